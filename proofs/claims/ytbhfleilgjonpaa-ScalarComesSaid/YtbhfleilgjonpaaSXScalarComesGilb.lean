import Derived.Test.YtbhfleilgjonpaaSXScalarComesx10
import Derived.Test.YtbhfleilgjonpaaSXScalarComesx3
import Derived.Test.YtbhfleilgjonpaaSXScalarComesx7
import Derived.Test.YtbhfleilgjonpaaSXScalarComesx8
import Derived.Test.YtbhfleilgjonpaaSXScalarComesx9
import Derived.Test.YtbhfleilgjonpaaSXScalarComesGil
namespace Go.Proofs.Ytbhfleilgjonpaa.XScalarComes
open Go Go.RowKit Go.Proofs.YtbhfleilgjonpaaW.PrintWords Go.Proofs.YtbhfleilgjonpaaArith
set_option linter.unusedVariables false
set_option linter.unusedSimpArgs false
theorem good_is (l n : Nat) (h1 : 1 ≤ l) (h2 : l ≤ 64) (n1 : 1 ≤ n) (n2 : n ≤ 6) : gilboa_good.f (l : Int) (n : Int) = some true := by
  unfold gilboa_good.f
  rw [if_pos (by omega),if_pos (by omega),if_pos (by omega),decide_eq_true (by omega)]
theorem flat_length {α β : Type} (f : α → List β) (n : Nat) (xs : List α) (h : ∀ x ∈ xs,(f x).length = n) : (xs.flatMap f).length = xs.length * n := by
  induction xs with
  | nil => simp
  | cons x xs ih =>
    rw [List.flatMap_cons,List.length_append,h x (by simp),ih (fun y hy => h y (by simp [hy])),List.length_cons,Nat.succ_mul]
    omega
theorem flat_getD {α β : Type} (f : α → List β) (n : Nat) (z : β) (za : α) (xs : List α) (h : ∀ x ∈ xs,(f x).length = n) (j : Nat) (hj : j < n) : ∀ i,i < xs.length → (xs.flatMap f).getD (i * n + j) z = (f (xs.getD i za)).getD j z := by
  induction xs with
  | nil => intro i hi;simp at hi
  | cons x xs ih =>
    intro i hi
    have hx := h x (by simp)
    rw [List.flatMap_cons]
    cases i with
    | zero =>
      rw [Nat.zero_mul,Nat.zero_add,List.getD_eq_getElem?_getD,List.getElem?_append_left (by omega),← List.getD_eq_getElem?_getD]
      rfl
    | succ i =>
      rw [List.getD_eq_getElem?_getD,List.getElem?_append_right (by rw [hx,Nat.succ_mul];omega),← List.getD_eq_getElem?_getD,hx,show (i + 1) * n + j - n = i * n + j by rw [Nat.succ_mul];omega,ih (fun y hy => h y (by simp [hy])) i (by simpa using hi)]
      rfl
theorem flat_take_snoc {β : Type} (f : Int → List β) (xs : List Int) (i : Nat) (h : i < xs.length) : (xs.take i).flatMap f ++ f (xs.getD i 0) = (xs.take (i + 1)).flatMap f := by
  rw [List.take_succ_eq_append_getElem h,List.flatMap_append,List.getD_eq_getElem?_getD,List.getElem?_eq_getElem h]
  simp
theorem choice_loop (l : Nat) (h1 : 1 ≤ l) (h2 : l ≤ 64) (xs : List Int) (hU : ∀ x ∈ xs,U x) (hl : xs.length ≤ 4096) (d : Nat) : ∀ i,i + d = xs.length → ∀ K,300000 + d < K →
    ∃ w,gilboa_Choices.l0 K (l : Int) ((xs.take i).flatMap (bitsOf l)) xs (xs.length : Int) (i : Int) = some (((xs.flatMap (bitsOf l)).length : Int),w,0) ∧ Holds w (xs.flatMap (bitsOf l)) (xs.flatMap (bitsOf l)).length := by
  have hlen : ∀ ys : List Int,ys.length ≤ 4096 → (ys.flatMap (bitsOf l)).length ≤ 262144 := by
    intro ys hy
    rw [flat_length (bitsOf l) l ys (fun x _ => bitsOf_length l x)]
    have := Nat.mul_le_mul hy h2
    omega
  induction d with
  | zero =>
    intro i hi K hK
    obtain ⟨K,rfl⟩ : ∃ m,K = m + 1 := ⟨K - 1,by omega⟩
    obtain ⟨w,hw,hh⟩ := bits_Of.is (xs.flatMap (bitsOf l)) (by have := hlen xs hl;omega) K (by have := hlen xs hl;omega)
    refine ⟨w,?_,hh⟩
    simp only [gilboa_Choices.l0]
    rw [if_neg (by omega),List.take_of_length_le (by omega),hw]
    rfl
  | succ d ih =>
    intro i hi K hK
    obtain ⟨K,rfl⟩ : ∃ m,K = m + 1 := ⟨K - 1,by omega⟩
    have e1 : wrap64 ((i : Int) + 1) = ((i + 1 : Nat) : Int) := by unfold wrap64;omega
    have hU' := hU _ (getD_mem (show i < xs.length by omega))
    simp only [gilboa_Choices.l0]
    rw [e1,if_pos (by omega),if_pos (by omega),if_pos (by omega),rd_nat,ring_Bits.is l _ hU' h1 h2 K (by omega),Option.bind_some]
    have hl1 := hlen (xs.take i) (by rw [List.length_take];omega)
    rw [if_pos (by rw [bitsOf_length];omega),flat_take_snoc (bitsOf l) xs i (by omega)]
    exact ih (i + 1) (by omega) K (by omega)
theorem all_fit (l : Nat) (xs : List Int) (hF : ∀ x ∈ xs,x < ((2 ^ l : Nat) : Int)) : (xs.all fun x => decide (x < ((2 ^ l : Nat) : Int))) = true := by
  rw [List.all_eq_true]
  exact fun x hx => decide_eq_true (hF x hx)
theorem choices_is (l : Nat) (h1 : 1 ≤ l) (h2 : l ≤ 64) (xs : List Int) (hU : ∀ x ∈ xs,U x) (hF : ∀ x ∈ xs,x < ((2 ^ l : Nat) : Int)) (hl : xs.length ≤ 4096) (K : Nat) (hK : 310000 < K) :
    ∃ w,gilboa_Choices.f K (l : Int) xs = some (((xs.flatMap (bitsOf l)).length : Int),w,0) ∧ Holds w (xs.flatMap (bitsOf l)) (xs.flatMap (bitsOf l)).length := by
  obtain ⟨K,rfl⟩ : ∃ m,K = m + 1 := ⟨K - 1,by omega⟩
  obtain ⟨w,hw,hh⟩ := choice_loop l h1 h2 xs hU hl xs.length 0 (by omega) K (by omega)
  refine ⟨w,?_,hh⟩
  unfold gilboa_Choices.f
  have hg := good_is l 1 h1 h2 (by omega) (by omega)
  rw [show ((1 : Nat) : Int) = 1 from rfl] at hg
  rw [hg,Option.bind_some,if_pos rfl,ring_Fits.is l xs h1 h2 hU,all_fit l xs hF,Option.bind_some]
  simp only [gilboa_Choices.j0,Bool.not_true]
  rw [if_neg (by simp)]
  exact hw
theorem scale_loop (l : Nat) (h1 : 1 ≤ l) (h2 : l ≤ 64) (c : Int) (xs : List Int) (hl : xs.length ≤ 4611686018427387904) (d : Nat) : ∀ i,i + d = xs.length → ∀ K,d < K →
    ring_Scale.l0 K (l : Int) c ((List.range xs.length).map fun j => if j < i then c * xs.getD j 0 % ((2 ^ l : Nat) : Int) else 0) xs (xs.length : Int) (i : Int) = some (xs.map fun x => c * x % ((2 ^ l : Nat) : Int)) := by
  induction d with
  | zero =>
    intro i hi K hK
    obtain ⟨K,rfl⟩ : ∃ m,K = m + 1 := ⟨K - 1,by omega⟩
    obtain rfl : i = xs.length := by omega
    simp only [ring_Scale.l0]
    rw [if_neg (by omega)]
    congr 1
    apply List.ext_getElem
    · simp
    · intro j hj1 hj2
      simp only [List.length_map] at hj2
      simp only [List.getElem_map,List.getElem_range]
      rw [if_pos hj2,List.getD_eq_getElem?_getD,List.getElem?_eq_getElem hj2]
      rfl
  | succ d ih =>
    intro i hi K hK
    obtain ⟨K,rfl⟩ : ∃ m,K = m + 1 := ⟨K - 1,by omega⟩
    have e1 : wrap64 ((i : Int) + 1) = ((i + 1 : Nat) : Int) := by unfold wrap64;omega
    simp only [ring_Scale.l0]
    rw [e1,if_pos (by omega),if_pos (by omega),if_pos (by omega),rd_nat,ring_Mul.is l _ _ h1 h2,Option.bind_some,mod_mod_pow _ l h2,if_pos (by rw [List.length_map,List.length_range];omega),Int.toNat_natCast,map_range_set]
    rw [show (fun j => if j = i then c * xs.getD i 0 % ((2 ^ l : Nat) : Int) else if j < i then c * xs.getD j 0 % ((2 ^ l : Nat) : Int) else 0) = fun j => if j < i + 1 then c * xs.getD j 0 % ((2 ^ l : Nat) : Int) else 0 from by
      funext j
      by_cases h : j = i
      · subst h
        rw [if_pos rfl,if_pos (by omega)]
      · rw [if_neg h]
        by_cases h3 : j < i
        · rw [if_pos h3,if_pos (by omega)]
        · rw [if_neg h3,if_neg (by omega)]]
    exact ih (i + 1) (by omega) K (by omega)
theorem scale_is (l : Nat) (h1 : 1 ≤ l) (h2 : l ≤ 64) (c : Int) (xs : List Int) (hl : xs.length ≤ 35184372088832) (K : Nat) (hK : xs.length < K) : ring_Scale.f K (l : Int) c xs = some (xs.map fun x => c * x % ((2 ^ l : Nat) : Int)) := by
  unfold ring_Scale.f
  rw [if_pos (by omega),if_pos (by omega),Int.toNat_natCast]
  have := scale_loop l h1 h2 c xs (by omega) xs.length 0 (by omega) K hK
  rw [show ((0 : Nat) : Int) = 0 from rfl] at this
  rw [← this]
  congr 1
  apply List.ext_getElem
  · simp
  · intro j hj1 hj2
    simp
def dbl (l : Nat) (row : List Int) (j : Nat) : List Int := row.map fun b => b * ((2 ^ j : Nat) : Int) % ((2 ^ l : Nat) : Int)
theorem dbl_length (l : Nat) (row : List Int) (j : Nat) : (dbl l row j).length = row.length := by simp [dbl]
theorem dbl_succ (l : Nat) (row : List Int) (j : Nat) : ((dbl l row j).map fun x => 2 * x % ((2 ^ l : Nat) : Int)) = dbl l row (j + 1) := by
  unfold dbl
  rw [List.map_map]
  apply List.map_congr_left
  intro b _
  show 2 * (b * ((2 ^ j : Nat) : Int) % ((2 ^ l : Nat) : Int)) % ((2 ^ l : Nat) : Int) = b * ((2 ^ (j + 1) : Nat) : Int) % ((2 ^ l : Nat) : Int)
  rw [Int.mul_emod,Int.emod_emod,← Int.mul_emod,Nat.pow_succ,Int.natCast_mul]
  congr 1
  rw [Int.mul_comm 2,Int.mul_assoc]
  rfl
def spr (l : Nat) (row : List Int) : List Int := (List.range l).flatMap (dbl l row)
theorem spr_length (l : Nat) (row : List Int) : (spr l row).length = l * row.length := by
  unfold spr
  rw [flat_length (dbl l row) row.length _ (fun j _ => dbl_length l row j),List.length_range]
theorem spread_row (l n : Nat) (h1 : 1 ≤ l) (h2 : l ≤ 64) (flat : List Int) (pos : Int) (row : List Int) (hr : row.length = n) (hn : n ≤ 6) (d : Nat) : ∀ j acc,j + d = l → acc.length + d * n < 17592186044416 → ∀ K,n < K →
    gilboa_Spread.l1 (K + d + 1) (l : Int) (n : Int) flat acc pos (dbl l row j) (l : Int) (j : Int) = gilboa_Spread.l0 K (l : Int) (n : Int) flat (acc ++ (List.range' j d).flatMap (dbl l row)) (wrap64 (pos + (n : Int))) := by
  induction d with
  | zero =>
    intro j acc hj ha K hK
    simp only [gilboa_Spread.l1]
    rw [if_neg (by omega)]
    simp
  | succ d ih =>
    intro j acc hj ha K hK
    have e1 : wrap64 ((j : Int) + 1) = ((j + 1 : Nat) : Int) := by unfold wrap64;omega
    have hd : (d + 1) * n = d * n + n := Nat.succ_mul _ _
    obtain ⟨F,hF⟩ : ∃ F,F = K + d + 1 := ⟨_,rfl⟩
    rw [show K + (d + 1) + 1 = F + 1 by omega]
    simp only [gilboa_Spread.l1]
    rw [e1,if_pos (by omega),if_pos (by rw [dbl_length];omega),scale_is l h1 h2 2 (dbl l row j) (by rw [dbl_length];omega) F (by rw [dbl_length];omega),Option.bind_some,dbl_succ,hF,ih (j + 1) _ (by omega) (by rw [List.length_append,dbl_length];omega) K hK,List.range'_succ,List.flatMap_cons,List.append_assoc]
theorem slice_mid {α : Type} (a b c : List α) : ((a ++ (b ++ c)).take (a.length + b.length)).drop a.length = b := by
  rw [List.take_append,List.drop_append]
  simp
theorem sp_ar (p n r l a q : Nat) (n1 : 1 ≤ n) (hl6 : l * n ≤ 384) (ha : a + (q + 1) * 384 < 17592186044416) (hf : p + (n + r) < 4611686018427387904) :
    ((p : Int) < ((p + (n + r) : Nat) : Int)) ∧ ((p : Int) ≤ ((p + n : Nat) : Int)) ∧ (((p + n : Nat) : Int) ≤ ((p + (n + r) : Nat) : Int)) ∧ wrap64 ((p : Int) + (n : Int)) = ((p + n : Nat) : Int) ∧ a + l * n < 17592186044416 ∧ (a + l * n) + q * 384 < 17592186044416 := by
  have h1 : wrap64 ((p : Int) + (n : Int)) = ((p + n : Nat) : Int) := by unfold wrap64;omega
  refine ⟨by omega,by omega,by omega,h1,?_,?_⟩
  · omega
  · have : (q + 1) * 384 = q * 384 + 384 := Nat.succ_mul _ _
    omega
theorem spread_loop (l n : Nat) (h1 : 1 ≤ l) (h2 : l ≤ 64) (n1 : 1 ≤ n) (hn : n ≤ 6) (rs : List (List Int)) : ∀ (pre : List (List Int)) (acc : List Int),(∀ r ∈ rs,r.length = n ∧ ∀ x ∈ r,0 ≤ x ∧ x < ((2 ^ l : Nat) : Int)) → acc.length + rs.length * 384 < 17592186044416 → (pre ++ rs).flatten.length < 4611686018427387904 → ∀ K,n + rs.length * 66 < K →
    gilboa_Spread.l0 K (l : Int) (n : Int) (pre ++ rs).flatten acc (pre.flatten.length : Int) = some (acc ++ rs.flatMap (spr l),0) := by
  induction rs with
  | nil =>
    intro pre acc hr ha hf K hK
    obtain ⟨K,rfl⟩ : ∃ m,K = m + 1 := ⟨K - 1,by omega⟩
    simp only [gilboa_Spread.l0,List.append_nil]
    rw [if_neg (by omega)]
    simp
  | cons r rs ih =>
    intro pre acc hr ha hf K hK
    obtain ⟨K,rfl⟩ : ∃ m,K = m + l + 1 + 1 := ⟨K - l - 2,by rw [List.length_cons] at hK;omega⟩
    have hrn := (hr r (by simp)).1
    have hl6 : l * n ≤ 384 := Nat.mul_le_mul h2 hn
    rw [List.length_cons] at ha hK
    have hfl : (pre ++ r :: rs).flatten = pre.flatten ++ (r ++ rs.flatten) := by simp
    have hlen : (pre ++ r :: rs).flatten.length = pre.flatten.length + (n + rs.flatten.length) := by rw [hfl,List.length_append,List.length_append,hrn]
    rw [hlen] at hf
    obtain ⟨c1,c3,c4,e1,a1,a2⟩ := sp_ar pre.flatten.length n rs.flatten.length l acc.length rs.length n1 hl6 ha hf
    have c2 : (0 : Int) ≤ (pre.flatten.length : Int) := Int.natCast_nonneg _
    have HF := Aside0.mk hf
    have HA1 := Aside0.mk a1
    have HA2 := Aside0.mk a2
    have hK1 : n < K := by clear hf ha a1 a2 c1 c3 c4 e1 c2 HF HA1 HA2 ih;omega
    have hK2 : n + rs.length * 66 < K := by clear hf ha a1 a2 c1 c3 c4 e1 c2 HF HA1 HA2 ih;omega
    clear hf ha a1 a2
    simp only [gilboa_Spread.l0]
    rw [e1,hlen,if_pos c1,if_pos c2,if_pos c3,if_pos c4,Int.toNat_natCast,Int.toNat_natCast]
    rw [show (((pre ++ r :: rs).flatten.take (pre.flatten.length + n)).drop pre.flatten.length) = r from by rw [hfl,← hrn];exact slice_mid _ _ _]
    have hsp : spr l r = (List.range' 0 l).flatMap (dbl l r) := by unfold spr;rw [List.range_eq_range']
    have hd0 : dbl l r 0 = r := by
      unfold dbl
      conv => rhs;rw [← List.map_id r]
      apply List.map_congr_left
      intro b hb
      have := (hr r (by simp)).2 b hb
      rw [Nat.pow_zero,show ((1 : Nat) : Int) = 1 from rfl,Int.mul_one,Int.emod_eq_of_lt this.1 this.2]
      rfl
    have hrow := spread_row l n h1 h2 (pre ++ r :: rs).flatten (pre.flatten.length : Int) r hrn hn l 0 acc (Nat.zero_add l) HA1.out K hK1
    rw [hd0,e1,← hsp] at hrow
    rw [show ((0 : Nat) : Int) = 0 from rfl] at hrow
    rw [hrow]
    have hpre : (pre ++ r :: rs) = ((pre ++ [r]) ++ rs) := by simp
    have hpl : (pre ++ [r]).flatten.length = pre.flatten.length + n := by rw [List.flatten_append,List.length_append];simp [hrn]
    have := ih (pre ++ [r]) (acc ++ spr l r) (fun y hy => hr y (by simp [hy])) (by rw [List.length_append,spr_length,hrn];exact HA2.out) (by rw [← hpre,hlen];exact HF.out) K hK2
    rw [← hpre,hpl] at this
    rw [this,List.flatMap_cons,List.append_assoc]
theorem spread_is (l n : Nat) (h1 : 1 ≤ l) (h2 : l ≤ 64) (n1 : 1 ≤ n) (hn : n ≤ 6) (rs : List (List Int)) (hr : ∀ r ∈ rs,r.length = n ∧ ∀ x ∈ r,0 ≤ x ∧ x < ((2 ^ l : Nat) : Int)) (hl : rs.length ≤ 4096) (K : Nat) (hK : 300000 < K) :
    gilboa_Spread.f K (l : Int) (n : Int) rs.flatten = some (rs.flatMap (spr l),0) := by
  obtain ⟨K,rfl⟩ : ∃ m,K = m + 1 := ⟨K - 1,by omega⟩
  have hp := pow_le l h2
  have hflat : rs.flatten.length = rs.length * n := by
    have := flat_length (fun r : List Int => r) n rs (fun r h => (hr r h).1)
    rwa [List.flatMap_id'] at this
  have hb : rs.length * n ≤ 4096 * 6 := Nat.mul_le_mul hl hn
  have hall : ∀ x ∈ rs.flatten,0 ≤ x ∧ x < ((2 ^ l : Nat) : Int) := by
    intro x hx
    obtain ⟨r,h3,h4⟩ := List.mem_flatten.1 hx
    exact (hr r h3).2 x h4
  have hlb : l * (rs.length * n) ≤ 64 * (4096 * 6) := Nat.mul_le_mul h2 hb
  have e1 : wrap64 ((l : Int) * ((rs.length * n : Nat) : Int)) = ((l * (rs.length * n) : Nat) : Int) := by
    rw [← Int.natCast_mul]
    unfold wrap64
    omega
  unfold gilboa_Spread.f
  rw [good_is l n h1 h2 n1 hn,Option.bind_some,if_pos rfl,if_neg (by omega),hflat,if_pos (by rw [Int.natCast_mul];exact Int.mul_emod_left _ _),ring_Fits.is l _ h1 h2 (fun x hx => ⟨(hall x hx).1,by have := (hall x hx).2;omega⟩),all_fit l _ (fun x hx => (hall x hx).2),Option.bind_some]
  simp only [gilboa_Spread.j0,Bool.not_true]
  rw [if_neg (by simp),hflat,e1,if_pos (by omega),if_pos (by omega)]
  have := spread_loop l n h1 h2 n1 hn rs [] [] hr (by simp;omega) (by simp only [List.nil_append];omega) K (by omega)
  simpa using this
end Go.Proofs.Ytbhfleilgjonpaa.XScalarComes
