import Derived.Test.YtbhfleilgjonpaaSXScalarComesx12
import Derived.Test.YtbhfleilgjonpaaSXScalarComesx13
import Derived.Test.YtbhfleilgjonpaaSXScalarComesx3
import Derived.Test.YtbhfleilgjonpaaSXScalarComesx5
import Derived.Test.YtbhfleilgjonpaaSXScalarComesPlain
namespace Go.Proofs.Ytbhfleilgjonpaa.XScalarComes
open Go Go.RowKit Go.Proofs.YtbhfleilgjonpaaW.PrintWords Go.Proofs.YtbhfleilgjonpaaArith
set_option linter.unusedVariables false
set_option linter.unusedSimpArgs false
theorem sum_congr (M : Int) (n : Nat) (f g : Nat → Int) (h : ∀ j,j < n → f j % M = g j % M) : sumTo n f % M = sumTo n g % M := by
  induction n with
  | zero => rfl
  | succ n ih =>
    show (sumTo n f + f n) % M = (sumTo n g + g n) % M
    rw [Int.add_emod,ih (fun j hj => h j (by omega)),h n (by omega),← Int.add_emod]
theorem sum_add (n : Nat) (f g : Nat → Int) : sumTo n f + sumTo n g = sumTo n fun j => f j + g j := by
  induction n with
  | zero => rfl
  | succ n ih =>
    show (sumTo n f + f n) + (sumTo n g + g n) = sumTo n (fun j => f j + g j) + (f n + g n)
    rw [← ih]
    omega
theorem sum_bits (a b : Int) (ha : 0 ≤ a) (n : Nat) : (sumTo n fun j => if bt a j = true then b * ((2 ^ j : Nat) : Int) else 0) = b * ((a.toNat % 2 ^ n : Nat) : Int) := by
  induction n with
  | zero => simp [sumTo,Nat.mod_one]
  | succ n ih =>
    show (sumTo n fun j => if bt a j = true then b * ((2 ^ j : Nat) : Int) else 0) + (if bt a n = true then b * ((2 ^ n : Nat) : Int) else 0) = _
    rw [ih,mod_succ,Int.natCast_add,Int.mul_add]
    congr 1
    unfold bt
    rw [Nat.testBit_eq_decide_div_mod_eq]
    rcases Nat.mod_two_eq_zero_or_one (a.toNat / 2 ^ n) with h | h
    · rw [h,if_neg (by simp)];simp
    · rw [h,if_pos (by simp),Nat.mul_one]
theorem sum_bits_all (l : Nat) (a b : Int) (ha : F l a) : (sumTo l fun j => if bt a j = true then b * ((2 ^ j : Nat) : Int) else 0) = a * b := by
  rw [sum_bits a b ha.1,Nat.mod_eq_of_lt (by have := ha.1;have := ha.2;omega),Int.mul_comm,Int.toNat_of_nonneg ha.1]
def thd (l : Nat) (p : Int × Int) (x : Int) : Int := (p.1 * p.2 + x) % ((2 ^ l : Nat) : Int)
def sh3 (l : Nat) (p : Int × Int) (x : Int) : S31 := ⟨[p.1],[p.2],[thd l p x]⟩
def sumOf (l : Nat) (sh : List Int) (i : Nat) : Int := sumTo l (fun j => sh.getD (i * l + j) 0) % ((2 ^ l : Nat) : Int)
def finOf (l : Nat) (ps : List (Int × Int)) (X : Nat → Int) (n : Nat) : List S31 := (List.range n).map fun i => sh3 l (ps.getD i (0,0)) (X i)
theorem finOf_length (l : Nat) (ps : List (Int × Int)) (X : Nat → Int) (n : Nat) : (finOf l ps X n).length = n := by simp [finOf]
theorem finish_loop (l : Nat) (h1 : 1 ≤ l) (h2 : l ≤ 64) (ps : List (Int × Int)) (hl : ps.length ≤ 24) (X Y : Nat → Int) (m k n : Int) (d : Nat) : ∀ i,i + d = ps.length → ∀ K,d < K →
    scalar_Finish.l0 K (ps.map Prod.fst) (ps.map Prod.snd) ((List.range ps.length).map X) ((List.range ps.length).map Y) (finOf l ps (fun i => X i + Y i) i) (ps.length : Int) (i : Int) 1 (l : Int) m k n = some (finOf l ps (fun i => X i + Y i) ps.length,0) := by
  induction d with
  | zero =>
    intro i hi K hK
    obtain ⟨K,rfl⟩ : ∃ m,K = m + 1 := ⟨K - 1,by omega⟩
    obtain rfl : i = ps.length := by omega
    simp only [scalar_Finish.l0]
    rw [if_neg (by omega)]
  | succ d ih =>
    intro i hi K hK
    obtain ⟨K,rfl⟩ : ∃ m,K = m + 1 := ⟨K - 1,by omega⟩
    have hlt : i < ps.length := by omega
    have e1 : wrap64 ((i : Int) + 1) = ((i + 1 : Nat) : Int) := by unfold wrap64;omega
    have ea : rd (ps.map Prod.fst) (i : Int) = (ps.getD i (0,0)).1 := getD_map' Prod.fst (0,0) 0 ps i hlt
    have eb : rd (ps.map Prod.snd) (i : Int) = (ps.getD i (0,0)).2 := getD_map' Prod.snd (0,0) 0 ps i hlt
    have ex : rd ((List.range ps.length).map X) (i : Int) = X i := getD_map_range X ps.length i 0 hlt
    have ey : rd ((List.range ps.length).map Y) (i : Int) = Y i := getD_map_range Y ps.length i 0 hlt
    have g := ih (i + 1) (by omega) K (by omega)
    rw [show finOf l ps (fun i => X i + Y i) (i + 1) = finOf l ps (fun i => X i + Y i) i ++ [sh3 l (ps.getD i (0,0)) (X i + Y i)] from by simp [finOf,List.range_succ]] at g
    simp only [scalar_Finish.l0]
    rw [e1,ea,eb,ex,ey,if_pos (by omega),if_pos (by omega),if_pos (by rw [List.length_map];omega),if_pos (by rw [List.length_map];omega),ring_Mul.is l _ _ h1 h2,Option.bind_some,if_pos (by rw [List.length_map,List.length_range];omega),if_pos (by rw [List.length_map,List.length_range];omega),ring_Add.is l _ _ h1 h2,Option.bind_some,ring_Add.is l _ _ h1 h2,Option.bind_some,if_pos (by rw [finOf_length];omega),mod_mod_pow _ l h2,mod_mod_pow _ l h2,mod_mod_pow _ l h2,← Int.add_emod]
    exact g
theorem Finish_is (l : Nat) (h1 : 1 ≤ l) (h2 : l ≤ 64) (ps : List (Int × Int)) (hl : 1 ≤ ps.length ∧ ps.length ≤ 24) (hF : ∀ p ∈ ps,F l p.1 ∧ F l p.2) (s t : List Int) (hs : s.length = ps.length * l) (ht : t.length = ps.length * l) (fs : ∀ x ∈ s,F l x) (ft : ∀ x ∈ t,F l x) (K : Nat) (hK : 400000 ≤ K) :
    scalar_Finish.f K 1 (l : Int) 0 0 0 (ps.map sh2) s t = some (finOf l ps (fun i => sumOf l s i + sumOf l t i) ps.length,0) := by
  have fold1 : ∀ u : List Int,u.length = ps.length * l → (∀ x ∈ u,F l x) → gilboa_Fold.f K (l : Int) 1 u = some ((List.range ps.length).map (sumOf l u),0) := by
    intro u hu hf
    have := fold_is l 1 h1 h2 (by omega) (by omega) u ps.length (by rw [Nat.mul_one];exact hu) (by omega) (fun x hx => F_U h2 (hf x hx)) (fun x hx => (hf x hx).2) K (by omega)
    rw [show ((1 : Nat) : Int) = 1 from rfl] at this
    rw [this]
    congr 2
    rw [← List.flatMap_singleton' (List.map (sumOf l u) _),List.flatMap_map]
    congr 1
    funext i
    simp [frow,fol,sumOf]
  obtain ⟨K,rfl⟩ : ∃ m,K = m + 1 := ⟨K - 1,by omega⟩
  unfold scalar_Finish.f
  rw [parts_is l h1 h2 ps hl hF _ (by omega),Option.bind_some,if_pos rfl,fold1 s hs fs,Option.bind_some,if_pos rfl,fold1 t ht ft,Option.bind_some,if_pos rfl,if_pos (by simp)]
  simp only [scalar_Finish.j0]
  rw [if_neg (by simp),if_pos (by omega),if_pos (by rw [List.length_map];omega),List.length_map]
  exact finish_loop l h1 h2 ps hl.2 (sumOf l s) (sumOf l t) 0 0 0 ps.length 0 (by omega) K (by omega)
theorem sp_len (l : Nat) (ps : List (Int × Int)) : (spreadOf l ps).length = ps.length * l := by
  unfold spreadOf
  rw [flat_length (spr l) l _ (fun r hr => by obtain ⟨p,_,rfl⟩ := List.mem_map.1 hr;rw [spr_length];simp),List.length_map]
theorem sp_at (l : Nat) (ps : List (Int × Int)) (i j : Nat) (hi : i < ps.length) (hj : j < l) : (spreadOf l ps).getD (i * l + j) 0 = (ps.getD i (0,0)).2 * ((2 ^ j : Nat) : Int) % ((2 ^ l : Nat) : Int) := by
  unfold spreadOf
  rw [flat_getD (spr l) l 0 [] _ (fun r hr => by obtain ⟨p,_,rfl⟩ := List.mem_map.1 hr;rw [spr_length];simp) j hj i (by rw [List.length_map];exact hi)]
  rw [getD_map' (fun p : Int × Int => [p.2]) (0,0) [] ps i hi]
  unfold spr
  have := flat_getD (dbl l [(ps.getD i (0,0)).2]) 1 0 0 (List.range l) (fun j _ => dbl_length l _ j) 0 (by omega) j (by rw [List.length_range];exact hj)
  rw [Nat.mul_one,Nat.add_zero] at this
  rw [this,show (List.range l).getD j 0 = j from by rw [List.getD_eq_getElem?_getD,List.getElem?_range hj];rfl]
  rfl
theorem ch_at (l : Nat) (ps : List (Int × Int)) (i j : Nat) (hi : i < ps.length) (hj : j < l) : (chOf l ps).getD (i * l + j) false = bt (ps.getD i (0,0)).1 j := by
  unfold chOf
  rw [flat_getD (bitsOf l) l false 0 _ (fun r _ => bitsOf_length l r) j hj i (by rw [List.length_map];exact hi),getD_map' Prod.fst (0,0) 0 ps i hi]
  unfold bitsOf
  exact getD_map_range _ _ _ _ hj
theorem both_come (l : Nat) (h2 : l ≤ 64) (ps qs : List (Int × Int)) (hq : qs.length = ps.length) (hF : ∀ p ∈ ps,F l p.1 ∧ F l p.2) (noise : List Int) (i : Nat) (hi : i < ps.length) :
    (sumOf l ((List.range (ps.length * l)).map (mine l noise)) i + sumOf l ((List.range (qs.length * l)).map (gets l 1 (spreadOf l qs) (chOf l ps) noise)) i) % ((2 ^ l : Nat) : Int) = (ps.getD i (0,0)).1 * (qs.getD i (0,0)).2 % ((2 ^ l : Nat) : Int) := by
  have hb : ∀ j,j < l → i * l + j < ps.length * l := by
    intro j hj
    have : (i + 1) * l ≤ ps.length * l := Nat.mul_le_mul_right _ hi
    rw [Nat.succ_mul] at this
    omega
  unfold sumOf
  rw [← Int.add_emod,sum_add,← sum_bits_all l (ps.getD i (0,0)).1 (qs.getD i (0,0)).2 (hF _ (mem_getD ps i hi)).1]
  apply sum_congr
  intro j hj
  show ((List.map (mine l noise) (List.range (ps.length * l))).getD (i * l + j) 0 + (List.map (gets l 1 (spreadOf l qs) (chOf l ps) noise) (List.range (qs.length * l))).getD (i * l + j) 0) % _ = _
  rw [getD_map_range _ _ _ _ (hb j hj),getD_map_range _ _ _ _ (by rw [hq];exact hb j hj)]
  unfold gets want
  rw [Nat.div_one,ch_at l ps i j hi hj,sp_at l qs i j (by omega) hj]
  rw [Int.add_emod,Int.emod_emod,← Int.add_emod]
  by_cases h : bt (ps.getD i (0,0)).1 j = true
  · rw [if_pos h,if_pos h,show mine l noise (i * l + j) + ((qs.getD i (0,0)).2 * ((2 ^ j : Nat) : Int) % ((2 ^ l : Nat) : Int) - mine l noise (i * l + j)) = (qs.getD i (0,0)).2 * ((2 ^ j : Nat) : Int) % ((2 ^ l : Nat) : Int) by omega,Int.emod_emod]
  · rw [if_neg h,if_neg h,show mine l noise (i * l + j) + (0 - mine l noise (i * l + j)) = 0 by omega]
end Go.Proofs.Ytbhfleilgjonpaa.XScalarComes
