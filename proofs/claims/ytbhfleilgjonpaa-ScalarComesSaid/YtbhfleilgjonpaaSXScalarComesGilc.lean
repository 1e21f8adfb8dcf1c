import Derived.Test.YtbhfleilgjonpaaSXScalarComesx10
import Derived.Test.YtbhfleilgjonpaaSXScalarComesx11
import Derived.Test.YtbhfleilgjonpaaSXScalarComesx12
import Derived.Test.YtbhfleilgjonpaaSXScalarComesx5
import Derived.Test.YtbhfleilgjonpaaSXScalarComesx7
import Derived.Test.YtbhfleilgjonpaaSXScalarComesGilb
namespace Go.Proofs.Ytbhfleilgjonpaa.XScalarComes
open Go Go.RowKit Go.Proofs.YtbhfleilgjonpaaW.PrintWords Go.Proofs.YtbhfleilgjonpaaArith
set_option linter.unusedVariables false
set_option linter.unusedSimpArgs false
def sumTo : Nat → (Nat → Int) → Int
  | 0,_ => 0
  | j + 1,f => sumTo j f + f j
theorem zip_is (l : Nat) (h1 : 1 ≤ l) (h2 : l ≤ 64) (n : Nat) (f g : Nat → Int) : ring_AddAll.zip (l : Int) ((List.range n).map f) ((List.range n).map g) = some ((List.range n).map fun c => (f c + g c) % ((2 ^ l : Nat) : Int)) := by
  have gen : ∀ xs : List Nat,ring_AddAll.zip (l : Int) (xs.map f) (xs.map g) = some (xs.map fun c => (f c + g c) % ((2 ^ l : Nat) : Int)) := by
    intro xs
    induction xs with
    | nil => rfl
    | cons x xs ih =>
      rw [List.map_cons,List.map_cons,ring_AddAll.zip,ring_Add.is l _ _ h1 h2,Option.bind_some,ih,Option.bind_some,mod_mod_pow _ l h2]
      rfl
  exact gen _
theorem slice_is (xs : List Int) (p n : Nat) (h : p + n ≤ xs.length) : (xs.take (p + n)).drop p = (List.range n).map fun c => xs.getD (p + c) 0 := by
  apply List.ext_getElem
  · rw [List.length_drop,List.length_take,List.length_map,List.length_range];omega
  · intro c h1 h2
    rw [List.length_map,List.length_range] at h2
    rw [List.getElem_drop,List.getElem_take,List.getElem_map,List.getElem_range,List.getD_eq_getElem?_getD,List.getElem?_eq_getElem (by omega)]
    rfl
def fol (l n : Nat) (sh : List Int) (pos c : Nat) : Int := sumTo l (fun j => sh.getD (pos + j * n + c) 0) % ((2 ^ l : Nat) : Int)
theorem w64_nat (x : Nat) (h : x < 4611686018427387904) : wrap64 (x : Int) = (x : Int) := by unfold wrap64;omega
theorem fo_ar (p k n l L : Nat) (hk : k < l) (hl2 : l ≤ 64) (hl : p + l * n ≤ L) (hL : L < 4611686018427387904) :
    wrap64 ((p : Int) + wrap64 ((k : Int) * (n : Int))) = ((p + k * n : Nat) : Int) ∧ wrap64 ((p : Int) + wrap64 (wrap64 ((k : Int) + 1) * (n : Int))) = ((p + k * n + n : Nat) : Int) ∧ p + k * n + n ≤ L := by
  have h4 : (k + 1) * n = k * n + n := Nat.succ_mul _ _
  have h3 : k * n + n ≤ l * n := by rw [← h4];exact Nat.mul_le_mul_right _ hk
  have h5 : p + k * n + n ≤ L := by
    generalize k * n = q at *
    generalize l * n = r at *
    clear hL hk hl2 h4
    omega
  have b1 : k * n < 4611686018427387904 := Nat.lt_of_le_of_lt (by clear hL hk hl2 h4 hl;generalize k * n = q at *;omega) hL
  have b2 : p + k * n < 4611686018427387904 := Nat.lt_of_le_of_lt (by clear hL hk hl2 h4 hl;generalize k * n = q at *;omega) hL
  have b3 : p + k * n + n < 4611686018427387904 := Nat.lt_of_le_of_lt h5 hL
  have b4 : k * n + n < 4611686018427387904 := Nat.lt_of_le_of_lt (by clear hL hk hl2 h4 hl;generalize k * n = q at *;omega) hL
  have e0 : wrap64 ((k : Int) + 1) = ((k + 1 : Nat) : Int) := w64_nat (k + 1) (by clear hL hl h3 h4 h5 b1 b2 b3 b4;omega)
  rw [e0,← Int.natCast_mul,← Int.natCast_mul,h4,w64_nat _ b1,w64_nat _ b4,← Int.natCast_add,← Int.natCast_add,w64_nat _ b2,← Nat.add_assoc,w64_nat _ b3]
  exact ⟨rfl,rfl,h5⟩
theorem fold_row (l n : Nat) (h1 : 1 ≤ l) (h2 : l ≤ 64) (hn : n ≤ 6) (sh : List Int) (hs : sh.length < 4611686018427387904) (p : Nat) (hp : p + l * n ≤ sh.length) (acc : List Int) (d : Nat) : ∀ k,k + d = l → ∀ K,
    gilboa_Fold.l1 (K + d) (l : Int) (n : Int) sh acc (p : Int) ((List.range n).map fun c => sumTo k (fun j => sh.getD (p + j * n + c) 0) % ((2 ^ l : Nat) : Int)) (l : Int) (k : Int) =
    gilboa_Fold.l1 K (l : Int) (n : Int) sh acc (p : Int) ((List.range n).map fun c => fol l n sh p c) (l : Int) (l : Int) := by
  induction d with
  | zero =>
    intro k hk K
    obtain rfl : k = l := by omega
    rfl
  | succ d ih =>
    intro k hk K
    have ar := fo_ar p k n l sh.length (by clear hs hp;omega) h2 hp hs
    obtain ⟨a1,a2,a3⟩ := ar
    have e1 : wrap64 ((k : Int) + 1) = ((k + 1 : Nat) : Int) := by unfold wrap64;omega
    obtain ⟨F,hF⟩ : ∃ F,F = K + d := ⟨_,rfl⟩
    rw [show K + (d + 1) = F + 1 by omega]
    conv => lhs;unfold gilboa_Fold.l1
    have HS := Aside0.mk hs
    have A3 := Aside0.mk a3
    have HP := Aside0.mk hp
    rw [a1,a2]
    have c1 : (k : Int) < (l : Int) := by clear hs a1 a2 a3 hp ih;omega
    have c2 : (0 : Int) ≤ ((p + k * n : Nat) : Int) := Int.natCast_nonneg _
    have c3 : ((p + k * n : Nat) : Int) ≤ ((p + k * n + n : Nat) : Int) := Int.ofNat_le.2 (Nat.le_add_right _ _)
    have c4 : ((p + k * n + n : Nat) : Int) ≤ (sh.length : Int) := Int.ofNat_le.2 a3
    rw [if_pos c1,if_pos c2,if_pos c3,if_pos c4,Int.toNat_natCast,Int.toNat_natCast,slice_is sh _ _ a3]
    unfold ring_AddAll.f
    rw [if_pos (by simp),if_pos (by rw [List.length_map,List.length_range];clear hs a1 a2 a3 hp ih;omega),zip_is l h1 h2]
    simp only [Option.bind_some]
    rw [e1,hF]
    have := ih (k + 1) (by clear hs a1 a2 a3 hp ih;omega) K
    rw [← this]
    congr 1
    apply List.map_congr_left
    intro c _
    show _ = (sumTo k _ + _) % _
    rw [Int.add_emod,Int.emod_emod,← Int.add_emod]
def frow (l n : Nat) (sh : List Int) (i : Nat) : List Int := (List.range n).map fun c => fol l n sh (i * (l * n)) c
theorem frow_length (l n : Nat) (sh : List Int) (i : Nat) : (frow l n sh i).length = n := by simp [frow]
theorem fl_ar (i d cnt l n : Nat) (hi : i + (d + 1) = cnt) (hc : cnt ≤ 4096) (hl : l ≤ 64) (hn : n ≤ 6) :
    i * (l * n) + l * n = (i + 1) * (l * n) ∧ (i + 1) * (l * n) ≤ cnt * (l * n) ∧ cnt * (l * n) ≤ 1572864 ∧ l * n ≤ 384 ∧ i * n ≤ 24576 := by
  have h1 : l * n ≤ 64 * 6 := Nat.mul_le_mul hl hn
  have h2 : cnt * (l * n) ≤ 4096 * (64 * 6) := Nat.mul_le_mul hc h1
  have h3 : i * n ≤ 4096 * 6 := Nat.mul_le_mul (by omega) hn
  exact ⟨(Nat.succ_mul _ _).symm,Nat.mul_le_mul_right _ (by omega),by omega,by omega,by omega⟩
theorem fold_loop (l n : Nat) (h1 : 1 ≤ l) (h2 : l ≤ 64) (n1 : 1 ≤ n) (hn : n ≤ 6) (sh : List Int) (cnt : Nat) (hs : sh.length = cnt * (l * n)) (hc : cnt ≤ 4096) (d : Nat) : ∀ i,i + d = cnt → ∀ K,d * 66 < K →
    gilboa_Fold.l0 K (l : Int) (n : Int) sh ((List.range i).flatMap (frow l n sh)) ((i * (l * n) : Nat) : Int) = some ((List.range cnt).flatMap (frow l n sh),0) := by
  induction d with
  | zero =>
    intro i hi K hK
    obtain ⟨K,rfl⟩ : ∃ m,K = m + 1 := ⟨K - 1,by omega⟩
    obtain rfl : i = cnt := by omega
    simp only [gilboa_Fold.l0]
    rw [hs,if_neg (Int.lt_irrefl _)]
  | succ d ih =>
    intro i hi K hK
    obtain ⟨K,rfl⟩ : ∃ m,K = m + 1 + l + 1 := ⟨K - l - 2,by omega⟩
    obtain ⟨a1,a2,a3,a4,a5⟩ := fl_ar i d cnt l n hi hc h2 hn
    have hpos : 0 < l * n := Nat.mul_pos h1 n1
    have c1 : ((i * (l * n) : Nat) : Int) < ((cnt * (l * n) : Nat) : Int) := Int.ofNat_lt.2 (by omega)
    have hz : List.replicate n (0 : Int) = (List.range n).map fun c => sumTo 0 (fun j => sh.getD (i * (l * n) + j * n + c) 0) % ((2 ^ l : Nat) : Int) := by
      apply List.ext_getElem
      · simp
      · intro j hj1 hj2
        simp [sumTo]
    have hr := fold_row l n h1 h2 hn sh (by rw [hs];omega) (i * (l * n)) (by rw [hs];omega) ((List.range i).flatMap (frow l n sh)) l 0 (Nat.zero_add l) (K + 1)
    rw [← hz] at hr
    obtain ⟨F,hF⟩ : ∃ F,F = K + 1 + l := ⟨_,rfl⟩
    rw [← hF] at hr ⊢
    simp only [gilboa_Fold.l0]
    rw [hs,if_pos c1,if_pos (Int.natCast_nonneg n),if_pos (by rw [Int.toNat_natCast];omega),Int.toNat_natCast]
    rw [show ((0 : Nat) : Int) = 0 from rfl] at hr
    rw [hr]
    simp only [gilboa_Fold.l1]
    have hfl : ((List.range i).flatMap (frow l n sh)).length = i * n := by rw [flat_length (frow l n sh) n _ (fun j _ => frow_length l n sh j),List.length_range]
    rw [if_neg (Int.lt_irrefl _),if_pos (by rw [hfl,List.length_map,List.length_range];omega),← Int.natCast_mul,w64_nat (l * n) (by omega),← Int.natCast_add,w64_nat _ (by omega),a1]
    have := ih (i + 1) (by omega) K (by omega)
    rw [List.range_succ,List.flatMap_append] at this
    rw [← this]
    simp [frow]
theorem fold_is (l n : Nat) (h1 : 1 ≤ l) (h2 : l ≤ 64) (n1 : 1 ≤ n) (hn : n ≤ 6) (sh : List Int) (cnt : Nat) (hs : sh.length = cnt * (l * n)) (hc : cnt ≤ 4096) (hU : ∀ x ∈ sh,U x) (hF : ∀ x ∈ sh,x < ((2 ^ l : Nat) : Int)) (K : Nat) (hK : 300000 < K) :
    gilboa_Fold.f K (l : Int) (n : Int) sh = some ((List.range cnt).flatMap (frow l n sh),0) := by
  obtain ⟨K,rfl⟩ : ∃ m,K = m + 1 := ⟨K - 1,by omega⟩
  have b1 : l * n ≤ 64 * 6 := Nat.mul_le_mul h2 hn
  have b2 : cnt * (l * n) ≤ 4096 * (64 * 6) := Nat.mul_le_mul hc b1
  have hpos : 0 < l * n := Nat.mul_pos h1 n1
  have e1 : wrap64 ((l : Int) * (n : Int)) = ((l * n : Nat) : Int) := by rw [← Int.natCast_mul];exact w64_nat _ (by omega)
  have b3 : cnt * (l * n) / l ≤ cnt * (l * n) := Nat.div_le_self _ _
  obtain ⟨q,hq⟩ : ∃ q,q = cnt * (l * n) / l := ⟨_,rfl⟩
  have e2 : ((cnt * (l * n) : Nat) : Int) / (l : Int) = (q : Int) := by rw [hq];rfl
  rw [← hq] at b3
  have hlast := fold_loop l n h1 h2 n1 hn sh cnt hs hc cnt 0 (by omega) K (by omega)
  unfold gilboa_Fold.f
  rw [good_is l n h1 h2 n1 hn,Option.bind_some,if_pos rfl,e1,if_neg (by omega),hs,if_pos (by rw [Int.natCast_mul];exact Int.mul_emod_left _ _),ring_Fits.is l _ h1 h2 hU,all_fit l _ hF,Option.bind_some]
  simp only [gilboa_Fold.j0,Bool.not_true]
  rw [if_neg (by simp),if_neg (by omega),hs,e2,w64_nat _ (by omega),if_pos (by omega),if_pos (by omega)]
  simpa using hlast
def mine (l : Nat) (noise : List Int) (k : Nat) : Int := if 0 < noise.length then noise.getD (k % noise.length) 0 % ((2 ^ l : Nat) : Int) else 0
def want (n : Nat) (sp : List Int) (ch : List Bool) (k : Nat) : Int := if ch.getD (k / n) false = true then sp.getD k 0 else 0
def gets (l n : Nat) (sp : List Int) (ch : List Bool) (noise : List Int) (k : Nat) : Int := (want n sp ch k - mine l noise k) % ((2 ^ l : Nat) : Int)
theorem mine_U (l : Nat) (h2 : l ≤ 64) (noise : List Int) (k : Nat) : U (mine l noise k) := by
  unfold mine
  by_cases h : 0 < noise.length
  · rw [if_pos h];exact U_emod _ l h2
  · rw [if_neg h];exact ⟨by omega,by omega⟩
theorem split_loop (l n : Nat) (h2 : l ≤ 64) (n1 : 1 ≤ n) (sp : List Int) (ch : List Bool) (noise : List Int) (hsp : ∀ x ∈ sp,U x) (hno : ∀ x ∈ noise,U x) (hl : sp.length ≤ 2000000) (d : Nat) : ∀ i,i + d = sp.length → ∀ K,70 + d < K →
    trefoilref22_Split.l0 K (l : Int) (n : Int) sp ch noise ((List.range i).map (mine l noise)) ((List.range i).map (gets l n sp ch noise)) (i : Int) = some ((List.range sp.length).map (mine l noise),(List.range sp.length).map (gets l n sp ch noise)) := by
  induction d with
  | zero =>
    intro i hi K hK
    obtain ⟨K,rfl⟩ : ∃ m,K = m + 1 := ⟨K - 1,by omega⟩
    obtain rfl : i = sp.length := by omega
    simp only [trefoilref22_Split.l0]
    rw [if_neg (by omega)]
  | succ d ih =>
    intro i hi K hK
    obtain ⟨K,rfl⟩ : ∃ m,K = m + 1 := ⟨K - 1,by omega⟩
    have e1 : wrap64 ((i : Int) + 1) = ((i + 1 : Nat) : Int) := by unfold wrap64;omega
    have hdv : i / n ≤ i := Nat.div_le_self _ _
    have e2 : wrap64 (Int.tdiv (i : Int) (n : Int)) = ((i / n : Nat) : Int) := by
      rw [show Int.tdiv (i : Int) (n : Int) = ((i / n : Nat) : Int) from rfl]
      exact w64_nat _ (by omega)
    have hUs := hsp _ (getD_mem (show i < sp.length by omega))
    have hU0 : U 0 := ⟨by omega,by omega⟩
    have hm := mine_U l h2 noise i
    have goal := ih (i + 1) (by omega) K (by omega)
    rw [List.range_succ,List.map_append,List.map_append,List.map_singleton,List.map_singleton] at goal
    have hlen : ∀ f : Nat → Int,((List.range i).map f).length < 17592186044416 := fun f => by rw [List.length_map,List.length_range];omega
    have ht : ∀ v,U v → trefoilref03_Sub.f K (l : Int) v (mine l noise i) = some ((v - mine l noise i) % ((2 ^ l : Nat) : Int)) := fun v hv => trefoilref03_Sub.is l v _ hv hm h2 K (by omega)
    have hw : ∀ (A : Int → Option (List Int × List Int)),(if ((i / n : Nat) : Int) < (ch.length : Int) then (if 0 ≤ ((i / n : Nat) : Int) then (if rdOf false ch ((i / n : Nat) : Int) = true then A (sp.getD i 0) else A 0) else none) else A 0) = A (want n sp ch i) := by
      intro A
      unfold want
      rw [show rdOf false ch ((i / n : Nat) : Int) = ch.getD (i / n) false from rfl]
      by_cases h : i / n < ch.length
      · rw [if_pos (Int.ofNat_lt.2 h),if_pos (Int.natCast_nonneg _)]
        by_cases h3 : ch.getD (i / n) false = true
        · rw [if_pos h3,if_pos h3]
        · rw [if_neg h3,if_neg h3]
      · rw [if_neg (fun h4 => h (Int.ofNat_lt.1 h4)),List.getD_eq_getElem?_getD,List.getElem?_eq_none (Nat.le_of_not_lt h)]
        rfl
    have hwU : U (want n sp ch i) := by
      unfold want
      by_cases h3 : ch.getD (i / n) false = true
      · rw [if_pos h3];exact hUs
      · rw [if_neg h3];exact hU0
    simp only [trefoilref22_Split.l0]
    rw [e1,e2,if_pos (by omega)]
    have fin0 : ∀ A : Int → Option (List Int × List Int),A = (fun v => if ((List.range i).map (mine l noise)).length < 17592186044416 then (trefoilref03_Sub.f K (l : Int) v (mine l noise i)).bind fun t => if ((List.range i).map (gets l n sp ch noise)).length < 17592186044416 then trefoilref22_Split.l0 K (l : Int) (n : Int) sp ch noise ((List.range i).map (mine l noise) ++ [mine l noise i]) ((List.range i).map (gets l n sp ch noise) ++ [t]) ((i + 1 : Nat) : Int) else none else none) → (if ((i / n : Nat) : Int) < (ch.length : Int) then (if 0 ≤ ((i / n : Nat) : Int) then (if rdOf false ch ((i / n : Nat) : Int) = true then A (sp.getD i 0) else A 0) else none) else A 0) = some ((List.range sp.length).map (mine l noise),(List.range sp.length).map (gets l n sp ch noise)) := by
      intro A hA
      rw [hw A,hA]
      show (if _ then _ else _) = _
      rw [if_pos (hlen _),ht _ hwU,Option.bind_some,if_pos (hlen _)]
      exact goal
    have fin := fin0 _ rfl
    clear fin0
    by_cases hz : 0 < noise.length
    · have em : Int.tmod (i : Int) (noise.length : Int) = ((i % noise.length : Nat) : Int) := rfl
      have hmod := Nat.mod_lt i hz
      have hno' := hno _ (getD_mem hmod)
      have hmine : noise.getD (i % noise.length) 0 % ((2 ^ l : Nat) : Int) = mine l noise i := by unfold mine;rw [if_pos hz]
      rw [if_pos (by omega),if_neg (by omega),em,if_pos (by omega),if_pos (by omega),rd_nat,trefoilref03_Fit.is l _ hno' h2 K (by omega),Option.bind_some,if_neg (by omega),hmine,rd_nat]
      rw [← fin]
      simp only [Int.natCast_nonneg,if_true]
    · have hmine : (0 : Int) = mine l noise i := by unfold mine;rw [if_neg hz]
      rw [if_neg (by omega),if_neg (by omega),rd_nat]
      rw [← fin,← hmine]
      simp only [Int.natCast_nonneg,if_true]
theorem split_is (l n : Nat) (h2 : l ≤ 64) (n1 : 1 ≤ n) (sp : List Int) (ch : List Bool) (noise : List Int) (hsp : ∀ x ∈ sp,U x) (hno : ∀ x ∈ noise,U x) (hl : sp.length ≤ 2000000) (K : Nat) (hK : 2000100 < K) :
    trefoilref22_Split.f K (l : Int) (n : Int) sp ch noise = some ((List.range sp.length).map (mine l noise),(List.range sp.length).map (gets l n sp ch noise)) := by
  unfold trefoilref22_Split.f
  exact split_loop l n h2 n1 sp ch noise hsp hno hl sp.length 0 (by omega) K (by omega)
end Go.Proofs.Ytbhfleilgjonpaa.XScalarComes
