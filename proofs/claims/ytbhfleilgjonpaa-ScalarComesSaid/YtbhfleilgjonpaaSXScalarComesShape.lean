import Derived.Test.YtbhfleilgjonpaaSXScalarComesx1
import Derived.Test.YtbhfleilgjonpaaSXScalarComesx14
import Derived.Test.YtbhfleilgjonpaaSXScalarComesx15
import Derived.Test.YtbhfleilgjonpaaSXScalarComesx3
import Derived.Test.YtbhfleilgjonpaaSXScalarComesx4
import Derived.Test.YtbhfleilgjonpaaSXScalarComesx5
import Derived.Test.YtbhfleilgjonpaaSXArith
namespace Go.Proofs.Ytbhfleilgjonpaa.XScalarComes
open Go Go.RowKit Go.Proofs.YtbhfleilgjonpaaW.PrintWords Go.Proofs.YtbhfleilgjonpaaArith
set_option linter.unusedVariables false
set_option linter.unusedSimpArgs false
def side6 (n : Int) : Bool := decide (1 ≤ n ∧ n ≤ 6)
def clsErr (kd b m k n : Int) : Int :=
  if 1 ≤ kd ∧ kd ≤ 4 then (if 1 ≤ b ∧ b ≤ 64 ∧ (kd = 3 → b = 1) ∧ (if kd = 2 then (side6 m && side6 k && side6 n) = true else m = 0 ∧ k = 0 ∧ n = 0) then 0 else 11) else 15
theorem trefoilref09_in.is (a b : Int) : trefoilref09_in.f a b = some (decide (1 ≤ a ∧ a ≤ b)) := by
  unfold trefoilref09_in.f
  by_cases h : a ≥ 1
  · rw [if_pos h];congr 1;simp;omega
  · rw [if_neg h];congr 1;simp;omega
theorem shape_side.is (a : Int) : shape_side.f a = some (side6 a) := by
  unfold shape_side.f side6
  by_cases h : a ≥ 1
  · rw [if_pos h];congr 1;simp;omega
  · rw [if_neg h];congr 1;simp;omega
theorem trefoilref09_Check.is (K : Nat) (kd b m k n : Int) : trefoilref09_Check.f (K + 1) kd b m k n = some (clsErr kd b m k n) := by
  unfold trefoilref09_Check.f
  simp only [trefoilref09_in.is,Option.bind_some,trefoilref09_Check.j0,decide_eq_true_eq]
  unfold clsErr side6
  by_cases h1 : 1 ≤ kd ∧ kd ≤ 4
  · rw [if_pos h1,if_pos h1]
    by_cases h2 : 1 ≤ b ∧ b ≤ 64
    · rw [if_pos h2]
      by_cases h3 : kd = 3
      · subst h3
        by_cases h4 : b = 1
        · subst h4
          simp
          by_cases hm : m = 0 <;> by_cases hk : k = 0 <;> by_cases hn : n = 0 <;> simp [hm,hk,hn]
        · simp [h4,show (b != 1) = true by simpa using h4]
      · rw [if_neg h3]
        simp only [Bool.false_eq_true,if_false]
        by_cases h5 : kd = 2
        · subst h5
          simp only [if_true]
          by_cases hm : 1 ≤ m ∧ m ≤ 6 <;> by_cases hk : 1 ≤ k ∧ k ≤ 6 <;> by_cases hn : 1 ≤ n ∧ n ≤ 6 <;> simp [hm,hk,hn,h2]
        · simp only [if_neg h5]
          by_cases hm : m = 0 <;> by_cases hk : k = 0 <;> by_cases hn : n = 0 <;> simp [hm,hk,hn,h2,h3]
    · rw [if_neg h2]
      simp only [if_true]
      rw [if_neg (by rintro ⟨a1,a2,_⟩;exact h2 ⟨a1,a2⟩)]
  · rw [if_neg h1,if_neg h1]
theorem shape_Check.is (K : Nat) (kd b m k n : Int) : shape_Check.f (K + 4) kd b m k n = some (clsErr kd b m k n) := by
  have j3 : ∀ (K : Nat) (x : Bool),shape_Check.j3 (K + 1) x = some (if x = true then 11 else 0) := by
    intro K x
    simp only [shape_Check.j3]
    cases x <;> rfl
  have j2 : ∀ (K : Nat) (x : Bool),shape_Check.j2 (K + 2) x kd b m k n = some (if x = true ∧ 1 ≤ b ∧ b ≤ 64 then 0 else 11) := by
    intro K x
    simp only [shape_Check.j2,j3]
    cases x
    · simp
    · by_cases h : b < 1
      · simp [h,show ¬ 1 ≤ b by omega]
      · by_cases h' : b > 64
        · simp [h,h',show 1 ≤ b by omega,show ¬ b ≤ 64 by omega]
        · simp [h,h',show 1 ≤ b by omega,show b ≤ 64 by omega]
  have j0 : ∀ (x : Bool),shape_Check.j0 (K + 4) x kd b m k n = some (if 1 ≤ kd ∧ kd ≤ 4 then (if 1 ≤ b ∧ b ≤ 64 ∧ (kd = 3 → b = 1) ∧ (if kd = 2 then (side6 m && side6 k && side6 n) = true else x = true) then 0 else 11) else 15) := by
    intro x
    simp only [shape_Check.j0,shape_side.is,Option.bind_some,j2,shape_Check.j1]
    by_cases h2 : kd = 2
    · subst h2
      simp
      cases side6 m <;> cases side6 k <;> cases side6 n <;> simp
    · rw [if_neg h2]
      by_cases h1 : kd = 1
      · subst h1
        simp
        cases x <;> simp
      · rw [if_neg h1]
        by_cases h4 : kd = 4
        · subst h4
          simp
          cases x <;> simp
        · have e4 : (kd == 4) = false := by simpa using h4
          rw [e4]
          by_cases h3 : kd = 3
          · subst h3
            by_cases hb : b = 1
            · subst hb
              cases x <;> simp
            · cases x <;> simp [hb]
          · simp [h3,show ¬ (1 ≤ kd ∧ kd ≤ 4) by omega]
  unfold shape_Check.f
  simp only [j0]
  unfold clsErr
  by_cases hm : m = 0
  · rw [if_pos hm]
    by_cases hk : k = 0
    · rw [if_pos hk]
      by_cases hn : n = 0
      · simp [hm,hk,hn]
      · simp [hm,hk,hn,show (n == 0) = false by simpa using hn]
    · simp [hm,hk]
  · simp [hm]
def sizes (kd m k n : Int) : Int × Int × Int := if kd = 2 then (m * k,k * n,m * n) else if kd = 4 then (1,1,0) else (1,1,1)
def widths (kd b : Int) : Int × Int × Int := if kd = 4 then (1,b,b) else (b,b,b)
theorem sides_of {kd b m k n : Int} (h : clsErr kd b m k n = 0) : 1 ≤ kd ∧ kd ≤ 4 ∧ 1 ≤ b ∧ b ≤ 64 ∧ (kd = 2 → 1 ≤ m ∧ m ≤ 6 ∧ 1 ≤ k ∧ k ≤ 6 ∧ 1 ≤ n ∧ n ≤ 6) := by
  unfold clsErr at h
  by_cases h1 : 1 ≤ kd ∧ kd ≤ 4
  · rw [if_pos h1] at h
    by_cases h2 : 1 ≤ b ∧ b ≤ 64 ∧ (kd = 3 → b = 1) ∧ (if kd = 2 then (side6 m && side6 k && side6 n) = true else m = 0 ∧ k = 0 ∧ n = 0)
    · obtain ⟨a1,a2,a3,a4⟩ := h2
      refine ⟨h1.1,h1.2,a1,a2,fun e => ?_⟩
      rw [if_pos e] at a4
      simp [side6] at a4
      omega
    · rw [if_neg h2] at h
      exact absurd h (by omega)
  · rw [if_neg h1] at h
    exact absurd h (by omega)
theorem prod_le {a b : Int} (ha : 1 ≤ a ∧ a ≤ 6) (hb : 1 ≤ b ∧ b ≤ 6) : 1 ≤ a * b ∧ a * b ≤ 36 := by
  have h1 : a = 1 ∨ a = 2 ∨ a = 3 ∨ a = 4 ∨ a = 5 ∨ a = 6 := by omega
  rcases h1 with rfl | rfl | rfl | rfl | rfl | rfl <;> omega
theorem wrap64_small {x : Int} (h : 0 ≤ x ∧ x ≤ 4611686018427387904) : wrap64 x = x := by unfold wrap64;omega
theorem shape_Sizes.is (K : Nat) (kd b m k n : Int) (h : clsErr kd b m k n = 0) : shape_Sizes.f (K + 4) kd b m k n = some (sizes kd m k n) := by
  unfold shape_Sizes.f sizes
  rw [shape_Check.is,Option.bind_some,h,if_pos rfl]
  obtain ⟨_,_,_,_,h2⟩ := sides_of h
  by_cases e : kd = 2
  · obtain ⟨a1,a2,a3,a4,a5,a6⟩ := h2 e
    have p1 := prod_le (a := m) (b := k) ⟨a1,a2⟩ ⟨a3,a4⟩
    have p2 := prod_le (a := k) (b := n) ⟨a3,a4⟩ ⟨a5,a6⟩
    have p3 := prod_le (a := m) (b := n) ⟨a1,a2⟩ ⟨a5,a6⟩
    rw [if_pos e,if_pos e,wrap64_small (by omega),wrap64_small (by omega),wrap64_small (by omega)]
  · rw [if_neg e,if_neg e]
    by_cases e4 : kd = 4
    · rw [if_pos e4,if_pos e4]
    · rw [if_neg e4,if_neg e4]
theorem shape_Widths.is (K : Nat) (kd b m k n : Int) (h : clsErr kd b m k n = 0) : shape_Widths.f (K + 4) kd b m k n = some (widths kd b) := by
  unfold shape_Widths.f widths
  rw [shape_Check.is,Option.bind_some,h,if_pos rfl]
  by_cases e4 : kd = 4
  · rw [if_pos e4,if_pos e4]
  · rw [if_neg e4,if_neg e4]
def fitW (w x : Int) : Bool := decide (x < ((2 ^ w.toNat : Nat) : Int))
theorem shr_zero (x : Int) (w : Nat) (hx : U x) (hw : w ≤ 64) : (shr .u64 x (w : Int) = 0) ↔ x < ((2 ^ w : Nat) : Int) := by
  obtain ⟨n,rfl,hn⟩ := U_nat hx
  rw [shr_nat n w hw]
  have h2 : 0 < 2 ^ w := Nat.two_pow_pos w
  constructor
  · intro h
    have h3 : n / 2 ^ w = 0 := Int.ofNat.inj h
    have := (Nat.div_eq_zero_iff).1 h3
    exact Int.ofNat_lt.2 (by omega)
  · intro h
    rw [Nat.div_eq_of_lt (Int.ofNat_lt.1 h)]
    rfl
theorem getD_mem {xs : List Int} {i : Nat} (h : i < xs.length) : xs.getD i 0 ∈ xs := by
  rw [List.getD_eq_getElem?_getD,List.getElem?_eq_getElem h]
  exact List.getElem_mem h
theorem rd_nat (xs : List Int) (i : Nat) : rd xs (i : Int) = xs.getD i 0 := rfl
theorem drop_all (p : Int → Bool) (xs : List Int) (i : Nat) (h : i < xs.length) : (xs.drop i).all p = (p (xs.getD i 0) && (xs.drop (i + 1)).all p) := by
  rw [List.drop_eq_getElem_cons h,List.all_cons,List.getD_eq_getElem?_getD,List.getElem?_eq_getElem h]
  rfl
theorem shape_fits.loop (w : Int) (xs : List Int) (hw : 1 ≤ w ∧ w ≤ 64) (hx : ∀ x ∈ xs,U x) (hl : xs.length ≤ 4611686018427387904) (d : Nat) : ∀ i,i + d = xs.length → ∀ K,d < K → shape_fits.l0 K w xs (xs.length : Int) (i : Int) = some ((xs.drop i).all (fitW w)) := by
  induction d with
  | zero =>
    intro i hi K hK
    obtain ⟨K,rfl⟩ : ∃ m,K = m + 1 := ⟨K - 1,by omega⟩
    simp only [shape_fits.l0]
    rw [if_neg (by omega),List.drop_eq_nil_of_le (by omega)]
    rfl
  | succ d ih =>
    intro i hi K hK
    obtain ⟨K,rfl⟩ : ∃ m,K = m + 1 := ⟨K - 1,by omega⟩
    have hlt : i < xs.length := by omega
    simp only [shape_fits.l0]
    have e1 : wrap64 ((i : Int) + 1) = ((i + 1 : Nat) : Int) := by unfold wrap64;omega
    have e2 : IntKind.u64.wrap w = w := IntWalk.u64_in w (by omega)
    have hU := hx _ (getD_mem hlt)
    rw [if_pos (by omega),if_pos (by omega),if_pos (by omega),e1,ih (i + 1) (by omega) K (by omega),drop_all _ xs i hlt,e2,rd_nat]
    by_cases h64 : w < 64
    · rw [if_pos h64,if_pos (by omega)]
      obtain ⟨v,rfl⟩ := Int.eq_ofNat_of_zero_le (show 0 ≤ w by omega)
      have hz := shr_zero (xs.getD i 0) v hU (by omega)
      by_cases hs : shr .u64 (xs.getD i 0) (v : Int) = 0
      · rw [if_pos hs]
        have : fitW (v : Int) (xs.getD i 0) = true := by simpa [fitW] using hz.1 hs
        rw [this]
        rfl
      · rw [if_neg hs]
        have : fitW (v : Int) (xs.getD i 0) = false := by
          have := fun h => hs (hz.2 h)
          simpa [fitW] using this
        rw [this]
        rfl
    · rw [if_neg h64]
      have : fitW w (xs.getD i 0) = true := by
        have e : w = 64 := by omega
        subst e
        have := hU.2
        simpa [fitW] using this
      rw [this]
      rfl
theorem shape_fits.is (n w : Int) (xs : List Int) (hw : 1 ≤ w ∧ w ≤ 64) (hx : ∀ x ∈ xs,U x) (hl : xs.length ≤ 4611686018427387904) (K : Nat) (hK : xs.length < K) : shape_fits.f K n w xs = some (decide ((xs.length : Int) = n) && xs.all (fitW w)) := by
  unfold shape_fits.f
  by_cases h : (xs.length : Int) = n
  · rw [if_pos h]
    have := shape_fits.loop w xs hw hx hl xs.length 0 (by omega) K hK
    rw [List.drop_zero] at this
    rw [show ((0 : Nat) : Int) = 0 from rfl] at this
    rw [this]
    simp [h]
  · rw [if_neg h]
    simp [h]
def fitsB (kd b m k n : Int) (x y z : List Int) : Bool :=
  decide (clsErr kd b m k n = 0) && ((decide ((x.length : Int) = (sizes kd m k n).1) && x.all (fitW (widths kd b).1)) && ((decide ((y.length : Int) = (sizes kd m k n).2.1) && y.all (fitW (widths kd b).2.1)) && (decide ((z.length : Int) = (sizes kd m k n).2.2) && z.all (fitW (widths kd b).2.2))))
theorem widths_ok {kd b m k n : Int} (h : clsErr kd b m k n = 0) : (1 ≤ (widths kd b).1 ∧ (widths kd b).1 ≤ 64) ∧ (1 ≤ (widths kd b).2.1 ∧ (widths kd b).2.1 ≤ 64) ∧ (1 ≤ (widths kd b).2.2 ∧ (widths kd b).2.2 ≤ 64) := by
  obtain ⟨_,_,h3,h4,_⟩ := sides_of h
  unfold widths
  by_cases e : kd = 4
  · rw [if_pos e]
    exact ⟨⟨by omega,by omega⟩,⟨h3,h4⟩,⟨h3,h4⟩⟩
  · rw [if_neg e]
    exact ⟨⟨h3,h4⟩,⟨h3,h4⟩,⟨h3,h4⟩⟩
theorem shape_Fits.is (kd b m k n : Int) (x y z : List Int) (hx : ∀ u ∈ x,U u) (hy : ∀ u ∈ y,U u) (hz : ∀ u ∈ z,U u) (lx : x.length ≤ 4611686018427387904) (ly : y.length ≤ 4611686018427387904) (lz : z.length ≤ 4611686018427387904)
    (K : Nat) (h4 : 4 ≤ K) (h1 : x.length < K) (h2 : y.length < K) (h3 : z.length < K) : shape_Fits.f K kd b m k n x y z = some (fitsB kd b m k n x y z) := by
  obtain ⟨K,rfl⟩ : ∃ q,K = q + 4 := ⟨K - 4,by omega⟩
  unfold shape_Fits.f fitsB
  rw [shape_Check.is,Option.bind_some]
  by_cases h : clsErr kd b m k n = 0
  · rw [if_pos h,shape_Sizes.is K kd b m k n h,Option.bind_some,shape_Widths.is K kd b m k n h,Option.bind_some]
    obtain ⟨w1,w2,w3⟩ := widths_ok h
    rw [shape_fits.is _ _ x w1 hx lx _ h1,Option.bind_some,shape_fits.is _ _ y w2 hy ly _ h2,Option.bind_some,shape_fits.is _ _ z w3 hz lz _ h3,Option.bind_some]
    simp only [h,decide_true,Bool.true_and]
    cases (decide ((x.length : Int) = (sizes kd m k n).1) && x.all (fitW (widths kd b).1)) <;> cases (decide ((y.length : Int) = (sizes kd m k n).2.1) && y.all (fitW (widths kd b).2.1)) <;> simp
  · rw [if_neg h]
    simp [h]
theorem ref_shr (w : Nat) (x : Int) (hw : 1 ≤ w ∧ w ≤ 64) (hx : U x) : (shr .u64 (IntKind.u64.wrap (Int.tdiv x 2)) (IntKind.u64.wrap (wrap64 ((w : Int) - 1))) = 0) ↔ fitW (w : Int) x = true := by
  obtain ⟨n,rfl,hn⟩ := U_nat hx
  have e1 : Int.tdiv (n : Int) 2 = ((n / 2 : Nat) : Int) := rfl
  have e2 : wrap64 ((w : Int) - 1) = ((w - 1 : Nat) : Int) := by unfold wrap64;omega
  have e3 : IntKind.u64.wrap ((n / 2 : Nat) : Int) = ((n / 2 : Nat) : Int) := IntWalk.u64_in _ (by omega)
  have e4 : IntKind.u64.wrap ((w - 1 : Nat) : Int) = ((w - 1 : Nat) : Int) := IntWalk.u64_in _ (by omega)
  rw [e1,e2,e3,e4,shr_nat _ _ (by omega)]
  have h2 : 0 < 2 ^ (w - 1) := Nat.two_pow_pos _
  have e5 : n / 2 / 2 ^ (w - 1) = n / 2 ^ w := by
    rw [Nat.div_div_eq_div_mul,Nat.mul_comm,← Nat.pow_succ]
    congr 2
    omega
  rw [e5]
  have h3 : 0 < 2 ^ w := Nat.two_pow_pos w
  simp only [fitW,Int.toNat_natCast,decide_eq_true_eq]
  constructor
  · intro h
    have h4 : n / 2 ^ w = 0 := Int.ofNat.inj h
    have := (Nat.div_eq_zero_iff).1 h4
    exact Int.ofNat_lt.2 (by omega)
  · intro h
    rw [Nat.div_eq_of_lt (Int.ofNat_lt.1 h)]
    rfl
theorem trefoilref09_Fits.loop (ns ws : List Int) (ps : List (List Int)) (i : Nat) (xs : List Int) (w : Nat) (hp : ps.length = 3) (hi : i < 3) (hxs : ps.getD i [] = xs) (hws : ws.length = 3) (hw : ws.getD i 0 = (w : Int)) (hwb : 1 ≤ w ∧ w ≤ 64) (hx : ∀ x ∈ xs,U x)
    (hl : xs.length ≤ 4611686018427387904) (d : Nat) : ∀ j,j + d = xs.length → ∀ K,trefoilref09_Fits.l1 (K + 1 + d) ns ws ps (i : Int) (j : Int) = if (xs.drop j).all (fitW (w : Int)) = true then trefoilref09_Fits.l0 K ns ws ps ((i + 1 : Nat) : Int) else some false := by
  have hrl : rd_L1 ps (i : Int) = xs := hxs
  have hrw : rd ws (i : Int) = (w : Int) := hw
  have e0 : wrap64 ((i : Int) + 1) = ((i + 1 : Nat) : Int) := by unfold wrap64;omega
  induction d with
  | zero =>
    intro j hj K
    simp only [Nat.add_zero,trefoilref09_Fits.l1]
    rw [hrl,if_pos (by omega),if_pos (by omega),if_neg (by omega),e0,List.drop_eq_nil_of_le (by omega)]
    rfl
  | succ d ih =>
    intro j hj K
    have hlt : j < xs.length := by omega
    rw [show K + 1 + (d + 1) = (K + 1 + d) + 1 by omega]
    simp only [trefoilref09_Fits.l1]
    have e1 : wrap64 ((j : Int) + 1) = ((j + 1 : Nat) : Int) := by unfold wrap64;omega
    have c1 : (0 : Int) ≤ (i : Int) := Int.natCast_nonneg _
    have c2 : (i : Int) < (ps.length : Int) := by rw [hp];exact Int.ofNat_lt.2 hi
    have c3 : (j : Int) < (xs.length : Int) := Int.ofNat_lt.2 hlt
    have c4 : (0 : Int) ≤ (j : Int) := Int.natCast_nonneg _
    have c5 : (i : Int) < (ws.length : Int) := by rw [hws];exact Int.ofNat_lt.2 hi
    have e4 : (0 : Int) ≤ IntKind.u64.wrap (wrap64 ((w : Int) - 1)) := (U_wrap _).1
    have hU := hx _ (getD_mem hlt)
    rw [hrl,hrw,if_pos c1,if_pos c2,if_pos c3,if_pos c4,if_pos c5,if_pos e4,e1,ih (j + 1) (by omega) K,drop_all _ xs j hlt,rd_nat]
    have hz := ref_shr w (xs.getD j 0) hwb hU
    by_cases hs : fitW (w : Int) (xs.getD j 0) = true
    · rw [if_pos (hz.2 hs),hs,Bool.true_and]
    · rw [if_neg (fun h => hs (hz.1 h))]
      have : fitW (w : Int) (xs.getD j 0) = false := by simpa using hs
      rw [this]
      rfl
theorem trefoilref09_Fits.row (ns ws : List Int) (ps : List (List Int)) (i : Nat) (xs : List Int) (n w : Int) (hp : ps.length = 3) (hi : i < 3) (hxs : ps.getD i [] = xs) (hns : ns.length = 3) (hn : ns.getD i 0 = n) (hws : ws.length = 3) (hw : ws.getD i 0 = w) (hwb : 1 ≤ w ∧ w ≤ 64) (hx : ∀ x ∈ xs,U x)
    (hl : xs.length ≤ 4611686018427387904) (K : Nat) : trefoilref09_Fits.l0 (K + 2 + xs.length) ns ws ps (i : Int) = if (decide ((xs.length : Int) = n) && xs.all (fitW w)) = true then trefoilref09_Fits.l0 K ns ws ps ((i + 1 : Nat) : Int) else some false := by
  have hrl : rd_L1 ps (i : Int) = xs := hxs
  have hrn : rd ns (i : Int) = n := hn
  obtain ⟨v,rfl⟩ := Int.eq_ofNat_of_zero_le (show 0 ≤ w by omega)
  have hlp := trefoilref09_Fits.loop ns ws ps i xs v hp hi hxs hws hw (by omega) hx hl xs.length 0 (by omega) K
  rw [List.drop_zero,show ((0 : Nat) : Int) = 0 from rfl] at hlp
  rw [show K + 2 + xs.length = (K + 1 + xs.length) + 1 by omega]
  simp only [trefoilref09_Fits.l0]
  rw [hrl,hrn,if_pos (by omega),if_pos (by omega),if_pos (by omega),if_pos (by omega),hlp]
  by_cases h : (xs.length : Int) = n
  · rw [if_pos h]
    simp [h]
  · rw [if_neg h]
    simp [h]
theorem trefoilref09_Fits.is (kd b m k n : Int) (x y z : List Int) (hx : ∀ u ∈ x,U u) (hy : ∀ u ∈ y,U u) (hz : ∀ u ∈ z,U u) (lx : x.length ≤ 4611686018427387904) (ly : y.length ≤ 4611686018427387904) (lz : z.length ≤ 4611686018427387904)
    (K : Nat) : trefoilref09_Fits.f (K + 7 + x.length + y.length + z.length) kd b m k n x y z = some (fitsB kd b m k n x y z) := by
  have hc : ∀ q,trefoilref09_Check.f (q + 7 + x.length + y.length + z.length) kd b m k n = some (clsErr kd b m k n) := fun q => by
    rw [show q + 7 + x.length + y.length + z.length = (q + 6 + x.length + y.length + z.length) + 1 by omega];exact trefoilref09_Check.is _ kd b m k n
  unfold trefoilref09_Fits.f fitsB trefoilref09_Sizes.f trefoilref09_Widths.f
  rw [hc,Option.bind_some]
  by_cases h : clsErr kd b m k n = 0
  · obtain ⟨w1,w2,w3⟩ := widths_ok h
    have hs : ∀ (g : List Int → Option Bool),((if kd = 2 then some [wrap64 (m * k),wrap64 (k * n),wrap64 (m * n)] else if kd = 4 then some [1,1,0] else some [1,1,1]).bind g) = g [(sizes kd m k n).1,(sizes kd m k n).2.1,(sizes kd m k n).2.2] := by
      intro g
      obtain ⟨_,_,_,_,h2⟩ := sides_of h
      unfold sizes
      by_cases e : kd = 2
      · obtain ⟨a1,a2,a3,a4,a5,a6⟩ := h2 e
        have p1 := prod_le (a := m) (b := k) ⟨a1,a2⟩ ⟨a3,a4⟩
        have p2 := prod_le (a := k) (b := n) ⟨a3,a4⟩ ⟨a5,a6⟩
        have p3 := prod_le (a := m) (b := n) ⟨a1,a2⟩ ⟨a5,a6⟩
        rw [if_pos e,if_pos e,wrap64_small (by omega),wrap64_small (by omega),wrap64_small (by omega),Option.bind_some]
      · rw [if_neg e,if_neg e]
        by_cases e4 : kd = 4
        · rw [if_pos e4,if_pos e4,Option.bind_some]
        · rw [if_neg e4,if_neg e4,Option.bind_some]
    have hw : ∀ (g : List Int → Option Bool),((if kd = 4 then some [1,b,b] else some [b,b,b]).bind g) = g [(widths kd b).1,(widths kd b).2.1,(widths kd b).2.2] := by
      intro g
      unfold widths
      by_cases e4 : kd = 4
      · rw [if_pos e4,if_pos e4,Option.bind_some]
      · rw [if_neg e4,if_neg e4,Option.bind_some]
    rw [if_pos h,Option.bind_some,if_pos h,hs,Option.bind_some,if_pos h,hw]
    generalize (sizes kd m k n).1 = n0
    generalize (sizes kd m k n).2.1 = n1
    generalize (sizes kd m k n).2.2 = n2
    generalize (widths kd b).1 = v0 at w1 ⊢
    generalize (widths kd b).2.1 = v1 at w2 ⊢
    generalize (widths kd b).2.2 = v2 at w3 ⊢
    have r0 := trefoilref09_Fits.row [n0,n1,n2] [v0,v1,v2] [x,y,z] 0 x n0 v0 rfl (by omega) rfl rfl rfl rfl rfl w1 hx lx (K + 5 + y.length + z.length)
    have r1 := trefoilref09_Fits.row [n0,n1,n2] [v0,v1,v2] [x,y,z] 1 y n1 v1 rfl (by omega) rfl rfl rfl rfl rfl w2 hy ly (K + 3 + z.length)
    have r2 := trefoilref09_Fits.row [n0,n1,n2] [v0,v1,v2] [x,y,z] 2 z n2 v2 rfl (by omega) rfl rfl rfl rfl rfl w3 hz lz (K + 1)
    have r3 : trefoilref09_Fits.l0 (K + 1) [n0,n1,n2] [v0,v1,v2] [x,y,z] ((2 + 1 : Nat) : Int) = some true := by
      simp only [trefoilref09_Fits.l0]
      rw [if_neg (by omega)]
    rw [show K + 5 + y.length + z.length + 2 + x.length = K + 7 + x.length + y.length + z.length by omega] at r0
    rw [show K + 3 + z.length + 2 + y.length = K + 5 + y.length + z.length by omega] at r1
    rw [show K + 1 + 2 + z.length = K + 3 + z.length by omega] at r2
    rw [show ((0 : Nat) : Int) = 0 from rfl] at r0
    rw [r0,show ((0 + 1 : Nat) : Int) = ((1 : Nat) : Int) from rfl,r1,show ((1 + 1 : Nat) : Int) = ((2 : Nat) : Int) from rfl,r2,r3]
    simp only [h,decide_true,Bool.true_and]
    generalize (decide ((x.length : Int) = n0) && x.all (fitW v0)) = q0
    generalize (decide ((y.length : Int) = n1) && y.all (fitW v1)) = q1
    generalize (decide ((z.length : Int) = n2) && z.all (fitW v2)) = q2
    cases q0 <;> cases q1 <;> cases q2 <;> rfl
  · rw [if_neg h]
    simp [h]
end Go.Proofs.Ytbhfleilgjonpaa.XScalarComes
