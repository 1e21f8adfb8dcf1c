import Derived.Test.YtbhfleilgjonpaaDXDabitComesx1
import Derived.Test.YtbhfleilgjonpaaDXDabitComesx4
import Derived.Test.YtbhfleilgjonpaaDXDabitComesx7
import Derived.Test.YtbhfleilgjonpaaDXDabitComesx8
import Derived.Test.YtbhfleilgjonpaaDXDabitComesPlain
namespace Go.Proofs.Ytbhfleilgjonpaa.XDabitComes
open Go Go.RowKit Go.Proofs.YtbhfleilgjonpaaW.PrintWords Go.Proofs.YtbhfleilgjonpaaArith
set_option linter.unusedVariables false
set_option linter.unusedSimpArgs false
def xs (l : Nat) (ns : List Int) (i : Nat) : List Int := (List.range i).map fun j => ns.getD j 0 % ((2 ^ l : Nat) : Int)
def ys (l : Nat) (us vs : List Bool) (ns : List Int) (i : Nat) : List Int := (List.range i).map fun j => pr l (us.getD j false) (vs.getD j false) (ns.getD j 0 % ((2 ^ l : Nat) : Int))
theorem xs_succ (l : Nat) (ns : List Int) (i : Nat) : xs l ns i ++ [ns.getD i 0 % ((2 ^ l : Nat) : Int)] = xs l ns (i + 1) := by simp [xs, List.range_succ]
theorem ys_succ (l : Nat) (us vs : List Bool) (ns : List Int) (i : Nat) : ys l us vs ns i ++ [pr l (us.getD i false) (vs.getD i false) (ns.getD i 0 % ((2 ^ l : Nat) : Int))] = ys l us vs ns (i + 1) := by simp [ys, List.range_succ]
theorem xs_length (l : Nat) (ns : List Int) (i : Nat) : (xs l ns i).length = i := by simp [xs]
theorem ys_length (l : Nat) (us vs : List Bool) (ns : List Int) (i : Nat) : (ys l us vs ns i).length = i := by simp [ys]
theorem range_mod (x : Int) (l : Nat) (h : l ≤ 64) : U (x % ((2 ^ l : Nat) : Int)) ∧ x % ((2 ^ l : Nat) : Int) < ((2 ^ l : Nat) : Int) := by
  refine ⟨U_emod _ l h, Int.emod_lt_of_pos _ ?_⟩
  have := Nat.two_pow_pos l
  omega
theorem rd_fin (l : Nat) (vs : List Bool) (ps : List Int) (n i : Nat) (h : i < n) : rd_T31 (fin l vs ps n) (i : Int) = sh1 l (vs.getD i false) (ps.getD i 0) := by
  unfold rd_T31 fin
  rw [Int.toNat_natCast, List.getD_eq_getElem?_getD, List.getElem?_map, List.getElem?_range h]
  rfl
theorem xs_getD (l : Nat) (ns : List Int) (n i : Nat) (h : i < n) : (xs l ns n).getD i 0 = ns.getD i 0 % ((2 ^ l : Nat) : Int) := by
  unfold xs
  rw [List.getD_eq_getElem?_getD, List.getElem?_map, List.getElem?_range h]
  rfl
theorem ys_getD (l : Nat) (us vs : List Bool) (ns : List Int) (n i : Nat) (h : i < n) : (ys l us vs ns n).getD i 0 = pr l (us.getD i false) (vs.getD i false) (ns.getD i 0 % ((2 ^ l : Nat) : Int)) := by
  unfold ys
  rw [List.getD_eq_getElem?_getD, List.getElem?_map, List.getElem?_range h]
  rfl
theorem last_loop (l : Nat) (h : 1 ≤ l ∧ l ≤ 64) (us vs : List Bool) (ns : List Int) (n : Nat) (hn : n ≤ 24) (d : Nat) : ∀ i, i + d = n → ∀ K, 90 + d < K →
    trefoillaw25_DabitComes.l1 K (l : Int) (n : Int) (fin l us (xs l ns n) n) (fin l vs (ys l us vs ns n) n) (i : Int) 4 (l : Int) 0 0 0 = some true := by
  induction d with
  | zero =>
    intro i hi K hK
    obtain ⟨K, rfl⟩ : ∃ m, K = m + 1 := ⟨K - 1, by omega⟩
    simp only [trefoillaw25_DabitComes.l1]
    rw [if_neg (by omega), awake_is K (by omega)]
    rfl
  | succ d ih =>
    intro i hi K hK
    obtain ⟨K, rfl⟩ : ∃ m, K = m + 1 := ⟨K - 1, by omega⟩
    have hlt : i < n := by omega
    have e1 : wrap64 ((i : Int) + 1) = ((i + 1 : Nat) : Int) := by unfold wrap64; omega
    simp only [trefoillaw25_DabitComes.l1]
    rw [rd_fin l us _ n i hlt, rd_fin l vs _ n i hlt, xs_getD l ns n i hlt, ys_getD l us vs ns n i hlt, fin_length, fin_length, if_pos (by omega), if_pos (by omega), if_pos (by omega), if_pos (by omega)]
    have r1 := right_is l h (us.getD i false) (vs.getD i false) (ns.getD i 0 % ((2 ^ l : Nat) : Int)) K (by omega)
    have r2 := right2_is l h (us.getD i false) (vs.getD i false) (ns.getD i 0 % ((2 ^ l : Nat) : Int)) K (by omega)
    have v1 := valB_range l h.2 (us.getD i false) (ns.getD i 0 % ((2 ^ l : Nat) : Int))
    have v2 := valB_range l h.2 (vs.getD i false) (pr l (us.getD i false) (vs.getD i false) (ns.getD i 0 % ((2 ^ l : Nat) : Int)))
    have r3 := trefoilref03_Add.is l _ _ v1.1 v2.1 h.2 K (by omega)
    rw [comes l h] at r3
    have hr := nb_range (us.getD i false != vs.getD i false)
    show Option.bind (trefoilref25_Right.f K 4 (l : Int) 0 0 0 [nb (us.getD i false)] [valB l (us.getD i false) (ns.getD i 0 % ((2 ^ l : Nat) : Int))] [] [nb (vs.getD i false)] [valB l (vs.getD i false) (pr l (us.getD i false) (vs.getD i false) (ns.getD i 0 % ((2 ^ l : Nat) : Int)))] []) _ = _
    rw [r1, Option.bind_some, if_pos rfl]
    show Option.bind (dabit_Right.f K 4 (l : Int) 0 0 0 [nb (us.getD i false)] [valB l (us.getD i false) (ns.getD i 0 % ((2 ^ l : Nat) : Int))] [] [nb (vs.getD i false)] [valB l (vs.getD i false) (pr l (us.getD i false) (vs.getD i false) (ns.getD i 0 % ((2 ^ l : Nat) : Int)))] []) _ = _
    rw [r2, Option.bind_some, if_pos rfl, if_pos (by simp [sh1]), if_pos (by simp [sh1])]
    show Option.bind (trefoilref03_Add.f K (l : Int) (valB l (us.getD i false) (ns.getD i 0 % ((2 ^ l : Nat) : Int))) (valB l (vs.getD i false) (pr l (us.getD i false) (vs.getD i false) (ns.getD i 0 % ((2 ^ l : Nat) : Int))))) _ = _
    rw [r3, Option.bind_some, if_neg (by omega), e1]
    exact ih (i + 1) (by omega) K (by omega)
theorem first_loop (l : Nat) (h : 1 ≤ l ∧ l ≤ 64) (us vs : List Bool) (ns : List Int) (hU : ∀ x ∈ ns, U x) (hb : vs.length = us.length) (hn : us.length ≤ ns.length) (h1 : 1 ≤ us.length) (h24 : us.length ≤ 24) (d : Nat) : ∀ i, i + d = us.length → ∀ K, 130 + d < K →
    trefoillaw25_DabitComes.l0 K (l : Int) us vs ns (us.length : Int) ((us.take i).map sh0) ((vs.take i).map sh0) (xs l ns i) (ys l us vs ns i) (i : Int) 4 (l : Int) 0 0 0 = some true := by
  induction d with
  | zero =>
    intro i hi K hK
    obtain ⟨K, rfl⟩ : ∃ m, K = m + 1 := ⟨K - 1, by omega⟩
    obtain rfl : i = us.length := by omega
    simp only [trefoillaw25_DabitComes.l0]
    have f1 := finish_is l h us ⟨h1, h24⟩ (xs l ns us.length) (xs_length _ _ _) (by simp only [xs, List.mem_map]; rintro x ⟨j, _, rfl⟩; exact (range_mod _ l h.2).1) (by simp only [xs, List.mem_map]; rintro x ⟨j, _, rfl⟩; exact (range_mod _ l h.2).2) K (by omega)
    have f2 := finish_is l h vs ⟨by omega, by omega⟩ (ys l us vs ns us.length) (by rw [ys_length]; omega) (by simp only [ys, List.mem_map]; rintro x ⟨j, _, rfl⟩; exact (range_mod _ l h.2).1) (by simp only [ys, List.mem_map]; rintro x ⟨j, _, rfl⟩; exact (range_mod _ l h.2).2) K (by omega)
    rw [if_neg (by omega), List.take_of_length_le (by omega), List.take_of_length_le (by omega), f1, Option.bind_some, f2, Option.bind_some, hb]
    obtain ⟨K, rfl⟩ : ∃ m, K = m + 1 := ⟨K - 1, by omega⟩
    have := last_loop l h us vs ns us.length h24 us.length 0 (by omega) K (by omega)
    rw [show ((0 : Nat) : Int) = 0 from rfl] at this
    simp only [fin_length, trefoillaw25_DabitComes.j2]
    simp
    exact this
  | succ d ih =>
    intro i hi K hK
    obtain ⟨K, rfl⟩ : ∃ m, K = m + 1 := ⟨K - 1, by omega⟩
    have hlt : i < us.length := by omega
    have e1 : wrap64 ((i : Int) + 1) = ((i + 1 : Nat) : Int) := by unfold wrap64; omega
    have ea : rdOf false us (i : Int) = us.getD i false := rfl
    have eb : rdOf false vs (i : Int) = vs.getD i false := rfl
    have en : rd ns (i : Int) = ns.getD i 0 := rfl
    have hUn := hU _ (getD_mem (show i < ns.length by omega))
    have ta := take_map_snoc sh0 us i hlt
    have tb := take_map_snoc sh0 vs i (by omega)
    simp only [sh0] at ta tb
    simp only [trefoillaw25_DabitComes.l0]
    rw [ea, eb, en, e1]
    simp only [number_is, Option.bind_some]
    rw [trefoilref03_Fit.is l _ hUn h.2 K (by omega)]
    simp only [Option.bind_some]
    rw [if_pos (by omega), if_pos (by omega), if_pos (by omega), if_pos (by rw [List.length_map, List.length_take]; omega), if_pos (by omega), if_pos (by rw [List.length_map, List.length_take]; omega), if_pos (by omega), if_pos (by rw [xs_length]; omega)]
    have hr := range_mod (ns.getD i 0) l h.2
    have hp : ∀ q : Bool, trefoilref03_Sub.f K (l : Int) (nb q) (ns.getD i 0 % ((2 ^ l : Nat) : Int)) = some ((nb q - ns.getD i 0 % ((2 ^ l : Nat) : Int)) % ((2 ^ l : Nat) : Int)) := fun q => trefoilref03_Sub.is l _ _ (U_nb q) hr.1 h.2 K (by omega)
    have ec : ∀ q : Bool, rd [nb q] 0 = nb q := fun q => rfl
    simp only [ec, hp, Option.bind_some, List.length_cons, List.length_nil, ys_length]
    have hy := ys_succ l us vs ns i
    have goal := ih (i + 1) (by omega) K (by omega)
    rw [← ta, ← tb, ← xs_succ l ns i, ← hy] at goal
    unfold pr at goal
    cases hq : us.getD i false with
    | true =>
      rw [hq] at goal
      rw [if_pos rfl, if_pos (by omega), if_pos (by omega)]
      rw [Bool.true_and] at goal
      exact goal
    | false =>
      rw [hq] at goal
      rw [if_neg (by decide), if_pos (by omega), if_pos (by omega)]
      rw [Bool.false_and] at goal
      exact goal
theorem refcheck (b n : Int) (K : Nat) (hK : 1 ≤ K) : trefoilref25_Check.f K 4 b 0 0 0 n = some (if 1 ≤ b ∧ b ≤ 64 then (if n < 1 then 2 else if n > 24 then 2 else 0) else 11) := by
  obtain ⟨K, rfl⟩ : ∃ m, K = m + 1 := ⟨K - 1, by omega⟩
  unfold trefoilref25_Check.f
  rw [trefoilref09_Check.is, Option.bind_some]
  by_cases h : 1 ≤ b ∧ b ≤ 64
  · rw [cls4 b h, if_pos rfl, if_pos rfl, if_pos h]
    by_cases h1 : n < 1
    · rw [if_pos h1, if_pos h1]
    · rw [if_neg h1, if_neg h1]
      by_cases h2 : n > 24
      · rw [if_pos h2, if_pos h2]
      · rw [if_neg h2, if_neg h2]
  · have hc : clsErr 4 b 0 0 0 = 11 := by
      unfold clsErr
      rw [if_pos (by omega), if_neg (by rintro ⟨a1, a2, _⟩; exact h ⟨a1, a2⟩)]
    rw [hc, if_neg (by omega), if_neg h]
    rfl
theorem DabitComes_main (a0 : Int) (us vs : List Bool) (ns : List Int) (hU : ∀ x ∈ ns, U x) : trefoillaw25_DabitComes.f 300 a0 us vs ns = some true := by
  have hout : ∀ b : Bool, b = true → trefoillaw25_DabitComes.j0 300 a0 us vs ns (us.length : Int) b 4 a0 0 0 0 = some true := by
    intro b hb
    subst hb
    simp only [trefoillaw25_DabitComes.j0]
    rw [if_pos trivial, awake_is 299 (by omega)]
    rfl
  unfold trefoillaw25_DabitComes.f
  rw [refcheck a0 _ 300 (by omega), Option.bind_some]
  by_cases h : 1 ≤ a0 ∧ a0 ≤ 64
  · rw [if_pos h]
    by_cases h1 : (us.length : Int) < 1
    · rw [if_pos h1, if_neg (by omega)]
      exact hout true rfl
    · rw [if_neg h1]
      by_cases h2 : (us.length : Int) > 24
      · rw [if_pos h2, if_neg (by omega)]
        exact hout true rfl
      · rw [if_neg h2, if_pos rfl]
        by_cases h3 : (vs.length : Int) = (us.length : Int)
        · rw [if_pos h3]
          by_cases h4 : (ns.length : Int) < (us.length : Int)
          · exact hout _ (decide_eq_true h4)
          · rw [decide_eq_false h4]
            obtain ⟨l, rfl⟩ := Int.eq_ofNat_of_zero_le (show 0 ≤ a0 by omega)
            have := first_loop l ⟨by omega, by omega⟩ us vs ns hU (by omega) (by omega) (by omega) (by omega) us.length 0 (by omega) 299 (by omega)
            simp only [trefoillaw25_DabitComes.j0]
            rw [if_neg (by simp)]
            exact this
        · rw [if_neg h3]
          exact hout true rfl
  · rw [if_neg h, if_neg (by omega)]
    exact hout true rfl
theorem DabitComes_pure (a0 : Int) (l1 l2 : List Bool) (l3 : List Int) (w0 : (Lit.int .i64 a0).wf = true) (y1 : l1.length * 1 ≤ 140737488351232) (E1 : ∀ x ∈ l1, True) (y2 : l2.length * 1 ≤ 140737488351232) (E2 : ∀ x ∈ l2, True)
    (y3 : l3.length * 8 ≤ 140737488351232) (E3 : ∀ x ∈ l3, (Lit.int .u64 x).wf = true) : ∃ k, trefoillaw25_DabitComes.f k a0 l1 l2 l3 = some true :=
  ⟨300, DabitComes_main a0 l1 l2 l3 fun x hx => U_of_wf (E3 x hx)⟩
end Go.Proofs.Ytbhfleilgjonpaa.XDabitComes
