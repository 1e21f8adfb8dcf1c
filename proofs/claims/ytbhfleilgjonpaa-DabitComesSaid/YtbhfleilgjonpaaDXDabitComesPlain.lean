import Derived.Test.YtbhfleilgjonpaaDXDabitComesx2
import Derived.Test.YtbhfleilgjonpaaDXDabitComesx3
import Derived.Test.YtbhfleilgjonpaaDXDabitComesx4
import Derived.Test.YtbhfleilgjonpaaDXDabitComesx5
import Derived.Test.YtbhfleilgjonpaaDXDabitComesx6
import Derived.Test.YtbhfleilgjonpaaDXDabitComesx7
import Derived.Test.YtbhfleilgjonpaaDXDabitComesShape
import Derived.Test.YtbhfleilgjonpaaDXDabitComesRing
import Derived.KernelRfl
namespace Go.Proofs.Ytbhfleilgjonpaa.XDabitComes
open Go Go.RowKit Go.Proofs.YtbhfleilgjonpaaW.PrintWords Go.Proofs.YtbhfleilgjonpaaArith
set_option linter.unusedVariables false
set_option linter.unusedSimpArgs false
def nb (q : Bool) : Int := if q = true then 1 else 0
theorem nb_range (q : Bool) : 0 ≤ nb q ∧ nb q ≤ 1 := by cases q <;> simp [nb]
theorem number_is (q : Bool) : trefoillaw25_number.f q = some [nb q] := by cases q <;> simp [trefoillaw25_number.f, nb]
theorem cls4 (b : Int) (h : 1 ≤ b ∧ b ≤ 64) : clsErr 4 b 0 0 0 = 0 := by
  unfold clsErr
  rw [if_pos (by omega), if_pos ⟨h.1, h.2, by omega, by simp⟩]
theorem dcheck (b n : Int) (h : 1 ≤ b ∧ b ≤ 64) (hn : 1 ≤ n ∧ n ≤ 24) (K : Nat) (hK : 4 ≤ K) : dabit_check.f K 4 b 0 0 0 n = some 0 := by
  obtain ⟨K, rfl⟩ : ∃ q, K = q + 4 := ⟨K - 4, by omega⟩
  unfold dabit_check.f
  rw [shape_Check.is, Option.bind_some, cls4 b h, if_pos rfl, if_pos rfl, if_neg (by omega), if_neg (by omega)]
def sh0 (q : Bool) : S31 := ⟨[nb q], [], []⟩
theorem getD_map {α : Type} (f : Bool → α) (z : α) (bs : List Bool) (i : Nat) (h : i < bs.length) : (bs.map f).getD i z = f (bs.getD i false) := by
  rw [List.getD_eq_getElem?_getD, List.getD_eq_getElem?_getD, List.getElem?_map, List.getElem?_eq_getElem h]
  rfl
theorem take_map_snoc {α : Type} (f : Bool → α) (bs : List Bool) (i : Nat) (h : i < bs.length) : (bs.take i).map f ++ [f (bs.getD i false)] = (bs.take (i + 1)).map f := by
  rw [List.take_succ_eq_append_getElem h, List.map_append, List.getD_eq_getElem?_getD, List.getElem?_eq_getElem h]
  rfl
theorem own_loop (bs : List Bool) (hl : bs.length ≤ 24) (d : Nat) : ∀ i, i + d = bs.length → ∀ K, d < K →
    dabit_own.l0 K ((bs.take i).map nb) (bs.map sh0) (bs.length : Int) (i : Int) = some (bs.map nb, 0) := by
  induction d with
  | zero =>
    intro i hi K hK
    obtain ⟨K, rfl⟩ : ∃ m, K = m + 1 := ⟨K - 1, by omega⟩
    simp only [dabit_own.l0]
    rw [if_neg (by omega), List.take_of_length_le (by omega)]
  | succ d ih =>
    intro i hi K hK
    obtain ⟨K, rfl⟩ : ∃ m, K = m + 1 := ⟨K - 1, by omega⟩
    have hlt : i < bs.length := by omega
    have e1 : wrap64 ((i : Int) + 1) = ((i + 1 : Nat) : Int) := by unfold wrap64; omega
    have e2 : rd_T31 (bs.map sh0) (i : Int) = sh0 (bs.getD i false) := getD_map sh0 z31 bs i hlt
    have hr := nb_range (bs.getD i false)
    simp only [dabit_own.l0]
    rw [e2, e1, if_pos (by omega), if_pos (by omega), if_pos (by rw [List.length_map]; omega)]
    have e3 : rd (sh0 (bs.getD i false)).f0 0 = nb (bs.getD i false) := rfl
    rw [if_pos (show (((sh0 (bs.getD i false)).f0.length : Nat) : Int) = 1 from rfl), if_pos (show (0 : Int) < (((sh0 (bs.getD i false)).f0.length : Nat) : Int) from by simp [sh0]), e3, if_neg (by omega), if_pos (by rw [List.length_map, List.length_take]; omega), take_map_snoc nb bs i hlt]
    exact ih (i + 1) (by omega) K (by omega)
theorem own_is (b : Int) (hb : 1 ≤ b ∧ b ≤ 64) (bs : List Bool) (hl : 1 ≤ bs.length ∧ bs.length ≤ 24) (K : Nat) (hK : 30 ≤ K) : dabit_own.f K 4 b 0 0 0 (bs.map sh0) = some (bs.map nb, 0) := by
  unfold dabit_own.f
  rw [List.length_map, dcheck b _ hb (by omega) K (by omega), Option.bind_some, if_pos rfl]
  exact own_loop bs hl.2 bs.length 0 (by omega) K (by omega)
def valB (l : Nat) (q : Bool) (p : Int) : Int := (nb q - 2 * p) % ((2 ^ l : Nat) : Int)
def sh1 (l : Nat) (q : Bool) (p : Int) : S31 := ⟨[nb q], [valB l q p], []⟩
theorem sub_mod' (x y : Int) (l : Nat) (h : l ≤ 64) : (x - y % ((2 ^ l : Nat) : Int)) % 18446744073709551616 % ((2 ^ l : Nat) : Int) = (x - y) % ((2 ^ l : Nat) : Int) := by
  rw [mod_mod_pow _ l h, Int.sub_emod, Int.emod_emod, ← Int.sub_emod]
def fin (l : Nat) (bs : List Bool) (ps : List Int) (i : Nat) : List S31 := (List.range i).map fun j => sh1 l (bs.getD j false) (ps.getD j 0)
theorem fin_succ (l : Nat) (bs : List Bool) (ps : List Int) (i : Nat) : fin l bs ps i ++ [sh1 l (bs.getD i false) (ps.getD i 0)] = fin l bs ps (i + 1) := by simp [fin, List.range_succ]
theorem fin_length (l : Nat) (bs : List Bool) (ps : List Int) (i : Nat) : (fin l bs ps i).length = i := by simp [fin]
theorem finish_loop (l : Nat) (hb : 1 ≤ l ∧ l ≤ 64) (bs : List Bool) (hl : bs.length ≤ 24) (ps : List Int) (hp : ps.length = bs.length) (d : Nat) : ∀ i, i + d = bs.length → ∀ K, d < K →
    dabit_Finish.l0 K ps (fin l bs ps i) (bs.map nb) (bs.length : Int) (i : Int) 4 (l : Int) 0 0 0 = some (fin l bs ps bs.length, 0) := by
  induction d with
  | zero =>
    intro i hi K hK
    obtain ⟨K, rfl⟩ : ∃ m, K = m + 1 := ⟨K - 1, by omega⟩
    obtain rfl : i = bs.length := by omega
    simp only [dabit_Finish.l0]
    rw [if_neg (by omega)]
  | succ d ih =>
    intro i hi K hK
    obtain ⟨K, rfl⟩ : ∃ m, K = m + 1 := ⟨K - 1, by omega⟩
    have hlt : i < bs.length := by omega
    have e1 : wrap64 ((i : Int) + 1) = ((i + 1 : Nat) : Int) := by unfold wrap64; omega
    have e2 : rd (bs.map nb) (i : Int) = nb (bs.getD i false) := getD_map nb 0 bs i hlt
    have e3 : rd ps (i : Int) = ps.getD i 0 := rfl
    simp only [dabit_Finish.l0]
    rw [e2, e1, e3, if_pos (by omega), if_pos (by omega), if_pos (by rw [List.length_map]; omega), if_pos (by omega), ring_Mul.is l _ _ hb.1 hb.2, Option.bind_some, ring_Sub.is l _ _ hb.1 hb.2, Option.bind_some, if_pos (by rw [fin_length]; omega), mod_mod_pow (2 * ps.getD i 0) l hb.2, sub_mod' _ _ l hb.2]
    have := fin_succ l bs ps i
    simp only [sh1, valB] at this
    rw [this]
    exact ih (i + 1) (by omega) K (by omega)
theorem finish_is (l : Nat) (hb : 1 ≤ l ∧ l ≤ 64) (bs : List Bool) (hl : 1 ≤ bs.length ∧ bs.length ≤ 24) (ps : List Int) (hp : ps.length = bs.length) (hU : ∀ x ∈ ps, U x) (hf : ∀ x ∈ ps, x < ((2 ^ l : Nat) : Int)) (K : Nat) (hK : 40 ≤ K) :
    dabit_Finish.f K 4 (l : Int) 0 0 0 (bs.map sh0) ps = some (fin l bs ps bs.length, 0) := by
  unfold dabit_Finish.f
  rw [own_is (l : Int) (by omega) bs hl K (by omega), Option.bind_some, if_pos rfl, if_pos (by rw [List.length_map]; omega), ring_Fits.is l ps hb.1 hb.2 hU, Option.bind_some]
  have h1 : (ps.all fun x => decide (x < ((2 ^ l : Nat) : Int))) = true := by
    rw [List.all_eq_true]
    exact fun x hx => decide_eq_true (hf x hx)
  rw [h1]
  obtain ⟨K, rfl⟩ : ∃ m, K = m + 1 := ⟨K - 1, by omega⟩
  simp only [dabit_Finish.j0, Bool.not_true, List.length_map]
  rw [if_neg (by simp), if_pos (by omega), if_pos (by omega)]
  exact finish_loop l hb bs hl.2 ps hp bs.length 0 (by omega) K (by omega)
def pr (l : Nat) (qa qb : Bool) (x : Int) : Int := (nb (qa && qb) - x) % ((2 ^ l : Nat) : Int)
theorem pow_two_le (l : Nat) (h : 1 ≤ l) : 2 ≤ 2 ^ l := by
  have : 2 ^ 1 ≤ 2 ^ l := Nat.pow_le_pow_right (by omega) h
  simpa using this
theorem comes (l : Nat) (h : 1 ≤ l ∧ l ≤ 64) (qa qb : Bool) (x : Int) : (valB l qa x + valB l qb (pr l qa qb x)) % ((2 ^ l : Nat) : Int) = nb (qa != qb) := by
  have h2 := pow_two_le l h.1
  unfold valB pr
  generalize hM : ((2 ^ l : Nat) : Int) = M
  have hM2 : 2 ≤ M := by omega
  have e1 : (2 * ((nb (qa && qb) - x) % M)) % M = (2 * (nb (qa && qb) - x)) % M := by rw [Int.mul_emod, Int.emod_emod, ← Int.mul_emod]
  have e2 : (nb qb - 2 * ((nb (qa && qb) - x) % M)) % M = (nb qb - 2 * (nb (qa && qb) - x)) % M := by rw [Int.sub_emod, e1, ← Int.sub_emod]
  rw [e2, ← Int.add_emod, show nb qa - 2 * x + (nb qb - 2 * (nb (qa && qb) - x)) = nb (qa != qb) from by cases qa <;> cases qb <;> simp [nb] <;> omega]
  have := nb_range (qa != qb)
  exact Int.emod_eq_of_lt this.1 (by omega)
theorem valB_range (l : Nat) (h : l ≤ 64) (q : Bool) (p : Int) : U (valB l q p) ∧ valB l q p < ((2 ^ l : Nat) : Int) := by
  refine ⟨U_emod _ l h, Int.emod_lt_of_pos _ ?_⟩
  have := Nat.two_pow_pos l
  omega
theorem fits4 (l : Nat) (h : 1 ≤ l ∧ l ≤ 64) (q : Bool) (p : Int) : fitsB 4 (l : Int) 0 0 0 [nb q] [valB l q p] [] = true := by
  unfold fitsB
  rw [cls4 _ (by omega)]
  have h1 : fitW 1 (nb q) = true := by cases q <;> simp [fitW, nb]
  have h2 : fitW (l : Int) (valB l q p) = true := by simpa [fitW] using (valB_range l h.2 q p).2
  simp [sizes, widths, h1, h2]
theorem U_nb (q : Bool) : U (nb q) := by
  have := nb_range q
  exact ⟨this.1, by omega⟩
theorem right_is (l : Nat) (h : 1 ≤ l ∧ l ≤ 64) (qa qb : Bool) (x : Int) (K : Nat) (hK : 80 ≤ K) :
    trefoilref25_Right.f K 4 (l : Int) 0 0 0 [nb qa] [valB l qa x] [] [nb qb] [valB l qb (pr l qa qb x)] [] = some true := by
  have hv1 := valB_range l h.2 qa x
  have hv2 := valB_range l h.2 qb (pr l qa qb x)
  have f1 := trefoilref09_Fits.is 4 (l : Int) 0 0 0 [nb qa] [valB l qa x] [] (by simpa using U_nb qa) (by simpa using hv1.1) (by simp) (by simp) (by simp) (by simp) (K - 9)
  have f2 := trefoilref09_Fits.is 4 (l : Int) 0 0 0 [nb qb] [valB l qb (pr l qa qb x)] [] (by simpa using U_nb qb) (by simpa using hv2.1) (by simp) (by simp) (by simp) (by simp) (K - 9)
  simp only [List.length_cons, List.length_nil] at f1 f2
  rw [show K - 9 + 7 + (0 + 1) + (0 + 1) + 0 = K by omega] at f1 f2
  unfold trefoilref25_Right.f
  rw [if_pos rfl, f1, fits4 l h, Option.bind_some, if_pos rfl, f2, fits4 l h, Option.bind_some]
  obtain ⟨K, rfl⟩ : ∃ m, K = m + 1 := ⟨K - 1, by omega⟩
  simp only [trefoilref25_Right.j0]
  have e1 : rd [nb qa] 0 = nb qa := rfl
  have e2 : rd [nb qb] 0 = nb qb := rfl
  have e3 : rd [valB l qa x] 0 = valB l qa x := rfl
  have e4 : rd [valB l qb (pr l qa qb x)] 0 = valB l qb (pr l qa qb x) := rfl
  rw [e1, e2, e3, e4, trefoilref03_Add.is l _ _ hv1.1 hv2.1 h.2 K (by omega), comes l h]
  cases qa <;> cases qb <;> simp [nb]
theorem right2_is (l : Nat) (h : 1 ≤ l ∧ l ≤ 64) (qa qb : Bool) (x : Int) (K : Nat) (hK : 80 ≤ K) :
    dabit_Right.f K 4 (l : Int) 0 0 0 [nb qa] [valB l qa x] [] [nb qb] [valB l qb (pr l qa qb x)] [] = some true := by
  have hv1 := valB_range l h.2 qa x
  have hv2 := valB_range l h.2 qb (pr l qa qb x)
  have f1 := shape_Fits.is 4 (l : Int) 0 0 0 [nb qa] [valB l qa x] [] (by simpa using U_nb qa) (by simpa using hv1.1) (by simp) (by simp) (by simp) (by simp) K (by omega) (by simp; omega) (by simp; omega) (by simp; omega)
  have f2 := shape_Fits.is 4 (l : Int) 0 0 0 [nb qb] [valB l qb (pr l qa qb x)] [] (by simpa using U_nb qb) (by simpa using hv2.1) (by simp) (by simp) (by simp) (by simp) K (by omega) (by simp; omega) (by simp; omega) (by simp; omega)
  unfold dabit_Right.f
  rw [if_pos rfl, f1, fits4 l h, Option.bind_some, if_pos rfl, f2, fits4 l h, Option.bind_some]
  have e1 : rd [nb qa] 0 = nb qa := rfl
  have e2 : rd [nb qb] 0 = nb qb := rfl
  have e3 : rd [valB l qa x] 0 = valB l qa x := rfl
  have e4 : rd [valB l qb (pr l qa qb x)] 0 = valB l qb (pr l qa qb x) := rfl
  rw [e1, e2, e3, e4, ring_Add.is l _ _ h.1 h.2, mod_mod_pow _ l h.2, comes l h]
  have b1 : Go.bits .xor .u64 (nb qa) (nb qb) = nb (qa != qb) := by
    cases qa <;> cases qb <;> simp [nb] <;> rfl
  rw [b1]
  simp
theorem awake_is (K : Nat) (hK : 80 ≤ K) : trefoillaw25_awake.f K = some true := by
  unfold trefoillaw25_awake.f
  have h := right2_is 8 (by omega) true true 255 K hK
  have e1 : nb true = 1 := rfl
  have e2 : valB 8 true 255 = 3 := by decide
  have e3 : valB 8 true (pr 8 true true 255) = 253 := by decide
  rw [e1, e2, e3] at h
  rw [show ((8 : Nat) : Int) = 8 from rfl] at h
  rw [h]
  rfl
end Go.Proofs.Ytbhfleilgjonpaa.XDabitComes
