import Derived.Test.YtpkjomnmkgpomaaDoorTape4
namespace Go.Proofs.YtpkjomnmkgpomaaDoor
open Go.RowKit Go.Extern.Stop Go.Stop Go.Extern Go.Proofs.YtpkjomnmkgpomaaDoorW.PrintWords Go.Proofs.YtpkjomnmkgpomaaDoorArith

/-! ### Bits -/
set_option maxHeartbeats 4000000 in
theorem bits_bad (g : Nat) (l : List Int) (k : Nat) (n : Int) (w : World) {B : Nat} (h : TapeAt w g B l k) (hc : readyC n (l.length - k) ≠ 0) :
    Calls Tryd.prog 14 #[.pointer (some ⟨g, 0, none⟩), .int .i64 n] w fun e w' => ∃ v, e = .returned (.tuple #[.slice none 0 0, v]) ∧ ErrV w' v (readyC n (l.length - k)) ∧ Below w.heap.size w w' := by
  have H := Aside0.mk h; have HC := Aside0.mk hc; clear h hc
  go_enter Tryd.func14, Tryd.ntmps14
  go_wp2_with (first | (go_at_call 9; refine (take_bad g l k n _ H.out HC.out).mono ?_; rintro e w1 ⟨v, rfl, hv, hb⟩; obtain ⟨g1, rfl⟩ := (hv.zero.resolve_left fun h => HC.out h.2).2; have HV := Aside0.mk hv; have HB := Aside0.mk hb; clear hv hb) | (go_at_call 22; refine (wrap_err _ _ _ _ HV.out HC.out).mono ?_; rintro e w2 ⟨v2, rfl, hv2, hb2⟩; have HV2 := Aside0.mk hv2; have HB2 := Aside0.mk hb2; clear hv2 hb2))
  go_ret2
  exact ⟨_, rfl, HV2.out, HB.out.trans (HB2.out.mono HB.out.size)⟩
def oddB (x : Int) : Bool := x % 2 == 1
def mixB (xs : List Int) (n j : Nat) : List Bool := (xs.take j).map oddB ++ List.replicate (n - j) false
theorem mixB_length (xs : List Int) (n j : Nat) (h : xs.length = n) (hj : j ≤ n) : (mixB xs n j).length = n := by simp [mixB]; omega
theorem mixB_set (xs : List Int) (n j : Nat) (h : xs.length = n) (hj : j < n) : (mixB xs n j).set j (oddB (xs.getD j 0)) = mixB xs n (j + 1) := by
  unfold mixB
  rw [List.set_append_right _ _ (by simp; omega)]
  simp only [List.length_map, List.length_take, Nat.min_eq_left (show j ≤ xs.length by omega), Nat.sub_self]
  rw [show n - j = (n - (j + 1)) + 1 by omega, List.replicate_succ, List.set_cons_zero, List.take_succ_eq_append_getElem (by omega), List.map_append, List.append_assoc]
  simp [List.getD_eq_getElem?_getD, List.getElem?_eq_getElem (show j < xs.length by omega)]
theorem mixB_end (xs : List Int) (n : Nat) (h : xs.length = n) : mixB xs n n = xs.map oddB := by simp [mixB, ← h]
/-- A row of truths of one's own. -/
abbrev RowB (w : World) (base : Nat) (v : Value) (xs : List Bool) : Prop := w.ownsRow base 4 1 v xs.length (encs Value.bool xs)
theorem and_one (x : Int) (h : 0 ≤ x ∧ x ≤ 18446744073709551615) : Go.bits .and .u64 x 1 = x % 2 := and_mask x 1 ⟨h.1, by omega⟩ (by decide)
set_option maxRecDepth 100000 in
set_option maxHeartbeats 4000000 in
theorem bits_ok (g : Nat) (l : List Int) (k n : Nat) (w : World) {B : Nat} (h : TapeAt w g B l k) (hn : k + n ≤ l.length) (hu : U64s l) :
    Calls Tryd.prog 14 #[.pointer (some ⟨g, 0, none⟩), .int .i64 n] w fun e w' => ∃ v, e = .returned (.tuple #[v, .nilIface]) ∧ RowB w' w.heap.size v ((cutOf l k n).map oddB) ∧ TapeAt w' g B l (k + n) ∧ w.grownBy w' (some g) := by
  have H := Aside0.mk h.tight
  have q5 : (n : Int) ≤ 1048576 := by obtain ⟨_, _, _, _, hm, _⟩ := h; omega
  have hgl := h.lt; clear h
  have HU := Aside0.mk (hu.cut k n); clear hu
  have HL := Aside0.mk (cutOf_length l k n hn)
  have hmk := print_make_of (P := Tryd.prog) 45 4 (.bool false) 1 Tryd.underlying45 infoBool rfl (by decide) n (by omega)
  go_enter Tryd.func14, Tryd.ntmps14
  go_wp2_with (first | (go_at_call 9; refine (take_ok g l k n _ H.out hn).mono ?_; rintro e w1 ⟨v, rfl, hv, ht, hg⟩; obtain ⟨A, c, rfl, hr⟩ := hv.reads; rw [HL.out] at hr; rw [HL.out]; have HR := Aside0.mk hr; have HT := Aside0.mk ht; have HG := Aside0.mk hg; clear hv hr ht hg))
  have HM : Aside0 ((w1.alloc (.cells (madeCells #[.bool false] n) 4)).ownsRow w.heap.size 4 1 (.slice (some ⟨w1.heap.size, 0, none⟩) n n) n (encs Value.bool (mixB (cutOf l k n) n 0))) := ⟨by
    have h0 := own_made_of (enc := Value.bool) (d := false) w1 w.heap.size 4 n HG.out.size (by omega)
    simpa [mixB] using h0⟩
  go_loopw [25] (fun i wr => ∃ j : Nat, j ≤ n ∧ i = .int .i64 j ∧ Aside0 (wr.ownsRow w.heap.size 4 1 (.slice (some ⟨w1.heap.size, 0, none⟩) n n) n (encs Value.bool (mixB (cutOf l k n) n j))) ∧ Aside0 (Below w1.heap.size w1 wr)) (fun i _ => n - (intOf i).toNat)
  case atStart => exact ⟨0, Nat.zero_le _, rfl, HM, ⟨below_alloc (Below.refl _ _) _⟩⟩
  case round =>
    obtain ⟨j, hj, rfl, HO, HB⟩ := hrel
    by_cases hlt : j < n
    · obtain ⟨ad, rfl, hx⟩ := (HR.out.below HB.out).at_ (j : Int) (by omega) (by omega)
      obtain ⟨hc, hz⟩ := own_at_of (d := false) HO.out (j : Int) (by omega) (by omega)
      have hrd : rd (cutOf l k n) (j : Int) = (cutOf l k n).getD j 0 := by unfold rd; rw [Int.toNat_natCast]
      rw [hrd] at hx
      have HS := Aside0.mk (own_store_of HO.out (j : Int) (oddB ((cutOf l k n).getD j 0)))
      simp only [Int.toNat_natCast] at hx hc hz HS
      rw [mixB_set _ _ _ HL.out hlt] at HS
      have hodd := and_one _ (HU.out.getD j)
      unfold oddB at HS
      clear hrd
      generalize (cutOf l k n).getD j 0 = x at hx HS hodd
      have q3 : (0 : Int) ≤ (j : Int) := by omega
      have q4 : (j : Int) < (n : Int) := by omega
      go_wp2
      go_roundw
      case rel => exact ⟨j + 1, by omega, by go_num, ⟨HS.out.1⟩, ⟨HB.out.setCell (Nat.le_refl _) _⟩⟩
      case measure => simp [intOf]; omega
    · go_wp2
      go_ret2
      obtain rfl : j = n := by omega
      have hr := HO.out
      rw [mixB_end _ _ HL.out] at hr
      refine ⟨_, rfl, ?_, (HT.out.keep HB.out).up (Nat.min_le_left _ _), HG.out.trans (grown_of_below HB.out _)⟩
      show wr.ownsRow _ _ _ _ (((cutOf l k j).map oddB).length) _
      rw [List.length_map, HL.out]; exact hr
end Go.Proofs.YtpkjomnmkgpomaaDoor
