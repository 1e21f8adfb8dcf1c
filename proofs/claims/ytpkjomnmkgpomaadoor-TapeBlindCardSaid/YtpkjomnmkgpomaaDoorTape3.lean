import Derived.Test.YtpkjomnmkgpomaaDoorTape2
import Derived.StillTailTactics
namespace Go.Proofs.YtpkjomnmkgpomaaDoor
open Go.RowKit Go.Extern.Stop Go.Stop Go.Extern Go.Proofs.YtpkjomnmkgpomaaDoorW.PrintWords

theorem Row.reads' {w : World} {base : Nat} {v : Value} {xs : List Int} (h : Row w base v xs) : ∃ A c, v = .slice A xs.length c ∧ ReadsInt w .u64 A xs.length xs ∧ xs.length ≤ c := by
  obtain ⟨A, c, e, hr⟩ := h.reads
  refine ⟨A, c, e, hr, ?_⟩
  rcases h.2 with ⟨e', h0⟩ | ⟨g, cap, cur, e', _, _, hc, _⟩
  · omega
  · rw [e'] at e; injection e with _ _ e; omega
/-- The words from k on, n of them. -/
def cutOf (l : List Int) (k n : Nat) : List Int := (l.take (k + n)).drop k
theorem cutOf_length (l : List Int) (k n : Nat) (h : k + n ≤ l.length) : (cutOf l k n).length = n := by unfold cutOf; rw [List.length_drop, List.length_take]; omega
theorem heap_set {w : World} {g i : Nat} {cs : Array Value} {t : TypeId} {v : Value} (h : w.heap[g]? = some (.cells cs t (0, 0))) : (w.setCell ⟨g, i, none⟩ v).heap[g]? = some (.cells (cs.setIfInBounds i v) t (0, 0)) := by
  simp [World.setCell, Array.getElem?_modify, h]
theorem ErrV.code0 {w : World} {v : Value} (h : ErrV w v 0) : v = .nilIface := by
  rcases h.zero with ⟨h, _⟩ | ⟨h, _⟩
  · exact h
  · exact absurd rfl h

set_option maxHeartbeats 4000000 in
theorem take_bad (g : Nat) (l : List Int) (k : Nat) (n : Int) (w : World) {B : Nat} (h : TapeAt w g B l k) (hc : readyC n (l.length - k) ≠ 0) :
    Calls Tryd.prog 9 #[.pointer (some ⟨g, 0, none⟩), .int .i64 n] w fun e w' => ∃ v, e = .returned (.tuple #[.slice none 0 0, v]) ∧ ErrV w' v (readyC n (l.length - k)) ∧ Below w.heap.size w w' := by
  have H := Aside0.mk h; have HC := Aside0.mk hc; clear h hc
  go_enter Tryd.func9, Tryd.ntmps9
  go_wp2_with (first | (go_at_call 21; refine (ready_any g l k n _ H.out).mono ?_; rintro e w1 ⟨v, rfl, hv, hb⟩; obtain ⟨g1, rfl⟩ := (hv.zero.resolve_left fun h => HC.out h.2).2; have HV := Aside0.mk hv; have HB := Aside0.mk hb; clear hv hb) | (go_at_call 22; refine (wrap_err _ _ _ _ HV.out HC.out).mono ?_; rintro e w2 ⟨v2, rfl, hv2, hb2⟩; have HV2 := Aside0.mk hv2; have HB2 := Aside0.mk hb2; clear hv2 hb2))
  go_ret2
  exact ⟨_, rfl, HV2.out, HB.out.trans (HB2.out.mono HB.out.size)⟩

set_option maxRecDepth 100000 in
set_option maxHeartbeats 4000000 in
theorem take_ok (g : Nat) (l : List Int) (k n : Nat) (w : World) {B : Nat} (h : TapeAt w g B l k) (hn : k + n ≤ l.length) :
    Calls Tryd.prog 9 #[.pointer (some ⟨g, 0, none⟩), .int .i64 n] w fun e w' => ∃ v, e = .returned (.tuple #[v, .nilIface]) ∧ Row w' w.heap.size v (cutOf l k n) ∧ TapeAt w' g B l (k + n) ∧ w.grownBy w' (some g) := by
  have H := Aside0.mk h
  have hm : l.length ≤ 1048576 := by obtain ⟨_, _, _, _, h, _⟩ := h; exact h
  have hrc : readyC n (l.length - k) = 0 := by unfold readyC; rw [if_neg (by omega), if_neg (by omega)]
  have HRC := Aside0.mk hrc
  clear h hrc
  have b1 : (k : Int) + n ≤ 1048576 := by omega
  have HN : Aside0 (n * 8 ≤ 140737488355328) := ⟨by omega⟩
  obtain ⟨i0, hi, hz0, hz1, hz2⟩ := info_parts infoU64
  go_enter Tryd.func9, Tryd.ntmps9
  go_wp2_with (first | (go_at_call 21; refine (ready_any g l k n _ H.out).mono ?_; rintro e w1 ⟨v, rfl, hv, hb⟩; rw [HRC.out] at hv; obtain rfl := hv.code0; have HB := Aside0.mk hb; clear hv hb))
  obtain ⟨v, hh, hr, _, _, hlow⟩ := H.out.keep HB.out
  obtain ⟨A, c, rfl, hrd, hcap⟩ := hr.reads'
  have c0 : w1.cell? ⟨g, 0, none⟩ = some (.slice A l.length c) := heap_cell hh
  have c1 : w1.cell? ⟨g, 1, none⟩ = some (.int .i64 k) := heap_cell hh
  obtain ⟨A', hcut, hcr, hcc⟩ := print_mid_int (P := Tryd.prog) (k := .u64) 22 35 Tryd.underlying22 hi hz1 A c l (k : Int) ((k : Int) + n) (by omega) (by omega) (by omega) hcap
  have hcl : ((l.take ((k : Int) + n).toNat).drop (k : Int).toNat) = cutOf l k n := by unfold cutOf; rw [show ((k : Int) + n).toNat = k + n by omega, Int.toNat_natCast]
  rw [hcl] at hcut hcr hcc
  have HCR : Aside0 (ReadsInt w1 .u64 A' (cutOf l k n).length (cutOf l k n)) := ⟨hcr w1 hrd⟩
  have HCL : Aside0 ((cutOf l k n).length * 8 ≤ 140737488355328) := ⟨by rw [cutOf_length l k n hn]; exact HN.out⟩
  have HH := Aside0.mk hh; have HR := Aside0.mk hr
  clear hh hr hrd hcr hcc hcl hi hz0 hz1 hz2
  have hw1 : IntKind.i64.wrap ((k : Int) + n) = (k : Int) + n := IntWalk.i64_in _ (by omega)
  go_still_tail 14, (by kernel_rfl)
  change wpList _ _ _ _ _ w1.drew
  go_wp2_with (first | (go_at_call 20; refine (clone_any A' _ _ (cutOf l k n) _ (HCR.out.below (below_drew (Below.refl _ _))) HCL.out).mono ?_; rintro e w2 ⟨v, rfl, hv, hb⟩; have HV := Aside0.mk hv; have HB2 := Aside0.mk ((below_drew (Below.refl w1.heap.size w1)).trans hb); have hh2 := (HB2.out.block g (heap_lt HH.out)).trans HH.out; have d1 : w2.cell? ⟨g, 1, none⟩ = some (.int .i64 k) := heap_cell hh2; have d2 : w2.frozen? ⟨g, 1, none⟩ = false := heap_free hh2; have HH2 := Aside0.mk hh2; clear hv hb hh2))
  go_ret2
  have gs := grown_set w2 ⟨g, 1, none⟩ (.int .i64 ((k : Int) + n))
  have ri : RowIs w2 (some g) 37 := fun k' e => by injection e with e; subst e; exact ⟨_, _, HH2.out⟩
  refine ⟨v, rfl, (HV.out.low HB.out.size).kept gs ri (by decide), ⟨_, (heap_set HH2.out).trans ?_, (HR.out.keep HB2.out).kept gs ri (by decide), by omega, hm, hlow⟩, ((grown_of_below HB.out _).trans (grown_of_below HB2.out _)).trans gs⟩
  simp

/-! ### Next, At, Left, Skip -/
set_option maxHeartbeats 4000000 in
theorem next_bad (g : Nat) (l : List Int) (k : Nat) (w : World) {B : Nat} (h : TapeAt w g B l k) (hc : readyC 1 (l.length - k) ≠ 0) :
    Calls Tryd.prog 12 #[.pointer (some ⟨g, 0, none⟩)] w fun e w' => ∃ v, e = .returned (.tuple #[.int .u64 0, v]) ∧ ErrV w' v (readyC 1 (l.length - k)) ∧ Below w.heap.size w w' := by
  have H := Aside0.mk h; have HC := Aside0.mk hc; clear h hc
  go_enter Tryd.func12, Tryd.ntmps12
  go_wp2_with (first | (go_at_call 9; refine (take_bad g l k 1 _ H.out HC.out).mono ?_; rintro e w1 ⟨v, rfl, hv, hb⟩; obtain ⟨g1, rfl⟩ := (hv.zero.resolve_left fun h => HC.out h.2).2; have HV := Aside0.mk hv; have HB := Aside0.mk hb; clear hv hb) | (go_at_call 22; refine (wrap_err _ _ _ _ HV.out HC.out).mono ?_; rintro e w2 ⟨v2, rfl, hv2, hb2⟩; have HV2 := Aside0.mk hv2; have HB2 := Aside0.mk hb2; clear hv2 hb2))
  go_ret2
  exact ⟨_, rfl, HV2.out, HB.out.trans (HB2.out.mono HB.out.size)⟩
theorem cutOf_one (l : List Int) (k : Nat) (h : k + 1 ≤ l.length) : cutOf l k 1 = [l.getD k 0] := by
  unfold cutOf
  rw [List.take_succ_eq_append_getElem (by omega), List.drop_append_of_le_length (by rw [List.length_take]; omega)]
  simp [List.getD_eq_getElem?_getD, List.getElem?_eq_getElem (show k < l.length by omega)]
set_option maxHeartbeats 4000000 in
theorem next_ok (g : Nat) (l : List Int) (k : Nat) (w : World) {B : Nat} (h : TapeAt w g B l k) (hn : k + 1 ≤ l.length) :
    Calls Tryd.prog 12 #[.pointer (some ⟨g, 0, none⟩)] w fun e w' => e = .returned (.tuple #[.int .u64 (l.getD k 0), .nilIface]) ∧ TapeAt w' g B l (k + 1) ∧ w.grownBy w' (some g) := by
  have H := Aside0.mk h; clear h
  have H1 := Aside0.mk (cutOf_one l k hn)
  go_enter Tryd.func12, Tryd.ntmps12
  go_wp2_with (first | (go_at_call 9; refine (take_ok g l k 1 _ H.out hn).mono ?_; rintro e w1 ⟨v, rfl, hv, ht, hg⟩; rw [H1.out] at hv; obtain ⟨gv, cap, rfl, hg1, hg2⟩ := World.ownsRow.form hv (by simp); have hc : w1.cell? ⟨gv, 0, none⟩ = some (.int .u64 (l.getD k 0)) := World.ownsRow.cells hv (g := gv) rfl 0 _ rfl; have HT := Aside0.mk ht; have HG := Aside0.mk hg; clear hv ht hg))
  go_ret2
  exact ⟨rfl, HT.out, HG.out⟩
theorem at_any (g : Nat) (l : List Int) (k : Nat) (w : World) {B : Nat} (h : TapeAt w g B l k) :
    Calls Tryd.prog 11 #[.pointer (some ⟨g, 0, none⟩)] w fun e w' => e = .returned (.int .i64 k) ∧ w = w' := by
  obtain ⟨v, hh, hr, ha, hm, _⟩ := h
  have c1 : w.cell? ⟨g, 1, none⟩ = some (.int .i64 k) := heap_cell hh
  clear hh hr
  go_enter Tryd.func11, Tryd.ntmps11
  go_wp2
  go_ret
  exact ⟨rfl, rfl⟩
theorem left_any (g : Nat) (l : List Int) (k : Nat) (w : World) {B : Nat} (h : TapeAt w g B l k) :
    Calls Tryd.prog 17 #[.pointer (some ⟨g, 0, none⟩)] w fun e w' => e = .returned (.int .i64 ((l.length : Int) - k)) ∧ ∃ n, w' = w.drewN n := by
  obtain ⟨v, hh, hr, ha, hm, _⟩ := h
  obtain ⟨A, c, rfl, hrd⟩ := hr.reads
  have c0 : w.cell? ⟨g, 0, none⟩ = some (.slice A l.length c) := heap_cell hh
  have c1 : w.cell? ⟨g, 1, none⟩ = some (.int .i64 k) := heap_cell hh
  clear hh hr hrd
  have b1 : (k : Int) ≤ l.length := by omega
  have hw1 : IntKind.i64.wrap ((l.length : Int) - k) = (l.length : Int) - k := IntWalk.i64_in _ (by omega)
  go_enter Tryd.func17, Tryd.ntmps17
  go_wp2
  go_quiet (fail)
  go_wp2
  go_ret
  exact ⟨rfl, _, rfl⟩
end Go.Proofs.YtpkjomnmkgpomaaDoor
