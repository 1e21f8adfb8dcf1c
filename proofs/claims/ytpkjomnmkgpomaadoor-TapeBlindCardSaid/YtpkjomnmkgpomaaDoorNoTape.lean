import Derived.Test.YtpkjomnmkgpomaaDoorTape3
import Derived.Handy
namespace Go.Proofs.YtpkjomnmkgpomaaDoor
open Go.RowKit Go.Extern.Stop Go.Stop Go.Extern Go.Proofs.YtpkjomnmkgpomaaDoorW.PrintWords

/-- No tape: nil, or one that was not made. -/
def NoTape (w : World) (x : Value) : Prop := x = .pointer none ∨ ∃ g, x = .pointer (some ⟨g, 0, none⟩) ∧ w.heap[g]? = some (.cells #[.slice none 0 0, .int .i64 0, .bool false] 37 (0, 0))
theorem NoTape.keep {w w' : World} {x : Value} (h : NoTape w x) (hb : Below w.heap.size w w') : NoTape w' x := by
  rcases h with h | ⟨g, h, hh⟩
  · exact .inl h
  · exact .inr ⟨g, h, (hb.block g (heap_lt hh)).trans hh⟩
theorem ready_no (x : Value) (n : Int) (w : World) (h : NoTape w x) :
    Calls Tryd.prog 21 #[x, .int .i64 n] w fun e w' => ∃ v, e = .returned v ∧ ErrV w' v 3 ∧ Below w.heap.size w w' := by
  rcases h with rfl | ⟨g, rfl, hh⟩
  · go_enter Tryd.func21, Tryd.ntmps21
    go_wp2_with (go_at_call 19; refine (new_err 3 _ _ (by decide)).mono ?_; rintro e w1 ⟨v, rfl, hv, hb⟩; have HV := Aside0.mk hv; have HB := Aside0.mk hb; clear hv hb)
    go_ret
    exact ⟨_, rfl, HV.out, HB.out⟩
  · have c2 : w.cell? ⟨g, 2, none⟩ = some (.bool false) := heap_cell hh
    clear hh
    go_enter Tryd.func21, Tryd.ntmps21
    go_wp2_with (go_at_call 19; refine (new_err 3 _ _ (by decide)).mono ?_; rintro e w1 ⟨v, rfl, hv, hb⟩; have HV := Aside0.mk hv; have HB := Aside0.mk hb; clear hv hb)
    go_ret
    exact ⟨_, rfl, HV.out, HB.out⟩
theorem at_no (x : Value) (w : World) (h : NoTape w x) : Calls Tryd.prog 11 #[x] w fun e w' => e = .returned (.int .i64 0) ∧ w = w' := by
  rcases h with rfl | ⟨g, rfl, hh⟩
  · go_enter Tryd.func11, Tryd.ntmps11
    go_wp2
    go_ret
    exact ⟨rfl, rfl⟩
  · have c1 : w.cell? ⟨g, 1, none⟩ = some (.int .i64 0) := heap_cell hh
    clear hh
    go_enter Tryd.func11, Tryd.ntmps11
    go_wp2
    go_ret
    exact ⟨rfl, rfl⟩
theorem left_no (x : Value) (w : World) (h : NoTape w x) : Calls Tryd.prog 17 #[x] w fun e w' => e = .returned (.int .i64 0) ∧ ∃ n, w' = w.drewN n := by
  rcases h with rfl | ⟨g, rfl, hh⟩
  · go_enter Tryd.func17, Tryd.ntmps17
    go_wp2
    go_ret
    exact ⟨rfl, 0, rfl⟩
  · have c0 : w.cell? ⟨g, 0, none⟩ = some (.slice none 0 0) := heap_cell hh
    have c1 : w.cell? ⟨g, 1, none⟩ = some (.int .i64 0) := heap_cell hh
    clear hh
    go_enter Tryd.func17, Tryd.ntmps17
    go_wp2
    go_quiet (fail)
    go_wp2
    go_ret
    exact ⟨rfl, _, rfl⟩
set_option maxHeartbeats 4000000 in
theorem take_no (x : Value) (n : Int) (w : World) (h : NoTape w x) :
    Calls Tryd.prog 9 #[x, .int .i64 n] w fun e w' => ∃ v, e = .returned (.tuple #[.slice none 0 0, v]) ∧ ErrV w' v 3 ∧ Below w.heap.size w w' := by
  have H := Aside0.mk h; clear h
  go_enter Tryd.func9, Tryd.ntmps9
  go_wp2_with (first | (go_at_call 21; refine (ready_no x n _ H.out).mono ?_; rintro e w1 ⟨v, rfl, hv, hb⟩; obtain ⟨g1, rfl⟩ := (hv.zero.resolve_left (fun h => absurd h.2 (by decide))).2; have HV := Aside0.mk hv; have HB := Aside0.mk hb; clear hv hb) | (go_at_call 22; refine (wrap_err _ _ _ _ HV.out (by decide)).mono ?_; rintro e w2 ⟨v2, rfl, hv2, hb2⟩; have HV2 := Aside0.mk hv2; have HB2 := Aside0.mk hb2; clear hv2 hb2))
  go_ret2
  exact ⟨_, rfl, HV2.out, HB.out.trans (HB2.out.mono HB.out.size)⟩
set_option maxHeartbeats 4000000 in
theorem next_no (x : Value) (w : World) (h : NoTape w x) :
    Calls Tryd.prog 12 #[x] w fun e w' => ∃ v, e = .returned (.tuple #[.int .u64 0, v]) ∧ ErrV w' v 3 ∧ Below w.heap.size w w' := by
  have H := Aside0.mk h; clear h
  go_enter Tryd.func12, Tryd.ntmps12
  go_wp2_with (first | (go_at_call 9; refine (take_no x 1 _ H.out).mono ?_; rintro e w1 ⟨v, rfl, hv, hb⟩; obtain ⟨g1, rfl⟩ := (hv.zero.resolve_left (fun h => absurd h.2 (by decide))).2; have HV := Aside0.mk hv; have HB := Aside0.mk hb; clear hv hb) | (go_at_call 22; refine (wrap_err _ _ _ _ HV.out (by decide)).mono ?_; rintro e w2 ⟨v2, rfl, hv2, hb2⟩; have HV2 := Aside0.mk hv2; have HB2 := Aside0.mk hb2; clear hv2 hb2))
  go_ret2
  exact ⟨_, rfl, HV2.out, HB.out.trans (HB2.out.mono HB.out.size)⟩
set_option maxHeartbeats 4000000 in
theorem bits_no (x : Value) (n : Int) (w : World) (h : NoTape w x) :
    Calls Tryd.prog 14 #[x, .int .i64 n] w fun e w' => ∃ v, e = .returned (.tuple #[.slice none 0 0, v]) ∧ ErrV w' v 3 ∧ Below w.heap.size w w' := by
  have H := Aside0.mk h; clear h
  go_enter Tryd.func14, Tryd.ntmps14
  go_wp2_with (first | (go_at_call 9; refine (take_no x n _ H.out).mono ?_; rintro e w1 ⟨v, rfl, hv, hb⟩; obtain ⟨g1, rfl⟩ := (hv.zero.resolve_left (fun h => absurd h.2 (by decide))).2; have HV := Aside0.mk hv; have HB := Aside0.mk hb; clear hv hb) | (go_at_call 22; refine (wrap_err _ _ _ _ HV.out (by decide)).mono ?_; rintro e w2 ⟨v2, rfl, hv2, hb2⟩; have HV2 := Aside0.mk hv2; have HB2 := Aside0.mk hb2; clear hv2 hb2))
  go_ret2
  exact ⟨_, rfl, HV2.out, HB.out.trans (HB2.out.mono HB.out.size)⟩
set_option maxHeartbeats 4000000 in
theorem skip_no (x : Value) (n : Int) (w : World) (h : NoTape w x) :
    Calls Tryd.prog 16 #[x, .int .i64 n] w fun e w' => ∃ v, e = .returned v ∧ ErrV w' v 3 ∧ Below w.heap.size w w' := by
  have H := Aside0.mk h; clear h
  go_enter Tryd.func16, Tryd.ntmps16
  go_wp2_with (first | (go_at_call 21; refine (ready_no x 0 _ H.out).mono ?_; rintro e w1 ⟨v, rfl, hv, hb⟩; obtain ⟨g1, rfl⟩ := (hv.zero.resolve_left (fun h => absurd h.2 (by decide))).2; have HV := Aside0.mk hv; have HB := Aside0.mk hb; clear hv hb) | (go_at_call 22; refine (wrap_err _ _ _ _ HV.out (by decide)).mono ?_; rintro e w2 ⟨v2, rfl, hv2, hb2⟩; have HV2 := Aside0.mk hv2; have HB2 := Aside0.mk hb2; clear hv2 hb2))
  go_ret
  exact ⟨_, rfl, HV2.out, HB.out.trans (HB2.out.mono HB.out.size)⟩
/-- Thirty-two bytes that are 0. -/
abbrev zeros32 : Array Value := #[.int .u8 0, .int .u8 0, .int .u8 0, .int .u8 0, .int .u8 0, .int .u8 0, .int .u8 0, .int .u8 0, .int .u8 0, .int .u8 0, .int .u8 0, .int .u8 0, .int .u8 0, .int .u8 0, .int .u8 0, .int .u8 0, .int .u8 0, .int .u8 0, .int .u8 0, .int .u8 0, .int .u8 0, .int .u8 0, .int .u8 0, .int .u8 0, .int .u8 0, .int .u8 0, .int .u8 0, .int .u8 0, .int .u8 0, .int .u8 0, .int .u8 0, .int .u8 0]
theorem zeros32_one : zeros32.all (fun x => x.oneCell') = true := by simp [zeros32, Value.oneCell']
set_option maxHeartbeats 4000000 in
theorem seed_no (x : Value) (w : World) (h : NoTape w x) :
    Calls Tryd.prog 13 #[x] w fun e w' => ∃ v, e = .returned (.tuple #[.agg zeros32, v]) ∧ ErrV w' v 3 ∧ Below w.heap.size w w' := by
  have H := Aside0.mk h; clear h
  go_enter Tryd.func13, Tryd.ntmps13
  go_wp2_with (first | (go_at_call 9; refine (take_no x 4 _ (H.out.keep ((Below.refl _ _).alloc (Nat.le_refl _) _))).mono ?_; rintro e w1 ⟨v, rfl, hv, hb⟩; obtain ⟨g1, rfl⟩ := (hv.zero.resolve_left (fun h => absurd h.2 (by decide))).2; have HV := Aside0.mk hv; have HB := Aside0.mk hb; clear hv hb) | (go_at_call 22; refine (wrap_err _ _ _ _ HV.out (by decide)).mono ?_; rintro e w2 ⟨v2, rfl, hv2, hb2⟩; have HV2 := Aside0.mk hv2; have HB2 := Aside0.mk (HB.out.trans (hb2.mono HB.out.size)); have HH2 : Aside0 (w2.heap[w.heap.size]? = some (.cells zeros32 42 (0, 0))) := Aside0.mk ((HB2.out.block w.heap.size (by simp)).trans (heap_alloc_new w _)); clear hv2 hb2) | (refine wpList_store_row rfl 42 (.tmp 2) (.tmp 15) rfl w.heap.size zeros32 rfl rfl 42 zeros32 HH2.out (by kernel_rfl) rfl zeros32_one ?_; rw [setRow_self _ _ _ _ _ HH2.out]))
  have hl := run_loadVar_row (P := Tryd.prog) w2 w.heap.size 42 42 zeros32 (0, 0) _ HH2.out Tryd.underlying42 rfl (by kernel_rfl)
  exact bodyPost_ret (v := .tuple #[.agg zeros32, v2]) (by simp [results, Tryd.results13, asAddr, hl]) rfl ⟨v2, rfl, HV2.out, ((Below.refl _ _).alloc (Nat.le_refl _) _).trans (HB2.out.mono (by simp))⟩
end Go.Proofs.YtpkjomnmkgpomaaDoor
