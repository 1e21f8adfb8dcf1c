import Derived.Test.YtpkjomnmkgpomaaDoorNums
namespace Go.Proofs.YtpkjomnmkgpomaaDoor
open Go.RowKit Go.Extern.Stop Go.Stop Go.Extern Go.Proofs.YtpkjomnmkgpomaaDoorW.PrintWords

theorem Laid0.keep {w w' : World} (h : Laid0 w) (hb : Below w.heap.size w w') : Laid0 w' := h.grown (grown_of_below hb none) (by simp)
theorem row_of_lit (w : World) (xs : List Int) (hm : xs.length ≤ 9223372036854775807) : Row (w.alloc (.cells (nums .u64 xs).toArray 35)) w.heap.size (.slice (some ⟨w.heap.size, 0, none⟩) xs.length xs.length) xs := own_lit w w.heap.size _ .u64 xs (Nat.le_refl _) hm
theorem Row.int {w : World} {base : Nat} {A : Option Addr} {n c : Nat} {xs : List Int} (h : Row w base (.slice A n c) xs) : ReadsInt w .u64 A xs.length xs := by
  obtain ⟨A', c', e, hr⟩ := h.reads
  injection e with e1 e2 e3
  rw [e1]; exact hr
theorem lit_reads (w : World) (xs : List Int) (hm : xs.length ≤ 9223372036854775807) : ReadsInt (w.alloc (.cells (nums .u64 xs).toArray 35)) .u64 (some ⟨w.heap.size, 0, none⟩) xs.length xs := (row_of_lit w xs hm).int
theorem cutOf567 : cutOf [5, 6, 7] 0 2 = [5, 6] := rfl

set_option maxRecDepth 100000 in
set_option maxHeartbeats 4000000 in
theorem awake_true (w : World) (hL : Laid0 w) : Calls Tryd.prog 7 #[] w fun e w' => e = .returned (.bool true) ∧ Below w.heap.size w w' := by
  have HL := Aside0.mk hL; clear hL
  have B0 : Aside0 (Below w.heap.size w (w.alloc (.cells #[.int .u64 5, .int .u64 6, .int .u64 7] 35))) := ⟨(Below.refl _ _).alloc (Nat.le_refl _) _⟩
  go_enter Tryd.func7, Tryd.ntmps7
  go_wp2_with (first
    | (go_at_call 8; refine (tnew_any (some ⟨w.heap.size, 0, none⟩) 3 [5, 6, 7] _ (lit_reads w [5, 6, 7] (by decide)) (by decide)).mono ?_; rintro e w1 ⟨g, rfl, ht, hg, hb⟩; have HT0 := Aside0.mk ht; have B1 := Aside0.mk (B0.out.trans (hb.mono B0.out.size)); have HG := Aside0.mk (Nat.le_trans B0.out.size hg); clear ht hg hb)
    | (go_at_call 9; refine (take_ok g _ 0 2 _ HT0.out (by decide)).mono ?_; rintro e w2 ⟨v, rfl, hv, ht, hg2⟩; rw [cutOf567] at hv; obtain ⟨A, c, rfl, _⟩ := hv.reads; have HV := Aside0.mk hv; have HT2 := Aside0.mk ht; have B2 := Aside0.mk (B1.out.grown hg2 B1.out.size (by intro k e; injection e with e; rw [← e]; exact HG.out)); clear hv ht hg2 HT0)
    | (go_at_call 9; refine (take_bad g _ 2 2 _ HT2.out (by decide)).mono ?_; rintro e w3 ⟨v3, rfl, hv3, hb3⟩; have e10 : readyC 2 (([5, 6, 7] : List Int).length - (2 : Nat)) = 10 := (by decide); rw [e10] at hv3; clear e10; obtain ⟨g3, rfl⟩ := (hv3.zero.resolve_left (fun h => absurd h.2 (by decide))).2; have E3 := Aside0.mk hv3; have HT3 := Aside0.mk (HT2.out.keep hb3); have HV3 := Aside0.mk (HV.out.keep hb3); have B3 := Aside0.mk (B2.out.trans (hb3.mono B2.out.size)); clear hv3 hb3 HT2 HV)
    | (go_at_call 12; refine (next_ok g _ 2 _ HT3.out (by decide)).mono ?_; rintro e w4 ⟨rfl, ht4, hg4⟩; have E4 := Aside0.mk (E3.out.grown hg4 (HT3.out.row.noFault (by decide))); have HV4 := Aside0.mk (HV3.out.kept hg4 HT3.out.row (by decide)); have B4 := Aside0.mk (B3.out.grown hg4 B3.out.size (by intro k e; injection e with e; rw [← e]; exact HG.out)); clear ht4 hg4 HV3 HT3 E3)
    | (go_at_call 10; refine (nums_eq A (some ⟨w4.heap.size, 0, none⟩) c 2 [5, 6] _ (HV4.out.keep ((Below.refl _ _).alloc (Nat.le_refl _) _)).int (lit_reads w4 [5, 6] (by decide))).mono ?_; rintro e w5 ⟨rfl, n5, rfl⟩; have B5 := Aside0.mk (pw_below_drewN ((Below.refl w4.heap.size w4).alloc (Nat.le_refl _) (.cells #[.int .u64 5, .int .u64 6] 35)) n5))
    | (go_at_call 15; refine (code_any _ 10 _ (E4.out.keep B5.out) ((HL.out.keep B4.out).keep B5.out)).mono ?_; rintro e w6 ⟨rfl, hb6⟩; have B6 := Aside0.mk hb6; clear hb6))
  go_ret
  exact ⟨rfl, (B4.out.trans (B5.out.mono B4.out.size)).trans (B6.out.mono (Nat.le_trans B4.out.size B5.out.size))⟩
end Go.Proofs.YtpkjomnmkgpomaaDoor
