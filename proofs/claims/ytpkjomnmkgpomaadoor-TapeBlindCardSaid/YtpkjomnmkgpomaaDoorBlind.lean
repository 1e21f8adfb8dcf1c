import Derived.Test.YtpkjomnmkgpomaaDoorPlays
namespace Go.Proofs.YtpkjomnmkgpomaaDoor
open Go.RowKit Go.Extern.Stop Go.Stop Go.Extern Go.Proofs.YtpkjomnmkgpomaaDoorW.PrintWords Go.Proofs.YtpkjomnmkgpomaaDoorArith

theorem tnew_n (A : Option Addr) (c n : Nat) (l : List Int) (w : World) (hr : ReadsInt w .u64 A n l) (hm : n ≤ 1048576) :
    Calls Tryd.prog 8 #[.slice A n c] w fun e w' => ∃ g, e = .returned (.tuple #[.pointer (some ⟨g, 0, none⟩), .nilIface]) ∧ TapeAt w' g w'.heap.size l 0 ∧ w.heap.size ≤ g ∧ Below w.heap.size w w' := by
  have hn := hr.1
  subst hn
  exact tnew_any A c l w hr hm
theorem left_n (g : Nat) (l : List Int) (k n : Nat) (w : World) {B : Nat} (h : TapeAt w g B l k) (hn : l.length = n) :
    Calls Tryd.prog 17 #[.pointer (some ⟨g, 0, none⟩)] w fun e w' => e = .returned (.int .i64 ((n : Int) - k)) ∧ ∃ m, w' = w.drewN m := by
  subst hn
  exact left_any g l k w h
theorem TapeAt.kept2 {w w' : World} {g gr g2 B : Nat} {l : List Int} {k : Nat} (h : TapeAt w g2 B l k) (hg : Grown2 w w' g gr) (h1 : RowIs w (some g) 37) (h2 : RowIs w (some gr) 54) (n1 : g2 ≠ g) (n2 : g2 ≠ gr) : TapeAt w' g2 B l k := by
  obtain ⟨v, hh, hr, h3⟩ := h
  refine ⟨v, (hg.block _ (heap_lt hh) n1 n2).trans hh, ⟨hr.1, ?_⟩, h3⟩
  rcases hr.2 with e | ⟨b, cap, cur, e1, e2, e3, r⟩
  · exact .inl e
  · refine .inr ⟨b, cap, cur, e1, e2, (hg.block b (heap_lt e3) (fun e => ?_) (fun e => ?_)).trans e3, r⟩
    · subst e
      obtain ⟨cs, fr, hc⟩ := h1 _ rfl
      rw [hc] at e3; injection e3 with e3; injection e3 with _ e3; exact absurd e3 (by decide)
    · subst e
      obtain ⟨cs, fr, hc⟩ := h2 _ rfl
      rw [hc] at e3; injection e3 with e3; injection e3 with _ e3; exact absurd e3 (by decide)

/-- Both tapes, both references, alike far. -/
structure BothAt (w wr : World) (g1 g2 r1 r2 B1 B2 : Nat) (A1 A2 : Option Addr) (c1 c2 : Nat) (l1 l2 : List Int) (k : Nat) : Prop where
  t1 : TapeAt wr g1 B1 l1 k
  t2 : TapeAt wr g2 B2 l2 k
  p1 : RTape wr r1 A1 c1 l1 k
  p2 : RTape wr r2 A2 c2 l2 k
  below : Below w.heap.size w wr

set_option maxRecDepth 100000 in
set_option maxHeartbeats 8000000 in
theorem blind_any (A1 A2 A3 : Option Addr) (c1 c2 c3 n : Nat) (l1 l2 : List Int) (p : List Act3) (w : World) (hL : Laid0 w) (hl1 : ReadsInt w .u64 A1 n l1) (hcap1 : n ≤ c1) (hu1 : U64s l1) (hl2 : ReadsInt w .u64 A2 n l2) (hcap2 : n ≤ c2) (hu2 : U64s l2) (hp : Kd.C kA w A3 p.length p) (hpm : p.length ≤ 9223372036854775807) (b500 : n ≤ 500) :
    Calls Tryd.prog 6 #[.slice A1 n c1, .slice A2 n c2, .slice A3 p.length c3] w fun e w' => e = .returned (.bool true) ∧ Below w.heap.size w w' := by
  have HN1 : Aside0 (l1.length = n) := ⟨hl1.1⟩
  have HN2 : Aside0 (l2.length = n) := ⟨hl2.1⟩
  have HL := Aside0.mk hL; have HR1 := Aside0.mk hl1; have HR2 := Aside0.mk hl2; have HP := Aside0.mk hp; clear hL hl1 hl2 hp
  have q1 : (n : Int) ≤ 500 := by omega
  have q2 : (p.length : Int) ≤ 9223372036854775807 := by omega
  go_enter Tryd.func6, Tryd.ntmps6
  go_wp2_with (first
    | (go_at_call 8; (with_reducible refine (tnew_n A1 c1 n l1 _ HR1.out (by omega)).mono ?_); rintro e w1 ⟨g1, rfl, ht, hg, hb⟩; have HT1 := Aside0.mk ht; have G1 := Aside0.mk hg; have B1 := Aside0.mk hb; have HR2' := Aside0.mk (HR2.out.below hb); clear ht hg hb)
    | (go_at_call 8; (with_reducible refine (tnew_n A2 c2 n l2 _ HR2'.out (by omega)).mono ?_); rintro e w2 ⟨g2, rfl, ht, hg, hb⟩; have HT2 := Aside0.mk ht; have G2 := Aside0.mk hg; have B2 := Aside0.mk hb; clear ht hg hb))
  have hg12 : g1 < w1.heap.size := HT1.out.lt
  have hg22 : g2 < w2.heap.size := HT2.out.lt
  have hs12 : w1.heap.size ≤ w2.heap.size := B2.out.size
  have hgg : w1.heap.size ≤ g2 := G2.out
  have hb3 := below_alloc (below_alloc (Below.refl w2.heap.size w2) (.cells #[.slice A1 n c1, .int .i64 0] 54)) (.cells #[.slice A2 n c2, .int .i64 0] 54)
  have HB0 : Aside0 (BothAt w ((w2.alloc (.cells #[.slice A1 n c1, .int .i64 0] 54)).alloc (.cells #[.slice A2 n c2, .int .i64 0] 54)) g1 g2 w2.heap.size (w2.heap.size + 1) w1.heap.size w2.heap.size A1 A2 c1 c2 l1 l2 0) := ⟨by
    refine ⟨(HT1.out.keep B2.out).keep hb3, HT2.out.keep hb3, ?_, ?_, (B1.out.trans (B2.out.mono B1.out.size)).trans (hb3.mono (Nat.le_trans B1.out.size B2.out.size))⟩
    · unfold RTape; rw [HN1.out]; exact two_heap w2 _ _
    · unfold RTape; rw [HN2.out]
      have := heap_alloc_new (w2.alloc (.cells #[.slice A1 n c1, .int .i64 0] 54)) (.cells #[.slice A2 n c2, .int .i64 0] 54)
      simpa using this⟩
  have W1 := Aside0.mk G1.out
  have W2 := Aside0.mk (Nat.le_trans B1.out.size G2.out)
  have W3 := Aside0.mk (Nat.le_trans B1.out.size B2.out.size)
  clear HT1 HT2 B1 B2 G1 G2 hb3
  go_loopw [13] (fun i wr => ∃ j k : Nat, j ≤ p.length ∧ i = .int .i64 j ∧ Aside0 (BothAt w wr g1 g2 w2.heap.size (w2.heap.size + 1) w1.heap.size w2.heap.size A1 A2 c1 c2 l1 l2 k)) (fun i _ => p.length - (intOf i).toNat)
  case atStart => exact ⟨0, 0, Nat.zero_le _, rfl, HB0⟩
  case round =>
    obtain ⟨j, k, hj, rfl, HO⟩ := hrel
    have q3 : (0 : Int) ≤ (j : Int) := by omega
    by_cases hlt : j < p.length
    · have q4 : (j : Int) < (p.length : Int) := by omega
      by_cases h60 : j < 60
      · have q5 : (j : Int) < 60 := by omega
        obtain ⟨ad, x, rfl, x0, x1, x2⟩ := acts_at HP.out j hlt
        have X0 := Aside0.mk x0; have X1 := Aside0.mk x1; have X2 := Aside0.mk x2
        replace x0 := pw_cell_below HO.out.below x0; replace x1 := pw_cell_below HO.out.below x1; replace x2 := pw_cell_below HO.out.below x2
        go_wp2_with (first
          | (go_at_call 18; (with_reducible refine (does_ok g1 w2.heap.size w1.heap.size A1 c1 l1 k x.kind x.n x.bits _ HO.out.t1 HO.out.p1 w (by rw [HN1.out]; exact HR1.out) HO.out.below W1.out W3.out (by rw [HN1.out]; exact hcap1) hu1 HL.out).mono ?_); rintro e w3 ⟨rfl, hd⟩; rw [HN1.out] at hd; have HD := Aside0.mk hd; have B3 := Aside0.mk (hd.grown.old HO.out.below W1.out W3.out); have S2 := Aside0.mk (HO.out.t2.kept2 hd.grown HO.out.t1.row HO.out.p1.row (by omega) (by omega)); have P2 : Aside0 (RTape w3 (w2.heap.size + 1) A2 c2 l2 k) := ⟨(hd.grown.block _ (heap_lt HO.out.p2) (by omega) (by omega)).trans HO.out.p2⟩; have y0 := pw_cell_below B3.out X0.out; have y1 := pw_cell_below B3.out X1.out; have y2 := pw_cell_below B3.out X2.out; clear hd)
          | (go_at_call 18; (with_reducible refine (does_ok g2 (w2.heap.size + 1) w2.heap.size A2 c2 l2 k x.kind x.n x.bits _ S2.out P2.out w (by rw [HN2.out]; exact HR2.out) B3.out W2.out (Nat.le_trans W3.out (Nat.le_succ _)) (by rw [HN2.out]; exact hcap2) hu2 HL.out).mono ?_); rintro e w4 ⟨rfl, hd⟩; rw [HN2.out] at hd; have HE := Aside0.mk hd; have B4 := Aside0.mk (hd.grown.old B3.out W2.out (Nat.le_trans W3.out (Nat.le_succ _))); have S1 := Aside0.mk (HD.out.tape.kept2 hd.grown S2.out.row P2.out.row (by omega) (by omega)); have P1 : Aside0 (RTape w4 w2.heap.size A1 c1 l1 (nextAt x.kind x.n x.bits n k)) := ⟨(hd.grown.block _ (heap_lt HD.out.ref) (by omega) (by omega)).trans HD.out.ref⟩; clear hd)
          | (go_at_call 11; (with_reducible refine (at_any g1 l1 (nextAt x.kind x.n x.bits n k) _ S1.out).mono ?_); rintro e w5 ⟨rfl, rfl⟩)
          | (go_at_call 11; (with_reducible refine (at_any g2 l2 (nextAt x.kind x.n x.bits n k) _ HE.out.tape).mono ?_); rintro e w5 ⟨rfl, rfl⟩)
          | (go_at_call 17; (with_reducible refine (left_n g1 l1 (nextAt x.kind x.n x.bits n k) n _ S1.out HN1.out).mono ?_); rintro e w5 ⟨rfl, m1, rfl⟩; have HE' := Aside0.mk (HE.out.tape.keep (pw_below_drewN (Below.refl w4.heap.size w4) m1)))
          | (go_at_call 17; (with_reducible refine (left_n g2 l2 (nextAt x.kind x.n x.bits n k) n _ HE'.out HN2.out).mono ?_); rintro e w5 ⟨rfl, m2, rfl⟩))
        go_roundw
        case rel => exact ⟨j + 1, _, by omega, by go_num, ⟨S1.out.keep (pw_below_drewN (Below.refl _ _) _), HE.out.tape.keep (pw_below_drewN (Below.refl _ _) _), P1.out.keep (pw_below_drewN (Below.refl _ _) _), HE.out.ref.keep (pw_below_drewN (Below.refl _ _) _), pw_below_drewN B4.out _⟩⟩
        case measure => simp [intOf]; omega
      · have q5 : (60 : Int) ≤ (j : Int) := by omega
        go_wp2_with (go_at_call 7; (with_reducible refine (awake_true _ (HL.out.keep HO.out.below)).mono ?_); rintro e w6 ⟨rfl, hb6⟩; have B6 := Aside0.mk hb6; clear hb6)
        go_ret
        exact ⟨rfl, HO.out.below.trans (B6.out.mono HO.out.below.size)⟩
    · go_wp2_with (go_at_call 7; (with_reducible refine (awake_true _ (HL.out.keep HO.out.below)).mono ?_); rintro e w6 ⟨rfl, hb6⟩; have B6 := Aside0.mk hb6; clear hb6)
      go_ret
      exact ⟨rfl, HO.out.below.trans (B6.out.mono HO.out.below.size)⟩

set_option maxHeartbeats 4000000 in
theorem blind_all (A1 A2 A3 : Option Addr) (c1 c2 c3 : Nat) (l1 l2 : List Int) (p : List Act3) (w : World) (hL : Laid0 w) (hl1 : ReadsInt w .u64 A1 l1.length l1) (hcap1 : l1.length ≤ c1) (hu1 : U64s l1) (hl2 : ReadsInt w .u64 A2 l2.length l2) (hcap2 : l2.length ≤ c2) (hu2 : U64s l2) (hp : Kd.C kA w A3 p.length p) (hpm : p.length ≤ 9223372036854775807) :
    Calls Tryd.prog 6 #[.slice A1 l1.length c1, .slice A2 l2.length c2, .slice A3 p.length c3] w fun e w' => e = .returned (.bool true) ∧ Below w.heap.size w w' := by
  by_cases h1 : l1.length ≤ 500
  · by_cases h2 : l1.length = l2.length
    · rw [← h2]
      exact blind_any A1 A2 A3 c1 c2 c3 l1.length l1 l2 p w hL hl1 hcap1 hu1 (by rw [h2]; exact hl2) (by rw [h2]; exact hcap2) hu2 hp hpm h1
    · have q1 : (l1.length : Int) ≤ 500 := by omega
      have q2 : decide (l1.length = l2.length) = false := decide_eq_false h2
      have q3 : ((l1.length : Int) != (l2.length : Int)) = true := by simp; omega
      have HL := Aside0.mk hL; clear hL hl1 hl2 hp h1 h2
      go_enter Tryd.func6, Tryd.ntmps6
      go_wp2_with (go_at_call 7; (with_reducible refine (awake_true _ HL.out).mono ?_); rintro e w1 ⟨rfl, hb⟩; have HB := Aside0.mk hb; clear hb)
      go_ret
      exact ⟨rfl, HB.out⟩
  · have q1 : (500 : Int) < (l1.length : Int) := by omega
    have HL := Aside0.mk hL; clear hL hl1 hl2 h1 hp
    go_enter Tryd.func6, Tryd.ntmps6
    go_wp2_with (go_at_call 7; (with_reducible refine (awake_true _ HL.out).mono ?_); rintro e w1 ⟨rfl, hb⟩; have HB := Aside0.mk hb; clear hb)
    go_ret
    exact ⟨rfl, HB.out⟩
end Go.Proofs.YtpkjomnmkgpomaaDoor
