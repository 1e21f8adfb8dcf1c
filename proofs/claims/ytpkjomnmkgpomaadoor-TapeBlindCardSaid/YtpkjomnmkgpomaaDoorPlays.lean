import Derived.Test.YtpkjomnmkgpomaaDoorDoes
namespace Go.Proofs.YtpkjomnmkgpomaaDoor
open Go.RowKit Go.Extern.Stop Go.Stop Go.Extern Go.Proofs.YtpkjomnmkgpomaaDoorW.PrintWords Go.Proofs.YtpkjomnmkgpomaaDoorArith

/-- A call, as data. -/
structure Act3 where
  kind : Int
  n : Int
  bits : Int
def kA : Kd Act3 := Kd.iso (Kd.pair (Kd.int .i64) (Kd.pair (Kd.int .i64) (Kd.int .i64))) (fun x : Act3 => (x.kind, x.n, x.bits))
theorem acts_at {w : World} {A : Option Addr} {n : Nat} {xs : List Act3} (h : Kd.C kA w A n xs) (j : Nat) (hj : j < n) :
    ∃ ad x, A = some ad ∧ w.cell? (ad.add (j * 3)) = some (.int .i64 x.kind) ∧ w.cell? ⟨(ad.add (j * 3)).block, (ad.add (j * 3)).off + 1, none⟩ = some (.int .i64 x.n) ∧ w.cell? ⟨(ad.add (j * 3)).block, (ad.add (j * 3)).off + 2, none⟩ = some (.int .i64 (Act3.bits x)) := by
  obtain ⟨ad, c, e, _, hK, hc0⟩ := Kd.C_get h ⟨0, 0, 0⟩ (j : Int) (by omega) (by omega)
  have hc : ∀ i u, c[i]? = some u → w.cell? (ad.add ((j : Int).toNat * 3 + i)) = some u := hc0
  rw [Int.toNat_natCast] at hc
  obtain ⟨_, _, rfl, rfl, ⟨_, _, rfl, rfl, rfl⟩⟩ := hK
  exact ⟨ad, _, e, hc 0 _ rfl, by rw [← add_field _ _ 1 (by omega)]; exact hc 1 _ rfl, by rw [← add_field _ _ 2 (by omega)]; exact hc 2 _ rfl⟩
theorem Grown2.old {w0 w w' : World} {g gr : Nat} (h : Grown2 w w' g gr) (hb : Below w0.heap.size w0 w) (hg : w0.heap.size ≤ g) (hr : w0.heap.size ≤ gr) : Below w0.heap.size w0 w' :=
  ⟨h.os.trans hb.os, h.tape.trans hb.tape, h.output.trans hb.output, Nat.le_trans hb.size h.size, fun q hq => (h.block q (Nat.lt_of_lt_of_le hq hb.size) (by omega) (by omega)).trans (hb.block q hq)⟩

set_option maxRecDepth 100000 in
set_option maxHeartbeats 8000000 in
theorem plays_any (A A2 : Option Addr) (c c2 : Nat) (l : List Int) (p : List Act3) (w : World) (hL : Laid0 w) (hl : ReadsInt w .u64 A l.length l) (hcap : l.length ≤ c) (hu : U64s l) (hp : Kd.C kA w A2 p.length p) (hpm : p.length ≤ 9223372036854775807) (b500 : l.length ≤ 500) :
    Calls Tryd.prog 5 #[.slice A l.length c, .slice A2 p.length c2] w fun e w' => e = .returned (.bool true) ∧ Below w.heap.size w w' := by
  have HL := Aside0.mk hL; have HR := Aside0.mk hl; have HP := Aside0.mk hp; clear hL hl hp
  have q1 : (l.length : Int) ≤ 500 := by omega
  have q2 : (p.length : Int) ≤ 9223372036854775807 := by omega
  go_enter Tryd.func5, Tryd.ntmps5
  go_wp2_with (first
    | (go_at_call 8; refine (tnew_any A c l _ HR.out (by omega)).mono ?_; rintro e w1 ⟨g, rfl, ht, hg, hb⟩; have HT := Aside0.mk ht; have G1 := Aside0.mk hg; have B1 := Aside0.mk hb; clear ht hg hb))
  have HT0 := Aside0.mk (HT.out.keep (below_alloc (Below.refl w1.heap.size w1) (.cells #[.slice A l.length c, .int .i64 0] 54)))
  have HR0 : Aside0 (RTape (w1.alloc (.cells #[.slice A l.length c, .int .i64 0] 54)) w1.heap.size A c l 0) := ⟨heap_alloc_new w1 _⟩
  have HB0 := Aside0.mk (below_alloc B1.out (.cells #[.slice A l.length c, .int .i64 0] 54))
  go_loopw [8] (fun i wr => ∃ j k : Nat, j ≤ p.length ∧ i = .int .i64 j ∧ Aside0 (TapeAt wr g w1.heap.size l k) ∧ Aside0 (RTape wr w1.heap.size A c l k) ∧ Aside0 (Below w.heap.size w wr)) (fun i _ => p.length - (intOf i).toNat)
  case atStart => exact ⟨0, 0, Nat.zero_le _, rfl, HT0, HR0, HB0⟩
  case round =>
    obtain ⟨j, k, hj, rfl, HT, HRT, HB⟩ := hrel
    have q3 : (0 : Int) ≤ (j : Int) := by omega
    by_cases hlt : j < p.length
    · have q4 : (j : Int) < (p.length : Int) := by omega
      by_cases h60 : j < 60
      · have q5 : (j : Int) < 60 := by omega
        obtain ⟨ad, x, rfl, x0, x1, x2⟩ := acts_at (Kd.C_below HP.out HB.out) j hlt
        go_wp2_with (first
          | (go_at_call 18; (with_reducible refine (does_ok g w1.heap.size w1.heap.size A c l k x.kind x.n x.bits _ HT.out HRT.out w HR.out HB.out G1.out B1.out.size hcap hu HL.out).mono ?_); rintro e w3 ⟨rfl, hd⟩; have HD := Aside0.mk hd; clear hd))
        go_roundw
        case rel => exact ⟨j + 1, _, by omega, by go_num, ⟨HD.out.tape⟩, ⟨HD.out.ref⟩, ⟨HD.out.grown.old HB.out G1.out B1.out.size⟩⟩
        case measure => simp [intOf]; omega
      · have q5 : (60 : Int) ≤ (j : Int) := by omega
        go_wp2_with (go_at_call 7; (with_reducible refine (awake_true _ (HL.out.keep HB.out)).mono ?_); rintro e w6 ⟨rfl, hb6⟩; have B6 := Aside0.mk hb6; clear hb6)
        go_ret
        exact ⟨rfl, HB.out.trans (B6.out.mono HB.out.size)⟩
    · go_wp2_with (go_at_call 7; (with_reducible refine (awake_true _ (HL.out.keep HB.out)).mono ?_); rintro e w6 ⟨rfl, hb6⟩; have B6 := Aside0.mk hb6; clear hb6)
      go_ret
      exact ⟨rfl, HB.out.trans (B6.out.mono HB.out.size)⟩
set_option maxHeartbeats 4000000 in
theorem plays_all (A A2 : Option Addr) (c c2 : Nat) (l : List Int) (p : List Act3) (w : World) (hL : Laid0 w) (hl : ReadsInt w .u64 A l.length l) (hcap : l.length ≤ c) (hu : U64s l) (hp : Kd.C kA w A2 p.length p) (hpm : p.length ≤ 9223372036854775807) :
    Calls Tryd.prog 5 #[.slice A l.length c, .slice A2 p.length c2] w fun e w' => e = .returned (.bool true) ∧ Below w.heap.size w w' := by
  by_cases h1 : l.length ≤ 500
  · exact plays_any A A2 c c2 l p w hL hl hcap hu hp hpm h1
  · have q1 : (500 : Int) < (l.length : Int) := by omega
    have HL := Aside0.mk hL; clear hL hl h1 hp
    go_enter Tryd.func5, Tryd.ntmps5
    go_wp2_with (go_at_call 7; (with_reducible refine (awake_true _ HL.out).mono ?_); rintro e w1 ⟨rfl, hb⟩; have HB := Aside0.mk hb; clear hb)
    go_ret
    exact ⟨rfl, HB.out⟩
end Go.Proofs.YtpkjomnmkgpomaaDoor
