import Derived.Test.YtpkjomnmkgpomaaDoorTape3
import Derived.Handy
namespace Go.Proofs.YtpkjomnmkgpomaaDoor
open Go.RowKit Go.Extern.Stop Go.Stop Go.Extern Go.Proofs.YtpkjomnmkgpomaaDoorW.PrintWords

/-! ### The reference's tape -/
set_option maxHeartbeats 4000000 in
theorem rtake_bad (A : Option Addr) (c : Nat) (l : List Int) (k : Nat) (n : Int) (w : World) (hk : k ≤ l.length) (hm : l.length ≤ 1048576) (hc : readyC n (l.length - k) ≠ 0) :
    Calls Tryd.prog 24 #[.agg #[.slice A l.length c, .int .i64 k], .int .i64 n] w fun e w' => e = .returned (.tuple #[.agg #[.slice A l.length c, .int .i64 k], .slice none 0 0, .int .i64 (readyC n (l.length - k))]) ∧ Below w.heap.size w w' := by
  have b1 : (k : Int) ≤ l.length := by omega
  have b2 : (l.length : Int) ≤ 1048576 := by omega
  unfold readyC at hc ⊢
  by_cases h1 : n < 0
  · rw [if_pos h1]
    clear hc
    go_enter Tryd.func24, Tryd.ntmps24
    go_wp2
    exact bodyPost_ret (v := .tuple #[.agg #[.slice A l.length c, .int .i64 k], .slice none 0 0, .int .i64 1]) (by simp [results, Tryd.results24, go_sem]) rfl ⟨rfl, by go_grown⟩
  · rw [if_neg h1] at hc ⊢
    have h2 : n > (l.length : Int) - k := by
      by_cases h2 : n > (l.length : Int) - k
      · exact h2
      · exact absurd (if_neg h2) hc
    rw [if_pos h2]
    clear hc
    go_enter Tryd.func24, Tryd.ntmps24
    go_wp2
    exact bodyPost_ret (v := .tuple #[.agg #[.slice A l.length c, .int .i64 k], .slice none 0 0, .int .i64 10]) (by simp [results, Tryd.results24, go_sem]) rfl ⟨rfl, by go_grown⟩

theorem alloc_at1 (w : World) (o1 o2 o3 : Obj) : (((w.alloc o1).alloc o2).alloc o3).heap[w.heap.size]? = some o1 := by
  rw [heap_alloc_old _ _ (by simp; omega), heap_alloc_old _ _ (by simp)]; exact heap_alloc_new w o1
theorem alloc_at2 (w : World) (o1 o2 o3 : Obj) : (((w.alloc o1).alloc o2).alloc o3).heap[w.heap.size + 1]? = some o2 := by
  rw [heap_alloc_old _ _ (by simp)]; have := heap_alloc_new (w.alloc o1) o2; simpa using this
theorem empty_row (w : World) (o1 o2 : Obj) : (((w.alloc o1).alloc o2).alloc (.cells #[] 35)).ownsRow w.heap.size 35 1 (.slice (some ⟨w.heap.size + 1 + 1, 0, none⟩) 0 0) ([] : List Int).length (nums .u64 []) := by
  have h := World.ownsRow_made (base := w.heap.size) (e := 35) (size := 1) ((w.alloc o1).alloc o2) #[] 0 (by simp; omega) (by simp [maxLen]) rfl
  simpa [nums] using h
theorem below3 (w : World) (o1 o2 o3 : Obj) : Below w.heap.size w (((w.alloc o1).alloc o2).alloc o3) :=
  (((Below.refl _ _).alloc (Nat.le_refl _) o1).alloc (by simp) o2).alloc (by simp; omega) o3
set_option maxRecDepth 100000 in
set_option maxHeartbeats 4000000 in
theorem rtake_ok (A : Option Addr) (c : Nat) (l : List Int) (k n : Nat) (w : World) (hr : ReadsInt w .u64 A l.length l) (hcap : l.length ≤ c) (hn : k + n ≤ l.length) (hm : l.length ≤ 1048576) :
    Calls Tryd.prog 24 #[.agg #[.slice A l.length c, .int .i64 k], .int .i64 n] w fun e w' => ∃ v, e = .returned (.tuple #[.agg #[.slice A l.length c, .int .i64 ((k + n : Nat) : Int)], v, .int .i64 0]) ∧ Row w' w.heap.size v (cutOf l k n) ∧ Below w.heap.size w w' := by
  obtain ⟨i0, hi, hz0, hz1, hz2⟩ := info_parts infoU64
  obtain ⟨A', hcut, hcr, hcc⟩ := print_mid_int (P := Tryd.prog) (k := .u64) 22 35 Tryd.underlying22 hi hz1 A c l (k : Int) ((k : Int) + n) (by omega) (by omega) (by omega) hcap
  have hcl : ((l.take ((k : Int) + n).toNat).drop (k : Int).toNat) = cutOf l k n := by unfold cutOf; rw [show ((k : Int) + n).toNat = k + n by omega, Int.toNat_natCast]
  rw [hcl] at hcut hcr hcc
  have b1 : (k : Int) + n ≤ l.length := by omega
  have b2 : (l.length : Int) ≤ 1048576 := by omega
  have HCR : Aside0 (ReadsInt w .u64 A' (cutOf l k n).length (cutOf l k n)) := ⟨hcr w hr⟩
  have HCL := Aside0.mk (cutOf_length l k n hn)
  clear hi hz0 hz1 hz2 hcr hcc hcl hr
  go_enter Tryd.func24, Tryd.ntmps24
  go_wp2_with (at_builtin; refine print_append_row (w0 := w) w.heap.size rfl (.tmp 20) (.tmp 29) 22 35 .u64 8 rfl Tryd.underlying22 infoU64 (by decide) (.slice (some ⟨w.heap.size + 1 + 1, 0, none⟩) 0 0) [] (cutOf l k n) A' _ _ rfl rfl (empty_row w _ _) (HCR.out.below (below3 w _ _ _)) (below3 w _ _ _) (below3 w _ _ _).size (by rw [HCL.out]; simp; omega) ?_; intro v1 w1 hown hb hg hat; have e1 := (hg.block w.heap.size (by simp; omega) (by simp [Value.ownBlock]; omega)).trans (alloc_at1 w _ _ _); have e2 := (hg.block (w.heap.size + 1) (by simp) (by simp [Value.ownBlock])).trans (alloc_at2 w _ _ _); have c0 : w1.cell? ⟨w.heap.size, 0, none⟩ = some (.slice A l.length c) := heap_cell e1; have c1 : w1.cell? ⟨w.heap.size, 1, none⟩ = some (.int .i64 k) := heap_cell e1; have d0 : w1.cell? ⟨w.heap.size + 1, 0, none⟩ = some (.slice none 0 0) := heap_cell e2; have d1 : w1.cell? ⟨w.heap.size + 1, 1, none⟩ = some (.int .i64 0) := heap_cell e2; have d2 : w1.frozen? ⟨w.heap.size + 1, 0, none⟩ = false := heap_free e2; have d3 : w1.frozen? ⟨w.heap.size + 1, 1, none⟩ = false := heap_free e2; have HO := Aside0.mk hown; have HB := Aside0.mk hb; have HE := Aside0.mk e2; clear hown hb hg hat e1 e2)
  have hf := heap_set (i := 1) (v := .int .i64 ((k : Int) + n)) (heap_set (i := 0) (v := .slice A l.length c) HE.out)
  have f0 : ((w1.setCell ⟨w.heap.size + 1, 0, none⟩ (.slice A l.length c)).setCell ⟨w.heap.size + 1, 1, none⟩ (.int .i64 ((k : Int) + n))).cell? ⟨w.heap.size + 1, 0, none⟩ = some (.slice A l.length c) := heap_cell hf
  have f1 : ((w1.setCell ⟨w.heap.size + 1, 0, none⟩ (.slice A l.length c)).setCell ⟨w.heap.size + 1, 1, none⟩ (.int .i64 ((k : Int) + n))).cell? ⟨w.heap.size + 1, 1, none⟩ = some (.int .i64 ((k : Int) + n)) := heap_cell hf
  refine bodyPost_ret (v := .tuple #[.agg #[.slice A l.length c, .int .i64 ((k : Int) + n)], v1, .int .i64 0]) (by simp [results, Tryd.results24, go_sem, f0, f1]) rfl ⟨v1, by simp, ?_, ?_⟩
  · have ho : Row w1 w.heap.size v1 (cutOf l k n) := HO.out
    have g1 := grown_set w1 ⟨w.heap.size + 1, 0, none⟩ (.slice A l.length c)
    have g2 := grown_set (w1.setCell ⟨w.heap.size + 1, 0, none⟩ (.slice A l.length c)) ⟨w.heap.size + 1, 1, none⟩ (.int .i64 ((k : Int) + n))
    have r1 : RowIs w1 (some (w.heap.size + 1)) 54 := fun k' e => by injection e with e; subst e; exact ⟨_, _, HE.out⟩
    have r2 : RowIs (w1.setCell ⟨w.heap.size + 1, 0, none⟩ (.slice A l.length c)) (some (w.heap.size + 1)) 54 := fun k' e => by injection e with e; subst e; exact ⟨_, _, heap_set HE.out⟩
    exact (ho.kept g1 r1 (by decide)).kept g2 r2 (by decide)
  · exact (HB.out.setCell (by simp) _).setCell (by simp) _

set_option maxHeartbeats 4000000 in
theorem rskip_any (A : Option Addr) (c : Nat) (l : List Int) (k : Nat) (n : Int) (w : World) :
    Calls Tryd.prog 28 #[.agg #[.slice A l.length c, .int .i64 k], .int .i64 n] w fun e w' => e = .returned (.tuple #[.agg #[.slice A l.length c, .int .i64 (if n < k then (k : Int) else if n > l.length then (k : Int) else n)], .int .i64 (if n < k then 1 else if n > l.length then 10 else 0)]) ∧ Below w.heap.size w w' := by
  by_cases h1 : n < k
  · simp only [if_pos h1]
    go_enter Tryd.func28, Tryd.ntmps28
    go_wp2
    exact bodyPost_ret (v := .tuple #[.agg #[.slice A l.length c, .int .i64 k], .int .i64 1]) (by simp [results, Tryd.results28, go_sem]) rfl ⟨rfl, by go_grown⟩
  · simp only [if_neg h1]
    by_cases h2 : n > l.length
    · simp only [if_pos h2]
      go_enter Tryd.func28, Tryd.ntmps28
      go_wp2
      exact bodyPost_ret (v := .tuple #[.agg #[.slice A l.length c, .int .i64 k], .int .i64 10]) (by simp [results, Tryd.results28, go_sem]) rfl ⟨rfl, by go_grown⟩
    · simp only [if_neg h2]
      go_enter Tryd.func28, Tryd.ntmps28
      go_wp2
      exact bodyPost_ret (v := .tuple #[.agg #[.slice A l.length c, .int .i64 n], .int .i64 0]) (by simp [results, Tryd.results28, go_sem]) rfl ⟨rfl, by go_grown⟩

theorem pow_two_pos (b : Nat) : (0 : Int) < 2 ^ b := Int.pow_pos (by decide)
theorem pow_two_le (b : Nat) (h : b ≤ 63) : (2 : Int) ^ b ≤ 9223372036854775808 := by
  have h1 : (2 : Nat) ^ b ≤ 2 ^ 63 := Nat.pow_le_pow_right (by decide) h
  have h2 : ((2 ^ b : Nat) : Int) ≤ ((2 ^ 63 : Nat) : Int) := Int.ofNat_le.2 h1
  simpa using h2
/-- A word cut to bits. -/
def cutW (bits x : Int) : Int := if bits ≥ 64 then x else x % 2 ^ bits.toNat
set_option maxHeartbeats 4000000 in
theorem rcut_any (x : Int) (b : Nat) (w : World) (hx : 0 ≤ x) (hx' : x ≤ 18446744073709551615) (h1 : 1 ≤ b) (h2 : b ≤ 64) :
    Calls Tryd.prog 30 #[.int .u64 x, .int .i64 b] w fun e w' => e = .returned (.int .u64 (cutW b x)) ∧ w = w' := by
  unfold cutW
  by_cases h : b = 64
  · subst h
    go_enter Tryd.func30, Tryd.ntmps30
    go_wp2
    go_ret
    exact ⟨rfl, rfl⟩
  · have h3 : (b : Int) < 64 := by omega
    have h4 : (0 : Int) ≤ b := by omega
    rw [if_neg (by omega), Int.toNat_natCast]
    have hp := pow_two_pos b
    have hw : IntKind.u64.wrap ((2 : Int) ^ b) = 2 ^ b := IntWalk.u64_in _ (by have := pow_two_le b (by omega); omega)
    have hz : ¬ (2 : Int) ^ b = 0 := by omega
    go_enter Tryd.func30, Tryd.ntmps30
    go_wp2
    go_ret
    exact ⟨rfl, rfl⟩
end Go.Proofs.YtpkjomnmkgpomaaDoor
