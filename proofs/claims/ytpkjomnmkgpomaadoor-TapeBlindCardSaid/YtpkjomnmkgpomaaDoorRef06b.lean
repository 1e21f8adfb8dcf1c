import Derived.Test.YtpkjomnmkgpomaaDoorSeed
namespace Go.Proofs.YtpkjomnmkgpomaaDoor
open Go.RowKit Go.Extern.Stop Go.Stop Go.Extern Go.Proofs.YtpkjomnmkgpomaaDoorW.PrintWords Go.Proofs.YtpkjomnmkgpomaaDoorArith

/-! ### The reference's seed -/
set_option maxHeartbeats 4000000 in
theorem rseed_none (c : Nat) (w : World) : Calls Tryd.prog 27 #[.slice none 0 c] w fun e w' => e = .returned (.agg zeros32) ∧ Below w.heap.size w w' := by
  go_enter Tryd.func27, Tryd.ntmps27
  go_wp2
  refine wp_loop_rounds 1 ?_
  rw [rounds_succ]
  have HZ := Aside0.mk (heap_alloc_new (w.alloc (.cells zeros32 42)) (.cells zeros32 42))
  have HY : Aside0 (((w.alloc (.cells zeros32 42)).alloc (.cells zeros32 42)).heap[w.heap.size]? = some (.cells zeros32 42 (0, 0))) := ⟨two_heap w _ _⟩
  have HZ' : Aside0 (((w.alloc (.cells zeros32 42)).alloc (.cells zeros32 42)).heap[w.heap.size + 1]? = some (.cells zeros32 42 (0, 0))) := ⟨by have := HZ.out; simpa using this⟩
  go_wp2_with (first
    | ((with_reducible refine gate_dst (N := 35) rfl ?_); refine wpList_load_row rfl 42 (.tmp 3) rfl (w.heap.size + 1) rfl 42 zeros32 (0, 0) _ HZ'.out Tryd.underlying42 rfl (by kernel_rfl) ?_)
    | ((with_reducible refine gate_store (t := 42) (p := 2) rfl ?_); refine wpList_store_row rfl 42 (.tmp 2) (.tmp 35) rfl w.heap.size zeros32 rfl rfl 42 zeros32 HY.out (by kernel_rfl) rfl zeros32_one ?_; rw [setRow_self _ _ _ _ _ HY.out]))
  exact bodyPost_ret (v := .agg zeros32) (results_cell_row Tryd.results27 _ _ w.heap.size 42 zeros32 (0, 0) _ rfl HY.out Tryd.underlying42 rfl (by kernel_rfl)) rfl ⟨rfl, by go_grown⟩

theorem seedF_at (l : List Int) (i k : Nat) (hk : k < 8) : seedF l (8 * i + k) = l.getD i 0 / 2 ^ (8 * k) % 256 := by
  unfold seedF
  rw [show (8 * i + k) / 8 = i by omega, show (8 * i + k) % 8 = k by omega]
theorem div_step (x : Int) (k : Nat) : x / 2 ^ (8 * k) / 256 = x / 2 ^ (8 * (k + 1)) := by
  rw [Int.ediv_ediv_of_nonneg (by exact Int.le_of_lt (Int.pow_pos (by decide)))]
  congr 1
  rw [show 8 * (k + 1) = 8 * k + 8 by omega, Int.pow_add]; rfl
set_option maxRecDepth 100000 in
set_option maxHeartbeats 4000000 in
theorem rseed_four (A : Option Addr) (c : Nat) (l : List Int) (w : World) (hr : ReadsInt w .u64 A 4 l) (hu : U64s l) :
    Calls Tryd.prog 27 #[.slice A 4 c] w fun e w' => e = .returned (.agg (seedL l 32).toArray) ∧ Below w.heap.size w w' := by
  have HR := Aside0.mk hr; have HU := Aside0.mk hu; clear hr hu
  go_enter Tryd.func27, Tryd.ntmps27
  go_wp2
  have HB0 : Aside0 (Below w.heap.size w ((w.alloc (.cells zeros32 42)).alloc (.cells zeros32 42))) := ⟨((Below.refl _ _).alloc (Nat.le_refl _) _).alloc (by simp) _⟩
  have HY0 : Aside0 (((w.alloc (.cells zeros32 42)).alloc (.cells zeros32 42)).heap[w.heap.size]? = some (.cells zeros32 42 (0, 0))) := ⟨two_heap w _ _⟩
  have HZ0 : Aside0 (((w.alloc (.cells zeros32 42)).alloc (.cells zeros32 42)).heap[w.heap.size + 1]? = some (.cells (seedL l 0).toArray 42 (0, 0))) := ⟨by rw [seedL_zero]; have := heap_alloc_new (w.alloc (.cells zeros32 42)) (.cells zeros32 42); simpa using this⟩
  go_loopw [4, 5, 6] (fun i s5 s6 wr => ∃ j : Nat, j ≤ 4 ∧ i = .int .i64 j ∧ Aside0 (wr.heap[w.heap.size + 1]? = some (.cells (seedL l (8 * j)).toArray 42 (0, 0))) ∧ Aside0 (wr.heap[w.heap.size]? = some (.cells zeros32 42 (0, 0))) ∧ Aside0 (Below w.heap.size w wr)) (fun i _ _ _ => 4 - (intOf i).toNat)
  case atStart => exact ⟨0, by omega, rfl, HZ0, HY0, HB0⟩
  case round =>
    obtain ⟨j, hj, rfl, HZ, HY, HB⟩ := hrel
    by_cases hlt : j < 4
    · obtain ⟨ad, rfl, hx⟩ := (HR.out.below HB.out).at_ (j : Int) (by omega) (by omega)
      have hrd : rd l (j : Int) = l.getD j 0 := by unfold rd; rw [Int.toNat_natCast]
      rw [hrd, Int.toNat_natCast] at hx
      have q3 : (0 : Int) ≤ (j : Int) := by omega
      have q4 : (j : Int) < 4 := by omega
      have HX := Aside0.mk (HU.out.getD j)
      clear hrd
      obtain ⟨wo, rfl⟩ : ∃ wo : World, wo = wr := ⟨_, rfl⟩
      go_wp2
      go_loopw [5, 6] (fun s5 s6 wr => ∃ k : Nat, k ≤ 8 ∧ s6 = .int .i64 k ∧ s5 = .int .u64 (l.getD j 0 / 2 ^ (8 * k)) ∧ Aside0 (wr.heap[w.heap.size + 1]? = some (.cells (seedL l (8 * j + k)).toArray 42 (0, 0))) ∧ Aside0 (wr.heap[w.heap.size]? = some (.cells zeros32 42 (0, 0))) ∧ Aside0 (Below w.heap.size w wr)) (fun _ s6 _ => 8 - (intOf s6).toNat)
      case atStart => exact ⟨0, by omega, rfl, by simp, HZ, HY, HB⟩
      case round =>
        obtain ⟨k, hk, rfl, rfl, HZ, HY, HB⟩ := hrel
        by_cases hlt2 : k < 8
        · have hc := (heap_cell (i := 8 * j + k) HZ.out).trans (seedL_get _ _ _ (by omega))
          have hz : wr.frozen? ⟨w.heap.size + 1, 8 * j + k, none⟩ = false := heap_free HZ.out
          have HS := Aside0.mk ((heap_set (i := 8 * j + k) (v := .int .u8 (seedF l (8 * j + k))) HZ.out).trans (by rw [seedL_set]))
          rw [seedF_at _ _ _ hlt2] at HS
          have HD := Aside0.mk (div_step (l.getD j 0) k)
          have hp : (0 : Int) < 2 ^ (8 * k) := Int.pow_pos (by decide)
          have hx0 : 0 ≤ l.getD j 0 / 2 ^ (8 * k) := Int.ediv_nonneg HX.out.1 (Int.le_of_lt hp)
          have hx1 : l.getD j 0 / 2 ^ (8 * k) ≤ 18446744073709551615 := Int.le_trans (Int.ediv_le_self _ HX.out.1) HX.out.2
          have q5 : (0 : Int) ≤ (k : Int) := by omega
          have q6 : (k : Int) < 8 := by omega
          have q7 : (8 * (j : Int) + (k : Int)).toNat = 8 * j + k := by omega
          have q8 : 8 * (j : Int) + (k : Int) < 32 := by omega
          clear hp
          generalize l.getD j 0 / 2 ^ (8 * k) = y at HS HD hx0 hx1 ⊢
          go_wp2
          go_roundw
          case rel => exact ⟨k + 1, by omega, by go_num, by rw [HD.out], HS, ⟨(Below.heap_setCell _ _ _ _ (by simp)).trans HY.out⟩, ⟨HB.out.setCell (by simp) _⟩⟩
          case measure => simp [intOf]; omega
        · obtain rfl : k = 8 := by omega
          go_wp2
          go_roundw
          case rel => exact ⟨j + 1, by omega, by go_num, ⟨HZ.out⟩, HY, HB⟩
          case measure => simp [intOf]; omega
    · obtain rfl : j = 4 := by omega
      have HI : Aside0 ((Tryd.prog.info? 42).map (·.size) = some (seedL l 32).toArray.size) := ⟨by rw [List.size_toArray, seedL_length]; kernel_rfl⟩
      have HS1 : Aside0 (zeros32.size = (seedL l 32).toArray.size) := ⟨by have h : (seedL l 32).toArray.size = 32 := (by rw [List.size_toArray, seedL_length]); rw [h]; rfl⟩
      have HZ32 : Aside0 (wr.heap[w.heap.size + 1]? = some (.cells (seedL l 32).toArray 42 (0, 0))) := ⟨HZ.out⟩
      go_wp2_with (first
        | ((with_reducible refine gate_dst (N := 35) rfl ?_); refine wpList_load_row rfl 42 (.tmp 3) rfl (w.heap.size + 1) rfl 42 (seedL l 32).toArray (0, 0) _ HZ32.out Tryd.underlying42 rfl HI.out ?_)
        | ((with_reducible refine gate_store (t := 42) (p := 2) rfl ?_); refine wpList_store_row rfl 42 (.tmp 2) (.tmp 35) rfl w.heap.size (seedL l 32).toArray rfl rfl 42 zeros32 HY.out HI.out HS1.out (seedL_one _ _) ?_))
      refine bodyPost_ret (v := .agg (seedL l 32).toArray) (results_cell_row Tryd.results27 _ _ w.heap.size 42 (seedL l 32).toArray (0, 0) _ rfl (setRow_heap wr w.heap.size zeros32 _ 42 (0, 0) HY.out) Tryd.underlying42 rfl HI.out) rfl ⟨rfl, ?_⟩
      exact HB.out.trans ⟨rfl, rfl, rfl, by simp, fun q hq => setRow_other wr w.heap.size q _ (by omega)⟩

/-! ### The reference's numbers -/
set_option maxHeartbeats 4000000 in
theorem rnum_shape (A : Option Addr) (c : Nat) (l : List Int) (k : Nat) (n b : Int) (w : World) (h : ¬ (1 ≤ b ∧ b ≤ 64)) :
    Calls Tryd.prog 26 #[.agg #[.slice A l.length c, .int .i64 k], .int .i64 n, .int .i64 b] w fun e w' => e = .returned (.tuple #[.agg #[.slice A l.length c, .int .i64 k], .slice none 0 0, .int .i64 11]) ∧ Below w.heap.size w w' := by
  by_cases h2 : b < 1
  · clear h
    go_enter Tryd.func26, Tryd.ntmps26
    go_wp2
    exact bodyPost_ret (v := .tuple #[.agg #[.slice A l.length c, .int .i64 k], .slice none 0 0, .int .i64 11]) (by simp [results, Tryd.results26, go_sem]) rfl ⟨rfl, by go_grown⟩
  · have h3 : 64 < b := by omega
    clear h
    go_enter Tryd.func26, Tryd.ntmps26
    go_wp2
    exact bodyPost_ret (v := .tuple #[.agg #[.slice A l.length c, .int .i64 k], .slice none 0 0, .int .i64 11]) (by simp [results, Tryd.results26, go_sem]) rfl ⟨rfl, by go_grown⟩
end Go.Proofs.YtpkjomnmkgpomaaDoor
