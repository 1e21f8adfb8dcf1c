import Derived.Test.YtpkjomnmkgpomaaDoorTape4
namespace Go.Proofs.YtpkjomnmkgpomaaDoor
open Go.RowKit Go.Extern.Stop Go.Stop Go.Extern Go.Proofs.YtpkjomnmkgpomaaDoorW.PrintWords Go.Proofs.YtpkjomnmkgpomaaDoorArith

/-- A known block lies on beneath a new one. -/
theorem kept_new {w : World} {g : Nat} {cs : Array Value} {t : TypeId} (h : w.heap[g]? = some (.cells cs t (0, 0))) (o : Obj) : (w.alloc o).heap[g]? = some (.cells cs t (0, 0)) := (heap_alloc_old w o (heap_lt h)).trans h
set_option maxRecDepth 100000 in
set_option maxHeartbeats 4000000 in
theorem rnum_bad (A : Option Addr) (c : Nat) (l : List Int) (k : Nat) (n b : Int) (w : World) (hk : k ≤ l.length) (hm : l.length ≤ 1048576) (h1 : 1 ≤ b) (h2 : b ≤ 64) (hc : readyC n (l.length - k) ≠ 0) :
    Calls Tryd.prog 26 #[.agg #[.slice A l.length c, .int .i64 k], .int .i64 n, .int .i64 b] w fun e w' => e = .returned (.tuple #[.agg #[.slice A l.length c, .int .i64 k], .slice none 0 0, .int .i64 (readyC n (l.length - k))]) ∧ Below w.heap.size w w' := by
  have HC := Aside0.mk hc; clear hc
  have B0 : Aside0 (Below w.heap.size w ((w.alloc (.cells #[.slice A l.length c, .int .i64 k] 54)).alloc (.cells #[.slice none 0 0, .int .i64 0] 54))) := ⟨((Below.refl _ _).alloc (Nat.le_refl _) _).alloc (by simp) _⟩
  have Z0 : Aside0 (((w.alloc (.cells #[.slice A l.length c, .int .i64 k] 54)).alloc (.cells #[.slice none 0 0, .int .i64 0] 54)).heap[w.heap.size + 1]? = some (.cells #[.slice none 0 0, .int .i64 0] 54 (0, 0))) := ⟨by have := heap_alloc_new (w.alloc (.cells #[.slice A l.length c, .int .i64 k] 54)) (.cells #[.slice none 0 0, .int .i64 0] 54); simpa using this⟩
  go_enter Tryd.func26, Tryd.ntmps26
  go_wp2_with (go_at_call 24; refine (rtake_bad A c l k n _ hk hm HC.out).mono ?_; rintro e w1 ⟨rfl, hb⟩; have z1 := (hb.block _ (heap_lt Z0.out)).trans Z0.out; have B1 := Aside0.mk (B0.out.trans (hb.mono B0.out.size)); have Z1 := Aside0.mk z1; have d0 : ∀ o : Obj, (w1.alloc o).cell? ⟨w.heap.size + 1, 0, none⟩ = some (.slice none 0 0) := fun o => heap_cell (kept_new z1 o); have d1 : ∀ o : Obj, (w1.alloc o).cell? ⟨w.heap.size + 1, 1, none⟩ = some (.int .i64 0) := fun o => heap_cell (kept_new z1 o); have d2 : ∀ o : Obj, (w1.alloc o).frozen? ⟨w.heap.size + 1, 0, none⟩ = false := fun o => heap_free (kept_new z1 o); have d3 : ∀ o : Obj, (w1.alloc o).frozen? ⟨w.heap.size + 1, 1, none⟩ = false := fun o => heap_free (kept_new z1 o); clear hb z1)
  refine wp_loop_rounds 1 ?_
  rw [rounds_succ]
  go_wp2
  have hf := heap_set (i := 1) (v := .int .i64 k) (heap_set (i := 0) (v := .slice A l.length c) (kept_new Z1.out (.cells #[.slice A l.length c, .int .i64 k] 54)))
  have f0 : (((w1.alloc (.cells #[.slice A l.length c, .int .i64 k] 54)).setCell ⟨w.heap.size + 1, 0, none⟩ (.slice A l.length c)).setCell ⟨w.heap.size + 1, 1, none⟩ (.int .i64 k)).cell? ⟨w.heap.size + 1, 0, none⟩ = some (.slice A l.length c) := heap_cell hf
  have f1 : (((w1.alloc (.cells #[.slice A l.length c, .int .i64 k] 54)).setCell ⟨w.heap.size + 1, 0, none⟩ (.slice A l.length c)).setCell ⟨w.heap.size + 1, 1, none⟩ (.int .i64 k)).cell? ⟨w.heap.size + 1, 1, none⟩ = some (.int .i64 k) := heap_cell hf
  refine bodyPost_ret (v := .tuple #[.agg #[.slice A l.length c, .int .i64 k], .slice none 0 0, .int .i64 (readyC n (l.length - k))]) (by simp [results, Tryd.results26, go_sem, f0, f1]) rfl ⟨rfl, ((B1.out.alloc B1.out.size _).setCell (by simp) _).setCell (by simp) _⟩

theorem own_ne {w : World} {base n g : Nat} {e t : TypeId} {size : Nat} {v : Value} {xs : List Value} {cs : Array Value} {fr : Nat × Nat} (h : w.ownsRow base e size v n xs) (hg : w.heap[g]? = some (.cells cs t fr)) (hne : t ≠ e) : v.ownBlock ≠ some g := by
  rcases h.2 with ⟨rfl, _⟩ | ⟨g', cap, cur, rfl, _, hh, _⟩
  · intro e'; cases e'
  · intro e'
    have e'' : g' = g := by simpa [Value.ownBlock] using e'
    subst e''
    rw [hh] at hg
    injection hg with hg
    injection hg with _ hg
    exact hne hg.symm
theorem Row.low' {w : World} {base b n : Nat} {e : TypeId} {size : Nat} {v : Value} {xs : List Value} (h : w.ownsRow base e size v n xs) (hb : b ≤ base) : w.ownsRow b e size v n xs := by
  refine ⟨h.1, ?_⟩
  rcases h.2 with h2 | ⟨g, cap, cur, e1, e2, r⟩
  · exact .inl h2
  · exact .inr ⟨g, cap, cur, e1, Nat.le_trans hb e2, r⟩
set_option maxRecDepth 100000 in
set_option maxHeartbeats 4000000 in
theorem rnum_ok (A : Option Addr) (c : Nat) (l : List Int) (k n b : Nat) (w : World) (hr : ReadsInt w .u64 A l.length l) (hcap : l.length ≤ c) (hn : k + n ≤ l.length) (hm : l.length ≤ 1048576) (h1 : 1 ≤ b) (h2 : b ≤ 64) (hu : U64s l) :
    Calls Tryd.prog 26 #[.agg #[.slice A l.length c, .int .i64 k], .int .i64 n, .int .i64 b] w fun e w' => ∃ v, e = .returned (.tuple #[.agg #[.slice A l.length c, .int .i64 ((k + n : Nat) : Int)], v, .int .i64 0]) ∧ Row w' w.heap.size v ((cutOf l k n).map (cutW b)) ∧ Below w.heap.size w w' := by
  have HU := Aside0.mk (hu.cut k n); clear hu
  have q1 : (1 : Int) ≤ b := by omega
  have q2 : (b : Int) ≤ 64 := by omega
  have q5 : (n : Int) ≤ 1048576 := by omega
  have HL := Aside0.mk (cutOf_length l k n hn)
  have B0 : Aside0 (Below w.heap.size w ((w.alloc (.cells #[.slice A l.length c, .int .i64 k] 54)).alloc (.cells #[.slice none 0 0, .int .i64 0] 54))) := ⟨((Below.refl _ _).alloc (Nat.le_refl _) _).alloc (by simp) _⟩
  have HR0 := Aside0.mk (hr.below B0.out); clear hr
  have Z0 : Aside0 (((w.alloc (.cells #[.slice A l.length c, .int .i64 k] 54)).alloc (.cells #[.slice none 0 0, .int .i64 0] 54)).heap[w.heap.size + 1]? = some (.cells #[.slice none 0 0, .int .i64 0] 54 (0, 0))) := ⟨by have := heap_alloc_new (w.alloc (.cells #[.slice A l.length c, .int .i64 k] 54)) (.cells #[.slice none 0 0, .int .i64 0] 54); simpa using this⟩
  go_enter Tryd.func26, Tryd.ntmps26
  go_wp2_with (go_at_call 24; refine (rtake_ok A c l k n _ HR0.out hcap hn hm).mono ?_; rintro e w1 ⟨v, rfl, hv, hb⟩; obtain ⟨Av, cv, rfl, _⟩ := hv.reads; have hv' : w1.ownsRow _ 35 1 (.slice Av (cutOf l k n).length cv) (cutOf l k n).length (nums .u64 (cutOf l k n)) := hv; rw [HL.out] at hv'; have HV := Aside0.mk hv'; have Z1 := Aside0.mk ((hb.block _ (heap_lt Z0.out)).trans Z0.out); have B1 := Aside0.mk (B0.out.trans (hb.mono B0.out.size)); have HS := Aside0.mk hb.size; clear hb hv hv')
  rw [HL.out]
  have HW : Aside0 ((w1.alloc (.cells #[.slice A l.length c, .int .i64 ((k : Int) + n)] 54)).ownsRow (w.heap.size + 2) 35 1 (.slice Av n cv) n (nums .u64 (mix (cutW b) (cutOf l k n) 0))) := ⟨by rw [mix_zero]; have := HV.out.alloc (.cells #[.slice A l.length c, .int .i64 ((k : Int) + n)] 54); simpa using this⟩
  have Y1 := Aside0.mk (heap_alloc_new w1 (.cells #[.slice A l.length c, .int .i64 ((k : Int) + n)] 54))
  have Z2 := Aside0.mk (kept_new Z1.out (.cells #[.slice A l.length c, .int .i64 ((k : Int) + n)] 54))
  go_loopw [12] (fun i wr => ∃ j : Nat, j ≤ n ∧ i = .int .i64 j ∧ Aside0 (wr.ownsRow (w.heap.size + 2) 35 1 (.slice Av n cv) n (nums .u64 (mix (cutW b) (cutOf l k n) j))) ∧ Aside0 ((w1.alloc (.cells #[.slice A l.length c, .int .i64 ((k : Int) + n)] 54)).grownBy wr (Value.slice Av n cv).ownBlock)) (fun i _ => n - (intOf i).toNat)
  case atStart => exact ⟨0, Nat.zero_le _, rfl, HW, ⟨World.grownBy.refl _ _⟩⟩
  case round =>
    obtain ⟨j, hj, rfl, HR, HGR⟩ := hrel
    by_cases hlt : j < n
    · obtain ⟨gv, cap, e, hg1, hg2⟩ := HR.out.form (by omega)
      injection e with e1 e2 e3
      subst e1; subst e3
      obtain ⟨hc, hz⟩ := own_at HR.out (j : Int) (by omega) (by omega)
      have hrd : rd (mix (cutW b) (cutOf l k n) j) (j : Int) = (cutOf l k n).getD j 0 := by unfold rd; rw [Int.toNat_natCast, mix_getD]
      rw [hrd] at hc
      simp only [Int.toNat_natCast] at hc hz
      have hx := HU.out.getD j
      have HS := Aside0.mk (own_store HR.out (j : Int) (cutW b ((cutOf l k n).getD j 0)))
      rw [Int.toNat_natCast, mix_set _ _ _ (by rw [HL.out]; exact hlt)] at HS
      clear hrd
      generalize (cutOf l k n).getD j 0 = x at hc HS hx
      have q3 : (0 : Int) ≤ (j : Int) := by omega
      have q4 : (j : Int) < (n : Int) := by omega
      go_wp2_with (go_at_call 30; (with_reducible refine (rcut_any x b _ hx.1 hx.2 h1 h2).mono ?_); rintro e w3 ⟨rfl, rfl⟩)
      go_roundw
      case rel => exact ⟨j + 1, by omega, by go_num, ⟨HS.out.1⟩, ⟨HGR.out.trans HS.out.2⟩⟩
      case measure => simp [intOf]; omega
    · obtain rfl : j = n := by omega
      have yb := (HGR.out.block _ (heap_lt Y1.out) (fun e => own_ne HW.out Y1.out (by decide) e.symm)).trans Y1.out
      have zb := (HGR.out.block _ (heap_lt Z2.out) (fun e => own_ne HW.out Z2.out (by decide) e.symm)).trans Z2.out
      have y0 : wr.cell? ⟨w1.heap.size, 0, none⟩ = some (.slice A l.length c) := heap_cell yb
      have y1 : wr.cell? ⟨w1.heap.size, 1, none⟩ = some (.int .i64 ((k : Int) + j)) := heap_cell yb
      have z0 : wr.cell? ⟨w.heap.size + 1, 0, none⟩ = some (.slice none 0 0) := heap_cell zb
      have z1 : wr.cell? ⟨w.heap.size + 1, 1, none⟩ = some (.int .i64 0) := heap_cell zb
      have z2 : wr.frozen? ⟨w.heap.size + 1, 0, none⟩ = false := heap_free zb
      have z3 : wr.frozen? ⟨w.heap.size + 1, 1, none⟩ = false := heap_free zb
      have ZB := Aside0.mk zb
      clear yb zb
      go_wp2
      have hf := heap_set (i := 1) (v := .int .i64 ((k : Int) + j)) (heap_set (i := 0) (v := .slice A l.length c) ZB.out)
      have f0 : ((wr.setCell ⟨w.heap.size + 1, 0, none⟩ (.slice A l.length c)).setCell ⟨w.heap.size + 1, 1, none⟩ (.int .i64 ((k : Int) + j))).cell? ⟨w.heap.size + 1, 0, none⟩ = some (.slice A l.length c) := heap_cell hf
      have f1 : ((wr.setCell ⟨w.heap.size + 1, 0, none⟩ (.slice A l.length c)).setCell ⟨w.heap.size + 1, 1, none⟩ (.int .i64 ((k : Int) + j))).cell? ⟨w.heap.size + 1, 1, none⟩ = some (.int .i64 ((k : Int) + j)) := heap_cell hf
      have hr := HR.out
      rw [mix_end _ _ _ (Nat.le_of_eq HL.out)] at hr
      have hrow : ∀ q, (Value.slice Av j cv).ownBlock = some q → w.heap.size ≤ q := fun q e => by have := (World.ownsRow.lt hr q e).1; omega
      refine bodyPost_ret (v := .tuple #[.agg #[.slice A l.length c, .int .i64 ((k : Int) + j)], .slice Av j cv, .int .i64 0]) (by simp [results, Tryd.results26, go_sem, f0, f1]) rfl ⟨.slice Av j cv, by simp, ?_, ?_⟩
      · have hr' : Row wr w.heap.size (.slice Av j cv) ((cutOf l k j).map (cutW b)) := by
          show wr.ownsRow _ _ _ _ (((cutOf l k j).map (cutW b)).length) _
          rw [List.length_map, HL.out]; exact Row.low' hr (by omega)
        have r1 : RowIs wr (some (w.heap.size + 1)) 54 := fun k' e => by injection e with e; subst e; exact ⟨_, _, ZB.out⟩
        have r2 : RowIs (wr.setCell ⟨w.heap.size + 1, 0, none⟩ (.slice A l.length c)) (some (w.heap.size + 1)) 54 := fun k' e => by injection e with e; subst e; exact ⟨_, _, heap_set ZB.out⟩
        exact (hr'.kept (grown_set wr ⟨w.heap.size + 1, 0, none⟩ _) r1 (by decide)).kept (grown_set _ ⟨w.heap.size + 1, 1, none⟩ _) r2 (by decide)
      · exact ((((B1.out.alloc B1.out.size _).grown HGR.out (by have := B1.out.size; simp; omega) hrow).setCell (by simp) _).setCell (by simp) _)
end Go.Proofs.YtpkjomnmkgpomaaDoor
