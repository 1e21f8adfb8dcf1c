import Derived.Test.YtpkjomnmkgpomaaDoorFault
import Derived.Deep.RegionLawGrows
namespace Go.Proofs.YtpkjomnmkgpomaaDoor
open Go.RowKit Go.Extern.Stop Go.Stop Go.Extern Go.Proofs.YtpkjomnmkgpomaaDoorW.PrintWords

theorem noUnwraps (v : Value) (xT : TypeId) (w : World) : (Instr.typeAssert (.iface 74 v) xT 80 true).run Tryd.prog w = .ok (.tuple #[.nilIface, .bool false]) w := run_typeAssert_lacksB Tryd.underlying80 (by kernel_rfl) (by kernel_rfl) v xT w

theorem infoErrno : (Tryd.prog.info? 48).map (fun i => (i.zero, i.size, i.bytes)) = some (some (.int .i64 0), 1, 8) := by kernel_rfl
theorem alloc4 (w : World) (o1 o2 o3 o4 : Obj) (row : Option Nat) : w.grownBy ((((w.alloc o1).alloc o2).alloc o3).alloc o4) row :=
  World.grownBy.trans (b := w.alloc o1) (World.grownBy_alloc _ _ _) (World.grownBy.trans (b := (w.alloc o1).alloc o2) (World.grownBy_alloc _ _ _) (World.grownBy.trans (b := ((w.alloc o1).alloc o2).alloc o3) (World.grownBy_alloc _ _ _) (World.grownBy_alloc _ _ _)))
theorem grown_set (w : World) (a : Addr) (v : Value) : w.grownBy (w.setCell a v) (some a.block) :=
  ⟨rfl, rfl, rfl, by simp [World.setCell], fun k hk hne => Below.heap_setCell _ _ _ _ (by intro e; exact hne (by rw [e]))⟩
theorem heap_set0 {w : World} {g : Nat} {old v : Value} {t : TypeId} (h : w.heap[g]? = some (.cells #[old] t (0, 0))) : (w.setCell ⟨g, 0, none⟩ v).heap[g]? = some (.cells #[v] t (0, 0)) := by
  simp [World.setCell, Array.getElem?_modify, h]
/-- errors.As at a fault: the pointer is set. -/
theorem as_fault (e : Addr) (g : Nat) (t : TypeId) (old : Value) (w : World) (hL : Laid0 w) (hh : w.heap[g]? = some (.cells #[old] t (0, 0))) :
    Calls Tryd.prog 31 #[.iface 74 (.pointer (some e)), .iface 84 (.pointer (some ⟨g, 0, none⟩))] w fun ev w' => ev = .returned (.bool true) ∧ w.grownBy w' (some g) ∧ w'.heap[g]? = some (.cells #[.pointer (some e)] t (0, 0)) := by
  have hg := heap_lt hh
  refine (as_hit e ⟨g, 0, none⟩ old w hL (by rw [heap_cell hh]; rfl) (heap_free hh)).mono fun ev w' ⟨he, hw⟩ => ⟨he, ?_⟩
  rw [hw]
  exact ⟨(alloc4 w _ _ _ _ _).trans (grown_set _ ⟨g, 0, none⟩ _), heap_set0 (((alloc4 w _ _ _ _ none).block g hg (fun e => by cases e)).trans hh)⟩

theorem keep2 {w w1 : World} {o1 o2 : Obj} (hg : ((w.alloc o1).alloc o2).grownBy w1 (some w.heap.size)) {g : Nat} {o : Obj} (h : w.heap[g]? = some o) : w1.heap[g]? = some o := by
  have hl := heap_lt h
  rw [hg.block g (by simp; omega) (by intro e; injection e with e; omega), heap_alloc_old _ _ (by simp; omega), heap_alloc_old _ _ hl]; exact h
theorem keep2' {w w1 : World} {o1 o2 : Obj} (hg : ((w.alloc o1).alloc o2).grownBy w1 (some w.heap.size)) (row : Option Nat) : w.grownBy w1 row :=
  ⟨hg.os, hg.tape, hg.output, Nat.le_trans (by simp; omega) hg.size, fun k hk _ => by rw [hg.block k (by simp; omega) (by intro e; injection e with e; omega), heap_alloc_old _ _ (by simp; omega), heap_alloc_old _ _ hk]⟩
theorem Laid0.two {w : World} (h : Laid0 w) (o1 o2 : Obj) : Laid0 ((w.alloc o1).alloc o2) := (h.grown (World.grownBy_alloc w o1 none) (by simp)).grown (World.grownBy_alloc _ o2 none) (by simp)
theorem two_heap (w : World) (o1 o2 : Obj) : ((w.alloc o1).alloc o2).heap[w.heap.size]? = some o1 := by
  rw [heap_alloc_old _ _ (by simp)]; exact heap_alloc_new w o1

theorem grown_wide {w w' : World} (h : w.grownBy w' none) (row : Option Nat) : w.grownBy w' row := ⟨h.os, h.tape, h.output, h.size, fun k hk _ => h.block k hk (fun e => by cases e)⟩
theorem collect_end {w w1 w' : World} {gl k cap : Nat} {c : Int} {cur : Value} (G1 : w.grownBy w1 (some gl)) (o : Obj) (HG' : (w1.alloc o).drew.grownBy w' none) (HO : w'.ownsRow (w1.alloc o).drew.heap.size 48 1 (.slice (some ⟨k, 0, none⟩) 1 cap) 1 ([] ++ [.int .i64 c])) (LW : w'.heap[gl]? = some (.cells #[cur] 65 (0, 0))) (L1 : w1.heap[gl]? = some (.cells #[cur] 65 (0, 0))) :
    w.grownBy (w'.setCell ⟨gl, 0, none⟩ (.slice (some ⟨k, 0, none⟩) 1 cap)) (some gl) ∧
      ∃ k' cap', (w'.setCell ⟨gl, 0, none⟩ (.slice (some ⟨k, 0, none⟩) 1 cap)).heap[gl]? = some (.cells #[.slice (some ⟨k', 0, none⟩) 1 cap'] 65 (0, 0)) ∧ (w'.setCell ⟨gl, 0, none⟩ (.slice (some ⟨k, 0, none⟩) 1 cap)).cell? ⟨k', 0, none⟩ = some (.int .i64 c) := by
  have HG : (w1.alloc o).grownBy w' none := ⟨HG'.os, HG'.tape, HG'.output, HG'.size, HG'.block⟩
  refine ⟨((G1.trans (World.grownBy_alloc w1 o _)).trans (grown_wide HG _)).trans (grown_set _ _ _), k, cap, heap_set0 LW, ?_⟩
  have hk := (HO.lt k rfl).1
  have hl := heap_lt L1
  have hne : k ≠ gl := by simp at hk; omega
  refine (World.cell?_setCell_other w' ⟨gl, 0, none⟩ ⟨k, 0, none⟩ _ (fun e => hne (by injection e with e; exact e.symm))).trans ?_
  exact HO.cells (g := k) rfl 0 _ rfl

/-! ### fault.collect: at a root, at what came of another, at none -/
set_option maxRecDepth 100000 in
set_option maxHeartbeats 4000000 in
theorem collect_root (g gl : Nat) (c : Int) (s : ByteArray) (w : World) (hL : Laid0 w) (hf : w.heap[g]? = some (.cells #[.int .i64 c, .string s, .nilIface] 76 (0, 0)))
    (hl : w.heap[gl]? = some (.cells #[.slice none 0 0] 65 (0, 0))) :
    Calls Tryd.prog 29 #[.iface 74 (.pointer (some ⟨g, 0, none⟩)), .pointer (some ⟨gl, 0, none⟩)] w fun e w' => e = .returned (.tuple #[]) ∧ w.grownBy w' (some gl) ∧
      ∃ k cap, w'.heap[gl]? = some (.cells #[.slice (some ⟨k, 0, none⟩) 1 cap] 65 (0, 0)) ∧ w'.cell? ⟨k, 0, none⟩ = some (.int .i64 c) := by
  have nu := noUnwraps
  have hz : w.heap.size ≠ 0 := by have := heap_lt hf; omega
  have HL := Aside0.mk hL; have HF := Aside0.mk hf; have HS := Aside0.mk hl; clear hL hf hl
  go_enter Tryd.func29, Tryd.ntmps29
  go_wp2_with (first | (go_at_call 31; refine (as_fault ⟨g, 0, none⟩ w.heap.size 74 (.pointer none) _ (HL.out.two _ _) (two_heap _ _ _)).mono ?_; rintro e w1 ⟨rfl, hg1, hp1⟩; have f1 := keep2 hg1 HF.out; have l1 := keep2 hg1 HS.out; have G1 := Aside0.mk (keep2' hg1 (some gl)); have c0 : w1.cell? ⟨g, 0, none⟩ = some (.int .i64 c) := heap_cell f1; have c2 : w1.cell? ⟨g, 2, none⟩ = some .nilIface := heap_cell f1; have cl : w1.cell? ⟨gl, 0, none⟩ = some (.slice none 0 0) := heap_cell l1; have zl : w1.frozen? ⟨gl, 0, none⟩ = false := heap_free l1; have cp : w1.cell? ⟨w.heap.size, 0, none⟩ = some (.pointer (some ⟨g, 0, none⟩)) := heap_cell hp1; have L1 := Aside0.mk l1; clear hg1 hp1 f1 l1))
  obtain ⟨i0, hi, hz0, hz1, hz2⟩ := info_parts infoErrno
  have ca : (w1.alloc (.cells #[.int .i64 c] 48)).cell? ⟨gl, 0, none⟩ = some (.slice none 0 0) := heap_cell ((heap_alloc_old w1 _ (heap_lt L1.out)).trans L1.out)
  go_region_law (refine step_append_grows rfl (.tmp 35) (.tmp 40) 65 rfl 48 i0 (.int .i64 0) 1 8 Tryd.underlying65 hi hz0 hz1 hz2 rfl (by decide) none 0 0 [] (by simp [Act.eval]) (fun _ => ⟨rfl, rfl⟩) rfl (fun b e => by cases e) ⟨w1.heap.size, 0, none⟩ 1 1 [.int .i64 c] (by simp [Act.eval]) rfl (World.news_of_block (cs := #[.int .i64 c]) (t := 48) (fr := (0, 0)) (heap_alloc_new w1 _)) (by intro u hu; simp at hu; subst hu; rfl) (by decide) (by decide) (by decide) ?_; intro v' w' hown hgrow; obtain ⟨k, cap, rfl, hk1, hk2⟩ := hown.form (by decide); have lw : w'.heap[gl]? = some (.cells #[.slice none 0 0] 65 (0, 0)) := (hgrow.block gl (by have := heap_lt L1.out; simp; omega) (by intro e; cases e)).trans ((heap_alloc_old w1 _ (heap_lt L1.out)).trans L1.out); have cw : w'.cell? ⟨gl, 0, none⟩ = some (.slice none 0 0) := heap_cell lw; have zw : w'.frozen? ⟨gl, 0, none⟩ = false := heap_free lw; have HO := Aside0.mk hown; have HG := Aside0.mk hgrow; have LW := Aside0.mk lw; clear hown hgrow lw)
  all_goals (go_wp2; go_end0; exact ⟨rfl, collect_end G1.out _ HG.out HO.out LW.out L1.out⟩)

/-- What collect leaves: the one number, in a row of its own. -/
def Got (w : World) (gl : Nat) (c : Int) (e : Ending) (w' : World) : Prop := e = .returned (.tuple #[]) ∧ w.grownBy w' (some gl) ∧
      ∃ k cap, w'.heap[gl]? = some (.cells #[.slice (some ⟨k, 0, none⟩) 1 cap] 65 (0, 0)) ∧ w'.cell? ⟨k, 0, none⟩ = some (.int .i64 c)
set_option maxRecDepth 100000 in
set_option maxHeartbeats 4000000 in
theorem collect_wrap (g gl : Nat) (a : Addr) (c : Int) (s : ByteArray) (w : World) (hL : Laid0 w) (hf : w.heap[g]? = some (.cells #[.int .i64 0, .string s, .iface 74 (.pointer (some a))] 76 (0, 0)))
    (hl : w.heap[gl]? = some (.cells #[.slice none 0 0] 65 (0, 0)))
    (ih : ∀ w1, w.grownBy w1 none → Calls Tryd.prog 29 #[.iface 74 (.pointer (some a)), .pointer (some ⟨gl, 0, none⟩)] w1 (Got w1 gl c)) :
    Calls Tryd.prog 29 #[.iface 74 (.pointer (some ⟨g, 0, none⟩)), .pointer (some ⟨gl, 0, none⟩)] w (Got w gl c) := by
  have nu := noUnwraps
  have hz : w.heap.size ≠ 0 := by have := heap_lt hf; omega
  have HL := Aside0.mk hL; have HF := Aside0.mk hf; have HS := Aside0.mk hl; have IH := Aside0.mk ih; clear hL hf hl ih
  go_enter Tryd.func29, Tryd.ntmps29
  go_wp2_with (first | (go_at_call 31; refine (as_fault ⟨g, 0, none⟩ w.heap.size 74 (.pointer none) _ (HL.out.two _ _) (two_heap _ _ _)).mono ?_; rintro e w1 ⟨rfl, hg1, hp1⟩; have f1 := keep2 hg1 HF.out; have G1 := Aside0.mk (keep2' hg1 none); have c2 : w1.cell? ⟨g, 2, none⟩ = some (.iface 74 (.pointer (some a))) := heap_cell f1; have cp : w1.cell? ⟨w.heap.size, 0, none⟩ = some (.pointer (some ⟨g, 0, none⟩)) := heap_cell hp1; clear hg1 hp1 f1) | (go_at_call 29; refine (IH.out _ G1.out).mono ?_; rintro e w2 ⟨rfl, hg2, hx2⟩; have G2 := Aside0.mk hg2; have X2 := Aside0.mk hx2; clear hg2 hx2))
  go_end0
  exact ⟨rfl, (grown_wide G1.out _).trans G2.out, X2.out⟩

theorem collect_any {w0 : World} {v : Value} {c : Int} (h : ErrV w0 v c) : ∀ (w : World) (gl : Nat), w0.grownBy w none → Laid0 w → w.heap[gl]? = some (.cells #[.slice none 0 0] 65 (0, 0)) → c ≠ 0 →
    Calls Tryd.prog 29 #[v, .pointer (some ⟨gl, 0, none⟩)] w (Got w gl c) := by
  induction h with
  | nil0 => intro w gl _ _ _ hc; exact absurd rfl hc
  | root hh _ => intro w gl hg hL hl _; exact collect_root _ gl _ _ w hL ((hg.block _ (heap_lt hh) (fun e => by cases e)).trans hh) hl
  | wrap hh _ ih =>
    intro w gl hg hL hl hc
    refine collect_wrap _ gl _ _ _ w hL ((hg.block _ (heap_lt hh) (fun e => by cases e)).trans hh) hl (fun w1 hg1 => ih w1 gl (hg.trans hg1) (hL.grown hg1 (by simp)) ((hg1.block _ (heap_lt hl) (fun e => by cases e)).trans hl) hc)

/-! ### fault.Codes, fault.Code -/
set_option maxHeartbeats 4000000 in
theorem codes_any (v : Value) (c : Int) (w : World) (h : ErrV w v c) (hc : c ≠ 0) (hL : Laid0 w) :
    Calls Tryd.prog 23 #[v] w fun e w' => ∃ k cap, e = .returned (.slice (some ⟨k, 0, none⟩) 1 cap) ∧ w'.cell? ⟨k, 0, none⟩ = some (.int .i64 c) ∧ Below w.heap.size w w' := by
  have H := Aside0.mk h; have HL := Aside0.mk hL; have HC := Aside0.mk hc; clear h hL hc
  go_enter Tryd.func23, Tryd.ntmps23
  go_wp2_with (first | (go_at_call 29; refine (collect_any H.out (w.alloc (.cells #[.slice none 0 0] 65)) w.heap.size (World.grownBy_alloc _ _ _) (HL.out.grown (World.grownBy_alloc _ _ none) (by simp)) (heap_alloc_new _ _) HC.out).mono ?_; rintro e w1 ⟨rfl, hg1, k, cap, hk1, hk2⟩; have cl : w1.cell? ⟨w.heap.size, 0, none⟩ = some (.slice (some ⟨k, 0, none⟩) 1 cap) := heap_cell hk1; have G1 := Aside0.mk hg1; have K2 := Aside0.mk hk2; clear hg1 hk1 hk2))
  go_ret
  exact ⟨k, cap, rfl, K2.out, ((Below.refl _ _).alloc (Nat.le_refl _) _).grown G1.out (by simp) (by intro k e; injection e with e; omega)⟩
theorem code_none (w : World) : Calls Tryd.prog 15 #[.nilIface] w fun e w' => e = .returned (.int .i64 0) ∧ w = w' := by
  go_enter Tryd.func15, Tryd.ntmps15
  go_wp2
  go_ret
  exact ⟨rfl, rfl⟩
set_option maxHeartbeats 4000000 in
theorem code_some (g : Nat) (c : Int) (w : World) (h : ErrV w (.iface 74 (.pointer (some ⟨g, 0, none⟩))) c) (hc : c ≠ 0) (hL : Laid0 w) :
    Calls Tryd.prog 15 #[.iface 74 (.pointer (some ⟨g, 0, none⟩))] w fun e w' => e = .returned (.int .i64 c) ∧ Below w.heap.size w w' := by
  have H := Aside0.mk h; have HL := Aside0.mk hL; have HC := Aside0.mk hc; clear h hL hc
  go_enter Tryd.func15, Tryd.ntmps15
  go_wp2_with (first | (go_at_call 23; refine (codes_any _ c _ H.out HC.out HL.out).mono ?_; rintro e w1 ⟨k, cap, rfl, hk, hb⟩; have B1 := Aside0.mk hb; clear hb))
  refine wp_loop_rounds 1 ?_
  rw [rounds_succ]
  go_wp2
  go_ret
  exact ⟨rfl, B1.out⟩
theorem code_any (v : Value) (c : Int) (w : World) (h : ErrV w v c) (hL : Laid0 w) :
    Calls Tryd.prog 15 #[v] w fun e w' => e = .returned (.int .i64 c) ∧ Below w.heap.size w w' := by
  rcases h.zero with ⟨rfl, rfl⟩ | ⟨hc, g, rfl⟩
  · exact (code_none w).mono fun e w' ⟨he, hw⟩ => ⟨he, hw ▸ Below.refl _ _⟩
  · exact code_some g c w h hc hL
end Go.Proofs.YtpkjomnmkgpomaaDoor
