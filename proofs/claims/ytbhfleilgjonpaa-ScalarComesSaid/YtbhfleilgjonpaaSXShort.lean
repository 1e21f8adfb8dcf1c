import Derived.Test.YtbhfleilgjonpaaSXMore
import Derived.Test.YtbhfleilgjonpaaSWLast
import Derived.Test.YtbhfleilgjonpaaSWTab
import Derived.WalkKit
import Derived.KernelRfl
import Derived.BigQuiet
namespace Go.Proofs.YtbhfleilgjonpaaW.PrintWords
open Go.RowKit Go.Proofs.YtbhfleilgjonpaaW.PrintLast
set_option linter.unusedVariables false
def bA (n m : Nat) : Array Bool := ((List.range n).map fun i => m.testBit i).toArray
theorem rY {α : Type} {y e : α} {P Q : Prop} (hy : y = e) (H : P) (h : y = e → P → Q := by intro hy_ H_;first | (rw [hy_];with_reducible exact H_) | (have H2_ := (Option.bind_some _ _).symm.trans H_;rw [hy_];with_reducible exact H2_) | (have H2_ := (Option.bind_some _ _).symm.trans H_;with_reducible exact H2_) | with_reducible exact H_ | (rw [hy_];exact H_) | exact H_) : Q := h hy H
theorem sT {α : Type} (a : List α) (i : Nat) (x : α) : a.toArray.setIfInBounds i x = (a.set i x).toArray := List.setIfInBounds_toArray ..
theorem sZ {α : Type} (a b : α) (l : List α) : (a :: l).set 0 b = b :: l := List.set_cons_zero
theorem sS {α : Type} (a b : α) (l : List α) (n : Nat) : (a :: l).set (n + 1) b = a :: l.set n b := List.set_cons_succ
section
variable {w W w1 : World} {g : Nat} {o : Obj}
theorem rB (H : Aside0 (w.heap[g]? = some o)) (h : w.heap[g]? = some o → W.heap[g]? = some o := by intro h_;(with_reducible repeat (first | refine blk_drewN ?_ _ | refine blk_drew ?_ | refine blk_alloc ?_ _));exact h_) : W.heap[g]? = some o := h H.out
theorem bb (H : Aside0 (w.heap[g]? = some o)) (hb : Below W.heap.size W w1) (h : w.heap[g]? = some o → W.heap[g]? = some o := by intro h_;(with_reducible repeat (first | refine blk_drewN ?_ _ | refine blk_drew ?_ | refine blk_alloc ?_ _));exact h_) : Aside0 (w1.heap[g]? = some o) := ⟨blk_below (h H.out) hb⟩
theorem rW {w0 : World} (H : Aside0 (Below w0.heap.size w0 w)) (h : Below w0.heap.size w0 w → Below w0.heap.size w0 W := by intro h_;repeat (first | (with_reducible first | exact h_ | apply below_alloc | apply pw_below_drewN | apply below_drew1 | refine below_set ?_ (Aside0.out (by assumption))) | exact h_)) : Below w0.heap.size w0 W := h H.out
theorem bs {w0 : World} (H : Aside0 (Below w0.heap.size w0 w)) (hb : Below W.heap.size W w1) (h : Below w0.heap.size w0 w → Below w0.heap.size w0 W := by intro h_;repeat (first | (with_reducible first | exact h_ | apply below_alloc | apply pw_below_drewN | apply below_drew1 | refine below_set ?_ (Aside0.out (by assumption))) | exact h_)) : Aside0 (Below w0.heap.size w0 w1) := ⟨below_step (h H.out) hb⟩
theorem bz {w0 : World} (H : Aside0 (Below w0.heap.size w0 w)) (hg : g = W.heap.size) (h : Below w0.heap.size w0 w → Below w0.heap.size w0 W := by intro h_;repeat (first | (with_reducible first | exact h_ | apply below_alloc | apply pw_below_drewN | apply below_drew1 | refine below_set ?_ (Aside0.out (by assumption))) | exact h_)) : Aside0 (w0.heap.size ≤ g) := ⟨by rw [hg];exact below_size (h H.out)⟩
theorem bg {g' : Nat} (H : Aside0 (w.heap[g]? = some o)) (hg : g' = W.heap.size) (h : w.heap[g]? = some o → W.heap[g]? = some o := by intro h_;(with_reducible repeat (first | refine blk_drewN ?_ _ | refine blk_drew ?_ | refine blk_alloc ?_ _));exact h_) : Aside0 (g' ≠ g) := ⟨by rw [hg];exact Nat.ne_of_gt (blk_lt (h H.out))⟩
theorem bl {g' : Nat} (H : Aside0 (w.heap[g]? = some o)) (hg : g' = W.heap.size) (h : w.heap[g]? = some o → W.heap[g]? = some o := by intro h_;(with_reducible repeat (first | refine blk_drewN ?_ _ | refine blk_drew ?_ | refine blk_alloc ?_ _));exact h_) : Aside0 (g ≠ g') := ⟨by rw [hg];exact Nat.ne_of_lt (blk_lt (h H.out))⟩
end
section
variable {α : Type} {d : Kd α} {e base : Nat} {ok : Nat → Prop} {w W w1 : World} {v : Value} {xs : List α} {g : Nat}
theorem rR (H : Aside0 (d.R e w base ok v xs)) (h : d.R e w base ok v xs → d.R e W base ok v xs := by intro h_;(with_reducible repeat (first | apply Kd.R_alloc | apply Kd.R_drewN | apply Kd.R_drew));exact h_) : d.R e W base ok v xs := h H.out
theorem rN (H : Aside0 (Kd.N d e w base ok v xs)) (h : Kd.N d e w base ok v xs → Kd.N d e W base ok v xs := by intro h_;(with_reducible repeat (first | apply Kd.N_alloc | apply Kd.N_drewN | apply Kd.N_drew));exact h_) : Kd.N d e W base ok v xs := h H.out
theorem rV (H : Aside0 (Kd.V d e w base ok v xs)) (h : Kd.V d e w base ok v xs → Kd.V d e W base ok v xs := by intro h_;(with_reducible repeat (first | apply Kd.V_alloc | apply Kd.V_drewN | apply Kd.V_drew));exact h_) : Kd.V d e W base ok v xs := h H.out
theorem bR (H : Aside0 (d.R e w base ok v xs)) (hb : Below W.heap.size W w1) (h : d.R e w base ok v xs → d.R e W base ok v xs := by intro h_;(with_reducible repeat (first | apply Kd.R_alloc | apply Kd.R_drewN | apply Kd.R_drew));exact h_) : Aside0 (d.R e w1 base ok v xs) := ⟨Kd.R_below (h H.out) hb⟩
theorem bN (H : Aside0 (Kd.N d e w base ok v xs)) (hb : Below W.heap.size W w1) (h : Kd.N d e w base ok v xs → Kd.N d e W base ok v xs := by intro h_;(with_reducible repeat (first | apply Kd.N_alloc | apply Kd.N_drewN | apply Kd.N_drew));exact h_) : Aside0 (Kd.N d e w1 base ok v xs) := ⟨Kd.N_below (h H.out) hb⟩
theorem bV (H : Aside0 (Kd.V d e w base ok v xs)) (hb : Below W.heap.size W w1) (h : Kd.V d e w base ok v xs → Kd.V d e W base ok v xs := by intro h_;(with_reducible repeat (first | apply Kd.V_alloc | apply Kd.V_drewN | apply Kd.V_drew));exact h_) : Aside0 (Kd.V d e w1 base ok v xs) := ⟨Kd.V_below (h H.out) hb⟩
theorem eV (H : Aside0 (Kd.V d e w base ok v xs)) (hg : g = W.heap.size) (hb : Below W.heap.size W w1) (h : Kd.V d e w base ok v xs → Kd.V d e W base ok v xs := by intro h_;(with_reducible repeat (first | apply Kd.V_alloc | apply Kd.V_drewN | apply Kd.V_drew));exact h_) : Aside0 (Kd.V d e w1 base (fun k => ok k ∧ k ≠ g) v xs) := ⟨Kd.V_below (Kd.V_elderB (h H.out) g (Nat.le_of_eq hg.symm)) hb⟩
theorem eN (H : Aside0 (Kd.N d e w base ok v xs)) (hg : g = W.heap.size) (hb : Below W.heap.size W w1) (h : Kd.N d e w base ok v xs → Kd.N d e W base ok v xs := by intro h_;(with_reducible repeat (first | apply Kd.N_alloc | apply Kd.N_drewN | apply Kd.N_drew));exact h_) : Aside0 (Kd.N d e w1 base (fun k => ok k ∧ k ≠ g) v xs) := ⟨Kd.N_below (Kd.N_elderB (h H.out) g (Nat.le_of_eq hg.symm)) hb⟩
theorem lR {β : Type} {d' : Kd β} {e' : Nat} {ok' : Nat → Prop} {u : Value} {ys : List β} (H : Aside0 (d.R e w base ok v xs)) (ho : d'.R e' w1 W.heap.size ok' u ys) (hb : Below W.heap.size W w1) (h : d.R e w base ok v xs → d.R e W base ok v xs := by intro h_;(with_reducible repeat (first | apply Kd.R_alloc | apply Kd.R_drewN | apply Kd.R_drew));exact h_) : Aside0 (d.R e w1 base (fun k => ok k ∧ some k ≠ u.ownBlock) v xs) := ⟨Kd.R_elder' (h H.out) (Kd.R_base ho) hb⟩
theorem lN {β : Type} {d' : Kd β} {e' : Nat} {ok' : Nat → Prop} {u : Value} {ys : List β} (H : Aside0 (Kd.N d e w base ok v xs)) (ho : d'.R e' w1 W.heap.size ok' u ys) (hb : Below W.heap.size W w1) (h : Kd.N d e w base ok v xs → Kd.N d e W base ok v xs := by intro h_;(with_reducible repeat (first | apply Kd.N_alloc | apply Kd.N_drewN | apply Kd.N_drew));exact h_) : Aside0 (Kd.N d e w1 base (fun k => ok k ∧ some k ≠ u.ownBlock) v xs) := ⟨Kd.N_elder' (h H.out) (Kd.R_base ho) hb⟩
theorem lV {β : Type} {d' : Kd β} {e' : Nat} {ok' : Nat → Prop} {u : Value} {ys : List β} (H : Aside0 (Kd.V d e w base ok v xs)) (ho : d'.R e' w1 W.heap.size ok' u ys) (hb : Below W.heap.size W w1) (h : Kd.V d e w base ok v xs → Kd.V d e W base ok v xs := by intro h_;(with_reducible repeat (first | apply Kd.V_alloc | apply Kd.V_drewN | apply Kd.V_drew));exact h_) : Aside0 (Kd.V d e w1 base (fun k => ok k ∧ some k ≠ u.ownBlock) v xs) := ⟨Kd.V_elder' (h H.out) (Kd.R_base ho) hb⟩
theorem rC {A : Option Addr} {n : Nat} (H : d.C w A n xs) (h : d.C w A n xs → d.C W A n xs := by intro h_;repeat (first | exact h_ | (with_reducible refine Kd.C_alloc ?_ _) | (with_reducible refine Kd.C_drewN ?_ _) | (with_reducible refine Kd.C_drew ?_))) : d.C W A n xs := h H
end
theorem cz2 {w : World} {g : Nat} {t : TypeId} {a b : Value} (H : Aside0 (w.heap[g]? = some (.cells #[a,b] t (0,0)))) : w.cell? ⟨g,0,none⟩ = some a ∧ w.cell? ⟨g,1,none⟩ = some b ∧ w.frozen? ⟨g,0,none⟩ = false ∧ w.frozen? ⟨g,1,none⟩ = false := ⟨(blk_cell H.out 0).trans rfl,(blk_cell H.out 1).trans rfl,blk_frozen H.out 0,blk_frozen H.out 1⟩
theorem cz3 {w : World} {g : Nat} {t : TypeId} {a b c : Value} (H : Aside0 (w.heap[g]? = some (.cells #[a,b,c] t (0,0)))) : w.cell? ⟨g,0,none⟩ = some a ∧ w.cell? ⟨g,1,none⟩ = some b ∧ w.cell? ⟨g,2,none⟩ = some c ∧ w.frozen? ⟨g,0,none⟩ = false ∧ w.frozen? ⟨g,1,none⟩ = false ∧ w.frozen? ⟨g,2,none⟩ = false := ⟨(blk_cell H.out 0).trans rfl,(blk_cell H.out 1).trans rfl,(blk_cell H.out 2).trans rfl,blk_frozen H.out 0,blk_frozen H.out 1,blk_frozen H.out 2⟩
theorem cz5 {w : World} {g : Nat} {t : TypeId} {a b c d e : Value} (H : Aside0 (w.heap[g]? = some (.cells #[a,b,c,d,e] t (0,0)))) : w.cell? ⟨g,0,none⟩ = some a ∧ w.cell? ⟨g,1,none⟩ = some b ∧ w.cell? ⟨g,2,none⟩ = some c ∧ w.cell? ⟨g,3,none⟩ = some d ∧ w.cell? ⟨g,4,none⟩ = some e ∧ w.frozen? ⟨g,0,none⟩ = false ∧ w.frozen? ⟨g,1,none⟩ = false ∧ w.frozen? ⟨g,2,none⟩ = false ∧ w.frozen? ⟨g,3,none⟩ = false ∧ w.frozen? ⟨g,4,none⟩ = false := ⟨(blk_cell H.out 0).trans rfl,(blk_cell H.out 1).trans rfl,(blk_cell H.out 2).trans rfl,(blk_cell H.out 3).trans rfl,(blk_cell H.out 4).trans rfl,blk_frozen H.out 0,blk_frozen H.out 1,blk_frozen H.out 2,blk_frozen H.out 3,blk_frozen H.out 4⟩
section
variable {P : Program} {ops : Array Oper} {rest : List Oper} {oi : Oper} {a a' : Act} {Q : Exit → Act → World → Prop} {w : World}
theorem gL (N : Option Tmp) {f : FuncId} {fn : Func} (hf : P.funcs[f]? = some fn) {as : Array Operand} {ts : Array TypeId} (args : Array Value)
    (h : Calls P f args w fun e w' => ∃ v,e = .returned v ∧ wpList P ops Q rest (a.put N v) w')
    (hd : oi.dst = N := by rfl) (hg : oi.guard = none := by rfl) (hop : oi.op = .call { callee := .value (.func f),args := as,argTypes := ts } := by rfl)
    (hname : (fn.name == "runtime.NumGoroutine") = false := by kernel_rfl) (hb : fn.body.isSome = true := by rfl)
    (hargs : as.map a.eval = args := by (try simp only [List.map_toArray,List.map_cons,List.map_nil]);first | done | rfl | (simp only [List.length_drop,List.length_take];rfl)) : wpList P ops Q (oi :: rest) a w :=
  goesL_ N hd hg hf hname hb args hop hargs h
theorem gG {N : Option Tmp} {K : Act → World → Prop} {f : FuncId} {fn : Func} (hf : P.funcs[f]? = some fn) {as : Array Operand} {ts : Array TypeId} (args : Array Value)
    (h : Calls P f args w fun e w' => ∃ v,e = .returned v ∧ K (a.put N v) w') (hw : Region.wanted oi (yielded ops a.tmps) = true := by rfl) (hN : oi.dst = N := by rfl)
    (hop : oi.op = .call { callee := .value (.func f),args := as,argTypes := ts } := by rfl) (hname : (fn.name == "runtime.NumGoroutine") = false := by kernel_rfl) (hb : fn.body.isSome = true := by rfl)
    (hargs : as.map a.eval = args := by (try simp only [List.map_toArray,List.map_cons,List.map_nil]);first | done | rfl | (simp only [List.length_drop,List.length_take];rfl)) : if Region.wanted oi (yielded ops a.tmps) = true then Oper.wp P oi a w K Q else K (a.put N undef) w :=
  goes_ hf hname hb args hw hN hop hargs h
variable {md : Region.Mode} {S : World → Prop} {ds : List Nat} {fuel : Nat} {l : Array Bool} {v : Value} {T : Bool × List (List Nat × List Nat)} {B : List Nat}
theorem pu_ (i : Nat) (N : Option Tmp) (l' : Array Bool) (HT : Aside0 (rtab md ops = T)) (h : wpAnyLast P md ops Q S ds fuel l' a' w)
    (hi : ops[i]? = some oi := by rfl) (hN : oi.dst = N := by rfl) (hc : anyT T l.toList l'.toList i = true := by kernel_rfl)
    (hQ : ∀ c a w,Q (.panic c) (a.put oi.dst v) w → Q (.panic c) a w := by exact fun _ _ _ h => h)
    (hw : Region.wanted oi (yielded ops a.tmps) = true := by rfl) (hy : ∀ w',(execOp a.eval oi).run P w' = .ok (.value v) w' := by intro w';go_simp;with_reducible rfl)
    (ha : a.put N v = a' := by simp only [Act.put,List.setIfInBounds_toArray,List.set_cons_zero,List.set_cons_succ,i64_w,i32_w];rfl) : wpAnyLast P md ops Q S ds (fuel + 1) l a w :=
  pure_ l' hi hN (any_of HT.out hc) hQ (Or.inl ⟨hw,hy⟩) ha h
theorem ta_ (i : Nat) (N : Option Tmp) (l' : Array Bool) (HT : Aside0 (rtab md ops = T)) (HB : Aside0 (waitsOk T.2 B = true)) (hS : S w) (h : wpAnyLast P md ops Q S ds fuel l' a' w)
    (hi : ops[i]? = some oi := by rfl) (hN : oi.dst = N := by rfl) (hc : takeW T B ds l.toList l'.toList i = true := by kernel_rfl)
    (hQ : ∀ c a w,Q (.panic c) (a.put oi.dst v) w → Q (.panic c) a w := by exact fun _ _ _ h => h)
    (hw : Region.wanted oi (yielded ops a.tmps) = true := by rfl)
    (hy : ∀ w',S w' → (execOp a.eval oi).run P w' = .ok (.value v) w' := by intro w' s_;(try dsimp only at s_);repeat (have sh_ := And.left s_;replace s_ := And.right s_);go_simp;with_reducible rfl)
    (ha : a.put N v = a' := by simp only [Act.put,List.setIfInBounds_toArray,List.set_cons_zero,List.set_cons_succ,i64_w,i32_w];rfl) : wpAnyLast P md ops Q S ds (fuel + 1) l a w :=
  take_ l' hi hN (take_ofW HT.out HB.out hc) hQ (Or.inl ⟨hw,hy⟩) hS ha h
end
section
variable {P : Program} {ops : Array Oper} {rest : List Oper} {o : Oper} {a : Act} {Q : Exit → Act → World → Prop} {W : World}
theorem bx (N : Tmp) (cs : Array Value) (t : TypeId)
    (h : ∀ g,g = W.heap.size → ∀ w1,w1.heap[g]? = some (.cells cs t (0,0)) → Below W.heap.size W w1 → wpList P ops Q rest (a.put o.dst (.pointer (some ⟨g,0,none⟩))) w1)
    (hd : o.dst = some N := by rfl) (hgd : o.guard = none := by rfl)
    (hrun : (execOp a.eval o).run P W = .ok (.value (.pointer (some ⟨W.heap.size,0,none⟩))) (W.alloc (.cells cs t (0,0))) := by first | (go_simp;done) | (go_simp;rfl)) : wpList P ops Q (o :: rest) a W :=
  box_event hgd hd hrun h
end
end Go.Proofs.YtbhfleilgjonpaaW.PrintWords
