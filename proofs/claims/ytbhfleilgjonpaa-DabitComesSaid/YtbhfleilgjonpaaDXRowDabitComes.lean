/- Proved here: the law DabitComes of package trefoillaw25 answers true at every input that its type lets in; no condition is added. -/
import Derived.Test.YtbhfleilgjonpaaRows
import Derived.Test.YtbhfleilgjonpaaDXRead
import Derived.Test.YtbhfleilgjonpaaDXDabitComesx8
import Derived.Test.YtbhfleilgjonpaaDXDabitComesMain
import Derived.WalkKit
import Derived.ProofKit
import Derived.OpenShut
import Derived.ShutString
import Derived.ChangeOld
import Derived.Below
import Derived.SizedLaws
namespace Go.Proofs.Ytbhfleilgjonpaa.dabitComes
open Go.ChangeShapes Go.WideShapes Go.ChangeAt Go.RowKit Go.Proofs.YtbhfleilgjonpaaW.PrintWords Go.Proofs.Ytbhfleilgjonpaa.XDabitComes
open Go.ChangeMaps (open_string shut_string)
set_option linter.unusedVariables false
set_option linter.unusedSimpArgs false
theorem own : ownKnob Try.prog.godebug = none := by kernel_rfl
theorem laidOut : laidOutB Try.prog = true := by kernel_rfl
set_option maxRecDepth 100000 in
theorem lifted (os : Os) (started : os.Started) (H : Type) (enc : TypeId × Value → H) :
    ReturnsInHanded {} Try.checked os 3 .any (Rows.dabitComesSpec.pre6 enc Try.prog Try.f3 Rows.dabitComesRow.domain false) (Rows.dabitComesSpec.post enc Try.prog Try.f3 false true false false) := by
  refine returnsInHanded_of_change_sized (C := Try.checked) own started (by kernel_rfl) Try.func3
    (ChangeSpec.witness6 (enc := enc) (C := Try.checked) false ⟨#[], #[.int .i64 0, .slice none 0 0, .slice none 0 0, .slice none 0 0], []⟩ 8 (by kernel_rfl) (by kernel_rfl) (by kernel_rfl) (by kernel_rfl)) ?_
  intro W base args ds gs before hval0 hW hcnd hsz0 _
  have hsz : (DataW.weightsEach Try.prog (Try.f3.params.toList ++ Rows.dabitComesSpec.plain.varTypes Try.prog) (ds ++ gs)).all (· ≤ reachBytes) = true := hsz0
  have hval : ∀ (j : Nat) t v, Try.f3.params[j]? = some t → args[j]? = some v → Value.okWide Try.prog W .any base t v := hval0
  have hW' := hW
  obtain ⟨p, q, hA0, hV, rfl, hfz, hnd⟩ := hW
  have hA : DataW.TrodAll enc Try.prog W 0 (fun _ => true) true Try.f3.params.toList args.toList ds p := hA0
  rw [Try.params3] at hA hval hsz
  obtain ⟨v0, vs0, d0, ds0, p0, q0, hargs, rfl, rfl, h0, r0⟩ := trodAll_cons hA
  obtain ⟨v1, vs1, d1, ds1, p1, q1, rfl, rfl, rfl, h1, r1⟩ := trodAll_cons r0
  obtain ⟨v2, vs2, d2, ds2, p2, q2, rfl, rfl, rfl, h2, r2⟩ := trodAll_cons r1
  obtain ⟨v3, vs3, d3, ds3, p3, q3, rfl, rfl, rfl, h3, r3⟩ := trodAll_cons r2
  obtain ⟨rfl, rfl, rfl⟩ := trodAll_nil r3
  obtain rfl : args = #[v0, v1, v2, v3] := by cases args; simp_all
  obtain ⟨rfl, rfl⟩ := trodVars_none hV
  obtain ⟨a0, rfl, rfl, rfl, w0⟩ := open_int Try.underlying3 (hval 0 3 v0 rfl rfl) h0
  have k1 := h1
  have lt1 : ∀ x ∈ p1, x.block < W.heap.size := by obtain ⟨m, hm⟩ := k1; exact DataW.trod_lt m _ _ _ hm
  obtain ⟨A1, c1, l1, rfl, hc1, hC1, hm1, hS1, hE1⟩ := RK_arg_slice Try.underlying22 (by kernel_rfl) (RK_bool Try.underlying4) (hval 1 22 v1 rfl rfl) h1
  have y1 : l1.length * 1 ≤ 140737488351232 := sized_of hsz (j := 1) (t := 22) rfl rfl Try.underlying22 (by kernel_rfl) hS1
  have k2 := h2
  have lt2 : ∀ x ∈ p2, x.block < W.heap.size := by obtain ⟨m, hm⟩ := k2; exact DataW.trod_lt m _ _ _ hm
  obtain ⟨A2, c2, l2, rfl, hc2, hC2, hm2, hS2, hE2⟩ := RK_arg_slice Try.underlying22 (by kernel_rfl) (RK_bool Try.underlying4) (hval 2 22 v2 rfl rfl) h2
  have y2 : l2.length * 1 ≤ 140737488351232 := sized_of hsz (j := 2) (t := 22) rfl rfl Try.underlying22 (by kernel_rfl) hS2
  have k3 := h3
  have lt3 : ∀ x ∈ p3, x.block < W.heap.size := by obtain ⟨m, hm⟩ := k3; exact DataW.trod_lt m _ _ _ hm
  obtain ⟨A3, c3, l3, rfl, hc3, hC3, hm3, hS3, hE3⟩ := RK_arg_slice Try.underlying23 (by kernel_rfl) (RK_int Try.underlying32) (hval 3 23 v3 rfl rfl) h3
  have y3 : l3.length * 8 ≤ 140737488351232 := sized_of hsz (j := 3) (t := 23) rfl rfl Try.underlying23 (by kernel_rfl) hS3
  clear hA0 hval0 hsz0 hsz
  obtain ⟨k, hk⟩ := DabitComes_pure a0 l1 l2 l3 w0 y1 (fun x hx => (hE1 x hx).elim fun _ z => z) y2 (fun x hx => (hE2 x hx).elim fun _ z => z) y3 (fun x hx => (hE3 x hx).elim fun _ z => z)
  refine (trefoillaw25_DabitComes.calls k a0 _ _ l1 _ _ l2 _ _ l3 true W hC1 hc1 hC2 hc2 hC3 hc3 ⟨rfl⟩ hk).mono fun e W' hq => ?_
  obtain ⟨he, hd⟩ := hq
  have bel : Below W.heap.size W W' := hd
  subst he
  exact ⟨_, rfl, _, _, _, [], _, [], hW', trodAll_mk1 (shut_bool Try.underlying4 _), (trodAll_cons_mk (shut_int Try.underlying3 w0) (trodAll_cons_mk (Below.trod laidOut (by kernel_rfl) (of_decide_eq_true (by kernel_rfl)) k1 bel lt1) (trodAll_cons_mk (Below.trod laidOut (by kernel_rfl) (of_decide_eq_true (by kernel_rfl)) k2 bel lt2) (trodAll_cons_mk (Below.trod laidOut (by kernel_rfl) (of_decide_eq_true (by kernel_rfl)) k3 bel lt3) trodAll_mk0)))), rfl, bel.frame _, fun h => by cases h⟩
theorem over : Rows.dabitComesRow.holds Try.pinned (OpenSpec.ofChange Rows.dabitComesSpec) :=
  OpenClaim.holds_of_wide 3 Try.f3 rfl rfl rfl rfl rfl rfl rfl ⟨rfl, rfl, rfl, rfl, rfl⟩ rfl rfl rfl rfl rfl (by kernel_rfl) Try.func3 (by kernel_rfl)
    (of_decide_eq_true (by kernel_rfl)) (by unfold Func.isWrapper; first | (rw [if_pos (by decide +kernel)]; kernel_rfl) | (rw [if_neg (by decide +kernel)]; exact ⟨rfl, rfl⟩))
    (fun os started H enc _ => lifted os started H enc)
theorem proved : Rows.DabitComesSaid := over
#print axioms proved
end Go.Proofs.Ytbhfleilgjonpaa.dabitComes
namespace Go.Proofs.Ytbhfleilgjonpaa
theorem dabitComes_holds : Rows.DabitComesSaid := dabitComes.proved
end Go.Proofs.Ytbhfleilgjonpaa
