/- Proved here: the law ScalarComes of package trefoillaw22 answers true at every input that its type lets in; no condition is added. -/
import Derived.Test.YtbhfleilgjonpaaRows
import Derived.Test.YtbhfleilgjonpaaSXRead
import Derived.Test.YtbhfleilgjonpaaSXScalarComesx19
import Derived.Test.YtbhfleilgjonpaaSXScalarComesMain
import Derived.WalkKit
import Derived.ProofKit
import Derived.OpenShut
import Derived.ShutString
import Derived.ChangeOld
import Derived.Below
import Derived.SizedLaws
namespace Go.Proofs.Ytbhfleilgjonpaa.scalarComes
open Go.ChangeShapes Go.WideShapes Go.ChangeAt Go.RowKit Go.Proofs.YtbhfleilgjonpaaW.PrintWords Go.Proofs.Ytbhfleilgjonpaa.XScalarComes
open Go.ChangeMaps (open_string shut_string)
set_option linter.unusedVariables false
set_option linter.unusedSimpArgs false
theorem own : ownKnob Try.prog.godebug = none := by kernel_rfl
theorem laidOut : laidOutB Try.prog = true := by kernel_rfl
structure S25 where
 f0 : Int
 f1 : Int
 f2 : Int
 f3 : Int
 f4 : Int
def k25 : Kd S25 := Kd.iso (Kd.pair (Kd.int .i64) (Kd.pair (Kd.int .i64) (Kd.pair (Kd.int .i64) (Kd.pair (Kd.int .i64) (Kd.int .i64))))) (fun x : S25 => (x.f0,x.f1,x.f2,x.f3,x.f4))
def WF25 (x : S25) : Prop := (Lit.int .i64 x.f0).wf = true ∧ (Lit.int .i64 x.f1).wf = true ∧ (Lit.int .i64 x.f2).wf = true ∧ (Lit.int .i64 x.f3).wf = true ∧ (Lit.int .i64 x.f4).wf = true
theorem rk25 {H : Type} {enc : TypeId × Value → H} {W : World} {base : Nat} {sp : Nat → Bool} {held : Bool} : RK enc Try.prog W base sp held 25 k25 (fun _ x => WF25 x) := by
  refine RK_imp (RK_iso (RK_struct _ Try.underlying25 (by kernel_rfl) (RKs_cons _ _ _ (RK_int Try.underlying3) rfl (by kernel_rfl) (RKs_cons _ _ _ (RK_int Try.underlying3) rfl (by kernel_rfl) (RKs_cons _ _ _ (RK_int Try.underlying3) rfl (by kernel_rfl) (RKs_cons _ _ _ (RK_int Try.underlying3) rfl (by kernel_rfl) (RKs_one _ _ (RK_int Try.underlying3) rfl (by kernel_rfl))))))) (fun p => ⟨p.1,p.2.1,p.2.2.1,p.2.2.2.1,p.2.2.2.2⟩) (fun _ => rfl)) ?_
  rintro D b ⟨_,_,_,_,_,h0,_,_,_,h1,_,_,_,h2,_,_,_,h3,_,_,h4⟩
  exact ⟨h0,h1,h2,h3,h4⟩
set_option maxRecDepth 100000 in
theorem lifted (os : Os) (started : os.Started) (H : Type) (enc : TypeId × Value → H) :
    ReturnsInHanded {} Try.checked os 4 .any (Rows.scalarComesSpec.pre6 enc Try.prog Try.f4 Rows.scalarComesRow.domain false) (Rows.scalarComesSpec.post enc Try.prog Try.f4 false true false false) := by
  refine returnsInHanded_of_change_sized (C := Try.checked) own started (by kernel_rfl) Try.func4
    (ChangeSpec.witness6 (enc := enc) (C := Try.checked) false ⟨#[],#[.agg #[.int .i64 0,.int .i64 0,.int .i64 0,.int .i64 0,.int .i64 0],.int .u8 0,.slice none 0 0,.slice none 0 0,.slice none 0 0],[]⟩ 8 (by kernel_rfl) (by kernel_rfl) (by kernel_rfl) (by kernel_rfl)) ?_
  intro W base args ds gs before hval0 hW hcnd hsz0 _
  have hsz : (DataW.weightsEach Try.prog (Try.f4.params.toList ++ Rows.scalarComesSpec.plain.varTypes Try.prog) (ds ++ gs)).all (· ≤ reachBytes) = true := hsz0
  have hval : ∀ (j : Nat) t v,Try.f4.params[j]? = some t → args[j]? = some v → Value.okWide Try.prog W .any base t v := hval0
  have hW' := hW
  obtain ⟨p,q,hA0,hV,rfl,hfz,hnd⟩ := hW
  have hA : DataW.TrodAll enc Try.prog W 0 (fun _ => true) true Try.f4.params.toList args.toList ds p := hA0
  rw [Try.params4] at hA hval hsz
  obtain ⟨v0,vs0,d0,ds0,p0,q0,hargs,rfl,rfl,h0,r0⟩ := trodAll_cons hA
  obtain ⟨v1,vs1,d1,ds1,p1,q1,rfl,rfl,rfl,h1,r1⟩ := trodAll_cons r0
  obtain ⟨v2,vs2,d2,ds2,p2,q2,rfl,rfl,rfl,h2,r2⟩ := trodAll_cons r1
  obtain ⟨v3,vs3,d3,ds3,p3,q3,rfl,rfl,rfl,h3,r3⟩ := trodAll_cons r2
  obtain ⟨v4,vs4,d4,ds4,p4,q4,rfl,rfl,rfl,h4,r4⟩ := trodAll_cons r3
  obtain ⟨rfl,rfl,rfl⟩ := trodAll_nil r4
  obtain rfl : args = #[v0,v1,v2,v3,v4] := by cases args;simp_all
  obtain ⟨rfl,rfl⟩ := trodVars_none hV
  have k0 := h0
  have lt0 : ∀ x ∈ p0,x.block < W.heap.size := by obtain ⟨m,hm⟩ := k0;exact DataW.trod_lt m _ _ _ hm
  obtain ⟨cs0,x0,rfl,hK0,hF0⟩ := RK_arg_struct Try.underlying25 rk25 (hval 0 25 v0 rfl rfl) h0
  obtain ⟨_,_,rfl,rfl,⟨_,_,rfl,rfl,⟨_,_,rfl,rfl,⟨_,_,rfl,rfl,rfl⟩⟩⟩⟩ := hK0
  simp only [List.cons_append,List.nil_append,List.singleton_append]
  obtain ⟨a1,rfl,rfl,rfl,w1⟩ := open_int Try.underlying5 (hval 1 5 v1 rfl rfl) h1
  have k2 := h2
  have lt2 : ∀ x ∈ p2,x.block < W.heap.size := by obtain ⟨m,hm⟩ := k2;exact DataW.trod_lt m _ _ _ hm
  obtain ⟨A2,c2,l2,rfl,hc2,hC2,hm2,hS2,hE2⟩ := RK_arg_slice Try.underlying23 (by kernel_rfl) (RK_int Try.underlying32) (hval 2 23 v2 rfl rfl) h2
  have y2 : l2.length * 8 ≤ 140737488351232 := sized_of hsz (j := 2) (t := 23) rfl rfl Try.underlying23 (by kernel_rfl) hS2
  have k3 := h3
  have lt3 : ∀ x ∈ p3,x.block < W.heap.size := by obtain ⟨m,hm⟩ := k3;exact DataW.trod_lt m _ _ _ hm
  obtain ⟨A3,c3,l3,rfl,hc3,hC3,hm3,hS3,hE3⟩ := RK_arg_slice Try.underlying23 (by kernel_rfl) (RK_int Try.underlying32) (hval 3 23 v3 rfl rfl) h3
  have y3 : l3.length * 8 ≤ 140737488351232 := sized_of hsz (j := 3) (t := 23) rfl rfl Try.underlying23 (by kernel_rfl) hS3
  have k4 := h4
  have lt4 : ∀ x ∈ p4,x.block < W.heap.size := by obtain ⟨m,hm⟩ := k4;exact DataW.trod_lt m _ _ _ hm
  obtain ⟨A4,c4,l4,rfl,hc4,hC4,hm4,hS4,hE4⟩ := RK_arg_slice Try.underlying23 (by kernel_rfl) (RK_int Try.underlying32) (hval 4 23 v4 rfl rfl) h4
  have y4 : l4.length * 8 ≤ 140737488351232 := sized_of hsz (j := 4) (t := 23) rfl rfl Try.underlying23 (by kernel_rfl) hS4
  clear hA0 hval0 hsz0 hsz
  obtain ⟨k,hk⟩ := ScalarComes_pure (x0.f0) (x0.f1) (x0.f2) (x0.f3) (x0.f4) a1 l2 l3 l4 hF0 w1 y2 (fun x hx => (hE2 x hx).elim fun _ z => z) y3 (fun x hx => (hE3 x hx).elim fun _ z => z) y4 (fun x hx => (hE4 x hx).elim fun _ z => z)
  refine (trefoillaw22_ScalarComes.calls k (x0.f0) (x0.f1) (x0.f2) (x0.f3) (x0.f4) a1 _ _ l2 _ _ l3 _ _ l4 true W hC2 hc2 hC3 hc3 hC4 hc4 ⟨rfl⟩ hk).mono fun e W' hq => ?_
  obtain ⟨he,hd⟩ := hq
  have bel : Below W.heap.size W W' := hd
  subst he
  exact ⟨_,rfl,_,_,_,[],_,[],hW',trodAll_mk1 (shut_bool Try.underlying4 _),(trodAll_cons_mk (Below.trod laidOut (by kernel_rfl) (of_decide_eq_true (by kernel_rfl)) k0 bel lt0) (trodAll_cons_mk (shut_int Try.underlying5 w1) (trodAll_cons_mk (Below.trod laidOut (by kernel_rfl) (of_decide_eq_true (by kernel_rfl)) k2 bel lt2) (trodAll_cons_mk (Below.trod laidOut (by kernel_rfl) (of_decide_eq_true (by kernel_rfl)) k3 bel lt3) (trodAll_cons_mk (Below.trod laidOut (by kernel_rfl) (of_decide_eq_true (by kernel_rfl)) k4 bel lt4) trodAll_mk0))))),rfl,bel.frame _,fun h => by cases h⟩
theorem over : Rows.scalarComesRow.holds Try.pinned (OpenSpec.ofChange Rows.scalarComesSpec) :=
  OpenClaim.holds_of_wide 4 Try.f4 rfl rfl rfl rfl rfl rfl rfl ⟨rfl,rfl,rfl,rfl,rfl⟩ rfl rfl rfl rfl rfl (by kernel_rfl) Try.func4 (by kernel_rfl)
    (of_decide_eq_true (by kernel_rfl)) (by unfold Func.isWrapper;first | (rw [if_pos (by decide +kernel)];kernel_rfl) | (rw [if_neg (by decide +kernel)];exact ⟨rfl,rfl⟩))
    (fun os started H enc _ => lifted os started H enc)
theorem proved : Rows.ScalarComesSaid := over
#print axioms proved
end Go.Proofs.Ytbhfleilgjonpaa.scalarComes
namespace Go.Proofs.Ytbhfleilgjonpaa
theorem scalarComes_holds : Rows.ScalarComesSaid := scalarComes.proved
end Go.Proofs.Ytbhfleilgjonpaa
