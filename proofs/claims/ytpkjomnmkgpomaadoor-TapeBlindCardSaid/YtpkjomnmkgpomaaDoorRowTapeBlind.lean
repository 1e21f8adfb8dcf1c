/- Proved here: the law trefoillaw06.TapeBlind answers true at every input that its type lets in (the package-level variable errors.errorType begins as the program lays it: the card ties it); no condition is added. -/
import Derived.Test.YtpkjomnmkgpomaaDoorRows
import Derived.Test.YtpkjomnmkgpomaaDoorXRead
import Derived.Test.YtpkjomnmkgpomaaDoorBlind
import Derived.Test.YtpkjomnmkgpomaaDoorDoor
import Derived.Test.YtpkjomnmkgpomaaDoorTie
import Derived.Test.YtpkjomnmkgpomaaDoorCards
import Derived.WalkKit
import Derived.ProofKit
import Derived.OpenShut
import Derived.ShutString
import Derived.ChangeOld
import Derived.Below
import Derived.SizedLaws
import Derived.ChangeSame
import Derived.ChangeVars
import Derived.JoinedOf
import Derived.RowKit
import Derived.RowKitTokens
import Derived.LaidLaws
import Derived.LaidHandle
import Derived.Stop.Joined
import Derived.SevenTiedAt
namespace Go.Proofs.YtpkjomnmkgpomaaDoor.tapeBlindRow
open Go Go.ChangeShapes Go.WideShapes Go.ChangeAt Go.RowKit Go.Proofs.YtpkjomnmkgpomaaDoorW.PrintWords Go.Proofs.YtpkjomnmkgpomaaDoor
set_option linter.unusedVariables false
set_option linter.unusedSimpArgs false
theorem own : ownKnob Tryd.prog.godebug = none := by kernel_rfl
theorem laidOut : laidOutB Tryd.prog = true := by kernel_rfl
open Go.Proofs.YtpkjomnmkgpomaaDoor in
theorem rkA {H : Type} {enc : TypeId × Value → H} {W : World} {base : Nat} {sp : Nat → Bool} {held : Bool} : RK enc Tryd.prog W base sp held 58 kA (fun _ _ => True) :=
  RK_imp (RK_iso (RK_struct _ Tryd.underlying58 (by kernel_rfl) (RKs_cons _ _ _ (RK_int Tryd.underlying3) rfl (by kernel_rfl) (RKs_cons _ _ _ (RK_int Tryd.underlying3) rfl (by kernel_rfl) (RKs_one _ _ (RK_int Tryd.underlying3) rfl (by kernel_rfl))))) (fun p => ⟨p.1, p.2.1, p.2.2⟩) (fun _ => rfl)) (fun _ _ _ => trivial)
set_option maxRecDepth 100000 in
theorem lifted (os : Os) (started : os.Started) (H : Type) (enc : TypeId × Value → H) :
    ReturnsInHanded {} Tryd.checked os 6 .any (fun w args => (Rows.tapeBlindSpec.pre enc Tryd.prog Tryd.f6 [] false w args ∧ laidMetH Tryd.prog Rows.tapeBlindRow.laid w) ∧ sizedMet enc Tryd.prog Tryd.f6 (OpenSpec.ofChange Rows.tapeBlindSpec) false w args)
      (Rows.tapeBlindSpec.post enc Tryd.prog Tryd.f6 false true false false) := by
  refine returnsInHanded_of_change_and (C := Tryd.checked) (X := fun w _ => laidMetH Tryd.prog Rows.tapeBlindRow.laid w) (fun _ _ _ hh h => h.of_heap hh) own started (by kernel_rfl) Tryd.func6
    (ChangeSpec.witness_at (enc := enc) (C := Tryd.checked) (os := os) (X := fun w _ => laidMetH Tryd.prog Rows.tapeBlindRow.laid w) false (laidWorld os) #[.slice none 0 0, .slice none 0 0, .slice none 0 0] 8 rfl (by kernel_rfl) (by kernel_rfl) (by kernel_rfl) (by kernel_rfl) (by kernel_rfl) (laidMetH_of_parts (laidMet_nil _ _) (by kernel_rfl))) ?_
  intro W base args ds gs before hval0 hW hcnd hsz0 hLaid _
  have hL : Laid0 W := laid0_of hLaid
  have hsz : (DataW.weightsEach Tryd.prog (Tryd.f6.params.toList ++ Rows.tapeBlindSpec.plain.varTypes Tryd.prog) (ds ++ gs)).all (· ≤ reachBytes) = true := hsz0
  have hval : ∀ (j : Nat) t v, Tryd.f6.params[j]? = some t → args[j]? = some v → Value.okWide Tryd.prog W .any base t v := hval0
  have hW' := hW
  obtain ⟨p, q, hA0, hV, rfl, hfz, hnd⟩ := hW
  have hA : DataW.TrodAll enc Tryd.prog W 0 (fun _ => true) true Tryd.f6.params.toList args.toList ds p := hA0
  rw [Tryd.params6] at hA hval hsz
  obtain ⟨v0, vs0, d0, ds0, p0, q0, hargs, rfl, rfl, h0, r0⟩ := trodAll_cons hA
  obtain ⟨v1, vs1, d1, ds1, p1, q1, rfl, rfl, rfl, h1, r1⟩ := trodAll_cons r0
  obtain ⟨v2, vs2, d2, ds2, p2, q2, rfl, rfl, rfl, h2, r2⟩ := trodAll_cons r1
  obtain ⟨rfl, rfl, rfl⟩ := trodAll_nil r2
  obtain rfl : args = #[v0, v1, v2] := by cases args; simp_all
  obtain ⟨rfl, rfl⟩ := trodVars_none hV
  have k0 := h0
  have lt0 : ∀ x ∈ p0, x.block < W.heap.size := by obtain ⟨m, hm⟩ := k0; exact DataW.trod_lt m _ _ _ hm
  obtain ⟨A0, c0, l0, rfl, hc0, C0, hm0, hS0, hE0⟩ := RK_arg_slice Tryd.underlying22 (by kernel_rfl) (RK_int Tryd.underlying35) (hval 0 22 v0 rfl rfl) h0
  have y0 : l0.length * 8 ≤ 140737488351232 := sized_of hsz (j := 0) (t := 22) rfl rfl Tryd.underlying22 (by kernel_rfl) hS0
  have E0 := fun x hx => (hE0 x hx).elim fun _ z => z
  have k1 := h1
  have lt1 : ∀ x ∈ p1, x.block < W.heap.size := by obtain ⟨m, hm⟩ := k1; exact DataW.trod_lt m _ _ _ hm
  obtain ⟨A1, c1, l1, rfl, hc1, C1, hm1, hS1, hE1⟩ := RK_arg_slice Tryd.underlying22 (by kernel_rfl) (RK_int Tryd.underlying35) (hval 1 22 v1 rfl rfl) h1
  have y1 : l1.length * 8 ≤ 140737488351232 := sized_of hsz (j := 1) (t := 22) rfl rfl Tryd.underlying22 (by kernel_rfl) hS1
  have E1 := fun x hx => (hE1 x hx).elim fun _ z => z
  have k2 := h2
  have lt2 : ∀ x ∈ p2, x.block < W.heap.size := by obtain ⟨m, hm⟩ := k2; exact DataW.trod_lt m _ _ _ hm
  obtain ⟨A2, c2, l2, rfl, hc2, C2, hm2, hS2, hE2⟩ := RK_arg_slice Tryd.underlying52 (by kernel_rfl) rkA (hval 2 52 v2 rfl rfl) h2
  have y2 : l2.length * 24 ≤ 140737488351232 := sized_of hsz (j := 2) (t := 52) rfl rfl Tryd.underlying52 (by kernel_rfl) hS2
  have E2 := fun x hx => (hE2 x hx).elim fun _ z => z
  (try simp only [List.cons_append, List.nil_append, List.singleton_append])
  refine (blind_all A0 A1 A2 c0 c1 c2 l0 l1 l2 W hL (ints_of C0) hc0 (fun x hx => wf_u64 (E0 x hx)) (ints_of C1) hc1 (fun x hx => wf_u64 (E1 x hx)) C2 (by have := hm2; unfold maxLen at this; omega)).mono fun e W' hq => ?_
  obtain ⟨he, hd⟩ := hq
  have bel : Below W.heap.size W W' := hd
  subst he
  exact ⟨_, rfl, _, _, _, [], _, [], hW', trodAll_mk1 (shut_bool Tryd.underlying4 _), (trodAll_cons_mk (Below.trod laidOut (by kernel_rfl) (of_decide_eq_true (by kernel_rfl)) k0 bel lt0) (trodAll_cons_mk (Below.trod laidOut (by kernel_rfl) (of_decide_eq_true (by kernel_rfl)) k1 bel lt1) (trodAll_cons_mk (Below.trod laidOut (by kernel_rfl) (of_decide_eq_true (by kernel_rfl)) k2 bel lt2) trodAll_mk0))), rfl, bel.frame _, fun h => by cases h⟩
theorem over : Rows.tapeBlindRow.holds Tryd.pinned (OpenSpec.ofChange Rows.tapeBlindSpec) :=
  OpenClaim.holds_of_wide 6 Tryd.f6 rfl rfl rfl rfl rfl rfl rfl ⟨rfl, rfl, rfl, rfl, rfl⟩ rfl rfl rfl rfl rfl (by kernel_rfl) Tryd.func6 (by kernel_rfl)
    (of_decide_eq_true (by kernel_rfl)) (by unfold Func.isWrapper; first | (rw [if_pos (by decide +kernel)]; kernel_rfl) | (rw [if_neg (by decide +kernel)]; exact ⟨rfl, rfl⟩))
    (fun os started H enc _ => lifted os started H enc)
theorem proved : Rows.TapeBlindSaid := over
theorem proved_card : Rows.TapeBlindCardSaid :=
  Claim7.holds_tied_plain_at .later [] [.handle] true Rows.tapeBlindCard.stood.harness true
    proved (fun _ h => by cases h) (by kernel_rfl) (fun _ h => by cases h) tapeBlind_row_tie rfl ⟨rfl, rfl⟩ (by kernel_rfl) rfl
    (fun f fn hf hfn => by
      obtain rfl : f = 6 := Option.some.inj ((show Tryd.prog.funcNamed "trefoil/trefoillaw06.TapeBlind" = some 6 by kernel_rfl).symm.trans hf) |>.symm
      obtain rfl : fn = Tryd.f6 := (Option.some.inj (Tryd.func6.symm.trans hfn)).symm
      exact ⟨by kernel_rfl, fun j t ht => by
        rw [Tryd.params6] at ht
        rcases j with _ | j
        · obtain rfl : t = 22 := by simpa using ht.symm
          exact (show Tryd.prog.wantsStandIn 22 = false by kernel_rfl)
        rcases j with _ | j
        · obtain rfl : t = 22 := by simpa using ht.symm
          exact (show Tryd.prog.wantsStandIn 22 = false by kernel_rfl)
        rcases j with _ | j
        · obtain rfl : t = 52 := by simpa using ht.symm
          exact (show Tryd.prog.wantsStandIn 52 = false by kernel_rfl)
        simp at ht⟩)
    (by kernel_rfl)
#print axioms proved_card
end Go.Proofs.YtpkjomnmkgpomaaDoor.tapeBlindRow
namespace Go.Proofs.YtpkjomnmkgpomaaDoor
/-- The card, under a short name, for the claim. -/
theorem tapeBlind_holds : Rows.TapeBlindCardSaid := tapeBlindRow.proved_card
end Go.Proofs.YtpkjomnmkgpomaaDoor
