import Derived.Test.YtbhfleilgjonpaaSXShort
import Derived.Test.YtbhfleilgjonpaaSXScalarComesx0
namespace Go.Proofs.Ytbhfleilgjonpaa.XScalarComes
open Go.RowKit Go.Proofs.YtbhfleilgjonpaaW.PrintWords Go.Proofs.YtbhfleilgjonpaaW.PrintLast Go.Proofs.YtbhfleilgjonpaaW.PrintMore
attribute [local go_sem] max2_int min2_int max_two min_two max_three min_three max_four min_four
set_option linter.unusedVariables false
set_option linter.unusedSimpArgs false
def trefoilref22_Sides.f (a0_0 : Int) (a0_1 : Int) (a0_2 : Int) (a0_3 : Int) (a0_4 : Int) : Option (Int × Int × Int) := if a0_0 = 2 then (some (a0_2,a0_3,a0_4)) else (some (1,1,1))
set_option maxHeartbeats 8000000 in
set_option maxRecDepth 100000 in
theorem trefoilref22_Sides.calls (a0_0 : Int) (a0_1 : Int) (a0_2 : Int) (a0_3 : Int) (a0_4 : Int) (r1 : Int) (r2 : Int) (r3 : Int) (w : World) (h : trefoilref22_Sides.f a0_0 a0_1 a0_2 a0_3 a0_4 = some (r1,r2,r3)) :
  Calls Try.prog 17 #[.agg #[.int .i64 a0_0,.int .i64 a0_1,.int .i64 a0_2,.int .i64 a0_3,.int .i64 a0_4]] w fun e w' => e = .returned (.tuple #[.int .i64 r1,.int .i64 r2,.int .i64 r3]) ∧ Below w.heap.size w w' := by
 have hu25 := Try.underlying25;have HB := Aside0.mk (Below.refl w.heap.size w);have H : (if a0_0 = 2 then (some (a0_2,a0_3,a0_4)) else (some (1,1,1))) = some (r1,r2,r3) := h;clear h
 by_cases c2 : a0_0 = 2
 ·rw [if_pos c2] at H
  have c2b0 : (a0_0 == 2) = true := beq_iff_eq.mpr c2;have c2b1 : (a0_0 != 2) = false := bne_eq_false_iff_eq.mpr c2;clear c2;simp only [Option.some.injEq,Prod.mk.injEq] at H;obtain ⟨rfl,rfl,rfl⟩ := H
  go_enter Try.func17,Try.ntmps17
  go_wp2_with (first | ((with_reducible refine gate_dst (N := 1) rfl ?_);refine bx 1 #[.int .i64 a0_0,.int .i64 a0_1,.int .i64 a0_2,.int .i64 a0_3,.int .i64 a0_4] 25 ?_;intro gb101 hg w3 hbox hb;have BK101 := Aside0.mk hbox;have GW101 := bz HB hg;have GE101 := bz HB hg;replace HB := bs HB hb;clear hb hbox hg;obtain ⟨hcz4_0,hcz4_1,hcz4_2,hcz4_3,hcz4_4,hfz4_0,hfz4_1,hfz4_2,hfz4_3,hfz4_4⟩ := cz5 BK101))
  repeat (go_quiet (first | ((with_reducible refine gate_dst (N := 1) rfl ?_);refine bx 1 #[.int .i64 a0_0,.int .i64 a0_1,.int .i64 a0_2,.int .i64 a0_3,.int .i64 a0_4] 25 ?_;intro gb101 hg w3 hbox hb;have BK101 := Aside0.mk hbox;have GW101 := bz HB hg;have GE101 := bz HB hg;replace HB := bs HB hb;clear hb hbox hg;obtain ⟨hcz4_0,hcz4_1,hcz4_2,hcz4_3,hcz4_4,hfz4_0,hfz4_1,hfz4_2,hfz4_3,hfz4_4⟩ := cz5 BK101));try go_wp2_with (first | ((with_reducible refine gate_dst (N := 1) rfl ?_);refine bx 1 #[.int .i64 a0_0,.int .i64 a0_1,.int .i64 a0_2,.int .i64 a0_3,.int .i64 a0_4] 25 ?_;intro gb101 hg w3 hbox hb;have BK101 := Aside0.mk hbox;have GW101 := bz HB hg;have GE101 := bz HB hg;replace HB := bs HB hb;clear hb hbox hg;obtain ⟨hcz4_0,hcz4_1,hcz4_2,hcz4_3,hcz4_4,hfz4_0,hfz4_1,hfz4_2,hfz4_3,hfz4_4⟩ := cz5 BK101)))
  go_ret3
  exact ⟨by first | rfl | (simp [errW_none,errW_some] <;> rfl) | (simp [*,errW_none,errW_some] <;> rfl),rW HB⟩
 ·rw [if_neg c2] at H
  have c2b0 : (a0_0 == 2) = false := beq_eq_false_iff_ne.mpr c2;have c2b1 : (a0_0 != 2) = true := bne_iff_ne.mpr c2;simp only [Option.some.injEq,Prod.mk.injEq] at H;obtain ⟨rfl,rfl,rfl⟩ := H
  go_enter Try.func17,Try.ntmps17
  go_wp2_with (first | ((with_reducible refine gate_dst (N := 1) rfl ?_);refine bx 1 #[.int .i64 a0_0,.int .i64 a0_1,.int .i64 a0_2,.int .i64 a0_3,.int .i64 a0_4] 25 ?_;intro gb101 hg w5 hbox hb;have BK101 := Aside0.mk hbox;have GW101 := bz HB hg;have GE101 := bz HB hg;replace HB := bs HB hb;clear hb hbox hg;obtain ⟨hcz6_0,hcz6_1,hcz6_2,hcz6_3,hcz6_4,hfz6_0,hfz6_1,hfz6_2,hfz6_3,hfz6_4⟩ := cz5 BK101))
  repeat (go_quiet (first | ((with_reducible refine gate_dst (N := 1) rfl ?_);refine bx 1 #[.int .i64 a0_0,.int .i64 a0_1,.int .i64 a0_2,.int .i64 a0_3,.int .i64 a0_4] 25 ?_;intro gb101 hg w5 hbox hb;have BK101 := Aside0.mk hbox;have GW101 := bz HB hg;have GE101 := bz HB hg;replace HB := bs HB hb;clear hb hbox hg;obtain ⟨hcz6_0,hcz6_1,hcz6_2,hcz6_3,hcz6_4,hfz6_0,hfz6_1,hfz6_2,hfz6_3,hfz6_4⟩ := cz5 BK101));try go_wp2_with (first | ((with_reducible refine gate_dst (N := 1) rfl ?_);refine bx 1 #[.int .i64 a0_0,.int .i64 a0_1,.int .i64 a0_2,.int .i64 a0_3,.int .i64 a0_4] 25 ?_;intro gb101 hg w5 hbox hb;have BK101 := Aside0.mk hbox;have GW101 := bz HB hg;have GE101 := bz HB hg;replace HB := bs HB hb;clear hb hbox hg;obtain ⟨hcz6_0,hcz6_1,hcz6_2,hcz6_3,hcz6_4,hfz6_0,hfz6_1,hfz6_2,hfz6_3,hfz6_4⟩ := cz5 BK101)))
  go_ret3
  exact ⟨by first | rfl | (simp [errW_none,errW_some] <;> rfl) | (simp [*,errW_none,errW_some] <;> rfl),rW HB⟩
def trefoilref09_in.f (a0 : Int) (a1 : Int) : Option (Bool) := if a0 ≥ 1 then (some (decide (a0 ≤ a1))) else (some false)
set_option maxHeartbeats 8000000 in
set_option maxRecDepth 100000 in
theorem trefoilref09_in.calls (a0 : Int) (a1 : Int) (r : Bool) (w : World) (h : trefoilref09_in.f a0 a1 = some r) :
  Calls Try.prog 57 #[.int .i64 a0,.int .i64 a1] w fun e w' => e = .returned (.bool r) ∧ Drawn0 w w' := by
 have H : (if a0 ≥ 1 then (some (decide (a0 ≤ a1))) else (some false)) = some r := h;clear h
 by_cases c3 : a0 ≥ 1
 ·rw [if_pos c3] at H
  have c3b0 : decide (1 ≤ a0) = true := decide_eq_true c3;clear c3;obtain rfl := Option.some.inj H
  go_enter Try.func57,Try.ntmps57
  go_wp2
  go_ret
  exact ⟨by first | rfl | (simp;done) | (simp [*];done),by repeat (first | exact Drawn0.refl _ | apply Drawn0.step)⟩
 ·rw [if_neg c3] at H
  have c3b0 : decide (1 ≤ a0) = false := decide_eq_false c3;clear c3;obtain rfl := Option.some.inj H
  go_enter Try.func57,Try.ntmps57
  go_wp2
  go_ret
  exact ⟨by first | rfl | (simp;done) | (simp [*];done),by repeat (first | exact Drawn0.refl _ | apply Drawn0.step)⟩
def trefoilref09_Check.j0 : Nat → Bool → Int → Int → Int → Int → Int → Option (Int)
 | 0,_,_,_,_,_,_ => none
 | k + 1,x20,x103000,x103001,x103002,x103003,x103004 => if x20 = true then (some 11) else (if x103000 = 2 then ((trefoilref09_in.f x103002 6).bind fun t105 => (if t105 = true then ((trefoilref09_in.f x103003 6).bind fun t106 => (if t106 = true then ((trefoilref09_in.f x103004 6).bind fun t107 => (if t107 = true then (some 0) else (some 11))) else (some 11))) else (some 11))) else (if x103002 = 0 then (if x103003 = 0 then (if x103004 = 0 then (some 0) else (some 11)) else (some 11)) else (some 11)))
def trefoilref09_Check.f (k : Nat) (a0_0 : Int) (a0_1 : Int) (a0_2 : Int) (a0_3 : Int) (a0_4 : Int) : Option (Int) := (trefoilref09_in.f a0_0 4).bind fun t103 => (if t103 = true then ((trefoilref09_in.f a0_1 64).bind fun t104 => (if t104 = true then (if a0_0 = 3 then (trefoilref09_Check.j0 k (a0_1 != 1) a0_0 a0_1 a0_2 a0_3 a0_4) else (trefoilref09_Check.j0 k false a0_0 a0_1 a0_2 a0_3 a0_4)) else (trefoilref09_Check.j0 k true a0_0 a0_1 a0_2 a0_3 a0_4))) else (some 15))
theorem trefoilref09_Check.mono_l : ∀ k,(∀ y0 y1 y2 y3 y4 y5,LeO (trefoilref09_Check.j0 k y0 y1 y2 y3 y4 y5) (trefoilref09_Check.j0 (k + 1) y0 y1 y2 y3 y4 y5))
 | 0 => fun _ _ _ _ _ _ r h => by simp [trefoilref09_Check.j0] at h
 | k + 1 => by
  have ih0 := trefoilref09_Check.mono_l k
  ·intro y0 y1 y2 y3 y4 y5
   unfold trefoilref09_Check.j0
   repeat' first | (with_reducible first | exact ih0 _ _ _ _ _ _ | exact LeO.refl _ | exact LeO.none _ | refine LeO.ite ?_ ?_ | refine LeO.bind ?_ (fun _ => ?_)) | exact LeO.none _ | refine LeO.ite ?_ ?_ | refine LeO.bind ?_ (fun _ => ?_)
theorem trefoilref09_Check.mono : ∀ a0 a1 a2 a3 a4 k,LeO (trefoilref09_Check.f k a0 a1 a2 a3 a4) (trefoilref09_Check.f (k + 1) a0 a1 a2 a3 a4) := by
 intro a0 a1 a2 a3 a4 k;have ih0 := trefoilref09_Check.mono_l k;unfold trefoilref09_Check.f
 repeat' first | (with_reducible first | exact ih0 _ _ _ _ _ _ | exact LeO.refl _ | exact LeO.none _ | refine LeO.ite ?_ ?_ | refine LeO.bind ?_ (fun _ => ?_)) | exact LeO.none _ | refine LeO.ite ?_ ?_ | refine LeO.bind ?_ (fun _ => ?_)
set_option maxHeartbeats 8000000 in
set_option maxRecDepth 100000 in
theorem trefoilref09_Check.calls (k : Nat) (a0_0 : Int) (a0_1 : Int) (a0_2 : Int) (a0_3 : Int) (a0_4 : Int) (r : Int) (w : World) (h : trefoilref09_Check.f k a0_0 a0_1 a0_2 a0_3 a0_4 = some r) :
  Calls Try.prog 31 #[.agg #[.int .i64 a0_0,.int .i64 a0_1,.int .i64 a0_2,.int .i64 a0_3,.int .i64 a0_4]] w fun e w' => e = .returned (.int .i64 r) ∧ Below w.heap.size w w' := by
 have hu25 := Try.underlying25;have HB := Aside0.mk (Below.refl w.heap.size w);have H : ((trefoilref09_in.f a0_0 4).bind fun t103 => (if t103 = true then ((trefoilref09_in.f a0_1 64).bind fun t104 => (if t104 = true then (if a0_0 = 3 then (trefoilref09_Check.j0 k (a0_1 != 1) a0_0 a0_1 a0_2 a0_3 a0_4) else (trefoilref09_Check.j0 k false a0_0 a0_1 a0_2 a0_3 a0_4)) else (trefoilref09_Check.j0 k true a0_0 a0_1 a0_2 a0_3 a0_4))) else (some 15))) = some r := h;clear h;replace H := Option.bind_eq_some_iff.mp H;obtain ⟨t103,A20,H⟩ := H;replace H : (if t103 = true then ((trefoilref09_in.f a0_1 64).bind fun t104 => (if t104 = true then (if a0_0 = 3 then (trefoilref09_Check.j0 k (a0_1 != 1) a0_0 a0_1 a0_2 a0_3 a0_4) else (trefoilref09_Check.j0 k false a0_0 a0_1 a0_2 a0_3 a0_4)) else (trefoilref09_Check.j0 k true a0_0 a0_1 a0_2 a0_3 a0_4))) else (some 15)) = some r := H;have A2 := Aside0.mk A20;clear A20
 by_cases c3 : t103 = true
 ·subst c3
  have H1 : ((trefoilref09_in.f a0_1 64).bind fun t104 => (if t104 = true then (if a0_0 = 3 then (trefoilref09_Check.j0 k (a0_1 != 1) a0_0 a0_1 a0_2 a0_3 a0_4) else (trefoilref09_Check.j0 k false a0_0 a0_1 a0_2 a0_3 a0_4)) else (trefoilref09_Check.j0 k true a0_0 a0_1 a0_2 a0_3 a0_4))) = some r := by rw [if_pos rfl] at H;exact H
  clear H;have H := H1;clear H1;have HC4 := Aside0.mk H;clear H
  go_enter Try.func31,Try.ntmps31
  go_upto_region 3 with (first | ((with_reducible refine gate_dst (N := 1) rfl ?_);refine bx 1 #[.int .i64 a0_0,.int .i64 a0_1,.int .i64 a0_2,.int .i64 a0_3,.int .i64 a0_4] 25 ?_;intro gb102 hg w5 hbox hb;have BK102 := Aside0.mk hbox;have GW102 := bz HB hg;have GE102 := bz HB hg;replace HB := bs HB hb;clear hb hbox hg;obtain ⟨hcz6_0,hcz6_1,hcz6_2,hcz6_3,hcz6_4,hfz6_0,hfz6_1,hfz6_2,hfz6_3,hfz6_4⟩ := cz5 BK102) | ((with_reducible refine gate_callee (f := 57) rfl ?_);refine gL (some 5) Try.func57 #[.int .i64 a0_0,.int .i64 4] ?_;(with_reducible refine (trefoilref09_in.calls a0_0 4 true _ A2.out).mono ?_);rintro e w' ⟨rfl,⟨nd,rfl⟩⟩;refine ⟨_,rfl,?_⟩))
  (try simp only [Act.put,List.setIfInBounds_toArray,List.set_cons_zero,List.set_cons_succ])
  go_cut [20] (fun v20 wc => ∃ (kq : Nat) (x20_3 : Bool),v20 = .bool x20_3 ∧ Aside0 (trefoilref09_Check.j0 kq x20_3 a0_0 a0_1 a0_2 a0_3 a0_4 = some r) ∧ Aside0 (kq ≤ k) ∧ Aside0 (wc.heap[gb102]? = some (.cells #[.int .i64 a0_0,.int .i64 a0_1,.int .i64 a0_2,.int .i64 a0_3,.int .i64 a0_4] 25 (0,0))) ∧ Aside0 (Below w.heap.size w wc))
  case first =>
   have H := HC4.out;clear HC4;replace H := Option.bind_eq_some_iff.mp H;obtain ⟨t104,A70,H⟩ := H;replace H : (if t104 = true then (if a0_0 = 3 then (trefoilref09_Check.j0 k (a0_1 != 1) a0_0 a0_1 a0_2 a0_3 a0_4) else (trefoilref09_Check.j0 k false a0_0 a0_1 a0_2 a0_3 a0_4)) else (trefoilref09_Check.j0 k true a0_0 a0_1 a0_2 a0_3 a0_4)) = some r := H;have A7 := Aside0.mk A70;clear A70
   by_cases c8 : t104 = true
   ·subst c8
    have H1 : (if a0_0 = 3 then (trefoilref09_Check.j0 k (a0_1 != 1) a0_0 a0_1 a0_2 a0_3 a0_4) else (trefoilref09_Check.j0 k false a0_0 a0_1 a0_2 a0_3 a0_4)) = some r := by rw [if_pos rfl] at H;exact H
    clear H;have H := H1;clear H1
    by_cases c9 : a0_0 = 3
    ·rw [if_pos c9] at H
     have c9b0 : (a0_0 == 3) = true := beq_iff_eq.mpr c9;have c9b1 : (a0_0 != 3) = false := bne_eq_false_iff_eq.mpr c9;clear c9;(first | rw [c9b0] | (simp only [i64_w,i32_w];rw [c9b0]) | skip);have H' := Aside0.mk H;clear H;obtain ⟨hcz10_0,hcz10_1,hcz10_2,hcz10_3,hcz10_4,hfz10_0,hfz10_1,hfz10_2,hfz10_3,hfz10_4⟩ := cz5 BK102
     go_wp2_with (first | ((with_reducible refine gate_callee (f := 57) rfl ?_);refine gL (some 9) Try.func57 #[.int .i64 a0_1,.int .i64 64] ?_;(with_reducible refine (trefoilref09_in.calls a0_1 64 true _ A7.out).mono ?_);rintro e w' ⟨rfl,⟨nd,rfl⟩⟩;refine ⟨_,rfl,?_⟩))
     go_meet
     case rel => exact ⟨_,((a0_1 != 1)),(by first | rfl | (simp;done) | (simp [*];done)),H',⟨by first | omega | exact Nat.le_refl _⟩,⟨rB BK102⟩,⟨rW HB⟩⟩
    ·rw [if_neg c9] at H
     have c9b0 : (a0_0 == 3) = false := beq_eq_false_iff_ne.mpr c9;have c9b1 : (a0_0 != 3) = true := bne_iff_ne.mpr c9;(first | rw [c9b0] | (simp only [i64_w,i32_w];rw [c9b0]) | skip);have H' := Aside0.mk H;clear H;obtain ⟨hcz11_0,hcz11_1,hcz11_2,hcz11_3,hcz11_4,hfz11_0,hfz11_1,hfz11_2,hfz11_3,hfz11_4⟩ := cz5 BK102
     go_wp2_with (first | ((with_reducible refine gate_callee (f := 57) rfl ?_);refine gL (some 9) Try.func57 #[.int .i64 a0_1,.int .i64 64] ?_;(with_reducible refine (trefoilref09_in.calls a0_1 64 true _ A7.out).mono ?_);rintro e w' ⟨rfl,⟨nd,rfl⟩⟩;refine ⟨_,rfl,?_⟩))
     go_meet
     case rel => exact ⟨_,(false),(by first | rfl | (simp;done) | (simp [*];done)),H',⟨by first | omega | exact Nat.le_refl _⟩,⟨rB BK102⟩,⟨rW HB⟩⟩
   ·replace c8 := Bool.eq_false_iff.mpr c8
    subst c8
    have H1 : (trefoilref09_Check.j0 k true a0_0 a0_1 a0_2 a0_3 a0_4) = some r := by rw [if_neg (show ¬ (false = true) by decide)] at H;exact H
    clear H;have H := H1;clear H1;have H' := Aside0.mk H;clear H;obtain ⟨hcz12_0,hcz12_1,hcz12_2,hcz12_3,hcz12_4,hfz12_0,hfz12_1,hfz12_2,hfz12_3,hfz12_4⟩ := cz5 BK102
    go_wp2_with (first | ((with_reducible refine gate_callee (f := 57) rfl ?_);refine gL (some 9) Try.func57 #[.int .i64 a0_1,.int .i64 64] ?_;(with_reducible refine (trefoilref09_in.calls a0_1 64 false _ A7.out).mono ?_);rintro e w' ⟨rfl,⟨nd,rfl⟩⟩;refine ⟨_,rfl,?_⟩))
    go_meet
    case rel => exact ⟨_,(true),(by first | rfl | (simp;done) | (simp [*];done)),H',⟨by first | omega | exact Nat.le_refl _⟩,⟨rB BK102⟩,⟨rW HB⟩⟩
  case rest =>
   clear HC4
   try clear p2
   try clear c3
   try clear c5
   try clear c8
   try clear c9
   try clear c9b0
   try clear c9b1
   try clear hcz10_0 hcz10_1 hcz10_2 hcz10_3 hcz10_4 hcz11_0 hcz11_1 hcz11_2 hcz11_3 hcz11_4 hcz12_0 hcz12_1 hcz12_2 hcz12_3 hcz12_4 hcz6_0 hcz6_1 hcz6_2 hcz6_3 hcz6_4 hfz10_0 hfz10_1 hfz10_2 hfz10_3 hfz10_4 hfz11_0 hfz11_1 hfz11_2 hfz11_3 hfz11_4 hfz12_0 hfz12_1 hfz12_2 hfz12_3 hfz12_4 hfz6_0 hfz6_1 hfz6_2 hfz6_3 hfz6_4
   obtain ⟨kq,x20_3,rfl,HA,HJ3,BK102,HB⟩ := hcut
   cases kq with
   | zero => exact absurd HA.out (by simp [trefoilref09_Check.j0])
   | succ kj3 =>
    have H := HA.out;clear HA;simp only [trefoilref09_Check.j0] at H
    by_cases c13 : x20_3 = true
    ·subst c13
     have H1 : (some 11) = some r := by rw [if_pos rfl] at H;exact H
     clear H;have H := H1;clear H1;obtain rfl := Option.some.inj H
     go_wp2
     go_ret
     exact ⟨by first | rfl | (simp [errW_none,errW_some] <;> rfl) | (simp [*,errW_none,errW_some] <;> rfl),rW HB⟩
    ·replace c13 := Bool.eq_false_iff.mpr c13
     subst c13
     have H1 : (if a0_0 = 2 then ((trefoilref09_in.f a0_2 6).bind fun t105 => (if t105 = true then ((trefoilref09_in.f a0_3 6).bind fun t106 => (if t106 = true then ((trefoilref09_in.f a0_4 6).bind fun t107 => (if t107 = true then (some 0) else (some 11))) else (some 11))) else (some 11))) else (if a0_2 = 0 then (if a0_3 = 0 then (if a0_4 = 0 then (some 0) else (some 11)) else (some 11)) else (some 11))) = some r := by rw [if_neg (show ¬ (false = true) by decide)] at H;exact H
     clear H;have H := H1;clear H1
     by_cases c14 : a0_0 = 2
     ·rw [if_pos c14] at H
      have c14b0 : (a0_0 == 2) = true := beq_iff_eq.mpr c14;have c14b1 : (a0_0 != 2) = false := bne_eq_false_iff_eq.mpr c14;clear c14;replace H := Option.bind_eq_some_iff.mp H;obtain ⟨t105,A150,H⟩ := H;replace H : (if t105 = true then ((trefoilref09_in.f a0_3 6).bind fun t106 => (if t106 = true then ((trefoilref09_in.f a0_4 6).bind fun t107 => (if t107 = true then (some 0) else (some 11))) else (some 11))) else (some 11)) = some r := H;have A15 := Aside0.mk A150;clear A150
      by_cases c16 : t105 = true
      ·subst c16
       have H1 : ((trefoilref09_in.f a0_3 6).bind fun t106 => (if t106 = true then ((trefoilref09_in.f a0_4 6).bind fun t107 => (if t107 = true then (some 0) else (some 11))) else (some 11))) = some r := by rw [if_pos rfl] at H;exact H
       clear H;have H := H1;clear H1;replace H := Option.bind_eq_some_iff.mp H;obtain ⟨t106,A170,H⟩ := H;replace H : (if t106 = true then ((trefoilref09_in.f a0_4 6).bind fun t107 => (if t107 = true then (some 0) else (some 11))) else (some 11)) = some r := H;have A17 := Aside0.mk A170;clear A170
       by_cases c18 : t106 = true
       ·subst c18
        have H1 : ((trefoilref09_in.f a0_4 6).bind fun t107 => (if t107 = true then (some 0) else (some 11))) = some r := by rw [if_pos rfl] at H;exact H
        clear H;have H := H1;clear H1;replace H := Option.bind_eq_some_iff.mp H;obtain ⟨t107,A190,H⟩ := H;replace H : (if t107 = true then (some 0) else (some 11)) = some r := H;have A19 := Aside0.mk A190;clear A190
        by_cases c20 : t107 = true
        ·subst c20
         have H1 : (some 0) = some r := by rw [if_pos rfl] at H;exact H
         clear H;have H := H1;clear H1;obtain rfl := Option.some.inj H;obtain ⟨hcz21_0,hcz21_1,hcz21_2,hcz21_3,hcz21_4,hfz21_0,hfz21_1,hfz21_2,hfz21_3,hfz21_4⟩ := cz5 BK102
         go_wp2_with (first | (go_at_call 57;(with_reducible refine (trefoilref09_in.calls a0_2 6 true _ A15.out).mono ?_);rintro e w' ⟨rfl,⟨nd,rfl⟩⟩) | (go_at_call 57;(with_reducible refine (trefoilref09_in.calls a0_3 6 true _ A17.out).mono ?_);rintro e w' ⟨rfl,⟨nd,rfl⟩⟩) | (go_at_call 57;(with_reducible refine (trefoilref09_in.calls a0_4 6 true _ A19.out).mono ?_);rintro e w' ⟨rfl,⟨nd,rfl⟩⟩))
         go_ret
         exact ⟨by first | rfl | (simp [errW_none,errW_some] <;> rfl) | (simp [*,errW_none,errW_some] <;> rfl),rW HB⟩
        ·replace c20 := Bool.eq_false_iff.mpr c20
         subst c20
         have H1 : (some 11) = some r := by rw [if_neg (show ¬ (false = true) by decide)] at H;exact H
         clear H;have H := H1;clear H1;obtain rfl := Option.some.inj H;obtain ⟨hcz22_0,hcz22_1,hcz22_2,hcz22_3,hcz22_4,hfz22_0,hfz22_1,hfz22_2,hfz22_3,hfz22_4⟩ := cz5 BK102
         go_wp2_with (first | (go_at_call 57;(with_reducible refine (trefoilref09_in.calls a0_2 6 true _ A15.out).mono ?_);rintro e w' ⟨rfl,⟨nd,rfl⟩⟩) | (go_at_call 57;(with_reducible refine (trefoilref09_in.calls a0_3 6 true _ A17.out).mono ?_);rintro e w' ⟨rfl,⟨nd,rfl⟩⟩) | (go_at_call 57;(with_reducible refine (trefoilref09_in.calls a0_4 6 false _ A19.out).mono ?_);rintro e w' ⟨rfl,⟨nd,rfl⟩⟩))
         go_ret
         exact ⟨by first | rfl | (simp [errW_none,errW_some] <;> rfl) | (simp [*,errW_none,errW_some] <;> rfl),rW HB⟩
       ·replace c18 := Bool.eq_false_iff.mpr c18
        subst c18
        have H1 : (some 11) = some r := by rw [if_neg (show ¬ (false = true) by decide)] at H;exact H
        clear H;have H := H1;clear H1;obtain rfl := Option.some.inj H;obtain ⟨hcz23_0,hcz23_1,hcz23_2,hcz23_3,hcz23_4,hfz23_0,hfz23_1,hfz23_2,hfz23_3,hfz23_4⟩ := cz5 BK102
        go_wp2_with (first | (go_at_call 57;(with_reducible refine (trefoilref09_in.calls a0_2 6 true _ A15.out).mono ?_);rintro e w' ⟨rfl,⟨nd,rfl⟩⟩) | (go_at_call 57;(with_reducible refine (trefoilref09_in.calls a0_3 6 false _ A17.out).mono ?_);rintro e w' ⟨rfl,⟨nd,rfl⟩⟩))
        go_ret
        exact ⟨by first | rfl | (simp [errW_none,errW_some] <;> rfl) | (simp [*,errW_none,errW_some] <;> rfl),rW HB⟩
      ·replace c16 := Bool.eq_false_iff.mpr c16
       subst c16
       have H1 : (some 11) = some r := by rw [if_neg (show ¬ (false = true) by decide)] at H;exact H
       clear H;have H := H1;clear H1;obtain rfl := Option.some.inj H;obtain ⟨hcz24_0,hcz24_1,hcz24_2,hcz24_3,hcz24_4,hfz24_0,hfz24_1,hfz24_2,hfz24_3,hfz24_4⟩ := cz5 BK102
       go_wp2_with (first | (go_at_call 57;(with_reducible refine (trefoilref09_in.calls a0_2 6 false _ A15.out).mono ?_);rintro e w' ⟨rfl,⟨nd,rfl⟩⟩))
       go_ret
       exact ⟨by first | rfl | (simp [errW_none,errW_some] <;> rfl) | (simp [*,errW_none,errW_some] <;> rfl),rW HB⟩
     ·rw [if_neg c14] at H
      have c14b0 : (a0_0 == 2) = false := beq_eq_false_iff_ne.mpr c14;have c14b1 : (a0_0 != 2) = true := bne_iff_ne.mpr c14
      by_cases c25 : a0_2 = 0
      ·rw [if_pos c25] at H
       have c25b0 : (a0_2 == 0) = true := beq_iff_eq.mpr c25;have c25b1 : (a0_2 != 0) = false := bne_eq_false_iff_eq.mpr c25;clear c25
       by_cases c26 : a0_3 = 0
       ·rw [if_pos c26] at H
        have c26b0 : (a0_3 == 0) = true := beq_iff_eq.mpr c26;have c26b1 : (a0_3 != 0) = false := bne_eq_false_iff_eq.mpr c26;clear c26
        by_cases c27 : a0_4 = 0
        ·rw [if_pos c27] at H
         have c27b0 : (a0_4 == 0) = true := beq_iff_eq.mpr c27;have c27b1 : (a0_4 != 0) = false := bne_eq_false_iff_eq.mpr c27;clear c27;obtain rfl := Option.some.inj H;obtain ⟨hcz28_0,hcz28_1,hcz28_2,hcz28_3,hcz28_4,hfz28_0,hfz28_1,hfz28_2,hfz28_3,hfz28_4⟩ := cz5 BK102
         go_wp2
         go_ret
         exact ⟨by first | rfl | (simp [errW_none,errW_some] <;> rfl) | (simp [*,errW_none,errW_some] <;> rfl),rW HB⟩
        ·rw [if_neg c27] at H
         have c27b0 : (a0_4 == 0) = false := beq_eq_false_iff_ne.mpr c27;have c27b1 : (a0_4 != 0) = true := bne_iff_ne.mpr c27;obtain rfl := Option.some.inj H;obtain ⟨hcz29_0,hcz29_1,hcz29_2,hcz29_3,hcz29_4,hfz29_0,hfz29_1,hfz29_2,hfz29_3,hfz29_4⟩ := cz5 BK102
         go_wp2
         go_ret
         exact ⟨by first | rfl | (simp [errW_none,errW_some] <;> rfl) | (simp [*,errW_none,errW_some] <;> rfl),rW HB⟩
       ·rw [if_neg c26] at H
        have c26b0 : (a0_3 == 0) = false := beq_eq_false_iff_ne.mpr c26;have c26b1 : (a0_3 != 0) = true := bne_iff_ne.mpr c26;obtain rfl := Option.some.inj H;obtain ⟨hcz30_0,hcz30_1,hcz30_2,hcz30_3,hcz30_4,hfz30_0,hfz30_1,hfz30_2,hfz30_3,hfz30_4⟩ := cz5 BK102
        go_wp2
        go_ret
        exact ⟨by first | rfl | (simp [errW_none,errW_some] <;> rfl) | (simp [*,errW_none,errW_some] <;> rfl),rW HB⟩
      ·rw [if_neg c25] at H
       have c25b0 : (a0_2 == 0) = false := beq_eq_false_iff_ne.mpr c25;have c25b1 : (a0_2 != 0) = true := bne_iff_ne.mpr c25;obtain rfl := Option.some.inj H;obtain ⟨hcz31_0,hcz31_1,hcz31_2,hcz31_3,hcz31_4,hfz31_0,hfz31_1,hfz31_2,hfz31_3,hfz31_4⟩ := cz5 BK102
       go_wp2
       go_ret
       exact ⟨by first | rfl | (simp [errW_none,errW_some] <;> rfl) | (simp [*,errW_none,errW_some] <;> rfl),rW HB⟩
 ·replace c3 := Bool.eq_false_iff.mpr c3
  subst c3
  have H1 : (some 15) = some r := by rw [if_neg (show ¬ (false = true) by decide)] at H;exact H
  clear H;have H := H1;clear H1;obtain rfl := Option.some.inj H
  go_enter Try.func31,Try.ntmps31
  go_wp2_with (first | ((with_reducible refine gate_dst (N := 1) rfl ?_);refine bx 1 #[.int .i64 a0_0,.int .i64 a0_1,.int .i64 a0_2,.int .i64 a0_3,.int .i64 a0_4] 25 ?_;intro gb102 hg w32 hbox hb;have BK102 := Aside0.mk hbox;have GW102 := bz HB hg;have GE102 := bz HB hg;replace HB := bs HB hb;clear hb hbox hg;obtain ⟨hcz33_0,hcz33_1,hcz33_2,hcz33_3,hcz33_4,hfz33_0,hfz33_1,hfz33_2,hfz33_3,hfz33_4⟩ := cz5 BK102) | ((with_reducible refine gate_callee (f := 57) rfl ?_);refine gL (some 5) Try.func57 #[.int .i64 a0_0,.int .i64 4] ?_;(with_reducible refine (trefoilref09_in.calls a0_0 4 false _ A2.out).mono ?_);rintro e w' ⟨rfl,⟨nd,rfl⟩⟩;refine ⟨_,rfl,?_⟩))
  go_ret
  exact ⟨by first | rfl | (simp [errW_none,errW_some] <;> rfl) | (simp [*,errW_none,errW_some] <;> rfl),rW HB⟩
def trefoilref22_Check.f (k : Nat) (a0_0 : Int) (a0_1 : Int) (a0_2 : Int) (a0_3 : Int) (a0_4 : Int) (a1 : Int) (a2 : Int) : Option (Int) := (trefoilref09_Check.f k a0_0 a0_1 a0_2 a0_3 a0_4).bind fun t109 => (if t109 = 0 then (if a0_0 = a1 then ((trefoilref22_Sides.f a0_0 a0_1 a0_2 a0_3 a0_4).bind fun bt111 => (if a2 < 1 then (some 2) else (if a2 > 24 then (some 2) else (if (wrap64 ((wrap64 ((wrap64 (a2 * bt111.1)) * bt111.2.1)) * a0_1)) > 4096 then (some 2) else (some 0))))) else (some 15)) else ((trefoilref09_Check.f k a0_0 a0_1 a0_2 a0_3 a0_4).bind fun t110 => (some t110)))
theorem trefoilref22_Check.mono : ∀ a0 a1 a2 a3 a4 a5 a6 k,LeO (trefoilref22_Check.f k a0 a1 a2 a3 a4 a5 a6) (trefoilref22_Check.f (k + 1) a0 a1 a2 a3 a4 a5 a6) := by
 intro a0 a1 a2 a3 a4 a5 a6 k;unfold trefoilref22_Check.f
 repeat' first | (with_reducible first | exact trefoilref09_Check.mono _ _ _ _ _ _ | exact LeO.refl _ | exact LeO.none _ | refine LeO.ite ?_ ?_ | refine LeO.bind ?_ (fun _ => ?_)) | exact LeO.none _ | refine LeO.ite ?_ ?_ | refine LeO.bind ?_ (fun _ => ?_)
set_option maxHeartbeats 8000000 in
set_option maxRecDepth 100000 in
theorem trefoilref22_Check.calls (k : Nat) (a0_0 : Int) (a0_1 : Int) (a0_2 : Int) (a0_3 : Int) (a0_4 : Int) (a1 : Int) (a2 : Int) (r : Int) (w : World) (h : trefoilref22_Check.f k a0_0 a0_1 a0_2 a0_3 a0_4 a1 a2 = some r) :
  Calls Try.prog 39 #[.agg #[.int .i64 a0_0,.int .i64 a0_1,.int .i64 a0_2,.int .i64 a0_3,.int .i64 a0_4],.int .i64 a1,.int .i64 a2] w fun e w' => e = .returned (.int .i64 r) ∧ Below w.heap.size w w' := by
 have hu25 := Try.underlying25;have HB := Aside0.mk (Below.refl w.heap.size w);have H : ((trefoilref09_Check.f k a0_0 a0_1 a0_2 a0_3 a0_4).bind fun t109 => (if t109 = 0 then (if a0_0 = a1 then ((trefoilref22_Sides.f a0_0 a0_1 a0_2 a0_3 a0_4).bind fun bt111 => (if a2 < 1 then (some 2) else (if a2 > 24 then (some 2) else (if (wrap64 ((wrap64 ((wrap64 (a2 * bt111.1)) * bt111.2.1)) * a0_1)) > 4096 then (some 2) else (some 0))))) else (some 15)) else ((trefoilref09_Check.f k a0_0 a0_1 a0_2 a0_3 a0_4).bind fun t110 => (some t110)))) = some r := h;clear h;replace H := Option.bind_eq_some_iff.mp H;obtain ⟨t109,A40,H⟩ := H;replace H : (if t109 = 0 then (if a0_0 = a1 then ((trefoilref22_Sides.f a0_0 a0_1 a0_2 a0_3 a0_4).bind fun bt111 => (if a2 < 1 then (some 2) else (if a2 > 24 then (some 2) else (if (wrap64 ((wrap64 ((wrap64 (a2 * bt111.1)) * bt111.2.1)) * a0_1)) > 4096 then (some 2) else (some 0))))) else (some 15)) else ((trefoilref09_Check.f k a0_0 a0_1 a0_2 a0_3 a0_4).bind fun t110 => (some t110))) = some r := H;have A4 := Aside0.mk A40;clear A40
 by_cases c5 : t109 = 0
 ·rw [if_pos c5] at H
  have c5b0 : (t109 == 0) = true := beq_iff_eq.mpr c5;have c5b1 : (t109 != 0) = false := bne_eq_false_iff_eq.mpr c5;clear c5
  by_cases c6 : a0_0 = a1
  ·rw [if_pos c6] at H
   have c6b0 : (a0_0 == a1) = true := beq_iff_eq.mpr c6;have c6b1 : (a0_0 != a1) = false := bne_eq_false_iff_eq.mpr c6;clear c6;replace H := Option.bind_eq_some_iff.mp H;obtain ⟨⟨t111,t112,t113⟩,A70,H⟩ := H;replace H : (if a2 < 1 then (some 2) else (if a2 > 24 then (some 2) else (if (wrap64 ((wrap64 ((wrap64 (a2 * t111)) * t112)) * a0_1)) > 4096 then (some 2) else (some 0)))) = some r := H;have A7 := Aside0.mk A70;clear A70
   by_cases c8 : a2 < 1
   ·rw [if_pos c8] at H
    have c8b0 : decide (a2 < 1) = true := decide_eq_true c8;clear c8;obtain rfl := Option.some.inj H
    go_enter Try.func39,Try.ntmps39
    go_wp2_with (first | ((with_reducible refine gate_dst (N := 3) rfl ?_);refine bx 3 #[.int .i64 a0_0,.int .i64 a0_1,.int .i64 a0_2,.int .i64 a0_3,.int .i64 a0_4] 25 ?_;intro gb108 hg w9 hbox hb;have BK108 := Aside0.mk hbox;have GW108 := bz HB hg;have GE108 := bz HB hg;replace HB := bs HB hb;clear hb hbox hg;obtain ⟨hcz10_0,hcz10_1,hcz10_2,hcz10_3,hcz10_4,hfz10_0,hfz10_1,hfz10_2,hfz10_3,hfz10_4⟩ := cz5 BK108) | ((with_reducible refine gate_callee (f := 31) rfl ?_);refine gL (some 11) Try.func31 #[.agg #[.int .i64 a0_0,.int .i64 a0_1,.int .i64 a0_2,.int .i64 a0_3,.int .i64 a0_4]] ?_;(with_reducible refine (trefoilref09_Check.calls k a0_0 a0_1 a0_2 a0_3 a0_4 t109 _ A4.out).mono ?_);rintro e w11 ⟨rfl,hb⟩;refine ⟨_,rfl,?_⟩;replace BK108 := bb BK108 hb;replace HB := bs HB hb;(try clear hb);(try clear hb2);(try clear hk);(try clear hi);obtain ⟨hcz12_0,hcz12_1,hcz12_2,hcz12_3,hcz12_4,hfz12_0,hfz12_1,hfz12_2,hfz12_3,hfz12_4⟩ := cz5 BK108) | ((with_reducible refine gate_callee (f := 17) rfl ?_);refine gL (some 21) Try.func17 #[.agg #[.int .i64 a0_0,.int .i64 a0_1,.int .i64 a0_2,.int .i64 a0_3,.int .i64 a0_4]] ?_;(with_reducible refine (trefoilref22_Sides.calls a0_0 a0_1 a0_2 a0_3 a0_4 t111 t112 t113 _ A7.out).mono ?_);rintro e w13 ⟨rfl,hb⟩;refine ⟨_,rfl,?_⟩;replace BK108 := bb BK108 hb;replace HB := bs HB hb;(try clear hb);(try clear hb2);(try clear hk);(try clear hi)))
    go_ret
    exact ⟨by first | rfl | (simp [errW_none,errW_some] <;> rfl) | (simp [*,errW_none,errW_some] <;> rfl),rW HB⟩
   ·rw [if_neg c8] at H
    have c8b0 : decide (a2 < 1) = false := decide_eq_false c8;clear c8
    by_cases c14 : a2 > 24
    ·rw [if_pos c14] at H
     have c14b0 : decide (24 < a2) = true := decide_eq_true c14;clear c14;obtain rfl := Option.some.inj H
     go_enter Try.func39,Try.ntmps39
     go_wp2_with (first | ((with_reducible refine gate_dst (N := 3) rfl ?_);refine bx 3 #[.int .i64 a0_0,.int .i64 a0_1,.int .i64 a0_2,.int .i64 a0_3,.int .i64 a0_4] 25 ?_;intro gb108 hg w15 hbox hb;have BK108 := Aside0.mk hbox;have GW108 := bz HB hg;have GE108 := bz HB hg;replace HB := bs HB hb;clear hb hbox hg;obtain ⟨hcz16_0,hcz16_1,hcz16_2,hcz16_3,hcz16_4,hfz16_0,hfz16_1,hfz16_2,hfz16_3,hfz16_4⟩ := cz5 BK108) | ((with_reducible refine gate_callee (f := 31) rfl ?_);refine gL (some 11) Try.func31 #[.agg #[.int .i64 a0_0,.int .i64 a0_1,.int .i64 a0_2,.int .i64 a0_3,.int .i64 a0_4]] ?_;(with_reducible refine (trefoilref09_Check.calls k a0_0 a0_1 a0_2 a0_3 a0_4 t109 _ A4.out).mono ?_);rintro e w17 ⟨rfl,hb⟩;refine ⟨_,rfl,?_⟩;replace BK108 := bb BK108 hb;replace HB := bs HB hb;(try clear hb);(try clear hb2);(try clear hk);(try clear hi);obtain ⟨hcz18_0,hcz18_1,hcz18_2,hcz18_3,hcz18_4,hfz18_0,hfz18_1,hfz18_2,hfz18_3,hfz18_4⟩ := cz5 BK108) | ((with_reducible refine gate_callee (f := 17) rfl ?_);refine gL (some 21) Try.func17 #[.agg #[.int .i64 a0_0,.int .i64 a0_1,.int .i64 a0_2,.int .i64 a0_3,.int .i64 a0_4]] ?_;(with_reducible refine (trefoilref22_Sides.calls a0_0 a0_1 a0_2 a0_3 a0_4 t111 t112 t113 _ A7.out).mono ?_);rintro e w19 ⟨rfl,hb⟩;refine ⟨_,rfl,?_⟩;replace BK108 := bb BK108 hb;replace HB := bs HB hb;(try clear hb);(try clear hb2);(try clear hk);(try clear hi)))
     go_ret
     exact ⟨by first | rfl | (simp [errW_none,errW_some] <;> rfl) | (simp [*,errW_none,errW_some] <;> rfl),rW HB⟩
    ·rw [if_neg c14] at H
     have c14b0 : decide (24 < a2) = false := decide_eq_false c14;clear c14
     by_cases c20 : (wrap64 ((wrap64 ((wrap64 (a2 * t111)) * t112)) * a0_1)) > 4096
     ·rw [if_pos c20] at H
      have c20b0 : decide (4096 < (wrap64 ((wrap64 ((wrap64 (a2 * t111)) * t112)) * a0_1))) = true := decide_eq_true c20;clear c20;obtain rfl := Option.some.inj H
      go_enter Try.func39,Try.ntmps39
      go_wp2_with (first | ((with_reducible refine gate_dst (N := 3) rfl ?_);refine bx 3 #[.int .i64 a0_0,.int .i64 a0_1,.int .i64 a0_2,.int .i64 a0_3,.int .i64 a0_4] 25 ?_;intro gb108 hg w21 hbox hb;have BK108 := Aside0.mk hbox;have GW108 := bz HB hg;have GE108 := bz HB hg;replace HB := bs HB hb;clear hb hbox hg;obtain ⟨hcz22_0,hcz22_1,hcz22_2,hcz22_3,hcz22_4,hfz22_0,hfz22_1,hfz22_2,hfz22_3,hfz22_4⟩ := cz5 BK108) | ((with_reducible refine gate_callee (f := 31) rfl ?_);refine gL (some 11) Try.func31 #[.agg #[.int .i64 a0_0,.int .i64 a0_1,.int .i64 a0_2,.int .i64 a0_3,.int .i64 a0_4]] ?_;(with_reducible refine (trefoilref09_Check.calls k a0_0 a0_1 a0_2 a0_3 a0_4 t109 _ A4.out).mono ?_);rintro e w23 ⟨rfl,hb⟩;refine ⟨_,rfl,?_⟩;replace BK108 := bb BK108 hb;replace HB := bs HB hb;(try clear hb);(try clear hb2);(try clear hk);(try clear hi);obtain ⟨hcz24_0,hcz24_1,hcz24_2,hcz24_3,hcz24_4,hfz24_0,hfz24_1,hfz24_2,hfz24_3,hfz24_4⟩ := cz5 BK108) | ((with_reducible refine gate_callee (f := 17) rfl ?_);refine gL (some 21) Try.func17 #[.agg #[.int .i64 a0_0,.int .i64 a0_1,.int .i64 a0_2,.int .i64 a0_3,.int .i64 a0_4]] ?_;(with_reducible refine (trefoilref22_Sides.calls a0_0 a0_1 a0_2 a0_3 a0_4 t111 t112 t113 _ A7.out).mono ?_);rintro e w25 ⟨rfl,hb⟩;refine ⟨_,rfl,?_⟩;replace BK108 := bb BK108 hb;replace HB := bs HB hb;(try clear hb);(try clear hb2);(try clear hk);(try clear hi);obtain ⟨hcz26_0,hcz26_1,hcz26_2,hcz26_3,hcz26_4,hfz26_0,hfz26_1,hfz26_2,hfz26_3,hfz26_4⟩ := cz5 BK108))
      go_ret
      exact ⟨by first | rfl | (simp [errW_none,errW_some] <;> rfl) | (simp [*,errW_none,errW_some] <;> rfl),rW HB⟩
     ·rw [if_neg c20] at H
      have c20b0 : decide (4096 < (wrap64 ((wrap64 ((wrap64 (a2 * t111)) * t112)) * a0_1))) = false := decide_eq_false c20;clear c20;obtain rfl := Option.some.inj H
      go_enter Try.func39,Try.ntmps39
      go_wp2_with (first | ((with_reducible refine gate_dst (N := 3) rfl ?_);refine bx 3 #[.int .i64 a0_0,.int .i64 a0_1,.int .i64 a0_2,.int .i64 a0_3,.int .i64 a0_4] 25 ?_;intro gb108 hg w27 hbox hb;have BK108 := Aside0.mk hbox;have GW108 := bz HB hg;have GE108 := bz HB hg;replace HB := bs HB hb;clear hb hbox hg;obtain ⟨hcz28_0,hcz28_1,hcz28_2,hcz28_3,hcz28_4,hfz28_0,hfz28_1,hfz28_2,hfz28_3,hfz28_4⟩ := cz5 BK108) | ((with_reducible refine gate_callee (f := 31) rfl ?_);refine gL (some 11) Try.func31 #[.agg #[.int .i64 a0_0,.int .i64 a0_1,.int .i64 a0_2,.int .i64 a0_3,.int .i64 a0_4]] ?_;(with_reducible refine (trefoilref09_Check.calls k a0_0 a0_1 a0_2 a0_3 a0_4 t109 _ A4.out).mono ?_);rintro e w29 ⟨rfl,hb⟩;refine ⟨_,rfl,?_⟩;replace BK108 := bb BK108 hb;replace HB := bs HB hb;(try clear hb);(try clear hb2);(try clear hk);(try clear hi);obtain ⟨hcz30_0,hcz30_1,hcz30_2,hcz30_3,hcz30_4,hfz30_0,hfz30_1,hfz30_2,hfz30_3,hfz30_4⟩ := cz5 BK108) | ((with_reducible refine gate_callee (f := 17) rfl ?_);refine gL (some 21) Try.func17 #[.agg #[.int .i64 a0_0,.int .i64 a0_1,.int .i64 a0_2,.int .i64 a0_3,.int .i64 a0_4]] ?_;(with_reducible refine (trefoilref22_Sides.calls a0_0 a0_1 a0_2 a0_3 a0_4 t111 t112 t113 _ A7.out).mono ?_);rintro e w31 ⟨rfl,hb⟩;refine ⟨_,rfl,?_⟩;replace BK108 := bb BK108 hb;replace HB := bs HB hb;(try clear hb);(try clear hb2);(try clear hk);(try clear hi);obtain ⟨hcz32_0,hcz32_1,hcz32_2,hcz32_3,hcz32_4,hfz32_0,hfz32_1,hfz32_2,hfz32_3,hfz32_4⟩ := cz5 BK108))
      go_ret
      exact ⟨by first | rfl | (simp [errW_none,errW_some] <;> rfl) | (simp [*,errW_none,errW_some] <;> rfl),rW HB⟩
  ·rw [if_neg c6] at H
   have c6b0 : (a0_0 == a1) = false := beq_eq_false_iff_ne.mpr c6;have c6b1 : (a0_0 != a1) = true := bne_iff_ne.mpr c6;obtain rfl := Option.some.inj H
   go_enter Try.func39,Try.ntmps39
   go_wp2_with (first | ((with_reducible refine gate_dst (N := 3) rfl ?_);refine bx 3 #[.int .i64 a0_0,.int .i64 a0_1,.int .i64 a0_2,.int .i64 a0_3,.int .i64 a0_4] 25 ?_;intro gb108 hg w33 hbox hb;have BK108 := Aside0.mk hbox;have GW108 := bz HB hg;have GE108 := bz HB hg;replace HB := bs HB hb;clear hb hbox hg;obtain ⟨hcz34_0,hcz34_1,hcz34_2,hcz34_3,hcz34_4,hfz34_0,hfz34_1,hfz34_2,hfz34_3,hfz34_4⟩ := cz5 BK108) | ((with_reducible refine gate_callee (f := 31) rfl ?_);refine gL (some 11) Try.func31 #[.agg #[.int .i64 a0_0,.int .i64 a0_1,.int .i64 a0_2,.int .i64 a0_3,.int .i64 a0_4]] ?_;(with_reducible refine (trefoilref09_Check.calls k a0_0 a0_1 a0_2 a0_3 a0_4 t109 _ A4.out).mono ?_);rintro e w35 ⟨rfl,hb⟩;refine ⟨_,rfl,?_⟩;replace BK108 := bb BK108 hb;replace HB := bs HB hb;(try clear hb);(try clear hb2);(try clear hk);(try clear hi);obtain ⟨hcz36_0,hcz36_1,hcz36_2,hcz36_3,hcz36_4,hfz36_0,hfz36_1,hfz36_2,hfz36_3,hfz36_4⟩ := cz5 BK108))
   go_ret
   exact ⟨by first | rfl | (simp [errW_none,errW_some] <;> rfl) | (simp [*,errW_none,errW_some] <;> rfl),rW HB⟩
 ·rw [if_neg c5] at H
  have c5b0 : (t109 == 0) = false := beq_eq_false_iff_ne.mpr c5;have c5b1 : (t109 != 0) = true := bne_iff_ne.mpr c5;replace H := Option.bind_eq_some_iff.mp H;obtain ⟨t110,A370,H⟩ := H;replace H : (some t110) = some r := H;have A37 := Aside0.mk A370;clear A370;obtain rfl := Option.some.inj H
  go_enter Try.func39,Try.ntmps39
  go_wp2_with (first | ((with_reducible refine gate_dst (N := 3) rfl ?_);refine bx 3 #[.int .i64 a0_0,.int .i64 a0_1,.int .i64 a0_2,.int .i64 a0_3,.int .i64 a0_4] 25 ?_;intro gb108 hg w38 hbox hb;have BK108 := Aside0.mk hbox;have GW108 := bz HB hg;have GE108 := bz HB hg;replace HB := bs HB hb;clear hb hbox hg;obtain ⟨hcz39_0,hcz39_1,hcz39_2,hcz39_3,hcz39_4,hfz39_0,hfz39_1,hfz39_2,hfz39_3,hfz39_4⟩ := cz5 BK108) | ((with_reducible refine gate_callee (f := 31) rfl ?_);refine gL (some 11) Try.func31 #[.agg #[.int .i64 a0_0,.int .i64 a0_1,.int .i64 a0_2,.int .i64 a0_3,.int .i64 a0_4]] ?_;(with_reducible refine (trefoilref09_Check.calls k a0_0 a0_1 a0_2 a0_3 a0_4 t109 _ A4.out).mono ?_);rintro e w40 ⟨rfl,hb⟩;refine ⟨_,rfl,?_⟩;replace BK108 := bb BK108 hb;replace HB := bs HB hb;(try clear hb);(try clear hb2);(try clear hk);(try clear hi);obtain ⟨hcz41_0,hcz41_1,hcz41_2,hcz41_3,hcz41_4,hfz41_0,hfz41_1,hfz41_2,hfz41_3,hfz41_4⟩ := cz5 BK108) | ((with_reducible refine gate_callee (f := 31) rfl ?_);refine gL (some 14) Try.func31 #[.agg #[.int .i64 a0_0,.int .i64 a0_1,.int .i64 a0_2,.int .i64 a0_3,.int .i64 a0_4]] ?_;(with_reducible refine (trefoilref09_Check.calls k a0_0 a0_1 a0_2 a0_3 a0_4 t110 _ A37.out).mono ?_);rintro e w42 ⟨rfl,hb⟩;refine ⟨_,rfl,?_⟩;replace BK108 := bb BK108 hb;replace HB := bs HB hb;(try clear hb);(try clear hb2);(try clear hk);(try clear hi)))
  go_ret
  exact ⟨by first | rfl | (simp [errW_none,errW_some] <;> rfl) | (simp [*,errW_none,errW_some] <;> rfl),rW HB⟩
def trefoilref06_Tape_Take.f (l0_0 : List Int) (a0_1 : Int) (a1 : Int) : Option (List Int × Int × List Int × Int) := if a1 < 0 then (some (l0_0,a0_1,([] : List Int),1)) else (if a1 > (wrap64 ((l0_0.length : Int) - a0_1)) then (some (l0_0,a0_1,([] : List Int),10)) else ((some (([] : List Int) : List Int)).bind fun y116 => (if 0 ≤ a0_1 then (if a0_1 ≤ (wrap64 (a0_1 + a1)) then (if (wrap64 (a0_1 + a1)) ≤ (l0_0.length : Int) then ((some ((l0_0.take ((wrap64 (a0_1 + a1)) : Int).toNat).drop (a0_1 : Int).toNat : List Int)).bind fun y119 => (if y116.length + y119.length < 17592186044416 then (some (l0_0,wrap64 (a0_1 + a1),(y116 ++ y119),0)) else (none))) else (none)) else (none)) else (none))))
set_option maxHeartbeats 8000000 in
set_option maxRecDepth 100000 in
theorem trefoilref06_Tape_Take.calls (P0_0_ : Nat → Prop) (A0_0 : Option Addr) (c0_0 : Nat) (l0_0 : List Int) (a0_1 : Int) (a1 : Int) (r1 : List Int) (r2 : Int) (r3 : List Int) (r4 : Int) (w : World) (hs0_0 : Kd.V (Kd.int .u64) 32 w w.heap.size (fun k_ => P0_0_ k_) (.slice A0_0 l0_0.length c0_0) l0_0) (h : trefoilref06_Tape_Take.f l0_0 a0_1 a1 = some (r1,r2,r3,r4)) :
  Calls Try.prog 66 #[.agg #[.slice A0_0 l0_0.length c0_0,.int .i64 a0_1],.int .i64 a1] w fun e w' => ∃ v0_ v2_ : Value,e = .returned (.tuple #[.agg #[v0_,.int .i64 r2],v2_,.int .i64 r4]) ∧ Kd.V (Kd.int .u64) 32 w' w.heap.size (fun k_ => (P0_0_ k_ ∨ w.heap.size ≤ k_) ∧ some k_ ≠ (v2_ : Value).ownBlock) v0_ r1 ∧ Kd.R (Kd.int .u64) 32 w' w.heap.size (fun k_ => (w.heap.size ≤ k_)) v2_ r3 ∧ Below w.heap.size w w' := by
 have hu41 := Try.underlying41;have HO0_0 := Aside0.mk (show Kd.V (Kd.int .u64) 32 w w.heap.size (fun k_ => (P0_0_ k_ ∨ w.heap.size ≤ k_)) (.slice A0_0 l0_0.length c0_0) l0_0 from Kd.V_mono hs0_0 (fun k_ hk => .inl hk));have HB := Aside0.mk (Below.refl w.heap.size w);have H : (if a1 < 0 then (some (l0_0,a0_1,([] : List Int),1)) else (if a1 > (wrap64 ((l0_0.length : Int) - a0_1)) then (some (l0_0,a0_1,([] : List Int),10)) else ((some (([] : List Int) : List Int)).bind fun y116 => (if 0 ≤ a0_1 then (if a0_1 ≤ (wrap64 (a0_1 + a1)) then (if (wrap64 (a0_1 + a1)) ≤ (l0_0.length : Int) then ((some ((l0_0.take ((wrap64 (a0_1 + a1)) : Int).toNat).drop (a0_1 : Int).toNat : List Int)).bind fun y119 => (if y116.length + y119.length < 17592186044416 then (some (l0_0,wrap64 (a0_1 + a1),(y116 ++ y119),0)) else (none))) else (none)) else (none)) else (none))))) = some (r1,r2,r3,r4) := h;clear h
 by_cases c3 : a1 < 0
 ·rw [if_pos c3] at H
  have c3b0 : decide (a1 < 0) = true := decide_eq_true c3;clear c3;simp only [Option.some.injEq,Prod.mk.injEq] at H;obtain ⟨rfl,rfl,rfl,rfl⟩ := H
  go_enter Try.func66,Try.ntmps66
  go_wp2_with (first | ((with_reducible refine gate_dst (N := 2) rfl ?_);refine bx 2 #[.slice A0_0 l0_0.length c0_0,.int .i64 a0_1] 41 ?_;intro gb114 hg w4 hbox hb;replace HO0_0 := eV HO0_0 hg hb;have BK114 := Aside0.mk hbox;have GW114 := bz HB hg;have GE114 := bz HB hg;replace HB := bs HB hb;clear hb hbox hg) | ((with_reducible refine gate_dst (N := 4) rfl ?_);refine bx 4 #[.slice none 0 0,.int .i64 0] 41 ?_;intro gb115 hg w5 hbox hb;replace HO0_0 := eV HO0_0 hg hb;have BK115 := Aside0.mk hbox;have GW115 := bz HB hg;have GE115 := bz HB hg;replace HB := bs HB hb;have NB114_115 := bl BK114 hg;have NB115_114 := bg BK114 hg;replace BK114 := bb BK114 hb;clear hb hbox hg;have hnb6 := NB114_115.out;have hnc6 := NB115_114.out;obtain ⟨hcz7_0,hcz7_1,hfz7_0,hfz7_1⟩ := cz2 BK114;obtain ⟨hcz8_0,hcz8_1,hfz8_0,hfz8_1⟩ := cz2 BK115))
  refine bodyPost_ret (results_ctt rfl _ _ gb115 41 #[.slice A0_0 l0_0.length c0_0,.int .i64 a0_1] (0,0) _ rfl (by (with_reducible repeat (first | refine blk_drewN ?_ _ | refine blk_drew ?_ | refine blk_alloc ?_ _));refine blk_put (cs := #[.slice A0_0 l0_0.length c0_0,.int .i64 0]) ?_ 1 _ rfl;(with_reducible repeat (first | refine blk_drewN ?_ _ | refine blk_drew ?_ | refine blk_alloc ?_ _));refine blk_put (cs := #[.slice none 0 0,.int .i64 0]) ?_ 0 _ rfl;(with_reducible repeat (first | refine blk_drewN ?_ _ | refine blk_drew ?_ | refine blk_alloc ?_ _));exact BK115.out) Try.underlying41 rfl (by kernel_rfl)) rfl ?_;exact ⟨_,_,by first | rfl | (simp [errW_none,errW_some] <;> rfl) | (simp [*,errW_none,errW_some] <;> rfl),by (with_reducible repeat (first | apply Kd.V_alloc | apply Kd.V_drewN | apply Kd.V_drew));exact Kd.V_mono (Kd.V_far (p := ⟨gb115,1,none⟩) (Kd.V_far (p := ⟨gb115,0,none⟩) (Kd.V_mono HO0_0.out (fun k_ hk => (⟨hk,hk.2⟩ : _ ∧ k_ ≠ gb115))) (fun _ hk => hk.2) (.slice A0_0 l0_0.length c0_0)) (fun _ hk => hk.2) (.int .i64 a0_1)) (fun _ hk => ⟨hk.1.1.1,(by simp [Value.ownBlock])⟩),by first | exact Kd.R_nil _ _ _ _ _ | exact Kd.N_nil _ _ _ _ _ | exact Kd.V_nil _ _ _ _ _ | exact Kd.Q_nil _ _ _ _ _ | exact Kd.S_nil _ _ _ _ _,rW HB⟩
 ·rw [if_neg c3] at H
  have c3b0 : decide (a1 < 0) = false := decide_eq_false c3;clear c3
  by_cases c9 : a1 > (wrap64 ((l0_0.length : Int) - a0_1))
  ·rw [if_pos c9] at H
   have c9b0 : decide ((wrap64 ((l0_0.length : Int) - a0_1)) < a1) = true := decide_eq_true c9;clear c9;simp only [Option.some.injEq,Prod.mk.injEq] at H;obtain ⟨rfl,rfl,rfl,rfl⟩ := H
   go_enter Try.func66,Try.ntmps66
   go_wp2_with (first | ((with_reducible refine gate_dst (N := 2) rfl ?_);refine bx 2 #[.slice A0_0 l0_0.length c0_0,.int .i64 a0_1] 41 ?_;intro gb114 hg w10 hbox hb;replace HO0_0 := eV HO0_0 hg hb;have BK114 := Aside0.mk hbox;have GW114 := bz HB hg;have GE114 := bz HB hg;replace HB := bs HB hb;clear hb hbox hg) | ((with_reducible refine gate_dst (N := 4) rfl ?_);refine bx 4 #[.slice none 0 0,.int .i64 0] 41 ?_;intro gb115 hg w11 hbox hb;replace HO0_0 := eV HO0_0 hg hb;have BK115 := Aside0.mk hbox;have GW115 := bz HB hg;have GE115 := bz HB hg;replace HB := bs HB hb;have NB114_115 := bl BK114 hg;have NB115_114 := bg BK114 hg;replace BK114 := bb BK114 hb;clear hb hbox hg;have hnb12 := NB114_115.out;have hnc12 := NB115_114.out;obtain ⟨hcz13_0,hcz13_1,hfz13_0,hfz13_1⟩ := cz2 BK114;obtain ⟨hcz14_0,hcz14_1,hfz14_0,hfz14_1⟩ := cz2 BK115))
   refine bodyPost_ret (results_ctt rfl _ _ gb115 41 #[.slice A0_0 l0_0.length c0_0,.int .i64 a0_1] (0,0) _ rfl (by (with_reducible repeat (first | refine blk_drewN ?_ _ | refine blk_drew ?_ | refine blk_alloc ?_ _));refine blk_put (cs := #[.slice A0_0 l0_0.length c0_0,.int .i64 0]) ?_ 1 _ rfl;(with_reducible repeat (first | refine blk_drewN ?_ _ | refine blk_drew ?_ | refine blk_alloc ?_ _));refine blk_put (cs := #[.slice none 0 0,.int .i64 0]) ?_ 0 _ rfl;(with_reducible repeat (first | refine blk_drewN ?_ _ | refine blk_drew ?_ | refine blk_alloc ?_ _));exact BK115.out) Try.underlying41 rfl (by kernel_rfl)) rfl ?_;exact ⟨_,_,by first | rfl | (simp [errW_none,errW_some] <;> rfl) | (simp [*,errW_none,errW_some] <;> rfl),by (with_reducible repeat (first | apply Kd.V_alloc | apply Kd.V_drewN | apply Kd.V_drew));exact Kd.V_mono (Kd.V_far (p := ⟨gb115,1,none⟩) (Kd.V_far (p := ⟨gb115,0,none⟩) (Kd.V_mono HO0_0.out (fun k_ hk => (⟨hk,hk.2⟩ : _ ∧ k_ ≠ gb115))) (fun _ hk => hk.2) (.slice A0_0 l0_0.length c0_0)) (fun _ hk => hk.2) (.int .i64 a0_1)) (fun _ hk => ⟨hk.1.1.1,(by simp [Value.ownBlock])⟩),by first | exact Kd.R_nil _ _ _ _ _ | exact Kd.N_nil _ _ _ _ _ | exact Kd.V_nil _ _ _ _ _ | exact Kd.Q_nil _ _ _ _ _ | exact Kd.S_nil _ _ _ _ _,rW HB⟩
  ·rw [if_neg c9] at H
   have c9b0 : decide ((wrap64 ((l0_0.length : Int) - a0_1)) < a1) = false := decide_eq_false c9;clear c9;obtain ⟨y116,hy116⟩ : ∃ y_ : List Int,y_ = (([] : List Int)) := ⟨_,rfl⟩;replace H : (if 0 ≤ a0_1 then (if a0_1 ≤ (wrap64 (a0_1 + a1)) then (if (wrap64 (a0_1 + a1)) ≤ (l0_0.length : Int) then ((some ((l0_0.take ((wrap64 (a0_1 + a1)) : Int).toNat).drop (a0_1 : Int).toNat : List Int)).bind fun y119 => (if y116.length + y119.length < 17592186044416 then (some (l0_0,wrap64 (a0_1 + a1),(y116 ++ y119),0)) else (none))) else (none)) else (none)) else (none)) = some (r1,r2,r3,r4) := rY hy116 H;have Ny116 := Aside0.mk hy116;clear hy116
   by_cases c15 : 0 ≤ a0_1
   ·rw [if_pos c15] at H
    have c15b0 := eq_true c15;have c15b1 : decide (0 ≤ a0_1) = true := decide_eq_true c15;clear c15
    by_cases c16 : a0_1 ≤ (wrap64 (a0_1 + a1))
    ·rw [if_pos c16] at H
     have c16b0 := eq_true c16;have c16b1 : decide (a0_1 ≤ (wrap64 (a0_1 + a1))) = true := decide_eq_true c16
     by_cases c17 : (wrap64 (a0_1 + a1)) ≤ (l0_0.length : Int)
     ·rw [if_pos c17] at H
      have c17b0 := eq_true c17;have c17b1 : decide ((wrap64 (a0_1 + a1)) ≤ (l0_0.length : Int)) = true := decide_eq_true c17;obtain ⟨y119,hy119⟩ : ∃ y_ : List Int,y_ = ((l0_0.take ((wrap64 (a0_1 + a1)) : Int).toNat).drop (a0_1 : Int).toNat) := ⟨_,rfl⟩;replace H : (if y116.length + y119.length < 17592186044416 then (some (l0_0,wrap64 (a0_1 + a1),(y116 ++ y119),0)) else (none)) = some (r1,r2,r3,r4) := rY hy119 H;have Ny119 := Aside0.mk hy119;clear hy119
      by_cases c18 : y116.length + y119.length < 17592186044416
      ·rw [if_pos c18] at H
       have LMc18 := Aside0.mk c18;clear c18;obtain ⟨y124,hy124⟩ : ∃ y_ : List Int,y_ = (y116 ++ y119) := ⟨_,rfl⟩;replace H : (some (l0_0,wrap64 (a0_1 + a1),y124,0)) = some (r1,r2,r3,r4) := rY hy124 H;have Ny124 := Aside0.mk hy124;clear hy124;simp only [Option.some.injEq,Prod.mk.injEq] at H;obtain ⟨rfl,rfl,rfl,rfl⟩ := H
       go_enter Try.func66,Try.ntmps66
       go_wp2_with (first | ((with_reducible refine gate_dst (N := 2) rfl ?_);refine bx 2 #[.slice A0_0 l0_0.length c0_0,.int .i64 a0_1] 41 ?_;intro gb114 hg w19 hbox hb;replace HO0_0 := eV HO0_0 hg hb;have BK114 := Aside0.mk hbox;have GW114 := bz HB hg;have GE114 := bz HB hg;replace HB := bs HB hb;clear hb hbox hg) | ((with_reducible refine gate_dst (N := 4) rfl ?_);refine bx 4 #[.slice none 0 0,.int .i64 0] 41 ?_;intro gb115 hg w20 hbox hb;replace HO0_0 := eV HO0_0 hg hb;have BK115 := Aside0.mk hbox;have GW115 := bz HB hg;have GE115 := bz HB hg;replace HB := bs HB hb;have NB114_115 := bl BK114 hg;have NB115_114 := bg BK114 hg;replace BK114 := bb BK114 hb;clear hb hbox hg;have hnb21 := NB114_115.out;have hnc21 := NB115_114.out;obtain ⟨hcz22_0,hcz22_1,hfz22_0,hfz22_1⟩ := cz2 BK114) | ((with_reducible refine gate_dst (N := 20) rfl ?_);refine Kd.R_lit (Kd.int .u64) _ 32 ?hg (N := 20) ?hd (xs := ([] : List Int)) (inner := []) (ok := fun _ => True) (okp := fun _ => True) ?hr ?hp (fun _ hk => hk) trivial (Below.refl _ _) (Nat.le_refl _) (by simp) ?_;(case hd => rfl);(case hg => rfl);(case hr => first | (go_simp;done) | (go_simp;rfl));(case hp => exact (Reps.none _ _));intro v117 w23 ho24 hb hg_ hnew_;clear hg_ hnew_;(first | rw [← Ny116.out] at ho24 | (simp only [Int.reduceToNat] at ho24;rw [← Ny116.out] at ho24));replace HO0_0 := lV HO0_0 ho24 hb;have HO118 := Aside0.mk (Kd.R_lower (Kd.R_newM (M := fun k_ => (w.heap.size ≤ k_)) ho24 (below_size (rW HB)) (fun k_ h_ => h_)) (below_size (rW HB)));replace BK114 := bb BK114 hb;replace BK115 := bb BK115 hb;replace HB := bs HB hb;clear hb ho24;obtain ⟨hcz25_0,hcz25_1,hfz25_0,hfz25_1⟩ := cz2 BK114;have q26 : ((wrap64 (a0_1 + a1)) : Int) ≤ ((l0_0.length : Int) : Int) := of_decide_eq_true (by first | (with_reducible assumption) | assumption);obtain ⟨i026,hi026,_,hsz26,_⟩ := info_parts info32;have hroom26 : l0_0.length ≤ c0_0 := (Kd.V_reads' HO0_0.out).2.1;have hC26 : Kd.F (Kd.int .u64) _ _ A0_0 l0_0.length l0_0 := (Kd.V_at (base := w.heap.size) HO0_0.out).2.2;have ql26 : (a0_1 : Int) ≤ ((wrap64 (a0_1 + a1)) : Int) := of_decide_eq_true (by first | (with_reducible assumption) | assumption);have q026 : (0 : Int) ≤ (a0_1 : Int) := of_decide_eq_true (by first | (with_reducible assumption) | assumption);have hcut26 := cut_mid (P := Try.prog) 23 32 .i64 .i64 Try.underlying23 hi026 1 hsz26 A0_0 l0_0.length c0_0 a0_1 (wrap64 (a0_1 + a1)) q026 ql26 q26 hroom26;have hr26 := Kd.F_mid (lo := (a0_1 : Int).toNat) (hi := ((wrap64 (a0_1 + a1)) : Int).toNat) (c := c0_0) hC26 (by omega) (by omega) hroom26;obtain ⟨A26,hA26⟩ : ∃ A1,A1 = (if c0_0 = (a0_1 : Int).toNat then A0_0 else (A0_0 : Option Addr).map (·.add ((a0_1 : Int).toNat * 1))) := ⟨_,rfl⟩;obtain ⟨c26,hc26⟩ : ∃ c1,c1 = c0_0 - (a0_1 : Int).toNat := ⟨_,rfl⟩;have hy26 : y119.length = ((wrap64 (a0_1 + a1)) : Int).toNat - (a0_1 : Int).toNat := (by rw [Ny119.out,List.length_drop,List.length_take] <;> omega);rw [show ((l0_0).take ((wrap64 (a0_1 + a1)) : Int).toNat).drop (a0_1 : Int).toNat = y119 from Ny119.out.symm] at hr26;replace hr26 : Kd.F (Kd.int .u64) _ _ A26 y119.length y119 := (by rw [hA26];exact hr26);rw [← hy26,← hA26,← hc26] at hcut26;have HO123 := Aside0.mk (show Kd.V (Kd.int .u64) 32 _ w.heap.size _ (.slice A26 y119.length c26) y119 from Kd.V_mk (by rw [hy26,hc26];exact Nat.sub_le_sub_right (Nat.le_trans (by omega) hroom26) _) hr26);have HC123 := Aside0.mk (show y119.length ≤ c26 from by rw [hy26,hc26];exact Nat.sub_le_sub_right (Nat.le_trans (by omega) hroom26) _);clear hr26 hC26 hroom26 hi026 hsz26 hc26;have KY26 := Aside0.mk hy26;have KA26 := Aside0.mk hA26;clear hy26 hA26;replace q26 := eq_true q26) | ((with_reducible refine gate_builtin (b := .append) (xs := #[.tmp 20,.tmp 29]) rfl ?_);at_builtin;refine Kd.R_append_rows (Kd.int .u64) (w0 := w) w.heap.size rfl (.tmp 20) (.tmp 29) 23 32 (.int .u64 0) 8 rfl Try.underlying23 info32 rfl (by decide) (by omega) v117 y116 y119 _ _ _ (fun k_ => (w.heap.size ≤ k_)) (fun _ => False) rfl rfl ?aO ?aR (fun _ _ h => h) (fun _ h => h.elim) ?aF ?aB ?aS ?aL ?_;(case aR => repeat (first | exact (Kd.V_reads' HO123.out).2.2 | (with_reducible refine Kd.C_alloc ?_ _) | (with_reducible refine Kd.C_drewN ?_ _) | (with_reducible refine Kd.C_drew ?_)));(case aB => exact (rW HB));(case aF => exact (fun k_ hk => (Nat.le_trans (below_size (rW HB)) hk)));(case aO => exact (by (with_reducible repeat (first | apply Kd.R_alloc | apply Kd.R_drewN | apply Kd.R_drew));exact Kd.R_mono HO118.out (fun _ hk => hk.1)));(case aS => exact (below_size (rW HB)));(case aL => have := LMc18.out;omega);intro v125 w27 ho hb hg hat;rw [← Ny124.out] at ho;replace HO0_0 := Aside0.mk (Kd.V_afterv (ok := (fun k_ => (P0_0_ k_ ∨ w.heap.size ≤ k_) ∧ k_ ≠ gb114 ∧ k_ ≠ gb115)) (by (with_reducible repeat (first | apply Kd.V_alloc | apply Kd.V_drewN | apply Kd.V_drew));exact Kd.V_mono HO0_0.out (fun _ hk => ⟨⟨hk.1.1.1,⟨hk.1.1.2,hk.1.2⟩⟩,hk.2⟩)) hg hat);replace BK114 := Aside0.mk (blk_grown (g := gb114) (o := .cells #[.slice A0_0 l0_0.length c0_0,.int .i64 a0_1] 41 (0,0)) (rB BK114) hg (Kd.R_ne HO118.out BK114.out (by decide)));replace BK115 := Aside0.mk (blk_grown (g := gb115) (o := .cells #[.slice none 0 0,.int .i64 0] 41 (0,0)) (rB BK115) hg (Kd.R_ne HO118.out BK115.out (by decide)));replace HO123 := Aside0.mk (Kd.V_afterv (ok := (fun k_ => (P0_0_ k_ ∨ w.heap.size ≤ k_) ∧ k_ ≠ gb114 ∧ k_ ≠ gb115)) (by (with_reducible repeat (first | apply Kd.V_alloc | apply Kd.V_drewN | apply Kd.V_drew));exact Kd.V_mono HO123.out (fun _ hk => ⟨⟨hk.1.1.1,⟨hk.1.1.2,hk.1.2⟩⟩,hk.2⟩)) hg hat);replace HB := Aside0.mk (hb);have HO126 := Aside0.mk (ho);clear HO118;clear ho hb hg hat;obtain ⟨hcz28_0,hcz28_1,hfz28_0,hfz28_1⟩ := cz2 BK114;obtain ⟨hcz29_0,hcz29_1,hfz29_0,hfz29_1⟩ := cz2 BK115))
       refine bodyPost_ret (results_ctt rfl _ _ gb115 41 #[.slice A0_0 l0_0.length c0_0,.int .i64 (wrap64 (a0_1 + a1))] (0,0) _ rfl (by (with_reducible repeat (first | refine blk_drewN ?_ _ | refine blk_drew ?_ | refine blk_alloc ?_ _));refine blk_put (cs := #[.slice A0_0 l0_0.length c0_0,.int .i64 0]) ?_ 1 _ rfl;(with_reducible repeat (first | refine blk_drewN ?_ _ | refine blk_drew ?_ | refine blk_alloc ?_ _));refine blk_put (cs := #[.slice none 0 0,.int .i64 0]) ?_ 0 _ rfl;(with_reducible repeat (first | refine blk_drewN ?_ _ | refine blk_drew ?_ | refine blk_alloc ?_ _));exact BK115.out) Try.underlying41 rfl (by kernel_rfl)) rfl ?_;exact ⟨_,_,by first | rfl | (simp [errW_none,errW_some] <;> rfl) | (simp [*,errW_none,errW_some] <;> rfl),by (with_reducible repeat (first | apply Kd.V_alloc | apply Kd.V_drewN | apply Kd.V_drew));exact Kd.V_mono (Kd.V_far (p := ⟨gb115,1,none⟩) (Kd.V_far (p := ⟨gb115,0,none⟩) (Kd.V_mono HO0_0.out (fun k_ hk => (⟨hk,hk.1.2.2⟩ : _ ∧ k_ ≠ gb115))) (fun _ hk => hk.2) (.slice A0_0 l0_0.length c0_0)) (fun _ hk => hk.2) (.int .i64 (wrap64 (a0_1 + a1)))) (fun _ hk => ⟨hk.1.1.1,hk.1.2⟩),by (with_reducible repeat (first | apply Kd.R_alloc | apply Kd.R_drewN | apply Kd.R_drew));exact Kd.R_mono (Kd.R_far (p := ⟨gb115,1,none⟩) (Kd.R_far (p := ⟨gb115,0,none⟩) (Kd.R_types HO126.out BK115.out (by decide)) (fun _ hk => hk.2) (.slice A0_0 l0_0.length c0_0)) (fun _ hk => hk.2) (.int .i64 (wrap64 (a0_1 + a1)))) (fun _ hk => hk.1),rW HB⟩
      ·rw [if_neg c18] at H
       exact absurd H (by simp)
     ·rw [if_neg c17] at H
      exact absurd H (by simp)
    ·rw [if_neg c16] at H
     exact absurd H (by simp)
   ·rw [if_neg c15] at H
    exact absurd H (by simp)
def trefoilref06_Cut.f (a0 : Int) (a1 : Int) : Option (Int) := if a1 ≥ 64 then (some a0) else (if 0 ≤ (IntKind.u64.wrap (a1)) then (if (shl .u64 1 (IntKind.u64.wrap (a1))) = 0 then (none) else (some (Int.tmod a0 (shl .u64 1 (IntKind.u64.wrap (a1)))))) else (none))
set_option maxHeartbeats 8000000 in
set_option maxRecDepth 100000 in
theorem trefoilref06_Cut.calls (a0 : Int) (a1 : Int) (r : Int) (w : World) (h : trefoilref06_Cut.f a0 a1 = some r) :
  Calls Try.prog 67 #[.int .u64 a0,.int .i64 a1] w fun e w' => e = .returned (.int .u64 r) ∧ Drawn0 w w' := by
 have H : (if a1 ≥ 64 then (some a0) else (if 0 ≤ (IntKind.u64.wrap (a1)) then (if (shl .u64 1 (IntKind.u64.wrap (a1))) = 0 then (none) else (some (Int.tmod a0 (shl .u64 1 (IntKind.u64.wrap (a1)))))) else (none))) = some r := h;clear h
 by_cases c3 : a1 ≥ 64
 ·rw [if_pos c3] at H
  have c3b0 : decide (64 ≤ a1) = true := decide_eq_true c3;clear c3;obtain rfl := Option.some.inj H
  go_enter Try.func67,Try.ntmps67
  go_wp2
  go_ret
  exact ⟨by first | rfl | (simp;done) | (simp [*];done),by repeat (first | exact Drawn0.refl _ | apply Drawn0.step)⟩
 ·rw [if_neg c3] at H
  have c3b0 : decide (64 ≤ a1) = false := decide_eq_false c3;clear c3;obtain ⟨ji4,hji4⟩ : ∃ j_ : Int,(IntKind.u64.wrap (a1)) = j_ := ⟨_,rfl⟩
  replace H : (if 0 ≤ (ji4) then (if (shl .u64 1 (ji4)) = 0 then (none) else (some (Int.tmod a0 (shl .u64 1 (ji4))))) else (none)) = some r := by first | (rw [hji4] at H;exact H) | (simp only [hji4] at H ⊢;exact H)
  by_cases c5 : 0 ≤ (ji4)
  ·rw [if_pos c5] at H
   have c5b0 := eq_true c5;have c5b1 : decide (0 ≤ (ji4)) = true := decide_eq_true c5;clear c5;obtain ⟨ji6,hji6⟩ : ∃ j_ : Int,(shl .u64 1 (ji4)) = j_ := ⟨_,rfl⟩
   replace H : (if (ji6) = 0 then (none) else (some (Int.tmod a0 (ji6)))) = some r := by first | (rw [hji6] at H;exact H) | (simp only [hji6] at H ⊢;exact H)
   have hji6_ : (IntKind.u64.wrap (1 * 2 ^ min (ji4).toNat 64)) = ji6 := hji6;have hji6z : (ji4) ≤ 64 → (IntKind.u64.wrap (1 * 2 ^ (ji4).toNat)) = ji6 := shl_small hji6
   have hji6u : (IntKind.u64.wrap (2 ^ min (ji4).toNat 64)) = ji6 := by have h_ := hji6_;rw [Int.one_mul] at h_;exact h_
   have hji6v : (ji4) ≤ 64 → (IntKind.u64.wrap (2 ^ (ji4).toNat)) = ji6 := fun hle_ => by have h_ := hji6z hle_;rw [Int.one_mul] at h_;exact h_
   by_cases c7 : (ji6) = 0
   ·rw [if_pos c7] at H
    exact absurd H (by simp)
   ·rw [if_neg c7] at H
    have c7b0 : ((ji6) == 0) = false := beq_eq_false_iff_ne.mpr c7;have c7b1 : ((ji6) != 0) = true := bne_iff_ne.mpr c7;obtain rfl := Option.some.inj H
    go_enter Try.func67,Try.ntmps67
    go_wp2
    go_ret
    exact ⟨by first | rfl | (simp;done) | (simp only [← hji4,← hji6] <;> (first | rfl | simp)) | (simp [*];done),by repeat (first | exact Drawn0.refl _ | apply Drawn0.step)⟩
  ·rw [if_neg c5] at H
   exact absurd H (by simp)
end Go.Proofs.Ytbhfleilgjonpaa.XScalarComes
