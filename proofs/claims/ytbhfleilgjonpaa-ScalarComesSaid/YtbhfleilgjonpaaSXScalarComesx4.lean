import Derived.Test.YtbhfleilgjonpaaSXShort
import Derived.Test.YtbhfleilgjonpaaSXScalarComesx0
import Derived.Test.YtbhfleilgjonpaaSXScalarComesx3
namespace Go.Proofs.Ytbhfleilgjonpaa.XScalarComes
open Go.RowKit Go.Proofs.YtbhfleilgjonpaaW.PrintWords Go.Proofs.YtbhfleilgjonpaaW.PrintLast Go.Proofs.YtbhfleilgjonpaaW.PrintMore
attribute [local go_sem] max2_int min2_int max_two min_two max_three min_three max_four min_four
set_option linter.unusedVariables false
set_option linter.unusedSimpArgs false
mutual
def shape_Check.j0 : Nat → Bool → Int → Int → Int → Int → Int → Option (Int)
 | 0,_,_,_,_,_,_ => none
 | k + 1,x3,x175000,x175001,x175002,x175003,x175004 => if x175000 = 2 then ((shape_side.f x175002).bind fun t175 => (if t175 = true then ((shape_side.f x175003).bind fun t176 => (if t176 = true then ((shape_side.f x175004).bind fun t177 => (shape_Check.j2 k t177 x175000 x175001 x175002 x175003 x175004)) else (shape_Check.j2 k false x175000 x175001 x175002 x175003 x175004))) else (shape_Check.j2 k false x175000 x175001 x175002 x175003 x175004))) else (if x175000 = 1 then (shape_Check.j1 k x3 x175000 (x175000 == 1) x175000 x175001 x175002 x175003 x175004) else (shape_Check.j1 k x3 x175000 (x175000 == 4) x175000 x175001 x175002 x175003 x175004))
def shape_Check.j2 : Nat → Bool → Int → Int → Int → Int → Int → Option (Int)
 | 0,_,_,_,_,_,_ => none
 | k + 1,x3,x175000,x175001,x175002,x175003,x175004 => if x3 = true then (if x175001 < 1 then (shape_Check.j3 k true) else (shape_Check.j3 k (decide (x175001 > 64)))) else (shape_Check.j3 k true)
def shape_Check.j3 : Nat → Bool → Option (Int)
 | 0,_ => none
 | k + 1,x50 => if x50 = true then (some 11) else (some 0)
def shape_Check.j1 : Nat → Bool → Int → Bool → Int → Int → Int → Int → Int → Option (Int)
 | 0,_,_,_,_,_,_,_,_ => none
 | k + 1,x3,x18,x21,x175000,x175001,x175002,x175003,x175004 => if x21 = true then (shape_Check.j2 k x3 x175000 x175001 x175002 x175003 x175004) else (if x18 = 3 then (if x3 = true then (if x175001 = 1 then (some 0) else (some 11)) else (some 11)) else (some 15))
end
def shape_Check.f (k : Nat) (a0_0 : Int) (a0_1 : Int) (a0_2 : Int) (a0_3 : Int) (a0_4 : Int) : Option (Int) := if a0_2 = 0 then (if a0_3 = 0 then (shape_Check.j0 k (a0_4 == 0) a0_0 a0_1 a0_2 a0_3 a0_4) else (shape_Check.j0 k false a0_0 a0_1 a0_2 a0_3 a0_4)) else (shape_Check.j0 k false a0_0 a0_1 a0_2 a0_3 a0_4)
theorem shape_Check.mono_l : ∀ k,(∀ y0 y1 y2 y3 y4 y5,LeO (shape_Check.j0 k y0 y1 y2 y3 y4 y5) (shape_Check.j0 (k + 1) y0 y1 y2 y3 y4 y5)) ∧ (∀ y0 y1 y2 y3 y4 y5,LeO (shape_Check.j2 k y0 y1 y2 y3 y4 y5) (shape_Check.j2 (k + 1) y0 y1 y2 y3 y4 y5)) ∧ (∀ y0,LeO (shape_Check.j3 k y0) (shape_Check.j3 (k + 1) y0)) ∧ (∀ y0 y1 y2 y3 y4 y5 y6 y7,LeO (shape_Check.j1 k y0 y1 y2 y3 y4 y5 y6 y7) (shape_Check.j1 (k + 1) y0 y1 y2 y3 y4 y5 y6 y7))
 | 0 => ⟨fun _ _ _ _ _ _ r h => by simp [shape_Check.j0] at h,fun _ _ _ _ _ _ r h => by simp [shape_Check.j2] at h,fun _ r h => by simp [shape_Check.j3] at h,fun _ _ _ _ _ _ _ _ r h => by simp [shape_Check.j1] at h⟩
 | k + 1 => by
  obtain ⟨ih0,ih1,ih2,ih3⟩ := shape_Check.mono_l k;refine ⟨?_,?_,?_,?_⟩
  ·intro y0 y1 y2 y3 y4 y5
   unfold shape_Check.j0
   repeat' first | (with_reducible first | exact ih0 _ _ _ _ _ _ | exact ih1 _ _ _ _ _ _ | exact ih2 _ | exact ih3 _ _ _ _ _ _ _ _ | exact LeO.refl _ | exact LeO.none _ | refine LeO.ite ?_ ?_ | refine LeO.bind ?_ (fun _ => ?_)) | exact LeO.none _ | refine LeO.ite ?_ ?_ | refine LeO.bind ?_ (fun _ => ?_)
  ·intro y0 y1 y2 y3 y4 y5
   unfold shape_Check.j2
   repeat' first | (with_reducible first | exact ih0 _ _ _ _ _ _ | exact ih1 _ _ _ _ _ _ | exact ih2 _ | exact ih3 _ _ _ _ _ _ _ _ | exact LeO.refl _ | exact LeO.none _ | refine LeO.ite ?_ ?_ | refine LeO.bind ?_ (fun _ => ?_)) | exact LeO.none _ | refine LeO.ite ?_ ?_ | refine LeO.bind ?_ (fun _ => ?_)
  ·intro y0
   unfold shape_Check.j3
   repeat' first | (with_reducible first | exact ih0 _ _ _ _ _ _ | exact ih1 _ _ _ _ _ _ | exact ih2 _ | exact ih3 _ _ _ _ _ _ _ _ | exact LeO.refl _ | exact LeO.none _ | refine LeO.ite ?_ ?_ | refine LeO.bind ?_ (fun _ => ?_)) | exact LeO.none _ | refine LeO.ite ?_ ?_ | refine LeO.bind ?_ (fun _ => ?_)
  ·intro y0 y1 y2 y3 y4 y5 y6 y7
   unfold shape_Check.j1
   repeat' first | (with_reducible first | exact ih0 _ _ _ _ _ _ | exact ih1 _ _ _ _ _ _ | exact ih2 _ | exact ih3 _ _ _ _ _ _ _ _ | exact LeO.refl _ | exact LeO.none _ | refine LeO.ite ?_ ?_ | refine LeO.bind ?_ (fun _ => ?_)) | exact LeO.none _ | refine LeO.ite ?_ ?_ | refine LeO.bind ?_ (fun _ => ?_)
theorem shape_Check.mono : ∀ a0 a1 a2 a3 a4 k,LeO (shape_Check.f k a0 a1 a2 a3 a4) (shape_Check.f (k + 1) a0 a1 a2 a3 a4) := by
 intro a0 a1 a2 a3 a4 k;obtain ⟨ih0,ih1,ih2,ih3⟩ := shape_Check.mono_l k;unfold shape_Check.f
 repeat' first | (with_reducible first | exact ih0 _ _ _ _ _ _ | exact ih1 _ _ _ _ _ _ | exact ih2 _ | exact ih3 _ _ _ _ _ _ _ _ | exact LeO.refl _ | exact LeO.none _ | refine LeO.ite ?_ ?_ | refine LeO.bind ?_ (fun _ => ?_)) | exact LeO.none _ | refine LeO.ite ?_ ?_ | refine LeO.bind ?_ (fun _ => ?_)
set_option maxHeartbeats 8000000 in
set_option maxRecDepth 100000 in
theorem shape_Check.calls (k : Nat) (a0_0 : Int) (a0_1 : Int) (a0_2 : Int) (a0_3 : Int) (a0_4 : Int) (r : Int) (w : World) (h : shape_Check.f k a0_0 a0_1 a0_2 a0_3 a0_4 = some r) :
  Calls Try.prog 62 #[.agg #[.int .i64 a0_0,.int .i64 a0_1,.int .i64 a0_2,.int .i64 a0_3,.int .i64 a0_4]] w fun e w' => e = .returned (.int .i64 r) ∧ Below w.heap.size w w' := by
 have hu25 := Try.underlying25;have HB := Aside0.mk (Below.refl w.heap.size w);have H : (if a0_2 = 0 then (if a0_3 = 0 then (shape_Check.j0 k (a0_4 == 0) a0_0 a0_1 a0_2 a0_3 a0_4) else (shape_Check.j0 k false a0_0 a0_1 a0_2 a0_3 a0_4)) else (shape_Check.j0 k false a0_0 a0_1 a0_2 a0_3 a0_4)) = some r := h;clear h;have HC2 := Aside0.mk H;clear H
 go_enter Try.func62,Try.ntmps62
 go_upto_region 1 with (first | ((with_reducible refine gate_dst (N := 1) rfl ?_);refine bx 1 #[.int .i64 a0_0,.int .i64 a0_1,.int .i64 a0_2,.int .i64 a0_3,.int .i64 a0_4] 25 ?_;intro gb174 hg w3 hbox hb;have BK174 := Aside0.mk hbox;have GW174 := bz HB hg;have GE174 := bz HB hg;replace HB := bs HB hb;clear hb hbox hg))
 (try simp only [Act.put,List.setIfInBounds_toArray,List.set_cons_zero,List.set_cons_succ])
 go_cut [3] (fun v3 wc => ∃ (kq : Nat) (x3_1 : Bool),v3 = .bool x3_1 ∧ Aside0 (shape_Check.j0 kq x3_1 a0_0 a0_1 a0_2 a0_3 a0_4 = some r) ∧ Aside0 (kq ≤ k) ∧ Aside0 (wc.heap[gb174]? = some (.cells #[.int .i64 a0_0,.int .i64 a0_1,.int .i64 a0_2,.int .i64 a0_3,.int .i64 a0_4] 25 (0,0))) ∧ Aside0 (Below w.heap.size w wc))
 case first =>
  have H := HC2.out;clear HC2
  by_cases c4 : a0_2 = 0
  ·rw [if_pos c4] at H
   have c4b0 : (a0_2 == 0) = true := beq_iff_eq.mpr c4;have c4b1 : (a0_2 != 0) = false := bne_eq_false_iff_eq.mpr c4;clear c4;(first | rw [c4b0] | (simp only [i64_w,i32_w];rw [c4b0]) | skip)
   by_cases c5 : a0_3 = 0
   ·rw [if_pos c5] at H
    have c5b0 : (a0_3 == 0) = true := beq_iff_eq.mpr c5;have c5b1 : (a0_3 != 0) = false := bne_eq_false_iff_eq.mpr c5;clear c5;have H' := Aside0.mk H;clear H;obtain ⟨hcz6_0,hcz6_1,hcz6_2,hcz6_3,hcz6_4,hfz6_0,hfz6_1,hfz6_2,hfz6_3,hfz6_4⟩ := cz5 BK174
    go_wp2
    go_meet
    case rel => exact ⟨_,((a0_4 == 0)),(by first | rfl | (simp;done) | (simp [*];done)),H',⟨by first | omega | exact Nat.le_refl _⟩,⟨rB BK174⟩,⟨rW HB⟩⟩
   ·rw [if_neg c5] at H
    have c5b0 : (a0_3 == 0) = false := beq_eq_false_iff_ne.mpr c5;have c5b1 : (a0_3 != 0) = true := bne_iff_ne.mpr c5;have H' := Aside0.mk H;clear H;obtain ⟨hcz7_0,hcz7_1,hcz7_2,hcz7_3,hcz7_4,hfz7_0,hfz7_1,hfz7_2,hfz7_3,hfz7_4⟩ := cz5 BK174
    go_wp2
    go_meet
    case rel => exact ⟨_,(false),(by first | rfl | (simp;done) | (simp [*];done)),H',⟨by first | omega | exact Nat.le_refl _⟩,⟨rB BK174⟩,⟨rW HB⟩⟩
  ·rw [if_neg c4] at H
   have c4b0 : (a0_2 == 0) = false := beq_eq_false_iff_ne.mpr c4;have c4b1 : (a0_2 != 0) = true := bne_iff_ne.mpr c4;(first | rw [c4b0] | (simp only [i64_w,i32_w];rw [c4b0]) | skip);have H' := Aside0.mk H;clear H;obtain ⟨hcz8_0,hcz8_1,hcz8_2,hcz8_3,hcz8_4,hfz8_0,hfz8_1,hfz8_2,hfz8_3,hfz8_4⟩ := cz5 BK174
   go_wp2
   go_meet
   case rel => exact ⟨_,(false),(by first | rfl | (simp;done) | (simp [*];done)),H',⟨by first | omega | exact Nat.le_refl _⟩,⟨rB BK174⟩,⟨rW HB⟩⟩
 case rest =>
  clear HC2
  try clear p2
  try clear c4
  try clear c4b0
  try clear c4b1
  try clear c5
  try clear c5b0
  try clear c5b1
  try clear c6
  try clear hcz6_0 hcz6_1 hcz6_2 hcz6_3 hcz6_4 hcz7_0 hcz7_1 hcz7_2 hcz7_3 hcz7_4 hcz8_0 hcz8_1 hcz8_2 hcz8_3 hcz8_4 hfz6_0 hfz6_1 hfz6_2 hfz6_3 hfz6_4 hfz7_0 hfz7_1 hfz7_2 hfz7_3 hfz7_4 hfz8_0 hfz8_1 hfz8_2 hfz8_3 hfz8_4
  obtain ⟨kq,x3_1,rfl,HA,HJ1,BK174,HB⟩ := hcut
  cases kq with
  | zero => exact absurd HA.out (by simp [shape_Check.j0])
  | succ kj1 =>
   have H := HA.out;clear HA;simp only [shape_Check.j0] at H;have HC9 := Aside0.mk H;clear H;obtain ⟨hcz10_0,hcz10_1,hcz10_2,hcz10_3,hcz10_4,hfz10_0,hfz10_1,hfz10_2,hfz10_3,hfz10_4⟩ := cz5 BK174
   go_upto_block 2 with (fail)
   go_cut [3] (fun v3 wc => ∃ (kq : Nat) (x3_8 : Bool),v3 = .bool x3_8 ∧ Aside0 (shape_Check.j2 kq x3_8 a0_0 a0_1 a0_2 a0_3 a0_4 = some r) ∧ Aside0 (kq ≤ kj1) ∧ Aside0 (wc.heap[gb174]? = some (.cells #[.int .i64 a0_0,.int .i64 a0_1,.int .i64 a0_2,.int .i64 a0_3,.int .i64 a0_4] 25 (0,0))) ∧ Aside0 (Below w.heap.size w wc))
   case first =>
    have H := HC9.out;clear HC9
    by_cases c11 : a0_0 = 2
    ·rw [if_pos c11] at H
     have c11b0 : (a0_0 == 2) = true := beq_iff_eq.mpr c11;have c11b1 : (a0_0 != 2) = false := bne_eq_false_iff_eq.mpr c11;clear c11;(first | rw [c11b0] | (simp only [i64_w,i32_w];rw [c11b0]) | skip);replace H := Option.bind_eq_some_iff.mp H;obtain ⟨t175,A120,H⟩ := H;replace H : (if t175 = true then ((shape_side.f a0_3).bind fun t176 => (if t176 = true then ((shape_side.f a0_4).bind fun t177 => (shape_Check.j2 kj1 t177 a0_0 a0_1 a0_2 a0_3 a0_4)) else (shape_Check.j2 kj1 false a0_0 a0_1 a0_2 a0_3 a0_4))) else (shape_Check.j2 kj1 false a0_0 a0_1 a0_2 a0_3 a0_4)) = some r := H;have A12 := Aside0.mk A120;clear A120
     by_cases c13 : t175 = true
     ·subst c13
      have H1 : ((shape_side.f a0_3).bind fun t176 => (if t176 = true then ((shape_side.f a0_4).bind fun t177 => (shape_Check.j2 kj1 t177 a0_0 a0_1 a0_2 a0_3 a0_4)) else (shape_Check.j2 kj1 false a0_0 a0_1 a0_2 a0_3 a0_4))) = some r := by rw [if_pos rfl] at H;exact H
      clear H;have H := H1;clear H1;replace H := Option.bind_eq_some_iff.mp H;obtain ⟨t176,A140,H⟩ := H;replace H : (if t176 = true then ((shape_side.f a0_4).bind fun t177 => (shape_Check.j2 kj1 t177 a0_0 a0_1 a0_2 a0_3 a0_4)) else (shape_Check.j2 kj1 false a0_0 a0_1 a0_2 a0_3 a0_4)) = some r := H;have A14 := Aside0.mk A140;clear A140
      by_cases c15 : t176 = true
      ·subst c15
       have H1 : ((shape_side.f a0_4).bind fun t177 => (shape_Check.j2 kj1 t177 a0_0 a0_1 a0_2 a0_3 a0_4)) = some r := by rw [if_pos rfl] at H;exact H
       clear H;have H := H1;clear H1;replace H := Option.bind_eq_some_iff.mp H;obtain ⟨t177,A160,H⟩ := H;replace H : (shape_Check.j2 kj1 t177 a0_0 a0_1 a0_2 a0_3 a0_4) = some r := H;have A16 := Aside0.mk A160;clear A160;have H' := Aside0.mk H;clear H;obtain ⟨hcz17_0,hcz17_1,hcz17_2,hcz17_3,hcz17_4,hfz17_0,hfz17_1,hfz17_2,hfz17_3,hfz17_4⟩ := cz5 BK174
       go_wp2_with (first | ((with_reducible refine gate_callee (f := 83) rfl ?_);refine gL (some 28) Try.func83 #[.int .i64 a0_2] ?_;(with_reducible refine (shape_side.calls a0_2 true _ A12.out).mono ?_);rintro e w' ⟨rfl,⟨nd,rfl⟩⟩;refine ⟨_,rfl,?_⟩) | (go_at_call 83;(with_reducible refine (shape_side.calls a0_3 true _ A14.out).mono ?_);rintro e w' ⟨rfl,⟨nd,rfl⟩⟩) | (go_at_call 83;(with_reducible refine (shape_side.calls a0_4 t177 _ A16.out).mono ?_);rintro e w' ⟨rfl,⟨nd,rfl⟩⟩))
       go_meet
       case rel => exact ⟨_,(t177),(by first | rfl | (simp;done) | (simp [*];done)),H',⟨by have := HJ1.out;first | omega | exact Nat.le_refl _⟩,⟨rB BK174⟩,⟨rW HB⟩⟩
      ·replace c15 := Bool.eq_false_iff.mpr c15
       subst c15
       have H1 : (shape_Check.j2 kj1 false a0_0 a0_1 a0_2 a0_3 a0_4) = some r := by rw [if_neg (show ¬ (false = true) by decide)] at H;exact H
       clear H;have H := H1;clear H1;have H' := Aside0.mk H;clear H;obtain ⟨hcz18_0,hcz18_1,hcz18_2,hcz18_3,hcz18_4,hfz18_0,hfz18_1,hfz18_2,hfz18_3,hfz18_4⟩ := cz5 BK174
       go_wp2_with (first | ((with_reducible refine gate_callee (f := 83) rfl ?_);refine gL (some 28) Try.func83 #[.int .i64 a0_2] ?_;(with_reducible refine (shape_side.calls a0_2 true _ A12.out).mono ?_);rintro e w' ⟨rfl,⟨nd,rfl⟩⟩;refine ⟨_,rfl,?_⟩) | (go_at_call 83;(with_reducible refine (shape_side.calls a0_3 false _ A14.out).mono ?_);rintro e w' ⟨rfl,⟨nd,rfl⟩⟩))
       go_meet
       case rel => exact ⟨_,(false),(by first | rfl | (simp;done) | (simp [*];done)),H',⟨by have := HJ1.out;first | omega | exact Nat.le_refl _⟩,⟨rB BK174⟩,⟨rW HB⟩⟩
     ·replace c13 := Bool.eq_false_iff.mpr c13
      subst c13
      have H1 : (shape_Check.j2 kj1 false a0_0 a0_1 a0_2 a0_3 a0_4) = some r := by rw [if_neg (show ¬ (false = true) by decide)] at H;exact H
      clear H;have H := H1;clear H1;have H' := Aside0.mk H;clear H;obtain ⟨hcz19_0,hcz19_1,hcz19_2,hcz19_3,hcz19_4,hfz19_0,hfz19_1,hfz19_2,hfz19_3,hfz19_4⟩ := cz5 BK174
      go_wp2_with (first | ((with_reducible refine gate_callee (f := 83) rfl ?_);refine gL (some 28) Try.func83 #[.int .i64 a0_2] ?_;(with_reducible refine (shape_side.calls a0_2 false _ A12.out).mono ?_);rintro e w' ⟨rfl,⟨nd,rfl⟩⟩;refine ⟨_,rfl,?_⟩))
      go_meet
      case rel => exact ⟨_,(false),(by first | rfl | (simp;done) | (simp [*];done)),H',⟨by have := HJ1.out;first | omega | exact Nat.le_refl _⟩,⟨rB BK174⟩,⟨rW HB⟩⟩
    ·rw [if_neg c11] at H
     have c11b0 : (a0_0 == 2) = false := beq_eq_false_iff_ne.mpr c11;have c11b1 : (a0_0 != 2) = true := bne_iff_ne.mpr c11;(first | rw [c11b0] | (simp only [i64_w,i32_w];rw [c11b0]) | skip);have HC20 := Aside0.mk H;clear H
     go_upto_if 21 with (fail)
     go_cut [21] (fun v21 wc => ∃ (kq : Nat) (x21_19 : Bool),v21 = .bool x21_19 ∧ Aside0 (shape_Check.j1 kq x3_1 a0_0 x21_19 a0_0 a0_1 a0_2 a0_3 a0_4 = some r) ∧ Aside0 (kq ≤ kj1) ∧ Aside0 (wc.heap[gb174]? = some (.cells #[.int .i64 a0_0,.int .i64 a0_1,.int .i64 a0_2,.int .i64 a0_3,.int .i64 a0_4] 25 (0,0))) ∧ Aside0 (Below w.heap.size w wc))
     case first =>
      have H := HC20.out;clear HC20
      by_cases c21 : a0_0 = 1
      ·rw [if_pos c21] at H
       have c21b0 : (a0_0 == 1) = true := beq_iff_eq.mpr c21;have c21b1 : (a0_0 != 1) = false := bne_eq_false_iff_eq.mpr c21;clear c21;(first | rw [c21b0] | (simp only [i64_w,i32_w];rw [c21b0]) | skip);have H' := Aside0.mk H;clear H
       go_wp2
       go_meet
       case rel => exact ⟨_,((a0_0 == 1)),(by first | rfl | (simp;done) | (simp [*];done)),H',⟨by have := HJ1.out;first | omega | exact Nat.le_refl _⟩,⟨rB BK174⟩,⟨rW HB⟩⟩
      ·rw [if_neg c21] at H
       have c21b0 : (a0_0 == 1) = false := beq_eq_false_iff_ne.mpr c21;have c21b1 : (a0_0 != 1) = true := bne_iff_ne.mpr c21;(first | rw [c21b0] | (simp only [i64_w,i32_w];rw [c21b0]) | skip);have H' := Aside0.mk H;clear H
       go_wp2
       go_meet
       case rel => exact ⟨_,((a0_0 == 4)),(by first | rfl | (simp;done) | (simp [*];done)),H',⟨by have := HJ1.out;first | omega | exact Nat.le_refl _⟩,⟨rB BK174⟩,⟨rW HB⟩⟩
     case rest =>
      clear HC20
      try clear c1
      try clear c2
      try clear p2
      try clear c4
      try clear c4b0
      try clear c4b1
      try clear c5
      try clear c5b0
      try clear c5b1
      try clear c6
      try clear c8
      try clear c11
      try clear c11b0
      try clear c11b1
      try clear c13
      try clear c15
      try clear c21
      try clear c21b0
      try clear c21b1
      try clear hcz10_0 hcz10_1 hcz10_2 hcz10_3 hcz10_4 hcz17_0 hcz17_1 hcz17_2 hcz17_3 hcz17_4 hcz18_0 hcz18_1 hcz18_2 hcz18_3 hcz18_4 hcz19_0 hcz19_1 hcz19_2 hcz19_3 hcz19_4 hcz6_0 hcz6_1 hcz6_2 hcz6_3 hcz6_4 hcz7_0 hcz7_1 hcz7_2 hcz7_3 hcz7_4 hcz8_0 hcz8_1 hcz8_2 hcz8_3 hcz8_4 hfz10_0 hfz10_1 hfz10_2 hfz10_3 hfz10_4 hfz17_0 hfz17_1 hfz17_2 hfz17_3 hfz17_4 hfz18_0 hfz18_1 hfz18_2 hfz18_3 hfz18_4 hfz19_0 hfz19_1 hfz19_2 hfz19_3 hfz19_4 hfz6_0 hfz6_1 hfz6_2 hfz6_3 hfz6_4 hfz7_0 hfz7_1 hfz7_2 hfz7_3 hfz7_4 hfz8_0 hfz8_1 hfz8_2 hfz8_3 hfz8_4
      try clear p2
      obtain ⟨kq,x21_19,rfl,HA,HJ19,BK174,HB⟩ := hcut
      cases kq with
      | zero => exact absurd HA.out (by simp [shape_Check.j1])
      | succ kj19 =>
       have H := HA.out;clear HA;simp only [shape_Check.j1] at H
       by_cases c22 : x21_19 = true
       ·subst c22
        have H1 : (shape_Check.j2 kj19 x3_1 a0_0 a0_1 a0_2 a0_3 a0_4) = some r := by rw [if_pos rfl] at H;exact H
        clear H;have H := H1;clear H1;have H' := Aside0.mk H;clear H
        go_wp2
        go_meet
        case rel => exact ⟨_,(x3_1),(by first | rfl | (simp;done) | (simp [*];done)),H',⟨by have := HJ1.out;have := HJ19.out;first | omega | exact Nat.le_refl _⟩,⟨rB BK174⟩,⟨rW HB⟩⟩
       ·replace c22 := Bool.eq_false_iff.mpr c22
        subst c22
        have H1 : (if a0_0 = 3 then (if x3_1 = true then (if a0_1 = 1 then (some 0) else (some 11)) else (some 11)) else (some 15)) = some r := by rw [if_neg (show ¬ (false = true) by decide)] at H;exact H
        clear H;have H := H1;clear H1
        by_cases c23 : a0_0 = 3
        ·rw [if_pos c23] at H
         have c23b0 : (a0_0 == 3) = true := beq_iff_eq.mpr c23;have c23b1 : (a0_0 != 3) = false := bne_eq_false_iff_eq.mpr c23;clear c23
         by_cases c24 : x3_1 = true
         ·subst c24
          have H1 : (if a0_1 = 1 then (some 0) else (some 11)) = some r := by rw [if_pos rfl] at H;exact H
          clear H;have H := H1;clear H1
          by_cases c25 : a0_1 = 1
          ·rw [if_pos c25] at H
           have c25b0 : (a0_1 == 1) = true := beq_iff_eq.mpr c25;have c25b1 : (a0_1 != 1) = false := bne_eq_false_iff_eq.mpr c25;clear c25;obtain rfl := Option.some.inj H;obtain ⟨hcz26_0,hcz26_1,hcz26_2,hcz26_3,hcz26_4,hfz26_0,hfz26_1,hfz26_2,hfz26_3,hfz26_4⟩ := cz5 BK174
           go_wp2
           go_ret
           exact ⟨by first | rfl | (simp [errW_none,errW_some] <;> rfl) | (simp [*,errW_none,errW_some] <;> rfl),rW HB⟩
          ·rw [if_neg c25] at H
           have c25b0 : (a0_1 == 1) = false := beq_eq_false_iff_ne.mpr c25;have c25b1 : (a0_1 != 1) = true := bne_iff_ne.mpr c25;obtain rfl := Option.some.inj H;obtain ⟨hcz27_0,hcz27_1,hcz27_2,hcz27_3,hcz27_4,hfz27_0,hfz27_1,hfz27_2,hfz27_3,hfz27_4⟩ := cz5 BK174
           go_wp2
           go_ret
           exact ⟨by first | rfl | (simp [errW_none,errW_some] <;> rfl) | (simp [*,errW_none,errW_some] <;> rfl),rW HB⟩
         ·replace c24 := Bool.eq_false_iff.mpr c24
          subst c24
          have H1 : (some 11) = some r := by rw [if_neg (show ¬ (false = true) by decide)] at H;exact H
          clear H;have H := H1;clear H1;obtain rfl := Option.some.inj H
          go_wp2
          go_ret
          exact ⟨by first | rfl | (simp [errW_none,errW_some] <;> rfl) | (simp [*,errW_none,errW_some] <;> rfl),rW HB⟩
        ·rw [if_neg c23] at H
         have c23b0 : (a0_0 == 3) = false := beq_eq_false_iff_ne.mpr c23;have c23b1 : (a0_0 != 3) = true := bne_iff_ne.mpr c23;obtain rfl := Option.some.inj H
         go_wp2
         go_ret
         exact ⟨by first | rfl | (simp [errW_none,errW_some] <;> rfl) | (simp [*,errW_none,errW_some] <;> rfl),rW HB⟩
   case rest =>
    clear HC9
    try clear c1
    try clear c2
    try clear p2
    try clear c4
    try clear c4b0
    try clear c4b1
    try clear c5
    try clear c5b0
    try clear c5b1
    try clear c6
    try clear c8
    try clear c11
    try clear c11b0
    try clear c11b1
    try clear c13
    try clear c15
    try clear c21
    try clear c21b0
    try clear c21b1
    try clear c22
    try clear c23
    try clear c23b0
    try clear c23b1
    try clear c24
    try clear c25
    try clear c25b0
    try clear c25b1
    try clear hcz10_0 hcz10_1 hcz10_2 hcz10_3 hcz10_4 hcz17_0 hcz17_1 hcz17_2 hcz17_3 hcz17_4 hcz18_0 hcz18_1 hcz18_2 hcz18_3 hcz18_4 hcz19_0 hcz19_1 hcz19_2 hcz19_3 hcz19_4 hcz26_0 hcz26_1 hcz26_2 hcz26_3 hcz26_4 hcz27_0 hcz27_1 hcz27_2 hcz27_3 hcz27_4 hcz6_0 hcz6_1 hcz6_2 hcz6_3 hcz6_4 hcz7_0 hcz7_1 hcz7_2 hcz7_3 hcz7_4 hcz8_0 hcz8_1 hcz8_2 hcz8_3 hcz8_4 hfz10_0 hfz10_1 hfz10_2 hfz10_3 hfz10_4 hfz17_0 hfz17_1 hfz17_2 hfz17_3 hfz17_4 hfz18_0 hfz18_1 hfz18_2 hfz18_3 hfz18_4 hfz19_0 hfz19_1 hfz19_2 hfz19_3 hfz19_4 hfz26_0 hfz26_1 hfz26_2 hfz26_3 hfz26_4 hfz27_0 hfz27_1 hfz27_2 hfz27_3 hfz27_4 hfz6_0 hfz6_1 hfz6_2 hfz6_3 hfz6_4 hfz7_0 hfz7_1 hfz7_2 hfz7_3 hfz7_4 hfz8_0 hfz8_1 hfz8_2 hfz8_3 hfz8_4
    try clear p2
    obtain ⟨kq,x3_8,rfl,HA,HJ8,BK174,HB⟩ := hcut
    cases kq with
    | zero => exact absurd HA.out (by simp [shape_Check.j2])
    | succ kj8 =>
     have H := HA.out;clear HA;simp only [shape_Check.j2] at H;have HC28 := Aside0.mk H;clear H
     go_upto_region 8 with (fail)
     go_cut [50] (fun v50 wc => ∃ (kq : Nat) (x50_27 : Bool),v50 = .bool x50_27 ∧ Aside0 (shape_Check.j3 kq x50_27 = some r) ∧ Aside0 (kq ≤ kj8) ∧ Aside0 (wc.heap[gb174]? = some (.cells #[.int .i64 a0_0,.int .i64 a0_1,.int .i64 a0_2,.int .i64 a0_3,.int .i64 a0_4] 25 (0,0))) ∧ Aside0 (Below w.heap.size w wc))
     case first =>
      have H := HC28.out;clear HC28
      by_cases c29 : x3_8 = true
      ·subst c29
       have H1 : (if a0_1 < 1 then (shape_Check.j3 kj8 true) else (shape_Check.j3 kj8 (decide (a0_1 > 64)))) = some r := by rw [if_pos rfl] at H;exact H
       clear H;have H := H1;clear H1
       by_cases c30 : a0_1 < 1
       ·rw [if_pos c30] at H
        have c30b0 : decide (a0_1 < 1) = true := decide_eq_true c30;clear c30;(first | rw [c30b0] | (simp only [i64_w,i32_w];rw [c30b0]) | skip);have H' := Aside0.mk H;clear H;obtain ⟨hcz31_0,hcz31_1,hcz31_2,hcz31_3,hcz31_4,hfz31_0,hfz31_1,hfz31_2,hfz31_3,hfz31_4⟩ := cz5 BK174
        go_wp2
        go_meet
        case rel => exact ⟨_,(true),(by first | rfl | (simp;done) | (simp [*];done)),H',⟨by have := HJ1.out;have := HJ8.out;first | omega | exact Nat.le_refl _⟩,⟨rB BK174⟩,⟨rW HB⟩⟩
       ·rw [if_neg c30] at H
        have c30b0 : decide (a0_1 < 1) = false := decide_eq_false c30;clear c30;(first | rw [c30b0] | (simp only [i64_w,i32_w];rw [c30b0]) | skip);have H' := Aside0.mk H;clear H;obtain ⟨hcz32_0,hcz32_1,hcz32_2,hcz32_3,hcz32_4,hfz32_0,hfz32_1,hfz32_2,hfz32_3,hfz32_4⟩ := cz5 BK174
        go_wp2
        go_meet
        case rel => exact ⟨_,(decide (a0_1 > 64)),(by first | rfl | (simp;done) | (simp [*];done)),H',⟨by have := HJ1.out;have := HJ8.out;first | omega | exact Nat.le_refl _⟩,⟨rB BK174⟩,⟨rW HB⟩⟩
      ·replace c29 := Bool.eq_false_iff.mpr c29
       subst c29
       have H1 : (shape_Check.j3 kj8 true) = some r := by rw [if_neg (show ¬ (false = true) by decide)] at H;exact H
       clear H;have H := H1;clear H1;have H' := Aside0.mk H;clear H
       go_wp2
       go_meet
       case rel => exact ⟨_,(true),(by first | rfl | (simp;done) | (simp [*];done)),H',⟨by have := HJ1.out;have := HJ8.out;first | omega | exact Nat.le_refl _⟩,⟨rB BK174⟩,⟨rW HB⟩⟩
     case rest =>
      clear HC28
      try clear c1
      try clear c2
      try clear p2
      try clear c3
      try clear c4
      try clear c4b0
      try clear c4b1
      try clear c5
      try clear c5b0
      try clear c5b1
      try clear c6
      try clear c8
      try clear c11
      try clear c11b0
      try clear c11b1
      try clear c13
      try clear c15
      try clear c21
      try clear c21b0
      try clear c21b1
      try clear c22
      try clear c23
      try clear c23b0
      try clear c23b1
      try clear c24
      try clear c25
      try clear c25b0
      try clear c25b1
      try clear c29
      try clear c30
      try clear c30b0
      try clear hcz10_0 hcz10_1 hcz10_2 hcz10_3 hcz10_4 hcz17_0 hcz17_1 hcz17_2 hcz17_3 hcz17_4 hcz18_0 hcz18_1 hcz18_2 hcz18_3 hcz18_4 hcz19_0 hcz19_1 hcz19_2 hcz19_3 hcz19_4 hcz26_0 hcz26_1 hcz26_2 hcz26_3 hcz26_4 hcz27_0 hcz27_1 hcz27_2 hcz27_3 hcz27_4 hcz31_0 hcz31_1 hcz31_2 hcz31_3 hcz31_4 hcz32_0 hcz32_1 hcz32_2 hcz32_3 hcz32_4 hcz6_0 hcz6_1 hcz6_2 hcz6_3 hcz6_4 hcz7_0 hcz7_1 hcz7_2 hcz7_3 hcz7_4 hcz8_0 hcz8_1 hcz8_2 hcz8_3 hcz8_4 hfz10_0 hfz10_1 hfz10_2 hfz10_3 hfz10_4 hfz17_0 hfz17_1 hfz17_2 hfz17_3 hfz17_4 hfz18_0 hfz18_1 hfz18_2 hfz18_3 hfz18_4 hfz19_0 hfz19_1 hfz19_2 hfz19_3 hfz19_4 hfz26_0 hfz26_1 hfz26_2 hfz26_3 hfz26_4 hfz27_0 hfz27_1 hfz27_2 hfz27_3 hfz27_4 hfz31_0 hfz31_1 hfz31_2 hfz31_3 hfz31_4 hfz32_0 hfz32_1 hfz32_2 hfz32_3 hfz32_4 hfz6_0 hfz6_1 hfz6_2 hfz6_3 hfz6_4 hfz7_0 hfz7_1 hfz7_2 hfz7_3 hfz7_4 hfz8_0 hfz8_1 hfz8_2 hfz8_3 hfz8_4
      try clear p2
      obtain ⟨kq,x50_27,rfl,HA,HJ27,BK174,HB⟩ := hcut
      cases kq with
      | zero => exact absurd HA.out (by simp [shape_Check.j3])
      | succ kj27 =>
       have H := HA.out;clear HA;simp only [shape_Check.j3] at H
       by_cases c33 : x50_27 = true
       ·subst c33
        have H1 : (some 11) = some r := by rw [if_pos rfl] at H;exact H
        clear H;have H := H1;clear H1;obtain rfl := Option.some.inj H
        go_wp2
        go_ret
        exact ⟨by first | rfl | (simp [errW_none,errW_some] <;> rfl) | (simp [*,errW_none,errW_some] <;> rfl),rW HB⟩
       ·replace c33 := Bool.eq_false_iff.mpr c33
        subst c33
        have H1 : (some 0) = some r := by rw [if_neg (show ¬ (false = true) by decide)] at H;exact H
        clear H;have H := H1;clear H1;obtain rfl := Option.some.inj H
        go_wp2
        go_ret
        exact ⟨by first | rfl | (simp [errW_none,errW_some] <;> rfl) | (simp [*,errW_none,errW_some] <;> rfl),rW HB⟩
end Go.Proofs.Ytbhfleilgjonpaa.XScalarComes
