import Derived.Test.YtbhfleilgjonpaaSXShort
import Derived.Test.YtbhfleilgjonpaaSXScalarComesx0
import Derived.Test.YtbhfleilgjonpaaSXScalarComesx7
import Derived.Test.YtbhfleilgjonpaaSXScalarComesx8
import Derived.Test.YtbhfleilgjonpaaSXScalarComesx11
namespace Go.Proofs.Ytbhfleilgjonpaa.XScalarComes
open Go.RowKit Go.Proofs.YtbhfleilgjonpaaW.PrintWords Go.Proofs.YtbhfleilgjonpaaW.PrintLast Go.Proofs.YtbhfleilgjonpaaW.PrintMore
attribute [local go_sem] max2_int min2_int max_two min_two max_three min_three max_four min_four
set_option linter.unusedVariables false
set_option linter.unusedSimpArgs false
mutual
def gilboa_Fold.j0 : Nat → Int → Int → List Int → Bool → Option (List Int × Int)
 | 0,_,_,_,_ => none
 | k + 1,x0,x1,x2,x30 => if x30 = true then (some (([] : List Int),11)) else (if x0 = 0 then (none) else (if 0 ≤ (wrap64 ((x2.length : Int) / x0)) then (if (wrap64 ((x2.length : Int) / x0) : Int).toNat ≤ 35184372088832 then (gilboa_Fold.l0 k x0 x1 x2 (([] : List Int)) 0) else (none)) else (none)))
def gilboa_Fold.l0 : Nat → Int → Int → List Int → List Int → Int → Option (List Int × Int)
 | 0,_,_,_,_,_ => none
 | k + 1,x0,x1,x2,x8,x9 => if x9 < (x2.length : Int) then (if 0 ≤ x1 then (if (x1 : Int).toNat ≤ 35184372088832 then (gilboa_Fold.l1 k x0 x1 x2 x8 x9 (List.replicate (x1 : Int).toNat 0) x0 0) else (none)) else (none)) else (some (x8,0))
def gilboa_Fold.l1 : Nat → Int → Int → List Int → List Int → Int → List Int → Int → Int → Option (List Int × Int)
 | 0,_,_,_,_,_,_,_,_ => none
 | k + 1,x0,x1,x2,x8,x9,x10,x47,x48 => if x48 < x47 then (if 0 ≤ (wrap64 (x9 + (wrap64 (x48 * x1)))) then (if (wrap64 (x9 + (wrap64 (x48 * x1)))) ≤ (wrap64 (x9 + (wrap64 ((wrap64 (x48 + 1)) * x1)))) then (if (wrap64 (x9 + (wrap64 ((wrap64 (x48 + 1)) * x1)))) ≤ (x2.length : Int) then ((ring_AddAll.f x0 x10 ((x2.take ((wrap64 (x9 + (wrap64 ((wrap64 (x48 + 1)) * x1)))) : Int).toNat).drop ((wrap64 (x9 + (wrap64 (x48 * x1)))) : Int).toNat)).bind fun bt404 => (gilboa_Fold.l1 k x0 x1 x2 x8 x9 bt404.1 x47 (wrap64 (x48 + 1)))) else (none)) else (none)) else (none)) else (if x8.length + x10.length < 17592186044416 then (gilboa_Fold.l0 k x0 x1 x2 (x8 ++ x10) (wrap64 (x9 + (wrap64 (x0 * x1))))) else (none))
end
def gilboa_Fold.f (k : Nat) (a0 : Int) (a1 : Int) (l2 : List Int) : Option (List Int × Int) := (gilboa_good.f a0 a1).bind fun t395 => (if t395 = true then (if (wrap64 (a0 * a1)) = 0 then (none) else (if ((l2.length : Int) % (wrap64 (a0 * a1))) = 0 then ((ring_Fits.f a0 l2).bind fun t396 => (gilboa_Fold.j0 k a0 a1 l2 (!t396))) else (gilboa_Fold.j0 k a0 a1 l2 true))) else (gilboa_Fold.j0 k a0 a1 l2 true))
theorem gilboa_Fold.mono_l : ∀ k,(∀ y0 y1 y2 y3,LeO (gilboa_Fold.j0 k y0 y1 y2 y3) (gilboa_Fold.j0 (k + 1) y0 y1 y2 y3)) ∧ (∀ y0 y1 y2 y3 y4,LeO (gilboa_Fold.l0 k y0 y1 y2 y3 y4) (gilboa_Fold.l0 (k + 1) y0 y1 y2 y3 y4)) ∧ (∀ y0 y1 y2 y3 y4 y5 y6 y7,LeO (gilboa_Fold.l1 k y0 y1 y2 y3 y4 y5 y6 y7) (gilboa_Fold.l1 (k + 1) y0 y1 y2 y3 y4 y5 y6 y7))
 | 0 => ⟨fun _ _ _ _ r h => by simp [gilboa_Fold.j0] at h,fun _ _ _ _ _ r h => by simp [gilboa_Fold.l0] at h,fun _ _ _ _ _ _ _ _ r h => by simp [gilboa_Fold.l1] at h⟩
 | k + 1 => by
  obtain ⟨ih0,ih1,ih2⟩ := gilboa_Fold.mono_l k;refine ⟨?_,?_,?_⟩
  ·intro y0 y1 y2 y3
   unfold gilboa_Fold.j0
   repeat' first | (with_reducible first | exact ih0 _ _ _ _ | exact ih1 _ _ _ _ _ | exact ih2 _ _ _ _ _ _ _ _ | exact LeO.refl _ | exact LeO.none _ | refine LeO.ite ?_ ?_ | refine LeO.bind ?_ (fun _ => ?_)) | exact LeO.none _ | refine LeO.ite ?_ ?_ | refine LeO.bind ?_ (fun _ => ?_)
  ·intro y0 y1 y2 y3 y4
   unfold gilboa_Fold.l0
   repeat' first | (with_reducible first | exact ih0 _ _ _ _ | exact ih1 _ _ _ _ _ | exact ih2 _ _ _ _ _ _ _ _ | exact LeO.refl _ | exact LeO.none _ | refine LeO.ite ?_ ?_ | refine LeO.bind ?_ (fun _ => ?_)) | exact LeO.none _ | refine LeO.ite ?_ ?_ | refine LeO.bind ?_ (fun _ => ?_)
  ·intro y0 y1 y2 y3 y4 y5 y6 y7
   unfold gilboa_Fold.l1
   repeat' first | (with_reducible first | exact ih0 _ _ _ _ | exact ih1 _ _ _ _ _ | exact ih2 _ _ _ _ _ _ _ _ | exact LeO.refl _ | exact LeO.none _ | refine LeO.ite ?_ ?_ | refine LeO.bind ?_ (fun _ => ?_)) | exact LeO.none _ | refine LeO.ite ?_ ?_ | refine LeO.bind ?_ (fun _ => ?_)
theorem gilboa_Fold.mono : ∀ a0 a1 a2 k,LeO (gilboa_Fold.f k a0 a1 a2) (gilboa_Fold.f (k + 1) a0 a1 a2) := by
 intro a0 a1 a2 k;obtain ⟨ih0,ih1,ih2⟩ := gilboa_Fold.mono_l k;unfold gilboa_Fold.f
 repeat' first | (with_reducible first | exact ih0 _ _ _ _ | exact ih1 _ _ _ _ _ | exact ih2 _ _ _ _ _ _ _ _ | exact LeO.refl _ | exact LeO.none _ | refine LeO.ite ?_ ?_ | refine LeO.bind ?_ (fun _ => ?_)) | exact LeO.none _ | refine LeO.ite ?_ ?_ | refine LeO.bind ?_ (fun _ => ?_)
set_option maxHeartbeats 8000000 in
set_option maxRecDepth 100000 in
theorem gilboa_Fold.calls (k : Nat) (a0 : Int) (a1 : Int) (A2 : Option Addr) (c2 : Nat) (l2 : List Int) (r1 : List Int) (r2 : Int) (w : World) (hr2 : Kd.C (Kd.int .u64) w A2 l2.length l2) (hc2 : l2.length ≤ c2) (h : gilboa_Fold.f k a0 a1 l2 = some (r1,r2)) :
  Calls Try.prog 45 #[.int .i64 a0,.int .i64 a1,.slice A2 l2.length c2] w fun e w' => ∃ v0_ : Value,e = .returned (.tuple #[v0_,.int .i64 r2]) ∧ Kd.R (Kd.int .u64) 32 w' w.heap.size (fun _ => True) v0_ r1 ∧ Below w.heap.size w w' := by
 have HR2 := Aside0.mk hr2;have HC2 := Aside0.mk hc2;clear hr2 hc2;have HB := Aside0.mk (Below.refl w.heap.size w);have H : ((gilboa_good.f a0 a1).bind fun t395 => (if t395 = true then (if (wrap64 (a0 * a1)) = 0 then (none) else (if ((l2.length : Int) % (wrap64 (a0 * a1))) = 0 then ((ring_Fits.f a0 l2).bind fun t396 => (gilboa_Fold.j0 k a0 a1 l2 (!t396))) else (gilboa_Fold.j0 k a0 a1 l2 true))) else (gilboa_Fold.j0 k a0 a1 l2 true))) = some (r1,r2) := h;clear h;have HC4 := Aside0.mk H;clear H
 go_enter Try.func45,Try.ntmps45
 go_upto_region 1 with (fail)
 go_cut [30] (fun v30 wc => ∃ (kq : Nat) (x30_3 : Bool),v30 = .bool x30_3 ∧ Aside0 (gilboa_Fold.j0 kq a0 a1 l2 x30_3 = some (r1,r2)) ∧ Aside0 (kq ≤ k) ∧ Aside0 (Below w.heap.size w wc))
 case first =>
  have H := HC4.out;clear HC4;replace H := Option.bind_eq_some_iff.mp H;obtain ⟨t395,A50,H⟩ := H;replace H : (if t395 = true then (if (wrap64 (a0 * a1)) = 0 then (none) else (if ((l2.length : Int) % (wrap64 (a0 * a1))) = 0 then ((ring_Fits.f a0 l2).bind fun t396 => (gilboa_Fold.j0 k a0 a1 l2 (!t396))) else (gilboa_Fold.j0 k a0 a1 l2 true))) else (gilboa_Fold.j0 k a0 a1 l2 true)) = some (r1,r2) := H;have A5 := Aside0.mk A50;clear A50
  by_cases c6 : t395 = true
  ·subst c6
   have H1 : (if (wrap64 (a0 * a1)) = 0 then (none) else (if ((l2.length : Int) % (wrap64 (a0 * a1))) = 0 then ((ring_Fits.f a0 l2).bind fun t396 => (gilboa_Fold.j0 k a0 a1 l2 (!t396))) else (gilboa_Fold.j0 k a0 a1 l2 true))) = some (r1,r2) := by rw [if_pos rfl] at H;exact H
   clear H;have H := H1;clear H1
   by_cases c7 : (wrap64 (a0 * a1)) = 0
   ·rw [if_pos c7] at H
    exact absurd H (by simp)
   ·rw [if_neg c7] at H
    have c7b0 : ((wrap64 (a0 * a1)) == 0) = false := beq_eq_false_iff_ne.mpr c7;have c7b1 : ((wrap64 (a0 * a1)) != 0) = true := bne_iff_ne.mpr c7;(first | rw [c7b0] | (simp only [i64_w,i32_w];rw [c7b0]) | skip)
    by_cases c8 : ((l2.length : Int) % (wrap64 (a0 * a1))) = 0
    ·rw [if_pos c8] at H
     have c8b0 : (((l2.length : Int) % (wrap64 (a0 * a1))) == 0) = true := beq_iff_eq.mpr c8;have c8b1 : (((l2.length : Int) % (wrap64 (a0 * a1))) != 0) = false := bne_eq_false_iff_eq.mpr c8;clear c8;replace H := Option.bind_eq_some_iff.mp H;obtain ⟨t396,A90,H⟩ := H;replace H : (gilboa_Fold.j0 k a0 a1 l2 (!t396)) = some (r1,r2) := H;have A9 := Aside0.mk A90;clear A90;have H' := Aside0.mk H;clear H
     go_wp2_with (first | ((with_reducible refine gate_callee (f := 69) rfl ?_);refine gL (some 14) Try.func69 #[.int .i64 a0,.int .i64 a1] ?_;(with_reducible refine (gilboa_good.calls a0 a1 true _ A5.out).mono ?_);rintro e w' ⟨rfl,⟨nd,rfl⟩⟩;refine ⟨_,rfl,?_⟩) | (go_at_call 34;(with_reducible refine (ring_Fits.calls a0 _ _ l2 t396 _ ?side1 ?side2 A9.out).mono ?_);(case side1 => repeat (first | exact (Kd.C_below HR2.out (rW HB)) | (with_reducible refine Kd.C_alloc ?_ _) | (with_reducible refine Kd.C_drewN ?_ _) | (with_reducible refine Kd.C_drew ?_)));(case side2 => exact HC2.out);rintro e w10 ⟨rfl,hb⟩;replace HB := bs HB hb;(try clear hb);(try clear hb2);(try clear hk);(try clear hi)))
     go_meet
     case rel => exact ⟨_,(!t396),(by first | rfl | (simp;done) | (simp [*];done)),H',⟨by first | omega | exact Nat.le_refl _⟩,⟨rW HB⟩⟩
    ·rw [if_neg c8] at H
     have c8b0 : (((l2.length : Int) % (wrap64 (a0 * a1))) == 0) = false := beq_eq_false_iff_ne.mpr c8;have c8b1 : (((l2.length : Int) % (wrap64 (a0 * a1))) != 0) = true := bne_iff_ne.mpr c8;have H' := Aside0.mk H;clear H
     go_wp2_with (first | ((with_reducible refine gate_callee (f := 69) rfl ?_);refine gL (some 14) Try.func69 #[.int .i64 a0,.int .i64 a1] ?_;(with_reducible refine (gilboa_good.calls a0 a1 true _ A5.out).mono ?_);rintro e w' ⟨rfl,⟨nd,rfl⟩⟩;refine ⟨_,rfl,?_⟩))
     go_meet
     case rel => exact ⟨_,(true),(by first | rfl | (simp;done) | (simp [*];done)),H',⟨by first | omega | exact Nat.le_refl _⟩,⟨rW HB⟩⟩
  ·replace c6 := Bool.eq_false_iff.mpr c6
   subst c6
   have H1 : (gilboa_Fold.j0 k a0 a1 l2 true) = some (r1,r2) := by rw [if_neg (show ¬ (false = true) by decide)] at H;exact H
   clear H;have H := H1;clear H1;have H' := Aside0.mk H;clear H
   go_wp2_with (first | ((with_reducible refine gate_callee (f := 69) rfl ?_);refine gL (some 14) Try.func69 #[.int .i64 a0,.int .i64 a1] ?_;(with_reducible refine (gilboa_good.calls a0 a1 false _ A5.out).mono ?_);rintro e w' ⟨rfl,⟨nd,rfl⟩⟩;refine ⟨_,rfl,?_⟩))
   go_meet
   case rel => exact ⟨_,(true),(by first | rfl | (simp;done) | (simp [*];done)),H',⟨by first | omega | exact Nat.le_refl _⟩,⟨rW HB⟩⟩
 case rest =>
  clear HC4
  try clear c2
  try clear p2
  try clear c4
  try clear c6
  try clear p6
  try clear c7
  try clear c7b0
  try clear c7b1
  try clear c8
  try clear c8b0
  try clear c8b1
  obtain ⟨kq,x30_3,rfl,HA,HJ3,HB⟩ := hcut
  cases kq with
  | zero => exact absurd HA.out (by simp [gilboa_Fold.j0])
  | succ kj3 =>
   have H := HA.out;clear HA;simp only [gilboa_Fold.j0] at H
   by_cases c11 : x30_3 = true
   ·subst c11
    have H1 : (some (([] : List Int),11)) = some (r1,r2) := by rw [if_pos rfl] at H;exact H
    clear H;have H := H1;clear H1;simp only [Option.some.injEq,Prod.mk.injEq] at H;obtain ⟨rfl,rfl⟩ := H
    go_wp2
    go_ret2
    exact ⟨_,by first | rfl | (simp [errW_none,errW_some] <;> rfl) | (simp [*,errW_none,errW_some] <;> rfl),by first | exact Kd.R_nil _ _ _ _ _ | exact Kd.N_nil _ _ _ _ _ | exact Kd.V_nil _ _ _ _ _ | exact Kd.Q_nil _ _ _ _ _ | exact Kd.S_nil _ _ _ _ _,rW HB⟩
   ·replace c11 := Bool.eq_false_iff.mpr c11
    subst c11
    have H1 : (if a0 = 0 then (none) else (if 0 ≤ (wrap64 ((l2.length : Int) / a0)) then (if (wrap64 ((l2.length : Int) / a0) : Int).toNat ≤ 35184372088832 then (gilboa_Fold.l0 kj3 a0 a1 l2 (([] : List Int)) 0) else (none)) else (none))) = some (r1,r2) := by rw [if_neg (show ¬ (false = true) by decide)] at H;exact H
    clear H;have H := H1;clear H1
    by_cases c12 : a0 = 0
    ·rw [if_pos c12] at H
     exact absurd H (by simp)
    ·rw [if_neg c12] at H
     have c12b0 : (a0 == 0) = false := beq_eq_false_iff_ne.mpr c12;have c12b1 : (a0 != 0) = true := bne_iff_ne.mpr c12;obtain ⟨ji13,hji13⟩ : ∃ j_ : Int,(wrap64 ((l2.length : Int) / a0)) = j_ := ⟨_,rfl⟩
     replace H : (if 0 ≤ (ji13) then (if (ji13 : Int).toNat ≤ 35184372088832 then (gilboa_Fold.l0 kj3 a0 a1 l2 (([] : List Int)) 0) else (none)) else (none)) = some (r1,r2) := by first | (rw [hji13] at H;exact H) | (simp only [hji13] at H ⊢;exact H)
     have hji13w : (IntKind.i64.wrap ((l2.length : Int) / a0)) = ji13 := (i64_w _).trans hji13
     by_cases c14 : 0 ≤ (ji13)
     ·rw [if_pos c14] at H
      have c14b0 := eq_true c14;have c14b1 : decide (0 ≤ (ji13)) = true := decide_eq_true c14;clear c14
      by_cases c15 : (ji13 : Int).toNat ≤ 35184372088832
      ·rw [if_pos c15] at H
       have c15b0 := eq_true c15;have c15b1 : decide ((ji13 : Int).toNat ≤ 35184372088832) = true := decide_eq_true c15;clear c15;obtain ⟨y397,hy397⟩ : ∃ y_ : List Int,y_ = (([] : List Int)) := ⟨_,rfl⟩;replace H : (gilboa_Fold.l0 kj3 a0 a1 l2 y397 0) = some (r1,r2) := rY hy397 H;have Ny397 := Aside0.mk hy397;clear hy397;have H' := Aside0.mk H;clear H
       go_wp2_with (first | ((with_reducible refine gate_dst (N := 35) rfl ?_);(try (refine gate_guard (by rfl) ?_;dsimp only));refine Kd.R_makecap (Kd.int .u64) _ 32 rfl (N := 35) rfl 23 _ _ rfl ji13 rfl rfl Try.underlying23 (.int .u64 0) 8 info32 rfl (by decide) (by omega)  (ok := fun _ => True) (okp := fun _ => True)  (fun _ hk => hk) trivial (of_decide_eq_true (by first | (with_reducible assumption) | assumption)) (Nat.le_trans (Nat.mul_le_mul_right _ (of_decide_eq_true (by first | (with_reducible assumption) | assumption) : ji13.toNat ≤ 35184372088832)) (by omega)) (Below.refl _ _) (Nat.le_refl _) ?_;intro v398 w16 ho17 hb hg_ hnew_;clear hg_ hnew_;(first | rw [← Ny397.out] at ho17 | (simp only [Int.reduceToNat] at ho17;rw [← Ny397.out] at ho17));have HO399 := Aside0.mk (Kd.R_lower ho17 (below_size (rW HB)));replace HB := bs HB hb;clear hb ho17))
       go_loopg [8,9] kj3 (fun kq v8 v9 w' => ∃ (x8_2 : List Int) (x9_2 : Int),v9 = .int .i64 x9_2 ∧ Aside0 (gilboa_Fold.l0 kq a0 a1 l2 x8_2 x9_2 = some (r1,r2)) ∧ Aside0 (kq ≤ kj3) ∧ Aside0 (Kd.R (Kd.int .u64) 32 w' w.heap.size (fun _ => True) v8 x8_2) ∧ Aside0 (Below w.heap.size w w'))
       case atStart => exact ⟨(y397),(0),(by first | rfl | (simp;done) | (simp [*];done)),H',⟨Nat.le_refl _⟩,⟨rR HO399⟩,⟨rW HB⟩⟩
       case round =>
        clear H'
        try clear c1
        try clear c2
        try clear p2
        try clear c4
        try clear c6
        try clear p6
        try clear c7
        try clear c7b0
        try clear c7b1
        try clear c8
        try clear c8b0
        try clear c8b1
        try clear c11
        try clear c12
        try clear c12b0
        try clear c12b1
        try clear c14
        try clear c14b0
        try clear c14b1
        try clear c15
        try clear c15b0
        try clear c15b1
        try clear p2
        try clear p6
        obtain ⟨x8_2,x9_2,rfl,HA,HK2,HO_8,HB⟩ := hrel
        cases gk with
        | zero => exact absurd HA.out (by simp [gilboa_Fold.l0])
        | succ k2 =>
         have H := HA.out;clear HA;simp only [gilboa_Fold.l0] at H
         by_cases c18 : x9_2 < (l2.length : Int)
         ·rw [if_pos c18] at H
          have c18b0 : decide (x9_2 < (l2.length : Int)) = true := decide_eq_true c18;clear c18
          by_cases c19 : 0 ≤ a1
          ·rw [if_pos c19] at H
           have c19b0 := eq_true c19;have c19b1 : decide (0 ≤ a1) = true := decide_eq_true c19;clear c19
           by_cases c20 : (a1 : Int).toNat ≤ 35184372088832
           ·rw [if_pos c20] at H
            have c20b0 := eq_true c20;have c20b1 : decide ((a1 : Int).toNat ≤ 35184372088832) = true := decide_eq_true c20;clear c20;obtain ⟨y400,hy400⟩ : ∃ y_ : List Int,y_ = (List.replicate (a1 : Int).toNat 0) := ⟨_,rfl⟩;replace H : (gilboa_Fold.l1 k2 a0 a1 l2 x8_2 x9_2 y400 a0 0) = some (r1,r2) := rY hy400 H;have Ny400 := Aside0.mk hy400;clear hy400;have H' := Aside0.mk H;clear H
            go_wp2_with (first | ((with_reducible refine gate_dst (N := 46) rfl ?_);(try (refine gate_guard (by rfl) ?_;dsimp only));refine Kd.R_make (Kd.int .u64) _ 32 rfl (N := 46) rfl 23 _ _ rfl a1 rfl rfl Try.underlying23 (.int .u64 0) 8 info32 rfl (by decide) (by omega) 0 (ok := fun _ => True) (okp := fun _ => True) rfl (fun _ hk => hk) trivial (of_decide_eq_true (by first | (with_reducible assumption) | assumption)) (Nat.le_trans (Nat.mul_le_mul_right _ (of_decide_eq_true (by first | (with_reducible assumption) | assumption) : a1.toNat ≤ 35184372088832)) (by omega)) (Below.refl _ _) (Nat.le_refl _) ?_;intro v401 w21 ho22 hb hg_ hnew_;clear hg_ hnew_;(first | rw [← Ny400.out] at ho22 | (simp only [Int.reduceToNat] at ho22;rw [← Ny400.out] at ho22));have HO402 := Aside0.mk (Kd.R_lower (Kd.R_new' ho22 (Kd.R_lt (rR HO_8))) (below_size (rW HB)));replace HO_8 := lR HO_8 ho22 hb;replace HB := bs HB hb;clear hb ho22))
            go_loopg [10,48] k2 (fun kq v10 v48 w' => ∃ (x10_3 : List Int) (x48_3 : Int),v48 = .int .i64 x48_3 ∧ Aside0 (gilboa_Fold.l1 kq a0 a1 l2 x8_2 x9_2 x10_3 a0 x48_3 = some (r1,r2)) ∧ Aside0 (kq ≤ k2) ∧ Aside0 (Kd.R (Kd.int .u64) 32 w' w.heap.size (fun k_ => some k_ ≠ (v10 : Value).ownBlock) u8 x8_2) ∧ Aside0 (Kd.R (Kd.int .u64) 32 w' w.heap.size (fun k_ => some k_ ≠ (u8 : Value).ownBlock) v10 x10_3) ∧ Aside0 (Below w.heap.size w w'))
            case atStart => exact ⟨(y400),(0),(by first | rfl | (simp;done) | (simp [*];done)),H',⟨Nat.le_refl _⟩,⟨by (with_reducible repeat (first | apply Kd.R_alloc | apply Kd.R_drewN | apply Kd.R_drew));exact Kd.R_mono HO_8.out (fun _ hk => hk.2)⟩,⟨by (with_reducible repeat (first | apply Kd.R_alloc | apply Kd.R_drewN | apply Kd.R_drew));exact Kd.R_mono HO402.out (fun _ hk => hk.2)⟩,⟨rW HB⟩⟩
            case round =>
             clear H'
             try clear c1
             try clear c2
             try clear p2
             try clear c4
             try clear c6
             try clear p6
             try clear c7
             try clear c7b0
             try clear c7b1
             try clear c8
             try clear c8b0
             try clear c8b1
             try clear c11
             try clear c12
             try clear c12b0
             try clear c12b1
             try clear c14
             try clear c14b0
             try clear c14b1
             try clear c15
             try clear c15b0
             try clear c15b1
             try clear c18
             try clear c18b0
             try clear c19
             try clear c19b0
             try clear c19b1
             try clear c20
             try clear c20b0
             try clear c20b1
             try clear p2
             try clear p6
             obtain ⟨x10_3,x48_3,rfl,HA,HK3,HO_8,HO_10,HB⟩ := hrel
             cases gk with
             | zero => exact absurd HA.out (by simp [gilboa_Fold.l1])
             | succ k3 =>
              have H := HA.out;clear HA;simp only [gilboa_Fold.l1] at H
              by_cases c23 : x48_3 < a0
              ·rw [if_pos c23] at H
               have c23b0 : decide (x48_3 < a0) = true := decide_eq_true c23;clear c23;obtain ⟨ji24,hji24⟩ : ∃ j_ : Int,(wrap64 (x9_2 + (wrap64 (x48_3 * a1)))) = j_ := ⟨_,rfl⟩
               replace H : (if 0 ≤ (ji24) then (if (ji24) ≤ (wrap64 (x9_2 + (wrap64 ((wrap64 (x48_3 + 1)) * a1)))) then (if (wrap64 (x9_2 + (wrap64 ((wrap64 (x48_3 + 1)) * a1)))) ≤ (l2.length : Int) then ((ring_AddAll.f a0 x10_3 ((l2.take ((wrap64 (x9_2 + (wrap64 ((wrap64 (x48_3 + 1)) * a1)))) : Int).toNat).drop ((ji24) : Int).toNat)).bind fun bt404 => (gilboa_Fold.l1 k3 a0 a1 l2 x8_2 x9_2 bt404.1 a0 (wrap64 (x48_3 + 1)))) else (none)) else (none)) else (none)) = some (r1,r2) := by first | (rw [hji24] at H;exact H) | (simp only [hji24] at H ⊢;exact H)
               have hji24w : (IntKind.i64.wrap (x9_2 + (wrap64 (x48_3 * a1)))) = ji24 := (i64_w _).trans hji24
               by_cases c25 : 0 ≤ (ji24)
               ·rw [if_pos c25] at H
                have c25b0 := eq_true c25;have c25b1 : decide (0 ≤ (ji24)) = true := decide_eq_true c25;clear c25
                by_cases c26 : (ji24) ≤ (wrap64 (x9_2 + (wrap64 ((wrap64 (x48_3 + 1)) * a1))))
                ·rw [if_pos c26] at H
                 have c26b0 := eq_true c26;have c26b1 : decide ((ji24) ≤ (wrap64 (x9_2 + (wrap64 ((wrap64 (x48_3 + 1)) * a1))))) = true := decide_eq_true c26
                 by_cases c27 : (wrap64 (x9_2 + (wrap64 ((wrap64 (x48_3 + 1)) * a1)))) ≤ (l2.length : Int)
                 ·rw [if_pos c27] at H
                  have c27b0 := eq_true c27;have c27b1 : decide ((wrap64 (x9_2 + (wrap64 ((wrap64 (x48_3 + 1)) * a1)))) ≤ (l2.length : Int)) = true := decide_eq_true c27;replace H := Option.bind_eq_some_iff.mp H;obtain ⟨⟨t404,t405⟩,A280,H⟩ := H;replace H : (gilboa_Fold.l1 k3 a0 a1 l2 x8_2 x9_2 t404 a0 (wrap64 (x48_3 + 1))) = some (r1,r2) := H;have A28 := Aside0.mk A280;clear A280;have H' := Aside0.mk H;clear H;obtain ⟨i029,hi029,_,hsz29,_⟩ := info_parts info32;obtain ⟨A29,hcut29,hA29,hC29⟩ := print_mid_of (P := Try.prog) (Value.int .u64) 0 23 32 .i64 .i64 Try.underlying23 hi029 hsz29 A2 c2 l2 (ji24) (wrap64 (x9_2 + (wrap64 ((wrap64 (x48_3 + 1)) * a1)))) (of_decide_eq_true (by first | (with_reducible assumption) | assumption)) (by first | omega | exact of_decide_eq_true (by first | (with_reducible assumption) | assumption)) (of_decide_eq_true (by first | (with_reducible assumption) | assumption)) HC2.out;have HR403 := Aside0.mk (Kd.C_of_reads (h1 := fun _ => rfl) (hA29 _ (Kd.reads_of_C HR2.out)));have HC403 := Aside0.mk hC29;clear hA29 hC29 hi029 hsz29;obtain ⟨Ao30,co30,eo30⟩ := Kd.R_slice HO_10.out;subst eo30
                  go_wp2_with (first | ((with_reducible refine gate_callee (f := 55) rfl ?_);refine goesL_ (some 67) rfl rfl Try.func55 (by kernel_rfl) rfl #[.int .i64 a0,.slice Ao30 x10_3.length co30,.slice A29 ((l2.take ((wrap64 (x9_2 + (wrap64 ((wrap64 (x48_3 + 1)) * a1)))) : Int).toNat).drop ((ji24) : Int).toNat).length (c2 - (ji24).toNat)] rfl (by (try simp only [List.map_toArray,List.map_cons,List.map_nil]);first | done | (rw [show ((l2.take ((wrap64 (x9_2 + (wrap64 ((wrap64 (x48_3 + 1)) * a1)))) : Int).toNat).drop ((ji24) : Int).toNat).length = ((wrap64 (x9_2 + (wrap64 ((wrap64 (x48_3 + 1)) * a1)))).toNat - (ji24).toNat) from (by rw [List.length_drop,List.length_take];have h_ : ((wrap64 (x9_2 + (wrap64 ((wrap64 (x48_3 + 1)) * a1)))) : Int) ≤ (l2.length : Int) := of_decide_eq_true (by first | (with_reducible assumption) | assumption);omega)] <;> rfl) | (simp only [hji24];rfl) | rfl | (simp only [List.length_drop,List.length_take];rfl)) ?_;(with_reducible refine (ring_AddAll.calls a0 _ _ x10_3 _ _ ((l2.take ((wrap64 (x9_2 + (wrap64 ((wrap64 (x48_3 + 1)) * a1)))) : Int).toNat).drop ((ji24) : Int).toNat) t404 t405 _ ?side1 ?side2 ?side3 ?side4 A28.out).mono ?_);(case side1 => exact rC (Kd.R_reads' HO_10.out).2.2);(case side2 => exact (Kd.R_reads' HO_10.out).2.1);(case side3 => exact rC (Kd.C_below HR403.out HB.out));(case side4 => exact HC403.out);rintro e w31 ⟨v406,rfl,ho0,hb⟩;refine ⟨_,rfl,?_⟩;have HO407 := Aside0.mk (Kd.R_lower (Kd.R_new' (Kd.R_new' ho0 (Kd.R_lt (rR HO_8))) (Kd.R_lt (rR HO_10))) (below_size (rW HB)));replace HO_8 := lR HO_8 ho0 hb;replace HO_10 := lR HO_10 ho0 hb;replace HB := bs HB hb;(try clear hb);(try clear hb2);(try clear hk);(try clear hi);(try clear ho0)))
                  go_roundg k3
                  case measure => have := HJ3.out;have := HK2.out;have := HK3.out;omega
                  case rel => exact ⟨(t404),(wrap64 (x48_3 + 1)),(by first | rfl | (simp;done) | (simp [*];done)),H',⟨by have := HJ3.out;have := HK2.out;have := HK3.out;omega⟩,⟨by (with_reducible repeat (first | apply Kd.R_alloc | apply Kd.R_drewN | apply Kd.R_drew));exact Kd.R_mono HO_8.out (fun _ hk => hk.2)⟩,⟨by (with_reducible repeat (first | apply Kd.R_alloc | apply Kd.R_drewN | apply Kd.R_drew));exact Kd.R_mono HO407.out (fun _ hk => hk.1.2)⟩,⟨rW HB⟩⟩
                 ·rw [if_neg c27] at H
                  exact absurd H (by simp)
                ·rw [if_neg c26] at H
                 exact absurd H (by simp)
               ·rw [if_neg c25] at H
                exact absurd H (by simp)
              ·rw [if_neg c23] at H
               have c23b0 : decide (x48_3 < a0) = false := decide_eq_false c23;clear c23
               by_cases c32 : x8_2.length + x10_3.length < 17592186044416
               ·rw [if_pos c32] at H
                have LMc32 := Aside0.mk c32;clear c32;obtain ⟨y408,hy408⟩ : ∃ y_ : List Int,y_ = (x8_2 ++ x10_3) := ⟨_,rfl⟩;replace H : (gilboa_Fold.l0 k3 a0 a1 l2 y408 (wrap64 (x9_2 + (wrap64 (a0 * a1))))) = some (r1,r2) := rY hy408 H;have Ny408 := Aside0.mk hy408;clear hy408;have H' := Aside0.mk H;clear H;obtain ⟨Ao34,co34,eo34⟩ := Kd.R_slice HO_10.out;subst eo34
                go_wp2_with (first | ((with_reducible refine gate_builtin (b := .append) (xs := #[.tmp 71,.tmp 72]) rfl ?_);(try (refine gate_guard (by rfl) ?_;dsimp only));at_builtin;refine Kd.R_append_rows (Kd.int .u64) (w0 := w) w.heap.size rfl (.tmp 71) (.tmp 72) 23 32 (.int .u64 0) 8 rfl Try.underlying23 info32 rfl (by decide) (by omega) u8 x8_2 x10_3 _ _ _ (fun k_ => some k_ ≠ (.slice Ao34 x10_3.length co34 : Value).ownBlock) (fun _ => False) rfl rfl ?aO ?aR (fun _ _ h => h) (fun _ h => h.elim) ?aF ?aB ?aS ?aL ?_;(case aR => repeat (first | exact (Kd.R_reads' HO_10.out).2.2 | (with_reducible refine Kd.C_alloc ?_ _) | (with_reducible refine Kd.C_drewN ?_ _) | (with_reducible refine Kd.C_drew ?_)));(case aB => exact (rW HB));(case aF => exact (fun k_ hk => Kd.fresh' (Kd.R_lt (rR HO_10)) k_ hk));(case aO => exact (rR HO_8));(case aS => exact (below_size (rW HB)));(case aL => have := LMc32.out;omega);intro v409 w33 ho hb hg hat;rw [← Ny408.out] at ho;replace HO_10 := Aside0.mk (Kd.R_after (ok := (fun _ => True)) (by (with_reducible repeat (first | apply Kd.R_alloc | apply Kd.R_drewN | apply Kd.R_drew));exact Kd.R_mono HO_10.out (fun _ hk => ⟨trivial,hk⟩)) hg hat);replace HB := Aside0.mk (hb);have HO410 := Aside0.mk (ho);clear HO_8;clear ho hb hg hat))
                go_roundg k3
                case measure => have := HJ3.out;have := HK2.out;have := HK3.out;omega
                case rel => exact ⟨(y408),(wrap64 (x9_2 + (wrap64 (a0 * a1)))),(by first | rfl | (simp;done) | (simp [*];done)),H',⟨by have := HJ3.out;have := HK2.out;have := HK3.out;omega⟩,⟨by (with_reducible repeat (first | apply Kd.R_alloc | apply Kd.R_drewN | apply Kd.R_drew));exact Kd.R_mono HO410.out (fun _ hk => trivial)⟩,⟨rW HB⟩⟩
               ·rw [if_neg c32] at H
                exact absurd H (by simp)
           ·rw [if_neg c20] at H
            exact absurd H (by simp)
          ·rw [if_neg c19] at H
           exact absurd H (by simp)
         ·rw [if_neg c18] at H
          have c18b0 : decide (x9_2 < (l2.length : Int)) = false := decide_eq_false c18;clear c18;simp only [Option.some.injEq,Prod.mk.injEq] at H;obtain ⟨rfl,rfl⟩ := H
          go_wp2
          go_ret2
          exact ⟨_,by first | rfl | (simp [errW_none,errW_some] <;> rfl) | (simp only [← hji13];first | rfl | (simp [errW_none,errW_some] <;> rfl)) | (simp [*,errW_none,errW_some] <;> rfl),rR HO_8,rW HB⟩
      ·rw [if_neg c15] at H
       exact absurd H (by simp)
     ·rw [if_neg c14] at H
      exact absurd H (by simp)
end Go.Proofs.Ytbhfleilgjonpaa.XScalarComes
