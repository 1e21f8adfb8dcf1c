import Derived.Test.YtbhfleilgjonpaaSXShort
import Derived.Test.YtbhfleilgjonpaaSXScalarComesx0
import Derived.Test.YtbhfleilgjonpaaSXScalarComesx10
namespace Go.Proofs.Ytbhfleilgjonpaa.XScalarComes
open Go.RowKit Go.Proofs.YtbhfleilgjonpaaW.PrintWords Go.Proofs.YtbhfleilgjonpaaW.PrintLast Go.Proofs.YtbhfleilgjonpaaW.PrintMore
attribute [local go_sem] max2_int min2_int max_two min_two max_three min_three max_four min_four
set_option linter.unusedVariables false
set_option linter.unusedSimpArgs false
def trefoilref03_Good.f (a0 : Int) : Option (Bool) := if a0 ≥ 1 then (some (decide (a0 ≤ 64))) else (some false)
set_option maxHeartbeats 8000000 in
set_option maxRecDepth 100000 in
theorem trefoilref03_Good.calls (a0 : Int) (r : Bool) (w : World) (h : trefoilref03_Good.f a0 = some r) :
  Calls Try.prog 73 #[.int .i64 a0] w fun e w' => e = .returned (.bool r) ∧ Drawn0 w w' := by
 have H : (if a0 ≥ 1 then (some (decide (a0 ≤ 64))) else (some false)) = some r := h;clear h
 by_cases c2 : a0 ≥ 1
 ·rw [if_pos c2] at H
  have c2b0 : decide (1 ≤ a0) = true := decide_eq_true c2;clear c2;obtain rfl := Option.some.inj H
  go_enter Try.func73,Try.ntmps73
  go_wp2
  go_ret
  exact ⟨by first | rfl | (simp;done) | (simp [*];done),by repeat (first | exact Drawn0.refl _ | apply Drawn0.step)⟩
 ·rw [if_neg c2] at H
  have c2b0 : decide (1 ≤ a0) = false := decide_eq_false c2;clear c2;obtain rfl := Option.some.inj H
  go_enter Try.func73,Try.ntmps73
  go_wp2
  go_ret
  exact ⟨by first | rfl | (simp;done) | (simp [*];done),by repeat (first | exact Drawn0.refl _ | apply Drawn0.step)⟩
def trefoilref03_Sized.f (a0 : Int) (a1 : Int) : Option (Bool) := if a0 ≥ 1 then (if a0 ≤ 6 then (if a1 ≥ 1 then (some (decide (a1 ≤ 6))) else (some false)) else (some false)) else (some false)
set_option maxHeartbeats 8000000 in
set_option maxRecDepth 100000 in
theorem trefoilref03_Sized.calls (a0 : Int) (a1 : Int) (r : Bool) (w : World) (h : trefoilref03_Sized.f a0 a1 = some r) :
  Calls Try.prog 74 #[.int .i64 a0,.int .i64 a1] w fun e w' => e = .returned (.bool r) ∧ Drawn0 w w' := by
 have H : (if a0 ≥ 1 then (if a0 ≤ 6 then (if a1 ≥ 1 then (some (decide (a1 ≤ 6))) else (some false)) else (some false)) else (some false)) = some r := h;clear h
 by_cases c3 : a0 ≥ 1
 ·rw [if_pos c3] at H
  have c3b0 : decide (1 ≤ a0) = true := decide_eq_true c3;clear c3
  by_cases c4 : a0 ≤ 6
  ·rw [if_pos c4] at H
   have c4b0 : decide (a0 ≤ 6) = true := decide_eq_true c4;clear c4
   by_cases c5 : a1 ≥ 1
   ·rw [if_pos c5] at H
    have c5b0 : decide (1 ≤ a1) = true := decide_eq_true c5;clear c5;obtain rfl := Option.some.inj H
    go_enter Try.func74,Try.ntmps74
    go_wp2
    go_ret
    exact ⟨by first | rfl | (simp;done) | (simp [*];done),by repeat (first | exact Drawn0.refl _ | apply Drawn0.step)⟩
   ·rw [if_neg c5] at H
    have c5b0 : decide (1 ≤ a1) = false := decide_eq_false c5;clear c5;obtain rfl := Option.some.inj H
    go_enter Try.func74,Try.ntmps74
    go_wp2
    go_ret
    exact ⟨by first | rfl | (simp;done) | (simp [*];done),by repeat (first | exact Drawn0.refl _ | apply Drawn0.step)⟩
  ·rw [if_neg c4] at H
   have c4b0 : decide (a0 ≤ 6) = false := decide_eq_false c4;clear c4;obtain rfl := Option.some.inj H
   go_enter Try.func74,Try.ntmps74
   go_wp2
   go_ret
   exact ⟨by first | rfl | (simp;done) | (simp [*];done),by repeat (first | exact Drawn0.refl _ | apply Drawn0.step)⟩
 ·rw [if_neg c3] at H
  have c3b0 : decide (1 ≤ a0) = false := decide_eq_false c3;clear c3;obtain rfl := Option.some.inj H
  go_enter Try.func74,Try.ntmps74
  go_wp2
  go_ret
  exact ⟨by first | rfl | (simp;done) | (simp [*];done),by repeat (first | exact Drawn0.refl _ | apply Drawn0.step)⟩
mutual
def trefoilref03_Mul.l0 : Nat → Int → Int → Int → Int → Int → Option (Int)
 | 0,_,_,_,_,_ => none
 | k + 1,x0,x1,x2,x7,x8 => if x8 < 64 then (trefoilref03_Mul.j1 k x0 x1 x2 x7 x8 (decide (x8 < x0))) else (trefoilref03_Mul.j1 k x0 x1 x2 x7 x8 false)
def trefoilref03_Mul.j1 : Nat → Int → Int → Int → Int → Int → Bool → Option (Int)
 | 0,_,_,_,_,_,_ => none
 | k + 1,x0,x1,x2,x7,x8,x15 => if x15 = true then (if 0 ≤ (IntKind.u64.wrap (x8)) then (if (Int.tmod (shr .u64 x2 (IntKind.u64.wrap (x8))) 2) = 1 then ((trefoilref03_Add.f k x0 x7 x1).bind fun t494 => ((trefoilref03_Add.f k 64 x1 x1).bind fun t495 => (trefoilref03_Mul.l0 k x0 t495 x2 t494 (wrap64 (x8 + 1))))) else ((trefoilref03_Add.f k 64 x1 x1).bind fun t496 => (trefoilref03_Mul.l0 k x0 t496 x2 x7 (wrap64 (x8 + 1))))) else (none)) else (some x7)
end
def trefoilref03_Mul.f (k : Nat) (a0 : Int) (a1 : Int) (a2 : Int) : Option (Int) := trefoilref03_Mul.l0 k a0 a1 a2 0 0
theorem trefoilref03_Mul.mono_l : ∀ k,(∀ y0 y1 y2 y3 y4,LeO (trefoilref03_Mul.l0 k y0 y1 y2 y3 y4) (trefoilref03_Mul.l0 (k + 1) y0 y1 y2 y3 y4)) ∧ (∀ y0 y1 y2 y3 y4 y5,LeO (trefoilref03_Mul.j1 k y0 y1 y2 y3 y4 y5) (trefoilref03_Mul.j1 (k + 1) y0 y1 y2 y3 y4 y5))
 | 0 => ⟨fun _ _ _ _ _ r h => by simp [trefoilref03_Mul.l0] at h,fun _ _ _ _ _ _ r h => by simp [trefoilref03_Mul.j1] at h⟩
 | k + 1 => by
  obtain ⟨ih0,ih1⟩ := trefoilref03_Mul.mono_l k;refine ⟨?_,?_⟩
  ·intro y0 y1 y2 y3 y4
   unfold trefoilref03_Mul.l0
   repeat' first | (with_reducible first | exact ih0 _ _ _ _ _ | exact ih1 _ _ _ _ _ _ | exact trefoilref03_Add.mono _ _ _ _ | exact LeO.refl _ | exact LeO.none _ | refine LeO.ite ?_ ?_ | refine LeO.bind ?_ (fun _ => ?_)) | exact LeO.none _ | refine LeO.ite ?_ ?_ | refine LeO.bind ?_ (fun _ => ?_)
  ·intro y0 y1 y2 y3 y4 y5
   unfold trefoilref03_Mul.j1
   repeat' first | (with_reducible first | exact ih0 _ _ _ _ _ | exact ih1 _ _ _ _ _ _ | exact trefoilref03_Add.mono _ _ _ _ | exact LeO.refl _ | exact LeO.none _ | refine LeO.ite ?_ ?_ | refine LeO.bind ?_ (fun _ => ?_)) | exact LeO.none _ | refine LeO.ite ?_ ?_ | refine LeO.bind ?_ (fun _ => ?_)
theorem trefoilref03_Mul.mono : ∀ a0 a1 a2 k,LeO (trefoilref03_Mul.f k a0 a1 a2) (trefoilref03_Mul.f (k + 1) a0 a1 a2) := by
 intro a0 a1 a2 k;obtain ⟨ih0,ih1⟩ := trefoilref03_Mul.mono_l k;unfold trefoilref03_Mul.f
 repeat' first | (with_reducible first | exact ih0 _ _ _ _ _ | exact ih1 _ _ _ _ _ _ | exact trefoilref03_Add.mono _ _ _ _ | exact LeO.refl _ | exact LeO.none _ | refine LeO.ite ?_ ?_ | refine LeO.bind ?_ (fun _ => ?_)) | exact LeO.none _ | refine LeO.ite ?_ ?_ | refine LeO.bind ?_ (fun _ => ?_)
set_option maxHeartbeats 8000000 in
set_option maxRecDepth 100000 in
theorem trefoilref03_Mul.calls (k : Nat) (a0 : Int) (a1 : Int) (a2 : Int) (r : Int) (w : World) (h : trefoilref03_Mul.f k a0 a1 a2 = some r) :
  Calls Try.prog 85 #[.int .i64 a0,.int .u64 a1,.int .u64 a2] w fun e w' => e = .returned (.int .u64 r) ∧ Drawn0 w w' := by
 have H : (trefoilref03_Mul.l0 k a0 a1 a2 0 0) = some r := h;clear h;have H' := Aside0.mk H;clear H
 go_enter Try.func85,Try.ntmps85
 go_wp2
 go_loopg [1,7,8] k (fun kq v1 v7 v8 w' => ∃ (x1_1 : Int) (x7_1 : Int) (x8_1 : Int),v1 = .int .u64 x1_1 ∧ v7 = .int .u64 x7_1 ∧ v8 = .int .i64 x8_1 ∧ Aside0 (trefoilref03_Mul.l0 kq a0 x1_1 a2 x7_1 x8_1 = some r) ∧ Aside0 (kq ≤ k) ∧ Drawn0 w w')
 case atStart => exact ⟨(a1),(0),(0),(by first | rfl | (simp;done) | (simp [*];done)),(by first | rfl | (simp;done) | (simp [*];done)),(by first | rfl | (simp;done) | (simp [*];done)),H',⟨Nat.le_refl _⟩,by repeat (first | exact Drawn0.refl _ | apply Drawn0.step)⟩
 case round =>
  clear H'
  try clear p2
  obtain ⟨x1_1,x7_1,x8_1,rfl,rfl,rfl,HA,HK1,⟨m1,rfl⟩⟩ := hrel
  cases gk with
  | zero => exact absurd HA.out (by simp [trefoilref03_Mul.l0])
  | succ k1 =>
   have H := HA.out;clear HA;simp only [trefoilref03_Mul.l0] at H;have HC4 := Aside0.mk H;clear H
   go_upto_region 3 with (fail)
   go_cut [15] (fun v15 wc => ∃ (kq : Nat) (x15_3 : Bool),v15 = .bool x15_3 ∧ Aside0 (trefoilref03_Mul.j1 kq a0 x1_1 a2 x7_1 x8_1 x15_3 = some r) ∧ Aside0 (kq ≤ k1) ∧ Drawn0 w wc)
   case first =>
    have H := HC4.out;clear HC4
    by_cases c5 : x8_1 < 64
    ·rw [if_pos c5] at H
     have c5b0 : decide (x8_1 < 64) = true := decide_eq_true c5;clear c5;(first | rw [c5b0] | (simp only [i64_w,i32_w];rw [c5b0]) | skip);have H' := Aside0.mk H;clear H
     go_wp2
     go_meet
     case rel => exact ⟨_,(decide (x8_1 < a0)),(by first | rfl | (simp;done) | (simp [*];done)),H',⟨by have := HK1.out;first | omega | exact Nat.le_refl _⟩,by repeat (first | exact Drawn0.refl _ | apply Drawn0.step)⟩
    ·rw [if_neg c5] at H
     have c5b0 : decide (x8_1 < 64) = false := decide_eq_false c5;clear c5;(first | rw [c5b0] | (simp only [i64_w,i32_w];rw [c5b0]) | skip);have H' := Aside0.mk H;clear H
     go_wp2
     go_meet
     case rel => exact ⟨_,(false),(by first | rfl | (simp;done) | (simp [*];done)),H',⟨by have := HK1.out;first | omega | exact Nat.le_refl _⟩,by repeat (first | exact Drawn0.refl _ | apply Drawn0.step)⟩
   case rest =>
    clear HC4
    try clear p2
    try clear c5
    try clear c5b0
    try clear p2
    obtain ⟨kq,x15_3,rfl,HA,HJ3,⟨mc3,rfl⟩⟩ := hcut
    cases kq with
    | zero => exact absurd HA.out (by simp [trefoilref03_Mul.j1])
    | succ kj3 =>
     have H := HA.out;clear HA;simp only [trefoilref03_Mul.j1] at H
     by_cases c6 : x15_3 = true
     ·subst c6
      have H1 : (if 0 ≤ (IntKind.u64.wrap (x8_1)) then (if (Int.tmod (shr .u64 a2 (IntKind.u64.wrap (x8_1))) 2) = 1 then ((trefoilref03_Add.f kj3 a0 x7_1 x1_1).bind fun t494 => ((trefoilref03_Add.f kj3 64 x1_1 x1_1).bind fun t495 => (trefoilref03_Mul.l0 kj3 a0 t495 a2 t494 (wrap64 (x8_1 + 1))))) else ((trefoilref03_Add.f kj3 64 x1_1 x1_1).bind fun t496 => (trefoilref03_Mul.l0 kj3 a0 t496 a2 x7_1 (wrap64 (x8_1 + 1))))) else (none)) = some r := by rw [if_pos rfl] at H;exact H
      clear H;have H := H1;clear H1;obtain ⟨ji7,hji7⟩ : ∃ j_ : Int,(IntKind.u64.wrap (x8_1)) = j_ := ⟨_,rfl⟩
      replace H : (if 0 ≤ (ji7) then (if (Int.tmod (shr .u64 a2 (ji7)) 2) = 1 then ((trefoilref03_Add.f kj3 a0 x7_1 x1_1).bind fun t494 => ((trefoilref03_Add.f kj3 64 x1_1 x1_1).bind fun t495 => (trefoilref03_Mul.l0 kj3 a0 t495 a2 t494 (wrap64 (x8_1 + 1))))) else ((trefoilref03_Add.f kj3 64 x1_1 x1_1).bind fun t496 => (trefoilref03_Mul.l0 kj3 a0 t496 a2 x7_1 (wrap64 (x8_1 + 1))))) else (none)) = some r := by first | (rw [hji7] at H;exact H) | (simp only [hji7] at H ⊢;exact H)
      by_cases c8 : 0 ≤ (ji7)
      ·rw [if_pos c8] at H
       have c8b0 := eq_true c8;have c8b1 : decide (0 ≤ (ji7)) = true := decide_eq_true c8;clear c8;obtain ⟨ji9,hji9⟩ : ∃ j_ : Int,(shr .u64 a2 (ji7)) = j_ := ⟨_,rfl⟩
       replace H : (if (Int.tmod (ji9) 2) = 1 then ((trefoilref03_Add.f kj3 a0 x7_1 x1_1).bind fun t494 => ((trefoilref03_Add.f kj3 64 x1_1 x1_1).bind fun t495 => (trefoilref03_Mul.l0 kj3 a0 t495 a2 t494 (wrap64 (x8_1 + 1))))) else ((trefoilref03_Add.f kj3 64 x1_1 x1_1).bind fun t496 => (trefoilref03_Mul.l0 kj3 a0 t496 a2 x7_1 (wrap64 (x8_1 + 1))))) = some r := by first | (rw [hji9] at H;exact H) | (simp only [hji9] at H ⊢;exact H)
       have hji9_ : (a2 / 2 ^ min (ji7).toNat 64) = ji9 := hji9;have hji9z : (ji7) ≤ 64 → (a2 / 2 ^ (ji7).toNat) = ji9 := shr_small hji9
       by_cases c10 : (Int.tmod (ji9) 2) = 1
       ·rw [if_pos c10] at H
        have c10b0 : ((Int.tmod (ji9) 2) == 1) = true := beq_iff_eq.mpr c10;have c10b1 : ((Int.tmod (ji9) 2) != 1) = false := bne_eq_false_iff_eq.mpr c10;clear c10;replace H := Option.bind_eq_some_iff.mp H;obtain ⟨t494,A110,H⟩ := H;replace H : ((trefoilref03_Add.f kj3 64 x1_1 x1_1).bind fun t495 => (trefoilref03_Mul.l0 kj3 a0 t495 a2 t494 (wrap64 (x8_1 + 1)))) = some r := H;have A11 := Aside0.mk A110;clear A110;replace H := Option.bind_eq_some_iff.mp H;obtain ⟨t495,A120,H⟩ := H;replace H : (trefoilref03_Mul.l0 kj3 a0 t495 a2 t494 (wrap64 (x8_1 + 1))) = some r := H;have A12 := Aside0.mk A120;clear A120;have H' := Aside0.mk H;clear H
        go_wp2_with (first | ((with_reducible refine gate_callee (f := 14) rfl ?_);refine gL (some 27) Try.func14 #[.int .i64 a0,.int .u64 x7_1,.int .u64 x1_1] ?_;(with_reducible refine (trefoilref03_Add.calls kj3 a0 x7_1 x1_1 t494 _ A11.out).mono ?_);rintro e w' ⟨rfl,⟨nd,rfl⟩⟩;refine ⟨_,rfl,?_⟩) | ((with_reducible refine gate_callee (f := 14) rfl ?_);refine gL (some 30) Try.func14 #[.int .i64 64,.int .u64 x1_1,.int .u64 x1_1] ?_;(with_reducible refine (trefoilref03_Add.calls kj3 64 x1_1 x1_1 t495 _ A12.out).mono ?_);rintro e w' ⟨rfl,⟨nd,rfl⟩⟩;refine ⟨_,rfl,?_⟩))
        go_roundg kj3
        case measure => have := HK1.out;have := HJ3.out;omega
        case rel => exact ⟨(t495),(t494),(wrap64 (x8_1 + 1)),(by first | rfl | (simp;done) | (simp [*];done)),(by first | rfl | (simp;done) | (simp [*];done)),(by first | rfl | (simp;done) | (simp [*];done)),H',⟨by have := HK1.out;have := HJ3.out;omega⟩,by repeat (first | exact Drawn0.refl _ | apply Drawn0.step)⟩
       ·rw [if_neg c10] at H
        have c10b0 : ((Int.tmod (ji9) 2) == 1) = false := beq_eq_false_iff_ne.mpr c10;have c10b1 : ((Int.tmod (ji9) 2) != 1) = true := bne_iff_ne.mpr c10;replace H := Option.bind_eq_some_iff.mp H;obtain ⟨t496,A130,H⟩ := H;replace H : (trefoilref03_Mul.l0 kj3 a0 t496 a2 x7_1 (wrap64 (x8_1 + 1))) = some r := H;have A13 := Aside0.mk A130;clear A130;have H' := Aside0.mk H;clear H
        go_wp2_with (first | ((with_reducible refine gate_callee (f := 14) rfl ?_);refine gL (some 30) Try.func14 #[.int .i64 64,.int .u64 x1_1,.int .u64 x1_1] ?_;(with_reducible refine (trefoilref03_Add.calls kj3 64 x1_1 x1_1 t496 _ A13.out).mono ?_);rintro e w' ⟨rfl,⟨nd,rfl⟩⟩;refine ⟨_,rfl,?_⟩))
        go_roundg kj3
        case measure => have := HK1.out;have := HJ3.out;omega
        case rel => exact ⟨(t496),(x7_1),(wrap64 (x8_1 + 1)),(by first | rfl | (simp;done) | (simp [*];done)),(by first | rfl | (simp;done) | (simp [*];done)),(by first | rfl | (simp;done) | (simp [*];done)),H',⟨by have := HK1.out;have := HJ3.out;omega⟩,by repeat (first | exact Drawn0.refl _ | apply Drawn0.step)⟩
      ·rw [if_neg c8] at H
       exact absurd H (by simp)
     ·replace c6 := Bool.eq_false_iff.mpr c6
      subst c6
      have H1 : (some x7_1) = some r := by rw [if_neg (show ¬ (false = true) by decide)] at H;exact H
      clear H;have H := H1;clear H1;obtain rfl := Option.some.inj H
      go_wp2
      go_ret
      exact ⟨by first | rfl | (simp;done) | (simp [*];done),by repeat (first | exact Drawn0.refl _ | apply Drawn0.step)⟩
def trefoilref03_Dot.l0 : Nat → Int → List Int → List Int → Int → Int → Option (Int × Int)
 | 0,_,_,_,_,_ => none
 | k + 1,x0,x1,x2,x8,x9 => if x9 < (x1.length : Int) then (if 0 ≤ x9 then (if x9 < (x2.length : Int) then ((trefoilref03_Mul.f k x0 (rd x1 x9) (rd x2 x9)).bind fun t499 => ((trefoilref03_Add.f k x0 x8 t499).bind fun t500 => (trefoilref03_Dot.l0 k x0 x1 x2 t500 (wrap64 (x9 + 1))))) else (none)) else (none)) else (some (x8,0))
def trefoilref03_Dot.f (k : Nat) (a0 : Int) (l1 : List Int) (l2 : List Int) : Option (Int × Int) := if (l1.length : Int) = (l2.length : Int) then (trefoilref03_Dot.l0 k a0 l1 l2 0 0) else (some (0,11))
theorem trefoilref03_Dot.mono_l : ∀ k,(∀ y0 y1 y2 y3 y4,LeO (trefoilref03_Dot.l0 k y0 y1 y2 y3 y4) (trefoilref03_Dot.l0 (k + 1) y0 y1 y2 y3 y4))
 | 0 => fun _ _ _ _ _ r h => by simp [trefoilref03_Dot.l0] at h
 | k + 1 => by
  have ih0 := trefoilref03_Dot.mono_l k
  ·intro y0 y1 y2 y3 y4
   unfold trefoilref03_Dot.l0
   repeat' first | (with_reducible first | exact ih0 _ _ _ _ _ | exact trefoilref03_Add.mono _ _ _ _ | exact trefoilref03_Mul.mono _ _ _ _ | exact LeO.refl _ | exact LeO.none _ | refine LeO.ite ?_ ?_ | refine LeO.bind ?_ (fun _ => ?_)) | exact LeO.none _ | refine LeO.ite ?_ ?_ | refine LeO.bind ?_ (fun _ => ?_)
theorem trefoilref03_Dot.mono : ∀ a0 a1 a2 k,LeO (trefoilref03_Dot.f k a0 a1 a2) (trefoilref03_Dot.f (k + 1) a0 a1 a2) := by
 intro a0 a1 a2 k;have ih0 := trefoilref03_Dot.mono_l k;unfold trefoilref03_Dot.f
 repeat' first | (with_reducible first | exact ih0 _ _ _ _ _ | exact trefoilref03_Add.mono _ _ _ _ | exact trefoilref03_Mul.mono _ _ _ _ | exact LeO.refl _ | exact LeO.none _ | refine LeO.ite ?_ ?_ | refine LeO.bind ?_ (fun _ => ?_)) | exact LeO.none _ | refine LeO.ite ?_ ?_ | refine LeO.bind ?_ (fun _ => ?_)
set_option maxHeartbeats 8000000 in
set_option maxRecDepth 100000 in
theorem trefoilref03_Dot.calls (k : Nat) (a0 : Int) (A1 : Option Addr) (c1 : Nat) (l1 : List Int) (A2 : Option Addr) (c2 : Nat) (l2 : List Int) (r1 : Int) (r2 : Int) (w : World) (hr1 : Kd.C (Kd.int .u64) w A1 l1.length l1) (hc1 : l1.length ≤ c1) (hr2 : Kd.C (Kd.int .u64) w A2 l2.length l2) (hc2 : l2.length ≤ c2) (h : trefoilref03_Dot.f k a0 l1 l2 = some (r1,r2)) :
  Calls Try.prog 75 #[.int .i64 a0,.slice A1 l1.length c1,.slice A2 l2.length c2] w fun e w' => e = .returned (.tuple #[.int .u64 r1,.int .i64 r2]) ∧ Drawn0 w w' := by
 have HR1 := Aside0.mk hr1;have HC1 := Aside0.mk hc1;clear hr1 hc1;have HR2 := Aside0.mk hr2;have HC2 := Aside0.mk hc2;clear hr2 hc2;have H : (if (l1.length : Int) = (l2.length : Int) then (trefoilref03_Dot.l0 k a0 l1 l2 0 0) else (some (0,11))) = some (r1,r2) := h;clear h
 by_cases c4 : (l1.length : Int) = (l2.length : Int)
 ·rw [if_pos c4] at H
  have c4b0 : ((l1.length : Int) == (l2.length : Int)) = true := beq_iff_eq.mpr c4;have c4b1 : ((l1.length : Int) != (l2.length : Int)) = false := bne_eq_false_iff_eq.mpr c4
  have c4b2 : (l1.length == l2.length) = true := by first | simpa using c4 | (simp at c4 ⊢;omega)
  clear c4;have H' := Aside0.mk H;clear H
  go_enter Try.func75,Try.ntmps75
  go_wp2
  repeat (go_quiet (fail);try go_wp2)
  go_loopg [8,9] k (fun kq v8 v9 w' => ∃ (x8_1 : Int) (x9_1 : Int),v8 = .int .u64 x8_1 ∧ v9 = .int .i64 x9_1 ∧ Aside0 (trefoilref03_Dot.l0 kq a0 l1 l2 x8_1 x9_1 = some (r1,r2)) ∧ Aside0 (kq ≤ k) ∧ Drawn0 w w')
  case atStart => exact ⟨(0),(0),(by first | rfl | (simp;done) | (simp [*];done)),(by first | rfl | (simp;done) | (simp [*];done)),H',⟨Nat.le_refl _⟩,by repeat (first | exact Drawn0.refl _ | apply Drawn0.step)⟩
  case round =>
   clear H'
   try clear c1
   try clear c2
   try clear p2
   try clear c4
   try clear c4b0
   try clear c4b1
   try clear c4b2
   obtain ⟨x8_1,x9_1,rfl,rfl,HA,HK1,⟨m1,rfl⟩⟩ := hrel
   cases gk with
   | zero => exact absurd HA.out (by simp [trefoilref03_Dot.l0])
   | succ k1 =>
    have H := HA.out;clear HA;simp only [trefoilref03_Dot.l0] at H
    by_cases c5 : x9_1 < (l1.length : Int)
    ·rw [if_pos c5] at H
     have c5b0 : decide (x9_1 < (l1.length : Int)) = true := decide_eq_true c5;clear c5
     by_cases c6 : 0 ≤ x9_1
     ·rw [if_pos c6] at H
      have c6b0 : decide (0 ≤ x9_1) = true := decide_eq_true c6;clear c6
      by_cases c7 : x9_1 < (l2.length : Int)
      ·rw [if_pos c7] at H
       have c7b0 : decide (x9_1 < (l2.length : Int)) = true := decide_eq_true c7;clear c7;replace H := Option.bind_eq_some_iff.mp H;obtain ⟨t499,A80,H⟩ := H;replace H : ((trefoilref03_Add.f k1 a0 x8_1 t499).bind fun t500 => (trefoilref03_Dot.l0 k1 a0 l1 l2 t500 (wrap64 (x9_1 + 1)))) = some (r1,r2) := H;have A8 := Aside0.mk A80;clear A80;replace H := Option.bind_eq_some_iff.mp H;obtain ⟨t500,A90,H⟩ := H;replace H : (trefoilref03_Dot.l0 k1 a0 l1 l2 t500 (wrap64 (x9_1 + 1))) = some (r1,r2) := H;have A9 := Aside0.mk A90;clear A90;have H' := Aside0.mk H;clear H;have p497 : 0 ≤ (x9_1 : Int) := of_decide_eq_true (by first | (with_reducible assumption) | assumption);have q497 : x9_1 < (l1.length : Int) := of_decide_eq_true (by first | (with_reducible assumption) | assumption);obtain ⟨ad497,e497,hx497_0⟩ := Kd.at_int HR1.out x9_1 p497 q497
       cases e497
       replace p497 := eq_true p497;replace q497 := eq_true q497;have p498 : 0 ≤ (x9_1 : Int) := of_decide_eq_true (by first | (with_reducible assumption) | assumption);have q498 : x9_1 < (l2.length : Int) := of_decide_eq_true (by first | (with_reducible assumption) | assumption);obtain ⟨ad498,e498,hx498_0⟩ := Kd.at_int HR2.out x9_1 p498 q498
       cases e498
       replace p498 := eq_true p498;replace q498 := eq_true q498
       go_wp2_with (first | (go_at_call 85;(with_reducible refine (trefoilref03_Mul.calls k1 a0 (rd l1 x9_1) (rd l2 x9_1) t499 _ A8.out).mono ?_);rintro e w' ⟨rfl,⟨nd,rfl⟩⟩;(try first | exact ⟨rfl,_,World.drewN_drewN _ _ _⟩ | exact ⟨rfl,_,Eq.trans (World.drewN_drewN _ _ _) (congrArg (World.drewN _) (Nat.add_assoc _ _ _))⟩)) | (go_at_call 14;(with_reducible refine (trefoilref03_Add.calls k1 a0 x8_1 t499 t500 _ A9.out).mono ?_);rintro e w' ⟨rfl,⟨nd,rfl⟩⟩;(try first | exact ⟨rfl,_,World.drewN_drewN _ _ _⟩ | exact ⟨rfl,_,Eq.trans (World.drewN_drewN _ _ _) (congrArg (World.drewN _) (Nat.add_assoc _ _ _))⟩)))
       repeat (go_quiet (first | (go_at_call 85;(with_reducible refine (trefoilref03_Mul.calls k1 a0 (rd l1 x9_1) (rd l2 x9_1) t499 _ A8.out).mono ?_);rintro e w' ⟨rfl,⟨nd,rfl⟩⟩;(try first | exact ⟨rfl,_,World.drewN_drewN _ _ _⟩ | exact ⟨rfl,_,Eq.trans (World.drewN_drewN _ _ _) (congrArg (World.drewN _) (Nat.add_assoc _ _ _))⟩)) | (go_at_call 14;(with_reducible refine (trefoilref03_Add.calls k1 a0 x8_1 t499 t500 _ A9.out).mono ?_);rintro e w' ⟨rfl,⟨nd,rfl⟩⟩;(try first | exact ⟨rfl,_,World.drewN_drewN _ _ _⟩ | exact ⟨rfl,_,Eq.trans (World.drewN_drewN _ _ _) (congrArg (World.drewN _) (Nat.add_assoc _ _ _))⟩)));try go_wp2_with (first | (go_at_call 85;(with_reducible refine (trefoilref03_Mul.calls k1 a0 (rd l1 x9_1) (rd l2 x9_1) t499 _ A8.out).mono ?_);rintro e w' ⟨rfl,⟨nd,rfl⟩⟩;(try first | exact ⟨rfl,_,World.drewN_drewN _ _ _⟩ | exact ⟨rfl,_,Eq.trans (World.drewN_drewN _ _ _) (congrArg (World.drewN _) (Nat.add_assoc _ _ _))⟩)) | (go_at_call 14;(with_reducible refine (trefoilref03_Add.calls k1 a0 x8_1 t499 t500 _ A9.out).mono ?_);rintro e w' ⟨rfl,⟨nd,rfl⟩⟩;(try first | exact ⟨rfl,_,World.drewN_drewN _ _ _⟩ | exact ⟨rfl,_,Eq.trans (World.drewN_drewN _ _ _) (congrArg (World.drewN _) (Nat.add_assoc _ _ _))⟩))))
       go_roundg k1
       case measure => have := HK1.out;omega
       case rel => exact ⟨(t500),(wrap64 (x9_1 + 1)),(by first | rfl | (simp;done) | (simp [*];done)),(by first | rfl | (simp;done) | (simp [*];done)),H',⟨by have := HK1.out;omega⟩,by repeat (first | exact Drawn0.refl _ | apply Drawn0.step)⟩
      ·rw [if_neg c7] at H
       exact absurd H (by simp)
     ·rw [if_neg c6] at H
      exact absurd H (by simp)
    ·rw [if_neg c5] at H
     have c5b0 : decide (x9_1 < (l1.length : Int)) = false := decide_eq_false c5;clear c5;simp only [Option.some.injEq,Prod.mk.injEq] at H;obtain ⟨rfl,rfl⟩ := H
     go_wp2
     repeat (go_quiet (fail);try go_wp2)
     go_ret2
     exact ⟨by first | rfl | (simp;done) | (simp [*];done),by repeat (first | exact Drawn0.refl _ | apply Drawn0.step)⟩
 ·rw [if_neg c4] at H
  have c4b0 : ((l1.length : Int) == (l2.length : Int)) = false := beq_eq_false_iff_ne.mpr c4;have c4b1 : ((l1.length : Int) != (l2.length : Int)) = true := bne_iff_ne.mpr c4
  have c4b2 : (l1.length == l2.length) = false := by first | simpa using c4 | (simp at c4 ⊢;omega)
  simp only [Option.some.injEq,Prod.mk.injEq] at H;obtain ⟨rfl,rfl⟩ := H
  go_enter Try.func75,Try.ntmps75
  go_wp2
  repeat (go_quiet (fail);try go_wp2)
  go_ret2
  exact ⟨by first | rfl | (simp;done) | (simp [*];done),by repeat (first | exact Drawn0.refl _ | apply Drawn0.step)⟩
mutual
def trefoilref03_MatMul.j0 : Nat → Int → Int → Int → Int → List Int → List Int → Bool → Option (List Int × Int)
 | 0,_,_,_,_,_,_,_ => none
 | k + 1,x0,x1,x2,x3,x4,x5,x51 => if x51 = true then (some (([] : List Int),11)) else (trefoilref03_MatMul.l0 k x0 x1 x2 x3 x4 x5 ([] : List Int) 0)
def trefoilref03_MatMul.l0 : Nat → Int → Int → Int → Int → List Int → List Int → List Int → Int → Option (List Int × Int)
 | 0,_,_,_,_,_,_,_,_ => none
 | k + 1,x0,x1,x2,x3,x4,x5,x14,x15 => if x15 < x1 then (trefoilref03_MatMul.l1 k x0 x1 x2 x3 x4 x5 x14 x15 0) else (some (x14,0))
def trefoilref03_MatMul.l1 : Nat → Int → Int → Int → Int → List Int → List Int → List Int → Int → Int → Option (List Int × Int)
 | 0,_,_,_,_,_,_,_,_,_ => none
 | k + 1,x0,x1,x2,x3,x4,x5,x14,x15,x16 => if x16 < x3 then (trefoilref03_MatMul.l2 k x0 x1 x2 x3 x4 x5 x14 x15 x16 ([] : List Int) 0) else (trefoilref03_MatMul.l0 k x0 x1 x2 x3 x4 x5 x14 (wrap64 (x15 + 1)))
def trefoilref03_MatMul.l2 : Nat → Int → Int → Int → Int → List Int → List Int → List Int → Int → Int → List Int → Int → Option (List Int × Int)
 | 0,_,_,_,_,_,_,_,_,_,_,_ => none
 | k + 1,x0,x1,x2,x3,x4,x5,x14,x15,x16,x17,x18 => if x18 < x2 then (if 0 ≤ (wrap64 ((wrap64 (x18 * x3)) + x16)) then (if (wrap64 ((wrap64 (x18 * x3)) + x16)) < (x5.length : Int) then (if x17.length < 17592186044416 then (trefoilref03_MatMul.l2 k x0 x1 x2 x3 x4 x5 x14 x15 x16 (x17 ++ [rd x5 (wrap64 ((wrap64 (x18 * x3)) + x16))]) (wrap64 (x18 + 1))) else (none)) else (none)) else (none)) else (if 0 ≤ (wrap64 (x15 * x2)) then (if (wrap64 (x15 * x2)) ≤ (wrap64 ((wrap64 (x15 * x2)) + x2)) then (if (wrap64 ((wrap64 (x15 * x2)) + x2)) ≤ (x4.length : Int) then ((trefoilref03_Dot.f k x0 ((x4.take ((wrap64 ((wrap64 (x15 * x2)) + x2)) : Int).toNat).drop ((wrap64 (x15 * x2)) : Int).toNat) x17).bind fun bt509 => (if x14.length < 17592186044416 then (trefoilref03_MatMul.l1 k x0 x1 x2 x3 x4 x5 (x14 ++ [bt509.1]) x15 (wrap64 (x16 + 1))) else (none))) else (none)) else (none)) else (none))
end
def trefoilref03_MatMul.f (k : Nat) (a0 : Int) (a1 : Int) (a2 : Int) (a3 : Int) (l4 : List Int) (l5 : List Int) : Option (List Int × Int) := (trefoilref03_Good.f a0).bind fun t501 => (if t501 = true then ((trefoilref03_Sized.f a1 a2).bind fun t502 => (if t502 = true then ((trefoilref03_Sized.f a2 a3).bind fun t503 => (if t503 = true then (if (l4.length : Int) = (wrap64 (a1 * a2)) then (trefoilref03_MatMul.j0 k a0 a1 a2 a3 l4 l5 ((l5.length : Int) != (wrap64 (a2 * a3)))) else (trefoilref03_MatMul.j0 k a0 a1 a2 a3 l4 l5 true)) else (trefoilref03_MatMul.j0 k a0 a1 a2 a3 l4 l5 true))) else (trefoilref03_MatMul.j0 k a0 a1 a2 a3 l4 l5 true))) else (trefoilref03_MatMul.j0 k a0 a1 a2 a3 l4 l5 true))
theorem trefoilref03_MatMul.mono_l : ∀ k,(∀ y0 y1 y2 y3 y4 y5 y6,LeO (trefoilref03_MatMul.j0 k y0 y1 y2 y3 y4 y5 y6) (trefoilref03_MatMul.j0 (k + 1) y0 y1 y2 y3 y4 y5 y6)) ∧ (∀ y0 y1 y2 y3 y4 y5 y6 y7,LeO (trefoilref03_MatMul.l0 k y0 y1 y2 y3 y4 y5 y6 y7) (trefoilref03_MatMul.l0 (k + 1) y0 y1 y2 y3 y4 y5 y6 y7)) ∧ (∀ y0 y1 y2 y3 y4 y5 y6 y7 y8,LeO (trefoilref03_MatMul.l1 k y0 y1 y2 y3 y4 y5 y6 y7 y8) (trefoilref03_MatMul.l1 (k + 1) y0 y1 y2 y3 y4 y5 y6 y7 y8)) ∧ (∀ y0 y1 y2 y3 y4 y5 y6 y7 y8 y9 y10,LeO (trefoilref03_MatMul.l2 k y0 y1 y2 y3 y4 y5 y6 y7 y8 y9 y10) (trefoilref03_MatMul.l2 (k + 1) y0 y1 y2 y3 y4 y5 y6 y7 y8 y9 y10))
 | 0 => ⟨fun _ _ _ _ _ _ _ r h => by simp [trefoilref03_MatMul.j0] at h,fun _ _ _ _ _ _ _ _ r h => by simp [trefoilref03_MatMul.l0] at h,fun _ _ _ _ _ _ _ _ _ r h => by simp [trefoilref03_MatMul.l1] at h,fun _ _ _ _ _ _ _ _ _ _ _ r h => by simp [trefoilref03_MatMul.l2] at h⟩
 | k + 1 => by
  obtain ⟨ih0,ih1,ih2,ih3⟩ := trefoilref03_MatMul.mono_l k;refine ⟨?_,?_,?_,?_⟩
  ·intro y0 y1 y2 y3 y4 y5 y6
   unfold trefoilref03_MatMul.j0
   repeat' first | (with_reducible first | exact ih0 _ _ _ _ _ _ _ | exact ih1 _ _ _ _ _ _ _ _ | exact ih2 _ _ _ _ _ _ _ _ _ | exact ih3 _ _ _ _ _ _ _ _ _ _ _ | exact trefoilref03_Dot.mono _ _ _ _ | exact LeO.refl _ | exact LeO.none _ | refine LeO.ite ?_ ?_ | refine LeO.bind ?_ (fun _ => ?_)) | exact LeO.none _ | refine LeO.ite ?_ ?_ | refine LeO.bind ?_ (fun _ => ?_)
  ·intro y0 y1 y2 y3 y4 y5 y6 y7
   unfold trefoilref03_MatMul.l0
   repeat' first | (with_reducible first | exact ih0 _ _ _ _ _ _ _ | exact ih1 _ _ _ _ _ _ _ _ | exact ih2 _ _ _ _ _ _ _ _ _ | exact ih3 _ _ _ _ _ _ _ _ _ _ _ | exact trefoilref03_Dot.mono _ _ _ _ | exact LeO.refl _ | exact LeO.none _ | refine LeO.ite ?_ ?_ | refine LeO.bind ?_ (fun _ => ?_)) | exact LeO.none _ | refine LeO.ite ?_ ?_ | refine LeO.bind ?_ (fun _ => ?_)
  ·intro y0 y1 y2 y3 y4 y5 y6 y7 y8
   unfold trefoilref03_MatMul.l1
   repeat' first | (with_reducible first | exact ih0 _ _ _ _ _ _ _ | exact ih1 _ _ _ _ _ _ _ _ | exact ih2 _ _ _ _ _ _ _ _ _ | exact ih3 _ _ _ _ _ _ _ _ _ _ _ | exact trefoilref03_Dot.mono _ _ _ _ | exact LeO.refl _ | exact LeO.none _ | refine LeO.ite ?_ ?_ | refine LeO.bind ?_ (fun _ => ?_)) | exact LeO.none _ | refine LeO.ite ?_ ?_ | refine LeO.bind ?_ (fun _ => ?_)
  ·intro y0 y1 y2 y3 y4 y5 y6 y7 y8 y9 y10
   unfold trefoilref03_MatMul.l2
   repeat' first | (with_reducible first | exact ih0 _ _ _ _ _ _ _ | exact ih1 _ _ _ _ _ _ _ _ | exact ih2 _ _ _ _ _ _ _ _ _ | exact ih3 _ _ _ _ _ _ _ _ _ _ _ | exact trefoilref03_Dot.mono _ _ _ _ | exact LeO.refl _ | exact LeO.none _ | refine LeO.ite ?_ ?_ | refine LeO.bind ?_ (fun _ => ?_)) | exact LeO.none _ | refine LeO.ite ?_ ?_ | refine LeO.bind ?_ (fun _ => ?_)
theorem trefoilref03_MatMul.mono : ∀ a0 a1 a2 a3 a4 a5 k,LeO (trefoilref03_MatMul.f k a0 a1 a2 a3 a4 a5) (trefoilref03_MatMul.f (k + 1) a0 a1 a2 a3 a4 a5) := by
 intro a0 a1 a2 a3 a4 a5 k;obtain ⟨ih0,ih1,ih2,ih3⟩ := trefoilref03_MatMul.mono_l k;unfold trefoilref03_MatMul.f
 repeat' first | (with_reducible first | exact ih0 _ _ _ _ _ _ _ | exact ih1 _ _ _ _ _ _ _ _ | exact ih2 _ _ _ _ _ _ _ _ _ | exact ih3 _ _ _ _ _ _ _ _ _ _ _ | exact trefoilref03_Dot.mono _ _ _ _ | exact LeO.refl _ | exact LeO.none _ | refine LeO.ite ?_ ?_ | refine LeO.bind ?_ (fun _ => ?_)) | exact LeO.none _ | refine LeO.ite ?_ ?_ | refine LeO.bind ?_ (fun _ => ?_)
set_option maxHeartbeats 8000000 in
set_option maxRecDepth 100000 in
theorem trefoilref03_MatMul.calls (k : Nat) (a0 : Int) (a1 : Int) (a2 : Int) (a3 : Int) (A4 : Option Addr) (c4 : Nat) (l4 : List Int) (A5 : Option Addr) (c5 : Nat) (l5 : List Int) (r1 : List Int) (r2 : Int) (w : World) (hr4 : Kd.C (Kd.int .u64) w A4 l4.length l4) (hc4 : l4.length ≤ c4) (hr5 : Kd.C (Kd.int .u64) w A5 l5.length l5) (hc5 : l5.length ≤ c5) (h : trefoilref03_MatMul.f k a0 a1 a2 a3 l4 l5 = some (r1,r2)) :
  Calls Try.prog 46 #[.int .i64 a0,.int .i64 a1,.int .i64 a2,.int .i64 a3,.slice A4 l4.length c4,.slice A5 l5.length c5] w fun e w' => ∃ v0_ : Value,e = .returned (.tuple #[v0_,.int .i64 r2]) ∧ Kd.R (Kd.int .u64) 32 w' w.heap.size (fun _ => True) v0_ r1 ∧ Below w.heap.size w w' := by
 have HR4 := Aside0.mk hr4;have HC4 := Aside0.mk hc4;clear hr4 hc4;have HR5 := Aside0.mk hr5;have HC5 := Aside0.mk hc5;clear hr5 hc5;have HB := Aside0.mk (Below.refl w.heap.size w);have H : ((trefoilref03_Good.f a0).bind fun t501 => (if t501 = true then ((trefoilref03_Sized.f a1 a2).bind fun t502 => (if t502 = true then ((trefoilref03_Sized.f a2 a3).bind fun t503 => (if t503 = true then (if (l4.length : Int) = (wrap64 (a1 * a2)) then (trefoilref03_MatMul.j0 k a0 a1 a2 a3 l4 l5 ((l5.length : Int) != (wrap64 (a2 * a3)))) else (trefoilref03_MatMul.j0 k a0 a1 a2 a3 l4 l5 true)) else (trefoilref03_MatMul.j0 k a0 a1 a2 a3 l4 l5 true))) else (trefoilref03_MatMul.j0 k a0 a1 a2 a3 l4 l5 true))) else (trefoilref03_MatMul.j0 k a0 a1 a2 a3 l4 l5 true))) = some (r1,r2) := h;clear h;have HC7 := Aside0.mk H;clear H
 go_enter Try.func46,Try.ntmps46
 go_upto_region 1 with (fail)
 go_cut [51] (fun v51 wc => ∃ (kq : Nat) (x51_6 : Bool),v51 = .bool x51_6 ∧ Aside0 (trefoilref03_MatMul.j0 kq a0 a1 a2 a3 l4 l5 x51_6 = some (r1,r2)) ∧ Aside0 (kq ≤ k) ∧ Aside0 (Below w.heap.size w wc))
 case first =>
  have H := HC7.out;clear HC7;replace H := Option.bind_eq_some_iff.mp H;obtain ⟨t501,A80,H⟩ := H;replace H : (if t501 = true then ((trefoilref03_Sized.f a1 a2).bind fun t502 => (if t502 = true then ((trefoilref03_Sized.f a2 a3).bind fun t503 => (if t503 = true then (if (l4.length : Int) = (wrap64 (a1 * a2)) then (trefoilref03_MatMul.j0 k a0 a1 a2 a3 l4 l5 ((l5.length : Int) != (wrap64 (a2 * a3)))) else (trefoilref03_MatMul.j0 k a0 a1 a2 a3 l4 l5 true)) else (trefoilref03_MatMul.j0 k a0 a1 a2 a3 l4 l5 true))) else (trefoilref03_MatMul.j0 k a0 a1 a2 a3 l4 l5 true))) else (trefoilref03_MatMul.j0 k a0 a1 a2 a3 l4 l5 true)) = some (r1,r2) := H;have A8 := Aside0.mk A80;clear A80
  by_cases c9 : t501 = true
  ·subst c9
   have H1 : ((trefoilref03_Sized.f a1 a2).bind fun t502 => (if t502 = true then ((trefoilref03_Sized.f a2 a3).bind fun t503 => (if t503 = true then (if (l4.length : Int) = (wrap64 (a1 * a2)) then (trefoilref03_MatMul.j0 k a0 a1 a2 a3 l4 l5 ((l5.length : Int) != (wrap64 (a2 * a3)))) else (trefoilref03_MatMul.j0 k a0 a1 a2 a3 l4 l5 true)) else (trefoilref03_MatMul.j0 k a0 a1 a2 a3 l4 l5 true))) else (trefoilref03_MatMul.j0 k a0 a1 a2 a3 l4 l5 true))) = some (r1,r2) := by rw [if_pos rfl] at H;exact H
   clear H;have H := H1;clear H1;replace H := Option.bind_eq_some_iff.mp H;obtain ⟨t502,A100,H⟩ := H;replace H : (if t502 = true then ((trefoilref03_Sized.f a2 a3).bind fun t503 => (if t503 = true then (if (l4.length : Int) = (wrap64 (a1 * a2)) then (trefoilref03_MatMul.j0 k a0 a1 a2 a3 l4 l5 ((l5.length : Int) != (wrap64 (a2 * a3)))) else (trefoilref03_MatMul.j0 k a0 a1 a2 a3 l4 l5 true)) else (trefoilref03_MatMul.j0 k a0 a1 a2 a3 l4 l5 true))) else (trefoilref03_MatMul.j0 k a0 a1 a2 a3 l4 l5 true)) = some (r1,r2) := H;have A10 := Aside0.mk A100;clear A100
   by_cases c11 : t502 = true
   ·subst c11
    have H1 : ((trefoilref03_Sized.f a2 a3).bind fun t503 => (if t503 = true then (if (l4.length : Int) = (wrap64 (a1 * a2)) then (trefoilref03_MatMul.j0 k a0 a1 a2 a3 l4 l5 ((l5.length : Int) != (wrap64 (a2 * a3)))) else (trefoilref03_MatMul.j0 k a0 a1 a2 a3 l4 l5 true)) else (trefoilref03_MatMul.j0 k a0 a1 a2 a3 l4 l5 true))) = some (r1,r2) := by rw [if_pos rfl] at H;exact H
    clear H;have H := H1;clear H1;replace H := Option.bind_eq_some_iff.mp H;obtain ⟨t503,A120,H⟩ := H;replace H : (if t503 = true then (if (l4.length : Int) = (wrap64 (a1 * a2)) then (trefoilref03_MatMul.j0 k a0 a1 a2 a3 l4 l5 ((l5.length : Int) != (wrap64 (a2 * a3)))) else (trefoilref03_MatMul.j0 k a0 a1 a2 a3 l4 l5 true)) else (trefoilref03_MatMul.j0 k a0 a1 a2 a3 l4 l5 true)) = some (r1,r2) := H;have A12 := Aside0.mk A120;clear A120
    by_cases c13 : t503 = true
    ·subst c13
     have H1 : (if (l4.length : Int) = (wrap64 (a1 * a2)) then (trefoilref03_MatMul.j0 k a0 a1 a2 a3 l4 l5 ((l5.length : Int) != (wrap64 (a2 * a3)))) else (trefoilref03_MatMul.j0 k a0 a1 a2 a3 l4 l5 true)) = some (r1,r2) := by rw [if_pos rfl] at H;exact H
     clear H;have H := H1;clear H1
     by_cases c14 : (l4.length : Int) = (wrap64 (a1 * a2))
     ·rw [if_pos c14] at H
      have c14b0 : ((l4.length : Int) == (wrap64 (a1 * a2))) = true := beq_iff_eq.mpr c14;have c14b1 : ((l4.length : Int) != (wrap64 (a1 * a2))) = false := bne_eq_false_iff_eq.mpr c14;clear c14;(first | rw [c14b0] | (simp only [i64_w,i32_w];rw [c14b0]) | skip);have H' := Aside0.mk H;clear H
      go_wp2_with (first | ((with_reducible refine gate_callee (f := 73) rfl ?_);refine gL (some 22) Try.func73 #[.int .i64 a0] ?_;(with_reducible refine (trefoilref03_Good.calls a0 true _ A8.out).mono ?_);rintro e w' ⟨rfl,⟨nd,rfl⟩⟩;refine ⟨_,rfl,?_⟩) | (go_at_call 74;(with_reducible refine (trefoilref03_Sized.calls a1 a2 true _ A10.out).mono ?_);rintro e w' ⟨rfl,⟨nd,rfl⟩⟩) | (go_at_call 74;(with_reducible refine (trefoilref03_Sized.calls a2 a3 true _ A12.out).mono ?_);rintro e w' ⟨rfl,⟨nd,rfl⟩⟩))
      go_meet
      case rel => exact ⟨_,(((l5.length : Int) != (wrap64 (a2 * a3)))),(by first | rfl | (simp;done) | (simp [*];done)),H',⟨by first | omega | exact Nat.le_refl _⟩,⟨rW HB⟩⟩
     ·rw [if_neg c14] at H
      have c14b0 : ((l4.length : Int) == (wrap64 (a1 * a2))) = false := beq_eq_false_iff_ne.mpr c14;have c14b1 : ((l4.length : Int) != (wrap64 (a1 * a2))) = true := bne_iff_ne.mpr c14;(first | rw [c14b0] | (simp only [i64_w,i32_w];rw [c14b0]) | skip);have H' := Aside0.mk H;clear H
      go_wp2_with (first | ((with_reducible refine gate_callee (f := 73) rfl ?_);refine gL (some 22) Try.func73 #[.int .i64 a0] ?_;(with_reducible refine (trefoilref03_Good.calls a0 true _ A8.out).mono ?_);rintro e w' ⟨rfl,⟨nd,rfl⟩⟩;refine ⟨_,rfl,?_⟩) | (go_at_call 74;(with_reducible refine (trefoilref03_Sized.calls a1 a2 true _ A10.out).mono ?_);rintro e w' ⟨rfl,⟨nd,rfl⟩⟩) | (go_at_call 74;(with_reducible refine (trefoilref03_Sized.calls a2 a3 true _ A12.out).mono ?_);rintro e w' ⟨rfl,⟨nd,rfl⟩⟩))
      go_meet
      case rel => exact ⟨_,(true),(by first | rfl | (simp;done) | (simp [*];done)),H',⟨by first | omega | exact Nat.le_refl _⟩,⟨rW HB⟩⟩
    ·replace c13 := Bool.eq_false_iff.mpr c13
     subst c13
     have H1 : (trefoilref03_MatMul.j0 k a0 a1 a2 a3 l4 l5 true) = some (r1,r2) := by rw [if_neg (show ¬ (false = true) by decide)] at H;exact H
     clear H;have H := H1;clear H1;have H' := Aside0.mk H;clear H
     go_wp2_with (first | ((with_reducible refine gate_callee (f := 73) rfl ?_);refine gL (some 22) Try.func73 #[.int .i64 a0] ?_;(with_reducible refine (trefoilref03_Good.calls a0 true _ A8.out).mono ?_);rintro e w' ⟨rfl,⟨nd,rfl⟩⟩;refine ⟨_,rfl,?_⟩) | (go_at_call 74;(with_reducible refine (trefoilref03_Sized.calls a1 a2 true _ A10.out).mono ?_);rintro e w' ⟨rfl,⟨nd,rfl⟩⟩) | (go_at_call 74;(with_reducible refine (trefoilref03_Sized.calls a2 a3 false _ A12.out).mono ?_);rintro e w' ⟨rfl,⟨nd,rfl⟩⟩))
     go_meet
     case rel => exact ⟨_,(true),(by first | rfl | (simp;done) | (simp [*];done)),H',⟨by first | omega | exact Nat.le_refl _⟩,⟨rW HB⟩⟩
   ·replace c11 := Bool.eq_false_iff.mpr c11
    subst c11
    have H1 : (trefoilref03_MatMul.j0 k a0 a1 a2 a3 l4 l5 true) = some (r1,r2) := by rw [if_neg (show ¬ (false = true) by decide)] at H;exact H
    clear H;have H := H1;clear H1;have H' := Aside0.mk H;clear H
    go_wp2_with (first | ((with_reducible refine gate_callee (f := 73) rfl ?_);refine gL (some 22) Try.func73 #[.int .i64 a0] ?_;(with_reducible refine (trefoilref03_Good.calls a0 true _ A8.out).mono ?_);rintro e w' ⟨rfl,⟨nd,rfl⟩⟩;refine ⟨_,rfl,?_⟩) | (go_at_call 74;(with_reducible refine (trefoilref03_Sized.calls a1 a2 false _ A10.out).mono ?_);rintro e w' ⟨rfl,⟨nd,rfl⟩⟩))
    go_meet
    case rel => exact ⟨_,(true),(by first | rfl | (simp;done) | (simp [*];done)),H',⟨by first | omega | exact Nat.le_refl _⟩,⟨rW HB⟩⟩
  ·replace c9 := Bool.eq_false_iff.mpr c9
   subst c9
   have H1 : (trefoilref03_MatMul.j0 k a0 a1 a2 a3 l4 l5 true) = some (r1,r2) := by rw [if_neg (show ¬ (false = true) by decide)] at H;exact H
   clear H;have H := H1;clear H1;have H' := Aside0.mk H;clear H
   go_wp2_with (first | ((with_reducible refine gate_callee (f := 73) rfl ?_);refine gL (some 22) Try.func73 #[.int .i64 a0] ?_;(with_reducible refine (trefoilref03_Good.calls a0 false _ A8.out).mono ?_);rintro e w' ⟨rfl,⟨nd,rfl⟩⟩;refine ⟨_,rfl,?_⟩))
   go_meet
   case rel => exact ⟨_,(true),(by first | rfl | (simp;done) | (simp [*];done)),H',⟨by first | omega | exact Nat.le_refl _⟩,⟨rW HB⟩⟩
 case rest =>
  clear HC7
  try clear c1
  try clear p2
  try clear c4
  try clear c5
  try clear p6
  try clear c7
  try clear c9
  try clear c11
  try clear c13
  try clear c14
  try clear c14b0
  try clear c14b1
  obtain ⟨kq,x51_6,rfl,HA,HJ6,HB⟩ := hcut
  cases kq with
  | zero => exact absurd HA.out (by simp [trefoilref03_MatMul.j0])
  | succ kj6 =>
   have H := HA.out;clear HA;simp only [trefoilref03_MatMul.j0] at H
   by_cases c15 : x51_6 = true
   ·subst c15
    have H1 : (some (([] : List Int),11)) = some (r1,r2) := by rw [if_pos rfl] at H;exact H
    clear H;have H := H1;clear H1;simp only [Option.some.injEq,Prod.mk.injEq] at H;obtain ⟨rfl,rfl⟩ := H
    go_wp2
    go_ret2
    exact ⟨_,by first | rfl | (simp [errW_none,errW_some] <;> rfl) | (simp [*,errW_none,errW_some] <;> rfl),by first | exact Kd.R_nil _ _ _ _ _ | exact Kd.N_nil _ _ _ _ _ | exact Kd.V_nil _ _ _ _ _ | exact Kd.Q_nil _ _ _ _ _ | exact Kd.S_nil _ _ _ _ _,rW HB⟩
   ·replace c15 := Bool.eq_false_iff.mpr c15
    subst c15
    have H1 : (trefoilref03_MatMul.l0 kj6 a0 a1 a2 a3 l4 l5 ([] : List Int) 0) = some (r1,r2) := by rw [if_neg (show ¬ (false = true) by decide)] at H;exact H
    clear H;have H := H1;clear H1;have H' := Aside0.mk H;clear H
    go_wp2
    go_loopg [14,15] kj6 (fun kq v14 v15 w' => ∃ (x14_2 : List Int) (x15_2 : Int),v15 = .int .i64 x15_2 ∧ Aside0 (trefoilref03_MatMul.l0 kq a0 a1 a2 a3 l4 l5 x14_2 x15_2 = some (r1,r2)) ∧ Aside0 (kq ≤ kj6) ∧ Aside0 (Kd.R (Kd.int .u64) 32 w' w.heap.size (fun _ => True) v14 x14_2) ∧ Aside0 (Below w.heap.size w w'))
    case atStart => exact ⟨(([] : List Int)),(0),(by first | rfl | (simp;done) | (simp [*];done)),H',⟨Nat.le_refl _⟩,⟨by first | exact Kd.R_nil _ _ _ _ _ | exact Kd.N_nil _ _ _ _ _ | exact Kd.V_nil _ _ _ _ _ | exact Kd.Q_nil _ _ _ _ _ | exact Kd.S_nil _ _ _ _ _⟩,⟨rW HB⟩⟩
    case round =>
     clear H'
     try clear c1
     try clear p2
     try clear c4
     try clear c5
     try clear p6
     try clear c7
     try clear c9
     try clear c11
     try clear c13
     try clear c14
     try clear c14b0
     try clear c14b1
     try clear c15
     try clear p2
     try clear p6
     obtain ⟨x14_2,x15_2,rfl,HA,HK2,HO_14,HB⟩ := hrel
     cases gk with
     | zero => exact absurd HA.out (by simp [trefoilref03_MatMul.l0])
     | succ k2 =>
      have H := HA.out;clear HA;simp only [trefoilref03_MatMul.l0] at H
      by_cases c16 : x15_2 < a1
      ·rw [if_pos c16] at H
       have c16b0 : decide (x15_2 < a1) = true := decide_eq_true c16;clear c16;have H' := Aside0.mk H;clear H
       go_wp2
       go_loopg [14,16] k2 (fun kq v14 v16 w' => ∃ (x14_3 : List Int) (x16_3 : Int),v16 = .int .i64 x16_3 ∧ Aside0 (trefoilref03_MatMul.l1 kq a0 a1 a2 a3 l4 l5 x14_3 x15_2 x16_3 = some (r1,r2)) ∧ Aside0 (kq ≤ k2) ∧ Aside0 (Kd.R (Kd.int .u64) 32 w' w.heap.size (fun _ => True) v14 x14_3) ∧ Aside0 (Below w.heap.size w w'))
       case atStart => exact ⟨(x14_2),(0),(by first | rfl | (simp;done) | (simp [*];done)),H',⟨Nat.le_refl _⟩,⟨rR HO_14⟩,⟨rW HB⟩⟩
       case round =>
        clear H'
        try clear c1
        try clear p2
        try clear c4
        try clear c5
        try clear p6
        try clear c7
        try clear c9
        try clear c11
        try clear c13
        try clear c14
        try clear c14b0
        try clear c14b1
        try clear c15
        try clear c16
        try clear c16b0
        try clear p2
        try clear p6
        obtain ⟨x14_3,x16_3,rfl,HA,HK3,HO_14,HB⟩ := hrel
        cases gk with
        | zero => exact absurd HA.out (by simp [trefoilref03_MatMul.l1])
        | succ k3 =>
         have H := HA.out;clear HA;simp only [trefoilref03_MatMul.l1] at H
         by_cases c17 : x16_3 < a3
         ·rw [if_pos c17] at H
          have c17b0 : decide (x16_3 < a3) = true := decide_eq_true c17;clear c17;have H' := Aside0.mk H;clear H
          go_wp2
          go_loopg [17,18] k3 (fun kq v17 v18 w' => ∃ (x17_4 : List Int) (x18_4 : Int),v18 = .int .i64 x18_4 ∧ Aside0 (trefoilref03_MatMul.l2 kq a0 a1 a2 a3 l4 l5 x14_3 x15_2 x16_3 x17_4 x18_4 = some (r1,r2)) ∧ Aside0 (kq ≤ k3) ∧ Aside0 (Kd.R (Kd.int .u64) 32 w' w.heap.size (fun k_ => some k_ ≠ (v17 : Value).ownBlock) u14 x14_3) ∧ Aside0 (Kd.R (Kd.int .u64) 32 w' w.heap.size (fun k_ => some k_ ≠ (u14 : Value).ownBlock) v17 x17_4) ∧ Aside0 (Below w.heap.size w w'))
          case atStart => exact ⟨(([] : List Int)),(0),(by first | rfl | (simp;done) | (simp [*];done)),H',⟨Nat.le_refl _⟩,⟨by (with_reducible repeat (first | apply Kd.R_alloc | apply Kd.R_drewN | apply Kd.R_drew));exact Kd.R_mono HO_14.out (fun _ hk => (by simp [Value.ownBlock]))⟩,⟨by first | exact Kd.R_nil _ _ _ _ _ | exact Kd.N_nil _ _ _ _ _ | exact Kd.V_nil _ _ _ _ _ | exact Kd.Q_nil _ _ _ _ _ | exact Kd.S_nil _ _ _ _ _⟩,⟨rW HB⟩⟩
          case round =>
           clear H'
           try clear c1
           try clear p2
           try clear c4
           try clear c5
           try clear p6
           try clear c7
           try clear c9
           try clear c11
           try clear c13
           try clear c14
           try clear c14b0
           try clear c14b1
           try clear c15
           try clear c16
           try clear c16b0
           try clear c17
           try clear c17b0
           try clear p2
           try clear p6
           obtain ⟨x17_4,x18_4,rfl,HA,HK4,HO_14,HO_17,HB⟩ := hrel
           cases gk with
           | zero => exact absurd HA.out (by simp [trefoilref03_MatMul.l2])
           | succ k4 =>
            have H := HA.out;clear HA;simp only [trefoilref03_MatMul.l2] at H
            by_cases c18 : x18_4 < a2
            ·rw [if_pos c18] at H
             have c18b0 : decide (x18_4 < a2) = true := decide_eq_true c18;clear c18;obtain ⟨ji19,hji19⟩ : ∃ j_ : Int,(wrap64 ((wrap64 (x18_4 * a3)) + x16_3)) = j_ := ⟨_,rfl⟩
             replace H : (if 0 ≤ (ji19) then (if (ji19) < (l5.length : Int) then (if x17_4.length < 17592186044416 then (trefoilref03_MatMul.l2 k4 a0 a1 a2 a3 l4 l5 x14_3 x15_2 x16_3 (x17_4 ++ [rd l5 (ji19)]) (wrap64 (x18_4 + 1))) else (none)) else (none)) else (none)) = some (r1,r2) := by first | (rw [hji19] at H;exact H) | (simp only [hji19] at H ⊢;exact H)
             have hji19w : (IntKind.i64.wrap ((wrap64 (x18_4 * a3)) + x16_3)) = ji19 := (i64_w _).trans hji19
             by_cases c20 : 0 ≤ (ji19)
             ·rw [if_pos c20] at H
              have c20b0 : decide (0 ≤ (ji19)) = true := decide_eq_true c20;clear c20
              by_cases c21 : (ji19) < (l5.length : Int)
              ·rw [if_pos c21] at H
               have c21b0 : decide ((ji19) < (l5.length : Int)) = true := decide_eq_true c21;clear c21
               by_cases c22 : x17_4.length < 17592186044416
               ·rw [if_pos c22] at H
                have LMc22 := Aside0.mk c22;clear c22;obtain ⟨y505,hy505⟩ : ∃ y_ : List Int,y_ = (x17_4 ++ [rd l5 (ji19)]) := ⟨_,rfl⟩;replace H : (trefoilref03_MatMul.l2 k4 a0 a1 a2 a3 l4 l5 x14_3 x15_2 x16_3 y505 (wrap64 (x18_4 + 1))) = some (r1,r2) := rY hy505 H;have Ny505 := Aside0.mk hy505;clear hy505;have H' := Aside0.mk H;clear H;have p504 : 0 ≤ ((ji19) : Int) := of_decide_eq_true (by first | (with_reducible assumption) | assumption);have q504 : (ji19) < (l5.length : Int) := of_decide_eq_true (by first | (with_reducible assumption) | assumption);obtain ⟨ad504,e504,hx504_0⟩ := Kd.at_int HR5.out (ji19) p504 q504
                cases e504
                replace hx504_0 := (HB.out.cell (World.block_lt_of_cell? w _ hx504_0)).trans hx504_0;replace p504 := eq_true p504;replace q504 := eq_true q504
                go_wp2_with (first | ((with_reducible refine gate_builtin (b := .append) (xs := #[.tmp 67,.tmp 76]) rfl ?_);(try (refine gate_guard (by rfl) ?_;dsimp only));at_builtin;refine Kd.R_append (Kd.int .u64) (w0 := w) w.heap.size rfl (.tmp 67) (.tmp 76) 23 32 (.int .u64 0) 8 rfl Try.underlying23 info32 rfl (by decide) (by omega) u17 x17_4 (rd l5 (ji19)) [.int .u64 (rd l5 (ji19))] (fun k_ => some k_ ≠ (u14 : Value).ownBlock) (fun _ => False) rfl rfl ?aP (fun _ hk => hk.elim) ?aF ?aO ?aB ?aS ?aL ?_;(case aP => exact rfl);(case aB => exact (rW HB));(case aF => exact (fun k_ hk => Kd.fresh' (Kd.R_lt (rR HO_14)) k_ hk));(case aO => exact (rR HO_17));(case aS => exact (below_size (rW HB)));(case aL => have := LMc22.out;omega);intro v506 w23 ho hb hg hat;rw [← Ny505.out] at ho;replace HO_14 := Aside0.mk (Kd.R_after (ok := (fun _ => True)) (by (with_reducible repeat (first | apply Kd.R_alloc | apply Kd.R_drewN | apply Kd.R_drew));exact Kd.R_mono HO_14.out (fun _ hk => ⟨trivial,hk⟩)) hg hat);replace HB := Aside0.mk (hb);have HO507 := Aside0.mk (ho);clear HO_17;clear ho hb hg hat))
                go_roundg k4
                case measure => have := HJ6.out;have := HK2.out;have := HK3.out;have := HK4.out;omega
                case rel => exact ⟨(y505),(wrap64 (x18_4 + 1)),(by first | rfl | (simp;done) | (simp [*];done)),H',⟨by have := HJ6.out;have := HK2.out;have := HK3.out;have := HK4.out;omega⟩,⟨by (with_reducible repeat (first | apply Kd.R_alloc | apply Kd.R_drewN | apply Kd.R_drew));exact Kd.R_mono HO_14.out (fun _ hk => hk.2)⟩,⟨rR HO507⟩,⟨rW HB⟩⟩
               ·rw [if_neg c22] at H
                exact absurd H (by simp)
              ·rw [if_neg c21] at H
               exact absurd H (by simp)
             ·rw [if_neg c20] at H
              exact absurd H (by simp)
            ·rw [if_neg c18] at H
             have c18b0 : decide (x18_4 < a2) = false := decide_eq_false c18;clear c18;obtain ⟨ji24,hji24⟩ : ∃ j_ : Int,(wrap64 (x15_2 * a2)) = j_ := ⟨_,rfl⟩
             replace H : (if 0 ≤ (ji24) then (if (ji24) ≤ (wrap64 ((ji24) + a2)) then (if (wrap64 ((ji24) + a2)) ≤ (l4.length : Int) then ((trefoilref03_Dot.f k4 a0 ((l4.take ((wrap64 ((ji24) + a2)) : Int).toNat).drop ((ji24) : Int).toNat) x17_4).bind fun bt509 => (if x14_3.length < 17592186044416 then (trefoilref03_MatMul.l1 k4 a0 a1 a2 a3 l4 l5 (x14_3 ++ [bt509.1]) x15_2 (wrap64 (x16_3 + 1))) else (none))) else (none)) else (none)) else (none)) = some (r1,r2) := by first | (rw [hji24] at H;exact H) | (simp only [hji24] at H ⊢;exact H)
             have hji24w : (IntKind.i64.wrap (x15_2 * a2)) = ji24 := (i64_w _).trans hji24
             by_cases c25 : 0 ≤ (ji24)
             ·rw [if_pos c25] at H
              have c25b0 := eq_true c25;have c25b1 : decide (0 ≤ (ji24)) = true := decide_eq_true c25;clear c25
              by_cases c26 : (ji24) ≤ (wrap64 ((ji24) + a2))
              ·rw [if_pos c26] at H
               have c26b0 := eq_true c26;have c26b1 : decide ((ji24) ≤ (wrap64 ((ji24) + a2))) = true := decide_eq_true c26
               by_cases c27 : (wrap64 ((ji24) + a2)) ≤ (l4.length : Int)
               ·rw [if_pos c27] at H
                have c27b0 := eq_true c27;have c27b1 : decide ((wrap64 ((ji24) + a2)) ≤ (l4.length : Int)) = true := decide_eq_true c27;replace H := Option.bind_eq_some_iff.mp H;obtain ⟨⟨t509,t510⟩,A280,H⟩ := H;replace H : (if x14_3.length < 17592186044416 then (trefoilref03_MatMul.l1 k4 a0 a1 a2 a3 l4 l5 (x14_3 ++ [t509]) x15_2 (wrap64 (x16_3 + 1))) else (none)) = some (r1,r2) := H;have A28 := Aside0.mk A280;clear A280
                by_cases c29 : x14_3.length < 17592186044416
                ·rw [if_pos c29] at H
                 have LMc29 := Aside0.mk c29;clear c29;obtain ⟨y511,hy511⟩ : ∃ y_ : List Int,y_ = (x14_3 ++ [t509]) := ⟨_,rfl⟩;replace H : (trefoilref03_MatMul.l1 k4 a0 a1 a2 a3 l4 l5 y511 x15_2 (wrap64 (x16_3 + 1))) = some (r1,r2) := rY hy511 H;have Ny511 := Aside0.mk hy511;clear hy511;have H' := Aside0.mk H;clear H;obtain ⟨i030,hi030,_,hsz30,_⟩ := info_parts info32;obtain ⟨A30,hcut30,hA30,hC30⟩ := print_mid_of (P := Try.prog) (Value.int .u64) 0 23 32 .i64 .i64 Try.underlying23 hi030 hsz30 A4 c4 l4 (ji24) (wrap64 ((ji24) + a2)) (of_decide_eq_true (by first | (with_reducible assumption) | assumption)) (by first | omega | exact of_decide_eq_true (by first | (with_reducible assumption) | assumption)) (of_decide_eq_true (by first | (with_reducible assumption) | assumption)) HC4.out;have HR508 := Aside0.mk (Kd.C_of_reads (h1 := fun _ => rfl) (hA30 _ (Kd.reads_of_C HR4.out)));have HC508 := Aside0.mk hC30;clear hA30 hC30 hi030 hsz30;obtain ⟨Ao31,co31,eo31⟩ := Kd.R_slice HO_17.out;subst eo31
                 go_wp2_with (first | ((with_reducible refine gate_callee (f := 75) rfl ?_);refine goesL_ (some 91) rfl rfl Try.func75 (by kernel_rfl) rfl #[.int .i64 a0,.slice A30 ((l4.take ((wrap64 ((ji24) + a2)) : Int).toNat).drop ((ji24) : Int).toNat).length (c4 - (ji24).toNat),.slice Ao31 x17_4.length co31] rfl (by (try simp only [List.map_toArray,List.map_cons,List.map_nil]);first | done | (rw [show ((l4.take ((wrap64 ((ji24) + a2)) : Int).toNat).drop ((ji24) : Int).toNat).length = ((wrap64 ((ji24) + a2)).toNat - (ji24).toNat) from (by rw [List.length_drop,List.length_take];have h_ : ((wrap64 ((ji24) + a2)) : Int) ≤ (l4.length : Int) := of_decide_eq_true (by first | (with_reducible assumption) | assumption);omega)] <;> rfl) | (simp only [hji24];rfl) | rfl | (simp only [List.length_drop,List.length_take];rfl)) ?_;(with_reducible refine (trefoilref03_Dot.calls k4 a0 _ _ ((l4.take ((wrap64 ((ji24) + a2)) : Int).toNat).drop ((ji24) : Int).toNat) _ _ x17_4 t509 t510 _ ?side1 ?side2 ?side3 ?side4 A28.out).mono ?_);(case side1 => exact rC (Kd.C_below HR508.out HB.out));(case side2 => exact HC508.out);(case side3 => exact rC (Kd.R_reads' HO_17.out).2.2);(case side4 => exact (Kd.R_reads' HO_17.out).2.1);rintro e w' ⟨rfl,⟨nd,rfl⟩⟩;refine ⟨_,rfl,?_⟩) | ((with_reducible refine gate_builtin (b := .append) (xs := #[.tmp 94,.tmp 96]) rfl ?_);(try (refine gate_guard (by rfl) ?_;dsimp only));at_builtin;refine Kd.R_append (Kd.int .u64) (w0 := w) w.heap.size rfl (.tmp 94) (.tmp 96) 23 32 (.int .u64 0) 8 rfl Try.underlying23 info32 rfl (by decide) (by omega) u14 x14_3 t509 [.int .u64 t509] (fun k_ => some k_ ≠ (.slice Ao31 x17_4.length co31 : Value).ownBlock) (fun _ => False) rfl rfl ?aP (fun _ hk => hk.elim) ?aF ?aO ?aB ?aS ?aL ?_;(case aP => exact rfl);(case aB => exact (rW HB));(case aF => exact (fun k_ hk => Kd.fresh' (Kd.R_lt (rR HO_17)) k_ hk));(case aO => exact (rR HO_14));(case aS => exact (below_size (rW HB)));(case aL => have := LMc29.out;omega);intro v512 w32 ho hb hg hat;rw [← Ny511.out] at ho;replace HO_17 := Aside0.mk (Kd.R_after (ok := (fun _ => True)) (by (with_reducible repeat (first | apply Kd.R_alloc | apply Kd.R_drewN | apply Kd.R_drew));exact Kd.R_mono HO_17.out (fun _ hk => ⟨trivial,hk⟩)) hg hat);replace HB := Aside0.mk (hb);have HO513 := Aside0.mk (ho);clear HO_14;clear ho hb hg hat))
                 go_roundg k4
                 case measure => have := HJ6.out;have := HK2.out;have := HK3.out;have := HK4.out;omega
                 case rel => exact ⟨(y511),(wrap64 (x16_3 + 1)),(by first | rfl | (simp;done) | (simp [*];done)),H',⟨by have := HJ6.out;have := HK2.out;have := HK3.out;have := HK4.out;omega⟩,⟨by (with_reducible repeat (first | apply Kd.R_alloc | apply Kd.R_drewN | apply Kd.R_drew));exact Kd.R_mono HO513.out (fun _ hk => trivial)⟩,⟨rW HB⟩⟩
                ·rw [if_neg c29] at H
                 exact absurd H (by simp)
               ·rw [if_neg c27] at H
                exact absurd H (by simp)
              ·rw [if_neg c26] at H
               exact absurd H (by simp)
             ·rw [if_neg c25] at H
              exact absurd H (by simp)
         ·rw [if_neg c17] at H
          have c17b0 : decide (x16_3 < a3) = false := decide_eq_false c17;clear c17;have H' := Aside0.mk H;clear H
          go_wp2
          go_roundg k3
          case measure => have := HJ6.out;have := HK2.out;have := HK3.out;omega
          case rel => exact ⟨(x14_3),(wrap64 (x15_2 + 1)),(by first | rfl | (simp;done) | (simp [*];done)),H',⟨by have := HJ6.out;have := HK2.out;have := HK3.out;omega⟩,⟨rR HO_14⟩,⟨rW HB⟩⟩
      ·rw [if_neg c16] at H
       have c16b0 : decide (x15_2 < a1) = false := decide_eq_false c16;clear c16;simp only [Option.some.injEq,Prod.mk.injEq] at H;obtain ⟨rfl,rfl⟩ := H
       go_wp2
       go_ret2
       exact ⟨_,by first | rfl | (simp [errW_none,errW_some] <;> rfl) | (simp [*,errW_none,errW_some] <;> rfl),rR HO_14,rW HB⟩
end Go.Proofs.Ytbhfleilgjonpaa.XScalarComes
