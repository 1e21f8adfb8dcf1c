import Derived.Test.YtbhfleilgjonpaaSXShort
import Derived.Test.YtbhfleilgjonpaaSXScalarComesx0
import Derived.Test.YtbhfleilgjonpaaSXScalarComesx3
import Derived.Test.YtbhfleilgjonpaaSXScalarComesx7
import Derived.Test.YtbhfleilgjonpaaSXScalarComesx8
namespace Go.Proofs.Ytbhfleilgjonpaa.XScalarComes
open Go.RowKit Go.Proofs.YtbhfleilgjonpaaW.PrintWords Go.Proofs.YtbhfleilgjonpaaW.PrintLast Go.Proofs.YtbhfleilgjonpaaW.PrintMore
attribute [local go_sem] max2_int min2_int max_two min_two max_three min_three max_four min_four
set_option linter.unusedVariables false
set_option linter.unusedSimpArgs false
def ring_Scale.l0 : Nat → Int → Int → List Int → List Int → Int → Int → Option (List Int)
 | 0,_,_,_,_,_,_ => none
 | k + 1,x0,x1,x7,x13,x14,x15 => if x15 < x14 then (if 0 ≤ x15 then (if x15 < (x13.length : Int) then ((ring_Mul.f x0 x1 (rd x13 x15)).bind fun t257 => (if x15 < (x7.length : Int) then (ring_Scale.l0 k x0 x1 (x7.set (x15 : Int).toNat t257) x13 x14 (wrap64 (x15 + 1))) else (none))) else (none)) else (none)) else (some x7)
def ring_Scale.f (k : Nat) (a0 : Int) (a1 : Int) (l2 : List Int) : Option (List Int) := if 0 ≤ (l2.length : Int) then (if ((l2.length : Int) : Int).toNat ≤ 35184372088832 then (ring_Scale.l0 k a0 a1 (List.replicate ((l2.length : Int) : Int).toNat 0) l2 (l2.length : Int) 0) else (none)) else (none)
theorem ring_Scale.mono_l : ∀ k,(∀ y0 y1 y2 y3 y4 y5,LeO (ring_Scale.l0 k y0 y1 y2 y3 y4 y5) (ring_Scale.l0 (k + 1) y0 y1 y2 y3 y4 y5))
 | 0 => fun _ _ _ _ _ _ r h => by simp [ring_Scale.l0] at h
 | k + 1 => by
  have ih0 := ring_Scale.mono_l k
  ·intro y0 y1 y2 y3 y4 y5
   unfold ring_Scale.l0
   repeat' first | (with_reducible first | exact ih0 _ _ _ _ _ _ | exact LeO.refl _ | exact LeO.none _ | refine LeO.ite ?_ ?_ | refine LeO.bind ?_ (fun _ => ?_)) | exact LeO.none _ | refine LeO.ite ?_ ?_ | refine LeO.bind ?_ (fun _ => ?_)
theorem ring_Scale.mono : ∀ a0 a1 a2 k,LeO (ring_Scale.f k a0 a1 a2) (ring_Scale.f (k + 1) a0 a1 a2) := by
 intro a0 a1 a2 k;have ih0 := ring_Scale.mono_l k;unfold ring_Scale.f
 repeat' first | (with_reducible first | exact ih0 _ _ _ _ _ _ | exact LeO.refl _ | exact LeO.none _ | refine LeO.ite ?_ ?_ | refine LeO.bind ?_ (fun _ => ?_)) | exact LeO.none _ | refine LeO.ite ?_ ?_ | refine LeO.bind ?_ (fun _ => ?_)
set_option maxHeartbeats 8000000 in
set_option maxRecDepth 100000 in
theorem ring_Scale.calls (k : Nat) (a0 : Int) (a1 : Int) (A2 : Option Addr) (c2 : Nat) (l2 : List Int) (r : List Int) (w : World) (hr2 : Kd.C (Kd.int .u64) w A2 l2.length l2) (hc2 : l2.length ≤ c2) (h : ring_Scale.f k a0 a1 l2 = some r) :
  Calls Try.prog 70 #[.int .i64 a0,.int .u64 a1,.slice A2 l2.length c2] w fun e w' => ∃ v0_ : Value,e = .returned (v0_) ∧ Kd.R (Kd.int .u64) 32 w' w.heap.size (fun _ => True) v0_ r ∧ Below w.heap.size w w' := by
 have HR2 := Aside0.mk hr2;have HC2 := Aside0.mk hc2;clear hr2 hc2;have HB := Aside0.mk (Below.refl w.heap.size w);have H : (if 0 ≤ (l2.length : Int) then (if ((l2.length : Int) : Int).toNat ≤ 35184372088832 then (ring_Scale.l0 k a0 a1 (List.replicate ((l2.length : Int) : Int).toNat 0) l2 (l2.length : Int) 0) else (none)) else (none)) = some r := h;clear h
 by_cases c4 : 0 ≤ (l2.length : Int)
 ·rw [if_pos c4] at H
  have c4b0 := eq_true c4;have c4b1 : decide (0 ≤ (l2.length : Int)) = true := decide_eq_true c4;clear c4
  by_cases c5 : ((l2.length : Int) : Int).toNat ≤ 35184372088832
  ·rw [if_pos c5] at H
   have c5b0 := eq_true c5;have c5b1 : decide (((l2.length : Int) : Int).toNat ≤ 35184372088832) = true := decide_eq_true c5;clear c5;obtain ⟨y253,hy253⟩ : ∃ y_ : List Int,y_ = (List.replicate ((l2.length : Int) : Int).toNat 0) := ⟨_,rfl⟩;replace H : (ring_Scale.l0 k a0 a1 y253 l2 (l2.length : Int) 0) = some r := rY hy253 H;have Ny253 := Aside0.mk hy253;clear hy253;have H' := Aside0.mk H;clear H
   go_enter Try.func70,Try.ntmps70
   go_wp2_with (first | ((with_reducible refine gate_dst (N := 12) rfl ?_);refine Kd.R_make (Kd.int .u64) _ 32 rfl (N := 12) rfl 23 _ _ rfl (l2.length : Int) rfl rfl Try.underlying23 (.int .u64 0) 8 info32 rfl (by decide) (by omega) 0 (ok := fun _ => True) (okp := fun _ => True) rfl (fun _ hk => hk) trivial (of_decide_eq_true (by first | (with_reducible assumption) | assumption)) (Nat.le_trans (Nat.mul_le_mul_right _ (of_decide_eq_true (by first | (with_reducible assumption) | assumption) : (l2.length : Int).toNat ≤ 35184372088832)) (by omega)) (Below.refl _ _) (Nat.le_refl _) ?_;intro v254 w6 ho7 hb hg_ hnew_;clear hg_ hnew_;(first | rw [← Ny253.out] at ho7 | (simp only [Int.reduceToNat] at ho7;rw [← Ny253.out] at ho7));have HO255 := Aside0.mk (Kd.R_lower ho7 (below_size (rW HB)));replace HB := bs HB hb;clear hb ho7))
   go_loopg [15] k (fun kq v15 w' => ∃ (x7_1 : List Int) (x15_1 : Int),v15 = .int .i64 x15_1 ∧ Aside0 (ring_Scale.l0 kq a0 a1 x7_1 l2 (l2.length : Int) x15_1 = some r) ∧ Aside0 (kq ≤ k) ∧ Aside0 (Kd.R (Kd.int .u64) 32 w' w.heap.size (fun _ => True) v254 x7_1) ∧ Aside0 (Below w.heap.size w w'))
   case atStart => exact ⟨(y253),(0),(by first | rfl | (simp;done) | (simp [*];done)),H',⟨Nat.le_refl _⟩,⟨rR HO255⟩,⟨rW HB⟩⟩
   case round =>
    clear H'
    try clear c2
    try clear p2
    try clear c4
    try clear c4b0
    try clear c4b1
    try clear c5
    try clear c5b0
    try clear c5b1
    try clear c7
    obtain ⟨x7_1,x15_1,rfl,HA,HK1,HO_7,HB⟩ := hrel
    cases gk with
    | zero => exact absurd HA.out (by simp [ring_Scale.l0])
    | succ k1 =>
     have H := HA.out;clear HA;simp only [ring_Scale.l0] at H
     by_cases c8 : x15_1 < (l2.length : Int)
     ·rw [if_pos c8] at H
      have c8b0 : decide (x15_1 < (l2.length : Int)) = true := decide_eq_true c8;clear c8
      by_cases c9 : 0 ≤ x15_1
      ·rw [if_pos c9] at H
       have c9b0 : decide (0 ≤ x15_1) = true := decide_eq_true c9;clear c9
       by_cases c10 : x15_1 < (l2.length : Int)
       ·rw [if_pos c10] at H
        have c10b0 : decide (x15_1 < (l2.length : Int)) = true := decide_eq_true c10;clear c10;replace H := Option.bind_eq_some_iff.mp H;obtain ⟨t257,A110,H⟩ := H;replace H : (if x15_1 < (x7_1.length : Int) then (ring_Scale.l0 k1 a0 a1 (x7_1.set (x15_1 : Int).toNat t257) l2 (l2.length : Int) (wrap64 (x15_1 + 1))) else (none)) = some r := H;have A11 := Aside0.mk A110;clear A110
        by_cases c12 : x15_1 < (x7_1.length : Int)
        ·rw [if_pos c12] at H
         have c12b0 : decide (x15_1 < (x7_1.length : Int)) = true := decide_eq_true c12;clear c12;obtain ⟨y258,hy258⟩ : ∃ y_ : List Int,y_ = (x7_1.set (x15_1 : Int).toNat t257) := ⟨_,rfl⟩;replace H : (ring_Scale.l0 k1 a0 a1 y258 l2 (l2.length : Int) (wrap64 (x15_1 + 1))) = some r := rY hy258 H;have Ny258 := Aside0.mk hy258;clear hy258;have H' := Aside0.mk H;clear H;have p256 : 0 ≤ (x15_1 : Int) := of_decide_eq_true (by first | (with_reducible assumption) | assumption);have q256 : x15_1 < (l2.length : Int) := of_decide_eq_true (by first | (with_reducible assumption) | assumption);obtain ⟨ad256,e256,hx256_0⟩ := Kd.at_int HR2.out x15_1 p256 q256
         cases e256
         replace hx256_0 := (HB.out.cell (World.block_lt_of_cell? w _ hx256_0)).trans hx256_0;replace p256 := eq_true p256;replace q256 := eq_true q256
         go_wp2_with (first | ((with_reducible refine gate_callee (f := 36) rfl ?_);refine gL (some 25) Try.func36 #[.int .i64 a0,.int .u64 a1,.int .u64 (rd l2 x15_1)] ?_;(with_reducible refine (ring_Mul.calls a0 a1 (rd l2 x15_1) t257 _ A11.out).mono ?_);rintro e w' ⟨rfl,⟨nd,rfl⟩⟩;refine ⟨_,rfl,?_⟩;(try (rw [drewN_self wr];(try simp only [World.drewN_drewN]);generalize hq_ : World.drewN wr _ = wr;have n0_ : Aside0 (Kd.R (Kd.int .u64) 32 wr w.heap.size (fun _ => True) v254 x7_1) := ⟨by rw [← hq_];exact (rR HO_7)⟩;have n1_ : Aside0 (Below w.heap.size w wr) := ⟨by rw [← hq_];exact (rW HB)⟩;clear HO_7 HB hq_;have HO_7 := n0_;have HB := n1_;clear n0_ n1_));have p13 : 0 ≤ (x15_1 : Int) := of_decide_eq_true (by first | (with_reducible assumption) | assumption);have q13 : (x15_1 : Int) < ((x7_1.length : Int) : Int) := of_decide_eq_true (by first | (with_reducible assumption) | assumption);obtain ⟨go13,co13,eo13,gb13,gl13,cl13,HG13⟩ := Kd.R_form HO_7.out (by omega);(first | cases eo13 | (injection eo13 with ea_ en_ ec_;(first | subst ea_ | (injection ea_ with ea_;subst ea_));subst ec_;clear en_));have GB13 := Aside0.mk gb13;have GG13 := Aside0.mk HG13;clear gb13 gl13 HG13;obtain ⟨hx13_0,hf13_0⟩ := Kd.R_celln 0 HO_7.out (x15_1 : Int) p13 q13;replace p13 := eq_true p13;replace q13 := eq_true q13;obtain ⟨hy14_,hz14_⟩ := Kd.R_celln 0 HO_7.out (x15_1 : Int) (of_decide_eq_true (by first | (with_reducible assumption) | assumption)) (of_decide_eq_true (by first | (with_reducible assumption) | assumption));have HP14 := Kd.R_putg HO_7.out (x15_1 : Int) t257) | ((with_reducible refine gate_store (t := 32) (p := 26) rfl ?_);refine store_event (t := 32) (p := 26) (v := ?vo_w15) (w1 := (wr.setCell ⟨go13,(x15_1 : Int).toNat,none⟩ (.int .u64 t257))) ?hg ?ho ?hn ?hr ?_;(case ho => rfl);(case hg => rfl);(case hn => rfl);(case hr => first | (go_simp;done) | (go_simp;rfl));intro w15 hw;have hg : wr.grownBy w15 (some go13) := (by rw [hw];exact HP14.2);have hp_ : Kd.R (Kd.int .u64) 32 w15 w.heap.size (fun _ => True) (.slice (some ⟨go13,0,none⟩) x7_1.length co13) y258 := (by rw [hw,Ny258.out];exact HP14.1);clear HP14;replace HO_7 := Aside0.mk (hp_);replace HB := Aside0.mk ((by rw [hw];exact below_set (HB.out) GB13.out : Below w.heap.size w w15));clear hg hw hp_))
         go_roundg k1
         case measure => have := HK1.out;omega
         case rel => exact ⟨(y258),(wrap64 (x15_1 + 1)),(by first | rfl | (simp;done) | (simp [*];done)),H',⟨by have := HK1.out;omega⟩,⟨rR HO_7⟩,⟨rW HB⟩⟩
        ·rw [if_neg c12] at H
         exact absurd H (by simp)
       ·rw [if_neg c10] at H
        exact absurd H (by simp)
      ·rw [if_neg c9] at H
       exact absurd H (by simp)
     ·rw [if_neg c8] at H
      have c8b0 : decide (x15_1 < (l2.length : Int)) = false := decide_eq_false c8;clear c8;obtain rfl := Option.some.inj H
      go_wp2
      go_ret
      exact ⟨_,by first | rfl | (simp [errW_none,errW_some] <;> rfl) | (simp [*,errW_none,errW_some] <;> rfl),rR HO_7,rW HB⟩
  ·rw [if_neg c5] at H
   exact absurd H (by simp)
 ·rw [if_neg c4] at H
  exact absurd H (by simp)
mutual
def gilboa_Spread.j0 : Nat → Int → Int → List Int → Bool → Option (List Int × Int)
 | 0,_,_,_,_ => none
 | k + 1,x0,x1,x2,x27 => if x27 = true then (some (([] : List Int),11)) else (if 0 ≤ (wrap64 (x0 * (x2.length : Int))) then (if (wrap64 (x0 * (x2.length : Int)) : Int).toNat ≤ 35184372088832 then (gilboa_Spread.l0 k x0 x1 x2 (([] : List Int)) 0) else (none)) else (none))
def gilboa_Spread.l0 : Nat → Int → Int → List Int → List Int → Int → Option (List Int × Int)
 | 0,_,_,_,_,_ => none
 | k + 1,x0,x1,x2,x8,x9 => if x9 < (x2.length : Int) then (if 0 ≤ x9 then (if x9 ≤ (wrap64 (x9 + x1)) then (if (wrap64 (x9 + x1)) ≤ (x2.length : Int) then (gilboa_Spread.l1 k x0 x1 x2 x8 x9 ((x2.take ((wrap64 (x9 + x1)) : Int).toNat).drop (x9 : Int).toNat) x0 0) else (none)) else (none)) else (none)) else (some (x8,0))
def gilboa_Spread.l1 : Nat → Int → Int → List Int → List Int → Int → List Int → Int → Int → Option (List Int × Int)
 | 0,_,_,_,_,_,_,_,_ => none
 | k + 1,x0,x1,x2,x8,x9,x10,x46,x47 => if x47 < x46 then (if x8.length + x10.length < 17592186044416 then ((ring_Scale.f k x0 2 x10).bind fun t272 => (gilboa_Spread.l1 k x0 x1 x2 (x8 ++ x10) x9 t272 x46 (wrap64 (x47 + 1)))) else (none)) else (gilboa_Spread.l0 k x0 x1 x2 x8 (wrap64 (x9 + x1)))
end
def gilboa_Spread.f (k : Nat) (a0 : Int) (a1 : Int) (l2 : List Int) : Option (List Int × Int) := (gilboa_good.f a0 a1).bind fun t259 => (if t259 = true then (if a1 = 0 then (none) else (if ((l2.length : Int) % a1) = 0 then ((ring_Fits.f a0 l2).bind fun t260 => (gilboa_Spread.j0 k a0 a1 l2 (!t260))) else (gilboa_Spread.j0 k a0 a1 l2 true))) else (gilboa_Spread.j0 k a0 a1 l2 true))
theorem gilboa_Spread.mono_l : ∀ k,(∀ y0 y1 y2 y3,LeO (gilboa_Spread.j0 k y0 y1 y2 y3) (gilboa_Spread.j0 (k + 1) y0 y1 y2 y3)) ∧ (∀ y0 y1 y2 y3 y4,LeO (gilboa_Spread.l0 k y0 y1 y2 y3 y4) (gilboa_Spread.l0 (k + 1) y0 y1 y2 y3 y4)) ∧ (∀ y0 y1 y2 y3 y4 y5 y6 y7,LeO (gilboa_Spread.l1 k y0 y1 y2 y3 y4 y5 y6 y7) (gilboa_Spread.l1 (k + 1) y0 y1 y2 y3 y4 y5 y6 y7))
 | 0 => ⟨fun _ _ _ _ r h => by simp [gilboa_Spread.j0] at h,fun _ _ _ _ _ r h => by simp [gilboa_Spread.l0] at h,fun _ _ _ _ _ _ _ _ r h => by simp [gilboa_Spread.l1] at h⟩
 | k + 1 => by
  obtain ⟨ih0,ih1,ih2⟩ := gilboa_Spread.mono_l k;refine ⟨?_,?_,?_⟩
  ·intro y0 y1 y2 y3
   unfold gilboa_Spread.j0
   repeat' first | (with_reducible first | exact ih0 _ _ _ _ | exact ih1 _ _ _ _ _ | exact ih2 _ _ _ _ _ _ _ _ | exact ring_Scale.mono _ _ _ _ | exact LeO.refl _ | exact LeO.none _ | refine LeO.ite ?_ ?_ | refine LeO.bind ?_ (fun _ => ?_)) | exact LeO.none _ | refine LeO.ite ?_ ?_ | refine LeO.bind ?_ (fun _ => ?_)
  ·intro y0 y1 y2 y3 y4
   unfold gilboa_Spread.l0
   repeat' first | (with_reducible first | exact ih0 _ _ _ _ | exact ih1 _ _ _ _ _ | exact ih2 _ _ _ _ _ _ _ _ | exact ring_Scale.mono _ _ _ _ | exact LeO.refl _ | exact LeO.none _ | refine LeO.ite ?_ ?_ | refine LeO.bind ?_ (fun _ => ?_)) | exact LeO.none _ | refine LeO.ite ?_ ?_ | refine LeO.bind ?_ (fun _ => ?_)
  ·intro y0 y1 y2 y3 y4 y5 y6 y7
   unfold gilboa_Spread.l1
   repeat' first | (with_reducible first | exact ih0 _ _ _ _ | exact ih1 _ _ _ _ _ | exact ih2 _ _ _ _ _ _ _ _ | exact ring_Scale.mono _ _ _ _ | exact LeO.refl _ | exact LeO.none _ | refine LeO.ite ?_ ?_ | refine LeO.bind ?_ (fun _ => ?_)) | exact LeO.none _ | refine LeO.ite ?_ ?_ | refine LeO.bind ?_ (fun _ => ?_)
theorem gilboa_Spread.mono : ∀ a0 a1 a2 k,LeO (gilboa_Spread.f k a0 a1 a2) (gilboa_Spread.f (k + 1) a0 a1 a2) := by
 intro a0 a1 a2 k;obtain ⟨ih0,ih1,ih2⟩ := gilboa_Spread.mono_l k;unfold gilboa_Spread.f
 repeat' first | (with_reducible first | exact ih0 _ _ _ _ | exact ih1 _ _ _ _ _ | exact ih2 _ _ _ _ _ _ _ _ | exact ring_Scale.mono _ _ _ _ | exact LeO.refl _ | exact LeO.none _ | refine LeO.ite ?_ ?_ | refine LeO.bind ?_ (fun _ => ?_)) | exact LeO.none _ | refine LeO.ite ?_ ?_ | refine LeO.bind ?_ (fun _ => ?_)
set_option maxHeartbeats 8000000 in
set_option maxRecDepth 100000 in
theorem gilboa_Spread.calls (k : Nat) (a0 : Int) (a1 : Int) (P2_ : Nat → Prop) (A2 : Option Addr) (c2 : Nat) (l2 : List Int) (r1 : List Int) (r2 : Int) (w : World) (hs2 : Kd.V (Kd.int .u64) 32 w w.heap.size (fun k_ => P2_ k_) (.slice A2 l2.length c2) l2) (h : gilboa_Spread.f k a0 a1 l2 = some (r1,r2)) :
  Calls Try.prog 42 #[.int .i64 a0,.int .i64 a1,.slice A2 l2.length c2] w fun e w' => ∃ v0_ : Value,e = .returned (.tuple #[v0_,.int .i64 r2]) ∧ Kd.R (Kd.int .u64) 32 w' w.heap.size (fun k_ => (w.heap.size ≤ k_)) v0_ r1 ∧ Below w.heap.size w w' := by
 have HO2 := Aside0.mk (show Kd.V (Kd.int .u64) 32 w w.heap.size (fun k_ => (P2_ k_ ∨ w.heap.size ≤ k_)) (.slice A2 l2.length c2) l2 from Kd.V_mono hs2 (fun k_ hk => .inl hk));have HB := Aside0.mk (Below.refl w.heap.size w);have H : ((gilboa_good.f a0 a1).bind fun t259 => (if t259 = true then (if a1 = 0 then (none) else (if ((l2.length : Int) % a1) = 0 then ((ring_Fits.f a0 l2).bind fun t260 => (gilboa_Spread.j0 k a0 a1 l2 (!t260))) else (gilboa_Spread.j0 k a0 a1 l2 true))) else (gilboa_Spread.j0 k a0 a1 l2 true))) = some (r1,r2) := h;clear h;have HC4 := Aside0.mk H;clear H
 go_enter Try.func42,Try.ntmps42
 go_upto_region 1 with (fail)
 go_cut [27] (fun v27 wc => ∃ (kq : Nat) (x27_3 : Bool),v27 = .bool x27_3 ∧ Aside0 (gilboa_Spread.j0 kq a0 a1 l2 x27_3 = some (r1,r2)) ∧ Aside0 (kq ≤ k) ∧ Aside0 (Kd.V (Kd.int .u64) 32 wc w.heap.size (fun k_ => (P2_ k_ ∨ w.heap.size ≤ k_)) (.slice A2 l2.length c2) l2) ∧ Aside0 (Below w.heap.size w wc))
 case first =>
  have H := HC4.out;clear HC4;replace H := Option.bind_eq_some_iff.mp H;obtain ⟨t259,A50,H⟩ := H;replace H : (if t259 = true then (if a1 = 0 then (none) else (if ((l2.length : Int) % a1) = 0 then ((ring_Fits.f a0 l2).bind fun t260 => (gilboa_Spread.j0 k a0 a1 l2 (!t260))) else (gilboa_Spread.j0 k a0 a1 l2 true))) else (gilboa_Spread.j0 k a0 a1 l2 true)) = some (r1,r2) := H;have A5 := Aside0.mk A50;clear A50
  by_cases c6 : t259 = true
  ·subst c6
   have H1 : (if a1 = 0 then (none) else (if ((l2.length : Int) % a1) = 0 then ((ring_Fits.f a0 l2).bind fun t260 => (gilboa_Spread.j0 k a0 a1 l2 (!t260))) else (gilboa_Spread.j0 k a0 a1 l2 true))) = some (r1,r2) := by rw [if_pos rfl] at H;exact H
   clear H;have H := H1;clear H1
   by_cases c7 : a1 = 0
   ·rw [if_pos c7] at H
    exact absurd H (by simp)
   ·rw [if_neg c7] at H
    have c7b0 : (a1 == 0) = false := beq_eq_false_iff_ne.mpr c7;have c7b1 : (a1 != 0) = true := bne_iff_ne.mpr c7;(first | rw [c7b0] | (simp only [i64_w,i32_w];rw [c7b0]) | skip)
    by_cases c8 : ((l2.length : Int) % a1) = 0
    ·rw [if_pos c8] at H
     have c8b0 : (((l2.length : Int) % a1) == 0) = true := beq_iff_eq.mpr c8;have c8b1 : (((l2.length : Int) % a1) != 0) = false := bne_eq_false_iff_eq.mpr c8;clear c8;replace H := Option.bind_eq_some_iff.mp H;obtain ⟨t260,A90,H⟩ := H;replace H : (gilboa_Spread.j0 k a0 a1 l2 (!t260)) = some (r1,r2) := H;have A9 := Aside0.mk A90;clear A90;have H' := Aside0.mk H;clear H
     go_wp2_with (first | ((with_reducible refine gate_callee (f := 69) rfl ?_);refine gL (some 13) Try.func69 #[.int .i64 a0,.int .i64 a1] ?_;(with_reducible refine (gilboa_good.calls a0 a1 true _ A5.out).mono ?_);rintro e w' ⟨rfl,⟨nd,rfl⟩⟩;refine ⟨_,rfl,?_⟩) | (go_at_call 34;(with_reducible refine (ring_Fits.calls a0 _ _ l2 t260 _ ?side1 ?side2 A9.out).mono ?_);(case side1 => exact rC (Kd.V_reads' HO2.out).2.2);(case side2 => exact (Kd.V_reads' HO2.out).2.1);rintro e w10 ⟨rfl,hb⟩;replace HO2 := bV HO2 hb;replace HB := bs HB hb;(try clear hb);(try clear hb2);(try clear hk);(try clear hi)))
     go_meet
     case rel => exact ⟨_,(!t260),(by first | rfl | (simp;done) | (simp [*];done)),H',⟨by first | omega | exact Nat.le_refl _⟩,⟨rV HO2⟩,⟨rW HB⟩⟩
    ·rw [if_neg c8] at H
     have c8b0 : (((l2.length : Int) % a1) == 0) = false := beq_eq_false_iff_ne.mpr c8;have c8b1 : (((l2.length : Int) % a1) != 0) = true := bne_iff_ne.mpr c8;have H' := Aside0.mk H;clear H
     go_wp2_with (first | ((with_reducible refine gate_callee (f := 69) rfl ?_);refine gL (some 13) Try.func69 #[.int .i64 a0,.int .i64 a1] ?_;(with_reducible refine (gilboa_good.calls a0 a1 true _ A5.out).mono ?_);rintro e w' ⟨rfl,⟨nd,rfl⟩⟩;refine ⟨_,rfl,?_⟩))
     go_meet
     case rel => exact ⟨_,(true),(by first | rfl | (simp;done) | (simp [*];done)),H',⟨by first | omega | exact Nat.le_refl _⟩,⟨rV HO2⟩,⟨rW HB⟩⟩
  ·replace c6 := Bool.eq_false_iff.mpr c6
   subst c6
   have H1 : (gilboa_Spread.j0 k a0 a1 l2 true) = some (r1,r2) := by rw [if_neg (show ¬ (false = true) by decide)] at H;exact H
   clear H;have H := H1;clear H1;have H' := Aside0.mk H;clear H
   go_wp2_with (first | ((with_reducible refine gate_callee (f := 69) rfl ?_);refine gL (some 13) Try.func69 #[.int .i64 a0,.int .i64 a1] ?_;(with_reducible refine (gilboa_good.calls a0 a1 false _ A5.out).mono ?_);rintro e w' ⟨rfl,⟨nd,rfl⟩⟩;refine ⟨_,rfl,?_⟩))
   go_meet
   case rel => exact ⟨_,(true),(by first | rfl | (simp;done) | (simp [*];done)),H',⟨by first | omega | exact Nat.le_refl _⟩,⟨rV HO2⟩,⟨rW HB⟩⟩
 case rest =>
  clear HC4
  try clear c2
  try clear p2
  try clear c4
  try clear c6
  try clear c7
  try clear c7b0
  try clear c7b1
  try clear c8
  try clear c8b0
  try clear c8b1
  obtain ⟨kq,x27_3,rfl,HA,HJ3,HO_2,HB⟩ := hcut
  cases kq with
  | zero => exact absurd HA.out (by simp [gilboa_Spread.j0])
  | succ kj3 =>
   have H := HA.out;clear HA;simp only [gilboa_Spread.j0] at H
   by_cases c11 : x27_3 = true
   ·subst c11
    have H1 : (some (([] : List Int),11)) = some (r1,r2) := by rw [if_pos rfl] at H;exact H
    clear H;have H := H1;clear H1;simp only [Option.some.injEq,Prod.mk.injEq] at H;obtain ⟨rfl,rfl⟩ := H
    go_wp2
    go_ret2
    exact ⟨_,by first | rfl | (simp [errW_none,errW_some] <;> rfl) | (simp [*,errW_none,errW_some] <;> rfl),by first | exact Kd.R_nil _ _ _ _ _ | exact Kd.N_nil _ _ _ _ _ | exact Kd.V_nil _ _ _ _ _ | exact Kd.Q_nil _ _ _ _ _ | exact Kd.S_nil _ _ _ _ _,rW HB⟩
   ·replace c11 := Bool.eq_false_iff.mpr c11
    subst c11
    have H1 : (if 0 ≤ (wrap64 (a0 * (l2.length : Int))) then (if (wrap64 (a0 * (l2.length : Int)) : Int).toNat ≤ 35184372088832 then (gilboa_Spread.l0 kj3 a0 a1 l2 (([] : List Int)) 0) else (none)) else (none)) = some (r1,r2) := by rw [if_neg (show ¬ (false = true) by decide)] at H;exact H
    clear H;have H := H1;clear H1;obtain ⟨ji12,hji12⟩ : ∃ j_ : Int,(wrap64 (a0 * (l2.length : Int))) = j_ := ⟨_,rfl⟩
    replace H : (if 0 ≤ (ji12) then (if (ji12 : Int).toNat ≤ 35184372088832 then (gilboa_Spread.l0 kj3 a0 a1 l2 (([] : List Int)) 0) else (none)) else (none)) = some (r1,r2) := by first | (rw [hji12] at H;exact H) | (simp only [hji12] at H ⊢;exact H)
    have hji12w : (IntKind.i64.wrap (a0 * (l2.length : Int))) = ji12 := (i64_w _).trans hji12
    by_cases c13 : 0 ≤ (ji12)
    ·rw [if_pos c13] at H
     have c13b0 := eq_true c13;have c13b1 : decide (0 ≤ (ji12)) = true := decide_eq_true c13;clear c13
     by_cases c14 : (ji12 : Int).toNat ≤ 35184372088832
     ·rw [if_pos c14] at H
      have c14b0 := eq_true c14;have c14b1 : decide ((ji12 : Int).toNat ≤ 35184372088832) = true := decide_eq_true c14;clear c14;obtain ⟨y261,hy261⟩ : ∃ y_ : List Int,y_ = (([] : List Int)) := ⟨_,rfl⟩;replace H : (gilboa_Spread.l0 kj3 a0 a1 l2 y261 0) = some (r1,r2) := rY hy261 H;have Ny261 := Aside0.mk hy261;clear hy261;have H' := Aside0.mk H;clear H
      go_wp2_with (first | ((with_reducible refine gate_dst (N := 32) rfl ?_);(try (refine gate_guard (by rfl) ?_;dsimp only));refine Kd.R_makecap (Kd.int .u64) _ 32 rfl (N := 32) rfl 23 _ _ rfl ji12 rfl rfl Try.underlying23 (.int .u64 0) 8 info32 rfl (by decide) (by omega)  (ok := fun _ => True) (okp := fun _ => True)  (fun _ hk => hk) trivial (of_decide_eq_true (by first | (with_reducible assumption) | assumption)) (Nat.le_trans (Nat.mul_le_mul_right _ (of_decide_eq_true (by first | (with_reducible assumption) | assumption) : ji12.toNat ≤ 35184372088832)) (by omega)) (Below.refl _ _) (Nat.le_refl _) ?_;intro v262 w15 ho16 hb hg_ hnew_;clear hg_ hnew_;(first | rw [← Ny261.out] at ho16 | (simp only [Int.reduceToNat] at ho16;rw [← Ny261.out] at ho16));replace HO_2 := lV HO_2 ho16 hb;have HO263 := Aside0.mk (Kd.R_lower (Kd.R_newM (M := fun k_ => (w.heap.size ≤ k_)) ho16 (below_size (rW HB)) (fun k_ h_ => h_)) (below_size (rW HB)));replace HB := bs HB hb;clear hb ho16))
      go_loopg [8,9] kj3 (fun kq v8 v9 w' => ∃ (x8_2 : List Int) (x9_2 : Int),v9 = .int .i64 x9_2 ∧ Aside0 (gilboa_Spread.l0 kq a0 a1 l2 x8_2 x9_2 = some (r1,r2)) ∧ Aside0 (kq ≤ kj3) ∧ Aside0 (Kd.V (Kd.int .u64) 32 w' w.heap.size (fun k_ => (P2_ k_ ∨ w.heap.size ≤ k_) ∧ some k_ ≠ (v8 : Value).ownBlock) (.slice A2 l2.length c2) l2) ∧ Aside0 (Kd.R (Kd.int .u64) 32 w' w.heap.size (fun k_ => (w.heap.size ≤ k_)) v8 x8_2) ∧ Aside0 (Below w.heap.size w w'))
      case atStart => exact ⟨(y261),(0),(by first | rfl | (simp;done) | (simp [*];done)),H',⟨Nat.le_refl _⟩,⟨rV HO_2⟩,⟨by (with_reducible repeat (first | apply Kd.R_alloc | apply Kd.R_drewN | apply Kd.R_drew));exact Kd.R_mono HO263.out (fun _ hk => hk.1)⟩,⟨rW HB⟩⟩
      case round =>
       clear H'
       try clear c1
       try clear c2
       try clear p2
       try clear c4
       try clear c6
       try clear p6
       try clear c7
       try clear c7b0
       try clear c7b1
       try clear c8
       try clear c8b0
       try clear c8b1
       try clear c11
       try clear c13
       try clear c13b0
       try clear c13b1
       try clear c14
       try clear c14b0
       try clear c14b1
       try clear p2
       obtain ⟨x8_2,x9_2,rfl,HA,HK2,HO_2,HO_8,HB⟩ := hrel
       cases gk with
       | zero => exact absurd HA.out (by simp [gilboa_Spread.l0])
       | succ k2 =>
        have H := HA.out;clear HA;simp only [gilboa_Spread.l0] at H
        by_cases c17 : x9_2 < (l2.length : Int)
        ·rw [if_pos c17] at H
         have c17b0 : decide (x9_2 < (l2.length : Int)) = true := decide_eq_true c17;clear c17
         by_cases c18 : 0 ≤ x9_2
         ·rw [if_pos c18] at H
          have c18b0 := eq_true c18;have c18b1 : decide (0 ≤ x9_2) = true := decide_eq_true c18;clear c18
          by_cases c19 : x9_2 ≤ (wrap64 (x9_2 + a1))
          ·rw [if_pos c19] at H
           have c19b0 := eq_true c19;have c19b1 : decide (x9_2 ≤ (wrap64 (x9_2 + a1))) = true := decide_eq_true c19
           by_cases c20 : (wrap64 (x9_2 + a1)) ≤ (l2.length : Int)
           ·rw [if_pos c20] at H
            have c20b0 := eq_true c20;have c20b1 : decide ((wrap64 (x9_2 + a1)) ≤ (l2.length : Int)) = true := decide_eq_true c20;obtain ⟨y264,hy264⟩ : ∃ y_ : List Int,y_ = ((l2.take ((wrap64 (x9_2 + a1)) : Int).toNat).drop (x9_2 : Int).toNat) := ⟨_,rfl⟩;replace H : (gilboa_Spread.l1 k2 a0 a1 l2 x8_2 x9_2 y264 a0 0) = some (r1,r2) := rY hy264 H;have Ny264 := Aside0.mk hy264;clear hy264;have H' := Aside0.mk H;clear H;have q21 : ((wrap64 (x9_2 + a1)) : Int) ≤ ((l2.length : Int) : Int) := of_decide_eq_true (by first | (with_reducible assumption) | assumption);obtain ⟨i021,hi021,_,hsz21,_⟩ := info_parts info32;have hroom21 : l2.length ≤ c2 := (Kd.V_reads' HO_2.out).2.1;have hC21 : Kd.F (Kd.int .u64) _ _ A2 l2.length l2 := (Kd.V_at (base := w.heap.size) HO_2.out).2.2;have ql21 : (x9_2 : Int) ≤ ((wrap64 (x9_2 + a1)) : Int) := of_decide_eq_true (by first | (with_reducible assumption) | assumption);have q021 : (0 : Int) ≤ (x9_2 : Int) := of_decide_eq_true (by first | (with_reducible assumption) | assumption);have hcut21 := cut_mid (P := Try.prog) 23 32 .i64 .i64 Try.underlying23 hi021 1 hsz21 A2 l2.length c2 x9_2 (wrap64 (x9_2 + a1)) q021 ql21 q21 hroom21;have hr21 := Kd.F_mid (lo := (x9_2 : Int).toNat) (hi := ((wrap64 (x9_2 + a1)) : Int).toNat) (c := c2) hC21 (by omega) (by omega) hroom21;obtain ⟨A21,hA21⟩ : ∃ A1,A1 = (if c2 = (x9_2 : Int).toNat then A2 else (A2 : Option Addr).map (·.add ((x9_2 : Int).toNat * 1))) := ⟨_,rfl⟩;obtain ⟨c21,hc21⟩ : ∃ c1,c1 = c2 - (x9_2 : Int).toNat := ⟨_,rfl⟩;have hy21 : y264.length = ((wrap64 (x9_2 + a1)) : Int).toNat - (x9_2 : Int).toNat := (by rw [Ny264.out,List.length_drop,List.length_take] <;> omega);rw [show ((l2).take ((wrap64 (x9_2 + a1)) : Int).toNat).drop (x9_2 : Int).toNat = y264 from Ny264.out.symm] at hr21;replace hr21 : Kd.F (Kd.int .u64) _ _ A21 y264.length y264 := (by rw [hA21];exact hr21);rw [← hy21,← hA21,← hc21] at hcut21;have HO268 := Aside0.mk (show Kd.V (Kd.int .u64) 32 _ w.heap.size _ (.slice A21 y264.length c21) y264 from Kd.V_mk (by rw [hy21,hc21];exact Nat.sub_le_sub_right (Nat.le_trans (by omega) hroom21) _) hr21);have HC268 := Aside0.mk (show y264.length ≤ c21 from by rw [hy21,hc21];exact Nat.sub_le_sub_right (Nat.le_trans (by omega) hroom21) _);clear hr21 hC21 hroom21 hi021 hsz21 hc21;have KY21 := Aside0.mk hy21;have KA21 := Aside0.mk hA21;clear hy21 hA21;replace q21 := eq_true q21
            go_wp2
            go_loopg [8,10,47] k2 (fun kq v8 v10 v47 w' => ∃ (x8_3 : List Int) (x10_3 : List Int) (x47_3 : Int),v47 = .int .i64 x47_3 ∧ Aside0 (gilboa_Spread.l1 kq a0 a1 l2 x8_3 x9_2 x10_3 a0 x47_3 = some (r1,r2)) ∧ Aside0 (kq ≤ k2) ∧ Aside0 (Kd.V (Kd.int .u64) 32 w' w.heap.size (fun k_ => (P2_ k_ ∨ w.heap.size ≤ k_) ∧ some k_ ≠ (v8 : Value).ownBlock) (.slice A2 l2.length c2) l2) ∧ Aside0 (Kd.R (Kd.int .u64) 32 w' w.heap.size (fun k_ => (w.heap.size ≤ k_)) v8 x8_3) ∧ Aside0 (Kd.V (Kd.int .u64) 32 w' w.heap.size (fun k_ => (P2_ k_ ∨ w.heap.size ≤ k_) ∧ some k_ ≠ (v8 : Value).ownBlock) v10 x10_3) ∧ Aside0 (Below w.heap.size w w'))
            case atStart => exact ⟨(x8_2),(y264),(0),(by first | rfl | (simp;done) | (simp [*];done)),H',⟨Nat.le_refl _⟩,⟨rV HO_2⟩,⟨rR HO_8⟩,⟨rV HO268⟩,⟨rW HB⟩⟩
            case round =>
             clear H'
             try clear c1
             try clear c2
             try clear p2
             try clear q2
             try clear c4
             try clear c6
             try clear p6
             try clear c7
             try clear c7b0
             try clear c7b1
             try clear c8
             try clear c8b0
             try clear c8b1
             try clear c11
             try clear c13
             try clear c13b0
             try clear c13b1
             try clear c14
             try clear c14b0
             try clear c14b1
             try clear c17
             try clear c17b0
             try clear c18
             try clear c18b0
             try clear c18b1
             try clear c19
             try clear c19b0
             try clear c19b1
             try clear c20
             try clear c20b0
             try clear c20b1
             try clear c21
             try clear q21
             try clear p2
             try clear p6
             try clear q021
             try clear q21
             obtain ⟨x8_3,x10_3,x47_3,rfl,HA,HK3,HO_2,HO_8,HO_10,HB⟩ := hrel
             cases gk with
             | zero => exact absurd HA.out (by simp [gilboa_Spread.l1])
             | succ k3 =>
              have H := HA.out;clear HA;simp only [gilboa_Spread.l1] at H
              by_cases c22 : x47_3 < a0
              ·rw [if_pos c22] at H
               have c22b0 : decide (x47_3 < a0) = true := decide_eq_true c22;clear c22
               by_cases c23 : x8_3.length + x10_3.length < 17592186044416
               ·rw [if_pos c23] at H
                have LMc23 := Aside0.mk c23;clear c23;obtain ⟨y269,hy269⟩ : ∃ y_ : List Int,y_ = (x8_3 ++ x10_3) := ⟨_,rfl⟩;replace H : ((ring_Scale.f k3 a0 2 x10_3).bind fun t272 => (gilboa_Spread.l1 k3 a0 a1 l2 y269 x9_2 t272 a0 (wrap64 (x47_3 + 1)))) = some (r1,r2) := rY hy269 H;have Ny269 := Aside0.mk hy269;clear hy269;replace H := Option.bind_eq_some_iff.mp H;obtain ⟨t272,A240,H⟩ := H;replace H : (gilboa_Spread.l1 k3 a0 a1 l2 y269 x9_2 t272 a0 (wrap64 (x47_3 + 1))) = some (r1,r2) := H;have A24 := Aside0.mk A240;clear A240;have H' := Aside0.mk H;clear H;obtain ⟨Ao26,co26,eo26⟩ := Kd.V_slice HO_10.out;subst eo26
                go_wp2_with (first | ((with_reducible refine gate_builtin (b := .append) (xs := #[.tmp 49,.tmp 50]) rfl ?_);(try (refine gate_guard (by rfl) ?_;dsimp only));at_builtin;refine Kd.R_append_rows (Kd.int .u64) (w0 := w) w.heap.size rfl (.tmp 49) (.tmp 50) 23 32 (.int .u64 0) 8 rfl Try.underlying23 info32 rfl (by decide) (by omega) u8 x8_3 x10_3 _ _ _ (fun k_ => (w.heap.size ≤ k_)) (fun _ => False) rfl rfl ?aO ?aR (fun _ _ h => h) (fun _ h => h.elim) ?aF ?aB ?aS ?aL ?_;(case aR => repeat (first | exact (Kd.V_reads' HO_10.out).2.2 | (with_reducible refine Kd.C_alloc ?_ _) | (with_reducible refine Kd.C_drewN ?_ _) | (with_reducible refine Kd.C_drew ?_)));(case aB => exact (rW HB));(case aF => exact (fun k_ hk => (Nat.le_trans (below_size (rW HB)) hk)));(case aO => exact (rR HO_8));(case aS => exact (below_size (rW HB)));(case aL => have := LMc23.out;omega);intro v270 w25 ho hb hg hat;rw [← Ny269.out] at ho;replace HO_2 := Aside0.mk (Kd.V_afterv (ok := (fun k_ => (P2_ k_ ∨ w.heap.size ≤ k_))) (rV HO_2) hg hat);replace HO_10 := Aside0.mk (Kd.V_afterv (ok := (fun k_ => (P2_ k_ ∨ w.heap.size ≤ k_))) (rV HO_10) hg hat);replace HB := Aside0.mk (hb);have HO271 := Aside0.mk (ho);clear HO_8;clear ho hb hg hat) | ((with_reducible refine gate_callee (f := 70) rfl ?_);refine gL (some 54) Try.func70 #[.int .i64 a0,.int .u64 2,.slice Ao26 x10_3.length co26] ?_;(with_reducible refine (ring_Scale.calls k3 a0 2 _ _ x10_3 t272 _ ?side1 ?side2 A24.out).mono ?_);(case side1 => exact rC (Kd.V_reads' HO_10.out).2.2);(case side2 => exact (Kd.V_reads' HO_10.out).2.1);rintro e w27 ⟨v273,rfl,ho0,hb⟩;refine ⟨_,rfl,?_⟩;replace HO_2 := lV HO_2 ho0 hb;replace HO_10 := lV HO_10 ho0 hb;have HO274 := Aside0.mk (Kd.R_lower (Kd.R_new' (Kd.R_newM (M := fun k_ => (w.heap.size ≤ k_)) ho0 (below_size (rW HB)) (fun k_ h_ => h_)) (Kd.R_lt (rR HO271))) (below_size (rW HB)));replace HO271 := lR HO271 ho0 hb;replace HB := bs HB hb;(try clear hb);(try clear hb2);(try clear hk);(try clear hi);(try clear ho0)))
                go_roundg k3
                case measure => have := HJ3.out;have := HK2.out;have := HK3.out;omega
                case rel => exact ⟨(y269),(t272),(wrap64 (x47_3 + 1)),(by first | rfl | (simp;done) | (simp [*];done)),H',⟨by have := HJ3.out;have := HK2.out;have := HK3.out;omega⟩,⟨by (with_reducible repeat (first | apply Kd.V_alloc | apply Kd.V_drewN | apply Kd.V_drew));exact Kd.V_mono HO_2.out (fun _ hk => ⟨hk.1.1,hk.1.2⟩)⟩,⟨by (with_reducible repeat (first | apply Kd.R_alloc | apply Kd.R_drewN | apply Kd.R_drew));exact Kd.R_mono HO271.out (fun _ hk => hk.1)⟩,⟨Kd.V_mono (Kd.R_V (rR HO274)) (fun k_ hk => by first | exact ⟨.inr hk.1.1,hk.2⟩ | exact ⟨.inr hk.1,hk.2⟩ | exact .inr hk.1 | exact .inr hk)⟩,⟨rW HB⟩⟩
               ·rw [if_neg c23] at H
                exact absurd H (by simp)
              ·rw [if_neg c22] at H
               have c22b0 : decide (x47_3 < a0) = false := decide_eq_false c22;clear c22;have H' := Aside0.mk H;clear H
               go_wp2
               go_roundg k3
               case measure => have := HJ3.out;have := HK2.out;have := HK3.out;omega
               case rel => exact ⟨(x8_3),(wrap64 (x9_2 + a1)),(by first | rfl | (simp;done) | (simp [*];done)),H',⟨by have := HJ3.out;have := HK2.out;have := HK3.out;omega⟩,⟨rV HO_2⟩,⟨rR HO_8⟩,⟨rW HB⟩⟩
           ·rw [if_neg c20] at H
            exact absurd H (by simp)
          ·rw [if_neg c19] at H
           exact absurd H (by simp)
         ·rw [if_neg c18] at H
          exact absurd H (by simp)
        ·rw [if_neg c17] at H
         have c17b0 : decide (x9_2 < (l2.length : Int)) = false := decide_eq_false c17;clear c17;simp only [Option.some.injEq,Prod.mk.injEq] at H;obtain ⟨rfl,rfl⟩ := H
         go_wp2
         go_ret2
         exact ⟨_,by first | rfl | (simp [errW_none,errW_some] <;> rfl) | (simp only [← hji12];first | rfl | (simp [errW_none,errW_some] <;> rfl)) | (simp [*,errW_none,errW_some] <;> rfl),rR HO_8,rW HB⟩
     ·rw [if_neg c14] at H
      exact absurd H (by simp)
    ·rw [if_neg c13] at H
     exact absurd H (by simp)
def scalar_Spread.f (k : Nat) (a0_0 : Int) (a0_1 : Int) (a0_2 : Int) (a0_3 : Int) (a0_4 : Int) (l1 : List (S31)) : Option (List Int × Int) := (scalar_parts.f k a0_0 a0_1 a0_2 a0_3 a0_4 l1).bind fun bt276 => (if bt276.2.2 = 0 then ((gilboa_Spread.f k a0_1 1 bt276.2.1).bind fun bt283 => (some (bt283.1,bt283.2))) else (some (([] : List Int),bt276.2.2)))
theorem scalar_Spread.mono : ∀ a0 a1 a2 a3 a4 a5 k,LeO (scalar_Spread.f k a0 a1 a2 a3 a4 a5) (scalar_Spread.f (k + 1) a0 a1 a2 a3 a4 a5) := by
 intro a0 a1 a2 a3 a4 a5 k;unfold scalar_Spread.f
 repeat' first | (with_reducible first | exact gilboa_Spread.mono _ _ _ _ | exact scalar_parts.mono _ _ _ _ _ _ _ | exact LeO.refl _ | exact LeO.none _ | refine LeO.ite ?_ ?_ | refine LeO.bind ?_ (fun _ => ?_)) | exact LeO.none _ | refine LeO.ite ?_ ?_ | refine LeO.bind ?_ (fun _ => ?_)
set_option maxHeartbeats 8000000 in
set_option maxRecDepth 100000 in
theorem scalar_Spread.calls (k : Nat) (a0_0 : Int) (a0_1 : Int) (a0_2 : Int) (a0_3 : Int) (a0_4 : Int) (A1 : Option Addr) (c1 : Nat) (l1 : List (S31)) (r1 : List Int) (r2 : Int) (w : World) (hr1 : Kd.C k31 w A1 l1.length l1) (hc1 : l1.length ≤ c1) (h : scalar_Spread.f k a0_0 a0_1 a0_2 a0_3 a0_4 l1 = some (r1,r2)) :
  Calls Try.prog 18 #[.agg #[.int .i64 a0_0,.int .i64 a0_1,.int .i64 a0_2,.int .i64 a0_3,.int .i64 a0_4],.slice A1 l1.length c1] w fun e w' => ∃ v0_ : Value,e = .returned (.tuple #[v0_,.int .i64 r2]) ∧ Kd.R (Kd.int .u64) 32 w' w.heap.size (fun _ => True) v0_ r1 ∧ Below w.heap.size w w' := by
 have hu25 := Try.underlying25;have HR1 := Aside0.mk hr1;have HC1 := Aside0.mk hc1;clear hr1 hc1;have HB := Aside0.mk (Below.refl w.heap.size w);have H : ((scalar_parts.f k a0_0 a0_1 a0_2 a0_3 a0_4 l1).bind fun bt276 => (if bt276.2.2 = 0 then ((gilboa_Spread.f k a0_1 1 bt276.2.1).bind fun bt283 => (some (bt283.1,bt283.2))) else (some (([] : List Int),bt276.2.2)))) = some (r1,r2) := h;clear h;replace H := Option.bind_eq_some_iff.mp H;obtain ⟨⟨t276,t279,t282⟩,A30,H⟩ := H;replace H : (if t282 = 0 then ((gilboa_Spread.f k a0_1 1 t279).bind fun bt283 => (some (bt283.1,bt283.2))) else (some (([] : List Int),t282))) = some (r1,r2) := H;have A3 := Aside0.mk A30;clear A30
 by_cases c4 : t282 = 0
 ·rw [if_pos c4] at H
  have c4b0 : (t282 == 0) = true := beq_iff_eq.mpr c4;have c4b1 : (t282 != 0) = false := bne_eq_false_iff_eq.mpr c4;clear c4;replace H := Option.bind_eq_some_iff.mp H;obtain ⟨⟨t283,t286⟩,A50,H⟩ := H;replace H : (some (t283,t286)) = some (r1,r2) := H;have A5 := Aside0.mk A50;clear A50;simp only [Option.some.injEq,Prod.mk.injEq] at H;obtain ⟨rfl,rfl⟩ := H
  go_enter Try.func18,Try.ntmps18
  go_wp2_with (first | ((with_reducible refine gate_dst (N := 2) rfl ?_);refine bx 2 #[.int .i64 a0_0,.int .i64 a0_1,.int .i64 a0_2,.int .i64 a0_3,.int .i64 a0_4] 25 ?_;intro gb275 hg w6 hbox hb;have BK275 := Aside0.mk hbox;have GW275 := bz HB hg;have GE275 := bz HB hg;replace HB := bs HB hb;clear hb hbox hg;obtain ⟨hcz7_0,hcz7_1,hcz7_2,hcz7_3,hcz7_4,hfz7_0,hfz7_1,hfz7_2,hfz7_3,hfz7_4⟩ := cz5 BK275) | ((with_reducible refine gate_callee (f := 41) rfl ?_);refine gL (some 12) Try.func41 #[.agg #[.int .i64 a0_0,.int .i64 a0_1,.int .i64 a0_2,.int .i64 a0_3,.int .i64 a0_4],.slice A1 l1.length c1] ?_;(with_reducible refine (scalar_parts.calls k a0_0 a0_1 a0_2 a0_3 a0_4 _ _ l1 t276 t279 t282 _ ?side1 ?side2 A3.out).mono ?_);(case side1 => exact rC (Kd.C_below HR1.out HB.out));(case side2 => exact HC1.out);rintro e w8 ⟨v277,v280,rfl,ho0,ho1,hb⟩;refine ⟨_,rfl,?_⟩;have HO278 := Aside0.mk (Kd.R_lower ho0 (below_size (rW HB)));have HO281 := Aside0.mk (Kd.R_lower ho1 (below_size (rW HB)));replace BK275 := bb BK275 hb;replace HB := bs HB hb;(try clear hb);(try clear hb2);(try clear hk);(try clear hi);(try clear ho0);(try clear ho1);obtain ⟨hcz9_0,hcz9_1,hcz9_2,hcz9_3,hcz9_4,hfz9_0,hfz9_1,hfz9_2,hfz9_3,hfz9_4⟩ := cz5 BK275;obtain ⟨Ao10,co10,eo10⟩ := Kd.R_slice HO281.out;subst eo10) | ((with_reducible refine gate_callee (f := 42) rfl ?_);refine gL (some 22) Try.func42 #[.int .i64 a0_1,.int .i64 1,.slice Ao10 t279.length co10] ?_;(with_reducible refine (gilboa_Spread.calls k a0_1 1 (fun k_ => some k_ = (.slice Ao10 t279.length co10 : Value).ownBlock) _ _ t279 t283 t286 _ ?side1 A5.out).mono ?_);(case side1 => exact Kd.R_V (Kd.R_tight rfl (Kd.R_types (HO281.out) BK275.out (by decide))));rintro e w11 ⟨v284,rfl,ho0,hb⟩;refine ⟨_,rfl,?_⟩;have HO285 := Aside0.mk (Kd.R_lower (Kd.R_new' (Kd.R_new' (Kd.R_mono (ok' := fun k_ => True) ho0 (fun _ hk_ => trivial)) (Kd.R_lt (rR HO278))) (Kd.R_lt (rR HO281))) (below_size (rW HB)));replace HO278 := lR HO278 ho0 hb;replace HO281 := lR HO281 ho0 hb;replace BK275 := bb BK275 hb;replace HB := bs HB hb;(try clear hb);(try clear hb2);(try clear hk);(try clear hi);(try clear ho0)))
  go_ret2
  exact ⟨_,by first | rfl | (simp [errW_none,errW_some] <;> rfl) | (simp [*,errW_none,errW_some] <;> rfl),by (with_reducible repeat (first | apply Kd.R_alloc | apply Kd.R_drewN | apply Kd.R_drew));exact Kd.R_mono HO285.out (fun _ hk => trivial),rW HB⟩
 ·rw [if_neg c4] at H
  have c4b0 : (t282 == 0) = false := beq_eq_false_iff_ne.mpr c4;have c4b1 : (t282 != 0) = true := bne_iff_ne.mpr c4;simp only [Option.some.injEq,Prod.mk.injEq] at H;obtain ⟨rfl,rfl⟩ := H
  go_enter Try.func18,Try.ntmps18
  go_wp2_with (first | ((with_reducible refine gate_dst (N := 2) rfl ?_);refine bx 2 #[.int .i64 a0_0,.int .i64 a0_1,.int .i64 a0_2,.int .i64 a0_3,.int .i64 a0_4] 25 ?_;intro gb275 hg w12 hbox hb;have BK275 := Aside0.mk hbox;have GW275 := bz HB hg;have GE275 := bz HB hg;replace HB := bs HB hb;clear hb hbox hg;obtain ⟨hcz13_0,hcz13_1,hcz13_2,hcz13_3,hcz13_4,hfz13_0,hfz13_1,hfz13_2,hfz13_3,hfz13_4⟩ := cz5 BK275) | ((with_reducible refine gate_callee (f := 41) rfl ?_);refine gL (some 12) Try.func41 #[.agg #[.int .i64 a0_0,.int .i64 a0_1,.int .i64 a0_2,.int .i64 a0_3,.int .i64 a0_4],.slice A1 l1.length c1] ?_;(with_reducible refine (scalar_parts.calls k a0_0 a0_1 a0_2 a0_3 a0_4 _ _ l1 t276 t279 t282 _ ?side1 ?side2 A3.out).mono ?_);(case side1 => exact rC (Kd.C_below HR1.out HB.out));(case side2 => exact HC1.out);rintro e w14 ⟨v277,v280,rfl,ho0,ho1,hb⟩;refine ⟨_,rfl,?_⟩;have HO278 := Aside0.mk (Kd.R_lower ho0 (below_size (rW HB)));have HO281 := Aside0.mk (Kd.R_lower ho1 (below_size (rW HB)));replace BK275 := bb BK275 hb;replace HB := bs HB hb;(try clear hb);(try clear hb2);(try clear hk);(try clear hi);(try clear ho0);(try clear ho1)))
  go_ret2
  exact ⟨_,by first | rfl | (simp [errW_none,errW_some] <;> rfl) | (simp [*,errW_none,errW_some] <;> rfl),by first | exact Kd.R_nil _ _ _ _ _ | exact Kd.N_nil _ _ _ _ _ | exact Kd.V_nil _ _ _ _ _ | exact Kd.Q_nil _ _ _ _ _ | exact Kd.S_nil _ _ _ _ _,rW HB⟩
def ring_Bits.l0 : Nat → Int → List Bool → Int → Int → Option (List Bool)
 | 0,_,_,_,_ => none
 | k + 1,x1,x5,x13,x14 => if x14 < x13 then (if 0 ≤ (IntKind.u64.wrap (x14)) then (if 0 ≤ x14 then (if x14 < (x5.length : Int) then (ring_Bits.l0 k x1 (x5.set (x14 : Int).toNat ((Go.bits .and .u64 (shr .u64 x1 (IntKind.u64.wrap (x14))) 1) == 1)) x13 (wrap64 (x14 + 1))) else (none)) else (none)) else (none)) else (some x5)
def ring_Bits.f (k : Nat) (a0 : Int) (a1 : Int) : Option (List Bool) := (ring_mask.f a0).bind fun t287 => (if t287 = 0 then (some ([] : List Bool)) else (if 0 ≤ a0 then (if (a0 : Int).toNat ≤ 281474976710656 then ((some (List.replicate (a0 : Int).toNat false : List Bool)).bind fun y288 => (ring_Bits.l0 k a1 y288 (y288.length : Int) 0)) else (none)) else (none)))
theorem ring_Bits.mono_l : ∀ k,(∀ y0 y1 y2 y3,LeO (ring_Bits.l0 k y0 y1 y2 y3) (ring_Bits.l0 (k + 1) y0 y1 y2 y3))
 | 0 => fun _ _ _ _ r h => by simp [ring_Bits.l0] at h
 | k + 1 => by
  have ih0 := ring_Bits.mono_l k
  ·intro y0 y1 y2 y3
   unfold ring_Bits.l0
   repeat' first | (with_reducible first | exact ih0 _ _ _ _ | exact LeO.refl _ | exact LeO.none _ | refine LeO.ite ?_ ?_ | refine LeO.bind ?_ (fun _ => ?_)) | exact LeO.none _ | refine LeO.ite ?_ ?_ | refine LeO.bind ?_ (fun _ => ?_)
theorem ring_Bits.mono : ∀ a0 a1 k,LeO (ring_Bits.f k a0 a1) (ring_Bits.f (k + 1) a0 a1) := by
 intro a0 a1 k;have ih0 := ring_Bits.mono_l k;unfold ring_Bits.f
 repeat' first | (with_reducible first | exact ih0 _ _ _ _ | exact LeO.refl _ | exact LeO.none _ | refine LeO.ite ?_ ?_ | refine LeO.bind ?_ (fun _ => ?_)) | exact LeO.none _ | refine LeO.ite ?_ ?_ | refine LeO.bind ?_ (fun _ => ?_)
set_option maxHeartbeats 8000000 in
set_option maxRecDepth 100000 in
theorem ring_Bits.calls (k : Nat) (a0 : Int) (a1 : Int) (r : List Bool) (w : World) (h : ring_Bits.f k a0 a1 = some r) :
  Calls Try.prog 71 #[.int .i64 a0,.int .u64 a1] w fun e w' => ∃ v0_ : Value,e = .returned (v0_) ∧ Kd.R Kd.bool 4 w' w.heap.size (fun _ => True) v0_ r ∧ Below w.heap.size w w' := by
 have HB := Aside0.mk (Below.refl w.heap.size w);have H : ((ring_mask.f a0).bind fun t287 => (if t287 = 0 then (some ([] : List Bool)) else (if 0 ≤ a0 then (if (a0 : Int).toNat ≤ 281474976710656 then ((some (List.replicate (a0 : Int).toNat false : List Bool)).bind fun y288 => (ring_Bits.l0 k a1 y288 (y288.length : Int) 0)) else (none)) else (none)))) = some r := h;clear h;replace H := Option.bind_eq_some_iff.mp H;obtain ⟨t287,A30,H⟩ := H;replace H : (if t287 = 0 then (some ([] : List Bool)) else (if 0 ≤ a0 then (if (a0 : Int).toNat ≤ 281474976710656 then ((some (List.replicate (a0 : Int).toNat false : List Bool)).bind fun y288 => (ring_Bits.l0 k a1 y288 (y288.length : Int) 0)) else (none)) else (none))) = some r := H;have A3 := Aside0.mk A30;clear A30
 by_cases c4 : t287 = 0
 ·rw [if_pos c4] at H
  have c4b0 : (t287 == 0) = true := beq_iff_eq.mpr c4;have c4b1 : (t287 != 0) = false := bne_eq_false_iff_eq.mpr c4;clear c4;obtain rfl := Option.some.inj H
  go_enter Try.func71,Try.ntmps71
  go_wp2_with (first | ((with_reducible refine gate_callee (f := 59) rfl ?_);refine gL (some 8) Try.func59 #[.int .i64 a0] ?_;(with_reducible refine (ring_mask.calls a0 t287 _ A3.out).mono ?_);rintro e w' ⟨rfl,⟨nd,rfl⟩⟩;refine ⟨_,rfl,?_⟩))
  go_ret
  exact ⟨_,by first | rfl | (simp [errW_none,errW_some] <;> rfl) | (simp [*,errW_none,errW_some] <;> rfl),by first | exact Kd.R_nil _ _ _ _ _ | exact Kd.N_nil _ _ _ _ _ | exact Kd.V_nil _ _ _ _ _ | exact Kd.Q_nil _ _ _ _ _ | exact Kd.S_nil _ _ _ _ _,rW HB⟩
 ·rw [if_neg c4] at H
  have c4b0 : (t287 == 0) = false := beq_eq_false_iff_ne.mpr c4;have c4b1 : (t287 != 0) = true := bne_iff_ne.mpr c4
  by_cases c5 : 0 ≤ a0
  ·rw [if_pos c5] at H
   have c5b0 := eq_true c5;have c5b1 : decide (0 ≤ a0) = true := decide_eq_true c5;clear c5
   by_cases c6 : (a0 : Int).toNat ≤ 281474976710656
   ·rw [if_pos c6] at H
    have c6b0 := eq_true c6;have c6b1 : decide ((a0 : Int).toNat ≤ 281474976710656) = true := decide_eq_true c6;clear c6;obtain ⟨y288,hy288⟩ : ∃ y_ : List Bool,y_ = (List.replicate (a0 : Int).toNat false) := ⟨_,rfl⟩;replace H : (ring_Bits.l0 k a1 y288 (y288.length : Int) 0) = some r := rY hy288 H;have Ny288 := Aside0.mk hy288;clear hy288;have H' := Aside0.mk H;clear H
    go_enter Try.func71,Try.ntmps71
    go_wp2_with (first | ((with_reducible refine gate_callee (f := 59) rfl ?_);refine gL (some 8) Try.func59 #[.int .i64 a0] ?_;(with_reducible refine (ring_mask.calls a0 t287 _ A3.out).mono ?_);rintro e w' ⟨rfl,⟨nd,rfl⟩⟩;refine ⟨_,rfl,?_⟩) | ((with_reducible refine gate_dst (N := 11) rfl ?_);refine Kd.R_make Kd.bool _ 4 rfl (N := 11) rfl 22 _ _ rfl a0 rfl rfl Try.underlying22 (.bool false) 1 info4 rfl (by decide) (by omega) false (ok := fun _ => True) (okp := fun _ => True) rfl (fun _ hk => hk) trivial (of_decide_eq_true (by first | (with_reducible assumption) | assumption)) (Nat.le_trans (Nat.mul_le_mul_right _ (of_decide_eq_true (by first | (with_reducible assumption) | assumption) : a0.toNat ≤ 281474976710656)) (by omega)) (Below.refl _ _) (Nat.le_refl _) ?_;intro v289 w7 ho8 hb hg_ hnew_;clear hg_ hnew_;(first | rw [← Ny288.out] at ho8 | (simp only [Int.reduceToNat] at ho8;rw [← Ny288.out] at ho8));have HO290 := Aside0.mk (Kd.R_lower ho8 (below_size (rW HB)));replace HB := bs HB hb;clear hb ho8;obtain ⟨Ao9,co9,eo9⟩ := Kd.R_slice HO290.out;subst eo9))
    go_loopg [14] k (fun kq v14 w' => ∃ (x5_1 : List Bool) (x14_1 : Int),v14 = .int .i64 x14_1 ∧ Aside0 (ring_Bits.l0 kq a1 x5_1 (y288.length : Int) x14_1 = some r) ∧ Aside0 (kq ≤ k) ∧ Aside0 (Kd.R Kd.bool 4 w' w.heap.size (fun _ => True) (.slice Ao9 y288.length co9) x5_1) ∧ Aside0 (Below w.heap.size w w'))
    case atStart => exact ⟨(y288),(0),(by first | rfl | (simp;done) | (simp [*];done)),H',⟨Nat.le_refl _⟩,⟨rR HO290⟩,⟨rW HB⟩⟩
    case round =>
     clear H'
     try clear p2
     try clear c4
     try clear c4b0
     try clear c4b1
     try clear c5
     try clear c5b0
     try clear c5b1
     try clear c6
     try clear c6b0
     try clear c6b1
     try clear c7
     obtain ⟨x5_1,x14_1,rfl,HA,HK1,HO_5,HB⟩ := hrel;have hl5_1 := (Kd.R_reads' HO_5.out).1;rw [hl5_1] at HO_5;(try simp only [hl5_1])
     cases gk with
     | zero => exact absurd HA.out (by simp [ring_Bits.l0])
     | succ k1 =>
      have H := HA.out;clear HA;simp only [ring_Bits.l0] at H
      by_cases c10 : x14_1 < (y288.length : Int)
      ·rw [if_pos c10] at H
       have c10b0 : decide (x14_1 < (y288.length : Int)) = true := decide_eq_true c10;clear c10;obtain ⟨ji11,hji11⟩ : ∃ j_ : Int,(IntKind.u64.wrap (x14_1)) = j_ := ⟨_,rfl⟩
       replace H : (if 0 ≤ (ji11) then (if 0 ≤ x14_1 then (if x14_1 < (x5_1.length : Int) then (ring_Bits.l0 k1 a1 (x5_1.set (x14_1 : Int).toNat ((Go.bits .and .u64 (shr .u64 a1 (ji11)) 1) == 1)) (y288.length : Int) (wrap64 (x14_1 + 1))) else (none)) else (none)) else (none)) = some r := by first | (rw [hji11] at H;exact H) | (simp only [hji11] at H ⊢;exact H)
       by_cases c12 : 0 ≤ (ji11)
       ·rw [if_pos c12] at H
        have c12b0 := eq_true c12;have c12b1 : decide (0 ≤ (ji11)) = true := decide_eq_true c12;clear c12;obtain ⟨ji13,hji13⟩ : ∃ j_ : Int,(shr .u64 a1 (ji11)) = j_ := ⟨_,rfl⟩
        replace H : (if 0 ≤ x14_1 then (if x14_1 < (x5_1.length : Int) then (ring_Bits.l0 k1 a1 (x5_1.set (x14_1 : Int).toNat ((Go.bits .and .u64 (ji13) 1) == 1)) (y288.length : Int) (wrap64 (x14_1 + 1))) else (none)) else (none)) = some r := by first | (rw [hji13] at H;exact H) | (simp only [hji13] at H ⊢;exact H)
        have hji13_ : (a1 / 2 ^ min (ji11).toNat 64) = ji13 := hji13;have hji13z : (ji11) ≤ 64 → (a1 / 2 ^ (ji11).toNat) = ji13 := shr_small hji13
        by_cases c14 : 0 ≤ x14_1
        ·rw [if_pos c14] at H
         have c14b0 : decide (0 ≤ x14_1) = true := decide_eq_true c14;clear c14
         by_cases c15 : x14_1 < (x5_1.length : Int)
         ·rw [if_pos c15] at H
          have c15b0 : decide (x14_1 < (x5_1.length : Int)) = true := decide_eq_true c15;clear c15;obtain ⟨y291,hy291⟩ : ∃ y_ : List Bool,y_ = (x5_1.set (x14_1 : Int).toNat ((Go.bits .and .u64 (ji13) 1) == 1)) := ⟨_,rfl⟩;replace H : (ring_Bits.l0 k1 a1 y291 (y288.length : Int) (wrap64 (x14_1 + 1))) = some r := rY hy291 H;have Ny291 := Aside0.mk hy291;clear hy291;have H' := Aside0.mk H;clear H;have p16 : 0 ≤ (x14_1 : Int) := of_decide_eq_true (by first | (with_reducible assumption) | assumption);have q16 : (x14_1 : Int) < ((x5_1.length : Int) : Int) := of_decide_eq_true (by first | (with_reducible assumption) | assumption);obtain ⟨go16,co16,eo16,gb16,gl16,cl16,HG16⟩ := Kd.R_form HO_5.out (by omega);(first | cases eo16 | (injection eo16 with ea_ en_ ec_;(first | subst ea_ | (injection ea_ with ea_;subst ea_));subst ec_;clear en_));have GB16 := Aside0.mk gb16;have GG16 := Aside0.mk HG16;clear gb16 gl16 HG16;obtain ⟨hx16_0,hf16_0⟩ := Kd.R_celln false HO_5.out (x14_1 : Int) p16 q16;replace p16 := eq_true p16;replace q16 := eq_true q16;have HP17 := Kd.R_putg HO_5.out (x14_1 : Int) ((Go.bits .and .u64 (ji13) 1) == 1)
          go_wp2_with (first | ((with_reducible refine gate_store (t := 4) (p := 25) rfl ?_);refine store_event (t := 4) (p := 25) (v := ?vo_w18) (w1 := (wr.setCell ⟨go16,(x14_1 : Int).toNat,none⟩ (.bool ((Go.bits .and .u64 (ji13) 1) == 1)))) ?hg ?ho ?hn ?hr ?_;(case ho => rfl);(case hg => rfl);(case hn => rfl);(case hr => first | (go_simp;done) | (go_simp;rfl));intro w18 hw;have hg : wr.grownBy w18 (some go16) := (by rw [hw];exact HP17.2);have hp_ : Kd.R Kd.bool 4 w18 w.heap.size (fun _ => True) (.slice (some ⟨go16,0,none⟩) x5_1.length co9) y291 := (by rw [hw,Ny291.out];exact HP17.1);clear HP17;replace HO_5 := Aside0.mk (hp_);replace HB := Aside0.mk ((by rw [hw];exact below_set (HB.out) GB16.out : Below w.heap.size w w18));clear hg hw hp_))
          (try simp only [← hl5_1])
          go_roundg k1
          case measure => have := HK1.out;omega
          case rel => exact ⟨(y291),(wrap64 (x14_1 + 1)),(by first | rfl | (simp;done) | (simp [*];done)),H',⟨by have := HK1.out;omega⟩,⟨by (try simp only [hl5_1]);(with_reducible repeat (first | apply Kd.R_alloc | apply Kd.R_drewN | apply Kd.R_drew));exact HO_5.out⟩,⟨rW HB⟩⟩
         ·rw [if_neg c15] at H
          exact absurd H (by simp)
        ·rw [if_neg c14] at H
         exact absurd H (by simp)
       ·rw [if_neg c12] at H
        exact absurd H (by simp)
      ·rw [if_neg c10] at H
       have c10b0 : decide (x14_1 < (y288.length : Int)) = false := decide_eq_false c10;have c10b0_ := c10b0;(try simp only [hl5_1] at c10b0_);clear c10;obtain rfl := Option.some.inj H
       go_wp2
       go_ret
       exact ⟨_,by first | rfl | (simp [errW_none,errW_some] <;> rfl) | (simp [*,errW_none,errW_some] <;> rfl),rR HO_5,rW HB⟩
   ·rw [if_neg c6] at H
    exact absurd H (by simp)
  ·rw [if_neg c5] at H
   exact absurd H (by simp)
def bits_words.f (a0 : Int) : Option (Int) := some (wrap64 (Int.tdiv (wrap64 (a0 + 63)) 64))
set_option maxHeartbeats 8000000 in
set_option maxRecDepth 100000 in
theorem bits_words.calls (a0 : Int) (r : Int) (w : World) (h : bits_words.f a0 = some r) :
  Calls Try.prog 86 #[.int .i64 a0] w fun e w' => e = .returned (.int .i64 r) ∧ Drawn0 w w' := by
 have H : (some (wrap64 (Int.tdiv (wrap64 (a0 + 63)) 64))) = some r := h;clear h;obtain rfl := Option.some.inj H
 go_enter Try.func86,Try.ntmps86
 go_wp2
 go_ret
 exact ⟨by first | rfl | (simp;done) | (simp [*];done),by repeat (first | exact Drawn0.refl _ | apply Drawn0.step)⟩
def bits_New.f (a0 : Int) : Option (Int × List Int × Int) := if a0 < 0 then (some (0,([] : List Int),2)) else (if a0 > 4194304 then (some (0,([] : List Int),2)) else ((bits_words.f a0).bind fun t293 => (if 0 ≤ t293 then (if (t293 : Int).toNat ≤ 35184372088832 then (some (a0,(List.replicate (t293 : Int).toNat 0),0)) else (none)) else (none))))
set_option maxHeartbeats 8000000 in
set_option maxRecDepth 100000 in
theorem bits_New.calls (a0 : Int) (r1 : Int) (r2 : List Int) (r3 : Int) (w : World) (h : bits_New.f a0 = some (r1,r2,r3)) :
  Calls Try.prog 84 #[.int .i64 a0] w fun e w' => ∃ v1_ : Value,e = .returned (.tuple #[.agg #[.int .i64 r1,v1_],.int .i64 r3]) ∧ Kd.R (Kd.int .u64) 32 w' w.heap.size (fun _ => True) v1_ r2 ∧ Below w.heap.size w w' := by
 have hu49 := Try.underlying49;have HB := Aside0.mk (Below.refl w.heap.size w);have H : (if a0 < 0 then (some (0,([] : List Int),2)) else (if a0 > 4194304 then (some (0,([] : List Int),2)) else ((bits_words.f a0).bind fun t293 => (if 0 ≤ t293 then (if (t293 : Int).toNat ≤ 35184372088832 then (some (a0,(List.replicate (t293 : Int).toNat 0),0)) else (none)) else (none))))) = some (r1,r2,r3) := h;clear h
 by_cases c2 : a0 < 0
 ·rw [if_pos c2] at H
  have c2b0 : decide (a0 < 0) = true := decide_eq_true c2;clear c2;simp only [Option.some.injEq,Prod.mk.injEq] at H;obtain ⟨rfl,rfl,rfl⟩ := H
  go_enter Try.func84,Try.ntmps84
  go_wp2_with (first | ((with_reducible refine gate_dst (N := 2) rfl ?_);refine bx 2 #[.int .i64 0,.slice none 0 0] 49 ?_;intro gb292 hg w3 hbox hb;have BK292 := Aside0.mk hbox;have GW292 := bz HB hg;have GE292 := bz HB hg;replace HB := bs HB hb;clear hb hbox hg;obtain ⟨hcz4_0,hcz4_1,hfz4_0,hfz4_1⟩ := cz2 BK292))
  refine bodyPost_ret (results_ct rfl _ _ gb292 49 #[.int .i64 0,.slice none 0 0] (0,0) _ rfl (by (with_reducible repeat (first | refine blk_drewN ?_ _ | refine blk_drew ?_ | refine blk_alloc ?_ _));refine blk_put (cs := #[.int .i64 0,.slice none 0 0]) ?_ 1 _ rfl;(with_reducible repeat (first | refine blk_drewN ?_ _ | refine blk_drew ?_ | refine blk_alloc ?_ _));refine blk_put (cs := #[.int .i64 0,.slice none 0 0]) ?_ 0 _ rfl;(with_reducible repeat (first | refine blk_drewN ?_ _ | refine blk_drew ?_ | refine blk_alloc ?_ _));exact BK292.out) Try.underlying49 rfl (by kernel_rfl)) rfl ?_;exact ⟨_,by first | rfl | (simp [errW_none,errW_some] <;> rfl) | (simp [*,errW_none,errW_some] <;> rfl),by first | exact Kd.R_nil _ _ _ _ _ | exact Kd.N_nil _ _ _ _ _ | exact Kd.V_nil _ _ _ _ _ | exact Kd.Q_nil _ _ _ _ _ | exact Kd.S_nil _ _ _ _ _,rW HB⟩
 ·rw [if_neg c2] at H
  have c2b0 : decide (a0 < 0) = false := decide_eq_false c2;clear c2
  by_cases c5 : a0 > 4194304
  ·rw [if_pos c5] at H
   have c5b0 : decide (4194304 < a0) = true := decide_eq_true c5;clear c5;simp only [Option.some.injEq,Prod.mk.injEq] at H;obtain ⟨rfl,rfl,rfl⟩ := H
   go_enter Try.func84,Try.ntmps84
   go_wp2_with (first | ((with_reducible refine gate_dst (N := 2) rfl ?_);refine bx 2 #[.int .i64 0,.slice none 0 0] 49 ?_;intro gb292 hg w6 hbox hb;have BK292 := Aside0.mk hbox;have GW292 := bz HB hg;have GE292 := bz HB hg;replace HB := bs HB hb;clear hb hbox hg;obtain ⟨hcz7_0,hcz7_1,hfz7_0,hfz7_1⟩ := cz2 BK292))
   refine bodyPost_ret (results_ct rfl _ _ gb292 49 #[.int .i64 0,.slice none 0 0] (0,0) _ rfl (by (with_reducible repeat (first | refine blk_drewN ?_ _ | refine blk_drew ?_ | refine blk_alloc ?_ _));refine blk_put (cs := #[.int .i64 0,.slice none 0 0]) ?_ 1 _ rfl;(with_reducible repeat (first | refine blk_drewN ?_ _ | refine blk_drew ?_ | refine blk_alloc ?_ _));refine blk_put (cs := #[.int .i64 0,.slice none 0 0]) ?_ 0 _ rfl;(with_reducible repeat (first | refine blk_drewN ?_ _ | refine blk_drew ?_ | refine blk_alloc ?_ _));exact BK292.out) Try.underlying49 rfl (by kernel_rfl)) rfl ?_;exact ⟨_,by first | rfl | (simp [errW_none,errW_some] <;> rfl) | (simp [*,errW_none,errW_some] <;> rfl),by first | exact Kd.R_nil _ _ _ _ _ | exact Kd.N_nil _ _ _ _ _ | exact Kd.V_nil _ _ _ _ _ | exact Kd.Q_nil _ _ _ _ _ | exact Kd.S_nil _ _ _ _ _,rW HB⟩
  ·rw [if_neg c5] at H
   have c5b0 : decide (4194304 < a0) = false := decide_eq_false c5;clear c5;replace H := Option.bind_eq_some_iff.mp H;obtain ⟨t293,A80,H⟩ := H;replace H : (if 0 ≤ t293 then (if (t293 : Int).toNat ≤ 35184372088832 then (some (a0,(List.replicate (t293 : Int).toNat 0),0)) else (none)) else (none)) = some (r1,r2,r3) := H;have A8 := Aside0.mk A80;clear A80
   by_cases c9 : 0 ≤ t293
   ·rw [if_pos c9] at H
    have c9b0 := eq_true c9;have c9b1 : decide (0 ≤ t293) = true := decide_eq_true c9;clear c9
    by_cases c10 : (t293 : Int).toNat ≤ 35184372088832
    ·rw [if_pos c10] at H
     have c10b0 := eq_true c10;have c10b1 : decide ((t293 : Int).toNat ≤ 35184372088832) = true := decide_eq_true c10;clear c10;obtain ⟨y294,hy294⟩ : ∃ y_ : List Int,y_ = (List.replicate (t293 : Int).toNat 0) := ⟨_,rfl⟩;replace H : (some (a0,y294,0)) = some (r1,r2,r3) := rY hy294 H;have Ny294 := Aside0.mk hy294;clear hy294;simp only [Option.some.injEq,Prod.mk.injEq] at H;obtain ⟨rfl,rfl,rfl⟩ := H
     go_enter Try.func84,Try.ntmps84
     go_wp2_with (first | ((with_reducible refine gate_dst (N := 2) rfl ?_);refine bx 2 #[.int .i64 0,.slice none 0 0] 49 ?_;intro gb292 hg w11 hbox hb;have BK292 := Aside0.mk hbox;have GW292 := bz HB hg;have GE292 := bz HB hg;replace HB := bs HB hb;clear hb hbox hg) | ((with_reducible refine gate_callee (f := 86) rfl ?_);refine gL (some 13) Try.func86 #[.int .i64 a0] ?_;(with_reducible refine (bits_words.calls a0 t293 _ A8.out).mono ?_);rintro e w' ⟨rfl,⟨nd,rfl⟩⟩;refine ⟨_,rfl,?_⟩;(try (rw [drewN_self w11];(try simp only [World.drewN_drewN]);generalize hq_ : World.drewN w11 _ = w11;have n0_ : Aside0 (w11.heap[gb292]? = some (.cells #[.int .i64 0,.slice none 0 0] 49 (0,0))) := ⟨by rw [← hq_];exact (rB BK292)⟩;have n1_ : Aside0 (Below w.heap.size w w11) := ⟨by rw [← hq_];exact (rW HB)⟩;clear BK292 HB hq_;have BK292 := n0_;have HB := n1_;clear n0_ n1_))) | ((with_reducible refine gate_dst (N := 14) rfl ?_);refine Kd.R_make (Kd.int .u64) _ 32 rfl (N := 14) rfl 23 _ _ rfl t293 rfl rfl Try.underlying23 (.int .u64 0) 8 info32 rfl (by decide) (by omega) 0 (ok := fun _ => True) (okp := fun _ => True) rfl (fun _ hk => hk) trivial (of_decide_eq_true (by first | (with_reducible assumption) | assumption)) (Nat.le_trans (Nat.mul_le_mul_right _ (of_decide_eq_true (by first | (with_reducible assumption) | assumption) : t293.toNat ≤ 35184372088832)) (by omega)) (Below.refl _ _) (Nat.le_refl _) ?_;intro v295 w12 ho13 hb hg_ hnew_;clear hg_ hnew_;(first | rw [← Ny294.out] at ho13 | (simp only [Int.reduceToNat] at ho13;rw [← Ny294.out] at ho13));have HO296 := Aside0.mk (Kd.R_lower ho13 (below_size (rW HB)));replace BK292 := bb BK292 hb;replace HB := bs HB hb;clear hb ho13;obtain ⟨Ao14,co14,eo14⟩ := Kd.R_slice HO296.out;subst eo14;obtain ⟨hcz15_0,hcz15_1,hfz15_0,hfz15_1⟩ := cz2 BK292))
     refine bodyPost_ret (results_ct rfl _ _ gb292 49 #[.int .i64 a0,.slice Ao14 y294.length co14] (0,0) _ rfl (by (with_reducible repeat (first | refine blk_drewN ?_ _ | refine blk_drew ?_ | refine blk_alloc ?_ _));refine blk_put (cs := #[.int .i64 a0,.slice none 0 0]) ?_ 1 _ rfl;(with_reducible repeat (first | refine blk_drewN ?_ _ | refine blk_drew ?_ | refine blk_alloc ?_ _));refine blk_put (cs := #[.int .i64 0,.slice none 0 0]) ?_ 0 _ rfl;(with_reducible repeat (first | refine blk_drewN ?_ _ | refine blk_drew ?_ | refine blk_alloc ?_ _));exact BK292.out) Try.underlying49 rfl (by kernel_rfl)) rfl ?_;exact ⟨_,by first | rfl | (simp [errW_none,errW_some] <;> rfl) | (simp [*,errW_none,errW_some] <;> rfl),by (with_reducible repeat (first | apply Kd.R_alloc | apply Kd.R_drewN | apply Kd.R_drew));exact Kd.R_mono (Kd.R_far (p := ⟨gb292,1,none⟩) (Kd.R_far (p := ⟨gb292,0,none⟩) (Kd.R_types HO296.out BK292.out (by decide)) (fun _ hk => hk.2) (.int .i64 a0)) (fun _ hk => hk.2) (.slice Ao14 y294.length co14)) (fun _ hk => trivial),rW HB⟩
    ·rw [if_neg c10] at H
     exact absurd H (by simp)
   ·rw [if_neg c9] at H
    exact absurd H (by simp)
end Go.Proofs.Ytbhfleilgjonpaa.XScalarComes
