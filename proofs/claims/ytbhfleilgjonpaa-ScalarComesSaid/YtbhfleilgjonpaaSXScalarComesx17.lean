import Derived.Test.YtbhfleilgjonpaaSXShort
import Derived.Test.YtbhfleilgjonpaaSXScalarComesx0
import Derived.Test.YtbhfleilgjonpaaSXScalarComesx10
namespace Go.Proofs.Ytbhfleilgjonpaa.XScalarComes
open Go.RowKit Go.Proofs.YtbhfleilgjonpaaW.PrintWords Go.Proofs.YtbhfleilgjonpaaW.PrintLast Go.Proofs.YtbhfleilgjonpaaW.PrintMore
attribute [local go_sem] max2_int min2_int max_two min_two max_three min_three max_four min_four
set_option linter.unusedVariables false
set_option linter.unusedSimpArgs false
def trefoilref22_Sum.l0 : Nat → Int → List Int → List Int → List Int → Int → Option (List Int)
 | 0,_,_,_,_,_ => none
 | k + 1,x0,x1,x2,x7,x8 => if x8 < (x1.length : Int) then (if x8 < (x2.length : Int) then (if 0 ≤ x8 then ((trefoilref03_Add.f k x0 (rd x1 x8) (rd x2 x8)).bind fun t516 => (if x7.length < 17592186044416 then (trefoilref22_Sum.l0 k x0 x1 x2 (x7 ++ [t516]) (wrap64 (x8 + 1))) else (none))) else (none)) else (some x7)) else (some x7)
def trefoilref22_Sum.f (k : Nat) (a0 : Int) (l1 : List Int) (l2 : List Int) : Option (List Int) := trefoilref22_Sum.l0 k a0 l1 l2 ([] : List Int) 0
theorem trefoilref22_Sum.mono_l : ∀ k,(∀ y0 y1 y2 y3 y4,LeO (trefoilref22_Sum.l0 k y0 y1 y2 y3 y4) (trefoilref22_Sum.l0 (k + 1) y0 y1 y2 y3 y4))
 | 0 => fun _ _ _ _ _ r h => by simp [trefoilref22_Sum.l0] at h
 | k + 1 => by
  have ih0 := trefoilref22_Sum.mono_l k
  ·intro y0 y1 y2 y3 y4
   unfold trefoilref22_Sum.l0
   repeat' first | (with_reducible first | exact ih0 _ _ _ _ _ | exact trefoilref03_Add.mono _ _ _ _ | exact LeO.refl _ | exact LeO.none _ | refine LeO.ite ?_ ?_ | refine LeO.bind ?_ (fun _ => ?_)) | exact LeO.none _ | refine LeO.ite ?_ ?_ | refine LeO.bind ?_ (fun _ => ?_)
theorem trefoilref22_Sum.mono : ∀ a0 a1 a2 k,LeO (trefoilref22_Sum.f k a0 a1 a2) (trefoilref22_Sum.f (k + 1) a0 a1 a2) := by
 intro a0 a1 a2 k;have ih0 := trefoilref22_Sum.mono_l k;unfold trefoilref22_Sum.f
 repeat' first | (with_reducible first | exact ih0 _ _ _ _ _ | exact trefoilref03_Add.mono _ _ _ _ | exact LeO.refl _ | exact LeO.none _ | refine LeO.ite ?_ ?_ | refine LeO.bind ?_ (fun _ => ?_)) | exact LeO.none _ | refine LeO.ite ?_ ?_ | refine LeO.bind ?_ (fun _ => ?_)
def trefoilref22_Sum.T5 : Bool × List (List Nat × List Nat) := (true,[([],[]),([],[]),([],[]),([],[]),([2,3],[2,3]),([4],[4]),([],[]),([],[]),([6,7],[6,7]),([8],[8]),([1,5,9],[1,5,9]),([10],[10]),([0,11,10],[0,11]),([12,12,0,1,2,3,4,5,6,7,8,9,10,11,12],[0,12])])
def trefoilref22_Sum.B5 : List Nat := [0,0,0,0,12,28,0,0,192,448,1022,2046,4095,8191]
theorem trefoilref22_Sum.tab5 : rtab .any (opsOf Try.f47 5) = trefoilref22_Sum.T5 := by kernel_rfl
theorem trefoilref22_Sum.bits5 : waitsOk trefoilref22_Sum.T5.2 trefoilref22_Sum.B5 = true := by kernel_rfl
set_option maxHeartbeats 8000000 in
set_option maxRecDepth 100000 in
theorem trefoilref22_Sum.calls (k : Nat) (a0 : Int) (A1 : Option Addr) (c1 : Nat) (l1 : List Int) (A2 : Option Addr) (c2 : Nat) (l2 : List Int) (r : List Int) (w : World) (hr1 : Kd.C (Kd.int .u64) w A1 l1.length l1) (hc1 : l1.length ≤ c1) (hr2 : Kd.C (Kd.int .u64) w A2 l2.length l2) (hc2 : l2.length ≤ c2) (h : trefoilref22_Sum.f k a0 l1 l2 = some r) :
  Calls Try.prog 47 #[.int .i64 a0,.slice A1 l1.length c1,.slice A2 l2.length c2] w fun e w' => ∃ v0_ : Value,e = .returned (v0_) ∧ Kd.R (Kd.int .u64) 32 w' w.heap.size (fun _ => True) v0_ r ∧ Below w.heap.size w w' := by
 have HR1 := Aside0.mk hr1;have HC1 := Aside0.mk hc1;clear hr1 hc1;have HR2 := Aside0.mk hr2;have HC2 := Aside0.mk hc2;clear hr2 hc2;have HB := Aside0.mk (Below.refl w.heap.size w);have H : (trefoilref22_Sum.l0 k a0 l1 l2 ([] : List Int) 0) = some r := h;clear h;have H' := Aside0.mk H;clear H
 go_enter Try.func47,Try.ntmps47
 go_wp2
 go_loopg [7,8] k (fun kq v7 v8 w' => ∃ (x7_1 : List Int) (x8_1 : Int),v8 = .int .i64 x8_1 ∧ Aside0 (trefoilref22_Sum.l0 kq a0 l1 l2 x7_1 x8_1 = some r) ∧ Aside0 (kq ≤ k) ∧ Aside0 (Kd.R (Kd.int .u64) 32 w' w.heap.size (fun _ => True) v7 x7_1) ∧ Aside0 (Below w.heap.size w w'))
 case atStart => exact ⟨(([] : List Int)),(0),(by first | rfl | (simp;done) | (simp [*];done)),H',⟨Nat.le_refl _⟩,⟨by first | exact Kd.R_nil _ _ _ _ _ | exact Kd.N_nil _ _ _ _ _ | exact Kd.V_nil _ _ _ _ _ | exact Kd.Q_nil _ _ _ _ _ | exact Kd.S_nil _ _ _ _ _⟩,⟨rW HB⟩⟩
 case round =>
  clear H'
  try clear c1
  try clear c2
  try clear p2
  obtain ⟨x7_1,x8_1,rfl,HA,HK1,HO_7,HB⟩ := hrel
  cases gk with
  | zero => exact absurd HA.out (by simp [trefoilref22_Sum.l0])
  | succ k1 =>
   have H := HA.out;clear HA;simp only [trefoilref22_Sum.l0] at H
   by_cases c4 : x8_1 < (l1.length : Int)
   ·rw [if_pos c4] at H
    have c4b0 : decide (x8_1 < (l1.length : Int)) = true := decide_eq_true c4;clear c4
    by_cases c5 : x8_1 < (l2.length : Int)
    ·rw [if_pos c5] at H
     have c5b0 : decide (x8_1 < (l2.length : Int)) = true := decide_eq_true c5;clear c5
     by_cases c6 : 0 ≤ x8_1
     ·rw [if_pos c6] at H
      have c6b0 : decide (0 ≤ x8_1) = true := decide_eq_true c6;clear c6;replace H := Option.bind_eq_some_iff.mp H;obtain ⟨t516,A70,H⟩ := H;replace H : (if x7_1.length < 17592186044416 then (trefoilref22_Sum.l0 k1 a0 l1 l2 (x7_1 ++ [t516]) (wrap64 (x8_1 + 1))) else (none)) = some r := H;have A7 := Aside0.mk A70;clear A70
      by_cases c8 : x7_1.length < 17592186044416
      ·rw [if_pos c8] at H
       have LMc8 := Aside0.mk c8;clear c8;obtain ⟨y517,hy517⟩ : ∃ y_ : List Int,y_ = (x7_1 ++ [t516]) := ⟨_,rfl⟩;replace H : (trefoilref22_Sum.l0 k1 a0 l1 l2 y517 (wrap64 (x8_1 + 1))) = some r := rY hy517 H;have Ny517 := Aside0.mk hy517;clear hy517;have H' := Aside0.mk H;clear H
       try go_wp2
       replace HO_7 := Aside0.mk (Kd.R_drew HO_7.out);replace HB := Aside0.mk (below_drew1 HB.out);have p514 : 0 ≤ (x8_1 : Int) := of_decide_eq_true (by first | (with_reducible assumption) | assumption);have q514 : x8_1 < (l1.length : Int) := of_decide_eq_true (by first | (with_reducible assumption) | assumption);obtain ⟨ad514,e514,hx514_0⟩ := Kd.at_int HR1.out x8_1 p514 q514;have hw514_0 := hx514_0
       cases e514
       replace hx514_0 := (HB.out.cell (World.block_lt_of_cell? w _ hx514_0)).trans hx514_0;replace p514 := eq_true p514;replace q514 := eq_true q514;have p515 : 0 ≤ (x8_1 : Int) := of_decide_eq_true (by first | (with_reducible assumption) | assumption);have q515 : x8_1 < (l2.length : Int) := of_decide_eq_true (by first | (with_reducible assumption) | assumption);obtain ⟨ad515,e515,hx515_0⟩ := Kd.at_int HR2.out x8_1 p515 q515;have hw515_0 := hx515_0
       cases e515
       replace hx515_0 := (HB.out.cell (World.block_lt_of_cell? w _ hx515_0)).trans hx515_0;replace p515 := eq_true p515;replace q515 := eq_true q515;refine start_ (n := 14) (S := fun w' => w'.cell? (ad514.add (x8_1).toNat) = some (.int .u64 (rd l1 x8_1)) ∧ w'.cell? (ad515.add (x8_1).toNat) = some (.int .u64 (rd l2 x8_1))) (ds := []) (bA 14 0) (by kernel_rfl) rfl rfl ⟨((HB.out.cell (World.block_lt_of_cell? w _ hw514_0)).trans hw514_0),((HB.out.cell (World.block_lt_of_cell? w _ hw515_0)).trans hw515_0)⟩ (fun hHeld => ?_);refine with_tabW trefoilref22_Sum.tab5 trefoilref22_Sum.bits5 (fun HT_ HW_ => ?_);generalize wr.drew = w9 at HO_7 HB hx514_0 hx515_0 hHeld ⊢;refine pu_ 0 (some 21) (bA 14 1) HT_ ?_;refine pu_ 1 (some 22) (bA 14 3) HT_ ?_;refine pu_ 2 (some 23) (bA 14 7) HT_ ?_;refine pu_ 3 (some 24) (bA 14 15) HT_ ?_;refine pu_ 4 (some 25) (bA 14 31) HT_ ?_;refine pu_ 6 (some 27) (bA 14 95) HT_ ?_;refine pu_ 7 (some 28) (bA 14 223) HT_ ?_;refine pu_ 8 (some 29) (bA 14 479) HT_ ?_;refine ta_ 5 (some 26) (bA 14 511) HT_ HW_ hHeld ?_;refine ta_ 9 (some 30) (bA 14 1023) HT_ HW_ hHeld ?_;refine one_ (i := 10) (N := some 31) (bA 14 2047) rfl rfl (one_of HT_.out (by kernel_rfl)) (by decide) (fun K hK => ?_);refine gG Try.func14 #[.int .i64 a0,.int .u64 (rd l1 x8_1),.int .u64 (rd l2 x8_1)] ?_;(with_reducible refine (trefoilref03_Add.calls k1 a0 (rd l1 x8_1) (rd l2 x8_1) t516 _ A7.out).mono ?_);rintro e w' ⟨rfl,⟨nd,rfl⟩⟩;refine ⟨_,rfl,?_⟩;refine hK.out _ _ ⟨((HB.out.cell (World.block_lt_of_cell? w _ hw514_0)).trans hw514_0),((HB.out.cell (World.block_lt_of_cell? w _ hw515_0)).trans hw515_0)⟩ (fun hHeld => ?_);clear hK K;refine norm_ (a' := ?_) ?_ ?_;rotate_left
       ·show Act.put _ (some 31) _ = _
        simp only [Act.put,sT,sZ,sS,i64_w,i32_w]
        rfl
       refine one_ (i := 11) (N := some 32) (bA 14 4095) rfl rfl (one_of HT_.out (by kernel_rfl)) (by decide) (fun K hK => ?_);refine value_ (w1 := ?_) (v := ?_) (by rfl) rfl ?_ ?_;rotate_left 2
       ·go_simp
        constructor
        ·rfl
        ·rfl
       refine hK.out _ _ ⟨(World.cell?_alloc_lt _ _ _ (World.block_lt_of_cell? _ _ (((HB.out.cell (World.block_lt_of_cell? w _ hw514_0)).trans hw514_0)))).trans (((HB.out.cell (World.block_lt_of_cell? w _ hw514_0)).trans hw514_0)),(World.cell?_alloc_lt _ _ _ (World.block_lt_of_cell? _ _ (((HB.out.cell (World.block_lt_of_cell? w _ hw515_0)).trans hw515_0)))).trans (((HB.out.cell (World.block_lt_of_cell? w _ hw515_0)).trans hw515_0))⟩ (fun hHeld => ?_);clear hK K;refine norm_ (a' := ?_) ?_ ?_;rotate_left
       ·show Act.put _ (some 32) _ = _
        simp only [Act.put,sT,sZ,sS,i64_w,i32_w]
        rfl
       refine one_ (i := 12) (N := some 33) (bA 14 8191) rfl rfl (one_of HT_.out (by kernel_rfl)) (by decide) (fun K hK => ?_);refine Kd.R_append_step (Kd.int .u64) (w0 := w) w.heap.size (by rfl) (.tmp 21) (.tmp 32) 23 32 (.int .u64 0) 8 rfl Try.underlying23 info32 rfl (by decide) (by omega) u7 x7_1 t516 [.int .u64 t516] (fun _ => True) (fun _ => False) rfl rfl ?aP (fun _ hk => hk.elim) ?aF ?aO ?aB ?aS ?aL ?_;(case aP => exact rfl);(case aB => exact (rW HB));(case aF => exact (fun _ _ => trivial));(case aO => exact (rR HO_7));(case aS => exact (below_size (rW HB)));(case aL => have := LMc8.out;omega);intro v518 w10 ho hb hg hat;rw [← Ny517.out] at ho;replace HB := Aside0.mk (hb);have HO519 := Aside0.mk (ho);clear HO_7;clear ho hb hg hat;refine hK.out _ _ ⟨((HB.out.cell (World.block_lt_of_cell? w _ hw514_0)).trans hw514_0),((HB.out.cell (World.block_lt_of_cell? w _ hw515_0)).trans hw515_0)⟩ (fun hHeld => ?_);clear hK K;refine norm_ (a' := ?_) ?_ ?_;rotate_left
       ·show Act.put _ (some 33) _ = _
        simp only [Act.put,sT,sZ,sS,i64_w,i32_w]
        rfl
       refine pu_ 13 (some 7) (bA 14 16383) HT_ ?_;refine done_ (done_of HT_.out (by kernel_rfl)) ?_
       try go_wp2
       go_roundg k1
       case measure => have := HK1.out;omega
       case rel => exact ⟨(y517),(wrap64 (x8_1 + 1)),(by first | rfl | (simp;done) | (simp [*];done)),H',⟨by have := HK1.out;omega⟩,⟨rR HO519⟩,⟨rW HB⟩⟩
      ·rw [if_neg c8] at H
       exact absurd H (by simp)
     ·rw [if_neg c6] at H
      exact absurd H (by simp)
    ·rw [if_neg c5] at H
     have c5b0 : decide (x8_1 < (l2.length : Int)) = false := decide_eq_false c5;clear c5;obtain rfl := Option.some.inj H
     go_wp2
     go_ret
     exact ⟨_,by first | rfl | (simp [errW_none,errW_some] <;> rfl) | (simp [*,errW_none,errW_some] <;> rfl),rR HO_7,rW HB⟩
   ·rw [if_neg c4] at H
    have c4b0 : decide (x8_1 < (l1.length : Int)) = false := decide_eq_false c4;clear c4;obtain rfl := Option.some.inj H
    go_wp2
    go_ret
    exact ⟨_,by first | rfl | (simp [errW_none,errW_some] <;> rfl) | (simp [*,errW_none,errW_some] <;> rfl),rR HO_7,rW HB⟩
def trefoilref19_Fits.l0 : Nat → Int → List Int → Int → Option (Bool)
 | 0,_,_,_ => none
 | k + 1,x0,x1,x5 => if x5 < (x1.length : Int) then (if 0 ≤ x5 then ((trefoilref03_Fit.f k x0 (rd x1 x5)).bind fun t521 => (if t521 = (rd x1 x5) then (trefoilref19_Fits.l0 k x0 x1 (wrap64 (x5 + 1))) else (some false))) else (none)) else (some true)
def trefoilref19_Fits.f (k : Nat) (a0 : Int) (l1 : List Int) : Option (Bool) := trefoilref19_Fits.l0 k a0 l1 0
theorem trefoilref19_Fits.mono_l : ∀ k,(∀ y0 y1 y2,LeO (trefoilref19_Fits.l0 k y0 y1 y2) (trefoilref19_Fits.l0 (k + 1) y0 y1 y2))
 | 0 => fun _ _ _ r h => by simp [trefoilref19_Fits.l0] at h
 | k + 1 => by
  have ih0 := trefoilref19_Fits.mono_l k
  ·intro y0 y1 y2
   unfold trefoilref19_Fits.l0
   repeat' first | (with_reducible first | exact ih0 _ _ _ | exact trefoilref03_Fit.mono _ _ _ | exact LeO.refl _ | exact LeO.none _ | refine LeO.ite ?_ ?_ | refine LeO.bind ?_ (fun _ => ?_)) | exact LeO.none _ | refine LeO.ite ?_ ?_ | refine LeO.bind ?_ (fun _ => ?_)
theorem trefoilref19_Fits.mono : ∀ a0 a1 k,LeO (trefoilref19_Fits.f k a0 a1) (trefoilref19_Fits.f (k + 1) a0 a1) := by
 intro a0 a1 k;have ih0 := trefoilref19_Fits.mono_l k;unfold trefoilref19_Fits.f
 repeat' first | (with_reducible first | exact ih0 _ _ _ | exact trefoilref03_Fit.mono _ _ _ | exact LeO.refl _ | exact LeO.none _ | refine LeO.ite ?_ ?_ | refine LeO.bind ?_ (fun _ => ?_)) | exact LeO.none _ | refine LeO.ite ?_ ?_ | refine LeO.bind ?_ (fun _ => ?_)
set_option maxHeartbeats 8000000 in
set_option maxRecDepth 100000 in
theorem trefoilref19_Fits.calls (k : Nat) (a0 : Int) (A1 : Option Addr) (c1 : Nat) (l1 : List Int) (r : Bool) (w : World) (hr1 : Kd.C (Kd.int .u64) w A1 l1.length l1) (hc1 : l1.length ≤ c1) (h : trefoilref19_Fits.f k a0 l1 = some r) :
  Calls Try.prog 48 #[.int .i64 a0,.slice A1 l1.length c1] w fun e w' => e = .returned (.bool r) ∧ Drawn0 w w' := by
 have HR1 := Aside0.mk hr1;have HC1 := Aside0.mk hc1;clear hr1 hc1;have H : (trefoilref19_Fits.l0 k a0 l1 0) = some r := h;clear h;have H' := Aside0.mk H;clear H
 go_enter Try.func48,Try.ntmps48
 go_wp2
 repeat (go_quiet (fail);try go_wp2)
 go_loopg [5] k (fun kq v5 w' => ∃ (x5_1 : Int),v5 = .int .i64 x5_1 ∧ Aside0 (trefoilref19_Fits.l0 kq a0 l1 x5_1 = some r) ∧ Aside0 (kq ≤ k) ∧ Drawn0 w w')
 case atStart => exact ⟨(0),(by first | rfl | (simp;done) | (simp [*];done)),H',⟨Nat.le_refl _⟩,by repeat (first | exact Drawn0.refl _ | apply Drawn0.step)⟩
 case round =>
  clear H'
  try clear c1
  try clear p2
  obtain ⟨x5_1,rfl,HA,HK1,⟨m1,rfl⟩⟩ := hrel
  cases gk with
  | zero => exact absurd HA.out (by simp [trefoilref19_Fits.l0])
  | succ k1 =>
   have H := HA.out;clear HA;simp only [trefoilref19_Fits.l0] at H
   by_cases c3 : x5_1 < (l1.length : Int)
   ·rw [if_pos c3] at H
    have c3b0 : decide (x5_1 < (l1.length : Int)) = true := decide_eq_true c3;clear c3
    by_cases c4 : 0 ≤ x5_1
    ·rw [if_pos c4] at H
     have c4b0 : decide (0 ≤ x5_1) = true := decide_eq_true c4;clear c4;replace H := Option.bind_eq_some_iff.mp H;obtain ⟨t521,A50,H⟩ := H;replace H : (if t521 = (rd l1 x5_1) then (trefoilref19_Fits.l0 k1 a0 l1 (wrap64 (x5_1 + 1))) else (some false)) = some r := H;have A5 := Aside0.mk A50;clear A50
     by_cases c6 : t521 = (rd l1 x5_1)
     ·rw [if_pos c6] at H
      have c6b0 : (t521 == (rd l1 x5_1)) = true := beq_iff_eq.mpr c6;have c6b1 : (t521 != (rd l1 x5_1)) = false := bne_eq_false_iff_eq.mpr c6;clear c6;have H' := Aside0.mk H;clear H;have p520 : 0 ≤ (x5_1 : Int) := of_decide_eq_true (by first | (with_reducible assumption) | assumption);have q520 : x5_1 < (l1.length : Int) := of_decide_eq_true (by first | (with_reducible assumption) | assumption);obtain ⟨ad520,e520,hx520_0⟩ := Kd.at_int HR1.out x5_1 p520 q520
      cases e520
      replace p520 := eq_true p520;replace q520 := eq_true q520
      go_wp2_with (first | (go_at_call 9;(with_reducible refine (trefoilref03_Fit.calls k1 a0 (rd l1 x5_1) t521 _ A5.out).mono ?_);rintro e w' ⟨rfl,⟨nd,rfl⟩⟩;(try first | exact ⟨rfl,_,World.drewN_drewN _ _ _⟩ | exact ⟨rfl,_,Eq.trans (World.drewN_drewN _ _ _) (congrArg (World.drewN _) (Nat.add_assoc _ _ _))⟩);have p522 : 0 ≤ (x5_1 : Int) := of_decide_eq_true (by first | (with_reducible assumption) | assumption);have q522 : x5_1 < (l1.length : Int) := of_decide_eq_true (by first | (with_reducible assumption) | assumption);obtain ⟨ad522,e522,hx522_0⟩ := Kd.at_int HR1.out x5_1 p522 q522;obtain rfl : ad520 = ad522 := (by injection e522);replace p522 := eq_true p522;replace q522 := eq_true q522))
      repeat (go_quiet (first | (go_at_call 9;(with_reducible refine (trefoilref03_Fit.calls k1 a0 (rd l1 x5_1) t521 _ A5.out).mono ?_);rintro e w' ⟨rfl,⟨nd,rfl⟩⟩;(try first | exact ⟨rfl,_,World.drewN_drewN _ _ _⟩ | exact ⟨rfl,_,Eq.trans (World.drewN_drewN _ _ _) (congrArg (World.drewN _) (Nat.add_assoc _ _ _))⟩);have p522 : 0 ≤ (x5_1 : Int) := of_decide_eq_true (by first | (with_reducible assumption) | assumption);have q522 : x5_1 < (l1.length : Int) := of_decide_eq_true (by first | (with_reducible assumption) | assumption);obtain ⟨ad522,e522,hx522_0⟩ := Kd.at_int HR1.out x5_1 p522 q522;obtain rfl : ad520 = ad522 := (by injection e522);replace p522 := eq_true p522;replace q522 := eq_true q522));try go_wp2_with (first | (go_at_call 9;(with_reducible refine (trefoilref03_Fit.calls k1 a0 (rd l1 x5_1) t521 _ A5.out).mono ?_);rintro e w' ⟨rfl,⟨nd,rfl⟩⟩;(try first | exact ⟨rfl,_,World.drewN_drewN _ _ _⟩ | exact ⟨rfl,_,Eq.trans (World.drewN_drewN _ _ _) (congrArg (World.drewN _) (Nat.add_assoc _ _ _))⟩);have p522 : 0 ≤ (x5_1 : Int) := of_decide_eq_true (by first | (with_reducible assumption) | assumption);have q522 : x5_1 < (l1.length : Int) := of_decide_eq_true (by first | (with_reducible assumption) | assumption);obtain ⟨ad522,e522,hx522_0⟩ := Kd.at_int HR1.out x5_1 p522 q522;obtain rfl : ad520 = ad522 := (by injection e522);replace p522 := eq_true p522;replace q522 := eq_true q522)))
      go_roundg k1
      case measure => have := HK1.out;omega
      case rel => exact ⟨(wrap64 (x5_1 + 1)),(by first | rfl | (simp;done) | (simp [*];done)),H',⟨by have := HK1.out;omega⟩,by repeat (first | exact Drawn0.refl _ | apply Drawn0.step)⟩
     ·rw [if_neg c6] at H
      have c6b0 : (t521 == (rd l1 x5_1)) = false := beq_eq_false_iff_ne.mpr c6;have c6b1 : (t521 != (rd l1 x5_1)) = true := bne_iff_ne.mpr c6;obtain rfl := Option.some.inj H;have p520 : 0 ≤ (x5_1 : Int) := of_decide_eq_true (by first | (with_reducible assumption) | assumption);have q520 : x5_1 < (l1.length : Int) := of_decide_eq_true (by first | (with_reducible assumption) | assumption);obtain ⟨ad520,e520,hx520_0⟩ := Kd.at_int HR1.out x5_1 p520 q520
      cases e520
      replace p520 := eq_true p520;replace q520 := eq_true q520
      go_wp2_with (first | (go_at_call 9;(with_reducible refine (trefoilref03_Fit.calls k1 a0 (rd l1 x5_1) t521 _ A5.out).mono ?_);rintro e w' ⟨rfl,⟨nd,rfl⟩⟩;(try first | exact ⟨rfl,_,World.drewN_drewN _ _ _⟩ | exact ⟨rfl,_,Eq.trans (World.drewN_drewN _ _ _) (congrArg (World.drewN _) (Nat.add_assoc _ _ _))⟩);have p522 : 0 ≤ (x5_1 : Int) := of_decide_eq_true (by first | (with_reducible assumption) | assumption);have q522 : x5_1 < (l1.length : Int) := of_decide_eq_true (by first | (with_reducible assumption) | assumption);obtain ⟨ad522,e522,hx522_0⟩ := Kd.at_int HR1.out x5_1 p522 q522;obtain rfl : ad520 = ad522 := (by injection e522);replace p522 := eq_true p522;replace q522 := eq_true q522))
      repeat (go_quiet (first | (go_at_call 9;(with_reducible refine (trefoilref03_Fit.calls k1 a0 (rd l1 x5_1) t521 _ A5.out).mono ?_);rintro e w' ⟨rfl,⟨nd,rfl⟩⟩;(try first | exact ⟨rfl,_,World.drewN_drewN _ _ _⟩ | exact ⟨rfl,_,Eq.trans (World.drewN_drewN _ _ _) (congrArg (World.drewN _) (Nat.add_assoc _ _ _))⟩);have p522 : 0 ≤ (x5_1 : Int) := of_decide_eq_true (by first | (with_reducible assumption) | assumption);have q522 : x5_1 < (l1.length : Int) := of_decide_eq_true (by first | (with_reducible assumption) | assumption);obtain ⟨ad522,e522,hx522_0⟩ := Kd.at_int HR1.out x5_1 p522 q522;obtain rfl : ad520 = ad522 := (by injection e522);replace p522 := eq_true p522;replace q522 := eq_true q522));try go_wp2_with (first | (go_at_call 9;(with_reducible refine (trefoilref03_Fit.calls k1 a0 (rd l1 x5_1) t521 _ A5.out).mono ?_);rintro e w' ⟨rfl,⟨nd,rfl⟩⟩;(try first | exact ⟨rfl,_,World.drewN_drewN _ _ _⟩ | exact ⟨rfl,_,Eq.trans (World.drewN_drewN _ _ _) (congrArg (World.drewN _) (Nat.add_assoc _ _ _))⟩);have p522 : 0 ≤ (x5_1 : Int) := of_decide_eq_true (by first | (with_reducible assumption) | assumption);have q522 : x5_1 < (l1.length : Int) := of_decide_eq_true (by first | (with_reducible assumption) | assumption);obtain ⟨ad522,e522,hx522_0⟩ := Kd.at_int HR1.out x5_1 p522 q522;obtain rfl : ad520 = ad522 := (by injection e522);replace p522 := eq_true p522;replace q522 := eq_true q522)))
      go_ret
      exact ⟨by first | rfl | (simp;done) | (simp [*];done),by repeat (first | exact Drawn0.refl _ | apply Drawn0.step)⟩
    ·rw [if_neg c4] at H
     exact absurd H (by simp)
   ·rw [if_neg c3] at H
    have c3b0 : decide (x5_1 < (l1.length : Int)) = false := decide_eq_false c3;clear c3;obtain rfl := Option.some.inj H
    go_wp2
    repeat (go_quiet (fail);try go_wp2)
    go_ret
    exact ⟨by first | rfl | (simp;done) | (simp [*];done),by repeat (first | exact Drawn0.refl _ | apply Drawn0.step)⟩
def trefoilref22_equal.l0 : Nat → List Int → List Int → Int → Option (Bool)
 | 0,_,_,_ => none
 | k + 1,x0,x1,x5 => if x5 < (x0.length : Int) then (if 0 ≤ x5 then (if x5 < (x1.length : Int) then (if (rd x0 x5) = (rd x1 x5) then (trefoilref22_equal.l0 k x0 x1 (wrap64 (x5 + 1))) else (some false)) else (none)) else (none)) else (some true)
def trefoilref22_equal.f (k : Nat) (l0 : List Int) (l1 : List Int) : Option (Bool) := if (l0.length : Int) = (l1.length : Int) then (trefoilref22_equal.l0 k l0 l1 0) else (some false)
theorem trefoilref22_equal.mono_l : ∀ k,(∀ y0 y1 y2,LeO (trefoilref22_equal.l0 k y0 y1 y2) (trefoilref22_equal.l0 (k + 1) y0 y1 y2))
 | 0 => fun _ _ _ r h => by simp [trefoilref22_equal.l0] at h
 | k + 1 => by
  have ih0 := trefoilref22_equal.mono_l k
  ·intro y0 y1 y2
   unfold trefoilref22_equal.l0
   repeat' first | (with_reducible first | exact ih0 _ _ _ | exact LeO.refl _ | exact LeO.none _ | refine LeO.ite ?_ ?_ | refine LeO.bind ?_ (fun _ => ?_)) | exact LeO.none _ | refine LeO.ite ?_ ?_ | refine LeO.bind ?_ (fun _ => ?_)
theorem trefoilref22_equal.mono : ∀ a0 a1 k,LeO (trefoilref22_equal.f k a0 a1) (trefoilref22_equal.f (k + 1) a0 a1) := by
 intro a0 a1 k;have ih0 := trefoilref22_equal.mono_l k;unfold trefoilref22_equal.f
 repeat' first | (with_reducible first | exact ih0 _ _ _ | exact LeO.refl _ | exact LeO.none _ | refine LeO.ite ?_ ?_ | refine LeO.bind ?_ (fun _ => ?_)) | exact LeO.none _ | refine LeO.ite ?_ ?_ | refine LeO.bind ?_ (fun _ => ?_)
set_option maxHeartbeats 8000000 in
set_option maxRecDepth 100000 in
theorem trefoilref22_equal.calls (k : Nat) (A0 : Option Addr) (c0 : Nat) (l0 : List Int) (A1 : Option Addr) (c1 : Nat) (l1 : List Int) (r : Bool) (w : World) (hr0 : Kd.C (Kd.int .u64) w A0 l0.length l0) (hc0 : l0.length ≤ c0) (hr1 : Kd.C (Kd.int .u64) w A1 l1.length l1) (hc1 : l1.length ≤ c1) (h : trefoilref22_equal.f k l0 l1 = some r) :
  Calls Try.prog 49 #[.slice A0 l0.length c0,.slice A1 l1.length c1] w fun e w' => e = .returned (.bool r) ∧ Drawn0 w w' := by
 have HR0 := Aside0.mk hr0;have HC0 := Aside0.mk hc0;clear hr0 hc0;have HR1 := Aside0.mk hr1;have HC1 := Aside0.mk hc1;clear hr1 hc1;have H : (if (l0.length : Int) = (l1.length : Int) then (trefoilref22_equal.l0 k l0 l1 0) else (some false)) = some r := h;clear h
 by_cases c3 : (l0.length : Int) = (l1.length : Int)
 ·rw [if_pos c3] at H
  have c3b0 : ((l0.length : Int) == (l1.length : Int)) = true := beq_iff_eq.mpr c3;have c3b1 : ((l0.length : Int) != (l1.length : Int)) = false := bne_eq_false_iff_eq.mpr c3
  have c3b2 : (l0.length == l1.length) = true := by first | simpa using c3 | (simp at c3 ⊢;omega)
  clear c3;have H' := Aside0.mk H;clear H
  go_enter Try.func49,Try.ntmps49
  go_wp2
  repeat (go_quiet (fail);try go_wp2)
  go_loopg [5] k (fun kq v5 w' => ∃ (x5_1 : Int),v5 = .int .i64 x5_1 ∧ Aside0 (trefoilref22_equal.l0 kq l0 l1 x5_1 = some r) ∧ Aside0 (kq ≤ k) ∧ Drawn0 w w')
  case atStart => exact ⟨(0),(by first | rfl | (simp;done) | (simp [*];done)),H',⟨Nat.le_refl _⟩,by repeat (first | exact Drawn0.refl _ | apply Drawn0.step)⟩
  case round =>
   clear H'
   try clear c1
   try clear p2
   try clear c3
   try clear c3b0
   try clear c3b1
   try clear c3b2
   obtain ⟨x5_1,rfl,HA,HK1,⟨m1,rfl⟩⟩ := hrel
   cases gk with
   | zero => exact absurd HA.out (by simp [trefoilref22_equal.l0])
   | succ k1 =>
    have H := HA.out;clear HA;simp only [trefoilref22_equal.l0] at H
    by_cases c4 : x5_1 < (l0.length : Int)
    ·rw [if_pos c4] at H
     have c4b0 : decide (x5_1 < (l0.length : Int)) = true := decide_eq_true c4;clear c4
     by_cases c5 : 0 ≤ x5_1
     ·rw [if_pos c5] at H
      have c5b0 : decide (0 ≤ x5_1) = true := decide_eq_true c5;clear c5
      by_cases c6 : x5_1 < (l1.length : Int)
      ·rw [if_pos c6] at H
       have c6b0 : decide (x5_1 < (l1.length : Int)) = true := decide_eq_true c6;clear c6
       by_cases c7 : (rd l0 x5_1) = (rd l1 x5_1)
       ·rw [if_pos c7] at H
        have c7b0 : ((rd l0 x5_1) == (rd l1 x5_1)) = true := beq_iff_eq.mpr c7;have c7b1 : ((rd l0 x5_1) != (rd l1 x5_1)) = false := bne_eq_false_iff_eq.mpr c7;clear c7;have H' := Aside0.mk H;clear H;have p523 : 0 ≤ (x5_1 : Int) := of_decide_eq_true (by first | (with_reducible assumption) | assumption);have q523 : x5_1 < (l0.length : Int) := of_decide_eq_true (by first | (with_reducible assumption) | assumption);obtain ⟨ad523,e523,hx523_0⟩ := Kd.at_int HR0.out x5_1 p523 q523
        cases e523
        replace p523 := eq_true p523;replace q523 := eq_true q523;have p524 : 0 ≤ (x5_1 : Int) := of_decide_eq_true (by first | (with_reducible assumption) | assumption);have q524 : x5_1 < (l1.length : Int) := of_decide_eq_true (by first | (with_reducible assumption) | assumption);obtain ⟨ad524,e524,hx524_0⟩ := Kd.at_int HR1.out x5_1 p524 q524
        cases e524
        replace p524 := eq_true p524;replace q524 := eq_true q524
        go_wp2
        repeat (go_quiet (fail);try go_wp2)
        go_roundg k1
        case measure => have := HK1.out;omega
        case rel => exact ⟨(wrap64 (x5_1 + 1)),(by first | rfl | (simp;done) | (simp [*];done)),H',⟨by have := HK1.out;omega⟩,by repeat (first | exact Drawn0.refl _ | apply Drawn0.step)⟩
       ·rw [if_neg c7] at H
        have c7b0 : ((rd l0 x5_1) == (rd l1 x5_1)) = false := beq_eq_false_iff_ne.mpr c7;have c7b1 : ((rd l0 x5_1) != (rd l1 x5_1)) = true := bne_iff_ne.mpr c7;obtain rfl := Option.some.inj H;have p523 : 0 ≤ (x5_1 : Int) := of_decide_eq_true (by first | (with_reducible assumption) | assumption);have q523 : x5_1 < (l0.length : Int) := of_decide_eq_true (by first | (with_reducible assumption) | assumption);obtain ⟨ad523,e523,hx523_0⟩ := Kd.at_int HR0.out x5_1 p523 q523
        cases e523
        replace p523 := eq_true p523;replace q523 := eq_true q523;have p524 : 0 ≤ (x5_1 : Int) := of_decide_eq_true (by first | (with_reducible assumption) | assumption);have q524 : x5_1 < (l1.length : Int) := of_decide_eq_true (by first | (with_reducible assumption) | assumption);obtain ⟨ad524,e524,hx524_0⟩ := Kd.at_int HR1.out x5_1 p524 q524
        cases e524
        replace p524 := eq_true p524;replace q524 := eq_true q524
        go_wp2
        repeat (go_quiet (fail);try go_wp2)
        go_ret
        exact ⟨by first | rfl | (simp;done) | (simp [*];done),by repeat (first | exact Drawn0.refl _ | apply Drawn0.step)⟩
      ·rw [if_neg c6] at H
       exact absurd H (by simp)
     ·rw [if_neg c5] at H
      exact absurd H (by simp)
    ·rw [if_neg c4] at H
     have c4b0 : decide (x5_1 < (l0.length : Int)) = false := decide_eq_false c4;clear c4;obtain rfl := Option.some.inj H
     go_wp2
     repeat (go_quiet (fail);try go_wp2)
     go_ret
     exact ⟨by first | rfl | (simp;done) | (simp [*];done),by repeat (first | exact Drawn0.refl _ | apply Drawn0.step)⟩
 ·rw [if_neg c3] at H
  have c3b0 : ((l0.length : Int) == (l1.length : Int)) = false := beq_eq_false_iff_ne.mpr c3;have c3b1 : ((l0.length : Int) != (l1.length : Int)) = true := bne_iff_ne.mpr c3
  have c3b2 : (l0.length == l1.length) = false := by first | simpa using c3 | (simp at c3 ⊢;omega)
  obtain rfl := Option.some.inj H
  go_enter Try.func49,Try.ntmps49
  go_wp2
  repeat (go_quiet (fail);try go_wp2)
  go_ret
  exact ⟨by first | rfl | (simp;done) | (simp [*];done),by repeat (first | exact Drawn0.refl _ | apply Drawn0.step)⟩
end Go.Proofs.Ytbhfleilgjonpaa.XScalarComes
