import Derived.Test.YtbhfleilgjonpaaSXShort
import Derived.StillTailTactics
import Derived.Test.YtbhfleilgjonpaaSXScalarComesx0
import Derived.Test.YtbhfleilgjonpaaSXScalarComesx3
import Derived.Test.YtbhfleilgjonpaaSXScalarComesx5
import Derived.Test.YtbhfleilgjonpaaSXScalarComesx10
namespace Go.Proofs.Ytbhfleilgjonpaa.XScalarComes
open Go.RowKit Go.Proofs.YtbhfleilgjonpaaW.PrintWords Go.Proofs.YtbhfleilgjonpaaW.PrintLast Go.Proofs.YtbhfleilgjonpaaW.PrintMore
attribute [local go_sem] max2_int min2_int max_two min_two max_three min_three max_four min_four
set_option linter.unusedVariables false
set_option linter.unusedSimpArgs false
def trefoilref22_Split.l0 : Nat → Int → Int → List Int → List Bool → List Int → List Int → List Int → Int → Option (List Int × List Int)
 | 0,_,_,_,_,_,_,_,_ => none
 | k + 1,x0,x1,x2,x3,x4,x12,x13,x14 => if x14 < (x2.length : Int) then (if (x4.length : Int) > 0 then (if (x4.length : Int) = 0 then (none) else (if 0 ≤ (Int.tmod x14 (x4.length : Int)) then (if (Int.tmod x14 (x4.length : Int)) < (x4.length : Int) then ((trefoilref03_Fit.f k x0 (rd x4 (Int.tmod x14 (x4.length : Int)))).bind fun t340 => (if x1 = 0 then (none) else (if (wrap64 (Int.tdiv x14 x1)) < (x3.length : Int) then (if 0 ≤ (wrap64 (Int.tdiv x14 x1)) then (if rdOf false x3 (wrap64 (Int.tdiv x14 x1)) = true then (if 0 ≤ x14 then (if x12.length < 17592186044416 then ((trefoilref03_Sub.f k x0 (rd x2 x14) t340).bind fun t346 => (if x13.length < 17592186044416 then (trefoilref22_Split.l0 k x0 x1 x2 x3 x4 (x12 ++ [t340]) (x13 ++ [t346]) (wrap64 (x14 + 1))) else (none))) else (none)) else (none)) else (if x12.length < 17592186044416 then ((trefoilref03_Sub.f k x0 0 t340).bind fun t353 => (if x13.length < 17592186044416 then (trefoilref22_Split.l0 k x0 x1 x2 x3 x4 (x12 ++ [t340]) (x13 ++ [t353]) (wrap64 (x14 + 1))) else (none))) else (none))) else (none)) else (if x12.length < 17592186044416 then ((trefoilref03_Sub.f k x0 0 t340).bind fun t360 => (if x13.length < 17592186044416 then (trefoilref22_Split.l0 k x0 x1 x2 x3 x4 (x12 ++ [t340]) (x13 ++ [t360]) (wrap64 (x14 + 1))) else (none))) else (none))))) else (none)) else (none))) else (if x1 = 0 then (none) else (if (wrap64 (Int.tdiv x14 x1)) < (x3.length : Int) then (if 0 ≤ (wrap64 (Int.tdiv x14 x1)) then (if rdOf false x3 (wrap64 (Int.tdiv x14 x1)) = true then (if 0 ≤ x14 then (if x12.length < 17592186044416 then ((trefoilref03_Sub.f k x0 (rd x2 x14) 0).bind fun t369 => (if x13.length < 17592186044416 then (trefoilref22_Split.l0 k x0 x1 x2 x3 x4 (x12 ++ [0]) (x13 ++ [t369]) (wrap64 (x14 + 1))) else (none))) else (none)) else (none)) else (if x12.length < 17592186044416 then ((trefoilref03_Sub.f k x0 0 0).bind fun t376 => (if x13.length < 17592186044416 then (trefoilref22_Split.l0 k x0 x1 x2 x3 x4 (x12 ++ [0]) (x13 ++ [t376]) (wrap64 (x14 + 1))) else (none))) else (none))) else (none)) else (if x12.length < 17592186044416 then ((trefoilref03_Sub.f k x0 0 0).bind fun t383 => (if x13.length < 17592186044416 then (trefoilref22_Split.l0 k x0 x1 x2 x3 x4 (x12 ++ [0]) (x13 ++ [t383]) (wrap64 (x14 + 1))) else (none))) else (none))))) else (some (x12,x13))
def trefoilref22_Split.f (k : Nat) (a0 : Int) (a1 : Int) (l2 : List Int) (l3 : List Bool) (l4 : List Int) : Option (List Int × List Int) := trefoilref22_Split.l0 k a0 a1 l2 l3 l4 ([] : List Int) ([] : List Int) 0
theorem trefoilref22_Split.mono_l : ∀ k,(∀ y0 y1 y2 y3 y4 y5 y6 y7,LeO (trefoilref22_Split.l0 k y0 y1 y2 y3 y4 y5 y6 y7) (trefoilref22_Split.l0 (k + 1) y0 y1 y2 y3 y4 y5 y6 y7))
 | 0 => fun _ _ _ _ _ _ _ _ r h => by simp [trefoilref22_Split.l0] at h
 | k + 1 => by
  have ih0 := trefoilref22_Split.mono_l k
  ·intro y0 y1 y2 y3 y4 y5 y6 y7
   unfold trefoilref22_Split.l0
   repeat' first | (with_reducible first | exact ih0 _ _ _ _ _ _ _ _ | exact trefoilref03_Fit.mono _ _ _ | exact trefoilref03_Sub.mono _ _ _ _ | exact LeO.refl _ | exact LeO.none _ | refine LeO.ite ?_ ?_ | refine LeO.bind ?_ (fun _ => ?_)) | exact LeO.none _ | refine LeO.ite ?_ ?_ | refine LeO.bind ?_ (fun _ => ?_)
theorem trefoilref22_Split.mono : ∀ a0 a1 a2 a3 a4 k,LeO (trefoilref22_Split.f k a0 a1 a2 a3 a4) (trefoilref22_Split.f (k + 1) a0 a1 a2 a3 a4) := by
 intro a0 a1 a2 a3 a4 k;have ih0 := trefoilref22_Split.mono_l k;unfold trefoilref22_Split.f
 repeat' first | (with_reducible first | exact ih0 _ _ _ _ _ _ _ _ | exact trefoilref03_Fit.mono _ _ _ | exact trefoilref03_Sub.mono _ _ _ _ | exact LeO.refl _ | exact LeO.none _ | refine LeO.ite ?_ ?_ | refine LeO.bind ?_ (fun _ => ?_)) | exact LeO.none _ | refine LeO.ite ?_ ?_ | refine LeO.bind ?_ (fun _ => ?_)
set_option maxHeartbeats 8000000 in
set_option maxRecDepth 100000 in
theorem trefoilref22_Split.calls (k : Nat) (a0 : Int) (a1 : Int) (A2 : Option Addr) (c2 : Nat) (l2 : List Int) (A3 : Option Addr) (c3 : Nat) (l3 : List Bool) (A4 : Option Addr) (c4 : Nat) (l4 : List Int) (r1 : List Int) (r2 : List Int) (w : World) (hr2 : Kd.C (Kd.int .u64) w A2 l2.length l2) (hc2 : l2.length ≤ c2) (hr3 : Kd.C Kd.bool w A3 l3.length l3) (hc3 : l3.length ≤ c3) (hr4 : Kd.C (Kd.int .u64) w A4 l4.length l4) (hc4 : l4.length ≤ c4) (h : trefoilref22_Split.f k a0 a1 l2 l3 l4 = some (r1,r2)) :
  Calls Try.prog 20 #[.int .i64 a0,.int .i64 a1,.slice A2 l2.length c2,.slice A3 l3.length c3,.slice A4 l4.length c4] w fun e w' => ∃ v0_ v1_ : Value,e = .returned (.tuple #[v0_,v1_]) ∧ Kd.R (Kd.int .u64) 32 w' w.heap.size (fun k_ => some k_ ≠ (v1_ : Value).ownBlock) v0_ r1 ∧ Kd.R (Kd.int .u64) 32 w' w.heap.size (fun k_ => some k_ ≠ (v0_ : Value).ownBlock) v1_ r2 ∧ Below w.heap.size w w' := by
 have HR2 := Aside0.mk hr2;have HC2 := Aside0.mk hc2;clear hr2 hc2;have HR3 := Aside0.mk hr3;have HC3 := Aside0.mk hc3;clear hr3 hc3;have HR4 := Aside0.mk hr4;have HC4 := Aside0.mk hc4;clear hr4 hc4;have HB := Aside0.mk (Below.refl w.heap.size w);have H : (trefoilref22_Split.l0 k a0 a1 l2 l3 l4 ([] : List Int) ([] : List Int) 0) = some (r1,r2) := h;clear h;have H' := Aside0.mk H;clear H
 go_enter Try.func20,Try.ntmps20
 go_wp2
 go_loopg [12,13,14] k (fun kq v12 v13 v14 w' => ∃ (x12_1 : List Int) (x13_1 : List Int) (x14_1 : Int),v14 = .int .i64 x14_1 ∧ Aside0 (trefoilref22_Split.l0 kq a0 a1 l2 l3 l4 x12_1 x13_1 x14_1 = some (r1,r2)) ∧ Aside0 (kq ≤ k) ∧ Aside0 (Kd.R (Kd.int .u64) 32 w' w.heap.size (fun k_ => some k_ ≠ (v13 : Value).ownBlock) v12 x12_1) ∧ Aside0 (Kd.R (Kd.int .u64) 32 w' w.heap.size (fun k_ => some k_ ≠ (v12 : Value).ownBlock) v13 x13_1) ∧ Aside0 (Below w.heap.size w w'))
 case atStart => exact ⟨(([] : List Int)),(([] : List Int)),(0),(by first | rfl | (simp;done) | (simp [*];done)),H',⟨Nat.le_refl _⟩,⟨by first | exact Kd.R_nil _ _ _ _ _ | exact Kd.N_nil _ _ _ _ _ | exact Kd.V_nil _ _ _ _ _ | exact Kd.Q_nil _ _ _ _ _ | exact Kd.S_nil _ _ _ _ _⟩,⟨by first | exact Kd.R_nil _ _ _ _ _ | exact Kd.N_nil _ _ _ _ _ | exact Kd.V_nil _ _ _ _ _ | exact Kd.Q_nil _ _ _ _ _ | exact Kd.S_nil _ _ _ _ _⟩,⟨rW HB⟩⟩
 case round =>
  clear H'
  try clear c2
  try clear p2
  try clear c3
  try clear c4
  obtain ⟨x12_1,x13_1,x14_1,rfl,HA,HK1,HO_12,HO_13,HB⟩ := hrel
  cases gk with
  | zero => exact absurd HA.out (by simp [trefoilref22_Split.l0])
  | succ k1 =>
   have H := HA.out;clear HA;simp only [trefoilref22_Split.l0] at H
   by_cases c6 : x14_1 < (l2.length : Int)
   ·rw [if_pos c6] at H
    have c6b0 : decide (x14_1 < (l2.length : Int)) = true := decide_eq_true c6;clear c6
    by_cases c7 : (l4.length : Int) > 0
    ·rw [if_pos c7] at H
     have c7b0 : decide (0 < (l4.length : Int)) = true := decide_eq_true c7;have c7b1 : decide (0 < l4.length) = true := decide_eq_true (by omega);clear c7
     by_cases c8 : (l4.length : Int) = 0
     ·rw [if_pos c8] at H
      exact absurd H (by simp)
     ·rw [if_neg c8] at H
      have c8b0 : ((l4.length : Int) == 0) = false := beq_eq_false_iff_ne.mpr c8;have c8b1 : ((l4.length : Int) != 0) = true := bne_iff_ne.mpr c8
      have c8b2 : ¬ (l4 = []) := fun h_ => c8 (by rw [h_];rfl)
      obtain ⟨ji9,hji9⟩ : ∃ j_ : Int,(Int.tmod x14_1 (l4.length : Int)) = j_ := ⟨_,rfl⟩
      replace H : (if 0 ≤ (ji9) then (if (ji9) < (l4.length : Int) then ((trefoilref03_Fit.f k1 a0 (rd l4 (ji9))).bind fun t340 => (if a1 = 0 then (none) else (if (wrap64 (Int.tdiv x14_1 a1)) < (l3.length : Int) then (if 0 ≤ (wrap64 (Int.tdiv x14_1 a1)) then (if rdOf false l3 (wrap64 (Int.tdiv x14_1 a1)) = true then (if 0 ≤ x14_1 then (if x12_1.length < 17592186044416 then ((trefoilref03_Sub.f k1 a0 (rd l2 x14_1) t340).bind fun t346 => (if x13_1.length < 17592186044416 then (trefoilref22_Split.l0 k1 a0 a1 l2 l3 l4 (x12_1 ++ [t340]) (x13_1 ++ [t346]) (wrap64 (x14_1 + 1))) else (none))) else (none)) else (none)) else (if x12_1.length < 17592186044416 then ((trefoilref03_Sub.f k1 a0 0 t340).bind fun t353 => (if x13_1.length < 17592186044416 then (trefoilref22_Split.l0 k1 a0 a1 l2 l3 l4 (x12_1 ++ [t340]) (x13_1 ++ [t353]) (wrap64 (x14_1 + 1))) else (none))) else (none))) else (none)) else (if x12_1.length < 17592186044416 then ((trefoilref03_Sub.f k1 a0 0 t340).bind fun t360 => (if x13_1.length < 17592186044416 then (trefoilref22_Split.l0 k1 a0 a1 l2 l3 l4 (x12_1 ++ [t340]) (x13_1 ++ [t360]) (wrap64 (x14_1 + 1))) else (none))) else (none))))) else (none)) else (none)) = some (r1,r2) := by first | (rw [hji9] at H;exact H) | (simp only [hji9] at H ⊢;exact H)
      by_cases c10 : 0 ≤ (ji9)
      ·rw [if_pos c10] at H
       have c10b0 : decide (0 ≤ (ji9)) = true := decide_eq_true c10;clear c10
       by_cases c11 : (ji9) < (l4.length : Int)
       ·rw [if_pos c11] at H
        have c11b0 : decide ((ji9) < (l4.length : Int)) = true := decide_eq_true c11;clear c11;replace H := Option.bind_eq_some_iff.mp H;obtain ⟨t340,A120,H⟩ := H;replace H : (if a1 = 0 then (none) else (if (wrap64 (Int.tdiv x14_1 a1)) < (l3.length : Int) then (if 0 ≤ (wrap64 (Int.tdiv x14_1 a1)) then (if rdOf false l3 (wrap64 (Int.tdiv x14_1 a1)) = true then (if 0 ≤ x14_1 then (if x12_1.length < 17592186044416 then ((trefoilref03_Sub.f k1 a0 (rd l2 x14_1) t340).bind fun t346 => (if x13_1.length < 17592186044416 then (trefoilref22_Split.l0 k1 a0 a1 l2 l3 l4 (x12_1 ++ [t340]) (x13_1 ++ [t346]) (wrap64 (x14_1 + 1))) else (none))) else (none)) else (none)) else (if x12_1.length < 17592186044416 then ((trefoilref03_Sub.f k1 a0 0 t340).bind fun t353 => (if x13_1.length < 17592186044416 then (trefoilref22_Split.l0 k1 a0 a1 l2 l3 l4 (x12_1 ++ [t340]) (x13_1 ++ [t353]) (wrap64 (x14_1 + 1))) else (none))) else (none))) else (none)) else (if x12_1.length < 17592186044416 then ((trefoilref03_Sub.f k1 a0 0 t340).bind fun t360 => (if x13_1.length < 17592186044416 then (trefoilref22_Split.l0 k1 a0 a1 l2 l3 l4 (x12_1 ++ [t340]) (x13_1 ++ [t360]) (wrap64 (x14_1 + 1))) else (none))) else (none)))) = some (r1,r2) := H;have A12 := Aside0.mk A120;clear A120
        by_cases c13 : a1 = 0
        ·rw [if_pos c13] at H
         exact absurd H (by simp)
        ·rw [if_neg c13] at H
         have c13b0 : (a1 == 0) = false := beq_eq_false_iff_ne.mpr c13;have c13b1 : (a1 != 0) = true := bne_iff_ne.mpr c13
         by_cases c14 : (wrap64 (Int.tdiv x14_1 a1)) < (l3.length : Int)
         ·rw [if_pos c14] at H
          have c14b0 : decide ((wrap64 (Int.tdiv x14_1 a1)) < (l3.length : Int)) = true := decide_eq_true c14;clear c14;obtain ⟨ji15,hji15⟩ : ∃ j_ : Int,(wrap64 (Int.tdiv x14_1 a1)) = j_ := ⟨_,rfl⟩
          replace H : (if 0 ≤ (ji15) then (if rdOf false l3 (ji15) = true then (if 0 ≤ x14_1 then (if x12_1.length < 17592186044416 then ((trefoilref03_Sub.f k1 a0 (rd l2 x14_1) t340).bind fun t346 => (if x13_1.length < 17592186044416 then (trefoilref22_Split.l0 k1 a0 a1 l2 l3 l4 (x12_1 ++ [t340]) (x13_1 ++ [t346]) (wrap64 (x14_1 + 1))) else (none))) else (none)) else (none)) else (if x12_1.length < 17592186044416 then ((trefoilref03_Sub.f k1 a0 0 t340).bind fun t353 => (if x13_1.length < 17592186044416 then (trefoilref22_Split.l0 k1 a0 a1 l2 l3 l4 (x12_1 ++ [t340]) (x13_1 ++ [t353]) (wrap64 (x14_1 + 1))) else (none))) else (none))) else (none)) = some (r1,r2) := by first | (rw [hji15] at H;exact H) | (simp only [hji15] at H ⊢;exact H)
          (try rw [hji15] at c14b0);(try rw [hji15] at A12);have hji15w : (IntKind.i64.wrap (Int.tdiv x14_1 a1)) = ji15 := (i64_w _).trans hji15
          by_cases c16 : 0 ≤ (ji15)
          ·rw [if_pos c16] at H
           have c16b0 : decide (0 ≤ (ji15)) = true := decide_eq_true c16;clear c16;obtain ⟨bq17,hbq17⟩ : ∃ b_ : Bool,b_ = (rdOf false l3 (ji15)) := ⟨_,rfl⟩
           replace H : (if bq17 = true then (if 0 ≤ x14_1 then (if x12_1.length < 17592186044416 then ((trefoilref03_Sub.f k1 a0 (rd l2 x14_1) t340).bind fun t346 => (if x13_1.length < 17592186044416 then (trefoilref22_Split.l0 k1 a0 a1 l2 l3 l4 (x12_1 ++ [t340]) (x13_1 ++ [t346]) (wrap64 (x14_1 + 1))) else (none))) else (none)) else (none)) else (if x12_1.length < 17592186044416 then ((trefoilref03_Sub.f k1 a0 0 t340).bind fun t353 => (if x13_1.length < 17592186044416 then (trefoilref22_Split.l0 k1 a0 a1 l2 l3 l4 (x12_1 ++ [t340]) (x13_1 ++ [t353]) (wrap64 (x14_1 + 1))) else (none))) else (none))) = some (r1,r2) := by rw [← hbq17] at H;exact H
           have Nbq17 := Aside0.mk hbq17;clear hbq17;(try rw [← Nbq17.out] at A12)
           by_cases c18 : bq17 = true
           ·subst c18
            have H1 : (if 0 ≤ x14_1 then (if x12_1.length < 17592186044416 then ((trefoilref03_Sub.f k1 a0 (rd l2 x14_1) t340).bind fun t346 => (if x13_1.length < 17592186044416 then (trefoilref22_Split.l0 k1 a0 a1 l2 l3 l4 (x12_1 ++ [t340]) (x13_1 ++ [t346]) (wrap64 (x14_1 + 1))) else (none))) else (none)) else (none)) = some (r1,r2) := by rw [if_pos rfl] at H;exact H
            clear H;have H := H1;clear H1
            by_cases c19 : 0 ≤ x14_1
            ·rw [if_pos c19] at H
             have c19b0 : decide (0 ≤ x14_1) = true := decide_eq_true c19;clear c19
             by_cases c20 : x12_1.length < 17592186044416
             ·rw [if_pos c20] at H
              have LMc20 := Aside0.mk c20;clear c20;obtain ⟨y343,hy343⟩ : ∃ y_ : List Int,y_ = (x12_1 ++ [t340]) := ⟨_,rfl⟩;replace H : ((trefoilref03_Sub.f k1 a0 (rd l2 x14_1) t340).bind fun t346 => (if x13_1.length < 17592186044416 then (trefoilref22_Split.l0 k1 a0 a1 l2 l3 l4 y343 (x13_1 ++ [t346]) (wrap64 (x14_1 + 1))) else (none))) = some (r1,r2) := rY hy343 H;have Ny343 := Aside0.mk hy343;clear hy343;replace H := Option.bind_eq_some_iff.mp H;obtain ⟨t346,A210,H⟩ := H;replace H : (if x13_1.length < 17592186044416 then (trefoilref22_Split.l0 k1 a0 a1 l2 l3 l4 y343 (x13_1 ++ [t346]) (wrap64 (x14_1 + 1))) else (none)) = some (r1,r2) := H;have A21 := Aside0.mk A210;clear A210
              by_cases c22 : x13_1.length < 17592186044416
              ·rw [if_pos c22] at H
               have LMc22 := Aside0.mk c22;clear c22;obtain ⟨y347,hy347⟩ : ∃ y_ : List Int,y_ = (x13_1 ++ [t346]) := ⟨_,rfl⟩;replace H : (trefoilref22_Split.l0 k1 a0 a1 l2 l3 l4 y343 y347 (wrap64 (x14_1 + 1))) = some (r1,r2) := rY hy347 H;have Ny347 := Aside0.mk hy347;clear hy347;have H' := Aside0.mk H;clear H;have p339 : 0 ≤ ((ji9) : Int) := of_decide_eq_true (by first | (with_reducible assumption) | assumption);have q339 : (ji9) < (l4.length : Int) := of_decide_eq_true (by first | (with_reducible assumption) | assumption);obtain ⟨ad339,e339,hx339_0⟩ := Kd.at_int HR4.out (ji9) p339 q339
               cases e339
               replace hx339_0 := (HB.out.cell (World.block_lt_of_cell? w _ hx339_0)).trans hx339_0;replace p339 := eq_true p339;replace q339 := eq_true q339
               go_wp2_with (first | ((with_reducible refine gate_callee (f := 9) rfl ?_);refine goesL_ (some 34) rfl rfl Try.func9 (by kernel_rfl) rfl #[.int .i64 a0,.int .u64 (rd l4 (ji9))] rfl (by (try simp only [List.map_toArray,List.map_cons,List.map_nil]);first | done | (simp only [hji9];rfl) | rfl | (simp only [List.length_drop,List.length_take];rfl)) ?_;(with_reducible refine (trefoilref03_Fit.calls k1 a0 (rd l4 (ji9)) t340 _ A12.out).mono ?_);rintro e w' ⟨rfl,⟨nd,rfl⟩⟩;refine ⟨_,rfl,?_⟩;have p341 : 0 ≤ ((ji15) : Int) := of_decide_eq_true (by first | (with_reducible assumption) | assumption);have q341 : (ji15) < (l3.length : Int) := of_decide_eq_true (by first | (with_reducible assumption) | assumption);obtain ⟨ad341,e341,hx341_0⟩ := Kd.at_bool HR3.out (ji15) p341 q341;(try rw [← Nbq17.out] at hx341_0);cases e341;replace hx341_0 := (HB.out.cell (World.block_lt_of_cell? w _ hx341_0)).trans hx341_0;replace p341 := eq_true p341;replace q341 := eq_true q341;have p342 : 0 ≤ (x14_1 : Int) := of_decide_eq_true (by first | (with_reducible assumption) | assumption);have q342 : x14_1 < (l2.length : Int) := of_decide_eq_true (by first | (with_reducible assumption) | assumption);obtain ⟨ad342,e342,hx342_0⟩ := Kd.at_int HR2.out x14_1 p342 q342;cases e342;replace hx342_0 := (HB.out.cell (World.block_lt_of_cell? w _ hx342_0)).trans hx342_0;replace p342 := eq_true p342;replace q342 := eq_true q342) | ((with_reducible refine gate_builtin (b := .append) (xs := #[.tmp 53,.tmp 55]) rfl ?_);at_builtin;refine Kd.R_append (Kd.int .u64) (w0 := w) w.heap.size rfl (.tmp 53) (.tmp 55) 23 32 (.int .u64 0) 8 rfl Try.underlying23 info32 rfl (by decide) (by omega) u12 x12_1 t340 [.int .u64 t340] (fun k_ => some k_ ≠ (u13 : Value).ownBlock) (fun _ => False) rfl rfl ?aP (fun _ hk => hk.elim) ?aF ?aO ?aB ?aS ?aL ?_;(case aP => exact rfl);(case aB => exact (rW HB));(case aF => exact (fun k_ hk => Kd.fresh' (Kd.R_lt (rR HO_13)) k_ hk));(case aO => exact (rR HO_12));(case aS => exact (below_size (rW HB)));(case aL => have := LMc20.out;omega);intro v344 w23 ho hb hg hat;rw [← Ny343.out] at ho;replace HO_13 := Aside0.mk (Kd.R_after (ok := (fun _ => True)) (by (with_reducible repeat (first | apply Kd.R_alloc | apply Kd.R_drewN | apply Kd.R_drew));exact Kd.R_mono HO_13.out (fun _ hk => ⟨trivial,hk⟩)) hg hat);replace HB := Aside0.mk (hb);have HO345 := Aside0.mk (ho);clear HO_12;clear ho hb hg hat) | ((with_reducible refine gate_callee (f := 10) rfl ?_);refine gL (some 61) Try.func10 #[.int .i64 a0,.int .u64 (rd l2 x14_1),.int .u64 t340] ?_;(with_reducible refine (trefoilref03_Sub.calls k1 a0 (rd l2 x14_1) t340 t346 _ A21.out).mono ?_);rintro e w' ⟨rfl,⟨nd,rfl⟩⟩;refine ⟨_,rfl,?_⟩) | ((with_reducible refine gate_builtin (b := .append) (xs := #[.tmp 57,.tmp 62]) rfl ?_);at_builtin;refine Kd.R_append (Kd.int .u64) (w0 := w) w.heap.size rfl (.tmp 57) (.tmp 62) 23 32 (.int .u64 0) 8 rfl Try.underlying23 info32 rfl (by decide) (by omega) u13 x13_1 t346 [.int .u64 t346] (fun k_ => some k_ ≠ (v344 : Value).ownBlock) (fun _ => False) rfl rfl ?aP (fun _ hk => hk.elim) ?aF ?aO ?aB ?aS ?aL ?_;(case aP => exact rfl);(case aB => exact (rW HB));(case aF => exact (fun k_ hk => Kd.fresh' (Kd.R_lt (rR HO345)) k_ hk));(case aO => exact (by (with_reducible repeat (first | apply Kd.R_alloc | apply Kd.R_drewN | apply Kd.R_drew));exact Kd.R_mono HO_13.out (fun _ hk => hk.2)));(case aS => exact (below_size (rW HB)));(case aL => have := LMc22.out;omega);intro v348 w24 ho hb hg hat;rw [← Ny347.out] at ho;replace HO345 := Aside0.mk (Kd.R_after (ok := (fun _ => True)) (by (with_reducible repeat (first | apply Kd.R_alloc | apply Kd.R_drewN | apply Kd.R_drew));exact Kd.R_mono HO345.out (fun _ hk => ⟨trivial,hk⟩)) hg hat);replace HB := Aside0.mk (hb);have HO349 := Aside0.mk (ho);clear HO_13;clear ho hb hg hat))
               go_roundg k1
               case measure => have := HK1.out;omega
               case rel => exact ⟨(y343),(y347),(wrap64 (x14_1 + 1)),(by first | rfl | (simp;done) | (simp [*];done)),H',⟨by have := HK1.out;omega⟩,⟨by (with_reducible repeat (first | apply Kd.R_alloc | apply Kd.R_drewN | apply Kd.R_drew));exact Kd.R_mono HO345.out (fun _ hk => hk.2)⟩,⟨rR HO349⟩,⟨rW HB⟩⟩
              ·rw [if_neg c22] at H
               exact absurd H (by simp)
             ·rw [if_neg c20] at H
              exact absurd H (by simp)
            ·rw [if_neg c19] at H
             exact absurd H (by simp)
           ·replace c18 := Bool.eq_false_iff.mpr c18
            subst c18
            have H1 : (if x12_1.length < 17592186044416 then ((trefoilref03_Sub.f k1 a0 0 t340).bind fun t353 => (if x13_1.length < 17592186044416 then (trefoilref22_Split.l0 k1 a0 a1 l2 l3 l4 (x12_1 ++ [t340]) (x13_1 ++ [t353]) (wrap64 (x14_1 + 1))) else (none))) else (none)) = some (r1,r2) := by rw [if_neg (show ¬ (false = true) by decide)] at H;exact H
            clear H;have H := H1;clear H1
            by_cases c25 : x12_1.length < 17592186044416
            ·rw [if_pos c25] at H
             have LMc25 := Aside0.mk c25;clear c25;obtain ⟨y350,hy350⟩ : ∃ y_ : List Int,y_ = (x12_1 ++ [t340]) := ⟨_,rfl⟩;replace H : ((trefoilref03_Sub.f k1 a0 0 t340).bind fun t353 => (if x13_1.length < 17592186044416 then (trefoilref22_Split.l0 k1 a0 a1 l2 l3 l4 y350 (x13_1 ++ [t353]) (wrap64 (x14_1 + 1))) else (none))) = some (r1,r2) := rY hy350 H;have Ny350 := Aside0.mk hy350;clear hy350;replace H := Option.bind_eq_some_iff.mp H;obtain ⟨t353,A260,H⟩ := H;replace H : (if x13_1.length < 17592186044416 then (trefoilref22_Split.l0 k1 a0 a1 l2 l3 l4 y350 (x13_1 ++ [t353]) (wrap64 (x14_1 + 1))) else (none)) = some (r1,r2) := H;have A26 := Aside0.mk A260;clear A260
             by_cases c27 : x13_1.length < 17592186044416
             ·rw [if_pos c27] at H
              have LMc27 := Aside0.mk c27;clear c27;obtain ⟨y354,hy354⟩ : ∃ y_ : List Int,y_ = (x13_1 ++ [t353]) := ⟨_,rfl⟩;replace H : (trefoilref22_Split.l0 k1 a0 a1 l2 l3 l4 y350 y354 (wrap64 (x14_1 + 1))) = some (r1,r2) := rY hy354 H;have Ny354 := Aside0.mk hy354;clear hy354;have H' := Aside0.mk H;clear H;have p339 : 0 ≤ ((ji9) : Int) := of_decide_eq_true (by first | (with_reducible assumption) | assumption);have q339 : (ji9) < (l4.length : Int) := of_decide_eq_true (by first | (with_reducible assumption) | assumption);obtain ⟨ad339,e339,hx339_0⟩ := Kd.at_int HR4.out (ji9) p339 q339
              cases e339
              replace hx339_0 := (HB.out.cell (World.block_lt_of_cell? w _ hx339_0)).trans hx339_0;replace p339 := eq_true p339;replace q339 := eq_true q339
              go_wp2_with (first | ((with_reducible refine gate_callee (f := 9) rfl ?_);refine goesL_ (some 34) rfl rfl Try.func9 (by kernel_rfl) rfl #[.int .i64 a0,.int .u64 (rd l4 (ji9))] rfl (by (try simp only [List.map_toArray,List.map_cons,List.map_nil]);first | done | (simp only [hji9];rfl) | rfl | (simp only [List.length_drop,List.length_take];rfl)) ?_;(with_reducible refine (trefoilref03_Fit.calls k1 a0 (rd l4 (ji9)) t340 _ A12.out).mono ?_);rintro e w' ⟨rfl,⟨nd,rfl⟩⟩;refine ⟨_,rfl,?_⟩;have p341 : 0 ≤ ((ji15) : Int) := of_decide_eq_true (by first | (with_reducible assumption) | assumption);have q341 : (ji15) < (l3.length : Int) := of_decide_eq_true (by first | (with_reducible assumption) | assumption);obtain ⟨ad341,e341,hx341_0⟩ := Kd.at_bool HR3.out (ji15) p341 q341;(try rw [← Nbq17.out] at hx341_0);cases e341;replace hx341_0 := (HB.out.cell (World.block_lt_of_cell? w _ hx341_0)).trans hx341_0;replace p341 := eq_true p341;replace q341 := eq_true q341) | ((with_reducible refine gate_builtin (b := .append) (xs := #[.tmp 53,.tmp 55]) rfl ?_);at_builtin;refine Kd.R_append (Kd.int .u64) (w0 := w) w.heap.size rfl (.tmp 53) (.tmp 55) 23 32 (.int .u64 0) 8 rfl Try.underlying23 info32 rfl (by decide) (by omega) u12 x12_1 t340 [.int .u64 t340] (fun k_ => some k_ ≠ (u13 : Value).ownBlock) (fun _ => False) rfl rfl ?aP (fun _ hk => hk.elim) ?aF ?aO ?aB ?aS ?aL ?_;(case aP => exact rfl);(case aB => exact (rW HB));(case aF => exact (fun k_ hk => Kd.fresh' (Kd.R_lt (rR HO_13)) k_ hk));(case aO => exact (rR HO_12));(case aS => exact (below_size (rW HB)));(case aL => have := LMc25.out;omega);intro v351 w28 ho hb hg hat;rw [← Ny350.out] at ho;replace HO_13 := Aside0.mk (Kd.R_after (ok := (fun _ => True)) (by (with_reducible repeat (first | apply Kd.R_alloc | apply Kd.R_drewN | apply Kd.R_drew));exact Kd.R_mono HO_13.out (fun _ hk => ⟨trivial,hk⟩)) hg hat);replace HB := Aside0.mk (hb);have HO352 := Aside0.mk (ho);clear HO_12;clear ho hb hg hat) | ((with_reducible refine gate_callee (f := 10) rfl ?_);refine gL (some 61) Try.func10 #[.int .i64 a0,.int .u64 0,.int .u64 t340] ?_;(with_reducible refine (trefoilref03_Sub.calls k1 a0 0 t340 t353 _ A26.out).mono ?_);rintro e w' ⟨rfl,⟨nd,rfl⟩⟩;refine ⟨_,rfl,?_⟩) | ((with_reducible refine gate_builtin (b := .append) (xs := #[.tmp 57,.tmp 62]) rfl ?_);at_builtin;refine Kd.R_append (Kd.int .u64) (w0 := w) w.heap.size rfl (.tmp 57) (.tmp 62) 23 32 (.int .u64 0) 8 rfl Try.underlying23 info32 rfl (by decide) (by omega) u13 x13_1 t353 [.int .u64 t353] (fun k_ => some k_ ≠ (v351 : Value).ownBlock) (fun _ => False) rfl rfl ?aP (fun _ hk => hk.elim) ?aF ?aO ?aB ?aS ?aL ?_;(case aP => exact rfl);(case aB => exact (rW HB));(case aF => exact (fun k_ hk => Kd.fresh' (Kd.R_lt (rR HO352)) k_ hk));(case aO => exact (by (with_reducible repeat (first | apply Kd.R_alloc | apply Kd.R_drewN | apply Kd.R_drew));exact Kd.R_mono HO_13.out (fun _ hk => hk.2)));(case aS => exact (below_size (rW HB)));(case aL => have := LMc27.out;omega);intro v355 w29 ho hb hg hat;rw [← Ny354.out] at ho;replace HO352 := Aside0.mk (Kd.R_after (ok := (fun _ => True)) (by (with_reducible repeat (first | apply Kd.R_alloc | apply Kd.R_drewN | apply Kd.R_drew));exact Kd.R_mono HO352.out (fun _ hk => ⟨trivial,hk⟩)) hg hat);replace HB := Aside0.mk (hb);have HO356 := Aside0.mk (ho);clear HO_13;clear ho hb hg hat))
              go_roundg k1
              case measure => have := HK1.out;omega
              case rel => exact ⟨(y350),(y354),(wrap64 (x14_1 + 1)),(by first | rfl | (simp;done) | (simp [*];done)),H',⟨by have := HK1.out;omega⟩,⟨by (with_reducible repeat (first | apply Kd.R_alloc | apply Kd.R_drewN | apply Kd.R_drew));exact Kd.R_mono HO352.out (fun _ hk => hk.2)⟩,⟨rR HO356⟩,⟨rW HB⟩⟩
             ·rw [if_neg c27] at H
              exact absurd H (by simp)
            ·rw [if_neg c25] at H
             exact absurd H (by simp)
          ·rw [if_neg c16] at H
           exact absurd H (by simp)
         ·rw [if_neg c14] at H
          have c14b0 : decide ((wrap64 (Int.tdiv x14_1 a1)) < (l3.length : Int)) = false := decide_eq_false c14;clear c14
          by_cases c30 : x12_1.length < 17592186044416
          ·rw [if_pos c30] at H
           have LMc30 := Aside0.mk c30;clear c30;obtain ⟨y357,hy357⟩ : ∃ y_ : List Int,y_ = (x12_1 ++ [t340]) := ⟨_,rfl⟩;replace H : ((trefoilref03_Sub.f k1 a0 0 t340).bind fun t360 => (if x13_1.length < 17592186044416 then (trefoilref22_Split.l0 k1 a0 a1 l2 l3 l4 y357 (x13_1 ++ [t360]) (wrap64 (x14_1 + 1))) else (none))) = some (r1,r2) := rY hy357 H;have Ny357 := Aside0.mk hy357;clear hy357;replace H := Option.bind_eq_some_iff.mp H;obtain ⟨t360,A310,H⟩ := H;replace H : (if x13_1.length < 17592186044416 then (trefoilref22_Split.l0 k1 a0 a1 l2 l3 l4 y357 (x13_1 ++ [t360]) (wrap64 (x14_1 + 1))) else (none)) = some (r1,r2) := H;have A31 := Aside0.mk A310;clear A310
           by_cases c32 : x13_1.length < 17592186044416
           ·rw [if_pos c32] at H
            have LMc32 := Aside0.mk c32;clear c32;obtain ⟨y361,hy361⟩ : ∃ y_ : List Int,y_ = (x13_1 ++ [t360]) := ⟨_,rfl⟩;replace H : (trefoilref22_Split.l0 k1 a0 a1 l2 l3 l4 y357 y361 (wrap64 (x14_1 + 1))) = some (r1,r2) := rY hy361 H;have Ny361 := Aside0.mk hy361;clear hy361;have H' := Aside0.mk H;clear H;have p339 : 0 ≤ ((ji9) : Int) := of_decide_eq_true (by first | (with_reducible assumption) | assumption);have q339 : (ji9) < (l4.length : Int) := of_decide_eq_true (by first | (with_reducible assumption) | assumption);obtain ⟨ad339,e339,hx339_0⟩ := Kd.at_int HR4.out (ji9) p339 q339
            cases e339
            replace hx339_0 := (HB.out.cell (World.block_lt_of_cell? w _ hx339_0)).trans hx339_0;replace p339 := eq_true p339;replace q339 := eq_true q339
            go_wp2_with (first | ((with_reducible refine gate_callee (f := 9) rfl ?_);refine goesL_ (some 34) rfl rfl Try.func9 (by kernel_rfl) rfl #[.int .i64 a0,.int .u64 (rd l4 (ji9))] rfl (by (try simp only [List.map_toArray,List.map_cons,List.map_nil]);first | done | (simp only [hji9];rfl) | rfl | (simp only [List.length_drop,List.length_take];rfl)) ?_;(with_reducible refine (trefoilref03_Fit.calls k1 a0 (rd l4 (ji9)) t340 _ A12.out).mono ?_);rintro e w' ⟨rfl,⟨nd,rfl⟩⟩;refine ⟨_,rfl,?_⟩) | ((with_reducible refine gate_builtin (b := .append) (xs := #[.tmp 53,.tmp 55]) rfl ?_);at_builtin;refine Kd.R_append (Kd.int .u64) (w0 := w) w.heap.size rfl (.tmp 53) (.tmp 55) 23 32 (.int .u64 0) 8 rfl Try.underlying23 info32 rfl (by decide) (by omega) u12 x12_1 t340 [.int .u64 t340] (fun k_ => some k_ ≠ (u13 : Value).ownBlock) (fun _ => False) rfl rfl ?aP (fun _ hk => hk.elim) ?aF ?aO ?aB ?aS ?aL ?_;(case aP => exact rfl);(case aB => exact (rW HB));(case aF => exact (fun k_ hk => Kd.fresh' (Kd.R_lt (rR HO_13)) k_ hk));(case aO => exact (rR HO_12));(case aS => exact (below_size (rW HB)));(case aL => have := LMc30.out;omega);intro v358 w33 ho hb hg hat;rw [← Ny357.out] at ho;replace HO_13 := Aside0.mk (Kd.R_after (ok := (fun _ => True)) (by (with_reducible repeat (first | apply Kd.R_alloc | apply Kd.R_drewN | apply Kd.R_drew));exact Kd.R_mono HO_13.out (fun _ hk => ⟨trivial,hk⟩)) hg hat);replace HB := Aside0.mk (hb);have HO359 := Aside0.mk (ho);clear HO_12;clear ho hb hg hat) | ((with_reducible refine gate_callee (f := 10) rfl ?_);refine gL (some 61) Try.func10 #[.int .i64 a0,.int .u64 0,.int .u64 t340] ?_;(with_reducible refine (trefoilref03_Sub.calls k1 a0 0 t340 t360 _ A31.out).mono ?_);rintro e w' ⟨rfl,⟨nd,rfl⟩⟩;refine ⟨_,rfl,?_⟩) | ((with_reducible refine gate_builtin (b := .append) (xs := #[.tmp 57,.tmp 62]) rfl ?_);at_builtin;refine Kd.R_append (Kd.int .u64) (w0 := w) w.heap.size rfl (.tmp 57) (.tmp 62) 23 32 (.int .u64 0) 8 rfl Try.underlying23 info32 rfl (by decide) (by omega) u13 x13_1 t360 [.int .u64 t360] (fun k_ => some k_ ≠ (v358 : Value).ownBlock) (fun _ => False) rfl rfl ?aP (fun _ hk => hk.elim) ?aF ?aO ?aB ?aS ?aL ?_;(case aP => exact rfl);(case aB => exact (rW HB));(case aF => exact (fun k_ hk => Kd.fresh' (Kd.R_lt (rR HO359)) k_ hk));(case aO => exact (by (with_reducible repeat (first | apply Kd.R_alloc | apply Kd.R_drewN | apply Kd.R_drew));exact Kd.R_mono HO_13.out (fun _ hk => hk.2)));(case aS => exact (below_size (rW HB)));(case aL => have := LMc32.out;omega);intro v362 w34 ho hb hg hat;rw [← Ny361.out] at ho;replace HO359 := Aside0.mk (Kd.R_after (ok := (fun _ => True)) (by (with_reducible repeat (first | apply Kd.R_alloc | apply Kd.R_drewN | apply Kd.R_drew));exact Kd.R_mono HO359.out (fun _ hk => ⟨trivial,hk⟩)) hg hat);replace HB := Aside0.mk (hb);have HO363 := Aside0.mk (ho);clear HO_13;clear ho hb hg hat))
            go_roundg k1
            case measure => have := HK1.out;omega
            case rel => exact ⟨(y357),(y361),(wrap64 (x14_1 + 1)),(by first | rfl | (simp;done) | (simp [*];done)),H',⟨by have := HK1.out;omega⟩,⟨by (with_reducible repeat (first | apply Kd.R_alloc | apply Kd.R_drewN | apply Kd.R_drew));exact Kd.R_mono HO359.out (fun _ hk => hk.2)⟩,⟨rR HO363⟩,⟨rW HB⟩⟩
           ·rw [if_neg c32] at H
            exact absurd H (by simp)
          ·rw [if_neg c30] at H
           exact absurd H (by simp)
       ·rw [if_neg c11] at H
        exact absurd H (by simp)
      ·rw [if_neg c10] at H
       exact absurd H (by simp)
    ·rw [if_neg c7] at H
     have c7b0 : decide (0 < (l4.length : Int)) = false := decide_eq_false c7;have c7b1 : decide (0 < l4.length) = false := decide_eq_false (by omega);clear c7
     by_cases c35 : a1 = 0
     ·rw [if_pos c35] at H
      exact absurd H (by simp)
     ·rw [if_neg c35] at H
      have c35b0 : (a1 == 0) = false := beq_eq_false_iff_ne.mpr c35;have c35b1 : (a1 != 0) = true := bne_iff_ne.mpr c35
      by_cases c36 : (wrap64 (Int.tdiv x14_1 a1)) < (l3.length : Int)
      ·rw [if_pos c36] at H
       have c36b0 : decide ((wrap64 (Int.tdiv x14_1 a1)) < (l3.length : Int)) = true := decide_eq_true c36;clear c36;obtain ⟨ji37,hji37⟩ : ∃ j_ : Int,(wrap64 (Int.tdiv x14_1 a1)) = j_ := ⟨_,rfl⟩
       replace H : (if 0 ≤ (ji37) then (if rdOf false l3 (ji37) = true then (if 0 ≤ x14_1 then (if x12_1.length < 17592186044416 then ((trefoilref03_Sub.f k1 a0 (rd l2 x14_1) 0).bind fun t369 => (if x13_1.length < 17592186044416 then (trefoilref22_Split.l0 k1 a0 a1 l2 l3 l4 (x12_1 ++ [0]) (x13_1 ++ [t369]) (wrap64 (x14_1 + 1))) else (none))) else (none)) else (none)) else (if x12_1.length < 17592186044416 then ((trefoilref03_Sub.f k1 a0 0 0).bind fun t376 => (if x13_1.length < 17592186044416 then (trefoilref22_Split.l0 k1 a0 a1 l2 l3 l4 (x12_1 ++ [0]) (x13_1 ++ [t376]) (wrap64 (x14_1 + 1))) else (none))) else (none))) else (none)) = some (r1,r2) := by first | (rw [hji37] at H;exact H) | (simp only [hji37] at H ⊢;exact H)
       (try rw [hji37] at c36b0);have hji37w : (IntKind.i64.wrap (Int.tdiv x14_1 a1)) = ji37 := (i64_w _).trans hji37
       by_cases c38 : 0 ≤ (ji37)
       ·rw [if_pos c38] at H
        have c38b0 : decide (0 ≤ (ji37)) = true := decide_eq_true c38;clear c38;obtain ⟨bq39,hbq39⟩ : ∃ b_ : Bool,b_ = (rdOf false l3 (ji37)) := ⟨_,rfl⟩
        replace H : (if bq39 = true then (if 0 ≤ x14_1 then (if x12_1.length < 17592186044416 then ((trefoilref03_Sub.f k1 a0 (rd l2 x14_1) 0).bind fun t369 => (if x13_1.length < 17592186044416 then (trefoilref22_Split.l0 k1 a0 a1 l2 l3 l4 (x12_1 ++ [0]) (x13_1 ++ [t369]) (wrap64 (x14_1 + 1))) else (none))) else (none)) else (none)) else (if x12_1.length < 17592186044416 then ((trefoilref03_Sub.f k1 a0 0 0).bind fun t376 => (if x13_1.length < 17592186044416 then (trefoilref22_Split.l0 k1 a0 a1 l2 l3 l4 (x12_1 ++ [0]) (x13_1 ++ [t376]) (wrap64 (x14_1 + 1))) else (none))) else (none))) = some (r1,r2) := by rw [← hbq39] at H;exact H
        have Nbq39 := Aside0.mk hbq39;clear hbq39
        by_cases c40 : bq39 = true
        ·subst c40
         have H1 : (if 0 ≤ x14_1 then (if x12_1.length < 17592186044416 then ((trefoilref03_Sub.f k1 a0 (rd l2 x14_1) 0).bind fun t369 => (if x13_1.length < 17592186044416 then (trefoilref22_Split.l0 k1 a0 a1 l2 l3 l4 (x12_1 ++ [0]) (x13_1 ++ [t369]) (wrap64 (x14_1 + 1))) else (none))) else (none)) else (none)) = some (r1,r2) := by rw [if_pos rfl] at H;exact H
         clear H;have H := H1;clear H1
         by_cases c41 : 0 ≤ x14_1
         ·rw [if_pos c41] at H
          have c41b0 : decide (0 ≤ x14_1) = true := decide_eq_true c41;clear c41
          by_cases c42 : x12_1.length < 17592186044416
          ·rw [if_pos c42] at H
           have LMc42 := Aside0.mk c42;clear c42;obtain ⟨y366,hy366⟩ : ∃ y_ : List Int,y_ = (x12_1 ++ [0]) := ⟨_,rfl⟩;replace H : ((trefoilref03_Sub.f k1 a0 (rd l2 x14_1) 0).bind fun t369 => (if x13_1.length < 17592186044416 then (trefoilref22_Split.l0 k1 a0 a1 l2 l3 l4 y366 (x13_1 ++ [t369]) (wrap64 (x14_1 + 1))) else (none))) = some (r1,r2) := rY hy366 H;have Ny366 := Aside0.mk hy366;clear hy366;replace H := Option.bind_eq_some_iff.mp H;obtain ⟨t369,A430,H⟩ := H;replace H : (if x13_1.length < 17592186044416 then (trefoilref22_Split.l0 k1 a0 a1 l2 l3 l4 y366 (x13_1 ++ [t369]) (wrap64 (x14_1 + 1))) else (none)) = some (r1,r2) := H;have A43 := Aside0.mk A430;clear A430
           by_cases c44 : x13_1.length < 17592186044416
           ·rw [if_pos c44] at H
            have LMc44 := Aside0.mk c44;clear c44;obtain ⟨y370,hy370⟩ : ∃ y_ : List Int,y_ = (x13_1 ++ [t369]) := ⟨_,rfl⟩;replace H : (trefoilref22_Split.l0 k1 a0 a1 l2 l3 l4 y366 y370 (wrap64 (x14_1 + 1))) = some (r1,r2) := rY hy370 H;have Ny370 := Aside0.mk hy370;clear hy370;have H' := Aside0.mk H;clear H;have p364 : 0 ≤ ((ji37) : Int) := of_decide_eq_true (by first | (with_reducible assumption) | assumption);have q364 : (ji37) < (l3.length : Int) := of_decide_eq_true (by first | (with_reducible assumption) | assumption);obtain ⟨ad364,e364,hx364_0⟩ := Kd.at_bool HR3.out (ji37) p364 q364;(try rw [← Nbq39.out] at hx364_0)
            cases e364
            replace hx364_0 := (HB.out.cell (World.block_lt_of_cell? w _ hx364_0)).trans hx364_0;replace p364 := eq_true p364;replace q364 := eq_true q364;have p365 : 0 ≤ (x14_1 : Int) := of_decide_eq_true (by first | (with_reducible assumption) | assumption);have q365 : x14_1 < (l2.length : Int) := of_decide_eq_true (by first | (with_reducible assumption) | assumption);obtain ⟨ad365,e365,hx365_0⟩ := Kd.at_int HR2.out x14_1 p365 q365
            cases e365
            replace hx365_0 := (HB.out.cell (World.block_lt_of_cell? w _ hx365_0)).trans hx365_0;replace p365 := eq_true p365;replace q365 := eq_true q365
            go_wp2_with (first | ((with_reducible refine gate_builtin (b := .append) (xs := #[.tmp 53,.tmp 55]) rfl ?_);at_builtin;refine Kd.R_append (Kd.int .u64) (w0 := w) w.heap.size rfl (.tmp 53) (.tmp 55) 23 32 (.int .u64 0) 8 rfl Try.underlying23 info32 rfl (by decide) (by omega) u12 x12_1 0 [.int .u64 0] (fun k_ => some k_ ≠ (u13 : Value).ownBlock) (fun _ => False) rfl rfl ?aP (fun _ hk => hk.elim) ?aF ?aO ?aB ?aS ?aL ?_;(case aP => exact rfl);(case aB => exact (rW HB));(case aF => exact (fun k_ hk => Kd.fresh' (Kd.R_lt (rR HO_13)) k_ hk));(case aO => exact (rR HO_12));(case aS => exact (below_size (rW HB)));(case aL => have := LMc42.out;omega);intro v367 w45 ho hb hg hat;rw [← Ny366.out] at ho;replace HO_13 := Aside0.mk (Kd.R_after (ok := (fun _ => True)) (by (with_reducible repeat (first | apply Kd.R_alloc | apply Kd.R_drewN | apply Kd.R_drew));exact Kd.R_mono HO_13.out (fun _ hk => ⟨trivial,hk⟩)) hg hat);replace HB := Aside0.mk (hb);have HO368 := Aside0.mk (ho);clear HO_12;clear ho hb hg hat) | ((with_reducible refine gate_callee (f := 10) rfl ?_);refine gL (some 61) Try.func10 #[.int .i64 a0,.int .u64 (rd l2 x14_1),.int .u64 0] ?_;(with_reducible refine (trefoilref03_Sub.calls k1 a0 (rd l2 x14_1) 0 t369 _ A43.out).mono ?_);rintro e w' ⟨rfl,⟨nd,rfl⟩⟩;refine ⟨_,rfl,?_⟩) | ((with_reducible refine gate_builtin (b := .append) (xs := #[.tmp 57,.tmp 62]) rfl ?_);at_builtin;refine Kd.R_append (Kd.int .u64) (w0 := w) w.heap.size rfl (.tmp 57) (.tmp 62) 23 32 (.int .u64 0) 8 rfl Try.underlying23 info32 rfl (by decide) (by omega) u13 x13_1 t369 [.int .u64 t369] (fun k_ => some k_ ≠ (v367 : Value).ownBlock) (fun _ => False) rfl rfl ?aP (fun _ hk => hk.elim) ?aF ?aO ?aB ?aS ?aL ?_;(case aP => exact rfl);(case aB => exact (rW HB));(case aF => exact (fun k_ hk => Kd.fresh' (Kd.R_lt (rR HO368)) k_ hk));(case aO => exact (by (with_reducible repeat (first | apply Kd.R_alloc | apply Kd.R_drewN | apply Kd.R_drew));exact Kd.R_mono HO_13.out (fun _ hk => hk.2)));(case aS => exact (below_size (rW HB)));(case aL => have := LMc44.out;omega);intro v371 w46 ho hb hg hat;rw [← Ny370.out] at ho;replace HO368 := Aside0.mk (Kd.R_after (ok := (fun _ => True)) (by (with_reducible repeat (first | apply Kd.R_alloc | apply Kd.R_drewN | apply Kd.R_drew));exact Kd.R_mono HO368.out (fun _ hk => ⟨trivial,hk⟩)) hg hat);replace HB := Aside0.mk (hb);have HO372 := Aside0.mk (ho);clear HO_13;clear ho hb hg hat))
            go_roundg k1
            case measure => have := HK1.out;omega
            case rel => exact ⟨(y366),(y370),(wrap64 (x14_1 + 1)),(by first | rfl | (simp;done) | (simp [*];done)),H',⟨by have := HK1.out;omega⟩,⟨by (with_reducible repeat (first | apply Kd.R_alloc | apply Kd.R_drewN | apply Kd.R_drew));exact Kd.R_mono HO368.out (fun _ hk => hk.2)⟩,⟨rR HO372⟩,⟨rW HB⟩⟩
           ·rw [if_neg c44] at H
            exact absurd H (by simp)
          ·rw [if_neg c42] at H
           exact absurd H (by simp)
         ·rw [if_neg c41] at H
          exact absurd H (by simp)
        ·replace c40 := Bool.eq_false_iff.mpr c40
         subst c40
         have H1 : (if x12_1.length < 17592186044416 then ((trefoilref03_Sub.f k1 a0 0 0).bind fun t376 => (if x13_1.length < 17592186044416 then (trefoilref22_Split.l0 k1 a0 a1 l2 l3 l4 (x12_1 ++ [0]) (x13_1 ++ [t376]) (wrap64 (x14_1 + 1))) else (none))) else (none)) = some (r1,r2) := by rw [if_neg (show ¬ (false = true) by decide)] at H;exact H
         clear H;have H := H1;clear H1
         by_cases c47 : x12_1.length < 17592186044416
         ·rw [if_pos c47] at H
          have LMc47 := Aside0.mk c47;clear c47;obtain ⟨y373,hy373⟩ : ∃ y_ : List Int,y_ = (x12_1 ++ [0]) := ⟨_,rfl⟩;replace H : ((trefoilref03_Sub.f k1 a0 0 0).bind fun t376 => (if x13_1.length < 17592186044416 then (trefoilref22_Split.l0 k1 a0 a1 l2 l3 l4 y373 (x13_1 ++ [t376]) (wrap64 (x14_1 + 1))) else (none))) = some (r1,r2) := rY hy373 H;have Ny373 := Aside0.mk hy373;clear hy373;replace H := Option.bind_eq_some_iff.mp H;obtain ⟨t376,A480,H⟩ := H;replace H : (if x13_1.length < 17592186044416 then (trefoilref22_Split.l0 k1 a0 a1 l2 l3 l4 y373 (x13_1 ++ [t376]) (wrap64 (x14_1 + 1))) else (none)) = some (r1,r2) := H;have A48 := Aside0.mk A480;clear A480
          by_cases c49 : x13_1.length < 17592186044416
          ·rw [if_pos c49] at H
           have LMc49 := Aside0.mk c49;clear c49;obtain ⟨y377,hy377⟩ : ∃ y_ : List Int,y_ = (x13_1 ++ [t376]) := ⟨_,rfl⟩;replace H : (trefoilref22_Split.l0 k1 a0 a1 l2 l3 l4 y373 y377 (wrap64 (x14_1 + 1))) = some (r1,r2) := rY hy377 H;have Ny377 := Aside0.mk hy377;clear hy377;have H' := Aside0.mk H;clear H;have p364 : 0 ≤ ((ji37) : Int) := of_decide_eq_true (by first | (with_reducible assumption) | assumption);have q364 : (ji37) < (l3.length : Int) := of_decide_eq_true (by first | (with_reducible assumption) | assumption);obtain ⟨ad364,e364,hx364_0⟩ := Kd.at_bool HR3.out (ji37) p364 q364;(try rw [← Nbq39.out] at hx364_0)
           cases e364
           replace hx364_0 := (HB.out.cell (World.block_lt_of_cell? w _ hx364_0)).trans hx364_0;replace p364 := eq_true p364;replace q364 := eq_true q364
           go_wp2_with (first | ((with_reducible refine gate_builtin (b := .append) (xs := #[.tmp 53,.tmp 55]) rfl ?_);at_builtin;refine Kd.R_append (Kd.int .u64) (w0 := w) w.heap.size rfl (.tmp 53) (.tmp 55) 23 32 (.int .u64 0) 8 rfl Try.underlying23 info32 rfl (by decide) (by omega) u12 x12_1 0 [.int .u64 0] (fun k_ => some k_ ≠ (u13 : Value).ownBlock) (fun _ => False) rfl rfl ?aP (fun _ hk => hk.elim) ?aF ?aO ?aB ?aS ?aL ?_;(case aP => exact rfl);(case aB => exact (rW HB));(case aF => exact (fun k_ hk => Kd.fresh' (Kd.R_lt (rR HO_13)) k_ hk));(case aO => exact (rR HO_12));(case aS => exact (below_size (rW HB)));(case aL => have := LMc47.out;omega);intro v374 w50 ho hb hg hat;rw [← Ny373.out] at ho;replace HO_13 := Aside0.mk (Kd.R_after (ok := (fun _ => True)) (by (with_reducible repeat (first | apply Kd.R_alloc | apply Kd.R_drewN | apply Kd.R_drew));exact Kd.R_mono HO_13.out (fun _ hk => ⟨trivial,hk⟩)) hg hat);replace HB := Aside0.mk (hb);have HO375 := Aside0.mk (ho);clear HO_12;clear ho hb hg hat) | ((with_reducible refine gate_callee (f := 10) rfl ?_);refine gL (some 61) Try.func10 #[.int .i64 a0,.int .u64 0,.int .u64 0] ?_;(with_reducible refine (trefoilref03_Sub.calls k1 a0 0 0 t376 _ A48.out).mono ?_);rintro e w' ⟨rfl,⟨nd,rfl⟩⟩;refine ⟨_,rfl,?_⟩) | ((with_reducible refine gate_builtin (b := .append) (xs := #[.tmp 57,.tmp 62]) rfl ?_);at_builtin;refine Kd.R_append (Kd.int .u64) (w0 := w) w.heap.size rfl (.tmp 57) (.tmp 62) 23 32 (.int .u64 0) 8 rfl Try.underlying23 info32 rfl (by decide) (by omega) u13 x13_1 t376 [.int .u64 t376] (fun k_ => some k_ ≠ (v374 : Value).ownBlock) (fun _ => False) rfl rfl ?aP (fun _ hk => hk.elim) ?aF ?aO ?aB ?aS ?aL ?_;(case aP => exact rfl);(case aB => exact (rW HB));(case aF => exact (fun k_ hk => Kd.fresh' (Kd.R_lt (rR HO375)) k_ hk));(case aO => exact (by (with_reducible repeat (first | apply Kd.R_alloc | apply Kd.R_drewN | apply Kd.R_drew));exact Kd.R_mono HO_13.out (fun _ hk => hk.2)));(case aS => exact (below_size (rW HB)));(case aL => have := LMc49.out;omega);intro v378 w51 ho hb hg hat;rw [← Ny377.out] at ho;replace HO375 := Aside0.mk (Kd.R_after (ok := (fun _ => True)) (by (with_reducible repeat (first | apply Kd.R_alloc | apply Kd.R_drewN | apply Kd.R_drew));exact Kd.R_mono HO375.out (fun _ hk => ⟨trivial,hk⟩)) hg hat);replace HB := Aside0.mk (hb);have HO379 := Aside0.mk (ho);clear HO_13;clear ho hb hg hat))
           go_roundg k1
           case measure => have := HK1.out;omega
           case rel => exact ⟨(y373),(y377),(wrap64 (x14_1 + 1)),(by first | rfl | (simp;done) | (simp [*];done)),H',⟨by have := HK1.out;omega⟩,⟨by (with_reducible repeat (first | apply Kd.R_alloc | apply Kd.R_drewN | apply Kd.R_drew));exact Kd.R_mono HO375.out (fun _ hk => hk.2)⟩,⟨rR HO379⟩,⟨rW HB⟩⟩
          ·rw [if_neg c49] at H
           exact absurd H (by simp)
         ·rw [if_neg c47] at H
          exact absurd H (by simp)
       ·rw [if_neg c38] at H
        exact absurd H (by simp)
      ·rw [if_neg c36] at H
       have c36b0 : decide ((wrap64 (Int.tdiv x14_1 a1)) < (l3.length : Int)) = false := decide_eq_false c36;clear c36
       by_cases c52 : x12_1.length < 17592186044416
       ·rw [if_pos c52] at H
        have LMc52 := Aside0.mk c52;clear c52;obtain ⟨y380,hy380⟩ : ∃ y_ : List Int,y_ = (x12_1 ++ [0]) := ⟨_,rfl⟩;replace H : ((trefoilref03_Sub.f k1 a0 0 0).bind fun t383 => (if x13_1.length < 17592186044416 then (trefoilref22_Split.l0 k1 a0 a1 l2 l3 l4 y380 (x13_1 ++ [t383]) (wrap64 (x14_1 + 1))) else (none))) = some (r1,r2) := rY hy380 H;have Ny380 := Aside0.mk hy380;clear hy380;replace H := Option.bind_eq_some_iff.mp H;obtain ⟨t383,A530,H⟩ := H;replace H : (if x13_1.length < 17592186044416 then (trefoilref22_Split.l0 k1 a0 a1 l2 l3 l4 y380 (x13_1 ++ [t383]) (wrap64 (x14_1 + 1))) else (none)) = some (r1,r2) := H;have A53 := Aside0.mk A530;clear A530
        by_cases c54 : x13_1.length < 17592186044416
        ·rw [if_pos c54] at H
         have LMc54 := Aside0.mk c54;clear c54;obtain ⟨y384,hy384⟩ : ∃ y_ : List Int,y_ = (x13_1 ++ [t383]) := ⟨_,rfl⟩;replace H : (trefoilref22_Split.l0 k1 a0 a1 l2 l3 l4 y380 y384 (wrap64 (x14_1 + 1))) = some (r1,r2) := rY hy384 H;have Ny384 := Aside0.mk hy384;clear hy384;have H' := Aside0.mk H;clear H
         go_wp2_with (first | ((with_reducible refine gate_builtin (b := .append) (xs := #[.tmp 53,.tmp 55]) rfl ?_);at_builtin;refine Kd.R_append (Kd.int .u64) (w0 := w) w.heap.size rfl (.tmp 53) (.tmp 55) 23 32 (.int .u64 0) 8 rfl Try.underlying23 info32 rfl (by decide) (by omega) u12 x12_1 0 [.int .u64 0] (fun k_ => some k_ ≠ (u13 : Value).ownBlock) (fun _ => False) rfl rfl ?aP (fun _ hk => hk.elim) ?aF ?aO ?aB ?aS ?aL ?_;(case aP => exact rfl);(case aB => exact (rW HB));(case aF => exact (fun k_ hk => Kd.fresh' (Kd.R_lt (rR HO_13)) k_ hk));(case aO => exact (rR HO_12));(case aS => exact (below_size (rW HB)));(case aL => have := LMc52.out;omega);intro v381 w55 ho hb hg hat;rw [← Ny380.out] at ho;replace HO_13 := Aside0.mk (Kd.R_after (ok := (fun _ => True)) (by (with_reducible repeat (first | apply Kd.R_alloc | apply Kd.R_drewN | apply Kd.R_drew));exact Kd.R_mono HO_13.out (fun _ hk => ⟨trivial,hk⟩)) hg hat);replace HB := Aside0.mk (hb);have HO382 := Aside0.mk (ho);clear HO_12;clear ho hb hg hat) | ((with_reducible refine gate_callee (f := 10) rfl ?_);refine gL (some 61) Try.func10 #[.int .i64 a0,.int .u64 0,.int .u64 0] ?_;(with_reducible refine (trefoilref03_Sub.calls k1 a0 0 0 t383 _ A53.out).mono ?_);rintro e w' ⟨rfl,⟨nd,rfl⟩⟩;refine ⟨_,rfl,?_⟩) | ((with_reducible refine gate_builtin (b := .append) (xs := #[.tmp 57,.tmp 62]) rfl ?_);at_builtin;refine Kd.R_append (Kd.int .u64) (w0 := w) w.heap.size rfl (.tmp 57) (.tmp 62) 23 32 (.int .u64 0) 8 rfl Try.underlying23 info32 rfl (by decide) (by omega) u13 x13_1 t383 [.int .u64 t383] (fun k_ => some k_ ≠ (v381 : Value).ownBlock) (fun _ => False) rfl rfl ?aP (fun _ hk => hk.elim) ?aF ?aO ?aB ?aS ?aL ?_;(case aP => exact rfl);(case aB => exact (rW HB));(case aF => exact (fun k_ hk => Kd.fresh' (Kd.R_lt (rR HO382)) k_ hk));(case aO => exact (by (with_reducible repeat (first | apply Kd.R_alloc | apply Kd.R_drewN | apply Kd.R_drew));exact Kd.R_mono HO_13.out (fun _ hk => hk.2)));(case aS => exact (below_size (rW HB)));(case aL => have := LMc54.out;omega);intro v385 w56 ho hb hg hat;rw [← Ny384.out] at ho;replace HO382 := Aside0.mk (Kd.R_after (ok := (fun _ => True)) (by (with_reducible repeat (first | apply Kd.R_alloc | apply Kd.R_drewN | apply Kd.R_drew));exact Kd.R_mono HO382.out (fun _ hk => ⟨trivial,hk⟩)) hg hat);replace HB := Aside0.mk (hb);have HO386 := Aside0.mk (ho);clear HO_13;clear ho hb hg hat))
         go_roundg k1
         case measure => have := HK1.out;omega
         case rel => exact ⟨(y380),(y384),(wrap64 (x14_1 + 1)),(by first | rfl | (simp;done) | (simp [*];done)),H',⟨by have := HK1.out;omega⟩,⟨by (with_reducible repeat (first | apply Kd.R_alloc | apply Kd.R_drewN | apply Kd.R_drew));exact Kd.R_mono HO382.out (fun _ hk => hk.2)⟩,⟨rR HO386⟩,⟨rW HB⟩⟩
        ·rw [if_neg c54] at H
         exact absurd H (by simp)
       ·rw [if_neg c52] at H
        exact absurd H (by simp)
   ·rw [if_neg c6] at H
    have c6b0 : decide (x14_1 < (l2.length : Int)) = false := decide_eq_false c6;clear c6;simp only [Option.some.injEq,Prod.mk.injEq] at H;obtain ⟨rfl,rfl⟩ := H
    go_wp2
    go_ret2
    exact ⟨_,_,by first | rfl | (simp [errW_none,errW_some] <;> rfl) | (simp [*,errW_none,errW_some] <;> rfl),rR HO_12,rR HO_13,rW HB⟩
def bits_Vec_Get.f (a0_0 : Int) (l0_1 : List Int) (a1 : Int) : Option (Bool) := if a1 < 0 then (some false) else (if a1 ≥ a0_0 then (some false) else (if 0 ≤ (wrap64 (Int.tdiv a1 64)) then (if (wrap64 (Int.tdiv a1 64)) < (l0_1.length : Int) then (if 0 ≤ (IntKind.u64.wrap (Int.tmod a1 64)) then (some ((Go.bits .and .u64 (shr .u64 (rd l0_1 (wrap64 (Int.tdiv a1 64))) (IntKind.u64.wrap (Int.tmod a1 64))) 1) == 1)) else (none)) else (none)) else (none)))
set_option maxHeartbeats 8000000 in
set_option maxRecDepth 100000 in
theorem bits_Vec_Get.calls (a0_0 : Int) (A0_1 : Option Addr) (c0_1 : Nat) (l0_1 : List Int) (a1 : Int) (r : Bool) (w : World) (hr0_1 : Kd.C (Kd.int .u64) w A0_1 l0_1.length l0_1) (hc0_1 : l0_1.length ≤ c0_1) (h : bits_Vec_Get.f a0_0 l0_1 a1 = some r) :
  Calls Try.prog 44 #[.agg #[.int .i64 a0_0,.slice A0_1 l0_1.length c0_1],.int .i64 a1] w fun e w' => e = .returned (.bool r) ∧ Below w.heap.size w w' := by
 have hu49 := Try.underlying49;have HR0_1 := Aside0.mk hr0_1;have HC0_1 := Aside0.mk hc0_1;clear hr0_1 hc0_1;have HB := Aside0.mk (Below.refl w.heap.size w);have H : (if a1 < 0 then (some false) else (if a1 ≥ a0_0 then (some false) else (if 0 ≤ (wrap64 (Int.tdiv a1 64)) then (if (wrap64 (Int.tdiv a1 64)) < (l0_1.length : Int) then (if 0 ≤ (IntKind.u64.wrap (Int.tmod a1 64)) then (some ((Go.bits .and .u64 (shr .u64 (rd l0_1 (wrap64 (Int.tdiv a1 64))) (IntKind.u64.wrap (Int.tmod a1 64))) 1) == 1)) else (none)) else (none)) else (none)))) = some r := h;clear h
 by_cases c3 : a1 < 0
 ·rw [if_pos c3] at H
  have c3b0 : decide (a1 < 0) = true := decide_eq_true c3;clear c3;obtain rfl := Option.some.inj H
  go_enter Try.func44,Try.ntmps44
  go_wp2_with (first | ((with_reducible refine gate_dst (N := 2) rfl ?_);refine bx 2 #[.int .i64 a0_0,.slice A0_1 l0_1.length c0_1] 49 ?_;intro gb387 hg w4 hbox hb;have BK387 := Aside0.mk hbox;have GW387 := bz HB hg;have GE387 := bz HB hg;replace HB := bs HB hb;clear hb hbox hg))
  go_ret
  exact ⟨by first | rfl | (simp [errW_none,errW_some] <;> rfl) | (simp [*,errW_none,errW_some] <;> rfl),rW HB⟩
 ·rw [if_neg c3] at H
  have c3b0 : decide (a1 < 0) = false := decide_eq_false c3;clear c3
  by_cases c5 : a1 ≥ a0_0
  ·rw [if_pos c5] at H
   have c5b0 : decide (a0_0 ≤ a1) = true := decide_eq_true c5;clear c5;obtain rfl := Option.some.inj H
   go_enter Try.func44,Try.ntmps44
   go_wp2_with (first | ((with_reducible refine gate_dst (N := 2) rfl ?_);refine bx 2 #[.int .i64 a0_0,.slice A0_1 l0_1.length c0_1] 49 ?_;intro gb387 hg w6 hbox hb;have BK387 := Aside0.mk hbox;have GW387 := bz HB hg;have GE387 := bz HB hg;replace HB := bs HB hb;clear hb hbox hg;obtain ⟨hcz7_0,hcz7_1,hfz7_0,hfz7_1⟩ := cz2 BK387))
   go_ret
   exact ⟨by first | rfl | (simp [errW_none,errW_some] <;> rfl) | (simp [*,errW_none,errW_some] <;> rfl),rW HB⟩
  ·rw [if_neg c5] at H
   have c5b0 : decide (a0_0 ≤ a1) = false := decide_eq_false c5;clear c5;obtain ⟨ji8,hji8⟩ : ∃ j_ : Int,(wrap64 (Int.tdiv a1 64)) = j_ := ⟨_,rfl⟩
   replace H : (if 0 ≤ (ji8) then (if (ji8) < (l0_1.length : Int) then (if 0 ≤ (IntKind.u64.wrap (Int.tmod a1 64)) then (some ((Go.bits .and .u64 (shr .u64 (rd l0_1 (ji8)) (IntKind.u64.wrap (Int.tmod a1 64))) 1) == 1)) else (none)) else (none)) else (none)) = some r := by first | (rw [hji8] at H;exact H) | (simp only [hji8] at H ⊢;exact H)
   have hji8w : (IntKind.i64.wrap (Int.tdiv a1 64)) = ji8 := (i64_w _).trans hji8
   by_cases c9 : 0 ≤ (ji8)
   ·rw [if_pos c9] at H
    have c9b0 : decide (0 ≤ (ji8)) = true := decide_eq_true c9;clear c9
    by_cases c10 : (ji8) < (l0_1.length : Int)
    ·rw [if_pos c10] at H
     have c10b0 : decide ((ji8) < (l0_1.length : Int)) = true := decide_eq_true c10;clear c10;obtain ⟨ji11,hji11⟩ : ∃ j_ : Int,(IntKind.u64.wrap (Int.tmod a1 64)) = j_ := ⟨_,rfl⟩
     replace H : (if 0 ≤ (ji11) then (some ((Go.bits .and .u64 (shr .u64 (rd l0_1 (ji8)) (ji11)) 1) == 1)) else (none)) = some r := by first | (rw [hji11] at H;exact H) | (simp only [hji11] at H ⊢;exact H)
     by_cases c12 : 0 ≤ (ji11)
     ·rw [if_pos c12] at H
      have c12b0 := eq_true c12;have c12b1 : decide (0 ≤ (ji11)) = true := decide_eq_true c12;clear c12;obtain ⟨ji13,hji13⟩ : ∃ j_ : Int,(shr .u64 (rd l0_1 (ji8)) (ji11)) = j_ := ⟨_,rfl⟩
      replace H : (some ((Go.bits .and .u64 (ji13) 1) == 1)) = some r := by first | (rw [hji13] at H;exact H) | (simp only [hji13] at H ⊢;exact H)
      have hji13_ : ((rd l0_1 (ji8)) / 2 ^ min (ji11).toNat 64) = ji13 := hji13;have hji13z : (ji11) ≤ 64 → ((rd l0_1 (ji8)) / 2 ^ (ji11).toNat) = ji13 := shr_small hji13;obtain rfl := Option.some.inj H
      go_enter Try.func44,Try.ntmps44
      go_wp2_with (first | ((with_reducible refine gate_dst (N := 2) rfl ?_);refine bx 2 #[.int .i64 a0_0,.slice A0_1 l0_1.length c0_1] 49 ?_;intro gb387 hg w14 hbox hb;have BK387 := Aside0.mk hbox;have GW387 := bz HB hg;have GE387 := bz HB hg;replace HB := bs HB hb;clear hb hbox hg;obtain ⟨hcz15_0,hcz15_1,hfz15_0,hfz15_1⟩ := cz2 BK387;have p388 : 0 ≤ ((ji8) : Int) := of_decide_eq_true (by first | (with_reducible assumption) | assumption);have q388 : (ji8) < (l0_1.length : Int) := of_decide_eq_true (by first | (with_reducible assumption) | assumption);obtain ⟨ad388,e388,hx388_0⟩ := Kd.at_int HR0_1.out (ji8) p388 q388;cases e388;replace hx388_0 := (HB.out.cell (World.block_lt_of_cell? w _ hx388_0)).trans hx388_0;replace p388 := eq_true p388;replace q388 := eq_true q388))
      go_ret
      exact ⟨by first | rfl | (simp [errW_none,errW_some] <;> rfl) | (simp only [← hji8,← hji11,← hji13];first | rfl | (simp [errW_none,errW_some] <;> rfl)) | (simp [*,errW_none,errW_some] <;> rfl),rW HB⟩
     ·rw [if_neg c12] at H
      exact absurd H (by simp)
    ·rw [if_neg c10] at H
     exact absurd H (by simp)
   ·rw [if_neg c9] at H
    exact absurd H (by simp)
def bits_Vec_Bools.l0 : Nat → List Bool → Int → Int → Int → List Int → Option (List Bool)
 | 0,_,_,_,_,_ => none
 | k + 1,x3,x9,x10,x390000,x390001 => if x10 < x9 then ((bits_Vec_Get.f x390000 x390001 x10).bind fun t393 => (if 0 ≤ x10 then (if x10 < (x3.length : Int) then (bits_Vec_Bools.l0 k (x3.set (x10 : Int).toNat t393) x9 (wrap64 (x10 + 1)) x390000 x390001) else (none)) else (none))) else (some x3)
def bits_Vec_Bools.f (k : Nat) (a0_0 : Int) (l0_1 : List Int) : Option (List Bool) := if 0 ≤ a0_0 then (if (a0_0 : Int).toNat ≤ 281474976710656 then ((some (List.replicate (a0_0 : Int).toNat false : List Bool)).bind fun y390 => (bits_Vec_Bools.l0 k y390 (y390.length : Int) 0 a0_0 l0_1)) else (none)) else (none)
theorem bits_Vec_Bools.mono_l : ∀ k,(∀ y0 y1 y2 y3 y4,LeO (bits_Vec_Bools.l0 k y0 y1 y2 y3 y4) (bits_Vec_Bools.l0 (k + 1) y0 y1 y2 y3 y4))
 | 0 => fun _ _ _ _ _ r h => by simp [bits_Vec_Bools.l0] at h
 | k + 1 => by
  have ih0 := bits_Vec_Bools.mono_l k
  ·intro y0 y1 y2 y3 y4
   unfold bits_Vec_Bools.l0
   repeat' first | (with_reducible first | exact ih0 _ _ _ _ _ | exact LeO.refl _ | exact LeO.none _ | refine LeO.ite ?_ ?_ | refine LeO.bind ?_ (fun _ => ?_)) | exact LeO.none _ | refine LeO.ite ?_ ?_ | refine LeO.bind ?_ (fun _ => ?_)
theorem bits_Vec_Bools.mono : ∀ a0 a1 k,LeO (bits_Vec_Bools.f k a0 a1) (bits_Vec_Bools.f (k + 1) a0 a1) := by
 intro a0 a1 k;have ih0 := bits_Vec_Bools.mono_l k;unfold bits_Vec_Bools.f
 repeat' first | (with_reducible first | exact ih0 _ _ _ _ _ | exact LeO.refl _ | exact LeO.none _ | refine LeO.ite ?_ ?_ | refine LeO.bind ?_ (fun _ => ?_)) | exact LeO.none _ | refine LeO.ite ?_ ?_ | refine LeO.bind ?_ (fun _ => ?_)
set_option maxHeartbeats 8000000 in
set_option maxRecDepth 100000 in
theorem bits_Vec_Bools.calls (k : Nat) (a0_0 : Int) (A0_1 : Option Addr) (c0_1 : Nat) (l0_1 : List Int) (r : List Bool) (w : World) (hr0_1 : Kd.C (Kd.int .u64) w A0_1 l0_1.length l0_1) (hc0_1 : l0_1.length ≤ c0_1) (h : bits_Vec_Bools.f k a0_0 l0_1 = some r) :
  Calls Try.prog 21 #[.agg #[.int .i64 a0_0,.slice A0_1 l0_1.length c0_1]] w fun e w' => ∃ v0_ : Value,e = .returned (v0_) ∧ Kd.R Kd.bool 4 w' w.heap.size (fun _ => True) v0_ r ∧ Below w.heap.size w w' := by
 have hu49 := Try.underlying49;have HR0_1 := Aside0.mk hr0_1;have HC0_1 := Aside0.mk hc0_1;clear hr0_1 hc0_1;have HB := Aside0.mk (Below.refl w.heap.size w);have H : (if 0 ≤ a0_0 then (if (a0_0 : Int).toNat ≤ 281474976710656 then ((some (List.replicate (a0_0 : Int).toNat false : List Bool)).bind fun y390 => (bits_Vec_Bools.l0 k y390 (y390.length : Int) 0 a0_0 l0_1)) else (none)) else (none)) = some r := h;clear h
 by_cases c2 : 0 ≤ a0_0
 ·rw [if_pos c2] at H
  have c2b0 := eq_true c2;have c2b1 : decide (0 ≤ a0_0) = true := decide_eq_true c2;clear c2
  by_cases c3 : (a0_0 : Int).toNat ≤ 281474976710656
  ·rw [if_pos c3] at H
   have c3b0 := eq_true c3;have c3b1 : decide ((a0_0 : Int).toNat ≤ 281474976710656) = true := decide_eq_true c3;clear c3;obtain ⟨y390,hy390⟩ : ∃ y_ : List Bool,y_ = (List.replicate (a0_0 : Int).toNat false) := ⟨_,rfl⟩;replace H : (bits_Vec_Bools.l0 k y390 (y390.length : Int) 0 a0_0 l0_1) = some r := rY hy390 H;have Ny390 := Aside0.mk hy390;clear hy390;have H' := Aside0.mk H;clear H
   go_enter Try.func21,Try.ntmps21
   go_wp2_with (first | ((with_reducible refine gate_dst (N := 1) rfl ?_);refine bx 1 #[.int .i64 a0_0,.slice A0_1 l0_1.length c0_1] 49 ?_;intro gb389 hg w4 hbox hb;have BK389 := Aside0.mk hbox;have GW389 := bz HB hg;have GE389 := bz HB hg;replace HB := bs HB hb;clear hb hbox hg;obtain ⟨hcz5_0,hcz5_1,hfz5_0,hfz5_1⟩ := cz2 BK389) | ((with_reducible refine gate_dst (N := 7) rfl ?_);refine Kd.R_make Kd.bool _ 4 rfl (N := 7) rfl 22 _ _ rfl a0_0 rfl rfl Try.underlying22 (.bool false) 1 info4 rfl (by decide) (by omega) false (ok := fun _ => True) (okp := fun _ => True) rfl (fun _ hk => hk) trivial (of_decide_eq_true (by first | (with_reducible assumption) | assumption)) (Nat.le_trans (Nat.mul_le_mul_right _ (of_decide_eq_true (by first | (with_reducible assumption) | assumption) : a0_0.toNat ≤ 281474976710656)) (by omega)) (Below.refl _ _) (Nat.le_refl _) ?_;intro v391 w6 ho7 hb hg_ hnew_;clear hg_ hnew_;(first | rw [← Ny390.out] at ho7 | (simp only [Int.reduceToNat] at ho7;rw [← Ny390.out] at ho7));have HO392 := Aside0.mk (Kd.R_lower ho7 (below_size (rW HB)));replace BK389 := bb BK389 hb;replace HB := bs HB hb;clear hb ho7;obtain ⟨Ao8,co8,eo8⟩ := Kd.R_slice HO392.out;subst eo8))
   go_loopg [10] k (fun kq v10 w' => ∃ (x3_1 : List Bool) (x10_1 : Int),v10 = .int .i64 x10_1 ∧ Aside0 (bits_Vec_Bools.l0 kq x3_1 (y390.length : Int) x10_1 a0_0 l0_1 = some r) ∧ Aside0 (kq ≤ k) ∧ Aside0 (Kd.R Kd.bool 4 w' w.heap.size (fun _ => True) (.slice Ao8 y390.length co8) x3_1) ∧ Aside0 (w'.heap[gb389]? = some (.cells #[.int .i64 a0_0,(.slice A0_1 l0_1.length c0_1)] 49 (0,0))) ∧ Aside0 (Below w.heap.size w w'))
   case atStart => exact ⟨(y390),(0),(by first | rfl | (simp;done) | (simp [*];done)),H',⟨Nat.le_refl _⟩,⟨rR HO392⟩,⟨rB BK389⟩,⟨rW HB⟩⟩
   case round =>
    clear H'
    try clear c2
    try clear c2b0
    try clear c2b1
    try clear p2
    try clear c3
    try clear c3b0
    try clear c3b1
    try clear hcz5_0 hcz5_1 hfz5_0 hfz5_1
    obtain ⟨x3_1,x10_1,rfl,HA,HK1,HO_3,BK389,HB⟩ := hrel;have hl3_1 := (Kd.R_reads' HO_3.out).1;rw [hl3_1] at HO_3;(try simp only [hl3_1]);(try simp only [hl3_1] at BK389)
    cases gk with
    | zero => exact absurd HA.out (by simp [bits_Vec_Bools.l0])
    | succ k1 =>
     have H := HA.out;clear HA;simp only [bits_Vec_Bools.l0] at H
     by_cases c9 : x10_1 < (y390.length : Int)
     ·rw [if_pos c9] at H
      have c9b0 : decide (x10_1 < (y390.length : Int)) = true := decide_eq_true c9;clear c9;replace H := Option.bind_eq_some_iff.mp H;obtain ⟨t393,A100,H⟩ := H;replace H : (if 0 ≤ x10_1 then (if x10_1 < (x3_1.length : Int) then (bits_Vec_Bools.l0 k1 (x3_1.set (x10_1 : Int).toNat t393) (y390.length : Int) (wrap64 (x10_1 + 1)) a0_0 l0_1) else (none)) else (none)) = some r := H;have A10 := Aside0.mk A100;clear A100
      by_cases c11 : 0 ≤ x10_1
      ·rw [if_pos c11] at H
       have c11b0 : decide (0 ≤ x10_1) = true := decide_eq_true c11;clear c11
       by_cases c12 : x10_1 < (x3_1.length : Int)
       ·rw [if_pos c12] at H
        have c12b0 : decide (x10_1 < (x3_1.length : Int)) = true := decide_eq_true c12;clear c12;obtain ⟨y394,hy394⟩ : ∃ y_ : List Bool,y_ = (x3_1.set (x10_1 : Int).toNat t393) := ⟨_,rfl⟩;replace H : (bits_Vec_Bools.l0 k1 y394 (y390.length : Int) (wrap64 (x10_1 + 1)) a0_0 l0_1) = some r := rY hy394 H;have Ny394 := Aside0.mk hy394;clear hy394;have H' := Aside0.mk H;clear H;obtain ⟨hcz14_0,hcz14_1,hfz14_0,hfz14_1⟩ := cz2 BK389
        go_wp2_with (first | ((with_reducible refine gate_callee (f := 44) rfl ?_);refine gL (some 17) Try.func44 #[.agg #[.int .i64 a0_0,.slice A0_1 l0_1.length c0_1],.int .i64 x10_1] ?_;(with_reducible refine (bits_Vec_Get.calls a0_0 _ _ l0_1 x10_1 t393 _ ?side1 ?side2 A10.out).mono ?_);(case side1 => exact rC (Kd.C_below HR0_1.out HB.out));(case side2 => exact HC0_1.out);rintro e w15 ⟨rfl,hb⟩;refine ⟨_,rfl,?_⟩;replace HO_3 := bR HO_3 hb;replace BK389 := bb BK389 hb;replace HB := bs HB hb;(try clear hb);(try clear hb2);(try clear hk);(try clear hi);have p13 : 0 ≤ (x10_1 : Int) := of_decide_eq_true (by first | (with_reducible assumption) | assumption);have q13 : (x10_1 : Int) < ((x3_1.length : Int) : Int) := of_decide_eq_true (by first | (with_reducible assumption) | assumption);obtain ⟨go13,co13,eo13,gb13,gl13,cl13,HG13⟩ := Kd.R_form HO_3.out (by omega);(first | cases eo13 | (injection eo13 with ea_ en_ ec_;(first | subst ea_ | (injection ea_ with ea_;subst ea_));subst ec_;clear en_));have GB13 := Aside0.mk gb13;have GG13 := Aside0.mk HG13;clear gb13 gl13 HG13;obtain ⟨hx13_0,hf13_0⟩ := Kd.R_celln false HO_3.out (x10_1 : Int) p13 q13;replace p13 := eq_true p13;replace q13 := eq_true q13;obtain ⟨hy16_,hz16_⟩ := Kd.R_celln false HO_3.out (x10_1 : Int) (of_decide_eq_true (by first | (with_reducible assumption) | assumption)) (of_decide_eq_true (by first | (with_reducible assumption) | assumption));have HP16 := Kd.R_putg HO_3.out (x10_1 : Int) t393) | ((with_reducible refine gate_store (t := 4) (p := 18) rfl ?_);refine store_event (t := 4) (p := 18) (v := ?vo_w17) (w1 := (w15.setCell ⟨go13,(x10_1 : Int).toNat,none⟩ (.bool t393))) ?hg ?ho ?hn ?hr ?_;(case ho => rfl);(case hg => rfl);(case hn => rfl);(case hr => first | (go_simp;done) | (go_simp;rfl));intro w17 hw;have hg : w15.grownBy w17 (some go13) := (by rw [hw];exact HP16.2);have hp_ : Kd.R Kd.bool 4 w17 w.heap.size (fun _ => True) (.slice (some ⟨go13,0,none⟩) x3_1.length co8) y394 := (by rw [hw,Ny394.out];exact HP16.1);clear HP16;replace BK389 := Aside0.mk (blk_grown (g := gb389) (o := .cells #[.int .i64 a0_0,.slice A0_1 l0_1.length c0_1] 49 (0,0)) (rB BK389) hg (Kd.R_ne HO_3.out BK389.out (by decide)));replace HO_3 := Aside0.mk (hp_);replace HB := Aside0.mk ((by rw [hw];exact below_set (HB.out) GB13.out : Below w.heap.size w w17));clear hg hw hp_))
        (try simp only [← hl3_1])
        go_roundg k1
        case measure => have := HK1.out;omega
        case rel => exact ⟨(y394),(wrap64 (x10_1 + 1)),(by first | rfl | (simp;done) | (simp [*];done)),H',⟨by have := HK1.out;omega⟩,⟨by (try simp only [hl3_1]);(with_reducible repeat (first | apply Kd.R_alloc | apply Kd.R_drewN | apply Kd.R_drew));exact HO_3.out⟩,⟨by (try simp only [hl3_1]);(with_reducible repeat (first | refine blk_drewN ?_ _ | refine blk_drew ?_ | refine blk_alloc ?_ _));exact BK389.out⟩,⟨rW HB⟩⟩
       ·rw [if_neg c12] at H
        exact absurd H (by simp)
      ·rw [if_neg c11] at H
       exact absurd H (by simp)
     ·rw [if_neg c9] at H
      have c9b0 : decide (x10_1 < (y390.length : Int)) = false := decide_eq_false c9;have c9b0_ := c9b0;(try simp only [hl3_1] at c9b0_);clear c9;obtain rfl := Option.some.inj H
      go_wp2
      go_ret
      exact ⟨_,by first | rfl | (simp [errW_none,errW_some] <;> rfl) | (simp [*,errW_none,errW_some] <;> rfl),rR HO_3,rW HB⟩
  ·rw [if_neg c3] at H
   exact absurd H (by simp)
 ·rw [if_neg c2] at H
  exact absurd H (by simp)
def ring_AddAll.zip (a0 : Int) : List Int → List Int → Option (List Int)
 | x :: xs,y :: ys => (ring_Add.f a0 x y).bind fun z => (ring_AddAll.zip a0 xs ys).bind fun zs => some (z :: zs)
 | _,_ => some []
def ring_AddAll.f (a0 : Int) (l1 : List Int) (l2 : List Int) : Option (List Int × Int) :=
 if l1.length = l2.length then (if l1.length ≤ 35184372088832 then (ring_AddAll.zip a0 l1 l2).bind fun z => some (z,0) else none) else some ([],11)
theorem ring_AddAll.zip_at (a0 : Int) : ∀ (xs ys zs : List Int),ring_AddAll.zip a0 xs ys = some zs → xs.length = ys.length → zs.length = xs.length ∧ ∀ i,i < xs.length → ring_Add.f a0 (xs.getD i 0) (ys.getD i 0) = some (zs.getD i 0)
 | [],[],zs,h,_ => by
  simp [ring_AddAll.zip] at h
  subst h;exact ⟨rfl,fun i hi => absurd hi (by simp)⟩
 | [],y :: ys,zs,h,hl => by simp at hl
 | x :: xs,[],zs,h,hl => by simp at hl
 | x :: xs,y :: ys,zs,h,hl => by
  simp only [ring_AddAll.zip] at h;obtain ⟨z,hz,h⟩ := Option.bind_eq_some_iff.mp h;obtain ⟨zs',hzs,h⟩ := Option.bind_eq_some_iff.mp h;obtain rfl := Option.some.inj h;obtain ⟨h1,h2⟩ := ring_AddAll.zip_at a0 xs ys zs' hzs (by simpa using hl);refine ⟨by simp [h1],fun i hi => ?_⟩
  cases i with
  | zero => simpa using hz
  | succ i => simpa using h2 i (by simpa using hi)
theorem ring_AddAll.mask2 (a0 r1 r2 : Int) (w : World) (h : ring_Mask.f a0 = some (r1,r2)) : Calls Try.prog 81 #[.int .i64 a0] w fun e w' => e = .returned (.tuple #[.int .u64 r1,.int .i64 r2]) ∧ w = w' := by
 unfold ring_Mask.f at h
 by_cases c1 : a0 < 1
 ·rw [if_pos c1] at h
  have H := Aside0.mk h;clear h;have c1b : decide (a0 < 1) = true := decide_eq_true c1
  go_enter Try.func81,Try.ntmps81
  go_wp2
  have := H.out;simp only [Option.some.injEq,Prod.mk.injEq] at this;obtain ⟨rfl,rfl⟩ := this
  go_ret2
  exact ⟨rfl,rfl⟩
 ·rw [if_neg c1] at h
  have c1b : decide (a0 < 1) = false := decide_eq_false c1
  by_cases c2 : a0 > 64
  ·rw [if_pos c2] at h
   have H := Aside0.mk h;clear h;have c2b : decide (64 < a0) = true := decide_eq_true c2
   go_enter Try.func81,Try.ntmps81
   go_wp2
   have := H.out;simp only [Option.some.injEq,Prod.mk.injEq] at this;obtain ⟨rfl,rfl⟩ := this
   go_ret2
   exact ⟨rfl,rfl⟩
  ·rw [if_neg c2] at h
   have H := Aside0.mk h;clear h;have c2b : decide (64 < a0) = false := decide_eq_false c2
   go_enter Try.func81,Try.ntmps81
   have c3 : 0 ≤ 64 - a0 := by omega
   go_wp2
   go_ret2
   have h := H.out
   have e1 : wrap64 (64 - a0) = 64 - a0 := by unfold wrap64;omega
   rw [e1,IntWalk.u64_in _ (by omega),if_pos c3] at h;simp only [Option.some.injEq,Prod.mk.injEq] at h;obtain ⟨h1,rfl⟩ := h;rw [shr_small h1 (by simp [IntKind.bits];omega)];exact ⟨rfl,rfl⟩
theorem ring_AddAll.mask1 (a0 r : Int) (w : World) (h : ring_mask.f a0 = some r) : Calls Try.prog 59 #[.int .i64 a0] w fun e w' => e = .returned (.int .u64 r) ∧ w = w' := by
 unfold ring_mask.f at h;obtain ⟨⟨r1,r2⟩,hq,hr⟩ := Option.bind_eq_some_iff.mp h;obtain rfl : r1 = r := Option.some.inj hr;have H := Aside0.mk hq;clear h hq hr
 go_enter Try.func59,Try.ntmps59
 go_wp2_with (go_at_call 81;refine (ring_AddAll.mask2 a0 r1 r2 _ H.out).mono ?_;rintro e w1 ⟨rfl,rfl⟩)
 go_ret
 exact ⟨rfl,rfl⟩
theorem ring_AddAll.add (a0 x y r : Int) (w : World) (h : ring_Add.f a0 x y = some r) : Calls Try.prog 38 #[.int .i64 a0,.int .u64 x,.int .u64 y] w fun e w' => e = .returned (.int .u64 r) ∧ w = w' := by
 unfold ring_Add.f at h;obtain ⟨m,hq,hr⟩ := Option.bind_eq_some_iff.mp h;obtain rfl := Option.some.inj hr;have H := Aside0.mk hq;clear h hq hr
 go_enter Try.func38,Try.ntmps38
 go_wp2_with (go_at_call 59;refine (ring_AddAll.mask1 a0 m _ H.out).mono ?_;rintro e w1 ⟨rfl,rfl⟩)
 go_ret
 exact ⟨rfl,rfl⟩
theorem ring_AddAll.closure (B : Nat) (a0 x y z : Int) (W : World) (hc : W.cell? ⟨B,0,none⟩ = some (.int .i64 a0)) (h : ring_Add.f a0 x y = some z) :
  Calls Try.prog 80 #[.int .u64 x,.int .u64 y,.pointer (some ⟨B,0,none⟩)] W fun e w' => e = .returned (.int .u64 z) ∧ w' = W := by
 have H := Aside0.mk h;clear h
 go_enter Try.func80,Try.ntmps80
 go_wp2_with (go_at_call 38;refine (ring_AddAll.add a0 x y z _ H.out).mono ?_;rintro e w1 ⟨rfl,rfl⟩)
 go_ret
 exact ⟨rfl,rfl⟩
def ring_AddAll.row (z : List Int) (i : Nat) : List Int := z.take i ++ List.replicate (z.length - i) 0
theorem ring_AddAll.row_zero (z : List Int) : ring_AddAll.row z 0 = List.replicate z.length 0 := by simp [ring_AddAll.row]
theorem ring_AddAll.row_end (z : List Int) : ring_AddAll.row z z.length = z := by simp [ring_AddAll.row]
theorem ring_AddAll.row_length (z : List Int) (i : Nat) (h : i ≤ z.length) : (ring_AddAll.row z i).length = z.length := by simp [ring_AddAll.row];omega
theorem ring_AddAll.row_set (z : List Int) (i : Nat) (h : i < z.length) : (ring_AddAll.row z i).set i (z.getD i 0) = ring_AddAll.row z (i + 1) := by
 unfold ring_AddAll.row;rw [show z.length - i = (z.length - (i + 1)) + 1 by omega,List.replicate_succ,List.set_append_right _ _ (by simp;omega),List.take_succ_eq_append_getElem h];simp only [List.getD_eq_getElem?_getD,List.getElem?_eq_getElem h,List.length_take,show min i z.length = i by omega,Nat.sub_self,List.set_cons_zero,Option.getD_some,List.append_assoc]
 rfl
set_option maxHeartbeats 8000000 in
set_option maxRecDepth 100000 in
theorem ring_AddAll.pairs (a0 : Int) (B : Nat) (A1 : Option Addr) (c1 : Nat) (l1 : List Int) (A2 : Option Addr) (c2 : Nat) (l2 : List Int) (z : List Int) (w : World) (hr1 : Kd.C (Kd.int .u64) w A1 l1.length l1) (hr2 : Kd.C (Kd.int .u64) w A2 l2.length l2)
  (hb : w.cell? ⟨B,0,none⟩ = some (.int .i64 a0)) (hl : l1.length = l2.length) (hs : l1.length ≤ 35184372088832) (h : ring_AddAll.zip a0 l1 l2 = some z) :
  Calls Try.prog 79 #[.slice A1 l1.length c1,.slice A2 l2.length c2,.func (.func 80) #[] #[.pointer (some ⟨B,0,none⟩)]] w fun e w' => ∃ v0_ : Value,e = .returned (.tuple #[v0_,.int .i64 0]) ∧ Kd.R (Kd.int .u64) 32 w' w.heap.size (fun _ => True) v0_ z ∧ Below w.heap.size w w' := by
 obtain ⟨hz,hat⟩ := ring_AddAll.zip_at a0 l1 l2 z h hl;clear h;generalize hn1 : l1.length = n at hl hs hz hr1 hat ⊢;generalize hn2 : l2.length = n2 at hl hr2 ⊢;subst hl;subst hz;clear hn1 hn2;have HR1 := Aside0.mk hr1;have HR2 := Aside0.mk hr2;have HM : Aside0 (z.length ≤ 9223372036854775807) := ⟨hr1.2.1⟩;have HB0 := Aside0.mk hb;have HAT := Aside0.mk hat;have HS := Aside0.mk hs;have HB := Aside0.mk (Below.refl w.heap.size w);clear hr1 hr2 hb hs hat;have c5b : decide (0 ≤ (z.length : Int)) = true := decide_eq_true (by omega)
 go_enter Try.func79,Try.ntmps79
 go_wp2_with (first | ((with_reducible refine gate_dst (N := 17) rfl ?_);refine Kd.R_make (Kd.int .u64) _ 32 rfl (N := 17) rfl 23 _ _ rfl (z.length : Int) rfl rfl Try.underlying23 (.int .u64 0) 8 info32 rfl (by decide) (by omega) 0 (ok := fun _ => True) (okp := fun _ => True) rfl (fun _ hk => hk) trivial (by omega) (by have := HS.out;simp only [Int.toNat_natCast];omega) (Below.refl _ _) (Nat.le_refl _) ?_;intro v w1 ho hb1 hg_ hnew_;clear hg_ hnew_;rw [show List.replicate (z.length : Int).toNat (0 : Int) = ring_AddAll.row z 0 from by rw [ring_AddAll.row_zero];simp] at ho;obtain ⟨Ao,co,eo⟩ := Kd.R_slice ho;rw [ring_AddAll.row_length z 0 (Nat.zero_le _)] at eo;subst eo;have HO := Aside0.mk ho;have HB1 := Aside0.mk hb1;clear ho hb1))
 go_loopg [9,20] z.length (fun gg _ v20 wr => ∃ i : Int,v20 = .int .i64 i ∧ Aside0 (0 ≤ i) ∧ Aside0 (i ≤ z.length) ∧ Aside0 (z.length - i.toNat ≤ gg) ∧ Aside0 (Kd.R (Kd.int .u64) 32 wr w.heap.size (fun _ => True) (.slice Ao z.length co) (ring_AddAll.row z i.toNat)) ∧ Aside0 (Below w.heap.size w wr))
 case atStart => exact ⟨0,rfl,⟨by omega⟩,⟨by omega⟩,⟨by omega⟩,HO,HB1⟩
 case round =>
  clear HO HB1;obtain ⟨i,rfl,h0,h1,h2,HR,HB2⟩ := hrel
  by_cases hlt : i < (z.length : Int)
  ·have q0 : 0 ≤ i := h0.out
   obtain ⟨ad1,rfl,hx⟩ := Kd.at_int HR1.out i q0 hlt;obtain ⟨ad2,rfl,hy⟩ := Kd.at_int HR2.out i q0 hlt;have HF := HAT.out i.toNat (by omega);generalize hex : rd l1 i = x at hx;generalize hey : rd l2 i = y at hy;rw [show l1.getD i.toNat 0 = x from hex,show l2.getD i.toNat 0 = y from hey] at HF;clear hex hey;have RS := ring_AddAll.row_set z i.toNat (by omega);rw [show i.toNat + 1 = (i + 1).toNat by omega] at RS;generalize z.getD i.toNat 0 = zi at HF RS;have RS' := Aside0.mk RS;clear RS;replace hx := (HB2.out.cell (World.block_lt_of_cell? w _ hx)).trans hx;replace hy := (HB2.out.cell (World.block_lt_of_cell? w _ hy)).trans hy;have hcl := ring_AddAll.closure B a0 x y _ wr.drew ((HB2.out.cell (World.block_lt_of_cell? w _ HB0.out)).trans HB0.out) HF;clear HF;have hlen := ring_AddAll.row_length z i.toNat (by omega);obtain ⟨go,cgo,eo,gb,gl,cl,HG⟩ := Kd.R_form HR.out (by rw [hlen];omega);rw [hlen] at eo
   injection eo with ea _ ec
   subst ea;subst ec;clear gl HG
   have HRR : Kd.R (Kd.int .u64) 32 wr w.heap.size (fun _ => True) (.slice (some ⟨go,0,none⟩) (ring_AddAll.row z i.toNat).length co) (ring_AddAll.row z i.toNat) := by rw [hlen];exact HR.out
   obtain ⟨hs0,hf0⟩ := Kd.R_celln 0 HRR i q0 (by rw [hlen];exact hlt);have hlb : decide (i < (z.length : Int)) = true := decide_eq_true hlt;have hlb0 : decide (0 ≤ i) = true := decide_eq_true q0;have W0 : Aside0 (wrap64 (i + 1) = i + 1) := ⟨by have := HM.out;unfold wrap64;omega⟩;replace q0 := eq_true q0;replace hlt := eq_true hlt;have HRA := Aside0.mk HRR;have HL := Aside0.mk hlen;clear HRR hlen
   go_upto_region 7 with (fail)
   go_still_tail 13,(by kernel_rfl)
   still_call hcl
   repeat still_step
   try refine wpStill_nil ?_
   change wpList _ _ _ _ _ wr.drew
   have HRD : Aside0 (Kd.R (Kd.int .u64) 32 wr.drew w.heap.size (fun _ => True) (.slice (some ⟨go,0,none⟩) (ring_AddAll.row z i.toNat).length co) (ring_AddAll.row z i.toNat)) := ⟨Kd.R_drew HRA.out⟩;have HBD : Aside0 (Below w.heap.size w wr.drew) := ⟨below_drew1 HB2.out⟩;have hs1 : wr.drew.cell? ⟨go,i.toNat,none⟩ = some (.int .u64 (rd (ring_AddAll.row z i.toNat) i)) := hs0;have hf1 : wr.drew.frozen? ⟨go,i.toNat,none⟩ = false := hf0;clear hs0 hf0 hx hy hcl HRA HB2 HR;generalize wr.drew = w2 at HRD HBD hs1 hf1 ⊢;have HP := Kd.R_putg HRD.out i zi;have GB := Aside0.mk gb;clear gb
   go_wp2_with (first | ((with_reducible refine gate_store (t := 32) (p := 35) rfl ?_);refine store_event (t := 32) (p := 35) (v := ?vo_) (w1 := (w2.setCell ⟨go,i.toNat,none⟩ (.int .u64 zi))) ?hg ?ho ?hn ?hr ?_;(case ho => rfl);(case hg => rfl);(case hn => rfl);(case hr => first | (go_simp;done) | (go_simp;rfl));intro w15 hw;have HN := Aside0.mk (show Kd.R (Kd.int .u64) 32 w15 w.heap.size (fun _ => True) (.slice (some ⟨go,0,none⟩) z.length co) (ring_AddAll.row z (i + 1).toNat) from by rw [hw,← RS'.out];have := HP.1;rw [HL.out] at this;exact this);have HBN := Aside0.mk (show Below w.heap.size w w15 from by rw [hw];exact below_set HBD.out GB.out);clear HP HRD HBD hs1 hf1 hw))
   go_roundg (z.length - (i + 1).toNat)
   case measure => have := h2.out;have := h0.out;have := of_eq_true hlt;omega
   case rel => exact ⟨i + 1,by rw [W0.out],⟨by have := h0.out;omega⟩,⟨by have := of_eq_true hlt;omega⟩,⟨Nat.le_refl _⟩,HN,HBN⟩
  ·have hlb : decide (i < (z.length : Int)) = false := decide_eq_false hlt
   have HE : Aside0 (Kd.R (Kd.int .u64) 32 wr w.heap.size (fun _ => True) (.slice Ao z.length co) z) := ⟨by
    have h := HR.out;rw [show i.toNat = z.length by have := h1.out;omega,ring_AddAll.row_end] at h
    exact h⟩
   clear HR
   go_wp2
   go_ret2
   exact ⟨_,rfl,HE.out,HB2.out⟩
set_option maxHeartbeats 8000000 in
set_option maxRecDepth 100000 in
theorem ring_AddAll.pairs_no (B : Nat) (A1 : Option Addr) (c1 : Nat) (l1 : List Int) (A2 : Option Addr) (c2 : Nat) (l2 : List Int) (w : World) (hl : ¬ l1.length = l2.length) :
  Calls Try.prog 79 #[.slice A1 l1.length c1,.slice A2 l2.length c2,.func (.func 80) #[] #[.pointer (some ⟨B,0,none⟩)]] w fun e w' => e = .returned (.tuple #[.slice none 0 0,.int .i64 11]) ∧ w = w' := by
 have h1 : (!((l1.length : Int) == (l2.length : Int))) = true := by
  rw [Bool.not_eq_true',beq_eq_false_iff_ne]
  omega
 have h2 : ((l1.length : Int) != (l2.length : Int)) = true := h1
 have h3 : ((l1.length : Int) == (l2.length : Int)) = false := by rw [beq_eq_false_iff_ne];omega
 go_enter Try.func79,Try.ntmps79
 go_wp2
 go_ret2
 exact ⟨rfl,rfl⟩
set_option maxHeartbeats 8000000 in
set_option maxRecDepth 100000 in
theorem ring_AddAll.calls (a0 : Int) (A1 : Option Addr) (c1 : Nat) (l1 : List Int) (A2 : Option Addr) (c2 : Nat) (l2 : List Int) (r1 : List Int) (r2 : Int) (w : World) (hr1 : Kd.C (Kd.int .u64) w A1 l1.length l1) (hc1 : l1.length ≤ c1) (hr2 : Kd.C (Kd.int .u64) w A2 l2.length l2) (hc2 : l2.length ≤ c2) (h : ring_AddAll.f a0 l1 l2 = some (r1,r2)) :
  Calls Try.prog 55 #[.int .i64 a0,.slice A1 l1.length c1,.slice A2 l2.length c2] w fun e w' => ∃ v0_ : Value,e = .returned (.tuple #[v0_,.int .i64 r2]) ∧ Kd.R (Kd.int .u64) 32 w' w.heap.size (fun _ => True) v0_ r1 ∧ Below w.heap.size w w' := by
 unfold ring_AddAll.f at h
 by_cases hl : l1.length = l2.length
 ·rw [if_pos hl] at h
  by_cases hs : l1.length ≤ 35184372088832
  ·rw [if_pos hs] at h
   obtain ⟨z,hz,hr⟩ := Option.bind_eq_some_iff.mp h;simp only [Option.some.injEq,Prod.mk.injEq] at hr;obtain ⟨rfl,rfl⟩ := hr;have HR1 := Aside0.mk hr1;have HR2 := Aside0.mk hr2;have HL := Aside0.mk hl;have HS := Aside0.mk hs;have HZ := Aside0.mk hz;clear h hz hl hs hr1 hr2
   go_enter Try.func55,Try.ntmps55
   go_wp2_with (go_at_call 79;refine (ring_AddAll.pairs a0 w.heap.size A1 c1 l1 A2 c2 l2 z _ (Kd.C_below HR1.out (below_alloc (Below.refl _ _) _)) (Kd.C_below HR2.out (below_alloc (Below.refl _ _) _)) (by simp) HL.out HS.out HZ.out).mono ?_;rintro e w1 ⟨v,rfl,hv,hb⟩;have HV := Aside0.mk (Kd.R_lower hv (show w.heap.size ≤ _ from by simp));have HB := Aside0.mk (below_then (below_alloc (Below.refl w.heap.size w) _) (by simp) hb);clear hv hb)
   go_ret2
   exact ⟨_,rfl,HV.out,HB.out⟩
  ·rw [if_neg hs] at h
   exact absurd h (by simp)
 ·rw [if_neg hl] at h
  simp only [Option.some.injEq,Prod.mk.injEq] at h;obtain ⟨rfl,rfl⟩ := h;have HL := Aside0.mk hl;clear hl hr1 hr2
  go_enter Try.func55,Try.ntmps55
  go_wp2_with (go_at_call 79;refine (ring_AddAll.pairs_no w.heap.size A1 c1 l1 A2 c2 l2 _ HL.out).mono ?_;rintro e w1 ⟨rfl,rfl⟩)
  go_ret2
  exact ⟨_,rfl,Kd.R_nil _ _ _ _ _,below_alloc (Below.refl _ _) _⟩
end Go.Proofs.Ytbhfleilgjonpaa.XScalarComes
