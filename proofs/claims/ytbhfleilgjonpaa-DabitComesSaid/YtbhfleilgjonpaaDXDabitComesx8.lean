import Derived.Test.YtbhfleilgjonpaaDXDabitComesx0
import Derived.Test.YtbhfleilgjonpaaDXDabitComesx1
import Derived.Test.YtbhfleilgjonpaaDXDabitComesx4
import Derived.Test.YtbhfleilgjonpaaDXDabitComesx5
import Derived.Test.YtbhfleilgjonpaaDXDabitComesx7
namespace Go.Proofs.Ytbhfleilgjonpaa.XDabitComes
open Go.RowKit Go.Proofs.YtbhfleilgjonpaaW.PrintWords Go.Proofs.YtbhfleilgjonpaaW.PrintLast Go.Proofs.YtbhfleilgjonpaaW.PrintMore
attribute [local go_sem] max2_int min2_int max_two min_two max_three min_three max_four min_four
set_option linter.unusedVariables false
set_option linter.unusedSimpArgs false
mutual
def trefoillaw25_DabitComes.j0 : Nat → Int → List Bool → List Bool → List Int → Int → Bool → Int → Int → Int → Int → Int → Option (Bool)
 | 0, _, _, _, _, _, _, _, _, _, _, _ => none
 | k + 1, x0, x1, x2, x3, x10, x41, x259000, x259001, x259002, x259003, x259004 => if x41 = true then ((trefoillaw25_awake.f k).bind fun t260 => (some t260)) else (trefoillaw25_DabitComes.l0 k x0 x1 x2 x3 x10 ([] : List (S31)) ([] : List (S31)) ([] : List Int) ([] : List Int) 0 x259000 x259001 x259002 x259003 x259004)
def trefoillaw25_DabitComes.l0 : Nat → Int → List Bool → List Bool → List Int → Int → List (S31) → List (S31) → List Int → List Int → Int → Int → Int → Int → Int → Int → Option (Bool)
 | 0, _, _, _, _, _, _, _, _, _, _, _, _, _, _, _ => none
 | k + 1, x0, x1, x2, x3, x10, x11, x12, x13, x14, x15, x259000, x259001, x259002, x259003, x259004 => if x15 < x10 then (if 0 ≤ x15 then (if x15 < (x1.length : Int) then ((trefoillaw25_number.f (rdOf false x1 x15)).bind fun t262 => (if x11.length < 1954687338268 then ((some (x11 ++ [(⟨t262, ([] : List Int), ([] : List Int)⟩ : S31)] : List (S31))).bind fun y265 => (if x15 < (x2.length : Int) then ((trefoillaw25_number.f (rdOf false x2 x15)).bind fun t269 => (if x12.length < 1954687338268 then ((some (x12 ++ [(⟨t269, ([] : List Int), ([] : List Int)⟩ : S31)] : List (S31))).bind fun y272 => (if x15 < (x3.length : Int) then ((trefoilref03_Fit.f k x0 (rd x3 x15)).bind fun t276 => (if x13.length < 17592186044416 then ((some (x13 ++ [t276] : List Int)).bind fun y277 => (if rdOf false x1 x15 = true then ((trefoillaw25_number.f (rdOf false x2 x15)).bind fun t282 => (if 0 < (t282.length : Int) then ((trefoilref03_Sub.f k x0 (rd t282 0) t276).bind fun t286 => (if x14.length < 17592186044416 then (trefoillaw25_DabitComes.l0 k x0 x1 x2 x3 x10 y265 y272 y277 (x14 ++ [t286]) (wrap64 (x15 + 1)) x259000 x259001 x259002 x259003 x259004) else (none))) else (none))) else ((trefoillaw25_number.f false).bind fun t290 => (if 0 < (t290.length : Int) then ((trefoilref03_Sub.f k x0 (rd t290 0) t276).bind fun t294 => (if x14.length < 17592186044416 then (trefoillaw25_DabitComes.l0 k x0 x1 x2 x3 x10 y265 y272 y277 (x14 ++ [t294]) (wrap64 (x15 + 1)) x259000 x259001 x259002 x259003 x259004) else (none))) else (none))))) else (none))) else (none))) else (none))) else (none))) else (none))) else (none)) else (none)) else ((dabit_Finish.f k x259000 x259001 x259002 x259003 x259004 x11 x13).bind fun bt298 => ((dabit_Finish.f k x259000 x259001 x259002 x259003 x259004 x12 x14).bind fun bt302 => (if bt298.2 = 0 then (if bt302.2 = bt298.2 then (if (bt298.1.length : Int) = x10 then (trefoillaw25_DabitComes.j2 k x0 x10 bt298.1 bt302.1 ((bt302.1.length : Int) != x10) x259000 x259001 x259002 x259003 x259004) else (trefoillaw25_DabitComes.j2 k x0 x10 bt298.1 bt302.1 true x259000 x259001 x259002 x259003 x259004)) else (trefoillaw25_DabitComes.j2 k x0 x10 bt298.1 bt302.1 true x259000 x259001 x259002 x259003 x259004)) else (trefoillaw25_DabitComes.j2 k x0 x10 bt298.1 bt302.1 true x259000 x259001 x259002 x259003 x259004))))
def trefoillaw25_DabitComes.j2 : Nat → Int → Int → List (S31) → List (S31) → Bool → Int → Int → Int → Int → Int → Option (Bool)
 | 0, _, _, _, _, _, _, _, _, _, _ => none
 | k + 1, x0, x10, x17, x19, x127, x259000, x259001, x259002, x259003, x259004 => if x127 = true then (some false) else (trefoillaw25_DabitComes.l1 k x0 x10 x17 x19 0 x259000 x259001 x259002 x259003 x259004)
def trefoillaw25_DabitComes.l1 : Nat → Int → Int → List (S31) → List (S31) → Int → Int → Int → Int → Int → Int → Option (Bool)
 | 0, _, _, _, _, _, _, _, _, _, _ => none
 | k + 1, x0, x10, x17, x19, x21, x259000, x259001, x259002, x259003, x259004 => if x21 < x10 then (if 0 ≤ x21 then (if x21 < (x17.length : Int) then (if x21 < (x19.length : Int) then ((trefoilref25_Right.f k x259000 x259001 x259002 x259003 x259004 ((rd_T31 x17 x21).f0) ((rd_T31 x17 x21).f1) ((rd_T31 x17 x21).f2) ((rd_T31 x19 x21).f0) ((rd_T31 x19 x21).f1) ((rd_T31 x19 x21).f2)).bind fun t309 => (if t309 = true then ((dabit_Right.f k x259000 x259001 x259002 x259003 x259004 ((rd_T31 x17 x21).f0) ((rd_T31 x17 x21).f1) ((rd_T31 x17 x21).f2) ((rd_T31 x19 x21).f0) ((rd_T31 x19 x21).f1) ((rd_T31 x19 x21).f2)).bind fun t312 => (if t312 = true then (if 0 < (((rd_T31 x17 x21).f1).length : Int) then (if 0 < (((rd_T31 x19 x21).f1).length : Int) then ((trefoilref03_Add.f k x0 (rd ((rd_T31 x17 x21).f1) 0) (rd ((rd_T31 x19 x21).f1) 0)).bind fun t317 => (if t317 > 1 then (some false) else (trefoillaw25_DabitComes.l1 k x0 x10 x17 x19 (wrap64 (x21 + 1)) x259000 x259001 x259002 x259003 x259004))) else (none)) else (none)) else (some false))) else (some false))) else (none)) else (none)) else (none)) else ((trefoillaw25_awake.f k).bind fun t306 => (some t306))
end
def trefoillaw25_DabitComes.f (k : Nat) (a0 : Int) (l1 : List Bool) (l2 : List Bool) (l3 : List Int) : Option (Bool) := (trefoilref25_Check.f k 4 a0 0 0 0 (l1.length : Int)).bind fun t259 => (if t259 = 0 then (if (l2.length : Int) = (l1.length : Int) then (trefoillaw25_DabitComes.j0 k a0 l1 l2 l3 (l1.length : Int) (decide ((l3.length : Int) < (l1.length : Int))) 4 a0 0 0 0) else (trefoillaw25_DabitComes.j0 k a0 l1 l2 l3 (l1.length : Int) true 4 a0 0 0 0)) else (trefoillaw25_DabitComes.j0 k a0 l1 l2 l3 (l1.length : Int) true 4 a0 0 0 0))
theorem trefoillaw25_DabitComes.mono_l : ∀ k, (∀ y0 y1 y2 y3 y4 y5 y6 y7 y8 y9 y10, LeO (trefoillaw25_DabitComes.j0 k y0 y1 y2 y3 y4 y5 y6 y7 y8 y9 y10) (trefoillaw25_DabitComes.j0 (k + 1) y0 y1 y2 y3 y4 y5 y6 y7 y8 y9 y10)) ∧ (∀ y0 y1 y2 y3 y4 y5 y6 y7 y8 y9 y10 y11 y12 y13 y14, LeO (trefoillaw25_DabitComes.l0 k y0 y1 y2 y3 y4 y5 y6 y7 y8 y9 y10 y11 y12 y13 y14) (trefoillaw25_DabitComes.l0 (k + 1) y0 y1 y2 y3 y4 y5 y6 y7 y8 y9 y10 y11 y12 y13 y14)) ∧ (∀ y0 y1 y2 y3 y4 y5 y6 y7 y8 y9, LeO (trefoillaw25_DabitComes.j2 k y0 y1 y2 y3 y4 y5 y6 y7 y8 y9) (trefoillaw25_DabitComes.j2 (k + 1) y0 y1 y2 y3 y4 y5 y6 y7 y8 y9)) ∧ (∀ y0 y1 y2 y3 y4 y5 y6 y7 y8 y9, LeO (trefoillaw25_DabitComes.l1 k y0 y1 y2 y3 y4 y5 y6 y7 y8 y9) (trefoillaw25_DabitComes.l1 (k + 1) y0 y1 y2 y3 y4 y5 y6 y7 y8 y9))
 | 0 => ⟨fun _ _ _ _ _ _ _ _ _ _ _ r h => by simp [trefoillaw25_DabitComes.j0] at h, fun _ _ _ _ _ _ _ _ _ _ _ _ _ _ _ r h => by simp [trefoillaw25_DabitComes.l0] at h, fun _ _ _ _ _ _ _ _ _ _ r h => by simp [trefoillaw25_DabitComes.j2] at h, fun _ _ _ _ _ _ _ _ _ _ r h => by simp [trefoillaw25_DabitComes.l1] at h⟩
 | k + 1 => by
  obtain ⟨ih0, ih1, ih2, ih3⟩ := trefoillaw25_DabitComes.mono_l k
  refine ⟨?_, ?_, ?_, ?_⟩
  ·intro y0 y1 y2 y3 y4 y5 y6 y7 y8 y9 y10
   unfold trefoillaw25_DabitComes.j0
   repeat' first
   | (with_reducible exact ih0 _ _ _ _ _ _ _ _ _ _ _)
   | (with_reducible exact ih1 _ _ _ _ _ _ _ _ _ _ _ _ _ _ _)
   | (with_reducible exact ih2 _ _ _ _ _ _ _ _ _ _)
   | (with_reducible exact ih3 _ _ _ _ _ _ _ _ _ _)
   | (with_reducible exact dabit_Finish.mono _ _ _ _ _ _ _ _)
   | (with_reducible exact dabit_Right.mono _ _ _ _ _ _ _ _ _ _ _ _)
   | (with_reducible exact trefoillaw25_awake.mono _)
   | (with_reducible exact trefoilref03_Add.mono _ _ _ _)
   | (with_reducible exact trefoilref03_Fit.mono _ _ _)
   | (with_reducible exact trefoilref03_Sub.mono _ _ _ _)
   | (with_reducible exact trefoilref25_Check.mono _ _ _ _ _ _ _)
   | (with_reducible exact trefoilref25_Right.mono _ _ _ _ _ _ _ _ _ _ _ _)
   | (with_reducible exact LeO.refl _)
   | (with_reducible exact LeO.none _)
   | (with_reducible refine LeO.ite ?_ ?_)
   | (with_reducible refine LeO.bind ?_ (fun _ => ?_))
   | exact ih0 _ _ _ _ _ _ _ _ _ _ _
   | exact ih1 _ _ _ _ _ _ _ _ _ _ _ _ _ _ _
   | exact ih2 _ _ _ _ _ _ _ _ _ _
   | exact ih3 _ _ _ _ _ _ _ _ _ _
   | exact dabit_Finish.mono _ _ _ _ _ _ _ _
   | exact dabit_Right.mono _ _ _ _ _ _ _ _ _ _ _ _
   | exact trefoillaw25_awake.mono _
   | exact trefoilref03_Add.mono _ _ _ _
   | exact trefoilref03_Fit.mono _ _ _
   | exact trefoilref03_Sub.mono _ _ _ _
   | exact trefoilref25_Check.mono _ _ _ _ _ _ _
   | exact trefoilref25_Right.mono _ _ _ _ _ _ _ _ _ _ _ _
   | exact LeO.none _
   | refine LeO.ite ?_ ?_
   | refine LeO.bind ?_ (fun _ => ?_)
  ·intro y0 y1 y2 y3 y4 y5 y6 y7 y8 y9 y10 y11 y12 y13 y14
   unfold trefoillaw25_DabitComes.l0
   repeat' first
   | (with_reducible exact ih0 _ _ _ _ _ _ _ _ _ _ _)
   | (with_reducible exact ih1 _ _ _ _ _ _ _ _ _ _ _ _ _ _ _)
   | (with_reducible exact ih2 _ _ _ _ _ _ _ _ _ _)
   | (with_reducible exact ih3 _ _ _ _ _ _ _ _ _ _)
   | (with_reducible exact dabit_Finish.mono _ _ _ _ _ _ _ _)
   | (with_reducible exact dabit_Right.mono _ _ _ _ _ _ _ _ _ _ _ _)
   | (with_reducible exact trefoillaw25_awake.mono _)
   | (with_reducible exact trefoilref03_Add.mono _ _ _ _)
   | (with_reducible exact trefoilref03_Fit.mono _ _ _)
   | (with_reducible exact trefoilref03_Sub.mono _ _ _ _)
   | (with_reducible exact trefoilref25_Check.mono _ _ _ _ _ _ _)
   | (with_reducible exact trefoilref25_Right.mono _ _ _ _ _ _ _ _ _ _ _ _)
   | (with_reducible exact LeO.refl _)
   | (with_reducible exact LeO.none _)
   | (with_reducible refine LeO.ite ?_ ?_)
   | (with_reducible refine LeO.bind ?_ (fun _ => ?_))
   | exact ih0 _ _ _ _ _ _ _ _ _ _ _
   | exact ih1 _ _ _ _ _ _ _ _ _ _ _ _ _ _ _
   | exact ih2 _ _ _ _ _ _ _ _ _ _
   | exact ih3 _ _ _ _ _ _ _ _ _ _
   | exact dabit_Finish.mono _ _ _ _ _ _ _ _
   | exact dabit_Right.mono _ _ _ _ _ _ _ _ _ _ _ _
   | exact trefoillaw25_awake.mono _
   | exact trefoilref03_Add.mono _ _ _ _
   | exact trefoilref03_Fit.mono _ _ _
   | exact trefoilref03_Sub.mono _ _ _ _
   | exact trefoilref25_Check.mono _ _ _ _ _ _ _
   | exact trefoilref25_Right.mono _ _ _ _ _ _ _ _ _ _ _ _
   | exact LeO.none _
   | refine LeO.ite ?_ ?_
   | refine LeO.bind ?_ (fun _ => ?_)
  ·intro y0 y1 y2 y3 y4 y5 y6 y7 y8 y9
   unfold trefoillaw25_DabitComes.j2
   repeat' first
   | (with_reducible exact ih0 _ _ _ _ _ _ _ _ _ _ _)
   | (with_reducible exact ih1 _ _ _ _ _ _ _ _ _ _ _ _ _ _ _)
   | (with_reducible exact ih2 _ _ _ _ _ _ _ _ _ _)
   | (with_reducible exact ih3 _ _ _ _ _ _ _ _ _ _)
   | (with_reducible exact dabit_Finish.mono _ _ _ _ _ _ _ _)
   | (with_reducible exact dabit_Right.mono _ _ _ _ _ _ _ _ _ _ _ _)
   | (with_reducible exact trefoillaw25_awake.mono _)
   | (with_reducible exact trefoilref03_Add.mono _ _ _ _)
   | (with_reducible exact trefoilref03_Fit.mono _ _ _)
   | (with_reducible exact trefoilref03_Sub.mono _ _ _ _)
   | (with_reducible exact trefoilref25_Check.mono _ _ _ _ _ _ _)
   | (with_reducible exact trefoilref25_Right.mono _ _ _ _ _ _ _ _ _ _ _ _)
   | (with_reducible exact LeO.refl _)
   | (with_reducible exact LeO.none _)
   | (with_reducible refine LeO.ite ?_ ?_)
   | (with_reducible refine LeO.bind ?_ (fun _ => ?_))
   | exact ih0 _ _ _ _ _ _ _ _ _ _ _
   | exact ih1 _ _ _ _ _ _ _ _ _ _ _ _ _ _ _
   | exact ih2 _ _ _ _ _ _ _ _ _ _
   | exact ih3 _ _ _ _ _ _ _ _ _ _
   | exact dabit_Finish.mono _ _ _ _ _ _ _ _
   | exact dabit_Right.mono _ _ _ _ _ _ _ _ _ _ _ _
   | exact trefoillaw25_awake.mono _
   | exact trefoilref03_Add.mono _ _ _ _
   | exact trefoilref03_Fit.mono _ _ _
   | exact trefoilref03_Sub.mono _ _ _ _
   | exact trefoilref25_Check.mono _ _ _ _ _ _ _
   | exact trefoilref25_Right.mono _ _ _ _ _ _ _ _ _ _ _ _
   | exact LeO.none _
   | refine LeO.ite ?_ ?_
   | refine LeO.bind ?_ (fun _ => ?_)
  ·intro y0 y1 y2 y3 y4 y5 y6 y7 y8 y9
   unfold trefoillaw25_DabitComes.l1
   repeat' first
   | (with_reducible exact ih0 _ _ _ _ _ _ _ _ _ _ _)
   | (with_reducible exact ih1 _ _ _ _ _ _ _ _ _ _ _ _ _ _ _)
   | (with_reducible exact ih2 _ _ _ _ _ _ _ _ _ _)
   | (with_reducible exact ih3 _ _ _ _ _ _ _ _ _ _)
   | (with_reducible exact dabit_Finish.mono _ _ _ _ _ _ _ _)
   | (with_reducible exact dabit_Right.mono _ _ _ _ _ _ _ _ _ _ _ _)
   | (with_reducible exact trefoillaw25_awake.mono _)
   | (with_reducible exact trefoilref03_Add.mono _ _ _ _)
   | (with_reducible exact trefoilref03_Fit.mono _ _ _)
   | (with_reducible exact trefoilref03_Sub.mono _ _ _ _)
   | (with_reducible exact trefoilref25_Check.mono _ _ _ _ _ _ _)
   | (with_reducible exact trefoilref25_Right.mono _ _ _ _ _ _ _ _ _ _ _ _)
   | (with_reducible exact LeO.refl _)
   | (with_reducible exact LeO.none _)
   | (with_reducible refine LeO.ite ?_ ?_)
   | (with_reducible refine LeO.bind ?_ (fun _ => ?_))
   | exact ih0 _ _ _ _ _ _ _ _ _ _ _
   | exact ih1 _ _ _ _ _ _ _ _ _ _ _ _ _ _ _
   | exact ih2 _ _ _ _ _ _ _ _ _ _
   | exact ih3 _ _ _ _ _ _ _ _ _ _
   | exact dabit_Finish.mono _ _ _ _ _ _ _ _
   | exact dabit_Right.mono _ _ _ _ _ _ _ _ _ _ _ _
   | exact trefoillaw25_awake.mono _
   | exact trefoilref03_Add.mono _ _ _ _
   | exact trefoilref03_Fit.mono _ _ _
   | exact trefoilref03_Sub.mono _ _ _ _
   | exact trefoilref25_Check.mono _ _ _ _ _ _ _
   | exact trefoilref25_Right.mono _ _ _ _ _ _ _ _ _ _ _ _
   | exact LeO.none _
   | refine LeO.ite ?_ ?_
   | refine LeO.bind ?_ (fun _ => ?_)
theorem trefoillaw25_DabitComes.mono : ∀ a0 a1 a2 a3 k, LeO (trefoillaw25_DabitComes.f k a0 a1 a2 a3) (trefoillaw25_DabitComes.f (k + 1) a0 a1 a2 a3) := by
 intro a0 a1 a2 a3 k
 obtain ⟨ih0, ih1, ih2, ih3⟩ := trefoillaw25_DabitComes.mono_l k
 unfold trefoillaw25_DabitComes.f
 repeat' first
   | (with_reducible exact ih0 _ _ _ _ _ _ _ _ _ _ _)
   | (with_reducible exact ih1 _ _ _ _ _ _ _ _ _ _ _ _ _ _ _)
   | (with_reducible exact ih2 _ _ _ _ _ _ _ _ _ _)
   | (with_reducible exact ih3 _ _ _ _ _ _ _ _ _ _)
   | (with_reducible exact dabit_Finish.mono _ _ _ _ _ _ _ _)
   | (with_reducible exact dabit_Right.mono _ _ _ _ _ _ _ _ _ _ _ _)
   | (with_reducible exact trefoillaw25_awake.mono _)
   | (with_reducible exact trefoilref03_Add.mono _ _ _ _)
   | (with_reducible exact trefoilref03_Fit.mono _ _ _)
   | (with_reducible exact trefoilref03_Sub.mono _ _ _ _)
   | (with_reducible exact trefoilref25_Check.mono _ _ _ _ _ _ _)
   | (with_reducible exact trefoilref25_Right.mono _ _ _ _ _ _ _ _ _ _ _ _)
   | (with_reducible exact LeO.refl _)
   | (with_reducible exact LeO.none _)
   | (with_reducible refine LeO.ite ?_ ?_)
   | (with_reducible refine LeO.bind ?_ (fun _ => ?_))
   | exact ih0 _ _ _ _ _ _ _ _ _ _ _
   | exact ih1 _ _ _ _ _ _ _ _ _ _ _ _ _ _ _
   | exact ih2 _ _ _ _ _ _ _ _ _ _
   | exact ih3 _ _ _ _ _ _ _ _ _ _
   | exact dabit_Finish.mono _ _ _ _ _ _ _ _
   | exact dabit_Right.mono _ _ _ _ _ _ _ _ _ _ _ _
   | exact trefoillaw25_awake.mono _
   | exact trefoilref03_Add.mono _ _ _ _
   | exact trefoilref03_Fit.mono _ _ _
   | exact trefoilref03_Sub.mono _ _ _ _
   | exact trefoilref25_Check.mono _ _ _ _ _ _ _
   | exact trefoilref25_Right.mono _ _ _ _ _ _ _ _ _ _ _ _
   | exact LeO.none _
   | refine LeO.ite ?_ ?_
   | refine LeO.bind ?_ (fun _ => ?_)
def trefoillaw25_DabitComes.T22 : Bool × List (List Nat × List Nat) := (true, [([], []), ([], []), ([], []), ([1, 2], [1, 2]), ([3], [3]), ([], []), ([], []), ([5, 6], [5, 6]), ([7], [7]), ([0, 4, 8], [0, 4, 8]), ([9], [9]), ([10, 9], [10]), ([11], [11]), ([11], [11]), ([11], [11]), ([13, 14, 11], [11, 13, 14]), ([15, 11], [11, 15]), ([11], [11]), ([11], [11]), ([17, 18, 11], [11, 17, 18]), ([19, 11], [11, 19]), ([12, 16, 20, 11, 11], [11, 12, 16, 20]), ([21, 11], [11, 21]), ([11, 22], [11, 22]), ([23, 21], [23]), ([24], [24]), ([24], [24]), ([24], [24]), ([26, 27, 24], [24, 26, 27]), ([28, 24], [24, 28]), ([29, 24], [24, 29]), ([30, 24], [24, 30]), ([31, 24], [24, 31]), ([24], [24]), ([24], [24]), ([33, 34, 24], [24, 33, 34]), ([35, 24], [24, 35]), ([36, 24], [24, 36]), ([37, 24], [24, 37]), ([38, 24], [24, 38]), ([25, 32, 39, 24, 24], [24, 25, 32, 39]), ([40, 24], [24, 40]), ([24, 41], [24, 41])])
def trefoillaw25_DabitComes.B22 : List Nat := [0, 0, 0, 6, 14, 0, 0, 96, 224, 511, 1023, 2047, 4095, 4095, 4095, 28671, 61439, 4095, 4095, 397311, 921599, 2097151, 4194303, 8388607, 16777215, 33554431, 33554431, 33554431, 234881023, 503316479, 1040187391, 2113929215, 4261412863, 33554431, 33554431, 25803358207, 60163096575, 128882573311, 266321526783, 541199433727, 1099511627775, 2199023255551, 4398046511103]
theorem trefoillaw25_DabitComes.tab22 : rtab .any (opsOf Try.f3 22) = trefoillaw25_DabitComes.T22 := by kernel_rfl
theorem trefoillaw25_DabitComes.bits22 : waitsOk trefoillaw25_DabitComes.T22.2 trefoillaw25_DabitComes.B22 = true := by kernel_rfl
set_option maxHeartbeats 8000000 in
set_option maxRecDepth 100000 in
theorem trefoillaw25_DabitComes.calls (k : Nat) (a0 : Int) (A1 : Option Addr) (c1 : Nat) (l1 : List Bool) (A2 : Option Addr) (c2 : Nat) (l2 : List Bool) (A3 : Option Addr) (c3 : Nat) (l3 : List Int) (r : Bool) (w : World) (hr1 : Kd.C Kd.bool w A1 l1.length l1) (hc1 : l1.length ≤ c1) (hr2 : Kd.C Kd.bool w A2 l2.length l2) (hc2 : l2.length ≤ c2) (hr3 : Kd.C (Kd.int .u64) w A3 l3.length l3) (hc3 : l3.length ≤ c3) (HT0_ : Aside0 (r = true)) (h : trefoillaw25_DabitComes.f k a0 l1 l2 l3 = some r) :
  Calls Try.prog 3 #[.int .i64 a0, .slice A1 l1.length c1, .slice A2 l2.length c2, .slice A3 l3.length c3] w fun e w' => e = .returned (.bool r) ∧ Below w.heap.size w w' := by
 have hu25 := Try.underlying25
 have hu31 := Try.underlying31
 have HR1 := Aside0.mk hr1
 have HC1 := Aside0.mk hc1
 clear hr1 hc1
 have HR2 := Aside0.mk hr2
 have HC2 := Aside0.mk hc2
 clear hr2 hc2
 have HR3 := Aside0.mk hr3
 have HC3 := Aside0.mk hc3
 clear hr3 hc3
 have HB := Aside0.mk (Below.refl w.heap.size w)
 have H : ((trefoilref25_Check.f k 4 a0 0 0 0 (l1.length : Int)).bind fun t259 => (if t259 = 0 then (if (l2.length : Int) = (l1.length : Int) then (trefoillaw25_DabitComes.j0 k a0 l1 l2 l3 (l1.length : Int) (decide ((l3.length : Int) < (l1.length : Int))) 4 a0 0 0 0) else (trefoillaw25_DabitComes.j0 k a0 l1 l2 l3 (l1.length : Int) true 4 a0 0 0 0)) else (trefoillaw25_DabitComes.j0 k a0 l1 l2 l3 (l1.length : Int) true 4 a0 0 0 0))) = some r := h
 clear h
 have HC5 := Aside0.mk H
 clear H
 go_enter Try.func3, Try.ntmps3
 go_upto_region 3 with (first | ((with_reducible refine gate_dst (N := 9) rfl ?_); (try (refine gate_guard (by rfl) ?_; dsimp only)); refine box_event ?hg (N := 9) ?hd (cs := #[.int .i64 0, .int .i64 0, .int .i64 0, .int .i64 0, .int .i64 0]) (t := 25) ?hr ?_; (case hd => rfl); (case hg => rfl); (case hr => first | (go_simp; done) | (go_simp; rfl)); intro gb258 hg w6 hbox hb; have n0_ := Aside0.mk (below_step (by repeat (first | (with_reducible first | exact HB.out | apply below_alloc | apply pw_below_drewN | apply below_drew1) | exact HB.out)) hb); have n1_ := Aside0.mk (hbox); have n2_ := Aside0.mk ((by rw [hg]; exact (below_size (by repeat (first | (with_reducible first | exact HB.out | apply below_alloc | apply pw_below_drewN | apply below_drew1) | exact HB.out))) : w.heap.size ≤ gb258)); have n3_ := Aside0.mk ((by rw [hg]; exact (below_size (by repeat (first | (with_reducible first | exact HB.out | apply below_alloc | apply pw_below_drewN | apply below_drew1) | exact HB.out))) : w.heap.size ≤ gb258)); clear HB; have HB := n0_; have BK258 := n1_; have GW258 := n2_; have GE258 := n3_; clear n0_ n1_ n2_ n3_; clear hb hbox hg; have hcz7_0 : w6.cell? ⟨gb258, 0, none⟩ = some (.int .i64 0) := (blk_cell BK258.out 0).trans rfl; have hcz7_1 : w6.cell? ⟨gb258, 1, none⟩ = some (.int .i64 0) := (blk_cell BK258.out 1).trans rfl; have hcz7_2 : w6.cell? ⟨gb258, 2, none⟩ = some (.int .i64 0) := (blk_cell BK258.out 2).trans rfl; have hcz7_3 : w6.cell? ⟨gb258, 3, none⟩ = some (.int .i64 0) := (blk_cell BK258.out 3).trans rfl; have hcz7_4 : w6.cell? ⟨gb258, 4, none⟩ = some (.int .i64 0) := (blk_cell BK258.out 4).trans rfl; have hfz7_0 := blk_frozen BK258.out 0; have hfz7_1 := blk_frozen BK258.out 1; have hfz7_2 := blk_frozen BK258.out 2; have hfz7_3 := blk_frozen BK258.out 3; have hfz7_4 := blk_frozen BK258.out 4))
 (try simp only [Act.put, List.setIfInBounds_toArray, List.set_cons_zero, List.set_cons_succ])
 go_cut [41] (fun v41 wc => ∃ (kq : Nat) (x41_4 : Bool), v41 = .bool x41_4 ∧ Aside0 (trefoillaw25_DabitComes.j0 kq a0 l1 l2 l3 (l1.length : Int) x41_4 4 a0 0 0 0 = some r) ∧ Aside0 (kq ≤ k) ∧ Aside0 (wc.heap[gb258]? = some (.cells #[.int .i64 4, .int .i64 a0, .int .i64 0, .int .i64 0, .int .i64 0] 25 (0, 0))) ∧ Aside0 (Below w.heap.size w wc))
 case first =>
  have H := HC5.out
  clear HC5
  replace H := Option.bind_eq_some_iff.mp H
  obtain ⟨t259, A80, H⟩ := H
  replace H : (if t259 = 0 then (if (l2.length : Int) = (l1.length : Int) then (trefoillaw25_DabitComes.j0 k a0 l1 l2 l3 (l1.length : Int) (decide ((l3.length : Int) < (l1.length : Int))) 4 a0 0 0 0) else (trefoillaw25_DabitComes.j0 k a0 l1 l2 l3 (l1.length : Int) true 4 a0 0 0 0)) else (trefoillaw25_DabitComes.j0 k a0 l1 l2 l3 (l1.length : Int) true 4 a0 0 0 0)) = some r := H
  have A8 := Aside0.mk A80
  clear A80
  by_cases c9 : t259 = 0
  ·rw [if_pos c9] at H
   have c9b0 : (t259 == 0) = true := beq_iff_eq.mpr c9
   have c9b1 : (t259 != 0) = false := bne_eq_false_iff_eq.mpr c9
   clear c9
   (first | rw [c9b0] | (simp only [i64_w, i32_w]; rw [c9b0]) | skip)
   by_cases c10 : (l2.length : Int) = (l1.length : Int)
   ·rw [if_pos c10] at H
    have c10b0 : ((l2.length : Int) == (l1.length : Int)) = true := beq_iff_eq.mpr c10
    have c10b1 : ((l2.length : Int) != (l1.length : Int)) = false := bne_eq_false_iff_eq.mpr c10
    have c10b2 : (l2.length == l1.length) = true := by first | simpa using c10 | (simp at c10 ⊢; omega)
    clear c10
    have H' := Aside0.mk H
    clear H
    have hcz11_0 : w6.cell? ⟨gb258, 0, none⟩ = some (.int .i64 0) := (blk_cell BK258.out 0).trans rfl
    have hcz11_1 : w6.cell? ⟨gb258, 1, none⟩ = some (.int .i64 0) := (blk_cell BK258.out 1).trans rfl
    have hcz11_2 : w6.cell? ⟨gb258, 2, none⟩ = some (.int .i64 0) := (blk_cell BK258.out 2).trans rfl
    have hcz11_3 : w6.cell? ⟨gb258, 3, none⟩ = some (.int .i64 0) := (blk_cell BK258.out 3).trans rfl
    have hcz11_4 : w6.cell? ⟨gb258, 4, none⟩ = some (.int .i64 0) := (blk_cell BK258.out 4).trans rfl
    have hfz11_0 := blk_frozen BK258.out 0
    have hfz11_1 := blk_frozen BK258.out 1
    have hfz11_2 := blk_frozen BK258.out 2
    have hfz11_3 := blk_frozen BK258.out 3
    have hfz11_4 := blk_frozen BK258.out 4
    go_wp2_with (first | ((with_reducible refine gate_callee (f := 6) rfl ?_); refine goesL_ (some 28) rfl rfl Try.func6 (by kernel_rfl) rfl #[.agg #[.int .i64 4, .int .i64 a0, .int .i64 0, .int .i64 0, .int .i64 0], .int .i64 (l1.length : Int)] rfl (by (try simp only [List.map_toArray, List.map_cons, List.map_nil]); first | done | rfl | (simp only [List.length_drop, List.length_take]; rfl)) ?_; (with_reducible refine (trefoilref25_Check.calls k 4 a0 0 0 0 (l1.length : Int) t259 _ A8.out).mono ?_); rintro e w12 ⟨rfl, hb⟩; refine ⟨_, rfl, ?_⟩; have n0_ := Aside0.mk (blk_below (g := gb258) (o := .cells #[.int .i64 4, .int .i64 a0, .int .i64 0, .int .i64 0, .int .i64 0] 25 (0, 0)) (by (with_reducible repeat (first | refine blk_drewN ?_ _ | refine blk_drew ?_ | refine blk_alloc ?_ _)); refine blk_put (cs := #[.int .i64 4, .int .i64 a0, .int .i64 0, .int .i64 0, .int .i64 0]) ?_ 4 _ rfl; (with_reducible repeat (first | refine blk_drewN ?_ _ | refine blk_drew ?_ | refine blk_alloc ?_ _)); refine blk_put (cs := #[.int .i64 4, .int .i64 a0, .int .i64 0, .int .i64 0, .int .i64 0]) ?_ 3 _ rfl; (with_reducible repeat (first | refine blk_drewN ?_ _ | refine blk_drew ?_ | refine blk_alloc ?_ _)); refine blk_put (cs := #[.int .i64 4, .int .i64 a0, .int .i64 0, .int .i64 0, .int .i64 0]) ?_ 2 _ rfl; (with_reducible repeat (first | refine blk_drewN ?_ _ | refine blk_drew ?_ | refine blk_alloc ?_ _)); refine blk_put (cs := #[.int .i64 4, .int .i64 0, .int .i64 0, .int .i64 0, .int .i64 0]) ?_ 1 _ rfl; (with_reducible repeat (first | refine blk_drewN ?_ _ | refine blk_drew ?_ | refine blk_alloc ?_ _)); refine blk_put (cs := #[.int .i64 0, .int .i64 0, .int .i64 0, .int .i64 0, .int .i64 0]) ?_ 0 _ rfl; (with_reducible repeat (first | refine blk_drewN ?_ _ | refine blk_drew ?_ | refine blk_alloc ?_ _)); exact BK258.out) hb); have n1_ := Aside0.mk (below_step (by repeat (first | (with_reducible first | exact HB.out | apply below_alloc | apply pw_below_drewN | apply below_drew1 | refine below_set ?_ GE258.out) | exact HB.out)) hb); clear BK258; clear HB; have BK258 := n0_; have HB := n1_; clear n0_ n1_; (try clear hb); (try clear hb2); (try clear hk); (try clear hi)))
    go_meet
    case rel => exact ⟨_, (decide ((l3.length : Int) < (l1.length : Int))), (by first | rfl | (simp; done) | (simp [*]; done)), H', ⟨by first | omega | exact Nat.le_refl _⟩, ⟨by (with_reducible repeat (first | refine blk_drewN ?_ _ | refine blk_drew ?_ | refine blk_alloc ?_ _)); exact BK258.out⟩, ⟨by repeat (first | (with_reducible first | exact HB.out | apply below_alloc | apply pw_below_drewN | apply below_drew1 | refine below_set ?_ GE258.out) | exact HB.out)⟩⟩
   ·rw [if_neg c10] at H
    have c10b0 : ((l2.length : Int) == (l1.length : Int)) = false := beq_eq_false_iff_ne.mpr c10
    have c10b1 : ((l2.length : Int) != (l1.length : Int)) = true := bne_iff_ne.mpr c10
    have c10b2 : (l2.length == l1.length) = false := by first | simpa using c10 | (simp at c10 ⊢; omega)
    have H' := Aside0.mk H
    clear H
    have hcz13_0 : w6.cell? ⟨gb258, 0, none⟩ = some (.int .i64 0) := (blk_cell BK258.out 0).trans rfl
    have hcz13_1 : w6.cell? ⟨gb258, 1, none⟩ = some (.int .i64 0) := (blk_cell BK258.out 1).trans rfl
    have hcz13_2 : w6.cell? ⟨gb258, 2, none⟩ = some (.int .i64 0) := (blk_cell BK258.out 2).trans rfl
    have hcz13_3 : w6.cell? ⟨gb258, 3, none⟩ = some (.int .i64 0) := (blk_cell BK258.out 3).trans rfl
    have hcz13_4 : w6.cell? ⟨gb258, 4, none⟩ = some (.int .i64 0) := (blk_cell BK258.out 4).trans rfl
    have hfz13_0 := blk_frozen BK258.out 0
    have hfz13_1 := blk_frozen BK258.out 1
    have hfz13_2 := blk_frozen BK258.out 2
    have hfz13_3 := blk_frozen BK258.out 3
    have hfz13_4 := blk_frozen BK258.out 4
    go_wp2_with (first | ((with_reducible refine gate_callee (f := 6) rfl ?_); refine goesL_ (some 28) rfl rfl Try.func6 (by kernel_rfl) rfl #[.agg #[.int .i64 4, .int .i64 a0, .int .i64 0, .int .i64 0, .int .i64 0], .int .i64 (l1.length : Int)] rfl (by (try simp only [List.map_toArray, List.map_cons, List.map_nil]); first | done | rfl | (simp only [List.length_drop, List.length_take]; rfl)) ?_; (with_reducible refine (trefoilref25_Check.calls k 4 a0 0 0 0 (l1.length : Int) t259 _ A8.out).mono ?_); rintro e w14 ⟨rfl, hb⟩; refine ⟨_, rfl, ?_⟩; have n0_ := Aside0.mk (blk_below (g := gb258) (o := .cells #[.int .i64 4, .int .i64 a0, .int .i64 0, .int .i64 0, .int .i64 0] 25 (0, 0)) (by (with_reducible repeat (first | refine blk_drewN ?_ _ | refine blk_drew ?_ | refine blk_alloc ?_ _)); refine blk_put (cs := #[.int .i64 4, .int .i64 a0, .int .i64 0, .int .i64 0, .int .i64 0]) ?_ 4 _ rfl; (with_reducible repeat (first | refine blk_drewN ?_ _ | refine blk_drew ?_ | refine blk_alloc ?_ _)); refine blk_put (cs := #[.int .i64 4, .int .i64 a0, .int .i64 0, .int .i64 0, .int .i64 0]) ?_ 3 _ rfl; (with_reducible repeat (first | refine blk_drewN ?_ _ | refine blk_drew ?_ | refine blk_alloc ?_ _)); refine blk_put (cs := #[.int .i64 4, .int .i64 a0, .int .i64 0, .int .i64 0, .int .i64 0]) ?_ 2 _ rfl; (with_reducible repeat (first | refine blk_drewN ?_ _ | refine blk_drew ?_ | refine blk_alloc ?_ _)); refine blk_put (cs := #[.int .i64 4, .int .i64 0, .int .i64 0, .int .i64 0, .int .i64 0]) ?_ 1 _ rfl; (with_reducible repeat (first | refine blk_drewN ?_ _ | refine blk_drew ?_ | refine blk_alloc ?_ _)); refine blk_put (cs := #[.int .i64 0, .int .i64 0, .int .i64 0, .int .i64 0, .int .i64 0]) ?_ 0 _ rfl; (with_reducible repeat (first | refine blk_drewN ?_ _ | refine blk_drew ?_ | refine blk_alloc ?_ _)); exact BK258.out) hb); have n1_ := Aside0.mk (below_step (by repeat (first | (with_reducible first | exact HB.out | apply below_alloc | apply pw_below_drewN | apply below_drew1 | refine below_set ?_ GE258.out) | exact HB.out)) hb); clear BK258; clear HB; have BK258 := n0_; have HB := n1_; clear n0_ n1_; (try clear hb); (try clear hb2); (try clear hk); (try clear hi)))
    go_meet
    case rel => exact ⟨_, (true), (by first | rfl | (simp; done) | (simp [*]; done)), H', ⟨by first | omega | exact Nat.le_refl _⟩, ⟨by (with_reducible repeat (first | refine blk_drewN ?_ _ | refine blk_drew ?_ | refine blk_alloc ?_ _)); exact BK258.out⟩, ⟨by repeat (first | (with_reducible first | exact HB.out | apply below_alloc | apply pw_below_drewN | apply below_drew1 | refine below_set ?_ GE258.out) | exact HB.out)⟩⟩
  ·rw [if_neg c9] at H
   have c9b0 : (t259 == 0) = false := beq_eq_false_iff_ne.mpr c9
   have c9b1 : (t259 != 0) = true := bne_iff_ne.mpr c9
   (first | rw [c9b0] | (simp only [i64_w, i32_w]; rw [c9b0]) | skip)
   have H' := Aside0.mk H
   clear H
   have hcz15_0 : w6.cell? ⟨gb258, 0, none⟩ = some (.int .i64 0) := (blk_cell BK258.out 0).trans rfl
   have hcz15_1 : w6.cell? ⟨gb258, 1, none⟩ = some (.int .i64 0) := (blk_cell BK258.out 1).trans rfl
   have hcz15_2 : w6.cell? ⟨gb258, 2, none⟩ = some (.int .i64 0) := (blk_cell BK258.out 2).trans rfl
   have hcz15_3 : w6.cell? ⟨gb258, 3, none⟩ = some (.int .i64 0) := (blk_cell BK258.out 3).trans rfl
   have hcz15_4 : w6.cell? ⟨gb258, 4, none⟩ = some (.int .i64 0) := (blk_cell BK258.out 4).trans rfl
   have hfz15_0 := blk_frozen BK258.out 0
   have hfz15_1 := blk_frozen BK258.out 1
   have hfz15_2 := blk_frozen BK258.out 2
   have hfz15_3 := blk_frozen BK258.out 3
   have hfz15_4 := blk_frozen BK258.out 4
   go_wp2_with (first | ((with_reducible refine gate_callee (f := 6) rfl ?_); refine goesL_ (some 28) rfl rfl Try.func6 (by kernel_rfl) rfl #[.agg #[.int .i64 4, .int .i64 a0, .int .i64 0, .int .i64 0, .int .i64 0], .int .i64 (l1.length : Int)] rfl (by (try simp only [List.map_toArray, List.map_cons, List.map_nil]); first | done | rfl | (simp only [List.length_drop, List.length_take]; rfl)) ?_; (with_reducible refine (trefoilref25_Check.calls k 4 a0 0 0 0 (l1.length : Int) t259 _ A8.out).mono ?_); rintro e w16 ⟨rfl, hb⟩; refine ⟨_, rfl, ?_⟩; have n0_ := Aside0.mk (blk_below (g := gb258) (o := .cells #[.int .i64 4, .int .i64 a0, .int .i64 0, .int .i64 0, .int .i64 0] 25 (0, 0)) (by (with_reducible repeat (first | refine blk_drewN ?_ _ | refine blk_drew ?_ | refine blk_alloc ?_ _)); refine blk_put (cs := #[.int .i64 4, .int .i64 a0, .int .i64 0, .int .i64 0, .int .i64 0]) ?_ 4 _ rfl; (with_reducible repeat (first | refine blk_drewN ?_ _ | refine blk_drew ?_ | refine blk_alloc ?_ _)); refine blk_put (cs := #[.int .i64 4, .int .i64 a0, .int .i64 0, .int .i64 0, .int .i64 0]) ?_ 3 _ rfl; (with_reducible repeat (first | refine blk_drewN ?_ _ | refine blk_drew ?_ | refine blk_alloc ?_ _)); refine blk_put (cs := #[.int .i64 4, .int .i64 a0, .int .i64 0, .int .i64 0, .int .i64 0]) ?_ 2 _ rfl; (with_reducible repeat (first | refine blk_drewN ?_ _ | refine blk_drew ?_ | refine blk_alloc ?_ _)); refine blk_put (cs := #[.int .i64 4, .int .i64 0, .int .i64 0, .int .i64 0, .int .i64 0]) ?_ 1 _ rfl; (with_reducible repeat (first | refine blk_drewN ?_ _ | refine blk_drew ?_ | refine blk_alloc ?_ _)); refine blk_put (cs := #[.int .i64 0, .int .i64 0, .int .i64 0, .int .i64 0, .int .i64 0]) ?_ 0 _ rfl; (with_reducible repeat (first | refine blk_drewN ?_ _ | refine blk_drew ?_ | refine blk_alloc ?_ _)); exact BK258.out) hb); have n1_ := Aside0.mk (below_step (by repeat (first | (with_reducible first | exact HB.out | apply below_alloc | apply pw_below_drewN | apply below_drew1 | refine below_set ?_ GE258.out) | exact HB.out)) hb); clear BK258; clear HB; have BK258 := n0_; have HB := n1_; clear n0_ n1_; (try clear hb); (try clear hb2); (try clear hk); (try clear hi)))
   go_meet
   case rel => exact ⟨_, (true), (by first | rfl | (simp; done) | (simp [*]; done)), H', ⟨by first | omega | exact Nat.le_refl _⟩, ⟨by (with_reducible repeat (first | refine blk_drewN ?_ _ | refine blk_drew ?_ | refine blk_alloc ?_ _)); exact BK258.out⟩, ⟨by repeat (first | (with_reducible first | exact HB.out | apply below_alloc | apply pw_below_drewN | apply below_drew1 | refine below_set ?_ GE258.out) | exact HB.out)⟩⟩
 case rest =>
  clear HC5
  try clear c1
  try clear c2
  try clear p2
  try clear c3
  try clear c6
  try clear c9
  try clear c9b0
  try clear c9b1
  try clear c10
  try clear c10b0
  try clear c10b1
  try clear c10b2
  try clear hcz11_0
  try clear hcz11_1
  try clear hcz11_2
  try clear hcz11_3
  try clear hcz11_4
  try clear hcz13_0
  try clear hcz13_1
  try clear hcz13_2
  try clear hcz13_3
  try clear hcz13_4
  try clear hcz15_0
  try clear hcz15_1
  try clear hcz15_2
  try clear hcz15_3
  try clear hcz15_4
  try clear hcz7_0
  try clear hcz7_1
  try clear hcz7_2
  try clear hcz7_3
  try clear hcz7_4
  try clear hfz11_0
  try clear hfz11_1
  try clear hfz11_2
  try clear hfz11_3
  try clear hfz11_4
  try clear hfz13_0
  try clear hfz13_1
  try clear hfz13_2
  try clear hfz13_3
  try clear hfz13_4
  try clear hfz15_0
  try clear hfz15_1
  try clear hfz15_2
  try clear hfz15_3
  try clear hfz15_4
  try clear hfz7_0
  try clear hfz7_1
  try clear hfz7_2
  try clear hfz7_3
  try clear hfz7_4
  obtain ⟨kq, x41_4, rfl, HA, HJ4, BK258, HB⟩ := hcut
  cases kq with
  | zero => exact absurd HA.out (by simp [trefoillaw25_DabitComes.j0])
  | succ kj4 =>
   have H := HA.out
   clear HA
   simp only [trefoillaw25_DabitComes.j0] at H
   by_cases c17 : x41_4 = true
   ·subst c17
    have H1 : ((trefoillaw25_awake.f kj4).bind fun t260 => (some t260)) = some r := by rw [if_pos rfl] at H; exact H
    clear H
    have H := H1
    clear H1
    replace H := Option.bind_eq_some_iff.mp H
    obtain ⟨t260, A180, H⟩ := H
    replace H : (some t260) = some r := H
    have A18 := Aside0.mk A180
    clear A180
    obtain rfl := Option.some.inj H
    go_wp2_with (first | ((with_reducible refine gate_callee (f := 7) rfl ?_); refine goesL_ (some 42) rfl rfl Try.func7 (by kernel_rfl) rfl #[] rfl (by (try simp only [List.map_toArray, List.map_cons, List.map_nil]); first | done | rfl | (simp only [List.length_drop, List.length_take]; rfl)) ?_; (with_reducible refine (trefoillaw25_awake.calls kj4  t260 _ A18.out).mono ?_); rintro e w19 ⟨rfl, hb⟩; refine ⟨_, rfl, ?_⟩; have n0_ := Aside0.mk (blk_below (g := gb258) (o := .cells #[.int .i64 4, .int .i64 a0, .int .i64 0, .int .i64 0, .int .i64 0] 25 (0, 0)) (by (with_reducible repeat (first | refine blk_drewN ?_ _ | refine blk_drew ?_ | refine blk_alloc ?_ _)); exact BK258.out) hb); have n1_ := Aside0.mk (below_step (by repeat (first | (with_reducible first | exact HB.out | apply below_alloc | apply pw_below_drewN | apply below_drew1 | refine below_set ?_ GE258.out) | exact HB.out)) hb); clear BK258; clear HB; have BK258 := n0_; have HB := n1_; clear n0_ n1_; (try clear hb); (try clear hb2); (try clear hk); (try clear hi)))
    go_ret
    exact ⟨by first | rfl | (simp [errW_none, errW_some] <;> rfl) | (simp [*, errW_none, errW_some] <;> rfl), by repeat (first | (with_reducible first | exact HB.out | apply below_alloc | apply pw_below_drewN | apply below_drew1 | refine below_set ?_ GE258.out) | exact HB.out)⟩
   ·replace c17 := Bool.eq_false_iff.mpr c17
    subst c17
    have H1 : (trefoillaw25_DabitComes.l0 kj4 a0 l1 l2 l3 (l1.length : Int) ([] : List (S31)) ([] : List (S31)) ([] : List Int) ([] : List Int) 0 4 a0 0 0 0) = some r := by rw [if_neg (show ¬ (false = true) by decide)] at H; exact H
    clear H
    have H := H1
    clear H1
    have H' := Aside0.mk H
    clear H
    go_wp2
    go_loopg [11, 12, 13, 14, 15] kj4 (fun kq v11 v12 v13 v14 v15 w' => ∃ (x11_2 : List (S31)) (x12_2 : List (S31)) (x13_2 : List Int) (x14_2 : List Int) (x15_2 : Int), v15 = .int .i64 x15_2 ∧ Aside0 (trefoillaw25_DabitComes.l0 kq a0 l1 l2 l3 (l1.length : Int) x11_2 x12_2 x13_2 x14_2 x15_2 4 a0 0 0 0 = some r) ∧ Aside0 (kq ≤ kj4) ∧ Aside0 (Kd.S k31 31 w' w.heap.size (fun k_ => some k_ ≠ (v12 : Value).ownBlock ∧ some k_ ≠ (v13 : Value).ownBlock ∧ some k_ ≠ (v14 : Value).ownBlock) v11 x11_2) ∧ Aside0 (Kd.S k31 31 w' w.heap.size (fun k_ => some k_ ≠ (v11 : Value).ownBlock ∧ some k_ ≠ (v13 : Value).ownBlock ∧ some k_ ≠ (v14 : Value).ownBlock) v12 x12_2) ∧ Aside0 (Kd.R (Kd.int .u64) 32 w' w.heap.size (fun k_ => some k_ ≠ (v14 : Value).ownBlock) v13 x13_2) ∧ Aside0 (Kd.R (Kd.int .u64) 32 w' w.heap.size (fun k_ => some k_ ≠ (v13 : Value).ownBlock) v14 x14_2) ∧ Aside0 (w'.heap[gb258]? = some (.cells #[.int .i64 4, .int .i64 a0, .int .i64 0, .int .i64 0, .int .i64 0] 25 (0, 0))) ∧ Aside0 (Below w.heap.size w w'))
    case atStart => exact ⟨(([] : List (S31))), (([] : List (S31))), (([] : List Int)), (([] : List Int)), (0), (by first | rfl | (simp; done) | (simp [*]; done)), H', ⟨Nat.le_refl _⟩, ⟨by first | exact Kd.S_nil _ _ _ _ _ | exact Kd.N_nil _ _ _ _ _ | exact Kd.V_nil _ _ _ _ _ | exact Kd.Q_nil _ _ _ _ _ | exact Kd.R_nil _ _ _ _ _⟩, ⟨by first | exact Kd.S_nil _ _ _ _ _ | exact Kd.N_nil _ _ _ _ _ | exact Kd.V_nil _ _ _ _ _ | exact Kd.Q_nil _ _ _ _ _ | exact Kd.R_nil _ _ _ _ _⟩, ⟨by first | exact Kd.R_nil _ _ _ _ _ | exact Kd.N_nil _ _ _ _ _ | exact Kd.V_nil _ _ _ _ _ | exact Kd.Q_nil _ _ _ _ _ | exact Kd.S_nil _ _ _ _ _⟩, ⟨by first | exact Kd.R_nil _ _ _ _ _ | exact Kd.N_nil _ _ _ _ _ | exact Kd.V_nil _ _ _ _ _ | exact Kd.Q_nil _ _ _ _ _ | exact Kd.S_nil _ _ _ _ _⟩, ⟨by (with_reducible repeat (first | refine blk_drewN ?_ _ | refine blk_drew ?_ | refine blk_alloc ?_ _)); exact BK258.out⟩, ⟨by repeat (first | (with_reducible first | exact HB.out | apply below_alloc | apply pw_below_drewN | apply below_drew1 | refine below_set ?_ GE258.out) | exact HB.out)⟩⟩
    case round =>
     clear H'
     try clear c1
     try clear c2
     try clear p2
     try clear c3
     try clear c6
     try clear c7
     try clear c9
     try clear c9b0
     try clear c9b1
     try clear c10
     try clear c10b0
     try clear c10b1
     try clear c10b2
     try clear c17
     try clear hcz11_0
     try clear hcz11_1
     try clear hcz11_2
     try clear hcz11_3
     try clear hcz11_4
     try clear hcz13_0
     try clear hcz13_1
     try clear hcz13_2
     try clear hcz13_3
     try clear hcz13_4
     try clear hcz15_0
     try clear hcz15_1
     try clear hcz15_2
     try clear hcz15_3
     try clear hcz15_4
     try clear hcz7_0
     try clear hcz7_1
     try clear hcz7_2
     try clear hcz7_3
     try clear hcz7_4
     try clear hfz11_0
     try clear hfz11_1
     try clear hfz11_2
     try clear hfz11_3
     try clear hfz11_4
     try clear hfz13_0
     try clear hfz13_1
     try clear hfz13_2
     try clear hfz13_3
     try clear hfz13_4
     try clear hfz15_0
     try clear hfz15_1
     try clear hfz15_2
     try clear hfz15_3
     try clear hfz15_4
     try clear hfz7_0
     try clear hfz7_1
     try clear hfz7_2
     try clear hfz7_3
     try clear hfz7_4
     try clear p2
     obtain ⟨x11_2, x12_2, x13_2, x14_2, x15_2, rfl, HA, HK2, HO_11, HO_12, HO_13, HO_14, BK258, HB⟩ := hrel
     cases gk with
     | zero => exact absurd HA.out (by simp [trefoillaw25_DabitComes.l0])
     | succ k2 =>
      have H := HA.out
      clear HA
      simp only [trefoillaw25_DabitComes.l0] at H
      by_cases c20 : x15_2 < (l1.length : Int)
      ·rw [if_pos c20] at H
       have c20b0 : decide (x15_2 < (l1.length : Int)) = true := decide_eq_true c20
       clear c20
       by_cases c21 : 0 ≤ x15_2
       ·rw [if_pos c21] at H
        have c21b0 : decide (0 ≤ x15_2) = true := decide_eq_true c21
        clear c21
        by_cases c22 : x15_2 < (l1.length : Int)
        ·rw [if_pos c22] at H
         have c22b0 : decide (x15_2 < (l1.length : Int)) = true := decide_eq_true c22
         clear c22
         replace H := Option.bind_eq_some_iff.mp H
         obtain ⟨t262, A230, H⟩ := H
         replace H : (if x11_2.length < 1954687338268 then ((some (x11_2 ++ [(⟨t262, ([] : List Int), ([] : List Int)⟩ : S31)] : List (S31))).bind fun y265 => (if x15_2 < (l2.length : Int) then ((trefoillaw25_number.f (rdOf false l2 x15_2)).bind fun t269 => (if x12_2.length < 1954687338268 then ((some (x12_2 ++ [(⟨t269, ([] : List Int), ([] : List Int)⟩ : S31)] : List (S31))).bind fun y272 => (if x15_2 < (l3.length : Int) then ((trefoilref03_Fit.f k2 a0 (rd l3 x15_2)).bind fun t276 => (if x13_2.length < 17592186044416 then ((some (x13_2 ++ [t276] : List Int)).bind fun y277 => (if rdOf false l1 x15_2 = true then ((trefoillaw25_number.f (rdOf false l2 x15_2)).bind fun t282 => (if 0 < (t282.length : Int) then ((trefoilref03_Sub.f k2 a0 (rd t282 0) t276).bind fun t286 => (if x14_2.length < 17592186044416 then (trefoillaw25_DabitComes.l0 k2 a0 l1 l2 l3 (l1.length : Int) y265 y272 y277 (x14_2 ++ [t286]) (wrap64 (x15_2 + 1)) 4 a0 0 0 0) else (none))) else (none))) else ((trefoillaw25_number.f false).bind fun t290 => (if 0 < (t290.length : Int) then ((trefoilref03_Sub.f k2 a0 (rd t290 0) t276).bind fun t294 => (if x14_2.length < 17592186044416 then (trefoillaw25_DabitComes.l0 k2 a0 l1 l2 l3 (l1.length : Int) y265 y272 y277 (x14_2 ++ [t294]) (wrap64 (x15_2 + 1)) 4 a0 0 0 0) else (none))) else (none))))) else (none))) else (none))) else (none))) else (none))) else (none)) = some r := H
         have A23 := Aside0.mk A230
         clear A230
         by_cases c24 : x11_2.length < 1954687338268
         ·rw [if_pos c24] at H
          have LMc24 := Aside0.mk c24
          clear c24
          obtain ⟨y265, hy265⟩ : ∃ y_ : List (S31), y_ = (x11_2 ++ [(⟨t262, ([] : List Int), ([] : List Int)⟩ : S31)]) := ⟨_, rfl⟩
          replace H : (if x15_2 < (l2.length : Int) then ((trefoillaw25_number.f (rdOf false l2 x15_2)).bind fun t269 => (if x12_2.length < 1954687338268 then ((some (x12_2 ++ [(⟨t269, ([] : List Int), ([] : List Int)⟩ : S31)] : List (S31))).bind fun y272 => (if x15_2 < (l3.length : Int) then ((trefoilref03_Fit.f k2 a0 (rd l3 x15_2)).bind fun t276 => (if x13_2.length < 17592186044416 then ((some (x13_2 ++ [t276] : List Int)).bind fun y277 => (if rdOf false l1 x15_2 = true then ((trefoillaw25_number.f (rdOf false l2 x15_2)).bind fun t282 => (if 0 < (t282.length : Int) then ((trefoilref03_Sub.f k2 a0 (rd t282 0) t276).bind fun t286 => (if x14_2.length < 17592186044416 then (trefoillaw25_DabitComes.l0 k2 a0 l1 l2 l3 (l1.length : Int) y265 y272 y277 (x14_2 ++ [t286]) (wrap64 (x15_2 + 1)) 4 a0 0 0 0) else (none))) else (none))) else ((trefoillaw25_number.f false).bind fun t290 => (if 0 < (t290.length : Int) then ((trefoilref03_Sub.f k2 a0 (rd t290 0) t276).bind fun t294 => (if x14_2.length < 17592186044416 then (trefoillaw25_DabitComes.l0 k2 a0 l1 l2 l3 (l1.length : Int) y265 y272 y277 (x14_2 ++ [t294]) (wrap64 (x15_2 + 1)) 4 a0 0 0 0) else (none))) else (none))))) else (none))) else (none))) else (none))) else (none)) = some r := by first | (rw [hy265]; with_reducible exact H) | (have H2_ := (Option.bind_some _ _).symm.trans H; rw [hy265]; with_reducible exact H2_) | (have H2_ := (Option.bind_some _ _).symm.trans H; with_reducible exact H2_) | with_reducible exact H | (rw [hy265]; exact H) | exact H
          have Ny265 := Aside0.mk hy265
          clear hy265
          by_cases c25 : x15_2 < (l2.length : Int)
          ·rw [if_pos c25] at H
           have c25b0 : decide (x15_2 < (l2.length : Int)) = true := decide_eq_true c25
           clear c25
           replace H := Option.bind_eq_some_iff.mp H
           obtain ⟨t269, A260, H⟩ := H
           replace H : (if x12_2.length < 1954687338268 then ((some (x12_2 ++ [(⟨t269, ([] : List Int), ([] : List Int)⟩ : S31)] : List (S31))).bind fun y272 => (if x15_2 < (l3.length : Int) then ((trefoilref03_Fit.f k2 a0 (rd l3 x15_2)).bind fun t276 => (if x13_2.length < 17592186044416 then ((some (x13_2 ++ [t276] : List Int)).bind fun y277 => (if rdOf false l1 x15_2 = true then ((trefoillaw25_number.f (rdOf false l2 x15_2)).bind fun t282 => (if 0 < (t282.length : Int) then ((trefoilref03_Sub.f k2 a0 (rd t282 0) t276).bind fun t286 => (if x14_2.length < 17592186044416 then (trefoillaw25_DabitComes.l0 k2 a0 l1 l2 l3 (l1.length : Int) y265 y272 y277 (x14_2 ++ [t286]) (wrap64 (x15_2 + 1)) 4 a0 0 0 0) else (none))) else (none))) else ((trefoillaw25_number.f false).bind fun t290 => (if 0 < (t290.length : Int) then ((trefoilref03_Sub.f k2 a0 (rd t290 0) t276).bind fun t294 => (if x14_2.length < 17592186044416 then (trefoillaw25_DabitComes.l0 k2 a0 l1 l2 l3 (l1.length : Int) y265 y272 y277 (x14_2 ++ [t294]) (wrap64 (x15_2 + 1)) 4 a0 0 0 0) else (none))) else (none))))) else (none))) else (none))) else (none)) = some r := H
           have A26 := Aside0.mk A260
           clear A260
           by_cases c27 : x12_2.length < 1954687338268
           ·rw [if_pos c27] at H
            have LMc27 := Aside0.mk c27
            clear c27
            obtain ⟨y272, hy272⟩ : ∃ y_ : List (S31), y_ = (x12_2 ++ [(⟨t269, ([] : List Int), ([] : List Int)⟩ : S31)]) := ⟨_, rfl⟩
            replace H : (if x15_2 < (l3.length : Int) then ((trefoilref03_Fit.f k2 a0 (rd l3 x15_2)).bind fun t276 => (if x13_2.length < 17592186044416 then ((some (x13_2 ++ [t276] : List Int)).bind fun y277 => (if rdOf false l1 x15_2 = true then ((trefoillaw25_number.f (rdOf false l2 x15_2)).bind fun t282 => (if 0 < (t282.length : Int) then ((trefoilref03_Sub.f k2 a0 (rd t282 0) t276).bind fun t286 => (if x14_2.length < 17592186044416 then (trefoillaw25_DabitComes.l0 k2 a0 l1 l2 l3 (l1.length : Int) y265 y272 y277 (x14_2 ++ [t286]) (wrap64 (x15_2 + 1)) 4 a0 0 0 0) else (none))) else (none))) else ((trefoillaw25_number.f false).bind fun t290 => (if 0 < (t290.length : Int) then ((trefoilref03_Sub.f k2 a0 (rd t290 0) t276).bind fun t294 => (if x14_2.length < 17592186044416 then (trefoillaw25_DabitComes.l0 k2 a0 l1 l2 l3 (l1.length : Int) y265 y272 y277 (x14_2 ++ [t294]) (wrap64 (x15_2 + 1)) 4 a0 0 0 0) else (none))) else (none))))) else (none))) else (none)) = some r := by first | (rw [hy272]; with_reducible exact H) | (have H2_ := (Option.bind_some _ _).symm.trans H; rw [hy272]; with_reducible exact H2_) | (have H2_ := (Option.bind_some _ _).symm.trans H; with_reducible exact H2_) | with_reducible exact H | (rw [hy272]; exact H) | exact H
            have Ny272 := Aside0.mk hy272
            clear hy272
            by_cases c28 : x15_2 < (l3.length : Int)
            ·rw [if_pos c28] at H
             have c28b0 : decide (x15_2 < (l3.length : Int)) = true := decide_eq_true c28
             clear c28
             replace H := Option.bind_eq_some_iff.mp H
             obtain ⟨t276, A290, H⟩ := H
             replace H : (if x13_2.length < 17592186044416 then ((some (x13_2 ++ [t276] : List Int)).bind fun y277 => (if rdOf false l1 x15_2 = true then ((trefoillaw25_number.f (rdOf false l2 x15_2)).bind fun t282 => (if 0 < (t282.length : Int) then ((trefoilref03_Sub.f k2 a0 (rd t282 0) t276).bind fun t286 => (if x14_2.length < 17592186044416 then (trefoillaw25_DabitComes.l0 k2 a0 l1 l2 l3 (l1.length : Int) y265 y272 y277 (x14_2 ++ [t286]) (wrap64 (x15_2 + 1)) 4 a0 0 0 0) else (none))) else (none))) else ((trefoillaw25_number.f false).bind fun t290 => (if 0 < (t290.length : Int) then ((trefoilref03_Sub.f k2 a0 (rd t290 0) t276).bind fun t294 => (if x14_2.length < 17592186044416 then (trefoillaw25_DabitComes.l0 k2 a0 l1 l2 l3 (l1.length : Int) y265 y272 y277 (x14_2 ++ [t294]) (wrap64 (x15_2 + 1)) 4 a0 0 0 0) else (none))) else (none))))) else (none)) = some r := H
             have A29 := Aside0.mk A290
             clear A290
             by_cases c30 : x13_2.length < 17592186044416
             ·rw [if_pos c30] at H
              have LMc30 := Aside0.mk c30
              clear c30
              obtain ⟨y277, hy277⟩ : ∃ y_ : List Int, y_ = (x13_2 ++ [t276]) := ⟨_, rfl⟩
              replace H : (if rdOf false l1 x15_2 = true then ((trefoillaw25_number.f (rdOf false l2 x15_2)).bind fun t282 => (if 0 < (t282.length : Int) then ((trefoilref03_Sub.f k2 a0 (rd t282 0) t276).bind fun t286 => (if x14_2.length < 17592186044416 then (trefoillaw25_DabitComes.l0 k2 a0 l1 l2 l3 (l1.length : Int) y265 y272 y277 (x14_2 ++ [t286]) (wrap64 (x15_2 + 1)) 4 a0 0 0 0) else (none))) else (none))) else ((trefoillaw25_number.f false).bind fun t290 => (if 0 < (t290.length : Int) then ((trefoilref03_Sub.f k2 a0 (rd t290 0) t276).bind fun t294 => (if x14_2.length < 17592186044416 then (trefoillaw25_DabitComes.l0 k2 a0 l1 l2 l3 (l1.length : Int) y265 y272 y277 (x14_2 ++ [t294]) (wrap64 (x15_2 + 1)) 4 a0 0 0 0) else (none))) else (none)))) = some r := by first | (rw [hy277]; with_reducible exact H) | (have H2_ := (Option.bind_some _ _).symm.trans H; rw [hy277]; with_reducible exact H2_) | (have H2_ := (Option.bind_some _ _).symm.trans H; with_reducible exact H2_) | with_reducible exact H | (rw [hy277]; exact H) | exact H
              have Ny277 := Aside0.mk hy277
              clear hy277
              obtain ⟨bq31, hbq31⟩ : ∃ b_ : Bool, b_ = (rdOf false l1 x15_2) := ⟨_, rfl⟩
              replace H : (if bq31 = true then ((trefoillaw25_number.f (rdOf false l2 x15_2)).bind fun t282 => (if 0 < (t282.length : Int) then ((trefoilref03_Sub.f k2 a0 (rd t282 0) t276).bind fun t286 => (if x14_2.length < 17592186044416 then (trefoillaw25_DabitComes.l0 k2 a0 l1 l2 l3 (l1.length : Int) y265 y272 y277 (x14_2 ++ [t286]) (wrap64 (x15_2 + 1)) 4 a0 0 0 0) else (none))) else (none))) else ((trefoillaw25_number.f false).bind fun t290 => (if 0 < (t290.length : Int) then ((trefoilref03_Sub.f k2 a0 (rd t290 0) t276).bind fun t294 => (if x14_2.length < 17592186044416 then (trefoillaw25_DabitComes.l0 k2 a0 l1 l2 l3 (l1.length : Int) y265 y272 y277 (x14_2 ++ [t294]) (wrap64 (x15_2 + 1)) 4 a0 0 0 0) else (none))) else (none)))) = some r := by rw [← hbq31] at H; exact H
              have Nbq31 := Aside0.mk hbq31
              clear hbq31
              (try rw [← Nbq31.out] at A23)
              (try rw [← Nbq31.out] at A26)
              (try rw [← Nbq31.out] at A29)
              by_cases c32 : bq31 = true
              ·subst c32
               have H1 : ((trefoillaw25_number.f (rdOf false l2 x15_2)).bind fun t282 => (if 0 < (t282.length : Int) then ((trefoilref03_Sub.f k2 a0 (rd t282 0) t276).bind fun t286 => (if x14_2.length < 17592186044416 then (trefoillaw25_DabitComes.l0 k2 a0 l1 l2 l3 (l1.length : Int) y265 y272 y277 (x14_2 ++ [t286]) (wrap64 (x15_2 + 1)) 4 a0 0 0 0) else (none))) else (none))) = some r := by rw [if_pos rfl] at H; exact H
               clear H
               have H := H1
               clear H1
               replace H := Option.bind_eq_some_iff.mp H
               obtain ⟨t282, A330, H⟩ := H
               replace H : (if 0 < (t282.length : Int) then ((trefoilref03_Sub.f k2 a0 (rd t282 0) t276).bind fun t286 => (if x14_2.length < 17592186044416 then (trefoillaw25_DabitComes.l0 k2 a0 l1 l2 l3 (l1.length : Int) y265 y272 y277 (x14_2 ++ [t286]) (wrap64 (x15_2 + 1)) 4 a0 0 0 0) else (none))) else (none)) = some r := H
               have A33 := Aside0.mk A330
               clear A330
               by_cases c34 : 0 < (t282.length : Int)
               ·rw [if_pos c34] at H
                have c34b0 : decide (0 < (t282.length : Int)) = true := decide_eq_true c34
                have c34b1 : decide (0 < t282.length) = true := decide_eq_true (by omega)
                clear c34
                replace H := Option.bind_eq_some_iff.mp H
                obtain ⟨t286, A350, H⟩ := H
                replace H : (if x14_2.length < 17592186044416 then (trefoillaw25_DabitComes.l0 k2 a0 l1 l2 l3 (l1.length : Int) y265 y272 y277 (x14_2 ++ [t286]) (wrap64 (x15_2 + 1)) 4 a0 0 0 0) else (none)) = some r := H
                have A35 := Aside0.mk A350
                clear A350
                by_cases c36 : x14_2.length < 17592186044416
                ·rw [if_pos c36] at H
                 have LMc36 := Aside0.mk c36
                 clear c36
                 obtain ⟨y287, hy287⟩ : ∃ y_ : List Int, y_ = (x14_2 ++ [t286]) := ⟨_, rfl⟩
                 replace H : (trefoillaw25_DabitComes.l0 k2 a0 l1 l2 l3 (l1.length : Int) y265 y272 y277 y287 (wrap64 (x15_2 + 1)) 4 a0 0 0 0) = some r := by first | (rw [hy287]; with_reducible exact H) | (have H2_ := (Option.bind_some _ _).symm.trans H; rw [hy287]; with_reducible exact H2_) | (have H2_ := (Option.bind_some _ _).symm.trans H; with_reducible exact H2_) | with_reducible exact H | (rw [hy287]; exact H) | exact H
                 have Ny287 := Aside0.mk hy287
                 clear hy287
                 have H' := Aside0.mk H
                 clear H
                 have p261 : 0 ≤ (x15_2 : Int) := of_decide_eq_true (by first | (with_reducible assumption) | assumption)
                 have q261 : x15_2 < (l1.length : Int) := of_decide_eq_true (by first | (with_reducible assumption) | assumption)
                 obtain ⟨ad261, e261, hx261_0⟩ := Kd.at_bool HR1.out x15_2 p261 q261
                 (try rw [← Nbq31.out] at hx261_0)
                 cases e261
                 replace hx261_0 := (HB.out.cell (World.block_lt_of_cell? w _ hx261_0)).trans hx261_0
                 replace p261 := eq_true p261
                 replace q261 := eq_true q261
                 go_wp2_with (first | ((with_reducible refine gate_callee (f := 8) rfl ?_); refine goesL_ (some 53) rfl rfl Try.func8 (by kernel_rfl) rfl #[.bool true] rfl (by (try simp only [List.map_toArray, List.map_cons, List.map_nil]); first | done | rfl | (simp only [List.length_drop, List.length_take]; rfl)) ?_; (with_reducible refine (trefoillaw25_number.calls true t262 _ A23.out).mono ?_); rintro e w37 ⟨v263, rfl, ho0, hb⟩; refine ⟨_, rfl, ?_⟩; have n0_ := Aside0.mk (Kd.S_elder' (by (with_reducible repeat (first | apply Kd.S_alloc | apply Kd.S_drewN | apply Kd.S_drew)); exact HO_11.out) (Kd.R_base ho0) hb); have n1_ := Aside0.mk (Kd.S_elder' (by (with_reducible repeat (first | apply Kd.S_alloc | apply Kd.S_drewN | apply Kd.S_drew)); exact HO_12.out) (Kd.R_base ho0) hb); have n2_ := Aside0.mk (Kd.R_elder' (by (with_reducible repeat (first | apply Kd.R_alloc | apply Kd.R_drewN | apply Kd.R_drew)); exact HO_13.out) (Kd.R_base ho0) hb); have n3_ := Aside0.mk (Kd.R_elder' (by (with_reducible repeat (first | apply Kd.R_alloc | apply Kd.R_drewN | apply Kd.R_drew)); exact HO_14.out) (Kd.R_base ho0) hb); have n4_ := Aside0.mk (Kd.R_lower (Kd.R_new' (Kd.R_new' ho0 (Kd.R_lt (by (with_reducible repeat (first | apply Kd.R_alloc | apply Kd.R_drewN | apply Kd.R_drew)); exact HO_13.out))) (Kd.R_lt (by (with_reducible repeat (first | apply Kd.R_alloc | apply Kd.R_drewN | apply Kd.R_drew)); exact HO_14.out))) (below_size (by repeat (first | (with_reducible first | exact HB.out | apply below_alloc | apply pw_below_drewN | apply below_drew1 | refine below_set ?_ GE258.out) | exact HB.out)))); have n5_ := Aside0.mk (blk_below (g := gb258) (o := .cells #[.int .i64 4, .int .i64 a0, .int .i64 0, .int .i64 0, .int .i64 0] 25 (0, 0)) (by (with_reducible repeat (first | refine blk_drewN ?_ _ | refine blk_drew ?_ | refine blk_alloc ?_ _)); exact BK258.out) hb); have n6_ := Aside0.mk (below_step (by repeat (first | (with_reducible first | exact HB.out | apply below_alloc | apply pw_below_drewN | apply below_drew1 | refine below_set ?_ GE258.out) | exact HB.out)) hb); clear HO_11; clear HO_12; clear HO_13; clear HO_14; clear BK258; clear HB; have HO_11 := n0_; have HO_12 := n1_; have HO_13 := n2_; have HO_14 := n3_; have HO264 := n4_; have BK258 := n5_; have HB := n6_; clear n0_ n1_ n2_ n3_ n4_ n5_ n6_; (try clear hb); (try clear hb2); (try clear hk); (try clear hi); (try clear ho0); obtain ⟨Ao38, co38, eo38⟩ := Kd.R_slice HO264.out; subst eo38) | ((with_reducible refine gate_builtin (b := .append) (xs := #[.tmp 48, .tmp 55]) rfl ?_); (try (refine gate_guard (by rfl) ?_; dsimp only)); at_builtin; refine Kd.S_append k31 (w0 := w) w.heap.size rfl (.tmp 48) (.tmp 55) 28 31 (.agg #[(.slice none 0 0), (.slice none 0 0), (.slice none 0 0)]) 72 rfl Try.underlying28 info31 rfl (by decide) (by omega) u11 x11_2 (⟨t262, ([] : List Int), ([] : List Int)⟩ : S31) [.slice Ao38 t262.length co38, .slice none 0 0, .slice none 0 0] (fun k_ => some k_ ≠ (u12 : Value).ownBlock ∧ some k_ ≠ (u13 : Value).ownBlock ∧ some k_ ≠ (u14 : Value).ownBlock) (fun k_ => some k_ = (.slice Ao38 t262.length co38 : Value).ownBlock) rfl rfl ?aP (fun k_ hk_ => ((Kd.R_mono (ok' := fun k_ => ((fun k_ => some k_ ≠ (u12 : Value).ownBlock ∧ some k_ ≠ (u13 : Value).ownBlock ∧ some k_ ≠ (u14 : Value).ownBlock)) k_ ∧ some k_ ≠ (u11 : Value).ownBlock) (Kd.R_apart' (Kd.R_apart' (HO264.out) (Kd.S_typed HO_12.out) (by decide)) (Kd.S_typed HO_11.out) (by decide)) (fun k_ hk => ⟨⟨hk.1.2, ⟨hk.1.1.1.2, hk.1.1.2⟩⟩, hk.2⟩))).1 k_ hk_.symm) ?aF ?aO ?aB ?aS ?aL ?_; (case aP => exact k31_mkM _ _ _ (⟨t262, ([] : List Int), ([] : List Int)⟩ : S31) (Kd.R_mono (Kd.R_tight rfl (Kd.R_mono (ok' := fun k_ => ((fun k_ => some k_ ≠ (u12 : Value).ownBlock ∧ some k_ ≠ (u13 : Value).ownBlock ∧ some k_ ≠ (u14 : Value).ownBlock)) k_ ∧ some k_ ≠ (u11 : Value).ownBlock) (Kd.R_apart' (Kd.R_apart' (HO264.out) (Kd.S_typed HO_12.out) (by decide)) (Kd.S_typed HO_11.out) (by decide)) (fun k_ hk => ⟨⟨hk.1.2, ⟨hk.1.1.1.2, hk.1.1.2⟩⟩, hk.2⟩))) (fun _ h_ => h_)) (Kd.R_nil _ _ _ _ _) (Kd.R_nil _ _ _ _ _)); (case aB => exact (by repeat (first | (with_reducible first | exact HB.out | apply below_alloc | apply pw_below_drewN | apply below_drew1 | refine below_set ?_ GE258.out) | exact HB.out))); (case aF => exact (fun k_ hk => ⟨Kd.fresh' (Kd.S_lt (by (with_reducible repeat (first | apply Kd.S_alloc | apply Kd.S_drewN | apply Kd.S_drew)); exact HO_12.out)) k_ hk, Kd.fresh' (Kd.R_lt (by (with_reducible repeat (first | apply Kd.R_alloc | apply Kd.R_drewN | apply Kd.R_drew)); exact HO_13.out)) k_ hk, Kd.fresh' (Kd.R_lt (by (with_reducible repeat (first | apply Kd.R_alloc | apply Kd.R_drewN | apply Kd.R_drew)); exact HO_14.out)) k_ hk⟩)); (case aO => exact (by (with_reducible repeat (first | apply Kd.S_alloc | apply Kd.S_drewN | apply Kd.S_drew)); exact Kd.S_mono HO_11.out (fun k_ hk => ⟨⟨hk.1.1, ⟨hk.1.2.1, hk.1.2.2⟩⟩, fun e_ => hk.2 e_⟩))); (case aS => exact (below_size (by repeat (first | (with_reducible first | exact HB.out | apply below_alloc | apply pw_below_drewN | apply below_drew1 | refine below_set ?_ GE258.out) | exact HB.out)))); (case aL => have := LMc24.out; omega); intro v266 w39 ho hb hg hat; rw [← Ny265.out] at ho; have n0_ := Aside0.mk (Kd.S_after (ok := (fun k_ => some k_ ≠ (u13 : Value).ownBlock ∧ some k_ ≠ (u14 : Value).ownBlock ∧ some k_ ≠ (.slice Ao38 t262.length co38 : Value).ownBlock)) (by (with_reducible repeat (first | apply Kd.S_alloc | apply Kd.S_drewN | apply Kd.S_drew)); exact Kd.S_mono HO_12.out (fun _ hk => ⟨⟨hk.1.2.1, ⟨hk.1.2.2, hk.2⟩⟩, hk.1.1⟩)) hg hat); have n1_ := Aside0.mk (Kd.R_over' (by (with_reducible repeat (first | apply Kd.R_alloc | apply Kd.R_drewN | apply Kd.R_drew)); exact HO_13.out) (Kd.S_typed (by (with_reducible repeat (first | apply Kd.S_alloc | apply Kd.S_drewN | apply Kd.S_drew)); exact HO_11.out)) (by decide) hg); have n2_ := Aside0.mk (Kd.R_over' (by (with_reducible repeat (first | apply Kd.R_alloc | apply Kd.R_drewN | apply Kd.R_drew)); exact HO_14.out) (Kd.S_typed (by (with_reducible repeat (first | apply Kd.S_alloc | apply Kd.S_drewN | apply Kd.S_drew)); exact HO_11.out)) (by decide) hg); have n3_ := Aside0.mk (blk_grown (g := gb258) (o := .cells #[.int .i64 4, .int .i64 a0, .int .i64 0, .int .i64 0, .int .i64 0] 25 (0, 0)) (by (with_reducible repeat (first | refine blk_drewN ?_ _ | refine blk_drew ?_ | refine blk_alloc ?_ _)); exact BK258.out) hg (Kd.S_ne HO_11.out BK258.out (by decide))); have n4_ := Aside0.mk (hb); have n5_ := Aside0.mk (ho); clear HO_12; clear HO_13; clear HO_14; clear BK258; clear HB; clear HO_11; clear HO264; have HO_12 := n0_; have HO_13 := n1_; have HO_14 := n2_; have BK258 := n3_; have HB := n4_; have HO267 := n5_; clear n0_ n1_ n2_ n3_ n4_ n5_; clear ho hb hg hat; have p268 : 0 ≤ (x15_2 : Int) := of_decide_eq_true (by first | (with_reducible assumption) | assumption); have q268 : x15_2 < (l2.length : Int) := of_decide_eq_true (by first | (with_reducible assumption) | assumption); obtain ⟨ad268, e268, hx268_0⟩ := Kd.at_bool HR2.out x15_2 p268 q268; (try rw [← Nbq31.out] at hx268_0); cases e268; replace hx268_0 := (HB.out.cell (World.block_lt_of_cell? w _ hx268_0)).trans hx268_0; replace p268 := eq_true p268; replace q268 := eq_true q268) | ((with_reducible refine gate_callee (f := 8) rfl ?_); refine goesL_ (some 62) rfl rfl Try.func8 (by kernel_rfl) rfl #[.bool (rdOf false l2 x15_2)] rfl (by (try simp only [List.map_toArray, List.map_cons, List.map_nil]); first | done | rfl | (simp only [List.length_drop, List.length_take]; rfl)) ?_; (with_reducible refine (trefoillaw25_number.calls (rdOf false l2 x15_2) t269 _ A26.out).mono ?_); rintro e w40 ⟨v270, rfl, ho0, hb⟩; refine ⟨_, rfl, ?_⟩; have n0_ := Aside0.mk (Kd.S_elder' (by (with_reducible repeat (first | apply Kd.S_alloc | apply Kd.S_drewN | apply Kd.S_drew)); exact HO_12.out) (Kd.R_base ho0) hb); have n1_ := Aside0.mk (Kd.R_elder' (by (with_reducible repeat (first | apply Kd.R_alloc | apply Kd.R_drewN | apply Kd.R_drew)); exact HO_13.out) (Kd.R_base ho0) hb); have n2_ := Aside0.mk (Kd.R_elder' (by (with_reducible repeat (first | apply Kd.R_alloc | apply Kd.R_drewN | apply Kd.R_drew)); exact HO_14.out) (Kd.R_base ho0) hb); have n3_ := Aside0.mk (Kd.S_elder' (by (with_reducible repeat (first | apply Kd.S_alloc | apply Kd.S_drewN | apply Kd.S_drew)); exact HO267.out) (Kd.R_base ho0) hb); have n4_ := Aside0.mk (Kd.R_lower (Kd.R_new' (Kd.R_new' ho0 (Kd.R_lt (by (with_reducible repeat (first | apply Kd.R_alloc | apply Kd.R_drewN | apply Kd.R_drew)); exact HO_13.out))) (Kd.R_lt (by (with_reducible repeat (first | apply Kd.R_alloc | apply Kd.R_drewN | apply Kd.R_drew)); exact HO_14.out))) (below_size (by repeat (first | (with_reducible first | exact HB.out | apply below_alloc | apply pw_below_drewN | apply below_drew1 | refine below_set ?_ GE258.out) | exact HB.out)))); have n5_ := Aside0.mk (blk_below (g := gb258) (o := .cells #[.int .i64 4, .int .i64 a0, .int .i64 0, .int .i64 0, .int .i64 0] 25 (0, 0)) (by (with_reducible repeat (first | refine blk_drewN ?_ _ | refine blk_drew ?_ | refine blk_alloc ?_ _)); exact BK258.out) hb); have n6_ := Aside0.mk (below_step (by repeat (first | (with_reducible first | exact HB.out | apply below_alloc | apply pw_below_drewN | apply below_drew1 | refine below_set ?_ GE258.out) | exact HB.out)) hb); clear HO_12; clear HO_13; clear HO_14; clear HO267; clear BK258; clear HB; have HO_12 := n0_; have HO_13 := n1_; have HO_14 := n2_; have HO267 := n3_; have HO271 := n4_; have BK258 := n5_; have HB := n6_; clear n0_ n1_ n2_ n3_ n4_ n5_ n6_; (try clear hb); (try clear hb2); (try clear hk); (try clear hi); (try clear ho0); obtain ⟨Ao41, co41, eo41⟩ := Kd.R_slice HO271.out; subst eo41) | ((with_reducible refine gate_builtin (b := .append) (xs := #[.tmp 57, .tmp 64]) rfl ?_); (try (refine gate_guard (by rfl) ?_; dsimp only)); at_builtin; refine Kd.S_append k31 (w0 := w) w.heap.size rfl (.tmp 57) (.tmp 64) 28 31 (.agg #[(.slice none 0 0), (.slice none 0 0), (.slice none 0 0)]) 72 rfl Try.underlying28 info31 rfl (by decide) (by omega) u12 x12_2 (⟨t269, ([] : List Int), ([] : List Int)⟩ : S31) [.slice Ao41 t269.length co41, .slice none 0 0, .slice none 0 0] (fun k_ => some k_ ≠ (u13 : Value).ownBlock ∧ some k_ ≠ (u14 : Value).ownBlock ∧ some k_ ≠ (v266 : Value).ownBlock) (fun k_ => some k_ = (.slice Ao41 t269.length co41 : Value).ownBlock) rfl rfl ?aP (fun k_ hk_ => ((Kd.R_mono (ok' := fun k_ => ((fun k_ => some k_ ≠ (u13 : Value).ownBlock ∧ some k_ ≠ (u14 : Value).ownBlock ∧ some k_ ≠ (v266 : Value).ownBlock)) k_ ∧ some k_ ≠ (u12 : Value).ownBlock) (Kd.R_apart' (Kd.R_apart' (HO271.out) (Kd.S_typed HO267.out) (by decide)) (Kd.S_typed HO_12.out) (by decide)) (fun k_ hk => ⟨⟨hk.1.1.1.2, ⟨hk.1.1.2, hk.1.2⟩⟩, hk.2⟩))).1 k_ hk_.symm) ?aF ?aO ?aB ?aS ?aL ?_; (case aP => exact k31_mkM _ _ _ (⟨t269, ([] : List Int), ([] : List Int)⟩ : S31) (Kd.R_mono (Kd.R_tight rfl (Kd.R_mono (ok' := fun k_ => ((fun k_ => some k_ ≠ (u13 : Value).ownBlock ∧ some k_ ≠ (u14 : Value).ownBlock ∧ some k_ ≠ (v266 : Value).ownBlock)) k_ ∧ some k_ ≠ (u12 : Value).ownBlock) (Kd.R_apart' (Kd.R_apart' (HO271.out) (Kd.S_typed HO267.out) (by decide)) (Kd.S_typed HO_12.out) (by decide)) (fun k_ hk => ⟨⟨hk.1.1.1.2, ⟨hk.1.1.2, hk.1.2⟩⟩, hk.2⟩))) (fun _ h_ => h_)) (Kd.R_nil _ _ _ _ _) (Kd.R_nil _ _ _ _ _)); (case aB => exact (by repeat (first | (with_reducible first | exact HB.out | apply below_alloc | apply pw_below_drewN | apply below_drew1 | refine below_set ?_ GE258.out) | exact HB.out))); (case aF => exact (fun k_ hk => ⟨Kd.fresh' (Kd.R_lt (by (with_reducible repeat (first | apply Kd.R_alloc | apply Kd.R_drewN | apply Kd.R_drew)); exact HO_13.out)) k_ hk, Kd.fresh' (Kd.R_lt (by (with_reducible repeat (first | apply Kd.R_alloc | apply Kd.R_drewN | apply Kd.R_drew)); exact HO_14.out)) k_ hk, Kd.fresh' (Kd.S_lt (by (with_reducible repeat (first | apply Kd.S_alloc | apply Kd.S_drewN | apply Kd.S_drew)); exact HO267.out)) k_ hk⟩)); (case aO => exact (by (with_reducible repeat (first | apply Kd.S_alloc | apply Kd.S_drewN | apply Kd.S_drew)); exact Kd.S_mono HO_12.out (fun k_ hk => ⟨⟨hk.1.1.1, ⟨hk.1.1.2.1, hk.1.2⟩⟩, fun e_ => hk.2 e_⟩))); (case aS => exact (below_size (by repeat (first | (with_reducible first | exact HB.out | apply below_alloc | apply pw_below_drewN | apply below_drew1 | refine below_set ?_ GE258.out) | exact HB.out)))); (case aL => have := LMc27.out; omega); intro v273 w42 ho hb hg hat; rw [← Ny272.out] at ho; have n0_ := Aside0.mk (Kd.R_over' (by (with_reducible repeat (first | apply Kd.R_alloc | apply Kd.R_drewN | apply Kd.R_drew)); exact HO_13.out) (Kd.S_typed (by (with_reducible repeat (first | apply Kd.S_alloc | apply Kd.S_drewN | apply Kd.S_drew)); exact HO_12.out)) (by decide) hg); have n1_ := Aside0.mk (Kd.R_over' (by (with_reducible repeat (first | apply Kd.R_alloc | apply Kd.R_drewN | apply Kd.R_drew)); exact HO_14.out) (Kd.S_typed (by (with_reducible repeat (first | apply Kd.S_alloc | apply Kd.S_drewN | apply Kd.S_drew)); exact HO_12.out)) (by decide) hg); have n2_ := Aside0.mk (blk_grown (g := gb258) (o := .cells #[.int .i64 4, .int .i64 a0, .int .i64 0, .int .i64 0, .int .i64 0] 25 (0, 0)) (by (with_reducible repeat (first | refine blk_drewN ?_ _ | refine blk_drew ?_ | refine blk_alloc ?_ _)); exact BK258.out) hg (Kd.S_ne HO_12.out BK258.out (by decide))); have n3_ := Aside0.mk (Kd.S_after (ok := (fun k_ => some k_ ≠ (u13 : Value).ownBlock ∧ some k_ ≠ (u14 : Value).ownBlock ∧ some k_ ≠ (.slice Ao41 t269.length co41 : Value).ownBlock)) (by (with_reducible repeat (first | apply Kd.S_alloc | apply Kd.S_drewN | apply Kd.S_drew)); exact Kd.S_mono HO267.out (fun _ hk => ⟨⟨hk.1.2.1, ⟨hk.1.2.2, hk.2⟩⟩, hk.1.1⟩)) hg hat); have n4_ := Aside0.mk (hb); have n5_ := Aside0.mk (ho); clear HO_13; clear HO_14; clear BK258; clear HO267; clear HB; clear HO_12; clear HO271; have HO_13 := n0_; have HO_14 := n1_; have BK258 := n2_; have HO267 := n3_; have HB := n4_; have HO274 := n5_; clear n0_ n1_ n2_ n3_ n4_ n5_; clear ho hb hg hat; have p275 : 0 ≤ (x15_2 : Int) := of_decide_eq_true (by first | (with_reducible assumption) | assumption); have q275 : x15_2 < (l3.length : Int) := of_decide_eq_true (by first | (with_reducible assumption) | assumption); obtain ⟨ad275, e275, hx275_0⟩ := Kd.at_int HR3.out x15_2 p275 q275; cases e275; replace hx275_0 := (HB.out.cell (World.block_lt_of_cell? w _ hx275_0)).trans hx275_0; replace p275 := eq_true p275; replace q275 := eq_true q275) | ((with_reducible refine gate_callee (f := 9) rfl ?_); refine goesL_ (some 71) rfl rfl Try.func9 (by kernel_rfl) rfl #[.int .i64 a0, .int .u64 (rd l3 x15_2)] rfl (by (try simp only [List.map_toArray, List.map_cons, List.map_nil]); first | done | rfl | (simp only [List.length_drop, List.length_take]; rfl)) ?_; (with_reducible refine (trefoilref03_Fit.calls k2 a0 (rd l3 x15_2) t276 _ A29.out).mono ?_); rintro e w' ⟨rfl, ⟨nd, rfl⟩⟩; refine ⟨_, rfl, ?_⟩) | ((with_reducible refine gate_builtin (b := .append) (xs := #[.tmp 72, .tmp 74]) rfl ?_); (try (refine gate_guard (by rfl) ?_; dsimp only)); at_builtin; refine Kd.R_append (Kd.int .u64) (w0 := w) w.heap.size rfl (.tmp 72) (.tmp 74) 23 32 (.int .u64 0) 8 rfl Try.underlying23 info32 rfl (by decide) (by omega) u13 x13_2 t276 [.int .u64 t276] (fun k_ => some k_ ≠ (u14 : Value).ownBlock) (fun _ => False) rfl rfl ?aP (fun _ hk => hk.elim) ?aF ?aO ?aB ?aS ?aL ?_; (case aP => exact rfl); (case aB => exact (by repeat (first | (with_reducible first | exact HB.out | apply below_alloc | apply pw_below_drewN | apply below_drew1 | refine below_set ?_ GE258.out) | exact HB.out))); (case aF => exact (fun k_ hk => Kd.fresh' (Kd.R_lt (by (with_reducible repeat (first | apply Kd.R_alloc | apply Kd.R_drewN | apply Kd.R_drew)); exact HO_14.out)) k_ hk)); (case aO => exact (by (with_reducible repeat (first | apply Kd.R_alloc | apply Kd.R_drewN | apply Kd.R_drew)); exact Kd.R_mono HO_13.out (fun _ hk => hk.1.1))); (case aS => exact (below_size (by repeat (first | (with_reducible first | exact HB.out | apply below_alloc | apply pw_below_drewN | apply below_drew1 | refine below_set ?_ GE258.out) | exact HB.out)))); (case aL => have := LMc30.out; omega); intro v278 w43 ho hb hg hat; rw [← Ny277.out] at ho; have n0_ := Aside0.mk (Kd.R_after (ok := (fun _ => True)) (by (with_reducible repeat (first | apply Kd.R_alloc | apply Kd.R_drewN | apply Kd.R_drew)); exact Kd.R_mono HO_14.out (fun _ hk => ⟨trivial, hk.1.1⟩)) hg hat); have n1_ := Aside0.mk (blk_grown (g := gb258) (o := .cells #[.int .i64 4, .int .i64 a0, .int .i64 0, .int .i64 0, .int .i64 0] 25 (0, 0)) (by (with_reducible repeat (first | refine blk_drewN ?_ _ | refine blk_drew ?_ | refine blk_alloc ?_ _)); exact BK258.out) hg (Kd.R_ne HO_13.out BK258.out (by decide))); have n2_ := Aside0.mk (Kd.S_after (ok := (fun k_ => some k_ ≠ (u14 : Value).ownBlock ∧ some k_ ≠ (v273 : Value).ownBlock)) (by (with_reducible repeat (first | apply Kd.S_alloc | apply Kd.S_drewN | apply Kd.S_drew)); exact Kd.S_mono HO267.out (fun _ hk => ⟨⟨hk.1.2.1, hk.2⟩, hk.1.1⟩)) hg hat); have n3_ := Aside0.mk (Kd.S_after (ok := (fun k_ => some k_ ≠ (u14 : Value).ownBlock ∧ some k_ ≠ (v266 : Value).ownBlock)) (by (with_reducible repeat (first | apply Kd.S_alloc | apply Kd.S_drewN | apply Kd.S_drew)); exact Kd.S_mono HO274.out (fun _ hk => ⟨⟨hk.2.1, hk.2.2⟩, hk.1⟩)) hg hat); have n4_ := Aside0.mk (hb); have n5_ := Aside0.mk (ho); clear HO_14; clear BK258; clear HO267; clear HO274; clear HB; clear HO_13; have HO_14 := n0_; have BK258 := n1_; have HO267 := n2_; have HO274 := n3_; have HB := n4_; have HO279 := n5_; clear n0_ n1_ n2_ n3_ n4_ n5_; clear ho hb hg hat; have p280 : 0 ≤ (x15_2 : Int) := of_decide_eq_true (by first | (with_reducible assumption) | assumption); have q280 : x15_2 < (l1.length : Int) := of_decide_eq_true (by first | (with_reducible assumption) | assumption); obtain ⟨ad280, e280, hx280_0⟩ := Kd.at_bool HR1.out x15_2 p280 q280; (try rw [← Nbq31.out] at hx280_0); obtain rfl : ad261 = ad280 := (by injection e280); replace hx280_0 := (HB.out.cell (World.block_lt_of_cell? w _ hx280_0)).trans hx280_0; replace p280 := eq_true p280; replace q280 := eq_true q280; have p281 : 0 ≤ (x15_2 : Int) := of_decide_eq_true (by first | (with_reducible assumption) | assumption); have q281 : x15_2 < (l2.length : Int) := of_decide_eq_true (by first | (with_reducible assumption) | assumption); obtain ⟨ad281, e281, hx281_0⟩ := Kd.at_bool HR2.out x15_2 p281 q281; (try rw [← Nbq31.out] at hx281_0); obtain rfl : ad268 = ad281 := (by injection e281); replace hx281_0 := (HB.out.cell (World.block_lt_of_cell? w _ hx281_0)).trans hx281_0; replace p281 := eq_true p281; replace q281 := eq_true q281) | ((with_reducible refine gate_callee (f := 8) rfl ?_); refine goesL_ (some 88) rfl rfl Try.func8 (by kernel_rfl) rfl #[.bool (rdOf false l2 x15_2)] rfl (by (try simp only [List.map_toArray, List.map_cons, List.map_nil]); first | done | rfl | (simp only [List.length_drop, List.length_take]; rfl)) ?_; (with_reducible refine (trefoillaw25_number.calls (rdOf false l2 x15_2) t282 _ A33.out).mono ?_); rintro e w44 ⟨v283, rfl, ho0, hb⟩; refine ⟨_, rfl, ?_⟩; have n0_ := Aside0.mk (Kd.R_elder' (by (with_reducible repeat (first | apply Kd.R_alloc | apply Kd.R_drewN | apply Kd.R_drew)); exact HO_14.out) (Kd.R_base ho0) hb); have n1_ := Aside0.mk (Kd.S_elder' (by (with_reducible repeat (first | apply Kd.S_alloc | apply Kd.S_drewN | apply Kd.S_drew)); exact HO267.out) (Kd.R_base ho0) hb); have n2_ := Aside0.mk (Kd.S_elder' (by (with_reducible repeat (first | apply Kd.S_alloc | apply Kd.S_drewN | apply Kd.S_drew)); exact HO274.out) (Kd.R_base ho0) hb); have n3_ := Aside0.mk (Kd.R_elder' (by (with_reducible repeat (first | apply Kd.R_alloc | apply Kd.R_drewN | apply Kd.R_drew)); exact HO279.out) (Kd.R_base ho0) hb); have n4_ := Aside0.mk (Kd.R_lower (Kd.R_new' (Kd.R_new' ho0 (Kd.R_lt (by (with_reducible repeat (first | apply Kd.R_alloc | apply Kd.R_drewN | apply Kd.R_drew)); exact HO_14.out))) (Kd.R_lt (by (with_reducible repeat (first | apply Kd.R_alloc | apply Kd.R_drewN | apply Kd.R_drew)); exact HO279.out))) (below_size (by repeat (first | (with_reducible first | exact HB.out | apply below_alloc | apply pw_below_drewN | apply below_drew1 | refine below_set ?_ GE258.out) | exact HB.out)))); have n5_ := Aside0.mk (blk_below (g := gb258) (o := .cells #[.int .i64 4, .int .i64 a0, .int .i64 0, .int .i64 0, .int .i64 0] 25 (0, 0)) (by (with_reducible repeat (first | refine blk_drewN ?_ _ | refine blk_drew ?_ | refine blk_alloc ?_ _)); exact BK258.out) hb); have n6_ := Aside0.mk (below_step (by repeat (first | (with_reducible first | exact HB.out | apply below_alloc | apply pw_below_drewN | apply below_drew1 | refine below_set ?_ GE258.out) | exact HB.out)) hb); clear HO_14; clear HO267; clear HO274; clear HO279; clear BK258; clear HB; have HO_14 := n0_; have HO267 := n1_; have HO274 := n2_; have HO279 := n3_; have HO284 := n4_; have BK258 := n5_; have HB := n6_; clear n0_ n1_ n2_ n3_ n4_ n5_ n6_; (try clear hb); (try clear hb2); (try clear hk); (try clear hi); (try clear ho0); obtain ⟨Ao45, co45, eo45⟩ := Kd.R_slice HO284.out; subst eo45; have p285 : 0 ≤ (0 : Int) := (by omega); have q285 : 0 < (t282.length : Int) := of_decide_eq_true (by first | (with_reducible assumption) | assumption); obtain ⟨ad285, e285, hx285_0⟩ := Kd.at_int (Kd.R_reads' HO284.out).2.2 0 p285 q285; cases e285; have qi285 : (0 < t282.length) = True := eq_true (by omega); (try rw [show ((0 : Int)).toNat = 0 from rfl] at hx285_0); (try rw [Addr.add_zero'] at hx285_0); replace p285 := eq_true p285; replace q285 := eq_true q285) | ((with_reducible refine gate_callee (f := 10) rfl ?_); refine goesL_ (some 92) rfl rfl Try.func10 (by kernel_rfl) rfl #[.int .i64 a0, .int .u64 (rd t282 0), .int .u64 t276] rfl (by (try simp only [List.map_toArray, List.map_cons, List.map_nil]); first | done | rfl | (simp only [List.length_drop, List.length_take]; rfl)) ?_; (with_reducible refine (trefoilref03_Sub.calls k2 a0 (rd t282 0) t276 t286 _ A35.out).mono ?_); rintro e w' ⟨rfl, ⟨nd, rfl⟩⟩; refine ⟨_, rfl, ?_⟩) | ((with_reducible refine gate_builtin (b := .append) (xs := #[.tmp 76, .tmp 93]) rfl ?_); (try (refine gate_guard (by rfl) ?_; dsimp only)); at_builtin; refine Kd.R_append (Kd.int .u64) (w0 := w) w.heap.size rfl (.tmp 76) (.tmp 93) 23 32 (.int .u64 0) 8 rfl Try.underlying23 info32 rfl (by decide) (by omega) u14 x14_2 t286 [.int .u64 t286] (fun k_ => some k_ ≠ (v278 : Value).ownBlock ∧ some k_ ≠ (.slice (some ad285) t282.length co45 : Value).ownBlock) (fun _ => False) rfl rfl ?aP (fun _ hk => hk.elim) ?aF ?aO ?aB ?aS ?aL ?_; (case aP => exact rfl); (case aB => exact (by repeat (first | (with_reducible first | exact HB.out | apply below_alloc | apply pw_below_drewN | apply below_drew1 | refine below_set ?_ GE258.out) | exact HB.out))); (case aF => exact (fun k_ hk => ⟨Kd.fresh' (Kd.R_lt (by (with_reducible repeat (first | apply Kd.R_alloc | apply Kd.R_drewN | apply Kd.R_drew)); exact HO279.out)) k_ hk, Kd.fresh' (Kd.R_lt (by (with_reducible repeat (first | apply Kd.R_alloc | apply Kd.R_drewN | apply Kd.R_drew)); exact HO284.out)) k_ hk⟩)); (case aO => exact (by (with_reducible repeat (first | apply Kd.R_alloc | apply Kd.R_drewN | apply Kd.R_drew)); exact Kd.R_mono HO_14.out (fun _ hk => ⟨hk.1.2, hk.2⟩))); (case aS => exact (below_size (by repeat (first | (with_reducible first | exact HB.out | apply below_alloc | apply pw_below_drewN | apply below_drew1 | refine below_set ?_ GE258.out) | exact HB.out)))); (case aL => have := LMc36.out; omega); intro v288 w46 ho hb hg hat; rw [← Ny287.out] at ho; have n0_ := Aside0.mk (blk_grown (g := gb258) (o := .cells #[.int .i64 4, .int .i64 a0, .int .i64 0, .int .i64 0, .int .i64 0] 25 (0, 0)) (by (with_reducible repeat (first | refine blk_drewN ?_ _ | refine blk_drew ?_ | refine blk_alloc ?_ _)); exact BK258.out) hg (Kd.R_ne HO_14.out BK258.out (by decide))); have n1_ := Aside0.mk (Kd.S_after (ok := (fun k_ => some k_ ≠ (v273 : Value).ownBlock ∧ some k_ ≠ (v278 : Value).ownBlock ∧ some k_ ≠ (.slice (some ad285) t282.length co45 : Value).ownBlock)) (by (with_reducible repeat (first | apply Kd.S_alloc | apply Kd.S_drewN | apply Kd.S_drew)); exact Kd.S_mono HO267.out (fun _ hk => ⟨⟨hk.1.1.2, ⟨hk.1.2, hk.2⟩⟩, hk.1.1.1⟩)) hg hat); have n2_ := Aside0.mk (Kd.S_after (ok := (fun k_ => some k_ ≠ (v266 : Value).ownBlock ∧ some k_ ≠ (v278 : Value).ownBlock ∧ some k_ ≠ (.slice (some ad285) t282.length co45 : Value).ownBlock)) (by (with_reducible repeat (first | apply Kd.S_alloc | apply Kd.S_drewN | apply Kd.S_drew)); exact Kd.S_mono HO274.out (fun _ hk => ⟨⟨hk.1.1.2, ⟨hk.1.2, hk.2⟩⟩, hk.1.1.1⟩)) hg hat); have n3_ := Aside0.mk (Kd.R_after (ok := (fun k_ => some k_ ≠ (.slice (some ad285) t282.length co45 : Value).ownBlock)) (by (with_reducible repeat (first | apply Kd.R_alloc | apply Kd.R_drewN | apply Kd.R_drew)); exact Kd.R_mono HO279.out (fun _ hk => ⟨hk.2, hk.1⟩)) hg hat); have n4_ := Aside0.mk (Kd.R_after (ok := (fun k_ => some k_ ≠ (v278 : Value).ownBlock)) (by (with_reducible repeat (first | apply Kd.R_alloc | apply Kd.R_drewN | apply Kd.R_drew)); exact Kd.R_mono HO284.out (fun _ hk => ⟨hk.2, hk.1.2⟩)) hg hat); have n5_ := Aside0.mk (hb); have n6_ := Aside0.mk (ho); clear BK258; clear HO267; clear HO274; clear HO279; clear HO284; clear HB; clear HO_14; have BK258 := n0_; have HO267 := n1_; have HO274 := n2_; have HO279 := n3_; have HO284 := n4_; have HB := n5_; have HO289 := n6_; clear n0_ n1_ n2_ n3_ n4_ n5_ n6_; clear ho hb hg hat))
                 go_roundg k2
                 case measure => have := HJ4.out; have := HK2.out; omega
                 case rel => exact ⟨(y265), (y272), (y277), (y287), (wrap64 (x15_2 + 1)), (by first | rfl | (simp; done) | (simp [*]; done)), H', ⟨by have := HJ4.out; have := HK2.out; omega⟩, ⟨by (with_reducible repeat (first | apply Kd.S_alloc | apply Kd.S_drewN | apply Kd.S_drew)); exact Kd.S_mono HO267.out (fun _ hk => ⟨hk.1.1, ⟨hk.1.2.1, hk.2⟩⟩)⟩, ⟨by (with_reducible repeat (first | apply Kd.S_alloc | apply Kd.S_drewN | apply Kd.S_drew)); exact Kd.S_mono HO274.out (fun _ hk => ⟨hk.1.1, ⟨hk.1.2.1, hk.2⟩⟩)⟩, ⟨by (with_reducible repeat (first | apply Kd.R_alloc | apply Kd.R_drewN | apply Kd.R_drew)); exact Kd.R_mono HO279.out (fun _ hk => hk.2)⟩, ⟨by (with_reducible repeat (first | apply Kd.R_alloc | apply Kd.R_drewN | apply Kd.R_drew)); exact Kd.R_mono HO289.out (fun _ hk => hk.1)⟩, ⟨by (with_reducible repeat (first | refine blk_drewN ?_ _ | refine blk_drew ?_ | refine blk_alloc ?_ _)); exact BK258.out⟩, ⟨by repeat (first | (with_reducible first | exact HB.out | apply below_alloc | apply pw_below_drewN | apply below_drew1 | refine below_set ?_ GE258.out) | exact HB.out)⟩⟩
                ·rw [if_neg c36] at H
                 exact absurd H (by simp)
               ·rw [if_neg c34] at H
                exact absurd H (by simp)
              ·replace c32 := Bool.eq_false_iff.mpr c32
               subst c32
               have H1 : ((trefoillaw25_number.f false).bind fun t290 => (if 0 < (t290.length : Int) then ((trefoilref03_Sub.f k2 a0 (rd t290 0) t276).bind fun t294 => (if x14_2.length < 17592186044416 then (trefoillaw25_DabitComes.l0 k2 a0 l1 l2 l3 (l1.length : Int) y265 y272 y277 (x14_2 ++ [t294]) (wrap64 (x15_2 + 1)) 4 a0 0 0 0) else (none))) else (none))) = some r := by rw [if_neg (show ¬ (false = true) by decide)] at H; exact H
               clear H
               have H := H1
               clear H1
               replace H := Option.bind_eq_some_iff.mp H
               obtain ⟨t290, A470, H⟩ := H
               replace H : (if 0 < (t290.length : Int) then ((trefoilref03_Sub.f k2 a0 (rd t290 0) t276).bind fun t294 => (if x14_2.length < 17592186044416 then (trefoillaw25_DabitComes.l0 k2 a0 l1 l2 l3 (l1.length : Int) y265 y272 y277 (x14_2 ++ [t294]) (wrap64 (x15_2 + 1)) 4 a0 0 0 0) else (none))) else (none)) = some r := H
               have A47 := Aside0.mk A470
               clear A470
               by_cases c48 : 0 < (t290.length : Int)
               ·rw [if_pos c48] at H
                have c48b0 : decide (0 < (t290.length : Int)) = true := decide_eq_true c48
                have c48b1 : decide (0 < t290.length) = true := decide_eq_true (by omega)
                clear c48
                replace H := Option.bind_eq_some_iff.mp H
                obtain ⟨t294, A490, H⟩ := H
                replace H : (if x14_2.length < 17592186044416 then (trefoillaw25_DabitComes.l0 k2 a0 l1 l2 l3 (l1.length : Int) y265 y272 y277 (x14_2 ++ [t294]) (wrap64 (x15_2 + 1)) 4 a0 0 0 0) else (none)) = some r := H
                have A49 := Aside0.mk A490
                clear A490
                by_cases c50 : x14_2.length < 17592186044416
                ·rw [if_pos c50] at H
                 have LMc50 := Aside0.mk c50
                 clear c50
                 obtain ⟨y295, hy295⟩ : ∃ y_ : List Int, y_ = (x14_2 ++ [t294]) := ⟨_, rfl⟩
                 replace H : (trefoillaw25_DabitComes.l0 k2 a0 l1 l2 l3 (l1.length : Int) y265 y272 y277 y295 (wrap64 (x15_2 + 1)) 4 a0 0 0 0) = some r := by first | (rw [hy295]; with_reducible exact H) | (have H2_ := (Option.bind_some _ _).symm.trans H; rw [hy295]; with_reducible exact H2_) | (have H2_ := (Option.bind_some _ _).symm.trans H; with_reducible exact H2_) | with_reducible exact H | (rw [hy295]; exact H) | exact H
                 have Ny295 := Aside0.mk hy295
                 clear hy295
                 have H' := Aside0.mk H
                 clear H
                 have p261 : 0 ≤ (x15_2 : Int) := of_decide_eq_true (by first | (with_reducible assumption) | assumption)
                 have q261 : x15_2 < (l1.length : Int) := of_decide_eq_true (by first | (with_reducible assumption) | assumption)
                 obtain ⟨ad261, e261, hx261_0⟩ := Kd.at_bool HR1.out x15_2 p261 q261
                 (try rw [← Nbq31.out] at hx261_0)
                 cases e261
                 replace hx261_0 := (HB.out.cell (World.block_lt_of_cell? w _ hx261_0)).trans hx261_0
                 replace p261 := eq_true p261
                 replace q261 := eq_true q261
                 go_wp2_with (first | ((with_reducible refine gate_callee (f := 8) rfl ?_); refine goesL_ (some 53) rfl rfl Try.func8 (by kernel_rfl) rfl #[.bool false] rfl (by (try simp only [List.map_toArray, List.map_cons, List.map_nil]); first | done | rfl | (simp only [List.length_drop, List.length_take]; rfl)) ?_; (with_reducible refine (trefoillaw25_number.calls false t262 _ A23.out).mono ?_); rintro e w51 ⟨v263, rfl, ho0, hb⟩; refine ⟨_, rfl, ?_⟩; have n0_ := Aside0.mk (Kd.S_elder' (by (with_reducible repeat (first | apply Kd.S_alloc | apply Kd.S_drewN | apply Kd.S_drew)); exact HO_11.out) (Kd.R_base ho0) hb); have n1_ := Aside0.mk (Kd.S_elder' (by (with_reducible repeat (first | apply Kd.S_alloc | apply Kd.S_drewN | apply Kd.S_drew)); exact HO_12.out) (Kd.R_base ho0) hb); have n2_ := Aside0.mk (Kd.R_elder' (by (with_reducible repeat (first | apply Kd.R_alloc | apply Kd.R_drewN | apply Kd.R_drew)); exact HO_13.out) (Kd.R_base ho0) hb); have n3_ := Aside0.mk (Kd.R_elder' (by (with_reducible repeat (first | apply Kd.R_alloc | apply Kd.R_drewN | apply Kd.R_drew)); exact HO_14.out) (Kd.R_base ho0) hb); have n4_ := Aside0.mk (Kd.R_lower (Kd.R_new' (Kd.R_new' ho0 (Kd.R_lt (by (with_reducible repeat (first | apply Kd.R_alloc | apply Kd.R_drewN | apply Kd.R_drew)); exact HO_13.out))) (Kd.R_lt (by (with_reducible repeat (first | apply Kd.R_alloc | apply Kd.R_drewN | apply Kd.R_drew)); exact HO_14.out))) (below_size (by repeat (first | (with_reducible first | exact HB.out | apply below_alloc | apply pw_below_drewN | apply below_drew1 | refine below_set ?_ GE258.out) | exact HB.out)))); have n5_ := Aside0.mk (blk_below (g := gb258) (o := .cells #[.int .i64 4, .int .i64 a0, .int .i64 0, .int .i64 0, .int .i64 0] 25 (0, 0)) (by (with_reducible repeat (first | refine blk_drewN ?_ _ | refine blk_drew ?_ | refine blk_alloc ?_ _)); exact BK258.out) hb); have n6_ := Aside0.mk (below_step (by repeat (first | (with_reducible first | exact HB.out | apply below_alloc | apply pw_below_drewN | apply below_drew1 | refine below_set ?_ GE258.out) | exact HB.out)) hb); clear HO_11; clear HO_12; clear HO_13; clear HO_14; clear BK258; clear HB; have HO_11 := n0_; have HO_12 := n1_; have HO_13 := n2_; have HO_14 := n3_; have HO264 := n4_; have BK258 := n5_; have HB := n6_; clear n0_ n1_ n2_ n3_ n4_ n5_ n6_; (try clear hb); (try clear hb2); (try clear hk); (try clear hi); (try clear ho0); obtain ⟨Ao52, co52, eo52⟩ := Kd.R_slice HO264.out; subst eo52) | ((with_reducible refine gate_builtin (b := .append) (xs := #[.tmp 48, .tmp 55]) rfl ?_); (try (refine gate_guard (by rfl) ?_; dsimp only)); at_builtin; refine Kd.S_append k31 (w0 := w) w.heap.size rfl (.tmp 48) (.tmp 55) 28 31 (.agg #[(.slice none 0 0), (.slice none 0 0), (.slice none 0 0)]) 72 rfl Try.underlying28 info31 rfl (by decide) (by omega) u11 x11_2 (⟨t262, ([] : List Int), ([] : List Int)⟩ : S31) [.slice Ao52 t262.length co52, .slice none 0 0, .slice none 0 0] (fun k_ => some k_ ≠ (u12 : Value).ownBlock ∧ some k_ ≠ (u13 : Value).ownBlock ∧ some k_ ≠ (u14 : Value).ownBlock) (fun k_ => some k_ = (.slice Ao52 t262.length co52 : Value).ownBlock) rfl rfl ?aP (fun k_ hk_ => ((Kd.R_mono (ok' := fun k_ => ((fun k_ => some k_ ≠ (u12 : Value).ownBlock ∧ some k_ ≠ (u13 : Value).ownBlock ∧ some k_ ≠ (u14 : Value).ownBlock)) k_ ∧ some k_ ≠ (u11 : Value).ownBlock) (Kd.R_apart' (Kd.R_apart' (HO264.out) (Kd.S_typed HO_12.out) (by decide)) (Kd.S_typed HO_11.out) (by decide)) (fun k_ hk => ⟨⟨hk.1.2, ⟨hk.1.1.1.2, hk.1.1.2⟩⟩, hk.2⟩))).1 k_ hk_.symm) ?aF ?aO ?aB ?aS ?aL ?_; (case aP => exact k31_mkM _ _ _ (⟨t262, ([] : List Int), ([] : List Int)⟩ : S31) (Kd.R_mono (Kd.R_tight rfl (Kd.R_mono (ok' := fun k_ => ((fun k_ => some k_ ≠ (u12 : Value).ownBlock ∧ some k_ ≠ (u13 : Value).ownBlock ∧ some k_ ≠ (u14 : Value).ownBlock)) k_ ∧ some k_ ≠ (u11 : Value).ownBlock) (Kd.R_apart' (Kd.R_apart' (HO264.out) (Kd.S_typed HO_12.out) (by decide)) (Kd.S_typed HO_11.out) (by decide)) (fun k_ hk => ⟨⟨hk.1.2, ⟨hk.1.1.1.2, hk.1.1.2⟩⟩, hk.2⟩))) (fun _ h_ => h_)) (Kd.R_nil _ _ _ _ _) (Kd.R_nil _ _ _ _ _)); (case aB => exact (by repeat (first | (with_reducible first | exact HB.out | apply below_alloc | apply pw_below_drewN | apply below_drew1 | refine below_set ?_ GE258.out) | exact HB.out))); (case aF => exact (fun k_ hk => ⟨Kd.fresh' (Kd.S_lt (by (with_reducible repeat (first | apply Kd.S_alloc | apply Kd.S_drewN | apply Kd.S_drew)); exact HO_12.out)) k_ hk, Kd.fresh' (Kd.R_lt (by (with_reducible repeat (first | apply Kd.R_alloc | apply Kd.R_drewN | apply Kd.R_drew)); exact HO_13.out)) k_ hk, Kd.fresh' (Kd.R_lt (by (with_reducible repeat (first | apply Kd.R_alloc | apply Kd.R_drewN | apply Kd.R_drew)); exact HO_14.out)) k_ hk⟩)); (case aO => exact (by (with_reducible repeat (first | apply Kd.S_alloc | apply Kd.S_drewN | apply Kd.S_drew)); exact Kd.S_mono HO_11.out (fun k_ hk => ⟨⟨hk.1.1, ⟨hk.1.2.1, hk.1.2.2⟩⟩, fun e_ => hk.2 e_⟩))); (case aS => exact (below_size (by repeat (first | (with_reducible first | exact HB.out | apply below_alloc | apply pw_below_drewN | apply below_drew1 | refine below_set ?_ GE258.out) | exact HB.out)))); (case aL => have := LMc24.out; omega); intro v266 w53 ho hb hg hat; rw [← Ny265.out] at ho; have n0_ := Aside0.mk (Kd.S_after (ok := (fun k_ => some k_ ≠ (u13 : Value).ownBlock ∧ some k_ ≠ (u14 : Value).ownBlock ∧ some k_ ≠ (.slice Ao52 t262.length co52 : Value).ownBlock)) (by (with_reducible repeat (first | apply Kd.S_alloc | apply Kd.S_drewN | apply Kd.S_drew)); exact Kd.S_mono HO_12.out (fun _ hk => ⟨⟨hk.1.2.1, ⟨hk.1.2.2, hk.2⟩⟩, hk.1.1⟩)) hg hat); have n1_ := Aside0.mk (Kd.R_over' (by (with_reducible repeat (first | apply Kd.R_alloc | apply Kd.R_drewN | apply Kd.R_drew)); exact HO_13.out) (Kd.S_typed (by (with_reducible repeat (first | apply Kd.S_alloc | apply Kd.S_drewN | apply Kd.S_drew)); exact HO_11.out)) (by decide) hg); have n2_ := Aside0.mk (Kd.R_over' (by (with_reducible repeat (first | apply Kd.R_alloc | apply Kd.R_drewN | apply Kd.R_drew)); exact HO_14.out) (Kd.S_typed (by (with_reducible repeat (first | apply Kd.S_alloc | apply Kd.S_drewN | apply Kd.S_drew)); exact HO_11.out)) (by decide) hg); have n3_ := Aside0.mk (blk_grown (g := gb258) (o := .cells #[.int .i64 4, .int .i64 a0, .int .i64 0, .int .i64 0, .int .i64 0] 25 (0, 0)) (by (with_reducible repeat (first | refine blk_drewN ?_ _ | refine blk_drew ?_ | refine blk_alloc ?_ _)); exact BK258.out) hg (Kd.S_ne HO_11.out BK258.out (by decide))); have n4_ := Aside0.mk (hb); have n5_ := Aside0.mk (ho); clear HO_12; clear HO_13; clear HO_14; clear BK258; clear HB; clear HO_11; clear HO264; have HO_12 := n0_; have HO_13 := n1_; have HO_14 := n2_; have BK258 := n3_; have HB := n4_; have HO267 := n5_; clear n0_ n1_ n2_ n3_ n4_ n5_; clear ho hb hg hat; have p268 : 0 ≤ (x15_2 : Int) := of_decide_eq_true (by first | (with_reducible assumption) | assumption); have q268 : x15_2 < (l2.length : Int) := of_decide_eq_true (by first | (with_reducible assumption) | assumption); obtain ⟨ad268, e268, hx268_0⟩ := Kd.at_bool HR2.out x15_2 p268 q268; (try rw [← Nbq31.out] at hx268_0); cases e268; replace hx268_0 := (HB.out.cell (World.block_lt_of_cell? w _ hx268_0)).trans hx268_0; replace p268 := eq_true p268; replace q268 := eq_true q268) | ((with_reducible refine gate_callee (f := 8) rfl ?_); refine goesL_ (some 62) rfl rfl Try.func8 (by kernel_rfl) rfl #[.bool (rdOf false l2 x15_2)] rfl (by (try simp only [List.map_toArray, List.map_cons, List.map_nil]); first | done | rfl | (simp only [List.length_drop, List.length_take]; rfl)) ?_; (with_reducible refine (trefoillaw25_number.calls (rdOf false l2 x15_2) t269 _ A26.out).mono ?_); rintro e w54 ⟨v270, rfl, ho0, hb⟩; refine ⟨_, rfl, ?_⟩; have n0_ := Aside0.mk (Kd.S_elder' (by (with_reducible repeat (first | apply Kd.S_alloc | apply Kd.S_drewN | apply Kd.S_drew)); exact HO_12.out) (Kd.R_base ho0) hb); have n1_ := Aside0.mk (Kd.R_elder' (by (with_reducible repeat (first | apply Kd.R_alloc | apply Kd.R_drewN | apply Kd.R_drew)); exact HO_13.out) (Kd.R_base ho0) hb); have n2_ := Aside0.mk (Kd.R_elder' (by (with_reducible repeat (first | apply Kd.R_alloc | apply Kd.R_drewN | apply Kd.R_drew)); exact HO_14.out) (Kd.R_base ho0) hb); have n3_ := Aside0.mk (Kd.S_elder' (by (with_reducible repeat (first | apply Kd.S_alloc | apply Kd.S_drewN | apply Kd.S_drew)); exact HO267.out) (Kd.R_base ho0) hb); have n4_ := Aside0.mk (Kd.R_lower (Kd.R_new' (Kd.R_new' ho0 (Kd.R_lt (by (with_reducible repeat (first | apply Kd.R_alloc | apply Kd.R_drewN | apply Kd.R_drew)); exact HO_13.out))) (Kd.R_lt (by (with_reducible repeat (first | apply Kd.R_alloc | apply Kd.R_drewN | apply Kd.R_drew)); exact HO_14.out))) (below_size (by repeat (first | (with_reducible first | exact HB.out | apply below_alloc | apply pw_below_drewN | apply below_drew1 | refine below_set ?_ GE258.out) | exact HB.out)))); have n5_ := Aside0.mk (blk_below (g := gb258) (o := .cells #[.int .i64 4, .int .i64 a0, .int .i64 0, .int .i64 0, .int .i64 0] 25 (0, 0)) (by (with_reducible repeat (first | refine blk_drewN ?_ _ | refine blk_drew ?_ | refine blk_alloc ?_ _)); exact BK258.out) hb); have n6_ := Aside0.mk (below_step (by repeat (first | (with_reducible first | exact HB.out | apply below_alloc | apply pw_below_drewN | apply below_drew1 | refine below_set ?_ GE258.out) | exact HB.out)) hb); clear HO_12; clear HO_13; clear HO_14; clear HO267; clear BK258; clear HB; have HO_12 := n0_; have HO_13 := n1_; have HO_14 := n2_; have HO267 := n3_; have HO271 := n4_; have BK258 := n5_; have HB := n6_; clear n0_ n1_ n2_ n3_ n4_ n5_ n6_; (try clear hb); (try clear hb2); (try clear hk); (try clear hi); (try clear ho0); obtain ⟨Ao55, co55, eo55⟩ := Kd.R_slice HO271.out; subst eo55) | ((with_reducible refine gate_builtin (b := .append) (xs := #[.tmp 57, .tmp 64]) rfl ?_); (try (refine gate_guard (by rfl) ?_; dsimp only)); at_builtin; refine Kd.S_append k31 (w0 := w) w.heap.size rfl (.tmp 57) (.tmp 64) 28 31 (.agg #[(.slice none 0 0), (.slice none 0 0), (.slice none 0 0)]) 72 rfl Try.underlying28 info31 rfl (by decide) (by omega) u12 x12_2 (⟨t269, ([] : List Int), ([] : List Int)⟩ : S31) [.slice Ao55 t269.length co55, .slice none 0 0, .slice none 0 0] (fun k_ => some k_ ≠ (u13 : Value).ownBlock ∧ some k_ ≠ (u14 : Value).ownBlock ∧ some k_ ≠ (v266 : Value).ownBlock) (fun k_ => some k_ = (.slice Ao55 t269.length co55 : Value).ownBlock) rfl rfl ?aP (fun k_ hk_ => ((Kd.R_mono (ok' := fun k_ => ((fun k_ => some k_ ≠ (u13 : Value).ownBlock ∧ some k_ ≠ (u14 : Value).ownBlock ∧ some k_ ≠ (v266 : Value).ownBlock)) k_ ∧ some k_ ≠ (u12 : Value).ownBlock) (Kd.R_apart' (Kd.R_apart' (HO271.out) (Kd.S_typed HO267.out) (by decide)) (Kd.S_typed HO_12.out) (by decide)) (fun k_ hk => ⟨⟨hk.1.1.1.2, ⟨hk.1.1.2, hk.1.2⟩⟩, hk.2⟩))).1 k_ hk_.symm) ?aF ?aO ?aB ?aS ?aL ?_; (case aP => exact k31_mkM _ _ _ (⟨t269, ([] : List Int), ([] : List Int)⟩ : S31) (Kd.R_mono (Kd.R_tight rfl (Kd.R_mono (ok' := fun k_ => ((fun k_ => some k_ ≠ (u13 : Value).ownBlock ∧ some k_ ≠ (u14 : Value).ownBlock ∧ some k_ ≠ (v266 : Value).ownBlock)) k_ ∧ some k_ ≠ (u12 : Value).ownBlock) (Kd.R_apart' (Kd.R_apart' (HO271.out) (Kd.S_typed HO267.out) (by decide)) (Kd.S_typed HO_12.out) (by decide)) (fun k_ hk => ⟨⟨hk.1.1.1.2, ⟨hk.1.1.2, hk.1.2⟩⟩, hk.2⟩))) (fun _ h_ => h_)) (Kd.R_nil _ _ _ _ _) (Kd.R_nil _ _ _ _ _)); (case aB => exact (by repeat (first | (with_reducible first | exact HB.out | apply below_alloc | apply pw_below_drewN | apply below_drew1 | refine below_set ?_ GE258.out) | exact HB.out))); (case aF => exact (fun k_ hk => ⟨Kd.fresh' (Kd.R_lt (by (with_reducible repeat (first | apply Kd.R_alloc | apply Kd.R_drewN | apply Kd.R_drew)); exact HO_13.out)) k_ hk, Kd.fresh' (Kd.R_lt (by (with_reducible repeat (first | apply Kd.R_alloc | apply Kd.R_drewN | apply Kd.R_drew)); exact HO_14.out)) k_ hk, Kd.fresh' (Kd.S_lt (by (with_reducible repeat (first | apply Kd.S_alloc | apply Kd.S_drewN | apply Kd.S_drew)); exact HO267.out)) k_ hk⟩)); (case aO => exact (by (with_reducible repeat (first | apply Kd.S_alloc | apply Kd.S_drewN | apply Kd.S_drew)); exact Kd.S_mono HO_12.out (fun k_ hk => ⟨⟨hk.1.1.1, ⟨hk.1.1.2.1, hk.1.2⟩⟩, fun e_ => hk.2 e_⟩))); (case aS => exact (below_size (by repeat (first | (with_reducible first | exact HB.out | apply below_alloc | apply pw_below_drewN | apply below_drew1 | refine below_set ?_ GE258.out) | exact HB.out)))); (case aL => have := LMc27.out; omega); intro v273 w56 ho hb hg hat; rw [← Ny272.out] at ho; have n0_ := Aside0.mk (Kd.R_over' (by (with_reducible repeat (first | apply Kd.R_alloc | apply Kd.R_drewN | apply Kd.R_drew)); exact HO_13.out) (Kd.S_typed (by (with_reducible repeat (first | apply Kd.S_alloc | apply Kd.S_drewN | apply Kd.S_drew)); exact HO_12.out)) (by decide) hg); have n1_ := Aside0.mk (Kd.R_over' (by (with_reducible repeat (first | apply Kd.R_alloc | apply Kd.R_drewN | apply Kd.R_drew)); exact HO_14.out) (Kd.S_typed (by (with_reducible repeat (first | apply Kd.S_alloc | apply Kd.S_drewN | apply Kd.S_drew)); exact HO_12.out)) (by decide) hg); have n2_ := Aside0.mk (blk_grown (g := gb258) (o := .cells #[.int .i64 4, .int .i64 a0, .int .i64 0, .int .i64 0, .int .i64 0] 25 (0, 0)) (by (with_reducible repeat (first | refine blk_drewN ?_ _ | refine blk_drew ?_ | refine blk_alloc ?_ _)); exact BK258.out) hg (Kd.S_ne HO_12.out BK258.out (by decide))); have n3_ := Aside0.mk (Kd.S_after (ok := (fun k_ => some k_ ≠ (u13 : Value).ownBlock ∧ some k_ ≠ (u14 : Value).ownBlock ∧ some k_ ≠ (.slice Ao55 t269.length co55 : Value).ownBlock)) (by (with_reducible repeat (first | apply Kd.S_alloc | apply Kd.S_drewN | apply Kd.S_drew)); exact Kd.S_mono HO267.out (fun _ hk => ⟨⟨hk.1.2.1, ⟨hk.1.2.2, hk.2⟩⟩, hk.1.1⟩)) hg hat); have n4_ := Aside0.mk (hb); have n5_ := Aside0.mk (ho); clear HO_13; clear HO_14; clear BK258; clear HO267; clear HB; clear HO_12; clear HO271; have HO_13 := n0_; have HO_14 := n1_; have BK258 := n2_; have HO267 := n3_; have HB := n4_; have HO274 := n5_; clear n0_ n1_ n2_ n3_ n4_ n5_; clear ho hb hg hat; have p275 : 0 ≤ (x15_2 : Int) := of_decide_eq_true (by first | (with_reducible assumption) | assumption); have q275 : x15_2 < (l3.length : Int) := of_decide_eq_true (by first | (with_reducible assumption) | assumption); obtain ⟨ad275, e275, hx275_0⟩ := Kd.at_int HR3.out x15_2 p275 q275; cases e275; replace hx275_0 := (HB.out.cell (World.block_lt_of_cell? w _ hx275_0)).trans hx275_0; replace p275 := eq_true p275; replace q275 := eq_true q275) | ((with_reducible refine gate_callee (f := 9) rfl ?_); refine goesL_ (some 71) rfl rfl Try.func9 (by kernel_rfl) rfl #[.int .i64 a0, .int .u64 (rd l3 x15_2)] rfl (by (try simp only [List.map_toArray, List.map_cons, List.map_nil]); first | done | rfl | (simp only [List.length_drop, List.length_take]; rfl)) ?_; (with_reducible refine (trefoilref03_Fit.calls k2 a0 (rd l3 x15_2) t276 _ A29.out).mono ?_); rintro e w' ⟨rfl, ⟨nd, rfl⟩⟩; refine ⟨_, rfl, ?_⟩) | ((with_reducible refine gate_builtin (b := .append) (xs := #[.tmp 72, .tmp 74]) rfl ?_); (try (refine gate_guard (by rfl) ?_; dsimp only)); at_builtin; refine Kd.R_append (Kd.int .u64) (w0 := w) w.heap.size rfl (.tmp 72) (.tmp 74) 23 32 (.int .u64 0) 8 rfl Try.underlying23 info32 rfl (by decide) (by omega) u13 x13_2 t276 [.int .u64 t276] (fun k_ => some k_ ≠ (u14 : Value).ownBlock) (fun _ => False) rfl rfl ?aP (fun _ hk => hk.elim) ?aF ?aO ?aB ?aS ?aL ?_; (case aP => exact rfl); (case aB => exact (by repeat (first | (with_reducible first | exact HB.out | apply below_alloc | apply pw_below_drewN | apply below_drew1 | refine below_set ?_ GE258.out) | exact HB.out))); (case aF => exact (fun k_ hk => Kd.fresh' (Kd.R_lt (by (with_reducible repeat (first | apply Kd.R_alloc | apply Kd.R_drewN | apply Kd.R_drew)); exact HO_14.out)) k_ hk)); (case aO => exact (by (with_reducible repeat (first | apply Kd.R_alloc | apply Kd.R_drewN | apply Kd.R_drew)); exact Kd.R_mono HO_13.out (fun _ hk => hk.1.1))); (case aS => exact (below_size (by repeat (first | (with_reducible first | exact HB.out | apply below_alloc | apply pw_below_drewN | apply below_drew1 | refine below_set ?_ GE258.out) | exact HB.out)))); (case aL => have := LMc30.out; omega); intro v278 w57 ho hb hg hat; rw [← Ny277.out] at ho; have n0_ := Aside0.mk (Kd.R_after (ok := (fun _ => True)) (by (with_reducible repeat (first | apply Kd.R_alloc | apply Kd.R_drewN | apply Kd.R_drew)); exact Kd.R_mono HO_14.out (fun _ hk => ⟨trivial, hk.1.1⟩)) hg hat); have n1_ := Aside0.mk (blk_grown (g := gb258) (o := .cells #[.int .i64 4, .int .i64 a0, .int .i64 0, .int .i64 0, .int .i64 0] 25 (0, 0)) (by (with_reducible repeat (first | refine blk_drewN ?_ _ | refine blk_drew ?_ | refine blk_alloc ?_ _)); exact BK258.out) hg (Kd.R_ne HO_13.out BK258.out (by decide))); have n2_ := Aside0.mk (Kd.S_after (ok := (fun k_ => some k_ ≠ (u14 : Value).ownBlock ∧ some k_ ≠ (v273 : Value).ownBlock)) (by (with_reducible repeat (first | apply Kd.S_alloc | apply Kd.S_drewN | apply Kd.S_drew)); exact Kd.S_mono HO267.out (fun _ hk => ⟨⟨hk.1.2.1, hk.2⟩, hk.1.1⟩)) hg hat); have n3_ := Aside0.mk (Kd.S_after (ok := (fun k_ => some k_ ≠ (u14 : Value).ownBlock ∧ some k_ ≠ (v266 : Value).ownBlock)) (by (with_reducible repeat (first | apply Kd.S_alloc | apply Kd.S_drewN | apply Kd.S_drew)); exact Kd.S_mono HO274.out (fun _ hk => ⟨⟨hk.2.1, hk.2.2⟩, hk.1⟩)) hg hat); have n4_ := Aside0.mk (hb); have n5_ := Aside0.mk (ho); clear HO_14; clear BK258; clear HO267; clear HO274; clear HB; clear HO_13; have HO_14 := n0_; have BK258 := n1_; have HO267 := n2_; have HO274 := n3_; have HB := n4_; have HO279 := n5_; clear n0_ n1_ n2_ n3_ n4_ n5_; clear ho hb hg hat; have p280 : 0 ≤ (x15_2 : Int) := of_decide_eq_true (by first | (with_reducible assumption) | assumption); have q280 : x15_2 < (l1.length : Int) := of_decide_eq_true (by first | (with_reducible assumption) | assumption); obtain ⟨ad280, e280, hx280_0⟩ := Kd.at_bool HR1.out x15_2 p280 q280; (try rw [← Nbq31.out] at hx280_0); obtain rfl : ad261 = ad280 := (by injection e280); replace hx280_0 := (HB.out.cell (World.block_lt_of_cell? w _ hx280_0)).trans hx280_0; replace p280 := eq_true p280; replace q280 := eq_true q280) | ((with_reducible refine gate_callee (f := 8) rfl ?_); refine goesL_ (some 88) rfl rfl Try.func8 (by kernel_rfl) rfl #[.bool false] rfl (by (try simp only [List.map_toArray, List.map_cons, List.map_nil]); first | done | rfl | (simp only [List.length_drop, List.length_take]; rfl)) ?_; (with_reducible refine (trefoillaw25_number.calls false t290 _ A47.out).mono ?_); rintro e w58 ⟨v291, rfl, ho0, hb⟩; refine ⟨_, rfl, ?_⟩; have n0_ := Aside0.mk (Kd.R_elder' (by (with_reducible repeat (first | apply Kd.R_alloc | apply Kd.R_drewN | apply Kd.R_drew)); exact HO_14.out) (Kd.R_base ho0) hb); have n1_ := Aside0.mk (Kd.S_elder' (by (with_reducible repeat (first | apply Kd.S_alloc | apply Kd.S_drewN | apply Kd.S_drew)); exact HO267.out) (Kd.R_base ho0) hb); have n2_ := Aside0.mk (Kd.S_elder' (by (with_reducible repeat (first | apply Kd.S_alloc | apply Kd.S_drewN | apply Kd.S_drew)); exact HO274.out) (Kd.R_base ho0) hb); have n3_ := Aside0.mk (Kd.R_elder' (by (with_reducible repeat (first | apply Kd.R_alloc | apply Kd.R_drewN | apply Kd.R_drew)); exact HO279.out) (Kd.R_base ho0) hb); have n4_ := Aside0.mk (Kd.R_lower (Kd.R_new' (Kd.R_new' ho0 (Kd.R_lt (by (with_reducible repeat (first | apply Kd.R_alloc | apply Kd.R_drewN | apply Kd.R_drew)); exact HO_14.out))) (Kd.R_lt (by (with_reducible repeat (first | apply Kd.R_alloc | apply Kd.R_drewN | apply Kd.R_drew)); exact HO279.out))) (below_size (by repeat (first | (with_reducible first | exact HB.out | apply below_alloc | apply pw_below_drewN | apply below_drew1 | refine below_set ?_ GE258.out) | exact HB.out)))); have n5_ := Aside0.mk (blk_below (g := gb258) (o := .cells #[.int .i64 4, .int .i64 a0, .int .i64 0, .int .i64 0, .int .i64 0] 25 (0, 0)) (by (with_reducible repeat (first | refine blk_drewN ?_ _ | refine blk_drew ?_ | refine blk_alloc ?_ _)); exact BK258.out) hb); have n6_ := Aside0.mk (below_step (by repeat (first | (with_reducible first | exact HB.out | apply below_alloc | apply pw_below_drewN | apply below_drew1 | refine below_set ?_ GE258.out) | exact HB.out)) hb); clear HO_14; clear HO267; clear HO274; clear HO279; clear BK258; clear HB; have HO_14 := n0_; have HO267 := n1_; have HO274 := n2_; have HO279 := n3_; have HO292 := n4_; have BK258 := n5_; have HB := n6_; clear n0_ n1_ n2_ n3_ n4_ n5_ n6_; (try clear hb); (try clear hb2); (try clear hk); (try clear hi); (try clear ho0); obtain ⟨Ao59, co59, eo59⟩ := Kd.R_slice HO292.out; subst eo59; have p293 : 0 ≤ (0 : Int) := (by omega); have q293 : 0 < (t290.length : Int) := of_decide_eq_true (by first | (with_reducible assumption) | assumption); obtain ⟨ad293, e293, hx293_0⟩ := Kd.at_int (Kd.R_reads' HO292.out).2.2 0 p293 q293; cases e293; have qi293 : (0 < t290.length) = True := eq_true (by omega); (try rw [show ((0 : Int)).toNat = 0 from rfl] at hx293_0); (try rw [Addr.add_zero'] at hx293_0); replace p293 := eq_true p293; replace q293 := eq_true q293) | ((with_reducible refine gate_callee (f := 10) rfl ?_); refine goesL_ (some 92) rfl rfl Try.func10 (by kernel_rfl) rfl #[.int .i64 a0, .int .u64 (rd t290 0), .int .u64 t276] rfl (by (try simp only [List.map_toArray, List.map_cons, List.map_nil]); first | done | rfl | (simp only [List.length_drop, List.length_take]; rfl)) ?_; (with_reducible refine (trefoilref03_Sub.calls k2 a0 (rd t290 0) t276 t294 _ A49.out).mono ?_); rintro e w' ⟨rfl, ⟨nd, rfl⟩⟩; refine ⟨_, rfl, ?_⟩) | ((with_reducible refine gate_builtin (b := .append) (xs := #[.tmp 76, .tmp 93]) rfl ?_); (try (refine gate_guard (by rfl) ?_; dsimp only)); at_builtin; refine Kd.R_append (Kd.int .u64) (w0 := w) w.heap.size rfl (.tmp 76) (.tmp 93) 23 32 (.int .u64 0) 8 rfl Try.underlying23 info32 rfl (by decide) (by omega) u14 x14_2 t294 [.int .u64 t294] (fun k_ => some k_ ≠ (v278 : Value).ownBlock ∧ some k_ ≠ (.slice (some ad293) t290.length co59 : Value).ownBlock) (fun _ => False) rfl rfl ?aP (fun _ hk => hk.elim) ?aF ?aO ?aB ?aS ?aL ?_; (case aP => exact rfl); (case aB => exact (by repeat (first | (with_reducible first | exact HB.out | apply below_alloc | apply pw_below_drewN | apply below_drew1 | refine below_set ?_ GE258.out) | exact HB.out))); (case aF => exact (fun k_ hk => ⟨Kd.fresh' (Kd.R_lt (by (with_reducible repeat (first | apply Kd.R_alloc | apply Kd.R_drewN | apply Kd.R_drew)); exact HO279.out)) k_ hk, Kd.fresh' (Kd.R_lt (by (with_reducible repeat (first | apply Kd.R_alloc | apply Kd.R_drewN | apply Kd.R_drew)); exact HO292.out)) k_ hk⟩)); (case aO => exact (by (with_reducible repeat (first | apply Kd.R_alloc | apply Kd.R_drewN | apply Kd.R_drew)); exact Kd.R_mono HO_14.out (fun _ hk => ⟨hk.1.2, hk.2⟩))); (case aS => exact (below_size (by repeat (first | (with_reducible first | exact HB.out | apply below_alloc | apply pw_below_drewN | apply below_drew1 | refine below_set ?_ GE258.out) | exact HB.out)))); (case aL => have := LMc50.out; omega); intro v296 w60 ho hb hg hat; rw [← Ny295.out] at ho; have n0_ := Aside0.mk (blk_grown (g := gb258) (o := .cells #[.int .i64 4, .int .i64 a0, .int .i64 0, .int .i64 0, .int .i64 0] 25 (0, 0)) (by (with_reducible repeat (first | refine blk_drewN ?_ _ | refine blk_drew ?_ | refine blk_alloc ?_ _)); exact BK258.out) hg (Kd.R_ne HO_14.out BK258.out (by decide))); have n1_ := Aside0.mk (Kd.S_after (ok := (fun k_ => some k_ ≠ (v273 : Value).ownBlock ∧ some k_ ≠ (v278 : Value).ownBlock ∧ some k_ ≠ (.slice (some ad293) t290.length co59 : Value).ownBlock)) (by (with_reducible repeat (first | apply Kd.S_alloc | apply Kd.S_drewN | apply Kd.S_drew)); exact Kd.S_mono HO267.out (fun _ hk => ⟨⟨hk.1.1.2, ⟨hk.1.2, hk.2⟩⟩, hk.1.1.1⟩)) hg hat); have n2_ := Aside0.mk (Kd.S_after (ok := (fun k_ => some k_ ≠ (v266 : Value).ownBlock ∧ some k_ ≠ (v278 : Value).ownBlock ∧ some k_ ≠ (.slice (some ad293) t290.length co59 : Value).ownBlock)) (by (with_reducible repeat (first | apply Kd.S_alloc | apply Kd.S_drewN | apply Kd.S_drew)); exact Kd.S_mono HO274.out (fun _ hk => ⟨⟨hk.1.1.2, ⟨hk.1.2, hk.2⟩⟩, hk.1.1.1⟩)) hg hat); have n3_ := Aside0.mk (Kd.R_after (ok := (fun k_ => some k_ ≠ (.slice (some ad293) t290.length co59 : Value).ownBlock)) (by (with_reducible repeat (first | apply Kd.R_alloc | apply Kd.R_drewN | apply Kd.R_drew)); exact Kd.R_mono HO279.out (fun _ hk => ⟨hk.2, hk.1⟩)) hg hat); have n4_ := Aside0.mk (Kd.R_after (ok := (fun k_ => some k_ ≠ (v278 : Value).ownBlock)) (by (with_reducible repeat (first | apply Kd.R_alloc | apply Kd.R_drewN | apply Kd.R_drew)); exact Kd.R_mono HO292.out (fun _ hk => ⟨hk.2, hk.1.2⟩)) hg hat); have n5_ := Aside0.mk (hb); have n6_ := Aside0.mk (ho); clear BK258; clear HO267; clear HO274; clear HO279; clear HO292; clear HB; clear HO_14; have BK258 := n0_; have HO267 := n1_; have HO274 := n2_; have HO279 := n3_; have HO292 := n4_; have HB := n5_; have HO297 := n6_; clear n0_ n1_ n2_ n3_ n4_ n5_ n6_; clear ho hb hg hat))
                 go_roundg k2
                 case measure => have := HJ4.out; have := HK2.out; omega
                 case rel => exact ⟨(y265), (y272), (y277), (y295), (wrap64 (x15_2 + 1)), (by first | rfl | (simp; done) | (simp [*]; done)), H', ⟨by have := HJ4.out; have := HK2.out; omega⟩, ⟨by (with_reducible repeat (first | apply Kd.S_alloc | apply Kd.S_drewN | apply Kd.S_drew)); exact Kd.S_mono HO267.out (fun _ hk => ⟨hk.1.1, ⟨hk.1.2.1, hk.2⟩⟩)⟩, ⟨by (with_reducible repeat (first | apply Kd.S_alloc | apply Kd.S_drewN | apply Kd.S_drew)); exact Kd.S_mono HO274.out (fun _ hk => ⟨hk.1.1, ⟨hk.1.2.1, hk.2⟩⟩)⟩, ⟨by (with_reducible repeat (first | apply Kd.R_alloc | apply Kd.R_drewN | apply Kd.R_drew)); exact Kd.R_mono HO279.out (fun _ hk => hk.2)⟩, ⟨by (with_reducible repeat (first | apply Kd.R_alloc | apply Kd.R_drewN | apply Kd.R_drew)); exact Kd.R_mono HO297.out (fun _ hk => hk.1)⟩, ⟨by (with_reducible repeat (first | refine blk_drewN ?_ _ | refine blk_drew ?_ | refine blk_alloc ?_ _)); exact BK258.out⟩, ⟨by repeat (first | (with_reducible first | exact HB.out | apply below_alloc | apply pw_below_drewN | apply below_drew1 | refine below_set ?_ GE258.out) | exact HB.out)⟩⟩
                ·rw [if_neg c50] at H
                 exact absurd H (by simp)
               ·rw [if_neg c48] at H
                exact absurd H (by simp)
             ·rw [if_neg c30] at H
              exact absurd H (by simp)
            ·rw [if_neg c28] at H
             exact absurd H (by simp)
           ·rw [if_neg c27] at H
            exact absurd H (by simp)
          ·rw [if_neg c25] at H
           exact absurd H (by simp)
         ·rw [if_neg c24] at H
          exact absurd H (by simp)
        ·rw [if_neg c22] at H
         exact absurd H (by simp)
       ·rw [if_neg c21] at H
        exact absurd H (by simp)
      ·rw [if_neg c20] at H
       have c20b0 : decide (x15_2 < (l1.length : Int)) = false := decide_eq_false c20
       clear c20
       replace H := Option.bind_eq_some_iff.mp H
       obtain ⟨⟨t298, t301⟩, A610, H⟩ := H
       replace H : ((dabit_Finish.f k2 4 a0 0 0 0 x12_2 x14_2).bind fun bt302 => (if t301 = 0 then (if bt302.2 = t301 then (if (t298.length : Int) = (l1.length : Int) then (trefoillaw25_DabitComes.j2 k2 a0 (l1.length : Int) t298 bt302.1 ((bt302.1.length : Int) != (l1.length : Int)) 4 a0 0 0 0) else (trefoillaw25_DabitComes.j2 k2 a0 (l1.length : Int) t298 bt302.1 true 4 a0 0 0 0)) else (trefoillaw25_DabitComes.j2 k2 a0 (l1.length : Int) t298 bt302.1 true 4 a0 0 0 0)) else (trefoillaw25_DabitComes.j2 k2 a0 (l1.length : Int) t298 bt302.1 true 4 a0 0 0 0))) = some r := H
       have A61 := Aside0.mk A610
       clear A610
       replace H := Option.bind_eq_some_iff.mp H
       obtain ⟨⟨t302, t305⟩, A620, H⟩ := H
       replace H : (if t301 = 0 then (if t305 = t301 then (if (t298.length : Int) = (l1.length : Int) then (trefoillaw25_DabitComes.j2 k2 a0 (l1.length : Int) t298 t302 ((t302.length : Int) != (l1.length : Int)) 4 a0 0 0 0) else (trefoillaw25_DabitComes.j2 k2 a0 (l1.length : Int) t298 t302 true 4 a0 0 0 0)) else (trefoillaw25_DabitComes.j2 k2 a0 (l1.length : Int) t298 t302 true 4 a0 0 0 0)) else (trefoillaw25_DabitComes.j2 k2 a0 (l1.length : Int) t298 t302 true 4 a0 0 0 0)) = some r := H
       have A62 := Aside0.mk A620
       clear A620
       have HC63 := Aside0.mk H
       clear H
       have hcz64_0 : wr.cell? ⟨gb258, 0, none⟩ = some (.int .i64 4) := (blk_cell BK258.out 0).trans rfl
       have hcz64_1 : wr.cell? ⟨gb258, 1, none⟩ = some (.int .i64 a0) := (blk_cell BK258.out 1).trans rfl
       have hcz64_2 : wr.cell? ⟨gb258, 2, none⟩ = some (.int .i64 0) := (blk_cell BK258.out 2).trans rfl
       have hcz64_3 : wr.cell? ⟨gb258, 3, none⟩ = some (.int .i64 0) := (blk_cell BK258.out 3).trans rfl
       have hcz64_4 : wr.cell? ⟨gb258, 4, none⟩ = some (.int .i64 0) := (blk_cell BK258.out 4).trans rfl
       have hfz64_0 := blk_frozen BK258.out 0
       have hfz64_1 := blk_frozen BK258.out 1
       have hfz64_2 := blk_frozen BK258.out 2
       have hfz64_3 := blk_frozen BK258.out 3
       have hfz64_4 := blk_frozen BK258.out 4
       obtain ⟨Ao65, co65, eo65⟩ := Kd.S_slice HO_11.out
       subst eo65
       obtain ⟨Ao66, co66, eo66⟩ := Kd.R_slice HO_13.out
       subst eo66
       go_upto_region 17 with (first | ((with_reducible refine gate_callee (f := 11) rfl ?_); refine goesL_ (some 99) rfl rfl Try.func11 (by kernel_rfl) rfl #[.agg #[.int .i64 4, .int .i64 a0, .int .i64 0, .int .i64 0, .int .i64 0], .slice Ao65 x11_2.length co65, .slice Ao66 x13_2.length co66] rfl (by (try simp only [List.map_toArray, List.map_cons, List.map_nil]); first | done | rfl | (simp only [List.length_drop, List.length_take]; rfl)) ?_; (with_reducible refine (dabit_Finish.calls k2 4 a0 0 0 0 _ _ x11_2 _ _ x13_2 t298 t301 _ ?side1 ?side2 ?side3 ?side4 A61.out).mono ?_); (case side1 => repeat (first | exact (Kd.S_reads' HO_11.out).2.2 | (with_reducible refine Kd.C_alloc ?_ _) | (with_reducible refine Kd.C_drewN ?_ _) | (with_reducible refine Kd.C_drew ?_))); (case side2 => exact (Kd.S_reads' HO_11.out).2.1); (case side3 => repeat (first | exact (Kd.R_reads' HO_13.out).2.2 | (with_reducible refine Kd.C_alloc ?_ _) | (with_reducible refine Kd.C_drewN ?_ _) | (with_reducible refine Kd.C_drew ?_))); (case side4 => exact (Kd.R_reads' HO_13.out).2.1); rintro e w67 ⟨v299, rfl, ho0, hb⟩; refine ⟨_, rfl, ?_⟩; have n0_ := Aside0.mk (Kd.S_elder' (by (with_reducible repeat (first | apply Kd.S_alloc | apply Kd.S_drewN | apply Kd.S_drew)); exact HO_11.out) (Kd.S_base ho0) hb); have n1_ := Aside0.mk (Kd.S_elder' (by (with_reducible repeat (first | apply Kd.S_alloc | apply Kd.S_drewN | apply Kd.S_drew)); exact HO_12.out) (Kd.S_base ho0) hb); have n2_ := Aside0.mk (Kd.R_below (by (with_reducible repeat (first | apply Kd.R_alloc | apply Kd.R_drewN | apply Kd.R_drew)); exact HO_13.out) hb); have n3_ := Aside0.mk (Kd.R_below (by (with_reducible repeat (first | apply Kd.R_alloc | apply Kd.R_drewN | apply Kd.R_drew)); exact HO_14.out) hb); have n4_ := Aside0.mk (Kd.S_lower (Kd.S_new' (Kd.S_new' (Kd.S_new' (Kd.S_new' ho0 (Kd.S_lt (by (with_reducible repeat (first | apply Kd.S_alloc | apply Kd.S_drewN | apply Kd.S_drew)); exact HO_11.out))) (Kd.S_lt (by (with_reducible repeat (first | apply Kd.S_alloc | apply Kd.S_drewN | apply Kd.S_drew)); exact HO_12.out))) (Kd.R_lt (by (with_reducible repeat (first | apply Kd.R_alloc | apply Kd.R_drewN | apply Kd.R_drew)); exact HO_13.out))) (Kd.R_lt (by (with_reducible repeat (first | apply Kd.R_alloc | apply Kd.R_drewN | apply Kd.R_drew)); exact HO_14.out))) (below_size (by repeat (first | (with_reducible first | exact HB.out | apply below_alloc | apply pw_below_drewN | apply below_drew1 | refine below_set ?_ GE258.out) | exact HB.out)))); have n5_ := Aside0.mk (blk_below (g := gb258) (o := .cells #[.int .i64 4, .int .i64 a0, .int .i64 0, .int .i64 0, .int .i64 0] 25 (0, 0)) (by (with_reducible repeat (first | refine blk_drewN ?_ _ | refine blk_drew ?_ | refine blk_alloc ?_ _)); exact BK258.out) hb); have n6_ := Aside0.mk (below_step (by repeat (first | (with_reducible first | exact HB.out | apply below_alloc | apply pw_below_drewN | apply below_drew1 | refine below_set ?_ GE258.out) | exact HB.out)) hb); clear HO_11; clear HO_12; clear HO_13; clear HO_14; clear BK258; clear HB; have HO_11 := n0_; have HO_12 := n1_; have HO_13 := n2_; have HO_14 := n3_; have HO300 := n4_; have BK258 := n5_; have HB := n6_; clear n0_ n1_ n2_ n3_ n4_ n5_ n6_; (try clear hb); (try clear hb2); (try clear hk); (try clear hi); (try clear ho0); have hcz68_0 : w67.cell? ⟨gb258, 0, none⟩ = some (.int .i64 4) := (blk_cell BK258.out 0).trans rfl; have hcz68_1 : w67.cell? ⟨gb258, 1, none⟩ = some (.int .i64 a0) := (blk_cell BK258.out 1).trans rfl; have hcz68_2 : w67.cell? ⟨gb258, 2, none⟩ = some (.int .i64 0) := (blk_cell BK258.out 2).trans rfl; have hcz68_3 : w67.cell? ⟨gb258, 3, none⟩ = some (.int .i64 0) := (blk_cell BK258.out 3).trans rfl; have hcz68_4 : w67.cell? ⟨gb258, 4, none⟩ = some (.int .i64 0) := (blk_cell BK258.out 4).trans rfl; have hfz68_0 := blk_frozen BK258.out 0; have hfz68_1 := blk_frozen BK258.out 1; have hfz68_2 := blk_frozen BK258.out 2; have hfz68_3 := blk_frozen BK258.out 3; have hfz68_4 := blk_frozen BK258.out 4; obtain ⟨Ao69, co69, eo69⟩ := Kd.S_slice HO_12.out; subst eo69; obtain ⟨Ao70, co70, eo70⟩ := Kd.R_slice HO_14.out; subst eo70) | ((with_reducible refine gate_callee (f := 11) rfl ?_); refine goesL_ (some 106) rfl rfl Try.func11 (by kernel_rfl) rfl #[.agg #[.int .i64 4, .int .i64 a0, .int .i64 0, .int .i64 0, .int .i64 0], .slice Ao69 x12_2.length co69, .slice Ao70 x14_2.length co70] rfl (by (try simp only [List.map_toArray, List.map_cons, List.map_nil]); first | done | rfl | (simp only [List.length_drop, List.length_take]; rfl)) ?_; (with_reducible refine (dabit_Finish.calls k2 4 a0 0 0 0 _ _ x12_2 _ _ x14_2 t302 t305 _ ?side1 ?side2 ?side3 ?side4 A62.out).mono ?_); (case side1 => repeat (first | exact (Kd.S_reads' HO_12.out).2.2 | (with_reducible refine Kd.C_alloc ?_ _) | (with_reducible refine Kd.C_drewN ?_ _) | (with_reducible refine Kd.C_drew ?_))); (case side2 => exact (Kd.S_reads' HO_12.out).2.1); (case side3 => repeat (first | exact (Kd.R_reads' HO_14.out).2.2 | (with_reducible refine Kd.C_alloc ?_ _) | (with_reducible refine Kd.C_drewN ?_ _) | (with_reducible refine Kd.C_drew ?_))); (case side4 => exact (Kd.R_reads' HO_14.out).2.1); rintro e w71 ⟨v303, rfl, ho0, hb⟩; refine ⟨_, rfl, ?_⟩; have n0_ := Aside0.mk (Kd.S_elder' (by (with_reducible repeat (first | apply Kd.S_alloc | apply Kd.S_drewN | apply Kd.S_drew)); exact HO_11.out) (Kd.S_base ho0) hb); have n1_ := Aside0.mk (Kd.S_elder' (by (with_reducible repeat (first | apply Kd.S_alloc | apply Kd.S_drewN | apply Kd.S_drew)); exact HO_12.out) (Kd.S_base ho0) hb); have n2_ := Aside0.mk (Kd.R_below (by (with_reducible repeat (first | apply Kd.R_alloc | apply Kd.R_drewN | apply Kd.R_drew)); exact HO_13.out) hb); have n3_ := Aside0.mk (Kd.R_below (by (with_reducible repeat (first | apply Kd.R_alloc | apply Kd.R_drewN | apply Kd.R_drew)); exact HO_14.out) hb); have n4_ := Aside0.mk (Kd.S_elder' (by (with_reducible repeat (first | apply Kd.S_alloc | apply Kd.S_drewN | apply Kd.S_drew)); exact HO300.out) (Kd.S_base ho0) hb); have n5_ := Aside0.mk (Kd.S_lower (Kd.S_new' (Kd.S_new' (Kd.S_new' (Kd.S_new' (Kd.S_new' ho0 (Kd.S_lt (by (with_reducible repeat (first | apply Kd.S_alloc | apply Kd.S_drewN | apply Kd.S_drew)); exact HO_11.out))) (Kd.S_lt (by (with_reducible repeat (first | apply Kd.S_alloc | apply Kd.S_drewN | apply Kd.S_drew)); exact HO_12.out))) (Kd.R_lt (by (with_reducible repeat (first | apply Kd.R_alloc | apply Kd.R_drewN | apply Kd.R_drew)); exact HO_13.out))) (Kd.R_lt (by (with_reducible repeat (first | apply Kd.R_alloc | apply Kd.R_drewN | apply Kd.R_drew)); exact HO_14.out))) (Kd.S_lt (by (with_reducible repeat (first | apply Kd.S_alloc | apply Kd.S_drewN | apply Kd.S_drew)); exact HO300.out))) (below_size (by repeat (first | (with_reducible first | exact HB.out | apply below_alloc | apply pw_below_drewN | apply below_drew1 | refine below_set ?_ GE258.out) | exact HB.out)))); have n6_ := Aside0.mk (blk_below (g := gb258) (o := .cells #[.int .i64 4, .int .i64 a0, .int .i64 0, .int .i64 0, .int .i64 0] 25 (0, 0)) (by (with_reducible repeat (first | refine blk_drewN ?_ _ | refine blk_drew ?_ | refine blk_alloc ?_ _)); exact BK258.out) hb); have n7_ := Aside0.mk (below_step (by repeat (first | (with_reducible first | exact HB.out | apply below_alloc | apply pw_below_drewN | apply below_drew1 | refine below_set ?_ GE258.out) | exact HB.out)) hb); clear HO_11; clear HO_12; clear HO_13; clear HO_14; clear HO300; clear BK258; clear HB; have HO_11 := n0_; have HO_12 := n1_; have HO_13 := n2_; have HO_14 := n3_; have HO300 := n4_; have HO304 := n5_; have BK258 := n6_; have HB := n7_; clear n0_ n1_ n2_ n3_ n4_ n5_ n6_ n7_; (try clear hb); (try clear hb2); (try clear hk); (try clear hi); (try clear ho0)))
       (try simp only [Act.put, List.setIfInBounds_toArray, List.set_cons_zero, List.set_cons_succ])
       go_cut [127] (fun v127 wc => ∃ (kq : Nat) (x127_62 : Bool), v127 = .bool x127_62 ∧ Aside0 (trefoillaw25_DabitComes.j2 kq a0 (l1.length : Int) t298 t302 x127_62 4 a0 0 0 0 = some r) ∧ Aside0 (kq ≤ k2) ∧ Aside0 (Kd.S k31 31 wc w.heap.size (fun k_ => some k_ ≠ (v303 : Value).ownBlock) v299 t298) ∧ Aside0 (Kd.S k31 31 wc w.heap.size (fun k_ => some k_ ≠ (v299 : Value).ownBlock) v303 t302) ∧ Aside0 (wc.heap[gb258]? = some (.cells #[.int .i64 4, .int .i64 a0, .int .i64 0, .int .i64 0, .int .i64 0] 25 (0, 0))) ∧ Aside0 (Below w.heap.size w wc))
       case first =>
        have H := HC63.out
        clear HC63
        by_cases c72 : t301 = 0
        ·rw [if_pos c72] at H
         have c72b0 : (t301 == 0) = true := beq_iff_eq.mpr c72
         have c72b1 : (t301 != 0) = false := bne_eq_false_iff_eq.mpr c72
         clear c72
         (first | rw [c72b0] | (simp only [i64_w, i32_w]; rw [c72b0]) | skip)
         by_cases c73 : t305 = t301
         ·rw [if_pos c73] at H
          have c73b0 : (t305 == t301) = true := beq_iff_eq.mpr c73
          have c73b1 : (t305 != t301) = false := bne_eq_false_iff_eq.mpr c73
          clear c73
          by_cases c74 : (t298.length : Int) = (l1.length : Int)
          ·rw [if_pos c74] at H
           have c74b0 : ((t298.length : Int) == (l1.length : Int)) = true := beq_iff_eq.mpr c74
           have c74b1 : ((t298.length : Int) != (l1.length : Int)) = false := bne_eq_false_iff_eq.mpr c74
           have c74b2 : (t298.length == l1.length) = true := by first | simpa using c74 | (simp at c74 ⊢; omega)
           clear c74
           have H' := Aside0.mk H
           clear H
           obtain ⟨Ao75, co75, eo75⟩ := Kd.S_slice HO300.out
           subst eo75
           obtain ⟨Ao76, co76, eo76⟩ := Kd.S_slice HO304.out
           subst eo76
           go_wp2
           go_meet
           case rel => exact ⟨_, (((t302.length : Int) != (l1.length : Int))), (by first | rfl | (simp; done) | (simp [*]; done)), H', ⟨by have := HJ4.out; have := HK2.out; first | omega | exact Nat.le_refl _⟩, ⟨by (with_reducible repeat (first | apply Kd.S_alloc | apply Kd.S_drewN | apply Kd.S_drew)); exact Kd.S_mono HO300.out (fun _ hk => hk.2)⟩, ⟨by (with_reducible repeat (first | apply Kd.S_alloc | apply Kd.S_drewN | apply Kd.S_drew)); exact Kd.S_mono HO304.out (fun _ hk => hk.2)⟩, ⟨by (with_reducible repeat (first | refine blk_drewN ?_ _ | refine blk_drew ?_ | refine blk_alloc ?_ _)); exact BK258.out⟩, ⟨by repeat (first | (with_reducible first | exact HB.out | apply below_alloc | apply pw_below_drewN | apply below_drew1 | refine below_set ?_ GE258.out) | exact HB.out)⟩⟩
          ·rw [if_neg c74] at H
           have c74b0 : ((t298.length : Int) == (l1.length : Int)) = false := beq_eq_false_iff_ne.mpr c74
           have c74b1 : ((t298.length : Int) != (l1.length : Int)) = true := bne_iff_ne.mpr c74
           have c74b2 : (t298.length == l1.length) = false := by first | simpa using c74 | (simp at c74 ⊢; omega)
           have H' := Aside0.mk H
           clear H
           obtain ⟨Ao77, co77, eo77⟩ := Kd.S_slice HO300.out
           subst eo77
           go_wp2
           go_meet
           case rel => exact ⟨_, (true), (by first | rfl | (simp; done) | (simp [*]; done)), H', ⟨by have := HJ4.out; have := HK2.out; first | omega | exact Nat.le_refl _⟩, ⟨by (with_reducible repeat (first | apply Kd.S_alloc | apply Kd.S_drewN | apply Kd.S_drew)); exact Kd.S_mono HO300.out (fun _ hk => hk.2)⟩, ⟨by (with_reducible repeat (first | apply Kd.S_alloc | apply Kd.S_drewN | apply Kd.S_drew)); exact Kd.S_mono HO304.out (fun _ hk => hk.2)⟩, ⟨by (with_reducible repeat (first | refine blk_drewN ?_ _ | refine blk_drew ?_ | refine blk_alloc ?_ _)); exact BK258.out⟩, ⟨by repeat (first | (with_reducible first | exact HB.out | apply below_alloc | apply pw_below_drewN | apply below_drew1 | refine below_set ?_ GE258.out) | exact HB.out)⟩⟩
         ·rw [if_neg c73] at H
          have c73b0 : (t305 == t301) = false := beq_eq_false_iff_ne.mpr c73
          have c73b1 : (t305 != t301) = true := bne_iff_ne.mpr c73
          have H' := Aside0.mk H
          clear H
          go_wp2
          go_meet
          case rel => exact ⟨_, (true), (by first | rfl | (simp; done) | (simp [*]; done)), H', ⟨by have := HJ4.out; have := HK2.out; first | omega | exact Nat.le_refl _⟩, ⟨by (with_reducible repeat (first | apply Kd.S_alloc | apply Kd.S_drewN | apply Kd.S_drew)); exact Kd.S_mono HO300.out (fun _ hk => hk.2)⟩, ⟨by (with_reducible repeat (first | apply Kd.S_alloc | apply Kd.S_drewN | apply Kd.S_drew)); exact Kd.S_mono HO304.out (fun _ hk => hk.2)⟩, ⟨by (with_reducible repeat (first | refine blk_drewN ?_ _ | refine blk_drew ?_ | refine blk_alloc ?_ _)); exact BK258.out⟩, ⟨by repeat (first | (with_reducible first | exact HB.out | apply below_alloc | apply pw_below_drewN | apply below_drew1 | refine below_set ?_ GE258.out) | exact HB.out)⟩⟩
        ·rw [if_neg c72] at H
         have c72b0 : (t301 == 0) = false := beq_eq_false_iff_ne.mpr c72
         have c72b1 : (t301 != 0) = true := bne_iff_ne.mpr c72
         (first | rw [c72b0] | (simp only [i64_w, i32_w]; rw [c72b0]) | skip)
         have H' := Aside0.mk H
         clear H
         go_wp2
         go_meet
         case rel => exact ⟨_, (true), (by first | rfl | (simp; done) | (simp [*]; done)), H', ⟨by have := HJ4.out; have := HK2.out; first | omega | exact Nat.le_refl _⟩, ⟨by (with_reducible repeat (first | apply Kd.S_alloc | apply Kd.S_drewN | apply Kd.S_drew)); exact Kd.S_mono HO300.out (fun _ hk => hk.2)⟩, ⟨by (with_reducible repeat (first | apply Kd.S_alloc | apply Kd.S_drewN | apply Kd.S_drew)); exact Kd.S_mono HO304.out (fun _ hk => hk.2)⟩, ⟨by (with_reducible repeat (first | refine blk_drewN ?_ _ | refine blk_drew ?_ | refine blk_alloc ?_ _)); exact BK258.out⟩, ⟨by repeat (first | (with_reducible first | exact HB.out | apply below_alloc | apply pw_below_drewN | apply below_drew1 | refine below_set ?_ GE258.out) | exact HB.out)⟩⟩
       case rest =>
        clear HC63
        try clear c1
        try clear c2
        try clear p2
        try clear q2
        try clear hx2
        try clear qi2
        try clear c3
        try clear q3
        try clear c4
        try clear c5
        try clear c6
        try clear p6
        try clear c7
        try clear c8
        try clear c9
        try clear c9b0
        try clear c9b1
        try clear c10
        try clear c10b0
        try clear c10b1
        try clear c10b2
        try clear c11
        try clear c17
        try clear c20
        try clear c20b0
        try clear c21
        try clear c21b0
        try clear c22
        try clear c22b0
        try clear c24
        try clear c25
        try clear c25b0
        try clear p26
        try clear q26
        try clear hx26
        try clear c27
        try clear p27
        try clear q27
        try clear hx27
        try clear c28
        try clear c28b0
        try clear p28
        try clear q28
        try clear hx28
        try clear qi28
        try clear p29
        try clear q29
        try clear hx29
        try clear qi29
        try clear c30
        try clear q31
        try clear c32
        try clear c34
        try clear c34b0
        try clear c34b1
        try clear c36
        try clear c48
        try clear c48b0
        try clear c48b1
        try clear c50
        try clear p64
        try clear c72
        try clear c72b0
        try clear c72b1
        try clear c73
        try clear c73b0
        try clear c73b1
        try clear c74
        try clear c74b0
        try clear c74b1
        try clear c74b2
        try clear hcz11_0
        try clear hcz11_1
        try clear hcz11_2
        try clear hcz11_3
        try clear hcz11_4
        try clear hcz13_0
        try clear hcz13_1
        try clear hcz13_2
        try clear hcz13_3
        try clear hcz13_4
        try clear hcz15_0
        try clear hcz15_1
        try clear hcz15_2
        try clear hcz15_3
        try clear hcz15_4
        try clear hcz64_0
        try clear hcz64_1
        try clear hcz64_2
        try clear hcz64_3
        try clear hcz64_4
        try clear hcz68_0
        try clear hcz68_1
        try clear hcz68_2
        try clear hcz68_3
        try clear hcz68_4
        try clear hcz7_0
        try clear hcz7_1
        try clear hcz7_2
        try clear hcz7_3
        try clear hcz7_4
        try clear hfz11_0
        try clear hfz11_1
        try clear hfz11_2
        try clear hfz11_3
        try clear hfz11_4
        try clear hfz13_0
        try clear hfz13_1
        try clear hfz13_2
        try clear hfz13_3
        try clear hfz13_4
        try clear hfz15_0
        try clear hfz15_1
        try clear hfz15_2
        try clear hfz15_3
        try clear hfz15_4
        try clear hfz64_0
        try clear hfz64_1
        try clear hfz64_2
        try clear hfz64_3
        try clear hfz64_4
        try clear hfz68_0
        try clear hfz68_1
        try clear hfz68_2
        try clear hfz68_3
        try clear hfz68_4
        try clear hfz7_0
        try clear hfz7_1
        try clear hfz7_2
        try clear hfz7_3
        try clear hfz7_4
        try clear hx261_0
        try clear hx268_0
        try clear hx275_0
        try clear hx280_0
        try clear hx281_0
        try clear hx285_0
        try clear hx293_0
        try clear p2
        try clear p261
        try clear p268
        try clear p275
        try clear p280
        try clear p281
        try clear p285
        try clear p293
        try clear q261
        try clear q268
        try clear q275
        try clear q280
        try clear q281
        try clear q285
        try clear q293
        obtain ⟨kq, x127_62, rfl, HA, HJ62, HO_17, HO_19, BK258, HB⟩ := hcut
        cases kq with
        | zero => exact absurd HA.out (by simp [trefoillaw25_DabitComes.j2])
        | succ kj62 =>
         have H := HA.out
         clear HA
         simp only [trefoillaw25_DabitComes.j2] at H
         by_cases c78 : x127_62 = true
         ·subst c78
          have H1 : (some false) = some r := by rw [if_pos rfl] at H; exact H
          clear H
          have H := H1
          clear H1
          exact absurd (Option.some.inj H) (by rw [HT0_.out]; exact Bool.false_ne_true)
         ·replace c78 := Bool.eq_false_iff.mpr c78
          subst c78
          have H1 : (trefoillaw25_DabitComes.l1 kj62 a0 (l1.length : Int) t298 t302 0 4 a0 0 0 0) = some r := by rw [if_neg (show ¬ (false = true) by decide)] at H; exact H
          clear H
          have H := H1
          clear H1
          have H' := Aside0.mk H
          clear H
          go_wp2
          go_loopg [21] kj62 (fun kq v21 w' => ∃ (x21_4 : Int), v21 = .int .i64 x21_4 ∧ Aside0 (trefoillaw25_DabitComes.l1 kq a0 (l1.length : Int) t298 t302 x21_4 4 a0 0 0 0 = some r) ∧ Aside0 (kq ≤ kj62) ∧ Aside0 (Kd.S k31 31 w' w.heap.size (fun k_ => some k_ ≠ (v303 : Value).ownBlock) v299 t298) ∧ Aside0 (Kd.S k31 31 w' w.heap.size (fun k_ => some k_ ≠ (v299 : Value).ownBlock) v303 t302) ∧ Aside0 (w'.heap[gb258]? = some (.cells #[.int .i64 4, .int .i64 a0, .int .i64 0, .int .i64 0, .int .i64 0] 25 (0, 0))) ∧ Aside0 (Below w.heap.size w w'))
          case atStart => exact ⟨(0), (by first | rfl | (simp; done) | (simp [*]; done)), H', ⟨Nat.le_refl _⟩, ⟨by (with_reducible repeat (first | apply Kd.S_alloc | apply Kd.S_drewN | apply Kd.S_drew)); exact HO_17.out⟩, ⟨by (with_reducible repeat (first | apply Kd.S_alloc | apply Kd.S_drewN | apply Kd.S_drew)); exact HO_19.out⟩, ⟨by (with_reducible repeat (first | refine blk_drewN ?_ _ | refine blk_drew ?_ | refine blk_alloc ?_ _)); exact BK258.out⟩, ⟨by repeat (first | (with_reducible first | exact HB.out | apply below_alloc | apply pw_below_drewN | apply below_drew1 | refine below_set ?_ GE258.out) | exact HB.out)⟩⟩
          case round =>
           clear H'
           try clear c1
           try clear c2
           try clear p2
           try clear q2
           try clear hx2
           try clear qi2
           try clear c3
           try clear q3
           try clear c4
           try clear c5
           try clear c6
           try clear p6
           try clear c7
           try clear c8
           try clear c9
           try clear c9b0
           try clear c9b1
           try clear c10
           try clear c10b0
           try clear c10b1
           try clear c10b2
           try clear c11
           try clear c17
           try clear c20
           try clear c20b0
           try clear c21
           try clear c21b0
           try clear c22
           try clear c22b0
           try clear c24
           try clear c25
           try clear c25b0
           try clear p26
           try clear q26
           try clear hx26
           try clear c27
           try clear p27
           try clear q27
           try clear hx27
           try clear c28
           try clear c28b0
           try clear p28
           try clear q28
           try clear hx28
           try clear qi28
           try clear p29
           try clear q29
           try clear hx29
           try clear qi29
           try clear c30
           try clear q31
           try clear c32
           try clear c34
           try clear c34b0
           try clear c34b1
           try clear c36
           try clear c48
           try clear c48b0
           try clear c48b1
           try clear c50
           try clear p64
           try clear c72
           try clear c72b0
           try clear c72b1
           try clear c73
           try clear c73b0
           try clear c73b1
           try clear c74
           try clear c74b0
           try clear c74b1
           try clear c74b2
           try clear c78
           try clear hcz11_0
           try clear hcz11_1
           try clear hcz11_2
           try clear hcz11_3
           try clear hcz11_4
           try clear hcz13_0
           try clear hcz13_1
           try clear hcz13_2
           try clear hcz13_3
           try clear hcz13_4
           try clear hcz15_0
           try clear hcz15_1
           try clear hcz15_2
           try clear hcz15_3
           try clear hcz15_4
           try clear hcz64_0
           try clear hcz64_1
           try clear hcz64_2
           try clear hcz64_3
           try clear hcz64_4
           try clear hcz68_0
           try clear hcz68_1
           try clear hcz68_2
           try clear hcz68_3
           try clear hcz68_4
           try clear hcz7_0
           try clear hcz7_1
           try clear hcz7_2
           try clear hcz7_3
           try clear hcz7_4
           try clear hfz11_0
           try clear hfz11_1
           try clear hfz11_2
           try clear hfz11_3
           try clear hfz11_4
           try clear hfz13_0
           try clear hfz13_1
           try clear hfz13_2
           try clear hfz13_3
           try clear hfz13_4
           try clear hfz15_0
           try clear hfz15_1
           try clear hfz15_2
           try clear hfz15_3
           try clear hfz15_4
           try clear hfz64_0
           try clear hfz64_1
           try clear hfz64_2
           try clear hfz64_3
           try clear hfz64_4
           try clear hfz68_0
           try clear hfz68_1
           try clear hfz68_2
           try clear hfz68_3
           try clear hfz68_4
           try clear hfz7_0
           try clear hfz7_1
           try clear hfz7_2
           try clear hfz7_3
           try clear hfz7_4
           try clear hx261_0
           try clear hx268_0
           try clear hx275_0
           try clear hx280_0
           try clear hx281_0
           try clear hx285_0
           try clear hx293_0
           try clear p2
           try clear p26
           try clear p261
           try clear p268
           try clear p27
           try clear p275
           try clear p28
           try clear p280
           try clear p281
           try clear p285
           try clear p29
           try clear p293
           try clear p6
           try clear p64
           try clear q2
           try clear q26
           try clear q261
           try clear q268
           try clear q27
           try clear q275
           try clear q28
           try clear q280
           try clear q281
           try clear q285
           try clear q29
           try clear q293
           try clear q3
           try clear q31
           obtain ⟨x21_4, rfl, HA, HK4, HO_17, HO_19, BK258, HB⟩ := hrel
           cases gk with
           | zero => exact absurd HA.out (by simp [trefoillaw25_DabitComes.l1])
           | succ k4 =>
            have H := HA.out
            clear HA
            simp only [trefoillaw25_DabitComes.l1] at H
            by_cases c79 : x21_4 < (l1.length : Int)
            ·rw [if_pos c79] at H
             have c79b0 : decide (x21_4 < (l1.length : Int)) = true := decide_eq_true c79
             clear c79
             by_cases c80 : 0 ≤ x21_4
             ·rw [if_pos c80] at H
              have c80b0 : decide (0 ≤ x21_4) = true := decide_eq_true c80
              clear c80
              by_cases c81 : x21_4 < (t298.length : Int)
              ·rw [if_pos c81] at H
               have c81b0 : decide (x21_4 < (t298.length : Int)) = true := decide_eq_true c81
               clear c81
               by_cases c82 : x21_4 < (t302.length : Int)
               ·rw [if_pos c82] at H
                have c82b0 : decide (x21_4 < (t302.length : Int)) = true := decide_eq_true c82
                clear c82
                replace H := Option.bind_eq_some_iff.mp H
                obtain ⟨t309, A830, H⟩ := H
                replace H : (if t309 = true then ((dabit_Right.f k4 4 a0 0 0 0 ((rd_T31 t298 x21_4).f0) ((rd_T31 t298 x21_4).f1) ((rd_T31 t298 x21_4).f2) ((rd_T31 t302 x21_4).f0) ((rd_T31 t302 x21_4).f1) ((rd_T31 t302 x21_4).f2)).bind fun t312 => (if t312 = true then (if 0 < (((rd_T31 t298 x21_4).f1).length : Int) then (if 0 < (((rd_T31 t302 x21_4).f1).length : Int) then ((trefoilref03_Add.f k4 a0 (rd ((rd_T31 t298 x21_4).f1) 0) (rd ((rd_T31 t302 x21_4).f1) 0)).bind fun t317 => (if t317 > 1 then (some false) else (trefoillaw25_DabitComes.l1 k4 a0 (l1.length : Int) t298 t302 (wrap64 (x21_4 + 1)) 4 a0 0 0 0))) else (none)) else (none)) else (some false))) else (some false)) = some r := H
                have A83 := Aside0.mk A830
                clear A830
                by_cases c84 : t309 = true
                ·subst c84
                 have H1 : ((dabit_Right.f k4 4 a0 0 0 0 ((rd_T31 t298 x21_4).f0) ((rd_T31 t298 x21_4).f1) ((rd_T31 t298 x21_4).f2) ((rd_T31 t302 x21_4).f0) ((rd_T31 t302 x21_4).f1) ((rd_T31 t302 x21_4).f2)).bind fun t312 => (if t312 = true then (if 0 < (((rd_T31 t298 x21_4).f1).length : Int) then (if 0 < (((rd_T31 t302 x21_4).f1).length : Int) then ((trefoilref03_Add.f k4 a0 (rd ((rd_T31 t298 x21_4).f1) 0) (rd ((rd_T31 t302 x21_4).f1) 0)).bind fun t317 => (if t317 > 1 then (some false) else (trefoillaw25_DabitComes.l1 k4 a0 (l1.length : Int) t298 t302 (wrap64 (x21_4 + 1)) 4 a0 0 0 0))) else (none)) else (none)) else (some false))) = some r := by rw [if_pos rfl] at H; exact H
                 clear H
                 have H := H1
                 clear H1
                 replace H := Option.bind_eq_some_iff.mp H
                 obtain ⟨t312, A850, H⟩ := H
                 replace H : (if t312 = true then (if 0 < (((rd_T31 t298 x21_4).f1).length : Int) then (if 0 < (((rd_T31 t302 x21_4).f1).length : Int) then ((trefoilref03_Add.f k4 a0 (rd ((rd_T31 t298 x21_4).f1) 0) (rd ((rd_T31 t302 x21_4).f1) 0)).bind fun t317 => (if t317 > 1 then (some false) else (trefoillaw25_DabitComes.l1 k4 a0 (l1.length : Int) t298 t302 (wrap64 (x21_4 + 1)) 4 a0 0 0 0))) else (none)) else (none)) else (some false)) = some r := H
                 have A85 := Aside0.mk A850
                 clear A850
                 by_cases c86 : t312 = true
                 ·subst c86
                  have H1 : (if 0 < (((rd_T31 t298 x21_4).f1).length : Int) then (if 0 < (((rd_T31 t302 x21_4).f1).length : Int) then ((trefoilref03_Add.f k4 a0 (rd ((rd_T31 t298 x21_4).f1) 0) (rd ((rd_T31 t302 x21_4).f1) 0)).bind fun t317 => (if t317 > 1 then (some false) else (trefoillaw25_DabitComes.l1 k4 a0 (l1.length : Int) t298 t302 (wrap64 (x21_4 + 1)) 4 a0 0 0 0))) else (none)) else (none)) = some r := by rw [if_pos rfl] at H; exact H
                  clear H
                  have H := H1
                  clear H1
                  by_cases c87 : 0 < (((rd_T31 t298 x21_4).f1).length : Int)
                  ·rw [if_pos c87] at H
                   have c87b0 : decide (0 < (((rd_T31 t298 x21_4).f1).length : Int)) = true := decide_eq_true c87
                   have c87b1 : decide (0 < ((rd_T31 t298 x21_4).f1).length) = true := decide_eq_true (by omega)
                   clear c87
                   by_cases c88 : 0 < (((rd_T31 t302 x21_4).f1).length : Int)
                   ·rw [if_pos c88] at H
                    have c88b0 : decide (0 < (((rd_T31 t302 x21_4).f1).length : Int)) = true := decide_eq_true c88
                    have c88b1 : decide (0 < ((rd_T31 t302 x21_4).f1).length) = true := decide_eq_true (by omega)
                    clear c88
                    replace H := Option.bind_eq_some_iff.mp H
                    obtain ⟨t317, A890, H⟩ := H
                    replace H : (if t317 > 1 then (some false) else (trefoillaw25_DabitComes.l1 k4 a0 (l1.length : Int) t298 t302 (wrap64 (x21_4 + 1)) 4 a0 0 0 0)) = some r := H
                    have A89 := Aside0.mk A890
                    clear A890
                    by_cases c90 : t317 > 1
                    ·rw [if_pos c90] at H
                     have c90b0 : decide (1 < t317) = true := decide_eq_true c90
                     clear c90
                     exact absurd (Option.some.inj H) (by rw [HT0_.out]; exact Bool.false_ne_true)
                    ·rw [if_neg c90] at H
                     have c90b0 : decide (1 < t317) = false := decide_eq_false c90
                     clear c90
                     have H' := Aside0.mk H
                     clear H
                     try go_wp2
                     have n0_ := Aside0.mk (Kd.S_drew HO_17.out)
                     have n1_ := Aside0.mk (Kd.S_drew HO_19.out)
                     have n2_ := Aside0.mk (blk_drew BK258.out)
                     have n3_ := Aside0.mk (below_drew1 HB.out)
                     clear HO_17
                     clear HO_19
                     clear BK258
                     clear HB
                     have HO_17 := n0_
                     have HO_19 := n1_
                     have BK258 := n2_
                     have HB := n3_
                     clear n0_ n1_ n2_ n3_
                     obtain ⟨Ao92, co92, eo92⟩ := Kd.S_slice HO_17.out
                     (first | subst eo92 | (injection eo92 with f1_ f2_ f3_; have f4_ := f1_.symm; have f5_ := f3_.symm; clear f1_ f2_ f3_; subst f4_; subst f5_))
                     have p307 : 0 ≤ (x21_4 : Int) := of_decide_eq_true (by first | (with_reducible assumption) | assumption)
                     have q307 : x21_4 < (t298.length : Int) := of_decide_eq_true (by first | (with_reducible assumption) | assumption)
                     obtain ⟨ad307, A307_0, c307_0, A307_1, c307_1, A307_2, c307_2, e307, hx307_0, hx307_1, hx307_2, hl307_0, hi307_0, hl307_1, hi307_1, hl307_2, hi307_2⟩ := at_T31 (Kd.S_reads' HO_17.out).2.2 x21_4 p307 q307
                     cases e307
                     obtain ⟨ce307, hce307, hMe307, hcc307⟩ := Kd.S_get HO_17.out z31 x21_4 p307 (by first | exact q307 | exact of_decide_eq_true (by first | (with_reducible assumption) | assumption) | (have e_ := (Kd.S_reads' HO_17.out).1; omega))
                     obtain ⟨ve307_0, ve307_1, ve307_2, rfl, ge307_0, ge307_1, ge307_2⟩ := k31_openM hMe307
                     have hv307_0 := hcc307 0 _ rfl
                     rw [Nat.add_zero] at hv307_0
                     replace hv307_0 := Option.some.inj (hv307_0.symm.trans hx307_0)
                     rw [hv307_0] at ge307_0
                     have HL307_0 := Aside0.mk (show Kd.R (Kd.int .u64) 32 _ _ _ _ ((rd_T31 t298 x21_4).f0) from ge307_0)
                     clear hv307_0 ge307_0
                     have hv307_1 := hcc307 1 _ rfl
                     rw [add_field _ _ 1 (by omega)] at hv307_1
                     replace hv307_1 := Option.some.inj (hv307_1.symm.trans hx307_1)
                     rw [hv307_1] at ge307_1
                     have HL307_1 := Aside0.mk (show Kd.R (Kd.int .u64) 32 _ _ _ _ ((rd_T31 t298 x21_4).f1) from ge307_1)
                     clear hv307_1 ge307_1
                     have hv307_2 := hcc307 2 _ rfl
                     rw [add_field _ _ 2 (by omega)] at hv307_2
                     replace hv307_2 := Option.some.inj (hv307_2.symm.trans hx307_2)
                     rw [hv307_2] at ge307_2
                     have HL307_2 := Aside0.mk (show Kd.R (Kd.int .u64) 32 _ _ _ _ ((rd_T31 t298 x21_4).f2) from ge307_2)
                     clear hv307_2 ge307_2
                     clear hcc307 hce307
                     have HR307_0 := Aside0.mk hi307_0
                     have HC307_0 := Aside0.mk hl307_0
                     clear hi307_0 hl307_0
                     have HR307_1 := Aside0.mk hi307_1
                     have HC307_1 := Aside0.mk hl307_1
                     clear hi307_1 hl307_1
                     have HR307_2 := Aside0.mk hi307_2
                     have HC307_2 := Aside0.mk hl307_2
                     clear hi307_2 hl307_2
                     replace p307 := eq_true p307
                     replace q307 := eq_true q307
                     obtain ⟨Ao93, co93, eo93⟩ := Kd.S_slice HO_19.out
                     (first | subst eo93 | (injection eo93 with f1_ f2_ f3_; have f4_ := f1_.symm; have f5_ := f3_.symm; clear f1_ f2_ f3_; subst f4_; subst f5_))
                     have p308 : 0 ≤ (x21_4 : Int) := of_decide_eq_true (by first | (with_reducible assumption) | assumption)
                     have q308 : x21_4 < (t302.length : Int) := of_decide_eq_true (by first | (with_reducible assumption) | assumption)
                     obtain ⟨ad308, A308_0, c308_0, A308_1, c308_1, A308_2, c308_2, e308, hx308_0, hx308_1, hx308_2, hl308_0, hi308_0, hl308_1, hi308_1, hl308_2, hi308_2⟩ := at_T31 (Kd.S_reads' HO_19.out).2.2 x21_4 p308 q308
                     cases e308
                     obtain ⟨ce308, hce308, hMe308, hcc308⟩ := Kd.S_get HO_19.out z31 x21_4 p308 (by first | exact q308 | exact of_decide_eq_true (by first | (with_reducible assumption) | assumption) | (have e_ := (Kd.S_reads' HO_19.out).1; omega))
                     obtain ⟨ve308_0, ve308_1, ve308_2, rfl, ge308_0, ge308_1, ge308_2⟩ := k31_openM hMe308
                     have hv308_0 := hcc308 0 _ rfl
                     rw [Nat.add_zero] at hv308_0
                     replace hv308_0 := Option.some.inj (hv308_0.symm.trans hx308_0)
                     rw [hv308_0] at ge308_0
                     have HL308_0 := Aside0.mk (show Kd.R (Kd.int .u64) 32 _ _ _ _ ((rd_T31 t302 x21_4).f0) from ge308_0)
                     clear hv308_0 ge308_0
                     have hv308_1 := hcc308 1 _ rfl
                     rw [add_field _ _ 1 (by omega)] at hv308_1
                     replace hv308_1 := Option.some.inj (hv308_1.symm.trans hx308_1)
                     rw [hv308_1] at ge308_1
                     have HL308_1 := Aside0.mk (show Kd.R (Kd.int .u64) 32 _ _ _ _ ((rd_T31 t302 x21_4).f1) from ge308_1)
                     clear hv308_1 ge308_1
                     have hv308_2 := hcc308 2 _ rfl
                     rw [add_field _ _ 2 (by omega)] at hv308_2
                     replace hv308_2 := Option.some.inj (hv308_2.symm.trans hx308_2)
                     rw [hv308_2] at ge308_2
                     have HL308_2 := Aside0.mk (show Kd.R (Kd.int .u64) 32 _ _ _ _ ((rd_T31 t302 x21_4).f2) from ge308_2)
                     clear hv308_2 ge308_2
                     clear hcc308 hce308
                     have HR308_0 := Aside0.mk hi308_0
                     have HC308_0 := Aside0.mk hl308_0
                     clear hi308_0 hl308_0
                     have HR308_1 := Aside0.mk hi308_1
                     have HC308_1 := Aside0.mk hl308_1
                     clear hi308_1 hl308_1
                     have HR308_2 := Aside0.mk hi308_2
                     have HC308_2 := Aside0.mk hl308_2
                     clear hi308_2 hl308_2
                     replace p308 := eq_true p308
                     replace q308 := eq_true q308
                     have p310 : 0 ≤ (x21_4 : Int) := of_decide_eq_true (by first | (with_reducible assumption) | assumption)
                     have q310 : x21_4 < (t298.length : Int) := of_decide_eq_true (by first | (with_reducible assumption) | assumption)
                     obtain ⟨ad310, A310_0, c310_0, A310_1, c310_1, A310_2, c310_2, e310, hx310_0, hx310_1, hx310_2, hl310_0, hi310_0, hl310_1, hi310_1, hl310_2, hi310_2⟩ := at_T31 (Kd.S_reads' HO_17.out).2.2 x21_4 p310 q310
                     obtain rfl : ad307 = ad310 := (by injection e310)
                     obtain ⟨ce310, hce310, hMe310, hcc310⟩ := Kd.S_get HO_17.out z31 x21_4 p310 (by first | exact q310 | exact of_decide_eq_true (by first | (with_reducible assumption) | assumption) | (have e_ := (Kd.S_reads' HO_17.out).1; omega))
                     obtain ⟨ve310_0, ve310_1, ve310_2, rfl, ge310_0, ge310_1, ge310_2⟩ := k31_openM hMe310
                     have hv310_0 := hcc310 0 _ rfl
                     rw [Nat.add_zero] at hv310_0
                     replace hv310_0 := Option.some.inj (hv310_0.symm.trans hx310_0)
                     rw [hv310_0] at ge310_0
                     have HL310_0 := Aside0.mk (show Kd.R (Kd.int .u64) 32 _ _ _ _ ((rd_T31 t298 x21_4).f0) from ge310_0)
                     clear hv310_0 ge310_0
                     have hv310_1 := hcc310 1 _ rfl
                     rw [add_field _ _ 1 (by omega)] at hv310_1
                     replace hv310_1 := Option.some.inj (hv310_1.symm.trans hx310_1)
                     rw [hv310_1] at ge310_1
                     have HL310_1 := Aside0.mk (show Kd.R (Kd.int .u64) 32 _ _ _ _ ((rd_T31 t298 x21_4).f1) from ge310_1)
                     clear hv310_1 ge310_1
                     have hv310_2 := hcc310 2 _ rfl
                     rw [add_field _ _ 2 (by omega)] at hv310_2
                     replace hv310_2 := Option.some.inj (hv310_2.symm.trans hx310_2)
                     rw [hv310_2] at ge310_2
                     have HL310_2 := Aside0.mk (show Kd.R (Kd.int .u64) 32 _ _ _ _ ((rd_T31 t298 x21_4).f2) from ge310_2)
                     clear hv310_2 ge310_2
                     clear hcc310 hce310
                     have HR310_0 := Aside0.mk hi310_0
                     have HC310_0 := Aside0.mk hl310_0
                     clear hi310_0 hl310_0
                     have HR310_1 := Aside0.mk hi310_1
                     have HC310_1 := Aside0.mk hl310_1
                     clear hi310_1 hl310_1
                     have HR310_2 := Aside0.mk hi310_2
                     have HC310_2 := Aside0.mk hl310_2
                     clear hi310_2 hl310_2
                     replace p310 := eq_true p310
                     replace q310 := eq_true q310
                     have p311 : 0 ≤ (x21_4 : Int) := of_decide_eq_true (by first | (with_reducible assumption) | assumption)
                     have q311 : x21_4 < (t302.length : Int) := of_decide_eq_true (by first | (with_reducible assumption) | assumption)
                     obtain ⟨ad311, A311_0, c311_0, A311_1, c311_1, A311_2, c311_2, e311, hx311_0, hx311_1, hx311_2, hl311_0, hi311_0, hl311_1, hi311_1, hl311_2, hi311_2⟩ := at_T31 (Kd.S_reads' HO_19.out).2.2 x21_4 p311 q311
                     obtain rfl : ad308 = ad311 := (by injection e311)
                     obtain ⟨ce311, hce311, hMe311, hcc311⟩ := Kd.S_get HO_19.out z31 x21_4 p311 (by first | exact q311 | exact of_decide_eq_true (by first | (with_reducible assumption) | assumption) | (have e_ := (Kd.S_reads' HO_19.out).1; omega))
                     obtain ⟨ve311_0, ve311_1, ve311_2, rfl, ge311_0, ge311_1, ge311_2⟩ := k31_openM hMe311
                     have hv311_0 := hcc311 0 _ rfl
                     rw [Nat.add_zero] at hv311_0
                     replace hv311_0 := Option.some.inj (hv311_0.symm.trans hx311_0)
                     rw [hv311_0] at ge311_0
                     have HL311_0 := Aside0.mk (show Kd.R (Kd.int .u64) 32 _ _ _ _ ((rd_T31 t302 x21_4).f0) from ge311_0)
                     clear hv311_0 ge311_0
                     have hv311_1 := hcc311 1 _ rfl
                     rw [add_field _ _ 1 (by omega)] at hv311_1
                     replace hv311_1 := Option.some.inj (hv311_1.symm.trans hx311_1)
                     rw [hv311_1] at ge311_1
                     have HL311_1 := Aside0.mk (show Kd.R (Kd.int .u64) 32 _ _ _ _ ((rd_T31 t302 x21_4).f1) from ge311_1)
                     clear hv311_1 ge311_1
                     have hv311_2 := hcc311 2 _ rfl
                     rw [add_field _ _ 2 (by omega)] at hv311_2
                     replace hv311_2 := Option.some.inj (hv311_2.symm.trans hx311_2)
                     rw [hv311_2] at ge311_2
                     have HL311_2 := Aside0.mk (show Kd.R (Kd.int .u64) 32 _ _ _ _ ((rd_T31 t302 x21_4).f2) from ge311_2)
                     clear hv311_2 ge311_2
                     clear hcc311 hce311
                     have HR311_0 := Aside0.mk hi311_0
                     have HC311_0 := Aside0.mk hl311_0
                     clear hi311_0 hl311_0
                     have HR311_1 := Aside0.mk hi311_1
                     have HC311_1 := Aside0.mk hl311_1
                     clear hi311_1 hl311_1
                     have HR311_2 := Aside0.mk hi311_2
                     have HC311_2 := Aside0.mk hl311_2
                     clear hi311_2 hl311_2
                     replace p311 := eq_true p311
                     replace q311 := eq_true q311
                     have p313 : 0 ≤ (x21_4 : Int) := of_decide_eq_true (by first | (with_reducible assumption) | assumption)
                     have q313 : x21_4 < (t298.length : Int) := of_decide_eq_true (by first | (with_reducible assumption) | assumption)
                     obtain ⟨ad313, A313_0, c313_0, A313_1, c313_1, A313_2, c313_2, e313, hx313_0, hx313_1, hx313_2, hl313_0, hi313_0, hl313_1, hi313_1, hl313_2, hi313_2⟩ := at_T31 (Kd.S_reads' HO_17.out).2.2 x21_4 p313 q313
                     obtain rfl : ad307 = ad313 := (by injection e313)
                     obtain ⟨ce313, hce313, hMe313, hcc313⟩ := Kd.S_get HO_17.out z31 x21_4 p313 (by first | exact q313 | exact of_decide_eq_true (by first | (with_reducible assumption) | assumption) | (have e_ := (Kd.S_reads' HO_17.out).1; omega))
                     obtain ⟨ve313_0, ve313_1, ve313_2, rfl, ge313_0, ge313_1, ge313_2⟩ := k31_openM hMe313
                     have hv313_0 := hcc313 0 _ rfl
                     rw [Nat.add_zero] at hv313_0
                     replace hv313_0 := Option.some.inj (hv313_0.symm.trans hx313_0)
                     rw [hv313_0] at ge313_0
                     have HL313_0 := Aside0.mk (show Kd.R (Kd.int .u64) 32 _ _ _ _ ((rd_T31 t298 x21_4).f0) from ge313_0)
                     clear hv313_0 ge313_0
                     have hv313_1 := hcc313 1 _ rfl
                     rw [add_field _ _ 1 (by omega)] at hv313_1
                     replace hv313_1 := Option.some.inj (hv313_1.symm.trans hx313_1)
                     rw [hv313_1] at ge313_1
                     have HL313_1 := Aside0.mk (show Kd.R (Kd.int .u64) 32 _ _ _ _ ((rd_T31 t298 x21_4).f1) from ge313_1)
                     clear hv313_1 ge313_1
                     have hv313_2 := hcc313 2 _ rfl
                     rw [add_field _ _ 2 (by omega)] at hv313_2
                     replace hv313_2 := Option.some.inj (hv313_2.symm.trans hx313_2)
                     rw [hv313_2] at ge313_2
                     have HL313_2 := Aside0.mk (show Kd.R (Kd.int .u64) 32 _ _ _ _ ((rd_T31 t298 x21_4).f2) from ge313_2)
                     clear hv313_2 ge313_2
                     clear hcc313 hce313
                     have HR313_0 := Aside0.mk hi313_0
                     have HC313_0 := Aside0.mk hl313_0
                     clear hi313_0 hl313_0
                     have HR313_1 := Aside0.mk hi313_1
                     have HC313_1 := Aside0.mk hl313_1
                     clear hi313_1 hl313_1
                     have HR313_2 := Aside0.mk hi313_2
                     have HC313_2 := Aside0.mk hl313_2
                     clear hi313_2 hl313_2
                     replace p313 := eq_true p313
                     replace q313 := eq_true q313
                     have p315 : 0 ≤ (x21_4 : Int) := of_decide_eq_true (by first | (with_reducible assumption) | assumption)
                     have q315 : x21_4 < (t302.length : Int) := of_decide_eq_true (by first | (with_reducible assumption) | assumption)
                     obtain ⟨ad315, A315_0, c315_0, A315_1, c315_1, A315_2, c315_2, e315, hx315_0, hx315_1, hx315_2, hl315_0, hi315_0, hl315_1, hi315_1, hl315_2, hi315_2⟩ := at_T31 (Kd.S_reads' HO_19.out).2.2 x21_4 p315 q315
                     obtain rfl : ad308 = ad315 := (by injection e315)
                     obtain ⟨ce315, hce315, hMe315, hcc315⟩ := Kd.S_get HO_19.out z31 x21_4 p315 (by first | exact q315 | exact of_decide_eq_true (by first | (with_reducible assumption) | assumption) | (have e_ := (Kd.S_reads' HO_19.out).1; omega))
                     obtain ⟨ve315_0, ve315_1, ve315_2, rfl, ge315_0, ge315_1, ge315_2⟩ := k31_openM hMe315
                     have hv315_0 := hcc315 0 _ rfl
                     rw [Nat.add_zero] at hv315_0
                     replace hv315_0 := Option.some.inj (hv315_0.symm.trans hx315_0)
                     rw [hv315_0] at ge315_0
                     have HL315_0 := Aside0.mk (show Kd.R (Kd.int .u64) 32 _ _ _ _ ((rd_T31 t302 x21_4).f0) from ge315_0)
                     clear hv315_0 ge315_0
                     have hv315_1 := hcc315 1 _ rfl
                     rw [add_field _ _ 1 (by omega)] at hv315_1
                     replace hv315_1 := Option.some.inj (hv315_1.symm.trans hx315_1)
                     rw [hv315_1] at ge315_1
                     have HL315_1 := Aside0.mk (show Kd.R (Kd.int .u64) 32 _ _ _ _ ((rd_T31 t302 x21_4).f1) from ge315_1)
                     clear hv315_1 ge315_1
                     have hv315_2 := hcc315 2 _ rfl
                     rw [add_field _ _ 2 (by omega)] at hv315_2
                     replace hv315_2 := Option.some.inj (hv315_2.symm.trans hx315_2)
                     rw [hv315_2] at ge315_2
                     have HL315_2 := Aside0.mk (show Kd.R (Kd.int .u64) 32 _ _ _ _ ((rd_T31 t302 x21_4).f2) from ge315_2)
                     clear hv315_2 ge315_2
                     clear hcc315 hce315
                     have HR315_0 := Aside0.mk hi315_0
                     have HC315_0 := Aside0.mk hl315_0
                     clear hi315_0 hl315_0
                     have HR315_1 := Aside0.mk hi315_1
                     have HC315_1 := Aside0.mk hl315_1
                     clear hi315_1 hl315_1
                     have HR315_2 := Aside0.mk hi315_2
                     have HC315_2 := Aside0.mk hl315_2
                     clear hi315_2 hl315_2
                     replace p315 := eq_true p315
                     replace q315 := eq_true q315
                     obtain ⟨rfl, rfl⟩ : A307_0 = A310_0 ∧ c307_0 = c310_0 := by have h_ := Option.some.inj (hx307_0.symm.trans hx310_0); injection h_ with h1_ _ h3_; exact ⟨h1_, h3_⟩
                     obtain ⟨rfl, rfl⟩ : A307_1 = A310_1 ∧ c307_1 = c310_1 := by have h_ := Option.some.inj (hx307_1.symm.trans hx310_1); injection h_ with h1_ _ h3_; exact ⟨h1_, h3_⟩
                     obtain ⟨rfl, rfl⟩ : A307_2 = A310_2 ∧ c307_2 = c310_2 := by have h_ := Option.some.inj (hx307_2.symm.trans hx310_2); injection h_ with h1_ _ h3_; exact ⟨h1_, h3_⟩
                     obtain ⟨rfl, rfl⟩ : A308_0 = A311_0 ∧ c308_0 = c311_0 := by have h_ := Option.some.inj (hx308_0.symm.trans hx311_0); injection h_ with h1_ _ h3_; exact ⟨h1_, h3_⟩
                     obtain ⟨rfl, rfl⟩ : A308_1 = A311_1 ∧ c308_1 = c311_1 := by have h_ := Option.some.inj (hx308_1.symm.trans hx311_1); injection h_ with h1_ _ h3_; exact ⟨h1_, h3_⟩
                     obtain ⟨rfl, rfl⟩ : A308_2 = A311_2 ∧ c308_2 = c311_2 := by have h_ := Option.some.inj (hx308_2.symm.trans hx311_2); injection h_ with h1_ _ h3_; exact ⟨h1_, h3_⟩
                     obtain ⟨rfl, rfl⟩ : A307_0 = A313_0 ∧ c307_0 = c313_0 := by have h_ := Option.some.inj (hx307_0.symm.trans hx313_0); injection h_ with h1_ _ h3_; exact ⟨h1_, h3_⟩
                     obtain ⟨rfl, rfl⟩ : A307_1 = A313_1 ∧ c307_1 = c313_1 := by have h_ := Option.some.inj (hx307_1.symm.trans hx313_1); injection h_ with h1_ _ h3_; exact ⟨h1_, h3_⟩
                     obtain ⟨rfl, rfl⟩ : A307_2 = A313_2 ∧ c307_2 = c313_2 := by have h_ := Option.some.inj (hx307_2.symm.trans hx313_2); injection h_ with h1_ _ h3_; exact ⟨h1_, h3_⟩
                     obtain ⟨rfl, rfl⟩ : A308_0 = A315_0 ∧ c308_0 = c315_0 := by have h_ := Option.some.inj (hx308_0.symm.trans hx315_0); injection h_ with h1_ _ h3_; exact ⟨h1_, h3_⟩
                     obtain ⟨rfl, rfl⟩ : A308_1 = A315_1 ∧ c308_1 = c315_1 := by have h_ := Option.some.inj (hx308_1.symm.trans hx315_1); injection h_ with h1_ _ h3_; exact ⟨h1_, h3_⟩
                     obtain ⟨rfl, rfl⟩ : A308_2 = A315_2 ∧ c308_2 = c315_2 := by have h_ := Option.some.inj (hx308_2.symm.trans hx315_2); injection h_ with h1_ _ h3_; exact ⟨h1_, h3_⟩
                     have p314 : 0 ≤ (0 : Int) := (by omega)
                     have q314 : 0 < (((rd_T31 t298 x21_4).f1).length : Int) := of_decide_eq_true (by first | (with_reducible assumption) | assumption)
                     obtain ⟨ad314, e314, hx314_0⟩ := Kd.at_int (by repeat (first | (with_reducible exact HR313_1.out) | (with_reducible refine Kd.C_alloc ?_ _) | (with_reducible refine Kd.C_drewN ?_ _) | (with_reducible refine Kd.C_drew ?_) | exact HR313_1.out)) 0 p314 q314
                     cases e314
                     have qi314 : (0 < ((rd_T31 t298 x21_4).f1).length) = True := eq_true (by omega)
                     (try rw [show ((0 : Int)).toNat = 0 from rfl] at hx314_0)
                     (try rw [Addr.add_zero'] at hx314_0)
                     replace p314 := eq_true p314
                     replace q314 := eq_true q314
                     have p316 : 0 ≤ (0 : Int) := (by omega)
                     have q316 : 0 < (((rd_T31 t302 x21_4).f1).length : Int) := of_decide_eq_true (by first | (with_reducible assumption) | assumption)
                     obtain ⟨ad316, e316, hx316_0⟩ := Kd.at_int (by repeat (first | (with_reducible exact HR315_1.out) | (with_reducible refine Kd.C_alloc ?_ _) | (with_reducible refine Kd.C_drewN ?_ _) | (with_reducible refine Kd.C_drew ?_) | exact HR315_1.out)) 0 p316 q316
                     cases e316
                     have qi316 : (0 < ((rd_T31 t302 x21_4).f1).length) = True := eq_true (by omega)
                     (try rw [show ((0 : Int)).toNat = 0 from rfl] at hx316_0)
                     (try rw [Addr.add_zero'] at hx316_0)
                     replace p316 := eq_true p316
                     replace q316 := eq_true q316
                     refine start_ (n := 43) (S := fun w' => w'.cell? ⟨gb258, 0, none⟩ = some (.int .i64 4) ∧ w'.cell? ⟨gb258, 1, none⟩ = some (.int .i64 a0) ∧ w'.cell? ⟨gb258, 2, none⟩ = some (.int .i64 0) ∧ w'.cell? ⟨gb258, 3, none⟩ = some (.int .i64 0) ∧ w'.cell? ⟨gb258, 4, none⟩ = some (.int .i64 0) ∧ w'.cell? (ad307.add ((x21_4).toNat * 3)) = some (.slice A307_0 ((rd_T31 t298 x21_4).f0).length c307_0) ∧ w'.cell? ⟨(ad307.add ((x21_4).toNat * 3)).block, (ad307.add ((x21_4).toNat * 3)).off + 1, none⟩ = some (.slice (some ad314) ((rd_T31 t298 x21_4).f1).length c307_1) ∧ w'.cell? ⟨(ad307.add ((x21_4).toNat * 3)).block, (ad307.add ((x21_4).toNat * 3)).off + 2, none⟩ = some (.slice A307_2 ((rd_T31 t298 x21_4).f2).length c307_2) ∧ w'.cell? (ad308.add ((x21_4).toNat * 3)) = some (.slice A308_0 ((rd_T31 t302 x21_4).f0).length c308_0) ∧ w'.cell? ⟨(ad308.add ((x21_4).toNat * 3)).block, (ad308.add ((x21_4).toNat * 3)).off + 1, none⟩ = some (.slice (some ad316) ((rd_T31 t302 x21_4).f1).length c308_1) ∧ w'.cell? ⟨(ad308.add ((x21_4).toNat * 3)).block, (ad308.add ((x21_4).toNat * 3)).off + 2, none⟩ = some (.slice A308_2 ((rd_T31 t302 x21_4).f2).length c308_2) ∧ w'.cell? (ad307.add ((x21_4).toNat * 3)) = some (.slice A307_0 ((rd_T31 t298 x21_4).f0).length c307_0) ∧ w'.cell? ⟨(ad307.add ((x21_4).toNat * 3)).block, (ad307.add ((x21_4).toNat * 3)).off + 1, none⟩ = some (.slice (some ad314) ((rd_T31 t298 x21_4).f1).length c307_1) ∧ w'.cell? ⟨(ad307.add ((x21_4).toNat * 3)).block, (ad307.add ((x21_4).toNat * 3)).off + 2, none⟩ = some (.slice A307_2 ((rd_T31 t298 x21_4).f2).length c307_2) ∧ w'.cell? (ad308.add ((x21_4).toNat * 3)) = some (.slice A308_0 ((rd_T31 t302 x21_4).f0).length c308_0) ∧ w'.cell? ⟨(ad308.add ((x21_4).toNat * 3)).block, (ad308.add ((x21_4).toNat * 3)).off + 1, none⟩ = some (.slice (some ad316) ((rd_T31 t302 x21_4).f1).length c308_1) ∧ w'.cell? ⟨(ad308.add ((x21_4).toNat * 3)).block, (ad308.add ((x21_4).toNat * 3)).off + 2, none⟩ = some (.slice A308_2 ((rd_T31 t302 x21_4).f2).length c308_2) ∧ w'.cell? (ad307.add ((x21_4).toNat * 3)) = some (.slice A307_0 ((rd_T31 t298 x21_4).f0).length c307_0) ∧ w'.cell? ⟨(ad307.add ((x21_4).toNat * 3)).block, (ad307.add ((x21_4).toNat * 3)).off + 1, none⟩ = some (.slice (some ad314) ((rd_T31 t298 x21_4).f1).length c307_1) ∧ w'.cell? ⟨(ad307.add ((x21_4).toNat * 3)).block, (ad307.add ((x21_4).toNat * 3)).off + 2, none⟩ = some (.slice A307_2 ((rd_T31 t298 x21_4).f2).length c307_2) ∧ w'.cell? ad314 = some (.int .u64 (rd ((rd_T31 t298 x21_4).f1) 0)) ∧ w'.cell? (ad308.add ((x21_4).toNat * 3)) = some (.slice A308_0 ((rd_T31 t302 x21_4).f0).length c308_0) ∧ w'.cell? ⟨(ad308.add ((x21_4).toNat * 3)).block, (ad308.add ((x21_4).toNat * 3)).off + 1, none⟩ = some (.slice (some ad316) ((rd_T31 t302 x21_4).f1).length c308_1) ∧ w'.cell? ⟨(ad308.add ((x21_4).toNat * 3)).block, (ad308.add ((x21_4).toNat * 3)).off + 2, none⟩ = some (.slice A308_2 ((rd_T31 t302 x21_4).f2).length c308_2) ∧ w'.cell? ad316 = some (.int .u64 (rd ((rd_T31 t302 x21_4).f1) 0))) (ds := []) #[false,false,false,false,false,false,false,false,false,false,false,false,false,false,false,false,false,false,false,false,false,false,false,false,false,false,false,false,false,false,false,false,false,false,false,false,false,false,false,false,false,false,false] (by kernel_rfl) rfl rfl ⟨(blk_cell BK258.out 0).trans rfl, (blk_cell BK258.out 1).trans rfl, (blk_cell BK258.out 2).trans rfl, (blk_cell BK258.out 3).trans rfl, (blk_cell BK258.out 4).trans rfl, hx307_0, hx307_1, hx307_2, hx308_0, hx308_1, hx308_2, hx310_0, hx310_1, hx310_2, hx311_0, hx311_1, hx311_2, hx313_0, hx313_1, hx313_2, hx314_0, hx315_0, hx315_1, hx315_2, hx316_0⟩ (fun hHeld => ?_); refine with_tabW trefoillaw25_DabitComes.tab22 trefoillaw25_DabitComes.bits22 (fun HT_ HW_ => ?_)
                     generalize wr.drew = w91 at HO_17 HO_19 BK258 HB HL307_0 HL307_1 HL307_2 HL308_0 HL308_1 HL308_2 HL310_0 HL310_1 HL310_2 HL311_0 HL311_1 HL311_2 HL313_0 HL313_1 HL313_2 HL315_0 HL315_1 HL315_2 HR307_0 HR307_1 HR307_2 HR308_0 HR308_1 HR308_2 HR310_0 HR310_1 HR310_2 HR311_0 HR311_1 HR311_2 HR313_0 HR313_1 HR313_2 HR315_0 HR315_1 HR315_2 hx307_0 hx307_1 hx307_2 hx308_0 hx308_1 hx308_2 hx310_0 hx310_1 hx310_2 hx311_0 hx311_1 hx311_2 hx313_0 hx313_1 hx313_2 hx315_0 hx315_1 hx315_2 hHeld ⊢
                     refine pure_ (i := 1) (N := some 134) (v := ?_) (a' := ?_) #[false,true,false,false,false,false,false,false,false,false,false,false,false,false,false,false,false,false,false,false,false,false,false,false,false,false,false,false,false,false,false,false,false,false,false,false,false,false,false,false,false,false,false] rfl rfl (any_of HT_.out (by kernel_rfl)) (fun _ _ _ h => h) (Or.inl ⟨by rfl, ?_⟩) ?_ ?_
                     rotate_left
                     ·intro w'
                      go_simp
                      with_reducible rfl
                     rotate_left
                     ·simp only [Act.put, List.setIfInBounds_toArray, List.set_cons_zero, List.set_cons_succ, i64_w, i32_w]
                      rfl
                     refine pure_ (i := 2) (N := some 135) (v := ?_) (a' := ?_) #[false,true,true,false,false,false,false,false,false,false,false,false,false,false,false,false,false,false,false,false,false,false,false,false,false,false,false,false,false,false,false,false,false,false,false,false,false,false,false,false,false,false,false] rfl rfl (any_of HT_.out (by kernel_rfl)) (fun _ _ _ h => h) (Or.inl ⟨by rfl, ?_⟩) ?_ ?_
                     rotate_left
                     ·intro w'
                      go_simp
                      with_reducible rfl
                     rotate_left
                     ·simp only [Act.put, List.setIfInBounds_toArray, List.set_cons_zero, List.set_cons_succ, i64_w, i32_w]
                      rfl
                     refine pure_ (i := 3) (N := some 136) (v := ?_) (a' := ?_) #[false,true,true,true,false,false,false,false,false,false,false,false,false,false,false,false,false,false,false,false,false,false,false,false,false,false,false,false,false,false,false,false,false,false,false,false,false,false,false,false,false,false,false] rfl rfl (any_of HT_.out (by kernel_rfl)) (fun _ _ _ h => h) (Or.inl ⟨by rfl, ?_⟩) ?_ ?_
                     rotate_left
                     ·intro w'
                      go_simp
                      with_reducible rfl
                     rotate_left
                     ·simp only [Act.put, List.setIfInBounds_toArray, List.set_cons_zero, List.set_cons_succ, i64_w, i32_w]
                      rfl
                     refine pure_ (i := 5) (N := some 138) (v := ?_) (a' := ?_) #[false,true,true,true,false,true,false,false,false,false,false,false,false,false,false,false,false,false,false,false,false,false,false,false,false,false,false,false,false,false,false,false,false,false,false,false,false,false,false,false,false,false,false] rfl rfl (any_of HT_.out (by kernel_rfl)) (fun _ _ _ h => h) (Or.inl ⟨by rfl, ?_⟩) ?_ ?_
                     rotate_left
                     ·intro w'
                      go_simp
                      with_reducible rfl
                     rotate_left
                     ·simp only [Act.put, List.setIfInBounds_toArray, List.set_cons_zero, List.set_cons_succ, i64_w, i32_w]
                      rfl
                     refine pure_ (i := 6) (N := some 139) (v := ?_) (a' := ?_) #[false,true,true,true,false,true,true,false,false,false,false,false,false,false,false,false,false,false,false,false,false,false,false,false,false,false,false,false,false,false,false,false,false,false,false,false,false,false,false,false,false,false,false] rfl rfl (any_of HT_.out (by kernel_rfl)) (fun _ _ _ h => h) (Or.inl ⟨by rfl, ?_⟩) ?_ ?_
                     rotate_left
                     ·intro w'
                      go_simp
                      with_reducible rfl
                     rotate_left
                     ·simp only [Act.put, List.setIfInBounds_toArray, List.set_cons_zero, List.set_cons_succ, i64_w, i32_w]
                      rfl
                     refine pure_ (i := 7) (N := some 140) (v := ?_) (a' := ?_) #[false,true,true,true,false,true,true,true,false,false,false,false,false,false,false,false,false,false,false,false,false,false,false,false,false,false,false,false,false,false,false,false,false,false,false,false,false,false,false,false,false,false,false] rfl rfl (any_of HT_.out (by kernel_rfl)) (fun _ _ _ h => h) (Or.inl ⟨by rfl, ?_⟩) ?_ ?_
                     rotate_left
                     ·intro w'
                      go_simp
                      with_reducible rfl
                     rotate_left
                     ·simp only [Act.put, List.setIfInBounds_toArray, List.set_cons_zero, List.set_cons_succ, i64_w, i32_w]
                      rfl
                     refine take_ (i := 0) (N := some 133) (v := ?_) (a' := ?_) #[true,true,true,true,false,true,true,true,false,false,false,false,false,false,false,false,false,false,false,false,false,false,false,false,false,false,false,false,false,false,false,false,false,false,false,false,false,false,false,false,false,false,false] rfl rfl (take_ofW HT_.out HW_.out (by kernel_rfl)) (fun _ _ _ h => h) (Or.inl ⟨by rfl, ?_⟩) hHeld ?_ ?_
                     rotate_left
                     ·rintro w' ⟨s0, s1, s2, s3, s4, s5, s6, s7, s8, s9, s10, s11, s12, s13, s14, s15, s16, s17, s18, s19, s20, s21, s22, s23, s24⟩
                      go_simp
                      with_reducible rfl
                     rotate_left
                     ·simp only [Act.put, List.setIfInBounds_toArray, List.set_cons_zero, List.set_cons_succ, i64_w, i32_w]
                      rfl
                     refine take_ (i := 4) (N := some 137) (v := ?_) (a' := ?_) #[true,true,true,true,true,true,true,true,false,false,false,false,false,false,false,false,false,false,false,false,false,false,false,false,false,false,false,false,false,false,false,false,false,false,false,false,false,false,false,false,false,false,false] rfl rfl (take_ofW HT_.out HW_.out (by kernel_rfl)) (fun _ _ _ h => h) (Or.inl ⟨by rfl, ?_⟩) hHeld ?_ ?_
                     rotate_left
                     ·rintro w' ⟨s0, s1, s2, s3, s4, s5, s6, s7, s8, s9, s10, s11, s12, s13, s14, s15, s16, s17, s18, s19, s20, s21, s22, s23, s24⟩
                      go_simp
                      with_reducible rfl
                     rotate_left
                     ·simp only [Act.put, List.setIfInBounds_toArray, List.set_cons_zero, List.set_cons_succ, i64_w, i32_w]
                      rfl
                     refine take_ (i := 8) (N := some 141) (v := ?_) (a' := ?_) #[true,true,true,true,true,true,true,true,true,false,false,false,false,false,false,false,false,false,false,false,false,false,false,false,false,false,false,false,false,false,false,false,false,false,false,false,false,false,false,false,false,false,false] rfl rfl (take_ofW HT_.out HW_.out (by kernel_rfl)) (fun _ _ _ h => h) (Or.inl ⟨by rfl, ?_⟩) hHeld ?_ ?_
                     rotate_left
                     ·rintro w' ⟨s0, s1, s2, s3, s4, s5, s6, s7, s8, s9, s10, s11, s12, s13, s14, s15, s16, s17, s18, s19, s20, s21, s22, s23, s24⟩
                      go_simp
                      with_reducible rfl
                     rotate_left
                     ·simp only [Act.put, List.setIfInBounds_toArray, List.set_cons_zero, List.set_cons_succ, i64_w, i32_w]
                      rfl
                     refine one_ (i := 9) (N := some 142) #[true,true,true,true,true,true,true,true,true,true,false,false,false,false,false,false,false,false,false,false,false,false,false,false,false,false,false,false,false,false,false,false,false,false,false,false,false,false,false,false,false,false,false] rfl rfl (one_of HT_.out (by kernel_rfl)) (by decide) (fun K hK => ?_)
                     (try have HR310_0 := HR307_0)
                     (try have HL310_0 := HL307_0)
                     (try have HC310_0 := HC307_0)
                     (try have HR310_1 := HR307_1)
                     (try have HL310_1 := HL307_1)
                     (try have HC310_1 := HC307_1)
                     (try have HR310_2 := HR307_2)
                     (try have HL310_2 := HL307_2)
                     (try have HC310_2 := HC307_2)
                     (try have HR311_0 := HR308_0)
                     (try have HL311_0 := HL308_0)
                     (try have HC311_0 := HC308_0)
                     (try have HR311_1 := HR308_1)
                     (try have HL311_1 := HL308_1)
                     (try have HC311_1 := HC308_1)
                     (try have HR311_2 := HR308_2)
                     (try have HL311_2 := HL308_2)
                     (try have HC311_2 := HC308_2)
                     (try have HR313_0 := HR307_0)
                     (try have HL313_0 := HL307_0)
                     (try have HC313_0 := HC307_0)
                     (try have HR313_1 := HR307_1)
                     (try have HL313_1 := HL307_1)
                     (try have HC313_1 := HC307_1)
                     (try have HR313_2 := HR307_2)
                     (try have HL313_2 := HL307_2)
                     (try have HC313_2 := HC307_2)
                     (try have HR315_0 := HR308_0)
                     (try have HL315_0 := HL308_0)
                     (try have HC315_0 := HC308_0)
                     (try have HR315_1 := HR308_1)
                     (try have HL315_1 := HL308_1)
                     (try have HC315_1 := HC308_1)
                     (try have HR315_2 := HR308_2)
                     (try have HL315_2 := HL308_2)
                     (try have HC315_2 := HC308_2)
                     refine goes_ Try.func12 (by kernel_rfl) rfl #[.agg #[.int .i64 4, .int .i64 a0, .int .i64 0, .int .i64 0, .int .i64 0], .agg #[.slice A307_0 ((rd_T31 t298 x21_4).f0).length c307_0, .slice (some ad314) ((rd_T31 t298 x21_4).f1).length c307_1, .slice A307_2 ((rd_T31 t298 x21_4).f2).length c307_2], .agg #[.slice A308_0 ((rd_T31 t302 x21_4).f0).length c308_0, .slice (some ad316) ((rd_T31 t302 x21_4).f1).length c308_1, .slice A308_2 ((rd_T31 t302 x21_4).f2).length c308_2]] (by rfl) rfl rfl (by (try simp only [List.map_toArray, List.map_cons, List.map_nil]); first | done | rfl | (simp only [List.length_drop, List.length_take]; rfl)) ?_
                     with_reducible refine (trefoilref25_Right.calls k4 4 a0 0 0 0 _ _ ((rd_T31 t298 x21_4).f0) _ _ ((rd_T31 t298 x21_4).f1) _ _ ((rd_T31 t298 x21_4).f2) _ _ ((rd_T31 t302 x21_4).f0) _ _ ((rd_T31 t302 x21_4).f1) _ _ ((rd_T31 t302 x21_4).f2) true _ ?side1 ?side2 ?side3 ?side4 ?side5 ?side6 ?side7 ?side8 ?side9 ?side10 ?side11 ?side12 A83.out).mono ?_
                     (case side1 => repeat (first | exact (by repeat (first | (with_reducible exact HR307_0.out) | (with_reducible refine Kd.C_alloc ?_ _) | (with_reducible refine Kd.C_drewN ?_ _) | (with_reducible refine Kd.C_drew ?_) | exact HR307_0.out)) | (with_reducible refine Kd.C_alloc ?_ _) | (with_reducible refine Kd.C_drewN ?_ _) | (with_reducible refine Kd.C_drew ?_)))
                     (case side2 => exact HC307_0.out)
                     (case side3 => repeat (first | exact (by repeat (first | (with_reducible exact HR307_1.out) | (with_reducible refine Kd.C_alloc ?_ _) | (with_reducible refine Kd.C_drewN ?_ _) | (with_reducible refine Kd.C_drew ?_) | exact HR307_1.out)) | (with_reducible refine Kd.C_alloc ?_ _) | (with_reducible refine Kd.C_drewN ?_ _) | (with_reducible refine Kd.C_drew ?_)))
                     (case side4 => exact HC307_1.out)
                     (case side5 => repeat (first | exact (by repeat (first | (with_reducible exact HR307_2.out) | (with_reducible refine Kd.C_alloc ?_ _) | (with_reducible refine Kd.C_drewN ?_ _) | (with_reducible refine Kd.C_drew ?_) | exact HR307_2.out)) | (with_reducible refine Kd.C_alloc ?_ _) | (with_reducible refine Kd.C_drewN ?_ _) | (with_reducible refine Kd.C_drew ?_)))
                     (case side6 => exact HC307_2.out)
                     (case side7 => repeat (first | exact (by repeat (first | (with_reducible exact HR308_0.out) | (with_reducible refine Kd.C_alloc ?_ _) | (with_reducible refine Kd.C_drewN ?_ _) | (with_reducible refine Kd.C_drew ?_) | exact HR308_0.out)) | (with_reducible refine Kd.C_alloc ?_ _) | (with_reducible refine Kd.C_drewN ?_ _) | (with_reducible refine Kd.C_drew ?_)))
                     (case side8 => exact HC308_0.out)
                     (case side9 => repeat (first | exact (by repeat (first | (with_reducible exact HR308_1.out) | (with_reducible refine Kd.C_alloc ?_ _) | (with_reducible refine Kd.C_drewN ?_ _) | (with_reducible refine Kd.C_drew ?_) | exact HR308_1.out)) | (with_reducible refine Kd.C_alloc ?_ _) | (with_reducible refine Kd.C_drewN ?_ _) | (with_reducible refine Kd.C_drew ?_)))
                     (case side10 => exact HC308_1.out)
                     (case side11 => repeat (first | exact (by repeat (first | (with_reducible exact HR308_2.out) | (with_reducible refine Kd.C_alloc ?_ _) | (with_reducible refine Kd.C_drewN ?_ _) | (with_reducible refine Kd.C_drew ?_) | exact HR308_2.out)) | (with_reducible refine Kd.C_alloc ?_ _) | (with_reducible refine Kd.C_drewN ?_ _) | (with_reducible refine Kd.C_drew ?_)))
                     (case side12 => exact HC308_2.out)
                     rintro e w94 ⟨rfl, hb⟩
                     have HS5_ := pw_cell_below hb hHeld.2.2.2.2.2.1
                     have HS6_ := pw_cell_below hb hHeld.2.2.2.2.2.2.1
                     have HS7_ := pw_cell_below hb hHeld.2.2.2.2.2.2.2.1
                     have HS8_ := pw_cell_below hb hHeld.2.2.2.2.2.2.2.2.1
                     have HS9_ := pw_cell_below hb hHeld.2.2.2.2.2.2.2.2.2.1
                     have HS10_ := pw_cell_below hb hHeld.2.2.2.2.2.2.2.2.2.2.1
                     have HS11_ := pw_cell_below hb hHeld.2.2.2.2.2.2.2.2.2.2.2.1
                     have HS12_ := pw_cell_below hb hHeld.2.2.2.2.2.2.2.2.2.2.2.2.1
                     have HS13_ := pw_cell_below hb hHeld.2.2.2.2.2.2.2.2.2.2.2.2.2.1
                     have HS14_ := pw_cell_below hb hHeld.2.2.2.2.2.2.2.2.2.2.2.2.2.2.1
                     have HS15_ := pw_cell_below hb hHeld.2.2.2.2.2.2.2.2.2.2.2.2.2.2.2.1
                     have HS16_ := pw_cell_below hb hHeld.2.2.2.2.2.2.2.2.2.2.2.2.2.2.2.2.1
                     have HS17_ := pw_cell_below hb hHeld.2.2.2.2.2.2.2.2.2.2.2.2.2.2.2.2.2.1
                     have HS18_ := pw_cell_below hb hHeld.2.2.2.2.2.2.2.2.2.2.2.2.2.2.2.2.2.2.1
                     have HS19_ := pw_cell_below hb hHeld.2.2.2.2.2.2.2.2.2.2.2.2.2.2.2.2.2.2.2.1
                     have HS20_ := pw_cell_below hb hHeld.2.2.2.2.2.2.2.2.2.2.2.2.2.2.2.2.2.2.2.2.1
                     have HS21_ := pw_cell_below hb hHeld.2.2.2.2.2.2.2.2.2.2.2.2.2.2.2.2.2.2.2.2.2.1
                     have HS22_ := pw_cell_below hb hHeld.2.2.2.2.2.2.2.2.2.2.2.2.2.2.2.2.2.2.2.2.2.2.1
                     have HS23_ := pw_cell_below hb hHeld.2.2.2.2.2.2.2.2.2.2.2.2.2.2.2.2.2.2.2.2.2.2.2.1
                     have HS24_ := pw_cell_below hb hHeld.2.2.2.2.2.2.2.2.2.2.2.2.2.2.2.2.2.2.2.2.2.2.2.2
                     refine ⟨_, rfl, ?_⟩
                     have n0_ := Aside0.mk (Kd.S_below (by (with_reducible repeat (first | apply Kd.S_alloc | apply Kd.S_drewN | apply Kd.S_drew)); exact HO_17.out) hb)
                     have n1_ := Aside0.mk (Kd.S_below (by (with_reducible repeat (first | apply Kd.S_alloc | apply Kd.S_drewN | apply Kd.S_drew)); exact HO_19.out) hb)
                     have n2_ := Aside0.mk (Kd.R_below (by (with_reducible repeat (first | apply Kd.R_alloc | apply Kd.R_drewN | apply Kd.R_drew)); exact HL307_0.out) hb)
                     have n3_ := Aside0.mk (Kd.R_below (by (with_reducible repeat (first | apply Kd.R_alloc | apply Kd.R_drewN | apply Kd.R_drew)); exact HL307_1.out) hb)
                     have n4_ := Aside0.mk (Kd.R_below (by (with_reducible repeat (first | apply Kd.R_alloc | apply Kd.R_drewN | apply Kd.R_drew)); exact HL307_2.out) hb)
                     have n5_ := Aside0.mk (Kd.R_below (by (with_reducible repeat (first | apply Kd.R_alloc | apply Kd.R_drewN | apply Kd.R_drew)); exact HL308_0.out) hb)
                     have n6_ := Aside0.mk (Kd.R_below (by (with_reducible repeat (first | apply Kd.R_alloc | apply Kd.R_drewN | apply Kd.R_drew)); exact HL308_1.out) hb)
                     have n7_ := Aside0.mk (Kd.R_below (by (with_reducible repeat (first | apply Kd.R_alloc | apply Kd.R_drewN | apply Kd.R_drew)); exact HL308_2.out) hb)
                     have n8_ := Aside0.mk (blk_below (g := gb258) (o := .cells #[.int .i64 4, .int .i64 a0, .int .i64 0, .int .i64 0, .int .i64 0] 25 (0, 0)) (by (with_reducible repeat (first | refine blk_drewN ?_ _ | refine blk_drew ?_ | refine blk_alloc ?_ _)); exact BK258.out) hb)
                     have n9_ := Aside0.mk (Kd.C_below (by repeat (first | (with_reducible exact HR307_0.out) | (with_reducible refine Kd.C_alloc ?_ _) | (with_reducible refine Kd.C_drewN ?_ _) | (with_reducible refine Kd.C_drew ?_) | exact HR307_0.out)) hb)
                     have n10_ := Aside0.mk (Kd.C_below (by repeat (first | (with_reducible exact HR307_1.out) | (with_reducible refine Kd.C_alloc ?_ _) | (with_reducible refine Kd.C_drewN ?_ _) | (with_reducible refine Kd.C_drew ?_) | exact HR307_1.out)) hb)
                     have n11_ := Aside0.mk (Kd.C_below (by repeat (first | (with_reducible exact HR307_2.out) | (with_reducible refine Kd.C_alloc ?_ _) | (with_reducible refine Kd.C_drewN ?_ _) | (with_reducible refine Kd.C_drew ?_) | exact HR307_2.out)) hb)
                     have n12_ := Aside0.mk (Kd.C_below (by repeat (first | (with_reducible exact HR308_0.out) | (with_reducible refine Kd.C_alloc ?_ _) | (with_reducible refine Kd.C_drewN ?_ _) | (with_reducible refine Kd.C_drew ?_) | exact HR308_0.out)) hb)
                     have n13_ := Aside0.mk (Kd.C_below (by repeat (first | (with_reducible exact HR308_1.out) | (with_reducible refine Kd.C_alloc ?_ _) | (with_reducible refine Kd.C_drewN ?_ _) | (with_reducible refine Kd.C_drew ?_) | exact HR308_1.out)) hb)
                     have n14_ := Aside0.mk (Kd.C_below (by repeat (first | (with_reducible exact HR308_2.out) | (with_reducible refine Kd.C_alloc ?_ _) | (with_reducible refine Kd.C_drewN ?_ _) | (with_reducible refine Kd.C_drew ?_) | exact HR308_2.out)) hb)
                     have n15_ := Aside0.mk (below_step (by repeat (first | (with_reducible first | exact HB.out | apply below_alloc | apply pw_below_drewN | apply below_drew1 | refine below_set ?_ GE258.out) | exact HB.out)) hb)
                     clear HO_17
                     clear HO_19
                     clear HL307_0
                     clear HL307_1
                     clear HL307_2
                     clear HL308_0
                     clear HL308_1
                     clear HL308_2
                     clear BK258
                     clear HR307_0
                     clear HR307_1
                     clear HR307_2
                     clear HR308_0
                     clear HR308_1
                     clear HR308_2
                     clear HB
                     have HO_17 := n0_
                     have HO_19 := n1_
                     have HL307_0 := n2_
                     have HL307_1 := n3_
                     have HL307_2 := n4_
                     have HL308_0 := n5_
                     have HL308_1 := n6_
                     have HL308_2 := n7_
                     have BK258 := n8_
                     have HR307_0 := n9_
                     have HR307_1 := n10_
                     have HR307_2 := n11_
                     have HR308_0 := n12_
                     have HR308_1 := n13_
                     have HR308_2 := n14_
                     have HB := n15_
                     clear n0_ n1_ n2_ n3_ n4_ n5_ n6_ n7_ n8_ n9_ n10_ n11_ n12_ n13_ n14_ n15_
                     (try clear hb)
                     (try clear hb2)
                     (try clear hk)
                     (try clear hi)
                     refine hK.out _ _ ⟨(blk_cell BK258.out 0).trans rfl, (blk_cell BK258.out 1).trans rfl, (blk_cell BK258.out 2).trans rfl, (blk_cell BK258.out 3).trans rfl, (blk_cell BK258.out 4).trans rfl, HS5_, HS6_, HS7_, HS8_, HS9_, HS10_, HS11_, HS12_, HS13_, HS14_, HS15_, HS16_, HS17_, HS18_, HS19_, HS20_, HS21_, HS22_, HS23_, HS24_⟩ (fun hHeld => ?_)
                     clear hK K
                     refine norm_ (a' := ?_) ?_ ?_
                     rotate_left
                     ·show Act.put _ (some 142) _ = _
                      simp only [Act.put, List.setIfInBounds_toArray, List.set_cons_zero, List.set_cons_succ, i64_w, i32_w]
                      rfl
                     refine pure_ (i := 10) (N := some 143) (v := ?_) (a' := ?_) #[true,true,true,true,true,true,true,true,true,true,true,false,false,false,false,false,false,false,false,false,false,false,false,false,false,false,false,false,false,false,false,false,false,false,false,false,false,false,false,false,false,false,false] rfl rfl (any_of HT_.out (by kernel_rfl)) (fun _ _ _ h => h) (Or.inl ⟨by rfl, ?_⟩) ?_ ?_
                     rotate_left
                     ·intro w'
                      go_simp
                      with_reducible rfl
                     rotate_left
                     ·simp only [Act.put, List.setIfInBounds_toArray, List.set_cons_zero, List.set_cons_succ, i64_w, i32_w]
                      rfl
                     refine pure_ (i := 11) (N := some 144) (v := ?_) (a' := ?_) #[true,true,true,true,true,true,true,true,true,true,true,true,false,false,false,false,false,false,false,false,false,false,false,false,false,false,false,false,false,false,false,false,false,false,false,false,false,false,false,false,false,false,false] rfl rfl (any_of HT_.out (by kernel_rfl)) (fun _ _ _ h => h) (Or.inl ⟨by rfl, ?_⟩) ?_ ?_
                     rotate_left
                     ·intro w'
                      go_simp
                      with_reducible rfl
                     rotate_left
                     ·simp only [Act.put, List.setIfInBounds_toArray, List.set_cons_zero, List.set_cons_succ, i64_w, i32_w]
                      rfl
                     refine pure_ (i := 13) (N := some 146) (v := ?_) (a' := ?_) #[true,true,true,true,true,true,true,true,true,true,true,true,false,true,false,false,false,false,false,false,false,false,false,false,false,false,false,false,false,false,false,false,false,false,false,false,false,false,false,false,false,false,false] rfl rfl (any_of HT_.out (by kernel_rfl)) (fun _ _ _ h => h) (Or.inl ⟨by rfl, ?_⟩) ?_ ?_
                     rotate_left
                     ·intro w'
                      go_simp
                      with_reducible rfl
                     rotate_left
                     ·simp only [Act.put, List.setIfInBounds_toArray, List.set_cons_zero, List.set_cons_succ, i64_w, i32_w]
                      rfl
                     refine pure_ (i := 14) (N := some 147) (v := ?_) (a' := ?_) #[true,true,true,true,true,true,true,true,true,true,true,true,false,true,true,false,false,false,false,false,false,false,false,false,false,false,false,false,false,false,false,false,false,false,false,false,false,false,false,false,false,false,false] rfl rfl (any_of HT_.out (by kernel_rfl)) (fun _ _ _ h => h) (Or.inl ⟨by rfl, ?_⟩) ?_ ?_
                     rotate_left
                     ·intro w'
                      go_simp
                      with_reducible rfl
                     rotate_left
                     ·simp only [Act.put, List.setIfInBounds_toArray, List.set_cons_zero, List.set_cons_succ, i64_w, i32_w]
                      rfl
                     refine pure_ (i := 15) (N := some 148) (v := ?_) (a' := ?_) #[true,true,true,true,true,true,true,true,true,true,true,true,false,true,true,true,false,false,false,false,false,false,false,false,false,false,false,false,false,false,false,false,false,false,false,false,false,false,false,false,false,false,false] rfl rfl (any_of HT_.out (by kernel_rfl)) (fun _ _ _ h => h) (Or.inl ⟨by rfl, ?_⟩) ?_ ?_
                     rotate_left
                     ·intro w'
                      go_simp
                      with_reducible rfl
                     rotate_left
                     ·simp only [Act.put, List.setIfInBounds_toArray, List.set_cons_zero, List.set_cons_succ, i64_w, i32_w]
                      rfl
                     refine pure_ (i := 17) (N := some 150) (v := ?_) (a' := ?_) #[true,true,true,true,true,true,true,true,true,true,true,true,false,true,true,true,false,true,false,false,false,false,false,false,false,false,false,false,false,false,false,false,false,false,false,false,false,false,false,false,false,false,false] rfl rfl (any_of HT_.out (by kernel_rfl)) (fun _ _ _ h => h) (Or.inl ⟨by rfl, ?_⟩) ?_ ?_
                     rotate_left
                     ·intro w'
                      go_simp
                      with_reducible rfl
                     rotate_left
                     ·simp only [Act.put, List.setIfInBounds_toArray, List.set_cons_zero, List.set_cons_succ, i64_w, i32_w]
                      rfl
                     refine pure_ (i := 18) (N := some 151) (v := ?_) (a' := ?_) #[true,true,true,true,true,true,true,true,true,true,true,true,false,true,true,true,false,true,true,false,false,false,false,false,false,false,false,false,false,false,false,false,false,false,false,false,false,false,false,false,false,false,false] rfl rfl (any_of HT_.out (by kernel_rfl)) (fun _ _ _ h => h) (Or.inl ⟨by rfl, ?_⟩) ?_ ?_
                     rotate_left
                     ·intro w'
                      go_simp
                      with_reducible rfl
                     rotate_left
                     ·simp only [Act.put, List.setIfInBounds_toArray, List.set_cons_zero, List.set_cons_succ, i64_w, i32_w]
                      rfl
                     refine pure_ (i := 19) (N := some 152) (v := ?_) (a' := ?_) #[true,true,true,true,true,true,true,true,true,true,true,true,false,true,true,true,false,true,true,true,false,false,false,false,false,false,false,false,false,false,false,false,false,false,false,false,false,false,false,false,false,false,false] rfl rfl (any_of HT_.out (by kernel_rfl)) (fun _ _ _ h => h) (Or.inl ⟨by rfl, ?_⟩) ?_ ?_
                     rotate_left
                     ·intro w'
                      go_simp
                      with_reducible rfl
                     rotate_left
                     ·simp only [Act.put, List.setIfInBounds_toArray, List.set_cons_zero, List.set_cons_succ, i64_w, i32_w]
                      rfl
                     refine take_ (i := 12) (N := some 145) (v := ?_) (a' := ?_) #[true,true,true,true,true,true,true,true,true,true,true,true,true,true,true,true,false,true,true,true,false,false,false,false,false,false,false,false,false,false,false,false,false,false,false,false,false,false,false,false,false,false,false] rfl rfl (take_ofW HT_.out HW_.out (by kernel_rfl)) (fun _ _ _ h => h) (Or.inl ⟨by rfl, ?_⟩) hHeld ?_ ?_
                     rotate_left
                     ·rintro w' ⟨s0, s1, s2, s3, s4, s5, s6, s7, s8, s9, s10, s11, s12, s13, s14, s15, s16, s17, s18, s19, s20, s21, s22, s23, s24⟩
                      go_simp
                      with_reducible rfl
                     rotate_left
                     ·simp only [Act.put, List.setIfInBounds_toArray, List.set_cons_zero, List.set_cons_succ, i64_w, i32_w]
                      rfl
                     refine take_ (i := 16) (N := some 149) (v := ?_) (a' := ?_) #[true,true,true,true,true,true,true,true,true,true,true,true,true,true,true,true,true,true,true,true,false,false,false,false,false,false,false,false,false,false,false,false,false,false,false,false,false,false,false,false,false,false,false] rfl rfl (take_ofW HT_.out HW_.out (by kernel_rfl)) (fun _ _ _ h => h) (Or.inl ⟨by rfl, ?_⟩) hHeld ?_ ?_
                     rotate_left
                     ·rintro w' ⟨s0, s1, s2, s3, s4, s5, s6, s7, s8, s9, s10, s11, s12, s13, s14, s15, s16, s17, s18, s19, s20, s21, s22, s23, s24⟩
                      go_simp
                      with_reducible rfl
                     rotate_left
                     ·simp only [Act.put, List.setIfInBounds_toArray, List.set_cons_zero, List.set_cons_succ, i64_w, i32_w]
                      rfl
                     refine take_ (i := 20) (N := some 153) (v := ?_) (a' := ?_) #[true,true,true,true,true,true,true,true,true,true,true,true,true,true,true,true,true,true,true,true,true,false,false,false,false,false,false,false,false,false,false,false,false,false,false,false,false,false,false,false,false,false,false] rfl rfl (take_ofW HT_.out HW_.out (by kernel_rfl)) (fun _ _ _ h => h) (Or.inl ⟨by rfl, ?_⟩) hHeld ?_ ?_
                     rotate_left
                     ·rintro w' ⟨s0, s1, s2, s3, s4, s5, s6, s7, s8, s9, s10, s11, s12, s13, s14, s15, s16, s17, s18, s19, s20, s21, s22, s23, s24⟩
                      go_simp
                      with_reducible rfl
                     rotate_left
                     ·simp only [Act.put, List.setIfInBounds_toArray, List.set_cons_zero, List.set_cons_succ, i64_w, i32_w]
                      rfl
                     refine one_ (i := 21) (N := some 154) #[true,true,true,true,true,true,true,true,true,true,true,true,true,true,true,true,true,true,true,true,true,true,false,false,false,false,false,false,false,false,false,false,false,false,false,false,false,false,false,false,false,false,false] rfl rfl (one_of HT_.out (by kernel_rfl)) (by decide) (fun K hK => ?_)
                     (try have HR310_0 := HR307_0)
                     (try have HL310_0 := HL307_0)
                     (try have HC310_0 := HC307_0)
                     (try have HR310_1 := HR307_1)
                     (try have HL310_1 := HL307_1)
                     (try have HC310_1 := HC307_1)
                     (try have HR310_2 := HR307_2)
                     (try have HL310_2 := HL307_2)
                     (try have HC310_2 := HC307_2)
                     (try have HR311_0 := HR308_0)
                     (try have HL311_0 := HL308_0)
                     (try have HC311_0 := HC308_0)
                     (try have HR311_1 := HR308_1)
                     (try have HL311_1 := HL308_1)
                     (try have HC311_1 := HC308_1)
                     (try have HR311_2 := HR308_2)
                     (try have HL311_2 := HL308_2)
                     (try have HC311_2 := HC308_2)
                     (try have HR313_0 := HR307_0)
                     (try have HL313_0 := HL307_0)
                     (try have HC313_0 := HC307_0)
                     (try have HR313_1 := HR307_1)
                     (try have HL313_1 := HL307_1)
                     (try have HC313_1 := HC307_1)
                     (try have HR313_2 := HR307_2)
                     (try have HL313_2 := HL307_2)
                     (try have HC313_2 := HC307_2)
                     (try have HR315_0 := HR308_0)
                     (try have HL315_0 := HL308_0)
                     (try have HC315_0 := HC308_0)
                     (try have HR315_1 := HR308_1)
                     (try have HL315_1 := HL308_1)
                     (try have HC315_1 := HC308_1)
                     (try have HR315_2 := HR308_2)
                     (try have HL315_2 := HL308_2)
                     (try have HC315_2 := HC308_2)
                     refine goes_ Try.func13 (by kernel_rfl) rfl #[.agg #[.int .i64 4, .int .i64 a0, .int .i64 0, .int .i64 0, .int .i64 0], .agg #[.slice A307_0 ((rd_T31 t298 x21_4).f0).length c307_0, .slice (some ad314) ((rd_T31 t298 x21_4).f1).length c307_1, .slice A307_2 ((rd_T31 t298 x21_4).f2).length c307_2], .agg #[.slice A308_0 ((rd_T31 t302 x21_4).f0).length c308_0, .slice (some ad316) ((rd_T31 t302 x21_4).f1).length c308_1, .slice A308_2 ((rd_T31 t302 x21_4).f2).length c308_2]] (by rfl) rfl rfl (by (try simp only [List.map_toArray, List.map_cons, List.map_nil]); first | done | rfl | (simp only [List.length_drop, List.length_take]; rfl)) ?_
                     with_reducible refine (dabit_Right.calls k4 4 a0 0 0 0 _ _ ((rd_T31 t298 x21_4).f0) _ _ ((rd_T31 t298 x21_4).f1) _ _ ((rd_T31 t298 x21_4).f2) _ _ ((rd_T31 t302 x21_4).f0) _ _ ((rd_T31 t302 x21_4).f1) _ _ ((rd_T31 t302 x21_4).f2) true _ ?side1 ?side2 ?side3 ?side4 ?side5 ?side6 ?side7 ?side8 ?side9 ?side10 ?side11 ?side12 A85.out).mono ?_
                     (case side1 => repeat (first | exact (by repeat (first | (with_reducible exact HR310_0.out) | (with_reducible refine Kd.C_alloc ?_ _) | (with_reducible refine Kd.C_drewN ?_ _) | (with_reducible refine Kd.C_drew ?_) | exact HR310_0.out)) | (with_reducible refine Kd.C_alloc ?_ _) | (with_reducible refine Kd.C_drewN ?_ _) | (with_reducible refine Kd.C_drew ?_)))
                     (case side2 => exact HC310_0.out)
                     (case side3 => repeat (first | exact (by repeat (first | (with_reducible exact HR310_1.out) | (with_reducible refine Kd.C_alloc ?_ _) | (with_reducible refine Kd.C_drewN ?_ _) | (with_reducible refine Kd.C_drew ?_) | exact HR310_1.out)) | (with_reducible refine Kd.C_alloc ?_ _) | (with_reducible refine Kd.C_drewN ?_ _) | (with_reducible refine Kd.C_drew ?_)))
                     (case side4 => exact HC310_1.out)
                     (case side5 => repeat (first | exact (by repeat (first | (with_reducible exact HR310_2.out) | (with_reducible refine Kd.C_alloc ?_ _) | (with_reducible refine Kd.C_drewN ?_ _) | (with_reducible refine Kd.C_drew ?_) | exact HR310_2.out)) | (with_reducible refine Kd.C_alloc ?_ _) | (with_reducible refine Kd.C_drewN ?_ _) | (with_reducible refine Kd.C_drew ?_)))
                     (case side6 => exact HC310_2.out)
                     (case side7 => repeat (first | exact (by repeat (first | (with_reducible exact HR311_0.out) | (with_reducible refine Kd.C_alloc ?_ _) | (with_reducible refine Kd.C_drewN ?_ _) | (with_reducible refine Kd.C_drew ?_) | exact HR311_0.out)) | (with_reducible refine Kd.C_alloc ?_ _) | (with_reducible refine Kd.C_drewN ?_ _) | (with_reducible refine Kd.C_drew ?_)))
                     (case side8 => exact HC311_0.out)
                     (case side9 => repeat (first | exact (by repeat (first | (with_reducible exact HR311_1.out) | (with_reducible refine Kd.C_alloc ?_ _) | (with_reducible refine Kd.C_drewN ?_ _) | (with_reducible refine Kd.C_drew ?_) | exact HR311_1.out)) | (with_reducible refine Kd.C_alloc ?_ _) | (with_reducible refine Kd.C_drewN ?_ _) | (with_reducible refine Kd.C_drew ?_)))
                     (case side10 => exact HC311_1.out)
                     (case side11 => repeat (first | exact (by repeat (first | (with_reducible exact HR311_2.out) | (with_reducible refine Kd.C_alloc ?_ _) | (with_reducible refine Kd.C_drewN ?_ _) | (with_reducible refine Kd.C_drew ?_) | exact HR311_2.out)) | (with_reducible refine Kd.C_alloc ?_ _) | (with_reducible refine Kd.C_drewN ?_ _) | (with_reducible refine Kd.C_drew ?_)))
                     (case side12 => exact HC311_2.out)
                     rintro e w95 ⟨rfl, hb⟩
                     have HS5_ := pw_cell_below hb hHeld.2.2.2.2.2.1
                     have HS6_ := pw_cell_below hb hHeld.2.2.2.2.2.2.1
                     have HS7_ := pw_cell_below hb hHeld.2.2.2.2.2.2.2.1
                     have HS8_ := pw_cell_below hb hHeld.2.2.2.2.2.2.2.2.1
                     have HS9_ := pw_cell_below hb hHeld.2.2.2.2.2.2.2.2.2.1
                     have HS10_ := pw_cell_below hb hHeld.2.2.2.2.2.2.2.2.2.2.1
                     have HS11_ := pw_cell_below hb hHeld.2.2.2.2.2.2.2.2.2.2.2.1
                     have HS12_ := pw_cell_below hb hHeld.2.2.2.2.2.2.2.2.2.2.2.2.1
                     have HS13_ := pw_cell_below hb hHeld.2.2.2.2.2.2.2.2.2.2.2.2.2.1
                     have HS14_ := pw_cell_below hb hHeld.2.2.2.2.2.2.2.2.2.2.2.2.2.2.1
                     have HS15_ := pw_cell_below hb hHeld.2.2.2.2.2.2.2.2.2.2.2.2.2.2.2.1
                     have HS16_ := pw_cell_below hb hHeld.2.2.2.2.2.2.2.2.2.2.2.2.2.2.2.2.1
                     have HS17_ := pw_cell_below hb hHeld.2.2.2.2.2.2.2.2.2.2.2.2.2.2.2.2.2.1
                     have HS18_ := pw_cell_below hb hHeld.2.2.2.2.2.2.2.2.2.2.2.2.2.2.2.2.2.2.1
                     have HS19_ := pw_cell_below hb hHeld.2.2.2.2.2.2.2.2.2.2.2.2.2.2.2.2.2.2.2.1
                     have HS20_ := pw_cell_below hb hHeld.2.2.2.2.2.2.2.2.2.2.2.2.2.2.2.2.2.2.2.2.1
                     have HS21_ := pw_cell_below hb hHeld.2.2.2.2.2.2.2.2.2.2.2.2.2.2.2.2.2.2.2.2.2.1
                     have HS22_ := pw_cell_below hb hHeld.2.2.2.2.2.2.2.2.2.2.2.2.2.2.2.2.2.2.2.2.2.2.1
                     have HS23_ := pw_cell_below hb hHeld.2.2.2.2.2.2.2.2.2.2.2.2.2.2.2.2.2.2.2.2.2.2.2.1
                     have HS24_ := pw_cell_below hb hHeld.2.2.2.2.2.2.2.2.2.2.2.2.2.2.2.2.2.2.2.2.2.2.2.2
                     refine ⟨_, rfl, ?_⟩
                     have n0_ := Aside0.mk (Kd.S_below (by (with_reducible repeat (first | apply Kd.S_alloc | apply Kd.S_drewN | apply Kd.S_drew)); exact HO_17.out) hb)
                     have n1_ := Aside0.mk (Kd.S_below (by (with_reducible repeat (first | apply Kd.S_alloc | apply Kd.S_drewN | apply Kd.S_drew)); exact HO_19.out) hb)
                     have n2_ := Aside0.mk (Kd.R_below (by (with_reducible repeat (first | apply Kd.R_alloc | apply Kd.R_drewN | apply Kd.R_drew)); exact HL307_0.out) hb)
                     have n3_ := Aside0.mk (Kd.R_below (by (with_reducible repeat (first | apply Kd.R_alloc | apply Kd.R_drewN | apply Kd.R_drew)); exact HL307_1.out) hb)
                     have n4_ := Aside0.mk (Kd.R_below (by (with_reducible repeat (first | apply Kd.R_alloc | apply Kd.R_drewN | apply Kd.R_drew)); exact HL307_2.out) hb)
                     have n5_ := Aside0.mk (Kd.R_below (by (with_reducible repeat (first | apply Kd.R_alloc | apply Kd.R_drewN | apply Kd.R_drew)); exact HL308_0.out) hb)
                     have n6_ := Aside0.mk (Kd.R_below (by (with_reducible repeat (first | apply Kd.R_alloc | apply Kd.R_drewN | apply Kd.R_drew)); exact HL308_1.out) hb)
                     have n7_ := Aside0.mk (Kd.R_below (by (with_reducible repeat (first | apply Kd.R_alloc | apply Kd.R_drewN | apply Kd.R_drew)); exact HL308_2.out) hb)
                     have n8_ := Aside0.mk (Kd.R_below (by (with_reducible repeat (first | apply Kd.R_alloc | apply Kd.R_drewN | apply Kd.R_drew)); exact HL310_0.out) hb)
                     have n9_ := Aside0.mk (Kd.R_below (by (with_reducible repeat (first | apply Kd.R_alloc | apply Kd.R_drewN | apply Kd.R_drew)); exact HL310_1.out) hb)
                     have n10_ := Aside0.mk (Kd.R_below (by (with_reducible repeat (first | apply Kd.R_alloc | apply Kd.R_drewN | apply Kd.R_drew)); exact HL310_2.out) hb)
                     have n11_ := Aside0.mk (Kd.R_below (by (with_reducible repeat (first | apply Kd.R_alloc | apply Kd.R_drewN | apply Kd.R_drew)); exact HL311_0.out) hb)
                     have n12_ := Aside0.mk (Kd.R_below (by (with_reducible repeat (first | apply Kd.R_alloc | apply Kd.R_drewN | apply Kd.R_drew)); exact HL311_1.out) hb)
                     have n13_ := Aside0.mk (Kd.R_below (by (with_reducible repeat (first | apply Kd.R_alloc | apply Kd.R_drewN | apply Kd.R_drew)); exact HL311_2.out) hb)
                     have n14_ := Aside0.mk (blk_below (g := gb258) (o := .cells #[.int .i64 4, .int .i64 a0, .int .i64 0, .int .i64 0, .int .i64 0] 25 (0, 0)) (by (with_reducible repeat (first | refine blk_drewN ?_ _ | refine blk_drew ?_ | refine blk_alloc ?_ _)); exact BK258.out) hb)
                     have n15_ := Aside0.mk (Kd.C_below (by repeat (first | (with_reducible exact HR307_0.out) | (with_reducible refine Kd.C_alloc ?_ _) | (with_reducible refine Kd.C_drewN ?_ _) | (with_reducible refine Kd.C_drew ?_) | exact HR307_0.out)) hb)
                     have n16_ := Aside0.mk (Kd.C_below (by repeat (first | (with_reducible exact HR307_1.out) | (with_reducible refine Kd.C_alloc ?_ _) | (with_reducible refine Kd.C_drewN ?_ _) | (with_reducible refine Kd.C_drew ?_) | exact HR307_1.out)) hb)
                     have n17_ := Aside0.mk (Kd.C_below (by repeat (first | (with_reducible exact HR307_2.out) | (with_reducible refine Kd.C_alloc ?_ _) | (with_reducible refine Kd.C_drewN ?_ _) | (with_reducible refine Kd.C_drew ?_) | exact HR307_2.out)) hb)
                     have n18_ := Aside0.mk (Kd.C_below (by repeat (first | (with_reducible exact HR308_0.out) | (with_reducible refine Kd.C_alloc ?_ _) | (with_reducible refine Kd.C_drewN ?_ _) | (with_reducible refine Kd.C_drew ?_) | exact HR308_0.out)) hb)
                     have n19_ := Aside0.mk (Kd.C_below (by repeat (first | (with_reducible exact HR308_1.out) | (with_reducible refine Kd.C_alloc ?_ _) | (with_reducible refine Kd.C_drewN ?_ _) | (with_reducible refine Kd.C_drew ?_) | exact HR308_1.out)) hb)
                     have n20_ := Aside0.mk (Kd.C_below (by repeat (first | (with_reducible exact HR308_2.out) | (with_reducible refine Kd.C_alloc ?_ _) | (with_reducible refine Kd.C_drewN ?_ _) | (with_reducible refine Kd.C_drew ?_) | exact HR308_2.out)) hb)
                     have n21_ := Aside0.mk (Kd.C_below (by repeat (first | (with_reducible exact HR310_0.out) | (with_reducible refine Kd.C_alloc ?_ _) | (with_reducible refine Kd.C_drewN ?_ _) | (with_reducible refine Kd.C_drew ?_) | exact HR310_0.out)) hb)
                     have n22_ := Aside0.mk (Kd.C_below (by repeat (first | (with_reducible exact HR310_1.out) | (with_reducible refine Kd.C_alloc ?_ _) | (with_reducible refine Kd.C_drewN ?_ _) | (with_reducible refine Kd.C_drew ?_) | exact HR310_1.out)) hb)
                     have n23_ := Aside0.mk (Kd.C_below (by repeat (first | (with_reducible exact HR310_2.out) | (with_reducible refine Kd.C_alloc ?_ _) | (with_reducible refine Kd.C_drewN ?_ _) | (with_reducible refine Kd.C_drew ?_) | exact HR310_2.out)) hb)
                     have n24_ := Aside0.mk (Kd.C_below (by repeat (first | (with_reducible exact HR311_0.out) | (with_reducible refine Kd.C_alloc ?_ _) | (with_reducible refine Kd.C_drewN ?_ _) | (with_reducible refine Kd.C_drew ?_) | exact HR311_0.out)) hb)
                     have n25_ := Aside0.mk (Kd.C_below (by repeat (first | (with_reducible exact HR311_1.out) | (with_reducible refine Kd.C_alloc ?_ _) | (with_reducible refine Kd.C_drewN ?_ _) | (with_reducible refine Kd.C_drew ?_) | exact HR311_1.out)) hb)
                     have n26_ := Aside0.mk (Kd.C_below (by repeat (first | (with_reducible exact HR311_2.out) | (with_reducible refine Kd.C_alloc ?_ _) | (with_reducible refine Kd.C_drewN ?_ _) | (with_reducible refine Kd.C_drew ?_) | exact HR311_2.out)) hb)
                     have n27_ := Aside0.mk (below_step (by repeat (first | (with_reducible first | exact HB.out | apply below_alloc | apply pw_below_drewN | apply below_drew1 | refine below_set ?_ GE258.out) | exact HB.out)) hb)
                     clear HO_17
                     clear HO_19
                     clear HL307_0
                     clear HL307_1
                     clear HL307_2
                     clear HL308_0
                     clear HL308_1
                     clear HL308_2
                     clear HL310_0
                     clear HL310_1
                     clear HL310_2
                     clear HL311_0
                     clear HL311_1
                     clear HL311_2
                     clear BK258
                     clear HR307_0
                     clear HR307_1
                     clear HR307_2
                     clear HR308_0
                     clear HR308_1
                     clear HR308_2
                     clear HR310_0
                     clear HR310_1
                     clear HR310_2
                     clear HR311_0
                     clear HR311_1
                     clear HR311_2
                     clear HB
                     have HO_17 := n0_
                     have HO_19 := n1_
                     have HL307_0 := n2_
                     have HL307_1 := n3_
                     have HL307_2 := n4_
                     have HL308_0 := n5_
                     have HL308_1 := n6_
                     have HL308_2 := n7_
                     have HL310_0 := n8_
                     have HL310_1 := n9_
                     have HL310_2 := n10_
                     have HL311_0 := n11_
                     have HL311_1 := n12_
                     have HL311_2 := n13_
                     have BK258 := n14_
                     have HR307_0 := n15_
                     have HR307_1 := n16_
                     have HR307_2 := n17_
                     have HR308_0 := n18_
                     have HR308_1 := n19_
                     have HR308_2 := n20_
                     have HR310_0 := n21_
                     have HR310_1 := n22_
                     have HR310_2 := n23_
                     have HR311_0 := n24_
                     have HR311_1 := n25_
                     have HR311_2 := n26_
                     have HB := n27_
                     clear n0_ n1_ n2_ n3_ n4_ n5_ n6_ n7_ n8_ n9_ n10_ n11_ n12_ n13_ n14_ n15_ n16_ n17_ n18_ n19_ n20_ n21_ n22_ n23_ n24_ n25_ n26_ n27_
                     (try clear hb)
                     (try clear hb2)
                     (try clear hk)
                     (try clear hi)
                     refine hK.out _ _ ⟨(blk_cell BK258.out 0).trans rfl, (blk_cell BK258.out 1).trans rfl, (blk_cell BK258.out 2).trans rfl, (blk_cell BK258.out 3).trans rfl, (blk_cell BK258.out 4).trans rfl, HS5_, HS6_, HS7_, HS8_, HS9_, HS10_, HS11_, HS12_, HS13_, HS14_, HS15_, HS16_, HS17_, HS18_, HS19_, HS20_, HS21_, HS22_, HS23_, HS24_⟩ (fun hHeld => ?_)
                     clear hK K
                     refine norm_ (a' := ?_) ?_ ?_
                     rotate_left
                     ·show Act.put _ (some 154) _ = _
                      simp only [Act.put, List.setIfInBounds_toArray, List.set_cons_zero, List.set_cons_succ, i64_w, i32_w]
                      rfl
                     refine pure_ (i := 22) (N := some 155) (v := ?_) (a' := ?_) #[true,true,true,true,true,true,true,true,true,true,true,true,true,true,true,true,true,true,true,true,true,true,true,false,false,false,false,false,false,false,false,false,false,false,false,false,false,false,false,false,false,false,false] rfl rfl (any_of HT_.out (by kernel_rfl)) (fun _ _ _ h => h) (Or.inl ⟨by rfl, ?_⟩) ?_ ?_
                     rotate_left
                     ·intro w'
                      go_simp
                      with_reducible rfl
                     rotate_left
                     ·simp only [Act.put, List.setIfInBounds_toArray, List.set_cons_zero, List.set_cons_succ, i64_w, i32_w]
                      rfl
                     refine pure_ (i := 23) (N := some 156) (v := ?_) (a' := ?_) #[true,true,true,true,true,true,true,true,true,true,true,true,true,true,true,true,true,true,true,true,true,true,true,true,false,false,false,false,false,false,false,false,false,false,false,false,false,false,false,false,false,false,false] rfl rfl (any_of HT_.out (by kernel_rfl)) (fun _ _ _ h => h) (Or.inl ⟨by rfl, ?_⟩) ?_ ?_
                     rotate_left
                     ·intro w'
                      go_simp
                      with_reducible rfl
                     rotate_left
                     ·simp only [Act.put, List.setIfInBounds_toArray, List.set_cons_zero, List.set_cons_succ, i64_w, i32_w]
                      rfl
                     refine pure_ (i := 24) (N := some 157) (v := ?_) (a' := ?_) #[true,true,true,true,true,true,true,true,true,true,true,true,true,true,true,true,true,true,true,true,true,true,true,true,true,false,false,false,false,false,false,false,false,false,false,false,false,false,false,false,false,false,false] rfl rfl (any_of HT_.out (by kernel_rfl)) (fun _ _ _ h => h) (Or.inl ⟨by rfl, ?_⟩) ?_ ?_
                     rotate_left
                     ·intro w'
                      go_simp
                      with_reducible rfl
                     rotate_left
                     ·simp only [Act.put, List.setIfInBounds_toArray, List.set_cons_zero, List.set_cons_succ, i64_w, i32_w]
                      rfl
                     refine pure_ (i := 25) (N := some 158) (v := ?_) (a' := ?_) #[true,true,true,true,true,true,true,true,true,true,true,true,true,true,true,true,true,true,true,true,true,true,true,true,true,true,false,false,false,false,false,false,false,false,false,false,false,false,false,false,false,false,false] rfl rfl (any_of HT_.out (by kernel_rfl)) (fun _ _ _ h => h) (Or.inl ⟨by rfl, ?_⟩) ?_ ?_
                     rotate_left
                     ·intro w'
                      go_simp
                      with_reducible rfl
                     rotate_left
                     ·simp only [Act.put, List.setIfInBounds_toArray, List.set_cons_zero, List.set_cons_succ, i64_w, i32_w]
                      rfl
                     refine pure_ (i := 26) (N := some 159) (v := ?_) (a' := ?_) #[true,true,true,true,true,true,true,true,true,true,true,true,true,true,true,true,true,true,true,true,true,true,true,true,true,true,true,false,false,false,false,false,false,false,false,false,false,false,false,false,false,false,false] rfl rfl (any_of HT_.out (by kernel_rfl)) (fun _ _ _ h => h) (Or.inl ⟨by rfl, ?_⟩) ?_ ?_
                     rotate_left
                     ·intro w'
                      go_simp
                      with_reducible rfl
                     rotate_left
                     ·simp only [Act.put, List.setIfInBounds_toArray, List.set_cons_zero, List.set_cons_succ, i64_w, i32_w]
                      rfl
                     refine pure_ (i := 27) (N := some 160) (v := ?_) (a' := ?_) #[true,true,true,true,true,true,true,true,true,true,true,true,true,true,true,true,true,true,true,true,true,true,true,true,true,true,true,true,false,false,false,false,false,false,false,false,false,false,false,false,false,false,false] rfl rfl (any_of HT_.out (by kernel_rfl)) (fun _ _ _ h => h) (Or.inl ⟨by rfl, ?_⟩) ?_ ?_
                     rotate_left
                     ·intro w'
                      go_simp
                      with_reducible rfl
                     rotate_left
                     ·simp only [Act.put, List.setIfInBounds_toArray, List.set_cons_zero, List.set_cons_succ, i64_w, i32_w]
                      rfl
                     refine pure_ (i := 28) (N := some 161) (v := ?_) (a' := ?_) #[true,true,true,true,true,true,true,true,true,true,true,true,true,true,true,true,true,true,true,true,true,true,true,true,true,true,true,true,true,false,false,false,false,false,false,false,false,false,false,false,false,false,false] rfl rfl (any_of HT_.out (by kernel_rfl)) (fun _ _ _ h => h) (Or.inl ⟨by rfl, ?_⟩) ?_ ?_
                     rotate_left
                     ·intro w'
                      go_simp
                      with_reducible rfl
                     rotate_left
                     ·simp only [Act.put, List.setIfInBounds_toArray, List.set_cons_zero, List.set_cons_succ, i64_w, i32_w]
                      rfl
                     refine pure_ (i := 29) (N := some 162) (v := ?_) (a' := ?_) #[true,true,true,true,true,true,true,true,true,true,true,true,true,true,true,true,true,true,true,true,true,true,true,true,true,true,true,true,true,true,false,false,false,false,false,false,false,false,false,false,false,false,false] rfl rfl (any_of HT_.out (by kernel_rfl)) (fun _ _ _ h => h) (Or.inl ⟨by rfl, ?_⟩) ?_ ?_
                     rotate_left
                     ·intro w'
                      go_simp
                      with_reducible rfl
                     rotate_left
                     ·simp only [Act.put, List.setIfInBounds_toArray, List.set_cons_zero, List.set_cons_succ, i64_w, i32_w]
                      rfl
                     refine pure_ (i := 33) (N := some 166) (v := ?_) (a' := ?_) #[true,true,true,true,true,true,true,true,true,true,true,true,true,true,true,true,true,true,true,true,true,true,true,true,true,true,true,true,true,true,false,false,false,true,false,false,false,false,false,false,false,false,false] rfl rfl (any_of HT_.out (by kernel_rfl)) (fun _ _ _ h => h) (Or.inl ⟨by rfl, ?_⟩) ?_ ?_
                     rotate_left
                     ·intro w'
                      go_simp
                      with_reducible rfl
                     rotate_left
                     ·simp only [Act.put, List.setIfInBounds_toArray, List.set_cons_zero, List.set_cons_succ, i64_w, i32_w]
                      rfl
                     refine pure_ (i := 34) (N := some 167) (v := ?_) (a' := ?_) #[true,true,true,true,true,true,true,true,true,true,true,true,true,true,true,true,true,true,true,true,true,true,true,true,true,true,true,true,true,true,false,false,false,true,true,false,false,false,false,false,false,false,false] rfl rfl (any_of HT_.out (by kernel_rfl)) (fun _ _ _ h => h) (Or.inl ⟨by rfl, ?_⟩) ?_ ?_
                     rotate_left
                     ·intro w'
                      go_simp
                      with_reducible rfl
                     rotate_left
                     ·simp only [Act.put, List.setIfInBounds_toArray, List.set_cons_zero, List.set_cons_succ, i64_w, i32_w]
                      rfl
                     refine pure_ (i := 35) (N := some 168) (v := ?_) (a' := ?_) #[true,true,true,true,true,true,true,true,true,true,true,true,true,true,true,true,true,true,true,true,true,true,true,true,true,true,true,true,true,true,false,false,false,true,true,true,false,false,false,false,false,false,false] rfl rfl (any_of HT_.out (by kernel_rfl)) (fun _ _ _ h => h) (Or.inl ⟨by rfl, ?_⟩) ?_ ?_
                     rotate_left
                     ·intro w'
                      go_simp
                      with_reducible rfl
                     rotate_left
                     ·simp only [Act.put, List.setIfInBounds_toArray, List.set_cons_zero, List.set_cons_succ, i64_w, i32_w]
                      rfl
                     refine pure_ (i := 36) (N := some 169) (v := ?_) (a' := ?_) #[true,true,true,true,true,true,true,true,true,true,true,true,true,true,true,true,true,true,true,true,true,true,true,true,true,true,true,true,true,true,false,false,false,true,true,true,true,false,false,false,false,false,false] rfl rfl (any_of HT_.out (by kernel_rfl)) (fun _ _ _ h => h) (Or.inl ⟨by rfl, ?_⟩) ?_ ?_
                     rotate_left
                     ·intro w'
                      go_simp
                      with_reducible rfl
                     rotate_left
                     ·simp only [Act.put, List.setIfInBounds_toArray, List.set_cons_zero, List.set_cons_succ, i64_w, i32_w]
                      rfl
                     refine take_ (i := 30) (N := some 163) (v := ?_) (a' := ?_) #[true,true,true,true,true,true,true,true,true,true,true,true,true,true,true,true,true,true,true,true,true,true,true,true,true,true,true,true,true,true,true,false,false,true,true,true,true,false,false,false,false,false,false] rfl rfl (take_ofW HT_.out HW_.out (by kernel_rfl)) (fun _ _ _ h => h) (Or.inl ⟨by rfl, ?_⟩) hHeld ?_ ?_
                     rotate_left
                     ·rintro w' ⟨s0, s1, s2, s3, s4, s5, s6, s7, s8, s9, s10, s11, s12, s13, s14, s15, s16, s17, s18, s19, s20, s21, s22, s23, s24⟩
                      go_simp
                      with_reducible rfl
                     rotate_left
                     ·simp only [Act.put, List.setIfInBounds_toArray, List.set_cons_zero, List.set_cons_succ, i64_w, i32_w]
                      rfl
                     refine pure_ (i := 31) (N := some 164) (v := ?_) (a' := ?_) #[true,true,true,true,true,true,true,true,true,true,true,true,true,true,true,true,true,true,true,true,true,true,true,true,true,true,true,true,true,true,true,true,false,true,true,true,true,false,false,false,false,false,false] rfl rfl (any_of HT_.out (by kernel_rfl)) (fun _ _ _ h => h) (Or.inl ⟨by rfl, ?_⟩) ?_ ?_
                     rotate_left
                     ·intro w'
                      go_simp
                      with_reducible rfl
                     rotate_left
                     ·simp only [Act.put, List.setIfInBounds_toArray, List.set_cons_zero, List.set_cons_succ, i64_w, i32_w]
                      rfl
                     refine take_ (i := 32) (N := some 165) (v := ?_) (a' := ?_) #[true,true,true,true,true,true,true,true,true,true,true,true,true,true,true,true,true,true,true,true,true,true,true,true,true,true,true,true,true,true,true,true,true,true,true,true,true,false,false,false,false,false,false] rfl rfl (take_ofW HT_.out HW_.out (by kernel_rfl)) (fun _ _ _ h => h) (Or.inl ⟨by rfl, ?_⟩) hHeld ?_ ?_
                     rotate_left
                     ·rintro w' ⟨s0, s1, s2, s3, s4, s5, s6, s7, s8, s9, s10, s11, s12, s13, s14, s15, s16, s17, s18, s19, s20, s21, s22, s23, s24⟩
                      go_simp
                      with_reducible rfl
                     rotate_left
                     ·simp only [Act.put, List.setIfInBounds_toArray, List.set_cons_zero, List.set_cons_succ, i64_w, i32_w]
                      rfl
                     refine take_ (i := 37) (N := some 170) (v := ?_) (a' := ?_) #[true,true,true,true,true,true,true,true,true,true,true,true,true,true,true,true,true,true,true,true,true,true,true,true,true,true,true,true,true,true,true,true,true,true,true,true,true,true,false,false,false,false,false] rfl rfl (take_ofW HT_.out HW_.out (by kernel_rfl)) (fun _ _ _ h => h) (Or.inl ⟨by rfl, ?_⟩) hHeld ?_ ?_
                     rotate_left
                     ·rintro w' ⟨s0, s1, s2, s3, s4, s5, s6, s7, s8, s9, s10, s11, s12, s13, s14, s15, s16, s17, s18, s19, s20, s21, s22, s23, s24⟩
                      go_simp
                      with_reducible rfl
                     rotate_left
                     ·simp only [Act.put, List.setIfInBounds_toArray, List.set_cons_zero, List.set_cons_succ, i64_w, i32_w]
                      rfl
                     refine pure_ (i := 38) (N := some 171) (v := ?_) (a' := ?_) #[true,true,true,true,true,true,true,true,true,true,true,true,true,true,true,true,true,true,true,true,true,true,true,true,true,true,true,true,true,true,true,true,true,true,true,true,true,true,true,false,false,false,false] rfl rfl (any_of HT_.out (by kernel_rfl)) (fun _ _ _ h => h) (Or.inl ⟨by rfl, ?_⟩) ?_ ?_
                     rotate_left
                     ·intro w'
                      go_simp
                      with_reducible rfl
                     rotate_left
                     ·simp only [Act.put, List.setIfInBounds_toArray, List.set_cons_zero, List.set_cons_succ, i64_w, i32_w]
                      rfl
                     refine take_ (i := 39) (N := some 172) (v := ?_) (a' := ?_) #[true,true,true,true,true,true,true,true,true,true,true,true,true,true,true,true,true,true,true,true,true,true,true,true,true,true,true,true,true,true,true,true,true,true,true,true,true,true,true,true,false,false,false] rfl rfl (take_ofW HT_.out HW_.out (by kernel_rfl)) (fun _ _ _ h => h) (Or.inl ⟨by rfl, ?_⟩) hHeld ?_ ?_
                     rotate_left
                     ·rintro w' ⟨s0, s1, s2, s3, s4, s5, s6, s7, s8, s9, s10, s11, s12, s13, s14, s15, s16, s17, s18, s19, s20, s21, s22, s23, s24⟩
                      go_simp
                      with_reducible rfl
                     rotate_left
                     ·simp only [Act.put, List.setIfInBounds_toArray, List.set_cons_zero, List.set_cons_succ, i64_w, i32_w]
                      rfl
                     refine one_ (i := 40) (N := some 173) #[true,true,true,true,true,true,true,true,true,true,true,true,true,true,true,true,true,true,true,true,true,true,true,true,true,true,true,true,true,true,true,true,true,true,true,true,true,true,true,true,true,false,false] rfl rfl (one_of HT_.out (by kernel_rfl)) (by decide) (fun K hK => ?_)
                     (try have HR310_0 := HR307_0)
                     (try have HL310_0 := HL307_0)
                     (try have HC310_0 := HC307_0)
                     (try have HR310_1 := HR307_1)
                     (try have HL310_1 := HL307_1)
                     (try have HC310_1 := HC307_1)
                     (try have HR310_2 := HR307_2)
                     (try have HL310_2 := HL307_2)
                     (try have HC310_2 := HC307_2)
                     (try have HR311_0 := HR308_0)
                     (try have HL311_0 := HL308_0)
                     (try have HC311_0 := HC308_0)
                     (try have HR311_1 := HR308_1)
                     (try have HL311_1 := HL308_1)
                     (try have HC311_1 := HC308_1)
                     (try have HR311_2 := HR308_2)
                     (try have HL311_2 := HL308_2)
                     (try have HC311_2 := HC308_2)
                     (try have HR313_0 := HR307_0)
                     (try have HL313_0 := HL307_0)
                     (try have HC313_0 := HC307_0)
                     (try have HR313_1 := HR307_1)
                     (try have HL313_1 := HL307_1)
                     (try have HC313_1 := HC307_1)
                     (try have HR313_2 := HR307_2)
                     (try have HL313_2 := HL307_2)
                     (try have HC313_2 := HC307_2)
                     (try have HR315_0 := HR308_0)
                     (try have HL315_0 := HL308_0)
                     (try have HC315_0 := HC308_0)
                     (try have HR315_1 := HR308_1)
                     (try have HL315_1 := HL308_1)
                     (try have HC315_1 := HC308_1)
                     (try have HR315_2 := HR308_2)
                     (try have HL315_2 := HL308_2)
                     (try have HC315_2 := HC308_2)
                     refine goes_ Try.func14 (by kernel_rfl) rfl #[.int .i64 a0, .int .u64 (rd ((rd_T31 t298 x21_4).f1) 0), .int .u64 (rd ((rd_T31 t302 x21_4).f1) 0)] (by rfl) rfl rfl (by (try simp only [List.map_toArray, List.map_cons, List.map_nil]); first | done | rfl | (simp only [List.length_drop, List.length_take]; rfl)) ?_
                     with_reducible refine (trefoilref03_Add.calls k4 a0 (rd ((rd_T31 t298 x21_4).f1) 0) (rd ((rd_T31 t302 x21_4).f1) 0) t317 _ A89.out).mono ?_
                     rintro e w' ⟨rfl, ⟨nd, rfl⟩⟩
                     refine ⟨_, rfl, ?_⟩
                     refine hK.out _ _ ⟨(blk_cell BK258.out 0).trans rfl, (blk_cell BK258.out 1).trans rfl, (blk_cell BK258.out 2).trans rfl, (blk_cell BK258.out 3).trans rfl, (blk_cell BK258.out 4).trans rfl, hHeld.2.2.2.2.2.1, hHeld.2.2.2.2.2.2.1, hHeld.2.2.2.2.2.2.2.1, hHeld.2.2.2.2.2.2.2.2.1, hHeld.2.2.2.2.2.2.2.2.2.1, hHeld.2.2.2.2.2.2.2.2.2.2.1, hHeld.2.2.2.2.2.2.2.2.2.2.2.1, hHeld.2.2.2.2.2.2.2.2.2.2.2.2.1, hHeld.2.2.2.2.2.2.2.2.2.2.2.2.2.1, hHeld.2.2.2.2.2.2.2.2.2.2.2.2.2.2.1, hHeld.2.2.2.2.2.2.2.2.2.2.2.2.2.2.2.1, hHeld.2.2.2.2.2.2.2.2.2.2.2.2.2.2.2.2.1, hHeld.2.2.2.2.2.2.2.2.2.2.2.2.2.2.2.2.2.1, hHeld.2.2.2.2.2.2.2.2.2.2.2.2.2.2.2.2.2.2.1, hHeld.2.2.2.2.2.2.2.2.2.2.2.2.2.2.2.2.2.2.2.1, hHeld.2.2.2.2.2.2.2.2.2.2.2.2.2.2.2.2.2.2.2.2.1, hHeld.2.2.2.2.2.2.2.2.2.2.2.2.2.2.2.2.2.2.2.2.2.1, hHeld.2.2.2.2.2.2.2.2.2.2.2.2.2.2.2.2.2.2.2.2.2.2.1, hHeld.2.2.2.2.2.2.2.2.2.2.2.2.2.2.2.2.2.2.2.2.2.2.2.1, hHeld.2.2.2.2.2.2.2.2.2.2.2.2.2.2.2.2.2.2.2.2.2.2.2.2⟩ (fun hHeld => ?_)
                     clear hK K
                     refine norm_ (a' := ?_) ?_ ?_
                     rotate_left
                     ·show Act.put _ (some 173) _ = _
                      simp only [Act.put, List.setIfInBounds_toArray, List.set_cons_zero, List.set_cons_succ, i64_w, i32_w]
                      rfl
                     refine pure_ (i := 41) (N := some 174) (v := ?_) (a' := ?_) #[true,true,true,true,true,true,true,true,true,true,true,true,true,true,true,true,true,true,true,true,true,true,true,true,true,true,true,true,true,true,true,true,true,true,true,true,true,true,true,true,true,true,false] rfl rfl (any_of HT_.out (by kernel_rfl)) (fun _ _ _ h => h) (Or.inl ⟨by rfl, ?_⟩) ?_ ?_
                     rotate_left
                     ·intro w'
                      go_simp
                      with_reducible rfl
                     rotate_left
                     ·simp only [Act.put, List.setIfInBounds_toArray, List.set_cons_zero, List.set_cons_succ, i64_w, i32_w]
                      rfl
                     refine pure_ (i := 42) (N := some 175) (v := ?_) (a' := ?_) #[true,true,true,true,true,true,true,true,true,true,true,true,true,true,true,true,true,true,true,true,true,true,true,true,true,true,true,true,true,true,true,true,true,true,true,true,true,true,true,true,true,true,true] rfl rfl (any_of HT_.out (by kernel_rfl)) (fun _ _ _ h => h) (Or.inl ⟨by rfl, ?_⟩) ?_ ?_
                     rotate_left
                     ·intro w'
                      go_simp
                      with_reducible rfl
                     rotate_left
                     ·simp only [Act.put, List.setIfInBounds_toArray, List.set_cons_zero, List.set_cons_succ, i64_w, i32_w]
                      rfl
                     refine done_ (done_of HT_.out (by kernel_rfl)) ?_
                     try go_wp2
                     go_roundg k4
                     case measure => have := HJ4.out; have := HK2.out; have := HJ62.out; have := HK4.out; omega
                     case rel => exact ⟨(wrap64 (x21_4 + 1)), (by first | rfl | (simp; done) | (simp [*]; done)), H', ⟨by have := HJ4.out; have := HK2.out; have := HJ62.out; have := HK4.out; omega⟩, ⟨by (with_reducible repeat (first | apply Kd.S_alloc | apply Kd.S_drewN | apply Kd.S_drew)); exact HO_17.out⟩, ⟨by (with_reducible repeat (first | apply Kd.S_alloc | apply Kd.S_drewN | apply Kd.S_drew)); exact HO_19.out⟩, ⟨by (with_reducible repeat (first | refine blk_drewN ?_ _ | refine blk_drew ?_ | refine blk_alloc ?_ _)); exact BK258.out⟩, ⟨by repeat (first | (with_reducible first | exact HB.out | apply below_alloc | apply pw_below_drewN | apply below_drew1 | refine below_set ?_ GE258.out) | exact HB.out)⟩⟩
                   ·rw [if_neg c88] at H
                    exact absurd H (by simp)
                  ·rw [if_neg c87] at H
                   exact absurd H (by simp)
                 ·replace c86 := Bool.eq_false_iff.mpr c86
                  subst c86
                  have H1 : (some false) = some r := by rw [if_neg (show ¬ (false = true) by decide)] at H; exact H
                  clear H
                  have H := H1
                  clear H1
                  exact absurd (Option.some.inj H) (by rw [HT0_.out]; exact Bool.false_ne_true)
                ·replace c84 := Bool.eq_false_iff.mpr c84
                 subst c84
                 have H1 : (some false) = some r := by rw [if_neg (show ¬ (false = true) by decide)] at H; exact H
                 clear H
                 have H := H1
                 clear H1
                 exact absurd (Option.some.inj H) (by rw [HT0_.out]; exact Bool.false_ne_true)
               ·rw [if_neg c82] at H
                exact absurd H (by simp)
              ·rw [if_neg c81] at H
               exact absurd H (by simp)
             ·rw [if_neg c80] at H
              exact absurd H (by simp)
            ·rw [if_neg c79] at H
             have c79b0 : decide (x21_4 < (l1.length : Int)) = false := decide_eq_false c79
             clear c79
             replace H := Option.bind_eq_some_iff.mp H
             obtain ⟨t306, A960, H⟩ := H
             replace H : (some t306) = some r := H
             have A96 := Aside0.mk A960
             clear A960
             obtain rfl := Option.some.inj H
             go_wp2_with (first | ((with_reducible refine gate_callee (f := 7) rfl ?_); refine goesL_ (some 176) rfl rfl Try.func7 (by kernel_rfl) rfl #[] rfl (by (try simp only [List.map_toArray, List.map_cons, List.map_nil]); first | done | rfl | (simp only [List.length_drop, List.length_take]; rfl)) ?_; (with_reducible refine (trefoillaw25_awake.calls k4  t306 _ A96.out).mono ?_); rintro e w97 ⟨rfl, hb⟩; refine ⟨_, rfl, ?_⟩; have n0_ := Aside0.mk (Kd.S_below (by (with_reducible repeat (first | apply Kd.S_alloc | apply Kd.S_drewN | apply Kd.S_drew)); exact HO_17.out) hb); have n1_ := Aside0.mk (Kd.S_below (by (with_reducible repeat (first | apply Kd.S_alloc | apply Kd.S_drewN | apply Kd.S_drew)); exact HO_19.out) hb); have n2_ := Aside0.mk (blk_below (g := gb258) (o := .cells #[.int .i64 4, .int .i64 a0, .int .i64 0, .int .i64 0, .int .i64 0] 25 (0, 0)) (by (with_reducible repeat (first | refine blk_drewN ?_ _ | refine blk_drew ?_ | refine blk_alloc ?_ _)); exact BK258.out) hb); have n3_ := Aside0.mk (below_step (by repeat (first | (with_reducible first | exact HB.out | apply below_alloc | apply pw_below_drewN | apply below_drew1 | refine below_set ?_ GE258.out) | exact HB.out)) hb); clear HO_17; clear HO_19; clear BK258; clear HB; have HO_17 := n0_; have HO_19 := n1_; have BK258 := n2_; have HB := n3_; clear n0_ n1_ n2_ n3_; (try clear hb); (try clear hb2); (try clear hk); (try clear hi)))
             go_ret
             exact ⟨by first | rfl | (simp [errW_none, errW_some] <;> rfl) | (simp [*, errW_none, errW_some] <;> rfl), by repeat (first | (with_reducible first | exact HB.out | apply below_alloc | apply pw_below_drewN | apply below_drew1 | refine below_set ?_ GE258.out) | exact HB.out)⟩
end Go.Proofs.Ytbhfleilgjonpaa.XDabitComes
