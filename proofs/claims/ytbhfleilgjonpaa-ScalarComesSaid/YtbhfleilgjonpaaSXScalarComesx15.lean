import Derived.Test.YtbhfleilgjonpaaSXShort
import Derived.Test.YtbhfleilgjonpaaSXScalarComesx0
import Derived.Test.YtbhfleilgjonpaaSXScalarComesx1
import Derived.Test.YtbhfleilgjonpaaSXScalarComesx14
namespace Go.Proofs.Ytbhfleilgjonpaa.XScalarComes
open Go.RowKit Go.Proofs.YtbhfleilgjonpaaW.PrintWords Go.Proofs.YtbhfleilgjonpaaW.PrintLast Go.Proofs.YtbhfleilgjonpaaW.PrintMore
attribute [local go_sem] max2_int min2_int max_two min_two max_three min_three max_four min_four
set_option linter.unusedVariables false
set_option linter.unusedSimpArgs false
mutual
def trefoilref09_Fits.l0 : Nat → List Int → List Int → List (List Int) → Int → Option (Bool)
 | 0,_,_,_,_ => none
 | k + 1,x5,x6,x7,x8 => if x8 < 3 then (if 0 ≤ x8 then (if x8 < (x7.length : Int) then (if x8 < (x5.length : Int) then (if ((rd_L1 x7 x8).length : Int) = (rd x5 x8) then (trefoilref09_Fits.l1 k x5 x6 x7 x8 0) else (some false)) else (none)) else (none)) else (none)) else (some true)
def trefoilref09_Fits.l1 : Nat → List Int → List Int → List (List Int) → Int → Int → Option (Bool)
 | 0,_,_,_,_,_ => none
 | k + 1,x5,x6,x7,x8,x9 => if 0 ≤ x8 then (if x8 < (x7.length : Int) then (if x9 < ((rd_L1 x7 x8).length : Int) then (if 0 ≤ x9 then (if x8 < (x6.length : Int) then (if 0 ≤ (IntKind.u64.wrap (wrap64 ((rd x6 x8) - 1))) then (if (shr .u64 (IntKind.u64.wrap (Int.tdiv (rd (rd_L1 x7 x8) x9) 2)) (IntKind.u64.wrap (wrap64 ((rd x6 x8) - 1)))) = 0 then (trefoilref09_Fits.l1 k x5 x6 x7 x8 (wrap64 (x9 + 1))) else (some false)) else (none)) else (none)) else (none)) else (trefoilref09_Fits.l0 k x5 x6 x7 (wrap64 (x8 + 1)))) else (none)) else (none)
end
def trefoilref09_Fits.f (k : Nat) (a0_0 : Int) (a0_1 : Int) (a0_2 : Int) (a0_3 : Int) (a0_4 : Int) (l1_0 : List Int) (l1_1 : List Int) (l1_2 : List Int) : Option (Bool) := (trefoilref09_Check.f k a0_0 a0_1 a0_2 a0_3 a0_4).bind fun t478 => (if t478 = 0 then ((trefoilref09_Sizes.f k a0_0 a0_1 a0_2 a0_3 a0_4).bind fun t479 => ((trefoilref09_Widths.f k a0_0 a0_1 a0_2 a0_3 a0_4).bind fun t482 => (trefoilref09_Fits.l0 k t479 t482 (([l1_0,l1_1,l1_2] : List (List Int))) 0))) else (some false))
theorem trefoilref09_Fits.mono_l : ∀ k,(∀ y0 y1 y2 y3,LeO (trefoilref09_Fits.l0 k y0 y1 y2 y3) (trefoilref09_Fits.l0 (k + 1) y0 y1 y2 y3)) ∧ (∀ y0 y1 y2 y3 y4,LeO (trefoilref09_Fits.l1 k y0 y1 y2 y3 y4) (trefoilref09_Fits.l1 (k + 1) y0 y1 y2 y3 y4))
 | 0 => ⟨fun _ _ _ _ r h => by simp [trefoilref09_Fits.l0] at h,fun _ _ _ _ _ r h => by simp [trefoilref09_Fits.l1] at h⟩
 | k + 1 => by
  obtain ⟨ih0,ih1⟩ := trefoilref09_Fits.mono_l k;refine ⟨?_,?_⟩
  ·intro y0 y1 y2 y3
   unfold trefoilref09_Fits.l0
   repeat' first | (with_reducible first | exact ih0 _ _ _ _ | exact ih1 _ _ _ _ _ | exact trefoilref09_Check.mono _ _ _ _ _ _ | exact trefoilref09_Sizes.mono _ _ _ _ _ _ | exact trefoilref09_Widths.mono _ _ _ _ _ _ | exact LeO.refl _ | exact LeO.none _ | refine LeO.ite ?_ ?_ | refine LeO.bind ?_ (fun _ => ?_)) | exact LeO.none _ | refine LeO.ite ?_ ?_ | refine LeO.bind ?_ (fun _ => ?_)
  ·intro y0 y1 y2 y3 y4
   unfold trefoilref09_Fits.l1
   repeat' first | (with_reducible first | exact ih0 _ _ _ _ | exact ih1 _ _ _ _ _ | exact trefoilref09_Check.mono _ _ _ _ _ _ | exact trefoilref09_Sizes.mono _ _ _ _ _ _ | exact trefoilref09_Widths.mono _ _ _ _ _ _ | exact LeO.refl _ | exact LeO.none _ | refine LeO.ite ?_ ?_ | refine LeO.bind ?_ (fun _ => ?_)) | exact LeO.none _ | refine LeO.ite ?_ ?_ | refine LeO.bind ?_ (fun _ => ?_)
theorem trefoilref09_Fits.mono : ∀ a0 a1 a2 a3 a4 a5 a6 a7 k,LeO (trefoilref09_Fits.f k a0 a1 a2 a3 a4 a5 a6 a7) (trefoilref09_Fits.f (k + 1) a0 a1 a2 a3 a4 a5 a6 a7) := by
 intro a0 a1 a2 a3 a4 a5 a6 a7 k;obtain ⟨ih0,ih1⟩ := trefoilref09_Fits.mono_l k;unfold trefoilref09_Fits.f
 repeat' first | (with_reducible first | exact ih0 _ _ _ _ | exact ih1 _ _ _ _ _ | exact trefoilref09_Check.mono _ _ _ _ _ _ | exact trefoilref09_Sizes.mono _ _ _ _ _ _ | exact trefoilref09_Widths.mono _ _ _ _ _ _ | exact LeO.refl _ | exact LeO.none _ | refine LeO.ite ?_ ?_ | refine LeO.bind ?_ (fun _ => ?_)) | exact LeO.none _ | refine LeO.ite ?_ ?_ | refine LeO.bind ?_ (fun _ => ?_)
def trefoilref09_Fits.T8 : Bool × List (List Nat × List Nat) := (true,[([],[]),([],[]),([0,1],[0,1]),([2],[2]),([3],[3]),([],[]),([],[]),([5,6],[5,6]),([7],[7]),([4,8],[4,8])])
def trefoilref09_Fits.B8 : List Nat := [0,0,3,7,15,0,0,96,224,511]
theorem trefoilref09_Fits.tab8 : rtab .any (opsOf Try.f25 8) = trefoilref09_Fits.T8 := by kernel_rfl
theorem trefoilref09_Fits.bits8 : waitsOk trefoilref09_Fits.T8.2 trefoilref09_Fits.B8 = true := by kernel_rfl
def trefoilref09_Fits.T13 : Bool × List (List Nat × List Nat) := (true,[([],[]),([],[]),([0,1],[0,1]),([2],[2]),([],[]),([3,4],[3,4]),([5],[5]),([6],[6]),([],[]),([],[]),([8,9],[8,9]),([10],[10]),([11],[11]),([12],[12]),([7,13],[7,13]),([14],[14])])
def trefoilref09_Fits.B13 : List Nat := [0,0,3,7,0,31,63,127,0,0,768,1792,3840,7936,16383,32767]
theorem trefoilref09_Fits.tab13 : rtab .any (opsOf Try.f25 13) = trefoilref09_Fits.T13 := by kernel_rfl
theorem trefoilref09_Fits.bits13 : waitsOk trefoilref09_Fits.T13.2 trefoilref09_Fits.B13 = true := by kernel_rfl
set_option maxHeartbeats 8000000 in
set_option maxRecDepth 100000 in
theorem trefoilref09_Fits.calls (k : Nat) (a0_0 : Int) (a0_1 : Int) (a0_2 : Int) (a0_3 : Int) (a0_4 : Int) (P1_0_ : Nat → Prop) (A1_0 : Option Addr) (c1_0 : Nat) (l1_0 : List Int) (P1_1_ : Nat → Prop) (A1_1 : Option Addr) (c1_1 : Nat) (l1_1 : List Int) (P1_2_ : Nat → Prop) (A1_2 : Option Addr) (c1_2 : Nat) (l1_2 : List Int) (r : Bool) (w : World) (hs1_0 : Kd.V (Kd.int .u64) 32 w w.heap.size (fun k_ => P1_0_ k_) (.slice A1_0 l1_0.length c1_0) l1_0) (hs1_1 : Kd.V (Kd.int .u64) 32 w w.heap.size (fun k_ => P1_1_ k_) (.slice A1_1 l1_1.length c1_1) l1_1) (hs1_2 : Kd.V (Kd.int .u64) 32 w w.heap.size (fun k_ => P1_2_ k_) (.slice A1_2 l1_2.length c1_2) l1_2) (h : trefoilref09_Fits.f k a0_0 a0_1 a0_2 a0_3 a0_4 l1_0 l1_1 l1_2 = some r) :
  Calls Try.prog 25 #[.agg #[.int .i64 a0_0,.int .i64 a0_1,.int .i64 a0_2,.int .i64 a0_3,.int .i64 a0_4],.agg #[.slice A1_0 l1_0.length c1_0,.slice A1_1 l1_1.length c1_1,.slice A1_2 l1_2.length c1_2]] w fun e w' => e = .returned (.bool r) ∧ Below w.heap.size w w' := by
 have hu25 := Try.underlying25;have hu31 := Try.underlying31;have HO1_0 := Aside0.mk (show Kd.V (Kd.int .u64) 32 w w.heap.size (fun k_ => ((P1_0_ k_ ∨ P1_1_ k_ ∨ P1_2_ k_) ∨ w.heap.size ≤ k_)) (.slice A1_0 l1_0.length c1_0) l1_0 from Kd.V_mono hs1_0 (fun k_ hk => .inl (.inl hk)));have HO1_1 := Aside0.mk (show Kd.V (Kd.int .u64) 32 w w.heap.size (fun k_ => ((P1_0_ k_ ∨ P1_1_ k_ ∨ P1_2_ k_) ∨ w.heap.size ≤ k_)) (.slice A1_1 l1_1.length c1_1) l1_1 from Kd.V_mono hs1_1 (fun k_ hk => .inl (.inr (.inl hk))));have HO1_2 := Aside0.mk (show Kd.V (Kd.int .u64) 32 w w.heap.size (fun k_ => ((P1_0_ k_ ∨ P1_1_ k_ ∨ P1_2_ k_) ∨ w.heap.size ≤ k_)) (.slice A1_2 l1_2.length c1_2) l1_2 from Kd.V_mono hs1_2 (fun k_ hk => .inl (.inr (.inr hk))));have HB := Aside0.mk (Below.refl w.heap.size w);have H : ((trefoilref09_Check.f k a0_0 a0_1 a0_2 a0_3 a0_4).bind fun t478 => (if t478 = 0 then ((trefoilref09_Sizes.f k a0_0 a0_1 a0_2 a0_3 a0_4).bind fun t479 => ((trefoilref09_Widths.f k a0_0 a0_1 a0_2 a0_3 a0_4).bind fun t482 => (trefoilref09_Fits.l0 k t479 t482 (([l1_0,l1_1,l1_2] : List (List Int))) 0))) else (some false))) = some r := h;clear h;replace H := Option.bind_eq_some_iff.mp H;obtain ⟨t478,A30,H⟩ := H;replace H : (if t478 = 0 then ((trefoilref09_Sizes.f k a0_0 a0_1 a0_2 a0_3 a0_4).bind fun t479 => ((trefoilref09_Widths.f k a0_0 a0_1 a0_2 a0_3 a0_4).bind fun t482 => (trefoilref09_Fits.l0 k t479 t482 (([l1_0,l1_1,l1_2] : List (List Int))) 0))) else (some false)) = some r := H;have A3 := Aside0.mk A30;clear A30
 by_cases c4 : t478 = 0
 ·rw [if_pos c4] at H
  have c4b0 : (t478 == 0) = true := beq_iff_eq.mpr c4;have c4b1 : (t478 != 0) = false := bne_eq_false_iff_eq.mpr c4;clear c4;replace H := Option.bind_eq_some_iff.mp H;obtain ⟨t479,A50,H⟩ := H;replace H : ((trefoilref09_Widths.f k a0_0 a0_1 a0_2 a0_3 a0_4).bind fun t482 => (trefoilref09_Fits.l0 k t479 t482 (([l1_0,l1_1,l1_2] : List (List Int))) 0)) = some r := H;have A5 := Aside0.mk A50;clear A50;replace H := Option.bind_eq_some_iff.mp H;obtain ⟨t482,A60,H⟩ := H;replace H : (trefoilref09_Fits.l0 k t479 t482 (([l1_0,l1_1,l1_2] : List (List Int))) 0) = some r := H;have A6 := Aside0.mk A60;clear A60;obtain ⟨y485,hy485⟩ : ∃ y_ : List (List Int),y_ = (([l1_0,l1_1,l1_2] : List (List Int))) := ⟨_,rfl⟩;replace H : (trefoilref09_Fits.l0 k t479 t482 y485 0) = some r := rY hy485 H;have Ny485 := Aside0.mk hy485;clear hy485;have H' := Aside0.mk H;clear H
  go_enter Try.func25,Try.ntmps25
  try go_wp2_with (first | ((with_reducible refine gate_dst (N := 2) rfl ?_);refine bx 2 #[.int .i64 a0_0,.int .i64 a0_1,.int .i64 a0_2,.int .i64 a0_3,.int .i64 a0_4] 25 ?_;intro gb476 hg w7 hbox hb;replace HO1_0 := eV HO1_0 hg hb;replace HO1_1 := eV HO1_1 hg hb;replace HO1_2 := eV HO1_2 hg hb;have BK476 := Aside0.mk hbox;have GW476 := bz HB hg;have GE476 := bz HB hg;replace HB := bs HB hb;clear hb hbox hg) | ((with_reducible refine gate_dst (N := 3) rfl ?_);refine bx 3 #[.slice A1_0 l1_0.length c1_0,.slice A1_1 l1_1.length c1_1,.slice A1_2 l1_2.length c1_2] 31 ?_;intro gb477 hg w8 hbox hb;replace HO1_0 := eV HO1_0 hg hb;replace HO1_1 := eV HO1_1 hg hb;replace HO1_2 := eV HO1_2 hg hb;have BK477 := Aside0.mk hbox;have GW477 := bz HB hg;have GE477 := bz HB hg;replace HB := bs HB hb;have NB476_477 := bl BK476 hg;have NB477_476 := bg BK476 hg;replace BK476 := bb BK476 hb;clear hb hbox hg;have hnb9 := NB476_477.out;have hnc9 := NB477_476.out;obtain ⟨hcz10_0,hcz10_1,hcz10_2,hcz10_3,hcz10_4,hfz10_0,hfz10_1,hfz10_2,hfz10_3,hfz10_4⟩ := cz5 BK476) | ((with_reducible refine gate_callee (f := 31) rfl ?_);refine gL (some 11) Try.func31 #[.agg #[.int .i64 a0_0,.int .i64 a0_1,.int .i64 a0_2,.int .i64 a0_3,.int .i64 a0_4]] ?_;(with_reducible refine (trefoilref09_Check.calls k a0_0 a0_1 a0_2 a0_3 a0_4 t478 _ A3.out).mono ?_);rintro e w11 ⟨rfl,hb⟩;refine ⟨_,rfl,?_⟩;replace HO1_0 := bV HO1_0 hb;replace HO1_1 := bV HO1_1 hb;replace HO1_2 := bV HO1_2 hb;replace BK476 := bb BK476 hb;replace BK477 := bb BK477 hb;replace HB := bs HB hb;(try clear hb);(try clear hb2);(try clear hk);(try clear hi)))
  replace HO1_0 := Aside0.mk (Kd.V_drew HO1_0.out);replace HO1_1 := Aside0.mk (Kd.V_drew HO1_1.out);replace HO1_2 := Aside0.mk (Kd.V_drew HO1_2.out);replace BK476 := Aside0.mk (blk_drew BK476.out);replace BK477 := Aside0.mk (blk_drew BK477.out);replace HB := Aside0.mk (below_drew1 HB.out);refine start_ (n := 6) (S := fun w' => w'.cell? ⟨gb476,0,none⟩ = some (.int .i64 a0_0) ∧ w'.cell? ⟨gb476,1,none⟩ = some (.int .i64 a0_1) ∧ w'.cell? ⟨gb476,2,none⟩ = some (.int .i64 a0_2) ∧ w'.cell? ⟨gb476,3,none⟩ = some (.int .i64 a0_3) ∧ w'.cell? ⟨gb476,4,none⟩ = some (.int .i64 a0_4)) (ds := []) (bA 6 0) (by kernel_rfl) rfl rfl ⟨(blk_cell BK476.out 0).trans rfl,(blk_cell BK476.out 1).trans rfl,(blk_cell BK476.out 2).trans rfl,(blk_cell BK476.out 3).trans rfl,(blk_cell BK476.out 4).trans rfl⟩ (fun hHeld => ?_);generalize w11.drew = w12 at HO1_0 HO1_1 HO1_2 BK476 BK477 HB hHeld ⊢;refine take_ (i := 0) (N := some 13) (v := ?_) (a' := ?_) (bA 6 1) rfl rfl (by kernel_rfl) (fun _ _ _ h => h) (Or.inl ⟨by rfl,?_⟩) hHeld ?_ ?_;rotate_left
  ·rintro w' ⟨s0,s1,s2,s3,s4⟩
   go_simp
   with_reducible rfl
  rotate_left
  ·simp only [Act.put,sT,sZ,sS,i64_w,i32_w]
   rfl
  refine take_ (i := 2) (N := some 15) (v := ?_) (a' := ?_) (bA 6 5) rfl rfl (by kernel_rfl) (fun _ _ _ h => h) (Or.inl ⟨by rfl,?_⟩) hHeld ?_ ?_;rotate_left
  ·rintro w' ⟨s0,s1,s2,s3,s4⟩
   go_simp
   with_reducible rfl
  rotate_left
  ·simp only [Act.put,sT,sZ,sS,i64_w,i32_w]
   rfl
  refine one_ (i := 1) (N := some 14) (bA 6 7) rfl rfl (by kernel_rfl) (by decide) (fun K hK => ?_);refine gG Try.func50 #[.agg #[.int .i64 a0_0,.int .i64 a0_1,.int .i64 a0_2,.int .i64 a0_3,.int .i64 a0_4]] ?_;(with_reducible refine (trefoilref09_Sizes.calls k a0_0 a0_1 a0_2 a0_3 a0_4 t479 _ A5.out).mono ?_);rintro e w13 ⟨v480,rfl,ho0,hb⟩;refine ⟨_,rfl,?_⟩;replace HO1_0 := lV HO1_0 ho0 hb;replace HO1_1 := lV HO1_1 ho0 hb;replace HO1_2 := lV HO1_2 ho0 hb;have HO481 := Aside0.mk (Kd.R_lower (Kd.R_newM (M := fun k_ => (w.heap.size ≤ k_)) ho0 (below_size (rW HB)) (fun k_ h_ => h_)) (below_size (rW HB)));replace BK476 := bb BK476 hb;replace BK477 := bb BK477 hb;replace HB := bs HB hb;(try clear hb);(try clear hb2);(try clear hk);(try clear hi);(try clear ho0);refine hK.out _ _ ⟨(blk_cell BK476.out 0).trans rfl,(blk_cell BK476.out 1).trans rfl,(blk_cell BK476.out 2).trans rfl,(blk_cell BK476.out 3).trans rfl,(blk_cell BK476.out 4).trans rfl⟩ (fun hHeld => ?_);clear hK K;refine norm_ (a' := ?_) ?_ ?_;rotate_left
  ·show Act.put _ (some 14) _ = _
   simp only [Act.put,sT,sZ,sS,i64_w,i32_w]
   rfl
  refine one_ (i := 3) (N := some 16) (bA 6 15) rfl rfl (by kernel_rfl) (by decide) (fun K hK => ?_);refine gG Try.func51 #[.agg #[.int .i64 a0_0,.int .i64 a0_1,.int .i64 a0_2,.int .i64 a0_3,.int .i64 a0_4]] ?_;(with_reducible refine (trefoilref09_Widths.calls k a0_0 a0_1 a0_2 a0_3 a0_4 t482 _ A6.out).mono ?_);rintro e w14 ⟨v483,rfl,ho0,hb⟩;refine ⟨_,rfl,?_⟩;replace HO1_0 := lV HO1_0 ho0 hb;replace HO1_1 := lV HO1_1 ho0 hb;replace HO1_2 := lV HO1_2 ho0 hb;have HO484 := Aside0.mk (Kd.R_lower (Kd.R_new' (Kd.R_newM (M := fun k_ => (w.heap.size ≤ k_)) ho0 (below_size (rW HB)) (fun k_ h_ => h_)) (Kd.R_lt (rR HO481))) (below_size (rW HB)));replace HO481 := lR HO481 ho0 hb;replace BK476 := bb BK476 hb;replace BK477 := bb BK477 hb;replace HB := bs HB hb;(try clear hb);(try clear hb2);(try clear hk);(try clear hi);(try clear ho0);refine hK.out _ _ ⟨(blk_cell BK476.out 0).trans rfl,(blk_cell BK476.out 1).trans rfl,(blk_cell BK476.out 2).trans rfl,(blk_cell BK476.out 3).trans rfl,(blk_cell BK476.out 4).trans rfl⟩ (fun hHeld => ?_);clear hK K;refine norm_ (a' := ?_) ?_ ?_;rotate_left
  ·show Act.put _ (some 16) _ = _
   simp only [Act.put,sT,sZ,sS,i64_w,i32_w]
   rfl
  refine pure_ (i := 4) (N := some 5) (v := ?_) (a' := ?_) (bA 6 31) rfl rfl (by kernel_rfl) (fun _ _ _ h => h) (Or.inl ⟨by rfl,?_⟩) ?_ ?_;rotate_left
  ·intro w'
   go_simp
   with_reducible rfl
  rotate_left
  ·simp only [Act.put,sT,sZ,sS,i64_w,i32_w]
   rfl
  refine pure_ (i := 5) (N := some 6) (v := ?_) (a' := ?_) (bA 6 63) rfl rfl (by kernel_rfl) (fun _ _ _ h => h) (Or.inl ⟨by rfl,?_⟩) ?_ ?_;rotate_left
  ·intro w'
   go_simp
   with_reducible rfl
  rotate_left
  ·simp only [Act.put,sT,sZ,sS,i64_w,i32_w]
   rfl
  refine done_ (by kernel_rfl) ?_;obtain ⟨hcz15_0,hcz15_1,hcz15_2,hfz15_0,hfz15_1,hfz15_2⟩ := cz3 BK477
  try go_wp2_with (first | ((with_reducible refine gate_dst (N := 23) rfl ?_);refine Kd.N_lit (Kd.slice 32 (Kd.int .u64)) _ 23 ?hg (N' := 23) ?hd (xs := ([l1_0,l1_1,l1_2] : List (List Int))) (inner := [.slice A1_0 l1_0.length c1_0,.slice A1_1 l1_1.length c1_1,.slice A1_2 l1_2.length c1_2]) (ok := (fun k_ => ((P1_0_ k_ ∨ P1_1_ k_ ∨ P1_2_ k_) ∨ w.heap.size ≤ k_) ∧ some k_ ≠ (v480 : Value).ownBlock ∧ some k_ ≠ (v483 : Value).ownBlock ∧ k_ ≠ gb476 ∧ k_ ≠ gb477)) (okp := (fun k_ => ((P1_0_ k_ ∨ P1_1_ k_ ∨ P1_2_ k_) ∨ w.heap.size ≤ k_) ∧ some k_ ≠ (v480 : Value).ownBlock ∧ some k_ ≠ (v483 : Value).ownBlock ∧ k_ ≠ gb476 ∧ k_ ≠ gb477)) ?hr ?hp (fun _ hk => hk) ((show ∀ k_,w14.heap.size ≤ k_ → (fun k_ => ((P1_0_ k_ ∨ P1_1_ k_ ∨ P1_2_ k_) ∨ w.heap.size ≤ k_) ∧ some k_ ≠ (v480 : Value).ownBlock ∧ some k_ ≠ (v483 : Value).ownBlock ∧ k_ ≠ gb476 ∧ k_ ≠ gb477) k_ from fun k_ hk => ⟨(.inr (Nat.le_trans (below_size (rW HB)) hk)),Kd.fresh' (Kd.R_lt (rR HO481)) k_ hk,Kd.fresh' (Kd.R_lt (rR HO484)) k_ hk,Kd.freshB (g := gb476) (o := .cells #[.int .i64 a0_0,.int .i64 a0_1,.int .i64 a0_2,.int .i64 a0_3,.int .i64 a0_4] 25 (0,0)) (rB BK476) k_ hk,Kd.freshB (g := gb477) (o := .cells #[.slice A1_0 l1_0.length c1_0,.slice A1_1 l1_1.length c1_1,.slice A1_2 l1_2.length c1_2] 31 (0,0)) (rB BK477) k_ hk⟩) _ (Nat.le_refl _)) (Below.refl _ _) (Nat.le_refl _) (by simp) ?_;(case hd => rfl);(case hg => rfl);(case hr => first | (go_simp;done) | (go_simp;rfl));(case hp => exact (Reps.one (show Kd.FK (Kd.slice 32 (Kd.int .u64)) _ _ l1_0 [.slice A1_0 l1_0.length c1_0] from (Kd.FK_slice_mk (Kd.V_reads' (Kd.V_mono (ok' := (fun k_ => ((P1_0_ k_ ∨ P1_1_ k_ ∨ P1_2_ k_) ∨ w.heap.size ≤ k_) ∧ some k_ ≠ (v480 : Value).ownBlock ∧ some k_ ≠ (v483 : Value).ownBlock ∧ k_ ≠ gb476 ∧ k_ ≠ gb477)) (HO1_0.out) (fun k_ hk => ⟨hk.1.1.1.1,⟨hk.1.2,⟨hk.2,⟨hk.1.1.1.2,hk.1.1.2⟩⟩⟩⟩))).2.1 (Kd.V_F (Kd.V_mono (ok' := (fun k_ => ((P1_0_ k_ ∨ P1_1_ k_ ∨ P1_2_ k_) ∨ w.heap.size ≤ k_) ∧ some k_ ≠ (v480 : Value).ownBlock ∧ some k_ ≠ (v483 : Value).ownBlock ∧ k_ ≠ gb476 ∧ k_ ≠ gb477)) (HO1_0.out) (fun k_ hk => ⟨hk.1.1.1.1,⟨hk.1.2,⟨hk.2,⟨hk.1.1.1.2,hk.1.1.2⟩⟩⟩⟩))))) (Reps.one (show Kd.FK (Kd.slice 32 (Kd.int .u64)) _ _ l1_1 [.slice A1_1 l1_1.length c1_1] from (Kd.FK_slice_mk (Kd.V_reads' (Kd.V_mono (ok' := (fun k_ => ((P1_0_ k_ ∨ P1_1_ k_ ∨ P1_2_ k_) ∨ w.heap.size ≤ k_) ∧ some k_ ≠ (v480 : Value).ownBlock ∧ some k_ ≠ (v483 : Value).ownBlock ∧ k_ ≠ gb476 ∧ k_ ≠ gb477)) (HO1_1.out) (fun k_ hk => ⟨hk.1.1.1.1,⟨hk.1.2,⟨hk.2,⟨hk.1.1.1.2,hk.1.1.2⟩⟩⟩⟩))).2.1 (Kd.V_F (Kd.V_mono (ok' := (fun k_ => ((P1_0_ k_ ∨ P1_1_ k_ ∨ P1_2_ k_) ∨ w.heap.size ≤ k_) ∧ some k_ ≠ (v480 : Value).ownBlock ∧ some k_ ≠ (v483 : Value).ownBlock ∧ k_ ≠ gb476 ∧ k_ ≠ gb477)) (HO1_1.out) (fun k_ hk => ⟨hk.1.1.1.1,⟨hk.1.2,⟨hk.2,⟨hk.1.1.1.2,hk.1.1.2⟩⟩⟩⟩))))) (Reps.one (show Kd.FK (Kd.slice 32 (Kd.int .u64)) _ _ l1_2 [.slice A1_2 l1_2.length c1_2] from (Kd.FK_slice_mk (Kd.V_reads' (Kd.V_mono (ok' := (fun k_ => ((P1_0_ k_ ∨ P1_1_ k_ ∨ P1_2_ k_) ∨ w.heap.size ≤ k_) ∧ some k_ ≠ (v480 : Value).ownBlock ∧ some k_ ≠ (v483 : Value).ownBlock ∧ k_ ≠ gb476 ∧ k_ ≠ gb477)) (HO1_2.out) (fun k_ hk => ⟨hk.1.1.1.1,⟨hk.1.2,⟨hk.2,⟨hk.1.1.1.2,hk.1.1.2⟩⟩⟩⟩))).2.1 (Kd.V_F (Kd.V_mono (ok' := (fun k_ => ((P1_0_ k_ ∨ P1_1_ k_ ∨ P1_2_ k_) ∨ w.heap.size ≤ k_) ∧ some k_ ≠ (v480 : Value).ownBlock ∧ some k_ ≠ (v483 : Value).ownBlock ∧ k_ ≠ gb476 ∧ k_ ≠ gb477)) (HO1_2.out) (fun k_ hk => ⟨hk.1.1.1.1,⟨hk.1.2,⟨hk.2,⟨hk.1.1.1.2,hk.1.1.2⟩⟩⟩⟩))))) (Reps.none _ _)))));intro v486 w16 ho17 hb hg_ hnew_;clear hg_ hnew_;(first | rw [← Ny485.out] at ho17 | (simp only [Int.reduceToNat] at ho17;rw [← Ny485.out] at ho17));replace HO1_0 := Aside0.mk (Kd.V_elder' (rV HO1_0) (Kd.N_base ho17) hb);replace HO1_1 := Aside0.mk (Kd.V_elder' (rV HO1_1) (Kd.N_base ho17) hb);replace HO1_2 := Aside0.mk (Kd.V_elder' (rV HO1_2) (Kd.N_base ho17) hb);replace HO481 := bR HO481 hb;replace HO484 := bR HO484 hb;have HO487 := Aside0.mk (Kd.N_lower ho17 (below_size (rW HB)));replace BK476 := bb BK476 hb;replace BK477 := bb BK477 hb;replace HB := bs HB hb;clear hb ho17))
  go_loopg [8] k (fun kq v8 w' => ∃ (x8_1 : Int),v8 = .int .i64 x8_1 ∧ Aside0 (trefoilref09_Fits.l0 kq t479 t482 y485 x8_1 = some r) ∧ Aside0 (kq ≤ k) ∧ Aside0 (Kd.R (Kd.int .i64) 3 w' w.heap.size (fun k_ => (w.heap.size ≤ k_) ∧ some k_ ≠ (v483 : Value).ownBlock) v480 t479) ∧ Aside0 (Kd.R (Kd.int .i64) 3 w' w.heap.size (fun k_ => (w.heap.size ≤ k_) ∧ some k_ ≠ (v480 : Value).ownBlock) v483 t482) ∧ Aside0 (Kd.N (Kd.slice 32 (Kd.int .u64)) 23 w' w.heap.size (fun k_ => ((P1_0_ k_ ∨ P1_1_ k_ ∨ P1_2_ k_) ∨ w.heap.size ≤ k_) ∧ some k_ ≠ (v480 : Value).ownBlock ∧ some k_ ≠ (v483 : Value).ownBlock ∧ k_ ≠ gb476 ∧ k_ ≠ gb477) v486 y485) ∧ Aside0 (Kd.V (Kd.int .u64) 32 w' w.heap.size (fun k_ => ((P1_0_ k_ ∨ P1_1_ k_ ∨ P1_2_ k_) ∨ w.heap.size ≤ k_) ∧ some k_ ≠ (v480 : Value).ownBlock ∧ some k_ ≠ (v483 : Value).ownBlock ∧ some k_ ≠ (v486 : Value).ownBlock ∧ k_ ≠ gb476 ∧ k_ ≠ gb477) (.slice A1_0 l1_0.length c1_0) l1_0) ∧ Aside0 (Kd.V (Kd.int .u64) 32 w' w.heap.size (fun k_ => ((P1_0_ k_ ∨ P1_1_ k_ ∨ P1_2_ k_) ∨ w.heap.size ≤ k_) ∧ some k_ ≠ (v480 : Value).ownBlock ∧ some k_ ≠ (v483 : Value).ownBlock ∧ some k_ ≠ (v486 : Value).ownBlock ∧ k_ ≠ gb476 ∧ k_ ≠ gb477) (.slice A1_1 l1_1.length c1_1) l1_1) ∧ Aside0 (Kd.V (Kd.int .u64) 32 w' w.heap.size (fun k_ => ((P1_0_ k_ ∨ P1_1_ k_ ∨ P1_2_ k_) ∨ w.heap.size ≤ k_) ∧ some k_ ≠ (v480 : Value).ownBlock ∧ some k_ ≠ (v483 : Value).ownBlock ∧ some k_ ≠ (v486 : Value).ownBlock ∧ k_ ≠ gb476 ∧ k_ ≠ gb477) (.slice A1_2 l1_2.length c1_2) l1_2) ∧ Aside0 (w'.heap[gb476]? = some (.cells #[.int .i64 a0_0,.int .i64 a0_1,.int .i64 a0_2,.int .i64 a0_3,.int .i64 a0_4] 25 (0,0))) ∧ Aside0 (w'.heap[gb477]? = some (.cells #[(.slice A1_0 l1_0.length c1_0),(.slice A1_1 l1_1.length c1_1),(.slice A1_2 l1_2.length c1_2)] 31 (0,0))) ∧ Aside0 (Below w.heap.size w w'))
  case atStart => exact ⟨(0),(by first | rfl | (simp;done) | (simp [*];done)),H',⟨Nat.le_refl _⟩,⟨by (with_reducible repeat (first | apply Kd.R_alloc | apply Kd.R_drewN | apply Kd.R_drew));exact Kd.R_mono HO481.out (fun _ hk => ⟨hk.1.1,hk.2⟩)⟩,⟨by (with_reducible repeat (first | apply Kd.R_alloc | apply Kd.R_drewN | apply Kd.R_drew));exact Kd.R_mono HO484.out (fun _ hk => ⟨hk.1.1,hk.2⟩)⟩,⟨rN HO487⟩,⟨by (with_reducible repeat (first | apply Kd.V_alloc | apply Kd.V_drewN | apply Kd.V_drew));exact Kd.V_mono HO1_0.out (fun _ hk => ⟨hk.1.1.1.1.1,⟨hk.1.1.2,⟨hk.1.2,⟨hk.2,⟨hk.1.1.1.1.2,hk.1.1.1.2⟩⟩⟩⟩⟩)⟩,⟨by (with_reducible repeat (first | apply Kd.V_alloc | apply Kd.V_drewN | apply Kd.V_drew));exact Kd.V_mono HO1_1.out (fun _ hk => ⟨hk.1.1.1.1.1,⟨hk.1.1.2,⟨hk.1.2,⟨hk.2,⟨hk.1.1.1.1.2,hk.1.1.1.2⟩⟩⟩⟩⟩)⟩,⟨by (with_reducible repeat (first | apply Kd.V_alloc | apply Kd.V_drewN | apply Kd.V_drew));exact Kd.V_mono HO1_2.out (fun _ hk => ⟨hk.1.1.1.1.1,⟨hk.1.1.2,⟨hk.1.2,⟨hk.2,⟨hk.1.1.1.1.2,hk.1.1.1.2⟩⟩⟩⟩⟩)⟩,⟨rB BK476⟩,⟨rB BK477⟩,⟨rW HB⟩⟩
  case round =>
   clear H'
   try clear c1
   try clear c2
   try clear p2
   try clear c3
   try clear c4
   try clear c4b0
   try clear c4b1
   try clear c5
   try clear c9
   try clear hcz10_0 hcz10_1 hcz10_2 hcz10_3 hcz10_4 hcz15_0 hcz15_1 hcz15_2 hfz10_0 hfz10_1 hfz10_2 hfz10_3 hfz10_4 hfz15_0 hfz15_1 hfz15_2
   obtain ⟨x8_1,rfl,HA,HK1,HO_5,HO_6,HO_7,HO_478000,HO_478001,HO_478002,BK476,BK477,HB⟩ := hrel
   cases gk with
   | zero => exact absurd HA.out (by simp [trefoilref09_Fits.l0])
   | succ k1 =>
    have H := HA.out;clear HA;simp only [trefoilref09_Fits.l0] at H
    by_cases c18 : x8_1 < 3
    ·rw [if_pos c18] at H
     have c18b0 : decide (x8_1 < 3) = true := decide_eq_true c18;clear c18
     by_cases c19 : 0 ≤ x8_1
     ·rw [if_pos c19] at H
      have c19b0 : decide (0 ≤ x8_1) = true := decide_eq_true c19;clear c19
      by_cases c20 : x8_1 < (y485.length : Int)
      ·rw [if_pos c20] at H
       have c20b0 : decide (x8_1 < (y485.length : Int)) = true := decide_eq_true c20;clear c20
       by_cases c21 : x8_1 < (t479.length : Int)
       ·rw [if_pos c21] at H
        have c21b0 : decide (x8_1 < (t479.length : Int)) = true := decide_eq_true c21;clear c21
        by_cases c22 : ((rd_L1 y485 x8_1).length : Int) = (rd t479 x8_1)
        ·rw [if_pos c22] at H
         have c22b0 : (((rd_L1 y485 x8_1).length : Int) == (rd t479 x8_1)) = true := beq_iff_eq.mpr c22;have c22b1 : (((rd_L1 y485 x8_1).length : Int) != (rd t479 x8_1)) = false := bne_eq_false_iff_eq.mpr c22;clear c22;have H' := Aside0.mk H;clear H
         try go_wp2
         replace HO_5 := Aside0.mk (Kd.R_drew HO_5.out);replace HO_6 := Aside0.mk (Kd.R_drew HO_6.out);replace HO_7 := Aside0.mk (Kd.N_drew HO_7.out);replace HO_478000 := Aside0.mk (Kd.V_drew HO_478000.out);replace HO_478001 := Aside0.mk (Kd.V_drew HO_478001.out);replace HO_478002 := Aside0.mk (Kd.V_drew HO_478002.out);replace BK476 := Aside0.mk (blk_drew BK476.out);replace BK477 := Aside0.mk (blk_drew BK477.out);replace HB := Aside0.mk (below_drew1 HB.out);obtain ⟨Ao24,co24,eo24⟩ := Kd.N_slice HO_7.out;(first | subst eo24 | (injection eo24 with f1_ f2_ f3_;have f4_ := f1_.symm;have f5_ := f3_.symm;clear f1_ f2_ f3_;subst f4_;subst f5_));have p488 : 0 ≤ (x8_1 : Int) := of_decide_eq_true (by first | (with_reducible assumption) | assumption);have q488 : x8_1 < (y485.length : Int) := of_decide_eq_true (by first | (with_reducible assumption) | assumption);obtain ⟨ad488,A488_0,c488_0,e488,hx488_0,hl488_0,hi488_0⟩ := at_L1 (Kd.N_reads' HO_7.out).2.2 x8_1 p488 q488
         cases e488
         obtain ⟨ce488,hce488,hMe488,hcc488⟩ := Kd.N_get HO_7.out [] x8_1 p488 (by first | exact q488 | exact of_decide_eq_true (by first | (with_reducible assumption) | assumption) | (have e_ := (Kd.N_reads' HO_7.out).1;omega));obtain ⟨ua488_0,uc488_0,rfl,ul488_0,ge488_0⟩ := Kd.FK_slice_open hMe488;have hv488_0 := hcc488 0 _ rfl;rw [Nat.add_zero,show ((Kd.slice 32 (Kd.int .u64))).sz = 1 from rfl,Nat.mul_one] at hv488_0;replace hv488_0 := Option.some.inj (hv488_0.symm.trans hx488_0)
         injection hv488_0 with hva_ hvn_ hvc_
         rw [hva_] at ge488_0;rw [hvc_] at ul488_0;have HL488_0 := Aside0.mk (show Kd.V (Kd.int .u64) 32 _ w.heap.size _ _ (rd_L1 y485 x8_1) from Kd.V_mk ul488_0 ge488_0);clear hva_ hvn_ hvc_ ge488_0 ul488_0;clear hcc488 hce488;have HR488_0 := Aside0.mk hi488_0;have HC488_0 := Aside0.mk hl488_0;clear hi488_0 hl488_0;replace p488 := eq_true p488;replace q488 := eq_true q488;obtain ⟨Ao25,co25,eo25⟩ := Kd.R_slice HO_5.out;(first | subst eo25 | (injection eo25 with f1_ f2_ f3_;have f4_ := f1_.symm;have f5_ := f3_.symm;clear f1_ f2_ f3_;subst f4_;subst f5_));have p489 : 0 ≤ (x8_1 : Int) := of_decide_eq_true (by first | (with_reducible assumption) | assumption);have q489 : x8_1 < (t479.length : Int) := of_decide_eq_true (by first | (with_reducible assumption) | assumption);obtain ⟨ad489,e489,hx489_0⟩ := Kd.at_int (Kd.R_reads' HO_5.out).2.2 x8_1 p489 q489
         cases e489
         replace p489 := eq_true p489;replace q489 := eq_true q489;refine start_ (n := 10) (S := fun w' => w'.cell? (ad488.add (x8_1).toNat) = some (.slice A488_0 (rd_L1 y485 x8_1).length c488_0) ∧ w'.cell? (ad489.add (x8_1).toNat) = some (.int .i64 (rd t479 x8_1))) (ds := []) (bA 10 0) (by kernel_rfl) rfl rfl ⟨hx488_0,hx489_0⟩ (fun hHeld => ?_);refine with_tabW trefoilref09_Fits.tab8 trefoilref09_Fits.bits8 (fun HT_ HW_ => ?_);generalize wr.drew = w23 at HO_5 HO_6 HO_7 HO_478000 HO_478001 HO_478002 BK476 BK477 HB HL488_0 HR488_0 hx488_0 hx489_0 hHeld ⊢;refine pu_ 0 (some 28) (bA 10 1) HT_ ?_;refine pu_ 1 (some 29) (bA 10 3) HT_ ?_;refine pu_ 2 (some 30) (bA 10 7) HT_ ?_;refine pu_ 5 (some 33) (bA 10 39) HT_ ?_;refine pu_ 6 (some 34) (bA 10 103) HT_ ?_;refine pu_ 7 (some 35) (bA 10 231) HT_ ?_;refine ta_ 3 (some 31) (bA 10 239) HT_ HW_ hHeld ?_;refine pu_ 4 (some 32) (bA 10 255) HT_ ?_;refine ta_ 8 (some 36) (bA 10 511) HT_ HW_ hHeld ?_;refine pu_ 9 (some 37) (bA 10 1023) HT_ ?_;refine done_ (done_of HT_.out (by kernel_rfl)) ?_
         try go_wp2
         go_loopg [9] k1 (fun kq v9 w' => ∃ (x9_2 : Int),v9 = .int .i64 x9_2 ∧ Aside0 (trefoilref09_Fits.l1 kq t479 t482 y485 x8_1 x9_2 = some r) ∧ Aside0 (kq ≤ k1) ∧ Aside0 (Kd.R (Kd.int .i64) 3 w' w.heap.size (fun k_ => (w.heap.size ≤ k_) ∧ some k_ ≠ (v483 : Value).ownBlock) (.slice (some ad489) t479.length co25) t479) ∧ Aside0 (Kd.R (Kd.int .i64) 3 w' w.heap.size (fun k_ => (w.heap.size ≤ k_) ∧ some k_ ≠ ((.slice (some ad489) t479.length co25) : Value).ownBlock) v483 t482) ∧ Aside0 (Kd.N (Kd.slice 32 (Kd.int .u64)) 23 w' w.heap.size (fun k_ => ((P1_0_ k_ ∨ P1_1_ k_ ∨ P1_2_ k_) ∨ w.heap.size ≤ k_) ∧ some k_ ≠ ((.slice (some ad489) t479.length co25) : Value).ownBlock ∧ some k_ ≠ (v483 : Value).ownBlock ∧ k_ ≠ gb476 ∧ k_ ≠ gb477) (.slice (some ad488) y485.length co24) y485) ∧ Aside0 (Kd.V (Kd.int .u64) 32 w' w.heap.size (fun k_ => ((P1_0_ k_ ∨ P1_1_ k_ ∨ P1_2_ k_) ∨ w.heap.size ≤ k_) ∧ some k_ ≠ ((.slice (some ad489) t479.length co25) : Value).ownBlock ∧ some k_ ≠ (v483 : Value).ownBlock ∧ some k_ ≠ ((.slice (some ad488) y485.length co24) : Value).ownBlock ∧ k_ ≠ gb476 ∧ k_ ≠ gb477) (.slice A1_0 l1_0.length c1_0) l1_0) ∧ Aside0 (Kd.V (Kd.int .u64) 32 w' w.heap.size (fun k_ => ((P1_0_ k_ ∨ P1_1_ k_ ∨ P1_2_ k_) ∨ w.heap.size ≤ k_) ∧ some k_ ≠ ((.slice (some ad489) t479.length co25) : Value).ownBlock ∧ some k_ ≠ (v483 : Value).ownBlock ∧ some k_ ≠ ((.slice (some ad488) y485.length co24) : Value).ownBlock ∧ k_ ≠ gb476 ∧ k_ ≠ gb477) (.slice A1_1 l1_1.length c1_1) l1_1) ∧ Aside0 (Kd.V (Kd.int .u64) 32 w' w.heap.size (fun k_ => ((P1_0_ k_ ∨ P1_1_ k_ ∨ P1_2_ k_) ∨ w.heap.size ≤ k_) ∧ some k_ ≠ ((.slice (some ad489) t479.length co25) : Value).ownBlock ∧ some k_ ≠ (v483 : Value).ownBlock ∧ some k_ ≠ ((.slice (some ad488) y485.length co24) : Value).ownBlock ∧ k_ ≠ gb476 ∧ k_ ≠ gb477) (.slice A1_2 l1_2.length c1_2) l1_2) ∧ Aside0 (w'.heap[gb476]? = some (.cells #[.int .i64 a0_0,.int .i64 a0_1,.int .i64 a0_2,.int .i64 a0_3,.int .i64 a0_4] 25 (0,0))) ∧ Aside0 (w'.heap[gb477]? = some (.cells #[(.slice A1_0 l1_0.length c1_0),(.slice A1_1 l1_1.length c1_1),(.slice A1_2 l1_2.length c1_2)] 31 (0,0))) ∧ Aside0 (Kd.C (Kd.int .u64) w' A488_0 (rd_L1 y485 x8_1).length (rd_L1 y485 x8_1)) ∧ Aside0 (Below w.heap.size w w'))
         case atStart => exact ⟨(0),(by first | rfl | (simp;done) | (simp [*];done)),H',⟨Nat.le_refl _⟩,⟨rR HO_5⟩,⟨rR HO_6⟩,⟨rN HO_7⟩,⟨rV HO_478000⟩,⟨rV HO_478001⟩,⟨rV HO_478002⟩,⟨rB BK476⟩,⟨rB BK477⟩,⟨by repeat (first | (with_reducible exact HR488_0.out) | (with_reducible refine Kd.C_alloc ?_ _) | (with_reducible refine Kd.C_drewN ?_ _) | (with_reducible refine Kd.C_drew ?_) | exact HR488_0.out)⟩,⟨rW HB⟩⟩
         case round =>
          clear H'
          try clear c1
          try clear c2
          try clear p2
          try clear c3
          try clear c4
          try clear c4b0
          try clear c4b1
          try clear p4
          try clear q4
          try clear hx4
          try clear c5
          try clear c9
          try clear c18
          try clear c18b0
          try clear c19
          try clear c19b0
          try clear c20
          try clear c20b0
          try clear c21
          try clear c21b0
          try clear c22
          try clear c22b0
          try clear c22b1
          try clear c25
          try clear hcz10_0 hcz10_1 hcz10_2 hcz10_3 hcz10_4 hcz15_0 hcz15_1 hcz15_2 hfz10_0 hfz10_1 hfz10_2 hfz10_3 hfz10_4 hfz15_0 hfz15_1 hfz15_2
          try clear hx488_0
          try clear hx489_0
          try clear p2
          try clear p488
          try clear p489
          try clear q488
          try clear q489
          obtain ⟨x9_2,rfl,HA,HK2,HO_5,HO_6,HO_7,HO_478000,HO_478001,HO_478002,BK476,BK477,HR488_0,HB⟩ := hrel
          cases gk with
          | zero => exact absurd HA.out (by simp [trefoilref09_Fits.l1])
          | succ k2 =>
           have H := HA.out;clear HA;simp only [trefoilref09_Fits.l1] at H
           by_cases c26 : 0 ≤ x8_1
           ·rw [if_pos c26] at H
            have c26b0 : decide (0 ≤ x8_1) = true := decide_eq_true c26;clear c26
            by_cases c27 : x8_1 < (y485.length : Int)
            ·rw [if_pos c27] at H
             have c27b0 : decide (x8_1 < (y485.length : Int)) = true := decide_eq_true c27;clear c27
             by_cases c28 : x9_2 < ((rd_L1 y485 x8_1).length : Int)
             ·rw [if_pos c28] at H
              have c28b0 : decide (x9_2 < ((rd_L1 y485 x8_1).length : Int)) = true := decide_eq_true c28;clear c28
              by_cases c29 : 0 ≤ x9_2
              ·rw [if_pos c29] at H
               have c29b0 : decide (0 ≤ x9_2) = true := decide_eq_true c29;clear c29
               by_cases c30 : x8_1 < (t482.length : Int)
               ·rw [if_pos c30] at H
                have c30b0 : decide (x8_1 < (t482.length : Int)) = true := decide_eq_true c30;clear c30;obtain ⟨ji31,hji31⟩ : ∃ j_ : Int,(IntKind.u64.wrap (wrap64 ((rd t482 x8_1) - 1))) = j_ := ⟨_,rfl⟩
                replace H : (if 0 ≤ (ji31) then (if (shr .u64 (IntKind.u64.wrap (Int.tdiv (rd (rd_L1 y485 x8_1) x9_2) 2)) (ji31)) = 0 then (trefoilref09_Fits.l1 k2 t479 t482 y485 x8_1 (wrap64 (x9_2 + 1))) else (some false)) else (none)) = some r := by first | (rw [hji31] at H;exact H) | (simp only [hji31] at H ⊢;exact H)
                by_cases c32 : 0 ≤ (ji31)
                ·rw [if_pos c32] at H
                 have c32b0 := eq_true c32;have c32b1 : decide (0 ≤ (ji31)) = true := decide_eq_true c32;clear c32;obtain ⟨ji33,hji33⟩ : ∃ j_ : Int,(shr .u64 (IntKind.u64.wrap (Int.tdiv (rd (rd_L1 y485 x8_1) x9_2) 2)) (ji31)) = j_ := ⟨_,rfl⟩
                 replace H : (if (ji33) = 0 then (trefoilref09_Fits.l1 k2 t479 t482 y485 x8_1 (wrap64 (x9_2 + 1))) else (some false)) = some r := by first | (rw [hji33] at H;exact H) | (simp only [hji33] at H ⊢;exact H)
                 have hji33_ : ((IntKind.u64.wrap (Int.tdiv (rd (rd_L1 y485 x8_1) x9_2) 2)) / 2 ^ min (ji31).toNat 64) = ji33 := hji33;have hji33z : (ji31) ≤ 64 → ((IntKind.u64.wrap (Int.tdiv (rd (rd_L1 y485 x8_1) x9_2) 2)) / 2 ^ (ji31).toNat) = ji33 := shr_small hji33
                 by_cases c34 : (ji33) = 0
                 ·rw [if_pos c34] at H
                  have c34b0 : ((ji33) == 0) = true := beq_iff_eq.mpr c34;have c34b1 : ((ji33) != 0) = false := bne_eq_false_iff_eq.mpr c34;clear c34;have H' := Aside0.mk H;clear H;have p490 : 0 ≤ (x8_1 : Int) := of_decide_eq_true (by first | (with_reducible assumption) | assumption);have q490 : x8_1 < (y485.length : Int) := of_decide_eq_true (by first | (with_reducible assumption) | assumption);obtain ⟨ad490,A490_0,c490_0,e490,hx490_0,hl490_0,hi490_0⟩ := at_L1 (Kd.N_reads' HO_7.out).2.2 x8_1 p490 q490;obtain rfl : ad488 = ad490 := (by injection e490);obtain ⟨ce490,hce490,hMe490,hcc490⟩ := Kd.N_get HO_7.out [] x8_1 p490 (by first | exact q490 | exact of_decide_eq_true (by first | (with_reducible assumption) | assumption) | (have e_ := (Kd.N_reads' HO_7.out).1;omega));obtain ⟨ua490_0,uc490_0,rfl,ul490_0,ge490_0⟩ := Kd.FK_slice_open hMe490;have hv490_0 := hcc490 0 _ rfl;rw [Nat.add_zero,show ((Kd.slice 32 (Kd.int .u64))).sz = 1 from rfl,Nat.mul_one] at hv490_0;replace hv490_0 := Option.some.inj (hv490_0.symm.trans hx490_0)
                  injection hv490_0 with hva_ hvn_ hvc_
                  rw [hva_] at ge490_0;rw [hvc_] at ul490_0;have HL490_0 := Aside0.mk (show Kd.V (Kd.int .u64) 32 _ w.heap.size _ _ (rd_L1 y485 x8_1) from Kd.V_mk ul490_0 ge490_0);clear hva_ hvn_ hvc_ ge490_0 ul490_0;clear hcc490 hce490;have HR490_0 := Aside0.mk hi490_0;have HC490_0 := Aside0.mk hl490_0;clear hi490_0 hl490_0;replace p490 := eq_true p490;replace q490 := eq_true q490
                  try go_wp2
                  replace HO_5 := Aside0.mk (Kd.R_drew HO_5.out);replace HO_6 := Aside0.mk (Kd.R_drew HO_6.out);replace HO_7 := Aside0.mk (Kd.N_drew HO_7.out);replace HO_478000 := Aside0.mk (Kd.V_drew HO_478000.out);replace HO_478001 := Aside0.mk (Kd.V_drew HO_478001.out);replace HO_478002 := Aside0.mk (Kd.V_drew HO_478002.out);replace HL490_0 := Aside0.mk (Kd.V_drew HL490_0.out);replace BK476 := Aside0.mk (blk_drew BK476.out);replace BK477 := Aside0.mk (blk_drew BK477.out);replace HR488_0 := Aside0.mk (Kd.C_drew HR488_0.out);replace HR490_0 := Aside0.mk (Kd.C_drew HR490_0.out);replace HB := Aside0.mk (below_drew1 HB.out);have p491 : 0 ≤ (x8_1 : Int) := of_decide_eq_true (by first | (with_reducible assumption) | assumption);have q491 : x8_1 < (y485.length : Int) := of_decide_eq_true (by first | (with_reducible assumption) | assumption);obtain ⟨ad491,A491_0,c491_0,e491,hx491_0,hl491_0,hi491_0⟩ := at_L1 (Kd.N_reads' HO_7.out).2.2 x8_1 p491 q491;obtain rfl : ad488 = ad491 := (by injection e491);obtain ⟨ce491,hce491,hMe491,hcc491⟩ := Kd.N_get HO_7.out [] x8_1 p491 (by first | exact q491 | exact of_decide_eq_true (by first | (with_reducible assumption) | assumption) | (have e_ := (Kd.N_reads' HO_7.out).1;omega));obtain ⟨ua491_0,uc491_0,rfl,ul491_0,ge491_0⟩ := Kd.FK_slice_open hMe491;have hv491_0 := hcc491 0 _ rfl;rw [Nat.add_zero,show ((Kd.slice 32 (Kd.int .u64))).sz = 1 from rfl,Nat.mul_one] at hv491_0;replace hv491_0 := Option.some.inj (hv491_0.symm.trans hx491_0)
                  injection hv491_0 with hva_ hvn_ hvc_
                  rw [hva_] at ge491_0;rw [hvc_] at ul491_0;have HL491_0 := Aside0.mk (show Kd.V (Kd.int .u64) 32 _ w.heap.size _ _ (rd_L1 y485 x8_1) from Kd.V_mk ul491_0 ge491_0);clear hva_ hvn_ hvc_ ge491_0 ul491_0;clear hcc491 hce491;have HR491_0 := Aside0.mk hi491_0;have HC491_0 := Aside0.mk hl491_0;clear hi491_0 hl491_0;replace p491 := eq_true p491;replace q491 := eq_true q491;have p492 : 0 ≤ (x9_2 : Int) := of_decide_eq_true (by first | (with_reducible assumption) | assumption);have q492 : x9_2 < ((rd_L1 y485 x8_1).length : Int) := of_decide_eq_true (by first | (with_reducible assumption) | assumption);obtain ⟨ad492,e492,hx492_0⟩ := Kd.at_int (by repeat (first | (with_reducible exact HR491_0.out) | (with_reducible refine Kd.C_alloc ?_ _) | (with_reducible refine Kd.C_drewN ?_ _) | (with_reducible refine Kd.C_drew ?_) | exact HR491_0.out)) x9_2 p492 q492
                  cases e492
                  replace p492 := eq_true p492;replace q492 := eq_true q492;obtain ⟨Ao36,co36,eo36⟩ := Kd.R_slice HO_6.out;(first | subst eo36 | (injection eo36 with f1_ f2_ f3_;have f4_ := f1_.symm;have f5_ := f3_.symm;clear f1_ f2_ f3_;subst f4_;subst f5_));have p493 : 0 ≤ (x8_1 : Int) := of_decide_eq_true (by first | (with_reducible assumption) | assumption);have q493 : x8_1 < (t482.length : Int) := of_decide_eq_true (by first | (with_reducible assumption) | assumption);obtain ⟨ad493,e493,hx493_0⟩ := Kd.at_int (Kd.R_reads' HO_6.out).2.2 x8_1 p493 q493
                  cases e493
                  replace p493 := eq_true p493;replace q493 := eq_true q493;refine start_ (n := 16) (S := fun w' => w'.cell? (ad488.add (x8_1).toNat) = some (.slice (some ad492) (rd_L1 y485 x8_1).length c491_0) ∧ w'.cell? (ad492.add (x9_2).toNat) = some (.int .u64 (rd (rd_L1 y485 x8_1) x9_2)) ∧ w'.cell? (ad493.add (x8_1).toNat) = some (.int .i64 (rd t482 x8_1))) (ds := []) (bA 16 0) (by kernel_rfl) rfl rfl ⟨hx491_0,hx492_0,hx493_0⟩ (fun hHeld => ?_);refine with_tabW trefoilref09_Fits.tab13 trefoilref09_Fits.bits13 (fun HT_ HW_ => ?_);generalize wr.drew = w35 at HO_5 HO_6 HO_7 HO_478000 HO_478001 HO_478002 HL490_0 BK476 BK477 HR488_0 HR490_0 HB HL491_0 HR491_0 hx491_0 hx492_0 hx493_0 hHeld ⊢;refine pu_ 0 (some 47) (bA 16 1) HT_ ?_;refine pu_ 1 (some 48) (bA 16 3) HT_ ?_;refine pu_ 2 (some 49) (bA 16 7) HT_ ?_;refine pu_ 4 (some 51) (bA 16 23) HT_ ?_;refine pu_ 8 (some 55) (bA 16 279) HT_ ?_;refine pu_ 9 (some 56) (bA 16 791) HT_ ?_;refine pu_ 10 (some 57) (bA 16 1815) HT_ ?_;refine ta_ 3 (some 50) (bA 16 1823) HT_ HW_ hHeld ?_;refine pu_ 5 (some 52) (bA 16 1855) HT_ ?_;refine ta_ 6 (some 53) (bA 16 1919) HT_ HW_ hHeld ?_;refine pu_ 7 (some 54) (bA 16 2047) HT_ ?_;refine ta_ 11 (some 58) (bA 16 4095) HT_ HW_ hHeld ?_;refine pu_ 12 (some 59) (bA 16 8191) HT_ ?_;refine pu_ 13 (some 60) (bA 16 16383) HT_ ?_;refine pu_ 14 (some 61) (bA 16 32767) HT_ ?_;refine pu_ 15 (some 62) (bA 16 65535) HT_ ?_;refine done_ (done_of HT_.out (by kernel_rfl)) ?_
                  try go_wp2
                  go_roundg k2
                  case measure => have := HK1.out;have := HK2.out;omega
                  case rel => exact ⟨(wrap64 (x9_2 + 1)),(by first | rfl | (simp;done) | (simp [*];done)),H',⟨by have := HK1.out;have := HK2.out;omega⟩,⟨rR HO_5⟩,⟨rR HO_6⟩,⟨rN HO_7⟩,⟨rV HO_478000⟩,⟨rV HO_478001⟩,⟨rV HO_478002⟩,⟨rB BK476⟩,⟨rB BK477⟩,⟨by repeat (first | (with_reducible exact HR488_0.out) | (with_reducible refine Kd.C_alloc ?_ _) | (with_reducible refine Kd.C_drewN ?_ _) | (with_reducible refine Kd.C_drew ?_) | exact HR488_0.out)⟩,⟨rW HB⟩⟩
                 ·rw [if_neg c34] at H
                  have c34b0 : ((ji33) == 0) = false := beq_eq_false_iff_ne.mpr c34;have c34b1 : ((ji33) != 0) = true := bne_iff_ne.mpr c34;obtain rfl := Option.some.inj H;have p490 : 0 ≤ (x8_1 : Int) := of_decide_eq_true (by first | (with_reducible assumption) | assumption);have q490 : x8_1 < (y485.length : Int) := of_decide_eq_true (by first | (with_reducible assumption) | assumption);obtain ⟨ad490,A490_0,c490_0,e490,hx490_0,hl490_0,hi490_0⟩ := at_L1 (Kd.N_reads' HO_7.out).2.2 x8_1 p490 q490;obtain rfl : ad488 = ad490 := (by injection e490);obtain ⟨ce490,hce490,hMe490,hcc490⟩ := Kd.N_get HO_7.out [] x8_1 p490 (by first | exact q490 | exact of_decide_eq_true (by first | (with_reducible assumption) | assumption) | (have e_ := (Kd.N_reads' HO_7.out).1;omega));obtain ⟨ua490_0,uc490_0,rfl,ul490_0,ge490_0⟩ := Kd.FK_slice_open hMe490;have hv490_0 := hcc490 0 _ rfl;rw [Nat.add_zero,show ((Kd.slice 32 (Kd.int .u64))).sz = 1 from rfl,Nat.mul_one] at hv490_0;replace hv490_0 := Option.some.inj (hv490_0.symm.trans hx490_0)
                  injection hv490_0 with hva_ hvn_ hvc_
                  rw [hva_] at ge490_0;rw [hvc_] at ul490_0;have HL490_0 := Aside0.mk (show Kd.V (Kd.int .u64) 32 _ w.heap.size _ _ (rd_L1 y485 x8_1) from Kd.V_mk ul490_0 ge490_0);clear hva_ hvn_ hvc_ ge490_0 ul490_0;clear hcc490 hce490;have HR490_0 := Aside0.mk hi490_0;have HC490_0 := Aside0.mk hl490_0;clear hi490_0 hl490_0;replace p490 := eq_true p490;replace q490 := eq_true q490
                  try go_wp2
                  replace HO_5 := Aside0.mk (Kd.R_drew HO_5.out);replace HO_6 := Aside0.mk (Kd.R_drew HO_6.out);replace HO_7 := Aside0.mk (Kd.N_drew HO_7.out);replace HO_478000 := Aside0.mk (Kd.V_drew HO_478000.out);replace HO_478001 := Aside0.mk (Kd.V_drew HO_478001.out);replace HO_478002 := Aside0.mk (Kd.V_drew HO_478002.out);replace HL490_0 := Aside0.mk (Kd.V_drew HL490_0.out);replace BK476 := Aside0.mk (blk_drew BK476.out);replace BK477 := Aside0.mk (blk_drew BK477.out);replace HR488_0 := Aside0.mk (Kd.C_drew HR488_0.out);replace HR490_0 := Aside0.mk (Kd.C_drew HR490_0.out);replace HB := Aside0.mk (below_drew1 HB.out);have p491 : 0 ≤ (x8_1 : Int) := of_decide_eq_true (by first | (with_reducible assumption) | assumption);have q491 : x8_1 < (y485.length : Int) := of_decide_eq_true (by first | (with_reducible assumption) | assumption);obtain ⟨ad491,A491_0,c491_0,e491,hx491_0,hl491_0,hi491_0⟩ := at_L1 (Kd.N_reads' HO_7.out).2.2 x8_1 p491 q491;obtain rfl : ad488 = ad491 := (by injection e491);obtain ⟨ce491,hce491,hMe491,hcc491⟩ := Kd.N_get HO_7.out [] x8_1 p491 (by first | exact q491 | exact of_decide_eq_true (by first | (with_reducible assumption) | assumption) | (have e_ := (Kd.N_reads' HO_7.out).1;omega));obtain ⟨ua491_0,uc491_0,rfl,ul491_0,ge491_0⟩ := Kd.FK_slice_open hMe491;have hv491_0 := hcc491 0 _ rfl;rw [Nat.add_zero,show ((Kd.slice 32 (Kd.int .u64))).sz = 1 from rfl,Nat.mul_one] at hv491_0;replace hv491_0 := Option.some.inj (hv491_0.symm.trans hx491_0)
                  injection hv491_0 with hva_ hvn_ hvc_
                  rw [hva_] at ge491_0;rw [hvc_] at ul491_0;have HL491_0 := Aside0.mk (show Kd.V (Kd.int .u64) 32 _ w.heap.size _ _ (rd_L1 y485 x8_1) from Kd.V_mk ul491_0 ge491_0);clear hva_ hvn_ hvc_ ge491_0 ul491_0;clear hcc491 hce491;have HR491_0 := Aside0.mk hi491_0;have HC491_0 := Aside0.mk hl491_0;clear hi491_0 hl491_0;replace p491 := eq_true p491;replace q491 := eq_true q491;have p492 : 0 ≤ (x9_2 : Int) := of_decide_eq_true (by first | (with_reducible assumption) | assumption);have q492 : x9_2 < ((rd_L1 y485 x8_1).length : Int) := of_decide_eq_true (by first | (with_reducible assumption) | assumption);obtain ⟨ad492,e492,hx492_0⟩ := Kd.at_int (by repeat (first | (with_reducible exact HR491_0.out) | (with_reducible refine Kd.C_alloc ?_ _) | (with_reducible refine Kd.C_drewN ?_ _) | (with_reducible refine Kd.C_drew ?_) | exact HR491_0.out)) x9_2 p492 q492
                  cases e492
                  replace p492 := eq_true p492;replace q492 := eq_true q492;obtain ⟨Ao38,co38,eo38⟩ := Kd.R_slice HO_6.out;(first | subst eo38 | (injection eo38 with f1_ f2_ f3_;have f4_ := f1_.symm;have f5_ := f3_.symm;clear f1_ f2_ f3_;subst f4_;subst f5_));have p493 : 0 ≤ (x8_1 : Int) := of_decide_eq_true (by first | (with_reducible assumption) | assumption);have q493 : x8_1 < (t482.length : Int) := of_decide_eq_true (by first | (with_reducible assumption) | assumption);obtain ⟨ad493,e493,hx493_0⟩ := Kd.at_int (Kd.R_reads' HO_6.out).2.2 x8_1 p493 q493
                  cases e493
                  replace p493 := eq_true p493;replace q493 := eq_true q493;refine start_ (n := 16) (S := fun w' => w'.cell? (ad488.add (x8_1).toNat) = some (.slice (some ad492) (rd_L1 y485 x8_1).length c491_0) ∧ w'.cell? (ad492.add (x9_2).toNat) = some (.int .u64 (rd (rd_L1 y485 x8_1) x9_2)) ∧ w'.cell? (ad493.add (x8_1).toNat) = some (.int .i64 (rd t482 x8_1))) (ds := []) (bA 16 0) (by kernel_rfl) rfl rfl ⟨hx491_0,hx492_0,hx493_0⟩ (fun hHeld => ?_);refine with_tabW trefoilref09_Fits.tab13 trefoilref09_Fits.bits13 (fun HT_ HW_ => ?_);generalize wr.drew = w37 at HO_5 HO_6 HO_7 HO_478000 HO_478001 HO_478002 HL490_0 BK476 BK477 HR488_0 HR490_0 HB HL491_0 HR491_0 hx491_0 hx492_0 hx493_0 hHeld ⊢;refine pu_ 0 (some 47) (bA 16 1) HT_ ?_;refine pu_ 1 (some 48) (bA 16 3) HT_ ?_;refine pu_ 2 (some 49) (bA 16 7) HT_ ?_;refine pu_ 4 (some 51) (bA 16 23) HT_ ?_;refine pu_ 8 (some 55) (bA 16 279) HT_ ?_;refine pu_ 9 (some 56) (bA 16 791) HT_ ?_;refine pu_ 10 (some 57) (bA 16 1815) HT_ ?_;refine ta_ 3 (some 50) (bA 16 1823) HT_ HW_ hHeld ?_;refine pu_ 5 (some 52) (bA 16 1855) HT_ ?_;refine ta_ 6 (some 53) (bA 16 1919) HT_ HW_ hHeld ?_;refine pu_ 7 (some 54) (bA 16 2047) HT_ ?_;refine ta_ 11 (some 58) (bA 16 4095) HT_ HW_ hHeld ?_;refine pu_ 12 (some 59) (bA 16 8191) HT_ ?_;refine pu_ 13 (some 60) (bA 16 16383) HT_ ?_;refine pu_ 14 (some 61) (bA 16 32767) HT_ ?_;refine pu_ 15 (some 62) (bA 16 65535) HT_ ?_;refine done_ (done_of HT_.out (by kernel_rfl)) ?_
                  try go_wp2
                  go_ret
                  exact ⟨by first | rfl | (simp [errW_none,errW_some] <;> rfl) | (simp only [← hji31,← hji33];first | rfl | (simp [errW_none,errW_some] <;> rfl)) | (simp [*,errW_none,errW_some] <;> rfl),rW HB⟩
                ·rw [if_neg c32] at H
                 exact absurd H (by simp)
               ·rw [if_neg c30] at H
                exact absurd H (by simp)
              ·rw [if_neg c29] at H
               exact absurd H (by simp)
             ·rw [if_neg c28] at H
              have c28b0 : decide (x9_2 < ((rd_L1 y485 x8_1).length : Int)) = false := decide_eq_false c28;clear c28;have H' := Aside0.mk H;clear H;have p490 : 0 ≤ (x8_1 : Int) := of_decide_eq_true (by first | (with_reducible assumption) | assumption);have q490 : x8_1 < (y485.length : Int) := of_decide_eq_true (by first | (with_reducible assumption) | assumption);obtain ⟨ad490,A490_0,c490_0,e490,hx490_0,hl490_0,hi490_0⟩ := at_L1 (Kd.N_reads' HO_7.out).2.2 x8_1 p490 q490;obtain rfl : ad488 = ad490 := (by injection e490);obtain ⟨ce490,hce490,hMe490,hcc490⟩ := Kd.N_get HO_7.out [] x8_1 p490 (by first | exact q490 | exact of_decide_eq_true (by first | (with_reducible assumption) | assumption) | (have e_ := (Kd.N_reads' HO_7.out).1;omega));obtain ⟨ua490_0,uc490_0,rfl,ul490_0,ge490_0⟩ := Kd.FK_slice_open hMe490;have hv490_0 := hcc490 0 _ rfl;rw [Nat.add_zero,show ((Kd.slice 32 (Kd.int .u64))).sz = 1 from rfl,Nat.mul_one] at hv490_0;replace hv490_0 := Option.some.inj (hv490_0.symm.trans hx490_0)
              injection hv490_0 with hva_ hvn_ hvc_
              rw [hva_] at ge490_0;rw [hvc_] at ul490_0;have HL490_0 := Aside0.mk (show Kd.V (Kd.int .u64) 32 _ w.heap.size _ _ (rd_L1 y485 x8_1) from Kd.V_mk ul490_0 ge490_0);clear hva_ hvn_ hvc_ ge490_0 ul490_0;clear hcc490 hce490;have HR490_0 := Aside0.mk hi490_0;have HC490_0 := Aside0.mk hl490_0;clear hi490_0 hl490_0;replace p490 := eq_true p490;replace q490 := eq_true q490
              go_wp2
              go_roundg k2
              case measure => have := HK1.out;have := HK2.out;omega
              case rel => exact ⟨(wrap64 (x8_1 + 1)),(by first | rfl | (simp;done) | (simp [*];done)),H',⟨by have := HK1.out;have := HK2.out;omega⟩,⟨rR HO_5⟩,⟨rR HO_6⟩,⟨rN HO_7⟩,⟨rV HO_478000⟩,⟨rV HO_478001⟩,⟨rV HO_478002⟩,⟨rB BK476⟩,⟨rB BK477⟩,⟨rW HB⟩⟩
            ·rw [if_neg c27] at H
             exact absurd H (by simp)
           ·rw [if_neg c26] at H
            exact absurd H (by simp)
        ·rw [if_neg c22] at H
         have c22b0 : (((rd_L1 y485 x8_1).length : Int) == (rd t479 x8_1)) = false := beq_eq_false_iff_ne.mpr c22;have c22b1 : (((rd_L1 y485 x8_1).length : Int) != (rd t479 x8_1)) = true := bne_iff_ne.mpr c22;obtain rfl := Option.some.inj H
         try go_wp2
         replace HO_5 := Aside0.mk (Kd.R_drew HO_5.out);replace HO_6 := Aside0.mk (Kd.R_drew HO_6.out);replace HO_7 := Aside0.mk (Kd.N_drew HO_7.out);replace HO_478000 := Aside0.mk (Kd.V_drew HO_478000.out);replace HO_478001 := Aside0.mk (Kd.V_drew HO_478001.out);replace HO_478002 := Aside0.mk (Kd.V_drew HO_478002.out);replace BK476 := Aside0.mk (blk_drew BK476.out);replace BK477 := Aside0.mk (blk_drew BK477.out);replace HB := Aside0.mk (below_drew1 HB.out);obtain ⟨Ao40,co40,eo40⟩ := Kd.N_slice HO_7.out;(first | subst eo40 | (injection eo40 with f1_ f2_ f3_;have f4_ := f1_.symm;have f5_ := f3_.symm;clear f1_ f2_ f3_;subst f4_;subst f5_));have p488 : 0 ≤ (x8_1 : Int) := of_decide_eq_true (by first | (with_reducible assumption) | assumption);have q488 : x8_1 < (y485.length : Int) := of_decide_eq_true (by first | (with_reducible assumption) | assumption);obtain ⟨ad488,A488_0,c488_0,e488,hx488_0,hl488_0,hi488_0⟩ := at_L1 (Kd.N_reads' HO_7.out).2.2 x8_1 p488 q488
         cases e488
         obtain ⟨ce488,hce488,hMe488,hcc488⟩ := Kd.N_get HO_7.out [] x8_1 p488 (by first | exact q488 | exact of_decide_eq_true (by first | (with_reducible assumption) | assumption) | (have e_ := (Kd.N_reads' HO_7.out).1;omega));obtain ⟨ua488_0,uc488_0,rfl,ul488_0,ge488_0⟩ := Kd.FK_slice_open hMe488;have hv488_0 := hcc488 0 _ rfl;rw [Nat.add_zero,show ((Kd.slice 32 (Kd.int .u64))).sz = 1 from rfl,Nat.mul_one] at hv488_0;replace hv488_0 := Option.some.inj (hv488_0.symm.trans hx488_0)
         injection hv488_0 with hva_ hvn_ hvc_
         rw [hva_] at ge488_0;rw [hvc_] at ul488_0;have HL488_0 := Aside0.mk (show Kd.V (Kd.int .u64) 32 _ w.heap.size _ _ (rd_L1 y485 x8_1) from Kd.V_mk ul488_0 ge488_0);clear hva_ hvn_ hvc_ ge488_0 ul488_0;clear hcc488 hce488;have HR488_0 := Aside0.mk hi488_0;have HC488_0 := Aside0.mk hl488_0;clear hi488_0 hl488_0;replace p488 := eq_true p488;replace q488 := eq_true q488;obtain ⟨Ao41,co41,eo41⟩ := Kd.R_slice HO_5.out;(first | subst eo41 | (injection eo41 with f1_ f2_ f3_;have f4_ := f1_.symm;have f5_ := f3_.symm;clear f1_ f2_ f3_;subst f4_;subst f5_));have p489 : 0 ≤ (x8_1 : Int) := of_decide_eq_true (by first | (with_reducible assumption) | assumption);have q489 : x8_1 < (t479.length : Int) := of_decide_eq_true (by first | (with_reducible assumption) | assumption);obtain ⟨ad489,e489,hx489_0⟩ := Kd.at_int (Kd.R_reads' HO_5.out).2.2 x8_1 p489 q489
         cases e489
         replace p489 := eq_true p489;replace q489 := eq_true q489;refine start_ (n := 10) (S := fun w' => w'.cell? (ad488.add (x8_1).toNat) = some (.slice A488_0 (rd_L1 y485 x8_1).length c488_0) ∧ w'.cell? (ad489.add (x8_1).toNat) = some (.int .i64 (rd t479 x8_1))) (ds := []) (bA 10 0) (by kernel_rfl) rfl rfl ⟨hx488_0,hx489_0⟩ (fun hHeld => ?_);refine with_tabW trefoilref09_Fits.tab8 trefoilref09_Fits.bits8 (fun HT_ HW_ => ?_);generalize wr.drew = w39 at HO_5 HO_6 HO_7 HO_478000 HO_478001 HO_478002 BK476 BK477 HB HL488_0 HR488_0 hx488_0 hx489_0 hHeld ⊢;refine pu_ 0 (some 28) (bA 10 1) HT_ ?_;refine pu_ 1 (some 29) (bA 10 3) HT_ ?_;refine pu_ 2 (some 30) (bA 10 7) HT_ ?_;refine pu_ 5 (some 33) (bA 10 39) HT_ ?_;refine pu_ 6 (some 34) (bA 10 103) HT_ ?_;refine pu_ 7 (some 35) (bA 10 231) HT_ ?_;refine ta_ 3 (some 31) (bA 10 239) HT_ HW_ hHeld ?_;refine pu_ 4 (some 32) (bA 10 255) HT_ ?_;refine ta_ 8 (some 36) (bA 10 511) HT_ HW_ hHeld ?_;refine pu_ 9 (some 37) (bA 10 1023) HT_ ?_;refine done_ (done_of HT_.out (by kernel_rfl)) ?_
         try go_wp2
         go_ret
         exact ⟨by first | rfl | (simp [errW_none,errW_some] <;> rfl) | (simp [*,errW_none,errW_some] <;> rfl),rW HB⟩
       ·rw [if_neg c21] at H
        exact absurd H (by simp)
      ·rw [if_neg c20] at H
       exact absurd H (by simp)
     ·rw [if_neg c19] at H
      exact absurd H (by simp)
    ·rw [if_neg c18] at H
     have c18b0 : decide (x8_1 < 3) = false := decide_eq_false c18;clear c18;obtain rfl := Option.some.inj H
     go_wp2
     go_ret
     exact ⟨by first | rfl | (simp [errW_none,errW_some] <;> rfl) | (simp [*,errW_none,errW_some] <;> rfl),rW HB⟩
 ·rw [if_neg c4] at H
  have c4b0 : (t478 == 0) = false := beq_eq_false_iff_ne.mpr c4;have c4b1 : (t478 != 0) = true := bne_iff_ne.mpr c4;obtain rfl := Option.some.inj H
  go_enter Try.func25,Try.ntmps25
  go_wp2_with (first | ((with_reducible refine gate_dst (N := 2) rfl ?_);refine bx 2 #[.int .i64 a0_0,.int .i64 a0_1,.int .i64 a0_2,.int .i64 a0_3,.int .i64 a0_4] 25 ?_;intro gb476 hg w42 hbox hb;replace HO1_0 := eV HO1_0 hg hb;replace HO1_1 := eV HO1_1 hg hb;replace HO1_2 := eV HO1_2 hg hb;have BK476 := Aside0.mk hbox;have GW476 := bz HB hg;have GE476 := bz HB hg;replace HB := bs HB hb;clear hb hbox hg) | ((with_reducible refine gate_dst (N := 3) rfl ?_);refine bx 3 #[.slice A1_0 l1_0.length c1_0,.slice A1_1 l1_1.length c1_1,.slice A1_2 l1_2.length c1_2] 31 ?_;intro gb477 hg w43 hbox hb;replace HO1_0 := eV HO1_0 hg hb;replace HO1_1 := eV HO1_1 hg hb;replace HO1_2 := eV HO1_2 hg hb;have BK477 := Aside0.mk hbox;have GW477 := bz HB hg;have GE477 := bz HB hg;replace HB := bs HB hb;have NB476_477 := bl BK476 hg;have NB477_476 := bg BK476 hg;replace BK476 := bb BK476 hb;clear hb hbox hg;have hnb44 := NB476_477.out;have hnc44 := NB477_476.out;obtain ⟨hcz45_0,hcz45_1,hcz45_2,hcz45_3,hcz45_4,hfz45_0,hfz45_1,hfz45_2,hfz45_3,hfz45_4⟩ := cz5 BK476) | ((with_reducible refine gate_callee (f := 31) rfl ?_);refine gL (some 11) Try.func31 #[.agg #[.int .i64 a0_0,.int .i64 a0_1,.int .i64 a0_2,.int .i64 a0_3,.int .i64 a0_4]] ?_;(with_reducible refine (trefoilref09_Check.calls k a0_0 a0_1 a0_2 a0_3 a0_4 t478 _ A3.out).mono ?_);rintro e w46 ⟨rfl,hb⟩;refine ⟨_,rfl,?_⟩;replace HO1_0 := bV HO1_0 hb;replace HO1_1 := bV HO1_1 hb;replace HO1_2 := bV HO1_2 hb;replace BK476 := bb BK476 hb;replace BK477 := bb BK477 hb;replace HB := bs HB hb;(try clear hb);(try clear hb2);(try clear hk);(try clear hi)))
  go_ret
  exact ⟨by first | rfl | (simp [errW_none,errW_some] <;> rfl) | (simp [*,errW_none,errW_some] <;> rfl),rW HB⟩
end Go.Proofs.Ytbhfleilgjonpaa.XScalarComes
