import Derived.Test.YtbhfleilgjonpaaSXShort
import Derived.Test.YtbhfleilgjonpaaSXScalarComesx0
import Derived.Test.YtbhfleilgjonpaaSXScalarComesx7
import Derived.Test.YtbhfleilgjonpaaSXScalarComesx8
import Derived.Test.YtbhfleilgjonpaaSXScalarComesx9
namespace Go.Proofs.Ytbhfleilgjonpaa.XScalarComes
open Go.RowKit Go.Proofs.YtbhfleilgjonpaaW.PrintWords Go.Proofs.YtbhfleilgjonpaaW.PrintLast Go.Proofs.YtbhfleilgjonpaaW.PrintMore
attribute [local go_sem] max2_int min2_int max_two min_two max_three min_three max_four min_four
set_option linter.unusedVariables false
set_option linter.unusedSimpArgs false
def bits_Of.l0 : Nat → List Bool → Int → Int → Int → List Int → Option (Int × List Int × Int)
 | 0,_,_,_,_,_ => none
 | k + 1,x18,x19,x20,x304000,x304001 => if x20 < x19 then (if 0 ≤ x20 then (if x20 < (x18.length : Int) then (if rdOf false x18 x20 = true then (if 0 ≤ (wrap64 (Int.tdiv x20 64)) then (if (wrap64 (Int.tdiv x20 64)) < (x304001.length : Int) then (if 0 ≤ (IntKind.u64.wrap (Int.tmod x20 64)) then (bits_Of.l0 k x18 x19 (wrap64 (x20 + 1)) x304000 (x304001.set ((wrap64 (Int.tdiv x20 64)) : Int).toNat (Go.bits .or .u64 (rd x304001 (wrap64 (Int.tdiv x20 64))) (shl .u64 1 (IntKind.u64.wrap (Int.tmod x20 64)))))) else (none)) else (none)) else (none)) else (bits_Of.l0 k x18 x19 (wrap64 (x20 + 1)) x304000 x304001)) else (none)) else (none)) else (some (x304000,x304001,0))
def bits_Of.f (k : Nat) (l0 : List Bool) : Option (Int × List Int × Int) := (bits_New.f (l0.length : Int)).bind fun bt298 => (if bt298.2.2 = 0 then (bits_Of.l0 k l0 (l0.length : Int) 0 bt298.1 bt298.2.1) else (some (0,([] : List Int),bt298.2.2)))
theorem bits_Of.mono_l : ∀ k,(∀ y0 y1 y2 y3 y4,LeO (bits_Of.l0 k y0 y1 y2 y3 y4) (bits_Of.l0 (k + 1) y0 y1 y2 y3 y4))
 | 0 => fun _ _ _ _ _ r h => by simp [bits_Of.l0] at h
 | k + 1 => by
  have ih0 := bits_Of.mono_l k
  ·intro y0 y1 y2 y3 y4
   unfold bits_Of.l0
   repeat' first | (with_reducible first | exact ih0 _ _ _ _ _ | exact LeO.refl _ | exact LeO.none _ | refine LeO.ite ?_ ?_ | refine LeO.bind ?_ (fun _ => ?_)) | exact LeO.none _ | refine LeO.ite ?_ ?_ | refine LeO.bind ?_ (fun _ => ?_)
theorem bits_Of.mono : ∀ a0 k,LeO (bits_Of.f k a0) (bits_Of.f (k + 1) a0) := by
 intro a0 k;have ih0 := bits_Of.mono_l k;unfold bits_Of.f
 repeat' first | (with_reducible first | exact ih0 _ _ _ _ _ | exact LeO.refl _ | exact LeO.none _ | refine LeO.ite ?_ ?_ | refine LeO.bind ?_ (fun _ => ?_)) | exact LeO.none _ | refine LeO.ite ?_ ?_ | refine LeO.bind ?_ (fun _ => ?_)
set_option maxHeartbeats 8000000 in
set_option maxRecDepth 100000 in
theorem bits_Of.calls (k : Nat) (A0 : Option Addr) (c0 : Nat) (l0 : List Bool) (r1 : Int) (r2 : List Int) (r3 : Int) (w : World) (hr0 : Kd.C Kd.bool w A0 l0.length l0) (hc0 : l0.length ≤ c0) (h : bits_Of.f k l0 = some (r1,r2,r3)) :
  Calls Try.prog 72 #[.slice A0 l0.length c0] w fun e w' => ∃ v1_ : Value,e = .returned (.tuple #[.agg #[.int .i64 r1,v1_],.int .i64 r3]) ∧ Kd.R (Kd.int .u64) 32 w' w.heap.size (fun _ => True) v1_ r2 ∧ Below w.heap.size w w' := by
 have hu49 := Try.underlying49;have HR0 := Aside0.mk hr0;have HC0 := Aside0.mk hc0;clear hr0 hc0;have HB := Aside0.mk (Below.refl w.heap.size w);have H : ((bits_New.f (l0.length : Int)).bind fun bt298 => (if bt298.2.2 = 0 then (bits_Of.l0 k l0 (l0.length : Int) 0 bt298.1 bt298.2.1) else (some (0,([] : List Int),bt298.2.2)))) = some (r1,r2,r3) := h;clear h;replace H := Option.bind_eq_some_iff.mp H;obtain ⟨⟨t298,t299,t302⟩,A20,H⟩ := H;replace H : (if t302 = 0 then (bits_Of.l0 k l0 (l0.length : Int) 0 t298 t299) else (some (0,([] : List Int),t302))) = some (r1,r2,r3) := H;have A2 := Aside0.mk A20;clear A20
 by_cases c3 : t302 = 0
 ·rw [if_pos c3] at H
  have c3b0 : (t302 == 0) = true := beq_iff_eq.mpr c3;have c3b1 : (t302 != 0) = false := bne_eq_false_iff_eq.mpr c3;clear c3;have H' := Aside0.mk H;clear H
  go_enter Try.func72,Try.ntmps72
  go_wp2_with (first | ((with_reducible refine gate_dst (N := 2) rfl ?_);refine bx 2 #[.int .i64 0,.slice none 0 0] 49 ?_;intro gb297 hg w4 hbox hb;have BK297 := Aside0.mk hbox;have GW297 := bz HB hg;have GE297 := bz HB hg;replace HB := bs HB hb;clear hb hbox hg) | ((with_reducible refine gate_callee (f := 84) rfl ?_);refine gL (some 11) Try.func84 #[.int .i64 (l0.length : Int)] ?_;(with_reducible refine (bits_New.calls (l0.length : Int) t298 t299 t302 _ A2.out).mono ?_);rintro e w5 ⟨v300,rfl,ho0,hb⟩;refine ⟨_,rfl,?_⟩;have HO301 := Aside0.mk (Kd.R_lower ho0 (below_size (rW HB)));replace BK297 := bb BK297 hb;replace HB := bs HB hb;(try clear hb);(try clear hb2);(try clear hk);(try clear hi);(try clear ho0)) | ((with_reducible refine gate_dst (N := 4) rfl ?_);refine bx 4 #[.int .i64 0,.slice none 0 0] 49 ?_;intro gb303 hg w6 hbox hb;replace HO301 := bR HO301 hb;have BK303 := Aside0.mk hbox;have GW303 := bz HB hg;have GE303 := bz HB hg;replace HB := bs HB hb;have NB297_303 := bl BK297 hg;have NB303_297 := bg BK297 hg;replace BK297 := bb BK297 hb;clear hb hbox hg;have hnb7 := NB303_297.out;have hnc7 := NB297_303.out;obtain ⟨hcz8_0,hcz8_1,hfz8_0,hfz8_1⟩ := cz2 BK303;obtain ⟨Ao9,co9,eo9⟩ := Kd.R_slice HO301.out;subst eo9))
  go_loopg [20] k (fun kq v20 w' => ∃ (x20_1 : Int) (x304001_1 : List Int) (u304001 : Value),v20 = .int .i64 x20_1 ∧ Aside0 (bits_Of.l0 kq l0 (l0.length : Int) x20_1 t298 x304001_1 = some (r1,r2,r3)) ∧ Aside0 (kq ≤ k) ∧ Aside0 (Kd.R (Kd.int .u64) 32 w' w.heap.size (fun _ => True) u304001 x304001_1) ∧ Aside0 (w'.heap[gb297]? = some (.cells #[.int .i64 0,(.slice none 0 0)] 49 (0,0))) ∧ Aside0 (w'.heap[gb303]? = some (.cells #[.int .i64 t298,u304001] 49 (0,0))) ∧ Aside0 (Below w.heap.size w w'))
  case atStart => exact ⟨(0),(t299),(.slice Ao9 t299.length co9),(by first | rfl | (simp;done) | (simp [*];done)),H',⟨Nat.le_refl _⟩,⟨by (with_reducible repeat (first | apply Kd.R_alloc | apply Kd.R_drewN | apply Kd.R_drew));exact Kd.R_mono (Kd.R_far (p := ⟨gb303,1,none⟩) (Kd.R_far (p := ⟨gb303,0,none⟩) (Kd.R_types HO301.out BK303.out (by decide)) (fun _ hk => hk.2) (.int .i64 t298)) (fun _ hk => hk.2) (.slice Ao9 t299.length co9)) (fun _ hk => trivial)⟩,⟨by (with_reducible repeat (first | refine blk_drewN ?_ _ | refine blk_drew ?_ | refine blk_alloc ?_ _));refine blk_far ?_ NB297_303.out _;(with_reducible repeat (first | refine blk_drewN ?_ _ | refine blk_drew ?_ | refine blk_alloc ?_ _));refine blk_far ?_ NB297_303.out _;(with_reducible repeat (first | refine blk_drewN ?_ _ | refine blk_drew ?_ | refine blk_alloc ?_ _));exact BK297.out⟩,⟨by (with_reducible repeat (first | refine blk_drewN ?_ _ | refine blk_drew ?_ | refine blk_alloc ?_ _));refine blk_put (cs := #[.int .i64 t298,.slice none 0 0]) ?_ 1 _ rfl;(with_reducible repeat (first | refine blk_drewN ?_ _ | refine blk_drew ?_ | refine blk_alloc ?_ _));refine blk_put (cs := #[.int .i64 0,.slice none 0 0]) ?_ 0 _ rfl;(with_reducible repeat (first | refine blk_drewN ?_ _ | refine blk_drew ?_ | refine blk_alloc ?_ _));exact BK303.out⟩,⟨rW HB⟩⟩
  case round =>
   clear H'
   try clear p2
   try clear c3
   try clear c3b0
   try clear c3b1
   try clear c7
   try clear c8
   try clear hcz8_0 hcz8_1 hfz8_0 hfz8_1
   obtain ⟨x20_1,x304001_1,u304001,rfl,HA,HK1,HO_304001,BK297,BK303,HB⟩ := hrel
   cases gk with
   | zero => exact absurd HA.out (by simp [bits_Of.l0])
   | succ k1 =>
    have H := HA.out;clear HA;simp only [bits_Of.l0] at H
    by_cases c10 : x20_1 < (l0.length : Int)
    ·rw [if_pos c10] at H
     have c10b0 : decide (x20_1 < (l0.length : Int)) = true := decide_eq_true c10;clear c10
     by_cases c11 : 0 ≤ x20_1
     ·rw [if_pos c11] at H
      have c11b0 : decide (0 ≤ x20_1) = true := decide_eq_true c11;clear c11
      by_cases c12 : x20_1 < (l0.length : Int)
      ·rw [if_pos c12] at H
       have c12b0 : decide (x20_1 < (l0.length : Int)) = true := decide_eq_true c12;clear c12;obtain ⟨bq13,hbq13⟩ : ∃ b_ : Bool,b_ = (rdOf false l0 x20_1) := ⟨_,rfl⟩
       replace H : (if bq13 = true then (if 0 ≤ (wrap64 (Int.tdiv x20_1 64)) then (if (wrap64 (Int.tdiv x20_1 64)) < (x304001_1.length : Int) then (if 0 ≤ (IntKind.u64.wrap (Int.tmod x20_1 64)) then (bits_Of.l0 k1 l0 (l0.length : Int) (wrap64 (x20_1 + 1)) t298 (x304001_1.set ((wrap64 (Int.tdiv x20_1 64)) : Int).toNat (Go.bits .or .u64 (rd x304001_1 (wrap64 (Int.tdiv x20_1 64))) (shl .u64 1 (IntKind.u64.wrap (Int.tmod x20_1 64)))))) else (none)) else (none)) else (none)) else (bits_Of.l0 k1 l0 (l0.length : Int) (wrap64 (x20_1 + 1)) t298 x304001_1)) = some (r1,r2,r3) := by rw [← hbq13] at H;exact H
       have Nbq13 := Aside0.mk hbq13;clear hbq13
       by_cases c14 : bq13 = true
       ·subst c14
        have H1 : (if 0 ≤ (wrap64 (Int.tdiv x20_1 64)) then (if (wrap64 (Int.tdiv x20_1 64)) < (x304001_1.length : Int) then (if 0 ≤ (IntKind.u64.wrap (Int.tmod x20_1 64)) then (bits_Of.l0 k1 l0 (l0.length : Int) (wrap64 (x20_1 + 1)) t298 (x304001_1.set ((wrap64 (Int.tdiv x20_1 64)) : Int).toNat (Go.bits .or .u64 (rd x304001_1 (wrap64 (Int.tdiv x20_1 64))) (shl .u64 1 (IntKind.u64.wrap (Int.tmod x20_1 64)))))) else (none)) else (none)) else (none)) = some (r1,r2,r3) := by rw [if_pos rfl] at H;exact H
        clear H;have H := H1;clear H1;obtain ⟨ji15,hji15⟩ : ∃ j_ : Int,(wrap64 (Int.tdiv x20_1 64)) = j_ := ⟨_,rfl⟩
        replace H : (if 0 ≤ (ji15) then (if (ji15) < (x304001_1.length : Int) then (if 0 ≤ (IntKind.u64.wrap (Int.tmod x20_1 64)) then (bits_Of.l0 k1 l0 (l0.length : Int) (wrap64 (x20_1 + 1)) t298 (x304001_1.set ((ji15) : Int).toNat (Go.bits .or .u64 (rd x304001_1 (ji15)) (shl .u64 1 (IntKind.u64.wrap (Int.tmod x20_1 64)))))) else (none)) else (none)) else (none)) = some (r1,r2,r3) := by first | (rw [hji15] at H;exact H) | (simp only [hji15] at H ⊢;exact H)
        have hji15w : (IntKind.i64.wrap (Int.tdiv x20_1 64)) = ji15 := (i64_w _).trans hji15
        by_cases c16 : 0 ≤ (ji15)
        ·rw [if_pos c16] at H
         have c16b0 : decide (0 ≤ (ji15)) = true := decide_eq_true c16;clear c16
         by_cases c17 : (ji15) < (x304001_1.length : Int)
         ·rw [if_pos c17] at H
          have c17b0 : decide ((ji15) < (x304001_1.length : Int)) = true := decide_eq_true c17;clear c17;obtain ⟨ji18,hji18⟩ : ∃ j_ : Int,(IntKind.u64.wrap (Int.tmod x20_1 64)) = j_ := ⟨_,rfl⟩
          replace H : (if 0 ≤ (ji18) then (bits_Of.l0 k1 l0 (l0.length : Int) (wrap64 (x20_1 + 1)) t298 (x304001_1.set ((ji15) : Int).toNat (Go.bits .or .u64 (rd x304001_1 (ji15)) (shl .u64 1 (ji18))))) else (none)) = some (r1,r2,r3) := by first | (rw [hji18] at H;exact H) | (simp only [hji18] at H ⊢;exact H)
          by_cases c19 : 0 ≤ (ji18)
          ·rw [if_pos c19] at H
           have c19b0 := eq_true c19;have c19b1 : decide (0 ≤ (ji18)) = true := decide_eq_true c19;clear c19;obtain ⟨ji20,hji20⟩ : ∃ j_ : Int,(shl .u64 1 (ji18)) = j_ := ⟨_,rfl⟩
           replace H : (bits_Of.l0 k1 l0 (l0.length : Int) (wrap64 (x20_1 + 1)) t298 (x304001_1.set ((ji15) : Int).toNat (Go.bits .or .u64 (rd x304001_1 (ji15)) (ji20)))) = some (r1,r2,r3) := by first | (rw [hji20] at H;exact H) | (simp only [hji20] at H ⊢;exact H)
           have hji20_ : (IntKind.u64.wrap (1 * 2 ^ min (ji18).toNat 64)) = ji20 := hji20;have hji20z : (ji18) ≤ 64 → (IntKind.u64.wrap (1 * 2 ^ (ji18).toNat)) = ji20 := shl_small hji20
           have hji20u : (IntKind.u64.wrap (2 ^ min (ji18).toNat 64)) = ji20 := by have h_ := hji20_;rw [Int.one_mul] at h_;exact h_
           have hji20v : (ji18) ≤ 64 → (IntKind.u64.wrap (2 ^ (ji18).toNat)) = ji20 := fun hle_ => by have h_ := hji20z hle_;rw [Int.one_mul] at h_;exact h_
           obtain ⟨y306,hy306⟩ : ∃ y_ : List Int,y_ = (x304001_1.set ((ji15) : Int).toNat (Go.bits .or .u64 (rd x304001_1 (ji15)) (ji20))) := ⟨_,rfl⟩;replace H : (bits_Of.l0 k1 l0 (l0.length : Int) (wrap64 (x20_1 + 1)) t298 y306) = some (r1,r2,r3) := rY hy306 H;have Ny306 := Aside0.mk hy306;clear hy306;have H' := Aside0.mk H;clear H;have p304 : 0 ≤ (x20_1 : Int) := of_decide_eq_true (by first | (with_reducible assumption) | assumption);have q304 : x20_1 < (l0.length : Int) := of_decide_eq_true (by first | (with_reducible assumption) | assumption);obtain ⟨ad304,e304,hx304_0⟩ := Kd.at_bool HR0.out x20_1 p304 q304;(try rw [← Nbq13.out] at hx304_0)
           cases e304
           replace hx304_0 := (HB.out.cell (World.block_lt_of_cell? w _ hx304_0)).trans hx304_0;replace p304 := eq_true p304;replace q304 := eq_true q304;have hnb22 := NB303_297.out;have hnc22 := NB297_303.out;obtain ⟨hcz23_0,hcz23_1,hfz23_0,hfz23_1⟩ := cz2 BK303;obtain ⟨Ao24,co24,eo24⟩ := Kd.R_slice HO_304001.out;subst eo24;have p305 : 0 ≤ ((ji15) : Int) := of_decide_eq_true (by first | (with_reducible assumption) | assumption);have q305 : (ji15) < (x304001_1.length : Int) := of_decide_eq_true (by first | (with_reducible assumption) | assumption);obtain ⟨ad305,e305,hx305_0⟩ := Kd.at_int (Kd.R_reads' HO_304001.out).2.2 (ji15) p305 q305
           cases e305
           replace p305 := eq_true p305;replace q305 := eq_true q305;have p21 : 0 ≤ ((ji15) : Int) := of_decide_eq_true (by first | (with_reducible assumption) | assumption);have q21 : ((ji15) : Int) < ((x304001_1.length : Int) : Int) := of_decide_eq_true (by first | (with_reducible assumption) | assumption);obtain ⟨go21,co21,eo21,gb21,gl21,cl21,HG21⟩ := Kd.R_form HO_304001.out (by omega);(first | cases eo21 | (injection eo21 with ea_ en_ ec_;(first | subst ea_ | (injection ea_ with ea_;subst ea_));subst ec_;clear en_));have GB21 := Aside0.mk gb21;have GG21 := Aside0.mk HG21;clear gb21 gl21 HG21;(first | simp only [add_plain] at hx305_0 | skip);obtain ⟨hx21_0,hf21_0⟩ := Kd.R_celln 0 HO_304001.out ((ji15) : Int) p21 q21;replace p21 := eq_true p21;replace q21 := eq_true q21;have HP25 := Kd.R_putg HO_304001.out ((ji15) : Int) (Go.bits .or .u64 (rd x304001_1 (ji15)) (ji20))
           go_wp2_with (first | ((with_reducible refine gate_store (t := 32) (p := 37) rfl ?_);refine store_event (t := 32) (p := 37) (v := ?vo_w26) (w1 := (wr.setCell ⟨go21,((ji15) : Int).toNat,none⟩ (.int .u64 (Go.bits .or .u64 (rd x304001_1 (ji15)) (ji20))))) ?hg ?ho ?hn ?hr ?_;(case ho => rfl);(case hg => rfl);(case hn => rfl);(case hr => first | (go_simp;done) | (go_simp;rfl));intro w26 hw;have hg : wr.grownBy w26 (some go21) := (by rw [hw];exact HP25.2);have hp_ : Kd.R (Kd.int .u64) 32 w26 w.heap.size (fun _ => True) (.slice (some ⟨go21,0,none⟩) x304001_1.length co24) y306 := (by rw [hw,Ny306.out];exact HP25.1);clear HP25;replace BK297 := Aside0.mk (blk_grown (g := gb297) (o := .cells #[.int .i64 0,.slice none 0 0] 49 (0,0)) (rB BK297) hg (Kd.R_ne HO_304001.out BK297.out (by decide)));replace BK303 := Aside0.mk (blk_grown (g := gb303) (o := .cells #[.int .i64 t298,.slice (some ⟨go21,0,none⟩) x304001_1.length co24] 49 (0,0)) (rB BK303) hg (Kd.R_ne HO_304001.out BK303.out (by decide)));replace HO_304001 := Aside0.mk (hp_);replace HB := Aside0.mk ((by rw [hw];exact below_set (HB.out) GB21.out : Below w.heap.size w w26));clear hg hw hp_))
           go_roundg k1
           case measure => have := HK1.out;omega
           case rel => exact ⟨(wrap64 (x20_1 + 1)),(y306),(.slice (some ⟨go21,0,none⟩) x304001_1.length co24),(by first | rfl | (simp;done) | (simp [*];done)),H',⟨by have := HK1.out;omega⟩,⟨rR HO_304001⟩,⟨rB BK297⟩,⟨rB BK303⟩,⟨rW HB⟩⟩
          ·rw [if_neg c19] at H
           exact absurd H (by simp)
         ·rw [if_neg c17] at H
          exact absurd H (by simp)
        ·rw [if_neg c16] at H
         exact absurd H (by simp)
       ·replace c14 := Bool.eq_false_iff.mpr c14
        subst c14
        have H1 : (bits_Of.l0 k1 l0 (l0.length : Int) (wrap64 (x20_1 + 1)) t298 x304001_1) = some (r1,r2,r3) := by rw [if_neg (show ¬ (false = true) by decide)] at H;exact H
        clear H;have H := H1;clear H1;have H' := Aside0.mk H;clear H;have p304 : 0 ≤ (x20_1 : Int) := of_decide_eq_true (by first | (with_reducible assumption) | assumption);have q304 : x20_1 < (l0.length : Int) := of_decide_eq_true (by first | (with_reducible assumption) | assumption);obtain ⟨ad304,e304,hx304_0⟩ := Kd.at_bool HR0.out x20_1 p304 q304;(try rw [← Nbq13.out] at hx304_0)
        cases e304
        replace hx304_0 := (HB.out.cell (World.block_lt_of_cell? w _ hx304_0)).trans hx304_0;replace p304 := eq_true p304;replace q304 := eq_true q304
        go_wp2
        go_roundg k1
        case measure => have := HK1.out;omega
        case rel => exact ⟨(wrap64 (x20_1 + 1)),(x304001_1),(u304001),(by first | rfl | (simp;done) | (simp [*];done)),H',⟨by have := HK1.out;omega⟩,⟨rR HO_304001⟩,⟨rB BK297⟩,⟨rB BK303⟩,⟨rW HB⟩⟩
      ·rw [if_neg c12] at H
       exact absurd H (by simp)
     ·rw [if_neg c11] at H
      exact absurd H (by simp)
    ·rw [if_neg c10] at H
     have c10b0 : decide (x20_1 < (l0.length : Int)) = false := decide_eq_false c10;clear c10;simp only [Option.some.injEq,Prod.mk.injEq] at H;obtain ⟨rfl,rfl,rfl⟩ := H;have hnb27 := NB303_297.out;have hnc27 := NB297_303.out;obtain ⟨hcz28_0,hcz28_1,hfz28_0,hfz28_1⟩ := cz2 BK303;obtain ⟨hcz29_0,hcz29_1,hfz29_0,hfz29_1⟩ := cz2 BK297;obtain ⟨Ao30,co30,eo30⟩ := Kd.R_slice HO_304001.out;subst eo30
     go_wp2
     refine bodyPost_ret (results_ct rfl _ _ gb297 49 #[.int .i64 t298,.slice Ao30 x304001_1.length co30] (0,0) _ rfl (by (with_reducible repeat (first | refine blk_drewN ?_ _ | refine blk_drew ?_ | refine blk_alloc ?_ _));refine blk_put (cs := #[.int .i64 t298,.slice none 0 0]) ?_ 1 _ rfl;(with_reducible repeat (first | refine blk_drewN ?_ _ | refine blk_drew ?_ | refine blk_alloc ?_ _));refine blk_put (cs := #[.int .i64 0,.slice none 0 0]) ?_ 0 _ rfl;(with_reducible repeat (first | refine blk_drewN ?_ _ | refine blk_drew ?_ | refine blk_alloc ?_ _));exact BK297.out) Try.underlying49 rfl (by kernel_rfl)) rfl ?_;exact ⟨_,by first | rfl | (simp [errW_none,errW_some] <;> rfl) | (simp [*,errW_none,errW_some] <;> rfl),by (with_reducible repeat (first | apply Kd.R_alloc | apply Kd.R_drewN | apply Kd.R_drew));exact Kd.R_mono (Kd.R_far (p := ⟨gb297,1,none⟩) (Kd.R_far (p := ⟨gb297,0,none⟩) (Kd.R_types HO_304001.out BK297.out (by decide)) (fun _ hk => hk.2) (.int .i64 t298)) (fun _ hk => hk.2) (.slice Ao30 x304001_1.length co30)) (fun _ hk => trivial),rW HB⟩
 ·rw [if_neg c3] at H
  have c3b0 : (t302 == 0) = false := beq_eq_false_iff_ne.mpr c3;have c3b1 : (t302 != 0) = true := bne_iff_ne.mpr c3;simp only [Option.some.injEq,Prod.mk.injEq] at H;obtain ⟨rfl,rfl,rfl⟩ := H
  go_enter Try.func72,Try.ntmps72
  go_wp2_with (first | ((with_reducible refine gate_dst (N := 2) rfl ?_);refine bx 2 #[.int .i64 0,.slice none 0 0] 49 ?_;intro gb297 hg w31 hbox hb;have BK297 := Aside0.mk hbox;have GW297 := bz HB hg;have GE297 := bz HB hg;replace HB := bs HB hb;clear hb hbox hg) | ((with_reducible refine gate_callee (f := 84) rfl ?_);refine gL (some 11) Try.func84 #[.int .i64 (l0.length : Int)] ?_;(with_reducible refine (bits_New.calls (l0.length : Int) t298 t299 t302 _ A2.out).mono ?_);rintro e w32 ⟨v300,rfl,ho0,hb⟩;refine ⟨_,rfl,?_⟩;have HO301 := Aside0.mk (Kd.R_lower ho0 (below_size (rW HB)));replace BK297 := bb BK297 hb;replace HB := bs HB hb;(try clear hb);(try clear hb2);(try clear hk);(try clear hi);(try clear ho0)) | ((with_reducible refine gate_dst (N := 4) rfl ?_);refine bx 4 #[.int .i64 0,.slice none 0 0] 49 ?_;intro gb303 hg w33 hbox hb;replace HO301 := bR HO301 hb;have BK303 := Aside0.mk hbox;have GW303 := bz HB hg;have GE303 := bz HB hg;replace HB := bs HB hb;have NB297_303 := bl BK297 hg;have NB303_297 := bg BK297 hg;replace BK297 := bb BK297 hb;clear hb hbox hg;have hnb34 := NB303_297.out;have hnc34 := NB297_303.out;obtain ⟨hcz35_0,hcz35_1,hfz35_0,hfz35_1⟩ := cz2 BK303;obtain ⟨Ao36,co36,eo36⟩ := Kd.R_slice HO301.out;subst eo36;obtain ⟨hcz37_0,hcz37_1,hfz37_0,hfz37_1⟩ := cz2 BK297))
  refine bodyPost_ret (results_ct rfl _ _ gb297 49 #[.int .i64 0,.slice none 0 0] (0,0) _ rfl (by (with_reducible repeat (first | refine blk_drewN ?_ _ | refine blk_drew ?_ | refine blk_alloc ?_ _));refine blk_put (cs := #[.int .i64 0,.slice none 0 0]) ?_ 1 _ rfl;(with_reducible repeat (first | refine blk_drewN ?_ _ | refine blk_drew ?_ | refine blk_alloc ?_ _));refine blk_put (cs := #[.int .i64 0,.slice none 0 0]) ?_ 0 _ rfl;(with_reducible repeat (first | refine blk_drewN ?_ _ | refine blk_drew ?_ | refine blk_alloc ?_ _));refine blk_far ?_ NB297_303.out _;(with_reducible repeat (first | refine blk_drewN ?_ _ | refine blk_drew ?_ | refine blk_alloc ?_ _));refine blk_far ?_ NB297_303.out _;(with_reducible repeat (first | refine blk_drewN ?_ _ | refine blk_drew ?_ | refine blk_alloc ?_ _));exact BK297.out) Try.underlying49 rfl (by kernel_rfl)) rfl ?_;exact ⟨_,by first | rfl | (simp [errW_none,errW_some] <;> rfl) | (simp [*,errW_none,errW_some] <;> rfl),by first | exact Kd.R_nil _ _ _ _ _ | exact Kd.N_nil _ _ _ _ _ | exact Kd.V_nil _ _ _ _ _ | exact Kd.Q_nil _ _ _ _ _ | exact Kd.S_nil _ _ _ _ _,rW HB⟩
mutual
def gilboa_Choices.j0 : Nat → Int → List Int → Bool → Option (Int × List Int × Int)
 | 0,_,_,_ => none
 | k + 1,x0,x1,x17 => if x17 = true then (some (0,([] : List Int),11)) else (gilboa_Choices.l0 k x0 ([] : List Bool) x1 (x1.length : Int) 0)
def gilboa_Choices.l0 : Nat → Int → List Bool → List Int → Int → Int → Option (Int × List Int × Int)
 | 0,_,_,_,_,_ => none
 | k + 1,x0,x6,x19,x20,x21 => if x21 < x20 then (if 0 ≤ x21 then (if x21 < (x19.length : Int) then ((ring_Bits.f k x0 (rd x19 x21)).bind fun t311 => (if x6.length + t311.length < 140737488355328 then (gilboa_Choices.l0 k x0 (x6 ++ t311) x19 x20 (wrap64 (x21 + 1))) else (none))) else (none)) else (none)) else ((bits_Of.f k x6).bind fun bt317 => (some (bt317.1,bt317.2.1,bt317.2.2)))
end
def gilboa_Choices.f (k : Nat) (a0 : Int) (l1 : List Int) : Option (Int × List Int × Int) := (gilboa_good.f a0 1).bind fun t308 => (if t308 = true then ((ring_Fits.f a0 l1).bind fun t309 => (gilboa_Choices.j0 k a0 l1 (!t309))) else (gilboa_Choices.j0 k a0 l1 true))
theorem gilboa_Choices.mono_l : ∀ k,(∀ y0 y1 y2,LeO (gilboa_Choices.j0 k y0 y1 y2) (gilboa_Choices.j0 (k + 1) y0 y1 y2)) ∧ (∀ y0 y1 y2 y3 y4,LeO (gilboa_Choices.l0 k y0 y1 y2 y3 y4) (gilboa_Choices.l0 (k + 1) y0 y1 y2 y3 y4))
 | 0 => ⟨fun _ _ _ r h => by simp [gilboa_Choices.j0] at h,fun _ _ _ _ _ r h => by simp [gilboa_Choices.l0] at h⟩
 | k + 1 => by
  obtain ⟨ih0,ih1⟩ := gilboa_Choices.mono_l k;refine ⟨?_,?_⟩
  ·intro y0 y1 y2
   unfold gilboa_Choices.j0
   repeat' first | (with_reducible first | exact ih0 _ _ _ | exact ih1 _ _ _ _ _ | exact bits_Of.mono _ _ | exact ring_Bits.mono _ _ _ | exact LeO.refl _ | exact LeO.none _ | refine LeO.ite ?_ ?_ | refine LeO.bind ?_ (fun _ => ?_)) | exact LeO.none _ | refine LeO.ite ?_ ?_ | refine LeO.bind ?_ (fun _ => ?_)
  ·intro y0 y1 y2 y3 y4
   unfold gilboa_Choices.l0
   repeat' first | (with_reducible first | exact ih0 _ _ _ | exact ih1 _ _ _ _ _ | exact bits_Of.mono _ _ | exact ring_Bits.mono _ _ _ | exact LeO.refl _ | exact LeO.none _ | refine LeO.ite ?_ ?_ | refine LeO.bind ?_ (fun _ => ?_)) | exact LeO.none _ | refine LeO.ite ?_ ?_ | refine LeO.bind ?_ (fun _ => ?_)
theorem gilboa_Choices.mono : ∀ a0 a1 k,LeO (gilboa_Choices.f k a0 a1) (gilboa_Choices.f (k + 1) a0 a1) := by
 intro a0 a1 k;obtain ⟨ih0,ih1⟩ := gilboa_Choices.mono_l k;unfold gilboa_Choices.f
 repeat' first | (with_reducible first | exact ih0 _ _ _ | exact ih1 _ _ _ _ _ | exact bits_Of.mono _ _ | exact ring_Bits.mono _ _ _ | exact LeO.refl _ | exact LeO.none _ | refine LeO.ite ?_ ?_ | refine LeO.bind ?_ (fun _ => ?_)) | exact LeO.none _ | refine LeO.ite ?_ ?_ | refine LeO.bind ?_ (fun _ => ?_)
set_option maxHeartbeats 8000000 in
set_option maxRecDepth 100000 in
theorem gilboa_Choices.calls (k : Nat) (a0 : Int) (A1 : Option Addr) (c1 : Nat) (l1 : List Int) (r1 : Int) (r2 : List Int) (r3 : Int) (w : World) (hr1 : Kd.C (Kd.int .u64) w A1 l1.length l1) (hc1 : l1.length ≤ c1) (h : gilboa_Choices.f k a0 l1 = some (r1,r2,r3)) :
  Calls Try.prog 43 #[.int .i64 a0,.slice A1 l1.length c1] w fun e w' => ∃ v1_ : Value,e = .returned (.tuple #[.agg #[.int .i64 r1,v1_],.int .i64 r3]) ∧ Kd.R (Kd.int .u64) 32 w' w.heap.size (fun _ => True) v1_ r2 ∧ Below w.heap.size w w' := by
 have hu49 := Try.underlying49;have HR1 := Aside0.mk hr1;have HC1 := Aside0.mk hc1;clear hr1 hc1;have HB := Aside0.mk (Below.refl w.heap.size w);have H : ((gilboa_good.f a0 1).bind fun t308 => (if t308 = true then ((ring_Fits.f a0 l1).bind fun t309 => (gilboa_Choices.j0 k a0 l1 (!t309))) else (gilboa_Choices.j0 k a0 l1 true))) = some (r1,r2,r3) := h;clear h;have HC3 := Aside0.mk H;clear H
 go_enter Try.func43,Try.ntmps43
 go_upto_region 1 with (first | ((with_reducible refine gate_dst (N := 4) rfl ?_);refine bx 4 #[.int .i64 0,.slice none 0 0] 49 ?_;intro gb307 hg w4 hbox hb;have BK307 := Aside0.mk hbox;have GW307 := bz HB hg;have GE307 := bz HB hg;replace HB := bs HB hb;clear hb hbox hg))
 (try simp only [Act.put,List.setIfInBounds_toArray,List.set_cons_zero,List.set_cons_succ])
 go_cut [17] (fun v17 wc => ∃ (kq : Nat) (x17_2 : Bool),v17 = .bool x17_2 ∧ Aside0 (gilboa_Choices.j0 kq a0 l1 x17_2 = some (r1,r2,r3)) ∧ Aside0 (kq ≤ k) ∧ Aside0 (wc.heap[gb307]? = some (.cells #[.int .i64 0,(.slice none 0 0)] 49 (0,0))) ∧ Aside0 (Below w.heap.size w wc))
 case first =>
  have H := HC3.out;clear HC3;replace H := Option.bind_eq_some_iff.mp H;obtain ⟨t308,A50,H⟩ := H;replace H : (if t308 = true then ((ring_Fits.f a0 l1).bind fun t309 => (gilboa_Choices.j0 k a0 l1 (!t309))) else (gilboa_Choices.j0 k a0 l1 true)) = some (r1,r2,r3) := H;have A5 := Aside0.mk A50;clear A50
  by_cases c6 : t308 = true
  ·subst c6
   have H1 : ((ring_Fits.f a0 l1).bind fun t309 => (gilboa_Choices.j0 k a0 l1 (!t309))) = some (r1,r2,r3) := by rw [if_pos rfl] at H;exact H
   clear H;have H := H1;clear H1;replace H := Option.bind_eq_some_iff.mp H;obtain ⟨t309,A70,H⟩ := H;replace H : (gilboa_Choices.j0 k a0 l1 (!t309)) = some (r1,r2,r3) := H;have A7 := Aside0.mk A70;clear A70;have H' := Aside0.mk H;clear H
   go_wp2_with (first | ((with_reducible refine gate_callee (f := 69) rfl ?_);refine gL (some 10) Try.func69 #[.int .i64 a0,.int .i64 1] ?_;(with_reducible refine (gilboa_good.calls a0 1 true _ A5.out).mono ?_);rintro e w' ⟨rfl,⟨nd,rfl⟩⟩;refine ⟨_,rfl,?_⟩) | (go_at_call 34;(with_reducible refine (ring_Fits.calls a0 _ _ l1 t309 _ ?side1 ?side2 A7.out).mono ?_);(case side1 => repeat (first | exact (Kd.C_below HR1.out (rW HB)) | (with_reducible refine Kd.C_alloc ?_ _) | (with_reducible refine Kd.C_drewN ?_ _) | (with_reducible refine Kd.C_drew ?_)));(case side2 => exact HC1.out);rintro e w8 ⟨rfl,hb⟩;replace BK307 := bb BK307 hb;replace HB := bs HB hb;(try clear hb);(try clear hb2);(try clear hk);(try clear hi)))
   go_meet
   case rel => exact ⟨_,(!t309),(by first | rfl | (simp;done) | (simp [*];done)),H',⟨by first | omega | exact Nat.le_refl _⟩,⟨rB BK307⟩,⟨rW HB⟩⟩
  ·replace c6 := Bool.eq_false_iff.mpr c6
   subst c6
   have H1 : (gilboa_Choices.j0 k a0 l1 true) = some (r1,r2,r3) := by rw [if_neg (show ¬ (false = true) by decide)] at H;exact H
   clear H;have H := H1;clear H1;have H' := Aside0.mk H;clear H
   go_wp2_with (first | ((with_reducible refine gate_callee (f := 69) rfl ?_);refine gL (some 10) Try.func69 #[.int .i64 a0,.int .i64 1] ?_;(with_reducible refine (gilboa_good.calls a0 1 false _ A5.out).mono ?_);rintro e w' ⟨rfl,⟨nd,rfl⟩⟩;refine ⟨_,rfl,?_⟩))
   go_meet
   case rel => exact ⟨_,(true),(by first | rfl | (simp;done) | (simp [*];done)),H',⟨by first | omega | exact Nat.le_refl _⟩,⟨rB BK307⟩,⟨rW HB⟩⟩
 case rest =>
  clear HC3
  try clear c1
  try clear p2
  try clear c4
  try clear c6
  obtain ⟨kq,x17_2,rfl,HA,HJ2,BK307,HB⟩ := hcut
  cases kq with
  | zero => exact absurd HA.out (by simp [gilboa_Choices.j0])
  | succ kj2 =>
   have H := HA.out;clear HA;simp only [gilboa_Choices.j0] at H
   by_cases c9 : x17_2 = true
   ·subst c9
    have H1 : (some (0,([] : List Int),11)) = some (r1,r2,r3) := by rw [if_pos rfl] at H;exact H
    clear H;have H := H1;clear H1;simp only [Option.some.injEq,Prod.mk.injEq] at H;obtain ⟨rfl,rfl,rfl⟩ := H;obtain ⟨hcz10_0,hcz10_1,hfz10_0,hfz10_1⟩ := cz2 BK307
    go_wp2
    refine bodyPost_ret (results_ct rfl _ _ gb307 49 #[.int .i64 0,.slice none 0 0] (0,0) _ rfl (by (with_reducible repeat (first | refine blk_drewN ?_ _ | refine blk_drew ?_ | refine blk_alloc ?_ _));refine blk_put (cs := #[.int .i64 0,.slice none 0 0]) ?_ 1 _ rfl;(with_reducible repeat (first | refine blk_drewN ?_ _ | refine blk_drew ?_ | refine blk_alloc ?_ _));refine blk_put (cs := #[.int .i64 0,.slice none 0 0]) ?_ 0 _ rfl;(with_reducible repeat (first | refine blk_drewN ?_ _ | refine blk_drew ?_ | refine blk_alloc ?_ _));exact BK307.out) Try.underlying49 rfl (by kernel_rfl)) rfl ?_;exact ⟨_,by first | rfl | (simp [errW_none,errW_some] <;> rfl) | (simp [*,errW_none,errW_some] <;> rfl),by first | exact Kd.R_nil _ _ _ _ _ | exact Kd.N_nil _ _ _ _ _ | exact Kd.V_nil _ _ _ _ _ | exact Kd.Q_nil _ _ _ _ _ | exact Kd.S_nil _ _ _ _ _,rW HB⟩
   ·replace c9 := Bool.eq_false_iff.mpr c9
    subst c9
    have H1 : (gilboa_Choices.l0 kj2 a0 ([] : List Bool) l1 (l1.length : Int) 0) = some (r1,r2,r3) := by rw [if_neg (show ¬ (false = true) by decide)] at H;exact H
    clear H;have H := H1;clear H1;have H' := Aside0.mk H;clear H
    go_wp2
    go_loopg [6,21] kj2 (fun kq v6 v21 w' => ∃ (x6_2 : List Bool) (x21_2 : Int),v21 = .int .i64 x21_2 ∧ Aside0 (gilboa_Choices.l0 kq a0 x6_2 l1 (l1.length : Int) x21_2 = some (r1,r2,r3)) ∧ Aside0 (kq ≤ kj2) ∧ Aside0 (Kd.R Kd.bool 4 w' w.heap.size (fun _ => True) v6 x6_2) ∧ Aside0 (w'.heap[gb307]? = some (.cells #[.int .i64 0,(.slice none 0 0)] 49 (0,0))) ∧ Aside0 (Below w.heap.size w w'))
    case atStart => exact ⟨(([] : List Bool)),(0),(by first | rfl | (simp;done) | (simp [*];done)),H',⟨Nat.le_refl _⟩,⟨by first | exact Kd.R_nil _ _ _ _ _ | exact Kd.N_nil _ _ _ _ _ | exact Kd.V_nil _ _ _ _ _ | exact Kd.Q_nil _ _ _ _ _ | exact Kd.S_nil _ _ _ _ _⟩,⟨rB BK307⟩,⟨rW HB⟩⟩
    case round =>
     clear H'
     try clear c1
     try clear p2
     try clear c4
     try clear c6
     try clear c9
     try clear hcz10_0 hcz10_1 hfz10_0 hfz10_1
     try clear p2
     obtain ⟨x6_2,x21_2,rfl,HA,HK2,HO_6,BK307,HB⟩ := hrel
     cases gk with
     | zero => exact absurd HA.out (by simp [gilboa_Choices.l0])
     | succ k2 =>
      have H := HA.out;clear HA;simp only [gilboa_Choices.l0] at H
      by_cases c11 : x21_2 < (l1.length : Int)
      ·rw [if_pos c11] at H
       have c11b0 : decide (x21_2 < (l1.length : Int)) = true := decide_eq_true c11;clear c11
       by_cases c12 : 0 ≤ x21_2
       ·rw [if_pos c12] at H
        have c12b0 : decide (0 ≤ x21_2) = true := decide_eq_true c12;clear c12
        by_cases c13 : x21_2 < (l1.length : Int)
        ·rw [if_pos c13] at H
         have c13b0 : decide (x21_2 < (l1.length : Int)) = true := decide_eq_true c13;clear c13;replace H := Option.bind_eq_some_iff.mp H;obtain ⟨t311,A140,H⟩ := H;replace H : (if x6_2.length + t311.length < 140737488355328 then (gilboa_Choices.l0 k2 a0 (x6_2 ++ t311) l1 (l1.length : Int) (wrap64 (x21_2 + 1))) else (none)) = some (r1,r2,r3) := H;have A14 := Aside0.mk A140;clear A140
         by_cases c15 : x6_2.length + t311.length < 140737488355328
         ·rw [if_pos c15] at H
          have LMc15 := Aside0.mk c15;clear c15;obtain ⟨y314,hy314⟩ : ∃ y_ : List Bool,y_ = (x6_2 ++ t311) := ⟨_,rfl⟩;replace H : (gilboa_Choices.l0 k2 a0 y314 l1 (l1.length : Int) (wrap64 (x21_2 + 1))) = some (r1,r2,r3) := rY hy314 H;have Ny314 := Aside0.mk hy314;clear hy314;have H' := Aside0.mk H;clear H;have p310 : 0 ≤ (x21_2 : Int) := of_decide_eq_true (by first | (with_reducible assumption) | assumption);have q310 : x21_2 < (l1.length : Int) := of_decide_eq_true (by first | (with_reducible assumption) | assumption);obtain ⟨ad310,e310,hx310_0⟩ := Kd.at_int HR1.out x21_2 p310 q310
          cases e310
          replace hx310_0 := (HB.out.cell (World.block_lt_of_cell? w _ hx310_0)).trans hx310_0;replace p310 := eq_true p310;replace q310 := eq_true q310
          go_wp2_with (first | ((with_reducible refine gate_callee (f := 71) rfl ?_);refine gL (some 28) Try.func71 #[.int .i64 a0,.int .u64 (rd l1 x21_2)] ?_;(with_reducible refine (ring_Bits.calls k2 a0 (rd l1 x21_2) t311 _ A14.out).mono ?_);rintro e w16 ⟨v312,rfl,ho0,hb⟩;refine ⟨_,rfl,?_⟩;have HO313 := Aside0.mk (Kd.R_lower (Kd.R_new' ho0 (Kd.R_lt (rR HO_6))) (below_size (rW HB)));replace HO_6 := lR HO_6 ho0 hb;replace BK307 := bb BK307 hb;replace HB := bs HB hb;(try clear hb);(try clear hb2);(try clear hk);(try clear hi);(try clear ho0);obtain ⟨Ao18,co18,eo18⟩ := Kd.R_slice HO313.out;subst eo18) | ((with_reducible refine gate_builtin (b := .append) (xs := #[.tmp 25,.tmp 28]) rfl ?_);at_builtin;refine Kd.R_append_rows Kd.bool (w0 := w) w.heap.size rfl (.tmp 25) (.tmp 28) 22 4 (.bool false) 1 rfl Try.underlying22 info4 rfl (by decide) (by omega) u6 x6_2 t311 _ _ _ (fun k_ => some k_ ≠ (.slice Ao18 t311.length co18 : Value).ownBlock) (fun _ => False) rfl rfl ?aO ?aR (fun _ _ h => h) (fun _ h => h.elim) ?aF ?aB ?aS ?aL ?_;(case aR => repeat (first | exact (Kd.R_reads' HO313.out).2.2 | (with_reducible refine Kd.C_alloc ?_ _) | (with_reducible refine Kd.C_drewN ?_ _) | (with_reducible refine Kd.C_drew ?_)));(case aB => exact (rW HB));(case aF => exact (fun k_ hk => Kd.fresh' (Kd.R_lt (rR HO313)) k_ hk));(case aO => exact (by (with_reducible repeat (first | apply Kd.R_alloc | apply Kd.R_drewN | apply Kd.R_drew));exact Kd.R_mono HO_6.out (fun _ hk => hk.2)));(case aS => exact (below_size (rW HB)));(case aL => have := LMc15.out;omega);intro v315 w17 ho hb hg hat;rw [← Ny314.out] at ho;replace BK307 := Aside0.mk (blk_grown (g := gb307) (o := .cells #[.int .i64 0,.slice none 0 0] 49 (0,0)) (rB BK307) hg (Kd.R_ne HO_6.out BK307.out (by decide)));replace HO313 := Aside0.mk (Kd.R_after (ok := (fun _ => True)) (rR HO313) hg hat);replace HB := Aside0.mk (hb);have HO316 := Aside0.mk (ho);clear HO_6;clear ho hb hg hat))
          go_roundg k2
          case measure => have := HJ2.out;have := HK2.out;omega
          case rel => exact ⟨(y314),(wrap64 (x21_2 + 1)),(by first | rfl | (simp;done) | (simp [*];done)),H',⟨by have := HJ2.out;have := HK2.out;omega⟩,⟨by (with_reducible repeat (first | apply Kd.R_alloc | apply Kd.R_drewN | apply Kd.R_drew));exact Kd.R_mono HO316.out (fun _ hk => trivial)⟩,⟨rB BK307⟩,⟨rW HB⟩⟩
         ·rw [if_neg c15] at H
          exact absurd H (by simp)
        ·rw [if_neg c13] at H
         exact absurd H (by simp)
       ·rw [if_neg c12] at H
        exact absurd H (by simp)
      ·rw [if_neg c11] at H
       have c11b0 : decide (x21_2 < (l1.length : Int)) = false := decide_eq_false c11;clear c11;replace H := Option.bind_eq_some_iff.mp H;obtain ⟨⟨t317,t318,t321⟩,A190,H⟩ := H;replace H : (some (t317,t318,t321)) = some (r1,r2,r3) := H;have A19 := Aside0.mk A190;clear A190;simp only [Option.some.injEq,Prod.mk.injEq] at H;obtain ⟨rfl,rfl,rfl⟩ := H;obtain ⟨Ao20,co20,eo20⟩ := Kd.R_slice HO_6.out;subst eo20
       go_wp2_with (first | ((with_reducible refine gate_callee (f := 72) rfl ?_);refine gL (some 32) Try.func72 #[.slice Ao20 x6_2.length co20] ?_;(with_reducible refine (bits_Of.calls k2 _ _ x6_2 t317 t318 t321 _ ?side1 ?side2 A19.out).mono ?_);(case side1 => exact rC (Kd.R_reads' HO_6.out).2.2);(case side2 => exact (Kd.R_reads' HO_6.out).2.1);rintro e w21 ⟨v319,rfl,ho0,hb⟩;refine ⟨_,rfl,?_⟩;replace HO_6 := bR HO_6 hb;have HO320 := Aside0.mk (Kd.R_lower ho0 (below_size (rW HB)));replace BK307 := bb BK307 hb;replace HB := bs HB hb;(try clear hb);(try clear hb2);(try clear hk);(try clear hi);(try clear ho0);obtain ⟨hcz22_0,hcz22_1,hfz22_0,hfz22_1⟩ := cz2 BK307;obtain ⟨Ao23,co23,eo23⟩ := Kd.R_slice HO320.out;subst eo23))
       refine bodyPost_ret (results_ct rfl _ _ gb307 49 #[.int .i64 t317,.slice Ao23 t318.length co23] (0,0) _ rfl (by (with_reducible repeat (first | refine blk_drewN ?_ _ | refine blk_drew ?_ | refine blk_alloc ?_ _));refine blk_put (cs := #[.int .i64 t317,.slice none 0 0]) ?_ 1 _ rfl;(with_reducible repeat (first | refine blk_drewN ?_ _ | refine blk_drew ?_ | refine blk_alloc ?_ _));refine blk_put (cs := #[.int .i64 0,.slice none 0 0]) ?_ 0 _ rfl;(with_reducible repeat (first | refine blk_drewN ?_ _ | refine blk_drew ?_ | refine blk_alloc ?_ _));exact BK307.out) Try.underlying49 rfl (by kernel_rfl)) rfl ?_;exact ⟨_,by first | rfl | (simp [errW_none,errW_some] <;> rfl) | (simp [*,errW_none,errW_some] <;> rfl),by (with_reducible repeat (first | apply Kd.R_alloc | apply Kd.R_drewN | apply Kd.R_drew));exact Kd.R_mono (Kd.R_far (p := ⟨gb307,1,none⟩) (Kd.R_far (p := ⟨gb307,0,none⟩) (Kd.R_types HO320.out BK307.out (by decide)) (fun _ hk => hk.2) (.int .i64 t317)) (fun _ hk => hk.2) (.slice Ao23 t318.length co23)) (fun _ hk => trivial),rW HB⟩
def scalar_Choices.f (k : Nat) (a0_0 : Int) (a0_1 : Int) (a0_2 : Int) (a0_3 : Int) (a0_4 : Int) (l1 : List (S31)) : Option (Int × List Int × Int) := (scalar_parts.f k a0_0 a0_1 a0_2 a0_3 a0_4 l1).bind fun bt324 => (if bt324.2.2 = 0 then ((gilboa_Choices.f k a0_1 bt324.1).bind fun bt331 => (some (bt331.1,bt331.2.1,bt331.2.2))) else (some (0,([] : List Int),bt324.2.2)))
theorem scalar_Choices.mono : ∀ a0 a1 a2 a3 a4 a5 k,LeO (scalar_Choices.f k a0 a1 a2 a3 a4 a5) (scalar_Choices.f (k + 1) a0 a1 a2 a3 a4 a5) := by
 intro a0 a1 a2 a3 a4 a5 k;unfold scalar_Choices.f
 repeat' first | (with_reducible first | exact gilboa_Choices.mono _ _ _ | exact scalar_parts.mono _ _ _ _ _ _ _ | exact LeO.refl _ | exact LeO.none _ | refine LeO.ite ?_ ?_ | refine LeO.bind ?_ (fun _ => ?_)) | exact LeO.none _ | refine LeO.ite ?_ ?_ | refine LeO.bind ?_ (fun _ => ?_)
set_option maxHeartbeats 8000000 in
set_option maxRecDepth 100000 in
theorem scalar_Choices.calls (k : Nat) (a0_0 : Int) (a0_1 : Int) (a0_2 : Int) (a0_3 : Int) (a0_4 : Int) (A1 : Option Addr) (c1 : Nat) (l1 : List (S31)) (r1 : Int) (r2 : List Int) (r3 : Int) (w : World) (hr1 : Kd.C k31 w A1 l1.length l1) (hc1 : l1.length ≤ c1) (h : scalar_Choices.f k a0_0 a0_1 a0_2 a0_3 a0_4 l1 = some (r1,r2,r3)) :
  Calls Try.prog 19 #[.agg #[.int .i64 a0_0,.int .i64 a0_1,.int .i64 a0_2,.int .i64 a0_3,.int .i64 a0_4],.slice A1 l1.length c1] w fun e w' => ∃ v1_ : Value,e = .returned (.tuple #[.agg #[.int .i64 r1,v1_],.int .i64 r3]) ∧ Kd.R (Kd.int .u64) 32 w' w.heap.size (fun _ => True) v1_ r2 ∧ Below w.heap.size w w' := by
 have hu25 := Try.underlying25;have hu49 := Try.underlying49;have HR1 := Aside0.mk hr1;have HC1 := Aside0.mk hc1;clear hr1 hc1;have HB := Aside0.mk (Below.refl w.heap.size w);have H : ((scalar_parts.f k a0_0 a0_1 a0_2 a0_3 a0_4 l1).bind fun bt324 => (if bt324.2.2 = 0 then ((gilboa_Choices.f k a0_1 bt324.1).bind fun bt331 => (some (bt331.1,bt331.2.1,bt331.2.2))) else (some (0,([] : List Int),bt324.2.2)))) = some (r1,r2,r3) := h;clear h;replace H := Option.bind_eq_some_iff.mp H;obtain ⟨⟨t324,t327,t330⟩,A30,H⟩ := H;replace H : (if t330 = 0 then ((gilboa_Choices.f k a0_1 t324).bind fun bt331 => (some (bt331.1,bt331.2.1,bt331.2.2))) else (some (0,([] : List Int),t330))) = some (r1,r2,r3) := H;have A3 := Aside0.mk A30;clear A30
 by_cases c4 : t330 = 0
 ·rw [if_pos c4] at H
  have c4b0 : (t330 == 0) = true := beq_iff_eq.mpr c4;have c4b1 : (t330 != 0) = false := bne_eq_false_iff_eq.mpr c4;clear c4;replace H := Option.bind_eq_some_iff.mp H;obtain ⟨⟨t331,t332,t335⟩,A50,H⟩ := H;replace H : (some (t331,t332,t335)) = some (r1,r2,r3) := H;have A5 := Aside0.mk A50;clear A50;simp only [Option.some.injEq,Prod.mk.injEq] at H;obtain ⟨rfl,rfl,rfl⟩ := H
  go_enter Try.func19,Try.ntmps19
  go_wp2_with (first | ((with_reducible refine gate_dst (N := 2) rfl ?_);refine bx 2 #[.int .i64 a0_0,.int .i64 a0_1,.int .i64 a0_2,.int .i64 a0_3,.int .i64 a0_4] 25 ?_;intro gb322 hg w6 hbox hb;have BK322 := Aside0.mk hbox;have GW322 := bz HB hg;have GE322 := bz HB hg;replace HB := bs HB hb;clear hb hbox hg) | ((with_reducible refine gate_dst (N := 4) rfl ?_);refine bx 4 #[.int .i64 0,.slice none 0 0] 49 ?_;intro gb323 hg w7 hbox hb;have BK323 := Aside0.mk hbox;have GW323 := bz HB hg;have GE323 := bz HB hg;replace HB := bs HB hb;have NB322_323 := bl BK322 hg;have NB323_322 := bg BK322 hg;replace BK322 := bb BK322 hb;clear hb hbox hg;have hnb8 := NB322_323.out;have hnc8 := NB323_322.out;obtain ⟨hcz9_0,hcz9_1,hcz9_2,hcz9_3,hcz9_4,hfz9_0,hfz9_1,hfz9_2,hfz9_3,hfz9_4⟩ := cz5 BK322) | ((with_reducible refine gate_callee (f := 41) rfl ?_);refine gL (some 12) Try.func41 #[.agg #[.int .i64 a0_0,.int .i64 a0_1,.int .i64 a0_2,.int .i64 a0_3,.int .i64 a0_4],.slice A1 l1.length c1] ?_;(with_reducible refine (scalar_parts.calls k a0_0 a0_1 a0_2 a0_3 a0_4 _ _ l1 t324 t327 t330 _ ?side1 ?side2 A3.out).mono ?_);(case side1 => exact rC (Kd.C_below HR1.out HB.out));(case side2 => exact HC1.out);rintro e w10 ⟨v325,v328,rfl,ho0,ho1,hb⟩;refine ⟨_,rfl,?_⟩;have HO326 := Aside0.mk (Kd.R_lower ho0 (below_size (rW HB)));have HO329 := Aside0.mk (Kd.R_lower ho1 (below_size (rW HB)));replace BK322 := bb BK322 hb;replace BK323 := bb BK323 hb;replace HB := bs HB hb;(try clear hb);(try clear hb2);(try clear hk);(try clear hi);(try clear ho0);(try clear ho1);obtain ⟨hcz11_0,hcz11_1,hcz11_2,hcz11_3,hcz11_4,hfz11_0,hfz11_1,hfz11_2,hfz11_3,hfz11_4⟩ := cz5 BK322;obtain ⟨Ao12,co12,eo12⟩ := Kd.R_slice HO326.out;subst eo12) | ((with_reducible refine gate_callee (f := 43) rfl ?_);refine gL (some 23) Try.func43 #[.int .i64 a0_1,.slice Ao12 t324.length co12] ?_;(with_reducible refine (gilboa_Choices.calls k a0_1 _ _ t324 t331 t332 t335 _ ?side1 ?side2 A5.out).mono ?_);(case side1 => exact rC (Kd.R_reads' HO326.out).2.2);(case side2 => exact (Kd.R_reads' HO326.out).2.1);rintro e w13 ⟨v333,rfl,ho0,hb⟩;refine ⟨_,rfl,?_⟩;have HO334 := Aside0.mk (Kd.R_lower (Kd.R_new' (Kd.R_new' ho0 (Kd.R_lt (rR HO326))) (Kd.R_lt (rR HO329))) (below_size (rW HB)));replace HO326 := lR HO326 ho0 hb;replace HO329 := lR HO329 ho0 hb;replace BK322 := bb BK322 hb;replace BK323 := bb BK323 hb;replace HB := bs HB hb;(try clear hb);(try clear hb2);(try clear hk);(try clear hi);(try clear ho0);obtain ⟨hcz14_0,hcz14_1,hfz14_0,hfz14_1⟩ := cz2 BK323;obtain ⟨Ao15,co15,eo15⟩ := Kd.R_slice HO334.out;subst eo15))
  refine bodyPost_ret (results_ct rfl _ _ gb323 49 #[.int .i64 t331,.slice Ao15 t332.length co15] (0,0) _ rfl (by (with_reducible repeat (first | refine blk_drewN ?_ _ | refine blk_drew ?_ | refine blk_alloc ?_ _));refine blk_put (cs := #[.int .i64 t331,.slice none 0 0]) ?_ 1 _ rfl;(with_reducible repeat (first | refine blk_drewN ?_ _ | refine blk_drew ?_ | refine blk_alloc ?_ _));refine blk_put (cs := #[.int .i64 0,.slice none 0 0]) ?_ 0 _ rfl;(with_reducible repeat (first | refine blk_drewN ?_ _ | refine blk_drew ?_ | refine blk_alloc ?_ _));exact BK323.out) Try.underlying49 rfl (by kernel_rfl)) rfl ?_;exact ⟨_,by first | rfl | (simp [errW_none,errW_some] <;> rfl) | (simp [*,errW_none,errW_some] <;> rfl),by (with_reducible repeat (first | apply Kd.R_alloc | apply Kd.R_drewN | apply Kd.R_drew));exact Kd.R_mono (Kd.R_far (p := ⟨gb323,1,none⟩) (Kd.R_far (p := ⟨gb323,0,none⟩) (Kd.R_types HO334.out BK323.out (by decide)) (fun _ hk => hk.2) (.int .i64 t331)) (fun _ hk => hk.2) (.slice Ao15 t332.length co15)) (fun _ hk => trivial),rW HB⟩
 ·rw [if_neg c4] at H
  have c4b0 : (t330 == 0) = false := beq_eq_false_iff_ne.mpr c4;have c4b1 : (t330 != 0) = true := bne_iff_ne.mpr c4;simp only [Option.some.injEq,Prod.mk.injEq] at H;obtain ⟨rfl,rfl,rfl⟩ := H
  go_enter Try.func19,Try.ntmps19
  go_wp2_with (first | ((with_reducible refine gate_dst (N := 2) rfl ?_);refine bx 2 #[.int .i64 a0_0,.int .i64 a0_1,.int .i64 a0_2,.int .i64 a0_3,.int .i64 a0_4] 25 ?_;intro gb322 hg w16 hbox hb;have BK322 := Aside0.mk hbox;have GW322 := bz HB hg;have GE322 := bz HB hg;replace HB := bs HB hb;clear hb hbox hg) | ((with_reducible refine gate_dst (N := 4) rfl ?_);refine bx 4 #[.int .i64 0,.slice none 0 0] 49 ?_;intro gb323 hg w17 hbox hb;have BK323 := Aside0.mk hbox;have GW323 := bz HB hg;have GE323 := bz HB hg;replace HB := bs HB hb;have NB322_323 := bl BK322 hg;have NB323_322 := bg BK322 hg;replace BK322 := bb BK322 hb;clear hb hbox hg;have hnb18 := NB322_323.out;have hnc18 := NB323_322.out;obtain ⟨hcz19_0,hcz19_1,hcz19_2,hcz19_3,hcz19_4,hfz19_0,hfz19_1,hfz19_2,hfz19_3,hfz19_4⟩ := cz5 BK322) | ((with_reducible refine gate_callee (f := 41) rfl ?_);refine gL (some 12) Try.func41 #[.agg #[.int .i64 a0_0,.int .i64 a0_1,.int .i64 a0_2,.int .i64 a0_3,.int .i64 a0_4],.slice A1 l1.length c1] ?_;(with_reducible refine (scalar_parts.calls k a0_0 a0_1 a0_2 a0_3 a0_4 _ _ l1 t324 t327 t330 _ ?side1 ?side2 A3.out).mono ?_);(case side1 => exact rC (Kd.C_below HR1.out HB.out));(case side2 => exact HC1.out);rintro e w20 ⟨v325,v328,rfl,ho0,ho1,hb⟩;refine ⟨_,rfl,?_⟩;have HO326 := Aside0.mk (Kd.R_lower ho0 (below_size (rW HB)));have HO329 := Aside0.mk (Kd.R_lower ho1 (below_size (rW HB)));replace BK322 := bb BK322 hb;replace BK323 := bb BK323 hb;replace HB := bs HB hb;(try clear hb);(try clear hb2);(try clear hk);(try clear hi);(try clear ho0);(try clear ho1);obtain ⟨hcz21_0,hcz21_1,hfz21_0,hfz21_1⟩ := cz2 BK323))
  refine bodyPost_ret (results_ct rfl _ _ gb323 49 #[.int .i64 0,.slice none 0 0] (0,0) _ rfl (by (with_reducible repeat (first | refine blk_drewN ?_ _ | refine blk_drew ?_ | refine blk_alloc ?_ _));refine blk_put (cs := #[.int .i64 0,.slice none 0 0]) ?_ 1 _ rfl;(with_reducible repeat (first | refine blk_drewN ?_ _ | refine blk_drew ?_ | refine blk_alloc ?_ _));refine blk_put (cs := #[.int .i64 0,.slice none 0 0]) ?_ 0 _ rfl;(with_reducible repeat (first | refine blk_drewN ?_ _ | refine blk_drew ?_ | refine blk_alloc ?_ _));exact BK323.out) Try.underlying49 rfl (by kernel_rfl)) rfl ?_;exact ⟨_,by first | rfl | (simp [errW_none,errW_some] <;> rfl) | (simp [*,errW_none,errW_some] <;> rfl),by first | exact Kd.R_nil _ _ _ _ _ | exact Kd.N_nil _ _ _ _ _ | exact Kd.V_nil _ _ _ _ _ | exact Kd.Q_nil _ _ _ _ _ | exact Kd.S_nil _ _ _ _ _,rW HB⟩
def trefoilref03_Fit.l0 : Nat → Int → Int → Int → Int → Option (Int)
 | 0,_,_,_,_ => none
 | k + 1,x0,x1,x5,x6 => if x6 < 64 then (if x6 < x0 then (if 0 ≤ (IntKind.u64.wrap (x6)) then (trefoilref03_Fit.l0 k x0 x1 (Go.bits .or .u64 x5 (Go.bits .and .u64 x1 (shl .u64 1 (IntKind.u64.wrap (x6))))) (wrap64 (x6 + 1))) else (none)) else (some x5)) else (some x5)
def trefoilref03_Fit.f (k : Nat) (a0 : Int) (a1 : Int) : Option (Int) := trefoilref03_Fit.l0 k a0 a1 0 0
theorem trefoilref03_Fit.mono_l : ∀ k,(∀ y0 y1 y2 y3,LeO (trefoilref03_Fit.l0 k y0 y1 y2 y3) (trefoilref03_Fit.l0 (k + 1) y0 y1 y2 y3))
 | 0 => fun _ _ _ _ r h => by simp [trefoilref03_Fit.l0] at h
 | k + 1 => by
  have ih0 := trefoilref03_Fit.mono_l k
  ·intro y0 y1 y2 y3
   unfold trefoilref03_Fit.l0
   repeat' first | (with_reducible first | exact ih0 _ _ _ _ | exact LeO.refl _ | exact LeO.none _ | refine LeO.ite ?_ ?_ | refine LeO.bind ?_ (fun _ => ?_)) | exact LeO.none _ | refine LeO.ite ?_ ?_ | refine LeO.bind ?_ (fun _ => ?_)
theorem trefoilref03_Fit.mono : ∀ a0 a1 k,LeO (trefoilref03_Fit.f k a0 a1) (trefoilref03_Fit.f (k + 1) a0 a1) := by
 intro a0 a1 k;have ih0 := trefoilref03_Fit.mono_l k;unfold trefoilref03_Fit.f
 repeat' first | (with_reducible first | exact ih0 _ _ _ _ | exact LeO.refl _ | exact LeO.none _ | refine LeO.ite ?_ ?_ | refine LeO.bind ?_ (fun _ => ?_)) | exact LeO.none _ | refine LeO.ite ?_ ?_ | refine LeO.bind ?_ (fun _ => ?_)
set_option maxHeartbeats 8000000 in
set_option maxRecDepth 100000 in
theorem trefoilref03_Fit.calls (k : Nat) (a0 : Int) (a1 : Int) (r : Int) (w : World) (h : trefoilref03_Fit.f k a0 a1 = some r) :
  Calls Try.prog 9 #[.int .i64 a0,.int .u64 a1] w fun e w' => e = .returned (.int .u64 r) ∧ Drawn0 w w' := by
 have H : (trefoilref03_Fit.l0 k a0 a1 0 0) = some r := h;clear h;have H' := Aside0.mk H;clear H
 go_enter Try.func9,Try.ntmps9
 go_wp2
 go_loopg [5,6] k (fun kq v5 v6 w' => ∃ (x5_1 : Int) (x6_1 : Int),v5 = .int .u64 x5_1 ∧ v6 = .int .i64 x6_1 ∧ Aside0 (trefoilref03_Fit.l0 kq a0 a1 x5_1 x6_1 = some r) ∧ Aside0 (kq ≤ k) ∧ Drawn0 w w')
 case atStart => exact ⟨(0),(0),(by first | rfl | (simp;done) | (simp [*];done)),(by first | rfl | (simp;done) | (simp [*];done)),H',⟨Nat.le_refl _⟩,by repeat (first | exact Drawn0.refl _ | apply Drawn0.step)⟩
 case round =>
  clear H'
  try clear p2
  obtain ⟨x5_1,x6_1,rfl,rfl,HA,HK1,⟨m1,rfl⟩⟩ := hrel
  cases gk with
  | zero => exact absurd HA.out (by simp [trefoilref03_Fit.l0])
  | succ k1 =>
   have H := HA.out;clear HA;simp only [trefoilref03_Fit.l0] at H
   by_cases c3 : x6_1 < 64
   ·rw [if_pos c3] at H
    have c3b0 : decide (x6_1 < 64) = true := decide_eq_true c3;clear c3
    by_cases c4 : x6_1 < a0
    ·rw [if_pos c4] at H
     have c4b0 : decide (x6_1 < a0) = true := decide_eq_true c4;clear c4;obtain ⟨ji5,hji5⟩ : ∃ j_ : Int,(IntKind.u64.wrap (x6_1)) = j_ := ⟨_,rfl⟩
     replace H : (if 0 ≤ (ji5) then (trefoilref03_Fit.l0 k1 a0 a1 (Go.bits .or .u64 x5_1 (Go.bits .and .u64 a1 (shl .u64 1 (ji5)))) (wrap64 (x6_1 + 1))) else (none)) = some r := by first | (rw [hji5] at H;exact H) | (simp only [hji5] at H ⊢;exact H)
     by_cases c6 : 0 ≤ (ji5)
     ·rw [if_pos c6] at H
      have c6b0 := eq_true c6;have c6b1 : decide (0 ≤ (ji5)) = true := decide_eq_true c6;clear c6;obtain ⟨ji7,hji7⟩ : ∃ j_ : Int,(shl .u64 1 (ji5)) = j_ := ⟨_,rfl⟩
      replace H : (trefoilref03_Fit.l0 k1 a0 a1 (Go.bits .or .u64 x5_1 (Go.bits .and .u64 a1 (ji7))) (wrap64 (x6_1 + 1))) = some r := by first | (rw [hji7] at H;exact H) | (simp only [hji7] at H ⊢;exact H)
      have hji7_ : (IntKind.u64.wrap (1 * 2 ^ min (ji5).toNat 64)) = ji7 := hji7;have hji7z : (ji5) ≤ 64 → (IntKind.u64.wrap (1 * 2 ^ (ji5).toNat)) = ji7 := shl_small hji7
      have hji7u : (IntKind.u64.wrap (2 ^ min (ji5).toNat 64)) = ji7 := by have h_ := hji7_;rw [Int.one_mul] at h_;exact h_
      have hji7v : (ji5) ≤ 64 → (IntKind.u64.wrap (2 ^ (ji5).toNat)) = ji7 := fun hle_ => by have h_ := hji7z hle_;rw [Int.one_mul] at h_;exact h_
      have H' := Aside0.mk H;clear H
      go_wp2
      go_roundg k1
      case measure => have := HK1.out;omega
      case rel => exact ⟨(Go.bits .or .u64 x5_1 (Go.bits .and .u64 a1 (ji7))),(wrap64 (x6_1 + 1)),(by first | rfl | (simp;done) | (simp only [← hji7] <;> (first | rfl | simp)) | (simp [*];done)),(by first | rfl | (simp;done) | (simp [*];done)),H',⟨by have := HK1.out;omega⟩,by repeat (first | exact Drawn0.refl _ | apply Drawn0.step)⟩
     ·rw [if_neg c6] at H
      exact absurd H (by simp)
    ·rw [if_neg c4] at H
     have c4b0 : decide (x6_1 < a0) = false := decide_eq_false c4;clear c4;obtain rfl := Option.some.inj H
     go_wp2
     go_ret
     exact ⟨by first | rfl | (simp;done) | (simp [*];done),by repeat (first | exact Drawn0.refl _ | apply Drawn0.step)⟩
   ·rw [if_neg c3] at H
    have c3b0 : decide (x6_1 < 64) = false := decide_eq_false c3;clear c3;obtain rfl := Option.some.inj H
    go_wp2
    go_ret
    exact ⟨by first | rfl | (simp;done) | (simp [*];done),by repeat (first | exact Drawn0.refl _ | apply Drawn0.step)⟩
def trefoilref03_Add.l0 : Nat → Int → Int → Int → Int → Int → Int → Option (Int)
 | 0,_,_,_,_,_,_ => none
 | k + 1,x0,x1,x2,x7,x8,x9 => if x9 < 64 then (if x9 < x0 then (if 0 ≤ (IntKind.u64.wrap (x9)) then (trefoilref03_Add.l0 k x0 x1 x2 (Go.bits .or .u64 x7 (shl .u64 (Int.tmod (IntKind.u64.wrap ((IntKind.u64.wrap ((Int.tmod (shr .u64 x1 (IntKind.u64.wrap (x9))) 2) + (Int.tmod (shr .u64 x2 (IntKind.u64.wrap (x9))) 2))) + x8)) 2) (IntKind.u64.wrap (x9)))) (IntKind.u64.wrap (Int.tdiv (IntKind.u64.wrap ((IntKind.u64.wrap ((Int.tmod (shr .u64 x1 (IntKind.u64.wrap (x9))) 2) + (Int.tmod (shr .u64 x2 (IntKind.u64.wrap (x9))) 2))) + x8)) 2)) (wrap64 (x9 + 1))) else (none)) else (some x7)) else (some x7)
def trefoilref03_Add.f (k : Nat) (a0 : Int) (a1 : Int) (a2 : Int) : Option (Int) := trefoilref03_Add.l0 k a0 a1 a2 0 0 0
theorem trefoilref03_Add.mono_l : ∀ k,(∀ y0 y1 y2 y3 y4 y5,LeO (trefoilref03_Add.l0 k y0 y1 y2 y3 y4 y5) (trefoilref03_Add.l0 (k + 1) y0 y1 y2 y3 y4 y5))
 | 0 => fun _ _ _ _ _ _ r h => by simp [trefoilref03_Add.l0] at h
 | k + 1 => by
  have ih0 := trefoilref03_Add.mono_l k
  ·intro y0 y1 y2 y3 y4 y5
   unfold trefoilref03_Add.l0
   repeat' first | (with_reducible first | exact ih0 _ _ _ _ _ _ | exact LeO.refl _ | exact LeO.none _ | refine LeO.ite ?_ ?_ | refine LeO.bind ?_ (fun _ => ?_)) | exact LeO.none _ | refine LeO.ite ?_ ?_ | refine LeO.bind ?_ (fun _ => ?_)
theorem trefoilref03_Add.mono : ∀ a0 a1 a2 k,LeO (trefoilref03_Add.f k a0 a1 a2) (trefoilref03_Add.f (k + 1) a0 a1 a2) := by
 intro a0 a1 a2 k;have ih0 := trefoilref03_Add.mono_l k;unfold trefoilref03_Add.f
 repeat' first | (with_reducible first | exact ih0 _ _ _ _ _ _ | exact LeO.refl _ | exact LeO.none _ | refine LeO.ite ?_ ?_ | refine LeO.bind ?_ (fun _ => ?_)) | exact LeO.none _ | refine LeO.ite ?_ ?_ | refine LeO.bind ?_ (fun _ => ?_)
set_option maxHeartbeats 8000000 in
set_option maxRecDepth 100000 in
theorem trefoilref03_Add.calls (k : Nat) (a0 : Int) (a1 : Int) (a2 : Int) (r : Int) (w : World) (h : trefoilref03_Add.f k a0 a1 a2 = some r) :
  Calls Try.prog 14 #[.int .i64 a0,.int .u64 a1,.int .u64 a2] w fun e w' => e = .returned (.int .u64 r) ∧ Drawn0 w w' := by
 have H : (trefoilref03_Add.l0 k a0 a1 a2 0 0 0) = some r := h;clear h;have H' := Aside0.mk H;clear H
 go_enter Try.func14,Try.ntmps14
 go_wp2
 go_loopg [7,8,9] k (fun kq v7 v8 v9 w' => ∃ (x7_1 : Int) (x8_1 : Int) (x9_1 : Int),v7 = .int .u64 x7_1 ∧ v8 = .int .u64 x8_1 ∧ v9 = .int .i64 x9_1 ∧ Aside0 (trefoilref03_Add.l0 kq a0 a1 a2 x7_1 x8_1 x9_1 = some r) ∧ Aside0 (kq ≤ k) ∧ Drawn0 w w')
 case atStart => exact ⟨(0),(0),(0),(by first | rfl | (simp;done) | (simp [*];done)),(by first | rfl | (simp;done) | (simp [*];done)),(by first | rfl | (simp;done) | (simp [*];done)),H',⟨Nat.le_refl _⟩,by repeat (first | exact Drawn0.refl _ | apply Drawn0.step)⟩
 case round =>
  clear H'
  try clear c1
  try clear p2
  obtain ⟨x7_1,x8_1,x9_1,rfl,rfl,rfl,HA,HK1,⟨m1,rfl⟩⟩ := hrel
  cases gk with
  | zero => exact absurd HA.out (by simp [trefoilref03_Add.l0])
  | succ k1 =>
   have H := HA.out;clear HA;simp only [trefoilref03_Add.l0] at H
   by_cases c4 : x9_1 < 64
   ·rw [if_pos c4] at H
    have c4b0 : decide (x9_1 < 64) = true := decide_eq_true c4;clear c4
    by_cases c5 : x9_1 < a0
    ·rw [if_pos c5] at H
     have c5b0 : decide (x9_1 < a0) = true := decide_eq_true c5;clear c5;obtain ⟨ji6,hji6⟩ : ∃ j_ : Int,(IntKind.u64.wrap (x9_1)) = j_ := ⟨_,rfl⟩
     replace H : (if 0 ≤ (ji6) then (trefoilref03_Add.l0 k1 a0 a1 a2 (Go.bits .or .u64 x7_1 (shl .u64 (Int.tmod (IntKind.u64.wrap ((IntKind.u64.wrap ((Int.tmod (shr .u64 a1 (ji6)) 2) + (Int.tmod (shr .u64 a2 (ji6)) 2))) + x8_1)) 2) (ji6))) (IntKind.u64.wrap (Int.tdiv (IntKind.u64.wrap ((IntKind.u64.wrap ((Int.tmod (shr .u64 a1 (ji6)) 2) + (Int.tmod (shr .u64 a2 (ji6)) 2))) + x8_1)) 2)) (wrap64 (x9_1 + 1))) else (none)) = some r := by first | (rw [hji6] at H;exact H) | (simp only [hji6] at H ⊢;exact H)
     by_cases c7 : 0 ≤ (ji6)
     ·rw [if_pos c7] at H
      have c7b0 := eq_true c7;have c7b1 : decide (0 ≤ (ji6)) = true := decide_eq_true c7;clear c7;obtain ⟨ji8,hji8⟩ : ∃ j_ : Int,(shr .u64 a1 (ji6)) = j_ := ⟨_,rfl⟩
      replace H : (trefoilref03_Add.l0 k1 a0 a1 a2 (Go.bits .or .u64 x7_1 (shl .u64 (Int.tmod (IntKind.u64.wrap ((IntKind.u64.wrap ((Int.tmod (ji8) 2) + (Int.tmod (shr .u64 a2 (ji6)) 2))) + x8_1)) 2) (ji6))) (IntKind.u64.wrap (Int.tdiv (IntKind.u64.wrap ((IntKind.u64.wrap ((Int.tmod (ji8) 2) + (Int.tmod (shr .u64 a2 (ji6)) 2))) + x8_1)) 2)) (wrap64 (x9_1 + 1))) = some r := by first | (rw [hji8] at H;exact H) | (simp only [hji8] at H ⊢;exact H)
      have hji8_ : (a1 / 2 ^ min (ji6).toNat 64) = ji8 := hji8;have hji8z : (ji6) ≤ 64 → (a1 / 2 ^ (ji6).toNat) = ji8 := shr_small hji8;have c9b0 := eq_true (of_decide_eq_true (by first | (with_reducible assumption) | assumption) : 0 ≤ (ji6));obtain ⟨ji10,hji10⟩ : ∃ j_ : Int,(shr .u64 a2 (ji6)) = j_ := ⟨_,rfl⟩
      replace H : (trefoilref03_Add.l0 k1 a0 a1 a2 (Go.bits .or .u64 x7_1 (shl .u64 (Int.tmod (IntKind.u64.wrap ((IntKind.u64.wrap ((Int.tmod (ji8) 2) + (Int.tmod (ji10) 2))) + x8_1)) 2) (ji6))) (IntKind.u64.wrap (Int.tdiv (IntKind.u64.wrap ((IntKind.u64.wrap ((Int.tmod (ji8) 2) + (Int.tmod (ji10) 2))) + x8_1)) 2)) (wrap64 (x9_1 + 1))) = some r := by first | (rw [hji10] at H;exact H) | (simp only [hji10] at H ⊢;exact H)
      have hji10_ : (a2 / 2 ^ min (ji6).toNat 64) = ji10 := hji10;have hji10z : (ji6) ≤ 64 → (a2 / 2 ^ (ji6).toNat) = ji10 := shr_small hji10;have c11b0 := eq_true (of_decide_eq_true (by first | (with_reducible assumption) | assumption) : 0 ≤ (ji6));obtain ⟨ji12,hji12⟩ : ∃ j_ : Int,(shl .u64 (Int.tmod (IntKind.u64.wrap ((IntKind.u64.wrap ((Int.tmod (ji8) 2) + (Int.tmod (ji10) 2))) + x8_1)) 2) (ji6)) = j_ := ⟨_,rfl⟩
      replace H : (trefoilref03_Add.l0 k1 a0 a1 a2 (Go.bits .or .u64 x7_1 (ji12)) (IntKind.u64.wrap (Int.tdiv (IntKind.u64.wrap ((IntKind.u64.wrap ((Int.tmod (ji8) 2) + (Int.tmod (ji10) 2))) + x8_1)) 2)) (wrap64 (x9_1 + 1))) = some r := by first | (rw [hji12] at H;exact H) | (simp only [hji12] at H ⊢;exact H)
      have hji12_ : (IntKind.u64.wrap ((Int.tmod (IntKind.u64.wrap ((IntKind.u64.wrap ((Int.tmod (ji8) 2) + (Int.tmod (ji10) 2))) + x8_1)) 2) * 2 ^ min (ji6).toNat 64)) = ji12 := hji12;have hji12z : (ji6) ≤ 64 → (IntKind.u64.wrap ((Int.tmod (IntKind.u64.wrap ((IntKind.u64.wrap ((Int.tmod (ji8) 2) + (Int.tmod (ji10) 2))) + x8_1)) 2) * 2 ^ (ji6).toNat)) = ji12 := shl_small hji12;have H' := Aside0.mk H;clear H
      go_wp2
      go_roundg k1
      case measure => have := HK1.out;omega
      case rel => exact ⟨(Go.bits .or .u64 x7_1 (ji12)),(IntKind.u64.wrap (Int.tdiv (IntKind.u64.wrap ((IntKind.u64.wrap ((Int.tmod (ji8) 2) + (Int.tmod (ji10) 2))) + x8_1)) 2)),(wrap64 (x9_1 + 1)),(by first | rfl | (simp;done) | (simp only [← hji12] <;> (first | rfl | simp)) | (simp [*];done)),(by first | rfl | (simp;done) | (simp only [← hji8,← hji10] <;> (first | rfl | simp)) | (simp [*];done)),(by first | rfl | (simp;done) | (simp [*];done)),H',⟨by have := HK1.out;omega⟩,by repeat (first | exact Drawn0.refl _ | apply Drawn0.step)⟩
     ·rw [if_neg c7] at H
      exact absurd H (by simp)
    ·rw [if_neg c5] at H
     have c5b0 : decide (x9_1 < a0) = false := decide_eq_false c5;clear c5;obtain rfl := Option.some.inj H
     go_wp2
     go_ret
     exact ⟨by first | rfl | (simp;done) | (simp [*];done),by repeat (first | exact Drawn0.refl _ | apply Drawn0.step)⟩
   ·rw [if_neg c4] at H
    have c4b0 : decide (x9_1 < 64) = false := decide_eq_false c4;clear c4;obtain rfl := Option.some.inj H
    go_wp2
    go_ret
    exact ⟨by first | rfl | (simp;done) | (simp [*];done),by repeat (first | exact Drawn0.refl _ | apply Drawn0.step)⟩
def trefoilref03_Neg.f (k : Nat) (a0 : Int) (a1 : Int) : Option (Int) := (trefoilref03_Add.f k a0 (IntKind.u64.wrap (18446744073709551615 - a1)) 1).bind fun t336 => (some t336)
theorem trefoilref03_Neg.mono : ∀ a0 a1 k,LeO (trefoilref03_Neg.f k a0 a1) (trefoilref03_Neg.f (k + 1) a0 a1) := by
 intro a0 a1 k;unfold trefoilref03_Neg.f
 repeat' first | (with_reducible first | exact trefoilref03_Add.mono _ _ _ _ | exact LeO.refl _ | exact LeO.none _ | refine LeO.ite ?_ ?_ | refine LeO.bind ?_ (fun _ => ?_)) | exact LeO.none _ | refine LeO.ite ?_ ?_ | refine LeO.bind ?_ (fun _ => ?_)
set_option maxHeartbeats 8000000 in
set_option maxRecDepth 100000 in
theorem trefoilref03_Neg.calls (k : Nat) (a0 : Int) (a1 : Int) (r : Int) (w : World) (h : trefoilref03_Neg.f k a0 a1 = some r) :
  Calls Try.prog 32 #[.int .i64 a0,.int .u64 a1] w fun e w' => e = .returned (.int .u64 r) ∧ Drawn0 w w' := by
 have H : ((trefoilref03_Add.f k a0 (IntKind.u64.wrap (18446744073709551615 - a1)) 1).bind fun t336 => (some t336)) = some r := h;clear h;replace H := Option.bind_eq_some_iff.mp H;obtain ⟨t336,A30,H⟩ := H;replace H : (some t336) = some r := H;have A3 := Aside0.mk A30;clear A30;obtain rfl := Option.some.inj H
 go_enter Try.func32,Try.ntmps32
 go_wp2_with (first | ((with_reducible refine gate_callee (f := 14) rfl ?_);refine gL (some 8) Try.func14 #[.int .i64 a0,.int .u64 (IntKind.u64.wrap (18446744073709551615 - a1)),.int .u64 1] ?_;(with_reducible refine (trefoilref03_Add.calls k a0 (IntKind.u64.wrap (18446744073709551615 - a1)) 1 t336 _ A3.out).mono ?_);rintro e w' ⟨rfl,⟨nd,rfl⟩⟩;refine ⟨_,rfl,?_⟩))
 go_ret
 exact ⟨by first | rfl | (simp;done) | (simp [*];done),by repeat (first | exact Drawn0.refl _ | apply Drawn0.step)⟩
def trefoilref03_Sub.f (k : Nat) (a0 : Int) (a1 : Int) (a2 : Int) : Option (Int) := (trefoilref03_Neg.f k 64 a2).bind fun t337 => ((trefoilref03_Add.f k a0 a1 t337).bind fun t338 => (some t338))
theorem trefoilref03_Sub.mono : ∀ a0 a1 a2 k,LeO (trefoilref03_Sub.f k a0 a1 a2) (trefoilref03_Sub.f (k + 1) a0 a1 a2) := by
 intro a0 a1 a2 k;unfold trefoilref03_Sub.f
 repeat' first | (with_reducible first | exact trefoilref03_Add.mono _ _ _ _ | exact trefoilref03_Neg.mono _ _ _ | exact LeO.refl _ | exact LeO.none _ | refine LeO.ite ?_ ?_ | refine LeO.bind ?_ (fun _ => ?_)) | exact LeO.none _ | refine LeO.ite ?_ ?_ | refine LeO.bind ?_ (fun _ => ?_)
set_option maxHeartbeats 8000000 in
set_option maxRecDepth 100000 in
theorem trefoilref03_Sub.calls (k : Nat) (a0 : Int) (a1 : Int) (a2 : Int) (r : Int) (w : World) (h : trefoilref03_Sub.f k a0 a1 a2 = some r) :
  Calls Try.prog 10 #[.int .i64 a0,.int .u64 a1,.int .u64 a2] w fun e w' => e = .returned (.int .u64 r) ∧ Drawn0 w w' := by
 have H : ((trefoilref03_Neg.f k 64 a2).bind fun t337 => ((trefoilref03_Add.f k a0 a1 t337).bind fun t338 => (some t338))) = some r := h;clear h;replace H := Option.bind_eq_some_iff.mp H;obtain ⟨t337,A40,H⟩ := H;replace H : ((trefoilref03_Add.f k a0 a1 t337).bind fun t338 => (some t338)) = some r := H;have A4 := Aside0.mk A40;clear A40;replace H := Option.bind_eq_some_iff.mp H;obtain ⟨t338,A50,H⟩ := H;replace H : (some t338) = some r := H;have A5 := Aside0.mk A50;clear A50;obtain rfl := Option.some.inj H
 go_enter Try.func10,Try.ntmps10
 go_wp2_with (first | ((with_reducible refine gate_callee (f := 32) rfl ?_);refine gL (some 10) Try.func32 #[.int .i64 64,.int .u64 a2] ?_;(with_reducible refine (trefoilref03_Neg.calls k 64 a2 t337 _ A4.out).mono ?_);rintro e w' ⟨rfl,⟨nd,rfl⟩⟩;refine ⟨_,rfl,?_⟩) | ((with_reducible refine gate_callee (f := 14) rfl ?_);refine gL (some 11) Try.func14 #[.int .i64 a0,.int .u64 a1,.int .u64 t337] ?_;(with_reducible refine (trefoilref03_Add.calls k a0 a1 t337 t338 _ A5.out).mono ?_);rintro e w' ⟨rfl,⟨nd,rfl⟩⟩;refine ⟨_,rfl,?_⟩))
 go_ret
 exact ⟨by first | rfl | (simp;done) | (simp [*];done),by repeat (first | exact Drawn0.refl _ | apply Drawn0.step)⟩
end Go.Proofs.Ytbhfleilgjonpaa.XScalarComes
