import Derived.Test.YtbhfleilgjonpaaSXShort
import Derived.Test.YtbhfleilgjonpaaSXScalarComesx0
import Derived.Test.YtbhfleilgjonpaaSXScalarComesx3
import Derived.Test.YtbhfleilgjonpaaSXScalarComesx4
namespace Go.Proofs.Ytbhfleilgjonpaa.XScalarComes
open Go.RowKit Go.Proofs.YtbhfleilgjonpaaW.PrintWords Go.Proofs.YtbhfleilgjonpaaW.PrintLast Go.Proofs.YtbhfleilgjonpaaW.PrintMore
attribute [local go_sem] max2_int min2_int max_two min_two max_three min_three max_four min_four
set_option linter.unusedVariables false
set_option linter.unusedSimpArgs false
def ring_Fits.ok (m x : Int) : Bool := Go.bits .andNot .u64 x m == 0
def ring_Fits.f (a0 : Int) (l1 : List Int) : Option Bool := (ring_mask.f a0).bind fun m => some (l1.all (ring_Fits.ok m))
def ring_Fits.Idx (m : Int) (xs : List Int) (i : Int) : Prop := decide (0 ≤ i) = !(xs.all (ring_Fits.ok m))
theorem ring_Fits.closure (B : Nat) (m x : Int) (W : World) (hc : W.cell? ⟨B,0,none⟩ = some (.int .u64 m)) :
  Calls Try.prog 61 #[.int .u64 x,.pointer (some ⟨B,0,none⟩)] W fun e w' => e = .returned (.bool (!ring_Fits.ok m x)) ∧ W = w' := by
 have e : (!ring_Fits.ok m x) = (Go.bits .andNot .u64 x m != 0) := rfl;rw [e];clear e
 go_enter Try.func61,Try.ntmps61
 go_wp2
 go_ret
 exact ⟨rfl,rfl⟩
set_option maxHeartbeats 8000000 in
set_option maxRecDepth 100000 in
theorem ring_Fits.index (A1 : Option Addr) (c1 : Nat) (l1 : List Int) (B : Nat) (m : Int) (w : World) (hr1 : Kd.C (Kd.int .u64) w A1 l1.length l1) (hb : w.cell? ⟨B,0,none⟩ = some (.int .u64 m)) :
  Calls Try.prog 82 #[.slice A1 l1.length c1,.func (.func 61) #[] #[.pointer (some ⟨B,0,none⟩)]] w fun e w' => (∃ i : Int,e = .returned (.int .i64 i) ∧ ring_Fits.Idx m l1 i) ∧ w = w' := by
 have HR1 := Aside0.mk hr1;have HM : Aside0 (l1.length ≤ 9223372036854775807) := ⟨hr1.2.1⟩;clear hr1
 go_enter Try.func82,Try.ntmps82
 go_wp2
 go_loopg [5,8] l1.length (fun gg _ s8 wr => ∃ i : Int,s8 = .int .i64 i ∧ w = wr ∧ Aside0 (0 ≤ i) ∧ Aside0 (i ≤ l1.length) ∧ Aside0 (l1.length - i.toNat ≤ gg) ∧ Aside0 ((l1.take i.toNat).all (ring_Fits.ok m) = true))
 case atStart => exact ⟨0,rfl,rfl,⟨by omega⟩,⟨by omega⟩,⟨by omega⟩,⟨by simp⟩⟩
 case round =>
  obtain ⟨i,rfl,rfl,h0,h1,h2,h3⟩ := hrel
  by_cases hlt : i < (l1.length : Int)
  ·have q0 : 0 ≤ i := h0.out
   obtain ⟨ad,rfl,hx⟩ := Kd.at_int HR1.out i q0 hlt;have hlb : decide (i < (l1.length : Int)) = true := decide_eq_true hlt;have W0 : Aside0 (wrap64 (i + 1) = i + 1) := ⟨by have := HM.out;unfold wrap64;omega⟩
   have HT : Aside0 ((l1.take (i + 1).toNat).all (ring_Fits.ok m) = ring_Fits.ok m (rd l1 i)) := ⟨by
    have e1 : (i + 1).toNat = i.toNat + 1 := by omega
    have hl : i.toNat < l1.length := by omega
    rw [e1,List.take_succ_eq_append_getElem hl,List.all_append,h3.out]
    simp [rd,List.getD_eq_getElem?_getD,List.getElem?_eq_getElem hl]⟩
   have HE : Aside0 (ring_Fits.ok m (rd l1 i) = false → ring_Fits.Idx m l1 i) := ⟨fun hf => by
    have hl : i.toNat < l1.length := by omega
    have : l1.all (ring_Fits.ok m) = false := by
     rw [List.all_eq_false];refine ⟨l1[i.toNat],List.getElem_mem _,?_⟩
     have : rd l1 i = l1[i.toNat] := by simp [rd,List.getD_eq_getElem?_getD,List.getElem?_eq_getElem hl]
     rw [← this,hf];simp
    unfold ring_Fits.Idx
    rw [this];simpa using q0⟩
   have q1 : 0 ≤ i := q0;replace q0 := eq_true q0;replace hlt := eq_true hlt;generalize hy : rd l1 i = y at hx HT HE;clear hy
   cases hq : ring_Fits.ok m y with
   | true =>
    have hc := ring_Fits.closure B m y w hb;rw [hq] at hc HT HE
    go_wp2_with (go_at_call 61;refine hc.mono ?_;rintro e w' ⟨rfl,rfl⟩)
    go_roundg (l1.length - (i + 1).toNat)
    case measure => have := h2.out;have := of_eq_true hlt;omega
    case rel => exact ⟨i + 1,by rw [W0.out],rfl,⟨by omega⟩,⟨by have := of_eq_true hlt;omega⟩,⟨Nat.le_refl _⟩,HT⟩
   | false =>
    have hc := ring_Fits.closure B m y w hb;rw [hq] at hc HT HE
    go_wp2_with (go_at_call 61;refine hc.mono ?_;rintro e w' ⟨rfl,rfl⟩)
    go_ret
    exact ⟨⟨i,rfl,HE.out trivial⟩,rfl⟩
  ·have hlb : decide (i < (l1.length : Int)) = false := decide_eq_false hlt
   have HE : Aside0 (ring_Fits.Idx m l1 (-1)) := ⟨by
    have : i.toNat = l1.length := by have := h1.out;omega
    have h3 := h3.out;rw [this,List.take_length] at h3;unfold ring_Fits.Idx
    rw [h3];rfl⟩
   go_wp2
   go_ret
   exact ⟨⟨-1,rfl,HE.out⟩,rfl⟩
set_option maxHeartbeats 8000000 in
set_option maxRecDepth 100000 in
theorem ring_Fits.contains (A1 : Option Addr) (c1 : Nat) (l1 : List Int) (B : Nat) (m : Int) (w : World) (hr1 : Kd.C (Kd.int .u64) w A1 l1.length l1) (hb : w.cell? ⟨B,0,none⟩ = some (.int .u64 m)) :
  Calls Try.prog 60 #[.slice A1 l1.length c1,.func (.func 61) #[] #[.pointer (some ⟨B,0,none⟩)]] w fun e w' => e = .returned (.bool (!l1.all (ring_Fits.ok m))) ∧ w = w' := by
 generalize hq : (!l1.all (ring_Fits.ok m)) = q;have HQ := Aside0.mk hq;clear hq
 go_enter Try.func60,Try.ntmps60
 go_wp2_with (go_at_call 82;refine (ring_Fits.index A1 c1 l1 B m _ hr1 hb).mono ?_;rintro e w' ⟨⟨i,rfl,hi⟩,rfl⟩;have HI := Aside0.mk hi;clear hi)
 go_ret
 refine ⟨?_,rfl⟩;have h := HI.out;unfold ring_Fits.Idx at h;rw [HQ.out] at h;rw [← h]
 rfl
set_option maxHeartbeats 8000000 in
set_option maxRecDepth 100000 in
theorem ring_Fits.calls (a0 : Int) (A1 : Option Addr) (c1 : Nat) (l1 : List Int) (r : Bool) (w : World) (hr1 : Kd.C (Kd.int .u64) w A1 l1.length l1) (hc1 : l1.length ≤ c1) (h : ring_Fits.f a0 l1 = some r) :
  Calls Try.prog 34 #[.int .i64 a0,.slice A1 l1.length c1] w fun e w' => e = .returned (.bool r) ∧ Below w.heap.size w w' := by
 unfold ring_Fits.f at h;obtain ⟨m,hm,hr⟩ := Option.bind_eq_some_iff.mp h;have HM := Aside0.mk hm;have HR := Aside0.mk hr1;have HX := Aside0.mk hr;clear h hm hr hr1
 go_enter Try.func34,Try.ntmps34
 go_wp2_with (first | (go_at_call 59;refine (ring_mask.calls a0 m _ HM.out).mono ?_;rintro e w1 ⟨rfl,hd⟩;have HB := Aside0.mk hd.below;clear hd) | (go_at_call 60;refine (ring_Fits.contains A1 c1 l1 w1.heap.size m _ (Kd.C_below HR.out (below_alloc HB.out _)) (by simp)).mono ?_;rintro e w' ⟨rfl,rfl⟩))
 go_ret
 refine ⟨?_,?_⟩
 ·have := Option.some.inj HX.out
  simp only [Bool.not_not];rw [this]
  rfl
 ·exact below_alloc HB.out _
def scalar_check.f (k : Nat) (a0_0 : Int) (a0_1 : Int) (a0_2 : Int) (a0_3 : Int) (a0_4 : Int) (a1 : Int) : Option (Int) := (shape_Check.f k a0_0 a0_1 a0_2 a0_3 a0_4).bind fun t232 => (if t232 = 0 then (if a0_0 = 1 then (if a1 < 1 then (some 2) else (if a1 > 24 then (some 2) else (some 0))) else (some 15)) else (some t232))
theorem scalar_check.mono : ∀ a0 a1 a2 a3 a4 a5 k,LeO (scalar_check.f k a0 a1 a2 a3 a4 a5) (scalar_check.f (k + 1) a0 a1 a2 a3 a4 a5) := by
 intro a0 a1 a2 a3 a4 a5 k;unfold scalar_check.f
 repeat' first | (with_reducible first | exact shape_Check.mono _ _ _ _ _ _ | exact LeO.refl _ | exact LeO.none _ | refine LeO.ite ?_ ?_ | refine LeO.bind ?_ (fun _ => ?_)) | exact LeO.none _ | refine LeO.ite ?_ ?_ | refine LeO.bind ?_ (fun _ => ?_)
set_option maxHeartbeats 8000000 in
set_option maxRecDepth 100000 in
theorem scalar_check.calls (k : Nat) (a0_0 : Int) (a0_1 : Int) (a0_2 : Int) (a0_3 : Int) (a0_4 : Int) (a1 : Int) (r : Int) (w : World) (h : scalar_check.f k a0_0 a0_1 a0_2 a0_3 a0_4 a1 = some r) :
  Calls Try.prog 68 #[.agg #[.int .i64 a0_0,.int .i64 a0_1,.int .i64 a0_2,.int .i64 a0_3,.int .i64 a0_4],.int .i64 a1] w fun e w' => e = .returned (.int .i64 r) ∧ Below w.heap.size w w' := by
 have hu25 := Try.underlying25;have HB := Aside0.mk (Below.refl w.heap.size w);have H : ((shape_Check.f k a0_0 a0_1 a0_2 a0_3 a0_4).bind fun t232 => (if t232 = 0 then (if a0_0 = 1 then (if a1 < 1 then (some 2) else (if a1 > 24 then (some 2) else (some 0))) else (some 15)) else (some t232))) = some r := h;clear h;replace H := Option.bind_eq_some_iff.mp H;obtain ⟨t232,A30,H⟩ := H;replace H : (if t232 = 0 then (if a0_0 = 1 then (if a1 < 1 then (some 2) else (if a1 > 24 then (some 2) else (some 0))) else (some 15)) else (some t232)) = some r := H;have A3 := Aside0.mk A30;clear A30
 by_cases c4 : t232 = 0
 ·rw [if_pos c4] at H
  have c4b0 : (t232 == 0) = true := beq_iff_eq.mpr c4;have c4b1 : (t232 != 0) = false := bne_eq_false_iff_eq.mpr c4;clear c4
  by_cases c5 : a0_0 = 1
  ·rw [if_pos c5] at H
   have c5b0 : (a0_0 == 1) = true := beq_iff_eq.mpr c5;have c5b1 : (a0_0 != 1) = false := bne_eq_false_iff_eq.mpr c5;clear c5
   by_cases c6 : a1 < 1
   ·rw [if_pos c6] at H
    have c6b0 : decide (a1 < 1) = true := decide_eq_true c6;clear c6;obtain rfl := Option.some.inj H
    go_enter Try.func68,Try.ntmps68
    go_wp2_with (first | ((with_reducible refine gate_dst (N := 2) rfl ?_);refine bx 2 #[.int .i64 a0_0,.int .i64 a0_1,.int .i64 a0_2,.int .i64 a0_3,.int .i64 a0_4] 25 ?_;intro gb231 hg w7 hbox hb;have BK231 := Aside0.mk hbox;have GW231 := bz HB hg;have GE231 := bz HB hg;replace HB := bs HB hb;clear hb hbox hg;obtain ⟨hcz8_0,hcz8_1,hcz8_2,hcz8_3,hcz8_4,hfz8_0,hfz8_1,hfz8_2,hfz8_3,hfz8_4⟩ := cz5 BK231) | ((with_reducible refine gate_callee (f := 62) rfl ?_);refine gL (some 7) Try.func62 #[.agg #[.int .i64 a0_0,.int .i64 a0_1,.int .i64 a0_2,.int .i64 a0_3,.int .i64 a0_4]] ?_;(with_reducible refine (shape_Check.calls k a0_0 a0_1 a0_2 a0_3 a0_4 t232 _ A3.out).mono ?_);rintro e w9 ⟨rfl,hb⟩;refine ⟨_,rfl,?_⟩;replace BK231 := bb BK231 hb;replace HB := bs HB hb;(try clear hb);(try clear hb2);(try clear hk);(try clear hi);obtain ⟨hcz10_0,hcz10_1,hcz10_2,hcz10_3,hcz10_4,hfz10_0,hfz10_1,hfz10_2,hfz10_3,hfz10_4⟩ := cz5 BK231))
    go_ret
    exact ⟨by first | rfl | (simp [errW_none,errW_some] <;> rfl) | (simp [*,errW_none,errW_some] <;> rfl),rW HB⟩
   ·rw [if_neg c6] at H
    have c6b0 : decide (a1 < 1) = false := decide_eq_false c6;clear c6
    by_cases c11 : a1 > 24
    ·rw [if_pos c11] at H
     have c11b0 : decide (24 < a1) = true := decide_eq_true c11;clear c11;obtain rfl := Option.some.inj H
     go_enter Try.func68,Try.ntmps68
     go_wp2_with (first | ((with_reducible refine gate_dst (N := 2) rfl ?_);refine bx 2 #[.int .i64 a0_0,.int .i64 a0_1,.int .i64 a0_2,.int .i64 a0_3,.int .i64 a0_4] 25 ?_;intro gb231 hg w12 hbox hb;have BK231 := Aside0.mk hbox;have GW231 := bz HB hg;have GE231 := bz HB hg;replace HB := bs HB hb;clear hb hbox hg;obtain ⟨hcz13_0,hcz13_1,hcz13_2,hcz13_3,hcz13_4,hfz13_0,hfz13_1,hfz13_2,hfz13_3,hfz13_4⟩ := cz5 BK231) | ((with_reducible refine gate_callee (f := 62) rfl ?_);refine gL (some 7) Try.func62 #[.agg #[.int .i64 a0_0,.int .i64 a0_1,.int .i64 a0_2,.int .i64 a0_3,.int .i64 a0_4]] ?_;(with_reducible refine (shape_Check.calls k a0_0 a0_1 a0_2 a0_3 a0_4 t232 _ A3.out).mono ?_);rintro e w14 ⟨rfl,hb⟩;refine ⟨_,rfl,?_⟩;replace BK231 := bb BK231 hb;replace HB := bs HB hb;(try clear hb);(try clear hb2);(try clear hk);(try clear hi);obtain ⟨hcz15_0,hcz15_1,hcz15_2,hcz15_3,hcz15_4,hfz15_0,hfz15_1,hfz15_2,hfz15_3,hfz15_4⟩ := cz5 BK231))
     go_ret
     exact ⟨by first | rfl | (simp [errW_none,errW_some] <;> rfl) | (simp [*,errW_none,errW_some] <;> rfl),rW HB⟩
    ·rw [if_neg c11] at H
     have c11b0 : decide (24 < a1) = false := decide_eq_false c11;clear c11;obtain rfl := Option.some.inj H
     go_enter Try.func68,Try.ntmps68
     go_wp2_with (first | ((with_reducible refine gate_dst (N := 2) rfl ?_);refine bx 2 #[.int .i64 a0_0,.int .i64 a0_1,.int .i64 a0_2,.int .i64 a0_3,.int .i64 a0_4] 25 ?_;intro gb231 hg w16 hbox hb;have BK231 := Aside0.mk hbox;have GW231 := bz HB hg;have GE231 := bz HB hg;replace HB := bs HB hb;clear hb hbox hg;obtain ⟨hcz17_0,hcz17_1,hcz17_2,hcz17_3,hcz17_4,hfz17_0,hfz17_1,hfz17_2,hfz17_3,hfz17_4⟩ := cz5 BK231) | ((with_reducible refine gate_callee (f := 62) rfl ?_);refine gL (some 7) Try.func62 #[.agg #[.int .i64 a0_0,.int .i64 a0_1,.int .i64 a0_2,.int .i64 a0_3,.int .i64 a0_4]] ?_;(with_reducible refine (shape_Check.calls k a0_0 a0_1 a0_2 a0_3 a0_4 t232 _ A3.out).mono ?_);rintro e w18 ⟨rfl,hb⟩;refine ⟨_,rfl,?_⟩;replace BK231 := bb BK231 hb;replace HB := bs HB hb;(try clear hb);(try clear hb2);(try clear hk);(try clear hi);obtain ⟨hcz19_0,hcz19_1,hcz19_2,hcz19_3,hcz19_4,hfz19_0,hfz19_1,hfz19_2,hfz19_3,hfz19_4⟩ := cz5 BK231))
     go_ret
     exact ⟨by first | rfl | (simp [errW_none,errW_some] <;> rfl) | (simp [*,errW_none,errW_some] <;> rfl),rW HB⟩
  ·rw [if_neg c5] at H
   have c5b0 : (a0_0 == 1) = false := beq_eq_false_iff_ne.mpr c5;have c5b1 : (a0_0 != 1) = true := bne_iff_ne.mpr c5;obtain rfl := Option.some.inj H
   go_enter Try.func68,Try.ntmps68
   go_wp2_with (first | ((with_reducible refine gate_dst (N := 2) rfl ?_);refine bx 2 #[.int .i64 a0_0,.int .i64 a0_1,.int .i64 a0_2,.int .i64 a0_3,.int .i64 a0_4] 25 ?_;intro gb231 hg w20 hbox hb;have BK231 := Aside0.mk hbox;have GW231 := bz HB hg;have GE231 := bz HB hg;replace HB := bs HB hb;clear hb hbox hg;obtain ⟨hcz21_0,hcz21_1,hcz21_2,hcz21_3,hcz21_4,hfz21_0,hfz21_1,hfz21_2,hfz21_3,hfz21_4⟩ := cz5 BK231) | ((with_reducible refine gate_callee (f := 62) rfl ?_);refine gL (some 7) Try.func62 #[.agg #[.int .i64 a0_0,.int .i64 a0_1,.int .i64 a0_2,.int .i64 a0_3,.int .i64 a0_4]] ?_;(with_reducible refine (shape_Check.calls k a0_0 a0_1 a0_2 a0_3 a0_4 t232 _ A3.out).mono ?_);rintro e w22 ⟨rfl,hb⟩;refine ⟨_,rfl,?_⟩;replace BK231 := bb BK231 hb;replace HB := bs HB hb;(try clear hb);(try clear hb2);(try clear hk);(try clear hi);obtain ⟨hcz23_0,hcz23_1,hcz23_2,hcz23_3,hcz23_4,hfz23_0,hfz23_1,hfz23_2,hfz23_3,hfz23_4⟩ := cz5 BK231))
   go_ret
   exact ⟨by first | rfl | (simp [errW_none,errW_some] <;> rfl) | (simp [*,errW_none,errW_some] <;> rfl),rW HB⟩
 ·rw [if_neg c4] at H
  have c4b0 : (t232 == 0) = false := beq_eq_false_iff_ne.mpr c4;have c4b1 : (t232 != 0) = true := bne_iff_ne.mpr c4;obtain rfl := Option.some.inj H
  go_enter Try.func68,Try.ntmps68
  go_wp2_with (first | ((with_reducible refine gate_dst (N := 2) rfl ?_);refine bx 2 #[.int .i64 a0_0,.int .i64 a0_1,.int .i64 a0_2,.int .i64 a0_3,.int .i64 a0_4] 25 ?_;intro gb231 hg w24 hbox hb;have BK231 := Aside0.mk hbox;have GW231 := bz HB hg;have GE231 := bz HB hg;replace HB := bs HB hb;clear hb hbox hg;obtain ⟨hcz25_0,hcz25_1,hcz25_2,hcz25_3,hcz25_4,hfz25_0,hfz25_1,hfz25_2,hfz25_3,hfz25_4⟩ := cz5 BK231) | ((with_reducible refine gate_callee (f := 62) rfl ?_);refine gL (some 7) Try.func62 #[.agg #[.int .i64 a0_0,.int .i64 a0_1,.int .i64 a0_2,.int .i64 a0_3,.int .i64 a0_4]] ?_;(with_reducible refine (shape_Check.calls k a0_0 a0_1 a0_2 a0_3 a0_4 t232 _ A3.out).mono ?_);rintro e w26 ⟨rfl,hb⟩;refine ⟨_,rfl,?_⟩;replace BK231 := bb BK231 hb;replace HB := bs HB hb;(try clear hb);(try clear hb2);(try clear hk);(try clear hi)))
  go_ret
  exact ⟨by first | rfl | (simp [errW_none,errW_some] <;> rfl) | (simp [*,errW_none,errW_some] <;> rfl),rW HB⟩
end Go.Proofs.Ytbhfleilgjonpaa.XScalarComes
