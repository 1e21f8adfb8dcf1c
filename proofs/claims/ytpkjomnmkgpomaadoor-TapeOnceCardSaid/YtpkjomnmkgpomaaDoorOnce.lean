import Derived.Test.YtpkjomnmkgpomaaDoorAwake06
namespace Go.Proofs.YtpkjomnmkgpomaaDoor
open Go.RowKit Go.Extern.Stop Go.Stop Go.Extern Go.Proofs.YtpkjomnmkgpomaaDoorW.PrintWords

theorem TapeAt.up {w : World} {g B B' : Nat} {l : List Int} {k : Nat} (h : TapeAt w g B l k) (hB : B ≤ B') : TapeAt w g B' l k := by
  obtain ⟨v, h1, h2, h3, h4, h5⟩ := h
  exact ⟨v, h1, h2, h3, h4, fun b e => Nat.lt_of_lt_of_le (h5 b e) hB⟩
theorem TapeAt.far {w w' : World} {row : Option Nat} {g B : Nat} {l : List Int} {k : Nat} (h : TapeAt w g B l k) (hg : w.grownBy w' row) (hr : ∀ b, row = some b → B ≤ b) (hgB : g < B) : TapeAt w' g B l k := by
  obtain ⟨v, h1, h2, h3, h4, h5⟩ := h
  refine ⟨v, (hg.block g (heap_lt h1) (fun e => ?_)).trans h1, World.ownsRow.kept h2 hg ?_, h3, h4, h5⟩
  · have := hr g e.symm; omega
  · cases hv : v.ownBlock with
    | none => exact .inl rfl
    | some b => exact .inr (fun e => by have := hr b e.symm; have := h5 b hv; omega)

/-- What a round of TapeOnce finds: so many words were read off 'a', none off 'b'; 'all' is what was read. -/
structure OnceAt (w wr : World) (ga gb B : Nat) (l : List Int) (v : Value) (k : Nat) : Prop where
  a : TapeAt wr ga B l k
  b : TapeAt wr gb B l 0
  all : Row wr B v (l.take k)
  below : Below w.heap.size w wr
  ha : ga < B
  hb : gb < B
  ne : ga ≠ gb
  wa : w.heap.size ≤ ga
  wb : w.heap.size ≤ gb
  base : w.heap.size ≤ B
  top : B ≤ wr.heap.size

theorem take_cut (l : List Int) (k m : Nat) : l.take k ++ cutOf l k m = l.take (k + m) := by
  unfold cutOf
  have h : l.take k = (l.take (k + m)).take k := by rw [List.take_take, Nat.min_eq_left (by omega)]
  rw [h, List.take_append_drop]
theorem drew_grown (w : World) (n : Nat) (row : Option Nat) : w.grownBy (w.drewN n) row := grown_of_below (pw_below_drewN (Below.refl _ _) n) row
theorem once_step {w wr w3 w4 : World} {ga gb B : Nat} {l : List Int} {v v1 : Value} {k m nq : Nat} (h : OnceAt w wr ga gb B l v k) (HT : TapeAt w3 ga B l (k + m)) (HG : wr.grownBy w3 (some ga))
    (hown : w4.ownsRow B 35 1 v1 (l.take k ++ cutOf l k m).length (nums .u64 (l.take k ++ cutOf l k m))) (hg : (w3.drewN nq).grownBy w4 v.ownBlock) : OnceAt w w4 ga gb B l v1 (k + m) := by
  have hv : ∀ b, v.ownBlock = some b → B ≤ b := fun b e => (World.ownsRow.lt h.all b e).1
  have hb3 : Below w.heap.size w w3 := h.below.grown HG h.below.size (by intro k e; injection e with e; rw [← e]; exact h.wa)
  have hb4 : Below w.heap.size w (w3.drewN nq) := pw_below_drewN hb3 nq
  have b1 : TapeAt w3 gb B l 0 := h.b.kept HG h.a.row (by decide) (fun e => h.ne (by injection e))
  rw [take_cut] at hown
  exact ⟨((HT.keep (pw_below_drewN (Below.refl _ _) nq)).far hg hv h.ha), ((b1.keep (pw_below_drewN (Below.refl _ _) nq)).far hg hv h.hb), hown, hb4.grown hg hb4.size (fun b e => Nat.le_trans h.base (hv b e)), h.ha, h.hb, h.ne, h.wa, h.wb, h.base, Nat.le_trans h.top (Nat.le_trans HG.size hg.size)⟩

set_option maxRecDepth 100000 in
set_option maxHeartbeats 8000000 in
theorem once_any (A A2 : Option Addr) (c c2 : Nat) (l p : List Int) (w : World) (hL : Laid0 w) (hl : ReadsInt w .u64 A l.length l) (hp : ReadsInt w .u8 A2 p.length p) (hx : ∀ x ∈ p, 0 ≤ x ∧ x ≤ 255) (b500 : l.length ≤ 500) (b60 : p.length ≤ 60) :
    Calls Tryd.prog 3 #[.slice A l.length c, .slice A2 p.length c2] w fun e w' => e = .returned (.bool true) ∧ Below w.heap.size w w' := by
  have HL := Aside0.mk hL; have HR := Aside0.mk hl; have HP := Aside0.mk hp; have HX := Aside0.mk hx; clear hL hl hp hx
  have q1 : (l.length : Int) ≤ 500 := by omega
  have q2 : (p.length : Int) ≤ 60 := by omega
  go_enter Tryd.func3, Tryd.ntmps3
  go_wp2_with (first
    | (go_at_call 8; refine (tnew_any A c l _ HR.out (by omega)).mono ?_; rintro e w1 ⟨ga, rfl, ht, hg, hb⟩; have HA := Aside0.mk ht; have G1 := Aside0.mk hg; have B1 := Aside0.mk hb; have HR1 := Aside0.mk (HR.out.below hb); clear ht hg hb HR)
    | (go_at_call 8; refine (tnew_any A c l _ HR1.out (by omega)).mono ?_; rintro e w2 ⟨gb, rfl, ht, hg, hb⟩; have HB := Aside0.mk ht; have G2 := Aside0.mk hg; have B2 := Aside0.mk hb; clear ht hg hb HR1))
  have O0 : OnceAt w w2 ga gb w2.heap.size l (.slice none 0 0) 0 := by
    have l1 := HA.out.lt
    have l2 := HB.out.lt
    exact ⟨(HA.out.keep B2.out).up B2.out.size, HB.out, own_nil _ _ _ _, B1.out.trans (B2.out.mono B1.out.size), Nat.lt_of_lt_of_le l1 B2.out.size, l2, by have := G2.out; omega, G1.out, Nat.le_trans B1.out.size G2.out, Nat.le_trans B1.out.size B2.out.size, Nat.le_refl _⟩
  have O0' := Aside0.mk O0
  clear O0 HA HB B1 B2 G1 G2
  go_loopw [9, 10] (fun v i wr => ∃ j k : Nat, j ≤ p.length ∧ i = .int .i64 j ∧ Aside0 (k ≤ l.length) ∧ Aside0 (OnceAt w wr ga gb w2.heap.size l v k)) (fun _ i _ => p.length - (intOf i).toNat)
  case atStart => exact ⟨0, 0, Nat.zero_le _, rfl, ⟨Nat.zero_le _⟩, O0'⟩
  case round =>
    obtain ⟨j, k, hj, rfl, HK, HO⟩ := hrel
    obtain ⟨Av, cv, rfl, _⟩ := HO.out.all.reads
    have hkl : (l.take k).length = k := by have := HK.out; rw [List.length_take]; omega
    by_cases hlt : j < p.length
    · obtain ⟨ad, rfl, hx⟩ := HP.out.at_ (j : Int) (by omega) (by omega)
      obtain ⟨y, hy, hy2⟩ : ∃ y : Nat, rd p (j : Int) = (y : Int) ∧ y ≤ 255 := by
        have hm : rd p (j : Int) ∈ p := by unfold rd; rw [Int.toNat_natCast, List.getD_eq_getElem?_getD, List.getElem?_eq_getElem hlt]; simp
        have := HX.out _ hm
        exact ⟨(rd p (j : Int)).toNat, by omega, by omega⟩
      rw [hy] at hx
      simp only [Int.toNat_natCast] at hx
      have hx0 := Aside0.mk hx
      replace hx := pw_cell_below HO.out.below hx
      have q3 : (0 : Int) ≤ (j : Int) := by omega
      have q4 : (j : Int) < (p.length : Int) := by omega
      rw [hkl] at HO
      rw [hkl]
      clear hy
      by_cases hf : k + y % 20 ≤ l.length
      · go_wp2_with (first
          | (go_at_call 9; refine (take_ok ga l k (y % 20) _ HO.out.a hf).mono ?_; rintro e w3 ⟨vp, rfl, hv, ht, hg⟩; obtain ⟨Ap, cp, rfl, hrp⟩ := hv.reads; have WB := Aside0.mk (HO.out.below.grown hg HO.out.below.size (by intro k e; injection e with e; rw [← e]; exact HO.out.wa)); have hx3 := pw_cell_below WB.out hx0.out; have HV := Aside0.mk hv; have HT := Aside0.mk ht; have HG := Aside0.mk hg; clear hv ht hg))
        have q5 : decide ((k : Int) + (y : Int) % 20 ≤ (l.length : Int)) = true := decide_eq_true (by omega)
        go_quiet (fail)
        go_wp2_with (at_builtin; refine print_append_row (w0 := w3.drewN nq) w2.heap.size rfl (.tmp 72) (.tmp 73) 22 35 .u64 8 rfl Tryd.underlying22 infoU64 (by decide) (.slice Av k cv) (l.take k) (cutOf l k (y % 20)) Ap _ cp rfl rfl ((HO.out.all.kept HG.out HO.out.a.row (by decide)).keep (pw_below_drewN (Below.refl _ _) nq)) (HV.out.int.below (pw_below_drewN (Below.refl _ _) nq)) (Below.refl _ _) (Nat.le_trans HO.out.top HG.out.size) (by rw [cutOf_length _ _ _ hf, hkl]; omega) ?_; intro v1 w4 hown hb hg hat; have OS := Aside0.mk (once_step HO.out HT.out HG.out hown hg); clear hown hb hg hat)
        go_roundw
        case rel => exact ⟨j + 1, k + y % 20, by omega, by go_num, ⟨hf⟩, OS⟩
        case measure => simp [intOf]; omega
      · have hrc : readyC ((y % 20 : Nat) : Int) (l.length - k) = 10 := by unfold readyC; have := HK.out; rw [if_neg (by omega), if_pos (by omega)]
        have HRC := Aside0.mk hrc; clear hrc
        have qk : (k : Int) ≤ 500 := by have := HK.out; omega
        go_wp2_with (first
          | (go_at_call 9; refine (take_bad ga l k (y % 20 : Nat) _ HO.out.a (by rw [HRC.out]; decide)).mono ?_; rintro e w3 ⟨ve, rfl, hv, hb⟩; rw [HRC.out] at hv; obtain ⟨ge, rfl⟩ := (hv.zero.resolve_left (fun h => absurd h.2 (by decide))).2; have WB := Aside0.mk (HO.out.below.trans (hb.mono HO.out.below.size)); have hx3 := pw_cell_below WB.out hx0.out; have HT := Aside0.mk (HO.out.a.keep hb); have HG := Aside0.mk (grown_of_below hb (some ga)); clear hv hb))
        have q5 : decide ((k : Int) + (y : Int) % 20 ≤ (l.length : Int)) = false := decide_eq_false (by omega)
        have hcz : cutOf l k 0 = [] := by have := cutOf_length l k 0 HK.out; exact List.eq_nil_of_length_eq_zero this
        have HCZ := Aside0.mk hcz; clear hcz
        go_quiet (fail)
        go_wp2_with (at_builtin; refine print_append_row (w0 := w3.drewN nq) w2.heap.size rfl (.tmp 72) (.tmp 73) 22 35 .u64 8 rfl Tryd.underlying22 infoU64 (by decide) (.slice Av k cv) (l.take k) (cutOf l k 0) none 0 0 rfl rfl ((HO.out.all.kept HG.out HO.out.a.row (by decide)).keep (pw_below_drewN (Below.refl _ _) nq)) (by rw [HCZ.out]; exact ⟨rfl, by omega, fun h => absurd h (by omega)⟩) (Below.refl _ _) (Nat.le_trans HO.out.top HG.out.size) (by rw [hkl]; omega) ?_; intro v1 w4 hown hb hg hat; have OS := Aside0.mk (once_step HO.out (m := 0) HT.out HG.out hown hg); clear hown hb hg hat)
        go_roundw
        case rel => exact ⟨j + 1, k, by omega, by go_num, HK, OS⟩
        case measure => simp [intOf]; omega
    · have hct : cutOf l 0 k = l.take k := by unfold cutOf; rw [Nat.zero_add, List.drop_zero]
      have HCT := Aside0.mk hct
      have hkk : 0 + k ≤ l.length := by have := HK.out; omega
      rw [hkl] at HO
      rw [hkl]
      have HKL := Aside0.mk hkl
      clear hct hkl
      go_wp2_with (first
        | (go_at_call 9; refine (take_ok gb l 0 k _ HO.out.b hkk).mono ?_; rintro e w3 ⟨vq, rfl, hv, ht, hg⟩; rw [HCT.out] at hv; rw [Nat.zero_add] at ht; obtain ⟨Aq, cq, rfl, _⟩ := hv.reads; have HV := Aside0.mk hv.int; rw [HKL.out] at HV; rw [HKL.out]; have WB := Aside0.mk (HO.out.below.grown hg HO.out.below.size (by intro k e; injection e with e; rw [← e]; exact HO.out.wb)); have HT := Aside0.mk ht; have HA := Aside0.mk (HO.out.a.kept hg HO.out.b.row (by decide) (fun e => HO.out.ne (by injection e with e; exact e.symm))); have HL3 := Aside0.mk (HO.out.all.kept hg HO.out.b.row (by decide)).int; rw [HKL.out] at HL3; clear hv ht hg)
        | (go_at_call 10; refine (nums_eqn Av Aq k cv cq (l.take k) _ HL3.out HV.out).mono ?_; rintro e w4 ⟨rfl, n4, rfl⟩; have D4 := Aside0.mk (pw_below_drewN (Below.refl w3.heap.size w3) n4); have HA4 := Aside0.mk (HA.out.keep D4.out); have HT4 := Aside0.mk (HT.out.keep D4.out))
        | (go_at_call 11; refine (at_any ga l k _ HA4.out).mono ?_; rintro e w5 ⟨rfl, rfl⟩)
        | (go_at_call 11; refine (at_any gb l k _ HT4.out).mono ?_; rintro e w5 ⟨rfl, rfl⟩)
        | (go_at_call 7; refine (awake_true _ ((HL.out.keep WB.out).keep D4.out)).mono ?_; rintro e w6 ⟨rfl, hb6⟩; have B6 := Aside0.mk hb6; clear hb6))
      go_ret
      exact ⟨rfl, (WB.out.trans (D4.out.mono WB.out.size)).trans (B6.out.mono (Nat.le_trans WB.out.size D4.out.size))⟩

set_option maxHeartbeats 4000000 in
theorem once_all (A A2 : Option Addr) (c c2 : Nat) (l p : List Int) (w : World) (hL : Laid0 w) (hl : ReadsInt w .u64 A l.length l) (hp : ReadsInt w .u8 A2 p.length p) (hx : ∀ x ∈ p, 0 ≤ x ∧ x ≤ 255) :
    Calls Tryd.prog 3 #[.slice A l.length c, .slice A2 p.length c2] w fun e w' => e = .returned (.bool true) ∧ Below w.heap.size w w' := by
  by_cases h1 : l.length ≤ 500
  · by_cases h2 : p.length ≤ 60
    · exact once_any A A2 c c2 l p w hL hl hp hx h1 h2
    · have q1 : (l.length : Int) ≤ 500 := by omega
      have q2 : (60 : Int) < (p.length : Int) := by omega
      have HL := Aside0.mk hL; clear hL hl hp hx h1 h2
      go_enter Tryd.func3, Tryd.ntmps3
      go_wp2_with (go_at_call 7; refine (awake_true _ HL.out).mono ?_; rintro e w1 ⟨rfl, hb⟩; have HB := Aside0.mk hb; clear hb)
      go_ret
      exact ⟨rfl, HB.out⟩
  · have q1 : (500 : Int) < (l.length : Int) := by omega
    have HL := Aside0.mk hL; clear hL hl hp hx h1
    go_enter Tryd.func3, Tryd.ntmps3
    go_wp2_with (go_at_call 7; refine (awake_true _ HL.out).mono ?_; rintro e w1 ⟨rfl, hb⟩; have HB := Aside0.mk hb; clear hb)
    go_ret
    exact ⟨rfl, HB.out⟩
end Go.Proofs.YtpkjomnmkgpomaaDoor
