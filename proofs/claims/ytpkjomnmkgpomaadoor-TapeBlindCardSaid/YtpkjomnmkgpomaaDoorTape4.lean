import Derived.Test.YtpkjomnmkgpomaaDoorRef06
import Derived.Test.YtpkjomnmkgpomaaDoorXArith
namespace Go.Proofs.YtpkjomnmkgpomaaDoor
open Go.RowKit Go.Extern.Stop Go.Stop Go.Extern Go.Proofs.YtpkjomnmkgpomaaDoorW.PrintWords Go.Proofs.YtpkjomnmkgpomaaDoorArith

set_option maxHeartbeats 4000000 in
theorem skip_bad (g : Nat) (l : List Int) (k : Nat) (n : Int) (w : World) {B : Nat} (h : TapeAt w g B l k) (hn : n < k ∨ n > l.length) :
    Calls Tryd.prog 16 #[.pointer (some ⟨g, 0, none⟩), .int .i64 n] w fun e w' => ∃ v, e = .returned v ∧ ErrV w' v (if n < k then 1 else 10) ∧ Below w.heap.size w w' := by
  have H := Aside0.mk h
  have HRC : Aside0 (readyC 0 (l.length - k) = 0) := ⟨by obtain ⟨_, _, _, h3, _⟩ := h; unfold readyC; rw [if_neg (by omega), if_neg (by omega)]⟩
  clear h
  by_cases h1 : n < k
  · rw [if_pos h1]; clear hn
    go_enter Tryd.func16, Tryd.ntmps16
    go_wp2_with (first | (go_at_call 21; refine (ready_any g l k 0 _ H.out).mono ?_; rintro e w1 ⟨v, rfl, hv, hb⟩; rw [HRC.out] at hv; obtain rfl := hv.code0; have HB := Aside0.mk hb; obtain ⟨vl, hh, hr, _⟩ := H.out.keep hb; obtain ⟨A, c, rfl, _⟩ := hr.reads; have c0 : w1.cell? ⟨g, 0, none⟩ = some (.slice A l.length c) := heap_cell hh; have c1 : w1.cell? ⟨g, 1, none⟩ = some (.int .i64 k) := heap_cell hh; clear hv hb hh hr) | (go_at_call 19; refine (new_err 1 _ _ (by decide)).mono ?_; rintro e w2 ⟨v2, rfl, hv, hb⟩; have HV := Aside0.mk hv; have HB2 := Aside0.mk hb; clear hv hb))
    go_ret
    exact ⟨_, rfl, HV.out, HB.out.trans (HB2.out.mono HB.out.size)⟩
  · have h2 : n > l.length := by omega
    rw [if_neg h1]; clear hn
    go_enter Tryd.func16, Tryd.ntmps16
    go_wp2_with (first | (go_at_call 21; refine (ready_any g l k 0 _ H.out).mono ?_; rintro e w1 ⟨v, rfl, hv, hb⟩; rw [HRC.out] at hv; obtain rfl := hv.code0; have HB := Aside0.mk hb; obtain ⟨vl, hh, hr, _⟩ := H.out.keep hb; obtain ⟨A, c, rfl, _⟩ := hr.reads; have c0 : w1.cell? ⟨g, 0, none⟩ = some (.slice A l.length c) := heap_cell hh; have c1 : w1.cell? ⟨g, 1, none⟩ = some (.int .i64 k) := heap_cell hh; clear hv hb hh hr) | (go_at_call 19; refine (new_err 10 _ _ (by decide)).mono ?_; rintro e w2 ⟨v2, rfl, hv, hb⟩; have HV := Aside0.mk hv; have HB2 := Aside0.mk hb; clear hv hb))
    go_ret
    exact ⟨_, rfl, HV.out, HB.out.trans (HB2.out.mono HB.out.size)⟩
set_option maxHeartbeats 4000000 in
theorem skip_ok (g : Nat) (l : List Int) (k n : Nat) (w : World) {B : Nat} (h : TapeAt w g B l k) (h1 : k ≤ n) (h2 : n ≤ l.length) :
    Calls Tryd.prog 16 #[.pointer (some ⟨g, 0, none⟩), .int .i64 n] w fun e w' => e = .returned .nilIface ∧ TapeAt w' g B l n ∧ w.grownBy w' (some g) := by
  have H := Aside0.mk h
  have HRC : Aside0 (readyC 0 (l.length - k) = 0) := ⟨by obtain ⟨_, _, _, h3, _⟩ := h; unfold readyC; rw [if_neg (by omega), if_neg (by omega)]⟩
  clear h
  go_enter Tryd.func16, Tryd.ntmps16
  go_wp2_with (first | (go_at_call 21; refine (ready_any g l k 0 _ H.out).mono ?_; rintro e w1 ⟨v, rfl, hv, hb⟩; rw [HRC.out] at hv; obtain rfl := hv.code0; have HB := Aside0.mk hb; have HT := Aside0.mk (H.out.keep hb); obtain ⟨vl, hh, hr, _⟩ := H.out.keep hb; obtain ⟨A, c, rfl, _⟩ := hr.reads; have c0 : w1.cell? ⟨g, 0, none⟩ = some (.slice A l.length c) := heap_cell hh; have c1 : w1.cell? ⟨g, 1, none⟩ = some (.int .i64 k) := heap_cell hh; have c3 : w1.frozen? ⟨g, 1, none⟩ = false := heap_free hh; clear hv hb hh hr))
  go_ret
  have gs := grown_set w1 ⟨g, 1, none⟩ (.int .i64 (n : Int))
  obtain ⟨vl, hh, hr, _, hm, hlow⟩ := HT.out
  exact ⟨rfl, ⟨vl, (heap_set hh).trans (by simp), hr.kept gs HT.out.row (by decide), h2, hm, hlow⟩, (grown_of_below HB.out _).trans gs⟩

/-- A list of which the first ones are turned. -/
def mix (f : Int → Int) (xs : List Int) (i : Nat) : List Int := (xs.take i).map f ++ xs.drop i
theorem mix_zero (f : Int → Int) (xs : List Int) : mix f xs 0 = xs := by simp [mix]
theorem mix_end (f : Int → Int) (xs : List Int) (i : Nat) (h : xs.length ≤ i) : mix f xs i = xs.map f := by simp [mix, List.take_of_length_le h, List.drop_eq_nil_of_le h]
theorem mix_length (f : Int → Int) (xs : List Int) (i : Nat) : (mix f xs i).length = xs.length := by simp [mix]; omega
theorem mix_getD (f : Int → Int) (xs : List Int) (i : Nat) : (mix f xs i).getD i 0 = xs.getD i 0 := by
  unfold mix
  by_cases h : i < xs.length
  · rw [List.getD_eq_getElem?_getD, List.getElem?_append_right (by simp; omega)]
    simp [List.getD_eq_getElem?_getD, List.length_take, Nat.min_eq_left (Nat.le_of_lt h)]
  · rw [List.getD_eq_getElem?_getD, List.getD_eq_getElem?_getD, List.getElem?_eq_none (by simp; omega), List.getElem?_eq_none (by omega)]
theorem mix_set (f : Int → Int) (xs : List Int) (i : Nat) (h : i < xs.length) : (mix f xs i).set i (f (xs.getD i 0)) = mix f xs (i + 1) := by
  unfold mix
  rw [List.set_append_right _ _ (by simp; omega)]
  simp only [List.length_map, List.length_take, Nat.min_eq_left (Nat.le_of_lt h), Nat.sub_self]
  rw [List.drop_eq_getElem_cons h, List.set_cons_zero, List.take_succ_eq_append_getElem h, List.map_append, List.append_assoc]
  simp [List.getD_eq_getElem?_getD, List.getElem?_eq_getElem h]

/-- What 'Numbers' tells. -/
def numC (bits n rest : Int) : Int := if 1 ≤ bits ∧ bits ≤ 64 then readyC n rest else 11
set_option maxHeartbeats 4000000 in
theorem num_bad (g : Nat) (l : List Int) (k : Nat) (n b : Int) (w : World) {B : Nat} (h : TapeAt w g B l k) (hc : numC b n (l.length - k) ≠ 0) :
    Calls Tryd.prog 25 #[.pointer (some ⟨g, 0, none⟩), .int .i64 n, .int .i64 b] w fun e w' => ∃ v, e = .returned (.tuple #[.slice none 0 0, v]) ∧ ErrV w' v (numC b n (l.length - k)) ∧ Below w.heap.size w w' := by
  have H := Aside0.mk h; clear h
  unfold numC at hc ⊢
  by_cases h1 : 1 ≤ b ∧ b ≤ 64
  · rw [if_pos h1] at hc ⊢
    obtain ⟨h1, h2⟩ := h1
    have HC := Aside0.mk hc; clear hc
    go_enter Tryd.func25, Tryd.ntmps25
    go_wp2_with (first | (go_at_call 9; refine (take_bad g l k n _ H.out HC.out).mono ?_; rintro e w1 ⟨v, rfl, hv, hb⟩; obtain ⟨g1, rfl⟩ := (hv.zero.resolve_left fun h => HC.out h.2).2; have HV := Aside0.mk hv; have HB := Aside0.mk hb; clear hv hb) | (go_at_call 22; refine (wrap_err _ _ _ _ HV.out HC.out).mono ?_; rintro e w2 ⟨v2, rfl, hv2, hb2⟩; have HV2 := Aside0.mk hv2; have HB2 := Aside0.mk hb2; clear hv2 hb2))
    go_ret2
    exact ⟨_, rfl, HV2.out, HB.out.trans (HB2.out.mono HB.out.size)⟩
  · rw [if_neg h1]
    clear hc
    by_cases h2 : b < 1
    · clear h1
      go_enter Tryd.func25, Tryd.ntmps25
      go_wp2_with (go_at_call 19; refine (new_err 11 _ _ (by decide)).mono ?_; rintro e w2 ⟨v2, rfl, hv, hb⟩; have HV := Aside0.mk hv; have HB2 := Aside0.mk hb; clear hv hb)
      go_ret2
      exact ⟨_, rfl, HV.out, HB2.out⟩
    · have h3 : 64 < b := by omega
      clear h1
      go_enter Tryd.func25, Tryd.ntmps25
      go_wp2_with (go_at_call 19; refine (new_err 11 _ _ (by decide)).mono ?_; rintro e w2 ⟨v2, rfl, hv, hb⟩; have HV := Aside0.mk hv; have HB2 := Aside0.mk hb; clear hv hb)
      go_ret2
      exact ⟨_, rfl, HV.out, HB2.out⟩

theorem TapeAt.tight {w : World} {g B : Nat} {l : List Int} {k : Nat} (h : TapeAt w g B l k) : TapeAt w g (min B w.heap.size) l k := by
  obtain ⟨v, h1, h2, h3, h4, h5⟩ := h
  exact ⟨v, h1, h2, h3, h4, fun b e => by have := h5 b e; have := (World.ownsRow.lt h2 b e).2; omega⟩
theorem TapeAt.far' {w w' : World} {row : Option Nat} {g B : Nat} {l : List Int} {k : Nat} (h : TapeAt w g B l k) (hg : w.grownBy w' row) (hr : ∀ b, row = some b → B ≤ b) (hne : row ≠ some g) : TapeAt w' g B l k := by
  obtain ⟨v, h1, h2, h3, h4, h5⟩ := h
  refine ⟨v, (hg.block g (heap_lt h1) (fun e => hne e.symm)).trans h1, World.ownsRow.kept h2 hg ?_, h3, h4, h5⟩
  cases hv : v.ownBlock with
  | none => exact .inl rfl
  | some b => exact .inr (fun e => by have := hr b e.symm; have := h5 b hv; omega)
/-- Words. -/
def U64s (l : List Int) : Prop := ∀ x ∈ l, 0 ≤ x ∧ x ≤ 18446744073709551615
theorem U64s.getD {l : List Int} (h : U64s l) (i : Nat) : 0 ≤ l.getD i 0 ∧ l.getD i 0 ≤ 18446744073709551615 := by
  rw [List.getD_eq_getElem?_getD]
  by_cases hi : i < l.length
  · rw [List.getElem?_eq_getElem hi]; exact h _ (List.getElem_mem hi)
  · rw [List.getElem?_eq_none (by omega)]; simp
theorem U64s.cut {l : List Int} (h : U64s l) (k n : Nat) : U64s (cutOf l k n) := fun x hx => h x (List.mem_of_mem_take (List.mem_of_mem_drop hx))

theorem mask_shr (b : Nat) (h1 : 1 ≤ b) (h2 : b ≤ 64) : (18446744073709551615 : Int) / 2 ^ (64 - b) = ((2 ^ b - 1 : Nat) : Int) := by
  have e : (18446744073709551615 : Nat) / 2 ^ (64 - b) = 2 ^ b - 1 := by
    have hb : b = 1 ∨ b = 2 ∨ b = 3 ∨ b = 4 ∨ b = 5 ∨ b = 6 ∨ b = 7 ∨ b = 8 ∨ b = 9 ∨ b = 10 ∨ b = 11 ∨ b = 12 ∨ b = 13 ∨ b = 14 ∨ b = 15 ∨ b = 16 ∨ b = 17 ∨ b = 18 ∨ b = 19 ∨ b = 20 ∨ b = 21 ∨ b = 22 ∨ b = 23 ∨ b = 24 ∨ b = 25 ∨ b = 26 ∨ b = 27 ∨ b = 28 ∨ b = 29 ∨ b = 30 ∨ b = 31 ∨ b = 32 ∨ b = 33 ∨ b = 34 ∨ b = 35 ∨ b = 36 ∨ b = 37 ∨ b = 38 ∨ b = 39 ∨ b = 40 ∨ b = 41 ∨ b = 42 ∨ b = 43 ∨ b = 44 ∨ b = 45 ∨ b = 46 ∨ b = 47 ∨ b = 48 ∨ b = 49 ∨ b = 50 ∨ b = 51 ∨ b = 52 ∨ b = 53 ∨ b = 54 ∨ b = 55 ∨ b = 56 ∨ b = 57 ∨ b = 58 ∨ b = 59 ∨ b = 60 ∨ b = 61 ∨ b = 62 ∨ b = 63 ∨ b = 64 := by omega
    rcases hb with rfl | rfl | rfl | rfl | rfl | rfl | rfl | rfl | rfl | rfl | rfl | rfl | rfl | rfl | rfl | rfl | rfl | rfl | rfl | rfl | rfl | rfl | rfl | rfl | rfl | rfl | rfl | rfl | rfl | rfl | rfl | rfl | rfl | rfl | rfl | rfl | rfl | rfl | rfl | rfl | rfl | rfl | rfl | rfl | rfl | rfl | rfl | rfl | rfl | rfl | rfl | rfl | rfl | rfl | rfl | rfl | rfl | rfl | rfl | rfl | rfl | rfl | rfl | rfl <;> rfl
  have h := congrArg (fun n : Nat => (n : Int)) e
  simpa using h
set_option maxRecDepth 100000 in
set_option maxHeartbeats 4000000 in
theorem num_ok (g : Nat) (l : List Int) (k n b : Nat) (w : World) {B : Nat} (h : TapeAt w g B l k) (hn : k + n ≤ l.length) (h1 : 1 ≤ b) (h2 : b ≤ 64) (hu : U64s l) :
    Calls Tryd.prog 25 #[.pointer (some ⟨g, 0, none⟩), .int .i64 n, .int .i64 b] w fun e w' => ∃ v, e = .returned (.tuple #[v, .nilIface]) ∧ Row w' w.heap.size v ((cutOf l k n).map (cutW b)) ∧ TapeAt w' g B l (k + n) ∧ w.grownBy w' (some g) := by
  have H := Aside0.mk h.tight
  have q5 : (n : Int) ≤ 1048576 := by obtain ⟨_, _, _, _, hm, _⟩ := h; omega
  have hgl := h.lt; clear h
  have HU := Aside0.mk (hu.cut k n); clear hu
  have q1 : (1 : Int) ≤ b := by omega
  have q2 : (b : Int) ≤ 64 := by omega
  have HL := Aside0.mk (cutOf_length l k n hn)
  go_enter Tryd.func25, Tryd.ntmps25
  go_wp2_with (first | (go_at_call 9; refine (take_ok g l k n _ H.out hn).mono ?_; rintro e w1 ⟨v, rfl, hv, ht, hg⟩; obtain ⟨A, c, rfl, _⟩ := hv.reads; have hv' : w1.ownsRow w.heap.size 35 1 (.slice A (cutOf l k n).length c) (cutOf l k n).length (nums .u64 (cutOf l k n)) := hv; rw [HL.out] at hv'; have HV := Aside0.mk hv'; have HT := Aside0.mk ht; have HG := Aside0.mk hg; clear hv hv' ht hg))
  rw [HL.out]
  go_loopw [30] (fun i wr => ∃ j : Nat, j ≤ n ∧ i = .int .i64 j ∧ Aside0 (wr.ownsRow w.heap.size 35 1 (.slice A n c) n (nums .u64 (mix (cutW b) (cutOf l k n) j))) ∧ Aside0 (w1.grownBy wr (Value.slice A n c).ownBlock)) (fun i _ => n - (intOf i).toNat)
  case atStart => exact ⟨0, Nat.zero_le _, rfl, ⟨by rw [mix_zero]; exact HV.out⟩, ⟨World.grownBy.refl _ _⟩⟩
  case round =>
    obtain ⟨j, hj, rfl, HR, HGR⟩ := hrel
    by_cases hlt : j < n
    · obtain ⟨gv, cap, e, hg1, hg2⟩ := HR.out.form (by omega)
      injection e with e1 e2 e3
      subst e1; subst e3
      obtain ⟨hc, hz⟩ := own_at HR.out (j : Int) (by omega) (by omega)
      have hrd : rd (mix (cutW b) (cutOf l k n) j) (j : Int) = (cutOf l k n).getD j 0 := by unfold rd; rw [Int.toNat_natCast, mix_getD]
      rw [hrd] at hc
      simp only [Int.toNat_natCast] at hc hz
      have hx := HU.out.getD j
      have HS := Aside0.mk (own_store HR.out (j : Int) (cutW b ((cutOf l k n).getD j 0)))
      rw [Int.toNat_natCast, mix_set _ _ _ (by rw [HL.out]; exact hlt)] at HS
      have HM : Aside0 (cutW b ((cutOf l k n).getD j 0) = Go.bits .and .u64 ((cutOf l k n).getD j 0) ((2 ^ b - 1 : Nat) : Int)) := ⟨by
        rw [and_mask _ b ⟨hx.1, by omega⟩ h2]
        unfold cutW
        by_cases hb : b = 64
        · subst hb; rw [if_pos (by omega)]; exact (Int.emod_eq_of_lt hx.1 (by have := hx.2; rw [show ((2 ^ 64 : Nat) : Int) = 18446744073709551616 from rfl]; omega)).symm
        · rw [if_neg (by omega)]; simp⟩
      have hms : (18446744073709551615 : Int) / 2 ^ (64 - b) = ((2 ^ b - 1 : Nat) : Int) := mask_shr b h1 h2
      clear hrd hx
      generalize (cutOf l k n).getD j 0 = x at hc HS HM
      have q3 : (0 : Int) ≤ (j : Int) := by omega
      have q4 : (j : Int) < (n : Int) := by omega
      go_wp2
      go_roundw
      case rel => exact ⟨j + 1, by omega, by go_num, ⟨by rw [← HM.out]; exact HS.out.1⟩, ⟨HGR.out.trans (by rw [← HM.out]; exact HS.out.2)⟩⟩
      case measure => simp [intOf]; omega
    · go_wp2
      go_ret2
      obtain rfl : j = n := by omega
      have hr := HR.out
      rw [mix_end _ _ _ (Nat.le_of_eq HL.out)] at hr
      have hrow : ∀ b, (Value.slice A j c).ownBlock = some b → w.heap.size ≤ b := fun b e => (World.ownsRow.lt hr b e).1
      refine ⟨_, rfl, ?_, (HT.out.far' HGR.out (fun b e => Nat.le_trans (Nat.min_le_right _ _) (hrow b e)) (fun e => by have := hrow g e; omega)).up (Nat.min_le_left _ _), ?_⟩
      · show wr.ownsRow _ _ _ _ (((cutOf l k j).map (cutW b)).length) _
        rw [List.length_map, HL.out]; exact hr
      · exact ⟨HGR.out.os.trans HG.out.os, HGR.out.tape.trans HG.out.tape, HGR.out.output.trans HG.out.output, Nat.le_trans HG.out.size HGR.out.size, fun q hq hne => (HGR.out.block q (Nat.lt_of_lt_of_le hq HG.out.size) (fun e => by have := hrow q e.symm; omega)).trans (HG.out.block q hq hne)⟩
end Go.Proofs.YtpkjomnmkgpomaaDoor
