import Derived.Test.YtpkjomnmkgpomaaDoorAwake06
import Derived.Test.YtpkjomnmkgpomaaDoorNoTape
import Derived.Test.YtpkjomnmkgpomaaDoorWGuard
namespace Go.Proofs.YtpkjomnmkgpomaaDoor
open Go.RowKit Go.Extern.Stop Go.Stop Go.Extern Go.Proofs.YtpkjomnmkgpomaaDoorW.PrintWords

theorem zeros_same : ∀ w, (binOp .neq 42 (.agg zeros32) (.agg zeros32)).run Tryd.prog w = .ok (.bool false) w := fun _ => by kernel_rfl
set_option maxRecDepth 100000 in
set_option maxHeartbeats 8000000 in
theorem apart_any (A : Option Addr) (c : Nat) (l : List Int) (n : Int) (w : World) (hL : Laid0 w) (hl : ReadsInt w .u64 A l.length l) (b500 : l.length ≤ 500) :
    Calls Tryd.prog 4 #[.slice A l.length c, .int .i64 n] w fun e w' => e = .returned (.bool true) ∧ Below w.heap.size w w' := by
  have HL := Aside0.mk hL; have HR := Aside0.mk hl; clear hL hl
  have q1 : (l.length : Int) ≤ 500 := by omega
  have B1 : Aside0 (Below w.heap.size w (w.alloc (.cells #[] 35))) := ⟨(Below.refl _ _).alloc (Nat.le_refl _) _⟩
  have HE : Aside0 ((w.alloc (.cells #[] 35)).ownsRow w.heap.size 35 1 (.slice (some ⟨w.heap.size, 0, none⟩) 0 0) ([] : List Int).length (nums .u64 [])) := ⟨World.ownsRow_made w #[] 0 (Nat.le_refl _) (by simp [maxLen]) rfl⟩
  go_enter Tryd.func4, Tryd.ntmps4
  go_wp2_with (first
    | (at_builtin; refine print_append_row (w0 := w) w.heap.size rfl (.tmp 25) (.tmp 26) 22 35 .u64 8 rfl Tryd.underlying22 infoU64 (by decide) (.slice (some ⟨w.heap.size, 0, none⟩) 0 0) [] l A _ c rfl rfl HE.out (HR.out.below B1.out) B1.out B1.out.size (by simp; omega) ?_; intro v1 w1 hown hb hg hat; have hown' : Row w1 w.heap.size v1 l := hown; obtain ⟨Av, cv, rfl, hv⟩ := hown'.reads; have HV := Aside0.mk hown'; have HVR := Aside0.mk hv; have BW := Aside0.mk hb; clear hown hown' hb hg hat hv)
    | (go_at_call 8; refine (tnew_far Av cv l _ HVR.out (by omega)).mono ?_; rintro e w2 ⟨g, rfl, ht, hg, hb, hk⟩; have HK := Aside0.mk hk; have HG := Aside0.mk hg; have HB := Aside0.mk hb; have HV2 := Aside0.mk (HV.out.keep hb); clear ht hg hb hk))
  go_loopw [8] (fun i wr => ∃ j : Nat, ∃ xs : List Int, j ≤ l.length ∧ i = .int .i64 j ∧ Aside0 (xs.length = l.length) ∧ Aside0 (wr.ownsRow w.heap.size 35 1 (.slice Av l.length cv) l.length (nums .u64 xs)) ∧ Aside0 (w2.grownBy wr (Value.slice Av l.length cv).ownBlock)) (fun i _ => l.length - (intOf i).toNat)
  case atStart => exact ⟨0, l, Nat.zero_le _, rfl, ⟨rfl⟩, HV2, ⟨World.grownBy.refl _ _⟩⟩
  case round =>
    obtain ⟨j, xs, hj, rfl, HX, HO, HGR⟩ := hrel
    by_cases hlt : j < l.length
    · obtain ⟨gv, cap, e, hg1, hg2⟩ := HO.out.form (by omega)
      injection e with e1 e2 e3
      subst e1; subst e3
      obtain ⟨hc, hz⟩ := own_at HO.out (j : Int) (by omega) (by omega)
      have HS := Aside0.mk (own_store HO.out (j : Int) 7)
      simp only [Int.toNat_natCast] at hc hz HS
      have q3 : (0 : Int) ≤ (j : Int) := by omega
      have q4 : (j : Int) < (l.length : Int) := by omega
      go_wp2
      go_roundw
      case rel => exact ⟨j + 1, xs.set j 7, by omega, by go_num, ⟨by rw [List.length_set]; exact HX.out⟩, ⟨HS.out.1⟩, ⟨HGR.out.trans HS.out.2⟩⟩
      case measure => simp [intOf]; omega
    · have hrow : ∀ b, (Value.slice Av l.length cv).ownBlock = some b → b < w1.heap.size := fun b e => (World.ownsRow.lt HV.out b e).2
      have hrow' : ∀ b, (Value.slice Av l.length cv).ownBlock = some b → w.heap.size ≤ b := fun b e => (World.ownsRow.lt HV.out b e).1
      have HT := Aside0.mk (HK.out wr _ HGR.out hrow)
      have BR := Aside0.mk ((BW.out.trans (HB.out.mono BW.out.size)).grown HGR.out (Nat.le_trans BW.out.size HB.out.size) hrow')
      have HG' : Aside0 (w.heap.size ≤ g) := ⟨Nat.le_trans BW.out.size HG.out⟩
      have HCT : Aside0 (cutOf l 0 l.length = l) := ⟨by unfold cutOf; rw [Nat.zero_add, List.drop_zero, List.take_length]⟩
      clear hrow hrow' HK HGR HO
      go_wp2_with (first
        | (go_at_call 9; refine (take_ok g l 0 l.length _ HT.out (by omega)).mono ?_; rintro e w3 ⟨vq, rfl, hv, ht, hg⟩; rw [HCT.out] at hv; obtain ⟨Aq, cq, rfl, hq⟩ := hv.reads; have HQ := Aside0.mk hq; have B3 := Aside0.mk (BR.out.grown hg BR.out.size (by intro k e; injection e with e; rw [← e]; exact HG'.out)); clear hv ht hg hq HT)
        | (go_at_call 10; refine (nums_eq Aq A cq c l _ HQ.out (HR.out.below B3.out)).mono ?_; rintro e w4 ⟨rfl, n4, rfl⟩; have B4 := Aside0.mk (pw_below_drewN B3.out n4)))
      have BS := Aside0.mk (below_alloc (below_alloc B4.out (.cells #[.slice none 0 0, .int .i64 0, .bool false] 37)) (.cells #[.pointer none, .pointer (some ⟨w3.heap.size, 0, none⟩)] 25))
      have s1 := heap_alloc_new ((w3.drewN n4).alloc (.cells #[.slice none 0 0, .int .i64 0, .bool false] 37)) (.cells #[.pointer none, .pointer (some ⟨w3.heap.size, 0, none⟩)] 25)
      have s2 : (((w3.drewN n4).alloc (.cells #[.slice none 0 0, .int .i64 0, .bool false] 37)).alloc (.cells #[.pointer none, .pointer (some ⟨w3.heap.size, 0, none⟩)] 25)).heap[w3.heap.size]? = some (.cells #[.slice none 0 0, .int .i64 0, .bool false] 37 (0, 0)) := by
        rw [heap_alloc_old _ _ (by simp)]; exact heap_alloc_new (w3.drewN n4) _
      have s1' : (((w3.drewN n4).alloc (.cells #[.slice none 0 0, .int .i64 0, .bool false] 37)).alloc (.cells #[.pointer none, .pointer (some ⟨w3.heap.size, 0, none⟩)] 25)).heap[w3.heap.size + 1]? = some (.cells #[.pointer none, .pointer (some ⟨w3.heap.size, 0, none⟩)] 25 (0, 0)) := by simpa using s1
      generalize ((w3.drewN n4).alloc (.cells #[.slice none 0 0, .int .i64 0, .bool false] 37)).alloc (.cells #[.pointer none, .pointer (some ⟨w3.heap.size, 0, none⟩)] 25) = ws at BS s1' s2 ⊢
      have S1 := Aside0.mk s1'; have S2 := Aside0.mk s2
      clear s1 s2 s1'
      have zs := zeros_same
      go_loopw [65] (fun i wr => ∃ j : Nat, j ≤ 2 ∧ i = .int .i64 j ∧ Aside0 (Below ws.heap.size ws wr)) (fun i _ => 2 - (intOf i).toNat)
      case atStart => exact ⟨0, by omega, rfl, ⟨Below.refl _ _⟩⟩
      case round =>
        obtain ⟨j, hj, rfl, HJ⟩ := hrel
        by_cases hlt : j < 2
        · have hd := (HJ.out.block _ (heap_lt S1.out)).trans S1.out
          have ⟨x, hx, hn⟩ : ∃ x, wr.cell? ⟨w3.heap.size + 1, j, none⟩ = some x ∧ NoTape wr x := by
            rcases (by omega : j = 0 ∨ j = 1) with rfl | rfl
            · exact ⟨_, heap_cell hd, .inl rfl⟩
            · exact ⟨_, heap_cell hd, NoTape.keep (.inr ⟨_, rfl, S2.out⟩) HJ.out⟩
          have NT := Aside0.mk hn
          have LL := Aside0.mk ((HL.out.keep BS.out).keep HJ.out)
          have BC := HJ
          have q3 : (0 : Int) ≤ (j : Int) := by omega
          have q4 : (j : Int) < 2 := by omega
          clear hd hn
          go_wp2_with (first
            | (go_at_call 9; refine (take_no x n _ NT.out).mono ?_; rintro e w5 ⟨v1, rfl, hv, hb⟩; have E1 := Aside0.mk hv; clear hv; replace NT := Aside0.mk (NT.out.keep hb); replace LL := Aside0.mk (LL.out.keep hb); replace BC := Aside0.mk (BC.out.trans (hb.mono BC.out.size)); clear hb)
            | (go_at_call 12; refine (next_no x _ NT.out).mono ?_; rintro e w6 ⟨v2, rfl, hv, hb⟩; have E2 := Aside0.mk hv; clear hv; replace NT := Aside0.mk (NT.out.keep hb); replace LL := Aside0.mk (LL.out.keep hb); replace E1 := Aside0.mk (E1.out.keep hb); replace BC := Aside0.mk (BC.out.trans (hb.mono BC.out.size)); clear hb)
            | (go_at_call 13; refine (seed_no x _ NT.out).mono ?_; rintro e w7 ⟨v3, rfl, hv, hb⟩; have E3 := Aside0.mk hv; clear hv; replace NT := Aside0.mk (NT.out.keep hb); replace LL := Aside0.mk (LL.out.keep hb); replace E1 := Aside0.mk (E1.out.keep hb); replace E2 := Aside0.mk (E2.out.keep hb); replace BC := Aside0.mk (BC.out.trans (hb.mono BC.out.size)); clear hb)
            | ((with_reducible refine gate_store (t := 42) (p := 17) rfl ?_); refine wpList_store_row rfl 42 (.tmp 17) (.tmp 83) rfl w7.heap.size zeros32 rfl rfl 42 zeros32 (heap_alloc_new w7 _) (by kernel_rfl) rfl zeros32_one ?_; rw [setRow_self _ _ _ _ _ (heap_alloc_new w7 _)]; have H17 := Aside0.mk (heap_alloc_new w7 (.cells zeros32 42)); have hb := below_alloc (Below.refl w7.heap.size w7) (.cells zeros32 42); replace NT := Aside0.mk (NT.out.keep hb); replace LL := Aside0.mk (LL.out.keep hb); replace E1 := Aside0.mk (E1.out.keep hb); replace E2 := Aside0.mk (E2.out.keep hb); replace E3 := Aside0.mk (E3.out.keep hb); replace BC := Aside0.mk (BC.out.trans (hb.mono BC.out.size)); clear hb)
            | (go_at_call 14; refine (bits_no x n _ NT.out).mono ?_; rintro e w8 ⟨v4, rfl, hv, hb⟩; have E4 := Aside0.mk hv; clear hv; replace H17 := Aside0.mk ((hb.block _ (heap_lt H17.out)).trans H17.out); replace NT := Aside0.mk (NT.out.keep hb); replace LL := Aside0.mk (LL.out.keep hb); replace E1 := Aside0.mk (E1.out.keep hb); replace E2 := Aside0.mk (E2.out.keep hb); replace E3 := Aside0.mk (E3.out.keep hb); replace BC := Aside0.mk (BC.out.trans (hb.mono BC.out.size)); clear hb)
            | (go_at_call 15; (with_reducible refine (code_any v1 3 _ E1.out LL.out).mono ?_); rintro e w9 ⟨rfl, hb⟩; replace H17 := Aside0.mk ((hb.block _ (heap_lt H17.out)).trans H17.out); (try replace E5 := Aside0.mk (E5.out.keep hb)); replace NT := Aside0.mk (NT.out.keep hb); replace LL := Aside0.mk (LL.out.keep hb); replace E1 := Aside0.mk (E1.out.keep hb); replace E2 := Aside0.mk (E2.out.keep hb); replace E3 := Aside0.mk (E3.out.keep hb); replace E4 := Aside0.mk (E4.out.keep hb); replace BC := Aside0.mk (BC.out.trans (hb.mono BC.out.size)); clear hb)
            | (go_at_call 15; (with_reducible refine (code_any v2 3 _ E2.out LL.out).mono ?_); rintro e w9 ⟨rfl, hb⟩; replace H17 := Aside0.mk ((hb.block _ (heap_lt H17.out)).trans H17.out); (try replace E5 := Aside0.mk (E5.out.keep hb)); replace NT := Aside0.mk (NT.out.keep hb); replace LL := Aside0.mk (LL.out.keep hb); replace E1 := Aside0.mk (E1.out.keep hb); replace E2 := Aside0.mk (E2.out.keep hb); replace E3 := Aside0.mk (E3.out.keep hb); replace E4 := Aside0.mk (E4.out.keep hb); replace BC := Aside0.mk (BC.out.trans (hb.mono BC.out.size)); clear hb)
            | (go_at_call 15; (with_reducible refine (code_any v3 3 _ E3.out LL.out).mono ?_); rintro e w9 ⟨rfl, hb⟩; replace H17 := Aside0.mk ((hb.block _ (heap_lt H17.out)).trans H17.out); (try replace E5 := Aside0.mk (E5.out.keep hb)); replace NT := Aside0.mk (NT.out.keep hb); replace LL := Aside0.mk (LL.out.keep hb); replace E1 := Aside0.mk (E1.out.keep hb); replace E2 := Aside0.mk (E2.out.keep hb); replace E3 := Aside0.mk (E3.out.keep hb); replace E4 := Aside0.mk (E4.out.keep hb); replace BC := Aside0.mk (BC.out.trans (hb.mono BC.out.size)); clear hb)
            | (go_at_call 15; (with_reducible refine (code_any v4 3 _ E4.out LL.out).mono ?_); rintro e w9 ⟨rfl, hb⟩; replace H17 := Aside0.mk ((hb.block _ (heap_lt H17.out)).trans H17.out); (try replace E5 := Aside0.mk (E5.out.keep hb)); replace NT := Aside0.mk (NT.out.keep hb); replace LL := Aside0.mk (LL.out.keep hb); replace E1 := Aside0.mk (E1.out.keep hb); replace E2 := Aside0.mk (E2.out.keep hb); replace E3 := Aside0.mk (E3.out.keep hb); replace E4 := Aside0.mk (E4.out.keep hb); replace BC := Aside0.mk (BC.out.trans (hb.mono BC.out.size)); clear hb)
            | (go_at_call 15; (with_reducible refine (code_any v5 3 _ E5.out LL.out).mono ?_); rintro e w9 ⟨rfl, hb⟩; replace H17 := Aside0.mk ((hb.block _ (heap_lt H17.out)).trans H17.out); (try replace E5 := Aside0.mk (E5.out.keep hb)); replace NT := Aside0.mk (NT.out.keep hb); replace LL := Aside0.mk (LL.out.keep hb); replace E1 := Aside0.mk (E1.out.keep hb); replace E2 := Aside0.mk (E2.out.keep hb); replace E3 := Aside0.mk (E3.out.keep hb); replace E4 := Aside0.mk (E4.out.keep hb); replace BC := Aside0.mk (BC.out.trans (hb.mono BC.out.size)); clear hb)
            | ((with_reducible refine gate_dst (N := 109) rfl ?_); (refine gate_guard (by rfl) ?_; dsimp only); refine wpList_load_row rfl 42 (.tmp 17) rfl w7.heap.size rfl 42 zeros32 (0, 0) _ H17.out Tryd.underlying42 rfl (by kernel_rfl) ?_)
            | (go_at_call 16; refine (skip_no x n _ NT.out).mono ?_; rintro e w8 ⟨v5, rfl, hv, hb⟩; have E5 := Aside0.mk hv; clear hv; replace H17 := Aside0.mk ((hb.block _ (heap_lt H17.out)).trans H17.out); replace NT := Aside0.mk (NT.out.keep hb); replace LL := Aside0.mk (LL.out.keep hb); replace E1 := Aside0.mk (E1.out.keep hb); replace E2 := Aside0.mk (E2.out.keep hb); replace E3 := Aside0.mk (E3.out.keep hb); replace E4 := Aside0.mk (E4.out.keep hb); replace BC := Aside0.mk (BC.out.trans (hb.mono BC.out.size)); clear hb)
            | (go_at_call 11; refine (at_no x _ NT.out).mono ?_; rintro e w10 ⟨rfl, rfl⟩)
            | (go_at_call 17; refine (left_no x _ NT.out).mono ?_; rintro e w10 ⟨rfl, nl, rfl⟩; replace BC := Aside0.mk (pw_below_drewN BC.out nl)))
          go_roundw
          case rel => exact ⟨j + 1, by omega, by go_num, BC⟩
          case measure => simp [intOf]; omega
        · go_wp2_with (go_at_call 7; refine (awake_true _ ((HL.out.keep BS.out).keep HJ.out)).mono ?_; rintro e w6 ⟨rfl, hb6⟩; have B6 := Aside0.mk hb6; clear hb6)
          go_ret
          exact ⟨rfl, (BS.out.trans (HJ.out.mono BS.out.size)).trans (B6.out.mono (Nat.le_trans BS.out.size HJ.out.size))⟩
set_option maxHeartbeats 4000000 in
theorem apart_all (A : Option Addr) (c : Nat) (l : List Int) (n : Int) (w : World) (hL : Laid0 w) (hl : ReadsInt w .u64 A l.length l) :
    Calls Tryd.prog 4 #[.slice A l.length c, .int .i64 n] w fun e w' => e = .returned (.bool true) ∧ Below w.heap.size w w' := by
  by_cases h1 : l.length ≤ 500
  · exact apart_any A c l n w hL hl h1
  · have q1 : (500 : Int) < (l.length : Int) := by omega
    have HL := Aside0.mk hL; clear hL hl h1
    go_enter Tryd.func4, Tryd.ntmps4
    go_wp2_with (go_at_call 7; refine (awake_true _ HL.out).mono ?_; rintro e w1 ⟨rfl, hb⟩; have HB := Aside0.mk hb; clear hb)
    go_ret
    exact ⟨rfl, HB.out⟩
end Go.Proofs.YtpkjomnmkgpomaaDoor
