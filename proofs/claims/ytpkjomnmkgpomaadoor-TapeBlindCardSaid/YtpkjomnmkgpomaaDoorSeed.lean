import Derived.Test.YtpkjomnmkgpomaaDoorTape5
import Derived.Test.YtpkjomnmkgpomaaDoorNoTape
import Derived.Stop.BytesEq
namespace Go.Proofs.YtpkjomnmkgpomaaDoor
open Go.RowKit Go.Extern.Stop Go.Stop Go.Extern Go.Proofs.YtpkjomnmkgpomaaDoorW.PrintWords Go.Proofs.YtpkjomnmkgpomaaDoorArith

set_option maxHeartbeats 4000000 in
theorem seed_bad (g : Nat) (l : List Int) (k : Nat) (w : World) {B : Nat} (h : TapeAt w g B l k) (hc : readyC 4 (l.length - k) ≠ 0) :
    Calls Tryd.prog 13 #[.pointer (some ⟨g, 0, none⟩)] w fun e w' => ∃ v, e = .returned (.tuple #[.agg zeros32, v]) ∧ ErrV w' v (readyC 4 (l.length - k)) ∧ Below w.heap.size w w' := by
  have H := Aside0.mk h; have HC := Aside0.mk hc; clear h hc
  go_enter Tryd.func13, Tryd.ntmps13
  go_wp2_with (first | (go_at_call 9; refine (take_bad g l k 4 _ (H.out.keep ((Below.refl _ _).alloc (Nat.le_refl _) _)) HC.out).mono ?_; rintro e w1 ⟨v, rfl, hv, hb⟩; obtain ⟨g1, rfl⟩ := (hv.zero.resolve_left fun h => HC.out h.2).2; have HV := Aside0.mk hv; have HB := Aside0.mk hb; clear hv hb) | (go_at_call 22; refine (wrap_err _ _ _ _ HV.out HC.out).mono ?_; rintro e w2 ⟨v2, rfl, hv2, hb2⟩; have HV2 := Aside0.mk hv2; have HB2 := Aside0.mk (HB.out.trans (hb2.mono HB.out.size)); have HH2 : Aside0 (w2.heap[w.heap.size]? = some (.cells zeros32 42 (0, 0))) := Aside0.mk ((HB2.out.block w.heap.size (by simp)).trans (heap_alloc_new w _)); clear hv2 hb2) | (refine wpList_store_row rfl 42 (.tmp 2) (.tmp 15) rfl w.heap.size zeros32 rfl rfl 42 zeros32 HH2.out (by kernel_rfl) rfl zeros32_one ?_; rw [setRow_self _ _ _ _ _ HH2.out]))
  have hl := run_loadVar_row (P := Tryd.prog) w2 w.heap.size 42 42 zeros32 (0, 0) _ HH2.out Tryd.underlying42 rfl (by kernel_rfl)
  exact bodyPost_ret (v := .tuple #[.agg zeros32, v2]) (by simp [results, Tryd.results13, asAddr, hl]) rfl ⟨v2, rfl, HV2.out, ((Below.refl _ _).alloc (Nat.le_refl _) _).trans (HB2.out.mono (by simp))⟩

/-- A seed's byte. -/
def seedF (l : List Int) (i : Nat) : Int := l.getD (i / 8) 0 / 2 ^ (8 * (i % 8)) % 256
def seedL (l : List Int) (j : Nat) : List Value := (List.range 32).map fun i => Value.int .u8 (if i < j then seedF l i else 0)
theorem seedL_length (l : List Int) (j : Nat) : (seedL l j).length = 32 := by simp [seedL]
theorem seedL_zero (l : List Int) : (seedL l 0).toArray = zeros32 := by simp [seedL]; rfl
theorem seedL_get (l : List Int) (j i : Nat) (h : i < 32) : (seedL l j).toArray[i]? = some (.int .u8 (if i < j then seedF l i else 0)) := by simp [seedL, h]
theorem seedL_set (l : List Int) (j : Nat) : (seedL l j).toArray.setIfInBounds j (.int .u8 (seedF l j)) = (seedL l (j + 1)).toArray := by
  rw [List.setIfInBounds_toArray]
  congr 1
  apply List.ext_getElem?
  intro i
  rw [List.getElem?_set]
  by_cases hi : i < 32
  · by_cases e : j = i
    · subst e
      rw [if_pos rfl, if_pos (by rw [seedL_length]; exact hi)]
      simp [seedL, hi]
    · rw [if_neg e]
      simp only [seedL, List.getElem?_map, List.getElem?_range hi, Option.map_some]
      congr 2
      by_cases h : i < j
      · rw [if_pos h, if_pos (by omega)]
      · rw [if_neg h, if_neg (by omega)]
  · rw [List.getElem?_eq_none (by rw [seedL_length]; omega), List.getElem?_eq_none (by rw [seedL_length]; omega)]
    split
    · rw [if_neg (by rw [seedL_length]; omega)]
    · rfl
theorem seedL_ones (l : List Int) (j : Nat) : ∀ v ∈ seedL l j, v.oneCell' = true := by intro v hv; simp only [seedL, List.mem_map] at hv; obtain ⟨i, _, rfl⟩ := hv; rfl
theorem seedL_one (l : List Int) (j : Nat) : (seedL l j).toArray.all (fun x => x.oneCell') = true := by simp [seedL, Value.oneCell']

set_option maxRecDepth 100000 in
set_option maxHeartbeats 4000000 in
theorem seed_ok (g : Nat) (l : List Int) (k : Nat) (w : World) {B : Nat} (h : TapeAt w g B l k) (hn : k + 4 ≤ l.length) (hu : U64s l) :
    Calls Tryd.prog 13 #[.pointer (some ⟨g, 0, none⟩)] w fun e w' => e = .returned (.tuple #[.agg (seedL (cutOf l k 4) 32).toArray, .nilIface]) ∧ TapeAt w' g B l (k + 4) ∧ w.grownBy w' (some g) := by
  have H := Aside0.mk h
  have hgl := h.lt; clear h
  have HU := Aside0.mk (hu.cut k 4); clear hu
  have HL := Aside0.mk (cutOf_length l k 4 hn)
  go_enter Tryd.func13, Tryd.ntmps13
  go_wp2_with (first | (go_at_call 9; refine (take_ok g l k 4 _ (H.out.keep ((Below.refl _ _).alloc (Nat.le_refl _) _)) hn).mono ?_; rintro e w1 ⟨v, rfl, hv, ht, hg⟩; obtain ⟨A, c, rfl, hr⟩ := hv.reads; rw [HL.out] at hr; rw [HL.out]; have HR := Aside0.mk hr; have HT := Aside0.mk ht; have HG := Aside0.mk hg; clear hv hr ht hg))
  go_loopw [18, 7] (fun i s7 wr => ∃ j : Nat, j ≤ 32 ∧ i = .int .i64 j ∧ Aside0 (wr.heap[w1.heap.size]? = some (.cells (seedL (cutOf l k 4) j).toArray 42 (0, 0))) ∧ Aside0 (Below w1.heap.size w1 wr)) (fun i _ _ => 32 - (intOf i).toNat)
  case atStart => exact ⟨0, Nat.zero_le _, rfl, ⟨by rw [seedL_zero]; exact heap_alloc_new w1 _⟩, ⟨below_alloc (Below.refl _ _) _⟩⟩
  case round =>
    obtain ⟨j, hj, rfl, HO, HB⟩ := hrel
    by_cases hlt : j < 32
    · have hj8 : j / 8 < 4 := by omega
      obtain ⟨ad, rfl, hx⟩ := (HR.out.below HB.out).at_ ((j / 8 : Nat) : Int) (by omega) (by omega)
      have hrd : rd (cutOf l k 4) ((j / 8 : Nat) : Int) = (cutOf l k 4).getD (j / 8) 0 := by unfold rd; rw [Int.toNat_natCast]
      rw [hrd, Int.toNat_natCast] at hx
      have hc := (heap_cell (i := j) HO.out).trans (seedL_get _ j j hlt)
      have hz : wr.frozen? ⟨w1.heap.size, j, none⟩ = false := heap_free HO.out
      have HS := Aside0.mk ((heap_set (i := j) (v := .int .u8 (seedF (cutOf l k 4) j)) HO.out).trans (by rw [seedL_set]))
      have hu := HU.out.getD (j / 8)
      have q3 : (0 : Int) ≤ (j : Int) := by omega
      have q4 : (j : Int) < 32 := by omega
      have q6 : (j : Int) / 8 < 4 := by omega
      have q7 : ((j : Int) / 8).toNat = j / 8 := by omega
      unfold seedF at HS
      clear hrd
      generalize (cutOf l k 4).getD (j / 8) 0 = x at hx HS hu
      go_wp2
      go_roundw
      case rel => exact ⟨j + 1, by omega, by go_num, HS, ⟨HB.out.setCell (Nat.le_refl _) _⟩⟩
      case measure => simp [intOf]; omega
    · obtain rfl : j = 32 := by omega
      have hz1 : (w.alloc (.cells zeros32 42)).heap[w.heap.size]? = some (.cells zeros32 42 (0, 0)) := heap_alloc_new w _
      have hz2 := (HG.out.block w.heap.size (by simp) (by intro e; injection e with e; omega)).trans hz1
      have HZ := Aside0.mk ((HB.out.block w.heap.size (heap_lt hz2)).trans hz2)
      have HI : Aside0 ((Tryd.prog.info? 42).map (·.size) = some (seedL (cutOf l k 4) 32).toArray.size) := ⟨by rw [List.size_toArray, seedL_length]; kernel_rfl⟩
      have HS1 : Aside0 (zeros32.size = (seedL (cutOf l k 4) 32).toArray.size) := ⟨by have h : (seedL (cutOf l k 4) 32).toArray.size = 32 := (by rw [List.size_toArray, seedL_length]); rw [h]; rfl⟩
      clear hz1 hz2
      go_wp2_with (first
        | ((with_reducible refine gate_dst (N := 35) rfl ?_); refine wpList_load_row rfl 42 (.tmp 6) rfl w1.heap.size rfl 42 (seedL (cutOf l k 4) 32).toArray (0, 0) _ HO.out Tryd.underlying42 rfl HI.out ?_)
        | ((with_reducible refine gate_store (t := 42) (p := 2) rfl ?_); refine wpList_store_row rfl 42 (.tmp 2) (.tmp 35) rfl w.heap.size (seedL (cutOf l k 4) 32).toArray rfl rfl 42 zeros32 HZ.out HI.out HS1.out (seedL_one _ _) ?_))
      have hl := run_loadVar_row (P := Tryd.prog) (wr.setRow w.heap.size (seedL (cutOf l k 4) 32).toArray) w.heap.size 42 42 (seedL (cutOf l k 4) 32).toArray (0, 0) _ (setRow_heap wr w.heap.size zeros32 _ 42 (0, 0) HZ.out) Tryd.underlying42 rfl HI.out
      have g1 : w.grownBy wr (some g) := ((World.grownBy_alloc w _ _).trans HG.out).trans (grown_of_below HB.out _)
      refine bodyPost_ret (v := .tuple #[.agg (seedL (cutOf l k 4) 32).toArray, .nilIface]) (by simp [results, Tryd.results13, asAddr, hl]) rfl ⟨rfl, ?_, ?_⟩
      · have gr : wr.grownBy (wr.setRow w.heap.size (seedL (cutOf l k 4) 32).toArray) (some w.heap.size) := ⟨rfl, rfl, rfl, by simp, fun q _ hne => setRow_other wr w.heap.size q _ (fun e => hne (by rw [e]))⟩
        exact (HT.out.keep HB.out).kept gr (fun q e => by injection e with e; subst e; exact ⟨_, _, HZ.out⟩) (by decide) (fun e => by injection e with e; omega)
      · exact ⟨g1.os, g1.tape, g1.output, by have := g1.size; simpa using this, fun q hq hne => (setRow_other wr w.heap.size q _ (by omega)).trans (g1.block q hq hne)⟩
end Go.Proofs.YtpkjomnmkgpomaaDoor
