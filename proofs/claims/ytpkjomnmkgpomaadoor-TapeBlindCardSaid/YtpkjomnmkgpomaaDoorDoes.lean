import Derived.Test.YtpkjomnmkgpomaaDoorAwake06
import Derived.Test.YtpkjomnmkgpomaaDoorRef06b
import Derived.Test.YtpkjomnmkgpomaaDoorRnum
import Derived.Deep.DeepCutAuto
import Derived.Deep.CutBlock
import Derived.Deep.RegionHeld3
import Derived.Deep.MidRow
import Derived.Deep.WholeRow
namespace Go.Proofs.YtpkjomnmkgpomaaDoor
open Go.RowKit Go.Extern.Stop Go.Stop Go.Extern Go.Proofs.YtpkjomnmkgpomaaDoorW.PrintWords Go.Proofs.YtpkjomnmkgpomaaDoorArith

/-- The reference's tape in memory. -/
def RTape (w : World) (g : Nat) (A : Option Addr) (c : Nat) (l : List Int) (k : Nat) : Prop := w.heap[g]? = some (.cells #[.slice A l.length c, .int .i64 k] 54 (0, 0))
def takes (len k : Nat) (n : Int) : Nat := if readyC n (len - k) = 0 then k + n.toNat else k
/-- How far a tape is read behind a call. -/
def nextAt (kind n bits : Int) (len k : Nat) : Nat :=
  if kind = 0 then takes len k n else if kind = 1 then takes len k 1 else if kind = 2 then (if 1 ≤ bits ∧ bits ≤ 64 then takes len k n else k)
  else if kind = 3 then takes len k n else if kind = 4 then takes len k 4 else if n < k then k else if n > len then k else n.toNat

/-- What the switch leaves. -/
structure Did (w wx : World) (g B nx gr : Nat) (A : Option Addr) (c : Nat) (l : List Int) (k K : Nat) (code : Int) (s9 : Value) : Prop where
  err : ErrV wx s9 code
  tape : TapeAt wx g B l K
  next : RTape wx nx A c l K
  ref : RTape wx gr A c l k
  grown : w.grownBy wx (some g)

/-- Two blocks alone may have been written. -/
structure Grown2 (w w' : World) (g gr : Nat) : Prop where
  os : w'.os = w.os
  tape : w'.tape = w.tape
  output : w'.output = w.output
  size : w.heap.size ≤ w'.heap.size
  block : ∀ q, q < w.heap.size → q ≠ g → q ≠ gr → w'.heap[q]? = w.heap[q]?
/-- What a call leaves. -/
structure Did2 (w w' : World) (g gr B : Nat) (A : Option Addr) (c : Nat) (l : List Int) (K : Nat) : Prop where
  tape : TapeAt w' g B l K
  ref : RTape w' gr A c l K
  grown : Grown2 w w' g gr
theorem tape_ne {w : World} {g gr B : Nat} {A : Option Addr} {c : Nat} {l l' : List Int} {k k' : Nat} (h : TapeAt w g B l k) (h' : RTape w gr A c l' k') : g ≠ gr := by
  intro e
  subst e
  obtain ⟨v, hh, _⟩ := h
  have := hh.symm.trans h'
  injection this with this
  injection this with _ this
  exact absurd this (by decide)
theorem RTape.row {w : World} {g : Nat} {A : Option Addr} {c : Nat} {l : List Int} {k : Nat} (h : RTape w g A c l k) : RowIs w (some g) 54 := fun q e => by injection e with e; subst e; exact ⟨_, _, h⟩
theorem RTape.keep {w w' : World} {g : Nat} {A : Option Addr} {c : Nat} {l : List Int} {k : Nat} (h : RTape w g A c l k) (hb : Below w.heap.size w w') : RTape w' g A c l k := (hb.block _ (heap_lt h)).trans h
theorem Grown2.below {w w3 w' : World} {g gr : Nat} (h : Grown2 w w3 g gr) (hb : Below w3.heap.size w3 w') : Grown2 w w' g gr :=
  ⟨hb.os.trans h.os, hb.tape.trans h.tape, hb.output.trans h.output, Nat.le_trans h.size hb.size, fun q hq h1 h2 => (hb.block q (Nat.lt_of_lt_of_le hq h.size)).trans (h.block q hq h1 h2)⟩
theorem grown_kept {w w' : World} {g q : Nat} {o : Obj} (hg : w.grownBy w' (some g)) (h : w.heap[q]? = some o) (hne : q ≠ g) : w'.heap[q]? = some o := (hg.block q (heap_lt h) (fun e => hne (by injection e))).trans h
theorem set2_kept {w : World} {b q : Nat} {o : Obj} (h : w.heap[q]? = some o) (hne : q ≠ b) (u v : Value) : ((w.setCell ⟨b, 0, none⟩ u).setCell ⟨b, 1, none⟩ v).heap[q]? = some o :=
  grown_kept ((grown_set w ⟨b, 0, none⟩ u).trans (grown_set _ ⟨b, 1, none⟩ v)) h hne
/-- From the calls of both to what the switch leaves. -/
theorem did_of {w w3 w4 w6 : World} {g gr B : Nat} {A : Option Addr} {c : Nat} {l : List Int} {k K : Nat} {code : Int} {v : Value} {o1 : Obj} (hR : RTape w gr A c l k) (hgl : g < w.heap.size)
    (hT : TapeAt w3 g B l K) (hE : ErrV w3 v code) (hG : ((w.alloc o1).alloc (.cells #[.slice A l.length c, .int .i64 k] 54)).grownBy w3 (some g)) (h4 : Below w3.heap.size w3 w4) (hne : g ≠ gr)
    (h6 : Below w4.heap.size ((w4.setCell ⟨w.heap.size + 1, 0, none⟩ (.slice A l.length c)).setCell ⟨w.heap.size + 1, 1, none⟩ (.int .i64 K)) w6) : Did w w6 g B (w.heap.size + 1) gr A c l k K code v := by
  have n2 : ((w.alloc o1).alloc (.cells #[.slice A l.length c, .int .i64 k] 54)).heap[w.heap.size + 1]? = some (.cells #[.slice A l.length c, .int .i64 k] 54 (0, 0)) := by
    have := heap_alloc_new (w.alloc o1) (.cells #[.slice A l.length c, .int .i64 k] 54); simpa using this
  have n3 := grown_kept hG n2 (by omega)
  have n4 : RTape w4 (w.heap.size + 1) A c l k := (h4.block _ (heap_lt n3)).trans n3
  have rl := heap_lt hR
  have r2 : ((w.alloc o1).alloc (.cells #[.slice A l.length c, .int .i64 k] 54)).heap[gr]? = some (.cells #[.slice A l.length c, .int .i64 k] 54 (0, 0)) := by
    rw [heap_alloc_old _ _ (by simp; omega), heap_alloc_old _ _ rl]; exact hR
  have r4 : RTape w4 gr A c l k := (h4.block _ (heap_lt (grown_kept hG r2 (fun e => hne e.symm)))).trans (grown_kept hG r2 (fun e => hne e.symm))
  have g5 : w4.grownBy ((w4.setCell ⟨w.heap.size + 1, 0, none⟩ (.slice A l.length c)).setCell ⟨w.heap.size + 1, 1, none⟩ (.int .i64 K)) (some (w.heap.size + 1)) := (grown_set w4 ⟨w.heap.size + 1, 0, none⟩ _).trans (grown_set _ ⟨w.heap.size + 1, 1, none⟩ _)
  have n5 : RTape ((w4.setCell ⟨w.heap.size + 1, 0, none⟩ (.slice A l.length c)).setCell ⟨w.heap.size + 1, 1, none⟩ (.int .i64 K)) (w.heap.size + 1) A c l K := heap_set (i := 1) (v := .int .i64 K) (heap_set (i := 0) (v := .slice A l.length c) n4)
  have h6' : Below ((w4.setCell ⟨w.heap.size + 1, 0, none⟩ (.slice A l.length c)).setCell ⟨w.heap.size + 1, 1, none⟩ (.int .i64 K)).heap.size ((w4.setCell ⟨w.heap.size + 1, 0, none⟩ (.slice A l.length c)).setCell ⟨w.heap.size + 1, 1, none⟩ (.int .i64 K)) w6 := by
    have e : ((w4.setCell ⟨w.heap.size + 1, 0, none⟩ (.slice A l.length c)).setCell ⟨w.heap.size + 1, 1, none⟩ (.int .i64 K)).heap.size = w4.heap.size := by simp [World.setCell]
    rw [e]; exact h6
  have t5 := (hT.keep h4).kept g5 n4.row (by decide) (fun e => by injection e with e; omega)
  have e5 := (hE.keep h4).grown g5 (n4.row.noFault (by decide))
  have r5 : RTape ((w4.setCell ⟨w.heap.size + 1, 0, none⟩ (.slice A l.length c)).setCell ⟨w.heap.size + 1, 1, none⟩ (.int .i64 K)) gr A c l k := grown_kept g5 r4 (by omega)
  refine ⟨e5.keep h6', t5.keep h6', n5.keep h6', r5.keep h6', ?_⟩
  have a1 : w.grownBy w3 (some g) := ((World.grownBy_alloc w o1 _).trans (World.grownBy_alloc _ _ _)).trans hG
  have a2 : w.grownBy w4 (some g) := a1.trans (grown_of_below h4 _)
  exact ⟨h6'.os.trans (g5.os.trans a2.os), h6'.tape.trans (g5.tape.trans a2.tape), h6'.output.trans (g5.output.trans a2.output), Nat.le_trans a2.size (Nat.le_trans g5.size h6'.size), fun q hq hn => by
    have hq4 : q < w4.heap.size := Nat.lt_of_lt_of_le hq a2.size
    rw [h6'.block q (Nat.lt_of_lt_of_le hq4 g5.size), g5.block q hq4 (by intro e; injection e with e; omega)]
    exact a2.block q hq hn⟩
theorem own_keep {w w' : World} {base n : Nat} {e : TypeId} {size : Nat} {v : Value} {xs : List Value} (h : w.ownsRow base e size v n xs) (hb : Below w.heap.size w w') : w'.ownsRow base e size v n xs := pw_own_below h hb
theorem own_set2 {w : World} {base n b : Nat} {e : TypeId} {size : Nat} {v : Value} {xs : List Value} {cs : Array Value} (h : w.ownsRow base e size v n xs) (hb : w.heap[b]? = some (.cells cs 54 (0, 0))) (he : 54 ≠ e) (u u' : Value) :
    ((w.setCell ⟨b, 0, none⟩ u).setCell ⟨b, 1, none⟩ u').ownsRow base e size v n xs := World.ownsRow.kept h ((grown_set w ⟨b, 0, none⟩ u).trans (grown_set _ ⟨b, 1, none⟩ u')) (.inr (own_ne h hb he))
theorem own_int {w : World} {base n c : Nat} {A : Option Addr} {xs : List Int} (h : w.ownsRow base 35 1 (.slice A n c) n (nums .u64 xs)) : ReadsInt w .u64 A n xs := by
  obtain ⟨A', c', e, hr⟩ := own_reads h
  injection e with e1 e2 e3
  rw [e1]; exact hr
theorem readyC_zero {n rest : Int} (h : readyC n rest = 0) : 0 ≤ n ∧ n ≤ rest := by
  unfold readyC at h
  by_cases h1 : n < 0
  · rw [if_pos h1] at h; cases h
  · rw [if_neg h1] at h
    by_cases h2 : n > rest
    · rw [if_pos h2] at h; cases h
    · omega
theorem row_slice {w : World} {base n : Nat} {v : Value} {xs : List Int} (h : Row w base v xs) (hn : xs.length = n) : ∃ A c, v = .slice A n c ∧ w.ownsRow base 35 1 (.slice A n c) n (nums .u64 xs) := by
  obtain ⟨A, c, rfl, _⟩ := h.reads
  subst hn
  exact ⟨A, c, rfl, h⟩
theorem take_okn (g : Nat) (l : List Int) (k n : Nat) (w : World) {B : Nat} (h : TapeAt w g B l k) (hn : k + n ≤ l.length) :
    Calls Tryd.prog 9 #[.pointer (some ⟨g, 0, none⟩), .int .i64 n] w fun e w' => ∃ A c, e = .returned (.tuple #[.slice A n c, .nilIface]) ∧ w'.ownsRow w.heap.size 35 1 (.slice A n c) n (nums .u64 (cutOf l k n)) ∧ TapeAt w' g B l (k + n) ∧ w.grownBy w' (some g) :=
  (take_ok g l k n w h hn).mono fun _ _ ⟨_, he, hv, ht, hg⟩ => by
    obtain ⟨A, c, rfl, hr⟩ := row_slice hv (cutOf_length l k n hn)
    exact ⟨A, c, he, hr, ht, hg⟩
theorem rtake_okn (A : Option Addr) (c : Nat) (l : List Int) (k n : Nat) (w : World) (hr : ReadsInt w .u64 A l.length l) (hcap : l.length ≤ c) (hn : k + n ≤ l.length) (hm : l.length ≤ 1048576) :
    Calls Tryd.prog 24 #[.agg #[.slice A l.length c, .int .i64 k], .int .i64 n] w fun e w' => ∃ Aw cw, e = .returned (.tuple #[.agg #[.slice A l.length c, .int .i64 ((k : Int) + n)], .slice Aw n cw, .int .i64 0]) ∧ w'.ownsRow w.heap.size 35 1 (.slice Aw n cw) n (nums .u64 (cutOf l k n)) ∧ Below w.heap.size w w' :=
  (rtake_ok A c l k n w hr hcap hn hm).mono fun _ _ ⟨_, he, hv, hb⟩ => by
    obtain ⟨A, c, rfl, hr⟩ := row_slice hv (cutOf_length l k n hn)
    exact ⟨A, c, he, hr, hb⟩
theorem rtake_one (A : Option Addr) (c : Nat) (l : List Int) (k : Nat) (w : World) (hr : ReadsInt w .u64 A l.length l) (hcap : l.length ≤ c) (hn : k + 1 ≤ l.length) (hm : l.length ≤ 1048576) :
    Calls Tryd.prog 24 #[.agg #[.slice A l.length c, .int .i64 k], .int .i64 1] w fun e w' => ∃ Aw cw, e = .returned (.tuple #[.agg #[.slice A l.length c, .int .i64 ((k : Int) + 1)], .slice Aw 1 cw, .int .i64 0]) ∧ w'.ownsRow w.heap.size 35 1 (.slice Aw 1 cw) 1 (nums .u64 (cutOf l k 1)) ∧ Below w.heap.size w w' := rtake_okn A c l k 1 w hr hcap hn hm
theorem rtake_four (A : Option Addr) (c : Nat) (l : List Int) (k : Nat) (w : World) (hr : ReadsInt w .u64 A l.length l) (hcap : l.length ≤ c) (hn : k + 4 ≤ l.length) (hm : l.length ≤ 1048576) :
    Calls Tryd.prog 24 #[.agg #[.slice A l.length c, .int .i64 k], .int .i64 4] w fun e w' => ∃ Aw cw, e = .returned (.tuple #[.agg #[.slice A l.length c, .int .i64 ((k : Int) + 4)], .slice Aw 4 cw, .int .i64 0]) ∧ w'.ownsRow w.heap.size 35 1 (.slice Aw 4 cw) 4 (nums .u64 (cutOf l k 4)) ∧ Below w.heap.size w w' := rtake_okn A c l k 4 w hr hcap hn hm
theorem rskip_lo (A : Option Addr) (c : Nat) (l : List Int) (k : Nat) (n : Int) (w : World) (h : n < k) :
    Calls Tryd.prog 28 #[.agg #[.slice A l.length c, .int .i64 k], .int .i64 n] w fun e w' => e = .returned (.tuple #[.agg #[.slice A l.length c, .int .i64 k], .int .i64 1]) ∧ Below w.heap.size w w' := by
  have := rskip_any A c l k n w; simp only [if_pos h] at this; exact this
theorem rskip_hi (A : Option Addr) (c : Nat) (l : List Int) (k : Nat) (n : Int) (w : World) (h : ¬ n < k) (h2 : n > l.length) :
    Calls Tryd.prog 28 #[.agg #[.slice A l.length c, .int .i64 k], .int .i64 n] w fun e w' => e = .returned (.tuple #[.agg #[.slice A l.length c, .int .i64 k], .int .i64 10]) ∧ Below w.heap.size w w' := by
  have := rskip_any A c l k n w; simp only [if_neg h, if_pos h2] at this; exact this
theorem rskip_in (A : Option Addr) (c : Nat) (l : List Int) (k nn : Nat) (w : World) (h : k ≤ nn) (h2 : nn ≤ l.length) :
    Calls Tryd.prog 28 #[.agg #[.slice A l.length c, .int .i64 k], .int .i64 nn] w fun e w' => e = .returned (.tuple #[.agg #[.slice A l.length c, .int .i64 nn], .int .i64 0]) ∧ Below w.heap.size w w' := by
  have := rskip_any A c l k nn w
  simp only [if_neg (show ¬ (nn : Int) < k by omega), if_neg (show ¬ (nn : Int) > l.length by omega)] at this; exact this
theorem range_of {w : World} {b : Nat} {cs : List Value} {t : TypeId} (h : w.heap[b]? = some (.cells cs.toArray t (0, 0))) : w.rangeAt b 0 cs := fun j v hv => by
  rw [Nat.zero_add]; exact (heap_cell h).trans (by simpa using hv)
theorem range_below {w w' : World} {b : Nat} {cs : List Value} (h : w.rangeAt b 0 cs) (hb : Below w.heap.size w w') : w'.rangeAt b 0 cs := fun j v hv => pw_cell_below hb (h j v hv)
theorem zeros_eql : ∀ w, (binOp .eql 42 (.agg zeros32) (.agg zeros32)).run Tryd.prog w = .ok (.bool true) w := fun _ => by kernel_rfl
theorem seedL_cells (l : List Int) : seedL l 32 = ((List.range 32).map fun i => UInt8.ofNat (seedF l i).toNat).map Go.Extern.Stop.cell := by
  unfold seedL
  rw [List.map_map]
  apply List.map_congr_left
  intro i hi
  have hi' : i < 32 := List.mem_range.1 hi
  have h0 : 0 ≤ seedF l i := Int.emod_nonneg _ (by decide)
  have h1 : seedF l i < 256 := Int.emod_lt_of_pos _ (by decide)
  rw [if_pos hi']
  simp only [Function.comp_def, Go.Extern.Stop.cell]
  congr 1
  rw [UInt8.toNat_ofNat']
  show seedF l i = (((seedF l i).toNat % 2 ^ 8 : Nat) : Int)
  omega
theorem seeds_eql (l : List Int) : ∀ w, (binOp .eql 42 (.agg (seedL l 32).toArray) (.agg (seedL l 32).toArray)).run Tryd.prog w = .ok (.bool true) w := fun w => by
  rw [seedL_cells]
  rw [run_eql_bytes w 42 5 32 Tryd.underlying42 Tryd.underlying5 (fun _ => by kernel_rfl) _ _ (by simp) (by simp)]
  simp
theorem bits_okn (g : Nat) (l : List Int) (k n : Nat) (w : World) {B : Nat} (h : TapeAt w g B l k) (hn : k + n ≤ l.length) (hu : U64s l) :
    Calls Tryd.prog 14 #[.pointer (some ⟨g, 0, none⟩), .int .i64 n] w fun e w' => ∃ A c, e = .returned (.tuple #[.slice A n c, .nilIface]) ∧ w'.ownsRow w.heap.size 4 1 (.slice A n c) n (encs Value.bool ((cutOf l k n).map oddB)) ∧ TapeAt w' g B l (k + n) ∧ w.grownBy w' (some g) :=
  (bits_ok g l k n w h hn hu).mono fun _ _ ⟨v, he, hv, ht, hg⟩ => by
    have hl : ((cutOf l k n).map oddB).length = n := by rw [List.length_map]; exact cutOf_length l k n hn
    have hv' : World.ownsRow _ w.heap.size 4 1 v ((cutOf l k n).map oddB).length (encs Value.bool ((cutOf l k n).map oddB)) := hv
    rw [hl] at hv'
    obtain ⟨A, c, rfl⟩ := own_slice hv'
    exact ⟨A, c, he, hv', ht, hg⟩
theorem num_okn (g : Nat) (l : List Int) (k n b : Nat) (w : World) {B : Nat} (h : TapeAt w g B l k) (hn : k + n ≤ l.length) (h1 : 1 ≤ b) (h2 : b ≤ 64) (hu : U64s l) :
    Calls Tryd.prog 25 #[.pointer (some ⟨g, 0, none⟩), .int .i64 n, .int .i64 b] w fun e w' => ∃ A c, e = .returned (.tuple #[.slice A n c, .nilIface]) ∧ w'.ownsRow w.heap.size 35 1 (.slice A n c) n (nums .u64 ((cutOf l k n).map (cutW b))) ∧ TapeAt w' g B l (k + n) ∧ w.grownBy w' (some g) :=
  (num_ok g l k n b w h hn h1 h2 hu).mono fun _ _ ⟨_, he, hv, ht, hg⟩ => by
    obtain ⟨A, c, rfl, hr⟩ := row_slice (n := n) hv (by rw [List.length_map]; exact cutOf_length l k n hn)
    exact ⟨A, c, he, hr, ht, hg⟩
theorem rnum_okn (A : Option Addr) (c : Nat) (l : List Int) (k n b : Nat) (w : World) (hr : ReadsInt w .u64 A l.length l) (hcap : l.length ≤ c) (hn : k + n ≤ l.length) (hm : l.length ≤ 1048576) (h1 : 1 ≤ b) (h2 : b ≤ 64) (hu : U64s l) :
    Calls Tryd.prog 26 #[.agg #[.slice A l.length c, .int .i64 k], .int .i64 n, .int .i64 b] w fun e w' => ∃ Aw cw, e = .returned (.tuple #[.agg #[.slice A l.length c, .int .i64 ((k : Int) + n)], .slice Aw n cw, .int .i64 0]) ∧ w'.ownsRow w.heap.size 35 1 (.slice Aw n cw) n (nums .u64 ((cutOf l k n).map (cutW b))) ∧ Below w.heap.size w w' :=
  (rnum_ok A c l k n b w hr hcap hn hm h1 h2 hu).mono fun _ _ ⟨_, he, hv, hb⟩ => by
    obtain ⟨A, c, rfl, hr⟩ := row_slice (n := n) hv (by rw [List.length_map]; exact cutOf_length l k n hn)
    exact ⟨A, c, he, hr, hb⟩
def DidAt (w : World) (g B nx gr : Nat) (A : Option Addr) (c : Nat) (l : List Int) (k K : Nat) (s8 s9 s11 : Value) (wx : World) : Prop :=
  s11 = .bool true ∧ ∃ code, s8 = .int .i64 code ∧ Did w wx g B nx gr A c l k K code s9
theorem did_at {w wx : World} {g B nx gr : Nat} {A : Option Addr} {c : Nat} {l : List Int} {k K : Nat} {code : Int} {v : Value} (h : Did w wx g B nx gr A c l k K code v) : DidAt w g B nx gr A c l k K (.int .i64 code) v (.bool true) wx := ⟨rfl, code, rfl, h⟩
theorem reads_nil (w : World) : ReadsInt w .u64 none 0 [] := ⟨rfl, by omega, fun h => absurd h (by omega)⟩
set_option maxRecDepth 100000 in
set_option maxHeartbeats 40000000 in
theorem does_ok (g gr B : Nat) (A : Option Addr) (c : Nat) (l : List Int) (k : Nat) (kind n bits : Int) (w : World) (hT : TapeAt w g B l k) (hR : RTape w gr A c l k) (w0 : World) (hr : ReadsInt w0 .u64 A l.length l) (hb0 : Below w0.heap.size w0 w) (hg0 : w0.heap.size ≤ g) (hr0 : w0.heap.size ≤ gr) (hcap : l.length ≤ c) (hu : U64s l) (hL : Laid0 w0) :
    Calls Tryd.prog 18 #[.pointer (some ⟨g, 0, none⟩), .pointer (some ⟨gr, 0, none⟩), .agg #[.int .i64 kind, .int .i64 n, .int .i64 bits]] w fun e w' => e = .returned (.bool true) ∧ Did2 w w' g gr B A c l (nextAt kind n bits l.length k) := by
  have hz0 : 0 < w0.heap.size := World.block_lt_of_cell? w0 _ hL
  have HL := Aside0.mk (hL.keep hb0); clear hL
  have c0 : w.cell? ⟨gr, 0, none⟩ = some (.slice A l.length c) := heap_cell hR
  have c1 : w.cell? ⟨gr, 1, none⟩ = some (.int .i64 k) := heap_cell hR
  have d0 : ∀ o : Obj, (w.alloc o).cell? ⟨gr, 0, none⟩ = some (.slice A l.length c) := fun o => heap_cell (kept_new hR o)
  have d1 : ∀ o : Obj, (w.alloc o).cell? ⟨gr, 1, none⟩ = some (.int .i64 k) := fun o => heap_cell (kept_new hR o)
  go_enter Tryd.func18, Tryd.ntmps18
  go_upto_block 0 with fail
  go_cut [8, 9, 11] (fun s8 s9 s11 wx => DidAt w g B (w.heap.size + 1) gr A c l k (nextAt kind n bits l.length k) s8 s9 s11 wx)
  case first =>
    have hgr : g ≠ gr := tape_ne hT hR
    have hgl := hT.lt
    have hrl := heap_lt hR
    have hb2 := below_alloc (below_alloc (Below.refl w.heap.size w) (.cells #[.int .i64 kind, .int .i64 n, .int .i64 bits] 58)) (.cells #[.slice A l.length c, .int .i64 k] 54)
    have HT := Aside0.mk (hT.keep hb2)
    have HB2 := Aside0.mk (hb0.trans (hb2.mono hb0.size))
    have HS2 : Aside0 (w0.heap.size ≤ ((w.alloc (.cells #[.int .i64 kind, .int .i64 n, .int .i64 bits] 58)).alloc (.cells #[.slice A l.length c, .int .i64 k] 54)).heap.size) := ⟨HB2.out.size⟩
    have hkl : k ≤ l.length ∧ l.length ≤ 1048576 := by obtain ⟨_, _, _, a, b, _⟩ := hT; exact ⟨a, b⟩
    obtain ⟨hk, hm⟩ := hkl
    have a2 : ((w.alloc (.cells #[.int .i64 kind, .int .i64 n, .int .i64 bits] 58)).alloc (.cells #[.slice A l.length c, .int .i64 k] 54)).heap[w.heap.size]? = some (.cells #[.int .i64 kind, .int .i64 n, .int .i64 bits] 58 (0, 0)) := two_heap w _ _
    have n2 : ((w.alloc (.cells #[.int .i64 kind, .int .i64 n, .int .i64 bits] 58)).alloc (.cells #[.slice A l.length c, .int .i64 k] 54)).heap[w.heap.size + 1]? = some (.cells #[.slice A l.length c, .int .i64 k] 54 (0, 0)) := by
      have := heap_alloc_new (w.alloc (.cells #[.int .i64 kind, .int .i64 n, .int .i64 bits] 58)) (.cells #[.slice A l.length c, .int .i64 k] 54); simpa using this
    have r2 : ((w.alloc (.cells #[.int .i64 kind, .int .i64 n, .int .i64 bits] 58)).alloc (.cells #[.slice A l.length c, .int .i64 k] 54)).heap[gr]? = some (.cells #[.slice A l.length c, .int .i64 k] 54 (0, 0)) := by
      rw [heap_alloc_old _ _ (by simp; omega), heap_alloc_old _ _ hrl]; exact hR
    have A2 := Aside0.mk a2; have N2 := Aside0.mk n2; have R2 := Aside0.mk r2
    clear a2 n2 r2 hb2
    by_cases k0 : kind = 0
    · have kb0 : (kind == 0) = true := by simpa using k0
      have HK : Aside0 (nextAt kind n bits l.length k = takes l.length k n) := ⟨by unfold nextAt; rw [if_pos k0]⟩
      clear k0
      by_cases hc : readyC n (l.length - k) = 0
      · obtain ⟨hn0, hn1⟩ := readyC_zero hc
        have HK2 : Aside0 (takes l.length k n = k + (n : Int).toNat) := ⟨by unfold takes; rw [if_pos hc]⟩
        clear hc
        obtain ⟨nn, rfl⟩ := Int.eq_ofNat_of_zero_le hn0
        rw [Int.toNat_natCast] at HK2
        have hn : k + nn ≤ l.length := by omega
        have hw1 : IntKind.i64.wrap ((k : Int) + nn) = (k : Int) + nn := IntWalk.i64_in _ (by omega)
        clear hn0 hn1
        go_wp2_with (first | (go_at_call 9; (with_reducible refine (take_okn g l k nn _ HT.out hn).mono ?_); rintro e w3 ⟨Av, cv, rfl, hv, ht, hg⟩; have V3 := Aside0.mk hv; have T3 := Aside0.mk ht; have G3 := Aside0.mk hg; have E3 := Aside0.mk (ErrV.nil0 (w := w3)); clear hv ht hg; have a3 := grown_kept G3.out A2.out (by omega); have r3 := grown_kept G3.out R2.out (fun e => hgr e.symm); have n3 := grown_kept G3.out N2.out (by omega); have A3 := Aside0.mk a3; have N3 := Aside0.mk n3; have R3 := Aside0.mk r3; have W3 := Aside0.mk (HB2.out.grown G3.out HS2.out (by intro q e; injection e with e; rw [← e]; exact hg0)); have x1 : w3.cell? ⟨w.heap.size, 1, none⟩ = some (.int .i64 (nn : Int)) := heap_cell a3; have x4 : w3.cell? ⟨w.heap.size, 2, none⟩ = some (.int .i64 bits) := heap_cell a3; have x2 : w3.cell? ⟨gr, 0, none⟩ = some (.slice A l.length c) := heap_cell r3; have x3 : w3.cell? ⟨gr, 1, none⟩ = some (.int .i64 k) := heap_cell r3; clear a3 r3 n3))
        go_region_held3 (fun w' => w'.cell? ⟨w.heap.size, 1, none⟩ = some (.int .i64 (nn : Int)) ∧ w'.cell? ⟨gr, 0, none⟩ = some (.slice A l.length c) ∧ w'.cell? ⟨gr, 1, none⟩ = some (.int .i64 k)) (go_keep) (first | (go_at_call 24; (with_reducible refine (rtake_okn A c l k nn _ (hr.below ((W3.out.trans (below_drew (Below.refl _ _))))) hcap hn hm).mono ?_); rintro e w4 ⟨Aw, cw, rfl, hw, hb0⟩; have W4 := Aside0.mk hw; clear hw; have hb : Below w3.heap.size w3 w4 := (below_drew (Below.refl _ _)).trans hb0; clear hb0; have B4 := Aside0.mk hb; have a4 := (hb.block _ (heap_lt A3.out)).trans A3.out; have n4 := (hb.block _ (heap_lt N3.out)).trans N3.out; have r4 := (hb.block _ (heap_lt R3.out)).trans R3.out; have N4 := Aside0.mk n4; have z1 : w4.cell? ⟨w.heap.size, 1, none⟩ = some (.int .i64 (nn : Int)) := heap_cell a4; have z4 : w4.cell? ⟨w.heap.size, 2, none⟩ = some (.int .i64 bits) := heap_cell a4; have z2 : w4.cell? ⟨gr, 0, none⟩ = some (.slice A l.length c) := heap_cell r4; have z3 : w4.cell? ⟨gr, 1, none⟩ = some (.int .i64 k) := heap_cell r4; have u1 : ∀ u v, ((w4.setCell ⟨w.heap.size + 1, 0, none⟩ u).setCell ⟨w.heap.size + 1, 1, none⟩ v).cell? ⟨gr, 0, none⟩ = some (.slice A l.length c) := fun u v => heap_cell (set2_kept r4 (by omega) u v); have u2 : ∀ u v, ((w4.setCell ⟨w.heap.size + 1, 0, none⟩ u).setCell ⟨w.heap.size + 1, 1, none⟩ v).cell? ⟨gr, 1, none⟩ = some (.int .i64 k) := fun u v => heap_cell (set2_kept r4 (by omega) u v); have y0 : w4.cell? ⟨w.heap.size + 1, 0, none⟩ = some (.slice A l.length c) := heap_cell n4; have y1 : w4.cell? ⟨w.heap.size + 1, 1, none⟩ = some (.int .i64 k) := heap_cell n4; have y2 : w4.frozen? ⟨w.heap.size + 1, 0, none⟩ = false := heap_free n4; have y3 : w4.frozen? ⟨w.heap.size + 1, 1, none⟩ = false := heap_free n4; clear hb a4 n4 r4))
        go_wp2_with ((go_at_call 10; (with_reducible refine (nums_eqn Av Aw nn cv cw (cutOf l k nn) _ (own_int (own_set2 (own_keep V3.out B4.out) N4.out (by decide) _ _)) (own_int (own_set2 W4.out N4.out (by decide) _ _))).mono ?_); rintro e w5 ⟨rfl, n5, rfl⟩; skip))
        go_meet
        exact did_at (by rw [HK.out, HK2.out]; exact did_of hR hgl T3.out E3.out G3.out B4.out hgr (pw_below_drewN (Below.refl _ _) n5))
      · have HC := Aside0.mk hc
        have HK2 : Aside0 (takes l.length k n = k) := ⟨by unfold takes; rw [if_neg hc]⟩
        clear hc
        go_wp2_with (first | (go_at_call 9; (with_reducible refine (take_bad g l k n _ HT.out HC.out).mono ?_); rintro e w3 ⟨v, rfl, hv, hb⟩; have G3 := Aside0.mk (grown_of_below hb (some g)); have E3 := Aside0.mk hv; have T3 := Aside0.mk (HT.out.keep hb); clear hv hb; have a3 := grown_kept G3.out A2.out (by omega); have r3 := grown_kept G3.out R2.out (fun e => hgr e.symm); have n3 := grown_kept G3.out N2.out (by omega); have A3 := Aside0.mk a3; have N3 := Aside0.mk n3; have R3 := Aside0.mk r3; have W3 := Aside0.mk (HB2.out.grown G3.out HS2.out (by intro q e; injection e with e; rw [← e]; exact hg0)); have x1 : w3.cell? ⟨w.heap.size, 1, none⟩ = some (.int .i64 n) := heap_cell a3; have x4 : w3.cell? ⟨w.heap.size, 2, none⟩ = some (.int .i64 bits) := heap_cell a3; have x2 : w3.cell? ⟨gr, 0, none⟩ = some (.slice A l.length c) := heap_cell r3; have x3 : w3.cell? ⟨gr, 1, none⟩ = some (.int .i64 k) := heap_cell r3; clear a3 r3 n3))
        go_region_held3 (fun w' => w'.cell? ⟨w.heap.size, 1, none⟩ = some (.int .i64 n) ∧ w'.cell? ⟨gr, 0, none⟩ = some (.slice A l.length c) ∧ w'.cell? ⟨gr, 1, none⟩ = some (.int .i64 k)) (go_keep) (first | (go_at_call 24; (with_reducible refine (rtake_bad A c l k n _ hk hm HC.out).mono ?_); rintro e w4 ⟨rfl, hb0⟩; have hb : Below w3.heap.size w3 w4 := (below_drew (Below.refl _ _)).trans hb0; clear hb0; have B4 := Aside0.mk hb; have a4 := (hb.block _ (heap_lt A3.out)).trans A3.out; have n4 := (hb.block _ (heap_lt N3.out)).trans N3.out; have r4 := (hb.block _ (heap_lt R3.out)).trans R3.out; have N4 := Aside0.mk n4; have z1 : w4.cell? ⟨w.heap.size, 1, none⟩ = some (.int .i64 n) := heap_cell a4; have z4 : w4.cell? ⟨w.heap.size, 2, none⟩ = some (.int .i64 bits) := heap_cell a4; have z2 : w4.cell? ⟨gr, 0, none⟩ = some (.slice A l.length c) := heap_cell r4; have z3 : w4.cell? ⟨gr, 1, none⟩ = some (.int .i64 k) := heap_cell r4; have u1 : ∀ u v, ((w4.setCell ⟨w.heap.size + 1, 0, none⟩ u).setCell ⟨w.heap.size + 1, 1, none⟩ v).cell? ⟨gr, 0, none⟩ = some (.slice A l.length c) := fun u v => heap_cell (set2_kept r4 (by omega) u v); have u2 : ∀ u v, ((w4.setCell ⟨w.heap.size + 1, 0, none⟩ u).setCell ⟨w.heap.size + 1, 1, none⟩ v).cell? ⟨gr, 1, none⟩ = some (.int .i64 k) := fun u v => heap_cell (set2_kept r4 (by omega) u v); have y0 : w4.cell? ⟨w.heap.size + 1, 0, none⟩ = some (.slice A l.length c) := heap_cell n4; have y1 : w4.cell? ⟨w.heap.size + 1, 1, none⟩ = some (.int .i64 k) := heap_cell n4; have y2 : w4.frozen? ⟨w.heap.size + 1, 0, none⟩ = false := heap_free n4; have y3 : w4.frozen? ⟨w.heap.size + 1, 1, none⟩ = false := heap_free n4; clear hb a4 n4 r4))
        go_wp2_with ((go_at_call 10; (with_reducible refine (nums_eqn none none 0 0 0 [] _ (reads_nil _) (reads_nil _)).mono ?_); rintro e w5 ⟨rfl, n5, rfl⟩; skip))
        go_meet
        exact did_at (by rw [HK.out, HK2.out]; exact did_of hR hgl T3.out E3.out G3.out B4.out hgr (pw_below_drewN (Below.refl _ _) n5))
    · have kb0 : (kind == 0) = false := by simpa using k0
      have q0 : Aside0 (¬ kind = 0) := ⟨k0⟩; clear k0
      by_cases k1 : kind = 1
      · have kb1 : (kind == 1) = true := by simpa using k1
        have HK : Aside0 (nextAt kind n bits l.length k = takes l.length k 1) := ⟨by unfold nextAt; rw [if_neg q0.out, if_pos k1]⟩
        clear k1
        by_cases hc : readyC 1 (l.length - k) = 0
        · obtain ⟨hn0, hn1⟩ := readyC_zero hc
          have HK2 : Aside0 (takes l.length k 1 = k + (1 : Int).toNat) := ⟨by unfold takes; rw [if_pos hc]⟩
          clear hc
          have hn : k + 1 ≤ l.length := by omega
          have hw1 : IntKind.i64.wrap ((k : Int) + 1) = (k : Int) + 1 := IntWalk.i64_in _ (by omega)
          have HO1 := Aside0.mk (cutOf_one l k hn)
          clear hn0 hn1
          go_wp2_with (first | (go_at_call 12; (with_reducible refine (next_ok g l k _ HT.out hn).mono ?_); rintro e w3 ⟨rfl, ht, hg⟩; have T3 := Aside0.mk ht; have G3 := Aside0.mk hg; have E3 := Aside0.mk (ErrV.nil0 (w := w3)); clear ht hg; have a3 := grown_kept G3.out A2.out (by omega); have r3 := grown_kept G3.out R2.out (fun e => hgr e.symm); have n3 := grown_kept G3.out N2.out (by omega); have A3 := Aside0.mk a3; have N3 := Aside0.mk n3; have R3 := Aside0.mk r3; have W3 := Aside0.mk (HB2.out.grown G3.out HS2.out (by intro q e; injection e with e; rw [← e]; exact hg0)); have x1 : w3.cell? ⟨w.heap.size, 1, none⟩ = some (.int .i64 n) := heap_cell a3; have x4 : w3.cell? ⟨w.heap.size, 2, none⟩ = some (.int .i64 bits) := heap_cell a3; have x2 : w3.cell? ⟨gr, 0, none⟩ = some (.slice A l.length c) := heap_cell r3; have x3 : w3.cell? ⟨gr, 1, none⟩ = some (.int .i64 k) := heap_cell r3; clear a3 r3 n3) | (go_at_call 24; (with_reducible refine (rtake_one A c l k _ (hr.below W3.out) hcap hn hm).mono ?_); rintro e w4 ⟨Aw, cw, rfl, hw, hb0⟩; rw [HO1.out] at hw; have W4 := Aside0.mk hw; clear hw; have hb : Below w3.heap.size w3 w4 := hb0; clear hb0; have B4 := Aside0.mk hb; have a4 := (hb.block _ (heap_lt A3.out)).trans A3.out; have n4 := (hb.block _ (heap_lt N3.out)).trans N3.out; have r4 := (hb.block _ (heap_lt R3.out)).trans R3.out; have N4 := Aside0.mk n4; have z1 : w4.cell? ⟨w.heap.size, 1, none⟩ = some (.int .i64 n) := heap_cell a4; have z4 : w4.cell? ⟨w.heap.size, 2, none⟩ = some (.int .i64 bits) := heap_cell a4; have z2 : w4.cell? ⟨gr, 0, none⟩ = some (.slice A l.length c) := heap_cell r4; have z3 : w4.cell? ⟨gr, 1, none⟩ = some (.int .i64 k) := heap_cell r4; have u1 : ∀ u v, ((w4.setCell ⟨w.heap.size + 1, 0, none⟩ u).setCell ⟨w.heap.size + 1, 1, none⟩ v).cell? ⟨gr, 0, none⟩ = some (.slice A l.length c) := fun u v => heap_cell (set2_kept r4 (by omega) u v); have u2 : ∀ u v, ((w4.setCell ⟨w.heap.size + 1, 0, none⟩ u).setCell ⟨w.heap.size + 1, 1, none⟩ v).cell? ⟨gr, 1, none⟩ = some (.int .i64 k) := fun u v => heap_cell (set2_kept r4 (by omega) u v); have y0 : w4.cell? ⟨w.heap.size + 1, 0, none⟩ = some (.slice A l.length c) := heap_cell n4; have y1 : w4.cell? ⟨w.heap.size + 1, 1, none⟩ = some (.int .i64 k) := heap_cell n4; have y2 : w4.frozen? ⟨w.heap.size + 1, 0, none⟩ = false := heap_free n4; have y3 : w4.frozen? ⟨w.heap.size + 1, 1, none⟩ = false := heap_free n4; clear hb a4 n4 r4; obtain ⟨gw, ca, e1, hg1, hg2⟩ := W4.out.form (by decide); injection e1 with e1 e2 e3; subst e1; subst e3; have o1 : ∀ u v, ((w4.setCell ⟨w.heap.size + 1, 0, none⟩ u).setCell ⟨w.heap.size + 1, 1, none⟩ v).cell? ⟨gw, 0, none⟩ = some (.int .u64 (l.getD k 0)) := fun u v => (own_set2 W4.out N4.out (by decide) u v).cells (g := gw) rfl 0 _ rfl))
          go_meet
          exact did_at (by rw [HK.out, HK2.out]; exact did_of hR hgl T3.out E3.out G3.out B4.out hgr (Below.refl _ _))
        · have HC := Aside0.mk hc
          have HK2 : Aside0 (takes l.length k 1 = k) := ⟨by unfold takes; rw [if_neg hc]⟩
          clear hc
          go_wp2_with (first | (go_at_call 12; (with_reducible refine (next_bad g l k _ HT.out HC.out).mono ?_); rintro e w3 ⟨v, rfl, hv, hb⟩; have G3 := Aside0.mk (grown_of_below hb (some g)); have E3 := Aside0.mk hv; have T3 := Aside0.mk (HT.out.keep hb); clear hv hb; have a3 := grown_kept G3.out A2.out (by omega); have r3 := grown_kept G3.out R2.out (fun e => hgr e.symm); have n3 := grown_kept G3.out N2.out (by omega); have A3 := Aside0.mk a3; have N3 := Aside0.mk n3; have R3 := Aside0.mk r3; have W3 := Aside0.mk (HB2.out.grown G3.out HS2.out (by intro q e; injection e with e; rw [← e]; exact hg0)); have x1 : w3.cell? ⟨w.heap.size, 1, none⟩ = some (.int .i64 n) := heap_cell a3; have x4 : w3.cell? ⟨w.heap.size, 2, none⟩ = some (.int .i64 bits) := heap_cell a3; have x2 : w3.cell? ⟨gr, 0, none⟩ = some (.slice A l.length c) := heap_cell r3; have x3 : w3.cell? ⟨gr, 1, none⟩ = some (.int .i64 k) := heap_cell r3; clear a3 r3 n3) | (go_at_call 24; (with_reducible refine (rtake_bad A c l k 1 _ hk hm HC.out).mono ?_); rintro e w4 ⟨rfl, hb0⟩; have hb : Below w3.heap.size w3 w4 := hb0; clear hb0; have B4 := Aside0.mk hb; have a4 := (hb.block _ (heap_lt A3.out)).trans A3.out; have n4 := (hb.block _ (heap_lt N3.out)).trans N3.out; have r4 := (hb.block _ (heap_lt R3.out)).trans R3.out; have N4 := Aside0.mk n4; have z1 : w4.cell? ⟨w.heap.size, 1, none⟩ = some (.int .i64 n) := heap_cell a4; have z4 : w4.cell? ⟨w.heap.size, 2, none⟩ = some (.int .i64 bits) := heap_cell a4; have z2 : w4.cell? ⟨gr, 0, none⟩ = some (.slice A l.length c) := heap_cell r4; have z3 : w4.cell? ⟨gr, 1, none⟩ = some (.int .i64 k) := heap_cell r4; have u1 : ∀ u v, ((w4.setCell ⟨w.heap.size + 1, 0, none⟩ u).setCell ⟨w.heap.size + 1, 1, none⟩ v).cell? ⟨gr, 0, none⟩ = some (.slice A l.length c) := fun u v => heap_cell (set2_kept r4 (by omega) u v); have u2 : ∀ u v, ((w4.setCell ⟨w.heap.size + 1, 0, none⟩ u).setCell ⟨w.heap.size + 1, 1, none⟩ v).cell? ⟨gr, 1, none⟩ = some (.int .i64 k) := fun u v => heap_cell (set2_kept r4 (by omega) u v); have y0 : w4.cell? ⟨w.heap.size + 1, 0, none⟩ = some (.slice A l.length c) := heap_cell n4; have y1 : w4.cell? ⟨w.heap.size + 1, 1, none⟩ = some (.int .i64 k) := heap_cell n4; have y2 : w4.frozen? ⟨w.heap.size + 1, 0, none⟩ = false := heap_free n4; have y3 : w4.frozen? ⟨w.heap.size + 1, 1, none⟩ = false := heap_free n4; clear hb a4 n4 r4))
          go_meet
          exact did_at (by rw [HK.out, HK2.out]; exact did_of hR hgl T3.out E3.out G3.out B4.out hgr (Below.refl _ _))
      · have kb1 : (kind == 1) = false := by simpa using k1
        have q1 : Aside0 (¬ kind = 1) := ⟨k1⟩; clear k1
        by_cases k2 : kind = 2
        · have kb2 : (kind == 2) = true := by simpa using k2
          have HK : Aside0 (nextAt kind n bits l.length k = (if 1 ≤ bits ∧ bits ≤ 64 then takes l.length k n else k)) := ⟨by unfold nextAt; rw [if_neg q0.out, if_neg q1.out, if_pos k2]⟩
          clear k2
          by_cases hbb : 1 ≤ bits ∧ bits ≤ 64
          · have HK1 : Aside0 ((if 1 ≤ bits ∧ bits ≤ 64 then takes l.length k n else k) = takes l.length k n) := ⟨if_pos hbb⟩
            have HNC : Aside0 (numC bits n (l.length - k) = readyC n (l.length - k)) := ⟨by unfold numC; rw [if_pos hbb]⟩
            obtain ⟨hb1, hb64⟩ := hbb
            obtain ⟨bb, rfl⟩ := Int.eq_ofNat_of_zero_le (show 0 ≤ bits by omega)
            by_cases hc : readyC n (l.length - k) = 0
            · obtain ⟨hn0, hn1⟩ := readyC_zero hc
              have HK2 : Aside0 (takes l.length k n = k + (n : Int).toNat) := ⟨by unfold takes; rw [if_pos hc]⟩
              clear hc
              obtain ⟨nn, rfl⟩ := Int.eq_ofNat_of_zero_le hn0
              rw [Int.toNat_natCast] at HK2
              have hn : k + nn ≤ l.length := by omega
              have hw1 : IntKind.i64.wrap ((k : Int) + nn) = (k : Int) + nn := IntWalk.i64_in _ (by omega)
              clear hn0 hn1
              go_wp2_with (first | (go_at_call 25; (with_reducible refine (num_okn g l k nn bb _ HT.out hn (by omega) (by omega) hu).mono ?_); rintro e w3 ⟨Av, cv, rfl, hv, ht, hg⟩; have V3 := Aside0.mk hv; have T3 := Aside0.mk ht; have G3 := Aside0.mk hg; have E3 := Aside0.mk (ErrV.nil0 (w := w3)); clear hv ht hg; have a3 := grown_kept G3.out A2.out (by omega); have r3 := grown_kept G3.out R2.out (fun e => hgr e.symm); have n3 := grown_kept G3.out N2.out (by omega); have A3 := Aside0.mk a3; have N3 := Aside0.mk n3; have R3 := Aside0.mk r3; have W3 := Aside0.mk (HB2.out.grown G3.out HS2.out (by intro q e; injection e with e; rw [← e]; exact hg0)); have x1 : w3.cell? ⟨w.heap.size, 1, none⟩ = some (.int .i64 (nn : Int)) := heap_cell a3; have x4 : w3.cell? ⟨w.heap.size, 2, none⟩ = some (.int .i64 (bb : Int)) := heap_cell a3; have x2 : w3.cell? ⟨gr, 0, none⟩ = some (.slice A l.length c) := heap_cell r3; have x3 : w3.cell? ⟨gr, 1, none⟩ = some (.int .i64 k) := heap_cell r3; clear a3 r3 n3))
              go_region_held3 (fun w' => w'.cell? ⟨w.heap.size, 1, none⟩ = some (.int .i64 (nn : Int)) ∧ w'.cell? ⟨w.heap.size, 2, none⟩ = some (.int .i64 (bb : Int)) ∧ w'.cell? ⟨gr, 0, none⟩ = some (.slice A l.length c) ∧ w'.cell? ⟨gr, 1, none⟩ = some (.int .i64 k)) (go_keep) (first | (go_at_call 26; (with_reducible refine (rnum_okn A c l k nn bb _ (hr.below ((W3.out.trans (below_drew (Below.refl _ _))))) hcap hn hm (by omega) (by omega) hu).mono ?_); rintro e w4 ⟨Aw, cw, rfl, hw, hb0⟩; have W4 := Aside0.mk hw; clear hw; have hb : Below w3.heap.size w3 w4 := (below_drew (Below.refl _ _)).trans hb0; clear hb0; have B4 := Aside0.mk hb; have a4 := (hb.block _ (heap_lt A3.out)).trans A3.out; have n4 := (hb.block _ (heap_lt N3.out)).trans N3.out; have r4 := (hb.block _ (heap_lt R3.out)).trans R3.out; have N4 := Aside0.mk n4; have z1 : w4.cell? ⟨w.heap.size, 1, none⟩ = some (.int .i64 (nn : Int)) := heap_cell a4; have z4 : w4.cell? ⟨w.heap.size, 2, none⟩ = some (.int .i64 (bb : Int)) := heap_cell a4; have z2 : w4.cell? ⟨gr, 0, none⟩ = some (.slice A l.length c) := heap_cell r4; have z3 : w4.cell? ⟨gr, 1, none⟩ = some (.int .i64 k) := heap_cell r4; have u1 : ∀ u v, ((w4.setCell ⟨w.heap.size + 1, 0, none⟩ u).setCell ⟨w.heap.size + 1, 1, none⟩ v).cell? ⟨gr, 0, none⟩ = some (.slice A l.length c) := fun u v => heap_cell (set2_kept r4 (by omega) u v); have u2 : ∀ u v, ((w4.setCell ⟨w.heap.size + 1, 0, none⟩ u).setCell ⟨w.heap.size + 1, 1, none⟩ v).cell? ⟨gr, 1, none⟩ = some (.int .i64 k) := fun u v => heap_cell (set2_kept r4 (by omega) u v); have y0 : w4.cell? ⟨w.heap.size + 1, 0, none⟩ = some (.slice A l.length c) := heap_cell n4; have y1 : w4.cell? ⟨w.heap.size + 1, 1, none⟩ = some (.int .i64 k) := heap_cell n4; have y2 : w4.frozen? ⟨w.heap.size + 1, 0, none⟩ = false := heap_free n4; have y3 : w4.frozen? ⟨w.heap.size + 1, 1, none⟩ = false := heap_free n4; clear hb a4 n4 r4))
              go_wp2_with ((go_at_call 10; (with_reducible refine (nums_eqn Av Aw nn cv cw ((cutOf l k nn).map (cutW bb)) _ (own_int (own_set2 (own_keep V3.out B4.out) N4.out (by decide) _ _)) (own_int (own_set2 W4.out N4.out (by decide) _ _))).mono ?_); rintro e w5 ⟨rfl, n5, rfl⟩; skip))
              go_meet
              exact did_at (by rw [HK.out, HK1.out, HK2.out]; exact did_of hR hgl T3.out E3.out G3.out B4.out hgr (pw_below_drewN (Below.refl _ _) n5))
            · have HC := Aside0.mk hc
              have HK2 : Aside0 (takes l.length k n = k) := ⟨by unfold takes; rw [if_neg hc]⟩
              clear hc
              go_wp2_with (first | (go_at_call 25; (with_reducible refine (num_bad g l k n bb _ HT.out (by rw [HNC.out]; exact HC.out)).mono ?_); rintro e w3 ⟨v, rfl, hv, hb⟩; have G3 := Aside0.mk (grown_of_below hb (some g)); rw [HNC.out] at hv; have E3 := Aside0.mk hv; have T3 := Aside0.mk (HT.out.keep hb); clear hv hb; have a3 := grown_kept G3.out A2.out (by omega); have r3 := grown_kept G3.out R2.out (fun e => hgr e.symm); have n3 := grown_kept G3.out N2.out (by omega); have A3 := Aside0.mk a3; have N3 := Aside0.mk n3; have R3 := Aside0.mk r3; have W3 := Aside0.mk (HB2.out.grown G3.out HS2.out (by intro q e; injection e with e; rw [← e]; exact hg0)); have x1 : w3.cell? ⟨w.heap.size, 1, none⟩ = some (.int .i64 n) := heap_cell a3; have x4 : w3.cell? ⟨w.heap.size, 2, none⟩ = some (.int .i64 (bb : Int)) := heap_cell a3; have x2 : w3.cell? ⟨gr, 0, none⟩ = some (.slice A l.length c) := heap_cell r3; have x3 : w3.cell? ⟨gr, 1, none⟩ = some (.int .i64 k) := heap_cell r3; clear a3 r3 n3))
              go_region_held3 (fun w' => w'.cell? ⟨w.heap.size, 1, none⟩ = some (.int .i64 n) ∧ w'.cell? ⟨w.heap.size, 2, none⟩ = some (.int .i64 (bb : Int)) ∧ w'.cell? ⟨gr, 0, none⟩ = some (.slice A l.length c) ∧ w'.cell? ⟨gr, 1, none⟩ = some (.int .i64 k)) (go_keep) (first | (go_at_call 26; (with_reducible refine (rnum_bad A c l k n bb _ hk hm hb1 hb64 HC.out).mono ?_); rintro e w4 ⟨rfl, hb0⟩; have hb : Below w3.heap.size w3 w4 := (below_drew (Below.refl _ _)).trans hb0; clear hb0; have B4 := Aside0.mk hb; have a4 := (hb.block _ (heap_lt A3.out)).trans A3.out; have n4 := (hb.block _ (heap_lt N3.out)).trans N3.out; have r4 := (hb.block _ (heap_lt R3.out)).trans R3.out; have N4 := Aside0.mk n4; have z1 : w4.cell? ⟨w.heap.size, 1, none⟩ = some (.int .i64 n) := heap_cell a4; have z4 : w4.cell? ⟨w.heap.size, 2, none⟩ = some (.int .i64 (bb : Int)) := heap_cell a4; have z2 : w4.cell? ⟨gr, 0, none⟩ = some (.slice A l.length c) := heap_cell r4; have z3 : w4.cell? ⟨gr, 1, none⟩ = some (.int .i64 k) := heap_cell r4; have u1 : ∀ u v, ((w4.setCell ⟨w.heap.size + 1, 0, none⟩ u).setCell ⟨w.heap.size + 1, 1, none⟩ v).cell? ⟨gr, 0, none⟩ = some (.slice A l.length c) := fun u v => heap_cell (set2_kept r4 (by omega) u v); have u2 : ∀ u v, ((w4.setCell ⟨w.heap.size + 1, 0, none⟩ u).setCell ⟨w.heap.size + 1, 1, none⟩ v).cell? ⟨gr, 1, none⟩ = some (.int .i64 k) := fun u v => heap_cell (set2_kept r4 (by omega) u v); have y0 : w4.cell? ⟨w.heap.size + 1, 0, none⟩ = some (.slice A l.length c) := heap_cell n4; have y1 : w4.cell? ⟨w.heap.size + 1, 1, none⟩ = some (.int .i64 k) := heap_cell n4; have y2 : w4.frozen? ⟨w.heap.size + 1, 0, none⟩ = false := heap_free n4; have y3 : w4.frozen? ⟨w.heap.size + 1, 1, none⟩ = false := heap_free n4; clear hb a4 n4 r4))
              go_wp2_with ((go_at_call 10; (with_reducible refine (nums_eqn none none 0 0 0 [] _ (reads_nil _) (reads_nil _)).mono ?_); rintro e w5 ⟨rfl, n5, rfl⟩; skip))
              go_meet
              exact did_at (by rw [HK.out, HK1.out, HK2.out]; exact did_of hR hgl T3.out E3.out G3.out B4.out hgr (pw_below_drewN (Below.refl _ _) n5))
          · have HK1 : Aside0 ((if 1 ≤ bits ∧ bits ≤ 64 then takes l.length k n else k) = k) := ⟨if_neg hbb⟩
            have HNC : Aside0 (numC bits n (l.length - k) = 11) := ⟨by unfold numC; rw [if_neg hbb]⟩
            have HBB := Aside0.mk hbb; clear hbb
            go_wp2_with (first | (go_at_call 25; (with_reducible refine (num_bad g l k n bits _ HT.out (by rw [HNC.out]; decide)).mono ?_); rintro e w3 ⟨v, rfl, hv, hb⟩; have G3 := Aside0.mk (grown_of_below hb (some g)); rw [HNC.out] at hv; have E3 := Aside0.mk hv; have T3 := Aside0.mk (HT.out.keep hb); clear hv hb; have a3 := grown_kept G3.out A2.out (by omega); have r3 := grown_kept G3.out R2.out (fun e => hgr e.symm); have n3 := grown_kept G3.out N2.out (by omega); have A3 := Aside0.mk a3; have N3 := Aside0.mk n3; have R3 := Aside0.mk r3; have W3 := Aside0.mk (HB2.out.grown G3.out HS2.out (by intro q e; injection e with e; rw [← e]; exact hg0)); have x1 : w3.cell? ⟨w.heap.size, 1, none⟩ = some (.int .i64 n) := heap_cell a3; have x4 : w3.cell? ⟨w.heap.size, 2, none⟩ = some (.int .i64 bits) := heap_cell a3; have x2 : w3.cell? ⟨gr, 0, none⟩ = some (.slice A l.length c) := heap_cell r3; have x3 : w3.cell? ⟨gr, 1, none⟩ = some (.int .i64 k) := heap_cell r3; clear a3 r3 n3))
            go_region_held3 (fun w' => w'.cell? ⟨w.heap.size, 1, none⟩ = some (.int .i64 n) ∧ w'.cell? ⟨w.heap.size, 2, none⟩ = some (.int .i64 bits) ∧ w'.cell? ⟨gr, 0, none⟩ = some (.slice A l.length c) ∧ w'.cell? ⟨gr, 1, none⟩ = some (.int .i64 k)) (go_keep) (first | (go_at_call 26; (with_reducible refine (rnum_shape A c l k n bits _ HBB.out).mono ?_); rintro e w4 ⟨rfl, hb0⟩; have hb : Below w3.heap.size w3 w4 := (below_drew (Below.refl _ _)).trans hb0; clear hb0; have B4 := Aside0.mk hb; have a4 := (hb.block _ (heap_lt A3.out)).trans A3.out; have n4 := (hb.block _ (heap_lt N3.out)).trans N3.out; have r4 := (hb.block _ (heap_lt R3.out)).trans R3.out; have N4 := Aside0.mk n4; have z1 : w4.cell? ⟨w.heap.size, 1, none⟩ = some (.int .i64 n) := heap_cell a4; have z4 : w4.cell? ⟨w.heap.size, 2, none⟩ = some (.int .i64 bits) := heap_cell a4; have z2 : w4.cell? ⟨gr, 0, none⟩ = some (.slice A l.length c) := heap_cell r4; have z3 : w4.cell? ⟨gr, 1, none⟩ = some (.int .i64 k) := heap_cell r4; have u1 : ∀ u v, ((w4.setCell ⟨w.heap.size + 1, 0, none⟩ u).setCell ⟨w.heap.size + 1, 1, none⟩ v).cell? ⟨gr, 0, none⟩ = some (.slice A l.length c) := fun u v => heap_cell (set2_kept r4 (by omega) u v); have u2 : ∀ u v, ((w4.setCell ⟨w.heap.size + 1, 0, none⟩ u).setCell ⟨w.heap.size + 1, 1, none⟩ v).cell? ⟨gr, 1, none⟩ = some (.int .i64 k) := fun u v => heap_cell (set2_kept r4 (by omega) u v); have y0 : w4.cell? ⟨w.heap.size + 1, 0, none⟩ = some (.slice A l.length c) := heap_cell n4; have y1 : w4.cell? ⟨w.heap.size + 1, 1, none⟩ = some (.int .i64 k) := heap_cell n4; have y2 : w4.frozen? ⟨w.heap.size + 1, 0, none⟩ = false := heap_free n4; have y3 : w4.frozen? ⟨w.heap.size + 1, 1, none⟩ = false := heap_free n4; clear hb a4 n4 r4))
            go_wp2_with ((go_at_call 10; (with_reducible refine (nums_eqn none none 0 0 0 [] _ (reads_nil _) (reads_nil _)).mono ?_); rintro e w5 ⟨rfl, n5, rfl⟩; skip))
            go_meet
            exact did_at (by rw [HK.out, HK1.out]; exact did_of hR hgl T3.out E3.out G3.out B4.out hgr (pw_below_drewN (Below.refl _ _) n5))
        · have kb2 : (kind == 2) = false := by simpa using k2
          have q2 : Aside0 (¬ kind = 2) := ⟨k2⟩; clear k2
          by_cases k3 : kind = 3
          · have kb3 : (kind == 3) = true := by simpa using k3
            have HK : Aside0 (nextAt kind n bits l.length k = takes l.length k n) := ⟨by unfold nextAt; rw [if_neg q0.out, if_neg q1.out, if_neg q2.out, if_pos k3]⟩
            clear k3
            by_cases hc : readyC n (l.length - k) = 0
            · obtain ⟨hn0, hn1⟩ := readyC_zero hc
              have HK2 : Aside0 (takes l.length k n = k + (n : Int).toNat) := ⟨by unfold takes; rw [if_pos hc]⟩
              clear hc
              obtain ⟨nn, rfl⟩ := Int.eq_ofNat_of_zero_le hn0
              rw [Int.toNat_natCast] at HK2
              have hn : k + nn ≤ l.length := by omega
              have hw1 : IntKind.i64.wrap ((k : Int) + nn) = (k : Int) + nn := IntWalk.i64_in _ (by omega)
              clear hn0 hn1
              go_wp2_with (first | (go_at_call 14; (with_reducible refine (bits_okn g l k nn _ HT.out hn hu).mono ?_); rintro e w3 ⟨Av, cv, rfl, hv, ht, hg⟩; have V3 := Aside0.mk hv; have T3 := Aside0.mk ht; have G3 := Aside0.mk hg; have E3 := Aside0.mk (ErrV.nil0 (w := w3)); clear hv ht hg; have a3 := grown_kept G3.out A2.out (by omega); have r3 := grown_kept G3.out R2.out (fun e => hgr e.symm); have n3 := grown_kept G3.out N2.out (by omega); have A3 := Aside0.mk a3; have N3 := Aside0.mk n3; have R3 := Aside0.mk r3; have W3 := Aside0.mk (HB2.out.grown G3.out HS2.out (by intro q e; injection e with e; rw [← e]; exact hg0)); have x1 : w3.cell? ⟨w.heap.size, 1, none⟩ = some (.int .i64 (nn : Int)) := heap_cell a3; have x4 : w3.cell? ⟨w.heap.size, 2, none⟩ = some (.int .i64 bits) := heap_cell a3; have x2 : w3.cell? ⟨gr, 0, none⟩ = some (.slice A l.length c) := heap_cell r3; have x3 : w3.cell? ⟨gr, 1, none⟩ = some (.int .i64 k) := heap_cell r3; clear a3 r3 n3))
              go_region_held3 (fun w' => w'.cell? ⟨w.heap.size, 1, none⟩ = some (.int .i64 (nn : Int)) ∧ w'.cell? ⟨gr, 0, none⟩ = some (.slice A l.length c) ∧ w'.cell? ⟨gr, 1, none⟩ = some (.int .i64 k)) (go_keep) (first | (go_at_call 24; (with_reducible refine (rtake_okn A c l k nn _ (hr.below ((W3.out.trans (below_drew (Below.refl _ _))))) hcap hn hm).mono ?_); rintro e w4 ⟨Aw, cw, rfl, hw, hb0⟩; have W4 := Aside0.mk hw; clear hw; have hb : Below w3.heap.size w3 w4 := (below_drew (Below.refl _ _)).trans hb0; clear hb0; have B4 := Aside0.mk hb; have a4 := (hb.block _ (heap_lt A3.out)).trans A3.out; have n4 := (hb.block _ (heap_lt N3.out)).trans N3.out; have r4 := (hb.block _ (heap_lt R3.out)).trans R3.out; have N4 := Aside0.mk n4; have z1 : w4.cell? ⟨w.heap.size, 1, none⟩ = some (.int .i64 (nn : Int)) := heap_cell a4; have z4 : w4.cell? ⟨w.heap.size, 2, none⟩ = some (.int .i64 bits) := heap_cell a4; have z2 : w4.cell? ⟨gr, 0, none⟩ = some (.slice A l.length c) := heap_cell r4; have z3 : w4.cell? ⟨gr, 1, none⟩ = some (.int .i64 k) := heap_cell r4; have u1 : ∀ u v, ((w4.setCell ⟨w.heap.size + 1, 0, none⟩ u).setCell ⟨w.heap.size + 1, 1, none⟩ v).cell? ⟨gr, 0, none⟩ = some (.slice A l.length c) := fun u v => heap_cell (set2_kept r4 (by omega) u v); have u2 : ∀ u v, ((w4.setCell ⟨w.heap.size + 1, 0, none⟩ u).setCell ⟨w.heap.size + 1, 1, none⟩ v).cell? ⟨gr, 1, none⟩ = some (.int .i64 k) := fun u v => heap_cell (set2_kept r4 (by omega) u v); have y0 : w4.cell? ⟨w.heap.size + 1, 0, none⟩ = some (.slice A l.length c) := heap_cell n4; have y1 : w4.cell? ⟨w.heap.size + 1, 1, none⟩ = some (.int .i64 k) := heap_cell n4; have y2 : w4.frozen? ⟨w.heap.size + 1, 0, none⟩ = false := heap_free n4; have y3 : w4.frozen? ⟨w.heap.size + 1, 1, none⟩ = false := heap_free n4; clear hb a4 n4 r4))
              have HV5 := Aside0.mk (own_set2 (own_keep V3.out B4.out) N4.out (by decide) (.slice A l.length c) (.int .i64 ((k : Int) + nn)))
              have HW5 := Aside0.mk (own_set2 W4.out N4.out (by decide) (.slice A l.length c) (.int .i64 ((k : Int) + nn)))
              clear u1 u2 z1 z2 z3 z4 y0 y1 y2 y3
              go_wp2
              have S5 : Aside0 (∃ ws, ws = ((w4.setCell ⟨w.heap.size + 1, 0, none⟩ (.slice A l.length c)).setCell ⟨w.heap.size + 1, 1, none⟩ (.int .i64 ((k : Int) + nn)))) := ⟨_, rfl⟩
              obtain ⟨ws, hws⟩ := S5.out
              rw [← hws] at HV5 HW5 ⊢
              have HWS := Aside0.mk hws; clear hws S5
              go_loopw [11, 20] (fun s11 s20 wr => ∃ j n5 : Nat, j ≤ nn ∧ s20 = .int .i64 j ∧ s11 = .bool true ∧ wr = ws.drewN n5) (fun _ s20 _ => nn - (intOf s20).toNat)
              case atStart => exact ⟨0, 0, Nat.zero_le _, rfl, rfl, rfl⟩
              case round =>
                obtain ⟨j, n5, hj, rfl, rfl, rfl⟩ := hrel
                by_cases hlt : j < nn
                · obtain ⟨ad, rfl, hx⟩ := (own_int HW5.out).at_ (j : Int) (by omega) (by omega)
                  obtain ⟨gv, cap, ev, hg1, hg2⟩ := HV5.out.form (by omega)
                  injection ev with ev1 ev2 ev3
                  subst ev1; subst ev3
                  obtain ⟨hy, _⟩ := own_at_of (d := false) HV5.out (j : Int) (by omega) (by omega)
                  have hrd : rd (cutOf l k nn) (j : Int) = (cutOf l k nn).getD j 0 := by unfold rd; rw [Int.toNat_natCast]
                  have hro : rdOf false ((cutOf l k nn).map oddB) (j : Int) = oddB ((cutOf l k nn).getD j 0) := by
                    unfold rdOf
                    have hjl : j < (cutOf l k nn).length := by rw [cutOf_length l k nn hn]; exact hlt
                    rw [Int.toNat_natCast]
                    simp [List.getD_eq_getElem?_getD, List.getElem?_eq_getElem hjl]
                  rw [hrd] at hx
                  rw [hro] at hy
                  simp only [Int.toNat_natCast] at hx hy
                  unfold oddB at hy
                  have hx0 := (hu.cut k nn).getD j
                  clear hrd hro
                  generalize (cutOf l k nn).getD j 0 = x at hx hy hx0
                  have p0 : (0 : Int) ≤ (j : Int) := by omega
                  have p1 : (j : Int) < (nn : Int) := by omega
                  have p2 : Int.tmod x 2 = x % 2 := Int.tmod_eq_emod_of_nonneg hx0.1
                  go_wp2
                  go_quiet (fail)
                  go_wp2
                  go_roundw
                  case rel => exact ⟨j + 1, _, by omega, by go_num, rfl, rfl⟩
                  case measure => simp [intOf]; omega
                · go_wp2
                  go_meet
                  exact did_at (by rw [HK.out, HK2.out]; exact did_of hR hgl T3.out E3.out G3.out B4.out hgr (by rw [HWS.out]; exact pw_below_drewN (Below.refl _ _) n5))
            · have HC := Aside0.mk hc
              have HK2 : Aside0 (takes l.length k n = k) := ⟨by unfold takes; rw [if_neg hc]⟩
              clear hc
              go_wp2_with (first | (go_at_call 14; (with_reducible refine (bits_bad g l k n _ HT.out HC.out).mono ?_); rintro e w3 ⟨v, rfl, hv, hb⟩; have G3 := Aside0.mk (grown_of_below hb (some g)); have E3 := Aside0.mk hv; have T3 := Aside0.mk (HT.out.keep hb); clear hv hb; have a3 := grown_kept G3.out A2.out (by omega); have r3 := grown_kept G3.out R2.out (fun e => hgr e.symm); have n3 := grown_kept G3.out N2.out (by omega); have A3 := Aside0.mk a3; have N3 := Aside0.mk n3; have R3 := Aside0.mk r3; have W3 := Aside0.mk (HB2.out.grown G3.out HS2.out (by intro q e; injection e with e; rw [← e]; exact hg0)); have x1 : w3.cell? ⟨w.heap.size, 1, none⟩ = some (.int .i64 n) := heap_cell a3; have x4 : w3.cell? ⟨w.heap.size, 2, none⟩ = some (.int .i64 bits) := heap_cell a3; have x2 : w3.cell? ⟨gr, 0, none⟩ = some (.slice A l.length c) := heap_cell r3; have x3 : w3.cell? ⟨gr, 1, none⟩ = some (.int .i64 k) := heap_cell r3; clear a3 r3 n3))
              go_region_held3 (fun w' => w'.cell? ⟨w.heap.size, 1, none⟩ = some (.int .i64 n) ∧ w'.cell? ⟨gr, 0, none⟩ = some (.slice A l.length c) ∧ w'.cell? ⟨gr, 1, none⟩ = some (.int .i64 k)) (go_keep) (first | (go_at_call 24; (with_reducible refine (rtake_bad A c l k n _ hk hm HC.out).mono ?_); rintro e w4 ⟨rfl, hb0⟩; have hb : Below w3.heap.size w3 w4 := (below_drew (Below.refl _ _)).trans hb0; clear hb0; have B4 := Aside0.mk hb; have a4 := (hb.block _ (heap_lt A3.out)).trans A3.out; have n4 := (hb.block _ (heap_lt N3.out)).trans N3.out; have r4 := (hb.block _ (heap_lt R3.out)).trans R3.out; have N4 := Aside0.mk n4; have z1 : w4.cell? ⟨w.heap.size, 1, none⟩ = some (.int .i64 n) := heap_cell a4; have z4 : w4.cell? ⟨w.heap.size, 2, none⟩ = some (.int .i64 bits) := heap_cell a4; have z2 : w4.cell? ⟨gr, 0, none⟩ = some (.slice A l.length c) := heap_cell r4; have z3 : w4.cell? ⟨gr, 1, none⟩ = some (.int .i64 k) := heap_cell r4; have u1 : ∀ u v, ((w4.setCell ⟨w.heap.size + 1, 0, none⟩ u).setCell ⟨w.heap.size + 1, 1, none⟩ v).cell? ⟨gr, 0, none⟩ = some (.slice A l.length c) := fun u v => heap_cell (set2_kept r4 (by omega) u v); have u2 : ∀ u v, ((w4.setCell ⟨w.heap.size + 1, 0, none⟩ u).setCell ⟨w.heap.size + 1, 1, none⟩ v).cell? ⟨gr, 1, none⟩ = some (.int .i64 k) := fun u v => heap_cell (set2_kept r4 (by omega) u v); have y0 : w4.cell? ⟨w.heap.size + 1, 0, none⟩ = some (.slice A l.length c) := heap_cell n4; have y1 : w4.cell? ⟨w.heap.size + 1, 1, none⟩ = some (.int .i64 k) := heap_cell n4; have y2 : w4.frozen? ⟨w.heap.size + 1, 0, none⟩ = false := heap_free n4; have y3 : w4.frozen? ⟨w.heap.size + 1, 1, none⟩ = false := heap_free n4; clear hb a4 n4 r4))
              go_wp2
              refine wp_loop_rounds 1 ?_
              rw [rounds_succ]
              go_wp2
              go_meet
              exact did_at (by rw [HK.out, HK2.out]; exact did_of hR hgl T3.out E3.out G3.out B4.out hgr (Below.refl _ _))
          · have kb3 : (kind == 3) = false := by simpa using k3
            have q3 : Aside0 (¬ kind = 3) := ⟨k3⟩; clear k3
            by_cases k4 : kind = 4
            · have kb4 : (kind == 4) = true := by simpa using k4
              have HK : Aside0 (nextAt kind n bits l.length k = takes l.length k 4) := ⟨by unfold nextAt; rw [if_neg q0.out, if_neg q1.out, if_neg q2.out, if_neg q3.out, if_pos k4]⟩
              clear k4
              by_cases hc : readyC 4 (l.length - k) = 0
              · obtain ⟨hn0, hn1⟩ := readyC_zero hc
                have HK2 : Aside0 (takes l.length k 4 = k + (4 : Int).toNat) := ⟨by unfold takes; rw [if_pos hc]⟩
                clear hc
                have hn : k + 4 ≤ l.length := by omega
                replace HK2 : Aside0 (takes l.length k 4 = k + 4) := ⟨HK2.out⟩
                have hw1 : IntKind.i64.wrap ((k : Int) + 4) = (k : Int) + 4 := IntWalk.i64_in _ (by omega)
                clear hn0 hn1
                have HI : Aside0 ((Tryd.prog.info? 42).map (·.size) = some (seedL (cutOf l k 4) 32).toArray.size) := ⟨by rw [List.size_toArray, seedL_length]; kernel_rfl⟩
                have HS1 : Aside0 (zeros32.size = (seedL (cutOf l k 4) 32).toArray.size) := ⟨by have h : (seedL (cutOf l k 4) 32).toArray.size = 32 := (by rw [List.size_toArray, seedL_length]); rw [h]; rfl⟩
                go_wp2_with (first | (go_at_call 13; (with_reducible refine (seed_ok g l k _ HT.out hn hu).mono ?_); rintro e w3 ⟨rfl, ht, hg⟩; have T3 := Aside0.mk ht; have G3 := Aside0.mk hg; have E3 := Aside0.mk (ErrV.nil0 (w := w3)); clear ht hg; have a3 := grown_kept G3.out A2.out (by omega); have r3 := grown_kept G3.out R2.out (fun e => hgr e.symm); have n3 := grown_kept G3.out N2.out (by omega); have A3 := Aside0.mk a3; have N3 := Aside0.mk n3; have R3 := Aside0.mk r3; have W3 := Aside0.mk (HB2.out.grown G3.out HS2.out (by intro q e; injection e with e; rw [← e]; exact hg0)); have x1 : w3.cell? ⟨w.heap.size, 1, none⟩ = some (.int .i64 n) := heap_cell a3; have x4 : w3.cell? ⟨w.heap.size, 2, none⟩ = some (.int .i64 bits) := heap_cell a3; have x2 : w3.cell? ⟨gr, 0, none⟩ = some (.slice A l.length c) := heap_cell r3; have x3 : w3.cell? ⟨gr, 1, none⟩ = some (.int .i64 k) := heap_cell r3; clear a3 r3 n3; have x5 : ∀ o : Obj, (w3.alloc o).cell? ⟨gr, 0, none⟩ = some (.slice A l.length c) := fun o => heap_cell (kept_new R3.out o); have x6 : ∀ o : Obj, (w3.alloc o).cell? ⟨gr, 1, none⟩ = some (.int .i64 k) := fun o => heap_cell (kept_new R3.out o)) | ((with_reducible refine gate_store (t := 42) (p := 21) rfl ?_); refine wpList_store_row rfl 42 (.tmp 21) (.tmp 176) rfl w3.heap.size (seedL (cutOf l k 4) 32).toArray rfl rfl 42 zeros32 (heap_alloc_new w3 _) HI.out HS1.out (seedL_one _ _) ?_; rw [World.setRow_alloc_new]) | (go_at_call 24; (with_reducible refine (rtake_four A c l k _ (hr.below (W3.out.trans ((below_alloc (Below.refl w3.heap.size w3) _).mono W3.out.size))) hcap hn hm).mono ?_); rintro e w4 ⟨Aw, cw, rfl, hw, hb0⟩; have W4 := Aside0.mk hw; clear hw; have hs4 := (hb0.block w3.heap.size (by simp)).trans (heap_alloc_new w3 _); have H4 := Aside0.mk hs4; have hb : Below w3.heap.size w3 w4 := (below_alloc (Below.refl w3.heap.size w3) _).trans (hb0.mono (by simp)); clear hs4 hb0; have B4 := Aside0.mk hb; have a4 := (hb.block _ (heap_lt A3.out)).trans A3.out; have n4 := (hb.block _ (heap_lt N3.out)).trans N3.out; have r4 := (hb.block _ (heap_lt R3.out)).trans R3.out; have N4 := Aside0.mk n4; have z1 : w4.cell? ⟨w.heap.size, 1, none⟩ = some (.int .i64 n) := heap_cell a4; have z4 : w4.cell? ⟨w.heap.size, 2, none⟩ = some (.int .i64 bits) := heap_cell a4; have z2 : w4.cell? ⟨gr, 0, none⟩ = some (.slice A l.length c) := heap_cell r4; have z3 : w4.cell? ⟨gr, 1, none⟩ = some (.int .i64 k) := heap_cell r4; have u1 : ∀ u v, ((w4.setCell ⟨w.heap.size + 1, 0, none⟩ u).setCell ⟨w.heap.size + 1, 1, none⟩ v).cell? ⟨gr, 0, none⟩ = some (.slice A l.length c) := fun u v => heap_cell (set2_kept r4 (by omega) u v); have u2 : ∀ u v, ((w4.setCell ⟨w.heap.size + 1, 0, none⟩ u).setCell ⟨w.heap.size + 1, 1, none⟩ v).cell? ⟨gr, 1, none⟩ = some (.int .i64 k) := fun u v => heap_cell (set2_kept r4 (by omega) u v); have y0 : w4.cell? ⟨w.heap.size + 1, 0, none⟩ = some (.slice A l.length c) := heap_cell n4; have y1 : w4.cell? ⟨w.heap.size + 1, 1, none⟩ = some (.int .i64 k) := heap_cell n4; have y2 : w4.frozen? ⟨w.heap.size + 1, 0, none⟩ = false := heap_free n4; have y3 : w4.frozen? ⟨w.heap.size + 1, 1, none⟩ = false := heap_free n4; clear hb a4 n4 r4))
                have hq := seeds_eql (cutOf l k 4)
                have HW5 := Aside0.mk (own_set2 W4.out N4.out (by decide) (.slice A l.length c) (.int .i64 ((k : Int) + 4)))
                have h5 := set2_kept (b := w.heap.size + 1) H4.out (by have := G3.out.size; simp at this; omega) (.slice A l.length c) (.int .i64 ((k : Int) + 4))
                have hr5 : ((w4.setCell ⟨w.heap.size + 1, 0, none⟩ (.slice A l.length c)).setCell ⟨w.heap.size + 1, 1, none⟩ (.int .i64 ((k : Int) + 4))).rangeAt w3.heap.size 0 (seedL (cutOf l k 4) 32) := range_of h5
                have S5 : Aside0 (∃ ws, ws = ((w4.setCell ⟨w.heap.size + 1, 0, none⟩ (.slice A l.length c)).setCell ⟨w.heap.size + 1, 1, none⟩ (.int .i64 ((k : Int) + 4)))) := ⟨_, rfl⟩
                obtain ⟨ws, hws⟩ := S5.out
                rw [← hws] at hr5 ⊢
                (try rw [← hws] at HW5)
                have HWS := Aside0.mk hws; clear hws S5 h5 u1 u2 z1 z2 z3 z4 y0 y1 y2 y3 x1 x2 x3 x4 x5 x6
                have hu5 := Tryd.underlying42
                have hl5 : ((seedL (cutOf l k 4) 32)).length = 32 := by first | exact seedL_length _ _ | rfl
                have hi5 : (Tryd.prog.info? 42).map (·.size) = some ((seedL (cutOf l k 4) 32)).length := by rw [hl5]; kernel_rfl
                have ho5 : ∀ v ∈ (seedL (cutOf l k 4) 32), v.oneCell' = true := by first | exact seedL_ones _ _ | (intro v hv; simp at hv; subst hv; rfl)
                go_region_held3 (fun w' => w'.rangeAt w3.heap.size 0 (seedL (cutOf l k 4) 32)) (first | exact hr6 | go_keep_ranges) (first | (go_at_call 27; (with_reducible refine (rseed_four Aw cw (cutOf l k 4) _ ((own_int HW5.out).below (below_drew (Below.refl _ _))) (hu.cut k 4)).mono ?_); rintro e w6 ⟨rfl, hb6⟩; have B6 := Aside0.mk ((below_drew (Below.refl ws.heap.size ws)).trans hb6); have hr6 := range_below hr5 B6.out; replace B6 : Aside0 (Below w4.heap.size ws w6) := ⟨B6.out.mono (by rw [HWS.out]; simp [World.setCell])⟩; clear hb6))
                go_wp2
                go_meet
                exact did_at (by rw [HK.out, HK2.out]; exact did_of hR hgl T3.out E3.out G3.out B4.out hgr (by have h6 := B6.out; rw [HWS.out] at h6; exact h6))
              · have HC := Aside0.mk hc
                have HK2 : Aside0 (takes l.length k 4 = k) := ⟨by unfold takes; rw [if_neg hc]⟩
                clear hc
                go_wp2_with (first | (go_at_call 13; (with_reducible refine (seed_bad g l k _ HT.out HC.out).mono ?_); rintro e w3 ⟨v, rfl, hv, hb⟩; have G3 := Aside0.mk (grown_of_below hb (some g)); have E3 := Aside0.mk hv; have T3 := Aside0.mk (HT.out.keep hb); clear hv hb; have a3 := grown_kept G3.out A2.out (by omega); have r3 := grown_kept G3.out R2.out (fun e => hgr e.symm); have n3 := grown_kept G3.out N2.out (by omega); have A3 := Aside0.mk a3; have N3 := Aside0.mk n3; have R3 := Aside0.mk r3; have W3 := Aside0.mk (HB2.out.grown G3.out HS2.out (by intro q e; injection e with e; rw [← e]; exact hg0)); have x1 : w3.cell? ⟨w.heap.size, 1, none⟩ = some (.int .i64 n) := heap_cell a3; have x4 : w3.cell? ⟨w.heap.size, 2, none⟩ = some (.int .i64 bits) := heap_cell a3; have x2 : w3.cell? ⟨gr, 0, none⟩ = some (.slice A l.length c) := heap_cell r3; have x3 : w3.cell? ⟨gr, 1, none⟩ = some (.int .i64 k) := heap_cell r3; clear a3 r3 n3; have x5 : ∀ o : Obj, (w3.alloc o).cell? ⟨gr, 0, none⟩ = some (.slice A l.length c) := fun o => heap_cell (kept_new R3.out o); have x6 : ∀ o : Obj, (w3.alloc o).cell? ⟨gr, 1, none⟩ = some (.int .i64 k) := fun o => heap_cell (kept_new R3.out o)) | ((with_reducible refine gate_store (t := 42) (p := 21) rfl ?_); refine wpList_store_row rfl 42 (.tmp 21) (.tmp 176) rfl w3.heap.size zeros32 rfl rfl 42 zeros32 (heap_alloc_new w3 _) (by kernel_rfl) rfl zeros32_one ?_; rw [World.setRow_alloc_new]) | (go_at_call 24; (with_reducible refine (rtake_bad A c l k 4 _ hk hm HC.out).mono ?_); rintro e w4 ⟨rfl, hb0⟩; have hs4 := (hb0.block w3.heap.size (by simp)).trans (heap_alloc_new w3 _); have H4 := Aside0.mk hs4; have hb : Below w3.heap.size w3 w4 := (below_alloc (Below.refl w3.heap.size w3) _).trans (hb0.mono (by simp)); clear hs4 hb0; have B4 := Aside0.mk hb; have a4 := (hb.block _ (heap_lt A3.out)).trans A3.out; have n4 := (hb.block _ (heap_lt N3.out)).trans N3.out; have r4 := (hb.block _ (heap_lt R3.out)).trans R3.out; have N4 := Aside0.mk n4; have z1 : w4.cell? ⟨w.heap.size, 1, none⟩ = some (.int .i64 n) := heap_cell a4; have z4 : w4.cell? ⟨w.heap.size, 2, none⟩ = some (.int .i64 bits) := heap_cell a4; have z2 : w4.cell? ⟨gr, 0, none⟩ = some (.slice A l.length c) := heap_cell r4; have z3 : w4.cell? ⟨gr, 1, none⟩ = some (.int .i64 k) := heap_cell r4; have u1 : ∀ u v, ((w4.setCell ⟨w.heap.size + 1, 0, none⟩ u).setCell ⟨w.heap.size + 1, 1, none⟩ v).cell? ⟨gr, 0, none⟩ = some (.slice A l.length c) := fun u v => heap_cell (set2_kept r4 (by omega) u v); have u2 : ∀ u v, ((w4.setCell ⟨w.heap.size + 1, 0, none⟩ u).setCell ⟨w.heap.size + 1, 1, none⟩ v).cell? ⟨gr, 1, none⟩ = some (.int .i64 k) := fun u v => heap_cell (set2_kept r4 (by omega) u v); have y0 : w4.cell? ⟨w.heap.size + 1, 0, none⟩ = some (.slice A l.length c) := heap_cell n4; have y1 : w4.cell? ⟨w.heap.size + 1, 1, none⟩ = some (.int .i64 k) := heap_cell n4; have y2 : w4.frozen? ⟨w.heap.size + 1, 0, none⟩ = false := heap_free n4; have y3 : w4.frozen? ⟨w.heap.size + 1, 1, none⟩ = false := heap_free n4; clear hb a4 n4 r4))
                have hq := zeros_eql
                have h5 := set2_kept (b := w.heap.size + 1) H4.out (by have := G3.out.size; simp at this; omega) (.slice A l.length c) (.int .i64 (k : Int))
                have hr5 : ((w4.setCell ⟨w.heap.size + 1, 0, none⟩ (.slice A l.length c)).setCell ⟨w.heap.size + 1, 1, none⟩ (.int .i64 (k : Int))).rangeAt w3.heap.size 0 zeros32.toList := range_of h5
                have S5 : Aside0 (∃ ws, ws = ((w4.setCell ⟨w.heap.size + 1, 0, none⟩ (.slice A l.length c)).setCell ⟨w.heap.size + 1, 1, none⟩ (.int .i64 (k : Int)))) := ⟨_, rfl⟩
                obtain ⟨ws, hws⟩ := S5.out
                rw [← hws] at hr5 ⊢
                (try rw [← hws] at HW5)
                have HWS := Aside0.mk hws; clear hws S5 h5 u1 u2 z1 z2 z3 z4 y0 y1 y2 y3 x1 x2 x3 x4 x5 x6
                have hu5 := Tryd.underlying42
                have hl5 : (zeros32.toList).length = 32 := by first | exact seedL_length _ _ | rfl
                have hi5 : (Tryd.prog.info? 42).map (·.size) = some (zeros32.toList).length := by rw [hl5]; kernel_rfl
                have ho5 : ∀ v ∈ zeros32.toList, v.oneCell' = true := by first | exact seedL_ones _ _ | (intro v hv; simp at hv; subst hv; rfl)
                go_region_held3 (fun w' => w'.rangeAt w3.heap.size 0 zeros32.toList) (first | exact hr6 | go_keep_ranges) (first | (go_at_call 27; (with_reducible refine (rseed_none 0 _).mono ?_); rintro e w6 ⟨rfl, hb6⟩; have B6 := Aside0.mk ((below_drew (Below.refl ws.heap.size ws)).trans hb6); have hr6 := range_below hr5 B6.out; replace B6 : Aside0 (Below w4.heap.size ws w6) := ⟨B6.out.mono (by rw [HWS.out]; simp [World.setCell])⟩; clear hb6))
                go_wp2
                go_meet
                exact did_at (by rw [HK.out, HK2.out]; exact did_of hR hgl T3.out E3.out G3.out B4.out hgr (by have h6 := B6.out; rw [HWS.out] at h6; exact h6))
            · have kb4 : (kind == 4) = false := by simpa using k4
              have q4 : Aside0 (¬ kind = 4) := ⟨k4⟩; clear k4
              by_cases h1 : n < k
              · have HK : Aside0 (nextAt kind n bits l.length k = k) := ⟨by unfold nextAt; rw [if_neg q0.out, if_neg q1.out, if_neg q2.out, if_neg q3.out, if_neg q4.out, if_pos h1]⟩
                have H1 := Aside0.mk h1; clear h1
                go_wp2_with (first | (go_at_call 16; (with_reducible refine (skip_bad g l k n _ HT.out (.inl H1.out)).mono ?_); rintro e w3 ⟨v, rfl, hv, hb⟩; rw [if_pos H1.out] at hv; have G3 := Aside0.mk (grown_of_below hb (some g)); have E3 := Aside0.mk hv; have T3 := Aside0.mk (HT.out.keep hb); clear hv hb; have a3 := grown_kept G3.out A2.out (by omega); have r3 := grown_kept G3.out R2.out (fun e => hgr e.symm); have n3 := grown_kept G3.out N2.out (by omega); have A3 := Aside0.mk a3; have N3 := Aside0.mk n3; have R3 := Aside0.mk r3; have W3 := Aside0.mk (HB2.out.grown G3.out HS2.out (by intro q e; injection e with e; rw [← e]; exact hg0)); have x1 : w3.cell? ⟨w.heap.size, 1, none⟩ = some (.int .i64 n) := heap_cell a3; have x4 : w3.cell? ⟨w.heap.size, 2, none⟩ = some (.int .i64 bits) := heap_cell a3; have x2 : w3.cell? ⟨gr, 0, none⟩ = some (.slice A l.length c) := heap_cell r3; have x3 : w3.cell? ⟨gr, 1, none⟩ = some (.int .i64 k) := heap_cell r3; clear a3 r3 n3))
                go_region_held3 (fun w' => w'.cell? ⟨w.heap.size, 1, none⟩ = some (.int .i64 n) ∧ w'.cell? ⟨gr, 0, none⟩ = some (.slice A l.length c) ∧ w'.cell? ⟨gr, 1, none⟩ = some (.int .i64 k)) (go_keep) (first | (go_at_call 28; (with_reducible refine (rskip_lo A c l k n _ (by have := H1.out; omega)).mono ?_); rintro e w4 ⟨rfl, hb0⟩; have hb : Below w3.heap.size w3 w4 := (below_drew (Below.refl _ _)).trans hb0; clear hb0; have B4 := Aside0.mk hb; have a4 := (hb.block _ (heap_lt A3.out)).trans A3.out; have n4 := (hb.block _ (heap_lt N3.out)).trans N3.out; have r4 := (hb.block _ (heap_lt R3.out)).trans R3.out; have N4 := Aside0.mk n4; have z1 : w4.cell? ⟨w.heap.size, 1, none⟩ = some (.int .i64 n) := heap_cell a4; have z4 : w4.cell? ⟨w.heap.size, 2, none⟩ = some (.int .i64 bits) := heap_cell a4; have z2 : w4.cell? ⟨gr, 0, none⟩ = some (.slice A l.length c) := heap_cell r4; have z3 : w4.cell? ⟨gr, 1, none⟩ = some (.int .i64 k) := heap_cell r4; have u1 : ∀ u v, ((w4.setCell ⟨w.heap.size + 1, 0, none⟩ u).setCell ⟨w.heap.size + 1, 1, none⟩ v).cell? ⟨gr, 0, none⟩ = some (.slice A l.length c) := fun u v => heap_cell (set2_kept r4 (by omega) u v); have u2 : ∀ u v, ((w4.setCell ⟨w.heap.size + 1, 0, none⟩ u).setCell ⟨w.heap.size + 1, 1, none⟩ v).cell? ⟨gr, 1, none⟩ = some (.int .i64 k) := fun u v => heap_cell (set2_kept r4 (by omega) u v); have y0 : w4.cell? ⟨w.heap.size + 1, 0, none⟩ = some (.slice A l.length c) := heap_cell n4; have y1 : w4.cell? ⟨w.heap.size + 1, 1, none⟩ = some (.int .i64 k) := heap_cell n4; have y2 : w4.frozen? ⟨w.heap.size + 1, 0, none⟩ = false := heap_free n4; have y3 : w4.frozen? ⟨w.heap.size + 1, 1, none⟩ = false := heap_free n4; clear hb a4 n4 r4))
                go_wp2
                go_meet
                exact did_at (by rw [HK.out]; exact did_of hR hgl T3.out E3.out G3.out B4.out hgr (Below.refl _ _))
              · by_cases h2 : n > l.length
                · have HK : Aside0 (nextAt kind n bits l.length k = k) := ⟨by unfold nextAt; rw [if_neg q0.out, if_neg q1.out, if_neg q2.out, if_neg q3.out, if_neg q4.out, if_neg h1, if_pos h2]⟩
                  have H1 := Aside0.mk h1; have H2 := Aside0.mk h2; clear h1 h2
                  go_wp2_with (first | (go_at_call 16; (with_reducible refine (skip_bad g l k n _ HT.out (.inr H2.out)).mono ?_); rintro e w3 ⟨v, rfl, hv, hb⟩; rw [if_neg (by have := H1.out; omega)] at hv; have G3 := Aside0.mk (grown_of_below hb (some g)); have E3 := Aside0.mk hv; have T3 := Aside0.mk (HT.out.keep hb); clear hv hb; have a3 := grown_kept G3.out A2.out (by omega); have r3 := grown_kept G3.out R2.out (fun e => hgr e.symm); have n3 := grown_kept G3.out N2.out (by omega); have A3 := Aside0.mk a3; have N3 := Aside0.mk n3; have R3 := Aside0.mk r3; have W3 := Aside0.mk (HB2.out.grown G3.out HS2.out (by intro q e; injection e with e; rw [← e]; exact hg0)); have x1 : w3.cell? ⟨w.heap.size, 1, none⟩ = some (.int .i64 n) := heap_cell a3; have x4 : w3.cell? ⟨w.heap.size, 2, none⟩ = some (.int .i64 bits) := heap_cell a3; have x2 : w3.cell? ⟨gr, 0, none⟩ = some (.slice A l.length c) := heap_cell r3; have x3 : w3.cell? ⟨gr, 1, none⟩ = some (.int .i64 k) := heap_cell r3; clear a3 r3 n3))
                  go_region_held3 (fun w' => w'.cell? ⟨w.heap.size, 1, none⟩ = some (.int .i64 n) ∧ w'.cell? ⟨gr, 0, none⟩ = some (.slice A l.length c) ∧ w'.cell? ⟨gr, 1, none⟩ = some (.int .i64 k)) (go_keep) (first | (go_at_call 28; (with_reducible refine (rskip_hi A c l k n _ (by have := H1.out; omega) (by have := H2.out; omega)).mono ?_); rintro e w4 ⟨rfl, hb0⟩; have hb : Below w3.heap.size w3 w4 := (below_drew (Below.refl _ _)).trans hb0; clear hb0; have B4 := Aside0.mk hb; have a4 := (hb.block _ (heap_lt A3.out)).trans A3.out; have n4 := (hb.block _ (heap_lt N3.out)).trans N3.out; have r4 := (hb.block _ (heap_lt R3.out)).trans R3.out; have N4 := Aside0.mk n4; have z1 : w4.cell? ⟨w.heap.size, 1, none⟩ = some (.int .i64 n) := heap_cell a4; have z4 : w4.cell? ⟨w.heap.size, 2, none⟩ = some (.int .i64 bits) := heap_cell a4; have z2 : w4.cell? ⟨gr, 0, none⟩ = some (.slice A l.length c) := heap_cell r4; have z3 : w4.cell? ⟨gr, 1, none⟩ = some (.int .i64 k) := heap_cell r4; have u1 : ∀ u v, ((w4.setCell ⟨w.heap.size + 1, 0, none⟩ u).setCell ⟨w.heap.size + 1, 1, none⟩ v).cell? ⟨gr, 0, none⟩ = some (.slice A l.length c) := fun u v => heap_cell (set2_kept r4 (by omega) u v); have u2 : ∀ u v, ((w4.setCell ⟨w.heap.size + 1, 0, none⟩ u).setCell ⟨w.heap.size + 1, 1, none⟩ v).cell? ⟨gr, 1, none⟩ = some (.int .i64 k) := fun u v => heap_cell (set2_kept r4 (by omega) u v); have y0 : w4.cell? ⟨w.heap.size + 1, 0, none⟩ = some (.slice A l.length c) := heap_cell n4; have y1 : w4.cell? ⟨w.heap.size + 1, 1, none⟩ = some (.int .i64 k) := heap_cell n4; have y2 : w4.frozen? ⟨w.heap.size + 1, 0, none⟩ = false := heap_free n4; have y3 : w4.frozen? ⟨w.heap.size + 1, 1, none⟩ = false := heap_free n4; clear hb a4 n4 r4))
                  go_wp2
                  go_meet
                  exact did_at (by rw [HK.out]; exact did_of hR hgl T3.out E3.out G3.out B4.out hgr (Below.refl _ _))
                · have HK : Aside0 (nextAt kind n bits l.length k = n.toNat) := ⟨by unfold nextAt; rw [if_neg q0.out, if_neg q1.out, if_neg q2.out, if_neg q3.out, if_neg q4.out, if_neg h1, if_neg h2]⟩
                  obtain ⟨nn, rfl⟩ := Int.eq_ofNat_of_zero_le (show 0 ≤ n by omega)
                  rw [Int.toNat_natCast] at HK
                  have hn1 : k ≤ nn := by omega
                  have hn2 : nn ≤ l.length := by omega
                  clear h1 h2
                  go_wp2_with (first | (go_at_call 16; (with_reducible refine (skip_ok g l k nn _ HT.out hn1 hn2).mono ?_); rintro e w3 ⟨rfl, ht, hg⟩; have T3 := Aside0.mk ht; have G3 := Aside0.mk hg; have E3 := Aside0.mk (ErrV.nil0 (w := w3)); clear ht hg; have a3 := grown_kept G3.out A2.out (by omega); have r3 := grown_kept G3.out R2.out (fun e => hgr e.symm); have n3 := grown_kept G3.out N2.out (by omega); have A3 := Aside0.mk a3; have N3 := Aside0.mk n3; have R3 := Aside0.mk r3; have W3 := Aside0.mk (HB2.out.grown G3.out HS2.out (by intro q e; injection e with e; rw [← e]; exact hg0)); have x1 : w3.cell? ⟨w.heap.size, 1, none⟩ = some (.int .i64 (nn : Int)) := heap_cell a3; have x4 : w3.cell? ⟨w.heap.size, 2, none⟩ = some (.int .i64 bits) := heap_cell a3; have x2 : w3.cell? ⟨gr, 0, none⟩ = some (.slice A l.length c) := heap_cell r3; have x3 : w3.cell? ⟨gr, 1, none⟩ = some (.int .i64 k) := heap_cell r3; clear a3 r3 n3))
                  go_region_held3 (fun w' => w'.cell? ⟨w.heap.size, 1, none⟩ = some (.int .i64 (nn : Int)) ∧ w'.cell? ⟨gr, 0, none⟩ = some (.slice A l.length c) ∧ w'.cell? ⟨gr, 1, none⟩ = some (.int .i64 k)) (go_keep) (first | (go_at_call 28; (with_reducible refine (rskip_in A c l k nn _ hn1 hn2).mono ?_); rintro e w4 ⟨rfl, hb0⟩; have hb : Below w3.heap.size w3 w4 := (below_drew (Below.refl _ _)).trans hb0; clear hb0; have B4 := Aside0.mk hb; have a4 := (hb.block _ (heap_lt A3.out)).trans A3.out; have n4 := (hb.block _ (heap_lt N3.out)).trans N3.out; have r4 := (hb.block _ (heap_lt R3.out)).trans R3.out; have N4 := Aside0.mk n4; have z1 : w4.cell? ⟨w.heap.size, 1, none⟩ = some (.int .i64 (nn : Int)) := heap_cell a4; have z4 : w4.cell? ⟨w.heap.size, 2, none⟩ = some (.int .i64 bits) := heap_cell a4; have z2 : w4.cell? ⟨gr, 0, none⟩ = some (.slice A l.length c) := heap_cell r4; have z3 : w4.cell? ⟨gr, 1, none⟩ = some (.int .i64 k) := heap_cell r4; have u1 : ∀ u v, ((w4.setCell ⟨w.heap.size + 1, 0, none⟩ u).setCell ⟨w.heap.size + 1, 1, none⟩ v).cell? ⟨gr, 0, none⟩ = some (.slice A l.length c) := fun u v => heap_cell (set2_kept r4 (by omega) u v); have u2 : ∀ u v, ((w4.setCell ⟨w.heap.size + 1, 0, none⟩ u).setCell ⟨w.heap.size + 1, 1, none⟩ v).cell? ⟨gr, 1, none⟩ = some (.int .i64 k) := fun u v => heap_cell (set2_kept r4 (by omega) u v); have y0 : w4.cell? ⟨w.heap.size + 1, 0, none⟩ = some (.slice A l.length c) := heap_cell n4; have y1 : w4.cell? ⟨w.heap.size + 1, 1, none⟩ = some (.int .i64 k) := heap_cell n4; have y2 : w4.frozen? ⟨w.heap.size + 1, 0, none⟩ = false := heap_free n4; have y3 : w4.frozen? ⟨w.heap.size + 1, 1, none⟩ = false := heap_free n4; clear hb a4 n4 r4))
                  go_wp2
                  go_meet
                  exact did_at (by rw [HK.out]; exact did_of hR hgl T3.out E3.out G3.out B4.out hgr (Below.refl _ _))
  case rest =>
    obtain ⟨rfl, code, rfl, HD'⟩ := hcut
    have HD := Aside0.mk HD'
    have n0 : wc.cell? ⟨w.heap.size + 1, 0, none⟩ = some (.slice A l.length c) := heap_cell HD'.next
    have n1 : wc.cell? ⟨w.heap.size + 1, 1, none⟩ = some (.int .i64 (nextAt kind n bits l.length k)) := heap_cell HD'.next
    have r0 : wc.cell? ⟨gr, 0, none⟩ = some (.slice A l.length c) := heap_cell HD'.ref
    have r1 : wc.cell? ⟨gr, 1, none⟩ = some (.int .i64 k) := heap_cell HD'.ref
    have r2 : wc.frozen? ⟨gr, 0, none⟩ = false := heap_free HD'.ref
    have r3 : wc.frozen? ⟨gr, 1, none⟩ = false := heap_free HD'.ref
    clear HD'
    generalize hKe : nextAt kind n bits l.length k = K at HD n1
    have HKe := Aside0.mk hKe; clear hKe
    go_wp2
    have hgr : g ≠ gr := tape_ne HD.out.tape HD.out.ref
    have h3 : RTape ((wc.setCell ⟨gr, 0, none⟩ (.slice A l.length c)).setCell ⟨gr, 1, none⟩ (.int .i64 K)) gr A c l K := heap_set (i := 1) (v := .int .i64 K) (heap_set (i := 0) (v := .slice A l.length c) HD.out.ref)
    have g3 : wc.grownBy ((wc.setCell ⟨gr, 0, none⟩ (.slice A l.length c)).setCell ⟨gr, 1, none⟩ (.int .i64 K)) (some gr) := (grown_set wc ⟨gr, 0, none⟩ _).trans (grown_set _ ⟨gr, 1, none⟩ _)
    have e3 := HD.out.err.grown g3 (HD.out.ref.row.noFault (by decide))
    have p3 := HD.out.tape.kept g3 HD.out.ref.row (by decide) (fun e => hgr (by injection e with e; exact e.symm))
    have l3 : Laid0 ((wc.setCell ⟨gr, 0, none⟩ (.slice A l.length c)).setCell ⟨gr, 1, none⟩ (.int .i64 K)) := (HL.out.grown HD.out.grown (by intro e; injection e with e; omega)).grown g3 (by intro e; injection e with e; omega)
    have s3 : Grown2 w ((wc.setCell ⟨gr, 0, none⟩ (.slice A l.length c)).setCell ⟨gr, 1, none⟩ (.int .i64 K)) g gr := ⟨g3.os.trans HD.out.grown.os, g3.tape.trans HD.out.grown.tape, g3.output.trans HD.out.grown.output, Nat.le_trans HD.out.grown.size g3.size, fun q hq h1 h2 => (g3.block q (Nat.lt_of_lt_of_le hq HD.out.grown.size) (fun e => h2 (by injection e))).trans (HD.out.grown.block q hq (fun e => h1 (by injection e)))⟩
    clear n0 n1 r0 r1 r2 r3 g3
    generalize (wc.setCell ⟨gr, 0, none⟩ (.slice A l.length c)).setCell ⟨gr, 1, none⟩ (.int .i64 K) = w3 at h3 e3 p3 l3 s3 ⊢
    have hkl : K ≤ l.length ∧ l.length ≤ 1048576 := by obtain ⟨_, _, _, a, b, _⟩ := p3; exact ⟨a, b⟩
    have b1 : (K : Int) ≤ l.length := by omega
    have b2 : (l.length : Int) ≤ 1048576 := by omega
    have hw1 : IntKind.i64.wrap ((l.length : Int) - K) = (l.length : Int) - K := IntWalk.i64_in _ (by omega)
    have H3 := Aside0.mk h3; have E3 := Aside0.mk e3; have P3 := Aside0.mk p3; have L3 := Aside0.mk l3; have S3 := Aside0.mk s3
    clear h3 e3 p3 l3 s3 HD hkl
    have r0 : w3.cell? ⟨gr, 0, none⟩ = some (.slice A l.length c) := heap_cell H3.out
    have r1 : w3.cell? ⟨gr, 1, none⟩ = some (.int .i64 K) := heap_cell H3.out
    go_region_held3 (fun w' => w'.cell? ⟨gr, 0, none⟩ = some (.slice A l.length c) ∧ w'.cell? ⟨gr, 1, none⟩ = some (.int .i64 K)) (go_keep) (first
      | (go_at_call 15; (with_reducible refine (code_any _ code _ (E3.out.keep (below_drew (Below.refl _ _))) (L3.out.keep (below_drew (Below.refl _ _)))).mono ?_); rintro e w4 ⟨rfl, hb0⟩; have hb : Below w3.heap.size w3 w4 := (below_drew (Below.refl _ _)).trans hb0; clear hb0; have h4 := H3.out.keep hb; have t0 : w4.cell? ⟨gr, 0, none⟩ = some (.slice A l.length c) := heap_cell h4; have t1 : w4.cell? ⟨gr, 1, none⟩ = some (.int .i64 K) := heap_cell h4; have P4 := Aside0.mk (P3.out.keep hb); have H4 := Aside0.mk h4; have B4 := Aside0.mk hb; clear hb h4)
      | (go_at_call 11; (with_reducible refine (at_any g l K _ P4.out).mono ?_); rintro e w5 ⟨rfl, rfl⟩)
      | (go_at_call 17; (with_reducible refine (left_any g l K _ P4.out).mono ?_); rintro e w5 ⟨rfl, nl, rfl⟩))
    go_wp2
    go_ret
    rw [HKe.out]
    exact ⟨rfl, P4.out.keep (pw_below_drewN (Below.refl _ _) _), H4.out.keep (pw_below_drewN (Below.refl _ _) _), S3.out.below (pw_below_drewN B4.out _)⟩
end Go.Proofs.YtpkjomnmkgpomaaDoor
