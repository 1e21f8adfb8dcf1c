import Derived.Test.YtpkjomnmkgpomaaDoorTape
namespace Go.Proofs.YtpkjomnmkgpomaaDoor
open Go.RowKit Go.Extern.Stop Go.Stop Go.Extern Go.Proofs.YtpkjomnmkgpomaaDoorW.PrintWords

/-- A tape in memory: its words, how far it is read. -/
def TapeAt (w : World) (g B : Nat) (l : List Int) (k : Nat) : Prop :=
  ∃ v, w.heap[g]? = some (.cells #[v, .int .i64 k, .bool true] 37 (0, 0)) ∧ Row w 0 v l ∧ k ≤ l.length ∧ l.length ≤ 1048576 ∧ (∀ b, v.ownBlock = some b → b < B)
/-- What lies in a block is of a type. -/
def RowIs (w : World) (row : Option Nat) (t : TypeId) : Prop := ∀ k, row = some k → ∃ cs fr, w.heap[k]? = some (.cells cs t fr)
theorem RowIs.none (w : World) (t : TypeId) : RowIs w none t := fun k e => by cases e
theorem RowIs.noFault {w : World} {row : Option Nat} {t : TypeId} (h : RowIs w row t) (ht : t ≠ 76) : NoFault w row := fun k cs fr e hh => by
  obtain ⟨cs', fr', h'⟩ := h k e
  rw [h'] at hh
  injection hh with hh
  injection hh with _ hh
  exact ht hh
theorem Row.kept {w w' : World} {row : Option Nat} {t : TypeId} {base : Nat} {v : Value} {xs : List Int} (h : Row w base v xs) (hg : w.grownBy w' row) (hr : RowIs w row t) (ht : t ≠ 35) : Row w' base v xs := by
  refine World.ownsRow.kept h hg ?_
  rcases h.2 with ⟨rfl, _⟩ | ⟨g, cap, cur, rfl, _, hh, _⟩
  · exact .inl rfl
  · refine .inr fun e => ?_
    obtain ⟨cs', fr', h'⟩ := hr g e.symm
    rw [h'] at hh
    injection hh with hh
    injection hh with _ hh
    exact ht hh
theorem TapeAt.row {w : World} {g : Nat} {l : List Int} {k : Nat} {B : Nat} (h : TapeAt w g B l k) : RowIs w (some g) 37 := fun k' e => by
  obtain ⟨v, hh, _⟩ := h
  injection e with e
  subst e
  exact ⟨_, _, hh⟩
theorem TapeAt.kept {w w' : World} {row : Option Nat} {t : TypeId} {g : Nat} {l : List Int} {k : Nat} {B : Nat} (h : TapeAt w g B l k) (hg : w.grownBy w' row) (hr : RowIs w row t) (ht : t ≠ 35) (hne : row ≠ some g) : TapeAt w' g B l k := by
  obtain ⟨v, hh, hr', h3⟩ := h
  exact ⟨v, (hg.block g (heap_lt hh) (fun e => hne e.symm)).trans hh, hr'.kept hg hr ht, h3⟩
theorem TapeAt.keep {w w' : World} {g : Nat} {l : List Int} {k : Nat} {B : Nat} (h : TapeAt w g B l k) (hb : Below w.heap.size w w') : TapeAt w' g B l k :=
  h.kept (grown_of_below hb none) (RowIs.none w 0) (by decide) (by simp)
theorem TapeAt.up {w : World} {g B B' : Nat} {l : List Int} {k : Nat} (h : TapeAt w g B l k) (hB : B ≤ B') : TapeAt w g B' l k := by
  obtain ⟨v, h1, h2, h3, h4, h5⟩ := h
  exact ⟨v, h1, h2, h3, h4, fun b e => Nat.lt_of_lt_of_le (h5 b e) hB⟩
theorem TapeAt.lt {w : World} {g : Nat} {l : List Int} {k : Nat} {B : Nat} (h : TapeAt w g B l k) : g < w.heap.size := by obtain ⟨v, hh, _⟩ := h; exact heap_lt hh
theorem Row.keep {w w' : World} {base : Nat} {v : Value} {xs : List Int} (h : Row w base v xs) (hb : Below w.heap.size w w') : Row w' base v xs := h.kept (grown_of_below hb none) (RowIs.none w 0) (by decide)

/-! ### tape.New, ready -/
set_option maxHeartbeats 4000000 in
theorem tnew_far (A : Option Addr) (c : Nat) (l : List Int) (w : World) (hr : ReadsInt w .u64 A l.length l) (hn : l.length ≤ 1048576) :
    Calls Tryd.prog 8 #[.slice A l.length c] w fun e w' => ∃ g, e = .returned (.tuple #[.pointer (some ⟨g, 0, none⟩), .nilIface]) ∧ TapeAt w' g w'.heap.size l 0 ∧ w.heap.size ≤ g ∧ Below w.heap.size w w' ∧ (∀ wr row, w'.grownBy wr row → (∀ b, row = some b → b < w.heap.size) → TapeAt wr g w'.heap.size l 0) := by
  have HR := Aside0.mk hr; have HN : Aside0 (l.length * 8 ≤ 140737488355328) := ⟨by omega⟩; clear hr
  have hc : (l.length : Int) ≤ 1048576 := by omega
  go_enter Tryd.func8, Tryd.ntmps8
  go_wp2_with (go_at_call 20; refine (clone_any A _ c l _ HR.out HN.out).mono ?_; rintro e w1 ⟨v, rfl, hv, hb⟩; obtain ⟨A1, c1, rfl, _⟩ := hv.reads; have HV := Aside0.mk hv; have HB := Aside0.mk hb; clear hv hb)
  go_ret2
  have hb : Below w.heap.size w (w1.alloc (.cells #[.slice A1 l.length c1, .int .i64 0, .bool true] 37)) := HB.out.alloc HB.out.size _
  have hh := heap_alloc_new w1 (.cells #[.slice A1 l.length c1, .int .i64 0, .bool true] 37)
  have hr : Row (w1.alloc (.cells #[.slice A1 l.length c1, .int .i64 0, .bool true] 37)) w.heap.size (.slice A1 l.length c1) l := HV.out.keep ((Below.refl _ _).alloc (Nat.le_refl _) _)
  have hlow : ∀ b, (Value.slice A1 l.length c1).ownBlock = some b → b < (w1.alloc (.cells #[.slice A1 l.length c1, .int .i64 0, .bool true] 37)).heap.size := fun b e => (World.ownsRow.lt hr b e).2
  refine ⟨_, rfl, ⟨_, hh, hr.low (Nat.zero_le _), by omega, hn, hlow⟩, HB.out.size, hb, fun wr row hg hrow => ⟨_, (hg.block _ (heap_lt hh) (fun e => ?_)).trans hh, Row.low (base := w.heap.size) (World.ownsRow.kept hr hg ?_) (Nat.zero_le _), by omega, hn, hlow⟩⟩
  · have := hrow _ e.symm; have := HB.out.size; omega
  · cases hv : (Value.slice A1 l.length c1).ownBlock with
    | none => exact .inl rfl
    | some b => exact .inr (fun e => by have := hrow b e.symm; have := (World.ownsRow.lt hr b hv).1; omega)
theorem tnew_any (A : Option Addr) (c : Nat) (l : List Int) (w : World) (hr : ReadsInt w .u64 A l.length l) (hn : l.length ≤ 1048576) :
    Calls Tryd.prog 8 #[.slice A l.length c] w fun e w' => ∃ g, e = .returned (.tuple #[.pointer (some ⟨g, 0, none⟩), .nilIface]) ∧ TapeAt w' g w'.heap.size l 0 ∧ w.heap.size ≤ g ∧ Below w.heap.size w w' :=
  (tnew_far A c l w hr hn).mono fun _ _ ⟨g, h1, h2, h3, h4, _⟩ => ⟨g, h1, h2, h3, h4⟩

/-- What 'ready' tells. -/
def readyC (n : Int) (rest : Int) : Int := if n < 0 then 1 else if n > rest then 10 else 0
set_option maxHeartbeats 4000000 in
theorem ready_any (g : Nat) (l : List Int) (k : Nat) (n : Int) (w : World) {B : Nat} (h : TapeAt w g B l k) :
    Calls Tryd.prog 21 #[.pointer (some ⟨g, 0, none⟩), .int .i64 n] w fun e w' => ∃ v, e = .returned v ∧ ErrV w' v (readyC n (l.length - k)) ∧ Below w.heap.size w w' := by
  obtain ⟨v, hh, hr, ha, hm, _⟩ := h
  obtain ⟨A, c, rfl, hrd⟩ := hr.reads
  have c0 : w.cell? ⟨g, 0, none⟩ = some (.slice A l.length c) := heap_cell hh
  have c1 : w.cell? ⟨g, 1, none⟩ = some (.int .i64 k) := heap_cell hh
  have c2 : w.cell? ⟨g, 2, none⟩ = some (.bool true) := heap_cell hh
  clear hh hr hrd
  have b1 : (k : Int) ≤ l.length := by omega
  have b2 : (l.length : Int) ≤ 1048576 := by omega
  unfold readyC
  by_cases h1 : n < 0
  · rw [if_pos h1]
    go_enter Tryd.func21, Tryd.ntmps21
    go_wp2_with (go_at_call 19; refine (new_err 1 _ _ (by decide)).mono ?_; rintro e w1 ⟨v, rfl, hv, hb⟩; have HV := Aside0.mk hv; have HB := Aside0.mk hb; clear hv hb)
    go_ret
    exact ⟨_, rfl, HV.out, HB.out⟩
  · rw [if_neg h1]
    by_cases h2 : n > (l.length : Int) - k
    · rw [if_pos h2]
      go_enter Tryd.func21, Tryd.ntmps21
      go_wp2
      go_quiet (fail)
      go_wp2_with (go_at_call 19; refine (new_err 10 _ _ (by decide)).mono ?_; rintro e w1 ⟨v, rfl, hv, hb⟩; have HV := Aside0.mk hv; have HB := Aside0.mk hb; clear hv hb)
      go_ret
      exact ⟨_, rfl, HV.out, (Drawn0.below ⟨⟨_, rfl⟩⟩).trans HB.out⟩
    · rw [if_neg h2]
      go_enter Tryd.func21, Tryd.ntmps21
      go_wp2
      go_quiet (fail)
      go_wp2
      go_ret
      exact ⟨_, rfl, .nil0, Drawn0.below ⟨⟨_, rfl⟩⟩⟩
end Go.Proofs.YtpkjomnmkgpomaaDoor
