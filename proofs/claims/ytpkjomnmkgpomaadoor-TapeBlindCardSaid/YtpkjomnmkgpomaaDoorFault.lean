import Derived.Test.YtpkjomnmkgpomaaDoorFaultAs
import Derived.Test.YtpkjomnmkgpomaaDoorWWords
import Derived.Deep.RegionWith
namespace Go.Proofs.YtpkjomnmkgpomaaDoor
open Go.RowKit Go.Extern.Stop Go.Stop Go.Extern Go.Proofs.YtpkjomnmkgpomaaDoorW.PrintWords

/-- The variable's own cell. -/
def Laid0 (w : World) : Prop := w.cell? ⟨0, 0, none⟩ = some (.iface 99 (.agg #[.pointer (some ⟨1, 27, none⟩)]))

theorem heap_cell {w : World} {g i : Nat} {cs : Array Value} {t : TypeId} (h : w.heap[g]? = some (.cells cs t (0, 0))) : w.cell? ⟨g, i, none⟩ = cs[i]? := by simp [World.cell?, h]
theorem heap_free {w : World} {g i : Nat} {cs : Array Value} {t : TypeId} (h : w.heap[g]? = some (.cells cs t (0, 0))) : w.frozen? ⟨g, i, none⟩ = false := by simp [World.frozen?, h]
theorem heap_lt {w : World} {g : Nat} {o : Obj} (h : w.heap[g]? = some o) : g < w.heap.size := (Array.getElem?_eq_some_iff.1 h).1
theorem Laid0.grown {w w' : World} {row : Option Nat} (h : Laid0 w) (hg : w.grownBy w' row) (hr : row ≠ some 0) : Laid0 w' := hg.cell h (fun e => hr e.symm)

/-- An error, and what it is at its root; 0: none. -/
inductive ErrV (w : World) : Value → Int → Prop
  | nil0 : ErrV w .nilIface 0
  | root {g : Nat} {c : Int} {s : ByteArray} : w.heap[g]? = some (.cells #[.int .i64 c, .string s, .nilIface] 76 (0, 0)) → c ≠ 0 → ErrV w (.iface 74 (.pointer (some ⟨g, 0, none⟩))) c
  | wrap {g : Nat} {a : Addr} {c : Int} {s : ByteArray} : w.heap[g]? = some (.cells #[.int .i64 0, .string s, .iface 74 (.pointer (some a))] 76 (0, 0)) → ErrV w (.iface 74 (.pointer (some a))) c → ErrV w (.iface 74 (.pointer (some ⟨g, 0, none⟩))) c

/-- Which block is no fault's. -/
def NoFault (w : World) (row : Option Nat) : Prop := ∀ k cs fr, row = some k → w.heap[k]? ≠ some (.cells cs 76 fr)
theorem ErrV.grown {w w' : World} {row : Option Nat} {v : Value} {c : Int} (h : ErrV w v c) (hg : w.grownBy w' row) (hr : NoFault w row) : ErrV w' v c := by
  induction h with
  | nil0 => exact .nil0
  | root hh hc => exact .root ((hg.block _ (heap_lt hh) (fun e => hr _ _ _ e.symm hh)).trans hh) hc
  | wrap hh _ ih => exact .wrap ((hg.block _ (heap_lt hh) (fun e => hr _ _ _ e.symm hh)).trans hh) ih
theorem ErrV.keep {w w' : World} {v : Value} {c : Int} (h : ErrV w v c) (hb : Below w.heap.size w w') : ErrV w' v c :=
  h.grown (grown_of_below hb none) (fun k cs fr e => by cases e)
theorem ErrV.zero {w : World} {v : Value} {c : Int} (h : ErrV w v c) : (v = .nilIface ∧ c = 0) ∨ (c ≠ 0 ∧ ∃ g, v = .iface 74 (.pointer (some ⟨g, 0, none⟩))) := by
  induction h with
  | nil0 => exact .inl ⟨rfl, rfl⟩
  | root _ hc => exact .inr ⟨hc, _, rfl⟩
  | wrap _ _ ih =>
    rcases ih with ⟨h, _⟩ | ⟨h, _⟩
    · cases h
    · exact .inr ⟨h, _, rfl⟩

/-! ### fault.New, fault.Wrap -/
theorem new_any (c : Int) (s : ByteArray) (w : World) (hc : ((c : Int) == 0) = false) :
    Calls Tryd.prog 19 #[.int .i64 c, .string s] w fun e w' => e = .returned (.iface 74 (.pointer (some ⟨w.heap.size, 0, none⟩))) ∧ w' = w.alloc (.cells #[.int .i64 c, .string s, .nilIface] 76) := by
  go_enter Tryd.func19, Tryd.ntmps19
  go_wp2
  go_ret
  exact ⟨rfl, rfl⟩
theorem new_err (c : Int) (s : ByteArray) (w : World) (hc : ((c : Int) == 0) = false) :
    Calls Tryd.prog 19 #[.int .i64 c, .string s] w fun e w' => ∃ v, e = .returned v ∧ ErrV w' v c ∧ Below w.heap.size w w' :=
  (new_any c s w hc).mono fun e w' ⟨he, hw⟩ => by
    subst hw
    exact ⟨_, he, .root (heap_alloc_new w _) (by simpa using hc), (Below.refl _ _).alloc (Nat.le_refl _) _⟩
theorem wrap_any (s : ByteArray) (a : Addr) (w : World) :
    Calls Tryd.prog 22 #[.string s, .iface 74 (.pointer (some a))] w fun e w' => e = .returned (.iface 74 (.pointer (some ⟨w.heap.size, 0, none⟩))) ∧ w' = w.alloc (.cells #[.int .i64 0, .string s, .iface 74 (.pointer (some a))] 76) := by
  go_enter Tryd.func22, Tryd.ntmps22
  go_wp2
  go_ret
  exact ⟨rfl, rfl⟩
theorem wrap_err (s : ByteArray) (v : Value) (c : Int) (w : World) (h : ErrV w v c) (hc : c ≠ 0) :
    Calls Tryd.prog 22 #[.string s, v] w fun e w' => ∃ v', e = .returned v' ∧ ErrV w' v' c ∧ Below w.heap.size w w' := by
  rcases h.zero with ⟨_, h0⟩ | ⟨_, g, rfl⟩
  · exact absurd h0 hc
  refine (wrap_any s _ w).mono fun e w' ⟨he, hw⟩ => ?_
  have hb : Below w.heap.size w w' := by rw [hw]; exact (Below.refl _ _).alloc (Nat.le_refl _) _
  exact ⟨_, he, .wrap (by rw [hw]; exact heap_alloc_new w _) (h.keep hb), hb⟩
end Go.Proofs.YtpkjomnmkgpomaaDoor
