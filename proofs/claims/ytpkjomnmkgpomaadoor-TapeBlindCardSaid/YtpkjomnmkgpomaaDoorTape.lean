import Derived.Test.YtpkjomnmkgpomaaDoorFaultCode
import Derived.Lib.SliceRun
namespace Go.Proofs.YtpkjomnmkgpomaaDoor
open Go.RowKit Go.Extern.Stop Go.Stop Go.Extern Go.Proofs.YtpkjomnmkgpomaaDoorW.PrintWords

theorem infoU64 : (Tryd.prog.info? 35).map (fun i => (i.zero, i.size, i.bytes)) = some (some (.int .u64 0), 1, 8) := by kernel_rfl
theorem infoBool : (Tryd.prog.info? 4).map (fun i => (i.zero, i.size, i.bytes)) = some (some (.bool false), 1, 1) := by kernel_rfl

/-- A row of words of one's own. -/
abbrev Row (w : World) (base : Nat) (v : Value) (xs : List Int) : Prop := w.ownsRow base 35 1 v xs.length (nums .u64 xs)
theorem Row.reads {w : World} {base : Nat} {v : Value} {xs : List Int} (h : Row w base v xs) : ∃ A c, v = .slice A xs.length c ∧ ReadsInt w .u64 A xs.length xs := own_reads h
theorem Row.low {w : World} {base b : Nat} {v : Value} {xs : List Int} (h : Row w base v xs) (hb : b ≤ base) : Row w b v xs := by
  refine ⟨h.1, ?_⟩
  rcases h.2 with h2 | ⟨g, cap, cur, e1, e2, r⟩
  · exact .inl h2
  · exact .inr ⟨g, cap, cur, e1, Nat.le_trans hb e2, r⟩

/-! ### slices.Clone -/
theorem clone_nil (n c : Nat) (w : World) : Calls Tryd.prog 20 #[.slice none n c] w fun e w' => e = .returned (.slice none 0 0) ∧ w = w' := by
  have ek := fun (w : World) (a : Option Addr) (n c : Nat) => Lib.run_eql_slice_nil (P := Tryd.prog) w 22 35 a n c 0 0 Tryd.underlying22
  go_enter Tryd.func20, Tryd.ntmps20
  go_wp2
  go_ret
  exact ⟨rfl, rfl⟩
set_option maxHeartbeats 4000000 in
theorem clone_some (ad : Addr) (n c : Nat) (xs : List Int) (w : World) (hr : ReadsInt w .u64 (some ad) n xs) (hn : n * 8 ≤ 140737488355328) :
    Calls Tryd.prog 20 #[.slice (some ad) n c] w fun e w' => ∃ v, e = .returned v ∧ Row w' w.heap.size v xs ∧ Below w.heap.size w w' := by
  have HR := Aside0.mk (hr.below ((Below.refl _ _).alloc (Nat.le_refl _) (.cells #[] 35))); clear hr
  have hn' : ([] : List Int).length + n ≤ n := by simp
  have ek := fun (w : World) (a : Option Addr) (n c : Nat) => Lib.run_eql_slice_nil (P := Tryd.prog) w 22 35 a n c 0 0 Tryd.underlying22
  go_enter Tryd.func20, Tryd.ntmps20
  go_wp2_with (at_builtin; refine print_append_row w.heap.size rfl (.tmp 5) (.tmp 6) 22 35 .u64 8 rfl Tryd.underlying22 infoU64 (by decide) (.slice (some ⟨w.heap.size, 0, none⟩) 0 0) [] xs (some ad) n c rfl rfl (World.ownsRow_made w #[] 0 (Nat.le_refl _) (by simp [maxLen]) rfl) HR.out ((Below.refl w.heap.size w).alloc (Nat.le_refl _) _) (by simp) (by simpa using hn) ?_; intro v1 w1 hown hb hg hat; have HO := Aside0.mk hown; have HB := Aside0.mk hb; clear hown hb hg hat)
  go_ret
  exact ⟨v1, rfl, by simpa using HO.out, HB.out⟩
theorem clone_any (A : Option Addr) (n c : Nat) (xs : List Int) (w : World) (hr : ReadsInt w .u64 A n xs) (hn : n * 8 ≤ 140737488355328) :
    Calls Tryd.prog 20 #[.slice A n c] w fun e w' => ∃ v, e = .returned v ∧ Row w' w.heap.size v xs ∧ Below w.heap.size w w' := by
  cases A with
  | some ad => exact clone_some ad n c xs w hr hn
  | none =>
    refine (clone_nil n c w).mono fun e w' ⟨he, hw⟩ => ?_
    subst hw
    have h0 : n = 0 := by
      rcases Nat.eq_zero_or_pos n with h | h
      · exact h
      · obtain ⟨_, h, _⟩ := hr.2.2 h
        cases h
    obtain rfl : xs = [] := List.eq_nil_of_length_eq_zero (by rw [hr.1, h0])
    exact ⟨_, he, own_nil _ _ _ _, Below.refl _ _⟩
end Go.Proofs.YtpkjomnmkgpomaaDoor
