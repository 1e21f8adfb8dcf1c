import Derived.Test.YtpkjomnmkgpomaaDoorTape3
namespace Go.Proofs.YtpkjomnmkgpomaaDoor
open Go.RowKit Go.Extern.Stop Go.Stop Go.Extern Go.Proofs.YtpkjomnmkgpomaaDoorW.PrintWords

set_option maxHeartbeats 4000000 in
theorem nums_eqn (A B : Option Addr) (m c c' : Nat) (xs : List Int) (w : World) (ha : ReadsInt w .u64 A m xs) (hb : ReadsInt w .u64 B m xs) :
    Calls Tryd.prog 10 #[.slice A m c, .slice B m c'] w fun e w' => e = .returned (.bool true) ∧ ∃ n, w' = w.drewN n := by
  have HA := Aside0.mk ha; have HB := Aside0.mk hb
  have hm : (m : Int) ≤ 9223372036854775807 := by have := ha.2.1; omega
  clear ha hb
  go_enter Tryd.func10, Tryd.ntmps10
  go_wp2
  go_loopw [5] (fun i wr => ∃ k n : Nat, k ≤ m ∧ i = .int .i64 k ∧ wr = w.drewN n) (fun i _ => m - (intOf i).toNat)
  case atStart => exact ⟨0, 0, Nat.zero_le _, rfl, rfl⟩
  case round =>
    obtain ⟨k, n, hk, rfl, rfl⟩ := hrel
    by_cases hlt : k < m
    · obtain ⟨ad, rfl, hx⟩ := HA.out.at_ (k : Int) (by omega) (by omega)
      obtain ⟨ad', rfl, hy⟩ := HB.out.at_ (k : Int) (by omega) (by omega)
      simp only [Int.toNat_natCast] at hx hy
      have q0 : (0 : Int) ≤ (k : Int) := by omega
      have q1 : (k : Int) < (m : Int) := by omega
      go_wp2
      go_quiet (fail)
      go_wp2
      go_roundw
      case rel => exact ⟨k + 1, _, by omega, by go_num, rfl⟩
      case measure => simp [intOf]; omega
    · go_wp2
      go_ret
      exact ⟨rfl, _, rfl⟩
theorem nums_eq (A B : Option Addr) (c c' : Nat) (xs : List Int) (w : World) (ha : ReadsInt w .u64 A xs.length xs) (hb : ReadsInt w .u64 B xs.length xs) :
    Calls Tryd.prog 10 #[.slice A xs.length c, .slice B xs.length c'] w fun e w' => e = .returned (.bool true) ∧ ∃ n, w' = w.drewN n := nums_eqn A B _ c c' xs w ha hb
end Go.Proofs.YtpkjomnmkgpomaaDoor
