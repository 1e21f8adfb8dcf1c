import Derived.Test.YtpkjomnmkgpomaaDoorWMore
import Derived.Laws.Bits64
import Derived.IntWalk
/-! Plain reckoning with words of 64 bits. -/
namespace Go.Proofs.YtpkjomnmkgpomaaDoorArith
open Go Go.RowKit Go.Proofs.YtpkjomnmkgpomaaDoorW.PrintWords
set_option linter.unusedVariables false
set_option linter.unusedSimpArgs false
abbrev W64 : Int := 18446744073709551616
/-- A word of 64 bits. -/
def U (x : Int) : Prop := 0 ≤ x ∧ x < 18446744073709551616
theorem U_nat {x : Int} (h : U x) : ∃ n : Nat, x = (n : Int) ∧ n < 2 ^ 64 := by
  obtain ⟨n, rfl⟩ := Int.eq_ofNat_of_zero_le h.1
  exact ⟨n, rfl, by have := h.2; omega⟩
theorem U_of_wf {x : Int} (h : (Lit.int .u64 x).wf = true) : U x := by
  simp only [Lit.wf, Bool.and_eq_true, decide_eq_true_eq] at h
  have e1 : IntKind.u64.min = 0 := rfl
  have e2 : IntKind.u64.max = 18446744073709551615 := rfl
  rw [e1, e2] at h
  exact ⟨h.1, by omega⟩
theorem U_wrap (x : Int) : U (IntKind.u64.wrap x) := by
  rw [IntKind.wrap_u64]
  unfold U
  omega
theorem wrap_U {x : Int} (h : U x) : IntKind.u64.wrap x = x := IntWalk.u64_in x ⟨h.1, by have := h.2; omega⟩
theorem bits_and_nat (x y : Nat) (hx : x < 2 ^ 64) (hy : y < 2 ^ 64) : Go.bits .and .u64 (x : Int) (y : Int) = ((x &&& y : Nat) : Int) := by
  have h : x &&& y < 2 ^ 64 := Nat.and_lt_two_pow _ hy
  rw [show Go.bits .and .u64 (x : Int) (y : Int) = IntKind.u64.wrap (((BitVec.ofInt 64 x &&& BitVec.ofInt 64 y).toNat : Nat) : Int) from rfl, BitVec.ofInt_natCast, BitVec.ofInt_natCast, BitVec.toNat_and, BitVec.toNat_ofNat, BitVec.toNat_ofNat, Nat.mod_eq_of_lt hx, Nat.mod_eq_of_lt hy]
  rw [IntKind.wrap_u64]
  omega
theorem bits_or_nat (x y : Nat) (hx : x < 2 ^ 64) (hy : y < 2 ^ 64) : Go.bits .or .u64 (x : Int) (y : Int) = ((x ||| y : Nat) : Int) := by
  have h : x ||| y < 2 ^ 64 := Nat.or_lt_two_pow hx hy
  rw [show Go.bits .or .u64 (x : Int) (y : Int) = IntKind.u64.wrap (((BitVec.ofInt 64 x ||| BitVec.ofInt 64 y).toNat : Nat) : Int) from rfl, BitVec.ofInt_natCast, BitVec.ofInt_natCast, BitVec.toNat_or, BitVec.toNat_ofNat, BitVec.toNat_ofNat, Nat.mod_eq_of_lt hx, Nat.mod_eq_of_lt hy]
  rw [IntKind.wrap_u64]
  omega
theorem bits_xor_nat (x y : Nat) (hx : x < 2 ^ 64) (hy : y < 2 ^ 64) : Go.bits .xor .u64 (x : Int) (y : Int) = ((x ^^^ y : Nat) : Int) := by
  have h : x ^^^ y < 2 ^ 64 := Nat.xor_lt_two_pow hx hy
  rw [show Go.bits .xor .u64 (x : Int) (y : Int) = IntKind.u64.wrap (((BitVec.ofInt 64 x ^^^ BitVec.ofInt 64 y).toNat : Nat) : Int) from rfl, BitVec.ofInt_natCast, BitVec.ofInt_natCast, BitVec.toNat_xor, BitVec.toNat_ofNat, BitVec.toNat_ofNat, Nat.mod_eq_of_lt hx, Nat.mod_eq_of_lt hy]
  rw [IntKind.wrap_u64]
  omega
theorem pow_le (l : Nat) (h : l ≤ 64) : 2 ^ l ≤ 18446744073709551616 := by
  have : 2 ^ l ≤ 2 ^ 64 := Nat.pow_le_pow_right (by omega) h
  omega
/-- '& mask' is the remainder. -/
theorem and_mask (x : Int) (l : Nat) (hx : U x) (hl : l ≤ 64) : Go.bits .and .u64 x (((2 ^ l - 1 : Nat) : Nat) : Int) = x % ((2 ^ l : Nat) : Int) := by
  obtain ⟨n, rfl, hn⟩ := U_nat hx
  have h1 := pow_le l hl
  have h2 : 0 < 2 ^ l := Nat.two_pow_pos l
  rw [bits_and_nat n _ hn (by omega), Nat.and_two_pow_sub_one_eq_mod]
  rfl
theorem andNot_mask (x : Int) (l : Nat) (hx : U x) (hl : l ≤ 64) : (Go.bits .andNot .u64 x (((2 ^ l - 1 : Nat) : Nat) : Int) == 0) = decide (x < ((2 ^ l : Nat) : Int)) := by
  obtain ⟨n, rfl, hn⟩ := U_nat hx
  have h1 := pow_le l hl
  have h2 : 0 < 2 ^ l := Nat.two_pow_pos l
  have hm : 2 ^ l - 1 < 2 ^ 64 := by omega
  have e : Go.bits .andNot .u64 (n : Int) (((2 ^ l - 1 : Nat) : Nat) : Int) = ((2 ^ l * (n / 2 ^ l) : Nat) : Int) := by
    have hb : (BitVec.ofNat 64 n &&& ~~~BitVec.ofNat 64 (2 ^ l - 1)).toNat = 2 ^ l * (n / 2 ^ l) := by
      apply Nat.eq_of_testBit_eq
      intro j
      rw [BitVec.toNat_and, Nat.testBit_and, BitVec.toNat_ofNat, Nat.mod_eq_of_lt hn]
      have hj : (~~~BitVec.ofNat 64 (2 ^ l - 1)).toNat.testBit j = (decide (j < 64) && !decide (j < l)) := by
        rw [← BitVec.getLsbD, BitVec.getLsbD_not, BitVec.getLsbD_ofNat, Nat.testBit_two_pow_sub_one]
        by_cases h : j < 64 <;> simp [h]
      rw [hj, Nat.mul_comm, ← Nat.shiftLeft_eq, Nat.testBit_shiftLeft, ← Nat.shiftRight_eq_div_pow, Nat.testBit_shiftRight]
      by_cases hjl : j < l
      · simp [hjl, show ¬ j ≥ l by omega]
      · by_cases hj64 : j < 64
        · simp [hjl, hj64, show j ≥ l by omega, show l + (j - l) = j by omega]
        · have : n.testBit j = false := Nat.testBit_lt_two_pow (Nat.lt_of_lt_of_le hn (Nat.pow_le_pow_right (by omega) (by omega)))
          simp [hjl, hj64, show j ≥ l by omega, show l + (j - l) = j by omega, this]
    rw [show Go.bits .andNot .u64 (n : Int) (((2 ^ l - 1 : Nat) : Nat) : Int) = IntKind.u64.wrap (((BitVec.ofInt 64 n &&& ~~~BitVec.ofInt 64 ((2 ^ l - 1 : Nat) : Int)).toNat : Nat) : Int) from rfl, BitVec.ofInt_natCast, BitVec.ofInt_natCast, hb, IntKind.wrap_u64]
    have : 2 ^ l * (n / 2 ^ l) ≤ n := Nat.mul_div_le n (2 ^ l)
    exact Int.emod_eq_of_lt (Int.natCast_nonneg _) (Int.ofNat_lt.2 (Nat.lt_of_le_of_lt this hn))
  rw [e]
  by_cases h : n < 2 ^ l
  · rw [Nat.div_eq_of_lt h, Nat.mul_zero]
    have h4 : ((n : Int) < ((2 ^ l : Nat) : Int)) := Int.ofNat_lt.2 h
    simp only [h4, decide_true]
    rfl
  · have : 1 ≤ n / 2 ^ l := (Nat.one_le_div_iff h2).2 (by omega)
    have h3 : 2 ^ l * 1 ≤ 2 ^ l * (n / 2 ^ l) := Nat.mul_le_mul_left _ this
    have h4 : ¬ ((n : Int) < ((2 ^ l : Nat) : Int)) := by omega
    simp only [h4, decide_false]
    rw [beq_eq_false_iff_ne]
    intro hh
    have h5 : 0 < 2 ^ l * (n / 2 ^ l) := Nat.mul_pos h2 this
    have h6 : 2 ^ l * (n / 2 ^ l) = 0 := Int.ofNat.inj hh
    rw [h6] at h5
    exact absurd h5 (Nat.lt_irrefl 0)
theorem shl_nat (x n : Nat) (hn : n ≤ 64) : shl .u64 (x : Int) (n : Int) = ((x * 2 ^ n % 18446744073709551616 : Nat) : Int) := by
  unfold shl
  rw [IntKind.wrap_u64]
  rw [Int.toNat_natCast, show IntKind.u64.bits = 64 from rfl, Nat.min_eq_left hn, Int.natCast_emod, Int.natCast_mul, Int.natCast_pow]
  rfl
theorem shr_nat (x n : Nat) (hn : n ≤ 64) : shr .u64 (x : Int) (n : Int) = ((x / 2 ^ n : Nat) : Int) := by
  unfold shr
  rw [Int.toNat_natCast, show IntKind.u64.bits = 64 from rfl, Nat.min_eq_left hn, Int.natCast_ediv, Int.natCast_pow]
  rfl
/-- The lowest bits, one more. -/
theorem mod_succ_or (x i : Nat) : (x % 2 ^ i) ||| (x &&& 2 ^ i) = x % 2 ^ (i + 1) := by
  apply Nat.eq_of_testBit_eq
  intro j
  rw [Nat.testBit_or, Nat.testBit_mod_two_pow, Nat.testBit_and, Nat.testBit_two_pow, Nat.testBit_mod_two_pow]
  by_cases h1 : j < i
  · simp [h1, show j < i + 1 by omega, show ¬ i = j by omega]
  · by_cases h2 : i = j
    · subst h2
      simp
    · simp [h1, h2, show ¬ j < i + 1 by omega]
theorem mod_succ (x i : Nat) : x % 2 ^ (i + 1) = x % 2 ^ i + 2 ^ i * (x / 2 ^ i % 2) := by
  rw [Nat.pow_succ, Nat.mod_mul]
/-- One step of long addition. -/
theorem add_step (a b i out c : Nat) (ho : out < 2 ^ i) (hc : c ≤ 1) (h : out + c * 2 ^ i = a % 2 ^ i + b % 2 ^ i) :
    (out ||| (a / 2 ^ i % 2 + b / 2 ^ i % 2 + c) % 2 * 2 ^ i) < 2 ^ (i + 1) ∧ (a / 2 ^ i % 2 + b / 2 ^ i % 2 + c) / 2 ≤ 1 ∧
    (out ||| (a / 2 ^ i % 2 + b / 2 ^ i % 2 + c) % 2 * 2 ^ i) + (a / 2 ^ i % 2 + b / 2 ^ i % 2 + c) / 2 * 2 ^ (i + 1) = a % 2 ^ (i + 1) + b % 2 ^ (i + 1) := by
  have hor : ∀ s : Nat, out ||| s * 2 ^ i = s * 2 ^ i + out := by
    intro s
    rw [Nat.or_comm, Nat.mul_comm, ← Nat.two_pow_add_eq_or_of_lt ho]
  rw [hor, mod_succ a, mod_succ b, Nat.pow_succ]
  have hx : a / 2 ^ i % 2 < 2 := Nat.mod_lt _ (by omega)
  have hy : b / 2 ^ i % 2 < 2 := Nat.mod_lt _ (by omega)
  generalize a / 2 ^ i % 2 = x at hx ⊢
  generalize b / 2 ^ i % 2 = y at hy ⊢
  generalize 2 ^ i = p at *
  have hx' : x = 0 ∨ x = 1 := by omega
  have hy' : y = 0 ∨ y = 1 := by omega
  have hc' : c = 0 ∨ c = 1 := by omega
  rcases hx' with rfl | rfl <;> rcases hy' with rfl | rfl <;> rcases hc' with rfl | rfl <;> simp at h ⊢ <;> omega
end Go.Proofs.YtpkjomnmkgpomaaDoorArith
