import Derived.Test.YtbhfleilgjonpaaSXScalarComesx10
import Derived.Test.YtbhfleilgjonpaaSXScalarComesx3
import Derived.Test.YtbhfleilgjonpaaSXScalarComesx5
import Derived.Test.YtbhfleilgjonpaaSXScalarComesx7
import Derived.Test.YtbhfleilgjonpaaSXArith
namespace Go.Proofs.Ytbhfleilgjonpaa.XScalarComes
open Go Go.RowKit Go.Proofs.YtbhfleilgjonpaaW.PrintWords Go.Proofs.YtbhfleilgjonpaaArith
set_option linter.unusedVariables false
set_option linter.unusedSimpArgs false
theorem ring_mask.is (l : Nat) (h1 : 1 ≤ l) (h2 : l ≤ 64) : ring_mask.f (l : Int) = some (((2 ^ l - 1 : Nat) : Nat) : Int) := by
  unfold ring_mask.f ring_Mask.f
  have e1 : wrap64 (64 - (l : Int)) = ((64 - l : Nat) : Int) := by unfold wrap64;omega
  have e2 : IntKind.u64.wrap ((64 - l : Nat) : Int) = ((64 - l : Nat) : Int) := IntWalk.u64_in _ (by omega)
  rw [if_neg (by omega),if_neg (by omega),e1,e2,if_pos (by omega)]
  have e3 : shr .u64 18446744073709551615 ((64 - l : Nat) : Int) = ((18446744073709551615 / 2 ^ (64 - l) : Nat) : Int) := shr_nat 18446744073709551615 (64 - l) (by omega)
  rw [e3]
  have e4 : 18446744073709551615 / 2 ^ (64 - l) = 2 ^ l - 1 := by
    have h3 : (18446744073709551615 : Nat) = 2 ^ 64 - 1 := rfl
    have h4 : 2 ^ 64 = 2 ^ (64 - l) * 2 ^ l := by rw [← Nat.pow_add];congr 1;omega
    have h5 : 0 < 2 ^ (64 - l) := Nat.two_pow_pos _
    have h6 : 0 < 2 ^ l := Nat.two_pow_pos _
    rw [h3,h4]
    generalize 2 ^ (64 - l) = p at *
    generalize 2 ^ l = q at *
    have : p * q - 1 = p * (q - 1) + (p - 1) := by
      obtain ⟨q',rfl⟩ : ∃ q',q = q' + 1 := ⟨q - 1,by omega⟩
      rw [Nat.mul_add,Nat.add_sub_cancel,Nat.mul_one]
      omega
    rw [this,Nat.mul_add_div h5,Nat.div_eq_of_lt (by omega)]
    omega
  rw [e4]
  rfl
theorem ring_Add.is (l : Nat) (a b : Int) (h1 : 1 ≤ l) (h2 : l ≤ 64) : ring_Add.f (l : Int) a b = some ((a + b) % 18446744073709551616 % ((2 ^ l : Nat) : Int)) := by
  unfold ring_Add.f
  rw [ring_mask.is l h1 h2,Option.bind_some,and_mask _ l (U_wrap _) h2,IntKind.wrap_u64]
theorem ring_Mul.is (l : Nat) (a b : Int) (h1 : 1 ≤ l) (h2 : l ≤ 64) : ring_Mul.f (l : Int) a b = some ((a * b) % 18446744073709551616 % ((2 ^ l : Nat) : Int)) := by
  unfold ring_Mul.f
  rw [ring_mask.is l h1 h2,Option.bind_some,and_mask _ l (U_wrap _) h2,IntKind.wrap_u64]
theorem mod_mod_pow (x : Int) (l : Nat) (h : l ≤ 64) : x % 18446744073709551616 % ((2 ^ l : Nat) : Int) = x % ((2 ^ l : Nat) : Int) := by
  apply Int.emod_emod_of_dvd
  rw [show (18446744073709551616 : Int) = ((2 ^ 64 : Nat) : Int) from rfl]
  exact Int.natCast_dvd_natCast.2 (Nat.pow_dvd_pow 2 h)
theorem ring_Fits.is (l : Nat) (xs : List Int) (h1 : 1 ≤ l) (h2 : l ≤ 64) (hx : ∀ x ∈ xs,U x) : ring_Fits.f (l : Int) xs = some (xs.all fun x => decide (x < ((2 ^ l : Nat) : Int))) := by
  unfold ring_Fits.f
  rw [ring_mask.is l h1 h2,Option.bind_some]
  congr 1
  rw [Bool.eq_iff_iff,List.all_eq_true,List.all_eq_true]
  exact forall_congr' fun x => forall_congr' fun hm => by rw [ring_Fits.ok,andNot_mask x l (hx x hm) h2]
theorem trefoilref03_Fit.loop (l x : Nat) (hx : x < 2 ^ 64) (h2 : l ≤ 64) (d : Nat) : ∀ (i : Nat),i + d = l → ∀ k,d < k → trefoilref03_Fit.l0 k (l : Int) (x : Int) ((x % 2 ^ i : Nat) : Int) (i : Int) = some ((x % 2 ^ l : Nat) : Int) := by
  induction d with
  | zero =>
    intro i hd k hk
    obtain ⟨k,rfl⟩ : ∃ m,k = m + 1 := ⟨k - 1,by omega⟩
    obtain rfl : i = l := by omega
    simp only [trefoilref03_Fit.l0]
    by_cases h : (i : Int) < 64
    · rw [if_pos h,if_neg (by omega)]
    · rw [if_neg h]
  | succ d ih =>
    intro i hd k hk
    obtain ⟨k,rfl⟩ : ∃ m,k = m + 1 := ⟨k - 1,by omega⟩
    simp only [trefoilref03_Fit.l0]
    have e1 : IntKind.u64.wrap (i : Int) = (i : Int) := IntWalk.u64_in _ (by omega)
    have e2 : wrap64 ((i : Int) + 1) = ((i + 1 : Nat) : Int) := by unfold wrap64;omega
    have hp : 2 ^ i < 2 ^ 64 := Nat.pow_lt_pow_right (by omega) (by omega)
    have e3 : shl .u64 1 (i : Int) = ((2 ^ i : Nat) : Int) := by
      have := shl_nat 1 i (by omega)
      rw [Nat.one_mul,Nat.mod_eq_of_lt (show 2 ^ i < 18446744073709551616 from hp)] at this
      exact this
    have hm : x % 2 ^ i < 2 ^ 64 := Nat.lt_of_le_of_lt (Nat.mod_le _ _) hx
    rw [if_pos (by omega),if_pos (by omega),e1,if_pos (by omega),e2,e3,bits_and_nat x _ hx hp,bits_or_nat _ _ hm (Nat.and_lt_two_pow _ hp),mod_succ_or]
    exact ih (i + 1) (by omega) k (by omega)
theorem trefoilref03_Fit.is (l : Nat) (x : Int) (hx : U x) (h2 : l ≤ 64) (k : Nat) (hk : 64 < k) : trefoilref03_Fit.f k (l : Int) x = some (x % ((2 ^ l : Nat) : Int)) := by
  obtain ⟨n,rfl,hn⟩ := U_nat hx
  unfold trefoilref03_Fit.f
  have := trefoilref03_Fit.loop l n hn h2 l 0 (by omega) k (by omega)
  rw [Nat.pow_zero,Nat.mod_one] at this
  exact this
theorem trefoilref03_Add.loop (l a b : Nat) (ha : a < 2 ^ 64) (hb : b < 2 ^ 64) (h2 : l ≤ 64) (d : Nat) : ∀ (i out c : Nat),i + d = l → out < 2 ^ i → c ≤ 1 → out + c * 2 ^ i = a % 2 ^ i + b % 2 ^ i → ∀ k,d < k →
    trefoilref03_Add.l0 k (l : Int) (a : Int) (b : Int) (out : Int) (c : Int) (i : Int) = some (((a + b) % 2 ^ l : Nat) : Int) := by
  induction d with
  | zero =>
    intro i out c hd ho hc h k hk
    have H := Aside0.mk h
    have HO := Aside0.mk ho
    clear h ho
    obtain ⟨k,rfl⟩ : ∃ m,k = m + 1 := ⟨k - 1,by omega⟩
    obtain rfl : i = l := by omega
    have e : out = (a + b) % 2 ^ i := by
      rw [Nat.add_mod,← H.out,Nat.add_mul_mod_self_right,Nat.mod_eq_of_lt HO.out]
    simp only [trefoilref03_Add.l0]
    rw [← e]
    clear e
    by_cases h : (i : Int) < 64
    · rw [if_pos h,if_neg (by omega)]
    · rw [if_neg h]
  | succ d ih =>
    intro i out c hd ho hc h k hk
    have H := Aside0.mk h
    have HO := Aside0.mk ho
    clear h ho
    obtain ⟨k,rfl⟩ : ∃ m,k = m + 1 := ⟨k - 1,by omega⟩
    simp only [trefoilref03_Add.l0]
    have e1 : IntKind.u64.wrap (i : Int) = (i : Int) := IntWalk.u64_in _ (by omega)
    have e2 : wrap64 ((i : Int) + 1) = ((i + 1 : Nat) : Int) := by unfold wrap64;omega
    have hp : 2 ^ i < 2 ^ 64 := Nat.pow_lt_pow_right (by omega) (by omega)
    have hx : a / 2 ^ i % 2 < 2 := Nat.mod_lt _ (by omega)
    have hy : b / 2 ^ i % 2 < 2 := Nat.mod_lt _ (by omega)
    have t1 : ∀ n : Nat,Int.tmod (n : Int) 2 = ((n % 2 : Nat) : Int) := fun n => rfl
    have t2 : ∀ n : Nat,Int.tdiv (n : Int) 2 = ((n / 2 : Nat) : Int) := fun n => rfl
    have w1 : ∀ n : Nat,n < 2 ^ 64 → IntKind.u64.wrap (n : Int) = (n : Int) := fun n hn => IntWalk.u64_in _ (by omega)
    rw [if_pos (by omega),if_pos (by omega),e1,if_pos (by omega),e2,shr_nat a i (by omega),shr_nat b i (by omega),t1,t1]
    rw [show ((a / 2 ^ i % 2 : Nat) : Int) + ((b / 2 ^ i % 2 : Nat) : Int) = ((a / 2 ^ i % 2 + b / 2 ^ i % 2 : Nat) : Int) from (Int.natCast_add _ _).symm,w1 _ (by omega)]
    rw [show ((a / 2 ^ i % 2 + b / 2 ^ i % 2 : Nat) : Int) + (c : Int) = ((a / 2 ^ i % 2 + b / 2 ^ i % 2 + c : Nat) : Int) from (Int.natCast_add _ _).symm,w1 _ (by omega),t1,t2,w1 _ (by omega)]
    have hs : (a / 2 ^ i % 2 + b / 2 ^ i % 2 + c) % 2 < 2 := Nat.mod_lt _ (by omega)
    have hsp : (a / 2 ^ i % 2 + b / 2 ^ i % 2 + c) % 2 * 2 ^ i < 2 ^ 64 := by
      have h3 : (a / 2 ^ i % 2 + b / 2 ^ i % 2 + c) % 2 * 2 ^ i ≤ 1 * 2 ^ i := Nat.mul_le_mul_right _ (by omega)
      omega
    rw [shl_nat _ i (by omega),Nat.mod_eq_of_lt (show _ < 18446744073709551616 from hsp),bits_or_nat _ _ (Nat.lt_trans HO.out hp) hsp]
    have hd' : i + 1 + d = l := by omega
    have hk' : d < k := by omega
    obtain ⟨s1,s2,s3⟩ := add_step a b i out c HO.out hc H.out
    exact ih (i + 1) _ _ hd' s1 s2 s3 k hk'
theorem trefoilref03_Add.is (l : Nat) (a b : Int) (ha : U a) (hb : U b) (h2 : l ≤ 64) (k : Nat) (hk : 64 < k) : trefoilref03_Add.f k (l : Int) a b = some ((a + b) % ((2 ^ l : Nat) : Int)) := by
  obtain ⟨n,rfl,hn⟩ := U_nat ha
  obtain ⟨m,rfl,hm⟩ := U_nat hb
  unfold trefoilref03_Add.f
  exact trefoilref03_Add.loop l n m hn hm h2 l 0 0 0 (by omega) (by simp) (by omega) (by simp [Nat.mod_one]) k (by omega)
theorem U_emod (x : Int) (l : Nat) (h : l ≤ 64) : U (x % ((2 ^ l : Nat) : Int)) := by
  have h1 := pow_le l h
  have h2 : 0 < 2 ^ l := Nat.two_pow_pos l
  have h3 : (0 : Int) < ((2 ^ l : Nat) : Int) := by omega
  have := Int.emod_nonneg x (show ((2 ^ l : Nat) : Int) ≠ 0 by omega)
  have := Int.emod_lt_of_pos x h3
  exact ⟨by omega,by omega⟩
theorem trefoilref03_Sub.is (l : Nat) (a b : Int) (ha : U a) (hb : U b) (h2 : l ≤ 64) (k : Nat) (hk : 64 < k) : trefoilref03_Sub.f k (l : Int) a b = some ((a - b) % ((2 ^ l : Nat) : Int)) := by
  unfold trefoilref03_Sub.f trefoilref03_Neg.f
  have hu : U (18446744073709551615 - b) := by have := hb.1;have := hb.2;exact ⟨by omega,by omega⟩
  have h64 := trefoilref03_Add.is 64 (IntKind.u64.wrap (18446744073709551615 - b)) 1 (U_wrap _) (by constructor <;> omega) (by omega) k hk
  rw [wrap_U hu] at h64
  have e64 : ((64 : Nat) : Int) = 64 := rfl
  rw [e64] at h64
  rw [wrap_U hu,h64]
  simp only [Option.bind_some]
  have hU := U_emod (18446744073709551615 - b + 1) 64 (by omega)
  rw [trefoilref03_Add.is l a _ ha hU h2 k hk]
  simp only [Option.bind_some]
  congr 1
  rw [show (((2 ^ 64 : Nat) : Nat) : Int) = 18446744073709551616 from rfl]
  rw [← mod_mod_pow _ l h2,← mod_mod_pow (a - b) l h2]
  congr 1
  omega
end Go.Proofs.Ytbhfleilgjonpaa.XScalarComes
