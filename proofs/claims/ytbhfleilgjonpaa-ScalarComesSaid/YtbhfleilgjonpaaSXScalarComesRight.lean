import Derived.Test.YtbhfleilgjonpaaSXScalarComesx1
import Derived.Test.YtbhfleilgjonpaaSXScalarComesx10
import Derived.Test.YtbhfleilgjonpaaSXScalarComesx15
import Derived.Test.YtbhfleilgjonpaaSXScalarComesx16
import Derived.Test.YtbhfleilgjonpaaSXScalarComesx17
import Derived.Test.YtbhfleilgjonpaaSXScalarComesx18
import Derived.Test.YtbhfleilgjonpaaSXScalarComesx3
import Derived.Test.YtbhfleilgjonpaaSXScalarComesx5
import Derived.Test.YtbhfleilgjonpaaSXScalarComesx6
import Derived.Test.YtbhfleilgjonpaaSXScalarComesPlain
namespace Go.Proofs.Ytbhfleilgjonpaa.XScalarComes
open Go Go.RowKit Go.Proofs.YtbhfleilgjonpaaW.PrintWords Go.Proofs.YtbhfleilgjonpaaArith
set_option linter.unusedVariables false
set_option linter.unusedSimpArgs false
theorem refMul_loop (l : Nat) (h2 : l ≤ 64) (a : Int) (b : Nat) (hb : b < 2 ^ 64) (d : Nat) : ∀ i,i + d = l → ∀ K,2 * d + 70 < K →
    trefoilref03_Mul.l0 K (l : Int) (a * ((2 ^ i : Nat) : Int) % ((2 ^ 64 : Nat) : Int)) (b : Int) (a * ((b % 2 ^ i : Nat) : Int) % ((2 ^ l : Nat) : Int)) (i : Int) = some (a * ((b % 2 ^ l : Nat) : Int) % ((2 ^ l : Nat) : Int)) := by
  induction d with
  | zero =>
    intro i hi K hK
    obtain ⟨K,rfl⟩ : ∃ m,K = m + 1 + 1 := ⟨K - 2,by omega⟩
    obtain rfl : i = l := by omega
    simp only [trefoilref03_Mul.l0,trefoilref03_Mul.j1]
    rw [decide_eq_false (Int.lt_irrefl _)]
    by_cases h : (i : Int) < 64
    · rw [if_pos h,if_neg (by simp)]
    · rw [if_neg h,if_neg (by simp)]
  | succ d ih =>
    intro i hi K hK
    obtain ⟨K,rfl⟩ : ∃ m,K = m + 1 + 1 := ⟨K - 2,by omega⟩
    have e1 : wrap64 ((i : Int) + 1) = ((i + 1 : Nat) : Int) := by unfold wrap64;omega
    have e2 : IntKind.u64.wrap (i : Int) = (i : Int) := IntWalk.u64_in _ (by omega)
    have t1 : ∀ n : Nat,Int.tmod (n : Int) 2 = ((n % 2 : Nat) : Int) := fun n => rfl
    have goal := ih (i + 1) (by omega) K (by omega)
    have hA := U_emod (a * ((2 ^ i : Nat) : Int)) 64 (by omega)
    have hO := U_emod (a * ((b % 2 ^ i : Nat) : Int)) l h2
    have s1 : trefoilref03_Add.f K 64 (a * ((2 ^ i : Nat) : Int) % ((2 ^ 64 : Nat) : Int)) (a * ((2 ^ i : Nat) : Int) % ((2 ^ 64 : Nat) : Int)) = some (a * ((2 ^ (i + 1) : Nat) : Int) % ((2 ^ 64 : Nat) : Int)) := by
      have := trefoilref03_Add.is 64 _ _ hA hA (by omega) K (by omega)
      rw [show ((64 : Nat) : Int) = 64 from rfl] at this
      rw [this,← Int.add_emod]
      congr 2
      rw [Nat.pow_succ,Int.natCast_mul,← Int.mul_assoc]
      omega
    have s2 : trefoilref03_Add.f K (l : Int) (a * ((b % 2 ^ i : Nat) : Int) % ((2 ^ l : Nat) : Int)) (a * ((2 ^ i : Nat) : Int) % ((2 ^ 64 : Nat) : Int)) = some ((a * ((b % 2 ^ i : Nat) : Int) + a * ((2 ^ i : Nat) : Int)) % ((2 ^ l : Nat) : Int)) := by
      rw [trefoilref03_Add.is l _ _ hO hA h2 K (by omega)]
      congr 1
      rw [Int.add_emod,Int.emod_emod,show ((2 ^ 64 : Nat) : Int) = 18446744073709551616 from rfl,mod_mod_pow _ l h2,← Int.add_emod]
    simp only [trefoilref03_Mul.l0,trefoilref03_Mul.j1]
    rw [if_pos (show (i : Int) < 64 by omega),decide_eq_true (show (i : Int) < (l : Int) by omega),if_pos rfl,e2,if_pos (Int.natCast_nonneg _),shr_nat b i (by omega),t1,e1]
    rw [mod_succ b i] at goal
    rcases Nat.mod_two_eq_zero_or_one (b / 2 ^ i) with h | h
    · rw [h] at goal ⊢
      rw [if_neg (by simp),s1,Option.bind_some]
      rw [Nat.mul_zero,Nat.add_zero] at goal
      exact goal
    · rw [h] at goal ⊢
      rw [if_pos (show ((1 : Nat) : Int) = 1 from rfl),s2,Option.bind_some,s1,Option.bind_some]
      rw [Nat.mul_one,Int.natCast_add,Int.mul_add] at goal
      exact goal
theorem refMul_is (l : Nat) (h2 : l ≤ 64) (a b : Int) (ha : U a) (hb : U b) (K : Nat) (hK : 300 ≤ K) : trefoilref03_Mul.f K (l : Int) a b = some (a * b % ((2 ^ l : Nat) : Int)) := by
  obtain ⟨n,rfl,hn⟩ := U_nat hb
  unfold trefoilref03_Mul.f
  have := refMul_loop l h2 a n hn l 0 (by omega) K (by omega)
  rw [Nat.pow_zero,Nat.mod_one,show ((1 : Nat) : Int) = 1 from rfl,Int.mul_one,show ((0 : Nat) : Int) = 0 from rfl,Int.mul_zero,Int.zero_emod,Int.emod_eq_of_lt ha.1 (by have := ha.2;rw [show ((2 ^ 64 : Nat) : Int) = 18446744073709551616 from rfl];exact this)] at this
  rw [this,Int.natCast_emod,Int.mul_emod,Int.emod_emod,← Int.mul_emod]
theorem fits1 (l : Nat) (h1 : 1 ≤ l) (h2 : l ≤ 64) (a b c : Int) (ha : F l a) (hb : F l b) (hc : F l c) : fitsB 1 (l : Int) 0 0 0 [a] [b] [c] = true := by
  unfold fitsB
  rw [cls1 _ (by omega)]
  have e : ∀ x,F l x → fitW (l : Int) x = true := fun x hx => by simpa [fitW] using hx.2
  simp [sizes,widths,e a ha,e b hb,e c hc]
theorem refFits_is (l : Nat) (h1 : 1 ≤ l) (h2 : l ≤ 64) (a b c : Int) (ha : F l a) (hb : F l b) (hc : F l c) (K : Nat) (hK : 80 ≤ K) : trefoilref09_Fits.f K 1 (l : Int) 0 0 0 [a] [b] [c] = some true := by
  have f1 := trefoilref09_Fits.is 1 (l : Int) 0 0 0 [a] [b] [c] (by simpa using F_U h2 ha) (by simpa using F_U h2 hb) (by simpa using F_U h2 hc) (by simp) (by simp) (by simp) (K - 10)
  simp only [List.length_cons,List.length_nil] at f1
  rw [show K - 10 + 7 + (0 + 1) + (0 + 1) + (0 + 1) = K by omega] at f1
  rw [f1,fits1 l h1 h2 a b c ha hb hc]
theorem progFits_is (l : Nat) (h1 : 1 ≤ l) (h2 : l ≤ 64) (a b c : Int) (ha : F l a) (hb : F l b) (hc : F l c) (K : Nat) (hK : 80 ≤ K) : shape_Fits.f K 1 (l : Int) 0 0 0 [a] [b] [c] = some true := by
  have f1 := shape_Fits.is 1 (l : Int) 0 0 0 [a] [b] [c] (by simpa using F_U h2 ha) (by simpa using F_U h2 hb) (by simpa using F_U h2 hc) (by simp) (by simp) (by simp) K (by omega) (by simp;omega) (by simp;omega) (by simp;omega)
  rw [f1,fits1 l h1 h2 a b c ha hb hc]
theorem progRight_is (l : Nat) (h1 : 1 ≤ l) (h2 : l ≤ 64) (a b c a' b' c' : Int) (ha : F l a) (hb : F l b) (hc : F l c) (ha' : F l a') (hb' : F l b') (hc' : F l c') (h : (a + a') * (b + b') % ((2 ^ l : Nat) : Int) = (c + c') % ((2 ^ l : Nat) : Int)) (K : Nat) (hK : 400 ≤ K) :
    scalar_Right.f K 1 (l : Int) 0 0 0 [a] [b] [c] [a'] [b'] [c'] = some true := by
  obtain ⟨K,rfl⟩ : ∃ m,K = m + 1 := ⟨K - 1,by omega⟩
  unfold scalar_Right.f
  rw [if_pos rfl,progFits_is l h1 h2 a b c ha hb hc _ (by omega),Option.bind_some,if_pos rfl,progFits_is l h1 h2 a' b' c' ha' hb' hc' _ (by omega),Option.bind_some]
  simp only [scalar_Right.j0]
  have e : ∀ x : Int,rd [x] 0 = x := fun _ => rfl
  simp only [e,Bool.not_true,List.length_cons,List.length_nil]
  rw [if_neg (by simp),if_pos (by simp),if_pos (by simp),ring_Add.is l _ _ h1 h2,Option.bind_some,if_pos (by simp),if_pos (by simp),ring_Add.is l _ _ h1 h2,Option.bind_some,ring_Mul.is l _ _ h1 h2,Option.bind_some,if_pos (by simp),if_pos (by simp),ring_Add.is l _ _ h1 h2,Option.bind_some,mod_mod_pow _ l h2,mod_mod_pow _ l h2,mod_mod_pow _ l h2,mod_mod_pow _ l h2,← Int.mul_emod,h]
  simp
theorem refSum_is (l : Nat) (h2 : l ≤ 64) (x y : Int) (hx : U x) (hy : U y) (K : Nat) (hK : 80 ≤ K) : trefoilref22_Sum.f K (l : Int) [x] [y] = some [(x + y) % ((2 ^ l : Nat) : Int)] := by
  obtain ⟨K,rfl⟩ : ∃ m,K = m + 1 + 1 := ⟨K - 2,by omega⟩
  unfold trefoilref22_Sum.f
  simp only [trefoilref22_Sum.l0]
  have e : ∀ x : Int,rd [x] 0 = x := fun _ => rfl
  have e1 : wrap64 ((0 : Int) + 1) = 1 := by unfold wrap64;omega
  simp only [e,e1,List.length_cons,List.length_nil]
  rw [if_pos (by simp),if_pos (by simp),if_pos (by omega),trefoilref03_Add.is l x y hx hy h2 _ (by omega),Option.bind_some,if_pos (by omega),if_neg (by simp)]
  rfl
theorem refDot_is (l : Nat) (h2 : l ≤ 64) (x y : Int) (hx : U x) (hy : U y) (K : Nat) (hK : 310 ≤ K) : trefoilref03_Dot.f K (l : Int) [x] [y] = some (x * y % ((2 ^ l : Nat) : Int),0) := by
  obtain ⟨K,rfl⟩ : ∃ m,K = m + 1 + 1 := ⟨K - 2,by omega⟩
  unfold trefoilref03_Dot.f
  simp only [trefoilref03_Dot.l0]
  have e : ∀ x : Int,rd [x] 0 = x := fun _ => rfl
  have e1 : wrap64 ((0 : Int) + 1) = 1 := by unfold wrap64;omega
  simp only [e,e1,List.length_cons,List.length_nil]
  rw [if_pos trivial,if_pos (by simp),if_pos (by omega),if_pos (by simp),refMul_is l h2 x y hx hy _ (by omega),Option.bind_some,trefoilref03_Add.is l 0 _ ⟨by omega,by omega⟩ (U_emod _ l h2) h2 _ (by omega),Option.bind_some,if_neg (by simp),Int.zero_add,Int.emod_emod]
theorem matMul_is (l : Nat) (h1 : 1 ≤ l) (h2 : l ≤ 64) (x y : Int) (hx : U x) (hy : U y) (K : Nat) (hK : 330 ≤ K) : trefoilref03_MatMul.f K (l : Int) 1 1 1 [x] [y] = some ([x * y % ((2 ^ l : Nat) : Int)],0) := by
  obtain ⟨K,rfl⟩ : ∃ m,K = m + 1 + 1 + 1 + 1 + 1 + 1 + 1 := ⟨K - 7,by omega⟩
  have e : ∀ x : Int,rd [x] 0 = x := fun _ => rfl
  have e1 : wrap64 ((0 : Int) + 1) = 1 := by unfold wrap64;omega
  have e2 : wrap64 ((1 : Int) * 1) = 1 := by unfold wrap64;omega
  have e3 : wrap64 (wrap64 ((0 : Int) * 1) + 0) = 0 := by unfold wrap64;omega
  have e4 : wrap64 ((0 : Int) * 1) = 0 := by unfold wrap64;omega
  have g : trefoilref03_Good.f (l : Int) = some true := by
    unfold trefoilref03_Good.f
    rw [if_pos (by omega),decide_eq_true (by omega)]
  have s : trefoilref03_Sized.f 1 1 = some true := by simp [trefoilref03_Sized.f]
  unfold trefoilref03_MatMul.f
  rw [g,Option.bind_some,if_pos rfl,s,Option.bind_some,if_pos rfl,Option.bind_some,if_pos rfl,e2]
  simp only [List.length_cons,List.length_nil]
  rw [if_pos (by rfl)]
  simp only [trefoilref03_MatMul.j0,trefoilref03_MatMul.l0,trefoilref03_MatMul.l1,trefoilref03_MatMul.l2]
  simp only [e1,e3,e4,e,List.length_cons,List.length_nil,List.nil_append]
  have hd := refDot_is l h2 x y hx hy (K + 2) (by omega)
  have e5 : wrap64 (0 : Int) = 0 := by unfold wrap64;omega
  simp [hd,rd,e5]
theorem fitsOne (l : Nat) (h2 : l ≤ 64) (x : Int) (hx : F l x) (K : Nat) (hK : 80 ≤ K) : trefoilref19_Fits.f K (l : Int) [x] = some true := by
  obtain ⟨K,rfl⟩ : ∃ m,K = m + 1 + 1 := ⟨K - 2,by omega⟩
  have e : ∀ x : Int,rd [x] 0 = x := fun _ => rfl
  have e1 : wrap64 ((0 : Int) + 1) = 1 := by unfold wrap64;omega
  unfold trefoilref19_Fits.f
  simp only [trefoilref19_Fits.l0,e,e1,List.length_cons,List.length_nil]
  rw [if_pos (by simp),if_pos (by omega),trefoilref03_Fit.is l x (F_U h2 hx) h2 _ (by omega),Option.bind_some,if_pos (Int.emod_eq_of_lt hx.1 hx.2),if_neg (by simp)]
theorem equalOne (x : Int) (K : Nat) (hK : 80 ≤ K) : trefoilref22_equal.f K [x] [x] = some true := by
  obtain ⟨K,rfl⟩ : ∃ m,K = m + 1 + 1 := ⟨K - 2,by omega⟩
  have e : ∀ x : Int,rd [x] 0 = x := fun _ => rfl
  have e1 : wrap64 ((0 : Int) + 1) = 1 := by unfold wrap64;omega
  unfold trefoilref22_equal.f
  simp only [trefoilref22_equal.l0,e,e1,List.length_cons,List.length_nil]
  rw [if_pos trivial,if_pos (by simp),if_pos (by omega),if_pos (by simp),if_pos trivial,if_neg (by simp)]
theorem refRight_is (l : Nat) (h1 : 1 ≤ l) (h2 : l ≤ 64) (a b c a' b' c' : Int) (ha : F l a) (hb : F l b) (hc : F l c) (ha' : F l a') (hb' : F l b') (hc' : F l c') (h : (a + a') * (b + b') % ((2 ^ l : Nat) : Int) = (c + c') % ((2 ^ l : Nat) : Int)) (K : Nat) (hK : 500 ≤ K) :
    trefoilref22_Right.f K 1 (l : Int) 0 0 0 1 [a] [b] [c] [a'] [b'] [c'] = some true := by
  obtain ⟨K,rfl⟩ : ∃ m,K = m + 1 := ⟨K - 1,by omega⟩
  have u := fun x (hx : F l x) => F_U h2 hx
  have hs : trefoilref22_Sides.f 1 (l : Int) 0 0 0 = some (1,1,1) := by simp [trefoilref22_Sides.f]
  unfold trefoilref22_Right.f
  rw [if_pos rfl,refFits_is l h1 h2 a b c ha hb hc _ (by omega),Option.bind_some,if_pos rfl,refFits_is l h1 h2 a' b' c' ha' hb' hc' _ (by omega),Option.bind_some]
  simp only [trefoilref22_Right.j0,Bool.not_true]
  rw [if_neg (by simp),hs,Option.bind_some,refSum_is l h2 a a' (u a ha) (u a' ha') _ (by omega),Option.bind_some,refSum_is l h2 b b' (u b hb) (u b' hb') _ (by omega),Option.bind_some]
  show Option.bind (trefoilref03_MatMul.f K (l : Int) 1 1 1 _ _) _ = _
  rw [matMul_is l h1 h2 _ _ (U_emod _ l h2) (U_emod _ l h2) _ (by omega),Option.bind_some,← Int.mul_emod]
  show Option.bind (trefoilref19_Fits.f K (l : Int) [(a + a') * (b + b') % ((2 ^ l : Nat) : Int)]) _ = _
  rw [fitsOne l h2 _ (F_emod _ l) _ (by omega),Option.bind_some,if_pos rfl,refSum_is l h2 c c' (u c hc) (u c' hc') _ (by omega),Option.bind_some,h,equalOne _ _ (by omega)]
  rfl
theorem awake_is (K : Nat) (hK : 400 ≤ K) : trefoillaw22_awake.f K = some true := by
  unfold trefoillaw22_awake.f
  have f : ∀ x : Int,0 ≤ x → x < 256 → F 8 x := fun x h0 h1 => ⟨h0,h1⟩
  have := progRight_is 8 (by omega) (by omega) 3 5 77 4 6 0 (f _ (by omega) (by omega)) (f _ (by omega) (by omega)) (f _ (by omega) (by omega)) (f _ (by omega) (by omega)) (f _ (by omega) (by omega)) (f _ (by omega) (by omega)) (by decide) K hK
  rw [show ((8 : Nat) : Int) = 8 from rfl] at this
  rw [this]
  rfl
end Go.Proofs.Ytbhfleilgjonpaa.XScalarComes
