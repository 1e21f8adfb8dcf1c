import Derived.Test.YtbhfleilgjonpaaSXScalarComesx10
import Derived.Test.YtbhfleilgjonpaaSXScalarComesx11
import Derived.Test.YtbhfleilgjonpaaSXScalarComesx3
import Derived.Test.YtbhfleilgjonpaaSXScalarComesx9
import Derived.Test.YtbhfleilgjonpaaSXScalarComesShape
import Derived.Test.YtbhfleilgjonpaaSXScalarComesRing
namespace Go.Proofs.Ytbhfleilgjonpaa.XScalarComes
open Go Go.RowKit Go.Proofs.YtbhfleilgjonpaaW.PrintWords Go.Proofs.YtbhfleilgjonpaaArith
set_option linter.unusedVariables false
set_option linter.unusedSimpArgs false
theorem map_range_set {α : Type} (f : Nat → α) (n i : Nat) (v : α) : ((List.range n).map f).set i v = (List.range n).map fun j => if j = i then v else f j := by
  apply List.ext_getElem
  · simp
  · intro j h1 h2
    simp only [List.getElem_set,List.getElem_map,List.getElem_range]
    by_cases h : i = j
    · rw [if_pos h,if_pos h.symm]
    · rw [if_neg h,if_neg (fun e => h e.symm)]
theorem getD_map_range {α : Type} (f : Nat → α) (n i : Nat) (z : α) (h : i < n) : ((List.range n).map f).getD i z = f i := by
  rw [List.getD_eq_getElem?_getD,List.getElem?_map,List.getElem?_range h]
  rfl
theorem list_eq_map_range {α : Type} (z : α) (xs : List α) : xs = (List.range xs.length).map fun j => xs.getD j z := by
  apply List.ext_getElem
  · simp
  · intro j h1 h2
    simp [List.getD_eq_getElem?_getD,List.getElem?_eq_getElem h1]
theorem getD_set {α : Type} (xs : List α) (i j : Nat) (v z : α) (h : i < xs.length) : (xs.set i v).getD j z = if j = i then v else xs.getD j z := by
  rw [List.getD_eq_getElem?_getD,List.getD_eq_getElem?_getD,List.getElem?_set]
  by_cases e : i = j
  · subst e
    rw [if_pos rfl,if_pos rfl,if_pos h]
    rfl
  · rw [if_neg e,if_neg (fun e' => e e'.symm)]
theorem getD_map' {α β : Type} (f : α → β) (za : α) (zb : β) (xs : List α) (i : Nat) (h : i < xs.length) : (xs.map f).getD i zb = f (xs.getD i za) := by
  rw [List.getD_eq_getElem?_getD,List.getD_eq_getElem?_getD,List.getElem?_map,List.getElem?_eq_getElem h]
  rfl
def bt (x : Int) (i : Nat) : Bool := x.toNat.testBit i
def bitsOf (l : Nat) (x : Int) : List Bool := (List.range l).map (bt x)
theorem bitsOf_length (l : Nat) (x : Int) : (bitsOf l x).length = l := by simp [bitsOf]
theorem bit_is (x : Int) (hx : U x) (i : Nat) (hi : i < 64) : (Go.bits .and .u64 (shr .u64 x (i : Int)) 1 == 1) = bt x i := by
  obtain ⟨n,rfl,hn⟩ := U_nat hx
  rw [shr_nat n i (by omega),show (1 : Int) = ((1 : Nat) : Int) from rfl,bits_and_nat _ _ (Nat.lt_of_le_of_lt (Nat.div_le_self _ _) hn) (by decide),Nat.and_one_is_mod]
  unfold bt
  rw [Int.toNat_natCast,Nat.testBit_eq_decide_div_mod_eq]
  rcases Nat.mod_two_eq_zero_or_one (n / 2 ^ i) with h | h <;> simp [h]
theorem ring_Bits.loop (l : Nat) (x : Int) (hx : U x) (h2 : l ≤ 64) (d : Nat) : ∀ i,i + d = l → ∀ K,d < K → ring_Bits.l0 K x ((List.range l).map fun j => decide (j < i) && bt x j) (l : Int) (i : Int) = some (bitsOf l x) := by
  induction d with
  | zero =>
    intro i hi K hK
    obtain ⟨K,rfl⟩ : ∃ m,K = m + 1 := ⟨K - 1,by omega⟩
    obtain rfl : i = l := by omega
    simp only [ring_Bits.l0]
    rw [if_neg (by omega)]
    congr 1
    unfold bitsOf
    apply List.map_congr_left
    intro j hj
    rw [decide_eq_true (List.mem_range.1 hj),Bool.true_and]
  | succ d ih =>
    intro i hi K hK
    obtain ⟨K,rfl⟩ : ∃ m,K = m + 1 := ⟨K - 1,by omega⟩
    have e1 : wrap64 ((i : Int) + 1) = ((i + 1 : Nat) : Int) := by unfold wrap64;omega
    have e2 : IntKind.u64.wrap (i : Int) = (i : Int) := IntWalk.u64_in _ (by omega)
    simp only [ring_Bits.l0]
    rw [e1,e2,if_pos (by omega),if_pos (by omega),if_pos (by omega),if_pos (by rw [List.length_map,List.length_range];omega),bit_is x hx i (by omega),Int.toNat_natCast,map_range_set]
    rw [show (fun j => if j = i then bt x i else decide (j < i) && bt x j) = fun j => decide (j < i + 1) && bt x j from by
      funext j
      by_cases h : j = i
      · subst h
        rw [if_pos rfl,decide_eq_true (by omega),Bool.true_and]
      · rw [if_neg h]
        congr 1
        exact decide_eq_decide.2 (by omega)]
    exact ih (i + 1) (by omega) K (by omega)
theorem ring_Bits.is (l : Nat) (x : Int) (hx : U x) (h1 : 1 ≤ l) (h2 : l ≤ 64) (K : Nat) (hK : 64 < K) : ring_Bits.f K (l : Int) x = some (bitsOf l x) := by
  unfold ring_Bits.f
  have hp : 2 ^ 1 ≤ 2 ^ l := Nat.pow_le_pow_right (by omega) h1
  rw [ring_mask.is l h1 h2,Option.bind_some,if_neg (by omega),if_pos (by omega),if_pos (by omega),Option.bind_some,Int.toNat_natCast,List.length_replicate]
  rw [show List.replicate l false = (List.range l).map fun j => decide (j < 0) && bt x j from by
    apply List.ext_getElem
    · simp
    · intro j h1 h2
      simp]
  exact ring_Bits.loop l x hx h2 l 0 (by omega) K (by omega)
structure Holds (w : List Int) (bs : List Bool) (i : Nat) : Prop where
  len : w.length = (bs.length + 63) / 64
  u : ∀ q,q < w.length → U (w.getD q 0)
  at_ : ∀ j,j < bs.length → bt (w.getD (j / 64) 0) (j % 64) = (decide (j < i) && bs.getD j false)
theorem bt_or (x : Int) (hx : U x) (r j : Nat) (hr : r < 64) : bt (Go.bits .or .u64 x (shl .u64 1 (r : Int))) j = (bt x j || decide (r = j)) := by
  obtain ⟨n,rfl,hn⟩ := U_nat hx
  have hp : 2 ^ r < 2 ^ 64 := Nat.pow_lt_pow_right (by omega) hr
  have e3 : shl .u64 1 (r : Int) = ((2 ^ r : Nat) : Int) := by
    have := shl_nat 1 r (by omega)
    rw [Nat.one_mul,Nat.mod_eq_of_lt (show 2 ^ r < 18446744073709551616 from hp)] at this
    exact this
  rw [e3,bits_or_nat _ _ hn hp]
  unfold bt
  rw [Int.toNat_natCast,Int.toNat_natCast,Nat.testBit_or,Nat.testBit_two_pow]
theorem U_or (x y : Int) : U (Go.bits .or .u64 x y) := by
  rw [show Go.bits .or .u64 x y = IntKind.u64.wrap (((BitVec.ofInt 64 x ||| BitVec.ofInt 64 y).toNat : Nat) : Int) from rfl]
  exact U_wrap _
theorem bits_Of.loop (bs : List Bool) (hl : bs.length ≤ 4194304) (d : Nat) : ∀ i w,i + d = bs.length → Holds w bs i → ∀ K,d < K → ∃ w',bits_Of.l0 K bs (bs.length : Int) (i : Int) (bs.length : Int) w = some ((bs.length : Int),w',0) ∧ Holds w' bs bs.length := by
  induction d with
  | zero =>
    intro i w hi hw K hK
    obtain ⟨K,rfl⟩ : ∃ m,K = m + 1 := ⟨K - 1,by omega⟩
    obtain rfl : i = bs.length := by omega
    simp only [bits_Of.l0]
    exact ⟨w,by rw [if_neg (by omega)],hw⟩
  | succ d ih =>
    intro i w hi hw K hK
    obtain ⟨K,rfl⟩ : ∃ m,K = m + 1 := ⟨K - 1,by omega⟩
    have e1 : wrap64 ((i : Int) + 1) = ((i + 1 : Nat) : Int) := by unfold wrap64;omega
    have e2 : wrap64 (Int.tdiv (i : Int) 64) = ((i / 64 : Nat) : Int) := by
      rw [show Int.tdiv (i : Int) 64 = ((i / 64 : Nat) : Int) from rfl]
      unfold wrap64;omega
    have e3 : IntKind.u64.wrap (Int.tmod (i : Int) 64) = ((i % 64 : Nat) : Int) := by
      rw [show Int.tmod (i : Int) 64 = ((i % 64 : Nat) : Int) from rfl]
      exact IntWalk.u64_in _ (by omega)
    have hq : i / 64 < w.length := by rw [hw.len];omega
    simp only [bits_Of.l0]
    rw [e1,e2,e3,if_pos (by omega),if_pos (by omega),if_pos (by omega)]
    rw [show rdOf false bs (i : Int) = bs.getD i false from rfl]
    cases hb : bs.getD i false with
    | true =>
      rw [if_pos rfl,if_pos (by omega),if_pos (by omega),if_pos (by omega),Int.toNat_natCast,show rd w ((i / 64 : Nat) : Int) = w.getD (i / 64) 0 from rfl]
      refine ih (i + 1) _ (by omega) ⟨by rw [List.length_set];exact hw.len,fun q hq' => ?_,fun j hj => ?_⟩ K (by omega)
      · rw [getD_set w (i / 64) q _ 0 hq]
        by_cases h : q = i / 64
        · rw [if_pos h];exact U_or _ _
        · rw [if_neg h];exact hw.u q (by rwa [List.length_set] at hq')
      · rw [getD_set w (i / 64) _ _ 0 hq]
        have := hw.at_ j hj
        by_cases h : j / 64 = i / 64
        · rw [if_pos h,bt_or _ (hw.u _ hq) (i % 64) (j % 64) (by omega),← h,this]
          by_cases h2 : j = i
          · subst h2
            rw [hb];simp
          · rw [decide_eq_false (show ¬ i % 64 = j % 64 by omega),Bool.or_false]
            congr 1
            exact decide_eq_decide.2 (by omega)
        · rw [if_neg h,this]
          congr 1
          exact decide_eq_decide.2 (by omega)
    | false =>
      rw [if_neg (by decide)]
      refine ih (i + 1) w (by omega) ⟨hw.len,hw.u,fun j hj => ?_⟩ K (by omega)
      rw [hw.at_ j hj]
      by_cases h : j = i
      · subst h
        rw [hb];simp
      · congr 1
        exact decide_eq_decide.2 (by omega)
theorem bits_Of.is (bs : List Bool) (hl : bs.length ≤ 4194304) (K : Nat) (hK : bs.length < K) : ∃ w,bits_Of.f K bs = some ((bs.length : Int),w,0) ∧ Holds w bs bs.length := by
  unfold bits_Of.f bits_New.f bits_words.f
  have e : wrap64 (Int.tdiv (wrap64 ((bs.length : Int) + 63)) 64) = (((bs.length + 63) / 64 : Nat) : Int) := by
    rw [show wrap64 ((bs.length : Int) + 63) = ((bs.length + 63 : Nat) : Int) from by unfold wrap64;omega]
    rw [show Int.tdiv ((bs.length + 63 : Nat) : Int) 64 = (((bs.length + 63) / 64 : Nat) : Int) from rfl]
    unfold wrap64;omega
  rw [if_neg (by omega),if_neg (by omega),e,Option.bind_some,if_pos (by omega),if_pos (by omega),Option.bind_some,if_pos rfl,Int.toNat_natCast]
  refine bits_Of.loop bs hl bs.length 0 _ (by omega) ⟨List.length_replicate,fun q hq => ?_,fun j hj => ?_⟩ K hK
  · rw [List.length_replicate] at hq
    rw [List.getD_eq_getElem?_getD,List.getElem?_replicate,if_pos hq]
    exact ⟨by simp,by simp⟩
  · rw [List.getD_eq_getElem?_getD,List.getElem?_replicate,if_pos (by omega)]
    simp [bt]
theorem bits_Vec_Get.is (bs : List Bool) (hl : bs.length ≤ 4194304) (w : List Int) (hw : Holds w bs bs.length) (i : Nat) (hi : i < bs.length) : bits_Vec_Get.f (bs.length : Int) w (i : Int) = some (bs.getD i false) := by
  have e2 : wrap64 (Int.tdiv (i : Int) 64) = ((i / 64 : Nat) : Int) := by
    rw [show Int.tdiv (i : Int) 64 = ((i / 64 : Nat) : Int) from rfl]
    unfold wrap64;omega
  have e3 : IntKind.u64.wrap (Int.tmod (i : Int) 64) = ((i % 64 : Nat) : Int) := by
    rw [show Int.tmod (i : Int) 64 = ((i % 64 : Nat) : Int) from rfl]
    exact IntWalk.u64_in _ (by omega)
  have hq : i / 64 < w.length := by rw [hw.len];omega
  unfold bits_Vec_Get.f
  rw [if_neg (by omega),if_neg (by omega),e2,e3,if_pos (by omega),if_pos (by omega),if_pos (by omega),show rd w ((i / 64 : Nat) : Int) = w.getD (i / 64) 0 from rfl,bit_is _ (hw.u _ hq) _ (by omega),hw.at_ i hi,decide_eq_true hi,Bool.true_and]
theorem bits_Vec_Bools.loop (bs : List Bool) (hl : bs.length ≤ 4194304) (w : List Int) (hw : Holds w bs bs.length) (d : Nat) : ∀ i,i + d = bs.length → ∀ K,d < K → bits_Vec_Bools.l0 K ((List.range bs.length).map fun j => decide (j < i) && bs.getD j false) (bs.length : Int) (i : Int) (bs.length : Int) w = some bs := by
  induction d with
  | zero =>
    intro i hi K hK
    obtain ⟨K,rfl⟩ : ∃ m,K = m + 1 := ⟨K - 1,by omega⟩
    obtain rfl : i = bs.length := by omega
    simp only [bits_Vec_Bools.l0]
    rw [if_neg (by omega)]
    congr 1
    conv => rhs;rw [list_eq_map_range false bs]
    apply List.map_congr_left
    intro j hj
    rw [decide_eq_true (List.mem_range.1 hj),Bool.true_and]
  | succ d ih =>
    intro i hi K hK
    obtain ⟨K,rfl⟩ : ∃ m,K = m + 1 := ⟨K - 1,by omega⟩
    have e1 : wrap64 ((i : Int) + 1) = ((i + 1 : Nat) : Int) := by unfold wrap64;omega
    simp only [bits_Vec_Bools.l0]
    rw [e1,if_pos (by omega),bits_Vec_Get.is bs hl w hw i (by omega),Option.bind_some,if_pos (by omega),if_pos (by rw [List.length_map,List.length_range];omega),Int.toNat_natCast,map_range_set]
    rw [show (fun j => if j = i then bs.getD i false else decide (j < i) && bs.getD j false) = fun j => decide (j < i + 1) && bs.getD j false from by
      funext j
      by_cases h : j = i
      · subst h
        rw [if_pos rfl,decide_eq_true (by omega),Bool.true_and]
      · rw [if_neg h]
        congr 1
        exact decide_eq_decide.2 (by omega)]
    exact ih (i + 1) (by omega) K (by omega)
theorem bits_Vec_Bools.is (bs : List Bool) (hl : bs.length ≤ 4194304) (w : List Int) (hw : Holds w bs bs.length) (K : Nat) (hK : bs.length < K) : bits_Vec_Bools.f K (bs.length : Int) w = some bs := by
  unfold bits_Vec_Bools.f
  rw [if_pos (by omega),if_pos (by omega),Option.bind_some,Int.toNat_natCast,List.length_replicate]
  rw [show List.replicate bs.length false = (List.range bs.length).map fun j => decide (j < 0) && bs.getD j false from by
    apply List.ext_getElem
    · simp
    · intro j h1 h2
      simp]
  exact bits_Vec_Bools.loop bs hl w hw bs.length 0 (by omega) K hK
end Go.Proofs.Ytbhfleilgjonpaa.XScalarComes
