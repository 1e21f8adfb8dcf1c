import Derived.Test.YtbhfleilgjonpaaSXScalarComesx10
import Derived.Test.YtbhfleilgjonpaaSXScalarComesx11
import Derived.Test.YtbhfleilgjonpaaSXScalarComesx4
import Derived.Test.YtbhfleilgjonpaaSXScalarComesx7
import Derived.Test.YtbhfleilgjonpaaSXScalarComesx8
import Derived.Test.YtbhfleilgjonpaaSXScalarComesx9
import Derived.Test.YtbhfleilgjonpaaSXScalarComesGilc
import Derived.KernelRfl
namespace Go.Proofs.Ytbhfleilgjonpaa.XScalarComes
open Go Go.RowKit Go.Proofs.YtbhfleilgjonpaaW.PrintWords Go.Proofs.YtbhfleilgjonpaaArith
set_option linter.unusedVariables false
set_option linter.unusedSimpArgs false
def F (l : Nat) (x : Int) : Prop := 0 ≤ x ∧ x < ((2 ^ l : Nat) : Int)
theorem F_U {l : Nat} {x : Int} (h2 : l ≤ 64) (h : F l x) : U x := by
  have := pow_le l h2
  have := h.1
  have := h.2
  exact ⟨by omega,by omega⟩
theorem F_emod (x : Int) (l : Nat) : F l (x % ((2 ^ l : Nat) : Int)) := by
  have h2 : 0 < 2 ^ l := Nat.two_pow_pos l
  exact ⟨Int.emod_nonneg x (by omega),Int.emod_lt_of_pos x (by omega)⟩
theorem cls1 (b : Int) (h : 1 ≤ b ∧ b ≤ 64) : clsErr 1 b 0 0 0 = 0 := by
  unfold clsErr
  rw [if_pos (by omega),if_pos ⟨h.1,h.2,by omega,by simp⟩]
theorem scheck (b n : Int) (h : 1 ≤ b ∧ b ≤ 64) (hn : 1 ≤ n ∧ n ≤ 24) (K : Nat) (hK : 4 ≤ K) : scalar_check.f K 1 b 0 0 0 n = some 0 := by
  obtain ⟨K,rfl⟩ : ∃ q,K = q + 4 := ⟨K - 4,by omega⟩
  unfold scalar_check.f
  rw [shape_Check.is,Option.bind_some,cls1 b h,if_pos rfl,if_pos rfl,if_neg (by omega),if_neg (by omega)]
def sh2 (p : Int × Int) : S31 := ⟨[p.1],[p.2],[]⟩
theorem rd_map (ps : List (Int × Int)) (i : Nat) (h : i < ps.length) : rd_T31 (ps.map sh2) (i : Int) = sh2 (ps.getD i (0,0)) := by
  unfold rd_T31
  rw [Int.toNat_natCast,List.getD_eq_getElem?_getD,List.getD_eq_getElem?_getD,List.getElem?_map,List.getElem?_eq_getElem h]
  rfl
theorem mem_getD (ps : List (Int × Int)) (i : Nat) (h : i < ps.length) : ps.getD i (0,0) ∈ ps := by
  rw [List.getD_eq_getElem?_getD,List.getElem?_eq_getElem h]
  exact List.getElem_mem h
theorem take_snoc {α : Type} (f : Int × Int → α) (ps : List (Int × Int)) (i : Nat) (h : i < ps.length) : (ps.take i).map f ++ [f (ps.getD i (0,0))] = (ps.take (i + 1)).map f := by
  rw [List.take_succ_eq_append_getElem h,List.map_append,List.getD_eq_getElem?_getD,List.getElem?_eq_getElem h]
  rfl
theorem parts_loop (l : Nat) (h1 : 1 ≤ l) (h2 : l ≤ 64) (ps : List (Int × Int)) (hl : ps.length ≤ 24) (hF : ∀ p ∈ ps,F l p.1 ∧ F l p.2) (m k n : Int) (d : Nat) : ∀ i,i + d = ps.length → ∀ K,d < K →
    scalar_parts.l0 K ((ps.take i).map Prod.fst) ((ps.take i).map Prod.snd) (ps.map sh2) (ps.length : Int) (i : Int) 1 (l : Int) m k n = some (ps.map Prod.fst,ps.map Prod.snd,0) := by
  induction d with
  | zero =>
    intro i hi K hK
    obtain ⟨K,rfl⟩ : ∃ m,K = m + 1 := ⟨K - 1,by omega⟩
    simp only [scalar_parts.l0]
    rw [if_neg (by omega),List.take_of_length_le (by omega)]
  | succ d ih =>
    intro i hi K hK
    obtain ⟨K,rfl⟩ : ∃ m,K = m + 1 := ⟨K - 1,by omega⟩
    have hlt : i < ps.length := by omega
    have e1 : wrap64 ((i : Int) + 1) = ((i + 1 : Nat) : Int) := by unfold wrap64;omega
    obtain ⟨f1,f2⟩ := hF _ (mem_getD ps i hlt)
    have r1 := ring_Fits.is l [(ps.getD i (0,0)).1] h1 h2 (by simpa using F_U h2 f1)
    have r2 := ring_Fits.is l [(ps.getD i (0,0)).2] h1 h2 (by simpa using F_U h2 f2)
    rw [all_fit l _ (by simpa using f1.2)] at r1
    rw [all_fit l _ (by simpa using f2.2)] at r2
    have g := ih (i + 1) (by omega) K (by omega)
    rw [← take_snoc Prod.fst ps i hlt,← take_snoc Prod.snd ps i hlt] at g
    simp only [scalar_parts.l0]
    rw [e1,rd_map ps i hlt,if_pos (by omega),if_pos (by omega),if_pos (by rw [List.length_map];omega)]
    show (if (([(ps.getD i (0,0)).1].length : Nat) : Int) = 1 then (if (([(ps.getD i (0,0)).2].length : Nat) : Int) = 1 then Option.bind (ring_Fits.f (l : Int) [(ps.getD i (0,0)).1]) _ else _) else _) = _
    rw [if_pos (show (([(ps.getD i (0,0)).1].length : Nat) : Int) = 1 from rfl),if_pos (show (([(ps.getD i (0,0)).2].length : Nat) : Int) = 1 from rfl),r1,Option.bind_some,if_pos rfl]
    show Option.bind (ring_Fits.f (l : Int) [(ps.getD i (0,0)).2]) _ = _
    rw [r2,Option.bind_some,if_pos rfl,if_pos (by simp [sh2]),Option.bind_some,if_pos (by rw [List.length_map,List.length_take];simp;omega),if_pos (by simp [sh2]),Option.bind_some,if_pos (by rw [List.length_map,List.length_take];simp;omega)]
    exact g
theorem parts_is (l : Nat) (h1 : 1 ≤ l) (h2 : l ≤ 64) (ps : List (Int × Int)) (hl : 1 ≤ ps.length ∧ ps.length ≤ 24) (hF : ∀ p ∈ ps,F l p.1 ∧ F l p.2) (K : Nat) (hK : 30 ≤ K) :
    scalar_parts.f K 1 (l : Int) 0 0 0 (ps.map sh2) = some (ps.map Prod.fst,ps.map Prod.snd,0) := by
  unfold scalar_parts.f
  rw [List.length_map,scheck (l : Int) _ (by omega) (by omega) K (by omega),Option.bind_some,if_pos rfl]
  exact parts_loop l h1 h2 ps hl.2 hF 0 0 0 ps.length 0 (by omega) K (by omega)
def spreadOf (l : Nat) (ps : List (Int × Int)) : List Int := (ps.map fun p => [p.2]).flatMap (spr l)
def chOf (l : Nat) (ps : List (Int × Int)) : List Bool := (ps.map Prod.fst).flatMap (bitsOf l)
theorem Spread_is (l : Nat) (h1 : 1 ≤ l) (h2 : l ≤ 64) (ps : List (Int × Int)) (hl : 1 ≤ ps.length ∧ ps.length ≤ 24) (hF : ∀ p ∈ ps,F l p.1 ∧ F l p.2) (K : Nat) (hK : 400000 ≤ K) :
    scalar_Spread.f K 1 (l : Int) 0 0 0 (ps.map sh2) = some (spreadOf l ps,0) := by
  unfold scalar_Spread.f
  rw [parts_is l h1 h2 ps hl hF K (by omega),Option.bind_some,if_pos rfl]
  have := spread_is l 1 h1 h2 (by omega) (by omega) (ps.map fun p => [p.2]) (by
    intro r hr
    obtain ⟨p,hp,rfl⟩ := List.mem_map.1 hr
    refine ⟨rfl,fun x hx => ?_⟩
    obtain rfl := List.mem_singleton.1 hx
    exact (hF p hp).2) (by rw [List.length_map];omega) K (by omega)
  rw [show (ps.map fun p => [p.2]).flatten = ps.map Prod.snd from by
    clear this hF hl
    induction ps with
    | nil => rfl
    | cons p ps ih => rw [List.map_cons,List.flatten_cons,ih];rfl] at this
  rw [show ((1 : Nat) : Int) = 1 from rfl] at this
  rw [this]
  rfl
theorem Choices_is (l : Nat) (h1 : 1 ≤ l) (h2 : l ≤ 64) (ps : List (Int × Int)) (hl : 1 ≤ ps.length ∧ ps.length ≤ 24) (hF : ∀ p ∈ ps,F l p.1 ∧ F l p.2) (K : Nat) (hK : 400000 ≤ K) :
    ∃ w,scalar_Choices.f K 1 (l : Int) 0 0 0 (ps.map sh2) = some (((chOf l ps).length : Int),w,0) ∧ bits_Vec_Bools.f K ((chOf l ps).length : Int) w = some (chOf l ps) := by
  have hU : ∀ x ∈ ps.map Prod.fst,U x := by
    intro x hx
    obtain ⟨p,hp,rfl⟩ := List.mem_map.1 hx
    exact F_U h2 (hF p hp).1
  have hL : ∀ x ∈ ps.map Prod.fst,x < ((2 ^ l : Nat) : Int) := by
    intro x hx
    obtain ⟨p,hp,rfl⟩ := List.mem_map.1 hx
    exact (hF p hp).1.2
  obtain ⟨w,hw,hh⟩ := choices_is l h1 h2 (ps.map Prod.fst) hU hL (by rw [List.length_map];omega) K (by omega)
  have hlen : (chOf l ps).length = ps.length * l := by
    unfold chOf
    rw [flat_length (bitsOf l) l _ (fun x _ => bitsOf_length l x),List.length_map]
  have hle : ps.length * l ≤ 24 * 64 := Nat.mul_le_mul hl.2 h2
  refine ⟨w,?_,bits_Vec_Bools.is (chOf l ps) (by omega) w hh K (by omega)⟩
  unfold scalar_Choices.f
  rw [parts_is l h1 h2 ps hl hF K (by omega),Option.bind_some,if_pos rfl,hw]
  rfl
end Go.Proofs.Ytbhfleilgjonpaa.XScalarComes
