import Derived.Test.YtbhfleilgjonpaaSXScalarComesx1
import Derived.Test.YtbhfleilgjonpaaSXScalarComesx11
import Derived.Test.YtbhfleilgjonpaaSXScalarComesx15
import Derived.Test.YtbhfleilgjonpaaSXScalarComesx18
import Derived.Test.YtbhfleilgjonpaaSXScalarComesx19
import Derived.Test.YtbhfleilgjonpaaSXScalarComesx6
import Derived.Test.YtbhfleilgjonpaaSXScalarComesFin
import Derived.Test.YtbhfleilgjonpaaSXScalarComesRight
import Derived.Test.YtbhfleilgjonpaaSXScalarComesDraw
namespace Go.Proofs.Ytbhfleilgjonpaa.XScalarComes
open Go Go.RowKit Go.Proofs.YtbhfleilgjonpaaW.PrintWords Go.Proofs.YtbhfleilgjonpaaArith
set_option linter.unusedVariables false
set_option linter.unusedSimpArgs false
theorem rd_fin (l : Nat) (ps : List (Int × Int)) (X : Nat → Int) (n i : Nat) (h : i < n) : rd_T31 (finOf l ps X n) (i : Int) = sh3 l (ps.getD i (0,0)) (X i) := by
  unfold rd_T31 finOf
  rw [Int.toNat_natCast,List.getD_eq_getElem?_getD,List.getElem?_map,List.getElem?_range h]
  rfl
theorem law_loop (l : Nat) (h1 : 1 ≤ l) (h2 : l ≤ 64) (ps qs : List (Int × Int)) (n : Nat) (hn : n ≤ 24) (hp : ps.length = n) (hq : qs.length = n) (hF : ∀ p ∈ ps,F l p.1 ∧ F l p.2) (hG : ∀ p ∈ qs,F l p.1 ∧ F l p.2) (X Y : Nat → Int)
    (hX : ∀ i,i < n → X i % ((2 ^ l : Nat) : Int) = (ps.getD i (0,0)).1 * (qs.getD i (0,0)).2 % ((2 ^ l : Nat) : Int))
    (hY : ∀ i,i < n → Y i % ((2 ^ l : Nat) : Int) = (qs.getD i (0,0)).1 * (ps.getD i (0,0)).2 % ((2 ^ l : Nat) : Int)) (d : Nat) : ∀ i,i + d = n → ∀ K,600 + d < K →
    trefoillaw22_ScalarComes.l0 K (n : Int) (finOf l ps X n) (finOf l qs Y n) (i : Int) 1 (l : Int) 0 0 0 = some true := by
  induction d with
  | zero =>
    intro i hi K hK
    obtain ⟨K,rfl⟩ : ∃ m,K = m + 1 := ⟨K - 1,by omega⟩
    simp only [trefoillaw22_ScalarComes.l0]
    rw [if_neg (by omega),awake_is K (by omega)]
    rfl
  | succ d ih =>
    intro i hi K hK
    obtain ⟨K,rfl⟩ : ∃ m,K = m + 1 := ⟨K - 1,by omega⟩
    have hlt : i < n := by omega
    have e1 : wrap64 ((i : Int) + 1) = ((i + 1 : Nat) : Int) := by unfold wrap64;omega
    obtain ⟨fa,fb⟩ := hF _ (mem_getD ps i (by omega))
    obtain ⟨fa',fb'⟩ := hG _ (mem_getD qs i (by omega))
    have fc : F l (thd l (ps.getD i (0,0)) (X i)) := F_emod _ l
    have fc' : F l (thd l (qs.getD i (0,0)) (Y i)) := F_emod _ l
    have hsum : ((ps.getD i (0,0)).1 + (qs.getD i (0,0)).1) * ((ps.getD i (0,0)).2 + (qs.getD i (0,0)).2) % ((2 ^ l : Nat) : Int) = (thd l (ps.getD i (0,0)) (X i) + thd l (qs.getD i (0,0)) (Y i)) % ((2 ^ l : Nat) : Int) := by
      have hx := hX i hlt
      have hy := hY i hlt
      unfold thd
      rw [← Int.add_emod]
      generalize (ps.getD i (0,0)).1 = a at *
      generalize (ps.getD i (0,0)).2 = b at *
      generalize (qs.getD i (0,0)).1 = a' at *
      generalize (qs.getD i (0,0)).2 = b' at *
      generalize ((2 ^ l : Nat) : Int) = M at *
      rw [show a * b + X i + (a' * b' + Y i) = (a * b + a' * b') + (X i + Y i) by omega,Int.add_emod (a * b + a' * b'),Int.add_emod (X i),hx,hy,← Int.add_emod (a * b'),← Int.add_emod]
      congr 1
      rw [Int.add_mul,Int.mul_add,Int.mul_add]
      omega
    simp only [trefoillaw22_ScalarComes.l0]
    rw [rd_fin l ps X n i hlt,rd_fin l qs Y n i hlt,e1,finOf_length,finOf_length,if_pos (by omega),if_pos (by omega),if_pos (by omega),if_pos (by omega)]
    show Option.bind (trefoilref22_Right.f K 1 (l : Int) 0 0 0 1 [(ps.getD i (0,0)).1] [(ps.getD i (0,0)).2] [thd l (ps.getD i (0,0)) (X i)] [(qs.getD i (0,0)).1] [(qs.getD i (0,0)).2] [thd l (qs.getD i (0,0)) (Y i)]) _ = _
    rw [refRight_is l h1 h2 _ _ _ _ _ _ fa fb fc fa' fb' fc' hsum K (by omega),Option.bind_some,if_pos rfl]
    show Option.bind (scalar_Right.f K 1 (l : Int) 0 0 0 [(ps.getD i (0,0)).1] [(ps.getD i (0,0)).2] [thd l (ps.getD i (0,0)) (X i)] [(qs.getD i (0,0)).1] [(qs.getD i (0,0)).2] [thd l (qs.getD i (0,0)) (Y i)]) _ = _
    rw [progRight_is l h1 h2 _ _ _ _ _ _ fa fb fc fa' fb' fc' hsum K (by omega),Option.bind_some,if_pos rfl]
    show Option.bind (trefoilref09_Fits.f K 1 (l : Int) 0 0 0 [(ps.getD i (0,0)).1] [(ps.getD i (0,0)).2] [thd l (ps.getD i (0,0)) (X i)]) _ = _
    rw [refFits_is l h1 h2 _ _ _ fa fb fc K (by omega),Option.bind_some,if_pos rfl]
    exact ih (i + 1) (by omega) K (by omega)
theorem sp_F (l : Nat) (ps : List (Int × Int)) : ∀ x ∈ spreadOf l ps,F l x := by
  intro x hx
  unfold spreadOf at hx
  obtain ⟨r,_,hr⟩ := List.mem_flatMap.1 hx
  unfold spr at hr
  obtain ⟨j,_,hj⟩ := List.mem_flatMap.1 hr
  unfold dbl at hj
  obtain ⟨b,_,rfl⟩ := List.mem_map.1 hj
  exact F_emod _ l
theorem mine_F (l : Nat) (noise : List Int) (k : Nat) : F l (mine l noise k) := by
  unfold mine
  by_cases h : 0 < noise.length
  · rw [if_pos h];exact F_emod _ l
  · rw [if_neg h]
    have h2 : 0 < 2 ^ l := Nat.two_pow_pos l
    exact ⟨by omega,by omega⟩
theorem Split_is (l : Nat) (h2 : l ≤ 64) (ps qs : List (Int × Int)) (hp : ps.length ≤ 24) (noise : List Int) (hno : ∀ x ∈ noise,U x) (K : Nat) (hK : 3000000 ≤ K) :
    trefoilref22_Split.f K (l : Int) 1 (spreadOf l ps) (chOf l qs) noise = some ((List.range (ps.length * l)).map (mine l noise),(List.range (ps.length * l)).map (gets l 1 (spreadOf l ps) (chOf l qs) noise)) := by
  have hle : ps.length * l ≤ 24 * 64 := Nat.mul_le_mul hp h2
  have := split_is l 1 h2 (by omega) (spreadOf l ps) (chOf l qs) noise (fun x hx => F_U h2 (sp_F l ps x hx)) hno (by rw [sp_len];omega) K (by omega)
  rw [sp_len,show ((1 : Nat) : Int) = 1 from rfl] at this
  exact this
theorem j0_true (K : Nat) (hK : 500 ≤ K) (x4 : List Int) (x11 : Int) (x13 x16 : List S31) (a b c d e : Int) : trefoillaw22_ScalarComes.j0 K x4 x11 x13 x16 true a b c d e = some true := by
  obtain ⟨K,rfl⟩ : ∃ m,K = m + 1 := ⟨K - 1,by omega⟩
  simp only [trefoillaw22_ScalarComes.j0]
  rw [if_pos trivial,awake_is K (by omega)]
  rfl
theorem j0_false (l : Nat) (h1 : 1 ≤ l) (h2 : l ≤ 64) (ps qs : List (Int × Int)) (n : Nat) (n1 : 1 ≤ n) (hn : n ≤ 3) (hp : ps.length = n) (hq : qs.length = n) (hF : ∀ p ∈ ps,F l p.1 ∧ F l p.2) (hG : ∀ p ∈ qs,F l p.1 ∧ F l p.2) (noise : List Int) (hno : ∀ x ∈ noise,U x) (K : Nat) (hK : 3000010 ≤ K) :
    trefoillaw22_ScalarComes.j0 K noise (n : Int) (ps.map sh2) (qs.map sh2) false 1 (l : Int) 0 0 0 = some true := by
  obtain ⟨K,rfl⟩ : ∃ m,K = m + 1 + 1 := ⟨K - 2,by omega⟩
  have hs : trefoilref22_Sides.f 1 (l : Int) 0 0 0 = some (1,1,1) := by simp [trefoilref22_Sides.f]
  obtain ⟨w,hw1,hw2⟩ := Choices_is l h1 h2 ps ⟨by omega,by omega⟩ hF (K + 1) (by omega)
  obtain ⟨v,hv1,hv2⟩ := Choices_is l h1 h2 qs ⟨by omega,by omega⟩ hG (K + 1) (by omega)
  have sF : ∀ (f : Nat → Int) (m : Nat),(∀ k,F l (f k)) → ∀ x ∈ (List.range m).map f,F l x := by
    intro f m hf x hx
    obtain ⟨j,_,rfl⟩ := List.mem_map.1 hx
    exact hf j
  have gF : ∀ (sp : List Int) (ch : List Bool) (k : Nat),F l (gets l 1 sp ch noise k) := fun sp ch k => F_emod _ l
  have f1 := Finish_is l h1 h2 ps ⟨by omega,by omega⟩ hF ((List.range (ps.length * l)).map (mine l noise)) ((List.range (qs.length * l)).map (gets l 1 (spreadOf l qs) (chOf l ps) noise)) (by simp) (by simp [hp,hq]) (sF _ _ (mine_F l noise)) (sF _ _ (gF _ _)) (K + 1) (by omega)
  have f2 := Finish_is l h1 h2 qs ⟨by omega,by omega⟩ hG ((List.range (qs.length * l)).map (mine l noise)) ((List.range (ps.length * l)).map (gets l 1 (spreadOf l ps) (chOf l qs) noise)) (by simp) (by simp [hp,hq]) (sF _ _ (mine_F l noise)) (sF _ _ (gF _ _)) (K + 1) (by omega)
  have hloop := law_loop l h1 h2 ps qs n (by omega) hp hq hF hG _ _ (fun i hi => both_come l h2 ps qs (by omega) hF noise i (by omega)) (fun i hi => both_come l h2 qs ps (by omega) hG noise i (by omega)) n 0 (by omega) K (by omega)
  rw [show ((0 : Nat) : Int) = 0 from rfl] at hloop
  simp only [trefoillaw22_ScalarComes.j0]
  rw [if_neg (by simp),hs,Option.bind_some,Spread_is l h1 h2 ps ⟨by omega,by omega⟩ hF (K + 1) (by omega),Option.bind_some,Spread_is l h1 h2 qs ⟨by omega,by omega⟩ hG (K + 1) (by omega),Option.bind_some,hw1,Option.bind_some,hv1,Option.bind_some]
  show Option.bind (bits_Vec_Bools.f (K + 1) ((chOf l qs).length : Int) v) _ = _
  rw [hv2,Option.bind_some]
  show Option.bind (trefoilref22_Split.f (K + 1) (l : Int) 1 (spreadOf l ps) (chOf l qs) noise) _ = _
  rw [Split_is l h2 ps qs (by omega) noise hno (K + 1) (by omega),Option.bind_some]
  show Option.bind (bits_Vec_Bools.f (K + 1) ((chOf l ps).length : Int) w) _ = _
  rw [hw2,Option.bind_some]
  show Option.bind (trefoilref22_Split.f (K + 1) (l : Int) 1 (spreadOf l qs) (chOf l ps) noise) _ = _
  rw [Split_is l h2 qs ps (by omega) noise hno (K + 1) (by omega),Option.bind_some]
  rw [f1,Option.bind_some,f2,Option.bind_some,if_pos rfl,if_pos rfl]
  simp only [finOf_length,hp,hq]
  rw [if_pos trivial]
  simp only [trefoillaw22_ScalarComes.j1]
  rw [if_neg (by simp)]
  simp only [hp,hq] at hloop
  exact hloop
theorem ScalarComes_main (kd b m k n a1 : Int) (one other noise : List Int) (ha : 0 ≤ a1 ∧ a1 ≤ 255) (h2 : ∀ x ∈ one,U x) (h3 : ∀ x ∈ other,U x) (h4 : ∀ x ∈ noise,U x) : trefoillaw22_ScalarComes.f 3000100 kd b m k n a1 one other noise = some true := by
  obtain ⟨q,rfl⟩ := Int.eq_ofNat_of_zero_le ha.1
  have ec : wrap64 (wrap64 (Int.tmod (q : Int) 3) + 1) = ((q % 3 + 1 : Nat) : Int) := by
    rw [show Int.tmod (q : Int) 3 = ((q % 3 : Nat) : Int) from rfl]
    unfold wrap64
    omega
  obtain ⟨t,pos,sh,e,hd,he⟩ := draw_is kd b m k n (q % 3 + 1) (by omega) (by omega) one h2 3000100 (by omega)
  obtain ⟨t',pos',sh',e',hd',he'⟩ := draw_is kd b m k n (q % 3 + 1) (by omega) (by omega) other h3 3000100 (by omega)
  unfold trefoillaw22_ScalarComes.f
  rw [ec,hd,Option.bind_some,hd',Option.bind_some]
  by_cases c1 : e = 0
  · by_cases c2 : e' = 0
    · subst c1
      subst c2
      obtain ⟨l,ps,rfl,rfl,rfl,rfl,rfl,l1,l2,rfl,hp,hF⟩ := he rfl
      obtain ⟨l',qs,_,hl,_,_,_,_,_,rfl,hq,hG⟩ := he' rfl
      obtain rfl : l = l' := Int.ofNat.inj hl
      rw [if_pos rfl,if_pos rfl]
      show trefoillaw22_ScalarComes.j0 3000100 noise _ _ _ (pos != pos') 1 (l : Int) 0 0 0 = _
      cases hb : (pos != pos') with
      | true => exact j0_true _ (by omega) _ _ _ _ _ _ _ _ _
      | false => exact j0_false l l1 l2 ps qs _ (by omega) (by omega) hp hq hF hG noise h4 _ (by omega)
    · rw [if_pos c1,if_neg c2]
      exact j0_true _ (by omega) _ _ _ _ _ _ _ _ _
  · rw [if_neg c1]
    exact j0_true _ (by omega) _ _ _ _ _ _ _ _ _
theorem U8_of_wf {x : Int} (h : (Lit.int .u8 x).wf = true) : 0 ≤ x ∧ x ≤ 255 := by
  simp only [Lit.wf,Bool.and_eq_true,decide_eq_true_eq] at h
  have e1 : IntKind.u8.min = 0 := rfl
  have e2 : IntKind.u8.max = 255 := rfl
  rw [e1,e2] at h
  exact h
theorem ScalarComes_pure (b0 b1 b2 b3 b4 a1 : Int) (l2 l3 l4 : List Int) {P : Prop} (_ : P) (w1 : (Lit.int .u8 a1).wf = true) (y2 : l2.length * 8 ≤ 140737488351232) (E2 : ∀ x ∈ l2,(Lit.int .u64 x).wf = true) (y3 : l3.length * 8 ≤ 140737488351232) (E3 : ∀ x ∈ l3,(Lit.int .u64 x).wf = true) (y4 : l4.length * 8 ≤ 140737488351232) (E4 : ∀ x ∈ l4,(Lit.int .u64 x).wf = true) :
    ∃ k,trefoillaw22_ScalarComes.f k b0 b1 b2 b3 b4 a1 l2 l3 l4 = some true :=
  ⟨3000100,ScalarComes_main b0 b1 b2 b3 b4 a1 l2 l3 l4 (U8_of_wf w1) (fun x hx => U_of_wf (E2 x hx)) (fun x hx => U_of_wf (E3 x hx)) (fun x hx => U_of_wf (E4 x hx))⟩
end Go.Proofs.Ytbhfleilgjonpaa.XScalarComes
