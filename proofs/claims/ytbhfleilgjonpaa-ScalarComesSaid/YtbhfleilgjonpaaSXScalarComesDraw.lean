import Derived.Test.YtbhfleilgjonpaaSXScalarComesx1
import Derived.Test.YtbhfleilgjonpaaSXScalarComesx2
import Derived.Test.YtbhfleilgjonpaaSXScalarComesx3
import Derived.Test.YtbhfleilgjonpaaSXScalarComesRight
namespace Go.Proofs.Ytbhfleilgjonpaa.XScalarComes
open Go Go.RowKit Go.Proofs.YtbhfleilgjonpaaW.PrintWords Go.Proofs.YtbhfleilgjonpaaArith
set_option linter.unusedVariables false
set_option linter.unusedSimpArgs false
theorem cut_is (l : Nat) (h1 : 1 ≤ l) (h2 : l ≤ 64) (x : Int) (hx : U x) : trefoilref06_Cut.f x (l : Int) = some (x % ((2 ^ l : Nat) : Int)) := by
  obtain ⟨n,rfl,hn⟩ := U_nat hx
  unfold trefoilref06_Cut.f
  by_cases h : l = 64
  · subst h
    rw [if_pos (by omega),Int.emod_eq_of_lt (Int.natCast_nonneg n) (Int.ofNat_lt.2 hn)]
  · have hp : 2 ^ l < 2 ^ 64 := Nat.pow_lt_pow_right (by omega) (by omega)
    have e2 : IntKind.u64.wrap (l : Int) = (l : Int) := IntWalk.u64_in _ (by omega)
    have e3 : shl .u64 1 (l : Int) = ((2 ^ l : Nat) : Int) := by
      have := shl_nat 1 l h2
      rw [Nat.one_mul,Nat.mod_eq_of_lt (show 2 ^ l < 18446744073709551616 from hp)] at this
      exact this
    have h0 : 0 < 2 ^ l := Nat.two_pow_pos l
    rw [if_neg (by omega),e2,if_pos (by omega),e3,if_neg (by omega)]
    rfl
theorem numbers_loop (l : Nat) (h1 : 1 ≤ l) (h2 : l ≤ 64) (xs : List Int) (hx : ∀ x ∈ xs,U x) (hl : xs.length ≤ 1000000) (e : Int) (ws : List Int) (pos : Int) (d : Nat) : ∀ i,i + d = xs.length → ∀ K,d < K →
    trefoilref06_Tape_Numbers.l0 K (l : Int) ((List.range xs.length).map fun j => if j < i then xs.getD j 0 % ((2 ^ l : Nat) : Int) else xs.getD j 0) e (i : Int) ws pos = some (ws,pos,xs.map (· % ((2 ^ l : Nat) : Int)),e) := by
  induction d with
  | zero =>
    intro i hi K hK
    obtain ⟨K,rfl⟩ : ∃ m,K = m + 1 := ⟨K - 1,by omega⟩
    obtain rfl : i = xs.length := by omega
    simp only [trefoilref06_Tape_Numbers.l0,List.length_map,List.length_range]
    rw [if_neg (by omega)]
    congr 3
    apply congrArg (fun q => (q,e))
    apply List.ext_getElem
    · simp
    · intro j hj1 hj2
      simp only [List.length_map] at hj2
      simp only [List.getElem_map,List.getElem_range]
      rw [if_pos hj2,List.getD_eq_getElem?_getD,List.getElem?_eq_getElem hj2]
      rfl
  | succ d ih =>
    intro i hi K hK
    obtain ⟨K,rfl⟩ : ∃ m,K = m + 1 := ⟨K - 1,by omega⟩
    have hlt : i < xs.length := by omega
    have e1 : wrap64 ((i : Int) + 1) = ((i + 1 : Nat) : Int) := by unfold wrap64;omega
    simp only [trefoilref06_Tape_Numbers.l0,List.length_map,List.length_range]
    rw [e1,if_pos (by omega),if_pos (by omega),rd_nat,getD_map_range _ _ _ _ hlt]
    simp only [Nat.lt_irrefl,if_false]
    rw [cut_is l h1 h2 _ (hx _ (getD_mem hlt)),Option.bind_some,Int.toNat_natCast,map_range_set]
    rw [show (fun j => if j = i then xs.getD i 0 % ((2 ^ l : Nat) : Int) else if j < i then xs.getD j 0 % ((2 ^ l : Nat) : Int) else xs.getD j 0) = fun j => if j < i + 1 then xs.getD j 0 % ((2 ^ l : Nat) : Int) else xs.getD j 0 from by
      funext j
      by_cases h : j = i
      · subst h
        rw [if_pos rfl,if_pos (by omega)]
      · rw [if_neg h]
        by_cases h3 : j < i
        · rw [if_pos h3,if_pos (by omega)]
        · rw [if_neg h3,if_neg (by omega)]]
    exact ih (i + 1) (by omega) K (by omega)
theorem numbers_run (l : Nat) (h1 : 1 ≤ l) (h2 : l ≤ 64) (xs : List Int) (hx : ∀ x ∈ xs,U x) (hl : xs.length ≤ 1000000) (e : Int) (ws : List Int) (pos : Int) (K : Nat) (hK : xs.length < K) :
    trefoilref06_Tape_Numbers.l0 K (l : Int) xs e 0 ws pos = some (ws,pos,xs.map (· % ((2 ^ l : Nat) : Int)),e) := by
  have := numbers_loop l h1 h2 xs hx hl e ws pos xs.length 0 (by omega) K hK
  simp only [Nat.not_lt_zero,if_false] at this
  rw [← list_eq_map_range 0 xs] at this
  exact this
theorem take_run (xs : List Int) (n : Nat) (hn : n ≤ 100) : (trefoilref06_Tape_Take.f xs 0 (n : Int) = some (xs,0,[],10)) ∨ (n ≤ xs.length ∧ trefoilref06_Tape_Take.f xs 0 (n : Int) = some (xs,(n : Int),xs.take n,0)) := by
  unfold trefoilref06_Tape_Take.f
  rw [if_neg (by omega)]
  by_cases h : (n : Int) > wrap64 ((xs.length : Int) - 0)
  · left
    rw [if_pos h]
  · right
    have hle : n ≤ xs.length := by
      unfold wrap64 at h
      omega
    have e0 : wrap64 (0 + (n : Int)) = (n : Int) := by unfold wrap64;omega
    refine ⟨hle,?_⟩
    rw [if_neg h,Option.bind_some,e0,if_pos (by omega),if_pos (by omega),if_pos (by omega),Option.bind_some,Int.toNat_natCast]
    simp only [Int.toNat_zero,List.drop_zero,List.nil_append,List.length_nil]
    rw [if_pos (by rw [List.length_take];omega)]
theorem numbers_f (l : Nat) (h1 : 1 ≤ l) (h2 : l ≤ 64) (xs : List Int) (hx : ∀ x ∈ xs,U x) (n : Nat) (hn : n ≤ 100) (K : Nat) (hK : 200 ≤ K) :
    ∃ t pos ys e,trefoilref06_Tape_Numbers.f K xs 0 (n : Int) (l : Int) = some (t,pos,ys,e) ∧ (e = 0 → ys.length = n ∧ ∀ y ∈ ys,F l y) := by
  obtain ⟨K,rfl⟩ : ∃ m,K = m + 1 := ⟨K - 1,by omega⟩
  unfold trefoilref06_Tape_Numbers.f
  rw [if_neg (by omega),decide_eq_false (by omega)]
  simp only [trefoilref06_Tape_Numbers.j0]
  rw [if_neg (by simp)]
  rcases take_run xs n hn with h | ⟨hle,h⟩
  · rw [h,Option.bind_some]
    have := numbers_run l h1 h2 [] (by simp) (by simp) 10 xs 0 K (by simp;omega)
    exact ⟨_,_,_,_,this,fun e => absurd e (by decide)⟩
  · rw [h,Option.bind_some]
    have := numbers_run l h1 h2 (xs.take n) (fun x hm => hx x (List.mem_of_mem_take hm)) (by rw [List.length_take];omega) 0 xs (n : Int) K (by rw [List.length_take];omega)
    refine ⟨_,_,_,_,this,fun _ => ⟨by rw [List.length_map,List.length_take];omega,fun y hy => ?_⟩⟩
    obtain ⟨x,_,rfl⟩ := List.mem_map.1 hy
    exact F_emod x l
def prs (ys : List Int) (i : Nat) : List (Int × Int) := (List.range i).map fun j => (ys.getD (2 * j) 0,ys.getD (2 * j + 1) 0)
theorem draw_loop (ys : List Int) (cnt : Nat) (hl : ys.length = 2 * cnt) (hc : cnt ≤ 24) (ws : List Int) (pos : Int) (d : Nat) : ∀ i,i + d = cnt → ∀ K,d < K →
    trefoilref22_Draw.l0 K (cnt : Int) 1 1 1 ys ((prs ys i).map sh2) ((2 * i : Nat) : Int) (i : Int) ws pos = some (ws,pos,(prs ys cnt).map sh2,0) := by
  induction d with
  | zero =>
    intro i hi K hK
    obtain ⟨K,rfl⟩ : ∃ m,K = m + 1 := ⟨K - 1,by omega⟩
    obtain rfl : i = cnt := by omega
    simp only [trefoilref22_Draw.l0]
    rw [if_neg (by omega)]
  | succ d ih =>
    intro i hi K hK
    obtain ⟨K,rfl⟩ : ∃ m,K = m + 1 := ⟨K - 1,by omega⟩
    have e1 : wrap64 ((i : Int) + 1) = ((i + 1 : Nat) : Int) := by unfold wrap64;omega
    have e2 : wrap64 ((1 : Int) * 1) = 1 := by unfold wrap64;omega
    have e3 : wrap64 (((2 * i : Nat) : Int) + 1) = ((2 * i + 1 : Nat) : Int) := by unfold wrap64;omega
    have e4 : wrap64 (((2 * i + 1 : Nat) : Int) + 1) = ((2 * (i + 1) : Nat) : Int) := by unfold wrap64;omega
    have g := ih (i + 1) (by omega) K (by omega)
    have s1 := slice_is ys (2 * i) 1 (by omega)
    have s2 := slice_is ys (2 * i + 1) 1 (by omega)
    rw [show prs ys (i + 1) = prs ys i ++ [(ys.getD (2 * i) 0,ys.getD (2 * i + 1) 0)] from by simp [prs,List.range_succ],List.map_append] at g
    simp only [trefoilref22_Draw.l0]
    rw [e1,e2,e3,e4,if_pos (by omega),if_pos (by omega),if_pos (by omega),if_pos (by omega),if_pos (by omega),if_pos (by omega),if_pos (by omega),if_pos (by simp [prs];omega),Int.toNat_natCast,Int.toNat_natCast,Int.toNat_natCast,s1,show 2 * (i + 1) = 2 * i + 1 + 1 by omega,s2]
    rw [show 2 * (i + 1) = 2 * i + 1 + 1 by omega] at g
    exact g
theorem clsErr_one {b m k n : Int} (h : clsErr 1 b m k n = 0) : 1 ≤ b ∧ b ≤ 64 ∧ m = 0 ∧ k = 0 ∧ n = 0 := by
  unfold clsErr at h
  rw [if_pos (by omega)] at h
  by_cases h2 : 1 ≤ b ∧ b ≤ 64 ∧ ((1 : Int) = 3 → b = 1) ∧ (if (1 : Int) = 2 then (side6 m && side6 k && side6 n) = true else m = 0 ∧ k = 0 ∧ n = 0)
  · obtain ⟨a1,a2,_,a4⟩ := h2
    rw [if_neg (by omega)] at a4
    exact ⟨a1,a2,a4⟩
  · rw [if_neg h2] at h
    exact absurd h (by omega)
theorem draw_is (kd b m k n : Int) (cnt : Nat) (c1 : 1 ≤ cnt) (c3 : cnt ≤ 3) (ws : List Int) (hw : ∀ x ∈ ws,U x) (K : Nat) (hK : 300 ≤ K) :
    ∃ t pos sh e,trefoilref22_Draw.f K kd b m k n 1 (cnt : Int) ws 0 = some (t,pos,sh,e) ∧ (e = 0 → ∃ (l : Nat) (ps : List (Int × Int)),kd = 1 ∧ b = (l : Int) ∧ m = 0 ∧ k = 0 ∧ n = 0 ∧ 1 ≤ l ∧ l ≤ 64 ∧ sh = ps.map sh2 ∧ ps.length = cnt ∧ ∀ p ∈ ps,F l p.1 ∧ F l p.2) := by
  obtain ⟨K,rfl⟩ : ∃ m,K = m + 1 := ⟨K - 1,by omega⟩
  have bad : ∀ e : Int,trefoilref22_Check.f (K + 1) kd b m k n 1 (cnt : Int) = some e → e ≠ 0 → ∃ t pos sh e,trefoilref22_Draw.f (K + 1) kd b m k n 1 (cnt : Int) ws 0 = some (t,pos,sh,e) ∧ (e = 0 → ∃ (l : Nat) (ps : List (Int × Int)),kd = 1 ∧ b = (l : Int) ∧ m = 0 ∧ k = 0 ∧ n = 0 ∧ 1 ≤ l ∧ l ≤ 64 ∧ sh = ps.map sh2 ∧ ps.length = cnt ∧ ∀ p ∈ ps,F l p.1 ∧ F l p.2) := by
    intro e he hne
    refine ⟨ws,0,[],e,?_,fun h => absurd h hne⟩
    unfold trefoilref22_Draw.f
    rw [he,Option.bind_some,if_neg hne,Option.bind_some]
  by_cases hc : clsErr kd b m k n = 0
  · by_cases hk : kd = 1
    · subst hk
      obtain ⟨b1,b2,rfl,rfl,rfl⟩ := clsErr_one hc
      obtain ⟨l,rfl⟩ := Int.eq_ofNat_of_zero_le (show 0 ≤ b by omega)
      have hs : trefoilref22_Sides.f 1 (l : Int) 0 0 0 = some (1,1,1) := by simp [trefoilref22_Sides.f]
      have w1 : wrap64 ((cnt : Int) * 1) = (cnt : Int) := by unfold wrap64;omega
      have hcl : cnt * l ≤ 3 * 64 := Nat.mul_le_mul c3 (by omega)
      have w2 : wrap64 ((cnt : Int) * (l : Int)) = ((cnt * l : Nat) : Int) := by rw [← Int.natCast_mul];exact w64_nat _ (by omega)
      have hcheck : trefoilref22_Check.f (K + 1) 1 (l : Int) 0 0 0 1 (cnt : Int) = some 0 := by
        unfold trefoilref22_Check.f
        rw [trefoilref09_Check.is,Option.bind_some,hc,if_pos rfl,if_pos rfl,hs,Option.bind_some,if_neg (by omega),if_neg (by omega)]
        show (if wrap64 (wrap64 (wrap64 ((cnt : Int) * 1) * 1) * (l : Int)) > 4096 then some 2 else some 0) = _
        rw [w1,w1,w2,if_neg (by omega)]
      have w3 : wrap64 ((cnt : Int) * wrap64 (wrap64 ((1 : Int) * 1) + wrap64 ((1 : Int) * 1))) = ((2 * cnt : Nat) : Int) := by
        rw [show wrap64 (wrap64 ((1 : Int) * 1) + wrap64 ((1 : Int) * 1)) = 2 from by unfold wrap64;omega]
        unfold wrap64;omega
      obtain ⟨t,pos,ys,e,hn,hy⟩ := numbers_f l (by omega) (by omega) ws hw (2 * cnt) (by omega) (K + 1) (by omega)
      unfold trefoilref22_Draw.f
      rw [hcheck,Option.bind_some,if_pos rfl,hs,Option.bind_some]
      show ∃ t pos sh e,Option.bind (trefoilref06_Tape_Numbers.f (K + 1) ws 0 (wrap64 ((cnt : Int) * wrap64 (wrap64 ((1 : Int) * 1) + wrap64 ((1 : Int) * 1)))) (l : Int)) _ = _ ∧ _
      rw [w3,hn,Option.bind_some]
      by_cases he : e = 0
      · subst he
        obtain ⟨hy1,hy2⟩ := hy rfl
        have hd := draw_loop ys cnt hy1 (by omega) t pos cnt 0 (by omega) (K + 1) (by omega)
        refine ⟨t,pos,(prs ys cnt).map sh2,0,?_,fun _ => ⟨l,prs ys cnt,rfl,rfl,rfl,rfl,rfl,by omega,by omega,rfl,by simp [prs],fun p hp => ?_⟩⟩
        · rw [if_pos rfl]
          exact hd
        · obtain ⟨j,hj,rfl⟩ := List.mem_map.1 hp
          have hj2 := List.mem_range.1 hj
          exact ⟨hy2 _ (getD_mem (by omega)),hy2 _ (getD_mem (by omega))⟩
      · refine ⟨ws,0,[],e,?_,fun h => absurd h he⟩
        rw [if_neg he]
    · refine bad 15 ?_ (by decide)
      unfold trefoilref22_Check.f
      rw [trefoilref09_Check.is,Option.bind_some,hc,if_pos rfl,if_neg hk]
  · refine bad (clsErr kd b m k n) ?_ hc
    unfold trefoilref22_Check.f
    rw [trefoilref09_Check.is,Option.bind_some,if_neg hc]
    rfl
end Go.Proofs.Ytbhfleilgjonpaa.XScalarComes
