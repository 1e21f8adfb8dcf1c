import Derived.Test.YtpkjomnmkgpomaaDoorWWords
import Derived.ChangeArms
import Derived.ChangeSlices
import Derived.ChangeSame
import Derived.ChangeMaps
import Derived.WideShapes
import Derived.SizedLaws
/-! What a law's arguments read as, told as the print's kinds (Kd): one word for every type of whole numbers, Bools, strings, slices, structs. -/
namespace Go.Proofs.YtpkjomnmkgpomaaDoorW.PrintWords
open Go.RowKit Go.ChangeShapes Go.WideShapes
set_option linter.unusedVariables false
set_option linter.unusedSimpArgs false
/-- Read at type t it is an α whose cells are these; 'ok' tells the datum and what is well-formed. -/
def RK {H : Type} (enc : TypeId × Value → H) (P : Program) (w : World) (base : Nat) (spare : Nat → Bool) (held : Bool) {α : Type} (t : TypeId) (d : Kd α) (ok : DataW H → α → Prop) : Prop :=
  ∀ (fuel : Nat) (cs : List Value) (x : DataW H × List MemPlace), DataW.trod enc P w base spare held fuel t cs = some x → ∃ a, d.K w a cs ∧ ok x.1 a
def RKs {H : Type} (enc : TypeId × Value → H) (P : Program) (w : World) (base : Nat) (spare : Nat → Bool) (held : Bool) {α : Type} (fs : List Field) (off : Nat) (d : Kd α) (ok : List (DataW H) → α → Prop) : Prop :=
  ∀ (n : Nat) (cs : List Value) (xs : List (DataW H × List MemPlace)), xs.length = fs.length → (∀ (i : Nat) (f : Field), fs[i]? = some f → DataW.trod enc P w base spare held n f.type ((cs.drop f.offset).take (P.cellsOf f.type)) = xs[i]?) →
    off + d.sz ≤ cs.length → ∃ a, d.K w a ((cs.drop off).take d.sz) ∧ ok (xs.map (·.1)) a
section
variable {H : Type} {enc : TypeId × Value → H} {P : Program} {w : World} {base : Nat} {spare : Nat → Bool} {held : Bool} {α β : Type} {t e : TypeId}
theorem RK_int {k : IntKind} (ht : P.underlying t = some (.int k)) : RK enc P w base spare held t (Kd.int k) (fun _ n => (Lit.int k n).wf = true) := by
  intro fuel cs x h
  cases fuel with
  | zero => simp [DataW.trod] at h
  | succ n =>
    unfold DataW.trod at h
    rw [ht] at h
    split at h <;> simp_all
    obtain ⟨h1, h2⟩ := h
    exact ⟨_, rfl, by simp_all⟩
theorem RK_bool (ht : P.underlying t = some .bool) : RK enc P w base spare held t Kd.bool (fun _ _ => True) := by
  intro fuel cs x h
  cases fuel with
  | zero => simp [DataW.trod] at h
  | succ n =>
    unfold DataW.trod at h
    rw [ht] at h
    split at h <;> simp_all
    rename_i b
    cases b
    · exact .inl rfl
    · exact .inr rfl
theorem RK_string (ht : P.underlying t = some .string) : RK enc P w base spare held t Kd.string (fun D s => D = .lit (.string s.data.toList)) := by
  intro fuel cs x h
  cases fuel with
  | zero => simp [DataW.trod] at h
  | succ n =>
    unfold DataW.trod at h
    rw [ht] at h
    split at h <;> simp_all
    obtain ⟨_, rfl⟩ := h
    exact ⟨_, rfl, rfl⟩
theorem RK_imp {d : Kd α} {ok ok' : DataW H → α → Prop} (h : RK enc P w base spare held t d ok) (hi : ∀ D a, ok D a → ok' D a) : RK enc P w base spare held t d ok' := by
  intro fuel cs x hx
  obtain ⟨a, hk, ho⟩ := h fuel cs x hx
  exact ⟨a, hk, hi _ _ ho⟩
/-- A slice's datum has as many elements as its list. -/
def SliceOf (D : DataW H) (n : Nat) : Prop := (D = .nil ∧ n = 0) ∨ ∃ el sp, D = .slice el sp ∧ el.length = n
theorem RK_slice {d : Kd α} {ok : DataW H → α → Prop} (ht : P.underlying t = some (.slice e)) (hc : P.cellsOf e = d.sz) (h : RK enc P w base spare held e d ok) :
    RK enc P w base spare held t (Kd.slice e d) (fun D xs => xs.length ≤ maxLen ∧ SliceOf D xs.length ∧ ∀ x ∈ xs, ∃ D', ok D' x) := by
  intro fuel cs x hx
  rcases DataW.trod_slice ht hx with ⟨rfl, rfl⟩ | ⟨a, len, cap, elems, rest, n, _, rfl, rfl, hb, hl, hm, hlen, hel, _, _⟩
  · exact ⟨[], ⟨none, 0, rfl, Nat.le_refl _, rfl, by simp, fun h => absurd h (by simp)⟩, by simp [maxLen], .inl ⟨rfl, rfl⟩, fun x hx => by simp at hx⟩
  · have each : ∀ i, i < len → ∃ y : α, (∃ c : List Value, c.length = d.sz ∧ d.K w y c ∧ ∀ j u, c[j]? = some u → w.cell? (a.add (i * d.sz + j)) = some u) ∧ ∃ D', ok D' y := by
      intro i hi
      have h1 := hel i hi
      have h2 : (elems[i]?).isSome := by simp; omega
      obtain ⟨z, hz⟩ := Option.isSome_iff_exists.1 h2
      rw [hz] at h1
      obtain ⟨cs', hcs, htr⟩ := Option.bind_eq_some_iff.1 h1
      obtain ⟨y, hk, ho⟩ := h n cs' z htr
      obtain ⟨_, hcl, hcc⟩ := World.cells?_some hcs
      refine ⟨y, ⟨cs', by rw [hcl, hc], hk, fun j u hj => ?_⟩, _, ho⟩
      have hj' : j < P.cellsOf e := by have := (List.getElem?_eq_some_iff.1 hj).1; omega
      have h3 := hcc j hj'
      rw [hj] at h3
      rw [hc] at h3
      have : (a.add (i * d.sz)).add j = a.add (i * d.sz + j) := by
        unfold Addr.add
        split <;> split <;> simp_all <;> omega
      rw [← this]
      exact h3
    obtain ⟨ys, hyl, hys⟩ : ∃ ys : List α, ys.length = len ∧ ∀ i y, ys[i]? = some y → (∃ c : List Value, c.length = d.sz ∧ d.K w y c ∧ ∀ j u, c[j]? = some u → w.cell? (a.add (i * d.sz + j)) = some u) ∧ ∃ D', ok D' y := by
      have : ∀ m, m ≤ len → ∃ ys : List α, ys.length = m ∧ ∀ i y, ys[i]? = some y → (∃ c : List Value, c.length = d.sz ∧ d.K w y c ∧ ∀ j u, c[j]? = some u → w.cell? (a.add (i * d.sz + j)) = some u) ∧ ∃ D', ok D' y := by
       intro m
       induction m with
       | zero => exact fun _ => ⟨[], rfl, fun i y hy => by simp at hy⟩
       | succ m ih =>
        intro hm1
        obtain ⟨ys, h1, h2⟩ := ih (by omega)
        obtain ⟨y, hy⟩ := each m (by omega)
        refine ⟨ys ++ [y], by simp [h1], fun i z hz => ?_⟩
        rcases Nat.lt_or_ge i ys.length with hi | hi
        · rw [List.getElem?_append_left hi] at hz
          exact h2 i z hz
        · have him : i = m := by
            have := (List.getElem?_eq_some_iff.1 hz).1
            simp at this
            omega
          subst him
          rw [← h1] at hz
          have : y = z := by simpa using hz
          subst this
          exact hy
      exact this len (Nat.le_refl _)
    refine ⟨ys, ⟨some a, cap, by rw [hyl], by omega, rfl, by rw [hyl]; simp only [maxLen] at hm; omega, fun _ => ⟨a, rfl, fun j p hp => ?_⟩⟩, by rw [hyl]; omega, .inr ⟨_, _, rfl, by rw [hyl]; simpa using hlen⟩, fun y hy => ?_⟩
    · exact (hys j p hp).1
    · obtain ⟨i, hi, rfl⟩ := List.getElem_of_mem hy
      exact (hys i _ (List.getElem?_eq_getElem hi)).2
theorem RKs_one {d : Kd α} {ok : DataW H → α → Prop} (f : Field) (off : Nat) (h : RK enc P w base spare held f.type d ok) (ho : f.offset = off) (hs : P.cellsOf f.type = d.sz) :
    RKs enc P w base spare held [f] off d (fun D a => ∃ D0, D = [D0] ∧ ok D0 a) := by
  intro n cs xs hl hx hle
  obtain ⟨x0, rfl⟩ : ∃ x, xs = [x] := by
    match xs, hl with
    | [x], _ => exact ⟨x, rfl⟩
  have h0 := hx 0 f rfl
  rw [ho, hs] at h0
  obtain ⟨a, hk, hok⟩ := h n _ x0 (by simpa using h0)
  exact ⟨a, hk, _, rfl, hok⟩
theorem RKs_cons {d : Kd α} {d' : Kd β} {ok : DataW H → α → Prop} {ok' : List (DataW H) → β → Prop} (f : Field) (fs : List Field) (off : Nat) (h : RK enc P w base spare held f.type d ok) (ho : f.offset = off) (hs : P.cellsOf f.type = d.sz)
    (hr : RKs enc P w base spare held fs (off + d.sz) d' ok') : RKs enc P w base spare held (f :: fs) off (Kd.pair d d') (fun D a => ∃ D0 Dr, D = D0 :: Dr ∧ ok D0 a.1 ∧ ok' Dr a.2) := by
  intro n cs xs hl hx hle
  obtain ⟨x0, xr, rfl⟩ : ∃ x xr, xs = x :: xr := by
    match xs, hl with
    | x :: xr, _ => exact ⟨x, xr, rfl⟩
  have h0 := hx 0 f rfl
  rw [ho, hs] at h0
  have hsz : (Kd.pair d d').sz = d.sz + d'.sz := rfl
  obtain ⟨a, hk, hok⟩ := h n _ x0 (by simpa using h0)
  obtain ⟨b, hkb, hokb⟩ := hr n cs xr (by simpa using hl) (fun i g hg => by have := hx (i + 1) g (by simpa using hg); simpa using this) (by omega)
  refine ⟨(a, b), ⟨_, _, ?_, hk, hkb⟩, _, _, rfl, hok, hokb⟩
  rw [hsz, ← List.drop_drop, List.take_add]
theorem RK_struct {d : Kd α} {ok : List (DataW H) → α → Prop} (fs : List Field) (ht : P.underlying t = some (.struct fs.toArray)) (hs : P.cellsOf t = d.sz) (hr : RKs enc P w base spare held fs 0 d ok) :
    RK enc P w base spare held t d (fun D a => ∃ Ds, D = .agg Ds ∧ ok Ds a) := by
  intro fuel cs x hx
  obtain ⟨xs, n, _, rfl, hl, hlen, hf⟩ := DataW.trod_struct ht hx
  obtain ⟨a, hk, hok⟩ := hr n cs xs (by simpa using hlen) (fun i f hi => hf i f (by simpa using hi)) (by omega)
  rw [List.drop_zero, ← hs, ← hl, List.take_length] at hk
  exact ⟨a, hk, _, rfl, hok⟩
theorem RK_iso {d : Kd α} {f : β → α} {ok : DataW H → α → Prop} (h : RK enc P w base spare held t d ok) (g : α → β) (hg : ∀ a, f (g a) = a) : RK enc P w base spare held t (Kd.iso d f) (fun D b => ok D (f b)) := by
  intro fuel cs x hx
  obtain ⟨a, hk, hok⟩ := h fuel cs x hx
  exact ⟨g a, by show d.K w (f (g a)) cs; rw [hg]; exact hk, by show ok x.1 (f (g a)); rw [hg]; exact hok⟩
/-- A law's argument that is a slice. -/
theorem RK_arg_slice {d : Kd α} {ok : DataW H → α → Prop} {r : Reach} {b0 : Nat} {v : Value} {D : DataW H} {ps : List MemPlace} (ht : P.underlying t = some (.slice e)) (hc : P.cellsOf e = d.sz) (hr : RK enc P w base spare held e d ok)
    (hv : Value.okWide P w r b0 t v) (h : DataW.Trod enc P w base spare held t v D ps) :
    ∃ (A : Option Addr) (c : Nat) (xs : List α), v = .slice A xs.length c ∧ xs.length ≤ c ∧ Kd.C d w A xs.length xs ∧ xs.length ≤ maxLen ∧ SliceOf D xs.length ∧ ∀ x ∈ xs, ∃ D', ok D' x := by
  obtain ⟨a, len, cap, rfl⟩ := okWide_slice ht hv
  obtain ⟨fuel, hf⟩ := h
  obtain ⟨xs, ⟨A, c, hcs, hle, hC⟩, h1, h2, h3⟩ := RK_slice ht hc hr fuel _ _ hf
  simp [Value.cells] at hcs
  obtain ⟨rfl, rfl, rfl⟩ := hcs
  exact ⟨_, _, xs, rfl, hle, hC, h1, h2, h3⟩
/-- A law's argument that is a struct. -/
theorem RK_arg_struct {d : Kd α} {ok : DataW H → α → Prop} {r : Reach} {b0 : Nat} {v : Value} {D : DataW H} {ps : List MemPlace} {fs : Array Field} (ht : P.underlying t = some (.struct fs)) (hr : RK enc P w base spare held t d ok)
    (hv : Value.okWide P w r b0 t v) (h : DataW.Trod enc P w base spare held t v D ps) : ∃ (cs : List Value) (x : α), v = .agg cs.toArray ∧ d.K w x cs ∧ ok D x := by
  obtain ⟨cs, rfl, hsz⟩ := okWide_struct ht hv
  obtain ⟨fuel, hf⟩ := h
  obtain ⟨x, hk, hok⟩ := hr fuel _ _ hf
  exact ⟨cs.toList, x, by simp, by simpa [Value.cells] using hk, hok⟩
/-- The size of a law's argument that is a slice. -/
theorem sized_of {D : DataW H} {n B : Nat} {ts : List TypeId} {ds : List (DataW H)} {j : Nat} (hsz : (DataW.weightsEach P ts ds).all (· ≤ reachBytes) = true) (hj : ts[j]? = some t) (hd : ds[j]? = some D) (hu : P.underlying t = some (.slice e)) (hB : P.bytesOf e = B)
    (h : SliceOf D n) : n * B ≤ 140737488351232 := by
  rcases h with ⟨rfl, rfl⟩ | ⟨el, sp, rfl, rfl⟩
  · simp
  · have z := sized_slice hsz hj hd hu
    rw [hB] at z
    exact Nat.le_trans (Nat.mul_le_mul_right _ (Nat.le_add_right _ _)) z
end
end Go.Proofs.YtpkjomnmkgpomaaDoorW.PrintWords
