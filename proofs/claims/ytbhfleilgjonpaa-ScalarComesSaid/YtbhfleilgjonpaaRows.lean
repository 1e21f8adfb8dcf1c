/-
  No cell of these rows narrows 'for every input' (looked for: loops, veiled, ifaces, maps, wideKeys, modest, calm, conditions, laid).
  DERIVED. THE GIVEN ROWS OF THIS SEAT. 3 by the template 'for every input the law returns true; each argument reads behind the call as it read before'; 0 by the template 'total and deterministic' (their statements: YtbhfleilgjonpaaTotals.lean).
  GIVEN WITH THE SEED: the statements are not yours to turn. If you find one false, say at which input.
  Laid BY PROGRAM, IN A SANDBOX (cutbox-rows.mjs): the forced cells as the released guide's own fill.sh prints them over the translation ed6c5eb6d68273a8… (all of the seat's roots in one cut). By AI agents, Wed Nov 11 2026. No macro, syntax, notation, axiom, sorry.
-/
import Derived.Test.YtbhfleilgjonpaaChecked
import GoSem.Claim
import GoSem.ClaimJoined
import GoSem.ClaimMapViews
import Derived.JoinedTies
import Derived.KernelRfl
namespace Go.Proofs.Ytbhfleilgjonpaa
/- THE CELL 'sum', in the pinned program and in every row, IS THE sha256 OF THE DUMP (.gsa) THAT YtbhfleilgjonpaaProg.lean LOADS. Nothing in Lean hashes anything: it is a label: what it is worth is what the hold of that sum in a sandbox is worth. -/
noncomputable def Try.pinned : Pinned := { name := "ytbhfleilgjonpaa", sum := "ed6c5eb6d68273a81c4cd4e1cdf085e3f09ca0bc82d33740cc4916b598cbe1ce", checked := Try.checked }
namespace Rows
def none {H : Type} : Left H := { results := [], args := [] }

/-- 'trefoillaw25.DabitComes': WHATEVER THE INPUT: true; the input reads as it did. -/
def dabitComesSpec : ChangeSpec := { name := "dabitComes", fn := fun _ => fun
  | [d1, d2, d3, d4] => { results := [.lit (.bool true)], args := [d1, d2, d3, d4] }
  | _ => none }
def dabitComesRow : OpenClaim := { program := "ytbhfleilgjonpaa", sum := "ed6c5eb6d68273a81c4cd4e1cdf085e3f09ca0bc82d33740cc4916b598cbe1ce", func := "trefoil/trefoillaw25.DabitComes", spec := "dabitComes", unfollowed := true, recurses := true, apart := false }
def DabitComesSaid : Prop := dabitComesRow.holds Try.pinned (OpenSpec.ofChange dabitComesSpec)

/-- ITS FALSE NEIGHBOUR: 'it returns false'. Refute it at one input. -/
def dabitComesWrong : ChangeSpec := { name := "dabitComes", fn := fun _ => fun
  | [d1, d2, d3, d4] => { results := [.lit (.bool false)], args := [d1, d2, d3, d4] }
  | _ => none }
def DabitComesWrongFalsely : Prop := dabitComesRow.holds Try.pinned (OpenSpec.ofChange dabitComesWrong)

/-- 'trefoillaw22.ScalarComes': WHATEVER THE INPUT: true; the input reads as it did. -/
def scalarComesSpec : ChangeSpec := { name := "scalarComes", fn := fun _ => fun
  | [d1, d2, d3, d4, d5] => { results := [.lit (.bool true)], args := [d1, d2, d3, d4, d5] }
  | _ => none }
def scalarComesRow : OpenClaim := { program := "ytbhfleilgjonpaa", sum := "ed6c5eb6d68273a81c4cd4e1cdf085e3f09ca0bc82d33740cc4916b598cbe1ce", func := "trefoil/trefoillaw22.ScalarComes", spec := "scalarComes", unfollowed := true, recurses := true, apart := false }
def ScalarComesSaid : Prop := scalarComesRow.holds Try.pinned (OpenSpec.ofChange scalarComesSpec)

/-- ITS FALSE NEIGHBOUR: 'it returns false'. Refute it at one input. -/
def scalarComesWrong : ChangeSpec := { name := "scalarComes", fn := fun _ => fun
  | [d1, d2, d3, d4, d5] => { results := [.lit (.bool false)], args := [d1, d2, d3, d4, d5] }
  | _ => none }
def ScalarComesWrongFalsely : Prop := scalarComesRow.holds Try.pinned (OpenSpec.ofChange scalarComesWrong)

/-- 'trefoillaw23.MatrixComes': WHATEVER THE INPUT: true; the input reads as it did. -/
def matrixComesSpec : ChangeSpec := { name := "matrixComes", fn := fun _ => fun
  | [d1, d2, d3, d4, d5] => { results := [.lit (.bool true)], args := [d1, d2, d3, d4, d5] }
  | _ => none }
def matrixComesRow : OpenClaim := { program := "ytbhfleilgjonpaa", sum := "ed6c5eb6d68273a81c4cd4e1cdf085e3f09ca0bc82d33740cc4916b598cbe1ce", func := "trefoil/trefoillaw23.MatrixComes", spec := "matrixComes", unfollowed := true, recurses := true, apart := false }
def MatrixComesSaid : Prop := matrixComesRow.holds Try.pinned (OpenSpec.ofChange matrixComesSpec)

/-- ITS FALSE NEIGHBOUR: 'it returns false'. Refute it at one input. -/
def matrixComesWrong : ChangeSpec := { name := "matrixComes", fn := fun _ => fun
  | [d1, d2, d3, d4, d5] => { results := [.lit (.bool false)], args := [d1, d2, d3, d4, d5] }
  | _ => none }
def MatrixComesWrongFalsely : Prop := matrixComesRow.holds Try.pinned (OpenSpec.ofChange matrixComesWrong)

/- THE SECOND FORM. 'bulk': how many values and letters a reading holds, each counted each time it is reached (what is shared counts as often as it is met; a slice's spare places count too). A statement '..UptoSaid' is the law's where the arguments, and the package variables that the reading takes, are together of bulk at most 1048576: NARROWER than '..Said'. Prove '..Said' where nothing that the law and all that it calls make is longer than what came in: it says more and counts as full. Else prove '..UptoSaid'. A law counts once. -/
mutual
def uptoBulk {H : Type} : DataW H → Nat
  | .lit (.string bytes) => bytes.length + 1
  | .lit _ => 1
  | .nil => 1
  | .ptr d => uptoBulk d + 1
  | .slice elems spare => uptoBulkAll elems + uptoBulkAll spare + 1
  | .agg parts => uptoBulkAll parts + 1
  | .iface _ d => uptoBulk d + 1
  | .map entries => uptoBulkEntries entries + 1
  | .held _ => 1
def uptoBulkAll {H : Type} : List (DataW H) → Nat
  | [] => 0
  | d :: r => uptoBulk d + uptoBulkAll r
def uptoBulkEntries {H : Type} : List (Lit × DataW H) → Nat
  | [] => 0
  | x :: r => uptoBulkEntry x + uptoBulkEntries r
def uptoBulkEntry {H : Type} : Lit × DataW H → Nat
  | (.string bytes, d) => bytes.length + uptoBulk d + 1
  | (_, d) => uptoBulk d + 1
 end
def uptoSmall : (H : Type) → List (DataW H) → Bool := fun _ ds => decide (uptoBulkAll ds ≤ 1048576)
def OpenSpec.upto (s : _root_.Go.ChangeSpec) : _root_.Go.OpenSpec := { _root_.Go.OpenSpec.ofChange s with cond := some uptoSmall }

/-- 'trefoillaw25.DabitComes', WHERE WHAT IT READS IS OF BULK AT MOST 1048576: true; the input reads as it did. -/
def dabitComesUptoRow : OpenClaim := { program := "ytbhfleilgjonpaa", sum := "ed6c5eb6d68273a81c4cd4e1cdf085e3f09ca0bc82d33740cc4916b598cbe1ce", func := "trefoil/trefoillaw25.DabitComes", spec := "dabitComes", unfollowed := true, recurses := true, apart := false, narrowed := true }
def DabitComesUptoSaid : Prop := dabitComesUptoRow.holds Try.pinned (OpenSpec.upto dabitComesSpec)

/-- 'trefoillaw22.ScalarComes', WHERE WHAT IT READS IS OF BULK AT MOST 1048576: true; the input reads as it did. -/
def scalarComesUptoRow : OpenClaim := { program := "ytbhfleilgjonpaa", sum := "ed6c5eb6d68273a81c4cd4e1cdf085e3f09ca0bc82d33740cc4916b598cbe1ce", func := "trefoil/trefoillaw22.ScalarComes", spec := "scalarComes", unfollowed := true, recurses := true, apart := false, narrowed := true }
def ScalarComesUptoSaid : Prop := scalarComesUptoRow.holds Try.pinned (OpenSpec.upto scalarComesSpec)

/-- 'trefoillaw23.MatrixComes', WHERE WHAT IT READS IS OF BULK AT MOST 1048576: true; the input reads as it did. -/
def matrixComesUptoRow : OpenClaim := { program := "ytbhfleilgjonpaa", sum := "ed6c5eb6d68273a81c4cd4e1cdf085e3f09ca0bc82d33740cc4916b598cbe1ce", func := "trefoil/trefoillaw23.MatrixComes", spec := "matrixComes", unfollowed := true, recurses := true, apart := false, narrowed := true }
def MatrixComesUptoSaid : Prop := matrixComesUptoRow.holds Try.pinned (OpenSpec.upto matrixComesSpec)

end Rows
end Go.Proofs.Ytbhfleilgjonpaa
