/-
  DERIVED. GIVEN WITH THE SEED: THE CARDS: each row of YtpkjomnmkgpomaaDoorRows.lean that lists a variable, with what it lists TIED to the program's text (the seventh form; the later family's looks); each row that meets fmt, with fmt's text TOLD by the authors' own Lean function (tested against real Go, not proved from fmt's source: count such statements apart). THE CARD IS WHAT COUNTS. Prove the row's statement (the work); the ties are given (YtpkjomnmkgpomaaDoorTie.lean); close each card by the builder's one call (the guide's Derived/Test/ToyasCard.lean, 'card_holds'). Laid BY PROGRAM, IN A SANDBOX (cutbox-door.mjs). By AI agents, Wed Nov 11 2026. No macro, syntax, notation, axiom, sorry.
-/
import Derived.Test.YtpkjomnmkgpomaaDoorRows
import GoSem.ClaimSeven
namespace Go.Proofs.YtpkjomnmkgpomaaDoor
namespace Rows

/-- THE TIED CARD OF 'trefoillaw06.TapeOnce'. -/
def tapeOnceCard : Claim7 := { stood := { row := tapeOnceRow, standIns := [], harness := (true, "2db1fae919ca2f2321368c9167e4d2fff2c8bb55ec8da2d5f4dabaac39820c94"), looks := true }, kinds := [], alts := [], laidByText := true, laidKinds := [.handle], laidTests := true, laidLooks := .later }
def TapeOnceCardSaid : Prop := Claim7.holds Tryd.pinned (.plain (OpenSpec.ofChange tapeOnceSpec)) tapeOnceCard

/-- THE TIED CARD OF 'trefoillaw06.TapeApart'. -/
def tapeApartCard : Claim7 := { stood := { row := tapeApartRow, standIns := [], harness := (true, "2db1fae919ca2f2321368c9167e4d2fff2c8bb55ec8da2d5f4dabaac39820c94"), looks := true }, kinds := [], alts := [], laidByText := true, laidKinds := [.handle], laidTests := true, laidLooks := .later }
def TapeApartCardSaid : Prop := Claim7.holds Tryd.pinned (.plain (OpenSpec.ofChange tapeApartSpec)) tapeApartCard

/-- THE TIED CARD OF 'trefoillaw06.TapePlays'. -/
def tapePlaysCard : Claim7 := { stood := { row := tapePlaysRow, standIns := [], harness := (true, "2db1fae919ca2f2321368c9167e4d2fff2c8bb55ec8da2d5f4dabaac39820c94"), looks := true }, kinds := [], alts := [], laidByText := true, laidKinds := [.handle], laidTests := true, laidLooks := .later }
def TapePlaysCardSaid : Prop := Claim7.holds Tryd.pinned (.plain (OpenSpec.ofChange tapePlaysSpec)) tapePlaysCard

/-- THE TIED CARD OF 'trefoillaw06.TapeBlind'. -/
def tapeBlindCard : Claim7 := { stood := { row := tapeBlindRow, standIns := [], harness := (true, "2db1fae919ca2f2321368c9167e4d2fff2c8bb55ec8da2d5f4dabaac39820c94"), looks := true }, kinds := [], alts := [], laidByText := true, laidKinds := [.handle], laidTests := true, laidLooks := .later }
def TapeBlindCardSaid : Prop := Claim7.holds Tryd.pinned (.plain (OpenSpec.ofChange tapeBlindSpec)) tapeBlindCard

/-- THE SECOND FORM's CARD OF 'trefoillaw06.TapeOnce'. -/
def tapeOnceUptoCard : Claim7 := { stood := { row := tapeOnceUptoRow, standIns := [], harness := (true, "2db1fae919ca2f2321368c9167e4d2fff2c8bb55ec8da2d5f4dabaac39820c94"), looks := true }, kinds := [], alts := [], laidByText := true, laidKinds := [.handle], laidTests := true, laidLooks := .later }
def TapeOnceUptoCardSaid : Prop := Claim7.holds Tryd.pinned (.plain (OpenSpec.upto tapeOnceSpec)) tapeOnceUptoCard

/-- THE SECOND FORM's CARD OF 'trefoillaw06.TapeApart'. -/
def tapeApartUptoCard : Claim7 := { stood := { row := tapeApartUptoRow, standIns := [], harness := (true, "2db1fae919ca2f2321368c9167e4d2fff2c8bb55ec8da2d5f4dabaac39820c94"), looks := true }, kinds := [], alts := [], laidByText := true, laidKinds := [.handle], laidTests := true, laidLooks := .later }
def TapeApartUptoCardSaid : Prop := Claim7.holds Tryd.pinned (.plain (OpenSpec.upto tapeApartSpec)) tapeApartUptoCard

/-- THE SECOND FORM's CARD OF 'trefoillaw06.TapePlays'. -/
def tapePlaysUptoCard : Claim7 := { stood := { row := tapePlaysUptoRow, standIns := [], harness := (true, "2db1fae919ca2f2321368c9167e4d2fff2c8bb55ec8da2d5f4dabaac39820c94"), looks := true }, kinds := [], alts := [], laidByText := true, laidKinds := [.handle], laidTests := true, laidLooks := .later }
def TapePlaysUptoCardSaid : Prop := Claim7.holds Tryd.pinned (.plain (OpenSpec.upto tapePlaysSpec)) tapePlaysUptoCard

/-- THE SECOND FORM's CARD OF 'trefoillaw06.TapeBlind'. -/
def tapeBlindUptoCard : Claim7 := { stood := { row := tapeBlindUptoRow, standIns := [], harness := (true, "2db1fae919ca2f2321368c9167e4d2fff2c8bb55ec8da2d5f4dabaac39820c94"), looks := true }, kinds := [], alts := [], laidByText := true, laidKinds := [.handle], laidTests := true, laidLooks := .later }
def TapeBlindUptoCardSaid : Prop := Claim7.holds Tryd.pinned (.plain (OpenSpec.upto tapeBlindSpec)) tapeBlindUptoCard
end Rows
end Go.Proofs.YtpkjomnmkgpomaaDoor
