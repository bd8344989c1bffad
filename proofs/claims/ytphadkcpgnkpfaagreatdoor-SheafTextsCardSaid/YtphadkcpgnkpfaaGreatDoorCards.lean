/-
  DERIVED. GIVEN WITH THE SEED: THE CARDS: each row of YtphadkcpgnkpfaaGreatDoorRows.lean that lists a variable, with what it lists TIED to the program's text (the seventh form; the later family's looks); each row that meets fmt, with fmt's text TOLD by the authors' own Lean function (tested against real Go, not proved from fmt's source: count such statements apart). THE CARD IS WHAT COUNTS. Prove the row's statement (the work); the ties are given (YtphadkcpgnkpfaaGreatDoorTie.lean); close each card by the builder's one call (the guide's Derived/Test/ToyasCard.lean, 'card_holds'). Laid BY PROGRAM, IN A SANDBOX (cutbox-door.mjs). By AI agents, Wed Nov 11 2026. No macro, syntax, notation, axiom, sorry.
-/
import Derived.Test.YtphadkcpgnkpfaaGreatDoorRows
import GoSem.ClaimSeven
namespace Go.Proofs.YtphadkcpgnkpfaaGreatDoor
namespace Rows

/-- THE TIED CARD OF 'postillaw11.SheafTexts'. -/
def sheafTextsCard : Claim7 := { stood := { row := sheafTextsRow, standIns := [], harness := (true, "25248efb6212fb060359dde68865338302a17ccd10447193a1a325d39d0e60e9"), looks := true }, kinds := [], alts := [], laidByText := true, laidKinds := [.data, .data, .data, .data, .sentinel, .sentinel, .funcs, .data, .widerDeep, .pinned], laidTests := true, laidLooks := .later }
def SheafTextsCardSaid : Prop := Claim7.holds Tryz.pinned (.plain (OpenSpec.ofChange sheafTextsSpec)) sheafTextsCard

/-- THE SECOND FORM's CARD OF 'postillaw11.SheafTexts'. -/
def sheafTextsUptoCard : Claim7 := { stood := { row := sheafTextsUptoRow, standIns := [], harness := (true, "25248efb6212fb060359dde68865338302a17ccd10447193a1a325d39d0e60e9"), looks := true }, kinds := [], alts := [], laidByText := true, laidKinds := [.data, .data, .data, .data, .sentinel, .sentinel, .funcs, .data, .widerDeep, .pinned], laidTests := true, laidLooks := .later }
def SheafTextsUptoCardSaid : Prop := Claim7.holds Tryz.pinned (.plain (OpenSpec.upto sheafTextsSpec)) sheafTextsUptoCard
end Rows
end Go.Proofs.YtphadkcpgnkpfaaGreatDoor
