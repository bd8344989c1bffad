/-
  DERIVED. GIVEN WITH THE SEED: THE CARDS: each row of YtppcbmpiphhphaaGreatDoorRows.lean that lists a variable, with what it lists TIED to the program's text (the seventh form; the later family's looks); each row that meets fmt, with fmt's text TOLD by the authors' own Lean function (tested against real Go, not proved from fmt's source: count such statements apart). THE CARD IS WHAT COUNTS. Prove the row's statement (the work); the ties are given (YtppcbmpiphhphaaGreatDoorTie.lean); close each card by the builder's one call (the guide's Derived/Test/ToyasCard.lean, 'card_holds'). Laid BY PROGRAM, IN A SANDBOX (cutbox-door.mjs). By AI agents, Wed Nov 11 2026. No macro, syntax, notation, axiom, sorry.
-/
import Derived.Test.YtppcbmpiphhphaaGreatDoorRows
import GoSem.ClaimSeven
namespace Go.Proofs.YtppcbmpiphhphaaGreatDoor
namespace Rows

/-- THE TIED CARD OF 'postillaw11.SheafLists'. -/
def sheafListsCard : Claim7 := { stood := { row := sheafListsRow, standIns := [], harness := (true, "1bd5360741c5a00131176cfafa51a76bbe614680fac7b36493e828fdaa437e6e"), looks := true }, kinds := [], alts := [], laidByText := true, laidKinds := [.data, .data, .data, .data, .sentinel, .sentinel, .funcs, .funcsDeep, .pinned], laidTests := true, laidLooks := .later }
def SheafListsCardSaid : Prop := Claim7.holds Tryz.pinned (.plain (OpenSpec.ofChange sheafListsSpec)) sheafListsCard

/-- THE SECOND FORM's CARD OF 'postillaw11.SheafLists'. -/
def sheafListsUptoCard : Claim7 := { stood := { row := sheafListsUptoRow, standIns := [], harness := (true, "1bd5360741c5a00131176cfafa51a76bbe614680fac7b36493e828fdaa437e6e"), looks := true }, kinds := [], alts := [], laidByText := true, laidKinds := [.data, .data, .data, .data, .sentinel, .sentinel, .funcs, .funcsDeep, .pinned], laidTests := true, laidLooks := .later }
def SheafListsUptoCardSaid : Prop := Claim7.holds Tryz.pinned (.plain (OpenSpec.upto sheafListsSpec)) sheafListsUptoCard
end Rows
end Go.Proofs.YtppcbmpiphhphaaGreatDoor
