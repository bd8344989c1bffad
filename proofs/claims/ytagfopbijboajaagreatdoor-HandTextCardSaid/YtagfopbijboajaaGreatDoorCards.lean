/-
  DERIVED. GIVEN WITH THE SEED: THE CARDS: each row of YtagfopbijboajaaGreatDoorRows.lean that lists a variable, with what it lists TIED to the program's text (the seventh form; the later family's looks); each row that meets fmt, with fmt's text TOLD by the authors' own Lean function (tested against real Go, not proved from fmt's source: count such statements apart). THE CARD IS WHAT COUNTS. Prove the row's statement (the work); the ties are given (YtagfopbijboajaaGreatDoorTie.lean); close each card by the builder's one call (the guide's Derived/Test/ToyasCard.lean, 'card_holds'). Laid BY PROGRAM, IN A SANDBOX (cutbox-door.mjs). By AI agents, Wed Nov 11 2026. No macro, syntax, notation, axiom, sorry.
-/
import Derived.Test.YtagfopbijboajaaGreatDoorRows
import GoSem.ClaimSeven
namespace Go.Proofs.YtagfopbijboajaaGreatDoor
namespace Rows

/-- THE TIED CARD OF 'postillaw05.HandText'. -/
def handTextCard : Claim7 := { stood := { row := handTextRow, standIns := [], harness := (true, "a5bb7e3a25b2058c0eccafa66fee2790d359a73155c2714d2e3a7a653164e758"), looks := false }, kinds := [], alts := [], laidByText := true, laidKinds := [.funcs, .funcs], laidTests := true, laidLooks := .later }
def HandTextCardSaid : Prop := Claim7.holds Tryz.pinned (.plain (OpenSpec.ofChange handTextSpec)) handTextCard

/-- THE SECOND FORM's CARD OF 'postillaw05.HandText'. -/
def handTextUptoCard : Claim7 := { stood := { row := handTextUptoRow, standIns := [], harness := (true, "a5bb7e3a25b2058c0eccafa66fee2790d359a73155c2714d2e3a7a653164e758"), looks := false }, kinds := [], alts := [], laidByText := true, laidKinds := [.funcs, .funcs], laidTests := true, laidLooks := .later }
def HandTextUptoCardSaid : Prop := Claim7.holds Tryz.pinned (.plain (OpenSpec.upto handTextSpec)) handTextUptoCard
end Rows
end Go.Proofs.YtagfopbijboajaaGreatDoor
