/-
  DERIVED. GIVEN WITH THE SEED: THE CARDS: each row of YtagfopbijboajaaDoorRows.lean that lists a variable, with what it lists TIED to the program's text (the seventh form; the later family's looks); each row that meets fmt, with fmt's text TOLD by the authors' own Lean function (tested against real Go, not proved from fmt's source: count such statements apart). THE CARD IS WHAT COUNTS. Prove the row's statement (the work); the ties are given (YtagfopbijboajaaDoorTie.lean); close each card by the builder's one call (the guide's Derived/Test/ToyasCard.lean, 'card_holds'). Laid BY PROGRAM, IN A SANDBOX (cutbox-door.mjs). By AI agents, Wed Nov 11 2026. No macro, syntax, notation, axiom, sorry.
-/
import Derived.Test.YtagfopbijboajaaDoorRows
import GoSem.ClaimSeven
namespace Go.Proofs.YtagfopbijboajaaDoor
namespace Rows

/-- THE TIED CARD OF 'postillaw05.HandExamples'. -/
def handExamplesCard : Claim7 := { stood := { row := handExamplesRow, standIns := [], harness := (true, "90b5add56f66f8cb6c0a5e9be1e650bc7fa3b3676007d1a7a9ee0067a6de4678"), looks := false }, kinds := [], alts := [], laidByText := true, laidKinds := [.funcs, .funcs], laidTests := true, laidLooks := .later }
def HandExamplesCardSaid : Prop := Claim7.holds Tryd.pinned (.plain (OpenSpec.ofChange handExamplesSpec)) handExamplesCard

/-- THE SECOND FORM's CARD OF 'postillaw05.HandExamples'. -/
def handExamplesUptoCard : Claim7 := { stood := { row := handExamplesUptoRow, standIns := [], harness := (true, "90b5add56f66f8cb6c0a5e9be1e650bc7fa3b3676007d1a7a9ee0067a6de4678"), looks := false }, kinds := [], alts := [], laidByText := true, laidKinds := [.funcs, .funcs], laidTests := true, laidLooks := .later }
def HandExamplesUptoCardSaid : Prop := Claim7.holds Tryd.pinned (.plain (OpenSpec.upto handExamplesSpec)) handExamplesUptoCard
end Rows
end Go.Proofs.YtagfopbijboajaaDoor
