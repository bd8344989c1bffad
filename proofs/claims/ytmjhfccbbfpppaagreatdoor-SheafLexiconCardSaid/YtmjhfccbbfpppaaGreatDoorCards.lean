/-
  DERIVED. GIVEN WITH THE SEED: THE CARDS: each row of YtmjhfccbbfpppaaGreatDoorRows.lean that lists a variable, with what it lists TIED to the program's text (the seventh form; the later family's looks); each row that meets fmt, with fmt's text TOLD by the authors' own Lean function (tested against real Go, not proved from fmt's source: count such statements apart). THE CARD IS WHAT COUNTS. Prove the row's statement (the work); the ties are given (YtmjhfccbbfpppaaGreatDoorTie.lean); close each card by the builder's one call (the guide's Derived/Test/ToyasCard.lean, 'card_holds'). Laid BY PROGRAM, IN A SANDBOX (cutbox-door.mjs). By AI agents, Wed Nov 11 2026. No macro, syntax, notation, axiom, sorry.
-/
import Derived.Test.YtmjhfccbbfpppaaGreatDoorRows
import GoSem.ClaimSeven
namespace Go.Proofs.YtmjhfccbbfpppaaGreatDoor
namespace Rows

/-- THE TIED CARD OF 'postillaw11.SheafWords'. -/
def sheafWordsCard : Claim7 := { stood := { row := sheafWordsRow, standIns := [], harness := (true, "0299fda93d20886d4c1647842948ab200d21c5d5f15cf5ec80da6b3ede1ff0ac"), looks := true }, kinds := [], alts := [], laidByText := true, laidKinds := [.data, .data, .data, .data, .sentinel, .sentinel, .funcs, .funcs, .widerDeep, .funcsDeep, .pinned], laidTests := true, laidLooks := .later }
def SheafWordsCardSaid : Prop := Claim7.holds Tryz.pinned (.plain (OpenSpec.ofChange sheafWordsSpec)) sheafWordsCard

/-- THE TIED CARD OF 'postillaw11.SheafCopied'. -/
def sheafCopiedCard : Claim7 := { stood := { row := sheafCopiedRow, standIns := [], harness := (true, "0299fda93d20886d4c1647842948ab200d21c5d5f15cf5ec80da6b3ede1ff0ac"), looks := true }, kinds := [], alts := [], laidByText := true, laidKinds := [.data, .data, .data, .data, .sentinel, .sentinel, .funcs, .funcs, .widerDeep, .funcsDeep, .pinned], laidTests := true, laidLooks := .later }
def SheafCopiedCardSaid : Prop := Claim7.holds Tryz.pinned (.plain (OpenSpec.ofChange sheafCopiedSpec)) sheafCopiedCard

/-- THE TIED CARD OF 'postillaw11.SheafRows'. -/
def sheafRowsCard : Claim7 := { stood := { row := sheafRowsRow, standIns := [], harness := (true, "0299fda93d20886d4c1647842948ab200d21c5d5f15cf5ec80da6b3ede1ff0ac"), looks := true }, kinds := [], alts := [], laidByText := true, laidKinds := [.data, .data, .data, .data, .sentinel, .sentinel, .funcs, .funcs, .widerDeep, .funcsDeep, .pinned], laidTests := true, laidLooks := .later }
def SheafRowsCardSaid : Prop := Claim7.holds Tryz.pinned (.plain (OpenSpec.ofChange sheafRowsSpec)) sheafRowsCard

/-- THE TIED CARD OF 'postillaw11.SheafExamples'. -/
def sheafExamplesCard : Claim7 := { stood := { row := sheafExamplesRow, standIns := [], harness := (true, "0299fda93d20886d4c1647842948ab200d21c5d5f15cf5ec80da6b3ede1ff0ac"), looks := true }, kinds := [], alts := [], laidByText := true, laidKinds := [.data, .data, .data, .data, .sentinel, .sentinel, .funcs, .funcs, .widerDeep, .funcsDeep, .pinned], laidTests := true, laidLooks := .later }
def SheafExamplesCardSaid : Prop := Claim7.holds Tryz.pinned (.plain (OpenSpec.ofChange sheafExamplesSpec)) sheafExamplesCard

/-- THE TIED CARD OF 'postillaw11.SheafLexicon'. -/
def sheafLexiconCard : Claim7 := { stood := { row := sheafLexiconRow, standIns := [], harness := (true, "0299fda93d20886d4c1647842948ab200d21c5d5f15cf5ec80da6b3ede1ff0ac"), looks := true }, kinds := [], alts := [], laidByText := true, laidKinds := [.data, .data, .data, .data, .sentinel, .sentinel, .funcs, .funcs, .widerDeep, .funcsDeep, .pinned], laidTests := true, laidLooks := .later }
def SheafLexiconCardSaid : Prop := Claim7.holds Tryz.pinned (.plain (OpenSpec.ofChange sheafLexiconSpec)) sheafLexiconCard

/-- THE TIED CARD OF 'postillaw11.SheafSlips'. -/
def sheafSlipsCard : Claim7 := { stood := { row := sheafSlipsRow, standIns := [], harness := (true, "0299fda93d20886d4c1647842948ab200d21c5d5f15cf5ec80da6b3ede1ff0ac"), looks := true }, kinds := [], alts := [], laidByText := true, laidKinds := [.data, .data, .data, .data, .sentinel, .sentinel, .funcs, .funcs, .funcs, .widerDeep, .funcsDeep, .pinned], laidTests := true, laidLooks := .later }
def SheafSlipsCardSaid : Prop := Claim7.holds Tryz.pinned (.plain (OpenSpec.ofChange sheafSlipsSpec)) sheafSlipsCard

/-- THE SECOND FORM's CARD OF 'postillaw11.SheafWords'. -/
def sheafWordsUptoCard : Claim7 := { stood := { row := sheafWordsUptoRow, standIns := [], harness := (true, "0299fda93d20886d4c1647842948ab200d21c5d5f15cf5ec80da6b3ede1ff0ac"), looks := true }, kinds := [], alts := [], laidByText := true, laidKinds := [.data, .data, .data, .data, .sentinel, .sentinel, .funcs, .funcs, .widerDeep, .funcsDeep, .pinned], laidTests := true, laidLooks := .later }
def SheafWordsUptoCardSaid : Prop := Claim7.holds Tryz.pinned (.plain (OpenSpec.upto sheafWordsSpec)) sheafWordsUptoCard

/-- THE SECOND FORM's CARD OF 'postillaw11.SheafCopied'. -/
def sheafCopiedUptoCard : Claim7 := { stood := { row := sheafCopiedUptoRow, standIns := [], harness := (true, "0299fda93d20886d4c1647842948ab200d21c5d5f15cf5ec80da6b3ede1ff0ac"), looks := true }, kinds := [], alts := [], laidByText := true, laidKinds := [.data, .data, .data, .data, .sentinel, .sentinel, .funcs, .funcs, .widerDeep, .funcsDeep, .pinned], laidTests := true, laidLooks := .later }
def SheafCopiedUptoCardSaid : Prop := Claim7.holds Tryz.pinned (.plain (OpenSpec.upto sheafCopiedSpec)) sheafCopiedUptoCard

/-- THE SECOND FORM's CARD OF 'postillaw11.SheafRows'. -/
def sheafRowsUptoCard : Claim7 := { stood := { row := sheafRowsUptoRow, standIns := [], harness := (true, "0299fda93d20886d4c1647842948ab200d21c5d5f15cf5ec80da6b3ede1ff0ac"), looks := true }, kinds := [], alts := [], laidByText := true, laidKinds := [.data, .data, .data, .data, .sentinel, .sentinel, .funcs, .funcs, .widerDeep, .funcsDeep, .pinned], laidTests := true, laidLooks := .later }
def SheafRowsUptoCardSaid : Prop := Claim7.holds Tryz.pinned (.plain (OpenSpec.upto sheafRowsSpec)) sheafRowsUptoCard

/-- THE SECOND FORM's CARD OF 'postillaw11.SheafExamples'. -/
def sheafExamplesUptoCard : Claim7 := { stood := { row := sheafExamplesUptoRow, standIns := [], harness := (true, "0299fda93d20886d4c1647842948ab200d21c5d5f15cf5ec80da6b3ede1ff0ac"), looks := true }, kinds := [], alts := [], laidByText := true, laidKinds := [.data, .data, .data, .data, .sentinel, .sentinel, .funcs, .funcs, .widerDeep, .funcsDeep, .pinned], laidTests := true, laidLooks := .later }
def SheafExamplesUptoCardSaid : Prop := Claim7.holds Tryz.pinned (.plain (OpenSpec.upto sheafExamplesSpec)) sheafExamplesUptoCard

/-- THE SECOND FORM's CARD OF 'postillaw11.SheafLexicon'. -/
def sheafLexiconUptoCard : Claim7 := { stood := { row := sheafLexiconUptoRow, standIns := [], harness := (true, "0299fda93d20886d4c1647842948ab200d21c5d5f15cf5ec80da6b3ede1ff0ac"), looks := true }, kinds := [], alts := [], laidByText := true, laidKinds := [.data, .data, .data, .data, .sentinel, .sentinel, .funcs, .funcs, .widerDeep, .funcsDeep, .pinned], laidTests := true, laidLooks := .later }
def SheafLexiconUptoCardSaid : Prop := Claim7.holds Tryz.pinned (.plain (OpenSpec.upto sheafLexiconSpec)) sheafLexiconUptoCard

/-- THE SECOND FORM's CARD OF 'postillaw11.SheafSlips'. -/
def sheafSlipsUptoCard : Claim7 := { stood := { row := sheafSlipsUptoRow, standIns := [], harness := (true, "0299fda93d20886d4c1647842948ab200d21c5d5f15cf5ec80da6b3ede1ff0ac"), looks := true }, kinds := [], alts := [], laidByText := true, laidKinds := [.data, .data, .data, .data, .sentinel, .sentinel, .funcs, .funcs, .funcs, .widerDeep, .funcsDeep, .pinned], laidTests := true, laidLooks := .later }
def SheafSlipsUptoCardSaid : Prop := Claim7.holds Tryz.pinned (.plain (OpenSpec.upto sheafSlipsSpec)) sheafSlipsUptoCard
end Rows
end Go.Proofs.YtmjhfccbbfpppaaGreatDoor
