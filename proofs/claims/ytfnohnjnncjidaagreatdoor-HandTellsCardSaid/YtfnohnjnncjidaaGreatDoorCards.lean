/-
  DERIVED. GIVEN WITH THE SEED: THE CARDS: each row of YtfnohnjnncjidaaGreatDoorRows.lean that lists a variable, with what it lists TIED to the program's text (the seventh form; the later family's looks); each row that meets fmt, with fmt's text TOLD by the authors' own Lean function (tested against real Go, not proved from fmt's source: count such statements apart). THE CARD IS WHAT COUNTS. Prove the row's statement (the work); the ties are given (YtfnohnjnncjidaaGreatDoorTie.lean); close each card by the builder's one call (the guide's Derived/Test/ToyasCard.lean, 'card_holds'). Laid BY PROGRAM, IN A SANDBOX (cutbox-door.mjs). By AI agents, Wed Nov 11 2026. No macro, syntax, notation, axiom, sorry.
-/
import Derived.Test.YtfnohnjnncjidaaGreatDoorRows
import GoSem.ClaimSeven
namespace Go.Proofs.YtfnohnjnncjidaaGreatDoor
namespace Rows

/-- THE TIED CARD OF 'postillaw05.HandTells'. -/
def handTellsCard : Claim7 := { stood := { row := handTellsRow, standIns := [], harness := (true, "aeccabc75bdadb5f5d7e75ff29e715743f2729724bc982360dd728d6dd6ebcdf"), looks := false }, kinds := [], alts := [], laidByText := true, laidKinds := [.funcs, .funcs], laidTests := true, laidLooks := .later }
def HandTellsCardSaid : Prop := Claim7.holds Tryz.pinned (.plain (OpenSpec.ofChange handTellsSpec)) handTellsCard

/-- THE TIED CARD OF 'postillaw05.HandTrue'. -/
def handTrueCard : Claim7 := { stood := { row := handTrueRow, standIns := [], harness := (true, "aeccabc75bdadb5f5d7e75ff29e715743f2729724bc982360dd728d6dd6ebcdf"), looks := false }, kinds := [], alts := [], laidByText := true, laidKinds := [.funcs, .funcs], laidTests := true, laidLooks := .later }
def HandTrueCardSaid : Prop := Claim7.holds Tryz.pinned (.plain (OpenSpec.ofChange handTrueSpec)) handTrueCard

/-- THE TIED CARD OF 'postillaw05.HandProof'. -/
def handProofCard : Claim7 := { stood := { row := handProofRow, standIns := [], harness := (true, "aeccabc75bdadb5f5d7e75ff29e715743f2729724bc982360dd728d6dd6ebcdf"), looks := false }, kinds := [], alts := [], laidByText := true, laidKinds := [.funcs, .funcs], laidTests := true, laidLooks := .later }
def HandProofCardSaid : Prop := Claim7.holds Tryz.pinned (.plain (OpenSpec.ofChange handProofSpec)) handProofCard

/-- THE TIED CARD OF 'postillaw05.HandExplain'. -/
def handExplainCard : Claim7 := { stood := { row := handExplainRow, standIns := [], harness := (true, "aeccabc75bdadb5f5d7e75ff29e715743f2729724bc982360dd728d6dd6ebcdf"), looks := false }, kinds := [], alts := [], laidByText := true, laidKinds := [.funcs, .funcs], laidTests := true, laidLooks := .later }
def HandExplainCardSaid : Prop := Claim7.holds Tryz.pinned (.plain (OpenSpec.ofChange handExplainSpec)) handExplainCard

/-- THE TIED CARD OF 'postillaw05.HandLeast'. -/
def handLeastCard : Claim7 := { stood := { row := handLeastRow, standIns := [], harness := (true, "aeccabc75bdadb5f5d7e75ff29e715743f2729724bc982360dd728d6dd6ebcdf"), looks := false }, kinds := [], alts := [], laidByText := true, laidKinds := [.funcs, .funcs], laidTests := true, laidLooks := .later }
def HandLeastCardSaid : Prop := Claim7.holds Tryz.pinned (.plain (OpenSpec.ofChange handLeastSpec)) handLeastCard

/-- THE TIED CARD OF 'postillaw05.HandMore'. -/
def handMoreCard : Claim7 := { stood := { row := handMoreRow, standIns := [], harness := (true, "aeccabc75bdadb5f5d7e75ff29e715743f2729724bc982360dd728d6dd6ebcdf"), looks := false }, kinds := [], alts := [], laidByText := true, laidKinds := [.funcs, .funcs], laidTests := true, laidLooks := .later }
def HandMoreCardSaid : Prop := Claim7.holds Tryz.pinned (.plain (OpenSpec.ofChange handMoreSpec)) handMoreCard

/-- THE TIED CARD OF 'postillaw05.HandPost'. -/
def handPostCard : Claim7 := { stood := { row := handPostRow, standIns := [], harness := (true, "aeccabc75bdadb5f5d7e75ff29e715743f2729724bc982360dd728d6dd6ebcdf"), looks := false }, kinds := [], alts := [], laidByText := true, laidKinds := [.funcs, .funcs], laidTests := true, laidLooks := .later }
def HandPostCardSaid : Prop := Claim7.holds Tryz.pinned (.plain (OpenSpec.ofChange handPostSpec)) handPostCard

/-- THE TIED CARD OF 'postillaw05.HandAssign'. -/
def handAssignCard : Claim7 := { stood := { row := handAssignRow, standIns := [], harness := (true, "aeccabc75bdadb5f5d7e75ff29e715743f2729724bc982360dd728d6dd6ebcdf"), looks := false }, kinds := [], alts := [], laidByText := true, laidKinds := [.funcs, .funcs], laidTests := true, laidLooks := .later }
def HandAssignCardSaid : Prop := Claim7.holds Tryz.pinned (.plain (OpenSpec.ofChange handAssignSpec)) handAssignCard

/-- THE TIED CARD OF 'postillaw05.HandText'. -/
def handTextCard : Claim7 := { stood := { row := handTextRow, standIns := [], harness := (true, "aeccabc75bdadb5f5d7e75ff29e715743f2729724bc982360dd728d6dd6ebcdf"), looks := false }, kinds := [], alts := [], laidByText := true, laidKinds := [.funcs, .funcs], laidTests := true, laidLooks := .later }
def HandTextCardSaid : Prop := Claim7.holds Tryz.pinned (.plain (OpenSpec.ofChange handTextSpec)) handTextCard

/-- THE TIED CARD OF 'postillaw05.HandDoubt'. -/
def handDoubtCard : Claim7 := { stood := { row := handDoubtRow, standIns := [], harness := (true, "aeccabc75bdadb5f5d7e75ff29e715743f2729724bc982360dd728d6dd6ebcdf"), looks := false }, kinds := [], alts := [], laidByText := true, laidKinds := [.funcs, .funcs], laidTests := true, laidLooks := .later }
def HandDoubtCardSaid : Prop := Claim7.holds Tryz.pinned (.plain (OpenSpec.ofChange handDoubtSpec)) handDoubtCard

/-- THE TIED CARD OF 'postillaw05.HandLines'. -/
def handLinesCard : Claim7 := { stood := { row := handLinesRow, standIns := [], harness := (true, "aeccabc75bdadb5f5d7e75ff29e715743f2729724bc982360dd728d6dd6ebcdf"), looks := false }, kinds := [], alts := [], laidByText := true, laidKinds := [.funcs, .funcs], laidTests := true, laidLooks := .later }
def HandLinesCardSaid : Prop := Claim7.holds Tryz.pinned (.plain (OpenSpec.ofChange handLinesSpec)) handLinesCard

/-- THE SECOND FORM's CARD OF 'postillaw05.HandTells'. -/
def handTellsUptoCard : Claim7 := { stood := { row := handTellsUptoRow, standIns := [], harness := (true, "aeccabc75bdadb5f5d7e75ff29e715743f2729724bc982360dd728d6dd6ebcdf"), looks := false }, kinds := [], alts := [], laidByText := true, laidKinds := [.funcs, .funcs], laidTests := true, laidLooks := .later }
def HandTellsUptoCardSaid : Prop := Claim7.holds Tryz.pinned (.plain (OpenSpec.upto handTellsSpec)) handTellsUptoCard

/-- THE SECOND FORM's CARD OF 'postillaw05.HandTrue'. -/
def handTrueUptoCard : Claim7 := { stood := { row := handTrueUptoRow, standIns := [], harness := (true, "aeccabc75bdadb5f5d7e75ff29e715743f2729724bc982360dd728d6dd6ebcdf"), looks := false }, kinds := [], alts := [], laidByText := true, laidKinds := [.funcs, .funcs], laidTests := true, laidLooks := .later }
def HandTrueUptoCardSaid : Prop := Claim7.holds Tryz.pinned (.plain (OpenSpec.upto handTrueSpec)) handTrueUptoCard

/-- THE SECOND FORM's CARD OF 'postillaw05.HandProof'. -/
def handProofUptoCard : Claim7 := { stood := { row := handProofUptoRow, standIns := [], harness := (true, "aeccabc75bdadb5f5d7e75ff29e715743f2729724bc982360dd728d6dd6ebcdf"), looks := false }, kinds := [], alts := [], laidByText := true, laidKinds := [.funcs, .funcs], laidTests := true, laidLooks := .later }
def HandProofUptoCardSaid : Prop := Claim7.holds Tryz.pinned (.plain (OpenSpec.upto handProofSpec)) handProofUptoCard

/-- THE SECOND FORM's CARD OF 'postillaw05.HandExplain'. -/
def handExplainUptoCard : Claim7 := { stood := { row := handExplainUptoRow, standIns := [], harness := (true, "aeccabc75bdadb5f5d7e75ff29e715743f2729724bc982360dd728d6dd6ebcdf"), looks := false }, kinds := [], alts := [], laidByText := true, laidKinds := [.funcs, .funcs], laidTests := true, laidLooks := .later }
def HandExplainUptoCardSaid : Prop := Claim7.holds Tryz.pinned (.plain (OpenSpec.upto handExplainSpec)) handExplainUptoCard

/-- THE SECOND FORM's CARD OF 'postillaw05.HandLeast'. -/
def handLeastUptoCard : Claim7 := { stood := { row := handLeastUptoRow, standIns := [], harness := (true, "aeccabc75bdadb5f5d7e75ff29e715743f2729724bc982360dd728d6dd6ebcdf"), looks := false }, kinds := [], alts := [], laidByText := true, laidKinds := [.funcs, .funcs], laidTests := true, laidLooks := .later }
def HandLeastUptoCardSaid : Prop := Claim7.holds Tryz.pinned (.plain (OpenSpec.upto handLeastSpec)) handLeastUptoCard

/-- THE SECOND FORM's CARD OF 'postillaw05.HandMore'. -/
def handMoreUptoCard : Claim7 := { stood := { row := handMoreUptoRow, standIns := [], harness := (true, "aeccabc75bdadb5f5d7e75ff29e715743f2729724bc982360dd728d6dd6ebcdf"), looks := false }, kinds := [], alts := [], laidByText := true, laidKinds := [.funcs, .funcs], laidTests := true, laidLooks := .later }
def HandMoreUptoCardSaid : Prop := Claim7.holds Tryz.pinned (.plain (OpenSpec.upto handMoreSpec)) handMoreUptoCard

/-- THE SECOND FORM's CARD OF 'postillaw05.HandPost'. -/
def handPostUptoCard : Claim7 := { stood := { row := handPostUptoRow, standIns := [], harness := (true, "aeccabc75bdadb5f5d7e75ff29e715743f2729724bc982360dd728d6dd6ebcdf"), looks := false }, kinds := [], alts := [], laidByText := true, laidKinds := [.funcs, .funcs], laidTests := true, laidLooks := .later }
def HandPostUptoCardSaid : Prop := Claim7.holds Tryz.pinned (.plain (OpenSpec.upto handPostSpec)) handPostUptoCard

/-- THE SECOND FORM's CARD OF 'postillaw05.HandAssign'. -/
def handAssignUptoCard : Claim7 := { stood := { row := handAssignUptoRow, standIns := [], harness := (true, "aeccabc75bdadb5f5d7e75ff29e715743f2729724bc982360dd728d6dd6ebcdf"), looks := false }, kinds := [], alts := [], laidByText := true, laidKinds := [.funcs, .funcs], laidTests := true, laidLooks := .later }
def HandAssignUptoCardSaid : Prop := Claim7.holds Tryz.pinned (.plain (OpenSpec.upto handAssignSpec)) handAssignUptoCard

/-- THE SECOND FORM's CARD OF 'postillaw05.HandText'. -/
def handTextUptoCard : Claim7 := { stood := { row := handTextUptoRow, standIns := [], harness := (true, "aeccabc75bdadb5f5d7e75ff29e715743f2729724bc982360dd728d6dd6ebcdf"), looks := false }, kinds := [], alts := [], laidByText := true, laidKinds := [.funcs, .funcs], laidTests := true, laidLooks := .later }
def HandTextUptoCardSaid : Prop := Claim7.holds Tryz.pinned (.plain (OpenSpec.upto handTextSpec)) handTextUptoCard

/-- THE SECOND FORM's CARD OF 'postillaw05.HandDoubt'. -/
def handDoubtUptoCard : Claim7 := { stood := { row := handDoubtUptoRow, standIns := [], harness := (true, "aeccabc75bdadb5f5d7e75ff29e715743f2729724bc982360dd728d6dd6ebcdf"), looks := false }, kinds := [], alts := [], laidByText := true, laidKinds := [.funcs, .funcs], laidTests := true, laidLooks := .later }
def HandDoubtUptoCardSaid : Prop := Claim7.holds Tryz.pinned (.plain (OpenSpec.upto handDoubtSpec)) handDoubtUptoCard

/-- THE SECOND FORM's CARD OF 'postillaw05.HandLines'. -/
def handLinesUptoCard : Claim7 := { stood := { row := handLinesUptoRow, standIns := [], harness := (true, "aeccabc75bdadb5f5d7e75ff29e715743f2729724bc982360dd728d6dd6ebcdf"), looks := false }, kinds := [], alts := [], laidByText := true, laidKinds := [.funcs, .funcs], laidTests := true, laidLooks := .later }
def HandLinesUptoCardSaid : Prop := Claim7.holds Tryz.pinned (.plain (OpenSpec.upto handLinesSpec)) handLinesUptoCard
end Rows
end Go.Proofs.YtfnohnjnncjidaaGreatDoor
