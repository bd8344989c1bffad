/-
  NARROWER THAN 'FOR EVERY INPUT', by the rows' own cells (each row's printed sentence says how): HandTells: laid · HandTrue: laid · HandProof: laid · HandExplain: laid · HandLeast: laid · HandMore: laid · HandPost: laid · HandAssign: laid · HandText: laid · HandDoubt: laid · HandLines: laid.
  DERIVED. THE GIVEN ROWS OF THIS SEAT. 11 by the template 'for every input the law returns true; each argument reads behind the call as it read before'; 0 by the template 'total and deterministic' (their statements: YtfnohnjnncjidaaGreatDoorTotals.lean).
  GIVEN WITH THE SEED: the statements are not yours to turn. If you find one false, say at which input.
  Laid BY PROGRAM, IN A SANDBOX (cutbox-rows.mjs): the forced cells as the released guide's own fill.sh prints them over the translation 8ef489e52b5d8850… (all of the seat's roots in one cut). By AI agents, Wed Nov 11 2026. No macro, syntax, notation, axiom, sorry.
-/
import Derived.Test.YtfnohnjnncjidaaGreatDoorChecked
import GoSem.Claim
import GoSem.ClaimJoined
import GoSem.ClaimMapViews
import Derived.JoinedTies
import Derived.KernelRfl
namespace Go.Proofs.YtfnohnjnncjidaaGreatDoor
/- THE CELL 'sum', in the pinned program and in every row, IS THE sha256 OF THE DUMP (.gsa) THAT YtfnohnjnncjidaaGreatDoorProg.lean LOADS. Nothing in Lean hashes anything: it is a label: what it is worth is what the hold of that sum in a sandbox is worth. -/
noncomputable def Tryz.pinned : Pinned := { name := "ytfnohnjnncjidaagreatdoor", sum := "8ef489e52b5d8850fcaf7c305b7efd0c1f787ae739186a9a11cab72f1f6f9531", checked := Tryz.checked }
namespace Rows
def none {H : Type} : Left H := { results := [], args := [] }

/- WHAT THE LISTED PACKAGE-LEVEL VARIABLES READ AS WHEN THE CALL BEGINS. Each datum BY PROGRAM (the guide's laid-datum.mjs) off the statement by which the dump's own 'gosem.cut.vars' lays the variable. In a bare row this is a premise. The card (YtfnohnjnncjidaaGreatDoorCards.lean) ties it to the program's text. -/
def laid_postil_slip_sides {H : Type} : DataW H := .iface "func table" (.agg [.agg [.nil], .agg [.iface "func" (.lit (.string [112, 111, 115, 116, 105, 108, 47, 115, 108, 105, 112, 46, 115, 105, 100, 101, 115, 36, 49]))], .agg [.iface "func" (.lit (.string [112, 111, 115, 116, 105, 108, 47, 115, 108, 105, 112, 46, 115, 105, 100, 101, 115, 36, 50]))], .agg [.iface "func" (.lit (.string [112, 111, 115, 116, 105, 108, 47, 115, 108, 105, 112, 46, 115, 105, 100, 101, 115, 36, 51]))]])
def laid_postil_hand_steps {H : Type} : DataW H := .iface "func table" (.agg [.agg [.lit (.int .u8 2), .iface "func" (.lit (.string [112, 111, 115, 116, 105, 108, 47, 104, 97, 110, 100, 46, 115, 116, 101, 112, 115, 36, 49]))], .agg [.lit (.int .u8 3), .iface "func" (.lit (.string [112, 111, 115, 116, 105, 108, 47, 104, 97, 110, 100, 46, 115, 116, 101, 112, 115, 36, 50]))], .agg [.lit (.int .u8 1), .iface "func" (.lit (.string [112, 111, 115, 116, 105, 108, 47, 104, 97, 110, 100, 46, 115, 116, 101, 112, 115, 36, 51]))]])

/-- 'postillaw05.HandTells': WHATEVER THE INPUT: true; the input reads as it did. -/
def handTellsSpec : ChangeSpec := { name := "handTells", fn := fun _ => fun
  | [d1, d2, d3, d4] => { results := [.lit (.bool true)], args := [d1, d2, d3, d4] }
  | _ => none }
def handTellsRow : OpenClaim := { program := "ytfnohnjnncjidaagreatdoor", sum := "8ef489e52b5d8850fcaf7c305b7efd0c1f787ae739186a9a11cab72f1f6f9531", func := "postil/postillaw05.HandTells", spec := "handTells", inPlace := ["internal/abi.NoEscape", "internal/bytealg.MakeNoZero"], unfollowed := true, recurses := true, named := ["postil/hand.steps", "postil/slip.sides"], plainKeys := false, apart := false, laid := [("postil/slip.sides", laid_postil_slip_sides), ("postil/hand.steps", laid_postil_hand_steps)] }
def HandTellsSaid : Prop := handTellsRow.holds Tryz.pinned (OpenSpec.ofChange handTellsSpec)

/-- ITS FALSE NEIGHBOUR: 'it returns false'. Refute it at one input. -/
def handTellsWrong : ChangeSpec := { name := "handTells", fn := fun _ => fun
  | [d1, d2, d3, d4] => { results := [.lit (.bool false)], args := [d1, d2, d3, d4] }
  | _ => none }
def HandTellsWrongFalsely : Prop := handTellsRow.holds Tryz.pinned (OpenSpec.ofChange handTellsWrong)

/-- 'postillaw05.HandTrue': WHATEVER THE INPUT: true; the input reads as it did. -/
def handTrueSpec : ChangeSpec := { name := "handTrue", fn := fun _ => fun
  | [d1, d2] => { results := [.lit (.bool true)], args := [d1, d2] }
  | _ => none }
def handTrueRow : OpenClaim := { program := "ytfnohnjnncjidaagreatdoor", sum := "8ef489e52b5d8850fcaf7c305b7efd0c1f787ae739186a9a11cab72f1f6f9531", func := "postil/postillaw05.HandTrue", spec := "handTrue", inPlace := ["internal/abi.NoEscape", "internal/bytealg.MakeNoZero"], unfollowed := true, recurses := true, named := ["postil/hand.steps", "postil/slip.sides"], plainKeys := false, apart := false, laid := [("postil/slip.sides", laid_postil_slip_sides), ("postil/hand.steps", laid_postil_hand_steps)] }
def HandTrueSaid : Prop := handTrueRow.holds Tryz.pinned (OpenSpec.ofChange handTrueSpec)

/-- ITS FALSE NEIGHBOUR: 'it returns false'. Refute it at one input. -/
def handTrueWrong : ChangeSpec := { name := "handTrue", fn := fun _ => fun
  | [d1, d2] => { results := [.lit (.bool false)], args := [d1, d2] }
  | _ => none }
def HandTrueWrongFalsely : Prop := handTrueRow.holds Tryz.pinned (OpenSpec.ofChange handTrueWrong)

/-- 'postillaw05.HandProof': WHATEVER THE INPUT: true; the input reads as it did. -/
def handProofSpec : ChangeSpec := { name := "handProof", fn := fun _ => fun
  | [d1, d2] => { results := [.lit (.bool true)], args := [d1, d2] }
  | _ => none }
def handProofRow : OpenClaim := { program := "ytfnohnjnncjidaagreatdoor", sum := "8ef489e52b5d8850fcaf7c305b7efd0c1f787ae739186a9a11cab72f1f6f9531", func := "postil/postillaw05.HandProof", spec := "handProof", inPlace := ["internal/abi.NoEscape", "internal/bytealg.MakeNoZero"], unfollowed := true, recurses := true, named := ["postil/hand.steps", "postil/slip.sides"], plainKeys := false, apart := false, laid := [("postil/slip.sides", laid_postil_slip_sides), ("postil/hand.steps", laid_postil_hand_steps)] }
def HandProofSaid : Prop := handProofRow.holds Tryz.pinned (OpenSpec.ofChange handProofSpec)

/-- ITS FALSE NEIGHBOUR: 'it returns false'. Refute it at one input. -/
def handProofWrong : ChangeSpec := { name := "handProof", fn := fun _ => fun
  | [d1, d2] => { results := [.lit (.bool false)], args := [d1, d2] }
  | _ => none }
def HandProofWrongFalsely : Prop := handProofRow.holds Tryz.pinned (OpenSpec.ofChange handProofWrong)

/-- 'postillaw05.HandExplain': WHATEVER THE INPUT: true; the input reads as it did. -/
def handExplainSpec : ChangeSpec := { name := "handExplain", fn := fun _ => fun
  | [d1, d2] => { results := [.lit (.bool true)], args := [d1, d2] }
  | _ => none }
def handExplainRow : OpenClaim := { program := "ytfnohnjnncjidaagreatdoor", sum := "8ef489e52b5d8850fcaf7c305b7efd0c1f787ae739186a9a11cab72f1f6f9531", func := "postil/postillaw05.HandExplain", spec := "handExplain", inPlace := ["internal/abi.NoEscape", "internal/bytealg.MakeNoZero"], unfollowed := true, recurses := true, named := ["postil/hand.steps", "postil/slip.sides"], plainKeys := false, apart := false, laid := [("postil/slip.sides", laid_postil_slip_sides), ("postil/hand.steps", laid_postil_hand_steps)] }
def HandExplainSaid : Prop := handExplainRow.holds Tryz.pinned (OpenSpec.ofChange handExplainSpec)

/-- ITS FALSE NEIGHBOUR: 'it returns false'. Refute it at one input. -/
def handExplainWrong : ChangeSpec := { name := "handExplain", fn := fun _ => fun
  | [d1, d2] => { results := [.lit (.bool false)], args := [d1, d2] }
  | _ => none }
def HandExplainWrongFalsely : Prop := handExplainRow.holds Tryz.pinned (OpenSpec.ofChange handExplainWrong)

/-- 'postillaw05.HandLeast': WHATEVER THE INPUT: true; the input reads as it did. -/
def handLeastSpec : ChangeSpec := { name := "handLeast", fn := fun _ => fun
  | [d1, d2, d3] => { results := [.lit (.bool true)], args := [d1, d2, d3] }
  | _ => none }
def handLeastRow : OpenClaim := { program := "ytfnohnjnncjidaagreatdoor", sum := "8ef489e52b5d8850fcaf7c305b7efd0c1f787ae739186a9a11cab72f1f6f9531", func := "postil/postillaw05.HandLeast", spec := "handLeast", inPlace := ["internal/abi.NoEscape", "internal/bytealg.MakeNoZero"], unfollowed := true, recurses := true, named := ["postil/hand.steps", "postil/slip.sides"], plainKeys := false, apart := false, laid := [("postil/slip.sides", laid_postil_slip_sides), ("postil/hand.steps", laid_postil_hand_steps)] }
def HandLeastSaid : Prop := handLeastRow.holds Tryz.pinned (OpenSpec.ofChange handLeastSpec)

/-- ITS FALSE NEIGHBOUR: 'it returns false'. Refute it at one input. -/
def handLeastWrong : ChangeSpec := { name := "handLeast", fn := fun _ => fun
  | [d1, d2, d3] => { results := [.lit (.bool false)], args := [d1, d2, d3] }
  | _ => none }
def HandLeastWrongFalsely : Prop := handLeastRow.holds Tryz.pinned (OpenSpec.ofChange handLeastWrong)

/-- 'postillaw05.HandMore': WHATEVER THE INPUT: true; the input reads as it did. -/
def handMoreSpec : ChangeSpec := { name := "handMore", fn := fun _ => fun
  | [d1, d2, d3] => { results := [.lit (.bool true)], args := [d1, d2, d3] }
  | _ => none }
def handMoreRow : OpenClaim := { program := "ytfnohnjnncjidaagreatdoor", sum := "8ef489e52b5d8850fcaf7c305b7efd0c1f787ae739186a9a11cab72f1f6f9531", func := "postil/postillaw05.HandMore", spec := "handMore", inPlace := ["internal/abi.NoEscape", "internal/bytealg.MakeNoZero"], unfollowed := true, recurses := true, named := ["postil/hand.steps", "postil/slip.sides"], plainKeys := false, apart := false, laid := [("postil/slip.sides", laid_postil_slip_sides), ("postil/hand.steps", laid_postil_hand_steps)] }
def HandMoreSaid : Prop := handMoreRow.holds Tryz.pinned (OpenSpec.ofChange handMoreSpec)

/-- ITS FALSE NEIGHBOUR: 'it returns false'. Refute it at one input. -/
def handMoreWrong : ChangeSpec := { name := "handMore", fn := fun _ => fun
  | [d1, d2, d3] => { results := [.lit (.bool false)], args := [d1, d2, d3] }
  | _ => none }
def HandMoreWrongFalsely : Prop := handMoreRow.holds Tryz.pinned (OpenSpec.ofChange handMoreWrong)

/-- 'postillaw05.HandPost': WHATEVER THE INPUT: true; the input reads as it did. -/
def handPostSpec : ChangeSpec := { name := "handPost", fn := fun _ => fun
  | [d1, d2, d3, d4] => { results := [.lit (.bool true)], args := [d1, d2, d3, d4] }
  | _ => none }
def handPostRow : OpenClaim := { program := "ytfnohnjnncjidaagreatdoor", sum := "8ef489e52b5d8850fcaf7c305b7efd0c1f787ae739186a9a11cab72f1f6f9531", func := "postil/postillaw05.HandPost", spec := "handPost", inPlace := ["internal/abi.NoEscape", "internal/bytealg.MakeNoZero"], unfollowed := true, recurses := true, named := ["postil/hand.steps", "postil/slip.sides"], plainKeys := false, apart := false, laid := [("postil/slip.sides", laid_postil_slip_sides), ("postil/hand.steps", laid_postil_hand_steps)] }
def HandPostSaid : Prop := handPostRow.holds Tryz.pinned (OpenSpec.ofChange handPostSpec)

/-- ITS FALSE NEIGHBOUR: 'it returns false'. Refute it at one input. -/
def handPostWrong : ChangeSpec := { name := "handPost", fn := fun _ => fun
  | [d1, d2, d3, d4] => { results := [.lit (.bool false)], args := [d1, d2, d3, d4] }
  | _ => none }
def HandPostWrongFalsely : Prop := handPostRow.holds Tryz.pinned (OpenSpec.ofChange handPostWrong)

/-- 'postillaw05.HandAssign': WHATEVER THE INPUT: true; the input reads as it did. -/
def handAssignSpec : ChangeSpec := { name := "handAssign", fn := fun _ => fun
  | [d1, d2, d3] => { results := [.lit (.bool true)], args := [d1, d2, d3] }
  | _ => none }
def handAssignRow : OpenClaim := { program := "ytfnohnjnncjidaagreatdoor", sum := "8ef489e52b5d8850fcaf7c305b7efd0c1f787ae739186a9a11cab72f1f6f9531", func := "postil/postillaw05.HandAssign", spec := "handAssign", inPlace := ["internal/abi.NoEscape", "internal/bytealg.MakeNoZero"], unfollowed := true, recurses := true, named := ["postil/hand.steps", "postil/slip.sides"], plainKeys := false, apart := false, laid := [("postil/slip.sides", laid_postil_slip_sides), ("postil/hand.steps", laid_postil_hand_steps)] }
def HandAssignSaid : Prop := handAssignRow.holds Tryz.pinned (OpenSpec.ofChange handAssignSpec)

/-- ITS FALSE NEIGHBOUR: 'it returns false'. Refute it at one input. -/
def handAssignWrong : ChangeSpec := { name := "handAssign", fn := fun _ => fun
  | [d1, d2, d3] => { results := [.lit (.bool false)], args := [d1, d2, d3] }
  | _ => none }
def HandAssignWrongFalsely : Prop := handAssignRow.holds Tryz.pinned (OpenSpec.ofChange handAssignWrong)

/-- 'postillaw05.HandText': WHATEVER THE INPUT: true; the input reads as it did. -/
def handTextSpec : ChangeSpec := { name := "handText", fn := fun _ => fun
  | [d] => { results := [.lit (.bool true)], args := [d] }
  | _ => none }
def handTextRow : OpenClaim := { program := "ytfnohnjnncjidaagreatdoor", sum := "8ef489e52b5d8850fcaf7c305b7efd0c1f787ae739186a9a11cab72f1f6f9531", func := "postil/postillaw05.HandText", spec := "handText", inPlace := ["internal/abi.NoEscape", "internal/bytealg.MakeNoZero"], unfollowed := true, recurses := true, named := ["postil/hand.steps", "postil/slip.sides"], plainKeys := false, apart := false, laid := [("postil/slip.sides", laid_postil_slip_sides), ("postil/hand.steps", laid_postil_hand_steps)] }
def HandTextSaid : Prop := handTextRow.holds Tryz.pinned (OpenSpec.ofChange handTextSpec)

/-- ITS FALSE NEIGHBOUR: 'it returns false'. Refute it at one input. -/
def handTextWrong : ChangeSpec := { name := "handText", fn := fun _ => fun
  | [d] => { results := [.lit (.bool false)], args := [d] }
  | _ => none }
def HandTextWrongFalsely : Prop := handTextRow.holds Tryz.pinned (OpenSpec.ofChange handTextWrong)

/-- 'postillaw05.HandDoubt': WHATEVER THE INPUT: true; the input reads as it did. -/
def handDoubtSpec : ChangeSpec := { name := "handDoubt", fn := fun _ => fun
  | [d1, d2] => { results := [.lit (.bool true)], args := [d1, d2] }
  | _ => none }
def handDoubtRow : OpenClaim := { program := "ytfnohnjnncjidaagreatdoor", sum := "8ef489e52b5d8850fcaf7c305b7efd0c1f787ae739186a9a11cab72f1f6f9531", func := "postil/postillaw05.HandDoubt", spec := "handDoubt", inPlace := ["internal/abi.NoEscape", "internal/bytealg.MakeNoZero"], unfollowed := true, recurses := true, named := ["postil/hand.steps", "postil/slip.sides"], plainKeys := false, apart := false, laid := [("postil/slip.sides", laid_postil_slip_sides), ("postil/hand.steps", laid_postil_hand_steps)] }
def HandDoubtSaid : Prop := handDoubtRow.holds Tryz.pinned (OpenSpec.ofChange handDoubtSpec)

/-- ITS FALSE NEIGHBOUR: 'it returns false'. Refute it at one input. -/
def handDoubtWrong : ChangeSpec := { name := "handDoubt", fn := fun _ => fun
  | [d1, d2] => { results := [.lit (.bool false)], args := [d1, d2] }
  | _ => none }
def HandDoubtWrongFalsely : Prop := handDoubtRow.holds Tryz.pinned (OpenSpec.ofChange handDoubtWrong)

/-- 'postillaw05.HandLines': WHATEVER THE INPUT: true; the input reads as it did. -/
def handLinesSpec : ChangeSpec := { name := "handLines", fn := fun _ => fun
  | [d1, d2] => { results := [.lit (.bool true)], args := [d1, d2] }
  | _ => none }
def handLinesRow : OpenClaim := { program := "ytfnohnjnncjidaagreatdoor", sum := "8ef489e52b5d8850fcaf7c305b7efd0c1f787ae739186a9a11cab72f1f6f9531", func := "postil/postillaw05.HandLines", spec := "handLines", inPlace := ["internal/abi.NoEscape", "internal/bytealg.MakeNoZero"], unfollowed := true, recurses := true, named := ["postil/hand.steps", "postil/slip.sides"], plainKeys := false, apart := false, laid := [("postil/slip.sides", laid_postil_slip_sides), ("postil/hand.steps", laid_postil_hand_steps)] }
def HandLinesSaid : Prop := handLinesRow.holds Tryz.pinned (OpenSpec.ofChange handLinesSpec)

/-- ITS FALSE NEIGHBOUR: 'it returns false'. Refute it at one input. -/
def handLinesWrong : ChangeSpec := { name := "handLines", fn := fun _ => fun
  | [d1, d2] => { results := [.lit (.bool false)], args := [d1, d2] }
  | _ => none }
def HandLinesWrongFalsely : Prop := handLinesRow.holds Tryz.pinned (OpenSpec.ofChange handLinesWrong)

/- THE SECOND FORM. 'bulk': how many values and letters a reading holds, each counted each time it is reached (what is shared counts as often as it is met; a slice's spare places count too). A statement '..UptoSaid' is the law's where the arguments, and the package variables that the reading takes, are together of bulk at most 1048576: NARROWER than '..Said'. Prove '..Said' where nothing that the law and all that it calls make is longer than what came in: it says more and counts as full. Else prove '..UptoSaid'. A law counts once. -/
mutual
def uptoBulk {H : Type} : DataW H → Nat
  | .lit (.string bytes) => bytes.length + 1
  | .lit _ => 1
  | .nil => 1
  | .ptr d => uptoBulk d + 1
  | .slice elems spare => uptoBulkAll elems + uptoBulkAll spare + 1
  | .agg parts => uptoBulkAll parts + 1
  | .iface _ d => uptoBulk d + 1
  | .map entries => uptoBulkEntries entries + 1
  | .held _ => 1
def uptoBulkAll {H : Type} : List (DataW H) → Nat
  | [] => 0
  | d :: r => uptoBulk d + uptoBulkAll r
def uptoBulkEntries {H : Type} : List (Lit × DataW H) → Nat
  | [] => 0
  | x :: r => uptoBulkEntry x + uptoBulkEntries r
def uptoBulkEntry {H : Type} : Lit × DataW H → Nat
  | (.string bytes, d) => bytes.length + uptoBulk d + 1
  | (_, d) => uptoBulk d + 1
 end
def uptoSmall : (H : Type) → List (DataW H) → Bool := fun _ ds => decide (uptoBulkAll ds ≤ 1048576)
def OpenSpec.upto (s : _root_.Go.ChangeSpec) : _root_.Go.OpenSpec := { _root_.Go.OpenSpec.ofChange s with cond := some uptoSmall }

/-- 'postillaw05.HandTells', WHERE WHAT IT READS IS OF BULK AT MOST 1048576: true; the input reads as it did. -/
def handTellsUptoRow : OpenClaim := { program := "ytfnohnjnncjidaagreatdoor", sum := "8ef489e52b5d8850fcaf7c305b7efd0c1f787ae739186a9a11cab72f1f6f9531", func := "postil/postillaw05.HandTells", spec := "handTells", inPlace := ["internal/abi.NoEscape", "internal/bytealg.MakeNoZero"], unfollowed := true, recurses := true, named := ["postil/hand.steps", "postil/slip.sides"], plainKeys := false, apart := false, laid := [("postil/slip.sides", laid_postil_slip_sides), ("postil/hand.steps", laid_postil_hand_steps)], narrowed := true }
def HandTellsUptoSaid : Prop := handTellsUptoRow.holds Tryz.pinned (OpenSpec.upto handTellsSpec)

/-- 'postillaw05.HandTrue', WHERE WHAT IT READS IS OF BULK AT MOST 1048576: true; the input reads as it did. -/
def handTrueUptoRow : OpenClaim := { program := "ytfnohnjnncjidaagreatdoor", sum := "8ef489e52b5d8850fcaf7c305b7efd0c1f787ae739186a9a11cab72f1f6f9531", func := "postil/postillaw05.HandTrue", spec := "handTrue", inPlace := ["internal/abi.NoEscape", "internal/bytealg.MakeNoZero"], unfollowed := true, recurses := true, named := ["postil/hand.steps", "postil/slip.sides"], plainKeys := false, apart := false, laid := [("postil/slip.sides", laid_postil_slip_sides), ("postil/hand.steps", laid_postil_hand_steps)], narrowed := true }
def HandTrueUptoSaid : Prop := handTrueUptoRow.holds Tryz.pinned (OpenSpec.upto handTrueSpec)

/-- 'postillaw05.HandProof', WHERE WHAT IT READS IS OF BULK AT MOST 1048576: true; the input reads as it did. -/
def handProofUptoRow : OpenClaim := { program := "ytfnohnjnncjidaagreatdoor", sum := "8ef489e52b5d8850fcaf7c305b7efd0c1f787ae739186a9a11cab72f1f6f9531", func := "postil/postillaw05.HandProof", spec := "handProof", inPlace := ["internal/abi.NoEscape", "internal/bytealg.MakeNoZero"], unfollowed := true, recurses := true, named := ["postil/hand.steps", "postil/slip.sides"], plainKeys := false, apart := false, laid := [("postil/slip.sides", laid_postil_slip_sides), ("postil/hand.steps", laid_postil_hand_steps)], narrowed := true }
def HandProofUptoSaid : Prop := handProofUptoRow.holds Tryz.pinned (OpenSpec.upto handProofSpec)

/-- 'postillaw05.HandExplain', WHERE WHAT IT READS IS OF BULK AT MOST 1048576: true; the input reads as it did. -/
def handExplainUptoRow : OpenClaim := { program := "ytfnohnjnncjidaagreatdoor", sum := "8ef489e52b5d8850fcaf7c305b7efd0c1f787ae739186a9a11cab72f1f6f9531", func := "postil/postillaw05.HandExplain", spec := "handExplain", inPlace := ["internal/abi.NoEscape", "internal/bytealg.MakeNoZero"], unfollowed := true, recurses := true, named := ["postil/hand.steps", "postil/slip.sides"], plainKeys := false, apart := false, laid := [("postil/slip.sides", laid_postil_slip_sides), ("postil/hand.steps", laid_postil_hand_steps)], narrowed := true }
def HandExplainUptoSaid : Prop := handExplainUptoRow.holds Tryz.pinned (OpenSpec.upto handExplainSpec)

/-- 'postillaw05.HandLeast', WHERE WHAT IT READS IS OF BULK AT MOST 1048576: true; the input reads as it did. -/
def handLeastUptoRow : OpenClaim := { program := "ytfnohnjnncjidaagreatdoor", sum := "8ef489e52b5d8850fcaf7c305b7efd0c1f787ae739186a9a11cab72f1f6f9531", func := "postil/postillaw05.HandLeast", spec := "handLeast", inPlace := ["internal/abi.NoEscape", "internal/bytealg.MakeNoZero"], unfollowed := true, recurses := true, named := ["postil/hand.steps", "postil/slip.sides"], plainKeys := false, apart := false, laid := [("postil/slip.sides", laid_postil_slip_sides), ("postil/hand.steps", laid_postil_hand_steps)], narrowed := true }
def HandLeastUptoSaid : Prop := handLeastUptoRow.holds Tryz.pinned (OpenSpec.upto handLeastSpec)

/-- 'postillaw05.HandMore', WHERE WHAT IT READS IS OF BULK AT MOST 1048576: true; the input reads as it did. -/
def handMoreUptoRow : OpenClaim := { program := "ytfnohnjnncjidaagreatdoor", sum := "8ef489e52b5d8850fcaf7c305b7efd0c1f787ae739186a9a11cab72f1f6f9531", func := "postil/postillaw05.HandMore", spec := "handMore", inPlace := ["internal/abi.NoEscape", "internal/bytealg.MakeNoZero"], unfollowed := true, recurses := true, named := ["postil/hand.steps", "postil/slip.sides"], plainKeys := false, apart := false, laid := [("postil/slip.sides", laid_postil_slip_sides), ("postil/hand.steps", laid_postil_hand_steps)], narrowed := true }
def HandMoreUptoSaid : Prop := handMoreUptoRow.holds Tryz.pinned (OpenSpec.upto handMoreSpec)

/-- 'postillaw05.HandPost', WHERE WHAT IT READS IS OF BULK AT MOST 1048576: true; the input reads as it did. -/
def handPostUptoRow : OpenClaim := { program := "ytfnohnjnncjidaagreatdoor", sum := "8ef489e52b5d8850fcaf7c305b7efd0c1f787ae739186a9a11cab72f1f6f9531", func := "postil/postillaw05.HandPost", spec := "handPost", inPlace := ["internal/abi.NoEscape", "internal/bytealg.MakeNoZero"], unfollowed := true, recurses := true, named := ["postil/hand.steps", "postil/slip.sides"], plainKeys := false, apart := false, laid := [("postil/slip.sides", laid_postil_slip_sides), ("postil/hand.steps", laid_postil_hand_steps)], narrowed := true }
def HandPostUptoSaid : Prop := handPostUptoRow.holds Tryz.pinned (OpenSpec.upto handPostSpec)

/-- 'postillaw05.HandAssign', WHERE WHAT IT READS IS OF BULK AT MOST 1048576: true; the input reads as it did. -/
def handAssignUptoRow : OpenClaim := { program := "ytfnohnjnncjidaagreatdoor", sum := "8ef489e52b5d8850fcaf7c305b7efd0c1f787ae739186a9a11cab72f1f6f9531", func := "postil/postillaw05.HandAssign", spec := "handAssign", inPlace := ["internal/abi.NoEscape", "internal/bytealg.MakeNoZero"], unfollowed := true, recurses := true, named := ["postil/hand.steps", "postil/slip.sides"], plainKeys := false, apart := false, laid := [("postil/slip.sides", laid_postil_slip_sides), ("postil/hand.steps", laid_postil_hand_steps)], narrowed := true }
def HandAssignUptoSaid : Prop := handAssignUptoRow.holds Tryz.pinned (OpenSpec.upto handAssignSpec)

/-- 'postillaw05.HandText', WHERE WHAT IT READS IS OF BULK AT MOST 1048576: true; the input reads as it did. -/
def handTextUptoRow : OpenClaim := { program := "ytfnohnjnncjidaagreatdoor", sum := "8ef489e52b5d8850fcaf7c305b7efd0c1f787ae739186a9a11cab72f1f6f9531", func := "postil/postillaw05.HandText", spec := "handText", inPlace := ["internal/abi.NoEscape", "internal/bytealg.MakeNoZero"], unfollowed := true, recurses := true, named := ["postil/hand.steps", "postil/slip.sides"], plainKeys := false, apart := false, laid := [("postil/slip.sides", laid_postil_slip_sides), ("postil/hand.steps", laid_postil_hand_steps)], narrowed := true }
def HandTextUptoSaid : Prop := handTextUptoRow.holds Tryz.pinned (OpenSpec.upto handTextSpec)

/-- 'postillaw05.HandDoubt', WHERE WHAT IT READS IS OF BULK AT MOST 1048576: true; the input reads as it did. -/
def handDoubtUptoRow : OpenClaim := { program := "ytfnohnjnncjidaagreatdoor", sum := "8ef489e52b5d8850fcaf7c305b7efd0c1f787ae739186a9a11cab72f1f6f9531", func := "postil/postillaw05.HandDoubt", spec := "handDoubt", inPlace := ["internal/abi.NoEscape", "internal/bytealg.MakeNoZero"], unfollowed := true, recurses := true, named := ["postil/hand.steps", "postil/slip.sides"], plainKeys := false, apart := false, laid := [("postil/slip.sides", laid_postil_slip_sides), ("postil/hand.steps", laid_postil_hand_steps)], narrowed := true }
def HandDoubtUptoSaid : Prop := handDoubtUptoRow.holds Tryz.pinned (OpenSpec.upto handDoubtSpec)

/-- 'postillaw05.HandLines', WHERE WHAT IT READS IS OF BULK AT MOST 1048576: true; the input reads as it did. -/
def handLinesUptoRow : OpenClaim := { program := "ytfnohnjnncjidaagreatdoor", sum := "8ef489e52b5d8850fcaf7c305b7efd0c1f787ae739186a9a11cab72f1f6f9531", func := "postil/postillaw05.HandLines", spec := "handLines", inPlace := ["internal/abi.NoEscape", "internal/bytealg.MakeNoZero"], unfollowed := true, recurses := true, named := ["postil/hand.steps", "postil/slip.sides"], plainKeys := false, apart := false, laid := [("postil/slip.sides", laid_postil_slip_sides), ("postil/hand.steps", laid_postil_hand_steps)], narrowed := true }
def HandLinesUptoSaid : Prop := handLinesUptoRow.holds Tryz.pinned (OpenSpec.upto handLinesSpec)

end Rows
end Go.Proofs.YtfnohnjnncjidaaGreatDoor
