/-
  NARROWER THAN 'FOR EVERY INPUT', by the rows' own cells (each row's printed sentence says how): HandText: laid.
  DERIVED. THE GIVEN ROWS OF THIS SEAT. 1 by the template 'for every input the law returns true; each argument reads behind the call as it read before'; 0 by the template 'total and deterministic' (their statements: YtagfopbijboajaaGreatDoorTotals.lean).
  GIVEN WITH THE SEED: the statements are not yours to turn. If you find one false, say at which input.
  Laid BY PROGRAM, IN A SANDBOX (cutbox-rows.mjs): the forced cells as the released guide's own fill.sh prints them over the translation e122d1cb29164488… (all of the seat's roots in one cut). By AI agents, Wed Nov 11 2026. No macro, syntax, notation, axiom, sorry.
-/
import Derived.Test.YtagfopbijboajaaGreatDoorChecked
import GoSem.Claim
import GoSem.ClaimJoined
import GoSem.ClaimMapViews
import Derived.JoinedTies
import Derived.KernelRfl
namespace Go.Proofs.YtagfopbijboajaaGreatDoor
/- THE CELL 'sum', in the pinned program and in every row, IS THE sha256 OF THE DUMP (.gsa) THAT YtagfopbijboajaaGreatDoorProg.lean LOADS. Nothing in Lean hashes anything: it is a label: what it is worth is what the hold of that sum in a sandbox is worth. -/
noncomputable def Tryz.pinned : Pinned := { name := "ytagfopbijboajaagreatdoor", sum := "e122d1cb29164488a1f1f33d917db90f15557216dc4dad8ed9ffb9eb4e6c1962", checked := Tryz.checked }
namespace Rows
def none {H : Type} : Left H := { results := [], args := [] }

/- WHAT THE LISTED PACKAGE-LEVEL VARIABLES READ AS WHEN THE CALL BEGINS. Each datum BY PROGRAM (the guide's laid-datum.mjs) off the statement by which the dump's own 'gosem.cut.vars' lays the variable. In a bare row this is a premise. The card (YtagfopbijboajaaGreatDoorCards.lean) ties it to the program's text. -/
def laid_postil_slip_sides {H : Type} : DataW H := .iface "func table" (.agg [.agg [.nil], .agg [.iface "func" (.lit (.string [112, 111, 115, 116, 105, 108, 47, 115, 108, 105, 112, 46, 115, 105, 100, 101, 115, 36, 49]))], .agg [.iface "func" (.lit (.string [112, 111, 115, 116, 105, 108, 47, 115, 108, 105, 112, 46, 115, 105, 100, 101, 115, 36, 50]))], .agg [.iface "func" (.lit (.string [112, 111, 115, 116, 105, 108, 47, 115, 108, 105, 112, 46, 115, 105, 100, 101, 115, 36, 51]))]])
def laid_postil_hand_steps {H : Type} : DataW H := .iface "func table" (.agg [.agg [.lit (.int .u8 2), .iface "func" (.lit (.string [112, 111, 115, 116, 105, 108, 47, 104, 97, 110, 100, 46, 115, 116, 101, 112, 115, 36, 49]))], .agg [.lit (.int .u8 3), .iface "func" (.lit (.string [112, 111, 115, 116, 105, 108, 47, 104, 97, 110, 100, 46, 115, 116, 101, 112, 115, 36, 50]))], .agg [.lit (.int .u8 1), .iface "func" (.lit (.string [112, 111, 115, 116, 105, 108, 47, 104, 97, 110, 100, 46, 115, 116, 101, 112, 115, 36, 51]))]])

/-- 'postillaw05.HandText': WHATEVER THE INPUT: true; the input reads as it did. -/
def handTextSpec : ChangeSpec := { name := "handText", fn := fun _ => fun
  | [d] => { results := [.lit (.bool true)], args := [d] }
  | _ => none }
def handTextRow : OpenClaim := { program := "ytagfopbijboajaagreatdoor", sum := "e122d1cb29164488a1f1f33d917db90f15557216dc4dad8ed9ffb9eb4e6c1962", func := "postil/postillaw05.HandText", spec := "handText", inPlace := ["internal/abi.NoEscape", "internal/bytealg.MakeNoZero"], unfollowed := true, recurses := true, named := ["postil/hand.steps", "postil/slip.sides"], plainKeys := false, apart := false, laid := [("postil/slip.sides", laid_postil_slip_sides), ("postil/hand.steps", laid_postil_hand_steps)] }
def HandTextSaid : Prop := handTextRow.holds Tryz.pinned (OpenSpec.ofChange handTextSpec)

/-- ITS FALSE NEIGHBOUR: 'it returns false'. Refute it at one input. -/
def handTextWrong : ChangeSpec := { name := "handText", fn := fun _ => fun
  | [d] => { results := [.lit (.bool false)], args := [d] }
  | _ => none }
def HandTextWrongFalsely : Prop := handTextRow.holds Tryz.pinned (OpenSpec.ofChange handTextWrong)

/- THE SECOND FORM. 'bulk': how many values and letters a reading holds, each counted each time it is reached (what is shared counts as often as it is met; a slice's spare places count too). A statement '..UptoSaid' is the law's where the arguments, and the package variables that the reading takes, are together of bulk at most 1048576: NARROWER than '..Said'. Prove '..Said' where nothing that the law and all that it calls make is longer than what came in: it says more and counts as full. Else prove '..UptoSaid'. A law counts once. -/
mutual
def uptoBulk {H : Type} : DataW H → Nat
  | .lit (.string bytes) => bytes.length + 1
  | .lit _ => 1
  | .nil => 1
  | .ptr d => uptoBulk d + 1
  | .slice elems spare => uptoBulkAll elems + uptoBulkAll spare + 1
  | .agg parts => uptoBulkAll parts + 1
  | .iface _ d => uptoBulk d + 1
  | .map entries => uptoBulkEntries entries + 1
  | .held _ => 1
def uptoBulkAll {H : Type} : List (DataW H) → Nat
  | [] => 0
  | d :: r => uptoBulk d + uptoBulkAll r
def uptoBulkEntries {H : Type} : List (Lit × DataW H) → Nat
  | [] => 0
  | x :: r => uptoBulkEntry x + uptoBulkEntries r
def uptoBulkEntry {H : Type} : Lit × DataW H → Nat
  | (.string bytes, d) => bytes.length + uptoBulk d + 1
  | (_, d) => uptoBulk d + 1
 end
def uptoSmall : (H : Type) → List (DataW H) → Bool := fun _ ds => decide (uptoBulkAll ds ≤ 1048576)
def OpenSpec.upto (s : _root_.Go.ChangeSpec) : _root_.Go.OpenSpec := { _root_.Go.OpenSpec.ofChange s with cond := some uptoSmall }

/-- 'postillaw05.HandText', WHERE WHAT IT READS IS OF BULK AT MOST 1048576: true; the input reads as it did. -/
def handTextUptoRow : OpenClaim := { program := "ytagfopbijboajaagreatdoor", sum := "e122d1cb29164488a1f1f33d917db90f15557216dc4dad8ed9ffb9eb4e6c1962", func := "postil/postillaw05.HandText", spec := "handText", inPlace := ["internal/abi.NoEscape", "internal/bytealg.MakeNoZero"], unfollowed := true, recurses := true, named := ["postil/hand.steps", "postil/slip.sides"], plainKeys := false, apart := false, laid := [("postil/slip.sides", laid_postil_slip_sides), ("postil/hand.steps", laid_postil_hand_steps)], narrowed := true }
def HandTextUptoSaid : Prop := handTextUptoRow.holds Tryz.pinned (OpenSpec.upto handTextSpec)

end Rows
end Go.Proofs.YtagfopbijboajaaGreatDoor
