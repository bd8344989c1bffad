/- The arguments of the laws of sheaf, read. -/
import Derived.Test.YtgienbcekgokiaaSp
import Derived.Test.YtgienbcekgokiaaPmC
import Derived.Test.YtgienbcekgokiaaRows
namespace Go.Proofs.Ytgienbcekgokiaa
open Go Pm
set_option linter.unusedSimpArgs false
set_option linter.unusedVariables false
theorem rd_string : Rd Try.prog 9 strE (fun s => s.size ≤ 140737488355328) := Rd.string Try.underlying9
theorem rd_int : Rd Try.prog 3 (fun n : Int => [i64 n]) (fun n => (Lit.int .i64 n).wf = true) := Rd.int Try.underlying3
def okStrs (l : List ByteArray) : Prop := l.length ≤ 140737488355328 ∧ ∀ s ∈ l, s.size ≤ 140737488355328
theorem rd_strs : Rd Try.prog 22 (fun l => [strs 0 l]) okStrs := Rd.slice (sz := 1) Try.underlying22 (by kernel_rfl) (by decide) (by kernel_rfl) (fun _ => rfl) rd_string
def okHk (h : Hk) : Prop := (Lit.int .i64 h.lo).wf = true ∧ (Lit.int .i64 h.drop).wf = true ∧ okStrs h.put
theorem rd_hunk : Rd Try.prog 46 (hkE 0) okHk :=
  (Rd.struct Try.underlying46 (by kernel_rfl) (by kernel_rfl) (.cons rd_int (.cons rd_int (.cons rd_strs .nil)))).map fun ⟨a, b, c, _⟩ ⟨h1, h2, h3, _⟩ => ⟨⟨a, b, c⟩, ⟨h1, h2, h3⟩, rfl⟩
theorem rd_hunks : Rd Try.prog 23 (fun l => [hks 0 l]) (fun l => l.length ≤ 140737488355328 ∧ ∀ h ∈ l, okHk h) := Rd.slice (sz := 3) Try.underlying23 (by kernel_rfl) (by decide) (by kernel_rfl) (fun _ => rfl) rd_hunk
theorem rd_shelf : Rd Try.prog 25 (fun s : Sh => [strs 0 s.first, hks 0 s.chg]) (fun s => okStrs s.first ∧ s.chg.length ≤ 140737488355328 ∧ ∀ h ∈ s.chg, okHk h) :=
  (Rd.struct Try.underlying25 (by kernel_rfl) (by kernel_rfl) (.cons rd_strs (.cons rd_hunks .nil))).map fun ⟨a, b, _⟩ ⟨h1, h2, _⟩ => ⟨⟨a, b⟩, ⟨h1, h2⟩, rfl⟩
theorem own_knob : ownKnob Try.prog.godebug = none := by kernel_rfl
theorem laid_out : laidOutB Try.prog = true := by kernel_rfl
end Go.Proofs.Ytgienbcekgokiaa
