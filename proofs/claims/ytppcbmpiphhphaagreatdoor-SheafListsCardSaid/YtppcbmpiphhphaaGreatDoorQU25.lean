import Derived.Test.YtppcbmpiphhphaaGreatDoorRows
import Derived.Test.YtppcbmpiphhphaaGreatDoorQU10
import Derived.Test.YtppcbmpiphhphaaGreatDoorQU23
namespace Go.Proofs.YtppcbmpiphhphaaGreatDoor
open Go Pm
set_option linter.unusedSimpArgs false
set_option linter.unusedVariables false
theorem rd_string : Rd Tryz.prog 9 strE (fun s => s.size ≤ 140737488355328) := Rd.string Tryz.underlying9
theorem rd_int : Rd Tryz.prog 3 (fun n : Int => [i64 n]) (fun n => (Lit.int .i64 n).wf = true) := Rd.int Tryz.underlying3
def okStrs (l : List ByteArray) : Prop := l.length ≤ 140737488355328 ∧ ∀ s ∈ l, s.size ≤ 140737488355328
theorem rd_strs : Rd Tryz.prog 30 (fun l => [strs 0 l]) okStrs := Rd.slice (sz := 1) Tryz.underlying30 (by kernel_rfl) (by decide) (by kernel_rfl) (fun _ => rfl) rd_string
def okLns (l : List (List ByteArray)) : Prop := l.length ≤ 140737488355328 ∧ ∀ r ∈ l, okStrs r
theorem rd_lns : Rd Tryz.prog 55 (fun l => [lns 0 l]) okLns := Rd.slice (sz := 1) Tryz.underlying55 (by kernel_rfl) (by decide) (by kernel_rfl) (fun _ => rfl) rd_strs
def okCh (c : Ch) : Prop := (Lit.int .i64 c.id).wf = true ∧ okLns c.lines
theorem rd_ch : Rd Tryz.prog 57 (chE 0) okCh :=
  (Rd.struct Tryz.underlying57 (by kernel_rfl) (by kernel_rfl) (.cons rd_int (.cons rd_lns .nil))).map fun ⟨a, b, _⟩ ⟨h1, h2, _⟩ => ⟨⟨a, b⟩, ⟨h1, h2⟩, rfl⟩
def okChs (l : List Ch) : Prop := l.length ≤ 140737488355328 ∧ ∀ c ∈ l, okCh c
theorem rd_chs : Rd Tryz.prog 22 (fun l => [chs 0 l]) okChs := Rd.slice (sz := 2) Tryz.underlying22 (by kernel_rfl) (by decide) (by kernel_rfl) (fun _ => rfl) rd_ch
theorem rd_text : Rd Tryz.prog 24 (fun l : List Ch => [chs 0 l]) okChs :=
  (Rd.struct Tryz.underlying24 (by kernel_rfl) (by kernel_rfl) (.cons rd_chs .nil)).map fun ⟨a, _⟩ ⟨h1, _⟩ => ⟨a, h1, rfl⟩
theorem own_knob : ownKnob Tryz.prog.godebug = none := by kernel_rfl
theorem laid_out : laidOutB Tryz.prog = true := by kernel_rfl
end Go.Proofs.YtppcbmpiphhphaaGreatDoor
