import Derived.Test.YtagfopbijboajaaGreatDoorRows
import Derived.Test.YtagfopbijboajaaGreatDoorQY10
import Derived.Test.YtagfopbijboajaaGreatDoorQY11
namespace Go.Proofs.YtagfopbijboajaaGreatDoor
open Go Pm
set_option linter.unusedSimpArgs false
set_option linter.unusedVariables false
theorem rd_string : Rd Tryz.prog 9 strE (fun s => s.size ≤ 140737488355328) := Rd.string Tryz.underlying9
theorem rd_bool : Rd Tryz.prog 4 (fun b : Bool => [bl b]) (fun _ => True) := Rd.bool Tryz.underlying4
theorem rd_int : Rd Tryz.prog 3 (fun n : Int => [i64 n]) (fun n => (Lit.int .i64 n).wf = true) := Rd.int Tryz.underlying3
def okStrs (l : List ByteArray) : Prop := l.length ≤ 140737488355328 ∧ ∀ s ∈ l, s.size ≤ 140737488355328
theorem rd_strs : Rd Tryz.prog 44 (fun l => [strs 0 l]) okStrs := Rd.slice (sz := 1) Tryz.underlying44 (by kernel_rfl) (by decide) (by kernel_rfl) (fun _ => rfl) rd_string
def okLns (l : List (List ByteArray)) : Prop := l.length ≤ 140737488355328 ∧ ∀ r ∈ l, okStrs r
theorem rd_lns : Rd Tryz.prog 37 (fun l => [lns 0 l]) okLns := Rd.slice (sz := 1) Tryz.underlying37 (by kernel_rfl) (by decide) (by kernel_rfl) (fun _ => rfl) rd_strs
def okCh (c : Ch) : Prop := (Lit.int .i64 c.id).wf = true ∧ okLns c.lines
theorem rd_ch : Rd Tryz.prog 46 (chE 0) okCh :=
  (Rd.struct Tryz.underlying46 (by kernel_rfl) (by kernel_rfl) (.cons rd_int (.cons rd_lns .nil))).map fun ⟨a, b, _⟩ ⟨h1, h2, _⟩ => ⟨⟨a, b⟩, ⟨h1, h2⟩, rfl⟩
def okChs (l : List Ch) : Prop := l.length ≤ 140737488355328 ∧ ∀ c ∈ l, okCh c
theorem rd_chs : Rd Tryz.prog 22 (fun l => [chs 0 l]) okChs := Rd.slice (sz := 2) Tryz.underlying22 (by kernel_rfl) (by decide) (by kernel_rfl) (fun _ => rfl) rd_ch
theorem rd_text : Rd Tryz.prog 24 (fun l : List Ch => [chs 0 l]) okChs :=
  (Rd.struct Tryz.underlying24 (by kernel_rfl) (by kernel_rfl) (.cons rd_chs .nil)).map fun ⟨a, _⟩ ⟨h1, _⟩ => ⟨a, h1, rfl⟩
def okHp (h : Hp) : Prop := (Lit.int .i64 h.id).wf = true ∧ (Lit.int .i64 h.post).wf = true ∧ (Lit.int .i64 h.rate).wf = true
theorem rd_hp : Rd Tryz.prog 101 hpE okHp :=
  (Rd.struct Tryz.underlying101 (by kernel_rfl) (by kernel_rfl) (.cons rd_int (.cons rd_int (.cons rd_int .nil)))).map fun ⟨a, b, c, _⟩ ⟨h1, h2, h3, _⟩ => ⟨⟨a, b, c⟩, ⟨h1, h2, h3⟩, rfl⟩
def okSr (h : Sr) : Prop := (Lit.int .i64 h.fr).wf = true ∧ (Lit.int .i64 h.to).wf = true ∧ (Lit.int .i64 h.helper).wf = true ∧ (Lit.int .i64 h.sent).wf = true
theorem rd_sr : Rd Tryz.prog 43 srE okSr :=
  (Rd.struct Tryz.underlying43 (by kernel_rfl) (by kernel_rfl) (.cons rd_int (.cons rd_int (.cons rd_int (.cons rd_int .nil))))).map fun ⟨a, b, c, d, _⟩ ⟨h1, h2, h3, h4, _⟩ => ⟨⟨a, b, c, d⟩, ⟨h1, h2, h3, h4⟩, rfl⟩
def okSe (x : Se) : Prop := okLns x.lines
theorem rd_se : Rd Tryz.prog 40 (seE 0) okSe :=
  (Rd.struct Tryz.underlying40 (by kernel_rfl) (by kernel_rfl) (.cons rd_bool (.cons rd_lns .nil))).map fun ⟨a, b, _⟩ ⟨h1, h2, _⟩ => ⟨⟨a, b⟩, h2, rfl⟩
theorem rd_hps : Rd Tryz.prog 25 (fun l => [hps 0 l]) (fun l => l.length ≤ 140737488355328 ∧ ∀ h ∈ l, okHp h) := Rd.slice (sz := 3) Tryz.underlying25 (by kernel_rfl) (by decide) (by kernel_rfl) (fun _ => rfl) rd_hp
theorem rd_srs : Rd Tryz.prog 26 (fun l => [srs 0 l]) (fun l => l.length ≤ 140737488355328 ∧ ∀ h ∈ l, okSr h) := Rd.slice (sz := 4) Tryz.underlying26 (by kernel_rfl) (by decide) (by kernel_rfl) (fun _ => rfl) rd_sr
theorem rd_ses : Rd Tryz.prog 27 (fun l => [ses 0 l]) (fun l => l.length ≤ 140737488355328 ∧ ∀ h ∈ l, okSe h) := Rd.slice (sz := 2) Tryz.underlying27 (by kernel_rfl) (by decide) (by kernel_rfl) (fun _ => rfl) rd_se
def okRo (r : Ro) : Prop := okChs r.text
theorem rd_round : Rd Tryz.prog 29 (roC 0) okRo :=
  (Rd.struct Tryz.underlying29 (by kernel_rfl) (by kernel_rfl) (.cons rd_text (.cons rd_hps (.cons rd_srs (.cons rd_ses .nil))))).map fun ⟨a, b, c, d, _⟩ ⟨h1, _⟩ => ⟨⟨a, b, c, d⟩, h1, rfl⟩
theorem own_knob : ownKnob Tryz.prog.godebug = none := by kernel_rfl
theorem laid_out : laidOutB Tryz.prog = true := by kernel_rfl
end Go.Proofs.YtagfopbijboajaaGreatDoor
