/- The law HandFinds is proved: for every round, the call returns true, and each argument reads behind it as it read before. No condition. -/
/- The arguments of the laws of hand, read. -/
import Derived.Test.YtgeldamcekjdgaaHSp
import Derived.Test.YtgeldamcekjdgaaPmC
import Derived.Test.YtgeldamcekjdgaaRows
import Derived.Test.YtgeldamcekjdgaaHFL
namespace Go.Proofs.Ytgeldamcekjdgaa
open Go Pm
set_option linter.unusedSimpArgs false
set_option linter.unusedVariables false
theorem rd_string : Rd Try.prog 9 strE (fun s => s.size ≤ 140737488355328) := Rd.string Try.underlying9
theorem rd_bool : Rd Try.prog 4 (fun b : Bool => [bl b]) (fun _ => True) := Rd.bool Try.underlying4
theorem rd_int : Rd Try.prog 3 (fun n : Int => [i64 n]) (fun n => (Lit.int .i64 n).wf = true) := Rd.int Try.underlying3
def okStrs (l : List ByteArray) : Prop := l.length ≤ 140737488355328 ∧ ∀ s ∈ l, s.size ≤ 140737488355328
theorem rd_strs : Rd Try.prog 32 (fun l => [strs 0 l]) okStrs := Rd.slice (sz := 1) Try.underlying32 (by kernel_rfl) (by decide) (by kernel_rfl) (fun _ => rfl) rd_string
def okLns (l : List (List ByteArray)) : Prop := l.length ≤ 140737488355328 ∧ ∀ r ∈ l, okStrs r
theorem rd_lns : Rd Try.prog 64 (fun l => [lns 0 l]) okLns := Rd.slice (sz := 1) Try.underlying64 (by kernel_rfl) (by decide) (by kernel_rfl) (fun _ => rfl) rd_strs
def okCh (c : Ch) : Prop := (Lit.int .i64 c.id).wf = true ∧ okLns c.lines
theorem rd_ch : Rd Try.prog 98 (chE 0) okCh :=
  (Rd.struct Try.underlying98 (by kernel_rfl) (by kernel_rfl) (.cons rd_int (.cons rd_lns .nil))).map fun ⟨a, b, _⟩ ⟨h1, h2, _⟩ => ⟨⟨a, b⟩, ⟨h1, h2⟩, rfl⟩
def okChs (l : List Ch) : Prop := l.length ≤ 140737488355328 ∧ ∀ c ∈ l, okCh c
theorem rd_chs : Rd Try.prog 22 (fun l => [chs 0 l]) okChs := Rd.slice (sz := 2) Try.underlying22 (by kernel_rfl) (by decide) (by kernel_rfl) (fun _ => rfl) rd_ch
theorem rd_text : Rd Try.prog 24 (fun l : List Ch => [chs 0 l]) okChs :=
  (Rd.struct Try.underlying24 (by kernel_rfl) (by kernel_rfl) (.cons rd_chs .nil)).map fun ⟨a, _⟩ ⟨h1, _⟩ => ⟨a, h1, rfl⟩
def okHp (h : Hp) : Prop := (Lit.int .i64 h.id).wf = true ∧ (Lit.int .i64 h.post).wf = true ∧ (Lit.int .i64 h.rate).wf = true
theorem rd_hp : Rd Try.prog 86 hpE okHp :=
  (Rd.struct Try.underlying86 (by kernel_rfl) (by kernel_rfl) (.cons rd_int (.cons rd_int (.cons rd_int .nil)))).map fun ⟨a, b, c, _⟩ ⟨h1, h2, h3, _⟩ => ⟨⟨a, b, c⟩, ⟨h1, h2, h3⟩, rfl⟩
def okSr (h : Sr) : Prop := (Lit.int .i64 h.fr).wf = true ∧ (Lit.int .i64 h.to).wf = true ∧ (Lit.int .i64 h.helper).wf = true ∧ (Lit.int .i64 h.sent).wf = true
theorem rd_sr : Rd Try.prog 83 srE okSr :=
  (Rd.struct Try.underlying83 (by kernel_rfl) (by kernel_rfl) (.cons rd_int (.cons rd_int (.cons rd_int (.cons rd_int .nil))))).map fun ⟨a, b, c, d, _⟩ ⟨h1, h2, h3, h4, _⟩ => ⟨⟨a, b, c, d⟩, ⟨h1, h2, h3, h4⟩, rfl⟩
def okSe (x : Se) : Prop := okLns x.lines
theorem rd_se : Rd Try.prog 66 (seE 0) okSe :=
  (Rd.struct Try.underlying66 (by kernel_rfl) (by kernel_rfl) (.cons rd_bool (.cons rd_lns .nil))).map fun ⟨a, b, _⟩ ⟨h1, h2, _⟩ => ⟨⟨a, b⟩, h2, rfl⟩
theorem rd_hps : Rd Try.prog 25 (fun l => [hps 0 l]) (fun l => l.length ≤ 140737488355328 ∧ ∀ h ∈ l, okHp h) := Rd.slice (sz := 3) Try.underlying25 (by kernel_rfl) (by decide) (by kernel_rfl) (fun _ => rfl) rd_hp
theorem rd_srs : Rd Try.prog 26 (fun l => [srs 0 l]) (fun l => l.length ≤ 140737488355328 ∧ ∀ h ∈ l, okSr h) := Rd.slice (sz := 4) Try.underlying26 (by kernel_rfl) (by decide) (by kernel_rfl) (fun _ => rfl) rd_sr
theorem rd_ses : Rd Try.prog 27 (fun l => [ses 0 l]) (fun l => l.length ≤ 140737488355328 ∧ ∀ h ∈ l, okSe h) := Rd.slice (sz := 2) Try.underlying27 (by kernel_rfl) (by decide) (by kernel_rfl) (fun _ => rfl) rd_se
def okRo (r : Ro) : Prop := okChs r.text
theorem rd_round : Rd Try.prog 29 (roC 0) okRo :=
  (Rd.struct Try.underlying29 (by kernel_rfl) (by kernel_rfl) (.cons rd_text (.cons rd_hps (.cons rd_srs (.cons rd_ses .nil))))).map fun ⟨a, b, c, d, _⟩ ⟨h1, _⟩ => ⟨⟨a, b, c, d⟩, h1, rfl⟩
theorem own_knob : ownKnob Try.prog.godebug = none := by kernel_rfl
theorem laid_out : laidOutB Try.prog = true := by kernel_rfl
set_option linter.unusedSimpArgs false
set_option linter.unusedVariables false
theorem HandFinds_holds : Rows.HandFindsSaid :=
  OpenClaim.holds_of_wide 4 Try.f4 rfl rfl rfl rfl rfl rfl rfl ⟨rfl, rfl, rfl, rfl, rfl⟩ rfl rfl rfl rfl rfl (by kernel_rfl) Try.func4 (by kernel_rfl)
    (of_decide_eq_true (by kernel_rfl)) (by unfold Func.isWrapper; first | (rw [if_pos (by decide +kernel)]; kernel_rfl) | (rw [if_neg (by decide +kernel)]; exact ⟨rfl, rfl⟩))
    (fun os started H enc _ => law_lifted (C := Try.checked) (ts := [29]) (tb := 4) (s := Rows.handFindsSpec) Try.func4 (by kernel_rfl) (by kernel_rfl) Try.underlying4 rfl own_knob (by kernel_rfl) laid_out (by decide +kernel)
      (fun H ds h => by
        match ds, h with
        | [d1], _ => exact ⟨rfl, rfl, rfl⟩)
      (.cons (.struct Try.underlying29 rd_round) .nil)
      (fun ⟨r, _⟩ _ => HandFinds_ok r) os started H enc
      (ChangeSpec.witness6 (enc := enc) (C := Try.checked) false ⟨#[], #[.agg #[.slice none 0 0, .slice none 0 0, .slice none 0 0, .slice none 0 0]], []⟩ 8 (by kernel_rfl) (by kernel_rfl) (by kernel_rfl) (by kernel_rfl)))
#print axioms HandFinds_holds
end Go.Proofs.Ytgeldamcekjdgaa
