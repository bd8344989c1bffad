/- What the functions on rounds compute, in plain Lean; and how its values look as symbolic values. -/
import Derived.Test.YtgeldamcekjdgaaSp
import Derived.Test.YtgeldamcekjdgaaPmR
namespace Go.Proofs.Ytgeldamcekjdgaa
open Go Pm
set_option linter.unusedSimpArgs false
set_option linter.unusedVariables false
def lnE (lo : Nat) (r : List ByteArray) : List V := [strs lo r]
def lns (lo : Nat) (l : List (List ByteArray)) : V := .lst lo 1 (l.map (lnE lo))
structure Ch where
  id : Int
  lines : List (List ByteArray)
def chE (lo : Nat) (c : Ch) : List V := [i64 c.id, lns lo c.lines]
def chs (lo : Nat) (t : List Ch) : V := .lst lo 2 (t.map (chE lo))
def txE (lo : Nat) (t : List Ch) : V := .agg [chs lo t]
structure Hp where
  id : Int
  post : Int
  rate : Int
def hpE (h : Hp) : List V := [i64 h.id, i64 h.post, i64 h.rate]
structure Sr where
  fr : Int
  to : Int
  helper : Int
  sent : Int
def srE (s : Sr) : List V := [i64 s.fr, i64 s.to, i64 s.helper, i64 s.sent]
structure Se where
  back : Bool
  lines : List (List ByteArray)
def seE (lo : Nat) (s : Se) : List V := [bl s.back, lns lo s.lines]
structure Ro where
  text : List Ch
  helpers : List Hp
  shares : List Sr
  sheets : List Se
def hps (lo : Nat) (l : List Hp) : V := .lst lo 3 (l.map hpE)
def srs (lo : Nat) (l : List Sr) : V := .lst lo 4 (l.map srE)
def ses (lo : Nat) (l : List Se) : V := .lst lo 2 (l.map (seE lo))
def roC (lo : Nat) (r : Ro) : List V := [chs lo r.text, hps lo r.helpers, srs lo r.shares, ses lo r.sheets]
def roE (lo : Nat) (r : Ro) : V := .agg (roC lo r)
attribute [go_sem] lnE lns chE chs txE hpE srE seE hps srs ses roC roE
theorem allOnes_lns (n : Nat) (l : List (List ByteArray)) : allOnes (l.map (lnE n)) = true := allOnes_map (fun _ => rfl) l
theorem allOnes_chs (n : Nat) (l : List Ch) : allOnes (l.map (chE n)) = true := allOnes_map (fun _ => rfl) l
theorem allOnes_hps (l : List Hp) : allOnes (l.map hpE) = true := allOnes_map (fun _ => rfl) l
theorem allOnes_srs (l : List Sr) : allOnes (l.map srE) = true := allOnes_map (fun _ => rfl) l
theorem allOnes_ses (n : Nat) (l : List Se) : allOnes (l.map (seE n)) = true := allOnes_map (fun _ => rfl) l
attribute [go_sem] allOnes_lns allOnes_chs allOnes_hps allOnes_srs allOnes_ses
theorem bd_lns {lo : Nat} {l : List (List ByteArray)} (h : Bd (lns lo l)) : l.length ≤ 140737488355328 ∧ ∀ r ∈ l, r.length ≤ 140737488355328 := by
  cases h with
  | lst _ _ _ h1 h2 =>
    refine ⟨by simpa using h1, fun r hr => ?_⟩
    have := h2 (lnE lo r) (List.mem_map_of_mem hr) (strs lo r) (by simp [lnE])
    cases this with
    | lst _ _ _ h3 _ => simpa using h3
theorem bd_chs {lo : Nat} {t : List Ch} (h : Bd (chs lo t)) : t.length ≤ 140737488355328 ∧ ∀ c ∈ t, c.lines.length ≤ 140737488355328 ∧ ∀ r ∈ c.lines, r.length ≤ 140737488355328 := by
  cases h with
  | lst _ _ _ h1 h2 => exact ⟨by simpa using h1, fun c hc => bd_lns (h2 (chE lo c) (List.mem_map_of_mem hc) (lns lo c.lines) (by simp [chE]))⟩
theorem bd_agg {cs : List V} (h : Bd (.agg cs)) : ∀ x ∈ cs, Bd x := by
  cases h with
  | agg _ h => exact h
structure BdRo (r : Ro) : Prop where
  t : r.text.length ≤ 140737488355328 ∧ ∀ c ∈ r.text, c.lines.length ≤ 140737488355328 ∧ ∀ r ∈ c.lines, r.length ≤ 140737488355328
  h : r.helpers.length ≤ 140737488355328
  s : r.shares.length ≤ 140737488355328
  x : r.sheets.length ≤ 140737488355328 ∧ ∀ c ∈ r.sheets, c.lines.length ≤ 140737488355328 ∧ ∀ r ∈ c.lines, r.length ≤ 140737488355328
theorem bd_roC {lo : Nat} {r : Ro} (h : ∀ x ∈ roC lo r, Bd x) : BdRo r := by
  refine ⟨bd_chs (h (chs lo r.text) (by simp [roC])), ?_, ?_, ?_⟩
  · cases h (hps lo r.helpers) (by simp [roC]) with
    | lst _ _ _ h1 _ => simpa using h1
  · cases h (srs lo r.shares) (by simp [roC]) with
    | lst _ _ _ h1 _ => simpa using h1
  · cases h (ses lo r.sheets) (by simp [roC]) with
    | lst _ _ _ h1 h2 => exact ⟨by simpa using h1, fun c hc => bd_lns (h2 (seE lo c) (List.mem_map_of_mem hc) (lns lo c.lines) (by simp [seE]))⟩

/-- each element passes, what comes before it known -/
def allPre {α : Type} (f : List α → α → Bool) : List α → List α → Bool
  | _, [] => true
  | pre, x :: r => f pre x && allPre f (pre ++ [x]) r
theorem allPre_app {α : Type} (f : List α → α → Bool) : ∀ (l m pre : List α), allPre f pre (l ++ m) = (allPre f pre l && allPre f (pre ++ l) m) := by
  intro l
  induction l with
  | nil => intro m pre; simp [allPre]
  | cons x r ih => intro m pre; simp [allPre, ih, Bool.and_assoc]
theorem allPre_step {α : Type} (f : List α → α → Bool) (l : List α) (k : Nat) (hk : k < l.length) : allPre f [] (l.take (k + 1)) = (allPre f [] (l.take k) && f (l.take k) l[k]) := by
  rw [List.take_add_one, List.getElem?_eq_getElem hk, allPre_app]; simp [allPre]
theorem allPre_bad {α : Type} {f : List α → α → Bool} {l : List α} {k : Nat} (hk : k < l.length) (h : f (l.take k) l[k] = false) : allPre f [] l = false := by
  have := allPre_app f (l.take (k + 1)) (l.drop (k + 1)) []
  rw [List.take_append_drop, allPre_step f l k hk, h] at this
  simpa using this

def inB (n lo hi : Int) : Bool := decide (lo ≤ n) && decide (n ≤ hi)
def letterB (b : UInt8) : Bool := !(decide ((b.toNat : Int) < 97) || decide (122 < (b.toNat : Int)))
def wordB (s : ByteArray) : Bool := s.data.toList.all letterB && inB s.size 1 12
def lineB (l : List ByteArray) : Bool := inB l.length 1 10 && l.all wordB
def chapB (pre : List Ch) (c : Ch) : Bool := inB c.id 0 9999 && inB c.lines.length 1 10 && !(pre.any fun d => decide (d.id = c.id)) && c.lines.all lineB
def textB (t : List Ch) : Bool := inB t.length 1 6 && allPre chapB [] t
def linesL (t : List Ch) : List (List ByteArray) := t.flatMap (·.lines)
def helpB (pre : List Hp) (h : Hp) : Bool := inB h.id 0 9999 && inB h.post 0 30 && inB h.rate 1 20 && !(pre.any fun d => decide (d.id = h.id))
def sheetB (x : Se) : Bool := decide ((x.lines.length : Int) ≤ 30) && (x.back || decide ((x.lines.length : Int) = 0)) && x.lines.all lineB
/-- a part behind others: 'all' lines, 'nh' helpers -/
def shareB (all nh : Int) (pre : List Sr) (s : Sr) : Bool :=
  inB s.fr 0 s.to && decide (s.to < all) && inB s.helper 0 (nh - 1) && inB s.sent 0 400 &&
    (match pre.getLast? with
    | some q => decide (q.fr < s.fr) && decide (q.to < s.to)
    | none => true) &&
    (match pre.dropLast.getLast? with
    | some q => decide (q.to < s.fr)
    | none => true)
def roundB (r : Ro) : Bool := inB r.helpers.length 1 4 && decide ((r.shares.length : Int) ≤ 8) && decide ((r.sheets.length : Int) = r.shares.length) && allPre helpB [] r.helpers &&
  allPre (shareB (linesL r.text).length r.helpers.length) [] r.shares && r.sheets.all sheetB
def roundE (r : Ro) : Int := if textB r.text then if roundB r then 0 else 50 else 10
/-- not great -/
def OKl (l : List (List ByteArray)) : Prop := l.length ≤ 40 ∧ ∀ r ∈ l, r.length ≤ 15 ∧ ∀ s ∈ r, s.size ≤ 40
def OKt (t : List Ch) : Prop := t.length ≤ 10 ∧ ∀ c ∈ t, OKl c.lines
structure OKr (r : Ro) : Prop where
  t : OKt r.text
  h : r.helpers.length ≤ 8
  s : r.shares.length ≤ 12
  x : r.sheets.length ≤ 12 ∧ ∀ x ∈ r.sheets, OKl x.lines
end Go.Proofs.Ytgeldamcekjdgaa
