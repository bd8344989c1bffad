/- What functions on shelves compute, in plain Lean. -/
import Derived.Test.YtgienbcekgokiaaSp
namespace Go.Proofs.Ytgienbcekgokiaa
open Go Pm
set_option linter.unusedSimpArgs false
set_option linter.unusedVariables false
def rowV (n : Nat) (r : List ByteArray) : List V := [strs n r]
def gens (n : Nat) (l : List (List ByteArray)) : V := .lst n 1 (l.map (rowV n))
attribute [go_sem] rowV gens
theorem allOnes_rowV (n : Nat) (l : List (List ByteArray)) : allOnes (l.map (rowV n)) = true := allOnes_map (fun _ => rfl) l
attribute [go_sem] allOnes_rowV
/-- all generations from some rows on -/
def genL : List ByteArray → List Hk → List (List ByteArray)
  | cur, [] => [cur]
  | cur, c :: r => cur :: genL (madeL cur c) r
def genB : List ByteArray → List Hk → Bool
  | _, [] => true
  | cur, c :: r => (madeB cur c && rowsB (madeL cur c)) && genB (madeL cur c) r
theorem genL_snoc : ∀ (l : List Hk) (cur : List ByteArray) (c : Hk), genL cur (l ++ [c]) = genL cur l ++ [madeL (l.foldl madeL cur) c] := by
  intro l
  induction l with
  | nil => intro cur c; rfl
  | cons x r ih => intro cur c; simp [genL, ih]
theorem genB_app : ∀ (l m : List Hk) (cur : List ByteArray), genB cur (l ++ m) = (genB cur l && genB (l.foldl madeL cur) m) := by
  intro l
  induction l with
  | nil => intro m cur; simp [genB]
  | cons x r ih => intro m cur; simp [genB, ih, Bool.and_assoc]
theorem genL_len : ∀ (l : List Hk) (cur : List ByteArray), (genL cur l).length = l.length + 1 := by
  intro l
  induction l with
  | nil => intro cur; rfl
  | cons x r ih => intro cur; simp [genL, ih]
theorem genL_last : ∀ (l : List Hk) (cur : List ByteArray) (k : Nat) (h : k < (genL cur l).length), k = l.length → (genL cur l)[k] = l.foldl madeL cur := by
  intro l
  induction l with
  | nil => intro cur k h e; subst e; rfl
  | cons x r ih => intro cur k h e; subst e; simp [genL]; exact ih _ _ _ rfl
theorem genB_rows : ∀ (l : List Hk) (cur : List ByteArray), rowsB cur = true → genB cur l = true → ∀ r ∈ genL cur l, rowsB r = true := by
  intro l
  induction l with
  | nil => intro cur h _ r hr; simp [genL] at hr; subst hr; exact h
  | cons x t ih =>
    intro cur h hb r hr
    simp only [genB, Bool.and_eq_true] at hb
    simp only [genL, List.mem_cons] at hr
    rcases hr with rfl | hr
    · exact h
    · exact ih _ hb.1.2 hb.2 r hr
theorem rowsB_len {l : List ByteArray} (h : rowsB l = true) : l.length ≤ 200 := by
  simp only [rowsB, Bool.and_eq_true, decide_eq_true_eq] at h; omega
def gb (s : Sh) : Bool := (decide (s.chg.length ≤ 11) && rowsB s.first) && genB s.first s.chg
def gl (s : Sh) : List (List ByteArray) := if gb s = true then genL s.first s.chg else []
def noSh : Sh := ⟨[], []⟩
def lastG (s : Sh) : List ByteArray := s.chg.foldl madeL s.first
def saveE (s : Sh) (l : List ByteArray) : Int := if gb s = false then 112 else if rowsB l = false then 110 else if s.chg.length = 11 then 9 else 0
def saveS (s : Sh) (l : List ByteArray) : Sh := if saveE s l = 0 then ⟨s.first, s.chg ++ [hunkOf (lastG s) l]⟩ else noSh
def backE (s : Sh) (n : Int) : Int := if gb s = false then 112 else if 0 ≤ n ∧ n ≤ s.chg.length then 0 else 2
def backL (s : Sh) (n : Int) : List ByteArray := if backE s n = 0 then (gl s).getD n.toNat [] else []
def pruneS (s : Sh) (n : Int) : Sh := if backE s n = 0 then ⟨backL s n, s.chg.drop n.toNat⟩ else noSh
theorem gl_len {s : Sh} (h : gb s = true) : (gl s).length = s.chg.length + 1 := by simp [gl, h, genL_len]
theorem gl_last {s : Sh} (h : gb s = true) (k : Nat) (hk : k < (gl s).length) (e : k = s.chg.length) : (gl s)[k] = lastG s := by
  have : gl s = genL s.first s.chg := by simp [gl, h]
  simp only [this]
  exact genL_last _ _ _ _ e
theorem gb_len {s : Sh} (h : gb s = true) : s.chg.length ≤ 11 := by simp only [gb, Bool.and_eq_true, decide_eq_true_eq] at h; exact h.1.1
theorem gb_rows {s : Sh} (h : gb s = true) : ∀ r ∈ gl s, rowsB r = true := by
  have e : gl s = genL s.first s.chg := by simp [gl, h]
  simp only [gb, Bool.and_eq_true] at h
  rw [e]
  exact genB_rows _ _ h.1.2 h.2
theorem sub_noSh (n : Nat) (e : Int) (s : Sh) (hs : s = noSh) : Pm.Sub (.tup [.agg [.v (.slice none 0 0), .v (.slice none 0 0)], .v (.int .i64 e)]) (.tup [.agg [.lst n 1 (s.first.map strE), .lst n 3 (s.chg.map (hkE n))], .v (.int .i64 e)]) := by
  subst hs
  exact Subs.tup (.cons (Subs.agg (.cons (.nil _ _) (.cons (.nil _ _) .nil))) (.cons (.refl _) .nil))
theorem flat_succ {α : Type} (ls : List (List α)) (k : Nat) (h : k < ls.length) : (ls.take (k + 1)).flatten = (ls.take k).flatten ++ ls[k] := by
  rw [List.take_add_one, List.getElem?_eq_getElem h, List.flatten_append]; simp
theorem flat_succ_len {α : Type} (ls : List (List α)) (k : Nat) (h : k < ls.length) : (ls.take (k + 1)).flatten.length = (ls.take k).flatten.length + ls[k].length := by
  rw [flat_succ ls k h, List.length_append]
theorem flat_le {α : Type} (ls : List (List α)) (n : Nat) (hl : ∀ l ∈ ls, l.length ≤ n) : ∀ k, k ≤ ls.length → (ls.take k).flatten.length ≤ k * n := fun k => by
  induction k with
  | zero => simp
  | succ k ih =>
    intro hk
    rw [flat_succ_len ls k (by omega), Nat.succ_mul]
    have := ih (by omega); have := hl _ (List.getElem_mem (show k < ls.length by omega)); omega
end Go.Proofs.Ytgienbcekgokiaa
