/- What the functions compute, in plain Lean; and how its values look as symbolic values. -/
import Derived.Test.YtgienbcekgokiaaPm8
namespace Go.Proofs.Ytgienbcekgokiaa
open Go Pm
set_option linter.unusedSimpArgs false
set_option linter.unusedVariables false
def strE (s : ByteArray) : List V := [.v (.string s)]
def strs (lo : Nat) (l : List ByteArray) : V := .lst lo 1 (l.map strE)
def bl (b : Bool) : V := .v (.bool b)
def i64 (n : Int) : V := .v (.int .i64 n)
attribute [go_sem] strE strs bl i64

theorem allOnes_map {α : Type} {f : α → List V} (h : ∀ x, allOne (f x) = true) (l : List α) : allOnes (l.map f) = true := by
  induction l with
  | nil => rfl
  | cons a r ih => simp [allOnes, h, ih]
theorem allOnes_strs (l : List ByteArray) : allOnes (l.map strE) = true := allOnes_map (fun _ => rfl) l
attribute [go_sem] allOnes_strs
theorem bd_strs {lo : Nat} {l : List ByteArray} {as : List V} (h : ∀ x ∈ as, Bd x) (hm : strs lo l ∈ as) : l.length ≤ 140737488355328 := by
  cases h _ hm with
  | lst _ _ _ hl _ => simpa using hl

def byteOK (b : UInt8) : Bool := !(decide ((b.toNat : Int) < 32) || decide (126 < (b.toNat : Int)))
def rowB (s : ByteArray) : Bool := decide (1 ≤ (s.size : Int)) && decide ((s.size : Int) ≤ 160) && s.data.toList.all byteOK
def rowsB (l : List ByteArray) : Bool := l.all rowB && decide ((l.length : Int) ≤ 200)
def greatRows (l : List ByteArray) : Bool := decide (250 < (l.length : Int)) || l.any fun s => decide (200 < (s.size : Int))

theorem all_take_succ {α : Type} {p : α → Bool} {l : List α} {k : Nat} (hk : k < l.length) (h : (l.take k).all p = true) (hp : p l[k] = true) : (l.take (k + 1)).all p = true := by
  rw [List.take_add_one, List.getElem?_eq_getElem hk, List.all_append, h]
  simp [hp]
theorem take_snoc_map {α β : Type} (f : α → β) (l : List α) (k : Nat) (hk : k < l.length) : (l.take (k + 1)).map f = (l.take k).map f ++ [f l[k]] := by
  rw [List.take_add_one, List.getElem?_eq_getElem hk, List.map_append]; rfl
theorem all_false {α : Type} {p : α → Bool} {l : List α} {k : Nat} (hk : k < l.length) (hp : p l[k] = false) : l.all p = false :=
  List.all_eq_false.2 ⟨_, List.getElem_mem hk, by simp [hp]⟩
theorem take_full {α : Type} {l : List α} {k : Nat} (hk : k ≤ l.length) (h : ¬ (k : Int) < (l.length : Int)) : l.take k = l := by
  rw [List.take_of_length_le]; omega
theorem byte_at (s : ByteArray) (j : Nat) (h : j < s.size) : s.data.toList[j]'(by simpa using h) = s[j] := by simp [ByteArray.getElem_eq_getElem_data]

structure Hk where
  lo : Int
  drop : Int
  put : List ByteArray
structure Sh where
  first : List ByteArray
  chg : List Hk
def hkE (n : Nat) (h : Hk) : List V := [i64 h.lo, i64 h.drop, strs n h.put]
def hks (n : Nat) (l : List Hk) : V := .lst n 3 (l.map (hkE n))
def shE (n : Nat) (s : Sh) : V := .agg [strs n s.first, hks n s.chg]
attribute [go_sem] hkE hks shE
theorem allOnes_hks (n : Nat) (l : List Hk) : allOnes (l.map (hkE n)) = true := allOnes_map (fun _ => rfl) l
attribute [go_sem] allOnes_hks
theorem bd_sh {n : Nat} {s : Sh} {as : List V} (h : ∀ x ∈ as, Bd x) (hm : shE n s ∈ as) : s.first.length ≤ 140737488355328 ∧ s.chg.length ≤ 140737488355328 ∧ ∀ c ∈ s.chg, c.put.length ≤ 140737488355328 := by
  cases h _ hm with
  | agg _ hr =>
    have h1 := hr (strs n s.first) (by simp)
    have h2 := hr (hks n s.chg) (by simp)
    cases h1 with
    | lst _ _ _ h1 _ =>
      cases h2 with
      | lst _ _ _ h2 h3 =>
        refine ⟨by simpa using h1, by simpa using h2, fun c hc => ?_⟩
        have := h3 (hkE n c) (List.mem_map_of_mem hc) (strs n c.put) (by simp [hkE])
        cases this with
        | lst _ _ _ h4 _ => simpa using h4
instance : DecidableEq Hk := fun a b => by
  cases a; cases b; simp only [Hk.mk.injEq]; infer_instance
instance : DecidableEq Sh := fun a b => by
  cases a; cases b; simp only [Sh.mk.injEq]; infer_instance
def greatShelf (s : Sh) : Bool := greatRows s.first || decide (16 < (s.chg.length : Int)) || s.chg.any fun c => greatRows c.put
def madeB (l : List ByteArray) (h : Hk) : Bool := (decide (0 ≤ h.lo) && decide (h.lo ≤ (l.length : Int))) && (decide (0 ≤ h.drop) && decide (h.drop ≤ (l.length : Int) - h.lo))
def madeL (l : List ByteArray) (h : Hk) : List ByteArray := if madeB l h = true then l.take h.lo.toNat ++ h.put ++ l.drop (h.lo + h.drop).toNat else []
/-- how many texts two lists have in common at their beginnings -/
def cpl : List ByteArray → List ByteArray → Nat
  | a :: l, b :: m => if a = b then cpl l m + 1 else 0
  | _, _ => 0
theorem cpl_le : ∀ a b, cpl a b ≤ a.length ∧ cpl a b ≤ b.length := by
  intro a
  induction a with
  | nil => intro b; simp [cpl]
  | cons x l ih =>
    intro b
    cases b with
    | nil => simp [cpl]
    | cons y m =>
      simp only [cpl]
      split
      · have := ih m; simp; omega
      · simp
theorem cpl_eq : ∀ (a b : List ByteArray) (k : Nat), k ≤ a.length → k ≤ b.length → a.take k = b.take k → (∀ (h : k < a.length) (h' : k < b.length), a[k] ≠ b[k]) → cpl a b = k := by
  intro a
  induction a with
  | nil => intro b k h _ _ _; simp at h; subst h; simp [cpl]
  | cons x l ih =>
    intro b k h1 h2 h3 h4
    cases b with
    | nil => simp at h2; subst h2; simp [cpl]
    | cons y m =>
      cases k with
      | zero =>
        have := h4 (by simp) (by simp)
        simp at this
        simp [cpl, this]
      | succ k =>
        simp at h1 h2 h3
        obtain ⟨rfl, h3⟩ := h3
        have := ih m k h1 h2 h3 (fun h h' => by have := h4 (by simp; omega) (by simp; omega); simpa using this)
        simp [cpl, this]
theorem rev_get (a : List ByteArray) (n k : Nat) (h : k < a.length - n) : (a.drop n).reverse[k]'(by simpa using h) = a[a.length - 1 - k]'(by omega) := by
  rw [List.getElem_reverse, List.getElem_drop]
  congr 1
  simp
  omega
def hunkOf (a b : List ByteArray) : Hk :=
  let n := cpl a b
  let e := cpl (a.drop n).reverse (b.drop n).reverse
  ⟨n, (a.length : Int) - n - e, (b.take (b.length - e)).drop n⟩
end Go.Proofs.Ytgienbcekgokiaa
