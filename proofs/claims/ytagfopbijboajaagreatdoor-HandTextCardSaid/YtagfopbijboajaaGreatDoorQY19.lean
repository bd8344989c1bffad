import Derived.Test.YtagfopbijboajaaGreatDoorQY10
namespace Go.Proofs.YtagfopbijboajaaGreatDoor
open Go Pm
set_option linter.unusedSimpArgs false
set_option linter.unusedVariables false
abbrev Ln := List ByteArray
def fewRow (f : Ln → Int) (n : Int) (x : ByteArray) : Ln → Int
  | [] => n
  | y :: b => if x = y then f b else min (min (f b) (f (y :: b))) (fewRow f n x b) + 1
def few : Ln → Ln → Int
  | [] => fun b => b.length
  | x :: a => fewRow (few a) (a.length + 1) x
theorem few_nil (b : Ln) : few [] b = b.length := rfl
theorem few_cons_nil (x : ByteArray) (a : Ln) : few (x :: a) [] = a.length + 1 := rfl
theorem few_cons (x y : ByteArray) (a b : Ln) : few (x :: a) (y :: b) = if x = y then few a b else min (min (few a b) (few a (y :: b))) (few (x :: a) b) + 1 := rfl
theorem few_nil' (a : Ln) : few a [] = a.length := by
  cases a with
  | nil => rfl
  | cons x a => rw [few_cons_nil]; simp
theorem few_bd : ∀ a b : Ln, 0 ≤ few a b ∧ few a b ≤ a.length + b.length := by
  intro a
  induction a with
  | nil => intro b; rw [few_nil]; simp
  | cons x a iha =>
    intro b
    induction b with
    | nil => rw [few_cons_nil]; simp; omega
    | cons y b ihb =>
      rw [few_cons]
      have h1 := iha b
      have h2 := iha (y :: b)
      simp only [List.length_cons, Int.natCast_add, Int.cast_ofNat_Int] at *
      split <;> omega
theorem few_self (a : Ln) : few a a = 0 := by
  induction a with
  | nil => rfl
  | cons x a ih => rw [few_cons, if_pos rfl]; exact ih
def fewAt (a b : Ln) (i k : Nat) : Int := few (a.drop i) (b.drop k)
theorem fewAt_bd (a b : Ln) (i k : Nat) : 0 ≤ fewAt a b i k ∧ fewAt a b i k ≤ a.length + b.length := by
  have := few_bd (a.drop i) (b.drop k)
  simp only [List.length_drop] at this
  unfold fewAt
  omega
theorem fewAt_end (a b : Ln) : fewAt a b a.length b.length = 0 := by simp [fewAt, few_nil]
theorem fewAt_eq (a b : Ln) (i k : Nat) (hi : i < a.length) (hk : k < b.length) (h : a[i] = b[k]) : fewAt a b i k = fewAt a b (i + 1) (k + 1) := by
  unfold fewAt
  rw [List.drop_eq_getElem_cons hi, List.drop_eq_getElem_cons hk, few_cons, if_pos h]
theorem fewAt_ne (a b : Ln) (i k : Nat) (hi : i < a.length) (hk : k < b.length) (h : a[i] ≠ b[k]) : fewAt a b i k = min (min (fewAt a b (i + 1) (k + 1)) (fewAt a b (i + 1) k)) (fewAt a b i (k + 1)) + 1 := by
  unfold fewAt
  rw [List.drop_eq_getElem_cons hi, List.drop_eq_getElem_cons hk, few_cons, if_neg h]
theorem fewAt_a (a b : Ln) (i k : Nat) (hi : i < a.length) (hk : k = b.length) : fewAt a b i k = fewAt a b (i + 1) k + 1 := by
  subst hk
  unfold fewAt
  rw [List.drop_length, few_nil', few_nil', List.length_drop, List.length_drop]; omega
theorem fewAt_b (a b : Ln) (i k : Nat) (hi : i = a.length) (hk : k < b.length) : fewAt a b i k = fewAt a b i (k + 1) + 1 := by
  subst hi
  unfold fewAt
  rw [List.drop_length, few_nil, few_nil, List.length_drop, List.length_drop]; omega
def sel (c : Prop) [Decidable c] (v : Int) (x : Int × Nat) (id : Nat) : Int × Nat := if c ∧ v < x.1 then (v, id) else x
def way1 (a b : Ln) (i k : Nat) : Int × Nat := sel (i + 1 ≤ a.length ∧ k + 1 ≤ b.length) (fewAt a b (i + 1) (k + 1)) (a.length + b.length + 1, 0) 1
def way2 (a b : Ln) (i k : Nat) : Int × Nat := sel (i + 1 ≤ a.length) (fewAt a b (i + 1) k) (way1 a b i k) 2
def way4 (a b : Ln) (i k : Nat) : Int × Nat := sel (k + 1 ≤ b.length) (fewAt a b i (k + 1)) (way2 a b i k) 3
def way3 (a b : Ln) (i k : Nat) : Nat → Int × Nat
  | 0 => (a.length + b.length + 1, 0)
  | 1 => way1 a b i k
  | 2 => way2 a b i k
  | _ => way4 a b i k
def wayI : Nat → Nat × Nat
  | 0 => (0, 0)
  | 1 => (1, 1)
  | 2 => (1, 0)
  | _ => (0, 1)
theorem way3_few (a b : Ln) (i k : Nat) (hi : i ≤ a.length) (hk : k ≤ b.length) (hne : i < a.length ∨ k < b.length) (hd : ∀ (h1 : i < a.length) (h2 : k < b.length), a[i] ≠ b[k]) : (way3 a b i k 3).1 + 1 = fewAt a b i k ∧
    (way3 a b i k 3).2 ≤ 3 ∧ 0 < (way3 a b i k 3).2 ∧ i + (wayI (way3 a b i k 3).2).1 ≤ a.length ∧ k + (wayI (way3 a b i k 3).2).2 ≤ b.length ∧ fewAt a b (i + (wayI (way3 a b i k 3).2).1) (k + (wayI (way3 a b i k 3).2).2) = (way3 a b i k 3).1 := by
  have b1 := fewAt_bd a b (i + 1) (k + 1)
  have b2 := fewAt_bd a b (i + 1) k
  have b3 := fewAt_bd a b i (k + 1)
  by_cases h1 : i < a.length
  · by_cases h2 : k < b.length
    · rw [fewAt_ne a b i k h1 h2 (hd h1 h2)]
      have e1 : way1 a b i k = (fewAt a b (i + 1) (k + 1), 1) := by unfold way1 sel; rw [if_pos ⟨⟨by omega, by omega⟩, by show _ < (_ : Int); omega⟩]
      simp only [way3, way4, way2, e1]
      unfold sel
      split <;> rename_i q1 <;> split <;> rename_i q2 <;> simp at q1 q2 <;> simp [wayI] <;> omega
    · rw [fewAt_a a b i k h1 (by omega)]
      have e1 : way1 a b i k = ((a.length : Int) + b.length + 1, 0) := by unfold way1 sel; rw [if_neg (by omega)]
      have e2 : way2 a b i k = (fewAt a b (i + 1) k, 2) := by unfold way2 sel; rw [e1, if_pos ⟨by omega, by show _ < (_ : Int); omega⟩]
      have e4 : way4 a b i k = way2 a b i k := by unfold way4 sel; rw [if_neg (by omega)]
      simp only [way3, e4, e2, wayI]
      simp; omega
  · rw [fewAt_b a b i k (by omega) (by omega)]
    have e1 : way1 a b i k = ((a.length : Int) + b.length + 1, 0) := by unfold way1 sel; rw [if_neg (by omega)]
    have e2 : way2 a b i k = way1 a b i k := by unfold way2 sel; rw [if_neg (by omega)]
    have e4 : way4 a b i k = (fewAt a b i (k + 1), 3) := by unfold way4 sel; rw [e2, e1, if_pos ⟨by omega, by show _ < (_ : Int); omega⟩]
    simp only [way3, e4, wayI]
    simp; omega

def never : Int := 1073741824
def cstEnd (p : Option Ln) : List Ln → Int
  | [] => 0
  | y :: b => if p = some y then min never (1 + cstEnd p b) else never
def cstRow (f : Option Ln → List Ln → Int) (x : Ln) (p : Option Ln) : List Ln → Int
  | [] => min never (1 + f none [])
  | y :: b => min (min (if p = some y then min never (1 + cstRow f x p b) else never) (few x y + f (some x) b)) (1 + f none (y :: b))
def cst : List Ln → Option Ln → List Ln → Int
  | [] => cstEnd
  | x :: a => cstRow (cst a) x
theorem cst_nn (p : Option Ln) : cst [] p [] = 0 := rfl
theorem cst_ny (p : Option Ln) (y : Ln) (b : List Ln) : cst [] p (y :: b) = if p = some y then min never (1 + cst [] p b) else never := rfl
theorem cst_xn (x : Ln) (a : List Ln) (p : Option Ln) : cst (x :: a) p [] = min never (1 + cst a none []) := rfl
theorem cst_xy (x : Ln) (a : List Ln) (p : Option Ln) (y : Ln) (b : List Ln) : cst (x :: a) p (y :: b) = min (min (if p = some y then min never (1 + cst (x :: a) p b) else never) (few x y + cst a (some x) b)) (1 + cst a none (y :: b)) := rfl
theorem cst_bd : ∀ (a : List Ln) (p : Option Ln) (b : List Ln), 0 ≤ cst a p b ∧ cst a p b ≤ never := by
  intro a
  induction a with
  | nil =>
    intro p b
    induction b with
    | nil => rw [cst_nn]; decide
    | cons y b ih => rw [cst_ny]; simp only [never] at *; split <;> omega
  | cons x a iha =>
    intro p b
    induction b with
    | nil => rw [cst_xn]; have := iha none []; simp only [never] at *; omega
    | cons y b ihb =>
      rw [cst_xy]
      have h1 := iha none (y :: b)
      have h2 := iha (some x) b
      have h3 := few_bd x y
      simp only [never] at *
      split <;> omega
open Go Pm
def prevL (a : List Ln) (i : Nat) (w : Bool) : Option Ln := if w = true then a[i - 1]? else none
def cAt (a b : List Ln) (i k : Nat) (w : Bool) : Int := cst (a.drop i) (prevL a i w) (b.drop k)
theorem cAt_bd (a b : List Ln) (i k : Nat) (w : Bool) : 0 ≤ cAt a b i k w ∧ cAt a b i k w ≤ 1073741824 := cst_bd _ _ _
def repB (a b : List Ln) (i k : Nat) (w : Bool) : Bool := w && (decide (k < b.length) && decide (a[i - 1]? = b[k]?))
def readB (a b : List Ln) (i k : Nat) : Bool := decide (i < a.length) && decide (k < b.length)
def skipB (a : List Ln) (i : Nat) : Bool := decide (i < a.length)
def lfew (a b : List Ln) (i k : Nat) : Int := if readB a b i k = true then few ((a[i]?).getD []) ((b[k]?).getD []) else 0
theorem lfew_bd (a b : List Ln) (i k : Nat) (ha : ∀ l ∈ a, l.length ≤ 100) (hb : ∀ l ∈ b, l.length ≤ 100) : 0 ≤ lfew a b i k ∧ lfew a b i k ≤ 200 := by
  unfold lfew
  split
  · rename_i h
    simp only [readB, Bool.and_eq_true, decide_eq_true_eq] at h
    rw [List.getElem?_eq_getElem h.1, List.getElem?_eq_getElem h.2, Option.getD_some, Option.getD_some]
    have := few_bd a[i] b[k]
    have := ha _ (List.getElem_mem h.1)
    have := hb _ (List.getElem_mem h.2)
    omega
  · omega
def stI (a b : List Ln) (i k : Nat) (w : Bool) : Nat → Bool
  | 0 => repB a b i k w
  | 1 => readB a b i k
  | _ => skipB a i
def stC (a b : List Ln) (i k : Nat) : Nat → Int
  | 0 => 1
  | 1 => lfew a b i k
  | _ => 1
def stN (a b : List Ln) (i k : Nat) (w : Bool) : Nat → Nat × Nat × Bool
  | 0 => (i, k + 1, true)
  | 1 => if readB a b i k = true then (i + 1, k + 1, true) else (i, k, w)
  | _ => (i + 1, k, false)
def cOf (a b : List Ln) (p : Nat × Nat × Bool) : Int := cAt a b p.1 p.2.1 p.2.2
def mn (is : Bool) (v n : Int) : Int := if is = true then (if v < n then v else n) else n
def nAt (a b : List Ln) (i k : Nat) (w : Bool) : Nat → Int
  | 0 => if i = a.length ∧ k = b.length then 0 else 1073741824
  | j + 1 => mn (stI a b i k w j) (stC a b i k j + cOf a b (stN a b i k w j)) (nAt a b i k w j)
theorem nAt_eq (a b : List Ln) (i k : Nat) (w : Bool) (hi : i ≤ a.length) (hk : k ≤ b.length) (hw : w = true → 0 < i) : nAt a b i k w 3 = cAt a b i k w := by
  simp only [nAt, stI, stC, stN, cOf, mn]
  by_cases h1 : i < a.length
  · by_cases h2 : k < b.length
    · have r : readB a b i k = true := by simp [readB, h1, h2]
      have s : skipB a i = true := by simp [skipB, h1]
      have ne : ¬ (i = a.length ∧ k = b.length) := by omega
      simp only [r, s, if_true, if_neg ne]
      have e : cAt a b i k w = min (min (if prevL a i w = some b[k] then min never (1 + cst (a[i] :: a.drop (i + 1)) (prevL a i w) (b.drop (k + 1))) else never) (few a[i] b[k] + cst (a.drop (i + 1)) (some a[i]) (b.drop (k + 1)))) (1 + cst (a.drop (i + 1)) none (b[k] :: b.drop (k + 1))) := by
        unfold cAt
        rw [List.drop_eq_getElem_cons h1, List.drop_eq_getElem_cons h2, cst_xy]
      have e2 : cAt a b (i + 1) (k + 1) true = cst (a.drop (i + 1)) (some a[i]) (b.drop (k + 1)) := by simp [cAt, prevL, h1]
      have e3 : cAt a b (i + 1) k false = cst (a.drop (i + 1)) none (b[k] :: b.drop (k + 1)) := by
        unfold cAt
        rw [List.drop_eq_getElem_cons h2]; rfl
      have e4 : lfew a b i k = few a[i] b[k] := by simp [lfew, r, h1, h2]
      rw [e, e2, e3, e4]
      have hrep : repB a b i k w = true ↔ prevL a i w = some b[k] := by
        unfold repB prevL
        cases w <;> simp [h2]
      have e1 : prevL a i w = some b[k] → cAt a b i (k + 1) true = cst (a[i] :: a.drop (i + 1)) (prevL a i w) (b.drop (k + 1)) := fun h => by
        have : w = true := by cases w <;> simp [prevL] at h ⊢
        subst this
        unfold cAt
        rw [List.drop_eq_getElem_cons h1]
      by_cases hp : prevL a i w = some b[k]
      · rw [if_pos hp, if_pos (hrep.2 hp), e1 hp]
        simp only [never]
        omega
      · rw [if_neg hp, if_neg (fun h => hp (hrep.1 h))]
        simp only [never]
        omega
    · obtain rfl : k = b.length := by omega
      have r : readB a b i b.length = false := by simp [readB]
      have s : skipB a i = true := by simp [skipB, h1]
      have q : repB a b i b.length w = false := by simp [repB]
      have ne : ¬ (i = a.length ∧ b.length = b.length) := by omega
      have e : cAt a b i b.length w = min never (1 + cst (a.drop (i + 1)) none []) := by
        unfold cAt
        rw [List.drop_eq_getElem_cons h1, List.drop_length, cst_xn]
      have e3 : cAt a b (i + 1) b.length false = cst (a.drop (i + 1)) none [] := by
        unfold cAt
        rw [List.drop_length]; rfl
      simp only [r, s, q, if_true, if_neg ne, Bool.false_eq_true, if_false]
      rw [e, e3]
      simp only [never]
      omega
  · obtain rfl : i = a.length := by omega
    have s : skipB a a.length = false := by simp [skipB]
    have r : readB a b a.length k = false := by simp [readB]
    simp only [r, s, Bool.false_eq_true, if_false]
    by_cases h2 : k < b.length
    · have ne : ¬ (True ∧ k = b.length) := fun h => by omega
      have e : cAt a b a.length k w = if prevL a a.length w = some b[k] then min never (1 + cst [] (prevL a a.length w) (b.drop (k + 1))) else never := by
        unfold cAt
        rw [List.drop_length, List.drop_eq_getElem_cons h2, cst_ny]
      have hrep : repB a b a.length k w = true ↔ prevL a a.length w = some b[k] := by
        unfold repB prevL
        cases w <;> simp [h2]
      have e1 : prevL a a.length w = some b[k] → cAt a b a.length (k + 1) true = cst [] (prevL a a.length w) (b.drop (k + 1)) := fun h => by
        have : w = true := by cases w <;> simp [prevL] at h ⊢
        subst this
        unfold cAt
        rw [List.drop_length]
      rw [e, if_neg ne]
      by_cases hp : prevL a a.length w = some b[k]
      · rw [if_pos hp, if_pos (hrep.2 hp), e1 hp]
        simp only [never]
        omega
      · rw [if_neg hp, if_neg (fun h => hp (hrep.1 h))]
        simp only [never]
    · obtain rfl : k = b.length := by omega
      have q : repB a b a.length b.length w = false := by simp [repB]
      simp only [q, Bool.false_eq_true, if_false, and_self, if_true]
      unfold cAt
      rw [List.drop_length, List.drop_length, cst_nn]
theorem stN_ok (a b : List Ln) (i k : Nat) (w : Bool) (hi : i ≤ a.length) (hk : k ≤ b.length) (hw : w = true → 0 < i) (j : Nat) (h : stI a b i k w j = true) :
    (stN a b i k w j).1 ≤ a.length ∧ (stN a b i k w j).2.1 ≤ b.length ∧ ((stN a b i k w j).2.2 = true → 0 < (stN a b i k w j).1) ∧
    (a.length - (stN a b i k w j).1) + (b.length - (stN a b i k w j).2.1) < (a.length - i) + (b.length - k) := by
  match j with
  | 0 =>
    simp only [stI, stN, repB, Bool.and_eq_true, decide_eq_true_eq] at h ⊢
    exact ⟨hi, by omega, fun _ => hw h.1, by omega⟩
  | 1 =>
    simp only [stI] at h
    simp only [stN, h, if_true]
    simp only [readB, Bool.and_eq_true, decide_eq_true_eq] at h
    exact ⟨by omega, by omega, fun _ => by omega, by omega⟩
  | j + 2 =>
    simp only [stI, stN, skipB, decide_eq_true_eq] at h ⊢
    exact ⟨by omega, by omega, fun h => (by cases h), by omega⟩
theorem step_on (a b : List Ln) (i k : Nat) (w : Bool) (hi : i ≤ a.length) (hk : k ≤ b.length) (hw : w = true → 0 < i) (hne : ¬ (i = a.length ∧ k = b.length)) (hlt : cAt a b i k w < 1073741824) :
    ∃ j, j < 3 ∧ stI a b i k w j = true ∧ stC a b i k j + cOf a b (stN a b i k w j) = cAt a b i k w := by
  have h := nAt_eq a b i k w hi hk hw
  have n0 : nAt a b i k w 0 = 1073741824 := by simp [nAt, hne]
  have st : ∀ j, nAt a b i k w (j + 1) = mn (stI a b i k w j) (stC a b i k j + cOf a b (stN a b i k w j)) (nAt a b i k w j) := fun _ => rfl
  false_or_by_contra
  rename_i hno
  have no : ∀ j, j < 3 → stI a b i k w j = true → stC a b i k j + cOf a b (stN a b i k w j) ≠ cAt a b i k w := fun j h1 h2 h3 => hno ⟨j, h1, h2, h3⟩
  have key : ∀ j, j ≤ 3 → nAt a b i k w j ≠ cAt a b i k w := by
    intro j
    induction j with
    | zero => intro _; rw [n0]; omega
    | succ j ih =>
      intro hj e
      rw [st, mn] at e
      split at e
      · rename_i hs
        split at e
        · exact no j (by omega) hs e
        · exact ih (by omega) e
      · exact ih (by omega) e
  exact key 3 (Nat.le_refl _) h
structure Ft where
  kind : Int
  line : Int
  words : Int
def ftE (f : Ft) : List V := [.v (.int .u8 f.kind), .v (.int .i64 f.line), .v (.int .i64 f.words)]
def fts (lo : Nat) (l : List Ft) : V := .lst lo 3 (l.map ftE)
attribute [go_sem] ftE fts
theorem allOnes_fts (l : List Ft) : allOnes (l.map ftE) = true := allOnes_map (fun _ => rfl) l
attribute [go_sem] allOnes_fts
def onB (a b : List Ln) (i k : Nat) (w : Bool) (j : Nat) : Bool := stI a b i k w j && decide (stC a b i k j + cOf a b (stN a b i k w j) = cAt a b i k w)
def stF (a b : List Ln) (fr : Int) (i k : Nat) : Nat → List Ft
  | 0 => [⟨2, fr + i - 1, 0⟩]
  | 1 => if 0 < lfew a b i k then [⟨3, fr + i, lfew a b i k⟩] else []
  | _ => [⟨1, fr + i, 0⟩]
def stJ (a b : List Ln) (i k : Nat) (w : Bool) : Nat := if onB a b i k w 0 = true then 0 else if onB a b i k w 1 = true then 1 else 2
def tld (a b : List Ln) (fr : Int) : Nat → Nat → Nat → Bool → List Ft
  | 0, _, _, _ => []
  | n + 1, i, k, w => if i = a.length ∧ k = b.length then [] else
    stF a b fr i k (stJ a b i k w) ++ tld a b fr n (stN a b i k w (stJ a b i k w)).1 (stN a b i k w (stJ a b i k w)).2.1 (stN a b i k w (stJ a b i k w)).2.2
theorem stJ_ok (a b : List Ln) (i k : Nat) (w : Bool) (hi : i ≤ a.length) (hk : k ≤ b.length) (hw : w = true → 0 < i) (hne : ¬ (i = a.length ∧ k = b.length)) (hlt : cAt a b i k w < 1073741824) :
    onB a b i k w (stJ a b i k w) = true ∧ ∀ j, j < stJ a b i k w → onB a b i k w j = false := by
  obtain ⟨j, h1, h2, h3⟩ := step_on a b i k w hi hk hw hne hlt
  have hj : onB a b i k w j = true := by simp [onB, h2, h3]
  unfold stJ
  split
  · rename_i h; exact ⟨h, fun j hj => by omega⟩
  · rename_i h
    split
    · rename_i h'; exact ⟨h', fun j hj => by rw [show j = 0 by omega]; simpa using h⟩
    · rename_i h'
      have : j = 2 := by
        have : j = 0 ∨ j = 1 ∨ j = 2 := by omega
        rcases this with rfl | rfl | rfl
        · exact (h hj).elim
        · exact (h' hj).elim
        · rfl
      subst this
      refine ⟨hj, fun j hj => ?_⟩
      have : j = 0 ∨ j = 1 := by omega
      rcases this with rfl | rfl
      · simpa using h
      · simpa using h'
def toldL (a b : List Ln) (fr : Int) : List Ft := if 1073741824 ≤ cAt a b 0 0 false then [] else tld a b fr (a.length + b.length) 0 0 false
end Go.Proofs.YtagfopbijboajaaGreatDoor
