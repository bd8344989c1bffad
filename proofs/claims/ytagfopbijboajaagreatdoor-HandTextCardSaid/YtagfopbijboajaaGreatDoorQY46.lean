import Derived.Test.YtagfopbijboajaaGreatDoorQY23
import Derived.Test.YtagfopbijboajaaGreatDoorQY44
namespace Go.Proofs.YtagfopbijboajaaGreatDoor
open Go Pm
set_option linter.unusedSimpArgs false
set_option linter.unusedVariables false
theorem cst_read (x y : Ln) (a : List Ln) (p : Option Ln) (b : List Ln) : cst (x :: a) p (y :: b) ≤ few x y + cst a (some x) b := by
  rw [cst_xy]; omega
open Go Pm
def costF (f : Ft) : Int := if 1 < f.words then f.words else 1
def sumL : List Ft → Int
  | [] => 0
  | f :: r => costF f + sumL r
theorem sumL_app (L M : List Ft) : sumL (L ++ M) = sumL L + sumL M := by
  induction L with
  | nil => simp [sumL]
  | cons f r ih => simp only [List.cons_append, sumL, ih]; omega
theorem costF_pos (f : Ft) : 1 ≤ costF f := by unfold costF; split <;> omega
theorem sumL_len (L : List Ft) : (L.length : Int) ≤ sumL L := by
  induction L with
  | nil => simp [sumL]
  | cons f r ih => have := costF_pos f; simp only [List.length_cons, sumL]; omega
theorem lfew_pos (a b : List Ln) (i k : Nat) : 0 ≤ lfew a b i k := by
  unfold lfew
  split
  · exact (few_bd _ _).1
  · exact Int.le_refl _
theorem stF_sum (a b : List Ln) (fr : Int) (i k j : Nat) : sumL (stF a b fr i k j) = stC a b i k j := by
  have := lfew_pos a b i k
  match j with
  | 0 => simp [stF, stC, sumL, costF]
  | 1 =>
    simp only [stF, stC]
    split
    · simp only [sumL, costF]; split <;> omega
    · simp only [sumL]; omega
  | j + 2 => simp [stF, stC, sumL, costF]
theorem tld_sum (a b : List Ln) (fr : Int) : ∀ (n i k : Nat) (w : Bool), i ≤ a.length → k ≤ b.length → (w = true → 0 < i) → cAt a b i k w < 1073741824 → (a.length - i) + (b.length - k) ≤ n → sumL (tld a b fr n i k w) = cAt a b i k w
  | 0, i, k, w, hi, hk, hw, lt, hn => by
    obtain rfl : i = a.length := by omega
    obtain rfl : k = b.length := by omega
    simp [tld, sumL, cAt, cst_nn]
  | n + 1, i, k, w, hi, hk, hw, lt, hn => by
    unfold tld
    split
    · rename_i h
      obtain ⟨rfl, rfl⟩ := h
      simp [sumL, cAt, cst_nn]
    · rename_i hne
      obtain ⟨j1, _⟩ := stJ_ok a b i k w hi hk hw hne lt
      simp only [onB, Bool.and_eq_true, decide_eq_true_eq] at j1
      obtain ⟨j2, j3⟩ := j1
      obtain ⟨n1, n2, n3, n4⟩ := stN_ok a b i k w hi hk hw _ j2
      have h0 : 0 ≤ stC a b i k (stJ a b i k w) := by
        have := lfew_pos a b i k
        unfold stC
        split <;> omega
      have e : cOf a b (stN a b i k w (stJ a b i k w)) = cAt a b (stN a b i k w (stJ a b i k w)).1 (stN a b i k w (stJ a b i k w)).2.1 (stN a b i k w (stJ a b i k w)).2.2 := rfl
      have ih := tld_sum a b fr n _ _ _ n1 n2 n3 (by omega) (by omega)
      rw [sumL_app, stF_sum, ih]
      omega
theorem told_sum (a b : List Ln) (fr : Int) (h : cAt a b 0 0 false < 1073741824) : sumL (toldL a b fr) = cAt a b 0 0 false := by
  unfold toldL
  rw [if_neg (by omega)]
  exact tld_sum a b fr _ 0 0 false (Nat.zero_le _) (Nat.zero_le _) (fun h => by cases h) h (by omega)
theorem cst_self : ∀ (l : List Ln) (p : Option Ln), cst l p l ≤ 0
  | [], p => by rw [cst_nn]; exact Int.le_refl _
  | x :: r, p => by
    have h1 := cst_self r (some x)
    have h2 := cst_read x x r p r
    rw [few_self] at h2
    omega
theorem told_none (a : List Ln) (fr : Int) : cAt a a 0 0 false = 0 ∧ toldL a a fr = [] := by
  have h1 : cAt a a 0 0 false ≤ 0 := cst_self a none
  have h2 := (cAt_bd a a 0 0 false).1
  have h3 : cAt a a 0 0 false = 0 := by omega
  refine ⟨h3, ?_⟩
  have h4 := told_sum a a fr (by omega)
  have h5 := sumL_len (toldL a a fr)
  exact List.eq_nil_of_length_eq_zero (by omega)
theorem backE_good {r : Ro} (hg : Good r) {i : Nat} (hi : i < r.shares.length) : backE r i = 0 := by
  have hin : inB (i : Int) 0 (r.shares.length - 1) = true := by simp [inB]; omega
  simp [backE, hg.e, hin]
open Go Pm
set_option maxHeartbeats 4000000
set_option maxRecDepth 100000
open Go Pm
open Go Pm
open Go Pm
instance slDec : DecidableEq Sl := fun a b =>
  if h : a.p = b.p ∧ a.word = b.word ∧ a.bef = b.bef ∧ a.aft = b.aft then isTrue (by
    obtain ⟨h1, h2, h3, h4⟩ := h
    cases a; cases b
    simp only at h1 h2 h3 h4
    rw [h1, h2, h3, h4])
  else isFalse (fun e => h (by rw [e]; exact ⟨rfl, rfl, rfl, rfl⟩))
end Go.Proofs.YtagfopbijboajaaGreatDoor
