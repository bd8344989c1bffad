import Derived.Test.YtagfopbijboajaaGreatDoorQY22
import Derived.Test.YtagfopbijboajaaGreatDoorQY23
import Derived.Test.YtagfopbijboajaaGreatDoorQY34
import Derived.Test.YtagfopbijboajaaGreatDoorQY44
import Derived.Test.YtagfopbijboajaaGreatDoorQY46
namespace Go.Proofs.YtagfopbijboajaaGreatDoor
open Go Pm
set_option linter.unusedSimpArgs false
set_option linter.unusedVariables false
theorem tld_line (a b : List Ln) (fr : Int) : ∀ (n i k : Nat) (w : Bool), ∀ f ∈ tld a b fr n i k w, fr + i - 1 ≤ f.line ∧ (f.line = fr + i - 1 → f.kind = 2)
  | 0, i, k, w, f, hf => by cases hf
  | n + 1, i, k, w, f, hf => by
    unfold tld at hf
    split at hf
    · cases hf
    · rcases List.mem_append.1 hf with h | h
      · unfold stF at h
        split at h
        · obtain rfl : f = ⟨2, fr + i - 1, 0⟩ := by simpa using h
          exact ⟨Int.le_refl _, fun _ => rfl⟩
        · split at h
          · obtain rfl : f = ⟨3, fr + i, lfew a b i k⟩ := by simpa using h
            exact ⟨by simp only; omega, fun h => by simp only at h; omega⟩
          · cases h
        · obtain rfl : f = ⟨1, fr + i, 0⟩ := by simpa using h
          exact ⟨by simp only; omega, fun h => by simp only at h; omega⟩
      · have ih := tld_line a b fr n _ _ _ f h
        have hs : (stN a b i k w (stJ a b i k w)).1 = i ∨ (stN a b i k w (stJ a b i k w)).1 = i + 1 := by
          unfold stN
          split
          · exact .inl rfl
          · split
            · exact .inr rfl
            · exact .inl rfl
          · exact .inr rfl
        rcases hs with hs | hs <;> rw [hs] at ih
        · exact ih
        · exact ⟨by omega, fun e => by omega⟩
structure OnW (a b : List Ln) (fr : Int) (L : List Ft) (i t k : Nat) (w : Bool) : Prop where
  hi : i ≤ a.length
  hk : k ≤ b.length
  hw : w = true → 0 < i
  lt : cAt a b i k w < 1073741824
  le : t ≤ L.length
  ex : ∃ n, (a.length - i) + (b.length - k) ≤ n ∧ L.drop t = tld a b fr n i k w
theorem OnW.step {a b : List Ln} {fr : Int} {L : List Ft} {i t k : Nat} {w : Bool} (h : OnW a b fr L i t k w) (hne : ¬ (i = a.length ∧ k = b.length)) :
    stI a b i k w (stJ a b i k w) = true ∧ L.drop t = stF a b fr i k (stJ a b i k w) ++ L.drop (t + (stF a b fr i k (stJ a b i k w)).length) ∧
    OnW a b fr L (stN a b i k w (stJ a b i k w)).1 (t + (stF a b fr i k (stJ a b i k w)).length) (stN a b i k w (stJ a b i k w)).2.1 (stN a b i k w (stJ a b i k w)).2.2 := by
  obtain ⟨hi, hk, hw, lt, le, n, hn, hd⟩ := h
  obtain ⟨j1, _⟩ := stJ_ok a b i k w hi hk hw hne lt
  simp only [onB, Bool.and_eq_true, decide_eq_true_eq] at j1
  obtain ⟨j2, j3⟩ := j1
  obtain ⟨n1, n2, n3, n4⟩ := stN_ok a b i k w hi hk hw _ j2
  have h0 : 0 ≤ stC a b i k (stJ a b i k w) := by
    unfold stC
    split
    · decide
    · unfold lfew; split
      · exact (few_bd _ _).1
      · decide
    · decide
  match n, hn with
  | 0, hn => omega
  | n + 1, hn =>
    unfold tld at hd
    rw [if_neg hne] at hd
    have e : L.drop (t + (stF a b fr i k (stJ a b i k w)).length) = tld a b fr n (stN a b i k w (stJ a b i k w)).1 (stN a b i k w (stJ a b i k w)).2.1 (stN a b i k w (stJ a b i k w)).2.2 := by
      rw [← List.drop_drop, hd, List.drop_left]
    have hl := congrArg List.length hd
    rw [List.length_drop, List.length_append] at hl
    refine ⟨j2, by rw [e]; exact hd, n1, n2, n3, ?_, by omega, n, by omega, e⟩
    have : cOf a b (stN a b i k w (stJ a b i k w)) = cAt a b (stN a b i k w (stJ a b i k w)).1 (stN a b i k w (stJ a b i k w)).2.1 (stN a b i k w (stJ a b i k w)).2.2 := rfl
    omega
def NoRep (a b : List Ln) (i k : Nat) (w : Bool) : Prop := i = a.length ∧ k = b.length ∨ stJ a b i k w ≠ 0
theorem drop_head {α : Type} {L M : List α} {t : Nat} {x : α} (h : L.drop t = x :: M) : ∃ (ht : t < L.length), L[t] = x := by
  have hl := congrArg List.length h
  rw [List.length_drop, List.length_cons] at hl
  refine ⟨by omega, ?_⟩
  rw [List.drop_eq_getElem_cons (by omega)] at h
  injection h
theorem OnW.after {a b : List Ln} {fr : Int} {L : List Ft} {i t k : Nat} {w : Bool} (h : OnW a b fr L i t k w) (ht : t < L.length) : fr + i - 1 ≤ L[t].line ∧ (L[t].line = fr + i - 1 → L[t].kind = 2) := by
  obtain ⟨_, _, _, _, _, n, _, hd⟩ := h
  refine tld_line a b fr n i k w _ ?_
  rw [← hd, List.drop_eq_getElem_cons ht]
  exact List.mem_cons_self ..
theorem OnW.line {a b : List Ln} {fr : Int} {L : List Ft} {i t k : Nat} {w : Bool} (h : OnW a b fr L i t k w) (hn : NoRep a b i k w) (hi : i < a.length) :
    ((∃ ht : t < L.length, L[t] = ⟨1, fr + i, 0⟩) ∧ OnW a b fr L (i + 1) (t + 1) k false) ∨
    ∃ hk : k < b.length, (0 < few a[i] b[k] ∧ (∃ ht : t < L.length, L[t] = ⟨3, fr + i, few a[i] b[k]⟩) ∧ OnW a b fr L (i + 1) (t + 1) (k + 1) true) ∨
      (few a[i] b[k] = 0 ∧ (∀ ht : t < L.length, L[t].line = fr + i → L[t].kind = 2) ∧ OnW a b fr L (i + 1) t (k + 1) true) := by
  have hne : ¬ (i = a.length ∧ k = b.length) := by omega
  have hj : stJ a b i k w ≠ 0 := by
    rcases hn with hn | hn
    · exact absurd hn hne
    · exact hn
  obtain ⟨s1, s2, s3⟩ := h.step hne
  have h12 : stJ a b i k w = 1 ∨ stJ a b i k w = 2 := by
    revert hj
    unfold stJ
    split
    · intro h; exact absurd rfl h
    · split
      · intro _; exact .inl rfl
      · intro _; exact .inr rfl
  rcases h12 with e | e <;> rw [e] at s1 s2 s3
  · simp only [stI] at s1
    have hr := s1
    simp only [readB, Bool.and_eq_true, decide_eq_true_eq] at hr
    have hf : lfew a b i k = few a[i] b[k] := by
      unfold lfew
      rw [if_pos s1, List.getElem?_eq_getElem hr.1, List.getElem?_eq_getElem hr.2]; rfl
    simp only [stN, s1, if_true] at s3
    right
    refine ⟨hr.2, ?_⟩
    unfold stF at s2 s3
    simp only [hf] at s2 s3
    by_cases h0 : 0 < few a[i] b[k]
    · left
      rw [if_pos h0] at s2 s3
      exact ⟨h0, drop_head s2, s3⟩
    · right
      rw [if_neg h0] at s3
      have h1 := (few_bd a[i] b[k]).1
      refine ⟨by omega, fun ht e => ?_, s3⟩
      have := OnW.after s3 (by simpa using ht)
      simp only [List.length_nil, Nat.add_zero] at this
      exact this.2 (by omega)
  · left
    unfold stF at s2 s3
    simp only [stN] at s3
    exact ⟨drop_head s2, s3⟩
theorem OnW.done {a b : List Ln} {fr : Int} {L : List Ft} {t k : Nat} {w : Bool} (h : OnW a b fr L a.length t k w) (hn : NoRep a b a.length k w) : t = L.length ∧ k = b.length := by
  by_cases hk : k = b.length
  · refine ⟨?_, hk⟩
    obtain ⟨_, _, _, _, le, n, _, hd⟩ := h
    have : tld a b fr n a.length k w = [] := by
      cases n with
      | zero => rfl
      | succ n => unfold tld; rw [if_pos ⟨rfl, hk⟩]
    rw [this] at hd
    have := congrArg List.length hd
    rw [List.length_drop] at this
    simp at this
    omega
  · have hne : ¬ (a.length = a.length ∧ k = b.length) := fun h => hk h.2
    have hj : stJ a b a.length k w ≠ 0 := by
      rcases hn with hn | hn
      · exact absurd hn hne
      · exact hn
    obtain ⟨s1, _, _⟩ := h.step hne
    revert s1 hj
    generalize stJ a b a.length k w = j
    match j with
    | 0 => intro h _; exact absurd rfl h
    | 1 => intro _ s1; simp [stI, readB] at s1
    | j + 2 => intro _ s1; simp [stI, skipB] at s1
open Go Pm
set_option maxHeartbeats 4000000
set_option maxRecDepth 100000
open Go Pm
set_option maxHeartbeats 4000000
set_option maxRecDepth 100000
end Go.Proofs.YtagfopbijboajaaGreatDoor
