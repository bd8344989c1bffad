import Derived.Test.YtfnohnjnncjidaaGreatDoorQR21
import Derived.Test.YtfnohnjnncjidaaGreatDoorQR22
import Derived.Test.YtfnohnjnncjidaaGreatDoorQR33
import Derived.Test.YtfnohnjnncjidaaGreatDoorQR42
import Derived.Test.YtfnohnjnncjidaaGreatDoorQR43
namespace Go.Proofs.YtfnohnjnncjidaaGreatDoor
open Go Pm
set_option linter.unusedSimpArgs false
set_option linter.unusedVariables false
theorem tld_line (a b : List Ln) (fr : Int) : ∀ (n i k : Nat) (w : Bool), ∀ f ∈ tld a b fr n i k w, fr + i - 1 ≤ f.line ∧ (f.line = fr + i - 1 → f.kind = 2)
  | 0, i, k, w, f, hf => by cases hf
  | n + 1, i, k, w, f, hf => by
    unfold tld at hf
    split at hf
    · cases hf
    · rcases List.mem_append.1 hf with h | h
      · unfold stF at h
        split at h
        · obtain rfl : f = ⟨2, fr + i - 1, 0⟩ := by simpa using h
          exact ⟨Int.le_refl _, fun _ => rfl⟩
        · split at h
          · obtain rfl : f = ⟨3, fr + i, lfew a b i k⟩ := by simpa using h
            exact ⟨by simp only; omega, fun h => by simp only at h; omega⟩
          · cases h
        · obtain rfl : f = ⟨1, fr + i, 0⟩ := by simpa using h
          exact ⟨by simp only; omega, fun h => by simp only at h; omega⟩
      · have ih := tld_line a b fr n _ _ _ f h
        have hs : (stN a b i k w (stJ a b i k w)).1 = i ∨ (stN a b i k w (stJ a b i k w)).1 = i + 1 := by
          unfold stN
          split
          · exact .inl rfl
          · split
            · exact .inr rfl
            · exact .inl rfl
          · exact .inr rfl
        rcases hs with hs | hs <;> rw [hs] at ih
        · exact ih
        · exact ⟨by omega, fun e => by omega⟩
structure OnW (a b : List Ln) (fr : Int) (L : List Ft) (i t k : Nat) (w : Bool) : Prop where
  hi : i ≤ a.length
  hk : k ≤ b.length
  hw : w = true → 0 < i
  lt : cAt a b i k w < 1073741824
  le : t ≤ L.length
  ex : ∃ n, (a.length - i) + (b.length - k) ≤ n ∧ L.drop t = tld a b fr n i k w
theorem OnW.step {a b : List Ln} {fr : Int} {L : List Ft} {i t k : Nat} {w : Bool} (h : OnW a b fr L i t k w) (hne : ¬ (i = a.length ∧ k = b.length)) :
    stI a b i k w (stJ a b i k w) = true ∧ L.drop t = stF a b fr i k (stJ a b i k w) ++ L.drop (t + (stF a b fr i k (stJ a b i k w)).length) ∧
    OnW a b fr L (stN a b i k w (stJ a b i k w)).1 (t + (stF a b fr i k (stJ a b i k w)).length) (stN a b i k w (stJ a b i k w)).2.1 (stN a b i k w (stJ a b i k w)).2.2 := by
  obtain ⟨hi, hk, hw, lt, le, n, hn, hd⟩ := h
  obtain ⟨j1, _⟩ := stJ_ok a b i k w hi hk hw hne lt
  simp only [onB, Bool.and_eq_true, decide_eq_true_eq] at j1
  obtain ⟨j2, j3⟩ := j1
  obtain ⟨n1, n2, n3, n4⟩ := stN_ok a b i k w hi hk hw _ j2
  have h0 : 0 ≤ stC a b i k (stJ a b i k w) := by
    unfold stC
    split
    · decide
    · unfold lfew; split
      · exact (few_bd _ _).1
      · decide
    · decide
  match n, hn with
  | 0, hn => omega
  | n + 1, hn =>
    unfold tld at hd
    rw [if_neg hne] at hd
    have e : L.drop (t + (stF a b fr i k (stJ a b i k w)).length) = tld a b fr n (stN a b i k w (stJ a b i k w)).1 (stN a b i k w (stJ a b i k w)).2.1 (stN a b i k w (stJ a b i k w)).2.2 := by
      rw [← List.drop_drop, hd, List.drop_left]
    have hl := congrArg List.length hd
    rw [List.length_drop, List.length_append] at hl
    refine ⟨j2, by rw [e]; exact hd, n1, n2, n3, ?_, by omega, n, by omega, e⟩
    have : cOf a b (stN a b i k w (stJ a b i k w)) = cAt a b (stN a b i k w (stJ a b i k w)).1 (stN a b i k w (stJ a b i k w)).2.1 (stN a b i k w (stJ a b i k w)).2.2 := rfl
    omega
def NoRep (a b : List Ln) (i k : Nat) (w : Bool) : Prop := i = a.length ∧ k = b.length ∨ stJ a b i k w ≠ 0
theorem noRep_false (a b : List Ln) (i k : Nat) : NoRep a b i k false := by
  refine .inr ?_
  unfold stJ onB stI repB
  simp
  split <;> omega
theorem OnW.start (a b : List Ln) (fr : Int) (h : cAt a b 0 0 false < 1073741824) : OnW a b fr (toldL a b fr) 0 0 0 false := by
  refine ⟨Nat.zero_le _, Nat.zero_le _, (fun h => by cases h), h, Nat.zero_le _, a.length + b.length, by omega, ?_⟩
  unfold toldL
  rw [if_neg (by omega)]; rfl
theorem drop_head {α : Type} {L M : List α} {t : Nat} {x : α} (h : L.drop t = x :: M) : ∃ (ht : t < L.length), L[t] = x := by
  have hl := congrArg List.length h
  rw [List.length_drop, List.length_cons] at hl
  refine ⟨by omega, ?_⟩
  rw [List.drop_eq_getElem_cons (by omega)] at h
  injection h
theorem OnW.after {a b : List Ln} {fr : Int} {L : List Ft} {i t k : Nat} {w : Bool} (h : OnW a b fr L i t k w) (ht : t < L.length) : fr + i - 1 ≤ L[t].line ∧ (L[t].line = fr + i - 1 → L[t].kind = 2) := by
  obtain ⟨_, _, _, _, _, n, _, hd⟩ := h
  refine tld_line a b fr n i k w _ ?_
  rw [← hd, List.drop_eq_getElem_cons ht]
  exact List.mem_cons_self ..
theorem OnW.line {a b : List Ln} {fr : Int} {L : List Ft} {i t k : Nat} {w : Bool} (h : OnW a b fr L i t k w) (hn : NoRep a b i k w) (hi : i < a.length) :
    ((∃ ht : t < L.length, L[t] = ⟨1, fr + i, 0⟩) ∧ OnW a b fr L (i + 1) (t + 1) k false) ∨
    ∃ hk : k < b.length, (0 < few a[i] b[k] ∧ (∃ ht : t < L.length, L[t] = ⟨3, fr + i, few a[i] b[k]⟩) ∧ OnW a b fr L (i + 1) (t + 1) (k + 1) true) ∨
      (few a[i] b[k] = 0 ∧ (∀ ht : t < L.length, L[t].line = fr + i → L[t].kind = 2) ∧ OnW a b fr L (i + 1) t (k + 1) true) := by
  have hne : ¬ (i = a.length ∧ k = b.length) := by omega
  have hj : stJ a b i k w ≠ 0 := by
    rcases hn with hn | hn
    · exact absurd hn hne
    · exact hn
  obtain ⟨s1, s2, s3⟩ := h.step hne
  have h12 : stJ a b i k w = 1 ∨ stJ a b i k w = 2 := by
    revert hj
    unfold stJ
    split
    · intro h; exact absurd rfl h
    · split
      · intro _; exact .inl rfl
      · intro _; exact .inr rfl
  rcases h12 with e | e <;> rw [e] at s1 s2 s3
  · simp only [stI] at s1
    have hr := s1
    simp only [readB, Bool.and_eq_true, decide_eq_true_eq] at hr
    have hf : lfew a b i k = few a[i] b[k] := by
      unfold lfew
      rw [if_pos s1, List.getElem?_eq_getElem hr.1, List.getElem?_eq_getElem hr.2]; rfl
    simp only [stN, s1, if_true] at s3
    right
    refine ⟨hr.2, ?_⟩
    unfold stF at s2 s3
    simp only [hf] at s2 s3
    by_cases h0 : 0 < few a[i] b[k]
    · left
      rw [if_pos h0] at s2 s3
      exact ⟨h0, drop_head s2, s3⟩
    · right
      rw [if_neg h0] at s3
      have h1 := (few_bd a[i] b[k]).1
      refine ⟨by omega, fun ht e => ?_, s3⟩
      have := OnW.after s3 (by simpa using ht)
      simp only [List.length_nil, Nat.add_zero] at this
      exact this.2 (by omega)
  · left
    unfold stF at s2 s3
    simp only [stN] at s3
    exact ⟨drop_head s2, s3⟩
theorem OnW.rep {a b : List Ln} {fr : Int} {L : List Ft} {i t k : Nat} (h : OnW a b fr L (i + 1) t k true) (hi : i < a.length) :
    ((∃ ht : t < L.length, L[t] = ⟨2, fr + i, 0⟩) ∧ (∃ hk : k < b.length, b[k] = a[i]) ∧ OnW a b fr L (i + 1) (t + 1) (k + 1) true) ∨
    (NoRep a b (i + 1) k true ∧ ∀ ht : t < L.length, L[t].line ≠ fr + i) := by
  by_cases hne : i + 1 = a.length ∧ k = b.length
  · right
    refine ⟨.inl hne, fun ht => ?_⟩
    obtain ⟨_, _, _, _, _, n, hn, hd⟩ := h
    have : tld a b fr n (i + 1) k true = [] := by
      cases n with
      | zero => rfl
      | succ n => unfold tld; rw [if_pos hne]
    rw [this] at hd
    have := congrArg List.length hd
    rw [List.length_drop] at this
    simp at this
    omega
  · obtain ⟨s1, s2, s3⟩ := h.step hne
    by_cases hj : stJ a b (i + 1) k true = 0
    · left
      rw [hj] at s1 s2 s3
      simp only [stI, repB, Bool.true_and, Bool.and_eq_true, decide_eq_true_eq, Nat.add_sub_cancel] at s1
      rw [List.getElem?_eq_getElem hi, List.getElem?_eq_getElem s1.1] at s1
      have hF : stF a b fr (i + 1) k 0 = [⟨2, fr + i, 0⟩] := by
        simp only [stF]
        rw [show fr + ((i + 1 : Nat) : Int) - 1 = fr + i by omega]
      rw [hF] at s2 s3
      simp only [stN] at s3
      exact ⟨drop_head s2, ⟨s1.1, (Option.some.inj s1.2).symm⟩, s3⟩
    · right
      refine ⟨.inr hj, fun ht e => ?_⟩
      have h12 : stJ a b (i + 1) k true = 1 ∨ stJ a b (i + 1) k true = 2 := by
        revert hj
        unfold stJ
        split
        · intro h; exact absurd rfl h
        · split
          · intro _; exact .inl rfl
          · intro _; exact .inr rfl
      rcases h12 with e1 | e1 <;> rw [e1] at s1 s2 s3
      · simp only [stI] at s1
        simp only [stN, s1, if_true] at s3
        unfold stF at s2 s3
        by_cases h0 : 0 < lfew a b (i + 1) k
        · simp only [if_pos h0] at s2 s3
          obtain ⟨_, e2⟩ := drop_head s2
          rw [e2] at e
          simp only at e
          omega
        · simp only [if_neg h0] at s3
          have := OnW.after s3 (by simpa using ht)
          simp only [List.length_nil, Nat.add_zero] at this
          omega
      · unfold stF at s2
        obtain ⟨_, e2⟩ := drop_head s2
        rw [e2] at e
        simp only at e
        omega
theorem OnW.done {a b : List Ln} {fr : Int} {L : List Ft} {t k : Nat} {w : Bool} (h : OnW a b fr L a.length t k w) (hn : NoRep a b a.length k w) : t = L.length ∧ k = b.length := by
  by_cases hk : k = b.length
  · refine ⟨?_, hk⟩
    obtain ⟨_, _, _, _, le, n, _, hd⟩ := h
    have : tld a b fr n a.length k w = [] := by
      cases n with
      | zero => rfl
      | succ n => unfold tld; rw [if_pos ⟨rfl, hk⟩]
    rw [this] at hd
    have := congrArg List.length hd
    rw [List.length_drop] at this
    simp at this
    omega
  · have hne : ¬ (a.length = a.length ∧ k = b.length) := fun h => hk h.2
    have hj : stJ a b a.length k w ≠ 0 := by
      rcases hn with hn | hn
      · exact absurd hn hne
      · exact hn
    obtain ⟨s1, _, _⟩ := h.step hne
    revert s1 hj
    generalize stJ a b a.length k w = j
    match j with
    | 0 => intro h _; exact absurd rfl h
    | 1 => intro _ s1; simp [stI, readB] at s1
    | j + 2 => intro _ s1; simp [stI, skipB] at s1
theorem cst_none : ∀ (a : List Ln), a.length ≤ 1000 → cst a none [] ≤ a.length
  | [], _ => by simp [cst_nn]
  | x :: a, h => by
    have h' : a.length ≤ 1000 := by simp at h; omega
    have ih := cst_none a h'
    rw [cst_xn]
    have : min never (1 + cst a none []) ≤ 1 + cst a none [] := Int.min_le_right _ _
    simp only [List.length_cons]
    omega
end Go.Proofs.YtfnohnjnncjidaaGreatDoor
namespace Go.Proofs.YtfnohnjnncjidaaGreatDoor
open Go Pm
set_option linter.unusedSimpArgs false
set_option linter.unusedVariables false
set_option maxHeartbeats 4000000
set_option maxRecDepth 100000
abbrev hxF (lo : Nat) (A B : List Ln) (L : List Ft) (i n t k : Nat) : List (Nat × V) := [(2, .ptr 2 0), (5, bl true), (6, i64 i), (7, fts lo L), (9, lns 0 B), (10, i64 t), (11, i64 k), (82, lns 0 A), (83, i64 A.length), (84, i64 n)]
theorem reps (r : Ro) (A B : List Ln) (fr : Int) (L : List Ft) (i n t k : Nat) (hL : L.length ≤ 5000) (hA : A.length ≤ 400) (hB : B.length ≤ 400) (hn : n < A.length) (hO : OnW A B fr L (n + 1) t k true) {st : St}
    {G : Gh} (hG : G.n = 249) (hOw : G.ow = fun _ => false) (hNm : G.nm = []) {Q : Exit → St → Prop}
    (hst : Ent G st (St.of (hxF G.lo A B L i n t k ++ [(13, strs 0 A[n]), (14, i64 (fr + n))]) [(2, .box (roC 0 r))])) :
    SemC Tryz.prog G (bkOf 2 Tryz.f6.body) st (cutQ G 2 (fun x : Nat × Nat => St.of (hxF G.lo A B L i n x.1 x.2) [(2, .box (roC 0 r))]) (fun x => OnW A B fr L (n + 1) x.1 x.2 true ∧ NoRep A B (n + 1) x.2 true) Q) := by
  unfold Tryz.f6
  simp only [rgOf, bkOf, rgO, bkO, orElse, Option.bind_some, Option.getD_some, reduceIte, Nat.reduceEqDiff, reduceCtorEq]
  refine semC_loop (fun x : Nat × Nat => St.of (hxF G.lo A B L i n x.1 x.2 ++ [(13, strs 0 A[n]), (14, i64 (fr + n))]) [(2, .box (roC 0 r))]) (fun x => OnW A B fr L (n + 1) x.1 x.2 true) (fun x => B.length - x.2) (t, k) hO hst ?_
  rintro ⟨t, k⟩ hO
  simp only at hO
  have hle := hO.le
  have hkb := hO.hk
  rcases hO.rep hn with ⟨⟨ht, hLt⟩, ⟨hk, hBA⟩, hO'⟩ | ⟨hN, hno⟩
  · have htI : (t : Int) < L.length := by omega
    have hkI : ¬ (B.length : Int) ≤ k := by omega
    have hSW := SameWords_ok B[k] A[n]
    rw [decide_eq_true hBA] at hSW
    refine vc_sound _ _ _ ?_
    simp (config := { maxSteps := 2000000 }) only [go_sem, hG, hOw, hLt, htI, hkI, decide_true, decide_false]
    (repeat' first | with_reducible refine And.intro ?_ ?_ | with_reducible intro _ | with_reducible refine exP ?_ ?_); all_goals try omega
    refine call_pure hSW (by first | exact Subs.refl _ | (repeat' (first | exact Subs.nil | exact Sub.refl _ | exact Sub.lo (Nat.zero_le _) | refine Subs.cons ?_ ?_ | refine Subs.agg ?_ | refine Subs.fp ?_ | refine Subs.tup ?_ | refine Sub.map (Nat.zero_le _) (fun _ => ?_)))) (by first | rfl | simp [allP, all0, pureV, pure0, *]) (by simp [chk, hG]) ?_
    simp only [go_sem, hG, hOw]
    (repeat' first | with_reducible refine And.intro ?_ ?_ | with_reducible intro _ | with_reducible refine exP ?_ ?_); all_goals try omega
    exact ⟨(t + 1, k + 1), hO', by simp only; omega, entA [(2, some 2)]⟩
  · by_cases ht : t < L.length
    · have htI : (t : Int) < L.length := by omega
      have hne := hno ht
      refine vc_sound _ _ _ ?_
      simp (config := { maxSteps := 2000000 }) only [go_sem, hG, hOw, htI, hne, decide_true, decide_false]
      (repeat' first | with_reducible refine And.intro ?_ ?_ | with_reducible intro _ | with_reducible refine exP ?_ ?_); all_goals try omega
      exact ⟨(t, k), ⟨hO, hN⟩, entA [(2, some 2)]⟩
    · have htI : ¬ (t : Int) < L.length := by omega
      refine vc_sound _ _ _ ?_
      simp (config := { maxSteps := 2000000 }) only [go_sem, hG, hOw, htI, decide_true, decide_false]
      (repeat' first | with_reducible refine And.intro ?_ ?_ | with_reducible intro _ | with_reducible refine exP ?_ ?_); all_goals try omega
      exact ⟨(t, k), ⟨hO, hN⟩, entA [(2, some 2)]⟩
end Go.Proofs.YtfnohnjnncjidaaGreatDoor
namespace Go.Proofs.YtfnohnjnncjidaaGreatDoor
open Go Pm
set_option linter.unusedSimpArgs false
set_option linter.unusedVariables false
set_option maxHeartbeats 4000000
set_option maxRecDepth 100000
theorem sub_one (n : Nat) (a : Ln) : Pm.Sub (.lst n 2 [[i64 0, .lst n 1 [[strs 0 a]]]]) (chs 0 [⟨0, [a]⟩]) := by
  refine Sub.lst (Nat.zero_le _) rfl fun i x x' h1 h2 => ?_
  match i with
  | 0 =>
    simp only [List.getElem?_cons_zero, Option.some.injEq, List.map_cons, List.map_nil] at h1 h2
    subst h1; subst h2
    exact .cons (.refl _) (.cons (.lo (Nat.zero_le _)) .nil)
  | i + 1 => simp at h1
abbrev hxS (lo : Nat) (r : Ro) (A B : List Ln) (L : List Ft) (i n t k : Nat) (ml : List (Nat × V)) : St := St.of (hxF lo A B L i n t k ++ ml) [(2, .box (roC 0 r))]
theorem xp1a (r : Ro) (A B : List Ln) (fr : Int) (L : List Ft) (i n t k : Nat) (w : Bool) (hil : i < r.shares.length) (hfs : r.shares[i].fr = fr) (hfb : 0 ≤ fr ∧ fr ≤ 1000) (hLl : L.length ≤ 5000) (hAl : A.length ≤ 1000) (hBl : B.length ≤ 1000) (hW : OnW A B fr L n t k w) (hN : NoRep A B n k w) (hn : n < A.length)
    (ht : t < L.length) (hLt : L[t] = ⟨1, fr + n, 0⟩) (hW' : OnW A B fr L (n + 1) (t + 1) k false)
    {G : Gh} (hG : G.n = 249) (hOw : G.ow = fun _ => false) (hNm : G.nm = []) {Q : Exit → St → Prop}
    (hskip : ∀ s, OnW A B fr L (n + 1) (t + 1) k false → Ent G s (hxS G.lo r A B L i n (t + 1) k []) → Q (.exit 1) s) :
    SemL Tryz.prog G ((flat (bkOf 1 Tryz.f6.body)).take 8) (hxS G.lo r A B L i n t k [])
      (midQ G (fun x : Nat × Int => hxS G.lo r A B L i n x.1 k [(13, strs 0 A[n]), (14, i64 (fr + n)), (16, i64 x.2)]) (fun x => OnW A B fr L (n + 1) x.1 (k + 1) true ∧ ∃ hk : k < B.length, x.2 = few A[n] B[k]) Q) := by
  have hnA := hW.hi
  have hkB := hW.hk
  have htL := hW.le
  unfold Tryz.f6
  simp only [rgOf, bkOf, rgO, bkO, orElse, Option.bind_some, Option.getD_some, reduceIte, Nat.reduceEqDiff, reduceCtorEq]
  simp only [flat, List.cons_append, List.nil_append, List.append_assoc, List.take_succ_cons, List.take_zero, List.take_nil, List.drop_succ_cons, List.drop_zero]
  have hex : ∀ s, Ent G s (hxS G.lo r A B L i n (t + 1) k []) → OnW A B fr L (n + 1) (t + 1) k false → midQ G (fun x : Nat × Int => hxS G.lo r A B L i n x.1 k [(13, strs 0 A[n]), (14, i64 (fr + n)), (16, i64 x.2)]) (fun x => OnW A B fr L (n + 1) x.1 (k + 1) true ∧ ∃ hk : k < B.length, x.2 = few A[n] B[k]) Q (.exit 1) s := fun s h1 h2 => hskip s h2 h1
  have htI : (t : Int) < L.length := by omega
  have l1 : L[t].line = fr + n := by rw [hLt]
  have l2 : L[t].kind = 1 := by rw [hLt]
  have l3 : L[t].words = 0 := by rw [hLt]
  refine vcN_sound 9 _ _ ?_
  simp (config := { maxSteps := 2000000 }) only [go_sem, hG, hOw, htI, hfs, l1, l2, l3, decide_true, decide_false]
  (repeat' first | with_reducible refine And.intro ?_ ?_ | with_reducible intro _ | with_reducible refine exP ?_ ?_); all_goals try omega
  refine hskip _ hW' ?_
  exact entA [(2, some 2)]
theorem xp1b (r : Ro) (A B : List Ln) (fr : Int) (L : List Ft) (i n t k : Nat) (w : Bool) (hil : i < r.shares.length) (hfs : r.shares[i].fr = fr) (hfb : 0 ≤ fr ∧ fr ≤ 1000) (hLl : L.length ≤ 5000) (hAl : A.length ≤ 1000) (hBl : B.length ≤ 1000) (hW : OnW A B fr L n t k w) (hN : NoRep A B n k w) (hn : n < A.length)
    (hk : k < B.length) (h0 : 0 < few A[n] B[k]) (ht : t < L.length) (hLt : L[t] = ⟨3, fr + n, few A[n] B[k]⟩) (hW' : OnW A B fr L (n + 1) (t + 1) (k + 1) true)
    {G : Gh} (hG : G.n = 249) (hOw : G.ow = fun _ => false) (hNm : G.nm = []) {Q : Exit → St → Prop}
    (hskip : ∀ s, OnW A B fr L (n + 1) (t + 1) k false → Ent G s (hxS G.lo r A B L i n (t + 1) k []) → Q (.exit 1) s) :
    SemL Tryz.prog G ((flat (bkOf 1 Tryz.f6.body)).take 8) (hxS G.lo r A B L i n t k [])
      (midQ G (fun x : Nat × Int => hxS G.lo r A B L i n x.1 k [(13, strs 0 A[n]), (14, i64 (fr + n)), (16, i64 x.2)]) (fun x => OnW A B fr L (n + 1) x.1 (k + 1) true ∧ ∃ hk : k < B.length, x.2 = few A[n] B[k]) Q) := by
  have hnA := hW.hi
  have hkB := hW.hk
  have htL := hW.le
  unfold Tryz.f6
  simp only [rgOf, bkOf, rgO, bkO, orElse, Option.bind_some, Option.getD_some, reduceIte, Nat.reduceEqDiff, reduceCtorEq]
  simp only [flat, List.cons_append, List.nil_append, List.append_assoc, List.take_succ_cons, List.take_zero, List.take_nil, List.drop_succ_cons, List.drop_zero]
  have hex : ∀ s, Ent G s (hxS G.lo r A B L i n (t + 1) k []) → OnW A B fr L (n + 1) (t + 1) k false → midQ G (fun x : Nat × Int => hxS G.lo r A B L i n x.1 k [(13, strs 0 A[n]), (14, i64 (fr + n)), (16, i64 x.2)]) (fun x => OnW A B fr L (n + 1) x.1 (k + 1) true ∧ ∃ hk : k < B.length, x.2 = few A[n] B[k]) Q (.exit 1) s := fun s h1 h2 => hskip s h2 h1
  have htI : (t : Int) < L.length := by omega
  have l1 : L[t].line = fr + n := by rw [hLt]
  have l2 : L[t].kind = 3 := by rw [hLt]
  have l3 : L[t].words = few A[n] B[k] := by rw [hLt]
  refine vcN_sound 9 _ _ ?_
  simp (config := { maxSteps := 2000000 }) only [go_sem, hG, hOw, htI, hfs, l1, l2, l3, decide_true, decide_false]
  (repeat' first | with_reducible refine And.intro ?_ ?_ | with_reducible intro _ | with_reducible refine exP ?_ ?_); all_goals try omega
  exact ⟨(t + 1, few A[n] B[k]), ⟨hW', hk, rfl⟩, entA [(2, some 2)]⟩
theorem xp1c (r : Ro) (A B : List Ln) (fr : Int) (L : List Ft) (i n t k : Nat) (w : Bool) (hil : i < r.shares.length) (hfs : r.shares[i].fr = fr) (hfb : 0 ≤ fr ∧ fr ≤ 1000) (hLl : L.length ≤ 5000) (hAl : A.length ≤ 1000) (hBl : B.length ≤ 1000) (hW : OnW A B fr L n t k w) (hN : NoRep A B n k w) (hn : n < A.length)
    (hk : k < B.length) (h0 : few A[n] B[k] = 0) (hW' : OnW A B fr L (n + 1) t (k + 1) true) (ht : t < L.length) (hline : L[t].line = fr + n) (l2 : L[t].kind = 2)
    {G : Gh} (hG : G.n = 249) (hOw : G.ow = fun _ => false) (hNm : G.nm = []) {Q : Exit → St → Prop}
    (hskip : ∀ s, OnW A B fr L (n + 1) (t + 1) k false → Ent G s (hxS G.lo r A B L i n (t + 1) k []) → Q (.exit 1) s) :
    SemL Tryz.prog G ((flat (bkOf 1 Tryz.f6.body)).take 8) (hxS G.lo r A B L i n t k [])
      (midQ G (fun x : Nat × Int => hxS G.lo r A B L i n x.1 k [(13, strs 0 A[n]), (14, i64 (fr + n)), (16, i64 x.2)]) (fun x => OnW A B fr L (n + 1) x.1 (k + 1) true ∧ ∃ hk : k < B.length, x.2 = few A[n] B[k]) Q) := by
  have hnA := hW.hi
  have hkB := hW.hk
  have htL := hW.le
  unfold Tryz.f6
  simp only [rgOf, bkOf, rgO, bkO, orElse, Option.bind_some, Option.getD_some, reduceIte, Nat.reduceEqDiff, reduceCtorEq]
  simp only [flat, List.cons_append, List.nil_append, List.append_assoc, List.take_succ_cons, List.take_zero, List.take_nil, List.drop_succ_cons, List.drop_zero]
  have hex : ∀ s, Ent G s (hxS G.lo r A B L i n (t + 1) k []) → OnW A B fr L (n + 1) (t + 1) k false → midQ G (fun x : Nat × Int => hxS G.lo r A B L i n x.1 k [(13, strs 0 A[n]), (14, i64 (fr + n)), (16, i64 x.2)]) (fun x => OnW A B fr L (n + 1) x.1 (k + 1) true ∧ ∃ hk : k < B.length, x.2 = few A[n] B[k]) Q (.exit 1) s := fun s h1 h2 => hskip s h2 h1
  have htI : (t : Int) < L.length := by omega
  refine vcN_sound 9 _ _ ?_
  simp (config := { maxSteps := 2000000 }) only [go_sem, hG, hOw, htI, hfs, hline, l2, decide_true, decide_false]
  (repeat' first | with_reducible refine And.intro ?_ ?_ | with_reducible intro _ | with_reducible refine exP ?_ ?_); all_goals try omega
  exact ⟨(t, 0), ⟨hW', hk, h0.symm⟩, entA [(2, some 2)]⟩
theorem xp1d (r : Ro) (A B : List Ln) (fr : Int) (L : List Ft) (i n t k : Nat) (w : Bool) (hil : i < r.shares.length) (hfs : r.shares[i].fr = fr) (hfb : 0 ≤ fr ∧ fr ≤ 1000) (hLl : L.length ≤ 5000) (hAl : A.length ≤ 1000) (hBl : B.length ≤ 1000) (hW : OnW A B fr L n t k w) (hN : NoRep A B n k w) (hn : n < A.length)
    (hk : k < B.length) (h0 : few A[n] B[k] = 0) (hW' : OnW A B fr L (n + 1) t (k + 1) true) (ht : t < L.length) (hline : ¬ L[t].line = fr + n)
    {G : Gh} (hG : G.n = 249) (hOw : G.ow = fun _ => false) (hNm : G.nm = []) {Q : Exit → St → Prop}
    (hskip : ∀ s, OnW A B fr L (n + 1) (t + 1) k false → Ent G s (hxS G.lo r A B L i n (t + 1) k []) → Q (.exit 1) s) :
    SemL Tryz.prog G ((flat (bkOf 1 Tryz.f6.body)).take 8) (hxS G.lo r A B L i n t k [])
      (midQ G (fun x : Nat × Int => hxS G.lo r A B L i n x.1 k [(13, strs 0 A[n]), (14, i64 (fr + n)), (16, i64 x.2)]) (fun x => OnW A B fr L (n + 1) x.1 (k + 1) true ∧ ∃ hk : k < B.length, x.2 = few A[n] B[k]) Q) := by
  have hnA := hW.hi
  have hkB := hW.hk
  have htL := hW.le
  unfold Tryz.f6
  simp only [rgOf, bkOf, rgO, bkO, orElse, Option.bind_some, Option.getD_some, reduceIte, Nat.reduceEqDiff, reduceCtorEq]
  simp only [flat, List.cons_append, List.nil_append, List.append_assoc, List.take_succ_cons, List.take_zero, List.take_nil, List.drop_succ_cons, List.drop_zero]
  have hex : ∀ s, Ent G s (hxS G.lo r A B L i n (t + 1) k []) → OnW A B fr L (n + 1) (t + 1) k false → midQ G (fun x : Nat × Int => hxS G.lo r A B L i n x.1 k [(13, strs 0 A[n]), (14, i64 (fr + n)), (16, i64 x.2)]) (fun x => OnW A B fr L (n + 1) x.1 (k + 1) true ∧ ∃ hk : k < B.length, x.2 = few A[n] B[k]) Q (.exit 1) s := fun s h1 h2 => hskip s h2 h1
  have htI : (t : Int) < L.length := by omega
  refine vcN_sound 9 _ _ ?_
  simp (config := { maxSteps := 2000000 }) only [go_sem, hG, hOw, htI, hfs, hline, decide_true, decide_false]
  (repeat' first | with_reducible refine And.intro ?_ ?_ | with_reducible intro _ | with_reducible refine exP ?_ ?_); all_goals try omega
  exact ⟨(t, 0), ⟨hW', hk, h0.symm⟩, entA [(2, some 2)]⟩
theorem xp1e (r : Ro) (A B : List Ln) (fr : Int) (L : List Ft) (i n t k : Nat) (w : Bool) (hil : i < r.shares.length) (hfs : r.shares[i].fr = fr) (hfb : 0 ≤ fr ∧ fr ≤ 1000) (hLl : L.length ≤ 5000) (hAl : A.length ≤ 1000) (hBl : B.length ≤ 1000) (hW : OnW A B fr L n t k w) (hN : NoRep A B n k w) (hn : n < A.length)
    (hk : k < B.length) (h0 : few A[n] B[k] = 0) (hW' : OnW A B fr L (n + 1) t (k + 1) true) (ht : ¬ t < L.length)
    {G : Gh} (hG : G.n = 249) (hOw : G.ow = fun _ => false) (hNm : G.nm = []) {Q : Exit → St → Prop}
    (hskip : ∀ s, OnW A B fr L (n + 1) (t + 1) k false → Ent G s (hxS G.lo r A B L i n (t + 1) k []) → Q (.exit 1) s) :
    SemL Tryz.prog G ((flat (bkOf 1 Tryz.f6.body)).take 8) (hxS G.lo r A B L i n t k [])
      (midQ G (fun x : Nat × Int => hxS G.lo r A B L i n x.1 k [(13, strs 0 A[n]), (14, i64 (fr + n)), (16, i64 x.2)]) (fun x => OnW A B fr L (n + 1) x.1 (k + 1) true ∧ ∃ hk : k < B.length, x.2 = few A[n] B[k]) Q) := by
  have hnA := hW.hi
  have hkB := hW.hk
  have htL := hW.le
  unfold Tryz.f6
  simp only [rgOf, bkOf, rgO, bkO, orElse, Option.bind_some, Option.getD_some, reduceIte, Nat.reduceEqDiff, reduceCtorEq]
  simp only [flat, List.cons_append, List.nil_append, List.append_assoc, List.take_succ_cons, List.take_zero, List.take_nil, List.drop_succ_cons, List.drop_zero]
  have hex : ∀ s, Ent G s (hxS G.lo r A B L i n (t + 1) k []) → OnW A B fr L (n + 1) (t + 1) k false → midQ G (fun x : Nat × Int => hxS G.lo r A B L i n x.1 k [(13, strs 0 A[n]), (14, i64 (fr + n)), (16, i64 x.2)]) (fun x => OnW A B fr L (n + 1) x.1 (k + 1) true ∧ ∃ hk : k < B.length, x.2 = few A[n] B[k]) Q (.exit 1) s := fun s h1 h2 => hskip s h2 h1
  have htI : ¬ (t : Int) < L.length := by omega
  refine vcN_sound 9 _ _ ?_
  simp (config := { maxSteps := 2000000 }) only [go_sem, hG, hOw, htI, hfs, decide_true, decide_false]
  (repeat' first | with_reducible refine And.intro ?_ ?_ | with_reducible intro _ | with_reducible refine exP ?_ ?_); all_goals try omega
  exact ⟨(t, 0), ⟨hW', hk, h0.symm⟩, entA [(2, some 2)]⟩
theorem xp1 (r : Ro) (A B : List Ln) (fr : Int) (L : List Ft) (i n t k : Nat) (w : Bool) (hil : i < r.shares.length) (hfs : r.shares[i].fr = fr) (hfb : 0 ≤ fr ∧ fr ≤ 1000) (hLl : L.length ≤ 5000) (hAl : A.length ≤ 1000) (hBl : B.length ≤ 1000) (hW : OnW A B fr L n t k w) (hN : NoRep A B n k w) (hn : n < A.length)
    {G : Gh} (hG : G.n = 249) (hOw : G.ow = fun _ => false) (hNm : G.nm = []) {Q : Exit → St → Prop}
    (hskip : ∀ s, OnW A B fr L (n + 1) (t + 1) k false → Ent G s (hxS G.lo r A B L i n (t + 1) k []) → Q (.exit 1) s) :
    SemL Tryz.prog G ((flat (bkOf 1 Tryz.f6.body)).take 8) (hxS G.lo r A B L i n t k [])
      (midQ G (fun x : Nat × Int => hxS G.lo r A B L i n x.1 k [(13, strs 0 A[n]), (14, i64 (fr + n)), (16, i64 x.2)]) (fun x => OnW A B fr L (n + 1) x.1 (k + 1) true ∧ ∃ hk : k < B.length, x.2 = few A[n] B[k]) Q) := by
  rcases hW.line hN hn with ⟨⟨ht, hLt⟩, hW'⟩ | ⟨hk, ⟨h0, ⟨ht, hLt⟩, hW'⟩ | ⟨h0, hno, hW'⟩⟩
  · exact xp1a r A B fr L i n t k w hil hfs hfb hLl hAl hBl hW hN hn ht hLt hW' hG hOw hNm hskip
  · exact xp1b r A B fr L i n t k w hil hfs hfb hLl hAl hBl hW hN hn hk h0 ht hLt hW' hG hOw hNm hskip
  · by_cases ht : t < L.length
    · by_cases hline : L[t].line = fr + n
      · exact xp1c r A B fr L i n t k w hil hfs hfb hLl hAl hBl hW hN hn hk h0 hW' ht hline (hno ht hline) hG hOw hNm hskip
      · exact xp1d r A B fr L i n t k w hil hfs hfb hLl hAl hBl hW hN hn hk h0 hW' ht hline hG hOw hNm hskip
    · exact xp1e r A B fr L i n t k w hil hfs hfb hLl hAl hBl hW hN hn hk h0 hW' ht hG hOw hNm hskip
theorem xp2 (r : Ro) (A B : List Ln) (fr : Int) (L : List Ft) (i n t' k : Nat) (far : Int) (hA : ∀ l ∈ A, lineB l = true) (hB : ∀ l ∈ B, lineB l = true) (hfb : 0 ≤ fr ∧ fr ≤ 1000) (hLl : L.length ≤ 5000) (hAl : A.length ≤ 400) (hBl : B.length ≤ 400) (hn : n < A.length) (hW' : OnW A B fr L (n + 1) t' (k + 1) true) (hk : k < B.length) (hfar : far = few A[n] B[k])
    {G : Gh} (hG : G.n = 249) (hOw : G.ow = fun _ => false) (hNm : G.nm = []) {Q : Exit → St → Prop}
    (hend : ∀ s t2 k2, OnW A B fr L (n + 1) t2 k2 true → NoRep A B (n + 1) k2 true → Ent G s (hxS G.lo r A B L i n t2 k2 []) → Q .normal s) :
    SemL Tryz.prog G ((flat (bkOf 1 Tryz.f6.body)).drop 8) (hxS G.lo r A B L i n t' k [(13, strs 0 A[n]), (14, i64 (fr + n)), (16, i64 far)]) Q := by
  have hAp := Apart_ok A[n] B[k] (hA _ (List.getElem_mem hn)) (hB _ (List.getElem_mem hk))
  rw [← hfar] at hAp
  have hkI : ¬ (B.length : Int) ≤ k := by omega
  have ht2 := hW'.le
  refine semL_midN 8 (fun _ : Unit => hxS G.lo r A B L i n t' (k + 1) [(13, strs 0 A[n]), (14, i64 (fr + n))]) (fun _ => True) ?_ ?_
  · unfold Tryz.f6
    simp only [rgOf, bkOf, rgO, bkO, orElse, Option.bind_some, Option.getD_some, reduceIte, Nat.reduceEqDiff, reduceCtorEq]
    simp only [flat, List.cons_append, List.nil_append, List.append_assoc, List.take_succ_cons, List.take_zero, List.take_nil, List.drop_succ_cons, List.drop_zero]
    refine vcN_sound 9 _ _ ?_
    simp (config := { maxSteps := 2000000 }) only [go_sem, hG, hOw, hkI, decide_true, decide_false]
    (repeat' first | with_reducible refine And.intro ?_ ?_ | with_reducible intro _ | with_reducible refine exP ?_ ?_); all_goals try omega
    refine call_pure hAp (.cons (Subs.agg (.cons (sub_one _ _) .nil)) (.cons (Subs.agg (.cons (sub_one _ _) .nil)) .nil)) rfl (by simp [chk, hG]) ?_
    simp only [go_sem, hG, hOw]
    (repeat' first | with_reducible refine And.intro ?_ ?_ | with_reducible intro _ | with_reducible refine exP ?_ ?_); all_goals try omega
    exact ⟨(), entA [(2, some 2)]⟩
  rintro ⟨⟩ -
  refine semL_code (l' := [.block 2 (bkOf 2 Tryz.f6.body)]) (by kernel_rfl) ?_
  refine semL_one ?_
  intro a w hs
  refine wpIn_block ?_
  have h1 := semC_cutN (Q := Q) (i := 2) (fun x : Nat × Nat => hxS G.lo r A B L i n x.1 x.2 []) (fun x => OnW A B fr L (n + 1) x.1 x.2 true ∧ NoRep A B (n + 1) x.2 true)
    (reps r A B fr L i n t' (k + 1) hLl (by omega) (by omega) hn hW' hG hOw hNm (entA [(2, some 2)])) (fun x hx => hend _ x.1 x.2 hx.1 hx.2 (fun a w h => h)) a w hs
  refine wpIn_mono h1 ?_
  rintro e a' w' ⟨s', hq, hs'⟩
  cases e with
  | exit j =>
    by_cases e : j = 2
    · subst e
      exact ⟨s', by simpa [kblk] using hq, hs'⟩
    · simp only [kblk, if_neg e] at hq
      simp only [Exit.inBlock, if_neg e]
      exact ⟨s', hq, hs'⟩
  | _ => exact ⟨s', hq, hs'⟩
end Go.Proofs.YtfnohnjnncjidaaGreatDoor
