import Derived.Test.YtfnohnjnncjidaaGreatDoorQP37
import Derived.Test.YtfnohnjnncjidaaGreatDoorQP48
namespace Go.Proofs.YtfnohnjnncjidaaGreatDoor
open Go Pm
set_option linter.unusedSimpArgs false
set_option linter.unusedVariables false
set_option maxHeartbeats 4000000
set_option maxRecDepth 100000
def readyB (r : Ro) : Bool := !greatR r && decide (roundE r = 0)
theorem ready_good {r : Ro} (h : readyB r = true) : OKr r ∧ Good r := by
  simp only [readyB, Bool.and_eq_true, Bool.not_eq_true', decide_eq_true_eq] at h
  exact ⟨greatR_ok h.1, good_of (greatR_ok h.1) h.2⟩
theorem ready_ok (r : Ro) : Gives Tryz.prog 27 [roE 0 r] (fun _ => bl (readyB r)) := by
  cases hg : greatR r with
  | true =>
    rw [show readyB r = false by simp [readyB, hg]]
    refine pure_intro (ow := fun _ => false) Tryz.func27 Tryz.ntmps27 rfl (by kernel_rfl) (by simp) rfl (by decide) fun G hG hOw hNm hB => ?_; simp only [go_sem, hG, hOw]
    refine call_pure (Great05_ok r) (by first | exact Subs.refl _ | (repeat' (first | exact Subs.nil | exact Sub.refl _ | exact Sub.lo (Nat.zero_le _) | refine Subs.cons ?_ ?_ | refine Subs.agg ?_ | refine Subs.fp ?_ | refine Subs.tup ?_ | refine Sub.map (Nat.zero_le _) (fun _ => ?_)))) (by first | rfl | simp [allP, all0, pureV, pure0, *]) (by simp [chk, hG]) ?_
    simp (config := { maxSteps := 2000000 }) only [go_sem, hG, hOw, hg]
    try (repeat' (first | (with_reducible refine And.intro ?_ ?_) | (with_reducible intro _) | (with_reducible refine exP ?_ ?_))); all_goals (try omega)
  | false =>
    rw [show readyB r = decide (roundE r = 0) by simp [readyB, hg]]
    have hr := greatR_ok hg
    refine pure_intro (ow := fun _ => false) Tryz.func27 Tryz.ntmps27 rfl (by kernel_rfl) (by simp) rfl (by decide) fun G hG hOw hNm hB => ?_; simp only [go_sem, hG, hOw]
    refine call_pure (Great05_ok r) (by first | exact Subs.refl _ | (repeat' (first | exact Subs.nil | exact Sub.refl _ | exact Sub.lo (Nat.zero_le _) | refine Subs.cons ?_ ?_ | refine Subs.agg ?_ | refine Subs.fp ?_ | refine Subs.tup ?_ | refine Sub.map (Nat.zero_le _) (fun _ => ?_)))) (by first | rfl | simp [allP, all0, pureV, pure0, *]) (by simp [chk, hG]) ?_
    simp (config := { maxSteps := 2000000 }) only [go_sem, hG, hOw, hg]
    (repeat' (first | (with_reducible refine And.intro ?_ ?_) | (with_reducible intro _) | (with_reducible refine exP ?_ ?_))); all_goals (try omega)
    refine call_pure (CheckR_ok r hr) (by first | exact Subs.refl _ | (repeat' (first | exact Subs.nil | exact Sub.refl _ | exact Sub.lo (Nat.zero_le _) | refine Subs.cons ?_ ?_ | refine Subs.agg ?_ | refine Subs.fp ?_ | refine Subs.tup ?_ | refine Sub.map (Nat.zero_le _) (fun _ => ?_)))) (by first | rfl | simp [allP, all0, pureV, pure0, *]) (by simp [chk, hG]) ?_
    simp only [go_sem, hG, hOw]
    try (repeat' (first | (with_reducible refine And.intro ?_ ?_) | (with_reducible intro _) | (with_reducible refine exP ?_ ?_))); all_goals (try omega)
theorem has_ok (l : List Int) (n : Int) : Gives Tryz.prog 37 [ints 0 l, i64 n] (fun _ => bl (l.any fun x => decide (x = n))) := by
  refine pure_intro (ow := fun _ => false) Tryz.func37 Tryz.ntmps37 rfl (by kernel_rfl) (by simp) rfl (by decide) fun G hG hOw hNm hB => ?_; simp only [go_sem, hG, hOw]
  have hl := bd_lst hB (List.mem_cons_self ..)
  simp only [List.length_map] at hl
  (repeat' (first | (with_reducible refine And.intro ?_ ?_) | (with_reducible intro _) | (with_reducible refine exP ?_ ?_))); all_goals (try omega)
  refine semC_loop (fun k : Nat => St.of [(1, i64 n), (7, ints 0 l), (8, i64 l.length), (9, i64 k)] []) (fun k => k ≤ l.length ∧ (l.take k).all (fun x => !decide (x = n)) = true) (fun k => l.length - k) 0 (by simp) (ent_of0 (by (simp only [go_sem]) <;> simp) hNm) ?_
  rintro k ⟨hk, hall⟩
  refine vc_sound _ _ _ ?_; simp only [go_sem, hG, hOw]
  (repeat' (first | (with_reducible refine And.intro ?_ ?_) | (with_reducible intro _) | (with_reducible refine exP ?_ ?_))); all_goals (try omega)
  · rename_i hlt h1
    have hkl : k < l.length := by omega
    rw [any_true (p := fun x => decide (x = n)) hkl (by simpa using h1)]
  · rename_i hlt h1
    have hkl : k < l.length := by omega
    refine ⟨k + 1, ⟨by omega, ?_⟩, by omega, ent_of0 (by (simp only [go_sem]) <;> simp) hNm⟩
    rw [List.take_add_one, List.getElem?_eq_getElem hkl, List.all_append, hall]
    simpa using h1
  · rename_i hge
    rw [List.take_of_length_le (by omega)] at hall
    rw [any_of_take hall]
end Go.Proofs.YtfnohnjnncjidaaGreatDoor
namespace Go.Proofs.YtfnohnjnncjidaaGreatDoor
open Go Pm
set_option linter.unusedSimpArgs false
set_option linter.unusedVariables false
theorem cov_iff {t d : Nat → Bool} {n : Nat} {p : Nat → Bool} : covB t d n p = true ↔ (∀ i, i < n → t i = true → p i = true) ∧ ∀ i, i + 1 < n → d i = true → p i = true ∨ p (i + 1) = true := by
  unfold covB
  simp only [List.all_eq_true, List.mem_range, Bool.and_eq_true, Bool.or_eq_true, Bool.not_eq_true', Bool.and_eq_false_iff, decide_eq_false_iff_not]
  constructor
  · intro h
    refine ⟨fun i hi ht => ?_, fun i hi hd => ?_⟩
    · rcases (h i hi).1 with h1 | h1
      · rw [ht] at h1; cases h1
      · exact h1
    · rcases (h i (by omega)).2 with (⟨h1 | h1⟩ | h1) | h1
      · omega
      · rw [hd] at h1; cases h1
      · exact .inl h1
      · exact .inr h1
  · rintro ⟨h1, h2⟩ i hi
    refine ⟨?_, ?_⟩
    · cases ht : t i with
      | false => exact .inl rfl
      | true => exact .inr (h1 i hi ht)
    · by_cases hi' : i + 1 < n
      · cases hd : d i with
        | false => exact .inl (.inl (.inr rfl))
        | true => rcases h2 i hi' hd with h | h; exact .inl (.inr h); exact .inr h
      · exact .inl (.inl (.inl hi'))
theorem againP_spec (r : Ro) (he : roundE r = 0) : (∃ s : Nat → Bool, againP r = numsL s r.shares.length ∧ covB (tornI r) (differI r) r.shares.length s = true) ∧ ∀ p, covB (tornI r) (differI r) r.shares.length p = true → beforeB (numsL p r.shares.length) (againP r) = false := by
  have e1 : againP r = againB r (2 ^ r.shares.length) := by
    unfold againP
    rw [if_pos he]
    exact again_eq (tornI r) (differI r) r.shares.length
  obtain ⟨h1, h2⟩ := refF_spec (fun s => covB (tornI r) (differI r) r.shares.length s.testBit) (fun s => numsL s.testBit r.shares.length) (2 ^ r.shares.length)
  have cb : ∀ p, covB (tornI r) (differI r) r.shares.length p = covB (tornI r) (differI r) r.shares.length (numS p r.shares.length).testBit := fun p => covB_congr fun i hi => (numS_bit p _ i hi).symm
  have nb : ∀ p, numsL p r.shares.length = numsL (numS p r.shares.length).testBit r.shares.length := fun p => numsL_congr fun i hi => (numS_bit p _ i hi).symm
  rw [e1]
  unfold againB againF
  cases hb : refF (fun s => covB (tornI r) (differI r) r.shares.length s.testBit) (fun s => numsL s.testBit r.shares.length) (2 ^ r.shares.length) with
  | none =>
    have := h2 hb _ (numS_lt (fun _ => true) r.shares.length)
    change covB _ _ _ (numS (fun _ => true) r.shares.length).testBit = false at this
    rw [← cb] at this
    rw [cov_iff.2 ⟨fun _ _ _ => rfl, fun _ _ _ => .inl rfl⟩] at this
    cases this
  | some b =>
    obtain ⟨⟨j, hj, hc, rfl⟩, h3⟩ := h1 b hb
    refine ⟨⟨j.testBit, rfl, hc⟩, fun p hp => ?_⟩
    rw [cb] at hp
    rw [nb]
    exact h3 _ (numS_lt p _) hp
theorem mem_numsL {p : Nat → Bool} {n : Nat} {x : Int} : x ∈ numsL p n ↔ ∃ i : Nat, i < n ∧ p i = true ∧ x = i := by
  unfold numsL
  simp only [List.mem_map, List.mem_filter, List.mem_range]
  constructor
  · rintro ⟨i, ⟨h1, h2⟩, rfl⟩; exact ⟨i, h1, h2, rfl⟩
  · rintro ⟨i, h1, h2, rfl⟩; exact ⟨i, ⟨h1, h2⟩, rfl⟩
def hasL (l : List Int) (i : Nat) : Bool := l.any fun x => decide (x = (i : Int))
theorem hasL_iff {l : List Int} {i : Nat} : hasL l i = true ↔ (i : Int) ∈ l := by
  unfold hasL
  simp
theorem hasL_nums {p : Nat → Bool} {n i : Nat} (h : i < n) : hasL (numsL p n) i = p i := by
  rw [Bool.eq_iff_iff, hasL_iff, mem_numsL]
  constructor
  · rintro ⟨j, h1, h2, h3⟩
    obtain rfl : i = j := by omega
    exact h2
  · intro h2; exact ⟨i, h, h2, rfl⟩
theorem nums_mono {p q : Nat → Bool} : ∀ (n : Nat), (∀ i, i < n → p i = true → q i = true) → (numsL p n).length ≤ (numsL q n).length
  | 0, _ => Nat.le_refl _
  | n + 1, h => by
    have ih := nums_mono n fun i hi => h i (by omega)
    rw [numsL_succ, numsL_succ]
    by_cases hp : p n = true
    · rw [if_pos hp, if_pos (h n (by omega) hp)]; simp; exact ih
    · rw [if_neg hp]; split <;> simp <;> omega
theorem nums_lt {p q : Nat → Bool} : ∀ (n : Nat), (∀ i, i < n → p i = true → q i = true) → ∀ x, x < n → q x = true → p x = false → (numsL p n).length < (numsL q n).length
  | 0, _, x, hx, _, _ => by omega
  | n + 1, h, x, hx, hq, hp => by
    have hm := nums_mono n fun i hi => h i (by omega)
    rw [numsL_succ, numsL_succ]
    by_cases e : x = n
    · subst e
      rw [if_pos hq, if_neg (by rw [hp]; decide)]
      simp; omega
    · have ih := nums_lt n (fun i hi => h i (by omega)) x (by omega) hq hp
      by_cases hp : p n = true
      · rw [if_pos hp, if_pos (h n (by omega) hp)]; simp; exact ih
      · rw [if_neg hp]; split <;> simp <;> omega
theorem nums_or {p q : Nat → Bool} : ∀ (n : Nat), (numsL (fun i => p i || q i) n).length ≤ (numsL p n).length + (numsL q n).length
  | 0 => Nat.le_refl _
  | n + 1 => by
    have ih := nums_or (p := p) (q := q) n
    rw [numsL_succ, numsL_succ, numsL_succ]
    cases h1 : p n <;> cases h2 : q n <;> simp <;> omega
theorem nums_one (x : Int) : ∀ (n : Nat), (numsL (fun i => decide (x = (i : Int))) n).length ≤ if x < n then 1 else 0
  | 0 => by simp [numsL]
  | n + 1 => by
    have ih := nums_one x n
    rw [numsL_succ]
    by_cases h : x = (n : Int)
    · rw [if_pos (by simpa using h)]
      rw [if_neg (by omega)] at ih
      rw [if_pos (by omega), List.length_append, List.length_singleton]; omega
    · rw [if_neg (by simpa using h)]
      split at ih
      · rw [if_pos (by omega)]; exact ih
      · split <;> omega
theorem nums_any {q : List (Int × Int)} : ∀ (n : Nat), (numsL (fun i => q.any fun p => decide (p.2 = (i : Int))) n).length ≤ q.length := by
  induction q with
  | nil =>
    intro n
    have : numsL (fun i => ([] : List (Int × Int)).any fun p => decide (p.2 = (i : Int))) n = [] := by unfold numsL; simp
    rw [this]; simp
  | cons a q ih =>
    intro n
    have h1 := nums_or (p := fun i => decide (a.2 = (i : Int))) (q := fun i => q.any fun p => decide (p.2 = (i : Int))) n
    have h2 := ih n
    have h3 := nums_one a.2 n
    simp only [List.any_cons, List.length_cons]
    split at h3 <;> omega
theorem nums_split {p q : Nat → Bool} : ∀ (n : Nat), (∀ i, i < n → q i = true → p i = true) → (numsL p n).length = (numsL q n).length + (numsL (fun i => p i && !q i) n).length
  | 0, _ => rfl
  | n + 1, h => by
    have ih := nums_split (p := p) (q := q) n fun i hi => h i (by omega)
    have hn := h n (by omega)
    rw [numsL_succ, numsL_succ, numsL_succ]
    cases h1 : p n <;> cases h2 : q n
    · simp only [Bool.false_and, Bool.false_eq_true, reduceIte]; omega
    · rw [h1] at hn; cases hn h2
    · simp only [Bool.not_false, Bool.and_true, Bool.false_eq_true, reduceIte, List.length_append, List.length_singleton]; omega
    · simp only [Bool.not_true, Bool.and_false, Bool.false_eq_true, reduceIte, List.length_append, List.length_singleton]; omega
structure PrfOK (d : Nat → Bool) (k : Nat) : Prop where
  mem : ∀ p ∈ prf1 d k, ∃ i : Nat, p = ((i : Int), (i : Int) + 1) ∧ i < k ∧ d i = true ∧ p.2 ≤ prf2 d k
  pw : (prf1 d k).Pairwise fun p q => p.2 < q.1
  last : prf2 d k = -1 ∨ ∃ p ∈ prf1 d k, p.2 = prf2 d k
  cov : ∀ i, i < k → d i = true → ∃ p ∈ prf1 d k, p.2 = i ∨ p.2 = i + 1
theorem prf_ok (d : Nat → Bool) : ∀ k, PrfOK d k
  | 0 => ⟨(fun p h => by cases h), .nil, .inl rfl, fun i h => by omega⟩
  | k + 1 => by
    obtain ⟨h1, h2, h3, h4⟩ := prf_ok d k
    have hle := prf2_le d k
    by_cases h : prf2 d k < k ∧ d k = true
    · obtain ⟨e1, e2⟩ := prf_yes h.1 h.2
      refine ⟨?_, ?_, ?_, ?_⟩ <;> rw [e1]
      · rw [e2]
        intro p hp
        rcases List.mem_append.1 hp with hp | hp
        · obtain ⟨i, g1, g2, g3, g4⟩ := h1 p hp
          exact ⟨i, g1, by omega, g3, by omega⟩
        · obtain rfl : p = ((k : Int), (k : Int) + 1) := by simpa using hp
          exact ⟨k, rfl, by omega, h.2, Int.le_refl _⟩
      · rw [List.pairwise_append]
        refine ⟨h2, List.pairwise_singleton _ _, fun p hp q hq => ?_⟩
        obtain rfl : q = ((k : Int), (k : Int) + 1) := by simpa using hq
        obtain ⟨i, g1, g2, g3, g4⟩ := h1 p hp
        show p.2 < (k : Int); omega
      · rw [e2]; exact .inr ⟨_, List.mem_append.2 (.inr (List.mem_singleton.2 rfl)), rfl⟩
      · intro i hi hd
        by_cases e : i = k
        · subst e; exact ⟨_, List.mem_append.2 (.inr (List.mem_singleton.2 rfl)), .inr rfl⟩
        · obtain ⟨p, g1, g2⟩ := h4 i (by omega) hd
          exact ⟨p, List.mem_append.2 (.inl g1), g2⟩
    · obtain ⟨e1, e2⟩ := prf_no (d := d) (k := k) (by rcases Decidable.not_and_iff_or_not.1 h with h | h; exact .inl h; exact .inr (by simpa using h))
      refine ⟨?_, ?_, ?_, ?_⟩ <;> rw [e1]
      · rw [e2]
        intro p hp
        obtain ⟨i, g1, g2, g3, g4⟩ := h1 p hp
        exact ⟨i, g1, by omega, g3, g4⟩
      · exact h2
      · rw [e2]; exact h3
      · intro i hi hd
        by_cases e : i = k
        · subst e
          have h5 : prf2 d i = i := by
            rcases Decidable.not_and_iff_or_not.1 h with h | h
            · omega
            · exact absurd hd h
          rcases h3 with h3 | ⟨p, g1, g2⟩
          · omega
          · exact ⟨p, g1, .inl (by omega)⟩
        · exact h4 i (by omega) hd
theorem prf_least (d s : Nat → Bool) (n : Nat) (hs : ∀ i, i + 1 < n → d i = true → s i = true ∨ s (i + 1) = true) : ∀ k, k + 1 ≤ n ∨ k = 0 → (prf1 d k).length ≤ (numsL s ((prf2 d k + 1).toNat)).length
  | 0, _ => by simp [prf1_zero]
  | k + 1, hk => by
    have ih := prf_least d s n hs k (by omega)
    have hle := prf2_le d k
    by_cases h : prf2 d k < k ∧ d k = true
    · obtain ⟨e1, e2⟩ := prf_yes h.1 h.2
      rw [e1, e2, show ((k : Int) + 1 + 1).toNat = k + 2 by omega, List.length_append, List.length_singleton]
      have h2 : (numsL s ((prf2 d k + 1).toNat)).length ≤ (numsL s k).length := by
        have : ∀ j m, j ≤ m → (numsL s j).length ≤ (numsL s m).length := by
          intro j m hjm
          induction hjm with
          | refl => exact Nat.le_refl _
          | step _ ih => rw [numsL_succ]; split <;> (try rw [List.length_append, List.length_singleton]) <;> omega
        exact this _ _ (by omega)
      rw [numsL_succ s (k + 1), numsL_succ s k]
      rcases hs k (by omega) h.2 with h3 | h3
      · rw [if_pos h3]; split <;> simp <;> omega
      · rw [if_pos h3]; split <;> simp <;> omega
    · obtain ⟨e1, e2⟩ := prf_no (d := d) (k := k) (by rcases Decidable.not_and_iff_or_not.1 h with h | h; exact .inl h; exact .inr (by simpa using h))
      rw [e1, e2]; exact ih
theorem nums_le_of_le (s : Nat → Bool) {j m : Nat} (h : j ≤ m) : (numsL s j).length ≤ (numsL s m).length := by
  induction h with
  | refl => exact Nat.le_refl _
  | step _ ih => rw [numsL_succ]; split <;> (try rw [List.length_append, List.length_singleton]) <;> omega
theorem before_len {l m : List Int} (h : beforeB l m = false) : m.length ≤ l.length := by
  by_cases hlt : l.length < m.length
  · rw [(beforeB_lt hlt).1] at h; cases h
  · omega
theorem differ_torn {r : Ro} {i : Nat} (h : differI r i = true) : tornI r i = false ∧ tornI r (i + 1) = false := by
  unfold differI at h
  split at h
  · rename_i x y a b h1 h2 h3 h4
    unfold differB at h
    simp only [Bool.and_eq_true, Bool.not_eq_true', Bool.or_eq_false_iff] at h
    exact ⟨by simp [tornI, h1, h3, h.1.1.2], by simp [tornI, h2, h4, h.1.2]⟩
  · cases h
theorem proof_len (r : Ro) (he : roundE r = 0) : (tornL r).length + (proofL r).length = (againP r).length := by
  obtain ⟨⟨s, hs1, hs2⟩, hleast⟩ := againP_spec r he
  obtain ⟨n, hn⟩ : ∃ n, n = r.shares.length := ⟨_, rfl⟩
  obtain ⟨hs3, hs4⟩ := cov_iff.1 hs2
  rw [show tornL r = numsL (tornI r) r.shares.length by simp [tornL, he], show proofL r = prf1 (differI r) (r.shares.length - 1) by simp [proofL, he]]
  obtain ⟨p1, p2, p3, p4⟩ := prf_ok (differI r) (r.shares.length - 1)
  refine Nat.le_antisymm ?_ ?_
  · rw [hs1, nums_split (p := s) (q := tornI r) _ hs3]
    have h1 := prf_least (differI r) (fun i => s i && !tornI r i) r.shares.length (fun i hi hd => by
      obtain ⟨g1, g2⟩ := differ_torn hd
      simp only [g1, g2, Bool.not_false, Bool.and_true]
      exact hs4 i hi hd) (r.shares.length - 1) (by omega)
    have h2 := prf2_le (differI r) (r.shares.length - 1)
    have h3 : (numsL (fun i => s i && !tornI r i) ((prf2 (differI r) (r.shares.length - 1) + 1).toNat)).length ≤ (numsL (fun i => s i && !tornI r i) r.shares.length).length := by
      by_cases h0 : r.shares.length = 0
      · rw [h0] at h1 ⊢
        simp only [Nat.zero_sub] at h1 ⊢
        rw [prf2_zero]
        exact Nat.le_refl _
      · exact nums_le_of_le _ (by omega)
    omega
  · have hc : covB (tornI r) (differI r) r.shares.length (fun i => tornI r i || (prf1 (differI r) (r.shares.length - 1)).any fun p => decide (p.2 = (i : Int))) = true := by
      refine cov_iff.2 ⟨fun i hi ht => by simp [ht], fun i hi hd => ?_⟩
      obtain ⟨p, g1, g2⟩ := p4 i (by omega) hd
      rcases g2 with g2 | g2
      · refine .inl ?_
        simp only [Bool.or_eq_true, List.any_eq_true, decide_eq_true_eq]
        exact .inr ⟨p, g1, g2⟩
      · refine .inr ?_
        simp only [Bool.or_eq_true, List.any_eq_true, decide_eq_true_eq]
        exact .inr ⟨p, g1, by omega⟩
    have h1 := before_len (hleast _ hc)
    have h2 := nums_or (p := tornI r) (q := fun i => (prf1 (differI r) (r.shares.length - 1)).any fun p => decide (p.2 = (i : Int))) r.shares.length
    have h3 := nums_any (q := prf1 (differI r) (r.shares.length - 1)) r.shares.length
    omega
def enB (T : List Int) (D : List (Int × Int)) (l : List Int) : Bool := (T.all fun i => l.any fun x => decide (x = i)) && D.all fun p => (l.any fun x => decide (x = p.1)) || l.any fun x => decide (x = p.2)
theorem en_cov (t d : Nat → Bool) (n : Nat) (l : List Int) : enB (numsL t n) (prsL d (n - 1)) l = covB t d n (hasL l) := by
  rw [Bool.eq_iff_iff, cov_iff]
  unfold enB
  rw [Bool.and_eq_true, List.all_eq_true, List.all_eq_true]
  constructor
  · rintro ⟨h1, h2⟩
    refine ⟨fun i hi ht => h1 _ (mem_numsL.2 ⟨i, hi, ht, rfl⟩), fun i hi hd => ?_⟩
    have hm : ((i : Int), (i : Int) + 1) ∈ prsL d (n - 1) := by
      unfold prsL
      exact List.mem_map.2 ⟨i, List.mem_filter.2 ⟨List.mem_range.2 (by omega), hd⟩, rfl⟩
    have := h2 _ hm
    rw [Bool.or_eq_true] at this
    exact this
  · rintro ⟨h1, h2⟩
    refine ⟨fun x hx => ?_, fun p hp => ?_⟩
    · obtain ⟨i, hi, ht, rfl⟩ := mem_numsL.1 hx
      exact h1 i hi ht
    · unfold prsL at hp
      obtain ⟨i, hi, rfl⟩ := List.mem_map.1 hp
      obtain ⟨h3, h4⟩ := List.mem_filter.1 hi
      rw [List.mem_range] at h3
      rw [Bool.or_eq_true]
      exact h2 i (by omega) h4
theorem nums_sorted (p : Nat → Bool) (n : Nat) : (numsL p n).Nodup := by
  unfold numsL
  rw [List.nodup_iff_pairwise_ne, List.pairwise_map]
  exact (List.Pairwise.filter _ List.nodup_range).imp fun h e => h (Int.ofNat.inj e)
theorem again_enough (r : Ro) (he : roundE r = 0) : enB (tornL r) (differL r) (againP r) = true := by
  obtain ⟨⟨s, hs1, hs2⟩, _⟩ := againP_spec r he
  rw [show tornL r = numsL (tornI r) r.shares.length by simp [tornL, he], show differL r = prsL (differI r) (r.shares.length - 1) by simp [differL, he], en_cov, hs1, ← hs2]
  exact covB_congr fun i hi => hasL_nums hi
theorem again_needs (r : Ro) (he : roundE r = 0) (i : Nat) (hi : i < (againP r).length) : enB (tornL r) (differL r) ((againP r).take i ++ (againP r).drop (i + 1)) = false := by
  obtain ⟨⟨s, hs1, hs2⟩, hleast⟩ := againP_spec r he
  rw [show tornL r = numsL (tornI r) r.shares.length by simp [tornL, he], show differL r = prsL (differI r) (r.shares.length - 1) by simp [differL, he], en_cov]
  cases hc : covB (tornI r) (differI r) r.shares.length (hasL ((againP r).take i ++ (againP r).drop (i + 1))) with
  | false => rfl
  | true =>
    have h1 := before_len (hleast _ hc)
    rw [hs1] at hi
    obtain ⟨x, hx1, hx2, hx3⟩ := mem_numsL.1 (List.getElem_mem hi)
    have hnd := nums_sorted s r.shares.length
    have hsplit : (numsL s r.shares.length).take i ++ (numsL s r.shares.length)[i] :: (numsL s r.shares.length).drop (i + 1) = numsL s r.shares.length := by
      rw [← List.drop_eq_getElem_cons hi, List.take_append_drop]
    have h2 := nums_lt (p := hasL ((numsL s r.shares.length).take i ++ (numsL s r.shares.length).drop (i + 1))) (q := s) r.shares.length (fun j hj h => by
      rw [hasL_iff] at h
      have : (j : Int) ∈ numsL s r.shares.length := by
        rw [← hsplit]
        rcases List.mem_append.1 h with h | h
        · exact List.mem_append.2 (.inl h)
        · exact List.mem_append.2 (.inr (List.mem_cons_of_mem _ h))
      obtain ⟨k, _, h4, h5⟩ := mem_numsL.1 this
      obtain rfl : j = k := by omega
      exact h4) x hx1 hx2 (by
      cases hh : hasL ((numsL s r.shares.length).take i ++ (numsL s r.shares.length).drop (i + 1)) x with
      | false => rfl
      | true =>
        rw [hasL_iff, ← hx3] at hh
        rw [← hsplit, List.nodup_append] at hnd
        obtain ⟨_, n2, n3⟩ := hnd
        rcases List.mem_append.1 hh with hh | hh
        · exact absurd rfl (n3 _ hh _ (List.mem_cons_self ..))
        · exact absurd hh (List.nodup_cons.1 n2).1)
    rw [hs1] at h1
    omega
theorem again_first (r : Ro) (he : roundE r = 0) (p : Nat → Bool) (hp : enB (tornL r) (differL r) (numsL p r.shares.length) = true) : beforeB (numsL p r.shares.length) (againP r) = false := by
  obtain ⟨_, hleast⟩ := againP_spec r he
  rw [show tornL r = numsL (tornI r) r.shares.length by simp [tornL, he], show differL r = prsL (differI r) (r.shares.length - 1) by simp [differL, he], en_cov] at hp
  refine hleast p ?_
  rw [← hp]
  exact covB_congr fun i hi => (hasL_nums hi).symm
def onceL (T : List Int) (q : List (Int × Int)) (j : Nat) : List Int := T ++ (q.take j).flatMap fun p => [p.1, p.2]
theorem once_ok (r : Ro) (he : roundE r = 0) (j : Nat) (hj : j < (proofL r).length) : ((differL r).any fun y => decide ((proofL r)[j] = y)) = true ∧ ((onceL (tornL r) (proofL r) j).any fun x => decide (x = (proofL r)[j].1)) = false ∧ ((onceL (tornL r) (proofL r) j).any fun x => decide (x = (proofL r)[j].2)) = false := by
  have e1 : tornL r = numsL (tornI r) r.shares.length := by simp [tornL, he]
  have e2 : differL r = prsL (differI r) (r.shares.length - 1) := by simp [differL, he]
  have e3 : proofL r = prf1 (differI r) (r.shares.length - 1) := by simp [proofL, he]
  obtain ⟨p1, p2, p3, p4⟩ := prf_ok (differI r) (r.shares.length - 1)
  rw [← e3] at p1 p2
  obtain ⟨i, g1, g2, g3, g4⟩ := p1 _ (List.getElem_mem hj)
  obtain ⟨t1, t2⟩ := differ_torn g3
  have hno : ∀ x : Int, x = i ∨ x = (i : Int) + 1 → ((onceL (tornL r) (proofL r) j).any fun y => decide (y = x)) = false := by
    intro x hx
    rw [List.any_eq_false]
    intro y hy
    simp only [decide_eq_true_eq]
    rintro rfl
    unfold onceL at hy
    rcases List.mem_append.1 hy with hy | hy
    · rw [e1] at hy
      obtain ⟨k, k1, k2, k3⟩ := mem_numsL.1 hy
      rcases hx with hx | hx
      · obtain rfl : i = k := by omega
        rw [t1] at k2; cases k2
      · obtain rfl : i + 1 = k := by omega
        rw [t2] at k2; cases k2
    · obtain ⟨p, hp, hy⟩ := List.mem_flatMap.1 hy
      obtain ⟨m, hm, rfl⟩ := List.mem_take_iff_getElem.1 hp
      have := List.pairwise_iff_getElem.1 p2 m j (by omega) hj (by omega)
      obtain ⟨i', g1', _, _, _⟩ := p1 _ (List.getElem_mem (show m < (proofL r).length by omega))
      rw [g1'] at hy this
      rw [g1] at this
      simp at hy this
      omega
  rw [g1]
  refine ⟨?_, hno _ (.inl rfl), hno _ (.inr rfl)⟩
  refine List.any_eq_true.2 ⟨((i : Int), (i : Int) + 1), ?_, by simp⟩
  rw [e2]
  unfold prsL
  exact List.mem_map.2 ⟨i, List.mem_filter.2 ⟨List.mem_range.2 g2, g3⟩, rfl⟩
end Go.Proofs.YtfnohnjnncjidaaGreatDoor
namespace Go.Proofs.YtfnohnjnncjidaaGreatDoor
open Go Pm
set_option linter.unusedSimpArgs false
set_option linter.unusedVariables false
set_option maxHeartbeats 4000000
set_option maxRecDepth 100000
theorem has_tri (l : List Int) (n : Int) (hl : l.length ≤ 1000) : Tri Tryz.prog 37 [.own 0 0 l.length 1, i64 n] [(0, .arr 3 1 (l.map intE))] (fun _ => .ret (bl (l.any fun x => decide (x = n))) [(0, .arr 3 1 (l.map intE))]) := by
  refine tri_intro (fun _ => false) Tryz.func37 Tryz.ntmps37 rfl (by kernel_rfl) (by simp) rfl (by decide) fun G hG hOw hNm => ?_; simp only [go_sem, hG, hOw]
  (repeat' (first | (with_reducible refine And.intro ?_ ?_) | (with_reducible intro _) | (with_reducible refine exP ?_ ?_))); all_goals (try omega)
  refine semC_loop (fun k : Nat => St.of [(1, i64 n), (7, .own 0 0 l.length 1), (8, i64 l.length), (9, i64 k)] [(0, .arr 3 1 (l.map intE))]) (fun k => k ≤ l.length ∧ (l.take k).all (fun x => !decide (x = n)) = true) (fun k => l.length - k) 0 (by simp) (ent_of [(0, some 0)] (by (simp only [go_sem]) <;> simp) (by (simp only [go_sem, entH, entH1, nilArr, obOK]) <;> simp) (by simp [injR, apart]) (by simp [coverR, usH]) (by simp [hNm, lkR, names])) ?_
  rintro k ⟨hk, hall⟩
  refine vc_sound _ _ _ ?_; simp only [go_sem, hG, hOw]
  (repeat' (first | (with_reducible refine And.intro ?_ ?_) | (with_reducible intro _) | (with_reducible refine exP ?_ ?_))); all_goals (try omega)
  · rename_i hlt h1
    have hkl : k < l.length := by omega
    rw [any_true (p := fun x => decide (x = n)) hkl (by simpa using h1)]
    exact ⟨[(0, some 0)], by (simp only [EndT, go_sem, entH, entH1, nilArr, obOK, apart, injR, coverR]) <;> simp⟩
  · rename_i hlt h1
    have hkl : k < l.length := by omega
    refine ⟨k + 1, ⟨by omega, ?_⟩, by omega, ent_of [(0, some 0)] (by (simp only [go_sem]) <;> simp) (by (simp only [go_sem, entH, entH1, nilArr, obOK]) <;> simp) (by simp [injR, apart]) (by simp [coverR, usH]) (by simp [hNm, lkR, names])⟩
    rw [List.take_add_one, List.getElem?_eq_getElem hkl, List.all_append, hall]
    simpa using h1
  · rename_i hge
    rw [List.take_of_length_le (by omega)] at hall
    rw [any_of_take hall]
    exact ⟨[(0, some 0)], by (simp only [EndT, go_sem, entH, entH1, nilArr, obOK, apart, injR, coverR]) <;> simp⟩
theorem enough_ok (T : List Int) (D : List (Int × Int)) (l : List Int) (hT : T.length ≤ 100) (hD : D.length ≤ 100) : Gives Tryz.prog 38 [ints 0 l, .fp [ints 0 T], .fp [prs 0 D]] (fun _ => bl (enB T D l)) := by
  have hf : ∀ k (hk : k < T.length), (l.any fun x => decide (x = T[k])) = false → false = enB T D l := fun k hk h => by
    unfold enB
    rw [List.all_eq_false.2 ⟨_, List.getElem_mem hk, by rw [h]; decide⟩]; rfl
  have hd : ∀ k (hk : k < D.length), (l.any fun x => decide (x = D[k].1)) = false → (l.any fun x => decide (x = D[k].2)) = false → false = enB T D l := fun k hk h h' => by
    unfold enB
    have : (D.all fun p => (l.any fun x => decide (x = p.1)) || l.any fun x => decide (x = p.2)) = false := List.all_eq_false.2 ⟨_, List.getElem_mem hk, by rw [h, h']; decide⟩
    rw [this]; simp
  refine pure_intro (ow := fun _ => false) Tryz.func38 Tryz.ntmps38 rfl (by kernel_rfl) (by simp) rfl (by decide) fun G hG hOw hNm hB => ?_; simp only [go_sem, hG, hOw]
  refine semC_cut (fun _ : Unit => St.of [(0, ints 0 l), (2, .fp [prs 0 D])] []) (fun _ => (T.all fun i => l.any fun x => decide (x = i)) = true) ?_ ?_
  · refine semC_loop (fun k : Nat => St.of [(0, ints 0 l), (2, .fp [prs 0 D]), (9, ints 0 T), (10, i64 T.length), (11, i64 k)] []) (fun k => k ≤ T.length ∧ ((T.take k).all fun i => l.any fun x => decide (x = i)) = true) (fun k => T.length - k) 0 (by simp) (ent_of0 (by (simp only [go_sem]) <;> simp) hNm) ?_
    rintro k ⟨hk, hall⟩
    refine vc_sound _ _ _ ?_; simp only [go_sem, hG, hOw]
    (repeat' (first | (with_reducible refine And.intro ?_ ?_) | (with_reducible intro _) | (with_reducible refine exP ?_ ?_))); all_goals (try omega)
    · rename_i hlt
      have hkl : k < T.length := by omega
      refine call_pure (has_ok l T[k]) (by first | exact Subs.refl _ | (repeat' (first | exact Subs.nil | exact Sub.refl _ | exact Sub.lo (Nat.zero_le _) | refine Subs.cons ?_ ?_ | refine Subs.agg ?_ | refine Subs.fp ?_ | refine Subs.tup ?_ | refine Sub.map (Nat.zero_le _) (fun _ => ?_)))) (by first | rfl | simp [allP, all0, pureV, pure0, *]) (by simp [chk, hG]) ?_
      simp only [go_sem, hG, hOw]
      (repeat' (first | (with_reducible refine And.intro ?_ ?_) | (with_reducible intro _) | (with_reducible refine exP ?_ ?_))); all_goals (try omega)
      · rename_i h; exact hf k hkl h
      · rename_i h
        refine ⟨k + 1, ⟨by omega, ?_⟩, by omega, ent_of0 (by (simp only [go_sem]) <;> simp) hNm⟩
        rw [List.take_add_one, List.getElem?_eq_getElem hkl, List.all_append, hall]
        simpa using h
    · rename_i hge
      rw [List.take_of_length_le (by omega)] at hall
      exact ⟨(), hall, ent_of0 (by (simp only [go_sem]) <;> simp) hNm⟩
  rintro ⟨⟩ hTa
  simp only [go_sem, hG, hOw]
  refine semC_loop (fun k : Nat => St.of [(0, ints 0 l), (20, prs 0 D), (21, i64 D.length), (22, i64 k)] []) (fun k => k ≤ D.length ∧ ((D.take k).all fun p => (l.any fun x => decide (x = p.1)) || l.any fun x => decide (x = p.2)) = true) (fun k => D.length - k) 0 (by simp) (ent_of0 (by (simp only [go_sem]) <;> simp) hNm) ?_
  rintro k ⟨hk, hall⟩
  refine vc_sound _ _ _ ?_; simp only [go_sem, hG, hOw]
  (repeat' (first | (with_reducible refine And.intro ?_ ?_) | (with_reducible intro _) | (with_reducible refine exP ?_ ?_))); all_goals (try omega)
  · rename_i hlt
    have hkl : k < D.length := by omega
    have go : ((l.any fun x => decide (x = D[k].1)) || l.any fun x => decide (x = D[k].2)) = true → ((D.take (k + 1)).all fun p => (l.any fun x => decide (x = p.1)) || l.any fun x => decide (x = p.2)) = true := fun h => by
      rw [List.take_add_one, List.getElem?_eq_getElem hkl, List.all_append, hall]
      simpa using h
    refine call_pure (has_ok l D[k].1) (by first | exact Subs.refl _ | (repeat' (first | exact Subs.nil | exact Sub.refl _ | exact Sub.lo (Nat.zero_le _) | refine Subs.cons ?_ ?_ | refine Subs.agg ?_ | refine Subs.fp ?_ | refine Subs.tup ?_ | refine Sub.map (Nat.zero_le _) (fun _ => ?_)))) (by first | rfl | simp [allP, all0, pureV, pure0, *]) (by simp [chk, hG]) ?_
    simp only [go_sem, hG, hOw]
    (repeat' (first | (with_reducible refine And.intro ?_ ?_) | (with_reducible intro _) | (with_reducible refine exP ?_ ?_))); all_goals (try omega)
    · rename_i h1
      refine call_pure (has_ok l D[k].2) (by first | exact Subs.refl _ | (repeat' (first | exact Subs.nil | exact Sub.refl _ | exact Sub.lo (Nat.zero_le _) | refine Subs.cons ?_ ?_ | refine Subs.agg ?_ | refine Subs.fp ?_ | refine Subs.tup ?_ | refine Sub.map (Nat.zero_le _) (fun _ => ?_)))) (by first | rfl | simp [allP, all0, pureV, pure0, *]) (by simp [chk, hG]) ?_
      simp only [go_sem, hG, hOw]
      (repeat' (first | (with_reducible refine And.intro ?_ ?_) | (with_reducible intro _) | (with_reducible refine exP ?_ ?_))); all_goals (try omega)
      · rename_i h2; exact hd k hkl h1 h2
      · rename_i h2
        exact ⟨k + 1, ⟨by omega, go (by rw [h2]; simp)⟩, by omega, ent_of0 (by (simp only [go_sem]) <;> simp) hNm⟩
    · rename_i h1
      exact ⟨k + 1, ⟨by omega, go (by rw [h1]; rfl)⟩, by omega, ent_of0 (by (simp only [go_sem]) <;> simp) hNm⟩
  · rename_i hge
    rw [List.take_of_length_le (by omega)] at hall
    unfold enB
    rw [hTa, hall]; rfl
end Go.Proofs.YtfnohnjnncjidaaGreatDoor
namespace Go.Proofs.YtfnohnjnncjidaaGreatDoor
open Go Pm
set_option linter.unusedSimpArgs false
set_option linter.unusedVariables false
set_option maxHeartbeats 4000000
set_option maxRecDepth 100000
theorem onceL_succ (T : List Int) (q : List (Int × Int)) (j : Nat) (hj : j < q.length) : onceL T q (j + 1) = onceL T q j ++ [q[j].1, q[j].2] := by
  unfold onceL
  rw [List.take_add_one, List.getElem?_eq_getElem hj, List.flatMap_append]
  simp
theorem onceL_len (T : List Int) (q : List (Int × Int)) (j : Nat) (hj : j ≤ q.length) : (onceL T q j).length = T.length + 2 * j := by
  unfold onceL
  rw [List.length_append]
  congr 1
  induction j with
  | zero => simp
  | succ j ih =>
    rw [List.take_add_one, List.getElem?_eq_getElem (by omega), List.flatMap_append, List.length_append, ih (by omega)]
    simp; omega
theorem HandProof_ok (r : Ro) (b : Nat) (hb : b < 256) : Gives Tryz.prog 5 [roE 0 r, .v (.int .u8 b)] (fun _ => bl true) := by
  cases hrd : readyB r with
  | false =>
    refine pure_intro (ow := fun _ => false) Tryz.func5 Tryz.ntmps5 rfl (by kernel_rfl) (by simp) rfl (by decide) fun G hG hOw hNm hB => ?_; simp only [go_sem, hG, hOw]
    refine call_pure alive_ok (Subs.refl _) rfl (by simp [chk, hG]) ?_
    simp only [go_sem, hG, hOw]
    refine call_pure (ready_ok r) (by first | exact Subs.refl _ | (repeat' (first | exact Subs.nil | exact Sub.refl _ | exact Sub.lo (Nat.zero_le _) | refine Subs.cons ?_ ?_ | refine Subs.agg ?_ | refine Subs.fp ?_ | refine Subs.tup ?_ | refine Sub.map (Nat.zero_le _) (fun _ => ?_)))) (by first | rfl | simp [allP, all0, pureV, pure0, *]) (by simp [chk, hG]) ?_
    simp (config := { maxSteps := 2000000 }) only [go_sem, hG, hOw, hrd]
    try (repeat' (first | (with_reducible refine And.intro ?_ ?_) | (with_reducible intro _) | (with_reducible refine exP ?_ ?_))); all_goals (try omega)
  | true =>
    obtain ⟨hr, hg⟩ := ready_good hrd
    have he := hg.e
    have hsn := hg.sn
    obtain ⟨T, hT⟩ : ∃ T, T = tornL r := ⟨_, rfl⟩
    obtain ⟨D, hD⟩ : ∃ D, D = differL r := ⟨_, rfl⟩
    obtain ⟨A, hA⟩ : ∃ A, A = againP r := ⟨_, rfl⟩
    obtain ⟨q, hq⟩ : ∃ q, q = proofL r := ⟨_, rfl⟩
    have hlen := proof_len r he
    have honce := once_ok r he
    have c1 := HTorn_ok r hr
    have c2 := HDiffer_ok r hr
    have c3 := HAgain_ok r hr
    have c4 := HProof_ok r hr
    rw [← hT, ← hA, ← hq] at hlen
    rw [← hT, ← hq, ← hD] at honce
    rw [he, ← hT] at c1
    rw [he, ← hD] at c2
    rw [he, ← hA] at c3
    rw [he, ← hT, ← hq] at c4
    have henough : enB T D A = true := by rw [hT, hD, hA]; exact again_enough r he
    have hneed : ∀ i, i < A.length → enB T D (A.take i ++ A.drop (i + 1)) = false := by rw [hT, hD, hA]; exact again_needs r he
    have hfirst : enB T D (numsL (fun i => b.testBit i) r.shares.length) = true → beforeB (numsL (fun i => b.testBit i) r.shares.length) A = false := by rw [hT, hD, hA]; exact again_first r he _
    have hTl : T.length ≤ 8 := by rw [hT]; simp only [tornL, he, reduceIte]; have := numsL_le (tornI r) r.shares.length; omega
    have hDl : D.length ≤ 8 := by rw [hD]; simp only [differL, he, reduceIte]; have := prsL_le (differI r) (r.shares.length - 1); omega
    have hql : q.length ≤ 8 := by rw [hq]; simp only [proofL, he, reduceIte]; have := prf1_le (differI r) (r.shares.length - 1); omega
    refine pure_intro (ow := fun i => [85,152,161].contains i) Tryz.func5 Tryz.ntmps5 rfl (by kernel_rfl) (by simp) rfl (by decide) fun G hG hOw hNm hB => ?_; simp only [go_sem, hG, hOw]
    refine call_pure alive_ok (Subs.refl _) rfl (by simp [chk, hG]) ?_
    simp only [go_sem, hG, hOw]
    refine call_pure (ready_ok r) (by first | exact Subs.refl _ | (repeat' (first | exact Subs.nil | exact Sub.refl _ | exact Sub.lo (Nat.zero_le _) | refine Subs.cons ?_ ?_ | refine Subs.agg ?_ | refine Subs.fp ?_ | refine Subs.tup ?_ | refine Sub.map (Nat.zero_le _) (fun _ => ?_)))) (by first | rfl | simp [allP, all0, pureV, pure0, *]) (by simp [chk, hG]) ?_
    simp (config := { maxSteps := 2000000 }) only [go_sem, hG, hOw, hrd]
    refine call_pure c1 (by first | exact Subs.refl _ | (repeat' (first | exact Subs.nil | exact Sub.refl _ | exact Sub.lo (Nat.zero_le _) | refine Subs.cons ?_ ?_ | refine Subs.agg ?_ | refine Subs.fp ?_ | refine Subs.tup ?_ | refine Sub.map (Nat.zero_le _) (fun _ => ?_)))) (by first | rfl | simp [allP, all0, pureV, pure0, *]) (by simp [chk, hG]) ?_
    simp only [go_sem, hG, hOw]
    refine call_pure c2 (by first | exact Subs.refl _ | (repeat' (first | exact Subs.nil | exact Sub.refl _ | exact Sub.lo (Nat.zero_le _) | refine Subs.cons ?_ ?_ | refine Subs.agg ?_ | refine Subs.fp ?_ | refine Subs.tup ?_ | refine Sub.map (Nat.zero_le _) (fun _ => ?_)))) (by first | rfl | simp [allP, all0, pureV, pure0, *]) (by simp [chk, hG]) ?_
    simp only [go_sem, hG, hOw]
    refine call_pure c3 (by first | exact Subs.refl _ | (repeat' (first | exact Subs.nil | exact Sub.refl _ | exact Sub.lo (Nat.zero_le _) | refine Subs.cons ?_ ?_ | refine Subs.agg ?_ | refine Subs.fp ?_ | refine Subs.tup ?_ | refine Sub.map (Nat.zero_le _) (fun _ => ?_)))) (by first | rfl | simp [allP, all0, pureV, pure0, *]) (by simp [chk, hG]) ?_
    simp only [go_sem, hG, hOw]
    refine call_pure c4 (by first | exact Subs.refl _ | (repeat' (first | exact Subs.nil | exact Sub.refl _ | exact Sub.lo (Nat.zero_le _) | refine Subs.cons ?_ ?_ | refine Subs.agg ?_ | refine Subs.fp ?_ | refine Subs.tup ?_ | refine Sub.map (Nat.zero_le _) (fun _ => ?_)))) (by first | rfl | simp [allP, all0, pureV, pure0, *]) (by simp [chk, hG]) ?_
    simp only [go_sem, hG, hOw]
    (repeat' (first | (with_reducible refine And.intro ?_ ?_) | (with_reducible intro _) | (with_reducible refine exP ?_ ?_))); all_goals (try omega)
    refine call_pure (SameInts_ok T T) (by first | exact Subs.refl _ | (repeat' (first | exact Subs.nil | exact Sub.refl _ | exact Sub.lo (Nat.zero_le _) | refine Subs.cons ?_ ?_ | refine Subs.agg ?_ | refine Subs.fp ?_ | refine Subs.tup ?_ | refine Sub.map (Nat.zero_le _) (fun _ => ?_)))) (by first | rfl | simp [allP, all0, pureV, pure0, *]) (by simp [chk, hG]) ?_
    simp (config := { maxSteps := 2000000 }) only [go_sem, hG, hOw, decide_eq_true rfl]
    (repeat' (first | (with_reducible refine And.intro ?_ ?_) | (with_reducible intro _) | (with_reducible refine exP ?_ ?_))); all_goals (try omega)
    have nL := fun k => numsL_le (fun i => b.testBit i) k
    have sT : Pm.Sub (.fp [ints G.lo T]) (.fp [ints 0 T]) := Subs.fp (.cons (.lo (Nat.zero_le _)) .nil)
    have sD : Pm.Sub (.fp [prs G.lo D]) (.fp [prs 0 D]) := Subs.fp (.cons (.lo (Nat.zero_le _)) .nil)
    refine semC_cut (fun _ : Unit => St.of [(1, .v (.int .u8 b)), (2, .ptr 2 0), (5, bl true), (6, .ptr 6 0), (8, .ptr 8 0), (10, ints G.lo A)] [(2, .box (roC 0 r)), (6, .box [ints G.lo T]), (8, .box [prs G.lo D])]) (fun _ => True) ?_ ?_
    · refine semC_loop (fun k : Nat => St.of [(1, .v (.int .u8 b)), (2, .ptr 2 0), (5, bl true), (6, .ptr 6 0), (8, .ptr 8 0), (10, ints G.lo A), (15, .own 99 0 (onceL T q k).length 1), (88, prs G.lo q), (89, i64 q.length), (90, i64 k)] [(2, .box (roC 0 r)), (6, .box [ints G.lo T]), (8, .box [prs G.lo D]), (99, .arr 3 1 ((onceL T q k).map intE))]) (fun k => k ≤ q.length) (fun k => q.length - k) 0 (by simp) (ent_of [(2, some 2), (6, some 6), (8, some 8), (99, some 87)] (by (simp only [go_sem]) <;> simp [onceL]) (by (simp only [go_sem, entH, entH1, nilArr, obOK]) <;> simp [onceL]) (by simp [injR, apart]) (by simp [coverR, usH]) (by simp [hNm, lkR, names])) ?_
      rintro k hk
      have hol := onceL_len T q k hk
      refine vc_sound _ _ _ ?_; simp only [go_sem, hG, hOw]
      (repeat' (first | (with_reducible refine And.intro ?_ ?_) | (with_reducible intro _) | (with_reducible refine exP ?_ ?_))); all_goals (try omega)
      · rename_i hlt
        have hkl : k < q.length := by omega
        obtain ⟨o1, o2, o3⟩ := honce k hkl
        refine semC_cut (fun _ : Unit => St.of [(1, .v (.int .u8 b)), (2, .ptr 2 0), (5, bl true), (6, .ptr 6 0), (8, .ptr 8 0), (10, ints G.lo A), (15, .own 99 0 (onceL T q k).length 1), (17, .ptr 17 0), (18, bl true), (88, prs G.lo q), (89, i64 q.length), (90, i64 k)] [(2, .box (roC 0 r)), (6, .box [ints G.lo T]), (8, .box [prs G.lo D]), (17, .box (prE q[k])), (99, .arr 3 1 ((onceL T q k).map intE))]) (fun _ => True) ?_ ?_
        · refine semC_loop (fun j : Nat => St.of [(1, .v (.int .u8 b)), (2, .ptr 2 0), (5, bl true), (6, .ptr 6 0), (8, .ptr 8 0), (10, ints G.lo A), (15, .own 99 0 (onceL T q k).length 1), (17, .ptr 17 0), (18, bl ((D.take j).any fun y => decide (q[k] = y))), (88, prs G.lo q), (89, i64 q.length), (90, i64 k), (94, prs G.lo D), (95, i64 D.length), (96, i64 j)] [(2, .box (roC 0 r)), (6, .box [ints G.lo T]), (8, .box [prs G.lo D]), (17, .box (prE q[k])), (99, .arr 3 1 ((onceL T q k).map intE))]) (fun j => j ≤ D.length) (fun j => D.length - j) 0 (by simp) (ent_of [(2, some 2), (6, some 6), (8, some 8), (17, some 17), (99, some 99)] (by (simp only [go_sem]) <;> simp) (by (simp only [go_sem, entH, entH1, nilArr, obOK]) <;> simp) (by simp [injR, apart]) (by simp [coverR, usH]) (by simp [hNm, lkR, names])) ?_
          rintro j hj
          refine vc_sound _ _ _ ?_; simp only [go_sem, hG, hOw]
          (repeat' (first | (with_reducible refine And.intro ?_ ?_) | (with_reducible intro _) | (with_reducible refine exP ?_ ?_))); all_goals (try omega)
          · rename_i hlt h1
            have hjl : j < D.length := by omega
            have e := any_take_succ (p := fun y => decide (q[k] = y)) hjl
            rw [h1, Bool.false_or, show decide (q[k] = D[j]) = (decide (q[k].1 = D[j].1) && decide (q[k].2 = D[j].2)) from (by simp only [Prod.ext_iff]; exact Bool.decide_and ..)] at e
            refine ⟨j + 1, by omega, by omega, ?_⟩
            rw [e]
            exact ent_of [(2, some 2), (6, some 6), (8, some 8), (17, some 17), (99, some 99)] (by (simp only [go_sem]) <;> simp) (by (simp only [go_sem, entH, entH1, nilArr, obOK]) <;> simp) (by simp [injR, apart]) (by simp [coverR, usH]) (by simp [hNm, lkR, names])
          · rename_i hlt h1
            have hjl : j < D.length := by omega
            have e := any_take_succ (p := fun y => decide (q[k] = y)) hjl
            rw [h1, Bool.true_or] at e
            refine ⟨j + 1, by omega, by omega, ?_⟩
            rw [e]
            exact ent_of [(2, some 2), (6, some 6), (8, some 8), (17, some 17), (99, some 99)] (by (simp only [go_sem]) <;> simp) (by (simp only [go_sem, entH, entH1, nilArr, obOK]) <;> simp) (by simp [injR, apart]) (by simp [coverR, usH]) (by simp [hNm, lkR, names])
          · rename_i hge
            have e : D.take j = D := List.take_of_length_le (by omega)
            rw [e, o1]
            exact ⟨(), ent_of [(2, some 2), (6, some 6), (8, some 8), (17, some 17), (99, some 99)] (by (simp only [go_sem]) <;> simp) (by (simp only [go_sem, entH, entH1, nilArr, obOK]) <;> simp) (by simp [injR, apart]) (by simp [coverR, usH]) (by simp [hNm, lkR, names])⟩
        rintro ⟨⟩ -
        have i1 : Int.toNat 1 = 1 := rfl
        simp (config := { maxSteps := 2000000 }) only [go_sem, hG, hOw, i1]
        (repeat' (first | (with_reducible refine And.intro ?_ ?_) | (with_reducible intro _) | (with_reducible refine exP ?_ ?_))); all_goals (try omega)
        refine call_tri [(0, 99)] [] (has_tri (onceL T q k) q[k].1 (by omega)) (by (simp only [go_sem]) <;> simp) (by (simp only [go_sem, entH, entH1, nilArr, obOK]) <;> simp) (by simp [injR, apart, toR]) (by simp [coverR, usH, toR]) (by simp [uniqP, lkR, toR]) (by simp [chk, hG]) ?_
        simp (config := { maxSteps := 2000000 }) only [go_sem, hG, hOw, o2, i1]
        (repeat' (first | (with_reducible refine And.intro ?_ ?_) | (with_reducible intro _) | (with_reducible refine exP ?_ ?_))); all_goals (try omega)
        refine call_tri [(0, 99)] [] (has_tri (onceL T q k) q[k].2 (by omega)) (by (simp only [go_sem]) <;> simp) (by (simp only [go_sem, entH, entH1, nilArr, obOK]) <;> simp) (by simp [injR, apart, toR]) (by simp [coverR, usH, toR]) (by simp [uniqP, lkR, toR]) (by simp [chk, hG]) ?_
        simp (config := { maxSteps := 2000000 }) only [go_sem, hG, hOw, o3, i1]
        (repeat' (first | (with_reducible refine And.intro ?_ ?_) | (with_reducible intro _) | (with_reducible refine exP ?_ ?_))); all_goals (try omega)
        have e := onceL_succ T q k hkl
        refine ⟨k + 1, by omega, by omega, ?_⟩
        rw [e]
        exact ent_of [(2, some 2), (6, some 6), (8, some 8), (99, some 127)] (by (simp only [go_sem]) <;> simp [intE,i64]) (by (simp only [go_sem, entH, entH1, nilArr, obOK]) <;> simp [intE,i64]) (by simp [injR, apart]) (by simp [coverR, usH]) (by simp [hNm, lkR, names])
      · rename_i hge
        exact ⟨(), ent_of [(2, some 2), (6, some 6), (8, some 8)] (by (simp only [go_sem]) <;> simp) (by (simp only [go_sem, entH, entH1, nilArr, obOK]) <;> simp) (by simp [injR, apart]) (by simp [coverR, usH]) (by simp [hNm, lkR, names])⟩
    rintro ⟨⟩ -
    simp only [go_sem, hG, hOw]
    (repeat' (first | (with_reducible refine And.intro ?_ ?_) | (with_reducible intro _) | (with_reducible refine exP ?_ ?_))); all_goals (try omega)
    refine semC_cut (fun _ : Unit => St.of [(5, bl true), (10, ints G.lo A), (21, .fn (.func 38) [.fp [ints G.lo T], .fp [prs G.lo D]]), (22, ints G.lo (numsL (fun i => b.testBit i) r.shares.length))] []) (fun _ => True) ?_ ?_
    · refine semC_loop (fun k : Nat => St.of [(1, .v (.int .u8 b)), (2, .ptr 2 0), (5, bl true), (6, .ptr 6 0), (8, .ptr 8 0), (10, ints G.lo A), (21, .fn (.func 38) [.ptr 6 0, .ptr 8 0]), (22, .own 99 0 (numsL (fun i => b.testBit i) k).length 1), (132, i64 r.shares.length), (133, i64 k)] [(2, .box (roC 0 r)), (6, .box [ints G.lo T]), (8, .box [prs G.lo D]), (99, .arr 3 1 ((numsL (fun i => b.testBit i) k).map intE))]) (fun k => k ≤ r.shares.length) (fun k => r.shares.length - k) 0 (by simp) (ent_of [(2, some 2), (6, some 6), (8, some 8), (99, none)] (by (simp only [go_sem]) <;> simp [numsL]) (by (simp only [go_sem, entH, entH1, nilArr, obOK]) <;> simp [numsL]) (by simp [injR, apart]) (by simp [coverR, usH]) (by simp [hNm, lkR, names])) ?_
      rintro k hk
      have hle := nL k
      have hbt := bit1 b k
      have hq0 : (0 : Int) ≤ (b : Int) / 2 ^ k := Int.ediv_nonneg (by omega) (Int.pow_nonneg (by decide))
      have hq2 : (b : Int) / 2 ^ k ≤ b := Int.ediv_le_self _ (by omega)
      refine vc_sound _ _ _ ?_
      simp (config := { maxSteps := 2000000 }) only [go_sem, hG, hOw, hbt]
      (repeat' (first | (with_reducible refine And.intro ?_ ?_) | (with_reducible intro _) | (with_reducible refine exP ?_ ?_))); all_goals (try omega)
      · rename_i h1 h2
        have e1 := numsL_succ (fun i => b.testBit i) k
        have hb2 : b.testBit k = true := by
          by_cases h : b.testBit k = true
          · exact h
          · simp [h] at h2
        rw [if_pos hb2] at e1
        refine ⟨k + 1, by omega, by omega, ?_⟩
        rw [e1]
        exact ent_of [(2, some 2), (6, some 6), (8, some 8), (99, some 144)] (by (simp only [go_sem]) <;> simp [intE,i64]) (by (simp only [go_sem, entH, entH1, nilArr, obOK]) <;> simp [intE,i64]) (by simp [injR, apart]) (by simp [coverR, usH]) (by simp [hNm, lkR, names])
      · rename_i h1 h2
        have e1 := numsL_succ (fun i => b.testBit i) k
        have hb2 : ¬ b.testBit k = true := by
          intro h
          simp [h] at h2
        rw [if_neg hb2] at e1
        refine ⟨k + 1, by omega, by omega, ?_⟩
        rw [e1]
        exact ent_of [(2, some 2), (6, some 6), (8, some 8), (99, some 99)] (by (simp only [go_sem]) <;> simp) (by (simp only [go_sem, entH, entH1, nilArr, obOK]) <;> simp) (by simp [injR, apart]) (by simp [coverR, usH]) (by simp [hNm, lkR, names])
      · rename_i hge
        obtain rfl : k = r.shares.length := by omega
        refine ⟨(), ent_frz (fun i => [6, 8, 99].contains i) ?_⟩
        exact ent_of [] (by (simp only [go_sem]) <;> simp [sT,sD]) (by (simp only [go_sem, entH, entH1, nilArr, obOK]) <;> simp [sT,sD]) (by simp [injR, apart]) (by simp [coverR, usH]) (by simp [hNm, lkR, names])
    rintro ⟨⟩ -
    simp only [go_sem, hG, hOw]
    (repeat' (first | (with_reducible refine And.intro ?_ ?_) | (with_reducible intro _) | (with_reducible refine exP ?_ ?_))); all_goals (try omega)
    refine semC_cut (fun _ : Unit => St.of [(5, bl true), (10, ints G.lo A), (21, .fn (.func 38) [.fp [ints G.lo T], .fp [prs G.lo D]]), (22, ints G.lo (numsL (fun i => b.testBit i) r.shares.length))] []) (fun _ => True) ?_ ?_
    · refine semC_loop (fun k : Nat => St.of [(5, bl true), (10, ints G.lo A), (21, .fn (.func 38) [.fp [ints G.lo T], .fp [prs G.lo D]]), (22, ints G.lo (numsL (fun i => b.testBit i) r.shares.length)), (147, i64 A.length), (148, i64 k)] []) (fun k => k ≤ A.length) (fun k => A.length - k) 0 (by simp) (ent_of0 (by (simp only [go_sem]) <;> simp) hNm) ?_
      rintro k hk
      refine vc_sound _ _ _ ?_; simp only [go_sem, hG, hOw]
      (repeat' (first | (with_reducible refine And.intro ?_ ?_) | (with_reducible intro _) | (with_reducible refine exP ?_ ?_))); all_goals (try omega)
      · rename_i hlt
        have hkl : k < A.length := by omega
        refine semC_draw0 mixed (by kernel_rfl) ?_
        simp only [go_sem, hG, hOw]
        (repeat' (first | (with_reducible refine And.intro ?_ ?_) | (with_reducible intro _) | (with_reducible refine exP ?_ ?_))); all_goals (try omega)
        have hen := enough_ok T D (A.take k ++ A.drop (k + 1)) (by omega) (by omega)
        rw [hneed k hkl] at hen
        refine ⟨_, callGives hen (.cons (by rw [show ((k : Int) + 1).toNat = k + 1 by omega]; exact .lo (Nat.zero_le _)) (.cons sT (.cons sD .nil))) rfl, ?_⟩
        simp only [go_sem, hG, hOw]
        (repeat' (first | (with_reducible refine And.intro ?_ ?_) | (with_reducible intro _) | (with_reducible refine exP ?_ ?_))); all_goals (try omega)
        exact ⟨k + 1, by omega, by omega, ent_of [] (by (simp only [go_sem]) <;> simp) (by (simp only [go_sem, entH, entH1, nilArr, obOK]) <;> simp) (by simp [injR, apart]) (by simp [coverR, usH]) (by simp [hNm, lkR, names])⟩
      · rename_i hge
        exact ⟨(), ent_of [] (by (simp only [go_sem]) <;> simp) (by (simp only [go_sem, entH, entH1, nilArr, obOK]) <;> simp) (by simp [injR, apart]) (by simp [coverR, usH]) (by simp [hNm, lkR, names])⟩
    rintro ⟨⟩ -
    simp only [go_sem, hG, hOw]
    (repeat' (first | (with_reducible refine And.intro ?_ ?_) | (with_reducible intro _) | (with_reducible refine exP ?_ ?_))); all_goals (try omega)
    have hen := enough_ok T D A (by omega) (by omega)
    rw [henough] at hen
    refine call_pure hen (.cons (.lo (Nat.zero_le _)) (.cons sT (.cons sD .nil))) rfl (by simp [chk, hG]) ?_
    simp only [go_sem, hG, hOw]
    (repeat' (first | (with_reducible refine And.intro ?_ ?_) | (with_reducible intro _) | (with_reducible refine exP ?_ ?_))); all_goals (try omega)
    have hen2 := enough_ok T D (numsL (fun i => b.testBit i) r.shares.length) (by omega) (by omega)
    cases hot : enB T D (numsL (fun i => b.testBit i) r.shares.length) with
    | false =>
      rw [hot] at hen2
      refine call_pure hen2 (.cons (.lo (Nat.zero_le _)) (.cons sT (.cons sD .nil))) rfl (by simp [chk, hG]) ?_
      simp only [go_sem, hG, hOw]
      try (repeat' (first | (with_reducible refine And.intro ?_ ?_) | (with_reducible intro _) | (with_reducible refine exP ?_ ?_))); all_goals (try omega)
    | true =>
      rw [hot] at hen2
      have hbf := Before_ok (numsL (fun i => b.testBit i) r.shares.length) A
      rw [hfirst hot] at hbf
      refine call_pure hen2 (.cons (.lo (Nat.zero_le _)) (.cons sT (.cons sD .nil))) rfl (by simp [chk, hG]) ?_
      simp only [go_sem, hG, hOw]
      (repeat' (first | (with_reducible refine And.intro ?_ ?_) | (with_reducible intro _) | (with_reducible refine exP ?_ ?_))); all_goals (try omega)
      refine call_pure hbf (.cons (.lo (Nat.zero_le _)) (.cons (.lo (Nat.zero_le _)) .nil)) rfl (by simp [chk, hG]) ?_
      simp only [go_sem, hG, hOw]
      try (repeat' (first | (with_reducible refine And.intro ?_ ?_) | (with_reducible intro _) | (with_reducible refine exP ?_ ?_))); all_goals (try omega)
end Go.Proofs.YtfnohnjnncjidaaGreatDoor
