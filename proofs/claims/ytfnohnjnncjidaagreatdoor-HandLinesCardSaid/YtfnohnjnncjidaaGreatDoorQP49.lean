import Derived.Test.YtfnohnjnncjidaaGreatDoorQP47
namespace Go.Proofs.YtfnohnjnncjidaaGreatDoor
open Go Pm
set_option linter.unusedSimpArgs false
set_option linter.unusedVariables false
theorem cov_iff {t d : Nat → Bool} {n : Nat} {p : Nat → Bool} : covB t d n p = true ↔ (∀ i, i < n → t i = true → p i = true) ∧ ∀ i, i + 1 < n → d i = true → p i = true ∨ p (i + 1) = true := by
  unfold covB
  simp only [List.all_eq_true, List.mem_range, Bool.and_eq_true, Bool.or_eq_true, Bool.not_eq_true', Bool.and_eq_false_iff, decide_eq_false_iff_not]
  constructor
  · intro h
    refine ⟨fun i hi ht => ?_, fun i hi hd => ?_⟩
    · rcases (h i hi).1 with h1 | h1
      · rw [ht] at h1; cases h1
      · exact h1
    · rcases (h i (by omega)).2 with (⟨h1 | h1⟩ | h1) | h1
      · omega
      · rw [hd] at h1; cases h1
      · exact .inl h1
      · exact .inr h1
  · rintro ⟨h1, h2⟩ i hi
    refine ⟨?_, ?_⟩
    · cases ht : t i with
      | false => exact .inl rfl
      | true => exact .inr (h1 i hi ht)
    · by_cases hi' : i + 1 < n
      · cases hd : d i with
        | false => exact .inl (.inl (.inr rfl))
        | true => rcases h2 i hi' hd with h | h; exact .inl (.inr h); exact .inr h
      · exact .inl (.inl (.inl hi'))
theorem againP_spec (r : Ro) (he : roundE r = 0) : (∃ s : Nat → Bool, againP r = numsL s r.shares.length ∧ covB (tornI r) (differI r) r.shares.length s = true) ∧ ∀ p, covB (tornI r) (differI r) r.shares.length p = true → beforeB (numsL p r.shares.length) (againP r) = false := by
  have e1 : againP r = againB r (2 ^ r.shares.length) := by
    unfold againP
    rw [if_pos he]
    exact again_eq (tornI r) (differI r) r.shares.length
  obtain ⟨h1, h2⟩ := refF_spec (fun s => covB (tornI r) (differI r) r.shares.length s.testBit) (fun s => numsL s.testBit r.shares.length) (2 ^ r.shares.length)
  have cb : ∀ p, covB (tornI r) (differI r) r.shares.length p = covB (tornI r) (differI r) r.shares.length (numS p r.shares.length).testBit := fun p => covB_congr fun i hi => (numS_bit p _ i hi).symm
  have nb : ∀ p, numsL p r.shares.length = numsL (numS p r.shares.length).testBit r.shares.length := fun p => numsL_congr fun i hi => (numS_bit p _ i hi).symm
  rw [e1]
  unfold againB againF
  cases hb : refF (fun s => covB (tornI r) (differI r) r.shares.length s.testBit) (fun s => numsL s.testBit r.shares.length) (2 ^ r.shares.length) with
  | none =>
    have := h2 hb _ (numS_lt (fun _ => true) r.shares.length)
    change covB _ _ _ (numS (fun _ => true) r.shares.length).testBit = false at this
    rw [← cb] at this
    rw [cov_iff.2 ⟨fun _ _ _ => rfl, fun _ _ _ => .inl rfl⟩] at this
    cases this
  | some b =>
    obtain ⟨⟨j, hj, hc, rfl⟩, h3⟩ := h1 b hb
    refine ⟨⟨j.testBit, rfl, hc⟩, fun p hp => ?_⟩
    rw [cb] at hp
    rw [nb]
    exact h3 _ (numS_lt p _) hp
theorem mem_numsL {p : Nat → Bool} {n : Nat} {x : Int} : x ∈ numsL p n ↔ ∃ i : Nat, i < n ∧ p i = true ∧ x = i := by
  unfold numsL
  simp only [List.mem_map, List.mem_filter, List.mem_range]
  constructor
  · rintro ⟨i, ⟨h1, h2⟩, rfl⟩; exact ⟨i, h1, h2, rfl⟩
  · rintro ⟨i, h1, h2, rfl⟩; exact ⟨i, ⟨h1, h2⟩, rfl⟩
def hasL (l : List Int) (i : Nat) : Bool := l.any fun x => decide (x = (i : Int))
theorem hasL_iff {l : List Int} {i : Nat} : hasL l i = true ↔ (i : Int) ∈ l := by
  unfold hasL
  simp
theorem hasL_nums {p : Nat → Bool} {n i : Nat} (h : i < n) : hasL (numsL p n) i = p i := by
  rw [Bool.eq_iff_iff, hasL_iff, mem_numsL]
  constructor
  · rintro ⟨j, h1, h2, h3⟩
    obtain rfl : i = j := by omega
    exact h2
  · intro h2; exact ⟨i, h, h2, rfl⟩
theorem nums_mono {p q : Nat → Bool} : ∀ (n : Nat), (∀ i, i < n → p i = true → q i = true) → (numsL p n).length ≤ (numsL q n).length
  | 0, _ => Nat.le_refl _
  | n + 1, h => by
    have ih := nums_mono n fun i hi => h i (by omega)
    rw [numsL_succ, numsL_succ]
    by_cases hp : p n = true
    · rw [if_pos hp, if_pos (h n (by omega) hp)]; simp; exact ih
    · rw [if_neg hp]; split <;> simp <;> omega
theorem nums_lt {p q : Nat → Bool} : ∀ (n : Nat), (∀ i, i < n → p i = true → q i = true) → ∀ x, x < n → q x = true → p x = false → (numsL p n).length < (numsL q n).length
  | 0, _, x, hx, _, _ => by omega
  | n + 1, h, x, hx, hq, hp => by
    have hm := nums_mono n fun i hi => h i (by omega)
    rw [numsL_succ, numsL_succ]
    by_cases e : x = n
    · subst e
      rw [if_pos hq, if_neg (by rw [hp]; decide)]
      simp; omega
    · have ih := nums_lt n (fun i hi => h i (by omega)) x (by omega) hq hp
      by_cases hp : p n = true
      · rw [if_pos hp, if_pos (h n (by omega) hp)]; simp; exact ih
      · rw [if_neg hp]; split <;> simp <;> omega
theorem nums_or {p q : Nat → Bool} : ∀ (n : Nat), (numsL (fun i => p i || q i) n).length ≤ (numsL p n).length + (numsL q n).length
  | 0 => Nat.le_refl _
  | n + 1 => by
    have ih := nums_or (p := p) (q := q) n
    rw [numsL_succ, numsL_succ, numsL_succ]
    cases h1 : p n <;> cases h2 : q n <;> simp <;> omega
theorem nums_one (x : Int) : ∀ (n : Nat), (numsL (fun i => decide (x = (i : Int))) n).length ≤ if x < n then 1 else 0
  | 0 => by simp [numsL]
  | n + 1 => by
    have ih := nums_one x n
    rw [numsL_succ]
    by_cases h : x = (n : Int)
    · rw [if_pos (by simpa using h)]
      rw [if_neg (by omega)] at ih
      rw [if_pos (by omega), List.length_append, List.length_singleton]; omega
    · rw [if_neg (by simpa using h)]
      split at ih
      · rw [if_pos (by omega)]; exact ih
      · split <;> omega
theorem nums_any {q : List (Int × Int)} : ∀ (n : Nat), (numsL (fun i => q.any fun p => decide (p.2 = (i : Int))) n).length ≤ q.length := by
  induction q with
  | nil =>
    intro n
    have : numsL (fun i => ([] : List (Int × Int)).any fun p => decide (p.2 = (i : Int))) n = [] := by unfold numsL; simp
    rw [this]; simp
  | cons a q ih =>
    intro n
    have h1 := nums_or (p := fun i => decide (a.2 = (i : Int))) (q := fun i => q.any fun p => decide (p.2 = (i : Int))) n
    have h2 := ih n
    have h3 := nums_one a.2 n
    simp only [List.any_cons, List.length_cons]
    split at h3 <;> omega
theorem nums_split {p q : Nat → Bool} : ∀ (n : Nat), (∀ i, i < n → q i = true → p i = true) → (numsL p n).length = (numsL q n).length + (numsL (fun i => p i && !q i) n).length
  | 0, _ => rfl
  | n + 1, h => by
    have ih := nums_split (p := p) (q := q) n fun i hi => h i (by omega)
    have hn := h n (by omega)
    rw [numsL_succ, numsL_succ, numsL_succ]
    cases h1 : p n <;> cases h2 : q n
    · simp only [Bool.false_and, Bool.false_eq_true, reduceIte]; omega
    · rw [h1] at hn; cases hn h2
    · simp only [Bool.not_false, Bool.and_true, Bool.false_eq_true, reduceIte, List.length_append, List.length_singleton]; omega
    · simp only [Bool.not_true, Bool.and_false, Bool.false_eq_true, reduceIte, List.length_append, List.length_singleton]; omega
structure PrfOK (d : Nat → Bool) (k : Nat) : Prop where
  mem : ∀ p ∈ prf1 d k, ∃ i : Nat, p = ((i : Int), (i : Int) + 1) ∧ i < k ∧ d i = true ∧ p.2 ≤ prf2 d k
  pw : (prf1 d k).Pairwise fun p q => p.2 < q.1
  last : prf2 d k = -1 ∨ ∃ p ∈ prf1 d k, p.2 = prf2 d k
  cov : ∀ i, i < k → d i = true → ∃ p ∈ prf1 d k, p.2 = i ∨ p.2 = i + 1
theorem prf_ok (d : Nat → Bool) : ∀ k, PrfOK d k
  | 0 => ⟨(fun p h => by cases h), .nil, .inl rfl, fun i h => by omega⟩
  | k + 1 => by
    obtain ⟨h1, h2, h3, h4⟩ := prf_ok d k
    have hle := prf2_le d k
    by_cases h : prf2 d k < k ∧ d k = true
    · obtain ⟨e1, e2⟩ := prf_yes h.1 h.2
      refine ⟨?_, ?_, ?_, ?_⟩ <;> rw [e1]
      · rw [e2]
        intro p hp
        rcases List.mem_append.1 hp with hp | hp
        · obtain ⟨i, g1, g2, g3, g4⟩ := h1 p hp
          exact ⟨i, g1, by omega, g3, by omega⟩
        · obtain rfl : p = ((k : Int), (k : Int) + 1) := by simpa using hp
          exact ⟨k, rfl, by omega, h.2, Int.le_refl _⟩
      · rw [List.pairwise_append]
        refine ⟨h2, List.pairwise_singleton _ _, fun p hp q hq => ?_⟩
        obtain rfl : q = ((k : Int), (k : Int) + 1) := by simpa using hq
        obtain ⟨i, g1, g2, g3, g4⟩ := h1 p hp
        show p.2 < (k : Int); omega
      · rw [e2]; exact .inr ⟨_, List.mem_append.2 (.inr (List.mem_singleton.2 rfl)), rfl⟩
      · intro i hi hd
        by_cases e : i = k
        · subst e; exact ⟨_, List.mem_append.2 (.inr (List.mem_singleton.2 rfl)), .inr rfl⟩
        · obtain ⟨p, g1, g2⟩ := h4 i (by omega) hd
          exact ⟨p, List.mem_append.2 (.inl g1), g2⟩
    · obtain ⟨e1, e2⟩ := prf_no (d := d) (k := k) (by rcases Decidable.not_and_iff_or_not.1 h with h | h; exact .inl h; exact .inr (by simpa using h))
      refine ⟨?_, ?_, ?_, ?_⟩ <;> rw [e1]
      · rw [e2]
        intro p hp
        obtain ⟨i, g1, g2, g3, g4⟩ := h1 p hp
        exact ⟨i, g1, by omega, g3, g4⟩
      · exact h2
      · rw [e2]; exact h3
      · intro i hi hd
        by_cases e : i = k
        · subst e
          have h5 : prf2 d i = i := by
            rcases Decidable.not_and_iff_or_not.1 h with h | h
            · omega
            · exact absurd hd h
          rcases h3 with h3 | ⟨p, g1, g2⟩
          · omega
          · exact ⟨p, g1, .inl (by omega)⟩
        · exact h4 i (by omega) hd
theorem prf_least (d s : Nat → Bool) (n : Nat) (hs : ∀ i, i + 1 < n → d i = true → s i = true ∨ s (i + 1) = true) : ∀ k, k + 1 ≤ n ∨ k = 0 → (prf1 d k).length ≤ (numsL s ((prf2 d k + 1).toNat)).length
  | 0, _ => by simp [prf1_zero]
  | k + 1, hk => by
    have ih := prf_least d s n hs k (by omega)
    have hle := prf2_le d k
    by_cases h : prf2 d k < k ∧ d k = true
    · obtain ⟨e1, e2⟩ := prf_yes h.1 h.2
      rw [e1, e2, show ((k : Int) + 1 + 1).toNat = k + 2 by omega, List.length_append, List.length_singleton]
      have h2 : (numsL s ((prf2 d k + 1).toNat)).length ≤ (numsL s k).length := by
        have : ∀ j m, j ≤ m → (numsL s j).length ≤ (numsL s m).length := by
          intro j m hjm
          induction hjm with
          | refl => exact Nat.le_refl _
          | step _ ih => rw [numsL_succ]; split <;> (try rw [List.length_append, List.length_singleton]) <;> omega
        exact this _ _ (by omega)
      rw [numsL_succ s (k + 1), numsL_succ s k]
      rcases hs k (by omega) h.2 with h3 | h3
      · rw [if_pos h3]; split <;> simp <;> omega
      · rw [if_pos h3]; split <;> simp <;> omega
    · obtain ⟨e1, e2⟩ := prf_no (d := d) (k := k) (by rcases Decidable.not_and_iff_or_not.1 h with h | h; exact .inl h; exact .inr (by simpa using h))
      rw [e1, e2]; exact ih
theorem nums_le_of_le (s : Nat → Bool) {j m : Nat} (h : j ≤ m) : (numsL s j).length ≤ (numsL s m).length := by
  induction h with
  | refl => exact Nat.le_refl _
  | step _ ih => rw [numsL_succ]; split <;> (try rw [List.length_append, List.length_singleton]) <;> omega
theorem before_len {l m : List Int} (h : beforeB l m = false) : m.length ≤ l.length := by
  by_cases hlt : l.length < m.length
  · rw [(beforeB_lt hlt).1] at h; cases h
  · omega
theorem differ_torn {r : Ro} {i : Nat} (h : differI r i = true) : tornI r i = false ∧ tornI r (i + 1) = false := by
  unfold differI at h
  split at h
  · rename_i x y a b h1 h2 h3 h4
    unfold differB at h
    simp only [Bool.and_eq_true, Bool.not_eq_true', Bool.or_eq_false_iff] at h
    exact ⟨by simp [tornI, h1, h3, h.1.1.2], by simp [tornI, h2, h4, h.1.2]⟩
  · cases h
theorem proof_len (r : Ro) (he : roundE r = 0) : (tornL r).length + (proofL r).length = (againP r).length := by
  obtain ⟨⟨s, hs1, hs2⟩, hleast⟩ := againP_spec r he
  obtain ⟨n, hn⟩ : ∃ n, n = r.shares.length := ⟨_, rfl⟩
  obtain ⟨hs3, hs4⟩ := cov_iff.1 hs2
  rw [show tornL r = numsL (tornI r) r.shares.length by simp [tornL, he], show proofL r = prf1 (differI r) (r.shares.length - 1) by simp [proofL, he]]
  obtain ⟨p1, p2, p3, p4⟩ := prf_ok (differI r) (r.shares.length - 1)
  refine Nat.le_antisymm ?_ ?_
  · rw [hs1, nums_split (p := s) (q := tornI r) _ hs3]
    have h1 := prf_least (differI r) (fun i => s i && !tornI r i) r.shares.length (fun i hi hd => by
      obtain ⟨g1, g2⟩ := differ_torn hd
      simp only [g1, g2, Bool.not_false, Bool.and_true]
      exact hs4 i hi hd) (r.shares.length - 1) (by omega)
    have h2 := prf2_le (differI r) (r.shares.length - 1)
    have h3 : (numsL (fun i => s i && !tornI r i) ((prf2 (differI r) (r.shares.length - 1) + 1).toNat)).length ≤ (numsL (fun i => s i && !tornI r i) r.shares.length).length := by
      by_cases h0 : r.shares.length = 0
      · rw [h0] at h1 ⊢
        simp only [Nat.zero_sub] at h1 ⊢
        rw [prf2_zero]
        exact Nat.le_refl _
      · exact nums_le_of_le _ (by omega)
    omega
  · have hc : covB (tornI r) (differI r) r.shares.length (fun i => tornI r i || (prf1 (differI r) (r.shares.length - 1)).any fun p => decide (p.2 = (i : Int))) = true := by
      refine cov_iff.2 ⟨fun i hi ht => by simp [ht], fun i hi hd => ?_⟩
      obtain ⟨p, g1, g2⟩ := p4 i (by omega) hd
      rcases g2 with g2 | g2
      · refine .inl ?_
        simp only [Bool.or_eq_true, List.any_eq_true, decide_eq_true_eq]
        exact .inr ⟨p, g1, g2⟩
      · refine .inr ?_
        simp only [Bool.or_eq_true, List.any_eq_true, decide_eq_true_eq]
        exact .inr ⟨p, g1, by omega⟩
    have h1 := before_len (hleast _ hc)
    have h2 := nums_or (p := tornI r) (q := fun i => (prf1 (differI r) (r.shares.length - 1)).any fun p => decide (p.2 = (i : Int))) r.shares.length
    have h3 := nums_any (q := prf1 (differI r) (r.shares.length - 1)) r.shares.length
    omega
def enB (T : List Int) (D : List (Int × Int)) (l : List Int) : Bool := (T.all fun i => l.any fun x => decide (x = i)) && D.all fun p => (l.any fun x => decide (x = p.1)) || l.any fun x => decide (x = p.2)
theorem en_cov (t d : Nat → Bool) (n : Nat) (l : List Int) : enB (numsL t n) (prsL d (n - 1)) l = covB t d n (hasL l) := by
  rw [Bool.eq_iff_iff, cov_iff]
  unfold enB
  rw [Bool.and_eq_true, List.all_eq_true, List.all_eq_true]
  constructor
  · rintro ⟨h1, h2⟩
    refine ⟨fun i hi ht => h1 _ (mem_numsL.2 ⟨i, hi, ht, rfl⟩), fun i hi hd => ?_⟩
    have hm : ((i : Int), (i : Int) + 1) ∈ prsL d (n - 1) := by
      unfold prsL
      exact List.mem_map.2 ⟨i, List.mem_filter.2 ⟨List.mem_range.2 (by omega), hd⟩, rfl⟩
    have := h2 _ hm
    rw [Bool.or_eq_true] at this
    exact this
  · rintro ⟨h1, h2⟩
    refine ⟨fun x hx => ?_, fun p hp => ?_⟩
    · obtain ⟨i, hi, ht, rfl⟩ := mem_numsL.1 hx
      exact h1 i hi ht
    · unfold prsL at hp
      obtain ⟨i, hi, rfl⟩ := List.mem_map.1 hp
      obtain ⟨h3, h4⟩ := List.mem_filter.1 hi
      rw [List.mem_range] at h3
      rw [Bool.or_eq_true]
      exact h2 i (by omega) h4
theorem nums_sorted (p : Nat → Bool) (n : Nat) : (numsL p n).Nodup := by
  unfold numsL
  rw [List.nodup_iff_pairwise_ne, List.pairwise_map]
  exact (List.Pairwise.filter _ List.nodup_range).imp fun h e => h (Int.ofNat.inj e)
theorem again_enough (r : Ro) (he : roundE r = 0) : enB (tornL r) (differL r) (againP r) = true := by
  obtain ⟨⟨s, hs1, hs2⟩, _⟩ := againP_spec r he
  rw [show tornL r = numsL (tornI r) r.shares.length by simp [tornL, he], show differL r = prsL (differI r) (r.shares.length - 1) by simp [differL, he], en_cov, hs1, ← hs2]
  exact covB_congr fun i hi => hasL_nums hi
theorem again_needs (r : Ro) (he : roundE r = 0) (i : Nat) (hi : i < (againP r).length) : enB (tornL r) (differL r) ((againP r).take i ++ (againP r).drop (i + 1)) = false := by
  obtain ⟨⟨s, hs1, hs2⟩, hleast⟩ := againP_spec r he
  rw [show tornL r = numsL (tornI r) r.shares.length by simp [tornL, he], show differL r = prsL (differI r) (r.shares.length - 1) by simp [differL, he], en_cov]
  cases hc : covB (tornI r) (differI r) r.shares.length (hasL ((againP r).take i ++ (againP r).drop (i + 1))) with
  | false => rfl
  | true =>
    have h1 := before_len (hleast _ hc)
    rw [hs1] at hi
    obtain ⟨x, hx1, hx2, hx3⟩ := mem_numsL.1 (List.getElem_mem hi)
    have hnd := nums_sorted s r.shares.length
    have hsplit : (numsL s r.shares.length).take i ++ (numsL s r.shares.length)[i] :: (numsL s r.shares.length).drop (i + 1) = numsL s r.shares.length := by
      rw [← List.drop_eq_getElem_cons hi, List.take_append_drop]
    have h2 := nums_lt (p := hasL ((numsL s r.shares.length).take i ++ (numsL s r.shares.length).drop (i + 1))) (q := s) r.shares.length (fun j hj h => by
      rw [hasL_iff] at h
      have : (j : Int) ∈ numsL s r.shares.length := by
        rw [← hsplit]
        rcases List.mem_append.1 h with h | h
        · exact List.mem_append.2 (.inl h)
        · exact List.mem_append.2 (.inr (List.mem_cons_of_mem _ h))
      obtain ⟨k, _, h4, h5⟩ := mem_numsL.1 this
      obtain rfl : j = k := by omega
      exact h4) x hx1 hx2 (by
      cases hh : hasL ((numsL s r.shares.length).take i ++ (numsL s r.shares.length).drop (i + 1)) x with
      | false => rfl
      | true =>
        rw [hasL_iff, ← hx3] at hh
        rw [← hsplit, List.nodup_append] at hnd
        obtain ⟨_, n2, n3⟩ := hnd
        rcases List.mem_append.1 hh with hh | hh
        · exact absurd rfl (n3 _ hh _ (List.mem_cons_self ..))
        · exact absurd hh (List.nodup_cons.1 n2).1)
    rw [hs1] at h1
    omega
theorem again_first (r : Ro) (he : roundE r = 0) (p : Nat → Bool) (hp : enB (tornL r) (differL r) (numsL p r.shares.length) = true) : beforeB (numsL p r.shares.length) (againP r) = false := by
  obtain ⟨_, hleast⟩ := againP_spec r he
  rw [show tornL r = numsL (tornI r) r.shares.length by simp [tornL, he], show differL r = prsL (differI r) (r.shares.length - 1) by simp [differL, he], en_cov] at hp
  refine hleast p ?_
  rw [← hp]
  exact covB_congr fun i hi => (hasL_nums hi).symm
def onceL (T : List Int) (q : List (Int × Int)) (j : Nat) : List Int := T ++ (q.take j).flatMap fun p => [p.1, p.2]
theorem once_ok (r : Ro) (he : roundE r = 0) (j : Nat) (hj : j < (proofL r).length) : ((differL r).any fun y => decide ((proofL r)[j] = y)) = true ∧ ((onceL (tornL r) (proofL r) j).any fun x => decide (x = (proofL r)[j].1)) = false ∧ ((onceL (tornL r) (proofL r) j).any fun x => decide (x = (proofL r)[j].2)) = false := by
  have e1 : tornL r = numsL (tornI r) r.shares.length := by simp [tornL, he]
  have e2 : differL r = prsL (differI r) (r.shares.length - 1) := by simp [differL, he]
  have e3 : proofL r = prf1 (differI r) (r.shares.length - 1) := by simp [proofL, he]
  obtain ⟨p1, p2, p3, p4⟩ := prf_ok (differI r) (r.shares.length - 1)
  rw [← e3] at p1 p2
  obtain ⟨i, g1, g2, g3, g4⟩ := p1 _ (List.getElem_mem hj)
  obtain ⟨t1, t2⟩ := differ_torn g3
  have hno : ∀ x : Int, x = i ∨ x = (i : Int) + 1 → ((onceL (tornL r) (proofL r) j).any fun y => decide (y = x)) = false := by
    intro x hx
    rw [List.any_eq_false]
    intro y hy
    simp only [decide_eq_true_eq]
    rintro rfl
    unfold onceL at hy
    rcases List.mem_append.1 hy with hy | hy
    · rw [e1] at hy
      obtain ⟨k, k1, k2, k3⟩ := mem_numsL.1 hy
      rcases hx with hx | hx
      · obtain rfl : i = k := by omega
        rw [t1] at k2; cases k2
      · obtain rfl : i + 1 = k := by omega
        rw [t2] at k2; cases k2
    · obtain ⟨p, hp, hy⟩ := List.mem_flatMap.1 hy
      obtain ⟨m, hm, rfl⟩ := List.mem_take_iff_getElem.1 hp
      have := List.pairwise_iff_getElem.1 p2 m j (by omega) hj (by omega)
      obtain ⟨i', g1', _, _, _⟩ := p1 _ (List.getElem_mem (show m < (proofL r).length by omega))
      rw [g1'] at hy this
      rw [g1] at this
      simp at hy this
      omega
  rw [g1]
  refine ⟨?_, hno _ (.inl rfl), hno _ (.inr rfl)⟩
  refine List.any_eq_true.2 ⟨((i : Int), (i : Int) + 1), ?_, by simp⟩
  rw [e2]
  unfold prsL
  exact List.mem_map.2 ⟨i, List.mem_filter.2 ⟨List.mem_range.2 g2, g3⟩, rfl⟩
end Go.Proofs.YtfnohnjnncjidaaGreatDoor
