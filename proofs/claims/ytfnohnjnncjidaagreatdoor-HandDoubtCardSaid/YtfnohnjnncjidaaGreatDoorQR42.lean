import Derived.Test.YtfnohnjnncjidaaGreatDoorQR19
import Derived.Test.YtfnohnjnncjidaaGreatDoorQR31
import Derived.Test.YtfnohnjnncjidaaGreatDoorQR40
namespace Go.Proofs.YtfnohnjnncjidaaGreatDoor
open Go Pm
set_option linter.unusedSimpArgs false
set_option linter.unusedVariables false
set_option maxHeartbeats 4000000
set_option maxRecDepth 100000
def readyB (r : Ro) : Bool := !greatR r && decide (roundE r = 0)
theorem ready_good {r : Ro} (h : readyB r = true) : OKr r ∧ Good r := by
  simp only [readyB, Bool.and_eq_true, Bool.not_eq_true', decide_eq_true_eq] at h
  exact ⟨greatR_ok h.1, good_of (greatR_ok h.1) h.2⟩
theorem ready_ok (r : Ro) : Gives Tryz.prog 27 [roE 0 r] (fun _ => bl (readyB r)) := by
  cases hg : greatR r with
  | true =>
    rw [show readyB r = false by simp [readyB, hg]]
    refine pure_intro (ow := fun _ => false) Tryz.func27 Tryz.ntmps27 rfl (by kernel_rfl) (by simp) rfl (by decide) fun G hG hOw hNm hB => ?_; simp only [go_sem, hG, hOw]
    refine call_pureA (Great05_ok r) ?_
    simp (config := { maxSteps := 2000000 }) only [go_sem, hG, hOw, hg]
    try (repeat' first | with_reducible refine And.intro ?_ ?_ | with_reducible intro _ | with_reducible refine exP ?_ ?_); all_goals try omega
  | false =>
    rw [show readyB r = decide (roundE r = 0) by simp [readyB, hg]]
    have hr := greatR_ok hg
    refine pure_intro (ow := fun _ => false) Tryz.func27 Tryz.ntmps27 rfl (by kernel_rfl) (by simp) rfl (by decide) fun G hG hOw hNm hB => ?_; simp only [go_sem, hG, hOw]
    refine call_pureA (Great05_ok r) ?_
    simp (config := { maxSteps := 2000000 }) only [go_sem, hG, hOw, hg]
    (repeat' first | with_reducible refine And.intro ?_ ?_ | with_reducible intro _ | with_reducible refine exP ?_ ?_); all_goals try omega
    refine call_pureA (CheckR_ok r hr) ?_
    simp only [go_sem, hG, hOw]
    try (repeat' first | with_reducible refine And.intro ?_ ?_ | with_reducible intro _ | with_reducible refine exP ?_ ?_); all_goals try omega
theorem has_ok (l : List Int) (n : Int) : Gives Tryz.prog 37 [ints 0 l, i64 n] (fun _ => bl (l.any fun x => decide (x = n))) := by
  refine pure_intro (ow := fun _ => false) Tryz.func37 Tryz.ntmps37 rfl (by kernel_rfl) (by simp) rfl (by decide) fun G hG hOw hNm hB => ?_; simp only [go_sem, hG, hOw]
  have hl := bd_lst hB (List.mem_cons_self ..)
  simp only [List.length_map] at hl
  (repeat' first | with_reducible refine And.intro ?_ ?_ | with_reducible intro _ | with_reducible refine exP ?_ ?_); all_goals try omega
  refine semC_loop (fun k : Nat => St.of [(1, i64 n), (7, ints 0 l), (8, i64 l.length), (9, i64 k)] []) (fun k => k ≤ l.length ∧ (l.take k).all (fun x => !decide (x = n)) = true) (fun k => l.length - k) 0 (by simp) (ent_of0 (by (simp only [go_sem]) <;> simp) hNm) ?_
  rintro k ⟨hk, hall⟩
  refine vc_sound _ _ _ ?_; simp only [go_sem, hG, hOw]
  (repeat' first | with_reducible refine And.intro ?_ ?_ | with_reducible intro _ | with_reducible refine exP ?_ ?_); all_goals try omega
  · rename_i hlt h1
    have hkl : k < l.length := by omega
    rw [any_true (p := fun x => decide (x = n)) hkl (by simpa using h1)]
  · rename_i hlt h1
    have hkl : k < l.length := by omega
    refine ⟨k + 1, ⟨by omega, ?_⟩, by omega, ent_of0 (by (simp only [go_sem]) <;> simp) hNm⟩
    rw [List.take_add_one, List.getElem?_eq_getElem hkl, List.all_append, hall]
    simpa using h1
  · rename_i hge
    rw [List.take_of_length_le (by omega)] at hall
    rw [any_of_take hall]
def u32E (x : Int) : List V := [.v (.int .u32 x)]
def u32s (lo : Nat) (l : List Int) : V := .lst lo 1 (l.map u32E)
attribute [go_sem] u32E u32s
theorem allOnes_u32s (l : List Int) : allOnes (l.map u32E) = true := allOnes_map (fun _ => rfl) l
attribute [go_sem] allOnes_u32s
def chooseI (by' : List Int) (i : Nat) : Int := if by'.length = 0 then 0 else getI by' (i % by'.length)
def OKu (l : List Int) : Prop := ∀ x ∈ l, 0 ≤ x ∧ x < 4294967296
theorem chooseI_bd {l : List Int} (h : OKu l) (i : Nat) : 0 ≤ chooseI l i ∧ chooseI l i < 4294967296 := by
  unfold chooseI
  split
  · simp
  · have hlt : i % l.length < l.length := Nat.mod_lt _ (by omega)
    rw [getI_at hlt]
    exact h _ (List.getElem_mem hlt)
theorem choose_ok (l : List Int) (h : OKu l) (i : Nat) (hi : i ≤ 1000000) : Gives Tryz.prog 28 [u32s 0 l, i64 i] (fun _ => i64 (chooseI l i)) := by
  have em : (i : Int) % (l.length : Int) = ((i % l.length : Nat) : Int) := by simp
  refine pure_intro (ow := fun _ => false) Tryz.func28 Tryz.ntmps28 rfl (by kernel_rfl) (by simp) rfl (by decide) fun G hG hOw hNm hB => ?_; simp only [go_sem, hG, hOw]
  have hl := bd_lst hB (List.mem_cons_self ..)
  simp only [List.length_map] at hl
  simp only [em, Int.toNat_natCast]
  have hml := Nat.mod_le i l.length
  (repeat' first | with_reducible refine And.intro ?_ ?_ | with_reducible intro _ | with_reducible refine exP ?_ ?_); all_goals try omega
  · rename_i h0
    rw [show chooseI l i = 0 by unfold chooseI; rw [if_pos (by omega)]]
  · exact Nat.mod_lt _ (by omega)
  all_goals
    rename_i h0
    have hlt : i % l.length < l.length := Nat.mod_lt _ (by omega)
    have hx := h _ (List.getElem_mem hlt)
  · omega
  · omega
  · unfold chooseI
    rw [if_neg (by omega), getI_at hlt]
theorem lines_ok (r : Ro) (hg : Good r) (i : Nat) (hi : i < r.shares.length) : Gives Tryz.prog 29 [roE 0 r, i64 i] (fun _ => lns 0 (partA r i)) := by
  have hs := hg.s i hi
  have hl := hg.ll
  have ep : partA r i = ((linesL r.text).take (r.shares[i].to + 1).toNat).drop r.shares[i].fr.toNat := by
    unfold partA
    rw [List.getElem?_eq_getElem hi]
    simp only
    rw [List.drop_take]
    congr 1
    omega
  rw [ep]
  refine pure_intro (ow := fun _ => false) Tryz.func29 Tryz.ntmps29 rfl (by kernel_rfl) (by simp) rfl (by decide) fun G hG hOw hNm hB => ?_; simp only [go_sem, hG, hOw]
  (repeat' first | with_reducible refine And.intro ?_ ?_ | with_reducible intro _ | with_reducible refine exP ?_ ?_); all_goals try omega
  refine semC_draw0 mixed (by kernel_rfl) ?_
  simp only [go_sem, hG, hOw]
  refine ⟨_, callGivesA (Lines_ok r.text hg.ok.t), ?_⟩
  simp only [go_sem, hG, hOw]
  (repeat' first | with_reducible refine And.intro ?_ ?_ | with_reducible intro _ | with_reducible refine exP ?_ ?_); all_goals try omega
  exact .lo (Nat.zero_le _)
end Go.Proofs.YtfnohnjnncjidaaGreatDoor
namespace Go.Proofs.YtfnohnjnncjidaaGreatDoor
open Go Pm
set_option linter.unusedSimpArgs false
set_option linter.unusedVariables false
theorem cov_iff {t d : Nat → Bool} {n : Nat} {p : Nat → Bool} : covB t d n p = true ↔ (∀ i, i < n → t i = true → p i = true) ∧ ∀ i, i + 1 < n → d i = true → p i = true ∨ p (i + 1) = true := by
  unfold covB
  simp only [List.all_eq_true, List.mem_range, Bool.and_eq_true, Bool.or_eq_true, Bool.not_eq_true', Bool.and_eq_false_iff, decide_eq_false_iff_not]
  constructor
  · intro h
    refine ⟨fun i hi ht => ?_, fun i hi hd => ?_⟩
    · rcases (h i hi).1 with h1 | h1
      · rw [ht] at h1; cases h1
      · exact h1
    · rcases (h i (by omega)).2 with (⟨h1 | h1⟩ | h1) | h1
      · omega
      · rw [hd] at h1; cases h1
      · exact .inl h1
      · exact .inr h1
  · rintro ⟨h1, h2⟩ i hi
    refine ⟨?_, ?_⟩
    · cases ht : t i with
      | false => exact .inl rfl
      | true => exact .inr (h1 i hi ht)
    · by_cases hi' : i + 1 < n
      · cases hd : d i with
        | false => exact .inl (.inl (.inr rfl))
        | true => rcases h2 i hi' hd with h | h; exact .inl (.inr h); exact .inr h
      · exact .inl (.inl (.inl hi'))
theorem againP_spec (r : Ro) (he : roundE r = 0) : (∃ s : Nat → Bool, againP r = numsL s r.shares.length ∧ covB (tornI r) (differI r) r.shares.length s = true) ∧ ∀ p, covB (tornI r) (differI r) r.shares.length p = true → beforeB (numsL p r.shares.length) (againP r) = false := by
  have e1 : againP r = againB r (2 ^ r.shares.length) := by
    unfold againP
    rw [if_pos he]
    exact again_eq (tornI r) (differI r) r.shares.length
  obtain ⟨h1, h2⟩ := refF_spec (fun s => covB (tornI r) (differI r) r.shares.length s.testBit) (fun s => numsL s.testBit r.shares.length) (2 ^ r.shares.length)
  have cb : ∀ p, covB (tornI r) (differI r) r.shares.length p = covB (tornI r) (differI r) r.shares.length (numS p r.shares.length).testBit := fun p => covB_congr fun i hi => (numS_bit p _ i hi).symm
  have nb : ∀ p, numsL p r.shares.length = numsL (numS p r.shares.length).testBit r.shares.length := fun p => numsL_congr fun i hi => (numS_bit p _ i hi).symm
  rw [e1]
  unfold againB againF
  cases hb : refF (fun s => covB (tornI r) (differI r) r.shares.length s.testBit) (fun s => numsL s.testBit r.shares.length) (2 ^ r.shares.length) with
  | none =>
    have := h2 hb _ (numS_lt (fun _ => true) r.shares.length)
    change covB _ _ _ (numS (fun _ => true) r.shares.length).testBit = false at this
    rw [← cb] at this
    rw [cov_iff.2 ⟨fun _ _ _ => rfl, fun _ _ _ => .inl rfl⟩] at this
    cases this
  | some b =>
    obtain ⟨⟨j, hj, hc, rfl⟩, h3⟩ := h1 b hb
    refine ⟨⟨j.testBit, rfl, hc⟩, fun p hp => ?_⟩
    rw [cb] at hp
    rw [nb]
    exact h3 _ (numS_lt p _) hp
theorem mem_numsL {p : Nat → Bool} {n : Nat} {x : Int} : x ∈ numsL p n ↔ ∃ i : Nat, i < n ∧ p i = true ∧ x = i := by
  unfold numsL
  simp only [List.mem_map, List.mem_filter, List.mem_range]
  constructor
  · rintro ⟨i, ⟨h1, h2⟩, rfl⟩; exact ⟨i, h1, h2, rfl⟩
  · rintro ⟨i, h1, h2, rfl⟩; exact ⟨i, ⟨h1, h2⟩, rfl⟩
theorem nums_or {p q : Nat → Bool} : ∀ (n : Nat), (numsL (fun i => p i || q i) n).length ≤ (numsL p n).length + (numsL q n).length
  | 0 => Nat.le_refl _
  | n + 1 => by
    have ih := nums_or (p := p) (q := q) n
    rw [numsL_succ, numsL_succ, numsL_succ]
    cases h1 : p n <;> cases h2 : q n <;> simp <;> omega
theorem nums_one (x : Int) : ∀ (n : Nat), (numsL (fun i => decide (x = (i : Int))) n).length ≤ if x < n then 1 else 0
  | 0 => by simp [numsL]
  | n + 1 => by
    have ih := nums_one x n
    rw [numsL_succ]
    by_cases h : x = (n : Int)
    · rw [if_pos (by simpa using h)]
      rw [if_neg (by omega)] at ih
      rw [if_pos (by omega), List.length_append, List.length_singleton]; omega
    · rw [if_neg (by simpa using h)]
      split at ih
      · rw [if_pos (by omega)]; exact ih
      · split <;> omega
theorem nums_any {q : List (Int × Int)} : ∀ (n : Nat), (numsL (fun i => q.any fun p => decide (p.2 = (i : Int))) n).length ≤ q.length := by
  induction q with
  | nil =>
    intro n
    have : numsL (fun i => ([] : List (Int × Int)).any fun p => decide (p.2 = (i : Int))) n = [] := by unfold numsL; simp
    rw [this]; simp
  | cons a q ih =>
    intro n
    have h1 := nums_or (p := fun i => decide (a.2 = (i : Int))) (q := fun i => q.any fun p => decide (p.2 = (i : Int))) n
    have h2 := ih n
    have h3 := nums_one a.2 n
    simp only [List.any_cons, List.length_cons]
    split at h3 <;> omega
theorem nums_split {p q : Nat → Bool} : ∀ (n : Nat), (∀ i, i < n → q i = true → p i = true) → (numsL p n).length = (numsL q n).length + (numsL (fun i => p i && !q i) n).length
  | 0, _ => rfl
  | n + 1, h => by
    have ih := nums_split (p := p) (q := q) n fun i hi => h i (by omega)
    have hn := h n (by omega)
    rw [numsL_succ, numsL_succ, numsL_succ]
    cases h1 : p n <;> cases h2 : q n
    · simp only [Bool.false_and, Bool.false_eq_true, reduceIte]; omega
    · rw [h1] at hn; cases hn h2
    · simp only [Bool.not_false, Bool.and_true, Bool.false_eq_true, reduceIte, List.length_append, List.length_singleton]; omega
    · simp only [Bool.not_true, Bool.and_false, Bool.false_eq_true, reduceIte, List.length_append, List.length_singleton]; omega
structure PrfOK (d : Nat → Bool) (k : Nat) : Prop where
  mem : ∀ p ∈ prf1 d k, ∃ i : Nat, p = ((i : Int), (i : Int) + 1) ∧ i < k ∧ d i = true ∧ p.2 ≤ prf2 d k
  pw : (prf1 d k).Pairwise fun p q => p.2 < q.1
  last : prf2 d k = -1 ∨ ∃ p ∈ prf1 d k, p.2 = prf2 d k
  cov : ∀ i, i < k → d i = true → ∃ p ∈ prf1 d k, p.2 = i ∨ p.2 = i + 1
theorem prf_ok (d : Nat → Bool) : ∀ k, PrfOK d k
  | 0 => ⟨(fun p h => by cases h), .nil, .inl rfl, fun i h => by omega⟩
  | k + 1 => by
    obtain ⟨h1, h2, h3, h4⟩ := prf_ok d k
    have hle := prf2_le d k
    by_cases h : prf2 d k < k ∧ d k = true
    · obtain ⟨e1, e2⟩ := prf_yes h.1 h.2
      refine ⟨?_, ?_, ?_, ?_⟩ <;> rw [e1]
      · rw [e2]
        intro p hp
        rcases List.mem_append.1 hp with hp | hp
        · obtain ⟨i, g1, g2, g3, g4⟩ := h1 p hp
          exact ⟨i, g1, by omega, g3, by omega⟩
        · obtain rfl : p = ((k : Int), (k : Int) + 1) := by simpa using hp
          exact ⟨k, rfl, by omega, h.2, Int.le_refl _⟩
      · rw [List.pairwise_append]
        refine ⟨h2, List.pairwise_singleton _ _, fun p hp q hq => ?_⟩
        obtain rfl : q = ((k : Int), (k : Int) + 1) := by simpa using hq
        obtain ⟨i, g1, g2, g3, g4⟩ := h1 p hp
        show p.2 < (k : Int); omega
      · rw [e2]; exact .inr ⟨_, List.mem_append.2 (.inr (List.mem_singleton.2 rfl)), rfl⟩
      · intro i hi hd
        by_cases e : i = k
        · subst e; exact ⟨_, List.mem_append.2 (.inr (List.mem_singleton.2 rfl)), .inr rfl⟩
        · obtain ⟨p, g1, g2⟩ := h4 i (by omega) hd
          exact ⟨p, List.mem_append.2 (.inl g1), g2⟩
    · obtain ⟨e1, e2⟩ := prf_no (d := d) (k := k) (by rcases Decidable.not_and_iff_or_not.1 h with h | h; exact .inl h; exact .inr (by simpa using h))
      refine ⟨?_, ?_, ?_, ?_⟩ <;> rw [e1]
      · rw [e2]
        intro p hp
        obtain ⟨i, g1, g2, g3, g4⟩ := h1 p hp
        exact ⟨i, g1, by omega, g3, g4⟩
      · exact h2
      · rw [e2]; exact h3
      · intro i hi hd
        by_cases e : i = k
        · subst e
          have h5 : prf2 d i = i := by
            rcases Decidable.not_and_iff_or_not.1 h with h | h
            · omega
            · exact absurd hd h
          rcases h3 with h3 | ⟨p, g1, g2⟩
          · omega
          · exact ⟨p, g1, .inl (by omega)⟩
        · exact h4 i (by omega) hd
theorem prf_least (d s : Nat → Bool) (n : Nat) (hs : ∀ i, i + 1 < n → d i = true → s i = true ∨ s (i + 1) = true) : ∀ k, k + 1 ≤ n ∨ k = 0 → (prf1 d k).length ≤ (numsL s ((prf2 d k + 1).toNat)).length
  | 0, _ => by simp [prf1_zero]
  | k + 1, hk => by
    have ih := prf_least d s n hs k (by omega)
    have hle := prf2_le d k
    by_cases h : prf2 d k < k ∧ d k = true
    · obtain ⟨e1, e2⟩ := prf_yes h.1 h.2
      rw [e1, e2, show ((k : Int) + 1 + 1).toNat = k + 2 by omega, List.length_append, List.length_singleton]
      have h2 : (numsL s ((prf2 d k + 1).toNat)).length ≤ (numsL s k).length := by
        have : ∀ j m, j ≤ m → (numsL s j).length ≤ (numsL s m).length := by
          intro j m hjm
          induction hjm with
          | refl => exact Nat.le_refl _
          | step _ ih => rw [numsL_succ]; split <;> (try rw [List.length_append, List.length_singleton]) <;> omega
        exact this _ _ (by omega)
      rw [numsL_succ s (k + 1), numsL_succ s k]
      rcases hs k (by omega) h.2 with h3 | h3
      · rw [if_pos h3]; split <;> simp <;> omega
      · rw [if_pos h3]; split <;> simp <;> omega
    · obtain ⟨e1, e2⟩ := prf_no (d := d) (k := k) (by rcases Decidable.not_and_iff_or_not.1 h with h | h; exact .inl h; exact .inr (by simpa using h))
      rw [e1, e2]; exact ih
theorem nums_le_of_le (s : Nat → Bool) {j m : Nat} (h : j ≤ m) : (numsL s j).length ≤ (numsL s m).length := by
  induction h with
  | refl => exact Nat.le_refl _
  | step _ ih => rw [numsL_succ]; split <;> (try rw [List.length_append, List.length_singleton]) <;> omega
theorem before_len {l m : List Int} (h : beforeB l m = false) : m.length ≤ l.length := by
  by_cases hlt : l.length < m.length
  · rw [(beforeB_lt hlt).1] at h; cases h
  · omega
theorem differ_torn {r : Ro} {i : Nat} (h : differI r i = true) : tornI r i = false ∧ tornI r (i + 1) = false := by
  unfold differI at h
  split at h
  · rename_i x y a b h1 h2 h3 h4
    unfold differB at h
    simp only [Bool.and_eq_true, Bool.not_eq_true', Bool.or_eq_false_iff] at h
    exact ⟨by simp [tornI, h1, h3, h.1.1.2], by simp [tornI, h2, h4, h.1.2]⟩
  · cases h
theorem proof_len (r : Ro) (he : roundE r = 0) : (tornL r).length + (proofL r).length = (againP r).length := by
  obtain ⟨⟨s, hs1, hs2⟩, hleast⟩ := againP_spec r he
  obtain ⟨n, hn⟩ : ∃ n, n = r.shares.length := ⟨_, rfl⟩
  obtain ⟨hs3, hs4⟩ := cov_iff.1 hs2
  rw [show tornL r = numsL (tornI r) r.shares.length by simp [tornL, he], show proofL r = prf1 (differI r) (r.shares.length - 1) by simp [proofL, he]]
  obtain ⟨p1, p2, p3, p4⟩ := prf_ok (differI r) (r.shares.length - 1)
  refine Nat.le_antisymm ?_ ?_
  · rw [hs1, nums_split (p := s) (q := tornI r) _ hs3]
    have h1 := prf_least (differI r) (fun i => s i && !tornI r i) r.shares.length (fun i hi hd => by
      obtain ⟨g1, g2⟩ := differ_torn hd
      simp only [g1, g2, Bool.not_false, Bool.and_true]
      exact hs4 i hi hd) (r.shares.length - 1) (by omega)
    have h2 := prf2_le (differI r) (r.shares.length - 1)
    have h3 : (numsL (fun i => s i && !tornI r i) ((prf2 (differI r) (r.shares.length - 1) + 1).toNat)).length ≤ (numsL (fun i => s i && !tornI r i) r.shares.length).length := by
      by_cases h0 : r.shares.length = 0
      · rw [h0] at h1 ⊢
        simp only [Nat.zero_sub] at h1 ⊢
        rw [prf2_zero]
        exact Nat.le_refl _
      · exact nums_le_of_le _ (by omega)
    omega
  · have hc : covB (tornI r) (differI r) r.shares.length (fun i => tornI r i || (prf1 (differI r) (r.shares.length - 1)).any fun p => decide (p.2 = (i : Int))) = true := by
      refine cov_iff.2 ⟨fun i hi ht => by simp [ht], fun i hi hd => ?_⟩
      obtain ⟨p, g1, g2⟩ := p4 i (by omega) hd
      rcases g2 with g2 | g2
      · refine .inl ?_
        simp only [Bool.or_eq_true, List.any_eq_true, decide_eq_true_eq]
        exact .inr ⟨p, g1, g2⟩
      · refine .inr ?_
        simp only [Bool.or_eq_true, List.any_eq_true, decide_eq_true_eq]
        exact .inr ⟨p, g1, by omega⟩
    have h1 := before_len (hleast _ hc)
    have h2 := nums_or (p := tornI r) (q := fun i => (prf1 (differI r) (r.shares.length - 1)).any fun p => decide (p.2 = (i : Int))) r.shares.length
    have h3 := nums_any (q := prf1 (differI r) (r.shares.length - 1)) r.shares.length
    omega
def onceL (T : List Int) (q : List (Int × Int)) (j : Nat) : List Int := T ++ (q.take j).flatMap fun p => [p.1, p.2]
theorem once_ok (r : Ro) (he : roundE r = 0) (j : Nat) (hj : j < (proofL r).length) : ((differL r).any fun y => decide ((proofL r)[j] = y)) = true ∧ ((onceL (tornL r) (proofL r) j).any fun x => decide (x = (proofL r)[j].1)) = false ∧ ((onceL (tornL r) (proofL r) j).any fun x => decide (x = (proofL r)[j].2)) = false := by
  have e1 : tornL r = numsL (tornI r) r.shares.length := by simp [tornL, he]
  have e2 : differL r = prsL (differI r) (r.shares.length - 1) := by simp [differL, he]
  have e3 : proofL r = prf1 (differI r) (r.shares.length - 1) := by simp [proofL, he]
  obtain ⟨p1, p2, p3, p4⟩ := prf_ok (differI r) (r.shares.length - 1)
  rw [← e3] at p1 p2
  obtain ⟨i, g1, g2, g3, g4⟩ := p1 _ (List.getElem_mem hj)
  obtain ⟨t1, t2⟩ := differ_torn g3
  have hno : ∀ x : Int, x = i ∨ x = (i : Int) + 1 → ((onceL (tornL r) (proofL r) j).any fun y => decide (y = x)) = false := by
    intro x hx
    rw [List.any_eq_false]
    intro y hy
    simp only [decide_eq_true_eq]
    rintro rfl
    unfold onceL at hy
    rcases List.mem_append.1 hy with hy | hy
    · rw [e1] at hy
      obtain ⟨k, k1, k2, k3⟩ := mem_numsL.1 hy
      rcases hx with hx | hx
      · obtain rfl : i = k := by omega
        rw [t1] at k2; cases k2
      · obtain rfl : i + 1 = k := by omega
        rw [t2] at k2; cases k2
    · obtain ⟨p, hp, hy⟩ := List.mem_flatMap.1 hy
      obtain ⟨m, hm, rfl⟩ := List.mem_take_iff_getElem.1 hp
      have := List.pairwise_iff_getElem.1 p2 m j (by omega) hj (by omega)
      obtain ⟨i', g1', _, _, _⟩ := p1 _ (List.getElem_mem (show m < (proofL r).length by omega))
      rw [g1'] at hy this
      rw [g1] at this
      simp at hy this
      omega
  rw [g1]
  refine ⟨?_, hno _ (.inl rfl), hno _ (.inr rfl)⟩
  refine List.any_eq_true.2 ⟨((i : Int), (i : Int) + 1), ?_, by simp⟩
  rw [e2]
  unfold prsL
  exact List.mem_map.2 ⟨i, List.mem_filter.2 ⟨List.mem_range.2 g2, g3⟩, rfl⟩
end Go.Proofs.YtfnohnjnncjidaaGreatDoor
namespace Go.Proofs.YtfnohnjnncjidaaGreatDoor
open Go Pm
set_option linter.unusedSimpArgs false
set_option linter.unusedVariables false
set_option maxHeartbeats 4000000
set_option maxRecDepth 100000
def twO (lo : Nat) (r : Ro) : V := .agg [chs lo r.text, .own 0 0 r.helpers.length 3, .own 1 0 r.shares.length 4, .own 2 0 r.sheets.length 2]
def twH (lo : Nat) (r : Ro) : List (Nat × OB) := [(0, .arr 97 3 (r.helpers.map hpE)), (1, .arr 80 4 (r.shares.map srE)), (2, .arr 59 2 (r.sheets.map (seE lo)))]
attribute [go_sem] twO twH
theorem Twin_tri (r : Ro) (hr : OKr r) : Tri Tryz.prog 15 [roE 0 r] [] (fun lo => .ret (twO lo r) (twH lo r)) := by
  refine tri_intro (fun _ => false) Tryz.func15 Tryz.ntmps15 rfl (by kernel_rfl) (by simp) rfl (by decide) fun G hG hOw hNm => ?_; simp only [go_sem, hG, hOw]
  have hh := hr.h
  have hs := hr.s
  obtain ⟨hx1, hx2⟩ := hr.x
  refine semC_draw0 mixed (by kernel_rfl) ?_
  simp only [go_sem, hG, hOw]
  refine ⟨_, callGivesA (Twin01_ok r.text hr.t), ?_⟩
  simp only [go_sem, hG, hOw]
  (repeat' first | with_reducible refine And.intro ?_ ?_ | with_reducible intro _ | with_reducible refine exP ?_ ?_); all_goals try omega
  refine semC_loop (fun k : Nat => St.of [(1, .ptr 1 0), (2, .ptr 2 0), (3, .ptr 3 0), (4, i64 k)] [(1, .box (roC 0 r)), (2, .box [.v (.slice none 0 0), .v (.slice none 0 0), .v (.slice none 0 0), .v (.slice none 0 0)]), (3, .box [chs G.lo r.text, .own 91 0 r.helpers.length 3, .own 92 0 r.shares.length 4, .own 93 0 k 2]), (91, .arr 97 3 (r.helpers.map hpE)), (92, .arr 80 4 (r.shares.map srE)), (93, .arr 59 2 ((r.sheets.take k).map (seE G.lo)))]) (fun k => k ≤ r.sheets.length) (fun k => r.sheets.length - k) 0 (by simp) (entA [(1, some 1), (2, some 2), (3, some 3), (91, some 11), (92, some 15), (93, none)]) ?_
  rintro k hk
  have hmin : min k r.sheets.length = k := Nat.min_eq_left hk
  refine vc_sound _ _ _ ?_; simp only [go_sem, hG, hOw]
  (repeat' first | with_reducible refine And.intro ?_ ?_ | with_reducible intro _ | with_reducible refine exP ?_ ?_); all_goals try omega
  · rename_i hlt
    have hkl : k < r.sheets.length := by omega
    have h0 := take_snoc_map (seE G.lo) r.sheets k hkl
    refine semC_draw0 mixed (by kernel_rfl) ?_
    simp only [go_sem, hG, hOw]
    (repeat' first | with_reducible refine And.intro ?_ ?_ | with_reducible intro _ | with_reducible refine exP ?_ ?_); all_goals try omega
    refine ⟨_, callGivesA (TwinLines_ok r.sheets[k].lines (hx2 _ (List.getElem_mem hkl))), ?_⟩
    simp only [go_sem, hG, hOw]
    (repeat' first | with_reducible refine And.intro ?_ ?_ | with_reducible intro _ | with_reducible refine exP ?_ ?_); all_goals try omega
    exact ⟨k + 1, by omega, by omega, entA [(1, some 1), (2, some 2), (3, some 3), (91, some 91), (92, some 92), (93, some 41)] (by (simp only [go_sem]) <;> simp [h0,hmin,seE,lns,bl]) (by (simp only [go_sem, entH, entH1, nilArr, obOK]) <;> simp [h0,hmin,seE,lns,bl])⟩
  · rename_i hge
    obtain rfl : k = r.sheets.length := by omega
    simp only [List.take_length]
    exact ⟨[(0, some 91), (1, some 92), (2, some 93)], by (simp only [EndT, go_sem, entH, entH1, nilArr, obOK, apart, injR, coverR]) <;> simp⟩
end Go.Proofs.YtfnohnjnncjidaaGreatDoor
namespace Go.Proofs.YtfnohnjnncjidaaGreatDoor
open Go Pm
set_option linter.unusedSimpArgs false
set_option linter.unusedVariables false
structure Later (r x : Ro) (h : Int) : Prop where
  sn : x.shares.length = r.shares.length
  hn : x.helpers.length = r.helpers.length
  s : ∀ j (h1 : j < r.shares.length) (h2 : j < x.shares.length), x.shares[j].helper = r.shares[j].helper ∧ (r.shares[j].helper = h → r.shares[j].sent ≤ x.shares[j].sent) ∧ x.shares[j].fr = r.shares[j].fr ∧ x.shares[j].to = r.shares[j].to
  h : ∀ (h1 : h.toNat < r.helpers.length) (h2 : h.toNat < x.helpers.length), r.helpers[h.toNat].post ≤ x.helpers[h.toNat].post ∧ x.helpers[h.toNat].rate ≤ r.helpers[h.toNat].rate
end Go.Proofs.YtfnohnjnncjidaaGreatDoor
namespace Go.Proofs.YtfnohnjnncjidaaGreatDoor
open Go Pm
set_option linter.unusedSimpArgs false
set_option linter.unusedVariables false
set_option maxHeartbeats 4000000
set_option maxRecDepth 100000
end Go.Proofs.YtfnohnjnncjidaaGreatDoor
namespace Go.Proofs.YtfnohnjnncjidaaGreatDoor
open Go Pm
set_option linter.unusedSimpArgs false
set_option linter.unusedVariables false
set_option maxHeartbeats 4000000
set_option maxRecDepth 100000
def twB (lo a b c : Nat) (r : Ro) : List V := [chs lo r.text, .own a 0 r.helpers.length 3, .own b 0 r.shares.length 4, .own c 0 r.sheets.length 2]
attribute [go_sem] twB
end Go.Proofs.YtfnohnjnncjidaaGreatDoor
