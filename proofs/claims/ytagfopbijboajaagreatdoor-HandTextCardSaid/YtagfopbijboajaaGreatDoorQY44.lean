import Derived.Test.YtagfopbijboajaaGreatDoorQY21
import Derived.Test.YtagfopbijboajaaGreatDoorQY32
import Derived.Test.YtagfopbijboajaaGreatDoorQY43
namespace Go.Proofs.YtagfopbijboajaaGreatDoor
open Go Pm
set_option linter.unusedSimpArgs false
set_option linter.unusedVariables false
set_option maxHeartbeats 4000000
set_option maxRecDepth 100000
def readyB (r : Ro) : Bool := !greatR r && decide (roundE r = 0)
theorem ready_good {r : Ro} (h : readyB r = true) : OKr r ∧ Good r := by
  simp only [readyB, Bool.and_eq_true, Bool.not_eq_true', decide_eq_true_eq] at h
  exact ⟨greatR_ok h.1, good_of (greatR_ok h.1) h.2⟩
theorem ready_ok (r : Ro) : Gives Tryz.prog 5 [roE 0 r] (fun _ => bl (readyB r)) := by
  cases hg : greatR r with
  | true =>
    rw [show readyB r = false by simp [readyB, hg]]
    refine pure_intro (ow := fun _ => false) Tryz.func5 Tryz.ntmps5 rfl (by kernel_rfl) (by simp) rfl (by decide) fun G hG hOw hNm hB => ?_; simp only [go_sem, hG, hOw]
    refine call_pureA (Great05_ok r) ?_
    simp (maxSteps := 2000000) only [go_sem, hG, hOw, hg]
    try (repeat' with_reducible first | refine And.intro ?_ ?_ | intro _ | refine exP ?_ ?_); all_goals try omega
  | false =>
    rw [show readyB r = decide (roundE r = 0) by simp [readyB, hg]]
    have hr := greatR_ok hg
    refine pure_intro (ow := fun _ => false) Tryz.func5 Tryz.ntmps5 rfl (by kernel_rfl) (by simp) rfl (by decide) fun G hG hOw hNm hB => ?_; simp only [go_sem, hG, hOw]
    refine call_pureA (Great05_ok r) ?_
    simp (maxSteps := 2000000) only [go_sem, hG, hOw, hg]
    (repeat' with_reducible first | refine And.intro ?_ ?_ | intro _ | refine exP ?_ ?_); all_goals try omega
    refine call_pureA (CheckR_ok r hr) ?_
    simp only [go_sem, hG, hOw]
    try (repeat' with_reducible first | refine And.intro ?_ ?_ | intro _ | refine exP ?_ ?_); all_goals try omega
theorem has_ok (l : List Int) (n : Int) : Gives Tryz.prog 9 [ints 0 l, i64 n] (fun _ => bl (l.any fun x => decide (x = n))) := by
  refine pure_intro (ow := fun _ => false) Tryz.func9 Tryz.ntmps9 rfl (by kernel_rfl) (by simp) rfl (by decide) fun G hG hOw hNm hB => ?_; simp only [go_sem, hG, hOw]
  have hl := bd_lst hB (List.mem_cons_self ..)
  simp only [List.length_map] at hl
  (repeat' with_reducible first | refine And.intro ?_ ?_ | intro _ | refine exP ?_ ?_); all_goals try omega
  refine semC_loop (fun k : Nat => St.of [(1, i64 n), (7, ints 0 l), (8, i64 l.length), (9, i64 k)] []) (fun k => k ≤ l.length ∧ (l.take k).all (fun x => !decide (x = n)) = true) (fun k => l.length - k) 0 (by simp) (ent_of0 (by (simp only [go_sem]) <;> simp) hNm) ?_
  rintro k ⟨hk, hall⟩
  refine vc_sound _ _ _ ?_; simp only [go_sem, hG, hOw]
  (repeat' with_reducible first | refine And.intro ?_ ?_ | intro _ | refine exP ?_ ?_); all_goals try omega
  · rename_i hlt h1
    have hkl : k < l.length := by omega
    rw [any_true (p := fun x => decide (x = n)) hkl (by simpa using h1)]
  · rename_i hlt h1
    have hkl : k < l.length := by omega
    refine ⟨k + 1, ⟨by omega, ?_⟩, by omega, ent_of0 (by (simp only [go_sem]) <;> simp) hNm⟩
    rw [List.take_add_one, List.getElem?_eq_getElem hkl, List.all_append, hall]
    simpa using h1
  · rename_i hge
    rw [List.take_of_length_le (by omega)] at hall
    rw [any_of_take hall]
theorem lines_ok (r : Ro) (hg : Good r) (i : Nat) (hi : i < r.shares.length) : Gives Tryz.prog 14 [roE 0 r, i64 i] (fun _ => lns 0 (partA r i)) := by
  have hs := hg.s i hi
  have hl := hg.ll
  have ep : partA r i = ((linesL r.text).take (r.shares[i].to + 1).toNat).drop r.shares[i].fr.toNat := by
    unfold partA
    rw [List.getElem?_eq_getElem hi]
    simp only
    rw [List.drop_take]
    congr 1
    omega
  rw [ep]
  refine pure_intro (ow := fun _ => false) Tryz.func14 Tryz.ntmps14 rfl (by kernel_rfl) (by simp) rfl (by decide) fun G hG hOw hNm hB => ?_; simp only [go_sem, hG, hOw]
  (repeat' with_reducible first | refine And.intro ?_ ?_ | intro _ | refine exP ?_ ?_); all_goals try omega
  refine semC_draw0 mixed (by kernel_rfl) ?_
  simp only [go_sem, hG, hOw]
  refine ⟨_, callGivesA (Lines_ok r.text hg.ok.t), ?_⟩
  simp only [go_sem, hG, hOw]
  (repeat' with_reducible first | refine And.intro ?_ ?_ | intro _ | refine exP ?_ ?_); all_goals try omega
  exact .lo (Nat.zero_le _)
open Go Pm
theorem cov_iff {t d : Nat → Bool} {n : Nat} {p : Nat → Bool} : covB t d n p = true ↔ (∀ i, i < n → t i = true → p i = true) ∧ ∀ i, i + 1 < n → d i = true → p i = true ∨ p (i + 1) = true := by
  unfold covB
  simp only [List.all_eq_true, List.mem_range, Bool.and_eq_true, Bool.or_eq_true, Bool.not_eq_true', Bool.and_eq_false_iff, decide_eq_false_iff_not]
  constructor
  · intro h
    refine ⟨fun i hi ht => ?_, fun i hi hd => ?_⟩
    · rcases (h i hi).1 with h1 | h1
      · rw [ht] at h1; cases h1
      · exact h1
    · rcases (h i (by omega)).2 with (⟨h1 | h1⟩ | h1) | h1
      · omega
      · rw [hd] at h1; cases h1
      · exact .inl h1
      · exact .inr h1
  · rintro ⟨h1, h2⟩ i hi
    refine ⟨?_, ?_⟩
    · cases ht : t i with
      | false => exact .inl rfl
      | true => exact .inr (h1 i hi ht)
    · by_cases hi' : i + 1 < n
      · cases hd : d i with
        | false => exact .inl (.inl (.inr rfl))
        | true => rcases h2 i hi' hd with h | h; exact .inl (.inr h); exact .inr h
      · exact .inl (.inl (.inl hi'))
theorem againP_spec (r : Ro) (he : roundE r = 0) : (∃ s : Nat → Bool, againP r = numsL s r.shares.length ∧ covB (tornI r) (differI r) r.shares.length s = true) ∧ ∀ p, covB (tornI r) (differI r) r.shares.length p = true → beforeB (numsL p r.shares.length) (againP r) = false := by
  have e1 : againP r = againB r (2 ^ r.shares.length) := by
    unfold againP
    rw [if_pos he]
    exact again_eq (tornI r) (differI r) r.shares.length
  obtain ⟨h1, h2⟩ := refF_spec (fun s => covB (tornI r) (differI r) r.shares.length s.testBit) (fun s => numsL s.testBit r.shares.length) (2 ^ r.shares.length)
  have cb : ∀ p, covB (tornI r) (differI r) r.shares.length p = covB (tornI r) (differI r) r.shares.length (numS p r.shares.length).testBit := fun p => covB_congr fun i hi => (numS_bit p _ i hi).symm
  have nb : ∀ p, numsL p r.shares.length = numsL (numS p r.shares.length).testBit r.shares.length := fun p => numsL_congr fun i hi => (numS_bit p _ i hi).symm
  rw [e1]
  unfold againB againF
  cases hb : refF (fun s => covB (tornI r) (differI r) r.shares.length s.testBit) (fun s => numsL s.testBit r.shares.length) (2 ^ r.shares.length) with
  | none =>
    have := h2 hb _ (numS_lt (fun _ => true) r.shares.length)
    change covB _ _ _ (numS (fun _ => true) r.shares.length).testBit = false at this
    rw [← cb] at this
    rw [cov_iff.2 ⟨fun _ _ _ => rfl, fun _ _ _ => .inl rfl⟩] at this
    cases this
  | some b =>
    obtain ⟨⟨j, hj, hc, rfl⟩, h3⟩ := h1 b hb
    refine ⟨⟨j.testBit, rfl, hc⟩, fun p hp => ?_⟩
    rw [cb] at hp
    rw [nb]
    exact h3 _ (numS_lt p _) hp
theorem mem_numsL {p : Nat → Bool} {n : Nat} {x : Int} : x ∈ numsL p n ↔ ∃ i : Nat, i < n ∧ p i = true ∧ x = i := by
  unfold numsL
  simp only [List.mem_map, List.mem_filter, List.mem_range]
  constructor
  · rintro ⟨i, ⟨h1, h2⟩, rfl⟩; exact ⟨i, h1, h2, rfl⟩
  · rintro ⟨i, h1, h2, rfl⟩; exact ⟨i, ⟨h1, h2⟩, rfl⟩
def hasL (l : List Int) (i : Nat) : Bool := l.any fun x => decide (x = (i : Int))
theorem hasL_iff {l : List Int} {i : Nat} : hasL l i = true ↔ (i : Int) ∈ l := by
  unfold hasL
  simp
theorem hasL_nums {p : Nat → Bool} {n i : Nat} (h : i < n) : hasL (numsL p n) i = p i := by
  rw [Bool.eq_iff_iff, hasL_iff, mem_numsL]
  constructor
  · rintro ⟨j, h1, h2, h3⟩
    obtain rfl : i = j := by omega
    exact h2
  · intro h2; exact ⟨i, h, h2, rfl⟩
structure PrfOK (d : Nat → Bool) (k : Nat) : Prop where
  mem : ∀ p ∈ prf1 d k, ∃ i : Nat, p = ((i : Int), (i : Int) + 1) ∧ i < k ∧ d i = true ∧ p.2 ≤ prf2 d k
  pw : (prf1 d k).Pairwise fun p q => p.2 < q.1
  last : prf2 d k = -1 ∨ ∃ p ∈ prf1 d k, p.2 = prf2 d k
  cov : ∀ i, i < k → d i = true → ∃ p ∈ prf1 d k, p.2 = i ∨ p.2 = i + 1
open Go Pm
set_option maxHeartbeats 4000000
set_option maxRecDepth 100000
open Go Pm
structure Later (r x : Ro) (h : Int) : Prop where
  sn : x.shares.length = r.shares.length
  hn : x.helpers.length = r.helpers.length
  s : ∀ j (h1 : j < r.shares.length) (h2 : j < x.shares.length), x.shares[j].helper = r.shares[j].helper ∧ (r.shares[j].helper = h → r.shares[j].sent ≤ x.shares[j].sent) ∧ x.shares[j].fr = r.shares[j].fr ∧ x.shares[j].to = r.shares[j].to
  h : ∀ (h1 : h.toNat < r.helpers.length) (h2 : h.toNat < x.helpers.length), r.helpers[h.toNat].post ≤ x.helpers[h.toNat].post ∧ x.helpers[h.toNat].rate ≤ r.helpers[h.toNat].rate
open Go Pm
set_option maxHeartbeats 4000000
set_option maxRecDepth 100000
open Go Pm
set_option maxHeartbeats 4000000
set_option maxRecDepth 100000
end Go.Proofs.YtagfopbijboajaaGreatDoor
