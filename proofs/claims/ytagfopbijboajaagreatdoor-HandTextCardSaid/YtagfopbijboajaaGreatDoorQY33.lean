import Derived.Test.YtagfopbijboajaaGreatDoorQY30
import Derived.Test.YtagfopbijboajaaGreatDoorQY31
namespace Go.Proofs.YtagfopbijboajaaGreatDoor
open Go Pm
set_option linter.unusedSimpArgs false
set_option linter.unusedVariables false
set_option maxHeartbeats 4000000
set_option maxRecDepth 100000
set_option maxHeartbeats 4000000
set_option maxRecDepth 100000
theorem SamePairs_ok (l m : List (Int × Int)) : Gives Tryz.prog 28 [prs 0 l, prs 0 m] (fun _ => bl (decide (l = m))) := by
  refine pure_intro (ow := fun _ => false) Tryz.func28 Tryz.ntmps28 rfl (by kernel_rfl) (by simp) rfl (by decide) fun G hG hOw hNm hB => ?_; simp only [go_sem, hG, hOw]
  have hl := bd_lst hB (List.mem_cons_self ..)
  simp only [List.length_map] at hl
  refine ⟨fun h => ?_, fun h => ?_⟩
  · rw [decide_eq_false]
    rintro rfl
    simp at h
  have hlen : l.length = m.length := by omega
  refine semC_loop (fun k : Nat => St.of [(0, prs 0 l), (1, prs 0 m), (5, i64 k)] []) (fun k => k ≤ l.length ∧ l.take k = m.take k) (fun k => l.length - k) 0 (by simp) (ent_of0 (by (simp only [go_sem]) <;> simp) hNm) ?_
  rintro k ⟨hk, hall⟩
  refine vc_sound _ _ _ ?_; simp only [go_sem, hG, hOw]
  refine ⟨fun hlt => ?_, fun hge => ?_⟩
  · have hkl : k < l.length := by omega
    have hkm : k < m.length := by omega
    refine semC_draw0 mixed (by kernel_rfl) ?_
    simp only [go_sem, hG, hOw]
    (repeat' with_reducible first | refine And.intro ?_ ?_ | intro _ | refine exP ?_ ?_); all_goals try omega
    · rename_i h1
      rw [decide_eq_false]
      rintro rfl
      simp at h1
    · rename_i h1
      refine ⟨k + 1, ⟨by omega, ?_⟩, by omega, ent_of0 (by (simp only [go_sem]) <;> simp) hNm⟩
      have e : l[k] = m[k] := by
        have := h1
        simp at this
        exact Prod.ext this.1 this.2
      rw [List.take_add_one, List.take_add_one, hall, List.getElem?_eq_getElem (by omega), List.getElem?_eq_getElem (by omega), e]
  · rw [take_full hk hge, take_full (by omega) (by omega)] at hall
    rw [hall]; simp
def covB (t d : Nat → Bool) (n : Nat) (p : Nat → Bool) : Bool := (List.range n).all fun i => (!t i || p i) && (!(decide (i + 1 < n) && d i) || p i || p (i + 1))
open Go Pm
theorem befL_irr (l : List Int) : befL l l = false := by
  induction l with
  | nil => rfl
  | cons a r ih => simp [befL, ih]
theorem befL_trans : ∀ {a b c : List Int}, a.length = b.length → b.length = c.length → befL a b = true → befL b c = true → befL a c = true
  | [], _, _, _, _, h, _ => by simp [befL] at h
  | _ :: _, [], _, h, _, _, _ => by simp at h
  | _ :: _, _ :: _, [], _, h, _, _ => by simp at h
  | x :: a, y :: b, z :: c, h1, h2, h3, h4 => by
    simp only [befL] at h3 h4 ⊢
    simp only [List.length_cons, Nat.add_right_cancel_iff] at h1 h2
    by_cases e1 : x = y
    · subst e1
      by_cases e2 : x = z
      · simp only [e2, if_true] at h3 h4 ⊢; exact befL_trans h1 h2 h3 h4
      · simp only [e2, if_false] at h4 ⊢; exact h4
    · simp only [e1, if_false, decide_eq_true_eq] at h3
      by_cases e2 : y = z
      · subst e2; simp [e1]; exact h3
      · simp only [e2, if_false, decide_eq_true_eq] at h4
        have : x ≠ z := by omega
        simp only [this, if_false, decide_eq_true_eq]; omega
theorem befL_total : ∀ {a b : List Int}, a.length = b.length → befL a b = false → befL b a = false → a = b
  | [], [], _, _, _ => rfl
  | [], _ :: _, h, _, _ => by simp at h
  | _ :: _, [], h, _, _ => by simp at h
  | x :: a, y :: b, h, h1, h2 => by
    simp only [befL] at h1 h2
    simp only [List.length_cons, Nat.add_right_cancel_iff] at h
    by_cases e : x = y
    · subst e; simp only [if_true] at h1 h2; rw [befL_total h h1 h2]
    · have e' : ¬ y = x := fun e' => e e'.symm
      simp only [e, e', if_false, decide_eq_false_iff_not] at h1 h2
      omega
theorem beforeB_irr (l : List Int) : beforeB l l = false := by simp [beforeB, befL_irr]
theorem beforeB_len {l m : List Int} (h : l.length = m.length) : beforeB l m = befL l m := by simp [beforeB, h]
theorem beforeB_lt {l m : List Int} (h : l.length < m.length) : beforeB l m = true ∧ beforeB m l = false := by
  have h1 : ¬ (l.length : Int) = m.length := by omega
  have h2 : ¬ (m.length : Int) = l.length := by omega
  simp only [beforeB, h1, h2, if_false, decide_eq_true_eq, decide_eq_false_iff_not]
  omega
theorem beforeB_trans {a b c : List Int} (h1 : beforeB a b = true) (h2 : beforeB b c = true) : beforeB a c = true := by
  rcases Nat.lt_trichotomy a.length b.length with h | h | h
  · rcases Nat.lt_trichotomy b.length c.length with g | g | g
    · exact (beforeB_lt (by omega)).1
    · exact (beforeB_lt (by omega)).1
    · rw [(beforeB_lt g).2] at h2; cases h2
  · rcases Nat.lt_trichotomy b.length c.length with g | g | g
    · exact (beforeB_lt (by omega)).1
    · rw [beforeB_len h] at h1
      rw [beforeB_len g] at h2
      rw [beforeB_len (h.trans g)]
      exact befL_trans h g h1 h2
    · rw [(beforeB_lt g).2] at h2; cases h2
  · rw [(beforeB_lt h).2] at h1; cases h1
theorem beforeB_total {a b : List Int} (h1 : beforeB a b = false) (h2 : beforeB b a = false) : a = b := by
  rcases Nat.lt_trichotomy a.length b.length with h | h | h
  · rw [(beforeB_lt h).1] at h1; cases h1
  · rw [beforeB_len h] at h1
    rw [beforeB_len h.symm] at h2
    exact befL_total h h1 h2
  · rw [(beforeB_lt h).1] at h2; cases h2
theorem beforeB_asym {a b : List Int} (h : beforeB a b = true) : beforeB b a = false := by
  cases e : beforeB b a with
  | false => rfl
  | true => have := beforeB_trans h e; rw [beforeB_irr] at this; cases this
def refF (c : Nat → Bool) (m : Nat → List Int) : Nat → Option (List Int)
  | 0 => none
  | k + 1 => match refF c m k with
    | none => if c k = true then some (m k) else none
    | some b => if (beforeB (m k) b && c k) = true then some (m k) else some b
theorem refF_spec (c : Nat → Bool) (m : Nat → List Int) (k : Nat) : (∀ b, refF c m k = some b → (∃ j, j < k ∧ c j = true ∧ b = m j) ∧ ∀ j, j < k → c j = true → beforeB (m j) b = false) ∧ (refF c m k = none → ∀ j, j < k → c j = false) := by
  induction k with
  | zero => exact ⟨fun b h => by simp [refF] at h, fun _ j h => by omega⟩
  | succ k ih =>
    obtain ⟨ih1, ih2⟩ := ih
    cases hb : refF c m k with
    | none =>
      have hno := ih2 hb
      cases hc : c k with
      | false =>
        have e : refF c m (k + 1) = none := by simp [refF, hb, hc]
        refine ⟨fun b h => (by rw [e] at h; cases h), fun _ j hj => ?_⟩
        rcases Nat.lt_or_eq_of_le (Nat.le_of_lt_succ hj) with h | h
        · exact hno j h
        · rw [h]; exact hc
      | true =>
        have e : refF c m (k + 1) = some (m k) := by simp [refF, hb, hc]
        refine ⟨fun b h => ?_, fun h => (by rw [e] at h; cases h)⟩
        rw [e] at h; cases h
        refine ⟨⟨k, by omega, hc, rfl⟩, fun j hj hcj => ?_⟩
        rcases Nat.lt_or_eq_of_le (Nat.le_of_lt_succ hj) with h | h
        · rw [hno j h] at hcj; cases hcj
        · rw [h]; exact beforeB_irr _
    | some b0 =>
      obtain ⟨⟨j0, g1, g2, g3⟩, g4⟩ := ih1 b0 hb
      cases hcond : (beforeB (m k) b0 && c k) with
      | true =>
        have e : refF c m (k + 1) = some (m k) := by simp only [refF, hb, hcond, if_true]
        simp only [Bool.and_eq_true] at hcond
        refine ⟨fun b h => ?_, fun h => (by rw [e] at h; cases h)⟩
        rw [e] at h; cases h
        refine ⟨⟨k, by omega, hcond.2, rfl⟩, fun j hj hcj => ?_⟩
        rcases Nat.lt_or_eq_of_le (Nat.le_of_lt_succ hj) with h | h
        · cases q : beforeB (m j) (m k) with
          | false => rfl
          | true => have := g4 j h hcj; rw [beforeB_trans q hcond.1] at this; cases this
        · rw [h]; exact beforeB_irr _
      | false =>
        have e : refF c m (k + 1) = some b0 := by simp [refF, hb, hcond]
        refine ⟨fun b h => ?_, fun h => (by rw [e] at h; cases h)⟩
        rw [e] at h; cases h
        refine ⟨⟨j0, by omega, g2, g3⟩, fun j hj hcj => ?_⟩
        rcases Nat.lt_or_eq_of_le (Nat.le_of_lt_succ hj) with h | h
        · exact g4 j h hcj
        · subst h
          simpa [hcj] using hcond
theorem fold_spec (c : List Int → Int) (v : List Int → Bool) (Rel : List Int → List Int → Prop) : ∀ (L2 L1 : List (List Int)) (a : List Int × Int), (∀ y ∈ L1 ++ L2, 0 ≤ c y) → (L1 ++ L2).Pairwise Rel →
    ((∀ y ∈ L1, v y = false) ∧ a = ([], -1) ∨ (a.1 ∈ L1 ∧ v a.1 = true ∧ a.2 = c a.1 ∧ ∀ y ∈ L1, v y = true → c a.1 < c y ∨ (c a.1 = c y ∧ (a.1 = y ∨ Rel a.1 y)))) →
    let f := L2.foldl (bstep c v) a
    ((∀ y ∈ L1 ++ L2, v y = false) ∧ f = ([], -1) ∨ (f.1 ∈ L1 ++ L2 ∧ v f.1 = true ∧ f.2 = c f.1 ∧ ∀ y ∈ L1 ++ L2, v y = true → c f.1 < c y ∨ (c f.1 = c y ∧ (f.1 = y ∨ Rel f.1 y)))) := by
  intro L2
  induction L2 with
  | nil => intro L1 a _ _ h; simpa using h
  | cons y r ih =>
    intro L1 a hc hp h
    have e : L1 ++ y :: r = (L1 ++ [y]) ++ r := by simp
    have hy : 0 ≤ c y := hc y (by simp)
    have hrel : ∀ x ∈ L1, Rel x y := fun x hx => (List.pairwise_append.1 hp).2.2 x hx y (by simp)
    rw [e] at hc hp ⊢
    simp only [List.foldl_cons]
    refine ih (L1 ++ [y]) (bstep c v a y) hc hp ?_
    unfold bstep
    rcases h with ⟨h1, rfl⟩ | ⟨h1, h2, h3, h4⟩
    · cases hv : v y with
      | false =>
        left
        refine ⟨fun z hz => ?_, by simp⟩
        rcases List.mem_append.1 hz with hz | hz
        · exact h1 z hz
        · simp at hz; rw [hz]; exact hv
      | true =>
        right
        simp only [Bool.true_and, Int.reduceNeg, show ((-1 : Int) < 0) by decide, decide_true, Bool.true_or, if_true]
        refine ⟨by simp, hv, by simp, fun z hz hvz => ?_⟩
        rcases List.mem_append.1 hz with hz | hz
        · rw [h1 z hz] at hvz; cases hvz
        · simp at hz; right; exact ⟨by rw [hz], .inl hz.symm⟩
    · right
      have h0 : ¬ a.2 < 0 := by
        rw [h3]
        have := hc a.1 (by simp [h1])
        omega
      by_cases hcond : (v y && (decide (a.2 < 0) || decide (c y < a.2))) = true
      · rw [if_pos hcond]
        simp only [h0, decide_false, Bool.false_or, Bool.and_eq_true, decide_eq_true_eq] at hcond
        refine ⟨by simp, hcond.1, rfl, fun z hz hvz => ?_⟩
        rcases List.mem_append.1 hz with hz | hz
        · left
          rcases h4 z hz hvz with q | ⟨q, _⟩ <;> (show c y < c z; omega)
        · simp at hz; right; exact ⟨by rw [hz], .inl hz.symm⟩
      · rw [if_neg hcond]
        refine ⟨by simp [h1], h2, h3, fun z hz hvz => ?_⟩
        rcases List.mem_append.1 hz with hz | hz
        · exact h4 z hz hvz
        · simp at hz
          subst hz
          simp only [hvz, h0, decide_false, Bool.false_or, Bool.true_and, decide_eq_true_eq] at hcond
          by_cases q : c a.1 = c z
          · exact .inr ⟨q, .inr (hrel _ h1)⟩
          · left; omega
def idxZ (k : Nat) : List Int → List Int
  | [] => []
  | x :: r => if x = 0 then (k : Int) :: idxZ (k + 1) r else idxZ (k + 1) r
theorem idxZ_len {l : List Int} (h : ∀ a ∈ l, a = 0 ∨ a = 1) (k : Nat) : ((idxZ k l).length : Int) = costI l := by
  induction l generalizing k with
  | nil => rfl
  | cons x r ih =>
    have hr := ih (fun a ha => h a (by simp [ha])) (k + 1)
    rcases h x (by simp) with rfl | rfl
    · simp only [idxZ, if_true, List.length_cons, costI]; omega
    · simp only [idxZ, costI]; rw [if_neg (by decide)]; omega
theorem idxZ_ge {l : List Int} (k : Nat) : ∀ x ∈ idxZ k l, (k : Int) ≤ x := by
  induction l generalizing k with
  | nil => intro x h; simp [idxZ] at h
  | cons y r ih =>
    intro x h
    unfold idxZ at h
    split at h
    · rcases List.mem_cons.1 h with rfl | h
      · exact Int.le_refl _
      · have := ih (k + 1) x h; omega
    · have := ih (k + 1) x h; omega
theorem mem_comps {n : Nat} {y : List Int} : y ∈ comps n ↔ y.length = n ∧ ∀ a ∈ y, a = 0 ∨ a = 1 := by
  induction n generalizing y with
  | zero => simp [comps]; intro h; subst h; simp
  | succ n ih =>
    simp only [comps, List.mem_append, List.mem_map]
    constructor
    · rintro (⟨z, hz, rfl⟩ | ⟨z, hz, rfl⟩) <;> (obtain ⟨h1, h2⟩ := ih.1 hz; refine ⟨by simp [h1], fun a ha => ?_⟩; rcases List.mem_cons.1 ha with rfl | ha)
      · exact .inl rfl
      · exact h2 a ha
      · exact .inr rfl
      · exact h2 a ha
    · rintro ⟨h1, h2⟩
      cases y with
      | nil => simp at h1
      | cons x r =>
        have hr : r ∈ comps n := ih.2 ⟨by simpa using h1, fun a ha => h2 a (by simp [ha])⟩
        rcases h2 x (by simp) with rfl | rfl
        · exact .inl ⟨r, hr, rfl⟩
        · exact .inr ⟨r, hr, rfl⟩
def relZ (a b : List Int) : Prop := ∀ k, costI a = costI b → befL (idxZ k a) (idxZ k b) = true
theorem comps_pairwise (n : Nat) : (comps n).Pairwise relZ := by
  induction n with
  | zero => simp [comps]
  | succ n ih =>
    simp only [comps]
    rw [List.pairwise_append]
    refine ⟨?_, ?_, ?_⟩
    · rw [List.pairwise_map]
      refine ih.imp fun {a b} h k hc => ?_
      simp only [idxZ, if_true, befL]
      exact h (k + 1) (by simp only [costI] at hc; omega)
    · rw [List.pairwise_map]
      refine ih.imp fun {a b} h k hc => ?_
      simp only [idxZ]
      rw [if_neg (by decide), if_neg (by decide)]
      exact h (k + 1) (by simp only [costI] at hc; omega)
    · intro a ha b hb k hc
      obtain ⟨a', ha', rfl⟩ := List.mem_map.1 ha
      obtain ⟨b', hb', rfl⟩ := List.mem_map.1 hb
      simp only [idxZ, if_true]
      rw [if_neg (by decide)]
      have hl := idxZ_len (mem_comps.1 hb').2 (k + 1)
      have hca := (costI_le (mem_comps.1 ha').2).1
      simp only [costI] at hc
      cases hz : idxZ (k + 1) b' with
      | nil => rw [hz] at hl; simp at hl; omega
      | cons z zs =>
        have := idxZ_ge (k + 1) z (by rw [hz]; simp)
        have hne : ¬ (k : Int) = z := by omega
        simp only [befL, hne, if_false, decide_eq_true_eq]
        omega
theorem nums_idxZ (l : List Int) : numsL (fun i => decide (getI l i = 0)) l.length = idxZ 0 l := by
  have gen : ∀ (l : List Int) (k : Nat) (f : Nat → Bool), (∀ i, i < l.length → f (k + i) = decide (getI l i = 0)) → (((List.range' k l.length).filter f).map Int.ofNat) = idxZ k l := by
    intro l
    induction l with
    | nil => intro k f _; simp [idxZ]
    | cons x r ih =>
      intro k f hf
      rw [List.length_cons, List.range'_succ]
      have h0 := hf 0 (by simp)
      simp only [Nat.add_zero, getI, List.getD_cons_zero] at h0
      have hr := ih (k + 1) f (fun i hi => by
        have := hf (i + 1) (by simp; omega)
        rw [show k + 1 + i = k + (i + 1) by omega, this]
        simp [getI])
      unfold idxZ
      by_cases hx : x = 0
      · rw [List.filter_cons, h0]; simp only [hx, decide_true, if_true, List.map_cons, hr]; rfl
      · rw [List.filter_cons, h0]; simp only [hx, decide_false, if_false, Bool.false_eq_true]; exact hr
  unfold numsL
  rw [List.range_eq_range']
  exact gen l 0 _ fun i _ => by simp
def numS (q : Nat → Bool) : Nat → Nat
  | 0 => 0
  | n + 1 => if q n = true then 2 ^ n + numS q n else numS q n
theorem numS_lt (q : Nat → Bool) (n : Nat) : numS q n < 2 ^ n := by
  induction n with
  | zero => simp [numS]
  | succ n ih => unfold numS; rw [Nat.pow_succ]; split <;> omega
theorem numS_bit (q : Nat → Bool) : ∀ (n i : Nat), i < n → (numS q n).testBit i = q i
  | n + 1, i, h => by
    have hlt := numS_lt q n
    unfold numS
    by_cases e : i = n
    · subst e
      have h0 : (numS q i).testBit i = false := Nat.testBit_lt_two_pow hlt
      split
      · rename_i hq; rw [Nat.testBit_two_pow_add_eq, h0, hq]; rfl
      · rename_i hq; rw [h0]; simp at hq; exact hq.symm
    · have hi : i < n := by omega
      split
      · rw [Nat.testBit_two_pow_add_gt hi]; exact numS_bit q n i hi
      · exact numS_bit q n i hi
theorem numsL_congr {p q : Nat → Bool} {n : Nat} (h : ∀ i, i < n → p i = q i) : numsL p n = numsL q n := by
  unfold numsL
  congr 1
  exact List.filter_congr fun i hi => h i (List.mem_range.1 hi)
theorem covB_congr {t d p q : Nat → Bool} {n : Nat} (h : ∀ i, i < n → p i = q i) : covB t d n p = covB t d n q := by
  unfold covB
  rw [Bool.eq_iff_iff]
  simp only [List.all_eq_true, List.mem_range]
  refine forall_congr' fun i => forall_congr' fun hi => ?_
  rw [h i hi]
  by_cases h1 : i + 1 < n
  · rw [h (i + 1) h1]
  · simp [h1]
theorem okB_covB (t d : Nat → Bool) {n : Nat} {y : List Int} (hl : y.length = n) (h01 : ∀ a ∈ y, a = 0 ∨ a = 1) : okB (numsL t n) (prsL d (n - 1)) y = covB t d n (fun i => decide (getI y i = 0)) := by
  have hz : ∀ i, i < n → (getI y i = 0 ∨ getI y i = 1) := fun i hi => by
    rw [getI_at (by omega)]; exact h01 _ (List.getElem_mem _)
  rw [Bool.eq_iff_iff]
  have hL : okB (numsL t n) (prsL d (n - 1)) y = true ↔ (∀ i, i < n → t i = true → getI y i ≠ 1) ∧ ∀ i, i < n - 1 → d i = true → ¬ (getI y i = 1 ∧ getI y (i + 1) = 1) := by
    unfold okB
    rw [Bool.not_eq_true', Bool.or_eq_false_iff]
    refine and_congr ?_ ?_
    · rw [List.any_eq_false]
      unfold numsL
      constructor
      · intro h i hi ht e
        have := h (i : Int) (List.mem_map.2 ⟨i, List.mem_filter.2 ⟨List.mem_range.2 hi, ht⟩, rfl⟩)
        simp [e] at this
      · intro h x hx
        obtain ⟨i, hi, rfl⟩ := List.mem_map.1 hx
        obtain ⟨h1, h2⟩ := List.mem_filter.1 hi
        have := h i (List.mem_range.1 h1) h2
        simpa using this
    · rw [List.any_eq_false]
      unfold prsL
      constructor
      · intro h i hi hd e
        have := h (ofP y ((i : Int), (i : Int) + 1)) (List.mem_map.2 ⟨_, List.mem_map.2 ⟨i, List.mem_filter.2 ⟨List.mem_range.2 hi, hd⟩, rfl⟩, rfl⟩)
        have e2 : ((i : Int) + 1).toNat = i + 1 := by omega
        simp [ofP, e2, e.1, e.2] at this
      · intro h x hx
        obtain ⟨p, hp, rfl⟩ := List.mem_map.1 hx
        obtain ⟨i, hi, rfl⟩ := List.mem_map.1 hp
        obtain ⟨h1, h2⟩ := List.mem_filter.1 hi
        have := h i (List.mem_range.1 h1) h2
        have e2 : ((i : Int) + 1).toNat = i + 1 := by omega
        simp only [ofP, e2, Int.toNat_natCast, Prod.mk.injEq, decide_eq_true_eq]
        exact this
  rw [hL]
  unfold covB
  rw [List.all_eq_true]
  constructor
  · rintro ⟨h1, h2⟩ i hi
    have hi := List.mem_range.1 hi
    have a1 := h1 i hi
    have z1 := hz i hi
    rw [Bool.and_eq_true]
    constructor
    · cases ht : t i with
      | false => rfl
      | true =>
        have := a1 ht
        have : getI y i = 0 := by omega
        simp [this]
    · cases hd : (decide (i + 1 < n) && d i) with
      | false => simp
      | true =>
        simp only [Bool.and_eq_true, decide_eq_true_eq] at hd
        have a2 := h2 i (by omega) hd.2
        have z2 := hz (i + 1) hd.1
        by_cases e : getI y i = 0
        · simp [e]
        · have : getI y (i + 1) = 0 := by omega
          simp [this]
  · intro h
    constructor
    · intro i hi ht e
      have := h i (List.mem_range.2 hi)
      simp [ht, e] at this
    · rintro i hi hd ⟨e1, e2⟩
      have := h i (List.mem_range.2 (by omega))
      have h1 : i + 1 < n := by omega
      simp [hd, e1, e2, h1] at this
theorem again_eq (t d : Nat → Bool) (n : Nat) : numsL (fun i => decide (getI (bfold costI (okB (numsL t n) (prsL d (n - 1))) ([], -1) [] n).1 i = 0)) (bfold costI (okB (numsL t n) (prsL d (n - 1))) ([], -1) [] n).1.length
    = (refF (fun s => covB t d n s.testBit) (fun s => numsL s.testBit n) (2 ^ n)).getD [] := by
  have e0 : bfold costI (okB (numsL t n) (prsL d (n - 1))) ([], -1) [] n = (comps n).foldl (bstep costI (okB (numsL t n) (prsL d (n - 1)))) ([], -1) := by
    unfold bfold
    congr 1
    simp
  rw [e0, nums_idxZ]
  have hF := fold_spec costI (okB (numsL t n) (prsL d (n - 1))) relZ (comps n) [] ([], -1) (fun y hy => (costI_le (mem_comps.1 (by simpa using hy)).2).1) (by simpa using comps_pairwise n) (.inl ⟨by simp, rfl⟩)
  simp only [List.nil_append] at hF
  obtain ⟨best, hbest⟩ : ∃ b, b = ((comps n).foldl (bstep costI (okB (numsL t n) (prsL d (n - 1)))) ([], -1)) := ⟨_, rfl⟩
  rw [← hbest] at hF ⊢
  -- all parts are enough
  have hall : List.replicate n (0 : Int) ∈ comps n := mem_comps.2 ⟨by simp, fun a ha => .inl (List.eq_of_mem_replicate ha)⟩
  have hcall : covB t d n (fun _ => true) = true := by unfold covB; simp
  have hvall : okB (numsL t n) (prsL d (n - 1)) (List.replicate n 0) = true := by
    rw [okB_covB t d (by simp) (mem_comps.1 hall).2, ← hcall]
    refine covB_congr fun i hi => ?_
    simp [getI, List.getD, List.getElem?_replicate, hi]
  rcases hF with ⟨h1, _⟩ | ⟨h1, h2, _, h4⟩
  · rw [h1 _ hall] at hvall; cases hvall
  obtain ⟨hlen, h01⟩ := mem_comps.1 h1
  obtain ⟨R1, R2⟩ := refF_spec (fun s => covB t d n s.testBit) (fun s => numsL s.testBit n) (2 ^ n)
  cases hr : refF (fun s => covB t d n s.testBit) (fun s => numsL s.testBit n) (2 ^ n) with
  | none =>
    have := R2 hr (numS (fun _ => true) n) (numS_lt _ n)
    rw [covB_congr (q := fun _ => true) (fun i hi => numS_bit _ n i hi), hcall] at this
    cases this
  | some b =>
    obtain ⟨⟨j, hj, hcj, rfl⟩, hmin⟩ := R1 b hr
    simp only [Option.getD_some]
    refine beforeB_total ?_ ?_
    · -- the program's best, as a set
      have hs := hmin (numS (fun i => decide (getI best.1 i = 0)) n) (numS_lt _ n) ?_
      · rw [← nums_idxZ, hlen, ← numsL_congr (fun i hi => numS_bit (fun i => decide (getI best.1 i = 0)) n i hi)]
        exact hs
      · rw [covB_congr (q := fun i => decide (getI best.1 i = 0)) (fun i hi => numS_bit _ n i hi), ← okB_covB t d hlen h01]
        exact h2
    · -- the document's best, as a list
      obtain ⟨y, hy⟩ : ∃ y : List Int, y = (List.range n).map fun i => if j.testBit i = true then 0 else 1 := ⟨_, rfl⟩
      have hyl : y.length = n := by rw [hy]; simp
      have hyg : ∀ i, i < n → getI y i = if j.testBit i = true then 0 else 1 := fun i hi => by
        rw [getI_at (by omega)]
        simp [hy]
      have hy01 : ∀ a ∈ y, a = 0 ∨ a = 1 := fun a ha => by
        rw [hy] at ha
        obtain ⟨i, _, rfl⟩ := List.mem_map.1 ha
        split <;> simp
      have hyb : ∀ i, i < n → decide (getI y i = 0) = j.testBit i := fun i hi => by
        rw [hyg i hi]
        cases j.testBit i <;> simp
      have hym : y ∈ comps n := mem_comps.2 ⟨hyl, hy01⟩
      have hyv : okB (numsL t n) (prsL d (n - 1)) y = true := by
        rw [okB_covB t d hyl hy01, covB_congr hyb]; exact hcj
      have hyn : numsL j.testBit n = idxZ 0 y := by
        rw [← nums_idxZ, hyl]; exact (numsL_congr hyb).symm
      rw [hyn]
      have l1 := idxZ_len h01 0
      have l2 := idxZ_len hy01 0
      rcases h4 y hym hyv with q | ⟨q, q2⟩
      · exact (beforeB_lt (by omega)).2
      · rcases q2 with rfl | q2
        · exact beforeB_irr _
        · refine beforeB_asym ?_
          rw [beforeB_len (by omega)]
          exact q2 0 q
set_option maxHeartbeats 4000000
set_option maxRecDepth 100000
def againF (r : Ro) (k : Nat) : Option (List Int) := refF (fun s => covB (tornI r) (differI r) r.shares.length s.testBit) (fun s => numsL s.testBit r.shares.length) k
def againB (r : Ro) (k : Nat) : List Int := (againF r k).getD []
def prfL (d : Nat → Bool) : Nat → List (Int × Int) × Int
  | 0 => ([], -1)
  | k + 1 => if (decide ((prfL d k).2 < k) && d k) = true then ((prfL d k).1 ++ [((k : Int), (k : Int) + 1)], (k : Int) + 1) else prfL d k
def prf1 (d : Nat → Bool) (k : Nat) : List (Int × Int) := (prfL d k).1
def prf2 (d : Nat → Bool) (k : Nat) : Int := (prfL d k).2
theorem prf1_zero (d : Nat → Bool) : prf1 d 0 = [] := rfl
theorem prf2_zero (d : Nat → Bool) : prf2 d 0 = -1 := rfl
attribute [go_sem] prf1_zero prf2_zero
theorem prf_yes {d : Nat → Bool} {k : Nat} (h : prf2 d k < k) (h2 : d k = true) : prf1 d (k + 1) = prf1 d k ++ [((k : Int), (k : Int) + 1)] ∧ prf2 d (k + 1) = (k : Int) + 1 := by
  unfold prf2 at h
  have e : prfL d (k + 1) = ((prfL d k).1 ++ [((k : Int), (k : Int) + 1)], (k : Int) + 1) := by simp [prfL, h, h2]
  unfold prf1 prf2
  rw [e]; exact ⟨rfl, rfl⟩
theorem prf_no {d : Nat → Bool} {k : Nat} (h : ¬ (prf2 d k < k) ∨ d k = false) : prf1 d (k + 1) = prf1 d k ∧ prf2 d (k + 1) = prf2 d k := by
  unfold prf2 at h
  have e : prfL d (k + 1) = prfL d k := by
    rw [prfL, if_neg]
    rcases h with h | h <;> simp [h]
  unfold prf1 prf2
  rw [e]; exact ⟨rfl, rfl⟩
theorem prf2_le (d : Nat → Bool) (k : Nat) : -1 ≤ prf2 d k ∧ prf2 d k ≤ k := by
  induction k with
  | zero => simp [prf2, prfL]
  | succ k ih =>
    by_cases h : prf2 d k < k ∧ d k = true
    · rw [(prf_yes h.1 h.2).2]; omega
    · rw [(prf_no (by rcases Decidable.not_and_iff_or_not.1 h with h | h; exact .inl h; exact .inr (by simpa using h))).2]; omega
def proofL (r : Ro) : List (Int × Int) := if roundE r = 0 then prf1 (differI r) (r.shares.length - 1) else []
end Go.Proofs.YtagfopbijboajaaGreatDoor
