import Derived.Test.YtagfopbijboajaaGreatDoorQY23
import Derived.Test.YtagfopbijboajaaGreatDoorQY44
import Derived.Test.YtagfopbijboajaaGreatDoorQY46
import Derived.Test.YtagfopbijboajaaGreatDoorQY47
namespace Go.Proofs.YtagfopbijboajaaGreatDoor
open Go Pm
set_option linter.unusedSimpArgs false
set_option linter.unusedVariables false
set_option maxHeartbeats 4000000
set_option maxRecDepth 100000
open Go Pm
set_option maxHeartbeats 4000000
set_option maxRecDepth 100000
open Go Pm
def kpB (r : Ro) (A : List Int) (i : Nat) : Bool := match r.sheets[i]? with
  | some x => x.back && !(hasL A i)
  | none => false
def wr1 (own : List Ln) (fr : Nat) (ls : List Ln) : Nat → List Ln
  | 0 => own
  | k + 1 => (wr1 own fr ls k).set (fr + k) (ls.getD k [])
theorem wr1_len (own : List Ln) (fr : Nat) (ls : List Ln) : ∀ k, (wr1 own fr ls k).length = own.length
  | 0 => rfl
  | k + 1 => by unfold wr1; rw [List.length_set]; exact wr1_len own fr ls k
theorem wr1_get (own : List Ln) (fr : Nat) (ls : List Ln) (m : Nat) : ∀ k, fr + k ≤ own.length → (wr1 own fr ls k)[m]? = if fr ≤ m ∧ m < fr + k then some (ls.getD (m - fr) []) else own[m]?
  | 0, _ => by rw [if_neg (by omega)]; rfl
  | k + 1, h => by
    unfold wr1
    rw [List.getElem?_set, wr1_len]
    by_cases e : fr + k = m
    · subst e
      rw [if_pos rfl, if_pos (by omega), if_pos (by omega)]
      congr 2
      omega
    · rw [if_neg e, wr1_get own fr ls m k (by omega)]
      by_cases h1 : fr ≤ m ∧ m < fr + k
      · rw [if_pos h1, if_pos (by omega)]
      · rw [if_neg h1, if_neg (by omega)]
def ownW (r : Ro) (A : List Int) : Nat → List Ln
  | 0 => linesL r.text
  | i + 1 => match r.sheets[i]?, r.shares[i]? with
    | some x, some h => if kpB r A i = true then wr1 (ownW r A i) h.fr.toNat x.lines x.lines.length else ownW r A i
    | _, _ => ownW r A i
theorem ownW_succ (r : Ro) (A : List Int) {i : Nat} (h1 : i < r.sheets.length) (h2 : i < r.shares.length) : ownW r A (i + 1) = if kpB r A i = true then wr1 (ownW r A i) r.shares[i].fr.toNat r.sheets[i].lines r.sheets[i].lines.length else ownW r A i := by
  simp [ownW, h1, h2]
theorem ownW_len (r : Ro) (A : List Int) : ∀ i, (ownW r A i).length = (linesL r.text).length
  | 0 => rfl
  | i + 1 => by
    unfold ownW
    split
    · split
      · rw [wr1_len]; exact ownW_len r A i
      · exact ownW_len r A i
    · exact ownW_len r A i
theorem kp_at {r : Ro} {A : List Int} {i : Nat} (h : i < r.sheets.length) : kpB r A i = (r.sheets[i].back && !(hasL A i)) := by simp [kpB, h]
theorem Good.far {r : Ro} (hr : Good r) : ∀ (d i : Nat) (h : i + 2 + d < r.shares.length), (r.shares[i]'(by omega)).to < (r.shares[i + 2 + d]'h).fr
  | 0, i, h => by
    have hb := roundB_of hr.e
    simp only [roundB, Bool.and_eq_true] at hb
    have := allPre_at hb.1.2 h
    unfold shareB at this
    simp only [Bool.and_eq_true, decide_eq_true_eq] at this
    have h3 := this.2
    have e1 : (r.shares.take (i + 2 + 0)).dropLast = r.shares.take (i + 1) := by
      rw [List.dropLast_eq_take, List.take_take, List.length_take]
      congr 1
      omega
    rw [e1, last_take r.shares (i + 1) (by omega) (by omega)] at h3
    simpa using h3
  | d + 1, i, h => by
    have h1 := hr.far d i (by omega)
    have h2 := hr.mono (k := i + 2 + d) (by omega)
    have : r.shares[i + 2 + (d + 1)].fr = r.shares[i + 2 + d + 1].fr := rfl
    rw [this]
    omega
theorem kept_one {r : Ro} (hg : Good r) {i : Nat} (hi : i < r.shares.length) (hk : kpB r (againP r) i = true) : (r.sheets[i]'(by rw [hg.xn]; exact hi)).back = true ∧ ((r.sheets[i]'(by rw [hg.xn]; exact hi)).lines.length : Int) = r.shares[i].to - r.shares[i].fr + 1 := by
  have hx : i < r.sheets.length := by rw [hg.xn]; exact hi
  obtain ⟨⟨s, hs, hc⟩, _⟩ := againP_spec r hg.e
  rw [kp_at hx, hs, hasL_nums hi] at hk
  simp only [Bool.and_eq_true, Bool.not_eq_true'] at hk
  refine ⟨hk.1, ?_⟩
  have h1 := (cov_iff.1 hc).1 i hi
  rw [tornI_at r hi hx, hk.2] at h1
  unfold tornB at h1
  rw [hk.1] at h1
  simp only [Bool.true_and, Bool.not_eq_true', decide_eq_false_iff_not] at h1
  false_or_by_contra
  rename_i hne
  exact absurd (h1 hne) (by simp)
theorem kept_two {r : Ro} (hg : Good r) {i : Nat} (hi : i + 1 < r.shares.length) (h1 : kpB r (againP r) i = true) (h2 : kpB r (againP r) (i + 1) = true) : differI r i = false := by
  obtain ⟨⟨s, hs, hc⟩, _⟩ := againP_spec r hg.e
  have hx : i + 1 < r.sheets.length := by rw [hg.xn]; exact hi
  rw [kp_at (by omega), hs, hasL_nums (by omega)] at h1
  rw [kp_at hx, hs, hasL_nums hi] at h2
  simp only [Bool.and_eq_true, Bool.not_eq_true'] at h1 h2
  cases hd : differI r i with
  | false => rfl
  | true =>
    rcases (cov_iff.1 hc).2 i hi hd with h | h
    · rw [h1.2] at h; cases h
    · rw [h2.2] at h; cases h
theorem ownW_kept {r : Ro} (hg : Good r) : ∀ (i : Nat) (hi : i ≤ r.shares.length) (j : Nat) (hj : j < i), kpB r (againP r) j = true → ∀ m : Nat, (r.shares[j]'(by omega)).fr ≤ m → (m : Int) ≤ (r.shares[j]'(by omega)).to →
    (ownW r (againP r) i)[m]? = some ((r.sheets[j]'(by rw [hg.xn]; omega)).lines.getD (m - (r.shares[j]'(by omega)).fr.toNat) [])
  | 0, _, j, hj => by omega
  | i + 1, hi, j, hj => by
    intro hk m h1 h2
    have hxi : i < r.sheets.length := by rw [hg.xn]; omega
    have hsi : i < r.shares.length := by omega
    have ih := ownW_kept hg i (by omega)
    have hs := hg.s i hsi
    rw [ownW_succ r _ hxi hsi]
    by_cases hki : kpB r (againP r) i = true
    · rw [if_pos hki]
      obtain ⟨b1, b2⟩ := kept_one hg hsi hki
      rw [wr1_get _ _ _ _ _ (by rw [ownW_len]; omega)]
      by_cases hji : j = i
      · subst hji
        rw [if_pos (by omega)]
      · have hsj := hg.s j (by omega)
        split
        · rename_i hin
          by_cases hd : j + 1 = i
          · subst hd
            obtain ⟨a1, a2⟩ := kept_one hg (i := j) (by omega) hk
            have hdf := kept_two hg hsi hk hki
            rw [differI_at r hsi hxi] at hdf
            unfold differB at hdf
            have t1 : tornB r.sheets[j] r.shares[j] = false := by unfold tornB; rw [decide_eq_true a2]; simp
            have t2 : tornB r.sheets[j + 1] r.shares[j + 1] = false := by unfold tornB; rw [decide_eq_true b2]; simp
            rw [a1, b1, t1, t2] at hdf
            simp only [Bool.not_true, Bool.or_self, Bool.not_false, Bool.true_and] at hdf
            have hq := List.any_eq_false.1 hdf (m - r.shares[j + 1].fr.toNat) (List.mem_range.2 (by omega))
            unfold diffAt at hq
            simp only [Bool.not_eq_true', decide_eq_false_iff_not, Classical.not_not] at hq
            have e1 : (r.shares[j + 1].fr + ((m - r.shares[j + 1].fr.toNat : Nat) : Int) - r.shares[j].fr).toNat = m - r.shares[j].fr.toNat := by omega
            have e2 : (r.shares[j + 1].fr + ((m - r.shares[j + 1].fr.toNat : Nat) : Int) - r.shares[j + 1].fr).toNat = m - r.shares[j + 1].fr.toNat := by omega
            rw [e1, e2] at hq
            rw [List.getD_eq_getElem?_getD, List.getD_eq_getElem?_getD, hq]
          · have hf := hg.far (i - j - 2) j (by omega)
            have e : (r.shares[j + 2 + (i - j - 2)]'(by omega)) = r.shares[i] := by congr 1; omega
            rw [e] at hf
            omega
        · exact ih j (by omega) hk m h1 h2
    · rw [if_neg hki]
      by_cases hji : j = i
      · subst hji; exact absurd hk hki
      · exact ih j (by omega) hk m h1 h2
def txtL : List Ch → List Ln → List Ch
  | [], _ => []
  | c :: r, o => ⟨c.id, o.take c.lines.length⟩ :: txtL r (o.drop c.lines.length)
theorem txtL_len : ∀ (t : List Ch) (o : List Ln), (txtL t o).length = t.length
  | [], _ => rfl
  | c :: r, o => by simp [txtL, txtL_len r]
theorem linesL_txtL : ∀ (t : List Ch) (o : List Ln), o.length = (linesL t).length → linesL (txtL t o) = o
  | [], o, h => by
    have : o = [] := List.eq_nil_of_length_eq_zero h
    subst this; rfl
  | c :: r, o, h => by
    have h' : o.length = c.lines.length + (linesL r).length := by rw [h]; simp [linesL]
    have ih := linesL_txtL r (o.drop c.lines.length) (by rw [List.length_drop]; omega)
    show o.take c.lines.length ++ linesL (txtL r (o.drop c.lines.length)) = o
    rw [ih, List.take_append_drop]
theorem textB_txtL : ∀ (t : List Ch) (o : List Ln) (pre pre' : List Ch), pre'.map (·.id) = pre.map (·.id) → o.length = (linesL t).length → (∀ l ∈ o, lineB l = true) → allPre chapB pre t = true → allPre chapB pre' (txtL t o) = true
  | [], _, _, _, _, _, _, _ => rfl
  | c :: r, o, pre, pre', hp, hl, ho, h => by
    have h' : o.length = c.lines.length + (linesL r).length := by rw [hl]; simp [linesL]
    simp only [allPre, Bool.and_eq_true] at h
    simp only [txtL, allPre, Bool.and_eq_true]
    refine ⟨?_, textB_txtL r (o.drop c.lines.length) (pre ++ [c]) _ (by simp [hp]) (by rw [List.length_drop]; omega) (fun l hl => ho l (List.mem_of_mem_drop hl)) h.2⟩
    have h1 := h.1
    unfold chapB at h1 ⊢
    simp only [Bool.and_eq_true] at h1 ⊢
    have ha : (pre'.any fun d => decide (d.id = c.id)) = pre.any fun d => decide (d.id = c.id) := by
      have e : ∀ l : List Ch, (l.any fun d => decide (d.id = c.id)) = (l.map (·.id)).any fun d => decide (d = c.id) := fun l => by rw [List.any_map]; rfl
      rw [e, e, hp]
    refine ⟨⟨⟨h1.1.1.1, ?_⟩, ?_⟩, List.all_eq_true.2 fun l hl => ho l (List.mem_of_mem_take hl)⟩
    · rw [List.length_take, Nat.min_eq_left (by omega)]; exact h1.1.1.2
    · rw [ha]; exact h1.1.2
open Go Pm
theorem wr1_mem (own : List Ln) (fr : Nat) (ls : List Ln) : ∀ k, k ≤ ls.length → ∀ l ∈ wr1 own fr ls k, l ∈ own ∨ l ∈ ls
  | 0, _, l, h => .inl h
  | k + 1, hk, l, h => by
    unfold wr1 at h
    rcases List.mem_or_eq_of_mem_set h with h | h
    · exact wr1_mem own fr ls k (by omega) l h
    · right
      rw [h, List.getD_eq_getElem?_getD, List.getElem?_eq_getElem (by omega)]
      exact List.getElem_mem _
theorem W_line {r : Ro} (hg : Good r) (A : List Int) : ∀ i, ∀ l ∈ ownW r A i, lineB l = true
  | 0, l, h => (good_lines hg).1 l h
  | i + 1, l, h => by
    unfold ownW at h
    split at h
    · rename_i x sh hx hs
      split at h
      · rcases wr1_mem _ _ _ _ (Nat.le_refl _) l h with h | h
        · exact W_line hg A i l h
        · exact (good_lines hg).2 x (List.mem_of_getElem? hx) l h
      · exact W_line hg A i l h
    · exact W_line hg A i l h
theorem txtL_mem : ∀ (t : List Ch) (o : List Ln), ∀ c ∈ txtL t o, (∃ c0 ∈ t, c.lines.length ≤ c0.lines.length) ∧ ∀ l ∈ c.lines, l ∈ o
  | [], _, c, h => by cases h
  | c0 :: r, o, c, h => by
    rcases List.mem_cons.1 h with rfl | h
    · exact ⟨⟨c0, List.mem_cons_self .., by simp; omega⟩, fun l hl => List.mem_of_mem_take hl⟩
    · obtain ⟨⟨c1, h1, h2⟩, h3⟩ := txtL_mem r _ c h
      exact ⟨⟨c1, List.mem_cons_of_mem _ h1, h2⟩, fun l hl => List.mem_of_mem_drop (h3 l hl)⟩
theorem line_ok {l : Ln} (h : lineB l = true) : l.length ≤ 15 ∧ ∀ s ∈ l, s.size ≤ 40 := by
  unfold lineB at h
  simp only [Bool.and_eq_true, inB, decide_eq_true_eq] at h
  refine ⟨by omega, fun s hs => ?_⟩
  have := List.all_eq_true.1 h.2 s hs
  unfold wordB at this
  simp only [Bool.and_eq_true, inB, decide_eq_true_eq] at this
  omega
def newW (r : Ro) : List Ln := ownW r (againP r) r.shares.length
def newR (r : Ro) : Ro := { r with text := txtL r.text (newW r) }
theorem newW_len (r : Ro) : (newW r).length = (linesL r.text).length := ownW_len _ _ _
theorem newR_lines (r : Ro) : linesL (newR r).text = newW r := linesL_txtL _ _ (newW_len r)
theorem newR_text {r : Ro} (hg : Good r) : textB (newR r).text = true := by
  have he := hg.e
  have ht : textB r.text = true := by
    unfold roundE at he
    split at he
    · assumption
    · omega
  unfold textB at ht ⊢
  simp only [Bool.and_eq_true] at ht ⊢
  refine ⟨?_, textB_txtL _ _ _ _ rfl (newW_len r) (W_line hg _ _) ht.2⟩
  show inB ((txtL r.text (newW r)).length : Int) 1 6 = true
  rw [txtL_len]; exact ht.1
theorem newR_e {r : Ro} (hg : Good r) : roundE (newR r) = 0 := by
  unfold roundE
  rw [if_pos (newR_text hg)]
  have hb := roundB_of hg.e
  have : roundB (newR r) = roundB r := by
    unfold roundB
    rw [newR_lines, newW_len]
    rfl
  rw [this, hb]; rfl
theorem newR_okr {r : Ro} (hg : Good r) : OKr (newR r) := by
  obtain ⟨⟨t1, t2⟩, h2, h3, h4⟩ := hg.ok
  refine ⟨⟨?_, fun c hc => ?_⟩, h2, h3, h4⟩
  · show (txtL r.text (newW r)).length ≤ 10
    rw [txtL_len]; exact t1
  · obtain ⟨⟨c0, q1, q2⟩, q3⟩ := txtL_mem _ _ c hc
    have := (t2 c0 q1).1
    exact ⟨by omega, fun l hl => line_ok (W_line hg _ _ l (q3 l hl))⟩
theorem newR_good {r : Ro} (hg : Good r) : Good (newR r) := good_of (newR_okr hg) (newR_e hg)
theorem kept_part {r : Ro} (hg : Good r) {i : Nat} (hi : i < r.shares.length) (hk : kpB r (againP r) i = true) : partA (newR r) i = (r.sheets[i]'(by rw [hg.xn]; exact hi)).lines := by
  have hs := hg.s i hi
  obtain ⟨b1, b2⟩ := kept_one hg hi hk
  have hW := ownW_kept hg r.shares.length (Nat.le_refl _) i hi hk
  have hl := newW_len r
  unfold partA
  have e : (newR r).shares[i]? = some r.shares[i] := List.getElem?_eq_getElem hi
  rw [e]
  simp only
  rw [newR_lines]
  apply List.ext_getElem?
  intro m
  rw [List.getElem?_take, List.getElem?_drop]
  by_cases hm : m < (r.shares[i].to - r.shares[i].fr + 1).toNat
  · rw [if_pos hm]
    have := hW (r.shares[i].fr.toNat + m) (by omega) (by omega)
    unfold newW
    rw [this, show r.shares[i].fr.toNat + m - r.shares[i].fr.toNat = m by omega, List.getD_eq_getElem?_getD, List.getElem?_eq_getElem (by omega)]
    rfl
  · rw [if_neg hm]
    exact (List.getElem?_eq_none (by omega)).symm
end Go.Proofs.YtagfopbijboajaaGreatDoor
