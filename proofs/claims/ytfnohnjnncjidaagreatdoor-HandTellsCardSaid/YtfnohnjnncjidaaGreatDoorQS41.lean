import Derived.Test.YtfnohnjnncjidaaGreatDoorQS17
import Derived.Test.YtfnohnjnncjidaaGreatDoorQS38
import Derived.Test.YtfnohnjnncjidaaGreatDoorQS40
namespace Go.Proofs.YtfnohnjnncjidaaGreatDoor
open Go Pm
set_option linter.unusedSimpArgs false
set_option linter.unusedVariables false
open Go Pm
open Go Pm
open Go Pm
theorem good_text {r : Ro} (hg : Good r) : textB r.text = true := by
  cases h : textB r.text with
  | true => rfl
  | false => have := hg.e; simp [roundE, h] at this
open Go Pm
theorem leftD_iff (r : Ro) (n : Nat) : leftD r n = true ↔ n < (linesL r.text).length ∧ ∀ (j : Nat) (hj : j < r.shares.length), sureB r (againP r) j = true → ¬ (r.shares[j].fr ≤ n ∧ (n : Int) ≤ r.shares[j].to) := by
  unfold leftD
  rw [List.any_eq_true]
  have hm := fun x => mem_leftL (linesL r.text).length r.shares (sureB r (againP r)) x r.shares.length (Nat.le_refl _)
  constructor
  · rintro ⟨y, hy, he⟩
    obtain rfl := of_decide_eq_true he
    obtain ⟨h1, h2⟩ := (hm _).1 hy
    exact ⟨by omega, fun j hj hs => h2 j hj hj hs⟩
  · rintro ⟨h1, h2⟩
    exact ⟨(n : Int), (hm _).2 ⟨⟨by omega, by omega⟩, fun j hj _ hs => h2 j hj hs⟩, by simp⟩
instance slDec : DecidableEq Sl := fun a b =>
  if h : a.p = b.p ∧ a.word = b.word ∧ a.bef = b.bef ∧ a.aft = b.aft then isTrue (by
    obtain ⟨h1, h2, h3, h4⟩ := h
    cases a; cases b
    simp only at h1 h2 h3 h4
    rw [h1, h2, h3, h4])
  else isFalse (fun e => h (by rw [e]; exact ⟨rfl, rfl, rfl, rfl⟩))
open Go Pm
theorem plc_idx : ∀ (t : List Ch) (m n k j : Nat), (plc m t)[n]? = some (k, j) → m ≤ k ∧ n = (linesL (t.take (k - m))).length + j
  | [], m, n, k, j, h => by simp [plc] at h
  | ch :: r, m, n, k, j, h => by
    simp only [plc] at h
    by_cases hn : n < ch.lines.length
    · rw [List.getElem?_append_left (by simpa using hn), List.getElem?_map, List.getElem?_range hn] at h
      simp only [Option.map_some, Option.some.injEq, Prod.mk.injEq] at h
      obtain ⟨rfl, rfl⟩ := h
      exact ⟨Nat.le_refl _, by simp [linesL]⟩
    · rw [List.getElem?_append_right (by simp; omega)] at h
      simp only [List.length_map, List.length_range] at h
      obtain ⟨h1, h2⟩ := plc_idx r (m + 1) _ k j h
      have e : k - m = (k - (m + 1)) + 1 := by omega
      refine ⟨by omega, ?_⟩
      rw [e, List.take_succ_cons]
      have : linesL (ch :: r.take (k - (m + 1))) = ch.lines ++ linesL (r.take (k - (m + 1))) := by simp [linesL]
      rw [this, List.length_append]
      omega
theorem plc_at (t : List Ch) : ∀ (k j : Nat) (hk : k < t.length), j < t[k].lines.length → (plc 0 t)[(linesL (t.take k)).length + j]? = some (k, j) := by
  intro k j hk hj
  have e : plc 0 t = plc 0 (t.take (k + 1)) ++ plc (t.take (k + 1)).length (t.drop (k + 1)) := by
    conv => lhs; rw [← List.take_append_drop (k + 1) t, plc_app, Nat.zero_add]
  have hl := plc_len (t.take k) 0
  rw [e, plc_step t k hk, List.append_assoc, List.getElem?_append_right (by omega), hl, Nat.add_sub_cancel_left, List.getElem?_append_left (by simpa using hj), List.getElem?_map, List.getElem?_range hj]
  rfl
theorem lnSl_get (c : Cu) (t : List Ch) (n : Nat) (hn : n < (linesL t).length) : ∃ k j, ∃ (hk : k < t.length) (hj : j < t[k].lines.length), n = (linesL (t.take k)).length + j ∧ lnSl c t n = lineSl c k t[k].lines j t[k].lines[j].length := by
  have hlt : n < (plc 0 t).length := by rw [plc_len]; exact hn
  obtain ⟨⟨k, j⟩, h⟩ : ∃ p, (plc 0 t)[n]? = some p := ⟨_, List.getElem?_eq_getElem hlt⟩
  obtain ⟨h1, h2, _, h4⟩ := lnSl_at c t n k j h
  obtain ⟨_, h5⟩ := plc_idx t 0 n k j h
  exact ⟨k, j, h1, h2, by simpa using h5, h4⟩
theorem slAt_p (c : Cu) (k : Nat) (ls : List (List ByteArray)) (n w : Nat) (hn : n < ls.length) (hw : w < ls[n].length) : (slAt c k ls n w).p = (k, n, w) := by
  unfold slAt slOf
  simp only
  rw [atF_at k ls 0 n w hn hw]
  simp
theorem lnSl_p (c : Cu) (t : List Ch) (n w : Nat) (hn : n < (linesL t).length) (hw : w < (lnSl c t n).length) : ∃ k j, (plc 0 t)[n]? = some (k, j) ∧ (lnSl c t n)[w].p = (k, j, w) := by
  obtain ⟨k, j, hk, hj, e, h⟩ := lnSl_get c t n hn
  refine ⟨k, j, by rw [e]; exact plc_at t k j hk hj, ?_⟩
  have hw' : w < t[k].lines[j].length := by rw [h] at hw; simpa [lineSl] using hw
  have e2 : (lnSl c t n)[w] = slAt c k t[k].lines j w := by
    have : (lnSl c t n)[w]? = some (slAt c k t[k].lines j w) := by
      rw [h]; unfold lineSl
      rw [List.getElem?_map, List.getElem?_range hw']; rfl
    rw [List.getElem?_eq_getElem hw] at this
    exact Option.some.inj this
  rw [e2]
  exact slAt_p c k _ j w hj hw'
theorem lnSl_pos {t : List Ch} (ht : textB t = true) (c : Cu) (n : Nat) (hn : n < (linesL t).length) : 0 < (lnSl c t n).length := by
  obtain ⟨k, j, hk, hj, e, h⟩ := lnSl_get c t n hn
  rw [h]
  have := ((textB_bd ht).2 _ (List.getElem_mem hk)).2 _ (List.getElem_mem hj)
  simp only [lineB, inB, Bool.and_eq_true, decide_eq_true_eq] at this
  simp only [lineSl, List.length_map, List.length_range]
  omega
theorem chSl_lines (c : Cu) (k : Nat) (ls : List (List ByteArray)) : ∀ n, n ≤ ls.length → chSl c k ls (offs ls n) = (List.range n).flatMap fun j => lineSl c k ls j ((ls[j]?).getD []).length
  | 0, _ => by simp [chSl, offs]
  | n + 1, hn => by
    have ih := chSl_lines c k ls n (by omega)
    have e : offs ls (n + 1) = offs ls n + ls[n].length := by
      unfold offs
      rw [List.take_add_one, List.getElem?_eq_getElem (by omega), List.flatten_append, List.length_append]; simp
    rw [List.range_succ, List.flatMap_append, ← ih, e]
    simp only [List.flatMap_cons, List.flatMap_nil, List.append_nil]
    rw [List.getElem?_eq_getElem (by omega), Option.getD_some]
    unfold chSl lineSl slAt
    rw [List.range_add, List.map_append, List.map_map]
    rfl
theorem all_lines (c : Cu) (t : List Ch) : ∀ k, k ≤ t.length → allSl c t k = dbtL c t (fun _ => true) (linesL (t.take k)).length
  | 0, _ => by simp [allSl, linesL, dbtL]
  | k + 1, hk => by
    have ih := all_lines c t k (by omega)
    have hkl : k < t.length := by omega
    rw [allSl_succ c t k hkl, ih, linesL_step t k hkl, List.length_append]
    have hoff : offs t[k].lines t[k].lines.length = t[k].lines.flatten.length := by unfold offs; rw [List.take_length]
    rw [← hoff, chSl_lines c k _ _ (Nat.le_refl _)]
    have key : ∀ j, j ≤ t[k].lines.length → dbtL c t (fun _ => true) ((linesL (t.take k)).length + j) = dbtL c t (fun _ => true) (linesL (t.take k)).length ++ (List.range j).flatMap fun i => lineSl c k t[k].lines i ((t[k].lines[i]?).getD []).length := by
      intro j
      induction j with
      | zero => intro _; simp
      | succ j ihj =>
        intro hj
        have hp := plc_at t k j hkl (by omega)
        obtain ⟨_, _, _, h4⟩ := lnSl_at c t _ k j hp
        rw [← Nat.add_assoc, dbtL, ihj (by omega), if_pos rfl, h4, List.range_succ, List.flatMap_append]
        simp only [List.flatMap_cons, List.flatMap_nil, List.append_nil]
        rw [List.getElem?_eq_getElem (by omega), Option.getD_some, List.append_assoc]
    exact (key _ (Nat.le_refl _)).symm
theorem all_dbt (c : Cu) (t : List Ch) : allSl c t t.length = dbtL c t (fun _ => true) (linesL t).length := by
  have := all_lines c t t.length (Nat.le_refl _)
  rwa [List.take_length] at this
theorem dbt_split (c : Cu) (t : List Ch) (f : Nat → Bool) (n : Nat) : ∀ N, n < N → ∃ R, dbtL c t f N = dbtL c t f n ++ ((if f n = true then lnSl c t n else []) ++ R) ∧ ∀ x ∈ R, ∃ m, n < m ∧ m < N ∧ x ∈ lnSl c t m
  | 0, h => by omega
  | N + 1, h => by
    by_cases e : n = N
    · subst e
      exact ⟨[], by simp [dbtL], fun x hx => by cases hx⟩
    · obtain ⟨R, h1, h2⟩ := dbt_split c t f n N (by omega)
      refine ⟨R ++ (if f N = true then lnSl c t N else []), by rw [dbtL, h1]; simp only [List.append_assoc], fun x hx => ?_⟩
      rcases List.mem_append.1 hx with hx | hx
      · obtain ⟨m, a1, a2, a3⟩ := h2 x hx
        exact ⟨m, a1, by omega, a3⟩
      · split at hx
        · exact ⟨N, by omega, by omega, hx⟩
        · cases hx
theorem dbt_on (c : Cu) (t : List Ch) (f : Nat → Bool) (n N w : Nat) (hn : n < N) (hf : f n = true) (hw : w < (lnSl c t n).length) : (dbtL c t f N)[(dbtL c t f n).length + w]? = some (lnSl c t n)[w] := by
  obtain ⟨R, h1, _⟩ := dbt_split c t f n N hn
  rw [h1, if_pos hf, List.getElem?_append_right (by omega), Nat.add_sub_cancel_left, List.getElem?_append_left hw, List.getElem?_eq_getElem hw]
structure DbW (c : Cu) (t : List Ch) (f : Nat → Bool) (n w i at' : Nat) : Prop where
  le : n ≤ (linesL t).length
  wd : (n < (linesL t).length ∧ w < (lnSl c t n).length) ∨ (n = (linesL t).length ∧ w = 0)
  i : i = (dbtL c t (fun _ => true) n).length + w
  a : at' = (dbtL c t f n).length + if f n = true then w else 0
theorem dbt_step (c : Cu) (t : List Ch) (f : Nat → Bool) (n : Nat) : (dbtL c t f (n + 1)).length = (dbtL c t f n).length + if f n = true then (lnSl c t n).length else 0 := by
  rw [dbtL, List.length_append]
  split <;> rfl
theorem DbW.start {t : List Ch} (ht : textB t = true) (c : Cu) (f : Nat → Bool) : DbW c t f 0 0 0 0 := by
  refine ⟨Nat.zero_le _, ?_, by simp [dbtL], by simp [dbtL]⟩
  by_cases h : 0 < (linesL t).length
  · exact .inl ⟨h, lnSl_pos ht c 0 h⟩
  · exact .inr ⟨by omega, rfl⟩
theorem DbW.next {c : Cu} {t : List Ch} {f : Nat → Bool} {n w i a : Nat} (ht : textB t = true) (h : DbW c t f n w i a) (hn : n < (linesL t).length) :
    ∃ n' w', DbW c t f n' w' (i + 1) (a + if f n = true then 1 else 0) ∧ ((n' = n ∧ w' = w + 1) ∨ (n' = n + 1 ∧ w' = 0)) := by
  obtain ⟨_, hw, hi, ha⟩ := h
  have hwl : w < (lnSl c t n).length := by omega
  by_cases hl : w + 1 < (lnSl c t n).length
  · refine ⟨n, w + 1, ⟨by omega, .inl ⟨hn, hl⟩, by omega, ?_⟩, .inl ⟨rfl, rfl⟩⟩
    rw [ha]; split <;> omega
  · refine ⟨n + 1, 0, ⟨by omega, ?_, ?_, ?_⟩, .inr ⟨rfl, rfl⟩⟩
    · by_cases h2 : n + 1 < (linesL t).length
      · exact .inl ⟨h2, lnSl_pos ht c _ h2⟩
      · exact .inr ⟨by omega, rfl⟩
    · have := dbt_step c t (fun _ => true) n
      rw [if_pos rfl] at this
      omega
    · have := dbt_step c t f n
      rw [this, ha]
      split <;> simp <;> omega
def sureAt (r : Ro) (A : List Int) (n j : Nat) : Bool := sureB r A j && match r.shares[j]? with
  | some s => inB n s.fr s.to
  | none => false
def sureN (r : Ro) (A : List Int) (n k : Nat) : Bool := (List.range k).any (sureAt r A n)
theorem sureN_succ (r : Ro) (A : List Int) (n k : Nat) : sureN r A n (k + 1) = (sureN r A n k || sureAt r A n k) := by
  unfold sureN
  rw [List.range_succ, List.any_append]; simp
theorem left_sure (r : Ro) (n : Nat) (hn : n < (linesL r.text).length) : leftD r n = !sureN r (againP r) n r.shares.length := by
  rw [Bool.eq_iff_iff, leftD_iff]
  simp only [sureN, Bool.not_eq_true', List.any_eq_false, List.mem_range, sureAt, Bool.and_eq_true, not_and, Bool.not_eq_true]
  constructor
  · rintro ⟨_, h⟩ j hj hs
    rw [List.getElem?_eq_getElem hj]
    simp only [inB, Bool.and_eq_false_iff, decide_eq_false_iff_not]
    have := h j hj hs
    omega
  · intro h
    refine ⟨hn, fun j hj hs => ?_⟩
    have := h j hj hs
    rw [List.getElem?_eq_getElem hj] at this
    simp only [inB, Bool.and_eq_false_iff, decide_eq_false_iff_not] at this
    omega
open Go Pm
set_option maxHeartbeats 4000000
set_option maxRecDepth 100000
end Go.Proofs.YtfnohnjnncjidaaGreatDoor
