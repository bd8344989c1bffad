import Derived.Test.YtfnohnjnncjidaaGreatDoorQP47
import Derived.Test.YtfnohnjnncjidaaGreatDoorQP49
namespace Go.Proofs.YtfnohnjnncjidaaGreatDoor
open Go Pm
set_option linter.unusedSimpArgs false
set_option linter.unusedVariables false
set_option maxHeartbeats 4000000
set_option maxRecDepth 100000
theorem bkline_ok (t : List Ch) (c n w : Nat) (hc : c < t.length) (hn : n < t[c].lines.length) (h1 : t.length ≤ 1000) (h2 : t[c].lines.length ≤ 1000) : Gives Tryz.prog 100 [.fp [chs 0 t], .agg [i64 c, i64 n, i64 w]] (fun _ => strs 0 t[c].lines[n]) := by
  have e1 : inB c 0 (t.length - 1) = true := by simp [inB]; omega
  have e2 : inB n 0 (t[c].lines.length - 1) = true := by simp [inB]; omega
  refine pure_intro (ow := fun _ => false) Tryz.func100 Tryz.ntmps100 rfl (by kernel_rfl) (by simp) rfl (by decide) fun G hG hOw hNm hB => ?_; simp only [go_sem, hG, hOw]
  refine semC_draw0 mixed (by kernel_rfl) ?_
  simp only [go_sem, hG, hOw]
  (repeat' (first | (with_reducible refine And.intro ?_ ?_) | (with_reducible intro _) | (with_reducible refine exP ?_ ?_))); all_goals (try omega)
  refine ⟨_, callGives (inL_one 0 (t.length - 1) c) (by first | exact Subs.refl _ | (repeat' (first | exact Subs.nil | exact Sub.refl _ | exact Sub.lo (Nat.zero_le _) | refine Subs.cons ?_ ?_ | refine Subs.agg ?_ | refine Subs.fp ?_ | refine Subs.tup ?_ | refine Sub.map (Nat.zero_le _) (fun _ => ?_)))) (by first | rfl | simp [allP, all0, pureV, pure0, *]), ?_⟩
  simp (config := { maxSteps := 2000000 }) only [go_sem, hG, hOw, e1]
  (repeat' (first | (with_reducible refine And.intro ?_ ?_) | (with_reducible intro _) | (with_reducible refine exP ?_ ?_))); all_goals (try omega)
  refine ⟨_, callGives (inL_one 0 (t[c].lines.length - 1) n) (by first | exact Subs.refl _ | (repeat' (first | exact Subs.nil | exact Sub.refl _ | exact Sub.lo (Nat.zero_le _) | refine Subs.cons ?_ ?_ | refine Subs.agg ?_ | refine Subs.fp ?_ | refine Subs.tup ?_ | refine Sub.map (Nat.zero_le _) (fun _ => ?_)))) (by first | rfl | simp [allP, all0, pureV, pure0, *]), ?_⟩
  simp (config := { maxSteps := 2000000 }) only [go_sem, hG, hOw, e2]
  (repeat' (first | (with_reducible refine And.intro ?_ ?_) | (with_reducible intro _) | (with_reducible refine exP ?_ ?_))); all_goals (try omega)
  refine semC_draw0 mixed (by kernel_rfl) ?_
  simp only [go_sem, hG, hOw]
  (repeat' (first | (with_reducible refine And.intro ?_ ?_) | (with_reducible intro _) | (with_reducible refine exP ?_ ?_))); all_goals (try omega)
theorem bkhas_ok (t : List Ch) (c n w : Nat) (hc : c < t.length) (hn : n < t[c].lines.length) (hw : w < t[c].lines[n].length) (h1 : t.length ≤ 1000) (h2 : t[c].lines.length ≤ 1000) (h3 : t[c].lines[n].length ≤ 1000) : Gives Tryz.prog 143 [.fp [chs 0 t], .agg [i64 c, i64 n, i64 w]] (fun _ => bl true) := by
  have e1 : inB w 0 (t[c].lines[n].length - 1) = true := by simp [inB]; omega
  refine pure_intro (ow := fun _ => false) Tryz.func143 Tryz.ntmps143 rfl (by kernel_rfl) (by simp) rfl (by decide) fun G hG hOw hNm hB => ?_; simp only [go_sem, hG, hOw]
  refine semC_draw0 mixed (by kernel_rfl) ?_
  simp only [go_sem, hG, hOw]
  (repeat' (first | (with_reducible refine And.intro ?_ ?_) | (with_reducible intro _) | (with_reducible refine exP ?_ ?_))); all_goals (try omega)
  refine ⟨_, callGives (bkline_ok t c n w hc hn h1 h2) (by first | exact Subs.refl _ | (repeat' (first | exact Subs.nil | exact Sub.refl _ | exact Sub.lo (Nat.zero_le _) | refine Subs.cons ?_ ?_ | refine Subs.agg ?_ | refine Subs.fp ?_ | refine Subs.tup ?_ | refine Sub.map (Nat.zero_le _) (fun _ => ?_)))) (by first | rfl | simp [allP, all0, pureV, pure0, *]), ?_⟩
  simp only [go_sem, hG, hOw]
  (repeat' (first | (with_reducible refine And.intro ?_ ?_) | (with_reducible intro _) | (with_reducible refine exP ?_ ?_))); all_goals (try omega)
  refine ⟨_, callGives (inL_one 0 (t[c].lines[n].length - 1) w) (by first | exact Subs.refl _ | (repeat' (first | exact Subs.nil | exact Sub.refl _ | exact Sub.lo (Nat.zero_le _) | refine Subs.cons ?_ ?_ | refine Subs.agg ?_ | refine Subs.fp ?_ | refine Subs.tup ?_ | refine Sub.map (Nat.zero_le _) (fun _ => ?_)))) (by first | rfl | simp [allP, all0, pureV, pure0, *]), ?_⟩
  simp (config := { maxSteps := 2000000 }) only [go_sem, hG, hOw, e1]
  (repeat' (first | (with_reducible refine And.intro ?_ ?_) | (with_reducible intro _) | (with_reducible refine exP ?_ ?_))); all_goals (try omega)
theorem bkopen_ok (t : List Ch) (ht : textB t = true) : Gives Tryz.prog 142 [txE 0 t] (fun N => .tup [.fp [chs 0 t], i64 0]) := by
  have hL := LCheck_ok t
  rw [ht] at hL
  refine pure_intro (ow := fun _ => false) Tryz.func142 Tryz.ntmps142 rfl (by kernel_rfl) (by simp) rfl (by decide) fun G hG hOw hNm hB => ?_; simp only [go_sem, hG, hOw]
  refine call_pure hL (by first | exact Subs.refl _ | (repeat' (first | exact Subs.nil | exact Sub.refl _ | exact Sub.lo (Nat.zero_le _) | refine Subs.cons ?_ ?_ | refine Subs.agg ?_ | refine Subs.fp ?_ | refine Subs.tup ?_ | refine Sub.map (Nat.zero_le _) (fun _ => ?_)))) (by first | rfl | simp [allP, all0, pureV, pure0, *]) (by simp [chk, hG]) ?_
  simp only [go_sem, hG, hOw]
  (repeat' (first | (with_reducible refine And.intro ?_ ?_) | (with_reducible intro _) | (with_reducible refine exP ?_ ?_))); all_goals (try omega)
theorem placed_ok (t : List Ch) (ht : textB t = true) (c n w : Nat) (hc : c < t.length) (hn : n < t[c].lines.length) (hw : w < t[c].lines[n].length) : Gives Tryz.prog 99 [txE 0 t, .agg [i64 c, i64 n, i64 w]] (fun N => .tup [.fp [chs 0 t], i64 0]) := by
  obtain ⟨b1, b2⟩ := textB_bd ht
  obtain ⟨b3, b4⟩ := b2 _ (List.getElem_mem hc)
  have b5 := lineB_words (b4 _ (List.getElem_mem hn))
  refine pure_intro (ow := fun _ => false) Tryz.func99 Tryz.ntmps99 rfl (by kernel_rfl) (by simp) rfl (by decide) fun G hG hOw hNm hB => ?_; simp only [go_sem, hG, hOw]
  refine call_pure (bkopen_ok t ht) (by first | exact Subs.refl _ | (repeat' (first | exact Subs.nil | exact Sub.refl _ | exact Sub.lo (Nat.zero_le _) | refine Subs.cons ?_ ?_ | refine Subs.agg ?_ | refine Subs.fp ?_ | refine Subs.tup ?_ | refine Sub.map (Nat.zero_le _) (fun _ => ?_)))) (by first | rfl | simp [allP, all0, pureV, pure0, *]) (by simp [chk, hG]) ?_
  simp only [go_sem, hG, hOw]
  (repeat' (first | (with_reducible refine And.intro ?_ ?_) | (with_reducible intro _) | (with_reducible refine exP ?_ ?_))); all_goals (try omega)
  refine call_pure (bkhas_ok t c n w hc hn hw (by omega) (by omega) (by omega)) (by first | exact Subs.refl _ | (repeat' (first | exact Subs.nil | exact Sub.refl _ | exact Sub.lo (Nat.zero_le _) | refine Subs.cons ?_ ?_ | refine Subs.agg ?_ | refine Subs.fp ?_ | refine Subs.tup ?_ | refine Sub.map (Nat.zero_le _) (fun _ => ?_)))) (by first | rfl | simp [allP, all0, pureV, pure0, *]) (by simp [chk, hG]) ?_
  simp only [go_sem, hG, hOw]
  (repeat' (first | (with_reducible refine And.intro ?_ ?_) | (with_reducible intro _) | (with_reducible refine exP ?_ ?_))); all_goals (try omega)
theorem At_ok (t : List Ch) (ht : textB t = true) (c n w : Nat) (hc : c < t.length) (hn : n < t[c].lines.length) (hw : w < t[c].lines[n].length) : Gives Tryz.prog 52 [txE 0 t, .agg [i64 c, i64 n, i64 w]] (fun N => .tup [.v (.string t[c].lines[n][w]), i64 0]) := by
  obtain ⟨b1, b2⟩ := textB_bd ht
  obtain ⟨b3, b4⟩ := b2 _ (List.getElem_mem hc)
  have b5 := lineB_words (b4 _ (List.getElem_mem hn))
  refine pure_intro (ow := fun _ => false) Tryz.func52 Tryz.ntmps52 rfl (by kernel_rfl) (by simp) rfl (by decide) fun G hG hOw hNm hB => ?_; simp only [go_sem, hG, hOw]
  refine call_pure (placed_ok t ht c n w hc hn hw) (by first | exact Subs.refl _ | (repeat' (first | exact Subs.nil | exact Sub.refl _ | exact Sub.lo (Nat.zero_le _) | refine Subs.cons ?_ ?_ | refine Subs.agg ?_ | refine Subs.fp ?_ | refine Subs.tup ?_ | refine Sub.map (Nat.zero_le _) (fun _ => ?_)))) (by first | rfl | simp [allP, all0, pureV, pure0, *]) (by simp [chk, hG]) ?_
  simp only [go_sem, hG, hOw]
  (repeat' (first | (with_reducible refine And.intro ?_ ?_) | (with_reducible intro _) | (with_reducible refine exP ?_ ?_))); all_goals (try omega)
  refine semC_draw0 mixed (by kernel_rfl) ?_
  simp only [go_sem, hG, hOw]
  (repeat' (first | (with_reducible refine And.intro ?_ ?_) | (with_reducible intro _) | (with_reducible refine exP ?_ ?_))); all_goals (try omega)
  refine ⟨_, callGives (bkline_ok t c n w hc hn (by omega) (by omega)) (by first | exact Subs.refl _ | (repeat' (first | exact Subs.nil | exact Sub.refl _ | exact Sub.lo (Nat.zero_le _) | refine Subs.cons ?_ ?_ | refine Subs.agg ?_ | refine Subs.fp ?_ | refine Subs.tup ?_ | refine Sub.map (Nat.zero_le _) (fun _ => ?_)))) (by first | rfl | simp [allP, all0, pureV, pure0, *]), ?_⟩
  simp only [go_sem, hG, hOw]
  (repeat' (first | (with_reducible refine And.intro ?_ ?_) | (with_reducible intro _) | (with_reducible refine exP ?_ ?_))); all_goals (try omega)
end Go.Proofs.YtfnohnjnncjidaaGreatDoor
namespace Go.Proofs.YtfnohnjnncjidaaGreatDoor
open Go Pm
set_option linter.unusedSimpArgs false
set_option linter.unusedVariables false
theorem Good.far {r : Ro} (hr : Good r) {k : Nat} (hk : k + 2 < r.shares.length) : r.shares[k].to < r.shares[k + 2].fr := by
  have hb := roundB_of hr.e
  simp only [roundB, Bool.and_eq_true] at hb
  have := allPre_at hb.1.2 hk
  unfold shareB at this
  rw [last2_take r.shares (k + 2) (by omega) (by omega)] at this
  simp only [Bool.and_eq_true, decide_eq_true_eq] at this
  exact this.2
theorem Good.before {r : Ro} (hr : Good r) : ∀ (j i : Nat) (hi : i < j) (hj : j < r.shares.length), r.shares[i].fr < r.shares[j].fr
  | j + 1, i, hi, hj => by
    have hm := hr.mono hj
    by_cases e : i = j
    · subst e; exact hm.1
    · have := hr.before j i (by omega) (by omega); omega
theorem Good.apart {r : Ro} (hr : Good r) (i j : Nat) (hi : i + 2 ≤ j) (hj : j < r.shares.length) : r.shares[i].to < r.shares[j].fr := by
  have h1 := hr.far (k := i) (by omega)
  by_cases e : i + 2 = j
  · subst e; exact h1
  · have := hr.before j (i + 2) (by omega) hj; omega
theorem count_two {α : Type} (p : α → Bool) : ∀ (l : List α), (∀ (i j : Nat) (hi : i < l.length) (hj : j < l.length), i < j → p l[i] = true → p l[j] = true → j = i + 1) → l.countP p ≤ 2 := by
  have one : ∀ (l : List α), (∀ (j : Nat) (hj : j < l.length), p l[j] = true → j = 0) → l.countP p ≤ 1 := by
    intro l h
    cases l with
    | nil => simp
    | cons x l =>
      rw [List.countP_cons]
      have : l.countP p = 0 := by
        rw [List.countP_eq_zero]
        intro y hy hp
        obtain ⟨j, hj, rfl⟩ := List.getElem_of_mem hy
        have := h (j + 1) (by simpa using hj) (by simpa using hp)
        omega
      rw [this]; split <;> omega
  intro l
  induction l with
  | nil => intro _; simp
  | cons x l ih =>
    intro h
    rw [List.countP_cons]
    by_cases hx : p x = true
    · have := one l fun j hj hp => by
        have := h 0 (j + 1) (by simp) (by simpa using hj) (by omega) (by simpa using hx) (by simpa using hp)
        omega
      rw [if_pos hx]; omega
    · rw [if_neg hx]
      exact ih fun i j hi hj hij h1 h2 => by
        have := h (i + 1) (j + 1) (by simpa using hi) (by simpa using hj) (by omega) (by simpa using h1) (by simpa using h2)
        omega
def partsN (r : Ro) (n : Nat) (k : Nat) : Nat := (r.shares.take k).countP fun s => inB n s.fr s.to
theorem partsN_succ (r : Ro) (n : Nat) {k : Nat} (hk : k < r.shares.length) : partsN r n (k + 1) = if inB n r.shares[k].fr r.shares[k].to = true then partsN r n k + 1 else partsN r n k := by
  unfold partsN
  rw [List.take_add_one, List.getElem?_eq_getElem hk, List.countP_append]
  simp [List.countP_cons]
  split <;> rfl
theorem partsN_two {r : Ro} (hr : Good r) (n : Nat) : partsN r n r.shares.length ≤ 2 := by
  unfold partsN
  rw [List.take_length]
  refine count_two _ _ fun i j hi hj hij h1 h2 => ?_
  simp only [inB, Bool.and_eq_true, decide_eq_true_eq] at h1 h2
  by_cases e : j = i + 1
  · exact e
  · have := hr.apart i j (by omega) hj; omega
theorem partsN_has (r : Ro) (n : Nat) : decide ((partsN r n r.shares.length : Int) = 0) = !hasI r n := by
  unfold partsN hasI
  rw [List.take_length, Bool.eq_iff_iff]
  simp only [decide_eq_true_eq, Bool.not_eq_true', List.any_eq_false]
  constructor
  · intro h x hx hp
    have := List.countP_eq_zero.1 (show r.shares.countP (fun s => inB n s.fr s.to) = 0 by omega) x hx
    exact this hp
  · intro h
    have : r.shares.countP (fun s => inB n s.fr s.to) = 0 := List.countP_eq_zero.2 fun x hx hp => h x hx hp
    omega
theorem gaps_has {r : Ro} (hr : Good r) (n : Nat) (hn : n < (linesL r.text).length) : ((gapsL r).any fun x => decide (x = (n : Int))) = !hasI r n := by
  rw [show gapsL r = numsL (fun n => !hasI r n) (linesL r.text).length by simp [gapsL, hr.e]]
  exact hasL_nums hn
theorem gaps_in {r : Ro} (hr : Good r) (k : Nat) (hk : k < (gapsL r).length) : 0 ≤ (gapsL r)[k] ∧ (gapsL r)[k] < (linesL r.text).length := by
  have hm := List.getElem_mem hk
  generalize (gapsL r)[k] = x at hm
  rw [show gapsL r = numsL (fun n => !hasI r n) (linesL r.text).length by simp [gapsL, hr.e]] at hm
  obtain ⟨i, h1, _, h3⟩ := mem_numsL.1 hm
  omega
theorem nums_lt_pw (p : Nat → Bool) (n : Nat) : (numsL p n).Pairwise fun a b => a < b := by
  unfold numsL
  rw [List.pairwise_map]
  exact (List.Pairwise.filter _ List.pairwise_lt_range).imp fun h => Int.ofNat_lt.2 h
theorem gaps_up {r : Ro} (hr : Good r) (k : Nat) (hk : k + 1 < (gapsL r).length) : (gapsL r)[k] < (gapsL r)[k + 1] := by
  have hp : (gapsL r).Pairwise fun a b => a < b := by
    rw [show gapsL r = numsL (fun n => !hasI r n) (linesL r.text).length by simp [gapsL, hr.e]]
    exact nums_lt_pw _ _
  exact List.pairwise_iff_getElem.1 hp k (k + 1) (by omega) hk (by omega)
theorem line_at (t : List Ch) : ∀ (c m : Nat) (hc : c < t.length) (hm : m < t[c].lines.length), (linesL t)[(linesL (t.take c)).length + m]? = some t[c].lines[m] := by
  intro c m hc hm
  have e : linesL t = linesL (t.take c) ++ (t[c].lines ++ linesL (t.drop (c + 1))) := by
    have h1 : t = t.take c ++ t[c] :: t.drop (c + 1) := by rw [← List.drop_eq_getElem_cons hc, List.take_append_drop]
    unfold linesL
    conv => lhs; rw [h1]
    rw [List.flatMap_append, List.flatMap_cons]
  rw [e, List.getElem?_append_right (by omega), show (linesL (t.take c)).length + m - (linesL (t.take c)).length = m by omega, List.getElem?_append_left hm, List.getElem?_eq_getElem hm]
theorem text_some {t : List Ch} (ht : textB t = true) : 0 < (linesL t).length := by
  have h : 1 ≤ (t.length : Int) := by
    simp only [textB, Bool.and_eq_true, inB, decide_eq_true_eq] at ht
    exact ht.1.1
  obtain ⟨_, b2⟩ := textB_bd ht
  have h0 : 0 < t.length := by omega
  have h1 := (b2 _ (List.getElem_mem h0)).1.2
  have h2 := line_at t 0 0 h0 (by omega)
  obtain ⟨h3, _⟩ := List.getElem?_eq_some_iff.1 h2
  omega
end Go.Proofs.YtfnohnjnncjidaaGreatDoor
namespace Go.Proofs.YtfnohnjnncjidaaGreatDoor
open Go Pm
set_option linter.unusedSimpArgs false
set_option linter.unusedVariables false
set_option maxHeartbeats 4000000
set_option maxRecDepth 100000
abbrev hlF (r : Ro) (N : Nat) (lo : Nat) : List (Nat × V) := [(2, .ptr 2 0), (5, bl true), (6, i64 (linesL r.text).length), (9, i64 N), (10, strs lo (lineR r N)), (12, ints lo (gapsL r))]
theorem HandLines_ok (r : Ro) (b : Nat) (hb : b < 256) : Gives Tryz.prog 13 [roE 0 r, .v (.int .u8 b)] (fun _ => bl true) := by
  cases hrd : readyB r with
  | false =>
    refine pure_intro (ow := fun _ => false) Tryz.func13 Tryz.ntmps13 rfl (by kernel_rfl) (by simp) rfl (by decide) fun G hG hOw hNm hB => ?_; simp only [go_sem, hG, hOw]
    refine call_pure alive_ok (Subs.refl _) rfl (by simp [chk, hG]) ?_
    simp only [go_sem, hG, hOw]
    refine call_pure (ready_ok r) (by first | exact Subs.refl _ | (repeat' (first | exact Subs.nil | exact Sub.refl _ | exact Sub.lo (Nat.zero_le _) | refine Subs.cons ?_ ?_ | refine Subs.agg ?_ | refine Subs.fp ?_ | refine Subs.tup ?_ | refine Sub.map (Nat.zero_le _) (fun _ => ?_)))) (by first | rfl | simp [allP, all0, pureV, pure0, *]) (by simp [chk, hG]) ?_
    simp (config := { maxSteps := 2000000 }) only [go_sem, hG, hOw, hrd]
    try (repeat' (first | (with_reducible refine And.intro ?_ ?_) | (with_reducible intro _) | (with_reducible refine exP ?_ ?_))); all_goals (try omega)
  | true =>
    obtain ⟨hr, hg⟩ := ready_good hrd
    have he := hg.e
    have hll := hg.ll
    have htx : textB r.text = true := by
      cases h : textB r.text with
      | true => rfl
      | false => simp [roundE, h] at he
    have hpos := text_some htx
    obtain ⟨bt1, bt2⟩ := textB_bd htx
    obtain ⟨N, hN⟩ : ∃ N, N = b % (linesL r.text).length := ⟨_, rfl⟩
    have hNl : N < (linesL r.text).length := by rw [hN]; exact Nat.mod_lt _ hpos
    have em : (b : Int) % ((linesL r.text).length : Int) = (N : Int) := by rw [hN]; simp
    have in1 : inB (N : Int) 0 ((linesL r.text).length - 1) = true := by simp [inB]; omega
    have in2 : inB ((linesL r.text).length : Int) 0 ((linesL r.text).length - 1) = false := by simp [inB]; omega
    have in3 : inB (-1 : Int) 0 ((linesL r.text).length - 1) = false := by simp [inB]
    have l1 : lineRE r N = 0 := by simp [lineRE, he, in1]
    have l2 : lineR r N = (linesL r.text)[N] := by simp [lineR, he, in1, hNl]
    have c1 := Line_ok r hr N
    have c2 := HGaps_ok r hr
    have c3 := Line_ok r hr (linesL r.text).length
    have c4 := Line_ok r hr (-1)
    rw [l1] at c1
    rw [he] at c2
    rw [show lineRE r ((linesL r.text).length : Int) = 2 by simp [lineRE, he, in2]] at c3
    rw [show lineRE r (-1) = 2 by simp [lineRE, he, in3]] at c4
    have hsn := hg.sn
    have h0t : 0 < r.text.length := by
      have h : 1 ≤ (r.text.length : Int) := by
        simp only [textB, Bool.and_eq_true, inB, decide_eq_true_eq] at htx
        exact htx.1.1
      omega
    have hlk : ∀ k, (linesL (r.text.take k)).length ≤ (linesL r.text).length := fun k => by
      have : linesL r.text = linesL (r.text.take k) ++ linesL (r.text.drop k) := by
        unfold linesL; rw [← List.flatMap_append, List.take_append_drop]
      rw [this, List.length_append]; omega
    refine pure_intro (ow := fun _ => false) Tryz.func13 Tryz.ntmps13 rfl (by kernel_rfl) (by simp) rfl (by decide) fun G hG hOw hNm hB => ?_; simp only [go_sem, hG, hOw]
    refine call_pure alive_ok (Subs.refl _) rfl (by simp [chk, hG]) ?_
    simp only [go_sem, hG, hOw]
    refine call_pure (ready_ok r) (by first | exact Subs.refl _ | (repeat' (first | exact Subs.nil | exact Sub.refl _ | exact Sub.lo (Nat.zero_le _) | refine Subs.cons ?_ ?_ | refine Subs.agg ?_ | refine Subs.fp ?_ | refine Subs.tup ?_ | refine Sub.map (Nat.zero_le _) (fun _ => ?_)))) (by first | rfl | simp [allP, all0, pureV, pure0, *]) (by simp [chk, hG]) ?_
    simp (config := { maxSteps := 2000000 }) only [go_sem, hG, hOw, hrd]
    refine semC_cut (fun _ : Unit => St.of [(1, .v (.int .u8 b)), (2, .ptr 2 0), (5, bl true), (6, i64 (linesL r.text).length)] [(2, .box (roC 0 r))]) (fun _ => True) ?_ ?_
    · refine semC_loop (fun k : Nat => St.of [(1, .v (.int .u8 b)), (2, .ptr 2 0), (5, bl true), (6, i64 (linesL (r.text.take k)).length), (40, chs 0 r.text), (41, i64 r.text.length), (42, i64 k)] [(2, .box (roC 0 r))]) (fun k => k ≤ r.text.length) (fun k => r.text.length - k) 0 (by simp) (ent_of [(2, some 2)] (by (simp only [go_sem]) <;> simp [linesL]) (by (simp only [go_sem, entH, entH1, nilArr, obOK]) <;> simp [linesL]) (by simp [injR, apart]) (by simp [coverR, usH]) (by simp [hNm, lkR, names])) ?_
      rintro k hk
      have hk1 := hlk k
      refine vc_sound _ _ _ ?_; simp only [go_sem, hG, hOw]
      (repeat' (first | (with_reducible refine And.intro ?_ ?_) | (with_reducible intro _) | (with_reducible refine exP ?_ ?_))); all_goals (try omega)
      · rename_i hlt
        have hkl : k < r.text.length := by omega
        have := (bt2 _ (List.getElem_mem hkl)).1.1
        omega
      · rename_i hlt
        have hkl : k < r.text.length := by omega
        have e : ((linesL (r.text.take (k + 1))).length : Int) = (linesL (r.text.take k)).length + r.text[k].lines.length := by
          rw [linesL_step r.text k hkl, List.length_append]; omega
        refine ⟨k + 1, by omega, by omega, ?_⟩
        rw [e]
        exact ent_of [(2, some 2)] (by (simp only [go_sem]) <;> simp) (by (simp only [go_sem, entH, entH1, nilArr, obOK]) <;> simp) (by simp [injR, apart]) (by simp [coverR, usH]) (by simp [hNm, lkR, names])
      · rename_i hge
        rw [List.take_of_length_le (by omega)]
        exact ⟨(), ent_of [(2, some 2)] (by (simp only [go_sem]) <;> simp) (by (simp only [go_sem, entH, entH1, nilArr, obOK]) <;> simp) (by simp [injR, apart]) (by simp [coverR, usH]) (by simp [hNm, lkR, names])⟩
    rintro ⟨⟩ -
    simp (config := { maxSteps := 2000000 }) only [go_sem, hG, hOw, em]
    (repeat' (first | (with_reducible refine And.intro ?_ ?_) | (with_reducible intro _) | (with_reducible refine exP ?_ ?_))); all_goals (try omega)
    refine call_pure c1 (by first | exact Subs.refl _ | (repeat' (first | exact Subs.nil | exact Sub.refl _ | exact Sub.lo (Nat.zero_le _) | refine Subs.cons ?_ ?_ | refine Subs.agg ?_ | refine Subs.fp ?_ | refine Subs.tup ?_ | refine Sub.map (Nat.zero_le _) (fun _ => ?_)))) (by first | rfl | simp [allP, all0, pureV, pure0, *]) (by simp [chk, hG]) ?_
    simp only [go_sem, hG, hOw]
    refine call_pure c2 (by first | exact Subs.refl _ | (repeat' (first | exact Subs.nil | exact Sub.refl _ | exact Sub.lo (Nat.zero_le _) | refine Subs.cons ?_ ?_ | refine Subs.agg ?_ | refine Subs.fp ?_ | refine Subs.tup ?_ | refine Sub.map (Nat.zero_le _) (fun _ => ?_)))) (by first | rfl | simp [allP, all0, pureV, pure0, *]) (by simp [chk, hG]) ?_
    simp only [go_sem, hG, hOw]
    refine call_pure c3 (by first | exact Subs.refl _ | (repeat' (first | exact Subs.nil | exact Sub.refl _ | exact Sub.lo (Nat.zero_le _) | refine Subs.cons ?_ ?_ | refine Subs.agg ?_ | refine Subs.fp ?_ | refine Subs.tup ?_ | refine Sub.map (Nat.zero_le _) (fun _ => ?_)))) (by first | rfl | simp [allP, all0, pureV, pure0, *]) (by simp [chk, hG]) ?_
    simp only [go_sem, hG, hOw]
    refine call_pure c4 (by first | exact Subs.refl _ | (repeat' (first | exact Subs.nil | exact Sub.refl _ | exact Sub.lo (Nat.zero_le _) | refine Subs.cons ?_ ?_ | refine Subs.agg ?_ | refine Subs.fp ?_ | refine Subs.tup ?_ | refine Sub.map (Nat.zero_le _) (fun _ => ?_)))) (by first | rfl | simp [allP, all0, pureV, pure0, *]) (by simp [chk, hG]) ?_
    simp only [go_sem, hG, hOw]
    (repeat' (first | (with_reducible refine And.intro ?_ ?_) | (with_reducible intro _) | (with_reducible refine exP ?_ ?_))); all_goals (try omega)
    refine semC_cut (fun x : Nat × Nat => St.of (hlF r N G.lo ++ [(18, i64 x.1), (19, i64 x.2)]) [(2, .box (roC 0 r))]) (fun x => ∃ (hc : x.1 < r.text.length) (hl : x.2 < r.text[x.1].lines.length), (linesL r.text)[N] = r.text[x.1].lines[x.2]) ?_ ?_
    · refine semC_loop (fun x : Nat × Nat => St.of (hlF r N G.lo ++ [(18, i64 x.1), (19, i64 x.2)]) [(2, .box (roC 0 r))]) (fun x => x.1 < r.text.length ∧ (linesL (r.text.take x.1)).length + x.2 = N) (fun x => r.text.length - x.1) (0, N) ⟨h0t, by simp [linesL]⟩ (ent_of [(2, some 2)] (by (simp only [go_sem]) <;> simp) (by (simp only [go_sem, entH, entH1, nilArr, obOK]) <;> simp) (by simp [injR, apart]) (by simp [coverR, usH]) (by simp [hNm, lkR, names])) ?_
      rintro ⟨c, l⟩ ⟨hc, hl⟩
      simp only at hc hl
      have est : (linesL (r.text.take (c + 1))).length = (linesL (r.text.take c)).length + r.text[c].lines.length := by rw [linesL_step r.text c hc, List.length_append]
      have hlk1 := hlk (c + 1)
      refine vc_sound _ _ _ ?_; simp only [go_sem, hG, hOw]
      (repeat' (first | (with_reducible refine And.intro ?_ ?_) | (with_reducible intro _) | (with_reducible refine exP ?_ ?_))); all_goals (try omega)
      · rename_i hge
        have hc1 : c + 1 < r.text.length := by
          by_cases h : c + 1 < r.text.length
          · exact h
          · rw [List.take_of_length_le (by omega)] at est
            omega
        exact ⟨(c + 1, l - r.text[c].lines.length), ⟨hc1, by simp only; omega⟩, by simp only; omega, (by
          have e : ((l - r.text[c].lines.length : Nat) : Int) = (l : Int) - r.text[c].lines.length := by omega
          simp only [e]
          exact ent_of [(2, some 2)] (by (simp only [go_sem]) <;> simp) (by (simp only [go_sem, entH, entH1, nilArr, obOK]) <;> simp) (by simp [injR, apart]) (by simp [coverR, usH]) (by simp [hNm, lkR, names]))⟩
      · rename_i hlt
        have hml : l < r.text[c].lines.length := by omega
        refine ⟨(c, l), ⟨hc, hml, ?_⟩, ent_of [(2, some 2)] (by (simp only [go_sem]) <;> simp) (by (simp only [go_sem, entH, entH1, nilArr, obOK]) <;> simp) (by simp [injR, apart]) (by simp [coverR, usH]) (by simp [hNm, lkR, names])⟩
        have := line_at r.text c l hc hml
        rw [hl, List.getElem?_eq_getElem hNl] at this
        exact Option.some.inj this
    rintro ⟨c, l⟩ ⟨hc, hl, hcl⟩
    simp only at hc hl hcl
    have hLL : lineR r N = r.text[c].lines[l] := by rw [l2, hcl]
    have hlen10 := lineB_words ((bt2 _ (List.getElem_mem hc)).2 _ (List.getElem_mem hl))
    have hrow10 := (bt2 _ (List.getElem_mem hc)).1.1
    simp only [go_sem, hG, hOw]
    (repeat' (first | (with_reducible refine And.intro ?_ ?_) | (with_reducible intro _) | (with_reducible refine exP ?_ ?_))); all_goals (try omega)
    refine semC_cut (fun _ : Unit => St.of (hlF r N G.lo ++ [(18, i64 c), (19, i64 l)]) [(2, .box (roC 0 r))]) (fun _ => True) ?_ ?_
    · rw [hLL]
      refine semC_loop (fun w : Nat => St.of [(2, .ptr 2 0), (5, bl true), (6, i64 (linesL r.text).length), (9, i64 N), (10, strs G.lo r.text[c].lines[l]), (12, ints G.lo (gapsL r)), (18, i64 c), (19, i64 l), (115, strs G.lo r.text[c].lines[l]), (116, i64 r.text[c].lines[l].length), (117, i64 w)] [(2, .box (roC 0 r))]) (fun w => w ≤ r.text[c].lines[l].length) (fun w => r.text[c].lines[l].length - w) 0 (by omega) (ent_of [(2, some 2)] (by (simp only [go_sem]) <;> simp [hLL]) (by (simp only [go_sem, entH, entH1, nilArr, obOK]) <;> simp [hLL]) (by simp [injR, apart]) (by simp [coverR, usH]) (by simp [hNm, lkR, names])) ?_
      rintro w hw
      refine vc_sound _ _ _ ?_; simp only [go_sem, hG, hOw]
      (repeat' (first | (with_reducible refine And.intro ?_ ?_) | (with_reducible intro _) | (with_reducible refine exP ?_ ?_))); all_goals (try omega)
      · rename_i hlt
        have hwl : w < r.text[c].lines[l].length := by omega
        refine call_pure (At_ok r.text htx c l w hc hl hwl) (by first | exact Subs.refl _ | (repeat' (first | exact Subs.nil | exact Sub.refl _ | exact Sub.lo (Nat.zero_le _) | refine Subs.cons ?_ ?_ | refine Subs.agg ?_ | refine Subs.fp ?_ | refine Subs.tup ?_ | refine Sub.map (Nat.zero_le _) (fun _ => ?_)))) (by first | rfl | simp [allP, all0, pureV, pure0, *]) (by simp [chk, hG]) ?_
        simp only [go_sem, hG, hOw]
        (repeat' (first | (with_reducible refine And.intro ?_ ?_) | (with_reducible intro _) | (with_reducible refine exP ?_ ?_))); all_goals (try omega)
        exact ⟨w + 1, by omega, by omega, ent_of [(2, some 2)] (by (simp only [go_sem]) <;> simp) (by (simp only [go_sem, entH, entH1, nilArr, obOK]) <;> simp) (by simp [injR, apart]) (by simp [coverR, usH]) (by simp [hNm, lkR, names])⟩
      · rename_i hge
        exact ⟨(), ent_of [(2, some 2)] (by (simp only [go_sem]) <;> simp [hLL]) (by (simp only [go_sem, entH, entH1, nilArr, obOK]) <;> simp [hLL]) (by simp [injR, apart]) (by simp [coverR, usH]) (by simp [hNm, lkR, names])⟩
    rintro ⟨⟩ -
    simp only [go_sem, hG, hOw]
    refine semC_cut (fun _ : Unit => St.of (hlF r N G.lo ++ [(18, i64 c), (19, i64 l), (24, i64 (partsN r N r.shares.length))]) [(2, .box (roC 0 r))]) (fun _ => True) ?_ ?_
    · refine semC_loop (fun k : Nat => St.of (hlF r N G.lo ++ [(18, i64 c), (19, i64 l), (24, i64 (partsN r N k)), (141, srs 0 r.shares), (142, i64 r.shares.length), (143, i64 k)]) [(2, .box (roC 0 r))]) (fun k => k ≤ r.shares.length) (fun k => r.shares.length - k) 0 (by omega) (ent_of [(2, some 2)] (by (simp only [go_sem]) <;> simp [partsN]) (by (simp only [go_sem, entH, entH1, nilArr, obOK]) <;> simp [partsN]) (by simp [injR, apart]) (by simp [coverR, usH]) (by simp [hNm, lkR, names])) ?_
      rintro k hk
      have hps := fun (hkl : k < r.shares.length) => partsN_succ r N hkl
      simp only [inB, Bool.and_eq_true, decide_eq_true_eq] at hps
      have hpk : partsN r N k ≤ k := by unfold partsN; exact Nat.le_trans List.countP_le_length (by rw [List.length_take]; exact Nat.min_le_left ..)
      refine vc_sound _ _ _ ?_; simp only [go_sem, hG, hOw]
      (repeat' (first | (with_reducible refine And.intro ?_ ?_) | (with_reducible intro _) | (with_reducible refine exP ?_ ?_))); all_goals (try omega)
      · rename_i hlt q1 q2
        have e := hps (by omega)
        rw [if_pos ⟨q1, q2⟩] at e
        refine ⟨k + 1, by omega, by omega, ?_⟩
        rw [e]
        exact ent_of [(2, some 2)] (by (simp only [go_sem]) <;> simp) (by (simp only [go_sem, entH, entH1, nilArr, obOK]) <;> simp) (by simp [injR, apart]) (by simp [coverR, usH]) (by simp [hNm, lkR, names])
      · rename_i hlt q1 q2
        have e := hps (by omega)
        rw [if_neg (fun h => q2 h.2)] at e
        refine ⟨k + 1, by omega, by omega, ?_⟩
        rw [e]
        exact ent_of [(2, some 2)] (by (simp only [go_sem]) <;> simp) (by (simp only [go_sem, entH, entH1, nilArr, obOK]) <;> simp) (by simp [injR, apart]) (by simp [coverR, usH]) (by simp [hNm, lkR, names])
      · rename_i hlt q1
        have e := hps (by omega)
        rw [if_neg (fun h => q1 h.1)] at e
        refine ⟨k + 1, by omega, by omega, ?_⟩
        rw [e]
        exact ent_of [(2, some 2)] (by (simp only [go_sem]) <;> simp) (by (simp only [go_sem, entH, entH1, nilArr, obOK]) <;> simp) (by simp [injR, apart]) (by simp [coverR, usH]) (by simp [hNm, lkR, names])
      · rename_i hge
        rw [show k = r.shares.length by omega]
        exact ⟨(), ent_of [(2, some 2)] (by (simp only [go_sem]) <;> simp) (by (simp only [go_sem, entH, entH1, nilArr, obOK]) <;> simp) (by simp [injR, apart]) (by simp [coverR, usH]) (by simp [hNm, lkR, names])⟩
    rintro ⟨⟩ -
    have hp2 := partsN_two hg N
    simp only [go_sem, hG, hOw]
    refine semC_cut (fun _ : Unit => St.of (hlF r N G.lo ++ [(18, i64 c), (19, i64 l), (24, i64 (partsN r N r.shares.length))]) [(2, .box (roC 0 r))]) (fun _ => True) ?_ ?_
    · refine semC_loop (fun k : Nat => St.of (hlF r N G.lo ++ [(18, i64 c), (19, i64 l), (24, i64 (partsN r N r.shares.length)), (160, ints G.lo (gapsL r)), (161, i64 (gapsL r).length), (162, i64 k)]) [(2, .box (roC 0 r))]) (fun k => k ≤ (gapsL r).length) (fun k => (gapsL r).length - k) 0 (by omega) (ent_of [(2, some 2)] (by (simp only [go_sem]) <;> simp) (by (simp only [go_sem, entH, entH1, nilArr, obOK]) <;> simp) (by simp [injR, apart]) (by simp [coverR, usH]) (by simp [hNm, lkR, names])) ?_
      rintro k hk
      have hgl : (gapsL r).length ≤ 400 := by
        rw [show gapsL r = numsL (fun n => !hasI r n) (linesL r.text).length by simp [gapsL, he]]
        have := numsL_le (fun n => !hasI r n) (linesL r.text).length
        omega
      have hgi := fun (hkl : k < (gapsL r).length) => gaps_in hg k hkl
      refine vc_sound _ _ _ ?_; simp only [go_sem, hG, hOw]
      (repeat' (first | (with_reducible refine And.intro ?_ ?_) | (with_reducible intro _) | (with_reducible refine exP ?_ ?_))); all_goals (try omega)
      · rename_i q1 q2 q3 q4 q5
        obtain ⟨j, rfl⟩ : ∃ j, k = j + 1 := ⟨k - 1, by omega⟩
        have e : (((j + 1 : Nat) : Int) - 1).toNat = j := by omega
        simp only [e] at q5
        have := gaps_up hg j (by omega)
        omega
      · exact ⟨k + 1, by omega, by omega, ent_of [(2, some 2)] (by (simp only [go_sem]) <;> simp) (by (simp only [go_sem, entH, entH1, nilArr, obOK]) <;> simp) (by simp [injR, apart]) (by simp [coverR, usH]) (by simp [hNm, lkR, names])⟩
      · exact ⟨k + 1, by omega, by omega, ent_of [(2, some 2)] (by (simp only [go_sem]) <;> simp) (by (simp only [go_sem, entH, entH1, nilArr, obOK]) <;> simp) (by simp [injR, apart]) (by simp [coverR, usH]) (by simp [hNm, lkR, names])⟩
      · have := hgi (by omega)
        omega
      · have := hgi (by omega)
        omega
      · exact ⟨(), ent_of [(2, some 2)] (by (simp only [go_sem]) <;> simp) (by (simp only [go_sem, entH, entH1, nilArr, obOK]) <;> simp) (by simp [injR, apart]) (by simp [coverR, usH]) (by simp [hNm, lkR, names])⟩
    rintro ⟨⟩ -
    have hgh := has_ok (gapsL r) N
    rw [gaps_has hg N hNl, ← partsN_has] at hgh
    simp (config := { maxSteps := 2000000 }) only [go_sem, hG, hOw, hLL]
    (repeat' (first | (with_reducible refine And.intro ?_ ?_) | (with_reducible intro _) | (with_reducible refine exP ?_ ?_))); all_goals (try omega)
    refine call_pure hgh (by first | exact Subs.refl _ | (repeat' (first | exact Subs.nil | exact Sub.refl _ | exact Sub.lo (Nat.zero_le _) | refine Subs.cons ?_ ?_ | refine Subs.agg ?_ | refine Subs.fp ?_ | refine Subs.tup ?_ | refine Sub.map (Nat.zero_le _) (fun _ => ?_)))) (by first | rfl | simp [allP, all0, pureV, pure0, *]) (by simp [chk, hG]) ?_
    simp only [go_sem, hG, hOw]
    try (repeat' (first | (with_reducible refine And.intro ?_ ?_) | (with_reducible intro _) | (with_reducible refine exP ?_ ?_))); all_goals (try omega)
    all_goals simp
end Go.Proofs.YtfnohnjnncjidaaGreatDoor
