import Derived.Test.YtphadkcpgnkpfaaGreatDoorQT15
import Derived.Test.YtphadkcpgnkpfaaGreatDoorQT26
import Derived.Test.YtphadkcpgnkpfaaGreatDoorQT42
namespace Go.Proofs.YtphadkcpgnkpfaaGreatDoor
open Go Pm
set_option linter.unusedSimpArgs false
set_option linter.unusedVariables false
set_option maxHeartbeats 4000000
set_option maxRecDepth 100000
instance : DecidableEq Rd := fun a b => by cases a; cases b; simp only [Rd.mk.injEq]; infer_instance
instance : DecidableEq Cp := fun a b => by cases a; cases b; simp only [Cp.mk.injEq]; infer_instance
def greatC (c : Cp) : Bool := decide (30 < (c.rds.length : Int)) || c.rds.any fun r => decide (40 < (r.word.size : Int))
theorem GreatCopy_ok (c : Cp) : Gives Tryz.prog 5 [cpE 0 c] (fun _ => bl (greatC c)) := by
  refine pure_intro (ow := fun _ => false) Tryz.func5 Tryz.ntmps5 rfl (by kernel_rfl) (by simp) rfl (by decide) fun G hG hOw hNm hB => ?_; simp only [go_sem, hG, hOw]
  have hb : c.rds.length ≤ 140737488355328 := by
    have := bd_lst (bd_agg (hB (cpE 0 c) (by simp))) (lo := 0) (sz := 5) (l := c.rds.map rdE) (by simp [cpC, rds]); simpa using this
  (repeat' with_reducible first | refine And.intro ?_ ?_ | intro _ | refine exP ?_ ?_); all_goals try omega
  · rename_i h; simp [greatC]; omega
  · rename_i h0
    refine semC_loop (fun k : Nat => St.of [(1, .ptr 1 0), (3, i64 k)] [(1, .box (cpC 0 c))]) (fun k => k ≤ c.rds.length ∧ (c.rds.take k).all (fun r => !decide (40 < (r.word.size : Int))) = true) (fun k => c.rds.length - k) 0 (by simp) (entA [(1, some 1)]) ?_
    rintro k ⟨hk, hall⟩
    refine vc_sound _ _ _ ?_; simp only [go_sem, hG, hOw]
    (repeat' with_reducible first | refine And.intro ?_ ?_ | intro _ | refine exP ?_ ?_); all_goals try omega
    · rename_i hlt h1
      have hkl : k < c.rds.length := by omega
      rw [greatC, any_true hkl (by simp; omega)]; simp
    · rename_i hlt h1
      have hkl : k < c.rds.length := by omega
      exact ⟨k + 1, ⟨by omega, all_take_succ hkl hall (by simp; omega)⟩, by omega, entA [(1, some 1)]⟩
    · rename_i hge
      rw [take_full hk hge] at hall
      rw [greatC, decide_eq_false h0, Bool.false_or]
      rw [Bool.eq_iff_iff]
      simp only [Bool.false_eq_true, false_iff, Bool.not_eq_true]
      rw [List.any_eq_false]
      intro r hr
      have := List.all_eq_true.1 hall r hr
      simpa using this
theorem TwinCopy_ok (c : Cp) (hc : c.rds.length ≤ 1000) : Gives Tryz.prog 8 [cpE 0 c] (fun n => cpE n c) := by
  refine pure_intro (ow := fun _ => false) Tryz.func8 Tryz.ntmps8 rfl (by kernel_rfl) (by simp) rfl (by decide) fun G hG hOw hNm hB => ?_; simp only [go_sem, hG, hOw]
  refine semC_draw0 mixed (by kernel_rfl) ?_
  simp only [go_sem, hG, hOw]
  (repeat' with_reducible first | refine And.intro ?_ ?_ | intro _ | refine exP ?_ ?_); all_goals try omega
theorem rd_ext {x y : Rd} (h1 : x.ch = y.ch) (h2 : x.ln = y.ln) (h3 : x.wd = y.wd) (h4 : (x.kind.toNat : Int) = y.kind.toNat) (h5 : x.word = y.word) : x = y := by
  have h6 : x.kind = y.kind := UInt8.toNat_inj.1 (by omega)
  cases x; cases y
  simp_all
theorem SameCopy_ok (a b : Cp) (ha : a.rds.length ≤ 1000) : Gives Tryz.prog 19 [cpE 0 a, cpE 0 b] (fun _ => bl (decide (a = b))) := by
  have no : a ≠ b → false = decide (a = b) := fun h => by rw [decide_eq_false h]
  refine pure_intro (ow := fun _ => false) Tryz.func19 Tryz.ntmps19 rfl (by kernel_rfl) (by simp) rfl (by decide) fun G hG hOw hNm hB => ?_; simp only [go_sem, hG, hOw]
  (repeat' with_reducible first | refine And.intro ?_ ?_ | intro _ | refine exP ?_ ?_); all_goals try omega
  · rename_i h1 h2
    exact no (by rintro rfl; exact h2 rfl)
  · rename_i h1 h2
    have hlen : a.rds.length = b.rds.length := by omega
    refine semC_loop (fun k : Nat => St.of [(2, .ptr 2 0), (3, .ptr 3 0), (5, i64 k)] [(2, .box (cpC 0 a)), (3, .box (cpC 0 b))]) (fun k => k ≤ a.rds.length ∧ a.rds.take k = b.rds.take k) (fun k => a.rds.length - k) 0 (by simp) (entA [(2, some 2), (3, some 3)]) ?_
    rintro k ⟨hk, hall⟩
    refine vc_sound _ _ _ ?_; simp only [go_sem, hG, hOw]
    (repeat' with_reducible first | refine And.intro ?_ ?_ | intro _ | refine exP ?_ ?_); all_goals try omega
    · rename_i hlt
      have hkl : k < a.rds.length := by omega
      have hkm : k < b.rds.length := by omega
      refine semC_draw0 mixed (by kernel_rfl) ?_
      simp only [go_sem, hG, hOw]
      (repeat' with_reducible first | refine And.intro ?_ ?_ | intro _ | refine exP ?_ ?_); all_goals try omega
      · rename_i h
        exact no (by rintro rfl; simp at h)
      · rename_i h
        have e : a.rds[k] = b.rds[k] := by
          simp only [Bool.and_eq_true, decide_eq_true_eq] at h
          exact rd_ext h.1 h.2.1 h.2.2.1 h.2.2.2.1 (by first | exact h.2.2.2.2 | exact h.2.2.2.2.1)
        exact ⟨k + 1, ⟨by omega, take_eq_succ hall hkl hkm e⟩, by omega, entA [(2, some 2), (3, some 3)]⟩
    · rename_i hge
      rw [take_full hk hge, take_full (by omega) (by omega)] at hall
      have : a = b := by cases a; cases b; simp_all
      rw [decide_eq_true this]
  · rename_i h1
    exact no (by rintro rfl; exact h1 rfl)
theorem Before_ok (a b : Rd) : Gives Tryz.prog 92 [.agg [i64 a.ch, i64 a.ln, i64 a.wd], .agg [i64 b.ch, i64 b.ln, i64 b.wd]] (fun _ => bl (beforeB a b)) := by
  refine pure_intro (ow := fun _ => false) Tryz.func92 Tryz.ntmps92 rfl (by kernel_rfl) (by simp) rfl (by decide) fun G hG hOw hNm hB => ?_; simp only [go_sem, hG, hOw]
  unfold beforeB
  (repeat' with_reducible first | refine And.intro ?_ ?_ | intro _ | refine exP ?_ ?_); all_goals try omega
  all_goals simp_all [bl]
theorem rline_yes (t : List Ch) (ht : OKtB t) (a b : Int) (w : Int) (l : List ByteArray) (h : lineO t a b = some l) : Gives Tryz.prog 118 [txE 0 t, .agg [i64 a, i64 b, i64 w]] (fun _ => .tup [strs 0 l, bl true]) := by
  obtain ⟨ht1, ht2⟩ := ht
  unfold lineO at h
  split at h
  · rename_i hab
    obtain ⟨ha, hb⟩ := hab
    obtain ⟨a, rfl⟩ := Int.eq_ofNat_of_zero_le ha
    obtain ⟨b, rfl⟩ := Int.eq_ofNat_of_zero_le hb
    simp only [Int.toNat_natCast, Option.bind_eq_some_iff] at h
    obtain ⟨c, hc, hl⟩ := h
    obtain ⟨hat, rfl⟩ := List.getElem?_eq_some_iff.1 hc
    obtain ⟨hbl, rfl⟩ := List.getElem?_eq_some_iff.1 hl
    have ht3 := (ht2 _ (List.getElem_mem hat)).1
    have e1 : inB (a : Int) 0 ((t.length : Int) - 1) = true := by simp [inB]; omega
    have e2 : inB (b : Int) 0 ((t[a].lines.length : Int) - 1) = true := by simp [inB]; omega
    refine pure_intro (ow := fun _ => false) Tryz.func118 Tryz.ntmps118 rfl (by kernel_rfl) (by simp) rfl (by decide) fun G hG hOw hNm hB => ?_; simp only [go_sem, hG, hOw]
    refine semC_draw0 mixed (by kernel_rfl) ?_
    simp only [go_sem, hG, hOw]
    (repeat' with_reducible first | refine And.intro ?_ ?_ | intro _ | refine exP ?_ ?_); all_goals try omega
    refine ⟨_, callGivesA (within01_ok a 0 ((t.length : Int) - 1)), ?_⟩
    simp (maxSteps := 2000000) only [go_sem, hG, hOw, e1]
    (repeat' with_reducible first | refine And.intro ?_ ?_ | intro _ | refine exP ?_ ?_); all_goals try omega
    refine ⟨_, callGivesA (within01_ok b 0 ((t[a].lines.length : Int) - 1)), ?_⟩
    simp (maxSteps := 2000000) only [go_sem, hG, hOw, e2]
    (repeat' with_reducible first | refine And.intro ?_ ?_ | intro _ | refine exP ?_ ?_); all_goals try omega
    refine semC_draw0 mixed (by kernel_rfl) ?_
    simp only [go_sem, hG, hOw]
    (repeat' with_reducible first | refine And.intro ?_ ?_ | intro _ | refine exP ?_ ?_); all_goals try omega
  · cases h
theorem rline_no (t : List Ch) (ht : OKtB t) (a b : Int) (w : Int) (h : lineO t a b = none) : Gives Tryz.prog 118 [txE 0 t, .agg [i64 a, i64 b, i64 w]] (fun _ => .tup [strs 0 [], bl false]) := by
  obtain ⟨ht1, ht2⟩ := ht
  refine pure_intro (ow := fun _ => false) Tryz.func118 Tryz.ntmps118 rfl (by kernel_rfl) (by simp) rfl (by decide) fun G hG hOw hNm hB => ?_; simp only [go_sem, hG, hOw]
  refine semC_draw0 mixed (by kernel_rfl) ?_
  simp only [go_sem, hG, hOw]
  (repeat' with_reducible first | refine And.intro ?_ ?_ | intro _ | refine exP ?_ ?_); all_goals try omega
  refine ⟨_, callGivesA (within01_ok a 0 ((t.length : Int) - 1)), ?_⟩
  cases e1 : inB a 0 ((t.length : Int) - 1) with
  | false =>
    simp only [go_sem, hG, hOw]
    (repeat' with_reducible first | refine And.intro ?_ ?_ | intro _ | refine exP ?_ ?_); all_goals try omega
    exact Subs.tup (.cons (.nil _ _) (.cons (.refl _) .nil))
  | true =>
    have ha : 0 ≤ a ∧ a ≤ (t.length : Int) - 1 := by simpa [inB] using e1
    obtain ⟨ha0, ha1⟩ := ha
    obtain ⟨a, rfl⟩ := Int.eq_ofNat_of_zero_le ha0
    have hat : a < t.length := by omega
    have ht3 := (ht2 _ (List.getElem_mem hat)).1
    have e2 : inB b 0 ((t[a].lines.length : Int) - 1) = false := by
      cases e2 : inB b 0 ((t[a].lines.length : Int) - 1) with
      | false => rfl
      | true =>
        exfalso
        have hb : 0 ≤ b ∧ b ≤ (t[a].lines.length : Int) - 1 := by simpa [inB] using e2
        obtain ⟨b, rfl⟩ := Int.eq_ofNat_of_zero_le hb.1
        have hbl : b < t[a].lines.length := by omega
        simp [lineO, hat, hbl] at h
    simp only [go_sem, hG, hOw]
    (repeat' with_reducible first | refine And.intro ?_ ?_ | intro _ | refine exP ?_ ?_); all_goals try omega
    refine ⟨_, callGivesA (within01_ok b 0 ((t[a].lines.length : Int) - 1)), ?_⟩
    simp (maxSteps := 2000000) only [go_sem, hG, hOw, e2]
    (repeat' with_reducible first | refine And.intro ?_ ?_ | intro _ | refine exP ?_ ?_); all_goals try omega
    exact Subs.tup (.cons (.nil _ _) (.cons (.refl _) .nil))
theorem reading_ok (t : List Ch) (ht : textB t = true) (htB : OKtB t) (r : Rd) (hr : r.word.size ≤ 100000) : Gives Tryz.prog 91 [txE 0 t, .agg (rdE r)] (fun _ => bl (readingB t r)) := by
  obtain ⟨ht1, ht2⟩ := text_v ht
  cases hL : lineO t r.ch r.ln with
  | none =>
    have e : readingB t r = false := by unfold readingB; rw [hL]
    refine pure_intro (ow := fun _ => false) Tryz.func91 Tryz.ntmps91 rfl (by kernel_rfl) (by simp) rfl (by decide) fun G hG hOw hNm hB => ?_; simp only [go_sem, hG, hOw]
    refine call_pureA (rline_no t htB r.ch r.ln r.wd hL) ?_
    simp (maxSteps := 2000000) only [go_sem, hG, hOw, e]
  | some l =>
    have hll : 1 ≤ l.length ∧ l.length ≤ 10 := by
      unfold lineO at hL
      split at hL
      · simp only [Option.bind_eq_some_iff] at hL
        obtain ⟨cc, hc, hl⟩ := hL
        obtain ⟨hat, rfl⟩ := List.getElem?_eq_some_iff.1 hc
        obtain ⟨hbl, rfl⟩ := List.getElem?_eq_some_iff.1 hl
        exact ((ht2 _ (List.getElem_mem hat)).ln _ (List.getElem_mem hbl)).1
      · cases hL
    have hR : readingB t r = kindB l r.wd r.kind.toNat r.word := by unfold readingB; rw [hL]
    rw [hR]
    unfold kindB
    refine pure_intro (ow := fun _ => false) Tryz.func91 Tryz.ntmps91 rfl (by kernel_rfl) (by simp) rfl (by decide) fun G hG hOw hNm hB => ?_; simp only [go_sem, hG, hOw]
    refine call_pureA (rline_yes t htB r.ch r.ln r.wd l hL) ?_
    simp only [go_sem, hG, hOw]
    (repeat' with_reducible first | refine And.intro ?_ ?_ | intro _ | refine exP ?_ ?_); all_goals try omega
    · rename_i h1
      rw [if_pos h1]
      refine call_pureA (within01_ok r.wd 0 ((l.length : Int) - 1)) ?_
      cases hin : inB r.wd 0 ((l.length : Int) - 1) with
      | false => simp only [go_sem, hG, hOw]
      | true => simp only [go_sem, hG, hOw]
    · rename_i h1 h2
      rw [if_neg h1, if_pos h2]
      refine call_pureA (within01_ok r.wd 0 l.length) ?_
      cases hin : inB r.wd 0 l.length with
      | false => simp only [go_sem, hG, hOw]
      | true =>
        simp only [go_sem, hG, hOw]
        (repeat' with_reducible first | refine And.intro ?_ ?_ | intro _ | refine exP ?_ ?_); all_goals try omega
        refine call_pureA (Word_ok r.word (by omega)) ?_
        simp only [go_sem, hG, hOw]
    · rename_i h1 h2 h3
      rw [if_neg h1, if_neg h2, if_pos h3]
      refine semC_draw0 mixed (by kernel_rfl) ?_
      simp only [go_sem, hG, hOw]
      (repeat' with_reducible first | refine And.intro ?_ ?_ | intro _ | refine exP ?_ ?_); all_goals try omega
      refine ⟨_, callGivesA (within01_ok r.wd 0 ((l.length : Int) - 1)), ?_⟩
      cases hin : inB r.wd 0 ((l.length : Int) - 1) with
      | false =>
        simp only [go_sem, hG, hOw]
      | true =>
        have hin2 : 0 ≤ r.wd ∧ r.wd ≤ (l.length : Int) - 1 := by simpa [inB] using hin
        obtain ⟨w, hw⟩ := Int.eq_ofNat_of_zero_le hin2.1
        have hwl : w < l.length := by omega
        have ho : ownB l (w : Int) = l[w] := by unfold ownB; simp [hwl]
        simp only [go_sem, hG, hOw]
        (repeat' with_reducible first | refine And.intro ?_ ?_ | intro _ | refine exP ?_ ?_); all_goals try omega
        refine ⟨_, callGivesA (Word_ok r.word (by omega)), ?_⟩
        cases hX : wordB r.word with
        | false => simp only [go_sem, hG, hOw]
        | true =>
          simp (maxSteps := 2000000) only [go_sem, hG, hOw, hw]
          (repeat' with_reducible first | refine And.intro ?_ ?_ | intro _ | refine exP ?_ ?_); all_goals try omega
          rw [ho]
          simp
    · rename_i h1 h2 h3
      rw [if_neg h1, if_neg h2, if_neg h3]
end Go.Proofs.YtphadkcpgnkpfaaGreatDoor
