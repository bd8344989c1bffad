import Derived.Test.YtppcbmpiphhphaaGreatDoorQU21
import Derived.Test.YtppcbmpiphhphaaGreatDoorQU35
import Derived.Test.YtppcbmpiphhphaaGreatDoorQU51
import Derived.Test.YtppcbmpiphhphaaGreatDoorQU36
namespace Go.Proofs.YtppcbmpiphhphaaGreatDoor
open Go Pm
set_option linter.unusedSimpArgs false
set_option linter.unusedVariables false
set_option maxHeartbeats 4000000
set_option maxRecDepth 100000
theorem w04_ok (n lo hi : Int) : Gives Tryz.prog 144 [i64 n, i64 lo, i64 hi] (fun _ => bl (inB n lo hi)) := by
  refine pure_intro (ow := fun _ => false) Tryz.func144 Tryz.ntmps144 rfl (by kernel_rfl) (by simp) rfl (by decide) fun G hG hOw hNm hB => ?_; simp only [go_sem, hG, hOw]
  (repeat' with_reducible first | refine And.intro ?_ ?_ | intro _ | refine exP ?_ ?_); all_goals try omega
  all_goals (rename_i h; simp [inB, h])
theorem RLetters_ok (s : ByteArray) (lo : Int) (hs : s.size ≤ 100000) : Gives Tryz.prog 143 [str s, i64 lo] (fun _ => bl (lettersB s lo)) := by
  refine pure_intro (ow := fun _ => false) Tryz.func143 Tryz.ntmps143 rfl (by kernel_rfl) (by simp) rfl (by decide) fun G hG hOw hNm hB => ?_; simp only [go_sem, hG, hOw]
  have bad : ∀ j (h : j < s.size), letterB s[j] = false → false = lettersB s lo := fun j h h' => by
    unfold lettersB
    rw [all_false (l := s.data.toList) (k := j) (by simpa using h) (by rw [byte_at _ _ h]; exact h'), Bool.and_false]
  refine semC_loop (fun j : Nat => St.of [(0, .v (.string s)), (1, i64 lo), (5, i64 j)] []) (fun j => j ≤ s.size ∧ (s.data.toList.take j).all letterB = true) (fun j => s.size - j) 0 (by simp) (ent_of0 (by (simp only [go_sem]) <;> simp) hNm) ?_
  rintro j ⟨hj, hall⟩
  refine vc_sound _ _ _ ?_; simp only [go_sem, hG, hOw]
  (repeat' with_reducible first | refine And.intro ?_ ?_ | intro _ | refine exP ?_ ?_); all_goals try omega
  · exact bad j (by omega) (by simp [letterB]; omega)
  · refine ⟨j + 1, ⟨by omega, all_take_succ (by simp; omega) hall ?_⟩, by omega, ent_of0 (by (simp only [go_sem]) <;> simp) hNm⟩
    rw [byte_at _ _ (by omega)]
    simp [letterB]; omega
  · exact bad j (by omega) (by simp [letterB]; omega)
  · rename_i hge
    refine call_pureA (w04_ok _ _ _) ?_
    simp only [go_sem, hG, hOw]
    rw [take_full (by simpa using hj) (by simpa using hge)] at hall
    unfold lettersB
    rw [hall, Bool.and_true]
theorem RRule_ok (r : Rl) (h : bdR r) : Gives Tryz.prog 117 [.agg (rlC r)] (fun _ => bl (ruleB r)) := by
  obtain ⟨h1, h2⟩ := h
  have c1 := RLetters_ok r.cut 1 (by omega)
  have c2 := RLetters_ok r.put 0 (by omega)
  have c3 := w04_ok r.least 1 12
  unfold ruleB
  refine pure_intro (ow := fun _ => false) Tryz.func117 Tryz.ntmps117 rfl (by kernel_rfl) (by simp) rfl (by decide) fun G hG hOw hNm hB => ?_; simp only [go_sem, hG, hOw]
  refine call_pure c1 (by first | exact Subs.refl _ | (repeat' (first | exact Subs.nil | exact Sub.refl _ | exact Sub.lo (Nat.zero_le _) | refine Subs.cons ?_ ?_ | refine Subs.agg ?_ | refine Subs.fp ?_ | refine Subs.tup ?_ | refine Sub.map (Nat.zero_le _) (fun _ => ?_)))) (by first | rfl | simp [allP, all0, pureV, pure0, *]) (by simp [chk, hG]) ?_
  cases lettersB r.cut 1 with
  | false =>
    simp only [go_sem, hG, hOw]
    try (repeat' with_reducible first | refine And.intro ?_ ?_ | intro _ | refine exP ?_ ?_); all_goals try omega
  | true =>
    simp only [go_sem, hG, hOw]
    (repeat' with_reducible first | refine And.intro ?_ ?_ | intro _ | refine exP ?_ ?_); all_goals try omega
    refine call_pure c2 (by first | exact Subs.refl _ | (repeat' (first | exact Subs.nil | exact Sub.refl _ | exact Sub.lo (Nat.zero_le _) | refine Subs.cons ?_ ?_ | refine Subs.agg ?_ | refine Subs.fp ?_ | refine Subs.tup ?_ | refine Sub.map (Nat.zero_le _) (fun _ => ?_)))) (by first | rfl | simp [allP, all0, pureV, pure0, *]) (by simp [chk, hG]) ?_
    cases lettersB r.put 0 with
    | false =>
      simp only [go_sem, hG, hOw]
      try (repeat' with_reducible first | refine And.intro ?_ ?_ | intro _ | refine exP ?_ ?_); all_goals try omega
    | true =>
      by_cases he : r.cut = r.put
      · rw [decide_eq_true he]
        simp (maxSteps := 2000000) only [go_sem, hG, hOw, decide_eq_true he]
        try (repeat' with_reducible first | refine And.intro ?_ ?_ | intro _ | refine exP ?_ ?_); all_goals try omega
      · rw [decide_eq_false he]
        simp (maxSteps := 2000000) only [go_sem, hG, hOw, decide_eq_false he]
        (repeat' with_reducible first | refine And.intro ?_ ?_ | intro _ | refine exP ?_ ?_); all_goals try omega
        refine call_pure c3 (by first | exact Subs.refl _ | (repeat' (first | exact Subs.nil | exact Sub.refl _ | exact Sub.lo (Nat.zero_le _) | refine Subs.cons ?_ ?_ | refine Subs.agg ?_ | refine Subs.fp ?_ | refine Subs.tup ?_ | refine Sub.map (Nat.zero_le _) (fun _ => ?_)))) (by first | rfl | simp [allP, all0, pureV, pure0, *]) (by simp [chk, hG]) ?_
        simp only [go_sem, hG, hOw]
        try (repeat' with_reducible first | refine And.intro ?_ ?_ | intro _ | refine exP ?_ ?_); all_goals try omega
theorem RHead_ok (stem : ByteArray) (mark : UInt8) (hs : stem.size ≤ 100000) : Gives Tryz.prog 146 [.agg [str stem, u8 mark]] (fun _ => bl (headB stem mark)) := by
  have hm : inB mark.toNat 0 3 = decide ((mark.toNat : Int) ≤ 3) := by
    unfold inB
    rw [decide_eq_true (by omega : (0 : Int) ≤ mark.toNat), Bool.true_and]
  have hlt : mark.toNat < 256 := mark.toNat_lt
  have c2 := w04_ok mark.toNat 0 3
  rw [hm] at c2
  unfold headB
  refine pure_intro (ow := fun _ => false) Tryz.func146 Tryz.ntmps146 rfl (by kernel_rfl) (by simp) rfl (by decide) fun G hG hOw hNm hB => ?_; simp only [go_sem, hG, hOw]
  refine call_pureA (Word_ok stem (by omega)) ?_
  cases wordB stem with
  | false =>
    simp only [go_sem, hG, hOw]
    try (repeat' with_reducible first | refine And.intro ?_ ?_ | intro _ | refine exP ?_ ?_); all_goals try omega
  | true =>
    simp only [go_sem, hG, hOw]
    (repeat' with_reducible first | refine And.intro ?_ ?_ | intro _ | refine exP ?_ ?_); all_goals try omega
    refine call_pure c2 (by first | exact Subs.refl _ | (repeat' (first | exact Subs.nil | exact Sub.refl _ | exact Sub.lo (Nat.zero_le _) | refine Subs.cons ?_ ?_ | refine Subs.agg ?_ | refine Subs.fp ?_ | refine Subs.tup ?_ | refine Sub.map (Nat.zero_le _) (fun _ => ?_)))) (by first | rfl | simp [allP, all0, pureV, pure0, *]) (by simp [chk, hG]) ?_
    simp only [go_sem, hG, hOw]
    try (repeat' with_reducible first | refine And.intro ?_ ?_ | intro _ | refine exP ?_ ?_); all_goals try omega
theorem RPlace_ok (t : List Ch) (ht : OKtB t) (a b w : Int) : Gives Tryz.prog 145 [txE 0 t, plV a b w] (fun _ => bl (placeT t a b w)) := by
  unfold placeT
  cases h : lineO t a b with
  | some l =>
    have hl := lineO_len ht h
    refine pure_intro (ow := fun _ => false) Tryz.func145 Tryz.ntmps145 rfl (by kernel_rfl) (by simp) rfl (by decide) fun G hG hOw hNm hB => ?_; simp only [go_sem, hG, hOw]
    refine call_pureA (rline_yes t ht a b w l h) ?_
    simp only [go_sem, hG, hOw]
    (repeat' with_reducible first | refine And.intro ?_ ?_ | intro _ | refine exP ?_ ?_); all_goals try omega
    refine call_pureA (within01_ok w 0 ((l.length : Int) - 1)) ?_
    simp only [go_sem, hG, hOw]
    try (repeat' with_reducible first | refine And.intro ?_ ?_ | intro _ | refine exP ?_ ?_); all_goals try omega
  | none =>
    refine pure_intro (ow := fun _ => false) Tryz.func145 Tryz.ntmps145 rfl (by kernel_rfl) (by simp) rfl (by decide) fun G hG hOw hNm hB => ?_; simp only [go_sem, hG, hOw]
    refine call_pureA (rline_no t ht a b w h) ?_
    simp only [go_sem, hG, hOw]
    try (repeat' with_reducible first | refine And.intro ?_ ?_ | intro _ | refine exP ?_ ?_); all_goals try omega
open Go Pm
set_option maxHeartbeats 4000000
set_option maxRecDepth 100000
theorem rdec_1 (t : List Ch) (ht : OKtB t) (num : Int) (form : ByteArray) (ch ln wd : Int) (stem : ByteArray) (mark : UInt8) (of : Int) (hf : form.size ≤ 100000) (hst : stem.size ≤ 100000) :
    Gives Tryz.prog 118 [txE 0 t, .agg [i64 num, .v (.int .u8 1), str form, i64 ch, i64 ln, i64 wd, str stem, u8 mark, i64 of]] (fun _ => bl (inB num 1 999 && decK t 1 num form ch ln wd stem mark of)) := by
  have hbe : ByteArray.empty = ⟨#[]⟩ := rfl
  have hN := w04_ok num 1 999
  have hP := RPlace_ok t ht ch ln wd
  have hH := RHead_ok stem mark hst
  have hW := Word_ok form (by omega)
  have hI := w04_ok of 1 (num - 1)
  have hm : decide (mark = 0) = decide ((mark.toNat : Int) = 0) := decide_eq_decide.2 (mark0 mark).symm
  have hd : decK t 1 num form ch ln wd stem mark of = (wordB form && ((decide (ch = 0) && (decide (ln = 0) && decide (wd = 0))) && (headB stem mark && decide (of = 0)))) := by
    unfold decK at0B
    simp
  rw [hd]
  cases hn : inB num 1 999 with
  | false =>
    rw [hn] at hN
    refine pure_intro (ow := fun _ => false) Tryz.func118 Tryz.ntmps118 rfl (by kernel_rfl) (by simp) rfl (by decide) fun G hG hOw hNm hB => ?_; simp only [go_sem, hG, hOw]
    refine call_pure hN (by first | exact Subs.refl _ | (repeat' (first | exact Subs.nil | exact Sub.refl _ | exact Sub.lo (Nat.zero_le _) | refine Subs.cons ?_ ?_ | refine Subs.agg ?_ | refine Subs.fp ?_ | refine Subs.tup ?_ | refine Sub.map (Nat.zero_le _) (fun _ => ?_)))) (by first | rfl | simp [allP, all0, pureV, pure0, *]) (by simp [chk, hG]) ?_
    simp only [go_sem, hG, hOw]
    try (repeat' with_reducible first | refine And.intro ?_ ?_ | intro _ | refine exP ?_ ?_); all_goals try omega
  | true =>
    rw [hn] at hN
    rw [Bool.true_and]
    have hn2 : 1 ≤ num ∧ num ≤ 999 := by simpa [inB] using hn
    refine pure_intro (ow := fun _ => false) Tryz.func118 Tryz.ntmps118 rfl (by kernel_rfl) (by simp) rfl (by decide) fun G hG hOw hNm hB => ?_; simp only [go_sem, hG, hOw]
    refine call_pure hN (by first | exact Subs.refl _ | (repeat' (first | exact Subs.nil | exact Sub.refl _ | exact Sub.lo (Nat.zero_le _) | refine Subs.cons ?_ ?_ | refine Subs.agg ?_ | refine Subs.fp ?_ | refine Subs.tup ?_ | refine Sub.map (Nat.zero_le _) (fun _ => ?_)))) (by first | rfl | simp [allP, all0, pureV, pure0, *]) (by simp [chk, hG]) ?_
    simp only [go_sem, hG, hOw]
    (repeat' with_reducible first | refine And.intro ?_ ?_ | intro _ | refine exP ?_ ?_); all_goals try omega
    refine call_pure hP (by first | exact Subs.refl _ | (repeat' (first | exact Subs.nil | exact Sub.refl _ | exact Sub.lo (Nat.zero_le _) | refine Subs.cons ?_ ?_ | refine Subs.agg ?_ | refine Subs.fp ?_ | refine Subs.tup ?_ | refine Sub.map (Nat.zero_le _) (fun _ => ?_)))) (by first | rfl | simp [allP, all0, pureV, pure0, *]) (by simp [chk, hG]) ?_
    simp (maxSteps := 2000000) only [go_sem, hG, hOw, hbe]
    (repeat' with_reducible first | refine And.intro ?_ ?_ | intro _ | refine exP ?_ ?_); all_goals try omega
    refine call_pure hW (by first | exact Subs.refl _ | (repeat' (first | exact Subs.nil | exact Sub.refl _ | exact Sub.lo (Nat.zero_le _) | refine Subs.cons ?_ ?_ | refine Subs.agg ?_ | refine Subs.fp ?_ | refine Subs.tup ?_ | refine Sub.map (Nat.zero_le _) (fun _ => ?_)))) (by first | rfl | simp [allP, all0, pureV, pure0, *]) (by simp [chk, hG]) ?_
    cases hE1 : wordB form with
    | false =>
      simp (maxSteps := 2000000) only [go_sem, hG, hOw, hbe,hE1]
      try (repeat' with_reducible first | refine And.intro ?_ ?_ | intro _ | refine exP ?_ ?_); all_goals try omega
    | true =>
      cases hE2 : (decide (ch = 0) && (decide (ln = 0) && decide (wd = 0))) with
      | false =>
        simp (maxSteps := 2000000) only [go_sem, hG, hOw, hbe,hE1,hE2]
        try (repeat' with_reducible first | refine And.intro ?_ ?_ | intro _ | refine exP ?_ ?_); all_goals try omega
      | true =>
        simp (maxSteps := 2000000) only [go_sem, hG, hOw, hbe,hE1,hE2]
        (repeat' with_reducible first | refine And.intro ?_ ?_ | intro _ | refine exP ?_ ?_); all_goals try omega
        refine call_pure hH (by first | exact Subs.refl _ | (repeat' (first | exact Subs.nil | exact Sub.refl _ | exact Sub.lo (Nat.zero_le _) | refine Subs.cons ?_ ?_ | refine Subs.agg ?_ | refine Subs.fp ?_ | refine Subs.tup ?_ | refine Sub.map (Nat.zero_le _) (fun _ => ?_)))) (by first | rfl | simp [allP, all0, pureV, pure0, *]) (by simp [chk, hG]) ?_
        cases hE3 : headB stem mark with
        | false =>
          simp (maxSteps := 2000000) only [go_sem, hG, hOw, hbe,hE1,hE2,hE3]
          try (repeat' with_reducible first | refine And.intro ?_ ?_ | intro _ | refine exP ?_ ?_); all_goals try omega
        | true =>
          cases hE4 : decide (of = 0) with
          | false =>
            simp (maxSteps := 2000000) only [go_sem, hG, hOw, hbe,hE1,hE2,hE3,hE4]
            try (repeat' with_reducible first | refine And.intro ?_ ?_ | intro _ | refine exP ?_ ?_); all_goals try omega
          | true =>
            simp (maxSteps := 2000000) only [go_sem, hG, hOw, hbe,hE1,hE2,hE3,hE4]
            try (repeat' with_reducible first | refine And.intro ?_ ?_ | intro _ | refine exP ?_ ?_); all_goals try omega
open Go Pm
set_option maxHeartbeats 4000000
set_option maxRecDepth 100000
theorem rdec_2 (t : List Ch) (ht : OKtB t) (num : Int) (form : ByteArray) (ch ln wd : Int) (stem : ByteArray) (mark : UInt8) (of : Int) (hf : form.size ≤ 100000) (hst : stem.size ≤ 100000) :
    Gives Tryz.prog 118 [txE 0 t, .agg [i64 num, .v (.int .u8 2), str form, i64 ch, i64 ln, i64 wd, str stem, u8 mark, i64 of]] (fun _ => bl (inB num 1 999 && decK t 2 num form ch ln wd stem mark of)) := by
  have hbe : ByteArray.empty = ⟨#[]⟩ := rfl
  have hN := w04_ok num 1 999
  have hP := RPlace_ok t ht ch ln wd
  have hH := RHead_ok stem mark hst
  have hW := Word_ok form (by omega)
  have hI := w04_ok of 1 (num - 1)
  have hm : decide (mark = 0) = decide ((mark.toNat : Int) = 0) := decide_eq_decide.2 (mark0 mark).symm
  have hd : decK t 2 num form ch ln wd stem mark of = (wordB form && (placeT t ch ln wd && (headB stem mark && decide (of = 0)))) := by
    unfold decK at0B
    simp
  rw [hd]
  cases hn : inB num 1 999 with
  | false =>
    rw [hn] at hN
    refine pure_intro (ow := fun _ => false) Tryz.func118 Tryz.ntmps118 rfl (by kernel_rfl) (by simp) rfl (by decide) fun G hG hOw hNm hB => ?_; simp only [go_sem, hG, hOw]
    refine call_pure hN (by first | exact Subs.refl _ | (repeat' (first | exact Subs.nil | exact Sub.refl _ | exact Sub.lo (Nat.zero_le _) | refine Subs.cons ?_ ?_ | refine Subs.agg ?_ | refine Subs.fp ?_ | refine Subs.tup ?_ | refine Sub.map (Nat.zero_le _) (fun _ => ?_)))) (by first | rfl | simp [allP, all0, pureV, pure0, *]) (by simp [chk, hG]) ?_
    simp only [go_sem, hG, hOw]
    try (repeat' with_reducible first | refine And.intro ?_ ?_ | intro _ | refine exP ?_ ?_); all_goals try omega
  | true =>
    rw [hn] at hN
    rw [Bool.true_and]
    have hn2 : 1 ≤ num ∧ num ≤ 999 := by simpa [inB] using hn
    refine pure_intro (ow := fun _ => false) Tryz.func118 Tryz.ntmps118 rfl (by kernel_rfl) (by simp) rfl (by decide) fun G hG hOw hNm hB => ?_; simp only [go_sem, hG, hOw]
    refine call_pure hN (by first | exact Subs.refl _ | (repeat' (first | exact Subs.nil | exact Sub.refl _ | exact Sub.lo (Nat.zero_le _) | refine Subs.cons ?_ ?_ | refine Subs.agg ?_ | refine Subs.fp ?_ | refine Subs.tup ?_ | refine Sub.map (Nat.zero_le _) (fun _ => ?_)))) (by first | rfl | simp [allP, all0, pureV, pure0, *]) (by simp [chk, hG]) ?_
    simp only [go_sem, hG, hOw]
    (repeat' with_reducible first | refine And.intro ?_ ?_ | intro _ | refine exP ?_ ?_); all_goals try omega
    refine call_pure hP (by first | exact Subs.refl _ | (repeat' (first | exact Subs.nil | exact Sub.refl _ | exact Sub.lo (Nat.zero_le _) | refine Subs.cons ?_ ?_ | refine Subs.agg ?_ | refine Subs.fp ?_ | refine Subs.tup ?_ | refine Sub.map (Nat.zero_le _) (fun _ => ?_)))) (by first | rfl | simp [allP, all0, pureV, pure0, *]) (by simp [chk, hG]) ?_
    simp (maxSteps := 2000000) only [go_sem, hG, hOw, hbe]
    (repeat' with_reducible first | refine And.intro ?_ ?_ | intro _ | refine exP ?_ ?_); all_goals try omega
    refine call_pure hW (by first | exact Subs.refl _ | (repeat' (first | exact Subs.nil | exact Sub.refl _ | exact Sub.lo (Nat.zero_le _) | refine Subs.cons ?_ ?_ | refine Subs.agg ?_ | refine Subs.fp ?_ | refine Subs.tup ?_ | refine Sub.map (Nat.zero_le _) (fun _ => ?_)))) (by first | rfl | simp [allP, all0, pureV, pure0, *]) (by simp [chk, hG]) ?_
    cases hE1 : wordB form with
    | false =>
      simp (maxSteps := 2000000) only [go_sem, hG, hOw, hbe,hE1]
      try (repeat' with_reducible first | refine And.intro ?_ ?_ | intro _ | refine exP ?_ ?_); all_goals try omega
    | true =>
      cases hE2 : placeT t ch ln wd with
      | false =>
        simp (maxSteps := 2000000) only [go_sem, hG, hOw, hbe,hE1,hE2]
        try (repeat' with_reducible first | refine And.intro ?_ ?_ | intro _ | refine exP ?_ ?_); all_goals try omega
      | true =>
        simp (maxSteps := 2000000) only [go_sem, hG, hOw, hbe,hE1,hE2]
        (repeat' with_reducible first | refine And.intro ?_ ?_ | intro _ | refine exP ?_ ?_); all_goals try omega
        refine call_pure hH (by first | exact Subs.refl _ | (repeat' (first | exact Subs.nil | exact Sub.refl _ | exact Sub.lo (Nat.zero_le _) | refine Subs.cons ?_ ?_ | refine Subs.agg ?_ | refine Subs.fp ?_ | refine Subs.tup ?_ | refine Sub.map (Nat.zero_le _) (fun _ => ?_)))) (by first | rfl | simp [allP, all0, pureV, pure0, *]) (by simp [chk, hG]) ?_
        cases hE3 : headB stem mark with
        | false =>
          simp (maxSteps := 2000000) only [go_sem, hG, hOw, hbe,hE1,hE2,hE3]
          try (repeat' with_reducible first | refine And.intro ?_ ?_ | intro _ | refine exP ?_ ?_); all_goals try omega
        | true =>
          cases hE4 : decide (of = 0) with
          | false =>
            simp (maxSteps := 2000000) only [go_sem, hG, hOw, hbe,hE1,hE2,hE3,hE4]
            try (repeat' with_reducible first | refine And.intro ?_ ?_ | intro _ | refine exP ?_ ?_); all_goals try omega
          | true =>
            simp (maxSteps := 2000000) only [go_sem, hG, hOw, hbe,hE1,hE2,hE3,hE4]
            try (repeat' with_reducible first | refine And.intro ?_ ?_ | intro _ | refine exP ?_ ?_); all_goals try omega
open Go Pm
set_option maxHeartbeats 4000000
set_option maxRecDepth 100000
theorem rdec_3 (t : List Ch) (ht : OKtB t) (num : Int) (form : ByteArray) (ch ln wd : Int) (stem : ByteArray) (mark : UInt8) (of : Int) (hf : form.size ≤ 100000) (hst : stem.size ≤ 100000) :
    Gives Tryz.prog 118 [txE 0 t, .agg [i64 num, .v (.int .u8 3), str form, i64 ch, i64 ln, i64 wd, str stem, u8 mark, i64 of]] (fun _ => bl (inB num 1 999 && decK t 3 num form ch ln wd stem mark of)) := by
  have hbe : ByteArray.empty = ⟨#[]⟩ := rfl
  have hN := w04_ok num 1 999
  have hP := RPlace_ok t ht ch ln wd
  have hH := RHead_ok stem mark hst
  have hW := Word_ok form (by omega)
  have hI := w04_ok of 1 (num - 1)
  have hm : decide (mark = 0) = decide ((mark.toNat : Int) = 0) := decide_eq_decide.2 (mark0 mark).symm
  have hd : decK t 3 num form ch ln wd stem mark of = (decide (form = ⟨#[]⟩) && (placeT t ch ln wd && (headB stem mark && decide (of = 0)))) := by
    unfold decK at0B
    simp
  rw [hd]
  cases hn : inB num 1 999 with
  | false =>
    rw [hn] at hN
    refine pure_intro (ow := fun _ => false) Tryz.func118 Tryz.ntmps118 rfl (by kernel_rfl) (by simp) rfl (by decide) fun G hG hOw hNm hB => ?_; simp only [go_sem, hG, hOw]
    refine call_pure hN (by first | exact Subs.refl _ | (repeat' (first | exact Subs.nil | exact Sub.refl _ | exact Sub.lo (Nat.zero_le _) | refine Subs.cons ?_ ?_ | refine Subs.agg ?_ | refine Subs.fp ?_ | refine Subs.tup ?_ | refine Sub.map (Nat.zero_le _) (fun _ => ?_)))) (by first | rfl | simp [allP, all0, pureV, pure0, *]) (by simp [chk, hG]) ?_
    simp only [go_sem, hG, hOw]
    try (repeat' with_reducible first | refine And.intro ?_ ?_ | intro _ | refine exP ?_ ?_); all_goals try omega
  | true =>
    rw [hn] at hN
    rw [Bool.true_and]
    have hn2 : 1 ≤ num ∧ num ≤ 999 := by simpa [inB] using hn
    refine pure_intro (ow := fun _ => false) Tryz.func118 Tryz.ntmps118 rfl (by kernel_rfl) (by simp) rfl (by decide) fun G hG hOw hNm hB => ?_; simp only [go_sem, hG, hOw]
    refine call_pure hN (by first | exact Subs.refl _ | (repeat' (first | exact Subs.nil | exact Sub.refl _ | exact Sub.lo (Nat.zero_le _) | refine Subs.cons ?_ ?_ | refine Subs.agg ?_ | refine Subs.fp ?_ | refine Subs.tup ?_ | refine Sub.map (Nat.zero_le _) (fun _ => ?_)))) (by first | rfl | simp [allP, all0, pureV, pure0, *]) (by simp [chk, hG]) ?_
    simp only [go_sem, hG, hOw]
    (repeat' with_reducible first | refine And.intro ?_ ?_ | intro _ | refine exP ?_ ?_); all_goals try omega
    refine call_pure hP (by first | exact Subs.refl _ | (repeat' (first | exact Subs.nil | exact Sub.refl _ | exact Sub.lo (Nat.zero_le _) | refine Subs.cons ?_ ?_ | refine Subs.agg ?_ | refine Subs.fp ?_ | refine Subs.tup ?_ | refine Sub.map (Nat.zero_le _) (fun _ => ?_)))) (by first | rfl | simp [allP, all0, pureV, pure0, *]) (by simp [chk, hG]) ?_
    cases hE1 : decide (form = ⟨#[]⟩) with
    | false =>
      simp (maxSteps := 2000000) only [go_sem, hG, hOw, hbe,hE1]
      try (repeat' with_reducible first | refine And.intro ?_ ?_ | intro _ | refine exP ?_ ?_); all_goals try omega
    | true =>
      cases hE2 : placeT t ch ln wd with
      | false =>
        simp (maxSteps := 2000000) only [go_sem, hG, hOw, hbe,hE1,hE2]
        try (repeat' with_reducible first | refine And.intro ?_ ?_ | intro _ | refine exP ?_ ?_); all_goals try omega
      | true =>
        simp (maxSteps := 2000000) only [go_sem, hG, hOw, hbe,hE1,hE2]
        (repeat' with_reducible first | refine And.intro ?_ ?_ | intro _ | refine exP ?_ ?_); all_goals try omega
        refine call_pure hH (by first | exact Subs.refl _ | (repeat' (first | exact Subs.nil | exact Sub.refl _ | exact Sub.lo (Nat.zero_le _) | refine Subs.cons ?_ ?_ | refine Subs.agg ?_ | refine Subs.fp ?_ | refine Subs.tup ?_ | refine Sub.map (Nat.zero_le _) (fun _ => ?_)))) (by first | rfl | simp [allP, all0, pureV, pure0, *]) (by simp [chk, hG]) ?_
        cases hE3 : headB stem mark with
        | false =>
          simp (maxSteps := 2000000) only [go_sem, hG, hOw, hbe,hE1,hE2,hE3]
          try (repeat' with_reducible first | refine And.intro ?_ ?_ | intro _ | refine exP ?_ ?_); all_goals try omega
        | true =>
          cases hE4 : decide (of = 0) with
          | false =>
            simp (maxSteps := 2000000) only [go_sem, hG, hOw, hbe,hE1,hE2,hE3,hE4]
            try (repeat' with_reducible first | refine And.intro ?_ ?_ | intro _ | refine exP ?_ ?_); all_goals try omega
          | true =>
            simp (maxSteps := 2000000) only [go_sem, hG, hOw, hbe,hE1,hE2,hE3,hE4]
            try (repeat' with_reducible first | refine And.intro ?_ ?_ | intro _ | refine exP ?_ ?_); all_goals try omega
open Go Pm
set_option maxHeartbeats 4000000
set_option maxRecDepth 100000
theorem rdec_4 (t : List Ch) (ht : OKtB t) (num : Int) (form : ByteArray) (ch ln wd : Int) (stem : ByteArray) (mark : UInt8) (of : Int) (hf : form.size ≤ 100000) (hst : stem.size ≤ 100000) :
    Gives Tryz.prog 118 [txE 0 t, .agg [i64 num, .v (.int .u8 4), str form, i64 ch, i64 ln, i64 wd, str stem, u8 mark, i64 of]] (fun _ => bl (inB num 1 999 && decK t 4 num form ch ln wd stem mark of)) := by
  have hbe : ByteArray.empty = ⟨#[]⟩ := rfl
  have hN := w04_ok num 1 999
  have hP := RPlace_ok t ht ch ln wd
  have hH := RHead_ok stem mark hst
  have hW := Word_ok form (by omega)
  have hI := w04_ok of 1 (num - 1)
  have hm : decide (mark = 0) = decide ((mark.toNat : Int) = 0) := decide_eq_decide.2 (mark0 mark).symm
  have hd : decK t 4 num form ch ln wd stem mark of = (decide (form = ⟨#[]⟩) && ((decide (ch = 0) && (decide (ln = 0) && decide (wd = 0))) && ((decide (stem = ⟨#[]⟩) && decide ((mark.toNat : Int) = 0)) && inB of 1 (num - 1)))) := by
    unfold decK at0B to0B
    simp [hm]
  rw [hd]
  cases hn : inB num 1 999 with
  | false =>
    rw [hn] at hN
    refine pure_intro (ow := fun _ => false) Tryz.func118 Tryz.ntmps118 rfl (by kernel_rfl) (by simp) rfl (by decide) fun G hG hOw hNm hB => ?_; simp only [go_sem, hG, hOw]
    refine call_pure hN (by first | exact Subs.refl _ | (repeat' (first | exact Subs.nil | exact Sub.refl _ | exact Sub.lo (Nat.zero_le _) | refine Subs.cons ?_ ?_ | refine Subs.agg ?_ | refine Subs.fp ?_ | refine Subs.tup ?_ | refine Sub.map (Nat.zero_le _) (fun _ => ?_)))) (by first | rfl | simp [allP, all0, pureV, pure0, *]) (by simp [chk, hG]) ?_
    simp only [go_sem, hG, hOw]
    try (repeat' with_reducible first | refine And.intro ?_ ?_ | intro _ | refine exP ?_ ?_); all_goals try omega
  | true =>
    rw [hn] at hN
    rw [Bool.true_and]
    have hn2 : 1 ≤ num ∧ num ≤ 999 := by simpa [inB] using hn
    refine pure_intro (ow := fun _ => false) Tryz.func118 Tryz.ntmps118 rfl (by kernel_rfl) (by simp) rfl (by decide) fun G hG hOw hNm hB => ?_; simp only [go_sem, hG, hOw]
    refine call_pure hN (by first | exact Subs.refl _ | (repeat' (first | exact Subs.nil | exact Sub.refl _ | exact Sub.lo (Nat.zero_le _) | refine Subs.cons ?_ ?_ | refine Subs.agg ?_ | refine Subs.fp ?_ | refine Subs.tup ?_ | refine Sub.map (Nat.zero_le _) (fun _ => ?_)))) (by first | rfl | simp [allP, all0, pureV, pure0, *]) (by simp [chk, hG]) ?_
    simp only [go_sem, hG, hOw]
    (repeat' with_reducible first | refine And.intro ?_ ?_ | intro _ | refine exP ?_ ?_); all_goals try omega
    refine call_pure hP (by first | exact Subs.refl _ | (repeat' (first | exact Subs.nil | exact Sub.refl _ | exact Sub.lo (Nat.zero_le _) | refine Subs.cons ?_ ?_ | refine Subs.agg ?_ | refine Subs.fp ?_ | refine Subs.tup ?_ | refine Sub.map (Nat.zero_le _) (fun _ => ?_)))) (by first | rfl | simp [allP, all0, pureV, pure0, *]) (by simp [chk, hG]) ?_
    cases hE1 : decide (form = ⟨#[]⟩) with
    | false =>
      simp (maxSteps := 2000000) only [go_sem, hG, hOw, hbe,hE1]
      try (repeat' with_reducible first | refine And.intro ?_ ?_ | intro _ | refine exP ?_ ?_); all_goals try omega
    | true =>
      cases hE2 : (decide (ch = 0) && (decide (ln = 0) && decide (wd = 0))) with
      | false =>
        simp (maxSteps := 2000000) only [go_sem, hG, hOw, hbe,hE1,hE2]
        try (repeat' with_reducible first | refine And.intro ?_ ?_ | intro _ | refine exP ?_ ?_); all_goals try omega
      | true =>
        cases hE3 : (decide (stem = ⟨#[]⟩) && decide ((mark.toNat : Int) = 0)) with
        | false =>
          simp (maxSteps := 2000000) only [go_sem, hG, hOw, hbe,hE1,hE2,hE3]
          try (repeat' with_reducible first | refine And.intro ?_ ?_ | intro _ | refine exP ?_ ?_); all_goals try omega
        | true =>
          simp (maxSteps := 2000000) only [go_sem, hG, hOw, hbe,hE1,hE2,hE3]
          (repeat' with_reducible first | refine And.intro ?_ ?_ | intro _ | refine exP ?_ ?_); all_goals try omega
          refine call_pure hI (by first | exact Subs.refl _ | (repeat' (first | exact Subs.nil | exact Sub.refl _ | exact Sub.lo (Nat.zero_le _) | refine Subs.cons ?_ ?_ | refine Subs.agg ?_ | refine Subs.fp ?_ | refine Subs.tup ?_ | refine Sub.map (Nat.zero_le _) (fun _ => ?_)))) (by first | rfl | simp [allP, all0, pureV, pure0, *]) (by simp [chk, hG]) ?_
          cases hE4 : inB of 1 (num - 1) with
          | false =>
            simp (maxSteps := 2000000) only [go_sem, hG, hOw, hbe,hE1,hE2,hE3,hE4]
            try (repeat' with_reducible first | refine And.intro ?_ ?_ | intro _ | refine exP ?_ ?_); all_goals try omega
          | true =>
            simp (maxSteps := 2000000) only [go_sem, hG, hOw, hbe,hE1,hE2,hE3,hE4]
            try (repeat' with_reducible first | refine And.intro ?_ ?_ | intro _ | refine exP ?_ ?_); all_goals try omega
open Go Pm
set_option maxHeartbeats 4000000
set_option maxRecDepth 100000
theorem RDec_ok (t : List Ch) (ht : OKtB t) (d : Dc) (hd : bdD d) : Gives Tryz.prog 118 [txE 0 t, .agg (dcC d)] (fun _ => bl (decB t d)) := by
  obtain ⟨num, kind, form, ch, ln, wd, stem, mark, of⟩ := d
  obtain ⟨h1, h2⟩ := hd
  simp only at h1 h2
  unfold decB
  simp only [dcC, u8]
  by_cases k1 : (kind.toNat : Int) = 1
  · rw [k1]; exact rdec_1 t ht num form ch ln wd stem mark of h1 h2
  by_cases k2 : (kind.toNat : Int) = 2
  · rw [k2]; exact rdec_2 t ht num form ch ln wd stem mark of h1 h2
  by_cases k3 : (kind.toNat : Int) = 3
  · rw [k3]; exact rdec_3 t ht num form ch ln wd stem mark of h1 h2
  by_cases k4 : (kind.toNat : Int) = 4
  · rw [k4]; exact rdec_4 t ht num form ch ln wd stem mark of h1 h2
  have hf : decK t kind.toNat num form ch ln wd stem mark of = false := by unfold decK; rw [if_neg k1, if_neg k2, if_neg k3, if_neg k4]
  rw [hf, Bool.and_false]
  have hN := w04_ok num 1 999
  have hP := RPlace_ok t ht ch ln wd
  cases hn : inB num 1 999 with
  | false =>
    rw [hn] at hN
    refine pure_intro (ow := fun _ => false) Tryz.func118 Tryz.ntmps118 rfl (by kernel_rfl) (by simp) rfl (by decide) fun G hG hOw hNm hB => ?_; simp only [go_sem, hG, hOw]
    refine call_pure hN (by first | exact Subs.refl _ | (repeat' (first | exact Subs.nil | exact Sub.refl _ | exact Sub.lo (Nat.zero_le _) | refine Subs.cons ?_ ?_ | refine Subs.agg ?_ | refine Subs.fp ?_ | refine Subs.tup ?_ | refine Sub.map (Nat.zero_le _) (fun _ => ?_)))) (by first | rfl | simp [allP, all0, pureV, pure0, *]) (by simp [chk, hG]) ?_
    simp only [go_sem, hG, hOw]
    try (repeat' with_reducible first | refine And.intro ?_ ?_ | intro _ | refine exP ?_ ?_); all_goals try omega
  | true =>
    rw [hn] at hN
    refine pure_intro (ow := fun _ => false) Tryz.func118 Tryz.ntmps118 rfl (by kernel_rfl) (by simp) rfl (by decide) fun G hG hOw hNm hB => ?_; simp only [go_sem, hG, hOw]
    refine call_pure hN (by first | exact Subs.refl _ | (repeat' (first | exact Subs.nil | exact Sub.refl _ | exact Sub.lo (Nat.zero_le _) | refine Subs.cons ?_ ?_ | refine Subs.agg ?_ | refine Subs.fp ?_ | refine Subs.tup ?_ | refine Sub.map (Nat.zero_le _) (fun _ => ?_)))) (by first | rfl | simp [allP, all0, pureV, pure0, *]) (by simp [chk, hG]) ?_
    simp only [go_sem, hG, hOw]
    (repeat' with_reducible first | refine And.intro ?_ ?_ | intro _ | refine exP ?_ ?_); all_goals try omega
    refine call_pure hP (by first | exact Subs.refl _ | (repeat' (first | exact Subs.nil | exact Sub.refl _ | exact Sub.lo (Nat.zero_le _) | refine Subs.cons ?_ ?_ | refine Subs.agg ?_ | refine Subs.fp ?_ | refine Subs.tup ?_ | refine Sub.map (Nat.zero_le _) (fun _ => ?_)))) (by first | rfl | simp [allP, all0, pureV, pure0, *]) (by simp [chk, hG]) ?_
    simp (maxSteps := 2000000) only [go_sem, hG, hOw, decide_eq_false k1,decide_eq_false k2,decide_eq_false k3,decide_eq_false k4]
    try (repeat' with_reducible first | refine And.intro ?_ ?_ | intro _ | refine exP ?_ ?_); all_goals try omega
theorem RLex_ok (t : List Ch) (ht : OKtB t) (x : Lx) (hb : bdX x) : Gives Tryz.prog 85 [txE 0 t, lxE 0 x] (fun _ => bl (lexB t x)) := by
  obtain ⟨h1, h2, h3, h4⟩ := hb
  by_cases q1 : x.rules.length ≤ 12
  · have q1' : ¬ (12 : Int) < x.rules.length := by omega
    by_cases q2 : x.decs.length ≤ 20
    · have q2' : ¬ (20 : Int) < x.decs.length := by omega
      have eL : lexB t x = (x.rules.all ruleB && allPre (numsB t) [] x.decs) := by unfold lexB; rw [decide_eq_true q1, decide_eq_true q2]; rfl
      rw [eL]
      refine pure_intro (ow := fun _ => false) Tryz.func85 Tryz.ntmps85 rfl (by kernel_rfl) (by simp) rfl (by decide) fun G hG hOw hNm hB => ?_; simp only [go_sem, hG, hOw]
      simp (maxSteps := 2000000) only [go_sem, hG, hOw, decide_false,cond_false,cond_true,q1',q2',decide_eq_false q1',decide_eq_false q2']
      try (repeat' with_reducible first | refine And.intro ?_ ?_ | intro _ | refine exP ?_ ?_); all_goals try omega
      refine semC_loop (fun k : Nat => St.of [(2, .ptr 2 0), (3, .ptr 3 0), (5, i64 k)] [(2, .box [chs 0 t]), (3, .box (lxC 0 x))]) (fun k => k ≤ x.rules.length ∧ (x.rules.take k).all ruleB = true) (fun k => x.rules.length - k) 0 (by simp) (entA [(2, some 2), (3, some 3)]) ?_
      rintro k ⟨hk, hall⟩
      by_cases hkl : k < x.rules.length
      · have hlt : (k : Int) < x.rules.length := by omega
        obtain ⟨r, hr⟩ : ∃ r, r = x.rules[k] := ⟨_, rfl⟩
        have hR := RRule_ok r (h1 r (by rw [hr]; exact List.getElem_mem hkl))
        refine vc_sound _ _ _ ?_
        simp (maxSteps := 2000000) only [go_sem, hG, hOw, hlt,← hr]
        (repeat' with_reducible first | refine And.intro ?_ ?_ | intro _ | refine exP ?_ ?_); all_goals try omega
        refine call_pure hR (by first | exact Subs.refl _ | (repeat' (first | exact Subs.nil | exact Sub.refl _ | exact Sub.lo (Nat.zero_le _) | refine Subs.cons ?_ ?_ | refine Subs.agg ?_ | refine Subs.fp ?_ | refine Subs.tup ?_ | refine Sub.map (Nat.zero_le _) (fun _ => ?_)))) (by first | rfl | simp [allP, all0, pureV, pure0, *]) (by simp [chk, hG]) ?_
        cases hb : ruleB r with
        | false =>
          have e : (x.rules.all ruleB && allPre (numsB t) [] x.decs) = false := by rw [all_false hkl (by rw [← hr]; exact hb), Bool.false_and]
          rw [e]
          simp only [go_sem, hG, hOw]
          try (repeat' with_reducible first | refine And.intro ?_ ?_ | intro _ | refine exP ?_ ?_); all_goals try omega
        | true =>
          simp only [go_sem, hG, hOw]
          (repeat' with_reducible first | refine And.intro ?_ ?_ | intro _ | refine exP ?_ ?_); all_goals try omega
          exact ⟨k + 1, ⟨by omega, all_take_succ hkl hall (by rw [← hr]; exact hb)⟩, by omega, entA [(2, some 2), (3, some 3)]⟩
      · have hlt : ¬ (k : Int) < x.rules.length := by omega
        rw [take_full hk hlt] at hall
        rw [hall, Bool.true_and]
        have hke : k = x.rules.length := by omega
        subst hke
        refine vc_sound _ _ _ ?_
        simp (maxSteps := 2000000) only [go_sem, hG, hOw, hlt]
        try (repeat' with_reducible first | refine And.intro ?_ ?_ | intro _ | refine exP ?_ ?_); all_goals try omega
        refine semC_loop (fun k : Nat => St.of [(2, .ptr 2 0), (3, .ptr 3 0), (6, i64 k)] [(2, .box [chs 0 t]), (3, .box (lxC 0 x))]) (fun k => k ≤ x.decs.length ∧ allPre (numsB t) [] (x.decs.take k) = true) (fun k => x.decs.length - k) 0 (by simp [allPre]) (entA [(2, some 2), (3, some 3)]) ?_
        rintro k ⟨hk, hall⟩
        by_cases hkl : k < x.decs.length
        · have hlt : (k : Int) < x.decs.length := by omega
          obtain ⟨d, hd⟩ : ∃ d, d = x.decs[k] := ⟨_, rfl⟩
          have hD := RDec_ok t ht d (h2 d (by rw [hd]; exact List.getElem_mem hkl))
          refine vc_sound _ _ _ ?_
          simp (maxSteps := 2000000) only [go_sem, hG, hOw, hlt]
          (repeat' with_reducible first | refine And.intro ?_ ?_ | intro _ | refine exP ?_ ?_); all_goals try omega
          refine semC_draw0 mixed (by kernel_rfl) ?_
          simp (maxSteps := 2000000) only [go_sem, hG, hOw, ← hd]
          (repeat' with_reducible first | refine And.intro ?_ ?_ | intro _ | refine exP ?_ ?_); all_goals try omega
          refine ⟨_, callGives hD (by first | exact Subs.refl _ | (repeat' (first | exact Subs.nil | exact Sub.refl _ | exact Sub.lo (Nat.zero_le _) | refine Subs.cons ?_ ?_ | refine Subs.agg ?_ | refine Subs.fp ?_ | refine Subs.tup ?_ | refine Sub.map (Nat.zero_le _) (fun _ => ?_)))) (by first | rfl | simp [allP, all0, pureV, pure0, *]), ?_⟩
          cases hb : decB t d with
          | false =>
            have e : allPre (numsB t) [] x.decs = false := allPre_bad hkl (by unfold numsB; rw [← hd, hb, Bool.and_false])
            rw [e]
            simp only [go_sem, hG, hOw]
            try (repeat' with_reducible first | refine And.intro ?_ ?_ | intro _ | refine exP ?_ ?_); all_goals try omega
          | true =>
            simp only [go_sem, hG, hOw]
            (repeat' with_reducible first | refine And.intro ?_ ?_ | intro _ | refine exP ?_ ?_); all_goals try omega
            refine semC_loop (fun j : Nat => St.of [(2, .ptr 2 0), (3, .ptr 3 0), (6, i64 k), (7, i64 j)] [(2, .box [chs 0 t]), (3, .box (lxC 0 x))]) (fun j => j ≤ k ∧ ∀ (i : Nat) (hi : i < x.decs.length), i < j → x.decs[i].num ≠ d.num) (fun j => k - j) 0 ⟨by omega, fun i hi h => by omega⟩ (entA [(2, some 2), (3, some 3)]) ?_
            rintro j ⟨hj, hnot⟩
            by_cases hjk : j < k
            · have hjt : (j : Int) < k := by omega
              have hjl : j < x.decs.length := by omega
              have hjl' : (j : Int) < x.decs.length := by omega
              refine vc_sound _ _ _ ?_
              simp (maxSteps := 2000000) only [go_sem, hG, hOw, hjt]
              (repeat' with_reducible first | refine And.intro ?_ ?_ | intro _ | refine exP ?_ ?_); all_goals try omega
              refine semC_draw0 mixed (by kernel_rfl) ?_
              by_cases hn : x.decs[j].num = d.num
              · have e : allPre (numsB t) [] x.decs = false := allPre_bad hkl (by
                  unfold numsB
                  rw [← hd]
                  have : ((x.decs.take k).any fun e => decide (e.num = d.num)) = true := List.any_eq_true.2 ⟨x.decs[j], by rw [List.mem_take_iff_getElem]; exact ⟨j, by omega, rfl⟩, by simpa using hn⟩
                  rw [this]; rfl)
                rw [e]
                simp (maxSteps := 2000000) only [go_sem, hG, hOw, hlt,hjl',← hd,hn,decide_eq_true hn]
                try (repeat' with_reducible first | refine And.intro ?_ ?_ | intro _ | refine exP ?_ ?_); all_goals try omega
              · simp (maxSteps := 2000000) only [go_sem, hG, hOw, hlt,hjl',← hd,decide_eq_false hn]
                try (repeat' with_reducible first | refine And.intro ?_ ?_ | intro _ | refine exP ?_ ?_); all_goals try omega
                exact ⟨j + 1, ⟨by omega, fun i hi hij => by
                  by_cases hij' : i < j
                  · exact hnot i hi hij'
                  · obtain rfl : i = j := by omega
                    exact hn⟩, by omega, entA [(2, some 2), (3, some 3)]⟩
            · have hjt : ¬ (j : Int) < k := by omega
              refine vc_sound _ _ _ ?_
              simp (maxSteps := 2000000) only [go_sem, hG, hOw, hjt]
              try (repeat' with_reducible first | refine And.intro ?_ ?_ | intro _ | refine exP ?_ ?_); all_goals try omega
              exact ⟨k + 1, ⟨by omega, by
                rw [allPre_step _ _ _ hkl, hall, Bool.true_and]
                unfold numsB
                rw [← hd, hb, Bool.and_true, Bool.not_eq_true', List.any_eq_false]
                intro e he
                obtain ⟨i, hi, rfl⟩ := List.mem_iff_getElem.1 he
                rw [List.getElem_take]
                have := hnot i (by simp at hi; omega) (by simp at hi; omega)
                simpa using this⟩, by omega, entA [(2, some 2), (3, some 3)]⟩
        · have hlt : ¬ (k : Int) < x.decs.length := by omega
          rw [take_full hk hlt] at hall
          rw [hall]
          refine vc_sound _ _ _ ?_
          simp (maxSteps := 2000000) only [go_sem, hG, hOw, hlt]
          try (repeat' with_reducible first | refine And.intro ?_ ?_ | intro _ | refine exP ?_ ?_); all_goals try omega
    · have q2' : (20 : Int) < x.decs.length := by omega
      have eL : lexB t x = false := by unfold lexB; rw [decide_eq_false q2]; simp
      rw [eL]
      refine pure_intro (ow := fun _ => false) Tryz.func85 Tryz.ntmps85 rfl (by kernel_rfl) (by simp) rfl (by decide) fun G hG hOw hNm hB => ?_; simp only [go_sem, hG, hOw]
      simp (maxSteps := 2000000) only [go_sem, hG, hOw, decide_false,cond_false,cond_true,q1',q2',decide_eq_false q1',decide_eq_true q2']
      try (repeat' with_reducible first | refine And.intro ?_ ?_ | intro _ | refine exP ?_ ?_); all_goals try omega
  · have q1' : (12 : Int) < x.rules.length := by omega
    have eL : lexB t x = false := by unfold lexB; rw [decide_eq_false q1]; simp
    rw [eL]
    refine pure_intro (ow := fun _ => false) Tryz.func85 Tryz.ntmps85 rfl (by kernel_rfl) (by simp) rfl (by decide) fun G hG hOw hNm hB => ?_; simp only [go_sem, hG, hOw]
    simp (maxSteps := 2000000) only [go_sem, hG, hOw, q1',decide_eq_true q1']
    try (repeat' with_reducible first | refine And.intro ?_ ?_ | intro _ | refine exP ?_ ?_); all_goals try omega
open Go Pm
set_option maxHeartbeats 4000000
set_option maxRecDepth 100000
def gtRl (r : Rl) : Bool := decide ((100 : Int) < r.cut.size) || decide ((100 : Int) < r.put.size)
def gtDc (d : Dc) : Bool := decide ((100 : Int) < d.form.size) || decide ((100 : Int) < d.stem.size)
def gtX (x : Lx) : Bool := decide ((20 : Int) < x.rules.length) || decide ((25 : Int) < x.decs.length) || x.rules.any gtRl || x.decs.any gtDc
theorem gtX_bd {x : Lx} (h : gtX x = false) : bdX x ∧ x.rules.length ≤ 20 ∧ x.decs.length ≤ 25 := by
  unfold gtX at h
  simp only [Bool.or_eq_false_iff, decide_eq_false_iff_not, List.any_eq_false] at h
  obtain ⟨⟨⟨h1, h2⟩, h3⟩, h4⟩ := h
  refine ⟨⟨fun r hr => ?_, fun d hd => ?_, by omega, by omega⟩, by omega, by omega⟩
  · have := h3 r hr
    simp [gtRl] at this
    exact ⟨by omega, by omega⟩
  · have := h4 d hd
    simp [gtDc] at this
    exact ⟨by omega, by omega⟩
theorem RGreatX_ok (x : Lx) : Gives Tryz.prog 6 [lxE 0 x] (fun _ => bl (gtX x)) := by
  by_cases q1 : (20 : Int) < x.rules.length
  · have e : gtX x = true := by unfold gtX; rw [decide_eq_true q1]; rfl
    rw [e]
    refine pure_intro (ow := fun _ => false) Tryz.func6 Tryz.ntmps6 rfl (by kernel_rfl) (by simp) rfl (by decide) fun G hG hOw hNm hB => ?_; simp only [go_sem, hG, hOw]
    simp (maxSteps := 2000000) only [go_sem, hG, hOw, q1,decide_eq_true q1]
    try (repeat' with_reducible first | refine And.intro ?_ ?_ | intro _ | refine exP ?_ ?_); all_goals try omega
  by_cases q2 : (25 : Int) < x.decs.length
  · have e : gtX x = true := by unfold gtX; rw [decide_eq_false q1, decide_eq_true q2]; rfl
    rw [e]
    refine pure_intro (ow := fun _ => false) Tryz.func6 Tryz.ntmps6 rfl (by kernel_rfl) (by simp) rfl (by decide) fun G hG hOw hNm hB => ?_; simp only [go_sem, hG, hOw]
    simp (maxSteps := 2000000) only [go_sem, hG, hOw, decide_false,cond_false,cond_true,q1,q2,decide_eq_false q1,decide_eq_true q2]
    try (repeat' with_reducible first | refine And.intro ?_ ?_ | intro _ | refine exP ?_ ?_); all_goals try omega
  have eX : gtX x = (x.rules.any gtRl || x.decs.any gtDc) := by unfold gtX; rw [decide_eq_false q1, decide_eq_false q2]; rfl
  rw [eX]
  refine pure_intro (ow := fun _ => false) Tryz.func6 Tryz.ntmps6 rfl (by kernel_rfl) (by simp) rfl (by decide) fun G hG hOw hNm hB => ?_; simp only [go_sem, hG, hOw]
  simp (maxSteps := 2000000) only [go_sem, hG, hOw, decide_false,cond_false,cond_true,q1,q2,decide_eq_false q1,decide_eq_false q2]
  try (repeat' with_reducible first | refine And.intro ?_ ?_ | intro _ | refine exP ?_ ?_); all_goals try omega
  refine semC_loop (fun k : Nat => St.of [(1, .ptr 1 0), (3, i64 k)] [(1, .box (lxC 0 x))]) (fun k => k ≤ x.rules.length ∧ (x.rules.take k).all (fun r => !gtRl r) = true) (fun k => x.rules.length - k) 0 (by simp) (entA [(1, some 1)]) ?_
  rintro k ⟨hk, hall⟩
  by_cases hkl : k < x.rules.length
  · have hlt : (k : Int) < x.rules.length := by omega
    obtain ⟨r, hr⟩ : ∃ r, r = x.rules[k] := ⟨_, rfl⟩
    have yes : gtRl r = true → (x.rules.any gtRl || x.decs.any gtDc) = true := fun h => by rw [any_true hkl (by rw [← hr]; exact h)]; rfl
    have ne : gtRl r = false → ∀ P : Prop, P → P := fun _ _ h => h
    refine vc_sound _ _ _ ?_
    by_cases z1 : (100 : Int) < r.cut.size
    · rw [yes (by unfold gtRl; rw [decide_eq_true z1]; rfl)]
      simp (maxSteps := 2000000) only [go_sem, hG, hOw, hlt,← hr,z1,decide_eq_true z1]
      try (repeat' with_reducible first | refine And.intro ?_ ?_ | intro _ | refine exP ?_ ?_); all_goals try omega
    by_cases z2 : (100 : Int) < r.put.size
    · rw [yes (by unfold gtRl; rw [decide_eq_false z1, decide_eq_true z2]; rfl)]
      simp (maxSteps := 2000000) only [go_sem, hG, hOw, hlt,← hr,z1,z2,decide_false,cond_false,cond_true,decide_eq_false z1,decide_eq_true z2]
      try (repeat' with_reducible first | refine And.intro ?_ ?_ | intro _ | refine exP ?_ ?_); all_goals try omega
    have hg : gtRl r = false := by unfold gtRl; rw [decide_eq_false z1, decide_eq_false z2]; rfl
    simp (maxSteps := 2000000) only [go_sem, hG, hOw, hlt,← hr,z1,z2,decide_false,cond_false,cond_true,decide_eq_false z1,decide_eq_false z2]
    (repeat' with_reducible first | refine And.intro ?_ ?_ | intro _ | refine exP ?_ ?_); all_goals try omega
    exact ⟨k + 1, ⟨by omega, all_take_succ hkl hall (by rw [← hr, hg]; rfl)⟩, by omega, entA [(1, some 1)]⟩
  · have hlt : ¬ (k : Int) < x.rules.length := by omega
    rw [take_full hk hlt] at hall
    have hno : x.rules.any gtRl = false := by
      rw [List.any_eq_false]
      intro r hr
      have := List.all_eq_true.1 hall r hr
      simpa using this
    rw [hno, Bool.false_or]
    have hke : k = x.rules.length := by omega
    subst hke
    refine vc_sound _ _ _ ?_
    simp (maxSteps := 2000000) only [go_sem, hG, hOw, hlt]
    try (repeat' with_reducible first | refine And.intro ?_ ?_ | intro _ | refine exP ?_ ?_); all_goals try omega
    refine semC_loop (fun k : Nat => St.of [(1, .ptr 1 0), (4, i64 k)] [(1, .box (lxC 0 x))]) (fun k => k ≤ x.decs.length ∧ (x.decs.take k).all (fun r => !gtDc r) = true) (fun k => x.decs.length - k) 0 (by simp) (entA [(1, some 1)]) ?_
    rintro k ⟨hk, hall⟩
    by_cases hkl : k < x.decs.length
    · have hlt : (k : Int) < x.decs.length := by omega
      obtain ⟨d, hd⟩ : ∃ d, d = x.decs[k] := ⟨_, rfl⟩
      have yes : gtDc d = true → x.decs.any gtDc = true := fun h => any_true hkl (by rw [← hd]; exact h)
      refine vc_sound _ _ _ ?_
      by_cases z1 : (100 : Int) < d.form.size
      · rw [yes (by unfold gtDc; rw [decide_eq_true z1]; rfl)]
        simp (maxSteps := 2000000) only [go_sem, hG, hOw, hlt,← hd,z1,decide_eq_true z1]
        try (repeat' with_reducible first | refine And.intro ?_ ?_ | intro _ | refine exP ?_ ?_); all_goals try omega
      by_cases z2 : (100 : Int) < d.stem.size
      · rw [yes (by unfold gtDc; rw [decide_eq_false z1, decide_eq_true z2]; rfl)]
        simp (maxSteps := 2000000) only [go_sem, hG, hOw, hlt,← hd,z1,z2,decide_false,cond_false,cond_true,decide_eq_false z1,decide_eq_true z2]
        try (repeat' with_reducible first | refine And.intro ?_ ?_ | intro _ | refine exP ?_ ?_); all_goals try omega
      have hg : gtDc d = false := by unfold gtDc; rw [decide_eq_false z1, decide_eq_false z2]; rfl
      simp (maxSteps := 2000000) only [go_sem, hG, hOw, hlt,← hd,z1,z2,decide_false,cond_false,cond_true,decide_eq_false z1,decide_eq_false z2]
      (repeat' with_reducible first | refine And.intro ?_ ?_ | intro _ | refine exP ?_ ?_); all_goals try omega
      exact ⟨k + 1, ⟨by omega, all_take_succ hkl hall (by rw [← hd, hg]; rfl)⟩, by omega, entA [(1, some 1)]⟩
    · have hlt : ¬ (k : Int) < x.decs.length := by omega
      rw [take_full hk hlt] at hall
      have hno : x.decs.any gtDc = false := by
        rw [List.any_eq_false]
        intro r hr
        have := List.all_eq_true.1 hall r hr
        simpa using this
      rw [hno]
      refine vc_sound _ _ _ ?_
      simp (maxSteps := 2000000) only [go_sem, hG, hOw, hlt]
      try (repeat' with_reducible first | refine And.intro ?_ ?_ | intro _ | refine exP ?_ ?_); all_goals try omega
theorem RTwinX_ok (x : Lx) (hb : bdX x) : Gives Tryz.prog 8 [lxE 0 x] (fun n => lxE n x) := by
  obtain ⟨h1, h2, h3, h4⟩ := hb
  refine pure_intro (ow := fun _ => false) Tryz.func8 Tryz.ntmps8 rfl (by kernel_rfl) (by simp) rfl (by decide) fun G hG hOw hNm hB => ?_; simp only [go_sem, hG, hOw]
  exact ⟨⟨by omega, by omega⟩, by omega, by omega⟩
theorem RSameX_ok (x : Lx) (hb : bdX x) : Gives Tryz.prog 19 [lxE 0 x, lxE 0 x] (fun _ => bl true) := by
  obtain ⟨h1, h2, h3, h4⟩ := hb
  refine pure_intro (ow := fun _ => false) Tryz.func19 Tryz.ntmps19 rfl (by kernel_rfl) (by simp) rfl (by decide) fun G hG hOw hNm hB => ?_; simp only [go_sem, hG, hOw]
  try (repeat' with_reducible first | refine And.intro ?_ ?_ | intro _ | refine exP ?_ ?_); all_goals try omega
  refine semC_loop (fun k : Nat => St.of [(2, .ptr 2 0), (3, .ptr 3 0), (5, i64 k)] [(2, .box (lxC 0 x)), (3, .box (lxC 0 x))]) (fun k => k ≤ x.rules.length) (fun k => x.rules.length - k) 0 (by simp) (entA [(2, some 2), (3, some 3)]) ?_
  rintro k hk
  by_cases hkl : k < x.rules.length
  · have hlt : (k : Int) < x.rules.length := by omega
    refine vc_sound _ _ _ ?_
    simp (maxSteps := 2000000) only [go_sem, hG, hOw, hlt]
    try (repeat' with_reducible first | refine And.intro ?_ ?_ | intro _ | refine exP ?_ ?_); all_goals try omega
    refine semC_draw0 mixed (by kernel_rfl) ?_
    simp (maxSteps := 2000000) only [go_sem, hG, hOw, hlt]
    try (repeat' with_reducible first | refine And.intro ?_ ?_ | intro _ | refine exP ?_ ?_); all_goals try omega
    exact ⟨k + 1, by omega, by omega, entA [(2, some 2), (3, some 3)]⟩
  · have hlt : ¬ (k : Int) < x.rules.length := by omega
    refine vc_sound _ _ _ ?_
    simp (maxSteps := 2000000) only [go_sem, hG, hOw, hlt]
    try (repeat' with_reducible first | refine And.intro ?_ ?_ | intro _ | refine exP ?_ ?_); all_goals try omega
    refine semC_loop (fun k : Nat => St.of [(2, .ptr 2 0), (3, .ptr 3 0), (6, i64 k)] [(2, .box (lxC 0 x)), (3, .box (lxC 0 x))]) (fun k => k ≤ x.decs.length) (fun k => x.decs.length - k) 0 (by simp) (entA [(2, some 2), (3, some 3)]) ?_
    rintro k hk
    by_cases hkl : k < x.decs.length
    · have hlt : (k : Int) < x.decs.length := by omega
      refine vc_sound _ _ _ ?_
      simp (maxSteps := 2000000) only [go_sem, hG, hOw, hlt]
      try (repeat' with_reducible first | refine And.intro ?_ ?_ | intro _ | refine exP ?_ ?_); all_goals try omega
      refine semC_draw0 mixed (by kernel_rfl) ?_
      simp (maxSteps := 2000000) only [go_sem, hG, hOw, hlt]
      try (repeat' with_reducible first | refine And.intro ?_ ?_ | intro _ | refine exP ?_ ?_); all_goals try omega
      exact ⟨k + 1, by omega, by omega, entA [(2, some 2), (3, some 3)]⟩
    · have hlt : ¬ (k : Int) < x.decs.length := by omega
      refine vc_sound _ _ _ ?_
      simp (maxSteps := 2000000) only [go_sem, hG, hOw, hlt]
      try (repeat' with_reducible first | refine And.intro ?_ ?_ | intro _ | refine exP ?_ ?_); all_goals try omega
theorem RLexCheck_ok (t : List Ch) (ht : OKt t) (x : Lx) (hb : bdX x) : Gives Tryz.prog 47 [txE 0 t, lxE 0 x] (fun _ => i64 (lexEr t x)) := by
  have hT := CheckTB_ok t ht.big
  have hL := RLex_ok t ht.big x hb
  cases h1 : textB t with
  | false =>
    have e : lexEr t x = 10 := by unfold lexEr; rw [h1]; rfl
    rw [h1] at hT
    rw [e]
    refine pure_intro (ow := fun _ => false) Tryz.func47 Tryz.ntmps47 rfl (by kernel_rfl) (by simp) rfl (by decide) fun G hG hOw hNm hB => ?_; simp only [go_sem, hG, hOw]
    refine call_pure hT (by first | exact Subs.refl _ | (repeat' (first | exact Subs.nil | exact Sub.refl _ | exact Sub.lo (Nat.zero_le _) | refine Subs.cons ?_ ?_ | refine Subs.agg ?_ | refine Subs.fp ?_ | refine Subs.tup ?_ | refine Sub.map (Nat.zero_le _) (fun _ => ?_)))) (by first | rfl | simp [allP, all0, pureV, pure0, *]) (by simp [chk, hG]) ?_
    simp only [go_sem, hG, hOw]
    try (repeat' with_reducible first | refine And.intro ?_ ?_ | intro _ | refine exP ?_ ?_); all_goals try omega
  | true =>
    rw [h1] at hT
    cases h2 : lexB t x with
    | false =>
      have e : lexEr t x = 40 := by unfold lexEr; rw [h1, h2]; rfl
      rw [h2] at hL
      rw [e]
      refine pure_intro (ow := fun _ => false) Tryz.func47 Tryz.ntmps47 rfl (by kernel_rfl) (by simp) rfl (by decide) fun G hG hOw hNm hB => ?_; simp only [go_sem, hG, hOw]
      refine call_pure hT (by first | exact Subs.refl _ | (repeat' (first | exact Subs.nil | exact Sub.refl _ | exact Sub.lo (Nat.zero_le _) | refine Subs.cons ?_ ?_ | refine Subs.agg ?_ | refine Subs.fp ?_ | refine Subs.tup ?_ | refine Sub.map (Nat.zero_le _) (fun _ => ?_)))) (by first | rfl | simp [allP, all0, pureV, pure0, *]) (by simp [chk, hG]) ?_
      simp only [go_sem, hG, hOw]
      try (repeat' with_reducible first | refine And.intro ?_ ?_ | intro _ | refine exP ?_ ?_); all_goals try omega
      refine call_pure hL (by first | exact Subs.refl _ | (repeat' (first | exact Subs.nil | exact Sub.refl _ | exact Sub.lo (Nat.zero_le _) | refine Subs.cons ?_ ?_ | refine Subs.agg ?_ | refine Subs.fp ?_ | refine Subs.tup ?_ | refine Sub.map (Nat.zero_le _) (fun _ => ?_)))) (by first | rfl | simp [allP, all0, pureV, pure0, *]) (by simp [chk, hG]) ?_
      simp only [go_sem, hG, hOw]
      try (repeat' with_reducible first | refine And.intro ?_ ?_ | intro _ | refine exP ?_ ?_); all_goals try omega
    | true =>
      have e : lexEr t x = 0 := by unfold lexEr; rw [h1, h2]; rfl
      rw [h2] at hL
      rw [e]
      refine pure_intro (ow := fun _ => false) Tryz.func47 Tryz.ntmps47 rfl (by kernel_rfl) (by simp) rfl (by decide) fun G hG hOw hNm hB => ?_; simp only [go_sem, hG, hOw]
      refine call_pure hT (by first | exact Subs.refl _ | (repeat' (first | exact Subs.nil | exact Sub.refl _ | exact Sub.lo (Nat.zero_le _) | refine Subs.cons ?_ ?_ | refine Subs.agg ?_ | refine Subs.fp ?_ | refine Subs.tup ?_ | refine Sub.map (Nat.zero_le _) (fun _ => ?_)))) (by first | rfl | simp [allP, all0, pureV, pure0, *]) (by simp [chk, hG]) ?_
      simp only [go_sem, hG, hOw]
      try (repeat' with_reducible first | refine And.intro ?_ ?_ | intro _ | refine exP ?_ ?_); all_goals try omega
      refine call_pure hL (by first | exact Subs.refl _ | (repeat' (first | exact Subs.nil | exact Sub.refl _ | exact Sub.lo (Nat.zero_le _) | refine Subs.cons ?_ ?_ | refine Subs.agg ?_ | refine Subs.fp ?_ | refine Subs.tup ?_ | refine Sub.map (Nat.zero_le _) (fun _ => ?_)))) (by first | rfl | simp [allP, all0, pureV, pure0, *]) (by simp [chk, hG]) ?_
      simp only [go_sem, hG, hOw]
      try (repeat' with_reducible first | refine And.intro ?_ ?_ | intro _ | refine exP ?_ ?_); all_goals try omega
end Go.Proofs.YtppcbmpiphhphaaGreatDoor
