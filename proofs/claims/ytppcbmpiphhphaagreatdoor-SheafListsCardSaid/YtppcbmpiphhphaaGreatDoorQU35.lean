import Derived.Test.YtppcbmpiphhphaaGreatDoorQU28
import Derived.Test.YtppcbmpiphhphaaGreatDoorQU31
namespace Go.Proofs.YtppcbmpiphhphaaGreatDoor
open Go Pm
set_option linter.unusedSimpArgs false
set_option linter.unusedVariables false
set_option maxHeartbeats 4000000
set_option maxRecDepth 100000
def placeT (t : List Ch) (a b w : Int) : Bool := match lineO t a b with
  | some l => inB w 0 ((l.length : Int) - 1)
  | none => false
def plV (a b w : Int) : V := .agg [i64 a, i64 b, i64 w]
attribute [go_sem] plV
def wordAt (t : List Ch) (a b w : Int) : ByteArray := match lineO t a b with
  | some l => l.getD w.toNat ⟨#[]⟩
  | none => ⟨#[]⟩
theorem lineO_len {t : List Ch} (ht : OKtB t) {a b : Int} {l : List ByteArray} (h : lineO t a b = some l) : l.length ≤ 1000 := by
  unfold lineO at h
  split at h
  · simp only [Option.bind_eq_some_iff] at h
    obtain ⟨c, h1, h2⟩ := h
    exact ((ht.2 c (List.mem_of_getElem? h1)).2 l (List.mem_of_getElem? h2)).1
  · cases h
theorem has_ok (t : List Ch) (ht : OKtB t) (a b w : Int) : Gives Tryz.prog 160 [.fp [chs 0 t], plV a b w] (fun _ => bl (placeT t a b w)) := by
  unfold placeT
  cases h : lineO t a b with
  | some l =>
    have hl := lineO_len ht h
    refine pure_intro (ow := fun _ => false) Tryz.func160 Tryz.ntmps160 rfl (by kernel_rfl) (by simp) rfl (by decide) fun G hG hOw hNm hB => ?_; simp only [go_sem, hG, hOw]
    refine semC_draw0 mixed (by kernel_rfl) ?_
    simp only [go_sem, hG, hOw]
    refine ⟨_, callGivesA (line_yes t ht a b w l h), ?_⟩
    simp only [go_sem, hG, hOw]
    refine ⟨by omega, ?_⟩
    refine ⟨_, callGivesA (inL_one 0 ((l.length : Int) - 1) w), ?_⟩
    simp only [go_sem, hG, hOw]
  | none =>
    have hz : inB w 0 (((0 : Nat) : Int) - 1) = false := by simp [inB]; omega
    have hI := inL_one 0 (((0 : Nat) : Int) - 1) w
    rw [hz] at hI
    refine pure_intro (ow := fun _ => false) Tryz.func160 Tryz.ntmps160 rfl (by kernel_rfl) (by simp) rfl (by decide) fun G hG hOw hNm hB => ?_; simp only [go_sem, hG, hOw]
    refine semC_draw0 mixed (by kernel_rfl) ?_
    simp only [go_sem, hG, hOw]
    refine ⟨_, callGivesA (line_no t ht a b w h), ?_⟩
    simp only [go_sem, hG, hOw]
    try refine ⟨by omega, ?_⟩
    refine ⟨_, callGives hI (by first | exact Subs.refl _ | (repeat' (first | exact Subs.nil | exact Sub.refl _ | exact Sub.lo (Nat.zero_le _) | refine Subs.cons ?_ ?_ | refine Subs.agg ?_ | refine Subs.fp ?_ | refine Subs.tup ?_ | refine Sub.map (Nat.zero_le _) (fun _ => ?_)))) (by first | rfl | simp [allP, all0, pureV, pure0, *]), ?_⟩
    simp only [go_sem, hG, hOw]
theorem placed_yes (t : List Ch) (ht : textB t = true) (a b w : Int) (h : placeT t a b w = true) : Gives Tryz.prog 137 [txE 0 t, plV a b w] (fun _ => .tup [.fp [chs 0 t], i64 0]) := by
  have hH := has_ok t (okB_of ht) a b w
  rw [h] at hH
  refine pure_intro (ow := fun _ => false) Tryz.func137 Tryz.ntmps137 rfl (by kernel_rfl) (by simp) rfl (by decide) fun G hG hOw hNm hB => ?_; simp only [go_sem, hG, hOw]
  refine call_pureA (open_yes t ht) ?_
  simp only [go_sem, hG, hOw]
  (repeat' with_reducible first | refine And.intro ?_ ?_ | intro _ | refine exP ?_ ?_); all_goals try omega
  refine call_pure hH (by first | exact Subs.refl _ | (repeat' (first | exact Subs.nil | exact Sub.refl _ | exact Sub.lo (Nat.zero_le _) | refine Subs.cons ?_ ?_ | refine Subs.agg ?_ | refine Subs.fp ?_ | refine Subs.tup ?_ | refine Sub.map (Nat.zero_le _) (fun _ => ?_)))) (by first | rfl | simp [allP, all0, pureV, pure0, *]) (by simp [chk, hG]) ?_
  simp only [go_sem, hG, hOw]
  try (repeat' with_reducible first | refine And.intro ?_ ?_ | intro _ | refine exP ?_ ?_); all_goals try omega
theorem placed_no (t : List Ch) (ht : textB t = true) (a b w : Int) (h : placeT t a b w = false) : Gives Tryz.prog 137 [txE 0 t, plV a b w] (fun _ => .tup [.v (.pointer none), i64 12]) := by
  have hH := has_ok t (okB_of ht) a b w
  rw [h] at hH
  refine pure_intro (ow := fun _ => false) Tryz.func137 Tryz.ntmps137 rfl (by kernel_rfl) (by simp) rfl (by decide) fun G hG hOw hNm hB => ?_; simp only [go_sem, hG, hOw]
  refine call_pureA (open_yes t ht) ?_
  simp only [go_sem, hG, hOw]
  (repeat' with_reducible first | refine And.intro ?_ ?_ | intro _ | refine exP ?_ ?_); all_goals try omega
  refine call_pure hH (by first | exact Subs.refl _ | (repeat' (first | exact Subs.nil | exact Sub.refl _ | exact Sub.lo (Nat.zero_le _) | refine Subs.cons ?_ ?_ | refine Subs.agg ?_ | refine Subs.fp ?_ | refine Subs.tup ?_ | refine Sub.map (Nat.zero_le _) (fun _ => ?_)))) (by first | rfl | simp [allP, all0, pureV, pure0, *]) (by simp [chk, hG]) ?_
  simp only [go_sem, hG, hOw]
  try (repeat' with_reducible first | refine And.intro ?_ ?_ | intro _ | refine exP ?_ ?_); all_goals try omega
theorem At_any (t : List Ch) (ht : textB t = true) (a b w : Int) : Gives Tryz.prog 114 [txE 0 t, plV a b w] (fun _ => .tup [str (if placeT t a b w then wordAt t a b w else ⟨#[]⟩), i64 (if placeT t a b w then 0 else 12)]) := by
  cases h : placeT t a b w with
  | false =>
    refine pure_intro (ow := fun _ => false) Tryz.func114 Tryz.ntmps114 rfl (by kernel_rfl) (by simp) rfl (by decide) fun G hG hOw hNm hB => ?_; simp only [go_sem, hG, hOw]
    refine call_pureA (placed_no t ht a b w h) ?_
    simp only [go_sem, hG, hOw]
    try (repeat' with_reducible first | refine And.intro ?_ ?_ | intro _ | refine exP ?_ ?_); all_goals try omega
  | true =>
    obtain ⟨l, hl⟩ : ∃ l, lineO t a b = some l := by
      unfold placeT at h
      cases hl : lineO t a b with
      | none => rw [hl] at h; cases h
      | some l => exact ⟨l, rfl⟩
    have hw : 0 ≤ w ∧ w ≤ (l.length : Int) - 1 := by
      unfold placeT at h
      rw [hl] at h
      simpa [inB] using h
    have hW : wordAt t a b w = l.getD w.toNat ⟨#[]⟩ := by unfold wordAt; rw [hl]
    rw [hW]
    have hwl : w.toNat < l.length := by omega
    have hg : l.getD w.toNat ⟨#[]⟩ = l[w.toNat] := by simp [List.getD_eq_getElem?_getD, hwl]
    rw [hg]
    refine pure_intro (ow := fun _ => false) Tryz.func114 Tryz.ntmps114 rfl (by kernel_rfl) (by simp) rfl (by decide) fun G hG hOw hNm hB => ?_; simp only [go_sem, hG, hOw]
    refine call_pureA (placed_yes t ht a b w h) ?_
    simp only [go_sem, hG, hOw]
    (repeat' with_reducible first | refine And.intro ?_ ?_ | intro _ | refine exP ?_ ?_); all_goals try omega
    refine semC_draw0 mixed (by kernel_rfl) ?_
    simp only [go_sem, hG, hOw]
    refine ⟨_, callGivesA (line_yes t (okB_of ht) a b w l hl), ?_⟩
    simp only [go_sem, hG, hOw]
    (repeat' with_reducible first | refine And.intro ?_ ?_ | intro _ | refine exP ?_ ?_); all_goals try omega
open Go Pm
set_option maxHeartbeats 4000000
set_option maxRecDepth 100000
def at0B (a b c : Int) : Bool := decide (a = 0) && (decide (b = 0) && decide (c = 0))
def to0B (stem : ByteArray) (mark : UInt8) : Bool := decide (stem = ⟨#[]⟩) && decide (mark = 0)
def decK (t : List Ch) (k : Int) (num : Int) (form : ByteArray) (ch ln wd : Int) (stem : ByteArray) (mark : UInt8) (of : Int) : Bool :=
  if k = 1 then wordB form && (at0B ch ln wd && (headB stem mark && decide (of = 0)))
  else if k = 2 then wordB form && (placeT t ch ln wd && (headB stem mark && decide (of = 0)))
  else if k = 3 then decide (form = ⟨#[]⟩) && (placeT t ch ln wd && (headB stem mark && decide (of = 0)))
  else if k = 4 then decide (form = ⟨#[]⟩) && (at0B ch ln wd && (to0B stem mark && inB of 1 (num - 1)))
  else false
def decB (t : List Ch) (d : Dc) : Bool := inB d.num 1 999 && decK t d.kind.toNat d.num d.form d.ch d.ln d.wd d.stem d.mark d.of
def bdD (d : Dc) : Prop := d.form.size ≤ 100000 ∧ d.stem.size ≤ 100000
theorem mark0 (mark : UInt8) : (mark.toNat : Int) = 0 ↔ mark = 0 := by
  constructor
  · intro h
    exact UInt8.toNat_inj.1 (by show _ = 0; omega)
  · rintro rfl; rfl
theorem pl_dec (b : Bool) : decide ((if b = true then (0 : Int) else 12) = 0) = b := by cases b <;> rfl
theorem decK_1 (t : List Ch) (num : Int) (form : ByteArray) (ch ln wd : Int) (stem : ByteArray) (mark : UInt8) (of : Int) : decK t 1 num form ch ln wd stem mark of = ((decide (ch = 0) && (decide (ln = 0) && (decide (wd = 0) && decide (of = 0)))) && (wordB form && headB stem mark)) := by
  have h1 : decK t 1 num form ch ln wd stem mark of = (wordB form && (at0B ch ln wd && (headB stem mark && decide (of = 0)))) := rfl
  rw [h1]
  unfold at0B
  generalize wordB form = a
  generalize headB stem mark = b
  generalize decide (ch = 0) = c
  generalize decide (ln = 0) = d
  generalize decide (wd = 0) = e
  generalize decide (of = 0) = f
  revert a b c d e f
  decide
theorem decK_2 (t : List Ch) (num : Int) (form : ByteArray) (ch ln wd : Int) (stem : ByteArray) (mark : UInt8) (of : Int) : decK t 2 num form ch ln wd stem mark of = (decide (of = 0) && (wordB form && (placeT t ch ln wd && headB stem mark))) := by
  have h2 : decK t 2 num form ch ln wd stem mark of = (wordB form && (placeT t ch ln wd && (headB stem mark && decide (of = 0)))) := rfl
  rw [h2]
  generalize wordB form = a
  generalize headB stem mark = b
  generalize placeT t ch ln wd = c
  generalize decide (of = 0) = f
  revert a b c f
  decide
theorem decK_3 (t : List Ch) (num : Int) (form : ByteArray) (ch ln wd : Int) (stem : ByteArray) (mark : UInt8) (of : Int) : decK t 3 num form ch ln wd stem mark of = ((decide (form = ⟨#[]⟩) && decide (of = 0)) && (placeT t ch ln wd && headB stem mark)) := by
  have h3 : decK t 3 num form ch ln wd stem mark of = (decide (form = ⟨#[]⟩) && (placeT t ch ln wd && (headB stem mark && decide (of = 0)))) := rfl
  rw [h3]
  generalize decide (form = ⟨#[]⟩) = a
  generalize headB stem mark = b
  generalize placeT t ch ln wd = c
  generalize decide (of = 0) = f
  revert a b c f
  decide
theorem decK_4 (t : List Ch) (num : Int) (form : ByteArray) (ch ln wd : Int) (stem : ByteArray) (mark : UInt8) (of : Int) : decK t 4 num form ch ln wd stem mark of = ((decide (form = ⟨#[]⟩) && (decide (ch = 0) && (decide (ln = 0) && (decide (wd = 0) && (decide (stem = ⟨#[]⟩) && decide ((mark.toNat : Int) = 0)))))) && inB of 1 (num - 1)) := by
  have h4 : decK t 4 num form ch ln wd stem mark of = (decide (form = ⟨#[]⟩) && (at0B ch ln wd && (to0B stem mark && inB of 1 (num - 1)))) := rfl
  rw [h4]
  unfold at0B to0B
  have hm : decide (mark = 0) = decide ((mark.toNat : Int) = 0) := decide_eq_decide.2 (mark0 mark).symm
  rw [hm]
  simp only [Bool.and_assoc]
open Go Pm
set_option maxHeartbeats 4000000
set_option maxRecDepth 100000
theorem dec_1 (t : List Ch) (ht : textB t = true) (num : Int) (form : ByteArray) (ch ln wd : Int) (stem : ByteArray) (mark : UInt8) (of : Int) (hf : form.size ≤ 100000) (hst : stem.size ≤ 100000) :
    Gives Tryz.prog 83 [txE 0 t, .agg [i64 num, .v (.int .u8 1), str form, i64 ch, i64 ln, i64 wd, str stem, u8 mark, i64 of]] (fun _ => bl (inB num 1 999 && decK t 1 num form ch ln wd stem mark of)) := by
  have hk1 : inB 1 1 4 = true := by decide
  have i1 : Int.toNat 1 = 1 := rfl
  have hK := inSt_one 1 4 1
  rw [hk1] at hK
  have hbe : ByteArray.empty = ⟨#[]⟩ := rfl
  have hN := inSt_one 1 999 num
  have hA := At_any t ht ch ln wd
  have hL := letters_ok form 1 (by omega)
  rw [letters_word] at hL
  have hR := stright_ok stem mark (by omega)
  rw [decK_1]
  cases hn : inB num 1 999 with
  | false =>
    rw [hn] at hN
    refine pure_intro (ow := fun _ => false) Tryz.func83 Tryz.ntmps83 rfl (by kernel_rfl) (by simp) rfl (by decide) fun G hG hOw hNm hB => ?_; simp only [go_sem, hG, hOw]
    try (repeat' with_reducible first | refine And.intro ?_ ?_ | intro _ | refine exP ?_ ?_); all_goals try omega
    refine call_pure hK (by first | exact Subs.refl _ | (repeat' (first | exact Subs.nil | exact Sub.refl _ | exact Sub.lo (Nat.zero_le _) | refine Subs.cons ?_ ?_ | refine Subs.agg ?_ | refine Subs.fp ?_ | refine Subs.tup ?_ | refine Sub.map (Nat.zero_le _) (fun _ => ?_)))) (by first | rfl | simp [allP, all0, pureV, pure0, *]) (by simp [chk, hG]) ?_
    simp only [go_sem, hG, hOw]
    (repeat' with_reducible first | refine And.intro ?_ ?_ | intro _ | refine exP ?_ ?_); all_goals try omega
    refine call_pure hN (by first | exact Subs.refl _ | (repeat' (first | exact Subs.nil | exact Sub.refl _ | exact Sub.lo (Nat.zero_le _) | refine Subs.cons ?_ ?_ | refine Subs.agg ?_ | refine Subs.fp ?_ | refine Subs.tup ?_ | refine Sub.map (Nat.zero_le _) (fun _ => ?_)))) (by first | rfl | simp [allP, all0, pureV, pure0, *]) (by simp [chk, hG]) ?_
    simp only [go_sem, hG, hOw]
    try (repeat' with_reducible first | refine And.intro ?_ ?_ | intro _ | refine exP ?_ ?_); all_goals try omega
  | true =>
    rw [hn] at hN
    rw [Bool.true_and]
    refine pure_intro (ow := fun _ => false) Tryz.func83 Tryz.ntmps83 rfl (by kernel_rfl) (by simp) rfl (by decide) fun G hG hOw hNm hB => ?_; simp only [go_sem, hG, hOw]
    try (repeat' with_reducible first | refine And.intro ?_ ?_ | intro _ | refine exP ?_ ?_); all_goals try omega
    refine call_pure hK (by first | exact Subs.refl _ | (repeat' (first | exact Subs.nil | exact Sub.refl _ | exact Sub.lo (Nat.zero_le _) | refine Subs.cons ?_ ?_ | refine Subs.agg ?_ | refine Subs.fp ?_ | refine Subs.tup ?_ | refine Sub.map (Nat.zero_le _) (fun _ => ?_)))) (by first | rfl | simp [allP, all0, pureV, pure0, *]) (by simp [chk, hG]) ?_
    simp only [go_sem, hG, hOw]
    (repeat' with_reducible first | refine And.intro ?_ ?_ | intro _ | refine exP ?_ ?_); all_goals try omega
    refine call_pure hN (by first | exact Subs.refl _ | (repeat' (first | exact Subs.nil | exact Sub.refl _ | exact Sub.lo (Nat.zero_le _) | refine Subs.cons ?_ ?_ | refine Subs.agg ?_ | refine Subs.fp ?_ | refine Subs.tup ?_ | refine Sub.map (Nat.zero_le _) (fun _ => ?_)))) (by first | rfl | simp [allP, all0, pureV, pure0, *]) (by simp [chk, hG]) ?_
    simp (maxSteps := 2000000) only [go_sem, hG, hOw, i1,Nat.reduceMul,List.drop_succ_cons,List.drop_zero,List.take_succ_cons,List.take_zero]
    (repeat' with_reducible first | refine And.intro ?_ ?_ | intro _ | refine exP ?_ ?_); all_goals try omega
    refine call_pure hA (by first | exact Subs.refl _ | (repeat' (first | exact Subs.nil | exact Sub.refl _ | exact Sub.lo (Nat.zero_le _) | refine Subs.cons ?_ ?_ | refine Subs.agg ?_ | refine Subs.fp ?_ | refine Subs.tup ?_ | refine Sub.map (Nat.zero_le _) (fun _ => ?_)))) (by first | rfl | simp [allP, all0, pureV, pure0, *]) (by simp [chk, hG]) ?_
    cases hE : (decide (ch = 0) && (decide (ln = 0) && (decide (wd = 0) && decide (of = 0)))) with
    | false =>
      simp (maxSteps := 2000000) only [go_sem, hG, hOw, hbe,hE,pl_dec]
      try (repeat' with_reducible first | refine And.intro ?_ ?_ | intro _ | refine exP ?_ ?_); all_goals try omega
    | true =>
      simp (maxSteps := 2000000) only [go_sem, hG, hOw, hbe,hE,pl_dec]
      (repeat' with_reducible first | refine And.intro ?_ ?_ | intro _ | refine exP ?_ ?_); all_goals try omega
      refine call_pure hL (by first | exact Subs.refl _ | (repeat' (first | exact Subs.nil | exact Sub.refl _ | exact Sub.lo (Nat.zero_le _) | refine Subs.cons ?_ ?_ | refine Subs.agg ?_ | refine Subs.fp ?_ | refine Subs.tup ?_ | refine Sub.map (Nat.zero_le _) (fun _ => ?_)))) (by first | rfl | simp [allP, all0, pureV, pure0, *]) (by simp [chk, hG]) ?_
      cases wordB form with
      | false =>
        simp (maxSteps := 2000000) only [go_sem, hG, hOw, hbe,hE,pl_dec]
        try (repeat' with_reducible first | refine And.intro ?_ ?_ | intro _ | refine exP ?_ ?_); all_goals try omega
      | true =>
        simp (maxSteps := 2000000) only [go_sem, hG, hOw, hbe,hE,pl_dec]
        (repeat' with_reducible first | refine And.intro ?_ ?_ | intro _ | refine exP ?_ ?_); all_goals try omega
        refine call_pure hR (by first | exact Subs.refl _ | (repeat' (first | exact Subs.nil | exact Sub.refl _ | exact Sub.lo (Nat.zero_le _) | refine Subs.cons ?_ ?_ | refine Subs.agg ?_ | refine Subs.fp ?_ | refine Subs.tup ?_ | refine Sub.map (Nat.zero_le _) (fun _ => ?_)))) (by first | rfl | simp [allP, all0, pureV, pure0, *]) (by simp [chk, hG]) ?_
        simp (maxSteps := 2000000) only [go_sem, hG, hOw, hbe,hE,pl_dec]
        try (repeat' with_reducible first | refine And.intro ?_ ?_ | intro _ | refine exP ?_ ?_); all_goals try omega
        all_goals (rename_i h; rw [h]; try rfl)
open Go Pm
set_option maxHeartbeats 4000000
set_option maxRecDepth 100000
theorem dec_2 (t : List Ch) (ht : textB t = true) (num : Int) (form : ByteArray) (ch ln wd : Int) (stem : ByteArray) (mark : UInt8) (of : Int) (hf : form.size ≤ 100000) (hst : stem.size ≤ 100000) :
    Gives Tryz.prog 83 [txE 0 t, .agg [i64 num, .v (.int .u8 2), str form, i64 ch, i64 ln, i64 wd, str stem, u8 mark, i64 of]] (fun _ => bl (inB num 1 999 && decK t 2 num form ch ln wd stem mark of)) := by
  have hk1 : inB 2 1 4 = true := by decide
  have i1 : Int.toNat 2 = 2 := rfl
  have hK := inSt_one 1 4 2
  rw [hk1] at hK
  have hbe : ByteArray.empty = ⟨#[]⟩ := rfl
  have hN := inSt_one 1 999 num
  have hA := At_any t ht ch ln wd
  have hL := letters_ok form 1 (by omega)
  rw [letters_word] at hL
  have hR := stright_ok stem mark (by omega)
  rw [decK_2]
  cases hn : inB num 1 999 with
  | false =>
    rw [hn] at hN
    refine pure_intro (ow := fun _ => false) Tryz.func83 Tryz.ntmps83 rfl (by kernel_rfl) (by simp) rfl (by decide) fun G hG hOw hNm hB => ?_; simp only [go_sem, hG, hOw]
    try (repeat' with_reducible first | refine And.intro ?_ ?_ | intro _ | refine exP ?_ ?_); all_goals try omega
    refine call_pure hK (by first | exact Subs.refl _ | (repeat' (first | exact Subs.nil | exact Sub.refl _ | exact Sub.lo (Nat.zero_le _) | refine Subs.cons ?_ ?_ | refine Subs.agg ?_ | refine Subs.fp ?_ | refine Subs.tup ?_ | refine Sub.map (Nat.zero_le _) (fun _ => ?_)))) (by first | rfl | simp [allP, all0, pureV, pure0, *]) (by simp [chk, hG]) ?_
    simp only [go_sem, hG, hOw]
    (repeat' with_reducible first | refine And.intro ?_ ?_ | intro _ | refine exP ?_ ?_); all_goals try omega
    refine call_pure hN (by first | exact Subs.refl _ | (repeat' (first | exact Subs.nil | exact Sub.refl _ | exact Sub.lo (Nat.zero_le _) | refine Subs.cons ?_ ?_ | refine Subs.agg ?_ | refine Subs.fp ?_ | refine Subs.tup ?_ | refine Sub.map (Nat.zero_le _) (fun _ => ?_)))) (by first | rfl | simp [allP, all0, pureV, pure0, *]) (by simp [chk, hG]) ?_
    simp only [go_sem, hG, hOw]
    try (repeat' with_reducible first | refine And.intro ?_ ?_ | intro _ | refine exP ?_ ?_); all_goals try omega
  | true =>
    rw [hn] at hN
    rw [Bool.true_and]
    refine pure_intro (ow := fun _ => false) Tryz.func83 Tryz.ntmps83 rfl (by kernel_rfl) (by simp) rfl (by decide) fun G hG hOw hNm hB => ?_; simp only [go_sem, hG, hOw]
    try (repeat' with_reducible first | refine And.intro ?_ ?_ | intro _ | refine exP ?_ ?_); all_goals try omega
    refine call_pure hK (by first | exact Subs.refl _ | (repeat' (first | exact Subs.nil | exact Sub.refl _ | exact Sub.lo (Nat.zero_le _) | refine Subs.cons ?_ ?_ | refine Subs.agg ?_ | refine Subs.fp ?_ | refine Subs.tup ?_ | refine Sub.map (Nat.zero_le _) (fun _ => ?_)))) (by first | rfl | simp [allP, all0, pureV, pure0, *]) (by simp [chk, hG]) ?_
    simp only [go_sem, hG, hOw]
    (repeat' with_reducible first | refine And.intro ?_ ?_ | intro _ | refine exP ?_ ?_); all_goals try omega
    refine call_pure hN (by first | exact Subs.refl _ | (repeat' (first | exact Subs.nil | exact Sub.refl _ | exact Sub.lo (Nat.zero_le _) | refine Subs.cons ?_ ?_ | refine Subs.agg ?_ | refine Subs.fp ?_ | refine Subs.tup ?_ | refine Sub.map (Nat.zero_le _) (fun _ => ?_)))) (by first | rfl | simp [allP, all0, pureV, pure0, *]) (by simp [chk, hG]) ?_
    simp (maxSteps := 2000000) only [go_sem, hG, hOw, i1,Nat.reduceMul,List.drop_succ_cons,List.drop_zero,List.take_succ_cons,List.take_zero]
    (repeat' with_reducible first | refine And.intro ?_ ?_ | intro _ | refine exP ?_ ?_); all_goals try omega
    refine call_pure hA (by first | exact Subs.refl _ | (repeat' (first | exact Subs.nil | exact Sub.refl _ | exact Sub.lo (Nat.zero_le _) | refine Subs.cons ?_ ?_ | refine Subs.agg ?_ | refine Subs.fp ?_ | refine Subs.tup ?_ | refine Sub.map (Nat.zero_le _) (fun _ => ?_)))) (by first | rfl | simp [allP, all0, pureV, pure0, *]) (by simp [chk, hG]) ?_
    cases hE : decide (of = 0) with
    | false =>
      simp (maxSteps := 2000000) only [go_sem, hG, hOw, hbe,hE,pl_dec]
      try (repeat' with_reducible first | refine And.intro ?_ ?_ | intro _ | refine exP ?_ ?_); all_goals try omega
    | true =>
      simp (maxSteps := 2000000) only [go_sem, hG, hOw, hbe,hE,pl_dec]
      (repeat' with_reducible first | refine And.intro ?_ ?_ | intro _ | refine exP ?_ ?_); all_goals try omega
      refine call_pure hL (by first | exact Subs.refl _ | (repeat' (first | exact Subs.nil | exact Sub.refl _ | exact Sub.lo (Nat.zero_le _) | refine Subs.cons ?_ ?_ | refine Subs.agg ?_ | refine Subs.fp ?_ | refine Subs.tup ?_ | refine Sub.map (Nat.zero_le _) (fun _ => ?_)))) (by first | rfl | simp [allP, all0, pureV, pure0, *]) (by simp [chk, hG]) ?_
      cases wordB form with
      | false =>
        simp (maxSteps := 2000000) only [go_sem, hG, hOw, hbe,hE,pl_dec]
        try (repeat' with_reducible first | refine And.intro ?_ ?_ | intro _ | refine exP ?_ ?_); all_goals try omega
      | true =>
        cases placeT t ch ln wd with
        | false =>
          simp (maxSteps := 2000000) only [go_sem, hG, hOw, hbe,hE,pl_dec]
          try (repeat' with_reducible first | refine And.intro ?_ ?_ | intro _ | refine exP ?_ ?_); all_goals try omega
        | true =>
          simp (maxSteps := 2000000) only [go_sem, hG, hOw, hbe,hE,pl_dec]
          (repeat' with_reducible first | refine And.intro ?_ ?_ | intro _ | refine exP ?_ ?_); all_goals try omega
          refine call_pure hR (by first | exact Subs.refl _ | (repeat' (first | exact Subs.nil | exact Sub.refl _ | exact Sub.lo (Nat.zero_le _) | refine Subs.cons ?_ ?_ | refine Subs.agg ?_ | refine Subs.fp ?_ | refine Subs.tup ?_ | refine Sub.map (Nat.zero_le _) (fun _ => ?_)))) (by first | rfl | simp [allP, all0, pureV, pure0, *]) (by simp [chk, hG]) ?_
          simp (maxSteps := 2000000) only [go_sem, hG, hOw, hbe,hE,pl_dec]
          try (repeat' with_reducible first | refine And.intro ?_ ?_ | intro _ | refine exP ?_ ?_); all_goals try omega
          all_goals (rename_i h; rw [h]; try rfl)
end Go.Proofs.YtppcbmpiphhphaaGreatDoor
