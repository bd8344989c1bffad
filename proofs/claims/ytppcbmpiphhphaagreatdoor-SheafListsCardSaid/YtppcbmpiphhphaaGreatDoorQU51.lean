import Derived.Test.YtppcbmpiphhphaaGreatDoorQU28
import Derived.Test.YtppcbmpiphhphaaGreatDoorQU31
import Derived.Test.YtppcbmpiphhphaaGreatDoorQU35
namespace Go.Proofs.YtppcbmpiphhphaaGreatDoor
open Go Pm
set_option linter.unusedSimpArgs false
set_option linter.unusedVariables false
set_option maxHeartbeats 4000000
set_option maxRecDepth 100000
open Go Pm
set_option maxHeartbeats 4000000
set_option maxRecDepth 100000
theorem dec_3 (t : List Ch) (ht : textB t = true) (num : Int) (form : ByteArray) (ch ln wd : Int) (stem : ByteArray) (mark : UInt8) (of : Int) (hf : form.size ≤ 100000) (hst : stem.size ≤ 100000) :
    Gives Tryz.prog 83 [txE 0 t, .agg [i64 num, .v (.int .u8 3), str form, i64 ch, i64 ln, i64 wd, str stem, u8 mark, i64 of]] (fun _ => bl (inB num 1 999 && decK t 3 num form ch ln wd stem mark of)) := by
  have hk1 : inB 3 1 4 = true := by decide
  have i1 : Int.toNat 3 = 3 := rfl
  have hK := inSt_one 1 4 3
  rw [hk1] at hK
  have hbe : ByteArray.empty = ⟨#[]⟩ := rfl
  have hN := inSt_one 1 999 num
  have hA := At_any t ht ch ln wd
  have hL := letters_ok form 1 (by omega)
  rw [letters_word] at hL
  have hR := stright_ok stem mark (by omega)
  rw [decK_3]
  cases hn : inB num 1 999 with
  | false =>
    rw [hn] at hN
    refine pure_intro (ow := fun _ => false) Tryz.func83 Tryz.ntmps83 rfl (by kernel_rfl) (by simp) rfl (by decide) fun G hG hOw hNm hB => ?_; simp only [go_sem, hG, hOw]
    try (repeat' with_reducible first | refine And.intro ?_ ?_ | intro _ | refine exP ?_ ?_); all_goals try omega
    refine call_pure hK (by first | exact Subs.refl _ | (repeat' (first | exact Subs.nil | exact Sub.refl _ | exact Sub.lo (Nat.zero_le _) | refine Subs.cons ?_ ?_ | refine Subs.agg ?_ | refine Subs.fp ?_ | refine Subs.tup ?_ | refine Sub.map (Nat.zero_le _) (fun _ => ?_)))) (by first | rfl | simp [allP, all0, pureV, pure0, *]) (by simp [chk, hG]) ?_
    simp only [go_sem, hG, hOw]
    (repeat' with_reducible first | refine And.intro ?_ ?_ | intro _ | refine exP ?_ ?_); all_goals try omega
    refine call_pure hN (by first | exact Subs.refl _ | (repeat' (first | exact Subs.nil | exact Sub.refl _ | exact Sub.lo (Nat.zero_le _) | refine Subs.cons ?_ ?_ | refine Subs.agg ?_ | refine Subs.fp ?_ | refine Subs.tup ?_ | refine Sub.map (Nat.zero_le _) (fun _ => ?_)))) (by first | rfl | simp [allP, all0, pureV, pure0, *]) (by simp [chk, hG]) ?_
    simp only [go_sem, hG, hOw]
    try (repeat' with_reducible first | refine And.intro ?_ ?_ | intro _ | refine exP ?_ ?_); all_goals try omega
  | true =>
    rw [hn] at hN
    rw [Bool.true_and]
    refine pure_intro (ow := fun _ => false) Tryz.func83 Tryz.ntmps83 rfl (by kernel_rfl) (by simp) rfl (by decide) fun G hG hOw hNm hB => ?_; simp only [go_sem, hG, hOw]
    try (repeat' with_reducible first | refine And.intro ?_ ?_ | intro _ | refine exP ?_ ?_); all_goals try omega
    refine call_pure hK (by first | exact Subs.refl _ | (repeat' (first | exact Subs.nil | exact Sub.refl _ | exact Sub.lo (Nat.zero_le _) | refine Subs.cons ?_ ?_ | refine Subs.agg ?_ | refine Subs.fp ?_ | refine Subs.tup ?_ | refine Sub.map (Nat.zero_le _) (fun _ => ?_)))) (by first | rfl | simp [allP, all0, pureV, pure0, *]) (by simp [chk, hG]) ?_
    simp only [go_sem, hG, hOw]
    (repeat' with_reducible first | refine And.intro ?_ ?_ | intro _ | refine exP ?_ ?_); all_goals try omega
    refine call_pure hN (by first | exact Subs.refl _ | (repeat' (first | exact Subs.nil | exact Sub.refl _ | exact Sub.lo (Nat.zero_le _) | refine Subs.cons ?_ ?_ | refine Subs.agg ?_ | refine Subs.fp ?_ | refine Subs.tup ?_ | refine Sub.map (Nat.zero_le _) (fun _ => ?_)))) (by first | rfl | simp [allP, all0, pureV, pure0, *]) (by simp [chk, hG]) ?_
    simp (maxSteps := 2000000) only [go_sem, hG, hOw, i1,Nat.reduceMul,List.drop_succ_cons,List.drop_zero,List.take_succ_cons,List.take_zero]
    (repeat' with_reducible first | refine And.intro ?_ ?_ | intro _ | refine exP ?_ ?_); all_goals try omega
    refine call_pure hA (by first | exact Subs.refl _ | (repeat' (first | exact Subs.nil | exact Sub.refl _ | exact Sub.lo (Nat.zero_le _) | refine Subs.cons ?_ ?_ | refine Subs.agg ?_ | refine Subs.fp ?_ | refine Subs.tup ?_ | refine Sub.map (Nat.zero_le _) (fun _ => ?_)))) (by first | rfl | simp [allP, all0, pureV, pure0, *]) (by simp [chk, hG]) ?_
    cases hE : (decide (form = ⟨#[]⟩) && decide (of = 0)) with
    | false =>
      simp (maxSteps := 2000000) only [go_sem, hG, hOw, hbe,hE,pl_dec]
      try (repeat' with_reducible first | refine And.intro ?_ ?_ | intro _ | refine exP ?_ ?_); all_goals try omega
    | true =>
      cases placeT t ch ln wd with
      | false =>
        simp (maxSteps := 2000000) only [go_sem, hG, hOw, hbe,hE,pl_dec]
        try (repeat' with_reducible first | refine And.intro ?_ ?_ | intro _ | refine exP ?_ ?_); all_goals try omega
      | true =>
        simp (maxSteps := 2000000) only [go_sem, hG, hOw, hbe,hE,pl_dec]
        (repeat' with_reducible first | refine And.intro ?_ ?_ | intro _ | refine exP ?_ ?_); all_goals try omega
        refine call_pure hR (by first | exact Subs.refl _ | (repeat' (first | exact Subs.nil | exact Sub.refl _ | exact Sub.lo (Nat.zero_le _) | refine Subs.cons ?_ ?_ | refine Subs.agg ?_ | refine Subs.fp ?_ | refine Subs.tup ?_ | refine Sub.map (Nat.zero_le _) (fun _ => ?_)))) (by first | rfl | simp [allP, all0, pureV, pure0, *]) (by simp [chk, hG]) ?_
        simp (maxSteps := 2000000) only [go_sem, hG, hOw, hbe,hE,pl_dec]
        try (repeat' with_reducible first | refine And.intro ?_ ?_ | intro _ | refine exP ?_ ?_); all_goals try omega
        all_goals (rename_i h; rw [h]; try rfl)
open Go Pm
set_option maxHeartbeats 4000000
set_option maxRecDepth 100000
theorem dec_4 (t : List Ch) (ht : textB t = true) (num : Int) (form : ByteArray) (ch ln wd : Int) (stem : ByteArray) (mark : UInt8) (of : Int) (hf : form.size ≤ 100000) (hst : stem.size ≤ 100000) :
    Gives Tryz.prog 83 [txE 0 t, .agg [i64 num, .v (.int .u8 4), str form, i64 ch, i64 ln, i64 wd, str stem, u8 mark, i64 of]] (fun _ => bl (inB num 1 999 && decK t 4 num form ch ln wd stem mark of)) := by
  have hk1 : inB 4 1 4 = true := by decide
  have i1 : Int.toNat 4 = 4 := rfl
  have hK := inSt_one 1 4 4
  rw [hk1] at hK
  have hbe : ByteArray.empty = ⟨#[]⟩ := rfl
  have hN := inSt_one 1 999 num
  have hA := At_any t ht ch ln wd
  have hL := letters_ok form 1 (by omega)
  rw [letters_word] at hL
  have hR := stright_ok stem mark (by omega)
  rw [decK_4]
  cases hn : inB num 1 999 with
  | false =>
    rw [hn] at hN
    refine pure_intro (ow := fun _ => false) Tryz.func83 Tryz.ntmps83 rfl (by kernel_rfl) (by simp) rfl (by decide) fun G hG hOw hNm hB => ?_; simp only [go_sem, hG, hOw]
    try (repeat' with_reducible first | refine And.intro ?_ ?_ | intro _ | refine exP ?_ ?_); all_goals try omega
    refine call_pure hK (by first | exact Subs.refl _ | (repeat' (first | exact Subs.nil | exact Sub.refl _ | exact Sub.lo (Nat.zero_le _) | refine Subs.cons ?_ ?_ | refine Subs.agg ?_ | refine Subs.fp ?_ | refine Subs.tup ?_ | refine Sub.map (Nat.zero_le _) (fun _ => ?_)))) (by first | rfl | simp [allP, all0, pureV, pure0, *]) (by simp [chk, hG]) ?_
    simp only [go_sem, hG, hOw]
    (repeat' with_reducible first | refine And.intro ?_ ?_ | intro _ | refine exP ?_ ?_); all_goals try omega
    refine call_pure hN (by first | exact Subs.refl _ | (repeat' (first | exact Subs.nil | exact Sub.refl _ | exact Sub.lo (Nat.zero_le _) | refine Subs.cons ?_ ?_ | refine Subs.agg ?_ | refine Subs.fp ?_ | refine Subs.tup ?_ | refine Sub.map (Nat.zero_le _) (fun _ => ?_)))) (by first | rfl | simp [allP, all0, pureV, pure0, *]) (by simp [chk, hG]) ?_
    simp only [go_sem, hG, hOw]
    try (repeat' with_reducible first | refine And.intro ?_ ?_ | intro _ | refine exP ?_ ?_); all_goals try omega
  | true =>
    rw [hn] at hN
    rw [Bool.true_and]
    have hn2 : 1 ≤ num ∧ num ≤ 999 := by simpa [inB] using hn
    refine pure_intro (ow := fun _ => false) Tryz.func83 Tryz.ntmps83 rfl (by kernel_rfl) (by simp) rfl (by decide) fun G hG hOw hNm hB => ?_; simp only [go_sem, hG, hOw]
    try (repeat' with_reducible first | refine And.intro ?_ ?_ | intro _ | refine exP ?_ ?_); all_goals try omega
    refine call_pure hK (by first | exact Subs.refl _ | (repeat' (first | exact Subs.nil | exact Sub.refl _ | exact Sub.lo (Nat.zero_le _) | refine Subs.cons ?_ ?_ | refine Subs.agg ?_ | refine Subs.fp ?_ | refine Subs.tup ?_ | refine Sub.map (Nat.zero_le _) (fun _ => ?_)))) (by first | rfl | simp [allP, all0, pureV, pure0, *]) (by simp [chk, hG]) ?_
    simp only [go_sem, hG, hOw]
    (repeat' with_reducible first | refine And.intro ?_ ?_ | intro _ | refine exP ?_ ?_); all_goals try omega
    refine call_pure hN (by first | exact Subs.refl _ | (repeat' (first | exact Subs.nil | exact Sub.refl _ | exact Sub.lo (Nat.zero_le _) | refine Subs.cons ?_ ?_ | refine Subs.agg ?_ | refine Subs.fp ?_ | refine Subs.tup ?_ | refine Sub.map (Nat.zero_le _) (fun _ => ?_)))) (by first | rfl | simp [allP, all0, pureV, pure0, *]) (by simp [chk, hG]) ?_
    simp (maxSteps := 2000000) only [go_sem, hG, hOw, i1,Nat.reduceMul,List.drop_succ_cons,List.drop_zero,List.take_succ_cons,List.take_zero]
    (repeat' with_reducible first | refine And.intro ?_ ?_ | intro _ | refine exP ?_ ?_); all_goals try omega
    refine call_pure hA (by first | exact Subs.refl _ | (repeat' (first | exact Subs.nil | exact Sub.refl _ | exact Sub.lo (Nat.zero_le _) | refine Subs.cons ?_ ?_ | refine Subs.agg ?_ | refine Subs.fp ?_ | refine Subs.tup ?_ | refine Sub.map (Nat.zero_le _) (fun _ => ?_)))) (by first | rfl | simp [allP, all0, pureV, pure0, *]) (by simp [chk, hG]) ?_
    cases hE : (decide (form = ⟨#[]⟩) && (decide (ch = 0) && (decide (ln = 0) && (decide (wd = 0) && (decide (stem = ⟨#[]⟩) && decide ((mark.toNat : Int) = 0)))))) with
    | false =>
      simp (maxSteps := 2000000) only [go_sem, hG, hOw, hbe,hE,pl_dec]
      try (repeat' with_reducible first | refine And.intro ?_ ?_ | intro _ | refine exP ?_ ?_); all_goals try omega
    | true =>
      simp (maxSteps := 2000000) only [go_sem, hG, hOw, hbe,hE,pl_dec]
      (repeat' with_reducible first | refine And.intro ?_ ?_ | intro _ | refine exP ?_ ?_); all_goals try omega
      refine call_pureA (inSt_one 1 (num - 1) of) ?_
      simp (maxSteps := 2000000) only [go_sem, hG, hOw, hbe,hE,pl_dec]
      try (repeat' with_reducible first | refine And.intro ?_ ?_ | intro _ | refine exP ?_ ?_); all_goals try omega
open Go Pm
set_option maxHeartbeats 4000000
set_option maxRecDepth 100000
def numsB (t : List Ch) (pre : List Dc) (d : Dc) : Bool := !(pre.any fun e => decide (e.num = d.num)) && decB t d
def lexB (t : List Ch) (x : Lx) : Bool := decide (x.rules.length ≤ 12) && decide (x.decs.length ≤ 20) && x.rules.all ruleB && allPre (numsB t) [] x.decs
def lexEr (t : List Ch) (x : Lx) : Int := if textB t then (if lexB t x then 0 else 40) else 10
def firstI (p : Nat → Bool) (n : Nat) : Int := match (List.range n).find? p with
  | some k => (k : Int)
  | none => -1
theorem firstI_at {p : Nat → Bool} {n k : Nat} (hk : k < n) (hp : p k = true) (h : ∀ j, j < k → p j = false) : firstI p n = k := by
  unfold firstI
  cases hf : (List.range n).find? p with
  | none =>
    have := List.find?_eq_none.1 hf k (by simpa using hk)
    exact absurd hp this
  | some j =>
    obtain ⟨hj, xs, ys, e, hall⟩ := List.find?_eq_some_iff_append.1 hf
    have hjk : ¬ j < k := fun h' => by rw [h j h'] at hj; cases hj
    have hlen : xs.length = j ∧ ∀ i, i < j → i ∈ xs := by
      have h1 : (List.range n)[xs.length]? = some j := by rw [e]; simp
      obtain ⟨h2, h3⟩ := List.getElem?_eq_some_iff.1 h1
      have h3 : xs.length = j := by simpa using h3
      refine ⟨h3, fun i hi => ?_⟩
      have h5 : xs.length < n := by simpa using h2
      have h4 : (List.range n)[i]? = some i := List.getElem?_range (by omega)
      rw [e, List.getElem?_append_left (by omega)] at h4
      exact List.mem_of_getElem? h4
    have hkj : ¬ k < j := fun h' => by
      have := hall k (hlen.2 k h')
      rw [hp] at this
      cases this
    simp only
    omega
theorem firstI_no {p : Nat → Bool} {n : Nat} (h : ∀ j, j < n → p j = false) : firstI p n = -1 := by
  unfold firstI
  rw [List.find?_eq_none.2 fun x hx => by rw [h x (by simpa using hx)]; simp]
theorem firstI_iff {p : Nat → Bool} {n : Nat} : 0 ≤ firstI p n ↔ ∃ k, k < n ∧ p k = true := by
  unfold firstI
  cases hf : (List.range n).find? p with
  | none =>
    simp only
    refine ⟨fun h => absurd h (by decide), fun ⟨k, hk, hp⟩ => ?_⟩
    exact absurd hp (List.find?_eq_none.1 hf k (by simpa using hk))
  | some j =>
    simp only
    exact ⟨fun _ => ⟨j, by simpa using List.mem_of_find?_eq_some hf, List.find?_some hf⟩, fun _ => by omega⟩
def dc0 : Dc := ⟨0, 0, ⟨#[]⟩, 0, 0, 0, ⟨#[]⟩, 0, 0⟩
def badD (t : List Ch) (l : List Dc) (k : Nat) : Bool := !numsB t (l.take k) (l.getD k dc0)
theorem badD_at (t : List Ch) (l : List Dc) (k : Nat) (hk : k < l.length) : badD t l k = !numsB t (l.take k) l[k] := by
  unfold badD
  rw [List.getD_eq_getElem?_getD, List.getElem?_eq_getElem hk]; rfl
theorem allPre_iff (t : List Ch) (l : List Dc) : allPre (numsB t) [] l = !decide (0 ≤ firstI (badD t l) l.length) := by
  have key : ∀ k, k ≤ l.length → (allPre (numsB t) [] (l.take k) = true ↔ ∀ j, j < k → badD t l j = false) := by
    intro k
    induction k with
    | zero => intro _; simp [allPre]
    | succ k ih =>
      intro hk
      have h1 := allPre_step (numsB t) l k (by omega)
      rw [h1, Bool.and_eq_true, ih (by omega)]
      constructor
      · rintro ⟨a, b⟩ j hj
        by_cases hjk : j < k
        · exact a j hjk
        · obtain rfl : j = k := by omega
          rw [badD_at t l j (by omega), b]; rfl
      · intro a
        refine ⟨fun j hj => a j (by omega), ?_⟩
        have := a k (by omega)
        rw [badD_at t l k (by omega)] at this
        simpa using this
  have hl := key l.length (Nat.le_refl _)
  rw [List.take_length] at hl
  rw [Bool.eq_iff_iff, hl]
  simp only [Bool.not_eq_true', decide_eq_false_iff_not, firstI_iff, not_exists, not_and, Bool.not_eq_true]
theorem decided_ok (t : List Ch) (ht : textB t = true) (d : Dc) (hd : bdD d) : Gives Tryz.prog 83 [txE 0 t, .agg (dcC d)] (fun _ => bl (decB t d)) := by
  obtain ⟨num, kind, form, ch, ln, wd, stem, mark, of⟩ := d
  obtain ⟨h1, h2⟩ := hd
  simp only at h1 h2
  unfold decB
  simp only [dcC, u8]
  by_cases k1 : (kind.toNat : Int) = 1
  · rw [k1]; exact dec_1 t ht num form ch ln wd stem mark of h1 h2
  by_cases k2 : (kind.toNat : Int) = 2
  · rw [k2]; exact dec_2 t ht num form ch ln wd stem mark of h1 h2
  by_cases k3 : (kind.toNat : Int) = 3
  · rw [k3]; exact dec_3 t ht num form ch ln wd stem mark of h1 h2
  by_cases k4 : (kind.toNat : Int) = 4
  · rw [k4]; exact dec_4 t ht num form ch ln wd stem mark of h1 h2
  have hf : decK t kind.toNat num form ch ln wd stem mark of = false := by unfold decK; rw [if_neg k1, if_neg k2, if_neg k3, if_neg k4]
  rw [hf, Bool.and_false]
  have hk : inB kind.toNat 1 4 = false := by simp [inB]; omega
  have hK := inSt_one 1 4 kind.toNat
  rw [hk] at hK
  have hlt : kind.toNat < 256 := kind.toNat_lt
  refine pure_intro (ow := fun _ => false) Tryz.func83 Tryz.ntmps83 rfl (by kernel_rfl) (by simp) rfl (by decide) fun G hG hOw hNm hB => ?_; simp only [go_sem, hG, hOw]
  try (repeat' with_reducible first | refine And.intro ?_ ?_ | intro _ | refine exP ?_ ?_); all_goals try omega
  refine call_pure hK (by first | exact Subs.refl _ | (repeat' (first | exact Subs.nil | exact Sub.refl _ | exact Sub.lo (Nat.zero_le _) | refine Subs.cons ?_ ?_ | refine Subs.agg ?_ | refine Subs.fp ?_ | refine Subs.tup ?_ | refine Sub.map (Nat.zero_le _) (fun _ => ?_)))) (by first | rfl | simp [allP, all0, pureV, pure0, *]) (by simp [chk, hG]) ?_
  simp only [go_sem, hG, hOw]
  try (repeat' with_reducible first | refine And.intro ?_ ?_ | intro _ | refine exP ?_ ?_); all_goals try omega
def addI (L : List Int) (n : Int) : List Int := if (L.any fun x => decide (x = n)) = true then L else L ++ [n]
theorem upM_add (L : List Int) (n : Int) : upM (idsM L) (.int .i64 n) (.v (.bool true)) = idsM (addI L n) := by
  unfold addI
  split
  · rename_i h
    induction L with
    | nil => simp at h
    | cons x r ih =>
      simp only [idsM, List.map_cons, upM, keyB]
      by_cases hx : x = n
      · simp [hx]
      · simp only [hx, decide_false, Bool.false_eq_true, if_false, List.cons.injEq, true_and]
        simp only [List.any_cons, hx, decide_false, Bool.false_or] at h
        exact ih h
  · rename_i h
    exact upM_ids L n ((Bool.not_eq_true _).mp h)
theorem idsM_ren (L : List Int) (ρ : Ren) : (idsM L).map (fun e => (e.1, renT ρ 4 e.2)) = idsM L := by
  unfold idsM
  rw [List.map_map]
  rfl
theorem StCheck2 (t : List Ch) (ht : textB t = true) (d : Dc) (hd : bdD d) (L : List Int) (b : Bool) (hb : (L.any fun x => decide (x = d.num)) = b) :
    Tri Tryz.prog 82 [.agg (dcC d), .ptr 0 0, .ptr 1 0] [(0, .box [.mp 2]), (1, .box [chs 0 t]), (2, .map (.int .i64) (idsM L))]
      (fun _ => .ret (bl (!b && decB t d)) [(0, .box [.mp 2]), (1, .box [chs 0 t]), (2, .map (.int .i64) (idsM (addI L d.num)))]) := by
  have hD := decided_ok t ht d hd
  have hl := lkM_ids L d.num
  have hu := upM_add L d.num
  rw [hb] at hl
  cases b with
  | true =>
    refine tri_intro (fun _ => false) Tryz.func82 Tryz.ntmps82 rfl (by kernel_rfl) (by simp) rfl (by decide) fun G hG hOw hNm => ?_; simp only [go_sem, hG, hOw]
    simp (maxSteps := 2000000) only [go_sem, hG, hOw, hl,hu]
    (repeat' with_reducible first | refine And.intro ?_ ?_ | intro _ | refine exP ?_ ?_); all_goals try omega
    exact ⟨[(0, some 0), (1, some 1), (2, some 2)], by (simp only [EndT, go_sem, entH, entH1, nilArr, obOK, apart, injR, coverR]) <;> simp⟩
  | false =>
    rw [show (!false && decB t d) = decB t d by simp]
    refine tri_intro (fun _ => false) Tryz.func82 Tryz.ntmps82 rfl (by kernel_rfl) (by simp) rfl (by decide) fun G hG hOw hNm => ?_; simp only [go_sem, hG, hOw]
    simp (maxSteps := 2000000) only [go_sem, hG, hOw, hl,hu]
    (repeat' with_reducible first | refine And.intro ?_ ?_ | intro _ | refine exP ?_ ?_); all_goals try omega
    refine call_pure hD (by first | exact Subs.refl _ | (repeat' (first | exact Subs.nil | exact Sub.refl _ | exact Sub.lo (Nat.zero_le _) | refine Subs.cons ?_ ?_ | refine Subs.agg ?_ | refine Subs.fp ?_ | refine Subs.tup ?_ | refine Sub.map (Nat.zero_le _) (fun _ => ?_)))) (by first | rfl | simp [allP, all0, pureV, pure0, *]) (by simp [chk, hG]) ?_
    simp only [go_sem, hG, hOw]
    (repeat' with_reducible first | refine And.intro ?_ ?_ | intro _ | refine exP ?_ ?_); all_goals try omega
    exact ⟨[(0, some 0), (1, some 1), (2, some 2)], by (simp only [EndT, go_sem, entH, entH1, nilArr, obOK, apart, injR, coverR]) <;> simp⟩
theorem allD1 (t : List Ch) (ht : textB t = true) (d : Dc) (hd : bdD d) (L : List Int) (b : Bool) (hb : (L.any fun x => decide (x = d.num)) = b) :
    Tri Tryz.prog 113 [.agg (dcC d), .ptr 53 0] [(50, .box [.mp 52]), (51, .box [chs 0 t]), (52, .map (.int .i64) (idsM L)), (53, .box [.fn (.func 82) [.ptr 50 0, .ptr 51 0]])]
      (fun _ => .ret (bl (!(!b && decB t d))) [(50, .box [.mp 52]), (51, .box [chs 0 t]), (52, .map (.int .i64) (idsM (addI L d.num))), (53, .box [.fn (.func 82) [.ptr 50 0, .ptr 51 0]])]) := by
  have hC := StCheck2 t ht d hd L b hb
  refine tri_intro (fun _ => false) Tryz.func113 Tryz.ntmps113 rfl (by kernel_rfl) (by simp) rfl (by decide) fun G hG hOw hNm => ?_; simp only [go_sem, hG, hOw]
  (repeat' with_reducible first | refine And.intro ?_ ?_ | intro _ | refine exP ?_ ?_); all_goals try omega
  refine call_tri [(0, 50), (1, 51), (2, 52)] [] (hC) (by (simp only [go_sem]) <;> simp) (by (simp only [go_sem, entH, entH1, nilArr, obOK]) <;> simp) (by simp [injR, apart, toR]) (by simp [coverR, usH, toR]) (by simp [uniqP, lkR, toR]) (by simp [chk, hG]) ?_
  simp (maxSteps := 2000000) only [go_sem, hG, hOw, ↓idsM_ren]
  (repeat' with_reducible first | refine And.intro ?_ ?_ | intro _ | refine exP ?_ ?_); all_goals try omega
  exact ⟨[(50, some 50), (51, some 51), (52, some 52), (53, some 53)], by (simp only [EndT, go_sem, entH, entH1, nilArr, obOK, apart, injR, coverR]) <;> simp⟩
theorem IndexD (t : List Ch) (ht : textB t = true) (l : List Dc) (hl : l.length ≤ 1000) (hb : ∀ d ∈ l, bdD d) :
    Tri Tryz.prog 136 [dcs 0 l, .fn (.func 113) [.ptr 53 0]] [(50, .box [.mp 52]), (51, .box [chs 0 t]), (52, .map (.int .i64) []), (53, .box [.fn (.func 82) [.ptr 50 0, .ptr 51 0]])]
      (fun _ => .ret (i64 (firstI (badD t l) l.length)) []) := by
  refine tri_intro (fun _ => false) Tryz.func136 Tryz.ntmps136 rfl (by kernel_rfl) (by simp) rfl (by decide) fun G hG hOw hNm => ?_; simp only [go_sem, hG, hOw]
  refine semC_loop (fun k : Nat => St.of [(0, dcs 0 l), (1, .fn (.func 113) [.ptr 53 0]), (7, i64 l.length), (8, i64 k)] [(50, .box [.mp 52]), (51, .box [chs 0 t]), (52, .map (.int .i64) (idsM (idsOf Dc.num l k))), (53, .box [.fn (.func 82) [.ptr 50 0, .ptr 51 0]])]) (fun k => k ≤ l.length ∧ ∀ j, j < k → badD t l j = false) (fun k => l.length - k) 0 ⟨by simp, fun j h => by omega⟩ (entA [(50, some 50), (51, some 51), (52, some 52), (53, some 53)]) ?_
  rintro k ⟨hk, hall⟩
  by_cases hkl : k < l.length
  · have hlt : (k : Int) < l.length := by omega
    obtain ⟨d, hd⟩ : ∃ d, d = l[k] := ⟨_, rfl⟩
    have hbd : bdD d := by rw [hd]; exact hb _ (List.getElem_mem hkl)
    obtain ⟨tw, htw⟩ : ∃ tw, tw = (l.take k).any fun e => decide (e.num = d.num) := ⟨_, rfl⟩
    have hA := allD1 t ht d hbd (idsOf Dc.num l k) tw (by rw [idsOf_any, ← htw])
    have hbad : badD t l k = !(!tw && decB t d) := by rw [badD_at t l k hkl, ← hd, numsB, htw]
    refine vc_sound _ _ _ ?_
    simp (maxSteps := 2000000) only [go_sem, hG, hOw, hlt,← hd]
    (repeat' with_reducible first | refine And.intro ?_ ?_ | intro _ | refine exP ?_ ?_); all_goals try omega
    refine call_tri [(50, 50), (51, 51), (52, 52), (53, 53)] [] (hA) (by (simp only [go_sem]) <;> simp) (by (simp only [go_sem, entH, entH1, nilArr, obOK]) <;> simp) (by simp [injR, apart, toR]) (by simp [coverR, usH, toR]) (by simp [uniqP, lkR, toR]) (by simp [chk, hG]) ?_
    cases hr : (!tw && decB t d) with
    | false =>
      have hz : firstI (badD t l) l.length = k := firstI_at hkl (by rw [hbad, hr]; rfl) hall
      rw [hz]
      simp only [go_sem, hG, hOw]
      (repeat' with_reducible first | refine And.intro ?_ ?_ | intro _ | refine exP ?_ ?_); all_goals try omega
      exact ⟨[], by (simp only [EndT, go_sem, entH, entH1, nilArr, obOK, apart, injR, coverR]) <;> simp⟩
    | true =>
      have htf : tw = false := by cases tw <;> simp_all
      have hup : addI (idsOf Dc.num l k) d.num = idsOf Dc.num l (k + 1) := by
        unfold addI
        rw [if_neg (by rw [idsOf_any, ← htw, htf]; simp), idsOf, idsOf, take_snoc_map Dc.num l k hkl, hd]
      simp (maxSteps := 2000000) only [go_sem, hG, hOw, ↓idsM_ren,hup]
      (repeat' with_reducible first | refine And.intro ?_ ?_ | intro _ | refine exP ?_ ?_); all_goals try omega
      exact ⟨k + 1, ⟨by omega, fun j hj => by
        by_cases hjk : j < k
        · exact hall j hjk
        · obtain rfl : j = k := by omega
          rw [hbad, hr]; rfl⟩, by omega, entA [(50, some 50), (51, some 51), (52, some 52), (53, some 53)]⟩
  · have hlt : ¬ (k : Int) < l.length := by omega
    have hke : k = l.length := by omega
    subst hke
    have hz : firstI (badD t l) l.length = -1 := firstI_no hall
    rw [hz]
    refine vc_sound _ _ _ ?_
    simp (maxSteps := 2000000) only [go_sem, hG, hOw, hlt]
    try (repeat' with_reducible first | refine And.intro ?_ ?_ | intro _ | refine exP ?_ ?_); all_goals try omega
    exact ⟨[], by (simp only [EndT, go_sem, entH, entH1, nilArr, obOK, apart, injR, coverR]) <;> simp⟩
theorem allD (t : List Ch) (ht : textB t = true) (l : List Dc) (hl : l.length ≤ 1000) (hb : ∀ d ∈ l, bdD d) :
    Tri Tryz.prog 81 [dcs 0 l, .fn (.func 82) [.ptr 50 0, .ptr 51 0]] [(50, .box [.mp 52]), (51, .box [chs 0 t]), (52, .map (.int .i64) [])]
      (fun _ => .ret (bl (allPre (numsB t) [] l)) []) := by
  have hI := IndexD t ht l hl hb
  have hC : Tri Tryz.prog 112 [dcs 0 l, .fn (.func 113) [.ptr 53 0]] [(50, .box [.mp 52]), (51, .box [chs 0 t]), (52, .map (.int .i64) []), (53, .box [.fn (.func 82) [.ptr 50 0, .ptr 51 0]])]
      (fun _ => .ret (bl (decide (0 ≤ firstI (badD t l) l.length))) []) := by
    refine tri_intro (fun _ => false) Tryz.func112 Tryz.ntmps112 rfl (by kernel_rfl) (by simp) rfl (by decide) fun G hG hOw hNm => ?_; simp only [go_sem, hG, hOw]
    (repeat' with_reducible first | refine And.intro ?_ ?_ | intro _ | refine exP ?_ ?_); all_goals try omega
    refine call_tri [(50, 50), (51, 51), (52, 52), (53, 53)] [] (hI) (by (simp only [go_sem]) <;> simp) (by (simp only [go_sem, entH, entH1, nilArr, obOK]) <;> simp) (by simp [injR, apart, toR]) (by simp [coverR, usH, toR]) (by simp [uniqP, lkR, toR]) (by simp [chk, hG]) ?_
    simp only [go_sem, hG, hOw]
    (repeat' with_reducible first | refine And.intro ?_ ?_ | intro _ | refine exP ?_ ?_); all_goals try omega
    exact ⟨[], by (simp only [EndT, go_sem, entH, entH1, nilArr, obOK, apart, injR, coverR]) <;> simp⟩
  rw [allPre_iff]
  refine tri_intro (fun _ => false) Tryz.func81 Tryz.ntmps81 rfl (by kernel_rfl) (by simp) rfl (by decide) fun G hG hOw hNm => ?_; simp only [go_sem, hG, hOw]
  (repeat' with_reducible first | refine And.intro ?_ ?_ | intro _ | refine exP ?_ ?_); all_goals try omega
  refine call_tri [(50, 50), (51, 51), (52, 52), (53, 3)] [] (hC) (by (simp only [go_sem]) <;> simp) (by (simp only [go_sem, entH, entH1, nilArr, obOK]) <;> simp) (by simp [injR, apart, toR]) (by simp [coverR, usH, toR]) (by simp [uniqP, lkR, toR]) (by simp [chk, hG]) ?_
  simp only [go_sem, hG, hOw]
  (repeat' with_reducible first | refine And.intro ?_ ?_ | intro _ | refine exP ?_ ?_); all_goals try omega
  exact ⟨[], by (simp only [EndT, go_sem, entH, entH1, nilArr, obOK, apart, injR, coverR]) <;> simp⟩
def bdX (x : Lx) : Prop := (∀ r ∈ x.rules, bdR r) ∧ (∀ d ∈ x.decs, bdD d) ∧ x.rules.length ≤ 1000 ∧ x.decs.length ≤ 1000
theorem StCheck_ok (t : List Ch) (x : Lx) (hb : bdX x) : Gives Tryz.prog 45 [txE 0 t, lxE 0 x] (fun _ => i64 (lexEr t x)) := by
  obtain ⟨h1, h2, h3, h4⟩ := hb
  cases ht : textB t with
  | false =>
    have e : lexEr t x = 10 := by unfold lexEr; rw [ht]; rfl
    rw [e]
    refine pure_intro (ow := fun _ => false) Tryz.func45 Tryz.ntmps45 rfl (by kernel_rfl) (by simp) rfl (by decide) fun G hG hOw hNm hB => ?_; simp only [go_sem, hG, hOw]
    refine call_pureA (LCheck_ok t) ?_
    simp (maxSteps := 2000000) only [go_sem, hG, hOw, ht]
    try (repeat' with_reducible first | refine And.intro ?_ ?_ | intro _ | refine exP ?_ ?_); all_goals try omega
  | true =>
    have e : lexEr t x = if lexB t x then 0 else 40 := by unfold lexEr; rw [ht]; rfl
    have hD := allD t ht x.decs h4 h2
    have hR := allR_ok x.rules h1
    rw [e]
    unfold lexB
    refine pure_intro (ow := fun _ => false) Tryz.func45 Tryz.ntmps45 rfl (by kernel_rfl) (by simp) rfl (by decide) fun G hG hOw hNm hB => ?_; simp only [go_sem, hG, hOw]
    refine call_pureA (LCheck_ok t) ?_
    simp (maxSteps := 2000000) only [go_sem, hG, hOw, ht]
    (repeat' with_reducible first | refine And.intro ?_ ?_ | intro _ | refine exP ?_ ?_); all_goals try omega
    refine call_pure hR (by first | exact Subs.refl _ | (repeat' (first | exact Subs.nil | exact Sub.refl _ | exact Sub.lo (Nat.zero_le _) | refine Subs.cons ?_ ?_ | refine Subs.agg ?_ | refine Subs.fp ?_ | refine Subs.tup ?_ | refine Sub.map (Nat.zero_le _) (fun _ => ?_)))) (by first | rfl | simp [allP, all0, pureV, pure0, *]) (by simp [chk, hG]) ?_
    simp only [go_sem, hG, hOw]
    (repeat' with_reducible first | refine And.intro ?_ ?_ | intro _ | refine exP ?_ ?_); all_goals try omega
    refine call_tri [(50, 6), (51, 2), (52, 14)] [] (hD) (by (simp only [go_sem]) <;> simp) (by (simp only [go_sem, entH, entH1, nilArr, obOK]) <;> simp) (by simp [injR, apart, toR]) (by simp [coverR, usH, toR]) (by simp [uniqP, lkR, toR]) (by simp [chk, hG]) ?_
    cases x.rules.all ruleB with
    | false =>
      rw [Bool.and_false, Bool.false_and]
      simp only [go_sem, hG, hOw]
      try (repeat' with_reducible first | refine And.intro ?_ ?_ | intro _ | refine exP ?_ ?_); all_goals try omega
    | true =>
      cases allPre (numsB t) [] x.decs with
      | false =>
        rw [Bool.and_false]
        simp only [go_sem, hG, hOw]
        try (repeat' with_reducible first | refine And.intro ?_ ?_ | intro _ | refine exP ?_ ?_); all_goals try omega
      | true =>
        rw [Bool.and_true, Bool.and_true]
        by_cases q1 : x.rules.length ≤ 12
        · have q1' : ¬ (12 : Int) < x.rules.length := by omega
          rw [decide_eq_true q1, Bool.true_and]
          by_cases q2 : x.decs.length ≤ 20
          · have q2' : ¬ (20 : Int) < x.decs.length := by omega
            rw [decide_eq_true q2, if_pos rfl]
            simp (maxSteps := 2000000) only [go_sem, hG, hOw, decide_false,cond_false,cond_true,q1',q2',decide_eq_false q1',decide_eq_false q2']
            try (repeat' with_reducible first | refine And.intro ?_ ?_ | intro _ | refine exP ?_ ?_); all_goals try omega
          · have q2' : (20 : Int) < x.decs.length := by omega
            rw [decide_eq_false q2, if_neg (by decide)]
            simp (maxSteps := 2000000) only [go_sem, hG, hOw, decide_false,cond_false,cond_true,q1',q2',decide_eq_false q1',decide_eq_true q2']
            try (repeat' with_reducible first | refine And.intro ?_ ?_ | intro _ | refine exP ?_ ?_); all_goals try omega
        · have q1' : (12 : Int) < x.rules.length := by omega
          rw [decide_eq_false q1, Bool.false_and, if_neg (by decide)]
          simp (maxSteps := 2000000) only [go_sem, hG, hOw, q1',decide_eq_true q1']
          try (repeat' with_reducible first | refine And.intro ?_ ?_ | intro _ | refine exP ?_ ?_); all_goals try omega
end Go.Proofs.YtppcbmpiphhphaaGreatDoor
