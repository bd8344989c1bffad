import Derived.Test.YtppcbmpiphhphaaGreatDoorQU19
import Derived.Test.YtppcbmpiphhphaaGreatDoorQU24
import Derived.Test.YtppcbmpiphhphaaGreatDoorQU26
namespace Go.Proofs.YtppcbmpiphhphaaGreatDoor
open Go Pm
set_option linter.unusedSimpArgs false
set_option linter.unusedVariables false
set_option maxHeartbeats 4000000
set_option maxRecDepth 100000
structure Rl where
  cut : ByteArray
  put : ByteArray
  least : Int
structure Dc where
  num : Int
  kind : UInt8
  form : ByteArray
  ch : Int
  ln : Int
  wd : Int
  stem : ByteArray
  mark : UInt8
  of : Int
structure Lx where
  rules : List Rl
  decs : List Dc
def u8 (k : UInt8) : V := .v (.int .u8 k.toNat)
def rlC (r : Rl) : List V := [str r.cut, str r.put, i64 r.least]
def rls (lo : Nat) (l : List Rl) : V := .lst lo 3 (l.map rlC)
def dcC (d : Dc) : List V := [i64 d.num, u8 d.kind, str d.form, i64 d.ch, i64 d.ln, i64 d.wd, str d.stem, u8 d.mark, i64 d.of]
def dcs (lo : Nat) (l : List Dc) : V := .lst lo 9 (l.map dcC)
def lxC (lo : Nat) (x : Lx) : List V := [rls lo x.rules, dcs lo x.decs]
def lxE (lo : Nat) (x : Lx) : V := .agg (lxC lo x)
attribute [go_sem] u8 rlC rls dcC dcs lxC lxE
theorem allOnes_rlC (l : List Rl) : allOnes (l.map rlC) = true := allOnes_map (fun _ => rfl) l
theorem allOnes_dcC (l : List Dc) : allOnes (l.map dcC) = true := allOnes_map (fun _ => rfl) l
attribute [go_sem] allOnes_rlC allOnes_dcC
def lettersB (s : ByteArray) (least : Int) : Bool := inB s.size least 12 && s.data.toList.all letterB
theorem letters_word (s : ByteArray) : lettersB s 1 = wordB s := by unfold lettersB wordB; rw [Bool.and_comm]
theorem letters1_ok (r : Int) : Gives Tryz.prog 110 [.v (.int .i32 r)] (fun _ => bl (decide (r < 97) || decide (122 < r))) := by
  refine pure_intro (ow := fun _ => false) Tryz.func110 Tryz.ntmps110 rfl (by kernel_rfl) (by simp) rfl (by decide) fun G hG hOw hNm hB => ?_; simp only [go_sem, hG, hOw]
  (repeat' with_reducible first | refine And.intro ?_ ?_ | intro _ | refine exP ?_ ?_); all_goals try omega
  · rename_i h; rw [decide_eq_false h]; rfl
  · rename_i h; rw [decide_eq_true h]; rfl
theorem in1St_ok (n lo hi : Int) : Gives Tryz.prog 111 [i64 n, .fp [i64 lo], .fp [i64 hi]] (fun _ => bl (decide (n < lo) || decide (hi < n))) := by
  refine pure_intro (ow := fun _ => false) Tryz.func111 Tryz.ntmps111 rfl (by kernel_rfl) (by simp) rfl (by decide) fun G hG hOw hNm hB => ?_; simp only [go_sem, hG, hOw]
  (repeat' with_reducible first | refine And.intro ?_ ?_ | intro _ | refine exP ?_ ?_); all_goals try omega
  · rename_i h; rw [decide_eq_false h]; rfl
  · rename_i h; rw [decide_eq_true h]; rfl
theorem inSt_ok (lo hi : Int) (l : List Int) : Gives Tryz.prog 80 [i64 lo, i64 hi, .lst 0 1 (l.map intE)] (fun _ => bl (l.all fun n => inB n lo hi)) := by
  refine pure_intro (ow := fun _ => false) Tryz.func80 Tryz.ntmps80 rfl (by kernel_rfl) (by simp) rfl (by decide) fun G hG hOw hNm hB => ?_; simp only [go_sem, hG, hOw]
  refine call_frz (fun i => [3, 4].contains i) ?_
  simp only [go_sem, hG, hOw]
  refine call_pureA (ContainsFunc_Int _ [.fp [i64 lo], .fp [i64 hi]] (fun n => decide (n < lo) || decide (hi < n)) l rfl (fun x _ => in1St_ok x lo hi)) ?_
  simp only [go_sem, hG, hOw]
  rw [List.not_any_eq_all_not]
  congr 1
  funext n
  rw [Bool.eq_iff_iff]; simp [inB]
theorem inSt_one (lo hi n : Int) : Gives Tryz.prog 80 [i64 lo, i64 hi, .lst 0 1 [[i64 n]]] (fun _ => bl (inB n lo hi)) := by
  have := inSt_ok lo hi [n]
  simpa [intE] using this
theorem indexF_ok (s : ByteArray) (hs : s.size ≤ 140737488355328) : Gives Tryz.prog 158 [str s, .fn (.func 110) [], bl true] (fun _ => i64 (idxOf (fun b => !letterB b) s.data.toList)) := by
  have qF : (false == true) = false := rfl
  have qT : (true == true) = true := rfl
  refine pure_intro (ow := fun _ => false) Tryz.func158 Tryz.ntmps158 rfl (by kernel_rfl) (by simp) rfl (by decide) fun G hG hOw hNm hB => ?_; simp only [go_sem, hG, hOw]
  refine rangeS_step (str := s) rfl rfl (by kernel_rfl) rfl (by rw [hG]; decide) (by simp [go_sem]) ?_
  simp only [go_sem, hG, hOw]
  refine semC_loop (fun i : Nat => St.of [(1, .fn (.func 110) []), (2, bl true), (10, .ptr 10 0)] [(10, .obj (.stringIter s i))]) (fun i => i ≤ s.size ∧ (s.data.toList.take i).all letterB = true) (fun i => s.size - i) 0 (by simp) (entA [(10, some 10)]) ?_
  rintro i ⟨hi, hall⟩
  by_cases hil : i < s.size
  · refine vc_sound _ _ _ ?_; simp only [go_sem, hG, hOw]
    refine nextS_step (str := s) (k := 10) (pos := i) rfl (by simp [go_sem]) (by simp [go_sem]) rfl (by rw [hG]; decide) hil ?_
    have hbt := byte_at s i hil
    have hlen : i < s.data.toList.length := by simpa using hil
    have hall2 : (s.data.toList.take i).all (fun b => !(fun b => !letterB b) b) = true := by simpa using hall
    have hbad : letterB s[i] = false → (i : Int) = idxOf (fun b => !letterB b) s.data.toList := fun hb => (idxOf_at hlen hall2 (by simp only [hbt, hb]; rfl)).symm
    by_cases ha : (s[i]'hil).toNat < 128
    · rw [decode_ascii s i hil ha]
      simp only [go_sem, hG, hOw]
      refine call_pureA (letters1_ok (s[i]'hil).toNat) ?_
      cases hb : letterB s[i] with
      | false =>
        have hd : (decide (((s[i]'hil).toNat : Int) < 97) || decide ((122 : Int) < (s[i]'hil).toNat)) = true := by unfold letterB at hb; simp at hb ⊢; omega
        rw [hd]
        simp (maxSteps := 2000000) only [go_sem, hG, hOw, qF, qT]
        try (repeat' with_reducible first | refine And.intro ?_ ?_ | intro _ | refine exP ?_ ?_); all_goals try omega
        rw [hbad hb]
      | true =>
        have hd : (decide (((s[i]'hil).toNat : Int) < 97) || decide ((122 : Int) < (s[i]'hil).toNat)) = false := by unfold letterB at hb; simp at hb ⊢; omega
        rw [hd]
        simp (maxSteps := 2000000) only [go_sem, hG, hOw, qF, qT]
        try (repeat' with_reducible first | refine And.intro ?_ ?_ | intro _ | refine exP ?_ ?_); all_goals try omega
        exact ⟨i + 1, ⟨by omega, all_take_succ hlen hall (by rw [hbt]; exact hb)⟩, by omega, entA [(10, some 10)]⟩
    · have hge := decode_beyond s i hil ha
      obtain ⟨r, hr⟩ : ∃ r, r = (Utf8.decode s i).1 := ⟨_, rfl⟩
      rw [← hr] at hge ⊢
      have hb : letterB s[i] = false := by simp [letterB]; omega
      have hd : (decide ((r : Int) < 97) || decide ((122 : Int) < r)) = true := by simp; omega
      simp only [go_sem, hG, hOw]
      refine call_pureA (letters1_ok r) ?_
      rw [hd]
      simp (maxSteps := 2000000) only [go_sem, hG, hOw, qF, qT]
      try (repeat' with_reducible first | refine And.intro ?_ ?_ | intro _ | refine exP ?_ ?_); all_goals try omega
      rw [hbad hb]
  · obtain rfl : i = s.size := by omega
    refine vc_sound _ _ _ ?_; simp only [go_sem, hG, hOw]
    refine nextS_end (str := s) (k := 10) (pos := s.size) rfl (by simp [go_sem]) (by simp [go_sem]) rfl (by rw [hG]; decide) hil ?_
    simp only [go_sem, hG, hOw]
    rw [List.take_of_length_le (by simp)] at hall
    exact (idxOf_no (by simpa using hall)).symm
theorem ContainsF_ok (s : ByteArray) (hs : s.size ≤ 140737488355328) : Gives Tryz.prog 109 [str s, .fn (.func 110) []] (fun _ => bl (s.data.toList.any fun b => !letterB b)) := by
  have hI : Gives Tryz.prog 135 [str s, .fn (.func 110) []] (fun _ => i64 (idxOf (fun b => !letterB b) s.data.toList)) := by
    refine pure_intro (ow := fun _ => false) Tryz.func135 Tryz.ntmps135 rfl (by kernel_rfl) (by simp) rfl (by decide) fun G hG hOw hNm hB => ?_; simp only [go_sem, hG, hOw]
    refine call_pureA (indexF_ok s hs) ?_
    simp only [go_sem, hG, hOw]
  refine pure_intro (ow := fun _ => false) Tryz.func109 Tryz.ntmps109 rfl (by kernel_rfl) (by simp) rfl (by decide) fun G hG hOw hNm hB => ?_; simp only [go_sem, hG, hOw]
  refine call_pure hI (by first | exact Subs.refl _ | (repeat' (first | exact Subs.nil | exact Sub.refl _ | exact Sub.lo (Nat.zero_le _) | refine Subs.cons ?_ ?_ | refine Subs.agg ?_ | refine Subs.fp ?_ | refine Subs.tup ?_ | refine Sub.map (Nat.zero_le _) (fun _ => ?_)))) (by first | rfl | simp [allP, all0, pureV, pure0, *]) (by simp [chk, hG]) ?_
  simp only [go_sem, hG, hOw]
  rw [idxOf_any]
theorem letters_ok (s : ByteArray) (least : Int) (hs : s.size ≤ 140737488355328) : Gives Tryz.prog 79 [str s, i64 least] (fun _ => bl (lettersB s least)) := by
  refine pure_intro (ow := fun _ => false) Tryz.func79 Tryz.ntmps79 rfl (by kernel_rfl) (by simp) rfl (by decide) fun G hG hOw hNm hB => ?_; simp only [go_sem, hG, hOw]
  refine call_pureA (inSt_one least 12 s.size) ?_
  unfold lettersB
  cases h : inB s.size least 12 with
  | true =>
    simp only [go_sem, hG, hOw]
    (repeat' with_reducible first | refine And.intro ?_ ?_ | intro _ | refine exP ?_ ?_); all_goals try omega
    refine call_pureA (ContainsF_ok s hs) ?_
    simp only [go_sem, hG, hOw]
    rw [List.not_any_eq_all_not]; simp
  | false =>
    simp only [go_sem, hG, hOw]
    try (repeat' with_reducible first | refine And.intro ?_ ?_ | intro _ | refine exP ?_ ?_); all_goals try omega
def headB (stem : ByteArray) (mark : UInt8) : Bool := wordB stem && decide ((mark.toNat : Int) ≤ 3)
theorem stright_ok (stem : ByteArray) (mark : UInt8) (hs : stem.size ≤ 140737488355328) : Gives Tryz.prog 115 [.agg [str stem, u8 mark]] (fun _ => bl (headB stem mark)) := by
  refine pure_intro (ow := fun _ => false) Tryz.func115 Tryz.ntmps115 rfl (by kernel_rfl) (by simp) rfl (by decide) fun G hG hOw hNm hB => ?_; simp only [go_sem, hG, hOw]
  have h := letters_ok stem 1 hs
  rw [letters_word] at h
  refine call_pure h (by first | exact Subs.refl _ | (repeat' (first | exact Subs.nil | exact Sub.refl _ | exact Sub.lo (Nat.zero_le _) | refine Subs.cons ?_ ?_ | refine Subs.agg ?_ | refine Subs.fp ?_ | refine Subs.tup ?_ | refine Sub.map (Nat.zero_le _) (fun _ => ?_)))) (by first | rfl | simp [allP, all0, pureV, pure0, *]) (by simp [chk, hG]) ?_
  simp only [go_sem, hG, hOw]
  unfold headB
  cases wordB stem <;> simp only [go_sem, hG, hOw]
def ruleB (r : Rl) : Bool := lettersB r.cut 1 && lettersB r.put 0 && !decide (r.cut = r.put) && inB r.least 1 12
def bdR (r : Rl) : Prop := r.cut.size ≤ 1000 ∧ r.put.size ≤ 1000
theorem StCheck1_ok (r : Rl) (h : bdR r) : Gives Tryz.prog 78 [.agg (rlC r)] (fun _ => bl (ruleB r)) := by
  obtain ⟨h1, h2⟩ := h
  refine pure_intro (ow := fun _ => false) Tryz.func78 Tryz.ntmps78 rfl (by kernel_rfl) (by simp) rfl (by decide) fun G hG hOw hNm hB => ?_; simp only [go_sem, hG, hOw]
  have c1 := letters_ok r.cut 1 (by omega)
  have c2 := letters_ok r.put 0 (by omega)
  have c3 := inSt_one 1 12 r.least
  unfold ruleB
  refine call_pure c1 (by first | exact Subs.refl _ | (repeat' (first | exact Subs.nil | exact Sub.refl _ | exact Sub.lo (Nat.zero_le _) | refine Subs.cons ?_ ?_ | refine Subs.agg ?_ | refine Subs.fp ?_ | refine Subs.tup ?_ | refine Sub.map (Nat.zero_le _) (fun _ => ?_)))) (by first | rfl | simp [allP, all0, pureV, pure0, *]) (by simp [chk, hG]) ?_
  cases lettersB r.cut 1 with
  | false =>
    simp only [go_sem, hG, hOw]
    try (repeat' with_reducible first | refine And.intro ?_ ?_ | intro _ | refine exP ?_ ?_); all_goals try omega
  | true =>
    simp only [go_sem, hG, hOw]
    (repeat' with_reducible first | refine And.intro ?_ ?_ | intro _ | refine exP ?_ ?_); all_goals try omega
    refine call_pure c2 (by first | exact Subs.refl _ | (repeat' (first | exact Subs.nil | exact Sub.refl _ | exact Sub.lo (Nat.zero_le _) | refine Subs.cons ?_ ?_ | refine Subs.agg ?_ | refine Subs.fp ?_ | refine Subs.tup ?_ | refine Sub.map (Nat.zero_le _) (fun _ => ?_)))) (by first | rfl | simp [allP, all0, pureV, pure0, *]) (by simp [chk, hG]) ?_
    cases lettersB r.put 0 with
    | false =>
      simp only [go_sem, hG, hOw]
      try (repeat' with_reducible first | refine And.intro ?_ ?_ | intro _ | refine exP ?_ ?_); all_goals try omega
    | true =>
      by_cases he : r.cut = r.put
      · rw [decide_eq_true he]
        simp (maxSteps := 2000000) only [go_sem, hG, hOw, decide_eq_true he]
        try (repeat' with_reducible first | refine And.intro ?_ ?_ | intro _ | refine exP ?_ ?_); all_goals try omega
      · rw [decide_eq_false he]
        simp (maxSteps := 2000000) only [go_sem, hG, hOw, decide_eq_false he]
        (repeat' with_reducible first | refine And.intro ?_ ?_ | intro _ | refine exP ?_ ?_); all_goals try omega
        refine call_pure c3 (by first | exact Subs.refl _ | (repeat' (first | exact Subs.nil | exact Sub.refl _ | exact Sub.lo (Nat.zero_le _) | refine Subs.cons ?_ ?_ | refine Subs.agg ?_ | refine Subs.fp ?_ | refine Subs.tup ?_ | refine Sub.map (Nat.zero_le _) (fun _ => ?_)))) (by first | rfl | simp [allP, all0, pureV, pure0, *]) (by simp [chk, hG]) ?_
        simp only [go_sem, hG, hOw]
        try (repeat' with_reducible first | refine And.intro ?_ ?_ | intro _ | refine exP ?_ ?_); all_goals try omega
open Go Pm
set_option maxHeartbeats 4000000
set_option maxRecDepth 100000
theorem allR1_ok (r : Rl) (h : bdR r) : Gives Tryz.prog 108 [.agg (rlC r), .fp [.fn (.func 78) []]] (fun _ => bl (!ruleB r)) := by
  refine pure_intro (ow := fun _ => false) Tryz.func108 Tryz.ntmps108 rfl (by kernel_rfl) (by simp) rfl (by decide) fun G hG hOw hNm hB => ?_; simp only [go_sem, hG, hOw]
  refine call_pureA (StCheck1_ok r h) ?_
  simp only [go_sem, hG, hOw]
theorem IndexR_ok (l : List Rl) (hb : ∀ r ∈ l, bdR r) : Gives Tryz.prog 134 [rls 0 l, .fn (.func 108) [.fp [.fn (.func 78) []]]] (fun _ => i64 (idxOf (fun r => !ruleB r) l)) := by
  refine pure_intro (ow := fun _ => false) Tryz.func134 Tryz.ntmps134 rfl (by kernel_rfl) (by simp) rfl (by decide) fun G hG hOw hNm hB => ?_; simp only [go_sem, hG, hOw]
  have hl := bd_lst hB (List.mem_cons_self ..)
  simp only [List.length_map] at hl
  refine semC_loop (fun i : Nat => St.of [(0, rls 0 l), (1, .fn (.func 108) [.fp [.fn (.func 78) []]]), (7, i64 l.length), (8, i64 i)] []) (fun i => i ≤ l.length ∧ (l.take i).all (fun x => !(fun r => !ruleB r) x) = true) (fun i => l.length - i) 0 (by simp) (ent_of0 (by (simp only [go_sem]) <;> simp) hNm) ?_
  rintro i ⟨hi, hall⟩
  refine vc_sound _ _ _ ?_; simp only [go_sem, hG, hOw]
  (repeat' with_reducible first | refine And.intro ?_ ?_ | intro _ | refine exP ?_ ?_); all_goals try omega
  · rename_i hlt
    have hil : i < l.length := by omega
    refine call_pureA (allR1_ok l[i] (hb _ (List.getElem_mem hil))) ?_
    simp only [go_sem, hG, hOw]
    (repeat' with_reducible first | refine And.intro ?_ ?_ | intro _ | refine exP ?_ ?_); all_goals try omega
    · rename_i hp
      exact (idxOf_at hil hall (by simpa using hp)).symm
    · rename_i hp
      exact ⟨i + 1, ⟨by omega, all_take_succ hil hall (by simpa using hp)⟩, by omega, ent_of0 (by (simp only [go_sem]) <;> simp) hNm⟩
  · rename_i hge
    rw [take_full hi hge] at hall
    exact (idxOf_no hall).symm
theorem allR_ok (l : List Rl) (hb : ∀ r ∈ l, bdR r) : Gives Tryz.prog 77 [rls 0 l, .fn (.func 78) []] (fun _ => bl (l.all ruleB)) := by
  have hC : Gives Tryz.prog 107 [rls 0 l, .fn (.func 108) [.fp [.fn (.func 78) []]]] (fun _ => bl (l.any fun r => !ruleB r)) := by
    refine pure_intro (ow := fun _ => false) Tryz.func107 Tryz.ntmps107 rfl (by kernel_rfl) (by simp) rfl (by decide) fun G hG hOw hNm hB => ?_; simp only [go_sem, hG, hOw]
    refine call_pureA (IndexR_ok l hb) ?_
    simp only [go_sem, hG, hOw]
    rw [idxOf_any]
  refine pure_intro (ow := fun _ => false) Tryz.func77 Tryz.ntmps77 rfl (by kernel_rfl) (by simp) rfl (by decide) fun G hG hOw hNm hB => ?_; simp only [go_sem, hG, hOw]
  refine call_frz (fun i => i == 3) ?_
  simp only [go_sem, hG, hOw]
  refine call_pure hC (by first | exact Subs.refl _ | (repeat' (first | exact Subs.nil | exact Sub.refl _ | exact Sub.lo (Nat.zero_le _) | refine Subs.cons ?_ ?_ | refine Subs.agg ?_ | refine Subs.fp ?_ | refine Subs.tup ?_ | refine Sub.map (Nat.zero_le _) (fun _ => ?_)))) (by first | rfl | simp [allP, all0, pureV, pure0, *]) (by simp [chk, hG]) ?_
  simp only [go_sem, hG, hOw]
  rw [List.not_any_eq_all_not]; simp
end Go.Proofs.YtppcbmpiphhphaaGreatDoor
