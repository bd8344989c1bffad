import Derived.Test.YtagfopbijboajaaGreatDoorQY26
import Derived.Test.YtagfopbijboajaaGreatDoorQY29
import Derived.Test.YtagfopbijboajaaGreatDoorQY34
import Derived.Test.YtagfopbijboajaaGreatDoorQY37
namespace Go.Proofs.YtagfopbijboajaaGreatDoor
open Go Pm
set_option linter.unusedSimpArgs false
set_option linter.unusedVariables false
set_option maxHeartbeats 4000000
set_option maxRecDepth 100000
def offs (ls : List (List ByteArray)) (n : Nat) : Nat := (ls.take n).flatten.length
theorem offs_le (ls : List (List ByteArray)) (n w : Nat) (hn : n < ls.length) (hw : w < ls[n].length) : offs ls n + w < ls.flatten.length := by
  have e : ls.flatten = (ls.take n).flatten ++ (ls[n] ++ (ls.drop (n + 1)).flatten) := by
    conv => lhs; rw [← List.take_append_drop n ls, List.drop_eq_getElem_cons hn]
    rw [List.flatten_append, List.flatten_cons]
  rw [e, List.length_append, List.length_append]
  unfold offs
  omega
theorem atF_at (k : Nat) : ∀ (ls : List (List ByteArray)) (m n w : Nat) (hn : n < ls.length) (hw : w < ls[n].length), (atF k m ls)[offs ls n + w]? = some (k, m + n, w) := by
  intro ls
  induction ls with
  | nil => intro m n w hn; simp at hn
  | cons l r ih =>
    intro m n w hn hw
    cases n with
    | zero =>
      simp only [List.getElem_cons_zero] at hw
      simp only [atF, offs, List.take_zero, List.flatten_nil, List.length_nil, Nat.zero_add, Nat.add_zero]
      rw [List.getElem?_append_left (by simpa using hw), List.getElem?_map, List.getElem?_range hw]; rfl
    | succ n =>
      simp only [List.getElem_cons_succ] at hw
      have h := ih (m + 1) n w (by simpa using hn) hw
      simp only [atF]
      have e : offs (l :: r) (n + 1) = l.length + offs r n := by simp [offs]
      rw [e, List.getElem?_append_right (by simp; omega)]
      simp only [List.length_map, List.length_range]
      rw [show l.length + offs r n + w - l.length = offs r n + w by omega, h]
      rw [show m + 1 + n = m + (n + 1) by omega]
theorem mem_atF (k : Nat) : ∀ (ls : List (List ByteArray)) (m : Nat) (p : Nat × Nat × Nat), p ∈ atF k m ls → m ≤ p.2.1 := by
  intro ls
  induction ls with
  | nil => intro m p h; cases h
  | cons l r ih =>
    intro m p h
    rcases List.mem_append.1 h with h | h
    · simp only [List.mem_map] at h
      obtain ⟨w, _, rfl⟩ := h
      exact Nat.le_refl _
    · have := ih (m + 1) p h; omega
theorem atF_nodup (k : Nat) : ∀ (ls : List (List ByteArray)) (m : Nat), (atF k m ls).Nodup := by
  intro ls
  induction ls with
  | nil => intro m; exact List.nodup_nil
  | cons l r ih =>
    intro m
    rw [atF, List.nodup_append]
    refine ⟨?_, ih (m + 1), fun a ha b hb => ?_⟩
    · unfold List.Nodup
      rw [List.pairwise_map]
      exact List.Pairwise.imp (fun h e => h (by simpa using e)) List.nodup_range
    · simp only [List.mem_map] at ha
      obtain ⟨w, _, rfl⟩ := ha
      have := mem_atF k r (m + 1) b hb
      rintro rfl
      simp at this
      omega
def slAt (c : Cu) (k : Nat) (ls : List (List ByteArray)) (n w : Nat) : Sl := slOf c k ls (offs ls n + w)
theorem textB_bd {t : List Ch} (ht : textB t = true) : t.length ≤ 6 ∧ ∀ ch ∈ t, (ch.lines.length ≤ 10 ∧ 1 ≤ ch.lines.length) ∧ ∀ r ∈ ch.lines, lineB r = true := by
  unfold textB at ht
  simp only [Bool.and_eq_true, inB, decide_eq_true_eq] at ht
  refine ⟨by omega, fun ch hc => ?_⟩
  obtain ⟨k, hk, rfl⟩ := List.getElem_of_mem hc
  have := allPre_at ht.2 hk
  unfold chapB at this
  simp only [Bool.and_eq_true, inB, decide_eq_true_eq] at this
  exact ⟨by omega, fun r hr => List.all_eq_true.1 this.2 r hr⟩
theorem lineB_words {r : List ByteArray} (h : lineB r = true) : r.length ≤ 10 ∧ 1 ≤ r.length ∧ ∀ s ∈ r, s.size ≤ 12 ∧ 1 ≤ s.size := by
  unfold lineB at h
  simp only [Bool.and_eq_true, inB, decide_eq_true_eq] at h
  refine ⟨by omega, by omega, fun s hs => ?_⟩
  have := List.all_eq_true.1 h.2 s hs
  unfold wordB at this
  simp only [Bool.and_eq_true, inB, decide_eq_true_eq] at this
  omega
theorem chap_words {t : List Ch} (ht : textB t = true) (k : Nat) (hk : k < t.length) : t[k].lines.length ≤ 10 ∧ (∀ r ∈ t[k].lines, r.length ≤ 10) ∧ (∀ s ∈ t[k].lines.flatten, s.size ≤ 12) ∧ t[k].lines.flatten.length ≤ 600 := by
  obtain ⟨_, h⟩ := textB_bd ht
  obtain ⟨h1, h2⟩ := h _ (List.getElem_mem hk)
  refine ⟨h1.1, fun r hr => (lineB_words (h2 r hr)).1, fun s hs => ?_, flatten_bd _ (by omega) fun r hr => by have := (lineB_words (h2 r hr)).1; omega⟩
  obtain ⟨r, hr, hs⟩ := List.mem_flatten.1 hs
  exact ((lineB_words (h2 r hr)).2.2 s hs).1
theorem made_ok (t : List Ch) (ht : textB t = true) (c : Cu) (hc : cutB c = true) (k : Nat) (hk : k < t.length) (n w : Nat) (hn : n < t[k].lines.length) (hw : w < t[k].lines[n].length) :
    Gives Tryz.prog 83 [txE 0 t, .agg (cuC c), .agg (pl3 (k, n, w))] (fun _ => .tup [.agg (slC (slAt c k t[k].lines n w)), bl true]) := by
  obtain ⟨b1, b2, b3, b4⟩ := chap_words ht k hk
  have ht6 := (textB_bd ht).1
  have hc2 := hc
  simp only [cutB, Bool.and_eq_true] at hc2
  have hcw : 12 ≤ c.w ∧ c.w ≤ 80 := by simp only [inB, Bool.and_eq_true, decide_eq_true_eq] at hc2; omega
  have hR := runs_ok t c k hk (by omega) (fun r hr => by have := b2 r hr; omega)
  have hi := offs_le t[k].lines n w hn hw
  have hal := atF_len k t[k].lines 0
  have hat := atF_at k t[k].lines 0 n w hn hw
  have hS := slip_ok c k t[k].lines hc2.2 (by omega) b3 (by omega) _ hi
  have hia : offs t[k].lines n + w < (atF k 0 t[k].lines).length := by omega
  rw [List.getElem?_eq_getElem hia, Option.some.injEq, Nat.zero_add] at hat
  have hI := IndexP_ok (atF k 0 t[k].lines) (by omega) (offs t[k].lines n + w) hia (fun j hj hlt e => by
    have := (List.getElem_inj (atF_nodup k t[k].lines 0)).1 e
    omega)
  rw [hat] at hI
  unfold slAt
  obtain ⟨ls, hls⟩ : ∃ ls, ls = t[k].lines := ⟨_, rfl⟩
  rw [← hls] at hR hI hS ⊢
  refine pure_intro (ow := fun _ => false) Tryz.func83 Tryz.ntmps83 rfl (by kernel_rfl) (by simp) rfl (by decide) fun G hG hOw hNm hB => ?_; simp only [go_sem, hG, hOw]
  (repeat' with_reducible first | refine And.intro ?_ ?_ | intro _ | refine exP ?_ ?_); all_goals try omega
  refine call_pureA (inS_one 0 (t.length - 1) k) ?_
  have e1 : inB k 0 (t.length - 1) = true := by simp [inB]; omega
  simp (maxSteps := 2000000) only [go_sem, hG, hOw, e1]
  (repeat' with_reducible first | refine And.intro ?_ ?_ | intro _ | refine exP ?_ ?_); all_goals try omega
  refine call_pure hR (by first | exact Subs.refl _ | (repeat' (first | exact Subs.nil | exact Sub.refl _ | exact Sub.lo (Nat.zero_le _) | refine Subs.cons ?_ ?_ | refine Subs.agg ?_ | refine Subs.fp ?_ | refine Subs.tup ?_ | refine Sub.map (Nat.zero_le _) (fun _ => ?_)))) (by first | rfl | simp [allP, all0, pureV, pure0, *]) (by simp [chk, hG]) ?_
  simp only [go_sem, hG, hOw]
  (repeat' with_reducible first | refine And.intro ?_ ?_ | intro _ | refine exP ?_ ?_); all_goals try omega
  refine call_pure hI (by first | exact Subs.refl _ | (repeat' (first | exact Subs.nil | exact Sub.refl _ | exact Sub.lo (Nat.zero_le _) | refine Subs.cons ?_ ?_ | refine Subs.agg ?_ | refine Subs.fp ?_ | refine Subs.tup ?_ | refine Sub.map (Nat.zero_le _) (fun _ => ?_)))) (by first | rfl | simp [allP, all0, pureV, pure0, *]) (by simp [chk, hG]) ?_
  simp only [go_sem, hG, hOw]
  (repeat' with_reducible first | refine And.intro ?_ ?_ | intro _ | refine exP ?_ ?_); all_goals try omega
  refine call_pure hS (by first | exact Subs.refl _ | (repeat' (first | exact Subs.nil | exact Sub.refl _ | exact Sub.lo (Nat.zero_le _) | refine Subs.cons ?_ ?_ | refine Subs.agg ?_ | refine Subs.fp ?_ | refine Subs.tup ?_ | refine Sub.map (Nat.zero_le _) (fun _ => ?_)))) (by first | rfl | simp [allP, all0, pureV, pure0, *]) (by simp [chk, hG]) ?_
  simp only [go_sem, hG, hOw]
  (repeat' with_reducible first | refine And.intro ?_ ?_ | intro _ | refine exP ?_ ?_); all_goals try omega
theorem Make_ok (t : List Ch) (ht : textB t = true) (c : Cu) (hc : cutB c = true) (k : Nat) (hk : k < t.length) (n w : Nat) (hn : n < t[k].lines.length) (hw : w < t[k].lines[n].length) :
    Gives Tryz.prog 52 [txE 0 t, .agg (cuC c), .agg (pl3 (k, n, w))] (fun _ => .tup [.agg (slC (slAt c k t[k].lines n w)), i64 0]) := by
  have hM := made_ok t ht c hc k hk n w hn hw
  have hc2 := hc
  simp only [cutB, inB, Bool.and_eq_true, decide_eq_true_eq] at hc2
  have hO := Sopen_ok t c (by omega)
  rw [show openE t c = 0 by simp [openE, ht, hc]] at hO
  refine pure_intro (ow := fun _ => false) Tryz.func52 Tryz.ntmps52 rfl (by kernel_rfl) (by simp) rfl (by decide) fun G hG hOw hNm hB => ?_; simp only [go_sem, hG, hOw]
  refine call_pure hO (by first | exact Subs.refl _ | (repeat' (first | exact Subs.nil | exact Sub.refl _ | exact Sub.lo (Nat.zero_le _) | refine Subs.cons ?_ ?_ | refine Subs.agg ?_ | refine Subs.fp ?_ | refine Subs.tup ?_ | refine Sub.map (Nat.zero_le _) (fun _ => ?_)))) (by first | rfl | simp [allP, all0, pureV, pure0, *]) (by simp [chk, hG]) ?_
  simp only [go_sem, hG, hOw]
  (repeat' with_reducible first | refine And.intro ?_ ?_ | intro _ | refine exP ?_ ?_); all_goals try omega
  refine call_pure hM (by first | exact Subs.refl _ | (repeat' (first | exact Subs.nil | exact Sub.refl _ | exact Sub.lo (Nat.zero_le _) | refine Subs.cons ?_ ?_ | refine Subs.agg ?_ | refine Subs.fp ?_ | refine Subs.tup ?_ | refine Sub.map (Nat.zero_le _) (fun _ => ?_)))) (by first | rfl | simp [allP, all0, pureV, pure0, *]) (by simp [chk, hG]) ?_
  simp only [go_sem, hG, hOw]
  (repeat' with_reducible first | refine And.intro ?_ ?_ | intro _ | refine exP ?_ ?_); all_goals try omega
open Go Pm
set_option maxHeartbeats 4000000
set_option maxRecDepth 100000
def idxI (l : List Int) (v : Int) (k : Nat) : Int := match l with
  | [] => -1
  | x :: r => if x = v then k else idxI r v (k + 1)
theorem idxI_ge (l : List Int) (v : Int) (k : Nat) : decide (0 ≤ idxI l v k) = l.any (fun x => decide (x = v)) := by
  induction l generalizing k with
  | nil => simp [idxI]
  | cons x r ih =>
    unfold idxI
    by_cases h : x = v
    · simp [h]
    · rw [if_neg h, ih]; simp [h]
theorem IndexI_ok (l : List Int) (v : Int) : Gives Tryz.prog 81 [ints 0 l, i64 v] (fun _ => i64 (idxI l v 0)) := by
  refine pure_intro (ow := fun _ => false) Tryz.func81 Tryz.ntmps81 rfl (by kernel_rfl) (by simp) rfl (by decide) fun G hG hOw hNm hB => ?_; simp only [go_sem, hG, hOw]
  have hl := bd_lst hB (List.mem_cons_self ..)
  simp only [List.length_map] at hl
  (repeat' with_reducible first | refine And.intro ?_ ?_ | intro _ | refine exP ?_ ?_); all_goals try omega
  refine semC_loop (fun k : Nat => St.of [(0, ints 0 l), (1, i64 v), (6, ints 0 l), (7, i64 l.length), (8, i64 k)] []) (fun k => k ≤ l.length ∧ idxI l v 0 = idxI (l.drop k) v k) (fun k => l.length - k) 0 (by simp) (ent_of0 (by (simp only [go_sem]) <;> simp) hNm) ?_
  rintro k ⟨hk, hall⟩
  refine vc_sound _ _ _ ?_; simp only [go_sem, hG, hOw]
  (repeat' with_reducible first | refine And.intro ?_ ?_ | intro _ | refine exP ?_ ?_); all_goals try omega
  · rename_i hlt h2
    have hkl : k < l.length := by omega
    rw [List.drop_eq_getElem_cons hkl, idxI] at hall
    rw [hall, if_pos h2.symm]
  · rename_i hlt h2
    have hkl : k < l.length := by omega
    rw [List.drop_eq_getElem_cons hkl, idxI] at hall
    rw [if_neg (fun e => h2 e.symm)] at hall
    exact ⟨k + 1, ⟨by omega, hall⟩, by omega, ent_of0 (by (simp only [go_sem]) <;> simp) hNm⟩
  · rename_i hge
    obtain rfl : k = l.length := by omega
    rw [List.drop_length, idxI] at hall
    rw [hall]
theorem ContainsI_ok (l : List Int) (v : Int) : Gives Tryz.prog 51 [ints 0 l, i64 v] (fun _ => bl (l.any fun x => decide (x = v))) := by
  refine pure_intro (ow := fun _ => false) Tryz.func51 Tryz.ntmps51 rfl (by kernel_rfl) (by simp) rfl (by decide) fun G hG hOw hNm hB => ?_; simp only [go_sem, hG, hOw]
  refine call_pureA (IndexI_ok l v) ?_
  simp only [go_sem, hG, hOw]
  rw [idxI_ge]
def sureB (r : Ro) (A : List Int) (i : Nat) : Bool := match r.sheets[i]? with
  | some x => x.back && !(A.any fun y => decide (y = (i : Int)))
  | none => false
theorem Doubt1_ok (r : Ro) (hr : Good r) (A : List Int) (i : Nat) (hi : i < r.shares.length) : Gives Tryz.prog 50 [i64 i, .fp [.fp (dkC 0 r)], .fp [ints 0 A]] (fun _ => bl (sureB r A i)) := by
  have hxn := hr.xn
  have hix : i < r.sheets.length := by omega
  have hsn := hr.sn
  unfold sureB
  rw [List.getElem?_eq_getElem hix]
  refine pure_intro (ow := fun _ => false) Tryz.func50 Tryz.ntmps50 rfl (by kernel_rfl) (by simp) rfl (by decide) fun G hG hOw hNm hB => ?_; simp only [go_sem, hG, hOw]
  (repeat' with_reducible first | refine And.intro ?_ ?_ | intro _ | refine exP ?_ ?_); all_goals try omega
  · rename_i h
    refine call_pureA (ContainsI_ok A i) ?_
    simp only [go_sem, hG, hOw]
    (repeat' with_reducible first | refine And.intro ?_ ?_ | intro _ | refine exP ?_ ?_); all_goals try omega
    all_goals simp [h]
  · rename_i h
    simp [h]
def lineSl (c : Cu) (k : Nat) (ls : List (List ByteArray)) (j m : Nat) : List Sl := (List.range m).map fun w => slAt c k ls j w
theorem lineSl_zero (c : Cu) (k : Nat) (ls : List (List ByteArray)) (j : Nat) : lineSl c k ls j 0 = [] := rfl
theorem lineSl_succ (c : Cu) (k : Nat) (ls : List (List ByteArray)) (j m : Nat) : lineSl c k ls j (m + 1) = lineSl c k ls j m ++ [slAt c k ls j m] := by
  unfold lineSl
  rw [List.range_succ, List.map_append]; rfl
def lnSl (c : Cu) (t : List Ch) (n : Nat) : List Sl := match (plc 0 t)[n]? with
  | some p => match t[p.1]? with
    | some ch => match ch.lines[p.2]? with
      | some l => lineSl c p.1 ch.lines p.2 l.length
      | none => []
    | none => []
  | none => []
def dbtL (c : Cu) (t : List Ch) (f : Nat → Bool) : Nat → List Sl
  | 0 => []
  | n + 1 => dbtL c t f n ++ if f n = true then lnSl c t n else []
theorem plc_line : ∀ (t : List Ch) (m n k j : Nat), (plc m t)[n]? = some (k, j) → m ≤ k ∧ ∃ (hk : k - m < t.length) (hj : j < t[k - m].lines.length), (linesL t)[n]? = some t[k - m].lines[j] := by
  intro t
  induction t with
  | nil => intro m n k j h; simp [plc] at h
  | cons ch r ih =>
    intro m n k j h
    simp only [plc] at h
    have eL : linesL (ch :: r) = ch.lines ++ linesL r := by simp [linesL]
    by_cases hn : n < ch.lines.length
    · rw [List.getElem?_append_left (by simpa using hn), List.getElem?_map, List.getElem?_range hn] at h
      simp only [Option.map_some, Option.some.injEq, Prod.mk.injEq] at h
      obtain ⟨rfl, rfl⟩ := h
      refine ⟨Nat.le_refl _, by simp, by simpa using hn, ?_⟩
      rw [eL, List.getElem?_append_left hn, List.getElem?_eq_getElem hn]
      simp
    · rw [List.getElem?_append_right (by simp; omega)] at h
      simp only [List.length_map, List.length_range] at h
      obtain ⟨h1, h2, h3, h4⟩ := ih (m + 1) _ k j h
      have e : k - m = (k - (m + 1)) + 1 := by omega
      refine ⟨by omega, by simp; omega, ?_, ?_⟩
      · simp only [e, List.getElem_cons_succ]; exact h3
      · rw [eL, List.getElem?_append_right (by omega), h4]
        simp only [e, List.getElem_cons_succ]
theorem lnSl_at (c : Cu) (t : List Ch) (n k j : Nat) (h : (plc 0 t)[n]? = some (k, j)) : ∃ (hk : k < t.length) (hj : j < t[k].lines.length), (linesL t)[n]? = some t[k].lines[j] ∧ lnSl c t n = lineSl c k t[k].lines j t[k].lines[j].length := by
  obtain ⟨_, h1, h2, h3⟩ := plc_line t 0 n k j h
  simp only [Nat.sub_zero] at h1 h2 h3
  refine ⟨h1, h2, h3, ?_⟩
  unfold lnSl
  rw [h]
  simp only [List.getElem?_eq_getElem h1, List.getElem?_eq_getElem h2]
theorem dbtL_len (c : Cu) (t : List Ch) (ht : textB t = true) (f : Nat → Bool) : ∀ n, (dbtL c t f n).length ≤ 10 * n := by
  intro n
  induction n with
  | zero => simp [dbtL]
  | succ n ih =>
    unfold dbtL
    rw [List.length_append]
    have : (if f n = true then lnSl c t n else []).length ≤ 10 := by
      split
      · cases h : (plc 0 t)[n]? with
        | none => simp [lnSl, h]
        | some p =>
          obtain ⟨k, j⟩ := p
          obtain ⟨h1, h2, _, h4⟩ := lnSl_at c t n k j h
          rw [h4]
          have := (chap_words ht k h1).2.1 _ (List.getElem_mem h2)
          simpa [lineSl] using this
      · simp
    omega
def leftD (r : Ro) (n : Nat) : Bool := (leftL (linesL r.text).length r.shares (sureB r (againP r)) r.shares.length).any fun x => decide (x = (n : Int))
def doubtE (r : Ro) (c : Cu) : Int := if roundE r = 0 then if cutB c then 0 else 30 else roundE r
def doubtL (r : Ro) (c : Cu) : List Sl := if roundE r = 0 then if cutB c then dbtL c r.text (leftD r) (linesL r.text).length else [] else []
theorem Doubt_ok (r : Ro) (hr : OKr r) (c : Cu) (hs : 0 ≤ c.s ∧ c.s ≤ 255) : Gives Tryz.prog 22 [roE 0 r, .agg (cuC c)] (fun n => .tup [sls n (doubtL r c), i64 (doubtE r c)]) := by
  unfold doubtE doubtL
  by_cases he : roundE r = 0
  · have hg := good_of hr he
    have hll := hg.ll
    have hsn := hg.sn
    have ht : textB r.text = true := by
      cases h : textB r.text with
      | true => rfl
      | false => simp [roundE, h] at he
    rw [if_pos he, if_pos he]
    have hCk := SCheck_ok c hs
    cases hc : cutB c with
    | false =>
      rw [hc] at hCk
      simp only [Bool.false_eq_true, if_false] at hCk ⊢
      refine pure_intro (ow := fun _ => false) Tryz.func22 Tryz.ntmps22 rfl (by kernel_rfl) (by simp) rfl (by decide) fun G hG hOw hNm hB => ?_; simp only [go_sem, hG, hOw]
      refine call_pureA (open_good r hr he) ?_
      simp only [go_sem, hG, hOw]
      (repeat' with_reducible first | refine And.intro ?_ ?_ | intro _ | refine exP ?_ ?_); all_goals try omega
      refine call_pure hCk (by first | exact Subs.refl _ | (repeat' (first | exact Subs.nil | exact Sub.refl _ | exact Sub.lo (Nat.zero_le _) | refine Subs.cons ?_ ?_ | refine Subs.agg ?_ | refine Subs.fp ?_ | refine Subs.tup ?_ | refine Sub.map (Nat.zero_le _) (fun _ => ?_)))) (by first | rfl | simp [allP, all0, pureV, pure0, *]) (by simp [chk, hG]) ?_
      simp only [go_sem, hG, hOw]
      (repeat' with_reducible first | refine And.intro ?_ ?_ | intro _ | refine exP ?_ ?_); all_goals try omega
      all_goals exact Subs.tup (.cons (.nil _ _) (.cons (.refl _) .nil))
    | true =>
      rw [hc] at hCk
      simp only [if_true] at hCk ⊢
      have hA := hagain_ok r hg
      have eA : againP r = numsL (fun i => decide (getI (bestI r) i = 0)) (bestI r).length := by unfold againP; rw [if_pos he]
      rw [← eA] at hA
      obtain ⟨f, hf⟩ : ∃ f, f = leftD r := ⟨_, rfl⟩
      have hf2 : ∀ n : Nat, ((leftL (linesL r.text).length r.shares (sureB r (againP r)) r.shares.length).any fun x => decide (x = (n : Int))) = f n := fun n => by rw [hf]; rfl
      rw [← hf]
      have hpl := plc_len r.text 0
      have hU := uncovered_ok r hg (.func 50) [.fp [.fp (dkC 0 r)], .fp [ints 0 (againP r)]] rfl (sureB r (againP r)) (fun i hi G o s Q rest hc h => call_pure (Doubt1_ok r hg (againP r) i hi) (Subs.refl _) rfl hc h)
      generalize leftL (linesL r.text).length r.shares (sureB r (againP r)) r.shares.length = LL at hU hf2
      refine pure_intro (ow := fun _ => false) Tryz.func22 Tryz.ntmps22 rfl (by kernel_rfl) (by simp) rfl (by decide) fun G hG hOw hNm hB => ?_; simp only [go_sem, hG, hOw]
      refine call_pureA (open_good r hr he) ?_
      simp only [go_sem, hG, hOw]
      (repeat' with_reducible first | refine And.intro ?_ ?_ | intro _ | refine exP ?_ ?_); all_goals try omega
      refine call_pure hCk (by first | exact Subs.refl _ | (repeat' (first | exact Subs.nil | exact Sub.refl _ | exact Sub.lo (Nat.zero_le _) | refine Subs.cons ?_ ?_ | refine Subs.agg ?_ | refine Subs.fp ?_ | refine Subs.tup ?_ | refine Sub.map (Nat.zero_le _) (fun _ => ?_)))) (by first | rfl | simp [allP, all0, pureV, pure0, *]) (by simp [chk, hG]) ?_
      simp only [go_sem, hG, hOw]
      (repeat' with_reducible first | refine And.intro ?_ ?_ | intro _ | refine exP ?_ ?_); all_goals try omega
      refine call_pure hA (by first | exact Subs.refl _ | (repeat' (first | exact Subs.nil | exact Sub.refl _ | exact Sub.lo (Nat.zero_le _) | refine Subs.cons ?_ ?_ | refine Subs.agg ?_ | refine Subs.fp ?_ | refine Subs.tup ?_ | refine Sub.map (Nat.zero_le _) (fun _ => ?_)))) (by first | rfl | simp [allP, all0, pureV, pure0, *]) (by simp [chk, hG]) ?_
      simp only [go_sem, hG, hOw]
      (repeat' with_reducible first | refine And.intro ?_ ?_ | intro _ | refine exP ?_ ?_); all_goals try omega
      refine call_frz (fun i => [6, 9].contains i) ?_
      simp only [go_sem, hG, hOw]
      have hS : Pm.Sub (.fp (dkC G.lo r)) (.fp (dkC 0 r)) := by first | exact Subs.refl _ | (repeat' (first | exact Subs.nil | exact Sub.refl _ | exact Sub.lo (Nat.zero_le _) | refine Subs.cons ?_ ?_ | refine Subs.agg ?_ | refine Subs.fp ?_ | refine Subs.tup ?_ | refine Sub.map (Nat.zero_le _) (fun _ => ?_)))
      simp only [go_sem] at hS
      have hS2 : Pm.Sub (.fp [.fp (dkC G.lo r)]) (.fp [.fp (dkC 0 r)]) := by first | exact Subs.refl _ | (repeat' (first | exact Subs.nil | exact Sub.refl _ | exact Sub.lo (Nat.zero_le _) | refine Subs.cons ?_ ?_ | refine Subs.agg ?_ | refine Subs.fp ?_ | refine Subs.tup ?_ | refine Sub.map (Nat.zero_le _) (fun _ => ?_)))
      simp only [go_sem] at hS2
      have hS3 : Pm.Sub (.fp [ints G.lo (againP r)]) (.fp [ints 0 (againP r)]) := by first | exact Subs.refl _ | (repeat' (first | exact Subs.nil | exact Sub.refl _ | exact Sub.lo (Nat.zero_le _) | refine Subs.cons ?_ ?_ | refine Subs.agg ?_ | refine Subs.fp ?_ | refine Subs.tup ?_ | refine Sub.map (Nat.zero_le _) (fun _ => ?_)))
      simp only [go_sem] at hS3
      have hS4 : Pm.Sub (.lst G.lo 3 ((plc 0 r.text).map plE)) (.lst 0 3 ((plc 0 r.text).map plE)) := .lo (Nat.zero_le _)
      refine call_tri [] [(0, 80)] (hU) (by (simp only [go_sem]) <;> simp [hS,hS2,hS3]) (by (simp only [go_sem, entH, entH1, nilArr, obOK]) <;> simp [hS,hS2,hS3]) (by simp [injR, apart, toR]) (by simp [coverR, usH, toR, hS,hS2,hS3]) (by simp [uniqP, lkR, toR]) (by simp [chk, hG]) ?_
      simp only [go_sem, hG, hOw]
      refine semC_loop (fun n : Nat => St.of [(2, .ptr 2 0), (3, .ptr 3 0), (6, .fp [.fp (dkC 0 r)]), (10, .mp 80), (11, .own 30 0 (dbtL c r.text f n).length 6), (38, .lst 0 3 ((plc 0 r.text).map plE)), (39, i64 (plc 0 r.text).length), (40, i64 n)] [(2, .box (roC 0 r)), (3, .box (cuC c)), (80, .map (.int .i64) (idsM LL)), (30, .arr 110 6 ((dbtL c r.text f n).map slC))]) (fun n => n ≤ (plc 0 r.text).length) (fun n => (plc 0 r.text).length - n) 0 (by simp) (entA [(2, some 2), (3, some 3), (80, some 80), (30, none)] (by (simp only [go_sem]) <;> simp [hS,hS2,hS4,dbtL]) (by (simp only [go_sem, entH, entH1, nilArr, obOK]) <;> simp [hS,hS2,hS4,dbtL])) ?_
      rintro n hn
      have hdl := dbtL_len c r.text ht f n
      refine vc_sound _ _ _ ?_
      simp (maxSteps := 2000000) only [go_sem, hG, hOw, lkM_ids, hf2]
      (repeat' with_reducible first | refine And.intro ?_ ?_ | intro _ | refine exP ?_ ?_); all_goals try omega
      · rename_i hlt hfn
        have e : dbtL c r.text f (n + 1) = dbtL c r.text f n := by simp [dbtL, hfn]
        refine ⟨n + 1, by omega, by omega, ?_⟩
        rw [e]
        exact entA [(2, some 2), (3, some 3), (80, some 80), (30, some 30)]
      · rename_i hlt hfn
        have hnl : n < (plc 0 r.text).length := by omega
        obtain ⟨k, j, hkj⟩ : ∃ k j, (plc 0 r.text)[n] = (k, j) := ⟨_, _, rfl⟩
        obtain ⟨hk, hj, hL1, hL2⟩ := lnSl_at c r.text n k j (by rw [List.getElem?_eq_getElem hnl, hkj])
        have hnL : n < (linesL r.text).length := by omega
        rw [List.getElem?_eq_getElem hnL, Option.some.injEq] at hL1
        obtain ⟨m, hm⟩ : ∃ m, m = (r.text[k].lines[j]).length := ⟨_, rfl⟩
        have hm10 := (chap_words ht k hk).2.1 _ (List.getElem_mem hj)
        have hmL : ((linesL r.text)[n]).length = m := by rw [hL1, hm]
        have hend : dbtL c r.text f (n + 1) = dbtL c r.text f n ++ lineSl c k r.text[k].lines j m := by
          conv => lhs; unfold dbtL
          rw [if_pos hfn, hL2, hm]
        obtain ⟨ls, hls⟩ : ∃ ls, ls = r.text[k].lines := ⟨_, rfl⟩
        rw [← hls] at hend
        refine semC_loop (fun w : Nat => St.of [(2, .ptr 2 0), (3, .ptr 3 0), (6, .fp [.fp (dkC 0 r)]), (10, .mp 80), (11, .own 30 0 (dbtL c r.text f n ++ lineSl c k ls j w).length 6), (12, i64 n), (13, .ptr 13 0), (38, .lst 0 3 ((plc 0 r.text).map plE)), (39, i64 (plc 0 r.text).length), (40, i64 n), (56, i64 m), (57, i64 w)] [(2, .box (roC 0 r)), (3, .box (cuC c)), (80, .map (.int .i64) (idsM LL)), (13, .box [i64 k, i64 j, .any]), (30, .arr 110 6 ((dbtL c r.text f n ++ lineSl c k ls j w).map slC))]) (fun w => w ≤ m) (fun w => m - w) 0 (by simp) (entA [(2, some 2), (3, some 3), (80, some 80), (13, some 13), (30, some 30)] (by (simp only [go_sem]) <;> simp [hkj,hmL,lineSl_zero]) (by (simp only [go_sem, entH, entH1, nilArr, obOK]) <;> simp [hkj,hmL,lineSl_zero])) ?_
        rintro w hw
        have hsl : (lineSl c k ls j w).length = w := by simp [lineSl]
        refine vc_sound _ _ _ ?_; simp only [go_sem, hG, hOw]
        (repeat' with_reducible first | refine And.intro ?_ ?_ | intro _ | refine exP ?_ ?_); all_goals try omega
        · rename_i hlt2
          have hwm : w < r.text[k].lines[j].length := by omega
          refine call_pureA (Make_ok r.text ht c hc k hk j w hj hwm) ?_
          rw [← hls]
          have e2 := lineSl_succ c k ls j w
          simp only [go_sem, hG, hOw]
          (repeat' with_reducible first | refine And.intro ?_ ?_ | intro _ | refine exP ?_ ?_); all_goals try omega
          refine ⟨w + 1, by omega, by omega, ?_⟩
          rw [e2, ← List.append_assoc]
          exact entA [(2, some 2), (3, some 3), (80, some 80), (13, some 13), (30, some 73)] (by (simp only [go_sem]) <;> simp [slC,i64,Nat.add_assoc]) (by (simp only [go_sem, entH, entH1, nilArr, obOK]) <;> simp [slC,i64,Nat.add_assoc])
        · rename_i hge2
          obtain rfl : w = m := by omega
          refine ⟨n + 1, by omega, by omega, ?_⟩
          rw [hend]
          exact entA [(2, some 2), (3, some 3), (80, some 80), (30, some 30)]
      · rename_i hge
        rw [show (linesL r.text).length = n by omega]
        exact .refl _
  · rw [if_neg he, if_neg he]
    refine pure_intro (ow := fun _ => false) Tryz.func22 Tryz.ntmps22 rfl (by kernel_rfl) (by simp) rfl (by decide) fun G hG hOw hNm hB => ?_; simp only [go_sem, hG, hOw]
    refine call_pureA (open_bad r hr he) ?_
    simp only [go_sem, hG, hOw]
    (repeat' with_reducible first | refine And.intro ?_ ?_ | intro _ | refine exP ?_ ?_); all_goals try omega
    all_goals exact Subs.tup (.cons (.nil _ _) (.cons (.refl _) .nil))
end Go.Proofs.YtagfopbijboajaaGreatDoor
