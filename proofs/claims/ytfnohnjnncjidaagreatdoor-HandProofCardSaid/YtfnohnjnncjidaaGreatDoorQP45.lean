import Derived.Test.YtfnohnjnncjidaaGreatDoorQP34
import Derived.Test.YtfnohnjnncjidaaGreatDoorQP38
import Derived.Test.YtfnohnjnncjidaaGreatDoorQP39
import Derived.Test.YtfnohnjnncjidaaGreatDoorQP44
namespace Go.Proofs.YtfnohnjnncjidaaGreatDoor
open Go Pm
set_option linter.unusedSimpArgs false
set_option linter.unusedVariables false
set_option maxHeartbeats 4000000
set_option maxRecDepth 100000
def idxI (l : List Int) (v : Int) (k : Nat) : Int := match l with
  | [] => -1
  | x :: r => if x = v then k else idxI r v (k + 1)
theorem idxI_ge (l : List Int) (v : Int) (k : Nat) : decide (0 ≤ idxI l v k) = l.any (fun x => decide (x = v)) := by
  induction l generalizing k with
  | nil => simp [idxI]
  | cons x r ih =>
    unfold idxI
    by_cases h : x = v
    · simp [h]
    · rw [if_neg h, ih]; simp [h]
theorem IndexI_ok (l : List Int) (v : Int) : Gives Tryz.prog 114 [ints 0 l, i64 v] (fun _ => i64 (idxI l v 0)) := by
  refine pure_intro (ow := fun _ => false) Tryz.func114 Tryz.ntmps114 rfl (by kernel_rfl) (by simp) rfl (by decide) fun G hG hOw hNm hB => ?_; simp only [go_sem, hG, hOw]
  have hl := bd_lst hB (List.mem_cons_self ..)
  simp only [List.length_map] at hl
  (repeat' (first | (with_reducible refine And.intro ?_ ?_) | (with_reducible intro _) | (with_reducible refine exP ?_ ?_))); all_goals (try omega)
  refine semC_loop (fun k : Nat => St.of [(0, ints 0 l), (1, i64 v), (6, ints 0 l), (7, i64 l.length), (8, i64 k)] []) (fun k => k ≤ l.length ∧ idxI l v 0 = idxI (l.drop k) v k) (fun k => l.length - k) 0 (by simp) (ent_of0 (by (simp only [go_sem]) <;> simp) hNm) ?_
  rintro k ⟨hk, hall⟩
  refine vc_sound _ _ _ ?_; simp only [go_sem, hG, hOw]
  (repeat' (first | (with_reducible refine And.intro ?_ ?_) | (with_reducible intro _) | (with_reducible refine exP ?_ ?_))); all_goals (try omega)
  · rename_i hlt h2
    have hkl : k < l.length := by omega
    rw [List.drop_eq_getElem_cons hkl, idxI] at hall
    rw [hall, if_pos h2.symm]
  · rename_i hlt h2
    have hkl : k < l.length := by omega
    rw [List.drop_eq_getElem_cons hkl, idxI] at hall
    rw [if_neg (fun e => h2 e.symm)] at hall
    exact ⟨k + 1, ⟨by omega, hall⟩, by omega, ent_of0 (by (simp only [go_sem]) <;> simp) hNm⟩
  · rename_i hge
    obtain rfl : k = l.length := by omega
    rw [List.drop_length, idxI] at hall
    rw [hall]
theorem ContainsI_ok (l : List Int) (v : Int) : Gives Tryz.prog 67 [ints 0 l, i64 v] (fun _ => bl (l.any fun x => decide (x = v))) := by
  refine pure_intro (ow := fun _ => false) Tryz.func67 Tryz.ntmps67 rfl (by kernel_rfl) (by simp) rfl (by decide) fun G hG hOw hNm hB => ?_; simp only [go_sem, hG, hOw]
  refine call_pure (IndexI_ok l v) (by first | exact Subs.refl _ | (repeat' (first | exact Subs.nil | exact Sub.refl _ | exact Sub.lo (Nat.zero_le _) | refine Subs.cons ?_ ?_ | refine Subs.agg ?_ | refine Subs.fp ?_ | refine Subs.tup ?_ | refine Sub.map (Nat.zero_le _) (fun _ => ?_)))) (by first | rfl | simp [allP, all0, pureV, pure0, *]) (by simp [chk, hG]) ?_
  simp only [go_sem, hG, hOw]
  rw [idxI_ge]
def sureB (r : Ro) (A : List Int) (i : Nat) : Bool := match r.sheets[i]? with
  | some x => x.back && !(A.any fun y => decide (y = (i : Int)))
  | none => false
theorem Doubt1_ok (r : Ro) (hr : Good r) (A : List Int) (i : Nat) (hi : i < r.shares.length) : Gives Tryz.prog 66 [i64 i, .fp [.fp (dkC 0 r)], .fp [ints 0 A]] (fun _ => bl (sureB r A i)) := by
  have hxn := hr.xn
  have hix : i < r.sheets.length := by omega
  have hsn := hr.sn
  unfold sureB
  rw [List.getElem?_eq_getElem hix]
  refine pure_intro (ow := fun _ => false) Tryz.func66 Tryz.ntmps66 rfl (by kernel_rfl) (by simp) rfl (by decide) fun G hG hOw hNm hB => ?_; simp only [go_sem, hG, hOw]
  (repeat' (first | (with_reducible refine And.intro ?_ ?_) | (with_reducible intro _) | (with_reducible refine exP ?_ ?_))); all_goals (try omega)
  · rename_i h
    refine call_pure (ContainsI_ok A i) (by first | exact Subs.refl _ | (repeat' (first | exact Subs.nil | exact Sub.refl _ | exact Sub.lo (Nat.zero_le _) | refine Subs.cons ?_ ?_ | refine Subs.agg ?_ | refine Subs.fp ?_ | refine Subs.tup ?_ | refine Sub.map (Nat.zero_le _) (fun _ => ?_)))) (by first | rfl | simp [allP, all0, pureV, pure0, *]) (by simp [chk, hG]) ?_
    simp only [go_sem, hG, hOw]
    (repeat' (first | (with_reducible refine And.intro ?_ ?_) | (with_reducible intro _) | (with_reducible refine exP ?_ ?_))); all_goals (try omega)
    all_goals simp [h]
  · rename_i h
    simp [h]
def lineSl (c : Cu) (k : Nat) (ls : List (List ByteArray)) (j m : Nat) : List Sl := (List.range m).map fun w => slAt c k ls j w
theorem lineSl_zero (c : Cu) (k : Nat) (ls : List (List ByteArray)) (j : Nat) : lineSl c k ls j 0 = [] := rfl
theorem lineSl_succ (c : Cu) (k : Nat) (ls : List (List ByteArray)) (j m : Nat) : lineSl c k ls j (m + 1) = lineSl c k ls j m ++ [slAt c k ls j m] := by
  unfold lineSl
  rw [List.range_succ, List.map_append]; rfl
def lnSl (c : Cu) (t : List Ch) (n : Nat) : List Sl := match (plc 0 t)[n]? with
  | some p => match t[p.1]? with
    | some ch => match ch.lines[p.2]? with
      | some l => lineSl c p.1 ch.lines p.2 l.length
      | none => []
    | none => []
  | none => []
def dbtL (c : Cu) (t : List Ch) (f : Nat → Bool) : Nat → List Sl
  | 0 => []
  | n + 1 => dbtL c t f n ++ if f n = true then lnSl c t n else []
theorem plc_line : ∀ (t : List Ch) (m n k j : Nat), (plc m t)[n]? = some (k, j) → m ≤ k ∧ ∃ (hk : k - m < t.length) (hj : j < t[k - m].lines.length), (linesL t)[n]? = some t[k - m].lines[j] := by
  intro t
  induction t with
  | nil => intro m n k j h; simp [plc] at h
  | cons ch r ih =>
    intro m n k j h
    simp only [plc] at h
    have eL : linesL (ch :: r) = ch.lines ++ linesL r := by simp [linesL]
    by_cases hn : n < ch.lines.length
    · rw [List.getElem?_append_left (by simpa using hn), List.getElem?_map, List.getElem?_range hn] at h
      simp only [Option.map_some, Option.some.injEq, Prod.mk.injEq] at h
      obtain ⟨rfl, rfl⟩ := h
      refine ⟨Nat.le_refl _, by simp, by simpa using hn, ?_⟩
      rw [eL, List.getElem?_append_left hn, List.getElem?_eq_getElem hn]
      simp
    · rw [List.getElem?_append_right (by simp; omega)] at h
      simp only [List.length_map, List.length_range] at h
      obtain ⟨h1, h2, h3, h4⟩ := ih (m + 1) _ k j h
      have e : k - m = (k - (m + 1)) + 1 := by omega
      refine ⟨by omega, by simp; omega, ?_, ?_⟩
      · simp only [e, List.getElem_cons_succ]; exact h3
      · rw [eL, List.getElem?_append_right (by omega), h4]
        simp only [e, List.getElem_cons_succ]
theorem lnSl_at (c : Cu) (t : List Ch) (n k j : Nat) (h : (plc 0 t)[n]? = some (k, j)) : ∃ (hk : k < t.length) (hj : j < t[k].lines.length), (linesL t)[n]? = some t[k].lines[j] ∧ lnSl c t n = lineSl c k t[k].lines j t[k].lines[j].length := by
  obtain ⟨_, h1, h2, h3⟩ := plc_line t 0 n k j h
  simp only [Nat.sub_zero] at h1 h2 h3
  refine ⟨h1, h2, h3, ?_⟩
  unfold lnSl
  rw [h]
  simp only [List.getElem?_eq_getElem h1, List.getElem?_eq_getElem h2]
theorem dbtL_len (c : Cu) (t : List Ch) (ht : textB t = true) (f : Nat → Bool) : ∀ n, (dbtL c t f n).length ≤ 10 * n := by
  intro n
  induction n with
  | zero => simp [dbtL]
  | succ n ih =>
    unfold dbtL
    rw [List.length_append]
    have : (if f n = true then lnSl c t n else []).length ≤ 10 := by
      split
      · cases h : (plc 0 t)[n]? with
        | none => simp [lnSl, h]
        | some p =>
          obtain ⟨k, j⟩ := p
          obtain ⟨h1, h2, _, h4⟩ := lnSl_at c t n k j h
          rw [h4]
          have := (chap_words ht k h1).2.1 _ (List.getElem_mem h2)
          simpa [lineSl] using this
      · simp
    omega
def leftD (r : Ro) (n : Nat) : Bool := (leftL (linesL r.text).length r.shares (sureB r (againP r)) r.shares.length).any fun x => decide (x = (n : Int))
def doubtE (r : Ro) (c : Cu) : Int := if roundE r = 0 then if cutB c then 0 else 30 else roundE r
def doubtL (r : Ro) (c : Cu) : List Sl := if roundE r = 0 then if cutB c then dbtL c r.text (leftD r) (linesL r.text).length else [] else []
theorem Doubt_ok (r : Ro) (hr : OKr r) (c : Cu) (hs : 0 ≤ c.s ∧ c.s ≤ 255) : Gives Tryz.prog 18 [roE 0 r, .agg (cuC c)] (fun n => .tup [sls n (doubtL r c), i64 (doubtE r c)]) := by
  unfold doubtE doubtL
  by_cases he : roundE r = 0
  · have hg := good_of hr he
    have hll := hg.ll
    have hsn := hg.sn
    have ht : textB r.text = true := by
      cases h : textB r.text with
      | true => rfl
      | false => simp [roundE, h] at he
    rw [if_pos he, if_pos he]
    have hCk := SCheck_ok c hs
    cases hc : cutB c with
    | false =>
      rw [hc] at hCk
      simp only [Bool.false_eq_true, if_false] at hCk ⊢
      refine pure_intro (ow := fun _ => false) Tryz.func18 Tryz.ntmps18 rfl (by kernel_rfl) (by simp) rfl (by decide) fun G hG hOw hNm hB => ?_; simp only [go_sem, hG, hOw]
      refine call_pure (open_good r hr he) (by first | exact Subs.refl _ | (repeat' (first | exact Subs.nil | exact Sub.refl _ | exact Sub.lo (Nat.zero_le _) | refine Subs.cons ?_ ?_ | refine Subs.agg ?_ | refine Subs.fp ?_ | refine Subs.tup ?_ | refine Sub.map (Nat.zero_le _) (fun _ => ?_)))) (by first | rfl | simp [allP, all0, pureV, pure0, *]) (by simp [chk, hG]) ?_
      simp only [go_sem, hG, hOw]
      (repeat' (first | (with_reducible refine And.intro ?_ ?_) | (with_reducible intro _) | (with_reducible refine exP ?_ ?_))); all_goals (try omega)
      refine call_pure hCk (by first | exact Subs.refl _ | (repeat' (first | exact Subs.nil | exact Sub.refl _ | exact Sub.lo (Nat.zero_le _) | refine Subs.cons ?_ ?_ | refine Subs.agg ?_ | refine Subs.fp ?_ | refine Subs.tup ?_ | refine Sub.map (Nat.zero_le _) (fun _ => ?_)))) (by first | rfl | simp [allP, all0, pureV, pure0, *]) (by simp [chk, hG]) ?_
      simp only [go_sem, hG, hOw]
      (repeat' (first | (with_reducible refine And.intro ?_ ?_) | (with_reducible intro _) | (with_reducible refine exP ?_ ?_))); all_goals (try omega)
      all_goals exact Subs.tup (.cons (.nil _ _) (.cons (.refl _) .nil))
    | true =>
      rw [hc] at hCk
      simp only [if_true] at hCk ⊢
      have hA := hagain_ok r hg
      have eA : againP r = numsL (fun i => decide (getI (bestI r) i = 0)) (bestI r).length := by unfold againP; rw [if_pos he]
      rw [← eA] at hA
      obtain ⟨f, hf⟩ : ∃ f, f = leftD r := ⟨_, rfl⟩
      have hf2 : ∀ n : Nat, ((leftL (linesL r.text).length r.shares (sureB r (againP r)) r.shares.length).any fun x => decide (x = (n : Int))) = f n := fun n => by rw [hf]; rfl
      rw [← hf]
      have hpl := plc_len r.text 0
      have hU := uncovered_ok r hg (.func 66) [.fp [.fp (dkC 0 r)], .fp [ints 0 (againP r)]] rfl (sureB r (againP r)) (fun i hi G o s Q rest hc h => call_pure (Doubt1_ok r hg (againP r) i hi) (Subs.refl _) rfl hc h)
      generalize leftL (linesL r.text).length r.shares (sureB r (againP r)) r.shares.length = LL at hU hf2
      refine pure_intro (ow := fun _ => false) Tryz.func18 Tryz.ntmps18 rfl (by kernel_rfl) (by simp) rfl (by decide) fun G hG hOw hNm hB => ?_; simp only [go_sem, hG, hOw]
      refine call_pure (open_good r hr he) (by first | exact Subs.refl _ | (repeat' (first | exact Subs.nil | exact Sub.refl _ | exact Sub.lo (Nat.zero_le _) | refine Subs.cons ?_ ?_ | refine Subs.agg ?_ | refine Subs.fp ?_ | refine Subs.tup ?_ | refine Sub.map (Nat.zero_le _) (fun _ => ?_)))) (by first | rfl | simp [allP, all0, pureV, pure0, *]) (by simp [chk, hG]) ?_
      simp only [go_sem, hG, hOw]
      (repeat' (first | (with_reducible refine And.intro ?_ ?_) | (with_reducible intro _) | (with_reducible refine exP ?_ ?_))); all_goals (try omega)
      refine call_pure hCk (by first | exact Subs.refl _ | (repeat' (first | exact Subs.nil | exact Sub.refl _ | exact Sub.lo (Nat.zero_le _) | refine Subs.cons ?_ ?_ | refine Subs.agg ?_ | refine Subs.fp ?_ | refine Subs.tup ?_ | refine Sub.map (Nat.zero_le _) (fun _ => ?_)))) (by first | rfl | simp [allP, all0, pureV, pure0, *]) (by simp [chk, hG]) ?_
      simp only [go_sem, hG, hOw]
      (repeat' (first | (with_reducible refine And.intro ?_ ?_) | (with_reducible intro _) | (with_reducible refine exP ?_ ?_))); all_goals (try omega)
      refine call_pure hA (by first | exact Subs.refl _ | (repeat' (first | exact Subs.nil | exact Sub.refl _ | exact Sub.lo (Nat.zero_le _) | refine Subs.cons ?_ ?_ | refine Subs.agg ?_ | refine Subs.fp ?_ | refine Subs.tup ?_ | refine Sub.map (Nat.zero_le _) (fun _ => ?_)))) (by first | rfl | simp [allP, all0, pureV, pure0, *]) (by simp [chk, hG]) ?_
      simp only [go_sem, hG, hOw]
      (repeat' (first | (with_reducible refine And.intro ?_ ?_) | (with_reducible intro _) | (with_reducible refine exP ?_ ?_))); all_goals (try omega)
      refine call_frz (fun i => [6, 9].contains i) ?_
      simp only [go_sem, hG, hOw]
      have hS : Pm.Sub (.fp (dkC G.lo r)) (.fp (dkC 0 r)) := by first | exact Subs.refl _ | (repeat' (first | exact Subs.nil | exact Sub.refl _ | exact Sub.lo (Nat.zero_le _) | refine Subs.cons ?_ ?_ | refine Subs.agg ?_ | refine Subs.fp ?_ | refine Subs.tup ?_ | refine Sub.map (Nat.zero_le _) (fun _ => ?_)))
      simp only [go_sem] at hS
      have hS2 : Pm.Sub (.fp [.fp (dkC G.lo r)]) (.fp [.fp (dkC 0 r)]) := by first | exact Subs.refl _ | (repeat' (first | exact Subs.nil | exact Sub.refl _ | exact Sub.lo (Nat.zero_le _) | refine Subs.cons ?_ ?_ | refine Subs.agg ?_ | refine Subs.fp ?_ | refine Subs.tup ?_ | refine Sub.map (Nat.zero_le _) (fun _ => ?_)))
      simp only [go_sem] at hS2
      have hS3 : Pm.Sub (.fp [ints G.lo (againP r)]) (.fp [ints 0 (againP r)]) := by first | exact Subs.refl _ | (repeat' (first | exact Subs.nil | exact Sub.refl _ | exact Sub.lo (Nat.zero_le _) | refine Subs.cons ?_ ?_ | refine Subs.agg ?_ | refine Subs.fp ?_ | refine Subs.tup ?_ | refine Sub.map (Nat.zero_le _) (fun _ => ?_)))
      simp only [go_sem] at hS3
      have hS4 : Pm.Sub (.lst G.lo 3 ((plc 0 r.text).map plE)) (.lst 0 3 ((plc 0 r.text).map plE)) := .lo (Nat.zero_le _)
      refine call_tri [] [(0, 80)] (hU) (by (simp only [go_sem]) <;> simp [hS,hS2,hS3]) (by (simp only [go_sem, entH, entH1, nilArr, obOK]) <;> simp [hS,hS2,hS3]) (by simp [injR, apart, toR]) (by simp [coverR, usH, toR, hS,hS2,hS3]) (by simp [uniqP, lkR, toR]) (by simp [chk, hG]) ?_
      simp only [go_sem, hG, hOw]
      refine semC_loop (fun n : Nat => St.of [(2, .ptr 2 0), (3, .ptr 3 0), (6, .fp [.fp (dkC 0 r)]), (10, .mp 80), (11, .own 30 0 (dbtL c r.text f n).length 6), (38, .lst 0 3 ((plc 0 r.text).map plE)), (39, i64 (plc 0 r.text).length), (40, i64 n)] [(2, .box (roC 0 r)), (3, .box (cuC c)), (80, .map (.int .i64) (idsM LL)), (30, .arr 93 6 ((dbtL c r.text f n).map slC))]) (fun n => n ≤ (plc 0 r.text).length) (fun n => (plc 0 r.text).length - n) 0 (by simp) (ent_of [(2, some 2), (3, some 3), (80, some 80), (30, none)] (by (simp only [go_sem]) <;> simp [hS,hS2,hS4,dbtL]) (by (simp only [go_sem, entH, entH1, nilArr, obOK]) <;> simp [hS,hS2,hS4,dbtL]) (by simp [injR, apart]) (by simp [coverR, usH]) (by simp [hNm, lkR, names])) ?_
      rintro n hn
      have hdl := dbtL_len c r.text ht f n
      refine vc_sound _ _ _ ?_
      simp (config := { maxSteps := 2000000 }) only [go_sem, hG, hOw, lkM_ids, hf2]
      (repeat' (first | (with_reducible refine And.intro ?_ ?_) | (with_reducible intro _) | (with_reducible refine exP ?_ ?_))); all_goals (try omega)
      · rename_i hlt hfn
        have e : dbtL c r.text f (n + 1) = dbtL c r.text f n := by simp [dbtL, hfn]
        refine ⟨n + 1, by omega, by omega, ?_⟩
        rw [e]
        exact ent_of [(2, some 2), (3, some 3), (80, some 80), (30, some 30)] (by (simp only [go_sem]) <;> simp) (by (simp only [go_sem, entH, entH1, nilArr, obOK]) <;> simp) (by simp [injR, apart]) (by simp [coverR, usH]) (by simp [hNm, lkR, names])
      · rename_i hlt hfn
        have hnl : n < (plc 0 r.text).length := by omega
        obtain ⟨k, j, hkj⟩ : ∃ k j, (plc 0 r.text)[n] = (k, j) := ⟨_, _, rfl⟩
        obtain ⟨hk, hj, hL1, hL2⟩ := lnSl_at c r.text n k j (by rw [List.getElem?_eq_getElem hnl, hkj])
        have hnL : n < (linesL r.text).length := by omega
        rw [List.getElem?_eq_getElem hnL, Option.some.injEq] at hL1
        obtain ⟨m, hm⟩ : ∃ m, m = (r.text[k].lines[j]).length := ⟨_, rfl⟩
        have hm10 := (chap_words ht k hk).2.1 _ (List.getElem_mem hj)
        have hmL : ((linesL r.text)[n]).length = m := by rw [hL1, hm]
        have hend : dbtL c r.text f (n + 1) = dbtL c r.text f n ++ lineSl c k r.text[k].lines j m := by
          conv => lhs; unfold dbtL
          rw [if_pos hfn, hL2, hm]
        obtain ⟨ls, hls⟩ : ∃ ls, ls = r.text[k].lines := ⟨_, rfl⟩
        rw [← hls] at hend
        refine semC_loop (fun w : Nat => St.of [(2, .ptr 2 0), (3, .ptr 3 0), (6, .fp [.fp (dkC 0 r)]), (10, .mp 80), (11, .own 30 0 (dbtL c r.text f n ++ lineSl c k ls j w).length 6), (12, i64 n), (13, .ptr 13 0), (38, .lst 0 3 ((plc 0 r.text).map plE)), (39, i64 (plc 0 r.text).length), (40, i64 n), (56, i64 m), (57, i64 w)] [(2, .box (roC 0 r)), (3, .box (cuC c)), (80, .map (.int .i64) (idsM LL)), (13, .box [i64 k, i64 j, .any]), (30, .arr 93 6 ((dbtL c r.text f n ++ lineSl c k ls j w).map slC))]) (fun w => w ≤ m) (fun w => m - w) 0 (by simp) (ent_of [(2, some 2), (3, some 3), (80, some 80), (13, some 13), (30, some 30)] (by (simp only [go_sem]) <;> simp [hkj,hmL,lineSl_zero]) (by (simp only [go_sem, entH, entH1, nilArr, obOK]) <;> simp [hkj,hmL,lineSl_zero]) (by simp [injR, apart]) (by simp [coverR, usH]) (by simp [hNm, lkR, names])) ?_
        rintro w hw
        have hsl : (lineSl c k ls j w).length = w := by simp [lineSl]
        refine vc_sound _ _ _ ?_; simp only [go_sem, hG, hOw]
        (repeat' (first | (with_reducible refine And.intro ?_ ?_) | (with_reducible intro _) | (with_reducible refine exP ?_ ?_))); all_goals (try omega)
        · rename_i hlt2
          have hwm : w < r.text[k].lines[j].length := by omega
          refine call_pure (Make_ok r.text ht c hc k hk j w hj hwm) (by first | exact Subs.refl _ | (repeat' (first | exact Subs.nil | exact Sub.refl _ | exact Sub.lo (Nat.zero_le _) | refine Subs.cons ?_ ?_ | refine Subs.agg ?_ | refine Subs.fp ?_ | refine Subs.tup ?_ | refine Sub.map (Nat.zero_le _) (fun _ => ?_)))) (by first | rfl | simp [allP, all0, pureV, pure0, *]) (by simp [chk, hG]) ?_
          rw [← hls]
          have e2 := lineSl_succ c k ls j w
          simp only [go_sem, hG, hOw]
          (repeat' (first | (with_reducible refine And.intro ?_ ?_) | (with_reducible intro _) | (with_reducible refine exP ?_ ?_))); all_goals (try omega)
          refine ⟨w + 1, by omega, by omega, ?_⟩
          rw [e2, ← List.append_assoc]
          exact ent_of [(2, some 2), (3, some 3), (80, some 80), (13, some 13), (30, some 73)] (by (simp only [go_sem]) <;> simp [slC,i64,Nat.add_assoc]) (by (simp only [go_sem, entH, entH1, nilArr, obOK]) <;> simp [slC,i64,Nat.add_assoc]) (by simp [injR, apart]) (by simp [coverR, usH]) (by simp [hNm, lkR, names])
        · rename_i hge2
          obtain rfl : w = m := by omega
          refine ⟨n + 1, by omega, by omega, ?_⟩
          rw [hend]
          exact ent_of [(2, some 2), (3, some 3), (80, some 80), (30, some 30)] (by (simp only [go_sem]) <;> simp) (by (simp only [go_sem, entH, entH1, nilArr, obOK]) <;> simp) (by simp [injR, apart]) (by simp [coverR, usH]) (by simp [hNm, lkR, names])
      · rename_i hge
        rw [show (linesL r.text).length = n by omega]
        exact .refl _
  · rw [if_neg he, if_neg he]
    refine pure_intro (ow := fun _ => false) Tryz.func18 Tryz.ntmps18 rfl (by kernel_rfl) (by simp) rfl (by decide) fun G hG hOw hNm hB => ?_; simp only [go_sem, hG, hOw]
    refine call_pure (open_bad r hr he) (by first | exact Subs.refl _ | (repeat' (first | exact Subs.nil | exact Sub.refl _ | exact Sub.lo (Nat.zero_le _) | refine Subs.cons ?_ ?_ | refine Subs.agg ?_ | refine Subs.fp ?_ | refine Subs.tup ?_ | refine Sub.map (Nat.zero_le _) (fun _ => ?_)))) (by first | rfl | simp [allP, all0, pureV, pure0, *]) (by simp [chk, hG]) ?_
    simp only [go_sem, hG, hOw]
    (repeat' (first | (with_reducible refine And.intro ?_ ?_) | (with_reducible intro _) | (with_reducible refine exP ?_ ?_))); all_goals (try omega)
    all_goals exact Subs.tup (.cons (.nil _ _) (.cons (.refl _) .nil))
end Go.Proofs.YtfnohnjnncjidaaGreatDoor
