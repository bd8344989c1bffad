import Derived.Test.YtphadkcpgnkpfaaGreatDoorQT38
import Derived.Test.YtphadkcpgnkpfaaGreatDoorQT39
namespace Go.Proofs.YtphadkcpgnkpfaaGreatDoor
open Go Pm
set_option linter.unusedSimpArgs false
set_option linter.unusedVariables false
set_option maxHeartbeats 4000000
set_option maxRecDepth 100000
theorem chap_row (x : ByteArray) : (⟨#[99, 104, 97, 112, 116, 101, 114, 32]⟩ : ByteArray) ++ x = joinS [chapterS, x] := by
  rw [join_two]
  refine ba_ext ?_
  simp [ByteArray.data_append, chapterS]
theorem line_row (x : ByteArray) : (⟨#[108, 105, 110, 101, 32]⟩ : ByteArray) ++ x = joinS [lineS, x] := by
  rw [join_two]
  refine ba_ext ?_
  simp [ByteArray.data_append, lineS]
theorem ROfText_ok (t : List Ch) (hok : OKt t) : Gives Tryz.prog 10 [txE 0 t] (fun n => .tup [strs n (if textB t then ofTextL t else []), i64 (if textB t then 0 else 10)]) := by
  refine pure_intro (ow := fun _ => false) Tryz.func10 Tryz.ntmps10 rfl (by kernel_rfl) (by simp) rfl (by decide) fun G hG hOw hNm hB => ?_; simp only [go_sem, hG, hOw]
  refine call_pureA (CheckT_ok t hok) ?_
  cases ht : textB t with
  | false =>
    simp only [go_sem, hG, hOw]
    (repeat' with_reducible first | refine And.intro ?_ ?_ | intro _ | refine exP ?_ ?_); all_goals try omega
    exact Subs.tup (.cons (.nil _ _) (.cons (.refl _) .nil))
  | true =>
    obtain ⟨ht1, ht2⟩ := text_v ht
    have hlen : ∀ k, (ofTextL (t.take k)).length ≤ 66 := fun k => ofText_len (by simp; omega) fun c hc => (ht2 c (List.mem_of_mem_take hc)).len.2
    simp only [go_sem, hG, hOw]
    (repeat' with_reducible first | refine And.intro ?_ ?_ | intro _ | refine exP ?_ ?_); all_goals try omega
    refine semC_loop (fun k : Nat => St.of [(1, .ptr 1 0), (5, .own 100 0 (ofTextL (t.take k)).length 1), (6, i64 k)] [(1, .box [chs 0 t]), (100, .arr 9 1 ((ofTextL (t.take k)).map strE))]) (fun k => k ≤ t.length) (fun k => t.length - k) 0 (by simp) (by simp only [List.take_zero, ofTextL, List.flatMap_nil]; exact entA [(1, some 1), (100, none)]) ?_
    rintro k hk
    refine vc_sound _ _ _ ?_; simp only [go_sem, hG, hOw]
    (repeat' with_reducible first | refine And.intro ?_ ?_ | intro _ | refine exP ?_ ?_); all_goals try omega
    · rename_i hlt
      have hkl : k < t.length := by omega
      obtain ⟨hid, hcl, hln⟩ := ht2 _ (List.getElem_mem hkl)
      have hsz := numB_size hid.1 hid.2
      refine call_pureA (RNumber_i t[k].id hid.1 hid.2) ?_
      have h8 : (#[99, 104, 97, 112, 116, 101, 114, 32] : Array UInt8).size = 8 := rfl
      have hl66 := hlen k
      simp (maxSteps := 2000000) only [go_sem, hG, hOw, chap_row]
      (repeat' with_reducible first | refine And.intro ?_ ?_ | intro _ | refine exP ?_ ?_); all_goals try omega
      all_goals try (simp; omega)
      obtain ⟨M, hM0, hMs, hMe, hMl⟩ := rows_step (ofTextL (t.take k)) (joinS [chapterS, numB t[k].id]) t[k].lines
      have hMe' : M t[k].lines.length = ofTextL (t.take (k + 1)) := by rw [hMe, ofText_succ t k hkl]; rfl
      refine semC_cutN (fun _ : Unit => St.of [(1, .ptr 1 0), (5, .own 100 0 (ofTextL (t.take (k + 1))).length 1), (6, i64 k)] [(1, .box [chs 0 t]), (100, .arr 9 1 ((ofTextL (t.take (k + 1))).map strE))]) (fun _ => True) ?_ ?_
      · refine semC_loop (fun j : Nat => St.of [(1, .ptr 1 0), (5, .own 200 0 (M j).length 1), (6, i64 k), (7, i64 j)] [(1, .box [chs 0 t]), (200, .arr 9 1 ((M j).map strE))]) (fun j => j ≤ t[k].lines.length) (fun j => t[k].lines.length - j) 0 (by simp) (by simp only [hM0]; exact entA [(1, some 1), (200, some 30)] (by (simp only [go_sem]) <;> simp [strE]) (by (simp only [go_sem, entH, entH1, nilArr, obOK]) <;> simp [strE])) ?_
        rintro j hj
        have hMj := hMl j hj
        refine vc_sound _ _ _ ?_; simp only [go_sem, hG, hOw]
        (repeat' with_reducible first | refine And.intro ?_ ?_ | intro _ | refine exP ?_ ?_); all_goals try omega
        · rename_i hlt2
          have hjl : j < t[k].lines.length := by omega
          have hlj := hln _ (List.getElem_mem hjl)
          have hs2 := line_size hlj
          refine call_pureA (RJoined_ok t[k].lines[j] (by omega) fun s hs => by have := wordB_size (hlj.2 s hs); omega) ?_
          simp (maxSteps := 2000000) only [go_sem, hG, hOw, line_row]
          (repeat' with_reducible first | refine And.intro ?_ ?_ | intro _ | refine exP ?_ ?_); all_goals try omega
          all_goals try (simp; omega)
          exact ⟨j + 1, by omega, by omega, entA [(1, some 1), (200, some 55)] (by (simp only [go_sem]) <;> simp [hMs j hjl,lineR,strE]) (by (simp only [go_sem, entH, entH1, nilArr, obOK]) <;> simp [hMs j hjl,lineR,strE])⟩
        · rename_i hge2
          have hj2 : j = t[k].lines.length := by omega
          subst hj2
          rw [hMe']
          exact ⟨(), entA [(1, some 1), (100, some 200)]⟩
      · rintro ⟨⟩ -
        simp only [go_sem, hG, hOw]
        (repeat' with_reducible first | refine And.intro ?_ ?_ | intro _ | refine exP ?_ ?_); all_goals try omega
        exact ⟨k + 1, by omega, by omega, entA [(1, some 1), (100, some 100)]⟩
    · rename_i hge
      obtain rfl : k = t.length := by omega
      simp only [List.take_length]
      exact .refl _
open Go Pm
set_option maxHeartbeats 4000000
set_option maxRecDepth 100000
theorem sub_none (k : Int) : Pm.Sub (.tup [.agg [.v (.slice none 0 0)], i64 k]) (.tup [txE 0 [], i64 k]) := Subs.tup (.cons (Subs.agg (.cons (.nil _ _) .nil)) (.cons (.refl _) .nil))
theorem acc_done {G : Gh} (hNm : G.nm = []) (t : List Ch) : Ent G (St.of [(2, .ptr 2 0), (4, .ptr 4 0)] [(2, .box [.v (.slice none 0 0)]), (4, .box [.own 100 0 t.length 2]), (100, .arx 55 2 (accR t 101)), (101, .arr 28 1 ((accL t).map (lnE 0)))]) (St.of [(2, .ptr 2 0), (4, .ptr 4 0)] [(2, .box [.v (.slice none 0 0)]), (4, .box [chs 0 t])]) := by
  rcases snoc_cases t with rfl | ⟨i, c, rfl⟩
  · refine ent_frz (fun i => i == 100 || i == 101) ?_
    simp only [accR_nil, accL_nil]
    have hN : Pm.Sub (.lst G.lo 2 []) (.lst 0 2 []) := Sub.lo (Nat.zero_le _)
    exact entA [(2, some 2), (4, some 4)] (by (simp only [go_sem]) <;> simp [hN]) (by (simp only [go_sem, entH, entH1, nilArr, obOK]) <;> simp [hN])
  · simp only [accR_snoc, accL_snoc, List.length_append, List.length_singleton]
    have hS : Pm.Sub (.lst G.lo 2 (List.map (chE 0) i ++ [[i64 c.id, .lst G.lo 1 (List.map (lnE 0) c.lines)]])) (chs 0 (i ++ [c])) := sub_acc G.lo i c
    have hF := frz_acc 55 28 i c (p := fun i => i == 100 || i == 101) (lo := G.lo) (s := St.of [(2, .ptr 2 0), (4, .ptr 4 0)] [(2, .box [.v (.slice none 0 0)]), (4, .box [.own 100 0 (i.length + 1) 2]), (100, .arx 55 2 (i.map (chE 0) ++ [[i64 c.id, .own 101 0 c.lines.length 1]])), (101, .arr 28 1 (c.lines.map (lnE 0)))]) rfl rfl rfl rfl
    have hOB : obOK [(2, some 2), (4, some 4)] (.box [chs 0 (i ++ [c])]) (some (.box (List.map (vwF (fun i => i == 100 || i == 101) G.lo (St.of [(2, .ptr 2 0), (4, .ptr 4 0)] [(2, .box [.v (.slice none 0 0)]), (4, .box [.own 100 0 (i.length + 1) 2]), (100, .arx 55 2 (i.map (chE 0) ++ [[i64 c.id, .own 101 0 c.lines.length 1]])), (101, .arr 28 1 (c.lines.map (lnE 0)))]) 4) [.own 100 0 (i.length + 1) 2]))) := by
      rw [hF]
      exact ⟨.inr ⟨rfl, hS⟩, trivial⟩
    refine fun a w h => ?_
    have E3 : Ent G (frz (fun i => i == 100 || i == 101) G.lo (St.of [(2, .ptr 2 0), (4, .ptr 4 0)] [(2, .box [.v (.slice none 0 0)]), (4, .box [.own 100 0 (i.length + 1) 2]), (100, .arx 55 2 (i.map (chE 0) ++ [[i64 c.id, .own 101 0 c.lines.length 1]])), (101, .arr 28 1 (c.lines.map (lnE 0)))])) (St.of [(2, .ptr 2 0), (4, .ptr 4 0)] [(2, .box [.v (.slice none 0 0)]), (4, .box [chs 0 (i ++ [c])])]) := by
      refine ent_of [(2, some 2), (4, some 4)] ?_ ?_ (by simp [injR, apart]) (by simp [coverR, usH]) (by simp [hNm, lkR, names])
      · exact ⟨rfl, rfl, trivial⟩
      · exact ⟨⟨rfl, trivial⟩, hOB, trivial⟩
    exact E3 a w (frz_ent _ a w h)
theorem stepF_wd {t t' : List Ch} {s : ByteArray} (hs : s.size ≤ 160) (h : ∀ c ∈ t, ∀ r ∈ c.lines, r.length ≤ 1000 ∧ ∀ x ∈ r, x.size ≤ 100000) (hst : stepF t s = some t') : ∀ c ∈ t', ∀ r ∈ c.lines, r.length ≤ 1000 ∧ ∀ x ∈ r, x.size ≤ 100000 := by
  unfold stepF at hst
  split at hst
  · cases hst
  · rename_i name rest hp
    have hpl : rest.length ≤ 1000 := by have := partsS_len s; rw [hp] at this; simp at this; omega
    have hps : ∀ x ∈ rest, x.size ≤ 100000 := fun x hx => by have := partsS_size s x (by rw [hp]; simp [hx]); omega
    split at hst
    · rename_i t'' h2
      cases hst
      unfold stepT at h2
      split at h2
      · cases rest with
        | nil => cases h2
        | cons x r =>
          simp only [Option.map_eq_some_iff, Prod.mk.injEq] at h2
          obtain ⟨v, _, rfl, _⟩ := h2
          intro c hc
          rcases List.mem_append.1 hc with hc | hc
          · exact h c hc
          · simp at hc; subst hc; simp
      · split at h2
        · split at h2
          · rename_i c hc
            split at h2
            · simp only [Option.some.injEq, Prod.mk.injEq] at h2
              obtain ⟨rfl, _⟩ := h2
              intro d hd
              rcases List.mem_append.1 hd with hd | hd
              · exact h d ((List.dropLast_sublist t).mem hd)
              · simp at hd; subst hd
                intro r hr
                rcases List.mem_append.1 hr with hr | hr
                · exact h c (List.mem_of_getLast? hc) r hr
                · simp at hr; subst hr; exact ⟨hpl, hps⟩
            · cases h2
          · cases h2
        · cases h2
    · cases hst
theorem readF_wd : ∀ {l : List ByteArray} {t t' : List Ch}, (∀ s ∈ l, s.size ≤ 160) → (∀ c ∈ t, ∀ r ∈ c.lines, r.length ≤ 1000 ∧ ∀ x ∈ r, x.size ≤ 100000) → readF t l = some t' → ∀ c ∈ t', ∀ r ∈ c.lines, r.length ≤ 1000 ∧ ∀ x ∈ r, x.size ≤ 100000
  | [], t, t', _, h, e => by cases e; exact h
  | s :: l, t, t', hs, h, e => by
    simp only [readF, Option.bind_eq_some_iff] at e
    obtain ⟨u, e1, e2⟩ := e
    exact readF_wd (fun x hx => hs x (by simp [hx])) (stepF_wd (hs s (by simp)) h e1) e2
theorem RToText_ok (l : List ByteArray) : Gives Tryz.prog 12 [strs 0 l] (fun _ => .tup [txE 0 (toTextP l).1, i64 (toTextP l).2]) := by
  cases h : rowsB l with
  | false =>
    have e : toTextP l = ([], 110) := by unfold toTextP; rw [h]; rfl
    rw [e]
    refine pure_intro (ow := fun _ => false) Tryz.func12 Tryz.ntmps12 rfl (by kernel_rfl) (by simp) rfl (by decide) fun G hG hOw hNm hB => ?_; simp only [go_sem, hG, hOw]
    (repeat' with_reducible first | refine And.intro ?_ ?_ | intro _ | refine exP ?_ ?_); all_goals try omega
    refine call_pureA (Rows_ok l) ?_
    rw [h]
    simp only [go_sem, hG, hOw]
    (repeat' with_reducible first | refine And.intro ?_ ?_ | intro _ | refine exP ?_ ?_); all_goals try omega
    exact sub_none 110
  | true =>
    obtain ⟨hl1, hl2⟩ := rowsB_bd h
    have bad : readT l = none → toTextP l = ([], 111) := fun e => by unfold toTextP; rw [h, e]; rfl
    refine pure_intro (ow := fun _ => false) Tryz.func12 Tryz.ntmps12 rfl (by kernel_rfl) (by simp) rfl (by decide) fun G hG hOw hNm hB => ?_; simp only [go_sem, hG, hOw]
    (repeat' with_reducible first | refine And.intro ?_ ?_ | intro _ | refine exP ?_ ?_); all_goals try omega
    refine call_pureA (Rows_ok l) ?_
    rw [h]
    simp only [go_sem, hG, hOw]
    (repeat' with_reducible first | refine And.intro ?_ ?_ | intro _ | refine exP ?_ ?_); all_goals try omega
    refine semC_cut (fun t : List Ch => St.of [(2, .ptr 2 0), (4, .ptr 4 0)] [(2, .box [.v (.slice none 0 0)]), (4, .box [chs 0 t])]) (fun t => readT l = some t) ?_ ?_
    rotate_left
    · rintro t hrd
      have e : toTextP l = if textB t then (t, 0) else ([], 10) := by unfold toTextP; rw [h, hrd]; rfl
      have hbd : bdT l.length t := readT_bd (Nat.le_refl _) (by rw [List.take_length]; exact hrd)
      rw [e]
      simp only [go_sem, hG, hOw]
      (repeat' with_reducible first | refine And.intro ?_ ?_ | intro _ | refine exP ?_ ?_); all_goals try omega
      refine call_pureA (CheckTB_ok t ⟨by have := hbd.1; omega, fun c hc => ⟨by have := hbd.2 c hc; omega, fun r hr => readF_wd hl2 (by simp) hrd c hc r hr⟩⟩) ?_
      cases htx : textB t with
      | false =>
        simp only [go_sem, hG, hOw]
        (repeat' with_reducible first | refine And.intro ?_ ?_ | intro _ | refine exP ?_ ?_); all_goals try omega
        exact sub_none 10
      | true =>
        simp only [go_sem, hG, hOw]
        (repeat' with_reducible first | refine And.intro ?_ ?_ | intro _ | refine exP ?_ ?_); all_goals try omega
    refine semC_loop (fun x : Nat × List Ch => St.of [(0, strs 0 l), (2, .ptr 2 0), (4, .ptr 4 0), (5, i64 x.1)] [(2, .box [.v (.slice none 0 0)]), (4, .box [.own 100 0 x.2.length 2]), (100, .arx 55 2 (accR x.2 101)), (101, .arr 28 1 ((accL x.2).map (lnE 0)))]) (fun x => x.1 ≤ l.length ∧ readT (l.take x.1) = some x.2) (fun x => l.length - x.1) (0, []) ⟨by simp, by simp [readT, readF]⟩ (by simp only [accR_nil, accL_nil]; exact entA [(2, some 2), (4, some 4), (100, none), (101, none)]) ?_
    rintro ⟨k, t⟩ ⟨hk, hrd⟩
    simp only at hk hrd
    have hbd := readT_bd hk hrd
    have hb1000 : bdT 1000 t := ⟨by have := hbd.1; omega, fun c hc => by have := hbd.2 c hc; omega⟩
    refine vc_sound _ _ _ ?_; simp only [go_sem, hG, hOw]
    (repeat' with_reducible first | refine And.intro ?_ ?_ | intro _ | refine exP ?_ ?_); all_goals try omega
    · rename_i hlt
      have hkl : k < l.length := by omega
      have hsz := hl2 _ (List.getElem_mem hkl)
      have no : stepF t l[k] = none → toTextP l = ([], 111) := fun e => bad (readT_bad hkl hrd e)
      refine call_pureA (RParts_ok l[k] (by omega)) ?_
      obtain ⟨name, rest, hp⟩ : ∃ name rest, partsS l[k] = name :: rest := by
        cases hq : partsS l[k] with
        | nil => exact (partsS_ne _ hq).elim
        | cons a b => exact ⟨a, b, rfl⟩
      have hpl : rest.length ≤ 1000 := by have := partsS_len l[k]; rw [hp] at this; simp at this; omega
      have hps : ∀ s ∈ rest, s.size ≤ 100000 := fun s hs => by have := partsS_size l[k] s (by rw [hp]; simp [hs]); omega
      rw [hp]
      simp only [go_sem, hG, hOw]
      (repeat' with_reducible first | refine And.intro ?_ ?_ | intro _ | refine exP ?_ ?_); all_goals try omega
      refine call_tri [(0, 6)] [] (next_yes G.lo name rest false) (by (simp only [go_sem]) <;> simp) (by (simp only [go_sem, entH, entH1, nilArr, obOK]) <;> simp) (by simp [injR, apart, toR]) (by simp [coverR, usH, toR]) (by simp [uniqP, lkR, toR]) (by simp [chk, hG]) ?_
      by_cases hn : name = chapterS
      · subst hn
        obtain ⟨v, r', b', hU, hgo, hst⟩ : ∃ (v : Int) (r' : List ByteArray) (b' : Bool), Tri Tryz.prog 37 [.ptr 0 0] [(0, .box [strs G.lo rest, bl false])] (fun _ => .ret (i64 v) [(0, .box [strs G.lo r', bl b'])]) ∧ ((!b' && r'.isEmpty) = true → stepF t l[k] = some (t ++ [Ch.mk v []])) ∧ ((!b' && r'.isEmpty) = false → stepF t l[k] = none) := by
          cases rest with
          | nil => exact ⟨0, [], true, rnum_end G.lo false, by simp, fun _ => by unfold stepF; rw [hp]; simp [stepT]⟩
          | cons x r =>
            refine ⟨(valueS x).getD 0, r, _, rnum_yes G.lo x r false (hps x (by simp)), fun hg => ?_, fun hg => ?_⟩
            · unfold stepF; rw [hp]
              cases hv : valueS x with
              | none => rw [hv] at hg; simp at hg
              | some v =>
                rw [hv] at hg
                have : r = [] := by simpa using hg
                subst this
                simp [stepT, hv]
            · unfold stepF; rw [hp]
              cases hv : valueS x with
              | none => simp [stepT, hv]
              | some v =>
                rw [hv] at hg
                cases r with
                | nil => simp at hg
                | cons a b => simp [stepT, hv]
        unfold chapterS
        rcases snoc_cases t with rfl | ⟨i, c, rfl⟩
        · simp only [accR_nil, accL_nil]
          simp only [go_sem, hG, hOw]
          (repeat' with_reducible first | refine And.intro ?_ ?_ | intro _ | refine exP ?_ ?_); all_goals try omega
          refine semC_draw ⟨[6, 34, 35, 36], [(32, [6]), (36, [4])], [32]⟩ [(0, false), (1, false), (2, false), (3, false), (4, false), (5, true), (6, false), (7, false)] mixed (by kernel_rfl) ?_
          simp only [pickO, List.getElem?_cons_zero, List.getElem?_cons_succ]
          simp only [go_sem, hG, hOw]
          (repeat' with_reducible first | refine And.intro ?_ ?_ | intro _ | refine exP ?_ ?_); all_goals try omega
          refine ⟨_, callMod [(0, 6)] [] (hU) (by (simp only [go_sem]) <;> simp) (by (simp only [go_sem, entH, entH1, nilArr, obOK]) <;> simp) (by simp [injR, apart, toR]) (by simp [coverR, usH, toR]) (by simp [uniqP, lkR, toR]) rfl (by simp [tgt, nmHas]) (by simp [tgt, nmHas]) (by simp [upT, dropsR, outsR, keepR, usH, lkR, toR, nmHas]) (by simp [newN, usH, tgt, go_sem]) (by simp [hasAll, keepR, usH, lkR, toR]) (by simp [uniqN, usH]), ?_⟩
          simp only [go_sem, hG, hOw]
          (repeat' with_reducible first | refine And.intro ?_ ?_ | intro _ | refine exP ?_ ?_); all_goals try omega
          refine appx_step (el := 55) (sz := 2) (x := .own 100 0 0 2) (y := .lst G.lo 2 [[i64 v, .v (.slice none 0 0)]]) (l := []) (new := [[i64 v, .v (.slice none 0 0)]]) (io := some 100) rfl ?_ ?_ rfl ?_ ?_ ?_ ?_ tb_sliceElem_22 (by kernel_rfl) tb_bytesK_55 (by decide) rfl (Nat.le_of_ble_eq_true rfl) (Nat.le_of_ble_eq_true rfl) ?_
          · simp [go_sem]
          · simp [go_sem]
          · rw [hG]; decide
          · simp [go_sem]
          · exact isX_own 100 [] rfl (by simp [go_sem])
          · exact .src _ _ (.lst ..)
          simp only [go_sem, hG, hOw]
          (repeat' with_reducible first | refine And.intro ?_ ?_ | intro _ | refine exP ?_ ?_); all_goals try omega
          have hR := rright_ok G.lo r' b'
          refine call_tri [(0, 6)] [] (hR) (by (simp only [go_sem]) <;> simp) (by (simp only [go_sem, entH, entH1, nilArr, obOK]) <;> simp) (by simp [injR, apart, toR]) (by simp [coverR, usH, toR]) (by simp [uniqP, lkR, toR]) (by simp [chk, hG]) ?_
          cases hg : (!b' && r'.isEmpty) with
          | true =>
            simp only [go_sem, hG, hOw]
            (repeat' with_reducible first | refine And.intro ?_ ?_ | intro _ | refine exP ?_ ?_); all_goals try omega
            refine ⟨(k + 1, [] ++ [Ch.mk v []]), ⟨by show k + 1 ≤ _; omega, by rw [readT_succ l k hkl, hrd]; exact hgo hg⟩, by show l.length - (k + 1) < _; omega, ?_⟩
            simp only [accR_snoc, accL_snoc]
            exact entA [(2, some 2), (4, some 4), (100, some 35), (101, none)]
          | false =>
            rw [no (hst hg)]
            simp only [go_sem, hG, hOw]
            (repeat' with_reducible first | refine And.intro ?_ ?_ | intro _ | refine exP ?_ ?_); all_goals try omega
            exact sub_none 111
        · simp only [accR_snoc, accL_snoc]
          have hti : i.length + 1 ≤ 1000 := by have := hb1000.1; simp at this; omega
          simp only [go_sem, hG, hOw]
          (repeat' with_reducible first | refine And.intro ?_ ?_ | intro _ | refine exP ?_ ?_); all_goals try omega
          refine semC_frz (fun i => i == 101) ?_
          refine semC_draw ⟨[6, 34, 35, 36], [(32, [6]), (36, [4])], [32]⟩ [(0, false), (1, false), (2, false), (3, false), (4, false), (5, true), (6, false), (7, false)] mixed (by kernel_rfl) ?_
          simp only [pickO, List.getElem?_cons_zero, List.getElem?_cons_succ]
          simp (maxSteps := 2000000) only [go_sem, hG, hOw, ↓chs_vwF]
          (repeat' with_reducible first | refine And.intro ?_ ?_ | intro _ | refine exP ?_ ?_); all_goals try omega
          refine ⟨_, callMod [(0, 6)] [] (hU) (by (simp only [go_sem]) <;> simp) (by (simp only [go_sem, entH, entH1, nilArr, obOK]) <;> simp) (by simp [injR, apart, toR]) (by simp [coverR, usH, toR]) (by simp [uniqP, lkR, toR]) rfl (by simp [tgt, nmHas]) (by simp [tgt, nmHas]) (by simp [upT, dropsR, outsR, keepR, usH, lkR, toR, nmHas]) (by simp [newN, usH, tgt, go_sem]) (by simp [hasAll, keepR, usH, lkR, toR]) (by simp [uniqN, usH]), ?_⟩
          simp (maxSteps := 2000000) only [go_sem, hG, hOw, ↓chs_vwF]
          (repeat' with_reducible first | refine And.intro ?_ ?_ | intro _ | refine exP ?_ ?_); all_goals try omega
          have hS : Pm.Sub (.lst G.lo 1 (c.lines.map (lnE 0))) (.lst 0 1 (c.lines.map (lnE 0))) := Sub.lo (Nat.zero_le _)
          refine appx_step (el := 55) (sz := 2) (x := .own 100 0 (i.length + 1) 2) (y := .lst G.lo 2 [[i64 v, .v (.slice none 0 0)]]) (l := i.map (chE 0) ++ [[i64 c.id, .lst G.lo 1 (c.lines.map (lnE 0))]]) (new := [[i64 v, .v (.slice none 0 0)]]) (io := some 100) rfl ?_ ?_ rfl ?_ ?_ ?_ ?_ tb_sliceElem_22 (by kernel_rfl) tb_bytesK_55 (by decide) rfl ?_ ?_ ?_
          · simp [go_sem]
          · simp [go_sem]
          · rw [hG]; decide
          · simp [go_sem]
          · exact isX_own 100 _ (by simp) (by simp only [↓chs_vwF, go_sem])
          · exact .src _ _ (.lst ..)
          · simp; omega
          · simp; omega
          simp (maxSteps := 2000000) only [go_sem, hG, hOw, ↓chs_vwF]
          (repeat' with_reducible first | refine And.intro ?_ ?_ | intro _ | refine exP ?_ ?_); all_goals try omega
          have hR := rright_ok G.lo r' b'
          refine call_tri [(0, 6)] [] (hR) (by (simp only [go_sem]) <;> simp) (by (simp only [go_sem, entH, entH1, nilArr, obOK]) <;> simp) (by simp [injR, apart, toR]) (by simp [coverR, usH, toR]) (by simp [uniqP, lkR, toR]) (by simp [chk, hG]) ?_
          cases hg : (!b' && r'.isEmpty) with
          | true =>
            simp (maxSteps := 2000000) only [go_sem, hG, hOw, ↓chs_vwF]
            (repeat' with_reducible first | refine And.intro ?_ ?_ | intro _ | refine exP ?_ ?_); all_goals try omega
            refine ⟨(k + 1, (i ++ [c]) ++ [Ch.mk v []]), ⟨by show k + 1 ≤ _; omega, by rw [readT_succ l k hkl, hrd]; exact hgo hg⟩, by show l.length - (k + 1) < _; omega, ?_⟩
            simp only [accR_snoc, accL_snoc]
            exact entA [(2, some 2), (4, some 4), (100, some 35), (101, none)] (by (simp only [go_sem]) <;> simp [okLL_chs_eq,okLL,okL,okN,chE,lns,i64,lkR,hS,pure0]) (by (simp only [go_sem, entH, entH1, nilArr, obOK]) <;> simp [okLL_chs_eq,okLL,okL,okN,chE,lns,i64,lkR,hS,pure0])
          | false =>
            rw [no (hst hg)]
            simp (maxSteps := 2000000) only [go_sem, hG, hOw, ↓chs_vwF]
            (repeat' with_reducible first | refine And.intro ?_ ?_ | intro _ | refine exP ?_ ?_); all_goals try omega
            exact sub_none 111
      · by_cases hn2 : name = lineS
        · subst hn2
          have hW := rwords_ok G.lo rest false hpl hps
          simp only [Bool.false_or] at hW
          have hln : ¬ lineS = chapterS := by decide
          rcases snoc_cases t with rfl | ⟨i, c, rfl⟩
          · have e := no (by unfold stepF; rw [hp]; simp [stepT, hln])
            rw [e]
            unfold lineS chapterS at *
            simp only [accR_nil, accL_nil]
            simp (maxSteps := 2000000) only [go_sem, hG, hOw, hln]
            (repeat' with_reducible first | refine And.intro ?_ ?_ | intro _ | refine exP ?_ ?_); all_goals try omega
            refine call_tri [(0, 6)] [] (hW) (by (simp only [go_sem]) <;> simp) (by (simp only [go_sem, entH, entH1, nilArr, obOK]) <;> simp) (by simp [injR, apart, toR]) (by simp [coverR, usH, toR]) (by simp [uniqP, lkR, toR]) (by simp [chk, hG]) ?_
            simp only [go_sem, hG, hOw]
            (repeat' with_reducible first | refine And.intro ?_ ?_ | intro _ | refine exP ?_ ?_); all_goals try omega
            exact sub_none 111
          · have hti : i.length + 1 ≤ 1000 := by have := hb1000.1; simp at this; omega
            have hcl : c.lines.length ≤ 1000 := hb1000.2 c (by simp)
            have h1 : (((i.length + 1 : Nat) : Int) - 1).toNat = i.length := by omega
            have hst1 : wordsB rest = true → stepF (i ++ [c]) l[k] = some (i ++ [Ch.mk c.id (c.lines ++ [rest])]) := fun hw => by unfold stepF; rw [hp]; simp [stepT, hln, hw]
            have hst2 : wordsB rest = false → stepF (i ++ [c]) l[k] = none := fun hw => by unfold stepF; rw [hp]; simp [stepT, hln, hw]
            have hwr : wordsB rest = true → wordsR rest = rest := fun hw => by
              unfold wordsR
              cases rest with
              | nil => simp [wordsB] at hw
              | cons a b => rfl
            have h0 : ¬ (((i.length + 1 : Nat) : Int) = 0) := by omega
            unfold lineS chapterS at hln
            unfold lineS
            simp only [accR_snoc, accL_snoc]
            simp (maxSteps := 2000000) only [go_sem, hG, hOw, hln]
            (repeat' with_reducible first | refine And.intro ?_ ?_ | intro _ | refine exP ?_ ?_); all_goals try omega
            refine call_tri [(0, 6)] [] (hW) (by (simp only [go_sem]) <;> simp) (by (simp only [go_sem, entH, entH1, nilArr, obOK]) <;> simp) (by simp [injR, apart, toR]) (by simp [coverR, usH, toR]) (by simp [uniqP, lkR, toR]) (by simp [chk, hG]) ?_
            simp (maxSteps := 2000000) only [go_sem, hG, hOw, h0, h1, acc_get, acc_set]
            (repeat' with_reducible first | refine And.intro ?_ ?_ | intro _ | refine exP ?_ ?_); all_goals try omega
            have hR := rright_ok G.lo [] (!wordsB rest)
            simp only [Bool.not_not, List.isEmpty_nil, Bool.and_true] at hR
            refine call_tri [(0, 6)] [] (hR) (by (simp only [go_sem]) <;> simp) (by (simp only [go_sem, entH, entH1, nilArr, obOK]) <;> simp) (by simp [injR, apart, toR]) (by simp [coverR, usH, toR]) (by simp [uniqP, lkR, toR]) (by simp [chk, hG]) ?_
            cases hw : wordsB rest with
            | true =>
              have hwr := hwr hw
              simp (maxSteps := 2000000) only [go_sem, hG, hOw, h0, h1, acc_get, acc_set]
              (repeat' with_reducible first | refine And.intro ?_ ?_ | intro _ | refine exP ?_ ?_); all_goals try omega
              refine ⟨(k + 1, i ++ [Ch.mk c.id (c.lines ++ [rest])]), ⟨by show k + 1 ≤ _; omega, by rw [readT_succ l k hkl, hrd]; exact hst1 hw⟩, by show l.length - (k + 1) < _; omega, ?_⟩
              simp only [accR_snoc, accL_snoc]
              exact entA [(2, some 2), (4, some 4), (100, some 100), (101, some 59)] (by (simp only [go_sem]) <;> simp [okLL_chs_eq,okLL,okL,okN,chE,lns,i64,lkR,pure0,lnE,hwr,strs]) (by (simp only [go_sem, entH, entH1, nilArr, obOK]) <;> simp [okLL_chs_eq,okLL,okL,okN,chE,lns,i64,lkR,pure0,lnE,hwr,strs])
            | false =>
              rw [no (hst2 hw)]
              simp (maxSteps := 2000000) only [go_sem, hG, hOw, h0, h1, acc_get, acc_set]
              (repeat' with_reducible first | refine And.intro ?_ ?_ | intro _ | refine exP ?_ ?_); all_goals try omega
              exact sub_none 111
        · have e := no (by unfold stepF; rw [hp]; simp [stepT, hn, hn2])
          rw [e]
          unfold chapterS at hn
          unfold lineS at hn2
          simp (maxSteps := 2000000) only [go_sem, hG, hOw, hn, hn2]
          (repeat' with_reducible first | refine And.intro ?_ ?_ | intro _ | refine exP ?_ ?_); all_goals try omega
          exact sub_none 111
    · rename_i hge
      obtain rfl : k = l.length := by omega
      rw [List.take_length] at hrd
      refine ⟨t, hrd, fun a w h => acc_done hNm t a w ?_⟩
      exact (entA [(2, some 2), (4, some 4), (100, some 100), (101, some 101)] (by (simp only [go_sem]) <;> simp [accR_ren,lkR]) (by (simp only [go_sem, entH, entH1, nilArr, obOK]) <;> simp [accR_ren,lkR])) a w h
end Go.Proofs.YtphadkcpgnkpfaaGreatDoor
