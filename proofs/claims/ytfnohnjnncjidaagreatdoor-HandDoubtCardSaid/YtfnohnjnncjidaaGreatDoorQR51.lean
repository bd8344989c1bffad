import Derived.Test.YtfnohnjnncjidaaGreatDoorQR46
import Derived.Test.YtfnohnjnncjidaaGreatDoorQR47
namespace Go.Proofs.YtfnohnjnncjidaaGreatDoor
open Go Pm
set_option linter.unusedSimpArgs false
set_option linter.unusedVariables false
set_option maxHeartbeats 4000000
set_option maxRecDepth 100000
theorem within03_ok (n lo hi : Int) : Gives Tryz.prog 89 [i64 n, i64 lo, i64 hi] (fun _ => bl (inB n lo hi)) := by
  refine pure_intro (ow := fun _ => false) Tryz.func89 Tryz.ntmps89 rfl (by kernel_rfl) (by simp) rfl (by decide) fun G hG hOw hNm hB => ?_; simp only [go_sem, hG, hOw]
  (repeat' first | with_reducible refine And.intro ?_ ?_ | with_reducible intro _ | with_reducible refine exP ?_ ?_); all_goals try omega
  all_goals (rename_i h; simp [inB, h])
theorem cut3_ok (c : Cu) (hc : 0 ≤ c.s ∧ c.s ≤ 255) : Gives Tryz.prog 42 [.agg (cuC c)] (fun _ => bl (cutB c)) := by
  unfold cutB
  have w1 := within03_ok c.w 12 80
  cases h1 : inB c.w 12 80 with
  | false =>
    rw [h1] at w1
    refine pure_intro (ow := fun _ => false) Tryz.func42 Tryz.ntmps42 rfl (by kernel_rfl) (by simp) rfl (by decide) fun G hG hOw hNm hB => ?_; simp only [go_sem, hG, hOw]
    refine call_pure w1 (by first | exact Subs.refl _ | (repeat' (first | exact Subs.nil | exact Sub.refl _ | exact Sub.lo (Nat.zero_le _) | refine Subs.cons ?_ ?_ | refine Subs.agg ?_ | refine Subs.fp ?_ | refine Subs.tup ?_ | refine Sub.map (Nat.zero_le _) (fun _ => ?_)))) (by first | rfl | simp [allP, all0, pureV, pure0, *]) (by simp [chk, hG]) ?_
    simp only [go_sem, hG, hOw]
    try (repeat' first | with_reducible refine And.intro ?_ ?_ | with_reducible intro _ | with_reducible refine exP ?_ ?_); all_goals try omega
  | true =>
    rw [h1] at w1
    refine pure_intro (ow := fun _ => false) Tryz.func42 Tryz.ntmps42 rfl (by kernel_rfl) (by simp) rfl (by decide) fun G hG hOw hNm hB => ?_; simp only [go_sem, hG, hOw]
    refine call_pure w1 (by first | exact Subs.refl _ | (repeat' (first | exact Subs.nil | exact Sub.refl _ | exact Sub.lo (Nat.zero_le _) | refine Subs.cons ?_ ?_ | refine Subs.agg ?_ | refine Subs.fp ?_ | refine Subs.tup ?_ | refine Sub.map (Nat.zero_le _) (fun _ => ?_)))) (by first | rfl | simp [allP, all0, pureV, pure0, *]) (by simp [chk, hG]) ?_
    simp only [go_sem, hG, hOw]
    (repeat' first | with_reducible refine And.intro ?_ ?_ | with_reducible intro _ | with_reducible refine exP ?_ ?_); all_goals try omega
    refine call_pureA (within03_ok c.s 1 3) ?_
    simp only [go_sem, hG, hOw]
    try (repeat' first | with_reducible refine And.intro ?_ ?_ | with_reducible intro _ | with_reducible refine exP ?_ ?_); all_goals try omega
theorem doubt_good {r : Ro} (hg : Good r) {c : Cu} (h : cutB c = true) : doubtE r c = 0 ∧ doubtL r c = dbtL c r.text (leftD r) (linesL r.text).length := by
  constructor
  · unfold doubtE; rw [if_pos hg.e, if_pos h]
  · unfold doubtL; rw [if_pos hg.e, if_pos h]
theorem sl_ext {a b : Sl} (h1 : a.p.1 = b.p.1) (h2 : a.p.2.1 = b.p.2.1) (h3 : a.p.2.2 = b.p.2.2) (h4 : a.word = b.word) (h5 : a.bef = b.bef) (h6 : a.aft = b.aft) : a = b := by
  obtain ⟨⟨a1, a2, a3⟩, a4, a5, a6⟩ := a
  obtain ⟨⟨b1, b2, b3⟩, b4, b5, b6⟩ := b
  simp only at h1 h2 h3 h4 h5 h6
  rw [h1, h2, h3, h4, h5, h6]
theorem moreEnd (r : Ro) (c : Cu) (hc : 0 ≤ c.s ∧ c.s ≤ 255) (hcb : cutB c = true) (i : Nat) (hrd : readyB r = true) (hil : i < r.shares.length) (x : Ro) (hx : x = putS r i ⟨true, partA r i⟩)
    {G : Gh} (hG : G.n = 154) (hOw : G.ow = fun _ => false) (hNm : G.nm = []) {lo : Nat} :
    SemL Tryz.prog G ((flat (Tryz.f8.body.getD .skip)).drop 7) (St.of [(3, .ptr 3 0), (4, .ptr 4 0), (7, bl true), (8, i64 i), (9, .fp (roC G.lo x))] [(3, .box (roC 0 r)), (4, .box (cuC c))]) (EndsAt Tryz.prog lo [.tmp 6] (bl true)) := by
  obtain ⟨hr, hg⟩ := ready_good hrd
  have hsn := hg.sn
  have hxn := hg.xn
  have hix : i < r.sheets.length := by omega
  simp only [Tryz.f8, Option.getD_some]
  simp only [flat, List.cons_append, List.nil_append, List.append_assoc, List.take_succ_cons, List.take_zero, List.take_nil, List.drop_succ_cons, List.drop_zero]
  refine vcN_sound 2 _ _ ?_
  cases hbk : r.sheets[i].back with
  | true =>
    simp (config := { maxSteps := 2000000 }) only [go_sem, hG, hOw, hbk]
    try (repeat' first | with_reducible refine And.intro ?_ ?_ | with_reducible intro _ | with_reducible refine exP ?_ ?_); all_goals try omega
  | false =>
    cases hrx : readyB x with
    | false =>
      simp (config := { maxSteps := 2000000 }) only [go_sem, hG, hOw, hbk]
      (repeat' first | with_reducible refine And.intro ?_ ?_ | with_reducible intro _ | with_reducible refine exP ?_ ?_); all_goals try omega
      refine call_pureA (ready_ok x) ?_
      simp (config := { maxSteps := 2000000 }) only [go_sem, hG, hOw, hrx]
      try (repeat' first | with_reducible refine And.intro ?_ ?_ | with_reducible intro _ | with_reducible refine exP ?_ ?_); all_goals try omega
    | true =>
      obtain ⟨hrx1, hgx⟩ := ready_good hrx
      obtain ⟨l1, l2⟩ := more_again hg i hil (fun _ => hbk) (by rw [← hx]; exact hgx)
      rw [← hx] at l1 l2
      have a1 := HAgain_ok r hr
      have a2 := HAgain_ok x hrx1
      have d1 := Doubt_ok r hr c hc
      have d2 := Doubt_ok x hrx1 c hc
      obtain ⟨e1, e2⟩ := doubt_good hg hcb
      obtain ⟨e3, e4⟩ := doubt_good hgx hcb
      rw [e1] at d1
      rw [e3] at d2
      rw [hg.e] at a1
      rw [hgx.e] at a2
      have hm := (againP_mem r hg).2
      have hm2 := (againP_mem x hgx).2
      have hsub : againP r = againP x → (doubtL x c).Sublist (doubtL r c) := by
        intro h
        rw [e2, e4]
        have ht : x.text = r.text := by rw [hx]; rfl
        rw [ht]
        refine dbtL_sub c r.text _ _ (fun n hn => ?_) _
        rw [hx] at hn h
        exact more_left i hil hix hbk _ h.symm n hn
      have hD1 : (doubtL r c).length ≤ 4000 := by rw [e2]; have := dbtL_len c r.text (good_text hg) (leftD r) (linesL r.text).length; have := hg.ll; omega
      have hD2 : (doubtL x c).length ≤ 4000 := by rw [e4]; have := dbtL_len c x.text (good_text hgx) (leftD x) (linesL x.text).length; have := hgx.ll; omega
      obtain ⟨A, hA⟩ : ∃ A, A = againP r := ⟨_, rfl⟩
      obtain ⟨B, hB⟩ : ∃ B, B = againP x := ⟨_, rfl⟩
      obtain ⟨D, hD⟩ : ∃ D, D = doubtL r c := ⟨_, rfl⟩
      obtain ⟨M, hM⟩ : ∃ M, M = doubtL x c := ⟨_, rfl⟩
      rw [← hA] at a1 l1 l2 hsub hm
      rw [← hB] at a2 l1 l2 hsub hm2
      rw [← hD] at d1 hD1 hsub
      rw [← hM] at d2 hD2 hsub
      simp (config := { maxSteps := 2000000 }) only [go_sem, hG, hOw, hbk]
      (repeat' first | with_reducible refine And.intro ?_ ?_ | with_reducible intro _ | with_reducible refine exP ?_ ?_); all_goals try omega
      refine call_pureA (ready_ok x) ?_
      simp (config := { maxSteps := 2000000 }) only [go_sem, hG, hOw, hrx]
      refine vcN_sound 20 _ _ ?_
      simp only [go_sem, hG, hOw]
      refine call_pure a1 (by first | exact Subs.refl _ | (repeat' (first | exact Subs.nil | exact Sub.refl _ | exact Sub.lo (Nat.zero_le _) | refine Subs.cons ?_ ?_ | refine Subs.agg ?_ | refine Subs.fp ?_ | refine Subs.tup ?_ | refine Sub.map (Nat.zero_le _) (fun _ => ?_)))) (by first | rfl | simp [allP, all0, pureV, pure0, *]) (by simp [chk, hG]) ?_
      simp only [go_sem, hG, hOw]
      refine call_pure a2 (by first | exact Subs.refl _ | (repeat' (first | exact Subs.nil | exact Sub.refl _ | exact Sub.lo (Nat.zero_le _) | refine Subs.cons ?_ ?_ | refine Subs.agg ?_ | refine Subs.fp ?_ | refine Subs.tup ?_ | refine Sub.map (Nat.zero_le _) (fun _ => ?_)))) (by first | rfl | simp [allP, all0, pureV, pure0, *]) (by simp [chk, hG]) ?_
      simp only [go_sem, hG, hOw]
      refine call_pure d1 (by first | exact Subs.refl _ | (repeat' (first | exact Subs.nil | exact Sub.refl _ | exact Sub.lo (Nat.zero_le _) | refine Subs.cons ?_ ?_ | refine Subs.agg ?_ | refine Subs.fp ?_ | refine Subs.tup ?_ | refine Sub.map (Nat.zero_le _) (fun _ => ?_)))) (by first | rfl | simp [allP, all0, pureV, pure0, *]) (by simp [chk, hG]) ?_
      simp only [go_sem, hG, hOw]
      refine call_pure d2 (by first | exact Subs.refl _ | (repeat' (first | exact Subs.nil | exact Sub.refl _ | exact Sub.lo (Nat.zero_le _) | refine Subs.cons ?_ ?_ | refine Subs.agg ?_ | refine Subs.fp ?_ | refine Subs.tup ?_ | refine Sub.map (Nat.zero_le _) (fun _ => ?_)))) (by first | rfl | simp [allP, all0, pureV, pure0, *]) (by simp [chk, hG]) ?_
      simp only [go_sem, hG, hOw]
      (repeat' first | with_reducible refine And.intro ?_ ?_ | with_reducible intro _ | with_reducible refine exP ?_ ?_); all_goals try omega
      refine call_pureA (SameInts_ok A B) ?_
      by_cases hAB : A = B
      · have hs := hsub hAB
        simp (config := { maxSteps := 2000000 }) only [go_sem, hG, hOw, decide_eq_true hAB]
        (repeat' first | with_reducible refine And.intro ?_ ?_ | with_reducible intro _ | with_reducible refine exP ?_ ?_); all_goals try omega
        refine semC_cutN (fun _ : Unit => St.of [(7, bl true), (16, sls G.lo M), (18, i64 M.length)] []) (fun _ => True) ?_ ?_
        · refine semC_loop (fun k : Nat => St.of [(7, bl true), (16, sls G.lo M), (18, i64 (grd M D k)), (126, sls G.lo D), (127, i64 D.length), (128, i64 k)] []) (fun k => k ≤ D.length) (fun k => D.length - k) 0 (by omega) (entA [] (by (simp only [go_sem]) <;> simp [grd]) (by (simp only [go_sem, entH, entH1, nilArr, obOK]) <;> simp [grd])) ?_
          rintro k hk
          have hg1 := grd_le M D k hk
          refine vc_sound _ _ _ ?_
          simp only [go_sem, hG, hOw]
          (repeat' first | with_reducible refine And.intro ?_ ?_ | with_reducible intro _ | with_reducible refine exP ?_ ?_); all_goals try omega
          · rename_i hlt
            have hkl : k < D.length := by omega
            have gs := grd_succ M D k hkl
            unfold gstep at gs
            refine semC_draw0 mixed (by kernel_rfl) ?_
            simp only [go_sem, hG, hOw]
            (repeat' first | with_reducible refine And.intro ?_ ?_ | with_reducible intro _ | with_reducible refine exP ?_ ?_); all_goals try omega
            · rename_i h1 h2
              have hml : grd M D k < M.length := by omega
              simp only [Bool.and_eq_true, decide_eq_true_eq] at h2
              have e : M[grd M D k] = D[k] := by
                obtain ⟨b1, b2, b3, b4, b5, b6⟩ := h2
                exact sl_ext (by omega) (by omega) (by omega) b4 b5 b6
              rw [List.getElem?_eq_getElem hml, if_pos (by rw [e])] at gs
              refine ⟨k + 1, by omega, by omega, ?_⟩
              rw [gs]
              exact entA []
            · rename_i h1 h2
              have hml : grd M D k < M.length := by omega
              rw [List.getElem?_eq_getElem hml, if_neg (by
                intro e
                have e := Option.some.inj e
                rw [e] at h2
                simp at h2)] at gs
              refine ⟨k + 1, by omega, by omega, ?_⟩
              rw [gs]
              exact entA []
            · rename_i h1
              rw [List.getElem?_eq_none (by omega), if_neg (by intro h; cases h)] at gs
              refine ⟨k + 1, by omega, by omega, ?_⟩
              rw [gs]
              exact entA []
          · rename_i hge
            obtain rfl : k = D.length := by omega
            rw [grd_all hs]
            exact ⟨(), entA []⟩
        rintro ⟨⟩ -
        simp only [go_sem, hG, hOw]
        try (repeat' first | with_reducible refine And.intro ?_ ?_ | with_reducible intro _ | with_reducible refine exP ?_ ?_); all_goals try omega
      · simp (config := { maxSteps := 2000000 }) only [go_sem, hG, hOw, decide_eq_false hAB]
        try (repeat' first | with_reducible refine And.intro ?_ ?_ | with_reducible intro _ | with_reducible refine exP ?_ ?_); all_goals try omega
theorem HandMore_ok (r : Ro) (c : Cu) (hc : 0 ≤ c.s ∧ c.s ≤ 255) (p : Nat) (hp : p < 256) : Gives Tryz.prog 8 [roE 0 r, .agg (cuC c), .v (.int .u8 p)] (fun _ => bl true) := by
  cases hrd : readyB r with
  | false =>
    refine pure_intro (ow := fun _ => false) Tryz.func8 Tryz.ntmps8 rfl (by kernel_rfl) (by simp) rfl (by decide) fun G hG hOw hNm hB => ?_; simp only [go_sem, hG, hOw]
    refine call_pure alive_ok (Subs.refl _) rfl (by simp [chk, hG]) ?_
    simp only [go_sem, hG, hOw]
    refine call_pureA (ready_ok r) ?_
    simp (config := { maxSteps := 2000000 }) only [go_sem, hG, hOw, hrd]
    try (repeat' first | with_reducible refine And.intro ?_ ?_ | with_reducible intro _ | with_reducible refine exP ?_ ?_); all_goals try omega
  | true =>
    obtain ⟨hr, hg⟩ := ready_good hrd
    have hsn := hg.sn
    have hxn := hg.xn
    cases hcb : cutB c with
    | false =>
      refine pure_intro (ow := fun _ => false) Tryz.func8 Tryz.ntmps8 rfl (by kernel_rfl) (by simp) rfl (by decide) fun G hG hOw hNm hB => ?_; simp only [go_sem, hG, hOw]
      refine call_pure alive_ok (Subs.refl _) rfl (by simp [chk, hG]) ?_
      simp only [go_sem, hG, hOw]
      refine call_pureA (ready_ok r) ?_
      simp (config := { maxSteps := 2000000 }) only [go_sem, hG, hOw, hrd]
      refine call_pureA (cut3_ok c hc) ?_
      simp (config := { maxSteps := 2000000 }) only [go_sem, hG, hOw, hcb]
      try (repeat' first | with_reducible refine And.intro ?_ ?_ | with_reducible intro _ | with_reducible refine exP ?_ ?_); all_goals try omega
    | true =>
      by_cases h0 : r.shares.length = 0
      · have h0' : (r.shares.length : Int) = 0 := by omega
        refine pure_intro (ow := fun _ => false) Tryz.func8 Tryz.ntmps8 rfl (by kernel_rfl) (by simp) rfl (by decide) fun G hG hOw hNm hB => ?_; simp only [go_sem, hG, hOw]
        refine call_pure alive_ok (Subs.refl _) rfl (by simp [chk, hG]) ?_
        simp only [go_sem, hG, hOw]
        refine call_pureA (ready_ok r) ?_
        simp (config := { maxSteps := 2000000 }) only [go_sem, hG, hOw, hrd]
        refine call_pureA (cut3_ok c hc) ?_
        simp (config := { maxSteps := 2000000 }) only [go_sem, hG, hOw, hcb, h0']
        try (repeat' first | with_reducible refine And.intro ?_ ?_ | with_reducible intro _ | with_reducible refine exP ?_ ?_); all_goals try omega
      · have h0' : ¬ (r.shares.length : Int) = 0 := by omega
        obtain ⟨i, hi⟩ : ∃ i, i = p % r.shares.length := ⟨_, rfl⟩
        have hil : i < r.shares.length := by rw [hi]; exact Nat.mod_lt _ (by omega)
        have hix : i < r.sheets.length := by omega
        have em1 : (p : Int) % (r.shares.length : Int) = (i : Int) := by rw [hi]; simp
        obtain ⟨hp1, hp2⟩ := part_lines hg i
        have hLi := lines_ok r hg i hil
        have hTw := TwinLines_big (partA r i) hp1 fun a ha => (lineB_one (hp2 a ha)).2
        obtain ⟨x, hx⟩ : ∃ x, x = putS r i ⟨true, partA r i⟩ := ⟨_, rfl⟩
        have x1 : x.text = r.text ∧ x.helpers = r.helpers ∧ x.shares = r.shares := by rw [hx]; exact ⟨rfl, rfl, rfl⟩
        refine pure_introL (fun _ => false) Tryz.func8 Tryz.ntmps8 rfl (by kernel_rfl) (by simp) rfl (by decide) fun G hG hOw hNm hZ hB => ?_
        refine vcN_sound 7 _ _ ?_
        simp only [go_sem, hG, hOw]
        refine call_pure alive_ok (Subs.refl _) rfl (by simp [chk, hG]) ?_
        simp only [go_sem, hG, hOw]
        refine call_pureA (ready_ok r) ?_
        simp (config := { maxSteps := 2000000 }) only [go_sem, hG, hOw, hrd]
        refine call_pureA (cut3_ok c hc) ?_
        simp (config := { maxSteps := 2000000 }) only [go_sem, hG, hOw, hcb, h0', em1]
        (repeat' first | with_reducible refine And.intro ?_ ?_ | with_reducible intro _ | with_reducible refine exP ?_ ?_); all_goals try omega
        refine call_tri [] [(0, 91), (1, 92), (2, 93)] (Twin_tri r hr) (by (simp only [go_sem]) <;> simp [twO,twH]) (by (simp only [go_sem, entH, entH1, nilArr, obOK]) <;> simp [twO,twH]) (by simp [injR, apart, toR]) (by simp [coverR, usH, toR, twO,twH]) (by simp [uniqP, lkR, toR]) (by simp [chk, hG]) ?_
        simp only [go_sem, hG, hOw]
        (repeat' first | with_reducible refine And.intro ?_ ?_ | with_reducible intro _ | with_reducible refine exP ?_ ?_); all_goals try omega
        refine semC_draw0 mixed (by kernel_rfl) ?_
        simp only [go_sem, hG, hOw]
        (repeat' first | with_reducible refine And.intro ?_ ?_ | with_reducible intro _ | with_reducible refine exP ?_ ?_); all_goals try omega
        refine ⟨_, callGives hLi (by first | exact Subs.refl _ | (repeat' (first | exact Subs.nil | exact Sub.refl _ | exact Sub.lo (Nat.zero_le _) | refine Subs.cons ?_ ?_ | refine Subs.agg ?_ | refine Subs.fp ?_ | refine Subs.tup ?_ | refine Sub.map (Nat.zero_le _) (fun _ => ?_)))) (by first | rfl | simp [allP, all0, pureV, pure0, *]), ?_⟩
        simp only [go_sem, hG, hOw]
        (repeat' first | with_reducible refine And.intro ?_ ?_ | with_reducible intro _ | with_reducible refine exP ?_ ?_); all_goals try omega
        refine ⟨_, callGives hTw (by first | exact Subs.refl _ | (repeat' (first | exact Subs.nil | exact Sub.refl _ | exact Sub.lo (Nat.zero_le _) | refine Subs.cons ?_ ?_ | refine Subs.agg ?_ | refine Subs.fp ?_ | refine Subs.tup ?_ | refine Sub.map (Nat.zero_le _) (fun _ => ?_)))) (by first | rfl | simp [allP, all0, pureV, pure0, *]), ?_⟩
        have eset : (List.map (seE G.lo) r.sheets).set i [.v (.bool true), .lst G.lo 1 ((partA r i).map (lnE G.lo))] = x.sheets.map (seE G.lo) := by rw [hx]; simp only [putS, List.map_set]; rfl
        have htk : List.take r.sheets.length (x.sheets.map (seE G.lo)) = x.sheets.map (seE G.lo) := List.take_of_length_le (by rw [hx]; simp [putS])
        have htk1 : List.take r.helpers.length (List.map hpE r.helpers) = List.map hpE r.helpers := List.take_of_length_le (by simp)
        have htk2 : List.take r.shares.length (List.map srE r.shares) = List.map srE r.shares := List.take_of_length_le (by simp)
        simp (config := { maxSteps := 2000000 }) only [go_sem, hG, hOw, eset]
        (repeat' first | with_reducible refine And.intro ?_ ?_ | with_reducible intro _ | with_reducible refine exP ?_ ?_); all_goals try omega
        refine semL_ent (s' := St.of [(3, .ptr 3 0), (4, .ptr 4 0), (7, bl true), (8, i64 i), (9, .fp (roC G.lo x))] [(3, .box (roC 0 r)), (4, .box (cuC c))]) (ent_frz (fun i => [9, 91, 92, 93].contains i) (entA [(3, some 3), (4, some 4)] (by (simp only [go_sem]) <;> simp [x1,htk,htk1,htk2,roC,chs,hps,srs,ses]) (by (simp only [go_sem, entH, entH1, nilArr, obOK]) <;> simp [x1,htk,htk1,htk2,roC,chs,hps,srs,ses]))) ?_
        refine semL_code (l' := (flat (Tryz.f8.body.getD .skip)).drop 7) (by kernel_rfl) ?_
        exact moreEnd r c hc hcb i hrd hil x hx hG hOw hNm
end Go.Proofs.YtfnohnjnncjidaaGreatDoor
