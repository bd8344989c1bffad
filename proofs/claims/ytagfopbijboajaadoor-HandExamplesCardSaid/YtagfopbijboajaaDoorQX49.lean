import Derived.Test.YtagfopbijboajaaDoorQX46
namespace Go.Proofs.YtagfopbijboajaaDoor
open Go Pm
set_option linter.unusedSimpArgs false
set_option linter.unusedVariables false
set_option maxHeartbeats 4000000
set_option maxRecDepth 100000
def wNo : ByteArray := ⟨#[110, 111]⟩
def exOdd : Ro := ⟨exT, ex0.helpers, [⟨0, 1, 0, 3⟩, ⟨0, 2, 1, 4⟩], exS⟩
def exAway : Ro := ⟨exT, ex0.helpers, ex0.shares, [⟨true, [[wThe, wSea, wIs, wOld], [wOld, wA, wSea]]⟩, ⟨false, []⟩]⟩
def exNoT : Ro := ⟨[], ex0.helpers, ex0.shares, exS⟩
def exMore : Ro := ⟨exT, ex0.helpers, ex0.shares, [⟨true, [[wThe, wSea, wIs, wOld], [wOld, wA, wSea]]⟩, ⟨true, [[wOld, wThe, wSea], [wSea, wAnd, wSea], [wNo]]⟩]⟩
theorem exOdd_ok : OKr exOdd := greatR_ok (by kernel_rfl)
theorem exAway_ok : OKr exAway := greatR_ok (by kernel_rfl)
theorem exNoT_ok : OKr exNoT := greatR_ok (by kernel_rfl)
theorem exMore_ok : OKr exMore := greatR_ok (by kernel_rfl)
theorem fx_back : backR ex0 0 = 9 ∧ backE ex0 0 = 0 := ⟨by kernel_rfl, by kernel_rfl⟩
theorem fx_expl1 : explE ex0 1 = 0 ∧ explL ex0 1 = [] := ⟨by kernel_rfl, by kernel_rfl⟩
theorem fx_line : lineRE ex0 3 = 2 := by kernel_rfl
theorem fx_back2 : backE ex0 2 = 2 := by kernel_rfl
theorem fx_away : explE exAway 1 = 6 ∧ explE exAway (-1) = 2 := ⟨by kernel_rfl, by kernel_rfl⟩
theorem fx_doubt : doubtE ex0 ⟨12, 0⟩ = 30 := by kernel_rfl
theorem fx_asg : asgE ex0 401 = 2 := by kernel_rfl
theorem fx_odd : roundE exOdd = 50 := by kernel_rfl
theorem fx_not : roundE exNoT = 10 := by kernel_rfl
theorem fx_more : explE exMore 1 = 6 := by kernel_rfl
theorem fx_check : roundE exAway = 0 := by kernel_rfl
theorem round_odd : Tri Tryd.prog 6 [] [] (fun lo => .ret (.agg [chs lo ex0.text, hps lo ex0.helpers, .own 0 0 2 4, ses lo ex0.sheets]) [(0, .arr 42 4 [[i64 0, i64 1, i64 0, i64 3], [i64 1, i64 2, i64 1, i64 4]])]) := by
  refine tri_intro (fun i => [15].contains i) Tryd.func6 Tryd.ntmps6 rfl (by kernel_rfl) (by simp) rfl (by decide) fun G hG hOw hNm => ?_; simp only [go_sem, hG, hOw]
  (repeat' with_reducible first | refine And.intro ?_ ?_ | intro _ | refine exP ?_ ?_); all_goals try omega
  refine call_pure (words_ok _ _ _) (Subs.refl _) rfl (by simp [chk, hG]) ?_
  simp only [go_sem, hG, hOw]
  (repeat' with_reducible first | refine And.intro ?_ ?_ | intro _ | refine exP ?_ ?_); all_goals try omega
  refine call_pure (words_ok _ _ _) (Subs.refl _) rfl (by simp [chk, hG]) ?_
  simp only [go_sem, hG, hOw]
  (repeat' with_reducible first | refine And.intro ?_ ?_ | intro _ | refine exP ?_ ?_); all_goals try omega
  refine call_pure (words_ok _ _ _) (Subs.refl _) rfl (by simp [chk, hG]) ?_
  simp only [go_sem, hG, hOw]
  (repeat' with_reducible first | refine And.intro ?_ ?_ | intro _ | refine exP ?_ ?_); all_goals try omega
  refine call_pure (words_ok _ _ _) (Subs.refl _) rfl (by simp [chk, hG]) ?_
  simp only [go_sem, hG, hOw]
  (repeat' with_reducible first | refine And.intro ?_ ?_ | intro _ | refine exP ?_ ?_); all_goals try omega
  exact ⟨[(0, some 15)], by (simp only [EndT, go_sem, entH, entH1, nilArr, obOK, apart, injR, coverR]) <;> simp [wThe,wSea,wIs,wOld,wAnd,wA,ex0,exT,exS,chE,hpE,srE,seE,lnE,strE,lns,strs,i64,bl]⟩
theorem round_away : Tri Tryd.prog 6 [] [] (fun lo => .ret (.agg [chs lo ex0.text, hps lo ex0.helpers, srs lo ex0.shares, .own 0 0 2 2]) [(0, .arr 45 2 [[bl true, lns lo [[wThe, wSea, wIs, wOld], [wOld, wA, wSea]]], [bl true, lns lo [[wOld, wThe, wSea], [wSea, wAnd, wSea]]]])]) := by
  have := round_tri
  simpa [ex0, exS, seE] using this
theorem round_more : Tri Tryd.prog 6 [] [] (fun lo => .ret (.agg [chs lo ex0.text, hps lo ex0.helpers, srs lo ex0.shares, .own 0 0 2 2])
    [(0, .box [bl true, lns lo [[wThe, wSea, wIs, wOld], [wOld, wA, wSea]], bl true, .own 1 0 2 1]), (1, .arr 46 1 [lnE lo [wOld, wThe, wSea], lnE lo [wSea, wAnd, wSea]])]) := by
  refine tri_intro (fun i => [26,28].contains i) Tryd.func6 Tryd.ntmps6 rfl (by kernel_rfl) (by simp) rfl (by decide) fun G hG hOw hNm => ?_; simp only [go_sem, hG, hOw]
  (repeat' with_reducible first | refine And.intro ?_ ?_ | intro _ | refine exP ?_ ?_); all_goals try omega
  refine call_pure (words_ok _ _ _) (Subs.refl _) rfl (by simp [chk, hG]) ?_
  simp only [go_sem, hG, hOw]
  (repeat' with_reducible first | refine And.intro ?_ ?_ | intro _ | refine exP ?_ ?_); all_goals try omega
  refine call_pure (words_ok _ _ _) (Subs.refl _) rfl (by simp [chk, hG]) ?_
  simp only [go_sem, hG, hOw]
  (repeat' with_reducible first | refine And.intro ?_ ?_ | intro _ | refine exP ?_ ?_); all_goals try omega
  refine call_pure (words_ok _ _ _) (Subs.refl _) rfl (by simp [chk, hG]) ?_
  simp only [go_sem, hG, hOw]
  (repeat' with_reducible first | refine And.intro ?_ ?_ | intro _ | refine exP ?_ ?_); all_goals try omega
  refine call_pure (words_ok _ _ _) (Subs.refl _) rfl (by simp [chk, hG]) ?_
  simp only [go_sem, hG, hOw]
  (repeat' with_reducible first | refine And.intro ?_ ?_ | intro _ | refine exP ?_ ?_); all_goals try omega
  exact ⟨[(0, some 28), (1, some 26)], by (simp only [EndT, go_sem, entH, entH1, nilArr, obOK, apart, injR, coverR]) <;> simp [wThe,wSea,wIs,wOld,wAnd,wA,ex0,exT,exS,chE,hpE,srE,seE,lnE,strE,lns,strs,i64,bl]⟩
open Go Pm
set_option maxHeartbeats 4000000
set_option maxRecDepth 100000
theorem HandExamples_ok : Gives Tryd.prog 3 [] (fun _ => bl true) := by
  refine pure_introL (fun _ => false) Tryd.func3 Tryd.ntmps3 rfl (by kernel_rfl) (by simp) rfl (by decide) fun G hG hOw hNm hZ hB => ?_
  have sl : ∀ sz l, Pm.Sub (V.lst G.lo sz l) (V.lst 0 sz l) := fun _ _ => .lo (Nat.zero_le _)
  refine vcN_sound 1 _ _ ?_
  simp only [go_sem, hG, hOw]
  refine vcN_sound 2 _ _ ?_
  simp only [go_sem, hG, hOw]
  refine call_pure alive_ok (Subs.refl _) rfl (by simp [chk, hG]) ?_
  simp only [go_sem, hG, hOw]
  refine vcN_sound 1 _ _ ?_
  simp only [go_sem, hG, hOw]
  refine call_pure round_ok (Subs.refl _) rfl (by simp [chk, hG]) ?_
  simp only [go_sem, hG, hOw]
  refine call_pureA (HBack_ok ex0 ex0_ok 0) ?_
  simp (maxSteps := 2000000) only [go_sem, hG, hOw, fx_back.1, fx_back.2]
  refine semL_ent (s' := St.of [(1, i64 9), (2, i64 0)] []) (entA [] (by (simp only [go_sem]) <;> simp [sl]) (by (simp only [go_sem, entH, entH1, nilArr, obOK]) <;> simp [sl])) ?_
  refine vcN_sound 1 _ _ ?_
  simp only [go_sem, hG, hOw]
  refine call_pure round_ok (Subs.refl _) rfl (by simp [chk, hG]) ?_
  simp only [go_sem, hG, hOw]
  refine call_pureA (HTorn_ok ex0 ex0_ok) ?_
  simp (maxSteps := 2000000) only [go_sem, hG, hOw, ex_torn0, ex_round]
  refine semL_ent (s' := St.of [(1, i64 9), (2, i64 0), (3, ints 0 []), (4, i64 0)] []) (entA [] (by (simp only [go_sem]) <;> simp [sl]) (by (simp only [go_sem, entH, entH1, nilArr, obOK]) <;> simp [sl])) ?_
  refine vcN_sound 1 _ _ ?_
  simp only [go_sem, hG, hOw]
  refine call_pure round_ok (Subs.refl _) rfl (by simp [chk, hG]) ?_
  simp only [go_sem, hG, hOw]
  refine call_pureA (Explain_ok ex0 ex0_ok 1) ?_
  simp (maxSteps := 2000000) only [go_sem, hG, hOw, fx_expl1.1, fx_expl1.2]
  refine semL_ent (s' := St.of [(1, i64 9), (2, i64 0), (3, ints 0 []), (4, i64 0), (5, fts 0 []), (6, i64 0)] []) (entA [] (by (simp only [go_sem]) <;> simp [sl]) (by (simp only [go_sem, entH, entH1, nilArr, obOK]) <;> simp [sl])) ?_
  refine vcN_sound 2 _ _ ?_
  simp only [go_sem, hG, hOw]
  refine semL_ent (s' := St.of [] []) (ent_of0 (by (simp only [go_sem]) <;> simp) hNm) ?_
  refine vcN_sound 1 _ _ ?_
  simp only [go_sem, hG, hOw]
  refine call_tri [] [(0, 90)] (round_odd) (by (simp only [go_sem]) <;> simp) (by (simp only [go_sem, entH, entH1, nilArr, obOK]) <;> simp) (by simp [injR, apart, toR]) (by simp [coverR, usH, toR]) (by simp [uniqP, lkR, toR]) (by simp [chk, hG]) ?_
  simp only [go_sem, hG, hOw]
  refine call_tri [] [(0, 91)] (round_away) (by (simp only [go_sem]) <;> simp) (by (simp only [go_sem, entH, entH1, nilArr, obOK]) <;> simp) (by simp [injR, apart, toR]) (by simp [coverR, usH, toR]) (by simp [uniqP, lkR, toR]) (by simp [chk, hG]) ?_
  simp only [go_sem, hG, hOw]
  refine call_pure round_ok (Subs.refl _) rfl (by simp [chk, hG]) ?_
  simp only [go_sem, hG, hOw]
  refine semL_ent (s' := St.of [(7, .ptr 7 0), (8, .ptr 8 0), (9, .ptr 9 0)] [(7, .box [chs G.lo ex0.text, hps G.lo ex0.helpers, .own 90 0 2 4, ses G.lo ex0.sheets]), (90, .arr 42 4 [[i64 0, i64 1, i64 0, i64 3], [i64 1, i64 2, i64 1, i64 4]]),
    (8, .box [chs G.lo ex0.text, hps G.lo ex0.helpers, srs G.lo ex0.shares, .own 91 0 2 2]), (91, .arr 45 2 [[bl true, lns G.lo [[wThe, wSea, wIs, wOld], [wOld, wA, wSea]]], [bl true, lns G.lo [[wOld, wThe, wSea], [wSea, wAnd, wSea]]]]),
    (9, .box [chs G.lo ex0.text, hps G.lo ex0.helpers, srs G.lo ex0.shares, ses G.lo ex0.sheets])]) (entA [(7, some 7), (90, some 90), (8, some 8), (91, some 91), (9, some 9)]) ?_
  refine vcN_sound 3 _ _ ?_
  simp only [go_sem, hG, hOw]
  (repeat' with_reducible first | refine And.intro ?_ ?_ | intro _ | refine exP ?_ ?_); all_goals try omega
  refine semL_ent (s' := St.of [(7, .ptr 7 0), (8, .ptr 8 0), (9, .ptr 9 0)] [(7, .box [chs G.lo ex0.text, hps G.lo ex0.helpers, srs G.lo exOdd.shares, ses G.lo ex0.sheets]), (8, .box [chs G.lo ex0.text, hps G.lo ex0.helpers, srs G.lo ex0.shares, .lst G.lo 2 [[bl true, lns G.lo [[wThe, wSea, wIs, wOld], [wOld, wA, wSea]]], [bl false, .v (.slice none 0 0)]]]), (9, .box [.v (.slice none 0 0), hps G.lo ex0.helpers, srs G.lo ex0.shares, ses G.lo ex0.sheets])]) (ent_frz (fun i => [90, 91].contains i) (entA [(7, some 7), (8, some 8), (9, some 9)] (by (simp only [go_sem]) <;> simp [exOdd,srE,i64]) (by (simp only [go_sem, entH, entH1, nilArr, obOK]) <;> simp [exOdd,srE,i64]))) ?_
  have hT : Pm.Sub (chs G.lo ex0.text) (chs 0 ex0.text) := by first | exact Subs.refl _ | (repeat' (first | exact Subs.nil | exact Sub.refl _ | exact Sub.lo (Nat.zero_le _) | refine Subs.cons ?_ ?_ | refine Subs.agg ?_ | refine Subs.fp ?_ | refine Subs.tup ?_ | refine Sub.map (Nat.zero_le _) (fun _ => ?_)))
  have hH : Pm.Sub (hps G.lo ex0.helpers) (hps 0 ex0.helpers) := by first | exact Subs.refl _ | (repeat' (first | exact Subs.nil | exact Sub.refl _ | exact Sub.lo (Nat.zero_le _) | refine Subs.cons ?_ ?_ | refine Subs.agg ?_ | refine Subs.fp ?_ | refine Subs.tup ?_ | refine Sub.map (Nat.zero_le _) (fun _ => ?_)))
  have hS : Pm.Sub (srs G.lo ex0.shares) (srs 0 ex0.shares) := by first | exact Subs.refl _ | (repeat' (first | exact Subs.nil | exact Sub.refl _ | exact Sub.lo (Nat.zero_le _) | refine Subs.cons ?_ ?_ | refine Subs.agg ?_ | refine Subs.fp ?_ | refine Subs.tup ?_ | refine Sub.map (Nat.zero_le _) (fun _ => ?_)))
  have hO : Pm.Sub (srs G.lo exOdd.shares) (srs 0 exOdd.shares) := by first | exact Subs.refl _ | (repeat' (first | exact Subs.nil | exact Sub.refl _ | exact Sub.lo (Nat.zero_le _) | refine Subs.cons ?_ ?_ | refine Subs.agg ?_ | refine Subs.fp ?_ | refine Subs.tup ?_ | refine Sub.map (Nat.zero_le _) (fun _ => ?_)))
  have hX : Pm.Sub (ses G.lo ex0.sheets) (ses 0 ex0.sheets) := by first | exact Subs.refl _ | (repeat' (first | exact Subs.nil | exact Sub.refl _ | exact Sub.lo (Nat.zero_le _) | refine Subs.cons ?_ ?_ | refine Subs.agg ?_ | refine Subs.fp ?_ | refine Subs.tup ?_ | refine Sub.map (Nat.zero_le _) (fun _ => ?_)))
  have hW : Pm.Sub (.lst G.lo 2 [[bl true, lns G.lo [[wThe, wSea, wIs, wOld], [wOld, wA, wSea]]], [bl false, .v (.slice none 0 0)]]) (ses 0 exAway.sheets) := Sub.lst (Nat.zero_le _) rfl fun i x x' h1 h2 => match i with
    | 0 => by simp [exAway, seE] at h1 h2; subst h1; subst h2; exact .cons (Sub.refl _) (.cons (by first | exact Subs.refl _ | (repeat' (first | exact Subs.nil | exact Sub.refl _ | exact Sub.lo (Nat.zero_le _) | refine Subs.cons ?_ ?_ | refine Subs.agg ?_ | refine Subs.fp ?_ | refine Subs.tup ?_ | refine Sub.map (Nat.zero_le _) (fun _ => ?_)))) .nil)
    | 1 => by simp [exAway, seE] at h1 h2; subst h1; subst h2; exact .cons (Sub.refl _) (.cons (.nil _ _) .nil)
    | i + 2 => by simp at h1
  have sOdd : Subs [.agg [chs G.lo ex0.text, hps G.lo ex0.helpers, srs G.lo exOdd.shares, ses G.lo ex0.sheets]] [roE 0 exOdd] := .cons (Subs.agg (.cons hT (.cons hH (.cons hO (.cons hX .nil))))) .nil
  have rAway : Pm.Sub (.agg [chs G.lo ex0.text, hps G.lo ex0.helpers, srs G.lo ex0.shares, .lst G.lo 2 [[bl true, lns G.lo [[wThe, wSea, wIs, wOld], [wOld, wA, wSea]]], [bl false, .v (.slice none 0 0)]]]) (roE 0 exAway) := Subs.agg (.cons hT (.cons hH (.cons hS (.cons hW .nil))))
  have sNoT : Subs [.agg [.v (.slice none 0 0), hps G.lo ex0.helpers, srs G.lo ex0.shares, ses G.lo ex0.sheets]] [roE 0 exNoT] := .cons (Subs.agg (.cons (.nil _ _) (.cons hH (.cons hS (.cons hX .nil))))) .nil
  refine vcN_sound 1 _ _ ?_
  simp only [go_sem, hG, hOw]
  refine call_pure round_ok (Subs.refl _) rfl (by simp [chk, hG]) ?_
  simp only [go_sem, hG, hOw]
  refine call_pureA (Line_ok ex0 ex0_ok 3) ?_
  simp (maxSteps := 2000000) only [go_sem, hG, hOw, fx_line]
  refine semL_ent (s' := St.of [(7, .ptr 7 0), (8, .ptr 8 0), (9, .ptr 9 0), (2, i64 2)] [(7, .box [chs G.lo ex0.text, hps G.lo ex0.helpers, srs G.lo exOdd.shares, ses G.lo ex0.sheets]), (8, .box [chs G.lo ex0.text, hps G.lo ex0.helpers, srs G.lo ex0.shares, .lst G.lo 2 [[bl true, lns G.lo [[wThe, wSea, wIs, wOld], [wOld, wA, wSea]]], [bl false, .v (.slice none 0 0)]]]), (9, .box [.v (.slice none 0 0), hps G.lo ex0.helpers, srs G.lo ex0.shares, ses G.lo ex0.sheets])]) (entA [(7, some 7), (8, some 8), (9, some 9)]) ?_
  refine vcN_sound 1 _ _ ?_
  simp only [go_sem, hG, hOw]
  refine call_pure round_ok (Subs.refl _) rfl (by simp [chk, hG]) ?_
  simp only [go_sem, hG, hOw]
  refine call_pureA (HBack_ok ex0 ex0_ok 2) ?_
  simp (maxSteps := 2000000) only [go_sem, hG, hOw, fx_back2]
  refine semL_ent (s' := St.of [(7, .ptr 7 0), (8, .ptr 8 0), (9, .ptr 9 0), (2, i64 2), (4, i64 2)] [(7, .box [chs G.lo ex0.text, hps G.lo ex0.helpers, srs G.lo exOdd.shares, ses G.lo ex0.sheets]), (8, .box [chs G.lo ex0.text, hps G.lo ex0.helpers, srs G.lo ex0.shares, .lst G.lo 2 [[bl true, lns G.lo [[wThe, wSea, wIs, wOld], [wOld, wA, wSea]]], [bl false, .v (.slice none 0 0)]]]), (9, .box [.v (.slice none 0 0), hps G.lo ex0.helpers, srs G.lo ex0.shares, ses G.lo ex0.sheets])]) (entA [(7, some 7), (8, some 8), (9, some 9)]) ?_
  refine vcN_sound 1 _ _ ?_
  simp only [go_sem, hG, hOw]
  refine call_pure (Explain_ok exAway exAway_ok 1) (.cons rAway (.cons (Sub.refl _) .nil)) rfl (by simp [chk, hG]) ?_
  simp (maxSteps := 2000000) only [go_sem, hG, hOw, fx_away.1]
  refine semL_ent (s' := St.of [(7, .ptr 7 0), (8, .ptr 8 0), (9, .ptr 9 0), (2, i64 2), (4, i64 2), (6, i64 6)] [(7, .box [chs G.lo ex0.text, hps G.lo ex0.helpers, srs G.lo exOdd.shares, ses G.lo ex0.sheets]), (8, .box [chs G.lo ex0.text, hps G.lo ex0.helpers, srs G.lo ex0.shares, .lst G.lo 2 [[bl true, lns G.lo [[wThe, wSea, wIs, wOld], [wOld, wA, wSea]]], [bl false, .v (.slice none 0 0)]]]), (9, .box [.v (.slice none 0 0), hps G.lo ex0.helpers, srs G.lo ex0.shares, ses G.lo ex0.sheets])]) (entA [(7, some 7), (8, some 8), (9, some 9)]) ?_
  refine vcN_sound 1 _ _ ?_
  simp only [go_sem, hG, hOw]
  refine call_pure (Explain_ok exAway exAway_ok (-1)) (.cons rAway (.cons (Sub.refl _) .nil)) rfl (by simp [chk, hG]) ?_
  simp (maxSteps := 2000000) only [go_sem, hG, hOw, fx_away.2]
  refine semL_ent (s' := St.of [(7, .ptr 7 0), (8, .ptr 8 0), (9, .ptr 9 0), (2, i64 2), (4, i64 2), (6, i64 6), (11, i64 2)] [(7, .box [chs G.lo ex0.text, hps G.lo ex0.helpers, srs G.lo exOdd.shares, ses G.lo ex0.sheets]), (8, .box [chs G.lo ex0.text, hps G.lo ex0.helpers, srs G.lo ex0.shares, .lst G.lo 2 [[bl true, lns G.lo [[wThe, wSea, wIs, wOld], [wOld, wA, wSea]]], [bl false, .v (.slice none 0 0)]]]), (9, .box [.v (.slice none 0 0), hps G.lo ex0.helpers, srs G.lo ex0.shares, ses G.lo ex0.sheets])]) (entA [(7, some 7), (8, some 8), (9, some 9)]) ?_
  refine vcN_sound 1 _ _ ?_
  simp only [go_sem, hG, hOw]
  refine call_pure round_ok (Subs.refl _) rfl (by simp [chk, hG]) ?_
  simp only [go_sem, hG, hOw]
  refine call_pureA (Doubt_ok ex0 ex0_ok ⟨12, 0⟩ (by decide)) ?_
  simp (maxSteps := 2000000) only [go_sem, hG, hOw, fx_doubt]
  refine semL_ent (s' := St.of [(7, .ptr 7 0), (8, .ptr 8 0), (9, .ptr 9 0), (2, i64 2), (4, i64 2), (6, i64 6), (11, i64 2), (13, i64 30)] [(7, .box [chs G.lo ex0.text, hps G.lo ex0.helpers, srs G.lo exOdd.shares, ses G.lo ex0.sheets]), (8, .box [chs G.lo ex0.text, hps G.lo ex0.helpers, srs G.lo ex0.shares, .lst G.lo 2 [[bl true, lns G.lo [[wThe, wSea, wIs, wOld], [wOld, wA, wSea]]], [bl false, .v (.slice none 0 0)]]]), (9, .box [.v (.slice none 0 0), hps G.lo ex0.helpers, srs G.lo ex0.shares, ses G.lo ex0.sheets])]) (entA [(7, some 7), (8, some 8), (9, some 9)]) ?_
  refine vcN_sound 1 _ _ ?_
  simp only [go_sem, hG, hOw]
  refine call_pure round_ok (Subs.refl _) rfl (by simp [chk, hG]) ?_
  simp only [go_sem, hG, hOw]
  refine call_pureA (Assign_ok ex0 ex0_ok 401) ?_
  simp (maxSteps := 2000000) only [go_sem, hG, hOw, fx_asg]
  refine semL_ent (s' := St.of [(7, .ptr 7 0), (8, .ptr 8 0), (9, .ptr 9 0), (2, i64 2), (4, i64 2), (6, i64 6), (11, i64 2), (13, i64 30), (16, i64 2)] [(7, .box [chs G.lo ex0.text, hps G.lo ex0.helpers, srs G.lo exOdd.shares, ses G.lo ex0.sheets]), (8, .box [chs G.lo ex0.text, hps G.lo ex0.helpers, srs G.lo ex0.shares, .lst G.lo 2 [[bl true, lns G.lo [[wThe, wSea, wIs, wOld], [wOld, wA, wSea]]], [bl false, .v (.slice none 0 0)]]]), (9, .box [.v (.slice none 0 0), hps G.lo ex0.helpers, srs G.lo ex0.shares, ses G.lo ex0.sheets])]) (entA [(7, some 7), (8, some 8), (9, some 9)]) ?_
  refine vcN_sound 1 _ _ ?_
  simp only [go_sem, hG, hOw]
  refine call_pure (HGaps_ok exOdd exOdd_ok) sOdd rfl (by simp [chk, hG]) ?_
  simp (maxSteps := 2000000) only [go_sem, hG, hOw, fx_odd]
  refine semL_ent (s' := St.of [(7, .ptr 7 0), (8, .ptr 8 0), (9, .ptr 9 0), (2, i64 2), (4, i64 2), (6, i64 6), (11, i64 2), (13, i64 30), (16, i64 2), (18, i64 50)] [(7, .box [chs G.lo ex0.text, hps G.lo ex0.helpers, srs G.lo exOdd.shares, ses G.lo ex0.sheets]), (8, .box [chs G.lo ex0.text, hps G.lo ex0.helpers, srs G.lo ex0.shares, .lst G.lo 2 [[bl true, lns G.lo [[wThe, wSea, wIs, wOld], [wOld, wA, wSea]]], [bl false, .v (.slice none 0 0)]]]), (9, .box [.v (.slice none 0 0), hps G.lo ex0.helpers, srs G.lo ex0.shares, ses G.lo ex0.sheets])]) (entA [(7, some 7), (8, some 8), (9, some 9)]) ?_
  refine vcN_sound 1 _ _ ?_
  simp only [go_sem, hG, hOw]
  refine call_pure (HAgain_ok exNoT exNoT_ok) sNoT rfl (by simp [chk, hG]) ?_
  simp (maxSteps := 2000000) only [go_sem, hG, hOw, fx_not]
  refine semL_ent (s' := St.of [(7, .ptr 7 0), (8, .ptr 8 0), (9, .ptr 9 0), (2, i64 2), (4, i64 2), (6, i64 6), (11, i64 2), (13, i64 30), (16, i64 2), (18, i64 50), (20, i64 10)] [(7, .box [chs G.lo ex0.text, hps G.lo ex0.helpers, srs G.lo exOdd.shares, ses G.lo ex0.sheets]), (8, .box [chs G.lo ex0.text, hps G.lo ex0.helpers, srs G.lo ex0.shares, .lst G.lo 2 [[bl true, lns G.lo [[wThe, wSea, wIs, wOld], [wOld, wA, wSea]]], [bl false, .v (.slice none 0 0)]]]), (9, .box [.v (.slice none 0 0), hps G.lo ex0.helpers, srs G.lo ex0.shares, ses G.lo ex0.sheets])]) (entA [(7, some 7), (8, some 8), (9, some 9)]) ?_
  refine vcN_sound 1 _ _ ?_
  simp only [go_sem, hG, hOw]
  refine call_tri [] [(0, 92), (1, 93)] (round_more) (by (simp only [go_sem]) <;> simp) (by (simp only [go_sem, entH, entH1, nilArr, obOK]) <;> simp) (by simp [injR, apart, toR]) (by simp [coverR, usH, toR]) (by simp [uniqP, lkR, toR]) (by simp [chk, hG]) ?_
  simp only [go_sem, hG, hOw]
  refine semL_ent (s' := St.of [(7, .ptr 7 0), (8, .ptr 8 0), (9, .ptr 9 0), (2, i64 2), (4, i64 2), (6, i64 6), (11, i64 2), (13, i64 30), (16, i64 2), (18, i64 50), (20, i64 10), (21, .ptr 21 0)] [(7, .box [chs G.lo ex0.text, hps G.lo ex0.helpers, srs G.lo exOdd.shares, ses G.lo ex0.sheets]), (8, .box [chs G.lo ex0.text, hps G.lo ex0.helpers, srs G.lo ex0.shares, .lst G.lo 2 [[bl true, lns G.lo [[wThe, wSea, wIs, wOld], [wOld, wA, wSea]]], [bl false, .v (.slice none 0 0)]]]), (9, .box [.v (.slice none 0 0), hps G.lo ex0.helpers, srs G.lo ex0.shares, ses G.lo ex0.sheets]), (21, .box [chs G.lo ex0.text, hps G.lo ex0.helpers, srs G.lo ex0.shares, .own 92 0 2 2]), (92, .box [bl true, lns G.lo [[wThe, wSea, wIs, wOld], [wOld, wA, wSea]], bl true, .own 93 0 2 1]), (93, .arr 46 1 [lnE G.lo [wOld, wThe, wSea], lnE G.lo [wSea, wAnd, wSea]])]) (entA [(7, some 7), (8, some 8), (9, some 9), (21, some 21), (92, some 92), (93, some 93)]) ?_
  refine vcN_sound 1 _ _ ?_
  simp only [go_sem, hG, hOw]
  refine semC_drawT [(124, [21]), (126, [21]), (129, [92]), (133, [133, 93]), (135, [92])] mixed (by kernel_rfl) ?_
  have t1 : Int.toNat (1 : Int) = 1 := rfl
  simp (maxSteps := 2000000) only [go_sem, hG, hOw, t1, Nat.reduceMul]
  (repeat' with_reducible first | refine And.intro ?_ ?_ | intro _ | refine exP ?_ ?_); all_goals try omega
  refine ⟨_, callGives (words_ok _ _ _) (Subs.refl _) rfl, ?_⟩
  simp (maxSteps := 2000000) only [go_sem, hG, hOw, t1, Nat.reduceMul]
  (repeat' with_reducible first | refine And.intro ?_ ?_ | intro _ | refine exP ?_ ?_); all_goals try omega
  refine semL_ent (s' := St.of [(7, .ptr 7 0), (8, .ptr 8 0), (9, .ptr 9 0), (2, i64 2), (4, i64 2), (6, i64 6), (11, i64 2), (13, i64 30), (16, i64 2), (18, i64 50), (20, i64 10), (21, .ptr 21 0)] [(7, .box [chs G.lo ex0.text, hps G.lo ex0.helpers, srs G.lo exOdd.shares, ses G.lo ex0.sheets]), (8, .box [chs G.lo ex0.text, hps G.lo ex0.helpers, srs G.lo ex0.shares, .lst G.lo 2 [[bl true, lns G.lo [[wThe, wSea, wIs, wOld], [wOld, wA, wSea]]], [bl false, .v (.slice none 0 0)]]]), (9, .box [.v (.slice none 0 0), hps G.lo ex0.helpers, srs G.lo ex0.shares, ses G.lo ex0.sheets]), (21, .box [chs G.lo ex0.text, hps G.lo ex0.helpers, srs G.lo ex0.shares, ses G.lo exMore.sheets])]) (ent_frz (fun i => [92, 133].contains i) (entA [(7, some 7), (8, some 8), (9, some 9), (21, some 21)] (by (simp only [go_sem]) <;> simp [exMore,seE,wNo,bl,lns,lnE,strs,strE]) (by (simp only [go_sem, entH, entH1, nilArr, obOK]) <;> simp [exMore,seE,wNo,bl,lns,lnE,strs,strE]))) ?_
  have hM : Pm.Sub (ses G.lo exMore.sheets) (ses 0 exMore.sheets) := by first | exact Subs.refl _ | (repeat' (first | exact Subs.nil | exact Sub.refl _ | exact Sub.lo (Nat.zero_le _) | refine Subs.cons ?_ ?_ | refine Subs.agg ?_ | refine Subs.fp ?_ | refine Subs.tup ?_ | refine Sub.map (Nat.zero_le _) (fun _ => ?_)))
  refine vcN_sound 1 _ _ ?_
  simp only [go_sem, hG, hOw]
  refine call_pure (Explain_ok exMore exMore_ok 1) (.cons (Subs.agg (.cons hT (.cons hH (.cons hS (.cons hM .nil))))) (.cons (Sub.refl _) .nil)) rfl (by simp [chk, hG]) ?_
  simp (maxSteps := 2000000) only [go_sem, hG, hOw, fx_more]
  refine semL_ent (s' := St.of [(7, .ptr 7 0), (8, .ptr 8 0), (9, .ptr 9 0), (2, i64 2), (4, i64 2), (6, i64 6), (11, i64 2), (13, i64 30), (16, i64 2), (18, i64 50), (20, i64 10), (23, i64 6)] [(7, .box [chs G.lo ex0.text, hps G.lo ex0.helpers, srs G.lo exOdd.shares, ses G.lo ex0.sheets]), (8, .box [chs G.lo ex0.text, hps G.lo ex0.helpers, srs G.lo ex0.shares, .lst G.lo 2 [[bl true, lns G.lo [[wThe, wSea, wIs, wOld], [wOld, wA, wSea]]], [bl false, .v (.slice none 0 0)]]]), (9, .box [.v (.slice none 0 0), hps G.lo ex0.helpers, srs G.lo ex0.shares, ses G.lo ex0.sheets])]) (entA [(7, some 7), (8, some 8), (9, some 9)]) ?_
  refine vcN_sound 2 _ _ ?_
  simp only [go_sem, hG, hOw]
  refine call_pure (Check_ok exOdd exOdd_ok) sOdd rfl (by simp [chk, hG]) ?_
  simp (maxSteps := 2000000) only [go_sem, hG, hOw, fx_odd]
  refine call_pure (Check_ok exAway exAway_ok) (.cons rAway .nil) rfl (by simp [chk, hG]) ?_
  simp (maxSteps := 2000000) only [go_sem, hG, hOw, fx_check]
  all_goals trace_state
  all_goals sorry
end Go.Proofs.YtagfopbijboajaaDoor
