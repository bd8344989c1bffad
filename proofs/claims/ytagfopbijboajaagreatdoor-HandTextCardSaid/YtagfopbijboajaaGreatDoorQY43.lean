import Derived.Test.YtagfopbijboajaaGreatDoorQY17
import Derived.Test.YtagfopbijboajaaGreatDoorQY21
import Derived.Test.YtagfopbijboajaaGreatDoorQY42
namespace Go.Proofs.YtagfopbijboajaaGreatDoor
open Go Pm
set_option linter.unusedSimpArgs false
set_option linter.unusedVariables false
set_option maxHeartbeats 4000000
set_option maxRecDepth 100000
structure FA (D : List Sl) (st : St) : Prop where
  h1 : st.get 1 = strs 0 [wSea, wAnd, wSea]
  h2 : st.get 2 = i64 0
  h3 : st.get 3 = i64 15
  h4 : st.get 4 = i64 0
  h5 : st.get 5 = ints 0 [0]
  h6 : st.get 6 = i64 0
  h7 : st.get 7 = prs 0 [(0, 1)]
  h8 : st.get 8 = i64 0
  h9 : st.get 9 = ints 0 [0]
  h10 : st.get 10 = i64 0
  h11 : st.get 11 = ints 0 []
  h12 : st.get 12 = prs 0 [(0, 1)]
  h13 : st.get 13 = i64 0
  h14 : st.get 14 = fts 0 [⟨3, 1, 1⟩]
  h15 : st.get 15 = i64 0
  h16 : st.get 16 = fts 0 [⟨2, 0, 0⟩]
  h17 : st.get 17 = i64 0
  h18 : st.get 18 = sls 0 D
  h19 : st.get 19 = i64 0
  h20 : st.get 20 = ints 0 [0]
  h21 : st.get 21 = i64 26
  h22 : st.get 22 = i64 0
  h23 : st.get 23 = ints 0 []
  h24 : st.get 24 = i64 0
section
variable {D : List Sl} {G : Gh} {Q : Exit → St → Prop} {all : List Oper} {rest : List Oper} {st : St} (hd4 : D.length = 4) (hG : G.n = 193) (hOw : G.ow = fun _ => false) (hF : FA D st)
include hd4 hG hOw hF
set_option linter.unusedSectionVars false
theorem al_0 (o2 : Oper) (p2 : all[2]? = some o2) (q2 : o2.dst = some 85) (hrest : ∀ st' : St, FA D st' → st'.get 91 = bl true → vcOps Tryz.prog G all Q rest st') :
    vcOps Tryz.prog G all Q ((((opsR 12 Tryz.f4.body).drop 0).take 9) ++ rest) st := by
  obtain ⟨h1, h2, h3, h4, h5, h6, h7, h8, h9, h10, h11, h12, h13, h14, h15, h16, h17, h18, h19, h20, h21, h22, h23, h24⟩ := hF
  unfold opsR Tryz.f4
  simp only [rgOf, bkOf, rgO, bkO, orElse, Option.bind_some, Option.getD_some, reduceIte, Nat.reduceEqDiff, reduceCtorEq]
  simp only [List.append_eq, List.cons_append, List.nil_append, List.drop_succ_cons, List.drop_zero, List.take_succ_cons, List.take_zero]
  simp (maxSteps := 2000000) only [go_sem, hG, hOw, p2, q2, h1, h2, h3, h4, h5, h6, h7, h8, h9, h10, h11, h12, h13, h14, h15, h16, h17, h18, h19, h20, h21, h22, h23, h24]
  (repeat' with_reducible first | refine And.intro ?_ ?_ | intro _ | refine exP ?_ ?_); all_goals try omega
  refine call_pure (words_ok _ _ _) (Subs.refl _) rfl (by simp [chk, hG]) ?_
  simp (maxSteps := 2000000) only [go_sem, hG, hOw, hd4, p2, q2, h1, h2, h3, h4, h5, h6, h7, h8, h9, h10, h11, h12, h13, h14, h15, h16, h17, h18, h19, h20, h21, h22, h23, h24]
  (repeat' with_reducible first | refine And.intro ?_ ?_ | intro _ | refine exP ?_ ?_); all_goals try omega
  refine call_pure (sw_self [wSea, wAnd, wSea]) (.cons (.lo (Nat.zero_le _)) (.cons (.lo (Nat.zero_le _)) .nil)) rfl (by simp [chk, hG]) ?_
  simp (maxSteps := 2000000) only [go_sem, hG, hOw, hd4, p2, q2, h1, h2, h3, h4, h5, h6, h7, h8, h9, h10, h11, h12, h13, h14, h15, h16, h17, h18, h19, h20, h21, h22, h23, h24]
  (repeat' with_reducible first | refine And.intro ?_ ?_ | intro _ | refine exP ?_ ?_); all_goals try omega
  refine hrest _ ⟨by simp only [go_sem, h1, reduceIte, Nat.reduceEqDiff], by simp only [go_sem, h2, reduceIte, Nat.reduceEqDiff], by simp only [go_sem, h3, reduceIte, Nat.reduceEqDiff], by simp only [go_sem, h4, reduceIte, Nat.reduceEqDiff], by simp only [go_sem, h5, reduceIte, Nat.reduceEqDiff], by simp only [go_sem, h6, reduceIte, Nat.reduceEqDiff], by simp only [go_sem, h7, reduceIte, Nat.reduceEqDiff], by simp only [go_sem, h8, reduceIte, Nat.reduceEqDiff], by simp only [go_sem, h9, reduceIte, Nat.reduceEqDiff], by simp only [go_sem, h10, reduceIte, Nat.reduceEqDiff], by simp only [go_sem, h11, reduceIte, Nat.reduceEqDiff], by simp only [go_sem, h12, reduceIte, Nat.reduceEqDiff], by simp only [go_sem, h13, reduceIte, Nat.reduceEqDiff], by simp only [go_sem, h14, reduceIte, Nat.reduceEqDiff], by simp only [go_sem, h15, reduceIte, Nat.reduceEqDiff], by simp only [go_sem, h16, reduceIte, Nat.reduceEqDiff], by simp only [go_sem, h17, reduceIte, Nat.reduceEqDiff], by simp only [go_sem, h18, reduceIte, Nat.reduceEqDiff], by simp only [go_sem, h19, reduceIte, Nat.reduceEqDiff], by simp only [go_sem, h20, reduceIte, Nat.reduceEqDiff], by simp only [go_sem, h21, reduceIte, Nat.reduceEqDiff], by simp only [go_sem, h22, reduceIte, Nat.reduceEqDiff], by simp only [go_sem, h23, reduceIte, Nat.reduceEqDiff], by simp only [go_sem, h24, reduceIte, Nat.reduceEqDiff]⟩ ?_
  simp only [go_sem, reduceIte, Nat.reduceEqDiff, p2, q2, h1, h2, h3, h4, h5, h6, h7, h8, h9, h10, h11, h12, h13, h14, h15, h16, h17, h18, h19, h20, h21, h22, h23, h24]
theorem al_1 (o8 : Oper) (p8 : all[8]? = some o8) (q8 : o8.dst = some 91) (o12 : Oper) (p12 : all[12]? = some o12) (q12 : o12.dst = some 95) (o16 : Oper) (p16 : all[16]? = some o16) (q16 : o16.dst = some 99) (o20 : Oper) (p20 : all[20]? = some o20) (q20 : o20.dst = some 103) (hb : st.get 91 = bl true) (hrest : ∀ st' : St, FA D st' → st'.get 108 = bl true → vcOps Tryz.prog G all Q rest st') :
    vcOps Tryz.prog G all Q ((((opsR 12 Tryz.f4.body).drop 9).take 17) ++ rest) st := by
  obtain ⟨h1, h2, h3, h4, h5, h6, h7, h8, h9, h10, h11, h12, h13, h14, h15, h16, h17, h18, h19, h20, h21, h22, h23, h24⟩ := hF
  unfold opsR Tryz.f4
  simp only [rgOf, bkOf, rgO, bkO, orElse, Option.bind_some, Option.getD_some, reduceIte, Nat.reduceEqDiff, reduceCtorEq]
  simp only [List.append_eq, List.cons_append, List.nil_append, List.drop_succ_cons, List.drop_zero, List.take_succ_cons, List.take_zero]
  simp (maxSteps := 2000000) only [go_sem, hG, hOw, p8, q8, p12, q12, p16, q16, p20, q20, hb, h1, h2, h3, h4, h5, h6, h7, h8, h9, h10, h11, h12, h13, h14, h15, h16, h17, h18, h19, h20, h21, h22, h23, h24]
  (repeat' with_reducible first | refine And.intro ?_ ?_ | intro _ | refine exP ?_ ?_); all_goals try omega
  refine call_pure (si_self [0]) (.cons (.lo (Nat.zero_le _)) (.cons (.lo (Nat.zero_le _)) .nil)) rfl (by simp [chk, hG]) ?_
  simp (maxSteps := 2000000) only [go_sem, hG, hOw, hd4, p8, q8, p12, q12, p16, q16, p20, q20, hb, h1, h2, h3, h4, h5, h6, h7, h8, h9, h10, h11, h12, h13, h14, h15, h16, h17, h18, h19, h20, h21, h22, h23, h24]
  (repeat' with_reducible first | refine And.intro ?_ ?_ | intro _ | refine exP ?_ ?_); all_goals try omega
  refine hrest _ ⟨by simp only [go_sem, h1, reduceIte, Nat.reduceEqDiff], by simp only [go_sem, h2, reduceIte, Nat.reduceEqDiff], by simp only [go_sem, h3, reduceIte, Nat.reduceEqDiff], by simp only [go_sem, h4, reduceIte, Nat.reduceEqDiff], by simp only [go_sem, h5, reduceIte, Nat.reduceEqDiff], by simp only [go_sem, h6, reduceIte, Nat.reduceEqDiff], by simp only [go_sem, h7, reduceIte, Nat.reduceEqDiff], by simp only [go_sem, h8, reduceIte, Nat.reduceEqDiff], by simp only [go_sem, h9, reduceIte, Nat.reduceEqDiff], by simp only [go_sem, h10, reduceIte, Nat.reduceEqDiff], by simp only [go_sem, h11, reduceIte, Nat.reduceEqDiff], by simp only [go_sem, h12, reduceIte, Nat.reduceEqDiff], by simp only [go_sem, h13, reduceIte, Nat.reduceEqDiff], by simp only [go_sem, h14, reduceIte, Nat.reduceEqDiff], by simp only [go_sem, h15, reduceIte, Nat.reduceEqDiff], by simp only [go_sem, h16, reduceIte, Nat.reduceEqDiff], by simp only [go_sem, h17, reduceIte, Nat.reduceEqDiff], by simp only [go_sem, h18, reduceIte, Nat.reduceEqDiff], by simp only [go_sem, h19, reduceIte, Nat.reduceEqDiff], by simp only [go_sem, h20, reduceIte, Nat.reduceEqDiff], by simp only [go_sem, h21, reduceIte, Nat.reduceEqDiff], by simp only [go_sem, h22, reduceIte, Nat.reduceEqDiff], by simp only [go_sem, h23, reduceIte, Nat.reduceEqDiff], by simp only [go_sem, h24, reduceIte, Nat.reduceEqDiff]⟩ ?_
  simp only [go_sem, reduceIte, Nat.reduceEqDiff, p8, q8, p12, q12, p16, q16, p20, q20, hb, h1, h2, h3, h4, h5, h6, h7, h8, h9, h10, h11, h12, h13, h14, h15, h16, h17, h18, h19, h20, h21, h22, h23, h24]
theorem al_2 (o25 : Oper) (p25 : all[25]? = some o25) (q25 : o25.dst = some 108) (o29 : Oper) (p29 : all[29]? = some o29) (q29 : o29.dst = some 112) (hb : st.get 108 = bl true) (hrest : ∀ st' : St, FA D st' → st'.get 118 = bl true → vcOps Tryz.prog G all Q rest st') :
    vcOps Tryz.prog G all Q ((((opsR 12 Tryz.f4.body).drop 26).take 10) ++ rest) st := by
  obtain ⟨h1, h2, h3, h4, h5, h6, h7, h8, h9, h10, h11, h12, h13, h14, h15, h16, h17, h18, h19, h20, h21, h22, h23, h24⟩ := hF
  unfold opsR Tryz.f4
  simp only [rgOf, bkOf, rgO, bkO, orElse, Option.bind_some, Option.getD_some, reduceIte, Nat.reduceEqDiff, reduceCtorEq]
  simp only [List.append_eq, List.cons_append, List.nil_append, List.drop_succ_cons, List.drop_zero, List.take_succ_cons, List.take_zero]
  simp (maxSteps := 2000000) only [go_sem, hG, hOw, p25, q25, p29, q29, hb, h1, h2, h3, h4, h5, h6, h7, h8, h9, h10, h11, h12, h13, h14, h15, h16, h17, h18, h19, h20, h21, h22, h23, h24]
  (repeat' with_reducible first | refine And.intro ?_ ?_ | intro _ | refine exP ?_ ?_); all_goals try omega
  refine call_pure (sp_self [(0, 1)]) (.cons (.lo (Nat.zero_le _)) (.cons (.lo (Nat.zero_le _)) .nil)) rfl (by simp [chk, hG]) ?_
  simp (maxSteps := 2000000) only [go_sem, hG, hOw, hd4, p25, q25, p29, q29, hb, h1, h2, h3, h4, h5, h6, h7, h8, h9, h10, h11, h12, h13, h14, h15, h16, h17, h18, h19, h20, h21, h22, h23, h24]
  (repeat' with_reducible first | refine And.intro ?_ ?_ | intro _ | refine exP ?_ ?_); all_goals try omega
  refine hrest _ ⟨by simp only [go_sem, h1, reduceIte, Nat.reduceEqDiff], by simp only [go_sem, h2, reduceIte, Nat.reduceEqDiff], by simp only [go_sem, h3, reduceIte, Nat.reduceEqDiff], by simp only [go_sem, h4, reduceIte, Nat.reduceEqDiff], by simp only [go_sem, h5, reduceIte, Nat.reduceEqDiff], by simp only [go_sem, h6, reduceIte, Nat.reduceEqDiff], by simp only [go_sem, h7, reduceIte, Nat.reduceEqDiff], by simp only [go_sem, h8, reduceIte, Nat.reduceEqDiff], by simp only [go_sem, h9, reduceIte, Nat.reduceEqDiff], by simp only [go_sem, h10, reduceIte, Nat.reduceEqDiff], by simp only [go_sem, h11, reduceIte, Nat.reduceEqDiff], by simp only [go_sem, h12, reduceIte, Nat.reduceEqDiff], by simp only [go_sem, h13, reduceIte, Nat.reduceEqDiff], by simp only [go_sem, h14, reduceIte, Nat.reduceEqDiff], by simp only [go_sem, h15, reduceIte, Nat.reduceEqDiff], by simp only [go_sem, h16, reduceIte, Nat.reduceEqDiff], by simp only [go_sem, h17, reduceIte, Nat.reduceEqDiff], by simp only [go_sem, h18, reduceIte, Nat.reduceEqDiff], by simp only [go_sem, h19, reduceIte, Nat.reduceEqDiff], by simp only [go_sem, h20, reduceIte, Nat.reduceEqDiff], by simp only [go_sem, h21, reduceIte, Nat.reduceEqDiff], by simp only [go_sem, h22, reduceIte, Nat.reduceEqDiff], by simp only [go_sem, h23, reduceIte, Nat.reduceEqDiff], by simp only [go_sem, h24, reduceIte, Nat.reduceEqDiff]⟩ ?_
  simp only [go_sem, reduceIte, Nat.reduceEqDiff, p25, q25, p29, q29, hb, h1, h2, h3, h4, h5, h6, h7, h8, h9, h10, h11, h12, h13, h14, h15, h16, h17, h18, h19, h20, h21, h22, h23, h24]
theorem al_3 (o35 : Oper) (p35 : all[35]? = some o35) (q35 : o35.dst = some 118) (o39 : Oper) (p39 : all[39]? = some o39) (q39 : o39.dst = some 122) (hb : st.get 118 = bl true) (hrest : ∀ st' : St, FA D st' → st'.get 127 = bl true → vcOps Tryz.prog G all Q rest st') :
    vcOps Tryz.prog G all Q ((((opsR 12 Tryz.f4.body).drop 36).take 9) ++ rest) st := by
  obtain ⟨h1, h2, h3, h4, h5, h6, h7, h8, h9, h10, h11, h12, h13, h14, h15, h16, h17, h18, h19, h20, h21, h22, h23, h24⟩ := hF
  unfold opsR Tryz.f4
  simp only [rgOf, bkOf, rgO, bkO, orElse, Option.bind_some, Option.getD_some, reduceIte, Nat.reduceEqDiff, reduceCtorEq]
  simp only [List.append_eq, List.cons_append, List.nil_append, List.drop_succ_cons, List.drop_zero, List.take_succ_cons, List.take_zero]
  simp (maxSteps := 2000000) only [go_sem, hG, hOw, p35, q35, p39, q39, hb, h1, h2, h3, h4, h5, h6, h7, h8, h9, h10, h11, h12, h13, h14, h15, h16, h17, h18, h19, h20, h21, h22, h23, h24]
  (repeat' with_reducible first | refine And.intro ?_ ?_ | intro _ | refine exP ?_ ?_); all_goals try omega
  refine call_pure (si_self [0]) (.cons (.lo (Nat.zero_le _)) (.cons (.lo (Nat.zero_le _)) .nil)) rfl (by simp [chk, hG]) ?_
  simp (maxSteps := 2000000) only [go_sem, hG, hOw, hd4, p35, q35, p39, q39, hb, h1, h2, h3, h4, h5, h6, h7, h8, h9, h10, h11, h12, h13, h14, h15, h16, h17, h18, h19, h20, h21, h22, h23, h24]
  (repeat' with_reducible first | refine And.intro ?_ ?_ | intro _ | refine exP ?_ ?_); all_goals try omega
  refine hrest _ ⟨by simp only [go_sem, h1, reduceIte, Nat.reduceEqDiff], by simp only [go_sem, h2, reduceIte, Nat.reduceEqDiff], by simp only [go_sem, h3, reduceIte, Nat.reduceEqDiff], by simp only [go_sem, h4, reduceIte, Nat.reduceEqDiff], by simp only [go_sem, h5, reduceIte, Nat.reduceEqDiff], by simp only [go_sem, h6, reduceIte, Nat.reduceEqDiff], by simp only [go_sem, h7, reduceIte, Nat.reduceEqDiff], by simp only [go_sem, h8, reduceIte, Nat.reduceEqDiff], by simp only [go_sem, h9, reduceIte, Nat.reduceEqDiff], by simp only [go_sem, h10, reduceIte, Nat.reduceEqDiff], by simp only [go_sem, h11, reduceIte, Nat.reduceEqDiff], by simp only [go_sem, h12, reduceIte, Nat.reduceEqDiff], by simp only [go_sem, h13, reduceIte, Nat.reduceEqDiff], by simp only [go_sem, h14, reduceIte, Nat.reduceEqDiff], by simp only [go_sem, h15, reduceIte, Nat.reduceEqDiff], by simp only [go_sem, h16, reduceIte, Nat.reduceEqDiff], by simp only [go_sem, h17, reduceIte, Nat.reduceEqDiff], by simp only [go_sem, h18, reduceIte, Nat.reduceEqDiff], by simp only [go_sem, h19, reduceIte, Nat.reduceEqDiff], by simp only [go_sem, h20, reduceIte, Nat.reduceEqDiff], by simp only [go_sem, h21, reduceIte, Nat.reduceEqDiff], by simp only [go_sem, h22, reduceIte, Nat.reduceEqDiff], by simp only [go_sem, h23, reduceIte, Nat.reduceEqDiff], by simp only [go_sem, h24, reduceIte, Nat.reduceEqDiff]⟩ ?_
  simp only [go_sem, reduceIte, Nat.reduceEqDiff, p35, q35, p39, q39, hb, h1, h2, h3, h4, h5, h6, h7, h8, h9, h10, h11, h12, h13, h14, h15, h16, h17, h18, h19, h20, h21, h22, h23, h24]
theorem al_4 (o44 : Oper) (p44 : all[44]? = some o44) (q44 : o44.dst = some 127) (o48 : Oper) (p48 : all[48]? = some o48) (q48 : o48.dst = some 131) (o53 : Oper) (p53 : all[53]? = some o53) (q53 : o53.dst = some 136) (hb : st.get 127 = bl true) (hrest : ∀ st' : St, FA D st' → st'.get 142 = bl true → vcOps Tryz.prog G all Q rest st') :
    vcOps Tryz.prog G all Q ((((opsR 12 Tryz.f4.body).drop 45).take 15) ++ rest) st := by
  obtain ⟨h1, h2, h3, h4, h5, h6, h7, h8, h9, h10, h11, h12, h13, h14, h15, h16, h17, h18, h19, h20, h21, h22, h23, h24⟩ := hF
  unfold opsR Tryz.f4
  simp only [rgOf, bkOf, rgO, bkO, orElse, Option.bind_some, Option.getD_some, reduceIte, Nat.reduceEqDiff, reduceCtorEq]
  simp only [List.append_eq, List.cons_append, List.nil_append, List.drop_succ_cons, List.drop_zero, List.take_succ_cons, List.take_zero]
  simp (maxSteps := 2000000) only [go_sem, hG, hOw, p44, q44, p48, q48, p53, q53, hb, h1, h2, h3, h4, h5, h6, h7, h8, h9, h10, h11, h12, h13, h14, h15, h16, h17, h18, h19, h20, h21, h22, h23, h24]
  (repeat' with_reducible first | refine And.intro ?_ ?_ | intro _ | refine exP ?_ ?_); all_goals try omega
  refine call_pure (sp_self [(0, 1)]) (.cons (.lo (Nat.zero_le _)) (.cons (.lo (Nat.zero_le _)) .nil)) rfl (by simp [chk, hG]) ?_
  simp (maxSteps := 2000000) only [go_sem, hG, hOw, hd4, p44, q44, p48, q48, p53, q53, hb, h1, h2, h3, h4, h5, h6, h7, h8, h9, h10, h11, h12, h13, h14, h15, h16, h17, h18, h19, h20, h21, h22, h23, h24]
  (repeat' with_reducible first | refine And.intro ?_ ?_ | intro _ | refine exP ?_ ?_); all_goals try omega
  refine hrest _ ⟨by simp only [go_sem, h1, reduceIte, Nat.reduceEqDiff], by simp only [go_sem, h2, reduceIte, Nat.reduceEqDiff], by simp only [go_sem, h3, reduceIte, Nat.reduceEqDiff], by simp only [go_sem, h4, reduceIte, Nat.reduceEqDiff], by simp only [go_sem, h5, reduceIte, Nat.reduceEqDiff], by simp only [go_sem, h6, reduceIte, Nat.reduceEqDiff], by simp only [go_sem, h7, reduceIte, Nat.reduceEqDiff], by simp only [go_sem, h8, reduceIte, Nat.reduceEqDiff], by simp only [go_sem, h9, reduceIte, Nat.reduceEqDiff], by simp only [go_sem, h10, reduceIte, Nat.reduceEqDiff], by simp only [go_sem, h11, reduceIte, Nat.reduceEqDiff], by simp only [go_sem, h12, reduceIte, Nat.reduceEqDiff], by simp only [go_sem, h13, reduceIte, Nat.reduceEqDiff], by simp only [go_sem, h14, reduceIte, Nat.reduceEqDiff], by simp only [go_sem, h15, reduceIte, Nat.reduceEqDiff], by simp only [go_sem, h16, reduceIte, Nat.reduceEqDiff], by simp only [go_sem, h17, reduceIte, Nat.reduceEqDiff], by simp only [go_sem, h18, reduceIte, Nat.reduceEqDiff], by simp only [go_sem, h19, reduceIte, Nat.reduceEqDiff], by simp only [go_sem, h20, reduceIte, Nat.reduceEqDiff], by simp only [go_sem, h21, reduceIte, Nat.reduceEqDiff], by simp only [go_sem, h22, reduceIte, Nat.reduceEqDiff], by simp only [go_sem, h23, reduceIte, Nat.reduceEqDiff], by simp only [go_sem, h24, reduceIte, Nat.reduceEqDiff]⟩ ?_
  simp only [go_sem, reduceIte, Nat.reduceEqDiff, p44, q44, p48, q48, p53, q53, hb, h1, h2, h3, h4, h5, h6, h7, h8, h9, h10, h11, h12, h13, h14, h15, h16, h17, h18, h19, h20, h21, h22, h23, h24]
theorem al_5 (o59 : Oper) (p59 : all[59]? = some o59) (q59 : o59.dst = some 142) (o63 : Oper) (p63 : all[63]? = some o63) (q63 : o63.dst = some 146) (hb : st.get 142 = bl true) (hrest : ∀ st' : St, FA D st' → st'.get 152 = bl true → vcOps Tryz.prog G all Q rest st') :
    vcOps Tryz.prog G all Q ((((opsR 12 Tryz.f4.body).drop 60).take 10) ++ rest) st := by
  obtain ⟨h1, h2, h3, h4, h5, h6, h7, h8, h9, h10, h11, h12, h13, h14, h15, h16, h17, h18, h19, h20, h21, h22, h23, h24⟩ := hF
  unfold opsR Tryz.f4
  simp only [rgOf, bkOf, rgO, bkO, orElse, Option.bind_some, Option.getD_some, reduceIte, Nat.reduceEqDiff, reduceCtorEq]
  simp only [List.append_eq, List.cons_append, List.nil_append, List.drop_succ_cons, List.drop_zero, List.take_succ_cons, List.take_zero]
  simp (maxSteps := 2000000) only [go_sem, hG, hOw, p59, q59, p63, q63, hb, h1, h2, h3, h4, h5, h6, h7, h8, h9, h10, h11, h12, h13, h14, h15, h16, h17, h18, h19, h20, h21, h22, h23, h24]
  (repeat' with_reducible first | refine And.intro ?_ ?_ | intro _ | refine exP ?_ ?_); all_goals try omega
  refine call_pure (sf_self [⟨3, 1, 1⟩]) (.cons (.lo (Nat.zero_le _)) (.cons (.lo (Nat.zero_le _)) .nil)) rfl (by simp [chk, hG]) ?_
  simp (maxSteps := 2000000) only [go_sem, hG, hOw, hd4, p59, q59, p63, q63, hb, h1, h2, h3, h4, h5, h6, h7, h8, h9, h10, h11, h12, h13, h14, h15, h16, h17, h18, h19, h20, h21, h22, h23, h24]
  (repeat' with_reducible first | refine And.intro ?_ ?_ | intro _ | refine exP ?_ ?_); all_goals try omega
  refine hrest _ ⟨by simp only [go_sem, h1, reduceIte, Nat.reduceEqDiff], by simp only [go_sem, h2, reduceIte, Nat.reduceEqDiff], by simp only [go_sem, h3, reduceIte, Nat.reduceEqDiff], by simp only [go_sem, h4, reduceIte, Nat.reduceEqDiff], by simp only [go_sem, h5, reduceIte, Nat.reduceEqDiff], by simp only [go_sem, h6, reduceIte, Nat.reduceEqDiff], by simp only [go_sem, h7, reduceIte, Nat.reduceEqDiff], by simp only [go_sem, h8, reduceIte, Nat.reduceEqDiff], by simp only [go_sem, h9, reduceIte, Nat.reduceEqDiff], by simp only [go_sem, h10, reduceIte, Nat.reduceEqDiff], by simp only [go_sem, h11, reduceIte, Nat.reduceEqDiff], by simp only [go_sem, h12, reduceIte, Nat.reduceEqDiff], by simp only [go_sem, h13, reduceIte, Nat.reduceEqDiff], by simp only [go_sem, h14, reduceIte, Nat.reduceEqDiff], by simp only [go_sem, h15, reduceIte, Nat.reduceEqDiff], by simp only [go_sem, h16, reduceIte, Nat.reduceEqDiff], by simp only [go_sem, h17, reduceIte, Nat.reduceEqDiff], by simp only [go_sem, h18, reduceIte, Nat.reduceEqDiff], by simp only [go_sem, h19, reduceIte, Nat.reduceEqDiff], by simp only [go_sem, h20, reduceIte, Nat.reduceEqDiff], by simp only [go_sem, h21, reduceIte, Nat.reduceEqDiff], by simp only [go_sem, h22, reduceIte, Nat.reduceEqDiff], by simp only [go_sem, h23, reduceIte, Nat.reduceEqDiff], by simp only [go_sem, h24, reduceIte, Nat.reduceEqDiff]⟩ ?_
  simp only [go_sem, reduceIte, Nat.reduceEqDiff, p59, q59, p63, q63, hb, h1, h2, h3, h4, h5, h6, h7, h8, h9, h10, h11, h12, h13, h14, h15, h16, h17, h18, h19, h20, h21, h22, h23, h24]
theorem al_6 (o69 : Oper) (p69 : all[69]? = some o69) (q69 : o69.dst = some 152) (o73 : Oper) (p73 : all[73]? = some o73) (q73 : o73.dst = some 156) (hb : st.get 152 = bl true) (hrest : ∀ st' : St, FA D st' → st'.get 162 = bl true → vcOps Tryz.prog G all Q rest st') :
    vcOps Tryz.prog G all Q ((((opsR 12 Tryz.f4.body).drop 70).take 10) ++ rest) st := by
  obtain ⟨h1, h2, h3, h4, h5, h6, h7, h8, h9, h10, h11, h12, h13, h14, h15, h16, h17, h18, h19, h20, h21, h22, h23, h24⟩ := hF
  unfold opsR Tryz.f4
  simp only [rgOf, bkOf, rgO, bkO, orElse, Option.bind_some, Option.getD_some, reduceIte, Nat.reduceEqDiff, reduceCtorEq]
  simp only [List.append_eq, List.cons_append, List.nil_append, List.drop_succ_cons, List.drop_zero, List.take_succ_cons, List.take_zero]
  simp (maxSteps := 2000000) only [go_sem, hG, hOw, p69, q69, p73, q73, hb, h1, h2, h3, h4, h5, h6, h7, h8, h9, h10, h11, h12, h13, h14, h15, h16, h17, h18, h19, h20, h21, h22, h23, h24]
  (repeat' with_reducible first | refine And.intro ?_ ?_ | intro _ | refine exP ?_ ?_); all_goals try omega
  refine call_pure (sf_self [⟨2, 0, 0⟩]) (.cons (.lo (Nat.zero_le _)) (.cons (.lo (Nat.zero_le _)) .nil)) rfl (by simp [chk, hG]) ?_
  simp (maxSteps := 2000000) only [go_sem, hG, hOw, hd4, p69, q69, p73, q73, hb, h1, h2, h3, h4, h5, h6, h7, h8, h9, h10, h11, h12, h13, h14, h15, h16, h17, h18, h19, h20, h21, h22, h23, h24]
  (repeat' with_reducible first | refine And.intro ?_ ?_ | intro _ | refine exP ?_ ?_); all_goals try omega
  refine hrest _ ⟨by simp only [go_sem, h1, reduceIte, Nat.reduceEqDiff], by simp only [go_sem, h2, reduceIte, Nat.reduceEqDiff], by simp only [go_sem, h3, reduceIte, Nat.reduceEqDiff], by simp only [go_sem, h4, reduceIte, Nat.reduceEqDiff], by simp only [go_sem, h5, reduceIte, Nat.reduceEqDiff], by simp only [go_sem, h6, reduceIte, Nat.reduceEqDiff], by simp only [go_sem, h7, reduceIte, Nat.reduceEqDiff], by simp only [go_sem, h8, reduceIte, Nat.reduceEqDiff], by simp only [go_sem, h9, reduceIte, Nat.reduceEqDiff], by simp only [go_sem, h10, reduceIte, Nat.reduceEqDiff], by simp only [go_sem, h11, reduceIte, Nat.reduceEqDiff], by simp only [go_sem, h12, reduceIte, Nat.reduceEqDiff], by simp only [go_sem, h13, reduceIte, Nat.reduceEqDiff], by simp only [go_sem, h14, reduceIte, Nat.reduceEqDiff], by simp only [go_sem, h15, reduceIte, Nat.reduceEqDiff], by simp only [go_sem, h16, reduceIte, Nat.reduceEqDiff], by simp only [go_sem, h17, reduceIte, Nat.reduceEqDiff], by simp only [go_sem, h18, reduceIte, Nat.reduceEqDiff], by simp only [go_sem, h19, reduceIte, Nat.reduceEqDiff], by simp only [go_sem, h20, reduceIte, Nat.reduceEqDiff], by simp only [go_sem, h21, reduceIte, Nat.reduceEqDiff], by simp only [go_sem, h22, reduceIte, Nat.reduceEqDiff], by simp only [go_sem, h23, reduceIte, Nat.reduceEqDiff], by simp only [go_sem, h24, reduceIte, Nat.reduceEqDiff]⟩ ?_
  simp only [go_sem, reduceIte, Nat.reduceEqDiff, p69, q69, p73, q73, hb, h1, h2, h3, h4, h5, h6, h7, h8, h9, h10, h11, h12, h13, h14, h15, h16, h17, h18, h19, h20, h21, h22, h23, h24]
theorem al_7 (o79 : Oper) (p79 : all[79]? = some o79) (q79 : o79.dst = some 162) (o83 : Oper) (p83 : all[83]? = some o83) (q83 : o83.dst = some 166) (o88 : Oper) (p88 : all[88]? = some o88) (q88 : o88.dst = some 171) (o92 : Oper) (p92 : all[92]? = some o92) (q92 : o92.dst = some 175) (hb : st.get 162 = bl true) (hrest : ∀ st' : St, FA D st' → st'.get 180 = bl true → vcOps Tryz.prog G all Q rest st') :
    vcOps Tryz.prog G all Q ((((opsR 12 Tryz.f4.body).drop 80).take 18) ++ rest) st := by
  obtain ⟨h1, h2, h3, h4, h5, h6, h7, h8, h9, h10, h11, h12, h13, h14, h15, h16, h17, h18, h19, h20, h21, h22, h23, h24⟩ := hF
  unfold opsR Tryz.f4
  simp only [rgOf, bkOf, rgO, bkO, orElse, Option.bind_some, Option.getD_some, reduceIte, Nat.reduceEqDiff, reduceCtorEq]
  simp only [List.append_eq, List.cons_append, List.nil_append, List.drop_succ_cons, List.drop_zero, List.take_succ_cons, List.take_zero]
  simp (maxSteps := 2000000) only [go_sem, hG, hOw, p79, q79, p83, q83, p88, q88, p92, q92, hb, h1, h2, h3, h4, h5, h6, h7, h8, h9, h10, h11, h12, h13, h14, h15, h16, h17, h18, h19, h20, h21, h22, h23, h24]
  (repeat' with_reducible first | refine And.intro ?_ ?_ | intro _ | refine exP ?_ ?_); all_goals try omega
  refine call_pure (si_self [0]) (.cons (.lo (Nat.zero_le _)) (.cons (.lo (Nat.zero_le _)) .nil)) rfl (by simp [chk, hG]) ?_
  simp (maxSteps := 2000000) only [go_sem, hG, hOw, hd4, p79, q79, p83, q83, p88, q88, p92, q92, hb, h1, h2, h3, h4, h5, h6, h7, h8, h9, h10, h11, h12, h13, h14, h15, h16, h17, h18, h19, h20, h21, h22, h23, h24]
  (repeat' with_reducible first | refine And.intro ?_ ?_ | intro _ | refine exP ?_ ?_); all_goals try omega
  refine hrest _ ⟨by simp only [go_sem, h1, reduceIte, Nat.reduceEqDiff], by simp only [go_sem, h2, reduceIte, Nat.reduceEqDiff], by simp only [go_sem, h3, reduceIte, Nat.reduceEqDiff], by simp only [go_sem, h4, reduceIte, Nat.reduceEqDiff], by simp only [go_sem, h5, reduceIte, Nat.reduceEqDiff], by simp only [go_sem, h6, reduceIte, Nat.reduceEqDiff], by simp only [go_sem, h7, reduceIte, Nat.reduceEqDiff], by simp only [go_sem, h8, reduceIte, Nat.reduceEqDiff], by simp only [go_sem, h9, reduceIte, Nat.reduceEqDiff], by simp only [go_sem, h10, reduceIte, Nat.reduceEqDiff], by simp only [go_sem, h11, reduceIte, Nat.reduceEqDiff], by simp only [go_sem, h12, reduceIte, Nat.reduceEqDiff], by simp only [go_sem, h13, reduceIte, Nat.reduceEqDiff], by simp only [go_sem, h14, reduceIte, Nat.reduceEqDiff], by simp only [go_sem, h15, reduceIte, Nat.reduceEqDiff], by simp only [go_sem, h16, reduceIte, Nat.reduceEqDiff], by simp only [go_sem, h17, reduceIte, Nat.reduceEqDiff], by simp only [go_sem, h18, reduceIte, Nat.reduceEqDiff], by simp only [go_sem, h19, reduceIte, Nat.reduceEqDiff], by simp only [go_sem, h20, reduceIte, Nat.reduceEqDiff], by simp only [go_sem, h21, reduceIte, Nat.reduceEqDiff], by simp only [go_sem, h22, reduceIte, Nat.reduceEqDiff], by simp only [go_sem, h23, reduceIte, Nat.reduceEqDiff], by simp only [go_sem, h24, reduceIte, Nat.reduceEqDiff]⟩ ?_
  simp only [go_sem, reduceIte, Nat.reduceEqDiff, p79, q79, p83, q83, p88, q88, p92, q92, hb, h1, h2, h3, h4, h5, h6, h7, h8, h9, h10, h11, h12, h13, h14, h15, h16, h17, h18, h19, h20, h21, h22, h23, h24]
theorem al_8 (o97 : Oper) (p97 : all[97]? = some o97) (q97 : o97.dst = some 180) (o101 : Oper) (p101 : all[101]? = some o101) (q101 : o101.dst = some 184) (o105 : Oper) (p105 : all[105]? = some o105) (q105 : o105.dst = some 188) (hb : st.get 180 = bl true) (hrest : ∀ st' : St, FA D st' → st'.get 0 = bl true → vcOps Tryz.prog G all Q rest st') :
    vcOps Tryz.prog G all Q ((((opsR 12 Tryz.f4.body).drop 98).take 13) ++ rest) st := by
  obtain ⟨h1, h2, h3, h4, h5, h6, h7, h8, h9, h10, h11, h12, h13, h14, h15, h16, h17, h18, h19, h20, h21, h22, h23, h24⟩ := hF
  unfold opsR Tryz.f4
  simp only [rgOf, bkOf, rgO, bkO, orElse, Option.bind_some, Option.getD_some, reduceIte, Nat.reduceEqDiff, reduceCtorEq]
  simp only [List.append_eq, List.cons_append, List.nil_append, List.drop_succ_cons, List.drop_zero, List.take_succ_cons, List.take_zero]
  simp (maxSteps := 2000000) only [go_sem, hG, hOw, p97, q97, p101, q101, p105, q105, hb, h1, h2, h3, h4, h5, h6, h7, h8, h9, h10, h11, h12, h13, h14, h15, h16, h17, h18, h19, h20, h21, h22, h23, h24]
  (repeat' with_reducible first | refine And.intro ?_ ?_ | intro _ | refine exP ?_ ?_); all_goals try omega
  refine hrest _ ⟨by simp only [go_sem, h1, reduceIte, Nat.reduceEqDiff], by simp only [go_sem, h2, reduceIte, Nat.reduceEqDiff], by simp only [go_sem, h3, reduceIte, Nat.reduceEqDiff], by simp only [go_sem, h4, reduceIte, Nat.reduceEqDiff], by simp only [go_sem, h5, reduceIte, Nat.reduceEqDiff], by simp only [go_sem, h6, reduceIte, Nat.reduceEqDiff], by simp only [go_sem, h7, reduceIte, Nat.reduceEqDiff], by simp only [go_sem, h8, reduceIte, Nat.reduceEqDiff], by simp only [go_sem, h9, reduceIte, Nat.reduceEqDiff], by simp only [go_sem, h10, reduceIte, Nat.reduceEqDiff], by simp only [go_sem, h11, reduceIte, Nat.reduceEqDiff], by simp only [go_sem, h12, reduceIte, Nat.reduceEqDiff], by simp only [go_sem, h13, reduceIte, Nat.reduceEqDiff], by simp only [go_sem, h14, reduceIte, Nat.reduceEqDiff], by simp only [go_sem, h15, reduceIte, Nat.reduceEqDiff], by simp only [go_sem, h16, reduceIte, Nat.reduceEqDiff], by simp only [go_sem, h17, reduceIte, Nat.reduceEqDiff], by simp only [go_sem, h18, reduceIte, Nat.reduceEqDiff], by simp only [go_sem, h19, reduceIte, Nat.reduceEqDiff], by simp only [go_sem, h20, reduceIte, Nat.reduceEqDiff], by simp only [go_sem, h21, reduceIte, Nat.reduceEqDiff], by simp only [go_sem, h22, reduceIte, Nat.reduceEqDiff], by simp only [go_sem, h23, reduceIte, Nat.reduceEqDiff], by simp only [go_sem, h24, reduceIte, Nat.reduceEqDiff]⟩ ?_
  simp only [go_sem, reduceIte, Nat.reduceEqDiff, p97, q97, p101, q101, p105, q105, hb, h1, h2, h3, h4, h5, h6, h7, h8, h9, h10, h11, h12, h13, h14, h15, h16, h17, h18, h19, h20, h21, h22, h23, h24]
end
theorem ag_2 : ∃ og, (opsR 12 Tryz.f4.body)[2]? = some og ∧ og.dst = some 85 := ⟨_, rfl, rfl⟩
theorem ag_8 : ∃ og, (opsR 12 Tryz.f4.body)[8]? = some og ∧ og.dst = some 91 := ⟨_, rfl, rfl⟩
theorem ag_12 : ∃ og, (opsR 12 Tryz.f4.body)[12]? = some og ∧ og.dst = some 95 := ⟨_, rfl, rfl⟩
theorem ag_16 : ∃ og, (opsR 12 Tryz.f4.body)[16]? = some og ∧ og.dst = some 99 := ⟨_, rfl, rfl⟩
theorem ag_20 : ∃ og, (opsR 12 Tryz.f4.body)[20]? = some og ∧ og.dst = some 103 := ⟨_, rfl, rfl⟩
theorem ag_25 : ∃ og, (opsR 12 Tryz.f4.body)[25]? = some og ∧ og.dst = some 108 := ⟨_, rfl, rfl⟩
theorem ag_29 : ∃ og, (opsR 12 Tryz.f4.body)[29]? = some og ∧ og.dst = some 112 := ⟨_, rfl, rfl⟩
theorem ag_35 : ∃ og, (opsR 12 Tryz.f4.body)[35]? = some og ∧ og.dst = some 118 := ⟨_, rfl, rfl⟩
theorem ag_39 : ∃ og, (opsR 12 Tryz.f4.body)[39]? = some og ∧ og.dst = some 122 := ⟨_, rfl, rfl⟩
theorem ag_44 : ∃ og, (opsR 12 Tryz.f4.body)[44]? = some og ∧ og.dst = some 127 := ⟨_, rfl, rfl⟩
theorem ag_48 : ∃ og, (opsR 12 Tryz.f4.body)[48]? = some og ∧ og.dst = some 131 := ⟨_, rfl, rfl⟩
theorem ag_53 : ∃ og, (opsR 12 Tryz.f4.body)[53]? = some og ∧ og.dst = some 136 := ⟨_, rfl, rfl⟩
theorem ag_59 : ∃ og, (opsR 12 Tryz.f4.body)[59]? = some og ∧ og.dst = some 142 := ⟨_, rfl, rfl⟩
theorem ag_63 : ∃ og, (opsR 12 Tryz.f4.body)[63]? = some og ∧ og.dst = some 146 := ⟨_, rfl, rfl⟩
theorem ag_69 : ∃ og, (opsR 12 Tryz.f4.body)[69]? = some og ∧ og.dst = some 152 := ⟨_, rfl, rfl⟩
theorem ag_73 : ∃ og, (opsR 12 Tryz.f4.body)[73]? = some og ∧ og.dst = some 156 := ⟨_, rfl, rfl⟩
theorem ag_79 : ∃ og, (opsR 12 Tryz.f4.body)[79]? = some og ∧ og.dst = some 162 := ⟨_, rfl, rfl⟩
theorem ag_83 : ∃ og, (opsR 12 Tryz.f4.body)[83]? = some og ∧ og.dst = some 166 := ⟨_, rfl, rfl⟩
theorem ag_88 : ∃ og, (opsR 12 Tryz.f4.body)[88]? = some og ∧ og.dst = some 171 := ⟨_, rfl, rfl⟩
theorem ag_92 : ∃ og, (opsR 12 Tryz.f4.body)[92]? = some og ∧ og.dst = some 175 := ⟨_, rfl, rfl⟩
theorem ag_97 : ∃ og, (opsR 12 Tryz.f4.body)[97]? = some og ∧ og.dst = some 180 := ⟨_, rfl, rfl⟩
theorem ag_101 : ∃ og, (opsR 12 Tryz.f4.body)[101]? = some og ∧ og.dst = some 184 := ⟨_, rfl, rfl⟩
theorem ag_105 : ∃ og, (opsR 12 Tryz.f4.body)[105]? = some og ∧ og.dst = some 188 := ⟨_, rfl, rfl⟩
theorem alive_12 (D : List Sl) (hd4 : D.length = 4) {G : Gh} (hG : G.n = 193) (hOw : G.ow = fun _ => false) {lo : Nat} :
    SemL Tryz.prog G ((flat (Tryz.f4.body.getD .skip)).drop 12) (St.of [(1, strs 0 [wSea, wAnd, wSea]), (2, i64 0), (3, i64 15), (4, i64 0), (5, ints 0 [0]), (6, i64 0), (7, prs 0 [(0, 1)]), (8, i64 0), (9, ints 0 [0]), (10, i64 0), (11, ints 0 []), (12, prs 0 [(0, 1)]), (13, i64 0), (14, fts 0 [⟨3, 1, 1⟩]), (15, i64 0), (16, fts 0 [⟨2, 0, 0⟩]), (17, i64 0), (18, sls 0 D), (19, i64 0), (20, ints 0 [0]), (21, i64 26), (22, i64 0), (23, ints 0 []), (24, i64 0)] []) (EndsAt Tryz.prog lo [.tmp 0] (bl true)) := by
  rw [show (flat (Tryz.f4.body.getD .skip)).drop 12 = [.region 12 (opsR 12 Tryz.f4.body).toArray false, .ret] by kernel_rfl]
  refine vcN_sound 2 _ _ ?_
  unfold vcN
  rw [vc_region]
  generalize hall : opsR 12 Tryz.f4.body = all
  have e : all = ((opsR 12 Tryz.f4.body).drop 0).take 9 ++ (((opsR 12 Tryz.f4.body).drop 9).take 17 ++ (((opsR 12 Tryz.f4.body).drop 26).take 10 ++ (((opsR 12 Tryz.f4.body).drop 36).take 9 ++ (((opsR 12 Tryz.f4.body).drop 45).take 15 ++ (((opsR 12 Tryz.f4.body).drop 60).take 10 ++ (((opsR 12 Tryz.f4.body).drop 70).take 10 ++ (((opsR 12 Tryz.f4.body).drop 80).take 18 ++ (((opsR 12 Tryz.f4.body).drop 98).take 13 ++ [])))))))) := by rw [← hall]; kernel_rfl
  obtain ⟨o2, p2, q2⟩ := ag_2
  obtain ⟨o8, p8, q8⟩ := ag_8
  obtain ⟨o12, p12, q12⟩ := ag_12
  obtain ⟨o16, p16, q16⟩ := ag_16
  obtain ⟨o20, p20, q20⟩ := ag_20
  obtain ⟨o25, p25, q25⟩ := ag_25
  obtain ⟨o29, p29, q29⟩ := ag_29
  obtain ⟨o35, p35, q35⟩ := ag_35
  obtain ⟨o39, p39, q39⟩ := ag_39
  obtain ⟨o44, p44, q44⟩ := ag_44
  obtain ⟨o48, p48, q48⟩ := ag_48
  obtain ⟨o53, p53, q53⟩ := ag_53
  obtain ⟨o59, p59, q59⟩ := ag_59
  obtain ⟨o63, p63, q63⟩ := ag_63
  obtain ⟨o69, p69, q69⟩ := ag_69
  obtain ⟨o73, p73, q73⟩ := ag_73
  obtain ⟨o79, p79, q79⟩ := ag_79
  obtain ⟨o83, p83, q83⟩ := ag_83
  obtain ⟨o88, p88, q88⟩ := ag_88
  obtain ⟨o92, p92, q92⟩ := ag_92
  obtain ⟨o97, p97, q97⟩ := ag_97
  obtain ⟨o101, p101, q101⟩ := ag_101
  obtain ⟨o105, p105, q105⟩ := ag_105
  rw [hall] at p2 p8 p12 p16 p20 p25 p29 p35 p39 p44 p48 p53 p59 p63 p69 p73 p79 p83 p88 p92 p97 p101 p105
  show vcOps _ _ all _ all _
  conv => arg 5; rw [e]
  refine al_0 hd4 hG hOw ⟨rfl, rfl, rfl, rfl, rfl, rfl, rfl, rfl, rfl, rfl, rfl, rfl, rfl, rfl, rfl, rfl, rfl, rfl, rfl, rfl, rfl, rfl, rfl, rfl⟩ o2 p2 q2  fun s0 F0 g0 => ?_
  refine al_1 hd4 hG hOw F0 o8 p8 q8 o12 p12 q12 o16 p16 q16 o20 p20 q20 g0 fun s1 F1 g1 => ?_
  refine al_2 hd4 hG hOw F1 o25 p25 q25 o29 p29 q29 g1 fun s2 F2 g2 => ?_
  refine al_3 hd4 hG hOw F2 o35 p35 q35 o39 p39 q39 g2 fun s3 F3 g3 => ?_
  refine al_4 hd4 hG hOw F3 o44 p44 q44 o48 p48 q48 o53 p53 q53 g3 fun s4 F4 g4 => ?_
  refine al_5 hd4 hG hOw F4 o59 p59 q59 o63 p63 q63 g4 fun s5 F5 g5 => ?_
  refine al_6 hd4 hG hOw F5 o69 p69 q69 o73 p73 q73 g5 fun s6 F6 g6 => ?_
  refine al_7 hd4 hG hOw F6 o79 p79 q79 o83 p83 q83 o88 p88 q88 o92 p92 q92 g6 fun s7 F7 g7 => ?_
  refine al_8 hd4 hG hOw F7 o97 p97 q97 o101 p101 q101 o105 p105 q105 g7 fun s8 F8 g8 => ?_
  have g := g8
  simp (maxSteps := 2000000) only [go_sem, hG, hOw, g]
open Go Pm
set_option maxHeartbeats 4000000
set_option maxRecDepth 100000
theorem alive_ok : Gives Tryz.prog 4 [] (fun _ => bl true) := by
  refine pure_introL (fun _ => false) Tryz.func4 Tryz.ntmps4 rfl (by kernel_rfl) (by simp) rfl (by decide) fun G hG hOw hNm hZ hB => ?_
  have sl : ∀ sz l, Pm.Sub (V.lst G.lo sz l) (V.lst 0 sz l) := fun _ _ => .lo (Nat.zero_le _)
  refine vcN_sound 1 _ _ ?_
  simp only [go_sem, hG, hOw]
  refine vcN_sound 1 _ _ ?_
  simp only [go_sem, hG, hOw]
  refine call_pure round_ok (Subs.refl _) rfl (by simp [chk, hG]) ?_
  simp only [go_sem, hG, hOw]
  refine call_pureA (Line_ok ex0 ex0_ok 2) ?_
  simp (maxSteps := 2000000) only [go_sem, hG, hOw, ex_line.1, ex_line.2]
  refine semL_ent (s' := St.of [(1, strs 0 [wSea, wAnd, wSea]), (2, i64 0)] []) (entA [] (by (simp only [go_sem]) <;> simp [sl]) (by (simp only [go_sem, entH, entH1, nilArr, obOK]) <;> simp [sl])) ?_
  refine vcN_sound 1 _ _ ?_
  simp only [go_sem, hG, hOw]
  refine call_pure round_ok (Subs.refl _) rfl (by simp [chk, hG]) ?_
  simp only [go_sem, hG, hOw]
  refine call_pureA (HBack_ok ex0 ex0_ok 1) ?_
  simp (maxSteps := 2000000) only [go_sem, hG, hOw, ex_back.1, ex_back.2]
  refine semL_ent (s' := St.of [(1, strs 0 [wSea, wAnd, wSea]), (2, i64 0), (3, i64 15), (4, i64 0)] []) (entA [] (by (simp only [go_sem]) <;> simp [sl]) (by (simp only [go_sem, entH, entH1, nilArr, obOK]) <;> simp [sl])) ?_
  refine vcN_sound 1 _ _ ?_
  simp only [go_sem, hG, hOw]
  refine call_pure repeated_ok (Subs.refl _) rfl (by simp [chk, hG]) ?_
  simp only [go_sem, hG, hOw]
  refine call_pureA (HTorn_ok ex1 ex1_ok) ?_
  simp (maxSteps := 2000000) only [go_sem, hG, hOw, ex_torn.1, ex_torn.2]
  refine semL_ent (s' := St.of [(1, strs 0 [wSea, wAnd, wSea]), (2, i64 0), (3, i64 15), (4, i64 0), (5, ints 0 [0]), (6, i64 0)] []) (entA [] (by (simp only [go_sem]) <;> simp [sl]) (by (simp only [go_sem, entH, entH1, nilArr, obOK]) <;> simp [sl])) ?_
  refine vcN_sound 1 _ _ ?_
  simp only [go_sem, hG, hOw]
  refine call_pure round_ok (Subs.refl _) rfl (by simp [chk, hG]) ?_
  simp only [go_sem, hG, hOw]
  refine call_pureA (HDiffer_ok ex0 ex0_ok) ?_
  simp (maxSteps := 2000000) only [go_sem, hG, hOw, ex_differ, ex_round]
  refine semL_ent (s' := St.of [(1, strs 0 [wSea, wAnd, wSea]), (2, i64 0), (3, i64 15), (4, i64 0), (5, ints 0 [0]), (6, i64 0), (7, prs 0 [(0, 1)]), (8, i64 0)] []) (entA [] (by (simp only [go_sem]) <;> simp [sl]) (by (simp only [go_sem, entH, entH1, nilArr, obOK]) <;> simp [sl])) ?_
  refine vcN_sound 1 _ _ ?_
  simp only [go_sem, hG, hOw]
  refine call_pure round_ok (Subs.refl _) rfl (by simp [chk, hG]) ?_
  simp only [go_sem, hG, hOw]
  refine call_pureA (HAgain_ok ex0 ex0_ok) ?_
  simp (maxSteps := 2000000) only [go_sem, hG, hOw, ex_again, ex_round]
  refine semL_ent (s' := St.of [(1, strs 0 [wSea, wAnd, wSea]), (2, i64 0), (3, i64 15), (4, i64 0), (5, ints 0 [0]), (6, i64 0), (7, prs 0 [(0, 1)]), (8, i64 0), (9, ints 0 [0]), (10, i64 0)] []) (entA [] (by (simp only [go_sem]) <;> simp [sl]) (by (simp only [go_sem, entH, entH1, nilArr, obOK]) <;> simp [sl])) ?_
  refine vcN_sound 1 _ _ ?_
  simp only [go_sem, hG, hOw]
  refine call_pure round_ok (Subs.refl _) rfl (by simp [chk, hG]) ?_
  simp only [go_sem, hG, hOw]
  refine call_pureA (HProof_ok ex0 ex0_ok) ?_
  simp (maxSteps := 2000000) only [go_sem, hG, hOw, ex_torn0, ex_proof, ex_round]
  refine semL_ent (s' := St.of [(1, strs 0 [wSea, wAnd, wSea]), (2, i64 0), (3, i64 15), (4, i64 0), (5, ints 0 [0]), (6, i64 0), (7, prs 0 [(0, 1)]), (8, i64 0), (9, ints 0 [0]), (10, i64 0), (11, ints 0 []), (12, prs 0 [(0, 1)]), (13, i64 0)] []) (entA [] (by (simp only [go_sem]) <;> simp [sl]) (by (simp only [go_sem, entH, entH1, nilArr, obOK]) <;> simp [sl])) ?_
  refine vcN_sound 1 _ _ ?_
  simp only [go_sem, hG, hOw]
  refine call_pure round_ok (Subs.refl _) rfl (by simp [chk, hG]) ?_
  simp only [go_sem, hG, hOw]
  refine call_pureA (Explain_ok ex0 ex0_ok 0) ?_
  simp (maxSteps := 2000000) only [go_sem, hG, hOw, ex_explL0, ex_expl0]
  refine semL_ent (s' := St.of [(1, strs 0 [wSea, wAnd, wSea]), (2, i64 0), (3, i64 15), (4, i64 0), (5, ints 0 [0]), (6, i64 0), (7, prs 0 [(0, 1)]), (8, i64 0), (9, ints 0 [0]), (10, i64 0), (11, ints 0 []), (12, prs 0 [(0, 1)]), (13, i64 0), (14, fts 0 [⟨3, 1, 1⟩]), (15, i64 0)] []) (entA [] (by (simp only [go_sem]) <;> simp [sl]) (by (simp only [go_sem, entH, entH1, nilArr, obOK]) <;> simp [sl])) ?_
  refine vcN_sound 1 _ _ ?_
  simp only [go_sem, hG, hOw]
  refine call_pure repeated_ok (Subs.refl _) rfl (by simp [chk, hG]) ?_
  simp only [go_sem, hG, hOw]
  refine call_pureA (Explain_ok ex1 ex1_ok 0) ?_
  simp (maxSteps := 2000000) only [go_sem, hG, hOw, ex_explL1, ex_expl1]
  refine semL_ent (s' := St.of [(1, strs 0 [wSea, wAnd, wSea]), (2, i64 0), (3, i64 15), (4, i64 0), (5, ints 0 [0]), (6, i64 0), (7, prs 0 [(0, 1)]), (8, i64 0), (9, ints 0 [0]), (10, i64 0), (11, ints 0 []), (12, prs 0 [(0, 1)]), (13, i64 0), (14, fts 0 [⟨3, 1, 1⟩]), (15, i64 0), (16, fts 0 [⟨2, 0, 0⟩]), (17, i64 0)] []) (entA [] (by (simp only [go_sem]) <;> simp [sl]) (by (simp only [go_sem, entH, entH1, nilArr, obOK]) <;> simp [sl])) ?_
  refine vcN_sound 1 _ _ ?_
  simp only [go_sem, hG, hOw]
  refine call_pure round_ok (Subs.refl _) rfl (by simp [chk, hG]) ?_
  simp only [go_sem, hG, hOw]
  refine call_pureA (Doubt_ok ex0 ex0_ok ⟨12, 1⟩ (by decide)) ?_
  simp (maxSteps := 2000000) only [go_sem, hG, hOw, ex_doubt.2]
  refine semL_ent (s' := St.of [(1, strs 0 [wSea, wAnd, wSea]), (2, i64 0), (3, i64 15), (4, i64 0), (5, ints 0 [0]), (6, i64 0), (7, prs 0 [(0, 1)]), (8, i64 0), (9, ints 0 [0]), (10, i64 0), (11, ints 0 []), (12, prs 0 [(0, 1)]), (13, i64 0), (14, fts 0 [⟨3, 1, 1⟩]), (15, i64 0), (16, fts 0 [⟨2, 0, 0⟩]), (17, i64 0), (18, sls 0 (doubtL ex0 ⟨12, 1⟩)), (19, i64 0)] []) (entA [] (by (simp only [go_sem]) <;> simp [sl]) (by (simp only [go_sem, entH, entH1, nilArr, obOK]) <;> simp [sl])) ?_
  refine vcN_sound 1 _ _ ?_
  simp only [go_sem, hG, hOw]
  refine call_pure round_ok (Subs.refl _) rfl (by simp [chk, hG]) ?_
  simp only [go_sem, hG, hOw]
  refine call_pureA (Assign_ok ex0 ex0_ok 20) ?_
  simp (maxSteps := 2000000) only [go_sem, hG, hOw, ex_asg.1, ex_asg.2.1, ex_asg.2.2]
  refine semL_ent (s' := St.of [(1, strs 0 [wSea, wAnd, wSea]), (2, i64 0), (3, i64 15), (4, i64 0), (5, ints 0 [0]), (6, i64 0), (7, prs 0 [(0, 1)]), (8, i64 0), (9, ints 0 [0]), (10, i64 0), (11, ints 0 []), (12, prs 0 [(0, 1)]), (13, i64 0), (14, fts 0 [⟨3, 1, 1⟩]), (15, i64 0), (16, fts 0 [⟨2, 0, 0⟩]), (17, i64 0), (18, sls 0 (doubtL ex0 ⟨12, 1⟩)), (19, i64 0), (20, ints 0 [0]), (21, i64 26), (22, i64 0)] []) (entA [] (by (simp only [go_sem]) <;> simp [sl]) (by (simp only [go_sem, entH, entH1, nilArr, obOK]) <;> simp [sl])) ?_
  refine vcN_sound 1 _ _ ?_
  simp only [go_sem, hG, hOw]
  refine call_pure round_ok (Subs.refl _) rfl (by simp [chk, hG]) ?_
  simp only [go_sem, hG, hOw]
  refine call_pureA (HGaps_ok ex0 ex0_ok) ?_
  simp (maxSteps := 2000000) only [go_sem, hG, hOw, ex_gaps, ex_round]
  refine semL_ent (s' := St.of [(1, strs 0 [wSea, wAnd, wSea]), (2, i64 0), (3, i64 15), (4, i64 0), (5, ints 0 [0]), (6, i64 0), (7, prs 0 [(0, 1)]), (8, i64 0), (9, ints 0 [0]), (10, i64 0), (11, ints 0 []), (12, prs 0 [(0, 1)]), (13, i64 0), (14, fts 0 [⟨3, 1, 1⟩]), (15, i64 0), (16, fts 0 [⟨2, 0, 0⟩]), (17, i64 0), (18, sls 0 (doubtL ex0 ⟨12, 1⟩)), (19, i64 0), (20, ints 0 [0]), (21, i64 26), (22, i64 0), (23, ints 0 []), (24, i64 0)] []) (entA [] (by (simp only [go_sem]) <;> simp [sl]) (by (simp only [go_sem, entH, entH1, nilArr, obOK]) <;> simp [sl])) ?_
  exact alive_12 _ ex_doubt.1 hG hOw
end Go.Proofs.YtagfopbijboajaaGreatDoor
