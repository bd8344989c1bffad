import Derived.Test.YtagfopbijboajaaGreatDoorQY15
import Derived.Test.YtagfopbijboajaaGreatDoorQY16
namespace Go.Proofs.YtagfopbijboajaaGreatDoor
open Go Pm
set_option linter.unusedSimpArgs false
set_option linter.unusedVariables false
set_option maxHeartbeats 4000000
set_option maxRecDepth 100000
def plc : Nat → List Ch → List (Nat × Nat)
  | _, [] => []
  | k, c :: r => (List.range c.lines.length).map (k, ·) ++ plc (k + 1) r
theorem plc_app : ∀ (l m : List Ch) (k : Nat), plc k (l ++ m) = plc k l ++ plc (k + l.length) m
  | [], m, k => by simp [plc]
  | c :: r, m, k => by
    simp only [plc, List.cons_append, plc_app r m (k + 1), List.append_assoc, List.length_cons]
    rw [show k + 1 + r.length = k + (r.length + 1) by omega]
theorem plc_step (t : List Ch) (k : Nat) (hk : k < t.length) : plc 0 (t.take (k + 1)) = plc 0 (t.take k) ++ (List.range t[k].lines.length).map (k, ·) := by
  rw [List.take_add_one, List.getElem?_eq_getElem hk, plc_app]
  simp [plc, Nat.min_eq_left (Nat.le_of_lt hk)]
theorem plc_len : ∀ (t : List Ch) (k : Nat), (plc k t).length = (linesL t).length
  | [], k => by simp [plc, linesL]
  | c :: r, k => by
    simp only [plc, List.length_append, List.length_map, List.length_range, plc_len r (k + 1)]
    simp [linesL]
def plE (p : Nat × Nat) : List V := [i64 p.1, i64 p.2, i64 0]
theorem allOnes_plE (l : List (Nat × Nat)) : allOnes (l.map plE) = true := allOnes_map (fun _ => rfl) l
attribute [go_sem] plE allOnes_plE
def dkC (lo : Nat) (r : Ro) : List V := [chs 0 r.text, hps 0 r.helpers, srs 0 r.shares, ses 0 r.sheets, .lst lo 1 ((linesL r.text).map (lnE 0)), .lst lo 3 ((plc 0 r.text).map plE)]
attribute [go_sem] dkC
theorem laid_ok (r : Ro) (ht : OKt r.text) : Gives Tryz.prog 61 [roE 0 r] (fun n => .fp (dkC n r)) := by
  have htt := ht
  obtain ⟨ht1, ht2⟩ := ht
  refine pure_intro (ow := fun _ => false) Tryz.func61 Tryz.ntmps61 rfl (by kernel_rfl) (by simp) rfl (by decide) fun G hG hOw hNm hB => ?_; simp only [go_sem, hG, hOw]
  refine semC_loop (fun k : Nat => St.of [(3, .ptr 10 0), (13, chs 0 r.text), (14, i64 r.text.length), (15, i64 k)]
    [(10, .box (roC 0 r ++ [.own 90 0 (linesL (r.text.take k)).length 1, .own 91 0 (plc 0 (r.text.take k)).length 3])), (90, .arr 44 1 ((linesL (r.text.take k)).map (lnE 0))), (91, .arr 108 3 ((plc 0 (r.text.take k)).map plE))])
    (fun k => k ≤ r.text.length) (fun k => r.text.length - k) 0 (by simp) (entA [(10, some 10), (90, none), (91, none)] (by (simp only [go_sem]) <;> simp [linesL,plc,roC]) (by (simp only [go_sem, entH, entH1, nilArr, obOK]) <;> simp [linesL,plc,roC])) ?_
  rintro k hk
  refine vc_sound _ _ _ ?_; simp only [go_sem, hG, hOw]
  (repeat' with_reducible first | refine And.intro ?_ ?_ | intro _ | refine exP ?_ ?_); all_goals try omega
  · rename_i hlt
    have hkl : k < r.text.length := by omega
    obtain ⟨hc1, hc2⟩ := ht2 _ (List.getElem_mem hkl)
    have hlen := linesL_len r.text htt k
    have hpl := plc_len (r.text.take k) 0
    refine semC_loop (fun j : Nat => St.of [(3, .ptr 10 0), (13, chs 0 r.text), (14, i64 r.text.length), (15, i64 k), (4, i64 k), (21, lns 0 r.text[k].lines), (22, i64 r.text[k].lines.length), (23, i64 j)]
      [(10, .box (roC 0 r ++ [.own 90 0 ((linesL (r.text.take k)).length + j) 1, .own 91 0 ((plc 0 (r.text.take k)).length + j) 3])), (90, .arr 44 1 ((linesL (r.text.take k) ++ r.text[k].lines.take j).map (lnE 0))), (91, .arr 108 3 ((plc 0 (r.text.take k) ++ (List.range j).map (k, ·)).map plE))])
      (fun j => j ≤ r.text[k].lines.length) (fun j => r.text[k].lines.length - j) 0 (by simp) (entA [(10, some 10), (90, some 90), (91, some 91)] (by (simp only [go_sem]) <;> simp [roC]) (by (simp only [go_sem, entH, entH1, nilArr, obOK]) <;> simp [roC])) ?_
    rintro j hj
    have hl2 : (linesL (r.text.take k) ++ r.text[k].lines.take j).length = (linesL (r.text.take k)).length + j := by rw [List.length_append, List.length_take]; omega
    have hl3 : (plc 0 (r.text.take k) ++ (List.range j).map (k, ·)).length = (plc 0 (r.text.take k)).length + j := by simp
    have hmin : min j r.text[k].lines.length = j := Nat.min_eq_left hj
    refine vc_sound _ _ _ ?_
    simp (maxSteps := 2000000) only [go_sem, hG, hOw, List.length_range]
    (repeat' with_reducible first | refine And.intro ?_ ?_ | intro _ | refine exP ?_ ?_); all_goals try omega
    · rename_i hlt2
      have hjl : j < r.text[k].lines.length := by omega
      have h1 := take_map_succ (lnE 0) r.text[k].lines j hjl
      have hp : (List.range (j + 1)).map (fun x => (k, x)) = (List.range j).map (fun x => (k, x)) ++ [(k, j)] := by rw [List.range_succ]; simp
      have hmin2 : min (j + 1) r.text[k].lines.length = j + 1 := Nat.min_eq_left (by omega)
      exact ⟨j + 1, by omega, by omega, entA [(10, some 10), (90, some 35), (91, some 47)] (by (simp only [go_sem]) <;> simp [h1,hp,hmin,hmin2,Nat.add_assoc,lnE,strs,plE,i64]) (by (simp only [go_sem, entH, entH1, nilArr, obOK]) <;> simp [h1,hp,hmin,hmin2,Nat.add_assoc,lnE,strs,plE,i64])⟩
    · rename_i hge2
      obtain rfl : j = r.text[k].lines.length := by omega
      refine ⟨k + 1, by omega, by omega, ?_⟩
      rw [linesL_step r.text k hkl, plc_step r.text k hkl, List.take_length]
      exact entA [(10, some 10), (90, some 90), (91, some 91)] (by (simp only [go_sem]) <;> simp [roC]) (by (simp only [go_sem, entH, entH1, nilArr, obOK]) <;> simp [roC])
  · rename_i hge
    obtain rfl : k = r.text.length := by omega
    simp only [List.take_length]
    exact .refl _
open Go Pm
set_option maxHeartbeats 4000000
set_option maxRecDepth 100000
def partB (all nh b1f b1t b0t : Int) (s : Sr) (x : Se) : Bool :=
  (inB s.fr 0 (all - 1) && inB s.to 0 (all - 1)) && (decide (s.fr ≤ s.to) && (inB s.helper 0 (nh - 1) && (inB s.sent 0 400 && (decide (b1f < s.fr) && (decide (b1t < s.to) && (decide (b0t < s.fr) && (decide ((x.lines.length : Int) ≤ 30) && (x.back || decide ((x.lines.length : Int) = 0)))))))))
def opsR (i : Nat) (c : Option Code) : List Oper := match rgOf i c with
  | .region _ ops _ => ops.toList
  | _ => []
def alP : Al := ⟨[116, 135, 141], [], []⟩
structure FR (r : Ro) (s : Sr) (x : Se) (b0 b1 : Sr) (k : Nat) (st : St) : Prop where
  h0 : st.get 0 = .fp (dkC 0 r)
  h6 : st.get 6 = .ptr 6 0
  h8 : st.get 8 = i64 k
  h9 : st.get 9 = .ptr 9 0
  h10 : st.get 10 = .ptr 10 0
  h91 : st.get 91 = srs 0 r.shares
  h92 : st.get 92 = i64 r.shares.length
  h93 : st.get 93 = i64 k
  m6 : st.hget 6 = some (.box [i64 b0.fr, i64 b0.to, i64 b0.helper, i64 b0.sent, i64 b1.fr, i64 b1.to, i64 b1.helper, i64 b1.sent])
  m9 : st.hget 9 = some (.box [i64 s.fr, i64 s.to, i64 s.helper, i64 s.sent])
  m10 : st.hget 10 = some (.box [bl x.back, lns 0 x.lines])
section
variable {r : Ro} {s : Sr} {x : Se} {b0 b1 : Sr} {k : Nat} {G : Gh} {Q : Exit → St → Prop} {all : List Oper} {rest : List (Oper × Bool)} {st : St} (hG : G.n = 197) (hOw : G.ow = fun _ => false) (hl : (linesL r.text).length ≤ 400) (hh : r.helpers.length ≤ 8) (hF : FR r s x b0 b1 k st)
include hG hOw hl hh hF
set_option linter.unusedSectionVars false
theorem rp_0 (hrest : ∀ (b' : Bool) (st' : St), b' = (inB s.fr 0 ((linesL r.text).length - 1) && inB s.to 0 ((linesL r.text).length - 1)) → FR r s x b0 b1 k st' → st'.get 118 = bl b' → vcD Tryz.prog G alP all Q rest st') :
    vcD Tryz.prog G alP all Q ((((opsR 17 Tryz.f62.body).take 13).map (·, false)) ++ rest) st := by
  obtain ⟨h0, h6, h8, h9, h10, h91, h92, h93, m6, m9, m10⟩ := hF
  unfold opsR Tryz.f62
  simp only [rgOf, bkOf, rgO, bkO, orElse, Option.bind_some, Option.getD_some, reduceIte, Nat.reduceEqDiff, reduceCtorEq]
  simp only [List.append_eq, List.cons_append, List.nil_append, List.drop_succ_cons, List.drop_zero, List.take_succ_cons, List.take_zero, List.map_cons, List.map_nil, alP]
  simp (maxSteps := 2000000) only [go_sem, hG, hOw, h0, h6, h8, h9, h10, h91, h92, h93, m6, m9, m10, Int.reduceToNat]
  (repeat' with_reducible first | refine And.intro ?_ ?_ | intro _ | refine exP ?_ ?_); all_goals try omega
  refine ⟨_, callGivesA (inH_two 0 ((linesL r.text).length - 1) s.fr s.to), ?_⟩
  simp (maxSteps := 2000000) only [go_sem, hG, hOw, h0, h6, h8, h9, h10, h91, h92, h93, m6, m9, m10]
  (repeat' with_reducible first | refine And.intro ?_ ?_ | intro _ | refine exP ?_ ?_); all_goals try omega
  refine hrest _ _ rfl ?_ ?_
  · refine ⟨?_, ?_, ?_, ?_, ?_, ?_, ?_, ?_, ?_, ?_, ?_⟩ <;> simp only [go_sem, h0, h6, h8, h9, h10, h91, h92, h93, m6, m9, m10, reduceIte, Nat.reduceEqDiff]
  · simp only [go_sem, reduceIte, Nat.reduceEqDiff, Bool.false_and, Bool.true_and]
theorem rp_1 (b : Bool) (og : Oper) (hg : all[12]? = some og) (hg2 : og.dst = some 118) (hb : st.get 118 = bl b) (hrest : ∀ (b' : Bool) (st' : St), b' = (b && decide (s.fr ≤ s.to)) → FR r s x b0 b1 k st' → st'.get 125 = bl b' → vcD Tryz.prog G alP all Q rest st') :
    vcD Tryz.prog G alP all Q (((((opsR 17 Tryz.f62.body).drop 13).take 7).map (·, false)) ++ rest) st := by
  obtain ⟨h0, h6, h8, h9, h10, h91, h92, h93, m6, m9, m10⟩ := hF
  unfold opsR Tryz.f62
  simp only [rgOf, bkOf, rgO, bkO, orElse, Option.bind_some, Option.getD_some, reduceIte, Nat.reduceEqDiff, reduceCtorEq]
  simp only [List.append_eq, List.cons_append, List.nil_append, List.drop_succ_cons, List.drop_zero, List.take_succ_cons, List.take_zero, List.map_cons, List.map_nil, alP]
  cases b
  · simp (maxSteps := 2000000) only [go_sem, hG, hOw, hg, hg2, hb, h0, h6, h8, h9, h10, h91, h92, h93, m6, m9, m10, List.getElem?_cons_succ, Int.reduceToNat, List.drop_succ_cons]
    (repeat' with_reducible first | refine And.intro ?_ ?_ | intro _ | refine exP ?_ ?_); all_goals try omega
    refine hrest _ _ rfl ?_ ?_
    · refine ⟨?_, ?_, ?_, ?_, ?_, ?_, ?_, ?_, ?_, ?_, ?_⟩ <;> simp only [go_sem, h0, h6, h8, h9, h10, h91, h92, h93, m6, m9, m10, reduceIte, Nat.reduceEqDiff]
    · simp only [go_sem, reduceIte, Nat.reduceEqDiff, Bool.false_and, Bool.true_and]
  · simp (maxSteps := 2000000) only [go_sem, hG, hOw, hg, hg2, hb, h0, h6, h8, h9, h10, h91, h92, h93, m6, m9, m10, List.getElem?_cons_succ, Int.reduceToNat, List.drop_succ_cons]
    (repeat' with_reducible first | refine And.intro ?_ ?_ | intro _ | refine exP ?_ ?_); all_goals try omega
    refine hrest _ _ rfl ?_ ?_
    · refine ⟨?_, ?_, ?_, ?_, ?_, ?_, ?_, ?_, ?_, ?_, ?_⟩ <;> simp only [go_sem, h0, h6, h8, h9, h10, h91, h92, h93, m6, m9, m10, reduceIte, Nat.reduceEqDiff]
    · simp only [go_sem, reduceIte, Nat.reduceEqDiff, Bool.false_and, Bool.true_and]
theorem rp_2 (b : Bool) (og : Oper) (hg : all[19]? = some og) (hg2 : og.dst = some 125) (hb : st.get 125 = bl b) (hrest : ∀ (b' : Bool) (st' : St), b' = (b && inB s.helper 0 (r.helpers.length - 1)) → FR r s x b0 b1 k st' → st'.get 138 = bl b' → vcD Tryz.prog G alP all Q rest st') :
    vcD Tryz.prog G alP all Q (((((opsR 17 Tryz.f62.body).drop 20).take 13).map (·, false)) ++ rest) st := by
  obtain ⟨h0, h6, h8, h9, h10, h91, h92, h93, m6, m9, m10⟩ := hF
  unfold opsR Tryz.f62
  simp only [rgOf, bkOf, rgO, bkO, orElse, Option.bind_some, Option.getD_some, reduceIte, Nat.reduceEqDiff, reduceCtorEq]
  simp only [List.append_eq, List.cons_append, List.nil_append, List.drop_succ_cons, List.drop_zero, List.take_succ_cons, List.take_zero, List.map_cons, List.map_nil, alP]
  cases b
  · simp (maxSteps := 2000000) only [go_sem, hG, hOw, hg, hg2, hb, h0, h6, h8, h9, h10, h91, h92, h93, m6, m9, m10, List.getElem?_cons_succ, Int.reduceToNat, List.drop_succ_cons]
    (repeat' with_reducible first | refine And.intro ?_ ?_ | intro _ | refine exP ?_ ?_); all_goals try omega
    refine hrest _ _ rfl ?_ ?_
    · refine ⟨?_, ?_, ?_, ?_, ?_, ?_, ?_, ?_, ?_, ?_, ?_⟩ <;> simp only [go_sem, h0, h6, h8, h9, h10, h91, h92, h93, m6, m9, m10, reduceIte, Nat.reduceEqDiff]
    · simp only [go_sem, reduceIte, Nat.reduceEqDiff, Bool.false_and, Bool.true_and]
  · simp (maxSteps := 2000000) only [go_sem, hG, hOw, hg, hg2, hb, h0, h6, h8, h9, h10, h91, h92, h93, m6, m9, m10, List.getElem?_cons_succ, Int.reduceToNat, List.drop_succ_cons]
    (repeat' with_reducible first | refine And.intro ?_ ?_ | intro _ | refine exP ?_ ?_); all_goals try omega
    refine ⟨_, callGivesA (inH_one 0 (r.helpers.length - 1) s.helper), ?_⟩
    simp (maxSteps := 2000000) only [go_sem, hG, hOw, hg, hg2, hb, h0, h6, h8, h9, h10, h91, h92, h93, m6, m9, m10, List.getElem?_cons_succ, Int.reduceToNat, List.drop_succ_cons]
    (repeat' with_reducible first | refine And.intro ?_ ?_ | intro _ | refine exP ?_ ?_); all_goals try omega
    refine hrest _ _ rfl ?_ ?_
    · refine ⟨?_, ?_, ?_, ?_, ?_, ?_, ?_, ?_, ?_, ?_, ?_⟩ <;> simp only [go_sem, h0, h6, h8, h9, h10, h91, h92, h93, m6, m9, m10, reduceIte, Nat.reduceEqDiff]
    · simp only [go_sem, reduceIte, Nat.reduceEqDiff, Bool.false_and, Bool.true_and]
theorem rp_3 (b : Bool) (og : Oper) (hg : all[32]? = some og) (hg2 : og.dst = some 138) (hb : st.get 138 = bl b) (hrest : ∀ (b' : Bool) (st' : St), b' = (b && inB s.sent 0 400) → FR r s x b0 b1 k st' → st'.get 144 = bl b' → vcD Tryz.prog G alP all Q rest st') :
    vcD Tryz.prog G alP all Q (((((opsR 17 Tryz.f62.body).drop 33).take 6).map (·, false)) ++ rest) st := by
  obtain ⟨h0, h6, h8, h9, h10, h91, h92, h93, m6, m9, m10⟩ := hF
  unfold opsR Tryz.f62
  simp only [rgOf, bkOf, rgO, bkO, orElse, Option.bind_some, Option.getD_some, reduceIte, Nat.reduceEqDiff, reduceCtorEq]
  simp only [List.append_eq, List.cons_append, List.nil_append, List.drop_succ_cons, List.drop_zero, List.take_succ_cons, List.take_zero, List.map_cons, List.map_nil, alP]
  cases b
  · simp (maxSteps := 2000000) only [go_sem, hG, hOw, hg, hg2, hb, h0, h6, h8, h9, h10, h91, h92, h93, m6, m9, m10, List.getElem?_cons_succ, Int.reduceToNat, List.drop_succ_cons]
    (repeat' with_reducible first | refine And.intro ?_ ?_ | intro _ | refine exP ?_ ?_); all_goals try omega
    refine hrest _ _ rfl ?_ ?_
    · refine ⟨?_, ?_, ?_, ?_, ?_, ?_, ?_, ?_, ?_, ?_, ?_⟩ <;> simp only [go_sem, h0, h6, h8, h9, h10, h91, h92, h93, m6, m9, m10, reduceIte, Nat.reduceEqDiff]
    · simp only [go_sem, reduceIte, Nat.reduceEqDiff, Bool.false_and, Bool.true_and]
  · simp (maxSteps := 2000000) only [go_sem, hG, hOw, hg, hg2, hb, h0, h6, h8, h9, h10, h91, h92, h93, m6, m9, m10, List.getElem?_cons_succ, Int.reduceToNat, List.drop_succ_cons]
    (repeat' with_reducible first | refine And.intro ?_ ?_ | intro _ | refine exP ?_ ?_); all_goals try omega
    refine ⟨_, callGivesA (inH_one 0 400 s.sent), ?_⟩
    simp (maxSteps := 2000000) only [go_sem, hG, hOw, hg, hg2, hb, h0, h6, h8, h9, h10, h91, h92, h93, m6, m9, m10, List.getElem?_cons_succ, Int.reduceToNat, List.drop_succ_cons]
    (repeat' with_reducible first | refine And.intro ?_ ?_ | intro _ | refine exP ?_ ?_); all_goals try omega
    refine hrest _ _ rfl ?_ ?_
    · refine ⟨?_, ?_, ?_, ?_, ?_, ?_, ?_, ?_, ?_, ?_, ?_⟩ <;> simp only [go_sem, h0, h6, h8, h9, h10, h91, h92, h93, m6, m9, m10, reduceIte, Nat.reduceEqDiff]
    · simp only [go_sem, reduceIte, Nat.reduceEqDiff, Bool.false_and, Bool.true_and]
theorem rp_4 (b : Bool) (og : Oper) (hg : all[38]? = some og) (hg2 : og.dst = some 144) (hb : st.get 144 = bl b) (hrest : ∀ (b' : Bool) (st' : St), b' = (b && decide (b1.fr < s.fr)) → FR r s x b0 b1 k st' → st'.get 152 = bl b' → vcD Tryz.prog G alP all Q rest st') :
    vcD Tryz.prog G alP all Q (((((opsR 17 Tryz.f62.body).drop 39).take 8).map (·, false)) ++ rest) st := by
  obtain ⟨h0, h6, h8, h9, h10, h91, h92, h93, m6, m9, m10⟩ := hF
  unfold opsR Tryz.f62
  simp only [rgOf, bkOf, rgO, bkO, orElse, Option.bind_some, Option.getD_some, reduceIte, Nat.reduceEqDiff, reduceCtorEq]
  simp only [List.append_eq, List.cons_append, List.nil_append, List.drop_succ_cons, List.drop_zero, List.take_succ_cons, List.take_zero, List.map_cons, List.map_nil, alP]
  cases b
  · simp (maxSteps := 2000000) only [go_sem, hG, hOw, hg, hg2, hb, h0, h6, h8, h9, h10, h91, h92, h93, m6, m9, m10, List.getElem?_cons_succ, Int.reduceToNat, List.drop_succ_cons]
    (repeat' with_reducible first | refine And.intro ?_ ?_ | intro _ | refine exP ?_ ?_); all_goals try omega
    refine hrest _ _ rfl ?_ ?_
    · refine ⟨?_, ?_, ?_, ?_, ?_, ?_, ?_, ?_, ?_, ?_, ?_⟩ <;> simp only [go_sem, h0, h6, h8, h9, h10, h91, h92, h93, m6, m9, m10, reduceIte, Nat.reduceEqDiff]
    · simp only [go_sem, reduceIte, Nat.reduceEqDiff, Bool.false_and, Bool.true_and]
  · simp (maxSteps := 2000000) only [go_sem, hG, hOw, hg, hg2, hb, h0, h6, h8, h9, h10, h91, h92, h93, m6, m9, m10, List.getElem?_cons_succ, Int.reduceToNat, List.drop_succ_cons]
    (repeat' with_reducible first | refine And.intro ?_ ?_ | intro _ | refine exP ?_ ?_); all_goals try omega
    refine hrest _ _ rfl ?_ ?_
    · refine ⟨?_, ?_, ?_, ?_, ?_, ?_, ?_, ?_, ?_, ?_, ?_⟩ <;> simp only [go_sem, h0, h6, h8, h9, h10, h91, h92, h93, m6, m9, m10, reduceIte, Nat.reduceEqDiff]
    · simp only [go_sem, reduceIte, Nat.reduceEqDiff, Bool.false_and, Bool.true_and]
theorem rp_5 (b : Bool) (og : Oper) (hg : all[46]? = some og) (hg2 : og.dst = some 152) (hb : st.get 152 = bl b) (hrest : ∀ (b' : Bool) (st' : St), b' = (b && decide (b1.to < s.to)) → FR r s x b0 b1 k st' → st'.get 160 = bl b' → vcD Tryz.prog G alP all Q rest st') :
    vcD Tryz.prog G alP all Q (((((opsR 17 Tryz.f62.body).drop 47).take 8).map (·, false)) ++ rest) st := by
  obtain ⟨h0, h6, h8, h9, h10, h91, h92, h93, m6, m9, m10⟩ := hF
  unfold opsR Tryz.f62
  simp only [rgOf, bkOf, rgO, bkO, orElse, Option.bind_some, Option.getD_some, reduceIte, Nat.reduceEqDiff, reduceCtorEq]
  simp only [List.append_eq, List.cons_append, List.nil_append, List.drop_succ_cons, List.drop_zero, List.take_succ_cons, List.take_zero, List.map_cons, List.map_nil, alP]
  cases b
  · simp (maxSteps := 2000000) only [go_sem, hG, hOw, hg, hg2, hb, h0, h6, h8, h9, h10, h91, h92, h93, m6, m9, m10, List.getElem?_cons_succ, Int.reduceToNat, List.drop_succ_cons]
    (repeat' with_reducible first | refine And.intro ?_ ?_ | intro _ | refine exP ?_ ?_); all_goals try omega
    refine hrest _ _ rfl ?_ ?_
    · refine ⟨?_, ?_, ?_, ?_, ?_, ?_, ?_, ?_, ?_, ?_, ?_⟩ <;> simp only [go_sem, h0, h6, h8, h9, h10, h91, h92, h93, m6, m9, m10, reduceIte, Nat.reduceEqDiff]
    · simp only [go_sem, reduceIte, Nat.reduceEqDiff, Bool.false_and, Bool.true_and]
  · simp (maxSteps := 2000000) only [go_sem, hG, hOw, hg, hg2, hb, h0, h6, h8, h9, h10, h91, h92, h93, m6, m9, m10, List.getElem?_cons_succ, Int.reduceToNat, List.drop_succ_cons]
    (repeat' with_reducible first | refine And.intro ?_ ?_ | intro _ | refine exP ?_ ?_); all_goals try omega
    refine hrest _ _ rfl ?_ ?_
    · refine ⟨?_, ?_, ?_, ?_, ?_, ?_, ?_, ?_, ?_, ?_, ?_⟩ <;> simp only [go_sem, h0, h6, h8, h9, h10, h91, h92, h93, m6, m9, m10, reduceIte, Nat.reduceEqDiff]
    · simp only [go_sem, reduceIte, Nat.reduceEqDiff, Bool.false_and, Bool.true_and]
theorem rp_6 (b : Bool) (og : Oper) (hg : all[54]? = some og) (hg2 : og.dst = some 160) (hb : st.get 160 = bl b) (hrest : ∀ (b' : Bool) (st' : St), b' = (b && decide (b0.to < s.fr)) → FR r s x b0 b1 k st' → st'.get 168 = bl b' → vcD Tryz.prog G alP all Q rest st') :
    vcD Tryz.prog G alP all Q (((((opsR 17 Tryz.f62.body).drop 55).take 8).map (·, false)) ++ rest) st := by
  obtain ⟨h0, h6, h8, h9, h10, h91, h92, h93, m6, m9, m10⟩ := hF
  unfold opsR Tryz.f62
  simp only [rgOf, bkOf, rgO, bkO, orElse, Option.bind_some, Option.getD_some, reduceIte, Nat.reduceEqDiff, reduceCtorEq]
  simp only [List.append_eq, List.cons_append, List.nil_append, List.drop_succ_cons, List.drop_zero, List.take_succ_cons, List.take_zero, List.map_cons, List.map_nil, alP]
  cases b
  · simp (maxSteps := 2000000) only [go_sem, hG, hOw, hg, hg2, hb, h0, h6, h8, h9, h10, h91, h92, h93, m6, m9, m10, List.getElem?_cons_succ, Int.reduceToNat, List.drop_succ_cons]
    (repeat' with_reducible first | refine And.intro ?_ ?_ | intro _ | refine exP ?_ ?_); all_goals try omega
    refine hrest _ _ rfl ?_ ?_
    · refine ⟨?_, ?_, ?_, ?_, ?_, ?_, ?_, ?_, ?_, ?_, ?_⟩ <;> simp only [go_sem, h0, h6, h8, h9, h10, h91, h92, h93, m6, m9, m10, reduceIte, Nat.reduceEqDiff]
    · simp only [go_sem, reduceIte, Nat.reduceEqDiff, Bool.false_and, Bool.true_and]
  · simp (maxSteps := 2000000) only [go_sem, hG, hOw, hg, hg2, hb, h0, h6, h8, h9, h10, h91, h92, h93, m6, m9, m10, List.getElem?_cons_succ, Int.reduceToNat, List.drop_succ_cons]
    (repeat' with_reducible first | refine And.intro ?_ ?_ | intro _ | refine exP ?_ ?_); all_goals try omega
    refine hrest _ _ rfl ?_ ?_
    · refine ⟨?_, ?_, ?_, ?_, ?_, ?_, ?_, ?_, ?_, ?_, ?_⟩ <;> simp only [go_sem, h0, h6, h8, h9, h10, h91, h92, h93, m6, m9, m10, reduceIte, Nat.reduceEqDiff]
    · simp only [go_sem, reduceIte, Nat.reduceEqDiff, Bool.false_and, Bool.true_and]
theorem rp_7 (b : Bool) (og : Oper) (hg : all[62]? = some og) (hg2 : og.dst = some 168) (hb : st.get 168 = bl b) (hrest : ∀ (b' : Bool) (st' : St), b' = (b && decide ((x.lines.length : Int) ≤ 30)) → FR r s x b0 b1 k st' → st'.get 174 = bl b' → vcD Tryz.prog G alP all Q rest st') :
    vcD Tryz.prog G alP all Q (((((opsR 17 Tryz.f62.body).drop 63).take 6).map (·, false)) ++ rest) st := by
  obtain ⟨h0, h6, h8, h9, h10, h91, h92, h93, m6, m9, m10⟩ := hF
  unfold opsR Tryz.f62
  simp only [rgOf, bkOf, rgO, bkO, orElse, Option.bind_some, Option.getD_some, reduceIte, Nat.reduceEqDiff, reduceCtorEq]
  simp only [List.append_eq, List.cons_append, List.nil_append, List.drop_succ_cons, List.drop_zero, List.take_succ_cons, List.take_zero, List.map_cons, List.map_nil, alP]
  cases b
  · simp (maxSteps := 2000000) only [go_sem, hG, hOw, hg, hg2, hb, h0, h6, h8, h9, h10, h91, h92, h93, m6, m9, m10, List.getElem?_cons_succ, Int.reduceToNat, List.drop_succ_cons]
    (repeat' with_reducible first | refine And.intro ?_ ?_ | intro _ | refine exP ?_ ?_); all_goals try omega
    refine hrest _ _ rfl ?_ ?_
    · refine ⟨?_, ?_, ?_, ?_, ?_, ?_, ?_, ?_, ?_, ?_, ?_⟩ <;> simp only [go_sem, h0, h6, h8, h9, h10, h91, h92, h93, m6, m9, m10, reduceIte, Nat.reduceEqDiff]
    · simp only [go_sem, reduceIte, Nat.reduceEqDiff, Bool.false_and, Bool.true_and]
  · simp (maxSteps := 2000000) only [go_sem, hG, hOw, hg, hg2, hb, h0, h6, h8, h9, h10, h91, h92, h93, m6, m9, m10, List.getElem?_cons_succ, Int.reduceToNat, List.drop_succ_cons]
    (repeat' with_reducible first | refine And.intro ?_ ?_ | intro _ | refine exP ?_ ?_); all_goals try omega
    refine hrest _ _ rfl ?_ ?_
    · refine ⟨?_, ?_, ?_, ?_, ?_, ?_, ?_, ?_, ?_, ?_, ?_⟩ <;> simp only [go_sem, h0, h6, h8, h9, h10, h91, h92, h93, m6, m9, m10, reduceIte, Nat.reduceEqDiff]
    · simp only [go_sem, reduceIte, Nat.reduceEqDiff, Bool.false_and, Bool.true_and]
theorem rp_8 (hNm : G.nm = []) (b : Bool) (og : Oper) (hg : all[68]? = some og) (hg2 : og.dst = some 174) (og' : Oper) (hg' : all[71]? = some og') (hg2' : og'.dst = some 177) (hb : st.get 174 = bl b) (v : Bool) (hv : v = (b && (x.back || decide ((x.lines.length : Int) = 0)))) (hxl : x.lines.length ≤ 140737488355328) :
    vcD Tryz.prog G alP all (midQ G (fun b : Bool => St.of [(0, .fp (dkC 0 r)), (6, .ptr 6 0), (7, bl b), (8, i64 k), (9, .ptr 9 0), (10, .ptr 10 0), (91, srs 0 r.shares), (92, i64 r.shares.length), (93, i64 k)] [(6, .box (srE b0 ++ srE b1)), (9, .box (srE s)), (10, .box (seE 0 x))]) (fun b => b = v) Q) (((opsR 17 Tryz.f62.body).drop 69).map (·, false)) st := by
  obtain ⟨h0, h6, h8, h9, h10, h91, h92, h93, m6, m9, m10⟩ := hF
  simp only [go_sem] at h0 h6 h8 h9 h10 h91 h92 h93 m6 m9 m10 hb
  unfold opsR Tryz.f62
  simp only [rgOf, bkOf, rgO, bkO, orElse, Option.bind_some, Option.getD_some, reduceIte, Nat.reduceEqDiff, reduceCtorEq]
  simp only [List.append_eq, List.cons_append, List.nil_append, List.drop_succ_cons, List.drop_zero, List.take_succ_cons, List.take_zero, List.map_cons, List.map_nil, alP]
  cases b
  · simp (maxSteps := 2000000) only [go_sem, hG, hOw, hg, hg2, hg', hg2', hb, h0, h6, h8, h9, h10, h91, h92, h93, m6, m9, m10, Int.reduceToNat]
    (repeat' with_reducible first | refine And.intro ?_ ?_ | intro _ | refine exP ?_ ?_); all_goals try omega
    exact ⟨false, hv.symm, entA [(6, some 6), (9, some 9), (10, some 10)] (by (simp only [go_sem]) <;> simp [h0,h6,h8,h9,h10,h91,h92,h93,m6,m9,m10,okL,obOK]) (by (simp only [go_sem, entH, entH1, nilArr, obOK]) <;> simp [h0,h6,h8,h9,h10,h91,h92,h93,m6,m9,m10,okL,obOK])⟩
  · cases hbk : x.back
    · simp (maxSteps := 2000000) only [go_sem, hG, hOw, hg, hg2, hg', hg2', hb, h0, h6, h8, h9, h10, h91, h92, h93, m6, m9, m10, hbk, Int.reduceToNat]
      (repeat' with_reducible first | refine And.intro ?_ ?_ | intro _ | refine exP ?_ ?_); all_goals try omega
      exact ⟨_, hv.symm, entA [(6, some 6), (9, some 9), (10, some 10)] (by (simp only [go_sem]) <;> simp [h0,h6,h8,h9,h10,h91,h92,h93,m6,m9,m10,okL,obOK,hbk]) (by (simp only [go_sem, entH, entH1, nilArr, obOK]) <;> simp [h0,h6,h8,h9,h10,h91,h92,h93,m6,m9,m10,okL,obOK,hbk])⟩
    · simp (maxSteps := 2000000) only [go_sem, hG, hOw, hg, hg2, hg', hg2', hb, h0, h6, h8, h9, h10, h91, h92, h93, m6, m9, m10, hbk, Int.reduceToNat]
      (repeat' with_reducible first | refine And.intro ?_ ?_ | intro _ | refine exP ?_ ?_); all_goals try omega
      exact ⟨_, hv.symm, entA [(6, some 6), (9, some 9), (10, some 10)] (by (simp only [go_sem]) <;> simp [h0,h6,h8,h9,h10,h91,h92,h93,m6,m9,m10,okL,obOK,hbk]) (by (simp only [go_sem, entH, entH1, nilArr, obOK]) <;> simp [h0,h6,h8,h9,h10,h91,h92,h93,m6,m9,m10,okL,obOK,hbk])⟩
end
theorem rg_12 : ∃ og, (opsR 17 Tryz.f62.body)[12]? = some og ∧ og.dst = some 118 := ⟨_, rfl, rfl⟩
theorem rg_19 : ∃ og, (opsR 17 Tryz.f62.body)[19]? = some og ∧ og.dst = some 125 := ⟨_, rfl, rfl⟩
theorem rg_32 : ∃ og, (opsR 17 Tryz.f62.body)[32]? = some og ∧ og.dst = some 138 := ⟨_, rfl, rfl⟩
theorem rg_38 : ∃ og, (opsR 17 Tryz.f62.body)[38]? = some og ∧ og.dst = some 144 := ⟨_, rfl, rfl⟩
theorem rg_46 : ∃ og, (opsR 17 Tryz.f62.body)[46]? = some og ∧ og.dst = some 152 := ⟨_, rfl, rfl⟩
theorem rg_54 : ∃ og, (opsR 17 Tryz.f62.body)[54]? = some og ∧ og.dst = some 160 := ⟨_, rfl, rfl⟩
theorem rg_62 : ∃ og, (opsR 17 Tryz.f62.body)[62]? = some og ∧ og.dst = some 168 := ⟨_, rfl, rfl⟩
theorem rg_68 : ∃ og, (opsR 17 Tryz.f62.body)[68]? = some og ∧ og.dst = some 174 := ⟨_, rfl, rfl⟩
theorem rg_71 : ∃ og, (opsR 17 Tryz.f62.body)[71]? = some og ∧ og.dst = some 177 := ⟨_, rfl, rfl⟩
theorem right_part (r : Ro) (s : Sr) (x : Se) (b0 b1 : Sr) (k : Nat) {G : Gh} {Q : Exit → St → Prop} (hG : G.n = 197) (hOw : G.ow = fun _ => false) (hNm : G.nm = []) (hl : (linesL r.text).length ≤ 400) (hh : r.helpers.length ≤ 8) (hxl : x.lines.length ≤ 140737488355328) :
    SemC Tryz.prog G (rgOf 17 Tryz.f62.body) (St.of [(0, .fp (dkC 0 r)), (6, .ptr 6 0), (8, i64 k), (9, .ptr 9 0), (10, .ptr 10 0), (91, srs 0 r.shares), (92, i64 r.shares.length), (93, i64 k)] [(6, .box (srE b0 ++ srE b1)), (9, .box (srE s)), (10, .box (seE 0 x))])
      (midQ G (fun b : Bool => St.of [(0, .fp (dkC 0 r)), (6, .ptr 6 0), (7, bl b), (8, i64 k), (9, .ptr 9 0), (10, .ptr 10 0), (91, srs 0 r.shares), (92, i64 r.shares.length), (93, i64 k)] [(6, .box (srE b0 ++ srE b1)), (9, .box (srE s)), (10, .box (seE 0 x))]) (fun b => b = partB (linesL r.text).length r.helpers.length b1.fr b1.to b0.to s x) Q) := by
  rw [show rgOf 17 Tryz.f62.body = .region 17 (opsR 17 Tryz.f62.body).toArray true by kernel_rfl]
  refine semC_draw0 mixed (by kernel_rfl) ?_
  rw [show (⟨alOf (opsR 17 Tryz.f62.body), [], []⟩ : Al) = alP by kernel_rfl]
  rw [show (opsR 17 Tryz.f62.body).map (fun o => (o, false)) = ((opsR 17 Tryz.f62.body).take 13).map (fun o => (o, false)) ++ ((((opsR 17 Tryz.f62.body).drop 13).take 7).map (fun o => (o, false)) ++ ((((opsR 17 Tryz.f62.body).drop 20).take 13).map (fun o => (o, false)) ++ ((((opsR 17 Tryz.f62.body).drop 33).take 6).map (fun o => (o, false)) ++ ((((opsR 17 Tryz.f62.body).drop 39).take 8).map (fun o => (o, false)) ++ ((((opsR 17 Tryz.f62.body).drop 47).take 8).map (fun o => (o, false)) ++ ((((opsR 17 Tryz.f62.body).drop 55).take 8).map (fun o => (o, false)) ++ ((((opsR 17 Tryz.f62.body).drop 63).take 6).map (fun o => (o, false)) ++ (((opsR 17 Tryz.f62.body).drop 69).map (fun o => (o, false)))))))))) by kernel_rfl]
  obtain ⟨o12, p12, q12⟩ := rg_12
  obtain ⟨o19, p19, q19⟩ := rg_19
  obtain ⟨o32, p32, q32⟩ := rg_32
  obtain ⟨o38, p38, q38⟩ := rg_38
  obtain ⟨o46, p46, q46⟩ := rg_46
  obtain ⟨o54, p54, q54⟩ := rg_54
  obtain ⟨o62, p62, q62⟩ := rg_62
  obtain ⟨o68, p68, q68⟩ := rg_68
  obtain ⟨o71, p71, q71⟩ := rg_71
  refine rp_0 hG hOw hl hh ⟨rfl, rfl, rfl, rfl, rfl, rfl, rfl, rfl, rfl, rfl, rfl⟩ fun c1 s1 e1 F1 g1 => ?_
  refine rp_1 hG hOw hl hh F1 c1 o12 p12 q12 g1 fun c2 s2 e2 F2 g2 => ?_
  refine rp_2 hG hOw hl hh F2 c2 o19 p19 q19 g2 fun c3 s3 e3 F3 g3 => ?_
  refine rp_3 hG hOw hl hh F3 c3 o32 p32 q32 g3 fun c4 s4 e4 F4 g4 => ?_
  refine rp_4 hG hOw hl hh F4 c4 o38 p38 q38 g4 fun c5 s5 e5 F5 g5 => ?_
  refine rp_5 hG hOw hl hh F5 c5 o46 p46 q46 g5 fun c6 s6 e6 F6 g6 => ?_
  refine rp_6 hG hOw hl hh F6 c6 o54 p54 q54 g6 fun c7 s7 e7 F7 g7 => ?_
  refine rp_7 hG hOw hl hh F7 c7 o62 p62 q62 g7 fun c8 s8 e8 F8 g8 => ?_
  exact rp_8 hG hOw hl hh F8 hNm c8 o68 p68 q68 o71 p71 q71 g8 _ (by rw [e8, e7, e6, e5, e4, e3, e2, e1]; simp only [partB, Bool.and_assoc]) hxl
end Go.Proofs.YtagfopbijboajaaGreatDoor
