import Derived.Test.YtfnohnjnncjidaaGreatDoorQS13
import Derived.Test.YtfnohnjnncjidaaGreatDoorQS14
import Derived.Test.YtfnohnjnncjidaaGreatDoorQS16
import Derived.Test.YtfnohnjnncjidaaGreatDoorQS21
import Derived.Test.YtfnohnjnncjidaaGreatDoorQS22
namespace Go.Proofs.YtfnohnjnncjidaaGreatDoor
open Go Pm
set_option linter.unusedSimpArgs false
set_option linter.unusedVariables false
set_option maxHeartbeats 4000000
set_option maxRecDepth 100000
def plc : Nat → List Ch → List (Nat × Nat)
  | _, [] => []
  | k, c :: r => (List.range c.lines.length).map (k, ·) ++ plc (k + 1) r
theorem plc_app : ∀ (l m : List Ch) (k : Nat), plc k (l ++ m) = plc k l ++ plc (k + l.length) m
  | [], m, k => by simp [plc]
  | c :: r, m, k => by
    simp only [plc, List.cons_append, plc_app r m (k + 1), List.append_assoc, List.length_cons]
    rw [show k + 1 + r.length = k + (r.length + 1) by omega]
theorem plc_step (t : List Ch) (k : Nat) (hk : k < t.length) : plc 0 (t.take (k + 1)) = plc 0 (t.take k) ++ (List.range t[k].lines.length).map (k, ·) := by
  rw [List.take_add_one, List.getElem?_eq_getElem hk, plc_app]
  simp [plc, Nat.min_eq_left (Nat.le_of_lt hk)]
theorem plc_len : ∀ (t : List Ch) (k : Nat), (plc k t).length = (linesL t).length
  | [], k => by simp [plc, linesL]
  | c :: r, k => by
    simp only [plc, List.length_append, List.length_map, List.length_range, plc_len r (k + 1)]
    simp [linesL]
def plE (p : Nat × Nat) : List V := [i64 p.1, i64 p.2, i64 0]
theorem allOnes_plE (l : List (Nat × Nat)) : allOnes (l.map plE) = true := allOnes_map (fun _ => rfl) l
attribute [go_sem] plE allOnes_plE
def dkC (lo : Nat) (r : Ro) : List V := [chs 0 r.text, hps 0 r.helpers, srs 0 r.shares, ses 0 r.sheets, .lst lo 1 ((linesL r.text).map (lnE 0)), .lst lo 3 ((plc 0 r.text).map plE)]
attribute [go_sem] dkC
theorem laid_ok (r : Ro) (ht : OKt r.text) : Gives Tryz.prog 106 [roE 0 r] (fun n => .fp (dkC n r)) := by
  have htt := ht
  obtain ⟨ht1, ht2⟩ := ht
  refine pure_intro (ow := fun _ => false) Tryz.func106 Tryz.ntmps106 rfl (by kernel_rfl) (by simp) rfl (by decide) fun G hG hOw hNm hB => ?_; simp only [go_sem, hG, hOw]
  refine semC_loop (fun k : Nat => St.of [(3, .ptr 10 0), (13, chs 0 r.text), (14, i64 r.text.length), (15, i64 k)]
    [(10, .box (roC 0 r ++ [.own 90 0 (linesL (r.text.take k)).length 1, .own 91 0 (plc 0 (r.text.take k)).length 3])), (90, .arr 78 1 ((linesL (r.text.take k)).map (lnE 0))), (91, .arr 91 3 ((plc 0 (r.text.take k)).map plE))])
    (fun k => k ≤ r.text.length) (fun k => r.text.length - k) 0 (by simp) (entA [(10, some 10), (90, none), (91, none)] (by (simp only [go_sem]) <;> simp [linesL,plc,roC]) (by (simp only [go_sem, entH, entH1, nilArr, obOK]) <;> simp [linesL,plc,roC])) ?_
  rintro k hk
  refine vc_sound _ _ _ ?_; simp only [go_sem, hG, hOw]
  (repeat' with_reducible first | refine And.intro ?_ ?_ | intro _ | refine exP ?_ ?_); all_goals try omega
  · rename_i hlt
    have hkl : k < r.text.length := by omega
    obtain ⟨hc1, hc2⟩ := ht2 _ (List.getElem_mem hkl)
    have hlen := linesL_len r.text htt k
    have hpl := plc_len (r.text.take k) 0
    refine semC_loop (fun j : Nat => St.of [(3, .ptr 10 0), (13, chs 0 r.text), (14, i64 r.text.length), (15, i64 k), (4, i64 k), (21, lns 0 r.text[k].lines), (22, i64 r.text[k].lines.length), (23, i64 j)]
      [(10, .box (roC 0 r ++ [.own 90 0 ((linesL (r.text.take k)).length + j) 1, .own 91 0 ((plc 0 (r.text.take k)).length + j) 3])), (90, .arr 78 1 ((linesL (r.text.take k) ++ r.text[k].lines.take j).map (lnE 0))), (91, .arr 91 3 ((plc 0 (r.text.take k) ++ (List.range j).map (k, ·)).map plE))])
      (fun j => j ≤ r.text[k].lines.length) (fun j => r.text[k].lines.length - j) 0 (by simp) (entA [(10, some 10), (90, some 90), (91, some 91)] (by (simp only [go_sem]) <;> simp [roC]) (by (simp only [go_sem, entH, entH1, nilArr, obOK]) <;> simp [roC])) ?_
    rintro j hj
    have hl2 : (linesL (r.text.take k) ++ r.text[k].lines.take j).length = (linesL (r.text.take k)).length + j := by rw [List.length_append, List.length_take]; omega
    have hl3 : (plc 0 (r.text.take k) ++ (List.range j).map (k, ·)).length = (plc 0 (r.text.take k)).length + j := by simp
    have hmin : min j r.text[k].lines.length = j := Nat.min_eq_left hj
    refine vc_sound _ _ _ ?_
    simp (maxSteps := 2000000) only [go_sem, hG, hOw, List.length_range]
    (repeat' with_reducible first | refine And.intro ?_ ?_ | intro _ | refine exP ?_ ?_); all_goals try omega
    · rename_i hlt2
      have hjl : j < r.text[k].lines.length := by omega
      have h1 := take_map_succ (lnE 0) r.text[k].lines j hjl
      have hp : (List.range (j + 1)).map (fun x => (k, x)) = (List.range j).map (fun x => (k, x)) ++ [(k, j)] := by rw [List.range_succ]; simp
      have hmin2 : min (j + 1) r.text[k].lines.length = j + 1 := Nat.min_eq_left (by omega)
      exact ⟨j + 1, by omega, by omega, entA [(10, some 10), (90, some 35), (91, some 47)] (by (simp only [go_sem]) <;> simp [h1,hp,hmin,hmin2,Nat.add_assoc,lnE,strs,plE,i64]) (by (simp only [go_sem, entH, entH1, nilArr, obOK]) <;> simp [h1,hp,hmin,hmin2,Nat.add_assoc,lnE,strs,plE,i64])⟩
    · rename_i hge2
      obtain rfl : j = r.text[k].lines.length := by omega
      refine ⟨k + 1, by omega, by omega, ?_⟩
      rw [linesL_step r.text k hkl, plc_step r.text k hkl, List.take_length]
      exact entA [(10, some 10), (90, some 90), (91, some 91)] (by (simp only [go_sem]) <;> simp [roC]) (by (simp only [go_sem, entH, entH1, nilArr, obOK]) <;> simp [roC])
  · rename_i hge
    obtain rfl : k = r.text.length := by omega
    simp only [List.take_length]
    exact .refl _
open Go Pm
set_option maxHeartbeats 4000000
set_option maxRecDepth 100000
def partB (all nh b1f b1t b0t : Int) (s : Sr) (x : Se) : Bool :=
  (inB s.fr 0 (all - 1) && inB s.to 0 (all - 1)) && (decide (s.fr ≤ s.to) && (inB s.helper 0 (nh - 1) && (inB s.sent 0 400 && (decide (b1f < s.fr) && (decide (b1t < s.to) && (decide (b0t < s.fr) && (decide ((x.lines.length : Int) ≤ 30) && (x.back || decide ((x.lines.length : Int) = 0)))))))))
def opsR (i : Nat) (c : Option Code) : List Oper := match rgOf i c with
  | .region _ ops _ => ops.toList
  | _ => []
def alP : Al := ⟨[116, 135, 141], [], []⟩
structure FR (r : Ro) (s : Sr) (x : Se) (b0 b1 : Sr) (k : Nat) (st : St) : Prop where
  h0 : st.get 0 = .fp (dkC 0 r)
  h6 : st.get 6 = .ptr 6 0
  h8 : st.get 8 = i64 k
  h9 : st.get 9 = .ptr 9 0
  h10 : st.get 10 = .ptr 10 0
  h91 : st.get 91 = srs 0 r.shares
  h92 : st.get 92 = i64 r.shares.length
  h93 : st.get 93 = i64 k
  m6 : st.hget 6 = some (.box [i64 b0.fr, i64 b0.to, i64 b0.helper, i64 b0.sent, i64 b1.fr, i64 b1.to, i64 b1.helper, i64 b1.sent])
  m9 : st.hget 9 = some (.box [i64 s.fr, i64 s.to, i64 s.helper, i64 s.sent])
  m10 : st.hget 10 = some (.box [bl x.back, lns 0 x.lines])
section
variable {r : Ro} {s : Sr} {x : Se} {b0 b1 : Sr} {k : Nat} {G : Gh} {Q : Exit → St → Prop} {all : List Oper} {rest : List (Oper × Bool)} {st : St} (hG : G.n = 197) (hOw : G.ow = fun _ => false) (hl : (linesL r.text).length ≤ 400) (hh : r.helpers.length ≤ 8) (hF : FR r s x b0 b1 k st)
include hG hOw hl hh hF
set_option linter.unusedSectionVars false
theorem rp_0 (hrest : ∀ (b' : Bool) (st' : St), b' = (inB s.fr 0 ((linesL r.text).length - 1) && inB s.to 0 ((linesL r.text).length - 1)) → FR r s x b0 b1 k st' → st'.get 118 = bl b' → vcD Tryz.prog G alP all Q rest st') :
    vcD Tryz.prog G alP all Q ((((opsR 17 Tryz.f107.body).take 13).map (·, false)) ++ rest) st := by
  obtain ⟨h0, h6, h8, h9, h10, h91, h92, h93, m6, m9, m10⟩ := hF
  unfold opsR Tryz.f107
  simp only [rgOf, bkOf, rgO, bkO, orElse, Option.bind_some, Option.getD_some, reduceIte, Nat.reduceEqDiff, reduceCtorEq]
  simp only [List.append_eq, List.cons_append, List.nil_append, List.drop_succ_cons, List.drop_zero, List.take_succ_cons, List.take_zero, List.map_cons, List.map_nil, alP]
  simp (maxSteps := 2000000) only [go_sem, hG, hOw, h0, h6, h8, h9, h10, h91, h92, h93, m6, m9, m10, Int.reduceToNat]
  (repeat' with_reducible first | refine And.intro ?_ ?_ | intro _ | refine exP ?_ ?_); all_goals try omega
  refine ⟨_, callGivesA (inH_two 0 ((linesL r.text).length - 1) s.fr s.to), ?_⟩
  simp (maxSteps := 2000000) only [go_sem, hG, hOw, h0, h6, h8, h9, h10, h91, h92, h93, m6, m9, m10]
  (repeat' with_reducible first | refine And.intro ?_ ?_ | intro _ | refine exP ?_ ?_); all_goals try omega
  refine hrest _ _ rfl ?_ ?_
  · refine ⟨?_, ?_, ?_, ?_, ?_, ?_, ?_, ?_, ?_, ?_, ?_⟩ <;> simp only [go_sem, h0, h6, h8, h9, h10, h91, h92, h93, m6, m9, m10, reduceIte, Nat.reduceEqDiff]
  · simp only [go_sem, reduceIte, Nat.reduceEqDiff, Bool.false_and, Bool.true_and]
theorem rp_1 (b : Bool) (og : Oper) (hg : all[12]? = some og) (hg2 : og.dst = some 118) (hb : st.get 118 = bl b) (hrest : ∀ (b' : Bool) (st' : St), b' = (b && decide (s.fr ≤ s.to)) → FR r s x b0 b1 k st' → st'.get 125 = bl b' → vcD Tryz.prog G alP all Q rest st') :
    vcD Tryz.prog G alP all Q (((((opsR 17 Tryz.f107.body).drop 13).take 7).map (·, false)) ++ rest) st := by
  obtain ⟨h0, h6, h8, h9, h10, h91, h92, h93, m6, m9, m10⟩ := hF
  unfold opsR Tryz.f107
  simp only [rgOf, bkOf, rgO, bkO, orElse, Option.bind_some, Option.getD_some, reduceIte, Nat.reduceEqDiff, reduceCtorEq]
  simp only [List.append_eq, List.cons_append, List.nil_append, List.drop_succ_cons, List.drop_zero, List.take_succ_cons, List.take_zero, List.map_cons, List.map_nil, alP]
  cases b
  · simp (maxSteps := 2000000) only [go_sem, hG, hOw, hg, hg2, hb, h0, h6, h8, h9, h10, h91, h92, h93, m6, m9, m10, List.getElem?_cons_succ, Int.reduceToNat, List.drop_succ_cons]
    (repeat' with_reducible first | refine And.intro ?_ ?_ | intro _ | refine exP ?_ ?_); all_goals try omega
    refine hrest _ _ rfl ?_ ?_
    · refine ⟨?_, ?_, ?_, ?_, ?_, ?_, ?_, ?_, ?_, ?_, ?_⟩ <;> simp only [go_sem, h0, h6, h8, h9, h10, h91, h92, h93, m6, m9, m10, reduceIte, Nat.reduceEqDiff]
    · simp only [go_sem, reduceIte, Nat.reduceEqDiff, Bool.false_and, Bool.true_and]
  · simp (maxSteps := 2000000) only [go_sem, hG, hOw, hg, hg2, hb, h0, h6, h8, h9, h10, h91, h92, h93, m6, m9, m10, List.getElem?_cons_succ, Int.reduceToNat, List.drop_succ_cons]
    (repeat' with_reducible first | refine And.intro ?_ ?_ | intro _ | refine exP ?_ ?_); all_goals try omega
    refine hrest _ _ rfl ?_ ?_
    · refine ⟨?_, ?_, ?_, ?_, ?_, ?_, ?_, ?_, ?_, ?_, ?_⟩ <;> simp only [go_sem, h0, h6, h8, h9, h10, h91, h92, h93, m6, m9, m10, reduceIte, Nat.reduceEqDiff]
    · simp only [go_sem, reduceIte, Nat.reduceEqDiff, Bool.false_and, Bool.true_and]
theorem rp_2 (b : Bool) (og : Oper) (hg : all[19]? = some og) (hg2 : og.dst = some 125) (hb : st.get 125 = bl b) (hrest : ∀ (b' : Bool) (st' : St), b' = (b && inB s.helper 0 (r.helpers.length - 1)) → FR r s x b0 b1 k st' → st'.get 138 = bl b' → vcD Tryz.prog G alP all Q rest st') :
    vcD Tryz.prog G alP all Q (((((opsR 17 Tryz.f107.body).drop 20).take 13).map (·, false)) ++ rest) st := by
  obtain ⟨h0, h6, h8, h9, h10, h91, h92, h93, m6, m9, m10⟩ := hF
  unfold opsR Tryz.f107
  simp only [rgOf, bkOf, rgO, bkO, orElse, Option.bind_some, Option.getD_some, reduceIte, Nat.reduceEqDiff, reduceCtorEq]
  simp only [List.append_eq, List.cons_append, List.nil_append, List.drop_succ_cons, List.drop_zero, List.take_succ_cons, List.take_zero, List.map_cons, List.map_nil, alP]
  cases b
  · simp (maxSteps := 2000000) only [go_sem, hG, hOw, hg, hg2, hb, h0, h6, h8, h9, h10, h91, h92, h93, m6, m9, m10, List.getElem?_cons_succ, Int.reduceToNat, List.drop_succ_cons]
    (repeat' with_reducible first | refine And.intro ?_ ?_ | intro _ | refine exP ?_ ?_); all_goals try omega
    refine hrest _ _ rfl ?_ ?_
    · refine ⟨?_, ?_, ?_, ?_, ?_, ?_, ?_, ?_, ?_, ?_, ?_⟩ <;> simp only [go_sem, h0, h6, h8, h9, h10, h91, h92, h93, m6, m9, m10, reduceIte, Nat.reduceEqDiff]
    · simp only [go_sem, reduceIte, Nat.reduceEqDiff, Bool.false_and, Bool.true_and]
  · simp (maxSteps := 2000000) only [go_sem, hG, hOw, hg, hg2, hb, h0, h6, h8, h9, h10, h91, h92, h93, m6, m9, m10, List.getElem?_cons_succ, Int.reduceToNat, List.drop_succ_cons]
    (repeat' with_reducible first | refine And.intro ?_ ?_ | intro _ | refine exP ?_ ?_); all_goals try omega
    refine ⟨_, callGivesA (inH_one 0 (r.helpers.length - 1) s.helper), ?_⟩
    simp (maxSteps := 2000000) only [go_sem, hG, hOw, hg, hg2, hb, h0, h6, h8, h9, h10, h91, h92, h93, m6, m9, m10, List.getElem?_cons_succ, Int.reduceToNat, List.drop_succ_cons]
    (repeat' with_reducible first | refine And.intro ?_ ?_ | intro _ | refine exP ?_ ?_); all_goals try omega
    refine hrest _ _ rfl ?_ ?_
    · refine ⟨?_, ?_, ?_, ?_, ?_, ?_, ?_, ?_, ?_, ?_, ?_⟩ <;> simp only [go_sem, h0, h6, h8, h9, h10, h91, h92, h93, m6, m9, m10, reduceIte, Nat.reduceEqDiff]
    · simp only [go_sem, reduceIte, Nat.reduceEqDiff, Bool.false_and, Bool.true_and]
theorem rp_3 (b : Bool) (og : Oper) (hg : all[32]? = some og) (hg2 : og.dst = some 138) (hb : st.get 138 = bl b) (hrest : ∀ (b' : Bool) (st' : St), b' = (b && inB s.sent 0 400) → FR r s x b0 b1 k st' → st'.get 144 = bl b' → vcD Tryz.prog G alP all Q rest st') :
    vcD Tryz.prog G alP all Q (((((opsR 17 Tryz.f107.body).drop 33).take 6).map (·, false)) ++ rest) st := by
  obtain ⟨h0, h6, h8, h9, h10, h91, h92, h93, m6, m9, m10⟩ := hF
  unfold opsR Tryz.f107
  simp only [rgOf, bkOf, rgO, bkO, orElse, Option.bind_some, Option.getD_some, reduceIte, Nat.reduceEqDiff, reduceCtorEq]
  simp only [List.append_eq, List.cons_append, List.nil_append, List.drop_succ_cons, List.drop_zero, List.take_succ_cons, List.take_zero, List.map_cons, List.map_nil, alP]
  cases b
  · simp (maxSteps := 2000000) only [go_sem, hG, hOw, hg, hg2, hb, h0, h6, h8, h9, h10, h91, h92, h93, m6, m9, m10, List.getElem?_cons_succ, Int.reduceToNat, List.drop_succ_cons]
    (repeat' with_reducible first | refine And.intro ?_ ?_ | intro _ | refine exP ?_ ?_); all_goals try omega
    refine hrest _ _ rfl ?_ ?_
    · refine ⟨?_, ?_, ?_, ?_, ?_, ?_, ?_, ?_, ?_, ?_, ?_⟩ <;> simp only [go_sem, h0, h6, h8, h9, h10, h91, h92, h93, m6, m9, m10, reduceIte, Nat.reduceEqDiff]
    · simp only [go_sem, reduceIte, Nat.reduceEqDiff, Bool.false_and, Bool.true_and]
  · simp (maxSteps := 2000000) only [go_sem, hG, hOw, hg, hg2, hb, h0, h6, h8, h9, h10, h91, h92, h93, m6, m9, m10, List.getElem?_cons_succ, Int.reduceToNat, List.drop_succ_cons]
    (repeat' with_reducible first | refine And.intro ?_ ?_ | intro _ | refine exP ?_ ?_); all_goals try omega
    refine ⟨_, callGivesA (inH_one 0 400 s.sent), ?_⟩
    simp (maxSteps := 2000000) only [go_sem, hG, hOw, hg, hg2, hb, h0, h6, h8, h9, h10, h91, h92, h93, m6, m9, m10, List.getElem?_cons_succ, Int.reduceToNat, List.drop_succ_cons]
    (repeat' with_reducible first | refine And.intro ?_ ?_ | intro _ | refine exP ?_ ?_); all_goals try omega
    refine hrest _ _ rfl ?_ ?_
    · refine ⟨?_, ?_, ?_, ?_, ?_, ?_, ?_, ?_, ?_, ?_, ?_⟩ <;> simp only [go_sem, h0, h6, h8, h9, h10, h91, h92, h93, m6, m9, m10, reduceIte, Nat.reduceEqDiff]
    · simp only [go_sem, reduceIte, Nat.reduceEqDiff, Bool.false_and, Bool.true_and]
theorem rp_4 (b : Bool) (og : Oper) (hg : all[38]? = some og) (hg2 : og.dst = some 144) (hb : st.get 144 = bl b) (hrest : ∀ (b' : Bool) (st' : St), b' = (b && decide (b1.fr < s.fr)) → FR r s x b0 b1 k st' → st'.get 152 = bl b' → vcD Tryz.prog G alP all Q rest st') :
    vcD Tryz.prog G alP all Q (((((opsR 17 Tryz.f107.body).drop 39).take 8).map (·, false)) ++ rest) st := by
  obtain ⟨h0, h6, h8, h9, h10, h91, h92, h93, m6, m9, m10⟩ := hF
  unfold opsR Tryz.f107
  simp only [rgOf, bkOf, rgO, bkO, orElse, Option.bind_some, Option.getD_some, reduceIte, Nat.reduceEqDiff, reduceCtorEq]
  simp only [List.append_eq, List.cons_append, List.nil_append, List.drop_succ_cons, List.drop_zero, List.take_succ_cons, List.take_zero, List.map_cons, List.map_nil, alP]
  cases b
  · simp (maxSteps := 2000000) only [go_sem, hG, hOw, hg, hg2, hb, h0, h6, h8, h9, h10, h91, h92, h93, m6, m9, m10, List.getElem?_cons_succ, Int.reduceToNat, List.drop_succ_cons]
    (repeat' with_reducible first | refine And.intro ?_ ?_ | intro _ | refine exP ?_ ?_); all_goals try omega
    refine hrest _ _ rfl ?_ ?_
    · refine ⟨?_, ?_, ?_, ?_, ?_, ?_, ?_, ?_, ?_, ?_, ?_⟩ <;> simp only [go_sem, h0, h6, h8, h9, h10, h91, h92, h93, m6, m9, m10, reduceIte, Nat.reduceEqDiff]
    · simp only [go_sem, reduceIte, Nat.reduceEqDiff, Bool.false_and, Bool.true_and]
  · simp (maxSteps := 2000000) only [go_sem, hG, hOw, hg, hg2, hb, h0, h6, h8, h9, h10, h91, h92, h93, m6, m9, m10, List.getElem?_cons_succ, Int.reduceToNat, List.drop_succ_cons]
    (repeat' with_reducible first | refine And.intro ?_ ?_ | intro _ | refine exP ?_ ?_); all_goals try omega
    refine hrest _ _ rfl ?_ ?_
    · refine ⟨?_, ?_, ?_, ?_, ?_, ?_, ?_, ?_, ?_, ?_, ?_⟩ <;> simp only [go_sem, h0, h6, h8, h9, h10, h91, h92, h93, m6, m9, m10, reduceIte, Nat.reduceEqDiff]
    · simp only [go_sem, reduceIte, Nat.reduceEqDiff, Bool.false_and, Bool.true_and]
theorem rp_5 (b : Bool) (og : Oper) (hg : all[46]? = some og) (hg2 : og.dst = some 152) (hb : st.get 152 = bl b) (hrest : ∀ (b' : Bool) (st' : St), b' = (b && decide (b1.to < s.to)) → FR r s x b0 b1 k st' → st'.get 160 = bl b' → vcD Tryz.prog G alP all Q rest st') :
    vcD Tryz.prog G alP all Q (((((opsR 17 Tryz.f107.body).drop 47).take 8).map (·, false)) ++ rest) st := by
  obtain ⟨h0, h6, h8, h9, h10, h91, h92, h93, m6, m9, m10⟩ := hF
  unfold opsR Tryz.f107
  simp only [rgOf, bkOf, rgO, bkO, orElse, Option.bind_some, Option.getD_some, reduceIte, Nat.reduceEqDiff, reduceCtorEq]
  simp only [List.append_eq, List.cons_append, List.nil_append, List.drop_succ_cons, List.drop_zero, List.take_succ_cons, List.take_zero, List.map_cons, List.map_nil, alP]
  cases b
  · simp (maxSteps := 2000000) only [go_sem, hG, hOw, hg, hg2, hb, h0, h6, h8, h9, h10, h91, h92, h93, m6, m9, m10, List.getElem?_cons_succ, Int.reduceToNat, List.drop_succ_cons]
    (repeat' with_reducible first | refine And.intro ?_ ?_ | intro _ | refine exP ?_ ?_); all_goals try omega
    refine hrest _ _ rfl ?_ ?_
    · refine ⟨?_, ?_, ?_, ?_, ?_, ?_, ?_, ?_, ?_, ?_, ?_⟩ <;> simp only [go_sem, h0, h6, h8, h9, h10, h91, h92, h93, m6, m9, m10, reduceIte, Nat.reduceEqDiff]
    · simp only [go_sem, reduceIte, Nat.reduceEqDiff, Bool.false_and, Bool.true_and]
  · simp (maxSteps := 2000000) only [go_sem, hG, hOw, hg, hg2, hb, h0, h6, h8, h9, h10, h91, h92, h93, m6, m9, m10, List.getElem?_cons_succ, Int.reduceToNat, List.drop_succ_cons]
    (repeat' with_reducible first | refine And.intro ?_ ?_ | intro _ | refine exP ?_ ?_); all_goals try omega
    refine hrest _ _ rfl ?_ ?_
    · refine ⟨?_, ?_, ?_, ?_, ?_, ?_, ?_, ?_, ?_, ?_, ?_⟩ <;> simp only [go_sem, h0, h6, h8, h9, h10, h91, h92, h93, m6, m9, m10, reduceIte, Nat.reduceEqDiff]
    · simp only [go_sem, reduceIte, Nat.reduceEqDiff, Bool.false_and, Bool.true_and]
theorem rp_6 (b : Bool) (og : Oper) (hg : all[54]? = some og) (hg2 : og.dst = some 160) (hb : st.get 160 = bl b) (hrest : ∀ (b' : Bool) (st' : St), b' = (b && decide (b0.to < s.fr)) → FR r s x b0 b1 k st' → st'.get 168 = bl b' → vcD Tryz.prog G alP all Q rest st') :
    vcD Tryz.prog G alP all Q (((((opsR 17 Tryz.f107.body).drop 55).take 8).map (·, false)) ++ rest) st := by
  obtain ⟨h0, h6, h8, h9, h10, h91, h92, h93, m6, m9, m10⟩ := hF
  unfold opsR Tryz.f107
  simp only [rgOf, bkOf, rgO, bkO, orElse, Option.bind_some, Option.getD_some, reduceIte, Nat.reduceEqDiff, reduceCtorEq]
  simp only [List.append_eq, List.cons_append, List.nil_append, List.drop_succ_cons, List.drop_zero, List.take_succ_cons, List.take_zero, List.map_cons, List.map_nil, alP]
  cases b
  · simp (maxSteps := 2000000) only [go_sem, hG, hOw, hg, hg2, hb, h0, h6, h8, h9, h10, h91, h92, h93, m6, m9, m10, List.getElem?_cons_succ, Int.reduceToNat, List.drop_succ_cons]
    (repeat' with_reducible first | refine And.intro ?_ ?_ | intro _ | refine exP ?_ ?_); all_goals try omega
    refine hrest _ _ rfl ?_ ?_
    · refine ⟨?_, ?_, ?_, ?_, ?_, ?_, ?_, ?_, ?_, ?_, ?_⟩ <;> simp only [go_sem, h0, h6, h8, h9, h10, h91, h92, h93, m6, m9, m10, reduceIte, Nat.reduceEqDiff]
    · simp only [go_sem, reduceIte, Nat.reduceEqDiff, Bool.false_and, Bool.true_and]
  · simp (maxSteps := 2000000) only [go_sem, hG, hOw, hg, hg2, hb, h0, h6, h8, h9, h10, h91, h92, h93, m6, m9, m10, List.getElem?_cons_succ, Int.reduceToNat, List.drop_succ_cons]
    (repeat' with_reducible first | refine And.intro ?_ ?_ | intro _ | refine exP ?_ ?_); all_goals try omega
    refine hrest _ _ rfl ?_ ?_
    · refine ⟨?_, ?_, ?_, ?_, ?_, ?_, ?_, ?_, ?_, ?_, ?_⟩ <;> simp only [go_sem, h0, h6, h8, h9, h10, h91, h92, h93, m6, m9, m10, reduceIte, Nat.reduceEqDiff]
    · simp only [go_sem, reduceIte, Nat.reduceEqDiff, Bool.false_and, Bool.true_and]
theorem rp_7 (b : Bool) (og : Oper) (hg : all[62]? = some og) (hg2 : og.dst = some 168) (hb : st.get 168 = bl b) (hrest : ∀ (b' : Bool) (st' : St), b' = (b && decide ((x.lines.length : Int) ≤ 30)) → FR r s x b0 b1 k st' → st'.get 174 = bl b' → vcD Tryz.prog G alP all Q rest st') :
    vcD Tryz.prog G alP all Q (((((opsR 17 Tryz.f107.body).drop 63).take 6).map (·, false)) ++ rest) st := by
  obtain ⟨h0, h6, h8, h9, h10, h91, h92, h93, m6, m9, m10⟩ := hF
  unfold opsR Tryz.f107
  simp only [rgOf, bkOf, rgO, bkO, orElse, Option.bind_some, Option.getD_some, reduceIte, Nat.reduceEqDiff, reduceCtorEq]
  simp only [List.append_eq, List.cons_append, List.nil_append, List.drop_succ_cons, List.drop_zero, List.take_succ_cons, List.take_zero, List.map_cons, List.map_nil, alP]
  cases b
  · simp (maxSteps := 2000000) only [go_sem, hG, hOw, hg, hg2, hb, h0, h6, h8, h9, h10, h91, h92, h93, m6, m9, m10, List.getElem?_cons_succ, Int.reduceToNat, List.drop_succ_cons]
    (repeat' with_reducible first | refine And.intro ?_ ?_ | intro _ | refine exP ?_ ?_); all_goals try omega
    refine hrest _ _ rfl ?_ ?_
    · refine ⟨?_, ?_, ?_, ?_, ?_, ?_, ?_, ?_, ?_, ?_, ?_⟩ <;> simp only [go_sem, h0, h6, h8, h9, h10, h91, h92, h93, m6, m9, m10, reduceIte, Nat.reduceEqDiff]
    · simp only [go_sem, reduceIte, Nat.reduceEqDiff, Bool.false_and, Bool.true_and]
  · simp (maxSteps := 2000000) only [go_sem, hG, hOw, hg, hg2, hb, h0, h6, h8, h9, h10, h91, h92, h93, m6, m9, m10, List.getElem?_cons_succ, Int.reduceToNat, List.drop_succ_cons]
    (repeat' with_reducible first | refine And.intro ?_ ?_ | intro _ | refine exP ?_ ?_); all_goals try omega
    refine hrest _ _ rfl ?_ ?_
    · refine ⟨?_, ?_, ?_, ?_, ?_, ?_, ?_, ?_, ?_, ?_, ?_⟩ <;> simp only [go_sem, h0, h6, h8, h9, h10, h91, h92, h93, m6, m9, m10, reduceIte, Nat.reduceEqDiff]
    · simp only [go_sem, reduceIte, Nat.reduceEqDiff, Bool.false_and, Bool.true_and]
theorem rp_8 (hNm : G.nm = []) (b : Bool) (og : Oper) (hg : all[68]? = some og) (hg2 : og.dst = some 174) (og' : Oper) (hg' : all[71]? = some og') (hg2' : og'.dst = some 177) (hb : st.get 174 = bl b) (v : Bool) (hv : v = (b && (x.back || decide ((x.lines.length : Int) = 0)))) (hxl : x.lines.length ≤ 140737488355328) :
    vcD Tryz.prog G alP all (midQ G (fun b : Bool => St.of [(0, .fp (dkC 0 r)), (6, .ptr 6 0), (7, bl b), (8, i64 k), (9, .ptr 9 0), (10, .ptr 10 0), (91, srs 0 r.shares), (92, i64 r.shares.length), (93, i64 k)] [(6, .box (srE b0 ++ srE b1)), (9, .box (srE s)), (10, .box (seE 0 x))]) (fun b => b = v) Q) (((opsR 17 Tryz.f107.body).drop 69).map (·, false)) st := by
  obtain ⟨h0, h6, h8, h9, h10, h91, h92, h93, m6, m9, m10⟩ := hF
  simp only [go_sem] at h0 h6 h8 h9 h10 h91 h92 h93 m6 m9 m10 hb
  unfold opsR Tryz.f107
  simp only [rgOf, bkOf, rgO, bkO, orElse, Option.bind_some, Option.getD_some, reduceIte, Nat.reduceEqDiff, reduceCtorEq]
  simp only [List.append_eq, List.cons_append, List.nil_append, List.drop_succ_cons, List.drop_zero, List.take_succ_cons, List.take_zero, List.map_cons, List.map_nil, alP]
  cases b
  · simp (maxSteps := 2000000) only [go_sem, hG, hOw, hg, hg2, hg', hg2', hb, h0, h6, h8, h9, h10, h91, h92, h93, m6, m9, m10, Int.reduceToNat]
    (repeat' with_reducible first | refine And.intro ?_ ?_ | intro _ | refine exP ?_ ?_); all_goals try omega
    exact ⟨false, hv.symm, entA [(6, some 6), (9, some 9), (10, some 10)] (by (simp only [go_sem]) <;> simp [h0,h6,h8,h9,h10,h91,h92,h93,m6,m9,m10,okL,obOK]) (by (simp only [go_sem, entH, entH1, nilArr, obOK]) <;> simp [h0,h6,h8,h9,h10,h91,h92,h93,m6,m9,m10,okL,obOK])⟩
  · cases hbk : x.back
    · simp (maxSteps := 2000000) only [go_sem, hG, hOw, hg, hg2, hg', hg2', hb, h0, h6, h8, h9, h10, h91, h92, h93, m6, m9, m10, hbk, Int.reduceToNat]
      (repeat' with_reducible first | refine And.intro ?_ ?_ | intro _ | refine exP ?_ ?_); all_goals try omega
      exact ⟨_, hv.symm, entA [(6, some 6), (9, some 9), (10, some 10)] (by (simp only [go_sem]) <;> simp [h0,h6,h8,h9,h10,h91,h92,h93,m6,m9,m10,okL,obOK,hbk]) (by (simp only [go_sem, entH, entH1, nilArr, obOK]) <;> simp [h0,h6,h8,h9,h10,h91,h92,h93,m6,m9,m10,okL,obOK,hbk])⟩
    · simp (maxSteps := 2000000) only [go_sem, hG, hOw, hg, hg2, hg', hg2', hb, h0, h6, h8, h9, h10, h91, h92, h93, m6, m9, m10, hbk, Int.reduceToNat]
      (repeat' with_reducible first | refine And.intro ?_ ?_ | intro _ | refine exP ?_ ?_); all_goals try omega
      exact ⟨_, hv.symm, entA [(6, some 6), (9, some 9), (10, some 10)] (by (simp only [go_sem]) <;> simp [h0,h6,h8,h9,h10,h91,h92,h93,m6,m9,m10,okL,obOK,hbk]) (by (simp only [go_sem, entH, entH1, nilArr, obOK]) <;> simp [h0,h6,h8,h9,h10,h91,h92,h93,m6,m9,m10,okL,obOK,hbk])⟩
end
theorem rg_12 : ∃ og, (opsR 17 Tryz.f107.body)[12]? = some og ∧ og.dst = some 118 := ⟨_, rfl, rfl⟩
theorem rg_19 : ∃ og, (opsR 17 Tryz.f107.body)[19]? = some og ∧ og.dst = some 125 := ⟨_, rfl, rfl⟩
theorem rg_32 : ∃ og, (opsR 17 Tryz.f107.body)[32]? = some og ∧ og.dst = some 138 := ⟨_, rfl, rfl⟩
theorem rg_38 : ∃ og, (opsR 17 Tryz.f107.body)[38]? = some og ∧ og.dst = some 144 := ⟨_, rfl, rfl⟩
theorem rg_46 : ∃ og, (opsR 17 Tryz.f107.body)[46]? = some og ∧ og.dst = some 152 := ⟨_, rfl, rfl⟩
theorem rg_54 : ∃ og, (opsR 17 Tryz.f107.body)[54]? = some og ∧ og.dst = some 160 := ⟨_, rfl, rfl⟩
theorem rg_62 : ∃ og, (opsR 17 Tryz.f107.body)[62]? = some og ∧ og.dst = some 168 := ⟨_, rfl, rfl⟩
theorem rg_68 : ∃ og, (opsR 17 Tryz.f107.body)[68]? = some og ∧ og.dst = some 174 := ⟨_, rfl, rfl⟩
theorem rg_71 : ∃ og, (opsR 17 Tryz.f107.body)[71]? = some og ∧ og.dst = some 177 := ⟨_, rfl, rfl⟩
theorem right_part (r : Ro) (s : Sr) (x : Se) (b0 b1 : Sr) (k : Nat) {G : Gh} {Q : Exit → St → Prop} (hG : G.n = 197) (hOw : G.ow = fun _ => false) (hNm : G.nm = []) (hl : (linesL r.text).length ≤ 400) (hh : r.helpers.length ≤ 8) (hxl : x.lines.length ≤ 140737488355328) :
    SemC Tryz.prog G (rgOf 17 Tryz.f107.body) (St.of [(0, .fp (dkC 0 r)), (6, .ptr 6 0), (8, i64 k), (9, .ptr 9 0), (10, .ptr 10 0), (91, srs 0 r.shares), (92, i64 r.shares.length), (93, i64 k)] [(6, .box (srE b0 ++ srE b1)), (9, .box (srE s)), (10, .box (seE 0 x))])
      (midQ G (fun b : Bool => St.of [(0, .fp (dkC 0 r)), (6, .ptr 6 0), (7, bl b), (8, i64 k), (9, .ptr 9 0), (10, .ptr 10 0), (91, srs 0 r.shares), (92, i64 r.shares.length), (93, i64 k)] [(6, .box (srE b0 ++ srE b1)), (9, .box (srE s)), (10, .box (seE 0 x))]) (fun b => b = partB (linesL r.text).length r.helpers.length b1.fr b1.to b0.to s x) Q) := by
  rw [show rgOf 17 Tryz.f107.body = .region 17 (opsR 17 Tryz.f107.body).toArray true by kernel_rfl]
  refine semC_draw0 mixed (by kernel_rfl) ?_
  rw [show (⟨alOf (opsR 17 Tryz.f107.body), [], []⟩ : Al) = alP by kernel_rfl]
  rw [show (opsR 17 Tryz.f107.body).map (fun o => (o, false)) = ((opsR 17 Tryz.f107.body).take 13).map (fun o => (o, false)) ++ ((((opsR 17 Tryz.f107.body).drop 13).take 7).map (fun o => (o, false)) ++ ((((opsR 17 Tryz.f107.body).drop 20).take 13).map (fun o => (o, false)) ++ ((((opsR 17 Tryz.f107.body).drop 33).take 6).map (fun o => (o, false)) ++ ((((opsR 17 Tryz.f107.body).drop 39).take 8).map (fun o => (o, false)) ++ ((((opsR 17 Tryz.f107.body).drop 47).take 8).map (fun o => (o, false)) ++ ((((opsR 17 Tryz.f107.body).drop 55).take 8).map (fun o => (o, false)) ++ ((((opsR 17 Tryz.f107.body).drop 63).take 6).map (fun o => (o, false)) ++ (((opsR 17 Tryz.f107.body).drop 69).map (fun o => (o, false)))))))))) by kernel_rfl]
  obtain ⟨o12, p12, q12⟩ := rg_12
  obtain ⟨o19, p19, q19⟩ := rg_19
  obtain ⟨o32, p32, q32⟩ := rg_32
  obtain ⟨o38, p38, q38⟩ := rg_38
  obtain ⟨o46, p46, q46⟩ := rg_46
  obtain ⟨o54, p54, q54⟩ := rg_54
  obtain ⟨o62, p62, q62⟩ := rg_62
  obtain ⟨o68, p68, q68⟩ := rg_68
  obtain ⟨o71, p71, q71⟩ := rg_71
  refine rp_0 hG hOw hl hh ⟨rfl, rfl, rfl, rfl, rfl, rfl, rfl, rfl, rfl, rfl, rfl⟩ fun c1 s1 e1 F1 g1 => ?_
  refine rp_1 hG hOw hl hh F1 c1 o12 p12 q12 g1 fun c2 s2 e2 F2 g2 => ?_
  refine rp_2 hG hOw hl hh F2 c2 o19 p19 q19 g2 fun c3 s3 e3 F3 g3 => ?_
  refine rp_3 hG hOw hl hh F3 c3 o32 p32 q32 g3 fun c4 s4 e4 F4 g4 => ?_
  refine rp_4 hG hOw hl hh F4 c4 o38 p38 q38 g4 fun c5 s5 e5 F5 g5 => ?_
  refine rp_5 hG hOw hl hh F5 c5 o46 p46 q46 g5 fun c6 s6 e6 F6 g6 => ?_
  refine rp_6 hG hOw hl hh F6 c6 o54 p54 q54 g6 fun c7 s7 e7 F7 g7 => ?_
  refine rp_7 hG hOw hl hh F7 c7 o62 p62 q62 g7 fun c8 s8 e8 F8 g8 => ?_
  exact rp_8 hG hOw hl hh F8 hNm c8 o68 p68 q68 o71 p71 q71 g8 _ (by rw [e8, e7, e6, e5, e4, e3, e2, e1]; simp only [partB, Bool.and_assoc]) hxl
open Go Pm
set_option maxHeartbeats 4000000
set_option maxRecDepth 100000
def noSr : Sr := ⟨-1, -1, 0, 0⟩
def bfr (l : List Sr) (k d : Nat) : Sr := if d ≤ k then (l[k - d]?).getD noSr else noSr
theorem bfr_1 (l : List Sr) (k : Nat) (hk : k < l.length) : bfr l (k + 1) 1 = l[k] := by simp [bfr, hk]
theorem bfr_2 (l : List Sr) (k : Nat) : bfr l (k + 1) 2 = bfr l k 1 := by
  unfold bfr
  by_cases h : 1 ≤ k
  · rw [if_pos (by omega), if_pos h, show k + 1 - 2 = k - 1 by omega]
  · rw [if_neg (by omega), if_neg h]
theorem part_eq (all nh : Int) (l : List Sr) (k : Nat) (hk : k < l.length) (x : Se) :
    (shareB all nh (l.take k) l[k] && sheetB x) = (partB all nh (bfr l k 1).fr (bfr l k 1).to (bfr l k 2).to l[k] x && x.lines.all lineB) := by
  rcases (by omega : k = 0 ∨ k = 1 ∨ 2 ≤ k) with h0 | h1 | h2
  · subst h0
    rw [Bool.eq_iff_iff]
    simp [shareB, partB, sheetB, bfr, noSr, inB]
    constructor <;> intro h <;> simp only [and_assoc] at h ⊢ <;> (repeat' apply And.intro) <;> first | omega | simp_all
  · subst h1
    rw [Bool.eq_iff_iff]
    simp only [shareB, last2_take01 _ _ (by omega : 1 ≤ 1), last_take l 1 (by omega) (by omega)]
    simp [partB, sheetB, bfr, noSr, inB, show 0 < l.length by omega]
    constructor <;> intro h <;> simp only [and_assoc] at h ⊢ <;> (repeat' apply And.intro) <;> first | omega | simp_all
  · rw [Bool.eq_iff_iff]
    simp only [shareB, last2_take l k (by omega) (by omega), last_take l k (by omega) (by omega)]
    simp [partB, sheetB, bfr, noSr, inB, show k - 1 < l.length by omega, show k - 2 < l.length by omega, h2, show 1 ≤ k by omega]
    constructor <;> intro h <;> simp only [and_assoc] at h ⊢ <;> (repeat' apply And.intro) <;> first | omega | simp_all
theorem right_ok (r : Ro) (hr : OKr r) : Gives Tryz.prog 107 [.fp (dkC 0 r)] (fun _ => bl (roundB r)) := by
  have hll := linesL_all r.text hr.t
  have hh8 := hr.h
  have hs12 := hr.s
  obtain ⟨hx12, hx2⟩ := hr.x
  refine pure_intro (ow := fun _ => false) Tryz.func107 Tryz.ntmps107 rfl (by kernel_rfl) (by simp) rfl (by decide) fun G hG hOw hNm hB => ?_; simp only [go_sem, hG, hOw]
  refine semC_draw0 mixed (by kernel_rfl) ?_
  simp only [go_sem, hG, hOw]
  refine ⟨_, callGivesA (inH_one 1 4 r.helpers.length), ?_⟩
  simp only [go_sem, hG, hOw]
  (repeat' with_reducible first | refine And.intro ?_ ?_ | intro _ | refine exP ?_ ?_); all_goals try omega
  · rename_i c1 c2 c3
    simp only [roundB]
    rw [show decide ((r.sheets.length : Int) = r.shares.length) = false from decide_eq_false c3]; simp
  · rename_i c1 c2 c3
    have badh : ∀ k (h : k < r.helpers.length), helpB (r.helpers.take k) r.helpers[k] = false → roundB r = false := fun k h h' => by
      simp only [roundB]; rw [allPre_bad h h']; simp
    refine semC_cut (fun _ : Unit => St.of [(0, .fp (dkC 0 r))] []) (fun _ => allPre helpB [] r.helpers = true) ?_ ?_
    · refine semC_loop (fun k : Nat => St.of [(0, .fp (dkC 0 r)), (3, .mp 44), (49, hps 0 r.helpers), (50, i64 r.helpers.length), (51, i64 k)] [(44, .map (.int .i64) (idsM (idsOf Hp.id r.helpers k)))]) (fun k => k ≤ r.helpers.length ∧ allPre helpB [] (r.helpers.take k) = true) (fun k => r.helpers.length - k) 0 (by simp [allPre]) (entA [(44, some 44)]) ?_
      rintro k ⟨hk, hall⟩
      refine vc_sound _ _ _ ?_; simp only [go_sem, hG, hOw]
      (repeat' with_reducible first | refine And.intro ?_ ?_ | intro _ | refine exP ?_ ?_); all_goals try omega
      · rename_i hlt
        have hkl : k < r.helpers.length := by omega
        refine call_pureA (inH_one 0 9999 r.helpers[k].id) ?_
        simp (maxSteps := 2000000) only [go_sem, hG, hOw, lkM_ids, idsOf_any]
        (repeat' with_reducible first | refine And.intro ?_ ?_ | intro _ | refine exP ?_ ?_); all_goals try omega
        · rename_i h2 h3
          refine call_pureA (inH_one 0 30 r.helpers[k].post) ?_
          simp only [go_sem, hG, hOw]
          (repeat' with_reducible first | refine And.intro ?_ ?_ | intro _ | refine exP ?_ ?_); all_goals try omega
          · rename_i h4
            refine call_pureA (inH_one 1 20 r.helpers[k].rate) ?_
            have hup := idsOf_up Hp.id r.helpers k hkl h3
            simp (maxSteps := 2000000) only [go_sem, hG, hOw, hup]
            (repeat' with_reducible first | refine And.intro ?_ ?_ | intro _ | refine exP ?_ ?_); all_goals try omega
            · rename_i h5
              rw [badh k hkl (by unfold helpB; rw [h5]; simp)]
            · rename_i h5
              refine ⟨k + 1, ⟨by omega, ?_⟩, by omega, entA [(44, some 44)]⟩
              rw [allPre_step _ _ _ hkl, hall]
              unfold helpB
              rw [h2, h3, h4, h5]; rfl
          · rename_i h4
            rw [badh k hkl (by unfold helpB; rw [h4]; simp)]
        · rename_i h2 h3
          rw [badh k hkl (by unfold helpB; rw [h3]; simp)]
        · rename_i h2
          rw [badh k hkl (by unfold helpB; rw [h2]; simp)]
      · rename_i hge
        rw [take_full hk hge] at hall
        exact ⟨(), hall, ent_of0 (by (simp only [go_sem]) <;> simp) hNm⟩
    · rintro ⟨⟩ hhall
      simp only [go_sem, hG, hOw]
      (repeat' with_reducible first | refine And.intro ?_ ?_ | intro _ | refine exP ?_ ?_); all_goals try omega
      refine semC_cut (fun b : Bool => St.of [(7, bl b)] []) (fun b => b = roundB r) ?_ ?_
      · refine semC_loop (fun k : Nat => St.of [(0, .fp (dkC 0 r)), (6, .ptr 6 0), (7, bl true), (91, srs 0 r.shares), (92, i64 r.shares.length), (93, i64 k)] [(6, .box (srE (bfr r.shares k 2) ++ srE (bfr r.shares k 1)))])
          (fun k => k ≤ r.shares.length ∧ allPre (shareB (linesL r.text).length r.helpers.length) [] (r.shares.take k) = true ∧ (r.sheets.take k).all sheetB = true) (fun k => r.shares.length - k) 0 (by simp [allPre]) (entA [(6, some 6)] (by (simp only [go_sem]) <;> simp [bfr,noSr,srE,i64]) (by (simp only [go_sem, entH, entH1, nilArr, obOK]) <;> simp [bfr,noSr,srE,i64])) ?_
        rintro k ⟨hk, hall, hallx⟩
        refine vc_sound _ _ _ ?_; simp only [go_sem, hG, hOw]
        (repeat' with_reducible first | refine And.intro ?_ ?_ | intro _ | refine exP ?_ ?_); all_goals try omega
        · rename_i hlt
          have hkl : k < r.shares.length := by omega
          have hkx : k < r.sheets.length := by omega
          have hxk := (hx2 _ (List.getElem_mem hkx)).1
          refine semC_mid (fun b : Bool => St.of [(0, .fp (dkC 0 r)), (6, .ptr 6 0), (7, bl b), (8, i64 k), (9, .ptr 9 0), (10, .ptr 10 0), (91, srs 0 r.shares), (92, i64 r.shares.length), (93, i64 k)] [(6, .box (srE (bfr r.shares k 2) ++ srE (bfr r.shares k 1))), (9, .box (srE r.shares[k])), (10, .box (seE 0 r.sheets[k]))])
            (fun b => b = partB (linesL r.text).length r.helpers.length (bfr r.shares k 1).fr (bfr r.shares k 1).to (bfr r.shares k 2).to r.shares[k] r.sheets[k]) ?_ ?_
          · refine semC_ent (s' := St.of [(0, .fp (dkC 0 r)), (6, .ptr 6 0), (8, i64 k), (9, .ptr 9 0), (10, .ptr 10 0), (91, srs 0 r.shares), (92, i64 r.shares.length), (93, i64 k)] [(6, .box (srE (bfr r.shares k 2) ++ srE (bfr r.shares k 1))), (9, .box (srE r.shares[k])), (10, .box (seE 0 r.sheets[k]))]) (entA [(6, some 6), (9, some 9), (10, some 10)]) ?_
            exact semC_code (by kernel_rfl) (right_part r r.shares[k] r.sheets[k] (bfr r.shares k 2) (bfr r.shares k 1) k hG hOw hNm hll hh8 (by omega))
          · rintro b hb
            have hpe := part_eq (linesL r.text).length r.helpers.length r.shares k hkl r.sheets[k]
            rw [← hb] at hpe
            have badp : (b && r.sheets[k].lines.all lineB) = false → roundB r = false := fun h => by
              rw [h, Bool.and_eq_false_iff] at hpe
              simp only [roundB]
              rcases hpe with hp | hp
              · rw [allPre_bad hkl hp]; simp
              · rw [all_false hkx hp]; simp
            simp only [go_sem, hG, hOw]
            (repeat' with_reducible first | refine And.intro ?_ ?_ | intro _ | refine exP ?_ ?_); all_goals try omega
            · rename_i hbt
              subst hbt
              refine call_pureA (ContainsFunc_Ln _ [] (fun l => !lineB l) r.sheets[k].lines rfl (fun l _ => right1_ok l)) ?_
              have hal : r.sheets[k].lines.all lineB = !(r.sheets[k].lines.any fun l => !lineB l) := by rw [List.not_any_eq_all_not]; simp
              have hf1 := bfr_1 r.shares k hkl
              have hf2 := bfr_2 r.shares k
              simp (maxSteps := 2000000) only [go_sem, hG, hOw, Int.reduceToNat, List.cons_append, List.nil_append, srE, i64]
              (repeat' with_reducible first | refine And.intro ?_ ?_ | intro _ | refine exP ?_ ?_); all_goals try omega
              · rename_i h6
                exact ⟨false, (badp (by rw [hal, h6]; rfl)).symm, ent_of0 (by (simp only [go_sem]) <;> simp) hNm⟩
              · rename_i h6
                rw [hal, h6] at hpe
                simp only [Bool.not_false, Bool.and_true, Bool.and_eq_true] at hpe
                refine ⟨k + 1, ⟨by omega, ?_, all_take_succ hkx hallx hpe.2⟩, by omega, entA [(6, some 6)] (by (simp only [go_sem]) <;> simp [hf1,hf2,srE,i64]) (by (simp only [go_sem, entH, entH1, nilArr, obOK]) <;> simp [hf1,hf2,srE,i64])⟩
                rw [allPre_step _ _ _ hkl, hall, hpe.1]; rfl
            · rename_i hbf
              subst hbf
              exact ⟨false, (badp rfl).symm, ent_of0 (by (simp only [go_sem]) <;> simp) hNm⟩
        · rename_i hge
          rw [take_full hk hge] at hall
          rw [take_full (by omega) (by omega)] at hallx
          refine ⟨true, ?_, ent_of0 (by (simp only [go_sem]) <;> simp) hNm⟩
          simp only [roundB]
          rw [c1, hhall, hall, hallx, show decide ((r.shares.length : Int) ≤ 8) = true from decide_eq_true (by omega), show decide ((r.sheets.length : Int) = r.shares.length) = true from decide_eq_true c3]; rfl
      · rintro b rfl
        simp only [go_sem, hG, hOw]
  · simp only [roundB]
    rw [show decide ((r.shares.length : Int) ≤ 8) = false from decide_eq_false (by omega)]; simp
  · simp only [roundB]
    rw [show inB r.helpers.length 1 4 = false by assumption]; simp
open Go Pm
set_option maxHeartbeats 4000000
set_option maxRecDepth 100000
theorem open_good (r : Ro) (hr : OKr r) (he : roundE r = 0) : Gives Tryz.prog 62 [roE 0 r] (fun n => .tup [.fp (dkC n r), i64 0]) := by
  have hT : textB r.text = true := by
    cases h : textB r.text with
    | true => rfl
    | false => simp [roundE, h] at he
  have hR : roundB r = true := by
    cases h : roundB r with
    | true => rfl
    | false => simp [roundE, h, hT] at he
  refine pure_intro (ow := fun _ => false) Tryz.func62 Tryz.ntmps62 rfl (by kernel_rfl) (by simp) rfl (by decide) fun G hG hOw hNm hB => ?_; simp only [go_sem, hG, hOw]
  refine call_pureA (LCheck_ok r.text) ?_
  simp (maxSteps := 2000000) only [go_sem, hG, hOw, hT]
  refine call_pureA (laid_ok r hr.t) ?_
  simp only [go_sem, hG, hOw]
  refine call_pureA (right_ok r hr) ?_
  simp (maxSteps := 2000000) only [go_sem, hG, hOw, hR]
theorem open_bad (r : Ro) (hr : OKr r) (he : ¬ roundE r = 0) : Gives Tryz.prog 62 [roE 0 r] (fun _ => .tup [.v (.pointer none), i64 (roundE r)]) := by
  refine pure_intro (ow := fun _ => false) Tryz.func62 Tryz.ntmps62 rfl (by kernel_rfl) (by simp) rfl (by decide) fun G hG hOw hNm hB => ?_; simp only [go_sem, hG, hOw]
  refine call_pureA (LCheck_ok r.text) ?_
  simp only [go_sem, hG, hOw]
  cases hT : textB r.text with
  | false =>
    have e : roundE r = 10 := by simp [roundE, hT]
    (repeat' with_reducible first | refine And.intro ?_ ?_ | intro _ | refine exP ?_ ?_); all_goals try omega
    · rw [e]; exact Sub.refl _
    · rename_i h; simp at h
  | true =>
    have hR : roundB r = false := by
      cases h : roundB r with
      | false => rfl
      | true => simp [roundE, h, hT] at he
    have e : roundE r = 50 := by simp [roundE, hT, hR]
    (repeat' with_reducible first | refine And.intro ?_ ?_ | intro _ | refine exP ?_ ?_); all_goals try omega
    · rename_i h; simp at h
    · refine call_pureA (laid_ok r hr.t) ?_
      simp only [go_sem, hG, hOw]
      refine call_pureA (right_ok r hr) ?_
      simp (maxSteps := 2000000) only [go_sem, hG, hOw, hR, e]
open Go Pm
set_option maxHeartbeats 4000000
set_option maxRecDepth 100000
theorem size_ok (r : Ro) (hr : Good r) (i : Nat) (hi : i < r.shares.length) : Gives Tryz.prog 122 [.fp (dkC 0 r), i64 i] (fun _ => i64 (r.shares[i].to - r.shares[i].fr + 1)) := by
  have hs := hr.s i hi
  have hl := hr.ll
  refine pure_intro (ow := fun _ => false) Tryz.func122 Tryz.ntmps122 rfl (by kernel_rfl) (by simp) rfl (by decide) fun G hG hOw hNm hB => ?_; simp only [go_sem, hG, hOw]
  refine semC_draw0 mixed (by kernel_rfl) ?_
  simp only [go_sem, hG, hOw]
  (repeat' with_reducible first | refine And.intro ?_ ?_ | intro _ | refine exP ?_ ?_); all_goals try omega
theorem hdays_ok (r : Ro) (hr : Good r) (i : Nat) (hi : i < r.shares.length) (h : Int) (h0 : 0 ≤ h) (hh : h.toNat < r.helpers.length) : Gives Tryz.prog 75 [.fp (dkC 0 r), i64 i, i64 h] (fun _ => i64 (daysI r.shares[i] r.helpers[h.toNat])) := by
  have hs := hr.s i hi
  have hl := hr.ll
  have hn := hr.hn
  have hH := hr.h _ hh
  refine pure_intro (ow := fun _ => false) Tryz.func75 Tryz.ntmps75 rfl (by kernel_rfl) (by simp) rfl (by decide) fun G hG hOw hNm hB => ?_; simp only [go_sem, hG, hOw]
  (repeat' with_reducible first | refine And.intro ?_ ?_ | intro _ | refine exP ?_ ?_); all_goals try omega
  refine call_pureA (size_ok r hr i hi) ?_
  simp only [go_sem, hG, hOw]
  have hd := daysI_le (s := r.shares[i]) (h := r.helpers[h.toNat]) (by omega) (by omega) (by omega) (by omega) (by omega)
  have e : r.shares[i].to - r.shares[i].fr + 1 + r.helpers[h.toNat].rate - 1 = r.shares[i].to - r.shares[i].fr + r.helpers[h.toNat].rate := by omega
  unfold daysI at hd
  (repeat' with_reducible first | refine And.intro ?_ ?_ | intro _ | refine exP ?_ ?_); all_goals try omega
  · rw [fitsK_i64, e]; omega
  · rw [e]; rfl
theorem part_good (r : Ro) (hr : OKr r) (he : roundE r = 0) (n : Int) (hn : inB n 0 (r.shares.length - 1) = true) : Gives Tryz.prog 55 [roE 0 r, i64 n] (fun N => .tup [.fp (dkC N r), i64 0]) := by
  have hs := hr.s
  refine pure_intro (ow := fun _ => false) Tryz.func55 Tryz.ntmps55 rfl (by kernel_rfl) (by simp) rfl (by decide) fun G hG hOw hNm hB => ?_; simp only [go_sem, hG, hOw]
  refine call_pureA (open_good r hr he) ?_
  simp only [go_sem, hG, hOw]
  (repeat' with_reducible first | refine And.intro ?_ ?_ | intro _ | refine exP ?_ ?_); all_goals try omega
  refine call_pureA (inH_one 0 (r.shares.length - 1) n) ?_
  simp (maxSteps := 2000000) only [go_sem, hG, hOw, hn]
theorem part_bad (r : Ro) (hr : OKr r) (n : Int) (h : backE r n ≠ 0) : Gives Tryz.prog 55 [roE 0 r, i64 n] (fun N => .tup [.v (.pointer none), i64 (backE r n)]) := by
  have hs := hr.s
  refine pure_intro (ow := fun _ => false) Tryz.func55 Tryz.ntmps55 rfl (by kernel_rfl) (by simp) rfl (by decide) fun G hG hOw hNm hB => ?_; simp only [go_sem, hG, hOw]
  by_cases he : roundE r = 0
  · refine call_pureA (open_good r hr he) ?_
    simp only [go_sem, hG, hOw]
    (repeat' with_reducible first | refine And.intro ?_ ?_ | intro _ | refine exP ?_ ?_); all_goals try omega
    refine call_pureA (inH_one 0 (r.shares.length - 1) n) ?_
    have hn : inB n 0 (r.shares.length - 1) = false := by
      cases hn : inB n 0 (r.shares.length - 1) with
      | false => rfl
      | true => simp [backE, he, hn] at h
    have e : backE r n = 2 := by simp [backE, he, hn]
    simp (maxSteps := 2000000) only [go_sem, hG, hOw, hn, e]
  · refine call_pureA (open_bad r hr he) ?_
    have e : backE r n = roundE r := by simp [backE, he]
    simp (maxSteps := 2000000) only [go_sem, hG, hOw, e]
    (repeat' with_reducible first | refine And.intro ?_ ?_ | intro _ | refine exP ?_ ?_); all_goals try omega
open Go Pm
set_option maxHeartbeats 4000000
set_option maxRecDepth 100000
def eraseN (L : List Int) (a : Int) : Nat → List Int
  | 0 => L
  | m + 1 => (eraseN L a m).erase (a + m)
theorem delM_ids (L : List Int) (n : Int) : delM (idsM L) (.int .i64 n) = idsM (L.erase n) := by
  induction L with
  | nil => rfl
  | cons x r ih =>
    simp only [idsM, List.map_cons, delM, keyB, List.erase_cons]
    by_cases h : x = n
    · simp [h]
    · have : (x == n) = false := by simpa using h
      simp only [h, decide_false, Bool.false_eq_true, if_false, this, List.map_cons, List.cons.injEq, true_and]
      exact ih
theorem eraseN_nodup {L : List Int} (h : L.Nodup) (a : Int) : ∀ m, (eraseN L a m).Nodup
  | 0 => h
  | m + 1 => (eraseN_nodup h a m).erase _
theorem mem_eraseN {L : List Int} (h : L.Nodup) (a : Int) (x : Int) : ∀ m : Nat, x ∈ eraseN L a m ↔ x ∈ L ∧ ¬ (a ≤ x ∧ x < a + m)
  | 0 => by simp [eraseN]; try omega
  | m + 1 => by
    simp only [eraseN]
    rw [(eraseN_nodup h a m).mem_erase_iff, mem_eraseN h a x m]
    constructor
    · rintro ⟨h1, h2, h3⟩
      exact ⟨h2, by omega⟩
    · rintro ⟨h1, h2⟩
      exact ⟨by omega, h1, by omega⟩
def allN (n : Nat) : List Int := (List.range n).map Int.ofNat
theorem allN_succ (n : Nat) : allN (n + 1) = allN n ++ [(n : Int)] := by simp [allN, List.range_succ]
theorem allN_nodup (n : Nat) : (allN n).Nodup := by
  unfold allN
  exact List.Pairwise.map _ (fun a b h e => h (Int.ofNat.inj e)) List.nodup_range
theorem mem_allN (n : Nat) (x : Int) : x ∈ allN n ↔ 0 ≤ x ∧ x < n := by
  simp only [allN, List.mem_map, List.mem_range]
  constructor
  · rintro ⟨a, h, rfl⟩; simp; exact h
  · rintro ⟨h1, h2⟩; exact ⟨x.toNat, by omega, by simp; omega⟩
def leftL (n : Nat) (shares : List Sr) (p : Nat → Bool) : Nat → List Int
  | 0 => allN n
  | i + 1 => match shares[i]? with
    | some s => if p i = true then eraseN (leftL n shares p i) s.fr (s.to - s.fr + 1).toNat else leftL n shares p i
    | none => leftL n shares p i
theorem leftL_succ (n : Nat) (shares : List Sr) (p : Nat → Bool) {i : Nat} (hi : i < shares.length) :
    leftL n shares p (i + 1) = if p i = true then eraseN (leftL n shares p i) shares[i].fr (shares[i].to - shares[i].fr + 1).toNat else leftL n shares p i := by
  simp [leftL, hi]
theorem leftL_nodup (n : Nat) (shares : List Sr) (p : Nat → Bool) : ∀ i, (leftL n shares p i).Nodup
  | 0 => allN_nodup n
  | i + 1 => by
    unfold leftL
    split
    · split
      · exact eraseN_nodup (leftL_nodup n shares p i) _ _
      · exact leftL_nodup n shares p i
    · exact leftL_nodup n shares p i
theorem mem_leftL (n : Nat) (shares : List Sr) (p : Nat → Bool) (x : Int) : ∀ i, i ≤ shares.length → (x ∈ leftL n shares p i ↔ (0 ≤ x ∧ x < n) ∧ ∀ (j : Nat) (hj : j < shares.length), j < i → p j = true → ¬ (shares[j].fr ≤ x ∧ x ≤ shares[j].to))
  | 0, _ => by simp [leftL, mem_allN]
  | i + 1, hi => by
    rw [leftL_succ n shares p (by omega)]
    have ih := mem_leftL n shares p x i (by omega)
    by_cases hp : p i = true
    · rw [if_pos hp, mem_eraseN (leftL_nodup n shares p i), ih]
      constructor
      · rintro ⟨⟨h1, h2⟩, h3⟩
        refine ⟨h1, fun j hj hji hpj => ?_⟩
        by_cases e : j = i
        · subst e; omega
        · exact h2 j hj (by omega) hpj
      · rintro ⟨h1, h2⟩
        refine ⟨⟨h1, fun j hj hji hpj => h2 j hj (by omega) hpj⟩, ?_⟩
        have := h2 i (by omega) (by omega) hp
        omega
    · rw [if_neg hp, ih]
      constructor
      · rintro ⟨h1, h2⟩
        refine ⟨h1, fun j hj hji hpj => ?_⟩
        by_cases e : j = i
        · subst e; exact absurd hpj hp
        · exact h2 j hj (by omega) hpj
      · rintro ⟨h1, h2⟩
        exact ⟨h1, fun j hj hji hpj => h2 j hj (by omega) hpj⟩
theorem of_ok (r : Ro) (i : Nat) : Gives Tryz.prog 56 [.fp (dkC 0 r), i64 i] (fun _ => .fn (.func 101) [.fp [.fp (dkC 0 r)], .fp [i64 i]]) := by
  refine pure_intro (ow := fun _ => false) Tryz.func56 Tryz.ntmps56 rfl (by kernel_rfl) (by simp) rfl (by decide) fun G hG hOw hNm hB => ?_; simp only [go_sem, hG, hOw]
theorem eraseN_zero (L : List Int) (a : Int) : eraseN L a 0 = L := rfl
attribute [go_sem] eraseN_zero
theorem leftL_zero (n : Nat) (shares : List Sr) (p : Nat → Bool) : leftL n shares p 0 = allN n := rfl
attribute [go_sem] leftL_zero
theorem allN_zero : allN 0 = [] := rfl
attribute [go_sem] allN_zero
theorem upM_all (n : Nat) : upM (idsM (allN n)) (.int .i64 n) (.v (.bool true)) = idsM (allN (n + 1)) := by
  rw [upM_ids, allN_succ]
  rw [List.any_eq_false]
  intro x hx
  rw [mem_allN] at hx
  simp; omega
theorem nm_all0 (nm : List Nat) (n : Nat) : ∀ {l : List V}, all0 l = true → l.all (nmOK nm (n + 1)) = true
  | [], _ => rfl
  | x :: r, h => by
    simp only [all0, Bool.and_eq_true] at h
    simp only [List.all_cons, Bool.and_eq_true]
    refine ⟨?_, nm_all0 nm n h.2⟩
    have := h.1
    cases x <;> first | rfl | (simp [pure0] at this; done)
theorem nmOK_fn (nm : List Nat) (f : Fn) {cap : List V} (h : all0 cap = true) : nmOK nm 4 (.fn f cap) = true := nm_all0 nm 2 h
theorem uncovered_ok (r : Ro) (hr : Good r) (fk : Fn) (cap : List V) (hcap : all0 cap = true) (p : Nat → Bool)
    (hf : ∀ (i : Nat) (hi : i < r.shares.length) (G : Gh) (o : Oper) (s : St) (Q : Exit → St → Prop) (rest : St → Prop), chk G.n o.dst → rest (putD s o.dst (bl (p i))) → SemCall Tryz.prog G o s Q rest (.fn fk cap) [i64 i]) :
    Tri Tryz.prog 65 [.fp (dkC 0 r), .fn fk cap] [] (fun _ => .ret (.mp 0) [(0, .map (.int .i64) (idsM (leftL (linesL r.text).length r.shares p r.shares.length)))]) := by
  have hll := hr.ll
  have hsn := hr.sn
  refine tri_introR (fun _ => false) Tryz.func65 Tryz.ntmps65 rfl (by kernel_rfl) (by simp) rfl (by decide) fun G hG hOw hNm hrd => ?_; simp only [go_sem, hG, hOw]
  (repeat' with_reducible first | refine And.intro ?_ ?_ | intro _ | refine exP ?_ ?_); all_goals try omega
  refine semC_cut (fun _ : Unit => St.of [(0, .fp (dkC 0 r)), (1, .fn fk cap), (5, .ptr 5 0)] [(5, .box [.mp 9]), (9, .map (.int .i64) (idsM (allN (linesL r.text).length)))]) (fun _ => True) ?_ ?_
  · refine semC_loop (fun k : Nat => St.of [(0, .fp (dkC 0 r)), (1, .fn fk cap), (5, .ptr 5 0), (14, i64 (linesL r.text).length), (15, i64 k)] [(5, .box [.mp 9]), (9, .map (.int .i64) (idsM (allN k)))]) (fun k => k ≤ (linesL r.text).length) (fun k => (linesL r.text).length - k) 0 (by simp) (entA [(5, some 5), (9, some 9)] (by (simp only [go_sem]) <;> simp [hcap]) (by (simp only [go_sem, entH, entH1, nilArr, obOK]) <;> simp [hcap])) ?_
    rintro k hk
    have hup := upM_all k
    refine vc_sound _ _ _ ?_
    simp (maxSteps := 2000000) only [go_sem, hG, hOw, hup]
    (repeat' with_reducible first | refine And.intro ?_ ?_ | intro _ | refine exP ?_ ?_); all_goals try omega
    · exact ⟨k + 1, by omega, by omega, entA [(5, some 5), (9, some 9)] (by (simp only [go_sem]) <;> simp [hcap]) (by (simp only [go_sem, entH, entH1, nilArr, obOK]) <;> simp [hcap])⟩
    · rename_i hge
      obtain rfl : k = (linesL r.text).length := by omega
      exact ⟨(), entA [(5, some 5), (9, some 9)] (by (simp only [go_sem]) <;> simp [hcap]) (by (simp only [go_sem, entH, entH1, nilArr, obOK]) <;> simp [hcap])⟩
  rintro ⟨⟩ -
  simp only [go_sem, hG, hOw]
  (repeat' with_reducible first | refine And.intro ?_ ?_ | intro _ | refine exP ?_ ?_); all_goals try omega
  refine semC_loop (fun k : Nat => St.of [(0, .fp (dkC 0 r)), (1, .fn fk cap), (5, .ptr 5 0), (25, srs 0 r.shares), (26, i64 r.shares.length), (27, i64 k)] [(5, .box [.mp 9]), (9, .map (.int .i64) (idsM (leftL (linesL r.text).length r.shares p k)))]) (fun k => k ≤ r.shares.length) (fun k => r.shares.length - k) 0 (by simp) (entA [(5, some 5), (9, some 9)] (by (simp only [go_sem]) <;> simp [hcap]) (by (simp only [go_sem, entH, entH1, nilArr, obOK]) <;> simp [hcap])) ?_
  rintro k hk
  refine vc_sound _ _ _ ?_; simp only [go_sem, hG, hOw]
  (repeat' with_reducible first | refine And.intro ?_ ?_ | intro _ | refine exP ?_ ?_); all_goals try omega
  · rename_i hlt
    have hkl : k < r.shares.length := by omega
    refine hf k hkl G _ _ _ _ (by simp [chk, hG]) ?_
    simp only [go_sem, hG, hOw]
    (repeat' with_reducible first | refine And.intro ?_ ?_ | intro _ | refine exP ?_ ?_); all_goals try omega
    · rename_i hp
      refine ⟨k + 1, by omega, by omega, ?_⟩
      rw [leftL_succ _ _ _ hkl, if_neg (by rw [hp]; simp)]
      exact entA [(5, some 5), (9, some 9)] (by (simp only [go_sem]) <;> simp [hcap]) (by (simp only [go_sem, entH, entH1, nilArr, obOK]) <;> simp [hcap])
    · rename_i hp
      refine call_pureA (of_ok r k) ?_
      simp only [go_sem, hG, hOw]
      have hsk := hr.s k hkl
      obtain ⟨L0, hL0⟩ : ∃ L0, L0 = leftL (linesL r.text).length r.shares p k := ⟨_, rfl⟩
      show SemC _ _ _ _ _
      refine semC_ent (s' := St.of [(0, .fp (dkC 0 r)), (1, .fn fk cap), (5, .ptr 5 0), (25, srs 0 r.shares), (26, i64 r.shares.length), (27, i64 k), (36, .fn (.func 101) [.fp [.fp (dkC 0 r)], .fp [i64 k]])] [(5, .box [.mp 9]), (9, .map (.int .i64) (idsM L0))]) (by rw [hL0]; exact entA [(5, some 5), (9, some 9)] (by (simp only [go_sem]) <;> simp [hcap]) (by (simp only [go_sem, entH, entH1, nilArr, obOK]) <;> simp [hcap])) ?_
      refine semC_rangeFunc [(8, 37)] [5, 9] 99 (fun _ => false) hrd rfl Tryz.func101 Tryz.ntmps101 rfl (by kernel_rfl) rfl (by simp) (by rw [hG]; decide) rfl (by rw [hNm]; simp [names]) (by simp only [List.all_cons, List.all_nil, nmOK_fn [5, 9] fk hcap]; rfl) rfl rfl (by rw [hG]; decide) fun G1 l L k1 k2 k3 k4 k5 hY => ?_
      have hG0 := hG
      have hNm0 := hNm
      have hOw0 := hOw
      have hG := k1
      have hOw := k2
      have hNm := k3
      obtain ⟨cnt, hcnt⟩ : ∃ c : Nat, (c : Int) = r.shares[k].to - r.shares[k].fr + 1 := ⟨(r.shares[k].to - r.shares[k].fr + 1).toNat, by omega⟩
      simp only [go_sem, hG, hOw]
      refine semC_draw0 mixed (by kernel_rfl) ?_
      simp only [go_sem, hG, hOw]
      (repeat' with_reducible first | refine And.intro ?_ ?_ | intro _ | refine exP ?_ ?_); all_goals try omega
      refine semC_loop (fun m : Nat => St.of [(0, .v (.func (.yield l) #[] #[])), (1, .fp [.fp (dkC 0 r)]), (2, .fp [i64 k]), (4, i64 (r.shares[k].fr + m))] [(99, .obj (.loop (Lp L none))), (5, .box [.mp 9]), (9, .map (.int .i64) (idsM (eraseN L0 r.shares[k].fr m)))]) (fun m => m ≤ cnt) (fun m => cnt - m) 0 (by simp) (entA [(99, some 99), (5, some 5), (9, some 9)]) ?_
      rintro m hm
      refine vc_sound _ _ _ ?_
      simp only [go_sem, hG, hOw]
      refine semC_draw0 mixed (by kernel_rfl) ?_
      simp only [go_sem, hG, hOw]
      (repeat' with_reducible first | refine And.intro ?_ ?_ | intro _ | refine exP ?_ ?_); all_goals try omega
      · rename_i hle
        refine hY [99, 5, 9] _ _ _ _ _ (by simp [go_sem]) rfl (by simp [chk, k1]) (by rw [k3]; simp) (by intro id hid; left; rw [k3]; exact hid) fun G2 m1 m2 m3 m4 m5 => ?_
        have hG2 := m1.trans hG0
        have hOw2 := m2.trans hOw0
        have hde : delM (idsM (eraseN L0 r.shares[k].fr m)) (.int .i64 (r.shares[k].fr + m)) = idsM (eraseN L0 r.shares[k].fr (m + 1)) := delM_ids _ _
        have hm1 : r.shares[k].fr + ((m + 1 : Nat) : Int) = r.shares[k].fr + m + 1 := by omega
        refine vc_sound _ _ _ ?_
        simp (maxSteps := 2000000) only [go_sem, hG, hOw, hG2, hOw2, hde]
        (repeat' with_reducible first | refine And.intro ?_ ?_ | intro _ | refine exP ?_ ?_); all_goals try omega
        exact ⟨m + 1, by omega, by omega, entA [(99, some 99), (5, some 5), (9, some 9)] (by (simp only [go_sem]) <;> simp [Int.add_assoc]) (by (simp only [go_sem, entH, entH1, nilArr, obOK]) <;> simp [Int.add_assoc])⟩
      · rename_i hgt
        obtain rfl : m = cnt := by omega
        refine ⟨none, by simp [go_sem], ?_⟩
        simp (maxSteps := 2000000) only [go_sem, hG, hOw, hG0]
        (repeat' with_reducible first | refine And.intro ?_ ?_ | intro _ | refine exP ?_ ?_); all_goals try omega
        refine ⟨k + 1, by omega, by omega, ?_⟩
        rw [leftL_succ _ _ _ hkl, if_pos hp, ← hL0, show (r.shares[k].to - r.shares[k].fr + 1).toNat = m by omega]
        have hNm := hNm0
        exact entA [(5, some 5), (9, some 9)] (by (simp only [go_sem]) <;> simp [hcap]) (by (simp only [go_sem, entH, entH1, nilArr, obOK]) <;> simp [hcap])
  · rename_i hge
    obtain rfl : k = r.shares.length := by omega
    exact ⟨[(0, some 9)], by (simp only [EndT, go_sem, entH, entH1, nilArr, obOK, apart, injR, coverR]) <;> simp⟩
open Go Pm
set_option maxHeartbeats 4000000
set_option maxRecDepth 100000
theorem ren_ids {f : Value × V → Value × V} (l : List Int) (hf : ∀ n, f (.int .i64 n, .v (.bool true)) = (.int .i64 n, .v (.bool true))) : (idsM l).map f = idsM l := by
  induction l with
  | nil => rfl
  | cons x r ih => simp only [idsM, List.map_cons] at ih ⊢; rw [hf, ih]
attribute [go_sem] ren_ids
end Go.Proofs.YtfnohnjnncjidaaGreatDoor
