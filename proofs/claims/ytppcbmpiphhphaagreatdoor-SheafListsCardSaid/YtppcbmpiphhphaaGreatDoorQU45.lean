import Derived.Test.YtppcbmpiphhphaaGreatDoorQU40
import Derived.Test.YtppcbmpiphhphaaGreatDoorQU41
import Derived.Test.YtppcbmpiphhphaaGreatDoorQU44
namespace Go.Proofs.YtppcbmpiphhphaaGreatDoor
open Go Pm
set_option linter.unusedSimpArgs false
set_option linter.unusedVariables false
set_option maxHeartbeats 4000000
set_option maxRecDepth 100000
def newSi (rest : List ByteArray) (w : ByteArray) : Si := ⟨nvS rest 0, nvS rest 1, nvS rest 2, w, ⟨#[]⟩, ⟨#[]⟩⟩
theorem stepX_slip {s : List Si × Nat} {x : ByteArray} {rest : List ByteArray} (hp : partsS x = slipS :: rest) : stepX s x = match rest.drop 3 with
    | w :: r => if (!(!placeB rest || !wordB w) && r.isEmpty) = true then some (s.1 ++ [newSi rest w], upQ s.2) else none
    | [] => none := by
  unfold stepX
  rw [hp]
  simp only [stepW, if_true]
  cases placeB rest with
  | false => cases rest.drop 3 <;> simp
  | true =>
    cases rest.drop 3 with
    | nil => simp
    | cons w r =>
      cases hw : wordB w with
      | false => simp [hw]
      | true => cases r <;> simp [hw, newSi]
theorem stepX_bef {s : List Si × Nat} {x : ByteArray} {rest : List ByteArray} (hp : partsS x = beforeS :: rest) : stepX s x = if 2 ≤ s.2 ∧ wordsB rest = true then some (onLast (fun x => { x with bef := joinS rest }) s.1, 1) else none := by
  have hn : ¬ beforeS = slipS := by decide
  unfold stepX
  rw [hp]
  simp only [stepW, if_neg hn, if_true]
  by_cases h2 : 2 ≤ s.2
  · cases wordsB rest <;> simp [h2]
  · simp [h2]
theorem stepX_aft {s : List Si × Nat} {x : ByteArray} {rest : List ByteArray} (hp : partsS x = afterS :: rest) : stepX s x = if 1 ≤ s.2 ∧ wordsB rest = true then some (onLast (fun x => { x with aft := joinS rest }) s.1, 0) else none := by
  have hn : ¬ afterS = slipS := by decide
  have hn2 : ¬ afterS = beforeS := by decide
  unfold stepX
  rw [hp]
  simp only [stepW, if_neg hn, if_neg hn2, if_true]
  by_cases h2 : 1 ≤ s.2
  · cases wordsB rest <;> simp [h2]
  · simp [h2]
theorem stepX_none {s : List Si × Nat} {x name : ByteArray} {rest : List ByteArray} (hp : partsS x = name :: rest) (h1 : ¬ name = slipS) (h2 : ¬ name = beforeS) (h3 : ¬ name = afterS) : stepX s x = none := by
  unfold stepX
  rw [hp]
  simp only [stepW, if_neg h1, if_neg h2, if_neg h3]
def mq (q : Nat) : Nat := if q ≤ 1 then q else 2
theorem mq_up (q : Nat) (h : q ≤ 3) : mq (upQ q) = 2 := by
  have : q = 0 ∨ q = 1 ∨ q = 2 ∨ q = 3 := by omega
  rcases this with rfl | rfl | rfl | rfl <;> rfl
theorem mq_two {q : Nat} : ((mq q : Nat) : Int) < 2 ↔ ¬ 2 ≤ q := by unfold mq; split <;> omega
theorem mq_one {q : Nat} : ((mq q : Nat) : Int) < 1 ↔ ¬ 1 ≤ q := by unfold mq; split <;> omega
theorem wordsR_bd {l : List ByteArray} (hl : l.length ≤ 1000) (hs : ∀ s ∈ l, s.size ≤ 100000) : (wordsR l).length ≤ 1000 ∧ ∀ s ∈ wordsR l, s.size ≤ 100000 := by
  unfold wordsR
  split
  · exact ⟨by decide, fun s h => by simp at h; subst h; exact Nat.zero_le _⟩
  · exact ⟨hl, hs⟩
theorem wordsR_of {l : List ByteArray} (h : wordsB l = true) : wordsR l = l := by
  unfold wordsB at h
  unfold wordsR
  cases l with
  | nil => simp at h
  | cons a b => rfl
def toSlipsP (l : List ByteArray) : List Si × Int := if rowsB l then (match readW W0 l with
    | some s => if s.1.all slipB then (s.1, 0) else ([], 31)
    | none => ([], 111)) else ([], 110)
theorem sub_noSi (n : Nat) (k : Int) : Pm.Sub (.tup [.v (.slice none 0 0), i64 k]) (.tup [sis n [], i64 k]) := Subs.tup (.cons (.nil _ _) (.cons (.refl _) .nil))
theorem RToSlips_ok (l : List ByteArray) : Gives Tryz.prog 12 [strs 0 l] (fun n => .tup [sis n (toSlipsP l).1, i64 (toSlipsP l).2]) := by
  cases h : rowsB l with
  | false =>
    have e : toSlipsP l = ([], 110) := by simp [toSlipsP, h]
    rw [e]
    refine pure_intro (ow := fun _ => false) Tryz.func12 Tryz.ntmps12 rfl (by kernel_rfl) (by simp) rfl (by decide) fun G hG hOw hNm hB => ?_; simp only [go_sem, hG, hOw]
    refine call_pureA (Rows_ok l) ?_
    rw [h]
    simp only [go_sem, hG, hOw]
    (repeat' with_reducible first | refine And.intro ?_ ?_ | intro _ | refine exP ?_ ?_); all_goals try omega
    exact sub_noSi _ 110
  | true =>
    obtain ⟨hl1, hl2⟩ := rowsB_bd h
    have bad : readW W0 l = none → toSlipsP l = ([], 111) := fun e => by simp [toSlipsP, h, e]
    refine pure_intro (ow := fun _ => false) Tryz.func12 Tryz.ntmps12 rfl (by kernel_rfl) (by simp) rfl (by decide) fun G hG hOw hNm hB => ?_; simp only [go_sem, hG, hOw]
    refine call_pureA (Rows_ok l) ?_
    rw [h]
    simp only [go_sem, hG, hOw]
    (repeat' with_reducible first | refine And.intro ?_ ?_ | intro _ | refine exP ?_ ?_); all_goals try omega
    have e0 : W0.1 = [] := rfl
    have e1 : ((mq W0.2 : Nat) : Int) = 0 := rfl
    refine semC_cut (fun s : List Si × Nat => St.of [(4, .own 100 0 s.1.length 6)] [(100, .arr 62 6 (s.1.map siC))]) (fun s => readW W0 l = some s) ?_ ?_
    · refine semC_loop (fun x : Nat × (List Si × Nat) => St.of [(0, strs 0 l), (4, .own 100 0 x.2.1.length 6), (5, i64 (mq x.2.2)), (6, i64 x.1)] [(100, .arr 62 6 (x.2.1.map siC))]) (fun x => x.1 ≤ l.length ∧ readW W0 (l.take x.1) = some x.2) (fun x => l.length - x.1) (0, W0) ⟨by simp, by simp [readW]⟩ (ent_of [(100, none)] (by (simp only [e0,e1,List.map_nil,List.length_nil, go_sem]) <;> simp [e0, e1, List.map_nil, List.length_nil]) (by (simp only [e0,e1,List.map_nil,List.length_nil, go_sem, entH, entH1, nilArr, obOK]) <;> simp [e0, e1, List.map_nil, List.length_nil]) (by simp [injR, apart]) (by simp [coverR, usH]) (by simp [hNm, lkR, names])) ?_
      rintro ⟨k, s⟩ ⟨hk, hrd⟩
      simp only at hk hrd
      obtain ⟨⟨hq3, hne⟩, hbd, _⟩ := readW_ok hl2 hk hrd
      by_cases hkl : k < l.length
      · have hlt : (k : Int) < l.length := by omega
        have hsz := hl2 _ (List.getElem_mem hkl)
        have no : stepX s l[k] = none → toSlipsP l = ([], 111) := fun e => bad (readW_bad hkl hrd e)
        obtain ⟨name, rest, hp⟩ : ∃ name rest, partsS l[k] = name :: rest := by
          cases hq : partsS l[k] with
          | nil => exact (partsS_ne _ hq).elim
          | cons a b => exact ⟨a, b, rfl⟩
        have hpl : rest.length ≤ 1000 := by have := partsS_len l[k]; rw [hp] at this; simp at this; omega
        have hps : ∀ s ∈ rest, s.size ≤ 100000 := fun s hs => by have := partsS_size l[k] s (by rw [hp]; simp [hs]); omega
        have hps3 : ∀ s ∈ rest.drop 3, s.size ≤ 100000 := fun s hs => hps s (List.mem_of_mem_drop hs)
        have nx : ∀ s', stepX s l[k] = some s' → readW W0 (l.take (k + 1)) = some s' := fun s' e => by rw [readW_succ l W0 k hkl, hrd]; simp [e]
        obtain ⟨all, q⟩ := s
        simp only at hq3 hne hbd
        refine vc_sound _ _ _ ?_; simp (maxSteps := 2000000) only [go_sem, hG, hOw, decide_eq_true hlt]
        (repeat' with_reducible first | refine And.intro ?_ ?_ | intro _ | refine exP ?_ ?_); all_goals try omega
        refine call_pureA (RParts_ok l[k] (by omega)) ?_
        rw [hp]
        simp only [go_sem, hG, hOw]
        (repeat' with_reducible first | refine And.intro ?_ ?_ | intro _ | refine exP ?_ ?_); all_goals try omega
        refine call_tri [(0, 7)] [] (next_yes G.lo name rest false) (by (simp only [go_sem]) <;> simp) (by (simp only [go_sem, entH, entH1, nilArr, obOK]) <;> simp) (by simp [injR, apart, toR]) (by simp [coverR, usH, toR]) (by simp [uniqP, lkR, toR]) (by simp [chk, hG]) ?_
        by_cases h1 : name = slipS
        · subst h1
          have hd1 : decide (slipS = ⟨#[115, 108, 105, 112]⟩) = true := by decide
          have hF := stepX_slip (s := (all, q)) hp
          simp (maxSteps := 2000000) only [go_sem, hG, hOw, hd1]
          (repeat' with_reducible first | refine And.intro ?_ ?_ | intro _ | refine exP ?_ ?_); all_goals try omega
          refine call_tri [(0, 7)] [] (rplace_tri G.lo rest false hps) (by (simp only [go_sem]) <;> simp) (by (simp only [go_sem, entH, entH1, nilArr, obOK]) <;> simp) (by simp [injR, apart, toR]) (by simp [coverR, usH, toR]) (by simp [uniqP, lkR, toR]) (by simp [chk, hG]) ?_
          simp (maxSteps := 2000000) only [go_sem, hG, hOw, Bool.false_or]
          (repeat' with_reducible first | refine And.intro ?_ ?_ | intro _ | refine exP ?_ ?_); all_goals try omega
          refine semC_draw ⟨[7, 8, 33, 34], [(31, [7]), (30, [8])], [31]⟩ [(0, false), (1, false), (2, false), (3, false), (4, false), (5, false), (6, false)] mixed (by kernel_rfl) ?_
          simp only [pickO, List.getElem?_cons_zero, List.getElem?_cons_succ]
          cases hr3 : rest.drop 3 with
          | nil =>
            rw [hr3] at hF
            simp only [go_sem, hG, hOw]
            (repeat' with_reducible first | refine And.intro ?_ ?_ | intro _ | refine exP ?_ ?_); all_goals try omega
            refine ⟨_, callMod [(0, 7)] [] (rword_end G.lo (!placeB rest)) (by (simp only [go_sem]) <;> simp) (by (simp only [go_sem, entH, entH1, nilArr, obOK]) <;> simp) (by simp [injR, apart, toR]) (by simp [coverR, usH, toR]) (by simp [uniqP, lkR, toR]) rfl (by simp [tgt, nmHas]) (by simp [tgt, nmHas]) (by simp [upT, dropsR, outsR, keepR, usH, lkR, toR, nmHas]) (by simp [newN, usH, tgt, go_sem]) (by simp [hasAll, keepR, usH, lkR, toR]) (by simp [uniqN, usH]), ?_⟩
            simp only [go_sem, hG, hOw]
            (repeat' with_reducible first | refine And.intro ?_ ?_ | intro _ | refine exP ?_ ?_); all_goals try omega
            refine call_tri [(0, 7)] [] (rright_ok G.lo [] true) (by (simp only [go_sem]) <;> simp) (by (simp only [go_sem, entH, entH1, nilArr, obOK]) <;> simp) (by simp [injR, apart, toR]) (by simp [coverR, usH, toR]) (by simp [uniqP, lkR, toR]) (by simp [chk, hG]) ?_
            simp (maxSteps := 2000000) only [go_sem, hG, hOw, Bool.not_true, Bool.false_and]
            (repeat' with_reducible first | refine And.intro ?_ ?_ | intro _ | refine exP ?_ ?_); all_goals try omega
            rw [no hF]
            exact sub_noSi _ 111
          | cons w r =>
            have hw : w.size ≤ 100000 := hps3 w (by rw [hr3]; simp)
            rw [hr3] at hF
            have hU := rword_yes G.lo w r (!placeB rest) hw
            have hRr := rright_ok G.lo r (!placeB rest || !wordB w)
            simp only [go_sem, hG, hOw]
            (repeat' with_reducible first | refine And.intro ?_ ?_ | intro _ | refine exP ?_ ?_); all_goals try omega
            refine ⟨_, callMod [(0, 7)] [] (hU) (by (simp only [go_sem]) <;> simp) (by (simp only [go_sem, entH, entH1, nilArr, obOK]) <;> simp) (by simp [injR, apart, toR]) (by simp [coverR, usH, toR]) (by simp [uniqP, lkR, toR]) rfl (by simp [tgt, nmHas]) (by simp [tgt, nmHas]) (by simp [upT, dropsR, outsR, keepR, usH, lkR, toR, nmHas]) (by simp [newN, usH, tgt, go_sem]) (by simp [hasAll, keepR, usH, lkR, toR]) (by simp [uniqN, usH]), ?_⟩
            simp only [go_sem, hG, hOw]
            (repeat' with_reducible first | refine And.intro ?_ ?_ | intro _ | refine exP ?_ ?_); all_goals try omega
            refine call_tri [(0, 7)] [] (hRr) (by (simp only [go_sem]) <;> simp) (by (simp only [go_sem, entH, entH1, nilArr, obOK]) <;> simp) (by simp [injR, apart, toR]) (by simp [coverR, usH, toR]) (by simp [uniqP, lkR, toR]) (by simp [chk, hG]) ?_
            cases hg : (!(!placeB rest || !wordB w) && r.isEmpty) with
            | false =>
              simp only [hg] at hF
              rw [no (by rw [hF]; simp)]
              simp only [go_sem, hG, hOw]
              (repeat' with_reducible first | refine And.intro ?_ ?_ | intro _ | refine exP ?_ ?_); all_goals try omega
              exact sub_noSi _ 111
            | true =>
              simp only [hg, if_true] at hF
              have g1 : (all ++ [newSi rest w]).map siC = all.map siC ++ [[V.v (Value.int IntKind.i64 (nvS rest 0)), V.v (Value.int IntKind.i64 (nvS rest 1)), V.v (Value.int IntKind.i64 (nvS rest 2)), V.v (Value.string w), V.v (Value.string ByteArray.empty), V.v (Value.string ByteArray.empty)]] := by
                rw [List.map_append]; rfl
              have g2 : ((mq (upQ q) : Nat) : Int) = 2 := by rw [mq_up q hq3]; rfl
              simp only [go_sem, hG, hOw]
              (repeat' with_reducible first | refine And.intro ?_ ?_ | intro _ | refine exP ?_ ?_); all_goals try omega
              exact ⟨(k + 1, (all ++ [newSi rest w], upQ q)), ⟨by show k + 1 ≤ _; omega, nx _ hF⟩, by show l.length - (k + 1) < _; omega, ent_of [(100, some 34)] (by (simp only [g1,g2,List.length_append,List.length_cons,List.length_nil, go_sem]) <;> simp [g1, g2, List.length_append, List.length_cons, List.length_nil]) (by (simp only [g1,g2,List.length_append,List.length_cons,List.length_nil, go_sem, entH, entH1, nilArr, obOK]) <;> simp [g1, g2, List.length_append, List.length_cons, List.length_nil]) (by simp [injR, apart]) (by simp [coverR, usH]) (by simp [hNm, lkR, names])⟩
        · by_cases h2 : name = beforeS
          · have d1 : decide (beforeS = ⟨#[115, 108, 105, 112]⟩) = false := by decide
            have d2 : decide (beforeS = ⟨#[98, 101, 102, 111, 114, 101]⟩) = true := by decide
            have d3 : decide (beforeS = ⟨#[97, 102, 116, 101, 114]⟩) = false := by decide
            subst h2
            have hF := stepX_bef (s := (all, q)) hp
            by_cases hq : 2 ≤ q
            · have hm : decide (((mq q : Nat) : Int) < 2) = false := decide_eq_false (fun h => (mq_two.1 h) hq)
              rcases snoc_si all with e | ⟨i, x, e⟩
              · exact absurd e (hne (by omega))
              · subst e
                simp only [List.length_append, List.length_singleton] at hbd
                have h1' : (((i.length + 1 : Nat) : Int) - 1).toNat = i.length := by omega
                have g1 : ∀ (a : List V) (h : i.length < (i.map siC ++ [a]).length), (i.map siC ++ [a])[i.length]'h = a := fun a h => by simp
                have g2 : ∀ (a b : List V), (i.map siC ++ [a]).set i.length b = i.map siC ++ [b] := fun a b => by rw [List.set_append_right _ _ (by simp)]; simp
                have hmap : (i ++ [x]).map siC = i.map siC ++ [siC x] := by rw [List.map_append]; rfl
                have hW := rwords_ok G.lo rest false hpl hps
                simp only [Bool.false_or] at hW
                have hJ : Gives Tryz.prog 42 [strs 0 (wordsR rest)] (fun _ => .v (.string (joinS (wordsR rest)))) := RJoined_ok (wordsR rest) (wordsR_bd hpl hps).1 (wordsR_bd hpl hps).2
                have hRr := rright_ok G.lo [] (!wordsB rest)
                simp (maxSteps := 2000000) only [go_sem, hG, hOw, d1,d2,d3,hm,hmap,h1',g1,g2,List.length_append,List.length_singleton]
                (repeat' with_reducible first | refine And.intro ?_ ?_ | intro _ | refine exP ?_ ?_); all_goals try omega
                refine call_tri [(0, 7)] [] (hW) (by (simp only [go_sem]) <;> simp) (by (simp only [go_sem, entH, entH1, nilArr, obOK]) <;> simp) (by simp [injR, apart, toR]) (by simp [coverR, usH, toR]) (by simp [uniqP, lkR, toR]) (by simp [chk, hG]) ?_
                simp (maxSteps := 2000000) only [go_sem, hG, hOw, hmap,h1',g1,g2]
                (repeat' with_reducible first | refine And.intro ?_ ?_ | intro _ | refine exP ?_ ?_); all_goals try omega
                refine call_pure hJ (by first | exact Subs.refl _ | (repeat' (first | exact Subs.nil | exact Sub.refl _ | exact Sub.lo (Nat.zero_le _) | refine Subs.cons ?_ ?_ | refine Subs.agg ?_ | refine Subs.fp ?_ | refine Subs.tup ?_ | refine Sub.map (Nat.zero_le _) (fun _ => ?_)))) (by first | rfl | simp [allP, all0, pureV, pure0, *]) (by simp [chk, hG]) ?_
                simp (maxSteps := 2000000) only [go_sem, hG, hOw, hmap,h1',g1,g2]
                (repeat' with_reducible first | refine And.intro ?_ ?_ | intro _ | refine exP ?_ ?_); all_goals try omega
                refine call_tri [(0, 7)] [] (hRr) (by (simp only [go_sem]) <;> simp) (by (simp only [go_sem, entH, entH1, nilArr, obOK]) <;> simp) (by simp [injR, apart, toR]) (by simp [coverR, usH, toR]) (by simp [uniqP, lkR, toR]) (by simp [chk, hG]) ?_
                cases hb : wordsB rest with
                | false =>
                  rw [no (by rw [hF, if_neg (fun h => by rw [hb] at h; cases h.2)])]
                  simp (maxSteps := 2000000) only [go_sem, hG, hOw, Bool.not_false,Bool.not_true,Bool.false_and]
                  (repeat' with_reducible first | refine And.intro ?_ ?_ | intro _ | refine exP ?_ ?_); all_goals try omega
                  exact sub_noSi _ 111
                | true =>
                  rw [if_pos ⟨hq, hb⟩] at hF
                  simp only [onLast_snoc] at hF
                  have hmap2 : (i ++ [{ x with bef := joinS rest }]).map siC = i.map siC ++ [siC { x with bef := joinS rest }] := by rw [List.map_append]; rfl
                  have hq1 : ((mq 1 : Nat) : Int) = 1 := rfl
                  rw [wordsR_of hb]
                  simp (maxSteps := 2000000) only [go_sem, hG, hOw, Bool.not_true,Bool.not_false,Bool.true_and,List.isEmpty_nil]
                  (repeat' with_reducible first | refine And.intro ?_ ?_ | intro _ | refine exP ?_ ?_); all_goals try omega
                  exact ⟨(k + 1, (i ++ [{ x with bef := joinS rest }], 1)), ⟨by show k + 1 ≤ _; omega, nx _ hF⟩, by show l.length - (k + 1) < _; omega, ent_of [(100, some 100)] (by (simp only [hmap2,hq1,List.length_append,List.length_singleton, go_sem]) <;> simp [hmap2, hq1, List.length_append, List.length_singleton]) (by (simp only [hmap2,hq1,List.length_append,List.length_singleton, go_sem, entH, entH1, nilArr, obOK]) <;> simp [hmap2, hq1, List.length_append, List.length_singleton]) (by simp [injR, apart]) (by simp [coverR, usH]) (by simp [hNm, lkR, names])⟩
            · have hm : decide (((mq q : Nat) : Int) < 2) = true := decide_eq_true (mq_two.2 hq)
              rw [no (by rw [hF, if_neg (fun h => hq h.1)])]
              simp (maxSteps := 2000000) only [go_sem, hG, hOw, d1,d2,d3,hm]
              (repeat' with_reducible first | refine And.intro ?_ ?_ | intro _ | refine exP ?_ ?_); all_goals try omega
              exact sub_noSi _ 111
          · by_cases h3 : name = afterS
            · have d1 : decide (afterS = ⟨#[115, 108, 105, 112]⟩) = false := by decide
              have d2 : decide (afterS = ⟨#[98, 101, 102, 111, 114, 101]⟩) = false := by decide
              have d3 : decide (afterS = ⟨#[97, 102, 116, 101, 114]⟩) = true := by decide
              subst h3
              have hF := stepX_aft (s := (all, q)) hp
              by_cases hq : 1 ≤ q
              · have hm : decide (((mq q : Nat) : Int) < 1) = false := decide_eq_false (fun h => (mq_one.1 h) hq)
                rcases snoc_si all with e | ⟨i, x, e⟩
                · exact absurd e (hne (by omega))
                · subst e
                  simp only [List.length_append, List.length_singleton] at hbd
                  have h1' : (((i.length + 1 : Nat) : Int) - 1).toNat = i.length := by omega
                  have g1 : ∀ (a : List V) (h : i.length < (i.map siC ++ [a]).length), (i.map siC ++ [a])[i.length]'h = a := fun a h => by simp
                  have g2 : ∀ (a b : List V), (i.map siC ++ [a]).set i.length b = i.map siC ++ [b] := fun a b => by rw [List.set_append_right _ _ (by simp)]; simp
                  have hmap : (i ++ [x]).map siC = i.map siC ++ [siC x] := by rw [List.map_append]; rfl
                  have hW := rwords_ok G.lo rest false hpl hps
                  simp only [Bool.false_or] at hW
                  have hJ : Gives Tryz.prog 42 [strs 0 (wordsR rest)] (fun _ => .v (.string (joinS (wordsR rest)))) := RJoined_ok (wordsR rest) (wordsR_bd hpl hps).1 (wordsR_bd hpl hps).2
                  have hRr := rright_ok G.lo [] (!wordsB rest)
                  simp (maxSteps := 2000000) only [go_sem, hG, hOw, d1,d2,d3,hm,hmap,h1',g1,g2,List.length_append,List.length_singleton]
                  (repeat' with_reducible first | refine And.intro ?_ ?_ | intro _ | refine exP ?_ ?_); all_goals try omega
                  refine call_tri [(0, 7)] [] (hW) (by (simp only [go_sem]) <;> simp) (by (simp only [go_sem, entH, entH1, nilArr, obOK]) <;> simp) (by simp [injR, apart, toR]) (by simp [coverR, usH, toR]) (by simp [uniqP, lkR, toR]) (by simp [chk, hG]) ?_
                  simp (maxSteps := 2000000) only [go_sem, hG, hOw, hmap,h1',g1,g2]
                  (repeat' with_reducible first | refine And.intro ?_ ?_ | intro _ | refine exP ?_ ?_); all_goals try omega
                  refine call_pure hJ (by first | exact Subs.refl _ | (repeat' (first | exact Subs.nil | exact Sub.refl _ | exact Sub.lo (Nat.zero_le _) | refine Subs.cons ?_ ?_ | refine Subs.agg ?_ | refine Subs.fp ?_ | refine Subs.tup ?_ | refine Sub.map (Nat.zero_le _) (fun _ => ?_)))) (by first | rfl | simp [allP, all0, pureV, pure0, *]) (by simp [chk, hG]) ?_
                  simp (maxSteps := 2000000) only [go_sem, hG, hOw, hmap,h1',g1,g2]
                  (repeat' with_reducible first | refine And.intro ?_ ?_ | intro _ | refine exP ?_ ?_); all_goals try omega
                  refine call_tri [(0, 7)] [] (hRr) (by (simp only [go_sem]) <;> simp) (by (simp only [go_sem, entH, entH1, nilArr, obOK]) <;> simp) (by simp [injR, apart, toR]) (by simp [coverR, usH, toR]) (by simp [uniqP, lkR, toR]) (by simp [chk, hG]) ?_
                  cases hb : wordsB rest with
                  | false =>
                    rw [no (by rw [hF, if_neg (fun h => by rw [hb] at h; cases h.2)])]
                    simp (maxSteps := 2000000) only [go_sem, hG, hOw, Bool.not_false,Bool.not_true,Bool.false_and]
                    (repeat' with_reducible first | refine And.intro ?_ ?_ | intro _ | refine exP ?_ ?_); all_goals try omega
                    exact sub_noSi _ 111
                  | true =>
                    rw [if_pos ⟨hq, hb⟩] at hF
                    simp only [onLast_snoc] at hF
                    have hmap2 : (i ++ [{ x with aft := joinS rest }]).map siC = i.map siC ++ [siC { x with aft := joinS rest }] := by rw [List.map_append]; rfl
                    have hq1 : ((mq 0 : Nat) : Int) = 0 := rfl
                    rw [wordsR_of hb]
                    simp (maxSteps := 2000000) only [go_sem, hG, hOw, Bool.not_true,Bool.not_false,Bool.true_and,List.isEmpty_nil]
                    (repeat' with_reducible first | refine And.intro ?_ ?_ | intro _ | refine exP ?_ ?_); all_goals try omega
                    exact ⟨(k + 1, (i ++ [{ x with aft := joinS rest }], 0)), ⟨by show k + 1 ≤ _; omega, nx _ hF⟩, by show l.length - (k + 1) < _; omega, ent_of [(100, some 100)] (by (simp only [hmap2,hq1,List.length_append,List.length_singleton, go_sem]) <;> simp [hmap2, hq1, List.length_append, List.length_singleton]) (by (simp only [hmap2,hq1,List.length_append,List.length_singleton, go_sem, entH, entH1, nilArr, obOK]) <;> simp [hmap2, hq1, List.length_append, List.length_singleton]) (by simp [injR, apart]) (by simp [coverR, usH]) (by simp [hNm, lkR, names])⟩
              · have hm : decide (((mq q : Nat) : Int) < 1) = true := decide_eq_true (mq_one.2 hq)
                rw [no (by rw [hF, if_neg (fun h => hq h.1)])]
                simp (maxSteps := 2000000) only [go_sem, hG, hOw, d1,d2,d3,hm]
                (repeat' with_reducible first | refine And.intro ?_ ?_ | intro _ | refine exP ?_ ?_); all_goals try omega
                exact sub_noSi _ 111
  
            · rw [no (stepX_none hp h1 h2 h3)]
              have d1 : decide (name = ⟨#[115, 108, 105, 112]⟩) = false := decide_eq_false h1
              have d2 : decide (name = ⟨#[98, 101, 102, 111, 114, 101]⟩) = false := decide_eq_false h2
              have d3 : decide (name = ⟨#[97, 102, 116, 101, 114]⟩) = false := decide_eq_false h3
              simp (maxSteps := 2000000) only [go_sem, hG, hOw, d1,d2,d3]
              try (repeat' with_reducible first | refine And.intro ?_ ?_ | intro _ | refine exP ?_ ?_); all_goals try omega
              exact sub_noSi _ 111
      · have hk2 : k = l.length := by omega
        subst hk2
        rw [List.take_length] at hrd
        refine vc_sound _ _ _ ?_; simp only [go_sem, hG, hOw]
        (repeat' with_reducible first | refine And.intro ?_ ?_ | intro _ | refine exP ?_ ?_); all_goals try omega
        exact ⟨s, hrd, entA [(100, some 100)]⟩
    · rintro ⟨L, q⟩ hrd
      obtain ⟨_, hsl, hbd⟩ := readW_ok (l := l) hl2 (k := l.length) (Nat.le_refl _) (by rw [List.take_length]; exact hrd)
      simp only at hsl hbd
      have e : toSlipsP l = if L.all slipB then (L, 0) else ([], 31) := by simp [toSlipsP, h, hrd]
      rw [e]
      simp only [go_sem, hG, hOw]
      refine semC_loop (fun k : Nat => St.of [(4, .own 100 0 L.length 6), (9, i64 k)] [(100, .arr 62 6 (L.map siC))]) (fun k => k ≤ L.length ∧ (L.take k).all slipB = true) (fun k => L.length - k) 0 (by simp) (entA [(100, some 100)]) ?_
      rintro k ⟨hk, hall⟩
      by_cases hkl : k < L.length
      · have hlt : (k : Int) < L.length := by omega
        obtain ⟨x, hx⟩ : ∃ x, x = L[k] := ⟨_, rfl⟩
        refine vc_sound _ _ _ ?_
        simp (maxSteps := 2000000) only [go_sem, hG, hOw, hlt,← hx]
        (repeat' with_reducible first | refine And.intro ?_ ?_ | intro _ | refine exP ?_ ?_); all_goals try omega
        refine call_pureA (RSlip_ok x (by rw [hx]; exact hbd _ (List.getElem_mem hkl))) ?_
        cases hg : slipB x with
        | false =>
          rw [all_false hkl (by rw [← hx]; exact hg)]
          simp only [go_sem, hG, hOw]
          (repeat' with_reducible first | refine And.intro ?_ ?_ | intro _ | refine exP ?_ ?_); all_goals try omega
          exact sub_noSi _ 31
        | true =>
          simp only [go_sem, hG, hOw]
          (repeat' with_reducible first | refine And.intro ?_ ?_ | intro _ | refine exP ?_ ?_); all_goals try omega
          exact ⟨k + 1, ⟨by omega, all_take_succ hkl hall (by rw [← hx]; exact hg)⟩, by omega, entA [(100, some 100)]⟩
      · have hlt : ¬ (k : Int) < L.length := by omega
        have hke : k = L.length := by omega
        subst hke
        rw [List.take_length] at hall
        rw [hall, if_pos rfl]
        refine vc_sound _ _ _ ?_
        simp (maxSteps := 2000000) only [go_sem, hG, hOw, hlt]
        try (repeat' with_reducible first | refine And.intro ?_ ?_ | intro _ | refine exP ?_ ?_); all_goals try omega
open Go Pm Go.RowKit Go.Sort
set_option maxHeartbeats 4000000
set_option maxRecDepth 100000
theorem ToSlips1_ok (l : List ByteArray) (s : List Si × Nat) (h : rowsB l = true) (hr : readW W0 l = some s) : Tri Tryz.prog 28 [.ptr 0 0, .ptr 1 0, .ptr 2 0] [(0, .box [i64 0]), (1, .box [strs 0 l]), (2, .box [.v (.slice none 0 0)])]
    (fun _ => .ret (.tup []) [(0, .box [i64 0]), (1, .box [strs 0 l]), (2, .box [sis 0 s.1])]) := by
  have hU := read_slips l h
  simp only [hr] at hU
  refine tri_introD (fun _ => false) (told := 29) (p := 0) (x := .int .i64 0) wrV (fun _ => True) Tryz.func28 Tryz.ntmps28 rfl (by kernel_rfl) (by simp) rfl rfl rfl rfl rfl (by simp [names]) told_none (fun k _ => told_back k) fun G hG hOw hNm _ => ?_
  simp only [go_sem, hG, hOw]
  (repeat' with_reducible first | refine And.intro ?_ ?_ | intro _ | refine exP ?_ ?_); all_goals try omega
  refine call_tri [(0, 2), (1, 3), (2, 4)] [] (hU) (by (simp only [go_sem]) <;> simp) (by (simp only [go_sem, entH, entH1, nilArr, obOK]) <;> simp) (by simp [injR, apart, toR]) (by simp [coverR, usH, toR]) (by simp [uniqP, lkR, toR]) (by simp [chk, hG]) ?_
  simp (maxSteps := 2000000) only [go_sem, hG, hOw, endsD_n, endsD_r]
  (repeat' with_reducible first | refine And.intro ?_ ?_ | intro _ | refine exP ?_ ?_); all_goals try omega
  exact ⟨[(0, some 0), (1, some 1), (2, some 2)], by (simp only [EndT, go_sem, entH, entH1, nilArr, obOK, apart, injR, coverR]) <;> simp⟩
theorem ToSlips1_bad (l : List ByteArray) (k : Int) (h : rowsB l = false ∧ k = 110 ∨ rowsB l = true ∧ readW W0 l = none ∧ k = 111) : Tri Tryz.prog 28 [.ptr 0 0, .ptr 1 0, .ptr 2 0] [(0, .box [i64 0]), (1, .box [strs 0 l]), (2, .box [.v (.slice none 0 0)])]
    (fun _ => .ret (.tup []) [(0, .box [i64 k]), (1, .box [strs 0 l])]) := by
  have hU : Tri Tryz.prog 30 [strs 0 l, .fn (.func 31) [.ptr 0 0, .ptr 1 0]] [(0, .box [.v (.slice none 0 0)]), (1, .box [.mp 2]), (2, .map .string [])] (fun _ => .pan (wrV k) []) := by
    rcases h with ⟨h1, rfl⟩ | ⟨h1, h2, rfl⟩
    · exact wread_rows l h1
    · have := read_slips l h1
      simp only [h2] at this
      exact this
  refine tri_introD (fun _ => false) (told := 29) (p := 0) (x := .int .i64 0) wrV (fun _ => True) Tryz.func28 Tryz.ntmps28 rfl (by kernel_rfl) (by simp) rfl rfl rfl rfl rfl (by simp [names]) told_none (fun k _ => told_back k) fun G hG hOw hNm _ => ?_
  simp only [go_sem, hG, hOw]
  (repeat' with_reducible first | refine And.intro ?_ ?_ | intro _ | refine exP ?_ ?_); all_goals try omega
  refine call_tri [(0, 2), (1, 3), (2, 4)] [] (hU) (by (simp only [go_sem]) <;> simp) (by (simp only [go_sem, entH, entH1, nilArr, obOK]) <;> simp) (by simp [injR, apart, toR]) (by simp [coverR, usH, toR]) (by simp [uniqP, lkR, toR]) (by simp [chk, hG]) ?_
  simp (maxSteps := 2000000) only [go_sem, hG, hOw, endsD_p]
  (repeat' with_reducible first | refine And.intro ?_ ?_ | intro _ | refine exP ?_ ?_); all_goals try omega
  exact ⟨k, rfl, ⟨[(0, some 0), (1, some 1)], by (simp only [EndT, go_sem, entH, entH1, nilArr, obOK, apart, injR, coverR]) <;> simp⟩⟩
theorem ToSlips_ok (l : List ByteArray) : Gives Tryz.prog 11 [strs 0 l] (fun _ => .tup [sis 0 (toSlipsP l).1, i64 (toSlipsP l).2]) := by
  by_cases hgood : rowsB l = true ∧ ∃ s, readW W0 l = some s
  · obtain ⟨h1, s, h2⟩ := hgood
    obtain ⟨hl1, hl2⟩ := rowsB_bd h1
    obtain ⟨_, hsl, hbd⟩ := readW_ok (l := l) hl2 (k := l.length) (Nat.le_refl _) (by rw [List.take_length]; exact h2)
    have e : toSlipsP l = if s.1.all slipB then (s.1, 0) else ([], 31) := by unfold toSlipsP; simp only [h1, h2, if_true]
    rw [e]
    obtain ⟨L, hL⟩ : ∃ L, L = s.1 := ⟨_, rfl⟩
    have hT := ToSlips1_ok l s h1 h2
    rw [← hL] at hT hsl hbd ⊢
    refine pure_intro (ow := fun _ => false) Tryz.func11 Tryz.ntmps11 rfl (by kernel_rfl) (by simp) rfl (by decide) fun G hG hOw hNm hB => ?_; simp only [go_sem, hG, hOw]
    (repeat' with_reducible first | refine And.intro ?_ ?_ | intro _ | refine exP ?_ ?_); all_goals try omega
    refine call_tri [(0, 5), (1, 1), (2, 4)] [] (hT) (by (simp only [go_sem]) <;> simp) (by (simp only [go_sem, entH, entH1, nilArr, obOK]) <;> simp) (by simp [injR, apart, toR]) (by simp [coverR, usH, toR]) (by simp [uniqP, lkR, toR]) (by simp [chk, hG]) ?_
    simp only [go_sem, hG, hOw]
    (repeat' with_reducible first | refine And.intro ?_ ?_ | intro _ | refine exP ?_ ?_); all_goals try omega
    refine semC_loop (fun k : Nat => St.of [(4, .ptr 4 0), (15, sis 0 L), (16, i64 L.length), (17, i64 k)] [(4, .box [sis 0 L])]) (fun k => k ≤ L.length ∧ (L.take k).all slipB = true) (fun k => L.length - k) 0 (by simp) (entA [(4, some 4)]) ?_
    rintro k ⟨hk, hall⟩
    by_cases hkl : k < L.length
    · have hlt : (k : Int) < L.length := by omega
      obtain ⟨x, hx⟩ : ∃ x, x = L[k] := ⟨_, rfl⟩
      refine vc_sound _ _ _ ?_
      simp (maxSteps := 2000000) only [go_sem, hG, hOw, hlt,← hx]
      (repeat' with_reducible first | refine And.intro ?_ ?_ | intro _ | refine exP ?_ ?_); all_goals try omega
      refine call_pureA (Order_self x (by rw [hx]; exact hbd _ (List.getElem_mem hkl))) ?_
      cases hg : slipB x with
      | false =>
        rw [all_false hkl (by rw [← hx]; exact hg)]
        simp only [go_sem, hG, hOw]
        (repeat' with_reducible first | refine And.intro ?_ ?_ | intro _ | refine exP ?_ ?_); all_goals try omega
        exact sub_noSi _ _
      | true =>
        simp only [go_sem, hG, hOw]
        (repeat' with_reducible first | refine And.intro ?_ ?_ | intro _ | refine exP ?_ ?_); all_goals try omega
        exact ⟨k + 1, ⟨by omega, all_take_succ hkl hall (by rw [← hx]; exact hg)⟩, by omega, entA [(4, some 4)]⟩
    · have hlt : ¬ (k : Int) < L.length := by omega
      have hke : k = L.length := by omega
      subst hke
      rw [List.take_length] at hall
      rw [hall, if_pos rfl]
      refine vc_sound _ _ _ ?_
      simp (maxSteps := 2000000) only [go_sem, hG, hOw, hlt]
      try (repeat' with_reducible first | refine And.intro ?_ ?_ | intro _ | refine exP ?_ ?_); all_goals try omega
  · obtain ⟨k, hk, e⟩ : ∃ k : Int, (rowsB l = false ∧ k = 110 ∨ rowsB l = true ∧ readW W0 l = none ∧ k = 111) ∧ toSlipsP l = ([], k) := by
      cases h1 : rowsB l with
      | false => exact ⟨110, .inl ⟨rfl, rfl⟩, by simp [toSlipsP, h1]⟩
      | true =>
        cases h2 : readW W0 l with
        | none => exact ⟨111, .inr ⟨rfl, rfl, rfl⟩, by simp [toSlipsP, h1, h2]⟩
        | some t => exact (hgood ⟨h1, t, h2⟩).elim
    have hk0 : k ≠ 0 := by rcases hk with ⟨_, rfl⟩ | ⟨_, _, rfl⟩ <;> decide
    rw [e]
    refine pure_intro (ow := fun _ => false) Tryz.func11 Tryz.ntmps11 rfl (by kernel_rfl) (by simp) rfl (by decide) fun G hG hOw hNm hB => ?_; simp only [go_sem, hG, hOw]
    (repeat' with_reducible first | refine And.intro ?_ ?_ | intro _ | refine exP ?_ ?_); all_goals try omega
    refine call_tri [(0, 5), (1, 1), (2, 4)] [] (ToSlips1_bad l k hk) (by (simp only [go_sem]) <;> simp) (by (simp only [go_sem, entH, entH1, nilArr, obOK]) <;> simp) (by simp [injR, apart, toR]) (by simp [coverR, usH, toR]) (by simp [uniqP, lkR, toR]) (by simp [chk, hG]) ?_
    simp (maxSteps := 2000000) only [go_sem, hG, hOw, hk0]
    (repeat' with_reducible first | refine And.intro ?_ ?_ | intro _ | refine exP ?_ ?_); all_goals try omega
    refine semC_draw0 mixed (by kernel_rfl) ?_
    simp only [go_sem, hG, hOw]
    (repeat' with_reducible first | refine And.intro ?_ ?_ | intro _ | refine exP ?_ ?_); all_goals try omega
    exact sub_noSi _ _
end Go.Proofs.YtppcbmpiphhphaaGreatDoor
