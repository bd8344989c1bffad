import Derived.Test.YtppcbmpiphhphaaGreatDoorQU32
import Derived.Test.YtppcbmpiphhphaaGreatDoorQU34
import Derived.Test.YtppcbmpiphhphaaGreatDoorQU38
namespace Go.Proofs.YtppcbmpiphhphaaGreatDoor
open Go Pm
set_option linter.unusedSimpArgs false
set_option linter.unusedVariables false
set_option maxHeartbeats 4000000
set_option maxRecDepth 100000
def slipS : ByteArray := ⟨#[115, 108, 105, 112]⟩
def beforeS : ByteArray := ⟨#[98, 101, 102, 111, 114, 101]⟩
def afterS : ByteArray := ⟨#[97, 102, 116, 101, 114]⟩
def goodS (s : Si) : Bool := slipB s && (inB s.ch 0 9999 && inB s.ln 0 9999 && inB s.wd 0 9999)
def befR (s : Si) : List ByteArray := if s.bef = ⟨#[]⟩ then [] else [joinS [beforeS, s.bef]]
def aftR (s : Si) : List ByteArray := if s.aft = ⟨#[]⟩ then [] else [joinS [afterS, s.aft]]
def rowsS (s : Si) : List ByteArray := joinS [slipS, atS s.ch s.ln s.wd, s.word] :: (befR s ++ aftR s)
def ofSlipsL (l : List Si) : List ByteArray := l.flatMap rowsS
def ofSlipsP (l : List Si) : List ByteArray × Int := if l.all goodS then (if (ofSlipsL l).length ≤ 200 then (ofSlipsL l, 0) else ([], 110)) else ([], 31)
theorem rowsS_len (s : Si) : (rowsS s).length ≤ 3 := by
  unfold rowsS befR aftR
  split <;> split <;> simp
theorem ofSlips_succ (l : List Si) (k : Nat) (h : k < l.length) : ofSlipsL (l.take (k + 1)) = ofSlipsL (l.take k) ++ rowsS l[k] := by
  unfold ofSlipsL
  rw [List.take_add_one, List.getElem?_eq_getElem h, List.flatMap_append]
  simp
theorem ofSlips_len (l : List Si) : (ofSlipsL l).length ≤ 3 * l.length := by
  induction l with
  | nil => simp [ofSlipsL]
  | cons s r ih =>
    have := rowsS_len s
    simp only [ofSlipsL, List.flatMap_cons, List.length_append, List.length_cons] at ih ⊢
    omega
theorem good_in {s : Si} (h : goodS s = true) : in9 s.ch ∧ in9 s.ln ∧ in9 s.wd := by
  simp only [goodS, Bool.and_eq_true, inB_iff] at h
  exact ⟨h.2.1.1, h.2.1.2, h.2.2⟩
theorem in_three (a b c : Int) : Gives Tryz.prog 22 [i64 0, i64 9999, .lst 0 1 [[i64 a], [i64 b], [i64 c]]] (fun _ => bl (inB a 0 9999 && inB b 0 9999 && inB c 0 9999)) := by
  have h := in_ok 0 9999 [a, b, c]
  have e : ([a, b, c].all fun n => decide ((0 : Int) ≤ n) && decide (n ≤ 9999)) = (inB a 0 9999 && inB b 0 9999 && inB c 0 9999) := by simp [inB, Bool.and_assoc]
  rw [e] at h
  exact h
theorem OfSlips_ok (l : List Si) (hl : l.length ≤ 1000) (hb : ∀ s ∈ l, bdS s) : Gives Tryz.prog 9 [sis 0 l] (fun n => .tup [strs n (ofSlipsP l).1, i64 (ofSlipsP l).2]) := by
  refine pure_intro (ow := fun i => [43,53,63,1000043,1000053,1000063].contains i) Tryz.func9 Tryz.ntmps9 rfl (by kernel_rfl) (by simp) rfl (by decide) fun G hG hOw hNm hB => ?_; simp only [go_sem, hG, hOw]
  (repeat' with_reducible first | refine And.intro ?_ ?_ | intro _ | refine exP ?_ ?_); all_goals try omega
  refine semC_cutN (fun _ : Unit => St.of [(4, .own 100 0 (ofSlipsL l).length 1)] [(100, .arr 9 1 ((ofSlipsL l).map strE))]) (fun _ => l.all goodS = true) ?_ ?_
  · refine semC_loop (fun k : Nat => St.of [(4, .own 100 0 (ofSlipsL (l.take k)).length 1), (9, sis 0 l), (10, i64 l.length), (11, i64 k)] [(100, .arr 9 1 ((ofSlipsL (l.take k)).map strE))]) (fun k => k ≤ l.length ∧ (l.take k).all goodS = true) (fun k => l.length - k) 0 (by simp) (by simp only [List.take_zero, ofSlipsL, List.flatMap_nil]; exact entA [(100, none)]) ?_
    rintro k ⟨hk, hall⟩
    by_cases hkl : k < l.length
    · have hlt : (k : Int) < l.length := by omega
      have hln := ofSlips_len (l.take k)
      rw [List.length_take] at hln
      have hstep := ofSlips_succ l k hkl
      obtain ⟨s, hs⟩ : ∃ s, s = l[k] := ⟨_, rfl⟩
      have hbs : bdS s := by rw [hs]; exact hb _ (List.getElem_mem hkl)
      have hO := Order_self s hbs
      refine vc_sound _ _ _ ?_
      simp (maxSteps := 2000000) only [go_sem, hG, hOw, hlt,← hs]
      (repeat' with_reducible first | refine And.intro ?_ ?_ | intro _ | refine exP ?_ ?_); all_goals try omega
      refine call_pure hO (by first | exact Subs.refl _ | (repeat' (first | exact Subs.nil | exact Sub.refl _ | exact Sub.lo (Nat.zero_le _) | refine Subs.cons ?_ ?_ | refine Subs.agg ?_ | refine Subs.fp ?_ | refine Subs.tup ?_ | refine Sub.map (Nat.zero_le _) (fun _ => ?_)))) (by first | rfl | simp [allP, all0, pureV, pure0, *]) (by simp [chk, hG]) ?_
      cases hg : slipB s with
      | false =>
        have hbad : l.all goodS = false := all_false hkl (by rw [← hs]; unfold goodS; rw [hg]; rfl)
        have e : ofSlipsP l = ([], 31) := by unfold ofSlipsP; rw [hbad]; rfl
        rw [e]
        simp (maxSteps := 2000000) only [go_sem, hG, hOw, hg]
        (repeat' with_reducible first | refine And.intro ?_ ?_ | intro _ | refine exP ?_ ?_); all_goals try omega
        exact Subs.tup (.cons (.nil _ _) (.cons (.refl _) .nil))
      | true =>
        simp (maxSteps := 2000000) only [go_sem, hG, hOw, hg]
        (repeat' with_reducible first | refine And.intro ?_ ?_ | intro _ | refine exP ?_ ?_); all_goals try omega
        refine call_pureA (in_three s.ch s.ln s.wd) ?_
        cases h9 : (inB s.ch 0 9999 && inB s.ln 0 9999 && inB s.wd 0 9999) with
        | false =>
          have hbad : l.all goodS = false := all_false hkl (by rw [← hs]; unfold goodS; rw [h9, Bool.and_false])
          have e : ofSlipsP l = ([], 31) := by unfold ofSlipsP; rw [hbad]; rfl
          rw [e]
          simp only [go_sem, hG, hOw]
          (repeat' with_reducible first | refine And.intro ?_ ?_ | intro _ | refine exP ?_ ?_); all_goals try omega
          exact Subs.tup (.cons (.nil _ _) (.cons (.refl _) .nil))
        | true =>
          have hgs : goodS s = true := by unfold goodS; rw [hg, h9]; rfl
          obtain ⟨i1, i2, i3⟩ := good_in hgs
          simp only [go_sem, hG, hOw]
          (repeat' with_reducible first | refine And.intro ?_ ?_ | intro _ | refine exP ?_ ?_); all_goals try omega
          have hats := at_size _ _ _ i1 i2 i3
          have hws : s.word.size ≤ 12 := by
            have : wordB s.word = true := by unfold slipB at hg; simp only [Bool.and_eq_true] at hg; exact hg.2
            exact (wordB_size this).2
          have hW1 := written_ok slipS [atS s.ch s.ln s.wd, s.word] (by simp) (by simp) (by decide) (by simp; omega)
          have hW2 := written_ok beforeS [s.bef] (by simp) (by simp) (by decide) (by have := hbs.2.1; simp; omega)
          have hW3 := written_ok afterS [s.aft] (by simp) (by simp) (by decide) (by have := hbs.2.2; simp; omega)
          obtain ⟨U, hU⟩ : ∃ U, U = ofSlipsL (l.take k) := ⟨_, rfl⟩
          rw [← hU] at hstep hln ⊢
          have hstep2 : (ofSlipsL (l.take (k + 1))).map strE = U.map strE ++ ([V.v (Value.string (joinS [slipS, atS s.ch s.ln s.wd, s.word]))] :: ((befR s).map strE ++ (aftR s).map strE)) := by
            rw [hstep, ← hs, List.map_append, rowsS, List.map_cons, List.map_append]; rfl
          have hlen2 : (ofSlipsL (l.take (k + 1))).length = U.length + (1 + ((befR s).length + (aftR s).length)) := by
            rw [hstep, ← hs, List.length_append, rowsS, List.length_cons, List.length_append]; omega
          refine semC_draw ⟨[43, 45, 46], [(44, [43])], [44]⟩ [(0, false), (1, false), (2, false), (3, false), (4, false), (5, false), (6, false), (7, false), (8, false), (9, false), (10, false)] mixed (by kernel_rfl) ?_
          simp only [pickO, List.getElem?_cons_zero, List.getElem?_cons_succ]
          simp only [go_sem, hG, hOw]
          (repeat' with_reducible first | refine And.intro ?_ ?_ | intro _ | refine exP ?_ ?_); all_goals try omega
          refine ⟨_, callGivesA (at_ok s.ch s.ln s.wd i1 i2 i3), ?_⟩
          simp only [go_sem, hG, hOw]
          (repeat' with_reducible first | refine And.intro ?_ ?_ | intro _ | refine exP ?_ ?_); all_goals try omega
          refine ⟨_, callMod [(0, 43)] [] (hW1) (by (simp only [go_sem]) <;> simp [slipS]) (by (simp only [go_sem, entH, entH1, nilArr, obOK]) <;> simp [slipS]) (by simp [injR, apart, toR]) (by simp [coverR, usH, toR, slipS]) (by simp [uniqP, lkR, toR]) rfl (by simp [tgt, nmHas]) (by simp [tgt, nmHas]) (by simp [upT, dropsR, outsR, keepR, usH, lkR, toR, nmHas, slipS]) (by simp [newN, usH, tgt, go_sem]) (by simp [hasAll, keepR, usH, lkR, toR, slipS]) (by simp [uniqN, usH, slipS]), ?_⟩
          by_cases hbe : s.bef = ⟨#[]⟩
          · have hb0 : befR s = [] := if_pos hbe
            rw [hb0] at hstep2 hlen2
            by_cases haf : s.aft = ⟨#[]⟩
            · have ha0 : aftR s = [] := if_pos haf
              rw [ha0] at hstep2 hlen2
              simp (maxSteps := 2000000) only [go_sem, hG, hOw, hbe,haf]
              (repeat' with_reducible first | refine And.intro ?_ ?_ | intro _ | refine exP ?_ ?_); all_goals try omega
              exact ⟨k + 1, ⟨by omega, all_take_succ hkl hall (by rw [← hs]; exact hgs)⟩, by omega, ent_of [(100, some 46)] (by (simp only [hstep2,hlen2,strE,List.map_cons,List.map_nil,List.append_nil,List.nil_append,List.append_assoc,List.cons_append,List.length_cons,List.length_nil, go_sem]) <;> simp [hstep2, hlen2, strE, List.map_cons, List.map_nil, List.append_nil, List.nil_append, List.append_assoc, List.cons_append, List.length_cons, List.length_nil]) (by (simp only [hstep2,hlen2,strE,List.map_cons,List.map_nil,List.append_nil,List.nil_append,List.append_assoc,List.cons_append,List.length_cons,List.length_nil, go_sem, entH, entH1, nilArr, obOK]) <;> simp [hstep2, hlen2, strE, List.map_cons, List.map_nil, List.append_nil, List.nil_append, List.append_assoc, List.cons_append, List.length_cons, List.length_nil]) (by simp [injR, apart]) (by simp [coverR, usH]) (by simp [hNm, lkR, names])⟩
            · have ha0 : aftR s = [joinS [afterS, s.aft]] := if_neg haf
              have da := decide_eq_false haf
              rw [ha0] at hstep2 hlen2
              simp (maxSteps := 2000000) only [go_sem, hG, hOw, hbe,da,Bool.not_false]
              (repeat' with_reducible first | refine And.intro ?_ ?_ | intro _ | refine exP ?_ ?_); all_goals try omega
              refine call_tri [(0, 63)] [] (hW3) (by (simp only [go_sem]) <;> simp [afterS]) (by (simp only [go_sem, entH, entH1, nilArr, obOK]) <;> simp [afterS]) (by simp [injR, apart, toR]) (by simp [coverR, usH, toR, afterS]) (by simp [uniqP, lkR, toR]) (by simp [chk, hG]) ?_
              simp (maxSteps := 2000000) only [go_sem, hG, hOw, hbe,da,Bool.not_false]
              (repeat' with_reducible first | refine And.intro ?_ ?_ | intro _ | refine exP ?_ ?_); all_goals try omega
              exact ⟨k + 1, ⟨by omega, all_take_succ hkl hall (by rw [← hs]; exact hgs)⟩, by omega, ent_of [(100, some 66)] (by (simp only [hstep2,hlen2,strE,List.map_cons,List.map_nil,List.append_nil,List.nil_append,List.append_assoc,List.cons_append,List.length_cons,List.length_nil, go_sem]) <;> simp [hstep2, hlen2, strE, List.map_cons, List.map_nil, List.append_nil, List.nil_append, List.append_assoc, List.cons_append, List.length_cons, List.length_nil]) (by (simp only [hstep2,hlen2,strE,List.map_cons,List.map_nil,List.append_nil,List.nil_append,List.append_assoc,List.cons_append,List.length_cons,List.length_nil, go_sem, entH, entH1, nilArr, obOK]) <;> simp [hstep2, hlen2, strE, List.map_cons, List.map_nil, List.append_nil, List.nil_append, List.append_assoc, List.cons_append, List.length_cons, List.length_nil]) (by simp [injR, apart]) (by simp [coverR, usH]) (by simp [hNm, lkR, names])⟩
          · have hb0 : befR s = [joinS [beforeS, s.bef]] := if_neg hbe
            have db := decide_eq_false hbe
            rw [hb0] at hstep2 hlen2
            by_cases haf : s.aft = ⟨#[]⟩
            · have ha0 : aftR s = [] := if_pos haf
              rw [ha0] at hstep2 hlen2
              simp (maxSteps := 2000000) only [go_sem, hG, hOw, db,Bool.not_false,haf]
              (repeat' with_reducible first | refine And.intro ?_ ?_ | intro _ | refine exP ?_ ?_); all_goals try omega
              refine call_tri [(0, 53)] [] (hW2) (by (simp only [go_sem]) <;> simp [beforeS]) (by (simp only [go_sem, entH, entH1, nilArr, obOK]) <;> simp [beforeS]) (by simp [injR, apart, toR]) (by simp [coverR, usH, toR, beforeS]) (by simp [uniqP, lkR, toR]) (by simp [chk, hG]) ?_
              simp (maxSteps := 2000000) only [go_sem, hG, hOw, db,Bool.not_false,haf]
              (repeat' with_reducible first | refine And.intro ?_ ?_ | intro _ | refine exP ?_ ?_); all_goals try omega
              exact ⟨k + 1, ⟨by omega, all_take_succ hkl hall (by rw [← hs]; exact hgs)⟩, by omega, ent_of [(100, some 56)] (by (simp only [hstep2,hlen2,strE,List.map_cons,List.map_nil,List.append_nil,List.nil_append,List.append_assoc,List.cons_append,List.length_cons,List.length_nil, go_sem]) <;> simp [hstep2, hlen2, strE, List.map_cons, List.map_nil, List.append_nil, List.nil_append, List.append_assoc, List.cons_append, List.length_cons, List.length_nil]) (by (simp only [hstep2,hlen2,strE,List.map_cons,List.map_nil,List.append_nil,List.nil_append,List.append_assoc,List.cons_append,List.length_cons,List.length_nil, go_sem, entH, entH1, nilArr, obOK]) <;> simp [hstep2, hlen2, strE, List.map_cons, List.map_nil, List.append_nil, List.nil_append, List.append_assoc, List.cons_append, List.length_cons, List.length_nil]) (by simp [injR, apart]) (by simp [coverR, usH]) (by simp [hNm, lkR, names])⟩
            · have ha0 : aftR s = [joinS [afterS, s.aft]] := if_neg haf
              have da := decide_eq_false haf
              rw [ha0] at hstep2 hlen2
              simp (maxSteps := 2000000) only [go_sem, hG, hOw, db,Bool.not_false,da,Bool.not_false]
              (repeat' with_reducible first | refine And.intro ?_ ?_ | intro _ | refine exP ?_ ?_); all_goals try omega
              refine call_tri [(0, 53)] [] (hW2) (by (simp only [go_sem]) <;> simp [beforeS]) (by (simp only [go_sem, entH, entH1, nilArr, obOK]) <;> simp [beforeS]) (by simp [injR, apart, toR]) (by simp [coverR, usH, toR, beforeS]) (by simp [uniqP, lkR, toR]) (by simp [chk, hG]) ?_
              simp (maxSteps := 2000000) only [go_sem, hG, hOw, db,Bool.not_false,da,Bool.not_false]
              (repeat' with_reducible first | refine And.intro ?_ ?_ | intro _ | refine exP ?_ ?_); all_goals try omega
              refine call_tri [(0, 63)] [] (hW3) (by (simp only [go_sem]) <;> simp [afterS]) (by (simp only [go_sem, entH, entH1, nilArr, obOK]) <;> simp [afterS]) (by simp [injR, apart, toR]) (by simp [coverR, usH, toR, afterS]) (by simp [uniqP, lkR, toR]) (by simp [chk, hG]) ?_
              simp (maxSteps := 2000000) only [go_sem, hG, hOw, db,Bool.not_false,da,Bool.not_false]
              (repeat' with_reducible first | refine And.intro ?_ ?_ | intro _ | refine exP ?_ ?_); all_goals try omega
              exact ⟨k + 1, ⟨by omega, all_take_succ hkl hall (by rw [← hs]; exact hgs)⟩, by omega, ent_of [(100, some 66)] (by (simp only [hstep2,hlen2,strE,List.map_cons,List.map_nil,List.append_nil,List.nil_append,List.append_assoc,List.cons_append,List.length_cons,List.length_nil, go_sem]) <;> simp [hstep2, hlen2, strE, List.map_cons, List.map_nil, List.append_nil, List.nil_append, List.append_assoc, List.cons_append, List.length_cons, List.length_nil]) (by (simp only [hstep2,hlen2,strE,List.map_cons,List.map_nil,List.append_nil,List.nil_append,List.append_assoc,List.cons_append,List.length_cons,List.length_nil, go_sem, entH, entH1, nilArr, obOK]) <;> simp [hstep2, hlen2, strE, List.map_cons, List.map_nil, List.append_nil, List.nil_append, List.append_assoc, List.cons_append, List.length_cons, List.length_nil]) (by simp [injR, apart]) (by simp [coverR, usH]) (by simp [hNm, lkR, names])⟩
    · have hlt : ¬ (k : Int) < l.length := by omega
      have hkl : k = l.length := by omega
      subst hkl
      rw [List.take_length] at hall
      refine vc_sound _ _ _ ?_
      rw [List.take_length]
      simp (maxSteps := 2000000) only [go_sem, hG, hOw, hlt]
      try (repeat' with_reducible first | refine And.intro ?_ ?_ | intro _ | refine exP ?_ ?_); all_goals try omega
      exact ⟨(), hall, entA [(100, some 100)]⟩
  · rintro _ hall
    have e : ofSlipsP l = if (ofSlipsL l).length ≤ 200 then (ofSlipsL l, 0) else ([], 110) := by unfold ofSlipsP; rw [hall]; rfl
    rw [e]
    simp only [go_sem, hG, hOw]
    (repeat' with_reducible first | refine And.intro ?_ ?_ | intro _ | refine exP ?_ ?_); all_goals try omega
    · rename_i h
      rw [if_neg (by omega)]
      exact Subs.tup (.cons (.nil _ _) (.cons (.refl _) .nil))
    · rename_i h
      rw [if_pos (by omega)]
      exact .refl _
open Go Pm
set_option maxHeartbeats 4000000
set_option maxRecDepth 100000
theorem slip_row (a w : ByteArray) : (⟨#[115, 108, 105, 112, 32]⟩ : ByteArray) ++ a ++ ⟨#[32]⟩ ++ w = joinS [slipS, a, w] := by
  rw [show ([slipS, a, w] : List ByteArray) = [slipS, a] ++ [w] by rfl, join_snoc [slipS, a] w (by simp), join_two]
  refine ba_ext ?_
  simp [ByteArray.data_append, slipS]
theorem before_row (x : ByteArray) : (⟨#[98, 101, 102, 111, 114, 101, 32]⟩ : ByteArray) ++ x = joinS [beforeS, x] := by
  rw [join_two]
  refine ba_ext ?_
  simp [ByteArray.data_append, beforeS]
theorem after_row (x : ByteArray) : (⟨#[97, 102, 116, 101, 114, 32]⟩ : ByteArray) ++ x = joinS [afterS, x] := by
  rw [join_two]
  refine ba_ext ?_
  simp [ByteArray.data_append, afterS]
theorem ROfSlips_ok (l : List Si) (hl : l.length ≤ 1000) (hb : ∀ s ∈ l, bdS s) : Gives Tryz.prog 10 [sis 0 l] (fun n => .tup [strs n (ofSlipsP l).1, i64 (ofSlipsP l).2]) := by
  have h5 : (#[115, 108, 105, 112, 32] : Array UInt8).size = 5 := rfl
  have h7 : (#[98, 101, 102, 111, 114, 101, 32] : Array UInt8).size = 7 := rfl
  have h6 : (#[97, 102, 116, 101, 114, 32] : Array UInt8).size = 6 := rfl
  have hs1 : (#[32] : Array UInt8).size = 1 := rfl
  refine pure_intro (ow := fun _ => false) Tryz.func10 Tryz.ntmps10 rfl (by kernel_rfl) (by simp) rfl (by decide) fun G hG hOw hNm hB => ?_; simp only [go_sem, hG, hOw]
  refine semC_cutN (fun _ : Unit => St.of [(4, .own 100 0 (ofSlipsL l).length 1)] [(100, .arr 9 1 ((ofSlipsL l).map strE))]) (fun _ => l.all goodS = true) ?_ ?_
  · refine semC_loop (fun k : Nat => St.of [(0, sis 0 l), (4, .own 100 0 (ofSlipsL (l.take k)).length 1), (5, i64 k)] [(100, .arr 9 1 ((ofSlipsL (l.take k)).map strE))]) (fun k => k ≤ l.length ∧ (l.take k).all goodS = true) (fun k => l.length - k) 0 (by simp) (by simp only [List.take_zero, ofSlipsL, List.flatMap_nil]; exact entA [(100, none)]) ?_
    rintro k ⟨hk, hall⟩
    by_cases hkl : k < l.length
    · have hlt : (k : Int) < l.length := by omega
      have hln := ofSlips_len (l.take k)
      rw [List.length_take] at hln
      have hstep := ofSlips_succ l k hkl
      obtain ⟨s, hs⟩ : ∃ s, s = l[k] := ⟨_, rfl⟩
      have hbs : bdS s := by rw [hs]; exact hb _ (List.getElem_mem hkl)
      have hbs' := hbs
      obtain ⟨q1, q2, q3⟩ := hbs'
      refine vc_sound _ _ _ ?_
      simp (maxSteps := 2000000) only [go_sem, hG, hOw, hlt,← hs]
      (repeat' with_reducible first | refine And.intro ?_ ?_ | intro _ | refine exP ?_ ?_); all_goals try omega
      refine call_pureA (RSlip_ok s hbs) ?_
      cases hg : slipB s with
      | false =>
        have hbad : l.all goodS = false := all_false hkl (by rw [← hs]; unfold goodS; rw [hg]; rfl)
        have e : ofSlipsP l = ([], 31) := by unfold ofSlipsP; rw [hbad]; rfl
        rw [e]
        simp only [go_sem, hG, hOw]
        (repeat' with_reducible first | refine And.intro ?_ ?_ | intro _ | refine exP ?_ ?_); all_goals try omega
        exact Subs.tup (.cons (.nil _ _) (.cons (.refl _) .nil))
      | true =>
        simp (maxSteps := 2000000) only [go_sem, hG, hOw, ← hs]
        (repeat' with_reducible first | refine And.intro ?_ ?_ | intro _ | refine exP ?_ ?_); all_goals try omega
        refine call_pureA (RWritten_ok s.ch s.ln s.wd) ?_
        cases h9 : (inB s.ch 0 9999 && inB s.ln 0 9999 && inB s.wd 0 9999) with
        | false =>
          have hbad : l.all goodS = false := all_false hkl (by rw [← hs]; unfold goodS; rw [h9, Bool.and_false])
          have e : ofSlipsP l = ([], 31) := by unfold ofSlipsP; rw [hbad]; rfl
          rw [e]
          simp only [go_sem, hG, hOw]
          (repeat' with_reducible first | refine And.intro ?_ ?_ | intro _ | refine exP ?_ ?_); all_goals try omega
          exact Subs.tup (.cons (.nil _ _) (.cons (.refl _) .nil))
        | true =>
          have hgs : goodS s = true := by unfold goodS; rw [hg, h9]; rfl
          obtain ⟨i1, i2, i3⟩ := good_in hgs
          have hats := at_size _ _ _ i1 i2 i3
          unfold atS at hats
          have hws : s.word.size ≤ 12 := by
            have : wordB s.word = true := by unfold slipB at hg; simp only [Bool.and_eq_true] at hg; exact hg.2
            exact (wordB_size this).2
          obtain ⟨U, hU⟩ : ∃ U, U = ofSlipsL (l.take k) := ⟨_, rfl⟩
          rw [← hU] at hstep hln ⊢
          have hstep2 : (ofSlipsL (l.take (k + 1))).map strE = U.map strE ++ ([V.v (Value.string (joinS [slipS, joinS [numB s.ch, numB s.ln, numB s.wd], s.word]))] :: ((befR s).map strE ++ (aftR s).map strE)) := by
            rw [hstep, ← hs, List.map_append, rowsS, List.map_cons, List.map_append]; rfl
          have hlen2 : (ofSlipsL (l.take (k + 1))).length = U.length + (1 + ((befR s).length + (aftR s).length)) := by
            rw [hstep, ← hs, List.length_append, rowsS, List.length_cons, List.length_append]; omega
          by_cases hbe : s.bef = ⟨#[]⟩
          · have hb0 : befR s = [] := if_pos hbe
            rw [hb0] at hstep2 hlen2
            by_cases haf : s.aft = ⟨#[]⟩
            · have ha0 : aftR s = [] := if_pos haf
              rw [ha0] at hstep2 hlen2
              simp (maxSteps := 2000000) only [go_sem, hG, hOw, ← hs]
              (repeat' with_reducible first | refine And.intro ?_ ?_ | intro _ | refine exP ?_ ?_); all_goals try omega
              refine semC_draw0 mixed (by kernel_rfl) ?_
              simp (maxSteps := 2000000) only [go_sem, hG, hOw, ← hs]
              (repeat' with_reducible first | refine And.intro ?_ ?_ | intro _ | refine exP ?_ ?_); all_goals try omega
              refine ⟨_, callGivesA (RAt_ok s.ch s.ln s.wd i1 i2 i3), ?_⟩
              simp (maxSteps := 2000000) only [go_sem, hG, hOw, ← hs,slip_row,before_row,after_row,hbe,haf]
              (repeat' with_reducible first | refine And.intro ?_ ?_ | intro _ | refine exP ?_ ?_); all_goals try omega
              all_goals try (simp; omega)
              exact ⟨k + 1, ⟨by omega, all_take_succ hkl hall (by rw [← hs]; exact hgs)⟩, by omega, ent_of [(100, some 43)] (by (simp only [hstep2,hlen2,strE,List.map_cons,List.map_nil,List.append_nil,List.nil_append,List.append_assoc,List.cons_append,List.length_cons,List.length_nil, go_sem]) <;> simp [hstep2, hlen2, strE, List.map_cons, List.map_nil, List.append_nil, List.nil_append, List.append_assoc, List.cons_append, List.length_cons, List.length_nil]) (by (simp only [hstep2,hlen2,strE,List.map_cons,List.map_nil,List.append_nil,List.nil_append,List.append_assoc,List.cons_append,List.length_cons,List.length_nil, go_sem, entH, entH1, nilArr, obOK]) <;> simp [hstep2, hlen2, strE, List.map_cons, List.map_nil, List.append_nil, List.nil_append, List.append_assoc, List.cons_append, List.length_cons, List.length_nil]) (by simp [injR, apart]) (by simp [coverR, usH]) (by simp [hNm, lkR, names])⟩
            · have ha0 : aftR s = [joinS [afterS, s.aft]] := if_neg haf
              have da := decide_eq_false haf
              rw [ha0] at hstep2 hlen2
              simp (maxSteps := 2000000) only [go_sem, hG, hOw, ← hs]
              (repeat' with_reducible first | refine And.intro ?_ ?_ | intro _ | refine exP ?_ ?_); all_goals try omega
              refine semC_draw0 mixed (by kernel_rfl) ?_
              simp (maxSteps := 2000000) only [go_sem, hG, hOw, ← hs]
              (repeat' with_reducible first | refine And.intro ?_ ?_ | intro _ | refine exP ?_ ?_); all_goals try omega
              refine ⟨_, callGivesA (RAt_ok s.ch s.ln s.wd i1 i2 i3), ?_⟩
              simp (maxSteps := 2000000) only [go_sem, hG, hOw, ← hs,slip_row,before_row,after_row,hbe,da,Bool.not_false]
              (repeat' with_reducible first | refine And.intro ?_ ?_ | intro _ | refine exP ?_ ?_); all_goals try omega
              all_goals try (simp; omega)
              exact ⟨k + 1, ⟨by omega, all_take_succ hkl hall (by rw [← hs]; exact hgs)⟩, by omega, ent_of [(100, some 73)] (by (simp only [hstep2,hlen2,strE,List.map_cons,List.map_nil,List.append_nil,List.nil_append,List.append_assoc,List.cons_append,List.length_cons,List.length_nil, go_sem]) <;> simp [hstep2, hlen2, strE, List.map_cons, List.map_nil, List.append_nil, List.nil_append, List.append_assoc, List.cons_append, List.length_cons, List.length_nil]) (by (simp only [hstep2,hlen2,strE,List.map_cons,List.map_nil,List.append_nil,List.nil_append,List.append_assoc,List.cons_append,List.length_cons,List.length_nil, go_sem, entH, entH1, nilArr, obOK]) <;> simp [hstep2, hlen2, strE, List.map_cons, List.map_nil, List.append_nil, List.nil_append, List.append_assoc, List.cons_append, List.length_cons, List.length_nil]) (by simp [injR, apart]) (by simp [coverR, usH]) (by simp [hNm, lkR, names])⟩
          · have hb0 : befR s = [joinS [beforeS, s.bef]] := if_neg hbe
            have db := decide_eq_false hbe
            rw [hb0] at hstep2 hlen2
            by_cases haf : s.aft = ⟨#[]⟩
            · have ha0 : aftR s = [] := if_pos haf
              rw [ha0] at hstep2 hlen2
              simp (maxSteps := 2000000) only [go_sem, hG, hOw, ← hs]
              (repeat' with_reducible first | refine And.intro ?_ ?_ | intro _ | refine exP ?_ ?_); all_goals try omega
              refine semC_draw0 mixed (by kernel_rfl) ?_
              simp (maxSteps := 2000000) only [go_sem, hG, hOw, ← hs]
              (repeat' with_reducible first | refine And.intro ?_ ?_ | intro _ | refine exP ?_ ?_); all_goals try omega
              refine ⟨_, callGivesA (RAt_ok s.ch s.ln s.wd i1 i2 i3), ?_⟩
              simp (maxSteps := 2000000) only [go_sem, hG, hOw, ← hs,slip_row,before_row,after_row,db,Bool.not_false,haf]
              (repeat' with_reducible first | refine And.intro ?_ ?_ | intro _ | refine exP ?_ ?_); all_goals try omega
              all_goals try (simp; omega)
              exact ⟨k + 1, ⟨by omega, all_take_succ hkl hall (by rw [← hs]; exact hgs)⟩, by omega, ent_of [(100, some 58)] (by (simp only [hstep2,hlen2,strE,List.map_cons,List.map_nil,List.append_nil,List.nil_append,List.append_assoc,List.cons_append,List.length_cons,List.length_nil, go_sem]) <;> simp [hstep2, hlen2, strE, List.map_cons, List.map_nil, List.append_nil, List.nil_append, List.append_assoc, List.cons_append, List.length_cons, List.length_nil]) (by (simp only [hstep2,hlen2,strE,List.map_cons,List.map_nil,List.append_nil,List.nil_append,List.append_assoc,List.cons_append,List.length_cons,List.length_nil, go_sem, entH, entH1, nilArr, obOK]) <;> simp [hstep2, hlen2, strE, List.map_cons, List.map_nil, List.append_nil, List.nil_append, List.append_assoc, List.cons_append, List.length_cons, List.length_nil]) (by simp [injR, apart]) (by simp [coverR, usH]) (by simp [hNm, lkR, names])⟩
            · have ha0 : aftR s = [joinS [afterS, s.aft]] := if_neg haf
              have da := decide_eq_false haf
              rw [ha0] at hstep2 hlen2
              simp (maxSteps := 2000000) only [go_sem, hG, hOw, ← hs]
              (repeat' with_reducible first | refine And.intro ?_ ?_ | intro _ | refine exP ?_ ?_); all_goals try omega
              refine semC_draw0 mixed (by kernel_rfl) ?_
              simp (maxSteps := 2000000) only [go_sem, hG, hOw, ← hs]
              (repeat' with_reducible first | refine And.intro ?_ ?_ | intro _ | refine exP ?_ ?_); all_goals try omega
              refine ⟨_, callGivesA (RAt_ok s.ch s.ln s.wd i1 i2 i3), ?_⟩
              simp (maxSteps := 2000000) only [go_sem, hG, hOw, ← hs,slip_row,before_row,after_row,db,Bool.not_false,da,Bool.not_false]
              (repeat' with_reducible first | refine And.intro ?_ ?_ | intro _ | refine exP ?_ ?_); all_goals try omega
              all_goals try (simp; omega)
              exact ⟨k + 1, ⟨by omega, all_take_succ hkl hall (by rw [← hs]; exact hgs)⟩, by omega, ent_of [(100, some 73)] (by (simp only [hstep2,hlen2,strE,List.map_cons,List.map_nil,List.append_nil,List.nil_append,List.append_assoc,List.cons_append,List.length_cons,List.length_nil, go_sem]) <;> simp [hstep2, hlen2, strE, List.map_cons, List.map_nil, List.append_nil, List.nil_append, List.append_assoc, List.cons_append, List.length_cons, List.length_nil]) (by (simp only [hstep2,hlen2,strE,List.map_cons,List.map_nil,List.append_nil,List.nil_append,List.append_assoc,List.cons_append,List.length_cons,List.length_nil, go_sem, entH, entH1, nilArr, obOK]) <;> simp [hstep2, hlen2, strE, List.map_cons, List.map_nil, List.append_nil, List.nil_append, List.append_assoc, List.cons_append, List.length_cons, List.length_nil]) (by simp [injR, apart]) (by simp [coverR, usH]) (by simp [hNm, lkR, names])⟩
    · have hlt : ¬ (k : Int) < l.length := by omega
      have hkl : k = l.length := by omega
      subst hkl
      rw [List.take_length] at hall
      refine vc_sound _ _ _ ?_
      rw [List.take_length]
      simp (maxSteps := 2000000) only [go_sem, hG, hOw, hlt]
      try (repeat' with_reducible first | refine And.intro ?_ ?_ | intro _ | refine exP ?_ ?_); all_goals try omega
      exact ⟨(), hall, entA [(100, some 100)]⟩
  · rintro _ hall
    have e : ofSlipsP l = if (ofSlipsL l).length ≤ 200 then (ofSlipsL l, 0) else ([], 110) := by unfold ofSlipsP; rw [hall]; rfl
    rw [e]
    simp only [go_sem, hG, hOw]
    (repeat' with_reducible first | refine And.intro ?_ ?_ | intro _ | refine exP ?_ ?_); all_goals try omega
    · rename_i h
      rw [if_neg (by omega)]
      exact Subs.tup (.cons (.nil _ _) (.cons (.refl _) .nil))
    · rename_i h
      rw [if_pos (by omega)]
      exact .refl _
end Go.Proofs.YtppcbmpiphhphaaGreatDoor
