import Derived.Test.YtfnohnjnncjidaaGreatDoorQS14
import Derived.Test.YtfnohnjnncjidaaGreatDoorQS17
import Derived.Test.YtfnohnjnncjidaaGreatDoorQS38
import Derived.Test.YtfnohnjnncjidaaGreatDoorQS42
namespace Go.Proofs.YtfnohnjnncjidaaGreatDoor
open Go Pm
set_option linter.unusedSimpArgs false
set_option linter.unusedVariables false
set_option maxHeartbeats 4000000
set_option maxRecDepth 100000
theorem ord_iff (s : Int) (x y : Cx) : ordI s x y < 0 ↔ y.ln < x.ln ∨ (x.ln = y.ln ∧ (s = 1 ∧ x.fr < y.fr ∨ s = 2 ∧ y.fr < x.fr ∨ (s ≠ 1 ∧ s ≠ 2 ∧ (uneven x < uneven y ∨ uneven x = uneven y ∧ y.fr < x.fr)))) := by
  unfold ordI
  by_cases hl : y.ln - x.ln = 0
  · have e : ∀ z, cor (y.ln - x.ln) z = z := fun z => by unfold cor; rw [if_neg (by simp [hl])]
    rw [e]
    unfold sideI
    by_cases s1 : s = 1
    · rw [if_pos s1]; omega
    · rw [if_neg s1]
      by_cases s2 : s = 2
      · rw [if_pos s2]; omega
      · rw [if_neg s2]
        unfold cor
        by_cases hu : uneven x - uneven y = 0
        · rw [if_neg (by simp [hu])]; omega
        · rw [if_pos hu]; omega
  · have e : ∀ z, cor (y.ln - x.ln) z = y.ln - x.ln := fun z => by unfold cor; rw [if_pos hl]
    rw [e]
    omega
def cxA (ws : List ByteArray) (i f u : Nat) : Cx := ⟨f, i, u, span ws f (u + 1)⟩
def NoB (ws : List ByteArray) (W s : Int) (i a b : Nat) (f u : Nat) : Prop := ∀ g v : Nat, g ≤ i → i ≤ v → v < ws.length → (g < a ∨ g = a ∧ v < b) → span ws g (v + 1) ≤ W → ¬ ordI s (cxA ws i g v) (cxA ws i f u) < 0
theorem NoB.keep {ws : List ByteArray} {W s : Int} {i a b f u : Nat} (h : NoB ws W s i a b f u) (hn : span ws a (b + 1) ≤ W → ¬ ordI s (cxA ws i a b) (cxA ws i f u) < 0) : NoB ws W s i a (b + 1) f u := by
  intro g v g1 g2 g3 g4 g5
  by_cases e : g = a ∧ v = b
  · obtain ⟨rfl, rfl⟩ := e; exact hn g5
  · exact h g v g1 g2 g3 (by omega) g5
theorem NoB.new {ws : List ByteArray} {W s : Int} {i a b f u : Nat} (h : NoB ws W s i a b f u) (hn : ordI s (cxA ws i a b) (cxA ws i f u) < 0) : NoB ws W s i a (b + 1) a b := by
  intro g v g1 g2 g3 g4 g5
  by_cases e : g = a ∧ v = b
  · obtain ⟨rfl, rfl⟩ := e; exact ord_irr s _
  · exact ord_trans s _ _ _ (h g v g1 g2 g3 (by omega) g5) hn
theorem NoB.row {ws : List ByteArray} {W s : Int} {i a f u : Nat} (h : NoB ws W s i a ws.length f u) : NoB ws W s i (a + 1) i f u := by
  intro g v g1 g2 g3 g4 g5
  exact h g v g1 g2 g3 (by omega) g5
theorem NoB.only {ws : List ByteArray} {W s : Int} {i f u : Nat} (h : NoB ws W s i (i + 1) i f u) (hi : i < ws.length) (hW : (ws[i].size : Int) ≤ W) (h1 : f ≤ i) (h2 : i ≤ u) (h3 : u < ws.length) (h4 : span ws f (u + 1) ≤ W) : bestC ws W s i = cxA ws i f u :=
  bestC_only hi hW f u h1 h2 h3 h4 fun g v g1 g2 g3 g4 => h g v g1 g2 g3 (by omega) g4
theorem mem_atF_k (k : Nat) : ∀ (ls : List (List ByteArray)) (m : Nat) (p : Nat × Nat × Nat), p ∈ atF k m ls → p.1 = k := by
  intro ls
  induction ls with
  | nil => intro m p h; simp [atF] at h
  | cons r ls ih =>
    intro m p h
    simp only [atF, List.mem_append, List.mem_map] at h
    rcases h with ⟨w, _, rfl⟩ | h
    · rfl
    · exact ih _ p h
abbrev rsF (lo : Nat) (ws : List ByteArray) (i f u a : Nat) (more : List (Nat × V)) : List (Nat × V) := [(3, .ptr 3 0), (4, .ptr 4 0), (5, .ptr 5 0), (6, .ptr 6 0), (7, strs lo ws), (9, i64 i), (10, i64 f), (11, i64 u), (12, i64 (span ws f (u + 1))), (13, i64 a)] ++ more
abbrev rsH (t : List Ch) (c : Cu) (p : Nat × Nat × Nat) : List (Nat × OB) := [(3, .box [chs 0 t]), (4, .box (cuC c)), (5, .box (pl3 p)), (6, .box (slC ⟨(0, 0, 0), ByteArray.empty, ByteArray.empty, ByteArray.empty⟩))]
theorem rs_tie (t : List Ch) (c : Cu) (hs : inB c.s 1 3 = true) (p : Nat × Nat × Nat) (ws : List ByteArray) (hl : ws.length ≤ 1000) (i a b f u : Nat) (h1 : a ≤ i) (h2 : i ≤ b) (h3 : b < ws.length) (h4 : f ≤ i) (h5 : i ≤ u) (h6 : u < ws.length)
    (hn : span ws f (u + 1) ≤ span ws a (b + 1)) {G : Gh} (hG : G.n = 143) (hOw : G.ow = fun _ => false) (hNm : G.nm = []) {Q : Exit → St → Prop}
    (hQ : ∀ st', Ent G st' (St.of (rsF G.lo ws i f u a [(14, i64 b), (15, i64 (span ws a (b + 1))), (18, bl (decide (ordI c.s (cxA ws i a b) (cxA ws i f u) < 0)))]) (rsH t c p)) → Q .normal st') :
    SemL Tryz.prog G (((flat (bkOf 3 Tryz.f120.body)).drop 3).take 3) (St.of (rsF G.lo ws i f u a [(14, i64 b), (15, i64 (span ws a (b + 1)))]) (rsH t c p)) Q := by
  have hX : (if (i : Int) - a - ((b : Int) - i) < -((i : Int) - a - ((b : Int) - i)) then -((i : Int) - a - ((b : Int) - i)) else (i : Int) - a - ((b : Int) - i)) = uneven (cxA ws i a b) := by
    unfold uneven cxA
    simp only
    split <;> omega
  have hC : (if (i : Int) - f - ((u : Int) - i) < -((i : Int) - f - ((u : Int) - i)) then -((i : Int) - f - ((u : Int) - i)) else (i : Int) - f - ((u : Int) - i)) = uneven (cxA ws i f u) := by
    unfold uneven cxA
    simp only
    split <;> omega
  have ho := ord_iff c.s (cxA ws i a b) (cxA ws i f u)
  have x1 : (cxA ws i a b).ln = span ws a (b + 1) := rfl
  have x2 : (cxA ws i f u).ln = span ws f (u + 1) := rfl
  have x3 : (cxA ws i a b).fr = a := rfl
  have x4 : (cxA ws i f u).fr = f := rfl
  rw [x1, x2, x3, x4] at ho
  generalize uneven (cxA ws i a b) = X at hX ho
  generalize uneven (cxA ws i f u) = C at hC ho
  generalize ordI c.s (cxA ws i a b) (cxA ws i f u) = O at hQ ho
  have hs13 : 1 ≤ c.s ∧ c.s ≤ 3 := by simp only [inB, Bool.and_eq_true, decide_eq_true_eq] at hs; omega
  unfold Tryz.f120
  simp only [rgOf, bkOf, rgO, bkO, orElse, Option.bind_some, Option.getD_some, reduceIte, Nat.reduceEqDiff, reduceCtorEq]
  simp only [flat, List.cons_append, List.nil_append, List.append_assoc, List.take_succ_cons, List.take_zero, List.take_nil, List.drop_succ_cons, List.drop_zero]
  refine vcN_sound 4 _ _ ?_
  simp (maxSteps := 2000000) only [go_sem, hG, hOw, hX, hC]
  (repeat' with_reducible first | refine And.intro ?_ ?_ | intro _ | refine exP ?_ ?_); all_goals try omega
  all_goals refine hQ _ ?_
  all_goals first
    | (have hh : span ws f (u + 1) < span ws a (b + 1) := by assumption
       rw [show decide (O < 0) = true from decide_eq_true (by rw [ho]; omega)]; exact entA [(3, some 3), (4, some 4), (5, some 5), (6, some 6)] (by (simp only [go_sem]) <;> simp [hh]) (by (simp only [go_sem, entH, entH1, nilArr, obOK]) <;> simp [hh]))
    | (have hh : c.s = 1 := by assumption
       rw [show decide (O < 0) = decide ((a : Int) < f) from decide_eq_decide.2 (by rw [ho]; omega)]; exact entA [(3, some 3), (4, some 4), (5, some 5), (6, some 6)] (by (simp only [go_sem]) <;> simp [hh]) (by (simp only [go_sem, entH, entH1, nilArr, obOK]) <;> simp [hh]))
    | (have hh : c.s = 2 := by assumption
       rw [show decide (O < 0) = decide ((f : Int) < a) from decide_eq_decide.2 (by rw [ho]; omega)]; exact entA [(3, some 3), (4, some 4), (5, some 5), (6, some 6)] (by (simp only [go_sem]) <;> simp [hh]) (by (simp only [go_sem, entH, entH1, nilArr, obOK]) <;> simp [hh]))
    | (have hh : X < C := by assumption
       rw [show decide (O < 0) = true from decide_eq_true (by rw [ho]; omega)]; exact entA [(3, some 3), (4, some 4), (5, some 5), (6, some 6)] (by (simp only [go_sem]) <;> simp [hh]) (by (simp only [go_sem, entH, entH1, nilArr, obOK]) <;> simp [hh]))
    | (have hh : X = C := by assumption
       rw [show decide (O < 0) = decide ((f : Int) < a) from decide_eq_decide.2 (by rw [ho]; omega)]; exact entA [(3, some 3), (4, some 4), (5, some 5), (6, some 6)] (by (simp only [go_sem]) <;> simp [hh]) (by (simp only [go_sem, entH, entH1, nilArr, obOK]) <;> simp [hh]))
    | (have hh : ¬ X = C := by assumption
       rw [show decide (O < 0) = false from decide_eq_false (by rw [ho]; omega)]; exact entA [(3, some 3), (4, some 4), (5, some 5), (6, some 6)] (by (simp only [go_sem]) <;> simp [hh]) (by (simp only [go_sem, entH, entH1, nilArr, obOK]) <;> simp [hh]))
theorem rs_round (t : List Ch) (c : Cu) (hs : inB c.s 1 3 = true) (hW : 12 ≤ c.w ∧ c.w ≤ 1000) (p : Nat × Nat × Nat) (ws : List ByteArray) (hl : ws.length ≤ 1000) (hw40 : ∀ s ∈ ws, s.size ≤ 40) (i a b f u : Nat) (h1 : a ≤ i) (h2 : i ≤ b) (h3 : b < ws.length) (h4 : f ≤ i) (h5 : i ≤ u) (h6 : u < ws.length)
    (h7 : span ws f (u + 1) ≤ c.w) (hN : NoB ws c.w c.s i a b f u) {G : Gh} (hG : G.n = 143) (hOw : G.ow = fun _ => false) (hNm : G.nm = []) {Q : Exit → St → Prop}
    (hQ : ∀ f u : Nat, f ≤ i → i ≤ u → u < ws.length → span ws f (u + 1) ≤ c.w → NoB ws c.w c.s i a (b + 1) f u → ∀ st', Ent G st' (St.of (rsF G.lo ws i f u a [(14, i64 b)]) (rsH t c p)) → Q .normal st' ∧ Q (.exit 3) st') :
    SemL Tryz.prog G (flat (bkOf 3 Tryz.f120.body)) (St.of (rsF G.lo ws i f u a [(14, i64 b)]) (rsH t c p)) Q := by
  have hLen : Gives Tryz.prog 157 [strs 0 ((ws.take (b + 1)).drop a)] (fun _ => i64 (span ws a (b + 1))) := by
    rw [← lenW_span ws a (b + 1) (by omega) (by omega)]
    exact RLength_ok _ (by rw [List.length_drop, List.length_take]; omega) fun s hs => hw40 s (List.mem_of_mem_take (List.mem_of_mem_drop hs))
  have ho := ord_iff c.s (cxA ws i a b) (cxA ws i f u)
  have x1 : (cxA ws i a b).ln = span ws a (b + 1) := rfl
  have x2 : (cxA ws i f u).ln = span ws f (u + 1) := rfl
  rw [x1, x2] at ho
  have eb : ((b : Int) + 1).toNat = b + 1 := by omega
  have hts := fun hn => rs_tie t c hs p ws hl i a b f u h1 h2 h3 h4 h5 h6 hn hG hOw hNm (Q := midQ G (fun _ : Unit => St.of (rsF G.lo ws i f u a [(14, i64 b), (15, i64 (span ws a (b + 1))), (18, bl (decide (ordI c.s (cxA ws i a b) (cxA ws i f u) < 0)))]) (rsH t c p)) (fun _ => True) Q) (fun st' h => ⟨(), trivial, fun a w hs => h a w hs⟩)
  generalize hO : ordI c.s (cxA ws i a b) (cxA ws i f u) = O at hts ho
  unfold Tryz.f120
  simp only [rgOf, bkOf, rgO, bkO, orElse, Option.bind_some, Option.getD_some, reduceIte, Nat.reduceEqDiff, reduceCtorEq]
  simp only [flat, List.cons_append, List.nil_append, List.append_assoc, List.take_succ_cons, List.take_zero, List.take_nil, List.drop_succ_cons, List.drop_zero]
  refine vcN_sound 3 _ _ ?_
  simp (maxSteps := 2000000) only [go_sem, hG, hOw, eb]
  (repeat' with_reducible first | refine And.intro ?_ ?_ | intro _ | refine exP ?_ ?_); all_goals try omega
  refine call_pure hLen (by first | exact Subs.refl _ | (repeat' (first | exact Subs.nil | exact Sub.refl _ | exact Sub.lo (Nat.zero_le _) | refine Subs.cons ?_ ?_ | refine Subs.agg ?_ | refine Subs.fp ?_ | refine Subs.tup ?_ | refine Sub.map (Nat.zero_le _) (fun _ => ?_)))) (by first | rfl | simp [allP, all0, pureV, pure0, *]) (by simp [chk, hG]) ?_
  simp (maxSteps := 2000000) only [go_sem, hG, hOw, eb]
  (repeat' with_reducible first | refine And.intro ?_ ?_ | intro _ | refine exP ?_ ?_); all_goals try omega
  · refine (hQ f u h4 h5 h6 h7 (hN.keep fun _ => by rw [hO, ho]; omega) _ ?_).2
    exact entA [(3, some 3), (4, some 4), (5, some 5), (6, some 6)]
  · refine semL_ent (s' := St.of (rsF G.lo ws i f u a [(14, i64 b), (15, i64 (span ws a (b + 1)))]) (rsH t c p)) (entA [(3, some 3), (4, some 4), (5, some 5), (6, some 6)]) ?_
    refine semL_midN 3 (fun _ : Unit => St.of (rsF G.lo ws i f u a [(14, i64 b), (15, i64 (span ws a (b + 1))), (18, bl (decide (O < 0)))]) (rsH t c p)) (fun _ => True) (semL_code (by kernel_rfl) (hts (by omega))) ?_
    rintro ⟨⟩ -
    simp only [flat, List.cons_append, List.nil_append, List.append_assoc, List.take_succ_cons, List.take_zero, List.take_nil, List.drop_succ_cons, List.drop_zero]
    refine vcN_sound 3 _ _ ?_
    by_cases hk : O < 0
    · have hkT : decide (O < 0) = true := decide_eq_true hk
      simp (maxSteps := 2000000) only [go_sem, hG, hOw, hkT]
      (repeat' with_reducible first | refine And.intro ?_ ?_ | intro _ | refine exP ?_ ?_); all_goals try omega
      refine (hQ a b h1 h2 h3 (by omega) (hN.new (by rw [hO]; exact hk)) _ ?_).1
      exact entA [(3, some 3), (4, some 4), (5, some 5), (6, some 6)]
    · have hkF : decide (O < 0) = false := decide_eq_false hk
      simp (maxSteps := 2000000) only [go_sem, hG, hOw, hkF]
      (repeat' with_reducible first | refine And.intro ?_ ?_ | intro _ | refine exP ?_ ?_); all_goals try omega
      refine (hQ f u h4 h5 h6 h7 (hN.keep fun _ => by rw [hO]; exact hk) _ ?_).1
      exact entA [(3, some 3), (4, some 4), (5, some 5), (6, some 6)]
  · refine (hQ f u h4 h5 h6 h7 (hN.keep fun h => by omega) _ ?_).2
    exact entA [(3, some 3), (4, some 4), (5, some 5), (6, some 6)]
open Go Pm
set_option maxHeartbeats 4000000
set_option maxRecDepth 100000
theorem RSlip_ok (t : List Ch) (ht : textB t = true) (c : Cu) (hs : inB c.s 1 3 = true) (hW : 12 ≤ c.w ∧ c.w ≤ 1000) (k : Nat) (hk : k < t.length) (ls : List (List ByteArray)) (hls : ls = t[k].lines) (i : Nat) (hi : i < ls.flatten.length) (hia : i < (atF k 0 ls).length) :
    Gives Tryz.prog 120 [txE 0 t, .agg (cuC c), .agg (pl3 (atF k 0 ls)[i])] (fun _ => .agg (slC (slOf c k ls i))) := by
  obtain ⟨b1, b2, b3, b4⟩ := chap_words ht k hk
  have hRun := RRun_ok t k hk (by omega) (fun r hr => by have := b2 r hr; omega)
  have hal := atF_len k ls 0
  rw [← hls] at hRun b1 b2 b3 b4
  have hp1 : ((atF k 0 ls)[i]).1 = k := mem_atF_k k ls 0 _ (List.getElem_mem hia)
  have hIx := RIndex_ok (atF k 0 ls) (by omega) i hia (fun j hj hlt e => by
    have := (List.getElem_inj (atF_nodup k ls 0)).1 e
    omega)
  obtain ⟨p, hp⟩ : ∃ p, p = (atF k 0 ls)[i] := ⟨_, rfl⟩
  rw [← hp] at hp1 hIx ⊢
  obtain ⟨ws, hws⟩ : ∃ ws, ws = ls.flatten := ⟨_, rfl⟩
  rw [← hws] at hRun b3 b4 hi
  have hw40 : ∀ s ∈ ws, s.size ≤ 40 := fun s hs => by have := b3 s hs; omega
  have hpb := pre_bd ws hw40
  have hwi := b3 _ (List.getElem_mem hi)
  have hs0 := span_one ws i hi
  have hRun' : Gives Tryz.prog 155 [txE 0 t, i64 p.1] (fun n => .tup [strs n ws, .lst n 3 ((atF k 0 ls).map pl3)]) := by rw [hp1]; exact hRun
  obtain ⟨q0, hq0⟩ : ∃ q : V, q = .agg (slC (slOf c k ls i)) := ⟨_, rfl⟩
  rw [← hq0]
  refine pure_intro (ow := fun _ => false) Tryz.func120 Tryz.ntmps120 rfl (by kernel_rfl) (by simp) rfl (by decide) fun G hG hOw hNm hB => ?_; simp only [go_sem, hG, hOw]
  (repeat' with_reducible first | refine And.intro ?_ ?_ | intro _ | refine exP ?_ ?_); all_goals try omega
  refine call_pure hRun' (by first | exact Subs.refl _ | (repeat' (first | exact Subs.nil | exact Sub.refl _ | exact Sub.lo (Nat.zero_le _) | refine Subs.cons ?_ ?_ | refine Subs.agg ?_ | refine Subs.fp ?_ | refine Subs.tup ?_ | refine Sub.map (Nat.zero_le _) (fun _ => ?_)))) (by first | rfl | simp [allP, all0, pureV, pure0, *]) (by simp [chk, hG]) ?_
  simp only [go_sem, hG, hOw]
  (repeat' with_reducible first | refine And.intro ?_ ?_ | intro _ | refine exP ?_ ?_); all_goals try omega
  refine call_pure hIx (by first | exact Subs.refl _ | (repeat' (first | exact Subs.nil | exact Sub.refl _ | exact Sub.lo (Nat.zero_le _) | refine Subs.cons ?_ ?_ | refine Subs.agg ?_ | refine Subs.fp ?_ | refine Subs.tup ?_ | refine Sub.map (Nat.zero_le _) (fun _ => ?_)))) (by first | rfl | simp [allP, all0, pureV, pure0, *]) (by simp [chk, hG]) ?_
  simp only [go_sem, hG, hOw]
  (repeat' with_reducible first | refine And.intro ?_ ?_ | intro _ | refine exP ?_ ?_); all_goals try omega
  refine semC_draw0 mixed (by kernel_rfl) ?_
  simp only [go_sem, hG, hOw]
  (repeat' with_reducible first | refine And.intro ?_ ?_ | intro _ | refine exP ?_ ?_); all_goals try omega
  have hsB : ∀ f u : Nat, f ≤ u → u < ws.length → 0 ≤ span ws f (u + 1) + 1 ∧ span ws f (u + 1) ≤ 100000 := fun f u h1 h2 => by
    have q1 := hpb (u + 1)
    have q2 := pre_le ws f (u + 1) (by omega)
    have q3 := hpb f
    unfold span; omega
  have hsE : (ByteArray.empty : ByteArray) = ⟨#[]⟩ := rfl
  refine semC_loop (fun y : Nat × Nat × Nat => St.of (rsF G.lo ws i y.2.1 y.2.2 y.1 []) (rsH t c p))
    (fun y => y.1 ≤ i + 1 ∧ y.2.1 ≤ i ∧ i ≤ y.2.2 ∧ y.2.2 < ws.length ∧ span ws y.2.1 (y.2.2 + 1) ≤ c.w ∧ NoB ws c.w c.s i y.1 i y.2.1 y.2.2) (fun y => i + 1 - y.1) (0, i, i) ⟨by simp only; omega, by simp only; omega, by simp only; omega, hi, by simp only [hs0]; omega, fun g v g1 g2 g3 g4 => by simp only at g4; omega⟩ (entA [(3, some 3), (4, some 4), (5, some 5), (6, some 6)] (by (simp only [go_sem]) <;> simp [hs0]) (by (simp only [go_sem, entH, entH1, nilArr, obOK]) <;> simp [hs0])) ?_
  rintro ⟨a, f, u⟩ ⟨h1, h2, h3, h4, h5, hN⟩
  simp only at h1 h2 h3 h4 h5 hN
  refine vc_sound _ _ _ ?_
  simp only [go_sem, hG, hOw]
  (repeat' with_reducible first | refine And.intro ?_ ?_ | intro _ | refine exP ?_ ?_); all_goals try omega
  · rename_i hai
    have hai' : a ≤ i := by omega
    refine semC_cutN (fun y : Nat × Nat => St.of (rsF G.lo ws i y.1 y.2 a []) (rsH t c p)) (fun y => y.1 ≤ i ∧ i ≤ y.2 ∧ y.2 < ws.length ∧ span ws y.1 (y.2 + 1) ≤ c.w ∧ NoB ws c.w c.s i (a + 1) i y.1 y.2) ?_ ?_
    · refine semC_loop (fun y : Nat × Nat × Nat => St.of (rsF G.lo ws i y.2.1 y.2.2 a [(14, i64 y.1)]) (rsH t c p))
        (fun y => (i ≤ y.1 ∧ y.1 ≤ ws.length) ∧ y.2.1 ≤ i ∧ i ≤ y.2.2 ∧ y.2.2 < ws.length ∧ span ws y.2.1 (y.2.2 + 1) ≤ c.w ∧ NoB ws c.w c.s i a y.1 y.2.1 y.2.2) (fun y => ws.length - y.1) (i, f, u) ⟨⟨by simp only; omega, by simp only; omega⟩, h2, h3, h4, h5, hN⟩ (entA [(3, some 3), (4, some 4), (5, some 5), (6, some 6)]) ?_
      rintro ⟨b, f, u⟩ ⟨⟨g1, g2⟩, g3, g4, g5, g6, hN⟩
      simp only at g1 g2 g3 g4 g5 g6 hN
      refine SemL.semC ?_
      simp only [flat, List.cons_append, List.nil_append, List.append_assoc, List.take_succ_cons, List.take_zero, List.take_nil, List.drop_succ_cons, List.drop_zero]
      refine vcN_sound 2 _ _ ?_
      simp only [go_sem, hG, hOw]
      (repeat' with_reducible first | refine And.intro ?_ ?_ | intro _ | refine exP ?_ ?_); all_goals try omega
      · rename_i hbl
        have hbl' : b < ws.length := by omega
        refine semL_ent (s' := St.of (rsF G.lo ws i f u a [(14, i64 b)]) (rsH t c p)) (entA [(3, some 3), (4, some 4), (5, some 5), (6, some 6)]) ?_
        refine semL_blk ?_
        refine semL_code (by kernel_rfl) (rs_round t c hs hW p ws (by omega) hw40 i a b f u hai' g1 hbl' g3 g4 g5 g6 hN hG hOw hNm fun f u k1 k2 k3 k4 k5 st' he => ?_)
        constructor
        all_goals refine semL_ent he ?_
        all_goals simp only [flat, List.cons_append, List.nil_append, List.append_assoc, List.take_succ_cons, List.take_zero, List.take_nil, List.drop_succ_cons, List.drop_zero]
        all_goals refine vcN_sound 2 _ _ ?_
        all_goals simp only [go_sem, hG, hOw]
        all_goals (repeat' with_reducible first | refine And.intro ?_ ?_ | intro _ | refine exP ?_ ?_); all_goals try omega
        all_goals exact ⟨(b + 1, f, u), ⟨⟨by simp only; omega, by simp only; omega⟩, k1, k2, k3, k4, k5⟩, by simp only; omega, entA [(3, some 3), (4, some 4), (5, some 5), (6, some 6)]⟩
      · rename_i hbl
        obtain rfl : b = ws.length := by omega
        exact ⟨(f, u), ⟨g3, g4, g5, g6, hN.row⟩, entA [(3, some 3), (4, some 4), (5, some 5), (6, some 6)]⟩
    · rintro ⟨f, u⟩ ⟨g1, g2, g3, g4, hN⟩
      simp only [go_sem, hG, hOw]
      (repeat' with_reducible first | refine And.intro ?_ ?_ | intro _ | refine exP ?_ ?_); all_goals try omega
      exact ⟨(a + 1, f, u), ⟨by simp only; omega, g1, g2, g3, g4, hN⟩, by simp only; omega, entA [(3, some 3), (4, some 4), (5, some 5), (6, some 6)]⟩
  · rename_i hai
    obtain rfl : a = i + 1 := by omega
    have hbC := hN.only hi (by omega) h2 h3 h4 h5
    have eS : slOf c k ls i = ⟨p, ws[i], joinS ((ws.take i).drop f) spc, joinS ((ws.take (u + 1)).drop (i + 1)) spc⟩ := by
      unfold slOf
      rw [← hws, hbC, List.getElem?_eq_getElem hia, List.getElem?_eq_getElem hi, ← hp]
      rfl
    rw [eS] at hq0
    have t1 : ((i : Int) + 1).toNat = i + 1 := by omega
    have t2 : ((u : Int) + 1).toNat = u + 1 := by omega
    have sub : ∀ a b, ∀ s ∈ (ws.take a).drop b, s.size ≤ 40 := fun a b s hs => hw40 s (List.mem_of_mem_take (List.mem_of_mem_drop hs))
    have sub2 : ∀ a b, ((ws.take a).drop b).length ≤ 1000 := fun a b => by rw [List.length_drop, List.length_take]; omega
    rw [hq0]
    refine semC_draw0 mixed (by kernel_rfl) ?_
    simp (maxSteps := 2000000) only [go_sem, hG, hOw, t1, t2]
    (repeat' with_reducible first | refine And.intro ?_ ?_ | intro _ | refine exP ?_ ?_); all_goals try omega
    refine ⟨_, callGivesA (RJoined_ok ((ws.take i).drop f) (sub2 _ _) (sub _ _)), ?_⟩
    simp (maxSteps := 2000000) only [go_sem, hG, hOw, t1, t2]
    (repeat' with_reducible first | refine And.intro ?_ ?_ | intro _ | refine exP ?_ ?_); all_goals try omega
    refine ⟨_, callGivesA (RJoined_ok ((ws.take (u + 1)).drop (i + 1)) (sub2 _ _) (sub _ _)), ?_⟩
    simp (maxSteps := 2000000) only [go_sem, hG, hOw, t1, t2]
    (repeat' with_reducible first | refine And.intro ?_ ?_ | intro _ | refine exP ?_ ?_); all_goals try omega
open Go Pm
set_option maxHeartbeats 4000000
set_option maxRecDepth 100000
theorem within03_ok (n lo hi : Int) : Gives Tryz.prog 89 [i64 n, i64 lo, i64 hi] (fun _ => bl (inB n lo hi)) := by
  refine pure_intro (ow := fun _ => false) Tryz.func89 Tryz.ntmps89 rfl (by kernel_rfl) (by simp) rfl (by decide) fun G hG hOw hNm hB => ?_; simp only [go_sem, hG, hOw]
  (repeat' with_reducible first | refine And.intro ?_ ?_ | intro _ | refine exP ?_ ?_); all_goals try omega
  all_goals unfold inB
  · rename_i h; rw [decide_eq_true h, Bool.true_and]
  · rename_i h; rw [decide_eq_false h, Bool.false_and]
theorem RCut_ok (c : Cu) (hs : 0 ≤ c.s ∧ c.s ≤ 255) : Gives Tryz.prog 42 [.agg (cuC c)] (fun _ => bl (cutB c)) := by
  refine pure_intro (ow := fun _ => false) Tryz.func42 Tryz.ntmps42 rfl (by kernel_rfl) (by simp) rfl (by decide) fun G hG hOw hNm hB => ?_; simp only [go_sem, hG, hOw]
  (repeat' with_reducible first | refine And.intro ?_ ?_ | intro _ | refine exP ?_ ?_); all_goals try omega
  refine call_pureA (within03_ok c.w 12 80) ?_
  unfold cutB
  cases h1 : inB c.w 12 80 with
  | false =>
    simp only [go_sem, hG, hOw]
    (repeat' with_reducible first | refine And.intro ?_ ?_ | intro _ | refine exP ?_ ?_); all_goals try omega
  | true =>
    simp only [go_sem, hG, hOw]
    (repeat' with_reducible first | refine And.intro ?_ ?_ | intro _ | refine exP ?_ ?_); all_goals try omega
    refine call_pureA (within03_ok c.s 1 3) ?_
    simp only [go_sem, hG, hOw]
    try (repeat' with_reducible first | refine And.intro ?_ ?_ | intro _ | refine exP ?_ ?_); all_goals try omega
theorem RCheck3_ok (c : Cu) (hs : 0 ≤ c.s ∧ c.s ≤ 255) : Gives Tryz.prog 69 [.agg (cuC c)] (fun _ => i64 (if cutB c = true then 0 else 30)) := by
  refine pure_intro (ow := fun _ => false) Tryz.func69 Tryz.ntmps69 rfl (by kernel_rfl) (by simp) rfl (by decide) fun G hG hOw hNm hB => ?_; simp only [go_sem, hG, hOw]
  refine call_pureA (RCut_ok c hs) ?_
  cases h : cutB c with
  | false =>
    simp only [go_sem, hG, hOw]
    try (repeat' with_reducible first | refine And.intro ?_ ?_ | intro _ | refine exP ?_ ?_); all_goals try omega
  | true =>
    simp only [go_sem, hG, hOw]
    try (repeat' with_reducible first | refine And.intro ?_ ?_ | intro _ | refine exP ?_ ?_); all_goals try omega
theorem RAsked_ok (t : List Ch) (ht : OKt t) (c : Cu) (hs : 0 ≤ c.s ∧ c.s ≤ 255) : Gives Tryz.prog 118 [txE 0 t, .agg (cuC c)] (fun _ => i64 (openE t c)) := by
  refine pure_intro (ow := fun _ => false) Tryz.func118 Tryz.ntmps118 rfl (by kernel_rfl) (by simp) rfl (by decide) fun G hG hOw hNm hB => ?_; simp only [go_sem, hG, hOw]
  refine call_pureA (CheckT_ok t ht) ?_
  unfold openE
  cases h : textB t with
  | false =>
    simp only [Bool.false_eq_true, if_false]
    simp only [go_sem, hG, hOw]
    try (repeat' with_reducible first | refine And.intro ?_ ?_ | intro _ | refine exP ?_ ?_); all_goals try omega
  | true =>
    simp only [if_true]
    simp only [go_sem, hG, hOw]
    refine call_pureA (RCheck3_ok c hs) ?_
    simp only [go_sem, hG, hOw]
    try (repeat' with_reducible first | refine And.intro ?_ ?_ | intro _ | refine exP ?_ ?_); all_goals try omega
def plA (t : List Ch) : Nat → List (Nat × Nat × Nat)
  | 0 => []
  | k + 1 => plA t k ++ (match t[k]? with | some c => atF k 0 c.lines | none => [])
theorem plA_succ (t : List Ch) (k : Nat) (hk : k < t.length) : plA t (k + 1) = plA t k ++ atF k 0 t[k].lines := by simp [plA, hk]
theorem plA_zero (t : List Ch) : plA t 0 = [] := rfl
theorem plA_len (t : List Ch) (ht : textB t = true) : ∀ k, k ≤ t.length → (plA t k).length ≤ 600 * k := by
  intro k
  induction k with
  | zero => simp [plA]
  | succ k ih =>
    intro hk
    have := ih (by omega)
    have := (chap_words ht k (by omega)).2.2.2
    rw [plA_succ t k (by omega), List.length_append, atF_len]
    omega
theorem pl_sl (c : Cu) (t : List Ch) : ∀ K, K ≤ t.length → (plA t K).length = (allSl c t K).length ∧ ∀ i, i < (plA t K).length → ∃ k, ∃ (hk : k < t.length), ∃ m, ∃ (hm : m < (atF k 0 t[k].lines).length), (plA t K)[i]? = some (atF k 0 t[k].lines)[m] ∧ (allSl c t K)[i]? = some (slOf c k t[k].lines m) := by
  intro K
  induction K with
  | zero => intro _; exact ⟨rfl, fun i hi => by simp [plA] at hi⟩
  | succ K ih =>
    intro hK
    obtain ⟨h1, h2⟩ := ih (by omega)
    have hkl : K < t.length := by omega
    have hcl : (chSl c K t[K].lines t[K].lines.flatten.length).length = t[K].lines.flatten.length := by simp [chSl]
    have hal := atF_len K t[K].lines 0
    rw [plA_succ t K hkl, allSl_succ c t K hkl]
    refine ⟨by rw [List.length_append, List.length_append, h1, hcl, hal], fun i hi => ?_⟩
    by_cases hlt : i < (plA t K).length
    · obtain ⟨k, hk, m, hm, e1, e2⟩ := h2 i hlt
      exact ⟨k, hk, m, hm, by rw [List.getElem?_append_left hlt]; exact e1, by rw [List.getElem?_append_left (by omega)]; exact e2⟩
    · rw [List.length_append] at hi
      have hm : i - (plA t K).length < (atF K 0 t[K].lines).length := by omega
      refine ⟨K, hkl, i - (plA t K).length, hm, by rw [List.getElem?_append_right (by omega), List.getElem?_eq_getElem hm], ?_⟩
      rw [List.getElem?_append_right (by omega), ← h1]
      unfold chSl
      rw [List.getElem?_map, List.getElem?_range (by omega)]; rfl
def pzN (t : List Ch) (k : Nat) (ls : List (List ByteArray)) (n j : Nat) : List (Nat × Nat × Nat) := plA t k ++ atN k ls n j
theorem pzN_zero (t : List Ch) (k : Nat) (ls : List (List ByteArray)) : pzN t k ls 0 0 = plA t k := by simp [pzN, atN_zero]
theorem pzN_succ (t : List Ch) (k : Nat) (ls : List (List ByteArray)) (n j : Nat) : pzN t k ls n (j + 1) = pzN t k ls n j ++ [(k, n, j)] := by
  unfold pzN; rw [atN_succ, List.append_assoc]
theorem pzN_line (t : List Ch) (k : Nat) (ls : List (List ByteArray)) (n : Nat) (hn : n < ls.length) : pzN t k ls n ls[n].length = pzN t k ls (n + 1) 0 := by
  unfold pzN; rw [atN_line k ls n hn]
theorem RAllP_ok (t : List Ch) (ht : textB t = true) : Gives Tryz.prog 119 [txE 0 t] (fun n => .lst n 3 ((plA t t.length).map pl3)) := by
  have ht6 := (textB_bd ht).1
  have hpl := plA_len t ht
  refine pure_intro (ow := fun _ => false) Tryz.func119 Tryz.ntmps119 rfl (by kernel_rfl) (by simp) rfl (by decide) fun G hG hOw hNm hB => ?_; simp only [go_sem, hG, hOw]
  refine semC_loop (fun k : Nat => St.of [(1, .ptr 1 0), (3, .own 30 0 (plA t k).length 3), (4, i64 k)] [(1, .box [chs 0 t]), (30, .arr 91 3 ((plA t k).map pl3))]) (fun k => k ≤ t.length) (fun k => t.length - k) 0 (by simp) (entA [(1, some 1), (30, none)] (by (simp only [go_sem]) <;> simp [plA_zero]) (by (simp only [go_sem, entH, entH1, nilArr, obOK]) <;> simp [plA_zero])) ?_
  rintro k hk
  by_cases hkl : k < t.length
  · have hlt : (k : Int) < t.length := by omega
    obtain ⟨b1, b2, b3, b4⟩ := chap_words ht k hkl
    obtain ⟨ls, hls⟩ : ∃ ls, ls = t[k].lines := ⟨_, rfl⟩
    have hps := plA_succ t k hkl
    have hp1 := hpl k (by omega)
    rw [← hls] at b1 b2 b3 b4 hps
    have al : ∀ n j, n < ls.length → j ≤ 15 → (pzN t k ls n j).length ≤ 5000 := fun n j hn hj => by
      unfold pzN
      rw [List.length_append]
      unfold atN
      have h1 := flatten_bd (ls.take n) (by rw [List.length_take]; omega) (fun r hr' => by have := b2 r (List.mem_of_mem_take hr'); omega)
      rw [List.length_append, atF_len, List.length_map, List.length_range]
      omega
    refine vc_sound _ _ _ ?_
    simp (maxSteps := 2000000) only [go_sem, hG, hOw, hlt]
    (repeat' with_reducible first | refine And.intro ?_ ?_ | intro _ | refine exP ?_ ?_); all_goals try omega
    refine semC_cutN (fun _ : Unit => St.of [(1, .ptr 1 0), (3, .own 30 0 (plA t (k + 1)).length 3), (4, i64 k)] [(1, .box [chs 0 t]), (30, .arr 91 3 ((plA t (k + 1)).map pl3))]) (fun _ => True) ?_ ?_
    · refine semC_loop (fun n : Nat => St.of [(1, .ptr 1 0), (3, .own 30 0 (pzN t k ls n 0).length 3), (4, i64 k), (5, i64 n)] [(1, .box [chs 0 t]), (30, .arr 91 3 ((pzN t k ls n 0).map pl3))]) (fun n => n ≤ ls.length) (fun n => ls.length - n) 0 (by simp) (entA [(1, some 1), (30, some 30)] (by (simp only [go_sem]) <;> simp [pzN_zero]) (by (simp only [go_sem, entH, entH1, nilArr, obOK]) <;> simp [pzN_zero])) ?_
      rintro n hn
      by_cases hnl : n < ls.length
      · have hltn : (n : Int) < t[k].lines.length := by rw [← hls]; omega
        have hr15 := b2 _ (List.getElem_mem hnl)
        have e0 : ∀ h : n < t[k].lines.length, t[k].lines[n]'h = ls[n] := fun h => by subst hls; rfl
        refine vc_sound _ _ _ ?_
        simp (maxSteps := 2000000) only [go_sem, hG, hOw, hltn, e0]
        (repeat' with_reducible first | refine And.intro ?_ ?_ | intro _ | refine exP ?_ ?_); all_goals try omega
        refine semC_cutN (fun _ : Unit => St.of [(1, .ptr 1 0), (3, .own 30 0 (pzN t k ls (n + 1) 0).length 3), (4, i64 k), (5, i64 n)] [(1, .box [chs 0 t]), (30, .arr 91 3 ((pzN t k ls (n + 1) 0).map pl3))]) (fun _ => True) ?_ ?_
        · refine semC_loop (fun j : Nat => St.of [(1, .ptr 1 0), (3, .own 30 0 (pzN t k ls n j).length 3), (4, i64 k), (5, i64 n), (6, i64 j)] [(1, .box [chs 0 t]), (30, .arr 91 3 ((pzN t k ls n j).map pl3))]) (fun j => j ≤ ls[n].length) (fun j => ls[n].length - j) 0 (by simp) (entA [(1, some 1), (30, some 30)]) ?_
          rintro j hj
          have h2 := al n j hnl (by omega)
          have hln : n < t[k].lines.length := by rw [← hls]; exact hnl
          refine vc_sound _ _ _ ?_
          simp (maxSteps := 2000000) only [go_sem, hG, hOw, e0]
          (repeat' with_reducible first | refine And.intro ?_ ?_ | intro _ | refine exP ?_ ?_); all_goals try omega
          · rename_i hjl
            refine ⟨j + 1, by omega, by omega, ?_⟩
            rw [pzN_succ]
            exact entA [(1, some 1), (30, some 45)] (by (simp only [go_sem]) <;> simp [pl3,i64]) (by (simp only [go_sem, entH, entH1, nilArr, obOK]) <;> simp [pl3,i64])
          · rename_i hge
            obtain rfl : j = ls[n].length := by omega
            rw [pzN_line t k ls n hnl]
            exact ⟨(), entA [(1, some 1), (30, some 30)]⟩
        rintro ⟨⟩ -
        simp only [go_sem, hG, hOw]
        (repeat' with_reducible first | refine And.intro ?_ ?_ | intro _ | refine exP ?_ ?_); all_goals try omega
        exact ⟨n + 1, by omega, by omega, entA [(1, some 1), (30, some 30)]⟩
      · obtain rfl : n = ls.length := by omega
        have hltn : ¬ (ls.length : Int) < t[k].lines.length := by rw [← hls]; omega
        rw [show pzN t k ls ls.length 0 = plA t (k + 1) by unfold pzN; rw [atN_full, hps]]
        refine vc_sound _ _ _ ?_
        simp (maxSteps := 2000000) only [go_sem, hG, hOw, hltn]
        (repeat' with_reducible first | refine And.intro ?_ ?_ | intro _ | refine exP ?_ ?_); all_goals try omega
        exact ⟨(), entA [(1, some 1), (30, some 30)]⟩
    rintro ⟨⟩ -
    simp only [go_sem, hG, hOw]
    (repeat' with_reducible first | refine And.intro ?_ ?_ | intro _ | refine exP ?_ ?_); all_goals try omega
    exact ⟨k + 1, by omega, by omega, entA [(1, some 1), (30, some 30)]⟩
  · obtain rfl : k = t.length := by omega
    refine vc_sound _ _ _ ?_; simp only [go_sem, hG, hOw]
    (repeat' with_reducible first | refine And.intro ?_ ?_ | intro _ | refine exP ?_ ?_); all_goals try omega
    all_goals exact .refl _
theorem RAll3_ok (t : List Ch) (hto : OKt t) (ht : textB t = true) (c : Cu) (hs : 0 ≤ c.s ∧ c.s ≤ 255) (hc : cutB c = true) : Gives Tryz.prog 71 [txE 0 t, .agg (cuC c)] (fun n => .tup [sls n (allSl c t t.length), i64 0]) := by
  have ht6 := (textB_bd ht).1
  obtain ⟨h1, h2⟩ := pl_sl c t t.length (Nat.le_refl _)
  have hpl := plA_len t ht t.length (Nat.le_refl _)
  have hc2 := hc
  simp only [cutB, Bool.and_eq_true] at hc2
  have hcw : 12 ≤ c.w ∧ c.w ≤ 80 := by simp only [inB, Bool.and_eq_true, decide_eq_true_eq] at hc2; omega
  have hA := RAsked_ok t hto c hs
  rw [show openE t c = 0 by simp [openE, ht, hc]] at hA
  have hP := RAllP_ok t ht
  obtain ⟨L, hL⟩ : ∃ L, L = plA t t.length := ⟨_, rfl⟩
  obtain ⟨S, hS⟩ : ∃ S, S = allSl c t t.length := ⟨_, rfl⟩
  rw [← hL] at hP h1 h2 hpl
  rw [← hS] at h1 h2 ⊢
  refine pure_intro (ow := fun _ => false) Tryz.func71 Tryz.ntmps71 rfl (by kernel_rfl) (by simp) rfl (by decide) fun G hG hOw hNm hB => ?_; simp only [go_sem, hG, hOw]
  refine call_pure hA (by first | exact Subs.refl _ | (repeat' (first | exact Subs.nil | exact Sub.refl _ | exact Sub.lo (Nat.zero_le _) | refine Subs.cons ?_ ?_ | refine Subs.agg ?_ | refine Subs.fp ?_ | refine Subs.tup ?_ | refine Sub.map (Nat.zero_le _) (fun _ => ?_)))) (by first | rfl | simp [allP, all0, pureV, pure0, *]) (by simp [chk, hG]) ?_
  simp only [go_sem, hG, hOw]
  (repeat' with_reducible first | refine And.intro ?_ ?_ | intro _ | refine exP ?_ ?_); all_goals try omega
  refine call_pure hP (by first | exact Subs.refl _ | (repeat' (first | exact Subs.nil | exact Sub.refl _ | exact Sub.lo (Nat.zero_le _) | refine Subs.cons ?_ ?_ | refine Subs.agg ?_ | refine Subs.fp ?_ | refine Subs.tup ?_ | refine Sub.map (Nat.zero_le _) (fun _ => ?_)))) (by first | rfl | simp [allP, all0, pureV, pure0, *]) (by simp [chk, hG]) ?_
  simp only [go_sem, hG, hOw]
  (repeat' with_reducible first | refine And.intro ?_ ?_ | intro _ | refine exP ?_ ?_); all_goals try omega
  refine semC_loop (fun i : Nat => St.of [(2, .ptr 2 0), (3, .ptr 3 0), (7, .own 30 0 (S.take i).length 6), (8, .lst G.lo 3 (L.map pl3)), (9, i64 i)] [(2, .box [chs 0 t]), (3, .box (cuC c)), (30, .arr 93 6 ((S.take i).map slC))]) (fun i => i ≤ L.length) (fun i => L.length - i) 0 (by simp) (entA [(2, some 2), (3, some 3), (30, none)] (by (simp only [go_sem]) <;> simp [List.take_zero]) (by (simp only [go_sem, entH, entH1, nilArr, obOK]) <;> simp [List.take_zero])) ?_
  rintro i hi
  by_cases hil : i < L.length
  · have hlt : (i : Int) < L.length := by omega
    obtain ⟨k, hk, m, hm, e1, e2⟩ := h2 i hil
    obtain ⟨b1, b2, b3, b4⟩ := chap_words ht k hk
    have hal := atF_len k t[k].lines 0
    have hR := RSlip_ok t ht c hc2.2 (by omega) k hk t[k].lines rfl m (by omega) hm
    rw [List.getElem?_eq_getElem hil, Option.some.injEq] at e1
    rw [← e1] at hR
    have hsl : i < S.length := by omega
    rw [List.getElem?_eq_getElem hsl, Option.some.injEq] at e2
    rw [← e2] at hR
    have et : S.take (i + 1) = S.take i ++ [S[i]] := by rw [List.take_add_one, List.getElem?_eq_getElem hsl]; rfl
    have etl : (S.take i).length ≤ 5000 := by rw [List.length_take]; omega
    obtain ⟨X, hX⟩ : ∃ X, X = S.take i := ⟨_, rfl⟩
    rw [← hX] at et etl
    refine vc_sound _ _ _ ?_
    rw [← hX]
    simp (maxSteps := 2000000) only [go_sem, hG, hOw, hlt]
    (repeat' with_reducible first | refine And.intro ?_ ?_ | intro _ | refine exP ?_ ?_); all_goals try omega
    refine semC_draw0 mixed (by kernel_rfl) ?_
    simp only [go_sem, hG, hOw]
    (repeat' with_reducible first | refine And.intro ?_ ?_ | intro _ | refine exP ?_ ?_); all_goals try omega
    refine ⟨_, callGives hR (by first | exact Subs.refl _ | (repeat' (first | exact Subs.nil | exact Sub.refl _ | exact Sub.lo (Nat.zero_le _) | refine Subs.cons ?_ ?_ | refine Subs.agg ?_ | refine Subs.fp ?_ | refine Subs.tup ?_ | refine Sub.map (Nat.zero_le _) (fun _ => ?_)))) (by first | rfl | simp [allP, all0, pureV, pure0, *]), ?_⟩
    simp only [go_sem, hG, hOw]
    (repeat' with_reducible first | refine And.intro ?_ ?_ | intro _ | refine exP ?_ ?_); all_goals try omega
    refine ⟨i + 1, by omega, by omega, ?_⟩
    have hmin : min (i + 1) S.length = X.length + 1 := by rw [hX, List.length_take]; omega
    rw [et]
    exact entA [(2, some 2), (3, some 3), (30, some 33)] (by (simp only [go_sem]) <;> simp [slC,hmin,i64]) (by (simp only [go_sem, entH, entH1, nilArr, obOK]) <;> simp [slC,hmin,i64])
  · obtain rfl : i = L.length := by omega
    have hlt : ¬ (L.length : Int) < L.length := by omega
    have eS : S.take L.length = S := List.take_of_length_le (by omega)
    rw [eS]
    refine vc_sound _ _ _ ?_
    simp (maxSteps := 2000000) only [go_sem, hG, hOw, hlt]
    (repeat' with_reducible first | refine And.intro ?_ ?_ | intro _ | refine exP ?_ ?_); all_goals try omega
    all_goals exact .refl _
end Go.Proofs.YtfnohnjnncjidaaGreatDoor
