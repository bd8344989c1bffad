import Derived.Test.YtagfopbijboajaaGreatDoorQY23
import Derived.Test.YtagfopbijboajaaGreatDoorQY36
import Derived.Test.YtagfopbijboajaaGreatDoorQY37
import Derived.Test.YtagfopbijboajaaGreatDoorQY43
import Derived.Test.YtagfopbijboajaaGreatDoorQY48
namespace Go.Proofs.YtagfopbijboajaaGreatDoor
open Go Pm
set_option linter.unusedSimpArgs false
set_option linter.unusedVariables false
set_option maxHeartbeats 4000000
set_option maxRecDepth 100000
def htF (lo : Nat) (r : Ro) (A : List Int) (W : List Ln) (i : Nat) : List (Nat × V) := [(1, .ptr 1 0), (3, bl true), (4, ints 0 A), (6, .ptr 6 0), (7, .own 508 0 W.length 1), (42, ses lo r.sheets), (43, i64 r.sheets.length), (44, i64 i)]
def htH (lo : Nat) (r : Ro) (W : List Ln) : List (Nat × OB) := [(1, .box (roC 0 r)), (6, .box [.own 500 0 r.text.length 2, hps lo r.helpers, srs lo r.shares, ses lo r.sheets]), (508, .arr 44 1 (W.map (lnE lo))), (500, .arx 46 2 (rw6 r.text 501 502 503 504 505 506 r.text.length)), (501, .arr 44 1 (A6 lo r.text r.text.length 0)), (502, .arr 44 1 (A6 lo r.text r.text.length 1)), (503, .arr 44 1 (A6 lo r.text r.text.length 2)), (504, .arr 44 1 (A6 lo r.text r.text.length 3)), (505, .arr 44 1 (A6 lo r.text r.text.length 4)), (506, .arr 44 1 (A6 lo r.text r.text.length 5))]
attribute [go_sem] htF htH
theorem htRound (r : Ro) (hg : Good r) (i : Nat) (hi : i < r.shares.length) {G : Gh} (hG : G.n = 173) (hOw : G.ow = fun i => [94].contains i) (hNm : G.nm = []) {Q : Exit → St → Prop}
    (hend : ∀ s, Ent G s (St.of (htF G.lo r (againP r) (ownW r (againP r) (i + 1)) i) (htH G.lo r (ownW r (againP r) (i + 1)))) → Q .normal s ∧ Q (.exit 1) s) :
    SemL Tryz.prog G (flat (bkOf 1 Tryz.f3.body)) (St.of (htF G.lo r (againP r) (ownW r (againP r) i) i) (htH G.lo r (ownW r (againP r) i))) Q := by
  have hix : i < r.sheets.length := by rw [hg.xn]; exact hi
  have hsn := hg.sn
  have hxn := hg.xn
  have hll := hg.ll
  have hs := hg.s i hi
  have hok := (hg.ok.x.2 _ (List.getElem_mem hix))
  obtain ⟨hok1, hok2⟩ := hok
  have hW0 := ownW_succ r (againP r) hix hi
  have hkp := kp_at (A := againP r) hix
  have hlen := ownW_len r (againP r) i
  have hlen1 := ownW_len r (againP r) (i + 1)
  obtain ⟨W, hW⟩ : ∃ W, W = ownW r (againP r) i := ⟨_, rfl⟩
  obtain ⟨W1, hW1⟩ : ∃ W1, W1 = ownW r (againP r) (i + 1) := ⟨_, rfl⟩
  rw [← hW1] at hW0 hlen1 hend
  rw [← hW] at hW0 hlen ⊢
  have hAm := againP_mem r hg
  have hone := kept_one hg hi
  have hhas := has_ok (againP r) i
  obtain ⟨A, hA⟩ : ∃ A, A = againP r := ⟨_, rfl⟩
  rw [← hA] at hAm hkp hhas hend hone hW0 ⊢
  unfold Tryz.f3
  simp only [rgOf, bkOf, rgO, bkO, orElse, Option.bind_some, Option.getD_some, reduceIte, Nat.reduceEqDiff, reduceCtorEq]
  simp only [flat, List.cons_append, List.nil_append, List.append_assoc, List.take_succ_cons, List.take_zero, List.take_nil, List.drop_succ_cons, List.drop_zero]
  have off : kpB r A i = false → W1 = W := fun h => by rw [hW0, if_neg (by rw [h]; simp)]
  refine vcN_sound 3 _ _ ?_
  simp only [go_sem, hG, hOw]
  (repeat' with_reducible first | refine And.intro ?_ ?_ | intro _ | refine exP ?_ ?_); all_goals try omega
  · rename_i hb
    refine call_pure hhas (by first | exact Subs.refl _ | (repeat' (first | exact Subs.nil | exact Sub.refl _ | exact Sub.lo (Nat.zero_le _) | refine Subs.cons ?_ ?_ | refine Subs.agg ?_ | refine Subs.fp ?_ | refine Subs.tup ?_ | refine Sub.map (Nat.zero_le _) (fun _ => ?_)))) (by first | rfl | simp [allP, all0, pureV, pure0, *]) (by simp [chk, hG]) ?_
    simp only [go_sem, hG, hOw]
    (repeat' with_reducible first | refine And.intro ?_ ?_ | intro _ | refine exP ?_ ?_); all_goals try omega
    · rename_i hh
      have hk : kpB r A i = false := by rw [hkp]; unfold hasL; rw [hh]; simp
      refine (hend _ ?_).2
      rw [off hk]
      exact ent_of [(1, some 1), (6, some 6), (508, some 508), (500, some 500), (501, some 501), (502, some 502), (503, some 503), (504, some 504), (505, some 505), (506, some 506)] (by (simp only [go_sem]) <;> simp [htH,rw6_ren,lkR]) (by (simp only [go_sem, entH, entH1, nilArr, obOK]) <;> simp [htH,rw6_ren,lkR]) (by simp [injR, apart]) (by simp [coverR, usH, htH,rw6_ren,lkR]) (by simp [hNm, lkR, names])
    · rename_i hh
      have hk : kpB r A i = true := by rw [hkp]; unfold hasL; rw [hb, hh]; rfl
      obtain ⟨b1, b2⟩ := hone hk
      rw [if_pos hk] at hW0
      refine vcN_sound 2 _ _ ?_
      simp only [go_sem, hG, hOw]
      (repeat' with_reducible first | refine And.intro ?_ ?_ | intro _ | refine exP ?_ ?_); all_goals try omega
      refine semC_draw0 mixed (by kernel_rfl) ?_
      simp only [go_sem, hG, hOw]
      (repeat' with_reducible first | refine And.intro ?_ ?_ | intro _ | refine exP ?_ ?_); all_goals try omega
      obtain ⟨L, hL⟩ : ∃ L, L = r.sheets[i].lines := ⟨_, rfl⟩
      obtain ⟨fr, hfr⟩ : ∃ fr, fr = r.shares[i].fr.toNat := ⟨_, rfl⟩
      have hfr2 : r.shares[i].fr = fr := by omega
      rw [← hL, ← hfr] at hW0
      rw [← hL] at hok1 hok2 b2
      have hwl := wr1_len W fr L
      refine vcN_sound 2 _ _ ?_
      simp (maxSteps := 2000000) only [go_sem, hG, hOw, ← hL]
      (repeat' with_reducible first | refine And.intro ?_ ?_ | intro _ | refine exP ?_ ?_); all_goals try omega
      refine semC_loop (fun k : Nat => St.of (htF G.lo r A W i ++ [(8, i64 i), (9, .ptr 9 0), (76, lns G.lo L), (77, i64 L.length), (78, i64 k)]) (htH G.lo r (wr1 W fr L k) ++ [(9, .box [bl true, lns G.lo L])])) (fun k => k ≤ L.length) (fun k => L.length - k) 0 (by simp) (ent_of [(1, some 1), (6, some 6), (508, some 508), (500, some 500), (501, some 501), (502, some 502), (503, some 503), (504, some 504), (505, some 505), (506, some 506), (9, some 9)] (by (simp only [go_sem]) <;> simp [hb,htH,wr1,rw6_ren,lkR]) (by (simp only [go_sem, entH, entH1, nilArr, obOK]) <;> simp [hb,htH,wr1,rw6_ren,lkR]) (by simp [injR, apart]) (by simp [coverR, usH, hb,htH,wr1,rw6_ren,lkR]) (by simp [hNm, lkR, names])) ?_
      rintro k hk
      have hwk := hwl k
      refine vc_sound _ _ _ ?_
      simp (maxSteps := 2000000) only [go_sem, hG, hOw, hfr2, hwk]
      (repeat' with_reducible first | refine And.intro ?_ ?_ | intro _ | refine exP ?_ ?_); all_goals try omega
      · rename_i hlt
        have hkl : k < L.length := by omega
        have hidx : ((fr : Int) + (k : Int)).toNat = fr + k := by omega
        have hr1 := (hok2 _ (List.getElem_mem hkl)).1
        refine semC_drawT [(85, [1]), (95, [508])] mixed (by kernel_rfl) ?_
        simp (maxSteps := 2000000) only [go_sem, hG, hOw, hfr2, hwk, hidx]
        (repeat' with_reducible first | refine And.intro ?_ ?_ | intro _ | refine exP ?_ ?_); all_goals try omega
        have hset : (List.map (lnE G.lo) (wr1 W fr L k)).set (fr + k) [V.lst G.lo 1 (List.map strE L[k])] = List.map (lnE G.lo) (wr1 W fr L (k + 1)) := by
          show _ = List.map (lnE G.lo) ((wr1 W fr L k).set (fr + k) (L.getD k []))
          rw [List.map_set, List.getD_eq_getElem?_getD, List.getElem?_eq_getElem hkl]
          rfl
        rw [hset]
        exact ⟨k + 1, by omega, by omega, ent_of [(1, some 1), (6, some 6), (508, some 508), (500, some 500), (501, some 501), (502, some 502), (503, some 503), (504, some 504), (505, some 505), (506, some 506), (9, some 9)] (by (simp only [go_sem]) <;> simp [htH,rw6_ren,lkR]) (by (simp only [go_sem, entH, entH1, nilArr, obOK]) <;> simp [htH,rw6_ren,lkR]) (by simp [injR, apart]) (by simp [coverR, usH, htH,rw6_ren,lkR]) (by simp [hNm, lkR, names])⟩
      · rename_i hge
        obtain rfl : k = L.length := by omega
        rw [← hW0]
        exact fun a w hs => ⟨_, (hend _ (ent_of [(1, some 1), (6, some 6), (508, some 508), (500, some 500), (501, some 501), (502, some 502), (503, some 503), (504, some 504), (505, some 505), (506, some 506)] (by (simp only [go_sem]) <;> simp [htH,hlen,hlen1,rw6_ren,lkR]) (by (simp only [go_sem, entH, entH1, nilArr, obOK]) <;> simp [htH,hlen,hlen1,rw6_ren,lkR]) (by simp [injR, apart]) (by simp [coverR, usH, htH,hlen,hlen1,rw6_ren,lkR]) (by simp [hNm, lkR, names]))).1, hs⟩
  · rename_i hb
    have hk : kpB r A i = false := by rw [hkp, hb]; rfl
    refine (hend _ ?_).2
    rw [off hk]
    exact ent_of [(1, some 1), (6, some 6), (508, some 508), (500, some 500), (501, some 501), (502, some 502), (503, some 503), (504, some 504), (505, some 505), (506, some 506)] (by (simp only [go_sem]) <;> simp [htH,rw6_ren,lkR]) (by (simp only [go_sem, entH, entH1, nilArr, obOK]) <;> simp [htH,rw6_ren,lkR]) (by simp [injR, apart]) (by simp [coverR, usH, htH,rw6_ren,lkR]) (by simp [hNm, lkR, names])
open Go Pm
set_option maxHeartbeats 4000000
set_option maxRecDepth 100000
def nB (W : List Ln) (t : List Ch) (j : Nat) : List Ln := (W.drop (LLk t j).length).take (chA t j).lines.length
def C6 (lo : Nat) (W : List Ln) (t : List Ch) (k j : Nat) : List (List V) := if j < k then (nB W t j).map (lnE lo) else A6 lo t t.length j
def htG (r : Ro) (A : List Int) (W : List Ln) (m k : Nat) : List (Nat × V) := [(1, .ptr 1 0), (3, bl true), (4, ints 0 A), (6, .ptr 6 0), (7, .own 508 0 W.length 1), (12, i64 (LLk r.text m).length), (100, .own 500 0 r.text.length 2), (101, i64 r.text.length), (102, i64 k)]
def htI (lo : Nat) (r : Ro) (W : List Ln) (k : Nat) : List (Nat × OB) := [(1, .box (roC 0 r)), (6, .box [.own 500 0 r.text.length 2, hps lo r.helpers, srs lo r.shares, ses lo r.sheets]), (508, .arr 44 1 (W.map (lnE lo))), (500, .arx 46 2 (rw6 r.text 501 502 503 504 505 506 r.text.length)), (501, .arr 44 1 (C6 lo W r.text k 0)), (502, .arr 44 1 (C6 lo W r.text k 1)), (503, .arr 44 1 (C6 lo W r.text k 2)), (504, .arr 44 1 (C6 lo W r.text k 3)), (505, .arr 44 1 (C6 lo W r.text k 4)), (506, .arr 44 1 (C6 lo W r.text k 5))]
attribute [go_sem] htG htI
theorem LLk_bd (t : List Ch) {k : Nat} (h : k < t.length) : (LLk t k).length + t[k].lines.length ≤ (linesL t).length := by
  have h1 : linesL t = LLk t k ++ linesL (t.drop k) := by
    unfold LLk linesL
    rw [← List.flatMap_append, List.take_append_drop]
  have h2 : linesL (t.drop k) = t[k].lines ++ linesL (t.drop (k + 1)) := by
    unfold linesL
    rw [List.drop_eq_getElem_cons h]
    rfl
  rw [h1, h2]
  simp only [List.length_append]
  omega
theorem set_td {α : Type} (A B : List α) (n : Nat) (h1 : n < A.length) (h2 : A.length = B.length) : (A.take n ++ B.drop n).set n A[n] = A.take (n + 1) ++ B.drop (n + 1) := by
  have e : A.take (n + 1) = A.take n ++ [A[n]] := by rw [List.take_add_one, List.getElem?_eq_getElem h1]; rfl
  rw [List.set_append_right _ _ (by rw [List.length_take]; omega), List.length_take, Nat.min_eq_left (by omega), Nat.sub_self, List.drop_eq_getElem_cons (by omega : n < B.length), List.set_cons_zero, e, List.append_assoc]
  rfl
theorem htChap0 (r : Ro) (hg : Good r) (A : List Int) (W : List Ln) (hWl : W.length = (linesL r.text).length) (h6 : r.text.length ≤ 6) (hK : 0 < r.text.length) {G : Gh} (hG : G.n = 173) (hOw : G.ow = fun i => [94].contains i) (hNm : G.nm = []) {Q : Exit → St → Prop}
    (hend : ∀ s, Ent G s (St.of (htG r A W 1 0) (htI G.lo r W 1)) → Q .normal s) :
    SemL Tryz.prog G (flat (bkOf 5 Tryz.f3.body)) (St.of (htG r A W 0 0) (htI G.lo r W 0)) Q := by
  have hll := hg.ll
  have hlen6 := rw6_len r.text 501 502 503 504 505 506 h6
  have hget := rw6_get0 r.text 501 502 503 504 505 506 hK h6
  have hch : chA r.text 0 = r.text[0] := chA_lt hK
  have hC : C6 G.lo W r.text 0 0 = (chA r.text 0).lines.map (lnE G.lo) := by unfold C6; rw [if_neg (by omega)]; exact A6_lt G.lo hK
  have hC1 : C6 G.lo W r.text 1 0 = (nB W r.text 0).map (lnE G.lo) := by unfold C6; rw [if_pos (by omega)]
  have hp := LLk_bd r.text hK
  rw [← hWl] at hp hll
  have hLs : (LLk r.text 1).length = (LLk r.text 0).length + (chA r.text 0).lines.length := by rw [LLk_succ hK, List.length_append, hch]
  rw [← hch] at hp
  have hnl : (nB W r.text 0).length = (chA r.text 0).lines.length := by unfold nB; rw [List.length_take, List.length_drop]; omega
  have hml : (chA r.text 0).lines.length ≤ 40 := by rw [hch]; exact (hg.ok.t.2 _ (List.getElem_mem hK)).1
  obtain ⟨p, hpp⟩ : ∃ p, p = (LLk r.text 0).length := ⟨_, rfl⟩
  rw [← hpp] at hp hLs
  unfold Tryz.f3
  simp only [rgOf, bkOf, rgO, bkO, orElse, Option.bind_some, Option.getD_some, reduceIte, Nat.reduceEqDiff, reduceCtorEq]
  simp only [flat, List.cons_append, List.nil_append, List.append_assoc, List.take_succ_cons, List.take_zero, List.take_nil, List.drop_succ_cons, List.drop_zero]
  refine vcN_sound 3 _ _ ?_
  simp (maxSteps := 2000000) only [go_sem, hG, hOw, hget, hlen6, hC, tn0, ← hpp]
  (repeat' with_reducible first | refine And.intro ?_ ?_ | intro _ | refine exP ?_ ?_); all_goals try omega
  refine semC_loop (fun n : Nat => St.of [(1, .ptr 1 0), (3, bl true), (4, ints 0 A), (6, .ptr 6 0), (7, .own 508 0 W.length 1), (12, i64 (p + n : Nat)), (100, .own 500 0 r.text.length 2), (101, i64 r.text.length), (102, i64 (0 : Nat)), (14, .ptr 14 0), (107, .own 501 0 (chA r.text 0).lines.length 1), (108, i64 (chA r.text 0).lines.length), (109, i64 n)]
    [(1, .box (roC 0 r)), (6, .box [.own 500 0 r.text.length 2, hps G.lo r.helpers, srs G.lo r.shares, ses G.lo r.sheets]), (508, .arr 44 1 (W.map (lnE G.lo))), (500, .arx 46 2 (rw6 r.text 501 502 503 504 505 506 r.text.length)), (501, .arr 44 1 (((nB W r.text 0).take n ++ (chA r.text 0).lines.drop n).map (lnE G.lo))), (502, .arr 44 1 (C6 G.lo W r.text 0 1)), (503, .arr 44 1 (C6 G.lo W r.text 0 2)), (504, .arr 44 1 (C6 G.lo W r.text 0 3)), (505, .arr 44 1 (C6 G.lo W r.text 0 4)), (506, .arr 44 1 (C6 G.lo W r.text 0 5)), (14, .box [i64 (chA r.text 0).id, .own 501 0 (chA r.text 0).lines.length 1])]) (fun n => n ≤ (chA r.text 0).lines.length) (fun n => (chA r.text 0).lines.length - n) 0 (by simp) (ent_of [(1, some 1), (6, some 6), (508, some 508), (500, some 500), (501, some 501), (502, some 502), (503, some 503), (504, some 504), (505, some 505), (506, some 506), (14, some 14)] (by (simp only [go_sem]) <;> simp [htI,hC,rw6_ren,lkR]) (by (simp only [go_sem, entH, entH1, nilArr, obOK]) <;> simp [htI,hC,rw6_ren,lkR]) (by simp [injR, apart]) (by simp [coverR, usH, htI,hC,rw6_ren,lkR]) (by simp [hNm, lkR, names])) ?_
  rintro n hn
  refine vc_sound _ _ _ ?_
  simp (maxSteps := 2000000) only [go_sem, hG, hOw, tn0]
  (repeat' with_reducible first | refine And.intro ?_ ?_ | intro _ | refine exP ?_ ?_); all_goals try omega
  · rename_i hlt
    have hnm : n < (chA r.text 0).lines.length := by omega
    have hpn : p + n < W.length := by omega
    have hmin : min n (nB W r.text 0).length = n := by omega
    have hset : (List.map (lnE G.lo) (List.take n (nB W r.text 0) ++ List.drop n (chA r.text 0).lines)).set n [V.lst G.lo 1 (List.map strE W[p + n])] = List.map (lnE G.lo) (List.take (n + 1) (nB W r.text 0) ++ List.drop (n + 1) (chA r.text 0).lines) := by
      have e : (nB W r.text 0)[n]'(by omega) = W[p + n] := by
        unfold nB
        rw [List.getElem_take, List.getElem_drop]
        congr 1
        rw [← hpp]
      rw [← set_td (nB W r.text 0) _ n (by omega) hnl, List.map_set, e]
      rfl
    refine semC_drawT [(113, [14]), (118, [508]), (119, [501])] mixed (by kernel_rfl) ?_
    simp (maxSteps := 2000000) only [go_sem, hG, hOw, hset]
    (repeat' with_reducible first | refine And.intro ?_ ?_ | intro _ | refine exP ?_ ?_); all_goals try omega
    refine ⟨n + 1, by omega, by omega, ?_⟩
    have e1 : ((p + (n + 1) : Nat) : Int) = ((p + n : Nat) : Int) + 1 := by omega
    rw [e1]
    exact ent_of [(1, some 1), (6, some 6), (508, some 508), (500, some 500), (501, some 501), (502, some 502), (503, some 503), (504, some 504), (505, some 505), (506, some 506), (14, some 14)] (by (simp only [go_sem]) <;> simp [htI,rw6_ren,lkR]) (by (simp only [go_sem, entH, entH1, nilArr, obOK]) <;> simp [htI,rw6_ren,lkR]) (by simp [injR, apart]) (by simp [coverR, usH, htI,rw6_ren,lkR]) (by simp [hNm, lkR, names])
  · rename_i hge
    obtain rfl : n = (chA r.text 0).lines.length := by omega
    have hfin : List.take (chA r.text 0).lines.length (nB W r.text 0) ++ List.drop (chA r.text 0).lines.length (chA r.text 0).lines = nB W r.text 0 := by
      rw [List.take_of_length_le (by omega), List.drop_of_length_le (Nat.le_refl _), List.append_nil]
    refine fun a w hs => ⟨_, hend _ ?_, hs⟩
    rw [hfin]
    unfold htG
    rw [hLs]
    exact ent_of [(1, some 1), (6, some 6), (508, some 508), (500, some 500), (501, some 501), (502, some 502), (503, some 503), (504, some 504), (505, some 505), (506, some 506)] (by (simp only [go_sem]) <;> simp [htI,C6,rw6_ren,lkR]) (by (simp only [go_sem, entH, entH1, nilArr, obOK]) <;> simp [htI,C6,rw6_ren,lkR]) (by simp [injR, apart]) (by simp [coverR, usH, htI,C6,rw6_ren,lkR]) (by simp [hNm, lkR, names])
theorem htChap1 (r : Ro) (hg : Good r) (A : List Int) (W : List Ln) (hWl : W.length = (linesL r.text).length) (h6 : r.text.length ≤ 6) (hK : 1 < r.text.length) {G : Gh} (hG : G.n = 173) (hOw : G.ow = fun i => [94].contains i) (hNm : G.nm = []) {Q : Exit → St → Prop}
    (hend : ∀ s, Ent G s (St.of (htG r A W 2 1) (htI G.lo r W 2)) → Q .normal s) :
    SemL Tryz.prog G (flat (bkOf 5 Tryz.f3.body)) (St.of (htG r A W 1 1) (htI G.lo r W 1)) Q := by
  have hll := hg.ll
  have hlen6 := rw6_len r.text 501 502 503 504 505 506 h6
  have hget := rw6_get1 r.text 501 502 503 504 505 506 hK h6
  have hch : chA r.text 1 = r.text[1] := chA_lt hK
  have hC : C6 G.lo W r.text 1 1 = (chA r.text 1).lines.map (lnE G.lo) := by unfold C6; rw [if_neg (by omega)]; exact A6_lt G.lo hK
  have hC1 : C6 G.lo W r.text 2 1 = (nB W r.text 1).map (lnE G.lo) := by unfold C6; rw [if_pos (by omega)]
  have hp := LLk_bd r.text hK
  rw [← hWl] at hp hll
  have hLs : (LLk r.text 2).length = (LLk r.text 1).length + (chA r.text 1).lines.length := by rw [LLk_succ hK, List.length_append, hch]
  rw [← hch] at hp
  have hnl : (nB W r.text 1).length = (chA r.text 1).lines.length := by unfold nB; rw [List.length_take, List.length_drop]; omega
  have hml : (chA r.text 1).lines.length ≤ 40 := by rw [hch]; exact (hg.ok.t.2 _ (List.getElem_mem hK)).1
  obtain ⟨p, hpp⟩ : ∃ p, p = (LLk r.text 1).length := ⟨_, rfl⟩
  rw [← hpp] at hp hLs
  unfold Tryz.f3
  simp only [rgOf, bkOf, rgO, bkO, orElse, Option.bind_some, Option.getD_some, reduceIte, Nat.reduceEqDiff, reduceCtorEq]
  simp only [flat, List.cons_append, List.nil_append, List.append_assoc, List.take_succ_cons, List.take_zero, List.take_nil, List.drop_succ_cons, List.drop_zero]
  refine vcN_sound 3 _ _ ?_
  simp (maxSteps := 2000000) only [go_sem, hG, hOw, hget, hlen6, hC, tn1, ← hpp]
  (repeat' with_reducible first | refine And.intro ?_ ?_ | intro _ | refine exP ?_ ?_); all_goals try omega
  refine semC_loop (fun n : Nat => St.of [(1, .ptr 1 0), (3, bl true), (4, ints 0 A), (6, .ptr 6 0), (7, .own 508 0 W.length 1), (12, i64 (p + n : Nat)), (100, .own 500 0 r.text.length 2), (101, i64 r.text.length), (102, i64 (1 : Nat)), (14, .ptr 14 0), (107, .own 502 0 (chA r.text 1).lines.length 1), (108, i64 (chA r.text 1).lines.length), (109, i64 n)]
    [(1, .box (roC 0 r)), (6, .box [.own 500 0 r.text.length 2, hps G.lo r.helpers, srs G.lo r.shares, ses G.lo r.sheets]), (508, .arr 44 1 (W.map (lnE G.lo))), (500, .arx 46 2 (rw6 r.text 501 502 503 504 505 506 r.text.length)), (501, .arr 44 1 (C6 G.lo W r.text 1 0)), (502, .arr 44 1 (((nB W r.text 1).take n ++ (chA r.text 1).lines.drop n).map (lnE G.lo))), (503, .arr 44 1 (C6 G.lo W r.text 1 2)), (504, .arr 44 1 (C6 G.lo W r.text 1 3)), (505, .arr 44 1 (C6 G.lo W r.text 1 4)), (506, .arr 44 1 (C6 G.lo W r.text 1 5)), (14, .box [i64 (chA r.text 1).id, .own 502 0 (chA r.text 1).lines.length 1])]) (fun n => n ≤ (chA r.text 1).lines.length) (fun n => (chA r.text 1).lines.length - n) 0 (by simp) (ent_of [(1, some 1), (6, some 6), (508, some 508), (500, some 500), (501, some 501), (502, some 502), (503, some 503), (504, some 504), (505, some 505), (506, some 506), (14, some 14)] (by (simp only [go_sem]) <;> simp [htI,hC,rw6_ren,lkR]) (by (simp only [go_sem, entH, entH1, nilArr, obOK]) <;> simp [htI,hC,rw6_ren,lkR]) (by simp [injR, apart]) (by simp [coverR, usH, htI,hC,rw6_ren,lkR]) (by simp [hNm, lkR, names])) ?_
  rintro n hn
  refine vc_sound _ _ _ ?_
  simp (maxSteps := 2000000) only [go_sem, hG, hOw, tn1]
  (repeat' with_reducible first | refine And.intro ?_ ?_ | intro _ | refine exP ?_ ?_); all_goals try omega
  · rename_i hlt
    have hnm : n < (chA r.text 1).lines.length := by omega
    have hpn : p + n < W.length := by omega
    have hmin : min n (nB W r.text 1).length = n := by omega
    have hset : (List.map (lnE G.lo) (List.take n (nB W r.text 1) ++ List.drop n (chA r.text 1).lines)).set n [V.lst G.lo 1 (List.map strE W[p + n])] = List.map (lnE G.lo) (List.take (n + 1) (nB W r.text 1) ++ List.drop (n + 1) (chA r.text 1).lines) := by
      have e : (nB W r.text 1)[n]'(by omega) = W[p + n] := by
        unfold nB
        rw [List.getElem_take, List.getElem_drop]
        congr 1
        rw [← hpp]
      rw [← set_td (nB W r.text 1) _ n (by omega) hnl, List.map_set, e]
      rfl
    refine semC_drawT [(113, [14]), (118, [508]), (119, [502])] mixed (by kernel_rfl) ?_
    simp (maxSteps := 2000000) only [go_sem, hG, hOw, hset]
    (repeat' with_reducible first | refine And.intro ?_ ?_ | intro _ | refine exP ?_ ?_); all_goals try omega
    refine ⟨n + 1, by omega, by omega, ?_⟩
    have e1 : ((p + (n + 1) : Nat) : Int) = ((p + n : Nat) : Int) + 1 := by omega
    rw [e1]
    exact ent_of [(1, some 1), (6, some 6), (508, some 508), (500, some 500), (501, some 501), (502, some 502), (503, some 503), (504, some 504), (505, some 505), (506, some 506), (14, some 14)] (by (simp only [go_sem]) <;> simp [htI,rw6_ren,lkR]) (by (simp only [go_sem, entH, entH1, nilArr, obOK]) <;> simp [htI,rw6_ren,lkR]) (by simp [injR, apart]) (by simp [coverR, usH, htI,rw6_ren,lkR]) (by simp [hNm, lkR, names])
  · rename_i hge
    obtain rfl : n = (chA r.text 1).lines.length := by omega
    have hfin : List.take (chA r.text 1).lines.length (nB W r.text 1) ++ List.drop (chA r.text 1).lines.length (chA r.text 1).lines = nB W r.text 1 := by
      rw [List.take_of_length_le (by omega), List.drop_of_length_le (Nat.le_refl _), List.append_nil]
    refine fun a w hs => ⟨_, hend _ ?_, hs⟩
    rw [hfin]
    unfold htG
    rw [hLs]
    exact ent_of [(1, some 1), (6, some 6), (508, some 508), (500, some 500), (501, some 501), (502, some 502), (503, some 503), (504, some 504), (505, some 505), (506, some 506)] (by (simp only [go_sem]) <;> simp [htI,C6,rw6_ren,lkR]) (by (simp only [go_sem, entH, entH1, nilArr, obOK]) <;> simp [htI,C6,rw6_ren,lkR]) (by simp [injR, apart]) (by simp [coverR, usH, htI,C6,rw6_ren,lkR]) (by simp [hNm, lkR, names])
theorem htChap2 (r : Ro) (hg : Good r) (A : List Int) (W : List Ln) (hWl : W.length = (linesL r.text).length) (h6 : r.text.length ≤ 6) (hK : 2 < r.text.length) {G : Gh} (hG : G.n = 173) (hOw : G.ow = fun i => [94].contains i) (hNm : G.nm = []) {Q : Exit → St → Prop}
    (hend : ∀ s, Ent G s (St.of (htG r A W 3 2) (htI G.lo r W 3)) → Q .normal s) :
    SemL Tryz.prog G (flat (bkOf 5 Tryz.f3.body)) (St.of (htG r A W 2 2) (htI G.lo r W 2)) Q := by
  have hll := hg.ll
  have hlen6 := rw6_len r.text 501 502 503 504 505 506 h6
  have hget := rw6_get2 r.text 501 502 503 504 505 506 hK h6
  have hch : chA r.text 2 = r.text[2] := chA_lt hK
  have hC : C6 G.lo W r.text 2 2 = (chA r.text 2).lines.map (lnE G.lo) := by unfold C6; rw [if_neg (by omega)]; exact A6_lt G.lo hK
  have hC1 : C6 G.lo W r.text 3 2 = (nB W r.text 2).map (lnE G.lo) := by unfold C6; rw [if_pos (by omega)]
  have hp := LLk_bd r.text hK
  rw [← hWl] at hp hll
  have hLs : (LLk r.text 3).length = (LLk r.text 2).length + (chA r.text 2).lines.length := by rw [LLk_succ hK, List.length_append, hch]
  rw [← hch] at hp
  have hnl : (nB W r.text 2).length = (chA r.text 2).lines.length := by unfold nB; rw [List.length_take, List.length_drop]; omega
  have hml : (chA r.text 2).lines.length ≤ 40 := by rw [hch]; exact (hg.ok.t.2 _ (List.getElem_mem hK)).1
  obtain ⟨p, hpp⟩ : ∃ p, p = (LLk r.text 2).length := ⟨_, rfl⟩
  rw [← hpp] at hp hLs
  unfold Tryz.f3
  simp only [rgOf, bkOf, rgO, bkO, orElse, Option.bind_some, Option.getD_some, reduceIte, Nat.reduceEqDiff, reduceCtorEq]
  simp only [flat, List.cons_append, List.nil_append, List.append_assoc, List.take_succ_cons, List.take_zero, List.take_nil, List.drop_succ_cons, List.drop_zero]
  refine vcN_sound 3 _ _ ?_
  simp (maxSteps := 2000000) only [go_sem, hG, hOw, hget, hlen6, hC, tn2, ← hpp]
  (repeat' with_reducible first | refine And.intro ?_ ?_ | intro _ | refine exP ?_ ?_); all_goals try omega
  refine semC_loop (fun n : Nat => St.of [(1, .ptr 1 0), (3, bl true), (4, ints 0 A), (6, .ptr 6 0), (7, .own 508 0 W.length 1), (12, i64 (p + n : Nat)), (100, .own 500 0 r.text.length 2), (101, i64 r.text.length), (102, i64 (2 : Nat)), (14, .ptr 14 0), (107, .own 503 0 (chA r.text 2).lines.length 1), (108, i64 (chA r.text 2).lines.length), (109, i64 n)]
    [(1, .box (roC 0 r)), (6, .box [.own 500 0 r.text.length 2, hps G.lo r.helpers, srs G.lo r.shares, ses G.lo r.sheets]), (508, .arr 44 1 (W.map (lnE G.lo))), (500, .arx 46 2 (rw6 r.text 501 502 503 504 505 506 r.text.length)), (501, .arr 44 1 (C6 G.lo W r.text 2 0)), (502, .arr 44 1 (C6 G.lo W r.text 2 1)), (503, .arr 44 1 (((nB W r.text 2).take n ++ (chA r.text 2).lines.drop n).map (lnE G.lo))), (504, .arr 44 1 (C6 G.lo W r.text 2 3)), (505, .arr 44 1 (C6 G.lo W r.text 2 4)), (506, .arr 44 1 (C6 G.lo W r.text 2 5)), (14, .box [i64 (chA r.text 2).id, .own 503 0 (chA r.text 2).lines.length 1])]) (fun n => n ≤ (chA r.text 2).lines.length) (fun n => (chA r.text 2).lines.length - n) 0 (by simp) (ent_of [(1, some 1), (6, some 6), (508, some 508), (500, some 500), (501, some 501), (502, some 502), (503, some 503), (504, some 504), (505, some 505), (506, some 506), (14, some 14)] (by (simp only [go_sem]) <;> simp [htI,hC,rw6_ren,lkR]) (by (simp only [go_sem, entH, entH1, nilArr, obOK]) <;> simp [htI,hC,rw6_ren,lkR]) (by simp [injR, apart]) (by simp [coverR, usH, htI,hC,rw6_ren,lkR]) (by simp [hNm, lkR, names])) ?_
  rintro n hn
  refine vc_sound _ _ _ ?_
  simp (maxSteps := 2000000) only [go_sem, hG, hOw, tn2]
  (repeat' with_reducible first | refine And.intro ?_ ?_ | intro _ | refine exP ?_ ?_); all_goals try omega
  · rename_i hlt
    have hnm : n < (chA r.text 2).lines.length := by omega
    have hpn : p + n < W.length := by omega
    have hmin : min n (nB W r.text 2).length = n := by omega
    have hset : (List.map (lnE G.lo) (List.take n (nB W r.text 2) ++ List.drop n (chA r.text 2).lines)).set n [V.lst G.lo 1 (List.map strE W[p + n])] = List.map (lnE G.lo) (List.take (n + 1) (nB W r.text 2) ++ List.drop (n + 1) (chA r.text 2).lines) := by
      have e : (nB W r.text 2)[n]'(by omega) = W[p + n] := by
        unfold nB
        rw [List.getElem_take, List.getElem_drop]
        congr 1
        rw [← hpp]
      rw [← set_td (nB W r.text 2) _ n (by omega) hnl, List.map_set, e]
      rfl
    refine semC_drawT [(113, [14]), (118, [508]), (119, [503])] mixed (by kernel_rfl) ?_
    simp (maxSteps := 2000000) only [go_sem, hG, hOw, hset]
    (repeat' with_reducible first | refine And.intro ?_ ?_ | intro _ | refine exP ?_ ?_); all_goals try omega
    refine ⟨n + 1, by omega, by omega, ?_⟩
    have e1 : ((p + (n + 1) : Nat) : Int) = ((p + n : Nat) : Int) + 1 := by omega
    rw [e1]
    exact ent_of [(1, some 1), (6, some 6), (508, some 508), (500, some 500), (501, some 501), (502, some 502), (503, some 503), (504, some 504), (505, some 505), (506, some 506), (14, some 14)] (by (simp only [go_sem]) <;> simp [htI,rw6_ren,lkR]) (by (simp only [go_sem, entH, entH1, nilArr, obOK]) <;> simp [htI,rw6_ren,lkR]) (by simp [injR, apart]) (by simp [coverR, usH, htI,rw6_ren,lkR]) (by simp [hNm, lkR, names])
  · rename_i hge
    obtain rfl : n = (chA r.text 2).lines.length := by omega
    have hfin : List.take (chA r.text 2).lines.length (nB W r.text 2) ++ List.drop (chA r.text 2).lines.length (chA r.text 2).lines = nB W r.text 2 := by
      rw [List.take_of_length_le (by omega), List.drop_of_length_le (Nat.le_refl _), List.append_nil]
    refine fun a w hs => ⟨_, hend _ ?_, hs⟩
    rw [hfin]
    unfold htG
    rw [hLs]
    exact ent_of [(1, some 1), (6, some 6), (508, some 508), (500, some 500), (501, some 501), (502, some 502), (503, some 503), (504, some 504), (505, some 505), (506, some 506)] (by (simp only [go_sem]) <;> simp [htI,C6,rw6_ren,lkR]) (by (simp only [go_sem, entH, entH1, nilArr, obOK]) <;> simp [htI,C6,rw6_ren,lkR]) (by simp [injR, apart]) (by simp [coverR, usH, htI,C6,rw6_ren,lkR]) (by simp [hNm, lkR, names])
theorem htChap3 (r : Ro) (hg : Good r) (A : List Int) (W : List Ln) (hWl : W.length = (linesL r.text).length) (h6 : r.text.length ≤ 6) (hK : 3 < r.text.length) {G : Gh} (hG : G.n = 173) (hOw : G.ow = fun i => [94].contains i) (hNm : G.nm = []) {Q : Exit → St → Prop}
    (hend : ∀ s, Ent G s (St.of (htG r A W 4 3) (htI G.lo r W 4)) → Q .normal s) :
    SemL Tryz.prog G (flat (bkOf 5 Tryz.f3.body)) (St.of (htG r A W 3 3) (htI G.lo r W 3)) Q := by
  have hll := hg.ll
  have hlen6 := rw6_len r.text 501 502 503 504 505 506 h6
  have hget := rw6_get3 r.text 501 502 503 504 505 506 hK h6
  have hch : chA r.text 3 = r.text[3] := chA_lt hK
  have hC : C6 G.lo W r.text 3 3 = (chA r.text 3).lines.map (lnE G.lo) := by unfold C6; rw [if_neg (by omega)]; exact A6_lt G.lo hK
  have hC1 : C6 G.lo W r.text 4 3 = (nB W r.text 3).map (lnE G.lo) := by unfold C6; rw [if_pos (by omega)]
  have hp := LLk_bd r.text hK
  rw [← hWl] at hp hll
  have hLs : (LLk r.text 4).length = (LLk r.text 3).length + (chA r.text 3).lines.length := by rw [LLk_succ hK, List.length_append, hch]
  rw [← hch] at hp
  have hnl : (nB W r.text 3).length = (chA r.text 3).lines.length := by unfold nB; rw [List.length_take, List.length_drop]; omega
  have hml : (chA r.text 3).lines.length ≤ 40 := by rw [hch]; exact (hg.ok.t.2 _ (List.getElem_mem hK)).1
  obtain ⟨p, hpp⟩ : ∃ p, p = (LLk r.text 3).length := ⟨_, rfl⟩
  rw [← hpp] at hp hLs
  unfold Tryz.f3
  simp only [rgOf, bkOf, rgO, bkO, orElse, Option.bind_some, Option.getD_some, reduceIte, Nat.reduceEqDiff, reduceCtorEq]
  simp only [flat, List.cons_append, List.nil_append, List.append_assoc, List.take_succ_cons, List.take_zero, List.take_nil, List.drop_succ_cons, List.drop_zero]
  refine vcN_sound 3 _ _ ?_
  simp (maxSteps := 2000000) only [go_sem, hG, hOw, hget, hlen6, hC, tn3, ← hpp]
  (repeat' with_reducible first | refine And.intro ?_ ?_ | intro _ | refine exP ?_ ?_); all_goals try omega
  refine semC_loop (fun n : Nat => St.of [(1, .ptr 1 0), (3, bl true), (4, ints 0 A), (6, .ptr 6 0), (7, .own 508 0 W.length 1), (12, i64 (p + n : Nat)), (100, .own 500 0 r.text.length 2), (101, i64 r.text.length), (102, i64 (3 : Nat)), (14, .ptr 14 0), (107, .own 504 0 (chA r.text 3).lines.length 1), (108, i64 (chA r.text 3).lines.length), (109, i64 n)]
    [(1, .box (roC 0 r)), (6, .box [.own 500 0 r.text.length 2, hps G.lo r.helpers, srs G.lo r.shares, ses G.lo r.sheets]), (508, .arr 44 1 (W.map (lnE G.lo))), (500, .arx 46 2 (rw6 r.text 501 502 503 504 505 506 r.text.length)), (501, .arr 44 1 (C6 G.lo W r.text 3 0)), (502, .arr 44 1 (C6 G.lo W r.text 3 1)), (503, .arr 44 1 (C6 G.lo W r.text 3 2)), (504, .arr 44 1 (((nB W r.text 3).take n ++ (chA r.text 3).lines.drop n).map (lnE G.lo))), (505, .arr 44 1 (C6 G.lo W r.text 3 4)), (506, .arr 44 1 (C6 G.lo W r.text 3 5)), (14, .box [i64 (chA r.text 3).id, .own 504 0 (chA r.text 3).lines.length 1])]) (fun n => n ≤ (chA r.text 3).lines.length) (fun n => (chA r.text 3).lines.length - n) 0 (by simp) (ent_of [(1, some 1), (6, some 6), (508, some 508), (500, some 500), (501, some 501), (502, some 502), (503, some 503), (504, some 504), (505, some 505), (506, some 506), (14, some 14)] (by (simp only [go_sem]) <;> simp [htI,hC,rw6_ren,lkR]) (by (simp only [go_sem, entH, entH1, nilArr, obOK]) <;> simp [htI,hC,rw6_ren,lkR]) (by simp [injR, apart]) (by simp [coverR, usH, htI,hC,rw6_ren,lkR]) (by simp [hNm, lkR, names])) ?_
  rintro n hn
  refine vc_sound _ _ _ ?_
  simp (maxSteps := 2000000) only [go_sem, hG, hOw, tn3]
  (repeat' with_reducible first | refine And.intro ?_ ?_ | intro _ | refine exP ?_ ?_); all_goals try omega
  · rename_i hlt
    have hnm : n < (chA r.text 3).lines.length := by omega
    have hpn : p + n < W.length := by omega
    have hmin : min n (nB W r.text 3).length = n := by omega
    have hset : (List.map (lnE G.lo) (List.take n (nB W r.text 3) ++ List.drop n (chA r.text 3).lines)).set n [V.lst G.lo 1 (List.map strE W[p + n])] = List.map (lnE G.lo) (List.take (n + 1) (nB W r.text 3) ++ List.drop (n + 1) (chA r.text 3).lines) := by
      have e : (nB W r.text 3)[n]'(by omega) = W[p + n] := by
        unfold nB
        rw [List.getElem_take, List.getElem_drop]
        congr 1
        rw [← hpp]
      rw [← set_td (nB W r.text 3) _ n (by omega) hnl, List.map_set, e]
      rfl
    refine semC_drawT [(113, [14]), (118, [508]), (119, [504])] mixed (by kernel_rfl) ?_
    simp (maxSteps := 2000000) only [go_sem, hG, hOw, hset]
    (repeat' with_reducible first | refine And.intro ?_ ?_ | intro _ | refine exP ?_ ?_); all_goals try omega
    refine ⟨n + 1, by omega, by omega, ?_⟩
    have e1 : ((p + (n + 1) : Nat) : Int) = ((p + n : Nat) : Int) + 1 := by omega
    rw [e1]
    exact ent_of [(1, some 1), (6, some 6), (508, some 508), (500, some 500), (501, some 501), (502, some 502), (503, some 503), (504, some 504), (505, some 505), (506, some 506), (14, some 14)] (by (simp only [go_sem]) <;> simp [htI,rw6_ren,lkR]) (by (simp only [go_sem, entH, entH1, nilArr, obOK]) <;> simp [htI,rw6_ren,lkR]) (by simp [injR, apart]) (by simp [coverR, usH, htI,rw6_ren,lkR]) (by simp [hNm, lkR, names])
  · rename_i hge
    obtain rfl : n = (chA r.text 3).lines.length := by omega
    have hfin : List.take (chA r.text 3).lines.length (nB W r.text 3) ++ List.drop (chA r.text 3).lines.length (chA r.text 3).lines = nB W r.text 3 := by
      rw [List.take_of_length_le (by omega), List.drop_of_length_le (Nat.le_refl _), List.append_nil]
    refine fun a w hs => ⟨_, hend _ ?_, hs⟩
    rw [hfin]
    unfold htG
    rw [hLs]
    exact ent_of [(1, some 1), (6, some 6), (508, some 508), (500, some 500), (501, some 501), (502, some 502), (503, some 503), (504, some 504), (505, some 505), (506, some 506)] (by (simp only [go_sem]) <;> simp [htI,C6,rw6_ren,lkR]) (by (simp only [go_sem, entH, entH1, nilArr, obOK]) <;> simp [htI,C6,rw6_ren,lkR]) (by simp [injR, apart]) (by simp [coverR, usH, htI,C6,rw6_ren,lkR]) (by simp [hNm, lkR, names])
theorem htChap4 (r : Ro) (hg : Good r) (A : List Int) (W : List Ln) (hWl : W.length = (linesL r.text).length) (h6 : r.text.length ≤ 6) (hK : 4 < r.text.length) {G : Gh} (hG : G.n = 173) (hOw : G.ow = fun i => [94].contains i) (hNm : G.nm = []) {Q : Exit → St → Prop}
    (hend : ∀ s, Ent G s (St.of (htG r A W 5 4) (htI G.lo r W 5)) → Q .normal s) :
    SemL Tryz.prog G (flat (bkOf 5 Tryz.f3.body)) (St.of (htG r A W 4 4) (htI G.lo r W 4)) Q := by
  have hll := hg.ll
  have hlen6 := rw6_len r.text 501 502 503 504 505 506 h6
  have hget := rw6_get4 r.text 501 502 503 504 505 506 hK h6
  have hch : chA r.text 4 = r.text[4] := chA_lt hK
  have hC : C6 G.lo W r.text 4 4 = (chA r.text 4).lines.map (lnE G.lo) := by unfold C6; rw [if_neg (by omega)]; exact A6_lt G.lo hK
  have hC1 : C6 G.lo W r.text 5 4 = (nB W r.text 4).map (lnE G.lo) := by unfold C6; rw [if_pos (by omega)]
  have hp := LLk_bd r.text hK
  rw [← hWl] at hp hll
  have hLs : (LLk r.text 5).length = (LLk r.text 4).length + (chA r.text 4).lines.length := by rw [LLk_succ hK, List.length_append, hch]
  rw [← hch] at hp
  have hnl : (nB W r.text 4).length = (chA r.text 4).lines.length := by unfold nB; rw [List.length_take, List.length_drop]; omega
  have hml : (chA r.text 4).lines.length ≤ 40 := by rw [hch]; exact (hg.ok.t.2 _ (List.getElem_mem hK)).1
  obtain ⟨p, hpp⟩ : ∃ p, p = (LLk r.text 4).length := ⟨_, rfl⟩
  rw [← hpp] at hp hLs
  unfold Tryz.f3
  simp only [rgOf, bkOf, rgO, bkO, orElse, Option.bind_some, Option.getD_some, reduceIte, Nat.reduceEqDiff, reduceCtorEq]
  simp only [flat, List.cons_append, List.nil_append, List.append_assoc, List.take_succ_cons, List.take_zero, List.take_nil, List.drop_succ_cons, List.drop_zero]
  refine vcN_sound 3 _ _ ?_
  simp (maxSteps := 2000000) only [go_sem, hG, hOw, hget, hlen6, hC, tn4, ← hpp]
  (repeat' with_reducible first | refine And.intro ?_ ?_ | intro _ | refine exP ?_ ?_); all_goals try omega
  refine semC_loop (fun n : Nat => St.of [(1, .ptr 1 0), (3, bl true), (4, ints 0 A), (6, .ptr 6 0), (7, .own 508 0 W.length 1), (12, i64 (p + n : Nat)), (100, .own 500 0 r.text.length 2), (101, i64 r.text.length), (102, i64 (4 : Nat)), (14, .ptr 14 0), (107, .own 505 0 (chA r.text 4).lines.length 1), (108, i64 (chA r.text 4).lines.length), (109, i64 n)]
    [(1, .box (roC 0 r)), (6, .box [.own 500 0 r.text.length 2, hps G.lo r.helpers, srs G.lo r.shares, ses G.lo r.sheets]), (508, .arr 44 1 (W.map (lnE G.lo))), (500, .arx 46 2 (rw6 r.text 501 502 503 504 505 506 r.text.length)), (501, .arr 44 1 (C6 G.lo W r.text 4 0)), (502, .arr 44 1 (C6 G.lo W r.text 4 1)), (503, .arr 44 1 (C6 G.lo W r.text 4 2)), (504, .arr 44 1 (C6 G.lo W r.text 4 3)), (505, .arr 44 1 (((nB W r.text 4).take n ++ (chA r.text 4).lines.drop n).map (lnE G.lo))), (506, .arr 44 1 (C6 G.lo W r.text 4 5)), (14, .box [i64 (chA r.text 4).id, .own 505 0 (chA r.text 4).lines.length 1])]) (fun n => n ≤ (chA r.text 4).lines.length) (fun n => (chA r.text 4).lines.length - n) 0 (by simp) (ent_of [(1, some 1), (6, some 6), (508, some 508), (500, some 500), (501, some 501), (502, some 502), (503, some 503), (504, some 504), (505, some 505), (506, some 506), (14, some 14)] (by (simp only [go_sem]) <;> simp [htI,hC,rw6_ren,lkR]) (by (simp only [go_sem, entH, entH1, nilArr, obOK]) <;> simp [htI,hC,rw6_ren,lkR]) (by simp [injR, apart]) (by simp [coverR, usH, htI,hC,rw6_ren,lkR]) (by simp [hNm, lkR, names])) ?_
  rintro n hn
  refine vc_sound _ _ _ ?_
  simp (maxSteps := 2000000) only [go_sem, hG, hOw, tn4]
  (repeat' with_reducible first | refine And.intro ?_ ?_ | intro _ | refine exP ?_ ?_); all_goals try omega
  · rename_i hlt
    have hnm : n < (chA r.text 4).lines.length := by omega
    have hpn : p + n < W.length := by omega
    have hmin : min n (nB W r.text 4).length = n := by omega
    have hset : (List.map (lnE G.lo) (List.take n (nB W r.text 4) ++ List.drop n (chA r.text 4).lines)).set n [V.lst G.lo 1 (List.map strE W[p + n])] = List.map (lnE G.lo) (List.take (n + 1) (nB W r.text 4) ++ List.drop (n + 1) (chA r.text 4).lines) := by
      have e : (nB W r.text 4)[n]'(by omega) = W[p + n] := by
        unfold nB
        rw [List.getElem_take, List.getElem_drop]
        congr 1
        rw [← hpp]
      rw [← set_td (nB W r.text 4) _ n (by omega) hnl, List.map_set, e]
      rfl
    refine semC_drawT [(113, [14]), (118, [508]), (119, [505])] mixed (by kernel_rfl) ?_
    simp (maxSteps := 2000000) only [go_sem, hG, hOw, hset]
    (repeat' with_reducible first | refine And.intro ?_ ?_ | intro _ | refine exP ?_ ?_); all_goals try omega
    refine ⟨n + 1, by omega, by omega, ?_⟩
    have e1 : ((p + (n + 1) : Nat) : Int) = ((p + n : Nat) : Int) + 1 := by omega
    rw [e1]
    exact ent_of [(1, some 1), (6, some 6), (508, some 508), (500, some 500), (501, some 501), (502, some 502), (503, some 503), (504, some 504), (505, some 505), (506, some 506), (14, some 14)] (by (simp only [go_sem]) <;> simp [htI,rw6_ren,lkR]) (by (simp only [go_sem, entH, entH1, nilArr, obOK]) <;> simp [htI,rw6_ren,lkR]) (by simp [injR, apart]) (by simp [coverR, usH, htI,rw6_ren,lkR]) (by simp [hNm, lkR, names])
  · rename_i hge
    obtain rfl : n = (chA r.text 4).lines.length := by omega
    have hfin : List.take (chA r.text 4).lines.length (nB W r.text 4) ++ List.drop (chA r.text 4).lines.length (chA r.text 4).lines = nB W r.text 4 := by
      rw [List.take_of_length_le (by omega), List.drop_of_length_le (Nat.le_refl _), List.append_nil]
    refine fun a w hs => ⟨_, hend _ ?_, hs⟩
    rw [hfin]
    unfold htG
    rw [hLs]
    exact ent_of [(1, some 1), (6, some 6), (508, some 508), (500, some 500), (501, some 501), (502, some 502), (503, some 503), (504, some 504), (505, some 505), (506, some 506)] (by (simp only [go_sem]) <;> simp [htI,C6,rw6_ren,lkR]) (by (simp only [go_sem, entH, entH1, nilArr, obOK]) <;> simp [htI,C6,rw6_ren,lkR]) (by simp [injR, apart]) (by simp [coverR, usH, htI,C6,rw6_ren,lkR]) (by simp [hNm, lkR, names])
theorem htChap5 (r : Ro) (hg : Good r) (A : List Int) (W : List Ln) (hWl : W.length = (linesL r.text).length) (h6 : r.text.length ≤ 6) (hK : 5 < r.text.length) {G : Gh} (hG : G.n = 173) (hOw : G.ow = fun i => [94].contains i) (hNm : G.nm = []) {Q : Exit → St → Prop}
    (hend : ∀ s, Ent G s (St.of (htG r A W 6 5) (htI G.lo r W 6)) → Q .normal s) :
    SemL Tryz.prog G (flat (bkOf 5 Tryz.f3.body)) (St.of (htG r A W 5 5) (htI G.lo r W 5)) Q := by
  have hll := hg.ll
  have hlen6 := rw6_len r.text 501 502 503 504 505 506 h6
  have hget := rw6_get5 r.text 501 502 503 504 505 506 hK h6
  have hch : chA r.text 5 = r.text[5] := chA_lt hK
  have hC : C6 G.lo W r.text 5 5 = (chA r.text 5).lines.map (lnE G.lo) := by unfold C6; rw [if_neg (by omega)]; exact A6_lt G.lo hK
  have hC1 : C6 G.lo W r.text 6 5 = (nB W r.text 5).map (lnE G.lo) := by unfold C6; rw [if_pos (by omega)]
  have hp := LLk_bd r.text hK
  rw [← hWl] at hp hll
  have hLs : (LLk r.text 6).length = (LLk r.text 5).length + (chA r.text 5).lines.length := by rw [LLk_succ hK, List.length_append, hch]
  rw [← hch] at hp
  have hnl : (nB W r.text 5).length = (chA r.text 5).lines.length := by unfold nB; rw [List.length_take, List.length_drop]; omega
  have hml : (chA r.text 5).lines.length ≤ 40 := by rw [hch]; exact (hg.ok.t.2 _ (List.getElem_mem hK)).1
  obtain ⟨p, hpp⟩ : ∃ p, p = (LLk r.text 5).length := ⟨_, rfl⟩
  rw [← hpp] at hp hLs
  unfold Tryz.f3
  simp only [rgOf, bkOf, rgO, bkO, orElse, Option.bind_some, Option.getD_some, reduceIte, Nat.reduceEqDiff, reduceCtorEq]
  simp only [flat, List.cons_append, List.nil_append, List.append_assoc, List.take_succ_cons, List.take_zero, List.take_nil, List.drop_succ_cons, List.drop_zero]
  refine vcN_sound 3 _ _ ?_
  simp (maxSteps := 2000000) only [go_sem, hG, hOw, hget, hlen6, hC, tn5, ← hpp]
  (repeat' with_reducible first | refine And.intro ?_ ?_ | intro _ | refine exP ?_ ?_); all_goals try omega
  refine semC_loop (fun n : Nat => St.of [(1, .ptr 1 0), (3, bl true), (4, ints 0 A), (6, .ptr 6 0), (7, .own 508 0 W.length 1), (12, i64 (p + n : Nat)), (100, .own 500 0 r.text.length 2), (101, i64 r.text.length), (102, i64 (5 : Nat)), (14, .ptr 14 0), (107, .own 506 0 (chA r.text 5).lines.length 1), (108, i64 (chA r.text 5).lines.length), (109, i64 n)]
    [(1, .box (roC 0 r)), (6, .box [.own 500 0 r.text.length 2, hps G.lo r.helpers, srs G.lo r.shares, ses G.lo r.sheets]), (508, .arr 44 1 (W.map (lnE G.lo))), (500, .arx 46 2 (rw6 r.text 501 502 503 504 505 506 r.text.length)), (501, .arr 44 1 (C6 G.lo W r.text 5 0)), (502, .arr 44 1 (C6 G.lo W r.text 5 1)), (503, .arr 44 1 (C6 G.lo W r.text 5 2)), (504, .arr 44 1 (C6 G.lo W r.text 5 3)), (505, .arr 44 1 (C6 G.lo W r.text 5 4)), (506, .arr 44 1 (((nB W r.text 5).take n ++ (chA r.text 5).lines.drop n).map (lnE G.lo))), (14, .box [i64 (chA r.text 5).id, .own 506 0 (chA r.text 5).lines.length 1])]) (fun n => n ≤ (chA r.text 5).lines.length) (fun n => (chA r.text 5).lines.length - n) 0 (by simp) (ent_of [(1, some 1), (6, some 6), (508, some 508), (500, some 500), (501, some 501), (502, some 502), (503, some 503), (504, some 504), (505, some 505), (506, some 506), (14, some 14)] (by (simp only [go_sem]) <;> simp [htI,hC,rw6_ren,lkR]) (by (simp only [go_sem, entH, entH1, nilArr, obOK]) <;> simp [htI,hC,rw6_ren,lkR]) (by simp [injR, apart]) (by simp [coverR, usH, htI,hC,rw6_ren,lkR]) (by simp [hNm, lkR, names])) ?_
  rintro n hn
  refine vc_sound _ _ _ ?_
  simp (maxSteps := 2000000) only [go_sem, hG, hOw, tn5]
  (repeat' with_reducible first | refine And.intro ?_ ?_ | intro _ | refine exP ?_ ?_); all_goals try omega
  · rename_i hlt
    have hnm : n < (chA r.text 5).lines.length := by omega
    have hpn : p + n < W.length := by omega
    have hmin : min n (nB W r.text 5).length = n := by omega
    have hset : (List.map (lnE G.lo) (List.take n (nB W r.text 5) ++ List.drop n (chA r.text 5).lines)).set n [V.lst G.lo 1 (List.map strE W[p + n])] = List.map (lnE G.lo) (List.take (n + 1) (nB W r.text 5) ++ List.drop (n + 1) (chA r.text 5).lines) := by
      have e : (nB W r.text 5)[n]'(by omega) = W[p + n] := by
        unfold nB
        rw [List.getElem_take, List.getElem_drop]
        congr 1
        rw [← hpp]
      rw [← set_td (nB W r.text 5) _ n (by omega) hnl, List.map_set, e]
      rfl
    refine semC_drawT [(113, [14]), (118, [508]), (119, [506])] mixed (by kernel_rfl) ?_
    simp (maxSteps := 2000000) only [go_sem, hG, hOw, hset]
    (repeat' with_reducible first | refine And.intro ?_ ?_ | intro _ | refine exP ?_ ?_); all_goals try omega
    refine ⟨n + 1, by omega, by omega, ?_⟩
    have e1 : ((p + (n + 1) : Nat) : Int) = ((p + n : Nat) : Int) + 1 := by omega
    rw [e1]
    exact ent_of [(1, some 1), (6, some 6), (508, some 508), (500, some 500), (501, some 501), (502, some 502), (503, some 503), (504, some 504), (505, some 505), (506, some 506), (14, some 14)] (by (simp only [go_sem]) <;> simp [htI,rw6_ren,lkR]) (by (simp only [go_sem, entH, entH1, nilArr, obOK]) <;> simp [htI,rw6_ren,lkR]) (by simp [injR, apart]) (by simp [coverR, usH, htI,rw6_ren,lkR]) (by simp [hNm, lkR, names])
  · rename_i hge
    obtain rfl : n = (chA r.text 5).lines.length := by omega
    have hfin : List.take (chA r.text 5).lines.length (nB W r.text 5) ++ List.drop (chA r.text 5).lines.length (chA r.text 5).lines = nB W r.text 5 := by
      rw [List.take_of_length_le (by omega), List.drop_of_length_le (Nat.le_refl _), List.append_nil]
    refine fun a w hs => ⟨_, hend _ ?_, hs⟩
    rw [hfin]
    unfold htG
    rw [hLs]
    exact ent_of [(1, some 1), (6, some 6), (508, some 508), (500, some 500), (501, some 501), (502, some 502), (503, some 503), (504, some 504), (505, some 505), (506, some 506)] (by (simp only [go_sem]) <;> simp [htI,C6,rw6_ren,lkR]) (by (simp only [go_sem, entH, entH1, nilArr, obOK]) <;> simp [htI,C6,rw6_ren,lkR]) (by simp [injR, apart]) (by simp [coverR, usH, htI,C6,rw6_ren,lkR]) (by simp [hNm, lkR, names])
theorem htChap (r : Ro) (hg : Good r) (A : List Int) (W : List Ln) (hWl : W.length = (linesL r.text).length) (h6 : r.text.length ≤ 6) (k : Nat) (hK : k < r.text.length) {G : Gh} (hG : G.n = 173) (hOw : G.ow = fun i => [94].contains i) (hNm : G.nm = []) {Q : Exit → St → Prop}
    (hend : ∀ s, Ent G s (St.of (htG r A W (k + 1) k) (htI G.lo r W (k + 1))) → Q .normal s) :
    SemL Tryz.prog G (flat (bkOf 5 Tryz.f3.body)) (St.of (htG r A W k k) (htI G.lo r W k)) Q :=
  match k, hK, hend with
  | 0, hK, hend => htChap0 r hg A W hWl h6 hK hG hOw hNm hend
  | 1, hK, hend => htChap1 r hg A W hWl h6 hK hG hOw hNm hend
  | 2, hK, hend => htChap2 r hg A W hWl h6 hK hG hOw hNm hend
  | 3, hK, hend => htChap3 r hg A W hWl h6 hK hG hOw hNm hend
  | 4, hK, hend => htChap4 r hg A W hWl h6 hK hG hOw hNm hend
  | 5, hK, hend => htChap5 r hg A W hWl h6 hK hG hOw hNm hend
  | k + 6, hK, _ => absurd hK (by omega)
open Go Pm
set_option maxHeartbeats 4000000
set_option maxRecDepth 100000
theorem txtL_get : ∀ (t : List Ch) (o : List Ln) (j : Nat) (h : j < t.length), (txtL t o)[j]? = some ⟨t[j].id, (o.drop (LLk t j).length).take t[j].lines.length⟩
  | [], _, j, h => by simp at h
  | c :: r, o, 0, h => by simp [txtL, LLk_zero]
  | c :: r, o, j + 1, h => by
    have h' : j < r.length := by simpa using h
    have ih := txtL_get r (o.drop c.lines.length) j h'
    have e : (LLk (c :: r) (j + 1)).length = c.lines.length + (LLk r j).length := by simp [LLk, linesL]
    simp only [txtL, List.getElem?_cons_succ, List.getElem_cons_succ]
    rw [ih, List.drop_drop, e]
theorem rw6_gen (t : List Ch) (g : V → V) (hv : ∀ x, g (.v x) = .v x) (F : Nat → V) (ha : g (.own 501 0 (chA t 0).lines.length 1) = F 0) (hb : g (.own 502 0 (chA t 1).lines.length 1) = F 1) (hc : g (.own 503 0 (chA t 2).lines.length 1) = F 2) (hd : g (.own 504 0 (chA t 3).lines.length 1) = F 3) (he : g (.own 505 0 (chA t 4).lines.length 1) = F 4) (hf : g (.own 506 0 (chA t 5).lines.length 1) = F 5) :
    ∀ k, k ≤ 6 → (rw6 t 501 502 503 504 505 506 k).map (List.map g) = (List.range k).map fun j => [i64 (chA t j).id, F j]
  | 0, _ => rfl
  | 1, _ => by simp [rw6, rowN, i64, hv, ha, List.range_succ]
  | 2, _ => by simp [rw6, rowN, i64, hv, ha, hb, List.range_succ]
  | 3, _ => by simp [rw6, rowN, i64, hv, ha, hb, hc, List.range_succ]
  | 4, _ => by simp [rw6, rowN, i64, hv, ha, hb, hc, hd, List.range_succ]
  | 5, _ => by simp [rw6, rowN, i64, hv, ha, hb, hc, hd, he, List.range_succ]
  | 6, _ => by simp [rw6, rowN, i64, hv, ha, hb, hc, hd, he, hf, List.range_succ]
  | k + 7, h => absurd h (by omega)
theorem nB_len {t : List Ch} {W : List Ln} (hWl : W.length = (linesL t).length) (j : Nat) : (nB W t j).length = (chA t j).lines.length ∨ t.length ≤ j := by
  by_cases h : j < t.length
  · left
    have := LLk_bd t h
    unfold nB
    rw [chA_lt h, List.length_take, List.length_drop]
    omega
  · exact .inr (by omega)
theorem C6_take {lo : Nat} {t : List Ch} {W : List Ln} (hWl : W.length = (linesL t).length) (j : Nat) : List.take (chA t j).lines.length (List.drop 0 (C6 lo W t t.length j)) = if j < t.length then (nB W t j).map (lnE lo) else [] := by
  rw [List.drop_zero]
  by_cases h : j < t.length
  · rw [if_pos h]
    unfold C6
    rw [if_pos h]
    rcases nB_len hWl j with h1 | h1
    · rw [List.take_of_length_le (by rw [List.length_map]; omega)]
    · omega
  · rw [if_neg h]
    have : chA t j = ⟨0, []⟩ := by unfold chA; rw [List.getD_eq_getElem?_getD, List.getElem?_eq_none (by omega)]; rfl
    rw [this]; rfl
theorem rw6_frz {lo : Nat} (t : List Ch) (W : List Ln) (h6 : t.length ≤ 6) (hWl : W.length = (linesL t).length) (p : Nat → Bool) (s : St)
    (p1 : p 501 = true) (p2 : p 502 = true) (p3 : p 503 = true) (p4 : p 504 = true) (p5 : p 505 = true) (p6 : p 506 = true)
    (h1 : s.hget 501 = some (.arr 44 1 (C6 lo W t t.length 0))) (h2 : s.hget 502 = some (.arr 44 1 (C6 lo W t t.length 1))) (h3 : s.hget 503 = some (.arr 44 1 (C6 lo W t t.length 2)))
    (h4 : s.hget 504 = some (.arr 44 1 (C6 lo W t t.length 3))) (h5 : s.hget 505 = some (.arr 44 1 (C6 lo W t t.length 4))) (h6' : s.hget 506 = some (.arr 44 1 (C6 lo W t t.length 5))) :
    (rw6 t 501 502 503 504 505 506 t.length).map (List.map (vwS p lo s 3)) = (txtL t W).map (chE lo) := by
  rw [rw6_gen t (vwS p lo s 3) (fun _ => rfl) (fun j => .lst lo 1 (if j < t.length then (nB W t j).map (lnE lo) else [])) (by simp only [vwS, p1, h1, C6_take hWl, if_true]) (by simp only [vwS, p2, h2, C6_take hWl, if_true]) (by simp only [vwS, p3, h3, C6_take hWl, if_true]) (by simp only [vwS, p4, h4, C6_take hWl, if_true]) (by simp only [vwS, p5, h5, C6_take hWl, if_true]) (by simp only [vwS, p6, h6', C6_take hWl, if_true]) t.length h6]
  apply List.ext_getElem?
  intro j
  by_cases hj : j < t.length
  · rw [List.getElem?_map, List.getElem?_map, List.getElem?_range hj, txtL_get t W j hj]
    simp only [Option.map_some, if_pos hj, chA_lt hj]
    unfold nB
    rw [chA_lt hj]
    rfl
  · rw [List.getElem?_eq_none (by simp; omega), List.getElem?_eq_none (by simp [txtL_len]; omega)]
theorem frz_txt {lo : Nat} (t : List Ch) (W : List Ln) (h6 : t.length ≤ 6) (hWl : W.length = (linesL t).length) (p : Nat → Bool) (s : St) (rest : List V)
    (p0 : p 500 = true) (p1 : p 501 = true) (p2 : p 502 = true) (p3 : p 503 = true) (p4 : p 504 = true) (p5 : p 505 = true) (p6 : p 506 = true)
    (h0 : s.hget 500 = some (.arx 46 2 (rw6 t 501 502 503 504 505 506 t.length)))
    (h1 : s.hget 501 = some (.arr 44 1 (C6 lo W t t.length 0))) (h2 : s.hget 502 = some (.arr 44 1 (C6 lo W t t.length 1))) (h3 : s.hget 503 = some (.arr 44 1 (C6 lo W t t.length 2)))
    (h4 : s.hget 504 = some (.arr 44 1 (C6 lo W t t.length 3))) (h5 : s.hget 505 = some (.arr 44 1 (C6 lo W t t.length 4))) (h6' : s.hget 506 = some (.arr 44 1 (C6 lo W t t.length 5))) :
    List.map (vwF p lo s 4) (V.own 500 0 t.length 2 :: rest) = V.lst lo 2 (List.map (chE lo) (txtL t W)) :: List.map (vwF p lo s 4) rest := by
  have e := rw6_frz (lo := lo) t W h6 hWl p s p1 p2 p3 p4 p5 p6 h1 h2 h3 h4 h5 h6'
  have e2 : vwF p lo s 4 (V.own 500 0 t.length 2) = V.lst lo 2 (List.take t.length (List.drop 0 (List.map (List.map (vwS p lo s 3)) (rw6 t 501 502 503 504 505 506 t.length)))) := by
    have : vwF p lo s 4 (V.own 500 0 t.length 2) = vwS p lo s 4 (V.own 500 0 t.length 2) := by simp only [vwF, p0]
    rw [this]
    show (match p 500, s.hget 500 with
      | true, some (.arr _ sz' l) => if 2 = sz' then V.lst lo 2 ((l.drop 0).take t.length) else .any
      | true, some (.arx _ sz' l) => if 2 = sz' then V.lst lo 2 (((l.map (List.map (vwS p lo s 3))).drop 0).take t.length) else .any
      | true, some (.box cs) => if 2 = 1 then V.lst lo 1 ((((cs.map (vwS p lo s 3)).drop 0).take t.length).map fun c => [c]) else if 0 < 2 ∧ (0 + t.length) * 2 ≤ cs.length then V.lst lo 2 ((List.range t.length).map fun i => rowE 2 (cs.map (vwS p lo s 3)) (0 + i)) else .any
      | _, _ => .any) = _
    rw [p0, h0]
    rfl
  rw [List.map_cons, e2, e, List.drop_zero, List.take_of_length_le (by rw [List.length_map, txtL_len]; exact Nat.le_refl _)]
theorem kept_expl {r : Ro} (hg : Good r) {i : Nat} (hi : i < r.shares.length) (hk : kpB r (againP r) i = true) : explE (newR r) i = 0 ∧ explL (newR r) i = [] := by
  have hix : i < r.sheets.length := by rw [hg.xn]; exact hi
  obtain ⟨b1, b2⟩ := kept_one hg hi hk
  have hp := kept_part hg hi hk
  have hE := backE_good (newR_good hg) hi
  obtain ⟨n1, n2⟩ := told_none r.sheets[i].lines r.shares[i].fr
  have s1 : (newR r).shares[(i : Int).toNat]? = some r.shares[i] := List.getElem?_eq_getElem hi
  have s2 : (newR r).sheets[(i : Int).toNat]? = some r.sheets[i] := List.getElem?_eq_getElem hix
  unfold explE explL
  rw [if_neg (by rw [hE]; decide), if_neg (by rw [hE]; decide), s1, s2]
  simp only [b1, if_true]
  rw [Int.toNat_natCast, hp, n1, n2]
  exact ⟨rfl, rfl⟩
theorem both_same2 {p : Prop} (h : p) : p ∧ p := ⟨h, h⟩
theorem rw6_renR (t : List Ch) (a b c d e f a' b' c' d' e' f' k : Nat) (ρ : Ren) (ha : lkR ρ a = some (some a')) (hb : lkR ρ b = some (some b')) (hc : lkR ρ c = some (some c')) (hd : lkR ρ d = some (some d')) (he : lkR ρ e = some (some e')) (hf : lkR ρ f = some (some f')) :
    (rw6 t a b c d e f k).map (List.map (renT ρ 4)) = rw6 t a' b' c' d' e' f' k :=
  rw6_map t _ (fun _ => rfl) a b c d e f a' b' c' d' e' f' (fun m => by simp [renT, ha]) (fun m => by simp [renT, hb]) (fun m => by simp [renT, hc]) (fun m => by simp [renT, hd]) (fun m => by simp [renT, he]) (fun m => by simp [renT, hf]) k
theorem rw6_vwF (t : List Ch) {p : Nat → Bool} {lo : Nat} {s : St} {a b c d e f : Nat} {k : Nat} (ha : p a = false) (hb : p b = false) (hc : p c = false) (hd : p d = false) (he : p e = false) (hf : p f = false) :
    (rw6 t a b c d e f k).map (List.map (vwF p lo s 4)) = rw6 t a b c d e f k :=
  rw6_map t _ (fun _ => rfl) a b c d e f a b c d e f (fun m => by simp [vwF, ha]) (fun m => by simp [vwF, hb]) (fun m => by simp [vwF, hc]) (fun m => by simp [vwF, hd]) (fun m => by simp [vwF, he]) (fun m => by simp [vwF, hf]) k
attribute [go_sem ↓] rw6_vwF
theorem HandText_ok (r : Ro) : Gives Tryz.prog 3 [roE 0 r] (fun _ => bl true) := by
  cases hrd : readyB r with
  | false =>
    refine pure_intro (ow := fun _ => false) Tryz.func3 Tryz.ntmps3 rfl (by kernel_rfl) (by simp) rfl (by decide) fun G hG hOw hNm hB => ?_; simp only [go_sem, hG, hOw]
    refine call_pure alive_ok (Subs.refl _) rfl (by simp [chk, hG]) ?_
    simp only [go_sem, hG, hOw]
    refine call_pureA (ready_ok r) ?_
    simp (maxSteps := 2000000) only [go_sem, hG, hOw, hrd]
    try (repeat' with_reducible first | refine And.intro ?_ ?_ | intro _ | refine exP ?_ ?_); all_goals try omega
  | true =>
    obtain ⟨hr, hg⟩ := ready_good hrd
    have he := hg.e
    have hsn := hg.sn
    obtain ⟨A, hA⟩ : ∃ A, A = againP r := ⟨_, rfl⟩
    have c3 := HAgain_ok r hr
    rw [he, ← hA] at c3
    have h6 : r.text.length ≤ 6 := by
      have ht : textB r.text = true := by
        unfold roundE at he
        split at he
        · assumption
        · omega
      unfold textB inB at ht
      simp only [Bool.and_eq_true, decide_eq_true_eq] at ht
      omega
    refine pure_introL (fun i => [94].contains i) Tryz.func3 Tryz.ntmps3 rfl (by kernel_rfl) (by simp) rfl (by decide) fun G hG hOw hNm hZ hB => ?_
    have sl : ∀ sz l, Pm.Sub (V.lst G.lo sz l) (V.lst 0 sz l) := fun _ _ => .lo (Nat.zero_le _)
    refine vcN_sound 2 _ _ ?_
    simp only [go_sem, hG, hOw]
    refine call_pure alive_ok (Subs.refl _) rfl (by simp [chk, hG]) ?_
    simp only [go_sem, hG, hOw]
    refine vcN_sound 2 _ _ ?_
    simp only [go_sem, hG, hOw]
    refine call_pureA (ready_ok r) ?_
    simp (maxSteps := 2000000) only [go_sem, hG, hOw, hrd]
    refine vcN_sound 1 _ _ ?_
    simp only [go_sem, hG, hOw]
    refine call_pure c3 (by first | exact Subs.refl _ | (repeat' (first | exact Subs.nil | exact Sub.refl _ | exact Sub.lo (Nat.zero_le _) | refine Subs.cons ?_ ?_ | refine Subs.agg ?_ | refine Subs.fp ?_ | refine Subs.tup ?_ | refine Sub.map (Nat.zero_le _) (fun _ => ?_)))) (by first | rfl | simp [allP, all0, pureV, pure0, *]) (by simp [chk, hG]) ?_
    simp only [go_sem, hG, hOw]
    refine semL_ent (s' := St.of [(1, .ptr 1 0), (3, bl true), (4, ints 0 A), (5, i64 0)] [(1, .box (roC 0 r))]) (entA [(1, some 1)] (by (simp only [go_sem]) <;> simp [sl]) (by (simp only [go_sem, entH, entH1, nilArr, obOK]) <;> simp [sl])) ?_
    refine vcN_sound 2 _ _ ?_
    simp only [go_sem, hG, hOw]
    refine vcN_sound 1 _ _ ?_
    simp only [go_sem, hG, hOw]
    have hrw := rw6_renR r.text 1 2 3 4 5 6 501 502 503 504 505 506 r.text.length
    refine call_tri [] [(0, 500), (1, 501), (2, 502), (3, 503), (4, 504), (5, 505), (6, 506), (7, 507)] (Twin05_own r hr h6) (by (simp only [go_sem]) <;> simp [twM2,twM]) (by (simp only [go_sem, entH, entH1, nilArr, obOK]) <;> simp [twM2,twM]) (by simp [injR, apart, toR]) (by simp [coverR, usH, toR, twM2,twM]) (by simp [uniqP, lkR, toR]) (by simp [chk, hG]) ?_
    simp (maxSteps := 2000000) only [go_sem, hG, hOw, ↓hrw, twM2]
    refine semL_ent (s' := St.of [(1, .ptr 1 0), (3, bl true), (4, ints 0 A), (6, .ptr 6 0)] [(1, .box (roC 0 r)), (6, .box [.own 500 0 r.text.length 2, hps G.lo r.helpers, srs G.lo r.shares, ses G.lo r.sheets]), (500, .arx 46 2 (rw6 r.text 501 502 503 504 505 506 r.text.length)), (501, .arr 44 1 (A6 G.lo r.text r.text.length 0)), (502, .arr 44 1 (A6 G.lo r.text r.text.length 1)), (503, .arr 44 1 (A6 G.lo r.text r.text.length 2)), (504, .arr 44 1 (A6 G.lo r.text r.text.length 3)), (505, .arr 44 1 (A6 G.lo r.text r.text.length 4)), (506, .arr 44 1 (A6 G.lo r.text r.text.length 5))]) (ent_frz (fun i => i == 507) (ent_of [(1, some 1), (6, some 6), (500, some 500), (501, some 501), (502, some 502), (503, some 503), (504, some 504), (505, some 505), (506, some 506)] (by (simp only [↓okL_self, ↓okL_own, ↓vwF_set, ↓vwF_all, ↓vwS_all, ↓hrw,rw6_ren,lkR, go_sem]) <;> simp [rw6_ren, lkR]) (by (simp only [↓okL_self, ↓okL_own, ↓vwF_set, ↓vwF_all, ↓vwS_all, ↓hrw,rw6_ren,lkR, go_sem, entH, entH1, nilArr, obOK]) <;> simp [rw6_ren, lkR]) (by simp [injR, apart]) (by simp [coverR, usH]) (by simp [hNm, lkR, names]))) ?_
    refine vcN_sound 1 _ _ ?_
    simp only [go_sem, hG, hOw]
    have hrw2 := rw6_renR r.text 101 102 103 104 105 106 501 502 503 504 505 506 r.text.length
    refine call_tri [(100, 500), (101, 501), (102, 502), (103, 503), (104, 504), (105, 505), (106, 506)] [(108, 508)] (Lines_own G.lo r.text hr.t h6) (by (simp only [go_sem]) <;> simp [twN,rw6_ren,lkR]) (by (simp only [go_sem, entH, entH1, nilArr, obOK]) <;> simp [twN,rw6_ren,lkR]) (by simp [injR, apart, toR]) (by simp [coverR, usH, toR, twN,rw6_ren,lkR]) (by simp [uniqP, lkR, toR]) (by simp [chk, hG]) ?_
    simp (maxSteps := 2000000) only [go_sem, hG, hOw, ↓hrw2, twN]
    have hWl : (linesL r.text).length ≤ 400 := hg.ll
    subst hA
    have hxn := hg.xn
    refine semL_ent (s' := St.of [(1, .ptr 1 0), (3, bl true), (4, ints 0 (againP r)), (6, .ptr 6 0), (7, .own 508 0 (linesL r.text).length 1)] [(1, .box (roC 0 r)), (6, .box [.own 500 0 r.text.length 2, hps G.lo r.helpers, srs G.lo r.shares, ses G.lo r.sheets]), (508, .arr 44 1 ((linesL r.text).map (lnE G.lo))), (500, .arx 46 2 (rw6 r.text 501 502 503 504 505 506 r.text.length)), (501, .arr 44 1 (A6 G.lo r.text r.text.length 0)), (502, .arr 44 1 (A6 G.lo r.text r.text.length 1)), (503, .arr 44 1 (A6 G.lo r.text r.text.length 2)), (504, .arr 44 1 (A6 G.lo r.text r.text.length 3)), (505, .arr 44 1 (A6 G.lo r.text r.text.length 4)), (506, .arr 44 1 (A6 G.lo r.text r.text.length 5))]) (ent_of [(1, some 1), (6, some 6), (508, some 508), (500, some 500), (501, some 501), (502, some 502), (503, some 503), (504, some 504), (505, some 505), (506, some 506)] (by (simp only [↓okL_self, ↓okL_own, ↓vwF_set, ↓vwF_all, ↓vwS_all, ↓hrw2,rw6_ren,lkR, go_sem]) <;> simp [rw6_ren, lkR]) (by (simp only [↓okL_self, ↓okL_own, ↓vwF_set, ↓vwF_all, ↓vwS_all, ↓hrw2,rw6_ren,lkR, go_sem, entH, entH1, nilArr, obOK]) <;> simp [rw6_ren, lkR]) (by simp [injR, apart]) (by simp [coverR, usH]) (by simp [hNm, lkR, names])) ?_
    refine vcN_sound 1 _ _ ?_
    simp only [go_sem, hG, hOw]
    refine semL_mid (fun _ : Unit => St.of (htF G.lo r (againP r) (newW r) r.shares.length) (htH G.lo r (newW r))) (fun _ => True) ?_ ?_
    · refine vc_sound _ _ _ ?_
      simp only [go_sem, hG, hOw]
      refine semC_loop (fun i : Nat => St.of (htF G.lo r (againP r) (ownW r (againP r) i) i) (htH G.lo r (ownW r (againP r) i))) (fun i => i ≤ r.shares.length) (fun i => r.shares.length - i) 0 (by simp) (by unfold htF htH ownW; exact ent_of [(1, some 1), (6, some 6), (508, some 508), (500, some 500), (501, some 501), (502, some 502), (503, some 503), (504, some 504), (505, some 505), (506, some 506)] (by (simp only [go_sem]) <;> simp [htH,rw6_ren,lkR]) (by (simp only [go_sem, entH, entH1, nilArr, obOK]) <;> simp [htH,rw6_ren,lkR]) (by simp [injR, apart]) (by simp [coverR, usH, htH,rw6_ren,lkR]) (by simp [hNm, lkR, names])) ?_
      rintro i hi
      by_cases hil : i < r.shares.length
      · have hlt : (i : Int) < r.shares.length := by omega
        refine SemL.semC ?_
        simp only [flat, List.cons_append, List.nil_append, List.append_assoc, List.take_succ_cons, List.take_zero, List.take_nil, List.drop_succ_cons, List.drop_zero]
        refine vcN_sound 2 _ _ ?_
        simp (maxSteps := 2000000) only [go_sem, hG, hOw, hxn, hlt]
        (repeat' with_reducible first | refine And.intro ?_ ?_ | intro _ | refine exP ?_ ?_); all_goals try omega
        refine semL_blk ?_
        refine semL_ent (s' := St.of (htF G.lo r (againP r) (ownW r (againP r) i) i) (htH G.lo r (ownW r (againP r) i))) (ent_of [(1, some 1), (6, some 6), (508, some 508), (500, some 500), (501, some 501), (502, some 502), (503, some 503), (504, some 504), (505, some 505), (506, some 506)] (by (simp only [go_sem]) <;> simp [htH,hxn,rw6_ren,lkR]) (by (simp only [go_sem, entH, entH1, nilArr, obOK]) <;> simp [htH,hxn,rw6_ren,lkR]) (by simp [injR, apart]) (by simp [coverR, usH, htH,hxn,rw6_ren,lkR]) (by simp [hNm, lkR, names])) ?_
        refine semL_code (l' := flat (bkOf 1 Tryz.f3.body)) (by kernel_rfl) ?_
        refine htRound r hg i hil hG hOw hNm ?_
        intro s hs
        refine both_same2 ?_
        show SemL _ _ _ _ _
        refine semL_ent hs ?_
        refine vcN_sound 2 _ _ ?_
        simp only [go_sem, hG, hOw]
        (repeat' with_reducible first | refine And.intro ?_ ?_ | intro _ | refine exP ?_ ?_); all_goals try omega
        exact ⟨i + 1, by omega, by omega, ent_of [(1, some 1), (6, some 6), (508, some 508), (500, some 500), (501, some 501), (502, some 502), (503, some 503), (504, some 504), (505, some 505), (506, some 506)] (by (simp only [go_sem]) <;> simp [htH,htF,hxn,rw6_ren,lkR]) (by (simp only [go_sem, entH, entH1, nilArr, obOK]) <;> simp [htH,htF,hxn,rw6_ren,lkR]) (by simp [injR, apart]) (by simp [coverR, usH, htH,htF,hxn,rw6_ren,lkR]) (by simp [hNm, lkR, names])⟩
      · obtain rfl : i = r.shares.length := by omega
        refine vc_sound _ _ _ ?_
        simp (maxSteps := 2000000) only [go_sem, hG, hOw, hxn]
        refine ⟨fun h => absurd h (Int.lt_irrefl _), fun _ => ⟨(), ?_⟩⟩
        unfold newW
        exact ent_of [(1, some 1), (6, some 6), (508, some 508), (500, some 500), (501, some 501), (502, some 502), (503, some 503), (504, some 504), (505, some 505), (506, some 506)] (by (simp only [go_sem]) <;> simp [htH,hxn,rw6_ren,lkR]) (by (simp only [go_sem, entH, entH1, nilArr, obOK]) <;> simp [htH,hxn,rw6_ren,lkR]) (by simp [injR, apart]) (by simp [coverR, usH, htH,hxn,rw6_ren,lkR]) (by simp [hNm, lkR, names])
    rintro ⟨⟩ -
    have hWW := newW_len r
    obtain ⟨W, hW⟩ : ∃ W, W = newW r := ⟨_, rfl⟩
    rw [← hW] at hWW ⊢
    refine vcN_sound 2 _ _ ?_
    simp only [go_sem, hG, hOw]
    refine semL_mid (fun _ : Unit => St.of (htG r (againP r) W r.text.length r.text.length) (htI G.lo r W r.text.length)) (fun _ => True) ?_ ?_
    · refine vc_sound _ _ _ ?_
      simp only [go_sem, hG, hOw]
      refine semC_loop (fun k : Nat => St.of (htG r (againP r) W k k) (htI G.lo r W k)) (fun k => k ≤ r.text.length) (fun k => r.text.length - k) 0 (by simp) (by unfold htG htI; exact ent_of [(1, some 1), (6, some 6), (508, some 508), (500, some 500), (501, some 501), (502, some 502), (503, some 503), (504, some 504), (505, some 505), (506, some 506)] (by (simp only [go_sem]) <;> simp [htH,C6,LLk_zero,rw6_ren,lkR]) (by (simp only [go_sem, entH, entH1, nilArr, obOK]) <;> simp [htH,C6,LLk_zero,rw6_ren,lkR]) (by simp [injR, apart]) (by simp [coverR, usH, htH,C6,LLk_zero,rw6_ren,lkR]) (by simp [hNm, lkR, names])) ?_
      rintro k hk
      by_cases hkl : k < r.text.length
      · have hlt : (k : Int) < r.text.length := by omega
        refine SemL.semC ?_
        simp only [flat, List.cons_append, List.nil_append, List.append_assoc, List.take_succ_cons, List.take_zero, List.take_nil, List.drop_succ_cons, List.drop_zero]
        refine vcN_sound 2 _ _ ?_
        simp (maxSteps := 2000000) only [go_sem, hG, hOw, hlt]
        (repeat' with_reducible first | refine And.intro ?_ ?_ | intro _ | refine exP ?_ ?_); all_goals try omega
        refine semL_blk ?_
        refine semL_ent (s' := St.of (htG r (againP r) W k k) (htI G.lo r W k)) (ent_of [(1, some 1), (6, some 6), (508, some 508), (500, some 500), (501, some 501), (502, some 502), (503, some 503), (504, some 504), (505, some 505), (506, some 506)] (by (simp only [go_sem]) <;> simp [htI,rw6_ren,lkR]) (by (simp only [go_sem, entH, entH1, nilArr, obOK]) <;> simp [htI,rw6_ren,lkR]) (by simp [injR, apart]) (by simp [coverR, usH, htI,rw6_ren,lkR]) (by simp [hNm, lkR, names])) ?_
        refine semL_code (l' := flat (bkOf 5 Tryz.f3.body)) (by kernel_rfl) ?_
        refine htChap r hg (againP r) W hWW h6 k hkl hG hOw hNm ?_
        intro s hs
        show SemL _ _ _ _ _
        refine semL_ent hs ?_
        refine vcN_sound 2 _ _ ?_
        simp only [go_sem, hG, hOw]
        (repeat' with_reducible first | refine And.intro ?_ ?_ | intro _ | refine exP ?_ ?_); all_goals try omega
        exact ⟨k + 1, by omega, by omega, ent_of [(1, some 1), (6, some 6), (508, some 508), (500, some 500), (501, some 501), (502, some 502), (503, some 503), (504, some 504), (505, some 505), (506, some 506)] (by (simp only [go_sem]) <;> simp [htI,rw6_ren,lkR]) (by (simp only [go_sem, entH, entH1, nilArr, obOK]) <;> simp [htI,rw6_ren,lkR]) (by simp [injR, apart]) (by simp [coverR, usH, htI,rw6_ren,lkR]) (by simp [hNm, lkR, names])⟩
      · obtain rfl : k = r.text.length := by omega
        refine vc_sound _ _ _ ?_
        simp only [go_sem, hG, hOw]
        refine ⟨fun h => absurd h (Int.lt_irrefl _), fun _ => ⟨(), ?_⟩⟩
        exact ent_of [(1, some 1), (6, some 6), (508, some 508), (500, some 500), (501, some 501), (502, some 502), (503, some 503), (504, some 504), (505, some 505), (506, some 506)] (by (simp only [go_sem]) <;> simp [htI,rw6_ren,lkR]) (by (simp only [go_sem, entH, entH1, nilArr, obOK]) <;> simp [htI,rw6_ren,lkR]) (by simp [injR, apart]) (by simp [coverR, usH, htI,rw6_ren,lkR]) (by simp [hNm, lkR, names])
    rintro ⟨⟩ -
    have hlenT : (txtL r.text W).length = r.text.length := txtL_len _ _
    have hT : txtL r.text W = (newR r).text := by rw [hW]; rfl
    have htake : List.take r.text.length (List.map (chE G.lo) (txtL r.text W)) = List.map (chE G.lo) (txtL r.text W) := List.take_of_length_le (by rw [List.length_map, hlenT]; exact Nat.le_refl _)
    have hfz := frz_txt (lo := G.lo) r.text W h6 hWW
    refine semL_ent (s' := St.of [(1, .ptr 1 0), (3, bl true), (4, ints 0 (againP r)), (6, .ptr 6 0)] [(1, .box (roC 0 r)), (6, .box [chs G.lo (txtL r.text W), hps G.lo r.helpers, srs G.lo r.shares, ses G.lo r.sheets])]) (ent_frz (fun i => [500, 501, 502, 503, 504, 505, 506, 508].contains i) (ent_of [(1, some 1), (6, some 6)] (by (simp only [↓hfz, go_sem]) <;> simp) (by (simp only [↓hfz, htake, entH, entH1, nilArr, obOK, go_sem]) <;> simp [htake]) (by simp [injR, apart]) (by simp [coverR, usH]) (by simp [hNm, lkR, names]))) ?_
    rw [hT]
    have hN := newR_good hg
    have hNo := newR_okr hg
    have hT1 : Pm.Sub (chs G.lo (newR r).text) (chs 0 (newR r).text) := by first | exact Subs.refl _ | (repeat' (first | exact Subs.nil | exact Sub.refl _ | exact Sub.lo (Nat.zero_le _) | refine Subs.cons ?_ ?_ | refine Subs.agg ?_ | refine Subs.fp ?_ | refine Subs.tup ?_ | refine Sub.map (Nat.zero_le _) (fun _ => ?_)))
    have hH1 : Pm.Sub (hps G.lo r.helpers) (hps 0 r.helpers) := by first | exact Subs.refl _ | (repeat' (first | exact Subs.nil | exact Sub.refl _ | exact Sub.lo (Nat.zero_le _) | refine Subs.cons ?_ ?_ | refine Subs.agg ?_ | refine Subs.fp ?_ | refine Subs.tup ?_ | refine Sub.map (Nat.zero_le _) (fun _ => ?_)))
    have hS1 : Pm.Sub (srs G.lo r.shares) (srs 0 r.shares) := by first | exact Subs.refl _ | (repeat' (first | exact Subs.nil | exact Sub.refl _ | exact Sub.lo (Nat.zero_le _) | refine Subs.cons ?_ ?_ | refine Subs.agg ?_ | refine Subs.fp ?_ | refine Subs.tup ?_ | refine Sub.map (Nat.zero_le _) (fun _ => ?_)))
    have hX1 : Pm.Sub (ses G.lo r.sheets) (ses 0 r.sheets) := by first | exact Subs.refl _ | (repeat' (first | exact Subs.nil | exact Sub.refl _ | exact Sub.lo (Nat.zero_le _) | refine Subs.cons ?_ ?_ | refine Subs.agg ?_ | refine Subs.fp ?_ | refine Subs.tup ?_ | refine Sub.map (Nat.zero_le _) (fun _ => ?_)))
    have hsub : Pm.Sub (.agg [chs G.lo (newR r).text, hps G.lo r.helpers, srs G.lo r.shares, ses G.lo r.sheets]) (roE 0 (newR r)) := Subs.agg (.cons hT1 (.cons hH1 (.cons hS1 (.cons hX1 .nil))))
    have hch := LCheck_ok (newR r).text
    rw [newR_text hg, if_pos rfl] at hch
    have hck := Check_ok (newR r) hNo
    rw [newR_e hg] at hck
    refine vcN_sound 2 _ _ ?_
    simp only [go_sem, hG, hOw]
    refine call_pure hch (.cons (Subs.agg (.cons hT1 .nil)) .nil) rfl (by simp [chk, hG]) ?_
    simp only [go_sem, hG, hOw]
    refine call_pure hck (.cons hsub .nil) rfl (by simp [chk, hG]) ?_
    simp only [go_sem, hG, hOw]
    refine semL_ent (s' := St.of [(1, .ptr 1 0), (3, bl true), (4, ints 0 (againP r)), (6, .ptr 6 0)] [(1, .box (roC 0 r)), (6, .box [chs G.lo (newR r).text, hps G.lo r.helpers, srs G.lo r.shares, ses G.lo r.sheets])]) (entA [(1, some 1), (6, some 6)]) ?_
    refine vcN_sound 1 _ _ ?_
    simp only [go_sem, hG, hOw]
    refine semL_mid (fun _ : Unit => St.of [(3, bl true)] []) (fun _ => True) ?_ ?_
    · refine vc_sound _ _ _ ?_
      simp only [go_sem, hG, hOw]
      refine semC_loop (fun i : Nat => St.of [(1, .ptr 1 0), (3, bl true), (4, ints 0 (againP r)), (6, .ptr 6 0), (134, ses G.lo r.sheets), (135, i64 r.sheets.length), (136, i64 i)] [(1, .box (roC 0 r)), (6, .box [chs G.lo (newR r).text, hps G.lo r.helpers, srs G.lo r.shares, ses G.lo r.sheets])]) (fun i => i ≤ r.shares.length) (fun i => r.shares.length - i) 0 (by simp) (entA [(1, some 1), (6, some 6)]) ?_
      rintro i hi
      have hnext : ∀ s, Ent G s (St.of [(1, .ptr 1 0), (3, bl true), (4, ints 0 (againP r)), (6, .ptr 6 0), (134, ses G.lo r.sheets), (135, i64 r.sheets.length), (136, i64 (i + 1 : Nat))] [(1, .box (roC 0 r)), (6, .box [chs G.lo (newR r).text, hps G.lo r.helpers, srs G.lo r.shares, ses G.lo r.sheets])]) → True := fun _ _ => trivial
      have hhas := has_ok (againP r) i
      have hAm := againP_mem r hg
      refine vc_sound _ _ _ ?_
      simp only [go_sem, hG, hOw]
      (repeat' with_reducible first | refine And.intro ?_ ?_ | intro _ | refine exP ?_ ?_); all_goals try omega
      · rename_i hlt hb
        have hil : i < r.shares.length := by omega
        refine call_pure hhas (by first | exact Subs.refl _ | (repeat' (first | exact Subs.nil | exact Sub.refl _ | exact Sub.lo (Nat.zero_le _) | refine Subs.cons ?_ ?_ | refine Subs.agg ?_ | refine Subs.fp ?_ | refine Subs.tup ?_ | refine Sub.map (Nat.zero_le _) (fun _ => ?_)))) (by first | rfl | simp [allP, all0, pureV, pure0, *]) (by simp [chk, hG]) ?_
        simp only [go_sem, hG, hOw]
        (repeat' with_reducible first | refine And.intro ?_ ?_ | intro _ | refine exP ?_ ?_); all_goals try omega
        · rename_i hh
          exact ⟨i + 1, by omega, by omega, entA [(1, some 1), (6, some 6)]⟩
        · rename_i hh
          have hix : i < r.sheets.length := by omega
          have hk : kpB r (againP r) i = true := by rw [kp_at hix]; unfold hasL; rw [hb, hh]; rfl
          obtain ⟨x1, x2⟩ := kept_expl hg hil hk
          have hex := Explain_ok (newR r) hNo i
          rw [x1, x2] at hex
          have hln := lines_ok (newR r) hN i hil
          rw [kept_part hg hil hk] at hln
          have hsl := SameLines_ok r.sheets[i].lines r.sheets[i].lines
          rw [decide_eq_true (rfl : r.sheets[i].lines = r.sheets[i].lines)] at hsl
          refine call_pure hex (.cons hsub (.cons (Sub.refl _) .nil)) rfl (by simp [chk, hG]) ?_
          simp only [go_sem, hG, hOw]
          (repeat' with_reducible first | refine And.intro ?_ ?_ | intro _ | refine exP ?_ ?_); all_goals try omega
          refine semC_draw0 mixed (by kernel_rfl) ?_
          simp only [go_sem, hG, hOw]
          (repeat' with_reducible first | refine And.intro ?_ ?_ | intro _ | refine exP ?_ ?_); all_goals try omega
          refine ⟨_, callGives hln (.cons hsub (.cons (Sub.refl _) .nil)) rfl, ?_⟩
          simp only [go_sem, hG, hOw]
          (repeat' with_reducible first | refine And.intro ?_ ?_ | intro _ | refine exP ?_ ?_); all_goals try omega
          refine ⟨_, callGives hsl (.cons (Sub.refl _) (.cons (by first | exact Subs.refl _ | (repeat' (first | exact Subs.nil | exact Sub.refl _ | exact Sub.lo (Nat.zero_le _) | refine Subs.cons ?_ ?_ | refine Subs.agg ?_ | refine Subs.fp ?_ | refine Subs.tup ?_ | refine Sub.map (Nat.zero_le _) (fun _ => ?_)))) .nil)) rfl, ?_⟩
          simp only [go_sem, hG, hOw]
          (repeat' with_reducible first | refine And.intro ?_ ?_ | intro _ | refine exP ?_ ?_); all_goals try omega
          exact ⟨i + 1, by omega, by omega, entA [(1, some 1), (6, some 6)]⟩
      · rename_i hlt hb
        exact ⟨i + 1, by omega, by omega, entA [(1, some 1), (6, some 6)]⟩
      · exact ⟨(), ent_of0 (by (simp only [go_sem]) <;> simp) hNm⟩
    rintro ⟨⟩ -
    refine vcN_sound 3 _ _ ?_
    simp only [go_sem, hG, hOw]
end Go.Proofs.YtagfopbijboajaaGreatDoor
