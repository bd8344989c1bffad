import Derived.Test.YtagfopbijboajaaDoorQX23
import Derived.Test.YtagfopbijboajaaDoorQX32
import Derived.Test.YtagfopbijboajaaDoorQX37
namespace Go.Proofs.YtagfopbijboajaaDoor
open Go Pm
set_option linter.unusedSimpArgs false
set_option linter.unusedVariables false
set_option maxHeartbeats 4000000
set_option maxRecDepth 100000
theorem htorn_ok (r : Ro) (hr : Good r) (i : Nat) (hi : i < r.shares.length) : Gives Tryd.prog 47 [.fp (dkC 0 r), i64 i] (fun _ => bl (tornI r i)) := by
  have hs := hr.s i hi
  have hl := hr.ll
  have hx := hr.xn
  have hxi : i < r.sheets.length := by omega
  have hx2 := (hr.ok.x.2 _ (List.getElem_mem hxi)).1
  have e := tornI_at r hi hxi
  refine pure_intro (ow := fun _ => false) Tryd.func47 Tryd.ntmps47 rfl (by kernel_rfl) (by simp) rfl (by decide) fun G hG hOw hNm hB => ?_; simp only [go_sem, hG, hOw]
  refine semC_draw0 mixed (by kernel_rfl) ?_
  simp only [go_sem, hG, hOw]
  (repeat' with_reducible first | refine And.intro ?_ ?_ | intro _ | refine exP ?_ ?_); all_goals try omega
  · rename_i h
    refine ⟨_, callGivesA (size_ok r hr i hi), ?_⟩
    simp only [go_sem, hG, hOw]
    (repeat' with_reducible first | refine And.intro ?_ ?_ | intro _ | refine exP ?_ ?_); all_goals try omega
    · rw [e]; simp [tornB, h]
  · rename_i h
    rw [e]; simp [tornB, h]
def badI (r : Ro) (i : Nat) : Bool := match r.sheets[i]? with
  | some x => !x.back || tornI r i
  | none => true
theorem differ1_ok (r : Ro) (hr : Good r) (i : Nat) (hi : i < r.shares.length) : Gives Tryd.prog 63 [i64 i, .fp [.fp (dkC 0 r)]] (fun _ => bl (badI r i)) := by
  have hs := hr.s i hi
  have hl := hr.ll
  have hx := hr.xn
  have hxi : i < r.sheets.length := by omega
  refine pure_intro (ow := fun _ => false) Tryd.func63 Tryd.ntmps63 rfl (by kernel_rfl) (by simp) rfl (by decide) fun G hG hOw hNm hB => ?_; simp only [go_sem, hG, hOw]
  have e : badI r i = (!r.sheets[i].back || tornI r i) := by unfold badI; rw [List.getElem?_eq_getElem hxi]
  rw [e]
  (repeat' with_reducible first | refine And.intro ?_ ?_ | intro _ | refine exP ?_ ?_); all_goals try omega
  · rename_i h
    refine call_pureA (htorn_ok r hr i hi) ?_
    simp only [go_sem, hG, hOw]
    simp [h]
  · rename_i h
    simp [h]
theorem allTorn_ok (r : Ro) (hr : Good r) : Gives Tryd.prog 26 [.fp (dkC 0 r)] (fun n => ints n (numsL (tornI r) r.shares.length)) := by
  have hsn := hr.sn
  refine pure_intro (ow := fun _ => false) Tryd.func26 Tryd.ntmps26 rfl (by kernel_rfl) (by simp) rfl (by decide) fun G hG hOw hNm hB => ?_; simp only [go_sem, hG, hOw]
  refine semC_loop (fun k : Nat => St.of [(0, .fp (dkC 0 r)), (3, .own 9 0 (numsL (tornI r) k).length 1), (10, i64 r.shares.length), (11, i64 k)] [(9, .arr 3 1 ((numsL (tornI r) k).map intE))]) (fun k => k ≤ r.shares.length) (fun k => r.shares.length - k) 0 (by simp) (entA [(9, none)] (by (simp only [go_sem]) <;> simp [numsL]) (by (simp only [go_sem, entH, entH1, nilArr, obOK]) <;> simp [numsL])) ?_
  rintro k hk
  have hle := numsL_le (tornI r) k
  refine vc_sound _ _ _ ?_; simp only [go_sem, hG, hOw]
  (repeat' with_reducible first | refine And.intro ?_ ?_ | intro _ | refine exP ?_ ?_); all_goals try omega
  · rename_i hlt
    have hkl : k < r.shares.length := by omega
    refine call_pureA (htorn_ok r hr k hkl) ?_
    simp only [go_sem, hG, hOw]
    (repeat' with_reducible first | refine And.intro ?_ ?_ | intro _ | refine exP ?_ ?_); all_goals try omega
    · rename_i h2
      have e1 := numsL_succ (tornI r) k
      rw [if_pos h2] at e1
      refine ⟨k + 1, by omega, by omega, ?_⟩
      rw [e1]
      exact entA [(9, some 20)] (by (simp only [go_sem]) <;> simp [intE,i64]) (by (simp only [go_sem, entH, entH1, nilArr, obOK]) <;> simp [intE,i64])
    · rename_i h2
      have e1 := numsL_succ (tornI r) k
      rw [if_neg (by rw [h2]; simp)] at e1
      refine ⟨k + 1, by omega, by omega, ?_⟩
      rw [e1]
      exact entA [(9, some 9)]
  · rename_i hge
    rw [show k = r.shares.length by omega]
    exact .refl _
theorem Equal_ok (l m : List ByteArray) : Gives Tryd.prog 65 [strs 0 l, strs 0 m] (fun _ => bl (decide (l = m))) := by
  refine pure_intro (ow := fun _ => false) Tryd.func65 Tryd.ntmps65 rfl (by kernel_rfl) (by simp) rfl (by decide) fun G hG hOw hNm hB => ?_; simp only [go_sem, hG, hOw]
  have hl := bd_strs (lo := 0) (l := l) hB (by simp)
  refine ⟨fun h => ?_, fun h => ?_⟩
  · rw [decide_eq_false]
    rintro rfl
    simp at h
  have hlen : l.length = m.length := by omega
  refine semC_loop (fun k : Nat => St.of [(0, strs 0 l), (1, strs 0 m), (12, i64 l.length), (13, i64 k)] []) (fun k => k ≤ l.length ∧ l.take k = m.take k) (fun k => l.length - k) 0 (by simp) (ent_of0 (by (simp only [go_sem]) <;> simp) hNm) ?_
  rintro k ⟨hk, hall⟩
  refine vc_sound _ _ _ ?_; simp only [go_sem, hG, hOw]
  refine ⟨fun hlt => ?_, fun hge => ?_⟩
  · refine semC_draw0 mixed (by kernel_rfl) ?_
    simp only [go_sem, hG, hOw]
    refine ⟨by omega, by omega, fun h1 => ?_, fun h1 => ⟨(by first | omega | (simp; omega)), k + 1, ⟨by omega, ?_⟩, by omega, ent_of0 (by (simp only [go_sem]) <;> simp) hNm⟩⟩
    · rw [decide_eq_false]
      rintro rfl
      simp at h1
    · have e : l[k] = m[k] := by simpa using h1
      rw [List.take_add_one, List.take_add_one, hall, List.getElem?_eq_getElem (by omega), List.getElem?_eq_getElem (by omega), e]
  · rw [take_full hk hge, take_full (by omega) (by omega)] at hall
    rw [hall]; simp
set_option maxHeartbeats 4000000
set_option maxRecDepth 100000
theorem EqualFunc_ok (l m : List (List ByteArray)) (hl : l.length ≤ 1000) : Gives Tryd.prog 64 [lns 0 l, lns 0 m, .fn (.func 65) []] (fun _ => bl (decide (l = m))) := by
  refine pure_intro (ow := fun _ => false) Tryd.func64 Tryd.ntmps64 rfl (by kernel_rfl) (by simp) rfl (by decide) fun G hG hOw hNm hB => ?_; simp only [go_sem, hG, hOw]
  have no : l ≠ m → false = decide (l = m) := fun h => by rw [decide_eq_false h]
  (repeat' with_reducible first | refine And.intro ?_ ?_ | intro _ | refine exP ?_ ?_); all_goals try omega
  · rename_i h
    exact no (by rintro rfl; simp at h)
  · rename_i h
    have hlen : l.length = m.length := by omega
    refine semC_loop (fun k : Nat => St.of [(0, lns 0 l), (1, lns 0 m), (2, .fn (.func 65) []), (15, lns 0 l), (16, i64 l.length), (17, i64 k)] []) (fun k => k ≤ l.length ∧ l.take k = m.take k) (fun k => l.length - k) 0 (by simp) (ent_of0 (by (simp only [go_sem]) <;> simp) hNm) ?_
    rintro k ⟨hk, hall⟩
    refine vc_sound _ _ _ ?_; simp only [go_sem, hG, hOw]
    (repeat' with_reducible first | refine And.intro ?_ ?_ | intro _ | refine exP ?_ ?_); all_goals try omega
    · rename_i hlt
      have hkl : k < l.length := by omega
      have hkm : k < m.length := by omega
      refine call_pureA (Equal_ok l[k] m[k]) ?_
      simp only [go_sem, hG, hOw]
      (repeat' with_reducible first | refine And.intro ?_ ?_ | intro _ | refine exP ?_ ?_); all_goals try omega
      · rename_i h2
        exact no (fun e => h2 (by simp [e]))
      · rename_i h2
        exact ⟨k + 1, ⟨by omega, by rw [List.take_add_one, List.take_add_one, hall, List.getElem?_eq_getElem hkl, List.getElem?_eq_getElem hkm, h2]⟩, by omega, ent_of0 (by (simp only [go_sem]) <;> simp) hNm⟩
    · rename_i hge
      rw [take_full hk hge, take_full (by omega) (by omega)] at hall
      rw [hall]; simp
theorem differ_shared (x y : Se) (a b : Sr) (hx : (x.lines.length : Int) = a.to - a.fr + 1) (hy : (y.lines.length : Int) = b.to - b.fr + 1) (h1 : a.fr < b.fr) (h2 : a.to < b.to) (s : Nat) (hs : (s : Int) = max 0 (a.to - b.fr + 1)) :
    ((List.range (a.to - b.fr + 1).toNat).any fun j => diffAt x y a b (b.fr + j)) = !decide (x.lines.drop (x.lines.length - s) = y.lines.take s) := by
  have es : (a.to - b.fr + 1).toNat = s := by omega
  rw [es]
  by_cases h0 : s = 0
  · subst h0
    simp
  have hbf : x.lines.length - s = (b.fr - a.fr).toNat := by omega
  have hsx : (b.fr - a.fr).toNat + s = x.lines.length := by omega
  have hsy : s ≤ y.lines.length := by omega
  rw [hbf]
  have key : ∀ j : Nat, diffAt x y a b (b.fr + j) = !decide (x.lines[(b.fr - a.fr).toNat + j]? = y.lines[j]?) := fun j => by
    unfold diffAt
    rw [show (b.fr + (j : Int) - a.fr).toNat = (b.fr - a.fr).toNat + j by omega, show (b.fr + (j : Int) - b.fr).toNat = j by omega]
  by_cases h : x.lines.drop (b.fr - a.fr).toNat = y.lines.take s
  · rw [decide_eq_true h, Bool.not_true, List.any_eq_false]
    intro j hj
    have hj := List.mem_range.1 hj
    have : x.lines[(b.fr - a.fr).toNat + j]? = y.lines[j]? := by
      have e := congrArg (fun l => l[j]?) h
      simp only [List.getElem?_drop] at e
      rw [e, List.getElem?_take, if_pos hj]
    rw [key, decide_eq_true this]; simp
  · rw [decide_eq_false h, Bool.not_false]
    by_cases hany : ∃ j, j < s ∧ ¬ x.lines[(b.fr - a.fr).toNat + j]? = y.lines[j]?
    · obtain ⟨j, hj, hne⟩ := hany
      refine List.any_eq_true.2 ⟨j, List.mem_range.2 hj, ?_⟩
      rw [key, decide_eq_false hne]; rfl
    · refine absurd (List.ext_getElem? fun j => ?_) h
      rw [List.getElem?_drop, List.getElem?_take]
      split
      · rename_i hj
        by_cases e : x.lines[(b.fr - a.fr).toNat + j]? = y.lines[j]?
        · exact e
        · exact absurd ⟨j, hj, e⟩ hany
      · exact List.getElem?_eq_none (by omega)
theorem hdiffer_ok (r : Ro) (hr : Good r) : Gives Tryd.prog 42 [.fp (dkC 0 r)] (fun n => prs n (prsL (differI r) (r.shares.length - 1))) := by
  have hsn := hr.sn
  have hxn := hr.xn
  have hll := hr.ll
  refine pure_intro (ow := fun _ => false) Tryd.func42 Tryd.ntmps42 rfl (by kernel_rfl) (by simp) rfl (by decide) fun G hG hOw hNm hB => ?_; simp only [go_sem, hG, hOw]
  refine semC_frz (fun i => [1].contains i) ?_
  refine semC_loop (fun k : Nat => St.of [(1, .fp [.fp (dkC 0 r)]), (3, .own 9 0 (prsL (differI r) k).length 2), (4, i64 ((k : Int) + 1))] [(9, .arr 66 2 ((prsL (differI r) k).map prE))]) (fun k => k ≤ r.shares.length - 1) (fun k => r.shares.length - k) 0 (by simp) (entA [(9, none)] (by (simp only [go_sem]) <;> simp [prsL]) (by (simp only [go_sem, entH, entH1, nilArr, obOK]) <;> simp [prsL])) ?_
  rintro k hk
  have hle := prsL_le (differI r) k
  refine vc_sound _ _ _ ?_
  have e11 : (k : Int) + 1 - 1 = k := by omega
  simp (maxSteps := 2000000) only [go_sem, hG, hOw, e11]
  (repeat' with_reducible first | refine And.intro ?_ ?_ | intro _ | refine exP ?_ ?_); all_goals try omega
  · rename_i hlt
    have hk1 : k < r.shares.length := by omega
    have hk2 : k + 1 < r.shares.length := by omega
    have hx1 : k < r.sheets.length := by omega
    have hx2 : k + 1 < r.sheets.length := by omega
    have hs1 := hr.s k hk1
    have hs2 := hr.s (k + 1) hk2
    have hm := hr.mono hk2
    have hT : ((k : Int) + 1).toNat = k + 1 := by omega
    have hC := ContainsFunc_Int 63 [.fp [.fp (dkC 0 r)]] (fun x => badI r x.toNat) [(k : Int), (k : Int) + 1] rfl (fun x hx => by
      rcases List.mem_cons.1 hx with rfl | hx
      · exact differ1_ok r hr k hk1
      · rw [List.mem_singleton] at hx
        subst hx
        simp only [hT]
        exact differ1_ok r hr (k + 1) hk2)
    simp only [List.any_cons, List.any_nil, Int.toNat_natCast, hT, Bool.or_false] at hC
    have b1 : badI r k = (!r.sheets[k].back || tornI r k) := by unfold badI; rw [List.getElem?_eq_getElem hx1]
    have b2 : badI r (k + 1) = (!r.sheets[k + 1].back || tornI r (k + 1)) := by unfold badI; rw [List.getElem?_eq_getElem hx2]
    have t1 := tornI_at r hk1 hx1
    have t2 := tornI_at r hk2 hx2
    have hD := differI_at r hk2 hx2
    have e1 := prsL_succ (differI r) k
    refine step_frz (fun i => [5].contains i) ?_
    simp (maxSteps := 2000000) only [go_sem, hG, hOw, e11]
    (repeat' with_reducible first | refine And.intro ?_ ?_ | intro _ | refine exP ?_ ?_); all_goals try omega
    refine call_pure hC (by first | exact Subs.refl _ | (repeat' (first | exact Subs.nil | exact Sub.refl _ | exact Sub.lo (Nat.zero_le _) | refine Subs.cons ?_ ?_ | refine Subs.agg ?_ | refine Subs.fp ?_ | refine Subs.tup ?_ | refine Sub.map (Nat.zero_le _) (fun _ => ?_)))) (by first | rfl | simp [allP, all0, pureV, pure0, *]) (by simp [chk, hG]) ?_
    simp (maxSteps := 2000000) only [go_sem, hG, hOw, e11]
    (repeat' with_reducible first | refine And.intro ?_ ?_ | intro _ | refine exP ?_ ?_); all_goals try omega
    · rename_i hbad
      have hd : differI r k = false := by
        rw [hD]; unfold differB
        rw [← t1, ← t2]
        rw [b1, b2] at hbad
        cases h1 : r.sheets[k].back <;> cases h2 : r.sheets[k + 1].back <;> cases h3 : tornI r k <;> cases h4 : tornI r (k + 1) <;> simp_all
      rw [hd] at e1
      refine ⟨k + 1, by omega, by omega, ?_⟩
      rw [e1]
      exact entA [(9, some 9)]
    · rename_i hbad
      rw [b1, b2] at hbad
      simp only [Bool.or_eq_false_iff, Bool.not_eq_false'] at hbad
      obtain ⟨⟨g1, g2⟩, g3, g4⟩ := hbad
      have l1 : (r.sheets[k].lines.length : Int) = r.shares[k].to - r.shares[k].fr + 1 := by
        rw [t1] at g2; simpa [tornB, g1] using g2
      have l2 : (r.sheets[k + 1].lines.length : Int) = r.shares[k + 1].to - r.shares[k + 1].fr + 1 := by
        rw [t2] at g4; simpa [tornB, g3] using g4
      refine semC_draw0 mixed (by kernel_rfl) ?_
      simp (maxSteps := 2000000) only [go_sem, hG, hOw, e11, hT]
      (repeat' with_reducible first | refine And.intro ?_ ?_ | intro _ | refine exP ?_ ?_); all_goals try omega
      obtain ⟨s, hs⟩ : ∃ s : Nat, (s : Int) = max 0 (r.shares[k].to - r.shares[k + 1].fr + 1) := ⟨(max 0 (r.shares[k].to - r.shares[k + 1].fr + 1)).toNat, by omega⟩
      have he : (if (0 : Int) < r.shares[k].to - r.shares[k + 1].fr + 1 then r.shares[k].to - r.shares[k + 1].fr + 1 else 0) = (s : Int) := by split <;> omega
      have hsl : s ≤ r.sheets[k].lines.length := by omega
      have hsl2 : s ≤ r.sheets[k + 1].lines.length := by omega
      have hq : ((r.sheets[k].lines.length : Int) - s).toNat = r.sheets[k].lines.length - s := by omega
      refine semC_draw0 mixed (by kernel_rfl) ?_
      simp (maxSteps := 2000000) only [go_sem, hG, hOw, e11, hT, he]
      (repeat' with_reducible first | refine And.intro ?_ ?_ | intro _ | refine exP ?_ ?_); all_goals try omega
      refine semC_draw0 mixed (by kernel_rfl) ?_
      simp (maxSteps := 2000000) only [go_sem, hG, hOw, e11, hT, he, hq]
      (repeat' with_reducible first | refine And.intro ?_ ?_ | intro _ | refine exP ?_ ?_); all_goals try omega
      refine ⟨_, callGivesA (EqualFunc_ok (r.sheets[k].lines.drop (r.sheets[k].lines.length - s)) (r.sheets[k + 1].lines.take s) (by rw [List.length_drop]; omega)), ?_⟩
      have hds := differ_shared r.sheets[k] r.sheets[k + 1] r.shares[k] r.shares[k + 1] l1 l2 hm.1 hm.2 s hs
      have hdf : differI r k = !decide (r.sheets[k].lines.drop (r.sheets[k].lines.length - s) = r.sheets[k + 1].lines.take s) := by
        rw [hD]; unfold differB
        rw [← t1, ← t2, g1, g2, g3, g4, hds]; simp
      simp (maxSteps := 2000000) only [go_sem, hG, hOw, e11]
      (repeat' with_reducible first | refine And.intro ?_ ?_ | intro _ | refine exP ?_ ?_); all_goals try omega
      · rename_i heq
        rw [show differI r k = true by rw [hdf]; simp [heq], if_pos rfl] at e1
        refine ⟨k + 1, by omega, by omega, ?_⟩
        rw [e1]
        exact entA [(9, some 81)] (by (simp only [go_sem]) <;> simp [prE,i64]) (by (simp only [go_sem, entH, entH1, nilArr, obOK]) <;> simp [prE,i64])
      · rename_i heq
        rw [show differI r k = false by rw [hdf]; simp [heq]] at e1
        refine ⟨k + 1, by omega, by omega, ?_⟩
        rw [e1]
        exact entA [(9, some 9)]
  · rename_i hge
    rw [show r.shares.length - 1 = k by omega]
    exact .refl _
end Go.Proofs.YtagfopbijboajaaDoor
