import Derived.Test.YtagfopbijboajaaGreatDoorQY23
import Derived.Test.YtagfopbijboajaaGreatDoorQY30
import Derived.Test.YtagfopbijboajaaGreatDoorQY31
import Derived.Test.YtagfopbijboajaaGreatDoorQY33
import Derived.Test.YtagfopbijboajaaGreatDoorQY34
namespace Go.Proofs.YtagfopbijboajaaGreatDoor
open Go Pm
set_option linter.unusedSimpArgs false
set_option linter.unusedVariables false
set_option maxHeartbeats 4000000
set_option maxRecDepth 100000
theorem htorn_ok (r : Ro) (hr : Good r) (i : Nat) (hi : i < r.shares.length) : Gives Tryz.prog 76 [.fp (dkC 0 r), i64 i] (fun _ => bl (tornI r i)) := by
  have hs := hr.s i hi
  have hl := hr.ll
  have hx := hr.xn
  have hxi : i < r.sheets.length := by omega
  have hx2 := (hr.ok.x.2 _ (List.getElem_mem hxi)).1
  have e := tornI_at r hi hxi
  refine pure_intro (ow := fun _ => false) Tryz.func76 Tryz.ntmps76 rfl (by kernel_rfl) (by simp) rfl (by decide) fun G hG hOw hNm hB => ?_; simp only [go_sem, hG, hOw]
  refine semC_draw0 mixed (by kernel_rfl) ?_
  simp only [go_sem, hG, hOw]
  (repeat' with_reducible first | refine And.intro ?_ ?_ | intro _ | refine exP ?_ ?_); all_goals try omega
  · rename_i h
    refine ⟨_, callGivesA (size_ok r hr i hi), ?_⟩
    simp only [go_sem, hG, hOw]
    (repeat' with_reducible first | refine And.intro ?_ ?_ | intro _ | refine exP ?_ ?_); all_goals try omega
    · rw [e]; simp [tornB, h]
  · rename_i h
    rw [e]; simp [tornB, h]
def badI (r : Ro) (i : Nat) : Bool := match r.sheets[i]? with
  | some x => !x.back || tornI r i
  | none => true
theorem differ1_ok (r : Ro) (hr : Good r) (i : Nat) (hi : i < r.shares.length) : Gives Tryz.prog 77 [i64 i, .fp [.fp (dkC 0 r)]] (fun _ => bl (badI r i)) := by
  have hs := hr.s i hi
  have hl := hr.ll
  have hx := hr.xn
  have hxi : i < r.sheets.length := by omega
  refine pure_intro (ow := fun _ => false) Tryz.func77 Tryz.ntmps77 rfl (by kernel_rfl) (by simp) rfl (by decide) fun G hG hOw hNm hB => ?_; simp only [go_sem, hG, hOw]
  have e : badI r i = (!r.sheets[i].back || tornI r i) := by unfold badI; rw [List.getElem?_eq_getElem hxi]
  rw [e]
  (repeat' with_reducible first | refine And.intro ?_ ?_ | intro _ | refine exP ?_ ?_); all_goals try omega
  · rename_i h
    refine call_pureA (htorn_ok r hr i hi) ?_
    simp only [go_sem, hG, hOw]
    simp [h]
  · rename_i h
    simp [h]
theorem allTorn_ok (r : Ro) (hr : Good r) : Gives Tryz.prog 46 [.fp (dkC 0 r)] (fun n => ints n (numsL (tornI r) r.shares.length)) := by
  have hsn := hr.sn
  refine pure_intro (ow := fun _ => false) Tryz.func46 Tryz.ntmps46 rfl (by kernel_rfl) (by simp) rfl (by decide) fun G hG hOw hNm hB => ?_; simp only [go_sem, hG, hOw]
  refine semC_loop (fun k : Nat => St.of [(0, .fp (dkC 0 r)), (3, .own 9 0 (numsL (tornI r) k).length 1), (10, i64 r.shares.length), (11, i64 k)] [(9, .arr 3 1 ((numsL (tornI r) k).map intE))]) (fun k => k ≤ r.shares.length) (fun k => r.shares.length - k) 0 (by simp) (entA [(9, none)] (by (simp only [go_sem]) <;> simp [numsL]) (by (simp only [go_sem, entH, entH1, nilArr, obOK]) <;> simp [numsL])) ?_
  rintro k hk
  have hle := numsL_le (tornI r) k
  refine vc_sound _ _ _ ?_; simp only [go_sem, hG, hOw]
  (repeat' with_reducible first | refine And.intro ?_ ?_ | intro _ | refine exP ?_ ?_); all_goals try omega
  · rename_i hlt
    have hkl : k < r.shares.length := by omega
    refine call_pureA (htorn_ok r hr k hkl) ?_
    simp only [go_sem, hG, hOw]
    (repeat' with_reducible first | refine And.intro ?_ ?_ | intro _ | refine exP ?_ ?_); all_goals try omega
    · rename_i h2
      have e1 := numsL_succ (tornI r) k
      rw [if_pos h2] at e1
      refine ⟨k + 1, by omega, by omega, ?_⟩
      rw [e1]
      exact entA [(9, some 20)] (by (simp only [go_sem]) <;> simp [intE,i64]) (by (simp only [go_sem, entH, entH1, nilArr, obOK]) <;> simp [intE,i64])
    · rename_i h2
      have e1 := numsL_succ (tornI r) k
      rw [if_neg (by rw [h2]; simp)] at e1
      refine ⟨k + 1, by omega, by omega, ?_⟩
      rw [e1]
      exact entA [(9, some 9)]
  · rename_i hge
    rw [show k = r.shares.length by omega]
    exact .refl _
theorem Equal_ok (l m : List ByteArray) : Gives Tryz.prog 79 [strs 0 l, strs 0 m] (fun _ => bl (decide (l = m))) := by
  refine pure_intro (ow := fun _ => false) Tryz.func79 Tryz.ntmps79 rfl (by kernel_rfl) (by simp) rfl (by decide) fun G hG hOw hNm hB => ?_; simp only [go_sem, hG, hOw]
  have hl := bd_strs (lo := 0) (l := l) hB (by simp)
  refine ⟨fun h => ?_, fun h => ?_⟩
  · rw [decide_eq_false]
    rintro rfl
    simp at h
  have hlen : l.length = m.length := by omega
  refine semC_loop (fun k : Nat => St.of [(0, strs 0 l), (1, strs 0 m), (12, i64 l.length), (13, i64 k)] []) (fun k => k ≤ l.length ∧ l.take k = m.take k) (fun k => l.length - k) 0 (by simp) (ent_of0 (by (simp only [go_sem]) <;> simp) hNm) ?_
  rintro k ⟨hk, hall⟩
  refine vc_sound _ _ _ ?_; simp only [go_sem, hG, hOw]
  refine ⟨fun hlt => ?_, fun hge => ?_⟩
  · refine semC_draw0 mixed (by kernel_rfl) ?_
    simp only [go_sem, hG, hOw]
    refine ⟨by omega, by omega, fun h1 => ?_, fun h1 => ⟨(by first | omega | (simp; omega)), k + 1, ⟨by omega, ?_⟩, by omega, ent_of0 (by (simp only [go_sem]) <;> simp) hNm⟩⟩
    · rw [decide_eq_false]
      rintro rfl
      simp at h1
    · have e : l[k] = m[k] := by simpa using h1
      rw [List.take_add_one, List.take_add_one, hall, List.getElem?_eq_getElem (by omega), List.getElem?_eq_getElem (by omega), e]
  · rw [take_full hk hge, take_full (by omega) (by omega)] at hall
    rw [hall]; simp
set_option maxHeartbeats 4000000
set_option maxRecDepth 100000
theorem EqualFunc_ok (l m : List (List ByteArray)) (hl : l.length ≤ 1000) : Gives Tryz.prog 78 [lns 0 l, lns 0 m, .fn (.func 79) []] (fun _ => bl (decide (l = m))) := by
  refine pure_intro (ow := fun _ => false) Tryz.func78 Tryz.ntmps78 rfl (by kernel_rfl) (by simp) rfl (by decide) fun G hG hOw hNm hB => ?_; simp only [go_sem, hG, hOw]
  have no : l ≠ m → false = decide (l = m) := fun h => by rw [decide_eq_false h]
  (repeat' with_reducible first | refine And.intro ?_ ?_ | intro _ | refine exP ?_ ?_); all_goals try omega
  · rename_i h
    exact no (by rintro rfl; simp at h)
  · rename_i h
    have hlen : l.length = m.length := by omega
    refine semC_loop (fun k : Nat => St.of [(0, lns 0 l), (1, lns 0 m), (2, .fn (.func 79) []), (15, lns 0 l), (16, i64 l.length), (17, i64 k)] []) (fun k => k ≤ l.length ∧ l.take k = m.take k) (fun k => l.length - k) 0 (by simp) (ent_of0 (by (simp only [go_sem]) <;> simp) hNm) ?_
    rintro k ⟨hk, hall⟩
    refine vc_sound _ _ _ ?_; simp only [go_sem, hG, hOw]
    (repeat' with_reducible first | refine And.intro ?_ ?_ | intro _ | refine exP ?_ ?_); all_goals try omega
    · rename_i hlt
      have hkl : k < l.length := by omega
      have hkm : k < m.length := by omega
      refine call_pureA (Equal_ok l[k] m[k]) ?_
      simp only [go_sem, hG, hOw]
      (repeat' with_reducible first | refine And.intro ?_ ?_ | intro _ | refine exP ?_ ?_); all_goals try omega
      · rename_i h2
        exact no (fun e => h2 (by simp [e]))
      · rename_i h2
        exact ⟨k + 1, ⟨by omega, by rw [List.take_add_one, List.take_add_one, hall, List.getElem?_eq_getElem hkl, List.getElem?_eq_getElem hkm, h2]⟩, by omega, ent_of0 (by (simp only [go_sem]) <;> simp) hNm⟩
    · rename_i hge
      rw [take_full hk hge, take_full (by omega) (by omega)] at hall
      rw [hall]; simp
theorem differ_shared (x y : Se) (a b : Sr) (hx : (x.lines.length : Int) = a.to - a.fr + 1) (hy : (y.lines.length : Int) = b.to - b.fr + 1) (h1 : a.fr < b.fr) (h2 : a.to < b.to) (s : Nat) (hs : (s : Int) = max 0 (a.to - b.fr + 1)) :
    ((List.range (a.to - b.fr + 1).toNat).any fun j => diffAt x y a b (b.fr + j)) = !decide (x.lines.drop (x.lines.length - s) = y.lines.take s) := by
  have es : (a.to - b.fr + 1).toNat = s := by omega
  rw [es]
  by_cases h0 : s = 0
  · subst h0
    simp
  have hbf : x.lines.length - s = (b.fr - a.fr).toNat := by omega
  have hsx : (b.fr - a.fr).toNat + s = x.lines.length := by omega
  have hsy : s ≤ y.lines.length := by omega
  rw [hbf]
  have key : ∀ j : Nat, diffAt x y a b (b.fr + j) = !decide (x.lines[(b.fr - a.fr).toNat + j]? = y.lines[j]?) := fun j => by
    unfold diffAt
    rw [show (b.fr + (j : Int) - a.fr).toNat = (b.fr - a.fr).toNat + j by omega, show (b.fr + (j : Int) - b.fr).toNat = j by omega]
  by_cases h : x.lines.drop (b.fr - a.fr).toNat = y.lines.take s
  · rw [decide_eq_true h, Bool.not_true, List.any_eq_false]
    intro j hj
    have hj := List.mem_range.1 hj
    have : x.lines[(b.fr - a.fr).toNat + j]? = y.lines[j]? := by
      have e := congrArg (fun l => l[j]?) h
      simp only [List.getElem?_drop] at e
      rw [e, List.getElem?_take, if_pos hj]
    rw [key, decide_eq_true this]; simp
  · rw [decide_eq_false h, Bool.not_false]
    by_cases hany : ∃ j, j < s ∧ ¬ x.lines[(b.fr - a.fr).toNat + j]? = y.lines[j]?
    · obtain ⟨j, hj, hne⟩ := hany
      refine List.any_eq_true.2 ⟨j, List.mem_range.2 hj, ?_⟩
      rw [key, decide_eq_false hne]; rfl
    · refine absurd (List.ext_getElem? fun j => ?_) h
      rw [List.getElem?_drop, List.getElem?_take]
      split
      · rename_i hj
        by_cases e : x.lines[(b.fr - a.fr).toNat + j]? = y.lines[j]?
        · exact e
        · exact absurd ⟨j, hj, e⟩ hany
      · exact List.getElem?_eq_none (by omega)
theorem hdiffer_ok (r : Ro) (hr : Good r) : Gives Tryz.prog 47 [.fp (dkC 0 r)] (fun n => prs n (prsL (differI r) (r.shares.length - 1))) := by
  have hsn := hr.sn
  have hxn := hr.xn
  have hll := hr.ll
  refine pure_intro (ow := fun _ => false) Tryz.func47 Tryz.ntmps47 rfl (by kernel_rfl) (by simp) rfl (by decide) fun G hG hOw hNm hB => ?_; simp only [go_sem, hG, hOw]
  refine semC_frz (fun i => [1].contains i) ?_
  refine semC_loop (fun k : Nat => St.of [(1, .fp [.fp (dkC 0 r)]), (3, .own 9 0 (prsL (differI r) k).length 2), (4, i64 ((k : Int) + 1))] [(9, .arr 75 2 ((prsL (differI r) k).map prE))]) (fun k => k ≤ r.shares.length - 1) (fun k => r.shares.length - k) 0 (by simp) (entA [(9, none)] (by (simp only [go_sem]) <;> simp [prsL]) (by (simp only [go_sem, entH, entH1, nilArr, obOK]) <;> simp [prsL])) ?_
  rintro k hk
  have hle := prsL_le (differI r) k
  refine vc_sound _ _ _ ?_
  have e11 : (k : Int) + 1 - 1 = k := by omega
  simp (maxSteps := 2000000) only [go_sem, hG, hOw, e11]
  (repeat' with_reducible first | refine And.intro ?_ ?_ | intro _ | refine exP ?_ ?_); all_goals try omega
  · rename_i hlt
    have hk1 : k < r.shares.length := by omega
    have hk2 : k + 1 < r.shares.length := by omega
    have hx1 : k < r.sheets.length := by omega
    have hx2 : k + 1 < r.sheets.length := by omega
    have hs1 := hr.s k hk1
    have hs2 := hr.s (k + 1) hk2
    have hm := hr.mono hk2
    have hT : ((k : Int) + 1).toNat = k + 1 := by omega
    have hC := ContainsFunc_Int 77 [.fp [.fp (dkC 0 r)]] (fun x => badI r x.toNat) [(k : Int), (k : Int) + 1] rfl (fun x hx => by
      rcases List.mem_cons.1 hx with rfl | hx
      · exact differ1_ok r hr k hk1
      · rw [List.mem_singleton] at hx
        subst hx
        simp only [hT]
        exact differ1_ok r hr (k + 1) hk2)
    simp only [List.any_cons, List.any_nil, Int.toNat_natCast, hT, Bool.or_false] at hC
    have b1 : badI r k = (!r.sheets[k].back || tornI r k) := by unfold badI; rw [List.getElem?_eq_getElem hx1]
    have b2 : badI r (k + 1) = (!r.sheets[k + 1].back || tornI r (k + 1)) := by unfold badI; rw [List.getElem?_eq_getElem hx2]
    have t1 := tornI_at r hk1 hx1
    have t2 := tornI_at r hk2 hx2
    have hD := differI_at r hk2 hx2
    have e1 := prsL_succ (differI r) k
    refine step_frz (fun i => [5].contains i) ?_
    simp (maxSteps := 2000000) only [go_sem, hG, hOw, e11]
    (repeat' with_reducible first | refine And.intro ?_ ?_ | intro _ | refine exP ?_ ?_); all_goals try omega
    refine call_pure hC (by first | exact Subs.refl _ | (repeat' (first | exact Subs.nil | exact Sub.refl _ | exact Sub.lo (Nat.zero_le _) | refine Subs.cons ?_ ?_ | refine Subs.agg ?_ | refine Subs.fp ?_ | refine Subs.tup ?_ | refine Sub.map (Nat.zero_le _) (fun _ => ?_)))) (by first | rfl | simp [allP, all0, pureV, pure0, *]) (by simp [chk, hG]) ?_
    simp (maxSteps := 2000000) only [go_sem, hG, hOw, e11]
    (repeat' with_reducible first | refine And.intro ?_ ?_ | intro _ | refine exP ?_ ?_); all_goals try omega
    · rename_i hbad
      have hd : differI r k = false := by
        rw [hD]; unfold differB
        rw [← t1, ← t2]
        rw [b1, b2] at hbad
        cases h1 : r.sheets[k].back <;> cases h2 : r.sheets[k + 1].back <;> cases h3 : tornI r k <;> cases h4 : tornI r (k + 1) <;> simp_all
      rw [hd] at e1
      refine ⟨k + 1, by omega, by omega, ?_⟩
      rw [e1]
      exact entA [(9, some 9)]
    · rename_i hbad
      rw [b1, b2] at hbad
      simp only [Bool.or_eq_false_iff, Bool.not_eq_false'] at hbad
      obtain ⟨⟨g1, g2⟩, g3, g4⟩ := hbad
      have l1 : (r.sheets[k].lines.length : Int) = r.shares[k].to - r.shares[k].fr + 1 := by
        rw [t1] at g2; simpa [tornB, g1] using g2
      have l2 : (r.sheets[k + 1].lines.length : Int) = r.shares[k + 1].to - r.shares[k + 1].fr + 1 := by
        rw [t2] at g4; simpa [tornB, g3] using g4
      refine semC_draw0 mixed (by kernel_rfl) ?_
      simp (maxSteps := 2000000) only [go_sem, hG, hOw, e11, hT]
      (repeat' with_reducible first | refine And.intro ?_ ?_ | intro _ | refine exP ?_ ?_); all_goals try omega
      obtain ⟨s, hs⟩ : ∃ s : Nat, (s : Int) = max 0 (r.shares[k].to - r.shares[k + 1].fr + 1) := ⟨(max 0 (r.shares[k].to - r.shares[k + 1].fr + 1)).toNat, by omega⟩
      have he : (if (0 : Int) < r.shares[k].to - r.shares[k + 1].fr + 1 then r.shares[k].to - r.shares[k + 1].fr + 1 else 0) = (s : Int) := by split <;> omega
      have hsl : s ≤ r.sheets[k].lines.length := by omega
      have hsl2 : s ≤ r.sheets[k + 1].lines.length := by omega
      have hq : ((r.sheets[k].lines.length : Int) - s).toNat = r.sheets[k].lines.length - s := by omega
      refine semC_draw0 mixed (by kernel_rfl) ?_
      simp (maxSteps := 2000000) only [go_sem, hG, hOw, e11, hT, he]
      (repeat' with_reducible first | refine And.intro ?_ ?_ | intro _ | refine exP ?_ ?_); all_goals try omega
      refine semC_draw0 mixed (by kernel_rfl) ?_
      simp (maxSteps := 2000000) only [go_sem, hG, hOw, e11, hT, he, hq]
      (repeat' with_reducible first | refine And.intro ?_ ?_ | intro _ | refine exP ?_ ?_); all_goals try omega
      refine ⟨_, callGivesA (EqualFunc_ok (r.sheets[k].lines.drop (r.sheets[k].lines.length - s)) (r.sheets[k + 1].lines.take s) (by rw [List.length_drop]; omega)), ?_⟩
      have hds := differ_shared r.sheets[k] r.sheets[k + 1] r.shares[k] r.shares[k + 1] l1 l2 hm.1 hm.2 s hs
      have hdf : differI r k = !decide (r.sheets[k].lines.drop (r.sheets[k].lines.length - s) = r.sheets[k + 1].lines.take s) := by
        rw [hD]; unfold differB
        rw [← t1, ← t2, g1, g2, g3, g4, hds]; simp
      simp (maxSteps := 2000000) only [go_sem, hG, hOw, e11]
      (repeat' with_reducible first | refine And.intro ?_ ?_ | intro _ | refine exP ?_ ?_); all_goals try omega
      · rename_i heq
        rw [show differI r k = true by rw [hdf]; simp [heq], if_pos rfl] at e1
        refine ⟨k + 1, by omega, by omega, ?_⟩
        rw [e1]
        exact entA [(9, some 81)] (by (simp only [go_sem]) <;> simp [prE,i64]) (by (simp only [go_sem, entH, entH1, nilArr, obOK]) <;> simp [prE,i64])
      · rename_i heq
        rw [show differI r k = false by rw [hdf]; simp [heq]] at e1
        refine ⟨k + 1, by omega, by omega, ?_⟩
        rw [e1]
        exact entA [(9, some 9)]
  · rename_i hge
    rw [show r.shares.length - 1 = k by omega]
    exact .refl _
open Go Pm
set_option maxHeartbeats 4000000
set_option maxRecDepth 100000
theorem Subs.fn {f : Fn} {l l' : List V} (h : Subs l l') : Sub (.fn f l) (.fn f l') := by
  intro w O y hy
  cases hy with
  | fn _ _ ys hn hr =>
    obtain ⟨h1, h2⟩ := h.spec
    refine .fn _ _ ys (by omega) fun j u y h3 h4 => ?_
    obtain ⟨u0, h5, h6⟩ := h2 j u h3
    exact h6 _ _ _ (hr j u0 y h5 h4)
theorem bfold_mem (c : List Int → Int) (v : List Int → Bool) (n : Nat) : (bfold c v ([], -1) [] n).1 = [] ∨ ((bfold c v ([], -1) [] n).1.length = n ∧ ∀ a ∈ (bfold c v ([], -1) [] n).1, a = 0 ∨ a = 1) := by
  have mem : ∀ {n : Nat} {y : List Int}, y ∈ comps n → y.length = n ∧ ∀ a ∈ y, a = 0 ∨ a = 1 := by
    intro n
    induction n with
    | zero => intro y h; simp [comps] at h; subst h; simp
    | succ n ih =>
      intro y h
      simp only [comps, List.mem_append, List.mem_map] at h
      rcases h with ⟨z, hz, rfl⟩ | ⟨z, hz, rfl⟩ <;> (obtain ⟨h1, h2⟩ := ih hz; refine ⟨by simp [h1], fun a ha => ?_⟩; rcases List.mem_cons.1 ha with rfl | ha)
      · exact .inl rfl
      · exact h2 a ha
      · exact .inr rfl
      · exact h2 a ha
  have gen : ∀ (L : List (List Int)) (a : List Int × Int), (∀ y ∈ L, y.length = n ∧ ∀ a ∈ y, a = 0 ∨ a = 1) → (a.1 = [] ∨ (a.1.length = n ∧ ∀ x ∈ a.1, x = 0 ∨ x = 1)) → ((L.foldl (bstep c v) a).1 = [] ∨ ((L.foldl (bstep c v) a).1.length = n ∧ ∀ x ∈ (L.foldl (bstep c v) a).1, x = 0 ∨ x = 1)) := by
    intro L
    induction L with
    | nil => intro a _ h; exact h
    | cons y r ih =>
      intro a hL ha
      refine ih _ (fun z hz => hL z (by simp [hz])) ?_
      unfold bstep
      split
      · exact .inr (hL y (by simp))
      · exact ha
  unfold bfold
  refine gen _ _ (fun y hy => ?_) (.inl rfl)
  obtain ⟨z, hz, rfl⟩ := List.mem_map.1 hy
  simpa using mem hz
def bestI (r : Ro) : List Int := (bfold costI (okB (numsL (tornI r) r.shares.length) (prsL (differI r) (r.shares.length - 1))) ([], -1) [] r.shares.length).1
theorem bestI_len (r : Ro) (h : r.shares.length ≤ 8) : (bestI r).length ≤ 8 := by
  rcases bfold_mem costI (okB (numsL (tornI r) r.shares.length) (prsL (differI r) (r.shares.length - 1))) r.shares.length with h1 | ⟨h1, _⟩ <;> (unfold bestI; rw [h1])
  · simp
  · exact h
theorem hagain_ok (r : Ro) (hr : Good r) : Gives Tryz.prog 33 [.fp (dkC 0 r)] (fun n => ints n (numsL (fun i => decide (getI (bestI r) i = 0)) (bestI r).length)) := by
  have hsn := hr.sn
  have hbl := bestI_len r hsn
  have hT : ∀ i ∈ numsL (tornI r) r.shares.length, 0 ≤ i ∧ i < r.shares.length := fun i hi => by
    unfold numsL at hi
    obtain ⟨j, hj, rfl⟩ := List.mem_map.1 hi
    have := List.mem_range.1 (List.mem_filter.1 hj).1
    simp; omega
  have hDl := prsL_le (differI r) (r.shares.length - 1)
  have hD : ∀ p ∈ prsL (differI r) (r.shares.length - 1), (0 ≤ p.1 ∧ p.1 < r.shares.length) ∧ 0 ≤ p.2 ∧ p.2 < r.shares.length := fun p hp => by
    unfold prsL at hp
    obtain ⟨j, hj, rfl⟩ := List.mem_map.1 hp
    have := List.mem_range.1 (List.mem_filter.1 hj).1
    simp; omega
  have hB1 := best_ok r.shares.length (by omega) 63 [.fp [ints 0 (numsL (tornI r) r.shares.length)], .fp [prs 0 (prsL (differI r) (r.shares.length - 1))]] rfl rfl costI (okB (numsL (tornI r) r.shares.length) (prsL (differI r) (r.shares.length - 1))) (fun y hy h01 => again1_ok _ _ (by omega) y (by omega) h01 (by rw [hy]; exact hT) (by rw [hy]; exact hD))
  rw [show (bfold costI (okB (numsL (tornI r) r.shares.length) (prsL (differI r) (r.shares.length - 1))) ([], -1) [] r.shares.length).1 = bestI r from rfl] at hB1
  refine pure_intro (ow := fun _ => false) Tryz.func33 Tryz.ntmps33 rfl (by kernel_rfl) (by simp) rfl (by decide) fun G hG hOw hNm hB => ?_; simp only [go_sem, hG, hOw]
  refine call_pureA (allTorn_ok r hr) ?_
  simp only [go_sem, hG, hOw]
  refine call_pureA (hdiffer_ok r hr) ?_
  simp only [go_sem, hG, hOw]
  refine call_pureA (lists_ok r.shares.length) ?_
  simp only [go_sem, hG, hOw]
  refine call_frz (fun i => [3, 4].contains i) ?_
  simp only [go_sem, hG, hOw]
  refine call_pure hB1 (.cons (.refl _) (.cons (Subs.fn (.cons (Subs.fp (.cons (Sub.lo (Nat.zero_le _)) .nil)) (.cons (Subs.fp (.cons (Sub.lo (Nat.zero_le _)) .nil)) .nil))) .nil)) (by first | rfl | simp [allP, all0, pureV, pure0]) (by simp [chk, hG]) ?_
  simp only [go_sem, hG, hOw]
  (repeat' with_reducible first | refine And.intro ?_ ?_ | intro _ | refine exP ?_ ?_); all_goals try omega
  refine semC_loop (fun k : Nat => St.of [(6, .own 9 0 (numsL (fun i => decide (getI (bestI r) i = 0)) k).length 1), (22, ints 0 (bestI r)), (23, i64 (bestI r).length), (24, i64 k)] [(9, .arr 3 1 ((numsL (fun i => decide (getI (bestI r) i = 0)) k).map intE))]) (fun k => k ≤ (bestI r).length) (fun k => (bestI r).length - k) 0 (by simp) (entA [(9, none)] (by (simp only [go_sem]) <;> simp [numsL]) (by (simp only [go_sem, entH, entH1, nilArr, obOK]) <;> simp [numsL])) ?_
  rintro k hk
  have hle := numsL_le (fun i => decide (getI (bestI r) i = 0)) k
  have e1 := numsL_succ (fun i => decide (getI (bestI r) i = 0)) k
  refine vc_sound _ _ _ ?_
  simp only [go_sem, hG, hOw]
  (repeat' with_reducible first | refine And.intro ?_ ?_ | intro _ | refine exP ?_ ?_); all_goals try omega
  · rename_i hlt h2
    have hkl : k < (bestI r).length := by omega
    rw [if_pos (by rw [getI_at hkl]; simpa using h2)] at e1
    refine ⟨k + 1, by omega, by omega, ?_⟩
    rw [e1]
    exact entA [(9, some 34)] (by (simp only [go_sem]) <;> simp [intE,i64]) (by (simp only [go_sem, entH, entH1, nilArr, obOK]) <;> simp [intE,i64])
  · rename_i hlt h2
    have hkl : k < (bestI r).length := by omega
    rw [if_neg (by rw [getI_at hkl]; simpa using h2)] at e1
    refine ⟨k + 1, by omega, by omega, ?_⟩
    rw [e1]
    exact entA [(9, some 9)]
  · rename_i hge
    rw [show k = (bestI r).length by omega]
    exact .refl _
def againP (r : Ro) : List Int := if roundE r = 0 then numsL (fun i => decide (getI (bestI r) i = 0)) (bestI r).length else []
theorem HTorn_ok (r : Ro) (hr : OKr r) : Gives Tryz.prog 18 [roE 0 r] (fun n => .tup [ints n (tornL r), i64 (roundE r)]) := by
  refine pure_intro (ow := fun _ => false) Tryz.func18 Tryz.ntmps18 rfl (by kernel_rfl) (by simp) rfl (by decide) fun G hG hOw hNm hB => ?_; simp only [go_sem, hG, hOw]
  by_cases he : roundE r = 0
  · refine call_pureA (open_good r hr he) ?_
    simp only [go_sem, hG, hOw]
    (repeat' with_reducible first | refine And.intro ?_ ?_ | intro _ | refine exP ?_ ?_); all_goals try omega
    refine call_pureA (allTorn_ok r (good_of hr he)) ?_
    simp only [go_sem, hG, hOw]
    rw [he, show tornL r = numsL (tornI r) r.shares.length by simp [tornL, he]]
    exact .refl _
  · refine call_pureA (open_bad r hr he) ?_
    simp only [go_sem, hG, hOw]
    (repeat' with_reducible first | refine And.intro ?_ ?_ | intro _ | refine exP ?_ ?_); all_goals try omega
    rw [show tornL r = [] by simp [tornL, he]]
    exact Subs.tup (.cons (.nil _ _) (.cons (.refl _) .nil))
theorem HDiffer_ok (r : Ro) (hr : OKr r) : Gives Tryz.prog 20 [roE 0 r] (fun n => .tup [prs n (differL r), i64 (roundE r)]) := by
  refine pure_intro (ow := fun _ => false) Tryz.func20 Tryz.ntmps20 rfl (by kernel_rfl) (by simp) rfl (by decide) fun G hG hOw hNm hB => ?_; simp only [go_sem, hG, hOw]
  by_cases he : roundE r = 0
  · refine call_pureA (open_good r hr he) ?_
    simp only [go_sem, hG, hOw]
    (repeat' with_reducible first | refine And.intro ?_ ?_ | intro _ | refine exP ?_ ?_); all_goals try omega
    refine call_pureA (hdiffer_ok r (good_of hr he)) ?_
    simp only [go_sem, hG, hOw]
    rw [he, show differL r = prsL (differI r) (r.shares.length - 1) by simp [differL, he]]
    exact .refl _
  · refine call_pureA (open_bad r hr he) ?_
    simp only [go_sem, hG, hOw]
    (repeat' with_reducible first | refine And.intro ?_ ?_ | intro _ | refine exP ?_ ?_); all_goals try omega
    rw [show differL r = [] by simp [differL, he]]
    exact Subs.tup (.cons (.nil _ _) (.cons (.refl _) .nil))
theorem HAgain_ok (r : Ro) (hr : OKr r) : Gives Tryz.prog 6 [roE 0 r] (fun n => .tup [ints n (againP r), i64 (roundE r)]) := by
  refine pure_intro (ow := fun _ => false) Tryz.func6 Tryz.ntmps6 rfl (by kernel_rfl) (by simp) rfl (by decide) fun G hG hOw hNm hB => ?_; simp only [go_sem, hG, hOw]
  by_cases he : roundE r = 0
  · refine call_pureA (open_good r hr he) ?_
    simp only [go_sem, hG, hOw]
    (repeat' with_reducible first | refine And.intro ?_ ?_ | intro _ | refine exP ?_ ?_); all_goals try omega
    refine call_pureA (hagain_ok r (good_of hr he)) ?_
    simp only [go_sem, hG, hOw]
    rw [he, show againP r = numsL (fun i => decide (getI (bestI r) i = 0)) (bestI r).length by simp [againP, he]]
    exact .refl _
  · refine call_pureA (open_bad r hr he) ?_
    simp only [go_sem, hG, hOw]
    (repeat' with_reducible first | refine And.intro ?_ ?_ | intro _ | refine exP ?_ ?_); all_goals try omega
    rw [show againP r = [] by simp [againP, he]]
    exact Subs.tup (.cons (.nil _ _) (.cons (.refl _) .nil))
open Go Pm
set_option maxHeartbeats 4000000
set_option maxRecDepth 100000
def pstep (a : List Int × List (Int × Int)) (p : Int × Int) : List Int × List (Int × Int) :=
  if ((a.1.any fun x => decide (x = p.1)) && a.1.any fun x => decide (x = p.2)) = true then ((a.1.erase p.1).erase p.2, a.2 ++ [p]) else a
def pL (n : Nat) (D : List (Int × Int)) (k : Nat) : List Int := ((D.take k).foldl pstep (allN n, [])).1
def pC (n : Nat) (D : List (Int × Int)) (k : Nat) : List (Int × Int) := ((D.take k).foldl pstep (allN n, [])).2
theorem pL_zero (n : Nat) (D : List (Int × Int)) : pL n D 0 = allN n := rfl
theorem pC_zero (n : Nat) (D : List (Int × Int)) : pC n D 0 = [] := rfl
attribute [go_sem] pL_zero pC_zero
theorem p_yes {n : Nat} {D : List (Int × Int)} {k : Nat} (hk : k < D.length) (h : ((pL n D k).any fun x => decide (x = D[k].1)) = true) (h2 : ((pL n D k).any fun x => decide (x = D[k].2)) = true) :
    pL n D (k + 1) = ((pL n D k).erase D[k].1).erase D[k].2 ∧ pC n D (k + 1) = pC n D k ++ [D[k]] := by
  unfold pL pC at *
  rw [List.take_add_one, List.getElem?_eq_getElem hk, List.foldl_append]
  simp only [Option.toList, List.foldl_cons, List.foldl_nil, pstep, h, h2, Bool.and_self, if_true]
  exact ⟨trivial, trivial⟩
theorem p_no {n : Nat} {D : List (Int × Int)} {k : Nat} (hk : k < D.length) (h : ((pL n D k).any fun x => decide (x = D[k].1)) = false ∨ ((pL n D k).any fun x => decide (x = D[k].2)) = false) :
    pL n D (k + 1) = pL n D k ∧ pC n D (k + 1) = pC n D k := by
  have e : (((pL n D k).any fun x => decide (x = D[k].1)) && ((pL n D k).any fun x => decide (x = D[k].2))) = false := by
    rcases h with h | h <;> simp [h]
  unfold pL pC at *
  rw [List.take_add_one, List.getElem?_eq_getElem hk, List.foldl_append]
  simp only [Option.toList, List.foldl_cons, List.foldl_nil, pstep, e, Bool.false_eq_true, if_false]
  exact ⟨trivial, trivial⟩
theorem pC_le (n : Nat) (D : List (Int × Int)) (k : Nat) (hk : k ≤ D.length) : (pC n D k).length ≤ k := by
  induction k with
  | zero => simp [pC]
  | succ k ih =>
    have := ih (by omega)
    by_cases h : ((pL n D k).any fun x => decide (x = D[k].1)) = true ∧ ((pL n D k).any fun x => decide (x = D[k].2)) = true
    · rw [(p_yes (by omega) h.1 h.2).2]; simp; omega
    · rw [(p_no (by omega) (by rcases Decidable.not_and_iff_or_not.1 h with h | h; exact .inl (Bool.eq_false_iff.2 h); exact .inr (Bool.eq_false_iff.2 h))).2]; omega
theorem any_mem (L : List Int) (a : Int) : (L.any fun x => decide (x = a)) = decide (a ∈ L) := by
  rw [Bool.eq_iff_iff, List.any_eq_true]
  simp
theorem proof_fold (d : Nat → Bool) (n : Nat) : ∀ m, m + 1 ≤ n ∨ m = 0 →
    let a := (prsL d m).foldl pstep (allN n, [])
    a.2 = prf1 d m ∧ a.1.Nodup ∧ (m < n → ((m : Int) ∈ a.1 ↔ prf2 d m < m)) ∧ ∀ x : Int, (m : Int) < x → x < n → x ∈ a.1 := by
  intro m
  induction m with
  | zero =>
    intro _
    refine ⟨rfl, allN_nodup n, fun h => ?_, fun x h1 h2 => ?_⟩
    · simp only [prsL, List.range_zero, List.filter_nil, List.map_nil, List.foldl_nil, prf2_zero]
      rw [mem_allN]; omega
    · simp only [prsL, List.range_zero, List.filter_nil, List.map_nil, List.foldl_nil]
      rw [mem_allN]; omega
  | succ m ih =>
    intro hm
    obtain ⟨h1, h2, h3, h4⟩ := ih (by omega)
    have hl2 := prf2_le d m
    have h3 := h3 (by omega)
    have h5 := h4 ((m : Int) + 1) (by omega) (by omega)
    rw [prsL_succ]
    by_cases hd : d m = true
    · rw [if_pos hd, List.foldl_append]
      simp only [List.foldl_cons, List.foldl_nil]
      generalize (prsL d m).foldl pstep (allN n, []) = A at *
      by_cases hin : (m : Int) ∈ A.1
      · have e : pstep A ((m : Int), (m : Int) + 1) = ((A.1.erase (m : Int)).erase ((m : Int) + 1), A.2 ++ [((m : Int), (m : Int) + 1)]) := by
          unfold pstep
          rw [any_mem, any_mem]; simp [hin, h5]
        rw [e]
        obtain ⟨g1, g2⟩ := prf_yes (h3.1 hin) hd
        refine ⟨by rw [g1, ← h1], (h2.erase _).erase _, fun _ => ?_, fun x q1 q2 => ?_⟩
        · rw [g2]
          constructor
          · intro q
            have := ((h2.erase _).mem_erase_iff.1 q).1
            exact absurd (by push_cast; rfl) this
          · intro q; push_cast at q; omega
        · rw [(h2.erase _).mem_erase_iff, h2.mem_erase_iff]
          push_cast at q1
          exact ⟨by omega, by omega, h4 x (by omega) q2⟩
      · have e : pstep A ((m : Int), (m : Int) + 1) = A := by
          unfold pstep
          rw [any_mem, any_mem]; simp [hin]
        rw [e]
        obtain ⟨g1, g2⟩ := prf_no (d := d) (k := m) (.inl (fun q => hin (h3.2 q)))
        refine ⟨by rw [g1, ← h1], h2, fun _ => ?_, fun x q1 q2 => h4 x (by push_cast at q1; omega) q2⟩
        rw [g2]
        push_cast
        exact ⟨fun _ => by omega, fun _ => h5⟩
    · rw [if_neg hd]
      obtain ⟨g1, g2⟩ := prf_no (d := d) (k := m) (.inr (by simpa using hd))
      refine ⟨by rw [g1, ← h1], h2, fun _ => ?_, fun x q1 q2 => h4 x (by push_cast at q1; omega) q2⟩
      rw [g2]
      push_cast
      exact ⟨fun _ => by omega, fun _ => h5⟩
theorem HProof_ok (r : Ro) (hr : OKr r) : Gives Tryz.prog 21 [roE 0 r] (fun n => .tup [ints n (tornL r), prs n (proofL r), i64 (roundE r)]) := by
  refine pure_intro (ow := fun _ => false) Tryz.func21 Tryz.ntmps21 rfl (by kernel_rfl) (by simp) rfl (by decide) fun G hG hOw hNm hB => ?_; simp only [go_sem, hG, hOw]
  by_cases he : roundE r = 0
  · have hg := good_of hr he
    have hsn := hg.sn
    rw [show tornL r = numsL (tornI r) r.shares.length by simp [tornL, he], he]
    obtain ⟨D, hD⟩ : ∃ D, D = prsL (differI r) (r.shares.length - 1) := ⟨_, rfl⟩
    have hDl : D.length ≤ 8 := by rw [hD]; have := prsL_le (differI r) (r.shares.length - 1); omega
    have hp : proofL r = pC r.shares.length D D.length := by
      rw [show proofL r = prf1 (differI r) (r.shares.length - 1) by simp [proofL, he]]
      unfold pC
      rw [List.take_length, hD]
      exact (proof_fold (differI r) r.shares.length (r.shares.length - 1) (by omega)).1.symm
    rw [hp]
    refine call_pureA (open_good r hr he) ?_
    simp only [go_sem, hG, hOw]
    (repeat' with_reducible first | refine And.intro ?_ ?_ | intro _ | refine exP ?_ ?_); all_goals try omega
    refine semC_cut (fun _ : Unit => St.of [(3, .v (.slice none 0 0)), (5, .fp (dkC G.lo r)), (6, .mp 98)] [(98, .map (.int .i64) (idsM (allN r.shares.length)))]) (fun _ => True) ?_ ?_
    · refine semC_loop (fun k : Nat => St.of [(3, .v (.slice none 0 0)), (5, .fp (dkC G.lo r)), (6, .mp 98), (24, i64 r.shares.length), (25, i64 k)] [(98, .map (.int .i64) (idsM (allN k)))]) (fun k => k ≤ r.shares.length) (fun k => r.shares.length - k) 0 (by simp) (entA [(98, some 18)]) ?_
      rintro k hk
      have hup := upM_all k
      refine vc_sound _ _ _ ?_
      simp (maxSteps := 2000000) only [go_sem, hG, hOw, hup]
      (repeat' with_reducible first | refine And.intro ?_ ?_ | intro _ | refine exP ?_ ?_); all_goals try omega
      · exact ⟨k + 1, by omega, by omega, entA [(98, some 98)]⟩
      · rename_i hge
        obtain rfl : k = r.shares.length := by omega
        exact ⟨(), entA [(98, some 98)]⟩
    rintro ⟨⟩ -
    have hdf := hdiffer_ok r hg
    rw [← hD] at hdf
    simp only [go_sem, hG, hOw]
    refine call_pure hdf (by first | exact Subs.refl _ | (repeat' (first | exact Subs.nil | exact Sub.refl _ | exact Sub.lo (Nat.zero_le _) | refine Subs.cons ?_ ?_ | refine Subs.agg ?_ | refine Subs.fp ?_ | refine Subs.tup ?_ | refine Sub.map (Nat.zero_le _) (fun _ => ?_)))) (by first | rfl | simp [allP, all0, pureV, pure0, *]) (by simp [chk, hG]) ?_
    simp only [go_sem, hG, hOw]
    (repeat' with_reducible first | refine And.intro ?_ ?_ | intro _ | refine exP ?_ ?_); all_goals try omega
    refine semC_cut (fun _ : Unit => St.of [(3, .own 97 0 (pC r.shares.length D D.length).length 2), (5, .fp (dkC G.lo r))] [(97, .arr 75 2 ((pC r.shares.length D D.length).map prE))]) (fun _ => True) ?_ ?_
    · refine semC_loop (fun k : Nat => St.of [(3, .own 97 0 (pC r.shares.length D k).length 2), (5, .fp (dkC G.lo r)), (6, .mp 98), (32, prs G.lo D), (33, i64 D.length), (34, i64 k)] [(97, .arr 75 2 ((pC r.shares.length D k).map prE)), (98, .map (.int .i64) (idsM (pL r.shares.length D k)))]) (fun k => k ≤ D.length) (fun k => D.length - k) 0 (by simp) (entA [(97, none), (98, some 98)]) ?_
      rintro k hk
      have hle := pC_le r.shares.length D k hk
      obtain ⟨LL, hLL⟩ : ∃ LL, LL = pL r.shares.length D k := ⟨_, rfl⟩
      rw [← hLL]
      have i1 : Int.toNat 1 = 1 := rfl
      have hd1 : ∀ (L : List Int) (x : Int), delM (idsM L) (.int .i64 x) = idsM (L.erase x) := delM_ids
      refine vc_sound _ _ _ ?_
      simp (maxSteps := 2000000) only [go_sem, hG, hOw, lkM_ids, i1, List.getElem?_cons_succ, List.getElem?_cons_zero, Option.getD_some, hd1]
      (repeat' with_reducible first | refine And.intro ?_ ?_ | intro _ | refine exP ?_ ?_); all_goals try omega
      · rename_i q1 q2 q3
        rw [hLL] at q2 q3
        obtain ⟨e1, e2⟩ := p_yes (n := r.shares.length) (by omega : k < D.length) q2 q3
        refine ⟨k + 1, by omega, by omega, ?_⟩
        rw [e1, e2, ← hLL]
        exact entA [(97, some 51), (98, some 98)] (by (simp only [go_sem]) <;> simp [prE,i64]) (by (simp only [go_sem, entH, entH1, nilArr, obOK]) <;> simp [prE,i64])
      · rename_i q1 q2 q3
        rw [hLL] at q3
        obtain ⟨e1, e2⟩ := p_no (n := r.shares.length) (by omega : k < D.length) (.inr q3)
        refine ⟨k + 1, by omega, by omega, ?_⟩
        rw [e1, e2, ← hLL]
        exact entA [(97, some 97), (98, some 98)]
      · rename_i q1 q2
        rw [hLL] at q2
        obtain ⟨e1, e2⟩ := p_no (n := r.shares.length) (by omega : k < D.length) (.inl q2)
        refine ⟨k + 1, by omega, by omega, ?_⟩
        rw [e1, e2, ← hLL]
        exact entA [(97, some 97), (98, some 98)]
      · rename_i q1
        obtain rfl : k = D.length := by omega
        exact ⟨(), entA [(97, some 97)]⟩
    rintro ⟨⟩ -
    simp only [go_sem, hG, hOw]
    refine call_pureA (allTorn_ok r hg) ?_
    simp only [go_sem, hG, hOw]
    (repeat' with_reducible first | refine And.intro ?_ ?_ | intro _ | refine exP ?_ ?_); all_goals try omega
  · refine call_pureA (open_bad r hr he) ?_
    simp only [go_sem, hG, hOw]
    (repeat' with_reducible first | refine And.intro ?_ ?_ | intro _ | refine exP ?_ ?_); all_goals try omega
    rw [show tornL r = [] by simp [tornL, he], show proofL r = [] by simp [proofL, he]]
    exact Subs.tup (.cons (.nil _ _) (.cons (.nil _ _) (.cons (.refl _) .nil)))
end Go.Proofs.YtagfopbijboajaaGreatDoor
