import Derived.Test.YtagfopbijboajaaGreatDoorQY10
import Derived.Test.YtagfopbijboajaaGreatDoorQY13
import Derived.Test.YtagfopbijboajaaGreatDoorQY14
namespace Go.Proofs.YtagfopbijboajaaGreatDoor
open Go Pm
set_option linter.unusedSimpArgs false
set_option linter.unusedVariables false
set_option maxHeartbeats 4000000
set_option maxRecDepth 100000
theorem IndexFunc_Ln (k : FuncId) (cap : List V) (p : List ByteArray → Bool) (l : List (List ByteArray)) (hcap : all0 cap = true) (hf : ∀ x ∈ l, Gives Tryz.prog k ((lnE 0) x ++ cap) (fun _ => bl (p x))) :
    Gives Tryz.prog 101 [.lst 0 1 (l.map (lnE 0)), .fn (.func k) cap] (fun _ => i64 (idxOf p l)) := by
  refine pure_intro (ow := fun _ => false) Tryz.func101 Tryz.ntmps101 rfl (by kernel_rfl) (by simp) rfl (by decide) fun G hG hOw hNm hB => ?_; simp only [go_sem, hG, hOw]
  have hl := bd_lst hB (List.mem_cons_self ..)
  simp only [List.length_map] at hl
  refine semC_loop (fun i : Nat => St.of [(0, .lst 0 1 (l.map (lnE 0))), (1, .fn (.func k) cap), (7, i64 l.length), (8, i64 i)] []) (fun i => i ≤ l.length ∧ (l.take i).all (fun x => !p x) = true) (fun i => l.length - i) 0 (by simp) (entA [] (by (simp only [go_sem]) <;> simp [hcap]) (by (simp only [go_sem, entH, entH1, nilArr, obOK]) <;> simp [hcap])) ?_
  rintro i ⟨hi, hall⟩
  refine vc_sound _ _ _ ?_; simp only [go_sem, hG, hOw]
  (repeat' with_reducible first | refine And.intro ?_ ?_ | intro _ | refine exP ?_ ?_); all_goals try omega
  · rename_i hlt
    have hil : i < l.length := by omega
    refine call_pure (hf l[i] (List.getElem_mem hil)) (Subs.refl _) (by simp [allP, pureV, pure0, all0_allP hcap]) (by simp [chk, hG]) ?_
    simp only [go_sem, hG, hOw]
    (repeat' with_reducible first | refine And.intro ?_ ?_ | intro _ | refine exP ?_ ?_); all_goals try omega
    · rename_i hp
      exact (idxOf_at hil hall hp).symm
    · rename_i hp
      exact ⟨i + 1, ⟨by omega, all_take_succ hil hall (by rw [hp]; rfl)⟩, by omega, entA [] (by (simp only [go_sem]) <;> simp [hcap]) (by (simp only [go_sem, entH, entH1, nilArr, obOK]) <;> simp [hcap])⟩
  · rename_i hge
    rw [take_full hi hge] at hall
    exact (idxOf_no hall).symm
theorem ContainsFunc_Ln (k : FuncId) (cap : List V) (p : List ByteArray → Bool) (l : List (List ByteArray)) (hcap : all0 cap = true) (hf : ∀ x ∈ l, Gives Tryz.prog k ((lnE 0) x ++ cap) (fun _ => bl (p x))) :
    Gives Tryz.prog 90 [.lst 0 1 (l.map (lnE 0)), .fn (.func k) cap] (fun _ => bl (l.any p)) := by
  refine pure_intro (ow := fun _ => false) Tryz.func90 Tryz.ntmps90 rfl (by kernel_rfl) (by simp) rfl (by decide) fun G hG hOw hNm hB => ?_; simp only [go_sem, hG, hOw]
  refine call_pureA (IndexFunc_Ln k cap p l hcap hf) ?_
  simp only [go_sem, hG, hOw]
  rw [idxOf_any]
theorem in1L_ok (n lo hi : Int) : Gives Tryz.prog 68 [i64 n, .fp [i64 lo], .fp [i64 hi]] (fun _ => bl (decide (n < lo) || decide (hi < n))) := by
  refine pure_intro (ow := fun _ => false) Tryz.func68 Tryz.ntmps68 rfl (by kernel_rfl) (by simp) rfl (by decide) fun G hG hOw hNm hB => ?_; simp only [go_sem, hG, hOw]
  (repeat' with_reducible first | refine And.intro ?_ ?_ | intro _ | refine exP ?_ ?_); all_goals try omega
  · rename_i h; rw [decide_eq_false h]; rfl
  · rename_i h; rw [decide_eq_true h]; rfl
theorem inL_ok (lo hi : Int) (l : List Int) : Gives Tryz.prog 36 [i64 lo, i64 hi, .lst 0 1 (l.map intE)] (fun _ => bl (l.all fun n => inB n lo hi)) := by
  refine pure_intro (ow := fun _ => false) Tryz.func36 Tryz.ntmps36 rfl (by kernel_rfl) (by simp) rfl (by decide) fun G hG hOw hNm hB => ?_; simp only [go_sem, hG, hOw]
  refine call_frz (fun i => [3, 4].contains i) ?_
  simp only [go_sem, hG, hOw]
  refine call_pureA (ContainsFunc_Int _ [.fp [i64 lo], .fp [i64 hi]] (fun n => decide (n < lo) || decide (hi < n)) l rfl (fun x _ => in1L_ok x lo hi)) ?_
  simp only [go_sem, hG, hOw]
  rw [List.not_any_eq_all_not]
  congr 1
  funext n
  rw [Bool.eq_iff_iff]; simp [inB]
theorem inL_one (lo hi n : Int) : Gives Tryz.prog 36 [i64 lo, i64 hi, .lst 0 1 [[i64 n]]] (fun _ => bl (inB n lo hi)) := by
  have := inL_ok lo hi [n]
  simpa [intE] using this
theorem in1H_ok (n lo hi : Int) : Gives Tryz.prog 74 [i64 n, .fp [i64 lo], .fp [i64 hi]] (fun _ => bl (decide (n < lo) || decide (hi < n))) := by
  refine pure_intro (ow := fun _ => false) Tryz.func74 Tryz.ntmps74 rfl (by kernel_rfl) (by simp) rfl (by decide) fun G hG hOw hNm hB => ?_; simp only [go_sem, hG, hOw]
  (repeat' with_reducible first | refine And.intro ?_ ?_ | intro _ | refine exP ?_ ?_); all_goals try omega
  · rename_i h; rw [decide_eq_false h]; rfl
  · rename_i h; rw [decide_eq_true h]; rfl
theorem inH_ok (lo hi : Int) (l : List Int) : Gives Tryz.prog 43 [i64 lo, i64 hi, .lst 0 1 (l.map intE)] (fun _ => bl (l.all fun n => inB n lo hi)) := by
  refine pure_intro (ow := fun _ => false) Tryz.func43 Tryz.ntmps43 rfl (by kernel_rfl) (by simp) rfl (by decide) fun G hG hOw hNm hB => ?_; simp only [go_sem, hG, hOw]
  refine call_frz (fun i => [3, 4].contains i) ?_
  simp only [go_sem, hG, hOw]
  refine call_pureA (ContainsFunc_Int _ [.fp [i64 lo], .fp [i64 hi]] (fun n => decide (n < lo) || decide (hi < n)) l rfl (fun x _ => in1H_ok x lo hi)) ?_
  simp only [go_sem, hG, hOw]
  rw [List.not_any_eq_all_not]
  congr 1
  funext n
  rw [Bool.eq_iff_iff]; simp [inB]
theorem inH_one (lo hi n : Int) : Gives Tryz.prog 43 [i64 lo, i64 hi, .lst 0 1 [[i64 n]]] (fun _ => bl (inB n lo hi)) := by
  have := inH_ok lo hi [n]
  simpa [intE] using this
theorem inH_two (lo hi n m : Int) : Gives Tryz.prog 43 [i64 lo, i64 hi, .lst 0 1 [[i64 n], [i64 m]]] (fun _ => bl (inB n lo hi && inB m lo hi)) := by
  have := inH_ok lo hi [n, m]
  simpa [intE] using this
theorem word1_ok (b : UInt8) : Gives Tryz.prog 71 [.v (.int .u8 b.toNat)] (fun _ => bl (!letterB b)) := by
  refine pure_intro (ow := fun _ => false) Tryz.func71 Tryz.ntmps71 rfl (by kernel_rfl) (by simp) rfl (by decide) fun G hG hOw hNm hB => ?_; simp only [go_sem, hG, hOw]
  (repeat' with_reducible first | refine And.intro ?_ ?_ | intro _ | refine exP ?_ ?_); all_goals try omega
  · rename_i h; simp [letterB]; intro; omega
  · rename_i h; simp [letterB]; omega
theorem word_ok (s : ByteArray) : Gives Tryz.prog 39 [.v (.string s)] (fun _ => bl (wordB s)) := by
  refine pure_intro (ow := fun _ => false) Tryz.func39 Tryz.ntmps39 rfl (by kernel_rfl) (by simp) rfl (by decide) fun G hG hOw hNm hB => ?_; simp only [go_sem, hG, hOw]
  refine call_pureA (inL_one 1 12 s.size) ?_
  simp only [go_sem, hG, hOw]
  (repeat' with_reducible first | refine And.intro ?_ ?_ | intro _ | refine exP ?_ ?_); all_goals try omega
  · rename_i h; simp [inB] at h; omega
  · rename_i h
    refine call_pureA (ContainsFunc_Byte _ [] (fun b => !letterB b) s.data.toList rfl (fun b _ => word1_ok b)) ?_
    simp only [go_sem, hG, hOw]
    unfold wordB; rw [h, Bool.and_true, List.not_any_eq_all_not]; simp
  · rename_i h; unfold wordB; rw [h, Bool.and_false]
open Go Pm
set_option maxHeartbeats 4000000
set_option maxRecDepth 100000
def idsM (l : List Int) : List (Value × V) := l.map fun n => (.int .i64 n, .v (.bool true))
theorem lkM_ids (l : List Int) (n : Int) : (lkM (idsM l) (.int .i64 n)).getD (.v (.bool false)) = .v (.bool (l.any fun x => decide (x = n))) := by
  induction l with
  | nil => rfl
  | cons x r ih =>
    simp only [idsM, List.map_cons, lkM, keyB, List.any_cons]
    by_cases h : x = n
    · simp [h]
    · simp only [h, decide_false, Bool.false_eq_true, if_false, Bool.false_or]
      exact ih
theorem upM_ids (l : List Int) (n : Int) (h : (l.any fun x => decide (x = n)) = false) : upM (idsM l) (.int .i64 n) (.v (.bool true)) = idsM (l ++ [n]) := by
  induction l with
  | nil => rfl
  | cons x r ih =>
    simp only [List.any_cons, Bool.or_eq_false_iff, decide_eq_false_iff_not] at h
    simp only [idsM, List.map_cons, upM, keyB, List.cons_append]
    simp only [h.1, decide_false, Bool.false_eq_true, if_false, List.cons.injEq, true_and]
    exact ih h.2
theorem idsM_snd (l : List Int) : (idsM l).map (fun q => q.2) = List.replicate l.length (.v (.bool true)) := by
  induction l with
  | nil => rfl
  | cons x r ih => simp only [idsM, List.map_cons, List.length_cons, List.replicate_succ] at ih ⊢; rw [ih]
theorem okL_rep {f : V → V → Prop} {x : V} {n : Nat} (h : f x x) : okL f (List.replicate n x) (List.replicate n x) = True := by
  induction n with
  | zero => exact eq_true trivial
  | succ n ih => exact eq_true ⟨h, by rw [ih]; trivial⟩
theorem idsM_nil : idsM [] = [] := rfl
attribute [go_sem] idsM_nil idsM_snd okL_rep
theorem map_any {α : Type} (f : α → Int) (l : List α) (n : Int) : ((l.map f).any fun x => decide (x = n)) = l.any fun d => decide (f d = n) := by
  induction l with
  | nil => rfl
  | cons x r ih => simp [ih]
def idsOf {α : Type} (f : α → Int) (l : List α) (k : Nat) : List Int := (l.take k).map f
theorem idsOf_zero {α : Type} (f : α → Int) (l : List α) : idsOf f l 0 = [] := by simp [idsOf]
theorem idsOf_any {α : Type} (f : α → Int) (l : List α) (k : Nat) (n : Int) : ((idsOf f l k).any fun x => decide (x = n)) = (l.take k).any fun d => decide (f d = n) := map_any f _ n
theorem idsOf_up {α : Type} (f : α → Int) (l : List α) (k : Nat) (hk : k < l.length) (h : ((l.take k).any fun d => decide (f d = f l[k])) = false) : upM (idsM (idsOf f l k)) (.int .i64 (f l[k])) (.v (.bool true)) = idsM (idsOf f l (k + 1)) := by
  rw [upM_ids _ _ (by rw [idsOf_any]; exact h)]
  unfold idsOf
  rw [take_snoc_map f l k hk]
attribute [go_sem] idsOf_zero
theorem LCheck1_ok (s : ByteArray) : Gives Tryz.prog 38 [.v (.string s)] (fun _ => bl (!wordB s)) := by
  refine pure_intro (ow := fun _ => false) Tryz.func38 Tryz.ntmps38 rfl (by kernel_rfl) (by simp) rfl (by decide) fun G hG hOw hNm hB => ?_; simp only [go_sem, hG, hOw]
  refine call_pureA (word_ok s) ?_
  simp only [go_sem, hG, hOw]
theorem LCheck_lines (t : List Ch) (k : Nat) {G : Gh} {Q : Exit → St → Prop} (hG : G.n = 64) (hOw : G.ow = fun _ => false) (hNm : G.nm = []) (l : List (List ByteArray)) (hl : l.length ≤ 140737488355328) (hbad : l.all lineB = false → ∀ s', s'.get 3 = i64 10 → Q (.exit 0) s') :
    SemC Tryz.prog G (bkOf 2 Tryz.f10.body) (St.of [(1, .ptr 1 0), (3, i64 0), (4, .mp 15), (17, chs 0 t), (18, i64 t.length), (19, i64 k), (46, lns 0 l), (47, i64 l.length), (48, i64 0)] [(1, .box [chs 0 t]), (15, .map (.int .i64) (idsM (idsOf Ch.id t (k + 1))))])
      (cutQ G 2 (fun _ : Unit => St.of [(1, .ptr 1 0), (3, i64 0), (4, .mp 15), (17, chs 0 t), (18, i64 t.length), (19, i64 k)] [(1, .box [chs 0 t]), (15, .map (.int .i64) (idsM (idsOf Ch.id t (k + 1))))]) (fun _ => l.all lineB = true) Q) := by
  unfold Tryz.f10
  simp only [rgOf, bkOf, rgO, bkO, orElse, Option.bind_some, Option.getD_some, reduceIte, Nat.reduceEqDiff, reduceCtorEq]
  refine semC_loop (fun j : Nat => St.of [(1, .ptr 1 0), (3, i64 0), (4, .mp 15), (17, chs 0 t), (18, i64 t.length), (19, i64 k), (46, lns 0 l), (47, i64 l.length), (48, i64 j)] [(1, .box [chs 0 t]), (15, .map (.int .i64) (idsM (idsOf Ch.id t (k + 1))))]) (fun j => j ≤ l.length ∧ (l.take j).all lineB = true) (fun j => l.length - j) 0 (by simp) (entA [(1, some 1), (15, some 15)]) ?_
  rintro j ⟨hj, hallj⟩
  refine vc_sound _ _ _ ?_; simp only [go_sem, hG, hOw]
  (repeat' with_reducible first | refine And.intro ?_ ?_ | intro _ | refine exP ?_ ?_); all_goals try omega
  · rename_i hlt2
    have hjl : j < l.length := by omega
    have badj : lineB l[j] = false → l.all lineB = false := fun h => all_false hjl h
    refine call_pureA (inL_one 1 10 l[j].length) ?_
    simp only [go_sem, hG, hOw]
    (repeat' with_reducible first | refine And.intro ?_ ?_ | intro _ | refine exP ?_ ?_); all_goals try omega
    · rename_i h5
      refine call_pureA (ContainsFunc_Str _ [] (fun s => !wordB s) l[j] rfl (fun s _ => LCheck1_ok s)) ?_
      simp only [go_sem, hG, hOw]
      have hL : lineB l[j] = !(l[j].any fun s => !wordB s) := by
        unfold lineB; rw [h5, List.not_any_eq_all_not]; simp
      (repeat' with_reducible first | refine And.intro ?_ ?_ | intro _ | refine exP ?_ ?_); all_goals try omega
      · rename_i h6
        exact hbad (badj (by rw [hL, h6]; rfl)) _ (by simp [go_sem])
      · rename_i h6
        exact ⟨j + 1, ⟨by omega, all_take_succ hjl hallj (by rw [hL, h6]; rfl)⟩, by omega, entA [(1, some 1), (15, some 15)]⟩
    · rename_i h5
      exact hbad (badj (by unfold lineB; rw [h5]; rfl)) _ (by simp [go_sem])
  · rename_i hge2
    rw [take_full hj hge2] at hallj
    exact ⟨(), hallj, entA [(1, some 1), (15, some 15)]⟩
theorem LCheck_ok (t : List Ch) : Gives Tryz.prog 10 [txE 0 t] (fun _ => i64 (if textB t then 0 else 10)) := by
  refine pure_intro (ow := fun _ => false) Tryz.func10 Tryz.ntmps10 rfl (by kernel_rfl) (by simp) rfl (by decide) fun G hG hOw hNm hB => ?_; simp only [go_sem, hG, hOw]
  obtain ⟨hb1, hb2⟩ := bd_chs (bd_agg (hB (txE 0 t) (by simp)) (chs 0 t) (by simp))
  refine call_pureA (inL_one 1 6 t.length) ?_
  simp only [go_sem, hG, hOw]
  (repeat' with_reducible first | refine And.intro ?_ ?_ | intro _ | refine exP ?_ ?_); all_goals try omega
  · rename_i h1
    unfold textB
    rw [h1]; rfl
  · rename_i h1
    have bad : ∀ k (h : k < t.length), chapB (t.take k) t[k] = false → textB t = false := fun k h h' => by
      unfold textB
      rw [allPre_bad h h', Bool.and_false]
    refine semC_cut (fun c : Int => St.of [(3, i64 c)] []) (fun c => c = if textB t then 0 else 10) ?_ ?_
    · refine semC_loop (fun k : Nat => St.of [(1, .ptr 1 0), (3, i64 0), (4, .mp 15), (17, chs 0 t), (18, i64 t.length), (19, i64 k)] [(1, .box [chs 0 t]), (15, .map (.int .i64) (idsM (idsOf Ch.id t k)))]) (fun k => k ≤ t.length ∧ allPre chapB [] (t.take k) = true) (fun k => t.length - k) 0 (by simp [allPre]) (entA [(1, some 1), (15, some 15)] (by (simp only [go_sem]) <;> simp [idsOf_zero,idsM_nil]) (by (simp only [go_sem, entH, entH1, nilArr, obOK]) <;> simp [idsOf_zero,idsM_nil])) ?_
      rintro k ⟨hk, hall⟩
      refine vc_sound _ _ _ ?_; simp only [go_sem, hG, hOw]
      (repeat' with_reducible first | refine And.intro ?_ ?_ | intro _ | refine exP ?_ ?_); all_goals try omega
      · rename_i hlt
        have hkl : k < t.length := by omega
        obtain ⟨hc1, hc2⟩ := hb2 _ (List.getElem_mem hkl)
        refine call_pureA (inL_one 0 9999 t[k].id) ?_
        simp (maxSteps := 2000000) only [go_sem, hG, hOw, lkM_ids, idsOf_any]
        (repeat' with_reducible first | refine And.intro ?_ ?_ | intro _ | refine exP ?_ ?_); all_goals try omega
        · rename_i h2 h3
          refine call_pureA (inL_one 1 10 t[k].lines.length) ?_
          have hup := idsOf_up Ch.id t k hkl h3
          simp (maxSteps := 2000000) only [go_sem, hG, hOw, hup]
          (repeat' with_reducible first | refine And.intro ?_ ?_ | intro _ | refine exP ?_ ?_); all_goals try omega
          · rename_i h4
            rw [bad k hkl (by unfold chapB; rw [h4, Bool.and_false]; rfl)]; rfl
          · rename_i h4
            refine semC_cutN (fun _ : Unit => St.of [(1, .ptr 1 0), (3, i64 0), (4, .mp 15), (17, chs 0 t), (18, i64 t.length), (19, i64 k)] [(1, .box [chs 0 t]), (15, .map (.int .i64) (idsM (idsOf Ch.id t (k + 1))))]) (fun _ => t[k].lines.all lineB = true) ?_ ?_
            · refine semC_ent (s' := St.of [(1, .ptr 1 0), (3, i64 0), (4, .mp 15), (17, chs 0 t), (18, i64 t.length), (19, i64 k), (46, lns 0 t[k].lines), (47, i64 t[k].lines.length), (48, i64 0)] [(1, .box [chs 0 t]), (15, .map (.int .i64) (idsM (idsOf Ch.id t (k + 1))))]) (entA [(1, some 1), (15, some 15)]) ?_
              refine semC_code (by kernel_rfl) (LCheck_lines t k hG hOw hNm t[k].lines hc1 fun hb s' hs' => ⟨10, ?_, ?_⟩)
              · rw [bad k hkl (by unfold chapB; rw [hb]; simp)]; rfl
              · exact ent_of0 (by simp [entS, okN, hs', i64]) hNm
            rintro ⟨⟩ hallj
            simp only [go_sem, hG, hOw]
            (repeat' with_reducible first | refine And.intro ?_ ?_ | intro _ | refine exP ?_ ?_); all_goals try omega
            refine ⟨k + 1, ⟨by omega, ?_⟩, by omega, entA [(1, some 1), (15, some 15)]⟩
            rw [allPre_step _ _ _ hkl, hall]
            unfold chapB
            rw [h2, h3, h4, hallj]; rfl
        · rename_i h2 h3
          rw [bad k hkl (by unfold chapB; rw [h3]; simp)]; rfl
        · rename_i h2
          rw [bad k hkl (by unfold chapB; rw [h2]; rfl)]; rfl
      · rename_i hge
        rw [take_full hk hge] at hall
        refine ⟨0, ?_, ent_of0 (by (simp only [go_sem]) <;> simp) hNm⟩
        unfold textB
        rw [h1, hall]; rfl
    · rintro c rfl
      simp only [go_sem, hG, hOw]
      (repeat' with_reducible first | refine And.intro ?_ ?_ | intro _ | refine exP ?_ ?_); all_goals try omega
theorem single_ok (l : List ByteArray) : Gives Tryz.prog 92 [strs 0 l] (fun n => .agg [.lst n 2 [[i64 0, .lst n 1 [[strs 0 l]]]]]) := by
  refine pure_intro (ow := fun _ => false) Tryz.func92 Tryz.ntmps92 rfl (by kernel_rfl) (by simp) rfl (by decide) fun G hG hOw hNm hB => ?_; simp only [go_sem, hG, hOw]
  (repeat' with_reducible first | refine And.intro ?_ ?_ | intro _ | refine exP ?_ ?_); all_goals try omega
theorem lineB_single (l : List ByteArray) : textB [⟨0, [l]⟩] = lineB l := by
  simp [textB, allPre, chapB, inB]
theorem sub_single (n : Nat) (l : List ByteArray) : Pm.Sub (.agg [.lst n 2 [[i64 0, .lst n 1 [[strs 0 l]]]]]) (txE 0 [⟨0, [l]⟩]) :=
  Subs.agg (.cons (.lst (Nat.zero_le _) rfl fun i x x' h1 h2 => by
    match i with
    | 0 =>
      simp at h1 h2
      subst h1; subst h2
      exact .cons (.refl _) (.cons (Sub.lo (Nat.zero_le _)) .nil)
    | i + 1 => simp at h1) .nil)
theorem right1_ok (l : List ByteArray) : Gives Tryz.prog 91 [strs 0 l] (fun _ => bl (!lineB l)) := by
  refine pure_intro (ow := fun _ => false) Tryz.func91 Tryz.ntmps91 rfl (by kernel_rfl) (by simp) rfl (by decide) fun G hG hOw hNm hB => ?_; simp only [go_sem, hG, hOw]
  refine call_pureA (single_ok l) ?_
  simp only [go_sem, hG, hOw]
  refine call_pure (LCheck_ok [⟨0, [l]⟩]) (.cons (sub_single _ l) .nil) (by rfl) (by simp [chk, hG]) ?_
  simp only [go_sem, hG, hOw]
  rw [lineB_single]
  cases lineB l <;> rfl
end Go.Proofs.YtagfopbijboajaaGreatDoor
