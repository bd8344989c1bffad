import Derived.Test.YtagfopbijboajaaGreatDoorQY19
import Derived.Test.YtagfopbijboajaaGreatDoorQY22
import Derived.Test.YtagfopbijboajaaGreatDoorQY37
namespace Go.Proofs.YtagfopbijboajaaGreatDoor
open Go Pm
set_option linter.unusedSimpArgs false
set_option linter.unusedVariables false
set_option maxHeartbeats 4000000
set_option maxRecDepth 100000
structure OkS (a b : List Ln) : Prop where
  na : a.length ≤ 1000
  nb : b.length ≤ 1000
  la : ∀ l ∈ a, lineB l = true
  lb : ∀ l ∈ b, lineB l = true
theorem lineB_len {l : Ln} (h : lineB l = true) : l.length ≤ 100 := by simp only [lineB, inB, Bool.and_eq_true, decide_eq_true_eq] at h; omega
theorem OkS.few {a b : List Ln} (h : OkS a b) (i k : Nat) : 0 ≤ lfew a b i k ∧ lfew a b i k ≤ 200 := lfew_bd a b i k (fun l hl => lineB_len (h.la l hl)) (fun l hl => lineB_len (h.lb l hl))
def wrV3 (p : Nat × Nat × Bool) : V := .agg [.v (.int .i64 p.1), .v (.int .i64 p.2.1), .v (.bool p.2.2)]
theorem rep_ok (a b : List Ln) (h : OkS a b) (i k : Nat) (w : Bool) (hi : i ≤ a.length) (hk : k ≤ b.length) (hw : w = true → 0 < i) :
    Gives Tryz.prog 134 [lns 0 a, lns 0 b, .agg [i64 i, i64 k, bl w]] (fun _ => .tup [i64 1, .agg [i64 i, i64 (k + 1), bl true], bl (repB a b i k w)]) := by
  have hal := h.na
  have hbl := h.nb
  refine pure_intro (ow := fun _ => false) Tryz.func134 Tryz.ntmps134 rfl (by kernel_rfl) (by simp) rfl (by decide) fun G hG hOw hNm hB => ?_; simp only [go_sem, hG, hOw]
  (repeat' with_reducible first | refine And.intro ?_ ?_ | intro _ | refine exP ?_ ?_); all_goals try omega
  cases w with
  | false =>
    have e : repB a b i k false = false := rfl
    rw [e]
    refine semC_draw0 mixed (by kernel_rfl) ?_
    simp only [go_sem, hG, hOw]
    (repeat' with_reducible first | refine And.intro ?_ ?_ | intro _ | refine exP ?_ ?_); all_goals try omega
    refine semC_draw0 mixed (by kernel_rfl) ?_
    simp only [go_sem, hG, hOw]
    (repeat' with_reducible first | refine And.intro ?_ ?_ | intro _ | refine exP ?_ ?_); all_goals try omega
  | true =>
    have hpos := hw rfl
    by_cases hk2 : k < b.length
    · have e : repB a b i k true = decide (a[i - 1] = b[k]) := by
        unfold repB
        rw [decide_eq_true hk2, List.getElem?_eq_getElem hk2, List.getElem?_eq_getElem (show i - 1 < a.length by omega)]
        simp
      have i1 : ((i : Int) - 1).toNat = i - 1 := by omega
      have hd : decide ((k : Int) < b.length) = true := by simp; omega
      rw [e]
      refine semC_draw0 mixed (by kernel_rfl) ?_
      simp (maxSteps := 2000000) only [go_sem, hG, hOw, i1, hd]
      (repeat' with_reducible first | refine And.intro ?_ ?_ | intro _ | refine exP ?_ ?_); all_goals try omega
      refine ⟨_, callGivesA (Equal_ok (a[i - 1]'(by omega)) b[k]), ?_⟩
      simp only [go_sem, hG, hOw]
      (repeat' with_reducible first | refine And.intro ?_ ?_ | intro _ | refine exP ?_ ?_); all_goals try omega
      refine semC_draw0 mixed (by kernel_rfl) ?_
      simp only [go_sem, hG, hOw]
      (repeat' with_reducible first | refine And.intro ?_ ?_ | intro _ | refine exP ?_ ?_); all_goals try omega
    · have e : repB a b i k true = false := by simp [repB, hk2]
      have hd : decide ((k : Int) < b.length) = false := by simp; omega
      rw [e]
      refine semC_draw0 mixed (by kernel_rfl) ?_
      simp (maxSteps := 2000000) only [go_sem, hG, hOw, hd]
      (repeat' with_reducible first | refine And.intro ?_ ?_ | intro _ | refine exP ?_ ?_); all_goals try omega
      refine semC_draw0 mixed (by kernel_rfl) ?_
      simp only [go_sem, hG, hOw]
      (repeat' with_reducible first | refine And.intro ?_ ?_ | intro _ | refine exP ?_ ?_); all_goals try omega
theorem read_ok (a b : List Ln) (h : OkS a b) (i k : Nat) (w : Bool) (hi : i ≤ a.length) (hk : k ≤ b.length) :
    Gives Tryz.prog 135 [lns 0 a, lns 0 b, .agg [i64 i, i64 k, bl w]] (fun _ => .tup [i64 (lfew a b i k), wrV3 (stN a b i k w 1), bl (readB a b i k)]) := by
  have hal := h.na
  have hbl := h.nb
  by_cases h1 : i < a.length ∧ k < b.length
  · obtain ⟨h1, h2⟩ := h1
    have r : readB a b i k = true := by simp [readB, h1, h2]
    have e : lfew a b i k = few a[i] b[k] := by simp [lfew, r, h1, h2]
    have e2 : wrV3 (stN a b i k w 1) = .agg [.v (.int .i64 (i + 1)), .v (.int .i64 (k + 1)), .v (.bool true)] := by simp [stN, r, wrV3]
    rw [e, e2, r]
    refine pure_intro (ow := fun _ => false) Tryz.func135 Tryz.ntmps135 rfl (by kernel_rfl) (by simp) rfl (by decide) fun G hG hOw hNm hB => ?_; simp only [go_sem, hG, hOw]
    (repeat' with_reducible first | refine And.intro ?_ ?_ | intro _ | refine exP ?_ ?_); all_goals try omega
    refine semC_draw0 mixed (by kernel_rfl) ?_
    simp only [go_sem, hG, hOw]
    (repeat' with_reducible first | refine And.intro ?_ ?_ | intro _ | refine exP ?_ ?_); all_goals try omega
    refine ⟨_, callGivesA (single_ok a[i]), ?_⟩
    simp only [go_sem, hG, hOw]
    (repeat' with_reducible first | refine And.intro ?_ ?_ | intro _ | refine exP ?_ ?_); all_goals try omega
    refine ⟨_, callGivesA (single_ok b[k]), ?_⟩
    simp only [go_sem, hG, hOw]
    (repeat' with_reducible first | refine And.intro ?_ ?_ | intro _ | refine exP ?_ ?_); all_goals try omega
    refine ⟨_, callGives (Apart_ok a[i] b[k] (h.la _ (List.getElem_mem h1)) (h.lb _ (List.getElem_mem h2))) (.cons (sub_single _ _) (.cons (sub_single _ _) .nil)) (by first | rfl | simp [allP, all0, pureV, pure0, *]), ?_⟩
    simp only [go_sem, hG, hOw]
    (repeat' with_reducible first | refine And.intro ?_ ?_ | intro _ | refine exP ?_ ?_); all_goals try omega
    refine semC_draw0 mixed (by kernel_rfl) ?_
    simp only [go_sem, hG, hOw]
    (repeat' with_reducible first | refine And.intro ?_ ?_ | intro _ | refine exP ?_ ?_); all_goals try omega
  · have r : readB a b i k = false := by simp only [readB, Bool.and_eq_false_iff, decide_eq_false_iff_not]; omega
    have e : lfew a b i k = 0 := by simp [lfew, r]
    have e2 : wrV3 (stN a b i k w 1) = .agg [.v (.int .i64 i), .v (.int .i64 k), .v (.bool w)] := by simp [stN, r, wrV3]
    rw [e, e2, r]
    refine pure_intro (ow := fun _ => false) Tryz.func135 Tryz.ntmps135 rfl (by kernel_rfl) (by simp) rfl (by decide) fun G hG hOw hNm hB => ?_; simp only [go_sem, hG, hOw]
    (repeat' with_reducible first | refine And.intro ?_ ?_ | intro _ | refine exP ?_ ?_); all_goals try omega
    all_goals refine semC_draw0 mixed (by kernel_rfl) ?_
    all_goals simp only [go_sem, hG, hOw]
    all_goals (repeat' with_reducible first | refine And.intro ?_ ?_ | intro _ | refine exP ?_ ?_); all_goals try omega
theorem skip_ok (a b : List Ln) (h : OkS a b) (i k : Nat) (w : Bool) (hi : i ≤ a.length) (hk : k ≤ b.length) :
    Gives Tryz.prog 137 [lns 0 a, lns 0 b, .agg [i64 i, i64 k, bl w]] (fun _ => .tup [i64 1, .agg [i64 (i + 1), i64 k, bl false], bl (skipB a i)]) := by
  have hal := h.na
  have hbl := h.nb
  have e : skipB a i = decide ((i : Int) < a.length) := by unfold skipB; apply decide_eq_decide.2; omega
  rw [e]
  refine pure_intro (ow := fun _ => false) Tryz.func137 Tryz.ntmps137 rfl (by kernel_rfl) (by simp) rfl (by decide) fun G hG hOw hNm hB => ?_; simp only [go_sem, hG, hOw]
  (repeat' with_reducible first | refine And.intro ?_ ?_ | intro _ | refine exP ?_ ?_); all_goals try omega
  refine semC_drawT [(16, [5]), (7, [7])] mixed (by kernel_rfl) ?_
  simp only [go_sem, hG, hOw]
  (repeat' with_reducible first | refine And.intro ?_ ?_ | intro _ | refine exP ?_ ?_); all_goals try omega
theorem steps_ok (a b : List Ln) (h : OkS a b) (i k : Nat) (w : Bool) (hi : i ≤ a.length) (hk : k ≤ b.length) (hw : w = true → 0 < i) :
    Gives Tryz.prog 134 [lns 0 a, lns 0 b, .agg [i64 i, i64 k, bl w]] (fun _ => .tup [i64 (stC a b i k 0), wrV3 (stN a b i k w 0), bl (stI a b i k w 0)]) ∧
    Gives Tryz.prog 135 [lns 0 a, lns 0 b, .agg [i64 i, i64 k, bl w]] (fun _ => .tup [i64 (stC a b i k 1), wrV3 (stN a b i k w 1), bl (stI a b i k w 1)]) ∧
    Gives Tryz.prog 137 [lns 0 a, lns 0 b, .agg [i64 i, i64 k, bl w]] (fun _ => .tup [i64 (stC a b i k 2), wrV3 (stN a b i k w 2), bl (stI a b i k w 2)]) :=
  ⟨rep_ok a b h i k w hi hk hw, read_ok a b h i k w hi hk, skip_ok a b h i k w hi hk⟩
open Go Pm
set_option maxHeartbeats 4000000
set_option maxRecDepth 100000
abbrev W3 := Nat × Nat × Bool
abbrev M3 := List (W3 × Int)
def mk3 (p : W3) : Value := .agg ⟨[.int .i64 p.1, .int .i64 p.2.1, .bool p.2.2]⟩
def memoW (m : M3) : List (Value × V) := m.map fun q => (mk3 q.1, .v (.int .i64 q.2))
def wget : M3 → W3 → Option Int
  | [], _ => none
  | q :: r, p => if q.1 = p then some q.2 else wget r p
def wput : M3 → W3 → Int → M3
  | [], p, v => [(p, v)]
  | q :: r, p, v => if q.1 = p then (p, v) :: r else q :: wput r p v
theorem wget_put (m : M3) (p q : W3) (v : Int) : wget (wput m p v) q = if p = q then some v else wget m q := by
  induction m with
  | nil => simp [wput, wget]
  | cons x r ih =>
    unfold wput
    split
    · rename_i h
      simp only [wget]
      split
      · rfl
      · rename_i h2; rw [if_neg (by rw [h]; exact h2)]
    · rename_i h
      simp only [wget, ih]
      split
      · rename_i h2
        rw [if_neg (fun h3 => h (by rw [h3, h2]))]
      · rfl
theorem key3 (q p : W3) : keyB (mk3 q) (mk3 p) = decide (q = p) := by
  obtain ⟨a, b, c⟩ := q
  obtain ⟨d, e, f⟩ := p
  simp only [mk3, keyB, eqXs, eqX, Bool.and_true]
  rw [show decide ((a, b, c) = (d, e, f)) = (decide (a = d) && (decide (b = e) && decide (c = f))) by simp [Prod.mk.injEq, Bool.decide_and]]
  congr 1
  · apply decide_eq_decide.2; omega
  congr 1
  apply decide_eq_decide.2; omega
theorem lkM_memo3 (m : M3) (i k : Nat) (w : Bool) : lkM (memoW m) (.agg ⟨[.int .i64 i, .int .i64 k, .bool w]⟩) = (wget m (i, k, w)).map fun n => .v (.int .i64 n) := by
  show lkM (memoW m) (mk3 (i, k, w)) = _
  induction m with
  | nil => rfl
  | cons x r ih =>
    simp only [memoW, List.map_cons, lkM, wget, key3] at ih ⊢
    by_cases h : x.1 = (i, k, w)
    · simp [h]
    · simp [h, ih]
theorem upM_memo3 (m : M3) (i k : Nat) (w : Bool) (v : Int) : upM (memoW m) (.agg ⟨[.int .i64 i, .int .i64 k, .bool w]⟩) (.v (.int .i64 v)) = memoW (wput m (i, k, w) v) := by
  show upM (memoW m) (mk3 (i, k, w)) _ = _
  induction m with
  | nil => rfl
  | cons x r ih =>
    simp only [memoW, List.map_cons, upM, wput, key3] at ih ⊢
    by_cases h : x.1 = (i, k, w)
    · simp [h]
    · simp [h, ih]
theorem okL_memoW {f : V → V → Prop} (m : M3) (hf : ∀ n, f (.v (.int .i64 n)) (.v (.int .i64 n))) : okL f ((memoW m).map fun q => q.2) ((memoW m).map fun q => q.2) = True := by
  apply eq_true
  induction m with
  | nil => exact trivial
  | cons x r ih => exact ⟨hf _, ih⟩
theorem ren_memoW {f : Value × V → Value × V} (m : M3) (hf : ∀ k n, f (k, .v (.int .i64 n)) = (k, .v (.int .i64 n))) : (memoW m).map f = memoW m := by
  induction m with
  | nil => rfl
  | cons x r ih =>
    simp only [memoW, List.map_cons] at ih ⊢
    rw [hf, ih]
theorem memoW_nil : memoW [] = [] := rfl
attribute [simp, go_sem] okL_memoW memoW_nil
attribute [go_sem] ren_memoW
def stepsC : List V := [.v (.int .u8 2), .fn (.func 134) [], .v (.int .u8 3), .fn (.func 135) [], .v (.int .u8 1), .fn (.func 137) []]
def hC (a b : List Ln) (m : M3) : List (Nat × OB) := [(108, .box [.mp 119]), (119, .map (.agg [.int .i64, .int .i64, .bool]) (memoW m)),
  (109, .box [.fn (.func 73) [.ptr 108 0, .fp [lns 0 a], .fp [lns 0 b], .ptr 109 0]])]
attribute [simp, go_sem] stepsC hC wrV3
theorem cost_rounds (a b : List Ln) (i k : Nat) (w : Bool) (mm : Nat → M3) (I : Nat → Bool) (C v n : Nat → Int) (N : Nat → W3) {G : Gh} {Q : Exit → St → Prop} (hG : G.n = 62) (hOw : G.ow = fun _ => false) (hNm : G.nm = [108, 119, 109])
    (g0 : Gives Tryz.prog 134 [lns 0 a, lns 0 b, .agg [i64 i, i64 k, bl w]] (fun _ => .tup [i64 (C 0), wrV3 (N 0), bl (I 0)]))
    (g1 : Gives Tryz.prog 135 [lns 0 a, lns 0 b, .agg [i64 i, i64 k, bl w]] (fun _ => .tup [i64 (C 1), wrV3 (N 1), bl (I 1)]))
    (g2 : Gives Tryz.prog 137 [lns 0 a, lns 0 b, .agg [i64 i, i64 k, bl w]] (fun _ => .tup [i64 (C 2), wrV3 (N 2), bl (I 2)]))
    (hT : ∀ j, j < 3 → I j = true → Tri Tryz.prog 73 [wrV3 (N j), .ptr 108 0, .fp [lns 0 a], .fp [lns 0 b], .ptr 109 0] (hC a b (mm j)) (fun _ => .ret (i64 (v j)) (hC a b (mm (j + 1)))))
    (hno : ∀ j, j < 3 → I j = false → mm (j + 1) = mm j) (hn : ∀ j, n (j + 1) = mn (I j) (C j + v j) (n j)) (hCb : ∀ j, 0 ≤ C j ∧ C j ≤ 200) (hv : ∀ j, 0 ≤ v j ∧ v j ≤ 1073741824) :
    SemC Tryz.prog G (bkOf 0 Tryz.f73.body) (St.of [(1, .ptr 108 0), (2, .fp [lns 0 a]), (3, .fp [lns 0 b]), (4, .ptr 109 0), (5, .ptr 5 0), (9, i64 (n 0)), (35, .agg stepsC), (36, i64 0)] ((5, .box [i64 i, i64 k, bl w]) :: hC a b (mm 0)))
      (cutQ G 0 (fun _ : Unit => St.of [(1, .ptr 108 0), (2, .fp [lns 0 a]), (3, .fp [lns 0 b]), (4, .ptr 109 0), (5, .ptr 5 0), (9, i64 (n 3))] ((5, .box [i64 i, i64 k, bl w]) :: hC a b (mm 3))) (fun _ => True) Q) := by
  unfold Tryz.f73
  simp only [rgOf, bkOf, rgO, bkO, orElse, Option.bind_some, Option.getD_some, reduceIte, Nat.reduceEqDiff, reduceCtorEq]
  refine semC_loop (fun j : Nat => St.of [(1, .ptr 108 0), (2, .fp [lns 0 a]), (3, .fp [lns 0 b]), (4, .ptr 109 0), (5, .ptr 5 0), (9, i64 (n j)), (35, .agg stepsC), (36, i64 j)] ((5, .box [i64 i, i64 k, bl w]) :: hC a b (mm j))) (fun j => j ≤ 3) (fun j => 3 - j) 0 (by simp) (entA [(5, some 5), (108, some 108), (119, some 119), (109, some 109)]) ?_
  rintro j hj
  have c0 : ((0 : Nat) : Int) = 0 := rfl
  have c1 : ((1 : Nat) : Int) = 1 := rfl
  have c2 : ((2 : Nat) : Int) = 2 := rfl
  have c3 : ((3 : Nat) : Int) = 3 := rfl
  have i1 : Int.toNat 1 = 1 := rfl
  have i2 : Int.toNat 2 = 2 := rfl
  have hj4 : j = 0 ∨ j = 1 ∨ j = 2 ∨ j = 3 := by omega
  rcases hj4 with rfl | rfl | rfl | rfl
  · have b1 := hCb 0
    have b2 := hv 0
    have en := hn 0
    refine vc_sound _ _ _ ?_
    simp (maxSteps := 2000000) only [go_sem, hG, hOw, c0, c1, c2, c3, i1, i2, Nat.reduceMul, Int.add_zero]
    (repeat' with_reducible first | refine And.intro ?_ ?_ | intro _ | refine exP ?_ ?_); all_goals try omega
    refine call_pure g0 (by first | exact Subs.refl _ | (repeat' (first | exact Subs.nil | exact Sub.refl _ | exact Sub.lo (Nat.zero_le _) | refine Subs.cons ?_ ?_ | refine Subs.agg ?_ | refine Subs.fp ?_ | refine Subs.tup ?_ | refine Sub.map (Nat.zero_le _) (fun _ => ?_)))) (by first | rfl | simp [allP, all0, pureV, pure0, *]) (by simp [chk, hG]) ?_
    simp (maxSteps := 2000000) only [go_sem, hG, hOw, c0, c1, c2, c3, i1, i2, Nat.reduceMul, Int.add_zero]
    (repeat' with_reducible first | refine And.intro ?_ ?_ | intro _ | refine exP ?_ ?_); all_goals try omega
    · rename_i h1
      have T := hT 0 (by omega) h1
      refine call_tri [(108, 108), (119, 119), (109, 109)] [] (T) (by (simp only [go_sem]) <;> simp) (by (simp only [go_sem, entH, entH1, nilArr, obOK]) <;> simp) (by simp [injR, apart, toR]) (by simp [coverR, usH, toR]) (by simp [uniqP, lkR, toR]) (by simp [chk, hG]) ?_
      simp only [go_sem, hG, hOw]
      (repeat' with_reducible first | refine And.intro ?_ ?_ | intro _ | refine exP ?_ ?_); all_goals try omega
      have e : n 1 = if C 0 + v 0 < n 0 then C 0 + v 0 else n 0 := by rw [en, mn, if_pos h1]
      refine ⟨1, by omega, by omega, ?_⟩
      rw [e]
      exact entA [(5, some 5), (108, some 108), (119, some 119), (109, some 109)]
    · rename_i h1
      have e : n 1 = n 0 := by rw [en, mn, if_neg (by rw [h1]; simp)]
      have em := hno 0 (by omega) h1
      simp only [Nat.reduceAdd, Nat.zero_add] at em
      refine ⟨1, by omega, by omega, ?_⟩
      rw [e, em]
      exact entA [(5, some 5), (108, some 108), (119, some 119), (109, some 109)]
  · have b1 := hCb 1
    have b2 := hv 1
    have en := hn 1
    refine vc_sound _ _ _ ?_
    simp (maxSteps := 2000000) only [go_sem, hG, hOw, c0, c1, c2, c3, i1, i2, Nat.reduceMul, Int.add_zero]
    (repeat' with_reducible first | refine And.intro ?_ ?_ | intro _ | refine exP ?_ ?_); all_goals try omega
    refine call_pure g1 (by first | exact Subs.refl _ | (repeat' (first | exact Subs.nil | exact Sub.refl _ | exact Sub.lo (Nat.zero_le _) | refine Subs.cons ?_ ?_ | refine Subs.agg ?_ | refine Subs.fp ?_ | refine Subs.tup ?_ | refine Sub.map (Nat.zero_le _) (fun _ => ?_)))) (by first | rfl | simp [allP, all0, pureV, pure0, *]) (by simp [chk, hG]) ?_
    simp (maxSteps := 2000000) only [go_sem, hG, hOw, c0, c1, c2, c3, i1, i2, Nat.reduceMul, Int.add_zero]
    (repeat' with_reducible first | refine And.intro ?_ ?_ | intro _ | refine exP ?_ ?_); all_goals try omega
    · rename_i h1
      have T := hT 1 (by omega) h1
      refine call_tri [(108, 108), (119, 119), (109, 109)] [] (T) (by (simp only [go_sem]) <;> simp) (by (simp only [go_sem, entH, entH1, nilArr, obOK]) <;> simp) (by simp [injR, apart, toR]) (by simp [coverR, usH, toR]) (by simp [uniqP, lkR, toR]) (by simp [chk, hG]) ?_
      simp only [go_sem, hG, hOw]
      (repeat' with_reducible first | refine And.intro ?_ ?_ | intro _ | refine exP ?_ ?_); all_goals try omega
      have e : n 2 = if C 1 + v 1 < n 1 then C 1 + v 1 else n 1 := by rw [en, mn, if_pos h1]
      refine ⟨2, by omega, by omega, ?_⟩
      rw [e]
      exact entA [(5, some 5), (108, some 108), (119, some 119), (109, some 109)]
    · rename_i h1
      have e : n 2 = n 1 := by rw [en, mn, if_neg (by rw [h1]; simp)]
      have em := hno 1 (by omega) h1
      simp only [Nat.reduceAdd, Nat.zero_add] at em
      refine ⟨2, by omega, by omega, ?_⟩
      rw [e, em]
      exact entA [(5, some 5), (108, some 108), (119, some 119), (109, some 109)]
  · have b1 := hCb 2
    have b2 := hv 2
    have en := hn 2
    refine vc_sound _ _ _ ?_
    simp (maxSteps := 2000000) only [go_sem, hG, hOw, c0, c1, c2, c3, i1, i2, Nat.reduceMul, Int.add_zero]
    (repeat' with_reducible first | refine And.intro ?_ ?_ | intro _ | refine exP ?_ ?_); all_goals try omega
    refine call_pure g2 (by first | exact Subs.refl _ | (repeat' (first | exact Subs.nil | exact Sub.refl _ | exact Sub.lo (Nat.zero_le _) | refine Subs.cons ?_ ?_ | refine Subs.agg ?_ | refine Subs.fp ?_ | refine Subs.tup ?_ | refine Sub.map (Nat.zero_le _) (fun _ => ?_)))) (by first | rfl | simp [allP, all0, pureV, pure0, *]) (by simp [chk, hG]) ?_
    simp (maxSteps := 2000000) only [go_sem, hG, hOw, c0, c1, c2, c3, i1, i2, Nat.reduceMul, Int.add_zero]
    (repeat' with_reducible first | refine And.intro ?_ ?_ | intro _ | refine exP ?_ ?_); all_goals try omega
    · rename_i h1
      have T := hT 2 (by omega) h1
      refine call_tri [(108, 108), (119, 119), (109, 109)] [] (T) (by (simp only [go_sem]) <;> simp) (by (simp only [go_sem, entH, entH1, nilArr, obOK]) <;> simp) (by simp [injR, apart, toR]) (by simp [coverR, usH, toR]) (by simp [uniqP, lkR, toR]) (by simp [chk, hG]) ?_
      simp only [go_sem, hG, hOw]
      (repeat' with_reducible first | refine And.intro ?_ ?_ | intro _ | refine exP ?_ ?_); all_goals try omega
      have e : n 3 = if C 2 + v 2 < n 2 then C 2 + v 2 else n 2 := by rw [en, mn, if_pos h1]
      refine ⟨3, by omega, by omega, ?_⟩
      rw [e]
      exact entA [(5, some 5), (108, some 108), (119, some 119), (109, some 109)]
    · rename_i h1
      have e : n 3 = n 2 := by rw [en, mn, if_neg (by rw [h1]; simp)]
      have em := hno 2 (by omega) h1
      simp only [Nat.reduceAdd, Nat.zero_add] at em
      refine ⟨3, by omega, by omega, ?_⟩
      rw [e, em]
      exact entA [(5, some 5), (108, some 108), (119, some 119), (109, some 109)]
  · refine vc_sound _ _ _ ?_
    simp (maxSteps := 2000000) only [go_sem, hG, hOw, c0, c1, c2, c3, i1, i2, Nat.reduceMul]
    (repeat' with_reducible first | refine And.intro ?_ ?_ | intro _ | refine exP ?_ ?_); all_goals try omega
    exact ⟨(), entA [(5, some 5), (108, some 108), (119, some 119), (109, some 109)]⟩
structure Gm (a b : List Ln) (m : M3) : Prop where
  val : ∀ p v, wget m p = some v → v = cOf a b p
  clo : ∀ p, (wget m p).isSome = true → ∀ j, j < 3 → stI a b p.1 p.2.1 p.2.2 j = true → (wget m (stN a b p.1 p.2.1 p.2.2 j)).isSome = true
theorem Gm.nil (a b : List Ln) : Gm a b [] := ⟨(fun _ _ h => by cases h), (fun _ h => by cases h)⟩
def CostOK (a b : List Ln) (N : Nat) : Prop := ∀ (i k : Nat) (w : Bool) (m : M3), i ≤ a.length → k ≤ b.length → (w = true → 0 < i) → (a.length - i) + (b.length - k) < N → Gm a b m →
  ∃ m', Gm a b m' ∧ (∀ p, (wget m p).isSome = true → (wget m' p).isSome = true) ∧ (wget m' (i, k, w)).isSome = true ∧ ((wget m (i, k, w)).isSome = true → m' = m) ∧
    Tri Tryz.prog 73 [wrV3 (i, k, w), .ptr 108 0, .fp [lns 0 a], .fp [lns 0 b], .ptr 109 0] (hC a b m) (fun _ => .ret (i64 (cAt a b i k w)) (hC a b m'))
theorem cost_ok (a b : List Ln) (h : OkS a b) : ∀ N, CostOK a b N := by
  intro N
  induction N with
  | zero => intro i k w m _ _ _ h; omega
  | succ N ih =>
    intro i k w m hi hk hw hr hm
    have lk := lkM_memo3 m i k w
    have bd := cAt_bd a b i k w
    cases hg : wget m (i, k, w) with
    | some v =>
      refine ⟨m, hm, fun _ h => h, by rw [hg]; rfl, fun _ => rfl, ?_⟩
      rw [hg] at lk
      have hv := hm.val _ _ hg
      simp only [cOf] at hv
      subst hv
      refine tri_intro (fun _ => false) Tryz.func73 Tryz.ntmps73 rfl (by kernel_rfl) (by simp) rfl (by decide) fun G hG hOw hNm => ?_; simp only [go_sem, hG, hOw]
      simp (maxSteps := 2000000) only [go_sem, hG, hOw, lk, Option.map_some, Option.isSome_some, Option.getD_some]
      (repeat' with_reducible first | refine And.intro ?_ ?_ | intro _ | refine exP ?_ ?_); all_goals try omega
      exact ⟨[(108, some 108), (119, some 119), (109, some 109)], by (simp only [EndT, go_sem, entH, entH1, nilArr, obOK, apart, injR, coverR]) <;> simp⟩
    | none =>
      rw [hg] at lk
      have step : ∀ j (m : M3), Gm a b m → ∃ m', Gm a b m' ∧ (∀ p, (wget m p).isSome = true → (wget m' p).isSome = true) ∧ (stI a b i k w j = true → (wget m' (stN a b i k w j)).isSome = true) ∧
          (stI a b i k w j = true → Tri Tryz.prog 73 [wrV3 (stN a b i k w j), .ptr 108 0, .fp [lns 0 a], .fp [lns 0 b], .ptr 109 0] (hC a b m) (fun _ => .ret (i64 (cOf a b (stN a b i k w j))) (hC a b m'))) ∧ (stI a b i k w j = false → m' = m) := by
        intro j m hm
        cases hs : stI a b i k w j with
        | true =>
          obtain ⟨q1, q2, q3, q4⟩ := stN_ok a b i k w hi hk hw j hs
          obtain ⟨m', r1, r2, r3, _, r5⟩ := ih (stN a b i k w j).1 (stN a b i k w j).2.1 (stN a b i k w j).2.2 m q1 q2 q3 (by omega) hm
          exact ⟨m', r1, r2, fun _ => r3, fun _ => r5, fun h => by cases h⟩
        | false => exact ⟨m, hm, fun _ h => h, fun h => (by cases h), fun h => (by cases h), fun _ => rfl⟩
      obtain ⟨m1, a1, a2, a3, a4, a5⟩ := step 0 m hm
      obtain ⟨m2, b1, b2, b3, b4, b5⟩ := step 1 m1 a1
      obtain ⟨m3, d1, d2, d3, d4, d5⟩ := step 2 m2 b1
      have hput : ∀ p, (wget m3 p).isSome = true → (wget (wput m3 (i, k, w) (cAt a b i k w)) p).isSome = true := fun p hp => by
        rw [wget_put]; split
        · rfl
        · exact hp
      refine ⟨wput m3 (i, k, w) (cAt a b i k w), ⟨fun p v hp => ?_, fun p hp j hj hs => ?_⟩, fun p hp => hput p (d2 p (b2 p (a2 p hp))), by rw [wget_put, if_pos rfl]; rfl, (fun h => by cases h), ?_⟩
      · rw [wget_put] at hp
        split at hp
        · rename_i e; cases hp; subst e; rfl
        · exact d1.val p v hp
      · rw [wget_put] at hp
        split at hp
        · rename_i e
          subst e
          refine hput _ ?_
          simp only at hs
          have : j = 0 ∨ j = 1 ∨ j = 2 := by omega
          rcases this with rfl | rfl | rfl
          · exact d2 _ (b2 _ (a3 hs))
          · exact d2 _ (b3 hs)
          · exact d3 hs
        · exact hput _ (d1.clo p hp j hj hs)
      · have up := upM_memo3 m3 i k w (cAt a b i k w)
        have en := nAt_eq a b i k w hi hk hw
        obtain ⟨g0, g1, g2⟩ := steps_ok a b h i k w hi hk hw
        have hal := h.na
        have hbl := h.nb
        obtain ⟨n, hn⟩ : ∃ n, n = nAt a b i k w := ⟨_, rfl⟩
        have n0 : n 0 = if i = a.length ∧ k = b.length then 0 else 1073741824 := by rw [hn]; rfl
        obtain ⟨mm, e0, e1, e2, e3⟩ : ∃ mm : Nat → M3, mm 0 = m ∧ mm 1 = m1 ∧ mm 2 = m2 ∧ mm 3 = m3 := ⟨fun | 0 => m | 1 => m1 | 2 => m2 | _ => m3, rfl, rfl, rfl, rfl⟩
        have hT : ∀ j, j < 3 → stI a b i k w j = true → Tri Tryz.prog 73 [wrV3 (stN a b i k w j), .ptr 108 0, .fp [lns 0 a], .fp [lns 0 b], .ptr 109 0] (hC a b (mm j)) (fun _ => .ret (i64 (cOf a b (stN a b i k w j))) (hC a b (mm (j + 1)))) := fun j hj hs => by
          have : j = 0 ∨ j = 1 ∨ j = 2 := by omega
          rcases this with rfl | rfl | rfl
          · rw [e0, show mm (0 + 1) = m1 from e1]; exact a4 hs
          · rw [e1, show mm (1 + 1) = m2 from e2]; exact b4 hs
          · rw [e2, show mm (2 + 1) = m3 from e3]; exact d4 hs
        have hno : ∀ j, j < 3 → stI a b i k w j = false → mm (j + 1) = mm j := fun j hj hs => by
          have : j = 0 ∨ j = 1 ∨ j = 2 := by omega
          rcases this with rfl | rfl | rfl
          · rw [e0, show mm (0 + 1) = m1 from e1]; exact a5 hs
          · rw [e1, show mm (1 + 1) = m2 from e2]; exact b5 hs
          · rw [e2, show mm (2 + 1) = m3 from e3]; exact d5 hs
        have hCb : ∀ j, 0 ≤ stC a b i k j ∧ stC a b i k j ≤ 200 := fun j => by
          have := h.few i k
          match j with
          | 0 => simp [stC]
          | 1 => simp only [stC]; omega
          | j + 2 => simp [stC]
        rw [← e3] at up ⊢
        rw [← e0] at lk ⊢
        have hst : ∀ j, n (j + 1) = mn (stI a b i k w j) (stC a b i k j + cOf a b (stN a b i k w j)) (n j) := fun j => by rw [hn]; rfl
        rw [← hn] at en
        rw [← en]
        rw [← en] at up
        refine tri_intro (fun _ => false) Tryz.func73 Tryz.ntmps73 rfl (by kernel_rfl) (by simp) rfl (by decide) fun G hG hOw hNm => ?_; simp only [go_sem, hG, hOw]
        simp (maxSteps := 2000000) only [go_sem, hG, hOw, lk, Option.map_none, Option.isSome_none, Option.getD_none]
        (repeat' with_reducible first | refine And.intro ?_ ?_ | intro _ | refine exP ?_ ?_); all_goals try omega
        all_goals
          first
            | have e9 : n 0 = 0 := by rw [n0, if_pos (by omega)]
            | have e9 : n 0 = 1073741824 := by rw [n0, if_neg (by omega)]
          refine semC_cut (fun _ : Unit => St.of [(1, .ptr 108 0), (2, .fp [lns 0 a]), (3, .fp [lns 0 b]), (4, .ptr 109 0), (5, .ptr 5 0), (9, i64 (n 3))] ((5, .box [i64 i, i64 k, bl w]) :: hC a b (mm 3))) (fun _ => True) ?_ ?_
          · refine semC_ent (s' := St.of [(1, .ptr 108 0), (2, .fp [lns 0 a]), (3, .fp [lns 0 b]), (4, .ptr 109 0), (5, .ptr 5 0), (9, i64 (n 0)), (35, .agg stepsC), (36, i64 0)] ((5, .box [i64 i, i64 k, bl w]) :: hC a b (mm 0))) (entA [(5, some 5), (108, some 108), (119, some 119), (109, some 109)] (by (simp only [go_sem]) <;> simp [e9]) (by (simp only [go_sem, entH, entH1, nilArr, obOK]) <;> simp [e9])) ?_
            exact semC_code (by kernel_rfl) (cost_rounds a b i k w mm (stI a b i k w) (stC a b i k) (fun j => cOf a b (stN a b i k w j)) n (stN a b i k w) hG hOw (by rw [hNm]; rfl) g0 g1 g2 hT hno hst hCb (fun j => cAt_bd a b _ _ _))
          rintro ⟨⟩ -
          simp (maxSteps := 2000000) only [go_sem, hG, hOw, up]
          (repeat' with_reducible first | refine And.intro ?_ ?_ | intro _ | refine exP ?_ ?_); all_goals try omega
          exact ⟨[(108, some 108), (119, some 119), (109, some 109)], by (simp only [EndT, go_sem, entH, entH1, nilArr, obOK, apart, injR, coverR]) <;> simp⟩
open Go Pm
set_option maxHeartbeats 4000000
set_option maxRecDepth 100000
abbrev tdF (a b : List Ln) (fr A : Int) (L : List Ft) : List (Nat × V) := [(2, i64 fr), (3, .fp [lns 0 a]), (4, .fp [lns 0 b]), (9, .ptr 9 0), (10, .ptr 10 0), (11, i64 A), (12, .own 30 0 L.length 3)]
abbrev tdH (a b : List Ln) (m : M3) (i k : Nat) (w : Bool) (L : List Ft) : List (Nat × OB) := [(10, .box [i64 i, i64 k, bl w]), (30, .arr 78 3 (L.map ftE)), (8, .box [.mp 19]), (19, .map (.agg [.int .i64, .int .i64, .bool]) (memoW m)),
  (9, .box [.fn (.func 73) [.ptr 8 0, .fp [lns 0 a], .fp [lns 0 b], .ptr 9 0]])]
theorem known (a b : List Ln) (h : OkS a b) (m : M3) (hm : Gm a b m) (i k : Nat) (w : Bool) (hi : i ≤ a.length) (hk : k ≤ b.length) (hw : w = true → 0 < i) (his : (wget m (i, k, w)).isSome = true) :
    Tri Tryz.prog 73 [wrV3 (i, k, w), .ptr 108 0, .fp [lns 0 a], .fp [lns 0 b], .ptr 109 0] (hC a b m) (fun _ => .ret (i64 (cAt a b i k w)) (hC a b m)) := by
  obtain ⟨m', _, _, _, e, T⟩ := cost_ok a b h _ i k w m hi hk hw (Nat.lt_succ_self _) hm
  rw [e his] at T
  exact T
theorem told_round (a b : List Ln) (h : OkS a b) (fr A : Int) (hfr : 0 ≤ fr ∧ fr ≤ 1000) (m : M3) (hm : Gm a b m) (i k : Nat) (w : Bool) (hi : i ≤ a.length) (hk : k ≤ b.length) (hw : w = true → 0 < i) (his : (wget m (i, k, w)).isSome = true) (hne : ¬ (i = a.length ∧ k = b.length)) (hlt : cAt a b i k w < 1073741824) (L : List Ft) (hL : L.length ≤ 4000)
    {G : Gh} {Q : Exit → St → Prop} (hG : G.n = 90) (hOw : G.ow = fun _ => false) (hNm : G.nm = [])
    (hQ : ∀ s', Ent G s' (St.of (tdF a b fr A (L ++ stF a b fr i k (stJ a b i k w))) (tdH a b m (stN a b i k w (stJ a b i k w)).1 (stN a b i k w (stJ a b i k w)).2.1 (stN a b i k w (stJ a b i k w)).2.2 (L ++ stF a b fr i k (stJ a b i k w)))) → Q (.exit 2) s') :
    SemC Tryz.prog G (bkOf 2 Tryz.f42.body) (St.of ((40, .agg stepsC) :: (41, i64 0) :: tdF a b fr A L) (tdH a b m i k w L)) Q := by
  obtain ⟨s1, s2⟩ := stJ_ok a b i k w hi hk hw hne hlt
  obtain ⟨g0, g1, g2⟩ := steps_ok a b h i k w hi hk hw
  have hal := h.na
  have hbl := h.nb
  have T0 := known a b h m hm i k w hi hk hw his
  have T1 : ∀ j, j < 3 → stI a b i k w j = true → Tri Tryz.prog 73 [wrV3 (stN a b i k w j), .ptr 108 0, .fp [lns 0 a], .fp [lns 0 b], .ptr 109 0] (hC a b m) (fun _ => .ret (i64 (cOf a b (stN a b i k w j))) (hC a b m)) := fun j hj hs => by
    obtain ⟨q1, q2, q3, q4⟩ := stN_ok a b i k w hi hk hw j hs
    exact known a b h m hm _ _ _ q1 q2 q3 (hm.clo (i, k, w) his j hj hs)
  have hCb : ∀ j, 0 ≤ stC a b i k j ∧ stC a b i k j ≤ 200 := fun j => by
    have := h.few i k
    match j with
    | 0 => simp [stC]
    | 1 => simp only [stC]; omega
    | j + 2 => simp [stC]
  have hvb : ∀ j, 0 ≤ cOf a b (stN a b i k w j) ∧ cOf a b (stN a b i k w j) ≤ 1073741824 := fun j => cAt_bd a b _ _ _
  have C0 : stC a b i k 0 = 1 := rfl
  have C1 : stC a b i k 1 = lfew a b i k := rfl
  have C2 : stC a b i k 2 = 1 := rfl
  have N0 : stN a b i k w 0 = (i, k + 1, true) := rfl
  have N1 : stI a b i k w 1 = true → stN a b i k w 1 = (i + 1, k + 1, true) := fun h => by
    simp only [stI] at h
    simp [stN, h]
  have N2 : stN a b i k w 2 = (i + 1, k, false) := rfl
  have F0 : stF a b fr i k 0 = [⟨2, fr + i - 1, 0⟩] := rfl
  have F1 : stF a b fr i k 1 = if 0 < lfew a b i k then [⟨3, fr + i, lfew a b i k⟩] else [] := rfl
  have F2 : stF a b fr i k 2 = [⟨1, fr + i, 0⟩] := rfl
  have er : fr + ((i : Int) + 1) - 1 = fr + i := by omega
  obtain ⟨C, hC0⟩ : ∃ C, C = stC a b i k := ⟨_, rfl⟩
  unfold Tryz.f42
  simp only [rgOf, bkOf, rgO, bkO, orElse, Option.bind_some, Option.getD_some, reduceIte, Nat.reduceEqDiff, reduceCtorEq]
  refine semC_loop (fun j : Nat => St.of ((40, .agg stepsC) :: (41, i64 j) :: tdF a b fr A L) (tdH a b m i k w L)) (fun j => j ≤ 3 ∧ ∀ j', j' < j → onB a b i k w j' = false) (fun j => 3 - j) 0 (by simp) (entA [(10, some 10), (30, some 30), (8, some 8), (19, some 19), (9, some 9)]) ?_
  rintro j ⟨hj, hno⟩
  have c0 : ((0 : Nat) : Int) = 0 := rfl
  have c1 : ((1 : Nat) : Int) = 1 := rfl
  have c2 : ((2 : Nat) : Int) = 2 := rfl
  have c3 : ((3 : Nat) : Int) = 3 := rfl
  have i1 : Int.toNat 1 = 1 := rfl
  have i2 : Int.toNat 2 = 2 := rfl
  have hj4 : j = 0 ∨ j = 1 ∨ j = 2 ∨ j = 3 := by omega
  rcases hj4 with rfl | rfl | rfl | rfl
  · have b1 := hCb 0
    have b2 := hvb 0
    have tr := T1 0 (by omega)
    have nx : onB a b i k w 0 = false → ∀ j', j' < 1 → onB a b i k w j' = false := fun h j' hj' => by
      by_cases e : j' = 0
      · subst e; exact h
      · exact hno j' (by omega)
    have jx : onB a b i k w 0 = true → stJ a b i k w = 0 := fun h => by
      rcases Nat.lt_trichotomy (stJ a b i k w) 0 with h1 | h1 | h1
      · rw [hno _ h1] at s1; cases s1
      · exact h1
      · rw [s2 _ h1] at h; cases h
    refine vc_sound _ _ _ ?_
    simp (maxSteps := 2000000) only [go_sem, hG, hOw, c0, c1, c2, c3, i1, i2, Nat.reduceMul, Int.add_zero]
    (repeat' with_reducible first | refine And.intro ?_ ?_ | intro _ | refine exP ?_ ?_); all_goals try omega
    refine call_pure g0 (by first | exact Subs.refl _ | (repeat' (first | exact Subs.nil | exact Sub.refl _ | exact Sub.lo (Nat.zero_le _) | refine Subs.cons ?_ ?_ | refine Subs.agg ?_ | refine Subs.fp ?_ | refine Subs.tup ?_ | refine Sub.map (Nat.zero_le _) (fun _ => ?_)))) (by first | rfl | simp [allP, all0, pureV, pure0, *]) (by simp [chk, hG]) ?_
    simp (maxSteps := 2000000) only [go_sem, hG, hOw, c0, c1, c2, c3, i1, i2, Nat.reduceMul, Int.add_zero]
    (repeat' with_reducible first | refine And.intro ?_ ?_ | intro _ | refine exP ?_ ?_); all_goals try omega
    cases hs : stI a b i k w 0 with
    | false =>
      refine semC_draw0 mixed (by kernel_rfl) ?_
      simp (maxSteps := 2000000) only [go_sem, hG, hOw, hs]
      (repeat' with_reducible first | refine And.intro ?_ ?_ | intro _ | refine exP ?_ ?_); all_goals try omega
      refine ⟨1, ⟨by omega, nx (by simp [onB, hs])⟩, by omega, entA [(10, some 10), (30, some 30), (8, some 8), (19, some 19), (9, some 9)]⟩
    | true =>
      have TN := tr hs
      have hq := (stN_ok a b i k w hi hk hw 0 hs).1
      refine semC_drawT [(60, [8, 19, 9]), (64, [8, 19, 9])] mixed (by kernel_rfl) ?_
      simp (maxSteps := 2000000) only [go_sem, hG, hOw, hs]
      (repeat' with_reducible first | refine And.intro ?_ ?_ | intro _ | refine exP ?_ ?_); all_goals try omega
      refine ⟨_, callReads [(108, 8), (119, 19), (109, 9)] (TN) (by (simp only [go_sem]) <;> simp) (by (simp only [go_sem, entH, entH1, nilArr, obOK]) <;> simp) (by simp [injR, apart, toR]) (by simp [coverR, usH, toR]) (by simp [uniqP, lkR, toR]) (by simp [hasAll, keepR, usH, lkR, toR]) (by simp [uniqN, usH]) (by simp [tgt, nmHas]) (by simp [upT, dropsR, outsR, keepR, usH, lkR, toR, sameH, nmHas, go_sem]), ?_⟩
      simp only [go_sem, hG, hOw]
      (repeat' with_reducible first | refine And.intro ?_ ?_ | intro _ | refine exP ?_ ?_); all_goals try omega
      refine ⟨_, callReads [(108, 8), (119, 19), (109, 9)] (T0) (by (simp only [go_sem]) <;> simp) (by (simp only [go_sem, entH, entH1, nilArr, obOK]) <;> simp) (by simp [injR, apart, toR]) (by simp [coverR, usH, toR]) (by simp [uniqP, lkR, toR]) (by simp [hasAll, keepR, usH, lkR, toR]) (by simp [uniqN, usH]) (by simp [tgt, nmHas]) (by simp [upT, dropsR, outsR, keepR, usH, lkR, toR, sameH, nmHas, go_sem]), ?_⟩
      simp only [go_sem, hG, hOw]
      (repeat' with_reducible first | refine And.intro ?_ ?_ | intro _ | refine exP ?_ ?_); all_goals try omega
      all_goals first
        | (rename_i h; exact ⟨1, ⟨by omega, nx (by simp [onB, hs, h])⟩, by omega, entA [(10, some 10), (30, some 30), (8, some 8), (19, some 19), (9, some 9)]⟩)
        | skip
      all_goals have hjj := jx (by simp only [onB, hs, Bool.true_and, decide_eq_true_eq]; assumption)
      all_goals refine hQ _ ?_
      all_goals rw [hjj]
      exact entA [(10, some 10), (30, some 85), (8, some 8), (19, some 19), (9, some 9)] (by (simp only [go_sem]) <;> simp [N0,F0,C0,ftE]) (by (simp only [go_sem, entH, entH1, nilArr, obOK]) <;> simp [N0,F0,C0,ftE])
  · have b1 := hCb 1
    have b2 := hvb 1
    have tr := T1 1 (by omega)
    have nx : onB a b i k w 1 = false → ∀ j', j' < 2 → onB a b i k w j' = false := fun h j' hj' => by
      by_cases e : j' = 1
      · subst e; exact h
      · exact hno j' (by omega)
    have jx : onB a b i k w 1 = true → stJ a b i k w = 1 := fun h => by
      rcases Nat.lt_trichotomy (stJ a b i k w) 1 with h1 | h1 | h1
      · rw [hno _ h1] at s1; cases s1
      · exact h1
      · rw [s2 _ h1] at h; cases h
    refine vc_sound _ _ _ ?_
    simp (maxSteps := 2000000) only [go_sem, hG, hOw, c0, c1, c2, c3, i1, i2, Nat.reduceMul, Int.add_zero]
    (repeat' with_reducible first | refine And.intro ?_ ?_ | intro _ | refine exP ?_ ?_); all_goals try omega
    refine call_pure g1 (by first | exact Subs.refl _ | (repeat' (first | exact Subs.nil | exact Sub.refl _ | exact Sub.lo (Nat.zero_le _) | refine Subs.cons ?_ ?_ | refine Subs.agg ?_ | refine Subs.fp ?_ | refine Subs.tup ?_ | refine Sub.map (Nat.zero_le _) (fun _ => ?_)))) (by first | rfl | simp [allP, all0, pureV, pure0, *]) (by simp [chk, hG]) ?_
    simp (maxSteps := 2000000) only [go_sem, hG, hOw, c0, c1, c2, c3, i1, i2, Nat.reduceMul, Int.add_zero]
    (repeat' with_reducible first | refine And.intro ?_ ?_ | intro _ | refine exP ?_ ?_); all_goals try omega
    cases hs : stI a b i k w 1 with
    | false =>
      refine semC_draw0 mixed (by kernel_rfl) ?_
      simp (maxSteps := 2000000) only [go_sem, hG, hOw, hs]
      (repeat' with_reducible first | refine And.intro ?_ ?_ | intro _ | refine exP ?_ ?_); all_goals try omega
      refine ⟨2, ⟨by omega, nx (by simp [onB, hs])⟩, by omega, entA [(10, some 10), (30, some 30), (8, some 8), (19, some 19), (9, some 9)]⟩
    | true =>
      have TN := tr hs
      have hq := (stN_ok a b i k w hi hk hw 1 hs).1
      refine semC_drawT [(60, [8, 19, 9]), (64, [8, 19, 9])] mixed (by kernel_rfl) ?_
      simp (maxSteps := 2000000) only [go_sem, hG, hOw, hs]
      (repeat' with_reducible first | refine And.intro ?_ ?_ | intro _ | refine exP ?_ ?_); all_goals try omega
      refine ⟨_, callReads [(108, 8), (119, 19), (109, 9)] (TN) (by (simp only [go_sem]) <;> simp) (by (simp only [go_sem, entH, entH1, nilArr, obOK]) <;> simp) (by simp [injR, apart, toR]) (by simp [coverR, usH, toR]) (by simp [uniqP, lkR, toR]) (by simp [hasAll, keepR, usH, lkR, toR]) (by simp [uniqN, usH]) (by simp [tgt, nmHas]) (by simp [upT, dropsR, outsR, keepR, usH, lkR, toR, sameH, nmHas, go_sem]), ?_⟩
      simp only [go_sem, hG, hOw]
      (repeat' with_reducible first | refine And.intro ?_ ?_ | intro _ | refine exP ?_ ?_); all_goals try omega
      refine ⟨_, callReads [(108, 8), (119, 19), (109, 9)] (T0) (by (simp only [go_sem]) <;> simp) (by (simp only [go_sem, entH, entH1, nilArr, obOK]) <;> simp) (by simp [injR, apart, toR]) (by simp [coverR, usH, toR]) (by simp [uniqP, lkR, toR]) (by simp [hasAll, keepR, usH, lkR, toR]) (by simp [uniqN, usH]) (by simp [tgt, nmHas]) (by simp [upT, dropsR, outsR, keepR, usH, lkR, toR, sameH, nmHas, go_sem]), ?_⟩
      simp only [go_sem, hG, hOw]
      (repeat' with_reducible first | refine And.intro ?_ ?_ | intro _ | refine exP ?_ ?_); all_goals try omega
      all_goals first
        | (rename_i h; exact ⟨2, ⟨by omega, nx (by simp [onB, hs, h])⟩, by omega, entA [(10, some 10), (30, some 30), (8, some 8), (19, some 19), (9, some 9)]⟩)
        | skip
      all_goals have hjj := jx (by simp only [onB, hs, Bool.true_and, decide_eq_true_eq]; assumption)
      all_goals refine hQ _ ?_
      all_goals rw [hjj]
      all_goals first | (rename_i h; rw [F1, if_pos (show 0 < lfew a b i k from h)]; exact entA [(10, some 10), (30, some 85), (8, some 8), (19, some 19), (9, some 9)] (by (simp only [go_sem]) <;> simp [N1 hs,C1,er,ftE]) (by (simp only [go_sem, entH, entH1, nilArr, obOK]) <;> simp [N1 hs,C1,er,ftE])) | (rename_i h; rw [F1, if_neg (show ¬ 0 < lfew a b i k from h)]; exact entA [(10, some 10), (30, some 30), (8, some 8), (19, some 19), (9, some 9)] (by (simp only [go_sem]) <;> simp [N1 hs,C1,er,ftE]) (by (simp only [go_sem, entH, entH1, nilArr, obOK]) <;> simp [N1 hs,C1,er,ftE]))
  · have b1 := hCb 2
    have b2 := hvb 2
    have tr := T1 2 (by omega)
    have nx : onB a b i k w 2 = false → ∀ j', j' < 3 → onB a b i k w j' = false := fun h j' hj' => by
      by_cases e : j' = 2
      · subst e; exact h
      · exact hno j' (by omega)
    have jx : onB a b i k w 2 = true → stJ a b i k w = 2 := fun h => by
      rcases Nat.lt_trichotomy (stJ a b i k w) 2 with h1 | h1 | h1
      · rw [hno _ h1] at s1; cases s1
      · exact h1
      · rw [s2 _ h1] at h; cases h
    refine vc_sound _ _ _ ?_
    simp (maxSteps := 2000000) only [go_sem, hG, hOw, c0, c1, c2, c3, i1, i2, Nat.reduceMul, Int.add_zero]
    (repeat' with_reducible first | refine And.intro ?_ ?_ | intro _ | refine exP ?_ ?_); all_goals try omega
    refine call_pure g2 (by first | exact Subs.refl _ | (repeat' (first | exact Subs.nil | exact Sub.refl _ | exact Sub.lo (Nat.zero_le _) | refine Subs.cons ?_ ?_ | refine Subs.agg ?_ | refine Subs.fp ?_ | refine Subs.tup ?_ | refine Sub.map (Nat.zero_le _) (fun _ => ?_)))) (by first | rfl | simp [allP, all0, pureV, pure0, *]) (by simp [chk, hG]) ?_
    simp (maxSteps := 2000000) only [go_sem, hG, hOw, c0, c1, c2, c3, i1, i2, Nat.reduceMul, Int.add_zero]
    (repeat' with_reducible first | refine And.intro ?_ ?_ | intro _ | refine exP ?_ ?_); all_goals try omega
    cases hs : stI a b i k w 2 with
    | false =>
      refine semC_draw0 mixed (by kernel_rfl) ?_
      simp (maxSteps := 2000000) only [go_sem, hG, hOw, hs]
      (repeat' with_reducible first | refine And.intro ?_ ?_ | intro _ | refine exP ?_ ?_); all_goals try omega
      refine ⟨3, ⟨by omega, nx (by simp [onB, hs])⟩, by omega, entA [(10, some 10), (30, some 30), (8, some 8), (19, some 19), (9, some 9)]⟩
    | true =>
      have TN := tr hs
      have hq := (stN_ok a b i k w hi hk hw 2 hs).1
      refine semC_drawT [(60, [8, 19, 9]), (64, [8, 19, 9])] mixed (by kernel_rfl) ?_
      simp (maxSteps := 2000000) only [go_sem, hG, hOw, hs]
      (repeat' with_reducible first | refine And.intro ?_ ?_ | intro _ | refine exP ?_ ?_); all_goals try omega
      refine ⟨_, callReads [(108, 8), (119, 19), (109, 9)] (TN) (by (simp only [go_sem]) <;> simp) (by (simp only [go_sem, entH, entH1, nilArr, obOK]) <;> simp) (by simp [injR, apart, toR]) (by simp [coverR, usH, toR]) (by simp [uniqP, lkR, toR]) (by simp [hasAll, keepR, usH, lkR, toR]) (by simp [uniqN, usH]) (by simp [tgt, nmHas]) (by simp [upT, dropsR, outsR, keepR, usH, lkR, toR, sameH, nmHas, go_sem]), ?_⟩
      simp only [go_sem, hG, hOw]
      (repeat' with_reducible first | refine And.intro ?_ ?_ | intro _ | refine exP ?_ ?_); all_goals try omega
      refine ⟨_, callReads [(108, 8), (119, 19), (109, 9)] (T0) (by (simp only [go_sem]) <;> simp) (by (simp only [go_sem, entH, entH1, nilArr, obOK]) <;> simp) (by simp [injR, apart, toR]) (by simp [coverR, usH, toR]) (by simp [uniqP, lkR, toR]) (by simp [hasAll, keepR, usH, lkR, toR]) (by simp [uniqN, usH]) (by simp [tgt, nmHas]) (by simp [upT, dropsR, outsR, keepR, usH, lkR, toR, sameH, nmHas, go_sem]), ?_⟩
      simp only [go_sem, hG, hOw]
      (repeat' with_reducible first | refine And.intro ?_ ?_ | intro _ | refine exP ?_ ?_); all_goals try omega
      all_goals first
        | (rename_i h; exact ⟨3, ⟨by omega, nx (by simp [onB, hs, h])⟩, by omega, entA [(10, some 10), (30, some 30), (8, some 8), (19, some 19), (9, some 9)]⟩)
        | skip
      all_goals have hjj := jx (by simp only [onB, hs, Bool.true_and, decide_eq_true_eq]; assumption)
      all_goals refine hQ _ ?_
      all_goals rw [hjj]
      exact entA [(10, some 10), (30, some 85), (8, some 8), (19, some 19), (9, some 9)] (by (simp only [go_sem]) <;> simp [N2,F2,C2,er,ftE]) (by (simp only [go_sem, entH, entH1, nilArr, obOK]) <;> simp [N2,F2,C2,er,ftE])
  · refine vc_sound _ _ _ ?_
    have : stJ a b i k w < 3 := by unfold stJ; split <;> (try split) <;> omega
    rw [hno _ this] at s1
    cases s1
end Go.Proofs.YtagfopbijboajaaGreatDoor
