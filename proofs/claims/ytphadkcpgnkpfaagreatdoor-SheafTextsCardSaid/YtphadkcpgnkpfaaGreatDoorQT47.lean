import Derived.Test.YtphadkcpgnkpfaaGreatDoorQT39
import Derived.Test.YtphadkcpgnkpfaaGreatDoorQT46
namespace Go.Proofs.YtphadkcpgnkpfaaGreatDoor
open Go Pm Go.RowKit Go.Sort
set_option linter.unusedSimpArgs false
set_option linter.unusedVariables false
set_option maxHeartbeats 4000000
set_option maxRecDepth 100000
theorem ToCopy1_ok (l : List ByteArray) (c : Cp) (h : rowsB l = true) (hr : readG none l = some (some c)) : Tri Tryz.prog 44 [.ptr 0 0, .ptr 1 0, .ptr 2 0] [(0, .box [i64 0]), (1, .box [strs 0 l]), (2, .box [i64 0, .v (.slice none 0 0)])]
    (fun _ => .ret (.tup []) [(0, .box [i64 0]), (1, .box [strs 0 l]), (2, .box (cpC 0 c))]) := by
  have hU := read_copy l h
  simp only [hr] at hU
  refine tri_introD (fun _ => false) (told := 28) (p := 0) (x := .int .i64 0) wrV (fun _ => True) Tryz.func44 Tryz.ntmps44 rfl (by kernel_rfl) (by simp) rfl rfl rfl rfl rfl (by simp [names]) told_none (fun k _ => told_back k) fun G hG hOw hNm _ => ?_
  simp only [go_sem, hG, hOw]
  (repeat' with_reducible first | refine And.intro ?_ ?_ | intro _ | refine exP ?_ ?_); all_goals try omega
  refine call_tri [(0, 3), (1, 2)] [] (hU) (by (simp only [go_sem]) <;> simp) (by (simp only [go_sem, entH, entH1, nilArr, obOK]) <;> simp) (by simp [injR, apart, toR]) (by simp [coverR, usH, toR]) (by simp [uniqP, lkR, toR]) (by simp [chk, hG]) ?_
  simp only [go_sem, hG, hOw]
  (repeat' with_reducible first | refine And.intro ?_ ?_ | intro _ | refine exP ?_ ?_); all_goals try omega
  refine call_tri [] [] (must_yes 111) (by (simp only [go_sem]) <;> simp) (by (simp only [go_sem, entH, entH1, nilArr, obOK]) <;> simp) (by simp [injR, apart, toR]) (by simp [coverR, usH, toR]) (by simp [uniqP, lkR, toR]) (by simp [chk, hG]) ?_
  simp (maxSteps := 2000000) only [go_sem, hG, hOw, endsD_n, endsD_r]
  (repeat' with_reducible first | refine And.intro ?_ ?_ | intro _ | refine exP ?_ ?_); all_goals try omega
  have f1 : cpO (some c) = c := rfl
  exact ⟨[(0, some 0), (1, some 1), (2, some 2)], by (simp only [EndT, go_sem, entH, entH1, nilArr, obOK, apart, injR, coverR]) <;> simp [f1]⟩
theorem ToCopy1_none (l : List ByteArray) (h : rowsB l = true) (hr : readG none l = some none) : Tri Tryz.prog 44 [.ptr 0 0, .ptr 1 0, .ptr 2 0] [(0, .box [i64 0]), (1, .box [strs 0 l]), (2, .box [i64 0, .v (.slice none 0 0)])]
    (fun _ => .ret (.tup []) [(0, .box [i64 111]), (1, .box [strs 0 l])]) := by
  have hU := read_copy l h
  simp only [hr] at hU
  refine tri_introD (fun _ => false) (told := 28) (p := 0) (x := .int .i64 0) wrV (fun _ => True) Tryz.func44 Tryz.ntmps44 rfl (by kernel_rfl) (by simp) rfl rfl rfl rfl rfl (by simp [names]) told_none (fun k _ => told_back k) fun G hG hOw hNm _ => ?_
  simp only [go_sem, hG, hOw]
  (repeat' with_reducible first | refine And.intro ?_ ?_ | intro _ | refine exP ?_ ?_); all_goals try omega
  refine call_tri [(0, 3), (1, 2)] [] (hU) (by (simp only [go_sem]) <;> simp) (by (simp only [go_sem, entH, entH1, nilArr, obOK]) <;> simp) (by simp [injR, apart, toR]) (by simp [coverR, usH, toR]) (by simp [uniqP, lkR, toR]) (by simp [chk, hG]) ?_
  simp only [go_sem, hG, hOw]
  (repeat' with_reducible first | refine And.intro ?_ ?_ | intro _ | refine exP ?_ ?_); all_goals try omega
  refine call_tri [] [] (must_no 111) (by (simp only [go_sem]) <;> simp) (by (simp only [go_sem, entH, entH1, nilArr, obOK]) <;> simp) (by simp [injR, apart, toR]) (by simp [coverR, usH, toR]) (by simp [uniqP, lkR, toR]) (by simp [chk, hG]) ?_
  simp (maxSteps := 2000000) only [go_sem, hG, hOw, endsD_p]
  (repeat' with_reducible first | refine And.intro ?_ ?_ | intro _ | refine exP ?_ ?_); all_goals try omega
  exact ⟨111, rfl, ⟨[(0, some 0), (1, some 1)], by (simp only [EndT, go_sem, entH, entH1, nilArr, obOK, apart, injR, coverR]) <;> simp⟩⟩
theorem ToCopy1_bad (l : List ByteArray) (k : Int) (h : rowsB l = false ∧ k = 110 ∨ rowsB l = true ∧ readG none l = none ∧ k = 111) : Tri Tryz.prog 44 [.ptr 0 0, .ptr 1 0, .ptr 2 0] [(0, .box [i64 0]), (1, .box [strs 0 l]), (2, .box [i64 0, .v (.slice none 0 0)])]
    (fun _ => .ret (.tup []) [(0, .box [i64 k]), (1, .box [strs 0 l])]) := by
  have hU : Tri Tryz.prog 29 [strs 0 l, .fn (.func 45) [.ptr 0 0, .ptr 1 0]] [(0, .box [bl false]), (1, .box [i64 0, .v (.slice none 0 0)])] (fun _ => .pan (wrV k) []) := by
    rcases h with ⟨h1, rfl⟩ | ⟨h1, h2, rfl⟩
    · exact cread_rows l h1
    · have := read_copy l h1
      simp only [h2] at this
      exact this
  refine tri_introD (fun _ => false) (told := 28) (p := 0) (x := .int .i64 0) wrV (fun _ => True) Tryz.func44 Tryz.ntmps44 rfl (by kernel_rfl) (by simp) rfl rfl rfl rfl rfl (by simp [names]) told_none (fun k _ => told_back k) fun G hG hOw hNm _ => ?_
  simp only [go_sem, hG, hOw]
  (repeat' with_reducible first | refine And.intro ?_ ?_ | intro _ | refine exP ?_ ?_); all_goals try omega
  refine call_tri [(0, 3), (1, 2)] [] (hU) (by (simp only [go_sem]) <;> simp) (by (simp only [go_sem, entH, entH1, nilArr, obOK]) <;> simp) (by simp [injR, apart, toR]) (by simp [coverR, usH, toR]) (by simp [uniqP, lkR, toR]) (by simp [chk, hG]) ?_
  simp (maxSteps := 2000000) only [go_sem, hG, hOw, endsD_p]
  (repeat' with_reducible first | refine And.intro ?_ ?_ | intro _ | refine exP ?_ ?_); all_goals try omega
  refine ⟨k, trivial, rfl, by simp [go_sem], ?_⟩
  simp only [go_sem, hG, hOw]
  exact ⟨[(0, some 0), (1, some 1)], by (simp only [EndT, go_sem, entH, entH1, nilArr, obOK, apart, injR, coverR]) <;> simp⟩
def noCp : Cp := ⟨0, []⟩
def toCopyP (t : List Ch) (l : List ByteArray) : Cp × Int := if textB t then (if rowsB l then (match readG none l with
    | some (some c) => if copyE t c = 0 then (c, 0) else (noCp, copyE t c)
    | _ => (noCp, 111)) else (noCp, 110)) else (noCp, 10)
theorem sub_noCp (k : Int) : Pm.Sub (.tup [.agg [i64 0, .v (.slice none 0 0)], i64 k]) (.tup [cpE 0 noCp, i64 k]) := Subs.tup (.cons (Subs.agg (.cons (.refl _) (.cons (.nil _ _) .nil))) (.cons (.refl _) .nil))
theorem ToCopy_ok (t : List Ch) (l : List ByteArray) : Gives Tryz.prog 17 [txE 0 t, strs 0 l] (fun _ => .tup [cpE 0 (toCopyP t l).1, i64 (toCopyP t l).2]) := by
  cases ht : textB t with
  | false =>
    have e : toCopyP t l = (noCp, 10) := by simp [toCopyP, ht]
    rw [e]
    refine pure_intro (ow := fun _ => false) Tryz.func17 Tryz.ntmps17 rfl (by kernel_rfl) (by simp) rfl (by decide) fun G hG hOw hNm hB => ?_; simp only [go_sem, hG, hOw]
    refine call_pureA (LCheck_ok t) ?_
    simp (maxSteps := 2000000) only [go_sem, hG, hOw, ht]
    (repeat' with_reducible first | refine And.intro ?_ ?_ | intro _ | refine exP ?_ ?_); all_goals try omega
    exact sub_noCp 10
  | true =>
    by_cases hgood : rowsB l = true ∧ ∃ c, readG none l = some (some c)
    · obtain ⟨h1, c, h2⟩ := hgood
      have e : toCopyP t l = if copyE t c = 0 then (c, 0) else (noCp, copyE t c) := by unfold toCopyP; simp only [ht, h1, h2, if_true]
      rw [e]
      refine pure_intro (ow := fun _ => false) Tryz.func17 Tryz.ntmps17 rfl (by kernel_rfl) (by simp) rfl (by decide) fun G hG hOw hNm hB => ?_; simp only [go_sem, hG, hOw]
      refine call_pureA (LCheck_ok t) ?_
      simp (maxSteps := 2000000) only [go_sem, hG, hOw, ht]
      (repeat' with_reducible first | refine And.intro ?_ ?_ | intro _ | refine exP ?_ ?_); all_goals try omega
      refine call_tri [(0, 8), (1, 3), (2, 7)] [] (ToCopy1_ok l c h1 h2) (by (simp only [go_sem]) <;> simp) (by (simp only [go_sem, entH, entH1, nilArr, obOK]) <;> simp) (by simp [injR, apart, toR]) (by simp [coverR, usH, toR]) (by simp [uniqP, lkR, toR]) (by simp [chk, hG]) ?_
      simp only [go_sem, hG, hOw]
      (repeat' with_reducible first | refine And.intro ?_ ?_ | intro _ | refine exP ?_ ?_); all_goals try omega
      refine call_pureA (CheckCopy_ok t c) ?_
      by_cases hc : copyE t c = 0
      · rw [if_pos hc]
        simp (maxSteps := 2000000) only [go_sem, hG, hOw, hc]
        (repeat' with_reducible first | refine And.intro ?_ ?_ | intro _ | refine exP ?_ ?_); all_goals try omega
      · rw [if_neg hc]
        simp (maxSteps := 2000000) only [go_sem, hG, hOw, hc]
        (repeat' with_reducible first | refine And.intro ?_ ?_ | intro _ | refine exP ?_ ?_); all_goals try omega
        refine semC_draw ⟨[4, 8], [], []⟩ [(0, false), (1, false), (2, false), (3, false)] mixed (by kernel_rfl) ?_
        simp only [pickO, List.getElem?_cons_zero, List.getElem?_cons_succ]
        simp only [go_sem, hG, hOw]
        (repeat' with_reducible first | refine And.intro ?_ ?_ | intro _ | refine exP ?_ ?_); all_goals try omega
        exact sub_noCp _
    · obtain ⟨k, hk, e, hT⟩ : ∃ k : Int, k ≠ 0 ∧ toCopyP t l = (noCp, k) ∧ Tri Tryz.prog 44 [.ptr 0 0, .ptr 1 0, .ptr 2 0] [(0, .box [i64 0]), (1, .box [strs 0 l]), (2, .box [i64 0, .v (.slice none 0 0)])] (fun _ => .ret (.tup []) [(0, .box [i64 k]), (1, .box [strs 0 l])]) := by
        cases h1 : rowsB l with
        | false => exact ⟨110, by decide, by simp [toCopyP, ht, h1], ToCopy1_bad l 110 (.inl ⟨h1, rfl⟩)⟩
        | true =>
          cases h2 : readG none l with
          | none => exact ⟨111, by decide, by simp [toCopyP, ht, h1, h2], ToCopy1_bad l 111 (.inr ⟨h1, h2, rfl⟩)⟩
          | some s =>
            cases s with
            | none => exact ⟨111, by decide, by simp [toCopyP, ht, h1, h2], ToCopy1_none l h1 h2⟩
            | some c => exact (hgood ⟨h1, c, h2⟩).elim
      rw [e]
      refine pure_intro (ow := fun _ => false) Tryz.func17 Tryz.ntmps17 rfl (by kernel_rfl) (by simp) rfl (by decide) fun G hG hOw hNm hB => ?_; simp only [go_sem, hG, hOw]
      refine call_pureA (LCheck_ok t) ?_
      simp (maxSteps := 2000000) only [go_sem, hG, hOw, ht]
      (repeat' with_reducible first | refine And.intro ?_ ?_ | intro _ | refine exP ?_ ?_); all_goals try omega
      refine call_tri [(0, 8), (1, 3), (2, 7)] [] (hT) (by (simp only [go_sem]) <;> simp) (by (simp only [go_sem, entH, entH1, nilArr, obOK]) <;> simp) (by simp [injR, apart, toR]) (by simp [coverR, usH, toR]) (by simp [uniqP, lkR, toR]) (by simp [chk, hG]) ?_
      simp (maxSteps := 2000000) only [go_sem, hG, hOw, hk]
      (repeat' with_reducible first | refine And.intro ?_ ?_ | intro _ | refine exP ?_ ?_); all_goals try omega
      refine semC_draw ⟨[4, 8], [], []⟩ [(0, false), (1, false), (2, false), (3, false)] mixed (by kernel_rfl) ?_
      simp only [pickO, List.getElem?_cons_zero, List.getElem?_cons_succ]
      simp only [go_sem, hG, hOw]
      (repeat' with_reducible first | refine And.intro ?_ ?_ | intro _ | refine exP ?_ ?_); all_goals try omega
      exact sub_noCp k
end Go.Proofs.YtphadkcpgnkpfaaGreatDoor
