import Derived.Test.YtphadkcpgnkpfaaGreatDoorQT18
import Derived.Test.YtphadkcpgnkpfaaGreatDoorQT30
import Derived.Test.YtphadkcpgnkpfaaGreatDoorQT32
namespace Go.Proofs.YtphadkcpgnkpfaaGreatDoor
open Go Pm Go.RowKit
set_option linter.unusedSimpArgs false
set_option linter.unusedVariables false
set_option maxRecDepth 100000
set_option maxHeartbeats 4000000
theorem number_end (lo : Nat) : Tri Tryz.prog 31 [.ptr 0 0] [(0, .box [strs lo []])] (fun _ => .pan (wrV 111) []) := by
  refine tri_intro (fun _ => false) Tryz.func31 Tryz.ntmps31 rfl (by kernel_rfl) (by simp) rfl (by decide) fun G hG hOw hNm => ?_; simp only [go_sem, hG, hOw]
  (repeat' with_reducible first | refine And.intro ?_ ?_ | intro _ | refine exP ?_ ?_); all_goals try omega
  refine call_tri [(0, 0)] [] (take_no lo) (by (simp only [go_sem]) <;> simp) (by (simp only [go_sem, entH, entH1, nilArr, obOK]) <;> simp) (by simp [injR, apart, toR]) (by simp [coverR, usH, toR]) (by simp [uniqP, lkR, toR]) (by simp [chk, hG]) ?_
  simp only [go_sem, hG, hOw]
  exact ⟨rfl, ⟨[], by (simp only [EndT, go_sem, entH, entH1, nilArr, obOK, apart, injR, coverR]) <;> simp⟩⟩
theorem number_yes (lo : Nat) (s : ByteArray) (l : List ByteArray) (v : Int) (hs : s.size ≤ 100000) (h : valueS s = some v) : Tri Tryz.prog 31 [.ptr 0 0] [(0, .box [strs lo (s :: l)])] (fun _ => .ret (i64 v) [(0, .box [strs lo l])]) := by
  obtain ⟨h1, h2, h3, h4⟩ := valueU_inv h
  have hin : inB v 0 9999 = true := by simp [inB, h2, h3]
  have hnb : numB v = s := by rw [numB, h1, bA_self]
  refine tri_intro (fun _ => false) Tryz.func31 Tryz.ntmps31 rfl (by kernel_rfl) (by simp) rfl (by decide) fun G hG hOw hNm => ?_; simp only [go_sem, hG, hOw]
  (repeat' with_reducible first | refine And.intro ?_ ?_ | intro _ | refine exP ?_ ?_); all_goals try omega
  refine call_tri [(0, 0)] [] (take_yes lo s l) (by (simp only [go_sem]) <;> simp) (by (simp only [go_sem, entH, entH1, nilArr, obOK]) <;> simp) (by simp [injR, apart, toR]) (by simp [coverR, usH, toR]) (by simp [uniqP, lkR, toR]) (by simp [chk, hG]) ?_
  simp only [go_sem, hG, hOw]
  (repeat' with_reducible first | refine And.intro ?_ ?_ | intro _ | refine exP ?_ ?_); all_goals try omega
  refine call_pureA (Atoi_yes s hs v h4) ?_
  simp only [go_sem, hG, hOw]
  (repeat' with_reducible first | refine And.intro ?_ ?_ | intro _ | refine exP ?_ ?_); all_goals try omega
  refine ifnil_step .nilIface true .eql (.inl ⟨rfl, rfl⟩) rfl rfl (.inl rfl) (by kernel_rfl) (by simp [chk, hG]) ?_
  simp only [go_sem, hG, hOw]
  (repeat' with_reducible first | refine And.intro ?_ ?_ | intro _ | refine exP ?_ ?_); all_goals try omega
  refine call_pureA (inS_one 0 9999 v) ?_
  rw [hin]
  simp only [go_sem, hG, hOw]
  (repeat' with_reducible first | refine And.intro ?_ ?_ | intro _ | refine exP ?_ ?_); all_goals try omega
  refine call_pureA (Itoa_ok v h2 h3) ?_
  rw [hnb]
  simp only [go_sem, hG, hOw]
  (repeat' with_reducible first | refine And.intro ?_ ?_ | intro _ | refine exP ?_ ?_); all_goals try omega
  refine call_tri [] [] (must_yes 111) (by (simp only [go_sem]) <;> simp) (by (simp only [go_sem, entH, entH1, nilArr, obOK]) <;> simp) (by simp [injR, apart, toR]) (by simp [coverR, usH, toR]) (by simp [uniqP, lkR, toR]) (by simp [chk, hG]) ?_
  simp only [go_sem, hG, hOw]
  (repeat' with_reducible first | refine And.intro ?_ ?_ | intro _ | refine exP ?_ ?_); all_goals try omega
  exact ⟨[(0, some 0)], by (simp only [EndT, go_sem, entH, entH1, nilArr, obOK, apart, injR, coverR]) <;> simp⟩
theorem number_not (lo : Nat) (s : ByteArray) (l : List ByteArray) (hs : s.size ≤ 100000) (h : valueS s = none) : Tri Tryz.prog 31 [.ptr 0 0] [(0, .box [strs lo (s :: l)])] (fun _ => .pan (wrV 111) []) := by
  refine tri_intro (fun _ => false) Tryz.func31 Tryz.ntmps31 rfl (by kernel_rfl) (by simp) rfl (by decide) fun G hG hOw hNm => ?_; simp only [go_sem, hG, hOw]
  (repeat' with_reducible first | refine And.intro ?_ ?_ | intro _ | refine exP ?_ ?_); all_goals try omega
  refine call_tri [(0, 0)] [] (take_yes lo s l) (by (simp only [go_sem]) <;> simp) (by (simp only [go_sem, entH, entH1, nilArr, obOK]) <;> simp) (by simp [injR, apart, toR]) (by simp [coverR, usH, toR]) (by simp [uniqP, lkR, toR]) (by simp [chk, hG]) ?_
  simp only [go_sem, hG, hOw]
  (repeat' with_reducible first | refine And.intro ?_ ?_ | intro _ | refine exP ?_ ?_); all_goals try omega
  by_cases ha : ∃ v, Lib.atoiAll s.data.toList = .ok v
  · obtain ⟨v, hv⟩ := ha
    have hno : ¬ (inB v 0 9999 = true ∧ numB v = s) := by
      rcases valueS_ok s v hv with q | q
      · rw [h] at q; cases q.2
      · exact q.1
    refine call_pureA (Atoi_yes s hs v hv) ?_
    simp only [go_sem, hG, hOw]
    (repeat' with_reducible first | refine And.intro ?_ ?_ | intro _ | refine exP ?_ ?_); all_goals try omega
    refine ifnil_step .nilIface true .eql (.inl ⟨rfl, rfl⟩) rfl rfl (.inl rfl) (by kernel_rfl) (by simp [chk, hG]) ?_
    simp only [go_sem, hG, hOw]
    (repeat' with_reducible first | refine And.intro ?_ ?_ | intro _ | refine exP ?_ ?_); all_goals try omega
    refine call_pureA (inS_one 0 9999 v) ?_
    cases hin : inB v 0 9999 with
    | false =>
      simp only [go_sem, hG, hOw]
      (repeat' with_reducible first | refine And.intro ?_ ?_ | intro _ | refine exP ?_ ?_); all_goals try omega
      refine call_tri [] [] (must_no 111) (by (simp only [go_sem]) <;> simp) (by (simp only [go_sem, entH, entH1, nilArr, obOK]) <;> simp) (by simp [injR, apart, toR]) (by simp [coverR, usH, toR]) (by simp [uniqP, lkR, toR]) (by simp [chk, hG]) ?_
      simp only [go_sem, hG, hOw]
      exact ⟨rfl, ⟨[], by (simp only [EndT, go_sem, entH, entH1, nilArr, obOK, apart, injR, coverR]) <;> simp⟩⟩
    | true =>
      have hb : 0 ≤ v ∧ v ≤ 9999 := by simpa [inB] using hin
      simp only [go_sem, hG, hOw]
      (repeat' with_reducible first | refine And.intro ?_ ?_ | intro _ | refine exP ?_ ?_); all_goals try omega
      refine call_pureA (Itoa_ok v hb.1 hb.2) ?_
      have hne : numB v ≠ s := fun e => hno ⟨hin, e⟩
      simp (maxSteps := 2000000) only [go_sem, hG, hOw, hne]
      (repeat' with_reducible first | refine And.intro ?_ ?_ | intro _ | refine exP ?_ ?_); all_goals try omega
      refine call_tri [] [] (must_no 111) (by (simp only [go_sem]) <;> simp) (by (simp only [go_sem, entH, entH1, nilArr, obOK]) <;> simp) (by simp [injR, apart, toR]) (by simp [coverR, usH, toR]) (by simp [uniqP, lkR, toR]) (by simp [chk, hG]) ?_
      simp only [go_sem, hG, hOw]
      exact ⟨rfl, ⟨[], by (simp only [EndT, go_sem, entH, entH1, nilArr, obOK, apart, injR, coverR]) <;> simp⟩⟩
  · have ha' : ∀ v, Lib.atoiAll s.data.toList ≠ .ok v := fun v hv => ha ⟨v, hv⟩
    refine call_some (Atoi_no s hs ha') (by first | exact Subs.refl _ | (repeat' (first | exact Subs.nil | exact Sub.refl _ | exact Sub.lo (Nat.zero_le _) | refine Subs.cons ?_ ?_ | refine Subs.agg ?_ | refine Subs.fp ?_ | refine Subs.tup ?_ | refine Sub.map (Nat.zero_le _) (fun _ => ?_)))) (by first | rfl | simp [allP, all0, pureV, pure0, *]) (by simp [chk, hG]) ?_
    rintro _ ⟨n, t, p, rfl⟩
    simp only [go_sem, hG, hOw]
    (repeat' with_reducible first | refine And.intro ?_ ?_ | intro _ | refine exP ?_ ?_); all_goals try omega
    refine ifnil_step (.iface t p) false .eql (.inl ⟨rfl, rfl⟩) rfl rfl (.inr ⟨_, _, rfl⟩) (by kernel_rfl) (by simp [chk, hG]) ?_
    simp only [go_sem, hG, hOw]
    (repeat' with_reducible first | refine And.intro ?_ ?_ | intro _ | refine exP ?_ ?_); all_goals try omega
    refine call_tri [] [] (must_no 111) (by (simp only [go_sem]) <;> simp) (by (simp only [go_sem, entH, entH1, nilArr, obOK]) <;> simp) (by simp [injR, apart, toR]) (by simp [coverR, usH, toR]) (by simp [uniqP, lkR, toR]) (by simp [chk, hG]) ?_
    simp only [go_sem, hG, hOw]
    exact ⟨rfl, ⟨[], by (simp only [EndT, go_sem, entH, entH1, nilArr, obOK, apart, injR, coverR]) <;> simp⟩⟩
theorem number_bad (lo : Nat) (l : List ByteArray) (hl : ∀ s ∈ l, s.size ≤ 100000) (h : ∀ s r, l = s :: r → valueS s = none) : Tri Tryz.prog 31 [.ptr 0 0] [(0, .box [strs lo l])] (fun _ => .pan (wrV 111) []) := by
  cases l with
  | nil => exact number_end lo
  | cons s r => exact number_not lo s r (hl s (by simp)) (h s r rfl)
def nvS (l : List ByteArray) (j : Nat) : Int := (valueS (l.getD j ByteArray.empty)).getD 0
def okN1 (l : List ByteArray) (j : Nat) : Bool := decide (j < l.length) && (valueS (l.getD j ByteArray.empty)).isSome
def placeB (l : List ByteArray) : Bool := okN1 l 0 && okN1 l 1 && okN1 l 2
theorem okN1_yes {l : List ByteArray} {j : Nat} (h : okN1 l j = true) : ∃ hj : j < l.length, valueS l[j] = some (nvS l j) := by
  simp only [okN1, Bool.and_eq_true, decide_eq_true_eq] at h
  obtain ⟨hj, h2⟩ := h
  have e : l.getD j ByteArray.empty = l[j] := by simp [List.getD, hj]
  rw [e] at h2
  refine ⟨hj, ?_⟩
  unfold nvS
  rw [e]
  cases hv : valueS l[j] with
  | none => rw [hv] at h2; cases h2
  | some v => rfl
theorem okN1_no {l : List ByteArray} {j : Nat} (h : okN1 l j = false) : ∀ s r, l.drop j = s :: r → valueS s = none := by
  intro s r e
  have hj : j < l.length := by
    rcases Nat.lt_or_ge j l.length with q | q
    · exact q
    · rw [List.drop_eq_nil_of_le q] at e; cases e
  have e1 : s = l[j] := by rw [List.drop_eq_getElem_cons hj] at e; exact (List.cons.inj e).1.symm
  simp only [okN1, hj, decide_true, Bool.true_and] at h
  have e2 : l.getD j ByteArray.empty = l[j] := by simp [List.getD, hj]
  rw [e2, ← e1] at h
  cases hv : valueS s with
  | none => rfl
  | some v => rw [hv] at h; cases h
theorem number_at (lo : Nat) (l : List ByteArray) (j : Nat) (hl : ∀ s ∈ l, s.size ≤ 100000) (h : okN1 l j = true) : Tri Tryz.prog 31 [.ptr 0 0] [(0, .box [strs lo (l.drop j)])] (fun _ => .ret (i64 (nvS l j)) [(0, .box [strs lo (l.drop (j + 1))])]) := by
  obtain ⟨hj, hv⟩ := okN1_yes h
  rw [List.drop_eq_getElem_cons hj]
  exact number_yes lo l[j] (l.drop (j + 1)) (nvS l j) (hl _ (List.getElem_mem hj)) hv
theorem number_nat (lo : Nat) (l : List ByteArray) (j : Nat) (hl : ∀ s ∈ l, s.size ≤ 100000) (h : okN1 l j = false) : Tri Tryz.prog 31 [.ptr 0 0] [(0, .box [strs lo (l.drop j)])] (fun _ => .pan (wrV 111) []) :=
  number_bad lo (l.drop j) (fun s hs => hl s (List.mem_of_mem_drop hs)) (okN1_no h)
def plK (l : List ByteArray) : Nat → List V
  | 0 => [i64 0, i64 0, i64 0]
  | 1 => [i64 (nvS l 0), i64 0, i64 0]
  | 2 => [i64 (nvS l 0), i64 (nvS l 1), i64 0]
  | _ => [i64 (nvS l 0), i64 (nvS l 1), i64 (nvS l 2)]
theorem plK_0 (l : List ByteArray) : plK l 0 = [i64 0, i64 0, i64 0] := rfl
theorem plK_1 (l : List ByteArray) : plK l 1 = [i64 (nvS l 0), i64 0, i64 0] := rfl
theorem plK_2 (l : List ByteArray) : plK l 2 = [i64 (nvS l 0), i64 (nvS l 1), i64 0] := rfl
theorem plK_3 (l : List ByteArray) : plK l 3 = [i64 (nvS l 0), i64 (nvS l 1), i64 (nvS l 2)] := rfl
attribute [go_sem] plK_0 plK_1 plK_2 plK_3
theorem place_tri (lo : Nat) (l : List ByteArray) (hl : ∀ s ∈ l, s.size ≤ 100000) : Tri Tryz.prog 47 [.ptr 0 0] [(0, .box [strs lo l])] (fun _ => if placeB l then .ret (.agg (plK l 3)) [(0, .box [strs lo (l.drop 3)])] else .pan (wrV 111) []) := by
  refine tri_intro (fun i => [9].contains i) Tryz.func47 Tryz.ntmps47 rfl (by kernel_rfl) (by simp) rfl (by decide) fun G hG hOw hNm => ?_; simp only [go_sem, hG, hOw]
  (repeat' with_reducible first | refine And.intro ?_ ?_ | intro _ | refine exP ?_ ?_); all_goals try omega
  have c0 : ((0 : Nat) : Int) = 0 := rfl
  have c1 : ((1 : Nat) : Int) = 1 := rfl
  have c2 : ((2 : Nat) : Int) = 2 := rfl
  have c3 : ((3 : Nat) : Int) = 3 := rfl
  have i1 : Int.toNat 1 = 1 := rfl
  have i2 : Int.toNat 2 = 2 := rfl
  refine semC_loop (fun k : Nat => St.of [(0, .ptr 0 0), (2, .ptr 2 0), (3, .ptr 3 0), (9, .own 9 0 3 1), (10, i64 3), (11, i64 k)] [(0, .box [strs lo (l.drop k)]), (2, .box [i64 0, i64 0, i64 0]), (3, .box (plK l k)), (9, .box [.ptr 3 0, .ptr 3 1, .ptr 3 2])]) (fun k => k ≤ 3 ∧ (0 < k → okN1 l 0 = true) ∧ (1 < k → okN1 l 1 = true) ∧ (2 < k → okN1 l 2 = true)) (fun k => 3 - k) 0 (by simp) (by simp only [List.drop_zero]; exact entA [(0, some 0), (2, some 2), (3, some 3), (9, some 9)]) ?_
  rintro k ⟨hk, h1, h2, h3⟩
  have hk4 : k = 0 ∨ k = 1 ∨ k = 2 ∨ k = 3 := by omega
  rcases hk4 with rfl | rfl | rfl | rfl
  all_goals skip
  · refine vc_sound _ _ _ ?_
    simp (maxSteps := 2000000) only [go_sem, hG, hOw, c0, c1, c2, c3, i1, i2, List.getElem_cons_zero, List.getElem_cons_succ]
    (repeat' with_reducible first | refine And.intro ?_ ?_ | intro _ | refine exP ?_ ?_); all_goals try omega
    cases ho : okN1 l 0 with
    | false =>
      have hbad : placeB l = false := by unfold placeB; rw [ho]; simp
      rw [hbad]
      have hU := number_nat lo l 0 hl ho
      rw [List.drop_zero] at hU
      refine call_tri [(0, 0)] [] (hU) (by (simp only [go_sem]) <;> simp) (by (simp only [go_sem, entH, entH1, nilArr, obOK]) <;> simp) (by simp [injR, apart, toR]) (by simp [coverR, usH, toR]) (by simp [uniqP, lkR, toR]) (by simp [chk, hG]) ?_
      simp only [go_sem, hG, hOw]
      exact ⟨rfl, ⟨[], by (simp only [EndT, go_sem, entH, entH1, nilArr, obOK, apart, injR, coverR]) <;> simp⟩⟩
    | true =>
      have hU := number_at lo l 0 hl ho
      rw [List.drop_zero] at hU
      refine call_tri [(0, 0)] [] (hU) (by (simp only [go_sem]) <;> simp) (by (simp only [go_sem, entH, entH1, nilArr, obOK]) <;> simp) (by simp [injR, apart, toR]) (by simp [coverR, usH, toR]) (by simp [uniqP, lkR, toR]) (by simp [chk, hG]) ?_
      simp only [go_sem, hG, hOw]
      (repeat' with_reducible first | refine And.intro ?_ ?_ | intro _ | refine exP ?_ ?_); all_goals try omega
      exact ⟨1, (by simp [ho]), by omega, entA [(0, some 0), (2, some 2), (3, some 3), (9, some 9)]⟩
  · refine vc_sound _ _ _ ?_
    simp (maxSteps := 2000000) only [go_sem, hG, hOw, c0, c1, c2, c3, i1, i2, List.getElem_cons_zero, List.getElem_cons_succ]
    (repeat' with_reducible first | refine And.intro ?_ ?_ | intro _ | refine exP ?_ ?_); all_goals try omega
    cases ho : okN1 l 1 with
    | false =>
      have hbad : placeB l = false := by unfold placeB; rw [ho]; simp
      rw [hbad]
      have hU := number_nat lo l 1 hl ho
      skip
      refine call_tri [(0, 0)] [] (hU) (by (simp only [go_sem]) <;> simp) (by (simp only [go_sem, entH, entH1, nilArr, obOK]) <;> simp) (by simp [injR, apart, toR]) (by simp [coverR, usH, toR]) (by simp [uniqP, lkR, toR]) (by simp [chk, hG]) ?_
      simp only [go_sem, hG, hOw]
      exact ⟨rfl, ⟨[], by (simp only [EndT, go_sem, entH, entH1, nilArr, obOK, apart, injR, coverR]) <;> simp⟩⟩
    | true =>
      have hU := number_at lo l 1 hl ho
      skip
      refine call_tri [(0, 0)] [] (hU) (by (simp only [go_sem]) <;> simp) (by (simp only [go_sem, entH, entH1, nilArr, obOK]) <;> simp) (by simp [injR, apart, toR]) (by simp [coverR, usH, toR]) (by simp [uniqP, lkR, toR]) (by simp [chk, hG]) ?_
      simp only [go_sem, hG, hOw]
      (repeat' with_reducible first | refine And.intro ?_ ?_ | intro _ | refine exP ?_ ?_); all_goals try omega
      have h1' := h1 (by omega)
      exact ⟨2, (by simp [ho, h1']), by omega, entA [(0, some 0), (2, some 2), (3, some 3), (9, some 9)]⟩
  · refine vc_sound _ _ _ ?_
    simp (maxSteps := 2000000) only [go_sem, hG, hOw, c0, c1, c2, c3, i1, i2, List.getElem_cons_zero, List.getElem_cons_succ]
    (repeat' with_reducible first | refine And.intro ?_ ?_ | intro _ | refine exP ?_ ?_); all_goals try omega
    cases ho : okN1 l 2 with
    | false =>
      have hbad : placeB l = false := by unfold placeB; rw [ho]; simp
      rw [hbad]
      have hU := number_nat lo l 2 hl ho
      skip
      refine call_tri [(0, 0)] [] (hU) (by (simp only [go_sem]) <;> simp) (by (simp only [go_sem, entH, entH1, nilArr, obOK]) <;> simp) (by simp [injR, apart, toR]) (by simp [coverR, usH, toR]) (by simp [uniqP, lkR, toR]) (by simp [chk, hG]) ?_
      simp only [go_sem, hG, hOw]
      exact ⟨rfl, ⟨[], by (simp only [EndT, go_sem, entH, entH1, nilArr, obOK, apart, injR, coverR]) <;> simp⟩⟩
    | true =>
      have hU := number_at lo l 2 hl ho
      skip
      refine call_tri [(0, 0)] [] (hU) (by (simp only [go_sem]) <;> simp) (by (simp only [go_sem, entH, entH1, nilArr, obOK]) <;> simp) (by simp [injR, apart, toR]) (by simp [coverR, usH, toR]) (by simp [uniqP, lkR, toR]) (by simp [chk, hG]) ?_
      simp only [go_sem, hG, hOw]
      (repeat' with_reducible first | refine And.intro ?_ ?_ | intro _ | refine exP ?_ ?_); all_goals try omega
      have h1' := h1 (by omega)
      have h2' := h2 (by omega)
      exact ⟨3, (by simp [ho, h1', h2']), by omega, entA [(0, some 0), (2, some 2), (3, some 3), (9, some 9)]⟩
  · have hok : placeB l = true := by unfold placeB; rw [h1 (by omega), h2 (by omega), h3 (by omega)]; rfl
    rw [if_pos hok]
    refine vc_sound _ _ _ ?_
    simp (maxSteps := 2000000) only [go_sem, hG, hOw, c0, c1, c2, c3, i1, i2, List.getElem_cons_zero, List.getElem_cons_succ]
    (repeat' with_reducible first | refine And.intro ?_ ?_ | intro _ | refine exP ?_ ?_); all_goals try omega
    exact ⟨[(0, some 0)], by (simp only [EndT, go_sem, entH, entH1, nilArr, obOK, apart, injR, coverR]) <;> simp⟩
end Go.Proofs.YtphadkcpgnkpfaaGreatDoor
