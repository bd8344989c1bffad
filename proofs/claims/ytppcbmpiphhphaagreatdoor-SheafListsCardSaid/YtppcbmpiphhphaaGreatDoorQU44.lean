import Derived.Test.YtppcbmpiphhphaaGreatDoorQU32
import Derived.Test.YtppcbmpiphhphaaGreatDoorQU38
import Derived.Test.YtppcbmpiphhphaaGreatDoorQU39
namespace Go.Proofs.YtppcbmpiphhphaaGreatDoor
open Go Pm
set_option linter.unusedSimpArgs false
set_option linter.unusedVariables false
set_option maxHeartbeats 4000000
set_option maxRecDepth 100000
theorem nvS_drop (l : List ByteArray) (i j : Nat) : nvS (l.drop i) j = nvS l (i + j) := by
  unfold nvS
  rw [List.getD_eq_getElem?_getD, List.getD_eq_getElem?_getD, List.getElem?_drop]
theorem okN1_drop (l : List ByteArray) (i j : Nat) : okN1 (l.drop i) j = okN1 l (i + j) := by
  unfold okN1
  rw [List.getD_eq_getElem?_getD, List.getD_eq_getElem?_getD, List.getElem?_drop]
  congr 1
  rw [List.length_drop]
  exact decide_eq_decide.2 (by omega)
theorem rnum_any (lo : Nat) (l : List ByteArray) (b : Bool) (hl : ∀ s ∈ l, s.size ≤ 100000) : Tri Tryz.prog 57 [.ptr 0 0] [(0, .box [strs lo l, bl b])] (fun _ => .ret (i64 (nvS l 0)) [(0, .box [strs lo (l.drop 1), bl (b || !okN1 l 0)])]) := by
  cases l with
  | nil =>
    have e1 : nvS [] 0 = 0 := by decide
    have e2 : (b || !okN1 [] 0) = true := by simp [okN1]
    rw [e1, e2]
    exact rnum_end lo b
  | cons s r =>
    have e1 : nvS (s :: r) 0 = (valueS s).getD 0 := rfl
    have e2 : okN1 (s :: r) 0 = (valueS s).isSome := by simp [okN1]
    rw [e1, e2]
    exact rnum_yes lo s r b (hl s (by simp))
theorem rplace_tri (lo : Nat) (l : List ByteArray) (b : Bool) (hl : ∀ s ∈ l, s.size ≤ 100000) : Tri Tryz.prog 40 [.ptr 0 0] [(0, .box [strs lo l, bl b])] (fun _ => .ret (.agg [i64 (nvS l 0), i64 (nvS l 1), i64 (nvS l 2)]) [(0, .box [strs lo (l.drop 3), bl (b || !placeB l)])]) := by
  have h1 := rnum_any lo l b hl
  have h2 := rnum_any lo (l.drop 1) (b || !okN1 l 0) (fun s hs => hl s (List.mem_of_mem_drop hs))
  have h3 := rnum_any lo (l.drop 2) ((b || !okN1 l 0) || !okN1 l 1) (fun s hs => hl s (List.mem_of_mem_drop hs))
  simp only [nvS_drop, okN1_drop, List.drop_drop, Nat.reduceAdd] at h2 h3
  have hb : (((b || !okN1 l 0) || !okN1 l 1) || !okN1 l 2) = (b || !placeB l) := by
    unfold placeB
    cases b <;> cases okN1 l 0 <;> cases okN1 l 1 <;> cases okN1 l 2 <;> rfl
  rw [hb] at h3
  refine tri_intro (fun _ => false) Tryz.func40 Tryz.ntmps40 rfl (by kernel_rfl) (by simp) rfl (by decide) fun G hG hOw hNm => ?_; simp only [go_sem, hG, hOw]
  (repeat' with_reducible first | refine And.intro ?_ ?_ | intro _ | refine exP ?_ ?_); all_goals try omega
  refine call_tri [(0, 0)] [] (h1) (by (simp only [go_sem]) <;> simp) (by (simp only [go_sem, entH, entH1, nilArr, obOK]) <;> simp) (by simp [injR, apart, toR]) (by simp [coverR, usH, toR]) (by simp [uniqP, lkR, toR]) (by simp [chk, hG]) ?_
  simp only [go_sem, hG, hOw]
  (repeat' with_reducible first | refine And.intro ?_ ?_ | intro _ | refine exP ?_ ?_); all_goals try omega
  refine call_tri [(0, 0)] [] (h2) (by (simp only [go_sem]) <;> simp) (by (simp only [go_sem, entH, entH1, nilArr, obOK]) <;> simp) (by simp [injR, apart, toR]) (by simp [coverR, usH, toR]) (by simp [uniqP, lkR, toR]) (by simp [chk, hG]) ?_
  simp only [go_sem, hG, hOw]
  (repeat' with_reducible first | refine And.intro ?_ ?_ | intro _ | refine exP ?_ ?_); all_goals try omega
  refine call_tri [(0, 0)] [] (h3) (by (simp only [go_sem]) <;> simp) (by (simp only [go_sem, entH, entH1, nilArr, obOK]) <;> simp) (by simp [injR, apart, toR]) (by simp [coverR, usH, toR]) (by simp [uniqP, lkR, toR]) (by simp [chk, hG]) ?_
  simp only [go_sem, hG, hOw]
  (repeat' with_reducible first | refine And.intro ?_ ?_ | intro _ | refine exP ?_ ?_); all_goals try omega
  exact ⟨[(0, some 0)], by (simp only [EndT, go_sem, entH, entH1, nilArr, obOK, apart, injR, coverR]) <;> simp⟩
end Go.Proofs.YtppcbmpiphhphaaGreatDoor
