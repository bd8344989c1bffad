import Derived.Test.YtppcbmpiphhphaaGreatDoorQU24
import Derived.Test.YtppcbmpiphhphaaGreatDoorQU29
import Derived.Test.YtppcbmpiphhphaaGreatDoorQU42
namespace Go.Proofs.YtppcbmpiphhphaaGreatDoor
open Go Pm
set_option linter.unusedSimpArgs false
set_option linter.unusedVariables false
set_option maxHeartbeats 4000000
set_option maxRecDepth 100000
theorem fname_ok (nm name : ByteArray) (x y : V) : Gives Tryz.prog 55 [.agg [str nm, x, y], .fp [str name]] (fun _ => bl (!decide (nm = ⟨#[]⟩) && decide (nm = name))) := by
  refine pure_intro (ow := fun _ => false) Tryz.func55 Tryz.ntmps55 rfl (by kernel_rfl) (by simp) rfl (by decide) fun G hG hOw hNm hB => ?_; simp only [go_sem, hG, hOw]
  exact ⟨fun h => by rw [decide_eq_false h]; rfl, fun h => by rw [decide_eq_true h]; rfl⟩
def formRows : List (List V) := [[.v (.string ⟨#[]⟩), .any, .any], [.v (.string formS), .any, .any], [.v (.string fromS), .any, .any], [.v (.string plcS), .any, .any], [.v (.string voidS), .any, .any]]
def formI (name : ByteArray) : Int := if name = formS then 1 else if name = fromS then 2 else if name = plcS then 3 else if name = voidS then 4 else -1
def nmK (k : Nat) : ByteArray := if k = 1 then formS else if k = 2 then fromS else if k = 3 then plcS else if k = 4 then voidS else ⟨#[]⟩
def isK (name : ByteArray) (k : Nat) : Bool := !decide (nmK k = ⟨#[]⟩) && decide (nmK k = name)
theorem formI_at {name : ByteArray} {k : Nat} (hk : k < 5) (h : isK name k = true) : formI name = k := by
  simp only [isK, Bool.and_eq_true, decide_eq_true_eq] at h
  obtain ⟨h1, rfl⟩ := h
  have : k = 0 ∨ k = 1 ∨ k = 2 ∨ k = 3 ∨ k = 4 := by omega
  rcases this with rfl | rfl | rfl | rfl | rfl
  · exact absurd h1 (by decide)
  all_goals decide
theorem formI_no {name : ByteArray} (h : ∀ j, j < 5 → isK name j = false) : formI name = -1 := by
  have n1 : ∀ j, 1 ≤ j → j < 5 → name ≠ nmK j := fun j h1 h5 e => by
    have := h j h5
    have hz : j = 1 ∨ j = 2 ∨ j = 3 ∨ j = 4 := by omega
    subst e
    rcases hz with rfl | rfl | rfl | rfl <;> revert this <;> decide
  unfold formI
  have q1 : name ≠ formS := n1 1 (by omega) (by omega)
  have q2 : name ≠ fromS := n1 2 (by omega) (by omega)
  have q3 : name ≠ plcS := n1 3 (by omega) (by omega)
  have q4 : name ≠ voidS := n1 4 (by omega) (by omega)
  rw [if_neg q1, if_neg q2, if_neg q3, if_neg q4]
theorem IndexForm (name : ByteArray) : Gives Tryz.prog 54 [.lst 0 3 formRows, .fn (.func 55) [.fp [str name]]] (fun _ => i64 (formI name)) := by
  have hl5 : formRows.length = 5 := rfl
  refine pure_intro (ow := fun _ => false) Tryz.func54 Tryz.ntmps54 rfl (by kernel_rfl) (by simp) rfl (by decide) fun G hG hOw hNm hB => ?_; simp only [go_sem, hG, hOw]
  try (repeat' with_reducible first | refine And.intro ?_ ?_ | intro _ | refine exP ?_ ?_); all_goals try omega
  refine semC_loop (fun k : Nat => St.of [(0, .lst 0 3 formRows), (1, .fn (.func 55) [.fp [str name]]), (7, i64 formRows.length), (8, i64 k)] []) (fun k => k ≤ 5 ∧ ∀ j, j < k → isK name j = false) (fun k => 5 - k) 0 ⟨by omega, fun j h => by omega⟩ (ent_of0 (by (simp only [go_sem]) <;> simp) hNm) ?_
  rintro k ⟨hk, hno⟩
  by_cases hkl : k < 5
  · have hlt : (k : Int) < 5 := by omega
    have hc : k = 0 ∨ k = 1 ∨ k = 2 ∨ k = 3 ∨ k = 4 := by omega
    have go : ∀ (b : Bool), isK name k = b → b = false → ∀ j, j < k + 1 → isK name j = false := fun b e hb j hj => by
      by_cases hjk : j < k
      · exact hno j hjk
      · obtain rfl : j = k := by omega
        rw [e, hb]
    have yes : isK name k = true → formI name = k := formI_at hkl
    rcases hc with rfl | rfl | rfl | rfl | rfl
    · have hF := fname_ok (⟨#[]⟩ : ByteArray) name (.any) (.any)
      have hq : (!decide ((⟨#[]⟩ : ByteArray) = ⟨#[]⟩) && decide ((⟨#[]⟩ : ByteArray) = name)) = isK name 0 := rfl
      have ge : ∀ h, formRows[0]'h = [V.v (.string ⟨#[]⟩), V.any, V.any] := fun _ => rfl
      have it : Int.toNat ((0 : Nat) : Int) = 0 := rfl
      have it2 : Int.toNat (0 : Int) = 0 := rfl
      rw [hq] at hF
      refine vc_sound _ _ _ ?_
      simp (maxSteps := 2000000) only [go_sem, hG, hOw, hlt,hl5,it,it2,ge]
      (repeat' with_reducible first | refine And.intro ?_ ?_ | intro _ | refine exP ?_ ?_); all_goals try omega
      refine call_pure hF (by first | exact Subs.refl _ | (repeat' (first | exact Subs.nil | exact Sub.refl _ | exact Sub.lo (Nat.zero_le _) | refine Subs.cons ?_ ?_ | refine Subs.agg ?_ | refine Subs.fp ?_ | refine Subs.tup ?_ | refine Sub.map (Nat.zero_le _) (fun _ => ?_)))) (by first | rfl | simp [allP, all0, pureV, pure0, *]) (by simp [chk, hG]) ?_
      cases hr : isK name 0 with
      | true =>
        rw [yes hr]
        simp only [go_sem, hG, hOw]
        try (repeat' with_reducible first | refine And.intro ?_ ?_ | intro _ | refine exP ?_ ?_); all_goals try omega
      | false =>
        simp only [go_sem, hG, hOw]
        try (repeat' with_reducible first | refine And.intro ?_ ?_ | intro _ | refine exP ?_ ?_); all_goals try omega
        exact ⟨1, ⟨by omega, go _ hr rfl⟩, by omega, ent_of0 (by (simp only [go_sem]) <;> simp) hNm⟩
    · have hF := fname_ok formS name .any .any
      have hq : (!decide (formS = ⟨#[]⟩) && decide (formS = name)) = isK name 1 := rfl
      have ge : ∀ h, formRows[1]'h = [V.v (.string formS), V.any, V.any] := fun _ => rfl
      have it : Int.toNat ((1 : Nat) : Int) = 1 := rfl
      have it2 : Int.toNat (1 : Int) = 1 := rfl
      rw [hq] at hF
      refine vc_sound _ _ _ ?_
      simp (maxSteps := 2000000) only [go_sem, hG, hOw, hlt,hl5,it,it2,ge]
      (repeat' with_reducible first | refine And.intro ?_ ?_ | intro _ | refine exP ?_ ?_); all_goals try omega
      refine call_pure hF (by first | exact Subs.refl _ | (repeat' (first | exact Subs.nil | exact Sub.refl _ | exact Sub.lo (Nat.zero_le _) | refine Subs.cons ?_ ?_ | refine Subs.agg ?_ | refine Subs.fp ?_ | refine Subs.tup ?_ | refine Sub.map (Nat.zero_le _) (fun _ => ?_)))) (by first | rfl | simp [allP, all0, pureV, pure0, *]) (by simp [chk, hG]) ?_
      cases hr : isK name 1 with
      | true =>
        rw [yes hr]
        simp only [go_sem, hG, hOw]
        try (repeat' with_reducible first | refine And.intro ?_ ?_ | intro _ | refine exP ?_ ?_); all_goals try omega
      | false =>
        simp only [go_sem, hG, hOw]
        try (repeat' with_reducible first | refine And.intro ?_ ?_ | intro _ | refine exP ?_ ?_); all_goals try omega
        exact ⟨2, ⟨by omega, go _ hr rfl⟩, by omega, ent_of0 (by (simp only [go_sem]) <;> simp) hNm⟩
    · have hF := fname_ok fromS name .any .any
      have hq : (!decide (fromS = ⟨#[]⟩) && decide (fromS = name)) = isK name 2 := rfl
      have ge : ∀ h, formRows[2]'h = [V.v (.string fromS), V.any, V.any] := fun _ => rfl
      have it : Int.toNat ((2 : Nat) : Int) = 2 := rfl
      have it2 : Int.toNat (2 : Int) = 2 := rfl
      rw [hq] at hF
      refine vc_sound _ _ _ ?_
      simp (maxSteps := 2000000) only [go_sem, hG, hOw, hlt,hl5,it,it2,ge]
      (repeat' with_reducible first | refine And.intro ?_ ?_ | intro _ | refine exP ?_ ?_); all_goals try omega
      refine call_pure hF (by first | exact Subs.refl _ | (repeat' (first | exact Subs.nil | exact Sub.refl _ | exact Sub.lo (Nat.zero_le _) | refine Subs.cons ?_ ?_ | refine Subs.agg ?_ | refine Subs.fp ?_ | refine Subs.tup ?_ | refine Sub.map (Nat.zero_le _) (fun _ => ?_)))) (by first | rfl | simp [allP, all0, pureV, pure0, *]) (by simp [chk, hG]) ?_
      cases hr : isK name 2 with
      | true =>
        rw [yes hr]
        simp only [go_sem, hG, hOw]
        try (repeat' with_reducible first | refine And.intro ?_ ?_ | intro _ | refine exP ?_ ?_); all_goals try omega
      | false =>
        simp only [go_sem, hG, hOw]
        try (repeat' with_reducible first | refine And.intro ?_ ?_ | intro _ | refine exP ?_ ?_); all_goals try omega
        exact ⟨3, ⟨by omega, go _ hr rfl⟩, by omega, ent_of0 (by (simp only [go_sem]) <;> simp) hNm⟩
    · have hF := fname_ok plcS name .any .any
      have hq : (!decide (plcS = ⟨#[]⟩) && decide (plcS = name)) = isK name 3 := rfl
      have ge : ∀ h, formRows[3]'h = [V.v (.string plcS), V.any, V.any] := fun _ => rfl
      have it : Int.toNat ((3 : Nat) : Int) = 3 := rfl
      have it2 : Int.toNat (3 : Int) = 3 := rfl
      rw [hq] at hF
      refine vc_sound _ _ _ ?_
      simp (maxSteps := 2000000) only [go_sem, hG, hOw, hlt,hl5,it,it2,ge]
      (repeat' with_reducible first | refine And.intro ?_ ?_ | intro _ | refine exP ?_ ?_); all_goals try omega
      refine call_pure hF (by first | exact Subs.refl _ | (repeat' (first | exact Subs.nil | exact Sub.refl _ | exact Sub.lo (Nat.zero_le _) | refine Subs.cons ?_ ?_ | refine Subs.agg ?_ | refine Subs.fp ?_ | refine Subs.tup ?_ | refine Sub.map (Nat.zero_le _) (fun _ => ?_)))) (by first | rfl | simp [allP, all0, pureV, pure0, *]) (by simp [chk, hG]) ?_
      cases hr : isK name 3 with
      | true =>
        rw [yes hr]
        simp only [go_sem, hG, hOw]
        try (repeat' with_reducible first | refine And.intro ?_ ?_ | intro _ | refine exP ?_ ?_); all_goals try omega
      | false =>
        simp only [go_sem, hG, hOw]
        try (repeat' with_reducible first | refine And.intro ?_ ?_ | intro _ | refine exP ?_ ?_); all_goals try omega
        exact ⟨4, ⟨by omega, go _ hr rfl⟩, by omega, ent_of0 (by (simp only [go_sem]) <;> simp) hNm⟩
    · have hF := fname_ok voidS name .any .any
      have hq : (!decide (voidS = ⟨#[]⟩) && decide (voidS = name)) = isK name 4 := rfl
      have ge : ∀ h, formRows[4]'h = [V.v (.string voidS), V.any, V.any] := fun _ => rfl
      have it : Int.toNat ((4 : Nat) : Int) = 4 := rfl
      have it2 : Int.toNat (4 : Int) = 4 := rfl
      rw [hq] at hF
      refine vc_sound _ _ _ ?_
      simp (maxSteps := 2000000) only [go_sem, hG, hOw, hlt,hl5,it,it2,ge]
      (repeat' with_reducible first | refine And.intro ?_ ?_ | intro _ | refine exP ?_ ?_); all_goals try omega
      refine call_pure hF (by first | exact Subs.refl _ | (repeat' (first | exact Subs.nil | exact Sub.refl _ | exact Sub.lo (Nat.zero_le _) | refine Subs.cons ?_ ?_ | refine Subs.agg ?_ | refine Subs.fp ?_ | refine Subs.tup ?_ | refine Sub.map (Nat.zero_le _) (fun _ => ?_)))) (by first | rfl | simp [allP, all0, pureV, pure0, *]) (by simp [chk, hG]) ?_
      cases hr : isK name 4 with
      | true =>
        rw [yes hr]
        simp only [go_sem, hG, hOw]
        try (repeat' with_reducible first | refine And.intro ?_ ?_ | intro _ | refine exP ?_ ?_); all_goals try omega
      | false =>
        simp only [go_sem, hG, hOw]
        try (repeat' with_reducible first | refine And.intro ?_ ?_ | intro _ | refine exP ?_ ?_); all_goals try omega
        exact ⟨5, ⟨by omega, go _ hr rfl⟩, by omega, ent_of0 (by (simp only [go_sem]) <;> simp) hNm⟩
  · have hlt : ¬ (k : Int) < 5 := by omega
    have hke : k = 5 := by omega
    subst hke
    rw [formI_no hno]
    refine vc_sound _ _ _ ?_
    simp (maxSteps := 2000000) only [go_sem, hG, hOw, hlt,hl5]
    try (repeat' with_reducible first | refine And.intro ?_ ?_ | intro _ | refine exP ?_ ?_); all_goals try omega
open Go Pm
set_option maxHeartbeats 4000000
set_option maxRecDepth 100000
def putO (r : Rws) : Option (ByteArray × Rws) := if 1 < r.length then wordO r else some (⟨#[]⟩, r)
def ruleO (l : Rws) : Option (Rl × Rws) := match wordO l with
  | none => none
  | some (w, r) => match putO r with
    | none => none
    | some (p, r1) => match numO r1 with
      | none => none
      | some (n, r2) => some (⟨w, p, n⟩, r2)
def fK (k : Int) (d : Dc) (l : Rws) : Option (Dc × Rws) := if k = 1 then f2 d l else if k = 2 then f4 d l else if k = 3 then f6 d l else if k = 4 then f8 d l else none
def decO (name : ByteArray) (l : Rws) : Option (Dc × Rws) := match numO l with
  | none => none
  | some (n, r) => fK (formI name) { dc0 with num := n, kind := UInt8.ofNat (formI name).toNat } r
def stepLx (s : Lx) (name : ByteArray) (l : Rws) : Option (Lx × Rws) :=
  if name = cutS then (if s.decs = [] then match ruleO l with
    | none => none
    | some (r, l') => some (⟨s.rules ++ [r], s.decs⟩, l') else none)
  else match decO name l with
    | none => none
    | some (d, l') => some (⟨s.rules, s.decs ++ [d]⟩, l')
theorem cut_dec (lo : Nat) (s : Lx) (l : Rws) (hs : s.decs ≠ []) :
    Tri Tryz.prog 52 [str cutS, .ptr 51 0, .ptr 50 0] [(50, .box [.own 60 0 s.rules.length 3, .own 61 0 s.decs.length 9]), (51, .box [strs lo l]), (60, .arr 64 3 (s.rules.map rlC)), (61, .arr 68 9 (s.decs.map dcC))]
      (fun _ => .pan (wrV 111) []) := by
  have hd : decide ((s.decs.length : Int) = 0) = false := decide_eq_false (by intro h; apply hs; exact List.length_eq_zero_iff.1 (by omega))
  refine tri_intro (fun _ => false) Tryz.func52 Tryz.ntmps52 rfl (by kernel_rfl) (by simp) rfl (by decide) fun G hG hOw hNm => ?_; simp only [go_sem, hG, hOw]
  (repeat' with_reducible first | refine And.intro ?_ ?_ | intro _ | refine exP ?_ ?_); all_goals try omega
  rotate_left
  · rename_i h; exact absurd (by decide) h
  rw [hd]
  refine call_tri [] [] (must_no 111) (by (simp only [go_sem]) <;> simp) (by (simp only [go_sem, entH, entH1, nilArr, obOK]) <;> simp) (by simp [injR, apart, toR]) (by simp [coverR, usH, toR]) (by simp [uniqP, lkR, toR]) (by simp [chk, hG]) ?_
  simp only [go_sem, hG, hOw]
  exact ⟨rfl, ⟨[], by (simp only [EndT, go_sem, entH, entH1, nilArr, obOK, apart, injR, coverR]) <;> simp⟩⟩
theorem putO_sub {l r : Rws} {p : ByteArray} (h : putO l = some (p, r)) : SubR r l ∧ p.size ≤ 12 := by
  unfold putO at h
  split at h
  · exact ⟨wordO_sub h, wordO_size h⟩
  · cases h; exact ⟨SubR.refl l, by decide⟩
theorem ruleO_sub {l r : Rws} {q : Rl} (h : ruleO l = some (q, r)) : SubR r l ∧ bdR q := by
  unfold ruleO at h
  split at h
  · cases h
  · rename_i w r1 h1
    split at h
    · cases h
    · rename_i p r2 h2
      split at h
      · cases h
      · rename_i n r3 h3
        cases h
        obtain ⟨a, b⟩ := putO_sub h2
        have := wordO_size h1
        exact ⟨(numO_sub h3).trans (a.trans (wordO_sub h1)), by simp only; omega, by simp only; omega⟩
theorem cut_1 (lo : Nat) (s : Lx) (l : Rws) (hs : s.decs = []) (h1 : wordO l = none) :
    Tri Tryz.prog 52 [str cutS, .ptr 51 0, .ptr 50 0] [(50, .box [.own 60 0 s.rules.length 3, .own 61 0 s.decs.length 9]), (51, .box [strs lo l]), (60, .arr 64 3 (s.rules.map rlC)), (61, .arr 68 9 (s.decs.map dcC))]
      (fun _ => .pan (wrV 111) []) := by
  have hW := wordP lo l
  rw [h1] at hW
  simp only at hW
  have hd : decide ((s.decs.length : Int) = 0) = true := decide_eq_true (by rw [hs]; rfl)
  refine tri_intro (fun _ => false) Tryz.func52 Tryz.ntmps52 rfl (by kernel_rfl) (by simp) rfl (by decide) fun G hG hOw hNm => ?_; simp only [go_sem, hG, hOw]
  (repeat' with_reducible first | refine And.intro ?_ ?_ | intro _ | refine exP ?_ ?_); all_goals try omega
  rotate_left
  · rename_i h; exact absurd (by decide) h
  rw [hd]
  refine call_tri [] [] (must_yes 111) (by (simp only [go_sem]) <;> simp) (by (simp only [go_sem, entH, entH1, nilArr, obOK]) <;> simp) (by simp [injR, apart, toR]) (by simp [coverR, usH, toR]) (by simp [uniqP, lkR, toR]) (by simp [chk, hG]) ?_
  simp only [go_sem, hG, hOw]
  (repeat' with_reducible first | refine And.intro ?_ ?_ | intro _ | refine exP ?_ ?_); all_goals try omega
  refine call_tri [(0, 51)] [] (hW) (by (simp only [go_sem]) <;> simp) (by (simp only [go_sem, entH, entH1, nilArr, obOK]) <;> simp) (by simp [injR, apart, toR]) (by simp [coverR, usH, toR]) (by simp [uniqP, lkR, toR]) (by simp [chk, hG]) ?_
  simp only [go_sem, hG, hOw]
  exact ⟨rfl, ⟨[], by (simp only [EndT, go_sem, entH, entH1, nilArr, obOK, apart, injR, coverR]) <;> simp⟩⟩
theorem cut_2 (lo : Nat) (s : Lx) (l : Rws) (hs : s.decs = []) (w : ByteArray) (r : Rws) (h1 : wordO l = some (w, r)) (h2 : putO r = none) :
    Tri Tryz.prog 52 [str cutS, .ptr 51 0, .ptr 50 0] [(50, .box [.own 60 0 s.rules.length 3, .own 61 0 s.decs.length 9]), (51, .box [strs lo l]), (60, .arr 64 3 (s.rules.map rlC)), (61, .arr 68 9 (s.decs.map dcC))]
      (fun _ => .pan (wrV 111) []) := by
  have hW := wordP lo l
  rw [h1] at hW
  simp only at hW
  unfold putO at h2
  split at h2
  · rename_i hlen
    have hln : (1 : Int) < r.length := by omega
    have hW2 := wordP lo r
    rw [h2] at hW2
    simp only at hW2
    have hd : decide ((s.decs.length : Int) = 0) = true := decide_eq_true (by rw [hs]; rfl)
    refine tri_intro (fun _ => false) Tryz.func52 Tryz.ntmps52 rfl (by kernel_rfl) (by simp) rfl (by decide) fun G hG hOw hNm => ?_; simp only [go_sem, hG, hOw]
    (repeat' with_reducible first | refine And.intro ?_ ?_ | intro _ | refine exP ?_ ?_); all_goals try omega
    rotate_left
    · rename_i h; exact absurd (by decide) h
    rw [hd]
    refine call_tri [] [] (must_yes 111) (by (simp only [go_sem]) <;> simp) (by (simp only [go_sem, entH, entH1, nilArr, obOK]) <;> simp) (by simp [injR, apart, toR]) (by simp [coverR, usH, toR]) (by simp [uniqP, lkR, toR]) (by simp [chk, hG]) ?_
    simp only [go_sem, hG, hOw]
    (repeat' with_reducible first | refine And.intro ?_ ?_ | intro _ | refine exP ?_ ?_); all_goals try omega
    refine call_tri [(0, 51)] [] (hW) (by (simp only [go_sem]) <;> simp) (by (simp only [go_sem, entH, entH1, nilArr, obOK]) <;> simp) (by simp [injR, apart, toR]) (by simp [coverR, usH, toR]) (by simp [uniqP, lkR, toR]) (by simp [chk, hG]) ?_
    simp (maxSteps := 2000000) only [go_sem, hG, hOw, hln,decide_eq_true hln]
    (repeat' with_reducible first | refine And.intro ?_ ?_ | intro _ | refine exP ?_ ?_); all_goals try omega
    refine call_tri [(0, 51)] [] (hW2) (by (simp only [go_sem]) <;> simp) (by (simp only [go_sem, entH, entH1, nilArr, obOK]) <;> simp) (by simp [injR, apart, toR]) (by simp [coverR, usH, toR]) (by simp [uniqP, lkR, toR]) (by simp [chk, hG]) ?_
    simp only [go_sem, hG, hOw]
    exact ⟨rfl, ⟨[], by (simp only [EndT, go_sem, entH, entH1, nilArr, obOK, apart, injR, coverR]) <;> simp⟩⟩
  · cases h2
theorem cut_3 (lo : Nat) (s : Lx) (l : Rws) (hs : s.decs = []) (hl : ∀ x ∈ l, x.size ≤ 100000) (hn : s.rules.length ≤ 1000) (w : ByteArray) (r : Rws) (h1 : wordO l = some (w, r)) (p : ByteArray) (r1 : Rws) (h2 : putO r = some (p, r1)) (h3 : numO r1 = none) :
    Tri Tryz.prog 52 [str cutS, .ptr 51 0, .ptr 50 0] [(50, .box [.own 60 0 s.rules.length 3, .own 61 0 s.decs.length 9]), (51, .box [strs lo l]), (60, .arr 64 3 (s.rules.map rlC)), (61, .arr 68 9 (s.decs.map dcC))]
      (fun _ => .pan (wrV 111) []) := by
  have hW := wordP lo l
  rw [h1] at hW
  have hN := numP lo r1 (((putO_sub h2).1.trans (wordO_sub h1)).size hl)
  rw [h3] at hN
  simp only at hW hN
  unfold putO at h2
  split at h2
  · rename_i hlen
    have hln : (1 : Int) < r.length := by omega
    have hW2 := wordP lo r
    rw [h2] at hW2
    simp only at hW2
    have hd : decide ((s.decs.length : Int) = 0) = true := decide_eq_true (by rw [hs]; rfl)
    refine tri_intro (fun _ => false) Tryz.func52 Tryz.ntmps52 rfl (by kernel_rfl) (by simp) rfl (by decide) fun G hG hOw hNm => ?_; simp only [go_sem, hG, hOw]
    (repeat' with_reducible first | refine And.intro ?_ ?_ | intro _ | refine exP ?_ ?_); all_goals try omega
    rotate_left
    · rename_i h; exact absurd (by decide) h
    rw [hd]
    refine call_tri [] [] (must_yes 111) (by (simp only [go_sem]) <;> simp) (by (simp only [go_sem, entH, entH1, nilArr, obOK]) <;> simp) (by simp [injR, apart, toR]) (by simp [coverR, usH, toR]) (by simp [uniqP, lkR, toR]) (by simp [chk, hG]) ?_
    simp only [go_sem, hG, hOw]
    (repeat' with_reducible first | refine And.intro ?_ ?_ | intro _ | refine exP ?_ ?_); all_goals try omega
    refine call_tri [(0, 51)] [] (hW) (by (simp only [go_sem]) <;> simp) (by (simp only [go_sem, entH, entH1, nilArr, obOK]) <;> simp) (by simp [injR, apart, toR]) (by simp [coverR, usH, toR]) (by simp [uniqP, lkR, toR]) (by simp [chk, hG]) ?_
    simp (maxSteps := 2000000) only [go_sem, hG, hOw, hln,decide_eq_true hln]
    (repeat' with_reducible first | refine And.intro ?_ ?_ | intro _ | refine exP ?_ ?_); all_goals try omega
    refine call_tri [(0, 51)] [] (hW2) (by (simp only [go_sem]) <;> simp) (by (simp only [go_sem, entH, entH1, nilArr, obOK]) <;> simp) (by simp [injR, apart, toR]) (by simp [coverR, usH, toR]) (by simp [uniqP, lkR, toR]) (by simp [chk, hG]) ?_
    simp only [go_sem, hG, hOw]
    (repeat' with_reducible first | refine And.intro ?_ ?_ | intro _ | refine exP ?_ ?_); all_goals try omega
    refine call_tri [(0, 51)] [] (hN) (by (simp only [go_sem]) <;> simp) (by (simp only [go_sem, entH, entH1, nilArr, obOK]) <;> simp) (by simp [injR, apart, toR]) (by simp [coverR, usH, toR]) (by simp [uniqP, lkR, toR]) (by simp [chk, hG]) ?_
    simp only [go_sem, hG, hOw]
    exact ⟨rfl, ⟨[], by (simp only [EndT, go_sem, entH, entH1, nilArr, obOK, apart, injR, coverR]) <;> simp⟩⟩
  · rename_i hlen
    have hln : ¬ (1 : Int) < r.length := by omega
    simp only [Option.some.injEq, Prod.mk.injEq] at h2
    obtain ⟨rfl, rfl⟩ := h2
    have hd : decide ((s.decs.length : Int) = 0) = true := decide_eq_true (by rw [hs]; rfl)
    refine tri_intro (fun _ => false) Tryz.func52 Tryz.ntmps52 rfl (by kernel_rfl) (by simp) rfl (by decide) fun G hG hOw hNm => ?_; simp only [go_sem, hG, hOw]
    (repeat' with_reducible first | refine And.intro ?_ ?_ | intro _ | refine exP ?_ ?_); all_goals try omega
    rotate_left
    · rename_i h; exact absurd (by decide) h
    rw [hd]
    refine call_tri [] [] (must_yes 111) (by (simp only [go_sem]) <;> simp) (by (simp only [go_sem, entH, entH1, nilArr, obOK]) <;> simp) (by simp [injR, apart, toR]) (by simp [coverR, usH, toR]) (by simp [uniqP, lkR, toR]) (by simp [chk, hG]) ?_
    simp only [go_sem, hG, hOw]
    (repeat' with_reducible first | refine And.intro ?_ ?_ | intro _ | refine exP ?_ ?_); all_goals try omega
    refine call_tri [(0, 51)] [] (hW) (by (simp only [go_sem]) <;> simp) (by (simp only [go_sem, entH, entH1, nilArr, obOK]) <;> simp) (by simp [injR, apart, toR]) (by simp [coverR, usH, toR]) (by simp [uniqP, lkR, toR]) (by simp [chk, hG]) ?_
    simp (maxSteps := 2000000) only [go_sem, hG, hOw, hln,decide_eq_false hln]
    (repeat' with_reducible first | refine And.intro ?_ ?_ | intro _ | refine exP ?_ ?_); all_goals try omega
    refine call_tri [(0, 51)] [] (hN) (by (simp only [go_sem]) <;> simp) (by (simp only [go_sem, entH, entH1, nilArr, obOK]) <;> simp) (by simp [injR, apart, toR]) (by simp [coverR, usH, toR]) (by simp [uniqP, lkR, toR]) (by simp [chk, hG]) ?_
    simp only [go_sem, hG, hOw]
    exact ⟨rfl, ⟨[], by (simp only [EndT, go_sem, entH, entH1, nilArr, obOK, apart, injR, coverR]) <;> simp⟩⟩
theorem cut_4 (lo : Nat) (s : Lx) (l : Rws) (hs : s.decs = []) (hl : ∀ x ∈ l, x.size ≤ 100000) (hn : s.rules.length ≤ 1000) (w : ByteArray) (r : Rws) (h1 : wordO l = some (w, r)) (p : ByteArray) (r1 : Rws) (h2 : putO r = some (p, r1)) (n : Int) (r2 : Rws) (h3 : numO r1 = some (n, r2)) :
    Tri Tryz.prog 52 [str cutS, .ptr 51 0, .ptr 50 0] [(50, .box [.own 60 0 s.rules.length 3, .own 61 0 s.decs.length 9]), (51, .box [strs lo l]), (60, .arr 64 3 (s.rules.map rlC)), (61, .arr 68 9 (s.decs.map dcC))]
      (fun _ => .ret (.tup []) [(50, .box [.own 62 0 (s.rules.length + 1) 3, .own 63 0 s.decs.length 9]), (51, .box [strs lo r2]), (62, .arr 64 3 (s.rules.map rlC ++ [rlC ⟨w, p, n⟩])), (63, .arr 68 9 (s.decs.map dcC))]) := by
  have hW := wordP lo l
  rw [h1] at hW
  have hN := numP lo r1 (((putO_sub h2).1.trans (wordO_sub h1)).size hl)
  rw [h3] at hN
  simp only at hW hN
  unfold putO at h2
  split at h2
  · rename_i hlen
    have hln : (1 : Int) < r.length := by omega
    have hW2 := wordP lo r
    rw [h2] at hW2
    simp only at hW2
    have hd : decide ((s.decs.length : Int) = 0) = true := decide_eq_true (by rw [hs]; rfl)
    refine tri_intro (fun _ => false) Tryz.func52 Tryz.ntmps52 rfl (by kernel_rfl) (by simp) rfl (by decide) fun G hG hOw hNm => ?_; simp only [go_sem, hG, hOw]
    (repeat' with_reducible first | refine And.intro ?_ ?_ | intro _ | refine exP ?_ ?_); all_goals try omega
    rotate_left
    · rename_i h; exact absurd (by decide) h
    rw [hd]
    refine call_tri [] [] (must_yes 111) (by (simp only [go_sem]) <;> simp) (by (simp only [go_sem, entH, entH1, nilArr, obOK]) <;> simp) (by simp [injR, apart, toR]) (by simp [coverR, usH, toR]) (by simp [uniqP, lkR, toR]) (by simp [chk, hG]) ?_
    simp only [go_sem, hG, hOw]
    (repeat' with_reducible first | refine And.intro ?_ ?_ | intro _ | refine exP ?_ ?_); all_goals try omega
    refine call_tri [(0, 51)] [] (hW) (by (simp only [go_sem]) <;> simp) (by (simp only [go_sem, entH, entH1, nilArr, obOK]) <;> simp) (by simp [injR, apart, toR]) (by simp [coverR, usH, toR]) (by simp [uniqP, lkR, toR]) (by simp [chk, hG]) ?_
    simp (maxSteps := 2000000) only [go_sem, hG, hOw, hln,decide_eq_true hln]
    (repeat' with_reducible first | refine And.intro ?_ ?_ | intro _ | refine exP ?_ ?_); all_goals try omega
    refine call_tri [(0, 51)] [] (hW2) (by (simp only [go_sem]) <;> simp) (by (simp only [go_sem, entH, entH1, nilArr, obOK]) <;> simp) (by simp [injR, apart, toR]) (by simp [coverR, usH, toR]) (by simp [uniqP, lkR, toR]) (by simp [chk, hG]) ?_
    simp only [go_sem, hG, hOw]
    (repeat' with_reducible first | refine And.intro ?_ ?_ | intro _ | refine exP ?_ ?_); all_goals try omega
    refine call_tri [(0, 51)] [] (hN) (by (simp only [go_sem]) <;> simp) (by (simp only [go_sem, entH, entH1, nilArr, obOK]) <;> simp) (by simp [injR, apart, toR]) (by simp [coverR, usH, toR]) (by simp [uniqP, lkR, toR]) (by simp [chk, hG]) ?_
    simp only [go_sem, hG, hOw]
    (repeat' with_reducible first | refine And.intro ?_ ?_ | intro _ | refine exP ?_ ?_); all_goals try omega
    exact ⟨[(50, some 50), (51, some 51), (62, some 34), (63, some 61)], by (simp only [EndT, go_sem, entH, entH1, nilArr, obOK, apart, injR, coverR]) <;> simp⟩
  · rename_i hlen
    have hln : ¬ (1 : Int) < r.length := by omega
    simp only [Option.some.injEq, Prod.mk.injEq] at h2
    obtain ⟨rfl, rfl⟩ := h2
    have hd : decide ((s.decs.length : Int) = 0) = true := decide_eq_true (by rw [hs]; rfl)
    refine tri_intro (fun _ => false) Tryz.func52 Tryz.ntmps52 rfl (by kernel_rfl) (by simp) rfl (by decide) fun G hG hOw hNm => ?_; simp only [go_sem, hG, hOw]
    (repeat' with_reducible first | refine And.intro ?_ ?_ | intro _ | refine exP ?_ ?_); all_goals try omega
    rotate_left
    · rename_i h; exact absurd (by decide) h
    rw [hd]
    refine call_tri [] [] (must_yes 111) (by (simp only [go_sem]) <;> simp) (by (simp only [go_sem, entH, entH1, nilArr, obOK]) <;> simp) (by simp [injR, apart, toR]) (by simp [coverR, usH, toR]) (by simp [uniqP, lkR, toR]) (by simp [chk, hG]) ?_
    simp only [go_sem, hG, hOw]
    (repeat' with_reducible first | refine And.intro ?_ ?_ | intro _ | refine exP ?_ ?_); all_goals try omega
    refine call_tri [(0, 51)] [] (hW) (by (simp only [go_sem]) <;> simp) (by (simp only [go_sem, entH, entH1, nilArr, obOK]) <;> simp) (by simp [injR, apart, toR]) (by simp [coverR, usH, toR]) (by simp [uniqP, lkR, toR]) (by simp [chk, hG]) ?_
    simp (maxSteps := 2000000) only [go_sem, hG, hOw, hln,decide_eq_false hln]
    (repeat' with_reducible first | refine And.intro ?_ ?_ | intro _ | refine exP ?_ ?_); all_goals try omega
    refine call_tri [(0, 51)] [] (hN) (by (simp only [go_sem]) <;> simp) (by (simp only [go_sem, entH, entH1, nilArr, obOK]) <;> simp) (by simp [injR, apart, toR]) (by simp [coverR, usH, toR]) (by simp [uniqP, lkR, toR]) (by simp [chk, hG]) ?_
    simp only [go_sem, hG, hOw]
    (repeat' with_reducible first | refine And.intro ?_ ?_ | intro _ | refine exP ?_ ?_); all_goals try omega
    have hbe : ByteArray.empty = ⟨#[]⟩ := rfl
    exact ⟨[(50, some 50), (51, some 51), (62, some 34), (63, some 61)], by (simp only [EndT, go_sem, entH, entH1, nilArr, obOK, apart, injR, coverR]) <;> simp [hbe]⟩
open Go Pm
set_option maxHeartbeats 4000000
set_option maxRecDepth 100000
def formCs : List V := [.v (.string ⟨#[]⟩), .any, .any, .v (.string ⟨#[102, 111, 114, 109]⟩), .fn (.func 203) [], .fn (.func 205) [], .v (.string ⟨#[102, 114, 111, 109]⟩), .fn (.func 207) [], .fn (.func 208) [], .v (.string ⟨#[112, 108, 97, 99, 101]⟩), .fn (.func 209) [], .fn (.func 210) [], .v (.string ⟨#[118, 111, 105, 100]⟩), .fn (.func 211) [], .fn (.func 212) []]
theorem form_wk : wkL formRows.flatten formCs := by simp [formRows, formCs, wkL, formS, fromS, plcS, voidS]
theorem dec_no (lo : Nat) (s : Lx) (name : ByteArray) (l : Rws) (hne : ¬ name = ⟨#[99, 117, 116]⟩) (hf : formI name = -1) :
    Tri Tryz.prog 52 [str name, .ptr 51 0, .ptr 50 0] [(50, .box [.own 60 0 s.rules.length 3, .own 61 0 s.decs.length 9]), (51, .box [strs lo l]), (60, .arr 64 3 (s.rules.map rlC)), (61, .arr 68 9 (s.decs.map dcC))]
      (fun _ => .pan (wrV 111) []) := by
  have hI := IndexForm name
  rw [hf] at hI
  refine tri_intro (fun _ => false) Tryz.func52 Tryz.ntmps52 rfl (by kernel_rfl) (by simp) rfl (by decide) fun G hG hOw hNm => ?_; simp only [go_sem, hG, hOw]
  (repeat' with_reducible first | refine And.intro ?_ ?_ | intro _ | refine exP ?_ ?_); all_goals try omega
  · rename_i h; exact absurd h hne
  refine sla_step (n := 5) (sz := 3) (cs := formCs) formRows rfl (by simp [go_sem, formCs]) rfl (by rw [hG]; decide) (by kernel_rfl) form_wk (by simp [formRows]) rfl ⟨by decide, by decide⟩ (by decide) ?_
  simp only [go_sem, hG, hOw]
  refine call_frz (fun i => [3].contains i) ?_
  simp only [go_sem, hG, hOw]
  refine call_pure hI (by first | exact Subs.refl _ | (repeat' (first | exact Subs.nil | exact Sub.refl _ | exact Sub.lo (Nat.zero_le _) | refine Subs.cons ?_ ?_ | refine Subs.agg ?_ | refine Subs.fp ?_ | refine Subs.tup ?_ | refine Sub.map (Nat.zero_le _) (fun _ => ?_)))) (by first | rfl | simp [allP, all0, pureV, pure0, *]) (by simp [chk, hG]) ?_
  simp only [go_sem, hG, hOw]
  (repeat' with_reducible first | refine And.intro ?_ ?_ | intro _ | refine exP ?_ ?_); all_goals try omega
  refine call_tri [] [] (must_no 111) (by (simp only [go_sem]) <;> simp) (by (simp only [go_sem, entH, entH1, nilArr, obOK]) <;> simp) (by simp [injR, apart, toR]) (by simp [coverR, usH, toR]) (by simp [uniqP, lkR, toR]) (by simp [chk, hG]) ?_
  simp only [go_sem, hG, hOw]
  exact ⟨rfl, ⟨[], by (simp only [EndT, go_sem, entH, entH1, nilArr, obOK, apart, injR, coverR]) <;> simp⟩⟩
theorem dec_num (lo : Nat) (s : Lx) (name : ByteArray) (l : Rws) (hl : ∀ x ∈ l, x.size ≤ 100000) (hne : ¬ name = ⟨#[99, 117, 116]⟩) (k : Int) (hk : 1 ≤ k ∧ k ≤ 4) (hf : formI name = k) (h1 : numO l = none) :
    Tri Tryz.prog 52 [str name, .ptr 51 0, .ptr 50 0] [(50, .box [.own 60 0 s.rules.length 3, .own 61 0 s.decs.length 9]), (51, .box [strs lo l]), (60, .arr 64 3 (s.rules.map rlC)), (61, .arr 68 9 (s.decs.map dcC))]
      (fun _ => .pan (wrV 111) []) := by
  have hI := IndexForm name
  rw [hf] at hI
  have hN := numP lo l hl
  rw [h1] at hN
  simp only at hN
  have hk0 : decide ((0 : Int) < k) = true := decide_eq_true (by omega)
  have hwr : IntKind.u8.wrap k = k := by have : IntKind.u8.wrap k = k % 256 := rfl; omega
  refine tri_intro (fun _ => false) Tryz.func52 Tryz.ntmps52 rfl (by kernel_rfl) (by simp) rfl (by decide) fun G hG hOw hNm => ?_; simp only [go_sem, hG, hOw]
  (repeat' with_reducible first | refine And.intro ?_ ?_ | intro _ | refine exP ?_ ?_); all_goals try omega
  · rename_i h; exact absurd h hne
  refine sla_step (n := 5) (sz := 3) (cs := formCs) formRows rfl (by simp [go_sem, formCs]) rfl (by rw [hG]; decide) (by kernel_rfl) form_wk (by simp [formRows]) rfl ⟨by decide, by decide⟩ (by decide) ?_
  simp only [go_sem, hG, hOw]
  refine call_frz (fun i => [3].contains i) ?_
  simp only [go_sem, hG, hOw]
  refine call_pure hI (by first | exact Subs.refl _ | (repeat' (first | exact Subs.nil | exact Sub.refl _ | exact Sub.lo (Nat.zero_le _) | refine Subs.cons ?_ ?_ | refine Subs.agg ?_ | refine Subs.fp ?_ | refine Subs.tup ?_ | refine Sub.map (Nat.zero_le _) (fun _ => ?_)))) (by first | rfl | simp [allP, all0, pureV, pure0, *]) (by simp [chk, hG]) ?_
  simp only [go_sem, hG, hOw]
  (repeat' with_reducible first | refine And.intro ?_ ?_ | intro _ | refine exP ?_ ?_); all_goals try omega
  rw [hk0]
  refine call_tri [] [] (must_yes 111) (by (simp only [go_sem]) <;> simp) (by (simp only [go_sem, entH, entH1, nilArr, obOK]) <;> simp) (by simp [injR, apart, toR]) (by simp [coverR, usH, toR]) (by simp [uniqP, lkR, toR]) (by simp [chk, hG]) ?_
  simp (maxSteps := 2000000) only [go_sem, hG, hOw, hwr]
  (repeat' with_reducible first | refine And.intro ?_ ?_ | intro _ | refine exP ?_ ?_); all_goals try omega
  refine call_tri [(0, 51)] [] (hN) (by (simp only [go_sem]) <;> simp) (by (simp only [go_sem, entH, entH1, nilArr, obOK]) <;> simp) (by simp [injR, apart, toR]) (by simp [coverR, usH, toR]) (by simp [uniqP, lkR, toR]) (by simp [chk, hG]) ?_
  simp only [go_sem, hG, hOw]
  exact ⟨rfl, ⟨[], by (simp only [EndT, go_sem, entH, entH1, nilArr, obOK, apart, injR, coverR]) <;> simp⟩⟩
theorem dec_bad1 (lo : Nat) (s : Lx) (name : ByteArray) (l : Rws) (hl : ∀ x ∈ l, x.size ≤ 100000) (hne : ¬ name = ⟨#[99, 117, 116]⟩) (hf : formI name = 1) (v : Int) (r : Rws) (h1 : numO l = some (v, r)) (h2 : f2 { dc0 with num := v, kind := 1 } r = none) :
    Tri Tryz.prog 52 [str name, .ptr 51 0, .ptr 50 0] [(50, .box [.own 60 0 s.rules.length 3, .own 61 0 s.decs.length 9]), (51, .box [strs lo l]), (60, .arr 64 3 (s.rules.map rlC)), (61, .arr 68 9 (s.decs.map dcC))]
      (fun _ => .pan (wrV 111) []) := by
  have hI := IndexForm name
  rw [hf] at hI
  have hN := numP lo l hl
  rw [h1] at hN
  have hF := forms2P lo { dc0 with num := v, kind := 1 } r ((numO_sub h1).size hl)
  rw [h2] at hF
  simp only at hN hF
  have hbe : ByteArray.empty = ⟨#[]⟩ := rfl
  have hwr : IntKind.u8.wrap 1 = 1 := rfl
  have it : Int.toNat 1 = 1 := rfl
  refine tri_intro (fun _ => false) Tryz.func52 Tryz.ntmps52 rfl (by kernel_rfl) (by simp) rfl (by decide) fun G hG hOw hNm => ?_; simp only [go_sem, hG, hOw]
  (repeat' with_reducible first | refine And.intro ?_ ?_ | intro _ | refine exP ?_ ?_); all_goals try omega
  · rename_i h; exact absurd h hne
  refine sla_step (n := 5) (sz := 3) (cs := formCs) formRows rfl (by simp [go_sem, formCs]) rfl (by rw [hG]; decide) (by kernel_rfl) form_wk (by simp [formRows]) rfl ⟨by decide, by decide⟩ (by decide) ?_
  simp only [go_sem, hG, hOw]
  refine call_frz (fun i => [3].contains i) ?_
  simp only [go_sem, hG, hOw]
  refine call_pure hI (by first | exact Subs.refl _ | (repeat' (first | exact Subs.nil | exact Sub.refl _ | exact Sub.lo (Nat.zero_le _) | refine Subs.cons ?_ ?_ | refine Subs.agg ?_ | refine Subs.fp ?_ | refine Subs.tup ?_ | refine Sub.map (Nat.zero_le _) (fun _ => ?_)))) (by first | rfl | simp [allP, all0, pureV, pure0, *]) (by simp [chk, hG]) ?_
  simp only [go_sem, hG, hOw]
  (repeat' with_reducible first | refine And.intro ?_ ?_ | intro _ | refine exP ?_ ?_); all_goals try omega
  refine call_tri [] [] (must_yes 111) (by (simp only [go_sem]) <;> simp) (by (simp only [go_sem, entH, entH1, nilArr, obOK]) <;> simp) (by simp [injR, apart, toR]) (by simp [coverR, usH, toR]) (by simp [uniqP, lkR, toR]) (by simp [chk, hG]) ?_
  simp (maxSteps := 2000000) only [go_sem, hG, hOw, hwr]
  (repeat' with_reducible first | refine And.intro ?_ ?_ | intro _ | refine exP ?_ ?_); all_goals try omega
  refine call_tri [(0, 51)] [] (hN) (by (simp only [go_sem]) <;> simp) (by (simp only [go_sem, entH, entH1, nilArr, obOK]) <;> simp) (by simp [injR, apart, toR]) (by simp [coverR, usH, toR]) (by simp [uniqP, lkR, toR]) (by simp [chk, hG]) ?_
  simp (maxSteps := 2000000) only [go_sem, hG, hOw, hbe,it,Nat.reduceMul,List.drop_succ_cons,List.drop_zero]
  (repeat' with_reducible first | refine And.intro ?_ ?_ | intro _ | refine exP ?_ ?_); all_goals try omega
  try refine ⟨by omega, ?_⟩
  refine call_tri [(50, 51), (51, 7)] [] (hF) (by (simp only [go_sem]) <;> simp [dc0]) (by (simp only [go_sem, entH, entH1, nilArr, obOK]) <;> simp [dc0]) (by simp [injR, apart, toR]) (by simp [coverR, usH, toR, dc0]) (by simp [uniqP, lkR, toR]) (by simp [chk, hG]) ?_
  simp only [go_sem, hG, hOw]
  exact ⟨rfl, ⟨[], by (simp only [EndT, go_sem, entH, entH1, nilArr, obOK, apart, injR, coverR]) <;> simp⟩⟩
theorem dec_ok1 (lo : Nat) (s : Lx) (name : ByteArray) (l : Rws) (hl : ∀ x ∈ l, x.size ≤ 100000) (hne : ¬ name = ⟨#[99, 117, 116]⟩) (hf : formI name = 1) (v : Int) (r : Rws) (h1 : numO l = some (v, r)) (d : Dc) (r' : Rws) (h2 : f2 { dc0 with num := v, kind := 1 } r = some (d, r')) (hn : s.decs.length ≤ 1000) :
    Tri Tryz.prog 52 [str name, .ptr 51 0, .ptr 50 0] [(50, .box [.own 60 0 s.rules.length 3, .own 61 0 s.decs.length 9]), (51, .box [strs lo l]), (60, .arr 64 3 (s.rules.map rlC)), (61, .arr 68 9 (s.decs.map dcC))]
      (fun _ => .ret (.tup []) [(50, .box [.own 62 0 s.rules.length 3, .own 63 0 (s.decs.length + 1) 9]), (51, .box [strs lo r']), (62, .arr 64 3 (s.rules.map rlC)), (63, .arr 68 9 (s.decs.map dcC ++ [dcC d]))]) := by
  have hI := IndexForm name
  rw [hf] at hI
  have hN := numP lo l hl
  rw [h1] at hN
  have hF := forms2P lo { dc0 with num := v, kind := 1 } r ((numO_sub h1).size hl)
  rw [h2] at hF
  simp only at hN hF
  have hbe : ByteArray.empty = ⟨#[]⟩ := rfl
  have hwr : IntKind.u8.wrap 1 = 1 := rfl
  have it : Int.toNat 1 = 1 := rfl
  refine tri_intro (fun _ => false) Tryz.func52 Tryz.ntmps52 rfl (by kernel_rfl) (by simp) rfl (by decide) fun G hG hOw hNm => ?_; simp only [go_sem, hG, hOw]
  (repeat' with_reducible first | refine And.intro ?_ ?_ | intro _ | refine exP ?_ ?_); all_goals try omega
  · rename_i h; exact absurd h hne
  refine sla_step (n := 5) (sz := 3) (cs := formCs) formRows rfl (by simp [go_sem, formCs]) rfl (by rw [hG]; decide) (by kernel_rfl) form_wk (by simp [formRows]) rfl ⟨by decide, by decide⟩ (by decide) ?_
  simp only [go_sem, hG, hOw]
  refine call_frz (fun i => [3].contains i) ?_
  simp only [go_sem, hG, hOw]
  refine call_pure hI (by first | exact Subs.refl _ | (repeat' (first | exact Subs.nil | exact Sub.refl _ | exact Sub.lo (Nat.zero_le _) | refine Subs.cons ?_ ?_ | refine Subs.agg ?_ | refine Subs.fp ?_ | refine Subs.tup ?_ | refine Sub.map (Nat.zero_le _) (fun _ => ?_)))) (by first | rfl | simp [allP, all0, pureV, pure0, *]) (by simp [chk, hG]) ?_
  simp only [go_sem, hG, hOw]
  (repeat' with_reducible first | refine And.intro ?_ ?_ | intro _ | refine exP ?_ ?_); all_goals try omega
  refine call_tri [] [] (must_yes 111) (by (simp only [go_sem]) <;> simp) (by (simp only [go_sem, entH, entH1, nilArr, obOK]) <;> simp) (by simp [injR, apart, toR]) (by simp [coverR, usH, toR]) (by simp [uniqP, lkR, toR]) (by simp [chk, hG]) ?_
  simp (maxSteps := 2000000) only [go_sem, hG, hOw, hwr]
  (repeat' with_reducible first | refine And.intro ?_ ?_ | intro _ | refine exP ?_ ?_); all_goals try omega
  refine call_tri [(0, 51)] [] (hN) (by (simp only [go_sem]) <;> simp) (by (simp only [go_sem, entH, entH1, nilArr, obOK]) <;> simp) (by simp [injR, apart, toR]) (by simp [coverR, usH, toR]) (by simp [uniqP, lkR, toR]) (by simp [chk, hG]) ?_
  simp (maxSteps := 2000000) only [go_sem, hG, hOw, hbe,it,Nat.reduceMul,List.drop_succ_cons,List.drop_zero]
  (repeat' with_reducible first | refine And.intro ?_ ?_ | intro _ | refine exP ?_ ?_); all_goals try omega
  try refine ⟨by omega, ?_⟩
  refine call_tri [(50, 51), (51, 7)] [] (hF) (by (simp only [go_sem]) <;> simp [dc0]) (by (simp only [go_sem, entH, entH1, nilArr, obOK]) <;> simp [dc0]) (by simp [injR, apart, toR]) (by simp [coverR, usH, toR, dc0]) (by simp [uniqP, lkR, toR]) (by simp [chk, hG]) ?_
  simp only [go_sem, hG, hOw]
  (repeat' with_reducible first | refine And.intro ?_ ?_ | intro _ | refine exP ?_ ?_); all_goals try omega
  exact ⟨[(50, some 50), (51, some 51), (62, some 60), (63, some 57)], by (simp only [EndT, go_sem, entH, entH1, nilArr, obOK, apart, injR, coverR]) <;> simp⟩
theorem dec_bad2 (lo : Nat) (s : Lx) (name : ByteArray) (l : Rws) (hl : ∀ x ∈ l, x.size ≤ 100000) (hne : ¬ name = ⟨#[99, 117, 116]⟩) (hf : formI name = 2) (v : Int) (r : Rws) (h1 : numO l = some (v, r)) (h2 : f4 { dc0 with num := v, kind := 2 } r = none) :
    Tri Tryz.prog 52 [str name, .ptr 51 0, .ptr 50 0] [(50, .box [.own 60 0 s.rules.length 3, .own 61 0 s.decs.length 9]), (51, .box [strs lo l]), (60, .arr 64 3 (s.rules.map rlC)), (61, .arr 68 9 (s.decs.map dcC))]
      (fun _ => .pan (wrV 111) []) := by
  have hI := IndexForm name
  rw [hf] at hI
  have hN := numP lo l hl
  rw [h1] at hN
  have hF := forms4P lo { dc0 with num := v, kind := 2 } r ((numO_sub h1).size hl)
  rw [h2] at hF
  simp only at hN hF
  have hbe : ByteArray.empty = ⟨#[]⟩ := rfl
  have hwr : IntKind.u8.wrap 2 = 2 := rfl
  have it : Int.toNat 2 = 2 := rfl
  refine tri_intro (fun _ => false) Tryz.func52 Tryz.ntmps52 rfl (by kernel_rfl) (by simp) rfl (by decide) fun G hG hOw hNm => ?_; simp only [go_sem, hG, hOw]
  (repeat' with_reducible first | refine And.intro ?_ ?_ | intro _ | refine exP ?_ ?_); all_goals try omega
  · rename_i h; exact absurd h hne
  refine sla_step (n := 5) (sz := 3) (cs := formCs) formRows rfl (by simp [go_sem, formCs]) rfl (by rw [hG]; decide) (by kernel_rfl) form_wk (by simp [formRows]) rfl ⟨by decide, by decide⟩ (by decide) ?_
  simp only [go_sem, hG, hOw]
  refine call_frz (fun i => [3].contains i) ?_
  simp only [go_sem, hG, hOw]
  refine call_pure hI (by first | exact Subs.refl _ | (repeat' (first | exact Subs.nil | exact Sub.refl _ | exact Sub.lo (Nat.zero_le _) | refine Subs.cons ?_ ?_ | refine Subs.agg ?_ | refine Subs.fp ?_ | refine Subs.tup ?_ | refine Sub.map (Nat.zero_le _) (fun _ => ?_)))) (by first | rfl | simp [allP, all0, pureV, pure0, *]) (by simp [chk, hG]) ?_
  simp only [go_sem, hG, hOw]
  (repeat' with_reducible first | refine And.intro ?_ ?_ | intro _ | refine exP ?_ ?_); all_goals try omega
  refine call_tri [] [] (must_yes 111) (by (simp only [go_sem]) <;> simp) (by (simp only [go_sem, entH, entH1, nilArr, obOK]) <;> simp) (by simp [injR, apart, toR]) (by simp [coverR, usH, toR]) (by simp [uniqP, lkR, toR]) (by simp [chk, hG]) ?_
  simp (maxSteps := 2000000) only [go_sem, hG, hOw, hwr]
  (repeat' with_reducible first | refine And.intro ?_ ?_ | intro _ | refine exP ?_ ?_); all_goals try omega
  refine call_tri [(0, 51)] [] (hN) (by (simp only [go_sem]) <;> simp) (by (simp only [go_sem, entH, entH1, nilArr, obOK]) <;> simp) (by simp [injR, apart, toR]) (by simp [coverR, usH, toR]) (by simp [uniqP, lkR, toR]) (by simp [chk, hG]) ?_
  simp (maxSteps := 2000000) only [go_sem, hG, hOw, hbe,it,Nat.reduceMul,List.drop_succ_cons,List.drop_zero]
  (repeat' with_reducible first | refine And.intro ?_ ?_ | intro _ | refine exP ?_ ?_); all_goals try omega
  try refine ⟨by omega, ?_⟩
  refine call_tri [(50, 51), (51, 7)] [] (hF) (by (simp only [go_sem]) <;> simp [dc0]) (by (simp only [go_sem, entH, entH1, nilArr, obOK]) <;> simp [dc0]) (by simp [injR, apart, toR]) (by simp [coverR, usH, toR, dc0]) (by simp [uniqP, lkR, toR]) (by simp [chk, hG]) ?_
  simp only [go_sem, hG, hOw]
  exact ⟨rfl, ⟨[], by (simp only [EndT, go_sem, entH, entH1, nilArr, obOK, apart, injR, coverR]) <;> simp⟩⟩
theorem dec_ok2 (lo : Nat) (s : Lx) (name : ByteArray) (l : Rws) (hl : ∀ x ∈ l, x.size ≤ 100000) (hne : ¬ name = ⟨#[99, 117, 116]⟩) (hf : formI name = 2) (v : Int) (r : Rws) (h1 : numO l = some (v, r)) (d : Dc) (r' : Rws) (h2 : f4 { dc0 with num := v, kind := 2 } r = some (d, r')) (hn : s.decs.length ≤ 1000) :
    Tri Tryz.prog 52 [str name, .ptr 51 0, .ptr 50 0] [(50, .box [.own 60 0 s.rules.length 3, .own 61 0 s.decs.length 9]), (51, .box [strs lo l]), (60, .arr 64 3 (s.rules.map rlC)), (61, .arr 68 9 (s.decs.map dcC))]
      (fun _ => .ret (.tup []) [(50, .box [.own 62 0 s.rules.length 3, .own 63 0 (s.decs.length + 1) 9]), (51, .box [strs lo r']), (62, .arr 64 3 (s.rules.map rlC)), (63, .arr 68 9 (s.decs.map dcC ++ [dcC d]))]) := by
  have hI := IndexForm name
  rw [hf] at hI
  have hN := numP lo l hl
  rw [h1] at hN
  have hF := forms4P lo { dc0 with num := v, kind := 2 } r ((numO_sub h1).size hl)
  rw [h2] at hF
  simp only at hN hF
  have hbe : ByteArray.empty = ⟨#[]⟩ := rfl
  have hwr : IntKind.u8.wrap 2 = 2 := rfl
  have it : Int.toNat 2 = 2 := rfl
  refine tri_intro (fun _ => false) Tryz.func52 Tryz.ntmps52 rfl (by kernel_rfl) (by simp) rfl (by decide) fun G hG hOw hNm => ?_; simp only [go_sem, hG, hOw]
  (repeat' with_reducible first | refine And.intro ?_ ?_ | intro _ | refine exP ?_ ?_); all_goals try omega
  · rename_i h; exact absurd h hne
  refine sla_step (n := 5) (sz := 3) (cs := formCs) formRows rfl (by simp [go_sem, formCs]) rfl (by rw [hG]; decide) (by kernel_rfl) form_wk (by simp [formRows]) rfl ⟨by decide, by decide⟩ (by decide) ?_
  simp only [go_sem, hG, hOw]
  refine call_frz (fun i => [3].contains i) ?_
  simp only [go_sem, hG, hOw]
  refine call_pure hI (by first | exact Subs.refl _ | (repeat' (first | exact Subs.nil | exact Sub.refl _ | exact Sub.lo (Nat.zero_le _) | refine Subs.cons ?_ ?_ | refine Subs.agg ?_ | refine Subs.fp ?_ | refine Subs.tup ?_ | refine Sub.map (Nat.zero_le _) (fun _ => ?_)))) (by first | rfl | simp [allP, all0, pureV, pure0, *]) (by simp [chk, hG]) ?_
  simp only [go_sem, hG, hOw]
  (repeat' with_reducible first | refine And.intro ?_ ?_ | intro _ | refine exP ?_ ?_); all_goals try omega
  refine call_tri [] [] (must_yes 111) (by (simp only [go_sem]) <;> simp) (by (simp only [go_sem, entH, entH1, nilArr, obOK]) <;> simp) (by simp [injR, apart, toR]) (by simp [coverR, usH, toR]) (by simp [uniqP, lkR, toR]) (by simp [chk, hG]) ?_
  simp (maxSteps := 2000000) only [go_sem, hG, hOw, hwr]
  (repeat' with_reducible first | refine And.intro ?_ ?_ | intro _ | refine exP ?_ ?_); all_goals try omega
  refine call_tri [(0, 51)] [] (hN) (by (simp only [go_sem]) <;> simp) (by (simp only [go_sem, entH, entH1, nilArr, obOK]) <;> simp) (by simp [injR, apart, toR]) (by simp [coverR, usH, toR]) (by simp [uniqP, lkR, toR]) (by simp [chk, hG]) ?_
  simp (maxSteps := 2000000) only [go_sem, hG, hOw, hbe,it,Nat.reduceMul,List.drop_succ_cons,List.drop_zero]
  (repeat' with_reducible first | refine And.intro ?_ ?_ | intro _ | refine exP ?_ ?_); all_goals try omega
  try refine ⟨by omega, ?_⟩
  refine call_tri [(50, 51), (51, 7)] [] (hF) (by (simp only [go_sem]) <;> simp [dc0]) (by (simp only [go_sem, entH, entH1, nilArr, obOK]) <;> simp [dc0]) (by simp [injR, apart, toR]) (by simp [coverR, usH, toR, dc0]) (by simp [uniqP, lkR, toR]) (by simp [chk, hG]) ?_
  simp only [go_sem, hG, hOw]
  (repeat' with_reducible first | refine And.intro ?_ ?_ | intro _ | refine exP ?_ ?_); all_goals try omega
  exact ⟨[(50, some 50), (51, some 51), (62, some 60), (63, some 57)], by (simp only [EndT, go_sem, entH, entH1, nilArr, obOK, apart, injR, coverR]) <;> simp⟩
theorem dec_bad3 (lo : Nat) (s : Lx) (name : ByteArray) (l : Rws) (hl : ∀ x ∈ l, x.size ≤ 100000) (hne : ¬ name = ⟨#[99, 117, 116]⟩) (hf : formI name = 3) (v : Int) (r : Rws) (h1 : numO l = some (v, r)) (h2 : f6 { dc0 with num := v, kind := 3 } r = none) :
    Tri Tryz.prog 52 [str name, .ptr 51 0, .ptr 50 0] [(50, .box [.own 60 0 s.rules.length 3, .own 61 0 s.decs.length 9]), (51, .box [strs lo l]), (60, .arr 64 3 (s.rules.map rlC)), (61, .arr 68 9 (s.decs.map dcC))]
      (fun _ => .pan (wrV 111) []) := by
  have hI := IndexForm name
  rw [hf] at hI
  have hN := numP lo l hl
  rw [h1] at hN
  have hF := forms6P lo { dc0 with num := v, kind := 3 } r ((numO_sub h1).size hl)
  rw [h2] at hF
  simp only at hN hF
  have hbe : ByteArray.empty = ⟨#[]⟩ := rfl
  have hwr : IntKind.u8.wrap 3 = 3 := rfl
  have it : Int.toNat 3 = 3 := rfl
  refine tri_intro (fun _ => false) Tryz.func52 Tryz.ntmps52 rfl (by kernel_rfl) (by simp) rfl (by decide) fun G hG hOw hNm => ?_; simp only [go_sem, hG, hOw]
  (repeat' with_reducible first | refine And.intro ?_ ?_ | intro _ | refine exP ?_ ?_); all_goals try omega
  · rename_i h; exact absurd h hne
  refine sla_step (n := 5) (sz := 3) (cs := formCs) formRows rfl (by simp [go_sem, formCs]) rfl (by rw [hG]; decide) (by kernel_rfl) form_wk (by simp [formRows]) rfl ⟨by decide, by decide⟩ (by decide) ?_
  simp only [go_sem, hG, hOw]
  refine call_frz (fun i => [3].contains i) ?_
  simp only [go_sem, hG, hOw]
  refine call_pure hI (by first | exact Subs.refl _ | (repeat' (first | exact Subs.nil | exact Sub.refl _ | exact Sub.lo (Nat.zero_le _) | refine Subs.cons ?_ ?_ | refine Subs.agg ?_ | refine Subs.fp ?_ | refine Subs.tup ?_ | refine Sub.map (Nat.zero_le _) (fun _ => ?_)))) (by first | rfl | simp [allP, all0, pureV, pure0, *]) (by simp [chk, hG]) ?_
  simp only [go_sem, hG, hOw]
  (repeat' with_reducible first | refine And.intro ?_ ?_ | intro _ | refine exP ?_ ?_); all_goals try omega
  refine call_tri [] [] (must_yes 111) (by (simp only [go_sem]) <;> simp) (by (simp only [go_sem, entH, entH1, nilArr, obOK]) <;> simp) (by simp [injR, apart, toR]) (by simp [coverR, usH, toR]) (by simp [uniqP, lkR, toR]) (by simp [chk, hG]) ?_
  simp (maxSteps := 2000000) only [go_sem, hG, hOw, hwr]
  (repeat' with_reducible first | refine And.intro ?_ ?_ | intro _ | refine exP ?_ ?_); all_goals try omega
  refine call_tri [(0, 51)] [] (hN) (by (simp only [go_sem]) <;> simp) (by (simp only [go_sem, entH, entH1, nilArr, obOK]) <;> simp) (by simp [injR, apart, toR]) (by simp [coverR, usH, toR]) (by simp [uniqP, lkR, toR]) (by simp [chk, hG]) ?_
  simp (maxSteps := 2000000) only [go_sem, hG, hOw, hbe,it,Nat.reduceMul,List.drop_succ_cons,List.drop_zero]
  (repeat' with_reducible first | refine And.intro ?_ ?_ | intro _ | refine exP ?_ ?_); all_goals try omega
  try refine ⟨by omega, ?_⟩
  refine call_tri [(50, 51), (51, 7)] [] (hF) (by (simp only [go_sem]) <;> simp [dc0]) (by (simp only [go_sem, entH, entH1, nilArr, obOK]) <;> simp [dc0]) (by simp [injR, apart, toR]) (by simp [coverR, usH, toR, dc0]) (by simp [uniqP, lkR, toR]) (by simp [chk, hG]) ?_
  simp only [go_sem, hG, hOw]
  exact ⟨rfl, ⟨[], by (simp only [EndT, go_sem, entH, entH1, nilArr, obOK, apart, injR, coverR]) <;> simp⟩⟩
theorem dec_ok3 (lo : Nat) (s : Lx) (name : ByteArray) (l : Rws) (hl : ∀ x ∈ l, x.size ≤ 100000) (hne : ¬ name = ⟨#[99, 117, 116]⟩) (hf : formI name = 3) (v : Int) (r : Rws) (h1 : numO l = some (v, r)) (d : Dc) (r' : Rws) (h2 : f6 { dc0 with num := v, kind := 3 } r = some (d, r')) (hn : s.decs.length ≤ 1000) :
    Tri Tryz.prog 52 [str name, .ptr 51 0, .ptr 50 0] [(50, .box [.own 60 0 s.rules.length 3, .own 61 0 s.decs.length 9]), (51, .box [strs lo l]), (60, .arr 64 3 (s.rules.map rlC)), (61, .arr 68 9 (s.decs.map dcC))]
      (fun _ => .ret (.tup []) [(50, .box [.own 62 0 s.rules.length 3, .own 63 0 (s.decs.length + 1) 9]), (51, .box [strs lo r']), (62, .arr 64 3 (s.rules.map rlC)), (63, .arr 68 9 (s.decs.map dcC ++ [dcC d]))]) := by
  have hI := IndexForm name
  rw [hf] at hI
  have hN := numP lo l hl
  rw [h1] at hN
  have hF := forms6P lo { dc0 with num := v, kind := 3 } r ((numO_sub h1).size hl)
  rw [h2] at hF
  simp only at hN hF
  have hbe : ByteArray.empty = ⟨#[]⟩ := rfl
  have hwr : IntKind.u8.wrap 3 = 3 := rfl
  have it : Int.toNat 3 = 3 := rfl
  refine tri_intro (fun _ => false) Tryz.func52 Tryz.ntmps52 rfl (by kernel_rfl) (by simp) rfl (by decide) fun G hG hOw hNm => ?_; simp only [go_sem, hG, hOw]
  (repeat' with_reducible first | refine And.intro ?_ ?_ | intro _ | refine exP ?_ ?_); all_goals try omega
  · rename_i h; exact absurd h hne
  refine sla_step (n := 5) (sz := 3) (cs := formCs) formRows rfl (by simp [go_sem, formCs]) rfl (by rw [hG]; decide) (by kernel_rfl) form_wk (by simp [formRows]) rfl ⟨by decide, by decide⟩ (by decide) ?_
  simp only [go_sem, hG, hOw]
  refine call_frz (fun i => [3].contains i) ?_
  simp only [go_sem, hG, hOw]
  refine call_pure hI (by first | exact Subs.refl _ | (repeat' (first | exact Subs.nil | exact Sub.refl _ | exact Sub.lo (Nat.zero_le _) | refine Subs.cons ?_ ?_ | refine Subs.agg ?_ | refine Subs.fp ?_ | refine Subs.tup ?_ | refine Sub.map (Nat.zero_le _) (fun _ => ?_)))) (by first | rfl | simp [allP, all0, pureV, pure0, *]) (by simp [chk, hG]) ?_
  simp only [go_sem, hG, hOw]
  (repeat' with_reducible first | refine And.intro ?_ ?_ | intro _ | refine exP ?_ ?_); all_goals try omega
  refine call_tri [] [] (must_yes 111) (by (simp only [go_sem]) <;> simp) (by (simp only [go_sem, entH, entH1, nilArr, obOK]) <;> simp) (by simp [injR, apart, toR]) (by simp [coverR, usH, toR]) (by simp [uniqP, lkR, toR]) (by simp [chk, hG]) ?_
  simp (maxSteps := 2000000) only [go_sem, hG, hOw, hwr]
  (repeat' with_reducible first | refine And.intro ?_ ?_ | intro _ | refine exP ?_ ?_); all_goals try omega
  refine call_tri [(0, 51)] [] (hN) (by (simp only [go_sem]) <;> simp) (by (simp only [go_sem, entH, entH1, nilArr, obOK]) <;> simp) (by simp [injR, apart, toR]) (by simp [coverR, usH, toR]) (by simp [uniqP, lkR, toR]) (by simp [chk, hG]) ?_
  simp (maxSteps := 2000000) only [go_sem, hG, hOw, hbe,it,Nat.reduceMul,List.drop_succ_cons,List.drop_zero]
  (repeat' with_reducible first | refine And.intro ?_ ?_ | intro _ | refine exP ?_ ?_); all_goals try omega
  try refine ⟨by omega, ?_⟩
  refine call_tri [(50, 51), (51, 7)] [] (hF) (by (simp only [go_sem]) <;> simp [dc0]) (by (simp only [go_sem, entH, entH1, nilArr, obOK]) <;> simp [dc0]) (by simp [injR, apart, toR]) (by simp [coverR, usH, toR, dc0]) (by simp [uniqP, lkR, toR]) (by simp [chk, hG]) ?_
  simp only [go_sem, hG, hOw]
  (repeat' with_reducible first | refine And.intro ?_ ?_ | intro _ | refine exP ?_ ?_); all_goals try omega
  exact ⟨[(50, some 50), (51, some 51), (62, some 60), (63, some 57)], by (simp only [EndT, go_sem, entH, entH1, nilArr, obOK, apart, injR, coverR]) <;> simp⟩
theorem dec_bad4 (lo : Nat) (s : Lx) (name : ByteArray) (l : Rws) (hl : ∀ x ∈ l, x.size ≤ 100000) (hne : ¬ name = ⟨#[99, 117, 116]⟩) (hf : formI name = 4) (v : Int) (r : Rws) (h1 : numO l = some (v, r)) (h2 : f8 { dc0 with num := v, kind := 4 } r = none) :
    Tri Tryz.prog 52 [str name, .ptr 51 0, .ptr 50 0] [(50, .box [.own 60 0 s.rules.length 3, .own 61 0 s.decs.length 9]), (51, .box [strs lo l]), (60, .arr 64 3 (s.rules.map rlC)), (61, .arr 68 9 (s.decs.map dcC))]
      (fun _ => .pan (wrV 111) []) := by
  have hI := IndexForm name
  rw [hf] at hI
  have hN := numP lo l hl
  rw [h1] at hN
  have hF := forms8P lo { dc0 with num := v, kind := 4 } r ((numO_sub h1).size hl)
  rw [h2] at hF
  simp only at hN hF
  have hbe : ByteArray.empty = ⟨#[]⟩ := rfl
  have hwr : IntKind.u8.wrap 4 = 4 := rfl
  have it : Int.toNat 4 = 4 := rfl
  refine tri_intro (fun _ => false) Tryz.func52 Tryz.ntmps52 rfl (by kernel_rfl) (by simp) rfl (by decide) fun G hG hOw hNm => ?_; simp only [go_sem, hG, hOw]
  (repeat' with_reducible first | refine And.intro ?_ ?_ | intro _ | refine exP ?_ ?_); all_goals try omega
  · rename_i h; exact absurd h hne
  refine sla_step (n := 5) (sz := 3) (cs := formCs) formRows rfl (by simp [go_sem, formCs]) rfl (by rw [hG]; decide) (by kernel_rfl) form_wk (by simp [formRows]) rfl ⟨by decide, by decide⟩ (by decide) ?_
  simp only [go_sem, hG, hOw]
  refine call_frz (fun i => [3].contains i) ?_
  simp only [go_sem, hG, hOw]
  refine call_pure hI (by first | exact Subs.refl _ | (repeat' (first | exact Subs.nil | exact Sub.refl _ | exact Sub.lo (Nat.zero_le _) | refine Subs.cons ?_ ?_ | refine Subs.agg ?_ | refine Subs.fp ?_ | refine Subs.tup ?_ | refine Sub.map (Nat.zero_le _) (fun _ => ?_)))) (by first | rfl | simp [allP, all0, pureV, pure0, *]) (by simp [chk, hG]) ?_
  simp only [go_sem, hG, hOw]
  (repeat' with_reducible first | refine And.intro ?_ ?_ | intro _ | refine exP ?_ ?_); all_goals try omega
  refine call_tri [] [] (must_yes 111) (by (simp only [go_sem]) <;> simp) (by (simp only [go_sem, entH, entH1, nilArr, obOK]) <;> simp) (by simp [injR, apart, toR]) (by simp [coverR, usH, toR]) (by simp [uniqP, lkR, toR]) (by simp [chk, hG]) ?_
  simp (maxSteps := 2000000) only [go_sem, hG, hOw, hwr]
  (repeat' with_reducible first | refine And.intro ?_ ?_ | intro _ | refine exP ?_ ?_); all_goals try omega
  refine call_tri [(0, 51)] [] (hN) (by (simp only [go_sem]) <;> simp) (by (simp only [go_sem, entH, entH1, nilArr, obOK]) <;> simp) (by simp [injR, apart, toR]) (by simp [coverR, usH, toR]) (by simp [uniqP, lkR, toR]) (by simp [chk, hG]) ?_
  simp (maxSteps := 2000000) only [go_sem, hG, hOw, hbe,it,Nat.reduceMul,List.drop_succ_cons,List.drop_zero]
  (repeat' with_reducible first | refine And.intro ?_ ?_ | intro _ | refine exP ?_ ?_); all_goals try omega
  try refine ⟨by omega, ?_⟩
  refine call_tri [(50, 51), (51, 7)] [] (hF) (by (simp only [go_sem]) <;> simp [dc0]) (by (simp only [go_sem, entH, entH1, nilArr, obOK]) <;> simp [dc0]) (by simp [injR, apart, toR]) (by simp [coverR, usH, toR, dc0]) (by simp [uniqP, lkR, toR]) (by simp [chk, hG]) ?_
  simp only [go_sem, hG, hOw]
  exact ⟨rfl, ⟨[], by (simp only [EndT, go_sem, entH, entH1, nilArr, obOK, apart, injR, coverR]) <;> simp⟩⟩
theorem dec_ok4 (lo : Nat) (s : Lx) (name : ByteArray) (l : Rws) (hl : ∀ x ∈ l, x.size ≤ 100000) (hne : ¬ name = ⟨#[99, 117, 116]⟩) (hf : formI name = 4) (v : Int) (r : Rws) (h1 : numO l = some (v, r)) (d : Dc) (r' : Rws) (h2 : f8 { dc0 with num := v, kind := 4 } r = some (d, r')) (hn : s.decs.length ≤ 1000) :
    Tri Tryz.prog 52 [str name, .ptr 51 0, .ptr 50 0] [(50, .box [.own 60 0 s.rules.length 3, .own 61 0 s.decs.length 9]), (51, .box [strs lo l]), (60, .arr 64 3 (s.rules.map rlC)), (61, .arr 68 9 (s.decs.map dcC))]
      (fun _ => .ret (.tup []) [(50, .box [.own 62 0 s.rules.length 3, .own 63 0 (s.decs.length + 1) 9]), (51, .box [strs lo r']), (62, .arr 64 3 (s.rules.map rlC)), (63, .arr 68 9 (s.decs.map dcC ++ [dcC d]))]) := by
  have hI := IndexForm name
  rw [hf] at hI
  have hN := numP lo l hl
  rw [h1] at hN
  have hF := forms8P lo { dc0 with num := v, kind := 4 } r ((numO_sub h1).size hl)
  rw [h2] at hF
  simp only at hN hF
  have hbe : ByteArray.empty = ⟨#[]⟩ := rfl
  have hwr : IntKind.u8.wrap 4 = 4 := rfl
  have it : Int.toNat 4 = 4 := rfl
  refine tri_intro (fun _ => false) Tryz.func52 Tryz.ntmps52 rfl (by kernel_rfl) (by simp) rfl (by decide) fun G hG hOw hNm => ?_; simp only [go_sem, hG, hOw]
  (repeat' with_reducible first | refine And.intro ?_ ?_ | intro _ | refine exP ?_ ?_); all_goals try omega
  · rename_i h; exact absurd h hne
  refine sla_step (n := 5) (sz := 3) (cs := formCs) formRows rfl (by simp [go_sem, formCs]) rfl (by rw [hG]; decide) (by kernel_rfl) form_wk (by simp [formRows]) rfl ⟨by decide, by decide⟩ (by decide) ?_
  simp only [go_sem, hG, hOw]
  refine call_frz (fun i => [3].contains i) ?_
  simp only [go_sem, hG, hOw]
  refine call_pure hI (by first | exact Subs.refl _ | (repeat' (first | exact Subs.nil | exact Sub.refl _ | exact Sub.lo (Nat.zero_le _) | refine Subs.cons ?_ ?_ | refine Subs.agg ?_ | refine Subs.fp ?_ | refine Subs.tup ?_ | refine Sub.map (Nat.zero_le _) (fun _ => ?_)))) (by first | rfl | simp [allP, all0, pureV, pure0, *]) (by simp [chk, hG]) ?_
  simp only [go_sem, hG, hOw]
  (repeat' with_reducible first | refine And.intro ?_ ?_ | intro _ | refine exP ?_ ?_); all_goals try omega
  refine call_tri [] [] (must_yes 111) (by (simp only [go_sem]) <;> simp) (by (simp only [go_sem, entH, entH1, nilArr, obOK]) <;> simp) (by simp [injR, apart, toR]) (by simp [coverR, usH, toR]) (by simp [uniqP, lkR, toR]) (by simp [chk, hG]) ?_
  simp (maxSteps := 2000000) only [go_sem, hG, hOw, hwr]
  (repeat' with_reducible first | refine And.intro ?_ ?_ | intro _ | refine exP ?_ ?_); all_goals try omega
  refine call_tri [(0, 51)] [] (hN) (by (simp only [go_sem]) <;> simp) (by (simp only [go_sem, entH, entH1, nilArr, obOK]) <;> simp) (by simp [injR, apart, toR]) (by simp [coverR, usH, toR]) (by simp [uniqP, lkR, toR]) (by simp [chk, hG]) ?_
  simp (maxSteps := 2000000) only [go_sem, hG, hOw, hbe,it,Nat.reduceMul,List.drop_succ_cons,List.drop_zero]
  (repeat' with_reducible first | refine And.intro ?_ ?_ | intro _ | refine exP ?_ ?_); all_goals try omega
  try refine ⟨by omega, ?_⟩
  refine call_tri [(50, 51), (51, 7)] [] (hF) (by (simp only [go_sem]) <;> simp [dc0]) (by (simp only [go_sem, entH, entH1, nilArr, obOK]) <;> simp [dc0]) (by simp [injR, apart, toR]) (by simp [coverR, usH, toR, dc0]) (by simp [uniqP, lkR, toR]) (by simp [chk, hG]) ?_
  simp only [go_sem, hG, hOw]
  (repeat' with_reducible first | refine And.intro ?_ ?_ | intro _ | refine exP ?_ ?_); all_goals try omega
  exact ⟨[(50, some 50), (51, some 51), (62, some 60), (63, some 57)], by (simp only [EndT, go_sem, entH, entH1, nilArr, obOK, apart, injR, coverR]) <;> simp⟩
end Go.Proofs.YtppcbmpiphhphaaGreatDoor
