import Derived.Test.YtppcbmpiphhphaaGreatDoorQU18
import Derived.Test.YtppcbmpiphhphaaGreatDoorQU19
import Derived.Test.YtppcbmpiphhphaaGreatDoorQU24
import Derived.Test.YtppcbmpiphhphaaGreatDoorQU30
namespace Go.Proofs.YtppcbmpiphhphaaGreatDoor
open Go Pm
set_option linter.unusedSimpArgs false
set_option linter.unusedVariables false
set_option maxHeartbeats 4000000
set_option maxRecDepth 100000
theorem isNaN_ok (a : Int) : Gives Tryz.prog 126 [i64 a] (fun _ => bl false) := by
  refine pure_intro (ow := fun _ => false) Tryz.func126 Tryz.ntmps126 rfl (by kernel_rfl) (by simp) rfl (by decide) fun G hG hOw hNm hB => ?_; simp only [go_sem, hG, hOw]
  all_goals simp [bl]
theorem Compare_ok (a b : Int) : Gives Tryz.prog 96 [i64 a, i64 b] (fun _ => i64 (cmpI a b)) := by
  refine pure_intro (ow := fun _ => false) Tryz.func96 Tryz.ntmps96 rfl (by kernel_rfl) (by simp) rfl (by decide) fun G hG hOw hNm hB => ?_; simp only [go_sem, hG, hOw]
  refine call_pureA (isNaN_ok a) ?_
  simp only [go_sem, hG, hOw]
  refine call_pureA (isNaN_ok b) ?_
  simp only [go_sem, hG, hOw]
  unfold cmpI
  (repeat' with_reducible first | refine And.intro ?_ ?_ | intro _ | refine exP ?_ ?_); all_goals try omega
  all_goals (first | (rename_i h1 h2; simp [h1, h2]) | (rename_i h1; simp [h1]) | skip)
open Go Pm
set_option maxHeartbeats 4000000
set_option maxRecDepth 100000
open Go Pm
set_option maxHeartbeats 4000000
set_option maxRecDepth 100000
theorem line_yes (t : List Ch) (ht : OKtB t) (a b : Int) (w : Int) (l : List ByteArray) (h : lineO t a b = some l) : Gives Tryz.prog 138 [.fp [chs 0 t], .agg [i64 a, i64 b, i64 w]] (fun _ => strs 0 l) := by
  obtain ⟨ht1, ht2⟩ := ht
  unfold lineO at h
  split at h
  · rename_i hab
    obtain ⟨ha, hb⟩ := hab
    obtain ⟨a, rfl⟩ := Int.eq_ofNat_of_zero_le ha
    obtain ⟨b, rfl⟩ := Int.eq_ofNat_of_zero_le hb
    simp only [Int.toNat_natCast, Option.bind_eq_some_iff] at h
    obtain ⟨c, hc, hl⟩ := h
    obtain ⟨hat, rfl⟩ := List.getElem?_eq_some_iff.1 hc
    obtain ⟨hbl, rfl⟩ := List.getElem?_eq_some_iff.1 hl
    have ht3 := (ht2 _ (List.getElem_mem hat)).1
    have e1 : inB (a : Int) 0 ((t.length : Int) - 1) = true := by simp [inB]; omega
    have e2 : inB (b : Int) 0 ((t[a].lines.length : Int) - 1) = true := by simp [inB]; omega
    refine pure_intro (ow := fun _ => false) Tryz.func138 Tryz.ntmps138 rfl (by kernel_rfl) (by simp) rfl (by decide) fun G hG hOw hNm hB => ?_; simp only [go_sem, hG, hOw]
    refine semC_draw0 mixed (by kernel_rfl) ?_
    simp only [go_sem, hG, hOw]
    (repeat' with_reducible first | refine And.intro ?_ ?_ | intro _ | refine exP ?_ ?_); all_goals try omega
    refine ⟨_, callGivesA (inL_one 0 ((t.length : Int) - 1) a), ?_⟩
    simp (maxSteps := 2000000) only [go_sem, hG, hOw, e1]
    (repeat' with_reducible first | refine And.intro ?_ ?_ | intro _ | refine exP ?_ ?_); all_goals try omega
    refine ⟨_, callGivesA (inL_one 0 ((t[a].lines.length : Int) - 1) b), ?_⟩
    simp (maxSteps := 2000000) only [go_sem, hG, hOw, e2]
    (repeat' with_reducible first | refine And.intro ?_ ?_ | intro _ | refine exP ?_ ?_); all_goals try omega
    refine semC_draw0 mixed (by kernel_rfl) ?_
    simp only [go_sem, hG, hOw]
    (repeat' with_reducible first | refine And.intro ?_ ?_ | intro _ | refine exP ?_ ?_); all_goals try omega
  · cases h
theorem line_no (t : List Ch) (ht : OKtB t) (a b : Int) (w : Int) (h : lineO t a b = none) : Gives Tryz.prog 138 [.fp [chs 0 t], .agg [i64 a, i64 b, i64 w]] (fun _ => strs 0 []) := by
  obtain ⟨ht1, ht2⟩ := ht
  refine pure_intro (ow := fun _ => false) Tryz.func138 Tryz.ntmps138 rfl (by kernel_rfl) (by simp) rfl (by decide) fun G hG hOw hNm hB => ?_; simp only [go_sem, hG, hOw]
  refine semC_draw0 mixed (by kernel_rfl) ?_
  simp only [go_sem, hG, hOw]
  (repeat' with_reducible first | refine And.intro ?_ ?_ | intro _ | refine exP ?_ ?_); all_goals try omega
  refine ⟨_, callGivesA (inL_one 0 ((t.length : Int) - 1) a), ?_⟩
  cases e1 : inB a 0 ((t.length : Int) - 1) with
  | false =>
    simp only [go_sem, hG, hOw]
    (repeat' with_reducible first | refine And.intro ?_ ?_ | intro _ | refine exP ?_ ?_); all_goals try omega
    exact .nil _ _
  | true =>
    have ha : 0 ≤ a ∧ a ≤ (t.length : Int) - 1 := by simpa [inB] using e1
    obtain ⟨ha0, ha1⟩ := ha
    obtain ⟨a, rfl⟩ := Int.eq_ofNat_of_zero_le ha0
    have hat : a < t.length := by omega
    have ht3 := (ht2 _ (List.getElem_mem hat)).1
    have e2 : inB b 0 ((t[a].lines.length : Int) - 1) = false := by
      cases e2 : inB b 0 ((t[a].lines.length : Int) - 1) with
      | false => rfl
      | true =>
        exfalso
        have hb : 0 ≤ b ∧ b ≤ (t[a].lines.length : Int) - 1 := by simpa [inB] using e2
        obtain ⟨b, rfl⟩ := Int.eq_ofNat_of_zero_le hb.1
        have hbl : b < t[a].lines.length := by omega
        simp [lineO, hat, hbl] at h
    simp only [go_sem, hG, hOw]
    (repeat' with_reducible first | refine And.intro ?_ ?_ | intro _ | refine exP ?_ ?_); all_goals try omega
    refine ⟨_, callGivesA (inL_one 0 ((t[a].lines.length : Int) - 1) b), ?_⟩
    simp (maxSteps := 2000000) only [go_sem, hG, hOw, e2]
    (repeat' with_reducible first | refine And.intro ?_ ?_ | intro _ | refine exP ?_ ?_); all_goals try omega
    exact .nil _ _
open Go Pm
set_option maxHeartbeats 4000000
set_option maxRecDepth 100000
structure FM where
  m : List (Value × V)
  h : ∀ q ∈ m, ∃ lo l, q.2 = .lst lo 5 l
theorem FM.frz (A : FM) (p : Nat → Bool) (lo : Nat) (s : St) : (A.m.map fun q => (q.1, vwF p lo s 4 q.2)) = A.m := by
  conv => rhs; rw [← List.map_id A.m]
  refine List.map_congr_left fun q hq => ?_
  obtain ⟨lo', l, h⟩ := A.h q hq
  obtain ⟨q1, q2⟩ := q
  simp only at h
  subst h
  rfl
theorem FM.frz2 (A : FM) (p : Nat → Bool) (lo : Nat) (s : St) (R : List (Value × V)) : ((A.m ++ R).map fun q => (q.1, vwF p lo s 4 q.2)) = A.m ++ R.map fun q => (q.1, vwF p lo s 4 q.2) := by
  rw [List.map_append, A.frz]
theorem FM.frz3 (A : FM) (p : Nat → Bool) (lo : Nat) (s : St) (R R' : List (Value × V)) : ((A.m ++ R ++ R').map fun q => (q.1, vwF p lo s 4 q.2)) = A.m ++ (R.map fun q => (q.1, vwF p lo s 4 q.2)) ++ R'.map fun q => (q.1, vwF p lo s 4 q.2) := by
  rw [List.map_append, List.map_append, A.frz]
theorem FM.ren (A : FM) (ρ : Ren) : (A.m.map fun q => (q.1, renT ρ 4 q.2)) = A.m := by
  conv => rhs; rw [← List.map_id A.m]
  refine List.map_congr_left fun q hq => ?_
  obtain ⟨lo', l, h⟩ := A.h q hq
  obtain ⟨q1, q2⟩ := q
  simp only at h
  subst h
  rfl
theorem FM.ok1 (ρ : Ren) : ∀ (m : List (Value × V)), (∀ q ∈ m, ∃ lo l, q.2 = .lst lo 5 l) → okL (okN ρ 4) (m.map (·.2)) (m.map (·.2))
  | [], _ => trivial
  | q :: m, h => by
    refine ⟨?_, FM.ok1 ρ m fun x hx => h x (by simp [hx])⟩
    obtain ⟨lo, l, e⟩ := h q (by simp)
    show okN ρ 4 q.2 q.2
    rw [e]
    exact .inl rfl
theorem FM.r1 (A : FM) (ρ : Ren) : okL (okN ρ 4) (A.m.map (·.2)) (A.m.map (·.2)) = True := eq_true (FM.ok1 ρ A.m A.h)
theorem FM.r2' (ρ : Ren) (R R' : List V) : ∀ (m : List (Value × V)), (∀ q ∈ m, ∃ lo l, q.2 = .lst lo 5 l) → okL (okN ρ 4) (m.map (·.2) ++ R) (m.map (·.2) ++ R') = okL (okN ρ 4) R R'
  | [], _ => rfl
  | q :: m, h => by
    have ih := FM.r2' ρ R R' m fun x hx => h x (by simp [hx])
    obtain ⟨lo, l, e⟩ := h q (by simp)
    have h1 : okN ρ 4 q.2 q.2 := by rw [e]; exact .inl rfl
    show (okN ρ 4 q.2 q.2 ∧ okL (okN ρ 4) (m.map (·.2) ++ R) (m.map (·.2) ++ R')) = _
    rw [ih]
    exact propext ⟨fun h => h.2, fun h => ⟨h1, h⟩⟩
theorem FM.r2 (A : FM) (ρ : Ren) (R R' : List (Value × V)) : okL (okN ρ 4) ((A.m ++ R).map (·.2)) ((A.m ++ R').map (·.2)) = okL (okN ρ 4) (R.map (·.2)) (R'.map (·.2)) := by
  rw [List.map_append, List.map_append]
  exact FM.r2' ρ _ _ A.m A.h
theorem FM.r3 (A : FM) (ρ : Ren) (R R' S S' : List (Value × V)) : okL (okN ρ 4) ((A.m ++ R ++ S).map (·.2)) ((A.m ++ R' ++ S').map (·.2)) = okL (okN ρ 4) ((R ++ S).map (·.2)) ((R' ++ S').map (·.2)) := by
  rw [List.append_assoc, List.append_assoc]
  exact A.r2 ρ _ _
attribute [go_sem ↓] FM.frz FM.frz2 FM.frz3 FM.ren FM.r1 FM.r2 FM.r3
open Go Pm
set_option maxHeartbeats 4000000
set_option maxRecDepth 100000
open Go Pm
set_option maxHeartbeats 4000000
set_option maxRecDepth 100000
open Go Pm
set_option maxHeartbeats 4000000
set_option maxRecDepth 100000
open Go Pm
set_option maxHeartbeats 4000000
set_option maxRecDepth 100000
open Go Pm
set_option maxHeartbeats 4000000
set_option maxRecDepth 100000
open Go Pm
set_option maxHeartbeats 4000000
set_option maxRecDepth 100000
open Go Pm
set_option maxHeartbeats 4000000
set_option maxRecDepth 100000
open Go Pm
set_option maxHeartbeats 4000000
set_option maxRecDepth 100000
theorem okB_of {t : List Ch} (ht : textB t = true) : OKtB t := by
  obtain ⟨ht1, ht2⟩ := text_v ht
  exact ⟨by omega, fun c hc => by
    have hv := ht2 c hc
    exact ⟨by have := hv.len; omega, fun r hr => ⟨by have := (hv.ln r hr).1; omega, fun s hs => by have := wordB_size ((hv.ln r hr).2 s hs); omega⟩⟩⟩
theorem open_yes (t : List Ch) (ht : textB t = true) : Gives Tryz.prog 159 [txE 0 t] (fun n => .tup [.fp [chs 0 t], i64 0]) := by
  refine pure_intro (ow := fun _ => false) Tryz.func159 Tryz.ntmps159 rfl (by kernel_rfl) (by simp) rfl (by decide) fun G hG hOw hNm hB => ?_; simp only [go_sem, hG, hOw]
  refine call_pureA (LCheck_ok t) ?_
  simp (maxSteps := 2000000) only [go_sem, hG, hOw, ht]
end Go.Proofs.YtppcbmpiphhphaaGreatDoor
