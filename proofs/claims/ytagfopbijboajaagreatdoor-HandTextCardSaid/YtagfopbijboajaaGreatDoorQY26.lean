import Derived.Test.YtagfopbijboajaaGreatDoorQY03
import Derived.Test.YtagfopbijboajaaGreatDoorQY10
import Derived.Test.YtagfopbijboajaaGreatDoorQY18
import Derived.Test.YtagfopbijboajaaGreatDoorQY25
namespace Go.Proofs.YtagfopbijboajaaGreatDoor
open Go Pm
set_option linter.unusedSimpArgs false
set_option linter.unusedVariables false
def gtLine (r : List ByteArray) : Bool := decide (15 < (r.length : Int)) || r.any fun s => decide (40 < (s.size : Int))
def gtChap (c : Ch) : Bool := decide (15 < (c.lines.length : Int)) || c.lines.any gtLine
def greatT (t : List Ch) : Bool := decide (10 < (t.length : Int)) || t.any gtChap
def gtSheet (x : Se) : Bool := decide (40 < (x.lines.length : Int)) || x.lines.any gtLine
def greatR (r : Ro) : Bool := greatT r.text || decide (8 < (r.helpers.length : Int)) || decide (12 < (r.shares.length : Int)) || decide (12 < (r.sheets.length : Int)) || r.sheets.any gtSheet
theorem gtLine_ok {r : List ByteArray} (h : gtLine r = false) : r.length ≤ 15 ∧ ∀ s ∈ r, s.size ≤ 40 := by
  simp only [gtLine, Bool.or_eq_false_iff, decide_eq_false_iff_not, List.any_eq_false, decide_eq_true_eq] at h
  exact ⟨by omega, fun s hs => by have := h.2 s hs; omega⟩
theorem greatT_ok {t : List Ch} (h : greatT t = false) : OKt t := by
  simp only [greatT, gtChap, Bool.or_eq_false_iff, decide_eq_false_iff_not, List.any_eq_false, Bool.or_eq_true, not_or, decide_eq_true_eq, Bool.not_eq_true] at h
  refine ⟨by omega, fun c hc => ?_⟩
  obtain ⟨h1, h2⟩ := h.2 c hc
  have h3 : ∀ r ∈ c.lines, gtLine r = false := by simpa using h2
  exact ⟨by omega, fun r hr => gtLine_ok (h3 r hr)⟩
theorem greatR_ok {r : Ro} (h : greatR r = false) : OKr r := by
  simp only [greatR, gtSheet, Bool.or_eq_false_iff, decide_eq_false_iff_not, List.any_eq_false, Bool.or_eq_true, not_or, decide_eq_true_eq, Bool.not_eq_true] at h
  obtain ⟨⟨⟨⟨h1, h2⟩, h3⟩, h4⟩, h5⟩ := h
  refine ⟨greatT_ok h1, by omega, by omega, by omega, fun x hx => ?_⟩
  obtain ⟨q1, q2⟩ := h5 x hx
  have q3 : ∀ r ∈ x.lines, gtLine r = false := by simpa using q2
  exact ⟨by omega, fun r hr => gtLine_ok (q3 r hr)⟩
open Go Pm
set_option maxHeartbeats 4000000
set_option maxRecDepth 100000
def pre (ws : List ByteArray) : Nat → Int
  | 0 => 0
  | n + 1 => pre ws n + ((((ws[n]?).getD ByteArray.empty).size : Int) + 1)
def span (ws : List ByteArray) (f n : Nat) : Int := pre ws n - pre ws f - 1
theorem pre_bd (ws : List ByteArray) (h : ∀ s ∈ ws, s.size ≤ 40) : ∀ n, 0 ≤ pre ws n ∧ pre ws n ≤ 41 * n := by
  intro n
  induction n with
  | zero => simp [pre]
  | succ n ih =>
    have : (((ws[n]?).getD ByteArray.empty).size : Int) ≤ 40 := by
      cases e : ws[n]? with
      | none => simp
      | some s => have := h s (List.mem_of_getElem? e); simp; omega
    simp only [pre]
    omega
theorem pre_succ (ws : List ByteArray) (n : Nat) (h : n < ws.length) : pre ws (n + 1) = pre ws n + ((ws[n].size : Int) + 1) := by simp [pre, h]
def stepC (s : Int) (a : Bool × Cx) (x : Cx) : Bool × Cx := if (!a.1 || decide (ordI s x a.2 < 0)) = true then (true, x) else a
def innerA (ws : List ByteArray) (W s : Int) (i f : Nat) : Nat → Nat → Bool × Cx → Bool × Cx
  | 0, _, a => a
  | n + 1, to, a => if to < ws.length ∧ span ws f (to + 1) ≤ W then innerA ws W s i f n (to + 1) (stepC s a ⟨f, i, to, span ws f (to + 1)⟩) else a
def outerA (ws : List ByteArray) (W s : Int) (i : Nat) : Nat → Bool × Cx → Bool × Cx
  | 0, a => a
  | m + 1, a => if W < span ws m (i + 1) then a else outerA ws W s i m (innerA ws W s i m (ws.length - i) i a)
def noCx : Cx := ⟨0, 0, 0, 0⟩
def bestC (ws : List ByteArray) (W s : Int) (i : Nat) : Cx := (outerA ws W s i (i + 1) (false, noCx)).2
def goodCx (ws : List ByteArray) (i : Nat) (x : Cx) : Prop := 0 ≤ x.fr ∧ x.fr ≤ i ∧ x.wd = i ∧ i ≤ x.to ∧ x.to < ws.length ∧ 0 ≤ x.ln + 100000 ∧ x.ln ≤ 100000
theorem innerA_zero (ws : List ByteArray) (W s : Int) (i f to : Nat) (a : Bool × Cx) : innerA ws W s i f 0 to a = a := rfl
theorem innerA_succ (ws : List ByteArray) (W s : Int) (i f n to : Nat) (a : Bool × Cx) : innerA ws W s i f (n + 1) to a = if to < ws.length ∧ span ws f (to + 1) ≤ W then innerA ws W s i f n (to + 1) (stepC s a ⟨f, i, to, span ws f (to + 1)⟩) else a := rfl
theorem stepC_good {ws : List ByteArray} {i : Nat} {s : Int} {a : Bool × Cx} {x : Cx} (ha : a.1 = true → goodCx ws i a.2) (hx : goodCx ws i x) : (stepC s a x).1 = true ∧ goodCx ws i (stepC s a x).2 := by
  unfold stepC
  split
  · exact ⟨rfl, hx⟩
  · rename_i h
    have : a.1 = true := by simp only [Bool.or_eq_true, Bool.not_eq_true', not_or, Bool.not_eq_false] at h; exact h.1
    exact ⟨this, ha this⟩
theorem innerA_good {ws : List ByteArray} {W s : Int} {i f : Nat} (hw : ∀ s ∈ ws, s.size ≤ 40) (hl : ws.length ≤ 1000) (hf : f ≤ i) : ∀ n to a, i ≤ to → to + n ≤ ws.length → (a.1 = true → goodCx ws i a.2) → ((innerA ws W s i f n to a).1 = true → goodCx ws i (innerA ws W s i f n to a).2) ∧ (a.1 = true → (innerA ws W s i f n to a).1 = true) := by
  intro n
  induction n with
  | zero => intro to a _ _ h; exact ⟨h, id⟩
  | succ n ih =>
    intro to a h1 h2 h3
    unfold innerA
    split
    · have b1 := pre_bd ws hw (to + 1)
      have b2 := pre_bd ws hw f
      obtain ⟨g1, g2⟩ := stepC_good (s := s) (x := ⟨f, i, to, span ws f (to + 1)⟩) h3 ⟨by simp, by simp; omega, rfl, by simp; omega, by simp; omega, by simp only [span]; omega, by simp only [span]; omega⟩
      obtain ⟨q1, q2⟩ := ih (to + 1) _ (by omega) (by omega) (fun _ => g2)
      exact ⟨q1, fun _ => q2 g1⟩
    · exact ⟨h3, id⟩
theorem outerA_good {ws : List ByteArray} {W s : Int} {i : Nat} (hw : ∀ s ∈ ws, s.size ≤ 40) (hl : ws.length ≤ 1000) (hi : i < ws.length) : ∀ m a, m ≤ i + 1 → (a.1 = true → goodCx ws i a.2) → ((outerA ws W s i m a).1 = true → goodCx ws i (outerA ws W s i m a).2) ∧ (a.1 = true → (outerA ws W s i m a).1 = true) := by
  intro m
  induction m with
  | zero => intro a _ h; exact ⟨h, id⟩
  | succ m ih =>
    intro a h1 h3
    unfold outerA
    split
    · exact ⟨h3, id⟩
    · obtain ⟨g1, g2⟩ := innerA_good (W := W) (s := s) (f := m) hw hl (by omega) (ws.length - i) i a (Nat.le_refl _) (by omega) h3
      obtain ⟨q1, q2⟩ := ih _ (by omega) g1
      exact ⟨q1, fun h => q2 (g2 h)⟩
theorem bestC_good {ws : List ByteArray} {W s : Int} {i : Nat} (hw : ∀ s ∈ ws, s.size ≤ 40) (hl : ws.length ≤ 1000) (hi : i < ws.length) (hW : (ws[i].size : Int) ≤ W) : goodCx ws i (bestC ws W s i) := by
  have h := outerA_good (W := W) (s := s) hw hl hi (i + 1) (false, noCx) (Nat.le_refl _) (fun h => by cases h)
  refine h.1 ?_
  have hs : span ws i (i + 1) = ws[i].size := by unfold span; rw [pre_succ ws i hi]; omega
  unfold outerA
  rw [if_neg (by omega)]
  obtain ⟨n, hn⟩ : ∃ n, ws.length - i = n + 1 := ⟨ws.length - i - 1, by omega⟩
  have b1 := pre_bd ws hw (i + 1)
  have b2 := pre_bd ws hw i
  have hx : goodCx ws i ⟨i, i, i, span ws i (i + 1)⟩ := ⟨by simp, by simp, rfl, by simp, by simp; omega, by simp only [span]; omega, by simp only [span]; omega⟩
  obtain ⟨g1, g2⟩ := stepC_good (ws := ws) (i := i) (s := s) (a := (false, noCx)) (fun h => by cases h) hx
  have e : innerA ws W s i i (n + 1) i (false, noCx) = innerA ws W s i i n (i + 1) (stepC s (false, noCx) ⟨i, i, i, span ws i (i + 1)⟩) := by
    conv => lhs; unfold innerA
    rw [if_pos ⟨hi, by omega⟩]
  rw [hn, e]
  obtain ⟨q1, q2⟩ := innerA_good (W := W) (s := s) (f := i) hw hl (Nat.le_refl _) n (i + 1) _ (by omega) (by omega) (fun _ => g2)
  exact (outerA_good hw hl hi i _ (by omega) q1).2 (q2 g1)
theorem goodCx.ok {ws : List ByteArray} {i : Nat} {x : Cx} (h : goodCx ws i x) (hl : ws.length ≤ 1000) : okCx x := by
  obtain ⟨h1, h2, h3, h4, h5, h6, h7⟩ := h
  exact ⟨⟨by omega, by omega⟩, ⟨by omega, by omega⟩, ⟨by omega, by omega⟩, by omega, by omega⟩
theorem contexts_ok (c : Cu) (k : Nat) (ls : List (List ByteArray)) (i : Nat) : Gives Tryz.prog 103 [.agg (runC 0 c k ls), i64 i] (fun _ => .fn (.func 107) [.fp [i64 i], .fp (runC 0 c k ls)]) := by
  refine pure_intro (ow := fun _ => false) Tryz.func103 Tryz.ntmps103 rfl (by kernel_rfl) (by simp) rfl (by decide) fun G hG hOw hNm hB => ?_; simp only [go_sem, hG, hOw]
theorem first_ok (c : Cu) (k : Nat) (ls : List (List ByteArray)) (hs : inB c.s 1 3 = true) (hW : 0 ≤ c.w ∧ c.w ≤ 1000) (hw : ∀ s ∈ ls.flatten, s.size ≤ 40) (hl : ls.flatten.length ≤ 1000) (i : Nat) (hi : i < ls.flatten.length) :
    Gives Tryz.prog 102 [.fn (.func 107) [.fp [i64 i], .fp (runC 0 c k ls)], .fn (.func 104) [.fp (runC 0 c k ls)]] (fun _ => .agg (cxC (bestC ls.flatten c.w c.s i))) := by
  obtain ⟨T, hT⟩ : ∃ T, T = outerA ls.flatten c.w c.s i (i + 1) (false, noCx) := ⟨_, rfl⟩
  have e : bestC ls.flatten c.w c.s i = T.2 := by rw [hT]; rfl
  rw [e]
  obtain ⟨ws, hws⟩ : ∃ ws, ws = ls.flatten := ⟨_, rfl⟩
  rw [← hws] at hw hl hi hT
  obtain ⟨D, hD⟩ : ∃ D, D = runC 0 c k ls := ⟨_, rfl⟩
  have hord := fun a b ha hb => slip1_ok c k ls hs a b ha hb
  have hDe : D = [i64 c.w, .v (.int .u8 c.s), strs 0 ws, .lst 0 3 ((atF k 0 ls).map pl3)] := by rw [hD, hws]; rfl
  rw [← hD] at hord ⊢
  obtain ⟨pl, hpl⟩ : ∃ pl, pl = V.lst 0 3 ((atF k 0 ls).map pl3) := ⟨_, rfl⟩
  rw [← hpl] at hDe
  have hp0 : ∃ a b l, pl = .lst a b l := ⟨_, _, _, hpl⟩
  obtain ⟨pa, pb, pl', hpl'⟩ := hp0
  subst hpl'
  subst hDe
  clear hpl hD
  refine pure_introR (ow := fun _ => false) Tryz.func102 Tryz.ntmps102 rfl (by kernel_rfl) (by simp) rfl (by decide) fun G hG hOw hNm hrd hB => ?_; simp only [go_sem, hG, hOw]
  (repeat' with_reducible first | refine And.intro ?_ ?_ | intro _ | refine exP ?_ ?_); all_goals try omega
  refine semC_ent (s' := St.of [(3, .ptr 3 0), (4, .ptr 4 0), (5, .ptr 5 0), (6, .ptr 6 0), (8, .fn (.func 107) [.fp [i64 i], .fp [i64 c.w, .v (.int .u8 c.s), strs 0 ws, .lst pa pb pl']])] [(3, .box [.fn (.func 104) [.fp [i64 c.w, .v (.int .u8 c.s), strs 0 ws, .lst pa pb pl']]]), (4, .box (cxC noCx)), (5, .box (cxC noCx)), (6, .box [bl false])]) (entA [(3, some 3), (4, some 4), (5, some 5), (6, some 6)] (by (simp only [go_sem]) <;> simp [noCx]) (by (simp only [go_sem, entH, entH1, nilArr, obOK]) <;> simp [noCx])) ?_
  refine semC_rangeFuncJ [3, 4, 5, 6] 99 (fun _ => false) hrd rfl Tryz.func107 Tryz.ntmps107 rfl (by kernel_rfl) rfl (by simp) (by rw [hG]; decide) rfl (by rw [hNm]; simp [names]) rfl rfl fun G1 l L k1 k2 k3 k4 k5 hYJ => ?_
  have hY := hYJ.law (fun _ => false)
  have hG0 := hG
  have hNm0 := hNm
  have hOw0 := hOw
  have hG := k1
  have hOw := k2
  have hNm := k3
  simp only [go_sem, hG, hOw]
  (repeat' with_reducible first | refine And.intro ?_ ?_ | intro _ | refine exP ?_ ?_); all_goals try omega
  have ppb := pre_bd ws hw
  have z0 : span ws (i + 1) (i + 1) = -1 := by unfold span; omega
  have hT0 : (T.1 = true → goodCx ws i T.2) := by rw [hT]; exact (outerA_good hw hl hi (i + 1) (false, noCx) (Nat.le_refl _) (fun h => by cases h)).1
  refine semC_loop (fun x : Nat × (Bool × Cx) => St.of [(0, .v (.func (.yield l) #[] #[])), (1, .fp [i64 i]), (2, .fp [i64 c.w, .v (.int .u8 c.s), strs 0 ws, .lst pa pb pl']), (4, i64 (span ws x.1 (i + 1))), (5, i64 ((x.1 : Int) - 1))] [(99, .obj (.loop (Lp L none))), (3, .box [.fn (.func 104) [.fp [i64 c.w, .v (.int .u8 c.s), strs 0 ws, .lst pa pb pl']]]), (4, .box (cxC noCx)), (5, .box (cxC x.2.2)), (6, .box [bl x.2.1])]) (fun x => x.1 ≤ i + 1 ∧ outerA ws c.w c.s i x.1 x.2 = T ∧ (x.2.1 = true → goodCx ws i x.2.2)) (fun x => x.1) (i + 1, (false, noCx)) ⟨Nat.le_refl _, hT.symm, (fun h => by cases h)⟩ (entA [(99, some 99), (3, some 3), (4, some 4), (5, some 5), (6, some 6)] (by (simp only [go_sem]) <;> simp [noCx,z0]) (by (simp only [go_sem, entH, entH1, nilArr, obOK]) <;> simp [noCx,z0])) ?_
  rintro ⟨m, a⟩ ⟨hm, hTa, hga⟩
  simp only at hm hTa hga
  have hb1 := ppb m
  have hb2 := ppb (i + 1)
  refine vc_sound _ _ _ ?_
  cases m with
  | zero =>
    simp only [outerA] at hTa
    subst hTa
    simp only [go_sem, hG, hOw]
    (repeat' with_reducible first | refine And.intro ?_ ?_ | intro _ | refine exP ?_ ?_); all_goals try omega
    refine ⟨none, by simp (config := { maxSteps := 4000000 }) only [go_sem, reduceIte, Nat.reduceEqDiff], ?_⟩
    have hG := hG0
    have hOw := hOw0
    have hNm := hNm0
    simp only [go_sem, hG, hOw]
  | succ f =>
    have hfw : f < ws.length := by omega
    have hps := pre_succ ws f hfw
    have hb3 := ppb f
    have e1 : span ws (f + 1) (i + 1) + ((ws[f].size : Int) + 1) = span ws f (i + 1) := by unfold span; omega
    have hsz := hw _ (List.getElem_mem hfw)
    have hfi : ((f + 1 : Nat) : Int) - 1 = f := by omega
    have hsb : -100000 ≤ span ws (f + 1) (i + 1) ∧ span ws (f + 1) (i + 1) ≤ 100000 := by unfold span; omega
    have hsb2 : -100000 ≤ span ws f (i + 1) ∧ span ws f (i + 1) ≤ 100000 := by unfold span; omega
    unfold outerA at hTa
    simp (maxSteps := 2000000) only [go_sem, hG, hOw, hfi, e1]
    (repeat' with_reducible first | refine And.intro ?_ ?_ | intro _ | refine exP ?_ ?_); all_goals try omega
    · rename_i hlt
      rw [if_pos hlt] at hTa
      subst hTa
      refine ⟨none, by simp (config := { maxSteps := 4000000 }) only [go_sem, reduceIte, Nat.reduceEqDiff], ?_⟩
      have hG := hG0
      have hOw := hOw0
      have hNm := hNm0
      simp only [go_sem, hG, hOw]
    · rename_i hlt
      rw [if_neg hlt] at hTa
      obtain ⟨A, hA⟩ : ∃ A, A = innerA ws c.w c.s i f (ws.length - i) i a := ⟨_, rfl⟩
      rw [← hA] at hTa
      have hgA : A.1 = true → goodCx ws i A.2 := by rw [hA]; exact (innerA_good hw hl (by omega) (ws.length - i) i a (Nat.le_refl _) (by omega) hga).1
      refine semC_cutN (fun _ : Unit => St.of [(0, .v (.func (.yield l) #[] #[])), (1, .fp [i64 i]), (2, .fp [i64 c.w, .v (.int .u8 c.s), strs 0 ws, .lst pa pb pl']), (4, i64 (span ws f (i + 1))), (5, i64 f)] [(99, .obj (.loop (Lp L none))), (3, .box [.fn (.func 104) [.fp [i64 c.w, .v (.int .u8 c.s), strs 0 ws, .lst pa pb pl']]]), (4, .box (cxC noCx)), (5, .box (cxC A.2)), (6, .box [bl A.1])]) (fun _ => True) ?_ ?_
      · refine semC_loop (fun y : Nat × (Bool × Cx) => St.of [(0, .v (.func (.yield l) #[] #[])), (1, .fp [i64 i]), (2, .fp [i64 c.w, .v (.int .u8 c.s), strs 0 ws, .lst pa pb pl']), (4, i64 (span ws f (i + 1))), (5, i64 f), (6, i64 (if y.1 = i then span ws f (i + 1) else span ws f y.1)), (7, i64 y.1)] [(99, .obj (.loop (Lp L none))), (3, .box [.fn (.func 104) [.fp [i64 c.w, .v (.int .u8 c.s), strs 0 ws, .lst pa pb pl']]]), (4, .box (cxC noCx)), (5, .box (cxC y.2.2)), (6, .box [bl y.2.1])]) (fun y => i ≤ y.1 ∧ y.1 ≤ ws.length ∧ innerA ws c.w c.s i f (ws.length - y.1) y.1 y.2 = A ∧ (y.2.1 = true → goodCx ws i y.2.2)) (fun y => ws.length - y.1) (i, a) ⟨Nat.le_refl _, by simp only; omega, hA.symm, hga⟩ (entA [(99, some 99), (3, some 3), (4, some 4), (5, some 5), (6, some 6)]) ?_
        rintro ⟨to, b⟩ ⟨h1, h2, hAb, hgb⟩
        simp only at h1 h2 hAb hgb
        have hb4 := ppb to
        refine vc_sound _ _ _ ?_
        by_cases hti : to = i
        · have hti' := hti.symm
          subst hti'
          simp only [if_true]
          have hle : span ws f (i + 1) ≤ c.w := by omega
          have hto : i < ws.length := hi
          obtain ⟨to, hto2⟩ : ∃ to, to = i := ⟨_, rfl⟩
          simp only [go_sem, hG, hOw]
          (repeat' with_reducible first | refine And.intro ?_ ?_ | intro _ | refine exP ?_ ?_); all_goals try omega
          have hx : goodCx ws i ⟨f, i, i, span ws f (i + 1)⟩ := ⟨by simp, by simp <;> omega, rfl, by simp <;> omega, by simp <;> omega, by simp only [span]; omega, by simp only [span]; omega⟩
          have hst := stepC_good (s := c.s) hgb hx
          obtain ⟨n, hn⟩ : ∃ n, ws.length - i = n + 1 := ⟨ws.length - i - 1, by omega⟩
          rw [hn, innerA_succ, if_pos ⟨hto, hle⟩] at hAb
          have hn2 : ws.length - (i + 1) = n := by omega
          have hne : ¬ (i + 1 = i) := by omega
          refine hY [99, 3, 4, 5, 6] _ _ _ _ _ (by simp (config := { maxSteps := 4000000 }) only [go_sem, reduceIte, Nat.reduceEqDiff]) rfl (by simp [chk, k1]) (by rw [k3]; simp) (by intro id hid; left; rw [k3]; exact hid) fun G2 m1 m2 m3 m4 m5 => ?_
          have hG2 := m1.trans hG0
          simp (maxSteps := 2000000) only [go_sem, hG, hOw, hG2, m2]
          refine vc_sound _ _ _ ?_
          obtain ⟨bb, bx⟩ := b
          cases bb with
          | false =>
            have s0 : stepC c.s (false, bx) ⟨f, i, i, span ws f (i + 1)⟩ = (true, ⟨f, i, i, span ws f (i + 1)⟩) := by simp [stepC]
            rw [s0] at hst hAb
            simp (maxSteps := 2000000) only [go_sem, hG, hOw, hG2, m2]
            (repeat' with_reducible first | refine And.intro ?_ ?_ | intro _ | refine exP ?_ ?_); all_goals try omega
            refine ⟨(i + 1, (true, ⟨f, i, i, span ws f (i + 1)⟩)), ⟨by simp only; omega, by simp only; omega, by simp only; rw [hn2]; exact hAb, fun _ => hst.2⟩, by simp only; omega, ?_⟩
            exact entA [(99, some 99), (3, some 3), (4, some 4), (5, some 5), (6, some 6)] (by (simp only [go_sem]) <;> simp [hne]) (by (simp only [go_sem, entH, entH1, nilArr, obOK]) <;> simp [hne])
          | true =>
            simp (maxSteps := 2000000) only [go_sem, hG, hOw, hG2, m2]
            (repeat' with_reducible first | refine And.intro ?_ ?_ | intro _ | refine exP ?_ ?_); all_goals try omega
            refine call_pure (hord ⟨f, i, i, span ws f (i + 1)⟩ bx (hx.ok hl) ((hgb rfl).ok hl)) (by first | exact Subs.refl _ | (repeat' (first | exact Subs.nil | exact Sub.refl _ | exact Sub.lo (Nat.zero_le _) | refine Subs.cons ?_ ?_ | refine Subs.agg ?_ | refine Subs.fp ?_ | refine Subs.tup ?_ | refine Sub.map (Nat.zero_le _) (fun _ => ?_)))) (by first | rfl | simp [allP, all0, pureV, pure0, *]) (by simp [chk, hG2]) ?_
            simp (maxSteps := 2000000) only [go_sem, hG, hOw, hG2, m2]
            (repeat' with_reducible first | refine And.intro ?_ ?_ | intro _ | refine exP ?_ ?_); all_goals try omega
            · rename_i hord0
              have s0 : stepC c.s (true, bx) ⟨f, i, i, span ws f (i + 1)⟩ = (true, ⟨f, i, i, span ws f (i + 1)⟩) := by simp [stepC, hord0]
              rw [s0] at hst hAb
              refine ⟨(i + 1, (true, ⟨f, i, i, span ws f (i + 1)⟩)), ⟨by simp only; omega, by simp only; omega, by simp only; rw [hn2]; exact hAb, fun _ => hst.2⟩, by simp only; omega, ?_⟩
              exact entA [(99, some 99), (3, some 3), (4, some 4), (5, some 5), (6, some 6)] (by (simp only [go_sem]) <;> simp [hne]) (by (simp only [go_sem, entH, entH1, nilArr, obOK]) <;> simp [hne])
            · rename_i hord0
              have s0 : stepC c.s (true, bx) ⟨f, i, i, span ws f (i + 1)⟩ = (true, bx) := by simp [stepC, hord0]
              rw [s0] at hst hAb
              refine ⟨(i + 1, (true, bx)), ⟨by simp only; omega, by simp only; omega, by simp only; rw [hn2]; exact hAb, fun _ => hst.2⟩, by simp only; omega, ?_⟩
              exact entA [(99, some 99), (3, some 3), (4, some 4), (5, some 5), (6, some 6)] (by (simp only [go_sem]) <;> simp [hne]) (by (simp only [go_sem, entH, entH1, nilArr, obOK]) <;> simp [hne])
        · simp only [if_neg hti]
          have hto' : to < ws.length → span ws f to + (((ws[to]?).getD ByteArray.empty).size + 1 : Int) = span ws f (to + 1) := fun h => by unfold span; rw [pre_succ ws to h, List.getElem?_eq_getElem h, Option.getD_some]; omega
          by_cases hto : to < ws.length
          · have hsz2 := hw _ (List.getElem_mem hto)
            have hb5 := ppb (to + 1)
            have e2 : span ws f to + ((ws[to].size : Int) + 1) = span ws f (to + 1) := by have := hto' hto; rw [List.getElem?_eq_getElem hto, Option.getD_some] at this; exact this
            have hsb3 : -100000 ≤ span ws f to ∧ span ws f to ≤ 100000 := by unfold span; omega
            have hsb4 : -100000 ≤ span ws f (to + 1) ∧ span ws f (to + 1) ≤ 100000 := by unfold span; omega
            simp (maxSteps := 2000000) only [go_sem, hG, hOw, e2]
            (repeat' with_reducible first | refine And.intro ?_ ?_ | intro _ | refine exP ?_ ?_); all_goals try omega
            · rename_i hgt
              obtain ⟨n, hn⟩ : ∃ n, ws.length - to = n + 1 := ⟨ws.length - to - 1, by omega⟩
              rw [hn, innerA_succ, if_neg (by omega)] at hAb
              subst hAb
              exact ⟨(), entA [(99, some 99), (3, some 3), (4, some 4), (5, some 5), (6, some 6)]⟩
            · rename_i hgt
              have hle : span ws f (to + 1) ≤ c.w := by omega
              have hx : goodCx ws i ⟨f, i, to, span ws f (to + 1)⟩ := ⟨by simp, by simp <;> omega, rfl, by simp <;> omega, by simp <;> omega, by simp only [span]; omega, by simp only [span]; omega⟩
              have hst := stepC_good (s := c.s) hgb hx
              obtain ⟨n, hn⟩ : ∃ n, ws.length - to = n + 1 := ⟨ws.length - to - 1, by omega⟩
              rw [hn, innerA_succ, if_pos ⟨hto, hle⟩] at hAb
              have hn2 : ws.length - (to + 1) = n := by omega
              have hne : ¬ (to + 1 = i) := by omega
              refine hY [99, 3, 4, 5, 6] _ _ _ _ _ (by simp (config := { maxSteps := 4000000 }) only [go_sem, reduceIte, Nat.reduceEqDiff]) rfl (by simp [chk, k1]) (by rw [k3]; simp) (by intro id hid; left; rw [k3]; exact hid) fun G2 m1 m2 m3 m4 m5 => ?_
              have hG2 := m1.trans hG0
              simp (maxSteps := 2000000) only [go_sem, hG, hOw, hG2, m2]
              refine vc_sound _ _ _ ?_
              obtain ⟨bb, bx⟩ := b
              cases bb with
              | false =>
                have s0 : stepC c.s (false, bx) ⟨f, i, to, span ws f (to + 1)⟩ = (true, ⟨f, i, to, span ws f (to + 1)⟩) := by simp [stepC]
                rw [s0] at hst hAb
                simp (maxSteps := 2000000) only [go_sem, hG, hOw, hG2, m2]
                (repeat' with_reducible first | refine And.intro ?_ ?_ | intro _ | refine exP ?_ ?_); all_goals try omega
                refine ⟨(to + 1, (true, ⟨f, i, to, span ws f (to + 1)⟩)), ⟨by simp only; omega, by simp only; omega, by simp only; rw [hn2]; exact hAb, fun _ => hst.2⟩, by simp only; omega, ?_⟩
                exact entA [(99, some 99), (3, some 3), (4, some 4), (5, some 5), (6, some 6)] (by (simp only [go_sem]) <;> simp [hne]) (by (simp only [go_sem, entH, entH1, nilArr, obOK]) <;> simp [hne])
              | true =>
                simp (maxSteps := 2000000) only [go_sem, hG, hOw, hG2, m2]
                (repeat' with_reducible first | refine And.intro ?_ ?_ | intro _ | refine exP ?_ ?_); all_goals try omega
                refine call_pure (hord ⟨f, i, to, span ws f (to + 1)⟩ bx (hx.ok hl) ((hgb rfl).ok hl)) (by first | exact Subs.refl _ | (repeat' (first | exact Subs.nil | exact Sub.refl _ | exact Sub.lo (Nat.zero_le _) | refine Subs.cons ?_ ?_ | refine Subs.agg ?_ | refine Subs.fp ?_ | refine Subs.tup ?_ | refine Sub.map (Nat.zero_le _) (fun _ => ?_)))) (by first | rfl | simp [allP, all0, pureV, pure0, *]) (by simp [chk, hG2]) ?_
                simp (maxSteps := 2000000) only [go_sem, hG, hOw, hG2, m2]
                (repeat' with_reducible first | refine And.intro ?_ ?_ | intro _ | refine exP ?_ ?_); all_goals try omega
                · rename_i hord0
                  have s0 : stepC c.s (true, bx) ⟨f, i, to, span ws f (to + 1)⟩ = (true, ⟨f, i, to, span ws f (to + 1)⟩) := by simp [stepC, hord0]
                  rw [s0] at hst hAb
                  refine ⟨(to + 1, (true, ⟨f, i, to, span ws f (to + 1)⟩)), ⟨by simp only; omega, by simp only; omega, by simp only; rw [hn2]; exact hAb, fun _ => hst.2⟩, by simp only; omega, ?_⟩
                  exact entA [(99, some 99), (3, some 3), (4, some 4), (5, some 5), (6, some 6)] (by (simp only [go_sem]) <;> simp [hne]) (by (simp only [go_sem, entH, entH1, nilArr, obOK]) <;> simp [hne])
                · rename_i hord0
                  have s0 : stepC c.s (true, bx) ⟨f, i, to, span ws f (to + 1)⟩ = (true, bx) := by simp [stepC, hord0]
                  rw [s0] at hst hAb
                  refine ⟨(to + 1, (true, bx)), ⟨by simp only; omega, by simp only; omega, by simp only; rw [hn2]; exact hAb, fun _ => hst.2⟩, by simp only; omega, ?_⟩
                  exact entA [(99, some 99), (3, some 3), (4, some 4), (5, some 5), (6, some 6)] (by (simp only [go_sem]) <;> simp [hne]) (by (simp only [go_sem, entH, entH1, nilArr, obOK]) <;> simp [hne])
          · rw [show ws.length - to = 0 by omega, innerA_zero] at hAb
            subst hAb
            simp only [go_sem, hG, hOw]
            (repeat' with_reducible first | refine And.intro ?_ ?_ | intro _ | refine exP ?_ ?_); all_goals try omega
            exact ⟨(), entA [(99, some 99), (3, some 3), (4, some 4), (5, some 5), (6, some 6)]⟩
      · rintro ⟨⟩ -
        simp only [go_sem, hG, hOw]
        (repeat' with_reducible first | refine And.intro ?_ ?_ | intro _ | refine exP ?_ ?_); all_goals try omega
        exact ⟨(f, A), ⟨by simp only; omega, hTa, hgA⟩, by simp only; omega, entA [(99, some 99), (3, some 3), (4, some 4), (5, some 5), (6, some 6)]⟩
open Go Pm Go.RowKit
set_option maxHeartbeats 4000000
set_option maxRecDepth 100000
def joinS (l : List ByteArray) (sep : ByteArray) : ByteArray := ⟨(Lib.join (l.map (·.data.toList)) sep.data.toList).toArray⟩
theorem join_len (sep : ByteArray) (hs : sep.size ≤ 40) : ∀ l : List ByteArray, (∀ s ∈ l, s.size ≤ 40) → (Lib.join (l.map (·.data.toList)) sep.data.toList).length ≤ 80 * l.length := by
  intro l hl
  cases l with
  | nil => simp [Lib.join_nil]
  | cons x r =>
    have h1 : ∀ r : List ByteArray, (∀ s ∈ r, s.size ≤ 40) → Lib.lens (r.map (·.data.toList)) ≤ 40 * r.length := by
      intro r
      induction r with
      | nil => intro _; simp [Lib.lens]
      | cons y r ih =>
        intro h
        have a1 := ih fun s hs => h s (List.mem_cons_of_mem _ hs)
        have a2 := h y (List.mem_cons_self ..)
        simp only [Lib.lens, List.map_cons, List.sum_cons, List.length_cons] at a1 ⊢
        have a3 : y.data.toList.length = y.size := by simp
        omega
    have h2 := h1 r fun s hs => hl s (List.mem_cons_of_mem _ hs)
    have h3 := hl x (List.mem_cons_self ..)
    have h4 : x.data.toList.length = x.size := by simp
    have h5 : sep.data.toList.length = sep.size := by simp
    rw [List.map_cons, Lib.join_cons, List.length_append, Lib.joinTail_length, List.length_map, List.length_cons, h4, h5]
    have h6 : sep.size * r.length ≤ 40 * r.length := Nat.mul_le_mul_right _ hs
    omega
theorem Join_ok (l : List ByteArray) (sep : ByteArray) (hs : sep.size ≤ 40) (hl : l.length ≤ 1000) (hw : ∀ s ∈ l, s.size ≤ 40) :
    Gives Tryz.prog 106 [strs 0 l, .v (.string sep)] (fun _ => .v (.string (joinS l sep))) := by
  refine ⟨⟨_, Tryz.func106, by decide, by kernel_rfl⟩, fun n w O ys _ hO ha => ?_⟩
  obtain ⟨hn, hr⟩ := ha
  obtain ⟨ys⟩ := ys
  match ys, hn with
  | [y0, y1], _ =>
    have h0 := hr 0 _ y0 rfl rfl
    have h1 := hr 1 _ y1 rfl rfl
    cases h1 with
    | v =>
      cases h0 with
      | lst lo sz l' a k cap b o g hlo hk hc hll ha hs' hz hr' =>
        simp only [List.length_map] at hk hc hll
        subst hk
        match l, hl, hw, ha, hs', hr', hc with
        | [], _, _, _, _, _, _ =>
          refine (Tryz.strings_Join_none a cap sep w).mono fun e w' ⟨he, hw'⟩ => ?_
          subst hw'
          exact ⟨_, he, .v _, Below.refl _ _⟩
        | x :: r, hl, hw, ha, hs', hr', hc =>
          obtain ⟨rfl, hnO, hb⟩ := ha (by simp)
          refine (Tryz.strings_Join b o cap (x :: r) sep w (fun j s hj => ?_) hb (by omega) hc ?_).mono fun e w' ⟨he, hw'⟩ => ⟨_, he, .v _, hw'⟩
          · have e1 : ((x :: r).map strE)[j]? = some [.v (.string s)] := by rw [List.getElem?_map, hj]; rfl
            have c1 := (hs' j _ 0 _ e1 rfl).1
            have c2 := hr' j _ 0 _ e1 rfl
            have e2 : g j 0 = .string s := by
              generalize g j 0 = z at c2
              cases c2; rfl
            rw [e2] at c1
            simpa using c1
          · have := join_len sep hs (x :: r) hw
            omega
theorem IndexP_ok (l : List (Nat × Nat × Nat)) (hl : l.length ≤ 1000) (i : Nat) (hi : i < l.length) (hd : ∀ j (h : j < l.length), j < i → l[j] ≠ l[i]) : Gives Tryz.prog 98 [.lst 0 3 (l.map pl3), .agg (pl3 l[i])] (fun _ => i64 i) := by
  refine pure_intro (ow := fun _ => false) Tryz.func98 Tryz.ntmps98 rfl (by kernel_rfl) (by simp) rfl (by decide) fun G hG hOw hNm hB => ?_; simp only [go_sem, hG, hOw]
  obtain ⟨p, hp⟩ : ∃ p, p = l[i] := ⟨_, rfl⟩
  rw [← hp]
  (repeat' with_reducible first | refine And.intro ?_ ?_ | intro _ | refine exP ?_ ?_); all_goals try omega
  refine semC_loop (fun k : Nat => St.of [(0, .lst 0 3 (l.map pl3)), (3, .ptr 3 0), (6, .lst 0 3 (l.map pl3)), (7, i64 l.length), (8, i64 k)] [(3, .box (pl3 p))]) (fun k => k ≤ i) (fun k => l.length - k) 0 (by simp) (entA [(3, some 3)]) ?_
  rintro k hk
  have hkl : k < l.length := by omega
  refine vc_sound _ _ _ ?_
  simp only [go_sem, hG, hOw]
  (repeat' with_reducible first | refine And.intro ?_ ?_ | intro _ | refine exP ?_ ?_); all_goals try omega
  refine semC_draw0 mixed (by kernel_rfl) ?_
  simp only [go_sem, hG, hOw]
  (repeat' with_reducible first | refine And.intro ?_ ?_ | intro _ | refine exP ?_ ?_); all_goals try omega
  · rename_i h
    simp only [Bool.and_eq_true, decide_eq_true_eq] at h
    false_or_by_contra
    rename_i hne
    refine hd k hkl (by omega) ?_
    rw [← hp]
    exact Prod.ext (by omega) (Prod.ext (by omega) (by omega))
  · rename_i h
    refine ⟨k + 1, ?_, by omega, entA [(3, some 3)]⟩
    false_or_by_contra
    obtain rfl : k = i := by omega
    rw [hp] at h
    simp at h
structure Sl where
  p : Nat × Nat × Nat
  word : ByteArray
  bef : ByteArray
  aft : ByteArray
def slC (s : Sl) : List V := [i64 s.p.1, i64 s.p.2.1, i64 s.p.2.2, .v (.string s.word), .v (.string s.bef), .v (.string s.aft)]
def sls (lo : Nat) (l : List Sl) : V := .lst lo 6 (l.map slC)
attribute [go_sem] slC sls
theorem allOnes_slC (l : List Sl) : allOnes (l.map slC) = true := allOnes_map (fun _ => rfl) l
attribute [go_sem] allOnes_slC
def spc : ByteArray := ⟨#[32]⟩
def slOf (c : Cu) (k : Nat) (ls : List (List ByteArray)) (i : Nat) : Sl :=
  let x := bestC ls.flatten c.w c.s i
  ⟨((atF k 0 ls)[i]?).getD (0, 0, 0), (ls.flatten[i]?).getD ByteArray.empty, joinS ((ls.flatten.take i).drop x.fr.toNat) spc, joinS ((ls.flatten.take (x.to.toNat + 1)).drop (i + 1)) spc⟩
theorem slip_ok (c : Cu) (k : Nat) (ls : List (List ByteArray)) (hs : inB c.s 1 3 = true) (hW : 12 ≤ c.w ∧ c.w ≤ 1000) (hw : ∀ s ∈ ls.flatten, s.size ≤ 12) (hl : ls.flatten.length ≤ 900) (i : Nat) (hi : i < ls.flatten.length) :
    Gives Tryz.prog 99 [.agg (runC 0 c k ls), i64 i] (fun _ => .agg (slC (slOf c k ls i))) := by
  have hC := contexts_ok c k ls i
  have hF := first_ok c k ls hs (by omega) (fun s h => by have := hw s h; omega) (by omega) i hi
  have hg := bestC_good (W := c.w) (s := c.s) (i := i) (fun s h => by have := hw s h; omega) (by omega) hi (by have := hw _ (List.getElem_mem hi); omega)
  obtain ⟨x, hx⟩ : ∃ x, x = bestC ls.flatten c.w c.s i := ⟨_, rfl⟩
  have hal : (atF k 0 ls).length = ls.flatten.length := atF_len k ls 0
  have hia : i < (atF k 0 ls).length := by omega
  have eS : slOf c k ls i = ⟨(atF k 0 ls)[i], ls.flatten[i], joinS ((ls.flatten.take i).drop x.fr.toNat) spc, joinS ((ls.flatten.take (x.to.toNat + 1)).drop (i + 1)) spc⟩ := by
    unfold slOf
    rw [← hx, List.getElem?_eq_getElem hia, List.getElem?_eq_getElem hi]; rfl
  rw [eS]
  rw [← hx] at hF hg
  obtain ⟨g1, g2, g3, g4, g5, g6, g7⟩ := hg
  refine pure_intro (ow := fun _ => false) Tryz.func99 Tryz.ntmps99 rfl (by kernel_rfl) (by simp) rfl (by decide) fun G hG hOw hNm hB => ?_; simp only [go_sem, hG, hOw]
  (repeat' with_reducible first | refine And.intro ?_ ?_ | intro _ | refine exP ?_ ?_); all_goals try omega
  refine call_pure hC (by first | exact Subs.refl _ | (repeat' (first | exact Subs.nil | exact Sub.refl _ | exact Sub.lo (Nat.zero_le _) | refine Subs.cons ?_ ?_ | refine Subs.agg ?_ | refine Subs.fp ?_ | refine Subs.tup ?_ | refine Sub.map (Nat.zero_le _) (fun _ => ?_)))) (by first | rfl | simp [allP, all0, pureV, pure0, *]) (by simp [chk, hG]) ?_
  simp only [go_sem, hG, hOw]
  (repeat' with_reducible first | refine And.intro ?_ ?_ | intro _ | refine exP ?_ ?_); all_goals try omega
  refine call_frz (fun i => [2].contains i) ?_
  simp only [go_sem, hG, hOw]
  refine call_pure hF (by first | exact Subs.refl _ | (repeat' (first | exact Subs.nil | exact Sub.refl _ | exact Sub.lo (Nat.zero_le _) | refine Subs.cons ?_ ?_ | refine Subs.agg ?_ | refine Subs.fp ?_ | refine Subs.tup ?_ | refine Sub.map (Nat.zero_le _) (fun _ => ?_)))) (by first | rfl | simp [allP, all0, pureV, pure0, *]) (by simp [chk, hG]) ?_
  simp only [go_sem, hG, hOw]
  (repeat' with_reducible first | refine And.intro ?_ ?_ | intro _ | refine exP ?_ ?_); all_goals try omega
  refine semC_frz (fun i => [2, 5].contains i) ?_
  refine semC_draw0 mixed (by kernel_rfl) ?_
  have t1 : ((i : Int) + 1).toNat = i + 1 := by omega
  have t2 : (x.to + 1).toNat = x.to.toNat + 1 := by omega
  have sub : ∀ a b, ∀ s ∈ (ls.flatten.take a).drop b, s.size ≤ 40 := fun a b s hs => by have := hw s (List.mem_of_mem_take (List.mem_of_mem_drop hs)); omega
  have sub2 : ∀ a b, ((ls.flatten.take a).drop b).length ≤ 1000 := fun a b => by rw [List.length_drop, List.length_take]; omega
  simp (maxSteps := 2000000) only [go_sem, hG, hOw, t1, t2]
  (repeat' with_reducible first | refine And.intro ?_ ?_ | intro _ | refine exP ?_ ?_); all_goals try omega
  refine ⟨_, callGivesA (Join_ok ((ls.flatten.take i).drop x.fr.toNat) spc (by decide) (sub2 _ _) (sub _ _)), ?_⟩
  simp (maxSteps := 2000000) only [go_sem, hG, hOw, t1, t2]
  (repeat' with_reducible first | refine And.intro ?_ ?_ | intro _ | refine exP ?_ ?_); all_goals try omega
  refine ⟨_, callGivesA (Join_ok ((ls.flatten.take (x.to.toNat + 1)).drop (i + 1)) spc (by decide) (sub2 _ _) (sub _ _)), ?_⟩
  simp (maxSteps := 2000000) only [go_sem, hG, hOw, t1, t2]
  (repeat' with_reducible first | refine And.intro ?_ ?_ | intro _ | refine exP ?_ ?_); all_goals try omega
end Go.Proofs.YtagfopbijboajaaGreatDoor
