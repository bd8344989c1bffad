import Derived.Test.YtagfopbijboajaaDoorQX10
import Derived.Test.YtagfopbijboajaaDoorQX19
import Derived.Test.YtagfopbijboajaaDoorQX26
namespace Go.Proofs.YtagfopbijboajaaDoor
open Go Pm
set_option linter.unusedSimpArgs false
set_option linter.unusedVariables false
def gtLine (r : List ByteArray) : Bool := decide (15 < (r.length : Int)) || r.any fun s => decide (40 < (s.size : Int))
def gtChap (c : Ch) : Bool := decide (15 < (c.lines.length : Int)) || c.lines.any gtLine
def greatT (t : List Ch) : Bool := decide (10 < (t.length : Int)) || t.any gtChap
def gtSheet (x : Se) : Bool := decide (40 < (x.lines.length : Int)) || x.lines.any gtLine
def greatR (r : Ro) : Bool := greatT r.text || decide (8 < (r.helpers.length : Int)) || decide (12 < (r.shares.length : Int)) || decide (12 < (r.sheets.length : Int)) || r.sheets.any gtSheet
theorem gtLine_ok {r : List ByteArray} (h : gtLine r = false) : r.length ≤ 15 ∧ ∀ s ∈ r, s.size ≤ 40 := by
  simp only [gtLine, Bool.or_eq_false_iff, decide_eq_false_iff_not, List.any_eq_false, decide_eq_true_eq] at h
  exact ⟨by omega, fun s hs => by have := h.2 s hs; omega⟩
theorem greatT_ok {t : List Ch} (h : greatT t = false) : OKt t := by
  simp only [greatT, gtChap, Bool.or_eq_false_iff, decide_eq_false_iff_not, List.any_eq_false, Bool.or_eq_true, not_or, decide_eq_true_eq, Bool.not_eq_true] at h
  refine ⟨by omega, fun c hc => ?_⟩
  obtain ⟨h1, h2⟩ := h.2 c hc
  have h3 : ∀ r ∈ c.lines, gtLine r = false := by simpa using h2
  exact ⟨by omega, fun r hr => gtLine_ok (h3 r hr)⟩
theorem greatR_ok {r : Ro} (h : greatR r = false) : OKr r := by
  simp only [greatR, gtSheet, Bool.or_eq_false_iff, decide_eq_false_iff_not, List.any_eq_false, Bool.or_eq_true, not_or, decide_eq_true_eq, Bool.not_eq_true] at h
  obtain ⟨⟨⟨⟨h1, h2⟩, h3⟩, h4⟩, h5⟩ := h
  refine ⟨greatT_ok h1, by omega, by omega, by omega, fun x hx => ?_⟩
  obtain ⟨q1, q2⟩ := h5 x hx
  have q3 : ∀ r ∈ x.lines, gtLine r = false := by simpa using q2
  exact ⟨by omega, fun r hr => gtLine_ok (q3 r hr)⟩
open Go Pm Go.RowKit
set_option maxHeartbeats 4000000
set_option maxRecDepth 100000
def joinS (l : List ByteArray) (sep : ByteArray) : ByteArray := ⟨(Lib.join (l.map (·.data.toList)) sep.data.toList).toArray⟩
theorem join_len (sep : ByteArray) (hs : sep.size ≤ 40) : ∀ l : List ByteArray, (∀ s ∈ l, s.size ≤ 40) → (Lib.join (l.map (·.data.toList)) sep.data.toList).length ≤ 80 * l.length := by
  intro l hl
  cases l with
  | nil => simp [Lib.join_nil]
  | cons x r =>
    have h1 : ∀ r : List ByteArray, (∀ s ∈ r, s.size ≤ 40) → Lib.lens (r.map (·.data.toList)) ≤ 40 * r.length := by
      intro r
      induction r with
      | nil => intro _; simp [Lib.lens]
      | cons y r ih =>
        intro h
        have a1 := ih fun s hs => h s (List.mem_cons_of_mem _ hs)
        have a2 := h y (List.mem_cons_self ..)
        simp only [Lib.lens, List.map_cons, List.sum_cons, List.length_cons] at a1 ⊢
        have a3 : y.data.toList.length = y.size := by simp
        omega
    have h2 := h1 r fun s hs => hl s (List.mem_cons_of_mem _ hs)
    have h3 := hl x (List.mem_cons_self ..)
    have h4 : x.data.toList.length = x.size := by simp
    have h5 : sep.data.toList.length = sep.size := by simp
    rw [List.map_cons, Lib.join_cons, List.length_append, Lib.joinTail_length, List.length_map, List.length_cons, h4, h5]
    have h6 : sep.size * r.length ≤ 40 * r.length := Nat.mul_le_mul_right _ hs
    omega
theorem Join_ok (l : List ByteArray) (sep : ByteArray) (hs : sep.size ≤ 40) (hl : l.length ≤ 1000) (hw : ∀ s ∈ l, s.size ≤ 40) :
    Gives Tryd.prog 88 [strs 0 l, .v (.string sep)] (fun _ => .v (.string (joinS l sep))) := by
  refine ⟨⟨_, Tryd.func88, by decide, by kernel_rfl⟩, fun n w O ys _ hO ha => ?_⟩
  obtain ⟨hn, hr⟩ := ha
  obtain ⟨ys⟩ := ys
  match ys, hn with
  | [y0, y1], _ =>
    have h0 := hr 0 _ y0 rfl rfl
    have h1 := hr 1 _ y1 rfl rfl
    cases h1 with
    | v =>
      cases h0 with
      | lst lo sz l' a k cap b o g hlo hk hc hll ha hs' hz hr' =>
        simp only [List.length_map] at hk hc hll
        subst hk
        match l, hl, hw, ha, hs', hr', hc with
        | [], _, _, _, _, _, _ =>
          refine (Tryd.strings_Join_none a cap sep w).mono fun e w' ⟨he, hw'⟩ => ?_
          subst hw'
          exact ⟨_, he, .v _, Below.refl _ _⟩
        | x :: r, hl, hw, ha, hs', hr', hc =>
          obtain ⟨rfl, hnO, hb⟩ := ha (by simp)
          refine (Tryd.strings_Join b o cap (x :: r) sep w (fun j s hj => ?_) hb (by omega) hc ?_).mono fun e w' ⟨he, hw'⟩ => ⟨_, he, .v _, hw'⟩
          · have e1 : ((x :: r).map strE)[j]? = some [.v (.string s)] := by rw [List.getElem?_map, hj]; rfl
            have c1 := (hs' j _ 0 _ e1 rfl).1
            have c2 := hr' j _ 0 _ e1 rfl
            have e2 : g j 0 = .string s := by
              generalize g j 0 = z at c2
              cases c2; rfl
            rw [e2] at c1
            simpa using c1
          · have := join_len sep hs (x :: r) hw
            omega
theorem IndexP_ok (l : List (Nat × Nat × Nat)) (hl : l.length ≤ 1000) (i : Nat) (hi : i < l.length) (hd : ∀ j (h : j < l.length), j < i → l[j] ≠ l[i]) : Gives Tryd.prog 77 [.lst 0 3 (l.map pl3), .agg (pl3 l[i])] (fun _ => i64 i) := by
  refine pure_intro (ow := fun _ => false) Tryd.func77 Tryd.ntmps77 rfl (by kernel_rfl) (by simp) rfl (by decide) fun G hG hOw hNm hB => ?_; simp only [go_sem, hG, hOw]
  obtain ⟨p, hp⟩ : ∃ p, p = l[i] := ⟨_, rfl⟩
  rw [← hp]
  (repeat' with_reducible first | refine And.intro ?_ ?_ | intro _ | refine exP ?_ ?_); all_goals try omega
  refine semC_loop (fun k : Nat => St.of [(0, .lst 0 3 (l.map pl3)), (3, .ptr 3 0), (6, .lst 0 3 (l.map pl3)), (7, i64 l.length), (8, i64 k)] [(3, .box (pl3 p))]) (fun k => k ≤ i) (fun k => l.length - k) 0 (by simp) (entA [(3, some 3)]) ?_
  rintro k hk
  have hkl : k < l.length := by omega
  refine vc_sound _ _ _ ?_
  simp only [go_sem, hG, hOw]
  (repeat' with_reducible first | refine And.intro ?_ ?_ | intro _ | refine exP ?_ ?_); all_goals try omega
  refine semC_draw0 mixed (by kernel_rfl) ?_
  simp only [go_sem, hG, hOw]
  (repeat' with_reducible first | refine And.intro ?_ ?_ | intro _ | refine exP ?_ ?_); all_goals try omega
  · rename_i h
    simp only [Bool.and_eq_true, decide_eq_true_eq] at h
    false_or_by_contra
    rename_i hne
    refine hd k hkl (by omega) ?_
    rw [← hp]
    exact Prod.ext (by omega) (Prod.ext (by omega) (by omega))
  · rename_i h
    refine ⟨k + 1, ?_, by omega, entA [(3, some 3)]⟩
    false_or_by_contra
    obtain rfl : k = i := by omega
    rw [hp] at h
    simp at h
structure Sl where
  p : Nat × Nat × Nat
  word : ByteArray
  bef : ByteArray
  aft : ByteArray
def slC (s : Sl) : List V := [i64 s.p.1, i64 s.p.2.1, i64 s.p.2.2, .v (.string s.word), .v (.string s.bef), .v (.string s.aft)]
def sls (lo : Nat) (l : List Sl) : V := .lst lo 6 (l.map slC)
attribute [go_sem] slC sls
theorem allOnes_slC (l : List Sl) : allOnes (l.map slC) = true := allOnes_map (fun _ => rfl) l
attribute [go_sem] allOnes_slC
def spc : ByteArray := ⟨#[32]⟩
def slOf (c : Cu) (k : Nat) (ls : List (List ByteArray)) (i : Nat) : Sl :=
  let x := bestC ls.flatten c.w c.s i
  ⟨((atF k 0 ls)[i]?).getD (0, 0, 0), (ls.flatten[i]?).getD ByteArray.empty, joinS ((ls.flatten.take i).drop x.fr.toNat) spc, joinS ((ls.flatten.take (x.to.toNat + 1)).drop (i + 1)) spc⟩
theorem slip_ok (c : Cu) (k : Nat) (ls : List (List ByteArray)) (hs : inB c.s 1 3 = true) (hW : 12 ≤ c.w ∧ c.w ≤ 1000) (hw : ∀ s ∈ ls.flatten, s.size ≤ 12) (hl : ls.flatten.length ≤ 900) (i : Nat) (hi : i < ls.flatten.length) :
    Gives Tryd.prog 78 [.agg (runC 0 c k ls), i64 i] (fun _ => .agg (slC (slOf c k ls i))) := by
  have hC := contexts_ok c k ls i
  have hF := first_ok c k ls hs (by omega) (fun s h => by have := hw s h; omega) (by omega) i hi
  have hg := bestC_good (W := c.w) (s := c.s) (i := i) (fun s h => by have := hw s h; omega) (by omega) hi (by have := hw _ (List.getElem_mem hi); omega)
  obtain ⟨x, hx⟩ : ∃ x, x = bestC ls.flatten c.w c.s i := ⟨_, rfl⟩
  have hal : (atF k 0 ls).length = ls.flatten.length := atF_len k ls 0
  have hia : i < (atF k 0 ls).length := by omega
  have eS : slOf c k ls i = ⟨(atF k 0 ls)[i], ls.flatten[i], joinS ((ls.flatten.take i).drop x.fr.toNat) spc, joinS ((ls.flatten.take (x.to.toNat + 1)).drop (i + 1)) spc⟩ := by
    unfold slOf
    rw [← hx, List.getElem?_eq_getElem hia, List.getElem?_eq_getElem hi]; rfl
  rw [eS]
  rw [← hx] at hF hg
  obtain ⟨g1, g2, g3, g4, g5, g6, g7⟩ := hg
  refine pure_intro (ow := fun _ => false) Tryd.func78 Tryd.ntmps78 rfl (by kernel_rfl) (by simp) rfl (by decide) fun G hG hOw hNm hB => ?_; simp only [go_sem, hG, hOw]
  (repeat' with_reducible first | refine And.intro ?_ ?_ | intro _ | refine exP ?_ ?_); all_goals try omega
  refine call_pure hC (by first | exact Subs.refl _ | (repeat' (first | exact Subs.nil | exact Sub.refl _ | exact Sub.lo (Nat.zero_le _) | refine Subs.cons ?_ ?_ | refine Subs.agg ?_ | refine Subs.fp ?_ | refine Subs.tup ?_ | refine Sub.map (Nat.zero_le _) (fun _ => ?_)))) (by first | rfl | simp [allP, all0, pureV, pure0, *]) (by simp [chk, hG]) ?_
  simp only [go_sem, hG, hOw]
  (repeat' with_reducible first | refine And.intro ?_ ?_ | intro _ | refine exP ?_ ?_); all_goals try omega
  refine call_frz (fun i => [2].contains i) ?_
  simp only [go_sem, hG, hOw]
  refine call_pure hF (by first | exact Subs.refl _ | (repeat' (first | exact Subs.nil | exact Sub.refl _ | exact Sub.lo (Nat.zero_le _) | refine Subs.cons ?_ ?_ | refine Subs.agg ?_ | refine Subs.fp ?_ | refine Subs.tup ?_ | refine Sub.map (Nat.zero_le _) (fun _ => ?_)))) (by first | rfl | simp [allP, all0, pureV, pure0, *]) (by simp [chk, hG]) ?_
  simp only [go_sem, hG, hOw]
  (repeat' with_reducible first | refine And.intro ?_ ?_ | intro _ | refine exP ?_ ?_); all_goals try omega
  refine semC_frz (fun i => [2, 5].contains i) ?_
  refine semC_draw0 mixed (by kernel_rfl) ?_
  have t1 : ((i : Int) + 1).toNat = i + 1 := by omega
  have t2 : (x.to + 1).toNat = x.to.toNat + 1 := by omega
  have sub : ∀ a b, ∀ s ∈ (ls.flatten.take a).drop b, s.size ≤ 40 := fun a b s hs => by have := hw s (List.mem_of_mem_take (List.mem_of_mem_drop hs)); omega
  have sub2 : ∀ a b, ((ls.flatten.take a).drop b).length ≤ 1000 := fun a b => by rw [List.length_drop, List.length_take]; omega
  simp (maxSteps := 2000000) only [go_sem, hG, hOw, t1, t2]
  (repeat' with_reducible first | refine And.intro ?_ ?_ | intro _ | refine exP ?_ ?_); all_goals try omega
  refine ⟨_, callGivesA (Join_ok ((ls.flatten.take i).drop x.fr.toNat) spc (by decide) (sub2 _ _) (sub _ _)), ?_⟩
  simp (maxSteps := 2000000) only [go_sem, hG, hOw, t1, t2]
  (repeat' with_reducible first | refine And.intro ?_ ?_ | intro _ | refine exP ?_ ?_); all_goals try omega
  refine ⟨_, callGivesA (Join_ok ((ls.flatten.take (x.to.toNat + 1)).drop (i + 1)) spc (by decide) (sub2 _ _) (sub _ _)), ?_⟩
  simp (maxSteps := 2000000) only [go_sem, hG, hOw, t1, t2]
  (repeat' with_reducible first | refine And.intro ?_ ?_ | intro _ | refine exP ?_ ?_); all_goals try omega
end Go.Proofs.YtagfopbijboajaaDoor
