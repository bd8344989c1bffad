import Derived.Test.YtagfopbijboajaaGreatDoorQY14
import Derived.Test.YtagfopbijboajaaGreatDoorQY23
import Derived.Test.YtagfopbijboajaaGreatDoorQY29
import Derived.Test.YtagfopbijboajaaGreatDoorQY30
namespace Go.Proofs.YtagfopbijboajaaGreatDoor
open Go Pm
set_option linter.unusedSimpArgs false
set_option linter.unusedVariables false
set_option maxHeartbeats 4000000
set_option maxRecDepth 100000
def comps : Nat → List (List Int)
  | 0 => [[]]
  | m + 1 => (comps m).map (0 :: ·) ++ (comps m).map (1 :: ·)
def bstep (c : List Int → Int) (v : List Int → Bool) (a : List Int × Int) (y : List Int) : List Int × Int := if (v y && (decide (a.2 < 0) || decide (c y < a.2))) = true then (y, c y) else a
def bfold (c : List Int → Int) (v : List Int → Bool) (a : List Int × Int) (l : List Int) (m : Nat) : List Int × Int := ((comps m).map (l ++ ·)).foldl (bstep c v) a
theorem bfold_zero (c : List Int → Int) (v : List Int → Bool) (a : List Int × Int) (l : List Int) : bfold c v a l 0 = bstep c v a l := by simp [bfold, comps]
def bpart (c : List Int → Int) (v : List Int → Bool) (a : List Int × Int) (l : List Int) (m : Nat) : Nat → List Int × Int
  | 0 => a
  | k + 1 => bfold c v (bpart c v a l m k) (l ++ [(k : Int)]) m
theorem bfold_succ (c : List Int → Int) (v : List Int → Bool) (a : List Int × Int) (l : List Int) (m : Nat) : bfold c v a l (m + 1) = bpart c v a l m 2 := by
  simp only [bpart, bfold, comps, List.map_append, List.foldl_append, List.map_map]
  congr 1
  · congr 1
    apply List.map_congr_left
    intro x _; simp
  · apply List.map_congr_left
    intro x _; simp
theorem map_all0 : ∀ {cap : List V}, all0 cap = true → ∀ (f : V → V), (∀ x, f (.v x) = .v x) → (∀ a b c, f (.lst a b c) = .lst a b c) → (∀ c, f (.fp c) = .fp c) → f .any = .any → cap.map f = cap
  | [], _, _, _, _, _, _ => rfl
  | x :: r, h, f, h1, h2, h3, h4 => by
    simp only [all0, Bool.and_eq_true] at h
    rw [List.map_cons, map_all0 h.2 f h1 h2 h3 h4]
    congr 1
    have := h.1
    cases x <;> first | exact h1 _ | exact h2 _ _ _ | exact h3 _ | exact h4 | (simp [pure0] at this; done)
theorem Clone_new (l : List Int) (hl : l.length ≤ 1000) : Tri Tryz.prog 86 [ints 0 l] [] (fun _ => .ret (.own 0 0 l.length 1) [(0, .arr 3 1 (l.map intE))]) := by
  refine tri_intro (fun i => [5].contains i) Tryz.func86 Tryz.ntmps86 rfl (by kernel_rfl) (by simp) rfl (by decide) fun G hG hOw hNm => ?_; simp only [go_sem, hG, hOw]
  (repeat' with_reducible first | refine And.intro ?_ ?_ | intro _ | refine exP ?_ ?_); all_goals try omega
  · rename_i b h1 h2
    rw [show l = [] by simpa using h1 h2]
    exact ⟨[(0, none)], by (simp only [EndT, go_sem, entH, entH1, nilArr, obOK, apart, injR, coverR]) <;> simp⟩
  · exact ⟨[(0, some 7)], by (simp only [EndT, go_sem, entH, entH1, nilArr, obOK, apart, injR, coverR]) <;> simp⟩
theorem yield_best (n : Nat) (fk : FuncId) (cap : List V) (hcap : all0 cap = true) (hcapP : allP cap = true) (c : List Int → Int) (v : List Int → Bool) (hc : ∀ y, y.length = n → (∀ a ∈ y, a = 0 ∨ a = 1) → Gives Tryz.prog fk (ints 0 y :: cap) (fun _ => .tup [i64 (c y), bl (v y)]))
    (l : List Int) (hl : l.length = n) (h01 : ∀ a ∈ l, a = 0 ∨ a = 1) (x : List Int) (least : Int) (lr : Nat) (L : Loop) (asg : Code) : 
    TriY Tryz.prog 85 [ints 0 l, .fp [i64 n], .ptr 3 0, .fp [i64 2], .ptr 4 0]
      [(99, .obj (.loop (Lp L none))), (3, .box [.v (.func (.yield lr) #[] #[])]), (4, .box [.fn (.func 85) [.fp [i64 n], .ptr 3 0, .fp [i64 2], .ptr 4 0]]), (53, .box [.fn (.func fk) cap]), (55, .box [ints 0 x]), (56, .box [i64 least])]
      (fun _ => .ret (bl true) [(99, .obj (.loop (Lp L none))), (3, .box [.v (.func (.yield lr) #[] #[])]), (4, .box [.fn (.func 85) [.fp [i64 n], .ptr 3 0, .fp [i64 2], .ptr 4 0]]), (53, .box [.fn (.func fk) cap]), (55, .box [ints 0 (bstep c v (x, least) l).1]), (56, .box [i64 (bstep c v (x, least) l).2])])
      lr 99 L [(3, .ptr 53 0), (5, .ptr 55 0), (6, .ptr 56 0), (10, .fn (.func 84) [.fp [i64 n], .fp [i64 2]])] [11] [(7, 11)] asg (rfOf Tryz.f54.body) 31 := by
  refine triY_intro (fun i => [24].contains i) Tryz.func85 Tryz.ntmps85 rfl (by kernel_rfl) (by simp) rfl (by decide) fun G hG hOw hNm hrd hY => ?_
  simp only [go_sem, hG, hOw]
  (repeat' with_reducible first | refine And.intro ?_ ?_ | intro _ | refine exP ?_ ?_); all_goals try omega
  · have hG0 := hG
    have hOw0 := hOw
    have hNm0 := hNm
    refine hY.law (fun _ => false) [99, 3, 4, 53, 55, 56] _ _ _ _ _ (by simp [go_sem]) rfl (by simp [chk, hG]) (by rw [hNm]; simp [names]) (by intro id hid; left; rw [hNm]; simpa [names] using hid) fun G2 m1 m2 m3 m4 m5 => ?_
    have hG := m1
    have hOw := m2
    have hNm := m3
    unfold Tryz.f54
    simp only [rfOf, rfO, orElse, Option.bind_some, Option.getD_some, reduceIte, Nat.reduceEqDiff, reduceCtorEq]
    refine vc_sound _ _ _ ?_
    simp only [go_sem, hG, hOw]
    (repeat' with_reducible first | refine And.intro ?_ ?_ | intro _ | refine exP ?_ ?_); all_goals try omega
    refine call_pureA (hc l hl h01) ?_
    have e : bstep c v (x, least) l = if (v l && (decide (least < 0) || decide (c l < least))) = true then (l, c l) else (x, least) := rfl
    simp (maxSteps := 2000000) only [go_sem, hG, hOw, hG0]
    (repeat' with_reducible first | refine And.intro ?_ ?_ | intro _ | refine exP ?_ ?_); all_goals try omega
    · rename_i q1 q2 q3
      rw [e, if_pos (by simp [q1, q3])]
      exact ⟨[(99, some 99), (3, some 3), (4, some 4), (53, some 53), (55, some 55), (56, some 56)], by (simp only [EndT, go_sem, entH, entH1, nilArr, obOK, apart, injR, coverR]) <;> simp [hcap]⟩
    · rename_i q1 q2 q3
      rw [e, if_neg (by simp [q2, q3])]
      exact ⟨[(99, some 99), (3, some 3), (4, some 4), (53, some 53), (55, some 55), (56, some 56)], by (simp only [EndT, go_sem, entH, entH1, nilArr, obOK, apart, injR, coverR]) <;> simp [hcap]⟩
    · rename_i q1 q2
      rw [e, if_pos (by simp [q1, q2])]
      exact ⟨[(99, some 99), (3, some 3), (4, some 4), (53, some 53), (55, some 55), (56, some 56)], by (simp only [EndT, go_sem, entH, entH1, nilArr, obOK, apart, injR, coverR]) <;> simp [hcap]⟩
    · rename_i q1
      rw [e, if_neg (by simp [q1])]
      exact ⟨[(99, some 99), (3, some 3), (4, some 4), (53, some 53), (55, some 55), (56, some 56)], by (simp only [EndT, go_sem, entH, entH1, nilArr, obOK, apart, injR, coverR]) <;> simp [hcap]⟩
theorem more_ok (n : Nat) (hn : n ≤ 12) (fk : FuncId) (cap : List V) (hcap : all0 cap = true) (hcapP : allP cap = true) (c : List Int → Int) (v : List Int → Bool) (hc : ∀ y, y.length = n → (∀ a ∈ y, a = 0 ∨ a = 1) → Gives Tryz.prog fk (ints 0 y :: cap) (fun _ => .tup [i64 (c y), bl (v y)]))
    (lr : Nat) (L : Loop) (asg : Code) : ∀ (m : Nat) (l : List Int) (hl : l.length + m = n) (h01 : ∀ a ∈ l, a = 0 ∨ a = 1) (a : List Int × Int),
    TriY Tryz.prog 85 [ints 0 l, .fp [i64 n], .ptr 3 0, .fp [i64 2], .ptr 4 0]
      [(99, .obj (.loop (Lp L none))), (3, .box [.v (.func (.yield lr) #[] #[])]), (4, .box [.fn (.func 85) [.fp [i64 n], .ptr 3 0, .fp [i64 2], .ptr 4 0]]), (53, .box [.fn (.func fk) cap]), (55, .box [ints 0 a.1]), (56, .box [i64 a.2])]
      (fun _ => .ret (bl true) [(99, .obj (.loop (Lp L none))), (3, .box [.v (.func (.yield lr) #[] #[])]), (4, .box [.fn (.func 85) [.fp [i64 n], .ptr 3 0, .fp [i64 2], .ptr 4 0]]), (53, .box [.fn (.func fk) cap]), (55, .box [ints 0 (bfold c v a l m).1]), (56, .box [i64 (bfold c v a l m).2])])
      lr 99 L [(3, .ptr 53 0), (5, .ptr 55 0), (6, .ptr 56 0), (10, .fn (.func 84) [.fp [i64 n], .fp [i64 2]])] [11] [(7, 11)] asg (rfOf Tryz.f54.body) 31 := by
  intro m
  induction m with
  | zero =>
    intro l hl h01 a
    rw [bfold_zero]
    exact yield_best n fk cap hcap hcapP c v hc l (by omega) h01 a.1 a.2 lr L asg
  | succ m ih =>
    intro l hl h01 a
    rw [bfold_succ]
    refine triY_intro (fun i => [24].contains i) Tryz.func85 Tryz.ntmps85 rfl (by kernel_rfl) (by simp) rfl (by decide) fun G hG hOw hNm hrd hY => ?_
    simp only [go_sem, hG, hOw]
    (repeat' with_reducible first | refine And.intro ?_ ?_ | intro _ | refine exP ?_ ?_); all_goals try omega
    refine semC_loop (fun k : Nat => St.of [(0, ints 0 l), (1, .fp [i64 n]), (2, .ptr 3 0), (3, .fp [i64 2]), (4, .ptr 4 0), (6, bl false), (15, i64 2), (16, i64 k)] [(99, .obj (.loop (Lp L none))), (3, .box [.v (.func (.yield lr) #[] #[])]), (4, .box [.fn (.func 85) [.fp [i64 n], .ptr 3 0, .fp [i64 2], .ptr 4 0]]), (53, .box [.fn (.func fk) cap]), (55, .box [ints 0 (bpart c v a l m k).1]), (56, .box [i64 (bpart c v a l m k).2])]) (fun k => k ≤ 2) (fun k => 2 - k) 0 (by simp) (entA [(99, some 99), (3, some 3), (4, some 4), (53, some 53), (55, some 55), (56, some 56)] (by (simp only [go_sem]) <;> simp [hcap,bpart]) (by (simp only [go_sem, entH, entH1, nilArr, obOK]) <;> simp [hcap,bpart])) ?_
    rintro k hk
    refine vc_sound _ _ _ ?_; simp only [go_sem, hG, hOw]
    (repeat' with_reducible first | refine And.intro ?_ ?_ | intro _ | refine exP ?_ ?_); all_goals try omega
    · rename_i hlt
      have hk2 : k = 0 ∨ k = 1 := by omega
      refine semC_draw ⟨[21, 23, 24], [(21, [21])], [21]⟩ [(0, false), (1, false), (2, false), (3, false), (4, false), (5, false), (6, true), (7, false)] mixed (by kernel_rfl) ?_
      simp only [pickO, List.getElem?_cons_zero, List.getElem?_cons_succ]
      simp only [go_sem, hG, hOw]
      (repeat' with_reducible first | refine And.intro ?_ ?_ | intro _ | refine exP ?_ ?_); all_goals try omega
      refine ⟨_, callNew [(0, 21)] (Clone_new l (by omega)) (by (simp only [go_sem]) <;> simp) rfl (by simp [tgt, nmHas]) (by simp [upT, dropsR, outsR, keepR, usH, lkR, toR, nmHas]) (by simp [newN, usH, tgt, go_sem]) (by simp [hasAll, keepR, usH, lkR, toR]) (by simp [uniqN, usH]), ?_⟩
      simp only [go_sem, hG, hOw]
      (repeat' with_reducible first | refine And.intro ?_ ?_ | intro _ | refine exP ?_ ?_); all_goals try omega
      have hI := ih (l ++ [(k : Int)]) (by simp; omega) (by
        intro x hx
        rcases List.mem_append.1 hx with h | h
        · exact h01 x h
        · simp at h; omega) (bpart c v a l m k)
      have hS : Sub (.lst G.lo 1 (l.map intE ++ [[.v (.int .i64 (k : Int))]])) (.lst 0 1 (l.map intE ++ [intE (k : Int)])) := Sub.lo (Nat.zero_le _)
      refine call_triY [(99, 99), (3, 3), (4, 4), (53, 53), (55, 55), (56, 56)] [] (hI) hY (by (simp only [go_sem]) <;> simp [hcap, hS]) (by (simp only [go_sem, entH, entH1, nilArr, obOK]) <;> simp [hcap, hS]) (by simp [injR, apart, toR]) (by simp [coverR, usH, toR]) (by rw [hNm]; simp [lkR, toR, names]) (by simp [uniqP, lkR, toR]) (by simp [chk, hG]) ?_
      have hr := map_all0 hcap
      simp (maxSteps := 2000000) only [go_sem, hG, hOw, hr]
      (repeat' with_reducible first | refine And.intro ?_ ?_ | intro _ | refine exP ?_ ?_); all_goals try omega
      refine ⟨k + 1, by omega, by omega, ?_⟩
      exact entA [(99, some 99), (3, some 3), (4, some 4), (53, some 53), (55, some 55), (56, some 56)] (by (simp only [go_sem]) <;> simp [hcap,bpart,hr]) (by (simp only [go_sem, entH, entH1, nilArr, obOK]) <;> simp [hcap,bpart,hr])
    · rename_i hge
      obtain rfl : k = 2 := by omega
      exact ⟨[(99, some 99), (3, some 3), (4, some 4), (53, some 53), (55, some 55), (56, some 56)], by (simp only [EndT, go_sem, entH, entH1, nilArr, obOK, apart, injR, coverR]) <;> simp [hcap]⟩
set_option maxHeartbeats 4000000
set_option maxRecDepth 100000
theorem lists_ok (n : Nat) : Gives Tryz.prog 55 [i64 n, i64 2] (fun _ => .fn (.func 84) [.fp [i64 n], .fp [i64 2]]) := by
  refine pure_intro (ow := fun _ => false) Tryz.func55 Tryz.ntmps55 rfl (by kernel_rfl) (by simp) rfl (by decide) fun G hG hOw hNm hB => ?_; simp only [go_sem, hG, hOw]
theorem best_ok (n : Nat) (hn : n ≤ 12) (fk : FuncId) (cap : List V) (hcap : all0 cap = true) (hcapP : allP cap = true) (c : List Int → Int) (v : List Int → Bool) (hc : ∀ y, y.length = n → (∀ a ∈ y, a = 0 ∨ a = 1) → Gives Tryz.prog fk (ints 0 y :: cap) (fun _ => .tup [i64 (c y), bl (v y)])) :
    Gives Tryz.prog 54 [.fn (.func 84) [.fp [i64 n], .fp [i64 2]], .fn (.func fk) cap] (fun _ => ints 0 (bfold c v ([], -1) [] n).1) := by
  refine pure_introR (ow := fun _ => false) Tryz.func54 Tryz.ntmps54 rfl (by kernel_rfl) (by simp) rfl (by decide) fun G hG hOw hNm hrd hB => ?_; simp only [go_sem, hG, hOw]
  (repeat' with_reducible first | refine And.intro ?_ ?_ | intro _ | refine exP ?_ ?_); all_goals try omega
  have hS0 : Sub (.v (.slice none 0 0)) (.lst 0 1 []) := .nil _ _
  refine semC_ent (s' := St.of [(3, .ptr 53 0), (5, .ptr 55 0), (6, .ptr 56 0), (10, .fn (.func 84) [.fp [i64 n], .fp [i64 2]])] [(53, .box [.fn (.func fk) cap]), (55, .box [ints 0 []]), (56, .box [i64 (-1)])]) (entA [(53, some 3), (55, some 5), (56, some 6)] (by (simp only [go_sem]) <;> simp [hcap,hS0]) (by (simp only [go_sem, entH, entH1, nilArr, obOK]) <;> simp [hcap,hS0])) ?_
  refine semC_rangeFuncI [(7, 11)] [53, 55, 56] 99 (fun _ => false) hrd rfl Tryz.func84 Tryz.ntmps84 rfl (by kernel_rfl) rfl (by simp) (by rw [hG]; decide) rfl (by rw [hNm]; simp [names]) (by simp [nmOK]) rfl rfl (by rw [hG]; decide) fun G1 l L k1 k2 k3 k4 k5 hY => ?_
  have hG0 := hG
  have hNm0 := hNm
  have hOw0 := hOw
  have hG := k1
  have hOw := k2
  have hNm := k3
  rw [hG0] at hY
  have hYc := hY.code (body' := rfOf Tryz.f54.body) (by kernel_rfl)
  simp only [go_sem, hG, hOw]
  (repeat' with_reducible first | refine And.intro ?_ ?_ | intro _ | refine exP ?_ ?_); all_goals try omega
  have hM := fun asg => more_ok n hn fk cap hcap hcapP c v hc l L asg n [] (by simp) (by simp) ([], -1)
  refine call_triY [(99, 99), (3, 3), (4, 4), (53, 53), (55, 55), (56, 56)] [] (hM _) hYc (by (simp only [go_sem]) <;> simp [hcap, hS0]) (by (simp only [go_sem, entH, entH1, nilArr, obOK]) <;> simp [hcap, hS0]) (by simp [injR, apart, toR]) (by simp [coverR, usH, toR]) (by rw [hNm]; simp [lkR, toR, names]) (by simp [uniqP, lkR, toR]) (by simp [chk, hG]) ?_
  have hr := map_all0 hcap
  simp (maxSteps := 2000000) only [go_sem, hG, hOw, hr]
  (repeat' with_reducible first | refine And.intro ?_ ?_ | intro _ | refine exP ?_ ?_); all_goals try omega
  refine ⟨none, by simp [go_sem], ?_⟩
  simp (maxSteps := 2000000) only [go_sem, hG, hOw, hG0]
  (repeat' with_reducible first | refine And.intro ?_ ?_ | intro _ | refine exP ?_ ?_); all_goals try omega
  trace_state
  all_goals exact .refl _
set_option maxHeartbeats 4000000
set_option maxRecDepth 100000
def getI (l : List Int) (i : Nat) : Int := l.getD i 0
theorem getI_at {l : List Int} {i : Nat} (h : i < l.length) : getI l i = l[i] := by simp [getI, h]
theorem out1_ok (out : List Int) (i : Nat) (hi : i < out.length) : Gives Tryz.prog 65 [i64 i, .fp [ints 0 out]] (fun _ => bl (decide (getI out i = 1))) := by
  refine pure_intro (ow := fun _ => false) Tryz.func65 Tryz.ntmps65 rfl (by kernel_rfl) (by simp) rfl (by decide) fun G hG hOw hNm hB => ?_; simp only [go_sem, hG, hOw]
  rw [getI_at hi]
  (repeat' with_reducible first | refine And.intro ?_ ?_ | intro _ | refine exP ?_ ?_); all_goals try omega
  all_goals rfl
def ofP (out : List Int) (p : Int × Int) : Int × Int := (getI out p.1.toNat, getI out p.2.toNat)
def pofL (out : List Int) (ps : List (Int × Int)) (k : Nat) : List (Int × Int) := (ps.take k).map (ofP out)
theorem pofL_zero (out : List Int) (ps : List (Int × Int)) : pofL out ps 0 = [] := rfl
theorem pofL_succ (out : List Int) (ps : List (Int × Int)) {k : Nat} (h : k < ps.length) : pofL out ps (k + 1) = pofL out ps k ++ [ofP out ps[k]] := by
  unfold pofL
  rw [List.take_add_one, List.getElem?_eq_getElem h, List.map_append]; rfl
theorem pofL_len (out : List Int) (ps : List (Int × Int)) {k : Nat} (h : k ≤ ps.length) : (pofL out ps k).length = k := by
  unfold pofL
  rw [List.length_map, List.length_take]; omega
theorem pofL_all (out : List Int) (ps : List (Int × Int)) : pofL out ps ps.length = ps.map (ofP out) := by unfold pofL; rw [List.take_length]
attribute [go_sem] pofL_zero
theorem pairsOf_ok (ps : List (Int × Int)) (out : List Int) (hl : ps.length ≤ 100) (hp : ∀ p ∈ ps, (0 ≤ p.1 ∧ p.1 < out.length) ∧ 0 ≤ p.2 ∧ p.2 < out.length) : Gives Tryz.prog 67 [prs 0 ps, ints 0 out] (fun n => prs n (ps.map (ofP out))) := by
  refine pure_intro (ow := fun _ => false) Tryz.func67 Tryz.ntmps67 rfl (by kernel_rfl) (by simp) rfl (by decide) fun G hG hOw hNm hB => ?_; simp only [go_sem, hG, hOw]
  refine semC_loop (fun k : Nat => St.of [(0, prs 0 ps), (1, ints 0 out), (5, .own 9 0 (pofL out ps k).length 2), (8, prs 0 ps), (9, i64 ps.length), (10, i64 k)] [(9, .arr 75 2 ((pofL out ps k).map prE))]) (fun k => k ≤ ps.length) (fun k => ps.length - k) 0 (by simp) (entA [(9, none)]) ?_
  rintro k hk
  refine vc_sound _ _ _ ?_
  simp only [go_sem, hG, hOw]
  (repeat' with_reducible first | refine And.intro ?_ ?_ | intro _ | refine exP ?_ ?_); all_goals try omega
  · rename_i hlt
    have hkl : k < ps.length := by omega
    obtain ⟨⟨p1, p2⟩, p3, p4⟩ := hp _ (List.getElem_mem hkl)
    have g1 := getI_at (l := out) (i := ps[k].1.toNat) (by omega)
    have g2 := getI_at (l := out) (i := ps[k].2.toNat) (by omega)
    have i1 : Int.toNat 1 = 1 := rfl
    have hlt' := pofL_len out ps (Nat.le_of_lt hkl)
    have e1 := pofL_succ out ps hkl
    refine semC_draw0 mixed (by kernel_rfl) ?_
    simp (maxSteps := 2000000) only [go_sem, hG, hOw, i1, List.getElem?_cons_succ, List.getElem?_cons_zero, Option.getD_some]
    (repeat' with_reducible first | refine And.intro ?_ ?_ | intro _ | refine exP ?_ ?_); all_goals try omega
    refine ⟨k + 1, by omega, by omega, ?_⟩
    rw [e1]
    exact entA [(9, some 27)] (by (simp only [go_sem]) <;> simp [prE,i64,ofP,g1,g2]) (by (simp only [go_sem, entH, entH1, nilArr, obOK]) <;> simp [prE,i64,ofP,g1,g2])
  · rename_i hge
    obtain rfl : k = ps.length := by omega
    rw [pofL_all]
    exact .refl _
def idxA (l : List (Int × Int)) (v : Int × Int) (k : Nat) : Int := match l with
  | [] => -1
  | x :: r => if x = v then k else idxA r v (k + 1)
theorem idxA_ge (l : List (Int × Int)) (v : Int × Int) (k : Nat) : decide (0 ≤ idxA l v k) = l.any (fun x => decide (x = v)) := by
  induction l generalizing k with
  | nil => simp [idxA]
  | cons x r ih =>
    unfold idxA
    by_cases h : x = v
    · simp [h]
    · rw [if_neg h, ih]; simp [h]
theorem Index_ok (l : List (Int × Int)) (v : Int × Int) : Gives Tryz.prog 94 [prs 0 l, .agg (prE v)] (fun _ => i64 (idxA l v 0)) := by
  refine pure_intro (ow := fun _ => false) Tryz.func94 Tryz.ntmps94 rfl (by kernel_rfl) (by simp) rfl (by decide) fun G hG hOw hNm hB => ?_; simp only [go_sem, hG, hOw]
  have hl := bd_lst hB (List.mem_cons_self ..)
  simp only [List.length_map] at hl
  refine semC_loop (fun k : Nat => St.of [(0, prs 0 l), (3, .ptr 3 0), (6, prs 0 l), (7, i64 l.length), (8, i64 k)] [(3, .box (prE v))]) (fun k => k ≤ l.length ∧ idxA l v 0 = idxA (l.drop k) v k) (fun k => l.length - k) 0 (by simp) (entA [(3, some 3)]) ?_
  rintro k ⟨hk, hall⟩
  refine vc_sound _ _ _ ?_; simp only [go_sem, hG, hOw]
  (repeat' with_reducible first | refine And.intro ?_ ?_ | intro _ | refine exP ?_ ?_); all_goals try omega
  · rename_i hlt
    have hkl : k < l.length := by omega
    rw [List.drop_eq_getElem_cons hkl, idxA] at hall
    refine semC_draw0 mixed (by kernel_rfl) ?_
    simp only [go_sem, hG, hOw]
    (repeat' with_reducible first | refine And.intro ?_ ?_ | intro _ | refine exP ?_ ?_); all_goals try omega
    · rename_i h2
      simp only [Bool.and_eq_true, decide_eq_true_eq] at h2
      rw [hall, if_pos (Prod.ext h2.1.symm h2.2.symm)]
    · rename_i h2
      refine ⟨k + 1, ⟨by omega, ?_⟩, by omega, entA [(3, some 3)]⟩
      rw [hall, if_neg]
      intro e
      rw [e] at h2
      simp at h2
  · rename_i hge
    rw [hall, List.drop_of_length_le (by omega)]
    exact .refl _
theorem Contains_ok (l : List (Int × Int)) (v : Int × Int) : Gives Tryz.prog 66 [prs 0 l, .agg (prE v)] (fun _ => bl (l.any (fun x => decide (x = v)))) := by
  refine pure_intro (ow := fun _ => false) Tryz.func66 Tryz.ntmps66 rfl (by kernel_rfl) (by simp) rfl (by decide) fun G hG hOw hNm hB => ?_; simp only [go_sem, hG, hOw]
  refine call_pureA (Index_ok l v) ?_
  have e := idxA_ge l v 0
  simp (maxSteps := 2000000) only [go_sem, hG, hOw, e]
def costI : List Int → Int
  | [] => 0
  | x :: r => (1 - x) + costI r
theorem costI_app (l : List Int) (x : Int) : costI (l ++ [x]) = costI l + (1 - x) := by
  induction l with
  | nil => simp [costI]
  | cons y r ih => simp only [List.cons_append, costI, ih]; omega
theorem costI_le {l : List Int} (h : ∀ a ∈ l, a = 0 ∨ a = 1) : 0 ≤ costI l ∧ costI l ≤ l.length := by
  induction l with
  | nil => simp [costI]
  | cons x r ih =>
    obtain ⟨h1, h2⟩ := ih (fun a ha => h a (by simp [ha]))
    have := h x (by simp)
    simp only [costI, List.length_cons]
    omega
def okB (T : List Int) (D : List (Int × Int)) (out : List Int) : Bool := !((T.any fun i => decide (getI out i.toNat = 1)) || (D.map (ofP out)).any fun x => decide (x = (1, 1)))
theorem again1_ok (T : List Int) (D : List (Int × Int)) (hD : D.length ≤ 100) (out : List Int) (hlen : out.length ≤ 12) (h01 : ∀ a ∈ out, a = 0 ∨ a = 1) (hT : ∀ i ∈ T, 0 ≤ i ∧ i < out.length) (hp : ∀ p ∈ D, (0 ≤ p.1 ∧ p.1 < out.length) ∧ 0 ≤ p.2 ∧ p.2 < out.length) :
    Gives Tryz.prog 63 [ints 0 out, .fp [ints 0 T], .fp [prs 0 D]] (fun _ => .tup [i64 (costI out), bl (okB T D out)]) := by
  refine pure_intro (ow := fun _ => false) Tryz.func63 Tryz.ntmps63 rfl (by kernel_rfl) (by simp) rfl (by decide) fun G hG hOw hNm hB => ?_; simp only [go_sem, hG, hOw]
  refine semC_frz (fun i => [3].contains i) ?_
  refine semC_loop (fun k : Nat => St.of [(1, .fp [ints 0 T]), (2, .fp [prs 0 D]), (3, .fp [ints 0 out]), (6, i64 (costI (out.take k))), (10, ints 0 out), (11, i64 out.length), (12, i64 k)] []) (fun k => k ≤ out.length) (fun k => out.length - k) 0 (by simp) (entA [] (by (simp only [go_sem]) <;> simp [costI]) (by (simp only [go_sem, entH, entH1, nilArr, obOK]) <;> simp [costI])) ?_
  rintro k hk
  have hc := costI_le (l := out.take k) (fun a ha => h01 a (List.mem_of_mem_take ha))
  rw [List.length_take] at hc
  by_cases hlt : k < out.length
  · have hz := h01 _ (List.getElem_mem hlt)
    have e1 : costI (out.take (k + 1)) = costI (out.take k) + (1 - out[k]) := by rw [List.take_add_one, List.getElem?_eq_getElem hlt]; exact costI_app _ _
    refine vc_sound _ _ _ ?_
    simp only [go_sem, hG, hOw]
    (repeat' with_reducible first | refine And.intro ?_ ?_ | intro _ | refine exP ?_ ?_); all_goals try omega
    refine ⟨k + 1, by omega, by omega, ?_⟩
    rw [e1]
    exact ent_of0 (by (simp only [go_sem]) <;> simp) hNm
  · refine vc_sound _ _ _ ?_
    simp only [go_sem, hG, hOw]
    (repeat' with_reducible first | refine And.intro ?_ ?_ | intro _ | refine exP ?_ ?_); all_goals try omega
    obtain rfl : k = out.length := by omega
    rw [List.take_length]
    have hC := ContainsFunc_Int 65 [.fp [ints 0 out]] (fun i => decide (getI out i.toNat = 1)) T rfl (fun i hi => by
      obtain ⟨q1, q2⟩ := hT i hi
      have := out1_ok out i.toNat (by omega)
      rw [show ((i.toNat : Nat) : Int) = i by omega] at this
      exact this)
    refine call_pure hC (by first | exact Subs.refl _ | (repeat' (first | exact Subs.nil | exact Sub.refl _ | exact Sub.lo (Nat.zero_le _) | refine Subs.cons ?_ ?_ | refine Subs.agg ?_ | refine Subs.fp ?_ | refine Subs.tup ?_ | refine Sub.map (Nat.zero_le _) (fun _ => ?_)))) (by first | rfl | simp [allP, all0, pureV, pure0, *]) (by simp [chk, hG]) ?_
    simp only [go_sem, hG, hOw]
    (repeat' with_reducible first | refine And.intro ?_ ?_ | intro _ | refine exP ?_ ?_); all_goals try omega
    · rename_i h1
      refine call_pureA (pairsOf_ok D out hD hp) ?_
      simp only [go_sem, hG, hOw]
      (repeat' with_reducible first | refine And.intro ?_ ?_ | intro _ | refine exP ?_ ?_); all_goals try omega
      refine call_pureA (Contains_ok (D.map (ofP out)) (1, 1)) ?_
      simp only [go_sem, hG, hOw]
      rw [show okB T D out = !((D.map (ofP out)).any fun x => decide (x = (1, 1))) by unfold okB; rw [h1]; rfl]
      all_goals exact .refl _
    · rename_i h1
      rw [show okB T D out = false by unfold okB; rw [h1]; rfl]
      exact .refl _
end Go.Proofs.YtagfopbijboajaaGreatDoor
