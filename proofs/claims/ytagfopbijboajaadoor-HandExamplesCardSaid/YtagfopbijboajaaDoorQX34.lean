import Derived.Test.YtagfopbijboajaaDoorQX33
namespace Go.Proofs.YtagfopbijboajaaDoor
open Go Pm
set_option linter.unusedSimpArgs false
set_option linter.unusedVariables false
set_option maxHeartbeats 4000000
set_option maxRecDepth 100000
def compsB (B : Nat) : Nat → List (List Int)
  | 0 => [[]]
  | m + 1 => (List.range B).flatMap fun k : Nat => (compsB B m).map ((k : Int) :: ·)
def bfoldB (B : Nat) (c : List Int → Int) (v : List Int → Bool) (a : List Int × Int) (l : List Int) (m : Nat) : List Int × Int := ((compsB B m).map (l ++ ·)).foldl (bstep c v) a
theorem bfoldB_zero (B : Nat) (c : List Int → Int) (v : List Int → Bool) (a : List Int × Int) (l : List Int) : bfoldB B c v a l 0 = bstep c v a l := by simp [bfoldB, compsB]
def bpartB (B : Nat) (c : List Int → Int) (v : List Int → Bool) (a : List Int × Int) (l : List Int) (m : Nat) : Nat → List Int × Int
  | 0 => a
  | k + 1 => bfoldB B c v (bpartB B c v a l m k) (l ++ [(k : Int)]) m
theorem bfoldB_succ (B : Nat) (c : List Int → Int) (v : List Int → Bool) (a : List Int × Int) (l : List Int) (m : Nat) : bfoldB B c v a l (m + 1) = bpartB B c v a l m B := by
  have : ∀ n, (((List.range n).flatMap fun k : Nat => (compsB B m).map ((k : Int) :: ·)).map (l ++ ·)).foldl (bstep c v) a = bpartB B c v a l m n := by
    intro n
    induction n with
    | zero => rfl
    | succ n ih =>
      rw [List.range_succ, List.flatMap_append, List.map_append, List.foldl_append, ih]
      simp only [bpartB, bfoldB, List.flatMap_singleton, List.map_map]
      congr 1
      apply List.map_congr_left
      intro x _; simp
  exact this B
theorem yield_bestB (B : Nat) (n : Nat) (fk : FuncId) (cap : List V) (hcap : all0 cap = true) (hcapP : allP cap = true) (c : List Int → Int) (v : List Int → Bool) (hc : ∀ y, y.length = n → (∀ a : Int, a ∈ y → 0 ≤ a ∧ a < B) → Gives Tryd.prog fk (ints 0 y :: cap) (fun _ => .tup [i64 (c y), bl (v y)]))
    (l : List Int) (hl : l.length = n) (h01 : ∀ a : Int, a ∈ l → 0 ≤ a ∧ a < B) (x : List Int) (least : Int) (lr : Nat) (L : Loop) (asg : Code) : 
    TriY Tryd.prog 61 [ints 0 l, .fp [i64 n], .ptr 3 0, .fp [i64 B], .ptr 4 0]
      [(99, .obj (.loop (Lp L none))), (3, .box [.v (.func (.yield lr) #[] #[])]), (4, .box [.fn (.func 61) [.fp [i64 n], .ptr 3 0, .fp [i64 B], .ptr 4 0]]), (53, .box [.fn (.func fk) cap]), (55, .box [ints 0 x]), (56, .box [i64 least])]
      (fun _ => .ret (bl true) [(99, .obj (.loop (Lp L none))), (3, .box [.v (.func (.yield lr) #[] #[])]), (4, .box [.fn (.func 61) [.fp [i64 n], .ptr 3 0, .fp [i64 B], .ptr 4 0]]), (53, .box [.fn (.func fk) cap]), (55, .box [ints 0 (bstep c v (x, least) l).1]), (56, .box [i64 (bstep c v (x, least) l).2])])
      lr 99 L [(3, .ptr 53 0), (5, .ptr 55 0), (6, .ptr 56 0), (10, .fn (.func 60) [.fp [i64 n], .fp [i64 B]])] [11] [(7, 11)] asg (rfOf Tryd.f38.body) 31 := by
  refine triY_intro (fun i => [24].contains i) Tryd.func61 Tryd.ntmps61 rfl (by kernel_rfl) (by simp) rfl (by decide) fun G hG hOw hNm hrd hY => ?_
  simp only [go_sem, hG, hOw]
  (repeat' with_reducible first | refine And.intro ?_ ?_ | intro _ | refine exP ?_ ?_); all_goals try omega
  · have hG0 := hG
    have hOw0 := hOw
    have hNm0 := hNm
    refine hY.law (fun _ => false) [99, 3, 4, 53, 55, 56] _ _ _ _ _ (by simp [go_sem]) rfl (by simp [chk, hG]) (by rw [hNm]; simp [names]) (by intro id hid; left; rw [hNm]; simpa [names] using hid) fun G2 m1 m2 m3 m4 m5 => ?_
    have hG := m1
    have hOw := m2
    have hNm := m3
    unfold Tryd.f38
    simp only [rfOf, rfO, orElse, Option.bind_some, Option.getD_some, reduceIte, Nat.reduceEqDiff, reduceCtorEq]
    refine vc_sound _ _ _ ?_
    simp only [go_sem, hG, hOw]
    (repeat' with_reducible first | refine And.intro ?_ ?_ | intro _ | refine exP ?_ ?_); all_goals try omega
    refine call_pureA (hc l hl h01) ?_
    have e : bstep c v (x, least) l = if (v l && (decide (least < 0) || decide (c l < least))) = true then (l, c l) else (x, least) := rfl
    simp (maxSteps := 2000000) only [go_sem, hG, hOw, hG0]
    (repeat' with_reducible first | refine And.intro ?_ ?_ | intro _ | refine exP ?_ ?_); all_goals try omega
    · rename_i q1 q2 q3
      rw [e, if_pos (by simp [q1, q3])]
      exact ⟨[(99, some 99), (3, some 3), (4, some 4), (53, some 53), (55, some 55), (56, some 56)], by (simp only [EndT, go_sem, entH, entH1, nilArr, obOK, apart, injR, coverR]) <;> simp [hcap]⟩
    · rename_i q1 q2 q3
      rw [e, if_neg (by simp [q2, q3])]
      exact ⟨[(99, some 99), (3, some 3), (4, some 4), (53, some 53), (55, some 55), (56, some 56)], by (simp only [EndT, go_sem, entH, entH1, nilArr, obOK, apart, injR, coverR]) <;> simp [hcap]⟩
    · rename_i q1 q2
      rw [e, if_pos (by simp [q1, q2])]
      exact ⟨[(99, some 99), (3, some 3), (4, some 4), (53, some 53), (55, some 55), (56, some 56)], by (simp only [EndT, go_sem, entH, entH1, nilArr, obOK, apart, injR, coverR]) <;> simp [hcap]⟩
    · rename_i q1
      rw [e, if_neg (by simp [q1])]
      exact ⟨[(99, some 99), (3, some 3), (4, some 4), (53, some 53), (55, some 55), (56, some 56)], by (simp only [EndT, go_sem, entH, entH1, nilArr, obOK, apart, injR, coverR]) <;> simp [hcap]⟩
theorem more_okB (B : Nat) (hB2 : B ≤ 100) (n : Nat) (hn : n ≤ 12) (fk : FuncId) (cap : List V) (hcap : all0 cap = true) (hcapP : allP cap = true) (c : List Int → Int) (v : List Int → Bool) (hc : ∀ y, y.length = n → (∀ a : Int, a ∈ y → 0 ≤ a ∧ a < B) → Gives Tryd.prog fk (ints 0 y :: cap) (fun _ => .tup [i64 (c y), bl (v y)]))
    (lr : Nat) (L : Loop) (asg : Code) : ∀ (m : Nat) (l : List Int) (hl : l.length + m = n) (h01 : ∀ a : Int, a ∈ l → 0 ≤ a ∧ a < B) (a : List Int × Int),
    TriY Tryd.prog 61 [ints 0 l, .fp [i64 n], .ptr 3 0, .fp [i64 B], .ptr 4 0]
      [(99, .obj (.loop (Lp L none))), (3, .box [.v (.func (.yield lr) #[] #[])]), (4, .box [.fn (.func 61) [.fp [i64 n], .ptr 3 0, .fp [i64 B], .ptr 4 0]]), (53, .box [.fn (.func fk) cap]), (55, .box [ints 0 a.1]), (56, .box [i64 a.2])]
      (fun _ => .ret (bl true) [(99, .obj (.loop (Lp L none))), (3, .box [.v (.func (.yield lr) #[] #[])]), (4, .box [.fn (.func 61) [.fp [i64 n], .ptr 3 0, .fp [i64 B], .ptr 4 0]]), (53, .box [.fn (.func fk) cap]), (55, .box [ints 0 (bfoldB B c v a l m).1]), (56, .box [i64 (bfoldB B c v a l m).2])])
      lr 99 L [(3, .ptr 53 0), (5, .ptr 55 0), (6, .ptr 56 0), (10, .fn (.func 60) [.fp [i64 n], .fp [i64 B]])] [11] [(7, 11)] asg (rfOf Tryd.f38.body) 31 := by
  intro m
  induction m with
  | zero =>
    intro l hl h01 a
    rw [bfoldB_zero]
    exact yield_bestB B n fk cap hcap hcapP c v hc l (by omega) h01 a.1 a.2 lr L asg
  | succ m ih =>
    intro l hl h01 a
    rw [bfoldB_succ]
    refine triY_intro (fun i => [24].contains i) Tryd.func61 Tryd.ntmps61 rfl (by kernel_rfl) (by simp) rfl (by decide) fun G hG hOw hNm hrd hY => ?_
    simp only [go_sem, hG, hOw]
    (repeat' with_reducible first | refine And.intro ?_ ?_ | intro _ | refine exP ?_ ?_); all_goals try omega
    refine semC_loop (fun k : Nat => St.of [(0, ints 0 l), (1, .fp [i64 n]), (2, .ptr 3 0), (3, .fp [i64 B]), (4, .ptr 4 0), (6, bl false), (15, i64 B), (16, i64 k)] [(99, .obj (.loop (Lp L none))), (3, .box [.v (.func (.yield lr) #[] #[])]), (4, .box [.fn (.func 61) [.fp [i64 n], .ptr 3 0, .fp [i64 B], .ptr 4 0]]), (53, .box [.fn (.func fk) cap]), (55, .box [ints 0 (bpartB B c v a l m k).1]), (56, .box [i64 (bpartB B c v a l m k).2])]) (fun k => k ≤ B) (fun k => B - k) 0 (by simp) (entA [(99, some 99), (3, some 3), (4, some 4), (53, some 53), (55, some 55), (56, some 56)] (by (simp only [go_sem]) <;> simp [hcap,bpartB]) (by (simp only [go_sem, entH, entH1, nilArr, obOK]) <;> simp [hcap,bpartB])) ?_
    rintro k hk
    refine vc_sound _ _ _ ?_; simp only [go_sem, hG, hOw]
    (repeat' with_reducible first | refine And.intro ?_ ?_ | intro _ | refine exP ?_ ?_); all_goals try omega
    · rename_i hlt
      refine semC_draw ⟨[21, 23, 24], [(21, [21])], [21]⟩ [(0, false), (1, false), (2, false), (3, false), (4, false), (5, false), (6, true), (7, false)] mixed (by kernel_rfl) ?_
      simp only [pickO, List.getElem?_cons_zero, List.getElem?_cons_succ]
      simp only [go_sem, hG, hOw]
      (repeat' with_reducible first | refine And.intro ?_ ?_ | intro _ | refine exP ?_ ?_); all_goals try omega
      refine ⟨_, callNew [(0, 21)] (Clone_new l (by omega)) (by (simp only [go_sem]) <;> simp) rfl (by simp [tgt, nmHas]) (by simp [upT, dropsR, outsR, keepR, usH, lkR, toR, nmHas]) (by simp [newN, usH, tgt, go_sem]) (by simp [hasAll, keepR, usH, lkR, toR]) (by simp [uniqN, usH]), ?_⟩
      simp only [go_sem, hG, hOw]
      (repeat' with_reducible first | refine And.intro ?_ ?_ | intro _ | refine exP ?_ ?_); all_goals try omega
      have hI := ih (l ++ [(k : Int)]) (by simp; omega) (by
        intro x hx
        rcases List.mem_append.1 hx with h | h
        · exact h01 x h
        · simp at h; omega) (bpartB B c v a l m k)
      have hS : Sub (.lst G.lo 1 (l.map intE ++ [[.v (.int .i64 (k : Int))]])) (.lst 0 1 (l.map intE ++ [intE (k : Int)])) := Sub.lo (Nat.zero_le _)
      refine call_triY [(99, 99), (3, 3), (4, 4), (53, 53), (55, 55), (56, 56)] [] (hI) hY (by (simp only [go_sem]) <;> simp [hcap, hS]) (by (simp only [go_sem, entH, entH1, nilArr, obOK]) <;> simp [hcap, hS]) (by simp [injR, apart, toR]) (by simp [coverR, usH, toR]) (by rw [hNm]; simp [lkR, toR, names]) (by simp [uniqP, lkR, toR]) (by simp [chk, hG]) ?_
      have hr := map_all0 hcap
      simp (maxSteps := 2000000) only [go_sem, hG, hOw, hr]
      (repeat' with_reducible first | refine And.intro ?_ ?_ | intro _ | refine exP ?_ ?_); all_goals try omega
      refine ⟨k + 1, by omega, by omega, ?_⟩
      exact entA [(99, some 99), (3, some 3), (4, some 4), (53, some 53), (55, some 55), (56, some 56)] (by (simp only [go_sem]) <;> simp [hcap,bpartB,hr]) (by (simp only [go_sem, entH, entH1, nilArr, obOK]) <;> simp [hcap,bpartB,hr])
    · rename_i hge
      obtain rfl : k = B := by omega
      exact ⟨[(99, some 99), (3, some 3), (4, some 4), (53, some 53), (55, some 55), (56, some 56)], by (simp only [EndT, go_sem, entH, entH1, nilArr, obOK, apart, injR, coverR]) <;> simp [hcap]⟩
theorem lists_okB (B n : Nat) : Gives Tryd.prog 39 [i64 n, i64 B] (fun _ => .fn (.func 60) [.fp [i64 n], .fp [i64 B]]) := by
  refine pure_intro (ow := fun _ => false) Tryd.func39 Tryd.ntmps39 rfl (by kernel_rfl) (by simp) rfl (by decide) fun G hG hOw hNm hB => ?_; simp only [go_sem, hG, hOw]
theorem best_okB (B : Nat) (hB2 : B ≤ 100) (n : Nat) (hn : n ≤ 12) (fk : FuncId) (cap : List V) (hcap : all0 cap = true) (hcapP : allP cap = true) (c : List Int → Int) (v : List Int → Bool) (hc : ∀ y, y.length = n → (∀ a : Int, a ∈ y → 0 ≤ a ∧ a < B) → Gives Tryd.prog fk (ints 0 y :: cap) (fun _ => .tup [i64 (c y), bl (v y)])) :
    Gives Tryd.prog 38 [.fn (.func 60) [.fp [i64 n], .fp [i64 B]], .fn (.func fk) cap] (fun _ => ints 0 (bfoldB B c v ([], -1) [] n).1) := by
  refine pure_introR (ow := fun _ => false) Tryd.func38 Tryd.ntmps38 rfl (by kernel_rfl) (by simp) rfl (by decide) fun G hG hOw hNm hrd hB => ?_; simp only [go_sem, hG, hOw]
  (repeat' with_reducible first | refine And.intro ?_ ?_ | intro _ | refine exP ?_ ?_); all_goals try omega
  have hS0 : Sub (.v (.slice none 0 0)) (.lst 0 1 []) := .nil _ _
  refine semC_ent (s' := St.of [(3, .ptr 53 0), (5, .ptr 55 0), (6, .ptr 56 0), (10, .fn (.func 60) [.fp [i64 n], .fp [i64 B]])] [(53, .box [.fn (.func fk) cap]), (55, .box [ints 0 []]), (56, .box [i64 (-1)])]) (entA [(53, some 3), (55, some 5), (56, some 6)] (by (simp only [go_sem]) <;> simp [hcap,hS0]) (by (simp only [go_sem, entH, entH1, nilArr, obOK]) <;> simp [hcap,hS0])) ?_
  refine semC_rangeFuncI [(7, 11)] [53, 55, 56] 99 (fun _ => false) hrd rfl Tryd.func60 Tryd.ntmps60 rfl (by kernel_rfl) rfl (by simp) (by rw [hG]; decide) rfl (by rw [hNm]; simp [names]) (by simp [nmOK]) rfl rfl (by rw [hG]; decide) fun G1 l L k1 k2 k3 k4 k5 hY => ?_
  have hG0 := hG
  have hNm0 := hNm
  have hOw0 := hOw
  have hG := k1
  have hOw := k2
  have hNm := k3
  rw [hG0] at hY
  have hYc := hY.code (body' := rfOf Tryd.f38.body) (by kernel_rfl)
  simp only [go_sem, hG, hOw]
  (repeat' with_reducible first | refine And.intro ?_ ?_ | intro _ | refine exP ?_ ?_); all_goals try omega
  have hM := fun asg => more_okB B hB2 n hn fk cap hcap hcapP c v hc l L asg n [] (by simp) (by simp) ([], -1)
  refine call_triY [(99, 99), (3, 3), (4, 4), (53, 53), (55, 55), (56, 56)] [] (hM _) hYc (by (simp only [go_sem]) <;> simp [hcap, hS0]) (by (simp only [go_sem, entH, entH1, nilArr, obOK]) <;> simp [hcap, hS0]) (by simp [injR, apart, toR]) (by simp [coverR, usH, toR]) (by rw [hNm]; simp [lkR, toR, names]) (by simp [uniqP, lkR, toR]) (by simp [chk, hG]) ?_
  have hr := map_all0 hcap
  simp (maxSteps := 2000000) only [go_sem, hG, hOw, hr]
  (repeat' with_reducible first | refine And.intro ?_ ?_ | intro _ | refine exP ?_ ?_); all_goals try omega
  refine ⟨none, by simp [go_sem], ?_⟩
  simp (maxSteps := 2000000) only [go_sem, hG, hOw, hG0]
  (repeat' with_reducible first | refine And.intro ?_ ?_ | intro _ | refine exP ?_ ?_); all_goals try omega
  all_goals exact .refl _
end Go.Proofs.YtagfopbijboajaaDoor
