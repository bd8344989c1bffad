import Derived.Test.YtagfopbijboajaaGreatDoorQY23
import Derived.Test.YtagfopbijboajaaGreatDoorQY31
import Derived.Test.YtagfopbijboajaaGreatDoorQY34
import Derived.Test.YtagfopbijboajaaGreatDoorQY37
namespace Go.Proofs.YtagfopbijboajaaGreatDoor
open Go Pm
set_option linter.unusedSimpArgs false
set_option linter.unusedVariables false
set_option maxHeartbeats 4000000
set_option maxRecDepth 100000
def compsB (B : Nat) : Nat → List (List Int)
  | 0 => [[]]
  | m + 1 => (List.range B).flatMap fun k : Nat => (compsB B m).map ((k : Int) :: ·)
def bfoldB (B : Nat) (c : List Int → Int) (v : List Int → Bool) (a : List Int × Int) (l : List Int) (m : Nat) : List Int × Int := ((compsB B m).map (l ++ ·)).foldl (bstep c v) a
theorem bfoldB_zero (B : Nat) (c : List Int → Int) (v : List Int → Bool) (a : List Int × Int) (l : List Int) : bfoldB B c v a l 0 = bstep c v a l := by simp [bfoldB, compsB]
def bpartB (B : Nat) (c : List Int → Int) (v : List Int → Bool) (a : List Int × Int) (l : List Int) (m : Nat) : Nat → List Int × Int
  | 0 => a
  | k + 1 => bfoldB B c v (bpartB B c v a l m k) (l ++ [(k : Int)]) m
theorem bfoldB_succ (B : Nat) (c : List Int → Int) (v : List Int → Bool) (a : List Int × Int) (l : List Int) (m : Nat) : bfoldB B c v a l (m + 1) = bpartB B c v a l m B := by
  have : ∀ n, (((List.range n).flatMap fun k : Nat => (compsB B m).map ((k : Int) :: ·)).map (l ++ ·)).foldl (bstep c v) a = bpartB B c v a l m n := by
    intro n
    induction n with
    | zero => rfl
    | succ n ih =>
      rw [List.range_succ, List.flatMap_append, List.map_append, List.foldl_append, ih]
      simp only [bpartB, bfoldB, List.flatMap_singleton, List.map_map]
      congr 1
      apply List.map_congr_left
      intro x _; simp
  exact this B
theorem yield_bestB (B : Nat) (n : Nat) (fk : FuncId) (cap : List V) (hcap : all0 cap = true) (hcapP : allP cap = true) (c : List Int → Int) (v : List Int → Bool) (hc : ∀ y, y.length = n → (∀ a : Int, a ∈ y → 0 ≤ a ∧ a < B) → Gives Tryz.prog fk (ints 0 y :: cap) (fun _ => .tup [i64 (c y), bl (v y)]))
    (l : List Int) (hl : l.length = n) (h01 : ∀ a : Int, a ∈ l → 0 ≤ a ∧ a < B) (x : List Int) (least : Int) (lr : Nat) (L : Loop) (asg : Code) : 
    TriY Tryz.prog 85 [ints 0 l, .fp [i64 n], .ptr 3 0, .fp [i64 B], .ptr 4 0]
      [(99, .obj (.loop (Lp L none))), (3, .box [.v (.func (.yield lr) #[] #[])]), (4, .box [.fn (.func 85) [.fp [i64 n], .ptr 3 0, .fp [i64 B], .ptr 4 0]]), (53, .box [.fn (.func fk) cap]), (55, .box [ints 0 x]), (56, .box [i64 least])]
      (fun _ => .ret (bl true) [(99, .obj (.loop (Lp L none))), (3, .box [.v (.func (.yield lr) #[] #[])]), (4, .box [.fn (.func 85) [.fp [i64 n], .ptr 3 0, .fp [i64 B], .ptr 4 0]]), (53, .box [.fn (.func fk) cap]), (55, .box [ints 0 (bstep c v (x, least) l).1]), (56, .box [i64 (bstep c v (x, least) l).2])])
      lr 99 L [(3, .ptr 53 0), (5, .ptr 55 0), (6, .ptr 56 0), (10, .fn (.func 84) [.fp [i64 n], .fp [i64 B]])] [11] [(7, 11)] asg (rfOf Tryz.f54.body) 31 := by
  refine triY_intro (fun i => [24].contains i) Tryz.func85 Tryz.ntmps85 rfl (by kernel_rfl) (by simp) rfl (by decide) fun G hG hOw hNm hrd hY => ?_
  simp only [go_sem, hG, hOw]
  (repeat' with_reducible first | refine And.intro ?_ ?_ | intro _ | refine exP ?_ ?_); all_goals try omega
  · have hG0 := hG
    have hOw0 := hOw
    have hNm0 := hNm
    refine hY.law (fun _ => false) [99, 3, 4, 53, 55, 56] _ _ _ _ _ (by simp [go_sem]) rfl (by simp [chk, hG]) (by rw [hNm]; simp [names]) (by intro id hid; left; rw [hNm]; simpa [names] using hid) fun G2 m1 m2 m3 m4 m5 => ?_
    have hG := m1
    have hOw := m2
    have hNm := m3
    unfold Tryz.f54
    simp only [rfOf, rfO, orElse, Option.bind_some, Option.getD_some, reduceIte, Nat.reduceEqDiff, reduceCtorEq]
    refine vc_sound _ _ _ ?_
    simp only [go_sem, hG, hOw]
    (repeat' with_reducible first | refine And.intro ?_ ?_ | intro _ | refine exP ?_ ?_); all_goals try omega
    refine call_pureA (hc l hl h01) ?_
    have e : bstep c v (x, least) l = if (v l && (decide (least < 0) || decide (c l < least))) = true then (l, c l) else (x, least) := rfl
    simp (maxSteps := 2000000) only [go_sem, hG, hOw, hG0]
    (repeat' with_reducible first | refine And.intro ?_ ?_ | intro _ | refine exP ?_ ?_); all_goals try omega
    · rename_i q1 q2 q3
      rw [e, if_pos (by simp [q1, q3])]
      exact ⟨[(99, some 99), (3, some 3), (4, some 4), (53, some 53), (55, some 55), (56, some 56)], by (simp only [EndT, go_sem, entH, entH1, nilArr, obOK, apart, injR, coverR]) <;> simp [hcap]⟩
    · rename_i q1 q2 q3
      rw [e, if_neg (by simp [q2, q3])]
      exact ⟨[(99, some 99), (3, some 3), (4, some 4), (53, some 53), (55, some 55), (56, some 56)], by (simp only [EndT, go_sem, entH, entH1, nilArr, obOK, apart, injR, coverR]) <;> simp [hcap]⟩
    · rename_i q1 q2
      rw [e, if_pos (by simp [q1, q2])]
      exact ⟨[(99, some 99), (3, some 3), (4, some 4), (53, some 53), (55, some 55), (56, some 56)], by (simp only [EndT, go_sem, entH, entH1, nilArr, obOK, apart, injR, coverR]) <;> simp [hcap]⟩
    · rename_i q1
      rw [e, if_neg (by simp [q1])]
      exact ⟨[(99, some 99), (3, some 3), (4, some 4), (53, some 53), (55, some 55), (56, some 56)], by (simp only [EndT, go_sem, entH, entH1, nilArr, obOK, apart, injR, coverR]) <;> simp [hcap]⟩
theorem more_okB (B : Nat) (hB2 : B ≤ 100) (n : Nat) (hn : n ≤ 12) (fk : FuncId) (cap : List V) (hcap : all0 cap = true) (hcapP : allP cap = true) (c : List Int → Int) (v : List Int → Bool) (hc : ∀ y, y.length = n → (∀ a : Int, a ∈ y → 0 ≤ a ∧ a < B) → Gives Tryz.prog fk (ints 0 y :: cap) (fun _ => .tup [i64 (c y), bl (v y)]))
    (lr : Nat) (L : Loop) (asg : Code) : ∀ (m : Nat) (l : List Int) (hl : l.length + m = n) (h01 : ∀ a : Int, a ∈ l → 0 ≤ a ∧ a < B) (a : List Int × Int),
    TriY Tryz.prog 85 [ints 0 l, .fp [i64 n], .ptr 3 0, .fp [i64 B], .ptr 4 0]
      [(99, .obj (.loop (Lp L none))), (3, .box [.v (.func (.yield lr) #[] #[])]), (4, .box [.fn (.func 85) [.fp [i64 n], .ptr 3 0, .fp [i64 B], .ptr 4 0]]), (53, .box [.fn (.func fk) cap]), (55, .box [ints 0 a.1]), (56, .box [i64 a.2])]
      (fun _ => .ret (bl true) [(99, .obj (.loop (Lp L none))), (3, .box [.v (.func (.yield lr) #[] #[])]), (4, .box [.fn (.func 85) [.fp [i64 n], .ptr 3 0, .fp [i64 B], .ptr 4 0]]), (53, .box [.fn (.func fk) cap]), (55, .box [ints 0 (bfoldB B c v a l m).1]), (56, .box [i64 (bfoldB B c v a l m).2])])
      lr 99 L [(3, .ptr 53 0), (5, .ptr 55 0), (6, .ptr 56 0), (10, .fn (.func 84) [.fp [i64 n], .fp [i64 B]])] [11] [(7, 11)] asg (rfOf Tryz.f54.body) 31 := by
  intro m
  induction m with
  | zero =>
    intro l hl h01 a
    rw [bfoldB_zero]
    exact yield_bestB B n fk cap hcap hcapP c v hc l (by omega) h01 a.1 a.2 lr L asg
  | succ m ih =>
    intro l hl h01 a
    rw [bfoldB_succ]
    refine triY_intro (fun i => [24].contains i) Tryz.func85 Tryz.ntmps85 rfl (by kernel_rfl) (by simp) rfl (by decide) fun G hG hOw hNm hrd hY => ?_
    simp only [go_sem, hG, hOw]
    (repeat' with_reducible first | refine And.intro ?_ ?_ | intro _ | refine exP ?_ ?_); all_goals try omega
    refine semC_loop (fun k : Nat => St.of [(0, ints 0 l), (1, .fp [i64 n]), (2, .ptr 3 0), (3, .fp [i64 B]), (4, .ptr 4 0), (6, bl false), (15, i64 B), (16, i64 k)] [(99, .obj (.loop (Lp L none))), (3, .box [.v (.func (.yield lr) #[] #[])]), (4, .box [.fn (.func 85) [.fp [i64 n], .ptr 3 0, .fp [i64 B], .ptr 4 0]]), (53, .box [.fn (.func fk) cap]), (55, .box [ints 0 (bpartB B c v a l m k).1]), (56, .box [i64 (bpartB B c v a l m k).2])]) (fun k => k ≤ B) (fun k => B - k) 0 (by simp) (entA [(99, some 99), (3, some 3), (4, some 4), (53, some 53), (55, some 55), (56, some 56)] (by (simp only [go_sem]) <;> simp [hcap,bpartB]) (by (simp only [go_sem, entH, entH1, nilArr, obOK]) <;> simp [hcap,bpartB])) ?_
    rintro k hk
    refine vc_sound _ _ _ ?_; simp only [go_sem, hG, hOw]
    (repeat' with_reducible first | refine And.intro ?_ ?_ | intro _ | refine exP ?_ ?_); all_goals try omega
    · rename_i hlt
      refine semC_draw ⟨[21, 23, 24], [(21, [21])], [21]⟩ [(0, false), (1, false), (2, false), (3, false), (4, false), (5, false), (6, true), (7, false)] mixed (by kernel_rfl) ?_
      simp only [pickO, List.getElem?_cons_zero, List.getElem?_cons_succ]
      simp only [go_sem, hG, hOw]
      (repeat' with_reducible first | refine And.intro ?_ ?_ | intro _ | refine exP ?_ ?_); all_goals try omega
      refine ⟨_, callNew [(0, 21)] (Clone_new l (by omega)) (by (simp only [go_sem]) <;> simp) rfl (by simp [tgt, nmHas]) (by simp [upT, dropsR, outsR, keepR, usH, lkR, toR, nmHas]) (by simp [newN, usH, tgt, go_sem]) (by simp [hasAll, keepR, usH, lkR, toR]) (by simp [uniqN, usH]), ?_⟩
      simp only [go_sem, hG, hOw]
      (repeat' with_reducible first | refine And.intro ?_ ?_ | intro _ | refine exP ?_ ?_); all_goals try omega
      have hI := ih (l ++ [(k : Int)]) (by simp; omega) (by
        intro x hx
        rcases List.mem_append.1 hx with h | h
        · exact h01 x h
        · simp at h; omega) (bpartB B c v a l m k)
      have hS : Sub (.lst G.lo 1 (l.map intE ++ [[.v (.int .i64 (k : Int))]])) (.lst 0 1 (l.map intE ++ [intE (k : Int)])) := Sub.lo (Nat.zero_le _)
      refine call_triY [(99, 99), (3, 3), (4, 4), (53, 53), (55, 55), (56, 56)] [] (hI) hY (by (simp only [go_sem]) <;> simp [hcap, hS]) (by (simp only [go_sem, entH, entH1, nilArr, obOK]) <;> simp [hcap, hS]) (by simp [injR, apart, toR]) (by simp [coverR, usH, toR]) (by rw [hNm]; simp [lkR, toR, names]) (by simp [uniqP, lkR, toR]) (by simp [chk, hG]) ?_
      have hr := map_all0 hcap
      simp (maxSteps := 2000000) only [go_sem, hG, hOw, hr]
      (repeat' with_reducible first | refine And.intro ?_ ?_ | intro _ | refine exP ?_ ?_); all_goals try omega
      refine ⟨k + 1, by omega, by omega, ?_⟩
      exact entA [(99, some 99), (3, some 3), (4, some 4), (53, some 53), (55, some 55), (56, some 56)] (by (simp only [go_sem]) <;> simp [hcap,bpartB,hr]) (by (simp only [go_sem, entH, entH1, nilArr, obOK]) <;> simp [hcap,bpartB,hr])
    · rename_i hge
      obtain rfl : k = B := by omega
      exact ⟨[(99, some 99), (3, some 3), (4, some 4), (53, some 53), (55, some 55), (56, some 56)], by (simp only [EndT, go_sem, entH, entH1, nilArr, obOK, apart, injR, coverR]) <;> simp [hcap]⟩
theorem lists_okB (B n : Nat) : Gives Tryz.prog 55 [i64 n, i64 B] (fun _ => .fn (.func 84) [.fp [i64 n], .fp [i64 B]]) := by
  refine pure_intro (ow := fun _ => false) Tryz.func55 Tryz.ntmps55 rfl (by kernel_rfl) (by simp) rfl (by decide) fun G hG hOw hNm hB => ?_; simp only [go_sem, hG, hOw]
theorem best_okB (B : Nat) (hB2 : B ≤ 100) (n : Nat) (hn : n ≤ 12) (fk : FuncId) (cap : List V) (hcap : all0 cap = true) (hcapP : allP cap = true) (c : List Int → Int) (v : List Int → Bool) (hc : ∀ y, y.length = n → (∀ a : Int, a ∈ y → 0 ≤ a ∧ a < B) → Gives Tryz.prog fk (ints 0 y :: cap) (fun _ => .tup [i64 (c y), bl (v y)])) :
    Gives Tryz.prog 54 [.fn (.func 84) [.fp [i64 n], .fp [i64 B]], .fn (.func fk) cap] (fun _ => ints 0 (bfoldB B c v ([], -1) [] n).1) := by
  refine pure_introR (ow := fun _ => false) Tryz.func54 Tryz.ntmps54 rfl (by kernel_rfl) (by simp) rfl (by decide) fun G hG hOw hNm hrd hB => ?_; simp only [go_sem, hG, hOw]
  (repeat' with_reducible first | refine And.intro ?_ ?_ | intro _ | refine exP ?_ ?_); all_goals try omega
  have hS0 : Sub (.v (.slice none 0 0)) (.lst 0 1 []) := .nil _ _
  refine semC_ent (s' := St.of [(3, .ptr 53 0), (5, .ptr 55 0), (6, .ptr 56 0), (10, .fn (.func 84) [.fp [i64 n], .fp [i64 B]])] [(53, .box [.fn (.func fk) cap]), (55, .box [ints 0 []]), (56, .box [i64 (-1)])]) (entA [(53, some 3), (55, some 5), (56, some 6)] (by (simp only [go_sem]) <;> simp [hcap,hS0]) (by (simp only [go_sem, entH, entH1, nilArr, obOK]) <;> simp [hcap,hS0])) ?_
  refine semC_rangeFuncI [(7, 11)] [53, 55, 56] 99 (fun _ => false) hrd rfl Tryz.func84 Tryz.ntmps84 rfl (by kernel_rfl) rfl (by simp) (by rw [hG]; decide) rfl (by rw [hNm]; simp [names]) (by simp [nmOK]) rfl rfl (by rw [hG]; decide) fun G1 l L k1 k2 k3 k4 k5 hY => ?_
  have hG0 := hG
  have hNm0 := hNm
  have hOw0 := hOw
  have hG := k1
  have hOw := k2
  have hNm := k3
  rw [hG0] at hY
  have hYc := hY.code (body' := rfOf Tryz.f54.body) (by kernel_rfl)
  simp only [go_sem, hG, hOw]
  (repeat' with_reducible first | refine And.intro ?_ ?_ | intro _ | refine exP ?_ ?_); all_goals try omega
  have hM := fun asg => more_okB B hB2 n hn fk cap hcap hcapP c v hc l L asg n [] (by simp) (by simp) ([], -1)
  refine call_triY [(99, 99), (3, 3), (4, 4), (53, 53), (55, 55), (56, 56)] [] (hM _) hYc (by (simp only [go_sem]) <;> simp [hcap, hS0]) (by (simp only [go_sem, entH, entH1, nilArr, obOK]) <;> simp [hcap, hS0]) (by simp [injR, apart, toR]) (by simp [coverR, usH, toR]) (by rw [hNm]; simp [lkR, toR, names]) (by simp [uniqP, lkR, toR]) (by simp [chk, hG]) ?_
  have hr := map_all0 hcap
  simp (maxSteps := 2000000) only [go_sem, hG, hOw, hr]
  (repeat' with_reducible first | refine And.intro ?_ ?_ | intro _ | refine exP ?_ ?_); all_goals try omega
  refine ⟨none, by simp [go_sem], ?_⟩
  simp (maxSteps := 2000000) only [go_sem, hG, hOw, hG0]
  (repeat' with_reducible first | refine And.intro ?_ ?_ | intro _ | refine exP ?_ ?_); all_goals try omega
  all_goals exact .refl _
open Go Pm
set_option maxHeartbeats 4000000
set_option maxRecDepth 100000
def wrI (r : Ro) (p h : Int) : Int := match r.shares[p.toNat]?, r.helpers[h.toNat]? with
  | some s, some q => daysI s q
  | _, _ => 0
def wrS (r : Ro) (W : List Int) (p h : Int) : List Int := W.set h.toNat (getI W h.toNat + wrI r p h)
def wrL (r : Ro) (ps y : List Int) : Nat → List Int
  | 0 => List.replicate r.helpers.length 0
  | k + 1 => wrS r (wrL r ps y k) (getI ps k) (getI y k)
def lastI (r : Ro) (W : List Int) (day : Int) : Nat → Int
  | 0 => day
  | h + 1 => if 0 < getI W h then (if lastI r W day h < day + getI W h + 2 * ((r.helpers[h]?).getD ⟨0, 0, 0⟩).post then day + getI W h + 2 * ((r.helpers[h]?).getD ⟨0, 0, 0⟩).post else lastI r W day h) else lastI r W day h
def backI (r : Ro) (ps : List Int) (day : Int) (y : List Int) : Int := lastI r (wrL r ps y y.length) day r.helpers.length
theorem wrL_len (r : Ro) (ps y : List Int) : ∀ k, (wrL r ps y k).length = r.helpers.length := by
  intro k
  induction k with
  | zero => simp [wrL]
  | succ k ih => simp [wrL, wrS, ih]
theorem wrI_bd (r : Ro) (hr : Good r) (p h : Int) (hp : 0 ≤ p ∧ p < r.shares.length) (hh : 0 ≤ h ∧ h < r.helpers.length) : 0 ≤ wrI r p h ∧ wrI r p h ≤ 420 := by
  have h1 : p.toNat < r.shares.length := by omega
  have h2 : h.toNat < r.helpers.length := by omega
  unfold wrI
  rw [List.getElem?_eq_getElem h1, List.getElem?_eq_getElem h2]
  have hs := hr.s _ h1
  have hH := hr.h _ h2
  have hl := hr.ll
  exact daysI_le (by omega) (by omega) (by omega) (by omega) (by omega)
theorem getI_set (l : List Int) (i j : Nat) (v : Int) (hi : i < l.length) : getI (l.set i v) j = if i = j then v else getI l j := by
  unfold getI
  rw [List.getD_eq_getElem?_getD, List.getD_eq_getElem?_getD, List.getElem?_set]
  split
  · rename_i e; subst e; simp [hi]
  · rfl
theorem wrL_bd (r : Ro) (hr : Good r) (ps y : List Int) (hp : ∀ p ∈ ps, 0 ≤ p ∧ p < r.shares.length) (hy : ∀ h ∈ y, 0 ≤ h ∧ h < r.helpers.length) : ∀ k, k ≤ y.length → y.length ≤ ps.length → ∀ j, 0 ≤ getI (wrL r ps y k) j ∧ getI (wrL r ps y k) j ≤ 420 * k := by
  intro k
  induction k with
  | zero =>
    intro _ _ j
    simp only [wrL]
    unfold getI
    rw [List.getD_eq_getElem?_getD, List.getElem?_replicate]
    split <;> simp
  | succ k ih =>
    intro hk hl j
    have h1 := ih (by omega) hl
    have hyk := hy _ (List.getElem_mem (show k < y.length by omega))
    have hpk := hp _ (List.getElem_mem (show k < ps.length by omega))
    simp only [wrL, wrS]
    rw [getI_at (show k < y.length by omega), getI_at (show k < ps.length by omega)]
    rw [getI_set _ _ _ _ (by rw [wrL_len]; omega)]
    have b := wrI_bd r hr _ _ hpk hyk
    split
    · have := h1 (y[k]).toNat; omega
    · have := h1 j; omega
theorem lastI_bd (r : Ro) (hr : Good r) (W : List Int) (hW : ∀ j, 0 ≤ getI W j ∧ getI W j ≤ 10000) (day : Int) (hd : 0 ≤ day ∧ day ≤ 400) : ∀ h, h ≤ r.helpers.length → 0 ≤ lastI r W day h ∧ lastI r W day h ≤ 20000 := by
  intro h
  induction h with
  | zero => intro _; simp only [lastI]; omega
  | succ h ih =>
    intro hh
    have h1 := ih (by omega)
    have h2 := hW h
    have h3 := hr.h h (by omega)
    simp only [lastI]
    rw [List.getElem?_eq_getElem (show h < r.helpers.length by omega), Option.getD_some]
    split
    · split <;> omega
    · exact h1
theorem set_map (l : List Int) (i : Nat) (v : Int) : (l.map intE).set i [.v (.int .i64 v)] = (l.set i v).map intE := by rw [List.map_set]; rfl
theorem back_ok (r : Ro) (hr : Good r) (ps : List Int) (hps : ∀ p ∈ ps, 0 ≤ p ∧ p < r.shares.length) (day : Int) (hd : 0 ≤ day ∧ day ≤ 400) (y : List Int) (hl : y.length = ps.length) (hl8 : ps.length ≤ 12) (hy : ∀ h ∈ y, 0 ≤ h ∧ h < r.helpers.length) :
    Gives Tryz.prog 53 [ints 0 y, .fp [.fp (dkC 0 r)], .fp [ints 0 ps], .fp [i64 day]] (fun _ => i64 (backI r ps day y)) := by
  have hhn := hr.hn
  have hsn := hr.sn
  have e0 : wrL r ps y 0 = List.replicate r.helpers.length 0 := rfl
  refine pure_intro (ow := fun _ => false) Tryz.func53 Tryz.ntmps53 rfl (by kernel_rfl) (by simp) rfl (by decide) fun G hG hOw hNm hB => ?_; simp only [go_sem, hG, hOw]
  (repeat' with_reducible first | refine And.intro ?_ ?_ | intro _ | refine exP ?_ ?_); all_goals try omega
  refine make_step rfl rfl rfl rfl (by rw [hG]; decide) (by simp [go_sem]) tb_sliceElem_32 tb_zeroK_3 rfl tb_bytesK_3 (by decide) (by omega) (by omega) (by omega) ?_
  have en : ((r.helpers.length : Int)).toNat = r.helpers.length := by omega
  have er : List.replicate r.helpers.length [V.v (Value.int IntKind.i64 0)] = (wrL r ps y 0).map intE := by rw [e0, List.map_replicate]; rfl
  simp (maxSteps := 2000000) only [go_sem, hG, hOw, en, er]
  (repeat' with_reducible first | refine And.intro ?_ ?_ | intro _ | refine exP ?_ ?_); all_goals try omega
  obtain ⟨W, hW⟩ : ∃ W, W = wrL r ps y y.length := ⟨_, rfl⟩
  have hWl : W.length = r.helpers.length := by rw [hW]; exact wrL_len r ps y _
  have hWb : ∀ j, 0 ≤ getI W j ∧ getI W j ≤ 10000 := fun j => by have := wrL_bd r hr ps y hps hy y.length (Nat.le_refl _) (by omega) j; rw [← hW] at this; omega
  have eb : backI r ps day y = lastI r W day r.helpers.length := by unfold backI; rw [← hW]
  rw [eb]
  have hSW : Pm.Sub (.lst G.lo 1 (W.map intE)) (.lst 0 1 (W.map intE)) := .lo (Nat.zero_le _)
  have htk : W.take r.helpers.length = W := by rw [← hWl]; exact List.take_length
  refine semC_cut (fun _ : Unit => St.of [(1, .fp [.fp (dkC 0 r)]), (3, .fp [i64 day]), (6, ints 0 W)] []) (fun _ => True) ?_ ?_
  · refine semC_loop (fun k : Nat => St.of [(1, .fp [.fp (dkC 0 r)]), (2, .fp [ints 0 ps]), (3, .fp [i64 day]), (6, .own 30 0 r.helpers.length 1), (19, ints 0 y), (20, i64 y.length), (21, i64 k)] [(30, .arr 3 1 ((wrL r ps y k).map intE))]) (fun k => k ≤ y.length) (fun k => y.length - k) 0 (by simp) (entA [(30, some 18)]) ?_
    rintro k hk
    have hwl := wrL_len r ps y k
    refine vc_sound _ _ _ ?_; simp only [go_sem, hG, hOw]
    (repeat' with_reducible first | refine And.intro ?_ ?_ | intro _ | refine exP ?_ ?_); all_goals try omega
    · rename_i hlt
      have hky : k < y.length := by omega
      have hkp : k < ps.length := by omega
      have hyk := hy _ (List.getElem_mem hky)
      have hpk := hps _ (List.getElem_mem hkp)
      obtain ⟨p, hp⟩ : ∃ p : Nat, ps[k] = p := ⟨ps[k].toNat, by omega⟩
      obtain ⟨h, hh⟩ : ∃ h : Nat, y[k] = h := ⟨y[k].toNat, by omega⟩
      have hpl : p < r.shares.length := by omega
      have hhl : h < r.helpers.length := by omega
      have hhw : h < (wrL r ps y k).length := by omega
      have hbd := wrL_bd r hr ps y hps hy k hk (by omega) h
      rw [getI_at hhw] at hbd
      have hdb := wrI_bd r hr p h (by omega) (by omega)
      have hdI : wrI r p h = daysI r.shares[p] r.helpers[h] := by
        unfold wrI
        rw [Int.toNat_natCast, Int.toNat_natCast, List.getElem?_eq_getElem hpl, List.getElem?_eq_getElem hhl]
      have e1 : wrL r ps y (k + 1) = (wrL r ps y k).set h ((wrL r ps y k)[h] + daysI r.shares[p] r.helpers[h]) := by
        simp only [wrL, wrS]
        rw [getI_at hky, getI_at hkp, hp, hh, hdI, Int.toNat_natCast, getI_at hhw]
      rw [hdI] at hdb
      have hD := hdays_ok r hr p hpl h (by omega) (by omega)
      simp only [Int.toNat_natCast] at hD
      refine semC_draw0 mixed (by kernel_rfl) ?_
      simp (maxSteps := 2000000) only [go_sem, hG, hOw, hp, hh]
      (repeat' with_reducible first | refine And.intro ?_ ?_ | intro _ | refine exP ?_ ?_); all_goals try omega
      refine ⟨_, callGives hD (by first | exact Subs.refl _ | (repeat' (first | exact Subs.nil | exact Sub.refl _ | exact Sub.lo (Nat.zero_le _) | refine Subs.cons ?_ ?_ | refine Subs.agg ?_ | refine Subs.fp ?_ | refine Subs.tup ?_ | refine Sub.map (Nat.zero_le _) (fun _ => ?_)))) (by first | rfl | simp [allP, all0, pureV, pure0, *]), ?_⟩
      simp only [go_sem, hG, hOw]
      (repeat' with_reducible first | refine And.intro ?_ ?_ | intro _ | refine exP ?_ ?_); all_goals try omega
      refine ⟨k + 1, by omega, by omega, ?_⟩
      rw [e1, ← set_map]
      exact entA [(30, some 30)]
    · rename_i hge
      obtain rfl : k = y.length := by omega
      rw [← hW]
      refine ⟨(), ent_frz (fun i => i == 30) ?_⟩
      exact entA [] (by (simp only [go_sem]) <;> simp [hSW,htk]) (by (simp only [go_sem, entH, entH1, nilArr, obOK]) <;> simp [hSW,htk])
  rintro ⟨⟩ -
  simp only [go_sem, hG, hOw]
  (repeat' with_reducible first | refine And.intro ?_ ?_ | intro _ | refine exP ?_ ?_); all_goals try omega
  refine semC_loop (fun j : Nat => St.of [(1, .fp [.fp (dkC 0 r)]), (3, .fp [i64 day]), (9, i64 (lastI r W day j)), (41, ints 0 W), (42, i64 W.length), (43, i64 j)] []) (fun j => j ≤ W.length) (fun j => W.length - j) 0 (by simp) (entA [] (by (simp only [go_sem]) <;> simp [lastI]) (by (simp only [go_sem, entH, entH1, nilArr, obOK]) <;> simp [lastI])) ?_
  rintro j hj
  have hlb := lastI_bd r hr W hWb day hd j (by omega)
  refine vc_sound _ _ _ ?_; simp only [go_sem, hG, hOw]
  (repeat' with_reducible first | refine And.intro ?_ ?_ | intro _ | refine exP ?_ ?_); all_goals try omega
  · rename_i hlt hpos
    have hjW : j < W.length := by omega
    have hjh : j < r.helpers.length := by omega
    have hH := hr.h j hjh
    have hwj := hWb j
    rw [getI_at hjW] at hwj
    have e1 : lastI r W day (j + 1) = if lastI r W day j < day + W[j] + 2 * r.helpers[j].post then day + W[j] + 2 * r.helpers[j].post else lastI r W day j := by
      simp only [lastI]
      rw [getI_at hjW, if_pos hpos, List.getElem?_eq_getElem hjh, Option.getD_some]
    refine semC_draw0 mixed (by kernel_rfl) ?_
    simp only [go_sem, hG, hOw]
    (repeat' with_reducible first | refine And.intro ?_ ?_ | intro _ | refine exP ?_ ?_); all_goals try omega
    all_goals (refine ⟨j + 1, by omega, by omega, ?_⟩)
    all_goals rw [e1]
    all_goals exact ent_of0 (by (simp only [go_sem]) <;> simp) hNm
  · rename_i hlt hpos
    have hjW : j < W.length := by omega
    have e1 : lastI r W day (j + 1) = lastI r W day j := by
      simp only [lastI]
      rw [getI_at hjW, if_neg hpos]
    refine ⟨j + 1, by omega, by omega, ?_⟩
    rw [e1]
    exact ent_of0 (by (simp only [go_sem]) <;> simp) hNm
  · rename_i hge
    rw [show r.helpers.length = j by omega]
theorem Assign2_ok (r : Ro) (hr : Good r) (ps : List Int) (hps : ∀ p ∈ ps, 0 ≤ p ∧ p < r.shares.length) (day : Int) (hd : 0 ≤ day ∧ day ≤ 400) (y : List Int) (hl : y.length = ps.length) (hl8 : ps.length ≤ 12) (hy : ∀ h ∈ y, 0 ≤ h ∧ h < r.helpers.length) :
    Gives Tryz.prog 56 [ints 0 y, .fp [.fn (.func 53) [.fp [.fp (dkC 0 r)], .fp [ints 0 ps], .fp [i64 day]]]] (fun _ => .tup [i64 (backI r ps day y), bl true]) := by
  have hBk := back_ok r hr ps hps day hd y hl hl8 hy
  refine pure_intro (ow := fun _ => false) Tryz.func56 Tryz.ntmps56 rfl (by kernel_rfl) (by simp) rfl (by decide) fun G hG hOw hNm hB => ?_; simp only [go_sem, hG, hOw]
  refine call_pure hBk (by first | exact Subs.refl _ | (repeat' (first | exact Subs.nil | exact Sub.refl _ | exact Sub.lo (Nat.zero_le _) | refine Subs.cons ?_ ?_ | refine Subs.agg ?_ | refine Subs.fp ?_ | refine Subs.tup ?_ | refine Sub.map (Nat.zero_le _) (fun _ => ?_)))) (by first | rfl | simp [allP, all0, pureV, pure0, *]) (by simp [chk, hG]) ?_
  simp only [go_sem, hG, hOw]
def asgBest (r : Ro) (ps : List Int) (day : Int) : List Int := (bfoldB r.helpers.length (backI r ps day) (fun _ => true) ([], -1) [] ps.length).1
def asgE (r : Ro) (day : Int) : Int := if roundE r = 0 then if inB day 0 400 then 0 else 2 else roundE r
def asgL (r : Ro) (day : Int) : List Int := if asgE r day = 0 then asgBest r (againP r) day else []
def asgD (r : Ro) (day : Int) : Int := if asgE r day = 0 then backI r (againP r) day (asgL r day) else 0
theorem compsB_mem (B : Nat) : ∀ m y, y ∈ compsB B m → y.length = m ∧ ∀ a : Int, a ∈ y → 0 ≤ a ∧ a < B := by
  intro m
  induction m with
  | zero => intro y h; simp [compsB] at h; subst h; simp
  | succ m ih =>
    intro y h
    simp only [compsB, List.mem_flatMap, List.mem_range, List.mem_map] at h
    obtain ⟨k, hk, z, hz, rfl⟩ := h
    obtain ⟨h1, h2⟩ := ih z hz
    refine ⟨by simp [h1], fun a ha => ?_⟩
    rcases List.mem_cons.1 ha with rfl | ha
    · omega
    · exact h2 a ha
theorem compsB_ne (B : Nat) (hB : 0 < B) : ∀ m, compsB B m ≠ [] := by
  intro m
  induction m with
  | zero => simp [compsB]
  | succ m ih =>
    obtain ⟨z, hz⟩ := List.exists_mem_of_ne_nil _ ih
    refine List.ne_nil_of_mem (a := (0 : Int) :: z) ?_
    simp only [compsB, List.mem_flatMap, List.mem_range, List.mem_map]
    exact ⟨0, hB, z, hz, rfl⟩
theorem bfold_in (c : List Int → Int) : ∀ (L : List (List Int)) (a : List Int × Int), (L.foldl (bstep c (fun _ => true)) a).1 = a.1 ∨ (L.foldl (bstep c (fun _ => true)) a).1 ∈ L := by
  intro L
  induction L with
  | nil => intro a; exact .inl rfl
  | cons y r ih =>
    intro a
    simp only [List.foldl_cons]
    have : (bstep c (fun _ => true) a y).1 = a.1 ∨ (bstep c (fun _ => true) a y).1 = y := by unfold bstep; split <;> simp
    rcases ih (bstep c (fun _ => true) a y) with h | h
    · rcases this with h2 | h2
      · exact .inl (h.trans h2)
      · exact .inr (by rw [h, h2]; exact List.mem_cons_self ..)
    · exact .inr (List.mem_cons_of_mem _ h)
theorem asgBest_mem (r : Ro) (hr : Good r) (ps : List Int) (day : Int) : (asgBest r ps day).length = ps.length ∧ ∀ h : Int, h ∈ asgBest r ps day → 0 ≤ h ∧ h < r.helpers.length := by
  have hn := hr.hn
  refine compsB_mem _ _ _ ?_
  unfold asgBest bfoldB
  obtain ⟨y, L, hL⟩ := List.exists_cons_of_ne_nil (compsB_ne r.helpers.length (by omega) ps.length)
  have e : (compsB r.helpers.length ps.length).map ([] ++ ·) = compsB r.helpers.length ps.length := by simp
  rw [e, hL]
  simp only [List.foldl_cons]
  have e2 : bstep (backI r ps day) (fun _ => true) ([], -1) y = (y, backI r ps day y) := by simp [bstep]
  rw [e2]
  rcases bfold_in (backI r ps day) L (y, backI r ps day y) with h | h
  · rw [h]; exact List.mem_cons_self ..
  · exact List.mem_cons_of_mem _ h
theorem againP_mem (r : Ro) (hr : Good r) : (∀ p : Int, p ∈ againP r → 0 ≤ p ∧ p < r.shares.length) ∧ (againP r).length ≤ 8 := by
  have hsn := hr.sn
  have hbl : (bestI r).length ≤ r.shares.length := by
    rcases bfold_mem costI (okB (numsL (tornI r) r.shares.length) (prsL (differI r) (r.shares.length - 1))) r.shares.length with h1 | ⟨h1, _⟩ <;> (unfold bestI; rw [h1])
    · simp
    · exact Nat.le_refl _
  have eA : againP r = numsL (fun i => decide (getI (bestI r) i = 0)) (bestI r).length := by unfold againP; rw [if_pos hr.e]
  rw [eA]
  refine ⟨fun p hp => ?_, ?_⟩
  · unfold numsL at hp
    simp only [List.mem_map, List.mem_filter, List.mem_range] at hp
    obtain ⟨i, ⟨h1, _⟩, rfl⟩ := hp
    simp only [Int.ofNat_eq_natCast]
    omega
  · have := numsL_le (fun i => decide (getI (bestI r) i = 0)) (bestI r).length
    omega
theorem Assign_ok (r : Ro) (hr : OKr r) (day : Int) : Gives Tryz.prog 23 [roE 0 r, i64 day] (fun _ => .tup [ints 0 (asgL r day), i64 (asgD r day), i64 (asgE r day)]) := by
  by_cases he : roundE r = 0
  · have hg := good_of hr he
    have hhn := hg.hn
    have hsn := hg.sn
    cases hdy : inB day 0 400 with
    | false =>
      have e1 : asgE r day = 2 := by simp [asgE, he, hdy]
      have e2 : asgL r day = [] := by simp [asgL, e1]
      have e3 : asgD r day = 0 := by simp [asgD, e1]
      rw [e1, e2, e3]
      refine pure_intro (ow := fun _ => false) Tryz.func23 Tryz.ntmps23 rfl (by kernel_rfl) (by simp) rfl (by decide) fun G hG hOw hNm hB => ?_; simp only [go_sem, hG, hOw]
      refine call_pureA (open_good r hr he) ?_
      simp only [go_sem, hG, hOw]
      (repeat' with_reducible first | refine And.intro ?_ ?_ | intro _ | refine exP ?_ ?_); all_goals try omega
      refine call_pureA (inH_one 0 400 day) ?_
      simp (maxSteps := 2000000) only [go_sem, hG, hOw, hdy]
      (repeat' with_reducible first | refine And.intro ?_ ?_ | intro _ | refine exP ?_ ?_); all_goals try omega
      all_goals exact Subs.tup (.cons (.nil _ _) (.cons (.refl _) (.cons (.refl _) .nil)))
    | true =>
      have e1 : asgE r day = 0 := by simp [asgE, he, hdy]
      have e2 : asgL r day = asgBest r (againP r) day := by simp [asgL, e1]
      have e3 : asgD r day = backI r (againP r) day (asgBest r (againP r) day) := by simp [asgD, e1, e2]
      rw [e1, e2, e3]
      have hA := hagain_ok r hg
      have eA : againP r = numsL (fun i => decide (getI (bestI r) i = 0)) (bestI r).length := by unfold againP; rw [if_pos he]
      rw [← eA] at hA
      have hd : 0 ≤ day ∧ day ≤ 400 := by simp only [inB, Bool.and_eq_true, decide_eq_true_eq] at hdy; exact hdy
      obtain ⟨hps, hpl⟩ := againP_mem r hg
      obtain ⟨ps, hpp⟩ : ∃ ps, ps = againP r := ⟨_, rfl⟩
      rw [← hpp] at hA hps hpl ⊢
      obtain ⟨b1, b2⟩ := asgBest_mem r hg ps day
      have hBest := best_okB r.helpers.length (by omega) ps.length (by omega) 56 [.fp [.fn (.func 53) [.fp [.fp (dkC 0 r)], .fp [ints 0 ps], .fp [i64 day]]]] rfl rfl (backI r ps day) (fun _ => true) (fun y hy1 hy2 => Assign2_ok r hg ps hps day hd y hy1 (by omega) hy2)
      have hBack := back_ok r hg ps hps day hd (asgBest r ps day) b1 (by omega) b2
      refine pure_intro (ow := fun _ => false) Tryz.func23 Tryz.ntmps23 rfl (by kernel_rfl) (by simp) rfl (by decide) fun G hG hOw hNm hB => ?_; simp only [go_sem, hG, hOw]
      refine call_pureA (open_good r hr he) ?_
      simp only [go_sem, hG, hOw]
      (repeat' with_reducible first | refine And.intro ?_ ?_ | intro _ | refine exP ?_ ?_); all_goals try omega
      refine call_pureA (inH_one 0 400 day) ?_
      simp (maxSteps := 2000000) only [go_sem, hG, hOw, hdy]
      (repeat' with_reducible first | refine And.intro ?_ ?_ | intro _ | refine exP ?_ ?_); all_goals try omega
      refine call_pure hA (by first | exact Subs.refl _ | (repeat' (first | exact Subs.nil | exact Sub.refl _ | exact Sub.lo (Nat.zero_le _) | refine Subs.cons ?_ ?_ | refine Subs.agg ?_ | refine Subs.fp ?_ | refine Subs.tup ?_ | refine Sub.map (Nat.zero_le _) (fun _ => ?_)))) (by first | rfl | simp [allP, all0, pureV, pure0, *]) (by simp [chk, hG]) ?_
      simp only [go_sem, hG, hOw]
      (repeat' with_reducible first | refine And.intro ?_ ?_ | intro _ | refine exP ?_ ?_); all_goals try omega
      refine semC_frz (fun i => [3, 7, 8, 9].contains i) ?_
      refine semC_draw0 mixed (by kernel_rfl) ?_
      simp only [go_sem, hG, hOw]
      (repeat' with_reducible first | refine And.intro ?_ ?_ | intro _ | refine exP ?_ ?_); all_goals try omega
      refine ⟨_, callGivesA (lists_okB r.helpers.length ps.length), ?_⟩
      simp only [go_sem, hG, hOw]
      (repeat' with_reducible first | refine And.intro ?_ ?_ | intro _ | refine exP ?_ ?_); all_goals try omega
      have hS : Pm.Sub (.fp (dkC G.lo r)) (.fp (dkC 0 r)) := by first | exact Subs.refl _ | (repeat' (first | exact Subs.nil | exact Sub.refl _ | exact Sub.lo (Nat.zero_le _) | refine Subs.cons ?_ ?_ | refine Subs.agg ?_ | refine Subs.fp ?_ | refine Subs.tup ?_ | refine Sub.map (Nat.zero_le _) (fun _ => ?_)))
      have hS5 : Pm.Sub (ints G.lo ps) (ints 0 ps) := .lo (Nat.zero_le _)
      have hC : Pm.Subs [.fp [.fp (dkC G.lo r)], .fp [ints G.lo ps], .fp [i64 day]] [.fp [.fp (dkC 0 r)], .fp [ints 0 ps], .fp [i64 day]] := .cons (Subs.fp (.cons hS .nil)) (.cons (Subs.fp (.cons hS5 .nil)) (.cons (.refl _) .nil))
      refine ⟨_, callGives hBest (.cons (.refl _) (.cons (Subs.fn (.cons (Subs.fp (.cons (Subs.fn hC) .nil)) .nil)) .nil)) (by first | rfl | simp [allP, all0, pureV, pure0, *]), ?_⟩
      simp only [go_sem, hG, hOw]
      (repeat' with_reducible first | refine And.intro ?_ ?_ | intro _ | refine exP ?_ ?_); all_goals try omega
      refine call_pure hBack (.cons (.refl _) hC) (by first | rfl | simp [allP, all0, pureV, pure0, *]) (by simp [chk, hG]) ?_
      simp only [go_sem, hG, hOw]
      (repeat' with_reducible first | refine And.intro ?_ ?_ | intro _ | refine exP ?_ ?_); all_goals try omega
      exact .refl _
  · have e1 : asgE r day = roundE r := by simp [asgE, he]
    have e2 : asgL r day = [] := by simp [asgL, e1, he]
    have e3 : asgD r day = 0 := by simp [asgD, e1, he]
    rw [e1, e2, e3]
    refine pure_intro (ow := fun _ => false) Tryz.func23 Tryz.ntmps23 rfl (by kernel_rfl) (by simp) rfl (by decide) fun G hG hOw hNm hB => ?_; simp only [go_sem, hG, hOw]
    refine call_pureA (open_bad r hr he) ?_
    simp only [go_sem, hG, hOw]
    (repeat' with_reducible first | refine And.intro ?_ ?_ | intro _ | refine exP ?_ ?_); all_goals try omega
    all_goals exact Subs.tup (.cons (.nil _ _) (.cons (.refl _) (.cons (.refl _) .nil)))
end Go.Proofs.YtagfopbijboajaaGreatDoor
