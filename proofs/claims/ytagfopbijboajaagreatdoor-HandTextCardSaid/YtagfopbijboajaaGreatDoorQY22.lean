import Derived.Test.YtagfopbijboajaaGreatDoorQY13
import Derived.Test.YtagfopbijboajaaGreatDoorQY15
import Derived.Test.YtagfopbijboajaaGreatDoorQY19
namespace Go.Proofs.YtagfopbijboajaaGreatDoor
open Go Pm
set_option linter.unusedSimpArgs false
set_option linter.unusedVariables false
set_option maxHeartbeats 4000000
set_option maxRecDepth 100000
abbrev M2 := List ((Nat × Nat) × Int)
def mk2 (p : Nat × Nat) : Value := .agg ⟨[.int .i64 p.1, .int .i64 p.2]⟩
def memoV (m : M2) : List (Value × V) := m.map fun q => (mk2 q.1, .v (.int .i64 q.2))
def mget : M2 → Nat × Nat → Option Int
  | [], _ => none
  | q :: r, p => if q.1 = p then some q.2 else mget r p
def mput : M2 → Nat × Nat → Int → M2
  | [], p, v => [(p, v)]
  | q :: r, p, v => if q.1 = p then (p, v) :: r else q :: mput r p v
theorem mget_put (m : M2) (p q : Nat × Nat) (v : Int) : mget (mput m p v) q = if p = q then some v else mget m q := by
  induction m with
  | nil => simp [mput, mget]
  | cons x r ih =>
    unfold mput
    split
    · rename_i h
      simp only [mget]
      split
      · rfl
      · rename_i h2; rw [if_neg (by rw [h]; exact h2)]
    · rename_i h
      simp only [mget, ih]
      split
      · rename_i h2
        rw [if_neg (fun h3 => h (by rw [h3, h2]))]
      · rfl
theorem key2 (q p : Nat × Nat) : keyB (mk2 q) (mk2 p) = decide (q = p) := by
  obtain ⟨a, b⟩ := q
  obtain ⟨c, d⟩ := p
  simp only [mk2, keyB, eqXs, eqX, Bool.and_true]
  rw [show decide ((a, b) = (c, d)) = (decide (a = c) && decide (b = d)) by simp [Prod.mk.injEq]]
  congr 1 <;> (apply decide_eq_decide.2; omega)
theorem lkM_memo (m : M2) (i k : Nat) : lkM (memoV m) (.agg ⟨[.int .i64 i, .int .i64 k]⟩) = (mget m (i, k)).map fun n => .v (.int .i64 n) := by
  show lkM (memoV m) (mk2 (i, k)) = _
  induction m with
  | nil => rfl
  | cons x r ih =>
    simp only [memoV, List.map_cons, lkM, mget, key2] at ih ⊢
    by_cases h : x.1 = (i, k)
    · simp [h]
    · simp [h, ih]
theorem upM_memo (m : M2) (i k : Nat) (v : Int) : upM (memoV m) (.agg ⟨[.int .i64 i, .int .i64 k]⟩) (.v (.int .i64 v)) = memoV (mput m (i, k) v) := by
  show upM (memoV m) (mk2 (i, k)) _ = _
  induction m with
  | nil => rfl
  | cons x r ih =>
    simp only [memoV, List.map_cons, upM, mput, key2] at ih ⊢
    by_cases h : x.1 = (i, k)
    · simp [h]
    · simp [h, ih]
theorem okL_vals {f : V → V → Prop} (hf : ∀ n, f (.v (.int .i64 n)) (.v (.int .i64 n))) (m : M2) : okL f ((memoV m).map fun q => q.2) ((memoV m).map fun q => q.2) := by
  induction m with
  | nil => exact trivial
  | cons x r ih => exact ⟨hf _, ih⟩
theorem okL_memo {f : V → V → Prop} (m : M2) (hf : ∀ n, f (.v (.int .i64 n)) (.v (.int .i64 n))) : okL f ((memoV m).map fun q => q.2) ((memoV m).map fun q => q.2) = True := eq_true (okL_vals hf m)
theorem ren_memo {f : Value × V → Value × V} (m : M2) (hf : ∀ k n, f (k, .v (.int .i64 n)) = (k, .v (.int .i64 n))) : (memoV m).map f = memoV m := by
  induction m with
  | nil => rfl
  | cons x r ih =>
    simp only [memoV, List.map_cons] at ih ⊢
    rw [hf, ih]
attribute [simp, go_sem] okL_memo
attribute [go_sem] ren_memo
def GoodM (f : Nat → Nat → Int) (m : M2) : Prop := ∀ p v, mget m p = some v → v = f p.1 p.2
theorem GoodM.put {f : Nat → Nat → Int} {m : M2} (h : GoodM f m) (i k : Nat) (v : Int) (hv : v = f i k) : GoodM f (mput m (i, k) v) := by
  intro p u hu
  rw [mget_put] at hu
  split at hu
  · rename_i e; cases hu; subst e; exact hv
  · exact h p u hu
theorem GoodM.nil (f : Nat → Nat → Int) : GoodM f [] := fun _ _ h => by cases h

def wayC : List V := [.v (.int .u8 3), i64 1, i64 1, .v (.int .u8 1), i64 1, i64 0, .v (.int .u8 2), i64 0, i64 1]
def wyk : Nat → Int
  | 0 => 0
  | 1 => 3
  | 2 => 1
  | _ => 2
def wyo : Nat → Int
  | 0 => 0
  | 1 => 1
  | 2 => 1
  | _ => 0
def wyt : Nat → Int
  | 0 => 0
  | 1 => 1
  | 2 => 0
  | _ => 1
def wayV (n : Nat) : List V := [.v (.int .u8 (wyk n)), .v (.int .i64 (wyo n)), .v (.int .i64 (wyt n))]
attribute [simp, go_sem] wayV
theorem wk0 : wyk 0 = 0 ∧ wyo 0 = 0 ∧ wyt 0 = 0 := ⟨rfl, rfl, rfl⟩
theorem wk1 : wyk 1 = 3 ∧ wyo 1 = 1 ∧ wyt 1 = 1 := ⟨rfl, rfl, rfl⟩
theorem wk2 : wyk 2 = 1 ∧ wyo 2 = 1 ∧ wyt 2 = 0 := ⟨rfl, rfl, rfl⟩
theorem wk3 : wyk 3 = 2 ∧ wyo 3 = 0 ∧ wyt 3 = 1 := ⟨rfl, rfl, rfl⟩
def hR (a b : Ln) (m : M2) : List (Nat × OB) := [(108, .box [.mp 121]), (121, .map (.agg [.int .i64, .int .i64]) (memoV m)),
  (109, .box [.fn (.func 144) [.ptr 108 0, .fp [strs 0 a], .fp [strs 0 b], .ptr 109 0, .ptr 110 0]]),
  (110, .box [.fn (.func 143) [.fp [strs 0 a], .fp [strs 0 b], .fp wayC, .ptr 109 0]])]
attribute [simp, go_sem] hR wayC
def FewOK (a b : Ln) (N : Nat) : Prop := ∀ (i k : Nat) (m : M2), i ≤ a.length → k ≤ b.length → (a.length - i) + (b.length - k) < N → GoodM (fewAt a b) m →
  ∃ m', GoodM (fewAt a b) m' ∧ Tri Tryz.prog 144 [i64 i, i64 k, .ptr 108 0, .fp [strs 0 a], .fp [strs 0 b], .ptr 109 0, .ptr 110 0] (hR a b m) (fun _ => .ret (i64 (fewAt a b i k)) (hR a b m'))
theorem next_ok (a b : Ln) (ha : a.length ≤ 1000) (hb : b.length ≤ 1000) (N : Nat) (ih : FewOK a b N) (i k : Nat) (hi : i ≤ a.length) (hk : k ≤ b.length) (hr : (a.length - i) + (b.length - k) ≤ N) (m : M2) (hm : GoodM (fewAt a b) m) :
    ∃ m', GoodM (fewAt a b) m' ∧ Tri Tryz.prog 143 [i64 i, i64 k, .fp [strs 0 a], .fp [strs 0 b], .fp wayC, .ptr 109 0] (hR a b m)
      (fun _ => .ret (.tup [.agg (wayV (way3 a b i k 3).2), i64 (way3 a b i k 3).1]) (hR a b m')) := by
  have step : ∀ (c : Prop) (i' k' : Nat) (m : M2), GoodM (fewAt a b) m → (c → i' ≤ a.length ∧ k' ≤ b.length ∧ (a.length - i') + (b.length - k') < N) → ∃ m', GoodM (fewAt a b) m' ∧
      (c → Tri Tryz.prog 144 [i64 i', i64 k', .ptr 108 0, .fp [strs 0 a], .fp [strs 0 b], .ptr 109 0, .ptr 110 0] (hR a b m) (fun _ => .ret (i64 (fewAt a b i' k')) (hR a b m'))) ∧ (¬ c → m' = m) := by
    intro c i' k' m hm hc
    by_cases h : c
    · obtain ⟨q1, q2, q3⟩ := hc h
      obtain ⟨m', g1, g2⟩ := ih i' k' m q1 q2 q3 hm
      exact ⟨m', g1, fun _ => g2, fun h' => (h' h).elim⟩
    · exact ⟨m, hm, fun h' => (h h').elim, fun _ => rfl⟩
  obtain ⟨m1, g1, t1, u1⟩ := step (i + 1 ≤ a.length ∧ k + 1 ≤ b.length) (i + 1) (k + 1) m hm (fun h => ⟨h.1, h.2, by omega⟩)
  obtain ⟨m2, g2, t2, u2⟩ := step (i + 1 ≤ a.length) (i + 1) k m1 g1 (fun h => ⟨h, hk, by omega⟩)
  obtain ⟨m3, g3, t3, u3⟩ := step (k + 1 ≤ b.length) i (k + 1) m2 g2 (fun h => ⟨hi, h, by omega⟩)
  refine ⟨m3, g3, ?_⟩
  obtain ⟨mm, h0, h1, h2, h3⟩ : ∃ mm : Nat → M2, mm 0 = m ∧ mm 1 = m1 ∧ mm 2 = m2 ∧ mm 3 = m3 := ⟨fun | 0 => m | 1 => m1 | 2 => m2 | _ => m3, rfl, rfl, rfl, rfl⟩
  obtain ⟨wy, hwy⟩ : ∃ wy : Nat → Int × Nat, wy = way3 a b i k := ⟨_, rfl⟩
  have w0 : wy 0 = ((a.length : Int) + b.length + 1, 0) := by rw [hwy]; rfl
  have w1 : wy 1 = sel (i + 1 ≤ a.length ∧ k + 1 ≤ b.length) (fewAt a b (i + 1) (k + 1)) (wy 0) 1 := by rw [hwy]; rfl
  have w2 : wy 2 = sel (i + 1 ≤ a.length) (fewAt a b (i + 1) k) (wy 1) 2 := by rw [hwy]; rfl
  have w3 : wy 3 = sel (k + 1 ≤ b.length) (fewAt a b i (k + 1)) (wy 2) 3 := by rw [hwy]; rfl
  rw [← hwy, ← h3]
  rw [← h0]
  refine tri_intro (fun _ => false) Tryz.func143 Tryz.ntmps143 rfl (by kernel_rfl) (by simp) rfl (by decide) fun G hG hOw hNm => ?_; simp only [go_sem, hG, hOw]
  (repeat' with_reducible first | refine And.intro ?_ ?_ | intro _ | refine exP ?_ ?_); all_goals try omega
  refine semC_loop (fun j : Nat => St.of [(0, i64 i), (1, i64 k), (2, .fp [strs 0 a]), (3, .fp [strs 0 b]), (5, .ptr 109 0), (8, .ptr 8 0), (9, i64 (wy j).1), (19, .agg wayC), (20, i64 j)] ((8, .box (wayV (wy j).2)) :: hR a b (mm j))) (fun j => j ≤ 3) (fun j => 3 - j) 0 (by simp) (entA [(8, some 8), (108, some 108), (121, some 121), (109, some 109), (110, some 110)] (by (simp only [go_sem]) <;> simp [w0,wk0]) (by (simp only [go_sem, entH, entH1, nilArr, obOK]) <;> simp [w0,wk0])) ?_
  rintro j hj
  have c0 : ((0 : Nat) : Int) = 0 := rfl
  have c1 : ((1 : Nat) : Int) = 1 := rfl
  have c2 : ((2 : Nat) : Int) = 2 := rfl
  have c3 : ((3 : Nat) : Int) = 3 := rfl
  have i1 : Int.toNat 1 = 1 := rfl
  have i2 : Int.toNat 2 = 2 := rfl
  have hj4 : j = 0 ∨ j = 1 ∨ j = 2 ∨ j = 3 := by omega
  rcases hj4 with rfl | rfl | rfl | rfl
  · have no : ¬ (i + 1 ≤ a.length ∧ k + 1 ≤ b.length) → wy 1 = wy 0 ∧ mm 1 = mm 0 := fun h => ⟨by rw [w1]; unfold sel; rw [if_neg (fun h' => h h'.1)], by rw [h0, h1]; exact u1 h⟩
    refine vc_sound _ _ _ ?_
    simp (maxSteps := 2000000) only [go_sem, hG, hOw, c0, c1, c2, c3, i1, i2, Nat.reduceMul, Int.add_zero]
    (repeat' with_reducible first | refine And.intro ?_ ?_ | intro _ | refine exP ?_ ?_); all_goals try omega
    all_goals first
      | (obtain ⟨e, em⟩ := no (by omega)
         refine ⟨1, by omega, by omega, ?_⟩
         rw [e, em]
         exact entA [(8, some 8), (108, some 108), (121, some 121), (109, some 109), (110, some 110)])
      | skip
    have T := t1 (by omega)
    rw [← h0, ← h1] at T
    simp only [Int.natCast_add, Int.cast_ofNat_Int] at T
    refine call_tri [(108, 108), (121, 121), (109, 109), (110, 110)] [] (T) (by (simp only [go_sem]) <;> simp) (by (simp only [go_sem, entH, entH1, nilArr, obOK]) <;> simp) (by simp [injR, apart, toR]) (by simp [coverR, usH, toR]) (by simp [uniqP, lkR, toR]) (by simp [chk, hG]) ?_
    simp only [go_sem, hG, hOw]
    (repeat' with_reducible first | refine And.intro ?_ ?_ | intro _ | refine exP ?_ ?_); all_goals try omega
    · rename_i hlt
      have e : wy 1 = (fewAt a b (i + 1) (k + 1), 1) := by rw [w1]; unfold sel; rw [if_pos ⟨by omega, hlt⟩]
      refine ⟨1, by omega, by omega, ?_⟩
      rw [e]
      exact entA [(8, some 8), (108, some 108), (121, some 121), (109, some 109), (110, some 110)] (by (simp only [go_sem]) <;> simp [wk1,wk2,wk3]) (by (simp only [go_sem, entH, entH1, nilArr, obOK]) <;> simp [wk1,wk2,wk3])
    · rename_i hge
      have e : wy 1 = wy 0 := by rw [w1]; unfold sel; rw [if_neg (fun h' => hge h'.2)]
      refine ⟨1, by omega, by omega, ?_⟩
      rw [e]
      exact entA [(8, some 8), (108, some 108), (121, some 121), (109, some 109), (110, some 110)]
  · have no : ¬ (i + 1 ≤ a.length) → wy 2 = wy 1 ∧ mm 2 = mm 1 := fun h => ⟨by rw [w2]; unfold sel; rw [if_neg (fun h' => h h'.1)], by rw [h1, h2]; exact u2 h⟩
    refine vc_sound _ _ _ ?_
    simp (maxSteps := 2000000) only [go_sem, hG, hOw, c0, c1, c2, c3, i1, i2, Nat.reduceMul, Int.add_zero]
    (repeat' with_reducible first | refine And.intro ?_ ?_ | intro _ | refine exP ?_ ?_); all_goals try omega
    all_goals first
      | (obtain ⟨e, em⟩ := no (by omega)
         refine ⟨2, by omega, by omega, ?_⟩
         rw [e, em]
         exact entA [(8, some 8), (108, some 108), (121, some 121), (109, some 109), (110, some 110)])
      | skip
    have T := t2 (by omega)
    rw [← h1, ← h2] at T
    simp only [Int.natCast_add, Int.cast_ofNat_Int] at T
    refine call_tri [(108, 108), (121, 121), (109, 109), (110, 110)] [] (T) (by (simp only [go_sem]) <;> simp) (by (simp only [go_sem, entH, entH1, nilArr, obOK]) <;> simp) (by simp [injR, apart, toR]) (by simp [coverR, usH, toR]) (by simp [uniqP, lkR, toR]) (by simp [chk, hG]) ?_
    simp only [go_sem, hG, hOw]
    (repeat' with_reducible first | refine And.intro ?_ ?_ | intro _ | refine exP ?_ ?_); all_goals try omega
    · rename_i hlt
      have e : wy 2 = (fewAt a b (i + 1) k, 2) := by rw [w2]; unfold sel; rw [if_pos ⟨by omega, hlt⟩]
      refine ⟨2, by omega, by omega, ?_⟩
      rw [e]
      exact entA [(8, some 8), (108, some 108), (121, some 121), (109, some 109), (110, some 110)] (by (simp only [go_sem]) <;> simp [wk1,wk2,wk3]) (by (simp only [go_sem, entH, entH1, nilArr, obOK]) <;> simp [wk1,wk2,wk3])
    · rename_i hge
      have e : wy 2 = wy 1 := by rw [w2]; unfold sel; rw [if_neg (fun h' => hge h'.2)]
      refine ⟨2, by omega, by omega, ?_⟩
      rw [e]
      exact entA [(8, some 8), (108, some 108), (121, some 121), (109, some 109), (110, some 110)]
  · have no : ¬ (k + 1 ≤ b.length) → wy 3 = wy 2 ∧ mm 3 = mm 2 := fun h => ⟨by rw [w3]; unfold sel; rw [if_neg (fun h' => h h'.1)], by rw [h2, h3]; exact u3 h⟩
    refine vc_sound _ _ _ ?_
    simp (maxSteps := 2000000) only [go_sem, hG, hOw, c0, c1, c2, c3, i1, i2, Nat.reduceMul, Int.add_zero]
    (repeat' with_reducible first | refine And.intro ?_ ?_ | intro _ | refine exP ?_ ?_); all_goals try omega
    all_goals first
      | (obtain ⟨e, em⟩ := no (by omega)
         refine ⟨3, by omega, by omega, ?_⟩
         rw [e, em]
         exact entA [(8, some 8), (108, some 108), (121, some 121), (109, some 109), (110, some 110)])
      | skip
    have T := t3 (by omega)
    rw [← h2, ← h3] at T
    simp only [Int.natCast_add, Int.cast_ofNat_Int] at T
    refine call_tri [(108, 108), (121, 121), (109, 109), (110, 110)] [] (T) (by (simp only [go_sem]) <;> simp) (by (simp only [go_sem, entH, entH1, nilArr, obOK]) <;> simp) (by simp [injR, apart, toR]) (by simp [coverR, usH, toR]) (by simp [uniqP, lkR, toR]) (by simp [chk, hG]) ?_
    simp only [go_sem, hG, hOw]
    (repeat' with_reducible first | refine And.intro ?_ ?_ | intro _ | refine exP ?_ ?_); all_goals try omega
    · rename_i hlt
      have e : wy 3 = (fewAt a b i (k + 1), 3) := by rw [w3]; unfold sel; rw [if_pos ⟨by omega, hlt⟩]
      refine ⟨3, by omega, by omega, ?_⟩
      rw [e]
      exact entA [(8, some 8), (108, some 108), (121, some 121), (109, some 109), (110, some 110)] (by (simp only [go_sem]) <;> simp [wk1,wk2,wk3]) (by (simp only [go_sem, entH, entH1, nilArr, obOK]) <;> simp [wk1,wk2,wk3])
    · rename_i hge
      have e : wy 3 = wy 2 := by rw [w3]; unfold sel; rw [if_neg (fun h' => hge h'.2)]
      refine ⟨3, by omega, by omega, ?_⟩
      rw [e]
      exact entA [(8, some 8), (108, some 108), (121, some 121), (109, some 109), (110, some 110)]
  · refine vc_sound _ _ _ ?_
    simp (maxSteps := 2000000) only [go_sem, hG, hOw, c0, c1, c2, c3, i1, i2, Nat.reduceMul]
    (repeat' with_reducible first | refine And.intro ?_ ?_ | intro _ | refine exP ?_ ?_); all_goals try omega
    exact ⟨[(108, some 108), (121, some 121), (109, some 109), (110, some 110)], by (simp only [EndT, go_sem, entH, entH1, nilArr, obOK, apart, injR, coverR]) <;> simp⟩
open Go Pm
set_option maxHeartbeats 4000000
set_option maxRecDepth 100000
theorem fewest_ok (a b : Ln) (ha : a.length ≤ 1000) (hb : b.length ≤ 1000) : ∀ N, FewOK a b N := by
  intro N
  induction N with
  | zero => intro i k m _ _ h; omega
  | succ N ih =>
    intro i k m hi hk hr hm
    have lk := lkM_memo m i k
    have bd := fewAt_bd a b i k
    cases hg : mget m (i, k) with
    | some v =>
      refine ⟨m, hm, ?_⟩
      rw [hg] at lk
      have hv := hm _ _ hg
      simp only at hv
      subst hv
      refine tri_intro (fun _ => false) Tryz.func144 Tryz.ntmps144 rfl (by kernel_rfl) (by simp) rfl (by decide) fun G hG hOw hNm => ?_; simp only [go_sem, hG, hOw]
      simp (maxSteps := 2000000) only [go_sem, hG, hOw, lk, Option.map_some, Option.isSome_some, Option.getD_some]
      (repeat' with_reducible first | refine And.intro ?_ ?_ | intro _ | refine exP ?_ ?_); all_goals try omega
      exact ⟨[(108, some 108), (121, some 121), (109, some 109), (110, some 110)], by (simp only [EndT, go_sem, entH, entH1, nilArr, obOK, apart, injR, coverR]) <;> simp⟩
    | none =>
      rw [hg] at lk
      by_cases hend : i = a.length ∧ k = b.length
      · obtain ⟨rfl, rfl⟩ := hend
        have up := upM_memo m a.length b.length 0
        have e0 := fewAt_end a b
        refine ⟨mput m (a.length, b.length) 0, hm.put _ _ _ (fewAt_end a b).symm, ?_⟩
        refine tri_intro (fun _ => false) Tryz.func144 Tryz.ntmps144 rfl (by kernel_rfl) (by simp) rfl (by decide) fun G hG hOw hNm => ?_; simp only [go_sem, hG, hOw]
        simp (maxSteps := 2000000) only [go_sem, hG, hOw, lk, up, Option.map_none, Option.isSome_none, Option.getD_none]
        (repeat' with_reducible first | refine And.intro ?_ ?_ | intro _ | refine exP ?_ ?_); all_goals try omega
        exact ⟨[(108, some 108), (121, some 121), (109, some 109), (110, some 110)], by (simp only [EndT, go_sem, entH, entH1, nilArr, obOK, apart, injR, coverR]) <;> simp [e0]⟩
      · by_cases heq : ∃ (h1 : i < a.length) (h2 : k < b.length), a[i] = b[k]
        · obtain ⟨h1, h2, heq⟩ := heq
          have e1 := fewAt_eq a b i k h1 h2 heq
          obtain ⟨m1, g1, T⟩ := ih (i + 1) (k + 1) m (by omega) (by omega) (by omega) hm
          rw [← e1] at T
          simp only [Int.natCast_add, Int.cast_ofNat_Int] at T
          have up := upM_memo m1 i k (fewAt a b i k)
          refine ⟨mput m1 (i, k) (fewAt a b i k), g1.put _ _ _ rfl, ?_⟩
          refine tri_intro (fun _ => false) Tryz.func144 Tryz.ntmps144 rfl (by kernel_rfl) (by simp) rfl (by decide) fun G hG hOw hNm => ?_; simp only [go_sem, hG, hOw]
          simp (maxSteps := 2000000) only [go_sem, hG, hOw, lk, Option.map_none, Option.isSome_none, Option.getD_none]
          (repeat' with_reducible first | refine And.intro ?_ ?_ | intro _ | refine exP ?_ ?_); all_goals try omega
          refine semC_draw0 mixed (by kernel_rfl) ?_
          simp (maxSteps := 2000000) only [go_sem, hG, hOw, heq, decide_true]
          (repeat' with_reducible first | refine And.intro ?_ ?_ | intro _ | refine exP ?_ ?_); all_goals try omega
          refine call_tri [(108, 108), (121, 121), (109, 109), (110, 110)] [] (T) (by (simp only [go_sem]) <;> simp) (by (simp only [go_sem, entH, entH1, nilArr, obOK]) <;> simp) (by simp [injR, apart, toR]) (by simp [coverR, usH, toR]) (by simp [uniqP, lkR, toR]) (by simp [chk, hG]) ?_
          simp (maxSteps := 2000000) only [go_sem, hG, hOw, up]
          (repeat' with_reducible first | refine And.intro ?_ ?_ | intro _ | refine exP ?_ ?_); all_goals try omega
          exact ⟨[(108, some 108), (121, some 121), (109, some 109), (110, some 110)], by (simp only [EndT, go_sem, entH, entH1, nilArr, obOK, apart, injR, coverR]) <;> simp⟩
        · have hd : ∀ (h1 : i < a.length) (h2 : k < b.length), a[i] ≠ b[k] := fun h1 h2 h => heq ⟨h1, h2, h⟩
          have hdf : ∀ (h1 : i < a.length) (h2 : k < b.length), (a[i] = b[k]) = False := fun h1 h2 => eq_false (hd h1 h2)
          obtain ⟨e1, _⟩ := way3_few a b i k hi hk (by omega) hd
          obtain ⟨m1, g1, T⟩ := next_ok a b ha hb N ih i k hi hk (by omega) m hm
          obtain ⟨wn, hwn⟩ : ∃ n, n = (way3 a b i k 3).1 := ⟨_, rfl⟩
          obtain ⟨wy, hwy⟩ : ∃ n, n = (way3 a b i k 3).2 := ⟨_, rfl⟩
          rw [← hwn, ← hwy] at T
          rw [← hwn] at e1
          have up := upM_memo m1 i k (fewAt a b i k)
          refine ⟨mput m1 (i, k) (fewAt a b i k), g1.put _ _ _ rfl, ?_⟩
          refine tri_intro (fun _ => false) Tryz.func144 Tryz.ntmps144 rfl (by kernel_rfl) (by simp) rfl (by decide) fun G hG hOw hNm => ?_; simp only [go_sem, hG, hOw]
          simp (maxSteps := 2000000) only [go_sem, hG, hOw, lk, Option.map_none, Option.isSome_none, Option.getD_none]
          (repeat' with_reducible first | refine And.intro ?_ ?_ | intro _ | refine exP ?_ ?_); all_goals try omega
          all_goals refine semC_draw0 mixed (by kernel_rfl) ?_
          all_goals simp (maxSteps := 2000000) only [go_sem, hG, hOw, hdf, decide_false]
          all_goals (repeat' with_reducible first | refine And.intro ?_ ?_ | intro _ | refine exP ?_ ?_); all_goals try omega
          all_goals refine call_tri [(108, 108), (121, 121), (109, 109), (110, 110)] [] (T) (by (simp only [go_sem]) <;> simp) (by (simp only [go_sem, entH, entH1, nilArr, obOK]) <;> simp) (by simp [injR, apart, toR]) (by simp [coverR, usH, toR]) (by simp [uniqP, lkR, toR]) (by simp [chk, hG]) ?_
          all_goals simp (maxSteps := 2000000) only [go_sem, hG, hOw, e1, up]
          all_goals (repeat' with_reducible first | refine And.intro ?_ ?_ | intro _ | refine exP ?_ ?_); all_goals try omega
          all_goals exact ⟨[(108, some 108), (121, some 121), (109, some 109), (110, some 110)], by (simp only [EndT, go_sem, entH, entH1, nilArr, obOK, apart, injR, coverR]) <;> simp⟩
open Go Pm
set_option maxHeartbeats 4000000
set_option maxRecDepth 100000
def rds (a b : Ln) (c l : Int) : Nat → Nat → Nat → List (List V)
  | 0, _, _ => []
  | n + 1, i, k =>
    if i = a.length ∧ k = b.length then []
    else if i < a.length ∧ k < b.length ∧ a[i]? = b[k]? then rds a b c l n (i + 1) (k + 1)
    else
      [.v (.int .i64 c), .v (.int .i64 l), .v (.int .i64 i), .v (.int .u8 (wyk (way3 a b i k 3).2)), .v (.string (if wyt (way3 a b i k 3).2 = 1 then (b[k]?).getD ByteArray.empty else ByteArray.empty))]
        :: rds a b c l n (i + (wayI (way3 a b i k 3).2).1) (k + (wayI (way3 a b i k 3).2).2)
theorem wyt_eq (n : Nat) : wyt n = ((wayI n).2 : Int) := by
  match n with
  | 0 => rfl
  | 1 => rfl
  | 2 => rfl
  | n + 3 => rfl
theorem wyo_eq (n : Nat) : wyo n = ((wayI n).1 : Int) := by
  match n with
  | 0 => rfl
  | 1 => rfl
  | 2 => rfl
  | n + 3 => rfl
theorem wayI_pos (n : Nat) (h : 0 < n) : 0 < (wayI n).1 + (wayI n).2 ∧ (wayI n).2 ≤ 1 := by
  match n with
  | 1 => decide
  | 2 => decide
  | n + 3 => exact ⟨by show 0 < 0 + 1; omega, Nat.le_refl _⟩
theorem rds_len (a b : Ln) (c l : Int) : ∀ (n i k : Nat), i ≤ a.length → k ≤ b.length → (a.length - i) + (b.length - k) ≤ n → ((rds a b c l n i k).length : Int) = fewAt a b i k := by
  intro n
  induction n with
  | zero =>
    intro i k hi hk h
    obtain rfl : i = a.length := by omega
    obtain rfl : k = b.length := by omega
    rw [fewAt_end]; rfl
  | succ n ih =>
    intro i k hi hk h
    unfold rds
    split
    · rename_i he
      obtain ⟨rfl, rfl⟩ := he
      rw [fewAt_end]; rfl
    · rename_i hne
      split
      · rename_i he
        obtain ⟨h1, h2, h3⟩ := he
        rw [List.getElem?_eq_getElem h1, List.getElem?_eq_getElem h2, Option.some.injEq] at h3
        rw [fewAt_eq a b i k h1 h2 h3]
        exact ih _ _ (by omega) (by omega) (by omega)
      · rename_i hd
        obtain ⟨q1, q2, q3, q4, q5, q6⟩ := way3_few a b i k hi hk (by omega) fun h1 h2 e => hd ⟨h1, h2, by rw [List.getElem?_eq_getElem h1, List.getElem?_eq_getElem h2, e]⟩
        have := wayI_pos _ q3
        rw [List.length_cons, ← q1, ← q6]
        have := ih (i + (wayI (way3 a b i k 3).2).1) (k + (wayI (way3 a b i k 3).2).2) q4 q5 (by omega)
        omega
theorem memoV_nil : memoV [] = [] := rfl
attribute [simp, go_sem] memoV_nil
def hL (a b : Ln) (m : M2) : List (Nat × OB) := [(8, .box [.mp 21]), (21, .map (.agg [.int .i64, .int .i64]) (memoV m)),
  (9, .box [.fn (.func 144) [.ptr 8 0, .fp [strs 0 a], .fp [strs 0 b], .ptr 9 0, .ptr 10 0]]),
  (10, .box [.fn (.func 143) [.fp [strs 0 a], .fp [strs 0 b], .fp wayC, .ptr 9 0]])]
attribute [simp, go_sem] hL
theorem readings_ok (a b : Ln) (ha : a.length ≤ 1000) (hb : b.length ≤ 1000) (c l : Int) : Gives Tryz.prog 142 [strs 0 a, strs 0 b, .agg [i64 c, i64 l, i64 0]] (fun n => .lst n 5 (rds a b c l (a.length + b.length) 0 0)) := by
  refine pure_intro (ow := fun _ => false) Tryz.func142 Tryz.ntmps142 rfl (by kernel_rfl) (by simp) rfl (by decide) fun G hG hOw hNm hB => ?_; simp only [go_sem, hG, hOw]
  (repeat' with_reducible first | refine And.intro ?_ ?_ | intro _ | refine exP ?_ ?_); all_goals try omega
  obtain ⟨R, hR⟩ : ∃ R, R = rds a b c l (a.length + b.length) 0 0 := ⟨_, rfl⟩
  rw [← hR]
  have hRl : R.length ≤ 2000 := by
    have h1 := rds_len a b c l (a.length + b.length) 0 0 (by omega) (by omega) (by omega)
    have h2 := fewAt_bd a b 0 0
    rw [← hR] at h1
    omega
  refine semC_loop (fun x : Nat × Nat × List (List V) × M2 => St.of [(3, .fp [strs 0 a]), (4, .fp [strs 0 b]), (5, .fp [i64 c, i64 l, i64 0]), (10, .ptr 10 0), (11, .own 30 0 x.2.2.1.length 5), (12, i64 x.1), (13, i64 x.2.1)] ((30, .arr 215 5 x.2.2.1) :: hL a b x.2.2.2))
    (fun x => x.1 ≤ a.length ∧ x.2.1 ≤ b.length ∧ GoodM (fewAt a b) x.2.2.2 ∧ ∃ n, (a.length - x.1) + (b.length - x.2.1) ≤ n ∧ x.2.2.1 ++ rds a b c l n x.1 x.2.1 = R) (fun x => (a.length - x.1) + (b.length - x.2.1)) (0, 0, [], []) ⟨by simp, by simp, GoodM.nil _, a.length + b.length, by simp, by simp [hR]⟩
    (ent_frz (fun i => [3, 4, 5, 7].contains i) (entA [(8, some 8), (21, some 21), (9, some 9), (10, some 10), (30, none)])) ?_
  rintro ⟨i, k, L, m⟩ ⟨hi, hk, hm, n, hn, hL⟩
  simp only at hi hk hm hn hL
  have hLl : L.length ≤ 2000 := by rw [← hL, List.length_append] at hRl; omega
  refine vc_sound _ _ _ ?_
  by_cases hend : i = a.length ∧ k = b.length
  · obtain ⟨rfl, rfl⟩ := hend
    have e : rds a b c l n a.length b.length = [] := by
      cases n with
      | zero => rfl
      | succ n => unfold rds; rw [if_pos ⟨rfl, rfl⟩]
    rw [e, List.append_nil] at hL
    subst hL
    simp only [go_sem, hG, hOw]
    (repeat' with_reducible first | refine And.intro ?_ ?_ | intro _ | refine exP ?_ ?_); all_goals try omega
    all_goals exact .refl _
  obtain ⟨n, rfl⟩ : ∃ n', n = n' + 1 := ⟨n - 1, by omega⟩
  by_cases heq : ∃ (h1 : i < a.length) (h2 : k < b.length), a[i] = b[k]
  · obtain ⟨h1, h2, heq⟩ := heq
    have e : rds a b c l (n + 1) i k = rds a b c l n (i + 1) (k + 1) := by
      conv => lhs; unfold rds
      rw [if_neg hend, if_pos ⟨h1, h2, by rw [List.getElem?_eq_getElem h1, List.getElem?_eq_getElem h2, heq]⟩]
    rw [e] at hL
    simp only [go_sem, hG, hOw]
    (repeat' with_reducible first | refine And.intro ?_ ?_ | intro _ | refine exP ?_ ?_); all_goals try omega
    refine semC_draw0 mixed (by kernel_rfl) ?_
    simp (maxSteps := 2000000) only [go_sem, hG, hOw, heq, decide_true]
    (repeat' with_reducible first | refine And.intro ?_ ?_ | intro _ | refine exP ?_ ?_); all_goals try omega
    refine ⟨(i + 1, k + 1, L, m), ⟨by simp only; omega, by simp only; omega, hm, n, by simp only; omega, hL⟩, by simp only; omega, ?_⟩
    exact entA [(8, some 8), (21, some 21), (9, some 9), (10, some 10), (30, some 30)]
  · have hd : ∀ (h1 : i < a.length) (h2 : k < b.length), a[i] ≠ b[k] := fun h1 h2 h => heq ⟨h1, h2, h⟩
    have hdf : ∀ (h1 : i < a.length) (h2 : k < b.length), (a[i] = b[k]) = False := fun h1 h2 => eq_false (hd h1 h2)
    obtain ⟨q1, q2, q3, q4, q5, q6⟩ := way3_few a b i k hi hk (by omega) hd
    obtain ⟨m1, g1, T⟩ := next_ok a b ha hb _ (fewest_ok a b ha hb _) i k hi hk (Nat.le_refl _) m hm
    have e : rds a b c l (n + 1) i k = [.v (.int .i64 c), .v (.int .i64 l), .v (.int .i64 i), .v (.int .u8 (wyk (way3 a b i k 3).2)), .v (.string (if wyt (way3 a b i k 3).2 = 1 then (b[k]?).getD ByteArray.empty else ByteArray.empty))]
        :: rds a b c l n (i + (wayI (way3 a b i k 3).2).1) (k + (wayI (way3 a b i k 3).2).2) := by
      conv => lhs; unfold rds
      rw [if_neg hend, if_neg (fun h => by
        obtain ⟨h1, h2, h3⟩ := h
        rw [List.getElem?_eq_getElem h1, List.getElem?_eq_getElem h2, Option.some.injEq] at h3
        exact hd h1 h2 h3)]
    have z1 := wyt_eq (way3 a b i k 3).2
    have z2 := wyo_eq (way3 a b i k 3).2
    have z3 := wayI_pos _ q3
    obtain ⟨w, hw⟩ : ∃ w, w = (way3 a b i k 3).2 := ⟨_, rfl⟩
    obtain ⟨wn, hwn⟩ : ∃ w, w = (way3 a b i k 3).1 := ⟨_, rfl⟩
    rw [← hw] at e q2 q3 q4 q5 z1 z2 z3
    rw [← hw, ← hwn] at T
    obtain ⟨p, hp⟩ : ∃ p, p = (wayI w).1 := ⟨_, rfl⟩
    obtain ⟨q, hq⟩ : ∃ q, q = (wayI w).2 := ⟨_, rfl⟩
    rw [← hp] at e q4 z2 z3
    rw [← hq] at e q5 z1 z3
    obtain ⟨row, hrow⟩ : ∃ row : List V, row = [.v (.int .i64 c), .v (.int .i64 l), .v (.int .i64 i), .v (.int .u8 (wyk w)), .v (.string (if wyt w = 1 then (b[k]?).getD ByteArray.empty else ByteArray.empty))] := ⟨_, rfl⟩
    rw [← hrow] at e
    rw [e] at hL
    clear hw hwn hp hq q1 q6 e
    simp only [go_sem, hG, hOw]
    (repeat' with_reducible first | refine And.intro ?_ ?_ | intro _ | refine exP ?_ ?_); all_goals try omega
    all_goals refine semC_draw0 mixed (by kernel_rfl) ?_
    all_goals simp (maxSteps := 2000000) only [go_sem, hG, hOw, hdf, decide_false]
    all_goals (repeat' with_reducible first | refine And.intro ?_ ?_ | intro _ | refine exP ?_ ?_); all_goals try omega
    all_goals refine call_tri [(108, 8), (121, 21), (109, 9), (110, 10)] [] (T) (by (simp only [go_sem]) <;> simp) (by (simp only [go_sem, entH, entH1, nilArr, obOK]) <;> simp) (by simp [injR, apart, toR]) (by simp [coverR, usH, toR]) (by simp [uniqP, lkR, toR]) (by simp [chk, hG]) ?_
    all_goals simp only [go_sem, hG, hOw]
    all_goals (repeat' with_reducible first | refine And.intro ?_ ?_ | intro _ | refine exP ?_ ?_); all_goals try omega
    all_goals refine semC_draw0 mixed (by kernel_rfl) ?_
    all_goals simp only [go_sem, hG, hOw]
    all_goals (repeat' with_reducible first | refine And.intro ?_ ?_ | intro _ | refine exP ?_ ?_); all_goals try omega
    all_goals
      rename_i hw1
      first
        | rw [if_pos hw1, List.getElem?_eq_getElem (show k < b.length by omega), Option.getD_some] at hrow
        | rw [if_neg hw1] at hrow
      refine ⟨(i + p, k + q, L ++ [row], m1), ⟨by simp only; omega, by simp only; omega, g1, n, by simp only; omega, by simp only; rw [List.append_assoc]; exact hL⟩, by simp only; omega, ?_⟩
      exact entA [(8, some 8), (21, some 21), (9, some 9), (10, some 10), (30, some 86)] (by (simp only [go_sem]) <;> simp [hrow,z1,z2]) (by (simp only [go_sem, entH, entH1, nilArr, obOK]) <;> simp [hrow,z1,z2])
open Go Pm
set_option maxHeartbeats 4000000
set_option maxRecDepth 100000
theorem alike1_ok (a b : Ln) : Gives Tryz.prog 141 [.agg [i64 0, lns 0 [a]], .agg [i64 0, lns 0 [b]]] (fun _ => bl true) := by
  refine pure_intro (ow := fun _ => false) Tryz.func141 Tryz.ntmps141 rfl (by kernel_rfl) (by simp) rfl (by decide) fun G hG hOw hNm hB => ?_; simp only [go_sem, hG, hOw]
  (repeat' with_reducible first | refine And.intro ?_ ?_ | intro _ | refine exP ?_ ?_); all_goals try omega
theorem EqCh_ok (a b : Ln) : Gives Tryz.prog 140 [chs 0 [⟨0, [a]⟩], chs 0 [⟨0, [b]⟩], .fn (.func 141) []] (fun _ => bl true) := by
  refine pure_intro (ow := fun _ => false) Tryz.func140 Tryz.ntmps140 rfl (by kernel_rfl) (by simp) rfl (by decide) fun G hG hOw hNm hB => ?_; simp only [go_sem, hG, hOw]
  (repeat' with_reducible first | refine And.intro ?_ ?_ | intro _ | refine exP ?_ ?_); all_goals try omega
  refine semC_loop (fun k : Nat => St.of [(1, chs 0 [⟨0, [b]⟩]), (2, .fn (.func 141) []), (15, chs 0 [⟨0, [a]⟩]), (16, i64 1), (17, i64 k)] []) (fun k => k ≤ 1) (fun k => 1 - k) 0 (by simp) (ent_of0 (by (simp only [go_sem]) <;> simp) hNm) ?_
  rintro k hk
  have hk2 : k = 0 ∨ k = 1 := by omega
  rcases hk2 with rfl | rfl
  · refine vc_sound _ _ _ ?_
    simp (maxSteps := 2000000) only [go_sem, hG, hOw, List.getElem_cons_zero]
    (repeat' with_reducible first | refine And.intro ?_ ?_ | intro _ | refine exP ?_ ?_); all_goals try omega
    refine call_pureA (alike1_ok a b) ?_
    simp only [go_sem, hG, hOw]
    (repeat' with_reducible first | refine And.intro ?_ ?_ | intro _ | refine exP ?_ ?_); all_goals try omega
    exact ⟨1, by omega, by omega, ent_of0 (by (simp only [go_sem]) <;> simp) hNm⟩
  · refine vc_sound _ _ _ ?_; simp only [go_sem, hG, hOw]
    (repeat' with_reducible first | refine And.intro ?_ ?_ | intro _ | refine exP ?_ ?_); all_goals try omega
theorem alike_ok (a b : Ln) (ha : lineB a = true) (hb : lineB b = true) : Gives Tryz.prog 138 [txE 0 [⟨0, [a]⟩], txE 0 [⟨0, [b]⟩]] (fun _ => i64 0) := by
  have h1 := LCheck_ok [⟨0, [a]⟩]
  have h2 := LCheck_ok [⟨0, [b]⟩]
  rw [lineB_single, ha] at h1
  rw [lineB_single, hb] at h2
  simp only [if_true] at h1 h2
  refine pure_intro (ow := fun _ => false) Tryz.func138 Tryz.ntmps138 rfl (by kernel_rfl) (by simp) rfl (by decide) fun G hG hOw hNm hB => ?_; simp only [go_sem, hG, hOw]
  (repeat' with_reducible first | refine And.intro ?_ ?_ | intro _ | refine exP ?_ ?_); all_goals try omega
  refine call_pure h1 (by first | exact Subs.refl _ | (repeat' (first | exact Subs.nil | exact Sub.refl _ | exact Sub.lo (Nat.zero_le _) | refine Subs.cons ?_ ?_ | refine Subs.agg ?_ | refine Subs.fp ?_ | refine Subs.tup ?_ | refine Sub.map (Nat.zero_le _) (fun _ => ?_)))) (by first | rfl | simp [allP, all0, pureV, pure0, *]) (by simp [chk, hG]) ?_
  simp only [go_sem, hG, hOw]
  (repeat' with_reducible first | refine And.intro ?_ ?_ | intro _ | refine exP ?_ ?_); all_goals try omega
  refine call_pure h2 (by first | exact Subs.refl _ | (repeat' (first | exact Subs.nil | exact Sub.refl _ | exact Sub.lo (Nat.zero_le _) | refine Subs.cons ?_ ?_ | refine Subs.agg ?_ | refine Subs.fp ?_ | refine Subs.tup ?_ | refine Sub.map (Nat.zero_le _) (fun _ => ?_)))) (by first | rfl | simp [allP, all0, pureV, pure0, *]) (by simp [chk, hG]) ?_
  simp only [go_sem, hG, hOw]
  (repeat' with_reducible first | refine And.intro ?_ ?_ | intro _ | refine exP ?_ ?_); all_goals try omega
  refine call_pureA (EqCh_ok a b) ?_
  simp only [go_sem, hG, hOw]
  (repeat' with_reducible first | refine And.intro ?_ ?_ | intro _ | refine exP ?_ ?_); all_goals try omega
theorem rds_ones (a b : Ln) (c l : Int) : ∀ (n i k : Nat), allOnes (rds a b c l n i k) = true := by
  intro n
  induction n with
  | zero => intro i k; rfl
  | succ n ih =>
    intro i k
    unfold rds
    split
    · rfl
    · split
      · exact ih _ _
      · simp only [allOnes, ih, Bool.and_true]; rfl
theorem all_ok (a b : Ln) (ha : a.length ≤ 1000) (hb : b.length ≤ 1000) : Gives Tryz.prog 139 [txE 0 [⟨0, [a]⟩], txE 0 [⟨0, [b]⟩]] (fun n => .lst n 5 (rds a b 0 0 (a.length + b.length) 0 0)) := by
  have hR := readings_ok a b ha hb 0 0
  have hl := rds_len a b 0 0 (a.length + b.length) 0 0 (by omega) (by omega) (by omega)
  have hbd := fewAt_bd a b 0 0
  have hO := rds_ones a b 0 0 (a.length + b.length) 0 0
  obtain ⟨R, eR⟩ : ∃ R, R = rds a b 0 0 (a.length + b.length) 0 0 := ⟨_, rfl⟩
  rw [← eR] at hR hl hO ⊢
  obtain ⟨L, l0, l1⟩ : ∃ L : Nat → List (List V), L 0 = [] ∧ L 1 = R := ⟨fun | 0 => [] | _ => R, rfl, rfl⟩
  refine pure_intro (ow := fun _ => false) Tryz.func139 Tryz.ntmps139 rfl (by kernel_rfl) (by simp) rfl (by decide) fun G hG hOw hNm hB => ?_; simp only [go_sem, hG, hOw]
  (repeat' with_reducible first | refine And.intro ?_ ?_ | intro _ | refine exP ?_ ?_); all_goals try omega
  refine semC_loop (fun k : Nat => St.of [(2, .ptr 2 0), (3, .ptr 3 0), (5, .own 9 0 (L k).length 5), (10, chs 0 [⟨0, [a]⟩]), (11, i64 1), (12, i64 k)] [(2, .box [chs 0 [⟨0, [a]⟩]]), (3, .box [chs 0 [⟨0, [b]⟩]]), (9, .arr 215 5 (L k))]) (fun k => k ≤ 1) (fun k => 1 - k) 0 (by simp) (entA [(2, some 2), (3, some 3), (9, none)] (by (simp only [go_sem]) <;> simp [l0]) (by (simp only [go_sem, entH, entH1, nilArr, obOK]) <;> simp [l0])) ?_
  rintro k hk
  have hk2 : k = 0 ∨ k = 1 := by omega
  rcases hk2 with rfl | rfl
  · refine vc_sound _ _ _ ?_
    simp (maxSteps := 2000000) only [go_sem, hG, hOw, List.getElem_cons_zero]
    (repeat' with_reducible first | refine And.intro ?_ ?_ | intro _ | refine exP ?_ ?_); all_goals try omega
    refine semC_cutN (fun _ : Unit => St.of [(2, .ptr 2 0), (3, .ptr 3 0), (5, .own 9 0 (L 1).length 5), (10, chs 0 [⟨0, [a]⟩]), (11, i64 1), (12, i64 0)] [(2, .box [chs 0 [⟨0, [a]⟩]]), (3, .box [chs 0 [⟨0, [b]⟩]]), (9, .arr 215 5 (L 1))]) (fun _ => True) ?_ ?_
    · refine semC_loop (fun k : Nat => St.of [(2, .ptr 2 0), (3, .ptr 3 0), (5, .own 9 0 (L k).length 5), (6, i64 0), (7, .ptr 7 0), (10, chs 0 [⟨0, [a]⟩]), (11, i64 1), (12, i64 0), (19, i64 1), (20, i64 k)] [(7, .box [i64 0, lns 0 [a]]), (2, .box [chs 0 [⟨0, [a]⟩]]), (3, .box [chs 0 [⟨0, [b]⟩]]), (9, .arr 215 5 (L k))]) (fun k => k ≤ 1) (fun k => 1 - k) 0 (by simp) (entA [(2, some 2), (3, some 3), (7, some 7), (9, some 9)]) ?_
      rintro k hk
      have hk2 : k = 0 ∨ k = 1 := by omega
      rcases hk2 with rfl | rfl
      · refine vc_sound _ _ _ ?_
        simp (maxSteps := 2000000) only [go_sem, hG, hOw, List.getElem_cons_zero]
        (repeat' with_reducible first | refine And.intro ?_ ?_ | intro _ | refine exP ?_ ?_); all_goals try omega
        refine semC_draw0 mixed (by kernel_rfl) ?_
        simp (maxSteps := 2000000) only [go_sem, hG, hOw, List.getElem_cons_zero]
        (repeat' with_reducible first | refine And.intro ?_ ?_ | intro _ | refine exP ?_ ?_); all_goals try omega
        refine ⟨_, callGives hR (by first | exact Subs.refl _ | (repeat' (first | exact Subs.nil | exact Sub.refl _ | exact Sub.lo (Nat.zero_le _) | refine Subs.cons ?_ ?_ | refine Subs.agg ?_ | refine Subs.fp ?_ | refine Subs.tup ?_ | refine Sub.map (Nat.zero_le _) (fun _ => ?_)))) (by first | rfl | simp [allP, all0, pureV, pure0, *]), ?_⟩
        have l0' : (L 0).length = 0 := by rw [l0]; rfl
        have hRl : R.length ≤ 2000 := by omega
        simp (maxSteps := 2000000) only [go_sem, hG, hOw, hO]
        (repeat' with_reducible first | refine And.intro ?_ ?_ | intro _ | refine exP ?_ ?_); all_goals try omega
        refine ⟨1, by omega, by omega, ?_⟩
        exact entA [(2, some 2), (3, some 3), (7, some 7), (9, some 42)] (by (simp only [go_sem]) <;> simp [l0,l1]) (by (simp only [go_sem, entH, entH1, nilArr, obOK]) <;> simp [l0,l1])
      · refine vc_sound _ _ _ ?_; simp only [go_sem, hG, hOw]
        (repeat' with_reducible first | refine And.intro ?_ ?_ | intro _ | refine exP ?_ ?_); all_goals try omega
        exact ⟨(), entA [(2, some 2), (3, some 3), (9, some 9)]⟩
    rintro ⟨⟩ -
    simp only [go_sem, hG, hOw]
    (repeat' with_reducible first | refine And.intro ?_ ?_ | intro _ | refine exP ?_ ?_); all_goals try omega
    exact ⟨1, by omega, by omega, entA [(2, some 2), (3, some 3), (9, some 9)]⟩
  · refine vc_sound _ _ _ ?_; simp only [go_sem, hG, hOw]
    (repeat' with_reducible first | refine And.intro ?_ ?_ | intro _ | refine exP ?_ ?_); all_goals try omega
    rw [l1]
    all_goals exact .refl _
theorem Apart_ok (a b : Ln) (ha : lineB a = true) (hb : lineB b = true) : Gives Tryz.prog 136 [txE 0 [⟨0, [a]⟩], txE 0 [⟨0, [b]⟩]] (fun _ => .tup [i64 (few a b), i64 0]) := by
  have la : a.length ≤ 1000 := by simp only [lineB, inB, Bool.and_eq_true, decide_eq_true_eq] at ha; omega
  have lb : b.length ≤ 1000 := by simp only [lineB, inB, Bool.and_eq_true, decide_eq_true_eq] at hb; omega
  have hl := rds_len a b 0 0 (a.length + b.length) 0 0 (by omega) (by omega) (by omega)
  have e : fewAt a b 0 0 = few a b := by simp [fewAt]
  rw [e] at hl
  have h2 := all_ok a b la lb
  obtain ⟨R, eR⟩ : ∃ R, R = rds a b 0 0 (a.length + b.length) 0 0 := ⟨_, rfl⟩
  rw [← eR] at h2 hl
  rw [← hl]
  refine pure_intro (ow := fun _ => false) Tryz.func136 Tryz.ntmps136 rfl (by kernel_rfl) (by simp) rfl (by decide) fun G hG hOw hNm hB => ?_; simp only [go_sem, hG, hOw]
  (repeat' with_reducible first | refine And.intro ?_ ?_ | intro _ | refine exP ?_ ?_); all_goals try omega
  refine call_pureA (alike_ok a b ha hb) ?_
  simp only [go_sem, hG, hOw]
  (repeat' with_reducible first | refine And.intro ?_ ?_ | intro _ | refine exP ?_ ?_); all_goals try omega
  refine call_pure h2 (by first | exact Subs.refl _ | (repeat' (first | exact Subs.nil | exact Sub.refl _ | exact Sub.lo (Nat.zero_le _) | refine Subs.cons ?_ ?_ | refine Subs.agg ?_ | refine Subs.fp ?_ | refine Subs.tup ?_ | refine Sub.map (Nat.zero_le _) (fun _ => ?_)))) (by first | rfl | simp [allP, all0, pureV, pure0, *]) (by simp [chk, hG]) ?_
  simp only [go_sem, hG, hOw]
  (repeat' with_reducible first | refine And.intro ?_ ?_ | intro _ | refine exP ?_ ?_); all_goals try omega
end Go.Proofs.YtagfopbijboajaaGreatDoor
