import Derived.Test.YtagfopbijboajaaDoorQX37
namespace Go.Proofs.YtagfopbijboajaaDoor
open Go Pm
set_option linter.unusedSimpArgs false
set_option linter.unusedVariables false
set_option maxHeartbeats 4000000
set_option maxRecDepth 100000
def eraseN (L : List Int) (a : Int) : Nat → List Int
  | 0 => L
  | m + 1 => (eraseN L a m).erase (a + m)
theorem delM_ids (L : List Int) (n : Int) : delM (idsM L) (.int .i64 n) = idsM (L.erase n) := by
  induction L with
  | nil => rfl
  | cons x r ih =>
    simp only [idsM, List.map_cons, delM, keyB, List.erase_cons]
    by_cases h : x = n
    · simp [h]
    · have : (x == n) = false := by simpa using h
      simp only [h, decide_false, Bool.false_eq_true, if_false, this, List.map_cons, List.cons.injEq, true_and]
      exact ih
theorem eraseN_nodup {L : List Int} (h : L.Nodup) (a : Int) : ∀ m, (eraseN L a m).Nodup
  | 0 => h
  | m + 1 => (eraseN_nodup h a m).erase _
theorem mem_eraseN {L : List Int} (h : L.Nodup) (a : Int) (x : Int) : ∀ m : Nat, x ∈ eraseN L a m ↔ x ∈ L ∧ ¬ (a ≤ x ∧ x < a + m)
  | 0 => by simp [eraseN]; try omega
  | m + 1 => by
    simp only [eraseN]
    rw [(eraseN_nodup h a m).mem_erase_iff, mem_eraseN h a x m]
    constructor
    · rintro ⟨h1, h2, h3⟩
      exact ⟨h2, by omega⟩
    · rintro ⟨h1, h2⟩
      exact ⟨by omega, h1, by omega⟩
def allN (n : Nat) : List Int := (List.range n).map Int.ofNat
theorem allN_succ (n : Nat) : allN (n + 1) = allN n ++ [(n : Int)] := by simp [allN, List.range_succ]
theorem allN_nodup (n : Nat) : (allN n).Nodup := by
  unfold allN
  exact List.Pairwise.map _ (fun a b h e => h (Int.ofNat.inj e)) List.nodup_range
theorem mem_allN (n : Nat) (x : Int) : x ∈ allN n ↔ 0 ≤ x ∧ x < n := by
  simp only [allN, List.mem_map, List.mem_range]
  constructor
  · rintro ⟨a, h, rfl⟩; simp; exact h
  · rintro ⟨h1, h2⟩; exact ⟨x.toNat, by omega, by simp; omega⟩
def leftL (n : Nat) (shares : List Sr) (p : Nat → Bool) : Nat → List Int
  | 0 => allN n
  | i + 1 => match shares[i]? with
    | some s => if p i = true then eraseN (leftL n shares p i) s.fr (s.to - s.fr + 1).toNat else leftL n shares p i
    | none => leftL n shares p i
theorem leftL_succ (n : Nat) (shares : List Sr) (p : Nat → Bool) {i : Nat} (hi : i < shares.length) :
    leftL n shares p (i + 1) = if p i = true then eraseN (leftL n shares p i) shares[i].fr (shares[i].to - shares[i].fr + 1).toNat else leftL n shares p i := by
  simp [leftL, hi]
theorem leftL_nodup (n : Nat) (shares : List Sr) (p : Nat → Bool) : ∀ i, (leftL n shares p i).Nodup
  | 0 => allN_nodup n
  | i + 1 => by
    unfold leftL
    split
    · split
      · exact eraseN_nodup (leftL_nodup n shares p i) _ _
      · exact leftL_nodup n shares p i
    · exact leftL_nodup n shares p i
theorem mem_leftL (n : Nat) (shares : List Sr) (p : Nat → Bool) (x : Int) : ∀ i, i ≤ shares.length → (x ∈ leftL n shares p i ↔ (0 ≤ x ∧ x < n) ∧ ∀ (j : Nat) (hj : j < shares.length), j < i → p j = true → ¬ (shares[j].fr ≤ x ∧ x ≤ shares[j].to))
  | 0, _ => by simp [leftL, mem_allN]
  | i + 1, hi => by
    rw [leftL_succ n shares p (by omega)]
    have ih := mem_leftL n shares p x i (by omega)
    by_cases hp : p i = true
    · rw [if_pos hp, mem_eraseN (leftL_nodup n shares p i), ih]
      constructor
      · rintro ⟨⟨h1, h2⟩, h3⟩
        refine ⟨h1, fun j hj hji hpj => ?_⟩
        by_cases e : j = i
        · subst e; omega
        · exact h2 j hj (by omega) hpj
      · rintro ⟨h1, h2⟩
        refine ⟨⟨h1, fun j hj hji hpj => h2 j hj (by omega) hpj⟩, ?_⟩
        have := h2 i (by omega) (by omega) hp
        omega
    · rw [if_neg hp, ih]
      constructor
      · rintro ⟨h1, h2⟩
        refine ⟨h1, fun j hj hji hpj => ?_⟩
        by_cases e : j = i
        · subst e; exact absurd hpj hp
        · exact h2 j hj (by omega) hpj
      · rintro ⟨h1, h2⟩
        exact ⟨h1, fun j hj hji hpj => h2 j hj (by omega) hpj⟩
theorem of_ok (r : Ro) (i : Nat) : Gives Tryd.prog 27 [.fp (dkC 0 r), i64 i] (fun _ => .fn (.func 48) [.fp [.fp (dkC 0 r)], .fp [i64 i]]) := by
  refine pure_intro (ow := fun _ => false) Tryd.func27 Tryd.ntmps27 rfl (by kernel_rfl) (by simp) rfl (by decide) fun G hG hOw hNm hB => ?_; simp only [go_sem, hG, hOw]
theorem eraseN_zero (L : List Int) (a : Int) : eraseN L a 0 = L := rfl
attribute [go_sem] eraseN_zero
theorem leftL_zero (n : Nat) (shares : List Sr) (p : Nat → Bool) : leftL n shares p 0 = allN n := rfl
attribute [go_sem] leftL_zero
theorem allN_zero : allN 0 = [] := rfl
attribute [go_sem] allN_zero
theorem upM_all (n : Nat) : upM (idsM (allN n)) (.int .i64 n) (.v (.bool true)) = idsM (allN (n + 1)) := by
  rw [upM_ids, allN_succ]
  rw [List.any_eq_false]
  intro x hx
  rw [mem_allN] at hx
  simp; omega
theorem nm_all0 (nm : List Nat) (n : Nat) : ∀ {l : List V}, all0 l = true → l.all (nmOK nm (n + 1)) = true
  | [], _ => rfl
  | x :: r, h => by
    simp only [all0, Bool.and_eq_true] at h
    simp only [List.all_cons, Bool.and_eq_true]
    refine ⟨?_, nm_all0 nm n h.2⟩
    have := h.1
    cases x <;> first | rfl | (simp [pure0] at this; done)
theorem nmOK_fn (nm : List Nat) (f : Fn) {cap : List V} (h : all0 cap = true) : nmOK nm 4 (.fn f cap) = true := nm_all0 nm 2 h
theorem uncovered_ok (r : Ro) (hr : Good r) (fk : Fn) (cap : List V) (hcap : all0 cap = true) (p : Nat → Bool)
    (hf : ∀ (i : Nat) (hi : i < r.shares.length) (G : Gh) (o : Oper) (s : St) (Q : Exit → St → Prop) (rest : St → Prop), chk G.n o.dst → rest (putD s o.dst (bl (p i))) → SemCall Tryd.prog G o s Q rest (.fn fk cap) [i64 i]) :
    Tri Tryd.prog 33 [.fp (dkC 0 r), .fn fk cap] [] (fun _ => .ret (.mp 0) [(0, .map (.int .i64) (idsM (leftL (linesL r.text).length r.shares p r.shares.length)))]) := by
  have hll := hr.ll
  have hsn := hr.sn
  refine tri_introR (fun _ => false) Tryd.func33 Tryd.ntmps33 rfl (by kernel_rfl) (by simp) rfl (by decide) fun G hG hOw hNm hrd => ?_; simp only [go_sem, hG, hOw]
  (repeat' with_reducible first | refine And.intro ?_ ?_ | intro _ | refine exP ?_ ?_); all_goals try omega
  refine semC_cut (fun _ : Unit => St.of [(0, .fp (dkC 0 r)), (1, .fn fk cap), (5, .ptr 5 0)] [(5, .box [.mp 9]), (9, .map (.int .i64) (idsM (allN (linesL r.text).length)))]) (fun _ => True) ?_ ?_
  · refine semC_loop (fun k : Nat => St.of [(0, .fp (dkC 0 r)), (1, .fn fk cap), (5, .ptr 5 0), (14, i64 (linesL r.text).length), (15, i64 k)] [(5, .box [.mp 9]), (9, .map (.int .i64) (idsM (allN k)))]) (fun k => k ≤ (linesL r.text).length) (fun k => (linesL r.text).length - k) 0 (by simp) (entA [(5, some 5), (9, some 9)] (by (simp only [go_sem]) <;> simp [hcap]) (by (simp only [go_sem, entH, entH1, nilArr, obOK]) <;> simp [hcap])) ?_
    rintro k hk
    have hup := upM_all k
    refine vc_sound _ _ _ ?_
    simp (maxSteps := 2000000) only [go_sem, hG, hOw, hup]
    (repeat' with_reducible first | refine And.intro ?_ ?_ | intro _ | refine exP ?_ ?_); all_goals try omega
    · exact ⟨k + 1, by omega, by omega, entA [(5, some 5), (9, some 9)] (by (simp only [go_sem]) <;> simp [hcap]) (by (simp only [go_sem, entH, entH1, nilArr, obOK]) <;> simp [hcap])⟩
    · rename_i hge
      obtain rfl : k = (linesL r.text).length := by omega
      exact ⟨(), entA [(5, some 5), (9, some 9)] (by (simp only [go_sem]) <;> simp [hcap]) (by (simp only [go_sem, entH, entH1, nilArr, obOK]) <;> simp [hcap])⟩
  rintro ⟨⟩ -
  simp only [go_sem, hG, hOw]
  (repeat' with_reducible first | refine And.intro ?_ ?_ | intro _ | refine exP ?_ ?_); all_goals try omega
  refine semC_loop (fun k : Nat => St.of [(0, .fp (dkC 0 r)), (1, .fn fk cap), (5, .ptr 5 0), (25, srs 0 r.shares), (26, i64 r.shares.length), (27, i64 k)] [(5, .box [.mp 9]), (9, .map (.int .i64) (idsM (leftL (linesL r.text).length r.shares p k)))]) (fun k => k ≤ r.shares.length) (fun k => r.shares.length - k) 0 (by simp) (entA [(5, some 5), (9, some 9)] (by (simp only [go_sem]) <;> simp [hcap]) (by (simp only [go_sem, entH, entH1, nilArr, obOK]) <;> simp [hcap])) ?_
  rintro k hk
  refine vc_sound _ _ _ ?_; simp only [go_sem, hG, hOw]
  (repeat' with_reducible first | refine And.intro ?_ ?_ | intro _ | refine exP ?_ ?_); all_goals try omega
  · rename_i hlt
    have hkl : k < r.shares.length := by omega
    refine hf k hkl G _ _ _ _ (by simp [chk, hG]) ?_
    simp only [go_sem, hG, hOw]
    (repeat' with_reducible first | refine And.intro ?_ ?_ | intro _ | refine exP ?_ ?_); all_goals try omega
    · rename_i hp
      refine ⟨k + 1, by omega, by omega, ?_⟩
      rw [leftL_succ _ _ _ hkl, if_neg (by rw [hp]; simp)]
      exact entA [(5, some 5), (9, some 9)] (by (simp only [go_sem]) <;> simp [hcap]) (by (simp only [go_sem, entH, entH1, nilArr, obOK]) <;> simp [hcap])
    · rename_i hp
      refine call_pureA (of_ok r k) ?_
      simp only [go_sem, hG, hOw]
      have hsk := hr.s k hkl
      obtain ⟨L0, hL0⟩ : ∃ L0, L0 = leftL (linesL r.text).length r.shares p k := ⟨_, rfl⟩
      show SemC _ _ _ _ _
      refine semC_ent (s' := St.of [(0, .fp (dkC 0 r)), (1, .fn fk cap), (5, .ptr 5 0), (25, srs 0 r.shares), (26, i64 r.shares.length), (27, i64 k), (36, .fn (.func 48) [.fp [.fp (dkC 0 r)], .fp [i64 k]])] [(5, .box [.mp 9]), (9, .map (.int .i64) (idsM L0))]) (by rw [hL0]; exact entA [(5, some 5), (9, some 9)] (by (simp only [go_sem]) <;> simp [hcap]) (by (simp only [go_sem, entH, entH1, nilArr, obOK]) <;> simp [hcap])) ?_
      refine semC_rangeFunc [(8, 37)] [5, 9] 99 (fun _ => false) hrd rfl Tryd.func48 Tryd.ntmps48 rfl (by kernel_rfl) rfl (by simp) (by rw [hG]; decide) rfl (by rw [hNm]; simp [names]) (by simp only [List.all_cons, List.all_nil, nmOK_fn [5, 9] fk hcap]; rfl) rfl rfl (by rw [hG]; decide) fun G1 l L k1 k2 k3 k4 k5 hY => ?_
      have hG0 := hG
      have hNm0 := hNm
      have hOw0 := hOw
      have hG := k1
      have hOw := k2
      have hNm := k3
      obtain ⟨cnt, hcnt⟩ : ∃ c : Nat, (c : Int) = r.shares[k].to - r.shares[k].fr + 1 := ⟨(r.shares[k].to - r.shares[k].fr + 1).toNat, by omega⟩
      simp only [go_sem, hG, hOw]
      refine semC_draw0 mixed (by kernel_rfl) ?_
      simp only [go_sem, hG, hOw]
      (repeat' with_reducible first | refine And.intro ?_ ?_ | intro _ | refine exP ?_ ?_); all_goals try omega
      refine semC_loop (fun m : Nat => St.of [(0, .v (.func (.yield l) #[] #[])), (1, .fp [.fp (dkC 0 r)]), (2, .fp [i64 k]), (4, i64 (r.shares[k].fr + m))] [(99, .obj (.loop (Lp L none))), (5, .box [.mp 9]), (9, .map (.int .i64) (idsM (eraseN L0 r.shares[k].fr m)))]) (fun m => m ≤ cnt) (fun m => cnt - m) 0 (by simp) (entA [(99, some 99), (5, some 5), (9, some 9)]) ?_
      rintro m hm
      refine vc_sound _ _ _ ?_
      simp only [go_sem, hG, hOw]
      refine semC_draw0 mixed (by kernel_rfl) ?_
      simp only [go_sem, hG, hOw]
      (repeat' with_reducible first | refine And.intro ?_ ?_ | intro _ | refine exP ?_ ?_); all_goals try omega
      · rename_i hle
        refine hY [99, 5, 9] _ _ _ _ _ (by simp [go_sem]) rfl (by simp [chk, k1]) (by rw [k3]; simp) (by intro id hid; left; rw [k3]; exact hid) fun G2 m1 m2 m3 m4 m5 => ?_
        have hG2 := m1.trans hG0
        have hOw2 := m2.trans hOw0
        have hde : delM (idsM (eraseN L0 r.shares[k].fr m)) (.int .i64 (r.shares[k].fr + m)) = idsM (eraseN L0 r.shares[k].fr (m + 1)) := delM_ids _ _
        have hm1 : r.shares[k].fr + ((m + 1 : Nat) : Int) = r.shares[k].fr + m + 1 := by omega
        refine vc_sound _ _ _ ?_
        simp (maxSteps := 2000000) only [go_sem, hG, hOw, hG2, hOw2, hde]
        (repeat' with_reducible first | refine And.intro ?_ ?_ | intro _ | refine exP ?_ ?_); all_goals try omega
        exact ⟨m + 1, by omega, by omega, entA [(99, some 99), (5, some 5), (9, some 9)] (by (simp only [go_sem]) <;> simp [Int.add_assoc]) (by (simp only [go_sem, entH, entH1, nilArr, obOK]) <;> simp [Int.add_assoc])⟩
      · rename_i hgt
        obtain rfl : m = cnt := by omega
        refine ⟨none, by simp [go_sem], ?_⟩
        simp (maxSteps := 2000000) only [go_sem, hG, hOw, hG0]
        (repeat' with_reducible first | refine And.intro ?_ ?_ | intro _ | refine exP ?_ ?_); all_goals try omega
        refine ⟨k + 1, by omega, by omega, ?_⟩
        rw [leftL_succ _ _ _ hkl, if_pos hp, ← hL0, show (r.shares[k].to - r.shares[k].fr + 1).toNat = m by omega]
        have hNm := hNm0
        exact entA [(5, some 5), (9, some 9)] (by (simp only [go_sem]) <;> simp [hcap]) (by (simp only [go_sem, entH, entH1, nilArr, obOK]) <;> simp [hcap])
  · rename_i hge
    obtain rfl : k = r.shares.length := by omega
    exact ⟨[(0, some 9)], by (simp only [EndT, go_sem, entH, entH1, nilArr, obOK, apart, injR, coverR]) <;> simp⟩
open Go Pm
set_option maxHeartbeats 4000000
set_option maxRecDepth 100000
theorem sent_ok (r : Ro) (i : Nat) (hi : i ≤ 140737488355328) : Gives Tryd.prog 41 [.fp (dkC 0 r), i64 i] (fun _ => bl (decide ((i : Int) < r.shares.length))) := by
  refine pure_intro (ow := fun _ => false) Tryd.func41 Tryd.ntmps41 rfl (by kernel_rfl) (by simp) rfl (by decide) fun G hG hOw hNm hB => ?_; simp only [go_sem, hG, hOw]
theorem left_has (r : Ro) (n : Nat) (hn : n < (linesL r.text).length) (p : Nat → Bool) (hp : ∀ i, i < r.shares.length → p i = true) : ((leftL (linesL r.text).length r.shares p r.shares.length).any fun x => decide (x = (n : Int))) = !hasI r n := by
  rw [Bool.eq_iff_iff]
  rw [List.any_eq_true]
  simp only [decide_eq_true_eq, exists_eq_right, hasI, Bool.not_eq_true', List.any_eq_false, inB, Bool.and_eq_true]
  rw [mem_leftL _ _ _ _ _ (Nat.le_refl _)]
  constructor
  · rintro ⟨_, h⟩ s hs
    obtain ⟨j, hj, rfl⟩ := List.getElem_of_mem hs
    exact h j hj hj (hp j hj)
  · intro h
    exact ⟨by omega, fun j hj _ _ => h _ (List.getElem_mem hj)⟩
theorem ren_ids {f : Value × V → Value × V} (l : List Int) (hf : ∀ n, f (.int .i64 n, .v (.bool true)) = (.int .i64 n, .v (.bool true))) : (idsM l).map f = idsM l := by
  induction l with
  | nil => rfl
  | cons x r ih => simp only [idsM, List.map_cons] at ih ⊢; rw [hf, ih]
attribute [go_sem] ren_ids
theorem HGaps_ok (r : Ro) (hr : OKr r) : Gives Tryd.prog 12 [roE 0 r] (fun n => .tup [ints n (gapsL r), i64 (roundE r)]) := by
  refine pure_intro (ow := fun _ => false) Tryd.func12 Tryd.ntmps12 rfl (by kernel_rfl) (by simp) rfl (by decide) fun G hG hOw hNm hB => ?_; simp only [go_sem, hG, hOw]
  by_cases he : roundE r = 0
  · have hg := good_of hr he
    have hsn := hg.sn
    have hll := hg.ll
    rw [show gapsL r = numsL (fun n => !hasI r n) (linesL r.text).length by simp [gapsL, he], he]
    refine call_pureA (open_good r hr he) ?_
    simp only [go_sem, hG, hOw]
    have hU := uncovered_ok r hg (bndF 41) [.fp (dkC 0 r)] rfl (fun i => decide ((i : Int) < r.shares.length)) (fun i hi G o s Q rest hc h => call_bnd (sent_ok r i (by omega)) (Subs.refl _) rfl hc h)
    have hS : Pm.Sub (.fp (dkC G.lo r)) (.fp (dkC 0 r)) := by first | exact Subs.refl _ | (repeat' (first | exact Subs.nil | exact Sub.refl _ | exact Sub.lo (Nat.zero_le _) | refine Subs.cons ?_ ?_ | refine Subs.agg ?_ | refine Subs.fp ?_ | refine Subs.tup ?_ | refine Sub.map (Nat.zero_le _) (fun _ => ?_)))
    simp only [go_sem] at hS
    have hLL := fun n hn => left_has r n hn (fun i => decide ((i : Int) < r.shares.length)) (fun i hi => by simp; omega)
    refine call_tri [] [(0, 80)] (hU) (by (simp only [go_sem]) <;> simp [hS]) (by (simp only [go_sem, entH, entH1, nilArr, obOK]) <;> simp [hS]) (by simp [injR, apart, toR]) (by simp [coverR, usH, toR, hS]) (by simp [uniqP, lkR, toR]) (by simp [chk, hG]) ?_
    generalize leftL (linesL r.text).length r.shares (fun i => decide ((i : Int) < r.shares.length)) r.shares.length = LL at hLL
    simp only [go_sem, hG, hOw]
    refine semC_loop (fun k : Nat => St.of [(6, .mp 80), (7, .own 9 0 (numsL (fun n => !hasI r n) k).length 1), (25, i64 (linesL r.text).length), (26, i64 k)] [(80, .map (.int .i64) (idsM LL)), (9, .arr 3 1 ((numsL (fun n => !hasI r n) k).map intE))]) (fun k => k ≤ (linesL r.text).length) (fun k => (linesL r.text).length - k) 0 (by simp) (entA [(80, some 80), (9, none)] (by (simp only [go_sem]) <;> simp [numsL]) (by (simp only [go_sem, entH, entH1, nilArr, obOK]) <;> simp [numsL])) ?_
    rintro k hk
    have hle := numsL_le (fun n => !hasI r n) k
    refine vc_sound _ _ _ ?_
    simp (maxSteps := 2000000) only [go_sem, hG, hOw, lkM_ids]
    (repeat' with_reducible first | refine And.intro ?_ ?_ | intro _ | refine exP ?_ ?_); all_goals try omega
    · rename_i hlt h2
      have hkl : k < (linesL r.text).length := by omega
      rw [hLL k hkl] at h2
      have e1 := numsL_succ (fun n => !hasI r n) k
      rw [if_pos h2] at e1
      refine ⟨k + 1, by omega, by omega, ?_⟩
      rw [e1]
      exact entA [(80, some 80), (9, some 35)] (by (simp only [go_sem]) <;> simp [intE,i64]) (by (simp only [go_sem, entH, entH1, nilArr, obOK]) <;> simp [intE,i64])
    · rename_i hlt h2
      have hkl : k < (linesL r.text).length := by omega
      rw [hLL k hkl] at h2
      have e1 := numsL_succ (fun n => !hasI r n) k
      rw [if_neg (by rw [h2]; simp)] at e1
      refine ⟨k + 1, by omega, by omega, ?_⟩
      rw [e1]
      exact entA [(80, some 80), (9, some 9)]
    · rename_i hge
      rw [show k = (linesL r.text).length by omega]
      exact .refl _
  · refine call_pureA (open_bad r hr he) ?_
    simp only [go_sem, hG, hOw]
    (repeat' with_reducible first | refine And.intro ?_ ?_ | intro _ | refine exP ?_ ?_); all_goals try omega
    rw [show gapsL r = [] by simp [gapsL, he]]
    exact Subs.tup (.cons (.nil _ _) (.cons (.refl _) .nil))
end Go.Proofs.YtagfopbijboajaaDoor
