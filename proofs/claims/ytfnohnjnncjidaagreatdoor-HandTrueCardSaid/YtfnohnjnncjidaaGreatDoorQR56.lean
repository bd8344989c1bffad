import Derived.Test.YtfnohnjnncjidaaGreatDoorQR22
import Derived.Test.YtfnohnjnncjidaaGreatDoorQR46
import Derived.Test.YtfnohnjnncjidaaGreatDoorQR47
namespace Go.Proofs.YtfnohnjnncjidaaGreatDoor
open Go Pm
set_option linter.unusedSimpArgs false
set_option linter.unusedVariables false
set_option maxHeartbeats 4000000
set_option maxRecDepth 100000
theorem trin_ok (W : List Int) (i : Int) (hW : W.length ≤ 100) : Gives Tryz.prog 36 [i64 i, .fp [ints 0 W]] (fun _ => bl (wIn W i)) := by
  refine pure_intro (ow := fun _ => false) Tryz.func36 Tryz.ntmps36 rfl (by kernel_rfl) (by simp) rfl (by decide) fun G hG hOw hNm hB => ?_; simp only [go_sem, hG, hOw]
  (repeat' first | with_reducible refine And.intro ?_ ?_ | with_reducible intro _ | with_reducible refine exP ?_ ?_); all_goals try omega
  · rename_i h1 h2
    have hl : i.toNat < W.length := by omega
    unfold wIn
    rw [decide_eq_true h1, decide_eq_true h2, getI_at hl]; rfl
  · rename_i h1 h2
    unfold wIn
    rw [decide_eq_false h2]; simp
  · rename_i h1
    unfold wIn
    rw [decide_eq_false h1]; rfl
theorem trEnd (x : Ro) (W : List Int) (m : Nat) (hrx : readyB x = true) (ht : ∀ t ∈ tornL x, wIn W t = true) (hd : ∀ y ∈ differL x, (wIn W y.1 || wIn W y.2) = true) (hp : ∀ y ∈ proofL x, (wIn W y.1 || wIn W y.2) = true) (ha : (againP x).length ≤ m) (hml : m ≤ 8) (hWl : W.length ≤ 100)
    {G : Gh} (hG : G.n = 183) (hOw : G.ow = fun i => [163].contains i) (hNm : G.nm = []) {lo : Nat} :
    SemL Tryz.prog G ((flat (Tryz.f4.body.getD .skip)).drop 9) (St.of [(5, bl true), (6, .fp (roC G.lo x)), (7, .fp [ints G.lo W]), (8, i64 m)] []) (EndsAt Tryz.prog lo [.tmp 4] (bl true)) := by
  obtain ⟨hrx1, hgx⟩ := ready_good hrx
  have hsn := hgx.sn
  have hlen := proof_len x hgx.e
  have he := hgx.e
  have c1 := HTorn_ok x hrx1
  have c2 := HDiffer_ok x hrx1
  have c3 := HAgain_ok x hrx1
  have c4 := HProof_ok x hrx1
  obtain ⟨T, hT⟩ : ∃ T, T = tornL x := ⟨_, rfl⟩
  obtain ⟨D, hD⟩ : ∃ D, D = differL x := ⟨_, rfl⟩
  obtain ⟨A, hA⟩ : ∃ A, A = againP x := ⟨_, rfl⟩
  obtain ⟨q, hq⟩ : ∃ q, q = proofL x := ⟨_, rfl⟩
  rw [← hT, ← hA, ← hq] at hlen
  rw [he, ← hT] at c1
  rw [he, ← hD] at c2
  rw [he, ← hA] at c3
  rw [he, ← hT, ← hq] at c4
  rw [← hT] at ht
  rw [← hD] at hd
  rw [← hq] at hp
  rw [← hA] at ha
  have hTl : T.length ≤ 8 := by rw [hT]; simp only [tornL, he, reduceIte]; have := numsL_le (tornI x) x.shares.length; omega
  have hDl : D.length ≤ 8 := by rw [hD]; simp only [differL, he, reduceIte]; have := prsL_le (differI x) (x.shares.length - 1); omega
  have hql : q.length ≤ 8 := by rw [hq]; simp only [proofL, he, reduceIte]; have := prf1_le (differI x) (x.shares.length - 1); omega
  have sW : Pm.Sub (.fp [ints G.lo W]) (.fp [ints 0 W]) := Subs.fp (.cons (.lo (Nat.zero_le _)) .nil)
  simp only [Tryz.f4, Option.getD_some]
  simp only [flat, List.cons_append, List.nil_append, List.append_assoc, List.take_succ_cons, List.take_zero, List.take_nil, List.drop_succ_cons, List.drop_zero]
  refine vcN_sound 3 _ _ ?_
  simp only [go_sem, hG, hOw]
  refine call_pureA (ready_ok x) ?_
  simp (config := { maxSteps := 2000000 }) only [go_sem, hG, hOw, hrx]
  refine call_pure c1 (by first | exact Subs.refl _ | (repeat' (first | exact Subs.nil | exact Sub.refl _ | exact Sub.lo (Nat.zero_le _) | refine Subs.cons ?_ ?_ | refine Subs.agg ?_ | refine Subs.fp ?_ | refine Subs.tup ?_ | refine Sub.map (Nat.zero_le _) (fun _ => ?_)))) (by first | rfl | simp [allP, all0, pureV, pure0, *]) (by simp [chk, hG]) ?_
  simp only [go_sem, hG, hOw]
  refine vcN_sound 5 _ _ ?_
  simp only [go_sem, hG, hOw]
  refine call_pure c2 (by first | exact Subs.refl _ | (repeat' (first | exact Subs.nil | exact Sub.refl _ | exact Sub.lo (Nat.zero_le _) | refine Subs.cons ?_ ?_ | refine Subs.agg ?_ | refine Subs.fp ?_ | refine Subs.tup ?_ | refine Sub.map (Nat.zero_le _) (fun _ => ?_)))) (by first | rfl | simp [allP, all0, pureV, pure0, *]) (by simp [chk, hG]) ?_
  simp only [go_sem, hG, hOw]
  refine call_pure c3 (by first | exact Subs.refl _ | (repeat' (first | exact Subs.nil | exact Sub.refl _ | exact Sub.lo (Nat.zero_le _) | refine Subs.cons ?_ ?_ | refine Subs.agg ?_ | refine Subs.fp ?_ | refine Subs.tup ?_ | refine Sub.map (Nat.zero_le _) (fun _ => ?_)))) (by first | rfl | simp [allP, all0, pureV, pure0, *]) (by simp [chk, hG]) ?_
  simp only [go_sem, hG, hOw]
  refine call_pure c4 (by first | exact Subs.refl _ | (repeat' (first | exact Subs.nil | exact Sub.refl _ | exact Sub.lo (Nat.zero_le _) | refine Subs.cons ?_ ?_ | refine Subs.agg ?_ | refine Subs.fp ?_ | refine Subs.tup ?_ | refine Sub.map (Nat.zero_le _) (fun _ => ?_)))) (by first | rfl | simp [allP, all0, pureV, pure0, *]) (by simp [chk, hG]) ?_
  simp only [go_sem, hG, hOw]
  (repeat' first | with_reducible refine And.intro ?_ ?_ | with_reducible intro _ | with_reducible refine exP ?_ ?_); all_goals try omega
  refine vcN_sound 20 _ _ ?_
  simp only [go_sem, hG, hOw]
  (repeat' first | with_reducible refine And.intro ?_ ?_ | with_reducible intro _ | with_reducible refine exP ?_ ?_); all_goals try omega
  refine semC_cutN (fun _ : Unit => St.of [(5, bl true), (14, prs G.lo D), (19, prs G.lo q), (21, .fn (.func 36) [.fp [ints G.lo W]])] []) (fun _ => True) ?_ ?_
  · refine semC_loop (fun k : Nat => St.of [(5, bl true), (14, prs G.lo D), (19, prs G.lo q), (21, .fn (.func 36) [.fp [ints G.lo W]]), (148, ints G.lo T), (149, i64 T.length), (150, i64 k)] []) (fun k => k ≤ T.length) (fun k => T.length - k) 0 (by omega) (ent_of0 (by (simp only [go_sem]) <;> simp) hNm) ?_
    rintro k hk
    refine vc_sound _ _ _ ?_; simp only [go_sem, hG, hOw]
    (repeat' first | with_reducible refine And.intro ?_ ?_ | with_reducible intro _ | with_reducible refine exP ?_ ?_); all_goals try omega
    · rename_i hlt
      have hkl : k < T.length := by omega
      have hI := trin_ok W T[k] hWl
      rw [ht _ (List.getElem_mem hkl)] at hI
      refine call_pure hI (.cons (.refl _) (.cons sW .nil)) rfl (by simp [chk, hG]) ?_
      simp only [go_sem, hG, hOw]
      (repeat' first | with_reducible refine And.intro ?_ ?_ | with_reducible intro _ | with_reducible refine exP ?_ ?_); all_goals try omega
      exact ⟨k + 1, by omega, by omega, entA []⟩
    · exact ⟨(), entA []⟩
  rintro ⟨⟩ -
  simp only [go_sem, hG, hOw]
  (repeat' first | with_reducible refine And.intro ?_ ?_ | with_reducible intro _ | with_reducible refine exP ?_ ?_); all_goals try omega
  obtain ⟨Y, hY⟩ : ∃ Y, Y = D ++ q := ⟨_, rfl⟩
  have hYm : Y.map prE = D.map prE ++ q.map prE := by rw [hY, List.map_append]
  have hYl : Y.length = D.length + q.length := by rw [hY, List.length_append]
  have hYin : ∀ y ∈ Y, (wIn W y.1 || wIn W y.2) = true := by
    intro y hy
    rw [hY] at hy
    rcases List.mem_append.1 hy with h | h
    · exact hd y h
    · exact hp y h
  have hYs : (D.length : Int) + q.length = Y.length := by omega
  refine semC_cutN (fun _ : Unit => St.of [(5, bl true)] []) (fun _ => True) ?_ ?_
  · refine semC_loop (fun k : Nat => St.of [(5, bl true), (21, .fn (.func 36) [.fp [ints G.lo W]]), (163, prs G.lo Y), (164, i64 Y.length), (165, i64 k)] []) (fun k => k ≤ Y.length) (fun k => Y.length - k) 0 (by omega) (entA [] (by (simp only [go_sem]) <;> simp [hYm,hYl]) (by (simp only [go_sem, entH, entH1, nilArr, obOK]) <;> simp [hYm,hYl])) ?_
    rintro k hk
    refine vc_sound _ _ _ ?_; simp only [go_sem, hG, hOw]
    (repeat' first | with_reducible refine And.intro ?_ ?_ | with_reducible intro _ | with_reducible refine exP ?_ ?_); all_goals try omega
    · rename_i hlt
      have hkl : k < Y.length := by omega
      have hin := hYin _ (List.getElem_mem hkl)
      have hI := trin_ok W Y[k].1 hWl
      have hI2 := trin_ok W Y[k].2 hWl
      cases h1 : wIn W Y[k].1 with
      | true =>
        rw [h1] at hI
        refine call_pure hI (.cons (.refl _) (.cons sW .nil)) rfl (by simp [chk, hG]) ?_
        simp only [go_sem, hG, hOw]
        (repeat' first | with_reducible refine And.intro ?_ ?_ | with_reducible intro _ | with_reducible refine exP ?_ ?_); all_goals try omega
        exact ⟨k + 1, by omega, by omega, entA []⟩
      | false =>
        rw [h1] at hI
        rw [h1, Bool.false_or] at hin
        rw [hin] at hI2
        refine call_pure hI (.cons (.refl _) (.cons sW .nil)) rfl (by simp [chk, hG]) ?_
        simp only [go_sem, hG, hOw]
        (repeat' first | with_reducible refine And.intro ?_ ?_ | with_reducible intro _ | with_reducible refine exP ?_ ?_); all_goals try omega
        refine call_pure hI2 (.cons (.refl _) (.cons sW .nil)) rfl (by simp [chk, hG]) ?_
        simp only [go_sem, hG, hOw]
        (repeat' first | with_reducible refine And.intro ?_ ?_ | with_reducible intro _ | with_reducible refine exP ?_ ?_); all_goals try omega
        exact ⟨k + 1, by omega, by omega, entA []⟩
    · exact ⟨(), entA []⟩
  rintro ⟨⟩ -
  simp only [go_sem, hG, hOw]
  try (repeat' first | with_reducible refine And.intro ?_ ?_ | with_reducible intro _ | with_reducible refine exP ?_ ?_); all_goals try omega
end Go.Proofs.YtfnohnjnncjidaaGreatDoor
namespace Go.Proofs.YtfnohnjnncjidaaGreatDoor
open Go Pm
set_option linter.unusedSimpArgs false
set_option linter.unusedVariables false
set_option maxHeartbeats 4000000
set_option maxRecDepth 100000
def trE (lo : Nat) (r : Ro) (bs : List Int) (i : Nat) : List V := if trOn r bs i = true then [bl true, lns lo (trL r bs i).1] else [bl false, .v (.slice none 0 0)]
def trSS (lo : Nat) (r : Ro) (bs : List Int) (i : Nat) : List (List V) := (List.range i).map (trE lo r bs) ++ (r.sheets.drop i).map (seE lo)
def trWW (r : Ro) (bs : List Int) (i : Nat) : List Int := (List.range i).map (trW r bs) ++ List.replicate (r.shares.length - i) 0
theorem set_mid {α : Type} (a b : List α) (y x : α) (i : Nat) (h : a.length = i) : (a ++ y :: b).set i x = a ++ x :: b := by
  subst h
  rw [List.set_append_right _ _ (Nat.le_refl _), Nat.sub_self, List.set_cons_zero]
theorem trSS_at (lo : Nat) (r : Ro) (bs : List Int) (i : Nat) (h : i < r.sheets.length) : trSS lo r bs i = (List.range i).map (trE lo r bs) ++ seE lo r.sheets[i] :: (r.sheets.drop (i + 1)).map (seE lo) := by
  unfold trSS
  rw [List.drop_eq_getElem_cons h, List.map_cons]
theorem trSS_next (lo : Nat) (r : Ro) (bs : List Int) (i : Nat) : trSS lo r bs (i + 1) = (List.range i).map (trE lo r bs) ++ trE lo r bs i :: (r.sheets.drop (i + 1)).map (seE lo) := by
  unfold trSS
  rw [List.range_succ, List.map_append, List.map_singleton, List.append_assoc, List.singleton_append]
theorem trWW_at (r : Ro) (bs : List Int) (i : Nat) (h : i < r.shares.length) : trWW r bs i = (List.range i).map (trW r bs) ++ 0 :: List.replicate (r.shares.length - (i + 1)) 0 := by
  unfold trWW
  rw [show r.shares.length - i = (r.shares.length - (i + 1)) + 1 by omega, List.replicate_succ]
theorem trWW_next (r : Ro) (bs : List Int) (i : Nat) : trWW r bs (i + 1) = (List.range i).map (trW r bs) ++ trW r bs i :: List.replicate (r.shares.length - (i + 1)) 0 := by
  unfold trWW
  rw [List.range_succ, List.map_append, List.map_singleton, List.append_assoc, List.singleton_append]
theorem trSS_len (lo : Nat) (r : Ro) (bs : List Int) (i : Nat) (h : i ≤ r.sheets.length) : (trSS lo r bs i).length = r.sheets.length := by
  unfold trSS
  simp; omega
theorem trWW_len (r : Ro) (bs : List Int) (i : Nat) (h : i ≤ r.shares.length) : (trWW r bs i).length = r.shares.length := by
  unfold trWW
  simp; omega
abbrev trF (r : Ro) (bs : List Int) (m i : Nat) : List (Nat × V) := [(1, u32s 0 bs), (2, .ptr 2 0), (5, bl true), (6, .ptr 6 0), (7, .ptr 7 0), (8, i64 m), (43, i64 r.shares.length), (44, i64 i)]
abbrev trH (lo : Nat) (r : Ro) (S : List (List V)) (W : List Int) : List (Nat × OB) := [(2, .box (roC 0 r)), (6, .box (twB lo 91 92 93 r)), (7, .box [.own 95 0 r.shares.length 1]), (91, .arr 97 3 (r.helpers.map hpE)), (92, .arr 80 4 (r.shares.map srE)), (93, .arr 59 2 S), (95, .arr 3 1 (W.map intE))]
theorem trRound (r : Ro) (bs : List Int) (hbs : OKu bs) (hg : Good r) (i : Nat) (hi : i < r.shares.length) {G : Gh} (hG : G.n = 183) (hOw : G.ow = fun i => [163].contains i) (hNm : G.nm = []) {Q : Exit → St → Prop}
    (hend : ∀ s, Ent G s (St.of (trF r bs (trSum r bs (i + 1)) i) (trH G.lo r (trSS G.lo r bs (i + 1)) (trWW r bs (i + 1)))) → Q .normal s ∧ Q (.exit 1) s) :
    SemL Tryz.prog G (flat (bkOf 1 Tryz.f4.body)) (St.of (trF r bs (trSum r bs i) i) (trH G.lo r (trSS G.lo r bs i) (trWW r bs i))) Q := by
  have hix : i < r.sheets.length := by rw [hg.xn]; exact hi
  have hsn := hg.sn
  have hSl : (trSS G.lo r bs i).length = r.sheets.length := trSS_len _ _ _ _ (by omega)
  have hWl : (trWW r bs i).length = r.shares.length := trWW_len _ _ _ (by omega)
  have hxn := hg.xn
  obtain ⟨hp1, hp2⟩ := part_lines hg i
  have hLi := lines_ok r hg i hi
  have hWr := write_ok (partA r i) bs hbs (40 * i) (by omega) hp1 fun a ha => lineB_one (hp2 a ha)
  have c1 := choose_ok bs hbs i (by omega)
  have c2 := choose_ok bs hbs (10 + i) (by omega)
  have b1 := chooseI_bd hbs i
  have b2 := chooseI_bd hbs (10 + i)
  have hLb := trL_bd r bs i
  have sl : ∀ W, Pm.Sub (V.lst G.lo 1 (List.map (lnE G.lo) W)) (V.lst 0 1 (List.map (lnE 0) W)) := fun W => Sub.map (Nat.zero_le _) fun a => .cons (.lo (Nat.zero_le _)) .nil
  have hSb : trSum r bs i ≤ 8 := by unfold trSum; have := numsL_le (fun j => decide (0 < trW r bs j)) i; omega
  have eS1 : (trSS G.lo r bs i).set i [.v (.bool false), .v (.slice none 0 0)] = (List.range i).map (trE G.lo r bs) ++ [.v (.bool false), .v (.slice none 0 0)] :: (r.sheets.drop (i + 1)).map (seE G.lo) := by
    rw [trSS_at _ _ _ _ hix, set_mid _ _ _ _ _ (by simp)]
  have off : trOn r bs i = false → trSS G.lo r bs (i + 1) = (trSS G.lo r bs i).set i [.v (.bool false), .v (.slice none 0 0)] ∧ trWW r bs (i + 1) = trWW r bs i ∧ trSum r bs (i + 1) = trSum r bs i := by
    intro h
    have hw : trW r bs i = 0 := by unfold trW; rw [h]; rfl
    refine ⟨?_, ?_, ?_⟩
    · rw [eS1, trSS_next]
      unfold trE
      rw [if_neg (by rw [h]; decide)]; rfl
    · rw [trWW_next, trWW_at _ _ _ hi, hw]
    · rw [trSum_succ, hw, if_neg (by decide)]
  have hSi : ∀ h, (trSS G.lo r bs i)[i]'h = [.v (.bool r.sheets[i].back), lns G.lo r.sheets[i].lines] := by
    intro h
    have e : (trSS G.lo r bs i)[i]? = some [.v (.bool r.sheets[i].back), lns G.lo r.sheets[i].lines] := by
      rw [trSS_at _ _ _ _ hix, List.getElem?_append_right (by simp)]
      simp [seE, bl]
    rw [List.getElem?_eq_getElem h] at e
    exact Option.some.inj e
  obtain ⟨S1, hS1⟩ : ∃ S1, S1 = (trSS G.lo r bs i).set i [.v (.bool false), .v (.slice none 0 0)] := ⟨_, rfl⟩
  have hS1s := hS1.symm
  have hS1i : ∀ h, S1[i]'h = [.v (.bool false), .v (.slice none 0 0)] := by
    intro h
    subst hS1
    simp
  have hS1l : S1.length = r.sheets.length := by rw [hS1]; simp [hSl]
  rw [← hS1] at eS1
  rw [← hS1] at off
  have hon : ∀ x : List V, trE G.lo r bs i = x → S1.set i x = trSS G.lo r bs (i + 1) := by
    intro x hx
    rw [eS1, set_mid _ _ _ _ _ (by simp), trSS_next, hx]
  have hWn : (trWW r bs i).set i (trW r bs i) = trWW r bs (i + 1) := by
    rw [trWW_at _ _ _ hi, set_mid _ _ _ _ _ (by simp), trWW_next]
  unfold Tryz.f4
  simp only [rgOf, bkOf, rgO, bkO, orElse, Option.bind_some, Option.getD_some, reduceIte, Nat.reduceEqDiff, reduceCtorEq]
  simp only [flat, List.cons_append, List.nil_append, List.append_assoc, List.take_succ_cons, List.take_zero, List.take_nil, List.drop_succ_cons, List.drop_zero]
  refine vcN_sound 4 _ _ ?_
  simp (config := { maxSteps := 2000000 }) only [go_sem, hG, hOw, hSi, List.set_cons_zero, List.set_cons_succ, hS1s]
  (repeat' first | with_reducible refine And.intro ?_ ?_ | with_reducible intro _ | with_reducible refine exP ?_ ?_); all_goals try omega
  refine call_pure c1 (by first | exact Subs.refl _ | (repeat' (first | exact Subs.nil | exact Sub.refl _ | exact Sub.lo (Nat.zero_le _) | refine Subs.cons ?_ ?_ | refine Subs.agg ?_ | refine Subs.fp ?_ | refine Subs.tup ?_ | refine Sub.map (Nat.zero_le _) (fun _ => ?_)))) (by first | rfl | simp [allP, all0, pureV, pure0, *]) (by simp [chk, hG]) ?_
  simp only [go_sem, hG, hOw]
  (repeat' first | with_reducible refine And.intro ?_ ?_ | with_reducible intro _ | with_reducible refine exP ?_ ?_); all_goals try omega
  · rename_i h5
    have hoff : trOn r bs i = false := by unfold trOn; rw [decide_eq_true h5]; rfl
    obtain ⟨o1, o2, o3⟩ := off hoff
    refine (hend _ ?_).2
    rw [o1, o2, o3]
    exact entA [(2, some 2), (6, some 6), (7, some 7), (91, some 91), (92, some 92), (93, some 93), (95, some 95)]
  · rename_i h5
    refine semL_midN 3 (fun _ : Unit => St.of (trF r bs (trSum r bs i) i ++ [(9, i64 i), (10, lns 0 (trL r bs i).1), (11, i64 (trL r bs i).2)]) (trH G.lo r S1 (trWW r bs i))) (fun _ => True) ?_ ?_
    · simp only [flat, List.cons_append, List.nil_append, List.append_assoc, List.take_succ_cons, List.take_zero, List.take_nil, List.drop_succ_cons, List.drop_zero]
      refine vcN_sound 4 _ _ ?_
      simp only [go_sem, hG, hOw]
      (repeat' first | with_reducible refine And.intro ?_ ?_ | with_reducible intro _ | with_reducible refine exP ?_ ?_); all_goals try omega
      refine call_pure hLi (by first | exact Subs.refl _ | (repeat' (first | exact Subs.nil | exact Sub.refl _ | exact Sub.lo (Nat.zero_le _) | refine Subs.cons ?_ ?_ | refine Subs.agg ?_ | refine Subs.fp ?_ | refine Subs.tup ?_ | refine Sub.map (Nat.zero_le _) (fun _ => ?_)))) (by first | rfl | simp [allP, all0, pureV, pure0, *]) (by simp [chk, hG]) ?_
      simp only [go_sem, hG, hOw]
      (repeat' first | with_reducible refine And.intro ?_ ?_ | with_reducible intro _ | with_reducible refine exP ?_ ?_); all_goals try omega
      refine call_pure c2 (by first | exact Subs.refl _ | (repeat' (first | exact Subs.nil | exact Sub.refl _ | exact Sub.lo (Nat.zero_le _) | refine Subs.cons ?_ ?_ | refine Subs.agg ?_ | refine Subs.fp ?_ | refine Subs.tup ?_ | refine Sub.map (Nat.zero_le _) (fun _ => ?_)))) (by first | rfl | simp [allP, all0, pureV, pure0, *]) (by simp [chk, hG]) ?_
      simp only [go_sem, hG, hOw]
      (repeat' first | with_reducible refine And.intro ?_ ?_ | with_reducible intro _ | with_reducible refine exP ?_ ?_); all_goals try omega
      · rename_i h3
        refine call_pure hWr (by first | exact Subs.refl _ | (repeat' (first | exact Subs.nil | exact Sub.refl _ | exact Sub.lo (Nat.zero_le _) | refine Subs.cons ?_ ?_ | refine Subs.agg ?_ | refine Subs.fp ?_ | refine Subs.tup ?_ | refine Sub.map (Nat.zero_le _) (fun _ => ?_)))) (by first | rfl | simp [allP, all0, pureV, pure0, *]) (by simp [chk, hG]) ?_
        simp only [go_sem, hG, hOw]
        (repeat' first | with_reducible refine And.intro ?_ ?_ | with_reducible intro _ | with_reducible refine exP ?_ ?_); all_goals try omega
        have eT : trL r bs i = (wrOut bs (40 * i) (partA r i), wrCost bs (40 * i) (partA r i)) := by unfold trL; rw [if_pos h3]
        refine ⟨(), ?_⟩
        rw [eT]
        exact entA [(2, some 2), (6, some 6), (7, some 7), (91, some 91), (92, some 92), (93, some 93), (95, some 95)] (by (simp only [go_sem]) <;> simp [sl]) (by (simp only [go_sem, entH, entH1, nilArr, obOK]) <;> simp [sl])
      · rename_i h3
        have eT : trL r bs i = (partA r i, 0) := by unfold trL; rw [if_neg h3]
        refine ⟨(), ?_⟩
        rw [eT]
        exact entA [(2, some 2), (6, some 6), (7, some 7), (91, some 91), (92, some 92), (93, some 93), (95, some 95)]
    rintro ⟨⟩ -
    simp only [flat, List.cons_append, List.nil_append, List.append_assoc, List.take_succ_cons, List.take_zero, List.take_nil, List.drop_succ_cons, List.drop_zero]
    refine vcN_sound 2 _ _ ?_
    simp only [go_sem, hG, hOw]
    (repeat' first | with_reducible refine And.intro ?_ ?_ | with_reducible intro _ | with_reducible refine exP ?_ ?_); all_goals try omega
    · rename_i hlt
      have hoff : trOn r bs i = false := by unfold trOn; rw [decide_eq_false (show ¬ ((trL r bs i).1.length : Int) ≤ 30 by omega)]; simp
      obtain ⟨o1, o2, o3⟩ := off hoff
      refine (hend _ ?_).2
      rw [o1, o2, o3]
      exact entA [(2, some 2), (6, some 6), (7, some 7), (91, some 91), (92, some 92), (93, some 93), (95, some 95)]
    · rename_i hle
      have hO : trOn r bs i = true := by unfold trOn; rw [decide_eq_false h5, decide_eq_true (show ((trL r bs i).1.length : Int) ≤ 30 by omega)]; rfl
      have eE : trE G.lo r bs i = [.v (.bool true), lns G.lo (trL r bs i).1] := by unfold trE; rw [if_pos hO]; rfl
      have eW : trW r bs i = (trL r bs i).2 := by unfold trW; rw [if_pos hO]
      have hS2 := hon _ eE
      simp only [lns] at hS2
      rw [eW] at hWn
      have hWm : (List.map intE (trWW r bs i)).set i [.v (.int .i64 (trL r bs i).2)] = List.map intE (trWW r bs (i + 1)) := by rw [← hWn, List.map_set]; rfl
      have hTw := TwinLines_big (trL r bs i).1 (by omega) fun l hl => (lineB_one (trL_line hg bs i l hl)).2
      have esum := trSum_succ r bs i
      rw [eW] at esum
      refine vcN_sound 5 _ _ ?_
      simp only [go_sem, hG, hOw]
      refine semC_draw0 mixed (by kernel_rfl) ?_
      simp only [go_sem, hG, hOw]
      (repeat' first | with_reducible refine And.intro ?_ ?_ | with_reducible intro _ | with_reducible refine exP ?_ ?_); all_goals try omega
      refine ⟨_, callGives hTw (by first | exact Subs.refl _ | (repeat' (first | exact Subs.nil | exact Sub.refl _ | exact Sub.lo (Nat.zero_le _) | refine Subs.cons ?_ ?_ | refine Subs.agg ?_ | refine Subs.fp ?_ | refine Subs.tup ?_ | refine Sub.map (Nat.zero_le _) (fun _ => ?_)))) (by first | rfl | simp [allP, all0, pureV, pure0, *]), ?_⟩
      simp (config := { maxSteps := 2000000 }) only [go_sem, hG, hOw, hS1i, List.set_cons_zero, List.set_cons_succ, hS2, hWm]
      (repeat' first | with_reducible refine And.intro ?_ ?_ | with_reducible intro _ | with_reducible refine exP ?_ ?_); all_goals try omega
      · rename_i hc
        refine (hend _ ?_).1
        rw [esum, if_pos hc]
        exact entA [(2, some 2), (6, some 6), (7, some 7), (91, some 91), (92, some 92), (93, some 93), (95, some 95)]
      · rename_i hc
        refine (hend _ ?_).1
        rw [esum, if_neg hc]
        exact entA [(2, some 2), (6, some 6), (7, some 7), (91, some 91), (92, some 92), (93, some 93), (95, some 95)]
theorem trFin (lo : Nat) (r : Ro) (bs : List Int) (h : r.sheets.length = r.shares.length) : Pm.Sub (.lst lo 2 (trSS lo r bs r.shares.length)) (ses lo (trX r bs).sheets) := by
  have e : trSS lo r bs r.shares.length = (List.range r.shares.length).map (trE lo r bs) := by
    unfold trSS
    rw [List.drop_of_length_le (by omega)]; simp
  rw [e]
  unfold ses trX
  simp only [List.map_map]
  refine Sub.map (Nat.le_refl _) fun i => ?_
  simp only [Function.comp, trE, trS, seE, bl, lns]
  split
  · exact .refl _
  · exact .cons (.refl _) (.cons (.nil _ _) .nil)
theorem both_same {p : Prop} (h : p) : p ∧ p := ⟨h, h⟩
theorem HandTrue_ok (r : Ro) (bs : List Int) (hbs : OKu bs) : Gives Tryz.prog 4 [roE 0 r, u32s 0 bs] (fun _ => bl true) := by
  refine pure_introL (fun i => [163].contains i) Tryz.func4 Tryz.ntmps4 rfl (by kernel_rfl) (by simp) rfl (by decide) fun G hG hOw hNm hZ hB => ?_
  refine vcN_sound 2 _ _ ?_
  simp only [go_sem, hG, hOw]
  refine call_pure alive_ok (Subs.refl _) rfl (by simp [chk, hG]) ?_
  simp only [go_sem, hG, hOw]
  refine vcN_sound 2 _ _ ?_
  cases hrd : readyB r with
  | false =>
    simp only [go_sem, hG, hOw]
    refine call_pureA (ready_ok r) ?_
    simp (config := { maxSteps := 2000000 }) only [go_sem, hG, hOw, hrd]
    try (repeat' first | with_reducible refine And.intro ?_ ?_ | with_reducible intro _ | with_reducible refine exP ?_ ?_); all_goals try omega
  | true =>
    obtain ⟨hr, hg⟩ := ready_good hrd
    have hsn := hg.sn
    have hxn := hg.xn
    simp only [go_sem, hG, hOw]
    refine call_pureA (ready_ok r) ?_
    simp (config := { maxSteps := 2000000 }) only [go_sem, hG, hOw, hrd]
    (repeat' first | with_reducible refine And.intro ?_ ?_ | with_reducible intro _ | with_reducible refine exP ?_ ?_); all_goals try omega
    refine vcN_sound 4 _ _ ?_
    simp only [go_sem, hG, hOw]
    refine call_tri [] [(0, 91), (1, 92), (2, 93)] (Twin_tri r hr) (by (simp only [go_sem]) <;> simp [twO,twH]) (by (simp only [go_sem, entH, entH1, nilArr, obOK]) <;> simp [twO,twH]) (by simp [injR, apart, toR]) (by simp [coverR, usH, toR, twO,twH]) (by simp [uniqP, lkR, toR]) (by simp [chk, hG]) ?_
    simp only [go_sem, hG, hOw]
    (repeat' first | with_reducible refine And.intro ?_ ?_ | with_reducible intro _ | with_reducible refine exP ?_ ?_); all_goals try omega
    refine make_step rfl rfl rfl rfl (by rw [hG]; decide) (by simp [go_sem]) tb_sliceElem_45 tb_zeroK_3 rfl tb_bytesK_3 (by decide) (by omega) (by omega) (by omega) ?_
    have en : ((r.shares.length : Int)).toNat = r.shares.length := by omega
    have er : List.replicate r.shares.length [V.v (Value.int IntKind.i64 0)] = (trWW r bs 0).map intE := by unfold trWW; rw [List.range_zero, List.map_nil, List.nil_append, Nat.sub_zero, List.map_replicate]; rfl
    have es : List.map (seE G.lo) r.sheets = trSS G.lo r bs 0 := by unfold trSS; simp
    have e0 : trSum r bs 0 = 0 := rfl
    simp (config := { maxSteps := 2000000 }) only [go_sem, hG, hOw, en, er]
    (repeat' first | with_reducible refine And.intro ?_ ?_ | with_reducible intro _ | with_reducible refine exP ?_ ?_); all_goals try omega
    refine vcN_sound 1 _ _ ?_
    simp only [go_sem, hG, hOw]
    refine semC_cutN (fun _ : Unit => St.of [(5, bl true), (6, .fp (roC G.lo (trX r bs))), (7, .fp [ints G.lo (trWs r bs)]), (8, i64 (trSum r bs r.shares.length))] []) (fun _ => True) ?_ ?_
    · refine semC_loop (fun i : Nat => St.of (trF r bs (trSum r bs i) i) (trH G.lo r (trSS G.lo r bs i) (trWW r bs i))) (fun i => i ≤ r.shares.length) (fun i => r.shares.length - i) 0 (by omega) (entA [(2, some 2), (6, some 6), (7, some 7), (91, some 91), (92, some 92), (93, some 93), (95, some 40)] (by (simp only [go_sem]) <;> simp [es,e0]) (by (simp only [go_sem, entH, entH1, nilArr, obOK]) <;> simp [es,e0])) ?_
      rintro i hi
      by_cases hil : i < r.shares.length
      · have hlt : (i : Int) < r.shares.length := by omega
        refine SemL.semC ?_
        simp only [flat, List.cons_append, List.nil_append, List.append_assoc, List.take_succ_cons, List.take_zero, List.take_nil, List.drop_succ_cons, List.drop_zero]
        refine vcN_sound 2 _ _ ?_
        simp (config := { maxSteps := 2000000 }) only [go_sem, hG, hOw, hlt]
        (repeat' first | with_reducible refine And.intro ?_ ?_ | with_reducible intro _ | with_reducible refine exP ?_ ?_); all_goals try omega
        refine semL_blk ?_
        refine semL_ent (s' := St.of (trF r bs (trSum r bs i) i) (trH G.lo r (trSS G.lo r bs i) (trWW r bs i))) (entA [(2, some 2), (6, some 6), (7, some 7), (91, some 91), (92, some 92), (93, some 93), (95, some 95)]) ?_
        refine semL_code (l' := flat (bkOf 1 Tryz.f4.body)) (by kernel_rfl) ?_
        refine trRound r bs hbs hg i hil hG hOw hNm ?_
        intro s hs
        refine both_same ?_
        show SemL _ _ _ _ _
        refine semL_ent hs ?_
        refine vcN_sound 2 _ _ ?_
        simp only [go_sem, hG, hOw]
        (repeat' first | with_reducible refine And.intro ?_ ?_ | with_reducible intro _ | with_reducible refine exP ?_ ?_); all_goals try omega
        exact ⟨i + 1, by omega, by omega, entA [(2, some 2), (6, some 6), (7, some 7), (91, some 91), (92, some 92), (93, some 93), (95, some 95)]⟩
      · obtain rfl : i = r.shares.length := by omega
        have hlt : ¬ (r.shares.length : Int) < r.shares.length := by omega
        have hSl : (trSS G.lo r bs r.shares.length).length = r.sheets.length := trSS_len _ _ _ _ (by omega)
        have htk : List.take r.sheets.length (trSS G.lo r bs r.shares.length) = trSS G.lo r bs r.shares.length := List.take_of_length_le (by omega)
        have hfin := trFin G.lo r bs hxn
        have hWe : trWW r bs r.shares.length = trWs r bs := by unfold trWW trWs; simp
        have hWl : (trWs r bs).length = r.shares.length := by simp [trWs]
        have htw : List.take r.shares.length (List.map intE (trWs r bs)) = List.map intE (trWs r bs) := List.take_of_length_le (by simp [hWl])
        have htk1 : List.take r.helpers.length (List.map hpE r.helpers) = List.map hpE r.helpers := List.take_of_length_le (by simp)
        have htk2 : List.take r.shares.length (List.map srE r.shares) = List.map srE r.shares := List.take_of_length_le (by simp)
        have x1 : (trX r bs).text = r.text ∧ (trX r bs).helpers = r.helpers ∧ (trX r bs).shares = r.shares := ⟨rfl, rfl, rfl⟩
        refine SemL.semC ?_
        simp only [flat, List.cons_append, List.nil_append, List.append_assoc, List.take_succ_cons, List.take_zero, List.take_nil, List.drop_succ_cons, List.drop_zero]
        refine vcN_sound 2 _ _ ?_
        simp (config := { maxSteps := 2000000 }) only [go_sem, hG, hOw, hlt]
        (repeat' first | with_reducible refine And.intro ?_ ?_ | with_reducible intro _ | with_reducible refine exP ?_ ?_); all_goals try omega
        refine ⟨(), ent_frz (fun i => [6, 7, 91, 92, 93, 95].contains i) ?_⟩
        have hFp : Pm.Sub (.fp [chs G.lo r.text, hps G.lo r.helpers, srs G.lo r.shares, .lst G.lo 2 (trSS G.lo r bs r.shares.length)]) (.fp (roC G.lo (trX r bs))) := Subs.fp (.cons (.refl _) (.cons (.refl _) (.cons (.refl _) (.cons hfin .nil))))
        simp only [go_sem] at hFp
        exact entA [] (by (simp only [go_sem]) <;> simp [hFp,hWe,htk,htw,htk1,htk2]) (by (simp only [go_sem, entH, entH1, nilArr, obOK]) <;> simp [hFp,hWe,htk,htw,htk1,htk2])
    rintro ⟨⟩ -
    show SemL _ _ _ _ _
    refine semL_code (l' := (flat (Tryz.f4.body.getD .skip)).drop 9) (by kernel_rfl) ?_
    exact trEnd (trX r bs) (trWs r bs) (trSum r bs r.shares.length) (tr_ready hrd bs) (tr_in_torn hg (ready_good (tr_ready hrd bs)).2) (tr_in_differ hg (ready_good (tr_ready hrd bs)).2) (tr_in_proof hg (ready_good (tr_ready hrd bs)).2) (tr_again hg (ready_good (tr_ready hrd bs)).2)
      (by unfold trSum; have := numsL_le (fun i => decide (0 < trW r bs i)) r.shares.length; omega) (by simp [trWs]; omega) hG hOw hNm
end Go.Proofs.YtfnohnjnncjidaaGreatDoor
