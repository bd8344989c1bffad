import Derived.Test.YtfnohnjnncjidaaGreatDoorQR44
import Derived.Test.YtfnohnjnncjidaaGreatDoorQR47
namespace Go.Proofs.YtfnohnjnncjidaaGreatDoor
open Go Pm
set_option linter.unusedSimpArgs false
set_option linter.unusedVariables false
set_option maxHeartbeats 4000000
set_option maxRecDepth 100000
theorem expl_cases {r : Ro} (hg : Good r) (i : Nat) (hi : i < r.shares.length) (hix : i < r.sheets.length) :
    (explE r i = 6 ∧ (r.sheets[i].back = true → 0 < r.sheets[i].lines.length)) ∨
    (explE r i = 0 ∧ r.sheets[i].back = true ∧ cAt (partA r i) r.sheets[i].lines 0 0 false < 1073741824 ∧ explL r i = toldL (partA r i) r.sheets[i].lines r.shares[i].fr) := by
  have hE := backE_good hg hi
  have hll := hg.ll
  have hpl : (partA r i).length ≤ 1000 := by
    have := part_oks hg i r.sheets[i] (List.getElem_mem hix)
    exact this.na
  have e1 : explE r i = if r.sheets[i].back = true then if 1073741824 ≤ cAt (partA r i) r.sheets[i].lines 0 0 false then 6 else 0 else 6 := by
    unfold explE
    rw [if_neg (by rw [hE]; decide), Int.toNat_natCast, List.getElem?_eq_getElem hi, List.getElem?_eq_getElem hix]
  have e2 : explL r i = if r.sheets[i].back = true then toldL (partA r i) r.sheets[i].lines r.shares[i].fr else [] := by
    unfold explL
    rw [if_neg (by rw [hE]; decide), Int.toNat_natCast, List.getElem?_eq_getElem hi, List.getElem?_eq_getElem hix]
  rw [e1, e2]
  by_cases hb : r.sheets[i].back = true
  · rw [if_pos hb, if_pos hb]
    by_cases hc : 1073741824 ≤ cAt (partA r i) r.sheets[i].lines 0 0 false
    · left
      rw [if_pos hc]
      refine ⟨rfl, fun _ => ?_⟩
      false_or_by_contra
      rename_i h0
      have e : r.sheets[i].lines = [] := List.eq_nil_of_length_eq_zero (by omega)
      rw [e] at hc
      have := cst_none (partA r i) (by omega)
      have h2 : cAt (partA r i) [] 0 0 false = cst (partA r i) none [] := rfl
      omega
    · right
      rw [if_neg hc]
      exact ⟨rfl, hb, by omega, rfl⟩
  · rw [if_neg hb]
    exact .inl ⟨rfl, fun h => absurd h hb⟩
theorem told_len (a b : List Ln) (fr : Int) (ha : a.length ≤ 1000) (hb : b.length ≤ 1000) : (toldL a b fr).length ≤ 5000 := by
  have tl : ∀ n i k w, (tld a b fr n i k w).length ≤ n := by
    intro n
    induction n with
    | zero => intro i k w; exact Nat.le_refl _
    | succ n ih =>
      intro i k w
      unfold tld
      split
      · simp
      · rw [List.length_append]
        have h1 := ih (stN a b i k w (stJ a b i k w)).1 (stN a b i k w (stJ a b i k w)).2.1 (stN a b i k w (stJ a b i k w)).2.2
        have h2 : (stF a b fr i k (stJ a b i k w)).length ≤ 1 := by
          unfold stF
          split
          · simp
          · split <;> simp
          · simp
        omega
  unfold toldL
  split
  · simp
  · have := tl (a.length + b.length) 0 0 false
    omega
theorem HandExplain_ok (r : Ro) (p : Nat) (hp : p < 256) : Gives Tryz.prog 6 [roE 0 r, .v (.int .u8 p)] (fun _ => bl true) := by
  cases hrd : readyB r with
  | false =>
    refine pure_intro (ow := fun _ => false) Tryz.func6 Tryz.ntmps6 rfl (by kernel_rfl) (by simp) rfl (by decide) fun G hG hOw hNm hB => ?_; simp only [go_sem, hG, hOw]
    refine call_pure alive_ok (Subs.refl _) rfl (by simp [chk, hG]) ?_
    simp only [go_sem, hG, hOw]
    refine call_pureA (ready_ok r) ?_
    simp (config := { maxSteps := 2000000 }) only [go_sem, hG, hOw, hrd]
    try (repeat' first | with_reducible refine And.intro ?_ ?_ | with_reducible intro _ | with_reducible refine exP ?_ ?_); all_goals try omega
  | true =>
    obtain ⟨hr, hg⟩ := ready_good hrd
    have he := hg.e
    have hsn := hg.sn
    by_cases h0 : r.shares.length = 0
    · have h0' : (r.shares.length : Int) = 0 := by omega
      refine pure_intro (ow := fun _ => false) Tryz.func6 Tryz.ntmps6 rfl (by kernel_rfl) (by simp) rfl (by decide) fun G hG hOw hNm hB => ?_; simp only [go_sem, hG, hOw]
      refine call_pure alive_ok (Subs.refl _) rfl (by simp [chk, hG]) ?_
      simp only [go_sem, hG, hOw]
      refine call_pureA (ready_ok r) ?_
      simp (config := { maxSteps := 2000000 }) only [go_sem, hG, hOw, hrd, h0']
      try (repeat' first | with_reducible refine And.intro ?_ ?_ | with_reducible intro _ | with_reducible refine exP ?_ ?_); all_goals try omega
    · have h0' : ¬ (r.shares.length : Int) = 0 := by omega
      obtain ⟨i, hi⟩ : ∃ i, i = p % r.shares.length := ⟨_, rfl⟩
      have hil : i < r.shares.length := by rw [hi]; exact Nat.mod_lt _ (by omega)
      have hix : i < r.sheets.length := by rw [hg.xn]; exact hil
      have em1 : (p : Int) % (r.shares.length : Int) = (i : Int) := by rw [hi]; simp
      have hsi := hg.s i hil
      have hll := hg.ll
      have hEx := Explain_ok r hr i
      have hO := part_oks hg i r.sheets[i] (List.getElem_mem hix)
      have hLi := lines_ok r hg i hil
      rcases expl_cases hg i hil hix with ⟨hE, hbk⟩ | ⟨hE, hbk, hlt, hL⟩
      · rw [hE] at hEx
        refine pure_intro (ow := fun _ => false) Tryz.func6 Tryz.ntmps6 rfl (by kernel_rfl) (by simp) rfl (by decide) fun G hG hOw hNm hB => ?_; simp only [go_sem, hG, hOw]
        refine call_pure alive_ok (Subs.refl _) rfl (by simp [chk, hG]) ?_
        simp only [go_sem, hG, hOw]
        refine call_pureA (ready_ok r) ?_
        simp (config := { maxSteps := 2000000 }) only [go_sem, hG, hOw, hrd, h0', em1]
        (repeat' first | with_reducible refine And.intro ?_ ?_ | with_reducible intro _ | with_reducible refine exP ?_ ?_); all_goals try omega
        refine call_pure hEx (by first | exact Subs.refl _ | (repeat' (first | exact Subs.nil | exact Sub.refl _ | exact Sub.lo (Nat.zero_le _) | refine Subs.cons ?_ ?_ | refine Subs.agg ?_ | refine Subs.fp ?_ | refine Subs.tup ?_ | refine Sub.map (Nat.zero_le _) (fun _ => ?_)))) (by first | rfl | simp [allP, all0, pureV, pure0, *]) (by simp [chk, hG]) ?_
        simp only [go_sem, hG, hOw]
        (repeat' first | with_reducible refine And.intro ?_ ?_ | with_reducible intro _ | with_reducible refine exP ?_ ?_); all_goals try omega
        rename_i hb1
        have := hbk hb1
        omega
      · rw [hE, hL] at hEx
        obtain ⟨A, hA⟩ : ∃ A, A = partA r i := ⟨_, rfl⟩
        obtain ⟨B, hBl⟩ : ∃ B, B = r.sheets[i].lines := ⟨_, rfl⟩
        have hBs := hBl.symm
        obtain ⟨fr, hfr⟩ : ∃ fr, fr = r.shares[i].fr := ⟨_, rfl⟩
        obtain ⟨L, hLL⟩ : ∃ L, L = toldL A B fr := ⟨_, rfl⟩
        have hfrs : (r.shares[i]?).map (·.fr) = some fr := by rw [List.getElem?_eq_getElem hil]; simp [hfr]
        rw [← hA] at hLi
        rw [← hA, ← hBl] at hO hlt
        rw [← hA, ← hBl, ← hfr, ← hLL] at hEx
        have hS := OnW.start A B fr hlt
        rw [← hLL] at hS
        have hTl : (toldL A B fr).length ≤ 5000 := told_len A B fr hO.na hO.nb
        refine pure_intro (ow := fun _ => false) Tryz.func6 Tryz.ntmps6 rfl (by kernel_rfl) (by simp) rfl (by decide) fun G hG hOw hNm hB => ?_; simp only [go_sem, hG, hOw]
        refine call_pure alive_ok (Subs.refl _) rfl (by simp [chk, hG]) ?_
        simp only [go_sem, hG, hOw]
        refine call_pureA (ready_ok r) ?_
        simp (config := { maxSteps := 2000000 }) only [go_sem, hG, hOw, hrd, h0', em1]
        (repeat' first | with_reducible refine And.intro ?_ ?_ | with_reducible intro _ | with_reducible refine exP ?_ ?_); all_goals try omega
        refine call_pure hEx (by first | exact Subs.refl _ | (repeat' (first | exact Subs.nil | exact Sub.refl _ | exact Sub.lo (Nat.zero_le _) | refine Subs.cons ?_ ?_ | refine Subs.agg ?_ | refine Subs.fp ?_ | refine Subs.tup ?_ | refine Sub.map (Nat.zero_le _) (fun _ => ?_)))) (by first | rfl | simp [allP, all0, pureV, pure0, *]) (by simp [chk, hG]) ?_
        simp (config := { maxSteps := 2000000 }) only [go_sem, hG, hOw, hBs]
        (repeat' first | with_reducible refine And.intro ?_ ?_ | with_reducible intro _ | with_reducible refine exP ?_ ?_); all_goals try omega
        refine call_pure hLi (by first | exact Subs.refl _ | (repeat' (first | exact Subs.nil | exact Sub.refl _ | exact Sub.lo (Nat.zero_le _) | refine Subs.cons ?_ ?_ | refine Subs.agg ?_ | refine Subs.fp ?_ | refine Subs.tup ?_ | refine Sub.map (Nat.zero_le _) (fun _ => ?_)))) (by first | rfl | simp [allP, all0, pureV, pure0, *]) (by simp [chk, hG]) ?_
        simp only [go_sem, hG, hOw]
        (repeat' first | with_reducible refine And.intro ?_ ?_ | with_reducible intro _ | with_reducible refine exP ?_ ?_); all_goals try omega
        refine semC_cut (fun _ : Unit => St.of [(2, .ptr 2 0), (5, bl true), (7, fts G.lo L), (9, lns 0 B), (10, i64 L.length), (11, i64 B.length)] [(2, .box (roC 0 r))]) (fun _ => True) ?_ ?_
        · refine semC_loop (fun x : Nat × Nat × Nat × Bool => St.of (hxF G.lo A B L i x.1 x.2.1 x.2.2.1) [(2, .box (roC 0 r))]) (fun x => OnW A B fr L x.1 x.2.1 x.2.2.1 x.2.2.2 ∧ NoRep A B x.1 x.2.2.1 x.2.2.2) (fun x => A.length - x.1) (0, 0, 0, false) ⟨hS, noRep_false A B 0 0⟩ (entA [(2, some 2)] (by (simp only [go_sem]) <;> simp [hBs]) (by (simp only [go_sem, entH, entH1, nilArr, obOK]) <;> simp [hBs])) ?_
          rintro ⟨n, t, k, w⟩ ⟨hW, hN⟩
          simp only at hW hN
          have hnA := hW.hi
          have hkB := hW.hk
          have htL := hW.le
          have hAl := hO.na
          have hAl4 : A.length ≤ 400 := by rw [hA]; exact (part_lines hg i).1
          have hBl4 : B.length ≤ 400 := by rw [hBl]; have := (hr.x.2 _ (List.getElem_mem hix)).1; omega
          have hBl2 := hO.nb
          have hLl : L.length ≤ 5000 := by rw [hLL]; exact hTl
          have hfs : r.shares[i].fr = fr := hfr.symm
          by_cases hn : n < A.length
          · have hlt2 : (n : Int) < A.length := by omega
            refine SemL.semC ?_
            simp only [flat, List.cons_append, List.nil_append, List.append_assoc, List.take_succ_cons, List.take_zero, List.take_nil, List.drop_succ_cons, List.drop_zero]
            refine vcN_sound 2 _ _ ?_
            simp (config := { maxSteps := 2000000 }) only [go_sem, hG, hOw, hlt2]
            (repeat' first | with_reducible refine And.intro ?_ ?_ | with_reducible intro _ | with_reducible refine exP ?_ ?_); all_goals try omega
            refine semL_blk ?_
            refine semL_midN 8 (fun x : Nat × Int => hxS G.lo r A B L i n x.1 k [(13, strs 0 A[n]), (14, i64 (fr + n)), (16, i64 x.2)]) (fun x => OnW A B fr L (n + 1) x.1 (k + 1) true ∧ ∃ hk : k < B.length, x.2 = few A[n] B[k]) ?_ ?_
            · refine semL_ent (s' := hxS G.lo r A B L i n t k []) (entA [(2, some 2)]) ?_
              refine semL_code (l' := (flat (bkOf 1 Tryz.f6.body)).take 8) (by kernel_rfl) ?_
              refine xp1 r A B fr L i n t k w hil hfs ⟨by omega, by omega⟩ hLl hAl hBl2 hW hN hn hG hOw hNm ?_
              intro s hW2 hs
              show SemL _ _ _ _ _
              refine semL_ent hs ?_
              refine vcN_sound 2 _ _ ?_
              simp only [go_sem, hG, hOw]
              (repeat' first | with_reducible refine And.intro ?_ ?_ | with_reducible intro _ | with_reducible refine exP ?_ ?_); all_goals try omega
              exact ⟨(n + 1, t + 1, k, false), ⟨hW2, noRep_false ..⟩, by simp only; omega, entA [(2, some 2)]⟩
            rintro ⟨t', far⟩ ⟨hW', hk, hfar⟩
            refine semL_code (l' := (flat (bkOf 1 Tryz.f6.body)).drop 8) (by kernel_rfl) ?_
            refine xp2 r A B fr L i n t' k far hO.la hO.lb ⟨by omega, by omega⟩ hLl hAl4 hBl4 hn hW' hk hfar hG hOw hNm ?_
            intro s t2 k2 hW2 hN2 hs
            show SemL _ _ _ _ _
            refine semL_ent hs ?_
            refine vcN_sound 2 _ _ ?_
            simp only [go_sem, hG, hOw]
            (repeat' first | with_reducible refine And.intro ?_ ?_ | with_reducible intro _ | with_reducible refine exP ?_ ?_); all_goals try omega
            exact ⟨(n + 1, t2, k2, true), ⟨hW2, hN2⟩, by simp only; omega, entA [(2, some 2)]⟩
          · obtain rfl : n = A.length := by omega
            obtain ⟨rfl, rfl⟩ := hW.done hN
            have hlt2 : ¬ (A.length : Int) < A.length := by omega
            refine SemL.semC ?_
            simp only [flat, List.cons_append, List.nil_append, List.append_assoc, List.take_succ_cons, List.take_zero, List.take_nil, List.drop_succ_cons, List.drop_zero]
            refine vcN_sound 2 _ _ ?_
            simp (config := { maxSteps := 2000000 }) only [go_sem, hG, hOw, hlt2]
            (repeat' first | with_reducible refine And.intro ?_ ?_ | with_reducible intro _ | with_reducible refine exP ?_ ?_); all_goals try omega
            exact ⟨(), entA [(2, some 2)]⟩
        rintro ⟨⟩ -
        simp only [go_sem, hG, hOw]
        try (repeat' first | with_reducible refine And.intro ?_ ?_ | with_reducible intro _ | with_reducible refine exP ?_ ?_); all_goals try omega
end Go.Proofs.YtfnohnjnncjidaaGreatDoor
