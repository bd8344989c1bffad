import Derived.Test.YtfnohnjnncjidaaGreatDoorQR22
import Derived.Test.YtfnohnjnncjidaaGreatDoorQR42
import Derived.Test.YtfnohnjnncjidaaGreatDoorQR43
import Derived.Test.YtfnohnjnncjidaaGreatDoorQR46
namespace Go.Proofs.YtfnohnjnncjidaaGreatDoor
open Go Pm
set_option linter.unusedSimpArgs false
set_option linter.unusedVariables false
set_option maxHeartbeats 4000000
set_option maxRecDepth 100000
theorem new_fts (L : List Ft) (e : Int) : NewR fun n => .tup [fts n L, i64 e] :=
  ⟨fun n => .tup _ (by
    intro u hu
    simp only [List.mem_cons, List.not_mem_nil, or_false] at hu
    rcases hu with rfl | rfl
    · refine .lst _ _ _ (.inr (Nat.le_refl _)) fun r hr u hu => ?_
      obtain ⟨f, _, rfl⟩ := List.mem_map.1 hr
      simp only [ftE, List.mem_cons, List.not_mem_nil, or_false] at hu
      rcases hu with rfl | rfl | rfl <;> exact .v _
    · exact .v _), fun n n' h => Subs.tup (.cons (.lo h) (.cons (.refl _) .nil))⟩
theorem sumL_le (L : List Ft) (k : Nat) : sumL (L.take k) ≤ sumL L := by
  have h1 := sumL_app (L.take k) (L.drop k)
  rw [List.take_append_drop] at h1
  have h2 := sumL_len (L.drop k)
  omega
theorem TwinLines_big (l : List (List ByteArray)) (hl1 : l.length ≤ 400) (hl2 : ∀ r ∈ l, r.length ≤ 100) : Gives Tryz.prog 31 [lns 0 l] (fun n => lns n l) := by
  refine pure_intro (ow := fun i => [17].contains i) Tryz.func31 Tryz.ntmps31 rfl (by kernel_rfl) (by simp) rfl (by decide) fun G hG hOw hNm hB => ?_; simp only [go_sem, hG, hOw]
  refine semC_loop (fun k : Nat => St.of [(0, lns 0 l), (3, .own 9 0 k 1), (4, i64 k)] [(9, .arr 78 1 ((l.take k).map (lnE G.lo)))]) (fun k => k ≤ l.length) (fun k => l.length - k) 0 (by simp) (entA [(9, none)]) ?_
  rintro k hk
  have hmin : min k l.length = k := Nat.min_eq_left hk
  refine vc_sound _ _ _ ?_; simp only [go_sem, hG, hOw]
  (repeat' first | with_reducible refine And.intro ?_ ?_ | with_reducible intro _ | with_reducible refine exP ?_ ?_); all_goals try omega
  · rename_i hlt
    have hkl : k < l.length := by omega
    have := hl2 _ (List.getElem_mem hkl)
    omega
  · rename_i hlt
    have hkl : k < l.length := by omega
    have := hl2 _ (List.getElem_mem hkl)
    omega
  · rename_i hlt
    have hkl : k < l.length := by omega
    have h1 := take_snoc_map (lnE G.lo) l k hkl
    exact ⟨k + 1, by omega, by omega, entA [(9, some 19)] (by (simp only [go_sem]) <;> simp [h1,hmin,lnE,strs]) (by (simp only [go_sem, entH, entH1, nilArr, obOK]) <;> simp [h1,hmin,lnE,strs])⟩
  · rename_i hge
    obtain rfl : k = l.length := by omega
    simp only [List.take_length]
    exact .refl _
theorem part_lines {r : Ro} (hg : Good r) (i : Nat) : (partA r i).length ≤ 400 ∧ ∀ l ∈ partA r i, lineB l = true := by
  obtain ⟨h1, _⟩ := good_lines hg
  have hll := hg.ll
  constructor
  · unfold partA
    split
    · rw [List.length_take, List.length_drop]; omega
    · simp
  · intro l hl
    refine h1 l ?_
    unfold partA at hl
    split at hl
    · exact List.mem_of_mem_drop (List.mem_of_mem_take hl)
    · cases hl
theorem lineB_one {l : Ln} (h : lineB l = true) : 1 ≤ l.length ∧ l.length ≤ 100 := by simp only [lineB, inB, Bool.and_eq_true, decide_eq_true_eq] at h; omega
abbrev hlsF (r : Ro) (bs : List Int) (i : Nat) : List (Nat × V) := [(2, u32s 0 bs), (3, .ptr 3 0), (7, bl true), (8, i64 i), (9, .ptr 9 0)]
abbrev hlsH (lo : Nat) (r x : Ro) : List (Nat × OB) := [(3, .box (roC 0 r)), (9, .box (twB lo 91 92 93 r)), (91, .arr 97 3 (r.helpers.map hpE)), (92, .arr 80 4 (r.shares.map srE)), (93, .arr 59 2 (x.sheets.map (seE lo)))]
theorem HandLeast_ok (r : Ro) (p : Nat) (hp : p < 256) (bs : List Int) (hbs : OKu bs) : Gives Tryz.prog 7 [roE 0 r, .v (.int .u8 p), u32s 0 bs] (fun _ => bl true) := by
  cases hrd : readyB r with
  | false =>
    refine pure_intro (ow := fun _ => false) Tryz.func7 Tryz.ntmps7 rfl (by kernel_rfl) (by simp) rfl (by decide) fun G hG hOw hNm hB => ?_; simp only [go_sem, hG, hOw]
    refine call_pure alive_ok (Subs.refl _) rfl (by simp [chk, hG]) ?_
    simp only [go_sem, hG, hOw]
    refine call_pureA (ready_ok r) ?_
    simp (config := { maxSteps := 2000000 }) only [go_sem, hG, hOw, hrd]
    try (repeat' first | with_reducible refine And.intro ?_ ?_ | with_reducible intro _ | with_reducible refine exP ?_ ?_); all_goals try omega
  | true =>
    obtain ⟨hr, hg⟩ := ready_good hrd
    have he := hg.e
    have hsn := hg.sn
    by_cases h0 : r.shares.length = 0
    · have h0' : (r.shares.length : Int) = 0 := by omega
      refine pure_intro (ow := fun _ => false) Tryz.func7 Tryz.ntmps7 rfl (by kernel_rfl) (by simp) rfl (by decide) fun G hG hOw hNm hB => ?_; simp only [go_sem, hG, hOw]
      refine call_pure alive_ok (Subs.refl _) rfl (by simp [chk, hG]) ?_
      simp only [go_sem, hG, hOw]
      refine call_pureA (ready_ok r) ?_
      simp (config := { maxSteps := 2000000 }) only [go_sem, hG, hOw, hrd, h0']
      try (repeat' first | with_reducible refine And.intro ?_ ?_ | with_reducible intro _ | with_reducible refine exP ?_ ?_); all_goals try omega
    · have h0' : ¬ (r.shares.length : Int) = 0 := by omega
      obtain ⟨i, hi⟩ : ∃ i, i = p % r.shares.length := ⟨_, rfl⟩
      have hil : i < r.shares.length := by rw [hi]; exact Nat.mod_lt _ (by omega)
      have hix : i < r.sheets.length := by rw [hg.xn]; exact hil
      have em1 : (p : Int) % (r.shares.length : Int) = (i : Int) := by rw [hi]; simp
      have hsi := hg.s i hil
      have hll := hg.ll
      obtain ⟨hp1, hp2⟩ := part_lines hg i
      obtain ⟨A, hA⟩ : ∃ A, A = partA r i := ⟨_, rfl⟩
      have hLi := lines_ok r hg i hil
      rw [← hA] at hLi hp1 hp2
      have hWr := write_ok A bs hbs 0 (by omega) hp1 fun a ha => lineB_one (hp2 a ha)
      have hWc := wr_cst bs 0 A.length A 0 0 none
      have hWb := wr_bd bs 0 A.length A 0 0
      obtain ⟨O, hO⟩ : ∃ O, O = wrOut bs 0 A := ⟨_, rfl⟩
      obtain ⟨c, hc⟩ : ∃ c, c = wrCost bs 0 A := ⟨_, rfl⟩
      rw [← hO, ← hc] at hWr
      rw [show (wr bs 0 A.length A 0 0).1 = O from hO.symm, show (wr bs 0 A.length A 0 0).2 = c from hc.symm] at hWc hWb
      obtain ⟨x, hx⟩ : ∃ x, x = putS r i ⟨true, O⟩ := ⟨_, rfl⟩
      have x1 : x.text = r.text ∧ x.helpers = r.helpers ∧ x.shares = r.shares := by rw [hx]; exact ⟨rfl, rfl, rfl⟩
      have xs : (r.sheets.map (seE 0)).length = r.sheets.length := by simp
      refine pure_intro (ow := fun _ => false) Tryz.func7 Tryz.ntmps7 rfl (by kernel_rfl) (by simp) rfl (by decide) fun G hG hOw hNm hB => ?_; simp only [go_sem, hG, hOw]
      refine call_pure alive_ok (Subs.refl _) rfl (by simp [chk, hG]) ?_
      simp only [go_sem, hG, hOw]
      refine call_pureA (ready_ok r) ?_
      simp (config := { maxSteps := 2000000 }) only [go_sem, hG, hOw, hrd, h0', em1]
      (repeat' first | with_reducible refine And.intro ?_ ?_ | with_reducible intro _ | with_reducible refine exP ?_ ?_); all_goals try omega
      refine call_tri [] [(0, 91), (1, 92), (2, 93)] (Twin_tri r hr) (by (simp only [go_sem]) <;> simp [twO,twH]) (by (simp only [go_sem, entH, entH1, nilArr, obOK]) <;> simp [twO,twH]) (by simp [injR, apart, toR]) (by simp [coverR, usH, toR, twO,twH]) (by simp [uniqP, lkR, toR]) (by simp [chk, hG]) ?_
      simp only [go_sem, hG, hOw]
      (repeat' first | with_reducible refine And.intro ?_ ?_ | with_reducible intro _ | with_reducible refine exP ?_ ?_); all_goals try omega
      refine call_pure hLi (by first | exact Subs.refl _ | (repeat' (first | exact Subs.nil | exact Sub.refl _ | exact Sub.lo (Nat.zero_le _) | refine Subs.cons ?_ ?_ | refine Subs.agg ?_ | refine Subs.fp ?_ | refine Subs.tup ?_ | refine Sub.map (Nat.zero_le _) (fun _ => ?_)))) (by first | rfl | simp [allP, all0, pureV, pure0, *]) (by simp [chk, hG]) ?_
      simp only [go_sem, hG, hOw]
      refine call_pure hWr (by first | exact Subs.refl _ | (repeat' (first | exact Subs.nil | exact Sub.refl _ | exact Sub.lo (Nat.zero_le _) | refine Subs.cons ?_ ?_ | refine Subs.agg ?_ | refine Subs.fp ?_ | refine Subs.tup ?_ | refine Sub.map (Nat.zero_le _) (fun _ => ?_)))) (by first | rfl | simp [allP, all0, pureV, pure0, *]) (by simp [chk, hG]) ?_
      simp only [go_sem, hG, hOw]
      (repeat' first | with_reducible refine And.intro ?_ ?_ | with_reducible intro _ | with_reducible refine exP ?_ ?_); all_goals try omega
      have eset : (List.map (seE G.lo) r.sheets).set i [.v (.bool true), .lst G.lo 1 (O.map (lnE G.lo))] = x.sheets.map (seE G.lo) := by rw [hx]; simp only [putS, List.map_set]; rfl
      have htk : List.take r.sheets.length (x.sheets.map (seE G.lo)) = x.sheets.map (seE G.lo) := List.take_of_length_le (by rw [hx]; simp [putS])
      have htk1 : List.take r.helpers.length (List.map hpE r.helpers) = List.map hpE r.helpers := List.take_of_length_le (by simp)
      have htk2 : List.take r.shares.length (List.map srE r.shares) = List.map srE r.shares := List.take_of_length_le (by simp)
      refine call_lend (fun i => [91, 92, 93].contains i) (ready_ok x) (newR_v (.bool _)) (by simp only [go_sem, eset, htk, htk1, htk2, x1.1, x1.2.1, x1.2.2]; first | exact Subs.refl _ | (repeat' (first | exact Subs.nil | exact Sub.refl _ | exact Sub.lo (Nat.zero_le _) | refine Subs.cons ?_ ?_ | refine Subs.agg ?_ | refine Subs.fp ?_ | refine Subs.tup ?_ | refine Sub.map (Nat.zero_le _) (fun _ => ?_)))) (by simp only [go_sem, eset, htk, htk1, htk2, x1.1, x1.2.1, x1.2.2] <;> first | rfl | simp [allP, all0, pureV, pure0, *]) (by simp [chk, hG]) ?_
      cases hrx : readyB x with
      | false =>
        simp (config := { maxSteps := 2000000 }) only [go_sem, hG, hOw, hrx]
        try (repeat' first | with_reducible refine And.intro ?_ ?_ | with_reducible intro _ | with_reducible refine exP ?_ ?_); all_goals try omega
      | true =>
        obtain ⟨hrx1, hgx⟩ := ready_good hrx
        have hlx : i < x.shares.length := by rw [x1.2.2]; exact hil
        have hsx : i < x.sheets.length := by rw [hgx.xn]; exact hlx
        have hxi : x.sheets[i] = ⟨true, O⟩ := by simp [hx, putS]
        have hpx : partA x i = A := by rw [hA, hx]; rfl
        obtain ⟨q1, q2⟩ := expl_le hgx i hlx hsx c (by rw [hxi]) (by rw [hpx, hxi]; exact hWc) (by omega)
        have hEx := Explain_ok x hrx1 i
        rw [q1] at hEx
        obtain ⟨L, hL⟩ : ∃ L, L = explL x i := ⟨_, rfl⟩
        rw [← hL] at hEx q2
        have hLl := sumL_len L
        simp (config := { maxSteps := 2000000 }) only [go_sem, hG, hOw, hrx]
        (repeat' first | with_reducible refine And.intro ?_ ?_ | with_reducible intro _ | with_reducible refine exP ?_ ?_); all_goals try omega
        refine call_lend (fun i => [91, 92, 93].contains i) (hEx) (new_fts _ _) (by simp only [go_sem, eset, htk, htk1, htk2, x1.1, x1.2.1, x1.2.2]; first | exact Subs.refl _ | (repeat' (first | exact Subs.nil | exact Sub.refl _ | exact Sub.lo (Nat.zero_le _) | refine Subs.cons ?_ ?_ | refine Subs.agg ?_ | refine Subs.fp ?_ | refine Subs.tup ?_ | refine Sub.map (Nat.zero_le _) (fun _ => ?_)))) (by simp only [go_sem, eset, htk, htk1, htk2, x1.1, x1.2.1, x1.2.2] <;> first | rfl | simp [allP, all0, pureV, pure0, *]) (by simp [chk, hG]) ?_
        simp only [go_sem, hG, hOw]
        (repeat' first | with_reducible refine And.intro ?_ ?_ | with_reducible intro _ | with_reducible refine exP ?_ ?_); all_goals try omega
        refine semC_cut (fun _ : Unit => St.of (hlsF r bs i ++ [(11, i64 c), (13, i64 0), (14, i64 (sumL L))]) (hlsH G.lo r x)) (fun _ => True) ?_ ?_
        · refine semC_loop (fun k : Nat => St.of (hlsF r bs i ++ [(11, i64 c), (13, i64 0), (14, i64 (sumL (L.take k))), (66, fts G.lo L), (67, i64 L.length), (68, i64 k)]) (hlsH G.lo r x)) (fun k => k ≤ L.length) (fun k => L.length - k) 0 (by simp) (entA [(3, some 3), (9, some 9), (91, some 91), (92, some 92), (93, some 93)] (by (simp only [go_sem]) <;> simp [eset,sumL]) (by (simp only [go_sem, entH, entH1, nilArr, obOK]) <;> simp [eset,sumL])) ?_
          rintro k hk
          have hst := fun (hkl : k < L.length) => sumL_step L k hkl
          refine vc_sound _ _ _ ?_
          simp only [go_sem, hG, hOw]
          (repeat' first | with_reducible refine And.intro ?_ ?_ | with_reducible intro _ | with_reducible refine exP ?_ ?_); all_goals try omega
          · have h1 := hst (by omega)
            unfold costF at h1
            have h2 := sumL_len (L.take k)
            rw [← h1]
            have h3 := sumL_le L (k + 1)
            have h4 := sumL_len (L.take (k + 1))
            omega
          · have h1 := hst (by omega)
            unfold costF at h1
            rw [← h1]
            have h3 := sumL_le L (k + 1)
            omega
          · have h1 := hst (by omega)
            unfold costF at h1
            refine ⟨k + 1, by omega, by omega, ?_⟩
            rw [h1]
            exact entA [(3, some 3), (9, some 9), (91, some 91), (92, some 92), (93, some 93)]
          · rw [List.take_of_length_le (by omega)]
            exact ⟨(), entA [(3, some 3), (9, some 9), (91, some 91), (92, some 92), (93, some 93)]⟩
        rintro ⟨⟩ -
        simp only [go_sem, hG, hOw]
        (repeat' first | with_reducible refine And.intro ?_ ?_ | with_reducible intro _ | with_reducible refine exP ?_ ?_); all_goals try omega
        obtain ⟨y, hy⟩ : ∃ y, y = putS r i ⟨true, A⟩ := ⟨_, rfl⟩
        have y1 : y.text = r.text ∧ y.helpers = r.helpers ∧ y.shares = r.shares := by rw [hy]; exact ⟨rfl, rfl, rfl⟩
        refine semC_draw0 mixed (by kernel_rfl) ?_
        simp only [go_sem, hG, hOw]
        (repeat' first | with_reducible refine And.intro ?_ ?_ | with_reducible intro _ | with_reducible refine exP ?_ ?_); all_goals try omega
        refine ⟨_, callGives hLi (by first | exact Subs.refl _ | (repeat' (first | exact Subs.nil | exact Sub.refl _ | exact Sub.lo (Nat.zero_le _) | refine Subs.cons ?_ ?_ | refine Subs.agg ?_ | refine Subs.fp ?_ | refine Subs.tup ?_ | refine Sub.map (Nat.zero_le _) (fun _ => ?_)))) (by first | rfl | simp [allP, all0, pureV, pure0, *]), ?_⟩
        simp only [go_sem, hG, hOw]
        (repeat' first | with_reducible refine And.intro ?_ ?_ | with_reducible intro _ | with_reducible refine exP ?_ ?_); all_goals try omega
        refine ⟨_, callGivesA (TwinLines_big A hp1 fun a ha => (lineB_one (hp2 a ha)).2), ?_⟩
        simp only [go_sem, hG, hOw]
        (repeat' first | with_reducible refine And.intro ?_ ?_ | with_reducible intro _ | with_reducible refine exP ?_ ?_); all_goals try omega
        have eset2 : (List.map (seE G.lo) x.sheets).set i [.v (.bool x.sheets[i].back), .lst G.lo 1 (A.map (lnE G.lo))] = y.sheets.map (seE G.lo) := by
          rw [hxi, hx, hy]
          simp only [putS, List.map_set, List.set_set]; rfl
        have htk4 : List.take r.sheets.length (y.sheets.map (seE G.lo)) = y.sheets.map (seE G.lo) := List.take_of_length_le (by rw [hy]; simp [putS])
        refine call_lend (fun i => [91, 92, 93].contains i) (ready_ok y) (newR_v (.bool _)) (by simp only [go_sem, eset2, htk4, htk1, htk2, y1.1, y1.2.1, y1.2.2]; first | exact Subs.refl _ | (repeat' (first | exact Subs.nil | exact Sub.refl _ | exact Sub.lo (Nat.zero_le _) | refine Subs.cons ?_ ?_ | refine Subs.agg ?_ | refine Subs.fp ?_ | refine Subs.tup ?_ | refine Sub.map (Nat.zero_le _) (fun _ => ?_)))) (by simp only [go_sem, eset2, htk4, htk1, htk2, y1.1, y1.2.1, y1.2.2] <;> first | rfl | simp [allP, all0, pureV, pure0, *]) (by simp [chk, hG]) ?_
        cases hry : readyB y with
        | false =>
          simp (config := { maxSteps := 2000000 }) only [go_sem, hG, hOw, hry]
          try (repeat' first | with_reducible refine And.intro ?_ ?_ | with_reducible intro _ | with_reducible refine exP ?_ ?_); all_goals try omega
        | true =>
          obtain ⟨hry1, hgy⟩ := ready_good hry
          have hly : i < y.shares.length := by rw [y1.2.2]; exact hil
          have hsy : i < y.sheets.length := by rw [hgy.xn]; exact hly
          have hyi : y.sheets[i] = ⟨true, A⟩ := by simp [hy, putS]
          have hpy : partA y i = A := by rw [hA, hy]; rfl
          obtain ⟨p1, p2⟩ := expl_none hgy i hly hsy (by rw [hyi]) (by rw [hpy, hyi])
          have hEy := Explain_ok y hry1 i
          rw [p1, p2] at hEy
          simp (config := { maxSteps := 2000000 }) only [go_sem, hG, hOw, hry]
          (repeat' first | with_reducible refine And.intro ?_ ?_ | with_reducible intro _ | with_reducible refine exP ?_ ?_); all_goals try omega
          refine call_lend (fun i => [91, 92, 93].contains i) (hEy) (new_fts _ _) (by simp only [go_sem, eset2, htk4, htk1, htk2, y1.1, y1.2.1, y1.2.2]; first | exact Subs.refl _ | (repeat' (first | exact Subs.nil | exact Sub.refl _ | exact Sub.lo (Nat.zero_le _) | refine Subs.cons ?_ ?_ | refine Subs.agg ?_ | refine Subs.fp ?_ | refine Subs.tup ?_ | refine Sub.map (Nat.zero_le _) (fun _ => ?_)))) (by simp only [go_sem, eset2, htk4, htk1, htk2, y1.1, y1.2.1, y1.2.2] <;> first | rfl | simp [allP, all0, pureV, pure0, *]) (by simp [chk, hG]) ?_
          simp only [go_sem, hG, hOw]
          try (repeat' first | with_reducible refine And.intro ?_ ?_ | with_reducible intro _ | with_reducible refine exP ?_ ?_); all_goals try omega
end Go.Proofs.YtfnohnjnncjidaaGreatDoor
