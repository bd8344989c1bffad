import Derived.Test.YtagfopbijboajaaGreatDoorQY16
namespace Go.Proofs.YtagfopbijboajaaGreatDoor
open Go Pm
set_option linter.unusedSimpArgs false
set_option linter.unusedVariables false
set_option maxHeartbeats 4000000
set_option maxRecDepth 100000
theorem last_take {α : Type} (l : List α) (k : Nat) (hk : k ≤ l.length) (h : 0 < k) : (l.take k).getLast? = some (l[k - 1]'(by omega)) := by
  rw [List.getLast?_eq_getElem?, List.length_take, Nat.min_eq_left hk, List.getElem?_take, if_pos (by omega), List.getElem?_eq_getElem]
theorem last2_take {α : Type} (l : List α) (k : Nat) (hk : k ≤ l.length) (h : 1 < k) : (l.take k).dropLast.getLast? = some (l[k - 2]'(by omega)) := by
  have : (l.take k).dropLast = l.take (k - 1) := by rw [List.dropLast_eq_take, List.length_take, Nat.min_eq_left hk, List.take_take, Nat.min_eq_left (by omega)]
  rw [this, last_take l (k - 1) (by omega) (by omega)]
  congr 1
theorem last2_take01 {α : Type} (l : List α) (k : Nat) (h : k ≤ 1) : (l.take k).dropLast.getLast? = none := by
  have : (l.take k).length ≤ 1 := by rw [List.length_take]; omega
  match hm : l.take k, this with
  | [], _ => rfl
  | [x], _ => rfl
theorem Round_share (r : Ro) {G : Gh} {Q : Exit → St → Prop} (hG : G.n = 215) (hOw : G.ow = fun _ => false) (hNm : G.nm = []) (m : Nat) (hml : m < r.shares.length) (e1 : inB r.shares[m].fr 0 r.shares[m].to = true) (e2 : ¬ ((linesL r.text).length : Int) ≤ r.shares[m].to)
    (e3 : inB r.shares[m].helper 0 (r.helpers.length - 1) = true) (e4 : inB r.shares[m].sent 0 400 = true) (hs : r.shares.length ≤ 12) :
    SemC Tryz.prog G (rgOf 21 Tryz.f60.body) (St.of [(1, .ptr 1 0), (6, i64 (linesL r.text).length), (7, i64 m), (8, .ptr 8 0)] [(1, .box (roC 0 r)), (8, .box (srE r.shares[m]))])
      (midQ G (fun b : Bool => St.of [(1, .ptr 1 0), (6, i64 (linesL r.text).length), (7, i64 m), (8, .ptr 8 0), (159, bl b)] [(1, .box (roC 0 r)), (8, .box (srE r.shares[m]))])
        (fun b => shareB (linesL r.text).length r.helpers.length (r.shares.take m) r.shares[m] = !b) Q) := by
  have hm : m ≤ r.shares.length := by omega
  unfold Tryz.f60
  simp only [rgOf, bkOf, rgO, bkO, orElse, Option.bind_some, Option.getD_some, reduceIte, Nat.reduceEqDiff, reduceCtorEq]
  have hsh : shareB (linesL r.text).length r.helpers.length (r.shares.take m) r.shares[m] = ((match (r.shares.take m).getLast? with
      | some q => decide (q.fr < r.shares[m].fr) && decide (q.to < r.shares[m].to)
      | none => true) && (match (r.shares.take m).dropLast.getLast? with
      | some q => decide (q.to < r.shares[m].fr)
      | none => true)) := by
    have q : decide (r.shares[m].to < ((linesL r.text).length : Int)) = true := by simp; omega
    unfold shareB
    rw [e1, e3, e4, q]
    rfl
  rcases (by omega : m = 0 ∨ m = 1 ∨ 2 ≤ m) with hm0 | hm1 | hm2
  · have p0 : decide (0 < (m : Int)) = false := by simp; omega
    have p1 : decide (1 < (m : Int)) = false := by simp; omega
    rw [last2_take01 _ _ (by omega : m ≤ 1)] at hsh
    have q1 : (r.shares.take m).getLast? = none := by rw [hm0]; rfl
    rw [q1] at hsh
    refine semC_draw0 mixed (by kernel_rfl) ?_
    simp (maxSteps := 2000000) only [go_sem, hG, hOw, p0, p1]
    (repeat' with_reducible first | refine And.intro ?_ ?_ | intro _ | refine exP ?_ ?_); all_goals try omega
    exact ⟨false, hsh, entA [(1, some 1), (8, some 8)]⟩
  · have p0 : decide (0 < (m : Int)) = true := by simp; omega
    have p1 : decide (1 < (m : Int)) = false := by simp; omega
    have x1 : ((m : Int) - 1).toNat = m - 1 := by omega
    rw [last2_take01 _ _ (by omega : m ≤ 1), last_take _ m hm (by omega)] at hsh
    refine semC_draw0 mixed (by kernel_rfl) ?_
    simp (maxSteps := 2000000) only [go_sem, hG, hOw, p0, p1, x1]
    (repeat' with_reducible first | refine And.intro ?_ ?_ | intro _ | refine exP ?_ ?_); all_goals try omega
    · exact ⟨false, by rw [hsh]; simp; omega, entA [(1, some 1), (8, some 8)]⟩
    · exact ⟨true, by rw [hsh]; simp; omega, entA [(1, some 1), (8, some 8)]⟩
    · exact ⟨true, by rw [hsh]; simp; omega, entA [(1, some 1), (8, some 8)]⟩
  · have p0 : decide (0 < (m : Int)) = true := by simp; omega
    have p1 : decide (1 < (m : Int)) = true := by simp; omega
    have x1 : ((m : Int) - 1).toNat = m - 1 := by omega
    have x2 : ((m : Int) - 2).toNat = m - 2 := by omega
    rw [last2_take _ m hm (by omega), last_take _ m hm (by omega)] at hsh
    refine semC_draw0 mixed (by kernel_rfl) ?_
    simp (maxSteps := 2000000) only [go_sem, hG, hOw, p0, p1, x1, x2]
    (repeat' with_reducible first | refine And.intro ?_ ?_ | intro _ | refine exP ?_ ?_); all_goals try omega
    · exact ⟨decide (r.shares[m].fr ≤ r.shares[m - 2].to), by
        rw [hsh]
        by_cases h : r.shares[m].fr ≤ r.shares[m - 2].to
        · simp [h]
        · simp [h]; omega, entA [(1, some 1), (8, some 8)]⟩
    · exact ⟨true, by rw [hsh]; simp; omega, entA [(1, some 1), (8, some 8)]⟩
    · exact ⟨true, by rw [hsh]; simp; omega, entA [(1, some 1), (8, some 8)]⟩
open Go Pm
set_option maxHeartbeats 4000000
set_option maxRecDepth 100000
theorem Round_lines (r : Ro) {G : Gh} {Q : Exit → St → Prop} (hG : G.n = 215) (hOw : G.ow = fun _ => false) (hNm : G.nm = []) (m : Nat) (x : Se) (hx : OKl x.lines) (hbad : x.lines.all lineB = false → ∀ s', s'.get 2 = bl false → Q .ret s') :
    SemC Tryz.prog G (bkOf 6 Tryz.f60.body) (St.of [(1, .ptr 1 0), (6, i64 (linesL r.text).length), (7, i64 m), (9, .ptr 9 0), (10, i64 0)] [(1, .box (roC 0 r)), (9, .box (seE 0 x))])
      (cutQ G 6 (fun _ : Unit => St.of [(1, .ptr 1 0), (6, i64 (linesL r.text).length), (7, i64 m)] [(1, .box (roC 0 r))]) (fun _ => x.lines.all lineB = true) Q) := by
  obtain ⟨hx1, hx2⟩ := hx
  unfold Tryz.f60
  simp only [rgOf, bkOf, rgO, bkO, orElse, Option.bind_some, Option.getD_some, reduceIte, Nat.reduceEqDiff, reduceCtorEq]
  have badi : ∀ i (h : i < x.lines.length), lineB x.lines[i] = false → ∀ s', s'.get 2 = bl false → Q .ret s' := fun i h h' => hbad (all_false h h')
  refine semC_loop (fun i : Nat => St.of [(1, .ptr 1 0), (6, i64 (linesL r.text).length), (7, i64 m), (9, .ptr 9 0), (10, i64 i)] [(1, .box (roC 0 r)), (9, .box (seE 0 x))]) (fun i => i ≤ x.lines.length ∧ (x.lines.take i).all lineB = true) (fun i => x.lines.length - i) 0 (by simp) (entA [(1, some 1), (9, some 9)]) ?_
  rintro i ⟨hi, halli⟩
  refine vc_sound _ _ _ ?_; simp only [go_sem, hG, hOw]
  (repeat' with_reducible first | refine And.intro ?_ ?_ | intro _ | refine exP ?_ ?_); all_goals try omega
  · rename_i hlt2
    have hil : i < x.lines.length := by omega
    obtain ⟨hr1, hr2⟩ := hx2 _ (List.getElem_mem hil)
    refine call_pureA (within05_ok x.lines[i].length 1 10) ?_
    simp only [go_sem, hG, hOw]
    (repeat' with_reducible first | refine And.intro ?_ ?_ | intro _ | refine exP ?_ ?_); all_goals try omega
    · rename_i h5
      exact badi i hil (by unfold lineB; rw [h5]; rfl) _ (by simp [go_sem])
    · rename_i h5
      refine semC_loop (fun w : Nat => St.of [(1, .ptr 1 0), (6, i64 (linesL r.text).length), (7, i64 m), (9, .ptr 9 0), (10, i64 i), (11, i64 w)] [(1, .box (roC 0 r)), (9, .box (seE 0 x))]) (fun w => w ≤ x.lines[i].length ∧ (x.lines[i].take w).all wordB = true) (fun w => x.lines[i].length - w) 0 (by simp) (entA [(1, some 1), (9, some 9)]) ?_
      rintro w ⟨hw, hallw⟩
      refine vc_sound _ _ _ ?_; simp only [go_sem, hG, hOw]
      (repeat' with_reducible first | refine And.intro ?_ ?_ | intro _ | refine exP ?_ ?_); all_goals try omega
      · rename_i hlt3
        have hwl : w < x.lines[i].length := by omega
        refine call_pureA (Word_ok x.lines[i][w] (by have := hr2 _ (List.getElem_mem hwl); omega)) ?_
        simp only [go_sem, hG, hOw]
        (repeat' with_reducible first | refine And.intro ?_ ?_ | intro _ | refine exP ?_ ?_); all_goals try omega
        · rename_i h6
          exact badi i hil (by unfold lineB; rw [all_false hwl h6, Bool.and_false]) _ (by simp [go_sem])
        · rename_i h6
          exact ⟨w + 1, ⟨by omega, all_take_succ hwl hallw h6⟩, by omega, entA [(1, some 1), (9, some 9)]⟩
      · rename_i hge3
        rw [take_full hw hge3] at hallw
        exact ⟨i + 1, ⟨by omega, all_take_succ hil halli (by unfold lineB; rw [h5, hallw]; rfl)⟩, by omega, entA [(1, some 1), (9, some 9)]⟩
  · rename_i hge2
    rw [take_full hi hge2] at halli
    exact ⟨(), halli, entA [(1, some 1)]⟩
open Go Pm
set_option maxHeartbeats 4000000
set_option maxRecDepth 100000
theorem Round_ok (r : Ro) (hr : OKr r) : Gives Tryz.prog 60 [roE 0 r] (fun _ => bl (roundB r)) := by
  obtain ⟨⟨ht1, ht2⟩, hh, hs, hx1, hx2⟩ := hr
  refine pure_intro (ow := fun _ => false) Tryz.func60 Tryz.ntmps60 rfl (by kernel_rfl) (by simp) rfl (by decide) fun G hG hOw hNm hB => ?_; simp only [go_sem, hG, hOw]
  have badh : ∀ k (h : k < r.helpers.length), helpB (r.helpers.take k) r.helpers[k] = false → false = roundB r := fun k h h' => by
    simp [roundB, allPre_bad h h']
  have bads : ∀ k (h : k < r.shares.length), shareB (linesL r.text).length r.helpers.length (r.shares.take k) r.shares[k] = false → false = roundB r := fun k h h' => by
    simp [roundB, allPre_bad h h']
  have badx : ∀ k (h : k < r.sheets.length), sheetB r.sheets[k] = false → false = roundB r := fun k h h' => by
    simp [roundB, all_false h h']
  refine call_pureA (within05_ok r.helpers.length 1 4) ?_
  simp only [go_sem, hG, hOw]
  (repeat' with_reducible first | refine And.intro ?_ ?_ | intro _ | refine exP ?_ ?_); all_goals try omega
  · rename_i g1 g2 g3
    have : ¬ ((r.sheets.length : Int) = r.shares.length) := g3
    simp [roundB, this]
  · rename_i g1 g2 g3
    refine semC_loop (fun k : Nat => St.of [(1, .ptr 1 0), (3, i64 k)] [(1, .box (roC 0 r))]) (fun k => k ≤ r.helpers.length ∧ allPre helpB [] (r.helpers.take k) = true) (fun k => r.helpers.length - k) 0 (by simp [allPre]) (entA [(1, some 1)]) ?_
    rintro k ⟨hk, hall⟩
    refine vc_sound _ _ _ ?_; simp only [go_sem, hG, hOw]
    (repeat' with_reducible first | refine And.intro ?_ ?_ | intro _ | refine exP ?_ ?_); all_goals try omega
    · rename_i hlt
      have hkl : k < r.helpers.length := by omega
      refine call_pureA (within05_ok r.helpers[k].id 0 9999) ?_
      simp only [go_sem, hG, hOw]
      (repeat' with_reducible first | refine And.intro ?_ ?_ | intro _ | refine exP ?_ ?_); all_goals try omega
      · rename_i e1
        refine call_pureA (within05_ok r.helpers[k].post 0 30) ?_
        simp only [go_sem, hG, hOw]
        (repeat' with_reducible first | refine And.intro ?_ ?_ | intro _ | refine exP ?_ ?_); all_goals try omega
        · rename_i e2
          refine call_pureA (within05_ok r.helpers[k].rate 1 20) ?_
          simp only [go_sem, hG, hOw]
          (repeat' with_reducible first | refine And.intro ?_ ?_ | intro _ | refine exP ?_ ?_); all_goals try omega
          · rename_i e3
            exact badh k hkl (by simp [helpB, e3])
          · rename_i e3
            refine semC_loop (fun j : Nat => St.of [(1, .ptr 1 0), (3, i64 k), (4, .ptr 4 0), (5, i64 j)] [(1, .box (roC 0 r)), (4, .box (hpE r.helpers[k]))]) (fun j => j ≤ k ∧ (r.helpers.take j).all (fun d => !decide (d.id = r.helpers[k].id)) = true) (fun j => k - j) 0 (by simp) (entA [(1, some 1), (4, some 4)]) ?_
            rintro j ⟨hj, hallj⟩
            refine vc_sound _ _ _ ?_; simp only [go_sem, hG, hOw]
            (repeat' with_reducible first | refine And.intro ?_ ?_ | intro _ | refine exP ?_ ?_); all_goals try omega
            · refine semC_draw0 mixed (by kernel_rfl) ?_
              simp only [go_sem, hG, hOw]
              (repeat' with_reducible first | refine And.intro ?_ ?_ | intro _ | refine exP ?_ ?_); all_goals try omega
              · rename_i hjk he
                refine badh k hkl ?_
                have : ((r.helpers.take k).any fun d => decide (d.id = r.helpers[k].id)) = true := List.any_eq_true.2 ⟨r.helpers[j], List.mem_take_iff_getElem.2 ⟨j, by omega, rfl⟩, by simp [he]⟩
                simp only [helpB, this]; simp
              · rename_i hjk he
                exact ⟨j + 1, ⟨by omega, all_take_succ (by omega) hallj (by simp [he])⟩, by omega, entA [(1, some 1), (4, some 4)]⟩
            · rename_i hjk
              have hjk : j = k := by omega
              subst hjk
              have hany : ((r.helpers.take j).any fun d => decide (d.id = r.helpers[j].id)) = false := by
                rw [List.any_eq_false]
                intro x hx
                simpa using List.all_eq_true.1 hallj x hx
              refine ⟨j + 1, ⟨by omega, ?_⟩, by omega, entA [(1, some 1)]⟩
              rw [allPre_step _ _ _ hkl, hall]
              simp [helpB, e1, e2, e3, hany]
        · rename_i e2
          exact badh k hkl (by simp [helpB, e2])
      · rename_i e1
        exact badh k hkl (by simp [helpB, e1])
    · rename_i hge
      rw [take_full hk hge] at hall
      refine call_pureA (Lines_ok r.text ⟨ht1, ht2⟩) ?_
      simp only [go_sem, hG, hOw]
      (repeat' with_reducible first | refine And.intro ?_ ?_ | intro _ | refine exP ?_ ?_); all_goals try omega
      refine semC_loop (fun k : Nat => St.of [(1, .ptr 1 0), (6, i64 (linesL r.text).length), (7, i64 k)] [(1, .box (roC 0 r))])
        (fun k => k ≤ r.shares.length ∧ allPre (shareB (linesL r.text).length r.helpers.length) [] (r.shares.take k) = true ∧ (r.sheets.take k).all sheetB = true) (fun k => r.shares.length - k) 0 (by simp [allPre]) (entA [(1, some 1)]) ?_
      rintro m ⟨hm, halls, hallx⟩
      refine vc_sound _ _ _ ?_; simp only [go_sem, hG, hOw]
      (repeat' with_reducible first | refine And.intro ?_ ?_ | intro _ | refine exP ?_ ?_); all_goals try omega
      · rename_i hlt
        have hml : m < r.shares.length := by omega
        have hmx : m < r.sheets.length := by omega
        obtain ⟨hq1, hq2⟩ := hx2 _ (List.getElem_mem hmx)
        refine call_pureA (within05_ok r.shares[m].fr 0 r.shares[m].to) ?_
        simp only [go_sem, hG, hOw]
        (repeat' with_reducible first | refine And.intro ?_ ?_ | intro _ | refine exP ?_ ?_); all_goals try omega
        · rename_i e1 e2
          refine call_pureA (within05_ok r.shares[m].helper 0 (r.helpers.length - 1)) ?_
          simp only [go_sem, hG, hOw]
          (repeat' with_reducible first | refine And.intro ?_ ?_ | intro _ | refine exP ?_ ?_); all_goals try omega
          · rename_i e3
            refine call_pureA (within05_ok r.shares[m].sent 0 400) ?_
            simp only [go_sem, hG, hOw]
            (repeat' with_reducible first | refine And.intro ?_ ?_ | intro _ | refine exP ?_ ?_); all_goals try omega
            · rename_i e4
              exact bads m hml (by simp [shareB, e4])
            · rename_i e4
              refine semC_mid (fun b : Bool => St.of [(1, .ptr 1 0), (6, i64 (linesL r.text).length), (7, i64 m), (8, .ptr 8 0), (159, bl b)] [(1, .box (roC 0 r)), (8, .box (srE r.shares[m]))])
                (fun b => shareB (linesL r.text).length r.helpers.length (r.shares.take m) r.shares[m] = !b) ?_ ?_
              · refine semC_code (c' := rgOf 21 Tryz.f60.body) (by kernel_rfl) (semC_ent (s' := St.of [(1, .ptr 1 0), (6, i64 (linesL r.text).length), (7, i64 m), (8, .ptr 8 0)] [(1, .box (roC 0 r)), (8, .box (srE r.shares[m]))]) (entA [(1, some 1), (8, some 8)]) ?_)
                exact Round_share r hG hOw hNm m hml e1 e2 e3 e4 hs
              · rintro b hb
                simp only [go_sem, hG, hOw]
                (repeat' with_reducible first | refine And.intro ?_ ?_ | intro _ | refine exP ?_ ?_); all_goals try omega
                · rename_i hb1
                  rw [hb1] at hb
                  exact bads m hml hb
                · rename_i hb1 g4 g5 g6
                  exact badx m hmx (by unfold sheetB; rw [g5, decide_eq_false (by omega : ¬ ((r.sheets[m].lines.length : Int) = 0))]; simp)
                · rename_i hb1 g3 g4 g5
                  refine semC_cutN (fun _ : Unit => St.of [(1, .ptr 1 0), (6, i64 (linesL r.text).length), (7, i64 m)] [(1, .box (roC 0 r))]) (fun _ => r.sheets[m].lines.all lineB = true) ?_ ?_
                  · refine semC_code (c' := bkOf 6 Tryz.f60.body) (by kernel_rfl) (semC_ent (s' := St.of [(1, .ptr 1 0), (6, i64 (linesL r.text).length), (7, i64 m), (9, .ptr 9 0), (10, i64 0)] [(1, .box (roC 0 r)), (9, .box (seE 0 r.sheets[m]))]) (entA [(1, some 1), (9, some 9)]) ?_)
                    exact Round_lines r hG hOw hNm m r.sheets[m] (hx2 _ (List.getElem_mem hmx)) (fun hf s' hs' => by have hF := badx m hmx (by simp [sheetB, hf]); refine ⟨trivial, ?_⟩; simp only [resV, hs', vw, ← hF]; exact Sub.refl _)
                  · rintro _ hfull
                    simp only [go_sem, hG, hOw]
                    (repeat' with_reducible first | refine And.intro ?_ ?_ | intro _ | refine exP ?_ ?_); all_goals try omega
                    exact ⟨m + 1, ⟨by omega, by rw [allPre_step _ _ _ hml, halls, hb, hb1] ; rfl, all_take_succ hmx hallx (by unfold sheetB; rw [hfull, decide_eq_true (by omega : (r.sheets[m].lines.length : Int) ≤ 30), decide_eq_true (by omega : (r.sheets[m].lines.length : Int) = 0)]; simp)⟩, by omega, entA [(1, some 1)]⟩
                · rename_i hb1 g3 g4
                  refine semC_cutN (fun _ : Unit => St.of [(1, .ptr 1 0), (6, i64 (linesL r.text).length), (7, i64 m)] [(1, .box (roC 0 r))]) (fun _ => r.sheets[m].lines.all lineB = true) ?_ ?_
                  · refine semC_code (c' := bkOf 6 Tryz.f60.body) (by kernel_rfl) (semC_ent (s' := St.of [(1, .ptr 1 0), (6, i64 (linesL r.text).length), (7, i64 m), (9, .ptr 9 0), (10, i64 0)] [(1, .box (roC 0 r)), (9, .box (seE 0 r.sheets[m]))]) (entA [(1, some 1), (9, some 9)]) ?_)
                    exact Round_lines r hG hOw hNm m r.sheets[m] (hx2 _ (List.getElem_mem hmx)) (fun hf s' hs' => by have hF := badx m hmx (by simp [sheetB, hf]); refine ⟨trivial, ?_⟩; simp only [resV, hs', vw, ← hF]; exact Sub.refl _)
                  · rintro _ hfull
                    simp only [go_sem, hG, hOw]
                    (repeat' with_reducible first | refine And.intro ?_ ?_ | intro _ | refine exP ?_ ?_); all_goals try omega
                    exact ⟨m + 1, ⟨by omega, by rw [allPre_step _ _ _ hml, halls, hb, hb1] ; rfl, all_take_succ hmx hallx (by unfold sheetB; rw [hfull, decide_eq_true (by omega : (r.sheets[m].lines.length : Int) ≤ 30), g4]; simp)⟩, by omega, entA [(1, some 1)]⟩
                · rename_i hb1 g4
                  exact badx m hmx (by simp [sheetB]; omega)
          · rename_i e3
            exact bads m hml (by simp [shareB, e3])
        · rename_i e1 e2
          exact bads m hml (by simp [shareB]; omega)
        · rename_i e1
          exact bads m hml (by simp [shareB, e1])
      · rename_i hge
        have hml : m = r.shares.length := by omega
        have hmx : m = r.sheets.length := by omega
        have s1 : r.shares.take m = r.shares := by rw [hml, List.take_length]
        have s2 : r.sheets.take m = r.sheets := by rw [hmx, List.take_length]
        rw [s1] at halls
        rw [s2] at hallx
        simp [roundB, g1, hall, halls, hallx]; omega
  · rename_i g1 g2
    simp [roundB, g1]; omega
  · rename_i g1
    simp [roundB, g1]
end Go.Proofs.YtagfopbijboajaaGreatDoor
