import Derived.Test.YtagfopbijboajaaGreatDoorQY17
import Derived.Test.YtagfopbijboajaaGreatDoorQY20
import Derived.Test.YtagfopbijboajaaGreatDoorQY28
import Derived.Test.YtagfopbijboajaaGreatDoorQY29
namespace Go.Proofs.YtagfopbijboajaaGreatDoor
open Go Pm
set_option linter.unusedSimpArgs false
set_option linter.unusedVariables false
set_option maxHeartbeats 4000000
set_option maxRecDepth 100000
def noSr : Sr := ⟨-1, -1, 0, 0⟩
def bfr (l : List Sr) (k d : Nat) : Sr := if d ≤ k then (l[k - d]?).getD noSr else noSr
theorem bfr_1 (l : List Sr) (k : Nat) (hk : k < l.length) : bfr l (k + 1) 1 = l[k] := by simp [bfr, hk]
theorem bfr_2 (l : List Sr) (k : Nat) : bfr l (k + 1) 2 = bfr l k 1 := by
  unfold bfr
  by_cases h : 1 ≤ k
  · rw [if_pos (by omega), if_pos h, show k + 1 - 2 = k - 1 by omega]
  · rw [if_neg (by omega), if_neg h]
theorem part_eq (all nh : Int) (l : List Sr) (k : Nat) (hk : k < l.length) (x : Se) :
    (shareB all nh (l.take k) l[k] && sheetB x) = (partB all nh (bfr l k 1).fr (bfr l k 1).to (bfr l k 2).to l[k] x && x.lines.all lineB) := by
  rcases (by omega : k = 0 ∨ k = 1 ∨ 2 ≤ k) with h0 | h1 | h2
  · subst h0
    rw [Bool.eq_iff_iff]
    simp [shareB, partB, sheetB, bfr, noSr, inB]
    constructor <;> intro h <;> simp only [and_assoc] at h ⊢ <;> (repeat' apply And.intro) <;> first | omega | simp_all
  · subst h1
    rw [Bool.eq_iff_iff]
    simp only [shareB, last2_take01 _ _ (by omega : 1 ≤ 1), last_take l 1 (by omega) (by omega)]
    simp [partB, sheetB, bfr, noSr, inB, show 0 < l.length by omega]
    constructor <;> intro h <;> simp only [and_assoc] at h ⊢ <;> (repeat' apply And.intro) <;> first | omega | simp_all
  · rw [Bool.eq_iff_iff]
    simp only [shareB, last2_take l k (by omega) (by omega), last_take l k (by omega) (by omega)]
    simp [partB, sheetB, bfr, noSr, inB, show k - 1 < l.length by omega, show k - 2 < l.length by omega, h2, show 1 ≤ k by omega]
    constructor <;> intro h <;> simp only [and_assoc] at h ⊢ <;> (repeat' apply And.intro) <;> first | omega | simp_all
theorem right_ok (r : Ro) (hr : OKr r) : Gives Tryz.prog 62 [.fp (dkC 0 r)] (fun _ => bl (roundB r)) := by
  have hll := linesL_all r.text hr.t
  have hh8 := hr.h
  have hs12 := hr.s
  obtain ⟨hx12, hx2⟩ := hr.x
  refine pure_intro (ow := fun _ => false) Tryz.func62 Tryz.ntmps62 rfl (by kernel_rfl) (by simp) rfl (by decide) fun G hG hOw hNm hB => ?_; simp only [go_sem, hG, hOw]
  refine semC_draw0 mixed (by kernel_rfl) ?_
  simp only [go_sem, hG, hOw]
  refine ⟨_, callGivesA (inH_one 1 4 r.helpers.length), ?_⟩
  simp only [go_sem, hG, hOw]
  (repeat' with_reducible first | refine And.intro ?_ ?_ | intro _ | refine exP ?_ ?_); all_goals try omega
  · rename_i c1 c2 c3
    simp only [roundB]
    rw [show decide ((r.sheets.length : Int) = r.shares.length) = false from decide_eq_false c3]; simp
  · rename_i c1 c2 c3
    have badh : ∀ k (h : k < r.helpers.length), helpB (r.helpers.take k) r.helpers[k] = false → roundB r = false := fun k h h' => by
      simp only [roundB]; rw [allPre_bad h h']; simp
    refine semC_cut (fun _ : Unit => St.of [(0, .fp (dkC 0 r))] []) (fun _ => allPre helpB [] r.helpers = true) ?_ ?_
    · refine semC_loop (fun k : Nat => St.of [(0, .fp (dkC 0 r)), (3, .mp 44), (49, hps 0 r.helpers), (50, i64 r.helpers.length), (51, i64 k)] [(44, .map (.int .i64) (idsM (idsOf Hp.id r.helpers k)))]) (fun k => k ≤ r.helpers.length ∧ allPre helpB [] (r.helpers.take k) = true) (fun k => r.helpers.length - k) 0 (by simp [allPre]) (entA [(44, some 44)]) ?_
      rintro k ⟨hk, hall⟩
      refine vc_sound _ _ _ ?_; simp only [go_sem, hG, hOw]
      (repeat' with_reducible first | refine And.intro ?_ ?_ | intro _ | refine exP ?_ ?_); all_goals try omega
      · rename_i hlt
        have hkl : k < r.helpers.length := by omega
        refine call_pureA (inH_one 0 9999 r.helpers[k].id) ?_
        simp (maxSteps := 2000000) only [go_sem, hG, hOw, lkM_ids, idsOf_any]
        (repeat' with_reducible first | refine And.intro ?_ ?_ | intro _ | refine exP ?_ ?_); all_goals try omega
        · rename_i h2 h3
          refine call_pureA (inH_one 0 30 r.helpers[k].post) ?_
          simp only [go_sem, hG, hOw]
          (repeat' with_reducible first | refine And.intro ?_ ?_ | intro _ | refine exP ?_ ?_); all_goals try omega
          · rename_i h4
            refine call_pureA (inH_one 1 20 r.helpers[k].rate) ?_
            have hup := idsOf_up Hp.id r.helpers k hkl h3
            simp (maxSteps := 2000000) only [go_sem, hG, hOw, hup]
            (repeat' with_reducible first | refine And.intro ?_ ?_ | intro _ | refine exP ?_ ?_); all_goals try omega
            · rename_i h5
              rw [badh k hkl (by unfold helpB; rw [h5]; simp)]
            · rename_i h5
              refine ⟨k + 1, ⟨by omega, ?_⟩, by omega, entA [(44, some 44)]⟩
              rw [allPre_step _ _ _ hkl, hall]
              unfold helpB
              rw [h2, h3, h4, h5]; rfl
          · rename_i h4
            rw [badh k hkl (by unfold helpB; rw [h4]; simp)]
        · rename_i h2 h3
          rw [badh k hkl (by unfold helpB; rw [h3]; simp)]
        · rename_i h2
          rw [badh k hkl (by unfold helpB; rw [h2]; simp)]
      · rename_i hge
        rw [take_full hk hge] at hall
        exact ⟨(), hall, ent_of0 (by (simp only [go_sem]) <;> simp) hNm⟩
    · rintro ⟨⟩ hhall
      simp only [go_sem, hG, hOw]
      (repeat' with_reducible first | refine And.intro ?_ ?_ | intro _ | refine exP ?_ ?_); all_goals try omega
      refine semC_cut (fun b : Bool => St.of [(7, bl b)] []) (fun b => b = roundB r) ?_ ?_
      · refine semC_loop (fun k : Nat => St.of [(0, .fp (dkC 0 r)), (6, .ptr 6 0), (7, bl true), (91, srs 0 r.shares), (92, i64 r.shares.length), (93, i64 k)] [(6, .box (srE (bfr r.shares k 2) ++ srE (bfr r.shares k 1)))])
          (fun k => k ≤ r.shares.length ∧ allPre (shareB (linesL r.text).length r.helpers.length) [] (r.shares.take k) = true ∧ (r.sheets.take k).all sheetB = true) (fun k => r.shares.length - k) 0 (by simp [allPre]) (entA [(6, some 6)] (by (simp only [go_sem]) <;> simp [bfr,noSr,srE,i64]) (by (simp only [go_sem, entH, entH1, nilArr, obOK]) <;> simp [bfr,noSr,srE,i64])) ?_
        rintro k ⟨hk, hall, hallx⟩
        refine vc_sound _ _ _ ?_; simp only [go_sem, hG, hOw]
        (repeat' with_reducible first | refine And.intro ?_ ?_ | intro _ | refine exP ?_ ?_); all_goals try omega
        · rename_i hlt
          have hkl : k < r.shares.length := by omega
          have hkx : k < r.sheets.length := by omega
          have hxk := (hx2 _ (List.getElem_mem hkx)).1
          refine semC_mid (fun b : Bool => St.of [(0, .fp (dkC 0 r)), (6, .ptr 6 0), (7, bl b), (8, i64 k), (9, .ptr 9 0), (10, .ptr 10 0), (91, srs 0 r.shares), (92, i64 r.shares.length), (93, i64 k)] [(6, .box (srE (bfr r.shares k 2) ++ srE (bfr r.shares k 1))), (9, .box (srE r.shares[k])), (10, .box (seE 0 r.sheets[k]))])
            (fun b => b = partB (linesL r.text).length r.helpers.length (bfr r.shares k 1).fr (bfr r.shares k 1).to (bfr r.shares k 2).to r.shares[k] r.sheets[k]) ?_ ?_
          · refine semC_ent (s' := St.of [(0, .fp (dkC 0 r)), (6, .ptr 6 0), (8, i64 k), (9, .ptr 9 0), (10, .ptr 10 0), (91, srs 0 r.shares), (92, i64 r.shares.length), (93, i64 k)] [(6, .box (srE (bfr r.shares k 2) ++ srE (bfr r.shares k 1))), (9, .box (srE r.shares[k])), (10, .box (seE 0 r.sheets[k]))]) (entA [(6, some 6), (9, some 9), (10, some 10)]) ?_
            exact semC_code (by kernel_rfl) (right_part r r.shares[k] r.sheets[k] (bfr r.shares k 2) (bfr r.shares k 1) k hG hOw hNm hll hh8 (by omega))
          · rintro b hb
            have hpe := part_eq (linesL r.text).length r.helpers.length r.shares k hkl r.sheets[k]
            rw [← hb] at hpe
            have badp : (b && r.sheets[k].lines.all lineB) = false → roundB r = false := fun h => by
              rw [h, Bool.and_eq_false_iff] at hpe
              simp only [roundB]
              rcases hpe with hp | hp
              · rw [allPre_bad hkl hp]; simp
              · rw [all_false hkx hp]; simp
            simp only [go_sem, hG, hOw]
            (repeat' with_reducible first | refine And.intro ?_ ?_ | intro _ | refine exP ?_ ?_); all_goals try omega
            · rename_i hbt
              subst hbt
              refine call_pureA (ContainsFunc_Ln _ [] (fun l => !lineB l) r.sheets[k].lines rfl (fun l _ => right1_ok l)) ?_
              have hal : r.sheets[k].lines.all lineB = !(r.sheets[k].lines.any fun l => !lineB l) := by rw [List.not_any_eq_all_not]; simp
              have hf1 := bfr_1 r.shares k hkl
              have hf2 := bfr_2 r.shares k
              simp (maxSteps := 2000000) only [go_sem, hG, hOw, Int.reduceToNat, List.cons_append, List.nil_append, srE, i64]
              (repeat' with_reducible first | refine And.intro ?_ ?_ | intro _ | refine exP ?_ ?_); all_goals try omega
              · rename_i h6
                exact ⟨false, (badp (by rw [hal, h6]; rfl)).symm, ent_of0 (by (simp only [go_sem]) <;> simp) hNm⟩
              · rename_i h6
                rw [hal, h6] at hpe
                simp only [Bool.not_false, Bool.and_true, Bool.and_eq_true] at hpe
                refine ⟨k + 1, ⟨by omega, ?_, all_take_succ hkx hallx hpe.2⟩, by omega, entA [(6, some 6)] (by (simp only [go_sem]) <;> simp [hf1,hf2,srE,i64]) (by (simp only [go_sem, entH, entH1, nilArr, obOK]) <;> simp [hf1,hf2,srE,i64])⟩
                rw [allPre_step _ _ _ hkl, hall, hpe.1]; rfl
            · rename_i hbf
              subst hbf
              exact ⟨false, (badp rfl).symm, ent_of0 (by (simp only [go_sem]) <;> simp) hNm⟩
        · rename_i hge
          rw [take_full hk hge] at hall
          rw [take_full (by omega) (by omega)] at hallx
          refine ⟨true, ?_, ent_of0 (by (simp only [go_sem]) <;> simp) hNm⟩
          simp only [roundB]
          rw [c1, hhall, hall, hallx, show decide ((r.shares.length : Int) ≤ 8) = true from decide_eq_true (by omega), show decide ((r.sheets.length : Int) = r.shares.length) = true from decide_eq_true c3]; rfl
      · rintro b rfl
        simp only [go_sem, hG, hOw]
  · simp only [roundB]
    rw [show decide ((r.shares.length : Int) ≤ 8) = false from decide_eq_false (by omega)]; simp
  · simp only [roundB]
    rw [show inB r.helpers.length 1 4 = false by assumption]; simp
open Go Pm
set_option maxHeartbeats 4000000
set_option maxRecDepth 100000
theorem open_good (r : Ro) (hr : OKr r) (he : roundE r = 0) : Gives Tryz.prog 32 [roE 0 r] (fun n => .tup [.fp (dkC n r), i64 0]) := by
  have hT : textB r.text = true := by
    cases h : textB r.text with
    | true => rfl
    | false => simp [roundE, h] at he
  have hR : roundB r = true := by
    cases h : roundB r with
    | true => rfl
    | false => simp [roundE, h, hT] at he
  refine pure_intro (ow := fun _ => false) Tryz.func32 Tryz.ntmps32 rfl (by kernel_rfl) (by simp) rfl (by decide) fun G hG hOw hNm hB => ?_; simp only [go_sem, hG, hOw]
  refine call_pureA (LCheck_ok r.text) ?_
  simp (maxSteps := 2000000) only [go_sem, hG, hOw, hT]
  refine call_pureA (laid_ok r hr.t) ?_
  simp only [go_sem, hG, hOw]
  refine call_pureA (right_ok r hr) ?_
  simp (maxSteps := 2000000) only [go_sem, hG, hOw, hR]
theorem open_bad (r : Ro) (hr : OKr r) (he : ¬ roundE r = 0) : Gives Tryz.prog 32 [roE 0 r] (fun _ => .tup [.v (.pointer none), i64 (roundE r)]) := by
  refine pure_intro (ow := fun _ => false) Tryz.func32 Tryz.ntmps32 rfl (by kernel_rfl) (by simp) rfl (by decide) fun G hG hOw hNm hB => ?_; simp only [go_sem, hG, hOw]
  refine call_pureA (LCheck_ok r.text) ?_
  simp only [go_sem, hG, hOw]
  cases hT : textB r.text with
  | false =>
    have e : roundE r = 10 := by simp [roundE, hT]
    (repeat' with_reducible first | refine And.intro ?_ ?_ | intro _ | refine exP ?_ ?_); all_goals try omega
    · rw [e]; exact Sub.refl _
    · rename_i h; simp at h
  | true =>
    have hR : roundB r = false := by
      cases h : roundB r with
      | false => rfl
      | true => simp [roundE, h, hT] at he
    have e : roundE r = 50 := by simp [roundE, hT, hR]
    (repeat' with_reducible first | refine And.intro ?_ ?_ | intro _ | refine exP ?_ ?_); all_goals try omega
    · rename_i h; simp at h
    · refine call_pureA (laid_ok r hr.t) ?_
      simp only [go_sem, hG, hOw]
      refine call_pureA (right_ok r hr) ?_
      simp (maxSteps := 2000000) only [go_sem, hG, hOw, hR, e]
theorem Check_ok (r : Ro) (hr : OKr r) : Gives Tryz.prog 11 [roE 0 r] (fun _ => i64 (roundE r)) := by
  refine pure_intro (ow := fun _ => false) Tryz.func11 Tryz.ntmps11 rfl (by kernel_rfl) (by simp) rfl (by decide) fun G hG hOw hNm hB => ?_; simp only [go_sem, hG, hOw]
  by_cases he : roundE r = 0
  · refine call_pureA (open_good r hr he) ?_
    simp (maxSteps := 2000000) only [go_sem, hG, hOw, he]
  · refine call_pureA (open_bad r hr he) ?_
    simp only [go_sem, hG, hOw]
theorem Clone_ok (l : List ByteArray) (hl : l.length ≤ 1000) : Gives Tryz.prog 44 [strs 0 l] (fun n => strs n l) := by
  refine pure_intro (ow := fun _ => false) Tryz.func44 Tryz.ntmps44 rfl (by kernel_rfl) (by simp) rfl (by decide) fun G hG hOw hNm hB => ?_; simp only [go_sem, hG, hOw]
  (repeat' with_reducible first | refine And.intro ?_ ?_ | intro _ | refine exP ?_ ?_); all_goals try omega
  · rename_i b h1 h2
    rw [show l = [] by simpa using h1 h2]
    exact .nil _ _
theorem Line_ok (r : Ro) (hr : OKr r) (n : Int) : Gives Tryz.prog 15 [roE 0 r, i64 n] (fun N => .tup [strs N (lineR r n), i64 (lineRE r n)]) := by
  refine pure_intro (ow := fun _ => false) Tryz.func15 Tryz.ntmps15 rfl (by kernel_rfl) (by simp) rfl (by decide) fun G hG hOw hNm hB => ?_; simp only [go_sem, hG, hOw]
  by_cases he : roundE r = 0
  · have hlen := linesL_le hr.t
    refine call_pureA (open_good r hr he) ?_
    simp only [go_sem, hG, hOw]
    (repeat' with_reducible first | refine And.intro ?_ ?_ | intro _ | refine exP ?_ ?_); all_goals try omega
    refine call_pureA (inH_one 0 ((linesL r.text).length - 1) n) ?_
    simp only [go_sem, hG, hOw]
    (repeat' with_reducible first | refine And.intro ?_ ?_ | intro _ | refine exP ?_ ?_); all_goals try omega
    · rename_i h2
      rw [show lineRE r n = 2 by simp [lineRE, he, h2], show lineR r n = [] by simp [lineR, he, h2]]
      exact Subs.tup (.cons (.nil _ _) (.cons (.refl _) .nil))
    · rename_i h2
      simp [inB] at h2; omega
    · rename_i h2
      simp [inB] at h2; omega
    · rename_i h2
      have hn : n.toNat < (linesL r.text).length := by simp [inB] at h2; omega
      have hlr := (linesL_rows hr.t _ (List.getElem_mem hn)).1
      refine call_pureA (Clone_ok (linesL r.text)[n.toNat] (by omega)) ?_
      simp only [go_sem, hG, hOw]
      rw [show lineRE r n = 0 by simp [lineRE, he, h2], show lineR r n = (linesL r.text)[n.toNat] by simp [lineR, he, h2, hn]]
      exact Sub.refl _
  · refine call_pureA (open_bad r hr he) ?_
    simp only [go_sem, hG, hOw]
    (repeat' with_reducible first | refine And.intro ?_ ?_ | intro _ | refine exP ?_ ?_); all_goals try omega
    rw [show lineRE r n = roundE r by simp [lineRE, he], show lineR r n = [] by simp [lineR, he]]
    exact Subs.tup (.cons (.nil _ _) (.cons (.refl _) .nil))
open Go Pm
set_option maxHeartbeats 4000000
set_option maxRecDepth 100000
theorem size_ok (r : Ro) (hr : Good r) (i : Nat) (hi : i < r.shares.length) : Gives Tryz.prog 75 [.fp (dkC 0 r), i64 i] (fun _ => i64 (r.shares[i].to - r.shares[i].fr + 1)) := by
  have hs := hr.s i hi
  have hl := hr.ll
  refine pure_intro (ow := fun _ => false) Tryz.func75 Tryz.ntmps75 rfl (by kernel_rfl) (by simp) rfl (by decide) fun G hG hOw hNm hB => ?_; simp only [go_sem, hG, hOw]
  refine semC_draw0 mixed (by kernel_rfl) ?_
  simp only [go_sem, hG, hOw]
  (repeat' with_reducible first | refine And.intro ?_ ?_ | intro _ | refine exP ?_ ?_); all_goals try omega
theorem hdays_ok (r : Ro) (hr : Good r) (i : Nat) (hi : i < r.shares.length) (h : Int) (h0 : 0 ≤ h) (hh : h.toNat < r.helpers.length) : Gives Tryz.prog 45 [.fp (dkC 0 r), i64 i, i64 h] (fun _ => i64 (daysI r.shares[i] r.helpers[h.toNat])) := by
  have hs := hr.s i hi
  have hl := hr.ll
  have hn := hr.hn
  have hH := hr.h _ hh
  refine pure_intro (ow := fun _ => false) Tryz.func45 Tryz.ntmps45 rfl (by kernel_rfl) (by simp) rfl (by decide) fun G hG hOw hNm hB => ?_; simp only [go_sem, hG, hOw]
  (repeat' with_reducible first | refine And.intro ?_ ?_ | intro _ | refine exP ?_ ?_); all_goals try omega
  refine call_pureA (size_ok r hr i hi) ?_
  simp only [go_sem, hG, hOw]
  have hd := daysI_le (s := r.shares[i]) (h := r.helpers[h.toNat]) (by omega) (by omega) (by omega) (by omega) (by omega)
  have e : r.shares[i].to - r.shares[i].fr + 1 + r.helpers[h.toNat].rate - 1 = r.shares[i].to - r.shares[i].fr + r.helpers[h.toNat].rate := by omega
  unfold daysI at hd
  (repeat' with_reducible first | refine And.intro ?_ ?_ | intro _ | refine exP ?_ ?_); all_goals try omega
  · rw [fitsK_i64, e]; omega
  · rw [e]; rfl
theorem part_good (r : Ro) (hr : OKr r) (he : roundE r = 0) (n : Int) (hn : inB n 0 (r.shares.length - 1) = true) : Gives Tryz.prog 40 [roE 0 r, i64 n] (fun N => .tup [.fp (dkC N r), i64 0]) := by
  have hs := hr.s
  refine pure_intro (ow := fun _ => false) Tryz.func40 Tryz.ntmps40 rfl (by kernel_rfl) (by simp) rfl (by decide) fun G hG hOw hNm hB => ?_; simp only [go_sem, hG, hOw]
  refine call_pureA (open_good r hr he) ?_
  simp only [go_sem, hG, hOw]
  (repeat' with_reducible first | refine And.intro ?_ ?_ | intro _ | refine exP ?_ ?_); all_goals try omega
  refine call_pureA (inH_one 0 (r.shares.length - 1) n) ?_
  simp (maxSteps := 2000000) only [go_sem, hG, hOw, hn]
theorem part_bad (r : Ro) (hr : OKr r) (n : Int) (h : backE r n ≠ 0) : Gives Tryz.prog 40 [roE 0 r, i64 n] (fun N => .tup [.v (.pointer none), i64 (backE r n)]) := by
  have hs := hr.s
  refine pure_intro (ow := fun _ => false) Tryz.func40 Tryz.ntmps40 rfl (by kernel_rfl) (by simp) rfl (by decide) fun G hG hOw hNm hB => ?_; simp only [go_sem, hG, hOw]
  by_cases he : roundE r = 0
  · refine call_pureA (open_good r hr he) ?_
    simp only [go_sem, hG, hOw]
    (repeat' with_reducible first | refine And.intro ?_ ?_ | intro _ | refine exP ?_ ?_); all_goals try omega
    refine call_pureA (inH_one 0 (r.shares.length - 1) n) ?_
    have hn : inB n 0 (r.shares.length - 1) = false := by
      cases hn : inB n 0 (r.shares.length - 1) with
      | false => rfl
      | true => simp [backE, he, hn] at h
    have e : backE r n = 2 := by simp [backE, he, hn]
    simp (maxSteps := 2000000) only [go_sem, hG, hOw, hn, e]
  · refine call_pureA (open_bad r hr he) ?_
    have e : backE r n = roundE r := by simp [backE, he]
    simp (maxSteps := 2000000) only [go_sem, hG, hOw, e]
    (repeat' with_reducible first | refine And.intro ?_ ?_ | intro _ | refine exP ?_ ?_); all_goals try omega
theorem HBack_ok (r : Ro) (hr : OKr r) (n : Int) : Gives Tryz.prog 17 [roE 0 r, i64 n] (fun _ => .tup [i64 (backR r n), i64 (backE r n)]) := by
  have hs12 := hr.s
  refine pure_intro (ow := fun _ => false) Tryz.func17 Tryz.ntmps17 rfl (by kernel_rfl) (by simp) rfl (by decide) fun G hG hOw hNm hB => ?_; simp only [go_sem, hG, hOw]
  by_cases hE : backE r n = 0
  · have he : roundE r = 0 := by
      by_cases he : roundE r = 0
      · exact he
      · simp [backE, he] at hE
    have h2 : inB n 0 (r.shares.length - 1) = true := by
      cases hn : inB n 0 (r.shares.length - 1) with
      | true => rfl
      | false => simp [backE, he, hn] at hE
    have hg := good_of hr he
    obtain ⟨hn0, hn1⟩ : 0 ≤ n ∧ n ≤ r.shares.length - 1 := by simpa [inB] using h2
    have hnl : n.toNat < r.shares.length := by omega
    have hsN := hg.s _ hnl
    have hll := hg.ll
    have hhl : r.shares[n.toNat].helper.toNat < r.helpers.length := by omega
    have hH := hg.h _ hhl
    refine call_pureA (part_good r hr he n h2) ?_
    simp only [go_sem, hG, hOw]
    (repeat' with_reducible first | refine And.intro ?_ ?_ | intro _ | refine exP ?_ ?_); all_goals try omega
    have hq : (n + 1).toNat = n.toNat + 1 := by omega
    have hmin : min (n.toNat + 1) r.shares.length = n.toNat + 1 := Nat.min_eq_left (by omega)
    have hlt : (r.shares.take (n.toNat + 1)).length = n.toNat + 1 := by rw [List.length_take]; exact hmin
    rw [hE, show backR r n = backW r r.shares[n.toNat].helper (n.toNat + 1) + r.helpers[r.shares[n.toNat].helper.toNat].post by simp [backR, he, h2, hnl, hhl]]
    refine semC_loop (fun k : Nat => St.of [(6, .fp (dkC G.lo r)), (8, i64 r.shares[n.toNat].helper), (9, i64 r.helpers[r.shares[n.toNat].helper.toNat].post), (10, i64 (backW r r.shares[n.toNat].helper k)), (47, srs 0 (r.shares.take (n.toNat + 1))), (48, i64 (n.toNat + 1 : Nat)), (49, i64 k)] []) (fun k => k ≤ n.toNat + 1) (fun k => n.toNat + 1 - k) 0 (by simp) (entA [] (by (simp only [go_sem]) <;> simp [hq,hmin,backW]) (by (simp only [go_sem, entH, entH1, nilArr, obOK]) <;> simp [hq,hmin,backW])) ?_
    rintro k hk
    have hW := backW_le hg r.shares[n.toNat].helper hhl k (by omega)
    refine vc_sound _ _ _ ?_
    simp (maxSteps := 2000000) only [go_sem, hG, hOw, hlt, List.getElem_take]
    (repeat' with_reducible first | refine And.intro ?_ ?_ | intro _ | refine exP ?_ ?_); all_goals try omega
    · rename_i hlt1 h3
      have hkl : k < r.shares.length := by omega
      have hsk := hg.s k hkl
      have e1 := backW_succ r r.shares[n.toNat].helper hkl hhl
      rw [if_pos h3] at e1
      have hd := daysI_le (s := r.shares[k]) (h := r.helpers[r.shares[n.toNat].helper.toNat]) (by omega) (by omega) (by omega) (by omega) (by omega)
      have hm : 0 ≤ (if backW r r.shares[n.toNat].helper k < r.shares[k].sent + r.helpers[r.shares[n.toNat].helper.toNat].post then r.shares[k].sent + r.helpers[r.shares[n.toNat].helper.toNat].post else backW r r.shares[n.toNat].helper k) ∧
          (if backW r r.shares[n.toNat].helper k < r.shares[k].sent + r.helpers[r.shares[n.toNat].helper.toNat].post then r.shares[k].sent + r.helpers[r.shares[n.toNat].helper.toNat].post else backW r r.shares[n.toNat].helper k) ≤ 1000 * k + 430 := by
        split <;> constructor <;> omega
      refine semC_draw0 mixed (by kernel_rfl) ?_
      simp only [go_sem, hG, hOw]
      (repeat' with_reducible first | refine And.intro ?_ ?_ | intro _ | refine exP ?_ ?_); all_goals try omega
      refine ⟨_, callGivesA (hdays_ok r hg k hkl r.shares[n.toNat].helper (by omega) hhl), ?_⟩
      simp only [go_sem, hG, hOw]
      (repeat' with_reducible first | refine And.intro ?_ ?_ | intro _ | refine exP ?_ ?_); all_goals try omega
      refine ⟨k + 1, by omega, by omega, ?_⟩
      rw [e1]
      exact ent_of0 (by (simp only [go_sem]) <;> simp) hNm
    · rename_i hlt1 h3
      have hkl : k < r.shares.length := by omega
      have e1 := backW_succ r r.shares[n.toNat].helper hkl hhl
      rw [if_neg h3] at e1
      refine ⟨k + 1, by omega, by omega, ?_⟩
      rw [e1]
      exact ent_of0 (by (simp only [go_sem]) <;> simp) hNm
    · rename_i hge
      rw [show k = n.toNat + 1 by omega]
      exact Sub.refl _
  · refine call_pureA (part_bad r hr n hE) ?_
    simp only [go_sem, hG, hOw]
    (repeat' with_reducible first | refine And.intro ?_ ?_ | intro _ | refine exP ?_ ?_); all_goals try omega
    rw [show backR r n = 0 by
      unfold backR backE at *
      split
      · rename_i he
        rw [if_pos he] at hE
        split
        · rename_i hn; rw [if_pos hn] at hE; exact absurd rfl hE
        · rfl
      · rfl]
    exact Sub.refl _
open Go Pm
set_option maxHeartbeats 4000000
set_option maxRecDepth 100000
def eraseN (L : List Int) (a : Int) : Nat → List Int
  | 0 => L
  | m + 1 => (eraseN L a m).erase (a + m)
theorem delM_ids (L : List Int) (n : Int) : delM (idsM L) (.int .i64 n) = idsM (L.erase n) := by
  induction L with
  | nil => rfl
  | cons x r ih =>
    simp only [idsM, List.map_cons, delM, keyB, List.erase_cons]
    by_cases h : x = n
    · simp [h]
    · have : (x == n) = false := by simpa using h
      simp only [h, decide_false, Bool.false_eq_true, if_false, this, List.map_cons, List.cons.injEq, true_and]
      exact ih
theorem eraseN_nodup {L : List Int} (h : L.Nodup) (a : Int) : ∀ m, (eraseN L a m).Nodup
  | 0 => h
  | m + 1 => (eraseN_nodup h a m).erase _
theorem mem_eraseN {L : List Int} (h : L.Nodup) (a : Int) (x : Int) : ∀ m : Nat, x ∈ eraseN L a m ↔ x ∈ L ∧ ¬ (a ≤ x ∧ x < a + m)
  | 0 => by simp [eraseN]; try omega
  | m + 1 => by
    simp only [eraseN]
    rw [(eraseN_nodup h a m).mem_erase_iff, mem_eraseN h a x m]
    constructor
    · rintro ⟨h1, h2, h3⟩
      exact ⟨h2, by omega⟩
    · rintro ⟨h1, h2⟩
      exact ⟨by omega, h1, by omega⟩
def allN (n : Nat) : List Int := (List.range n).map Int.ofNat
theorem allN_succ (n : Nat) : allN (n + 1) = allN n ++ [(n : Int)] := by simp [allN, List.range_succ]
theorem allN_nodup (n : Nat) : (allN n).Nodup := by
  unfold allN
  exact List.Pairwise.map _ (fun a b h e => h (Int.ofNat.inj e)) List.nodup_range
theorem mem_allN (n : Nat) (x : Int) : x ∈ allN n ↔ 0 ≤ x ∧ x < n := by
  simp only [allN, List.mem_map, List.mem_range]
  constructor
  · rintro ⟨a, h, rfl⟩; simp; exact h
  · rintro ⟨h1, h2⟩; exact ⟨x.toNat, by omega, by simp; omega⟩
def leftL (n : Nat) (shares : List Sr) (p : Nat → Bool) : Nat → List Int
  | 0 => allN n
  | i + 1 => match shares[i]? with
    | some s => if p i = true then eraseN (leftL n shares p i) s.fr (s.to - s.fr + 1).toNat else leftL n shares p i
    | none => leftL n shares p i
theorem leftL_succ (n : Nat) (shares : List Sr) (p : Nat → Bool) {i : Nat} (hi : i < shares.length) :
    leftL n shares p (i + 1) = if p i = true then eraseN (leftL n shares p i) shares[i].fr (shares[i].to - shares[i].fr + 1).toNat else leftL n shares p i := by
  simp [leftL, hi]
theorem leftL_nodup (n : Nat) (shares : List Sr) (p : Nat → Bool) : ∀ i, (leftL n shares p i).Nodup
  | 0 => allN_nodup n
  | i + 1 => by
    unfold leftL
    split
    · split
      · exact eraseN_nodup (leftL_nodup n shares p i) _ _
      · exact leftL_nodup n shares p i
    · exact leftL_nodup n shares p i
theorem mem_leftL (n : Nat) (shares : List Sr) (p : Nat → Bool) (x : Int) : ∀ i, i ≤ shares.length → (x ∈ leftL n shares p i ↔ (0 ≤ x ∧ x < n) ∧ ∀ (j : Nat) (hj : j < shares.length), j < i → p j = true → ¬ (shares[j].fr ≤ x ∧ x ≤ shares[j].to))
  | 0, _ => by simp [leftL, mem_allN]
  | i + 1, hi => by
    rw [leftL_succ n shares p (by omega)]
    have ih := mem_leftL n shares p x i (by omega)
    by_cases hp : p i = true
    · rw [if_pos hp, mem_eraseN (leftL_nodup n shares p i), ih]
      constructor
      · rintro ⟨⟨h1, h2⟩, h3⟩
        refine ⟨h1, fun j hj hji hpj => ?_⟩
        by_cases e : j = i
        · subst e; omega
        · exact h2 j hj (by omega) hpj
      · rintro ⟨h1, h2⟩
        refine ⟨⟨h1, fun j hj hji hpj => h2 j hj (by omega) hpj⟩, ?_⟩
        have := h2 i (by omega) (by omega) hp
        omega
    · rw [if_neg hp, ih]
      constructor
      · rintro ⟨h1, h2⟩
        refine ⟨h1, fun j hj hji hpj => ?_⟩
        by_cases e : j = i
        · subst e; exact absurd hpj hp
        · exact h2 j hj (by omega) hpj
      · rintro ⟨h1, h2⟩
        exact ⟨h1, fun j hj hji hpj => h2 j hj (by omega) hpj⟩
theorem of_ok (r : Ro) (i : Nat) : Gives Tryz.prog 41 [.fp (dkC 0 r), i64 i] (fun _ => .fn (.func 72) [.fp [.fp (dkC 0 r)], .fp [i64 i]]) := by
  refine pure_intro (ow := fun _ => false) Tryz.func41 Tryz.ntmps41 rfl (by kernel_rfl) (by simp) rfl (by decide) fun G hG hOw hNm hB => ?_; simp only [go_sem, hG, hOw]
theorem eraseN_zero (L : List Int) (a : Int) : eraseN L a 0 = L := rfl
attribute [go_sem] eraseN_zero
theorem leftL_zero (n : Nat) (shares : List Sr) (p : Nat → Bool) : leftL n shares p 0 = allN n := rfl
attribute [go_sem] leftL_zero
theorem allN_zero : allN 0 = [] := rfl
attribute [go_sem] allN_zero
theorem upM_all (n : Nat) : upM (idsM (allN n)) (.int .i64 n) (.v (.bool true)) = idsM (allN (n + 1)) := by
  rw [upM_ids, allN_succ]
  rw [List.any_eq_false]
  intro x hx
  rw [mem_allN] at hx
  simp; omega
theorem nm_all0 (nm : List Nat) (n : Nat) : ∀ {l : List V}, all0 l = true → l.all (nmOK nm (n + 1)) = true
  | [], _ => rfl
  | x :: r, h => by
    simp only [all0, Bool.and_eq_true] at h
    simp only [List.all_cons, Bool.and_eq_true]
    refine ⟨?_, nm_all0 nm n h.2⟩
    have := h.1
    cases x <;> first | rfl | (simp [pure0] at this; done)
theorem nmOK_fn (nm : List Nat) (f : Fn) {cap : List V} (h : all0 cap = true) : nmOK nm 4 (.fn f cap) = true := nm_all0 nm 2 h
theorem uncovered_ok (r : Ro) (hr : Good r) (fk : Fn) (cap : List V) (hcap : all0 cap = true) (p : Nat → Bool)
    (hf : ∀ (i : Nat) (hi : i < r.shares.length) (G : Gh) (o : Oper) (s : St) (Q : Exit → St → Prop) (rest : St → Prop), chk G.n o.dst → rest (putD s o.dst (bl (p i))) → SemCall Tryz.prog G o s Q rest (.fn fk cap) [i64 i]) :
    Tri Tryz.prog 49 [.fp (dkC 0 r), .fn fk cap] [] (fun _ => .ret (.mp 0) [(0, .map (.int .i64) (idsM (leftL (linesL r.text).length r.shares p r.shares.length)))]) := by
  have hll := hr.ll
  have hsn := hr.sn
  refine tri_introR (fun _ => false) Tryz.func49 Tryz.ntmps49 rfl (by kernel_rfl) (by simp) rfl (by decide) fun G hG hOw hNm hrd => ?_; simp only [go_sem, hG, hOw]
  (repeat' with_reducible first | refine And.intro ?_ ?_ | intro _ | refine exP ?_ ?_); all_goals try omega
  refine semC_cut (fun _ : Unit => St.of [(0, .fp (dkC 0 r)), (1, .fn fk cap), (5, .ptr 5 0)] [(5, .box [.mp 9]), (9, .map (.int .i64) (idsM (allN (linesL r.text).length)))]) (fun _ => True) ?_ ?_
  · refine semC_loop (fun k : Nat => St.of [(0, .fp (dkC 0 r)), (1, .fn fk cap), (5, .ptr 5 0), (14, i64 (linesL r.text).length), (15, i64 k)] [(5, .box [.mp 9]), (9, .map (.int .i64) (idsM (allN k)))]) (fun k => k ≤ (linesL r.text).length) (fun k => (linesL r.text).length - k) 0 (by simp) (entA [(5, some 5), (9, some 9)] (by (simp only [go_sem]) <;> simp [hcap]) (by (simp only [go_sem, entH, entH1, nilArr, obOK]) <;> simp [hcap])) ?_
    rintro k hk
    have hup := upM_all k
    refine vc_sound _ _ _ ?_
    simp (maxSteps := 2000000) only [go_sem, hG, hOw, hup]
    (repeat' with_reducible first | refine And.intro ?_ ?_ | intro _ | refine exP ?_ ?_); all_goals try omega
    · exact ⟨k + 1, by omega, by omega, entA [(5, some 5), (9, some 9)] (by (simp only [go_sem]) <;> simp [hcap]) (by (simp only [go_sem, entH, entH1, nilArr, obOK]) <;> simp [hcap])⟩
    · rename_i hge
      obtain rfl : k = (linesL r.text).length := by omega
      exact ⟨(), entA [(5, some 5), (9, some 9)] (by (simp only [go_sem]) <;> simp [hcap]) (by (simp only [go_sem, entH, entH1, nilArr, obOK]) <;> simp [hcap])⟩
  rintro ⟨⟩ -
  simp only [go_sem, hG, hOw]
  (repeat' with_reducible first | refine And.intro ?_ ?_ | intro _ | refine exP ?_ ?_); all_goals try omega
  refine semC_loop (fun k : Nat => St.of [(0, .fp (dkC 0 r)), (1, .fn fk cap), (5, .ptr 5 0), (25, srs 0 r.shares), (26, i64 r.shares.length), (27, i64 k)] [(5, .box [.mp 9]), (9, .map (.int .i64) (idsM (leftL (linesL r.text).length r.shares p k)))]) (fun k => k ≤ r.shares.length) (fun k => r.shares.length - k) 0 (by simp) (entA [(5, some 5), (9, some 9)] (by (simp only [go_sem]) <;> simp [hcap]) (by (simp only [go_sem, entH, entH1, nilArr, obOK]) <;> simp [hcap])) ?_
  rintro k hk
  refine vc_sound _ _ _ ?_; simp only [go_sem, hG, hOw]
  (repeat' with_reducible first | refine And.intro ?_ ?_ | intro _ | refine exP ?_ ?_); all_goals try omega
  · rename_i hlt
    have hkl : k < r.shares.length := by omega
    refine hf k hkl G _ _ _ _ (by simp [chk, hG]) ?_
    simp only [go_sem, hG, hOw]
    (repeat' with_reducible first | refine And.intro ?_ ?_ | intro _ | refine exP ?_ ?_); all_goals try omega
    · rename_i hp
      refine ⟨k + 1, by omega, by omega, ?_⟩
      rw [leftL_succ _ _ _ hkl, if_neg (by rw [hp]; simp)]
      exact entA [(5, some 5), (9, some 9)] (by (simp only [go_sem]) <;> simp [hcap]) (by (simp only [go_sem, entH, entH1, nilArr, obOK]) <;> simp [hcap])
    · rename_i hp
      refine call_pureA (of_ok r k) ?_
      simp only [go_sem, hG, hOw]
      have hsk := hr.s k hkl
      obtain ⟨L0, hL0⟩ : ∃ L0, L0 = leftL (linesL r.text).length r.shares p k := ⟨_, rfl⟩
      show SemC _ _ _ _ _
      refine semC_ent (s' := St.of [(0, .fp (dkC 0 r)), (1, .fn fk cap), (5, .ptr 5 0), (25, srs 0 r.shares), (26, i64 r.shares.length), (27, i64 k), (36, .fn (.func 72) [.fp [.fp (dkC 0 r)], .fp [i64 k]])] [(5, .box [.mp 9]), (9, .map (.int .i64) (idsM L0))]) (by rw [hL0]; exact entA [(5, some 5), (9, some 9)] (by (simp only [go_sem]) <;> simp [hcap]) (by (simp only [go_sem, entH, entH1, nilArr, obOK]) <;> simp [hcap])) ?_
      refine semC_rangeFunc [(8, 37)] [5, 9] 99 (fun _ => false) hrd rfl Tryz.func72 Tryz.ntmps72 rfl (by kernel_rfl) rfl (by simp) (by rw [hG]; decide) rfl (by rw [hNm]; simp [names]) (by simp only [List.all_cons, List.all_nil, nmOK_fn [5, 9] fk hcap]; rfl) rfl rfl (by rw [hG]; decide) fun G1 l L k1 k2 k3 k4 k5 hY => ?_
      have hG0 := hG
      have hNm0 := hNm
      have hOw0 := hOw
      have hG := k1
      have hOw := k2
      have hNm := k3
      obtain ⟨cnt, hcnt⟩ : ∃ c : Nat, (c : Int) = r.shares[k].to - r.shares[k].fr + 1 := ⟨(r.shares[k].to - r.shares[k].fr + 1).toNat, by omega⟩
      simp only [go_sem, hG, hOw]
      refine semC_draw0 mixed (by kernel_rfl) ?_
      simp only [go_sem, hG, hOw]
      (repeat' with_reducible first | refine And.intro ?_ ?_ | intro _ | refine exP ?_ ?_); all_goals try omega
      refine semC_loop (fun m : Nat => St.of [(0, .v (.func (.yield l) #[] #[])), (1, .fp [.fp (dkC 0 r)]), (2, .fp [i64 k]), (4, i64 (r.shares[k].fr + m))] [(99, .obj (.loop (Lp L none))), (5, .box [.mp 9]), (9, .map (.int .i64) (idsM (eraseN L0 r.shares[k].fr m)))]) (fun m => m ≤ cnt) (fun m => cnt - m) 0 (by simp) (entA [(99, some 99), (5, some 5), (9, some 9)]) ?_
      rintro m hm
      refine vc_sound _ _ _ ?_
      simp only [go_sem, hG, hOw]
      refine semC_draw0 mixed (by kernel_rfl) ?_
      simp only [go_sem, hG, hOw]
      (repeat' with_reducible first | refine And.intro ?_ ?_ | intro _ | refine exP ?_ ?_); all_goals try omega
      · rename_i hle
        refine hY [99, 5, 9] _ _ _ _ _ (by simp [go_sem]) rfl (by simp [chk, k1]) (by rw [k3]; simp) (by intro id hid; left; rw [k3]; exact hid) fun G2 m1 m2 m3 m4 m5 => ?_
        have hG2 := m1.trans hG0
        have hOw2 := m2.trans hOw0
        have hde : delM (idsM (eraseN L0 r.shares[k].fr m)) (.int .i64 (r.shares[k].fr + m)) = idsM (eraseN L0 r.shares[k].fr (m + 1)) := delM_ids _ _
        have hm1 : r.shares[k].fr + ((m + 1 : Nat) : Int) = r.shares[k].fr + m + 1 := by omega
        refine vc_sound _ _ _ ?_
        simp (maxSteps := 2000000) only [go_sem, hG, hOw, hG2, hOw2, hde]
        (repeat' with_reducible first | refine And.intro ?_ ?_ | intro _ | refine exP ?_ ?_); all_goals try omega
        exact ⟨m + 1, by omega, by omega, entA [(99, some 99), (5, some 5), (9, some 9)] (by (simp only [go_sem]) <;> simp [Int.add_assoc]) (by (simp only [go_sem, entH, entH1, nilArr, obOK]) <;> simp [Int.add_assoc])⟩
      · rename_i hgt
        obtain rfl : m = cnt := by omega
        refine ⟨none, by simp [go_sem], ?_⟩
        simp (maxSteps := 2000000) only [go_sem, hG, hOw, hG0]
        (repeat' with_reducible first | refine And.intro ?_ ?_ | intro _ | refine exP ?_ ?_); all_goals try omega
        refine ⟨k + 1, by omega, by omega, ?_⟩
        rw [leftL_succ _ _ _ hkl, if_pos hp, ← hL0, show (r.shares[k].to - r.shares[k].fr + 1).toNat = m by omega]
        have hNm := hNm0
        exact entA [(5, some 5), (9, some 9)] (by (simp only [go_sem]) <;> simp [hcap]) (by (simp only [go_sem, entH, entH1, nilArr, obOK]) <;> simp [hcap])
  · rename_i hge
    obtain rfl : k = r.shares.length := by omega
    exact ⟨[(0, some 9)], by (simp only [EndT, go_sem, entH, entH1, nilArr, obOK, apart, injR, coverR]) <;> simp⟩
open Go Pm
set_option maxHeartbeats 4000000
set_option maxRecDepth 100000
theorem sent_ok (r : Ro) (i : Nat) (hi : i ≤ 140737488355328) : Gives Tryz.prog 57 [.fp (dkC 0 r), i64 i] (fun _ => bl (decide ((i : Int) < r.shares.length))) := by
  refine pure_intro (ow := fun _ => false) Tryz.func57 Tryz.ntmps57 rfl (by kernel_rfl) (by simp) rfl (by decide) fun G hG hOw hNm hB => ?_; simp only [go_sem, hG, hOw]
theorem left_has (r : Ro) (n : Nat) (hn : n < (linesL r.text).length) (p : Nat → Bool) (hp : ∀ i, i < r.shares.length → p i = true) : ((leftL (linesL r.text).length r.shares p r.shares.length).any fun x => decide (x = (n : Int))) = !hasI r n := by
  rw [Bool.eq_iff_iff]
  rw [List.any_eq_true]
  simp only [decide_eq_true_eq, exists_eq_right, hasI, Bool.not_eq_true', List.any_eq_false, inB, Bool.and_eq_true]
  rw [mem_leftL _ _ _ _ _ (Nat.le_refl _)]
  constructor
  · rintro ⟨_, h⟩ s hs
    obtain ⟨j, hj, rfl⟩ := List.getElem_of_mem hs
    exact h j hj hj (hp j hj)
  · intro h
    exact ⟨by omega, fun j hj _ _ => h _ (List.getElem_mem hj)⟩
theorem ren_ids {f : Value × V → Value × V} (l : List Int) (hf : ∀ n, f (.int .i64 n, .v (.bool true)) = (.int .i64 n, .v (.bool true))) : (idsM l).map f = idsM l := by
  induction l with
  | nil => rfl
  | cons x r ih => simp only [idsM, List.map_cons] at ih ⊢; rw [hf, ih]
attribute [go_sem] ren_ids
theorem HGaps_ok (r : Ro) (hr : OKr r) : Gives Tryz.prog 24 [roE 0 r] (fun n => .tup [ints n (gapsL r), i64 (roundE r)]) := by
  refine pure_intro (ow := fun _ => false) Tryz.func24 Tryz.ntmps24 rfl (by kernel_rfl) (by simp) rfl (by decide) fun G hG hOw hNm hB => ?_; simp only [go_sem, hG, hOw]
  by_cases he : roundE r = 0
  · have hg := good_of hr he
    have hsn := hg.sn
    have hll := hg.ll
    rw [show gapsL r = numsL (fun n => !hasI r n) (linesL r.text).length by simp [gapsL, he], he]
    refine call_pureA (open_good r hr he) ?_
    simp only [go_sem, hG, hOw]
    have hU := uncovered_ok r hg (bndF 57) [.fp (dkC 0 r)] rfl (fun i => decide ((i : Int) < r.shares.length)) (fun i hi G o s Q rest hc h => call_bnd (sent_ok r i (by omega)) (Subs.refl _) rfl hc h)
    have hS : Pm.Sub (.fp (dkC G.lo r)) (.fp (dkC 0 r)) := by first | exact Subs.refl _ | (repeat' (first | exact Subs.nil | exact Sub.refl _ | exact Sub.lo (Nat.zero_le _) | refine Subs.cons ?_ ?_ | refine Subs.agg ?_ | refine Subs.fp ?_ | refine Subs.tup ?_ | refine Sub.map (Nat.zero_le _) (fun _ => ?_)))
    simp only [go_sem] at hS
    have hLL := fun n hn => left_has r n hn (fun i => decide ((i : Int) < r.shares.length)) (fun i hi => by simp; omega)
    refine call_tri [] [(0, 80)] (hU) (by (simp only [go_sem]) <;> simp [hS]) (by (simp only [go_sem, entH, entH1, nilArr, obOK]) <;> simp [hS]) (by simp [injR, apart, toR]) (by simp [coverR, usH, toR, hS]) (by simp [uniqP, lkR, toR]) (by simp [chk, hG]) ?_
    generalize leftL (linesL r.text).length r.shares (fun i => decide ((i : Int) < r.shares.length)) r.shares.length = LL at hLL
    simp only [go_sem, hG, hOw]
    refine semC_loop (fun k : Nat => St.of [(6, .mp 80), (7, .own 9 0 (numsL (fun n => !hasI r n) k).length 1), (25, i64 (linesL r.text).length), (26, i64 k)] [(80, .map (.int .i64) (idsM LL)), (9, .arr 3 1 ((numsL (fun n => !hasI r n) k).map intE))]) (fun k => k ≤ (linesL r.text).length) (fun k => (linesL r.text).length - k) 0 (by simp) (entA [(80, some 80), (9, none)] (by (simp only [go_sem]) <;> simp [numsL]) (by (simp only [go_sem, entH, entH1, nilArr, obOK]) <;> simp [numsL])) ?_
    rintro k hk
    have hle := numsL_le (fun n => !hasI r n) k
    refine vc_sound _ _ _ ?_
    simp (maxSteps := 2000000) only [go_sem, hG, hOw, lkM_ids]
    (repeat' with_reducible first | refine And.intro ?_ ?_ | intro _ | refine exP ?_ ?_); all_goals try omega
    · rename_i hlt h2
      have hkl : k < (linesL r.text).length := by omega
      rw [hLL k hkl] at h2
      have e1 := numsL_succ (fun n => !hasI r n) k
      rw [if_pos h2] at e1
      refine ⟨k + 1, by omega, by omega, ?_⟩
      rw [e1]
      exact entA [(80, some 80), (9, some 35)] (by (simp only [go_sem]) <;> simp [intE,i64]) (by (simp only [go_sem, entH, entH1, nilArr, obOK]) <;> simp [intE,i64])
    · rename_i hlt h2
      have hkl : k < (linesL r.text).length := by omega
      rw [hLL k hkl] at h2
      have e1 := numsL_succ (fun n => !hasI r n) k
      rw [if_neg (by rw [h2]; simp)] at e1
      refine ⟨k + 1, by omega, by omega, ?_⟩
      rw [e1]
      exact entA [(80, some 80), (9, some 9)]
    · rename_i hge
      rw [show k = (linesL r.text).length by omega]
      exact .refl _
  · refine call_pureA (open_bad r hr he) ?_
    simp only [go_sem, hG, hOw]
    (repeat' with_reducible first | refine And.intro ?_ ?_ | intro _ | refine exP ?_ ?_); all_goals try omega
    rw [show gapsL r = [] by simp [gapsL, he]]
    exact Subs.tup (.cons (.nil _ _) (.cons (.refl _) .nil))
end Go.Proofs.YtagfopbijboajaaGreatDoor
