import Derived.Test.YtfnohnjnncjidaaGreatDoorQS23
import Derived.Test.YtfnohnjnncjidaaGreatDoorQS27
import Derived.Test.YtfnohnjnncjidaaGreatDoorQS31
namespace Go.Proofs.YtfnohnjnncjidaaGreatDoor
open Go Pm
set_option linter.unusedSimpArgs false
set_option linter.unusedVariables false
set_option maxHeartbeats 4000000
set_option maxRecDepth 100000
def csRow (a b : List Ln) (j : Nat) : List (Int × Int) := (List.range (b.length + 1)).map fun k => (costAt a b j k 0, costAt a b j k 1)
def csCell (lo : Nat) (a b : List Ln) (m j : Nat) : V := if a.length < j + m then prs lo (csRow a b j) else .v (.slice none 0 0)
def csCells (lo : Nat) (a b : List Ln) (m : Nat) : List V := (List.range (a.length + 1)).map (csCell lo a b m)
def csPart (a b : List Ln) (j q : Nat) : List (Int × Int) := (List.range (b.length + 1)).map fun k => if b.length < k + q then (costAt a b j k 0, costAt a b j k 1) else (0, 0)
def csNow (a b : List Ln) (j k w : Nat) : Int × Int := (if 0 < w then costAt a b j k 0 else 0, if 1 < w then costAt a b j k 1 else 0)
def tabP (lo : Nat) (l : List (List (Int × Int))) : V := .lst lo 1 (l.map fun r => [prs lo r])
attribute [go_sem] tabP
theorem csCells_len (lo : Nat) (a b : List Ln) (m : Nat) : (csCells lo a b m).length = a.length + 1 := by simp [csCells]
theorem csPart_len (a b : List Ln) (j q : Nat) : (csPart a b j q).length = b.length + 1 := by simp [csPart]
theorem csPart_zero (a b : List Ln) (j : Nat) : csPart a b j 0 = List.replicate (b.length + 1) (0, 0) := by
  refine List.ext_getElem (by simp [csPart]) fun k h1 h2 => ?_
  simp only [csPart, List.length_map, List.length_range] at h1
  simp [csPart]
  omega
theorem csPart_full (a b : List Ln) (j : Nat) : csPart a b j (b.length + 1) = csRow a b j := by
  unfold csPart csRow
  refine List.map_congr_left fun k _ => ?_
  rw [if_pos (by omega)]
theorem csPart_set (a b : List Ln) (j q k : Nat) (hk : k + q = b.length) : (csPart a b j q).set k (costAt a b j k 0, costAt a b j k 1) = csPart a b j (q + 1) := by
  refine List.ext_getElem (by simp [csPart]) fun i h1 h2 => ?_
  simp only [csPart, List.length_map, List.length_range, List.length_set] at h1 h2
  simp only [List.getElem_set, csPart, List.getElem_map, List.getElem_range]
  by_cases e : k = i
  · subst e; rw [if_pos rfl, if_pos (by omega)]
  · rw [if_neg e]
    by_cases h3 : b.length < i + q
    · rw [if_pos h3, if_pos (by omega)]
    · rw [if_neg h3, if_neg (by omega)]
theorem csCells_zero (lo : Nat) (a b : List Ln) : csCells lo a b 0 = List.replicate (a.length + 1) (.v (.slice none 0 0)) := by
  refine List.ext_getElem (by simp [csCells]) fun k h1 h2 => ?_
  simp only [csCells, List.length_map, List.length_range] at h1
  simp only [csCells, List.getElem_map, List.getElem_range, List.getElem_replicate, csCell]
  rw [if_neg (by omega)]
theorem csCells_at (lo : Nat) (a b : List Ln) (m j : Nat) (h : j < a.length + 1) : (csCells lo a b m)[j]? = some (csCell lo a b m j) := by
  unfold csCells
  rw [List.getElem?_map, List.getElem?_range h]; rfl
theorem csRow_get (a b : List Ln) (j k : Nat) (h : k < (csRow a b j).length) : (csRow a b j)[k] = (costAt a b j k 0, costAt a b j k 1) := by
  simp only [csRow, List.getElem_map, List.getElem_range]
theorem csRow_len (a b : List Ln) (j : Nat) : (csRow a b j).length = b.length + 1 := by simp [csRow]
theorem csCells_all (lo : Nat) (a b : List Ln) (m : Nat) : all0 (csCells lo a b m) = true := all0_of fun x hx => by
  unfold csCells at hx
  obtain ⟨j, _, rfl⟩ := List.mem_map.1 hx
  unfold csCell
  split <;> rfl
theorem csCells_full (lo : Nat) (a b : List Ln) : ((csCells lo a b (a.length + 1)).map fun c => [c]) = ((List.range (a.length + 1)).map (csRow a b)).map fun r => [prs lo r] := by
  unfold csCells
  simp only [List.map_map]
  refine List.map_congr_left fun j _ => ?_
  simp only [Function.comp, csCell]
  rw [if_pos (by omega)]
theorem csPart_now0 (a b : List Ln) (j q k : Nat) (hk : k + q = b.length) : (csPart a b j q).set k (csNow a b j k 0) = csPart a b j q := by
  refine List.ext_getElem (by simp) fun i h1 h2 => ?_
  simp only [csPart, List.length_map, List.length_range, List.length_set] at h1 h2
  simp only [List.getElem_set, csPart, List.getElem_map, List.getElem_range]
  by_cases e : k = i
  · subst e; rw [if_pos rfl, if_neg (by omega)]; rfl
  · rw [if_neg e]
theorem csPart_now2 (a b : List Ln) (j q k : Nat) (hk : k + q = b.length) : (csPart a b j q).set k (csNow a b j k 2) = csPart a b j (q + 1) := csPart_set a b j q k hk
theorem costs_ok (a b : List Ln) (ha : a.length ≤ 1000) (hb : b.length ≤ 1000) (hal : ∀ x ∈ a, x.length ≤ 1000) (hbl : ∀ x ∈ b, x.length ≤ 1000) : Gives Tryz.prog 60 [lns 0 a, lns 0 b] (fun n => tabP n ((List.range (a.length + 1)).map (csRow a b))) := by
  obtain ⟨Tb, hTb⟩ : ∃ Tb, Tb = (List.range (a.length + 1)).map (csRow a b) := ⟨_, rfl⟩
  rw [← hTb]
  refine pure_intro (ow := fun _ => false) Tryz.func60 Tryz.ntmps60 rfl (by kernel_rfl) (by simp) rfl (by decide) fun G hG hOw hNm hB => ?_; simp only [go_sem, hG, hOw]
  (repeat' with_reducible first | refine And.intro ?_ ?_ | intro _ | refine exP ?_ ?_); all_goals try omega
  refine make_box rfl rfl rfl rfl (by rw [hG]; decide) (by simp [go_sem]) tb_sliceElem_127 tb_zeroK_67 tb_bytesK_67 (by omega) (by omega) (by omega) ?_
  have en : ((a.length : Int) + 1).toNat = a.length + 1 := by omega
  have e0 := (csCells_zero G.lo a b).symm
  have hC := fun m => csCells_all G.lo a b m
  simp (maxSteps := 2000000) only [go_sem, hG, hOw, en, e0]
  (repeat' with_reducible first | refine And.intro ?_ ?_ | intro _ | refine exP ?_ ?_); all_goals try omega
  refine semC_cut (fun _ : Unit => St.of [(5, tabP G.lo Tb)] []) (fun _ => True) ?_ ?_
  · refine semC_loop (fun m : Nat => St.of [(0, lns 0 a), (1, lns 0 b), (5, .own 13 0 (a.length + 1) 1), (6, i64 ((a.length : Int) - m))] [(13, .box (csCells G.lo a b m))]) (fun m => m ≤ a.length + 1) (fun m => a.length + 1 - m) 0 (by omega) (ent_of [(13, some 13)] (by (simp only [↓okL_self, ↓okL_own, ↓vwF_set, ↓vwF_all, ↓vwS_all, hC, go_sem]) <;> simp [hC]) (by (simp only [↓okL_self, ↓okL_own, ↓vwF_set, ↓vwF_all, ↓vwS_all, hC, go_sem, entH, entH1, nilArr, obOK]) <;> simp [hC]) (by simp [injR, apart]) (by simp [coverR, usH]) (by simp [hNm, lkR, names])) ?_
    rintro m hm
    by_cases hml : m = a.length + 1
    · have hlt : ¬ (0 : Int) ≤ (a.length : Int) - m := by omega
      have hlt' : ¬ (0 : Int) ≤ (a.length : Int) - (m : Int) := hlt
      refine SemL.semC ?_
      simp only [flat, List.cons_append, List.nil_append, List.append_assoc, List.take_succ_cons, List.take_zero, List.take_nil, List.drop_succ_cons, List.drop_zero]
      refine vcN_sound 2 _ _ ?_
      simp (maxSteps := 2000000) only [go_sem, hG, hOw, hlt]
      (repeat' with_reducible first | refine And.intro ?_ ?_ | intro _ | refine exP ?_ ?_); all_goals try omega
      rw [hml]
      have hfu := csCells_full G.lo a b
      rw [← hTb] at hfu
      have hfl := csCells_len G.lo a b (a.length + 1)
      have htk : List.take (a.length + 1) (Tb.map fun r => [prs G.lo r]) = Tb.map fun r => [prs G.lo r] := List.take_of_length_le (by rw [hTb]; simp)
      simp only [prs] at hfu htk
      exact ⟨(), ent_frz (fun i => i == 13) (ent_of [] (by (simp only [↓okL_self, ↓okL_own, ↓vwF_set, ↓vwF_all, ↓vwS_all, hC,hfu,htk, go_sem]) <;> simp [hC, hfu, htk]) (by (simp only [↓okL_self, ↓okL_own, ↓vwF_set, ↓vwF_all, ↓vwS_all, hC,hfu,htk, go_sem, entH, entH1, nilArr, obOK]) <;> simp [hC, hfu, htk]) (by simp [injR, apart]) (by simp [coverR, usH]) (by simp [hNm, lkR, names]))⟩
    · obtain ⟨i, hi⟩ : ∃ i, i + m = a.length := ⟨a.length - m, by omega⟩
      have hii : (a.length : Int) - m = i := by omega
      have hlt : (0 : Int) ≤ i := by omega
      rw [hii]
      have hCl := csCells_len G.lo a b m
      obtain ⟨C, hCe⟩ : ∃ C, C = csCells G.lo a b m := ⟨_, rfl⟩
      have hCa : all0 C = true := by rw [hCe]; exact hC m
      rw [← hCe] at hCl ⊢
      have hil : i < C.length := by omega
      have hown : ∀ x, (C.set i x)[i]? = some x := fun x => by rw [List.getElem?_set, if_pos rfl, if_pos hil]
      have hnext : ∀ x, i < a.length → (C.set i x)[i + 1]? = some (prs G.lo (csRow a b (i + 1))) := fun x h => by
        rw [List.getElem?_set_ne (by omega), hCe, csCells_at _ _ _ _ _ (by omega)]
        unfold csCell
        rw [if_pos (by omega)]
      refine SemL.semC ?_
      simp only [flat, List.cons_append, List.nil_append, List.append_assoc, List.take_succ_cons, List.take_zero, List.take_nil, List.drop_succ_cons, List.drop_zero]
      refine vcN_sound 2 _ _ ?_
      simp (maxSteps := 2000000) only [go_sem, hG, hOw, hlt]
      (repeat' with_reducible first | refine And.intro ?_ ?_ | intro _ | refine exP ?_ ?_); all_goals try omega
      refine semL_blk ?_
      simp only [flat, List.cons_append, List.nil_append, List.append_assoc, List.take_succ_cons, List.take_zero, List.take_nil, List.drop_succ_cons, List.drop_zero]
      refine vcN_sound 2 _ _ ?_
      simp only [go_sem, hG, hOw]
      (repeat' with_reducible first | refine And.intro ?_ ?_ | intro _ | refine exP ?_ ?_); all_goals try omega
      refine make_step rfl rfl rfl rfl (by rw [hG]; decide) (by simp [go_sem]) tb_sliceElem_67 tb_zeroK_73 rfl tb_bytesK_73 (by decide) (by omega) (by omega) (by omega) ?_
      have enb : ((b.length : Int) + 1).toNat = b.length + 1 := by omega
      have er : List.replicate (b.length + 1) [V.v (Value.int IntKind.i64 0), V.v (Value.int IntKind.i64 0)] = (csPart a b i 0).map prE := by rw [csPart_zero, List.map_replicate]; rfl
      simp (maxSteps := 2000000) only [go_sem, hG, hOw, enb, er]
      (repeat' with_reducible first | refine And.intro ?_ ?_ | intro _ | refine exP ?_ ?_); all_goals try omega
      refine semL_blk ?_
      simp only [flat, List.cons_append, List.nil_append, List.append_assoc, List.take_succ_cons, List.take_zero, List.take_nil, List.drop_succ_cons, List.drop_zero]
      refine semL_one ?_
      refine semC_cutN (fun _ : Unit => St.of [(0, lns 0 a), (1, lns 0 b), (5, .own 13 0 (a.length + 1) 1), (6, i64 i)] [(13, .box (csCells G.lo a b (m + 1)))]) (fun _ => True) ?_ ?_
      · refine semC_loop (fun q : Nat => St.of [(0, lns 0 a), (1, lns 0 b), (5, .own 13 0 (a.length + 1) 1), (6, i64 i), (7, i64 ((b.length : Int) - q))] [(13, .box (C.set i (.own 25 0 (b.length + 1) 2))), (25, .arr 73 2 ((csPart a b i q).map prE))]) (fun q => q ≤ b.length + 1) (fun q => b.length + 1 - q) 0 (by omega) (ent_of [(13, some 13), (25, some 25)] (by (simp only [↓okL_self, ↓okL_own, ↓vwF_set, ↓vwF_all, ↓vwS_all, hCa, go_sem]) <;> simp [hCa]) (by (simp only [↓okL_self, ↓okL_own, ↓vwF_set, ↓vwF_all, ↓vwS_all, hCa, go_sem, entH, entH1, nilArr, obOK]) <;> simp [hCa]) (by simp [injR, apart]) (by simp [coverR, usH]) (by simp [hNm, lkR, names])) ?_
        rintro q hq
        by_cases hql : q = b.length + 1
        · have hlt2 : ¬ (0 : Int) ≤ (b.length : Int) - q := by omega
          have hfz : C.set i (prs G.lo (csRow a b i)) = csCells G.lo a b (m + 1) := by
            refine List.ext_getElem (by simp [hCl, csCells_len]) fun j h1 h2 => ?_
            rw [List.getElem_set]
            simp only [csCells_len] at h2
            have h3 : C[j]? = some (csCell G.lo a b m j) := by rw [hCe]; exact csCells_at _ _ _ _ _ h2
            have h4 := csCells_at G.lo a b (m + 1) j h2
            have h5 : (csCells G.lo a b (m + 1))[j] = csCell G.lo a b (m + 1) j := by
              rw [List.getElem?_eq_getElem (by rw [csCells_len]; exact h2)] at h4
              exact Option.some.inj h4
            rw [h5]
            split
            · rename_i e
              subst e
              unfold csCell
              rw [if_pos (by omega)]
            · rename_i e
              rw [List.getElem?_eq_getElem (by omega)] at h3
              rw [Option.some.inj h3]
              unfold csCell
              by_cases h6 : a.length < j + m
              · rw [if_pos h6, if_pos (by omega)]
              · rw [if_neg h6, if_neg (by omega)]
          simp only [prs] at hfz
          have hpf := csPart_full a b i
          have htkb : List.take (b.length + 1) (List.map prE (csRow a b i)) = List.map prE (csRow a b i) := List.take_of_length_le (by simp [csRow])
          refine SemL.semC ?_
          simp only [flat, List.cons_append, List.nil_append, List.append_assoc, List.take_succ_cons, List.take_zero, List.take_nil, List.drop_succ_cons, List.drop_zero]
          refine vcN_sound 2 _ _ ?_
          simp (maxSteps := 2000000) only [go_sem, hG, hOw, hlt2]
          (repeat' with_reducible first | refine And.intro ?_ ?_ | intro _ | refine exP ?_ ?_); all_goals try omega
          rw [hql, hpf]
          refine ⟨(), ent_frz (fun i => i == 25) (ent_of [(13, some 13)] ?_ (entH_frz1 rfl rfl (cs := C.set i (.own 25 0 (b.length + 1) 2)) ?_ ?_ (hC _)) (by simp [injR, apart]) (by simp [coverR, usH]) (by simp [hNm, lkR, names]))⟩
          · simp only [go_sem] <;> simp
          · simp only [go_sem]
          · rw [vwF_set hCa, vwF_own (t := 73) (l := (csRow a b i).map prE) rfl (by simp only [go_sem]) rfl, List.drop_zero, htkb]
            exact hfz
        · obtain ⟨k, hk⟩ : ∃ k, k + q = b.length := ⟨b.length - q, by omega⟩
          have hkk : (b.length : Int) - q = k := by omega
          have hlt2 : (0 : Int) ≤ k := by omega
          have hn0 := csPart_now0 a b i q k hk
          have hn2 := csPart_now2 a b i q k hk
          rw [hkk]
          refine SemL.semC ?_
          simp only [flat, List.cons_append, List.nil_append, List.append_assoc, List.take_succ_cons, List.take_zero, List.take_nil, List.drop_succ_cons, List.drop_zero]
          refine vcN_sound 2 _ _ ?_
          simp (maxSteps := 2000000) only [go_sem, hG, hOw, hlt2]
          (repeat' with_reducible first | refine And.intro ?_ ?_ | intro _ | refine exP ?_ ?_); all_goals try omega
          refine semL_blk ?_
          simp only [flat, List.cons_append, List.nil_append, List.append_assoc, List.take_succ_cons, List.take_zero, List.take_nil, List.drop_succ_cons, List.drop_zero]
          refine vcN_sound 1 _ _ ?_
          simp only [go_sem, hG, hOw]
          (repeat' with_reducible first | refine And.intro ?_ ?_ | intro _ | refine exP ?_ ?_); all_goals try omega
          refine semL_blk ?_
          simp only [flat, List.cons_append, List.nil_append, List.append_assoc, List.take_succ_cons, List.take_zero, List.take_nil, List.drop_succ_cons, List.drop_zero]
          refine semL_one ?_
          refine semC_cutN (fun _ : Unit => St.of [(0, lns 0 a), (1, lns 0 b), (5, .own 13 0 (a.length + 1) 1), (6, i64 i), (7, i64 k)] [(13, .box (C.set i (.own 25 0 (b.length + 1) 2))), (25, .arr 73 2 ((csPart a b i (q + 1)).map prE))]) (fun _ => True) ?_ ?_
          · refine semC_loop (fun w : Nat => St.of [(0, lns 0 a), (1, lns 0 b), (5, .own 13 0 (a.length + 1) 1), (6, i64 i), (7, i64 k), (8, i64 w)] [(13, .box (C.set i (.own 25 0 (b.length + 1) 2))), (25, .arr 73 2 (((csPart a b i q).set k (csNow a b i k w)).map prE))]) (fun w => w ≤ 2) (fun w => 2 - w) 0 (by omega) ?_ ?_
            · rw [hn0]
              exact ent_of [(13, some 13), (25, some 25)] (by (simp only [↓okL_self, ↓okL_own, ↓vwF_set, ↓vwF_all, ↓vwS_all, hCa, go_sem]) <;> simp [hCa]) (by (simp only [↓okL_self, ↓okL_own, ↓vwF_set, ↓vwF_all, ↓vwS_all, hCa, go_sem, entH, entH1, nilArr, obOK]) <;> simp [hCa]) (by simp [injR, apart]) (by simp [coverR, usH]) (by simp [hNm, lkR, names])
            rintro w hw
            by_cases hw2 : w = 2
            · have hw3 : ¬ (w : Int) < 2 := by omega
              refine SemL.semC ?_
              simp only [flat, List.cons_append, List.nil_append, List.append_assoc, List.take_succ_cons, List.take_zero, List.take_nil, List.drop_succ_cons, List.drop_zero]
              refine vcN_sound 2 _ _ ?_
              simp (maxSteps := 2000000) only [go_sem, hG, hOw, hw3]
              (repeat' with_reducible first | refine And.intro ?_ ?_ | intro _ | refine exP ?_ ?_); all_goals try omega
              rw [hw2, hn2]
              exact ⟨(), ent_of [(13, some 13), (25, some 25)] (by (simp only [↓okL_self, ↓okL_own, ↓vwF_set, ↓vwF_all, ↓vwS_all, hCa, go_sem]) <;> simp [hCa]) (by (simp only [↓okL_self, ↓okL_own, ↓vwF_set, ↓vwF_all, ↓vwS_all, hCa, go_sem, entH, entH1, nilArr, obOK]) <;> simp [hCa]) (by simp [injR, apart]) (by simp [coverR, usH]) (by simp [hNm, lkR, names])⟩
            · have hw3 : (w : Int) < 2 := by omega
              refine SemL.semC ?_
              simp only [flat, List.cons_append, List.nil_append, List.append_assoc, List.take_succ_cons, List.take_zero, List.take_nil, List.drop_succ_cons, List.drop_zero]
              refine vcN_sound 2 _ _ ?_
              simp (maxSteps := 2000000) only [go_sem, hG, hOw, hw3]
              (repeat' with_reducible first | refine And.intro ?_ ?_ | intro _ | refine exP ?_ ?_); all_goals try omega
              refine semL_blk ?_
              simp only [flat, List.cons_append, List.nil_append, List.append_assoc, List.take_succ_cons, List.take_zero, List.take_nil, List.drop_succ_cons, List.drop_zero]
              refine vcN_sound 1 _ _ ?_
              simp only [go_sem, hG, hOw]
              refine semL_midN 2 (fun _ : Unit => St.of [(0, lns 0 a), (1, lns 0 b), (5, .own 13 0 (a.length + 1) 1), (6, i64 i), (7, i64 k), (8, i64 w), (9, i64 (cs0 a b i k))] [(13, .box (C.set i (.own 25 0 (b.length + 1) 2))), (25, .arr 73 2 (((csPart a b i q).set k (csNow a b i k w)).map prE))]) (fun _ => True) ?_ ?_
              · simp only [flat, List.cons_append, List.nil_append, List.append_assoc, List.take_succ_cons, List.take_zero, List.take_nil, List.drop_succ_cons, List.drop_zero]
                refine vcN_sound 3 _ _ ?_
                by_cases hia : i = a.length
                · have hiT : ((i : Int) = (a.length : Int)) = True := eq_true (by omega)
                  by_cases hkb : k = b.length
                  · have hkT : ((k : Int) = (b.length : Int)) = True := eq_true (by omega)
                    have z : cs0 a b i k = 0 := if_pos ⟨hia, hkb⟩
                    simp (maxSteps := 2000000) only [go_sem, hG, hOw, hiT, hkT, decide_true]
                    (repeat' with_reducible first | refine And.intro ?_ ?_ | intro _ | refine exP ?_ ?_); all_goals try omega
                    exact ⟨(), ent_of [(13, some 13), (25, some 25)] (by (simp only [↓okL_self, ↓okL_own, ↓vwF_set, ↓vwF_all, ↓vwS_all, hCa,z, go_sem]) <;> simp [hCa, z]) (by (simp only [↓okL_self, ↓okL_own, ↓vwF_set, ↓vwF_all, ↓vwS_all, hCa,z, go_sem, entH, entH1, nilArr, obOK]) <;> simp [hCa, z]) (by simp [injR, apart]) (by simp [coverR, usH]) (by simp [hNm, lkR, names])⟩
                  · have hkT : ((k : Int) = (b.length : Int)) = False := eq_false (by omega)
                    have z : cs0 a b i k = never := if_neg (by omega)
                    simp (maxSteps := 2000000) only [go_sem, hG, hOw, hiT, hkT, decide_true, decide_false]
                    (repeat' with_reducible first | refine And.intro ?_ ?_ | intro _ | refine exP ?_ ?_); all_goals try omega
                    exact ⟨(), ent_of [(13, some 13), (25, some 25)] (by (simp only [↓okL_self, ↓okL_own, ↓vwF_set, ↓vwF_all, ↓vwS_all, hCa,z,never, go_sem]) <;> simp [hCa, z, never]) (by (simp only [↓okL_self, ↓okL_own, ↓vwF_set, ↓vwF_all, ↓vwS_all, hCa,z,never, go_sem, entH, entH1, nilArr, obOK]) <;> simp [hCa, z, never]) (by simp [injR, apart]) (by simp [coverR, usH]) (by simp [hNm, lkR, names])⟩
                · have hiT : ((i : Int) = (a.length : Int)) = False := eq_false (by omega)
                  have z : cs0 a b i k = never := if_neg (by omega)
                  simp (maxSteps := 2000000) only [go_sem, hG, hOw, hiT, decide_false]
                  (repeat' with_reducible first | refine And.intro ?_ ?_ | intro _ | refine exP ?_ ?_); all_goals try omega
                  exact ⟨(), ent_of [(13, some 13), (25, some 25)] (by (simp only [↓okL_self, ↓okL_own, ↓vwF_set, ↓vwF_all, ↓vwS_all, hCa,z,never, go_sem]) <;> simp [hCa, z, never]) (by (simp only [↓okL_self, ↓okL_own, ↓vwF_set, ↓vwF_all, ↓vwS_all, hCa,z,never, go_sem, entH, entH1, nilArr, obOK]) <;> simp [hCa, z, never]) (by simp [injR, apart]) (by simp [coverR, usH]) (by simp [hNm, lkR, names])⟩
              rintro ⟨⟩ -
              refine semL_midN 2 (fun _ : Unit => St.of [(0, lns 0 a), (1, lns 0 b), (5, .own 13 0 (a.length + 1) 1), (6, i64 i), (7, i64 k), (8, i64 w), (9, i64 (cs1 a b i k w))] [(13, .box (C.set i (.own 25 0 (b.length + 1) 2))), (25, .arr 73 2 (((csPart a b i q).set k (csNow a b i k w)).map prE))]) (fun _ => True) ?_ ?_
              · simp only [flat, List.cons_append, List.nil_append, List.append_assoc, List.take_succ_cons, List.take_zero, List.take_nil, List.drop_succ_cons, List.drop_zero]
                by_cases h1 : w = 1 ∧ 0 < i ∧ k < b.length
                · obtain ⟨g1, g2, g3⟩ := h1
                  have gT1 : ((w : Int) = 1) = True := eq_true (by omega)
                  have gT2 : ((0 : Int) < (i : Int)) = True := eq_true (by omega)
                  have gT3 : ((k : Int) < (b.length : Int)) = True := eq_true (by omega)
                  have ei : ((i : Int) - 1).toNat = i - 1 := by omega
                  have hi1 : i - 1 < a.length := by omega
                  have ga := List.getElem?_eq_getElem hi1
                  have gb := List.getElem?_eq_getElem g3
                  refine vcN_sound 3 _ _ ?_
                  simp only [go_sem, hG, hOw]
                  refine semC_draw0 mixed (by kernel_rfl) ?_
                  simp (maxSteps := 2000000) only [go_sem, hG, hOw, gT1, gT2, gT3, ei, decide_true, decide_false]
                  refine ⟨by omega, by omega, g3, _, callGivesA (SameWords_ok a[i - 1] b[k]), ?_⟩
                  have hown' := hown (.own 25 0 (b.length + 1) 2)
                  have hsl : (C.set i (.own 25 0 (b.length + 1) 2)).length = a.length + 1 := by rw [List.length_set, hCl]
                  have hpl2 : ∀ x, ((csPart a b i q).set k x).length = b.length + 1 := fun x => by rw [List.length_set, csPart_len]
                  have ek1 : ((k : Int) + 1).toNat = k + 1 := by omega
                  have hgp : ∀ h, ((csPart a b i q).set k (csNow a b i k w))[k + 1]'h = (costAt a b i (k + 1) 0, costAt a b i (k + 1) 1) := fun h => by
                    rw [List.getElem_set_ne (by omega)]
                    simp only [csPart, List.getElem_map, List.getElem_range]
                    rw [if_pos (by omega)]
                  have bd := costAt_bd a b i (k + 1) 1
                  have hnv : never = 1073741824 := rfl
                  have e11 : Int.toNat 1 = 1 := rfl
                  by_cases heq : a[i - 1] = b[k]
                  · have z : cs1 a b i k w = min (cs0 a b i k) (1 + costAt a b i (k + 1) 1) := if_pos ⟨g1, g2, g3, by rw [ga, gb, heq]⟩
                    have hmin : (if 1 + costAt a b i (k + 1) 1 < cs0 a b i k then 1 + costAt a b i (k + 1) 1 else cs0 a b i k) = cs1 a b i k w := by
                      rw [z]
                      split <;> omega
                    simp (maxSteps := 2000000) only [go_sem, hG, hOw, heq, hsl, hown', hpl2, ek1, decide_true, decide_false, Option.getD_some, Nat.mul_one, Nat.add_zero]
                    (repeat' with_reducible first | refine And.intro ?_ ?_ | intro _ | refine exP ?_ ?_); all_goals try omega
                    refine ixa_eptr rfl rfl rfl rfl (by rw [hG]; decide) tb_arrElem_73 (by omega) (by omega) ?_
                    simp (maxSteps := 2000000) only [go_sem, hG, hOw, hsl, hown', hpl2, ek1, e11, hgp, hmin, List.getElem?_cons_succ, List.getElem?_cons_zero, Nat.mul_one, Nat.zero_add, Nat.add_zero]
                    (repeat' with_reducible first | refine And.intro ?_ ?_ | intro _ | refine exP ?_ ?_); all_goals try omega
                    exact ⟨(), ent_of [(13, some 13), (25, some 25)] (by (simp only [↓okL_self, ↓okL_own, ↓vwF_set, ↓vwF_all, ↓vwS_all, hCa, go_sem]) <;> simp [hCa]) (by (simp only [↓okL_self, ↓okL_own, ↓vwF_set, ↓vwF_all, ↓vwS_all, hCa, go_sem, entH, entH1, nilArr, obOK]) <;> simp [hCa]) (by simp [injR, apart]) (by simp [coverR, usH]) (by simp [hNm, lkR, names])⟩
                  · have z : cs1 a b i k w = cs0 a b i k := if_neg fun h => heq (by have h2 := h.2.2.2; rw [ga, gb] at h2; exact Option.some.inj h2)
                    simp (maxSteps := 2000000) only [go_sem, hG, hOw, heq, decide_true, decide_false]
                    (repeat' with_reducible first | refine And.intro ?_ ?_ | intro _ | refine exP ?_ ?_); all_goals try omega
                    exact ⟨(), ent_of [(13, some 13), (25, some 25)] (by (simp only [↓okL_self, ↓okL_own, ↓vwF_set, ↓vwF_all, ↓vwS_all, hCa,z, go_sem]) <;> simp [hCa, z]) (by (simp only [↓okL_self, ↓okL_own, ↓vwF_set, ↓vwF_all, ↓vwS_all, hCa,z, go_sem, entH, entH1, nilArr, obOK]) <;> simp [hCa, z]) (by simp [injR, apart]) (by simp [coverR, usH]) (by simp [hNm, lkR, names])⟩
                · have z : cs1 a b i k w = cs0 a b i k := if_neg fun h => h1 ⟨h.1, h.2.1, h.2.2.1⟩
                  refine vcN_sound 3 _ _ ?_
                  simp only [go_sem, hG, hOw]
                  refine semC_draw0 mixed (by kernel_rfl) ?_
                  by_cases g1 : w = 1
                  · have gT1 : ((w : Int) = 1) = True := eq_true (by omega)
                    by_cases g2 : 0 < i
                    · have gT2 : ((0 : Int) < (i : Int)) = True := eq_true (by omega)
                      have gT3 : ((k : Int) < (b.length : Int)) = False := eq_false (by omega)
                      simp (maxSteps := 2000000) only [go_sem, hG, hOw, gT1, gT2, gT3, decide_true, decide_false]
                      exact ⟨(), ent_of [(13, some 13), (25, some 25)] (by (simp only [↓okL_self, ↓okL_own, ↓vwF_set, ↓vwF_all, ↓vwS_all, hCa,z, go_sem]) <;> simp [hCa, z]) (by (simp only [↓okL_self, ↓okL_own, ↓vwF_set, ↓vwF_all, ↓vwS_all, hCa,z, go_sem, entH, entH1, nilArr, obOK]) <;> simp [hCa, z]) (by simp [injR, apart]) (by simp [coverR, usH]) (by simp [hNm, lkR, names])⟩
                    · have gT2 : ((0 : Int) < (i : Int)) = False := eq_false (by omega)
                      simp (maxSteps := 2000000) only [go_sem, hG, hOw, gT1, gT2, decide_true, decide_false]
                      exact ⟨(), ent_of [(13, some 13), (25, some 25)] (by (simp only [↓okL_self, ↓okL_own, ↓vwF_set, ↓vwF_all, ↓vwS_all, hCa,z, go_sem]) <;> simp [hCa, z]) (by (simp only [↓okL_self, ↓okL_own, ↓vwF_set, ↓vwF_all, ↓vwS_all, hCa,z, go_sem, entH, entH1, nilArr, obOK]) <;> simp [hCa, z]) (by simp [injR, apart]) (by simp [coverR, usH]) (by simp [hNm, lkR, names])⟩
                  · have gT1 : ((w : Int) = 1) = False := eq_false (by omega)
                    simp (maxSteps := 2000000) only [go_sem, hG, hOw, gT1, decide_false]
                    exact ⟨(), ent_of [(13, some 13), (25, some 25)] (by (simp only [↓okL_self, ↓okL_own, ↓vwF_set, ↓vwF_all, ↓vwS_all, hCa,z, go_sem]) <;> simp [hCa, z]) (by (simp only [↓okL_self, ↓okL_own, ↓vwF_set, ↓vwF_all, ↓vwS_all, hCa,z, go_sem, entH, entH1, nilArr, obOK]) <;> simp [hCa, z]) (by simp [injR, apart]) (by simp [coverR, usH]) (by simp [hNm, lkR, names])⟩
              rintro ⟨⟩ -
              refine semL_midN 2 (fun _ : Unit => St.of [(0, lns 0 a), (1, lns 0 b), (5, .own 13 0 (a.length + 1) 1), (6, i64 i), (7, i64 k), (8, i64 w), (9, i64 (cs2 a b i k w))] [(13, .box (C.set i (.own 25 0 (b.length + 1) 2))), (25, .arr 73 2 (((csPart a b i q).set k (csNow a b i k w)).map prE))]) (fun _ => True) ?_ ?_
              · simp only [flat, List.cons_append, List.nil_append, List.append_assoc, List.take_succ_cons, List.take_zero, List.take_nil, List.drop_succ_cons, List.drop_zero]
                refine vcN_sound 3 _ _ ?_
                by_cases hia : i < a.length
                · have hiT : ((i : Int) < (a.length : Int)) = True := eq_true (by omega)
                  by_cases hkb : k < b.length
                  · have hkT : ((k : Int) < (b.length : Int)) = True := eq_true (by omega)
                    have ga := List.getElem?_eq_getElem hia
                    have gb := List.getElem?_eq_getElem hkb
                    have hnx := hnext (.own 25 0 (b.length + 1) 2) hia
                    simp only [prs] at hnx
                    have hget := csRow_get a b
                    have hrl := csRow_len a b
                    have z : cs2 a b i k w = min (cs1 a b i k w) (few a[i] b[k] + costAt a b (i + 1) (k + 1) 1) := by unfold cs2; rw [ga, gb]
                    have ei1 : ((i : Int) + 1).toNat = i + 1 := by omega
                    have ek1 : ((k : Int) + 1).toNat = k + 1 := by omega
                    have bd := costAt_bd a b (i + 1) (k + 1) 1
                    have hnv : never = 1073741824 := rfl
                    have hla := hal a[i] (List.getElem_mem hia)
                    have hlb := hbl b[k] (List.getElem_mem hkb)
                    have bf := few_bd a[i] b[k]
                    have hsl : (C.set i (.own 25 0 (b.length + 1) 2)).length = a.length + 1 := by rw [List.length_set, hCl]
                    have hmin : (if few a[i] b[k] + costAt a b (i + 1) (k + 1) 1 < cs1 a b i k w then few a[i] b[k] + costAt a b (i + 1) (k + 1) 1 else cs1 a b i k w) = cs2 a b i k w := by
                      rw [z]
                      split <;> omega
                    simp (maxSteps := 2000000) only [go_sem, hG, hOw, hiT, hkT, decide_true]
                    (repeat' with_reducible first | refine And.intro ?_ ?_ | intro _ | refine exP ?_ ?_); all_goals try omega
                    refine semC_draw0 mixed (by kernel_rfl) ?_
                    simp only [go_sem, hG, hOw]
                    refine ⟨hia, hkb, _, callGivesA (distance_ok a[i] b[k] hla hlb), ?_⟩
                    have e11 : Int.toNat 1 = 1 := rfl
                    simp (maxSteps := 2000000) only [go_sem, hG, hOw, ei1, ek1, hnx, hget, hrl, hsl, hmin, e11, List.drop_succ_cons, List.drop_zero, Option.getD_some, Nat.mul_one, Nat.add_zero]
                    (repeat' with_reducible first | refine And.intro ?_ ?_ | intro _ | refine exP ?_ ?_); all_goals try omega
                    exact ⟨(), ent_of [(13, some 13), (25, some 25)] (by (simp only [↓okL_self, ↓okL_own, ↓vwF_set, ↓vwF_all, ↓vwS_all, hCa, go_sem]) <;> simp [hCa]) (by (simp only [↓okL_self, ↓okL_own, ↓vwF_set, ↓vwF_all, ↓vwS_all, hCa, go_sem, entH, entH1, nilArr, obOK]) <;> simp [hCa]) (by simp [injR, apart]) (by simp [coverR, usH]) (by simp [hNm, lkR, names])⟩
                  · have hkT : ((k : Int) < (b.length : Int)) = False := eq_false (by omega)
                    have gb : b[k]? = none := List.getElem?_eq_none (by omega)
                    have z : cs2 a b i k w = cs1 a b i k w := by unfold cs2; rw [gb]; cases a[i]? <;> rfl
                    simp (maxSteps := 2000000) only [go_sem, hG, hOw, hiT, hkT, decide_true, decide_false]
                    (repeat' with_reducible first | refine And.intro ?_ ?_ | intro _ | refine exP ?_ ?_); all_goals try omega
                    exact ⟨(), ent_of [(13, some 13), (25, some 25)] (by (simp only [↓okL_self, ↓okL_own, ↓vwF_set, ↓vwF_all, ↓vwS_all, hCa,z, go_sem]) <;> simp [hCa, z]) (by (simp only [↓okL_self, ↓okL_own, ↓vwF_set, ↓vwF_all, ↓vwS_all, hCa,z, go_sem, entH, entH1, nilArr, obOK]) <;> simp [hCa, z]) (by simp [injR, apart]) (by simp [coverR, usH]) (by simp [hNm, lkR, names])⟩
                · have hiT : ((i : Int) < (a.length : Int)) = False := eq_false (by omega)
                  have ga : a[i]? = none := List.getElem?_eq_none (by omega)
                  have z : cs2 a b i k w = cs1 a b i k w := by unfold cs2; rw [ga]
                  simp (maxSteps := 2000000) only [go_sem, hG, hOw, hiT, decide_false]
                  (repeat' with_reducible first | refine And.intro ?_ ?_ | intro _ | refine exP ?_ ?_); all_goals try omega
                  exact ⟨(), ent_of [(13, some 13), (25, some 25)] (by (simp only [↓okL_self, ↓okL_own, ↓vwF_set, ↓vwF_all, ↓vwS_all, hCa,z, go_sem]) <;> simp [hCa, z]) (by (simp only [↓okL_self, ↓okL_own, ↓vwF_set, ↓vwF_all, ↓vwS_all, hCa,z, go_sem, entH, entH1, nilArr, obOK]) <;> simp [hCa, z]) (by simp [injR, apart]) (by simp [coverR, usH]) (by simp [hNm, lkR, names])⟩
              rintro ⟨⟩ -
              refine semL_midN 2 (fun _ : Unit => St.of [(0, lns 0 a), (1, lns 0 b), (5, .own 13 0 (a.length + 1) 1), (6, i64 i), (7, i64 k), (8, i64 w), (9, i64 (cs3 a b i k w))] [(13, .box (C.set i (.own 25 0 (b.length + 1) 2))), (25, .arr 73 2 (((csPart a b i q).set k (csNow a b i k w)).map prE))]) (fun _ => True) ?_ ?_
              · simp only [flat, List.cons_append, List.nil_append, List.append_assoc, List.take_succ_cons, List.take_zero, List.take_nil, List.drop_succ_cons, List.drop_zero]
                refine vcN_sound 3 _ _ ?_
                by_cases hia : i < a.length
                · have hiT : ((i : Int) < (a.length : Int)) = True := eq_true (by omega)
                  have hnx := hnext (.own 25 0 (b.length + 1) 2) hia
                  simp only [prs] at hnx
                  have hget := csRow_get a b
                  have hrl := csRow_len a b
                  have z : cs3 a b i k w = min (cs2 a b i k w) (1 + costAt a b (i + 1) k 0) := if_pos hia
                  have ei1 : ((i : Int) + 1).toNat = i + 1 := by omega
                  have bd := costAt_bd a b (i + 1) k 0
                  have hnv : never = 1073741824 := rfl
                  have hsl : (C.set i (.own 25 0 (b.length + 1) 2)).length = a.length + 1 := by rw [List.length_set, hCl]
                  have hmin : (if 1 + costAt a b (i + 1) k 0 < cs2 a b i k w then 1 + costAt a b (i + 1) k 0 else cs2 a b i k w) = cs3 a b i k w := by
                    rw [z]
                    split <;> omega
                  simp (maxSteps := 2000000) only [go_sem, hG, hOw, hiT, decide_true, ei1, hnx, hget, hrl, hsl, hmin, Option.getD_some, Nat.mul_one, Nat.add_zero]
                  (repeat' with_reducible first | refine And.intro ?_ ?_ | intro _ | refine exP ?_ ?_); all_goals try omega
                  exact ⟨(), ent_of [(13, some 13), (25, some 25)] (by (simp only [↓okL_self, ↓okL_own, ↓vwF_set, ↓vwF_all, ↓vwS_all, hCa, go_sem]) <;> simp [hCa]) (by (simp only [↓okL_self, ↓okL_own, ↓vwF_set, ↓vwF_all, ↓vwS_all, hCa, go_sem, entH, entH1, nilArr, obOK]) <;> simp [hCa]) (by simp [injR, apart]) (by simp [coverR, usH]) (by simp [hNm, lkR, names])⟩
                · have hiT : ((i : Int) < (a.length : Int)) = False := eq_false (by omega)
                  have z : cs3 a b i k w = cs2 a b i k w := if_neg hia
                  simp (maxSteps := 2000000) only [go_sem, hG, hOw, hiT, decide_false]
                  (repeat' with_reducible first | refine And.intro ?_ ?_ | intro _ | refine exP ?_ ?_); all_goals try omega
                  exact ⟨(), ent_of [(13, some 13), (25, some 25)] (by (simp only [↓okL_self, ↓okL_own, ↓vwF_set, ↓vwF_all, ↓vwS_all, hCa,z, go_sem]) <;> simp [hCa, z]) (by (simp only [↓okL_self, ↓okL_own, ↓vwF_set, ↓vwF_all, ↓vwS_all, hCa,z, go_sem, entH, entH1, nilArr, obOK]) <;> simp [hCa, z]) (by simp [injR, apart]) (by simp [coverR, usH]) (by simp [hNm, lkR, names])⟩
              rintro ⟨⟩ -
              simp only [flat, List.cons_append, List.nil_append, List.append_assoc, List.take_succ_cons, List.take_zero, List.take_nil, List.drop_succ_cons, List.drop_zero]
              have hown' := hown (.own 25 0 (b.length + 1) 2)
              have hsl : (C.set i (.own 25 0 (b.length + 1) 2)).length = a.length + 1 := by rw [List.length_set, hCl]
              have hpl := csPart_len a b i q
              have hwa : (w : Int) < ((2 : Nat) : Int) := by omega
              refine vcN_sound 1 _ _ ?_
              simp (maxSteps := 2000000) only [go_sem, hG, hOw, hsl, hown', hpl, Option.getD_some, Nat.mul_one, Nat.add_zero]
              (repeat' with_reducible first | refine And.intro ?_ ?_ | intro _ | refine exP ?_ ?_); all_goals try omega
              refine ixa_eptr rfl rfl rfl rfl (by rw [hG]; decide) tb_arrElem_73 (by omega) (by omega) ?_
              have hat : ∀ h, ((csPart a b i q).set k (csNow a b i k w))[k]'h = csNow a b i k w := fun h => by simp
              have hfin : (List.map prE ((csPart a b i q).set k (csNow a b i k w))).set k ([V.v (Value.int IntKind.i64 (csNow a b i k w).fst), V.v (Value.int IntKind.i64 (csNow a b i k w).snd)].set w (V.v (Value.int IntKind.i64 (cs3 a b i k w)))) = List.map prE ((csPart a b i q).set k (csNow a b i k (w + 1))) := by
                rw [← costAt_eq a b i k w (by omega) (by omega) (by omega)]
                have hx : ([V.v (Value.int IntKind.i64 (csNow a b i k w).fst), V.v (Value.int IntKind.i64 (csNow a b i k w).snd)].set w (V.v (Value.int IntKind.i64 (costAt a b i k w)))) = prE (csNow a b i k (w + 1)) := by
                  have hw01 : w = 0 ∨ w = 1 := by omega
                  rcases hw01 with rfl | rfl <;> rfl
                rw [hx, List.map_set, List.map_set, List.set_set]
              have hpl2 : ∀ x, ((csPart a b i q).set k x).length = b.length + 1 := fun x => by rw [List.length_set, hpl]
              simp (maxSteps := 2000000) only [go_sem, hG, hOw, hsl, hown', hpl, hpl2, hat, hfin]
              (repeat' with_reducible first | refine And.intro ?_ ?_ | intro _ | refine exP ?_ ?_); all_goals try omega
              refine vcN_sound 1 _ _ ?_
              simp only [go_sem, hG, hOw]
              refine vcN_sound 2 _ _ ?_
              simp only [go_sem, hG, hOw]
              (repeat' with_reducible first | refine And.intro ?_ ?_ | intro _ | refine exP ?_ ?_); all_goals try omega
              have e8 : (w : Int) + 1 = ((w + 1 : Nat) : Int) := by omega
              refine ⟨w + 1, by omega, by omega, ?_⟩
              rw [← e8]
              exact ent_of [(13, some 13), (25, some 25)] (by (simp only [↓okL_self, ↓okL_own, ↓vwF_set, ↓vwF_all, ↓vwS_all, hCa, go_sem]) <;> simp [hCa]) (by (simp only [↓okL_self, ↓okL_own, ↓vwF_set, ↓vwF_all, ↓vwS_all, hCa, go_sem, entH, entH1, nilArr, obOK]) <;> simp [hCa]) (by simp [injR, apart]) (by simp [coverR, usH]) (by simp [hNm, lkR, names])
          rintro ⟨⟩ -
          refine vcN_sound 1 _ _ ?_
          simp only [go_sem, hG, hOw]
          refine vcN_sound 2 _ _ ?_
          simp only [go_sem, hG, hOw]
          (repeat' with_reducible first | refine And.intro ?_ ?_ | intro _ | refine exP ?_ ?_); all_goals try omega
          have e9 : (k : Int) - 1 = (b.length : Int) - ((q + 1 : Nat) : Int) := by omega
          refine ⟨q + 1, by omega, by omega, ?_⟩
          rw [← e9]
          exact ent_of [(13, some 13), (25, some 25)] (by (simp only [↓okL_self, ↓okL_own, ↓vwF_set, ↓vwF_all, ↓vwS_all, hCa, go_sem]) <;> simp [hCa]) (by (simp only [↓okL_self, ↓okL_own, ↓vwF_set, ↓vwF_all, ↓vwS_all, hCa, go_sem, entH, entH1, nilArr, obOK]) <;> simp [hCa]) (by simp [injR, apart]) (by simp [coverR, usH]) (by simp [hNm, lkR, names])
      rintro ⟨⟩ -
      refine vcN_sound 1 _ _ ?_
      simp only [go_sem, hG, hOw]
      refine vcN_sound 2 _ _ ?_
      simp only [go_sem, hG, hOw]
      (repeat' with_reducible first | refine And.intro ?_ ?_ | intro _ | refine exP ?_ ?_); all_goals try omega
      have e2 : (i : Int) - 1 = (a.length : Int) - ((m + 1 : Nat) : Int) := by omega
      refine ⟨m + 1, by omega, by omega, ?_⟩
      rw [← e2]
      exact ent_of [(13, some 13)] (by (simp only [↓okL_self, ↓okL_own, ↓vwF_set, ↓vwF_all, ↓vwS_all, hC, go_sem]) <;> simp [hC]) (by (simp only [↓okL_self, ↓okL_own, ↓vwF_set, ↓vwF_all, ↓vwS_all, hC, go_sem, entH, entH1, nilArr, obOK]) <;> simp [hC]) (by simp [injR, apart]) (by simp [coverR, usH]) (by simp [hNm, lkR, names])
  rintro ⟨⟩ -
  simp only [go_sem, hG, hOw]
  all_goals try exact .refl _
end Go.Proofs.YtfnohnjnncjidaaGreatDoor
