import Derived.Test.YtfnohnjnncjidaaGreatDoorQS11
import Derived.Test.YtfnohnjnncjidaaGreatDoorQS17
import Derived.Test.YtfnohnjnncjidaaGreatDoorQS19
import Derived.Test.YtfnohnjnncjidaaGreatDoorQS21
import Derived.Test.YtfnohnjnncjidaaGreatDoorQS27
namespace Go.Proofs.YtfnohnjnncjidaaGreatDoor
open Go Pm
set_option linter.unusedSimpArgs false
set_option linter.unusedVariables false
set_option maxHeartbeats 4000000
set_option maxRecDepth 100000
def fwRow (a b : Ln) (j : Nat) : List Int := (List.range (b.length + 1)).map fun k => fewAt a b j k
def fwCell (lo : Nat) (a b : Ln) (m j : Nat) : V := if a.length < j + m then ints lo (fwRow a b j) else .v (.slice none 0 0)
def fwCells (lo : Nat) (a b : Ln) (m : Nat) : List V := (List.range (a.length + 1)).map (fwCell lo a b m)
def fwPart (a b : Ln) (j q : Nat) : List Int := (List.range (b.length + 1)).map fun k => if b.length < k + q then fewAt a b j k else 0
def tabs (lo : Nat) (l : List (List Int)) : V := .lst lo 1 (l.map fun r => [ints lo r])
attribute [go_sem] tabs
theorem fwCells_len (lo : Nat) (a b : Ln) (m : Nat) : (fwCells lo a b m).length = a.length + 1 := by simp [fwCells]
theorem fwPart_len (a b : Ln) (j q : Nat) : (fwPart a b j q).length = b.length + 1 := by simp [fwPart]
theorem fwPart_zero (a b : Ln) (j : Nat) : fwPart a b j 0 = List.replicate (b.length + 1) 0 := by
  refine List.ext_getElem (by simp [fwPart]) fun k h1 h2 => ?_
  simp only [fwPart, List.length_map, List.length_range] at h1
  simp [fwPart]
  omega
theorem fwPart_full (a b : Ln) (j : Nat) : fwPart a b j (b.length + 1) = fwRow a b j := by
  unfold fwPart fwRow
  refine List.map_congr_left fun k _ => ?_
  rw [if_pos (by omega)]
theorem fwPart_set (a b : Ln) (j q k : Nat) (hk : k + q = b.length) : (fwPart a b j q).set k (fewAt a b j k) = fwPart a b j (q + 1) := by
  refine List.ext_getElem (by simp [fwPart]) fun i h1 h2 => ?_
  simp only [fwPart, List.length_map, List.length_range, List.length_set] at h1 h2
  simp only [List.getElem_set, fwPart, List.getElem_map, List.getElem_range]
  by_cases e : k = i
  · subst e; rw [if_pos rfl, if_pos (by omega)]
  · rw [if_neg e]
    by_cases h3 : b.length < i + q
    · rw [if_pos h3, if_pos (by omega)]
    · rw [if_neg h3, if_neg (by omega)]
theorem fwCells_zero (lo : Nat) (a b : Ln) : fwCells lo a b 0 = List.replicate (a.length + 1) (.v (.slice none 0 0)) := by
  refine List.ext_getElem (by simp [fwCells]) fun k h1 h2 => ?_
  simp only [fwCells, List.length_map, List.length_range] at h1
  simp only [fwCells, List.getElem_map, List.getElem_range, List.getElem_replicate, fwCell]
  rw [if_neg (by omega)]
theorem fwCells_at (lo : Nat) (a b : Ln) (m j : Nat) (h : j < a.length + 1) : (fwCells lo a b m)[j]? = some (fwCell lo a b m j) := by
  unfold fwCells
  rw [List.getElem?_map, List.getElem?_range h]; rfl
theorem fwRow_get (a b : Ln) (j k : Nat) (h : k < (fwRow a b j).length) : (fwRow a b j)[k] = fewAt a b j k := by
  simp only [fwRow, List.getElem_map, List.getElem_range]
theorem fwRow_len (a b : Ln) (j : Nat) : (fwRow a b j).length = b.length + 1 := by simp [fwRow]
theorem fwCells_all (lo : Nat) (a b : Ln) (m : Nat) : all0 (fwCells lo a b m) = true := all0_of fun x hx => by
  unfold fwCells at hx
  obtain ⟨j, _, rfl⟩ := List.mem_map.1 hx
  unfold fwCell
  split <;> rfl
theorem fwCells_full (lo : Nat) (a b : Ln) : ((fwCells lo a b (a.length + 1)).map fun c => [c]) = ((List.range (a.length + 1)).map (fwRow a b)).map fun r => [ints lo r] := by
  unfold fwCells
  simp only [List.map_map]
  refine List.map_congr_left fun j _ => ?_
  simp only [Function.comp, fwCell]
  rw [if_pos (by omega)]
theorem Fewest_ok (a b : Ln) (ha : a.length ≤ 1000) (hb : b.length ≤ 1000) : Gives Tryz.prog 105 [strs 0 a, strs 0 b] (fun n => tabs n ((List.range (a.length + 1)).map (fwRow a b))) := by
  obtain ⟨Tb, hTb⟩ : ∃ Tb, Tb = (List.range (a.length + 1)).map (fwRow a b) := ⟨_, rfl⟩
  rw [← hTb]
  refine pure_intro (ow := fun _ => false) Tryz.func105 Tryz.ntmps105 rfl (by kernel_rfl) (by simp) rfl (by decide) fun G hG hOw hNm hB => ?_; simp only [go_sem, hG, hOw]
  (repeat' with_reducible first | refine And.intro ?_ ?_ | intro _ | refine exP ?_ ?_); all_goals try omega
  refine make_box rfl rfl rfl rfl (by rw [hG]; decide) (by simp [go_sem]) tb_sliceElem_181 tb_zeroK_45 tb_bytesK_45 (by omega) (by omega) (by omega) ?_
  have en : ((a.length : Int) + 1).toNat = a.length + 1 := by omega
  have e0 := (fwCells_zero G.lo a b).symm
  have hC := fun m => fwCells_all G.lo a b m
  simp (maxSteps := 2000000) only [go_sem, hG, hOw, en, e0]
  (repeat' with_reducible first | refine And.intro ?_ ?_ | intro _ | refine exP ?_ ?_); all_goals try omega
  refine semC_cut (fun _ : Unit => St.of [(5, tabs G.lo Tb)] []) (fun _ => True) ?_ ?_
  · refine semC_loop (fun m : Nat => St.of [(0, strs 0 a), (1, strs 0 b), (5, .own 11 0 (a.length + 1) 1), (6, i64 ((a.length : Int) - m))] [(11, .box (fwCells G.lo a b m))]) (fun m => m ≤ a.length + 1) (fun m => a.length + 1 - m) 0 (by omega) (ent_of [(11, some 11)] (by (simp only [↓okL_self, ↓okL_own, ↓vwF_set, ↓vwF_all, ↓vwS_all, hC, go_sem]) <;> simp [hC]) (by (simp only [↓okL_self, ↓okL_own, ↓vwF_set, ↓vwF_all, ↓vwS_all, hC, go_sem, entH, entH1, nilArr, obOK]) <;> simp [hC]) (by simp [injR, apart]) (by simp [coverR, usH]) (by simp [hNm, lkR, names])) ?_
    rintro m hm
    by_cases hml : m = a.length + 1
    · have hlt : ¬ (0 : Int) ≤ (a.length : Int) - m := by omega
      have hlt' : ¬ (0 : Int) ≤ (a.length : Int) - (m : Int) := hlt
      refine SemL.semC ?_
      simp only [flat, List.cons_append, List.nil_append, List.append_assoc, List.take_succ_cons, List.take_zero, List.take_nil, List.drop_succ_cons, List.drop_zero]
      refine vcN_sound 2 _ _ ?_
      simp (maxSteps := 2000000) only [go_sem, hG, hOw, hlt]
      (repeat' with_reducible first | refine And.intro ?_ ?_ | intro _ | refine exP ?_ ?_); all_goals try omega
      rw [hml]
      have hfu := fwCells_full G.lo a b
      rw [← hTb] at hfu
      have hfl := fwCells_len G.lo a b (a.length + 1)
      have htk : List.take (a.length + 1) (Tb.map fun r => [ints G.lo r]) = Tb.map fun r => [ints G.lo r] := List.take_of_length_le (by rw [hTb]; simp)
      simp only [ints] at hfu htk
      exact ⟨(), ent_frz (fun i => i == 11) (ent_of [] (by (simp only [↓okL_self, ↓okL_own, ↓vwF_set, ↓vwF_all, ↓vwS_all, hC,hfu,htk, go_sem]) <;> simp [hC, hfu, htk]) (by (simp only [↓okL_self, ↓okL_own, ↓vwF_set, ↓vwF_all, ↓vwS_all, hC,hfu,htk, go_sem, entH, entH1, nilArr, obOK]) <;> simp [hC, hfu, htk]) (by simp [injR, apart]) (by simp [coverR, usH]) (by simp [hNm, lkR, names]))⟩
    · obtain ⟨i, hi⟩ : ∃ i, i + m = a.length := ⟨a.length - m, by omega⟩
      have hii : (a.length : Int) - m = i := by omega
      have hlt : (0 : Int) ≤ i := by omega
      rw [hii]
      have hCl := fwCells_len G.lo a b m
      obtain ⟨C, hCe⟩ : ∃ C, C = fwCells G.lo a b m := ⟨_, rfl⟩
      have hCa : all0 C = true := by rw [hCe]; exact hC m
      rw [← hCe] at hCl ⊢
      have hil : i < C.length := by omega
      have hown : ∀ x, (C.set i x)[i]? = some x := fun x => by rw [List.getElem?_set, if_pos rfl, if_pos hil]
      have hnext : ∀ x, i < a.length → (C.set i x)[i + 1]? = some (ints G.lo (fwRow a b (i + 1))) := fun x h => by
        rw [List.getElem?_set_ne (by omega), hCe, fwCells_at _ _ _ _ _ (by omega)]
        unfold fwCell
        rw [if_pos (by omega)]
      refine SemL.semC ?_
      simp only [flat, List.cons_append, List.nil_append, List.append_assoc, List.take_succ_cons, List.take_zero, List.take_nil, List.drop_succ_cons, List.drop_zero]
      refine vcN_sound 2 _ _ ?_
      simp (maxSteps := 2000000) only [go_sem, hG, hOw, hlt]
      (repeat' with_reducible first | refine And.intro ?_ ?_ | intro _ | refine exP ?_ ?_); all_goals try omega
      refine semL_blk ?_
      simp only [flat, List.cons_append, List.nil_append, List.append_assoc, List.take_succ_cons, List.take_zero, List.take_nil, List.drop_succ_cons, List.drop_zero]
      refine vcN_sound 2 _ _ ?_
      simp only [go_sem, hG, hOw]
      (repeat' with_reducible first | refine And.intro ?_ ?_ | intro _ | refine exP ?_ ?_); all_goals try omega
      refine make_step rfl rfl rfl rfl (by rw [hG]; decide) (by simp [go_sem]) tb_sliceElem_45 tb_zeroK_3 rfl tb_bytesK_3 (by decide) (by omega) (by omega) (by omega) ?_
      have enb : ((b.length : Int) + 1).toNat = b.length + 1 := by omega
      have er : List.replicate (b.length + 1) [V.v (Value.int IntKind.i64 0)] = (fwPart a b i 0).map intE := by rw [fwPart_zero, List.map_replicate]; rfl
      simp (maxSteps := 2000000) only [go_sem, hG, hOw, enb, er]
      (repeat' with_reducible first | refine And.intro ?_ ?_ | intro _ | refine exP ?_ ?_); all_goals try omega
      refine semL_blk ?_
      simp only [flat, List.cons_append, List.nil_append, List.append_assoc, List.take_succ_cons, List.take_zero, List.take_nil, List.drop_succ_cons, List.drop_zero]
      refine semL_one ?_
      refine semC_cutN (fun _ : Unit => St.of [(0, strs 0 a), (1, strs 0 b), (5, .own 11 0 (a.length + 1) 1), (6, i64 i)] [(11, .box (fwCells G.lo a b (m + 1)))]) (fun _ => True) ?_ ?_
      · refine semC_loop (fun q : Nat => St.of [(0, strs 0 a), (1, strs 0 b), (5, .own 11 0 (a.length + 1) 1), (6, i64 i), (7, i64 ((b.length : Int) - q))] [(11, .box (C.set i (.own 23 0 (b.length + 1) 1))), (23, .arr 3 1 ((fwPart a b i q).map intE))]) (fun q => q ≤ b.length + 1) (fun q => b.length + 1 - q) 0 (by omega) (ent_of [(11, some 11), (23, some 23)] (by (simp only [↓okL_self, ↓okL_own, ↓vwF_set, ↓vwF_all, ↓vwS_all, hCa, go_sem]) <;> simp [hCa]) (by (simp only [↓okL_self, ↓okL_own, ↓vwF_set, ↓vwF_all, ↓vwS_all, hCa, go_sem, entH, entH1, nilArr, obOK]) <;> simp [hCa]) (by simp [injR, apart]) (by simp [coverR, usH]) (by simp [hNm, lkR, names])) ?_
        rintro q hq
        by_cases hql : q = b.length + 1
        · have hlt2 : ¬ (0 : Int) ≤ (b.length : Int) - q := by omega
          have hfz : C.set i (ints G.lo (fwRow a b i)) = fwCells G.lo a b (m + 1) := by
            refine List.ext_getElem (by simp [hCl, fwCells_len]) fun j h1 h2 => ?_
            rw [List.getElem_set]
            simp only [fwCells_len] at h2
            have h3 : C[j]? = some (fwCell G.lo a b m j) := by rw [hCe]; exact fwCells_at _ _ _ _ _ h2
            have h4 := fwCells_at G.lo a b (m + 1) j h2
            have h5 : (fwCells G.lo a b (m + 1))[j] = fwCell G.lo a b (m + 1) j := by
              rw [List.getElem?_eq_getElem (by rw [fwCells_len]; exact h2)] at h4
              exact Option.some.inj h4
            rw [h5]
            split
            · rename_i e
              subst e
              unfold fwCell
              rw [if_pos (by omega)]
            · rename_i e
              rw [List.getElem?_eq_getElem (by omega)] at h3
              rw [Option.some.inj h3]
              unfold fwCell
              by_cases h6 : a.length < j + m
              · rw [if_pos h6, if_pos (by omega)]
              · rw [if_neg h6, if_neg (by omega)]
          simp only [ints] at hfz
          have hpf := fwPart_full a b i
          have htkb : List.take (b.length + 1) (List.map intE (fwRow a b i)) = List.map intE (fwRow a b i) := List.take_of_length_le (by simp [fwRow])
          refine SemL.semC ?_
          simp only [flat, List.cons_append, List.nil_append, List.append_assoc, List.take_succ_cons, List.take_zero, List.take_nil, List.drop_succ_cons, List.drop_zero]
          refine vcN_sound 2 _ _ ?_
          simp (maxSteps := 2000000) only [go_sem, hG, hOw, hlt2]
          (repeat' with_reducible first | refine And.intro ?_ ?_ | intro _ | refine exP ?_ ?_); all_goals try omega
          rw [hql, hpf]
          refine ⟨(), ent_frz (fun i => i == 23) (ent_of [(11, some 11)] ?_ (entH_frz1 rfl rfl (cs := C.set i (.own 23 0 (b.length + 1) 1)) ?_ ?_ (hC _)) (by simp [injR, apart]) (by simp [coverR, usH]) (by simp [hNm, lkR, names]))⟩
          · simp only [go_sem] <;> simp
          · simp only [go_sem]
          · rw [vwF_set hCa, vwF_own (t := 3) (l := (fwRow a b i).map intE) rfl (by simp only [go_sem]) rfl, List.drop_zero, htkb]
            exact hfz
        · obtain ⟨k, hk⟩ : ∃ k, k + q = b.length := ⟨b.length - q, by omega⟩
          have hkk : (b.length : Int) - q = k := by omega
          have hlt2 : (0 : Int) ≤ k := by omega
          have hset := fwPart_set a b i q k hk
          rw [hkk]
          have hfin : ∀ v : Int, v = fewAt a b i k → ((fwPart a b i q).map intE).set k [.v (.int .i64 v)] = (fwPart a b i (q + 1)).map intE := fun v hv => by
            rw [hv, ← hset, List.map_set]; rfl
          refine SemL.semC ?_
          simp only [flat, List.cons_append, List.nil_append, List.append_assoc, List.take_succ_cons, List.take_zero, List.take_nil, List.drop_succ_cons, List.drop_zero]
          refine vcN_sound 2 _ _ ?_
          simp (maxSteps := 2000000) only [go_sem, hG, hOw, hlt2]
          (repeat' with_reducible first | refine And.intro ?_ ?_ | intro _ | refine exP ?_ ?_); all_goals try omega
          refine semL_blk ?_
          simp only [flat, List.cons_append, List.nil_append, List.append_assoc, List.take_succ_cons, List.take_zero, List.take_nil, List.drop_succ_cons, List.drop_zero]
          refine semL_blk ?_
          simp only [flat, List.cons_append, List.nil_append, List.append_assoc, List.take_succ_cons, List.take_zero, List.take_nil, List.drop_succ_cons, List.drop_zero]
          have hpl := fwPart_len a b i q
          have hie : ((i : Int) = a.length) = (i = a.length) := by rw [Int.ofNat_inj]
          have hke : ((k : Int) = b.length) = (k = b.length) := by rw [Int.ofNat_inj]
          have ho0 : (C.set i (.own 23 0 (b.length + 1) 1)).length = a.length + 1 := by rw [List.length_set, hCl]
          have hown' := hown (.own 23 0 (b.length + 1) 1)
          by_cases hia : i = a.length
          · have hv : (b.length : Int) - k = fewAt a b i k := by
              subst hia
              unfold fewAt
              rw [List.drop_length, few_nil, List.length_drop]; omega
            have hst := hfin _ hv
            have hiT : ((i : Int) = (a.length : Int)) = True := eq_true (by omega)
            refine vcN_sound 3 _ _ ?_
            simp (maxSteps := 2000000) only [go_sem, hG, hOw, hiT, decide_true, ho0, hown', Option.getD_some, Nat.mul_one, Nat.add_zero, hst]
            (repeat' with_reducible first | refine And.intro ?_ ?_ | intro _ | refine exP ?_ ?_); all_goals try omega
            refine vcN_sound 1 _ _ ?_
            simp only [go_sem, hG, hOw]
            refine vcN_sound 2 _ _ ?_
            simp only [go_sem, hG, hOw]
            (repeat' with_reducible first | refine And.intro ?_ ?_ | intro _ | refine exP ?_ ?_); all_goals try omega
            have e9 : (k : Int) - 1 = (b.length : Int) - ((q + 1 : Nat) : Int) := by omega
            refine ⟨q + 1, by omega, by omega, ?_⟩
            rw [← e9]
            exact ent_of [(11, some 11), (23, some 23)] (by (simp only [↓okL_self, ↓okL_own, ↓vwF_set, ↓vwF_all, ↓vwS_all, hCa, go_sem]) <;> simp [hCa]) (by (simp only [↓okL_self, ↓okL_own, ↓vwF_set, ↓vwF_all, ↓vwS_all, hCa, go_sem, entH, entH1, nilArr, obOK]) <;> simp [hCa]) (by simp [injR, apart]) (by simp [coverR, usH]) (by simp [hNm, lkR, names])
          · have hiT : ((i : Int) = (a.length : Int)) = False := eq_false (by omega)
            by_cases hkb : k = b.length
            · have hv : (a.length : Int) - i = fewAt a b i k := by
                subst hkb
                unfold fewAt
                rw [List.drop_length, few_nil', List.length_drop]; omega
              have hst := hfin _ hv
              have hkT : ((k : Int) = (b.length : Int)) = True := eq_true (by omega)
              refine vcN_sound 3 _ _ ?_
              simp (maxSteps := 2000000) only [go_sem, hG, hOw, hiT, hkT, decide_true, decide_false, ho0, hown', Option.getD_some, Nat.mul_one, Nat.add_zero, hst]
              (repeat' with_reducible first | refine And.intro ?_ ?_ | intro _ | refine exP ?_ ?_); all_goals try omega
              refine vcN_sound 1 _ _ ?_
              simp only [go_sem, hG, hOw]
              refine vcN_sound 2 _ _ ?_
              simp only [go_sem, hG, hOw]
              (repeat' with_reducible first | refine And.intro ?_ ?_ | intro _ | refine exP ?_ ?_); all_goals try omega
              have e9 : (k : Int) - 1 = (b.length : Int) - ((q + 1 : Nat) : Int) := by omega
              refine ⟨q + 1, by omega, by omega, ?_⟩
              rw [← e9]
              exact ent_of [(11, some 11), (23, some 23)] (by (simp only [↓okL_self, ↓okL_own, ↓vwF_set, ↓vwF_all, ↓vwS_all, hCa, go_sem]) <;> simp [hCa]) (by (simp only [↓okL_self, ↓okL_own, ↓vwF_set, ↓vwF_all, ↓vwS_all, hCa, go_sem, entH, entH1, nilArr, obOK]) <;> simp [hCa]) (by simp [injR, apart]) (by simp [coverR, usH]) (by simp [hNm, lkR, names])
            · have hkT : ((k : Int) = (b.length : Int)) = False := eq_false (by omega)
              have hil2 : i < a.length := by omega
              have hkl2 : k < b.length := by omega
              have hnx := hnext (.own 23 0 (b.length + 1) 1) hil2
              refine vcN_sound 3 _ _ ?_
              simp (maxSteps := 2000000) only [go_sem, hG, hOw, hiT, hkT, decide_true, decide_false, ho0, hown', Option.getD_some, Nat.mul_one, Nat.add_zero]
              (repeat' with_reducible first | refine And.intro ?_ ?_ | intro _ | refine exP ?_ ?_); all_goals try omega
              refine semC_draw0 mixed (by kernel_rfl) ?_
              simp only [go_sem, hG, hOw]
              have ei1 : ((i : Int) + 1).toNat = i + 1 := by omega
              have ek1 : ((k : Int) + 1).toNat = k + 1 := by omega
              have hget := fwRow_get a b
              have hrl := fwRow_len a b
              simp only [ints] at hnx
              (repeat' with_reducible first | refine And.intro ?_ ?_ | intro _ | refine exP ?_ ?_); all_goals try omega
              · rename_i hab
                have hv := fewAt_eq a b i k hil2 hkl2 hab
                have hst := hfin _ hv.symm
                refine semC_draw0 mixed (by kernel_rfl) ?_
                simp (maxSteps := 2000000) only [go_sem, hG, hOw, ei1, ek1, hnx, ho0, hown', hget, hrl, hpl, Option.getD_some, Nat.mul_one, Nat.add_zero, hst]
                (repeat' with_reducible first | refine And.intro ?_ ?_ | intro _ | refine exP ?_ ?_); all_goals try omega
                refine vcN_sound 1 _ _ ?_
                simp only [go_sem, hG, hOw]
                refine vcN_sound 2 _ _ ?_
                simp only [go_sem, hG, hOw]
                (repeat' with_reducible first | refine And.intro ?_ ?_ | intro _ | refine exP ?_ ?_); all_goals try omega
                have e9 : (k : Int) - 1 = (b.length : Int) - ((q + 1 : Nat) : Int) := by omega
                refine ⟨q + 1, by omega, by omega, ?_⟩
                rw [← e9]
                exact ent_of [(11, some 11), (23, some 23)] (by (simp only [↓okL_self, ↓okL_own, ↓vwF_set, ↓vwF_all, ↓vwS_all, hCa, go_sem]) <;> simp [hCa]) (by (simp only [↓okL_self, ↓okL_own, ↓vwF_set, ↓vwF_all, ↓vwS_all, hCa, go_sem, entH, entH1, nilArr, obOK]) <;> simp [hCa]) (by simp [injR, apart]) (by simp [coverR, usH]) (by simp [hNm, lkR, names])
              · rename_i hab
                have hgp : ∀ h : k + 1 < (fwPart a b i q).length, (fwPart a b i q)[k + 1] = fewAt a b i (k + 1) := fun h => by
                  simp only [fwPart, List.getElem_map, List.getElem_range]
                  rw [if_pos (by omega)]
                have hv := fewAt_ne a b i k hil2 hkl2 hab
                have b1 := fewAt_bd a b (i + 1) (k + 1)
                have b2 := fewAt_bd a b (i + 1) k
                have b3 := fewAt_bd a b i (k + 1)
                have hmin : (1 + if (if fewAt a b i (k + 1) < fewAt a b (i + 1) k then fewAt a b i (k + 1) else fewAt a b (i + 1) k) < fewAt a b (i + 1) (k + 1) then (if fewAt a b i (k + 1) < fewAt a b (i + 1) k then fewAt a b i (k + 1) else fewAt a b (i + 1) k) else fewAt a b (i + 1) (k + 1)) = fewAt a b i k := by
                  rw [hv]
                  (repeat' split) <;> omega
                have b4 := fewAt_bd a b i k
                have hst := hfin _ rfl
                refine semC_draw0 mixed (by kernel_rfl) ?_
                simp (maxSteps := 2000000) only [go_sem, hG, hOw, ei1, ek1, hnx, ho0, hown', hget, hrl, hgp, hpl, hmin, hst, Option.getD_some, Nat.mul_one, Nat.add_zero]
                (repeat' with_reducible first | refine And.intro ?_ ?_ | intro _ | refine exP ?_ ?_); all_goals try omega
                refine vcN_sound 1 _ _ ?_
                simp only [go_sem, hG, hOw]
                refine vcN_sound 2 _ _ ?_
                simp only [go_sem, hG, hOw]
                (repeat' with_reducible first | refine And.intro ?_ ?_ | intro _ | refine exP ?_ ?_); all_goals try omega
                have e9 : (k : Int) - 1 = (b.length : Int) - ((q + 1 : Nat) : Int) := by omega
                refine ⟨q + 1, by omega, by omega, ?_⟩
                rw [← e9]
                exact ent_of [(11, some 11), (23, some 23)] (by (simp only [↓okL_self, ↓okL_own, ↓vwF_set, ↓vwF_all, ↓vwS_all, hCa, go_sem]) <;> simp [hCa]) (by (simp only [↓okL_self, ↓okL_own, ↓vwF_set, ↓vwF_all, ↓vwS_all, hCa, go_sem, entH, entH1, nilArr, obOK]) <;> simp [hCa]) (by simp [injR, apart]) (by simp [coverR, usH]) (by simp [hNm, lkR, names])
      rintro ⟨⟩ -
      refine vcN_sound 1 _ _ ?_
      simp only [go_sem, hG, hOw]
      refine vcN_sound 2 _ _ ?_
      simp only [go_sem, hG, hOw]
      (repeat' with_reducible first | refine And.intro ?_ ?_ | intro _ | refine exP ?_ ?_); all_goals try omega
      have e2 : (i : Int) - 1 = (a.length : Int) - ((m + 1 : Nat) : Int) := by omega
      refine ⟨m + 1, by omega, by omega, ?_⟩
      rw [← e2]
      exact ent_of [(11, some 11)] (by (simp only [↓okL_self, ↓okL_own, ↓vwF_set, ↓vwF_all, ↓vwS_all, hC, go_sem]) <;> simp [hC]) (by (simp only [↓okL_self, ↓okL_own, ↓vwF_set, ↓vwF_all, ↓vwS_all, hC, go_sem, entH, entH1, nilArr, obOK]) <;> simp [hC]) (by simp [injR, apart]) (by simp [coverR, usH]) (by simp [hNm, lkR, names])
  rintro ⟨⟩ -
  simp only [go_sem, hG, hOw]
  all_goals try exact .refl _
open Go Pm
set_option maxHeartbeats 4000000
set_option maxRecDepth 100000
theorem distance_ok (a b : Ln) (ha : a.length ≤ 1000) (hb : b.length ≤ 1000) : Gives Tryz.prog 61 [strs 0 a, strs 0 b] (fun _ => i64 (few a b)) := by
  have e1 : few a b = fewAt a b 0 0 := by simp [fewAt]
  have e2 : (fwRow a b 0)[0]? = some (few a b) := by rw [e1, List.getElem?_eq_getElem (by rw [fwRow_len]; omega), fwRow_get]
  have hF := Fewest_ok a b ha hb
  obtain ⟨Tb, hTb⟩ : ∃ Tb, Tb = (List.range (a.length + 1)).map (fwRow a b) := ⟨_, rfl⟩
  have hT0 : Tb[0]? = some (fwRow a b 0) := by rw [hTb, List.getElem?_map, List.getElem?_range (by omega)]; rfl
  have hTl : Tb.length = a.length + 1 := by rw [hTb]; simp
  have hl := fwRow_len a b 0
  have e3 : ∀ h, (fwRow a b 0)[0]'h = few a b := fun h => by rw [e1]; exact fwRow_get a b 0 0 h
  have e4 : ∀ h, Tb[0]'h = fwRow a b 0 := fun h => by rw [List.getElem?_eq_getElem h] at hT0; exact Option.some.inj hT0
  rw [← hTb] at hF
  refine pure_intro (ow := fun _ => false) Tryz.func61 Tryz.ntmps61 rfl (by kernel_rfl) (by simp) rfl (by decide) fun G hG hOw hNm hB => ?_; simp only [go_sem, hG, hOw]
  refine call_pureA (hF) ?_
  simp (maxSteps := 2000000) only [go_sem, hG, hOw, e3, e4, hTl, hl]
  (repeat' with_reducible first | refine And.intro ?_ ?_ | intro _ | refine exP ?_ ?_); all_goals try omega
open Go Pm
set_option maxHeartbeats 4000000
def lastOf (a : List Ln) (j w : Nat) : Option Ln := if w = 1 ∧ 0 < j then a[j - 1]? else none
def costAt (a b : List Ln) (j k w : Nat) : Int := cst (a.drop j) (lastOf a j w) (b.drop k)
def cs0 (a b : List Ln) (j k : Nat) : Int := if j = a.length ∧ k = b.length then 0 else never
def cs1 (a b : List Ln) (j k w : Nat) : Int := if w = 1 ∧ 0 < j ∧ k < b.length ∧ a[j - 1]? = b[k]? then min (cs0 a b j k) (1 + costAt a b j (k + 1) 1) else cs0 a b j k
def cs2 (a b : List Ln) (j k w : Nat) : Int := match a[j]?, b[k]? with
  | some x, some y => min (cs1 a b j k w) (few x y + costAt a b (j + 1) (k + 1) 1)
  | _, _ => cs1 a b j k w
def cs3 (a b : List Ln) (j k w : Nat) : Int := if j < a.length then min (cs2 a b j k w) (1 + costAt a b (j + 1) k 0) else cs2 a b j k w
theorem lastOf_none (a : List Ln) (j w : Nat) (h : ¬ (w = 1 ∧ 0 < j)) : lastOf a j w = none := by unfold lastOf; rw [if_neg h]
theorem lastOf_some (a : List Ln) (j : Nat) (h : 0 < j) : lastOf a j 1 = a[j - 1]? := by unfold lastOf; rw [if_pos ⟨rfl, h⟩]
theorem costAt_bd (a b : List Ln) (j k w : Nat) : 0 ≤ costAt a b j k w ∧ costAt a b j k w ≤ never := cst_bd _ _ _
theorem costAt_eq (a b : List Ln) (j k w : Nat) (hj : j ≤ a.length) (hk : k ≤ b.length) (hw : w ≤ 1) : costAt a b j k w = cs3 a b j k w := by
  have hp : ∀ y, b[k]? = some y → ((w = 1 ∧ 0 < j ∧ k < b.length ∧ a[j - 1]? = b[k]?) ↔ lastOf a j w = some y) := by
    intro y hy
    have hkb := (List.getElem?_eq_some_iff.1 hy).1
    unfold lastOf
    rw [hy]
    by_cases h : w = 1 ∧ 0 < j
    · rw [if_pos h]; exact ⟨fun h1 => h1.2.2.2, fun h1 => ⟨h.1, h.2, hkb, h1⟩⟩
    · rw [if_neg h]; exact ⟨fun h1 => absurd ⟨h1.1, h1.2.1⟩ h, fun h1 => (by cases h1)⟩
  have hq : lastOf a (j + 1) 1 = a[j]? := lastOf_some a (j + 1) (by omega)
  have hq0 : lastOf a (j + 1) 0 = none := lastOf_none a (j + 1) 0 (by omega)
  have bd := costAt_bd a b (j + 1) k 0
  by_cases h1 : j < a.length
  · have ea := List.drop_eq_getElem_cons h1
    have ga := List.getElem?_eq_getElem h1
    by_cases h2 : k < b.length
    · have eb := List.drop_eq_getElem_cons h2
      have gb := List.getElem?_eq_getElem h2
      unfold cs3 cs2
      rw [if_pos h1, ga, gb]
      have z0 : cs0 a b j k = never := if_neg (by omega)
      unfold cs1
      simp only [hp _ gb, z0]
      unfold costAt
      rw [hq, hq0, ga, ea, eb, cst_xy]
      congr 2
      by_cases h3 : lastOf a j w = some b[k]
      · rw [if_pos h3, if_pos h3]
        have h4 : w = 1 := by
          by_cases h : w = 1 ∧ 0 < j
          · exact h.1
          · rw [lastOf_none a j w h] at h3; cases h3
        rw [h4]
      · rw [if_neg h3, if_neg h3]
    · have hkb : k = b.length := by omega
      subst hkb
      have gb : b[b.length]? = none := List.getElem?_eq_none (by omega)
      unfold cs3 cs2
      rw [if_pos h1, ga, gb]
      show _ = min (cs1 a b j b.length w) _
      have z0 : cs0 a b j b.length = never := if_neg (by omega)
      unfold cs1
      rw [if_neg (by omega), z0]
      unfold costAt
      rw [hq0, ea, List.drop_length, cst_xn]
  · have hja : j = a.length := by omega
    subst hja
    have ga : a[a.length]? = none := List.getElem?_eq_none (by omega)
    have e2 : cs3 a b a.length k w = cs1 a b a.length k w := by
      unfold cs3 cs2
      rw [if_neg (by omega), ga]
    rw [e2]
    unfold cs1
    by_cases h2 : k < b.length
    · have eb := List.drop_eq_getElem_cons h2
      have gb := List.getElem?_eq_getElem h2
      have z0 : cs0 a b a.length k = never := if_neg (by omega)
      simp only [hp _ gb, z0]
      unfold costAt
      rw [List.drop_length, eb, cst_ny]
      by_cases h3 : lastOf a a.length w = some b[k]
      · rw [if_pos h3, if_pos h3]
        have h4 : w = 1 := by
          by_cases h : w = 1 ∧ 0 < a.length
          · exact h.1
          · rw [lastOf_none a _ w h] at h3; cases h3
        rw [h4]
      · rw [if_neg h3, if_neg h3]
    · have hkb : k = b.length := by omega
      subst hkb
      have z0 : cs0 a b a.length b.length = 0 := if_pos ⟨rfl, rfl⟩
      rw [if_neg (by omega), z0]
      unfold costAt
      rw [List.drop_length, List.drop_length, cst_nn]
end Go.Proofs.YtfnohnjnncjidaaGreatDoor
