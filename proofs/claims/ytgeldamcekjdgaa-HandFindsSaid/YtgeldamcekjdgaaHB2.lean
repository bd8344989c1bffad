/- The program: the desk. -/
import Derived.Test.YtgeldamcekjdgaaHB1
import Derived.Test.YtgeldamcekjdgaaH2
namespace Go.Proofs.Ytgeldamcekjdgaa
open Go Pm
set_option linter.unusedSimpArgs false
set_option linter.unusedVariables false
set_option maxHeartbeats 4000000
set_option maxRecDepth 100000
/-- the places of all lines, from a chapter on -/
def plc : Nat → List Ch → List (Nat × Nat)
  | _, [] => []
  | k, c :: r => (List.range c.lines.length).map (k, ·) ++ plc (k + 1) r
theorem plc_app : ∀ (l m : List Ch) (k : Nat), plc k (l ++ m) = plc k l ++ plc (k + l.length) m
  | [], m, k => by simp [plc]
  | c :: r, m, k => by
    simp only [plc, List.cons_append, plc_app r m (k + 1), List.append_assoc, List.length_cons]
    rw [show k + 1 + r.length = k + (r.length + 1) by omega]
theorem plc_step (t : List Ch) (k : Nat) (hk : k < t.length) : plc 0 (t.take (k + 1)) = plc 0 (t.take k) ++ (List.range t[k].lines.length).map (k, ·) := by
  rw [List.take_add_one, List.getElem?_eq_getElem hk, plc_app]
  simp [plc, Nat.min_eq_left (Nat.le_of_lt hk)]
theorem plc_len : ∀ (t : List Ch) (k : Nat), (plc k t).length = (linesL t).length
  | [], k => by simp [plc, linesL]
  | c :: r, k => by
    simp only [plc, List.length_append, List.length_map, List.length_range, plc_len r (k + 1)]
    simp [linesL]
def plE (p : Nat × Nat) : List V := [i64 p.1, i64 p.2, i64 0]
theorem allOnes_plE (l : List (Nat × Nat)) : allOnes (l.map plE) = true := allOnes_map (fun _ => rfl) l
attribute [go_sem] plE allOnes_plE
def dkC (lo : Nat) (r : Ro) : List V := [chs 0 r.text, hps 0 r.helpers, srs 0 r.shares, ses 0 r.sheets, .lst lo 1 ((linesL r.text).map (lnE 0)), .lst lo 3 ((plc 0 r.text).map plE)]
attribute [go_sem] dkC
theorem laid_ok (r : Ro) (ht : OKt r.text) : Gives Try.prog 51 [roE 0 r] (fun n => .fp (dkC n r)) := by
  have htt := ht
  obtain ⟨ht1, ht2⟩ := ht
  refine pure_intro (ow := fun _ => false) Try.func51 Try.ntmps51 rfl (by kernel_rfl) (by simp) rfl (by decide) fun G hG hOw hNm hB => ?_
  simp only [go_sem, hG, hOw, reduceIte, Nat.reduceLeDiff, Nat.le_refl, Nat.reduceEqDiff, Nat.reduceAdd, Nat.reduceLT, reduceCtorEq, Int.toNat_natCast]
  refine semC_loop (fun k : Nat => St.of [(3, .ptr 10 0), (13, chs 0 r.text), (14, i64 r.text.length), (15, i64 k)]
    [(10, .box (roC 0 r ++ [.own 90 0 (linesL (r.text.take k)).length 1, .own 91 0 (plc 0 (r.text.take k)).length 3])), (90, .arr 32 1 ((linesL (r.text.take k)).map (lnE 0))), (91, .arr 119 3 ((plc 0 (r.text.take k)).map plE))])
    (fun k => k ≤ r.text.length) (fun k => r.text.length - k) 0 (by simp) (ent_of [(10, some 10), (90, none), (91, none)] (by (simp only [go_sem, reduceIte, Nat.reduceLeDiff, Nat.le_refl, Nat.reduceEqDiff, Nat.reduceAdd, Nat.reduceLT, reduceCtorEq, Int.toNat_natCast]) <;> simp [linesL,plc,roC]) (by (simp only [go_sem, entH, entH1, nilArr, obOK, reduceIte, Nat.reduceLeDiff, Nat.le_refl, Nat.reduceEqDiff, Nat.reduceAdd, Nat.reduceLT, reduceCtorEq, Int.toNat_natCast]) <;> simp [linesL,plc,roC]) (by simp [injR, apart]) (by simp [coverR, usH]) (by simp [hNm, lkR, names])) ?_
  rintro k hk
  refine vc_sound _ _ _ ?_; simp only [go_sem, hG, hOw, reduceIte, Nat.reduceLeDiff, Nat.le_refl, Nat.reduceEqDiff, Nat.reduceAdd, Nat.reduceLT, reduceCtorEq, Int.toNat_natCast]
  (repeat' (first | (with_reducible refine And.intro ?_ ?_) | (with_reducible intro _) | (with_reducible refine exP ?_ ?_))); all_goals (try omega)
  · rename_i hlt
    have hkl : k < r.text.length := by omega
    obtain ⟨hc1, hc2⟩ := ht2 _ (List.getElem_mem hkl)
    have hlen := linesL_len r.text htt k
    have hpl := plc_len (r.text.take k) 0
    refine semC_loop (fun j : Nat => St.of [(3, .ptr 10 0), (13, chs 0 r.text), (14, i64 r.text.length), (15, i64 k), (4, i64 k), (21, lns 0 r.text[k].lines), (22, i64 r.text[k].lines.length), (23, i64 j)]
      [(10, .box (roC 0 r ++ [.own 90 0 ((linesL (r.text.take k)).length + j) 1, .own 91 0 ((plc 0 (r.text.take k)).length + j) 3])), (90, .arr 32 1 ((linesL (r.text.take k) ++ r.text[k].lines.take j).map (lnE 0))), (91, .arr 119 3 ((plc 0 (r.text.take k) ++ (List.range j).map (k, ·)).map plE))])
      (fun j => j ≤ r.text[k].lines.length) (fun j => r.text[k].lines.length - j) 0 (by simp) (ent_of [(10, some 10), (90, some 90), (91, some 91)] (by (simp only [go_sem, reduceIte, Nat.reduceLeDiff, Nat.le_refl, Nat.reduceEqDiff, Nat.reduceAdd, Nat.reduceLT, reduceCtorEq, Int.toNat_natCast]) <;> simp [roC]) (by (simp only [go_sem, entH, entH1, nilArr, obOK, reduceIte, Nat.reduceLeDiff, Nat.le_refl, Nat.reduceEqDiff, Nat.reduceAdd, Nat.reduceLT, reduceCtorEq, Int.toNat_natCast]) <;> simp [roC]) (by simp [injR, apart]) (by simp [coverR, usH]) (by simp [hNm, lkR, names])) ?_
    rintro j hj
    have hl2 : (linesL (r.text.take k) ++ r.text[k].lines.take j).length = (linesL (r.text.take k)).length + j := by rw [List.length_append, List.length_take]; omega
    have hl3 : (plc 0 (r.text.take k) ++ (List.range j).map (k, ·)).length = (plc 0 (r.text.take k)).length + j := by simp
    have hmin : min j r.text[k].lines.length = j := Nat.min_eq_left hj
    refine vc_sound _ _ _ ?_
    simp (config := { maxSteps := 2000000 }) only [go_sem, hG, hOw, List.length_range, reduceIte, Nat.reduceLeDiff, Nat.le_refl, Nat.reduceEqDiff, Nat.reduceAdd, Nat.reduceLT, reduceCtorEq, Int.toNat_natCast]
    (repeat' (first | (with_reducible refine And.intro ?_ ?_) | (with_reducible intro _) | (with_reducible refine exP ?_ ?_))); all_goals (try omega)
    · rename_i hlt2
      have hjl : j < r.text[k].lines.length := by omega
      have h1 := take_map_succ (lnE 0) r.text[k].lines j hjl
      have hp : (List.range (j + 1)).map (fun x => (k, x)) = (List.range j).map (fun x => (k, x)) ++ [(k, j)] := by rw [List.range_succ]; simp
      have hmin2 : min (j + 1) r.text[k].lines.length = j + 1 := Nat.min_eq_left (by omega)
      exact ⟨j + 1, by omega, by omega, ent_of [(10, some 10), (90, some 35), (91, some 47)] (by (simp only [go_sem, reduceIte, Nat.reduceLeDiff, Nat.le_refl, Nat.reduceEqDiff, Nat.reduceAdd, Nat.reduceLT, reduceCtorEq, Int.toNat_natCast]) <;> simp [h1,hp,hmin,hmin2,Nat.add_assoc,lnE,strs,plE,i64]) (by (simp only [go_sem, entH, entH1, nilArr, obOK, reduceIte, Nat.reduceLeDiff, Nat.le_refl, Nat.reduceEqDiff, Nat.reduceAdd, Nat.reduceLT, reduceCtorEq, Int.toNat_natCast]) <;> simp [h1,hp,hmin,hmin2,Nat.add_assoc,lnE,strs,plE,i64]) (by simp [injR, apart]) (by simp [coverR, usH]) (by simp [hNm, lkR, names])⟩
    · rename_i hge2
      obtain rfl : j = r.text[k].lines.length := by omega
      refine ⟨k + 1, by omega, by omega, ?_⟩
      rw [linesL_step r.text k hkl, plc_step r.text k hkl, List.take_length]
      exact ent_of [(10, some 10), (90, some 90), (91, some 91)] (by (simp only [go_sem, reduceIte, Nat.reduceLeDiff, Nat.le_refl, Nat.reduceEqDiff, Nat.reduceAdd, Nat.reduceLT, reduceCtorEq, Int.toNat_natCast]) <;> simp [roC]) (by (simp only [go_sem, entH, entH1, nilArr, obOK, reduceIte, Nat.reduceLeDiff, Nat.le_refl, Nat.reduceEqDiff, Nat.reduceAdd, Nat.reduceLT, reduceCtorEq, Int.toNat_natCast]) <;> simp [roC]) (by simp [injR, apart]) (by simp [coverR, usH]) (by simp [hNm, lkR, names])
  · rename_i hge
    obtain rfl : k = r.text.length := by omega
    simp only [List.take_length]
    exact .refl _
end Go.Proofs.Ytgeldamcekjdgaa
