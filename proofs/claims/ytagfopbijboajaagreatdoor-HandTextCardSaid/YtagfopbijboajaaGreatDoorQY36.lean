import Derived.Test.YtagfopbijboajaaGreatDoorQY16
import Derived.Test.YtagfopbijboajaaGreatDoorQY23
import Derived.Test.YtagfopbijboajaaGreatDoorQY35
namespace Go.Proofs.YtagfopbijboajaaGreatDoor
open Go Pm
set_option linter.unusedSimpArgs false
set_option linter.unusedVariables false
set_option maxHeartbeats 4000000
set_option maxRecDepth 100000
def twM2 (lo : Nat) (r : Ro) : List (Nat × OB) := (7, .arr 40 2 (r.sheets.map (seE lo))) :: twM lo r.text
theorem rw6_ren (t : List Ch) (a b c d e f a' b' c' d' e' f' : Nat) {ρ : Ren} (ha : lkR ρ a = some (some a')) (hb : lkR ρ b = some (some b')) (hc : lkR ρ c = some (some c')) (hd : lkR ρ d = some (some d')) (he : lkR ρ e = some (some e')) (hf : lkR ρ f = some (some f')) :
    ∀ k, okLL ρ (rw6 t a b c d e f k) (rw6 t a' b' c' d' e' f' k)
  | 0 => trivial
  | 1 => by simp [rw6, okLL, rowN, okL, okN, ha, i64]
  | 2 => by simp [rw6, okLL, rowN, okL, okN, ha, hb, i64]
  | 3 => by simp [rw6, okLL, rowN, okL, okN, ha, hb, hc, i64]
  | 4 => by simp [rw6, okLL, rowN, okL, okN, ha, hb, hc, hd, i64]
  | 5 => by simp [rw6, okLL, rowN, okL, okN, ha, hb, hc, hd, he, i64]
  | 6 => by simp [rw6, okLL, rowN, okL, okN, ha, hb, hc, hd, he, hf, i64]
  | k + 7 => trivial
theorem rw6_map (t : List Ch) (g : V → V) (hv : ∀ x, g (.v x) = .v x) (a b c d e f a' b' c' d' e' f' : Nat) (ha : ∀ m, g (.own a 0 m 1) = .own a' 0 m 1) (hb : ∀ m, g (.own b 0 m 1) = .own b' 0 m 1) (hc : ∀ m, g (.own c 0 m 1) = .own c' 0 m 1) (hd : ∀ m, g (.own d 0 m 1) = .own d' 0 m 1) (he : ∀ m, g (.own e 0 m 1) = .own e' 0 m 1) (hf : ∀ m, g (.own f 0 m 1) = .own f' 0 m 1) :
    ∀ k, (rw6 t a b c d e f k).map (List.map g) = rw6 t a' b' c' d' e' f' k
  | 0 => rfl
  | 1 => by simp [rw6, rowN, i64, hv, ha]
  | 2 => by simp [rw6, rowN, i64, hv, ha, hb]
  | 3 => by simp [rw6, rowN, i64, hv, ha, hb, hc]
  | 4 => by simp [rw6, rowN, i64, hv, ha, hb, hc, hd]
  | 5 => by simp [rw6, rowN, i64, hv, ha, hb, hc, hd, he]
  | 6 => by simp [rw6, rowN, i64, hv, ha, hb, hc, hd, he, hf]
  | k + 7 => rfl
attribute [go_sem] twM
theorem Twin05_own (r : Ro) (hr : OKr r) (h6 : r.text.length ≤ 6) : Tri Tryz.prog 7 [roE 0 r] [] (fun lo => .ret (.agg [.own 0 0 r.text.length 2, hps lo r.helpers, srs lo r.shares, .own 7 0 r.sheets.length 2]) (twM2 lo r)) := by
  refine tri_intro (fun i => [11,15].contains i) Tryz.func7 Tryz.ntmps7 rfl (by kernel_rfl) (by simp) rfl (by decide) fun G hG hOw hNm => ?_; simp only [go_sem, hG, hOw]
  have hh := hr.h
  have hs := hr.s
  obtain ⟨hx1, hx2⟩ := hr.x
  refine semC_draw ⟨[8, 11, 12, 15, 3, 300, 301, 302, 303, 304, 305, 306], [(7, [300, 301, 302, 303, 304, 305, 306])], [7]⟩ [(0, false), (1, false), (2, false), (3, false), (4, false), (5, false), (6, false), (7, false), (8, false), (9, false), (10, false), (11, false), (12, false), (13, false)] mixed (by kernel_rfl) ?_
  simp only [pickO, List.getElem?_cons_zero, List.getElem?_cons_succ]
  simp only [go_sem, hG, hOw]
  (repeat' with_reducible first | refine And.intro ?_ ?_ | intro _ | refine exP ?_ ?_); all_goals try omega
  have hrw := rw6_map r.text (renT [(0, some 300), (1, some 301), (2, some 302), (3, some 303), (4, some 304), (5, some 305), (6, some 306)] 4) (fun _ => rfl) 1 2 3 4 5 6 301 302 303 304 305 306 (fun _ => rfl) (fun _ => rfl) (fun _ => rfl) (fun _ => rfl) (fun _ => rfl) (fun _ => rfl) r.text.length
  refine ⟨_, callNew [(0, 300), (1, 301), (2, 302), (3, 303), (4, 304), (5, 305), (6, 306)] (Twin01_own r.text hr.t h6) (by (simp only [go_sem]) <;> simp [twM]) rfl (by simp [tgt, nmHas]) (by simp [upT, dropsR, outsR, keepR, usH, lkR, toR, nmHas, twM]) (by simp [newN, usH, tgt, go_sem]) (by simp [hasAll, keepR, usH, lkR, toR, twM]) (by simp [uniqN, usH, twM]), ?_⟩
  simp (maxSteps := 2000000) only [go_sem, hG, hOw, ↓hrw]
  (repeat' with_reducible first | refine And.intro ?_ ?_ | intro _ | refine exP ?_ ?_); all_goals try omega
  refine semC_loop (fun k : Nat => St.of [(1, .ptr 1 0), (2, .ptr 2 0), (3, .ptr 3 0), (4, i64 k)] [(1, .box (roC 0 r)), (2, .box [.v (.slice none 0 0), .v (.slice none 0 0), .v (.slice none 0 0), .v (.slice none 0 0)]), (3, .box [.own 300 0 r.text.length 2, hps G.lo r.helpers, srs G.lo r.shares, .own 9 0 k 2]), (300, .arx 46 2 (rw6 r.text 301 302 303 304 305 306 r.text.length)), (301, .arr 44 1 (A6 G.lo r.text r.text.length 0)), (302, .arr 44 1 (A6 G.lo r.text r.text.length 1)), (303, .arr 44 1 (A6 G.lo r.text r.text.length 2)), (304, .arr 44 1 (A6 G.lo r.text r.text.length 3)), (305, .arr 44 1 (A6 G.lo r.text r.text.length 4)), (306, .arr 44 1 (A6 G.lo r.text r.text.length 5)), (9, .arr 40 2 ((r.sheets.take k).map (seE G.lo)))]) (fun k => k ≤ r.sheets.length) (fun k => r.sheets.length - k) 0 (by simp) (entA [(1, some 1), (2, some 2), (3, some 3), (300, some 300), (301, some 301), (302, some 302), (303, some 303), (304, some 304), (305, some 305), (306, some 306), (9, none)] (by (simp only [go_sem]) <;> simp [rw6_ren,lkR]) (by (simp only [go_sem, entH, entH1, nilArr, obOK]) <;> simp [rw6_ren,lkR])) ?_
  rintro k hk
  have hmin : min k r.sheets.length = k := Nat.min_eq_left hk
  refine vc_sound _ _ _ ?_; simp only [go_sem, hG, hOw]
  (repeat' with_reducible first | refine And.intro ?_ ?_ | intro _ | refine exP ?_ ?_); all_goals try omega
  · rename_i hlt
    have hkl : k < r.sheets.length := by omega
    have h0 := take_snoc_map (seE G.lo) r.sheets k hkl
    refine semC_draw0 mixed (by kernel_rfl) ?_
    simp only [go_sem, hG, hOw]
    (repeat' with_reducible first | refine And.intro ?_ ?_ | intro _ | refine exP ?_ ?_); all_goals try omega
    refine ⟨_, callGivesA (TwinLines_ok r.sheets[k].lines (hx2 _ (List.getElem_mem hkl))), ?_⟩
    simp only [go_sem, hG, hOw]
    (repeat' with_reducible first | refine And.intro ?_ ?_ | intro _ | refine exP ?_ ?_); all_goals try omega
    exact ⟨k + 1, by omega, by omega, entA [(1, some 1), (2, some 2), (3, some 3), (300, some 300), (301, some 301), (302, some 302), (303, some 303), (304, some 304), (305, some 305), (306, some 306), (9, some 41)] (by (simp only [go_sem]) <;> simp [h0,hmin,seE,lns,bl,rw6_ren,lkR]) (by (simp only [go_sem, entH, entH1, nilArr, obOK]) <;> simp [h0,hmin,seE,lns,bl,rw6_ren,lkR])⟩
  · rename_i hge
    obtain rfl : k = r.sheets.length := by omega
    simp only [List.take_length]
    unfold twM2
    exact ⟨[(0, some 300), (1, some 301), (2, some 302), (3, some 303), (4, some 304), (5, some 305), (6, some 306), (7, some 9)], by (simp only [EndT, go_sem, entH, entH1, nilArr, obOK, apart, injR, coverR]) <;> simp [rw6_ren,lkR]⟩
open Go Pm
set_option maxHeartbeats 4000000
set_option maxRecDepth 100000
theorem rw6_len (t : List Ch) (a b c d e f : Nat) {n : Nat} (h6 : n ≤ 6) : (rw6 t a b c d e f n).length = n := by
  match n, h6 with
  | 0, _ => rfl
  | 1, _ => rfl
  | 2, _ => rfl
  | 3, _ => rfl
  | 4, _ => rfl
  | 5, _ => rfl
  | 6, _ => rfl
theorem rw6_get0 (t : List Ch) (a b c d e f : Nat) {n : Nat} (hk : 0 < n) (h6 : n ≤ 6) (h : 0 < (rw6 t a b c d e f n).length) : (rw6 t a b c d e f n)[0]'h = rowN a (chA t 0) := by
  match n, hk, h6, h with
  | 1, _, _, _ => rfl
  | 2, _, _, _ => rfl
  | 3, _, _, _ => rfl
  | 4, _, _, _ => rfl
  | 5, _, _, _ => rfl
  | 6, _, _, _ => rfl
theorem rw6_get1 (t : List Ch) (a b c d e f : Nat) {n : Nat} (hk : 1 < n) (h6 : n ≤ 6) (h : 1 < (rw6 t a b c d e f n).length) : (rw6 t a b c d e f n)[1]'h = rowN b (chA t 1) := by
  match n, hk, h6, h with
  | 2, _, _, _ => rfl
  | 3, _, _, _ => rfl
  | 4, _, _, _ => rfl
  | 5, _, _, _ => rfl
  | 6, _, _, _ => rfl
theorem rw6_get2 (t : List Ch) (a b c d e f : Nat) {n : Nat} (hk : 2 < n) (h6 : n ≤ 6) (h : 2 < (rw6 t a b c d e f n).length) : (rw6 t a b c d e f n)[2]'h = rowN c (chA t 2) := by
  match n, hk, h6, h with
  | 3, _, _, _ => rfl
  | 4, _, _, _ => rfl
  | 5, _, _, _ => rfl
  | 6, _, _, _ => rfl
theorem rw6_get3 (t : List Ch) (a b c d e f : Nat) {n : Nat} (hk : 3 < n) (h6 : n ≤ 6) (h : 3 < (rw6 t a b c d e f n).length) : (rw6 t a b c d e f n)[3]'h = rowN d (chA t 3) := by
  match n, hk, h6, h with
  | 4, _, _, _ => rfl
  | 5, _, _, _ => rfl
  | 6, _, _, _ => rfl
theorem rw6_get4 (t : List Ch) (a b c d e f : Nat) {n : Nat} (hk : 4 < n) (h6 : n ≤ 6) (h : 4 < (rw6 t a b c d e f n).length) : (rw6 t a b c d e f n)[4]'h = rowN e (chA t 4) := by
  match n, hk, h6, h with
  | 5, _, _, _ => rfl
  | 6, _, _, _ => rfl
theorem rw6_get5 (t : List Ch) (a b c d e f : Nat) {n : Nat} (hk : 5 < n) (h6 : n ≤ 6) (h : 5 < (rw6 t a b c d e f n).length) : (rw6 t a b c d e f n)[5]'h = rowN f (chA t 5) := by
  match n, hk, h6, h with
  | 6, _, _, _ => rfl
theorem A6_lt (lo : Nat) {t : List Ch} {n j : Nat} (h : j < n) : A6 lo t n j = (chA t j).lines.map (lnE lo) := if_pos h
def LLk (t : List Ch) (k : Nat) : List (List ByteArray) := linesL (t.take k)
theorem LLk_zero (t : List Ch) : LLk t 0 = [] := rfl
theorem LLk_succ {t : List Ch} {k : Nat} (h : k < t.length) : LLk t (k + 1) = LLk t k ++ t[k].lines := linesL_step t k h
theorem LLk_all {t : List Ch} {k : Nat} (h : t.length = k) : LLk t k = linesL t := by unfold LLk; rw [List.take_of_length_le (by omega)]
def twN (N : Nat) (t : List Ch) : List (Nat × OB) := [(100, .arx 46 2 (rw6 t 101 102 103 104 105 106 t.length)), (101, .arr 44 1 (A6 N t t.length 0)), (102, .arr 44 1 (A6 N t t.length 1)), (103, .arr 44 1 (A6 N t t.length 2)), (104, .arr 44 1 (A6 N t t.length 3)), (105, .arr 44 1 (A6 N t t.length 4)), (106, .arr 44 1 (A6 N t t.length 5))]
attribute [go_sem] twN
theorem Lines_own (N : Nat) (t : List Ch) (ht : OKt t) (h6 : t.length ≤ 6) : Tri Tryz.prog 8 [.agg [.own 100 0 t.length 2]] (twN N t) (fun _ => .ret (.own 108 0 (linesL t).length 1) ((108, .arr 44 1 ((linesL t).map (lnE N))) :: twN N t)) := by
  have htt := ht
  obtain ⟨ht1, ht2⟩ := ht
  unfold twN
  refine tri_intro (fun _ => false) Tryz.func8 Tryz.ntmps8 rfl (by kernel_rfl) (by simp) rfl (by decide) fun G hG hOw hNm => ?_; simp only [go_sem, hG, hOw]
  refine semC_loop (fun k : Nat => St.of [(1, .ptr 1 0), (3, .own 9 0 (LLk t k).length 1), (4, i64 k)] [(1, .box [.own 100 0 t.length 2]), (9, .arr 44 1 ((LLk t k).map (lnE N))), (100, .arx 46 2 (rw6 t 101 102 103 104 105 106 t.length)), (101, .arr 44 1 (A6 N t t.length 0)), (102, .arr 44 1 (A6 N t t.length 1)), (103, .arr 44 1 (A6 N t t.length 2)), (104, .arr 44 1 (A6 N t t.length 3)), (105, .arr 44 1 (A6 N t t.length 4)), (106, .arr 44 1 (A6 N t t.length 5))]) (fun k => k ≤ t.length) (fun k => t.length - k) 0 (by simp) (entA [(1, some 1), (100, some 100), (101, some 101), (102, some 102), (103, some 103), (104, some 104), (105, some 105), (106, some 106), (9, none)] (by (simp only [go_sem]) <;> simp [LLk_zero,rw6_ren,lkR]) (by (simp only [go_sem, entH, entH1, nilArr, obOK]) <;> simp [LLk_zero,rw6_ren,lkR])) ?_
  exact fun k hk => match k, hk with
  | 0, hk => by
    by_cases hlt : 0 < t.length
    · have hch : chA t 0 = t[0] := chA_lt hlt
      obtain ⟨hc1, hc2⟩ := ht2 _ (List.getElem_mem hlt)
      have hlen : (LLk t 0).length ≤ 40 * 0 := linesL_len t htt 0
      have hlen6 := rw6_len t 101 102 103 104 105 106 h6
      have hget := rw6_get0 t 101 102 103 104 105 106 hlt h6
      have hA := A6_lt N (t := t) hlt
      rw [hch] at hget hA
      refine vc_sound _ _ _ ?_
      simp (maxSteps := 2000000) only [go_sem, hG, hOw, hget, hlen6, hA, tn0]
      refine ⟨fun _ => ?_, fun h => absurd (Int.ofNat_lt.2 hlt) h⟩
      (repeat' with_reducible first | refine And.intro ?_ ?_ | intro _ | refine exP ?_ ?_); all_goals try omega
      refine semC_loop (fun j : Nat => St.of [(1, .ptr 1 0), (3, .own 9 0 (LLk t 0 ++ t[0].lines.take j).length 1), (4, i64 (0 : Nat)), (5, i64 j)] [(1, .box [.own 100 0 t.length 2]), (9, .arr 44 1 ((LLk t 0 ++ t[0].lines.take j).map (lnE N))), (100, .arx 46 2 (rw6 t 101 102 103 104 105 106 t.length)), (101, .arr 44 1 (A6 N t t.length 0)), (102, .arr 44 1 (A6 N t t.length 1)), (103, .arr 44 1 (A6 N t t.length 2)), (104, .arr 44 1 (A6 N t t.length 3)), (105, .arr 44 1 (A6 N t t.length 4)), (106, .arr 44 1 (A6 N t t.length 5))]) (fun j => j ≤ t[0].lines.length) (fun j => t[0].lines.length - j) 0 (by simp) (entA [(1, some 1), (100, some 100), (101, some 101), (102, some 102), (103, some 103), (104, some 104), (105, some 105), (106, some 106), (9, some 9)] (by (simp only [go_sem]) <;> simp [hA,rw6_ren,lkR]) (by (simp only [go_sem, entH, entH1, nilArr, obOK]) <;> simp [hA,rw6_ren,lkR])) ?_
      rintro j hj
      have hl2 : (LLk t 0 ++ t[0].lines.take j).length = (LLk t 0).length + j := by rw [List.length_append, List.length_take]; omega
      refine vc_sound _ _ _ ?_
      simp (maxSteps := 2000000) only [go_sem, hG, hOw, hget, hlen6, hA, tn0]
      (repeat' with_reducible first | refine And.intro ?_ ?_ | intro _ | refine exP ?_ ?_); all_goals try omega
      · rename_i hlt2
        have hjl : j < t[0].lines.length := by omega
        have hmin : min j t[0].lines.length = j := Nat.min_eq_left hj
        have h1 := take_map_succ (lnE N) t[0].lines j hjl
        have hmin2 : min (j + 1) t[0].lines.length = j + 1 := Nat.min_eq_left (by omega)
        exact ⟨j + 1, by omega, by omega, entA [(1, some 1), (100, some 100), (101, some 101), (102, some 102), (103, some 103), (104, some 104), (105, some 105), (106, some 106), (9, some 35)] (by (simp only [go_sem]) <;> simp [h1,hmin,hmin2,Nat.add_assoc,lnE,strs,rw6_ren,lkR]) (by (simp only [go_sem, entH, entH1, nilArr, obOK]) <;> simp [h1,hmin,hmin2,Nat.add_assoc,lnE,strs,rw6_ren,lkR])⟩
      · rename_i hge2
        have hj2 : j = t[0].lines.length := by omega
        refine ⟨1, by omega, by omega, ?_⟩
        rw [LLk_succ hlt, hj2, List.take_length]
        exact entA [(1, some 1), (100, some 100), (101, some 101), (102, some 102), (103, some 103), (104, some 104), (105, some 105), (106, some 106), (9, some 9)] (by (simp only [go_sem]) <;> simp [hA,rw6_ren,lkR]) (by (simp only [go_sem, entH, entH1, nilArr, obOK]) <;> simp [hA,rw6_ren,lkR])
    · have hK : t.length = 0 := by omega
      refine vc_sound _ _ _ ?_
      simp only [go_sem, hG, hOw]
      refine ⟨fun h => absurd (Int.ofNat_lt.1 h) hlt, fun _ => ?_⟩
      have hall := LLk_all hK
      rw [hall]
      exact ⟨[(100, some 100), (101, some 101), (102, some 102), (103, some 103), (104, some 104), (105, some 105), (106, some 106), (108, some 9)], by (simp only [EndT, go_sem, entH, entH1, nilArr, obOK, apart, injR, coverR]) <;> simp [rw6_ren,lkR]⟩
  | 1, hk => by
    by_cases hlt : 1 < t.length
    · have hch : chA t 1 = t[1] := chA_lt hlt
      obtain ⟨hc1, hc2⟩ := ht2 _ (List.getElem_mem hlt)
      have hlen : (LLk t 1).length ≤ 40 * 1 := linesL_len t htt 1
      have hlen6 := rw6_len t 101 102 103 104 105 106 h6
      have hget := rw6_get1 t 101 102 103 104 105 106 hlt h6
      have hA := A6_lt N (t := t) hlt
      rw [hch] at hget hA
      refine vc_sound _ _ _ ?_
      simp (maxSteps := 2000000) only [go_sem, hG, hOw, hget, hlen6, hA, tn1]
      refine ⟨fun _ => ?_, fun h => absurd (Int.ofNat_lt.2 hlt) h⟩
      (repeat' with_reducible first | refine And.intro ?_ ?_ | intro _ | refine exP ?_ ?_); all_goals try omega
      refine semC_loop (fun j : Nat => St.of [(1, .ptr 1 0), (3, .own 9 0 (LLk t 1 ++ t[1].lines.take j).length 1), (4, i64 (1 : Nat)), (5, i64 j)] [(1, .box [.own 100 0 t.length 2]), (9, .arr 44 1 ((LLk t 1 ++ t[1].lines.take j).map (lnE N))), (100, .arx 46 2 (rw6 t 101 102 103 104 105 106 t.length)), (101, .arr 44 1 (A6 N t t.length 0)), (102, .arr 44 1 (A6 N t t.length 1)), (103, .arr 44 1 (A6 N t t.length 2)), (104, .arr 44 1 (A6 N t t.length 3)), (105, .arr 44 1 (A6 N t t.length 4)), (106, .arr 44 1 (A6 N t t.length 5))]) (fun j => j ≤ t[1].lines.length) (fun j => t[1].lines.length - j) 0 (by simp) (entA [(1, some 1), (100, some 100), (101, some 101), (102, some 102), (103, some 103), (104, some 104), (105, some 105), (106, some 106), (9, some 9)] (by (simp only [go_sem]) <;> simp [hA,rw6_ren,lkR]) (by (simp only [go_sem, entH, entH1, nilArr, obOK]) <;> simp [hA,rw6_ren,lkR])) ?_
      rintro j hj
      have hl2 : (LLk t 1 ++ t[1].lines.take j).length = (LLk t 1).length + j := by rw [List.length_append, List.length_take]; omega
      refine vc_sound _ _ _ ?_
      simp (maxSteps := 2000000) only [go_sem, hG, hOw, hget, hlen6, hA, tn1]
      (repeat' with_reducible first | refine And.intro ?_ ?_ | intro _ | refine exP ?_ ?_); all_goals try omega
      · rename_i hlt2
        have hjl : j < t[1].lines.length := by omega
        have hmin : min j t[1].lines.length = j := Nat.min_eq_left hj
        have h1 := take_map_succ (lnE N) t[1].lines j hjl
        have hmin2 : min (j + 1) t[1].lines.length = j + 1 := Nat.min_eq_left (by omega)
        exact ⟨j + 1, by omega, by omega, entA [(1, some 1), (100, some 100), (101, some 101), (102, some 102), (103, some 103), (104, some 104), (105, some 105), (106, some 106), (9, some 35)] (by (simp only [go_sem]) <;> simp [h1,hmin,hmin2,Nat.add_assoc,lnE,strs,rw6_ren,lkR]) (by (simp only [go_sem, entH, entH1, nilArr, obOK]) <;> simp [h1,hmin,hmin2,Nat.add_assoc,lnE,strs,rw6_ren,lkR])⟩
      · rename_i hge2
        have hj2 : j = t[1].lines.length := by omega
        refine ⟨2, by omega, by omega, ?_⟩
        rw [LLk_succ hlt, hj2, List.take_length]
        exact entA [(1, some 1), (100, some 100), (101, some 101), (102, some 102), (103, some 103), (104, some 104), (105, some 105), (106, some 106), (9, some 9)] (by (simp only [go_sem]) <;> simp [hA,rw6_ren,lkR]) (by (simp only [go_sem, entH, entH1, nilArr, obOK]) <;> simp [hA,rw6_ren,lkR])
    · have hK : t.length = 1 := by omega
      refine vc_sound _ _ _ ?_
      simp only [go_sem, hG, hOw]
      refine ⟨fun h => absurd (Int.ofNat_lt.1 h) hlt, fun _ => ?_⟩
      have hall := LLk_all hK
      rw [hall]
      exact ⟨[(100, some 100), (101, some 101), (102, some 102), (103, some 103), (104, some 104), (105, some 105), (106, some 106), (108, some 9)], by (simp only [EndT, go_sem, entH, entH1, nilArr, obOK, apart, injR, coverR]) <;> simp [rw6_ren,lkR]⟩
  | 2, hk => by
    by_cases hlt : 2 < t.length
    · have hch : chA t 2 = t[2] := chA_lt hlt
      obtain ⟨hc1, hc2⟩ := ht2 _ (List.getElem_mem hlt)
      have hlen : (LLk t 2).length ≤ 40 * 2 := linesL_len t htt 2
      have hlen6 := rw6_len t 101 102 103 104 105 106 h6
      have hget := rw6_get2 t 101 102 103 104 105 106 hlt h6
      have hA := A6_lt N (t := t) hlt
      rw [hch] at hget hA
      refine vc_sound _ _ _ ?_
      simp (maxSteps := 2000000) only [go_sem, hG, hOw, hget, hlen6, hA, tn2]
      refine ⟨fun _ => ?_, fun h => absurd (Int.ofNat_lt.2 hlt) h⟩
      (repeat' with_reducible first | refine And.intro ?_ ?_ | intro _ | refine exP ?_ ?_); all_goals try omega
      refine semC_loop (fun j : Nat => St.of [(1, .ptr 1 0), (3, .own 9 0 (LLk t 2 ++ t[2].lines.take j).length 1), (4, i64 (2 : Nat)), (5, i64 j)] [(1, .box [.own 100 0 t.length 2]), (9, .arr 44 1 ((LLk t 2 ++ t[2].lines.take j).map (lnE N))), (100, .arx 46 2 (rw6 t 101 102 103 104 105 106 t.length)), (101, .arr 44 1 (A6 N t t.length 0)), (102, .arr 44 1 (A6 N t t.length 1)), (103, .arr 44 1 (A6 N t t.length 2)), (104, .arr 44 1 (A6 N t t.length 3)), (105, .arr 44 1 (A6 N t t.length 4)), (106, .arr 44 1 (A6 N t t.length 5))]) (fun j => j ≤ t[2].lines.length) (fun j => t[2].lines.length - j) 0 (by simp) (entA [(1, some 1), (100, some 100), (101, some 101), (102, some 102), (103, some 103), (104, some 104), (105, some 105), (106, some 106), (9, some 9)] (by (simp only [go_sem]) <;> simp [hA,rw6_ren,lkR]) (by (simp only [go_sem, entH, entH1, nilArr, obOK]) <;> simp [hA,rw6_ren,lkR])) ?_
      rintro j hj
      have hl2 : (LLk t 2 ++ t[2].lines.take j).length = (LLk t 2).length + j := by rw [List.length_append, List.length_take]; omega
      refine vc_sound _ _ _ ?_
      simp (maxSteps := 2000000) only [go_sem, hG, hOw, hget, hlen6, hA, tn2]
      (repeat' with_reducible first | refine And.intro ?_ ?_ | intro _ | refine exP ?_ ?_); all_goals try omega
      · rename_i hlt2
        have hjl : j < t[2].lines.length := by omega
        have hmin : min j t[2].lines.length = j := Nat.min_eq_left hj
        have h1 := take_map_succ (lnE N) t[2].lines j hjl
        have hmin2 : min (j + 1) t[2].lines.length = j + 1 := Nat.min_eq_left (by omega)
        exact ⟨j + 1, by omega, by omega, entA [(1, some 1), (100, some 100), (101, some 101), (102, some 102), (103, some 103), (104, some 104), (105, some 105), (106, some 106), (9, some 35)] (by (simp only [go_sem]) <;> simp [h1,hmin,hmin2,Nat.add_assoc,lnE,strs,rw6_ren,lkR]) (by (simp only [go_sem, entH, entH1, nilArr, obOK]) <;> simp [h1,hmin,hmin2,Nat.add_assoc,lnE,strs,rw6_ren,lkR])⟩
      · rename_i hge2
        have hj2 : j = t[2].lines.length := by omega
        refine ⟨3, by omega, by omega, ?_⟩
        rw [LLk_succ hlt, hj2, List.take_length]
        exact entA [(1, some 1), (100, some 100), (101, some 101), (102, some 102), (103, some 103), (104, some 104), (105, some 105), (106, some 106), (9, some 9)] (by (simp only [go_sem]) <;> simp [hA,rw6_ren,lkR]) (by (simp only [go_sem, entH, entH1, nilArr, obOK]) <;> simp [hA,rw6_ren,lkR])
    · have hK : t.length = 2 := by omega
      refine vc_sound _ _ _ ?_
      simp only [go_sem, hG, hOw]
      refine ⟨fun h => absurd (Int.ofNat_lt.1 h) hlt, fun _ => ?_⟩
      have hall := LLk_all hK
      rw [hall]
      exact ⟨[(100, some 100), (101, some 101), (102, some 102), (103, some 103), (104, some 104), (105, some 105), (106, some 106), (108, some 9)], by (simp only [EndT, go_sem, entH, entH1, nilArr, obOK, apart, injR, coverR]) <;> simp [rw6_ren,lkR]⟩
  | 3, hk => by
    by_cases hlt : 3 < t.length
    · have hch : chA t 3 = t[3] := chA_lt hlt
      obtain ⟨hc1, hc2⟩ := ht2 _ (List.getElem_mem hlt)
      have hlen : (LLk t 3).length ≤ 40 * 3 := linesL_len t htt 3
      have hlen6 := rw6_len t 101 102 103 104 105 106 h6
      have hget := rw6_get3 t 101 102 103 104 105 106 hlt h6
      have hA := A6_lt N (t := t) hlt
      rw [hch] at hget hA
      refine vc_sound _ _ _ ?_
      simp (maxSteps := 2000000) only [go_sem, hG, hOw, hget, hlen6, hA, tn3]
      refine ⟨fun _ => ?_, fun h => absurd (Int.ofNat_lt.2 hlt) h⟩
      (repeat' with_reducible first | refine And.intro ?_ ?_ | intro _ | refine exP ?_ ?_); all_goals try omega
      refine semC_loop (fun j : Nat => St.of [(1, .ptr 1 0), (3, .own 9 0 (LLk t 3 ++ t[3].lines.take j).length 1), (4, i64 (3 : Nat)), (5, i64 j)] [(1, .box [.own 100 0 t.length 2]), (9, .arr 44 1 ((LLk t 3 ++ t[3].lines.take j).map (lnE N))), (100, .arx 46 2 (rw6 t 101 102 103 104 105 106 t.length)), (101, .arr 44 1 (A6 N t t.length 0)), (102, .arr 44 1 (A6 N t t.length 1)), (103, .arr 44 1 (A6 N t t.length 2)), (104, .arr 44 1 (A6 N t t.length 3)), (105, .arr 44 1 (A6 N t t.length 4)), (106, .arr 44 1 (A6 N t t.length 5))]) (fun j => j ≤ t[3].lines.length) (fun j => t[3].lines.length - j) 0 (by simp) (entA [(1, some 1), (100, some 100), (101, some 101), (102, some 102), (103, some 103), (104, some 104), (105, some 105), (106, some 106), (9, some 9)] (by (simp only [go_sem]) <;> simp [hA,rw6_ren,lkR]) (by (simp only [go_sem, entH, entH1, nilArr, obOK]) <;> simp [hA,rw6_ren,lkR])) ?_
      rintro j hj
      have hl2 : (LLk t 3 ++ t[3].lines.take j).length = (LLk t 3).length + j := by rw [List.length_append, List.length_take]; omega
      refine vc_sound _ _ _ ?_
      simp (maxSteps := 2000000) only [go_sem, hG, hOw, hget, hlen6, hA, tn3]
      (repeat' with_reducible first | refine And.intro ?_ ?_ | intro _ | refine exP ?_ ?_); all_goals try omega
      · rename_i hlt2
        have hjl : j < t[3].lines.length := by omega
        have hmin : min j t[3].lines.length = j := Nat.min_eq_left hj
        have h1 := take_map_succ (lnE N) t[3].lines j hjl
        have hmin2 : min (j + 1) t[3].lines.length = j + 1 := Nat.min_eq_left (by omega)
        exact ⟨j + 1, by omega, by omega, entA [(1, some 1), (100, some 100), (101, some 101), (102, some 102), (103, some 103), (104, some 104), (105, some 105), (106, some 106), (9, some 35)] (by (simp only [go_sem]) <;> simp [h1,hmin,hmin2,Nat.add_assoc,lnE,strs,rw6_ren,lkR]) (by (simp only [go_sem, entH, entH1, nilArr, obOK]) <;> simp [h1,hmin,hmin2,Nat.add_assoc,lnE,strs,rw6_ren,lkR])⟩
      · rename_i hge2
        have hj2 : j = t[3].lines.length := by omega
        refine ⟨4, by omega, by omega, ?_⟩
        rw [LLk_succ hlt, hj2, List.take_length]
        exact entA [(1, some 1), (100, some 100), (101, some 101), (102, some 102), (103, some 103), (104, some 104), (105, some 105), (106, some 106), (9, some 9)] (by (simp only [go_sem]) <;> simp [hA,rw6_ren,lkR]) (by (simp only [go_sem, entH, entH1, nilArr, obOK]) <;> simp [hA,rw6_ren,lkR])
    · have hK : t.length = 3 := by omega
      refine vc_sound _ _ _ ?_
      simp only [go_sem, hG, hOw]
      refine ⟨fun h => absurd (Int.ofNat_lt.1 h) hlt, fun _ => ?_⟩
      have hall := LLk_all hK
      rw [hall]
      exact ⟨[(100, some 100), (101, some 101), (102, some 102), (103, some 103), (104, some 104), (105, some 105), (106, some 106), (108, some 9)], by (simp only [EndT, go_sem, entH, entH1, nilArr, obOK, apart, injR, coverR]) <;> simp [rw6_ren,lkR]⟩
  | 4, hk => by
    by_cases hlt : 4 < t.length
    · have hch : chA t 4 = t[4] := chA_lt hlt
      obtain ⟨hc1, hc2⟩ := ht2 _ (List.getElem_mem hlt)
      have hlen : (LLk t 4).length ≤ 40 * 4 := linesL_len t htt 4
      have hlen6 := rw6_len t 101 102 103 104 105 106 h6
      have hget := rw6_get4 t 101 102 103 104 105 106 hlt h6
      have hA := A6_lt N (t := t) hlt
      rw [hch] at hget hA
      refine vc_sound _ _ _ ?_
      simp (maxSteps := 2000000) only [go_sem, hG, hOw, hget, hlen6, hA, tn4]
      refine ⟨fun _ => ?_, fun h => absurd (Int.ofNat_lt.2 hlt) h⟩
      (repeat' with_reducible first | refine And.intro ?_ ?_ | intro _ | refine exP ?_ ?_); all_goals try omega
      refine semC_loop (fun j : Nat => St.of [(1, .ptr 1 0), (3, .own 9 0 (LLk t 4 ++ t[4].lines.take j).length 1), (4, i64 (4 : Nat)), (5, i64 j)] [(1, .box [.own 100 0 t.length 2]), (9, .arr 44 1 ((LLk t 4 ++ t[4].lines.take j).map (lnE N))), (100, .arx 46 2 (rw6 t 101 102 103 104 105 106 t.length)), (101, .arr 44 1 (A6 N t t.length 0)), (102, .arr 44 1 (A6 N t t.length 1)), (103, .arr 44 1 (A6 N t t.length 2)), (104, .arr 44 1 (A6 N t t.length 3)), (105, .arr 44 1 (A6 N t t.length 4)), (106, .arr 44 1 (A6 N t t.length 5))]) (fun j => j ≤ t[4].lines.length) (fun j => t[4].lines.length - j) 0 (by simp) (entA [(1, some 1), (100, some 100), (101, some 101), (102, some 102), (103, some 103), (104, some 104), (105, some 105), (106, some 106), (9, some 9)] (by (simp only [go_sem]) <;> simp [hA,rw6_ren,lkR]) (by (simp only [go_sem, entH, entH1, nilArr, obOK]) <;> simp [hA,rw6_ren,lkR])) ?_
      rintro j hj
      have hl2 : (LLk t 4 ++ t[4].lines.take j).length = (LLk t 4).length + j := by rw [List.length_append, List.length_take]; omega
      refine vc_sound _ _ _ ?_
      simp (maxSteps := 2000000) only [go_sem, hG, hOw, hget, hlen6, hA, tn4]
      (repeat' with_reducible first | refine And.intro ?_ ?_ | intro _ | refine exP ?_ ?_); all_goals try omega
      · rename_i hlt2
        have hjl : j < t[4].lines.length := by omega
        have hmin : min j t[4].lines.length = j := Nat.min_eq_left hj
        have h1 := take_map_succ (lnE N) t[4].lines j hjl
        have hmin2 : min (j + 1) t[4].lines.length = j + 1 := Nat.min_eq_left (by omega)
        exact ⟨j + 1, by omega, by omega, entA [(1, some 1), (100, some 100), (101, some 101), (102, some 102), (103, some 103), (104, some 104), (105, some 105), (106, some 106), (9, some 35)] (by (simp only [go_sem]) <;> simp [h1,hmin,hmin2,Nat.add_assoc,lnE,strs,rw6_ren,lkR]) (by (simp only [go_sem, entH, entH1, nilArr, obOK]) <;> simp [h1,hmin,hmin2,Nat.add_assoc,lnE,strs,rw6_ren,lkR])⟩
      · rename_i hge2
        have hj2 : j = t[4].lines.length := by omega
        refine ⟨5, by omega, by omega, ?_⟩
        rw [LLk_succ hlt, hj2, List.take_length]
        exact entA [(1, some 1), (100, some 100), (101, some 101), (102, some 102), (103, some 103), (104, some 104), (105, some 105), (106, some 106), (9, some 9)] (by (simp only [go_sem]) <;> simp [hA,rw6_ren,lkR]) (by (simp only [go_sem, entH, entH1, nilArr, obOK]) <;> simp [hA,rw6_ren,lkR])
    · have hK : t.length = 4 := by omega
      refine vc_sound _ _ _ ?_
      simp only [go_sem, hG, hOw]
      refine ⟨fun h => absurd (Int.ofNat_lt.1 h) hlt, fun _ => ?_⟩
      have hall := LLk_all hK
      rw [hall]
      exact ⟨[(100, some 100), (101, some 101), (102, some 102), (103, some 103), (104, some 104), (105, some 105), (106, some 106), (108, some 9)], by (simp only [EndT, go_sem, entH, entH1, nilArr, obOK, apart, injR, coverR]) <;> simp [rw6_ren,lkR]⟩
  | 5, hk => by
    by_cases hlt : 5 < t.length
    · have hch : chA t 5 = t[5] := chA_lt hlt
      obtain ⟨hc1, hc2⟩ := ht2 _ (List.getElem_mem hlt)
      have hlen : (LLk t 5).length ≤ 40 * 5 := linesL_len t htt 5
      have hlen6 := rw6_len t 101 102 103 104 105 106 h6
      have hget := rw6_get5 t 101 102 103 104 105 106 hlt h6
      have hA := A6_lt N (t := t) hlt
      rw [hch] at hget hA
      refine vc_sound _ _ _ ?_
      simp (maxSteps := 2000000) only [go_sem, hG, hOw, hget, hlen6, hA, tn5]
      refine ⟨fun _ => ?_, fun h => absurd (Int.ofNat_lt.2 hlt) h⟩
      (repeat' with_reducible first | refine And.intro ?_ ?_ | intro _ | refine exP ?_ ?_); all_goals try omega
      refine semC_loop (fun j : Nat => St.of [(1, .ptr 1 0), (3, .own 9 0 (LLk t 5 ++ t[5].lines.take j).length 1), (4, i64 (5 : Nat)), (5, i64 j)] [(1, .box [.own 100 0 t.length 2]), (9, .arr 44 1 ((LLk t 5 ++ t[5].lines.take j).map (lnE N))), (100, .arx 46 2 (rw6 t 101 102 103 104 105 106 t.length)), (101, .arr 44 1 (A6 N t t.length 0)), (102, .arr 44 1 (A6 N t t.length 1)), (103, .arr 44 1 (A6 N t t.length 2)), (104, .arr 44 1 (A6 N t t.length 3)), (105, .arr 44 1 (A6 N t t.length 4)), (106, .arr 44 1 (A6 N t t.length 5))]) (fun j => j ≤ t[5].lines.length) (fun j => t[5].lines.length - j) 0 (by simp) (entA [(1, some 1), (100, some 100), (101, some 101), (102, some 102), (103, some 103), (104, some 104), (105, some 105), (106, some 106), (9, some 9)] (by (simp only [go_sem]) <;> simp [hA,rw6_ren,lkR]) (by (simp only [go_sem, entH, entH1, nilArr, obOK]) <;> simp [hA,rw6_ren,lkR])) ?_
      rintro j hj
      have hl2 : (LLk t 5 ++ t[5].lines.take j).length = (LLk t 5).length + j := by rw [List.length_append, List.length_take]; omega
      refine vc_sound _ _ _ ?_
      simp (maxSteps := 2000000) only [go_sem, hG, hOw, hget, hlen6, hA, tn5]
      (repeat' with_reducible first | refine And.intro ?_ ?_ | intro _ | refine exP ?_ ?_); all_goals try omega
      · rename_i hlt2
        have hjl : j < t[5].lines.length := by omega
        have hmin : min j t[5].lines.length = j := Nat.min_eq_left hj
        have h1 := take_map_succ (lnE N) t[5].lines j hjl
        have hmin2 : min (j + 1) t[5].lines.length = j + 1 := Nat.min_eq_left (by omega)
        exact ⟨j + 1, by omega, by omega, entA [(1, some 1), (100, some 100), (101, some 101), (102, some 102), (103, some 103), (104, some 104), (105, some 105), (106, some 106), (9, some 35)] (by (simp only [go_sem]) <;> simp [h1,hmin,hmin2,Nat.add_assoc,lnE,strs,rw6_ren,lkR]) (by (simp only [go_sem, entH, entH1, nilArr, obOK]) <;> simp [h1,hmin,hmin2,Nat.add_assoc,lnE,strs,rw6_ren,lkR])⟩
      · rename_i hge2
        have hj2 : j = t[5].lines.length := by omega
        refine ⟨6, by omega, by omega, ?_⟩
        rw [LLk_succ hlt, hj2, List.take_length]
        exact entA [(1, some 1), (100, some 100), (101, some 101), (102, some 102), (103, some 103), (104, some 104), (105, some 105), (106, some 106), (9, some 9)] (by (simp only [go_sem]) <;> simp [hA,rw6_ren,lkR]) (by (simp only [go_sem, entH, entH1, nilArr, obOK]) <;> simp [hA,rw6_ren,lkR])
    · have hK : t.length = 5 := by omega
      refine vc_sound _ _ _ ?_
      simp only [go_sem, hG, hOw]
      refine ⟨fun h => absurd (Int.ofNat_lt.1 h) hlt, fun _ => ?_⟩
      have hall := LLk_all hK
      rw [hall]
      exact ⟨[(100, some 100), (101, some 101), (102, some 102), (103, some 103), (104, some 104), (105, some 105), (106, some 106), (108, some 9)], by (simp only [EndT, go_sem, entH, entH1, nilArr, obOK, apart, injR, coverR]) <;> simp [rw6_ren,lkR]⟩
  | 6, hk => by
    have hK : t.length = 6 := by omega
    refine vc_sound _ _ _ ?_
    simp only [go_sem, hG, hOw]
    refine ⟨fun h => absurd (Int.ofNat_lt.1 h) (by omega), fun _ => ?_⟩
    have hall := LLk_all hK
    rw [hall]
    exact ⟨[(100, some 100), (101, some 101), (102, some 102), (103, some 103), (104, some 104), (105, some 105), (106, some 106), (108, some 9)], by (simp only [EndT, go_sem, entH, entH1, nilArr, obOK, apart, injR, coverR]) <;> simp [rw6_ren,lkR]⟩
  | k + 7, hk => absurd hk (by omega)
end Go.Proofs.YtagfopbijboajaaGreatDoor
