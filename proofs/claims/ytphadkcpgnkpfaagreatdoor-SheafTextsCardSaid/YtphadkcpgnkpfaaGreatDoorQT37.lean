import Derived.Test.YtphadkcpgnkpfaaGreatDoorQT28
import Derived.Test.YtphadkcpgnkpfaaGreatDoorQT36
namespace Go.Proofs.YtphadkcpgnkpfaaGreatDoor
open Go Pm Go.RowKit Go.Sort
set_option linter.unusedSimpArgs false
set_option linter.unusedVariables false
set_option maxRecDepth 100000
set_option maxHeartbeats 4000000
def accR (t : List Ch) (n : Nat) : List (List V) := match t.getLast? with
  | none => []
  | some c => t.dropLast.map (chE 0) ++ [[i64 c.id, .own n 0 c.lines.length 1]]
def accL (t : List Ch) : List (List ByteArray) := match t.getLast? with
  | none => []
  | some c => c.lines
theorem accR_nil (n : Nat) : accR [] n = [] := rfl
theorem accL_nil : accL [] = [] := rfl
theorem accR_snoc (i : List Ch) (c : Ch) (n : Nat) : accR (i ++ [c]) n = i.map (chE 0) ++ [[i64 c.id, .own n 0 c.lines.length 1]] := by simp [accR]
theorem accL_snoc (i : List Ch) (c : Ch) : accL (i ++ [c]) = c.lines := by simp [accL]
theorem snoc_cases {α : Type} (t : List α) : t = [] ∨ ∃ i c, t = i ++ [c] := by
  rcases List.eq_nil_or_concat t with h | ⟨i, c, h⟩
  · exact .inl h
  · exact .inr ⟨i, c, by simpa using h⟩
theorem okLL_chs {ρ : Ren} {lo : Nat} {r r' : List (List V)} (h : okLL ρ r r') : ∀ i : List Ch, okLL ρ (i.map (chE lo) ++ r) (i.map (chE lo) ++ r')
  | [] => by simpa using h
  | c :: i => by
    rw [List.map_cons, List.cons_append, List.cons_append]
    exact ⟨⟨rfl, .inl rfl, trivial⟩, okLL_chs h i⟩
theorem okLL_chs_inv {ρ : Ren} {lo : Nat} {r r' : List (List V)} : ∀ i : List Ch, okLL ρ (i.map (chE lo) ++ r) (i.map (chE lo) ++ r') → okLL ρ r r'
  | [], h => by simpa using h
  | c :: i, h => by
    rw [List.map_cons, List.cons_append, List.cons_append] at h
    exact okLL_chs_inv i h.2
theorem okLL_chs_eq {ρ : Ren} {lo : Nat} (i : List Ch) (r r' : List (List V)) : okLL ρ (i.map (chE lo) ++ r) (i.map (chE lo) ++ r') = okLL ρ r r' := propext ⟨okLL_chs_inv i, fun h => okLL_chs h i⟩
theorem chs_vwF {p : Nat → Bool} {l : Nat} {s : St} {lo : Nat} (i : List Ch) (r : List (List V)) : (i.map (chE lo) ++ r).map (List.map (vwF p l s 4)) = i.map (chE lo) ++ r.map (List.map (vwF p l s 4)) := by
  rw [List.map_append, List.map_map]
  congr 1
theorem accR_ren (t : List Ch) {ρ : Ren} {a b : Nat} (h : lkR ρ a = some (some b)) : okLL ρ (accR t a) (accR t b) := by
  rcases snoc_cases t with rfl | ⟨i, c, rfl⟩
  · exact trivial
  · rw [accR_snoc, accR_snoc]
    refine okLL_chs ?_ i
    simp [okLL, okL, okN, h, i64]
theorem accR_map (t : List Ch) (g : V → V) (hv : ∀ x, g (.v x) = .v x) (hl : ∀ lo sz l, g (.lst lo sz l) = .lst lo sz l) {a b : Nat} (h : ∀ m, g (.own a 0 m 1) = .own b 0 m 1) : (accR t a).map (List.map g) = accR t b := by
  rcases snoc_cases t with rfl | ⟨i, c, rfl⟩
  · rfl
  · rw [accR_snoc, accR_snoc, List.map_append, List.map_map]
    congr 1
    · refine List.map_congr_left fun d _ => ?_
      simp [chE, i64, lns, hv, hl]
    · simp [i64, hv, h]
theorem isX_own {s : St} {el sz : Nat} (id : Nat) (l : List (List V)) {n : Nat} (hn : n = l.length) (h : s.hget id = some (.arx el sz l)) : IsArrX s el sz (.own id 0 n sz) l (some id) := by
  subst hn
  exact .own id l h
theorem by_chapter (lo : Nat) (t : List Ch) (r : List ByteArray) (x : ByteArray) (v : Int) (hx : x.size ≤ 100000) (hv : valueS x = some v) (ht : t.length ≤ 1000) :
    Tri Tryz.prog 30 [str chapterS, .ptr 1 0, .ptr 0 0] [(0, .box [.own 2 0 t.length 2]), (1, .box [strs lo (x :: r)]), (2, .arx 55 2 (accR t 3)), (3, .arr 28 1 ((accL t).map (lnE 0)))]
      (fun _ => .ret (.tup []) [(0, .box [.own 4 0 (t ++ [Ch.mk v []]).length 2]), (1, .box [strs lo r]), (4, .arx 55 2 (accR (t ++ [Ch.mk v []]) 5)), (5, .arr 28 1 ((accL (t ++ [Ch.mk v []])).map (lnE 0)))]) := by
  unfold chapterS
  rw [accR_snoc, accL_snoc]
  rcases snoc_cases t with rfl | ⟨i, c, rfl⟩
  · rw [accR_nil, accL_nil]
    refine tri_intro (fun _ => false) Tryz.func30 Tryz.ntmps30 rfl (by kernel_rfl) (by simp) rfl (by decide) fun G hG hOw hNm => ?_; simp only [go_sem, hG, hOw]
    (repeat' with_reducible first | refine And.intro ?_ ?_ | intro _ | refine exP ?_ ?_); all_goals try omega
    refine semC_draw ⟨[1, 16, 17, 18], [(14, [1]), (18, [0])], [14]⟩ [(0, false), (1, false), (2, false), (3, false), (4, false), (5, false), (6, true), (7, false), (8, false)] mixed (by kernel_rfl) ?_
    simp only [pickO, List.getElem?_cons_zero, List.getElem?_cons_succ]
    simp only [go_sem, hG, hOw]
    (repeat' with_reducible first | refine And.intro ?_ ?_ | intro _ | refine exP ?_ ?_); all_goals try omega
    refine ⟨_, callMod [(0, 1)] [] (number_yes lo x r v hx hv) (by (simp only [go_sem]) <;> simp) (by (simp only [go_sem, entH, entH1, nilArr, obOK]) <;> simp) (by simp [injR, apart, toR]) (by simp [coverR, usH, toR]) (by simp [uniqP, lkR, toR]) rfl (by simp [tgt, nmHas]) (by simp [tgt, nmHas]) (by simp [upT, dropsR, outsR, keepR, usH, lkR, toR, nmHas]) (by simp [newN, usH, tgt, go_sem]) (by simp [hasAll, keepR, usH, lkR, toR]) (by simp [uniqN, usH]), ?_⟩
    simp only [go_sem, hG, hOw]
    (repeat' with_reducible first | refine And.intro ?_ ?_ | intro _ | refine exP ?_ ?_); all_goals try omega
    refine appx_step (el := 55) (sz := 2) (x := .own 2 0 0 2) (y := .lst G.lo 2 [[i64 v, .v (.slice none 0 0)]]) (l := []) (new := [[i64 v, .v (.slice none 0 0)]]) (io := some 2) rfl ?_ ?_ rfl ?_ ?_ ?_ ?_ tb_sliceElem_22 (by kernel_rfl) tb_bytesK_55 (by decide) rfl (Nat.le_of_ble_eq_true rfl) (Nat.le_of_ble_eq_true rfl) ?_
    · simp [go_sem]
    · simp [go_sem]
    · rw [hG]; decide
    · simp [go_sem]
    · exact IsArrX.own 2 [] (by simp [go_sem])
    · exact .src _ _ (.lst ..)
    simp only [go_sem, hG, hOw]
    (repeat' with_reducible first | refine And.intro ?_ ?_ | intro _ | refine exP ?_ ?_); all_goals try omega
    exact ⟨[(0, some 0), (1, some 1), (4, some 17), (5, none)], by (simp only [EndT, go_sem, entH, entH1, nilArr, obOK, apart, injR, coverR]) <;> simp⟩
  · rw [accR_snoc, accL_snoc]
    refine tri_intro (fun _ => false) Tryz.func30 Tryz.ntmps30 rfl (by kernel_rfl) (by simp) rfl (by decide) fun G hG hOw hNm => ?_; simp only [go_sem, hG, hOw]
    (repeat' with_reducible first | refine And.intro ?_ ?_ | intro _ | refine exP ?_ ?_); all_goals try omega
    refine semC_frz (fun i => i == 3) ?_
    refine semC_draw ⟨[1, 16, 17, 18], [(14, [1]), (18, [0])], [14]⟩ [(0, false), (1, false), (2, false), (3, false), (4, false), (5, false), (6, true), (7, false), (8, false)] mixed (by kernel_rfl) ?_
    simp only [pickO, List.getElem?_cons_zero, List.getElem?_cons_succ]
    simp (maxSteps := 2000000) only [go_sem, hG, hOw, ↓chs_vwF]
    (repeat' with_reducible first | refine And.intro ?_ ?_ | intro _ | refine exP ?_ ?_); all_goals try omega
    refine ⟨_, callMod [(0, 1)] [] (number_yes lo x r v hx hv) (by (simp only [go_sem]) <;> simp) (by (simp only [go_sem, entH, entH1, nilArr, obOK]) <;> simp) (by simp [injR, apart, toR]) (by simp [coverR, usH, toR]) (by simp [uniqP, lkR, toR]) rfl (by simp [tgt, nmHas]) (by simp [tgt, nmHas]) (by simp [upT, dropsR, outsR, keepR, usH, lkR, toR, nmHas]) (by simp [newN, usH, tgt, go_sem]) (by simp [hasAll, keepR, usH, lkR, toR]) (by simp [uniqN, usH]), ?_⟩
    simp (maxSteps := 2000000) only [go_sem, hG, hOw, ↓chs_vwF]
    (repeat' with_reducible first | refine And.intro ?_ ?_ | intro _ | refine exP ?_ ?_); all_goals try omega
    have hS : Pm.Sub (.lst G.lo 1 (c.lines.map (lnE 0))) (.lst 0 1 (c.lines.map (lnE 0))) := Sub.lo (Nat.zero_le _)
    refine appx_step (el := 55) (sz := 2) (x := .own 2 0 (i.length + 1) 2) (y := .lst G.lo 2 [[i64 v, .v (.slice none 0 0)]]) (l := i.map (chE 0) ++ [[i64 c.id, .lst G.lo 1 (c.lines.map (lnE 0))]]) (new := [[i64 v, .v (.slice none 0 0)]]) (io := some 2) rfl ?_ ?_ rfl ?_ ?_ ?_ ?_ tb_sliceElem_22 (by kernel_rfl) tb_bytesK_55 (by decide) rfl ?_ ?_ ?_
    · simp [go_sem]
    · simp [go_sem]
    · rw [hG]; decide
    · simp [go_sem]
    · exact isX_own 2 _ (by simp) (by simp only [↓chs_vwF, go_sem])
    · exact .src _ _ (.lst ..)
    · simp at ht ⊢; omega
    · simp at ht ⊢; omega
    simp (maxSteps := 2000000) only [go_sem, hG, hOw, ↓chs_vwF]
    (repeat' with_reducible first | refine And.intro ?_ ?_ | intro _ | refine exP ?_ ?_); all_goals try omega
    exact ⟨[(0, some 0), (1, some 1), (4, some 17), (5, none)], by (simp only [EndT, go_sem, entH, entH1, nilArr, obOK, apart, injR, coverR]) <;> simp [okLL_chs_eq,okLL,okL,okN,chE,lns,i64,lkR,hS,pure0]⟩
theorem by_chapter_bad (lo : Nat) (t : List Ch) (l : List ByteArray) (hl : ∀ s ∈ l, s.size ≤ 100000) (hb : ∀ s r, l = s :: r → valueS s = none) :
    Tri Tryz.prog 30 [str chapterS, .ptr 1 0, .ptr 0 0] [(0, .box [.own 2 0 t.length 2]), (1, .box [strs lo l]), (2, .arx 55 2 (accR t 3)), (3, .arr 28 1 ((accL t).map (lnE 0)))]
      (fun _ => .pan (wrV 111) []) := by
  unfold chapterS
  refine tri_intro (fun _ => false) Tryz.func30 Tryz.ntmps30 rfl (by kernel_rfl) (by simp) rfl (by decide) fun G hG hOw hNm => ?_; simp only [go_sem, hG, hOw]
  (repeat' with_reducible first | refine And.intro ?_ ?_ | intro _ | refine exP ?_ ?_); all_goals try omega
  refine semC_dies ⟨[1, 16, 17, 18], [(14, [1]), (18, [0])], [14]⟩ [0, 1, 2] 3 (by rfl) (by rfl) mixed (by kernel_rfl) ?_
  simp only [pickO, List.map_cons, List.map_nil, List.getElem?_cons_zero, List.getElem?_cons_succ]
  simp (maxSteps := 2000000) only [go_sem, hG, hOw, dieM, diesR]
  (repeat' with_reducible first | refine And.intro ?_ ?_ | intro _ | refine exP ?_ ?_); all_goals try omega
  refine callDies [(0, 1)] (number_bad lo l hl hb) (by (simp only [go_sem]) <;> simp) (by (simp only [go_sem, entH, entH1, nilArr, obOK]) <;> simp) (by simp [injR, apart, toR]) (by simp [coverR, usH, toR]) (by simp [uniqP, lkR, toR]) (by simp [tgt, nmHas]) (fun s' => ?_)
  exact ⟨rfl, ⟨[], by (simp only [EndT, go_sem, entH, entH1, nilArr, obOK, apart, injR, coverR]) <;> simp⟩⟩
theorem acc_get (i : List Ch) (a : List V) (h : i.length < (i.map (chE 0) ++ [a]).length) : (i.map (chE 0) ++ [a])[i.length]'h = a := by simp
theorem acc_set (i : List Ch) (a b : List V) : (i.map (chE 0) ++ [a]).set i.length b = i.map (chE 0) ++ [b] := by
  rw [List.set_append_right _ _ (by simp)]; simp
theorem by_line (lo : Nat) (i : List Ch) (c : Ch) (r : List ByteArray) (hr : wordsB r = true) (hrl : r.length ≤ 1000) (ht : i.length ≤ 1000) (hc : c.lines.length ≤ 1000) :
    Tri Tryz.prog 30 [str lineS, .ptr 1 0, .ptr 0 0] [(0, .box [.own 2 0 (i.length + 1) 2]), (1, .box [strs lo r]), (2, .arx 55 2 (i.map (chE 0) ++ [[i64 c.id, .own 3 0 c.lines.length 1]])), (3, .arr 28 1 (c.lines.map (lnE 0)))]
      (fun _ => .ret (.tup []) [(0, .box [.own 4 0 (i.length + 1) 2]), (1, .box [strs lo []]), (4, .arx 55 2 (i.map (chE 0) ++ [[i64 c.id, .own 5 0 (c.lines ++ [r]).length 1]])), (5, .arr 28 1 ((c.lines ++ [r]).map (lnE 0)))]) := by
  have hW := words_tri lo r hrl
  simp only [hr, if_true] at hW
  unfold lineS
  refine tri_intro (fun _ => false) Tryz.func30 Tryz.ntmps30 rfl (by kernel_rfl) (by simp) rfl (by decide) fun G hG hOw hNm => ?_; simp only [go_sem, hG, hOw]
  (repeat' with_reducible first | refine And.intro ?_ ?_ | intro _ | refine exP ?_ ?_); all_goals try omega
  · rename_i h; exact absurd h (by decide)
  · have h0 : (0 : Int) < ((i.length + 1 : Nat) : Int) := by omega
    have h1 : (((i.length + 1 : Nat) : Int) - 1).toNat = i.length := by omega
    refine call_tri [] [] (must_yes 111) (by (simp only [go_sem]) <;> simp [h0]) (by (simp only [go_sem, entH, entH1, nilArr, obOK]) <;> simp [h0]) (by simp [injR, apart, toR]) (by simp [coverR, usH, toR, h0]) (by simp [uniqP, lkR, toR]) (by simp [chk, hG]) ?_
    simp (maxSteps := 2000000) only [go_sem, hG, hOw, h1]
    (repeat' with_reducible first | refine And.intro ?_ ?_ | intro _ | refine exP ?_ ?_); all_goals try omega
    refine semC_draw ⟨[1, 40, 41], [(39, [1])], [39]⟩ [(0, false), (1, false), (2, false), (3, false), (4, false), (5, false), (6, false), (7, false), (8, false), (9, false), (10, false), (11, false)] mixed (by kernel_rfl) ?_
    simp only [pickO, List.getElem?_cons_zero, List.getElem?_cons_succ]
    simp (maxSteps := 2000000) only [go_sem, hG, hOw, acc_get, acc_set]
    (repeat' with_reducible first | refine And.intro ?_ ?_ | intro _ | refine exP ?_ ?_); all_goals try omega
    refine ⟨_, callMod [(0, 1)] [] (hW) (by (simp only [go_sem]) <;> simp) (by (simp only [go_sem, entH, entH1, nilArr, obOK]) <;> simp) (by simp [injR, apart, toR]) (by simp [coverR, usH, toR]) (by simp [uniqP, lkR, toR]) rfl (by simp [tgt, nmHas]) (by simp [tgt, nmHas]) (by simp [upT, dropsR, outsR, keepR, usH, lkR, toR, nmHas]) (by simp [newN, usH, tgt, go_sem]) (by simp [hasAll, keepR, usH, lkR, toR]) (by simp [uniqN, usH]), ?_⟩
    simp (maxSteps := 2000000) only [go_sem, hG, hOw, acc_get, acc_set]
    (repeat' with_reducible first | refine And.intro ?_ ?_ | intro _ | refine exP ?_ ?_); all_goals try omega
    exact ⟨[(0, some 0), (1, some 1), (4, some 2), (5, some 41)], by (simp only [EndT, go_sem, entH, entH1, nilArr, obOK, apart, injR, coverR]) <;> simp [okLL_chs_eq,okLL,okL,okN,i64,lkR,lnE,strs]⟩
theorem by_line_bad (lo : Nat) (i : List Ch) (c : Ch) (r : List ByteArray) (hr : wordsB r = false) (hrl : r.length ≤ 1000) (ht : i.length ≤ 1000) :
    Tri Tryz.prog 30 [str lineS, .ptr 1 0, .ptr 0 0] [(0, .box [.own 2 0 (i.length + 1) 2]), (1, .box [strs lo r]), (2, .arx 55 2 (i.map (chE 0) ++ [[i64 c.id, .own 3 0 c.lines.length 1]])), (3, .arr 28 1 (c.lines.map (lnE 0)))]
      (fun _ => .pan (wrV 111) []) := by
  have hW := words_tri lo r hrl
  simp only [hr, Bool.false_eq_true, if_false] at hW
  unfold lineS
  refine tri_intro (fun _ => false) Tryz.func30 Tryz.ntmps30 rfl (by kernel_rfl) (by simp) rfl (by decide) fun G hG hOw hNm => ?_; simp only [go_sem, hG, hOw]
  (repeat' with_reducible first | refine And.intro ?_ ?_ | intro _ | refine exP ?_ ?_); all_goals try omega
  · rename_i h; exact absurd h (by decide)
  · have h0 : (0 : Int) < ((i.length + 1 : Nat) : Int) := by omega
    have h1 : (((i.length + 1 : Nat) : Int) - 1).toNat = i.length := by omega
    refine call_tri [] [] (must_yes 111) (by (simp only [go_sem]) <;> simp [h0]) (by (simp only [go_sem, entH, entH1, nilArr, obOK]) <;> simp [h0]) (by simp [injR, apart, toR]) (by simp [coverR, usH, toR, h0]) (by simp [uniqP, lkR, toR]) (by simp [chk, hG]) ?_
    simp (maxSteps := 2000000) only [go_sem, hG, hOw, h1]
    (repeat' with_reducible first | refine And.intro ?_ ?_ | intro _ | refine exP ?_ ?_); all_goals try omega
    refine semC_dies ⟨[1, 40, 41], [(39, [1])], [39]⟩ [0, 1, 2, 3, 4, 5] 6 (by rfl) (by rfl) mixed (by kernel_rfl) ?_
    simp only [pickO, List.map_cons, List.map_nil, List.getElem?_cons_zero, List.getElem?_cons_succ]
    simp (maxSteps := 2000000) only [go_sem, hG, hOw, dieM, diesR, acc_get]
    (repeat' with_reducible first | refine And.intro ?_ ?_ | intro _ | refine exP ?_ ?_); all_goals try omega
    refine callDies [(0, 1)] (hW) (by (simp only [go_sem]) <;> simp) (by (simp only [go_sem, entH, entH1, nilArr, obOK]) <;> simp) (by simp [injR, apart, toR]) (by simp [coverR, usH, toR]) (by simp [uniqP, lkR, toR]) (by simp [tgt, nmHas]) (fun s' => ?_)
    exact ⟨rfl, ⟨[], by (simp only [EndT, go_sem, entH, entH1, nilArr, obOK, apart, injR, coverR]) <;> simp⟩⟩
theorem by_line_none (lo : Nat) (r : List ByteArray) :
    Tri Tryz.prog 30 [str lineS, .ptr 1 0, .ptr 0 0] [(0, .box [.own 2 0 0 2]), (1, .box [strs lo r]), (2, .arx 55 2 []), (3, .arr 28 1 [])]
      (fun _ => .pan (wrV 111) []) := by
  unfold lineS
  refine tri_intro (fun _ => false) Tryz.func30 Tryz.ntmps30 rfl (by kernel_rfl) (by simp) rfl (by decide) fun G hG hOw hNm => ?_; simp only [go_sem, hG, hOw]
  (repeat' with_reducible first | refine And.intro ?_ ?_ | intro _ | refine exP ?_ ?_); all_goals try omega
  · rename_i h; exact absurd h (by decide)
  · refine call_tri [] [] (must_no 111) (by (simp only [go_sem]) <;> simp) (by (simp only [go_sem, entH, entH1, nilArr, obOK]) <;> simp) (by simp [injR, apart, toR]) (by simp [coverR, usH, toR]) (by simp [uniqP, lkR, toR]) (by simp [chk, hG]) ?_
    simp only [go_sem, hG, hOw]
    exact ⟨rfl, ⟨[], by (simp only [EndT, go_sem, entH, entH1, nilArr, obOK, apart, injR, coverR]) <;> simp⟩⟩
theorem by_other (lo : Nat) (s : ByteArray) (t : List Ch) (r : List ByteArray) (h1 : s ≠ chapterS) (h2 : s ≠ lineS) :
    Tri Tryz.prog 30 [str s, .ptr 1 0, .ptr 0 0] [(0, .box [.own 2 0 t.length 2]), (1, .box [strs lo r]), (2, .arx 55 2 (accR t 3)), (3, .arr 28 1 ((accL t).map (lnE 0)))]
      (fun _ => .pan (wrV 111) []) := by
  unfold chapterS at h1
  unfold lineS at h2
  refine tri_intro (fun _ => false) Tryz.func30 Tryz.ntmps30 rfl (by kernel_rfl) (by simp) rfl (by decide) fun G hG hOw hNm => ?_; simp only [go_sem, hG, hOw]
  (repeat' with_reducible first | refine And.intro ?_ ?_ | intro _ | refine exP ?_ ?_); all_goals try omega
  · rename_i h; exact absurd h h1
  · rename_i h; exact absurd h h2
  · refine mki_step [.int .i64 111] rfl rfl (by kernel_rfl) (by simp [chk, hG]) ?_
    simp only [go_sem, hG, hOw]
    (repeat' with_reducible first | refine And.intro ?_ ?_ | intro _ | refine exP ?_ ?_); all_goals try omega
    refine panic_step rfl rfl ?_
    exact ⟨rfl, ⟨[], by (simp only [EndT, go_sem, entH, entH1, nilArr, obOK, apart, injR, coverR]) <;> simp⟩⟩
open Go Pm Go.RowKit Go.Sort
set_option maxRecDepth 100000
set_option maxHeartbeats 4000000
def stepT (t : List Ch) (name : ByteArray) (rest : List ByteArray) : Option (List Ch × List ByteArray) :=
  if name = chapterS then match rest with
    | x :: r => (valueS x).map fun v => (t ++ [Ch.mk v []], r)
    | [] => none
  else if name = lineS then match t.getLast? with
    | some c => if wordsB rest then some (t.dropLast ++ [Ch.mk c.id (c.lines ++ [rest])], []) else none
    | none => none
  else none
def stepF (t : List Ch) (s : ByteArray) : Option (List Ch) := match partsS s with
  | [] => none
  | name :: rest => match stepT t name rest with
    | some (t', []) => some t'
    | _ => none
def readF (t : List Ch) : List ByteArray → Option (List Ch)
  | [] => some t
  | s :: l => (stepF t s).bind fun t' => readF t' l
def readT (l : List ByteArray) : Option (List Ch) := readF [] l
theorem readF_app : ∀ (l m : List ByteArray) (t : List Ch), readF t (l ++ m) = (readF t l).bind fun t' => readF t' m
  | [], m, t => rfl
  | s :: l, m, t => by
    simp only [List.cons_append, readF]
    cases stepF t s with
    | none => rfl
    | some t' => exact readF_app l m t'
theorem readT_succ (l : List ByteArray) (k : Nat) (hk : k < l.length) : readT (l.take (k + 1)) = (readT (l.take k)).bind fun t => stepF t l[k] := by
  unfold readT
  rw [List.take_add_one, List.getElem?_eq_getElem hk, readF_app]
  congr 1
  funext t
  simp only [Option.toList, readF]
  cases stepF t l[k] <;> rfl
theorem readT_bad {l : List ByteArray} {k : Nat} {t : List Ch} (hk : k < l.length) (h : readT (l.take k) = some t) (hb : stepF t l[k] = none) : readT l = none := by
  have h1 : readT (l.take (k + 1)) = none := by rw [readT_succ l k hk, h]; exact hb
  have h2 := readF_app (l.take (k + 1)) (l.drop (k + 1)) []
  rw [List.take_append_drop] at h2
  unfold readT at h1 ⊢
  rw [h2, h1]; rfl
def bdT (n : Nat) (t : List Ch) : Prop := t.length ≤ n ∧ ∀ c ∈ t, c.lines.length ≤ n
theorem stepT_bd {n : Nat} {t t' : List Ch} {name : ByteArray} {rest r' : List ByteArray} (h : bdT n t) (hs : stepT t name rest = some (t', r')) : bdT (n + 1) t' := by
  unfold stepT at hs
  split at hs
  · cases rest with
    | nil => cases hs
    | cons x r =>
      simp only [Option.map_eq_some_iff, Prod.mk.injEq] at hs
      obtain ⟨v, _, rfl, _⟩ := hs
      refine ⟨by have := h.1; simp; omega, fun c hc => ?_⟩
      rcases List.mem_append.1 hc with hc | hc
      · have := h.2 c hc; omega
      · simp at hc; subst hc; simp
  · split at hs
    · split at hs
      · rename_i c hc
        split at hs
        · simp only [Option.some.injEq, Prod.mk.injEq] at hs
          obtain ⟨rfl, _⟩ := hs
          have hcm : c ∈ t := List.mem_of_getLast? hc
          refine ⟨by have := h.1; simp; omega, fun d hd => ?_⟩
          rcases List.mem_append.1 hd with hd | hd
          · have := h.2 d ((List.dropLast_sublist t).mem hd); omega
          · simp at hd; subst hd
            have := h.2 c hcm
            simp; omega
        · cases hs
      · cases hs
    · cases hs
theorem readT_bd {l : List ByteArray} : ∀ {k : Nat} {t : List Ch}, k ≤ l.length → readT (l.take k) = some t → bdT k t
  | 0, t, _, h => by
    simp [readT, readF] at h
    subst h
    exact ⟨by simp, by simp⟩
  | k + 1, t, hk, h => by
    rw [readT_succ l k (by omega)] at h
    simp only [Option.bind_eq_some_iff] at h
    obtain ⟨u, h1, h2⟩ := h
    have ih := readT_bd (by omega) h1
    unfold stepF at h2
    split at h2
    · cases h2
    · split at h2
      · rename_i hs
        cases h2
        exact stepT_bd ih hs
      · cases h2
theorem by_ok (lo : Nat) (t t' : List Ch) (name : ByteArray) (rest r' : List ByteArray) (hs : stepT t name rest = some (t', r')) (hl : ∀ s ∈ rest, s.size ≤ 100000) (hr : rest.length ≤ 1000) (hb : bdT 1000 t) :
    Tri Tryz.prog 30 [str name, .ptr 1 0, .ptr 0 0] [(0, .box [.own 2 0 t.length 2]), (1, .box [strs lo rest]), (2, .arx 55 2 (accR t 3)), (3, .arr 28 1 ((accL t).map (lnE 0)))]
      (fun _ => .ret (.tup []) [(0, .box [.own 4 0 t'.length 2]), (1, .box [strs lo r']), (4, .arx 55 2 (accR t' 5)), (5, .arr 28 1 ((accL t').map (lnE 0)))]) := by
  unfold stepT at hs
  split at hs
  · rename_i hn
    subst hn
    cases rest with
    | nil => cases hs
    | cons x r =>
      simp only [Option.map_eq_some_iff, Prod.mk.injEq] at hs
      obtain ⟨v, hv, rfl, rfl⟩ := hs
      exact by_chapter lo t r x v (hl x (by simp)) hv hb.1
  · split at hs
    · rename_i hn
      subst hn
      rcases snoc_cases t with rfl | ⟨i, c, rfl⟩
      · cases hs
      · simp only [List.getLast?_append, List.getLast?_singleton, Option.some_or] at hs
        split at hs
        · rename_i hw
          simp only [Option.some.injEq, Prod.mk.injEq, List.dropLast_concat] at hs
          obtain ⟨rfl, rfl⟩ := hs
          have h1 := hb.1
          have h2 := hb.2 c (by simp)
          have := by_line lo i c rest hw hr (by simp at h1; omega) h2
          simp only [accR_snoc, accL_snoc, List.length_append, List.length_singleton] at this ⊢
          exact this
        · cases hs
    · cases hs
theorem by_bad (lo : Nat) (t : List Ch) (name : ByteArray) (rest : List ByteArray) (hs : stepT t name rest = none) (hl : ∀ s ∈ rest, s.size ≤ 100000) (hr : rest.length ≤ 1000) (hb : bdT 1000 t) :
    Tri Tryz.prog 30 [str name, .ptr 1 0, .ptr 0 0] [(0, .box [.own 2 0 t.length 2]), (1, .box [strs lo rest]), (2, .arx 55 2 (accR t 3)), (3, .arr 28 1 ((accL t).map (lnE 0)))]
      (fun _ => .pan (wrV 111) []) := by
  unfold stepT at hs
  split at hs
  · rename_i hn
    subst hn
    refine by_chapter_bad lo t rest hl fun s r e => ?_
    subst e
    simpa using hs
  · rename_i hn
    split at hs
    · rename_i hn
      subst hn
      rcases snoc_cases t with rfl | ⟨i, c, rfl⟩
      · exact by_line_none lo rest
      · simp only [List.getLast?_append, List.getLast?_singleton, Option.some_or] at hs
        split at hs
        · cases hs
        · rename_i hw
          have h1 := hb.1
          have := by_line_bad lo i c rest (by simpa using hw) hr (by simp at h1; omega)
          simp only [accR_snoc, accL_snoc, List.length_append, List.length_singleton] at this ⊢
          exact this
    · rename_i hn2
      exact by_other lo name t rest hn hn2
end Go.Proofs.YtphadkcpgnkpfaaGreatDoor
