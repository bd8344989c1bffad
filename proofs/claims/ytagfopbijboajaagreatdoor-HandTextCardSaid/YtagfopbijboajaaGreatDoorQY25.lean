import Derived.Test.YtagfopbijboajaaGreatDoorQY13
import Derived.Test.YtagfopbijboajaaGreatDoorQY15
import Derived.Test.YtagfopbijboajaaGreatDoorQY23
namespace Go.Proofs.YtagfopbijboajaaGreatDoor
open Go Pm
set_option linter.unusedSimpArgs false
set_option linter.unusedVariables false
set_option maxHeartbeats 4000000
set_option maxRecDepth 100000
theorem in1S_ok (n lo hi : Int) : Gives Tryz.prog 96 [i64 n, .fp [i64 lo], .fp [i64 hi]] (fun _ => bl (decide (n < lo) || decide (hi < n))) := by
  refine pure_intro (ow := fun _ => false) Tryz.func96 Tryz.ntmps96 rfl (by kernel_rfl) (by simp) rfl (by decide) fun G hG hOw hNm hB => ?_; simp only [go_sem, hG, hOw]
  (repeat' with_reducible first | refine And.intro ?_ ?_ | intro _ | refine exP ?_ ?_); all_goals try omega
  · rename_i h; rw [decide_eq_false h]; rfl
  · rename_i h; rw [decide_eq_true h]; rfl
theorem inS_ok (lo hi : Int) (l : List Int) : Gives Tryz.prog 80 [i64 lo, i64 hi, .lst 0 1 (l.map intE)] (fun _ => bl (l.all fun n => inB n lo hi)) := by
  refine pure_intro (ow := fun _ => false) Tryz.func80 Tryz.ntmps80 rfl (by kernel_rfl) (by simp) rfl (by decide) fun G hG hOw hNm hB => ?_; simp only [go_sem, hG, hOw]
  refine call_frz (fun i => [3, 4].contains i) ?_
  simp only [go_sem, hG, hOw]
  refine call_pureA (ContainsFunc_Int _ [.fp [i64 lo], .fp [i64 hi]] (fun n => decide (n < lo) || decide (hi < n)) l rfl (fun x _ => in1S_ok x lo hi)) ?_
  simp only [go_sem, hG, hOw]
  rw [List.not_any_eq_all_not]
  congr 1
  funext n
  rw [Bool.eq_iff_iff]; simp [inB]
theorem inS_one (lo hi n : Int) : Gives Tryz.prog 80 [i64 lo, i64 hi, .lst 0 1 [[i64 n]]] (fun _ => bl (inB n lo hi)) := by
  have := inS_ok lo hi [n]
  simpa [intE] using this
structure Cu where
  w : Int
  s : Int
def cuC (c : Cu) : List V := [i64 c.w, .v (.int .u8 c.s)]
attribute [go_sem] cuC
def cutB (c : Cu) : Bool := inB c.w 12 80 && inB c.s 1 3
theorem SCheck_ok (c : Cu) (hs : 0 ≤ c.s ∧ c.s ≤ 255) : Gives Tryz.prog 48 [.agg (cuC c)] (fun _ => i64 (if cutB c then 0 else 30)) := by
  refine pure_intro (ow := fun _ => false) Tryz.func48 Tryz.ntmps48 rfl (by kernel_rfl) (by simp) rfl (by decide) fun G hG hOw hNm hB => ?_; simp only [go_sem, hG, hOw]
  refine call_pureA (inS_one 12 80 c.w) ?_
  simp only [go_sem, hG, hOw]
  (repeat' with_reducible first | refine And.intro ?_ ?_ | intro _ | refine exP ?_ ?_); all_goals try omega
  · rename_i h
    refine call_pureA (inS_one 1 3 c.s) ?_
    simp only [go_sem, hG, hOw]
    (repeat' with_reducible first | refine And.intro ?_ ?_ | intro _ | refine exP ?_ ?_); all_goals try omega
    · rename_i h2; simp [cutB, h, h2]
    · rename_i h2; simp [cutB, h, h2]
  · rename_i h; simp [cutB, h]
def openE (t : List Ch) (c : Cu) : Int := if textB t then if cutB c then 0 else 30 else 10
theorem Sopen_ok (t : List Ch) (c : Cu) (hs : 0 ≤ c.s ∧ c.s ≤ 255) : Gives Tryz.prog 82 [txE 0 t, .agg (cuC c)] (fun _ => i64 (openE t c)) := by
  refine pure_intro (ow := fun _ => false) Tryz.func82 Tryz.ntmps82 rfl (by kernel_rfl) (by simp) rfl (by decide) fun G hG hOw hNm hB => ?_; simp only [go_sem, hG, hOw]
  refine call_pureA (LCheck_ok t) ?_
  unfold openE
  cases ht : textB t with
  | false =>
    simp only [Bool.false_eq_true, if_false]
    simp only [go_sem, hG, hOw]
    (repeat' with_reducible first | refine And.intro ?_ ?_ | intro _ | refine exP ?_ ?_); all_goals try omega
  | true =>
    simp only [if_true]
    simp only [go_sem, hG, hOw]
    refine call_pureA (SCheck_ok c hs) ?_
    simp only [go_sem, hG, hOw]
def pl3 (p : Nat × Nat × Nat) : List V := [i64 p.1, i64 p.2.1, i64 p.2.2]
attribute [go_sem] pl3
theorem allOnes_pl3 (l : List (Nat × Nat × Nat)) : allOnes (l.map pl3) = true := allOnes_map (fun _ => rfl) l
attribute [go_sem] allOnes_pl3
def atF (k : Nat) : Nat → List (List ByteArray) → List (Nat × Nat × Nat)
  | _, [] => []
  | n, l :: r => (List.range l.length).map (fun w => (k, n, w)) ++ atF k (n + 1) r
theorem atF_app (k : Nat) : ∀ (l m : List (List ByteArray)) (n : Nat), atF k n (l ++ m) = atF k n l ++ atF k (n + l.length) m := by
  intro l
  induction l with
  | nil => intro m n; simp [atF]
  | cons x r ih =>
    intro m n
    simp only [List.cons_append, atF, ih, List.append_assoc, List.length_cons]
    rw [show n + 1 + r.length = n + (r.length + 1) by omega]
theorem atF_len (k : Nat) : ∀ (l : List (List ByteArray)) (n : Nat), (atF k n l).length = l.flatten.length := by
  intro l
  induction l with
  | nil => intro n; rfl
  | cons x r ih => intro n; simp only [atF, List.length_append, List.length_map, List.length_range, ih, List.flatten_cons]
def wdsN (ls : List (List ByteArray)) (n j : Nat) : List ByteArray := (ls.take n).flatten ++ ((ls[n]?).getD []).take j
def atN (k : Nat) (ls : List (List ByteArray)) (n j : Nat) : List (Nat × Nat × Nat) := atF k 0 (ls.take n) ++ (List.range j).map (fun w => (k, n, w))
theorem wdsN_zero (ls : List (List ByteArray)) : wdsN ls 0 0 = [] := by simp [wdsN]
theorem atN_zero (k : Nat) (ls : List (List ByteArray)) : atN k ls 0 0 = [] := by simp [atN, atF]
theorem wdsN_succ (ls : List (List ByteArray)) (n j : Nat) (hn : n < ls.length) (hj : j < ls[n].length) : wdsN ls n (j + 1) = wdsN ls n j ++ [ls[n][j]] := by
  unfold wdsN
  rw [List.getElem?_eq_getElem hn, Option.getD_some, List.take_add_one, List.getElem?_eq_getElem hj, List.append_assoc]; rfl
theorem atN_succ (k : Nat) (ls : List (List ByteArray)) (n j : Nat) : atN k ls n (j + 1) = atN k ls n j ++ [(k, n, j)] := by
  unfold atN
  rw [List.range_succ, List.map_append, List.append_assoc]; rfl
theorem wdsN_line (ls : List (List ByteArray)) (n : Nat) (hn : n < ls.length) : wdsN ls n ls[n].length = wdsN ls (n + 1) 0 := by
  unfold wdsN
  rw [List.getElem?_eq_getElem hn, Option.getD_some, List.take_length, List.take_zero, List.append_nil, List.take_add_one, List.getElem?_eq_getElem hn, List.flatten_append]
  simp
theorem atN_line (k : Nat) (ls : List (List ByteArray)) (n : Nat) (hn : n < ls.length) : atN k ls n ls[n].length = atN k ls (n + 1) 0 := by
  unfold atN
  rw [List.range_zero, List.map_nil, List.append_nil, List.take_add_one, List.getElem?_eq_getElem hn, Option.toList_some, atF_app, List.length_take, Nat.zero_add, Nat.min_eq_left (by omega)]
  simp [atF]
theorem wdsN_full (ls : List (List ByteArray)) : wdsN ls ls.length 0 = ls.flatten := by simp [wdsN]
theorem atN_full (k : Nat) (ls : List (List ByteArray)) : atN k ls ls.length 0 = atF k 0 ls := by simp [atN]
theorem flatten_bd (ls : List (List ByteArray)) (hl : ls.length ≤ 40) (hr : ∀ r ∈ ls, r.length ≤ 15) : ls.flatten.length ≤ 600 := by
  have : ∀ ls : List (List ByteArray), (∀ r ∈ ls, r.length ≤ 15) → ls.flatten.length ≤ 15 * ls.length := by
    intro ls
    induction ls with
    | nil => simp
    | cons x r ih =>
      intro h
      have h1 := h x (by simp)
      have h2 := ih fun y hy => h y (by simp [hy])
      simp only [List.flatten_cons, List.length_append, List.length_cons]
      omega
  have := this ls hr
  omega
def runC (lo : Nat) (c : Cu) (k : Nat) (ls : List (List ByteArray)) : List V := [i64 c.w, .v (.int .u8 c.s), strs lo ls.flatten, .lst lo 3 ((atF k 0 ls).map pl3)]
attribute [go_sem] runC
theorem runs_ok (t : List Ch) (c : Cu) (k : Nat) (hk : k < t.length) (hl : t[k].lines.length ≤ 40) (hr : ∀ r ∈ t[k].lines, r.length ≤ 15) :
    Gives Tryz.prog 97 [txE 0 t, .agg (cuC c), i64 k] (fun n => .agg (runC n c k t[k].lines)) := by
  obtain ⟨ls, hls⟩ : ∃ ls, ls = t[k].lines := ⟨_, rfl⟩
  have htl := fun (h : t.length ≤ 140737488355328) => h
  refine pure_intro (ow := fun _ => false) Tryz.func97 Tryz.ntmps97 rfl (by kernel_rfl) (by simp) rfl (by decide) fun G hG hOw hNm hB => ?_; simp only [go_sem, hG, hOw]
  obtain ⟨hb1, hb2⟩ := bd_chs (bd_agg (hB (txE 0 t) (by simp)) (chs 0 t) (by simp))
  rw [← hls] at hl hr ⊢
  have hfl := flatten_bd ls hl hr
  have wl : ∀ n j, n < ls.length → j ≤ 15 → (wdsN ls n j).length ≤ 700 := fun n j hn hj => by
    unfold wdsN
    have h1 := flatten_bd (ls.take n) (by rw [List.length_take]; omega) (fun r hr' => hr r (List.mem_of_mem_take hr'))
    rw [List.length_append, List.length_take]
    omega
  have al : ∀ n j, n < ls.length → j ≤ 15 → (atN k ls n j).length ≤ 700 := fun n j hn hj => by
    unfold atN
    have h1 := flatten_bd (ls.take n) (by rw [List.length_take]; omega) (fun r hr' => hr r (List.mem_of_mem_take hr'))
    rw [List.length_append, atF_len, List.length_map, List.length_range]
    omega
  (repeat' with_reducible first | refine And.intro ?_ ?_ | intro _ | refine exP ?_ ?_); all_goals try omega
  refine semC_loop (fun n : Nat => St.of [(2, i64 k), (6, .ptr 6 0), (7, .ptr 7 0), (18, lns 0 ls), (19, i64 ls.length), (20, i64 n)] [(6, .box [i64 0, .v (.int .u8 0), .v (.slice none 0 0), .v (.slice none 0 0)]), (7, .box [i64 c.w, .v (.int .u8 c.s), .own 30 0 (wdsN ls n 0).length 1, .own 31 0 (atN k ls n 0).length 3]), (30, .arr 9 1 ((wdsN ls n 0).map strE)), (31, .arr 108 3 ((atN k ls n 0).map pl3))]) (fun n => n ≤ ls.length) (fun n => ls.length - n) 0 (by simp) (entA [(6, some 6), (7, some 7), (30, none), (31, none)] (by (simp only [go_sem]) <;> simp [wdsN_zero,atN_zero,hls]) (by (simp only [go_sem, entH, entH1, nilArr, obOK]) <;> simp [wdsN_zero,atN_zero,hls])) ?_
  rintro n hn
  refine vc_sound _ _ _ ?_; simp only [go_sem, hG, hOw]
  (repeat' with_reducible first | refine And.intro ?_ ?_ | intro _ | refine exP ?_ ?_); all_goals try omega
  · rename_i hlt
    have hnl : n < ls.length := by omega
    have hr15 := hr _ (List.getElem_mem hnl)
    refine semC_cutN (fun _ : Unit => St.of [(2, i64 k), (6, .ptr 6 0), (7, .ptr 7 0), (18, lns 0 ls), (19, i64 ls.length), (20, i64 n)] [(6, .box [i64 0, .v (.int .u8 0), .v (.slice none 0 0), .v (.slice none 0 0)]), (7, .box [i64 c.w, .v (.int .u8 c.s), .own 30 0 (wdsN ls (n + 1) 0).length 1, .own 31 0 (atN k ls (n + 1) 0).length 3]), (30, .arr 9 1 ((wdsN ls (n + 1) 0).map strE)), (31, .arr 108 3 ((atN k ls (n + 1) 0).map pl3))]) (fun _ => True) ?_ ?_
    · refine semC_loop (fun j : Nat => St.of [(2, i64 k), (6, .ptr 6 0), (7, .ptr 7 0), (8, i64 n), (9, strs 0 ls[n]), (18, lns 0 ls), (19, i64 ls.length), (20, i64 n), (26, i64 ls[n].length), (27, i64 j)] [(6, .box [i64 0, .v (.int .u8 0), .v (.slice none 0 0), .v (.slice none 0 0)]), (7, .box [i64 c.w, .v (.int .u8 c.s), .own 30 0 (wdsN ls n j).length 1, .own 31 0 (atN k ls n j).length 3]), (30, .arr 9 1 ((wdsN ls n j).map strE)), (31, .arr 108 3 ((atN k ls n j).map pl3))]) (fun j => j ≤ ls[n].length) (fun j => ls[n].length - j) 0 (by simp) (entA [(6, some 6), (7, some 7), (30, some 30), (31, some 31)]) ?_
      rintro j hj
      have h1 := wl n j hnl (by omega)
      have h2 := al n j hnl (by omega)
      refine vc_sound _ _ _ ?_; simp only [go_sem, hG, hOw]
      (repeat' with_reducible first | refine And.intro ?_ ?_ | intro _ | refine exP ?_ ?_); all_goals try omega
      · rename_i hjl
        have hjl' : j < ls[n].length := by omega
        have e1 := wdsN_succ ls n j hnl hjl'
        have e2 := atN_succ k ls n j
        refine semC_draw0 mixed (by kernel_rfl) ?_
        simp only [go_sem, hG, hOw]
        (repeat' with_reducible first | refine And.intro ?_ ?_ | intro _ | refine exP ?_ ?_); all_goals try omega
        refine ⟨j + 1, by omega, by omega, ?_⟩
        rw [e1, e2]
        exact entA [(6, some 6), (7, some 7), (30, some 37), (31, some 46)] (by (simp only [go_sem]) <;> simp [strE,pl3,i64]) (by (simp only [go_sem, entH, entH1, nilArr, obOK]) <;> simp [strE,pl3,i64])
      · rename_i hge
        obtain rfl : j = ls[n].length := by omega
        have e1 := wdsN_line ls n hnl
        have e2 := atN_line k ls n hnl
        rw [e1, e2]
        exact ⟨(), entA [(6, some 6), (7, some 7), (30, some 30), (31, some 31)]⟩
    rintro ⟨⟩ -
    simp only [go_sem, hG, hOw]
    (repeat' with_reducible first | refine And.intro ?_ ?_ | intro _ | refine exP ?_ ?_); all_goals try omega
    exact ⟨n + 1, by omega, by omega, entA [(6, some 6), (7, some 7), (30, some 30), (31, some 31)]⟩
  · rename_i hge
    obtain rfl : n = ls.length := by omega
    rw [wdsN_full, atN_full]
    exact .refl _
open Go Pm
set_option maxHeartbeats 4000000
set_option maxRecDepth 100000
def cor (a b : Int) : Int := if a ≠ 0 then a else b
theorem Or_ok (a b : Int) : Gives Tryz.prog 105 [.lst 0 1 [[i64 a], [i64 b]]] (fun _ => i64 (cor a b)) := by
  refine pure_intro (ow := fun _ => false) Tryz.func105 Tryz.ntmps105 rfl (by kernel_rfl) (by simp) rfl (by decide) fun G hG hOw hNm hB => ?_; simp only [go_sem, hG, hOw]
  (repeat' with_reducible first | refine And.intro ?_ ?_ | intro _ | refine exP ?_ ?_); all_goals try omega
  refine semC_loop (fun k : Nat => St.of [(3, i64 0), (6, .lst 0 1 [[i64 a], [i64 b]]), (7, i64 2), (8, i64 k)] []) (fun k => k ≤ 2 ∧ (0 < k → a = 0) ∧ (1 < k → b = 0)) (fun k => 2 - k) 0 (by simp) (ent_of0 (by (simp only [go_sem]) <;> simp) hNm) ?_
  rintro k ⟨hk, h1, h2⟩
  have c0 : ((0 : Nat) : Int) = 0 := rfl
  have c1 : ((1 : Nat) : Int) = 1 := rfl
  have c2 : ((2 : Nat) : Int) = 2 := rfl
  have i1 : Int.toNat 1 = 1 := rfl
  have hk3 : k = 0 ∨ k = 1 ∨ k = 2 := by omega
  rcases hk3 with rfl | rfl | rfl
  · refine vc_sound _ _ _ ?_
    simp (maxSteps := 2000000) only [go_sem, hG, hOw, c0, c1, c2, i1, List.getElem_cons_zero, List.getElem_cons_succ]
    (repeat' with_reducible first | refine And.intro ?_ ?_ | intro _ | refine exP ?_ ?_); all_goals try omega
    · rename_i h; simp [cor, h]
    · rename_i h
      exact ⟨1, ⟨by omega, fun _ => h, fun h => by omega⟩, by omega, ent_of0 (by (simp only [go_sem]) <;> simp) hNm⟩
  · have ha := h1 (by omega)
    refine vc_sound _ _ _ ?_
    simp (maxSteps := 2000000) only [go_sem, hG, hOw, c0, c1, c2, i1, List.getElem_cons_zero, List.getElem_cons_succ]
    (repeat' with_reducible first | refine And.intro ?_ ?_ | intro _ | refine exP ?_ ?_); all_goals try omega
    · rename_i h; simp [cor, ha]
    · rename_i h
      exact ⟨2, ⟨by omega, fun _ => ha, fun _ => h⟩, by omega, ent_of0 (by (simp only [go_sem]) <;> simp) hNm⟩
  · have ha := h1 (by omega)
    have hb := h2 (by omega)
    refine vc_sound _ _ _ ?_
    simp (maxSteps := 2000000) only [go_sem, hG, hOw, c0, c1, c2, i1, List.getElem_cons_zero, List.getElem_cons_succ]
    (repeat' with_reducible first | refine And.intro ?_ ?_ | intro _ | refine exP ?_ ?_); all_goals try omega
    all_goals simp [cor, ha, hb]
structure Cx where
  fr : Int
  wd : Int
  to : Int
  ln : Int
def cxC (x : Cx) : List V := [i64 x.fr, i64 x.wd, i64 x.to, i64 x.ln]
attribute [go_sem] cxC
def okCx (x : Cx) : Prop := (-1000 ≤ x.fr ∧ x.fr ≤ 1000) ∧ (-1000 ≤ x.wd ∧ x.wd ≤ 1000) ∧ (-1000 ≤ x.to ∧ x.to ≤ 1000) ∧ (-100000 ≤ x.ln ∧ x.ln ≤ 100000)
def uneven (x : Cx) : Int := max (x.wd - x.fr - (x.to - x.wd)) (-(x.wd - x.fr - (x.to - x.wd)))
theorem uneven_ok (x : Cx) (hx : okCx x) : Gives Tryz.prog 131 [.agg (cxC x)] (fun _ => i64 (uneven x)) := by
  obtain ⟨h1, h2, h3, h4⟩ := hx
  refine pure_intro (ow := fun _ => false) Tryz.func131 Tryz.ntmps131 rfl (by kernel_rfl) (by simp) rfl (by decide) fun G hG hOw hNm hB => ?_; simp only [go_sem, hG, hOw]
  (repeat' with_reducible first | refine And.intro ?_ ?_ | intro _ | refine exP ?_ ?_); all_goals try omega
  unfold uneven
  split <;> omega
def sideI (s : Int) (a b : Cx) : Int := if s = 1 then a.fr - b.fr else if s = 2 then b.fr - a.fr else cor (uneven a - uneven b) (b.fr - a.fr)
theorem side1_ok (a b : Cx) (ha : okCx a) (hb : okCx b) : Gives Tryz.prog 145 [.agg (cxC a), .agg (cxC b)] (fun _ => i64 (sideI 1 a b)) := by
  obtain ⟨h1, h2, h3, h4⟩ := ha
  obtain ⟨g1, g2, g3, g4⟩ := hb
  refine pure_intro (ow := fun _ => false) Tryz.func145 Tryz.ntmps145 rfl (by kernel_rfl) (by simp) rfl (by decide) fun G hG hOw hNm hB => ?_; simp only [go_sem, hG, hOw]
  (repeat' with_reducible first | refine And.intro ?_ ?_ | intro _ | refine exP ?_ ?_); all_goals try omega
  rfl
theorem side2_ok (a b : Cx) (ha : okCx a) (hb : okCx b) : Gives Tryz.prog 146 [.agg (cxC a), .agg (cxC b)] (fun _ => i64 (sideI 2 a b)) := by
  obtain ⟨h1, h2, h3, h4⟩ := ha
  obtain ⟨g1, g2, g3, g4⟩ := hb
  refine pure_intro (ow := fun _ => false) Tryz.func146 Tryz.ntmps146 rfl (by kernel_rfl) (by simp) rfl (by decide) fun G hG hOw hNm hB => ?_; simp only [go_sem, hG, hOw]
  (repeat' with_reducible first | refine And.intro ?_ ?_ | intro _ | refine exP ?_ ?_); all_goals try omega
  rfl
theorem uneven_bd (x : Cx) (hx : okCx x) : 0 ≤ uneven x ∧ uneven x ≤ 4000 := by
  obtain ⟨h1, h2, h3, h4⟩ := hx
  unfold uneven
  omega
theorem side3_ok (a b : Cx) (ha : okCx a) (hb : okCx b) : Gives Tryz.prog 147 [.agg (cxC a), .agg (cxC b)] (fun _ => i64 (sideI 3 a b)) := by
  have u1 := uneven_bd a ha
  have u2 := uneven_bd b hb
  have ua := uneven_ok a ha
  have ub := uneven_ok b hb
  have eq : sideI 3 a b = cor (uneven a - uneven b) (b.fr - a.fr) := rfl
  rw [eq]
  obtain ⟨ua', hua⟩ : ∃ u, u = uneven a := ⟨_, rfl⟩
  obtain ⟨ub', hub⟩ : ∃ u, u = uneven b := ⟨_, rfl⟩
  rw [← hua] at ua u1 ⊢
  rw [← hub] at ub u2 ⊢
  obtain ⟨h1, h2, h3, h4⟩ := ha
  obtain ⟨g1, g2, g3, g4⟩ := hb
  refine pure_intro (ow := fun _ => false) Tryz.func147 Tryz.ntmps147 rfl (by kernel_rfl) (by simp) rfl (by decide) fun G hG hOw hNm hB => ?_; simp only [go_sem, hG, hOw]
  (repeat' with_reducible first | refine And.intro ?_ ?_ | intro _ | refine exP ?_ ?_); all_goals try omega
  refine semC_draw0 mixed (by kernel_rfl) ?_
  simp only [go_sem, hG, hOw]
  (repeat' with_reducible first | refine And.intro ?_ ?_ | intro _ | refine exP ?_ ?_); all_goals try omega
  refine ⟨_, callGives ua (by first | exact Subs.refl _ | (repeat' (first | exact Subs.nil | exact Sub.refl _ | exact Sub.lo (Nat.zero_le _) | refine Subs.cons ?_ ?_ | refine Subs.agg ?_ | refine Subs.fp ?_ | refine Subs.tup ?_ | refine Sub.map (Nat.zero_le _) (fun _ => ?_)))) (by first | rfl | simp [allP, all0, pureV, pure0, *]), ?_⟩
  simp only [go_sem, hG, hOw]
  (repeat' with_reducible first | refine And.intro ?_ ?_ | intro _ | refine exP ?_ ?_); all_goals try omega
  refine ⟨_, callGives ub (by first | exact Subs.refl _ | (repeat' (first | exact Subs.nil | exact Sub.refl _ | exact Sub.lo (Nat.zero_le _) | refine Subs.cons ?_ ?_ | refine Subs.agg ?_ | refine Subs.fp ?_ | refine Subs.tup ?_ | refine Sub.map (Nat.zero_le _) (fun _ => ?_)))) (by first | rfl | simp [allP, all0, pureV, pure0, *]), ?_⟩
  simp only [go_sem, hG, hOw]
  (repeat' with_reducible first | refine And.intro ?_ ?_ | intro _ | refine exP ?_ ?_); all_goals try omega
  refine ⟨_, callGivesA (Or_ok (ua' - ub') (b.fr - a.fr)), ?_⟩
  simp only [go_sem, hG, hOw]
def ordI (s : Int) (a b : Cx) : Int := cor (b.ln - a.ln) (sideI s a b)
theorem slip1_ok (c : Cu) (k : Nat) (ls : List (List ByteArray)) (hs : inB c.s 1 3 = true) (a b : Cx) (ha : okCx a) (hb : okCx b) : Gives Tryz.prog 104 [.agg (cxC a), .agg (cxC b), .fp (runC 0 c k ls)] (fun _ => i64 (ordI c.s a b)) := by
  have hs3 : c.s = 1 ∨ c.s = 2 ∨ c.s = 3 := by simp only [inB, Bool.and_eq_true, decide_eq_true_eq] at hs; omega
  have s1 := side1_ok a b ha hb
  have s2 := side2_ok a b ha hb
  have s3 := side3_ok a b ha hb
  have h1 := ha.2.2.2
  have h2 := hb.2.2.2
  have i1 : Int.toNat 1 = 1 := rfl
  have i2 : Int.toNat 2 = 2 := rfl
  have i3 : Int.toNat 3 = 3 := rfl
  refine pure_intro (ow := fun _ => false) Tryz.func104 Tryz.ntmps104 rfl (by kernel_rfl) (by simp) rfl (by decide) fun G hG hOw hNm hB => ?_; simp only [go_sem, hG, hOw]
  (repeat' with_reducible first | refine And.intro ?_ ?_ | intro _ | refine exP ?_ ?_); all_goals try omega
  refine semC_draw0 mixed (by kernel_rfl) ?_
  rcases hs3 with h | h | h
  · unfold ordI
    rw [h]
    simp (maxSteps := 2000000) only [go_sem, hG, hOw, h, i1, i2, i3, Nat.reduceMul]
    (repeat' with_reducible first | refine And.intro ?_ ?_ | intro _ | refine exP ?_ ?_); all_goals try omega
    refine ⟨_, callGives s1 (by first | exact Subs.refl _ | (repeat' (first | exact Subs.nil | exact Sub.refl _ | exact Sub.lo (Nat.zero_le _) | refine Subs.cons ?_ ?_ | refine Subs.agg ?_ | refine Subs.fp ?_ | refine Subs.tup ?_ | refine Sub.map (Nat.zero_le _) (fun _ => ?_)))) (by first | rfl | simp [allP, all0, pureV, pure0, *]), ?_⟩
    simp only [go_sem, hG, hOw]
    (repeat' with_reducible first | refine And.intro ?_ ?_ | intro _ | refine exP ?_ ?_); all_goals try omega
    refine ⟨_, callGivesA (Or_ok (b.ln - a.ln) _), ?_⟩
    simp only [go_sem, hG, hOw]
  · unfold ordI
    rw [h]
    simp (maxSteps := 2000000) only [go_sem, hG, hOw, h, i1, i2, i3, Nat.reduceMul]
    (repeat' with_reducible first | refine And.intro ?_ ?_ | intro _ | refine exP ?_ ?_); all_goals try omega
    refine ⟨_, callGives s2 (by first | exact Subs.refl _ | (repeat' (first | exact Subs.nil | exact Sub.refl _ | exact Sub.lo (Nat.zero_le _) | refine Subs.cons ?_ ?_ | refine Subs.agg ?_ | refine Subs.fp ?_ | refine Subs.tup ?_ | refine Sub.map (Nat.zero_le _) (fun _ => ?_)))) (by first | rfl | simp [allP, all0, pureV, pure0, *]), ?_⟩
    simp only [go_sem, hG, hOw]
    (repeat' with_reducible first | refine And.intro ?_ ?_ | intro _ | refine exP ?_ ?_); all_goals try omega
    refine ⟨_, callGivesA (Or_ok (b.ln - a.ln) _), ?_⟩
    simp only [go_sem, hG, hOw]
  · unfold ordI
    rw [h]
    simp (maxSteps := 2000000) only [go_sem, hG, hOw, h, i1, i2, i3, Nat.reduceMul]
    (repeat' with_reducible first | refine And.intro ?_ ?_ | intro _ | refine exP ?_ ?_); all_goals try omega
    refine ⟨_, callGives s3 (by first | exact Subs.refl _ | (repeat' (first | exact Subs.nil | exact Sub.refl _ | exact Sub.lo (Nat.zero_le _) | refine Subs.cons ?_ ?_ | refine Subs.agg ?_ | refine Subs.fp ?_ | refine Subs.tup ?_ | refine Sub.map (Nat.zero_le _) (fun _ => ?_)))) (by first | rfl | simp [allP, all0, pureV, pure0, *]), ?_⟩
    simp only [go_sem, hG, hOw]
    (repeat' with_reducible first | refine And.intro ?_ ?_ | intro _ | refine exP ?_ ?_); all_goals try omega
    refine ⟨_, callGivesA (Or_ok (b.ln - a.ln) _), ?_⟩
    simp only [go_sem, hG, hOw]
end Go.Proofs.YtagfopbijboajaaGreatDoor
