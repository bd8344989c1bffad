import Derived.Test.YtfnohnjnncjidaaGreatDoorQS17
import Derived.Test.YtfnohnjnncjidaaGreatDoorQS18
import Derived.Test.YtfnohnjnncjidaaGreatDoorQS19
import Derived.Test.YtfnohnjnncjidaaGreatDoorQS34
import Derived.Test.YtfnohnjnncjidaaGreatDoorQS35
import Derived.Test.YtfnohnjnncjidaaGreatDoorQS40
namespace Go.Proofs.YtfnohnjnncjidaaGreatDoor
open Go Pm
set_option linter.unusedSimpArgs false
set_option linter.unusedVariables false
set_option maxHeartbeats 4000000
theorem ord_irr (s : Int) (x : Cx) : ¬ ordI s x x < 0 := by
  unfold ordI sideI cor
  generalize uneven x = u
  (repeat' split) <;> omega
theorem ord_trans (s : Int) (y c x : Cx) (h1 : ¬ ordI s y c < 0) (h2 : ordI s x c < 0) : ¬ ordI s y x < 0 := by
  unfold ordI sideI cor at *
  generalize uneven x = u at *
  generalize uneven y = v at *
  generalize uneven c = w at *
  by_cases s1 : s = 1
  · simp only [s1, if_true] at *
    (repeat' (first | split at h1 | split at h2 | split)) <;> omega
  · by_cases s2 : s = 2
    · simp only [s2, if_true, if_false, show ¬ (2 : Int) = 1 by omega] at *
      (repeat' (first | split at h1 | split at h2 | split)) <;> omega
    · simp only [s1, s2, if_false] at *
      (repeat' (first | split at h1 | split at h2 | split)) <;> omega
theorem ord_eq (s : Int) (x y : Cx) (h1 : ¬ ordI s x y < 0) (h2 : ¬ ordI s y x < 0) : x.ln = y.ln ∧ x.fr = y.fr := by
  unfold ordI sideI cor at *
  generalize uneven x = u at *
  generalize uneven y = v at *
  by_cases s1 : s = 1
  · simp only [s1, if_true] at *
    (repeat' (first | split at h1 | split at h2 | split)) <;> omega
  · by_cases s2 : s = 2
    · simp only [s2, if_true, if_false, show ¬ (2 : Int) = 1 by omega] at *
      (repeat' (first | split at h1 | split at h2 | split)) <;> omega
    · simp only [s1, s2, if_false] at *
      (repeat' (first | split at h1 | split at h2 | split)) <;> omega
def Beat (s : Int) (a : Bool × Cx) (y : Cx) : Prop := a.1 = true ∧ ¬ ordI s y a.2 < 0
theorem stepC_beat {s : Int} {a : Bool × Cx} {y : Cx} (x : Cx) (h : Beat s a y) : Beat s (stepC s a x) y := by
  obtain ⟨h1, h2⟩ := h
  unfold stepC
  split
  · rename_i g
    simp only [h1, Bool.not_true, Bool.false_or, decide_eq_true_eq] at g
    exact ⟨rfl, ord_trans s y a.2 x h2 g⟩
  · exact ⟨h1, h2⟩
theorem stepC_self (s : Int) (a : Bool × Cx) (x : Cx) : Beat s (stepC s a x) x := by
  unfold stepC
  split
  · exact ⟨rfl, ord_irr s x⟩
  · rename_i g
    simp only [Bool.or_eq_true, Bool.not_eq_true', decide_eq_true_eq, not_or, Bool.not_eq_false] at g
    exact ⟨g.1, g.2⟩
theorem pre_lt (ws : List ByteArray) (m : Nat) : ∀ n, m < n → pre ws m < pre ws n := by
  intro n
  induction n with
  | zero => omega
  | succ n ih =>
    intro h
    have : (0 : Int) ≤ (((ws[n]?).getD ByteArray.empty).size : Int) := by omega
    by_cases e : m = n
    · subst e; simp only [pre]; omega
    · have := ih (by omega); simp only [pre]; omega
theorem pre_le (ws : List ByteArray) (m n : Nat) (h : m ≤ n) : pre ws m ≤ pre ws n := by
  by_cases e : m = n
  · subst e; omega
  · have := pre_lt ws m n (by omega); omega
theorem span_to (ws : List ByteArray) (f m n : Nat) (h : m < n) : span ws f m < span ws f n := by
  have := pre_lt ws m n h; unfold span; omega
theorem span_le (ws : List ByteArray) (f g m n : Nat) (h : g ≤ f) (h2 : m ≤ n) : span ws f m ≤ span ws g n := by
  have := pre_le ws m n h2; have := pre_le ws g f h; unfold span; omega
theorem innerA_mono {ws : List ByteArray} {W s : Int} {i f : Nat} {y : Cx} : ∀ n to a, Beat s a y → Beat s (innerA ws W s i f n to a) y := by
  intro n
  induction n with
  | zero => intro to a h; exact h
  | succ n ih =>
    intro to a h
    rw [innerA_succ]
    split
    · exact ih _ _ (stepC_beat _ h)
    · exact h
theorem innerA_beat {ws : List ByteArray} {W s : Int} {i f : Nat} : ∀ n to a, to + n = ws.length → ∀ t, to ≤ t → t < ws.length → span ws f (t + 1) ≤ W → Beat s (innerA ws W s i f n to a) ⟨f, i, t, span ws f (t + 1)⟩ := by
  intro n
  induction n with
  | zero => intro to a h t h1 h2; omega
  | succ n ih =>
    intro to a h t h1 h2 h3
    rw [innerA_succ]
    have h4 : span ws f (to + 1) ≤ W := by
      have := span_le ws f f (to + 1) (t + 1) (Nat.le_refl _) (by omega); omega
    rw [if_pos ⟨by omega, h4⟩]
    by_cases e : t = to
    · subst e; exact innerA_mono _ _ _ (stepC_self _ _ _)
    · exact ih _ _ (by omega) t (by omega) h2 h3
theorem outerA_mono {ws : List ByteArray} {W s : Int} {i : Nat} {y : Cx} : ∀ m a, Beat s a y → Beat s (outerA ws W s i m a) y := by
  intro m
  induction m with
  | zero => intro a h; exact h
  | succ m ih =>
    intro a h
    unfold outerA
    split
    · exact h
    · exact ih _ (innerA_mono _ _ _ h)
theorem outerA_beat {ws : List ByteArray} {W s : Int} {i : Nat} (hi : i < ws.length) : ∀ m a, ∀ f t, f < m → i ≤ t → t < ws.length → span ws f (t + 1) ≤ W → Beat s (outerA ws W s i m a) ⟨f, i, t, span ws f (t + 1)⟩ := by
  intro m
  induction m with
  | zero => intro a f t h; omega
  | succ m ih =>
    intro a f t h h1 h2 h3
    unfold outerA
    split
    · rename_i g
      have := span_le ws m f (i + 1) (t + 1) (by omega) (by omega)
      omega
    · by_cases e : f = m
      · subst e; exact outerA_mono _ _ (innerA_beat _ _ _ (by omega) t h1 h2 h3)
      · exact ih _ f t (by omega) h1 h2 h3
def InC (ws : List ByteArray) (W : Int) (i : Nat) (x : Cx) : Prop := ∃ f t : Nat, f ≤ i ∧ i ≤ t ∧ t < ws.length ∧ x = ⟨f, i, t, span ws f (t + 1)⟩ ∧ span ws f (t + 1) ≤ W
theorem stepC_in {ws : List ByteArray} {W s : Int} {i : Nat} {a : Bool × Cx} {x : Cx} (ha : a.1 = true → InC ws W i a.2) (hx : InC ws W i x) : InC ws W i (stepC s a x).2 := by
  unfold stepC
  split
  · exact hx
  · rename_i h
    have : a.1 = true := by simp only [Bool.or_eq_true, Bool.not_eq_true', not_or, Bool.not_eq_false] at h; exact h.1
    exact ha this
theorem innerA_in {ws : List ByteArray} {W s : Int} {i f : Nat} (hf : f ≤ i) : ∀ n to a, i ≤ to → to + n = ws.length → (a.1 = true → InC ws W i a.2) → ((innerA ws W s i f n to a).1 = true → InC ws W i (innerA ws W s i f n to a).2) := by
  intro n
  induction n with
  | zero => intro to a _ _ h; exact h
  | succ n ih =>
    intro to a h1 h2 h3
    rw [innerA_succ]
    split
    · rename_i g
      exact ih _ _ (by omega) (by omega) fun _ => stepC_in h3 ⟨f, to, hf, h1, g.1, rfl, g.2⟩
    · exact h3
theorem outerA_in {ws : List ByteArray} {W s : Int} {i : Nat} (hi : i < ws.length) : ∀ m a, m ≤ i + 1 → (a.1 = true → InC ws W i a.2) → ((outerA ws W s i m a).1 = true → InC ws W i (outerA ws W s i m a).2) := by
  intro m
  induction m with
  | zero => intro a _ h; exact h
  | succ m ih =>
    intro a h1 h3
    unfold outerA
    split
    · exact h3
    · exact ih _ (by omega) (innerA_in (by omega) _ _ _ (Nat.le_refl _) (by omega) h3)
theorem span_one (ws : List ByteArray) (i : Nat) (hi : i < ws.length) : span ws i (i + 1) = ws[i].size := by unfold span; rw [pre_succ ws i hi]; omega
theorem bestC_beat {ws : List ByteArray} {W s : Int} {i : Nat} (hi : i < ws.length) (f t : Nat) (h1 : f ≤ i) (h2 : i ≤ t) (h3 : t < ws.length) (h4 : span ws f (t + 1) ≤ W) : ¬ ordI s ⟨f, i, t, span ws f (t + 1)⟩ (bestC ws W s i) < 0 :=
  (outerA_beat (s := s) hi (i + 1) (false, noCx) f t (by omega) h2 h3 h4).2
theorem bestC_in {ws : List ByteArray} {W s : Int} {i : Nat} (hi : i < ws.length) (hW : (ws[i].size : Int) ≤ W) : InC ws W i (bestC ws W s i) := by
  have h := (outerA_beat (s := s) hi (i + 1) (false, noCx) i i (by omega) (Nat.le_refl _) hi (by rw [span_one ws i hi]; exact hW)).1
  exact outerA_in hi (i + 1) (false, noCx) (Nat.le_refl _) (fun h => by cases h) h
theorem bestC_only {ws : List ByteArray} {W s : Int} {i : Nat} (hi : i < ws.length) (hW : (ws[i].size : Int) ≤ W) (f t : Nat) (h1 : f ≤ i) (h2 : i ≤ t) (h3 : t < ws.length) (h4 : span ws f (t + 1) ≤ W)
    (hb : ∀ g u : Nat, g ≤ i → i ≤ u → u < ws.length → span ws g (u + 1) ≤ W → ¬ ordI s ⟨g, i, u, span ws g (u + 1)⟩ ⟨f, i, t, span ws f (t + 1)⟩ < 0) : bestC ws W s i = ⟨f, i, t, span ws f (t + 1)⟩ := by
  obtain ⟨g, u, g1, g2, g3, g4, g5⟩ := bestC_in (s := s) hi hW
  have q1 := hb g u g1 g2 g3 g5
  have q2 := bestC_beat (s := s) hi f t h1 h2 h3 h4
  rw [g4] at q2 ⊢
  obtain ⟨e1, e2⟩ := ord_eq s _ _ q1 q2
  simp only at e1 e2
  have e3 : g = f := by omega
  subst e3
  have e4 : u = t := by
    by_cases a1 : u < t
    · have := span_to ws g (u + 1) (t + 1) (by omega); omega
    · by_cases a2 : t < u
      · have := span_to ws g (t + 1) (u + 1) (by omega); omega
      · omega
  subst e4
  rfl
open Go Pm
set_option maxHeartbeats 4000000
theorem pre_sub (ws : List ByteArray) (a m : Nat) : ∀ n, a + n ≤ m → pre ((ws.take m).drop a) n = pre ws (a + n) - pre ws a := by
  intro n
  induction n with
  | zero => intro _; simp [pre]
  | succ n ih =>
    intro h
    have e : ((ws.take m).drop a)[n]? = ws[a + n]? := by rw [List.getElem?_drop, List.getElem?_take_of_lt (by omega)]
    rw [show a + (n + 1) = (a + n) + 1 by omega]
    simp only [pre, e, ih (by omega)]
    omega
def lenW (l : List ByteArray) : Int := pre l l.length - 1
theorem lenW_span (ws : List ByteArray) (a b : Nat) (hb : b ≤ ws.length) (ha : a ≤ b) : lenW ((ws.take b).drop a) = span ws a b := by
  unfold lenW span
  have hl : ((ws.take b).drop a).length = b - a := by rw [List.length_drop, List.length_take]; omega
  rw [hl, pre_sub ws a b (b - a) (by omega), show a + (b - a) = b by omega]
theorem bytes_ext {a b : ByteArray} (h : a.data.toList = b.data.toList) : a = b := by
  obtain ⟨⟨a⟩⟩ := a
  obtain ⟨⟨b⟩⟩ := b
  simp only at h
  rw [h]
theorem joinS_data (l : List ByteArray) (s : ByteArray) : (joinS l s).data.toList = Lib.join (l.map (·.data.toList)) s.data.toList := by simp [joinS]
theorem joinS_succ (l : List ByteArray) (k : Nat) (h : k < l.length) : joinS (l.take (k + 1)) spc = (if 0 < k then joinS (l.take k) spc ++ spc else joinS (l.take k) spc) ++ l[k] := by
  cases l with
  | nil => cases h
  | cons x r =>
    cases k with
    | zero =>
      rw [if_neg (by omega)]
      apply bytes_ext
      simp [joinS_data, ByteArray.data_append, Lib.join_one, Lib.join_nil]
    | succ k =>
      rw [if_pos (by omega)]
      apply bytes_ext
      simp only [List.length_cons] at h
      have hk : (r.map (·.data.toList))[k]? = some r[k].data.toList := by rw [List.getElem?_map, List.getElem?_eq_getElem (by omega)]; rfl
      have := Lib.joinTail_take_succ spc.data.toList (r.map (·.data.toList)) k _ hk
      simp only [joinS_data, ByteArray.data_append, Array.toList_append, List.take_succ_cons, List.map_cons, Lib.join_cons, List.map_take, this, List.getElem_cons_succ, List.append_assoc]
theorem joinS_bd (l : List ByteArray) (h : ∀ s ∈ l, s.size ≤ 40) : (joinS l spc).size ≤ 80 * l.length := by
  have := join_len spc (by decide) l h
  have e := congrArg List.length (joinS_data l spc)
  simp only [Array.length_toList] at e
  have e2 : (joinS l spc).data.size = (joinS l spc).size := rfl
  omega
open Go Pm
set_option maxHeartbeats 4000000
set_option maxRecDepth 100000
theorem joinS_nil0 (s : ByteArray) : joinS [] s = ⟨#[]⟩ := rfl
theorem RRun_ok (t : List Ch) (k : Nat) (hk : k < t.length) (hl : t[k].lines.length ≤ 40) (hr : ∀ r ∈ t[k].lines, r.length ≤ 15) :
    Gives Tryz.prog 155 [txE 0 t, i64 k] (fun n => .tup [strs n t[k].lines.flatten, .lst n 3 ((atF k 0 t[k].lines).map pl3)]) := by
  obtain ⟨ls, hls⟩ : ∃ ls, ls = t[k].lines := ⟨_, rfl⟩
  refine pure_intro (ow := fun _ => false) Tryz.func155 Tryz.ntmps155 rfl (by kernel_rfl) (by simp) rfl (by decide) fun G hG hOw hNm hB => ?_; simp only [go_sem, hG, hOw]
  obtain ⟨hb1, hb2⟩ := bd_chs (bd_agg (hB (txE 0 t) (by simp)) (chs 0 t) (by simp))
  rw [← hls] at hl hr ⊢
  have hfl := flatten_bd ls hl hr
  have wl : ∀ n j, n < ls.length → j ≤ 15 → (wdsN ls n j).length ≤ 700 := fun n j hn hj => by
    unfold wdsN
    have h1 := flatten_bd (ls.take n) (by rw [List.length_take]; omega) (fun r hr' => hr r (List.mem_of_mem_take hr'))
    rw [List.length_append, List.length_take]
    omega
  have al : ∀ n j, n < ls.length → j ≤ 15 → (atN k ls n j).length ≤ 700 := fun n j hn hj => by
    unfold atN
    have h1 := flatten_bd (ls.take n) (by rw [List.length_take]; omega) (fun r hr' => hr r (List.mem_of_mem_take hr'))
    rw [List.length_append, atF_len, List.length_map, List.length_range]
    omega
  (repeat' with_reducible first | refine And.intro ?_ ?_ | intro _ | refine exP ?_ ?_); all_goals try omega
  refine semC_loop (fun n : Nat => St.of [(1, i64 k), (6, .own 30 0 (wdsN ls n 0).length 1), (7, .own 31 0 (atN k ls n 0).length 3), (8, lns 0 ls), (9, i64 n)] [(30, .arr 9 1 ((wdsN ls n 0).map strE)), (31, .arr 91 3 ((atN k ls n 0).map pl3))]) (fun n => n ≤ ls.length) (fun n => ls.length - n) 0 (by simp) (entA [(30, none), (31, none)] (by (simp only [go_sem]) <;> simp [wdsN_zero,atN_zero,hls]) (by (simp only [go_sem, entH, entH1, nilArr, obOK]) <;> simp [wdsN_zero,atN_zero,hls])) ?_
  rintro n hn
  refine vc_sound _ _ _ ?_; simp only [go_sem, hG, hOw]
  (repeat' with_reducible first | refine And.intro ?_ ?_ | intro _ | refine exP ?_ ?_); all_goals try omega
  · rename_i hlt
    have hnl : n < ls.length := by omega
    have hr15 := hr _ (List.getElem_mem hnl)
    refine semC_cutN (fun _ : Unit => St.of [(1, i64 k), (6, .own 30 0 (wdsN ls (n + 1) 0).length 1), (7, .own 31 0 (atN k ls (n + 1) 0).length 3), (8, lns 0 ls), (9, i64 n)] [(30, .arr 9 1 ((wdsN ls (n + 1) 0).map strE)), (31, .arr 91 3 ((atN k ls (n + 1) 0).map pl3))]) (fun _ => True) ?_ ?_
    · refine semC_loop (fun j : Nat => St.of [(1, i64 k), (6, .own 30 0 (wdsN ls n j).length 1), (7, .own 31 0 (atN k ls n j).length 3), (8, lns 0 ls), (9, i64 n), (10, i64 j)] [(30, .arr 9 1 ((wdsN ls n j).map strE)), (31, .arr 91 3 ((atN k ls n j).map pl3))]) (fun j => j ≤ ls[n].length) (fun j => ls[n].length - j) 0 (by simp) (entA [(30, some 30), (31, some 31)]) ?_
      rintro j hj
      have h1 := wl n j hnl (by omega)
      have h2 := al n j hnl (by omega)
      refine vc_sound _ _ _ ?_; simp only [go_sem, hG, hOw]
      (repeat' with_reducible first | refine And.intro ?_ ?_ | intro _ | refine exP ?_ ?_); all_goals try omega
      · rename_i hjl
        have hjl' : j < ls[n].length := by omega
        have e1 := wdsN_succ ls n j hnl hjl'
        have e2 := atN_succ k ls n j
        refine ⟨j + 1, by omega, by omega, ?_⟩
        rw [e1, e2]
        exact entA [(30, some 41), (31, some 48)] (by (simp only [go_sem]) <;> simp [strE,pl3,i64]) (by (simp only [go_sem, entH, entH1, nilArr, obOK]) <;> simp [strE,pl3,i64])
      · rename_i hge
        obtain rfl : j = ls[n].length := by omega
        have e1 := wdsN_line ls n hnl
        have e2 := atN_line k ls n hnl
        rw [e1, e2]
        exact ⟨(), entA [(30, some 30), (31, some 31)]⟩
    rintro ⟨⟩ -
    simp only [go_sem, hG, hOw]
    (repeat' with_reducible first | refine And.intro ?_ ?_ | intro _ | refine exP ?_ ?_); all_goals try omega
    exact ⟨n + 1, by omega, by omega, entA [(30, some 30), (31, some 31)]⟩
  · rename_i hge
    obtain rfl : n = ls.length := by omega
    rw [wdsN_full, atN_full]
    exact .refl _
theorem RIndex_ok (l : List (Nat × Nat × Nat)) (hl : l.length ≤ 1000) (i : Nat) (hi : i < l.length) (hd : ∀ j (h : j < l.length), j < i → l[j] ≠ l[i]) : Gives Tryz.prog 156 [.lst 0 3 (l.map pl3), .agg (pl3 l[i])] (fun _ => i64 i) := by
  obtain ⟨p, hp⟩ : ∃ p, p = l[i] := ⟨_, rfl⟩
  rw [← hp]
  refine pure_intro (ow := fun _ => false) Tryz.func156 Tryz.ntmps156 rfl (by kernel_rfl) (by simp) rfl (by decide) fun G hG hOw hNm hB => ?_; simp only [go_sem, hG, hOw]
  (repeat' with_reducible first | refine And.intro ?_ ?_ | intro _ | refine exP ?_ ?_); all_goals try omega
  refine semC_loop (fun k : Nat => St.of [(0, .lst 0 3 (l.map pl3)), (3, .ptr 3 0), (5, i64 k)] [(3, .box (pl3 p))]) (fun k => k ≤ i) (fun k => l.length - k) 0 (by simp) (entA [(3, some 3)]) ?_
  rintro k hk
  have hkl : k < l.length := by omega
  refine vc_sound _ _ _ ?_
  simp only [go_sem, hG, hOw]
  refine semC_draw0 mixed (by kernel_rfl) ?_
  simp only [go_sem, hG, hOw]
  (repeat' with_reducible first | refine And.intro ?_ ?_ | intro _ | refine exP ?_ ?_); all_goals try omega
  · rename_i h
    refine ⟨k + 1, ?_, by omega, entA [(3, some 3)]⟩
    false_or_by_contra
    obtain rfl : k = i := by omega
    rw [hp] at h
    simp at h
  · rename_i h
    simp only [Bool.not_eq_true', Bool.and_eq_true, decide_eq_true_eq, Bool.not_eq_false] at h
    false_or_by_contra
    rename_i hne
    refine hd k hkl (by omega) ?_
    rw [← hp]
    exact Prod.ext (by omega) (Prod.ext (by omega) (by omega))
theorem RLength_ok (l : List ByteArray) (hl : l.length ≤ 1000) (hw : ∀ s ∈ l, s.size ≤ 40) : Gives Tryz.prog 157 [strs 0 l] (fun _ => i64 (lenW l)) := by
  have hp := pre_bd l hw
  refine pure_intro (ow := fun _ => false) Tryz.func157 Tryz.ntmps157 rfl (by kernel_rfl) (by simp) rfl (by decide) fun G hG hOw hNm hB => ?_; simp only [go_sem, hG, hOw]
  (repeat' with_reducible first | refine And.intro ?_ ?_ | intro _ | refine exP ?_ ?_); all_goals try omega
  refine semC_loop (fun k : Nat => St.of [(0, strs 0 l), (3, i64 ((l.length : Int) - 1 + (pre l k - k))), (4, i64 k)] []) (fun k => k ≤ l.length) (fun k => l.length - k) 0 (by simp) (entA [] (by (simp only [go_sem]) <;> simp [pre]) (by (simp only [go_sem, entH, entH1, nilArr, obOK]) <;> simp [pre])) ?_
  rintro k hk
  have b1 := hp k
  refine vc_sound _ _ _ ?_; simp only [go_sem, hG, hOw]
  (repeat' with_reducible first | refine And.intro ?_ ?_ | intro _ | refine exP ?_ ?_); all_goals try omega
  · rename_i hlt
    have b2 := hw _ (List.getElem_mem (show k < l.length by omega))
    omega
  · rename_i hlt
    have hkl : k < l.length := by omega
    have e := pre_succ l k hkl
    refine ⟨k + 1, by omega, by omega, ?_⟩
    rw [show ((l.length : Int) - 1 + (pre l (k + 1) - ((k + 1 : Nat) : Int))) = (l.length : Int) - 1 + (pre l k - k) + l[k].size by omega]
    exact ent_of0 (by (simp only [go_sem]) <;> simp) hNm
  · rename_i hge
    obtain rfl : k = l.length := by omega
    unfold lenW
    omega
theorem RJoined_ok (l : List ByteArray) (hl : l.length ≤ 1000) (hw : ∀ s ∈ l, s.size ≤ 40) : Gives Tryz.prog 158 [strs 0 l] (fun _ => .v (.string (joinS l spc))) := by
  refine pure_intro (ow := fun _ => false) Tryz.func158 Tryz.ntmps158 rfl (by kernel_rfl) (by simp) rfl (by decide) fun G hG hOw hNm hB => ?_; simp only [go_sem, hG, hOw]
  (repeat' with_reducible first | refine And.intro ?_ ?_ | intro _ | refine exP ?_ ?_); all_goals try omega
  refine semC_loop (fun k : Nat => St.of [(0, strs 0 l), (3, .v (.string (joinS (l.take k) spc))), (4, i64 k)] []) (fun k => k ≤ l.length) (fun k => l.length - k) 0 (by simp) (entA [] (by (simp only [go_sem]) <;> simp [joinS_nil0,List.take_zero]) (by (simp only [go_sem, entH, entH1, nilArr, obOK]) <;> simp [joinS_nil0,List.take_zero])) ?_
  rintro k hk
  have b1 := joinS_bd (l.take k) fun s hs => hw s (List.mem_of_mem_take hs)
  have b3 : (l.take k).length ≤ 1000 := by rw [List.length_take]; omega
  have hspc : spc.size = 1 := rfl
  have e0 : ({ data := #[32] } : ByteArray) = spc := rfl
  refine vc_sound _ _ _ ?_; simp only [go_sem, hG, hOw]
  (repeat' with_reducible first | refine And.intro ?_ ?_ | intro _ | refine exP ?_ ?_); all_goals try omega
  · have e1 : (#[32] : Array UInt8).size = 1 := rfl
    omega
  · rename_i h1 h2
    have e1 : (#[32] : Array UInt8).size = 1 := rfl
    have b2 := hw _ (List.getElem_mem (show k < l.length by omega))
    omega
  · rename_i h1 h2
    have hkl : k < l.length := by omega
    have e := joinS_succ l k hkl
    rw [if_pos (by omega), ← e0] at e
    refine ⟨k + 1, by omega, by omega, ?_⟩
    rw [← e0, e]
    exact ent_of0 (by (simp only [go_sem]) <;> simp) hNm
  · rename_i h1 h2
    have b2 := hw _ (List.getElem_mem (show k < l.length by omega))
    omega
  · rename_i h1 h2
    have hkl : k < l.length := by omega
    have e := joinS_succ l k hkl
    rw [if_neg (by omega)] at e
    refine ⟨k + 1, by omega, by omega, ?_⟩
    rw [e]
    exact ent_of0 (by (simp only [go_sem]) <;> simp) hNm
  · rename_i h1
    obtain rfl : k = l.length := by omega
    rw [List.take_length]
open Go Pm
set_option maxHeartbeats 4000000
def dig (B : Nat) : Nat → Nat → List Int
  | 0, _ => []
  | m + 1, p => dig B m (p / B) ++ [((p % B : Nat) : Int)]
theorem dig_len (B : Nat) : ∀ m p, (dig B m p).length = m := by
  intro m
  induction m with
  | zero => intro p; rfl
  | succ m ih => intro p; simp [dig, ih]
theorem dig_head (B : Nat) (hB : 0 < B) : ∀ m p, dig B (m + 1) p = (((p / B ^ m) % B : Nat) : Int) :: dig B m (p % B ^ m) := by
  intro m
  induction m with
  | zero => intro p; simp [dig]
  | succ m ih =>
    intro p
    have e1 : dig B (m + 1 + 1) p = dig B (m + 1) (p / B) ++ [((p % B : Nat) : Int)] := rfl
    have e2 : dig B (m + 1) (p % B ^ (m + 1)) = dig B m (p % B ^ (m + 1) / B) ++ [((p % B ^ (m + 1) % B : Nat) : Int)] := rfl
    have e3 : p / B / B ^ m = p / B ^ (m + 1) := by rw [Nat.div_div_eq_div_mul, Nat.pow_succ, Nat.mul_comm]
    have e4 : p % B ^ (m + 1) / B = p / B % B ^ m := by rw [Nat.pow_succ, Nat.mul_comm, Nat.mod_mul_right_div_self]
    have e5 : p % B ^ (m + 1) % B = p % B := Nat.mod_mod_of_dvd _ ⟨B ^ m, by rw [Nat.pow_succ, Nat.mul_comm]⟩
    rw [e1, ih, e2, e3, e4, e5, List.cons_append]
theorem range_mul (A : Nat) : ∀ B, (List.range B).flatMap (fun k => (List.range A).map fun q => k * A + q) = List.range (B * A) := by
  intro B
  induction B with
  | zero => simp
  | succ B ih =>
    rw [List.range_succ, List.flatMap_append, ih, Nat.succ_mul, List.range_add]
    simp
theorem compsB_dig (B : Nat) (hB : 0 < B) : ∀ m, compsB B m = (List.range (B ^ m)).map (dig B m) := by
  intro m
  induction m with
  | zero => rfl
  | succ m ih =>
    have hp : 0 < B ^ m := Nat.pow_pos hB
    unfold compsB
    rw [ih, Nat.pow_succ, Nat.mul_comm (B ^ m) B, ← range_mul, List.map_flatMap, List.flatMap_def, List.flatMap_def]
    congr 1
    refine List.map_congr_left fun k hk => ?_
    rw [List.mem_range] at hk
    rw [List.map_map, List.map_map]
    refine List.map_congr_left fun q hq => ?_
    rw [List.mem_range] at hq
    simp only [Function.comp]
    rw [dig_head B hB m, Nat.mul_comm k, Nat.mul_add_div hp, Nat.mul_add_mod, Nat.div_eq_of_lt hq, Nat.mod_eq_of_lt hq, Nat.add_zero, Nat.mod_eq_of_lt hk]
def carry (B m p j : Nat) : List Int := dig B (m - j) (p / B ^ j) ++ List.replicate j 0
theorem carry_zero (B m p : Nat) : carry B m p 0 = dig B m p := by simp [carry]
theorem carry_len (B m p j : Nat) (h : j ≤ m) : (carry B m p j).length = m := by simp [carry, dig_len]; omega
theorem dig_last (B m p : Nat) : dig B (m + 1) p = dig B m (p / B) ++ [((p % B : Nat) : Int)] := rfl
theorem carry_at (B m p j i : Nat) (h : i + j + 1 = m) : (carry B m p j)[i]? = some ((p / B ^ j % B : Nat) : Int) := by
  unfold carry
  rw [show m - j = i + 1 by omega, dig_last, List.append_assoc, List.getElem?_append_right (by rw [dig_len]; omega), dig_len, Nat.sub_self]
  rfl
theorem carry_next (B m p j i : Nat) (hB : 0 < B) (h : i + j + 1 = m) : (carry B m p j).set i 0 = carry B m p (j + 1) := by
  unfold carry
  rw [show m - j = i + 1 by omega, show m - (j + 1) = i by omega, dig_last, List.append_assoc, List.set_append_right _ _ (by rw [dig_len]; omega), dig_len, Nat.sub_self, Nat.div_div_eq_div_mul, ← Nat.pow_succ]
  rfl
theorem dig_zeros (B m : Nat) (hB : 0 < B) : ∀ j p, dig B (m + j) (p * B ^ j) = dig B m p ++ List.replicate j 0 := by
  intro j
  induction j with
  | zero => intro p; simp
  | succ j ih =>
    intro p
    rw [← Nat.add_assoc, dig_last, Nat.pow_succ, ← Nat.mul_assoc, Nat.mul_div_cancel _ hB, Nat.mul_mod_left, ih, List.append_assoc, List.replicate_succ']
    rfl
theorem carry_up (B m p j i : Nat) (hB : 0 < B) (h : i + j + 1 = m) (hp : p % B ^ j + 1 = B ^ j) (hd : p / B ^ j % B + 1 < B) :
    (carry B m p j).set i (((p / B ^ j % B : Nat) : Int) + 1) = dig B m (p + 1) := by
  have e1 : p + 1 = (p / B ^ j + 1) * B ^ j := by
    have := Nat.div_add_mod p (B ^ j)
    rw [Nat.add_mul, Nat.one_mul, Nat.mul_comm]
    omega
  have e2 : m = (i + 1) + j := by omega
  rw [e1]
  conv => rhs; rw [e2]
  rw [dig_zeros B (i + 1) hB]
  unfold carry
  rw [show m - j = i + 1 by omega, dig_last, dig_last, List.append_assoc, List.set_append_right _ _ (by rw [dig_len]; omega), dig_len, Nat.sub_self]
  have e3 : (p / B ^ j + 1) / B = p / B ^ j / B := by
    have := Nat.div_add_mod (p / B ^ j) B
    rw [Nat.div_eq_iff hB]
    have h2 := Nat.div_add_mod (p / B ^ j) B
    rw [Nat.mul_comm] at h2
    omega
  have e4 : (p / B ^ j + 1) % B = p / B ^ j % B + 1 := by
    rw [Nat.add_mod, Nat.mod_eq_of_lt (show 1 < B by omega), Nat.mod_eq_of_lt hd]
  rw [e3, e4]
  simp
theorem carry_mod (B p j : Nat) (hB : 0 < B) (hp : p % B ^ j + 1 = B ^ j) (hd : p / B ^ j % B + 1 = B) : p % B ^ (j + 1) + 1 = B ^ (j + 1) := by
  rw [Nat.pow_succ, Nat.mod_mul]
  have : B ^ j * B = B ^ j * (p / B ^ j % B + 1) := by rw [hd]
  rw [this, Nat.mul_add, Nat.mul_one]
  omega
theorem carry_all (B m p : Nat) (hp : p % B ^ m + 1 = B ^ m) (hl : p < B ^ m) : p + 1 = B ^ m := by rwa [Nat.mod_eq_of_lt hl] at hp
theorem carry_end (B m p j i : Nat) (hB : 0 < B) (h : i + j + 1 = m) (hp : p % B ^ j + 1 = B ^ j) (he : p + 1 = B ^ m) : p / B ^ j % B + 1 = B := by
  have hj : 0 < B ^ j := Nat.pow_pos hB
  have h1 := Nat.div_add_mod p (B ^ j)
  have h2 : B ^ m = B ^ j * (B * B ^ i) := by
    rw [show m = j + (1 + i) by omega, Nat.pow_add, Nat.pow_add, Nat.pow_one]
  have h3 : B ^ j * (p / B ^ j + 1) = B ^ j * (B * B ^ i) := by rw [Nat.mul_add, Nat.mul_one, ← h2]; omega
  have h4 : p / B ^ j + 1 = B * B ^ i := Nat.eq_of_mul_eq_mul_left hj h3
  have h5 : (p / B ^ j + 1) % B = 0 := by rw [h4, Nat.mul_mod_right]
  have h6 := Nat.mod_lt (p / B ^ j) hB
  false_or_by_contra
  rename_i hne
  have h7 : (p / B ^ j + 1) % B = p / B ^ j % B + 1 := by
    rw [Nat.add_mod, Nat.mod_eq_of_lt (show 1 < B by omega), Nat.mod_eq_of_lt (by omega)]
  omega
def astep (c : List Int → Int) (a : List Int × Int) (l : List Int) : List Int × Int := if c l < a.2 then (l, c l) else a
def afold (B m : Nat) (c : List Int → Int) (p : Nat) : List Int × Int := ((List.range p).map (dig B m)).foldl (astep c) ([], never)
theorem afold_zero (B m : Nat) (c : List Int → Int) : afold B m c 0 = ([], never) := rfl
theorem afold_succ (B m : Nat) (c : List Int → Int) (p : Nat) : afold B m c (p + 1) = astep c (afold B m c p) (dig B m p) := by
  unfold afold; rw [List.range_succ, List.map_append, List.foldl_append]; rfl
theorem astep_b (c : List Int → Int) (a : List Int × Int) (l : List Int) (ha : 0 ≤ a.2) : astep c a l = bstep c (fun _ => true) a l := by
  unfold astep bstep
  have : ¬ a.2 < 0 := by omega
  simp [this]
theorem astep_bd (c : List Int → Int) (a : List Int × Int) (l : List Int) (ha : 0 ≤ a.2) (hc : 0 ≤ c l) : 0 ≤ (astep c a l).2 := by
  unfold astep; split <;> assumption
theorem afold_b (c : List Int → Int) : ∀ (L : List (List Int)) (a : List Int × Int), 0 ≤ a.2 → (∀ l ∈ L, 0 ≤ c l) → L.foldl (astep c) a = L.foldl (bstep c (fun _ => true)) a := by
  intro L
  induction L with
  | nil => intro a _ _; rfl
  | cons x r ih =>
    intro a ha hc
    rw [List.foldl_cons, List.foldl_cons, ← astep_b c a x ha]
    exact ih _ (astep_bd c a x ha (hc x (by simp))) fun l hl => hc l (by simp [hl])
theorem afold_all (B m : Nat) (hB : 0 < B) (c : List Int → Int) (hc : ∀ l ∈ compsB B m, 0 ≤ c l ∧ c l < never) : afold B m c (B ^ m) = bfoldB B c (fun _ => true) ([], -1) [] m := by
  unfold afold bfoldB
  rw [← compsB_dig B hB m, show ((compsB B m).map ([] ++ ·)) = compsB B m by simp]
  cases hL : compsB B m with
  | nil => exact absurd hL (compsB_ne B hB m)
  | cons x r =>
    rw [hL] at hc
    have h0 := hc x (by simp)
    have e1 : astep c ([], never) x = (x, c x) := by unfold astep; rw [if_pos h0.2]
    have e2 : bstep c (fun _ => true) ([], -1) x = (x, c x) := by simp [bstep]
    rw [List.foldl_cons, List.foldl_cons, e1, e2]
    exact afold_b c r _ h0.1 fun l hl => (hc l (by simp [hl])).1
theorem dig_mem (B m p : Nat) (hB : 0 < B) (hp : p < B ^ m) : dig B m p ∈ compsB B m := by
  rw [compsB_dig B hB m]
  exact List.mem_map_of_mem (List.mem_range.2 hp)
open Go Pm
set_option maxHeartbeats 4000000
set_option maxRecDepth 100000
theorem RLast_ok (r : Ro) (hr : Good r) (ps : List Int) (hpS : ∀ p ∈ ps, 0 ≤ p ∧ p < r.shares.length) (day : Int) (hd : 0 ≤ day ∧ day ≤ 400) (y : List Int) (hl : y.length = ps.length) (hl8 : ps.length ≤ 12) (hy : ∀ h ∈ y, 0 ≤ h ∧ h < r.helpers.length) :
    Gives Tryz.prog 79 [roE 0 r, ints 0 ps, ints 0 y, i64 day] (fun _ => i64 (backI r ps day y)) := by
  have hhn := hr.hn
  have hsn := hr.sn
  rw [backI_eq r ps y hy]
  refine pure_intro (ow := fun _ => false) Tryz.func79 Tryz.ntmps79 rfl (by kernel_rfl) (by simp) rfl (by decide) fun G hG hOw hNm hB => ?_; simp only [go_sem, hG, hOw]
  (repeat' with_reducible first | refine And.intro ?_ ?_ | intro _ | refine exP ?_ ?_); all_goals try omega
  refine semC_loop (fun j : Nat => St.of [(1, ints 0 ps), (2, ints 0 y), (3, i64 day), (4, .ptr 4 0), (9, i64 (lastS r ps y day j)), (10, i64 j)] [(4, .box (roC 0 r))]) (fun j => j ≤ r.helpers.length) (fun j => r.helpers.length - j) 0 (by simp) (entA [(4, some 4)] (by (simp only [go_sem]) <;> simp [lastS]) (by (simp only [go_sem, entH, entH1, nilArr, obOK]) <;> simp [lastS])) ?_
  rintro j hj
  have hlb := lastS_bd r hr ps y hpS hl hl8 day hd j hj
  refine vc_sound _ _ _ ?_; simp only [go_sem, hG, hOw]
  (repeat' with_reducible first | refine And.intro ?_ ?_ | intro _ | refine exP ?_ ?_); all_goals try omega
  · rename_i hlt
    have hjl : j < r.helpers.length := by omega
    have hH := hr.h j hjl
    refine semC_cutN (fun _ : Unit => St.of [(1, ints 0 ps), (2, ints 0 y), (3, i64 day), (4, .ptr 4 0), (9, i64 (lastS r ps y day j)), (10, i64 j), (11, i64 (sumI r ps y j y.length))] [(4, .box (roC 0 r))]) (fun _ => True) ?_ ?_
    · refine semC_loop (fun k : Nat => St.of [(1, ints 0 ps), (2, ints 0 y), (3, i64 day), (4, .ptr 4 0), (9, i64 (lastS r ps y day j)), (10, i64 j), (11, i64 (sumI r ps y j k)), (12, i64 k)] [(4, .box (roC 0 r))]) (fun k => k ≤ y.length) (fun k => y.length - k) 0 (by simp) (entA [(4, some 4)] (by (simp only [go_sem]) <;> simp [sumI]) (by (simp only [go_sem, entH, entH1, nilArr, obOK]) <;> simp [sumI])) ?_
      rintro k hk
      have hsb := sumI_bd r hr ps y hpS j hjl k (by omega)
      by_cases hkp : k < ps.length
      · have hky : k < y.length := by omega
        have hpk := hpS _ (List.getElem_mem hkp)
        have hyk := hy _ (List.getElem_mem hky)
        obtain ⟨p, hp⟩ : ∃ p : Nat, ps[k] = p := ⟨ps[k].toNat, by omega⟩
        have hpl : p < r.shares.length := by omega
        have hS := hr.s p hpl
        have hll := hr.ll
        have e1 : sumI r ps y j (k + 1) = if y[k] = j then sumI r ps y j k + daysI r.shares[p] r.helpers[j] else sumI r ps y j k := by
          simp only [sumI]
          rw [getI_at hky, getI_at hkp, hp]
          unfold wrI
          rw [Int.toNat_natCast, Int.toNat_natCast, List.getElem?_eq_getElem hpl, List.getElem?_eq_getElem hjl]
        have hdb := daysI_le (s := r.shares[p]) (h := r.helpers[j]) (by omega) (by omega) (by omega) (by omega) (by omega)
        have hlt2 : (k : Int) < ps.length := by omega
        refine vc_sound _ _ _ ?_
        simp (maxSteps := 2000000) only [go_sem, hG, hOw, hlt2]
        (repeat' with_reducible first | refine And.intro ?_ ?_ | intro _ | refine exP ?_ ?_); all_goals try omega
        · rename_i q5
          rw [if_pos q5] at e1
          refine semC_draw0 mixed (by kernel_rfl) ?_
          simp (maxSteps := 2000000) only [go_sem, hG, hOw, hp]
          (repeat' with_reducible first | refine And.intro ?_ ?_ | intro _ | refine exP ?_ ?_); all_goals try omega
          refine ⟨_, callGivesA (days_ok r hr p hpl (j : Int) (by omega) (by omega)), ?_⟩
          simp only [go_sem, hG, hOw]
          (repeat' with_reducible first | refine And.intro ?_ ?_ | intro _ | refine exP ?_ ?_); all_goals try omega
          refine ⟨k + 1, by omega, by omega, ?_⟩
          rw [e1]
          exact entA [(4, some 4)]
        · rename_i q5
          rw [if_neg q5] at e1
          refine ⟨k + 1, by omega, by omega, ?_⟩
          rw [e1]
          exact entA [(4, some 4)]
      · have hlt2 : ¬ (k : Int) < ps.length := by omega
        refine vc_sound _ _ _ ?_
        simp (maxSteps := 2000000) only [go_sem, hG, hOw, hlt2]
        (repeat' with_reducible first | refine And.intro ?_ ?_ | intro _ | refine exP ?_ ?_); all_goals try omega
        rw [show k = y.length by omega]
        exact ⟨(), entA [(4, some 4)]⟩
    rintro ⟨⟩ -
    have hsb := sumI_bd r hr ps y hpS j hjl y.length (by omega)
    have e1 : lastS r ps y day (j + 1) = if 0 < sumI r ps y j y.length then (if lastS r ps y day j < day + sumI r ps y j y.length + 2 * r.helpers[j].post then day + sumI r ps y j y.length + 2 * r.helpers[j].post else lastS r ps y day j) else lastS r ps y day j := by
      simp only [lastS, List.getElem?_eq_getElem hjl, Option.getD_some]
    rw [show day + sumI r ps y j y.length + 2 * r.helpers[j].post = day + 2 * r.helpers[j].post + sumI r ps y j y.length by omega] at e1
    simp only [go_sem, hG, hOw]
    (repeat' with_reducible first | refine And.intro ?_ ?_ | intro _ | refine exP ?_ ?_); all_goals try omega
    · rename_i q1
      rw [if_pos q1] at e1
      refine ⟨j + 1, by omega, by omega, ?_⟩
      rw [e1]
      exact entA [(4, some 4)]
    · rename_i q1
      rw [if_neg q1] at e1
      refine ⟨j + 1, by omega, by omega, ?_⟩
      rw [e1]
      exact entA [(4, some 4)]
  · rename_i hge
    rw [show j = r.helpers.length by omega]
    try exact .refl _
open Go Pm
set_option maxHeartbeats 4000000
set_option maxRecDepth 100000
theorem ss_self (l : List Sl) : Gives Tryz.prog 23 [sls 0 l, sls 0 l] (fun _ => bl true) := by
  refine pure_intro (ow := fun _ => false) Tryz.func23 Tryz.ntmps23 rfl (by kernel_rfl) (by simp) rfl (by decide) fun G hG hOw hNm hB => ?_; simp only [go_sem, hG, hOw]
  have hl := bd_lst hB (List.mem_cons_self ..)
  simp only [List.length_map] at hl
  (repeat' with_reducible first | refine And.intro ?_ ?_ | intro _ | refine exP ?_ ?_); all_goals try omega
  refine semC_loop (fun k : Nat => St.of [(0, sls 0 l), (1, sls 0 l), (5, i64 k)] []) (fun k => k ≤ l.length) (fun k => l.length - k) 0 (by simp) (ent_of0 (by (simp only [go_sem]) <;> simp) hNm) ?_
  rintro k hk
  by_cases hkl : k < l.length
  · have hlt : (k : Int) < l.length := by omega
    refine vc_sound _ _ _ ?_
    simp (maxSteps := 2000000) only [go_sem, hG, hOw, hlt]
    refine semC_draw0 mixed (by kernel_rfl) ?_
    simp (maxSteps := 2000000) only [go_sem, hG, hOw, decide_true, Bool.and_self, Bool.not_true]
    (repeat' with_reducible first | refine And.intro ?_ ?_ | intro _ | refine exP ?_ ?_); all_goals try omega
    exact ⟨k + 1, by omega, by omega, ent_of0 (by (simp only [go_sem]) <;> simp) hNm⟩
  · have hlt : ¬ (k : Int) < l.length := by omega
    refine vc_sound _ _ _ ?_
    simp (maxSteps := 2000000) only [go_sem, hG, hOw, hlt]
    try (repeat' with_reducible first | refine And.intro ?_ ?_ | intro _ | refine exP ?_ ?_); all_goals try omega
end Go.Proofs.YtfnohnjnncjidaaGreatDoor
