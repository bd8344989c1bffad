import Derived.Test.YtphadkcpgnkpfaaGreatDoorQT16
import Derived.Test.YtphadkcpgnkpfaaGreatDoorQT23
import Derived.Test.YtphadkcpgnkpfaaGreatDoorQT24
import Derived.Test.YtphadkcpgnkpfaaGreatDoorQT28
import Derived.Test.YtphadkcpgnkpfaaGreatDoorQT30
namespace Go.Proofs.YtphadkcpgnkpfaaGreatDoor
open Go Pm
set_option linter.unusedSimpArgs false
set_option linter.unusedVariables false
set_option maxHeartbeats 4000000
set_option maxRecDepth 100000
theorem isNaN_ok (a : Int) : Gives Tryz.prog 146 [i64 a] (fun _ => bl false) := by
  refine pure_intro (ow := fun _ => false) Tryz.func146 Tryz.ntmps146 rfl (by kernel_rfl) (by simp) rfl (by decide) fun G hG hOw hNm hB => ?_; simp only [go_sem, hG, hOw]
  all_goals simp [bl]
theorem Compare_ok (a b : Int) : Gives Tryz.prog 133 [i64 a, i64 b] (fun _ => i64 (cmpI a b)) := by
  refine pure_intro (ow := fun _ => false) Tryz.func133 Tryz.ntmps133 rfl (by kernel_rfl) (by simp) rfl (by decide) fun G hG hOw hNm hB => ?_; simp only [go_sem, hG, hOw]
  refine call_pureA (isNaN_ok a) ?_
  simp only [go_sem, hG, hOw]
  refine call_pureA (isNaN_ok b) ?_
  simp only [go_sem, hG, hOw]
  unfold cmpI
  (repeat' with_reducible first | refine And.intro ?_ ?_ | intro _ | refine exP ?_ ?_); all_goals try omega
  all_goals (first | (rename_i h1 h2; simp [h1, h2]) | (rename_i h1; simp [h1]) | skip)
theorem Or3_ok (a b c : Int) : Gives Tryz.prog 132 [.lst 0 1 [[i64 a], [i64 b], [i64 c]]] (fun _ => i64 (or3 a b c)) := by
  refine pure_intro (ow := fun _ => false) Tryz.func132 Tryz.ntmps132 rfl (by kernel_rfl) (by simp) rfl (by decide) fun G hG hOw hNm hB => ?_; simp only [go_sem, hG, hOw]
  (repeat' with_reducible first | refine And.intro ?_ ?_ | intro _ | refine exP ?_ ?_); all_goals try omega
  refine semC_loop (fun k : Nat => St.of [(3, i64 0), (6, .lst 0 1 [[i64 a], [i64 b], [i64 c]]), (7, i64 3), (8, i64 k)] []) (fun k => k ≤ 3 ∧ (0 < k → a = 0) ∧ (1 < k → b = 0) ∧ (2 < k → c = 0)) (fun k => 3 - k) 0 (by simp) (ent_of0 (by (simp only [go_sem]) <;> simp) hNm) ?_
  rintro k ⟨hk, h1, h2, h3⟩
  have c0 : ((0 : Nat) : Int) = 0 := rfl
  have c1 : ((1 : Nat) : Int) = 1 := rfl
  have c2 : ((2 : Nat) : Int) = 2 := rfl
  have c3 : ((3 : Nat) : Int) = 3 := rfl
  have i1 : Int.toNat 1 = 1 := rfl
  have i2 : Int.toNat 2 = 2 := rfl
  have hk3 : k = 0 ∨ k = 1 ∨ k = 2 ∨ k = 3 := by omega
  rcases hk3 with rfl | rfl | rfl | rfl
  · refine vc_sound _ _ _ ?_
    simp (maxSteps := 2000000) only [go_sem, hG, hOw, c0, c1, c2, c3, i1, i2, List.getElem_cons_zero, List.getElem_cons_succ]
    (repeat' with_reducible first | refine And.intro ?_ ?_ | intro _ | refine exP ?_ ?_); all_goals try omega
    · rename_i h; simp [or3, h]
    · rename_i h
      exact ⟨1, ⟨by omega, fun _ => h, fun h => by omega, fun h => by omega⟩, by omega, ent_of0 (by (simp only [go_sem]) <;> simp) hNm⟩
  · have ha := h1 (by omega)
    refine vc_sound _ _ _ ?_
    simp (maxSteps := 2000000) only [go_sem, hG, hOw, c0, c1, c2, c3, i1, i2, List.getElem_cons_zero, List.getElem_cons_succ]
    (repeat' with_reducible first | refine And.intro ?_ ?_ | intro _ | refine exP ?_ ?_); all_goals try omega
    · rename_i h; simp [or3, ha, h]
    · rename_i h
      exact ⟨2, ⟨by omega, fun _ => ha, fun _ => h, fun h => by omega⟩, by omega, ent_of0 (by (simp only [go_sem]) <;> simp) hNm⟩
  · have ha := h1 (by omega)
    have hb := h2 (by omega)
    refine vc_sound _ _ _ ?_
    simp (maxSteps := 2000000) only [go_sem, hG, hOw, c0, c1, c2, c3, i1, i2, List.getElem_cons_zero, List.getElem_cons_succ]
    (repeat' with_reducible first | refine And.intro ?_ ?_ | intro _ | refine exP ?_ ?_); all_goals try omega
    · rename_i h; simp [or3, ha, hb]
    · rename_i h
      exact ⟨3, ⟨by omega, fun _ => ha, fun _ => hb, fun _ => h⟩, by omega, ent_of0 (by (simp only [go_sem]) <;> simp) hNm⟩
  · have ha := h1 (by omega)
    have hb := h2 (by omega)
    have hc := h3 (by omega)
    refine vc_sound _ _ _ ?_
    simp (maxSteps := 2000000) only [go_sem, hG, hOw, c0, c1, c2, c3, i1, i2, List.getElem_cons_zero, List.getElem_cons_succ]
    (repeat' with_reducible first | refine And.intro ?_ ?_ | intro _ | refine exP ?_ ?_); all_goals try omega
    all_goals simp [or3, ha, hb, hc]
theorem order_ok (a b : Rd) : Gives Tryz.prog 114 [.agg [i64 a.ch, i64 a.ln, i64 a.wd], .agg [i64 b.ch, i64 b.ln, i64 b.wd]] (fun _ => i64 (ordR a b)) := by
  refine pure_intro (ow := fun _ => false) Tryz.func114 Tryz.ntmps114 rfl (by kernel_rfl) (by simp) rfl (by decide) fun G hG hOw hNm hB => ?_; simp only [go_sem, hG, hOw]
  refine semC_draw0 mixed (by kernel_rfl) ?_
  simp only [go_sem, hG, hOw]
  refine ⟨_, callGivesA (Compare_ok a.ch b.ch), ?_⟩
  simp only [go_sem, hG, hOw]
  refine ⟨_, callGivesA (Compare_ok a.ln b.ln), ?_⟩
  simp only [go_sem, hG, hOw]
  refine ⟨_, callGivesA (Compare_ok a.wd b.wd), ?_⟩
  simp only [go_sem, hG, hOw]
  (repeat' with_reducible first | refine And.intro ?_ ?_ | intro _ | refine exP ?_ ?_); all_goals try omega
  refine ⟨_, callGivesA (Or3_ok (cmpI a.ch b.ch) (cmpI a.ln b.ln) (cmpI a.wd b.wd)), ?_⟩
  simp only [go_sem, hG, hOw]
  rfl
theorem own_ok (l : List ByteArray) (w : Int) (h : 0 ≤ w ∧ w ≤ l.length) : Gives Tryz.prog 113 [strs 0 l, i64 w] (fun _ => str (ownB l w)) := by
  obtain ⟨w, rfl⟩ := Int.eq_ofNat_of_zero_le h.1
  obtain ⟨_, h⟩ := h
  refine pure_intro (ow := fun _ => false) Tryz.func113 Tryz.ntmps113 rfl (by kernel_rfl) (by simp) rfl (by decide) fun G hG hOw hNm hB => ?_; simp only [go_sem, hG, hOw]
  unfold ownB
  (repeat' with_reducible first | refine And.intro ?_ ?_ | intro _ | refine exP ?_ ?_); all_goals try omega
  · rename_i hw
    have : w = l.length := by omega
    subst this
    simp
  · rename_i hw
    have hl : w < l.length := by omega
    simp [hl]
theorem kinds1_ok (o p : ByteArray) : Gives Tryz.prog 171 [str o, str p] (fun _ => bl (decide (p = ⟨#[]⟩))) := by
  refine pure_intro (ow := fun _ => false) Tryz.func171 Tryz.ntmps171 rfl (by kernel_rfl) (by simp) rfl (by decide) fun G hG hOw hNm hB => ?_; simp only [go_sem, hG, hOw]
  (repeat' with_reducible first | refine And.intro ?_ ?_ | intro _ | refine exP ?_ ?_); all_goals try omega
  all_goals (rename_i h; simp [h, bl])
theorem kinds2_ok (o p : ByteArray) : Gives Tryz.prog 172 [str o, str p] (fun n => strs n []) := by
  refine pure_intro (ow := fun _ => false) Tryz.func172 Tryz.ntmps172 rfl (by kernel_rfl) (by simp) rfl (by decide) fun G hG hOw hNm hB => ?_; simp only [go_sem, hG, hOw]
  exact .nil _ _
theorem kinds3_ok (o p : ByteArray) : Gives Tryz.prog 173 [str o, str p] (fun _ => bl (wordB p)) := by
  refine pure_intro (ow := fun _ => false) Tryz.func173 Tryz.ntmps173 rfl (by kernel_rfl) (by simp) rfl (by decide) fun G hG hOw hNm hB => ?_; simp only [go_sem, hG, hOw]
  refine call_pureA (word_ok p) ?_
  simp only [go_sem, hG, hOw]
theorem kinds4_ok (o p : ByteArray) : Gives Tryz.prog 174 [str o, str p] (fun n => strs n [p, o]) := by
  refine pure_intro (ow := fun _ => false) Tryz.func174 Tryz.ntmps174 rfl (by kernel_rfl) (by simp) rfl (by decide) fun G hG hOw hNm hB => ?_; simp only [go_sem, hG, hOw]
theorem kinds5_ok (o p : ByteArray) : Gives Tryz.prog 175 [str o, str p] (fun _ => bl (wordB p && decide (p ≠ o))) := by
  refine pure_intro (ow := fun _ => false) Tryz.func175 Tryz.ntmps175 rfl (by kernel_rfl) (by simp) rfl (by decide) fun G hG hOw hNm hB => ?_; simp only [go_sem, hG, hOw]
  refine call_pureA (word_ok p) ?_
  simp only [go_sem, hG, hOw]
  (repeat' with_reducible first | refine And.intro ?_ ?_ | intro _ | refine exP ?_ ?_); all_goals try omega
  all_goals (first | (rename_i h1 h2; simp [h1, h2, bl]) | (rename_i h1; simp [h1, bl]) | skip)
theorem kinds6_ok (o p : ByteArray) : Gives Tryz.prog 176 [str o, str p] (fun n => strs n [p]) := by
  refine pure_intro (ow := fun _ => false) Tryz.func176 Tryz.ntmps176 rfl (by kernel_rfl) (by simp) rfl (by decide) fun G hG hOw hNm hB => ?_; simp only [go_sem, hG, hOw]
open Go Pm
set_option maxHeartbeats 4000000
set_option maxRecDepth 100000
theorem blank_ok (s : ByteArray) : Gives Tryz.prog 135 [str s] (fun _ => bl (!neB s)) := by
  refine pure_intro (ow := fun _ => false) Tryz.func135 Tryz.ntmps135 rfl (by kernel_rfl) (by simp) rfl (by decide) fun G hG hOw hNm hB => ?_; simp only [go_sem, hG, hOw]
  unfold neB
  rw [Bool.not_not]
theorem idx_cases (l : List ByteArray) : (idxOf (fun s => !neB s) l = -1 ∧ l.filter neB = l) ∨ ∃ i : Nat, idxOf (fun s => !neB s) l = (i : Int) ∧ i < l.length ∧ l.take i = (l.take (i + 1)).filter neB := by
  cases h : l.findIdx? (fun s => !neB s) with
  | none =>
    refine .inl ⟨by simp [idxOf, h], List.filter_eq_self.2 fun s hs => ?_⟩
    have := List.findIdx?_eq_none_iff.1 h s hs
    simpa using this
  | some i =>
    obtain ⟨hi, hp, hb⟩ := List.findIdx?_eq_some_iff_getElem.1 h
    refine .inr ⟨i, by simp [idxOf, h], hi, ?_⟩
    rw [List.take_add_one, List.getElem?_eq_getElem hi, List.filter_append]
    have h1 : (l.take i).filter neB = l.take i := List.filter_eq_self.2 fun s hs => by
      obtain ⟨j, hj, rfl⟩ := List.mem_iff_getElem.1 hs
      simp at hj
      have := hb j (by omega)
      simpa using this
    have h2 : neB l[i] = false := by simpa using hp
    simp [h1, h2]
theorem DeleteFunc_ok (l : List ByteArray) (hl : l.length ≤ 1000) : Tri Tryz.prog 134 [.own 0 0 l.length 1, .fn (.func 135) []] [(0, .arr 9 1 (l.map strE))] (fun n => .ret (strs n (l.filter neB)) []) := by
  refine tri_intro (fun i => [41].contains i) Tryz.func134 Tryz.ntmps134 rfl (by kernel_rfl) (by simp) rfl (by decide) fun G hG hOw hNm => ?_; simp only [go_sem, hG, hOw]
  rcases idx_cases l with ⟨hi0, hall⟩ | ⟨i0, hi0, hil, hf0⟩
  · refine call_frz (fun i => i == 0) ?_
    simp only [go_sem, hG, hOw]
    refine call_pureA (IndexFunc_Str (135) [] (fun s => !neB s) l rfl (fun s _ => blank_ok s)) ?_
    rw [hi0]
    simp only [go_sem, hG, hOw]
    rw [hall]
    exact ⟨[], by (simp only [EndT, go_sem, entH, entH1, nilArr, obOK, apart, injR, coverR]) <;> simp⟩
  · refine call_lend (fun i => i == 0) (IndexFunc_Str (135) [] (fun s => !neB s) l rfl (fun s _ => blank_ok s)) (newR_v (.int .i64 _)) (by simp only [go_sem]; first | exact Subs.refl _ | (repeat' (first | exact Subs.nil | exact Sub.refl _ | exact Sub.lo (Nat.zero_le _) | refine Subs.cons ?_ ?_ | refine Subs.agg ?_ | refine Subs.fp ?_ | refine Subs.tup ?_ | refine Sub.map (Nat.zero_le _) (fun _ => ?_)))) (by simp only [go_sem] <;> first | rfl | simp [allP, all0, pureV, pure0, *]) (by simp [chk, hG]) ?_
    rw [hi0]
    have hbig : (i0 : Int) + 1 ≤ 1000 := by omega
    simp only [go_sem, hG, hOw]
    (repeat' with_reducible first | refine And.intro ?_ ?_ | intro _ | refine exP ?_ ?_); all_goals try omega
    refine semC_cut (fun q : Nat × List ByteArray => St.of [(0, .own 0 0 l.length 1), (5, i64 q.1)] [(0, .arr 9 1 (q.2.map strE))]) (fun q => q.2.length = l.length ∧ q.1 ≤ l.length ∧ q.2.take q.1 = l.filter neB) ?_ ?_
    · refine semC_loop (fun q : Nat × Nat × List ByteArray => St.of [(0, .own 0 0 l.length 1), (1, .fn (.func 135) []), (5, i64 q.2.1), (6, i64 q.1)] [(0, .arr 9 1 (q.2.2.map strE))]) (fun q => q.1 ≤ l.length ∧ q.2.1 < q.1 ∧ q.2.2.length = l.length ∧ q.2.2.take q.2.1 = (l.take q.1).filter neB ∧ q.2.2.drop q.1 = l.drop q.1) (fun q => l.length - q.1) (i0 + 1, i0, l) ⟨by show i0 + 1 ≤ _; omega, by show i0 < i0 + 1; omega, rfl, hf0, rfl⟩ (entA [(0, some 0)]) ?_
      rintro ⟨j, i, A⟩ ⟨hj, hij, hA, ht, hd⟩
      simp only at hj hij hA ht hd
      refine vc_sound _ _ _ ?_; simp only [go_sem, hG, hOw]
      (repeat' with_reducible first | refine And.intro ?_ ?_ | intro _ | refine exP ?_ ?_); all_goals try omega
      · rename_i hlt
        have hjl : j < l.length := by omega
        have hAj : A[j]'(by omega) = l[j] := by
          have h1 := congrArg (fun x => x[0]?) hd
          simp only [List.getElem?_drop, Nat.add_zero] at h1
          rw [List.getElem?_eq_getElem (by omega), List.getElem?_eq_getElem hjl] at h1
          exact Option.some.inj h1
        have hd1 : A.drop (j + 1) = l.drop (j + 1) := by
          have h1 := congrArg (List.drop 1) hd
          simpa [List.drop_drop] using h1
        refine call_pure (blank_ok l[j]) (by rw [hAj]; exact Subs.refl _) (by simp [allP, pureV, pure0]) (by simp [chk, hG]) ?_
        simp only [go_sem, hG, hOw]
        (repeat' with_reducible first | refine And.intro ?_ ?_ | intro _ | refine exP ?_ ?_); all_goals try omega
        · rename_i hne
          have hset : (List.map strE A).set i [V.v (.string A[j])] = (A.set i A[j]).map strE := by rw [List.map_set]; rfl
          refine ⟨(j + 1, i + 1, A.set i A[j]), ⟨by show j + 1 ≤ _; omega, by show i + 1 < j + 1; omega, by simpa using hA, ?_, ?_⟩, by show l.length - (j + 1) < l.length - j; omega, entA [(0, some 0)] (by (simp only [go_sem]) <;> simp [hset]) (by (simp only [go_sem, entH, entH1, nilArr, obOK]) <;> simp [hset])⟩
          · rw [List.take_add_one, List.take_set_of_le (by omega), ht, List.getElem?_set_self (by omega), List.take_add_one, List.getElem?_eq_getElem hjl, List.filter_append, hAj]
            simp [hne]
          · rw [List.drop_set_of_lt (by omega)]; exact hd1
        · rename_i hne
          refine ⟨(j + 1, i, A), ⟨by show j + 1 ≤ _; omega, by show i < j + 1; omega, hA, ?_, hd1⟩, by show l.length - (j + 1) < l.length - j; omega, entA [(0, some 0)]⟩
          rw [ht, List.take_add_one, List.getElem?_eq_getElem hjl, List.filter_append]
          simp [hne]
      · rename_i hge
        have : j = l.length := by omega
        subst this
        rw [List.take_length] at ht
        exact ⟨(i, A), ⟨hA, by show i ≤ _; omega, ht⟩, entA [(0, some 0)]⟩
    · rintro ⟨i, A⟩ ⟨hA, hi, ht⟩
      simp only at hA hi ht
      simp only [go_sem, hG, hOw]
      (repeat' with_reducible first | refine And.intro ?_ ?_ | intro _ | refine exP ?_ ?_); all_goals try omega
      refine clear_step (id := 0) (off := i) (len := l.length - i) (el := 9) (z := .string ⟨#[]⟩) (l := A.map strE) rfl rfl (by simp [go_sem]) (by simp [go_sem]) (by simp; omega) tb_sliceElem_28 tb_zeroK_9 rfl ?_
      simp only [go_sem, hG, hOw]
      refine step_frzO (fun i => i == 0) ?_
      simp only [go_sem, hG, hOw]
      (repeat' with_reducible first | refine And.intro ?_ ?_ | intro _ | refine exP ?_ ?_); all_goals try omega
      have hT : List.take i (List.take l.length (List.map strE (List.take i A) ++ List.replicate (l.length - i) [V.v (Value.string ⟨#[]⟩)])) = (l.filter neB).map strE := by
        rw [List.take_take, Nat.min_eq_left hi, List.take_append_of_le_length (by simp; omega), List.take_of_length_le (by simp; omega), ht]
      rw [hT]
      exact ⟨[], by (simp only [EndT, go_sem, entH, entH1, nilArr, obOK, apart, injR, coverR]) <;> simp⟩
open Go Pm
set_option maxHeartbeats 4000000
set_option maxRecDepth 100000
theorem Lright1_ok (l : List ByteArray) : Gives Tryz.prog 117 [strs 0 l] (fun _ => bl (!inB l.length 1 10)) := by
  refine pure_intro (ow := fun _ => false) Tryz.func117 Tryz.ntmps117 rfl (by kernel_rfl) (by simp) rfl (by decide) fun G hG hOw hNm hB => ?_; simp only [go_sem, hG, hOw]
  (repeat' with_reducible first | refine And.intro ?_ ?_ | intro _ | refine exP ?_ ?_); all_goals try omega
  refine call_pureA (inL_one 1 10 l.length) ?_
  simp only [go_sem, hG, hOw]
theorem line_yes (t : List Ch) (ht : OKtB t) (a b : Int) (w : Int) (l : List ByteArray) (h : lineO t a b = some l) : Gives Tryz.prog 112 [.fp [chs 0 t], .agg [i64 a, i64 b, i64 w]] (fun _ => strs 0 l) := by
  obtain ⟨ht1, ht2⟩ := ht
  unfold lineO at h
  split at h
  · rename_i hab
    obtain ⟨ha, hb⟩ := hab
    obtain ⟨a, rfl⟩ := Int.eq_ofNat_of_zero_le ha
    obtain ⟨b, rfl⟩ := Int.eq_ofNat_of_zero_le hb
    simp only [Int.toNat_natCast, Option.bind_eq_some_iff] at h
    obtain ⟨c, hc, hl⟩ := h
    obtain ⟨hat, rfl⟩ := List.getElem?_eq_some_iff.1 hc
    obtain ⟨hbl, rfl⟩ := List.getElem?_eq_some_iff.1 hl
    have ht3 := (ht2 _ (List.getElem_mem hat)).1
    have e1 : inB (a : Int) 0 ((t.length : Int) - 1) = true := by simp [inB]; omega
    have e2 : inB (b : Int) 0 ((t[a].lines.length : Int) - 1) = true := by simp [inB]; omega
    refine pure_intro (ow := fun _ => false) Tryz.func112 Tryz.ntmps112 rfl (by kernel_rfl) (by simp) rfl (by decide) fun G hG hOw hNm hB => ?_; simp only [go_sem, hG, hOw]
    refine semC_draw0 mixed (by kernel_rfl) ?_
    simp only [go_sem, hG, hOw]
    (repeat' with_reducible first | refine And.intro ?_ ?_ | intro _ | refine exP ?_ ?_); all_goals try omega
    refine ⟨_, callGivesA (inL_one 0 ((t.length : Int) - 1) a), ?_⟩
    simp (maxSteps := 2000000) only [go_sem, hG, hOw, e1]
    (repeat' with_reducible first | refine And.intro ?_ ?_ | intro _ | refine exP ?_ ?_); all_goals try omega
    refine ⟨_, callGivesA (inL_one 0 ((t[a].lines.length : Int) - 1) b), ?_⟩
    simp (maxSteps := 2000000) only [go_sem, hG, hOw, e2]
    (repeat' with_reducible first | refine And.intro ?_ ?_ | intro _ | refine exP ?_ ?_); all_goals try omega
    refine semC_draw0 mixed (by kernel_rfl) ?_
    simp only [go_sem, hG, hOw]
    (repeat' with_reducible first | refine And.intro ?_ ?_ | intro _ | refine exP ?_ ?_); all_goals try omega
  · cases h
theorem line_no (t : List Ch) (ht : OKtB t) (a b : Int) (w : Int) (h : lineO t a b = none) : Gives Tryz.prog 112 [.fp [chs 0 t], .agg [i64 a, i64 b, i64 w]] (fun _ => strs 0 []) := by
  obtain ⟨ht1, ht2⟩ := ht
  refine pure_intro (ow := fun _ => false) Tryz.func112 Tryz.ntmps112 rfl (by kernel_rfl) (by simp) rfl (by decide) fun G hG hOw hNm hB => ?_; simp only [go_sem, hG, hOw]
  refine semC_draw0 mixed (by kernel_rfl) ?_
  simp only [go_sem, hG, hOw]
  (repeat' with_reducible first | refine And.intro ?_ ?_ | intro _ | refine exP ?_ ?_); all_goals try omega
  refine ⟨_, callGivesA (inL_one 0 ((t.length : Int) - 1) a), ?_⟩
  cases e1 : inB a 0 ((t.length : Int) - 1) with
  | false =>
    simp only [go_sem, hG, hOw]
    (repeat' with_reducible first | refine And.intro ?_ ?_ | intro _ | refine exP ?_ ?_); all_goals try omega
    exact .nil _ _
  | true =>
    have ha : 0 ≤ a ∧ a ≤ (t.length : Int) - 1 := by simpa [inB] using e1
    obtain ⟨ha0, ha1⟩ := ha
    obtain ⟨a, rfl⟩ := Int.eq_ofNat_of_zero_le ha0
    have hat : a < t.length := by omega
    have ht3 := (ht2 _ (List.getElem_mem hat)).1
    have e2 : inB b 0 ((t[a].lines.length : Int) - 1) = false := by
      cases e2 : inB b 0 ((t[a].lines.length : Int) - 1) with
      | false => rfl
      | true =>
        exfalso
        have hb : 0 ≤ b ∧ b ≤ (t[a].lines.length : Int) - 1 := by simpa [inB] using e2
        obtain ⟨b, rfl⟩ := Int.eq_ofNat_of_zero_le hb.1
        have hbl : b < t[a].lines.length := by omega
        simp [lineO, hat, hbl] at h
    simp only [go_sem, hG, hOw]
    (repeat' with_reducible first | refine And.intro ?_ ?_ | intro _ | refine exP ?_ ?_); all_goals try omega
    refine ⟨_, callGivesA (inL_one 0 ((t[a].lines.length : Int) - 1) b), ?_⟩
    simp (maxSteps := 2000000) only [go_sem, hG, hOw, e2]
    (repeat' with_reducible first | refine And.intro ?_ ?_ | intro _ | refine exP ?_ ?_); all_goals try omega
    exact .nil _ _
end Go.Proofs.YtphadkcpgnkpfaaGreatDoor
