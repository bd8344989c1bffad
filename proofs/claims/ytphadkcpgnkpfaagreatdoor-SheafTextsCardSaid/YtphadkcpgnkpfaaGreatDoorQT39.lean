import Derived.Test.YtphadkcpgnkpfaaGreatDoorQT37
namespace Go.Proofs.YtphadkcpgnkpfaaGreatDoor
open Go Pm Go.RowKit Go.Sort
set_option linter.unusedSimpArgs false
set_option linter.unusedVariables false
set_option maxRecDepth 100000
set_option maxHeartbeats 4000000
theorem accR_renR (t : List Ch) (a b : Nat) (ρ : Ren) (h : lkR ρ a = some (some b)) : (accR t a).map (List.map (renT ρ 4)) = accR t b :=
  accR_map t _ (fun _ => rfl) (fun _ _ _ => rfl) fun m => by simp [renT, h]
theorem chs_vwS {p : Nat → Bool} {l : Nat} {s : St} {lo n : Nat} (i : List Ch) (r : List (List V)) : (i.map (chE lo) ++ r).map (List.map (vwS p l s (n + 1))) = i.map (chE lo) ++ r.map (List.map (vwS p l s (n + 1))) := by
  rw [List.map_append, List.map_map]
  congr 1
theorem sub_acc (n : Nat) (i : List Ch) (c : Ch) : Pm.Sub (.lst n 2 (i.map (chE 0) ++ [[i64 c.id, .lst n 1 (c.lines.map (lnE 0))]])) (chs 0 (i ++ [c])) := by
  refine .lst (Nat.zero_le _) (by simp) fun k x x' h1 h2 => ?_
  by_cases hk : k < i.length
  · rw [List.getElem?_append_left (by simpa using hk)] at h1
    rw [List.map_append, List.getElem?_append_left (by simpa using hk), h1] at h2
    cases h2
    exact .refl _
  · rw [List.getElem?_append_right (by simpa using hk)] at h1
    rw [List.map_append, List.getElem?_append_right (by simpa using hk)] at h2
    rw [List.length_map] at h1 h2
    match hq : k - i.length with
    | 0 =>
      rw [hq] at h1 h2
      simp at h1 h2
      subst h1; subst h2
      exact .cons (.refl _) (.cons (Sub.lo (Nat.zero_le _)) .nil)
    | q + 1 => rw [hq] at h1; simp at h1
theorem frz_acc (ty ty1 : TypeId) (i : List Ch) (c : Ch) {p : Nat → Bool} {lo : Nat} {s : St} (p100 : p 100 = true) (p101 : p 101 = true) (h100 : s.hget 100 = some (.arx ty 2 (i.map (chE 0) ++ [[i64 c.id, .own 101 0 c.lines.length 1]]))) (h101 : s.hget 101 = some (.arr ty1 1 (c.lines.map (lnE 0)))) :
    List.map (vwF p lo s 4) [.own 100 0 (i.length + 1) 2] = [.lst lo 2 (i.map (chE 0) ++ [[i64 c.id, .lst lo 1 (c.lines.map (lnE 0))]])] := by
  have e1 : vwS p lo s 3 (.own 101 0 c.lines.length 1) = .lst lo 1 (c.lines.map (lnE 0)) := by
    rw [vwS, p101, h101]
    simp only [if_true, List.drop_zero]
    rw [List.take_of_length_le (by simp)]
  have e2 : vwF p lo s 4 (.own 100 0 (i.length + 1) 2) = vwS p lo s 4 (.own 100 0 (i.length + 1) 2) := by rw [vwF, p100]
  rw [List.map_cons, List.map_nil, e2, vwS, p100, h100]
  have e3 := chs_vwS (p := p) (l := lo) (s := s) (lo := 0) (n := 2) i [[i64 c.id, .own 101 0 c.lines.length 1]]
  simp only [e3, List.map_cons, List.map_nil, e1, if_true, List.drop_zero]
  have e4 : vwS p lo s 3 (i64 c.id) = i64 c.id := rfl
  rw [e4, List.take_of_length_le (by simp)]
theorem rowsB_bd {l : List ByteArray} (h : rowsB l = true) : l.length ≤ 200 ∧ ∀ s ∈ l, s.size ≤ 160 := by
  simp only [rowsB, Bool.and_eq_true, decide_eq_true_eq, List.all_eq_true, rowB] at h
  exact ⟨by omega, fun s hs => by have := (h.1 s hs).1.2; omega⟩
theorem read_rows (l : List ByteArray) (h : rowsB l = false) : Tri Tryz.prog 29 [strs 0 l, .fn (.func 30) [.ptr 0 0]] [(0, .box [.v (.slice none 0 0)])] (fun _ => .pan (wrV 110) []) := by
  refine tri_intro (fun _ => false) Tryz.func29 Tryz.ntmps29 rfl (by kernel_rfl) (by simp) rfl (by decide) fun G hG hOw hNm => ?_; simp only [go_sem, hG, hOw]
  (repeat' with_reducible first | refine And.intro ?_ ?_ | intro _ | refine exP ?_ ?_); all_goals try omega
  refine call_pureA (Check_ok l) ?_
  rw [h]
  simp only [go_sem, hG, hOw]
  (repeat' with_reducible first | refine And.intro ?_ ?_ | intro _ | refine exP ?_ ?_); all_goals try omega
  refine call_tri [] [] (must_no 110) (by (simp only [go_sem]) <;> simp) (by (simp only [go_sem, entH, entH1, nilArr, obOK]) <;> simp) (by simp [injR, apart, toR]) (by simp [coverR, usH, toR]) (by simp [uniqP, lkR, toR]) (by simp [chk, hG]) ?_
  simp only [go_sem, hG, hOw]
  exact ⟨rfl, ⟨[], by (simp only [EndT, go_sem, entH, entH1, nilArr, obOK, apart, injR, coverR]) <;> simp⟩⟩
theorem read_text (l : List ByteArray) (h : rowsB l = true) : Tri Tryz.prog 29 [strs 0 l, .fn (.func 30) [.ptr 0 0]] [(0, .box [.v (.slice none 0 0)])] (fun _ => match readT l with
    | some t => .ret (.tup []) [(0, .box [chs 0 t])]
    | none => .pan (wrV 111) []) := by
  obtain ⟨hl1, hl2⟩ := rowsB_bd h
  refine tri_intro (fun _ => false) Tryz.func29 Tryz.ntmps29 rfl (by kernel_rfl) (by simp) rfl (by decide) fun G hG hOw hNm => ?_; simp only [go_sem, hG, hOw]
  (repeat' with_reducible first | refine And.intro ?_ ?_ | intro _ | refine exP ?_ ?_); all_goals try omega
  refine call_pureA (Check_ok l) ?_
  rw [h]
  simp only [go_sem, hG, hOw]
  (repeat' with_reducible first | refine And.intro ?_ ?_ | intro _ | refine exP ?_ ?_); all_goals try omega
  refine call_tri [] [] (must_yes 110) (by (simp only [go_sem]) <;> simp) (by (simp only [go_sem, entH, entH1, nilArr, obOK]) <;> simp) (by simp [injR, apart, toR]) (by simp [coverR, usH, toR]) (by simp [uniqP, lkR, toR]) (by simp [chk, hG]) ?_
  simp only [go_sem, hG, hOw]
  (repeat' with_reducible first | refine And.intro ?_ ?_ | intro _ | refine exP ?_ ?_); all_goals try omega
  refine semC_cutN (fun t : List Ch => St.of [] [(0, .box [chs 0 t])]) (fun t => readT l = some t) ?_ ?_
  · refine semC_loop (fun x : Nat × List Ch => St.of [(1, .fn (.func 30) [.ptr 0 0]), (11, strs 0 l), (12, i64 l.length), (13, i64 x.1)] [(0, .box [.own 100 0 x.2.length 2]), (100, .arx 55 2 (accR x.2 101)), (101, .arr 28 1 ((accL x.2).map (lnE 0)))]) (fun x => x.1 ≤ l.length ∧ readT (l.take x.1) = some x.2) (fun x => l.length - x.1) (0, []) ⟨by simp, by simp [readT, readF]⟩ (by simp only [accR_nil, accL_nil]; exact entA [(0, some 0), (100, none), (101, none)]) ?_
    rintro ⟨k, t⟩ ⟨hk, hrd⟩
    simp only at hk hrd
    have hbd := readT_bd hk hrd
    have hb1000 : bdT 1000 t := ⟨by have := hbd.1; omega, fun c hc => by have := hbd.2 c hc; omega⟩
    refine vc_sound _ _ _ ?_; simp only [go_sem, hG, hOw]
    (repeat' with_reducible first | refine And.intro ?_ ?_ | intro _ | refine exP ?_ ?_); all_goals try omega
    · rename_i hlt
      have hkl : k < l.length := by omega
      have hsz := hl2 _ (List.getElem_mem hkl)
      refine call_pureA (Split_ok l[k] (by omega)) ?_
      obtain ⟨name, rest, hp⟩ : ∃ name rest, partsS l[k] = name :: rest := by
        cases hq : partsS l[k] with
        | nil => exact (partsS_ne _ hq).elim
        | cons a b => exact ⟨a, b, rfl⟩
      have hpl : rest.length ≤ 1000 := by have := partsS_len l[k]; rw [hp] at this; simp at this; omega
      have hps : ∀ s ∈ rest, s.size ≤ 100000 := fun s hs => by have := partsS_size l[k] s (by rw [hp]; simp [hs]); omega
      rw [hp]
      simp only [go_sem, hG, hOw]
      (repeat' with_reducible first | refine And.intro ?_ ?_ | intro _ | refine exP ?_ ?_); all_goals try omega
      refine call_tri [(0, 20)] [] (take_yes G.lo name rest) (by (simp only [go_sem]) <;> simp) (by (simp only [go_sem, entH, entH1, nilArr, obOK]) <;> simp) (by simp [injR, apart, toR]) (by simp [coverR, usH, toR]) (by simp [uniqP, lkR, toR]) (by simp [chk, hG]) ?_
      simp only [go_sem, hG, hOw]
      (repeat' with_reducible first | refine And.intro ?_ ?_ | intro _ | refine exP ?_ ?_); all_goals try omega
      cases hst : stepT t name rest with
      | none =>
        have hno : readT l = none := readT_bad hkl hrd (by unfold stepF; rw [hp]; simp only [hst])
        rw [hno]
        refine call_tri [(0, 0), (1, 20), (2, 100), (3, 101)] [] (by_bad G.lo t name rest hst hps hpl hb1000) (by (simp only [go_sem]) <;> simp [accR_ren,lkR]) (by (simp only [go_sem, entH, entH1, nilArr, obOK]) <;> simp [accR_ren,lkR]) (by simp [injR, apart, toR]) (by simp [coverR, usH, toR, accR_ren,lkR]) (by simp [uniqP, lkR, toR]) (by simp [chk, hG]) ?_
        simp only [go_sem, hG, hOw]
        exact ⟨rfl, ⟨[], by (simp only [EndT, go_sem, entH, entH1, nilArr, obOK, apart, injR, coverR]) <;> simp⟩⟩
      | some q =>
        obtain ⟨t', r'⟩ := q
        have hrr := accR_renR t' 5 205
        refine call_tri [(0, 0), (1, 20), (2, 100), (3, 101)] [(4, 204), (5, 205)] (by_ok G.lo t t' name rest r' hst hps hpl hb1000) (by (simp only [go_sem]) <;> simp [accR_ren,lkR]) (by (simp only [go_sem, entH, entH1, nilArr, obOK]) <;> simp [accR_ren,lkR]) (by simp [injR, apart, toR]) (by simp [coverR, usH, toR, accR_ren,lkR]) (by simp [uniqP, lkR, toR]) (by simp [chk, hG]) ?_
        simp (maxSteps := 2000000) only [go_sem, hG, hOw, ↓hrr]
        (repeat' with_reducible first | refine And.intro ?_ ?_ | intro _ | refine exP ?_ ?_); all_goals try omega
        · rename_i hr0
          have hr0 : r' = [] := List.eq_nil_of_length_eq_zero (by omega)
          subst hr0
          have hsF : stepF t l[k] = some t' := by unfold stepF; rw [hp]; simp only [hst]
          exact ⟨(k + 1, t'), ⟨by show k + 1 ≤ _; omega, by rw [readT_succ l k hkl, hrd]; exact hsF⟩, by show l.length - (k + 1) < _; omega, entA [(0, some 0), (100, some 204), (101, some 205)] (by (simp only [go_sem]) <;> simp [accR_ren,lkR]) (by (simp only [go_sem, entH, entH1, nilArr, obOK]) <;> simp [accR_ren,lkR])⟩
        · rename_i hr0
          have hno : readT l = none := readT_bad hkl hrd (by
            unfold stepF; rw [hp]; simp only [hst]
            cases r' with
            | nil => exact (hr0 rfl).elim
            | cons a b => rfl)
          rw [hno]
          refine mki_step [.int .i64 111] rfl rfl (by kernel_rfl) (by simp [chk, hG]) ?_
          simp only [go_sem, hG, hOw]
          (repeat' with_reducible first | refine And.intro ?_ ?_ | intro _ | refine exP ?_ ?_); all_goals try omega
          refine panic_step rfl rfl ?_
          exact ⟨rfl, ⟨[], by (simp only [EndT, go_sem, entH, entH1, nilArr, obOK, apart, injR, coverR]) <;> simp⟩⟩
    · rename_i hge
      obtain rfl : k = l.length := by omega
      rw [List.take_length] at hrd
      refine ⟨t, hrd, ?_⟩
      rcases snoc_cases t with rfl | ⟨i, c, rfl⟩
      · refine ent_frz (fun i => i == 100 || i == 101) ?_
        simp only [accR_nil, accL_nil]
        have hN : Pm.Sub (.lst G.lo 2 []) (.lst 0 2 []) := Sub.lo (Nat.zero_le _)
        exact entA [(0, some 0)] (by (simp only [go_sem]) <;> simp [hN]) (by (simp only [go_sem, entH, entH1, nilArr, obOK]) <;> simp [hN])
      · have hS := sub_acc G.lo i c
        have hS : Pm.Sub (.lst G.lo 2 (List.map (chE 0) i ++ [[.v (.int .i64 c.id), .lst G.lo 1 (List.map (lnE 0) c.lines)]])) (.lst 0 2 (List.map (chE 0) (i ++ [c]))) := hS
        have hF := frz_acc 55 28 i c (p := fun i => i == 100 || i == 101) (lo := G.lo) (s := St.of [] [(0, .box [.own 100 0 (i.length + 1) 2]), (100, .arx 55 2 (i.map (chE 0) ++ [[i64 c.id, .own 101 0 c.lines.length 1]])), (101, .arr 28 1 (c.lines.map (lnE 0)))]) rfl rfl rfl rfl
        have hOB : obOK [(0, some 0)] (.box [chs 0 (i ++ [c])]) (some (.box (List.map (vwF (fun i => i == 100 || i == 101) G.lo (St.of [] [(0, .box [.own 100 0 (i.length + 1) 2]), (100, .arx 55 2 (i.map (chE 0) ++ [[i64 c.id, .own 101 0 c.lines.length 1]])), (101, .arr 28 1 (c.lines.map (lnE 0)))]) 4) [.own 100 0 (i.length + 1) 2]))) := by
          rw [hF]
          exact ⟨.inr ⟨rfl, hS⟩, trivial⟩
        have E3 : Ent G (frz (fun i => i == 100 || i == 101) G.lo (St.of [] [(0, .box [.own 100 0 (i.length + 1) 2]), (100, .arx 55 2 (i.map (chE 0) ++ [[i64 c.id, .own 101 0 c.lines.length 1]])), (101, .arr 28 1 (c.lines.map (lnE 0)))])) (St.of [] [(0, .box [chs 0 (i ++ [c])])]) := by
          refine ent_of [(0, some 0)] (by trivial) (by refine And.intro ?_ trivial; exact hOB) (by simp [injR, apart]) (by simp [coverR, usH]) (by simp [hNm, lkR, names])

        refine fun a w h => E3 a w (frz_ent _ a w (?_ : Sim _ _ _ _))
        simp only [accR_snoc, accL_snoc, List.length_append, List.length_singleton] at h
        exact (entA [(0, some 0), (100, some 100), (101, some 101)] (by (simp only [go_sem]) <;> simp [okLL_chs_eq,okLL,okL,okN,i64,lkR]) (by (simp only [go_sem, entH, entH1, nilArr, obOK]) <;> simp [okLL_chs_eq,okLL,okL,okN,i64,lkR])) a w h
  · rintro t ht
    rw [ht]
    simp only [go_sem, hG, hOw]
    (repeat' with_reducible first | refine And.intro ?_ ?_ | intro _ | refine exP ?_ ?_); all_goals try omega
    exact ⟨[(0, some 0)], by (simp only [EndT, go_sem, entH, entH1, nilArr, obOK, apart, injR, coverR]) <;> simp⟩
open Go Pm Go.RowKit Go.Sort
set_option maxRecDepth 100000
set_option maxHeartbeats 4000000
theorem ToText1_ok (l : List ByteArray) (t : List Ch) (h : rowsB l = true) (hr : readT l = some t) : Tri Tryz.prog 27 [.ptr 0 0, .ptr 1 0, .ptr 2 0] [(0, .box [i64 0]), (1, .box [strs 0 l]), (2, .box [.v (.slice none 0 0)])]
    (fun _ => .ret (.tup []) [(0, .box [i64 0]), (1, .box [strs 0 l]), (2, .box [chs 0 t])]) := by
  have hU := read_text l h
  simp only [hr] at hU
  refine tri_introD (fun _ => false) (told := 28) (p := 0) (x := .int .i64 0) wrV (fun _ => True) Tryz.func27 Tryz.ntmps27 rfl (by kernel_rfl) (by simp) rfl rfl rfl rfl rfl (by simp [names]) told_none (fun k _ => told_back k) fun G hG hOw hNm _ => ?_
  simp only [go_sem, hG, hOw]
  (repeat' with_reducible first | refine And.intro ?_ ?_ | intro _ | refine exP ?_ ?_); all_goals try omega
  refine call_tri [(0, 2)] [] (hU) (by (simp only [go_sem]) <;> simp) (by (simp only [go_sem, entH, entH1, nilArr, obOK]) <;> simp) (by simp [injR, apart, toR]) (by simp [coverR, usH, toR]) (by simp [uniqP, lkR, toR]) (by simp [chk, hG]) ?_
  simp (maxSteps := 2000000) only [go_sem, hG, hOw, endsD_n, endsD_r]
  (repeat' with_reducible first | refine And.intro ?_ ?_ | intro _ | refine exP ?_ ?_); all_goals try omega
  exact ⟨[(0, some 0), (1, some 1), (2, some 2)], by (simp only [EndT, go_sem, entH, entH1, nilArr, obOK, apart, injR, coverR]) <;> simp⟩
theorem ToText1_bad (l : List ByteArray) (k : Int) (h : rowsB l = false ∧ k = 110 ∨ rowsB l = true ∧ readT l = none ∧ k = 111) : Tri Tryz.prog 27 [.ptr 0 0, .ptr 1 0, .ptr 2 0] [(0, .box [i64 0]), (1, .box [strs 0 l]), (2, .box [.v (.slice none 0 0)])]
    (fun _ => .ret (.tup []) [(0, .box [i64 k]), (1, .box [strs 0 l])]) := by
  have hU : Tri Tryz.prog 29 [strs 0 l, .fn (.func 30) [.ptr 0 0]] [(0, .box [.v (.slice none 0 0)])] (fun _ => .pan (wrV k) []) := by
    rcases h with ⟨h1, rfl⟩ | ⟨h1, h2, rfl⟩
    · exact read_rows l h1
    · have := read_text l h1
      simp only [h2] at this
      exact this
  refine tri_introD (fun _ => false) (told := 28) (p := 0) (x := .int .i64 0) wrV (fun _ => True) Tryz.func27 Tryz.ntmps27 rfl (by kernel_rfl) (by simp) rfl rfl rfl rfl rfl (by simp [names]) told_none (fun k _ => told_back k) fun G hG hOw hNm _ => ?_
  simp only [go_sem, hG, hOw]
  (repeat' with_reducible first | refine And.intro ?_ ?_ | intro _ | refine exP ?_ ?_); all_goals try omega
  refine call_tri [(0, 2)] [] (hU) (by (simp only [go_sem]) <;> simp) (by (simp only [go_sem, entH, entH1, nilArr, obOK]) <;> simp) (by simp [injR, apart, toR]) (by simp [coverR, usH, toR]) (by simp [uniqP, lkR, toR]) (by simp [chk, hG]) ?_
  simp (maxSteps := 2000000) only [go_sem, hG, hOw, endsD_p]
  (repeat' with_reducible first | refine And.intro ?_ ?_ | intro _ | refine exP ?_ ?_); all_goals try omega
  exact ⟨k, rfl, ⟨[(0, some 0), (1, some 1)], by (simp only [EndT, go_sem, entH, entH1, nilArr, obOK, apart, injR, coverR]) <;> simp⟩⟩
def toTextP (l : List ByteArray) : List Ch × Int := if rowsB l then match readT l with
    | some t => if textB t then (t, 0) else ([], 10)
    | none => ([], 111)
  else ([], 110)
theorem ToText_ok (l : List ByteArray) : Gives Tryz.prog 11 [strs 0 l] (fun _ => .tup [txE 0 (toTextP l).1, i64 (toTextP l).2]) := by
  by_cases hgood : rowsB l = true ∧ ∃ t, readT l = some t
  · obtain ⟨h1, t, h2⟩ := hgood
    have e : toTextP l = if textB t then (t, 0) else ([], 10) := by unfold toTextP; simp only [h1, h2, if_true]
    rw [e]
    refine pure_intro (ow := fun _ => false) Tryz.func11 Tryz.ntmps11 rfl (by kernel_rfl) (by simp) rfl (by decide) fun G hG hOw hNm hB => ?_; simp only [go_sem, hG, hOw]
    (repeat' with_reducible first | refine And.intro ?_ ?_ | intro _ | refine exP ?_ ?_); all_goals try omega
    refine call_tri [(0, 5), (1, 1), (2, 4)] [] (ToText1_ok l t h1 h2) (by (simp only [go_sem]) <;> simp) (by (simp only [go_sem, entH, entH1, nilArr, obOK]) <;> simp) (by simp [injR, apart, toR]) (by simp [coverR, usH, toR]) (by simp [uniqP, lkR, toR]) (by simp [chk, hG]) ?_
    simp only [go_sem, hG, hOw]
    (repeat' with_reducible first | refine And.intro ?_ ?_ | intro _ | refine exP ?_ ?_); all_goals try omega
    refine call_pureA (LCheck_ok t) ?_
    cases htx : textB t with
    | false =>
      simp only [go_sem, hG, hOw]
      (repeat' with_reducible first | refine And.intro ?_ ?_ | intro _ | refine exP ?_ ?_); all_goals try omega
      refine semC_draw ⟨[2, 5], [], []⟩ [(0, false), (1, false), (2, false), (3, false)] mixed (by kernel_rfl) ?_
      simp only [pickO, List.getElem?_cons_zero, List.getElem?_cons_succ]
      simp only [go_sem, hG, hOw]
      (repeat' with_reducible first | refine And.intro ?_ ?_ | intro _ | refine exP ?_ ?_); all_goals try omega
      exact Subs.tup (.cons (Subs.agg (.cons (.nil _ _) .nil)) (.cons (.refl _) .nil))
    | true =>
      simp only [go_sem, hG, hOw]
      (repeat' with_reducible first | refine And.intro ?_ ?_ | intro _ | refine exP ?_ ?_); all_goals try omega
  · obtain ⟨k, hk, e⟩ : ∃ k : Int, (rowsB l = false ∧ k = 110 ∨ rowsB l = true ∧ readT l = none ∧ k = 111) ∧ toTextP l = ([], k) := by
      cases h1 : rowsB l with
      | false => exact ⟨110, .inl ⟨rfl, rfl⟩, by unfold toTextP; simp [h1]⟩
      | true =>
        cases h2 : readT l with
        | none => exact ⟨111, .inr ⟨rfl, rfl, rfl⟩, by unfold toTextP; simp [h1, h2]⟩
        | some t => exact (hgood ⟨h1, t, h2⟩).elim
    have hk0 : k ≠ 0 := by rcases hk with ⟨_, rfl⟩ | ⟨_, _, rfl⟩ <;> decide
    rw [e]
    refine pure_intro (ow := fun _ => false) Tryz.func11 Tryz.ntmps11 rfl (by kernel_rfl) (by simp) rfl (by decide) fun G hG hOw hNm hB => ?_; simp only [go_sem, hG, hOw]
    (repeat' with_reducible first | refine And.intro ?_ ?_ | intro _ | refine exP ?_ ?_); all_goals try omega
    refine call_tri [(0, 5), (1, 1), (2, 4)] [] (ToText1_bad l k hk) (by (simp only [go_sem]) <;> simp) (by (simp only [go_sem, entH, entH1, nilArr, obOK]) <;> simp) (by simp [injR, apart, toR]) (by simp [coverR, usH, toR]) (by simp [uniqP, lkR, toR]) (by simp [chk, hG]) ?_
    simp (maxSteps := 2000000) only [go_sem, hG, hOw, hk0]
    (repeat' with_reducible first | refine And.intro ?_ ?_ | intro _ | refine exP ?_ ?_); all_goals try omega
    refine semC_draw ⟨[2, 5], [], []⟩ [(0, false), (1, false), (2, false), (3, false)] mixed (by kernel_rfl) ?_
    simp only [pickO, List.getElem?_cons_zero, List.getElem?_cons_succ]
    simp only [go_sem, hG, hOw]
    (repeat' with_reducible first | refine And.intro ?_ ?_ | intro _ | refine exP ?_ ?_); all_goals try omega
    exact Subs.tup (.cons (Subs.agg (.cons (.nil _ _) .nil)) (.cons (.refl _) .nil))
end Go.Proofs.YtphadkcpgnkpfaaGreatDoor
