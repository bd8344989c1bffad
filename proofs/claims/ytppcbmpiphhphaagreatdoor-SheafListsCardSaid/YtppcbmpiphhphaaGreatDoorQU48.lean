import Derived.Test.YtppcbmpiphhphaaGreatDoorQU44
import Derived.Test.YtppcbmpiphhphaaGreatDoorQU46
import Derived.Test.YtppcbmpiphhphaaGreatDoorQU47
namespace Go.Proofs.YtppcbmpiphhphaaGreatDoor
open Go Pm
set_option linter.unusedSimpArgs false
set_option linter.unusedVariables false
set_option maxHeartbeats 4000000
set_option maxRecDepth 100000
def okW : Rws → Bool
  | [] => false
  | w :: _ => wordB w
def wT : Rws → ByteArray
  | [] => ⟨#[]⟩
  | w :: _ => w
def mkT (l : Rws) : UInt8 := UInt8.ofNat (nvS l 1).toNat
def okH (l : Rws) : Bool := okW l && (okN1 l 1 && decide (nvS l 1 ≤ 255))
theorem nvS_in9 (l : Rws) (j : Nat) : in9 (nvS l j) := by
  unfold nvS
  cases h : valueS (l.getD j ByteArray.empty) with
  | none => exact ⟨by decide, by decide⟩
  | some v =>
    obtain ⟨h1, h2, h3, h4⟩ := valueU_inv h
    exact ⟨h2, h3⟩
theorem rword_any (lo : Nat) (l : Rws) (b : Bool) (hl : ∀ s ∈ l, s.size ≤ 100000) : Tri Tryz.prog 41 [.ptr 0 0] [(0, .box [strs lo l, bl b])] (fun _ => .ret (str (wT l)) [(0, .box [strs lo (l.drop 1), bl (b || !okW l)])]) := by
  cases l with
  | nil =>
    have e : (b || !okW []) = true := by simp [okW]
    rw [e]
    exact rword_end lo b
  | cons w r => exact rword_yes lo w r b (hl w (by simp))
theorem rhead_any (lo : Nat) (l : Rws) (b : Bool) (hl : ∀ s ∈ l, s.size ≤ 100000) : Tri Tryz.prog 58 [.ptr 0 0] [(0, .box [strs lo l, bl b])] (fun _ => .ret (.agg [str (wT l), u8 (mkT l)]) [(0, .box [strs lo (l.drop 2), bl (b || !okH l)])]) := by
  have hW := rword_any lo l b hl
  have hN := rnum_any lo (l.drop 1) (b || !okW l) (fun s hs => hl s (List.mem_of_mem_drop hs))
  rw [nvS_drop, okN1_drop, List.drop_drop] at hN
  obtain ⟨n0, n1⟩ := nvS_in9 l 1
  have hm : ((mkT l).toNat : Int) = nvS l 1 % 256 := by unfold mkT; rw [UInt8.toNat_ofNat']; omega
  have hwr : IntKind.u8.wrap (nvS l 1) = ((mkT l).toNat : Int) := by rw [hm]; rfl
  cases hb : (b || !okW l || !okN1 l 1) with
  | true =>
    have e : (b || !okH l) = true := by unfold okH; revert hb; cases b <;> cases okW l <;> cases okN1 l 1 <;> simp
    rw [e]
    rw [hb] at hN
    refine tri_intro (fun _ => false) Tryz.func58 Tryz.ntmps58 rfl (by kernel_rfl) (by simp) rfl (by decide) fun G hG hOw hNm => ?_; simp only [go_sem, hG, hOw]
    refine call_tri [(0, 0)] [] (hW) (by (simp only [go_sem]) <;> simp) (by (simp only [go_sem, entH, entH1, nilArr, obOK]) <;> simp) (by simp [injR, apart, toR]) (by simp [coverR, usH, toR]) (by simp [uniqP, lkR, toR]) (by simp [chk, hG]) ?_
    simp only [go_sem, hG, hOw]
    (repeat' with_reducible first | refine And.intro ?_ ?_ | intro _ | refine exP ?_ ?_); all_goals try omega
    refine call_tri [(0, 0)] [] (hN) (by (simp only [go_sem]) <;> simp) (by (simp only [go_sem, entH, entH1, nilArr, obOK]) <;> simp) (by simp [injR, apart, toR]) (by simp [coverR, usH, toR]) (by simp [uniqP, lkR, toR]) (by simp [chk, hG]) ?_
    simp (maxSteps := 2000000) only [go_sem, hG, hOw, hwr]
    try (repeat' with_reducible first | refine And.intro ?_ ?_ | intro _ | refine exP ?_ ?_); all_goals try omega
    exact ⟨[(0, some 0)], by (simp only [EndT, go_sem, entH, entH1, nilArr, obOK, apart, injR, coverR]) <;> simp⟩
  | false =>
    rw [hb] at hN
    by_cases h2 : nvS l 1 ≤ 255
    · have h2' : ¬ (255 : Int) < nvS l 1 := by omega
      have e : (b || !okH l) = false := by unfold okH; rw [decide_eq_true h2]; revert hb; cases b <;> cases okW l <;> cases okN1 l 1 <;> simp
      rw [e]
      refine tri_intro (fun _ => false) Tryz.func58 Tryz.ntmps58 rfl (by kernel_rfl) (by simp) rfl (by decide) fun G hG hOw hNm => ?_; simp only [go_sem, hG, hOw]
      refine call_tri [(0, 0)] [] (hW) (by (simp only [go_sem]) <;> simp) (by (simp only [go_sem, entH, entH1, nilArr, obOK]) <;> simp) (by simp [injR, apart, toR]) (by simp [coverR, usH, toR]) (by simp [uniqP, lkR, toR]) (by simp [chk, hG]) ?_
      simp only [go_sem, hG, hOw]
      (repeat' with_reducible first | refine And.intro ?_ ?_ | intro _ | refine exP ?_ ?_); all_goals try omega
      refine call_tri [(0, 0)] [] (hN) (by (simp only [go_sem]) <;> simp) (by (simp only [go_sem, entH, entH1, nilArr, obOK]) <;> simp) (by simp [injR, apart, toR]) (by simp [coverR, usH, toR]) (by simp [uniqP, lkR, toR]) (by simp [chk, hG]) ?_
      simp (maxSteps := 2000000) only [go_sem, hG, hOw, hwr,h2',decide_eq_false h2']
      try (repeat' with_reducible first | refine And.intro ?_ ?_ | intro _ | refine exP ?_ ?_); all_goals try omega
      exact ⟨[(0, some 0)], by (simp only [EndT, go_sem, entH, entH1, nilArr, obOK, apart, injR, coverR]) <;> simp⟩
    · have h2' : (255 : Int) < nvS l 1 := by omega
      have e : (b || !okH l) = true := by unfold okH; rw [decide_eq_false h2]; simp
      rw [e]
      refine tri_intro (fun _ => false) Tryz.func58 Tryz.ntmps58 rfl (by kernel_rfl) (by simp) rfl (by decide) fun G hG hOw hNm => ?_; simp only [go_sem, hG, hOw]
      refine call_tri [(0, 0)] [] (hW) (by (simp only [go_sem]) <;> simp) (by (simp only [go_sem, entH, entH1, nilArr, obOK]) <;> simp) (by simp [injR, apart, toR]) (by simp [coverR, usH, toR]) (by simp [uniqP, lkR, toR]) (by simp [chk, hG]) ?_
      simp only [go_sem, hG, hOw]
      (repeat' with_reducible first | refine And.intro ?_ ?_ | intro _ | refine exP ?_ ?_); all_goals try omega
      refine call_tri [(0, 0)] [] (hN) (by (simp only [go_sem]) <;> simp) (by (simp only [go_sem, entH, entH1, nilArr, obOK]) <;> simp) (by simp [injR, apart, toR]) (by simp [coverR, usH, toR]) (by simp [uniqP, lkR, toR]) (by simp [chk, hG]) ?_
      simp (maxSteps := 2000000) only [go_sem, hG, hOw, hwr,h2',decide_eq_true h2']
      try (repeat' with_reducible first | refine And.intro ?_ ?_ | intro _ | refine exP ?_ ?_); all_goals try omega
      exact ⟨[(0, some 0)], by (simp only [EndT, go_sem, entH, entH1, nilArr, obOK, apart, injR, coverR]) <;> simp⟩
open Go Pm
theorem wordO_t (l : Rws) : wordO l = if okW l = true then some (wT l, l.drop 1) else none := by
  cases l <;> rfl
theorem numO_t (l : Rws) : numO l = if okN1 l 0 = true then some (nvS l 0, l.drop 1) else none := by
  cases l with
  | nil => rfl
  | cons s r =>
    show (valueS s).map (fun v => (v, r)) = _
    have e : okN1 (s :: r) 0 = (valueS s).isSome := by simp [okN1]
    have e2 : nvS (s :: r) 0 = (valueS s).getD 0 := by simp [nvS]
    rw [e, e2]
    cases valueS s <;> rfl
theorem headO_t (l : Rws) : headO l = if okH l = true then some ((wT l, mkT l), l.drop 2) else none := by
  unfold headO okH
  rw [wordO_t]
  cases okW l with
  | false => rfl
  | true =>
    simp only [if_true, numO_t, okN1_drop, nvS_drop, List.drop_drop, Bool.true_and]
    cases okN1 l 1 with
    | false => rfl
    | true =>
      simp only [if_true, Bool.true_and, decide_eq_true_eq]
      by_cases h : nvS l 1 ≤ 255
      · simp [h, mkT]
      · simp [h]
theorem placeO_t (l : Rws) : placeO l = if placeB l = true then some ((nvS l 0, nvS l 1, nvS l 2), l.drop 3) else none := rfl
def dT (k : Int) (l : Rws) : Dc := if k = 1 then ⟨nvS l 0, 1, wT (l.drop 1), 0, 0, 0, wT (l.drop 2), mkT (l.drop 2), 0⟩
  else if k = 2 then ⟨nvS l 0, 2, wT (l.drop 4), nvS l 1, nvS l 2, nvS l 3, wT (l.drop 5), mkT (l.drop 5), 0⟩
  else if k = 3 then ⟨nvS l 0, 3, ⟨#[]⟩, nvS l 1, nvS l 2, nvS l 3, wT (l.drop 4), mkT (l.drop 4), 0⟩
  else if k = 4 then ⟨nvS l 0, 4, ⟨#[]⟩, 0, 0, 0, ⟨#[]⟩, 0, nvS l 1⟩
  else ⟨nvS l 0, 0, ⟨#[]⟩, 0, 0, 0, ⟨#[]⟩, 0, 0⟩
def dOk (k : Int) (l : Rws) : Bool := okN1 l 0 && (if k = 1 then okW (l.drop 1) && okH (l.drop 2) else if k = 2 then placeB (l.drop 1) && (okW (l.drop 4) && okH (l.drop 5))
  else if k = 3 then placeB (l.drop 1) && okH (l.drop 4) else if k = 4 then okN1 l 1 else false)
def dN (k : Int) : Nat := if k = 1 then 4 else if k = 2 then 7 else if k = 3 then 6 else if k = 4 then 2 else 1
theorem decO_t (name : ByteArray) (l : Rws) : decO name l = if dOk (formI name) l = true then some (dT (formI name) l, l.drop (dN (formI name))) else none := by
  unfold decO dOk
  rw [numO_t]
  cases okN1 l 0 with
  | false => rfl
  | true =>
    simp only [if_true, Bool.true_and]
    rcases formI_cases name with hf | hf | hf | hf | hf
    all_goals rw [hf]
    · rfl
    · simp only [fK, dT, dN, if_true, f2, wordO_t]
      cases okW (l.drop 1) with
      | false => rfl
      | true =>
        simp only [if_true, headO_t, List.drop_drop, Bool.true_and]
        cases okH (l.drop 2) <;> rfl
    · have n1 : ¬ (2 : Int) = 1 := by decide
      simp only [fK, dT, dN, if_neg n1, if_true, f4, f2, placeO_t]
      cases placeB (l.drop 1) with
      | false => rfl
      | true =>
        simp only [if_true, wordO_t, List.drop_drop, Bool.true_and]
        cases okW (l.drop 4) with
        | false => rfl
        | true =>
          simp only [if_true, headO_t, List.drop_drop, Bool.true_and]
          cases okH (l.drop 5) with
          | false => rfl
          | true => simp only [setH, setP, nvS_drop, dc0]; rfl
    · have n1 : ¬ (3 : Int) = 1 := by decide
      have n2 : ¬ (3 : Int) = 2 := by decide
      simp only [fK, dT, dN, if_neg n1, if_neg n2, if_true, f6, placeO_t]
      cases placeB (l.drop 1) with
      | false => rfl
      | true =>
        simp only [if_true, headO_t, List.drop_drop, Bool.true_and]
        cases okH (l.drop 4) with
        | false => rfl
        | true => simp only [setH, setP, nvS_drop, dc0]; rfl
    · have n1 : ¬ (4 : Int) = 1 := by decide
      have n2 : ¬ (4 : Int) = 2 := by decide
      have n3 : ¬ (4 : Int) = 3 := by decide
      simp only [fK, dT, dN, if_neg n1, if_neg n2, if_neg n3, if_true, f8, numO_t, okN1_drop, nvS_drop, List.drop_drop]
      cases okN1 l 1 <;> rfl
def twoW (l : Rws) : Bool := decide (1 < (l.drop 1).length)
def rT (l : Rws) : Rl := if twoW l = true then ⟨wT l, wT (l.drop 1), nvS l 2⟩ else ⟨wT l, ⟨#[]⟩, nvS l 1⟩
def rOk (l : Rws) : Bool := okW l && (if twoW l = true then okW (l.drop 1) && okN1 l 2 else okN1 l 1)
def rN (l : Rws) : Nat := if twoW l = true then 3 else 2
theorem putO_t (l : Rws) : putO (l.drop 1) = if twoW l = true then wordO (l.drop 1) else some (⟨#[]⟩, l.drop 1) := by
  unfold putO twoW
  by_cases h : 1 < (l.drop 1).length
  · rw [if_pos h, if_pos (decide_eq_true h)]
  · rw [if_neg h, if_neg (by rw [decide_eq_false h]; decide)]
theorem ruleO_t (l : Rws) : ruleO l = if rOk l = true then some (rT l, l.drop (rN l)) else none := by
  unfold ruleO rOk rT rN
  rw [wordO_t]
  cases okW l with
  | false => rfl
  | true =>
    simp only [if_true, putO_t, Bool.true_and]
    cases twoW l with
    | false =>
      simp only [Bool.false_eq_true, if_false, numO_t, okN1_drop, nvS_drop, List.drop_drop]
      cases okN1 l 1 <;> rfl
    | true =>
      simp only [if_true, wordO_t]
      cases okW (l.drop 1) with
      | false => rfl
      | true =>
        simp only [if_true, numO_t, okN1_drop, nvS_drop, List.drop_drop, Bool.true_and]
        cases okN1 l 2 <;> rfl
theorem stepY_cut {s : Lx} {x : ByteArray} {rest : Rws} (hp : partsS x = cutS :: rest) : stepY s x = if (!(!rOk rest || decide (0 < s.decs.length)) && (rest.drop (rN rest)).isEmpty) = true then some ⟨s.rules ++ [rT rest], s.decs⟩ else none := by
  unfold stepY
  rw [hp]
  simp only [stepLx, if_true, ruleO_t]
  by_cases hd : s.decs = []
  · have h0 : decide (0 < s.decs.length) = false := by rw [hd]; rfl
    rw [if_pos hd, h0]
    cases rOk rest with
    | false => simp
    | true => cases rest.drop (rN rest) <;> simp
  · have h0 : decide (0 < s.decs.length) = true := decide_eq_true (List.length_pos_iff.2 hd)
    rw [if_neg hd, h0]
    simp
theorem stepY_dec {s : Lx} {x name : ByteArray} {rest : Rws} (hp : partsS x = name :: rest) (hn : ¬ name = cutS) : stepY s x = if (!(!dOk (formI name) rest) && (rest.drop (dN (formI name))).isEmpty) = true then some ⟨s.rules, s.decs ++ [dT (formI name) rest]⟩ else none := by
  unfold stepY
  rw [hp]
  simp only [stepLx, if_neg hn, decO_t]
  cases dOk (formI name) rest with
  | false => simp
  | true => cases rest.drop (dN (formI name)) <;> simp
open Go Pm Go.RowKit Go.Sort
set_option maxHeartbeats 4000000
set_option maxRecDepth 100000
theorem formI_name {name : ByteArray} {k : Int} (h : formI name = k) : (k = 1 → name = formS) ∧ (k = 2 → name = fromS) ∧ (k = 3 → name = plcS) ∧ (k = 4 → name = voidS) ∧ (k = -1 → ¬ name = formS ∧ ¬ name = fromS ∧ ¬ name = plcS ∧ ¬ name = voidS) := by
  unfold formI at h
  by_cases h1 : name = formS
  · rw [if_pos h1] at h; subst h; simp [h1]
  rw [if_neg h1] at h
  by_cases h2 : name = fromS
  · rw [if_pos h2] at h; subst h; simp [h2]
  rw [if_neg h2] at h
  by_cases h3 : name = plcS
  · rw [if_pos h3] at h; subst h; simp [h3]
  rw [if_neg h3] at h
  by_cases h4 : name = voidS
  · rw [if_pos h4] at h; subst h; simp [h4]
  rw [if_neg h4] at h; subst h; simp [h1, h2, h3, h4]
theorem RToLexicon_ok (t : List Ch) (hok : OKt t) (l : List ByteArray) : Gives Tryz.prog 18 [txE 0 t, strs 0 l] (fun n => .tup [lxE n (toLexP t l).1, i64 (toLexP t l).2]) := by
  cases ht : textB t with
  | false =>
    have e : toLexP t l = (X0, 10) := by unfold toLexP; rw [ht]; rfl
    rw [e]
    refine pure_intro (ow := fun _ => false) Tryz.func18 Tryz.ntmps18 rfl (by kernel_rfl) (by simp) rfl (by decide) fun G hG hOw hNm hB => ?_; simp only [go_sem, hG, hOw]
    refine call_pureA (CheckT_ok t hok) ?_
    simp (maxSteps := 2000000) only [go_sem, hG, hOw, ht]
    try (repeat' with_reducible first | refine And.intro ?_ ?_ | intro _ | refine exP ?_ ?_); all_goals try omega
    exact sub_noLx _ _
  | true =>
    cases h : rowsB l with
    | false =>
      have e : toLexP t l = (X0, 110) := by unfold toLexP; rw [ht, h]; rfl
      rw [e]
      refine pure_intro (ow := fun _ => false) Tryz.func18 Tryz.ntmps18 rfl (by kernel_rfl) (by simp) rfl (by decide) fun G hG hOw hNm hB => ?_; simp only [go_sem, hG, hOw]
      refine call_pureA (CheckT_ok t hok) ?_
      simp (maxSteps := 2000000) only [go_sem, hG, hOw, ht]
      try (repeat' with_reducible first | refine And.intro ?_ ?_ | intro _ | refine exP ?_ ?_); all_goals try omega
      refine call_pureA (Rows_ok l) ?_
      rw [h]
      simp only [go_sem, hG, hOw]
      try (repeat' with_reducible first | refine And.intro ?_ ?_ | intro _ | refine exP ?_ ?_); all_goals try omega
      exact sub_noLx _ _
    | true =>
      obtain ⟨hl1, hl2⟩ := rowsB_bd h
      have bad : readX X0 l = none → toLexP t l = (X0, 111) := fun e => by simp [toLexP, h, ht, e]
      refine pure_intro (ow := fun _ => false) Tryz.func18 Tryz.ntmps18 rfl (by kernel_rfl) (by simp) rfl (by decide) fun G hG hOw hNm hB => ?_; simp only [go_sem, hG, hOw]
      refine call_pureA (CheckT_ok t hok) ?_
      simp (maxSteps := 2000000) only [go_sem, hG, hOw, ht]
      try (repeat' with_reducible first | refine And.intro ?_ ?_ | intro _ | refine exP ?_ ?_); all_goals try omega
      refine call_pureA (Rows_ok l) ?_
      rw [h]
      simp only [go_sem, hG, hOw]
      try (repeat' with_reducible first | refine And.intro ?_ ?_ | intro _ | refine exP ?_ ?_); all_goals try omega
      have e0 : X0.rules = [] := rfl
      have e1 : X0.decs = [] := rfl
      refine semC_cut (fun s : Lx => St.of [(2, .ptr 2 0), (4, .ptr 4 0), (7, .ptr 7 0)] [(2, .box [chs 0 t]), (4, .box [.v (.slice none 0 0), .v (.slice none 0 0)]), (7, .box [.own 60 0 s.rules.length 3, .own 61 0 s.decs.length 9]), (60, .arr 64 3 (s.rules.map rlC)), (61, .arr 68 9 (s.decs.map dcC))]) (fun s => readX X0 l = some s) ?_ ?_
      · refine semC_loop (fun x : Nat × Lx => St.of [(1, strs 0 l), (2, .ptr 2 0), (4, .ptr 4 0), (7, .ptr 7 0), (8, i64 x.1)] [(2, .box [chs 0 t]), (4, .box [.v (.slice none 0 0), .v (.slice none 0 0)]), (7, .box [.own 60 0 x.2.rules.length 3, .own 61 0 x.2.decs.length 9]), (60, .arr 64 3 (x.2.rules.map rlC)), (61, .arr 68 9 (x.2.decs.map dcC))]) (fun x => x.1 ≤ l.length ∧ readX X0 (l.take x.1) = some x.2) (fun x => l.length - x.1) (0, X0) ⟨by simp, by simp [readX]⟩ (ent_of [(2, some 2), (4, some 4), (7, some 7), (60, none), (61, none)] (by (simp only [e0,e1,List.map_nil,List.length_nil, go_sem]) <;> simp [e0, e1, List.map_nil, List.length_nil]) (by (simp only [e0,e1,List.map_nil,List.length_nil, go_sem, entH, entH1, nilArr, obOK]) <;> simp [e0, e1, List.map_nil, List.length_nil]) (by simp [injR, apart]) (by simp [coverR, usH]) (by simp [hNm, lkR, names])) ?_
        rintro ⟨k, s⟩ ⟨hk, hrd⟩
        simp only at hk hrd
        obtain ⟨hb1, hb2, hb3, hb4⟩ := readX_ok hk hrd
        by_cases hkl : k < l.length
        · have hlt : (k : Int) < l.length := by omega
          have hsz := hl2 _ (List.getElem_mem hkl)
          have no : stepY s l[k] = none → toLexP t l = (X0, 111) := fun e => bad (readX_bad hkl hrd e)
          obtain ⟨name, rest, hp⟩ : ∃ name rest, partsS l[k] = name :: rest := by
            cases hq : partsS l[k] with
            | nil => exact (partsS_ne _ hq).elim
            | cons a b => exact ⟨a, b, rfl⟩
          have hps : ∀ s ∈ rest, s.size ≤ 100000 := fun s hs => by have := partsS_size l[k] s (by rw [hp]; simp [hs]); omega
          have nx : ∀ s', stepY s l[k] = some s' → readX X0 (l.take (k + 1)) = some s' := fun s' e => by rw [readX_succ l X0 k hkl, hrd]; simp [e]
          refine vc_sound _ _ _ ?_
          simp (maxSteps := 2000000) only [go_sem, hG, hOw, hlt]
          (repeat' with_reducible first | refine And.intro ?_ ?_ | intro _ | refine exP ?_ ?_); all_goals try omega
          refine call_pureA (RParts_ok l[k] (by omega)) ?_
          rw [hp]
          simp only [go_sem, hG, hOw]
          (repeat' with_reducible first | refine And.intro ?_ ?_ | intro _ | refine exP ?_ ?_); all_goals try omega
          refine call_tri [(0, 9)] [] (next_yes G.lo name rest false) (by (simp only [go_sem]) <;> simp) (by (simp only [go_sem, entH, entH1, nilArr, obOK]) <;> simp) (by simp [injR, apart, toR]) (by simp [coverR, usH, toR]) (by simp [uniqP, lkR, toR]) (by simp [chk, hG]) ?_
          by_cases h1 : name = cutS
          · subst h1
            have hd1 : decide (cutS = ⟨#[99, 117, 116]⟩) = true := by decide
            have hF := stepY_cut (s := s) hp
            have hps1 : ∀ s ∈ rest.drop 1, s.size ≤ 100000 := fun s hs => hps s (List.mem_of_mem_drop hs)
            have hW := rword_any G.lo rest false hps
            have hW2 := rword_any G.lo (rest.drop 1) (false || !okW rest) hps1
            simp (maxSteps := 2000000) only [go_sem, hG, hOw, hd1]
            (repeat' with_reducible first | refine And.intro ?_ ?_ | intro _ | refine exP ?_ ?_); all_goals try omega
            refine call_tri [(0, 9)] [] (hW) (by (simp only [go_sem]) <;> simp) (by (simp only [go_sem, entH, entH1, nilArr, obOK]) <;> simp) (by simp [injR, apart, toR]) (by simp [coverR, usH, toR]) (by simp [uniqP, lkR, toR]) (by simp [chk, hG]) ?_
            simp only [go_sem, hG, hOw]
            (repeat' with_reducible first | refine And.intro ?_ ?_ | intro _ | refine exP ?_ ?_); all_goals try omega
            · rename_i h2
              have hr0 : rest.length - 1 = (rest.length - 1 : Nat) := rfl
              have ht2 : twoW rest = true := by unfold twoW; rw [List.length_drop]; exact decide_eq_true (by omega)
              have hN := rnum_any G.lo (rest.drop 2) (false || !okW rest || !okW (rest.drop 1)) (fun s hs => hps s (List.mem_of_mem_drop hs))
              rw [nvS_drop, okN1_drop, List.drop_drop] at hN
              have hR := rright_ok G.lo (rest.drop 3) (false || !okW rest || !okW (rest.drop 1) || !okN1 rest 2 || decide (0 < s.decs.length))
              rw [List.drop_drop] at hW2
              refine call_tri [(0, 9)] [] (hW2) (by (simp only [go_sem]) <;> simp) (by (simp only [go_sem, entH, entH1, nilArr, obOK]) <;> simp) (by simp [injR, apart, toR]) (by simp [coverR, usH, toR]) (by simp [uniqP, lkR, toR]) (by simp [chk, hG]) ?_
              simp only [go_sem, hG, hOw]
              (repeat' with_reducible first | refine And.intro ?_ ?_ | intro _ | refine exP ?_ ?_); all_goals try omega
              refine call_tri [(0, 9)] [] (hN) (by (simp only [go_sem]) <;> simp) (by (simp only [go_sem, entH, entH1, nilArr, obOK]) <;> simp) (by simp [injR, apart, toR]) (by simp [coverR, usH, toR]) (by simp [uniqP, lkR, toR]) (by simp [chk, hG]) ?_
              simp only [go_sem, hG, hOw]
              (repeat' with_reducible first | refine And.intro ?_ ?_ | intro _ | refine exP ?_ ?_); all_goals try omega
              · rename_i hf
                have hR := rright_ok G.lo (rest.drop 3) (decide ((0 : Int) < s.decs.length))
                have hrk : rOk rest = true := by unfold rOk; rw [if_pos ht2]; revert hf; cases okW rest <;> cases okW (rest.drop 1) <;> cases okN1 rest 2 <;> simp
                have hrn : rN rest = 3 := by unfold rN; rw [if_pos ht2]
                have hrt : rT rest = ⟨wT rest, wT (rest.drop 1), nvS rest 2⟩ := by unfold rT; rw [if_pos ht2]
                have hdd : decide (0 < s.decs.length) = decide ((0 : Int) < s.decs.length) := decide_eq_decide.2 (by omega)
                rw [hrk, hrn, hrt, hdd, Bool.not_true, Bool.false_or] at hF
                refine call_tri [(0, 9)] [] (hR) (by (simp only [go_sem]) <;> simp) (by (simp only [go_sem, entH, entH1, nilArr, obOK]) <;> simp) (by simp [injR, apart, toR]) (by simp [coverR, usH, toR]) (by simp [uniqP, lkR, toR]) (by simp [chk, hG]) ?_
                cases hg : (!decide ((0 : Int) < s.decs.length) && (rest.drop 3).isEmpty) with
                | false =>
                  rw [hg] at hF
                  rw [no (by rw [hF]; rfl)]
                  simp only [go_sem, hG, hOw]
                  (repeat' with_reducible first | refine And.intro ?_ ?_ | intro _ | refine exP ?_ ?_); all_goals try omega
                  exact sub_noLx _ _
                | true =>
                  rw [hg, if_pos rfl] at hF
                  have g1 : (s.rules ++ [(⟨wT rest, wT (rest.drop 1), nvS rest 2⟩ : Rl)]).map rlC = s.rules.map rlC ++ [rlC ⟨wT rest, wT (rest.drop 1), nvS rest 2⟩] := by rw [List.map_append]; rfl
                  simp only [go_sem, hG, hOw]
                  (repeat' with_reducible first | refine And.intro ?_ ?_ | intro _ | refine exP ?_ ?_); all_goals try omega
                  exact ⟨(k + 1, ⟨s.rules ++ [⟨wT rest, wT (rest.drop 1), nvS rest 2⟩], s.decs⟩), ⟨by show k + 1 ≤ _; omega, nx _ hF⟩, by show l.length - (k + 1) < _; omega, ent_of [(2, some 2), (4, some 4), (7, some 7), (60, some 53), (61, some 61)] (by (simp only [g1,List.length_append,List.length_cons,List.length_nil, go_sem]) <;> simp [g1, List.length_append, List.length_cons, List.length_nil]) (by (simp only [g1,List.length_append,List.length_cons,List.length_nil, go_sem, entH, entH1, nilArr, obOK]) <;> simp [g1, List.length_append, List.length_cons, List.length_nil]) (by simp [injR, apart]) (by simp [coverR, usH]) (by simp [hNm, lkR, names])⟩
              · rename_i hf
                have hR := rright_ok G.lo (rest.drop 3) true
                have hrk : rOk rest = false := by unfold rOk; rw [if_pos ht2]; revert hf; cases okW rest <;> cases okW (rest.drop 1) <;> cases okN1 rest 2 <;> simp
                rw [hrk] at hF
                rw [no (by rw [hF]; simp)]
                refine call_tri [(0, 9)] [] (hR) (by (simp only [go_sem]) <;> simp) (by (simp only [go_sem, entH, entH1, nilArr, obOK]) <;> simp) (by simp [injR, apart, toR]) (by simp [coverR, usH, toR]) (by simp [uniqP, lkR, toR]) (by simp [chk, hG]) ?_
                simp only [go_sem, hG, hOw]
                (repeat' with_reducible first | refine And.intro ?_ ?_ | intro _ | refine exP ?_ ?_); all_goals try omega
                exact sub_noLx _ _
            · rename_i h2
              have ht2 : ¬ twoW rest = true := by unfold twoW; rw [List.length_drop]; intro h; have := of_decide_eq_true h; omega
              have hN := rnum_any G.lo (rest.drop 1) (false || !okW rest) hps1
              rw [nvS_drop, okN1_drop, List.drop_drop] at hN
              refine call_tri [(0, 9)] [] (hN) (by (simp only [go_sem]) <;> simp) (by (simp only [go_sem, entH, entH1, nilArr, obOK]) <;> simp) (by simp [injR, apart, toR]) (by simp [coverR, usH, toR]) (by simp [uniqP, lkR, toR]) (by simp [chk, hG]) ?_
              simp only [go_sem, hG, hOw]
              (repeat' with_reducible first | refine And.intro ?_ ?_ | intro _ | refine exP ?_ ?_); all_goals try omega
              · rename_i hf
                have hR := rright_ok G.lo (rest.drop 2) (decide ((0 : Int) < s.decs.length))
                have hrk : rOk rest = true := by unfold rOk; rw [if_neg ht2]; revert hf; cases okW rest <;> cases okN1 rest 1 <;> simp
                have hrn : rN rest = 2 := by unfold rN; rw [if_neg ht2]
                have hrt : rT rest = ⟨wT rest, ⟨#[]⟩, nvS rest 1⟩ := by unfold rT; rw [if_neg ht2]
                have hdd : decide (0 < s.decs.length) = decide ((0 : Int) < s.decs.length) := decide_eq_decide.2 (by omega)
                rw [hrk, hrn, hrt, hdd, Bool.not_true, Bool.false_or] at hF
                refine call_tri [(0, 9)] [] (hR) (by (simp only [go_sem]) <;> simp) (by (simp only [go_sem, entH, entH1, nilArr, obOK]) <;> simp) (by simp [injR, apart, toR]) (by simp [coverR, usH, toR]) (by simp [uniqP, lkR, toR]) (by simp [chk, hG]) ?_
                cases hg : (!decide ((0 : Int) < s.decs.length) && (rest.drop 2).isEmpty) with
                | false =>
                  rw [hg] at hF
                  rw [no (by rw [hF]; rfl)]
                  simp only [go_sem, hG, hOw]
                  (repeat' with_reducible first | refine And.intro ?_ ?_ | intro _ | refine exP ?_ ?_); all_goals try omega
                  exact sub_noLx _ _
                | true =>
                  rw [hg, if_pos rfl] at hF
                  have hbe : ByteArray.empty = ⟨#[]⟩ := rfl
                  have g1 : (s.rules ++ [(⟨wT rest, ⟨#[]⟩, nvS rest 1⟩ : Rl)]).map rlC = s.rules.map rlC ++ [rlC ⟨wT rest, ⟨#[]⟩, nvS rest 1⟩] := by rw [List.map_append]; rfl
                  simp (maxSteps := 2000000) only [go_sem, hG, hOw, hbe]
                  (repeat' with_reducible first | refine And.intro ?_ ?_ | intro _ | refine exP ?_ ?_); all_goals try omega
                  exact ⟨(k + 1, ⟨s.rules ++ [⟨wT rest, ⟨#[]⟩, nvS rest 1⟩], s.decs⟩), ⟨by show k + 1 ≤ _; omega, nx _ hF⟩, by show l.length - (k + 1) < _; omega, ent_of [(2, some 2), (4, some 4), (7, some 7), (60, some 53), (61, some 61)] (by (simp only [g1,hbe,List.length_append,List.length_cons,List.length_nil, go_sem]) <;> simp [g1, hbe, List.length_append, List.length_cons, List.length_nil]) (by (simp only [g1,hbe,List.length_append,List.length_cons,List.length_nil, go_sem, entH, entH1, nilArr, obOK]) <;> simp [g1, hbe, List.length_append, List.length_cons, List.length_nil]) (by simp [injR, apart]) (by simp [coverR, usH]) (by simp [hNm, lkR, names])⟩
              · rename_i hf
                have hR := rright_ok G.lo (rest.drop 2) true
                have hrk : rOk rest = false := by unfold rOk; rw [if_neg ht2]; revert hf; cases okW rest <;> cases okN1 rest 1 <;> simp
                rw [hrk] at hF
                rw [no (by rw [hF]; simp)]
                refine call_tri [(0, 9)] [] (hR) (by (simp only [go_sem]) <;> simp) (by (simp only [go_sem, entH, entH1, nilArr, obOK]) <;> simp) (by simp [injR, apart, toR]) (by simp [coverR, usH, toR]) (by simp [uniqP, lkR, toR]) (by simp [chk, hG]) ?_
                simp only [go_sem, hG, hOw]
                (repeat' with_reducible first | refine And.intro ?_ ?_ | intro _ | refine exP ?_ ?_); all_goals try omega
                exact sub_noLx _ _
          · have hF := stepY_dec (s := s) hp h1
            have hN := rnum_any G.lo rest false hps
            have hfn := formI_name (name := name) rfl
            have hpd : ∀ n, ∀ s ∈ rest.drop n, s.size ≤ 100000 := fun n s hs => hps s (List.mem_of_mem_drop hs)
            have hc0 : decide (name = ⟨#[99, 117, 116]⟩) = false := decide_eq_false h1
            rcases formI_cases name with hk | hk | hk | hk | hk
            · obtain ⟨e1, e2, e3, e4⟩ := hfn.2.2.2.2 hk
              have d0 : decide (name = ⟨#[102, 111, 114, 109]⟩) = false := decide_eq_false e1
              have d1 : decide (name = ⟨#[102, 114, 111, 109]⟩) = false := decide_eq_false e2
              have d2 : decide (name = ⟨#[112, 108, 97, 99, 101]⟩) = false := decide_eq_false e3
              have d3 : decide (name = ⟨#[118, 111, 105, 100]⟩) = false := decide_eq_false e4
              have hR := rright_ok G.lo (rest.drop 1) true
              have hdk : dOk (-1) rest = false := by
                have : dOk (-1) rest = (okN1 rest 0 && false) := rfl
                rw [this, Bool.and_false]
              rw [hk, hdk] at hF
              rw [no (by rw [hF]; simp)]
              simp (maxSteps := 2000000) only [go_sem, hG, hOw, hc0]
              (repeat' with_reducible first | refine And.intro ?_ ?_ | intro _ | refine exP ?_ ?_); all_goals try omega
              refine call_tri [(0, 9)] [] (hN) (by (simp only [go_sem]) <;> simp) (by (simp only [go_sem, entH, entH1, nilArr, obOK]) <;> simp) (by simp [injR, apart, toR]) (by simp [coverR, usH, toR]) (by simp [uniqP, lkR, toR]) (by simp [chk, hG]) ?_
              simp (maxSteps := 2000000) only [go_sem, hG, hOw, d0,d1,d2,d3,hc0]
              (repeat' with_reducible first | refine And.intro ?_ ?_ | intro _ | refine exP ?_ ?_); all_goals try omega
              refine call_tri [(0, 9)] [] (hR) (by (simp only [go_sem]) <;> simp) (by (simp only [go_sem, entH, entH1, nilArr, obOK]) <;> simp) (by simp [injR, apart, toR]) (by simp [coverR, usH, toR]) (by simp [uniqP, lkR, toR]) (by simp [chk, hG]) ?_
              simp only [go_sem, hG, hOw]
              (repeat' with_reducible first | refine And.intro ?_ ?_ | intro _ | refine exP ?_ ?_); all_goals try omega
              exact sub_noLx _ _
            · obtain rfl := hfn.1 hk
              have hWn := rword_any G.lo (rest.drop 1) (false || !okN1 rest 0) (hpd 1)
              have hH := rhead_any G.lo (rest.drop 2) (false || !okN1 rest 0 || !okW (rest.drop 1)) (hpd 2)
              rw [List.drop_drop] at hWn hH
              have hR := rright_ok G.lo (rest.drop 4) (false || !okN1 rest 0 || !okW (rest.drop 1) || !okH (rest.drop 2))
              have d0 : decide (formS = ⟨#[102, 111, 114, 109]⟩) = true := by decide
              have d1 : decide (formS = ⟨#[102, 114, 111, 109]⟩) = false := by decide
              have d2 : decide (formS = ⟨#[112, 108, 97, 99, 101]⟩) = false := by decide
              have d3 : decide (formS = ⟨#[118, 111, 105, 100]⟩) = false := by decide
              have d4 : decide (formS = ⟨#[99, 117, 116]⟩) = false := by decide
              have hff : (!dOk 1 rest) = (false || !okN1 rest 0 || !okW (rest.drop 1) || !okH (rest.drop 2)) := by
                have : dOk 1 rest = (okN1 rest 0 && (okW (rest.drop 1) && okH (rest.drop 2))) := rfl
                rw [this]; cases okN1 rest 0 <;> cases okW (rest.drop 1) <;> cases okH (rest.drop 2) <;> rfl
              have hdt : dT 1 rest = ⟨nvS rest 0, 1, wT (rest.drop 1), 0, 0, 0, wT (rest.drop 2), mkT (rest.drop 2), 0⟩ := rfl
              rw [hk, hff, hdt] at hF
              have hdn : dN 1 = 4 := rfl
              rw [hdn] at hF
              simp (maxSteps := 2000000) only [go_sem, hG, hOw, d0,d1,d2,d3,d4]
              (repeat' with_reducible first | refine And.intro ?_ ?_ | intro _ | refine exP ?_ ?_); all_goals try omega
              refine call_tri [(0, 9)] [] (hN) (by (simp only [go_sem]) <;> simp) (by (simp only [go_sem, entH, entH1, nilArr, obOK]) <;> simp) (by simp [injR, apart, toR]) (by simp [coverR, usH, toR]) (by simp [uniqP, lkR, toR]) (by simp [chk, hG]) ?_
              simp (maxSteps := 2000000) only [go_sem, hG, hOw, d0,d1,d2,d3,d4]
              (repeat' with_reducible first | refine And.intro ?_ ?_ | intro _ | refine exP ?_ ?_); all_goals try omega
              refine call_tri [(0, 9)] [] (hWn) (by (simp only [go_sem]) <;> simp) (by (simp only [go_sem, entH, entH1, nilArr, obOK]) <;> simp) (by simp [injR, apart, toR]) (by simp [coverR, usH, toR]) (by simp [uniqP, lkR, toR]) (by simp [chk, hG]) ?_
              simp only [go_sem, hG, hOw]
              (repeat' with_reducible first | refine And.intro ?_ ?_ | intro _ | refine exP ?_ ?_); all_goals try omega
              refine call_tri [(0, 9)] [] (hH) (by (simp only [go_sem]) <;> simp) (by (simp only [go_sem, entH, entH1, nilArr, obOK]) <;> simp) (by simp [injR, apart, toR]) (by simp [coverR, usH, toR]) (by simp [uniqP, lkR, toR]) (by simp [chk, hG]) ?_
              simp only [go_sem, hG, hOw]
              (repeat' with_reducible first | refine And.intro ?_ ?_ | intro _ | refine exP ?_ ?_); all_goals try omega
              refine call_tri [(0, 9)] [] (hR) (by (simp only [go_sem]) <;> simp) (by (simp only [go_sem, entH, entH1, nilArr, obOK]) <;> simp) (by simp [injR, apart, toR]) (by simp [coverR, usH, toR]) (by simp [uniqP, lkR, toR]) (by simp [chk, hG]) ?_
              cases hg : (!(false || !okN1 rest 0 || !okW (rest.drop 1) || !okH (rest.drop 2)) && (rest.drop 4).isEmpty) with
              | false =>
                rw [hg] at hF
                rw [no (by rw [hF]; rfl)]
                simp (maxSteps := 2000000) only [go_sem, hG, hOw, hg]
                (repeat' with_reducible first | refine And.intro ?_ ?_ | intro _ | refine exP ?_ ?_); all_goals try omega
                exact sub_noLx _ _
              | true =>
                rw [hg, if_pos rfl] at hF
                have hbe : ByteArray.empty = ⟨#[]⟩ := rfl
                have g1 : (s.decs ++ [(⟨nvS rest 0, 1, wT (rest.drop 1), 0, 0, 0, wT (rest.drop 2), mkT (rest.drop 2), 0⟩ : Dc)]).map dcC = s.decs.map dcC ++ [dcC ⟨nvS rest 0, 1, wT (rest.drop 1), 0, 0, 0, wT (rest.drop 2), mkT (rest.drop 2), 0⟩] := by rw [List.map_append]; rfl
                simp (maxSteps := 2000000) only [go_sem, hG, hOw, hg,hbe]
                (repeat' with_reducible first | refine And.intro ?_ ?_ | intro _ | refine exP ?_ ?_); all_goals try omega
                exact ⟨(k + 1, ⟨s.rules, s.decs ++ [⟨nvS rest 0, 1, wT (rest.drop 1), 0, 0, 0, wT (rest.drop 2), mkT (rest.drop 2), 0⟩]⟩), ⟨by show k + 1 ≤ _; omega, nx _ hF⟩, by show l.length - (k + 1) < _; omega, ent_of [(2, some 2), (4, some 4), (7, some 7), (60, some 60), (61, some 100)] (by (simp only [g1,hbe,List.length_append,List.length_cons,List.length_nil, go_sem]) <;> simp [g1, hbe, List.length_append, List.length_cons, List.length_nil]) (by (simp only [g1,hbe,List.length_append,List.length_cons,List.length_nil, go_sem, entH, entH1, nilArr, obOK]) <;> simp [g1, hbe, List.length_append, List.length_cons, List.length_nil]) (by simp [injR, apart]) (by simp [coverR, usH]) (by simp [hNm, lkR, names])⟩
            · obtain rfl := hfn.2.1 hk
              have hP := rplace_tri G.lo (rest.drop 1) (false || !okN1 rest 0) (hpd 1)
              simp only [nvS_drop, Nat.reduceAdd] at hP
              have hWn := rword_any G.lo (rest.drop 4) (false || !okN1 rest 0 || !placeB (rest.drop 1)) (hpd 4)
              have hH := rhead_any G.lo (rest.drop 5) (false || !okN1 rest 0 || !placeB (rest.drop 1) || !okW (rest.drop 4)) (hpd 5)
              rw [List.drop_drop] at hP hWn hH
              have hR := rright_ok G.lo (rest.drop 7) (false || !okN1 rest 0 || !placeB (rest.drop 1) || !okW (rest.drop 4) || !okH (rest.drop 5))
              have d0 : decide (fromS = ⟨#[102, 111, 114, 109]⟩) = false := by decide
              have d1 : decide (fromS = ⟨#[102, 114, 111, 109]⟩) = true := by decide
              have d2 : decide (fromS = ⟨#[112, 108, 97, 99, 101]⟩) = false := by decide
              have d3 : decide (fromS = ⟨#[118, 111, 105, 100]⟩) = false := by decide
              have d4 : decide (fromS = ⟨#[99, 117, 116]⟩) = false := by decide
              have hff : (!dOk 2 rest) = (false || !okN1 rest 0 || !placeB (rest.drop 1) || !okW (rest.drop 4) || !okH (rest.drop 5)) := by
                have : dOk 2 rest = (okN1 rest 0 && (placeB (rest.drop 1) && (okW (rest.drop 4) && okH (rest.drop 5)))) := rfl
                rw [this]; cases okN1 rest 0 <;> cases placeB (rest.drop 1) <;> cases okW (rest.drop 4) <;> cases okH (rest.drop 5) <;> rfl
              have hdt : dT 2 rest = ⟨nvS rest 0, 2, wT (rest.drop 4), nvS rest 1, nvS rest 2, nvS rest 3, wT (rest.drop 5), mkT (rest.drop 5), 0⟩ := rfl
              rw [hk, hff, hdt] at hF
              have hdn : dN 2 = 7 := rfl
              rw [hdn] at hF
              simp (maxSteps := 2000000) only [go_sem, hG, hOw, d0,d1,d2,d3,d4]
              (repeat' with_reducible first | refine And.intro ?_ ?_ | intro _ | refine exP ?_ ?_); all_goals try omega
              refine call_tri [(0, 9)] [] (hN) (by (simp only [go_sem]) <;> simp) (by (simp only [go_sem, entH, entH1, nilArr, obOK]) <;> simp) (by simp [injR, apart, toR]) (by simp [coverR, usH, toR]) (by simp [uniqP, lkR, toR]) (by simp [chk, hG]) ?_
              simp (maxSteps := 2000000) only [go_sem, hG, hOw, d0,d1,d2,d3,d4]
              (repeat' with_reducible first | refine And.intro ?_ ?_ | intro _ | refine exP ?_ ?_); all_goals try omega
              refine call_tri [(0, 9)] [] (hP) (by (simp only [go_sem]) <;> simp) (by (simp only [go_sem, entH, entH1, nilArr, obOK]) <;> simp) (by simp [injR, apart, toR]) (by simp [coverR, usH, toR]) (by simp [uniqP, lkR, toR]) (by simp [chk, hG]) ?_
              simp only [go_sem, hG, hOw]
              (repeat' with_reducible first | refine And.intro ?_ ?_ | intro _ | refine exP ?_ ?_); all_goals try omega
              refine call_tri [(0, 9)] [] (hWn) (by (simp only [go_sem]) <;> simp) (by (simp only [go_sem, entH, entH1, nilArr, obOK]) <;> simp) (by simp [injR, apart, toR]) (by simp [coverR, usH, toR]) (by simp [uniqP, lkR, toR]) (by simp [chk, hG]) ?_
              simp only [go_sem, hG, hOw]
              (repeat' with_reducible first | refine And.intro ?_ ?_ | intro _ | refine exP ?_ ?_); all_goals try omega
              refine call_tri [(0, 9)] [] (hH) (by (simp only [go_sem]) <;> simp) (by (simp only [go_sem, entH, entH1, nilArr, obOK]) <;> simp) (by simp [injR, apart, toR]) (by simp [coverR, usH, toR]) (by simp [uniqP, lkR, toR]) (by simp [chk, hG]) ?_
              simp only [go_sem, hG, hOw]
              (repeat' with_reducible first | refine And.intro ?_ ?_ | intro _ | refine exP ?_ ?_); all_goals try omega
              refine call_tri [(0, 9)] [] (hR) (by (simp only [go_sem]) <;> simp) (by (simp only [go_sem, entH, entH1, nilArr, obOK]) <;> simp) (by simp [injR, apart, toR]) (by simp [coverR, usH, toR]) (by simp [uniqP, lkR, toR]) (by simp [chk, hG]) ?_
              cases hg : (!(false || !okN1 rest 0 || !placeB (rest.drop 1) || !okW (rest.drop 4) || !okH (rest.drop 5)) && (rest.drop 7).isEmpty) with
              | false =>
                rw [hg] at hF
                rw [no (by rw [hF]; rfl)]
                simp (maxSteps := 2000000) only [go_sem, hG, hOw, hg]
                (repeat' with_reducible first | refine And.intro ?_ ?_ | intro _ | refine exP ?_ ?_); all_goals try omega
                exact sub_noLx _ _
              | true =>
                rw [hg, if_pos rfl] at hF
                have hbe : ByteArray.empty = ⟨#[]⟩ := rfl
                have g1 : (s.decs ++ [(⟨nvS rest 0, 2, wT (rest.drop 4), nvS rest 1, nvS rest 2, nvS rest 3, wT (rest.drop 5), mkT (rest.drop 5), 0⟩ : Dc)]).map dcC = s.decs.map dcC ++ [dcC ⟨nvS rest 0, 2, wT (rest.drop 4), nvS rest 1, nvS rest 2, nvS rest 3, wT (rest.drop 5), mkT (rest.drop 5), 0⟩] := by rw [List.map_append]; rfl
                simp (maxSteps := 2000000) only [go_sem, hG, hOw, hg,hbe]
                (repeat' with_reducible first | refine And.intro ?_ ?_ | intro _ | refine exP ?_ ?_); all_goals try omega
                exact ⟨(k + 1, ⟨s.rules, s.decs ++ [⟨nvS rest 0, 2, wT (rest.drop 4), nvS rest 1, nvS rest 2, nvS rest 3, wT (rest.drop 5), mkT (rest.drop 5), 0⟩]⟩), ⟨by show k + 1 ≤ _; omega, nx _ hF⟩, by show l.length - (k + 1) < _; omega, ent_of [(2, some 2), (4, some 4), (7, some 7), (60, some 60), (61, some 100)] (by (simp only [g1,hbe,List.length_append,List.length_cons,List.length_nil, go_sem]) <;> simp [g1, hbe, List.length_append, List.length_cons, List.length_nil]) (by (simp only [g1,hbe,List.length_append,List.length_cons,List.length_nil, go_sem, entH, entH1, nilArr, obOK]) <;> simp [g1, hbe, List.length_append, List.length_cons, List.length_nil]) (by simp [injR, apart]) (by simp [coverR, usH]) (by simp [hNm, lkR, names])⟩
            · obtain rfl := hfn.2.2.1 hk
              have hP := rplace_tri G.lo (rest.drop 1) (false || !okN1 rest 0) (hpd 1)
              simp only [nvS_drop, Nat.reduceAdd] at hP
              have hH := rhead_any G.lo (rest.drop 4) (false || !okN1 rest 0 || !placeB (rest.drop 1)) (hpd 4)
              rw [List.drop_drop] at hP hH
              have hR := rright_ok G.lo (rest.drop 6) (false || !okN1 rest 0 || !placeB (rest.drop 1) || !okH (rest.drop 4))
              have d0 : decide (plcS = ⟨#[102, 111, 114, 109]⟩) = false := by decide
              have d1 : decide (plcS = ⟨#[102, 114, 111, 109]⟩) = false := by decide
              have d2 : decide (plcS = ⟨#[112, 108, 97, 99, 101]⟩) = true := by decide
              have d3 : decide (plcS = ⟨#[118, 111, 105, 100]⟩) = false := by decide
              have d4 : decide (plcS = ⟨#[99, 117, 116]⟩) = false := by decide
              have hff : (!dOk 3 rest) = (false || !okN1 rest 0 || !placeB (rest.drop 1) || !okH (rest.drop 4)) := by
                have : dOk 3 rest = (okN1 rest 0 && (placeB (rest.drop 1) && okH (rest.drop 4))) := rfl
                rw [this]; cases okN1 rest 0 <;> cases placeB (rest.drop 1) <;> cases okH (rest.drop 4) <;> rfl
              have hdt : dT 3 rest = ⟨nvS rest 0, 3, ⟨#[]⟩, nvS rest 1, nvS rest 2, nvS rest 3, wT (rest.drop 4), mkT (rest.drop 4), 0⟩ := rfl
              rw [hk, hff, hdt] at hF
              have hdn : dN 3 = 6 := rfl
              rw [hdn] at hF
              simp (maxSteps := 2000000) only [go_sem, hG, hOw, d0,d1,d2,d3,d4]
              (repeat' with_reducible first | refine And.intro ?_ ?_ | intro _ | refine exP ?_ ?_); all_goals try omega
              refine call_tri [(0, 9)] [] (hN) (by (simp only [go_sem]) <;> simp) (by (simp only [go_sem, entH, entH1, nilArr, obOK]) <;> simp) (by simp [injR, apart, toR]) (by simp [coverR, usH, toR]) (by simp [uniqP, lkR, toR]) (by simp [chk, hG]) ?_
              simp (maxSteps := 2000000) only [go_sem, hG, hOw, d0,d1,d2,d3,d4]
              (repeat' with_reducible first | refine And.intro ?_ ?_ | intro _ | refine exP ?_ ?_); all_goals try omega
              refine call_tri [(0, 9)] [] (hP) (by (simp only [go_sem]) <;> simp) (by (simp only [go_sem, entH, entH1, nilArr, obOK]) <;> simp) (by simp [injR, apart, toR]) (by simp [coverR, usH, toR]) (by simp [uniqP, lkR, toR]) (by simp [chk, hG]) ?_
              simp only [go_sem, hG, hOw]
              (repeat' with_reducible first | refine And.intro ?_ ?_ | intro _ | refine exP ?_ ?_); all_goals try omega
              refine call_tri [(0, 9)] [] (hH) (by (simp only [go_sem]) <;> simp) (by (simp only [go_sem, entH, entH1, nilArr, obOK]) <;> simp) (by simp [injR, apart, toR]) (by simp [coverR, usH, toR]) (by simp [uniqP, lkR, toR]) (by simp [chk, hG]) ?_
              simp only [go_sem, hG, hOw]
              (repeat' with_reducible first | refine And.intro ?_ ?_ | intro _ | refine exP ?_ ?_); all_goals try omega
              refine call_tri [(0, 9)] [] (hR) (by (simp only [go_sem]) <;> simp) (by (simp only [go_sem, entH, entH1, nilArr, obOK]) <;> simp) (by simp [injR, apart, toR]) (by simp [coverR, usH, toR]) (by simp [uniqP, lkR, toR]) (by simp [chk, hG]) ?_
              cases hg : (!(false || !okN1 rest 0 || !placeB (rest.drop 1) || !okH (rest.drop 4)) && (rest.drop 6).isEmpty) with
              | false =>
                rw [hg] at hF
                rw [no (by rw [hF]; rfl)]
                simp (maxSteps := 2000000) only [go_sem, hG, hOw, hg]
                (repeat' with_reducible first | refine And.intro ?_ ?_ | intro _ | refine exP ?_ ?_); all_goals try omega
                exact sub_noLx _ _
              | true =>
                rw [hg, if_pos rfl] at hF
                have hbe : ByteArray.empty = ⟨#[]⟩ := rfl
                have g1 : (s.decs ++ [(⟨nvS rest 0, 3, ⟨#[]⟩, nvS rest 1, nvS rest 2, nvS rest 3, wT (rest.drop 4), mkT (rest.drop 4), 0⟩ : Dc)]).map dcC = s.decs.map dcC ++ [dcC ⟨nvS rest 0, 3, ⟨#[]⟩, nvS rest 1, nvS rest 2, nvS rest 3, wT (rest.drop 4), mkT (rest.drop 4), 0⟩] := by rw [List.map_append]; rfl
                simp (maxSteps := 2000000) only [go_sem, hG, hOw, hg,hbe]
                (repeat' with_reducible first | refine And.intro ?_ ?_ | intro _ | refine exP ?_ ?_); all_goals try omega
                exact ⟨(k + 1, ⟨s.rules, s.decs ++ [⟨nvS rest 0, 3, ⟨#[]⟩, nvS rest 1, nvS rest 2, nvS rest 3, wT (rest.drop 4), mkT (rest.drop 4), 0⟩]⟩), ⟨by show k + 1 ≤ _; omega, nx _ hF⟩, by show l.length - (k + 1) < _; omega, ent_of [(2, some 2), (4, some 4), (7, some 7), (60, some 60), (61, some 100)] (by (simp only [g1,hbe,List.length_append,List.length_cons,List.length_nil, go_sem]) <;> simp [g1, hbe, List.length_append, List.length_cons, List.length_nil]) (by (simp only [g1,hbe,List.length_append,List.length_cons,List.length_nil, go_sem, entH, entH1, nilArr, obOK]) <;> simp [g1, hbe, List.length_append, List.length_cons, List.length_nil]) (by simp [injR, apart]) (by simp [coverR, usH]) (by simp [hNm, lkR, names])⟩
            · obtain rfl := hfn.2.2.2.1 hk
              have hM := rnum_any G.lo (rest.drop 1) (false || !okN1 rest 0) (hpd 1)
              rw [nvS_drop, okN1_drop, List.drop_drop] at hM
              have hR := rright_ok G.lo (rest.drop 2) (false || !okN1 rest 0 || !okN1 rest 1)
              have d0 : decide (voidS = ⟨#[102, 111, 114, 109]⟩) = false := by decide
              have d1 : decide (voidS = ⟨#[102, 114, 111, 109]⟩) = false := by decide
              have d2 : decide (voidS = ⟨#[112, 108, 97, 99, 101]⟩) = false := by decide
              have d3 : decide (voidS = ⟨#[118, 111, 105, 100]⟩) = true := by decide
              have d4 : decide (voidS = ⟨#[99, 117, 116]⟩) = false := by decide
              have hff : (!dOk 4 rest) = (false || !okN1 rest 0 || !okN1 rest 1) := by
                have : dOk 4 rest = (okN1 rest 0 && okN1 rest 1) := rfl
                rw [this]; cases okN1 rest 0 <;> cases okN1 rest 1 <;> rfl
              have hdt : dT 4 rest = ⟨nvS rest 0, 4, ⟨#[]⟩, 0, 0, 0, ⟨#[]⟩, 0, nvS rest 1⟩ := rfl
              rw [hk, hff, hdt] at hF
              have hdn : dN 4 = 2 := rfl
              rw [hdn] at hF
              simp (maxSteps := 2000000) only [go_sem, hG, hOw, d0,d1,d2,d3,d4]
              (repeat' with_reducible first | refine And.intro ?_ ?_ | intro _ | refine exP ?_ ?_); all_goals try omega
              refine call_tri [(0, 9)] [] (hN) (by (simp only [go_sem]) <;> simp) (by (simp only [go_sem, entH, entH1, nilArr, obOK]) <;> simp) (by simp [injR, apart, toR]) (by simp [coverR, usH, toR]) (by simp [uniqP, lkR, toR]) (by simp [chk, hG]) ?_
              simp (maxSteps := 2000000) only [go_sem, hG, hOw, d0,d1,d2,d3,d4]
              (repeat' with_reducible first | refine And.intro ?_ ?_ | intro _ | refine exP ?_ ?_); all_goals try omega
              refine call_tri [(0, 9)] [] (hM) (by (simp only [go_sem]) <;> simp) (by (simp only [go_sem, entH, entH1, nilArr, obOK]) <;> simp) (by simp [injR, apart, toR]) (by simp [coverR, usH, toR]) (by simp [uniqP, lkR, toR]) (by simp [chk, hG]) ?_
              simp only [go_sem, hG, hOw]
              (repeat' with_reducible first | refine And.intro ?_ ?_ | intro _ | refine exP ?_ ?_); all_goals try omega
              refine call_tri [(0, 9)] [] (hR) (by (simp only [go_sem]) <;> simp) (by (simp only [go_sem, entH, entH1, nilArr, obOK]) <;> simp) (by simp [injR, apart, toR]) (by simp [coverR, usH, toR]) (by simp [uniqP, lkR, toR]) (by simp [chk, hG]) ?_
              cases hg : (!(false || !okN1 rest 0 || !okN1 rest 1) && (rest.drop 2).isEmpty) with
              | false =>
                rw [hg] at hF
                rw [no (by rw [hF]; rfl)]
                simp (maxSteps := 2000000) only [go_sem, hG, hOw, hg]
                (repeat' with_reducible first | refine And.intro ?_ ?_ | intro _ | refine exP ?_ ?_); all_goals try omega
                exact sub_noLx _ _
              | true =>
                rw [hg, if_pos rfl] at hF
                have hbe : ByteArray.empty = ⟨#[]⟩ := rfl
                have g1 : (s.decs ++ [(⟨nvS rest 0, 4, ⟨#[]⟩, 0, 0, 0, ⟨#[]⟩, 0, nvS rest 1⟩ : Dc)]).map dcC = s.decs.map dcC ++ [dcC ⟨nvS rest 0, 4, ⟨#[]⟩, 0, 0, 0, ⟨#[]⟩, 0, nvS rest 1⟩] := by rw [List.map_append]; rfl
                simp (maxSteps := 2000000) only [go_sem, hG, hOw, hg,hbe]
                (repeat' with_reducible first | refine And.intro ?_ ?_ | intro _ | refine exP ?_ ?_); all_goals try omega
                exact ⟨(k + 1, ⟨s.rules, s.decs ++ [⟨nvS rest 0, 4, ⟨#[]⟩, 0, 0, 0, ⟨#[]⟩, 0, nvS rest 1⟩]⟩), ⟨by show k + 1 ≤ _; omega, nx _ hF⟩, by show l.length - (k + 1) < _; omega, ent_of [(2, some 2), (4, some 4), (7, some 7), (60, some 60), (61, some 100)] (by (simp only [g1,hbe,List.length_append,List.length_cons,List.length_nil, go_sem]) <;> simp [g1, hbe, List.length_append, List.length_cons, List.length_nil]) (by (simp only [g1,hbe,List.length_append,List.length_cons,List.length_nil, go_sem, entH, entH1, nilArr, obOK]) <;> simp [g1, hbe, List.length_append, List.length_cons, List.length_nil]) (by simp [injR, apart]) (by simp [coverR, usH]) (by simp [hNm, lkR, names])⟩
        · have hlt : ¬ (k : Int) < l.length := by omega
          have hke : k = l.length := by omega
          subst hke
          rw [List.take_length] at hrd
          refine vc_sound _ _ _ ?_
          simp (maxSteps := 2000000) only [go_sem, hG, hOw, hlt]
          try (repeat' with_reducible first | refine And.intro ?_ ?_ | intro _ | refine exP ?_ ?_); all_goals try omega
          exact ⟨s, hrd, entA [(2, some 2), (4, some 4), (7, some 7), (60, some 60), (61, some 61)]⟩
      · rintro s hs
        obtain ⟨hb1, hb2, hb3, hb4⟩ := readX_ok (l := l) (k := l.length) (Nat.le_refl _) (by rw [List.take_length]; exact hs)
        have hC := RLexCheck_ok t hok s ⟨hb3, hb4, by omega, by omega⟩
        have e : toLexP t l = if lexEr t s = 0 then (s, 0) else (X0, lexEr t s) := by unfold toLexP; simp only [ht, h, hs, if_true]
        have hT : List.take s.rules.length (s.rules.map rlC) = s.rules.map rlC := List.take_of_length_le (by simp)
        have hT2 : List.take s.decs.length (s.decs.map dcC) = s.decs.map dcC := List.take_of_length_le (by simp)
        rw [e]
        by_cases he : lexEr t s = 0
        · rw [he] at hC
          rw [if_pos he]
          simp (maxSteps := 2000000) only [go_sem, hG, hOw, hT,hT2]
          refine call_frz (fun i => [60, 61].contains i) ?_
          simp (maxSteps := 2000000) only [go_sem, hG, hOw, hT,hT2]
          refine call_pure hC (by first | exact Subs.refl _ | (repeat' (first | exact Subs.nil | exact Sub.refl _ | exact Sub.lo (Nat.zero_le _) | refine Subs.cons ?_ ?_ | refine Subs.agg ?_ | refine Subs.fp ?_ | refine Subs.tup ?_ | refine Sub.map (Nat.zero_le _) (fun _ => ?_)))) (by first | rfl | simp [allP, all0, pureV, pure0, *]) (by simp [chk, hG]) ?_
          simp (maxSteps := 2000000) only [go_sem, hG, hOw, hT,hT2]
          try (repeat' with_reducible first | refine And.intro ?_ ?_ | intro _ | refine exP ?_ ?_); all_goals try omega
        · rw [if_neg he]
          simp (maxSteps := 2000000) only [go_sem, hG, hOw, hT,hT2]
          refine call_frz (fun i => [60, 61].contains i) ?_
          simp (maxSteps := 2000000) only [go_sem, hG, hOw, hT,hT2]
          refine call_pure hC (by first | exact Subs.refl _ | (repeat' (first | exact Subs.nil | exact Sub.refl _ | exact Sub.lo (Nat.zero_le _) | refine Subs.cons ?_ ?_ | refine Subs.agg ?_ | refine Subs.fp ?_ | refine Subs.tup ?_ | refine Sub.map (Nat.zero_le _) (fun _ => ?_)))) (by first | rfl | simp [allP, all0, pureV, pure0, *]) (by simp [chk, hG]) ?_
          simp (maxSteps := 2000000) only [go_sem, hG, hOw, hT,hT2,he]
          try (repeat' with_reducible first | refine And.intro ?_ ?_ | intro _ | refine exP ?_ ?_); all_goals try omega
          exact sub_noLx _ _
end Go.Proofs.YtppcbmpiphhphaaGreatDoor
