import Derived.Test.YtphadkcpgnkpfaaGreatDoorQT40
import Derived.Test.YtphadkcpgnkpfaaGreatDoorQT45
import Derived.Test.YtphadkcpgnkpfaaGreatDoorQT47
namespace Go.Proofs.YtphadkcpgnkpfaaGreatDoor
open Go Pm
set_option linter.unusedSimpArgs false
set_option linter.unusedVariables false
set_option maxHeartbeats 4000000
set_option maxRecDepth 100000
theorem nvS_drop (l : List ByteArray) (i j : Nat) : nvS (l.drop i) j = nvS l (i + j) := by
  unfold nvS
  rw [List.getD_eq_getElem?_getD, List.getD_eq_getElem?_getD, List.getElem?_drop]
theorem okN1_drop (l : List ByteArray) (i j : Nat) : okN1 (l.drop i) j = okN1 l (i + j) := by
  unfold okN1
  rw [List.getD_eq_getElem?_getD, List.getD_eq_getElem?_getD, List.getElem?_drop]
  congr 1
  rw [List.length_drop]
  exact decide_eq_decide.2 (by omega)
theorem rnum_any (lo : Nat) (l : List ByteArray) (b : Bool) (hl : ∀ s ∈ l, s.size ≤ 100000) : Tri Tryz.prog 37 [.ptr 0 0] [(0, .box [strs lo l, bl b])] (fun _ => .ret (i64 (nvS l 0)) [(0, .box [strs lo (l.drop 1), bl (b || !okN1 l 0)])]) := by
  cases l with
  | nil =>
    have e1 : nvS [] 0 = 0 := by decide
    have e2 : (b || !okN1 [] 0) = true := by simp [okN1]
    rw [e1, e2]
    exact rnum_end lo b
  | cons s r =>
    have e1 : nvS (s :: r) 0 = (valueS s).getD 0 := rfl
    have e2 : okN1 (s :: r) 0 = (valueS s).isSome := by simp [okN1]
    rw [e1, e2]
    exact rnum_yes lo s r b (hl s (by simp))
theorem rplace_tri (lo : Nat) (l : List ByteArray) (b : Bool) (hl : ∀ s ∈ l, s.size ≤ 100000) : Tri Tryz.prog 49 [.ptr 0 0] [(0, .box [strs lo l, bl b])] (fun _ => .ret (.agg [i64 (nvS l 0), i64 (nvS l 1), i64 (nvS l 2)]) [(0, .box [strs lo (l.drop 3), bl (b || !placeB l)])]) := by
  have h1 := rnum_any lo l b hl
  have h2 := rnum_any lo (l.drop 1) (b || !okN1 l 0) (fun s hs => hl s (List.mem_of_mem_drop hs))
  have h3 := rnum_any lo (l.drop 2) ((b || !okN1 l 0) || !okN1 l 1) (fun s hs => hl s (List.mem_of_mem_drop hs))
  simp only [nvS_drop, okN1_drop, List.drop_drop, Nat.reduceAdd] at h2 h3
  have hb : (((b || !okN1 l 0) || !okN1 l 1) || !okN1 l 2) = (b || !placeB l) := by
    unfold placeB
    cases b <;> cases okN1 l 0 <;> cases okN1 l 1 <;> cases okN1 l 2 <;> rfl
  rw [hb] at h3
  refine tri_intro (fun _ => false) Tryz.func49 Tryz.ntmps49 rfl (by kernel_rfl) (by simp) rfl (by decide) fun G hG hOw hNm => ?_; simp only [go_sem, hG, hOw]
  (repeat' with_reducible first | refine And.intro ?_ ?_ | intro _ | refine exP ?_ ?_); all_goals try omega
  refine call_tri [(0, 0)] [] (h1) (by (simp only [go_sem]) <;> simp) (by (simp only [go_sem, entH, entH1, nilArr, obOK]) <;> simp) (by simp [injR, apart, toR]) (by simp [coverR, usH, toR]) (by simp [uniqP, lkR, toR]) (by simp [chk, hG]) ?_
  simp only [go_sem, hG, hOw]
  (repeat' with_reducible first | refine And.intro ?_ ?_ | intro _ | refine exP ?_ ?_); all_goals try omega
  refine call_tri [(0, 0)] [] (h2) (by (simp only [go_sem]) <;> simp) (by (simp only [go_sem, entH, entH1, nilArr, obOK]) <;> simp) (by simp [injR, apart, toR]) (by simp [coverR, usH, toR]) (by simp [uniqP, lkR, toR]) (by simp [chk, hG]) ?_
  simp only [go_sem, hG, hOw]
  (repeat' with_reducible first | refine And.intro ?_ ?_ | intro _ | refine exP ?_ ?_); all_goals try omega
  refine call_tri [(0, 0)] [] (h3) (by (simp only [go_sem]) <;> simp) (by (simp only [go_sem, entH, entH1, nilArr, obOK]) <;> simp) (by simp [injR, apart, toR]) (by simp [coverR, usH, toR]) (by simp [uniqP, lkR, toR]) (by simp [chk, hG]) ?_
  simp only [go_sem, hG, hOw]
  (repeat' with_reducible first | refine And.intro ?_ ?_ | intro _ | refine exP ?_ ?_); all_goals try omega
  exact ⟨[(0, some 0)], by (simp only [EndT, go_sem, entH, entH1, nilArr, obOK, apart, injR, coverR]) <;> simp⟩
open Go Pm
set_option maxHeartbeats 4000000
theorem stepG_first {x name : ByteArray} {rest : List ByteArray} (hp : partsS x = name :: rest) : stepG none x = if (!(!okN1 rest 0 || !decide (name = copyS)) && (rest.drop 1).isEmpty) = true then some ⟨nvS rest 0, []⟩ else none := by
  unfold stepG
  rw [hp]
  simp only [stepC]
  by_cases hn : name = copyS
  · rw [if_pos hn]
    cases rest with
    | nil => simp [okN1]
    | cons s r =>
      have e1 : nvS (s :: r) 0 = (valueS s).getD 0 := rfl
      have e2 : okN1 (s :: r) 0 = (valueS s).isSome := by simp [okN1]
      rw [e1, e2]
      cases hv : valueS s with
      | none => simp [hv]
      | some v =>
        cases r with
        | nil => simp [hn, hv]
        | cons a b => simp [hv]
  · rw [if_neg hn]; simp [hn]
theorem stepG_omit {x name : ByteArray} {rest : List ByteArray} (c : Cp) (hp : partsS x = name :: rest) (hk : kdN name = 1) : stepG (some c) x = if (!(!placeB rest) && (rest.drop 3).isEmpty) = true then some ⟨c.id, c.rds ++ [⟨nvS rest 0, nvS rest 1, nvS rest 2, 1, ⟨#[]⟩⟩]⟩ else none := by
  have hn : ¬ name = copyS := by rintro rfl; revert hk; decide
  unfold stepG
  rw [hp]
  simp only [stepC]
  rw [if_neg hn, hk]
  cases placeB rest with
  | false => simp
  | true =>
    cases rest.drop 3 with
    | nil => simp
    | cons a b => simp
theorem stepG_word {x name : ByteArray} {rest : List ByteArray} (c : Cp) (hp : partsS x = name :: rest) (hk : ¬ kdN name = 1) (hk0 : ¬ kdN name = 0) : stepG (some c) x = match rest.drop 3 with
    | w :: r => if (!(!placeB rest || !wordB w) && r.isEmpty) = true then some ⟨c.id, c.rds ++ [⟨nvS rest 0, nvS rest 1, nvS rest 2, UInt8.ofNat (kdN name), w⟩]⟩ else none
    | [] => none := by
  have hn : ¬ name = copyS := by rintro rfl; exact hk0 (by decide)
  unfold stepG
  rw [hp]
  simp only [stepC]
  rw [if_neg hn, if_neg hk0, if_neg hk]
  cases placeB rest with
  | false => cases rest.drop 3 <;> simp
  | true =>
    cases rest.drop 3 with
    | nil => simp
    | cons a b =>
      cases hw : wordB a with
      | false => simp [hw]
      | true => cases b <;> simp [hw]
theorem stepG_none {x name : ByteArray} {rest : List ByteArray} (c : Cp) (hp : partsS x = name :: rest) (hk : kdN name = 0) : stepG (some c) x = none := by
  unfold stepG
  rw [hp]
  simp only [stepC, hk]
  split <;> simp_all
open Go Pm
set_option maxHeartbeats 4000000
set_option maxRecDepth 100000
def kdJ (s : ByteArray) (j : Nat) : Nat := if kdN s < j then kdN s else 0
theorem kdJ_1 (s : ByteArray) : kdJ s 1 = 0 := by
  unfold kdJ
  split <;> omega
theorem kdJ_4 (s : ByteArray) : kdJ s 4 = kdN s := by
  unfold kdJ
  rw [if_pos]
  unfold kdN
  split
  · decide
  · split
    · decide
    · split <;> decide
theorem kdJ_hit (s : ByteArray) (j : Nat) (h : kdN s = j) (hj : 0 < j) : kdJ s (j + 1) = j := by unfold kdJ; rw [if_pos (by omega), h]
theorem kdJ_miss (s : ByteArray) (j : Nat) (h : ¬ kdN s = j) : kdJ s (j + 1) = kdJ s j := by
  unfold kdJ
  by_cases h1 : kdN s < j
  · rw [if_pos h1, if_pos (by omega)]
  · rw [if_neg h1, if_neg (by omega)]
theorem Rkind (t : List Ch) (l : List ByteArray) (name : ByteArray) (k lo n : Nat) (d : Int) (rest : List ByteArray) (X : List (List V)) {G : Gh} {Q : Exit → St → Prop} (hG : G.n = 96) (hOw : G.ow = fun _ => false) (hNm : G.nm = []) :
    SemC Tryz.prog G (bkOf 2 Tryz.f18.body) (St.of [(1, strs 0 l), (2, .ptr 2 0), (4, .ptr 4 0), (7, .ptr 7 0), (8, i64 k), (9, .ptr 9 0), (10, str name), (11, .ptr 11 0), (12, i64 1)] [(2, .box [chs 0 t]), (4, .box [i64 0, .v (.slice none 0 0)]), (7, .box [i64 d, .own 100 0 n 5]), (9, .box [strs lo rest, bl false]), (100, .arr 59 5 X), (11, .box [i64 0, i64 0, i64 0, .v (.int .u8 0), str ⟨#[]⟩])])
      (cutQ G 2 (fun _ : Unit => St.of [(1, strs 0 l), (2, .ptr 2 0), (4, .ptr 4 0), (7, .ptr 7 0), (8, i64 k), (9, .ptr 9 0), (10, str name), (11, .ptr 11 0)] [(2, .box [chs 0 t]), (4, .box [i64 0, .v (.slice none 0 0)]), (7, .box [i64 d, .own 100 0 n 5]), (9, .box [strs lo rest, bl false]), (100, .arr 59 5 X), (11, .box [i64 0, i64 0, i64 0, .v (.int .u8 (kdN name)), str ⟨#[]⟩])]) (fun _ => True) Q) := by
  unfold Tryz.f18
  simp only [rgOf, bkOf, rgO, bkO, orElse, Option.bind_some, Option.getD_some, reduceIte, Nat.reduceEqDiff, reduceCtorEq]
  have i1 : Int.toNat 1 = 1 := rfl
  have i2 : Int.toNat 2 = 2 := rfl
  have i3 : Int.toNat 3 = 3 := rfl
  have c1 : ((1 : Nat) : Int) = 1 := rfl
  have c2 : ((2 : Nat) : Int) = 2 := rfl
  have c3 : ((3 : Nat) : Int) = 3 := rfl
  have c4 : ((4 : Nat) : Int) = 4 := rfl
  have e1 : ((kdJ name 1 : Nat) : Int) = 0 := by rw [kdJ_1]; rfl
  refine semC_loop (fun j : Nat => St.of [(1, strs 0 l), (2, .ptr 2 0), (4, .ptr 4 0), (7, .ptr 7 0), (8, i64 k), (9, .ptr 9 0), (10, str name), (11, .ptr 11 0), (12, i64 j)] [(2, .box [chs 0 t]), (4, .box [i64 0, .v (.slice none 0 0)]), (7, .box [i64 d, .own 100 0 n 5]), (9, .box [strs lo rest, bl false]), (100, .arr 59 5 X), (11, .box [i64 0, i64 0, i64 0, .v (.int .u8 (kdJ name j)), str ⟨#[]⟩])]) (fun j => 1 ≤ j ∧ j ≤ 4) (fun j => 4 - j) 1 ⟨by omega, by omega⟩ (ent_of [(2, some 2), (4, some 4), (7, some 7), (9, some 9), (100, some 100), (11, some 11)] (by (simp only [e1,c1, go_sem]) <;> simp [e1, c1]) (by (simp only [e1,c1, go_sem, entH, entH1, nilArr, obOK]) <;> simp [e1, c1]) (by simp [injR, apart]) (by simp [coverR, usH]) (by simp [hNm, lkR, names])) ?_
  rintro j ⟨h1, h4⟩
  have k1 : name = omitS ↔ kdN name = 1 := by
    rcases kd_cases name with ⟨h, rfl⟩ | ⟨h, rfl⟩ | ⟨h, rfl⟩ | h
    · exact ⟨fun _ => h, fun _ => rfl⟩
    · exact ⟨fun e => by revert e; decide, fun e => by rw [h] at e; cases e⟩
    · exact ⟨fun e => by revert e; decide, fun e => by rw [h] at e; cases e⟩
    · exact ⟨fun e => by subst e; revert h; decide, fun e => by rw [h] at e; cases e⟩
  have k2 : name = putS ↔ kdN name = 2 := by
    rcases kd_cases name with ⟨h, rfl⟩ | ⟨h, rfl⟩ | ⟨h, rfl⟩ | h
    · exact ⟨fun e => by revert e; decide, fun e => by rw [h] at e; cases e⟩
    · exact ⟨fun _ => h, fun _ => rfl⟩
    · exact ⟨fun e => by revert e; decide, fun e => by rw [h] at e; cases e⟩
    · exact ⟨fun e => by subst e; revert h; decide, fun e => by rw [h] at e; cases e⟩
  have k3 : name = otherS ↔ kdN name = 3 := by
    rcases kd_cases name with ⟨h, rfl⟩ | ⟨h, rfl⟩ | ⟨h, rfl⟩ | h
    · exact ⟨fun e => by revert e; decide, fun e => by rw [h] at e; cases e⟩
    · exact ⟨fun e => by revert e; decide, fun e => by rw [h] at e; cases e⟩
    · exact ⟨fun _ => h, fun _ => rfl⟩
    · exact ⟨fun e => by subst e; revert h; decide, fun e => by rw [h] at e; cases e⟩
  have hj : j = 1 ∨ j = 2 ∨ j = 3 ∨ j = 4 := by omega
  rcases hj with rfl | rfl | rfl | rfl
  · by_cases hn : name = omitS
    · have hd : decide ((⟨#[111, 109, 105, 116]⟩ : ByteArray) = name) = true := decide_eq_true hn.symm
      have hq : ((kdJ name 2 : Nat) : Int) = 1 := by rw [kdJ_hit name 1 (k1.1 hn) (by decide)]; rfl
      have hwr : IntKind.u8.wrap 1 = 1 := by decide
      refine vc_sound _ _ _ ?_; simp (maxSteps := 2000000) only [go_sem, hG, hOw, hd, c1, i1, List.getElem_cons_succ, List.getElem_cons_zero, List.drop_succ_cons, List.drop_zero, Nat.reduceMul]
      (repeat' with_reducible first | refine And.intro ?_ ?_ | intro _ | refine exP ?_ ?_); all_goals try omega
      exact ⟨2, ⟨by omega, by omega⟩, by omega, ent_of [(2, some 2), (4, some 4), (7, some 7), (9, some 9), (100, some 100), (11, some 11)] (by (simp only [hq,hwr,c2,Nat.reduceAdd,Int.reduceAdd, go_sem]) <;> simp [hq, hwr, c2, Nat.reduceAdd, Int.reduceAdd]) (by (simp only [hq,hwr,c2,Nat.reduceAdd,Int.reduceAdd, go_sem, entH, entH1, nilArr, obOK]) <;> simp [hq, hwr, c2, Nat.reduceAdd, Int.reduceAdd]) (by simp [injR, apart]) (by simp [coverR, usH]) (by simp [hNm, lkR, names])⟩
    · have hd : decide ((⟨#[111, 109, 105, 116]⟩ : ByteArray) = name) = false := decide_eq_false fun e => hn e.symm
      have hq : kdJ name 2 = kdJ name 1 := kdJ_miss name 1 fun e => hn (k1.2 e)
      refine vc_sound _ _ _ ?_; simp (maxSteps := 2000000) only [go_sem, hG, hOw, hd, c1, i1, List.getElem_cons_succ, List.getElem_cons_zero, List.drop_succ_cons, List.drop_zero, Nat.reduceMul]
      (repeat' with_reducible first | refine And.intro ?_ ?_ | intro _ | refine exP ?_ ?_); all_goals try omega
      exact ⟨2, ⟨by omega, by omega⟩, by omega, ent_of [(2, some 2), (4, some 4), (7, some 7), (9, some 9), (100, some 100), (11, some 11)] (by (simp only [hq,c2,Nat.reduceAdd,Int.reduceAdd, go_sem]) <;> simp [hq, c2, Nat.reduceAdd, Int.reduceAdd]) (by (simp only [hq,c2,Nat.reduceAdd,Int.reduceAdd, go_sem, entH, entH1, nilArr, obOK]) <;> simp [hq, c2, Nat.reduceAdd, Int.reduceAdd]) (by simp [injR, apart]) (by simp [coverR, usH]) (by simp [hNm, lkR, names])⟩
  · by_cases hn : name = putS
    · have hd : decide ((⟨#[112, 117, 116]⟩ : ByteArray) = name) = true := decide_eq_true hn.symm
      have hq : ((kdJ name 3 : Nat) : Int) = 2 := by rw [kdJ_hit name 2 (k2.1 hn) (by decide)]; rfl
      have hwr : IntKind.u8.wrap 2 = 2 := by decide
      refine vc_sound _ _ _ ?_; simp (maxSteps := 2000000) only [go_sem, hG, hOw, hd, c2, i2, List.getElem_cons_succ, List.getElem_cons_zero, List.drop_succ_cons, List.drop_zero, Nat.reduceMul]
      (repeat' with_reducible first | refine And.intro ?_ ?_ | intro _ | refine exP ?_ ?_); all_goals try omega
      exact ⟨3, ⟨by omega, by omega⟩, by omega, ent_of [(2, some 2), (4, some 4), (7, some 7), (9, some 9), (100, some 100), (11, some 11)] (by (simp only [hq,hwr,c3,Nat.reduceAdd,Int.reduceAdd, go_sem]) <;> simp [hq, hwr, c3, Nat.reduceAdd, Int.reduceAdd]) (by (simp only [hq,hwr,c3,Nat.reduceAdd,Int.reduceAdd, go_sem, entH, entH1, nilArr, obOK]) <;> simp [hq, hwr, c3, Nat.reduceAdd, Int.reduceAdd]) (by simp [injR, apart]) (by simp [coverR, usH]) (by simp [hNm, lkR, names])⟩
    · have hd : decide ((⟨#[112, 117, 116]⟩ : ByteArray) = name) = false := decide_eq_false fun e => hn e.symm
      have hq : kdJ name 3 = kdJ name 2 := kdJ_miss name 2 fun e => hn (k2.2 e)
      refine vc_sound _ _ _ ?_; simp (maxSteps := 2000000) only [go_sem, hG, hOw, hd, c2, i2, List.getElem_cons_succ, List.getElem_cons_zero, List.drop_succ_cons, List.drop_zero, Nat.reduceMul]
      (repeat' with_reducible first | refine And.intro ?_ ?_ | intro _ | refine exP ?_ ?_); all_goals try omega
      exact ⟨3, ⟨by omega, by omega⟩, by omega, ent_of [(2, some 2), (4, some 4), (7, some 7), (9, some 9), (100, some 100), (11, some 11)] (by (simp only [hq,c3,Nat.reduceAdd,Int.reduceAdd, go_sem]) <;> simp [hq, c3, Nat.reduceAdd, Int.reduceAdd]) (by (simp only [hq,c3,Nat.reduceAdd,Int.reduceAdd, go_sem, entH, entH1, nilArr, obOK]) <;> simp [hq, c3, Nat.reduceAdd, Int.reduceAdd]) (by simp [injR, apart]) (by simp [coverR, usH]) (by simp [hNm, lkR, names])⟩
  · by_cases hn : name = otherS
    · have hd : decide ((⟨#[111, 116, 104, 101, 114]⟩ : ByteArray) = name) = true := decide_eq_true hn.symm
      have hq : ((kdJ name 4 : Nat) : Int) = 3 := by rw [kdJ_hit name 3 (k3.1 hn) (by decide)]; rfl
      have hwr : IntKind.u8.wrap 3 = 3 := by decide
      refine vc_sound _ _ _ ?_; simp (maxSteps := 2000000) only [go_sem, hG, hOw, hd, c3, i3, List.getElem_cons_succ, List.getElem_cons_zero, List.drop_succ_cons, List.drop_zero, Nat.reduceMul]
      (repeat' with_reducible first | refine And.intro ?_ ?_ | intro _ | refine exP ?_ ?_); all_goals try omega
      exact ⟨4, ⟨by omega, by omega⟩, by omega, ent_of [(2, some 2), (4, some 4), (7, some 7), (9, some 9), (100, some 100), (11, some 11)] (by (simp only [hq,hwr,c4,Nat.reduceAdd,Int.reduceAdd, go_sem]) <;> simp [hq, hwr, c4, Nat.reduceAdd, Int.reduceAdd]) (by (simp only [hq,hwr,c4,Nat.reduceAdd,Int.reduceAdd, go_sem, entH, entH1, nilArr, obOK]) <;> simp [hq, hwr, c4, Nat.reduceAdd, Int.reduceAdd]) (by simp [injR, apart]) (by simp [coverR, usH]) (by simp [hNm, lkR, names])⟩
    · have hd : decide ((⟨#[111, 116, 104, 101, 114]⟩ : ByteArray) = name) = false := decide_eq_false fun e => hn e.symm
      have hq : kdJ name 4 = kdJ name 3 := kdJ_miss name 3 fun e => hn (k3.2 e)
      refine vc_sound _ _ _ ?_; simp (maxSteps := 2000000) only [go_sem, hG, hOw, hd, c3, i3, List.getElem_cons_succ, List.getElem_cons_zero, List.drop_succ_cons, List.drop_zero, Nat.reduceMul]
      (repeat' with_reducible first | refine And.intro ?_ ?_ | intro _ | refine exP ?_ ?_); all_goals try omega
      exact ⟨4, ⟨by omega, by omega⟩, by omega, ent_of [(2, some 2), (4, some 4), (7, some 7), (9, some 9), (100, some 100), (11, some 11)] (by (simp only [hq,c4,Nat.reduceAdd,Int.reduceAdd, go_sem]) <;> simp [hq, c4, Nat.reduceAdd, Int.reduceAdd]) (by (simp only [hq,c4,Nat.reduceAdd,Int.reduceAdd, go_sem, entH, entH1, nilArr, obOK]) <;> simp [hq, c4, Nat.reduceAdd, Int.reduceAdd]) (by simp [injR, apart]) (by simp [coverR, usH]) (by simp [hNm, lkR, names])⟩
  · have hq : kdJ name 4 = kdN name := kdJ_4 name
    refine vc_sound _ _ _ ?_; simp (maxSteps := 2000000) only [go_sem, hG, hOw, c4]
    (repeat' with_reducible first | refine And.intro ?_ ?_ | intro _ | refine exP ?_ ?_); all_goals try omega
    exact ⟨(), ent_of [(2, some 2), (4, some 4), (7, some 7), (9, some 9), (100, some 100), (11, some 11)] (by (simp only [hq, go_sem]) <;> simp [hq]) (by (simp only [hq, go_sem, entH, entH1, nilArr, obOK]) <;> simp [hq]) (by simp [injR, apart]) (by simp [coverR, usH]) (by simp [hNm, lkR, names])⟩
open Go Pm
set_option maxHeartbeats 4000000
set_option maxRecDepth 100000
theorem stepC_wd {s : Option Cp} {name : ByteArray} {rest r' : List ByteArray} {c : Cp} (hw : ∀ r ∈ (cpO s).rds, r.word.size ≤ 100000) (h : stepC s name rest = some (c, r')) : ∀ r ∈ c.rds, r.word.size ≤ 100000 := by
  cases s with
  | none =>
    unfold stepC at h
    simp only at h
    split at h
    · cases rest with
      | nil => cases h
      | cons x r =>
        simp only [Option.map_eq_some_iff, Prod.mk.injEq] at h
        obtain ⟨v, _, rfl, _⟩ := h
        simp
    · cases h
  | some d =>
    unfold stepC at h
    simp only at h
    split at h
    · cases h
    · split at h
      · cases h
      · split at h
        · split at h
          · simp only [Option.some.injEq, Prod.mk.injEq] at h
            obtain ⟨rfl, _⟩ := h
            intro r hr
            rcases List.mem_append.1 hr with hr | hr
            · exact hw r hr
            · simp at hr; subst hr; exact Nat.zero_le _
          · split at h
            · split at h
              · rename_i hwb
                simp only [Option.some.injEq, Prod.mk.injEq] at h
                obtain ⟨rfl, _⟩ := h
                intro r hr
                rcases List.mem_append.1 hr with hr | hr
                · exact hw r hr
                · simp at hr; subst hr
                  have := wordB_size hwb
                  simp only
                  omega
              · cases h
            · cases h
        · cases h
theorem readG_wd : ∀ {l : List ByteArray} {s s' : Option Cp}, (∀ r ∈ (cpO s).rds, r.word.size ≤ 100000) → readG s l = some s' → ∀ r ∈ (cpO s').rds, r.word.size ≤ 100000
  | [], s, s', hw, h => by
    simp [readG] at h
    subst h
    exact hw
  | x :: l, s, s', hw, h => by
    simp only [readG, Option.bind_eq_some_iff] at h
    obtain ⟨c, h1, h2⟩ := h
    refine readG_wd (s := some c) ?_ h2
    unfold stepG at h1
    split at h1
    · cases h1
    · split at h1
      · rename_i hs
        cases h1
        exact stepC_wd hw hs
      · cases h1
theorem RToCopy_ok (t : List Ch) (hok : OKt t) (l : List ByteArray) : Gives Tryz.prog 18 [txE 0 t, strs 0 l] (fun _ => .tup [cpE 0 (toCopyP t l).1, i64 (toCopyP t l).2]) := by
  cases ht : textB t with
  | false =>
    have e : toCopyP t l = (noCp, 10) := by simp [toCopyP, ht]
    rw [e]
    refine pure_intro (ow := fun _ => false) Tryz.func18 Tryz.ntmps18 rfl (by kernel_rfl) (by simp) rfl (by decide) fun G hG hOw hNm hB => ?_; simp only [go_sem, hG, hOw]
    refine call_pureA (CheckT_ok t hok) ?_
    simp (maxSteps := 2000000) only [go_sem, hG, hOw, ht]
    (repeat' with_reducible first | refine And.intro ?_ ?_ | intro _ | refine exP ?_ ?_); all_goals try omega
    exact sub_noCp 10
  | true =>
    cases h : rowsB l with
    | false =>
      have e : toCopyP t l = (noCp, 110) := by simp [toCopyP, ht, h]
      rw [e]
      refine pure_intro (ow := fun _ => false) Tryz.func18 Tryz.ntmps18 rfl (by kernel_rfl) (by simp) rfl (by decide) fun G hG hOw hNm hB => ?_; simp only [go_sem, hG, hOw]
      refine call_pureA (CheckT_ok t hok) ?_
      simp (maxSteps := 2000000) only [go_sem, hG, hOw, ht]
      (repeat' with_reducible first | refine And.intro ?_ ?_ | intro _ | refine exP ?_ ?_); all_goals try omega
      refine call_pureA (Rows_ok l) ?_
      rw [h]
      simp only [go_sem, hG, hOw]
      (repeat' with_reducible first | refine And.intro ?_ ?_ | intro _ | refine exP ?_ ?_); all_goals try omega
      exact sub_noCp 110
    | true =>
      obtain ⟨hl1, hl2⟩ := rowsB_bd h
      have f0 : (cpO none).rds = [] := rfl
      have f1 : (cpO none).id = 0 := rfl
      have bad : readG none l = none → toCopyP t l = (noCp, 111) := fun e => by simp [toCopyP, ht, h, e]
      refine pure_intro (ow := fun _ => false) Tryz.func18 Tryz.ntmps18 rfl (by kernel_rfl) (by simp) rfl (by decide) fun G hG hOw hNm hB => ?_; simp only [go_sem, hG, hOw]
      refine call_pureA (CheckT_ok t hok) ?_
      simp (maxSteps := 2000000) only [go_sem, hG, hOw, ht]
      (repeat' with_reducible first | refine And.intro ?_ ?_ | intro _ | refine exP ?_ ?_); all_goals try omega
      refine call_pureA (Rows_ok l) ?_
      rw [h]
      simp only [go_sem, hG, hOw]
      (repeat' with_reducible first | refine And.intro ?_ ?_ | intro _ | refine exP ?_ ?_); all_goals try omega
      · rename_i h0
        have hl : l = [] := List.eq_nil_of_length_eq_zero (by omega)
        have hg : readG none l = some none := by rw [hl]; rfl
        have e : toCopyP t l = (noCp, 111) := by simp [toCopyP, ht, h, hg]
        rw [e]
        exact sub_noCp 111
      · refine semC_cut (fun c : Cp => St.of [(2, .ptr 2 0), (4, .ptr 4 0), (7, .ptr 7 0)] [(2, .box [chs 0 t]), (4, .box [i64 0, .v (.slice none 0 0)]), (7, .box (cpC 0 c))]) (fun c => readG none l = some (some c)) ?_ ?_
        · refine semC_loop (fun x : Nat × Option Cp => St.of [(1, strs 0 l), (2, .ptr 2 0), (4, .ptr 4 0), (7, .ptr 7 0), (8, i64 x.1)] [(2, .box [chs 0 t]), (4, .box [i64 0, .v (.slice none 0 0)]), (7, .box [i64 (cpO x.2).id, .own 100 0 (cpO x.2).rds.length 5]), (100, .arr 59 5 ((cpO x.2).rds.map rdE))]) (fun x => x.1 ≤ l.length ∧ readG none (l.take x.1) = some x.2 ∧ (x.2 = none ↔ x.1 = 0)) (fun x => l.length - x.1) (0, none) ⟨by simp, by simp [readG], by simp⟩ (ent_of [(2, some 2), (4, some 4), (7, some 7), (100, none)] (by (simp only [f0,f1,List.map_nil,List.length_nil, go_sem]) <;> simp [f0, f1, List.map_nil, List.length_nil]) (by (simp only [f0,f1,List.map_nil,List.length_nil, go_sem, entH, entH1, nilArr, obOK]) <;> simp [f0, f1, List.map_nil, List.length_nil]) (by simp [injR, apart]) (by simp [coverR, usH]) (by simp [hNm, lkR, names])) ?_
          rintro ⟨k, s⟩ ⟨hk, hrd, hs0⟩
          simp only at hk hrd hs0
          have hbd := readG_len hk hrd
          by_cases hkl : k < l.length
          · have hlt : (k : Int) < l.length := by omega
            have hsz := hl2 _ (List.getElem_mem hkl)
            have no : stepG s l[k] = none → toCopyP t l = (noCp, 111) := fun e => bad (readG_bad hkl hrd e)
            obtain ⟨name, rest, hp⟩ : ∃ name rest, partsS l[k] = name :: rest := by
              cases hq : partsS l[k] with
              | nil => exact (partsS_ne _ hq).elim
              | cons a b => exact ⟨a, b, rfl⟩
            have hps : ∀ s ∈ rest, s.size ≤ 100000 := fun s hs => by have := partsS_size l[k] s (by rw [hp]; simp [hs]); omega
            refine vc_sound _ _ _ ?_; simp (maxSteps := 2000000) only [go_sem, hG, hOw, decide_eq_true hlt]
            (repeat' with_reducible first | refine And.intro ?_ ?_ | intro _ | refine exP ?_ ?_); all_goals try omega
            refine call_pureA (RParts_ok l[k] (by omega)) ?_
            rw [hp]
            simp only [go_sem, hG, hOw]
            (repeat' with_reducible first | refine And.intro ?_ ?_ | intro _ | refine exP ?_ ?_); all_goals try omega
            refine call_tri [(0, 9)] [] (next_yes G.lo name rest false) (by (simp only [go_sem]) <;> simp) (by (simp only [go_sem, entH, entH1, nilArr, obOK]) <;> simp) (by simp [injR, apart, toR]) (by simp [coverR, usH, toR]) (by simp [uniqP, lkR, toR]) (by simp [chk, hG]) ?_
            by_cases hk0 : k = 0
            · have hk0' : (k : Int) = 0 := by omega
              have hsn : s = none := hs0.2 hk0
              subst hsn
              have hF := stepG_first hp
              have hR := rnum_any G.lo rest false hps
              simp (maxSteps := 2000000) only [go_sem, hG, hOw, decide_eq_true hk0']
              (repeat' with_reducible first | refine And.intro ?_ ?_ | intro _ | refine exP ?_ ?_); all_goals try omega
              cases ho : okN1 rest 0 with
              | false =>
                simp only [ho, Bool.not_false, Bool.or_true] at hR
                refine call_tri [(0, 9)] [] (hR) (by (simp only [go_sem]) <;> simp) (by (simp only [go_sem, entH, entH1, nilArr, obOK]) <;> simp) (by simp [injR, apart, toR]) (by simp [coverR, usH, toR]) (by simp [uniqP, lkR, toR]) (by simp [chk, hG]) ?_
                simp only [go_sem, hG, hOw]
                (repeat' with_reducible first | refine And.intro ?_ ?_ | intro _ | refine exP ?_ ?_); all_goals try omega
                refine call_tri [(0, 9)] [] (rright_ok G.lo (rest.drop 1) true) (by (simp only [go_sem]) <;> simp) (by (simp only [go_sem, entH, entH1, nilArr, obOK]) <;> simp) (by simp [injR, apart, toR]) (by simp [coverR, usH, toR]) (by simp [uniqP, lkR, toR]) (by simp [chk, hG]) ?_
                simp (maxSteps := 2000000) only [go_sem, hG, hOw, Bool.not_true, Bool.false_and]
                (repeat' with_reducible first | refine And.intro ?_ ?_ | intro _ | refine exP ?_ ?_); all_goals try omega
                rw [no (by rw [hF, ho]; simp)]
                exact sub_noCp 111
              | true =>
                simp only [ho, Bool.not_true, Bool.or_false] at hR
                refine call_tri [(0, 9)] [] (hR) (by (simp only [go_sem]) <;> simp) (by (simp only [go_sem, entH, entH1, nilArr, obOK]) <;> simp) (by simp [injR, apart, toR]) (by simp [coverR, usH, toR]) (by simp [uniqP, lkR, toR]) (by simp [chk, hG]) ?_
                by_cases hn : name = copyS
                · have hd : decide (name = ⟨#[99, 111, 112, 121]⟩) = true := decide_eq_true hn
                  simp (maxSteps := 2000000) only [go_sem, hG, hOw, hd]
                  (repeat' with_reducible first | refine And.intro ?_ ?_ | intro _ | refine exP ?_ ?_); all_goals try omega
                  refine call_tri [(0, 9)] [] (rright_ok G.lo (rest.drop 1) false) (by (simp only [go_sem]) <;> simp) (by (simp only [go_sem, entH, entH1, nilArr, obOK]) <;> simp) (by simp [injR, apart, toR]) (by simp [coverR, usH, toR]) (by simp [uniqP, lkR, toR]) (by simp [chk, hG]) ?_
                  cases he : (rest.drop 1).isEmpty with
                  | false =>
                    simp (maxSteps := 2000000) only [go_sem, hG, hOw, Bool.not_false, Bool.true_and]
                    (repeat' with_reducible first | refine And.intro ?_ ?_ | intro _ | refine exP ?_ ?_); all_goals try omega
                    rw [no (by rw [hF, ho, he]; simp [hn])]
                    exact sub_noCp 111
                  | true =>
                    have hsG : stepG none l[k] = some ⟨nvS rest 0, []⟩ := by rw [hF, ho, he]; simp [hn]
                    simp (maxSteps := 2000000) only [go_sem, hG, hOw, Bool.not_false, Bool.true_and, Bool.not_true]
                    (repeat' with_reducible first | refine And.intro ?_ ?_ | intro _ | refine exP ?_ ?_); all_goals try omega
                    have g1 : cpO (some ⟨nvS rest 0, []⟩) = ⟨nvS rest 0, []⟩ := rfl
                    exact ⟨(k + 1, some ⟨nvS rest 0, []⟩), ⟨by show k + 1 ≤ _; omega, by rw [readG_succ l k hkl, hrd]; simp [hsG], by simp⟩, by show l.length - (k + 1) < _; omega, ent_of [(2, some 2), (4, some 4), (7, some 7), (100, some 100)] (by (simp only [g1,f0,List.map_nil,List.length_nil, go_sem]) <;> simp [g1, f0, List.map_nil, List.length_nil]) (by (simp only [g1,f0,List.map_nil,List.length_nil, go_sem, entH, entH1, nilArr, obOK]) <;> simp [g1, f0, List.map_nil, List.length_nil]) (by simp [injR, apart]) (by simp [coverR, usH]) (by simp [hNm, lkR, names])⟩
                · have hd : decide (name = ⟨#[99, 111, 112, 121]⟩) = false := decide_eq_false hn
                  simp (maxSteps := 2000000) only [go_sem, hG, hOw, hd]
                  (repeat' with_reducible first | refine And.intro ?_ ?_ | intro _ | refine exP ?_ ?_); all_goals try omega
                  refine call_tri [(0, 9)] [] (rright_ok G.lo (rest.drop 1) true) (by (simp only [go_sem]) <;> simp) (by (simp only [go_sem, entH, entH1, nilArr, obOK]) <;> simp) (by simp [injR, apart, toR]) (by simp [coverR, usH, toR]) (by simp [uniqP, lkR, toR]) (by simp [chk, hG]) ?_
                  simp (maxSteps := 2000000) only [go_sem, hG, hOw, Bool.not_true, Bool.false_and]
                  (repeat' with_reducible first | refine And.intro ?_ ?_ | intro _ | refine exP ?_ ?_); all_goals try omega
                  rw [no (by rw [hF, ho]; simp [hn])]
                  exact sub_noCp 111
            · have hk0' : ¬ (k : Int) = 0 := by omega
              cases s with
              | none => exact absurd (hs0.1 rfl) hk0
              | some c =>
              have f2 : cpO (some c) = c := rfl
              have hbe : ByteArray.empty = ⟨#[]⟩ := rfl
              rw [f2] at hbd ⊢
              simp (maxSteps := 2000000) only [go_sem, hG, hOw, decide_eq_false hk0']
              (repeat' with_reducible first | refine And.intro ?_ ?_ | intro _ | refine exP ?_ ?_); all_goals try omega
              refine semC_cut (fun _ : Unit => St.of [(1, strs 0 l), (2, .ptr 2 0), (4, .ptr 4 0), (7, .ptr 7 0), (8, i64 k), (9, .ptr 9 0), (10, str name), (11, .ptr 11 0)] [(2, .box [chs 0 t]), (4, .box [i64 0, .v (.slice none 0 0)]), (7, .box [i64 c.id, .own 100 0 c.rds.length 5]), (9, .box [strs G.lo rest, bl false]), (100, .arr 59 5 (c.rds.map rdE)), (11, .box [i64 0, i64 0, i64 0, .v (.int .u8 (kdN name)), str ⟨#[]⟩])]) (fun _ => True) ?_ ?_
              · refine semC_ent (s' := St.of [(1, strs 0 l), (2, .ptr 2 0), (4, .ptr 4 0), (7, .ptr 7 0), (8, i64 k), (9, .ptr 9 0), (10, str name), (11, .ptr 11 0), (12, i64 1)] [(2, .box [chs 0 t]), (4, .box [i64 0, .v (.slice none 0 0)]), (7, .box [i64 c.id, .own 100 0 c.rds.length 5]), (9, .box [strs G.lo rest, bl false]), (100, .arr 59 5 (c.rds.map rdE)), (11, .box [i64 0, i64 0, i64 0, .v (.int .u8 0), str ⟨#[]⟩])]) (ent_of [(2, some 2), (4, some 4), (7, some 7), (9, some 9), (100, some 100), (11, some 11)] (by (simp only [str,hbe, go_sem]) <;> simp [str, hbe]) (by (simp only [str,hbe, go_sem, entH, entH1, nilArr, obOK]) <;> simp [str, hbe]) (by simp [injR, apart]) (by simp [coverR, usH]) (by simp [hNm, lkR, names])) ?_
                exact semC_code (by kernel_rfl) (Rkind t l name k G.lo c.rds.length c.id rest (c.rds.map rdE) hG hOw hNm)
              rintro _ _
              have hps3 : ∀ s ∈ rest.drop 3, s.size ≤ 100000 := fun s hs => hps s (List.mem_of_mem_drop hs)
              have hl2c : c.rds.length ≤ 1000 := by omega
              by_cases hz : kdN name = 0
              · have d0 : decide (((kdN name : Nat) : Int) = 0) = true := decide_eq_true (by omega)
                have d1 : ¬ ((kdN name : Nat) : Int) = 1 := by omega
                have hno := no (stepG_none c hp hz)
                rw [hno]
                simp (maxSteps := 2000000) only [go_sem, hG, hOw, d0]
                (repeat' with_reducible first | refine And.intro ?_ ?_ | intro _ | refine exP ?_ ?_); all_goals try omega
                refine call_tri [(0, 9)] [] (rplace_tri G.lo rest true hps) (by (simp only [go_sem]) <;> simp) (by (simp only [go_sem, entH, entH1, nilArr, obOK]) <;> simp) (by simp [injR, apart, toR]) (by simp [coverR, usH, toR]) (by simp [uniqP, lkR, toR]) (by simp [chk, hG]) ?_
                simp (maxSteps := 2000000) only [go_sem, hG, hOw, d1,Bool.true_or]
                (repeat' with_reducible first | refine And.intro ?_ ?_ | intro _ | refine exP ?_ ?_); all_goals try omega
                cases hr3 : rest.drop 3 with
                | nil =>
                  refine call_tri [(0, 9)] [] (rword_end G.lo true) (by (simp only [go_sem]) <;> simp) (by (simp only [go_sem, entH, entH1, nilArr, obOK]) <;> simp) (by simp [injR, apart, toR]) (by simp [coverR, usH, toR]) (by simp [uniqP, lkR, toR]) (by simp [chk, hG]) ?_
                  simp only [go_sem, hG, hOw]
                  (repeat' with_reducible first | refine And.intro ?_ ?_ | intro _ | refine exP ?_ ?_); all_goals try omega
                  refine call_tri [(0, 9)] [] (rright_ok G.lo [] true) (by (simp only [go_sem]) <;> simp) (by (simp only [go_sem, entH, entH1, nilArr, obOK]) <;> simp) (by simp [injR, apart, toR]) (by simp [coverR, usH, toR]) (by simp [uniqP, lkR, toR]) (by simp [chk, hG]) ?_
                  simp (maxSteps := 2000000) only [go_sem, hG, hOw, Bool.not_true, Bool.false_and]
                  (repeat' with_reducible first | refine And.intro ?_ ?_ | intro _ | refine exP ?_ ?_); all_goals try omega
                  exact sub_noCp 111
                | cons w r =>
                  have hw : w.size ≤ 100000 := hps3 w (by rw [hr3]; simp)
                  have hU := rword_yes G.lo w r true hw
                  simp only [Bool.true_or] at hU
                  refine call_tri [(0, 9)] [] (hU) (by (simp only [go_sem]) <;> simp) (by (simp only [go_sem, entH, entH1, nilArr, obOK]) <;> simp) (by simp [injR, apart, toR]) (by simp [coverR, usH, toR]) (by simp [uniqP, lkR, toR]) (by simp [chk, hG]) ?_
                  simp only [go_sem, hG, hOw]
                  (repeat' with_reducible first | refine And.intro ?_ ?_ | intro _ | refine exP ?_ ?_); all_goals try omega
                  refine call_tri [(0, 9)] [] (rright_ok G.lo r true) (by (simp only [go_sem]) <;> simp) (by (simp only [go_sem, entH, entH1, nilArr, obOK]) <;> simp) (by simp [injR, apart, toR]) (by simp [coverR, usH, toR]) (by simp [uniqP, lkR, toR]) (by simp [chk, hG]) ?_
                  simp (maxSteps := 2000000) only [go_sem, hG, hOw, Bool.not_true, Bool.false_and]
                  (repeat' with_reducible first | refine And.intro ?_ ?_ | intro _ | refine exP ?_ ?_); all_goals try omega
                  exact sub_noCp 111
              · have d0 : decide (((kdN name : Nat) : Int) = 0) = false := decide_eq_false (by omega)
                have hP := rplace_tri G.lo rest false hps
                simp only [Bool.false_or] at hP
                have hk8 : (((UInt8.ofNat (kdN name)).toNat : Nat) : Int) = ((kdN name : Nat) : Int) := by
                  rcases kd_cases name with ⟨h, _⟩ | ⟨h, _⟩ | ⟨h, _⟩ | h <;> rw [h] <;> rfl
                simp (maxSteps := 2000000) only [go_sem, hG, hOw, d0]
                (repeat' with_reducible first | refine And.intro ?_ ?_ | intro _ | refine exP ?_ ?_); all_goals try omega
                refine call_tri [(0, 9)] [] (hP) (by (simp only [go_sem]) <;> simp) (by (simp only [go_sem, entH, entH1, nilArr, obOK]) <;> simp) (by simp [injR, apart, toR]) (by simp [coverR, usH, toR]) (by simp [uniqP, lkR, toR]) (by simp [chk, hG]) ?_
                by_cases h1 : kdN name = 1
                · have d1 : ((kdN name : Nat) : Int) = 1 := by omega
                  have hF := stepG_omit c hp h1
                  simp (maxSteps := 2000000) only [go_sem, hG, hOw, d1,decide_true,Bool.not_true]
                  (repeat' with_reducible first | refine And.intro ?_ ?_ | intro _ | refine exP ?_ ?_); all_goals try omega
                  refine call_tri [(0, 9)] [] (rright_ok G.lo (rest.drop 3) (!placeB rest)) (by (simp only [go_sem]) <;> simp) (by (simp only [go_sem, entH, entH1, nilArr, obOK]) <;> simp) (by simp [injR, apart, toR]) (by simp [coverR, usH, toR]) (by simp [uniqP, lkR, toR]) (by simp [chk, hG]) ?_
                  cases hg : (!(!placeB rest) && (rest.drop 3).isEmpty) with
                  | false =>
                    rw [hg] at hF
                    rw [no (by rw [hF]; simp)]
                    simp only [go_sem, hG, hOw]
                    (repeat' with_reducible first | refine And.intro ?_ ?_ | intro _ | refine exP ?_ ?_); all_goals try omega
                    exact sub_noCp 111
                  | true =>
                    rw [hg, if_pos rfl] at hF
                    have g1 : cpO (some ⟨c.id, c.rds ++ [⟨nvS rest 0, nvS rest 1, nvS rest 2, 1, ⟨#[]⟩⟩]⟩) = ⟨c.id, c.rds ++ [⟨nvS rest 0, nvS rest 1, nvS rest 2, 1, ⟨#[]⟩⟩]⟩ := rfl
                    have g2 : (((1 : UInt8).toNat : Nat) : Int) = 1 := rfl
                    simp only [go_sem, hG, hOw]
                    (repeat' with_reducible first | refine And.intro ?_ ?_ | intro _ | refine exP ?_ ?_); all_goals try omega
                    exact ⟨(k + 1, some ⟨c.id, c.rds ++ [⟨nvS rest 0, nvS rest 1, nvS rest 2, 1, ⟨#[]⟩⟩]⟩), ⟨by show k + 1 ≤ _; omega, by rw [readG_succ l k hkl, hrd]; simp [hF], by simp⟩, by show l.length - (k + 1) < _; omega, ent_of [(2, some 2), (4, some 4), (7, some 7), (100, some 83)] (by (simp only [g1,g2,List.map_append,List.map_cons,List.map_nil,List.length_append,List.length_cons,List.length_nil, go_sem]) <;> simp [g1, g2, List.map_append, List.map_cons, List.map_nil, List.length_append, List.length_cons, List.length_nil]) (by (simp only [g1,g2,List.map_append,List.map_cons,List.map_nil,List.length_append,List.length_cons,List.length_nil, go_sem, entH, entH1, nilArr, obOK]) <;> simp [g1, g2, List.map_append, List.map_cons, List.map_nil, List.length_append, List.length_cons, List.length_nil]) (by simp [injR, apart]) (by simp [coverR, usH]) (by simp [hNm, lkR, names])⟩
                · have d1 : ¬ ((kdN name : Nat) : Int) = 1 := by omega
                  have hF := stepG_word c hp h1 hz
                  simp (maxSteps := 2000000) only [go_sem, hG, hOw, d1,decide_false,Bool.not_false]
                  (repeat' with_reducible first | refine And.intro ?_ ?_ | intro _ | refine exP ?_ ?_); all_goals try omega
                  cases hr3 : rest.drop 3 with
                  | nil =>
                    rw [hr3] at hF
                    refine call_tri [(0, 9)] [] (rword_end G.lo (!placeB rest)) (by (simp only [go_sem]) <;> simp) (by (simp only [go_sem, entH, entH1, nilArr, obOK]) <;> simp) (by simp [injR, apart, toR]) (by simp [coverR, usH, toR]) (by simp [uniqP, lkR, toR]) (by simp [chk, hG]) ?_
                    rw [no hF]
                    simp only [go_sem, hG, hOw]
                    (repeat' with_reducible first | refine And.intro ?_ ?_ | intro _ | refine exP ?_ ?_); all_goals try omega
                    refine call_tri [(0, 9)] [] (rright_ok G.lo [] true) (by (simp only [go_sem]) <;> simp) (by (simp only [go_sem, entH, entH1, nilArr, obOK]) <;> simp) (by simp [injR, apart, toR]) (by simp [coverR, usH, toR]) (by simp [uniqP, lkR, toR]) (by simp [chk, hG]) ?_
                    simp (maxSteps := 2000000) only [go_sem, hG, hOw, Bool.not_true, Bool.false_and]
                    (repeat' with_reducible first | refine And.intro ?_ ?_ | intro _ | refine exP ?_ ?_); all_goals try omega
                    exact sub_noCp 111
                  | cons w r =>
                    have hw : w.size ≤ 100000 := hps3 w (by rw [hr3]; simp)
                    rw [hr3] at hF
                    refine call_tri [(0, 9)] [] (rword_yes G.lo w r (!placeB rest) hw) (by (simp only [go_sem]) <;> simp) (by (simp only [go_sem, entH, entH1, nilArr, obOK]) <;> simp) (by simp [injR, apart, toR]) (by simp [coverR, usH, toR]) (by simp [uniqP, lkR, toR]) (by simp [chk, hG]) ?_
                    simp only [go_sem, hG, hOw]
                    (repeat' with_reducible first | refine And.intro ?_ ?_ | intro _ | refine exP ?_ ?_); all_goals try omega
                    have hRr := rright_ok G.lo r (!placeB rest || !wordB w)
                    refine call_tri [(0, 9)] [] (hRr) (by (simp only [go_sem]) <;> simp) (by (simp only [go_sem, entH, entH1, nilArr, obOK]) <;> simp) (by simp [injR, apart, toR]) (by simp [coverR, usH, toR]) (by simp [uniqP, lkR, toR]) (by simp [chk, hG]) ?_
                    cases hg : (!(!placeB rest || !wordB w) && r.isEmpty) with
                    | false =>
                      simp only [hg] at hF
                      rw [no (by rw [hF]; simp)]
                      simp only [go_sem, hG, hOw]
                      (repeat' with_reducible first | refine And.intro ?_ ?_ | intro _ | refine exP ?_ ?_); all_goals try omega
                      exact sub_noCp 111
                    | true =>
                      simp only [hg, if_true] at hF
                      have g1 : cpO (some ⟨c.id, c.rds ++ [⟨nvS rest 0, nvS rest 1, nvS rest 2, UInt8.ofNat (kdN name), w⟩]⟩) = ⟨c.id, c.rds ++ [⟨nvS rest 0, nvS rest 1, nvS rest 2, UInt8.ofNat (kdN name), w⟩]⟩ := rfl
                      simp only [go_sem, hG, hOw]
                      (repeat' with_reducible first | refine And.intro ?_ ?_ | intro _ | refine exP ?_ ?_); all_goals try omega
                      exact ⟨(k + 1, some ⟨c.id, c.rds ++ [⟨nvS rest 0, nvS rest 1, nvS rest 2, UInt8.ofNat (kdN name), w⟩]⟩), ⟨by show k + 1 ≤ _; omega, by rw [readG_succ l k hkl, hrd]; simp [hF], by simp⟩, by show l.length - (k + 1) < _; omega, ent_of [(2, some 2), (4, some 4), (7, some 7), (100, some 83)] (by (simp only [g1,hk8,List.map_append,List.map_cons,List.map_nil,List.length_append,List.length_cons,List.length_nil, go_sem]) <;> simp [g1, hk8, List.map_append, List.map_cons, List.map_nil, List.length_append, List.length_cons, List.length_nil]) (by (simp only [g1,hk8,List.map_append,List.map_cons,List.map_nil,List.length_append,List.length_cons,List.length_nil, go_sem, entH, entH1, nilArr, obOK]) <;> simp [g1, hk8, List.map_append, List.map_cons, List.map_nil, List.length_append, List.length_cons, List.length_nil]) (by simp [injR, apart]) (by simp [coverR, usH]) (by simp [hNm, lkR, names])⟩
          · have hk2 : k = l.length := by omega
            subst hk2
            rw [List.take_length] at hrd
            cases s with
            | none => exact absurd (hs0.1 rfl) (by omega)
            | some c =>
              have hN : Pm.Sub (.lst G.lo 5 (c.rds.map rdE)) (.lst 0 5 (c.rds.map rdE)) := Sub.lo (Nat.zero_le _)
              have hT : List.take c.rds.length (c.rds.map rdE) = c.rds.map rdE := List.take_of_length_le (by simp)
              have f2 : cpO (some c) = c := rfl
              rw [f2]
              refine vc_sound _ _ _ ?_; simp only [go_sem, hG, hOw]
              (repeat' with_reducible first | refine And.intro ?_ ?_ | intro _ | refine exP ?_ ?_); all_goals try omega
              refine ⟨c, hrd, ent_frz (fun i => i == 100) ?_⟩
              exact ent_of [(2, some 2), (4, some 4), (7, some 7)] (by (simp only [hT,hN, go_sem]) <;> simp [hT, hN]) (by (simp only [hT,hN, go_sem, entH, entH1, nilArr, obOK]) <;> simp [hT, hN]) (by simp [injR, apart]) (by simp [coverR, usH]) (by simp [hNm, lkR, names])
        · rintro c hrd
          have e : toCopyP t l = if copyE t c = 0 then (c, 0) else (noCp, copyE t c) := by simp [toCopyP, ht, h, hrd]
          rw [e]
          have hlen : (cpO (some c)).rds.length ≤ l.length := readG_len (l := l) (k := l.length) (Nat.le_refl _) (by rw [List.take_length]; exact hrd)
          have hlen2 : c.rds.length ≤ l.length := hlen
          have hwd : ∀ r ∈ c.rds, r.word.size ≤ 100000 := readG_wd (s := none) (s' := some c) (by simp [cpO]) hrd
          simp only [go_sem, hG, hOw]
          (repeat' with_reducible first | refine And.intro ?_ ?_ | intro _ | refine exP ?_ ?_); all_goals try omega
          refine call_pureA (RCheckCopy_ok t hok c (by omega) hwd) ?_
          by_cases hc : copyE t c = 0
          · rw [if_pos hc]
            simp (maxSteps := 2000000) only [go_sem, hG, hOw, hc]
            (repeat' with_reducible first | refine And.intro ?_ ?_ | intro _ | refine exP ?_ ?_); all_goals try omega
          · rw [if_neg hc]
            simp (maxSteps := 2000000) only [go_sem, hG, hOw, hc]
            (repeat' with_reducible first | refine And.intro ?_ ?_ | intro _ | refine exP ?_ ?_); all_goals try omega
            exact sub_noCp _
end Go.Proofs.YtphadkcpgnkpfaaGreatDoor
