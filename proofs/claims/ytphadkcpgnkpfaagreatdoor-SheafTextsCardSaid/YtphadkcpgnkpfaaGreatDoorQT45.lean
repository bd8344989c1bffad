import Derived.Test.YtphadkcpgnkpfaaGreatDoorQT34
import Derived.Test.YtphadkcpgnkpfaaGreatDoorQT40
import Derived.Test.YtphadkcpgnkpfaaGreatDoorQT42
import Derived.Test.YtphadkcpgnkpfaaGreatDoorQT44
namespace Go.Proofs.YtphadkcpgnkpfaaGreatDoor
open Go Pm
set_option linter.unusedSimpArgs false
set_option linter.unusedVariables false
set_option maxHeartbeats 4000000
set_option maxRecDepth 100000
def kdS (k : Int) : ByteArray := if k = 1 then omitS else if k = 2 then putS else if k = 3 then otherS else ⟨#[]⟩
def rowC (r : Rd) : ByteArray := if r.word = ⟨#[]⟩ then joinS [kdS r.kind.toNat, atS r.ch r.ln r.wd] else joinS [kdS r.kind.toNat, atS r.ch r.ln r.wd] ++ (⟨#[32]⟩ ++ r.word)
def ofCopyL (c : Cp) : List ByteArray := joinS [copyS, numB c.id] :: c.rds.map rowC
theorem ofCopy_step (c : Cp) (i : Nat) (hi : i < c.rds.length) : joinS [copyS, numB c.id] :: (c.rds.take (i + 1)).map rowC = (joinS [copyS, numB c.id] :: (c.rds.take i).map rowC) ++ [rowC c.rds[i]] := by
  rw [List.take_add_one, List.getElem?_eq_getElem hi, List.map_append]; rfl
theorem at_size (a b c : Int) (ha : in9 a) (hb : in9 b) (hc : in9 c) : (atS a b c).size ≤ 15 := by
  have h := join_le 4 [numB a, numB b, numB c] fun s hs => by
    simp only [List.mem_cons, List.not_mem_nil, or_false] at hs
    rcases hs with rfl | rfl | rfl
    · exact numB_size ha.1 ha.2
    · exact numB_size hb.1 hb.2
    · exact numB_size hc.1 hc.2
  unfold atS
  rw [join_size]
  simpa using h
theorem kd_size (k : Int) : (kdS k).size ≤ 5 := by
  unfold kdS
  split
  · decide
  · split
    · decide
    · split <;> decide
theorem copyB_inv {t : List Ch} {c : Cp} (ht : textB t = true) (h : copyB t c = true) : in9 c.id ∧ c.rds.length ≤ 20 ∧ OKR t c.rds := by
  unfold copyB at h
  simp only [Bool.and_eq_true, decide_eq_true_eq, inB_iff] at h
  obtain ⟨⟨⟨h1, h2⟩, h3⟩, _⟩ := h
  exact ⟨h1, h2, rds_ok ht (by omega) h3⟩
theorem inP9 {r : Rd} (h : InP r) : in9 r.ch ∧ in9 r.ln ∧ in9 r.wd := by
  obtain ⟨⟨a1, a2⟩, ⟨a3, a4⟩, ⟨a5, a6⟩⟩ := h
  exact ⟨⟨a1, by omega⟩, ⟨a3, by omega⟩, ⟨a5, by omega⟩⟩
theorem good_kind {r : Rd} (h : GoodR r) : (r.kind.toNat : Int) = 1 ∨ (r.kind.toNat : Int) = 2 ∨ (r.kind.toNat : Int) = 3 := by
  rcases h with ⟨h, _⟩ | ⟨h, _⟩ | ⟨h, _⟩ <;> simp [h]
theorem good_size {r : Rd} (h : GoodR r) : r.word.size ≤ 12 := by
  rcases h with ⟨_, h⟩ | ⟨_, h⟩ | ⟨_, h⟩
  · rw [h]; decide
  · exact (wordB_size h).2
  · exact (wordB_size h).2
theorem OfCopy_ok (t : List Ch) (c : Cp) : Gives Tryz.prog 15 [txE 0 t, cpE 0 c] (fun n => .tup [strs n (if copyE t c = 0 then ofCopyL c else []), i64 (copyE t c)]) := by
  refine pure_intro (ow := fun i => [20,22,37,1000020,1000037].contains i) Tryz.func15 Tryz.ntmps15 rfl (by kernel_rfl) (by simp) rfl (by decide) fun G hG hOw hNm hB => ?_; simp only [go_sem, hG, hOw]
  refine call_pureA (CheckCopy_ok t c) ?_
  by_cases h : copyE t c = 0
  · have ht : textB t = true := by
      cases ht : textB t with
      | true => rfl
      | false => simp [copyE, ht] at h
    have hc : copyB t c = true := by
      cases hc : copyB t c with
      | true => rfl
      | false => simp [copyE, ht, hc] at h
    obtain ⟨hid, hn, hO⟩ := copyB_inv ht hc
    have hsz := numB_size hid.1 hid.2
    rw [h, if_pos rfl]
    simp only [go_sem, hG, hOw]
    (repeat' with_reducible first | refine And.intro ?_ ?_ | intro _ | refine exP ?_ ?_); all_goals try omega
    refine call_pureA (Itoa_ok c.id hid.1 hid.2) ?_
    simp only [go_sem, hG, hOw]
    (repeat' with_reducible first | refine And.intro ?_ ?_ | intro _ | refine exP ?_ ?_); all_goals try omega
    refine call_tri [(0, 20)] [] (written_ok copyS [numB c.id] (by simp) (by simp) (by decide) (by simp; omega)) (by (simp only [go_sem]) <;> simp [copyS]) (by (simp only [go_sem, entH, entH1, nilArr, obOK]) <;> simp [copyS]) (by simp [injR, apart, toR]) (by simp [coverR, usH, toR, copyS]) (by simp [uniqP, lkR, toR]) (by simp [chk, hG]) ?_
    simp only [go_sem, hG, hOw]
    (repeat' with_reducible first | refine And.intro ?_ ?_ | intro _ | refine exP ?_ ?_); all_goals try omega
    refine semC_cut (fun _ : Unit => St.of [(7, .own 100 0 (ofCopyL c).length 1)] [(100, .arr 9 1 ((ofCopyL c).map strE))]) (fun _ => True) ?_ ?_
    · refine semC_loop (fun i : Nat => St.of [(7, .own 100 0 (joinS [copyS, numB c.id] :: (c.rds.take i).map rowC).length 1), (24, rds 0 c.rds), (25, i64 c.rds.length), (26, i64 i)] [(100, .arr 9 1 ((joinS [copyS, numB c.id] :: (c.rds.take i).map rowC).map strE))]) (fun i => i ≤ c.rds.length) (fun i => c.rds.length - i) 0 (by simp) (ent_of [(100, some 22)] (by (simp only [List.take_zero,List.map_nil,strE, go_sem]) <;> simp [List.take_zero, List.map_nil, strE]) (by (simp only [List.take_zero,List.map_nil,strE, go_sem, entH, entH1, nilArr, obOK]) <;> simp [List.take_zero, List.map_nil, strE]) (by simp [injR, apart]) (by simp [coverR, usH]) (by simp [hNm, lkR, names])) ?_
      rintro i hi
      by_cases hil : i < c.rds.length
      · have hlt : (i : Int) < c.rds.length := by omega
        obtain ⟨hI, hG2⟩ := hO.i _ (List.getElem_mem hil)
        obtain ⟨ha, hb, hd⟩ := inP9 hI
        have hws := good_size hG2
        have hats := at_size _ _ _ ha hb hd
        have hkds := kd_size (c.rds[i].kind.toNat)
        have hstep := ofCopy_step c i hil
        obtain ⟨U, hU⟩ : ∃ U, U = (joinS [copyS, numB c.id] :: (c.rds.take i).map rowC) := ⟨_, rfl⟩
        rw [← hU] at hstep ⊢
        have hUl : U.length ≤ 30 := by rw [hU]; simp; omega
        have i1 : Int.toNat 1 = 1 := rfl
        have i2 : Int.toNat 2 = 2 := rfl
        have i3 : Int.toNat 3 = 3 := rfl
        refine vc_sound _ _ _ ?_; simp (maxSteps := 2000000) only [go_sem, hG, hOw, decide_eq_true hlt]
        (repeat' with_reducible first | refine And.intro ?_ ?_ | intro _ | refine exP ?_ ?_); all_goals try omega
        refine semC_draw ⟨[37], [], []⟩ [(0, false), (1, false), (2, false), (3, false), (4, false), (5, false), (6, false), (7, false), (8, true), (9, false)] mixed (by kernel_rfl) ?_
        simp only [pickO, List.getElem?_cons_zero, List.getElem?_cons_succ]
        have hUi : U.length = i + 1 := by rw [hU]; simp; omega
        have hmin : min (i + 1) c.rds.length = U.length := by omega
        have hs1 : (#[32] : Array UInt8).size = 1 := rfl
        have hq : [V.v (Value.string (joinS [copyS, numB c.id]))] :: List.map strE (List.map rowC (List.take (i + 1) c.rds)) = List.map strE U ++ [[V.v (Value.string (rowC c.rds[i]))]] := by
          have := congrArg (List.map strE) hstep
          rw [List.map_append] at this
          exact this
        rcases good_kind hG2 with hk | hk | hk
        · have hrow : rowC c.rds[i] = if c.rds[i].word = ⟨#[]⟩ then joinS [omitS, atS c.rds[i].ch c.rds[i].ln c.rds[i].wd] else joinS [omitS, atS c.rds[i].ch c.rds[i].ln c.rds[i].wd] ++ (⟨#[32]⟩ ++ c.rds[i].word) := by
            unfold rowC; rw [hk]; rfl
          have hjs : (joinS [omitS, atS c.rds[i].ch c.rds[i].ln c.rds[i].wd]).size ≤ 40 := by
            rw [join_size]
            have h := join_le 15 [omitS, atS c.rds[i].ch c.rds[i].ln c.rds[i].wd] fun s hs => by
              simp only [List.mem_cons, List.not_mem_nil, or_false] at hs
              rcases hs with rfl | rfl
              · decide
              · exact hats
            simp at h
            simp
            omega
          simp (maxSteps := 2000000) only [go_sem, hG, hOw, hk, i1, i2, i3, Nat.reduceMul, List.drop_succ_cons, List.drop_zero]
          (repeat' with_reducible first | refine And.intro ?_ ?_ | intro _ | refine exP ?_ ?_); all_goals try omega
          refine ⟨_, callGivesA (at_ok c.rds[i].ch c.rds[i].ln c.rds[i].wd ha hb hd), ?_⟩
          simp only [go_sem, hG, hOw]
          (repeat' with_reducible first | refine And.intro ?_ ?_ | intro _ | refine exP ?_ ?_); all_goals try omega
          refine call_tri [(0, 37)] [] (written_ok omitS [atS c.rds[i].ch c.rds[i].ln c.rds[i].wd] (by simp) (by simp) (by decide) (by simp; omega)) (by (simp only [go_sem]) <;> simp [omitS]) (by (simp only [go_sem, entH, entH1, nilArr, obOK]) <;> simp [omitS]) (by simp [injR, apart, toR]) (by simp [coverR, usH, toR, omitS]) (by simp [uniqP, lkR, toR]) (by simp [chk, hG]) ?_
          simp only [go_sem, hG, hOw]
          (repeat' with_reducible first | refine And.intro ?_ ?_ | intro _ | refine exP ?_ ?_); all_goals try omega
          · rename_i hz
            rw [if_neg hz] at hrow
            refine ⟨i + 1, by omega, by omega, ?_⟩
            exact ent_of [(100, some 50)] (by (simp only [hq,hmin,hrow, go_sem]) <;> simp [hq, hmin, hrow]) (by (simp only [hq,hmin,hrow, go_sem, entH, entH1, nilArr, obOK]) <;> simp [hq, hmin, hrow]) (by simp [injR, apart]) (by simp [coverR, usH]) (by simp [hNm, lkR, names])
          · rename_i hz
            rw [if_pos hz] at hrow
            refine ⟨i + 1, by omega, by omega, ?_⟩
            exact ent_of [(100, some 50)] (by (simp only [hq,hmin,hrow, go_sem]) <;> simp [hq, hmin, hrow]) (by (simp only [hq,hmin,hrow, go_sem, entH, entH1, nilArr, obOK]) <;> simp [hq, hmin, hrow]) (by simp [injR, apart]) (by simp [coverR, usH]) (by simp [hNm, lkR, names])
        · have hrow : rowC c.rds[i] = if c.rds[i].word = ⟨#[]⟩ then joinS [putS, atS c.rds[i].ch c.rds[i].ln c.rds[i].wd] else joinS [putS, atS c.rds[i].ch c.rds[i].ln c.rds[i].wd] ++ (⟨#[32]⟩ ++ c.rds[i].word) := by
            unfold rowC; rw [hk]; rfl
          have hjs : (joinS [putS, atS c.rds[i].ch c.rds[i].ln c.rds[i].wd]).size ≤ 40 := by
            rw [join_size]
            have h := join_le 15 [putS, atS c.rds[i].ch c.rds[i].ln c.rds[i].wd] fun s hs => by
              simp only [List.mem_cons, List.not_mem_nil, or_false] at hs
              rcases hs with rfl | rfl
              · decide
              · exact hats
            simp at h
            simp
            omega
          simp (maxSteps := 2000000) only [go_sem, hG, hOw, hk, i1, i2, i3, Nat.reduceMul, List.drop_succ_cons, List.drop_zero]
          (repeat' with_reducible first | refine And.intro ?_ ?_ | intro _ | refine exP ?_ ?_); all_goals try omega
          refine ⟨_, callGivesA (at_ok c.rds[i].ch c.rds[i].ln c.rds[i].wd ha hb hd), ?_⟩
          simp only [go_sem, hG, hOw]
          (repeat' with_reducible first | refine And.intro ?_ ?_ | intro _ | refine exP ?_ ?_); all_goals try omega
          refine call_tri [(0, 37)] [] (written_ok putS [atS c.rds[i].ch c.rds[i].ln c.rds[i].wd] (by simp) (by simp) (by decide) (by simp; omega)) (by (simp only [go_sem]) <;> simp [putS]) (by (simp only [go_sem, entH, entH1, nilArr, obOK]) <;> simp [putS]) (by simp [injR, apart, toR]) (by simp [coverR, usH, toR, putS]) (by simp [uniqP, lkR, toR]) (by simp [chk, hG]) ?_
          simp only [go_sem, hG, hOw]
          (repeat' with_reducible first | refine And.intro ?_ ?_ | intro _ | refine exP ?_ ?_); all_goals try omega
          · rename_i hz
            rw [if_neg hz] at hrow
            refine ⟨i + 1, by omega, by omega, ?_⟩
            exact ent_of [(100, some 50)] (by (simp only [hq,hmin,hrow, go_sem]) <;> simp [hq, hmin, hrow]) (by (simp only [hq,hmin,hrow, go_sem, entH, entH1, nilArr, obOK]) <;> simp [hq, hmin, hrow]) (by simp [injR, apart]) (by simp [coverR, usH]) (by simp [hNm, lkR, names])
          · rename_i hz
            rw [if_pos hz] at hrow
            refine ⟨i + 1, by omega, by omega, ?_⟩
            exact ent_of [(100, some 50)] (by (simp only [hq,hmin,hrow, go_sem]) <;> simp [hq, hmin, hrow]) (by (simp only [hq,hmin,hrow, go_sem, entH, entH1, nilArr, obOK]) <;> simp [hq, hmin, hrow]) (by simp [injR, apart]) (by simp [coverR, usH]) (by simp [hNm, lkR, names])
        · have hrow : rowC c.rds[i] = if c.rds[i].word = ⟨#[]⟩ then joinS [otherS, atS c.rds[i].ch c.rds[i].ln c.rds[i].wd] else joinS [otherS, atS c.rds[i].ch c.rds[i].ln c.rds[i].wd] ++ (⟨#[32]⟩ ++ c.rds[i].word) := by
            unfold rowC; rw [hk]; rfl
          have hjs : (joinS [otherS, atS c.rds[i].ch c.rds[i].ln c.rds[i].wd]).size ≤ 40 := by
            rw [join_size]
            have h := join_le 15 [otherS, atS c.rds[i].ch c.rds[i].ln c.rds[i].wd] fun s hs => by
              simp only [List.mem_cons, List.not_mem_nil, or_false] at hs
              rcases hs with rfl | rfl
              · decide
              · exact hats
            simp at h
            simp
            omega
          simp (maxSteps := 2000000) only [go_sem, hG, hOw, hk, i1, i2, i3, Nat.reduceMul, List.drop_succ_cons, List.drop_zero]
          (repeat' with_reducible first | refine And.intro ?_ ?_ | intro _ | refine exP ?_ ?_); all_goals try omega
          refine ⟨_, callGivesA (at_ok c.rds[i].ch c.rds[i].ln c.rds[i].wd ha hb hd), ?_⟩
          simp only [go_sem, hG, hOw]
          (repeat' with_reducible first | refine And.intro ?_ ?_ | intro _ | refine exP ?_ ?_); all_goals try omega
          refine call_tri [(0, 37)] [] (written_ok otherS [atS c.rds[i].ch c.rds[i].ln c.rds[i].wd] (by simp) (by simp) (by decide) (by simp; omega)) (by (simp only [go_sem]) <;> simp [otherS]) (by (simp only [go_sem, entH, entH1, nilArr, obOK]) <;> simp [otherS]) (by simp [injR, apart, toR]) (by simp [coverR, usH, toR, otherS]) (by simp [uniqP, lkR, toR]) (by simp [chk, hG]) ?_
          simp only [go_sem, hG, hOw]
          (repeat' with_reducible first | refine And.intro ?_ ?_ | intro _ | refine exP ?_ ?_); all_goals try omega
          · rename_i hz
            rw [if_neg hz] at hrow
            refine ⟨i + 1, by omega, by omega, ?_⟩
            exact ent_of [(100, some 50)] (by (simp only [hq,hmin,hrow, go_sem]) <;> simp [hq, hmin, hrow]) (by (simp only [hq,hmin,hrow, go_sem, entH, entH1, nilArr, obOK]) <;> simp [hq, hmin, hrow]) (by simp [injR, apart]) (by simp [coverR, usH]) (by simp [hNm, lkR, names])
          · rename_i hz
            rw [if_pos hz] at hrow
            refine ⟨i + 1, by omega, by omega, ?_⟩
            exact ent_of [(100, some 50)] (by (simp only [hq,hmin,hrow, go_sem]) <;> simp [hq, hmin, hrow]) (by (simp only [hq,hmin,hrow, go_sem, entH, entH1, nilArr, obOK]) <;> simp [hq, hmin, hrow]) (by simp [injR, apart]) (by simp [coverR, usH]) (by simp [hNm, lkR, names])
      · have hi2 : i = c.rds.length := by omega
        subst hi2
        refine vc_sound _ _ _ ?_; simp only [go_sem, hG, hOw]
        (repeat' with_reducible first | refine And.intro ?_ ?_ | intro _ | refine exP ?_ ?_); all_goals try omega
        exact ⟨(), ent_of [(100, some 100)] (by (simp only [ofCopyL, go_sem]) <;> simp [ofCopyL]) (by (simp only [ofCopyL, go_sem, entH, entH1, nilArr, obOK]) <;> simp [ofCopyL]) (by simp [injR, apart]) (by simp [coverR, usH]) (by simp [hNm, lkR, names])⟩
    rintro _ _
    simp only [go_sem, hG, hOw]
  · simp only [go_sem, hG, hOw]
    (repeat' with_reducible first | refine And.intro ?_ ?_ | intro _ | refine exP ?_ ?_); all_goals try omega
    rw [if_neg h]
    exact Subs.tup (.cons (.nil _ _) (.cons (.refl _) .nil))
open Go Pm
set_option maxHeartbeats 4000000
set_option maxRecDepth 100000
theorem copy_row (x : ByteArray) : (⟨#[99, 111, 112, 121, 32]⟩ : ByteArray) ++ x = joinS [copyS, x] := by
  rw [join_two]
  refine ba_ext ?_
  simp [ByteArray.data_append, copyS]
theorem omitS_row (x : ByteArray) : (⟨#[111, 109, 105, 116]⟩ : ByteArray) ++ ⟨#[32]⟩ ++ x = joinS [omitS, x] := by
  rw [join_two]
  refine ba_ext ?_
  simp [ByteArray.data_append, omitS]
theorem putS_row (x : ByteArray) : (⟨#[112, 117, 116]⟩ : ByteArray) ++ ⟨#[32]⟩ ++ x = joinS [putS, x] := by
  rw [join_two]
  refine ba_ext ?_
  simp [ByteArray.data_append, putS]
theorem otherS_row (x : ByteArray) : (⟨#[111, 116, 104, 101, 114]⟩ : ByteArray) ++ ⟨#[32]⟩ ++ x = joinS [otherS, x] := by
  rw [join_two]
  refine ba_ext ?_
  simp [ByteArray.data_append, otherS]
theorem good_word {r : Rd} (h : GoodR r) : ((r.kind.toNat : Int) = 1 → r.word = ⟨#[]⟩) ∧ (¬ (r.kind.toNat : Int) = 1 → ¬ r.word = ⟨#[]⟩) := by
  rcases h with ⟨h, h2⟩ | ⟨h, h2⟩ | ⟨h, h2⟩
  · exact ⟨fun _ => h2, fun h' => absurd h h'⟩
  · refine ⟨fun h' => by omega, fun _ e => ?_⟩
    rw [e] at h2; revert h2; decide
  · refine ⟨fun h' => by omega, fun _ e => ?_⟩
    rw [e] at h2; revert h2; decide
theorem ROfCopy_ok (t : List Ch) (hok : OKt t) (c : Cp) (hn0 : c.rds.length ≤ 1000) (hw : ∀ r ∈ c.rds, r.word.size ≤ 100000) : Gives Tryz.prog 16 [txE 0 t, cpE 0 c] (fun n => .tup [strs n (if copyE t c = 0 then ofCopyL c else []), i64 (copyE t c)]) := by
  refine pure_intro (ow := fun i => [21].contains i) Tryz.func16 Tryz.ntmps16 rfl (by kernel_rfl) (by simp) rfl (by decide) fun G hG hOw hNm hB => ?_; simp only [go_sem, hG, hOw]
  refine call_pureA (RCheckCopy_ok t hok c hn0 hw) ?_
  by_cases h : copyE t c = 0
  · have ht : textB t = true := by
      cases ht : textB t with
      | true => rfl
      | false => simp [copyE, ht] at h
    have hc : copyB t c = true := by
      cases hc : copyB t c with
      | true => rfl
      | false => simp [copyE, ht, hc] at h
    obtain ⟨hid, hn, hO⟩ := copyB_inv ht hc
    have hsz := numB_size hid.1 hid.2
    have h5 : (#[99, 111, 112, 121, 32] : Array UInt8).size = 5 := rfl
    have hs1 : (#[32] : Array UInt8).size = 1 := rfl
    rw [h, if_pos rfl]
    simp only [go_sem, hG, hOw]
    (repeat' with_reducible first | refine And.intro ?_ ?_ | intro _ | refine exP ?_ ?_); all_goals try omega
    refine call_pureA (RNumber_i c.id hid.1 hid.2) ?_
    simp (maxSteps := 2000000) only [go_sem, hG, hOw, copy_row]
    (repeat' with_reducible first | refine And.intro ?_ ?_ | intro _ | refine exP ?_ ?_); all_goals try omega
    all_goals try (simp; omega)
    refine semC_cut (fun _ : Unit => St.of [(7, .own 100 0 (ofCopyL c).length 1)] [(100, .arr 9 1 ((ofCopyL c).map strE))]) (fun _ => True) ?_ ?_
    · refine semC_loop (fun i : Nat => St.of [(3, .ptr 3 0), (7, .own 100 0 (joinS [copyS, numB c.id] :: (c.rds.take i).map rowC).length 1), (8, i64 i)] [(3, .box (cpC 0 c)), (100, .arr 9 1 ((joinS [copyS, numB c.id] :: (c.rds.take i).map rowC).map strE))]) (fun i => i ≤ c.rds.length) (fun i => c.rds.length - i) 0 (by simp) (ent_of [(3, some 3), (100, some 21)] (by (simp only [List.take_zero,List.map_nil,strE, go_sem]) <;> simp [List.take_zero, List.map_nil, strE]) (by (simp only [List.take_zero,List.map_nil,strE, go_sem, entH, entH1, nilArr, obOK]) <;> simp [List.take_zero, List.map_nil, strE]) (by simp [injR, apart]) (by simp [coverR, usH]) (by simp [hNm, lkR, names])) ?_
      rintro i hi
      by_cases hil : i < c.rds.length
      · have hlt : (i : Int) < c.rds.length := by omega
        obtain ⟨hI, hG2⟩ := hO.i _ (List.getElem_mem hil)
        obtain ⟨ha, hb, hd⟩ := inP9 hI
        have hws := good_size hG2
        obtain ⟨hgw1, hgw2⟩ := good_word hG2
        have hats := at_size _ _ _ ha hb hd
        have hats' := hats
        unfold atS at hats'
        have hstep := ofCopy_step c i hil
        obtain ⟨U, hU⟩ : ∃ U, U = (joinS [copyS, numB c.id] :: (c.rds.take i).map rowC) := ⟨_, rfl⟩
        rw [← hU] at hstep ⊢
        have hUl : U.length ≤ 30 := by rw [hU]; simp; omega
        have i1 : Int.toNat 1 = 1 := rfl
        have i2 : Int.toNat 2 = 2 := rfl
        have i3 : Int.toNat 3 = 3 := rfl
        have hUi : U.length = i + 1 := by rw [hU]; simp; omega
        have hmin : min (i + 1) c.rds.length = U.length := by omega
        have hq : [V.v (Value.string (joinS [copyS, numB c.id]))] :: List.map strE (List.map rowC (List.take (i + 1) c.rds)) = List.map strE U ++ [[V.v (Value.string (rowC c.rds[i]))]] := by
          have := congrArg (List.map strE) hstep
          rw [List.map_append] at this
          exact this
        refine vc_sound _ _ _ ?_; simp (maxSteps := 2000000) only [go_sem, hG, hOw, decide_eq_true hlt]
        (repeat' with_reducible first | refine And.intro ?_ ?_ | intro _ | refine exP ?_ ?_); all_goals try omega
        refine semC_draw0 mixed (by kernel_rfl) ?_
        rcases good_kind hG2 with hk | hk | hk
        · have hz := hgw1 hk
          have hrow : rowC c.rds[i] = if c.rds[i].word = ⟨#[]⟩ then joinS [omitS, atS c.rds[i].ch c.rds[i].ln c.rds[i].wd] else joinS [omitS, atS c.rds[i].ch c.rds[i].ln c.rds[i].wd] ++ (⟨#[32]⟩ ++ c.rds[i].word) := by
            unfold rowC; rw [hk]; rfl
          rw [if_pos hz] at hrow
          unfold atS at hrow
          have hjs : (joinS [omitS, joinS [numB c.rds[i].ch, numB c.rds[i].ln, numB c.rds[i].wd]]).size ≤ 40 := by
            rw [join_size]
            have h := join_le 15 [omitS, joinS [numB c.rds[i].ch, numB c.rds[i].ln, numB c.rds[i].wd]] fun s hs => by
              simp only [List.mem_cons, List.not_mem_nil, or_false] at hs
              rcases hs with rfl | rfl
              · decide
              · exact hats'
            simp at h
            simp
            omega
          have hl9 : (#[111, 109, 105, 116] : Array UInt8).size = 4 := rfl
          simp (maxSteps := 2000000) only [go_sem, hG, hOw, hk, i1, i2, i3, Nat.reduceMul, List.drop_succ_cons, List.drop_zero]
          (repeat' with_reducible first | refine And.intro ?_ ?_ | intro _ | refine exP ?_ ?_); all_goals try omega
          all_goals try (simp; omega)
          refine ⟨_, callGivesA (RAt_ok c.rds[i].ch c.rds[i].ln c.rds[i].wd ha hb hd), ?_⟩
          simp (maxSteps := 2000000) only [go_sem, hG, hOw, omitS_row, hk]
          (repeat' with_reducible first | refine And.intro ?_ ?_ | intro _ | refine exP ?_ ?_); all_goals try omega
          all_goals try (simp; omega)
          refine ⟨i + 1, by omega, by omega, ?_⟩
          exact ent_of [(3, some 3), (100, some 54)] (by (simp only [hq,hmin,hrow, go_sem]) <;> simp [hq, hmin, hrow]) (by (simp only [hq,hmin,hrow, go_sem, entH, entH1, nilArr, obOK]) <;> simp [hq, hmin, hrow]) (by simp [injR, apart]) (by simp [coverR, usH]) (by simp [hNm, lkR, names])
        · have hz := hgw2 (by omega)
          have hrow : rowC c.rds[i] = if c.rds[i].word = ⟨#[]⟩ then joinS [putS, atS c.rds[i].ch c.rds[i].ln c.rds[i].wd] else joinS [putS, atS c.rds[i].ch c.rds[i].ln c.rds[i].wd] ++ (⟨#[32]⟩ ++ c.rds[i].word) := by
            unfold rowC; rw [hk]; rfl
          rw [if_neg hz] at hrow
          unfold atS at hrow
          have hjs : (joinS [putS, joinS [numB c.rds[i].ch, numB c.rds[i].ln, numB c.rds[i].wd]]).size ≤ 40 := by
            rw [join_size]
            have h := join_le 15 [putS, joinS [numB c.rds[i].ch, numB c.rds[i].ln, numB c.rds[i].wd]] fun s hs => by
              simp only [List.mem_cons, List.not_mem_nil, or_false] at hs
              rcases hs with rfl | rfl
              · decide
              · exact hats'
            simp at h
            simp
            omega
          have hl9 : (#[112, 117, 116] : Array UInt8).size = 3 := rfl
          simp (maxSteps := 2000000) only [go_sem, hG, hOw, hk, i1, i2, i3, Nat.reduceMul, List.drop_succ_cons, List.drop_zero]
          (repeat' with_reducible first | refine And.intro ?_ ?_ | intro _ | refine exP ?_ ?_); all_goals try omega
          all_goals try (simp; omega)
          refine ⟨_, callGivesA (RAt_ok c.rds[i].ch c.rds[i].ln c.rds[i].wd ha hb hd), ?_⟩
          simp (maxSteps := 2000000) only [go_sem, hG, hOw, putS_row, hk]
          (repeat' with_reducible first | refine And.intro ?_ ?_ | intro _ | refine exP ?_ ?_); all_goals try omega
          all_goals try (simp; omega)
          refine ⟨i + 1, by omega, by omega, ?_⟩
          exact ent_of [(3, some 3), (100, some 54)] (by (simp only [hq,hmin,hrow, go_sem]) <;> simp [hq, hmin, hrow]) (by (simp only [hq,hmin,hrow, go_sem, entH, entH1, nilArr, obOK]) <;> simp [hq, hmin, hrow]) (by simp [injR, apart]) (by simp [coverR, usH]) (by simp [hNm, lkR, names])
        · have hz := hgw2 (by omega)
          have hrow : rowC c.rds[i] = if c.rds[i].word = ⟨#[]⟩ then joinS [otherS, atS c.rds[i].ch c.rds[i].ln c.rds[i].wd] else joinS [otherS, atS c.rds[i].ch c.rds[i].ln c.rds[i].wd] ++ (⟨#[32]⟩ ++ c.rds[i].word) := by
            unfold rowC; rw [hk]; rfl
          rw [if_neg hz] at hrow
          unfold atS at hrow
          have hjs : (joinS [otherS, joinS [numB c.rds[i].ch, numB c.rds[i].ln, numB c.rds[i].wd]]).size ≤ 40 := by
            rw [join_size]
            have h := join_le 15 [otherS, joinS [numB c.rds[i].ch, numB c.rds[i].ln, numB c.rds[i].wd]] fun s hs => by
              simp only [List.mem_cons, List.not_mem_nil, or_false] at hs
              rcases hs with rfl | rfl
              · decide
              · exact hats'
            simp at h
            simp
            omega
          have hl9 : (#[111, 116, 104, 101, 114] : Array UInt8).size = 5 := rfl
          simp (maxSteps := 2000000) only [go_sem, hG, hOw, hk, i1, i2, i3, Nat.reduceMul, List.drop_succ_cons, List.drop_zero]
          (repeat' with_reducible first | refine And.intro ?_ ?_ | intro _ | refine exP ?_ ?_); all_goals try omega
          all_goals try (simp; omega)
          refine ⟨_, callGivesA (RAt_ok c.rds[i].ch c.rds[i].ln c.rds[i].wd ha hb hd), ?_⟩
          simp (maxSteps := 2000000) only [go_sem, hG, hOw, otherS_row, hk]
          (repeat' with_reducible first | refine And.intro ?_ ?_ | intro _ | refine exP ?_ ?_); all_goals try omega
          all_goals try (simp; omega)
          refine ⟨i + 1, by omega, by omega, ?_⟩
          exact ent_of [(3, some 3), (100, some 54)] (by (simp only [hq,hmin,hrow, go_sem]) <;> simp [hq, hmin, hrow]) (by (simp only [hq,hmin,hrow, go_sem, entH, entH1, nilArr, obOK]) <;> simp [hq, hmin, hrow]) (by simp [injR, apart]) (by simp [coverR, usH]) (by simp [hNm, lkR, names])
      · have hi2 : i = c.rds.length := by omega
        subst hi2
        refine vc_sound _ _ _ ?_; simp only [go_sem, hG, hOw]
        (repeat' with_reducible first | refine And.intro ?_ ?_ | intro _ | refine exP ?_ ?_); all_goals try omega
        exact ⟨(), ent_of [(100, some 100)] (by (simp only [ofCopyL, go_sem]) <;> simp [ofCopyL]) (by (simp only [ofCopyL, go_sem, entH, entH1, nilArr, obOK]) <;> simp [ofCopyL]) (by simp [injR, apart]) (by simp [coverR, usH]) (by simp [hNm, lkR, names])⟩
    rintro _ _
    simp only [go_sem, hG, hOw]
  · simp only [go_sem, hG, hOw]
    (repeat' with_reducible first | refine And.intro ?_ ?_ | intro _ | refine exP ?_ ?_); all_goals try omega
    rw [if_neg h]
    exact Subs.tup (.cons (.nil _ _) (.cons (.refl _) .nil))
end Go.Proofs.YtphadkcpgnkpfaaGreatDoor
