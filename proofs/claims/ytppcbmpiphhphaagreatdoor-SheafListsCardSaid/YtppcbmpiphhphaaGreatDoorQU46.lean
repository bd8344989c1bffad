import Derived.Test.YtppcbmpiphhphaaGreatDoorQU37
import Derived.Test.YtppcbmpiphhphaaGreatDoorQU38
import Derived.Test.YtppcbmpiphhphaaGreatDoorQU42
namespace Go.Proofs.YtppcbmpiphhphaaGreatDoor
open Go Pm
set_option linter.unusedSimpArgs false
set_option linter.unusedVariables false
set_option maxHeartbeats 4000000
set_option maxRecDepth 100000
theorem join_3 (a b c : ByteArray) : joinS [a, b, c] = a ++ (⟨#[32]⟩ ++ (b ++ (⟨#[32]⟩ ++ c))) := by
  have := join_snoc [a, b] c (by simp)
  rw [show [a, b] ++ [c] = [a, b, c] from rfl] at this
  rw [this, join_two]
  simp only [ByteArray.append_assoc]
theorem join_4 (a b c d : ByteArray) : joinS [a, b, c, d] = a ++ (⟨#[32]⟩ ++ (b ++ (⟨#[32]⟩ ++ (c ++ (⟨#[32]⟩ ++ d))))) := by
  have := join_snoc [a, b, c] d (by simp)
  rw [show [a, b, c] ++ [d] = [a, b, c, d] from rfl] at this
  rw [this, join_3]
  simp only [ByteArray.append_assoc]
theorem rhead_ok (stem : ByteArray) (mark : UInt8) (hs : stem.size ≤ 1000) : Gives Tryz.prog 49 [.agg [str stem, u8 mark]] (fun _ => .v (.string (⟨#[32]⟩ ++ stem ++ ⟨#[32]⟩ ++ numB mark.toNat))) := by
  have hm : mark.toNat < 256 := mark.toNat_lt
  have hI := RNumber_i mark.toNat (by omega) (by omega)
  have hsz := numB_size (n := mark.toNat) (by omega) (by omega)
  have hs1 : (#[32] : Array UInt8).size = 1 := rfl
  refine pure_intro (ow := fun _ => false) Tryz.func49 Tryz.ntmps49 rfl (by kernel_rfl) (by simp) rfl (by decide) fun G hG hOw hNm hB => ?_; simp only [go_sem, hG, hOw]
  refine semC_draw0 mixed (by kernel_rfl) ?_
  simp only [go_sem, hG, hOw]
  (repeat' with_reducible first | refine And.intro ?_ ?_ | intro _ | refine exP ?_ ?_); all_goals try omega
  all_goals try (simp; omega)
  refine ⟨_, callGives hI (by first | exact Subs.refl _ | (repeat' (first | exact Subs.nil | exact Sub.refl _ | exact Sub.lo (Nat.zero_le _) | refine Subs.cons ?_ ?_ | refine Subs.agg ?_ | refine Subs.fp ?_ | refine Subs.tup ?_ | refine Sub.map (Nat.zero_le _) (fun _ => ?_)))) (by first | rfl | simp [allP, all0, pureV, pure0, *]), ?_⟩
  simp only [go_sem, hG, hOw]
  (repeat' with_reducible first | refine And.intro ?_ ?_ | intro _ | refine exP ?_ ?_); all_goals try omega
  all_goals try (simp; omega)
theorem ROfLexicon_ok (t : List Ch) (hok : OKt t) (x : Lx) (hb : bdX x) : Gives Tryz.prog 16 [txE 0 t, lxE 0 x] (fun n => .tup [strs n (if lexEr t x = 0 then ofLexL x else []), i64 (lexEr t x)]) := by
  have hC := RLexCheck_ok t hok x hb
  by_cases he : lexEr t x = 0
  · rw [he] at hC
    rw [he, if_pos rfl]
    have hv : textB t = true ∧ lexB t x = true := by
      unfold lexEr at he
      split at he
      · split at he
        · exact ⟨by assumption, by assumption⟩
        · cases he
      · cases he
    obtain ⟨ht, hlx⟩ := hv
    have hx := hlx
    unfold lexB at hx
    simp only [Bool.and_eq_true, decide_eq_true_eq] at hx
    obtain ⟨⟨⟨hr12, hd20⟩, hrs⟩, hds⟩ := hx
    have hRv : ∀ r ∈ x.rules, VRl r := fun r hr => rule_v (List.all_eq_true.1 hrs r hr)
    have hs1 : (#[32] : Array UInt8).size = 1 := rfl
    refine pure_intro (ow := fun _ => false) Tryz.func16 Tryz.ntmps16 rfl (by kernel_rfl) (by simp) rfl (by decide) fun G hG hOw hNm hB => ?_; simp only [go_sem, hG, hOw]
    refine call_pure hC (by first | exact Subs.refl _ | (repeat' (first | exact Subs.nil | exact Sub.refl _ | exact Sub.lo (Nat.zero_le _) | refine Subs.cons ?_ ?_ | refine Subs.agg ?_ | refine Subs.fp ?_ | refine Subs.tup ?_ | refine Sub.map (Nat.zero_le _) (fun _ => ?_)))) (by first | rfl | simp [allP, all0, pureV, pure0, *]) (by simp [chk, hG]) ?_
    simp only [go_sem, hG, hOw]
    (repeat' with_reducible first | refine And.intro ?_ ?_ | intro _ | refine exP ?_ ?_); all_goals try omega
    refine semC_cut (fun _ : Unit => St.of [(3, .ptr 3 0), (7, .own 100 0 (x.rules.map rowRl).length 1)] [(3, .box (lxC 0 x)), (100, .arr 9 1 ((x.rules.map rowRl).map strE))]) (fun _ => True) ?_ ?_
    · refine semC_loop (fun k : Nat => St.of [(3, .ptr 3 0), (7, .own 100 0 ((x.rules.take k).map rowRl).length 1), (8, i64 k)] [(3, .box (lxC 0 x)), (100, .arr 9 1 (((x.rules.take k).map rowRl).map strE))]) (fun k => k ≤ x.rules.length) (fun k => x.rules.length - k) 0 (by simp) (ent_of [(3, some 3), (100, none)] (by (simp only [List.take_zero,List.map_nil,List.length_nil, go_sem]) <;> simp [List.take_zero, List.map_nil, List.length_nil]) (by (simp only [List.take_zero,List.map_nil,List.length_nil, go_sem, entH, entH1, nilArr, obOK]) <;> simp [List.take_zero, List.map_nil, List.length_nil]) (by simp [injR, apart]) (by simp [coverR, usH]) (by simp [hNm, lkR, names])) ?_
      rintro k hk
      by_cases hkl : k < x.rules.length
      · have hlt : (k : Int) < x.rules.length := by omega
        obtain ⟨r, hr⟩ : ∃ r, r = x.rules[k] := ⟨_, rfl⟩
        obtain ⟨v1, v2, v3⟩ := hRv r (by rw [hr]; exact List.getElem_mem hkl)
        have hstep : (x.rules.take (k + 1)).map rowRl = (x.rules.take k).map rowRl ++ [rowRl r] := by rw [take_snoc_map rowRl x.rules k hkl, hr]
        obtain ⟨U, hU⟩ : ∃ U, U = (x.rules.take k).map rowRl := ⟨_, rfl⟩
        have hUl : U.length ≤ 1000 := by rw [hU]; simp; omega
        have hmin : min (k + 1) x.rules.length = U.length + 1 := by rw [hU]; simp; omega
        rw [← hU] at hstep ⊢
        have hstep2 : List.map strE (List.map rowRl (x.rules.take (k + 1))) = List.map strE U ++ [[.v (.string (rowRl r))]] := by rw [hstep, List.map_append]; rfl
        have hlen2 : (List.map rowRl (x.rules.take (k + 1))).length = U.length + 1 := by rw [hstep]; simp
        have hns := numB_size v3.1 v3.2
        have hc4 : (#[99, 117, 116, 32] : Array UInt8).size = 4 := rfl
        have hcs : (⟨#[99, 117, 116, 32]⟩ : ByteArray) = cutS ++ ⟨#[32]⟩ := by decide
        refine vc_sound _ _ _ ?_
        by_cases hp : r.put = ⟨#[]⟩
        · have hrow : rowRl r = ⟨#[99, 117, 116, 32]⟩ ++ r.cut ++ ⟨#[32]⟩ ++ numB r.least := by
            unfold rowRl; rw [if_pos hp, join_two, join_two, hcs]; simp only [ByteArray.append_assoc]
          simp (maxSteps := 2000000) only [go_sem, hG, hOw, hlt,← hr,decide_eq_true hp,hp]
          (repeat' with_reducible first | refine And.intro ?_ ?_ | intro _ | refine exP ?_ ?_); all_goals try omega
          all_goals try (simp; omega)
          refine call_pureA (RNumber_i r.least v3.1 v3.2) ?_
          simp only [go_sem, hG, hOw]
          (repeat' with_reducible first | refine And.intro ?_ ?_ | intro _ | refine exP ?_ ?_); all_goals try omega
          all_goals try (simp; omega)
          exact ⟨k + 1, by omega, by omega, ent_of [(3, some 3), (100, some 61)] (by (simp only [hstep2,hlen2,hmin,hrow, go_sem]) <;> simp [hstep2, hlen2, hmin, hrow]) (by (simp only [hstep2,hlen2,hmin,hrow, go_sem, entH, entH1, nilArr, obOK]) <;> simp [hstep2, hlen2, hmin, hrow]) (by simp [injR, apart]) (by simp [coverR, usH]) (by simp [hNm, lkR, names])⟩
        · have hrow : rowRl r = ⟨#[99, 117, 116, 32]⟩ ++ r.cut ++ (⟨#[32]⟩ ++ r.put) ++ ⟨#[32]⟩ ++ numB r.least := by
            unfold rowRl; rw [if_neg hp, join_two, join_two, join_two, hcs]; simp only [ByteArray.append_assoc]
          simp (maxSteps := 2000000) only [go_sem, hG, hOw, hlt,← hr,decide_eq_false hp,Bool.not_false]
          (repeat' with_reducible first | refine And.intro ?_ ?_ | intro _ | refine exP ?_ ?_); all_goals try omega
          all_goals try (simp; omega)
          refine call_pureA (RNumber_i r.least v3.1 v3.2) ?_
          simp only [go_sem, hG, hOw]
          (repeat' with_reducible first | refine And.intro ?_ ?_ | intro _ | refine exP ?_ ?_); all_goals try omega
          all_goals try (simp; omega)
          exact ⟨k + 1, by omega, by omega, ent_of [(3, some 3), (100, some 61)] (by (simp only [hstep2,hlen2,hmin,hrow, go_sem]) <;> simp [hstep2, hlen2, hmin, hrow]) (by (simp only [hstep2,hlen2,hmin,hrow, go_sem, entH, entH1, nilArr, obOK]) <;> simp [hstep2, hlen2, hmin, hrow]) (by simp [injR, apart]) (by simp [coverR, usH]) (by simp [hNm, lkR, names])⟩
      · have hlt : ¬ (k : Int) < x.rules.length := by omega
        have hke : k = x.rules.length := by omega
        subst hke
        rw [List.take_length]
        refine vc_sound _ _ _ ?_
        simp (maxSteps := 2000000) only [go_sem, hG, hOw, hlt]
        try (repeat' with_reducible first | refine And.intro ?_ ?_ | intro _ | refine exP ?_ ?_); all_goals try omega
        exact ⟨(), entA [(3, some 3), (100, some 100)]⟩
    · rintro _ _
      have hDv : ∀ d ∈ x.decs, VDc d := fun d hd => dec_v ht (decs_all hds d hd)
      simp only [go_sem, hG, hOw]
      (repeat' with_reducible first | refine And.intro ?_ ?_ | intro _ | refine exP ?_ ?_); all_goals try omega
      refine semC_loop (fun k : Nat => St.of [(3, .ptr 3 0), (7, .own 100 0 (ofLexK x k).length 1), (10, i64 k)] [(3, .box (lxC 0 x)), (100, .arr 9 1 ((ofLexK x k).map strE))]) (fun k => k ≤ x.decs.length) (fun k => x.decs.length - k) 0 (by simp) (by unfold ofLexK; exact entA [(3, some 3), (100, some 100)] (by (simp only [go_sem]) <;> simp [List.take_zero,List.map_nil,List.append_nil]) (by (simp only [go_sem, entH, entH1, nilArr, obOK]) <;> simp [List.take_zero,List.map_nil,List.append_nil])) ?_
      rintro k hk
      by_cases hkl : k < x.decs.length
      · have hlt : (k : Int) < x.decs.length := by omega
        obtain ⟨d, hd⟩ : ∃ d, d = x.decs[k] := ⟨_, rfl⟩
        obtain ⟨v1, v2, v3, v4, ⟨v5, v6, v7⟩, v8⟩ := hDv d (by rw [hd]; exact List.getElem_mem hkl)
        have hstep := ofLexK_step x k hkl
        rw [← hd] at hstep
        have hUl0 : (ofLexK x k).length = x.rules.length + k := by unfold ofLexK; simp; omega
        obtain ⟨U, hU⟩ : ∃ U, U = ofLexK x k := ⟨_, rfl⟩
        rw [← hU] at hstep hUl0 ⊢
        have hstep2 : List.map strE (ofLexK x (k + 1)) = List.map strE U ++ [[.v (.string (rowDc d))]] := by rw [hstep, List.map_append]; rfl
        have hlen2 : (ofLexK x (k + 1)).length = U.length + 1 := by rw [hstep]; simp
        have hns := numB_size v2.1 v2.2
        have hmk := numB_size (n := d.mark.toNat) (by omega) (by have := d.mark.toNat_lt; omega)
        have hats := at_size _ _ _ v5 v6 v7
        unfold atS at hats
        have hof := numB_size v8.1 v8.2
        have z1 : (#[102, 111, 114, 109] : Array UInt8).size = 4 := rfl
        have z2 : (#[102, 114, 111, 109] : Array UInt8).size = 4 := rfl
        have z3 : (#[112, 108, 97, 99, 101] : Array UInt8).size = 5 := rfl
        have z4 : (#[118, 111, 105, 100] : Array UInt8).size = 4 := rfl
        refine vc_sound _ _ _ ?_
        simp (maxSteps := 2000000) only [go_sem, hG, hOw, hlt,← hd]
        (repeat' with_reducible first | refine And.intro ?_ ?_ | intro _ | refine exP ?_ ?_); all_goals try omega
        refine call_pureA (RNumber_i d.num v2.1 v2.2) ?_
        rcases v1 with hk1 | hk1 | hk1 | hk1
        · have hrow : rowDc d = ⟨#[102, 111, 114, 109]⟩ ++ (⟨#[32]⟩ ++ numB d.num) ++ ⟨#[32]⟩ ++ d.form ++ (⟨#[32]⟩ ++ d.stem ++ ⟨#[32]⟩ ++ numB d.mark.toNat) := by
            have e : rowDc d = joinS (joinS [formS, numB d.num] :: [d.form, undS d.stem d.mark]) := by unfold rowDc fmP fmN; rw [hk1]; rfl
            rw [e]
            simp only [join_two, join_3, join_4, atS, undS, formS, ByteArray.append_assoc]
          simp (maxSteps := 2000000) only [go_sem, hG, hOw, hk1]
          (repeat' with_reducible first | refine And.intro ?_ ?_ | intro _ | refine exP ?_ ?_); all_goals try omega
          all_goals try (simp; omega)
          refine semC_draw0 mixed (by kernel_rfl) ?_
          simp only [go_sem, hG, hOw]
          (repeat' with_reducible first | refine And.intro ?_ ?_ | intro _ | refine exP ?_ ?_); all_goals try omega
          all_goals try (simp; omega)
          refine ⟨_, callGivesA (rhead_ok d.stem d.mark (by omega)), ?_⟩
          simp only [go_sem, hG, hOw]
          (repeat' with_reducible first | refine And.intro ?_ ?_ | intro _ | refine exP ?_ ?_); all_goals try omega
          all_goals try (simp; omega)
          exact ⟨k + 1, by omega, by omega, ent_of [(3, some 3), (100, some 132)] (by (simp only [hstep2,hlen2,hrow, go_sem]) <;> simp [hstep2, hlen2, hrow]) (by (simp only [hstep2,hlen2,hrow, go_sem, entH, entH1, nilArr, obOK]) <;> simp [hstep2, hlen2, hrow]) (by simp [injR, apart]) (by simp [coverR, usH]) (by simp [hNm, lkR, names])⟩
        · have hrow : rowDc d = ⟨#[102, 114, 111, 109]⟩ ++ (⟨#[32]⟩ ++ numB d.num) ++ ⟨#[32]⟩ ++ joinS [numB d.ch, numB d.ln, numB d.wd] ++ ⟨#[32]⟩ ++ d.form ++ (⟨#[32]⟩ ++ d.stem ++ ⟨#[32]⟩ ++ numB d.mark.toNat) := by
            have e : rowDc d = joinS (joinS [fromS, numB d.num] :: [atS d.ch d.ln d.wd, d.form, undS d.stem d.mark]) := by unfold rowDc fmP fmN; rw [hk1]; rfl
            rw [e]
            simp only [join_two, join_3, join_4, atS, undS, fromS, ByteArray.append_assoc]
          simp (maxSteps := 2000000) only [go_sem, hG, hOw, hk1]
          (repeat' with_reducible first | refine And.intro ?_ ?_ | intro _ | refine exP ?_ ?_); all_goals try omega
          all_goals try (simp; omega)
          refine semC_draw0 mixed (by kernel_rfl) ?_
          simp only [go_sem, hG, hOw]
          (repeat' with_reducible first | refine And.intro ?_ ?_ | intro _ | refine exP ?_ ?_); all_goals try omega
          all_goals try (simp; omega)
          refine ⟨_, callGivesA (RAt_ok d.ch d.ln d.wd v5 v6 v7), ?_⟩
          simp only [go_sem, hG, hOw]
          (repeat' with_reducible first | refine And.intro ?_ ?_ | intro _ | refine exP ?_ ?_); all_goals try omega
          all_goals try (simp; omega)
          refine ⟨_, callGivesA (rhead_ok d.stem d.mark (by omega)), ?_⟩
          simp only [go_sem, hG, hOw]
          (repeat' with_reducible first | refine And.intro ?_ ?_ | intro _ | refine exP ?_ ?_); all_goals try omega
          all_goals try (simp; omega)
          exact ⟨k + 1, by omega, by omega, ent_of [(3, some 3), (100, some 132)] (by (simp only [hstep2,hlen2,hrow, go_sem]) <;> simp [hstep2, hlen2, hrow]) (by (simp only [hstep2,hlen2,hrow, go_sem, entH, entH1, nilArr, obOK]) <;> simp [hstep2, hlen2, hrow]) (by simp [injR, apart]) (by simp [coverR, usH]) (by simp [hNm, lkR, names])⟩
        · have hrow : rowDc d = ⟨#[112, 108, 97, 99, 101]⟩ ++ (⟨#[32]⟩ ++ numB d.num) ++ ⟨#[32]⟩ ++ joinS [numB d.ch, numB d.ln, numB d.wd] ++ (⟨#[32]⟩ ++ d.stem ++ ⟨#[32]⟩ ++ numB d.mark.toNat) := by
            have e : rowDc d = joinS (joinS [plcS, numB d.num] :: [atS d.ch d.ln d.wd, undS d.stem d.mark]) := by unfold rowDc fmP fmN; rw [hk1]; rfl
            rw [e]
            simp only [join_two, join_3, join_4, atS, undS, plcS, ByteArray.append_assoc]
          simp (maxSteps := 2000000) only [go_sem, hG, hOw, hk1]
          (repeat' with_reducible first | refine And.intro ?_ ?_ | intro _ | refine exP ?_ ?_); all_goals try omega
          all_goals try (simp; omega)
          refine semC_draw0 mixed (by kernel_rfl) ?_
          simp only [go_sem, hG, hOw]
          (repeat' with_reducible first | refine And.intro ?_ ?_ | intro _ | refine exP ?_ ?_); all_goals try omega
          all_goals try (simp; omega)
          refine ⟨_, callGivesA (RAt_ok d.ch d.ln d.wd v5 v6 v7), ?_⟩
          simp only [go_sem, hG, hOw]
          (repeat' with_reducible first | refine And.intro ?_ ?_ | intro _ | refine exP ?_ ?_); all_goals try omega
          all_goals try (simp; omega)
          refine ⟨_, callGivesA (rhead_ok d.stem d.mark (by omega)), ?_⟩
          simp only [go_sem, hG, hOw]
          (repeat' with_reducible first | refine And.intro ?_ ?_ | intro _ | refine exP ?_ ?_); all_goals try omega
          all_goals try (simp; omega)
          exact ⟨k + 1, by omega, by omega, ent_of [(3, some 3), (100, some 132)] (by (simp only [hstep2,hlen2,hrow, go_sem]) <;> simp [hstep2, hlen2, hrow]) (by (simp only [hstep2,hlen2,hrow, go_sem, entH, entH1, nilArr, obOK]) <;> simp [hstep2, hlen2, hrow]) (by simp [injR, apart]) (by simp [coverR, usH]) (by simp [hNm, lkR, names])⟩
        · have hrow : rowDc d = ⟨#[118, 111, 105, 100]⟩ ++ (⟨#[32]⟩ ++ numB d.num) ++ ⟨#[32]⟩ ++ numB d.of := by
            have e : rowDc d = joinS (joinS [voidS, numB d.num] :: [numB d.of]) := by unfold rowDc fmP fmN; rw [hk1]; rfl
            rw [e]
            simp only [join_two, join_3, join_4, atS, undS, voidS, ByteArray.append_assoc]
          simp (maxSteps := 2000000) only [go_sem, hG, hOw, hk1]
          (repeat' with_reducible first | refine And.intro ?_ ?_ | intro _ | refine exP ?_ ?_); all_goals try omega
          all_goals try (simp; omega)
          refine call_pureA (RNumber_i d.of v8.1 v8.2) ?_
          simp only [go_sem, hG, hOw]
          (repeat' with_reducible first | refine And.intro ?_ ?_ | intro _ | refine exP ?_ ?_); all_goals try omega
          all_goals try (simp; omega)
          exact ⟨k + 1, by omega, by omega, ent_of [(3, some 3), (100, some 132)] (by (simp only [hstep2,hlen2,hrow, go_sem]) <;> simp [hstep2, hlen2, hrow]) (by (simp only [hstep2,hlen2,hrow, go_sem, entH, entH1, nilArr, obOK]) <;> simp [hstep2, hlen2, hrow]) (by simp [injR, apart]) (by simp [coverR, usH]) (by simp [hNm, lkR, names])⟩
      · have hlt : ¬ (k : Int) < x.decs.length := by omega
        have hke : k = x.decs.length := by omega
        subst hke
        refine vc_sound _ _ _ ?_
        simp (maxSteps := 2000000) only [go_sem, hG, hOw, hlt]
        try (repeat' with_reducible first | refine And.intro ?_ ?_ | intro _ | refine exP ?_ ?_); all_goals try omega
        have e : ofLexK x x.decs.length = ofLexL x := by unfold ofLexK ofLexL; rw [List.take_length]
        rw [e]
        exact Sub.refl _
  · rw [if_neg he]
    refine pure_intro (ow := fun _ => false) Tryz.func16 Tryz.ntmps16 rfl (by kernel_rfl) (by simp) rfl (by decide) fun G hG hOw hNm hB => ?_; simp only [go_sem, hG, hOw]
    refine call_pure hC (by first | exact Subs.refl _ | (repeat' (first | exact Subs.nil | exact Sub.refl _ | exact Sub.lo (Nat.zero_le _) | refine Subs.cons ?_ ?_ | refine Subs.agg ?_ | refine Subs.fp ?_ | refine Subs.tup ?_ | refine Sub.map (Nat.zero_le _) (fun _ => ?_)))) (by first | rfl | simp [allP, all0, pureV, pure0, *]) (by simp [chk, hG]) ?_
    simp (maxSteps := 2000000) only [go_sem, hG, hOw, he]
    (repeat' with_reducible first | refine And.intro ?_ ?_ | intro _ | refine exP ?_ ?_); all_goals try omega
    exact Subs.tup (.cons (.nil _ _) (.cons (.refl _) .nil))
end Go.Proofs.YtppcbmpiphhphaaGreatDoor
