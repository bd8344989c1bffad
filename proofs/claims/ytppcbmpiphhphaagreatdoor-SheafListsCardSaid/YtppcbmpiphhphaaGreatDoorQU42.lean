import Derived.Test.YtppcbmpiphhphaaGreatDoorQU28
import Derived.Test.YtppcbmpiphhphaaGreatDoorQU29
import Derived.Test.YtppcbmpiphhphaaGreatDoorQU35
import Derived.Test.YtppcbmpiphhphaaGreatDoorQU51
import Derived.Test.YtppcbmpiphhphaaGreatDoorQU38
namespace Go.Proofs.YtppcbmpiphhphaaGreatDoor
open Go Pm
set_option linter.unusedSimpArgs false
set_option linter.unusedVariables false
set_option maxHeartbeats 4000000
set_option maxRecDepth 100000
def formS : ByteArray := ⟨#[102, 111, 114, 109]⟩
def fromS : ByteArray := ⟨#[102, 114, 111, 109]⟩
def plcS : ByteArray := ⟨#[112, 108, 97, 99, 101]⟩
def voidS : ByteArray := ⟨#[118, 111, 105, 100]⟩
def cutS : ByteArray := ⟨#[99, 117, 116]⟩
def undS (stem : ByteArray) (mark : UInt8) : ByteArray := joinS [stem, numB mark.toNat]
def rowRl (r : Rl) : ByteArray := joinS [(if r.put = ⟨#[]⟩ then joinS [cutS, r.cut] else joinS [joinS [cutS, r.cut], r.put]), numB r.least]
def fmN (k : Int) : ByteArray := if k = 1 then formS else if k = 2 then fromS else if k = 3 then plcS else if k = 4 then voidS else ⟨#[]⟩
def fmP (d : Dc) : List ByteArray := if (d.kind.toNat : Int) = 1 then [d.form, undS d.stem d.mark] else if (d.kind.toNat : Int) = 2 then [atS d.ch d.ln d.wd, d.form, undS d.stem d.mark]
  else if (d.kind.toNat : Int) = 3 then [atS d.ch d.ln d.wd, undS d.stem d.mark] else [numB d.of]
def rowDc (d : Dc) : ByteArray := joinS (joinS [fmN d.kind.toNat, numB d.num] :: fmP d)
def ofLexL (x : Lx) : List ByteArray := x.rules.map rowRl ++ x.decs.map rowDc
theorem under_ok (stem : ByteArray) (mark : UInt8) (hs : stem.size ≤ 1000) : Gives Tryz.prog 204 [.agg [str stem, u8 mark]] (fun _ => str (undS stem mark)) := by
  have hm : mark.toNat < 256 := mark.toNat_lt
  have hI := Itoa_ok mark.toNat (by omega) (by omega)
  have hsz := numB_size (n := mark.toNat) (by omega) (by omega)
  have hW := written_ok stem [numB mark.toNat] (by simp) (by simp) (by omega) (by simp; omega)
  refine pure_intro (ow := fun i => [9,1000009].contains i) Tryz.func204 Tryz.ntmps204 rfl (by kernel_rfl) (by simp) rfl (by decide) fun G hG hOw hNm hB => ?_; simp only [go_sem, hG, hOw]
  refine semC_draw ⟨[9], [], []⟩ [(0, false), (1, false), (2, false), (3, false), (4, false), (5, false), (6, false), (7, true), (8, false)] mixed (by kernel_rfl) ?_
  simp only [pickO, List.getElem?_cons_zero, List.getElem?_cons_succ]
  simp only [go_sem, hG, hOw]
  refine ⟨by omega, ?_⟩
  refine ⟨_, callGives hI (by first | exact Subs.refl _ | (repeat' (first | exact Subs.nil | exact Sub.refl _ | exact Sub.lo (Nat.zero_le _) | refine Subs.cons ?_ ?_ | refine Subs.agg ?_ | refine Subs.fp ?_ | refine Subs.tup ?_ | refine Sub.map (Nat.zero_le _) (fun _ => ?_)))) (by first | rfl | simp [allP, all0, pureV, pure0, *]), ?_⟩
  simp only [go_sem, hG, hOw]
  refine call_tri [(0, 9)] [] (hW) (by (simp only [go_sem]) <;> simp) (by (simp only [go_sem, entH, entH1, nilArr, obOK]) <;> simp) (by simp [injR, apart, toR]) (by simp [coverR, usH, toR]) (by simp [uniqP, lkR, toR]) (by simp [chk, hG]) ?_
  simp only [go_sem, hG, hOw]
  try (repeat' with_reducible first | refine And.intro ?_ ?_ | intro _ | refine exP ?_ ?_); all_goals try omega
  rfl
theorem forms1_ok (d : Dc) (hs : d.stem.size ≤ 1000) : Tri Tryz.prog 203 [.agg (dcC d)] [] (fun _ => .ret (.own 5 0 2 1) [(5, .box (strC [d.form, undS d.stem d.mark]))]) := by
  refine tri_intro (fun i => [8,1000008].contains i) Tryz.func203 Tryz.ntmps203 rfl (by kernel_rfl) (by simp) rfl (by decide) fun G hG hOw hNm => ?_; simp only [go_sem, hG, hOw]
  refine semC_draw0 mixed (by kernel_rfl) ?_
  simp only [go_sem, hG, hOw]
  refine ⟨_, callGivesA (under_ok d.stem d.mark hs), ?_⟩
  simp only [go_sem, hG, hOw]
  try (repeat' with_reducible first | refine And.intro ?_ ?_ | intro _ | refine exP ?_ ?_); all_goals try omega
  exact ⟨[(5, some 8)], by (simp only [EndT, go_sem, entH, entH1, nilArr, obOK, apart, injR, coverR]) <;> simp [strC,strE,str]⟩
theorem forms3_ok (d : Dc) (hs : d.stem.size ≤ 1000) (h1 : in9 d.ch) (h2 : in9 d.ln) (h3 : in9 d.wd) : Tri Tryz.prog 207 [.agg (dcC d)] [] (fun _ => .ret (.own 5 0 3 1) [(5, .box (strC [atS d.ch d.ln d.wd, d.form, undS d.stem d.mark]))]) := by
  refine tri_intro (fun i => [11,1000011].contains i) Tryz.func207 Tryz.ntmps207 rfl (by kernel_rfl) (by simp) rfl (by decide) fun G hG hOw hNm => ?_; simp only [go_sem, hG, hOw]
  refine semC_draw0 mixed (by kernel_rfl) ?_
  simp only [go_sem, hG, hOw]
  refine ⟨_, callGivesA (at_ok d.ch d.ln d.wd h1 h2 h3), ?_⟩
  simp only [go_sem, hG, hOw]
  refine ⟨_, callGivesA (under_ok d.stem d.mark hs), ?_⟩
  simp only [go_sem, hG, hOw]
  try (repeat' with_reducible first | refine And.intro ?_ ?_ | intro _ | refine exP ?_ ?_); all_goals try omega
  exact ⟨[(5, some 11)], by (simp only [EndT, go_sem, entH, entH1, nilArr, obOK, apart, injR, coverR]) <;> simp [strC,strE,str]⟩
theorem forms5_ok (d : Dc) (hs : d.stem.size ≤ 1000) (h1 : in9 d.ch) (h2 : in9 d.ln) (h3 : in9 d.wd) : Tri Tryz.prog 209 [.agg (dcC d)] [] (fun _ => .ret (.own 5 0 2 1) [(5, .box (strC [atS d.ch d.ln d.wd, undS d.stem d.mark]))]) := by
  refine tri_intro (fun i => [9,1000009].contains i) Tryz.func209 Tryz.ntmps209 rfl (by kernel_rfl) (by simp) rfl (by decide) fun G hG hOw hNm => ?_; simp only [go_sem, hG, hOw]
  refine semC_draw0 mixed (by kernel_rfl) ?_
  simp only [go_sem, hG, hOw]
  refine ⟨_, callGivesA (at_ok d.ch d.ln d.wd h1 h2 h3), ?_⟩
  simp only [go_sem, hG, hOw]
  refine ⟨_, callGivesA (under_ok d.stem d.mark hs), ?_⟩
  simp only [go_sem, hG, hOw]
  try (repeat' with_reducible first | refine And.intro ?_ ?_ | intro _ | refine exP ?_ ?_); all_goals try omega
  exact ⟨[(5, some 9)], by (simp only [EndT, go_sem, entH, entH1, nilArr, obOK, apart, injR, coverR]) <;> simp [strC,strE,str]⟩
theorem forms7_ok (d : Dc) (h : in9 d.of) : Tri Tryz.prog 211 [.agg (dcC d)] [] (fun _ => .ret (.own 5 0 1 1) [(5, .box (strC [numB d.of]))]) := by
  refine tri_intro (fun i => [6,1000006].contains i) Tryz.func211 Tryz.ntmps211 rfl (by kernel_rfl) (by simp) rfl (by decide) fun G hG hOw hNm => ?_; simp only [go_sem, hG, hOw]
  refine call_pureA (Itoa_ok d.of h.1 h.2) ?_
  simp only [go_sem, hG, hOw]
  try (repeat' with_reducible first | refine And.intro ?_ ?_ | intro _ | refine exP ?_ ?_); all_goals try omega
  exact ⟨[(5, some 6)], by (simp only [EndT, go_sem, entH, entH1, nilArr, obOK, apart, injR, coverR]) <;> simp [strC,strE,str]⟩
open Go Pm
set_option maxHeartbeats 4000000
set_option maxRecDepth 100000
structure VRl (r : Rl) : Prop where
  cut : r.cut.size ≤ 12
  put : r.put.size ≤ 12
  least : in9 r.least
theorem rule_v {r : Rl} (h : ruleB r = true) : VRl r := by
  simp only [ruleB, lettersB, inB, Bool.and_eq_true, decide_eq_true_eq] at h
  obtain ⟨⟨⟨h1, h2⟩, _⟩, h3⟩ := h
  exact ⟨by omega, by omega, by omega, by omega⟩
structure VDc (d : Dc) : Prop where
  kind : (d.kind.toNat : Int) = 1 ∨ (d.kind.toNat : Int) = 2 ∨ (d.kind.toNat : Int) = 3 ∨ (d.kind.toNat : Int) = 4
  num : in9 d.num
  form : d.form.size ≤ 12
  stem : d.stem.size ≤ 12
  pl : in9 d.ch ∧ in9 d.ln ∧ in9 d.wd
  of : in9 d.of
theorem join2_size (a b : ByteArray) : (joinS [a, b]).size = a.size + (1 + b.size) := by
  rw [join_two, ByteArray.size_append, ByteArray.size_append]; rfl
theorem place_in9 {t : List Ch} (ht : textB t = true) {a b w : Int} (h : placeT t a b w = true) : in9 a ∧ in9 b ∧ in9 w := by
  have hok := okB_of ht
  unfold placeT at h
  cases hl : lineO t a b with
  | none => rw [hl] at h; cases h
  | some l =>
    rw [hl] at h
    simp only at h
    have h3 := inB_iff.1 h
    have h4 := lineO_len hok hl
    unfold lineO at hl
    split at hl
    · rename_i hab
      obtain ⟨ha, hb⟩ := hab
      simp only [Option.bind_eq_some_iff] at hl
      obtain ⟨c, h1, h2⟩ := hl
      obtain ⟨q1, e1⟩ := List.getElem?_eq_some_iff.1 h1
      obtain ⟨q2, _⟩ := List.getElem?_eq_some_iff.1 h2
      have hc := (hok.2 c (List.mem_of_getElem? h1)).1
      have ht1 := hok.1
      exact ⟨⟨ha, by omega⟩, ⟨hb, by omega⟩, by omega, by omega⟩
    · cases hl
theorem dec_v {t : List Ch} (ht : textB t = true) {d : Dc} (h : decB t d = true) : VDc d := by
  unfold decB at h
  rw [Bool.and_eq_true] at h
  obtain ⟨h1, h2⟩ := h
  have hn := inB_iff.1 h1
  have hw : ∀ s : ByteArray, wordB s = true → s.size ≤ 12 := fun s hs => (wordB_size hs).2
  have hh : headB d.stem d.mark = true → d.stem.size ≤ 12 := fun hs => by
    unfold headB at hs
    rw [Bool.and_eq_true] at hs
    exact hw _ hs.1
  have z9 : in9 0 := ⟨by omega, by omega⟩
  have e0 : ∀ s : ByteArray, s = ⟨#[]⟩ → s.size ≤ 12 := by rintro s rfl; decide
  unfold decK at h2
  split at h2
  · rename_i hk
    simp only [Bool.and_eq_true, at0B, decide_eq_true_eq] at h2
    obtain ⟨a, ⟨b1, b2, b3⟩, c, e⟩ := h2
    exact ⟨Or.inl hk, ⟨by omega, by omega⟩, hw _ a, hh c, by rw [b1, b2, b3]; exact ⟨z9, z9, z9⟩, by rw [e]; exact z9⟩
  split at h2
  · rename_i hk
    simp only [Bool.and_eq_true, at0B, decide_eq_true_eq] at h2
    obtain ⟨a, b, c, e⟩ := h2
    exact ⟨Or.inr (Or.inl hk), ⟨by omega, by omega⟩, hw _ a, hh c, place_in9 ht b, by rw [e]; exact z9⟩
  split at h2
  · rename_i hk
    simp only [Bool.and_eq_true, at0B, decide_eq_true_eq] at h2
    obtain ⟨a, b, c, e⟩ := h2
    exact ⟨Or.inr (Or.inr (Or.inl hk)), ⟨by omega, by omega⟩, e0 _ a, hh c, place_in9 ht b, by rw [e]; exact z9⟩
  split at h2
  · rename_i hk
    simp only [Bool.and_eq_true, at0B, to0B, decide_eq_true_eq] at h2
    obtain ⟨a, ⟨b1, b2, b3⟩, ⟨c, c'⟩, e⟩ := h2
    have he := inB_iff.1 e
    exact ⟨Or.inr (Or.inr (Or.inr hk)), ⟨by omega, by omega⟩, e0 _ a, e0 _ c, by rw [b1, b2, b3]; exact ⟨z9, z9, z9⟩, ⟨by omega, by omega⟩⟩
  · cases h2
def ofLexK (x : Lx) (k : Nat) : List ByteArray := x.rules.map rowRl ++ (x.decs.take k).map rowDc
theorem ofLexK_step (x : Lx) (k : Nat) (hk : k < x.decs.length) : ofLexK x (k + 1) = ofLexK x k ++ [rowDc x.decs[k]] := by
  unfold ofLexK
  rw [take_snoc_map rowDc x.decs k hk, List.append_assoc]
theorem decs_all {t : List Ch} {l : List Dc} (h : allPre (numsB t) [] l = true) : ∀ d ∈ l, decB t d = true := by
  intro d hd
  cases hb : decB t d with
  | true => rfl
  | false =>
    obtain ⟨k, hk, rfl⟩ := List.mem_iff_getElem.1 hd
    rw [allPre_bad hk (by unfold numsB; rw [hb, Bool.and_false])] at h
    cases h
theorem OfLexicon_ok (t : List Ch) (x : Lx) (hb : (∀ r ∈ x.rules, bdR r) ∧ (∀ d ∈ x.decs, bdD d) ∧ x.rules.length ≤ 1000 ∧ x.decs.length ≤ 1000) : Gives Tryz.prog 15 [txE 0 t, lxE 0 x] (fun n => .tup [strs n (if lexEr t x = 0 then ofLexL x else []), i64 (lexEr t x)]) := by
  have hC := StCheck_ok t x hb
  by_cases he : lexEr t x = 0
  · rw [he] at hC
    rw [he, if_pos rfl]
    have hv : textB t = true ∧ lexB t x = true := by
      unfold lexEr at he
      split at he
      · split at he
        · exact ⟨by assumption, by assumption⟩
        · cases he
      · cases he
    obtain ⟨ht, hlx⟩ := hv
    have hx := hlx
    unfold lexB at hx
    simp only [Bool.and_eq_true, decide_eq_true_eq] at hx
    obtain ⟨⟨⟨hr12, hd20⟩, hrs⟩, hds⟩ := hx
    have hRv : ∀ r ∈ x.rules, VRl r := fun r hr => rule_v (List.all_eq_true.1 hrs r hr)
    refine pure_intro (ow := fun i => [28,36,43,64,1000028,1000036,1000043,1000064].contains i) Tryz.func15 Tryz.ntmps15 rfl (by kernel_rfl) (by simp) rfl (by decide) fun G hG hOw hNm hB => ?_; simp only [go_sem, hG, hOw]
    refine call_pure hC (by first | exact Subs.refl _ | (repeat' (first | exact Subs.nil | exact Sub.refl _ | exact Sub.lo (Nat.zero_le _) | refine Subs.cons ?_ ?_ | refine Subs.agg ?_ | refine Subs.fp ?_ | refine Subs.tup ?_ | refine Sub.map (Nat.zero_le _) (fun _ => ?_)))) (by first | rfl | simp [allP, all0, pureV, pure0, *]) (by simp [chk, hG]) ?_
    simp only [go_sem, hG, hOw]
    (repeat' with_reducible first | refine And.intro ?_ ?_ | intro _ | refine exP ?_ ?_); all_goals try omega
    refine semC_cut (fun _ : Unit => St.of [(3, .ptr 3 0), (7, .own 100 0 (x.rules.map rowRl).length 1)] [(3, .box (lxC 0 x)), (100, .arr 9 1 ((x.rules.map rowRl).map strE))]) (fun _ => True) ?_ ?_
    · refine semC_loop (fun k : Nat => St.of [(3, .ptr 3 0), (7, .own 100 0 ((x.rules.take k).map rowRl).length 1), (20, rls 0 x.rules), (21, i64 x.rules.length), (22, i64 k)] [(3, .box (lxC 0 x)), (100, .arr 9 1 (((x.rules.take k).map rowRl).map strE))]) (fun k => k ≤ x.rules.length) (fun k => x.rules.length - k) 0 (by simp) (ent_of [(3, some 3), (100, none)] (by (simp only [List.take_zero,List.map_nil,List.length_nil, go_sem]) <;> simp [List.take_zero, List.map_nil, List.length_nil]) (by (simp only [List.take_zero,List.map_nil,List.length_nil, go_sem, entH, entH1, nilArr, obOK]) <;> simp [List.take_zero, List.map_nil, List.length_nil]) (by simp [injR, apart]) (by simp [coverR, usH]) (by simp [hNm, lkR, names])) ?_
      rintro k hk
      by_cases hkl : k < x.rules.length
      · have hlt : (k : Int) < x.rules.length := by omega
        obtain ⟨r, hr⟩ : ∃ r, r = x.rules[k] := ⟨_, rfl⟩
        obtain ⟨v1, v2, v3⟩ := hRv r (by rw [hr]; exact List.getElem_mem hkl)
        have hstep : (x.rules.take (k + 1)).map rowRl = (x.rules.take k).map rowRl ++ [rowRl r] := by rw [take_snoc_map rowRl x.rules k hkl, hr]
        obtain ⟨U, hU⟩ : ∃ U, U = (x.rules.take k).map rowRl := ⟨_, rfl⟩
        have hUl : U.length ≤ 1000 := by rw [hU]; simp; omega
        rw [← hU] at hstep ⊢
        have hstep2 : List.map strE (List.map rowRl (x.rules.take (k + 1))) = List.map strE U ++ [[.v (.string (rowRl r))]] := by rw [hstep, List.map_append]; rfl
        have hlen2 : (List.map rowRl (x.rules.take (k + 1))).length = U.length + 1 := by rw [hstep]; simp
        have hW1 := written_ok cutS [r.cut] (by simp) (by simp) (by decide) (by simp; omega)
        have hc3 : cutS.size = 3 := rfl
        have hj1 : (joinS [cutS, r.cut]).size ≤ 100 := by rw [join2_size]; omega
        have hj2 : (joinS [joinS [cutS, r.cut], r.put]).size ≤ 200 := by rw [join2_size]; omega
        have hmin : min (k + 1) x.rules.length = U.length + 1 := by rw [hU]; simp; omega
        have hW2 := written_ok (joinS [cutS, r.cut]) [r.put] (by simp) (by simp) (by omega) (by simp; omega)
        have hns := numB_size v3.1 v3.2
        refine vc_sound _ _ _ ?_
        simp (maxSteps := 2000000) only [go_sem, hG, hOw, hlt,← hr]
        (repeat' with_reducible first | refine And.intro ?_ ?_ | intro _ | refine exP ?_ ?_); all_goals try omega
        refine call_tri [(0, 28)] [] (hW1) (by (simp only [go_sem]) <;> simp [cutS]) (by (simp only [go_sem, entH, entH1, nilArr, obOK]) <;> simp [cutS]) (by simp [injR, apart, toR]) (by simp [coverR, usH, toR, cutS]) (by simp [uniqP, lkR, toR]) (by simp [chk, hG]) ?_
        by_cases hp : r.put = ⟨#[]⟩
        · have hW3 := written_ok (joinS [cutS, r.cut]) [numB r.least] (by simp) (by simp) (by omega) (by simp; omega)
          have hrow : rowRl r = joinS [joinS [cutS, r.cut], numB r.least] := by unfold rowRl; rw [if_pos hp]
          simp (maxSteps := 2000000) only [go_sem, hG, hOw, decide_eq_true hp,hp]
          (repeat' with_reducible first | refine And.intro ?_ ?_ | intro _ | refine exP ?_ ?_); all_goals try omega
          refine call_pureA (Itoa_ok r.least v3.1 v3.2) ?_
          simp only [go_sem, hG, hOw]
          (repeat' with_reducible first | refine And.intro ?_ ?_ | intro _ | refine exP ?_ ?_); all_goals try omega
          refine call_tri [(0, 43)] [] (hW3) (by (simp only [go_sem]) <;> simp) (by (simp only [go_sem, entH, entH1, nilArr, obOK]) <;> simp) (by simp [injR, apart, toR]) (by simp [coverR, usH, toR]) (by simp [uniqP, lkR, toR]) (by simp [chk, hG]) ?_
          simp only [go_sem, hG, hOw]
          (repeat' with_reducible first | refine And.intro ?_ ?_ | intro _ | refine exP ?_ ?_); all_goals try omega
          exact ⟨k + 1, by omega, by omega, ent_of [(3, some 3), (100, some 46)] (by (simp only [hstep2,hlen2,hmin,hrow, go_sem]) <;> simp [hstep2, hlen2, hmin, hrow]) (by (simp only [hstep2,hlen2,hmin,hrow, go_sem, entH, entH1, nilArr, obOK]) <;> simp [hstep2, hlen2, hmin, hrow]) (by simp [injR, apart]) (by simp [coverR, usH]) (by simp [hNm, lkR, names])⟩
        · have hW3 := written_ok (joinS [joinS [cutS, r.cut], r.put]) [numB r.least] (by simp) (by simp) (by omega) (by simp; omega)
          have hrow : rowRl r = joinS [joinS [joinS [cutS, r.cut], r.put], numB r.least] := by unfold rowRl; rw [if_neg hp]
          simp (maxSteps := 2000000) only [go_sem, hG, hOw, decide_eq_false hp,Bool.not_false]
          (repeat' with_reducible first | refine And.intro ?_ ?_ | intro _ | refine exP ?_ ?_); all_goals try omega
          refine call_tri [(0, 36)] [] (hW2) (by (simp only [go_sem]) <;> simp) (by (simp only [go_sem, entH, entH1, nilArr, obOK]) <;> simp) (by simp [injR, apart, toR]) (by simp [coverR, usH, toR]) (by simp [uniqP, lkR, toR]) (by simp [chk, hG]) ?_
          simp only [go_sem, hG, hOw]
          (repeat' with_reducible first | refine And.intro ?_ ?_ | intro _ | refine exP ?_ ?_); all_goals try omega
          refine call_pureA (Itoa_ok r.least v3.1 v3.2) ?_
          simp only [go_sem, hG, hOw]
          (repeat' with_reducible first | refine And.intro ?_ ?_ | intro _ | refine exP ?_ ?_); all_goals try omega
          refine call_tri [(0, 43)] [] (hW3) (by (simp only [go_sem]) <;> simp) (by (simp only [go_sem, entH, entH1, nilArr, obOK]) <;> simp) (by simp [injR, apart, toR]) (by simp [coverR, usH, toR]) (by simp [uniqP, lkR, toR]) (by simp [chk, hG]) ?_
          simp only [go_sem, hG, hOw]
          (repeat' with_reducible first | refine And.intro ?_ ?_ | intro _ | refine exP ?_ ?_); all_goals try omega
          exact ⟨k + 1, by omega, by omega, ent_of [(3, some 3), (100, some 46)] (by (simp only [hstep2,hlen2,hmin,hrow, go_sem]) <;> simp [hstep2, hlen2, hmin, hrow]) (by (simp only [hstep2,hlen2,hmin,hrow, go_sem, entH, entH1, nilArr, obOK]) <;> simp [hstep2, hlen2, hmin, hrow]) (by simp [injR, apart]) (by simp [coverR, usH]) (by simp [hNm, lkR, names])⟩
      · have hlt : ¬ (k : Int) < x.rules.length := by omega
        have hke : k = x.rules.length := by omega
        subst hke
        rw [List.take_length]
        refine vc_sound _ _ _ ?_
        simp (maxSteps := 2000000) only [go_sem, hG, hOw, hlt]
        try (repeat' with_reducible first | refine And.intro ?_ ?_ | intro _ | refine exP ?_ ?_); all_goals try omega
        exact ⟨(), entA [(3, some 3), (100, some 100)]⟩
    · rintro _ _
      have hDv : ∀ d ∈ x.decs, VDc d := fun d hd => dec_v ht (decs_all hds d hd)
      simp only [go_sem, hG, hOw]
      (repeat' with_reducible first | refine And.intro ?_ ?_ | intro _ | refine exP ?_ ?_); all_goals try omega
      refine semC_loop (fun k : Nat => St.of [(3, .ptr 3 0), (7, .own 100 0 (ofLexK x k).length 1), (49, dcs 0 x.decs), (50, i64 x.decs.length), (51, i64 k)] [(3, .box (lxC 0 x)), (100, .arr 9 1 ((ofLexK x k).map strE))]) (fun k => k ≤ x.decs.length) (fun k => x.decs.length - k) 0 (by simp) (by unfold ofLexK; exact entA [(3, some 3), (100, some 100)] (by (simp only [go_sem]) <;> simp [List.take_zero,List.map_nil,List.append_nil]) (by (simp only [go_sem, entH, entH1, nilArr, obOK]) <;> simp [List.take_zero,List.map_nil,List.append_nil])) ?_
      rintro k hk
      by_cases hkl : k < x.decs.length
      · have hlt : (k : Int) < x.decs.length := by omega
        obtain ⟨d, hd⟩ : ∃ d, d = x.decs[k] := ⟨_, rfl⟩
        obtain ⟨v1, v2, v3, v4, ⟨v5, v6, v7⟩, v8⟩ := hDv d (by rw [hd]; exact List.getElem_mem hkl)
        have hstep := ofLexK_step x k hkl
        rw [← hd] at hstep
        have hUl0 : (ofLexK x k).length = x.rules.length + k := by unfold ofLexK; simp; omega
        obtain ⟨U, hU⟩ : ∃ U, U = ofLexK x k := ⟨_, rfl⟩
        rw [← hU] at hstep hUl0 ⊢
        have hstep2 : List.map strE (ofLexK x (k + 1)) = List.map strE U ++ [[.v (.string (rowDc d))]] := by rw [hstep, List.map_append]; rfl
        have hlen2 : (ofLexK x (k + 1)).length = U.length + 1 := by rw [hstep]; simp
        have hns := numB_size v2.1 v2.2
        refine vc_sound _ _ _ ?_
        simp (maxSteps := 2000000) only [go_sem, hG, hOw, hlt,← hd]
        (repeat' with_reducible first | refine And.intro ?_ ?_ | intro _ | refine exP ?_ ?_); all_goals try omega
        have hu : (undS d.stem d.mark).size ≤ 1000 := by
          have hm : d.mark.toNat < 256 := d.mark.toNat_lt
          have := numB_size (n := d.mark.toNat) (by omega) (by omega)
          unfold undS; rw [join2_size]; omega
        have hats := at_size _ _ _ v5 v6 v7
        have hof := numB_size v8.1 v8.2
        rcases v1 with hk1 | hk1 | hk1 | hk1
        · have hrow : rowDc d = joinS (joinS [formS, numB d.num] :: [d.form, undS d.stem d.mark]) := by unfold rowDc fmP fmN; rw [if_pos hk1, if_pos hk1]
          have hj : (joinS [formS, numB d.num]).size ≤ 1000 := by rw [join2_size]; have : formS.size = 4 := rfl; omega
          have hW1 := written_ok formS [numB d.num] (by simp) (by simp) (by decide) (by simp; omega)
          have hW2 := written_ok (joinS [formS, numB d.num]) [d.form, undS d.stem d.mark] (by simp) (by simp) (by omega) (by simp; omega)
          have hF := forms1_ok d (by omega)
          have i1 : Int.toNat 1 = 1 := rfl
          refine semC_draw ⟨[64, 74, 75], [(65, [64]), (72, [572]), (73, [572])], [65, 72, 73]⟩ [(0, false), (1, false), (2, false), (3, false), (4, false), (5, false), (6, false), (7, false), (8, false), (9, false), (10, false), (11, false), (12, false), (13, false), (14, false), (15, false), (16, false), (17, false), (18, false), (19, false), (20, false), (21, false)] mixed (by kernel_rfl) ?_
          simp only [pickO, List.getElem?_cons_zero, List.getElem?_cons_succ]
          simp (maxSteps := 2000000) only [go_sem, hG, hOw, hk1,i1,Nat.reduceMul,List.drop_succ_cons,List.drop_zero]
          refine ⟨by omega, ?_⟩
          refine ⟨_, callGivesA (Itoa_ok d.num v2.1 v2.2), ?_⟩
          simp only [go_sem, hG, hOw]
          (repeat' with_reducible first | refine And.intro ?_ ?_ | intro _ | refine exP ?_ ?_); all_goals try omega
          refine ⟨_, callMod [(0, 64)] [] (hW1) (by (simp only [go_sem]) <;> simp [formS]) (by (simp only [go_sem, entH, entH1, nilArr, obOK]) <;> simp [formS]) (by simp [injR, apart, toR]) (by simp [coverR, usH, toR, formS]) (by simp [uniqP, lkR, toR]) rfl (by simp [tgt, nmHas]) (by simp [tgt, nmHas]) (by simp [upT, dropsR, outsR, keepR, usH, lkR, toR, nmHas, formS]) (by simp [newN, usH, tgt, go_sem]) (by simp [hasAll, keepR, usH, lkR, toR, formS]) (by simp [uniqN, usH, formS]), ?_⟩
          simp (maxSteps := 2000000) only [go_sem, hG, hOw, hk1,i1,Nat.reduceMul,List.drop_succ_cons,List.drop_zero]
          refine ⟨by omega, ?_⟩
          refine ⟨_, callNew [(5, 572)] (hF) (by (simp only [go_sem]) <;> simp [hk1]) rfl (by simp [tgt, nmHas]) (by simp [upT, dropsR, outsR, keepR, usH, lkR, toR, nmHas, hk1]) (by simp [newN, usH, tgt, go_sem]) (by simp [hasAll, keepR, usH, lkR, toR, hk1]) (by simp [uniqN, usH, hk1]), ?_⟩
          simp only [go_sem, hG, hOw]
          (repeat' with_reducible first | refine And.intro ?_ ?_ | intro _ | refine exP ?_ ?_); all_goals try omega
          refine ⟨_, callMod [(0, 572)] [] (hW2) (by (simp only [go_sem]) <;> simp) (by (simp only [go_sem, entH, entH1, nilArr, obOK]) <;> simp) (by simp [injR, apart, toR]) (by simp [coverR, usH, toR]) (by simp [uniqP, lkR, toR]) rfl (by simp [tgt, nmHas]) (by simp [tgt, nmHas]) (by simp [upT, dropsR, outsR, keepR, usH, lkR, toR, nmHas]) (by simp [newN, usH, tgt, go_sem]) (by simp [hasAll, keepR, usH, lkR, toR]) (by simp [uniqN, usH]), ?_⟩
          simp only [go_sem, hG, hOw]
          (repeat' with_reducible first | refine And.intro ?_ ?_ | intro _ | refine exP ?_ ?_); all_goals try omega
          exact ⟨k + 1, by omega, by omega, ent_of [(3, some 3), (100, some 75)] (by (simp only [hstep2,hlen2,hrow, go_sem]) <;> simp [hstep2, hlen2, hrow]) (by (simp only [hstep2,hlen2,hrow, go_sem, entH, entH1, nilArr, obOK]) <;> simp [hstep2, hlen2, hrow]) (by simp [injR, apart]) (by simp [coverR, usH]) (by simp [hNm, lkR, names])⟩
        · have hrow : rowDc d = joinS (joinS [fromS, numB d.num] :: [atS d.ch d.ln d.wd, d.form, undS d.stem d.mark]) := by unfold rowDc fmP fmN; rw [hk1]; rfl
          have hj : (joinS [fromS, numB d.num]).size ≤ 1000 := by rw [join2_size]; have : fromS.size = 4 := rfl; omega
          have hW1 := written_ok fromS [numB d.num] (by simp) (by simp) (by decide) (by simp; omega)
          have hW2 := written_ok (joinS [fromS, numB d.num]) [atS d.ch d.ln d.wd, d.form, undS d.stem d.mark] (by simp) (by simp) (by omega) (by simp; omega)
          have hF := forms3_ok d (by omega) v5 v6 v7
          have i1 : Int.toNat 2 = 2 := rfl
          refine semC_draw ⟨[64, 74, 75], [(65, [64]), (72, [572]), (73, [572])], [65, 72, 73]⟩ [(0, false), (1, false), (2, false), (3, false), (4, false), (5, false), (6, false), (7, false), (8, false), (9, false), (10, false), (11, false), (12, false), (13, false), (14, false), (15, false), (16, false), (17, false), (18, false), (19, false), (20, false), (21, false)] mixed (by kernel_rfl) ?_
          simp only [pickO, List.getElem?_cons_zero, List.getElem?_cons_succ]
          simp (maxSteps := 2000000) only [go_sem, hG, hOw, hk1,i1,Nat.reduceMul,List.drop_succ_cons,List.drop_zero]
          refine ⟨by omega, ?_⟩
          refine ⟨_, callGivesA (Itoa_ok d.num v2.1 v2.2), ?_⟩
          simp only [go_sem, hG, hOw]
          (repeat' with_reducible first | refine And.intro ?_ ?_ | intro _ | refine exP ?_ ?_); all_goals try omega
          refine ⟨_, callMod [(0, 64)] [] (hW1) (by (simp only [go_sem]) <;> simp [fromS]) (by (simp only [go_sem, entH, entH1, nilArr, obOK]) <;> simp [fromS]) (by simp [injR, apart, toR]) (by simp [coverR, usH, toR, fromS]) (by simp [uniqP, lkR, toR]) rfl (by simp [tgt, nmHas]) (by simp [tgt, nmHas]) (by simp [upT, dropsR, outsR, keepR, usH, lkR, toR, nmHas, fromS]) (by simp [newN, usH, tgt, go_sem]) (by simp [hasAll, keepR, usH, lkR, toR, fromS]) (by simp [uniqN, usH, fromS]), ?_⟩
          simp (maxSteps := 2000000) only [go_sem, hG, hOw, hk1,i1,Nat.reduceMul,List.drop_succ_cons,List.drop_zero]
          refine ⟨by omega, ?_⟩
          refine ⟨_, callNew [(5, 572)] (hF) (by (simp only [go_sem]) <;> simp [hk1]) rfl (by simp [tgt, nmHas]) (by simp [upT, dropsR, outsR, keepR, usH, lkR, toR, nmHas, hk1]) (by simp [newN, usH, tgt, go_sem]) (by simp [hasAll, keepR, usH, lkR, toR, hk1]) (by simp [uniqN, usH, hk1]), ?_⟩
          simp only [go_sem, hG, hOw]
          (repeat' with_reducible first | refine And.intro ?_ ?_ | intro _ | refine exP ?_ ?_); all_goals try omega
          refine ⟨_, callMod [(0, 572)] [] (hW2) (by (simp only [go_sem]) <;> simp) (by (simp only [go_sem, entH, entH1, nilArr, obOK]) <;> simp) (by simp [injR, apart, toR]) (by simp [coverR, usH, toR]) (by simp [uniqP, lkR, toR]) rfl (by simp [tgt, nmHas]) (by simp [tgt, nmHas]) (by simp [upT, dropsR, outsR, keepR, usH, lkR, toR, nmHas]) (by simp [newN, usH, tgt, go_sem]) (by simp [hasAll, keepR, usH, lkR, toR]) (by simp [uniqN, usH]), ?_⟩
          simp only [go_sem, hG, hOw]
          (repeat' with_reducible first | refine And.intro ?_ ?_ | intro _ | refine exP ?_ ?_); all_goals try omega
          exact ⟨k + 1, by omega, by omega, ent_of [(3, some 3), (100, some 75)] (by (simp only [hstep2,hlen2,hrow, go_sem]) <;> simp [hstep2, hlen2, hrow]) (by (simp only [hstep2,hlen2,hrow, go_sem, entH, entH1, nilArr, obOK]) <;> simp [hstep2, hlen2, hrow]) (by simp [injR, apart]) (by simp [coverR, usH]) (by simp [hNm, lkR, names])⟩
        · have hrow : rowDc d = joinS (joinS [plcS, numB d.num] :: [atS d.ch d.ln d.wd, undS d.stem d.mark]) := by unfold rowDc fmP fmN; rw [hk1]; rfl
          have hj : (joinS [plcS, numB d.num]).size ≤ 1000 := by rw [join2_size]; have : plcS.size = 5 := rfl; omega
          have hW1 := written_ok plcS [numB d.num] (by simp) (by simp) (by decide) (by simp; omega)
          have hW2 := written_ok (joinS [plcS, numB d.num]) [atS d.ch d.ln d.wd, undS d.stem d.mark] (by simp) (by simp) (by omega) (by simp; omega)
          have hF := forms5_ok d (by omega) v5 v6 v7
          have i1 : Int.toNat 3 = 3 := rfl
          refine semC_draw ⟨[64, 74, 75], [(65, [64]), (72, [572]), (73, [572])], [65, 72, 73]⟩ [(0, false), (1, false), (2, false), (3, false), (4, false), (5, false), (6, false), (7, false), (8, false), (9, false), (10, false), (11, false), (12, false), (13, false), (14, false), (15, false), (16, false), (17, false), (18, false), (19, false), (20, false), (21, false)] mixed (by kernel_rfl) ?_
          simp only [pickO, List.getElem?_cons_zero, List.getElem?_cons_succ]
          simp (maxSteps := 2000000) only [go_sem, hG, hOw, hk1,i1,Nat.reduceMul,List.drop_succ_cons,List.drop_zero]
          refine ⟨by omega, ?_⟩
          refine ⟨_, callGivesA (Itoa_ok d.num v2.1 v2.2), ?_⟩
          simp only [go_sem, hG, hOw]
          (repeat' with_reducible first | refine And.intro ?_ ?_ | intro _ | refine exP ?_ ?_); all_goals try omega
          refine ⟨_, callMod [(0, 64)] [] (hW1) (by (simp only [go_sem]) <;> simp [plcS]) (by (simp only [go_sem, entH, entH1, nilArr, obOK]) <;> simp [plcS]) (by simp [injR, apart, toR]) (by simp [coverR, usH, toR, plcS]) (by simp [uniqP, lkR, toR]) rfl (by simp [tgt, nmHas]) (by simp [tgt, nmHas]) (by simp [upT, dropsR, outsR, keepR, usH, lkR, toR, nmHas, plcS]) (by simp [newN, usH, tgt, go_sem]) (by simp [hasAll, keepR, usH, lkR, toR, plcS]) (by simp [uniqN, usH, plcS]), ?_⟩
          simp (maxSteps := 2000000) only [go_sem, hG, hOw, hk1,i1,Nat.reduceMul,List.drop_succ_cons,List.drop_zero]
          refine ⟨by omega, ?_⟩
          refine ⟨_, callNew [(5, 572)] (hF) (by (simp only [go_sem]) <;> simp [hk1]) rfl (by simp [tgt, nmHas]) (by simp [upT, dropsR, outsR, keepR, usH, lkR, toR, nmHas, hk1]) (by simp [newN, usH, tgt, go_sem]) (by simp [hasAll, keepR, usH, lkR, toR, hk1]) (by simp [uniqN, usH, hk1]), ?_⟩
          simp only [go_sem, hG, hOw]
          (repeat' with_reducible first | refine And.intro ?_ ?_ | intro _ | refine exP ?_ ?_); all_goals try omega
          refine ⟨_, callMod [(0, 572)] [] (hW2) (by (simp only [go_sem]) <;> simp) (by (simp only [go_sem, entH, entH1, nilArr, obOK]) <;> simp) (by simp [injR, apart, toR]) (by simp [coverR, usH, toR]) (by simp [uniqP, lkR, toR]) rfl (by simp [tgt, nmHas]) (by simp [tgt, nmHas]) (by simp [upT, dropsR, outsR, keepR, usH, lkR, toR, nmHas]) (by simp [newN, usH, tgt, go_sem]) (by simp [hasAll, keepR, usH, lkR, toR]) (by simp [uniqN, usH]), ?_⟩
          simp only [go_sem, hG, hOw]
          (repeat' with_reducible first | refine And.intro ?_ ?_ | intro _ | refine exP ?_ ?_); all_goals try omega
          exact ⟨k + 1, by omega, by omega, ent_of [(3, some 3), (100, some 75)] (by (simp only [hstep2,hlen2,hrow, go_sem]) <;> simp [hstep2, hlen2, hrow]) (by (simp only [hstep2,hlen2,hrow, go_sem, entH, entH1, nilArr, obOK]) <;> simp [hstep2, hlen2, hrow]) (by simp [injR, apart]) (by simp [coverR, usH]) (by simp [hNm, lkR, names])⟩
        · have hrow : rowDc d = joinS (joinS [voidS, numB d.num] :: [numB d.of]) := by unfold rowDc fmP fmN; rw [hk1]; rfl
          have hj : (joinS [voidS, numB d.num]).size ≤ 1000 := by rw [join2_size]; have : voidS.size = 4 := rfl; omega
          have hW1 := written_ok voidS [numB d.num] (by simp) (by simp) (by decide) (by simp; omega)
          have hW2 := written_ok (joinS [voidS, numB d.num]) [numB d.of] (by simp) (by simp) (by omega) (by simp; omega)
          have hF := forms7_ok d v8
          have i1 : Int.toNat 4 = 4 := rfl
          refine semC_draw ⟨[64, 74, 75], [(65, [64]), (72, [572]), (73, [572])], [65, 72, 73]⟩ [(0, false), (1, false), (2, false), (3, false), (4, false), (5, false), (6, false), (7, false), (8, false), (9, false), (10, false), (11, false), (12, false), (13, false), (14, false), (15, false), (16, false), (17, false), (18, false), (19, false), (20, false), (21, false)] mixed (by kernel_rfl) ?_
          simp only [pickO, List.getElem?_cons_zero, List.getElem?_cons_succ]
          simp (maxSteps := 2000000) only [go_sem, hG, hOw, hk1,i1,Nat.reduceMul,List.drop_succ_cons,List.drop_zero]
          refine ⟨by omega, ?_⟩
          refine ⟨_, callGivesA (Itoa_ok d.num v2.1 v2.2), ?_⟩
          simp only [go_sem, hG, hOw]
          (repeat' with_reducible first | refine And.intro ?_ ?_ | intro _ | refine exP ?_ ?_); all_goals try omega
          refine ⟨_, callMod [(0, 64)] [] (hW1) (by (simp only [go_sem]) <;> simp [voidS]) (by (simp only [go_sem, entH, entH1, nilArr, obOK]) <;> simp [voidS]) (by simp [injR, apart, toR]) (by simp [coverR, usH, toR, voidS]) (by simp [uniqP, lkR, toR]) rfl (by simp [tgt, nmHas]) (by simp [tgt, nmHas]) (by simp [upT, dropsR, outsR, keepR, usH, lkR, toR, nmHas, voidS]) (by simp [newN, usH, tgt, go_sem]) (by simp [hasAll, keepR, usH, lkR, toR, voidS]) (by simp [uniqN, usH, voidS]), ?_⟩
          simp (maxSteps := 2000000) only [go_sem, hG, hOw, hk1,i1,Nat.reduceMul,List.drop_succ_cons,List.drop_zero]
          refine ⟨by omega, ?_⟩
          refine ⟨_, callNew [(5, 572)] (hF) (by (simp only [go_sem]) <;> simp [hk1]) rfl (by simp [tgt, nmHas]) (by simp [upT, dropsR, outsR, keepR, usH, lkR, toR, nmHas, hk1]) (by simp [newN, usH, tgt, go_sem]) (by simp [hasAll, keepR, usH, lkR, toR, hk1]) (by simp [uniqN, usH, hk1]), ?_⟩
          simp only [go_sem, hG, hOw]
          (repeat' with_reducible first | refine And.intro ?_ ?_ | intro _ | refine exP ?_ ?_); all_goals try omega
          refine ⟨_, callMod [(0, 572)] [] (hW2) (by (simp only [go_sem]) <;> simp) (by (simp only [go_sem, entH, entH1, nilArr, obOK]) <;> simp) (by simp [injR, apart, toR]) (by simp [coverR, usH, toR]) (by simp [uniqP, lkR, toR]) rfl (by simp [tgt, nmHas]) (by simp [tgt, nmHas]) (by simp [upT, dropsR, outsR, keepR, usH, lkR, toR, nmHas]) (by simp [newN, usH, tgt, go_sem]) (by simp [hasAll, keepR, usH, lkR, toR]) (by simp [uniqN, usH]), ?_⟩
          simp only [go_sem, hG, hOw]
          (repeat' with_reducible first | refine And.intro ?_ ?_ | intro _ | refine exP ?_ ?_); all_goals try omega
          exact ⟨k + 1, by omega, by omega, ent_of [(3, some 3), (100, some 75)] (by (simp only [hstep2,hlen2,hrow, go_sem]) <;> simp [hstep2, hlen2, hrow]) (by (simp only [hstep2,hlen2,hrow, go_sem, entH, entH1, nilArr, obOK]) <;> simp [hstep2, hlen2, hrow]) (by simp [injR, apart]) (by simp [coverR, usH]) (by simp [hNm, lkR, names])⟩
      · have hlt : ¬ (k : Int) < x.decs.length := by omega
        have hke : k = x.decs.length := by omega
        subst hke
        refine vc_sound _ _ _ ?_
        simp (maxSteps := 2000000) only [go_sem, hG, hOw, hlt]
        try (repeat' with_reducible first | refine And.intro ?_ ?_ | intro _ | refine exP ?_ ?_); all_goals try omega
        have e : ofLexK x x.decs.length = ofLexL x := by unfold ofLexK ofLexL; rw [List.take_length]
        rw [e]
        exact Sub.refl _
  · rw [if_neg he]
    refine pure_intro (ow := fun _ => false) Tryz.func15 Tryz.ntmps15 rfl (by kernel_rfl) (by simp) rfl (by decide) fun G hG hOw hNm hB => ?_; simp only [go_sem, hG, hOw]
    refine call_pure hC (by first | exact Subs.refl _ | (repeat' (first | exact Subs.nil | exact Sub.refl _ | exact Sub.lo (Nat.zero_le _) | refine Subs.cons ?_ ?_ | refine Subs.agg ?_ | refine Subs.fp ?_ | refine Subs.tup ?_ | refine Sub.map (Nat.zero_le _) (fun _ => ?_)))) (by first | rfl | simp [allP, all0, pureV, pure0, *]) (by simp [chk, hG]) ?_
    simp (maxSteps := 2000000) only [go_sem, hG, hOw, he]
    (repeat' with_reducible first | refine And.intro ?_ ?_ | intro _ | refine exP ?_ ?_); all_goals try omega
    exact Subs.tup (.cons (.nil _ _) (.cons (.refl _) .nil))
open Go Pm
set_option maxHeartbeats 4000000
set_option maxRecDepth 100000
abbrev Rws := List ByteArray
def wordO : Rws → Option (ByteArray × Rws)
  | w :: r => if wordB w = true then some (w, r) else none
  | [] => none
def numO : Rws → Option (Int × Rws)
  | s :: r => (valueS s).map fun v => (v, r)
  | [] => none
def headO (l : Rws) : Option ((ByteArray × UInt8) × Rws) := match wordO l with
  | none => none
  | some (w, r) => match numO r with
    | none => none
    | some (n, r') => if n ≤ 255 then some ((w, UInt8.ofNat n.toNat), r') else none
def placeO (l : Rws) : Option ((Int × Int × Int) × Rws) := if placeB l = true then some ((nvS l 0, nvS l 1, nvS l 2), l.drop 3) else none
def SubR (r l : Rws) : Prop := (∀ x ∈ r, x ∈ l) ∧ r.length ≤ l.length
theorem SubR.refl (l : Rws) : SubR l l := ⟨fun _ h => h, Nat.le_refl _⟩
theorem SubR.trans {a b c : Rws} (h1 : SubR a b) (h2 : SubR b c) : SubR a c := ⟨fun x hx => h2.1 x (h1.1 x hx), Nat.le_trans h1.2 h2.2⟩
theorem SubR.size {r l : Rws} (h : SubR r l) (hl : ∀ s ∈ l, s.size ≤ 100000) : ∀ s ∈ r, s.size ≤ 100000 := fun s hs => hl s (h.1 s hs)
theorem wordO_inv {l : Rws} {w : ByteArray} {r : Rws} (h : wordO l = some (w, r)) : l = w :: r ∧ wordB w = true := by
  unfold wordO at h
  split at h
  · split at h
    · cases h; exact ⟨rfl, by assumption⟩
    · cases h
  · cases h
theorem wordO_sub {l : Rws} {w : ByteArray} {r : Rws} (h : wordO l = some (w, r)) : SubR r l := by
  obtain ⟨rfl, _⟩ := wordO_inv h
  exact ⟨fun x hx => List.mem_cons_of_mem _ hx, by simp⟩
theorem wordO_size {l : Rws} {w : ByteArray} {r : Rws} (h : wordO l = some (w, r)) : w.size ≤ 12 := (wordB_size (wordO_inv h).2).2
theorem numO_inv {l : Rws} {v : Int} {r : Rws} (h : numO l = some (v, r)) : ∃ s, l = s :: r ∧ valueS s = some v := by
  unfold numO at h
  split at h
  · simp only [Option.map_eq_some_iff, Prod.mk.injEq] at h
    obtain ⟨_, h1, rfl, rfl⟩ := h
    exact ⟨_, rfl, h1⟩
  · cases h
theorem numO_sub {l : Rws} {v : Int} {r : Rws} (h : numO l = some (v, r)) : SubR r l := by
  obtain ⟨s, rfl, _⟩ := numO_inv h
  exact ⟨fun x hx => List.mem_cons_of_mem _ hx, by simp⟩
theorem numO_in9 {l : Rws} {v : Int} {r : Rws} (h : numO l = some (v, r)) : in9 v := by
  obtain ⟨s, rfl, hv⟩ := numO_inv h
  obtain ⟨h1, h2, h3, h4⟩ := valueU_inv hv
  exact ⟨h2, h3⟩
theorem headO_inv {l r : Rws} {w : ByteArray} {m : UInt8} (h : headO l = some ((w, m), r)) : ∃ r1 n, wordO l = some (w, r1) ∧ numO r1 = some (n, r) ∧ n ≤ 255 ∧ m = UInt8.ofNat n.toNat := by
  unfold headO at h
  split at h
  · cases h
  · rename_i w' r' h1
    split at h
    · cases h
    · rename_i n r'' h2
      split at h
      · rename_i h3
        cases h
        exact ⟨r', n, h1, h2, h3, rfl⟩
      · cases h
theorem headO_sub {l r : Rws} {q : ByteArray × UInt8} (h : headO l = some (q, r)) : SubR r l := by
  obtain ⟨r1, n, h1, h2, _, _⟩ := headO_inv (w := q.1) (m := q.2) h
  exact (numO_sub h2).trans (wordO_sub h1)
theorem headO_size {l r : Rws} {q : ByteArray × UInt8} (h : headO l = some (q, r)) : q.1.size ≤ 12 := by
  obtain ⟨r1, n, h1, h2, _, _⟩ := headO_inv (w := q.1) (m := q.2) h
  exact wordO_size h1
theorem placeO_sub {l r : Rws} {q : Int × Int × Int} (h : placeO l = some (q, r)) : SubR r l := by
  unfold placeO at h
  split at h
  · cases h; exact ⟨fun x hx => List.mem_of_mem_drop hx, by simp⟩
  · cases h
theorem wordP (lo : Nat) (l : Rws) : Tri Tryz.prog 33 [.ptr 0 0] [(0, .box [strs lo l])] (fun _ => match wordO l with
    | some q => .ret (.v (.string q.1)) [(0, .box [strs lo q.2])]
    | none => .pan (wrV 111) []) := by
  cases l with
  | nil => exact word_no lo
  | cons w r =>
    cases h : wordB w with
    | true =>
      have e : wordO (w :: r) = some (w, r) := if_pos h
      rw [e]; exact word_yes lo w r h
    | false =>
      have e : wordO (w :: r) = none := if_neg (by rw [h]; decide)
      rw [e]; exact word_not lo w r h
theorem numP (lo : Nat) (l : Rws) (hl : ∀ s ∈ l, s.size ≤ 100000) : Tri Tryz.prog 53 [.ptr 0 0] [(0, .box [strs lo l])] (fun _ => match numO l with
    | some q => .ret (i64 q.1) [(0, .box [strs lo q.2])]
    | none => .pan (wrV 111) []) := by
  cases l with
  | nil => exact number_end lo
  | cons w r =>
    cases h : valueS w with
    | none =>
      have e : numO (w :: r) = none := by show (valueS w).map _ = _; rw [h]; rfl
      rw [e]; exact number_not lo w r (hl w (by simp)) h
    | some v =>
      have e : numO (w :: r) = some (v, r) := by show (valueS w).map _ = _; rw [h]; rfl
      rw [e]; exact number_yes lo w r v (hl w (by simp)) h
theorem placeP (lo : Nat) (l : Rws) (hl : ∀ s ∈ l, s.size ≤ 100000) : Tri Tryz.prog 32 [.ptr 0 0] [(0, .box [strs lo l])] (fun _ => match placeO l with
    | some q => .ret (.agg [i64 q.1.1, i64 q.1.2.1, i64 q.1.2.2]) [(0, .box [strs lo q.2])]
    | none => .pan (wrV 111) []) := by
  have h := place_tri lo l hl
  unfold placeO
  cases hp : placeB l with
  | true => rw [hp] at h; exact h
  | false => rw [hp] at h; exact h
theorem headP (lo : Nat) (l : Rws) (hl : ∀ s ∈ l, s.size ≤ 100000) : Tri Tryz.prog 206 [.ptr 0 0] [(0, .box [strs lo l])] (fun _ => match headO l with
    | some q => .ret (.agg [str q.1.1, u8 q.1.2]) [(0, .box [strs lo q.2])]
    | none => .pan (wrV 111) []) := by
  have hW := wordP lo l
  unfold headO
  cases h1 : wordO l with
  | none =>
    rw [h1] at hW
    simp only at hW ⊢
    refine tri_intro (fun _ => false) Tryz.func206 Tryz.ntmps206 rfl (by kernel_rfl) (by simp) rfl (by decide) fun G hG hOw hNm => ?_; simp only [go_sem, hG, hOw]
    refine call_tri [(0, 0)] [] (hW) (by (simp only [go_sem]) <;> simp) (by (simp only [go_sem, entH, entH1, nilArr, obOK]) <;> simp) (by simp [injR, apart, toR]) (by simp [coverR, usH, toR]) (by simp [uniqP, lkR, toR]) (by simp [chk, hG]) ?_
    simp only [go_sem, hG, hOw]
    exact ⟨rfl, ⟨[], by (simp only [EndT, go_sem, entH, entH1, nilArr, obOK, apart, injR, coverR]) <;> simp⟩⟩
  | some q =>
    obtain ⟨w, r⟩ := q
    rw [h1] at hW
    simp only at hW ⊢
    have hN := numP lo r ((wordO_sub h1).size hl)
    cases h2 : numO r with
    | none =>
      rw [h2] at hN
      simp only at hN ⊢
      refine tri_intro (fun _ => false) Tryz.func206 Tryz.ntmps206 rfl (by kernel_rfl) (by simp) rfl (by decide) fun G hG hOw hNm => ?_; simp only [go_sem, hG, hOw]
      refine call_tri [(0, 0)] [] (hW) (by (simp only [go_sem]) <;> simp) (by (simp only [go_sem, entH, entH1, nilArr, obOK]) <;> simp) (by simp [injR, apart, toR]) (by simp [coverR, usH, toR]) (by simp [uniqP, lkR, toR]) (by simp [chk, hG]) ?_
      simp only [go_sem, hG, hOw]
      (repeat' with_reducible first | refine And.intro ?_ ?_ | intro _ | refine exP ?_ ?_); all_goals try omega
      refine call_tri [(0, 0)] [] (hN) (by (simp only [go_sem]) <;> simp) (by (simp only [go_sem, entH, entH1, nilArr, obOK]) <;> simp) (by simp [injR, apart, toR]) (by simp [coverR, usH, toR]) (by simp [uniqP, lkR, toR]) (by simp [chk, hG]) ?_
      simp only [go_sem, hG, hOw]
      exact ⟨rfl, ⟨[], by (simp only [EndT, go_sem, entH, entH1, nilArr, obOK, apart, injR, coverR]) <;> simp⟩⟩
    | some q2 =>
      obtain ⟨n, r'⟩ := q2
      rw [h2] at hN
      simp only at hN ⊢
      obtain ⟨n0, n1⟩ := numO_in9 h2
      by_cases h3 : n ≤ 255
      · rw [if_pos h3]
        have hu : ((UInt8.ofNat n.toNat).toNat : Int) = n := by
          rw [UInt8.toNat_ofNat']; omega
        have hwr : IntKind.u8.wrap n = n := by have : IntKind.u8.wrap n = n % 256 := rfl; omega
        simp only
        refine tri_intro (fun _ => false) Tryz.func206 Tryz.ntmps206 rfl (by kernel_rfl) (by simp) rfl (by decide) fun G hG hOw hNm => ?_; simp only [go_sem, hG, hOw]
        refine call_tri [(0, 0)] [] (hW) (by (simp only [go_sem]) <;> simp) (by (simp only [go_sem, entH, entH1, nilArr, obOK]) <;> simp) (by simp [injR, apart, toR]) (by simp [coverR, usH, toR]) (by simp [uniqP, lkR, toR]) (by simp [chk, hG]) ?_
        simp only [go_sem, hG, hOw]
        (repeat' with_reducible first | refine And.intro ?_ ?_ | intro _ | refine exP ?_ ?_); all_goals try omega
        refine call_tri [(0, 0)] [] (hN) (by (simp only [go_sem]) <;> simp) (by (simp only [go_sem, entH, entH1, nilArr, obOK]) <;> simp) (by simp [injR, apart, toR]) (by simp [coverR, usH, toR]) (by simp [uniqP, lkR, toR]) (by simp [chk, hG]) ?_
        simp (maxSteps := 2000000) only [go_sem, hG, hOw, decide_eq_true h3]
        (repeat' with_reducible first | refine And.intro ?_ ?_ | intro _ | refine exP ?_ ?_); all_goals try omega
        refine call_tri [] [] (must_yes 111) (by (simp only [go_sem]) <;> simp) (by (simp only [go_sem, entH, entH1, nilArr, obOK]) <;> simp) (by simp [injR, apart, toR]) (by simp [coverR, usH, toR]) (by simp [uniqP, lkR, toR]) (by simp [chk, hG]) ?_
        simp (maxSteps := 2000000) only [go_sem, hG, hOw, hu,hwr]
        (repeat' with_reducible first | refine And.intro ?_ ?_ | intro _ | refine exP ?_ ?_); all_goals try omega
        exact ⟨[(0, some 0)], by (simp only [EndT, go_sem, entH, entH1, nilArr, obOK, apart, injR, coverR]) <;> simp [hu,hwr]⟩
      · rw [if_neg h3]
        simp only
        refine tri_intro (fun _ => false) Tryz.func206 Tryz.ntmps206 rfl (by kernel_rfl) (by simp) rfl (by decide) fun G hG hOw hNm => ?_; simp only [go_sem, hG, hOw]
        refine call_tri [(0, 0)] [] (hW) (by (simp only [go_sem]) <;> simp) (by (simp only [go_sem, entH, entH1, nilArr, obOK]) <;> simp) (by simp [injR, apart, toR]) (by simp [coverR, usH, toR]) (by simp [uniqP, lkR, toR]) (by simp [chk, hG]) ?_
        simp only [go_sem, hG, hOw]
        (repeat' with_reducible first | refine And.intro ?_ ?_ | intro _ | refine exP ?_ ?_); all_goals try omega
        refine call_tri [(0, 0)] [] (hN) (by (simp only [go_sem]) <;> simp) (by (simp only [go_sem, entH, entH1, nilArr, obOK]) <;> simp) (by simp [injR, apart, toR]) (by simp [coverR, usH, toR]) (by simp [uniqP, lkR, toR]) (by simp [chk, hG]) ?_
        simp (maxSteps := 2000000) only [go_sem, hG, hOw, decide_eq_false h3]
        (repeat' with_reducible first | refine And.intro ?_ ?_ | intro _ | refine exP ?_ ?_); all_goals try omega
        refine call_tri [] [] (must_no 111) (by (simp only [go_sem]) <;> simp) (by (simp only [go_sem, entH, entH1, nilArr, obOK]) <;> simp) (by simp [injR, apart, toR]) (by simp [coverR, usH, toR]) (by simp [uniqP, lkR, toR]) (by simp [chk, hG]) ?_
        simp only [go_sem, hG, hOw]
        exact ⟨rfl, ⟨[], by (simp only [EndT, go_sem, entH, entH1, nilArr, obOK, apart, injR, coverR]) <;> simp⟩⟩
open Go Pm
set_option maxHeartbeats 4000000
set_option maxRecDepth 100000
def setH (d : Dc) (q : ByteArray × UInt8) : Dc := { d with stem := q.1, mark := q.2 }
def setP (d : Dc) (q : Int × Int × Int) : Dc := { d with ch := q.1, ln := q.2.1, wd := q.2.2 }
def f2 (d : Dc) (l : Rws) : Option (Dc × Rws) := match wordO l with
  | none => none
  | some (w, r) => match headO r with
    | none => none
    | some (q, r') => some (setH { d with form := w } q, r')
def f4 (d : Dc) (l : Rws) : Option (Dc × Rws) := match placeO l with
  | none => none
  | some (p, r) => f2 (setP d p) r
def f6 (d : Dc) (l : Rws) : Option (Dc × Rws) := match placeO l with
  | none => none
  | some (p, r) => match headO r with
    | none => none
    | some (q, r') => some (setH (setP d p) q, r')
def f8 (d : Dc) (l : Rws) : Option (Dc × Rws) := match numO l with
  | none => none
  | some (n, r) => some ({ d with of := n }, r)
theorem f2_sub {d d' : Dc} {l r : Rws} (h : f2 d l = some (d', r)) (hb : bdD d) : SubR r l ∧ bdD d' := by
  unfold f2 at h
  split at h
  · cases h
  · rename_i w r1 h1
    split at h
    · cases h
    · rename_i q r2 h2
      cases h
      have := wordO_size h1
      have := headO_size h2
      exact ⟨(headO_sub h2).trans (wordO_sub h1), by simp only [setH]; omega, by simp only [setH]; omega⟩
theorem f4_sub {d d' : Dc} {l r : Rws} (h : f4 d l = some (d', r)) (hb : bdD d) : SubR r l ∧ bdD d' := by
  unfold f4 at h
  split at h
  · cases h
  · rename_i p r1 h1
    obtain ⟨a, b⟩ := f2_sub h (by exact hb)
    exact ⟨a.trans (placeO_sub h1), b⟩
theorem f6_sub {d d' : Dc} {l r : Rws} (h : f6 d l = some (d', r)) (hb : bdD d) : SubR r l ∧ bdD d' := by
  unfold f6 at h
  split at h
  · cases h
  · rename_i p r1 h1
    split at h
    · cases h
    · rename_i q r2 h2
      cases h
      have := headO_size h2
      exact ⟨(headO_sub h2).trans (placeO_sub h1), hb.1, by simp only [setH]; omega⟩
theorem f8_sub {d d' : Dc} {l r : Rws} (h : f8 d l = some (d', r)) (hb : bdD d) : SubR r l ∧ bdD d' := by
  unfold f8 at h
  split at h
  · cases h
  · rename_i n r1 h1
    cases h
    exact ⟨numO_sub h1, hb⟩
theorem forms2P (lo : Nat) (d : Dc) (l : Rws) (hl : ∀ s ∈ l, s.size ≤ 100000) : Tri Tryz.prog 205 [.ptr 50 0, .ptr 51 0] [(50, .box [strs lo l]), (51, .box (dcC d))] (fun _ => match f2 d l with
    | some q => .ret (.tup []) [(50, .box [strs lo q.2]), (51, .box (dcC q.1))]
    | none => .pan (wrV 111) []) := by
  have hW := wordP lo l
  cases h1 : wordO l with
  | none =>
    rw [h1] at hW
    have e : f2 d l = none := by unfold f2; simp only [h1]
    rw [e]
    simp only at hW ⊢
    refine tri_intro (fun _ => false) Tryz.func205 Tryz.ntmps205 rfl (by kernel_rfl) (by simp) rfl (by decide) fun G hG hOw hNm => ?_; simp only [go_sem, hG, hOw]
    refine call_tri [(0, 50)] [] (hW) (by (simp only [go_sem]) <;> simp) (by (simp only [go_sem, entH, entH1, nilArr, obOK]) <;> simp) (by simp [injR, apart, toR]) (by simp [coverR, usH, toR]) (by simp [uniqP, lkR, toR]) (by simp [chk, hG]) ?_
    simp only [go_sem, hG, hOw]
    first | exact ⟨rfl, ⟨[], by (simp only [EndT, go_sem, entH, entH1, nilArr, obOK, apart, injR, coverR]) <;> simp⟩⟩ | exact ⟨[], by (simp only [EndT, go_sem, entH, entH1, nilArr, obOK, apart, injR, coverR]) <;> simp⟩
  | some q =>
    obtain ⟨w, r⟩ := q
    rw [h1] at hW
    have hH := headP lo r ((wordO_sub h1).size hl)
    cases h2 : headO r with
    | none =>
      rw [h2] at hH
      have e : f2 d l = none := by unfold f2; simp only [h1, h2]
      rw [e]
      simp only at hW hH ⊢
      refine tri_intro (fun _ => false) Tryz.func205 Tryz.ntmps205 rfl (by kernel_rfl) (by simp) rfl (by decide) fun G hG hOw hNm => ?_; simp only [go_sem, hG, hOw]
      refine call_tri [(0, 50)] [] (hW) (by (simp only [go_sem]) <;> simp) (by (simp only [go_sem, entH, entH1, nilArr, obOK]) <;> simp) (by simp [injR, apart, toR]) (by simp [coverR, usH, toR]) (by simp [uniqP, lkR, toR]) (by simp [chk, hG]) ?_
      simp only [go_sem, hG, hOw]
      (repeat' with_reducible first | refine And.intro ?_ ?_ | intro _ | refine exP ?_ ?_); all_goals try omega
      refine call_tri [(0, 50)] [] (hH) (by (simp only [go_sem]) <;> simp) (by (simp only [go_sem, entH, entH1, nilArr, obOK]) <;> simp) (by simp [injR, apart, toR]) (by simp [coverR, usH, toR]) (by simp [uniqP, lkR, toR]) (by simp [chk, hG]) ?_
      simp only [go_sem, hG, hOw]
      first | exact ⟨rfl, ⟨[], by (simp only [EndT, go_sem, entH, entH1, nilArr, obOK, apart, injR, coverR]) <;> simp⟩⟩ | exact ⟨[], by (simp only [EndT, go_sem, entH, entH1, nilArr, obOK, apart, injR, coverR]) <;> simp⟩
    | some q2 =>
      obtain ⟨⟨st, mk⟩, r'⟩ := q2
      rw [h2] at hH
      have e : f2 d l = some (setH { d with form := w } (st, mk), r') := by unfold f2; simp only [h1, h2]
      rw [e]
      simp only at hW hH ⊢
      refine tri_intro (fun _ => false) Tryz.func205 Tryz.ntmps205 rfl (by kernel_rfl) (by simp) rfl (by decide) fun G hG hOw hNm => ?_; simp only [go_sem, hG, hOw]
      refine call_tri [(0, 50)] [] (hW) (by (simp only [go_sem]) <;> simp) (by (simp only [go_sem, entH, entH1, nilArr, obOK]) <;> simp) (by simp [injR, apart, toR]) (by simp [coverR, usH, toR]) (by simp [uniqP, lkR, toR]) (by simp [chk, hG]) ?_
      simp only [go_sem, hG, hOw]
      (repeat' with_reducible first | refine And.intro ?_ ?_ | intro _ | refine exP ?_ ?_); all_goals try omega
      refine call_tri [(0, 50)] [] (hH) (by (simp only [go_sem]) <;> simp) (by (simp only [go_sem, entH, entH1, nilArr, obOK]) <;> simp) (by simp [injR, apart, toR]) (by simp [coverR, usH, toR]) (by simp [uniqP, lkR, toR]) (by simp [chk, hG]) ?_
      simp only [go_sem, hG, hOw]
      (repeat' with_reducible first | refine And.intro ?_ ?_ | intro _ | refine exP ?_ ?_); all_goals try omega
      exact ⟨[(50, some 50), (51, some 51)], by (simp only [EndT, go_sem, entH, entH1, nilArr, obOK, apart, injR, coverR]) <;> simp [setH]⟩
theorem forms8P (lo : Nat) (d : Dc) (l : Rws) (hl : ∀ s ∈ l, s.size ≤ 100000) : Tri Tryz.prog 212 [.ptr 50 0, .ptr 51 0] [(50, .box [strs lo l]), (51, .box (dcC d))] (fun _ => match f8 d l with
    | some q => .ret (.tup []) [(50, .box [strs lo q.2]), (51, .box (dcC q.1))]
    | none => .pan (wrV 111) []) := by
  have hN := numP lo l hl
  cases h1 : numO l with
  | none =>
    rw [h1] at hN
    have e : f8 d l = none := by unfold f8; simp only [h1]
    rw [e]
    simp only at hN ⊢
    refine tri_intro (fun _ => false) Tryz.func212 Tryz.ntmps212 rfl (by kernel_rfl) (by simp) rfl (by decide) fun G hG hOw hNm => ?_; simp only [go_sem, hG, hOw]
    refine call_tri [(0, 50)] [] (hN) (by (simp only [go_sem]) <;> simp) (by (simp only [go_sem, entH, entH1, nilArr, obOK]) <;> simp) (by simp [injR, apart, toR]) (by simp [coverR, usH, toR]) (by simp [uniqP, lkR, toR]) (by simp [chk, hG]) ?_
    simp only [go_sem, hG, hOw]
    first | exact ⟨rfl, ⟨[], by (simp only [EndT, go_sem, entH, entH1, nilArr, obOK, apart, injR, coverR]) <;> simp⟩⟩ | exact ⟨[], by (simp only [EndT, go_sem, entH, entH1, nilArr, obOK, apart, injR, coverR]) <;> simp⟩
  | some q =>
    obtain ⟨n, r⟩ := q
    rw [h1] at hN
    have e : f8 d l = some ({ d with of := n }, r) := by unfold f8; simp only [h1]
    rw [e]
    simp only at hN ⊢
    refine tri_intro (fun _ => false) Tryz.func212 Tryz.ntmps212 rfl (by kernel_rfl) (by simp) rfl (by decide) fun G hG hOw hNm => ?_; simp only [go_sem, hG, hOw]
    refine call_tri [(0, 50)] [] (hN) (by (simp only [go_sem]) <;> simp) (by (simp only [go_sem, entH, entH1, nilArr, obOK]) <;> simp) (by simp [injR, apart, toR]) (by simp [coverR, usH, toR]) (by simp [uniqP, lkR, toR]) (by simp [chk, hG]) ?_
    simp only [go_sem, hG, hOw]
    (repeat' with_reducible first | refine And.intro ?_ ?_ | intro _ | refine exP ?_ ?_); all_goals try omega
    exact ⟨[(50, some 50), (51, some 51)], by (simp only [EndT, go_sem, entH, entH1, nilArr, obOK, apart, injR, coverR]) <;> simp⟩
theorem forms6P (lo : Nat) (d : Dc) (l : Rws) (hl : ∀ s ∈ l, s.size ≤ 100000) : Tri Tryz.prog 210 [.ptr 50 0, .ptr 51 0] [(50, .box [strs lo l]), (51, .box (dcC d))] (fun _ => match f6 d l with
    | some q => .ret (.tup []) [(50, .box [strs lo q.2]), (51, .box (dcC q.1))]
    | none => .pan (wrV 111) []) := by
  have hP := placeP lo l hl
  cases h1 : placeO l with
  | none =>
    rw [h1] at hP
    have e : f6 d l = none := by unfold f6; simp only [h1]
    rw [e]
    simp only at hP ⊢
    refine tri_intro (fun _ => false) Tryz.func210 Tryz.ntmps210 rfl (by kernel_rfl) (by simp) rfl (by decide) fun G hG hOw hNm => ?_; simp only [go_sem, hG, hOw]
    refine call_tri [(0, 50)] [] (hP) (by (simp only [go_sem]) <;> simp) (by (simp only [go_sem, entH, entH1, nilArr, obOK]) <;> simp) (by simp [injR, apart, toR]) (by simp [coverR, usH, toR]) (by simp [uniqP, lkR, toR]) (by simp [chk, hG]) ?_
    simp only [go_sem, hG, hOw]
    first | exact ⟨rfl, ⟨[], by (simp only [EndT, go_sem, entH, entH1, nilArr, obOK, apart, injR, coverR]) <;> simp⟩⟩ | exact ⟨[], by (simp only [EndT, go_sem, entH, entH1, nilArr, obOK, apart, injR, coverR]) <;> simp⟩
  | some q =>
    obtain ⟨⟨a, b, c⟩, r⟩ := q
    rw [h1] at hP
    have hH := headP lo r ((placeO_sub h1).size hl)
    cases h2 : headO r with
    | none =>
      rw [h2] at hH
      have e : f6 d l = none := by unfold f6; simp only [h1, h2]
      rw [e]
      simp only at hP hH ⊢
      refine tri_intro (fun _ => false) Tryz.func210 Tryz.ntmps210 rfl (by kernel_rfl) (by simp) rfl (by decide) fun G hG hOw hNm => ?_; simp only [go_sem, hG, hOw]
      refine call_tri [(0, 50)] [] (hP) (by (simp only [go_sem]) <;> simp) (by (simp only [go_sem, entH, entH1, nilArr, obOK]) <;> simp) (by simp [injR, apart, toR]) (by simp [coverR, usH, toR]) (by simp [uniqP, lkR, toR]) (by simp [chk, hG]) ?_
      simp only [go_sem, hG, hOw]
      (repeat' with_reducible first | refine And.intro ?_ ?_ | intro _ | refine exP ?_ ?_); all_goals try omega
      refine call_tri [(0, 50)] [] (hH) (by (simp only [go_sem]) <;> simp) (by (simp only [go_sem, entH, entH1, nilArr, obOK]) <;> simp) (by simp [injR, apart, toR]) (by simp [coverR, usH, toR]) (by simp [uniqP, lkR, toR]) (by simp [chk, hG]) ?_
      simp only [go_sem, hG, hOw]
      first | exact ⟨rfl, ⟨[], by (simp only [EndT, go_sem, entH, entH1, nilArr, obOK, apart, injR, coverR]) <;> simp⟩⟩ | exact ⟨[], by (simp only [EndT, go_sem, entH, entH1, nilArr, obOK, apart, injR, coverR]) <;> simp⟩
    | some q2 =>
      obtain ⟨⟨st, mk⟩, r'⟩ := q2
      rw [h2] at hH
      have e : f6 d l = some (setH (setP d (a, b, c)) (st, mk), r') := by unfold f6; simp only [h1, h2]
      rw [e]
      simp only at hP hH ⊢
      refine tri_intro (fun _ => false) Tryz.func210 Tryz.ntmps210 rfl (by kernel_rfl) (by simp) rfl (by decide) fun G hG hOw hNm => ?_; simp only [go_sem, hG, hOw]
      refine call_tri [(0, 50)] [] (hP) (by (simp only [go_sem]) <;> simp) (by (simp only [go_sem, entH, entH1, nilArr, obOK]) <;> simp) (by simp [injR, apart, toR]) (by simp [coverR, usH, toR]) (by simp [uniqP, lkR, toR]) (by simp [chk, hG]) ?_
      simp only [go_sem, hG, hOw]
      (repeat' with_reducible first | refine And.intro ?_ ?_ | intro _ | refine exP ?_ ?_); all_goals try omega
      refine call_tri [(0, 50)] [] (hH) (by (simp only [go_sem]) <;> simp) (by (simp only [go_sem, entH, entH1, nilArr, obOK]) <;> simp) (by simp [injR, apart, toR]) (by simp [coverR, usH, toR]) (by simp [uniqP, lkR, toR]) (by simp [chk, hG]) ?_
      simp only [go_sem, hG, hOw]
      (repeat' with_reducible first | refine And.intro ?_ ?_ | intro _ | refine exP ?_ ?_); all_goals try omega
      exact ⟨[(50, some 50), (51, some 51)], by (simp only [EndT, go_sem, entH, entH1, nilArr, obOK, apart, injR, coverR]) <;> simp [setH,setP]⟩
theorem forms4P (lo : Nat) (d : Dc) (l : Rws) (hl : ∀ s ∈ l, s.size ≤ 100000) : Tri Tryz.prog 208 [.ptr 50 0, .ptr 51 0] [(50, .box [strs lo l]), (51, .box (dcC d))] (fun _ => match f4 d l with
    | some q => .ret (.tup []) [(50, .box [strs lo q.2]), (51, .box (dcC q.1))]
    | none => .pan (wrV 111) []) := by
  have hP := placeP lo l hl
  cases h1 : placeO l with
  | none =>
    rw [h1] at hP
    have e : f4 d l = none := by unfold f4 f2; simp only [h1]
    rw [e]
    simp only at hP ⊢
    refine tri_intro (fun _ => false) Tryz.func208 Tryz.ntmps208 rfl (by kernel_rfl) (by simp) rfl (by decide) fun G hG hOw hNm => ?_; simp only [go_sem, hG, hOw]
    refine call_tri [(0, 50)] [] (hP) (by (simp only [go_sem]) <;> simp) (by (simp only [go_sem, entH, entH1, nilArr, obOK]) <;> simp) (by simp [injR, apart, toR]) (by simp [coverR, usH, toR]) (by simp [uniqP, lkR, toR]) (by simp [chk, hG]) ?_
    simp only [go_sem, hG, hOw]
    first | exact ⟨rfl, ⟨[], by (simp only [EndT, go_sem, entH, entH1, nilArr, obOK, apart, injR, coverR]) <;> simp⟩⟩ | exact ⟨[], by (simp only [EndT, go_sem, entH, entH1, nilArr, obOK, apart, injR, coverR]) <;> simp⟩
  | some q =>
    obtain ⟨⟨a, b, c⟩, r⟩ := q
    rw [h1] at hP
    have hr := (placeO_sub h1).size hl
    have hW := wordP lo r
    cases h2 : wordO r with
    | none =>
      rw [h2] at hW
      have e : f4 d l = none := by unfold f4 f2; simp only [h1, h2]
      rw [e]
      simp only at hP hW ⊢
      refine tri_intro (fun _ => false) Tryz.func208 Tryz.ntmps208 rfl (by kernel_rfl) (by simp) rfl (by decide) fun G hG hOw hNm => ?_; simp only [go_sem, hG, hOw]
      refine call_tri [(0, 50)] [] (hP) (by (simp only [go_sem]) <;> simp) (by (simp only [go_sem, entH, entH1, nilArr, obOK]) <;> simp) (by simp [injR, apart, toR]) (by simp [coverR, usH, toR]) (by simp [uniqP, lkR, toR]) (by simp [chk, hG]) ?_
      simp only [go_sem, hG, hOw]
      (repeat' with_reducible first | refine And.intro ?_ ?_ | intro _ | refine exP ?_ ?_); all_goals try omega
      refine call_tri [(0, 50)] [] (hW) (by (simp only [go_sem]) <;> simp) (by (simp only [go_sem, entH, entH1, nilArr, obOK]) <;> simp) (by simp [injR, apart, toR]) (by simp [coverR, usH, toR]) (by simp [uniqP, lkR, toR]) (by simp [chk, hG]) ?_
      simp only [go_sem, hG, hOw]
      first | exact ⟨rfl, ⟨[], by (simp only [EndT, go_sem, entH, entH1, nilArr, obOK, apart, injR, coverR]) <;> simp⟩⟩ | exact ⟨[], by (simp only [EndT, go_sem, entH, entH1, nilArr, obOK, apart, injR, coverR]) <;> simp⟩
    | some q2 =>
      obtain ⟨w, r2⟩ := q2
      rw [h2] at hW
      have hH := headP lo r2 ((wordO_sub h2).size hr)
      cases h3 : headO r2 with
      | none =>
        rw [h3] at hH
        have e : f4 d l = none := by unfold f4 f2; simp only [h1, h2, h3]
        rw [e]
        simp only at hP hW hH ⊢
        refine tri_intro (fun _ => false) Tryz.func208 Tryz.ntmps208 rfl (by kernel_rfl) (by simp) rfl (by decide) fun G hG hOw hNm => ?_; simp only [go_sem, hG, hOw]
        refine call_tri [(0, 50)] [] (hP) (by (simp only [go_sem]) <;> simp) (by (simp only [go_sem, entH, entH1, nilArr, obOK]) <;> simp) (by simp [injR, apart, toR]) (by simp [coverR, usH, toR]) (by simp [uniqP, lkR, toR]) (by simp [chk, hG]) ?_
        simp only [go_sem, hG, hOw]
        (repeat' with_reducible first | refine And.intro ?_ ?_ | intro _ | refine exP ?_ ?_); all_goals try omega
        refine call_tri [(0, 50)] [] (hW) (by (simp only [go_sem]) <;> simp) (by (simp only [go_sem, entH, entH1, nilArr, obOK]) <;> simp) (by simp [injR, apart, toR]) (by simp [coverR, usH, toR]) (by simp [uniqP, lkR, toR]) (by simp [chk, hG]) ?_
        simp only [go_sem, hG, hOw]
        (repeat' with_reducible first | refine And.intro ?_ ?_ | intro _ | refine exP ?_ ?_); all_goals try omega
        refine call_tri [(0, 50)] [] (hH) (by (simp only [go_sem]) <;> simp) (by (simp only [go_sem, entH, entH1, nilArr, obOK]) <;> simp) (by simp [injR, apart, toR]) (by simp [coverR, usH, toR]) (by simp [uniqP, lkR, toR]) (by simp [chk, hG]) ?_
        simp only [go_sem, hG, hOw]
        first | exact ⟨rfl, ⟨[], by (simp only [EndT, go_sem, entH, entH1, nilArr, obOK, apart, injR, coverR]) <;> simp⟩⟩ | exact ⟨[], by (simp only [EndT, go_sem, entH, entH1, nilArr, obOK, apart, injR, coverR]) <;> simp⟩
      | some q3 =>
        obtain ⟨⟨st, mk⟩, r3⟩ := q3
        rw [h3] at hH
        have e : f4 d l = some (setH { setP d (a, b, c) with form := w } (st, mk), r3) := by unfold f4 f2; simp only [h1, h2, h3]
        rw [e]
        simp only at hP hW hH ⊢
        refine tri_intro (fun _ => false) Tryz.func208 Tryz.ntmps208 rfl (by kernel_rfl) (by simp) rfl (by decide) fun G hG hOw hNm => ?_; simp only [go_sem, hG, hOw]
        refine call_tri [(0, 50)] [] (hP) (by (simp only [go_sem]) <;> simp) (by (simp only [go_sem, entH, entH1, nilArr, obOK]) <;> simp) (by simp [injR, apart, toR]) (by simp [coverR, usH, toR]) (by simp [uniqP, lkR, toR]) (by simp [chk, hG]) ?_
        simp only [go_sem, hG, hOw]
        (repeat' with_reducible first | refine And.intro ?_ ?_ | intro _ | refine exP ?_ ?_); all_goals try omega
        refine call_tri [(0, 50)] [] (hW) (by (simp only [go_sem]) <;> simp) (by (simp only [go_sem, entH, entH1, nilArr, obOK]) <;> simp) (by simp [injR, apart, toR]) (by simp [coverR, usH, toR]) (by simp [uniqP, lkR, toR]) (by simp [chk, hG]) ?_
        simp only [go_sem, hG, hOw]
        (repeat' with_reducible first | refine And.intro ?_ ?_ | intro _ | refine exP ?_ ?_); all_goals try omega
        refine call_tri [(0, 50)] [] (hH) (by (simp only [go_sem]) <;> simp) (by (simp only [go_sem, entH, entH1, nilArr, obOK]) <;> simp) (by simp [injR, apart, toR]) (by simp [coverR, usH, toR]) (by simp [uniqP, lkR, toR]) (by simp [chk, hG]) ?_
        simp only [go_sem, hG, hOw]
        (repeat' with_reducible first | refine And.intro ?_ ?_ | intro _ | refine exP ?_ ?_); all_goals try omega
        exact ⟨[(50, some 50), (51, some 51)], by (simp only [EndT, go_sem, entH, entH1, nilArr, obOK, apart, injR, coverR]) <;> simp [setH,setP]⟩
end Go.Proofs.YtppcbmpiphhphaaGreatDoor
