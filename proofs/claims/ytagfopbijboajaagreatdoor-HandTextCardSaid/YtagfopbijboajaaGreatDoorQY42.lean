import Derived.Test.YtagfopbijboajaaGreatDoorQY33
import Derived.Test.YtagfopbijboajaaGreatDoorQY34
import Derived.Test.YtagfopbijboajaaGreatDoorQY37
import Derived.Test.YtagfopbijboajaaGreatDoorQY39
import Derived.Test.YtagfopbijboajaaGreatDoorQY40
import Derived.Test.YtagfopbijboajaaGreatDoorQY41
namespace Go.Proofs.YtagfopbijboajaaGreatDoor
open Go Pm
set_option linter.unusedSimpArgs false
set_option linter.unusedVariables false
set_option maxHeartbeats 4000000
set_option maxRecDepth 100000
def wThe : ByteArray := ⟨#[116, 104, 101]⟩
def wSea : ByteArray := ⟨#[115, 101, 97]⟩
def wIs : ByteArray := ⟨#[105, 115]⟩
def wOld : ByteArray := ⟨#[111, 108, 100]⟩
def wAnd : ByteArray := ⟨#[97, 110, 100]⟩
def wA : ByteArray := ⟨#[97]⟩
def exS : List Se := [⟨true, [[wThe, wSea, wIs, wOld], [wOld, wA, wSea]]⟩, ⟨true, [[wOld, wThe, wSea], [wSea, wAnd, wSea]]⟩]
def exT : List Ch := [⟨7, [[wThe, wSea, wIs, wOld], [wOld, wThe, wSea]]⟩, ⟨3, [[wSea, wAnd, wSea]]⟩]
def ex0 : Ro := ⟨exT, [⟨4, 2, 1⟩, ⟨2, 5, 3⟩], [⟨0, 1, 0, 3⟩, ⟨1, 2, 1, 4⟩], exS⟩
def exS1 : List Se := [⟨true, [[wThe, wSea, wIs, wOld], [wThe, wSea, wIs, wOld], [wOld, wThe, wSea]]⟩, ⟨true, [[wOld, wThe, wSea], [wSea, wAnd, wSea]]⟩]
def ex1 : Ro := ⟨exT, ex0.helpers, ex0.shares, exS1⟩
theorem ex0_ok : OKr ex0 := greatR_ok (by kernel_rfl)
theorem ex1_ok : OKr ex1 := greatR_ok (by kernel_rfl)
theorem ex_line : lineR ex0 2 = [wSea, wAnd, wSea] ∧ lineRE ex0 2 = 0 := ⟨by kernel_rfl, by kernel_rfl⟩
theorem ex_back : backR ex0 1 = 15 ∧ backE ex0 1 = 0 := ⟨by kernel_rfl, by kernel_rfl⟩
theorem ex_torn : tornL ex1 = [0] ∧ roundE ex1 = 0 := ⟨by kernel_rfl, by kernel_rfl⟩
theorem ex_round : roundE ex0 = 0 := by kernel_rfl
theorem ex_torn0 : tornL ex0 = [] := by kernel_rfl
theorem ex_again : againP ex0 = [0] := by kernel_rfl
theorem ex_proof : proofL ex0 = [(0, 1)] := by kernel_rfl
theorem ex_expl0 : explE ex0 0 = 0 := by kernel_rfl
theorem ex_expl1 : explE ex1 0 = 0 := by kernel_rfl
theorem ex_explL0 : explL ex0 0 = [⟨3, 1, 1⟩] := by kernel_rfl
theorem ex_explL1 : explL ex1 0 = [⟨2, 0, 0⟩] := by kernel_rfl
theorem ex_doubt : (doubtL ex0 ⟨12, 1⟩).length = 4 ∧ doubtE ex0 ⟨12, 1⟩ = 0 := ⟨by kernel_rfl, by kernel_rfl⟩
theorem ex_asg : asgL ex0 20 = [0] ∧ asgD ex0 20 = 26 ∧ asgE ex0 20 = 0 := ⟨by kernel_rfl, by kernel_rfl, by kernel_rfl⟩
theorem ex_differ : differL ex0 = [(0, 1)] := by kernel_rfl
theorem ex_gaps : gapsL ex0 = [] := by kernel_rfl
open Go Pm
set_option maxHeartbeats 4000000
set_option maxRecDepth 100000
theorem words_ok (lo sz : Nat) (rows : List (List V)) : Gives Tryz.prog 26 [.lst lo sz rows] (fun _ => .lst lo sz rows) := by
  refine pure_intro (ow := fun _ => false) Tryz.func26 Tryz.ntmps26 rfl (by kernel_rfl) (by simp) rfl (by decide) fun G hG hOw hNm hB => ?_; simp only [go_sem, hG, hOw]
theorem round_ok : Gives Tryz.prog 16 [] (fun n => roE n ex0) := by
  refine pure_intro (ow := fun _ => false) Tryz.func16 Tryz.ntmps16 rfl (by kernel_rfl) (by simp) rfl (by decide) fun G hG hOw hNm hB => ?_; simp only [go_sem, hG, hOw]
  (repeat' with_reducible first | refine And.intro ?_ ?_ | intro _ | refine exP ?_ ?_); all_goals try omega
  refine call_pure (words_ok _ _ _) (Subs.refl _) rfl (by simp [chk, hG]) ?_
  simp only [go_sem, hG, hOw]
  (repeat' with_reducible first | refine And.intro ?_ ?_ | intro _ | refine exP ?_ ?_); all_goals try omega
  refine call_pure (words_ok _ _ _) (Subs.refl _) rfl (by simp [chk, hG]) ?_
  simp only [go_sem, hG, hOw]
  (repeat' with_reducible first | refine And.intro ?_ ?_ | intro _ | refine exP ?_ ?_); all_goals try omega
  refine call_pure (words_ok _ _ _) (Subs.refl _) rfl (by simp [chk, hG]) ?_
  simp only [go_sem, hG, hOw]
  (repeat' with_reducible first | refine And.intro ?_ ?_ | intro _ | refine exP ?_ ?_); all_goals try omega
  refine call_pure (words_ok _ _ _) (Subs.refl _) rfl (by simp [chk, hG]) ?_
  simp only [go_sem, hG, hOw]
  exact ⟨by decide, .refl _⟩
instance : DecidableEq Ft := fun a b => decidable_of_iff (a.kind = b.kind ∧ a.line = b.line ∧ a.words = b.words) (by
  cases a; cases b; simp)
theorem SameFaults_ok (l m : List Ft) : Gives Tryz.prog 29 [fts 0 l, fts 0 m] (fun _ => bl (decide (l = m))) := by
  refine pure_intro (ow := fun _ => false) Tryz.func29 Tryz.ntmps29 rfl (by kernel_rfl) (by simp) rfl (by decide) fun G hG hOw hNm hB => ?_; simp only [go_sem, hG, hOw]
  have hl := bd_lst hB (List.mem_cons_self ..)
  have hm := bd_lst hB (List.mem_cons_of_mem _ (List.mem_cons_self ..))
  simp only [List.length_map] at hl hm
  have no : l ≠ m → false = decide (l = m) := fun h => by rw [decide_eq_false h]
  (repeat' with_reducible first | refine And.intro ?_ ?_ | intro _ | refine exP ?_ ?_); all_goals try omega
  · rename_i h
    exact no (by rintro rfl; simp at h)
  · rename_i h
    have hlen : l.length = m.length := by omega
    refine semC_loop (fun k : Nat => St.of [(0, fts 0 l), (1, fts 0 m), (5, i64 k)] []) (fun k => k ≤ l.length ∧ l.take k = m.take k) (fun k => l.length - k) 0 (by simp) (ent_of0 (by (simp only [go_sem]) <;> simp) hNm) ?_
    rintro k ⟨hk, hall⟩
    refine vc_sound _ _ _ ?_; simp only [go_sem, hG, hOw]
    (repeat' with_reducible first | refine And.intro ?_ ?_ | intro _ | refine exP ?_ ?_); all_goals try omega
    · rename_i hlt
      have hkl : k < l.length := by omega
      have hkm : k < m.length := by omega
      refine semC_draw0 mixed (by kernel_rfl) ?_
      simp only [go_sem, hG, hOw]
      (repeat' with_reducible first | refine And.intro ?_ ?_ | intro _ | refine exP ?_ ?_); all_goals try omega
      · rename_i h1
        refine no ?_
        rintro rfl
        simp at h1
      · rename_i h1
        refine ⟨k + 1, ⟨by omega, ?_⟩, by omega, ent_of0 (by (simp only [go_sem]) <;> simp) hNm⟩
        have e : l[k] = m[k] := by
          simp only [Bool.not_eq_false', Bool.and_eq_true, decide_eq_true_eq] at h1
          cases hx : l[k] with
          | mk a b c =>
            cases hy : m[k] with
            | mk a' b' c' =>
              rw [hx, hy] at h1
              simp only at h1
              obtain ⟨h2, h3, h4⟩ := h1
              subst h2; subst h3; subst h4; rfl
        rw [List.take_add_one, List.take_add_one, hall, List.getElem?_eq_getElem hkl, List.getElem?_eq_getElem hkm, e]
    · rename_i hge
      rw [take_full hk hge, take_full (by omega) (by omega)] at hall
      rw [hall]; simp
theorem round_tri : Tri Tryz.prog 16 [] [] (fun lo => .ret (.agg [chs lo ex0.text, hps lo ex0.helpers, srs lo ex0.shares, .own 0 0 2 2]) [(0, .arr 40 2 (ex0.sheets.map (seE lo)))]) := by
  refine tri_intro (fun i => [28].contains i) Tryz.func16 Tryz.ntmps16 rfl (by kernel_rfl) (by simp) rfl (by decide) fun G hG hOw hNm => ?_; simp only [go_sem, hG, hOw]
  (repeat' with_reducible first | refine And.intro ?_ ?_ | intro _ | refine exP ?_ ?_); all_goals try omega
  refine call_pure (words_ok _ _ _) (Subs.refl _) rfl (by simp [chk, hG]) ?_
  simp only [go_sem, hG, hOw]
  (repeat' with_reducible first | refine And.intro ?_ ?_ | intro _ | refine exP ?_ ?_); all_goals try omega
  refine call_pure (words_ok _ _ _) (Subs.refl _) rfl (by simp [chk, hG]) ?_
  simp only [go_sem, hG, hOw]
  (repeat' with_reducible first | refine And.intro ?_ ?_ | intro _ | refine exP ?_ ?_); all_goals try omega
  refine call_pure (words_ok _ _ _) (Subs.refl _) rfl (by simp [chk, hG]) ?_
  simp only [go_sem, hG, hOw]
  (repeat' with_reducible first | refine And.intro ?_ ?_ | intro _ | refine exP ?_ ?_); all_goals try omega
  refine call_pure (words_ok _ _ _) (Subs.refl _) rfl (by simp [chk, hG]) ?_
  simp only [go_sem, hG, hOw]
  (repeat' with_reducible first | refine And.intro ?_ ?_ | intro _ | refine exP ?_ ?_); all_goals try omega
  exact ⟨[(0, some 28)], by (simp only [EndT, go_sem, entH, entH1, nilArr, obOK, apart, injR, coverR]) <;> simp [wThe,wSea,wIs,wOld,wAnd,wA,ex0,exT,exS,chE,hpE,srE,seE,lnE,strE,lns,strs,i64,bl]⟩
theorem repeated_ok : Gives Tryz.prog 19 [] (fun n => roE n ex1) := by
  refine pure_intro (ow := fun _ => false) Tryz.func19 Tryz.ntmps19 rfl (by kernel_rfl) (by simp) rfl (by decide) fun G hG hOw hNm hB => ?_; simp only [go_sem, hG, hOw]
  refine call_tri [] [(0, 99)] (round_tri) (by (simp only [go_sem]) <;> simp) (by (simp only [go_sem, entH, entH1, nilArr, obOK]) <;> simp) (by simp [injR, apart, toR]) (by simp [coverR, usH, toR]) (by simp [uniqP, lkR, toR]) (by simp [chk, hG]) ?_
  simp only [go_sem, hG, hOw]
  (repeat' with_reducible first | refine And.intro ?_ ?_ | intro _ | refine exP ?_ ?_); all_goals try omega
  refine semC_draw0 mixed (by kernel_rfl) ?_
  simp only [go_sem, hG, hOw]
  (repeat' with_reducible first | refine And.intro ?_ ?_ | intro _ | refine exP ?_ ?_); all_goals try omega
  refine ⟨_, callGives (words_ok _ _ _) (Subs.refl _) rfl, ?_⟩
  simp only [go_sem, hG, hOw]
  (repeat' with_reducible first | refine And.intro ?_ ?_ | intro _ | refine exP ?_ ?_); all_goals try omega
  refine ⟨_, callGives (words_ok _ _ _) (Subs.refl _) rfl, ?_⟩
  simp only [go_sem, hG, hOw]
  (repeat' with_reducible first | refine And.intro ?_ ?_ | intro _ | refine exP ?_ ?_); all_goals try omega
  refine ⟨_, callGives (words_ok _ _ _) (Subs.refl _) rfl, ?_⟩
  simp only [go_sem, hG, hOw]
  (repeat' with_reducible first | refine And.intro ?_ ?_ | intro _ | refine exP ?_ ?_); all_goals try omega
  · decide
  · exact .refl _
theorem sw_self (l : List ByteArray) : Gives Tryz.prog 25 [strs 0 l, strs 0 l] (fun _ => bl true) := by
  have := SameWords_ok l l
  rwa [decide_eq_true rfl] at this
theorem si_self (l : List Int) : Gives Tryz.prog 27 [ints 0 l, ints 0 l] (fun _ => bl true) := by
  have := SameInts_ok l l
  rwa [decide_eq_true rfl] at this
theorem sp_self (l : List (Int × Int)) : Gives Tryz.prog 28 [prs 0 l, prs 0 l] (fun _ => bl true) := by
  have := SamePairs_ok l l
  rwa [decide_eq_true rfl] at this
theorem sf_self (l : List Ft) : Gives Tryz.prog 29 [fts 0 l, fts 0 l] (fun _ => bl true) := by
  have := SameFaults_ok l l
  rwa [decide_eq_true rfl] at this
end Go.Proofs.YtagfopbijboajaaGreatDoor
