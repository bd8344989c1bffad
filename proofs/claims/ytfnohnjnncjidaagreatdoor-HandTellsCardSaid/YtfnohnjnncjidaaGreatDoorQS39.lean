import Derived.Test.YtfnohnjnncjidaaGreatDoorQS17
import Derived.Test.YtfnohnjnncjidaaGreatDoorQS26
import Derived.Test.YtfnohnjnncjidaaGreatDoorQS28
import Derived.Test.YtfnohnjnncjidaaGreatDoorQS33
import Derived.Test.YtfnohnjnncjidaaGreatDoorQS34
import Derived.Test.YtfnohnjnncjidaaGreatDoorQS35
import Derived.Test.YtfnohnjnncjidaaGreatDoorQS37
namespace Go.Proofs.YtfnohnjnncjidaaGreatDoor
open Go Pm
set_option linter.unusedSimpArgs false
set_option linter.unusedVariables false
set_option maxHeartbeats 4000000
set_option maxRecDepth 100000
def wSea : ByteArray := ⟨#[115, 101, 97]⟩
def wAnd : ByteArray := ⟨#[97, 110, 100]⟩
open Go Pm
set_option maxHeartbeats 4000000
set_option maxRecDepth 100000
instance : DecidableEq Ft := fun a b => decidable_of_iff (a.kind = b.kind ∧ a.line = b.line ∧ a.words = b.words) (by
  cases a; cases b; simp)
theorem SameFaults_ok (l m : List Ft) : Gives Tryz.prog 22 [fts 0 l, fts 0 m] (fun _ => bl (decide (l = m))) := by
  refine pure_intro (ow := fun _ => false) Tryz.func22 Tryz.ntmps22 rfl (by kernel_rfl) (by simp) rfl (by decide) fun G hG hOw hNm hB => ?_; simp only [go_sem, hG, hOw]
  have hl := bd_lst hB (List.mem_cons_self ..)
  have hm := bd_lst hB (List.mem_cons_of_mem _ (List.mem_cons_self ..))
  simp only [List.length_map] at hl hm
  have no : l ≠ m → false = decide (l = m) := fun h => by rw [decide_eq_false h]
  (repeat' with_reducible first | refine And.intro ?_ ?_ | intro _ | refine exP ?_ ?_); all_goals try omega
  · rename_i h
    exact no (by rintro rfl; simp at h)
  · rename_i h
    have hlen : l.length = m.length := by omega
    refine semC_loop (fun k : Nat => St.of [(0, fts 0 l), (1, fts 0 m), (5, i64 k)] []) (fun k => k ≤ l.length ∧ l.take k = m.take k) (fun k => l.length - k) 0 (by simp) (ent_of0 (by (simp only [go_sem]) <;> simp) hNm) ?_
    rintro k ⟨hk, hall⟩
    refine vc_sound _ _ _ ?_; simp only [go_sem, hG, hOw]
    (repeat' with_reducible first | refine And.intro ?_ ?_ | intro _ | refine exP ?_ ?_); all_goals try omega
    · rename_i hlt
      have hkl : k < l.length := by omega
      have hkm : k < m.length := by omega
      refine semC_draw0 mixed (by kernel_rfl) ?_
      simp only [go_sem, hG, hOw]
      (repeat' with_reducible first | refine And.intro ?_ ?_ | intro _ | refine exP ?_ ?_); all_goals try omega
      · rename_i h1
        refine no ?_
        rintro rfl
        simp at h1
      · rename_i h1
        refine ⟨k + 1, ⟨by omega, ?_⟩, by omega, ent_of0 (by (simp only [go_sem]) <;> simp) hNm⟩
        have e : l[k] = m[k] := by
          simp only [Bool.not_eq_false', Bool.and_eq_true, decide_eq_true_eq] at h1
          cases hx : l[k] with
          | mk a b c =>
            cases hy : m[k] with
            | mk a' b' c' =>
              rw [hx, hy] at h1
              simp only at h1
              obtain ⟨h2, h3, h4⟩ := h1
              subst h2; subst h3; subst h4; rfl
        rw [List.take_add_one, List.take_add_one, hall, List.getElem?_eq_getElem hkl, List.getElem?_eq_getElem hkm, e]
    · rename_i hge
      rw [take_full hk hge, take_full (by omega) (by omega)] at hall
      rw [hall]; simp
theorem si_self (l : List Int) : Gives Tryz.prog 24 [ints 0 l, ints 0 l] (fun _ => bl true) := by
  have := SameInts_ok l l
  rwa [decide_eq_true rfl] at this
theorem sf_self (l : List Ft) : Gives Tryz.prog 22 [fts 0 l, fts 0 l] (fun _ => bl true) := by
  have := SameFaults_ok l l
  rwa [decide_eq_true rfl] at this
open Go Pm
set_option maxHeartbeats 4000000
set_option maxRecDepth 100000
structure FA (D : List Sl) (st : St) : Prop where
  h1 : st.get 1 = strs 0 [wSea, wAnd, wSea]
  h2 : st.get 2 = i64 0
  h3 : st.get 3 = i64 15
  h4 : st.get 4 = i64 0
  h5 : st.get 5 = ints 0 [0]
  h6 : st.get 6 = i64 0
  h7 : st.get 7 = prs 0 [(0, 1)]
  h8 : st.get 8 = i64 0
  h9 : st.get 9 = ints 0 [0]
  h10 : st.get 10 = i64 0
  h11 : st.get 11 = ints 0 []
  h12 : st.get 12 = prs 0 [(0, 1)]
  h13 : st.get 13 = i64 0
  h14 : st.get 14 = fts 0 [⟨3, 1, 1⟩]
  h15 : st.get 15 = i64 0
  h16 : st.get 16 = fts 0 [⟨2, 0, 0⟩]
  h17 : st.get 17 = i64 0
  h18 : st.get 18 = sls 0 D
  h19 : st.get 19 = i64 0
  h20 : st.get 20 = ints 0 [0]
  h21 : st.get 21 = i64 26
  h22 : st.get 22 = i64 0
  h23 : st.get 23 = ints 0 []
  h24 : st.get 24 = i64 0
section
variable {D : List Sl} {G : Gh} {Q : Exit → St → Prop} {all : List Oper} {rest : List Oper} {st : St} (hd4 : D.length = 4) (hG : G.n = 193) (hOw : G.ow = fun _ => false) (hF : FA D st)
include hd4 hG hOw hF
set_option linter.unusedSectionVars false
end
open Go Pm
set_option maxHeartbeats 4000000
set_option maxRecDepth 100000
end Go.Proofs.YtfnohnjnncjidaaGreatDoor
