import Derived.Test.YtppcbmpiphhphaaGreatDoorQU19
import Derived.Test.YtppcbmpiphhphaaGreatDoorQU26
import Derived.Test.YtppcbmpiphhphaaGreatDoorQU29
import Derived.Test.YtppcbmpiphhphaaGreatDoorQU31
import Derived.Test.YtppcbmpiphhphaaGreatDoorQU32
namespace Go.Proofs.YtppcbmpiphhphaaGreatDoor
open Go Pm
set_option linter.unusedSimpArgs false
set_option linter.unusedVariables false
set_option maxHeartbeats 4000000
set_option maxRecDepth 100000
structure Si where
  ch : Int
  ln : Int
  wd : Int
  word : ByteArray
  bef : ByteArray
  aft : ByteArray
def siC (s : Si) : List V := [i64 s.ch, i64 s.ln, i64 s.wd, str s.word, str s.bef, str s.aft]
def sis (lo : Nat) (l : List Si) : V := .lst lo 6 (l.map siC)
attribute [go_sem] siC sis
theorem allOnes_siC (l : List Si) : allOnes (l.map siC) = true := allOnes_map (fun _ => rfl) l
attribute [go_sem] allOnes_siC
def wtxB (s : ByteArray) : Bool := decide (s = ⟨#[]⟩) || (decide ((s.size : Int) ≤ 80) && (partsS s).all wordB)
def slipB (s : Si) : Bool := wtxB s.bef && wtxB s.aft && wordB s.word
def bdS (s : Si) : Prop := s.word.size ≤ 100000 ∧ s.bef.size ≤ 100000 ∧ s.aft.size ≤ 100000
theorem in1Sl_ok (n lo hi : Int) : Gives Tryz.prog 152 [i64 n, .fp [i64 lo], .fp [i64 hi]] (fun _ => bl (decide (n < lo) || decide (hi < n))) := by
  refine pure_intro (ow := fun _ => false) Tryz.func152 Tryz.ntmps152 rfl (by kernel_rfl) (by simp) rfl (by decide) fun G hG hOw hNm hB => ?_; simp only [go_sem, hG, hOw]
  (repeat' with_reducible first | refine And.intro ?_ ?_ | intro _ | refine exP ?_ ?_); all_goals try omega
  · rename_i h; rw [decide_eq_false h]; rfl
  · rename_i h; rw [decide_eq_true h]; rfl
theorem inSl_ok (lo hi : Int) (l : List Int) : Gives Tryz.prog 124 [i64 lo, i64 hi, .lst 0 1 (l.map intE)] (fun _ => bl (l.all fun n => inB n lo hi)) := by
  refine pure_intro (ow := fun _ => false) Tryz.func124 Tryz.ntmps124 rfl (by kernel_rfl) (by simp) rfl (by decide) fun G hG hOw hNm hB => ?_; simp only [go_sem, hG, hOw]
  refine call_frz (fun i => [3, 4].contains i) ?_
  simp only [go_sem, hG, hOw]
  refine call_pureA (ContainsFunc_Int _ [.fp [i64 lo], .fp [i64 hi]] (fun n => decide (n < lo) || decide (hi < n)) l rfl (fun x _ => in1Sl_ok x lo hi)) ?_
  simp only [go_sem, hG, hOw]
  rw [List.not_any_eq_all_not]
  congr 1
  funext n
  rw [Bool.eq_iff_iff]; simp [inB]
theorem inSl_one (lo hi n : Int) : Gives Tryz.prog 124 [i64 lo, i64 hi, .lst 0 1 [[i64 n]]] (fun _ => bl (inB n lo hi)) := by
  have := inSl_ok lo hi [n]
  simpa [intE] using this
theorem Sword1_ok (b : UInt8) : Gives Tryz.prog 125 [.v (.int .u8 b.toNat)] (fun _ => bl (!letterB b)) := by
  refine pure_intro (ow := fun _ => false) Tryz.func125 Tryz.ntmps125 rfl (by kernel_rfl) (by simp) rfl (by decide) fun G hG hOw hNm hB => ?_; simp only [go_sem, hG, hOw]
  (repeat' with_reducible first | refine And.intro ?_ ?_ | intro _ | refine exP ?_ ?_); all_goals try omega
  · rename_i h; simp [letterB]; intro; omega
  · rename_i h; simp [letterB]; omega
theorem Sword_ok (s : ByteArray) : Gives Tryz.prog 94 [str s] (fun _ => bl (wordB s)) := by
  refine pure_intro (ow := fun _ => false) Tryz.func94 Tryz.ntmps94 rfl (by kernel_rfl) (by simp) rfl (by decide) fun G hG hOw hNm hB => ?_; simp only [go_sem, hG, hOw]
  refine call_pureA (inSl_one 1 12 s.size) ?_
  simp only [go_sem, hG, hOw]
  (repeat' with_reducible first | refine And.intro ?_ ?_ | intro _ | refine exP ?_ ?_); all_goals try omega
  · rename_i h; simp [inB] at h; omega
  · rename_i h
    refine call_pureA (ContainsFunc_Byte _ [] (fun b => !letterB b) s.data.toList rfl (fun b _ => Sword1_ok b)) ?_
    simp only [go_sem, hG, hOw]
    unfold wordB; rw [h, Bool.and_true, List.not_any_eq_all_not]; simp
  · rename_i h; unfold wordB; rw [h, Bool.and_false]
theorem Swords_ok (s : ByteArray) (hs : s.size ≤ 100000) : Gives Tryz.prog 93 [str s] (fun n => .tup [strs n (if s = ⟨#[]⟩ then [] else partsS s), bl (wtxB s)]) := by
  by_cases h0 : s = ⟨#[]⟩
  · subst h0
    have e : wtxB ⟨#[]⟩ = true := by decide
    rw [if_pos rfl, e]
    refine pure_intro (ow := fun _ => false) Tryz.func93 Tryz.ntmps93 rfl (by kernel_rfl) (by simp) rfl (by decide) fun G hG hOw hNm hB => ?_; simp only [go_sem, hG, hOw]
    exact Subs.tup (.cons (.nil _ _) (.cons (.refl _) .nil))
  · have hpl := partsS_len s
    have hW : wtxB s = (decide ((s.size : Int) ≤ 80) && (partsS s).all wordB) := by unfold wtxB; rw [decide_eq_false h0, Bool.false_or]
    rw [if_neg h0, hW]
    have d0 := decide_eq_false h0
    have hpos := partsS_pos s
    refine pure_intro (ow := fun _ => false) Tryz.func93 Tryz.ntmps93 rfl (by kernel_rfl) (by simp) rfl (by decide) fun G hG hOw hNm hB => ?_; simp only [go_sem, hG, hOw]
    (repeat' with_reducible first | refine And.intro ?_ ?_ | intro _ | refine exP ?_ ?_); all_goals try omega
    · rename_i h; exact absurd h h0
    refine call_pureA (Split_ok s hs) ?_
    simp only [go_sem, hG, hOw]
    (repeat' with_reducible first | refine And.intro ?_ ?_ | intro _ | refine exP ?_ ?_); all_goals try omega
    refine semC_cut (fun _ : Unit => St.of [(4, strs G.lo (partsS s)), (5, bl (decide ((s.size : Int) ≤ 80) && (partsS s).all wordB))] []) (fun _ => True) ?_ ?_
    · refine semC_loop (fun k : Nat => St.of [(4, strs G.lo (partsS s)), (5, bl (decide ((s.size : Int) ≤ 80))), (15, strs G.lo (partsS s)), (16, i64 (partsS s).length), (17, i64 k)] []) (fun k => k ≤ (partsS s).length ∧ ((partsS s).take k).all wordB = true) (fun k => (partsS s).length - k) 0 (by simp) (ent_of0 (by (simp only [go_sem]) <;> simp) hNm) ?_
      rintro k ⟨hk, hall⟩
      by_cases hkl : k < (partsS s).length
      · have hlt : (k : Int) < (partsS s).length := by omega
        refine vc_sound _ _ _ ?_
        simp (maxSteps := 2000000) only [go_sem, hG, hOw, hlt]
        (repeat' with_reducible first | refine And.intro ?_ ?_ | intro _ | refine exP ?_ ?_); all_goals try omega
        refine call_pureA (Sword_ok (partsS s)[k]) ?_
        cases hw : wordB (partsS s)[k] with
        | false =>
          have e : (partsS s).all wordB = false := all_false hkl hw
          rw [e, Bool.and_false]
          simp only [go_sem, hG, hOw]
          (repeat' with_reducible first | refine And.intro ?_ ?_ | intro _ | refine exP ?_ ?_); all_goals try omega
          exact ⟨(), ent_of0 (by (simp only [go_sem]) <;> simp) hNm⟩
        | true =>
          simp only [go_sem, hG, hOw]
          (repeat' with_reducible first | refine And.intro ?_ ?_ | intro _ | refine exP ?_ ?_); all_goals try omega
          exact ⟨k + 1, ⟨by omega, all_take_succ hkl hall hw⟩, by omega, ent_of0 (by (simp only [go_sem]) <;> simp) hNm⟩
      · have hlt : ¬ (k : Int) < (partsS s).length := by omega
        have hke : k = (partsS s).length := by omega
        subst hke
        rw [List.take_length] at hall
        refine vc_sound _ _ _ ?_
        simp (maxSteps := 2000000) only [go_sem, hG, hOw, hlt]
        try (repeat' with_reducible first | refine And.intro ?_ ?_ | intro _ | refine exP ?_ ?_); all_goals try omega
        rw [hall, Bool.and_true]
        exact ⟨(), ent_of0 (by (simp only [go_sem]) <;> simp) hNm⟩
    · rintro ⟨⟩ -
      simp only [go_sem, hG, hOw]
theorem isNaNs_ok (s : ByteArray) : Gives Tryz.prog 95 [str s] (fun _ => bl false) := by
  refine pure_intro (ow := fun _ => false) Tryz.func95 Tryz.ntmps95 rfl (by kernel_rfl) (by simp) rfl (by decide) fun G hG hOw hNm hB => ?_; simp only [go_sem, hG, hOw]
  all_goals simp [bl]
theorem bytesLess_self : ∀ l : List UInt8, Op.bytesLess l l = false
  | [] => rfl
  | a :: r => by
    unfold Op.bytesLess
    simp [bytesLess_self r]
theorem Comps_self (s : ByteArray) : Gives Tryz.prog 61 [str s, str s] (fun _ => i64 0) := by
  refine pure_intro (ow := fun _ => false) Tryz.func61 Tryz.ntmps61 rfl (by kernel_rfl) (by simp) rfl (by decide) fun G hG hOw hNm hB => ?_; simp only [go_sem, hG, hOw]
  refine call_pureA (isNaNs_ok s) ?_
  simp only [go_sem, hG, hOw]
  refine call_pureA (isNaNs_ok s) ?_
  simp only [go_sem, hG, hOw]
  (repeat' with_reducible first | refine And.intro ?_ ?_ | intro _ | refine exP ?_ ?_); all_goals try omega
  all_goals (rename_i h; rw [bytesLess_self] at h; cases h)
theorem Or_zeros (l : List Int) (hl : l.length ≤ 100) (h : ∀ x ∈ l, x = 0) : Gives Tryz.prog 60 [.lst 0 1 (l.map intE)] (fun _ => i64 0) := by
  refine pure_intro (ow := fun _ => false) Tryz.func60 Tryz.ntmps60 rfl (by kernel_rfl) (by simp) rfl (by decide) fun G hG hOw hNm hB => ?_; simp only [go_sem, hG, hOw]
  (repeat' with_reducible first | refine And.intro ?_ ?_ | intro _ | refine exP ?_ ?_); all_goals try omega
  refine semC_loop (fun k : Nat => St.of [(3, i64 0), (6, .lst 0 1 (l.map intE)), (7, i64 l.length), (8, i64 k)] []) (fun k => k ≤ l.length) (fun k => l.length - k) 0 (by simp) (ent_of0 (by (simp only [go_sem]) <;> simp) hNm) ?_
  rintro k hk
  refine vc_sound _ _ _ ?_; simp only [go_sem, hG, hOw]
  (repeat' with_reducible first | refine And.intro ?_ ?_ | intro _ | refine exP ?_ ?_); all_goals try omega
  · rename_i hlt hne
    exact absurd (h _ (List.getElem_mem (by omega : k < l.length))) hne
  · exact ⟨k + 1, by omega, by omega, ent_of0 (by (simp only [go_sem]) <;> simp) hNm⟩
end Go.Proofs.YtppcbmpiphhphaaGreatDoor
