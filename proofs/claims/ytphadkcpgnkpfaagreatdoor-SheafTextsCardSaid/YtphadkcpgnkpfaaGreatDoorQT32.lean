import Derived.Test.YtphadkcpgnkpfaaGreatDoorQT13
import Derived.Test.YtphadkcpgnkpfaaGreatDoorQT18
import Derived.Test.YtphadkcpgnkpfaaGreatDoorQT21
import Derived.Test.YtphadkcpgnkpfaaGreatDoorQT22
import Derived.Test.YtphadkcpgnkpfaaGreatDoorQT29
namespace Go.Proofs.YtphadkcpgnkpfaaGreatDoor
open Go Pm Go.RowKit
set_option linter.unusedSimpArgs false
set_option linter.unusedVariables false
set_option maxRecDepth 100000
set_option maxHeartbeats 4000000
def wrV (k : Int) : Value := .iface 75 (.agg #[.int .i64 k])
theorem must_yes (k : Int) : Tri Tryz.prog 32 [bl true, i64 k] [] (fun _ => .ret (.tup []) []) := by
  refine tri_intro (fun _ => false) Tryz.func32 Tryz.ntmps32 rfl (by kernel_rfl) (by simp) rfl (by decide) fun G hG hOw hNm => ?_; simp only [go_sem, hG, hOw]
  (repeat' with_reducible first | refine And.intro ?_ ?_ | intro _ | refine exP ?_ ?_); all_goals try omega
  exact ⟨[], by (simp only [EndT, go_sem, entH, entH1, nilArr, obOK, apart, injR, coverR]) <;> simp⟩
theorem must_no (k : Int) : Tri Tryz.prog 32 [bl false, i64 k] [] (fun _ => .pan (wrV k) []) := by
  refine tri_intro (fun _ => false) Tryz.func32 Tryz.ntmps32 rfl (by kernel_rfl) (by simp) rfl (by decide) fun G hG hOw hNm => ?_; simp only [go_sem, hG, hOw]
  (repeat' with_reducible first | refine And.intro ?_ ?_ | intro _ | refine exP ?_ ?_); all_goals try omega
  refine mki_step [.int .i64 k] rfl rfl (by kernel_rfl) (by simp [chk, hG]) ?_
  simp only [go_sem, hG, hOw]
  (repeat' with_reducible first | refine And.intro ?_ ?_ | intro _ | refine exP ?_ ?_); all_goals try omega
  refine panic_step rfl rfl ?_
  simp only [go_sem, hG, hOw]
  exact ⟨rfl, ⟨[], by (simp only [EndT, go_sem, entH, entH1, nilArr, obOK, apart, injR, coverR]) <;> simp⟩⟩
theorem told_back (k : Int) : TriD Tryz.prog 28 [.ptr 0 0] [(0, .box [i64 0])] (.panicking [{ v := wrV k, recovered := false }]) (.panicking [{ v := wrV k, recovered := true }]) [(0, .box [i64 k])] := by
  refine triD_intro _ _ (wrV k) Tryz.func28 Tryz.ntmps28 rfl (by kernel_rfl) (by simp) rfl rfl rfl rfl (by simp) (fun c₀ cs h => ?_) fun G hG hOw hNm => ?_
  · simp [recoverD, h]
  simp only [go_sem, hG, hOw]
  (repeat' with_reducible first | refine And.intro ?_ ?_ | intro _ | refine exP ?_ ?_); all_goals try omega
  refine ifnil_step (wrV k) false .eql (.inl ⟨rfl, rfl⟩) rfl rfl (.inr ⟨_, _, rfl⟩) (by kernel_rfl) (by simp [chk, hG]) ?_
  simp only [go_sem, hG, hOw]
  (repeat' with_reducible first | refine And.intro ?_ ?_ | intro _ | refine exP ?_ ?_); all_goals try omega
  refine asrt_step [.int .i64 k] rfl rfl (by kernel_rfl) (by simp [chk, hG]) ?_
  simp only [go_sem, hG, hOw]
  (repeat' with_reducible first | refine And.intro ?_ ?_ | intro _ | refine exP ?_ ?_); all_goals try omega
  exact ⟨[(0, some 0)], by (simp only [EndT, go_sem, entH, entH1, nilArr, obOK, apart, injR, coverR]) <;> simp⟩
theorem told_none : TriD Tryz.prog 28 [.ptr 0 0] [(0, .box [i64 0])] .returning .returning [(0, .box [i64 0])] := by
  refine triD_intro _ _ .nilIface Tryz.func28 Tryz.ntmps28 rfl (by kernel_rfl) (by simp) rfl rfl rfl rfl (by simp) (fun c₀ cs h => ?_) fun G hG hOw hNm => ?_
  · simp [recoverD, h]
  simp only [go_sem, hG, hOw]
  (repeat' with_reducible first | refine And.intro ?_ ?_ | intro _ | refine exP ?_ ?_); all_goals try omega
  refine ifnil_step .nilIface true .eql (.inl ⟨rfl, rfl⟩) rfl rfl (.inl rfl) (by kernel_rfl) (by simp [chk, hG]) ?_
  simp only [go_sem, hG, hOw]
  (repeat' with_reducible first | refine And.intro ?_ ?_ | intro _ | refine exP ?_ ?_); all_goals try omega
  exact ⟨[(0, some 0)], by (simp only [EndT, go_sem, entH, entH1, nilArr, obOK, apart, injR, coverR]) <;> simp⟩
theorem take_yes (lo : Nat) (s : ByteArray) (l : List ByteArray) : Tri Tryz.prog 63 [.ptr 0 0] [(0, .box [strs lo (s :: l)])] (fun _ => .ret (.v (.string s)) [(0, .box [strs lo l])]) := by
  refine tri_intro (fun _ => false) Tryz.func63 Tryz.ntmps63 rfl (by kernel_rfl) (by simp) rfl (by decide) fun G hG hOw hNm => ?_; simp only [go_sem, hG, hOw]
  (repeat' with_reducible first | refine And.intro ?_ ?_ | intro _ | refine exP ?_ ?_); all_goals try omega
  refine call_tri [] [] (must_yes 111) (by (simp only [go_sem]) <;> simp) (by (simp only [go_sem, entH, entH1, nilArr, obOK]) <;> simp) (by simp [injR, apart, toR]) (by simp [coverR, usH, toR]) (by simp [uniqP, lkR, toR]) (by simp [chk, hG]) ?_
  simp (maxSteps := 2000000) only [go_sem, hG, hOw, List.map_cons, List.length_cons, List.getElem_cons_zero]
  (repeat' with_reducible first | refine And.intro ?_ ?_ | intro _ | refine exP ?_ ?_); all_goals try omega
  exact ⟨[(0, some 0)], by (simp only [EndT, go_sem, entH, entH1, nilArr, obOK, apart, injR, coverR]) <;> simp⟩
theorem take_no (lo : Nat) : Tri Tryz.prog 63 [.ptr 0 0] [(0, .box [strs lo []])] (fun _ => .pan (wrV 111) []) := by
  refine tri_intro (fun _ => false) Tryz.func63 Tryz.ntmps63 rfl (by kernel_rfl) (by simp) rfl (by decide) fun G hG hOw hNm => ?_; simp only [go_sem, hG, hOw]
  (repeat' with_reducible first | refine And.intro ?_ ?_ | intro _ | refine exP ?_ ?_); all_goals try omega
  refine call_tri [] [] (must_no 111) (by (simp only [go_sem]) <;> simp) (by (simp only [go_sem, entH, entH1, nilArr, obOK]) <;> simp) (by simp [injR, apart, toR]) (by simp [coverR, usH, toR]) (by simp [uniqP, lkR, toR]) (by simp [chk, hG]) ?_
  simp only [go_sem, hG, hOw]
  exact ⟨rfl, ⟨[], by (simp only [EndT, go_sem, entH, entH1, nilArr, obOK, apart, injR, coverR]) <;> simp⟩⟩
theorem rword1_ok (b : UInt8) : Gives Tryz.prog 71 [.v (.int .u8 b.toNat)] (fun _ => bl (!letterB b)) := by
  refine pure_intro (ow := fun _ => false) Tryz.func71 Tryz.ntmps71 rfl (by kernel_rfl) (by simp) rfl (by decide) fun G hG hOw hNm hB => ?_; simp only [go_sem, hG, hOw]
  (repeat' with_reducible first | refine And.intro ?_ ?_ | intro _ | refine exP ?_ ?_); all_goals try omega
  · rename_i h; simp [letterB]; intro; omega
  · rename_i h; simp [letterB]; omega
theorem inS_one (lo hi n : Int) : Gives Tryz.prog 65 [i64 lo, i64 hi, .lst 0 1 [[i64 n]]] (fun _ => bl (inB n lo hi)) := by
  have h := in_ok lo hi [n]
  have e : ([n].all fun n => decide (lo ≤ n) && decide (n ≤ hi)) = inB n lo hi := by simp [inB]
  rw [e] at h
  exact h
theorem word_yes (lo : Nat) (s : ByteArray) (l : List ByteArray) (h : wordB s = true) : Tri Tryz.prog 48 [.ptr 0 0] [(0, .box [strs lo (s :: l)])] (fun _ => .ret (.v (.string s)) [(0, .box [strs lo l])]) := by
  have h1 : inB s.size 1 12 = true := by unfold wordB at h; simp at h; exact h.2
  have h2 : (s.data.toList.any fun b => !letterB b) = false := by unfold wordB at h; rw [Bool.and_eq_true] at h; rw [List.any_eq_false]; intro x hx; have := List.all_eq_true.1 h.1 x hx; simp [this]
  have h3 : s.size ≤ 12 := by simp [inB] at h1; omega
  refine tri_intro (fun _ => false) Tryz.func48 Tryz.ntmps48 rfl (by kernel_rfl) (by simp) rfl (by decide) fun G hG hOw hNm => ?_; simp only [go_sem, hG, hOw]
  (repeat' with_reducible first | refine And.intro ?_ ?_ | intro _ | refine exP ?_ ?_); all_goals try omega
  refine call_tri [(0, 0)] [] (take_yes lo s l) (by (simp only [go_sem]) <;> simp) (by (simp only [go_sem, entH, entH1, nilArr, obOK]) <;> simp) (by simp [injR, apart, toR]) (by simp [coverR, usH, toR]) (by simp [uniqP, lkR, toR]) (by simp [chk, hG]) ?_
  simp only [go_sem, hG, hOw]
  (repeat' with_reducible first | refine And.intro ?_ ?_ | intro _ | refine exP ?_ ?_); all_goals try omega
  refine call_pureA (inS_one 1 12 s.size) ?_
  rw [h1]
  simp only [go_sem, hG, hOw]
  (repeat' with_reducible first | refine And.intro ?_ ?_ | intro _ | refine exP ?_ ?_); all_goals try omega
  refine call_pureA (ContainsFunc_Byte _ [] (fun b => !letterB b) s.data.toList rfl (fun b _ => rword1_ok b)) ?_
  rw [h2]
  simp only [go_sem, hG, hOw]
  (repeat' with_reducible first | refine And.intro ?_ ?_ | intro _ | refine exP ?_ ?_); all_goals try omega
  refine call_tri [] [] (must_yes 111) (by (simp only [go_sem]) <;> simp) (by (simp only [go_sem, entH, entH1, nilArr, obOK]) <;> simp) (by simp [injR, apart, toR]) (by simp [coverR, usH, toR]) (by simp [uniqP, lkR, toR]) (by simp [chk, hG]) ?_
  simp only [go_sem, hG, hOw]
  (repeat' with_reducible first | refine And.intro ?_ ?_ | intro _ | refine exP ?_ ?_); all_goals try omega
  exact ⟨[(0, some 0)], by (simp only [EndT, go_sem, entH, entH1, nilArr, obOK, apart, injR, coverR]) <;> simp⟩
theorem word_not (lo : Nat) (s : ByteArray) (l : List ByteArray) (h : wordB s = false) : Tri Tryz.prog 48 [.ptr 0 0] [(0, .box [strs lo (s :: l)])] (fun _ => .pan (wrV 111) []) := by
  refine tri_intro (fun _ => false) Tryz.func48 Tryz.ntmps48 rfl (by kernel_rfl) (by simp) rfl (by decide) fun G hG hOw hNm => ?_; simp only [go_sem, hG, hOw]
  (repeat' with_reducible first | refine And.intro ?_ ?_ | intro _ | refine exP ?_ ?_); all_goals try omega
  refine call_tri [(0, 0)] [] (take_yes lo s l) (by (simp only [go_sem]) <;> simp) (by (simp only [go_sem, entH, entH1, nilArr, obOK]) <;> simp) (by simp [injR, apart, toR]) (by simp [coverR, usH, toR]) (by simp [uniqP, lkR, toR]) (by simp [chk, hG]) ?_
  simp only [go_sem, hG, hOw]
  (repeat' with_reducible first | refine And.intro ?_ ?_ | intro _ | refine exP ?_ ?_); all_goals try omega
  refine call_pureA (inS_one 1 12 s.size) ?_
  cases h1 : inB s.size 1 12 with
  | false =>
    simp only [go_sem, hG, hOw]
    (repeat' with_reducible first | refine And.intro ?_ ?_ | intro _ | refine exP ?_ ?_); all_goals try omega
    refine call_tri [] [] (must_no 111) (by (simp only [go_sem]) <;> simp) (by (simp only [go_sem, entH, entH1, nilArr, obOK]) <;> simp) (by simp [injR, apart, toR]) (by simp [coverR, usH, toR]) (by simp [uniqP, lkR, toR]) (by simp [chk, hG]) ?_
    simp only [go_sem, hG, hOw]
    exact ⟨rfl, ⟨[], by (simp only [EndT, go_sem, entH, entH1, nilArr, obOK, apart, injR, coverR]) <;> simp⟩⟩
  | true =>
    have h2 : (s.data.toList.any fun b => !letterB b) = true := by unfold wordB at h; rw [h1, Bool.and_true] at h; rw [List.all_eq_false] at h; rw [List.any_eq_true]; obtain ⟨x, hx, h⟩ := h; exact ⟨x, hx, by simpa using h⟩
    have h3 : s.size ≤ 12 := by simp [inB] at h1; omega
    simp only [go_sem, hG, hOw]
    (repeat' with_reducible first | refine And.intro ?_ ?_ | intro _ | refine exP ?_ ?_); all_goals try omega
    refine call_pureA (ContainsFunc_Byte _ [] (fun b => !letterB b) s.data.toList rfl (fun b _ => rword1_ok b)) ?_
    rw [h2]
    simp only [go_sem, hG, hOw]
    (repeat' with_reducible first | refine And.intro ?_ ?_ | intro _ | refine exP ?_ ?_); all_goals try omega
    refine call_tri [] [] (must_no 111) (by (simp only [go_sem]) <;> simp) (by (simp only [go_sem, entH, entH1, nilArr, obOK]) <;> simp) (by simp [injR, apart, toR]) (by simp [coverR, usH, toR]) (by simp [uniqP, lkR, toR]) (by simp [chk, hG]) ?_
    simp only [go_sem, hG, hOw]
    exact ⟨rfl, ⟨[], by (simp only [EndT, go_sem, entH, entH1, nilArr, obOK, apart, injR, coverR]) <;> simp⟩⟩
theorem word_no (lo : Nat) : Tri Tryz.prog 48 [.ptr 0 0] [(0, .box [strs lo []])] (fun _ => .pan (wrV 111) []) := by
  refine tri_intro (fun _ => false) Tryz.func48 Tryz.ntmps48 rfl (by kernel_rfl) (by simp) rfl (by decide) fun G hG hOw hNm => ?_; simp only [go_sem, hG, hOw]
  (repeat' with_reducible first | refine And.intro ?_ ?_ | intro _ | refine exP ?_ ?_); all_goals try omega
  refine call_tri [(0, 0)] [] (take_no lo) (by (simp only [go_sem]) <;> simp) (by (simp only [go_sem, entH, entH1, nilArr, obOK]) <;> simp) (by simp [injR, apart, toR]) (by simp [coverR, usH, toR]) (by simp [uniqP, lkR, toR]) (by simp [chk, hG]) ?_
  simp only [go_sem, hG, hOw]
  exact ⟨rfl, ⟨[], by (simp only [EndT, go_sem, entH, entH1, nilArr, obOK, apart, injR, coverR]) <;> simp⟩⟩
open Go Pm Go.RowKit
set_option maxRecDepth 100000
set_option maxHeartbeats 4000000
theorem words_tri (lo : Nat) (l : List ByteArray) (hl : l.length ≤ 1000) : Tri Tryz.prog 33 [.ptr 0 0] [(0, .box [strs lo l])] (fun n => if wordsB l then .ret (strs n l) [(0, .box [strs lo []])] else .pan (wrV 111) []) := by
  refine tri_intro (fun i => [6].contains i) Tryz.func33 Tryz.ntmps33 rfl (by kernel_rfl) (by simp) rfl (by decide) fun G hG hOw hNm => ?_; simp only [go_sem, hG, hOw]
  (repeat' with_reducible first | refine And.intro ?_ ?_ | intro _ | refine exP ?_ ?_); all_goals try omega
  cases l with
  | nil =>
    refine call_tri [(0, 0)] [] (word_no lo) (by (simp only [go_sem]) <;> simp) (by (simp only [go_sem, entH, entH1, nilArr, obOK]) <;> simp) (by simp [injR, apart, toR]) (by simp [coverR, usH, toR]) (by simp [uniqP, lkR, toR]) (by simp [chk, hG]) ?_
    simp only [go_sem, hG, hOw]
    exact ⟨rfl, ⟨[], by (simp only [EndT, go_sem, entH, entH1, nilArr, obOK, apart, injR, coverR]) <;> simp⟩⟩
  | cons s r =>
    cases hs : wordB s with
    | false =>
      rw [show wordsB (s :: r) = false by simp [wordsB, hs]]
      refine call_tri [(0, 0)] [] (word_not lo s r hs) (by (simp only [go_sem]) <;> simp) (by (simp only [go_sem, entH, entH1, nilArr, obOK]) <;> simp) (by simp [injR, apart, toR]) (by simp [coverR, usH, toR]) (by simp [uniqP, lkR, toR]) (by simp [chk, hG]) ?_
      simp only [go_sem, hG, hOw]
      exact ⟨rfl, ⟨[], by (simp only [EndT, go_sem, entH, entH1, nilArr, obOK, apart, injR, coverR]) <;> simp⟩⟩
    | true =>
      refine call_tri [(0, 0)] [] (word_yes lo s r hs) (by (simp only [go_sem]) <;> simp) (by (simp only [go_sem, entH, entH1, nilArr, obOK]) <;> simp) (by simp [injR, apart, toR]) (by simp [coverR, usH, toR]) (by simp [uniqP, lkR, toR]) (by simp [chk, hG]) ?_
      simp only [go_sem, hG, hOw]
      (repeat' with_reducible first | refine And.intro ?_ ?_ | intro _ | refine exP ?_ ?_); all_goals try omega
      obtain ⟨l, hl'⟩ : ∃ l, l = s :: r := ⟨_, rfl⟩
      rw [← hl'] at hl
      rw [← hl']
      refine semC_cut (fun _ : Unit => St.of [(0, .ptr 0 0), (3, strs G.lo l)] [(0, .box [strs lo []])]) (fun _ => l.all wordB = true) ?_ ?_
      · refine semC_loop (fun k : Nat => St.of [(0, .ptr 0 0), (3, .own 9 0 k 1)] [(0, .box [strs lo (l.drop k)]), (9, .arr 9 1 ((l.take k).map strE))]) (fun k => 1 ≤ k ∧ k ≤ l.length ∧ (l.take k).all wordB = true) (fun k => l.length - k) 1 ⟨by omega, by simp [hl'], by simp [hl', hs]⟩ (by subst hl'; exact entA [(0, some 0), (9, some 6)]) ?_
        rintro k ⟨h1, h2, h3⟩
        refine vc_sound _ _ _ ?_; simp only [go_sem, hG, hOw]
        (repeat' with_reducible first | refine And.intro ?_ ?_ | intro _ | refine exP ?_ ?_); all_goals try omega
        · rename_i hlt
          have hk : k < l.length := by simp at hlt; omega
          rw [List.drop_eq_getElem_cons hk]
          cases hw : wordB l[k] with
          | false =>
            refine call_tri [(0, 0)] [] (word_not lo l[k] (l.drop (k + 1)) hw) (by (simp only [go_sem]) <;> simp) (by (simp only [go_sem, entH, entH1, nilArr, obOK]) <;> simp) (by simp [injR, apart, toR]) (by simp [coverR, usH, toR]) (by simp [uniqP, lkR, toR]) (by simp [chk, hG]) ?_
            simp only [go_sem, hG, hOw]
            rw [if_neg (by simp [wordsB]; intro _; exact ⟨_, List.getElem_mem hk, hw⟩)]
            exact ⟨rfl, ⟨[], by (simp only [EndT, go_sem, entH, entH1, nilArr, obOK, apart, injR, coverR]) <;> simp⟩⟩
          | true =>
            refine call_tri [(0, 0)] [] (word_yes lo l[k] (l.drop (k + 1)) hw) (by (simp only [go_sem]) <;> simp) (by (simp only [go_sem, entH, entH1, nilArr, obOK]) <;> simp) (by simp [injR, apart, toR]) (by simp [coverR, usH, toR]) (by simp [uniqP, lkR, toR]) (by simp [chk, hG]) ?_
            simp only [go_sem, hG, hOw]
            (repeat' with_reducible first | refine And.intro ?_ ?_ | intro _ | refine exP ?_ ?_); all_goals try omega
            refine ⟨k + 1, ⟨by omega, by omega, all_take_succ hk h3 hw⟩, by omega, ?_⟩
            exact entA [(0, some 0), (9, some 17)] (by (simp only [go_sem]) <;> simp [take_snoc_map strE l k hk, strE, Nat.min_eq_left h2]) (by (simp only [go_sem, entH, entH1, nilArr, obOK]) <;> simp [take_snoc_map strE l k hk, strE, Nat.min_eq_left h2])
        · rename_i hlt
          have hk : k = l.length := by simp at hlt; omega
          subst hk
          rw [List.take_length] at h3
          rw [List.take_length, List.drop_length]
          exact ⟨(), h3, fun a w h => (entA [(0, some 0)]) a w (frz_ent (fun i => i == 9) a w h)⟩
      · rintro _ hall
        subst hl'
        rw [if_pos (by unfold wordsB; rw [hall]; simp)]
        simp only [go_sem, hG, hOw]
        (repeat' with_reducible first | refine And.intro ?_ ?_ | intro _ | refine exP ?_ ?_); all_goals try omega
        exact ⟨[(0, some 0)], by (simp only [EndT, go_sem, entH, entH1, nilArr, obOK, apart, injR, coverR]) <;> simp [strE]⟩
end Go.Proofs.YtphadkcpgnkpfaaGreatDoor
