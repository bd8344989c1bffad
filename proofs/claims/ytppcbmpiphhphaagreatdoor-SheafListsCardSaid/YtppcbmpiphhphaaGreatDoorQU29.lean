import Derived.Test.YtppcbmpiphhphaaGreatDoorQU11
import Derived.Test.YtppcbmpiphhphaaGreatDoorQU15
import Derived.Test.YtppcbmpiphhphaaGreatDoorQU16
import Derived.Test.YtppcbmpiphhphaaGreatDoorQU19
import Derived.Test.YtppcbmpiphhphaaGreatDoorQU24
import Derived.Test.YtppcbmpiphhphaaGreatDoorQU26
namespace Go.Proofs.YtppcbmpiphhphaaGreatDoor
open Go Pm Go.RowKit
set_option linter.unusedSimpArgs false
set_option linter.unusedVariables false
set_option maxRecDepth 100000
set_option maxHeartbeats 4000000
def wrV (k : Int) : Value := .iface 123 (.agg #[.int .i64 k])
theorem must_yes (k : Int) : Tri Tryz.prog 34 [bl true, i64 k] [] (fun _ => .ret (.tup []) []) := by
  refine tri_intro (fun _ => false) Tryz.func34 Tryz.ntmps34 rfl (by kernel_rfl) (by simp) rfl (by decide) fun G hG hOw hNm => ?_; simp only [go_sem, hG, hOw]
  (repeat' with_reducible first | refine And.intro ?_ ?_ | intro _ | refine exP ?_ ?_); all_goals try omega
  exact ⟨[], by (simp only [EndT, go_sem, entH, entH1, nilArr, obOK, apart, injR, coverR]) <;> simp⟩
theorem must_no (k : Int) : Tri Tryz.prog 34 [bl false, i64 k] [] (fun _ => .pan (wrV k) []) := by
  refine tri_intro (fun _ => false) Tryz.func34 Tryz.ntmps34 rfl (by kernel_rfl) (by simp) rfl (by decide) fun G hG hOw hNm => ?_; simp only [go_sem, hG, hOw]
  (repeat' with_reducible first | refine And.intro ?_ ?_ | intro _ | refine exP ?_ ?_); all_goals try omega
  refine mki_step [.int .i64 k] rfl rfl (by kernel_rfl) (by simp [chk, hG]) ?_
  simp only [go_sem, hG, hOw]
  (repeat' with_reducible first | refine And.intro ?_ ?_ | intro _ | refine exP ?_ ?_); all_goals try omega
  refine panic_step rfl rfl ?_
  simp only [go_sem, hG, hOw]
  exact ⟨rfl, ⟨[], by (simp only [EndT, go_sem, entH, entH1, nilArr, obOK, apart, injR, coverR]) <;> simp⟩⟩
theorem told_back (k : Int) : TriD Tryz.prog 29 [.ptr 0 0] [(0, .box [i64 0])] (.panicking [{ v := wrV k, recovered := false }]) (.panicking [{ v := wrV k, recovered := true }]) [(0, .box [i64 k])] := by
  refine triD_intro _ _ (wrV k) Tryz.func29 Tryz.ntmps29 rfl (by kernel_rfl) (by simp) rfl rfl rfl rfl (by simp) (fun c₀ cs h => ?_) fun G hG hOw hNm => ?_
  · simp [recoverD, h]
  simp only [go_sem, hG, hOw]
  (repeat' with_reducible first | refine And.intro ?_ ?_ | intro _ | refine exP ?_ ?_); all_goals try omega
  refine ifnil_step (wrV k) false .eql (.inl ⟨rfl, rfl⟩) rfl rfl (.inr ⟨_, _, rfl⟩) (by kernel_rfl) (by simp [chk, hG]) ?_
  simp only [go_sem, hG, hOw]
  (repeat' with_reducible first | refine And.intro ?_ ?_ | intro _ | refine exP ?_ ?_); all_goals try omega
  refine asrt_step [.int .i64 k] rfl rfl (by kernel_rfl) (by simp [chk, hG]) ?_
  simp only [go_sem, hG, hOw]
  (repeat' with_reducible first | refine And.intro ?_ ?_ | intro _ | refine exP ?_ ?_); all_goals try omega
  exact ⟨[(0, some 0)], by (simp only [EndT, go_sem, entH, entH1, nilArr, obOK, apart, injR, coverR]) <;> simp⟩
theorem told_none : TriD Tryz.prog 29 [.ptr 0 0] [(0, .box [i64 0])] .returning .returning [(0, .box [i64 0])] := by
  refine triD_intro _ _ .nilIface Tryz.func29 Tryz.ntmps29 rfl (by kernel_rfl) (by simp) rfl rfl rfl rfl (by simp) (fun c₀ cs h => ?_) fun G hG hOw hNm => ?_
  · simp [recoverD, h]
  simp only [go_sem, hG, hOw]
  (repeat' with_reducible first | refine And.intro ?_ ?_ | intro _ | refine exP ?_ ?_); all_goals try omega
  refine ifnil_step .nilIface true .eql (.inl ⟨rfl, rfl⟩) rfl rfl (.inl rfl) (by kernel_rfl) (by simp [chk, hG]) ?_
  simp only [go_sem, hG, hOw]
  (repeat' with_reducible first | refine And.intro ?_ ?_ | intro _ | refine exP ?_ ?_); all_goals try omega
  exact ⟨[(0, some 0)], by (simp only [EndT, go_sem, entH, entH1, nilArr, obOK, apart, injR, coverR]) <;> simp⟩
theorem take_yes (lo : Nat) (s : ByteArray) (l : List ByteArray) : Tri Tryz.prog 71 [.ptr 0 0] [(0, .box [strs lo (s :: l)])] (fun _ => .ret (.v (.string s)) [(0, .box [strs lo l])]) := by
  refine tri_intro (fun _ => false) Tryz.func71 Tryz.ntmps71 rfl (by kernel_rfl) (by simp) rfl (by decide) fun G hG hOw hNm => ?_; simp only [go_sem, hG, hOw]
  (repeat' with_reducible first | refine And.intro ?_ ?_ | intro _ | refine exP ?_ ?_); all_goals try omega
  refine call_tri [] [] (must_yes 111) (by (simp only [go_sem]) <;> simp) (by (simp only [go_sem, entH, entH1, nilArr, obOK]) <;> simp) (by simp [injR, apart, toR]) (by simp [coverR, usH, toR]) (by simp [uniqP, lkR, toR]) (by simp [chk, hG]) ?_
  simp (maxSteps := 2000000) only [go_sem, hG, hOw, List.map_cons, List.length_cons, List.getElem_cons_zero]
  (repeat' with_reducible first | refine And.intro ?_ ?_ | intro _ | refine exP ?_ ?_); all_goals try omega
  exact ⟨[(0, some 0)], by (simp only [EndT, go_sem, entH, entH1, nilArr, obOK, apart, injR, coverR]) <;> simp⟩
theorem take_no (lo : Nat) : Tri Tryz.prog 71 [.ptr 0 0] [(0, .box [strs lo []])] (fun _ => .pan (wrV 111) []) := by
  refine tri_intro (fun _ => false) Tryz.func71 Tryz.ntmps71 rfl (by kernel_rfl) (by simp) rfl (by decide) fun G hG hOw hNm => ?_; simp only [go_sem, hG, hOw]
  (repeat' with_reducible first | refine And.intro ?_ ?_ | intro _ | refine exP ?_ ?_); all_goals try omega
  refine call_tri [] [] (must_no 111) (by (simp only [go_sem]) <;> simp) (by (simp only [go_sem, entH, entH1, nilArr, obOK]) <;> simp) (by simp [injR, apart, toR]) (by simp [coverR, usH, toR]) (by simp [uniqP, lkR, toR]) (by simp [chk, hG]) ?_
  simp only [go_sem, hG, hOw]
  exact ⟨rfl, ⟨[], by (simp only [EndT, go_sem, entH, entH1, nilArr, obOK, apart, injR, coverR]) <;> simp⟩⟩
theorem rword1_ok (b : UInt8) : Gives Tryz.prog 73 [.v (.int .u8 b.toNat)] (fun _ => bl (!letterB b)) := by
  refine pure_intro (ow := fun _ => false) Tryz.func73 Tryz.ntmps73 rfl (by kernel_rfl) (by simp) rfl (by decide) fun G hG hOw hNm hB => ?_; simp only [go_sem, hG, hOw]
  (repeat' with_reducible first | refine And.intro ?_ ?_ | intro _ | refine exP ?_ ?_); all_goals try omega
  · rename_i h; simp [letterB]; intro; omega
  · rename_i h; simp [letterB]; omega
theorem inSh_one (lo hi n : Int) : Gives Tryz.prog 22 [i64 lo, i64 hi, .lst 0 1 [[i64 n]]] (fun _ => bl (inB n lo hi)) := by
  have h := in_ok lo hi [n]
  have e : ([n].all fun n => decide (lo ≤ n) && decide (n ≤ hi)) = inB n lo hi := by simp [inB]
  rw [e] at h
  exact h
theorem word_yes (lo : Nat) (s : ByteArray) (l : List ByteArray) (h : wordB s = true) : Tri Tryz.prog 33 [.ptr 0 0] [(0, .box [strs lo (s :: l)])] (fun _ => .ret (.v (.string s)) [(0, .box [strs lo l])]) := by
  have h1 : inB s.size 1 12 = true := by unfold wordB at h; simp at h; exact h.2
  have h2 : (s.data.toList.any fun b => !letterB b) = false := by unfold wordB at h; rw [Bool.and_eq_true] at h; rw [List.any_eq_false]; intro x hx; have := List.all_eq_true.1 h.1 x hx; simp [this]
  have h3 : s.size ≤ 12 := by simp [inB] at h1; omega
  refine tri_intro (fun _ => false) Tryz.func33 Tryz.ntmps33 rfl (by kernel_rfl) (by simp) rfl (by decide) fun G hG hOw hNm => ?_; simp only [go_sem, hG, hOw]
  (repeat' with_reducible first | refine And.intro ?_ ?_ | intro _ | refine exP ?_ ?_); all_goals try omega
  refine call_tri [(0, 0)] [] (take_yes lo s l) (by (simp only [go_sem]) <;> simp) (by (simp only [go_sem, entH, entH1, nilArr, obOK]) <;> simp) (by simp [injR, apart, toR]) (by simp [coverR, usH, toR]) (by simp [uniqP, lkR, toR]) (by simp [chk, hG]) ?_
  simp only [go_sem, hG, hOw]
  (repeat' with_reducible first | refine And.intro ?_ ?_ | intro _ | refine exP ?_ ?_); all_goals try omega
  refine call_pureA (inSh_one 1 12 s.size) ?_
  rw [h1]
  simp only [go_sem, hG, hOw]
  (repeat' with_reducible first | refine And.intro ?_ ?_ | intro _ | refine exP ?_ ?_); all_goals try omega
  refine call_pureA (ContainsFunc_Byte _ [] (fun b => !letterB b) s.data.toList rfl (fun b _ => rword1_ok b)) ?_
  rw [h2]
  simp only [go_sem, hG, hOw]
  (repeat' with_reducible first | refine And.intro ?_ ?_ | intro _ | refine exP ?_ ?_); all_goals try omega
  refine call_tri [] [] (must_yes 111) (by (simp only [go_sem]) <;> simp) (by (simp only [go_sem, entH, entH1, nilArr, obOK]) <;> simp) (by simp [injR, apart, toR]) (by simp [coverR, usH, toR]) (by simp [uniqP, lkR, toR]) (by simp [chk, hG]) ?_
  simp only [go_sem, hG, hOw]
  (repeat' with_reducible first | refine And.intro ?_ ?_ | intro _ | refine exP ?_ ?_); all_goals try omega
  exact ⟨[(0, some 0)], by (simp only [EndT, go_sem, entH, entH1, nilArr, obOK, apart, injR, coverR]) <;> simp⟩
theorem word_not (lo : Nat) (s : ByteArray) (l : List ByteArray) (h : wordB s = false) : Tri Tryz.prog 33 [.ptr 0 0] [(0, .box [strs lo (s :: l)])] (fun _ => .pan (wrV 111) []) := by
  refine tri_intro (fun _ => false) Tryz.func33 Tryz.ntmps33 rfl (by kernel_rfl) (by simp) rfl (by decide) fun G hG hOw hNm => ?_; simp only [go_sem, hG, hOw]
  (repeat' with_reducible first | refine And.intro ?_ ?_ | intro _ | refine exP ?_ ?_); all_goals try omega
  refine call_tri [(0, 0)] [] (take_yes lo s l) (by (simp only [go_sem]) <;> simp) (by (simp only [go_sem, entH, entH1, nilArr, obOK]) <;> simp) (by simp [injR, apart, toR]) (by simp [coverR, usH, toR]) (by simp [uniqP, lkR, toR]) (by simp [chk, hG]) ?_
  simp only [go_sem, hG, hOw]
  (repeat' with_reducible first | refine And.intro ?_ ?_ | intro _ | refine exP ?_ ?_); all_goals try omega
  refine call_pureA (inSh_one 1 12 s.size) ?_
  cases h1 : inB s.size 1 12 with
  | false =>
    simp only [go_sem, hG, hOw]
    (repeat' with_reducible first | refine And.intro ?_ ?_ | intro _ | refine exP ?_ ?_); all_goals try omega
    refine call_tri [] [] (must_no 111) (by (simp only [go_sem]) <;> simp) (by (simp only [go_sem, entH, entH1, nilArr, obOK]) <;> simp) (by simp [injR, apart, toR]) (by simp [coverR, usH, toR]) (by simp [uniqP, lkR, toR]) (by simp [chk, hG]) ?_
    simp only [go_sem, hG, hOw]
    exact ⟨rfl, ⟨[], by (simp only [EndT, go_sem, entH, entH1, nilArr, obOK, apart, injR, coverR]) <;> simp⟩⟩
  | true =>
    have h2 : (s.data.toList.any fun b => !letterB b) = true := by unfold wordB at h; rw [h1, Bool.and_true] at h; rw [List.all_eq_false] at h; rw [List.any_eq_true]; obtain ⟨x, hx, h⟩ := h; exact ⟨x, hx, by simpa using h⟩
    have h3 : s.size ≤ 12 := by simp [inB] at h1; omega
    simp only [go_sem, hG, hOw]
    (repeat' with_reducible first | refine And.intro ?_ ?_ | intro _ | refine exP ?_ ?_); all_goals try omega
    refine call_pureA (ContainsFunc_Byte _ [] (fun b => !letterB b) s.data.toList rfl (fun b _ => rword1_ok b)) ?_
    rw [h2]
    simp only [go_sem, hG, hOw]
    (repeat' with_reducible first | refine And.intro ?_ ?_ | intro _ | refine exP ?_ ?_); all_goals try omega
    refine call_tri [] [] (must_no 111) (by (simp only [go_sem]) <;> simp) (by (simp only [go_sem, entH, entH1, nilArr, obOK]) <;> simp) (by simp [injR, apart, toR]) (by simp [coverR, usH, toR]) (by simp [uniqP, lkR, toR]) (by simp [chk, hG]) ?_
    simp only [go_sem, hG, hOw]
    exact ⟨rfl, ⟨[], by (simp only [EndT, go_sem, entH, entH1, nilArr, obOK, apart, injR, coverR]) <;> simp⟩⟩
theorem word_no (lo : Nat) : Tri Tryz.prog 33 [.ptr 0 0] [(0, .box [strs lo []])] (fun _ => .pan (wrV 111) []) := by
  refine tri_intro (fun _ => false) Tryz.func33 Tryz.ntmps33 rfl (by kernel_rfl) (by simp) rfl (by decide) fun G hG hOw hNm => ?_; simp only [go_sem, hG, hOw]
  (repeat' with_reducible first | refine And.intro ?_ ?_ | intro _ | refine exP ?_ ?_); all_goals try omega
  refine call_tri [(0, 0)] [] (take_no lo) (by (simp only [go_sem]) <;> simp) (by (simp only [go_sem, entH, entH1, nilArr, obOK]) <;> simp) (by simp [injR, apart, toR]) (by simp [coverR, usH, toR]) (by simp [uniqP, lkR, toR]) (by simp [chk, hG]) ?_
  simp only [go_sem, hG, hOw]
  exact ⟨rfl, ⟨[], by (simp only [EndT, go_sem, entH, entH1, nilArr, obOK, apart, injR, coverR]) <;> simp⟩⟩
open Go Pm Go.RowKit
set_option maxRecDepth 100000
set_option maxHeartbeats 4000000
theorem words_tri (lo : Nat) (l : List ByteArray) (hl : l.length ≤ 1000) : Tri Tryz.prog 36 [.ptr 0 0] [(0, .box [strs lo l])] (fun n => if wordsB l then .ret (strs n l) [(0, .box [strs lo []])] else .pan (wrV 111) []) := by
  refine tri_intro (fun i => [6].contains i) Tryz.func36 Tryz.ntmps36 rfl (by kernel_rfl) (by simp) rfl (by decide) fun G hG hOw hNm => ?_; simp only [go_sem, hG, hOw]
  (repeat' with_reducible first | refine And.intro ?_ ?_ | intro _ | refine exP ?_ ?_); all_goals try omega
  cases l with
  | nil =>
    refine call_tri [(0, 0)] [] (word_no lo) (by (simp only [go_sem]) <;> simp) (by (simp only [go_sem, entH, entH1, nilArr, obOK]) <;> simp) (by simp [injR, apart, toR]) (by simp [coverR, usH, toR]) (by simp [uniqP, lkR, toR]) (by simp [chk, hG]) ?_
    simp only [go_sem, hG, hOw]
    exact ⟨rfl, ⟨[], by (simp only [EndT, go_sem, entH, entH1, nilArr, obOK, apart, injR, coverR]) <;> simp⟩⟩
  | cons s r =>
    cases hs : wordB s with
    | false =>
      rw [show wordsB (s :: r) = false by simp [wordsB, hs]]
      refine call_tri [(0, 0)] [] (word_not lo s r hs) (by (simp only [go_sem]) <;> simp) (by (simp only [go_sem, entH, entH1, nilArr, obOK]) <;> simp) (by simp [injR, apart, toR]) (by simp [coverR, usH, toR]) (by simp [uniqP, lkR, toR]) (by simp [chk, hG]) ?_
      simp only [go_sem, hG, hOw]
      exact ⟨rfl, ⟨[], by (simp only [EndT, go_sem, entH, entH1, nilArr, obOK, apart, injR, coverR]) <;> simp⟩⟩
    | true =>
      refine call_tri [(0, 0)] [] (word_yes lo s r hs) (by (simp only [go_sem]) <;> simp) (by (simp only [go_sem, entH, entH1, nilArr, obOK]) <;> simp) (by simp [injR, apart, toR]) (by simp [coverR, usH, toR]) (by simp [uniqP, lkR, toR]) (by simp [chk, hG]) ?_
      simp only [go_sem, hG, hOw]
      (repeat' with_reducible first | refine And.intro ?_ ?_ | intro _ | refine exP ?_ ?_); all_goals try omega
      obtain ⟨l, hl'⟩ : ∃ l, l = s :: r := ⟨_, rfl⟩
      rw [← hl'] at hl
      rw [← hl']
      refine semC_cut (fun _ : Unit => St.of [(0, .ptr 0 0), (3, strs G.lo l)] [(0, .box [strs lo []])]) (fun _ => l.all wordB = true) ?_ ?_
      · refine semC_loop (fun k : Nat => St.of [(0, .ptr 0 0), (3, .own 9 0 k 1)] [(0, .box [strs lo (l.drop k)]), (9, .arr 9 1 ((l.take k).map strE))]) (fun k => 1 ≤ k ∧ k ≤ l.length ∧ (l.take k).all wordB = true) (fun k => l.length - k) 1 ⟨by omega, by simp [hl'], by simp [hl', hs]⟩ (by subst hl'; exact entA [(0, some 0), (9, some 6)]) ?_
        rintro k ⟨h1, h2, h3⟩
        refine vc_sound _ _ _ ?_; simp only [go_sem, hG, hOw]
        (repeat' with_reducible first | refine And.intro ?_ ?_ | intro _ | refine exP ?_ ?_); all_goals try omega
        · rename_i hlt
          have hk : k < l.length := by simp at hlt; omega
          rw [List.drop_eq_getElem_cons hk]
          cases hw : wordB l[k] with
          | false =>
            refine call_tri [(0, 0)] [] (word_not lo l[k] (l.drop (k + 1)) hw) (by (simp only [go_sem]) <;> simp) (by (simp only [go_sem, entH, entH1, nilArr, obOK]) <;> simp) (by simp [injR, apart, toR]) (by simp [coverR, usH, toR]) (by simp [uniqP, lkR, toR]) (by simp [chk, hG]) ?_
            simp only [go_sem, hG, hOw]
            rw [if_neg (by simp [wordsB]; intro _; exact ⟨_, List.getElem_mem hk, hw⟩)]
            exact ⟨rfl, ⟨[], by (simp only [EndT, go_sem, entH, entH1, nilArr, obOK, apart, injR, coverR]) <;> simp⟩⟩
          | true =>
            refine call_tri [(0, 0)] [] (word_yes lo l[k] (l.drop (k + 1)) hw) (by (simp only [go_sem]) <;> simp) (by (simp only [go_sem, entH, entH1, nilArr, obOK]) <;> simp) (by simp [injR, apart, toR]) (by simp [coverR, usH, toR]) (by simp [uniqP, lkR, toR]) (by simp [chk, hG]) ?_
            simp only [go_sem, hG, hOw]
            (repeat' with_reducible first | refine And.intro ?_ ?_ | intro _ | refine exP ?_ ?_); all_goals try omega
            refine ⟨k + 1, ⟨by omega, by omega, all_take_succ hk h3 hw⟩, by omega, ?_⟩
            exact entA [(0, some 0), (9, some 17)] (by (simp only [go_sem]) <;> simp [take_snoc_map strE l k hk, strE, Nat.min_eq_left h2]) (by (simp only [go_sem, entH, entH1, nilArr, obOK]) <;> simp [take_snoc_map strE l k hk, strE, Nat.min_eq_left h2])
        · rename_i hlt
          have hk : k = l.length := by simp at hlt; omega
          subst hk
          rw [List.take_length] at h3
          rw [List.take_length, List.drop_length]
          exact ⟨(), h3, fun a w h => (entA [(0, some 0)]) a w (frz_ent (fun i => i == 9) a w h)⟩
      · rintro _ hall
        subst hl'
        rw [if_pos (by unfold wordsB; rw [hall]; simp)]
        simp only [go_sem, hG, hOw]
        (repeat' with_reducible first | refine And.intro ?_ ?_ | intro _ | refine exP ?_ ?_); all_goals try omega
        exact ⟨[(0, some 0)], by (simp only [EndT, go_sem, entH, entH1, nilArr, obOK, apart, injR, coverR]) <;> simp [strE]⟩
open Go Pm Go.RowKit
set_option maxRecDepth 100000
set_option maxHeartbeats 4000000
theorem number_end (lo : Nat) : Tri Tryz.prog 53 [.ptr 0 0] [(0, .box [strs lo []])] (fun _ => .pan (wrV 111) []) := by
  refine tri_intro (fun _ => false) Tryz.func53 Tryz.ntmps53 rfl (by kernel_rfl) (by simp) rfl (by decide) fun G hG hOw hNm => ?_; simp only [go_sem, hG, hOw]
  (repeat' with_reducible first | refine And.intro ?_ ?_ | intro _ | refine exP ?_ ?_); all_goals try omega
  refine call_tri [(0, 0)] [] (take_no lo) (by (simp only [go_sem]) <;> simp) (by (simp only [go_sem, entH, entH1, nilArr, obOK]) <;> simp) (by simp [injR, apart, toR]) (by simp [coverR, usH, toR]) (by simp [uniqP, lkR, toR]) (by simp [chk, hG]) ?_
  simp only [go_sem, hG, hOw]
  exact ⟨rfl, ⟨[], by (simp only [EndT, go_sem, entH, entH1, nilArr, obOK, apart, injR, coverR]) <;> simp⟩⟩
theorem number_yes (lo : Nat) (s : ByteArray) (l : List ByteArray) (v : Int) (hs : s.size ≤ 100000) (h : valueS s = some v) : Tri Tryz.prog 53 [.ptr 0 0] [(0, .box [strs lo (s :: l)])] (fun _ => .ret (i64 v) [(0, .box [strs lo l])]) := by
  obtain ⟨h1, h2, h3, h4⟩ := valueU_inv h
  have hin : inB v 0 9999 = true := by simp [inB, h2, h3]
  have hnb : numB v = s := by rw [numB, h1, bA_self]
  refine tri_intro (fun _ => false) Tryz.func53 Tryz.ntmps53 rfl (by kernel_rfl) (by simp) rfl (by decide) fun G hG hOw hNm => ?_; simp only [go_sem, hG, hOw]
  (repeat' with_reducible first | refine And.intro ?_ ?_ | intro _ | refine exP ?_ ?_); all_goals try omega
  refine call_tri [(0, 0)] [] (take_yes lo s l) (by (simp only [go_sem]) <;> simp) (by (simp only [go_sem, entH, entH1, nilArr, obOK]) <;> simp) (by simp [injR, apart, toR]) (by simp [coverR, usH, toR]) (by simp [uniqP, lkR, toR]) (by simp [chk, hG]) ?_
  simp only [go_sem, hG, hOw]
  (repeat' with_reducible first | refine And.intro ?_ ?_ | intro _ | refine exP ?_ ?_); all_goals try omega
  refine call_pureA (Atoi_yes s hs v h4) ?_
  simp only [go_sem, hG, hOw]
  (repeat' with_reducible first | refine And.intro ?_ ?_ | intro _ | refine exP ?_ ?_); all_goals try omega
  refine ifnil_step .nilIface true .eql (.inl ⟨rfl, rfl⟩) rfl rfl (.inl rfl) (by kernel_rfl) (by simp [chk, hG]) ?_
  simp only [go_sem, hG, hOw]
  (repeat' with_reducible first | refine And.intro ?_ ?_ | intro _ | refine exP ?_ ?_); all_goals try omega
  refine call_pureA (inSh_one 0 9999 v) ?_
  rw [hin]
  simp only [go_sem, hG, hOw]
  (repeat' with_reducible first | refine And.intro ?_ ?_ | intro _ | refine exP ?_ ?_); all_goals try omega
  refine call_pureA (Itoa_ok v h2 h3) ?_
  rw [hnb]
  simp only [go_sem, hG, hOw]
  (repeat' with_reducible first | refine And.intro ?_ ?_ | intro _ | refine exP ?_ ?_); all_goals try omega
  refine call_tri [] [] (must_yes 111) (by (simp only [go_sem]) <;> simp) (by (simp only [go_sem, entH, entH1, nilArr, obOK]) <;> simp) (by simp [injR, apart, toR]) (by simp [coverR, usH, toR]) (by simp [uniqP, lkR, toR]) (by simp [chk, hG]) ?_
  simp only [go_sem, hG, hOw]
  (repeat' with_reducible first | refine And.intro ?_ ?_ | intro _ | refine exP ?_ ?_); all_goals try omega
  exact ⟨[(0, some 0)], by (simp only [EndT, go_sem, entH, entH1, nilArr, obOK, apart, injR, coverR]) <;> simp⟩
theorem number_not (lo : Nat) (s : ByteArray) (l : List ByteArray) (hs : s.size ≤ 100000) (h : valueS s = none) : Tri Tryz.prog 53 [.ptr 0 0] [(0, .box [strs lo (s :: l)])] (fun _ => .pan (wrV 111) []) := by
  refine tri_intro (fun _ => false) Tryz.func53 Tryz.ntmps53 rfl (by kernel_rfl) (by simp) rfl (by decide) fun G hG hOw hNm => ?_; simp only [go_sem, hG, hOw]
  (repeat' with_reducible first | refine And.intro ?_ ?_ | intro _ | refine exP ?_ ?_); all_goals try omega
  refine call_tri [(0, 0)] [] (take_yes lo s l) (by (simp only [go_sem]) <;> simp) (by (simp only [go_sem, entH, entH1, nilArr, obOK]) <;> simp) (by simp [injR, apart, toR]) (by simp [coverR, usH, toR]) (by simp [uniqP, lkR, toR]) (by simp [chk, hG]) ?_
  simp only [go_sem, hG, hOw]
  (repeat' with_reducible first | refine And.intro ?_ ?_ | intro _ | refine exP ?_ ?_); all_goals try omega
  by_cases ha : ∃ v, Lib.atoiAll s.data.toList = .ok v
  · obtain ⟨v, hv⟩ := ha
    have hno : ¬ (inB v 0 9999 = true ∧ numB v = s) := by
      rcases valueS_ok s v hv with q | q
      · rw [h] at q; cases q.2
      · exact q.1
    refine call_pureA (Atoi_yes s hs v hv) ?_
    simp only [go_sem, hG, hOw]
    (repeat' with_reducible first | refine And.intro ?_ ?_ | intro _ | refine exP ?_ ?_); all_goals try omega
    refine ifnil_step .nilIface true .eql (.inl ⟨rfl, rfl⟩) rfl rfl (.inl rfl) (by kernel_rfl) (by simp [chk, hG]) ?_
    simp only [go_sem, hG, hOw]
    (repeat' with_reducible first | refine And.intro ?_ ?_ | intro _ | refine exP ?_ ?_); all_goals try omega
    refine call_pureA (inSh_one 0 9999 v) ?_
    cases hin : inB v 0 9999 with
    | false =>
      simp only [go_sem, hG, hOw]
      (repeat' with_reducible first | refine And.intro ?_ ?_ | intro _ | refine exP ?_ ?_); all_goals try omega
      refine call_tri [] [] (must_no 111) (by (simp only [go_sem]) <;> simp) (by (simp only [go_sem, entH, entH1, nilArr, obOK]) <;> simp) (by simp [injR, apart, toR]) (by simp [coverR, usH, toR]) (by simp [uniqP, lkR, toR]) (by simp [chk, hG]) ?_
      simp only [go_sem, hG, hOw]
      exact ⟨rfl, ⟨[], by (simp only [EndT, go_sem, entH, entH1, nilArr, obOK, apart, injR, coverR]) <;> simp⟩⟩
    | true =>
      have hb : 0 ≤ v ∧ v ≤ 9999 := by simpa [inB] using hin
      simp only [go_sem, hG, hOw]
      (repeat' with_reducible first | refine And.intro ?_ ?_ | intro _ | refine exP ?_ ?_); all_goals try omega
      refine call_pureA (Itoa_ok v hb.1 hb.2) ?_
      have hne : numB v ≠ s := fun e => hno ⟨hin, e⟩
      simp (maxSteps := 2000000) only [go_sem, hG, hOw, hne]
      (repeat' with_reducible first | refine And.intro ?_ ?_ | intro _ | refine exP ?_ ?_); all_goals try omega
      refine call_tri [] [] (must_no 111) (by (simp only [go_sem]) <;> simp) (by (simp only [go_sem, entH, entH1, nilArr, obOK]) <;> simp) (by simp [injR, apart, toR]) (by simp [coverR, usH, toR]) (by simp [uniqP, lkR, toR]) (by simp [chk, hG]) ?_
      simp only [go_sem, hG, hOw]
      exact ⟨rfl, ⟨[], by (simp only [EndT, go_sem, entH, entH1, nilArr, obOK, apart, injR, coverR]) <;> simp⟩⟩
  · have ha' : ∀ v, Lib.atoiAll s.data.toList ≠ .ok v := fun v hv => ha ⟨v, hv⟩
    refine call_some (Atoi_no s hs ha') (by first | exact Subs.refl _ | (repeat' (first | exact Subs.nil | exact Sub.refl _ | exact Sub.lo (Nat.zero_le _) | refine Subs.cons ?_ ?_ | refine Subs.agg ?_ | refine Subs.fp ?_ | refine Subs.tup ?_ | refine Sub.map (Nat.zero_le _) (fun _ => ?_)))) (by first | rfl | simp [allP, all0, pureV, pure0, *]) (by simp [chk, hG]) ?_
    rintro _ ⟨n, t, p, rfl⟩
    simp only [go_sem, hG, hOw]
    (repeat' with_reducible first | refine And.intro ?_ ?_ | intro _ | refine exP ?_ ?_); all_goals try omega
    refine ifnil_step (.iface t p) false .eql (.inl ⟨rfl, rfl⟩) rfl rfl (.inr ⟨_, _, rfl⟩) (by kernel_rfl) (by simp [chk, hG]) ?_
    simp only [go_sem, hG, hOw]
    (repeat' with_reducible first | refine And.intro ?_ ?_ | intro _ | refine exP ?_ ?_); all_goals try omega
    refine call_tri [] [] (must_no 111) (by (simp only [go_sem]) <;> simp) (by (simp only [go_sem, entH, entH1, nilArr, obOK]) <;> simp) (by simp [injR, apart, toR]) (by simp [coverR, usH, toR]) (by simp [uniqP, lkR, toR]) (by simp [chk, hG]) ?_
    simp only [go_sem, hG, hOw]
    exact ⟨rfl, ⟨[], by (simp only [EndT, go_sem, entH, entH1, nilArr, obOK, apart, injR, coverR]) <;> simp⟩⟩
theorem number_bad (lo : Nat) (l : List ByteArray) (hl : ∀ s ∈ l, s.size ≤ 100000) (h : ∀ s r, l = s :: r → valueS s = none) : Tri Tryz.prog 53 [.ptr 0 0] [(0, .box [strs lo l])] (fun _ => .pan (wrV 111) []) := by
  cases l with
  | nil => exact number_end lo
  | cons s r => exact number_not lo s r (hl s (by simp)) (h s r rfl)
def nvS (l : List ByteArray) (j : Nat) : Int := (valueS (l.getD j ByteArray.empty)).getD 0
def okN1 (l : List ByteArray) (j : Nat) : Bool := decide (j < l.length) && (valueS (l.getD j ByteArray.empty)).isSome
def placeB (l : List ByteArray) : Bool := okN1 l 0 && okN1 l 1 && okN1 l 2
theorem okN1_yes {l : List ByteArray} {j : Nat} (h : okN1 l j = true) : ∃ hj : j < l.length, valueS l[j] = some (nvS l j) := by
  simp only [okN1, Bool.and_eq_true, decide_eq_true_eq] at h
  obtain ⟨hj, h2⟩ := h
  have e : l.getD j ByteArray.empty = l[j] := by simp [List.getD, hj]
  rw [e] at h2
  refine ⟨hj, ?_⟩
  unfold nvS
  rw [e]
  cases hv : valueS l[j] with
  | none => rw [hv] at h2; cases h2
  | some v => rfl
theorem okN1_no {l : List ByteArray} {j : Nat} (h : okN1 l j = false) : ∀ s r, l.drop j = s :: r → valueS s = none := by
  intro s r e
  have hj : j < l.length := by
    rcases Nat.lt_or_ge j l.length with q | q
    · exact q
    · rw [List.drop_eq_nil_of_le q] at e; cases e
  have e1 : s = l[j] := by rw [List.drop_eq_getElem_cons hj] at e; exact (List.cons.inj e).1.symm
  simp only [okN1, hj, decide_true, Bool.true_and] at h
  have e2 : l.getD j ByteArray.empty = l[j] := by simp [List.getD, hj]
  rw [e2, ← e1] at h
  cases hv : valueS s with
  | none => rfl
  | some v => rw [hv] at h; cases h
theorem number_at (lo : Nat) (l : List ByteArray) (j : Nat) (hl : ∀ s ∈ l, s.size ≤ 100000) (h : okN1 l j = true) : Tri Tryz.prog 53 [.ptr 0 0] [(0, .box [strs lo (l.drop j)])] (fun _ => .ret (i64 (nvS l j)) [(0, .box [strs lo (l.drop (j + 1))])]) := by
  obtain ⟨hj, hv⟩ := okN1_yes h
  rw [List.drop_eq_getElem_cons hj]
  exact number_yes lo l[j] (l.drop (j + 1)) (nvS l j) (hl _ (List.getElem_mem hj)) hv
theorem number_nat (lo : Nat) (l : List ByteArray) (j : Nat) (hl : ∀ s ∈ l, s.size ≤ 100000) (h : okN1 l j = false) : Tri Tryz.prog 53 [.ptr 0 0] [(0, .box [strs lo (l.drop j)])] (fun _ => .pan (wrV 111) []) :=
  number_bad lo (l.drop j) (fun s hs => hl s (List.mem_of_mem_drop hs)) (okN1_no h)
def plK (l : List ByteArray) : Nat → List V
  | 0 => [i64 0, i64 0, i64 0]
  | 1 => [i64 (nvS l 0), i64 0, i64 0]
  | 2 => [i64 (nvS l 0), i64 (nvS l 1), i64 0]
  | _ => [i64 (nvS l 0), i64 (nvS l 1), i64 (nvS l 2)]
theorem plK_0 (l : List ByteArray) : plK l 0 = [i64 0, i64 0, i64 0] := rfl
theorem plK_1 (l : List ByteArray) : plK l 1 = [i64 (nvS l 0), i64 0, i64 0] := rfl
theorem plK_2 (l : List ByteArray) : plK l 2 = [i64 (nvS l 0), i64 (nvS l 1), i64 0] := rfl
theorem plK_3 (l : List ByteArray) : plK l 3 = [i64 (nvS l 0), i64 (nvS l 1), i64 (nvS l 2)] := rfl
attribute [go_sem] plK_0 plK_1 plK_2 plK_3
theorem place_tri (lo : Nat) (l : List ByteArray) (hl : ∀ s ∈ l, s.size ≤ 100000) : Tri Tryz.prog 32 [.ptr 0 0] [(0, .box [strs lo l])] (fun _ => if placeB l then .ret (.agg (plK l 3)) [(0, .box [strs lo (l.drop 3)])] else .pan (wrV 111) []) := by
  refine tri_intro (fun i => [9].contains i) Tryz.func32 Tryz.ntmps32 rfl (by kernel_rfl) (by simp) rfl (by decide) fun G hG hOw hNm => ?_; simp only [go_sem, hG, hOw]
  (repeat' with_reducible first | refine And.intro ?_ ?_ | intro _ | refine exP ?_ ?_); all_goals try omega
  have c0 : ((0 : Nat) : Int) = 0 := rfl
  have c1 : ((1 : Nat) : Int) = 1 := rfl
  have c2 : ((2 : Nat) : Int) = 2 := rfl
  have c3 : ((3 : Nat) : Int) = 3 := rfl
  have i1 : Int.toNat 1 = 1 := rfl
  have i2 : Int.toNat 2 = 2 := rfl
  refine semC_loop (fun k : Nat => St.of [(0, .ptr 0 0), (2, .ptr 2 0), (3, .ptr 3 0), (9, .own 9 0 3 1), (10, i64 3), (11, i64 k)] [(0, .box [strs lo (l.drop k)]), (2, .box [i64 0, i64 0, i64 0]), (3, .box (plK l k)), (9, .box [.ptr 3 0, .ptr 3 1, .ptr 3 2])]) (fun k => k ≤ 3 ∧ (0 < k → okN1 l 0 = true) ∧ (1 < k → okN1 l 1 = true) ∧ (2 < k → okN1 l 2 = true)) (fun k => 3 - k) 0 (by simp) (by simp only [List.drop_zero]; exact entA [(0, some 0), (2, some 2), (3, some 3), (9, some 9)]) ?_
  rintro k ⟨hk, h1, h2, h3⟩
  have hk4 : k = 0 ∨ k = 1 ∨ k = 2 ∨ k = 3 := by omega
  rcases hk4 with rfl | rfl | rfl | rfl
  all_goals skip
  · refine vc_sound _ _ _ ?_
    simp (maxSteps := 2000000) only [go_sem, hG, hOw, c0, c1, c2, c3, i1, i2, List.getElem_cons_zero, List.getElem_cons_succ]
    (repeat' with_reducible first | refine And.intro ?_ ?_ | intro _ | refine exP ?_ ?_); all_goals try omega
    cases ho : okN1 l 0 with
    | false =>
      have hbad : placeB l = false := by unfold placeB; rw [ho]; simp
      rw [hbad]
      have hU := number_nat lo l 0 hl ho
      rw [List.drop_zero] at hU
      refine call_tri [(0, 0)] [] (hU) (by (simp only [go_sem]) <;> simp) (by (simp only [go_sem, entH, entH1, nilArr, obOK]) <;> simp) (by simp [injR, apart, toR]) (by simp [coverR, usH, toR]) (by simp [uniqP, lkR, toR]) (by simp [chk, hG]) ?_
      simp only [go_sem, hG, hOw]
      exact ⟨rfl, ⟨[], by (simp only [EndT, go_sem, entH, entH1, nilArr, obOK, apart, injR, coverR]) <;> simp⟩⟩
    | true =>
      have hU := number_at lo l 0 hl ho
      rw [List.drop_zero] at hU
      refine call_tri [(0, 0)] [] (hU) (by (simp only [go_sem]) <;> simp) (by (simp only [go_sem, entH, entH1, nilArr, obOK]) <;> simp) (by simp [injR, apart, toR]) (by simp [coverR, usH, toR]) (by simp [uniqP, lkR, toR]) (by simp [chk, hG]) ?_
      simp only [go_sem, hG, hOw]
      (repeat' with_reducible first | refine And.intro ?_ ?_ | intro _ | refine exP ?_ ?_); all_goals try omega
      exact ⟨1, (by simp [ho]), by omega, entA [(0, some 0), (2, some 2), (3, some 3), (9, some 9)]⟩
  · refine vc_sound _ _ _ ?_
    simp (maxSteps := 2000000) only [go_sem, hG, hOw, c0, c1, c2, c3, i1, i2, List.getElem_cons_zero, List.getElem_cons_succ]
    (repeat' with_reducible first | refine And.intro ?_ ?_ | intro _ | refine exP ?_ ?_); all_goals try omega
    cases ho : okN1 l 1 with
    | false =>
      have hbad : placeB l = false := by unfold placeB; rw [ho]; simp
      rw [hbad]
      have hU := number_nat lo l 1 hl ho
      skip
      refine call_tri [(0, 0)] [] (hU) (by (simp only [go_sem]) <;> simp) (by (simp only [go_sem, entH, entH1, nilArr, obOK]) <;> simp) (by simp [injR, apart, toR]) (by simp [coverR, usH, toR]) (by simp [uniqP, lkR, toR]) (by simp [chk, hG]) ?_
      simp only [go_sem, hG, hOw]
      exact ⟨rfl, ⟨[], by (simp only [EndT, go_sem, entH, entH1, nilArr, obOK, apart, injR, coverR]) <;> simp⟩⟩
    | true =>
      have hU := number_at lo l 1 hl ho
      skip
      refine call_tri [(0, 0)] [] (hU) (by (simp only [go_sem]) <;> simp) (by (simp only [go_sem, entH, entH1, nilArr, obOK]) <;> simp) (by simp [injR, apart, toR]) (by simp [coverR, usH, toR]) (by simp [uniqP, lkR, toR]) (by simp [chk, hG]) ?_
      simp only [go_sem, hG, hOw]
      (repeat' with_reducible first | refine And.intro ?_ ?_ | intro _ | refine exP ?_ ?_); all_goals try omega
      have h1' := h1 (by omega)
      exact ⟨2, (by simp [ho, h1']), by omega, entA [(0, some 0), (2, some 2), (3, some 3), (9, some 9)]⟩
  · refine vc_sound _ _ _ ?_
    simp (maxSteps := 2000000) only [go_sem, hG, hOw, c0, c1, c2, c3, i1, i2, List.getElem_cons_zero, List.getElem_cons_succ]
    (repeat' with_reducible first | refine And.intro ?_ ?_ | intro _ | refine exP ?_ ?_); all_goals try omega
    cases ho : okN1 l 2 with
    | false =>
      have hbad : placeB l = false := by unfold placeB; rw [ho]; simp
      rw [hbad]
      have hU := number_nat lo l 2 hl ho
      skip
      refine call_tri [(0, 0)] [] (hU) (by (simp only [go_sem]) <;> simp) (by (simp only [go_sem, entH, entH1, nilArr, obOK]) <;> simp) (by simp [injR, apart, toR]) (by simp [coverR, usH, toR]) (by simp [uniqP, lkR, toR]) (by simp [chk, hG]) ?_
      simp only [go_sem, hG, hOw]
      exact ⟨rfl, ⟨[], by (simp only [EndT, go_sem, entH, entH1, nilArr, obOK, apart, injR, coverR]) <;> simp⟩⟩
    | true =>
      have hU := number_at lo l 2 hl ho
      skip
      refine call_tri [(0, 0)] [] (hU) (by (simp only [go_sem]) <;> simp) (by (simp only [go_sem, entH, entH1, nilArr, obOK]) <;> simp) (by simp [injR, apart, toR]) (by simp [coverR, usH, toR]) (by simp [uniqP, lkR, toR]) (by simp [chk, hG]) ?_
      simp only [go_sem, hG, hOw]
      (repeat' with_reducible first | refine And.intro ?_ ?_ | intro _ | refine exP ?_ ?_); all_goals try omega
      have h1' := h1 (by omega)
      have h2' := h2 (by omega)
      exact ⟨3, (by simp [ho, h1', h2']), by omega, entA [(0, some 0), (2, some 2), (3, some 3), (9, some 9)]⟩
  · have hok : placeB l = true := by unfold placeB; rw [h1 (by omega), h2 (by omega), h3 (by omega)]; rfl
    rw [if_pos hok]
    refine vc_sound _ _ _ ?_
    simp (maxSteps := 2000000) only [go_sem, hG, hOw, c0, c1, c2, c3, i1, i2, List.getElem_cons_zero, List.getElem_cons_succ]
    (repeat' with_reducible first | refine And.intro ?_ ?_ | intro _ | refine exP ?_ ?_); all_goals try omega
    exact ⟨[(0, some 0)], by (simp only [EndT, go_sem, entH, entH1, nilArr, obOK, apart, injR, coverR]) <;> simp⟩
open Go Pm Go.RowKit Go.Sort
set_option maxRecDepth 100000
set_option maxHeartbeats 4000000
def strC (l : List ByteArray) : List V := l.map fun s => .v (.string s)
theorem strC_nil : strC [] = [] := rfl
theorem strC_cons (s : ByteArray) (l : List ByteArray) : strC (s :: l) = .v (.string s) :: strC l := rfl
attribute [go_sem] strC_nil strC_cons
theorem below_setCells {B b : Nat} {w0 : World} (hb : B ≤ b) : ∀ (vs : List Value) (o : Nat) (w : World), Below B w0 w → Below B w0 (w.setCells b o vs)
  | [], _, _, h => h
  | v :: r, o, w, h => below_setCells hb r (o + 1) _ (h.setCell (p := ⟨b, o, none⟩) hb v)
theorem zc_size (n : Nat) : (Builtin.zeroCells (Value.string ⟨#[]⟩).cells n).size = n := by simp [Builtin.zeroCells, Value.cells]
def insW (w : World) (cap : Nat) (x : Value) (cs : List Value) : World :=
  (((w.alloc (.cells ((cs.take 0).toArray ++ Builtin.zeroCells (Value.string ⟨#[]⟩).cells (cs.length + 1 - 0) ++ Builtin.zeroCells (Value.string ⟨#[]⟩).cells (cap - (cs.length + 1))) 9)).drew.setCells w.heap.size 0 [x]).drew).setCells w.heap.size (0 + 1) (cs.drop 0)
theorem insW_ok (w : World) (cap : Nat) (x : ByteArray) (cs : List ByteArray) :
    Below w.heap.size w (insW w cap (.string x) (cs.map .string)) ∧ w.heap.size < (insW w cap (.string x) (cs.map .string)).heap.size ∧ ∀ j v, (x :: cs)[j]? = some v → cellA (insW w cap (.string x) (cs.map .string)) ⟨w.heap.size, j, none⟩ (.string v) := by
  have hb1 : Below w.heap.size w (w.alloc (.cells ((([] : List Value)).toArray ++ Builtin.zeroCells (Value.string ⟨#[]⟩).cells (cs.length + 1 - 0) ++ Builtin.zeroCells (Value.string ⟨#[]⟩).cells (cap - (cs.length + 1))) 9)) := (Below.refl _ w).alloc (Nat.le_refl _) _
  have e0 : insW w cap (.string x) (cs.map .string) = ((((w.alloc (.cells ((([] : List Value)).toArray ++ Builtin.zeroCells (Value.string ⟨#[]⟩).cells (cs.length + 1 - 0) ++ Builtin.zeroCells (Value.string ⟨#[]⟩).cells (cap - (cs.length + 1))) 9)).drew.setCells w.heap.size 0 [.string x]).drew).setCells w.heap.size (0 + 1) (cs.map .string)) := by
    unfold insW; rw [List.length_map, List.take_zero, List.drop_zero]
  rw [e0]
  generalize hA : (([] : List Value)).toArray ++ Builtin.zeroCells (Value.string ⟨#[]⟩).cells (cs.length + 1 - 0) ++ Builtin.zeroCells (Value.string ⟨#[]⟩).cells (cap - (cs.length + 1)) = A at *
  have hAs : cs.length + 1 ≤ A.size := by rw [← hA, Array.size_append, Array.size_append, zc_size, zc_size]; simp
  have hw1 : (w.alloc (.cells A 9)).heap[w.heap.size]? = some (.cells A 9 (0, 0)) := heap_new w _
  generalize hW : w.alloc (.cells A 9) = W at *
  have hcell : ∀ j, j < A.size → (W.cell? ⟨w.heap.size, j, none⟩).isSome = true := fun j hj => by rw [cell_of_row _ _ _ _ _ _ hw1]; simp [hj]
  have hfr : ∀ j, W.frozen? ⟨w.heap.size, j, none⟩ = false := fun j => by simp [World.frozen?, hw1]
  have hB : Below w.heap.size w (((W.drew.setCells w.heap.size 0 [.string x]).drew).setCells w.heap.size (0 + 1) (cs.map .string)) := below_setCells (Nat.le_refl _) _ _ _ (below_setCells (Nat.le_refl _) _ _ _ hb1.drew).drew
  have hcell2 : ∀ j, j < A.size → ((W.drew.setCells w.heap.size 0 [Value.string x]).drew.cell? ⟨w.heap.size, j, none⟩).isSome = true := fun j hj => by
    show ((W.drew.setCells w.heap.size 0 [Value.string x]).cell? ⟨w.heap.size, j, none⟩).isSome = true
    cases j with
    | zero =>
      have := World.cell?_setCells_in w.heap.size [Value.string x] 0 W.drew (fun j hj => by simp at hj; subst hj; exact hcell 0 (by omega)) 0 (by simp)
      simp only [Nat.zero_add] at this
      rw [this]; rfl
    | succ j =>
      rw [World.cell?_setCells_out w.heap.size [Value.string x] 0 W.drew _ (fun _ _ => .inr (by simp))]
      exact hcell (j + 1) hj
  refine ⟨hB, ?_, fun j v hv => ⟨?_, fun _ => ?_⟩⟩
  · have h1 : ((((W.drew.setCells w.heap.size 0 [.string x]).drew).setCells w.heap.size (0 + 1) (cs.map .string)).cell? ⟨w.heap.size, 0, none⟩).isSome = true := by
      rw [World.cell?_setCells_out w.heap.size _ (0 + 1) _ _ (fun _ _ => .inl (by simp))]
      exact hcell2 0 (by omega)
    obtain ⟨u, hu⟩ := Option.isSome_iff_exists.1 h1
    exact Lib.lt_of_cell hu
  · cases j with
    | zero =>
      simp at hv; subst hv
      rw [World.cell?_setCells_out w.heap.size _ (0 + 1) _ _ (fun _ _ => .inl (by simp))]
      show (W.drew.setCells w.heap.size 0 [Value.string x]).cell? ⟨w.heap.size, 0, none⟩ = _
      have := World.cell?_setCells_in w.heap.size [Value.string x] 0 W.drew (fun j hj => by simp at hj; subst hj; exact hcell 0 (by omega)) 0 (by simp)
      simpa using this
    | succ j =>
      simp at hv
      have hj : j < cs.length := (List.getElem?_eq_some_iff.1 hv).1
      have hvj : cs[j] = v := (List.getElem?_eq_some_iff.1 hv).2
      have := World.cell?_setCells_in w.heap.size (cs.map Value.string) (0 + 1) (W.drew.setCells w.heap.size 0 [Value.string x]).drew (fun i hi => hcell2 _ (by simp at hi; omega)) j (by simpa using hj)
      rw [show j + 1 = 0 + 1 + j by omega, this]
      simp [hvj]
  · rw [World.frozen?_setCells]
    show (W.drew.setCells w.heap.size 0 [Value.string x]).frozen? _ = false
    rw [World.frozen?_setCells]
    exact hfr j
theorem insert_call {G : Gh} {o : Oper} {s : St} {Q : Exit → St → Prop} {rest : St → Prop} (id lo' : Nat) (cs : List ByteArray) (x : ByteArray) (hb : s.hget id = some (.box (strC cs))) (hne : 0 < cs.length) (hl : cs.length ≤ 1000) (hc : chk G.n o.dst)
    (h : rest (putD s o.dst (strs G.lo (x :: cs)))) : SemCall Tryz.prog G o s Q rest (.fn (.func 65) []) [.own id 0 cs.length 1, i64 0, strs lo' [x]] := by
  rintro xo l ts ho hx has a w ⟨E, hE⟩
  obtain ⟨ys, hy, hsz, hr⟩ := R.fn_inv (ev_E hE hx.symm)
  have hl3 : l.length = 3 := by have := congrArg List.length has; simpa using this.symm
  match l, hl3, has with
  | [o1, o2, o3], _, has =>
    simp only [List.map_cons, List.map_nil, List.cons.injEq, and_true] at has
    obtain ⟨e1, e2, e3⟩ := has
    have q2 := R.v_inv (ev_E hE e2.symm)
    obtain ⟨b, K, C, hEi, hle, hKC, hv⟩ := R.own_inv (ev_E hE e1.symm)
    obtain ⟨b1, K1, C1, h1, b', zs, t, hb', hh, hzs, hK, hKC', hrr⟩ := hE.hp id _ hb
    rw [hEi] at h1
    cases h1
    cases hb'
    have hcl : (strC cs).length = cs.length := by simp [strC]
    obtain ⟨o', ho', hy1⟩ := hv
    have ho0 : o' = 0 := by rw [ho' (.inr rfl)]
    subst ho0
    have hC : C - 0 = cs.length := by omega
    rw [hC] at hy1
    have q3 := (ev_E hE e3.symm).pure0 rfl
    generalize hY3 : a.eval o3 = y3 at q3
    cases q3 with
    | lst _ _ _ ad n3 cap3 b3 of3 g3 hlo3 hn3 hc3 hl3' ha3 hs3 hz3 hr3 =>
    simp only [List.map_cons, List.map_nil, List.length_cons, List.length_nil] at hn3
    subst hn3
    obtain ⟨rfl, hO3, hb3⟩ := ha3 (by simp)
    have hg3 : g3 0 0 = .string x := by
      have := hr3 0 [.v (.string x)] 0 (.v (.string x)) rfl rfl
      generalize g3 0 0 = z at this
      cases this; rfl
    have hcell3 : w.cell? ⟨b3, of3, none⟩ = some (.string x) := by
      have := (hs3 0 [.v (.string x)] 0 (.v (.string x)) rfl rfl).1
      rw [hg3] at this
      simpa using this
    have hzcell : ∀ j v, (cs.map Value.string)[j]? = some v → w.cell? ⟨b', 0 + j, none⟩ = some v := fun j v hj => by
      simp only [List.getElem?_map, Option.map_eq_some_iff] at hj
      obtain ⟨c, hcj, rfl⟩ := hj
      have hjl : j < cs.length := (List.getElem?_eq_some_iff.1 hcj).1
      rw [cell_of_row _ _ _ _ _ _ hh, Nat.zero_add]
      have hjz : j < zs.size := by omega
      have hz : zs[j]? = some zs[j] := Array.getElem?_eq_getElem hjz
      have := R.v_inv (hrr j (.v (.string c)) zs[j] (by simp [strC, hcj]) hz)
      rw [hz, this]
    have hcalls := Any2.slices_Insert_string_grow Tryz.laysNm222 b' 0 cs.length cs.length 0 b3 of3 1 cap3 (cs.map Value.string) [.string x] w (by omega) (by omega) (Nat.le_refl _) (by omega) (by omega) (by simp) (by simp) hzcell
      (fun j v hj => by
        match j with
        | 0 => simp at hj; subst hj; simpa using hcell3
        | j + 1 => simp at hj) (fun v hv => by
        simp only [List.mem_map] at hv
        obtain ⟨c, _, rfl⟩ := hv
        rfl) (fun v hv => by simp at hv; subst hv; rfl)
    have hys0 : ys = #[] := by
      apply Array.eq_empty_of_size_eq_zero
      simpa using hsz
    have hargs : ([o1, o2, o3].map a.eval).toArray ++ ys = #[.slice (some ⟨b', 0, none⟩) cs.length cs.length, .int .i64 (0 : Nat), .slice (some ⟨b3, of3, none⟩) 1 cap3] := by
      rw [hys0]
      simp [hy1, q2, hY3]
    refine wp_call ho ⟨_, Tryz.func65, by decide, by kernel_rfl⟩ hy (by rw [hargs]; exact hcalls) ?_
    rintro e w' ⟨rfl, hw⟩
    obtain ⟨g1, g2, g3'⟩ := insW_ok w (grownCap w (cs.length + 1) cs.length 9) x cs
    have hw' : w' = insW w (grownCap w (cs.length + 1) cs.length 9) (.string x) (cs.map .string) := by
      rw [hw]
      unfold insW
      rw [List.length_map]
      rfl
    rw [← hw'] at g1 g2 g3'
    refine ⟨_, rfl, _, h, E, (hE.below g1).put (chk_spec hc) (.r0 _ _ ?_)⟩
    refine .lst G.lo 1 _ _ _ _ w.heap.size 0 (fun i j => .string ((x :: cs).getD i ByteArray.empty)) (fun _ => Nat.le_trans G.hlo hE.grow) (by simp) (by rw [List.length_map, List.length_cons]; exact grownCap_ge w (cs.length + 1) cs.length 9) (by simp; omega)
      (fun _ => ⟨rfl, fun hc => Nat.lt_irrefl _ (OT_lt hE _ hc), g2⟩) (fun i y j u h1 h2 => ?_) (fun y hy => ?_) fun i y j u h1 h2 => ?_
    · rw [List.getElem?_map, Option.map_eq_some_iff] at h1
      obtain ⟨c, hc, rfl⟩ := h1
      match j with
      | 0 =>
        have := g3' i c hc
        simp only [Nat.zero_add, Nat.mul_one, Nat.add_zero, List.getD, hc, Option.getD_some]
        exact this
      | j + 1 => simp [strE] at h2
    · simp only [List.mem_map] at hy
      obtain ⟨c, _, rfl⟩ := hy
      rfl
    · rw [List.getElem?_map, Option.map_eq_some_iff] at h1
      obtain ⟨c, hc, rfl⟩ := h1
      match j with
      | 0 =>
        simp [strE] at h2
        subst h2
        simp only [List.getD, hc, Option.getD_some]
        exact .v _
      | j + 1 => simp [strE] at h2
theorem written_ok (x : ByteArray) (cs : List ByteArray) (hne : 0 < cs.length) (hl : cs.length ≤ 900) (hx : x.size ≤ 100000) (hs : ∀ s ∈ cs, s.size ≤ 100000) :
    Tri Tryz.prog 23 [str x, .own 0 0 cs.length 1] [(0, .box (strC cs))] (fun _ => .ret (str (joinS (x :: cs))) []) := by
  refine tri_intro (fun _ => false) Tryz.func23 Tryz.ntmps23 rfl (by kernel_rfl) (by simp) rfl (by decide) fun G hG hOw hNm => ?_; simp only [go_sem, hG, hOw]
  (repeat' with_reducible first | refine And.intro ?_ ?_ | intro _ | refine exP ?_ ?_); all_goals try omega
  refine insert_call 0 _ cs x (by simp [go_sem]) hne (by omega) (by simp [chk, hG]) ?_
  simp only [go_sem, hG, hOw]
  refine call_pureA (Join_ok (x :: cs) (by simp; omega) (by simpa using ⟨hx, hs⟩)) ?_
  simp only [go_sem, hG, hOw]
  (repeat' with_reducible first | refine And.intro ?_ ?_ | intro _ | refine exP ?_ ?_); all_goals try omega
  exact ⟨[], by (simp only [EndT, go_sem, entH, entH1, nilArr, obOK, apart, injR, coverR]) <;> simp⟩
open Go Pm Go.RowKit Go.Sort
set_option maxRecDepth 100000
set_option maxHeartbeats 4000000
theorem numB_size {n : Int} (h0 : 0 ≤ n) (h1 : n ≤ 9999) : (numB n).size ≤ 4 := by
  have := valueU_itoa n h0 h1
  unfold valueU at this
  split at this
  · rename_i h; rw [numB, bA_size]; exact h.2.1
  · cases this
theorem inB_iff {n lo hi : Int} : inB n lo hi = true ↔ lo ≤ n ∧ n ≤ hi := by simp [inB]
def atS (a b c : Int) : ByteArray := joinS [numB a, numB b, numB c]
def in9 (n : Int) : Prop := 0 ≤ n ∧ n ≤ 9999
theorem at_ok (a b c : Int) (ha : in9 a) (hb : in9 b) (hc : in9 c) : Gives Tryz.prog 24 [.agg [i64 a, i64 b, i64 c]] (fun _ => str (atS a b c)) := by
  have sa := numB_size ha.1 ha.2
  have sb := numB_size hb.1 hb.2
  have sc := numB_size hc.1 hc.2
  refine pure_intro (ow := fun i => [12,1000012].contains i) Tryz.func24 Tryz.ntmps24 rfl (by kernel_rfl) (by simp) rfl (by decide) fun G hG hOw hNm hB => ?_; simp only [go_sem, hG, hOw]
  (repeat' with_reducible first | refine And.intro ?_ ?_ | intro _ | refine exP ?_ ?_); all_goals try omega
  refine semC_draw ⟨[12], [], []⟩ [(0, false), (1, false), (2, false), (3, false), (4, false), (5, false), (6, false), (7, false), (8, false), (9, false), (10, true), (11, false)] mixed (by kernel_rfl) ?_
  simp only [pickO, List.getElem?_cons_zero, List.getElem?_cons_succ]
  simp only [go_sem, hG, hOw]
  (repeat' with_reducible first | refine And.intro ?_ ?_ | intro _ | refine exP ?_ ?_); all_goals try omega
  refine ⟨_, callGivesA (Itoa_ok a ha.1 ha.2), ?_⟩
  simp only [go_sem, hG, hOw]
  (repeat' with_reducible first | refine And.intro ?_ ?_ | intro _ | refine exP ?_ ?_); all_goals try omega
  refine ⟨_, callGivesA (Itoa_ok b hb.1 hb.2), ?_⟩
  simp only [go_sem, hG, hOw]
  (repeat' with_reducible first | refine And.intro ?_ ?_ | intro _ | refine exP ?_ ?_); all_goals try omega
  refine ⟨_, callGivesA (Itoa_ok c hc.1 hc.2), ?_⟩
  simp only [go_sem, hG, hOw]
  (repeat' with_reducible first | refine And.intro ?_ ?_ | intro _ | refine exP ?_ ?_); all_goals try omega
  refine call_tri [(0, 12)] [] (written_ok (numB a) [numB b, numB c] (by simp) (by simp) (by omega) (by simp; omega)) (by (simp only [go_sem]) <;> simp) (by (simp only [go_sem, entH, entH1, nilArr, obOK]) <;> simp) (by simp [injR, apart, toR]) (by simp [coverR, usH, toR]) (by simp [uniqP, lkR, toR]) (by simp [chk, hG]) ?_
  simp only [go_sem, hG, hOw]
  (repeat' with_reducible first | refine And.intro ?_ ?_ | intro _ | refine exP ?_ ?_); all_goals try omega
  rfl
theorem allPre_all {f : List Ch → Ch → Bool} {p : Ch → Prop} (h : ∀ pre c, f pre c = true → p c) : ∀ (t pre : List Ch), allPre f pre t = true → ∀ c ∈ t, p c
  | [], _, _ => by simp
  | c :: r, pre, ht => by
    simp only [allPre, Bool.and_eq_true] at ht
    intro d hd
    rcases List.mem_cons.1 hd with rfl | hd
    · exact h _ _ ht.1
    · exact allPre_all h r _ ht.2 d hd
theorem wordB_size {s : ByteArray} (h : wordB s = true) : 1 ≤ s.size ∧ s.size ≤ 12 := by
  simp only [wordB, Bool.and_eq_true, inB_iff] at h; omega
structure VCh (c : Ch) : Prop where
  id : in9 c.id
  len : 1 ≤ c.lines.length ∧ c.lines.length ≤ 10
  ln : ∀ l ∈ c.lines, (1 ≤ l.length ∧ l.length ≤ 10) ∧ ∀ s ∈ l, wordB s = true
theorem chapB_v {pre : List Ch} {c : Ch} (h : chapB pre c = true) : VCh c := by
  simp only [chapB, Bool.and_eq_true, inB_iff, List.all_eq_true, lineB] at h
  obtain ⟨⟨⟨h1, h2⟩, h3⟩, h4⟩ := h
  exact ⟨h1, by omega, fun l hl => ⟨by have := (h4 l hl).1; omega, (h4 l hl).2⟩⟩
theorem text_v {t : List Ch} (h : textB t = true) : (1 ≤ t.length ∧ t.length ≤ 6) ∧ ∀ c ∈ t, VCh c := by
  simp only [textB, Bool.and_eq_true, inB_iff] at h
  exact ⟨by omega, fun c hc => allPre_all (p := VCh) (fun _ _ => chapB_v) t [] h.2 c hc⟩
open Go Pm Go.RowKit Go.Sort
set_option maxRecDepth 100000
set_option maxHeartbeats 4000000
open Go Pm Go.RowKit Go.Sort
set_option maxRecDepth 100000
set_option maxHeartbeats 4000000
def stepT (t : List Ch) (name : ByteArray) (rest : List ByteArray) : Option (List Ch × List ByteArray) :=
  if name = chapterS then match rest with
    | x :: r => (valueS x).map fun v => (t ++ [Ch.mk v []], r)
    | [] => none
  else if name = lineS then match t.getLast? with
    | some c => if wordsB rest then some (t.dropLast ++ [Ch.mk c.id (c.lines ++ [rest])], []) else none
    | none => none
  else none
def stepF (t : List Ch) (s : ByteArray) : Option (List Ch) := match partsS s with
  | [] => none
  | name :: rest => match stepT t name rest with
    | some (t', []) => some t'
    | _ => none
open Go Pm Go.RowKit Go.Sort
set_option maxRecDepth 100000
set_option maxHeartbeats 4000000
theorem rowsB_bd {l : List ByteArray} (h : rowsB l = true) : l.length ≤ 200 ∧ ∀ s ∈ l, s.size ≤ 160 := by
  simp only [rowsB, Bool.and_eq_true, decide_eq_true_eq, List.all_eq_true, rowB] at h
  exact ⟨by omega, fun s hs => by have := (h.1 s hs).1.2; omega⟩
open Go Pm Go.RowKit Go.Sort
set_option maxRecDepth 100000
set_option maxHeartbeats 4000000
end Go.Proofs.YtppcbmpiphhphaaGreatDoor
