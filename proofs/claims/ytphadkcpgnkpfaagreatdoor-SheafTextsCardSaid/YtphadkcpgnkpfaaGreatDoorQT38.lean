import Derived.Test.YtphadkcpgnkpfaaGreatDoorQT34
import Derived.Test.YtphadkcpgnkpfaaGreatDoorQT37
namespace Go.Proofs.YtphadkcpgnkpfaaGreatDoor
open Go Pm
set_option linter.unusedSimpArgs false
set_option linter.unusedVariables false
set_option maxHeartbeats 4000000
set_option maxRecDepth 100000
theorem next_yes (lo : Nat) (s : ByteArray) (l : List ByteArray) (b : Bool) : Tri Tryz.prog 36 [.ptr 0 0] [(0, .box [strs lo (s :: l), bl b])] (fun _ => .ret (str s) [(0, .box [strs lo l, bl b])]) := by
  refine tri_intro (fun _ => false) Tryz.func36 Tryz.ntmps36 rfl (by kernel_rfl) (by simp) rfl (by decide) fun G hG hOw hNm => ?_; simp only [go_sem, hG, hOw]
  simp (maxSteps := 2000000) only [go_sem, hG, hOw, List.map_cons, List.length_cons, List.getElem_cons_zero]
  (repeat' with_reducible first | refine And.intro ?_ ?_ | intro _ | refine exP ?_ ?_); all_goals try omega
  exact ⟨[(0, some 0)], by (simp only [EndT, go_sem, entH, entH1, nilArr, obOK, apart, injR, coverR]) <;> simp⟩
theorem next_end (lo : Nat) (b : Bool) : Tri Tryz.prog 36 [.ptr 0 0] [(0, .box [strs lo [], bl b])] (fun _ => .ret (str ⟨#[]⟩) [(0, .box [strs lo [], bl true])]) := by
  refine tri_intro (fun _ => false) Tryz.func36 Tryz.ntmps36 rfl (by kernel_rfl) (by simp) rfl (by decide) fun G hG hOw hNm => ?_; simp only [go_sem, hG, hOw]
  (repeat' with_reducible first | refine And.intro ?_ ?_ | intro _ | refine exP ?_ ?_); all_goals try omega
  exact ⟨[(0, some 0)], by (simp only [EndT, go_sem, entH, entH1, nilArr, obOK, apart, injR, coverR]) <;> simp⟩
theorem rnum_yes (lo : Nat) (s : ByteArray) (l : List ByteArray) (b : Bool) (hs : s.size ≤ 100000) : Tri Tryz.prog 37 [.ptr 0 0] [(0, .box [strs lo (s :: l), bl b])] (fun _ => .ret (i64 ((valueS s).getD 0)) [(0, .box [strs lo l, bl (b || !(valueS s).isSome)])]) := by
  refine tri_intro (fun _ => false) Tryz.func37 Tryz.ntmps37 rfl (by kernel_rfl) (by simp) rfl (by decide) fun G hG hOw hNm => ?_; simp only [go_sem, hG, hOw]
  (repeat' with_reducible first | refine And.intro ?_ ?_ | intro _ | refine exP ?_ ?_); all_goals try omega
  refine call_tri [(0, 0)] [] (next_yes lo s l b) (by (simp only [go_sem]) <;> simp) (by (simp only [go_sem, entH, entH1, nilArr, obOK]) <;> simp) (by simp [injR, apart, toR]) (by simp [coverR, usH, toR]) (by simp [uniqP, lkR, toR]) (by simp [chk, hG]) ?_
  simp only [go_sem, hG, hOw]
  (repeat' with_reducible first | refine And.intro ?_ ?_ | intro _ | refine exP ?_ ?_); all_goals try omega
  refine call_pureA (RValue_ok s hs) ?_
  cases b with
  | true =>
    simp only [go_sem, hG, hOw]
    (repeat' with_reducible first | refine And.intro ?_ ?_ | intro _ | refine exP ?_ ?_); all_goals try omega
    exact ⟨[(0, some 0)], by (simp only [EndT, go_sem, entH, entH1, nilArr, obOK, apart, injR, coverR]) <;> simp⟩
  | false =>
    simp only [go_sem, hG, hOw]
    (repeat' with_reducible first | refine And.intro ?_ ?_ | intro _ | refine exP ?_ ?_); all_goals try omega
    exact ⟨[(0, some 0)], by (simp only [EndT, go_sem, entH, entH1, nilArr, obOK, apart, injR, coverR]) <;> simp⟩
theorem rnum_end (lo : Nat) (b : Bool) : Tri Tryz.prog 37 [.ptr 0 0] [(0, .box [strs lo [], bl b])] (fun _ => .ret (i64 0) [(0, .box [strs lo [], bl true])]) := by
  refine tri_intro (fun _ => false) Tryz.func37 Tryz.ntmps37 rfl (by kernel_rfl) (by simp) rfl (by decide) fun G hG hOw hNm => ?_; simp only [go_sem, hG, hOw]
  (repeat' with_reducible first | refine And.intro ?_ ?_ | intro _ | refine exP ?_ ?_); all_goals try omega
  refine call_tri [(0, 0)] [] (next_end lo b) (by (simp only [go_sem]) <;> simp) (by (simp only [go_sem, entH, entH1, nilArr, obOK]) <;> simp) (by simp [injR, apart, toR]) (by simp [coverR, usH, toR]) (by simp [uniqP, lkR, toR]) (by simp [chk, hG]) ?_
  simp only [go_sem, hG, hOw]
  (repeat' with_reducible first | refine And.intro ?_ ?_ | intro _ | refine exP ?_ ?_); all_goals try omega
  refine call_pureA (RValue_ok ⟨#[]⟩ (by decide)) ?_
  rw [show valueS ⟨#[]⟩ = none by decide]
  simp only [go_sem, hG, hOw]
  (repeat' with_reducible first | refine And.intro ?_ ?_ | intro _ | refine exP ?_ ?_); all_goals try omega
  exact ⟨[(0, some 0)], by (simp only [EndT, go_sem, entH, entH1, nilArr, obOK, apart, injR, coverR]) <;> simp⟩
theorem rword_yes (lo : Nat) (s : ByteArray) (l : List ByteArray) (b : Bool) (hs : s.size ≤ 100000) : Tri Tryz.prog 50 [.ptr 0 0] [(0, .box [strs lo (s :: l), bl b])] (fun _ => .ret (str s) [(0, .box [strs lo l, bl (b || !wordB s)])]) := by
  refine tri_intro (fun _ => false) Tryz.func50 Tryz.ntmps50 rfl (by kernel_rfl) (by simp) rfl (by decide) fun G hG hOw hNm => ?_; simp only [go_sem, hG, hOw]
  (repeat' with_reducible first | refine And.intro ?_ ?_ | intro _ | refine exP ?_ ?_); all_goals try omega
  refine call_tri [(0, 0)] [] (next_yes lo s l b) (by (simp only [go_sem]) <;> simp) (by (simp only [go_sem, entH, entH1, nilArr, obOK]) <;> simp) (by simp [injR, apart, toR]) (by simp [coverR, usH, toR]) (by simp [uniqP, lkR, toR]) (by simp [chk, hG]) ?_
  cases b with
  | true =>
    simp only [go_sem, hG, hOw]
    (repeat' with_reducible first | refine And.intro ?_ ?_ | intro _ | refine exP ?_ ?_); all_goals try omega
    exact ⟨[(0, some 0)], by (simp only [EndT, go_sem, entH, entH1, nilArr, obOK, apart, injR, coverR]) <;> simp⟩
  | false =>
    simp only [go_sem, hG, hOw]
    (repeat' with_reducible first | refine And.intro ?_ ?_ | intro _ | refine exP ?_ ?_); all_goals try omega
    refine call_pureA (Word_ok s (by omega)) ?_
    simp only [go_sem, hG, hOw]
    (repeat' with_reducible first | refine And.intro ?_ ?_ | intro _ | refine exP ?_ ?_); all_goals try omega
    exact ⟨[(0, some 0)], by (simp only [EndT, go_sem, entH, entH1, nilArr, obOK, apart, injR, coverR]) <;> simp⟩
theorem rword_end (lo : Nat) (b : Bool) : Tri Tryz.prog 50 [.ptr 0 0] [(0, .box [strs lo [], bl b])] (fun _ => .ret (str ⟨#[]⟩) [(0, .box [strs lo [], bl true])]) := by
  refine tri_intro (fun _ => false) Tryz.func50 Tryz.ntmps50 rfl (by kernel_rfl) (by simp) rfl (by decide) fun G hG hOw hNm => ?_; simp only [go_sem, hG, hOw]
  (repeat' with_reducible first | refine And.intro ?_ ?_ | intro _ | refine exP ?_ ?_); all_goals try omega
  refine call_tri [(0, 0)] [] (next_end lo b) (by (simp only [go_sem]) <;> simp) (by (simp only [go_sem, entH, entH1, nilArr, obOK]) <;> simp) (by simp [injR, apart, toR]) (by simp [coverR, usH, toR]) (by simp [uniqP, lkR, toR]) (by simp [chk, hG]) ?_
  simp only [go_sem, hG, hOw]
  (repeat' with_reducible first | refine And.intro ?_ ?_ | intro _ | refine exP ?_ ?_); all_goals try omega
  exact ⟨[(0, some 0)], by (simp only [EndT, go_sem, entH, entH1, nilArr, obOK, apart, injR, coverR]) <;> simp⟩
theorem rright_ok (lo : Nat) (l : List ByteArray) (b : Bool) : Tri Tryz.prog 39 [.ptr 0 0] [(0, .box [strs lo l, bl b])] (fun _ => .ret (bl (!b && l.isEmpty)) [(0, .box [strs lo l, bl b])]) := by
  refine tri_intro (fun _ => false) Tryz.func39 Tryz.ntmps39 rfl (by kernel_rfl) (by simp) rfl (by decide) fun G hG hOw hNm => ?_; simp only [go_sem, hG, hOw]
  cases b with
  | true =>
    simp only [go_sem, hG, hOw]
    (repeat' with_reducible first | refine And.intro ?_ ?_ | intro _ | refine exP ?_ ?_); all_goals try omega
    exact ⟨[(0, some 0)], by (simp only [EndT, go_sem, entH, entH1, nilArr, obOK, apart, injR, coverR]) <;> simp⟩
  | false =>
    cases l with
    | nil =>
      simp only [go_sem, hG, hOw]
      (repeat' with_reducible first | refine And.intro ?_ ?_ | intro _ | refine exP ?_ ?_); all_goals try omega
      exact ⟨[(0, some 0)], by (simp only [EndT, go_sem, entH, entH1, nilArr, obOK, apart, injR, coverR]) <;> simp⟩
    | cons s r =>
      have h0 : ¬ (r.length : Int) + 1 = 0 := by omega
      simp only [go_sem, hG, hOw]
      (repeat' with_reducible first | refine And.intro ?_ ?_ | intro _ | refine exP ?_ ?_); all_goals try omega
      exact ⟨[(0, some 0)], by (simp only [EndT, go_sem, entH, entH1, nilArr, obOK, apart, injR, coverR]) <;> simp [h0]⟩
def wordsR (l : List ByteArray) : List ByteArray := if l.isEmpty then [⟨#[]⟩] else l
theorem rwords_ok (lo : Nat) (l : List ByteArray) (b : Bool) (hl : l.length ≤ 1000) (hs : ∀ s ∈ l, s.size ≤ 100000) : Tri Tryz.prog 38 [.ptr 0 0] [(0, .box [strs lo l, bl b])] (fun n => .ret (strs n (wordsR l)) [(0, .box [strs lo [], bl (b || !wordsB l)])]) := by
  refine tri_intro (fun _ => false) Tryz.func38 Tryz.ntmps38 rfl (by kernel_rfl) (by simp) rfl (by decide) fun G hG hOw hNm => ?_; simp only [go_sem, hG, hOw]
  (repeat' with_reducible first | refine And.intro ?_ ?_ | intro _ | refine exP ?_ ?_); all_goals try omega
  cases l with
  | nil =>
    refine call_tri [(0, 0)] [] (rword_end lo b) (by (simp only [go_sem]) <;> simp) (by (simp only [go_sem, entH, entH1, nilArr, obOK]) <;> simp) (by simp [injR, apart, toR]) (by simp [coverR, usH, toR]) (by simp [uniqP, lkR, toR]) (by simp [chk, hG]) ?_
    simp only [go_sem, hG, hOw]
    (repeat' with_reducible first | refine And.intro ?_ ?_ | intro _ | refine exP ?_ ?_); all_goals try omega
    refine semC_cut (fun _ : Unit => St.of [(0, .ptr 0 0), (3, strs G.lo [⟨#[]⟩])] [(0, .box [strs lo [], bl true])]) (fun _ => True) ?_ ?_
    · refine semC_loop (fun _ : Unit => St.of [(0, .ptr 0 0), (3, .own 9 0 1 1)] [(0, .box [strs lo [], bl true]), (9, .arr 9 1 [[.v (.string ⟨#[]⟩)]])]) (fun _ => True) (fun _ => 0) () trivial (entA [(0, some 0), (9, some 8)] (by (simp only [go_sem]) <;> simp [strE]) (by (simp only [go_sem, entH, entH1, nilArr, obOK]) <;> simp [strE])) ?_
      rintro ⟨⟩ -
      refine vc_sound _ _ _ ?_; simp only [go_sem, hG, hOw]
      (repeat' with_reducible first | refine And.intro ?_ ?_ | intro _ | refine exP ?_ ?_); all_goals try omega
      exact ⟨(), fun a w h => (entA [(0, some 0)] (by (simp only [go_sem]) <;> simp [strE]) (by (simp only [go_sem, entH, entH1, nilArr, obOK]) <;> simp [strE])) a w (frz_ent (fun i => i == 9) a w h)⟩
    · rintro ⟨⟩ -
      simp only [go_sem, hG, hOw]
      (repeat' with_reducible first | refine And.intro ?_ ?_ | intro _ | refine exP ?_ ?_); all_goals try omega
      exact ⟨[(0, some 0)], by (simp only [EndT, go_sem, entH, entH1, nilArr, obOK, apart, injR, coverR]) <;> simp [wordsB,wordsR,strE]⟩
  | cons s r =>
    refine call_tri [(0, 0)] [] (rword_yes lo s r b (hs s (by simp))) (by (simp only [go_sem]) <;> simp) (by (simp only [go_sem, entH, entH1, nilArr, obOK]) <;> simp) (by simp [injR, apart, toR]) (by simp [coverR, usH, toR]) (by simp [uniqP, lkR, toR]) (by simp [chk, hG]) ?_
    simp only [go_sem, hG, hOw]
    (repeat' with_reducible first | refine And.intro ?_ ?_ | intro _ | refine exP ?_ ?_); all_goals try omega
    obtain ⟨l, hl'⟩ : ∃ l, l = s :: r := ⟨_, rfl⟩
    rw [← hl'] at hl hs
    have hW : wordsR l = l := by rw [hl']; rfl
    have hB : wordsB l = l.all wordB := by rw [hl']; unfold wordsB; simp
    have h0 : 0 < l.length := by rw [hl']; simp
    have hd1 : l.drop 1 = r := by rw [hl']; rfl
    have ht1 : l.take 1 = [s] := by rw [hl']; rfl
    have ha1 : (l.take 1).all wordB = wordB s := by rw [ht1]; simp
    rw [← hl', hW, hB]
    refine semC_cut (fun _ : Unit => St.of [(0, .ptr 0 0), (3, strs G.lo l)] [(0, .box [strs lo [], bl (b || !l.all wordB)])]) (fun _ => True) ?_ ?_
    · refine semC_loop (fun k : Nat => St.of [(0, .ptr 0 0), (3, .own 9 0 k 1)] [(0, .box [strs lo (l.drop k), bl (b || !(l.take k).all wordB)]), (9, .arr 9 1 ((l.take k).map strE))]) (fun k => 1 ≤ k ∧ k ≤ l.length) (fun k => l.length - k) 1 ⟨by omega, by omega⟩ (by simp only [hd1, ha1, ht1]; exact entA [(0, some 0), (9, some 8)]) ?_
      rintro k ⟨h1, h2⟩
      refine vc_sound _ _ _ ?_; simp only [go_sem, hG, hOw]
      (repeat' with_reducible first | refine And.intro ?_ ?_ | intro _ | refine exP ?_ ?_); all_goals try omega
      · rename_i hlt
        have hk : k < l.length := by simp at hlt; omega
        rw [List.drop_eq_getElem_cons hk]
        have hU := rword_yes lo l[k] (l.drop (k + 1)) (b || !(l.take k).all wordB) (hs _ (List.getElem_mem hk))
        refine call_tri [(0, 0)] [] (hU) (by (simp only [go_sem]) <;> simp) (by (simp only [go_sem, entH, entH1, nilArr, obOK]) <;> simp) (by simp [injR, apart, toR]) (by simp [coverR, usH, toR]) (by simp [uniqP, lkR, toR]) (by simp [chk, hG]) ?_
        simp only [go_sem, hG, hOw]
        (repeat' with_reducible first | refine And.intro ?_ ?_ | intro _ | refine exP ?_ ?_); all_goals try omega
        have e : (b || !(l.take k).all wordB || !wordB l[k]) = (b || !(l.take (k + 1)).all wordB) := by
          rw [List.take_add_one, List.getElem?_eq_getElem hk, List.all_append]
          simp [Bool.or_assoc]
        exact ⟨k + 1, ⟨by omega, by omega⟩, by omega, entA [(0, some 0), (9, some 19)] (by (simp only [go_sem]) <;> simp [e,take_snoc_map strE l k hk,strE,Nat.min_eq_left h2]) (by (simp only [go_sem, entH, entH1, nilArr, obOK]) <;> simp [e,take_snoc_map strE l k hk,strE,Nat.min_eq_left h2])⟩
      · rename_i hlt
        have hk : k = l.length := by simp at hlt; omega
        subst hk
        rw [List.take_length, List.drop_length]
        exact ⟨(), fun a w h => (entA [(0, some 0)]) a w (frz_ent (fun i => i == 9) a w h)⟩
    · rintro ⟨⟩ -
      simp only [go_sem, hG, hOw]
      (repeat' with_reducible first | refine And.intro ?_ ?_ | intro _ | refine exP ?_ ?_); all_goals try omega
      exact ⟨[(0, some 0)], by (simp only [EndT, go_sem, entH, entH1, nilArr, obOK, apart, injR, coverR]) <;> simp⟩
end Go.Proofs.YtphadkcpgnkpfaaGreatDoor
