import Derived.Test.YtppcbmpiphhphaaGreatDoorQU29
import Derived.Test.YtppcbmpiphhphaaGreatDoorQU39
import Derived.Test.YtppcbmpiphhphaaGreatDoorQU40
namespace Go.Proofs.YtppcbmpiphhphaaGreatDoor
open Go Pm
set_option linter.unusedSimpArgs false
set_option linter.unusedVariables false
set_option maxHeartbeats 4000000
set_option maxRecDepth 100000
def mayE (q : Nat) : List (Value × V) := match q with
  | 0 => []
  | 1 => [(.string afterS, bl true)]
  | 2 => [(.string beforeS, bl true), (.string afterS, bl true)]
  | _ => [(.string afterS, bl true), (.string beforeS, bl true)]
theorem mayE_0 : mayE 0 = [] := rfl
theorem mayE_1 : mayE 1 = [(.string ⟨#[97, 102, 116, 101, 114]⟩, bl true)] := rfl
theorem mayE_2 : mayE 2 = [(.string ⟨#[98, 101, 102, 111, 114, 101]⟩, bl true), (.string ⟨#[97, 102, 116, 101, 114]⟩, bl true)] := rfl
theorem mayE_3 : mayE 3 = [(.string ⟨#[97, 102, 116, 101, 114]⟩, bl true), (.string ⟨#[98, 101, 102, 111, 114, 101]⟩, bl true)] := rfl
attribute [go_sem] mayE_0 mayE_1 mayE_2 mayE_3
theorem kb_ba : keyB (.string ⟨#[98, 101, 102, 111, 114, 101]⟩) (.string ⟨#[97, 102, 116, 101, 114]⟩) = false := by decide
theorem kb_ab : keyB (.string ⟨#[97, 102, 116, 101, 114]⟩) (.string ⟨#[98, 101, 102, 111, 114, 101]⟩) = false := by decide
theorem kb_aa : keyB (.string ⟨#[97, 102, 116, 101, 114]⟩) (.string ⟨#[97, 102, 116, 101, 114]⟩) = true := by decide
theorem kb_bb : keyB (.string ⟨#[98, 101, 102, 111, 114, 101]⟩) (.string ⟨#[98, 101, 102, 111, 114, 101]⟩) = true := by decide
attribute [go_sem] kb_ba kb_ab kb_aa kb_bb
def upQ (q : Nat) : Nat := if q = 0 then 2 else if q = 1 then 3 else q
def onLast (f : Si → Si) (l : List Si) : List Si := match l.getLast? with
  | some s => l.dropLast ++ [f s]
  | none => l
def stepW (s : List Si × Nat) (name : ByteArray) (rest : List ByteArray) : Option ((List Si × Nat) × List ByteArray) :=
  if name = slipS then (if placeB rest then (match rest.drop 3 with
      | w :: r => if wordB w then some ((s.1 ++ [⟨nvS rest 0, nvS rest 1, nvS rest 2, w, ⟨#[]⟩, ⟨#[]⟩⟩], upQ s.2), r) else none
      | [] => none) else none)
  else if name = beforeS then (if 2 ≤ s.2 then (if wordsB rest then some ((onLast (fun x => { x with bef := joinS rest }) s.1, 1), []) else none) else none)
  else if name = afterS then (if 1 ≤ s.2 then (if wordsB rest then some ((onLast (fun x => { x with aft := joinS rest }) s.1, 0), []) else none) else none)
  else none
theorem wslip_ok0 (lo : Nat) (all : List Si) (l : List ByteArray) (hl : ∀ s ∈ l, s.size ≤ 100000) (hp : placeB l = true) (w : ByteArray) (r : List ByteArray) (hd : l.drop 3 = w :: r) (hw : wordB w = true) (hn : all.length ≤ 1000) :
    Tri Tryz.prog 31 [str slipS, .ptr 1 0, .ptr 0 0, .ptr 2 0] [(0, .box [.own 3 0 all.length 6]), (1, .box [strs lo l]), (2, .box [.mp 4]), (3, .arr 62 6 (all.map siC)), (4, .map .string (mayE 0))]
      (fun _ => .ret (.tup []) [(0, .box [.own 5 0 (all.length + 1) 6]), (1, .box [strs lo r]), (2, .box [.mp 4]), (5, .arr 62 6 ((all ++ [(⟨nvS l 0, nvS l 1, nvS l 2, w, ⟨#[]⟩, ⟨#[]⟩⟩ : Si)]).map siC)), (4, .map .string (mayE 2))]) := by
  have hP := place_tri lo l hl
  simp only [hp, hd] at hP
  have hcs : decide (slipS = ⟨#[115, 108, 105, 112]⟩) = true := by decide
  have hq : (all ++ [(⟨nvS l 0, nvS l 1, nvS l 2, w, ⟨#[]⟩, ⟨#[]⟩⟩ : Si)]).map siC = all.map siC ++ [[V.v (Value.int IntKind.i64 (nvS l 0)), V.v (Value.int IntKind.i64 (nvS l 1)), V.v (Value.int IntKind.i64 (nvS l 2)), V.v (Value.string w), V.v (Value.string ByteArray.empty), V.v (Value.string ByteArray.empty)]] := by
    rw [List.map_append]; rfl
  rw [hq]
  refine tri_intro (fun _ => false) Tryz.func31 Tryz.ntmps31 rfl (by kernel_rfl) (by simp) rfl (by decide) fun G hG hOw hNm => ?_; simp only [go_sem, hG, hOw]
  (repeat' with_reducible first | refine And.intro ?_ ?_ | intro _ | refine exP ?_ ?_); all_goals try omega
  rotate_left
  · rename_i h; exact absurd (by decide) h
  refine call_tri [(0, 1)] [] (hP) (by (simp only [go_sem]) <;> simp) (by (simp only [go_sem, entH, entH1, nilArr, obOK]) <;> simp) (by simp [injR, apart, toR]) (by simp [coverR, usH, toR]) (by simp [uniqP, lkR, toR]) (by simp [chk, hG]) ?_
  simp only [go_sem, hG, hOw]
  (repeat' with_reducible first | refine And.intro ?_ ?_ | intro _ | refine exP ?_ ?_); all_goals try omega
  refine call_tri [(0, 1)] [] (word_yes lo w r hw) (by (simp only [go_sem]) <;> simp) (by (simp only [go_sem, entH, entH1, nilArr, obOK]) <;> simp) (by simp [injR, apart, toR]) (by simp [coverR, usH, toR]) (by simp [uniqP, lkR, toR]) (by simp [chk, hG]) ?_
  simp only [go_sem, hG, hOw]
  (repeat' with_reducible first | refine And.intro ?_ ?_ | intro _ | refine exP ?_ ?_); all_goals try omega
  refine semC_draw ⟨[2], [(21, [2]), (22, [2])], []⟩ [(0, false), (1, false), (2, false), (3, false)] mixed (by kernel_rfl) ?_
  simp only [pickO, List.getElem?_cons_zero, List.getElem?_cons_succ]
  simp only [go_sem, hG, hOw]
  (repeat' with_reducible first | refine And.intro ?_ ?_ | intro _ | refine exP ?_ ?_); all_goals try omega
  exact ⟨[(0, some 0), (1, some 1), (2, some 2), (5, some 20), (4, some 4)], by (simp only [EndT, go_sem, entH, entH1, nilArr, obOK, apart, injR, coverR]) <;> simp⟩
theorem wslip_ok1 (lo : Nat) (all : List Si) (l : List ByteArray) (hl : ∀ s ∈ l, s.size ≤ 100000) (hp : placeB l = true) (w : ByteArray) (r : List ByteArray) (hd : l.drop 3 = w :: r) (hw : wordB w = true) (hn : all.length ≤ 1000) :
    Tri Tryz.prog 31 [str slipS, .ptr 1 0, .ptr 0 0, .ptr 2 0] [(0, .box [.own 3 0 all.length 6]), (1, .box [strs lo l]), (2, .box [.mp 4]), (3, .arr 62 6 (all.map siC)), (4, .map .string (mayE 1))]
      (fun _ => .ret (.tup []) [(0, .box [.own 5 0 (all.length + 1) 6]), (1, .box [strs lo r]), (2, .box [.mp 4]), (5, .arr 62 6 ((all ++ [(⟨nvS l 0, nvS l 1, nvS l 2, w, ⟨#[]⟩, ⟨#[]⟩⟩ : Si)]).map siC)), (4, .map .string (mayE 3))]) := by
  have hP := place_tri lo l hl
  simp only [hp, hd] at hP
  have hcs : decide (slipS = ⟨#[115, 108, 105, 112]⟩) = true := by decide
  have hq : (all ++ [(⟨nvS l 0, nvS l 1, nvS l 2, w, ⟨#[]⟩, ⟨#[]⟩⟩ : Si)]).map siC = all.map siC ++ [[V.v (Value.int IntKind.i64 (nvS l 0)), V.v (Value.int IntKind.i64 (nvS l 1)), V.v (Value.int IntKind.i64 (nvS l 2)), V.v (Value.string w), V.v (Value.string ByteArray.empty), V.v (Value.string ByteArray.empty)]] := by
    rw [List.map_append]; rfl
  rw [hq]
  refine tri_intro (fun _ => false) Tryz.func31 Tryz.ntmps31 rfl (by kernel_rfl) (by simp) rfl (by decide) fun G hG hOw hNm => ?_; simp only [go_sem, hG, hOw]
  (repeat' with_reducible first | refine And.intro ?_ ?_ | intro _ | refine exP ?_ ?_); all_goals try omega
  rotate_left
  · rename_i h; exact absurd (by decide) h
  refine call_tri [(0, 1)] [] (hP) (by (simp only [go_sem]) <;> simp) (by (simp only [go_sem, entH, entH1, nilArr, obOK]) <;> simp) (by simp [injR, apart, toR]) (by simp [coverR, usH, toR]) (by simp [uniqP, lkR, toR]) (by simp [chk, hG]) ?_
  simp only [go_sem, hG, hOw]
  (repeat' with_reducible first | refine And.intro ?_ ?_ | intro _ | refine exP ?_ ?_); all_goals try omega
  refine call_tri [(0, 1)] [] (word_yes lo w r hw) (by (simp only [go_sem]) <;> simp) (by (simp only [go_sem, entH, entH1, nilArr, obOK]) <;> simp) (by simp [injR, apart, toR]) (by simp [coverR, usH, toR]) (by simp [uniqP, lkR, toR]) (by simp [chk, hG]) ?_
  simp only [go_sem, hG, hOw]
  (repeat' with_reducible first | refine And.intro ?_ ?_ | intro _ | refine exP ?_ ?_); all_goals try omega
  refine semC_draw ⟨[2], [(21, [2]), (22, [2])], []⟩ [(0, false), (1, false), (2, false), (3, false)] mixed (by kernel_rfl) ?_
  simp only [pickO, List.getElem?_cons_zero, List.getElem?_cons_succ]
  simp only [go_sem, hG, hOw]
  (repeat' with_reducible first | refine And.intro ?_ ?_ | intro _ | refine exP ?_ ?_); all_goals try omega
  exact ⟨[(0, some 0), (1, some 1), (2, some 2), (5, some 20), (4, some 4)], by (simp only [EndT, go_sem, entH, entH1, nilArr, obOK, apart, injR, coverR]) <;> simp⟩
theorem wslip_ok2 (lo : Nat) (all : List Si) (l : List ByteArray) (hl : ∀ s ∈ l, s.size ≤ 100000) (hp : placeB l = true) (w : ByteArray) (r : List ByteArray) (hd : l.drop 3 = w :: r) (hw : wordB w = true) (hn : all.length ≤ 1000) :
    Tri Tryz.prog 31 [str slipS, .ptr 1 0, .ptr 0 0, .ptr 2 0] [(0, .box [.own 3 0 all.length 6]), (1, .box [strs lo l]), (2, .box [.mp 4]), (3, .arr 62 6 (all.map siC)), (4, .map .string (mayE 2))]
      (fun _ => .ret (.tup []) [(0, .box [.own 5 0 (all.length + 1) 6]), (1, .box [strs lo r]), (2, .box [.mp 4]), (5, .arr 62 6 ((all ++ [(⟨nvS l 0, nvS l 1, nvS l 2, w, ⟨#[]⟩, ⟨#[]⟩⟩ : Si)]).map siC)), (4, .map .string (mayE 2))]) := by
  have hP := place_tri lo l hl
  simp only [hp, hd] at hP
  have hcs : decide (slipS = ⟨#[115, 108, 105, 112]⟩) = true := by decide
  have hq : (all ++ [(⟨nvS l 0, nvS l 1, nvS l 2, w, ⟨#[]⟩, ⟨#[]⟩⟩ : Si)]).map siC = all.map siC ++ [[V.v (Value.int IntKind.i64 (nvS l 0)), V.v (Value.int IntKind.i64 (nvS l 1)), V.v (Value.int IntKind.i64 (nvS l 2)), V.v (Value.string w), V.v (Value.string ByteArray.empty), V.v (Value.string ByteArray.empty)]] := by
    rw [List.map_append]; rfl
  rw [hq]
  refine tri_intro (fun _ => false) Tryz.func31 Tryz.ntmps31 rfl (by kernel_rfl) (by simp) rfl (by decide) fun G hG hOw hNm => ?_; simp only [go_sem, hG, hOw]
  (repeat' with_reducible first | refine And.intro ?_ ?_ | intro _ | refine exP ?_ ?_); all_goals try omega
  rotate_left
  · rename_i h; exact absurd (by decide) h
  refine call_tri [(0, 1)] [] (hP) (by (simp only [go_sem]) <;> simp) (by (simp only [go_sem, entH, entH1, nilArr, obOK]) <;> simp) (by simp [injR, apart, toR]) (by simp [coverR, usH, toR]) (by simp [uniqP, lkR, toR]) (by simp [chk, hG]) ?_
  simp only [go_sem, hG, hOw]
  (repeat' with_reducible first | refine And.intro ?_ ?_ | intro _ | refine exP ?_ ?_); all_goals try omega
  refine call_tri [(0, 1)] [] (word_yes lo w r hw) (by (simp only [go_sem]) <;> simp) (by (simp only [go_sem, entH, entH1, nilArr, obOK]) <;> simp) (by simp [injR, apart, toR]) (by simp [coverR, usH, toR]) (by simp [uniqP, lkR, toR]) (by simp [chk, hG]) ?_
  simp only [go_sem, hG, hOw]
  (repeat' with_reducible first | refine And.intro ?_ ?_ | intro _ | refine exP ?_ ?_); all_goals try omega
  refine semC_draw ⟨[2], [(21, [2]), (22, [2])], []⟩ [(0, false), (1, false), (2, false), (3, false)] mixed (by kernel_rfl) ?_
  simp only [pickO, List.getElem?_cons_zero, List.getElem?_cons_succ]
  simp only [go_sem, hG, hOw]
  (repeat' with_reducible first | refine And.intro ?_ ?_ | intro _ | refine exP ?_ ?_); all_goals try omega
  exact ⟨[(0, some 0), (1, some 1), (2, some 2), (5, some 20), (4, some 4)], by (simp only [EndT, go_sem, entH, entH1, nilArr, obOK, apart, injR, coverR]) <;> simp⟩
theorem wslip_ok3 (lo : Nat) (all : List Si) (l : List ByteArray) (hl : ∀ s ∈ l, s.size ≤ 100000) (hp : placeB l = true) (w : ByteArray) (r : List ByteArray) (hd : l.drop 3 = w :: r) (hw : wordB w = true) (hn : all.length ≤ 1000) :
    Tri Tryz.prog 31 [str slipS, .ptr 1 0, .ptr 0 0, .ptr 2 0] [(0, .box [.own 3 0 all.length 6]), (1, .box [strs lo l]), (2, .box [.mp 4]), (3, .arr 62 6 (all.map siC)), (4, .map .string (mayE 3))]
      (fun _ => .ret (.tup []) [(0, .box [.own 5 0 (all.length + 1) 6]), (1, .box [strs lo r]), (2, .box [.mp 4]), (5, .arr 62 6 ((all ++ [(⟨nvS l 0, nvS l 1, nvS l 2, w, ⟨#[]⟩, ⟨#[]⟩⟩ : Si)]).map siC)), (4, .map .string (mayE 3))]) := by
  have hP := place_tri lo l hl
  simp only [hp, hd] at hP
  have hcs : decide (slipS = ⟨#[115, 108, 105, 112]⟩) = true := by decide
  have hq : (all ++ [(⟨nvS l 0, nvS l 1, nvS l 2, w, ⟨#[]⟩, ⟨#[]⟩⟩ : Si)]).map siC = all.map siC ++ [[V.v (Value.int IntKind.i64 (nvS l 0)), V.v (Value.int IntKind.i64 (nvS l 1)), V.v (Value.int IntKind.i64 (nvS l 2)), V.v (Value.string w), V.v (Value.string ByteArray.empty), V.v (Value.string ByteArray.empty)]] := by
    rw [List.map_append]; rfl
  rw [hq]
  refine tri_intro (fun _ => false) Tryz.func31 Tryz.ntmps31 rfl (by kernel_rfl) (by simp) rfl (by decide) fun G hG hOw hNm => ?_; simp only [go_sem, hG, hOw]
  (repeat' with_reducible first | refine And.intro ?_ ?_ | intro _ | refine exP ?_ ?_); all_goals try omega
  rotate_left
  · rename_i h; exact absurd (by decide) h
  refine call_tri [(0, 1)] [] (hP) (by (simp only [go_sem]) <;> simp) (by (simp only [go_sem, entH, entH1, nilArr, obOK]) <;> simp) (by simp [injR, apart, toR]) (by simp [coverR, usH, toR]) (by simp [uniqP, lkR, toR]) (by simp [chk, hG]) ?_
  simp only [go_sem, hG, hOw]
  (repeat' with_reducible first | refine And.intro ?_ ?_ | intro _ | refine exP ?_ ?_); all_goals try omega
  refine call_tri [(0, 1)] [] (word_yes lo w r hw) (by (simp only [go_sem]) <;> simp) (by (simp only [go_sem, entH, entH1, nilArr, obOK]) <;> simp) (by simp [injR, apart, toR]) (by simp [coverR, usH, toR]) (by simp [uniqP, lkR, toR]) (by simp [chk, hG]) ?_
  simp only [go_sem, hG, hOw]
  (repeat' with_reducible first | refine And.intro ?_ ?_ | intro _ | refine exP ?_ ?_); all_goals try omega
  refine semC_draw ⟨[2], [(21, [2]), (22, [2])], []⟩ [(0, false), (1, false), (2, false), (3, false)] mixed (by kernel_rfl) ?_
  simp only [pickO, List.getElem?_cons_zero, List.getElem?_cons_succ]
  simp only [go_sem, hG, hOw]
  (repeat' with_reducible first | refine And.intro ?_ ?_ | intro _ | refine exP ?_ ?_); all_goals try omega
  exact ⟨[(0, some 0), (1, some 1), (2, some 2), (5, some 20), (4, some 4)], by (simp only [EndT, go_sem, entH, entH1, nilArr, obOK, apart, injR, coverR]) <;> simp⟩
open Go Pm
set_option maxHeartbeats 4000000
set_option maxRecDepth 100000
theorem wslip_bad (lo : Nat) (all : List Si) (l : List ByteArray) (hl : ∀ s ∈ l, s.size ≤ 100000) (hp : placeB l = false) (m : List (Value × V)) :
    Tri Tryz.prog 31 [str slipS, .ptr 1 0, .ptr 0 0, .ptr 2 0] [(0, .box [.own 3 0 all.length 6]), (1, .box [strs lo l]), (2, .box [.mp 4]), (3, .arr 62 6 (all.map siC)), (4, .map .string m)]
      (fun _ => .pan (wrV 111) []) := by
  have hP := place_tri lo l hl
  simp only [hp] at hP
  refine tri_intro (fun _ => false) Tryz.func31 Tryz.ntmps31 rfl (by kernel_rfl) (by simp) rfl (by decide) fun G hG hOw hNm => ?_; simp only [go_sem, hG, hOw]
  (repeat' with_reducible first | refine And.intro ?_ ?_ | intro _ | refine exP ?_ ?_); all_goals try omega
  rotate_left
  · rename_i h; exact absurd (by decide) h
  refine call_tri [(0, 1)] [] (hP) (by (simp only [go_sem]) <;> simp) (by (simp only [go_sem, entH, entH1, nilArr, obOK]) <;> simp) (by simp [injR, apart, toR]) (by simp [coverR, usH, toR]) (by simp [uniqP, lkR, toR]) (by simp [chk, hG]) ?_
  simp only [go_sem, hG, hOw]
  exact ⟨rfl, ⟨[], by (simp only [EndT, go_sem, entH, entH1, nilArr, obOK, apart, injR, coverR]) <;> simp⟩⟩
theorem wslip_not (lo : Nat) (all : List Si) (l : List ByteArray) (hl : ∀ s ∈ l, s.size ≤ 100000) (hp : placeB l = true) (w : ByteArray) (r : List ByteArray) (hd : l.drop 3 = w :: r) (hw : wordB w = false) (m : List (Value × V)) :
    Tri Tryz.prog 31 [str slipS, .ptr 1 0, .ptr 0 0, .ptr 2 0] [(0, .box [.own 3 0 all.length 6]), (1, .box [strs lo l]), (2, .box [.mp 4]), (3, .arr 62 6 (all.map siC)), (4, .map .string m)]
      (fun _ => .pan (wrV 111) []) := by
  have hP := place_tri lo l hl
  simp only [hp, hd] at hP
  refine tri_intro (fun _ => false) Tryz.func31 Tryz.ntmps31 rfl (by kernel_rfl) (by simp) rfl (by decide) fun G hG hOw hNm => ?_; simp only [go_sem, hG, hOw]
  (repeat' with_reducible first | refine And.intro ?_ ?_ | intro _ | refine exP ?_ ?_); all_goals try omega
  rotate_left
  · rename_i h; exact absurd (by decide) h
  refine call_tri [(0, 1)] [] (hP) (by (simp only [go_sem]) <;> simp) (by (simp only [go_sem, entH, entH1, nilArr, obOK]) <;> simp) (by simp [injR, apart, toR]) (by simp [coverR, usH, toR]) (by simp [uniqP, lkR, toR]) (by simp [chk, hG]) ?_
  simp only [go_sem, hG, hOw]
  (repeat' with_reducible first | refine And.intro ?_ ?_ | intro _ | refine exP ?_ ?_); all_goals try omega
  refine call_tri [(0, 1)] [] (word_not lo w r hw) (by (simp only [go_sem]) <;> simp) (by (simp only [go_sem, entH, entH1, nilArr, obOK]) <;> simp) (by simp [injR, apart, toR]) (by simp [coverR, usH, toR]) (by simp [uniqP, lkR, toR]) (by simp [chk, hG]) ?_
  simp only [go_sem, hG, hOw]
  exact ⟨rfl, ⟨[], by (simp only [EndT, go_sem, entH, entH1, nilArr, obOK, apart, injR, coverR]) <;> simp⟩⟩
theorem wslip_end (lo : Nat) (all : List Si) (l : List ByteArray) (hl : ∀ s ∈ l, s.size ≤ 100000) (hp : placeB l = true) (w : ByteArray) (r : List ByteArray) (hd : l.drop 3 = []) (hw : wordB w = false) (m : List (Value × V)) :
    Tri Tryz.prog 31 [str slipS, .ptr 1 0, .ptr 0 0, .ptr 2 0] [(0, .box [.own 3 0 all.length 6]), (1, .box [strs lo l]), (2, .box [.mp 4]), (3, .arr 62 6 (all.map siC)), (4, .map .string m)]
      (fun _ => .pan (wrV 111) []) := by
  have hP := place_tri lo l hl
  simp only [hp, hd] at hP
  refine tri_intro (fun _ => false) Tryz.func31 Tryz.ntmps31 rfl (by kernel_rfl) (by simp) rfl (by decide) fun G hG hOw hNm => ?_; simp only [go_sem, hG, hOw]
  (repeat' with_reducible first | refine And.intro ?_ ?_ | intro _ | refine exP ?_ ?_); all_goals try omega
  rotate_left
  · rename_i h; exact absurd (by decide) h
  refine call_tri [(0, 1)] [] (hP) (by (simp only [go_sem]) <;> simp) (by (simp only [go_sem, entH, entH1, nilArr, obOK]) <;> simp) (by simp [injR, apart, toR]) (by simp [coverR, usH, toR]) (by simp [uniqP, lkR, toR]) (by simp [chk, hG]) ?_
  simp only [go_sem, hG, hOw]
  (repeat' with_reducible first | refine And.intro ?_ ?_ | intro _ | refine exP ?_ ?_); all_goals try omega
  refine call_tri [(0, 1)] [] (word_no lo) (by (simp only [go_sem]) <;> simp) (by (simp only [go_sem, entH, entH1, nilArr, obOK]) <;> simp) (by simp [injR, apart, toR]) (by simp [coverR, usH, toR]) (by simp [uniqP, lkR, toR]) (by simp [chk, hG]) ?_
  simp only [go_sem, hG, hOw]
  exact ⟨rfl, ⟨[], by (simp only [EndT, go_sem, entH, entH1, nilArr, obOK, apart, injR, coverR]) <;> simp⟩⟩
theorem wnone (lo : Nat) (all : List Si) (name : ByteArray) (l : List ByteArray) (hn : ¬ name = slipS) (m : List (Value × V)) (hm : lkM m (.string name) = none) :
    Tri Tryz.prog 31 [str name, .ptr 1 0, .ptr 0 0, .ptr 2 0] [(0, .box [.own 3 0 all.length 6]), (1, .box [strs lo l]), (2, .box [.mp 4]), (3, .arr 62 6 (all.map siC)), (4, .map .string m)]
      (fun _ => .pan (wrV 111) []) := by
  refine tri_intro (fun _ => false) Tryz.func31 Tryz.ntmps31 rfl (by kernel_rfl) (by simp) rfl (by decide) fun G hG hOw hNm => ?_; simp only [go_sem, hG, hOw]
  (repeat' with_reducible first | refine And.intro ?_ ?_ | intro _ | refine exP ?_ ?_); all_goals try omega
  · rename_i h; exact absurd h hn
  rw [hm]
  refine call_tri [] [] (must_no 111) (by (simp only [go_sem]) <;> simp) (by (simp only [go_sem, entH, entH1, nilArr, obOK]) <;> simp) (by simp [injR, apart, toR]) (by simp [coverR, usH, toR]) (by simp [uniqP, lkR, toR]) (by simp [chk, hG]) ?_
  simp only [go_sem, hG, hOw]
  exact ⟨rfl, ⟨[], by (simp only [EndT, go_sem, entH, entH1, nilArr, obOK, apart, injR, coverR]) <;> simp⟩⟩
theorem wbef2_ok (lo : Nat) (i : List Si) (s : Si) (r : List ByteArray) (hr : wordsB r = true) (hrl : r.length ≤ 1000) (hrs : ∀ x ∈ r, x.size ≤ 100000) (hi : i.length ≤ 1000) :
    Tri Tryz.prog 31 [str beforeS, .ptr 1 0, .ptr 0 0, .ptr 2 0] [(0, .box [.own 3 0 (i.length + 1) 6]), (1, .box [strs lo r]), (2, .box [.mp 4]), (3, .arr 62 6 (i.map siC ++ [siC s])), (4, .map .string (mayE 2))]
      (fun _ => .ret (.tup []) [(0, .box [.own 5 0 (i.length + 1) 6]), (1, .box [strs lo []]), (2, .box [.mp 4]), (5, .arr 62 6 (i.map siC ++ [siC { s with bef := joinS r }])), (4, .map .string (mayE 1))]) := by
  have hW := words_tri lo r hrl
  simp only [hr, if_true] at hW
  have h1 : (((i.length + 1 : Nat) : Int) - 1).toNat = i.length := by omega
  have g1 : ∀ (a : List V) (h : i.length < (i.map siC ++ [a]).length), (i.map siC ++ [a])[i.length]'h = a := fun a h => by simp
  have g2 : ∀ (a b : List V), (i.map siC ++ [a]).set i.length b = i.map siC ++ [b] := fun a b => by rw [List.set_append_right _ _ (by simp)]; simp
  unfold beforeS
  refine tri_intro (fun _ => false) Tryz.func31 Tryz.ntmps31 rfl (by kernel_rfl) (by simp) rfl (by decide) fun G hG hOw hNm => ?_; simp only [go_sem, hG, hOw]
  (repeat' with_reducible first | refine And.intro ?_ ?_ | intro _ | refine exP ?_ ?_); all_goals try omega
  · rename_i h; exact absurd h (by decide)
  refine call_tri [] [] (must_yes 111) (by (simp only [go_sem]) <;> simp) (by (simp only [go_sem, entH, entH1, nilArr, obOK]) <;> simp) (by simp [injR, apart, toR]) (by simp [coverR, usH, toR]) (by simp [uniqP, lkR, toR]) (by simp [chk, hG]) ?_
  simp (maxSteps := 2000000) only [go_sem, hG, hOw, h1,g1,g2]
  (repeat' with_reducible first | refine And.intro ?_ ?_ | intro _ | refine exP ?_ ?_); all_goals try omega
  refine call_tri [(0, 1)] [] (hW) (by (simp only [go_sem]) <;> simp) (by (simp only [go_sem, entH, entH1, nilArr, obOK]) <;> simp) (by simp [injR, apart, toR]) (by simp [coverR, usH, toR]) (by simp [uniqP, lkR, toR]) (by simp [chk, hG]) ?_
  simp (maxSteps := 2000000) only [go_sem, hG, hOw, h1,g1,g2]
  (repeat' with_reducible first | refine And.intro ?_ ?_ | intro _ | refine exP ?_ ?_); all_goals try omega
  refine call_pureA (Join_ok r hrl hrs) ?_
  simp (maxSteps := 2000000) only [go_sem, hG, hOw, h1,g1,g2]
  (repeat' with_reducible first | refine And.intro ?_ ?_ | intro _ | refine exP ?_ ?_); all_goals try omega
  all_goals first | (rename_i h; exact absurd h (by decide)) | exact ⟨[(0, some 0), (1, some 1), (2, some 2), (5, some 3), (4, some 4)], by (simp only [EndT, go_sem, entH, entH1, nilArr, obOK, apart, injR, coverR]) <;> simp⟩
theorem wbef2_bad (lo : Nat) (i : List Si) (s : Si) (r : List ByteArray) (hr : wordsB r = false) (hrl : r.length ≤ 1000) (hi : i.length ≤ 1000) :
    Tri Tryz.prog 31 [str beforeS, .ptr 1 0, .ptr 0 0, .ptr 2 0] [(0, .box [.own 3 0 (i.length + 1) 6]), (1, .box [strs lo r]), (2, .box [.mp 4]), (3, .arr 62 6 (i.map siC ++ [siC s])), (4, .map .string (mayE 2))]
      (fun _ => .pan (wrV 111) []) := by
  have hW := words_tri lo r hrl
  simp only [hr, Bool.false_eq_true, if_false] at hW
  have h1 : (((i.length + 1 : Nat) : Int) - 1).toNat = i.length := by omega
  have g1 : ∀ (a : List V) (h : i.length < (i.map siC ++ [a]).length), (i.map siC ++ [a])[i.length]'h = a := fun a h => by simp
  unfold beforeS
  refine tri_intro (fun _ => false) Tryz.func31 Tryz.ntmps31 rfl (by kernel_rfl) (by simp) rfl (by decide) fun G hG hOw hNm => ?_; simp only [go_sem, hG, hOw]
  (repeat' with_reducible first | refine And.intro ?_ ?_ | intro _ | refine exP ?_ ?_); all_goals try omega
  · rename_i h; exact absurd h (by decide)
  refine call_tri [] [] (must_yes 111) (by (simp only [go_sem]) <;> simp) (by (simp only [go_sem, entH, entH1, nilArr, obOK]) <;> simp) (by simp [injR, apart, toR]) (by simp [coverR, usH, toR]) (by simp [uniqP, lkR, toR]) (by simp [chk, hG]) ?_
  simp (maxSteps := 2000000) only [go_sem, hG, hOw, h1,g1]
  (repeat' with_reducible first | refine And.intro ?_ ?_ | intro _ | refine exP ?_ ?_); all_goals try omega
  refine call_tri [(0, 1)] [] (hW) (by (simp only [go_sem]) <;> simp) (by (simp only [go_sem, entH, entH1, nilArr, obOK]) <;> simp) (by simp [injR, apart, toR]) (by simp [coverR, usH, toR]) (by simp [uniqP, lkR, toR]) (by simp [chk, hG]) ?_
  simp only [go_sem, hG, hOw]
  exact ⟨rfl, ⟨[], by (simp only [EndT, go_sem, entH, entH1, nilArr, obOK, apart, injR, coverR]) <;> simp⟩⟩
theorem wbef3_ok (lo : Nat) (i : List Si) (s : Si) (r : List ByteArray) (hr : wordsB r = true) (hrl : r.length ≤ 1000) (hrs : ∀ x ∈ r, x.size ≤ 100000) (hi : i.length ≤ 1000) :
    Tri Tryz.prog 31 [str beforeS, .ptr 1 0, .ptr 0 0, .ptr 2 0] [(0, .box [.own 3 0 (i.length + 1) 6]), (1, .box [strs lo r]), (2, .box [.mp 4]), (3, .arr 62 6 (i.map siC ++ [siC s])), (4, .map .string (mayE 3))]
      (fun _ => .ret (.tup []) [(0, .box [.own 5 0 (i.length + 1) 6]), (1, .box [strs lo []]), (2, .box [.mp 4]), (5, .arr 62 6 (i.map siC ++ [siC { s with bef := joinS r }])), (4, .map .string (mayE 1))]) := by
  have hW := words_tri lo r hrl
  simp only [hr, if_true] at hW
  have h1 : (((i.length + 1 : Nat) : Int) - 1).toNat = i.length := by omega
  have g1 : ∀ (a : List V) (h : i.length < (i.map siC ++ [a]).length), (i.map siC ++ [a])[i.length]'h = a := fun a h => by simp
  have g2 : ∀ (a b : List V), (i.map siC ++ [a]).set i.length b = i.map siC ++ [b] := fun a b => by rw [List.set_append_right _ _ (by simp)]; simp
  unfold beforeS
  refine tri_intro (fun _ => false) Tryz.func31 Tryz.ntmps31 rfl (by kernel_rfl) (by simp) rfl (by decide) fun G hG hOw hNm => ?_; simp only [go_sem, hG, hOw]
  (repeat' with_reducible first | refine And.intro ?_ ?_ | intro _ | refine exP ?_ ?_); all_goals try omega
  · rename_i h; exact absurd h (by decide)
  refine call_tri [] [] (must_yes 111) (by (simp only [go_sem]) <;> simp) (by (simp only [go_sem, entH, entH1, nilArr, obOK]) <;> simp) (by simp [injR, apart, toR]) (by simp [coverR, usH, toR]) (by simp [uniqP, lkR, toR]) (by simp [chk, hG]) ?_
  simp (maxSteps := 2000000) only [go_sem, hG, hOw, h1,g1,g2]
  (repeat' with_reducible first | refine And.intro ?_ ?_ | intro _ | refine exP ?_ ?_); all_goals try omega
  refine call_tri [(0, 1)] [] (hW) (by (simp only [go_sem]) <;> simp) (by (simp only [go_sem, entH, entH1, nilArr, obOK]) <;> simp) (by simp [injR, apart, toR]) (by simp [coverR, usH, toR]) (by simp [uniqP, lkR, toR]) (by simp [chk, hG]) ?_
  simp (maxSteps := 2000000) only [go_sem, hG, hOw, h1,g1,g2]
  (repeat' with_reducible first | refine And.intro ?_ ?_ | intro _ | refine exP ?_ ?_); all_goals try omega
  refine call_pureA (Join_ok r hrl hrs) ?_
  simp (maxSteps := 2000000) only [go_sem, hG, hOw, h1,g1,g2]
  (repeat' with_reducible first | refine And.intro ?_ ?_ | intro _ | refine exP ?_ ?_); all_goals try omega
  all_goals first | (rename_i h; exact absurd h (by decide)) | exact ⟨[(0, some 0), (1, some 1), (2, some 2), (5, some 3), (4, some 4)], by (simp only [EndT, go_sem, entH, entH1, nilArr, obOK, apart, injR, coverR]) <;> simp⟩
theorem wbef3_bad (lo : Nat) (i : List Si) (s : Si) (r : List ByteArray) (hr : wordsB r = false) (hrl : r.length ≤ 1000) (hi : i.length ≤ 1000) :
    Tri Tryz.prog 31 [str beforeS, .ptr 1 0, .ptr 0 0, .ptr 2 0] [(0, .box [.own 3 0 (i.length + 1) 6]), (1, .box [strs lo r]), (2, .box [.mp 4]), (3, .arr 62 6 (i.map siC ++ [siC s])), (4, .map .string (mayE 3))]
      (fun _ => .pan (wrV 111) []) := by
  have hW := words_tri lo r hrl
  simp only [hr, Bool.false_eq_true, if_false] at hW
  have h1 : (((i.length + 1 : Nat) : Int) - 1).toNat = i.length := by omega
  have g1 : ∀ (a : List V) (h : i.length < (i.map siC ++ [a]).length), (i.map siC ++ [a])[i.length]'h = a := fun a h => by simp
  unfold beforeS
  refine tri_intro (fun _ => false) Tryz.func31 Tryz.ntmps31 rfl (by kernel_rfl) (by simp) rfl (by decide) fun G hG hOw hNm => ?_; simp only [go_sem, hG, hOw]
  (repeat' with_reducible first | refine And.intro ?_ ?_ | intro _ | refine exP ?_ ?_); all_goals try omega
  · rename_i h; exact absurd h (by decide)
  refine call_tri [] [] (must_yes 111) (by (simp only [go_sem]) <;> simp) (by (simp only [go_sem, entH, entH1, nilArr, obOK]) <;> simp) (by simp [injR, apart, toR]) (by simp [coverR, usH, toR]) (by simp [uniqP, lkR, toR]) (by simp [chk, hG]) ?_
  simp (maxSteps := 2000000) only [go_sem, hG, hOw, h1,g1]
  (repeat' with_reducible first | refine And.intro ?_ ?_ | intro _ | refine exP ?_ ?_); all_goals try omega
  refine call_tri [(0, 1)] [] (hW) (by (simp only [go_sem]) <;> simp) (by (simp only [go_sem, entH, entH1, nilArr, obOK]) <;> simp) (by simp [injR, apart, toR]) (by simp [coverR, usH, toR]) (by simp [uniqP, lkR, toR]) (by simp [chk, hG]) ?_
  simp only [go_sem, hG, hOw]
  exact ⟨rfl, ⟨[], by (simp only [EndT, go_sem, entH, entH1, nilArr, obOK, apart, injR, coverR]) <;> simp⟩⟩
theorem waft1_ok (lo : Nat) (i : List Si) (s : Si) (r : List ByteArray) (hr : wordsB r = true) (hrl : r.length ≤ 1000) (hrs : ∀ x ∈ r, x.size ≤ 100000) (hi : i.length ≤ 1000) :
    Tri Tryz.prog 31 [str afterS, .ptr 1 0, .ptr 0 0, .ptr 2 0] [(0, .box [.own 3 0 (i.length + 1) 6]), (1, .box [strs lo r]), (2, .box [.mp 4]), (3, .arr 62 6 (i.map siC ++ [siC s])), (4, .map .string (mayE 1))]
      (fun _ => .ret (.tup []) [(0, .box [.own 5 0 (i.length + 1) 6]), (1, .box [strs lo []]), (2, .box [.mp 4]), (5, .arr 62 6 (i.map siC ++ [siC { s with aft := joinS r }])), (4, .map .string (mayE 0))]) := by
  have hW := words_tri lo r hrl
  simp only [hr, if_true] at hW
  have h1 : (((i.length + 1 : Nat) : Int) - 1).toNat = i.length := by omega
  have g1 : ∀ (a : List V) (h : i.length < (i.map siC ++ [a]).length), (i.map siC ++ [a])[i.length]'h = a := fun a h => by simp
  have g2 : ∀ (a b : List V), (i.map siC ++ [a]).set i.length b = i.map siC ++ [b] := fun a b => by rw [List.set_append_right _ _ (by simp)]; simp
  unfold afterS
  refine tri_intro (fun _ => false) Tryz.func31 Tryz.ntmps31 rfl (by kernel_rfl) (by simp) rfl (by decide) fun G hG hOw hNm => ?_; simp only [go_sem, hG, hOw]
  (repeat' with_reducible first | refine And.intro ?_ ?_ | intro _ | refine exP ?_ ?_); all_goals try omega
  · rename_i h; exact absurd h (by decide)
  refine call_tri [] [] (must_yes 111) (by (simp only [go_sem]) <;> simp) (by (simp only [go_sem, entH, entH1, nilArr, obOK]) <;> simp) (by simp [injR, apart, toR]) (by simp [coverR, usH, toR]) (by simp [uniqP, lkR, toR]) (by simp [chk, hG]) ?_
  simp (maxSteps := 2000000) only [go_sem, hG, hOw, h1,g1,g2]
  (repeat' with_reducible first | refine And.intro ?_ ?_ | intro _ | refine exP ?_ ?_); all_goals try omega
  refine call_tri [(0, 1)] [] (hW) (by (simp only [go_sem]) <;> simp) (by (simp only [go_sem, entH, entH1, nilArr, obOK]) <;> simp) (by simp [injR, apart, toR]) (by simp [coverR, usH, toR]) (by simp [uniqP, lkR, toR]) (by simp [chk, hG]) ?_
  simp (maxSteps := 2000000) only [go_sem, hG, hOw, h1,g1,g2]
  (repeat' with_reducible first | refine And.intro ?_ ?_ | intro _ | refine exP ?_ ?_); all_goals try omega
  refine call_pureA (Join_ok r hrl hrs) ?_
  simp (maxSteps := 2000000) only [go_sem, hG, hOw, h1,g1,g2]
  (repeat' with_reducible first | refine And.intro ?_ ?_ | intro _ | refine exP ?_ ?_); all_goals try omega
  all_goals first | (rename_i h; exact absurd h (by decide)) | exact ⟨[(0, some 0), (1, some 1), (2, some 2), (5, some 3), (4, some 4)], by (simp only [EndT, go_sem, entH, entH1, nilArr, obOK, apart, injR, coverR]) <;> simp⟩
theorem waft1_bad (lo : Nat) (i : List Si) (s : Si) (r : List ByteArray) (hr : wordsB r = false) (hrl : r.length ≤ 1000) (hi : i.length ≤ 1000) :
    Tri Tryz.prog 31 [str afterS, .ptr 1 0, .ptr 0 0, .ptr 2 0] [(0, .box [.own 3 0 (i.length + 1) 6]), (1, .box [strs lo r]), (2, .box [.mp 4]), (3, .arr 62 6 (i.map siC ++ [siC s])), (4, .map .string (mayE 1))]
      (fun _ => .pan (wrV 111) []) := by
  have hW := words_tri lo r hrl
  simp only [hr, Bool.false_eq_true, if_false] at hW
  have h1 : (((i.length + 1 : Nat) : Int) - 1).toNat = i.length := by omega
  have g1 : ∀ (a : List V) (h : i.length < (i.map siC ++ [a]).length), (i.map siC ++ [a])[i.length]'h = a := fun a h => by simp
  unfold afterS
  refine tri_intro (fun _ => false) Tryz.func31 Tryz.ntmps31 rfl (by kernel_rfl) (by simp) rfl (by decide) fun G hG hOw hNm => ?_; simp only [go_sem, hG, hOw]
  (repeat' with_reducible first | refine And.intro ?_ ?_ | intro _ | refine exP ?_ ?_); all_goals try omega
  · rename_i h; exact absurd h (by decide)
  refine call_tri [] [] (must_yes 111) (by (simp only [go_sem]) <;> simp) (by (simp only [go_sem, entH, entH1, nilArr, obOK]) <;> simp) (by simp [injR, apart, toR]) (by simp [coverR, usH, toR]) (by simp [uniqP, lkR, toR]) (by simp [chk, hG]) ?_
  simp (maxSteps := 2000000) only [go_sem, hG, hOw, h1,g1]
  (repeat' with_reducible first | refine And.intro ?_ ?_ | intro _ | refine exP ?_ ?_); all_goals try omega
  refine call_tri [(0, 1)] [] (hW) (by (simp only [go_sem]) <;> simp) (by (simp only [go_sem, entH, entH1, nilArr, obOK]) <;> simp) (by simp [injR, apart, toR]) (by simp [coverR, usH, toR]) (by simp [uniqP, lkR, toR]) (by simp [chk, hG]) ?_
  simp only [go_sem, hG, hOw]
  exact ⟨rfl, ⟨[], by (simp only [EndT, go_sem, entH, entH1, nilArr, obOK, apart, injR, coverR]) <;> simp⟩⟩
theorem waft2_ok (lo : Nat) (i : List Si) (s : Si) (r : List ByteArray) (hr : wordsB r = true) (hrl : r.length ≤ 1000) (hrs : ∀ x ∈ r, x.size ≤ 100000) (hi : i.length ≤ 1000) :
    Tri Tryz.prog 31 [str afterS, .ptr 1 0, .ptr 0 0, .ptr 2 0] [(0, .box [.own 3 0 (i.length + 1) 6]), (1, .box [strs lo r]), (2, .box [.mp 4]), (3, .arr 62 6 (i.map siC ++ [siC s])), (4, .map .string (mayE 2))]
      (fun _ => .ret (.tup []) [(0, .box [.own 5 0 (i.length + 1) 6]), (1, .box [strs lo []]), (2, .box [.mp 4]), (5, .arr 62 6 (i.map siC ++ [siC { s with aft := joinS r }])), (4, .map .string (mayE 0))]) := by
  have hW := words_tri lo r hrl
  simp only [hr, if_true] at hW
  have h1 : (((i.length + 1 : Nat) : Int) - 1).toNat = i.length := by omega
  have g1 : ∀ (a : List V) (h : i.length < (i.map siC ++ [a]).length), (i.map siC ++ [a])[i.length]'h = a := fun a h => by simp
  have g2 : ∀ (a b : List V), (i.map siC ++ [a]).set i.length b = i.map siC ++ [b] := fun a b => by rw [List.set_append_right _ _ (by simp)]; simp
  unfold afterS
  refine tri_intro (fun _ => false) Tryz.func31 Tryz.ntmps31 rfl (by kernel_rfl) (by simp) rfl (by decide) fun G hG hOw hNm => ?_; simp only [go_sem, hG, hOw]
  (repeat' with_reducible first | refine And.intro ?_ ?_ | intro _ | refine exP ?_ ?_); all_goals try omega
  · rename_i h; exact absurd h (by decide)
  refine call_tri [] [] (must_yes 111) (by (simp only [go_sem]) <;> simp) (by (simp only [go_sem, entH, entH1, nilArr, obOK]) <;> simp) (by simp [injR, apart, toR]) (by simp [coverR, usH, toR]) (by simp [uniqP, lkR, toR]) (by simp [chk, hG]) ?_
  simp (maxSteps := 2000000) only [go_sem, hG, hOw, h1,g1,g2]
  (repeat' with_reducible first | refine And.intro ?_ ?_ | intro _ | refine exP ?_ ?_); all_goals try omega
  refine call_tri [(0, 1)] [] (hW) (by (simp only [go_sem]) <;> simp) (by (simp only [go_sem, entH, entH1, nilArr, obOK]) <;> simp) (by simp [injR, apart, toR]) (by simp [coverR, usH, toR]) (by simp [uniqP, lkR, toR]) (by simp [chk, hG]) ?_
  simp (maxSteps := 2000000) only [go_sem, hG, hOw, h1,g1,g2]
  (repeat' with_reducible first | refine And.intro ?_ ?_ | intro _ | refine exP ?_ ?_); all_goals try omega
  refine call_pureA (Join_ok r hrl hrs) ?_
  simp (maxSteps := 2000000) only [go_sem, hG, hOw, h1,g1,g2]
  (repeat' with_reducible first | refine And.intro ?_ ?_ | intro _ | refine exP ?_ ?_); all_goals try omega
  all_goals first | (rename_i h; exact absurd h (by decide)) | exact ⟨[(0, some 0), (1, some 1), (2, some 2), (5, some 3), (4, some 4)], by (simp only [EndT, go_sem, entH, entH1, nilArr, obOK, apart, injR, coverR]) <;> simp⟩
theorem waft2_bad (lo : Nat) (i : List Si) (s : Si) (r : List ByteArray) (hr : wordsB r = false) (hrl : r.length ≤ 1000) (hi : i.length ≤ 1000) :
    Tri Tryz.prog 31 [str afterS, .ptr 1 0, .ptr 0 0, .ptr 2 0] [(0, .box [.own 3 0 (i.length + 1) 6]), (1, .box [strs lo r]), (2, .box [.mp 4]), (3, .arr 62 6 (i.map siC ++ [siC s])), (4, .map .string (mayE 2))]
      (fun _ => .pan (wrV 111) []) := by
  have hW := words_tri lo r hrl
  simp only [hr, Bool.false_eq_true, if_false] at hW
  have h1 : (((i.length + 1 : Nat) : Int) - 1).toNat = i.length := by omega
  have g1 : ∀ (a : List V) (h : i.length < (i.map siC ++ [a]).length), (i.map siC ++ [a])[i.length]'h = a := fun a h => by simp
  unfold afterS
  refine tri_intro (fun _ => false) Tryz.func31 Tryz.ntmps31 rfl (by kernel_rfl) (by simp) rfl (by decide) fun G hG hOw hNm => ?_; simp only [go_sem, hG, hOw]
  (repeat' with_reducible first | refine And.intro ?_ ?_ | intro _ | refine exP ?_ ?_); all_goals try omega
  · rename_i h; exact absurd h (by decide)
  refine call_tri [] [] (must_yes 111) (by (simp only [go_sem]) <;> simp) (by (simp only [go_sem, entH, entH1, nilArr, obOK]) <;> simp) (by simp [injR, apart, toR]) (by simp [coverR, usH, toR]) (by simp [uniqP, lkR, toR]) (by simp [chk, hG]) ?_
  simp (maxSteps := 2000000) only [go_sem, hG, hOw, h1,g1]
  (repeat' with_reducible first | refine And.intro ?_ ?_ | intro _ | refine exP ?_ ?_); all_goals try omega
  refine call_tri [(0, 1)] [] (hW) (by (simp only [go_sem]) <;> simp) (by (simp only [go_sem, entH, entH1, nilArr, obOK]) <;> simp) (by simp [injR, apart, toR]) (by simp [coverR, usH, toR]) (by simp [uniqP, lkR, toR]) (by simp [chk, hG]) ?_
  simp only [go_sem, hG, hOw]
  exact ⟨rfl, ⟨[], by (simp only [EndT, go_sem, entH, entH1, nilArr, obOK, apart, injR, coverR]) <;> simp⟩⟩
theorem waft3_ok (lo : Nat) (i : List Si) (s : Si) (r : List ByteArray) (hr : wordsB r = true) (hrl : r.length ≤ 1000) (hrs : ∀ x ∈ r, x.size ≤ 100000) (hi : i.length ≤ 1000) :
    Tri Tryz.prog 31 [str afterS, .ptr 1 0, .ptr 0 0, .ptr 2 0] [(0, .box [.own 3 0 (i.length + 1) 6]), (1, .box [strs lo r]), (2, .box [.mp 4]), (3, .arr 62 6 (i.map siC ++ [siC s])), (4, .map .string (mayE 3))]
      (fun _ => .ret (.tup []) [(0, .box [.own 5 0 (i.length + 1) 6]), (1, .box [strs lo []]), (2, .box [.mp 4]), (5, .arr 62 6 (i.map siC ++ [siC { s with aft := joinS r }])), (4, .map .string (mayE 0))]) := by
  have hW := words_tri lo r hrl
  simp only [hr, if_true] at hW
  have h1 : (((i.length + 1 : Nat) : Int) - 1).toNat = i.length := by omega
  have g1 : ∀ (a : List V) (h : i.length < (i.map siC ++ [a]).length), (i.map siC ++ [a])[i.length]'h = a := fun a h => by simp
  have g2 : ∀ (a b : List V), (i.map siC ++ [a]).set i.length b = i.map siC ++ [b] := fun a b => by rw [List.set_append_right _ _ (by simp)]; simp
  unfold afterS
  refine tri_intro (fun _ => false) Tryz.func31 Tryz.ntmps31 rfl (by kernel_rfl) (by simp) rfl (by decide) fun G hG hOw hNm => ?_; simp only [go_sem, hG, hOw]
  (repeat' with_reducible first | refine And.intro ?_ ?_ | intro _ | refine exP ?_ ?_); all_goals try omega
  · rename_i h; exact absurd h (by decide)
  refine call_tri [] [] (must_yes 111) (by (simp only [go_sem]) <;> simp) (by (simp only [go_sem, entH, entH1, nilArr, obOK]) <;> simp) (by simp [injR, apart, toR]) (by simp [coverR, usH, toR]) (by simp [uniqP, lkR, toR]) (by simp [chk, hG]) ?_
  simp (maxSteps := 2000000) only [go_sem, hG, hOw, h1,g1,g2]
  (repeat' with_reducible first | refine And.intro ?_ ?_ | intro _ | refine exP ?_ ?_); all_goals try omega
  refine call_tri [(0, 1)] [] (hW) (by (simp only [go_sem]) <;> simp) (by (simp only [go_sem, entH, entH1, nilArr, obOK]) <;> simp) (by simp [injR, apart, toR]) (by simp [coverR, usH, toR]) (by simp [uniqP, lkR, toR]) (by simp [chk, hG]) ?_
  simp (maxSteps := 2000000) only [go_sem, hG, hOw, h1,g1,g2]
  (repeat' with_reducible first | refine And.intro ?_ ?_ | intro _ | refine exP ?_ ?_); all_goals try omega
  refine call_pureA (Join_ok r hrl hrs) ?_
  simp (maxSteps := 2000000) only [go_sem, hG, hOw, h1,g1,g2]
  (repeat' with_reducible first | refine And.intro ?_ ?_ | intro _ | refine exP ?_ ?_); all_goals try omega
  all_goals first | (rename_i h; exact absurd h (by decide)) | exact ⟨[(0, some 0), (1, some 1), (2, some 2), (5, some 3), (4, some 4)], by (simp only [EndT, go_sem, entH, entH1, nilArr, obOK, apart, injR, coverR]) <;> simp⟩
theorem waft3_bad (lo : Nat) (i : List Si) (s : Si) (r : List ByteArray) (hr : wordsB r = false) (hrl : r.length ≤ 1000) (hi : i.length ≤ 1000) :
    Tri Tryz.prog 31 [str afterS, .ptr 1 0, .ptr 0 0, .ptr 2 0] [(0, .box [.own 3 0 (i.length + 1) 6]), (1, .box [strs lo r]), (2, .box [.mp 4]), (3, .arr 62 6 (i.map siC ++ [siC s])), (4, .map .string (mayE 3))]
      (fun _ => .pan (wrV 111) []) := by
  have hW := words_tri lo r hrl
  simp only [hr, Bool.false_eq_true, if_false] at hW
  have h1 : (((i.length + 1 : Nat) : Int) - 1).toNat = i.length := by omega
  have g1 : ∀ (a : List V) (h : i.length < (i.map siC ++ [a]).length), (i.map siC ++ [a])[i.length]'h = a := fun a h => by simp
  unfold afterS
  refine tri_intro (fun _ => false) Tryz.func31 Tryz.ntmps31 rfl (by kernel_rfl) (by simp) rfl (by decide) fun G hG hOw hNm => ?_; simp only [go_sem, hG, hOw]
  (repeat' with_reducible first | refine And.intro ?_ ?_ | intro _ | refine exP ?_ ?_); all_goals try omega
  · rename_i h; exact absurd h (by decide)
  refine call_tri [] [] (must_yes 111) (by (simp only [go_sem]) <;> simp) (by (simp only [go_sem, entH, entH1, nilArr, obOK]) <;> simp) (by simp [injR, apart, toR]) (by simp [coverR, usH, toR]) (by simp [uniqP, lkR, toR]) (by simp [chk, hG]) ?_
  simp (maxSteps := 2000000) only [go_sem, hG, hOw, h1,g1]
  (repeat' with_reducible first | refine And.intro ?_ ?_ | intro _ | refine exP ?_ ?_); all_goals try omega
  refine call_tri [(0, 1)] [] (hW) (by (simp only [go_sem]) <;> simp) (by (simp only [go_sem, entH, entH1, nilArr, obOK]) <;> simp) (by simp [injR, apart, toR]) (by simp [coverR, usH, toR]) (by simp [uniqP, lkR, toR]) (by simp [chk, hG]) ?_
  simp only [go_sem, hG, hOw]
  exact ⟨rfl, ⟨[], by (simp only [EndT, go_sem, entH, entH1, nilArr, obOK, apart, injR, coverR]) <;> simp⟩⟩
theorem snoc_si (l : List Si) : l = [] ∨ ∃ i s, l = i ++ [s] := by
  rcases List.eq_nil_or_concat l with h | ⟨i, s, h⟩
  · exact .inl h
  · exact .inr ⟨i, s, by rw [h, List.concat_eq_append]⟩
theorem onLast_snoc (f : Si → Si) (i : List Si) (s : Si) : onLast f (i ++ [s]) = i ++ [f s] := by simp [onLast]
def WOK (s : List Si × Nat) : Prop := s.2 ≤ 3 ∧ (1 ≤ s.2 → s.1 ≠ [])
theorem upQ_bd {q : Nat} (h : q ≤ 3) : 1 ≤ upQ q ∧ upQ q ≤ 3 := by
  unfold upQ
  split
  · omega
  · split <;> omega
theorem stepW_ok {s s' : List Si × Nat} {name : ByteArray} {rest r' : List ByteArray} (hs : WOK s) (h : stepW s name rest = some (s', r')) : WOK s' ∧ s'.1.length ≤ s.1.length + 1 := by
  unfold stepW at h
  split at h
  · split at h
    · split at h
      · split at h
        · simp only [Option.some.injEq, Prod.mk.injEq] at h
          obtain ⟨rfl, _⟩ := h
          exact ⟨⟨(upQ_bd hs.1).2, fun _ => by simp⟩, by simp⟩
        · cases h
      · cases h
    · cases h
  · split at h
    · split at h
      · rename_i hq
        split at h
        · simp only [Option.some.injEq, Prod.mk.injEq] at h
          obtain ⟨rfl, _⟩ := h
          rcases snoc_si s.1 with e | ⟨i, x, e⟩
          · exact absurd e (hs.2 (by omega))
          · rw [e]
            simp only [onLast_snoc]
            exact ⟨⟨by simp, fun _ => by simp⟩, by simp⟩
        · cases h
      · cases h
    · split at h
      · split at h
        · rename_i hq
          split at h
          · simp only [Option.some.injEq, Prod.mk.injEq] at h
            obtain ⟨rfl, _⟩ := h
            rcases snoc_si s.1 with e | ⟨i, x, e⟩
            · exact absurd e (hs.2 (by omega))
            · rw [e]
              simp only [onLast_snoc]
              exact ⟨⟨by simp, fun h => absurd h (by simp)⟩, by simp⟩
          · cases h
        · cases h
      · cases h
theorem wby_ok (lo : Nat) (s s' : List Si × Nat) (name : ByteArray) (rest r' : List ByteArray) (hw : WOK s) (hs : stepW s name rest = some (s', r')) (hl : ∀ s ∈ rest, s.size ≤ 100000) (hrl : rest.length ≤ 1000) (hb : s.1.length ≤ 1000) :
    Tri Tryz.prog 31 [str name, .ptr 1 0, .ptr 0 0, .ptr 2 0] [(0, .box [.own 3 0 s.1.length 6]), (1, .box [strs lo rest]), (2, .box [.mp 4]), (3, .arr 62 6 (s.1.map siC)), (4, .map .string (mayE s.2))]
      (fun _ => .ret (.tup []) [(0, .box [.own 5 0 s'.1.length 6]), (1, .box [strs lo r']), (2, .box [.mp 4]), (5, .arr 62 6 (s'.1.map siC)), (4, .map .string (mayE s'.2))]) := by
  obtain ⟨all, q⟩ := s
  obtain ⟨hq, hne⟩ := hw
  simp only at hq hne hb ⊢
  have hq4 : q = 0 ∨ q = 1 ∨ q = 2 ∨ q = 3 := by omega
  unfold stepW at hs
  simp only at hs
  split at hs
  · rename_i hn
    subst hn
    split at hs
    · rename_i hp
      split at hs
      · rename_i w r hd
        split at hs
        · rename_i hwd
          simp only [Option.some.injEq, Prod.mk.injEq] at hs
          obtain ⟨rfl, rfl⟩ := hs
          rcases hq4 with rfl | rfl | rfl | rfl
          · simpa [upQ] using wslip_ok0 lo all rest hl hp w r hd hwd hb
          · simpa [upQ] using wslip_ok1 lo all rest hl hp w r hd hwd hb
          · simpa [upQ] using wslip_ok2 lo all rest hl hp w r hd hwd hb
          · simpa [upQ] using wslip_ok3 lo all rest hl hp w r hd hwd hb
        · cases hs
      · cases hs
    · cases hs
  · split at hs
    · rename_i hn
      subst hn
      split at hs
      · rename_i h2
        split at hs
        · rename_i hr
          simp only [Option.some.injEq, Prod.mk.injEq] at hs
          obtain ⟨rfl, rfl⟩ := hs
          rcases snoc_si all with e | ⟨i, x, e⟩
          · exact absurd e (hne (by omega))
          · subst e
            simp only [List.length_append, List.length_singleton] at hb
            rcases hq4 with rfl | rfl | rfl | rfl
            · omega
            · omega
            · simpa [onLast_snoc] using wbef2_ok lo i x rest hr hrl hl (by omega)
            · simpa [onLast_snoc] using wbef3_ok lo i x rest hr hrl hl (by omega)
        · cases hs
      · cases hs
    · split at hs
      · rename_i hn
        subst hn
        split at hs
        · rename_i h1
          split at hs
          · rename_i hr
            simp only [Option.some.injEq, Prod.mk.injEq] at hs
            obtain ⟨rfl, rfl⟩ := hs
            rcases snoc_si all with e | ⟨i, x, e⟩
            · exact absurd e (hne (by omega))
            · subst e
              simp only [List.length_append, List.length_singleton] at hb
              rcases hq4 with rfl | rfl | rfl | rfl
              · omega
              · simpa [onLast_snoc] using waft1_ok lo i x rest hr hrl hl (by omega)
              · simpa [onLast_snoc] using waft2_ok lo i x rest hr hrl hl (by omega)
              · simpa [onLast_snoc] using waft3_ok lo i x rest hr hrl hl (by omega)
          · cases hs
        · cases hs
      · cases hs
theorem lk_none (q : Nat) (hq : q ≤ 3) (name : ByteArray) (h1 : ¬ (name = beforeS ∧ 2 ≤ q)) (h2 : ¬ (name = afterS ∧ 1 ≤ q)) : lkM (mayE q) (.string name) = none := by
  have k1 : ∀ x : ByteArray, keyB (.string x) (.string name) = decide (x = name) := fun x => rfl
  have hq4 : q = 0 ∨ q = 1 ∨ q = 2 ∨ q = 3 := by omega
  rcases hq4 with rfl | rfl | rfl | rfl
  · rfl
  · have a : ¬ afterS = name := fun e => h2 ⟨e.symm, by omega⟩
    simp [mayE, lkM, k1, a]
  · have a : ¬ afterS = name := fun e => h2 ⟨e.symm, by omega⟩
    have b : ¬ beforeS = name := fun e => h1 ⟨e.symm, by omega⟩
    simp [mayE, lkM, k1, a, b]
  · have a : ¬ afterS = name := fun e => h2 ⟨e.symm, by omega⟩
    have b : ¬ beforeS = name := fun e => h1 ⟨e.symm, by omega⟩
    simp [mayE, lkM, k1, a, b]
theorem wby_bad (lo : Nat) (s : List Si × Nat) (name : ByteArray) (rest : List ByteArray) (hw : WOK s) (hs : stepW s name rest = none) (hl : ∀ s ∈ rest, s.size ≤ 100000) (hrl : rest.length ≤ 1000) (hb : s.1.length ≤ 1000) :
    Tri Tryz.prog 31 [str name, .ptr 1 0, .ptr 0 0, .ptr 2 0] [(0, .box [.own 3 0 s.1.length 6]), (1, .box [strs lo rest]), (2, .box [.mp 4]), (3, .arr 62 6 (s.1.map siC)), (4, .map .string (mayE s.2))]
      (fun _ => .pan (wrV 111) []) := by
  obtain ⟨all, q⟩ := s
  obtain ⟨hq, hne⟩ := hw
  simp only at hq hne hb ⊢
  have hq4 : q = 0 ∨ q = 1 ∨ q = 2 ∨ q = 3 := by omega
  by_cases hn : name = slipS
  · subst hn
    cases hp : placeB rest with
    | false => exact wslip_bad lo all rest hl hp _
    | true =>
      cases hd : rest.drop 3 with
      | nil => exact wslip_end lo all rest hl hp ⟨#[]⟩ [] hd (by decide) _
      | cons w r =>
        cases hwd : wordB w with
        | false => exact wslip_not lo all rest hl hp w r hd hwd _
        | true => exfalso; simp [stepW, hp, hd, hwd] at hs
  · by_cases h1 : name = beforeS ∧ 2 ≤ q
    · obtain ⟨rfl, h2⟩ := h1
      cases hr : wordsB rest with
      | true => exfalso; simp [stepW, hn, h2, hr] at hs
      | false =>
        rcases snoc_si all with e | ⟨i, x, e⟩
        · exact absurd e (hne (by omega))
        · subst e
          simp only [List.length_append, List.length_singleton] at hb
          rcases hq4 with rfl | rfl | rfl | rfl
          · omega
          · omega
          · simpa using wbef2_bad lo i x rest hr hrl (by omega)
          · simpa using wbef3_bad lo i x rest hr hrl (by omega)
    · by_cases h2 : name = afterS ∧ 1 ≤ q
      · obtain ⟨rfl, h3⟩ := h2
        have hab : ¬ afterS = beforeS := by decide
        cases hr : wordsB rest with
        | true => exfalso; simp [stepW, hn, hab, h3, hr] at hs
        | false =>
          rcases snoc_si all with e | ⟨i, x, e⟩
          · exact absurd e (hne (by omega))
          · subst e
            simp only [List.length_append, List.length_singleton] at hb
            rcases hq4 with rfl | rfl | rfl | rfl
            · omega
            · simpa using waft1_bad lo i x rest hr hrl (by omega)
            · simpa using waft2_bad lo i x rest hr hrl (by omega)
            · simpa using waft3_bad lo i x rest hr hrl (by omega)
      · exact wnone lo all name rest hn _ (lk_none q hq name h1 h2)
open Go Pm Go.RowKit Go.Sort
set_option maxHeartbeats 4000000
set_option maxRecDepth 100000
def stepX (s : List Si × Nat) (x : ByteArray) : Option (List Si × Nat) := match partsS x with
  | [] => none
  | name :: rest => match stepW s name rest with
    | some (s', []) => some s'
    | _ => none
def readW (s : List Si × Nat) : List ByteArray → Option (List Si × Nat)
  | [] => some s
  | x :: l => (stepX s x).bind fun s' => readW s' l
theorem readW_app : ∀ (l m : List ByteArray) (s : List Si × Nat), readW s (l ++ m) = (readW s l).bind fun s' => readW s' m
  | [], m, s => rfl
  | x :: l, m, s => by
    simp only [List.cons_append, readW]
    cases stepX s x with
    | none => rfl
    | some c => exact readW_app l m c
theorem readW_succ (l : List ByteArray) (s : List Si × Nat) (k : Nat) (hk : k < l.length) : readW s (l.take (k + 1)) = (readW s (l.take k)).bind fun s => stepX s l[k] := by
  rw [List.take_add_one, List.getElem?_eq_getElem hk, readW_app]
  congr 1
  funext s
  simp only [Option.toList, readW]
  cases stepX s l[k] <;> rfl
theorem readW_bad {l : List ByteArray} {s0 s : List Si × Nat} {k : Nat} (hk : k < l.length) (h : readW s0 (l.take k) = some s) (hb : stepX s l[k] = none) : readW s0 l = none := by
  have h1 : readW s0 (l.take (k + 1)) = none := by rw [readW_succ l s0 k hk, h]; simp [hb]
  have h2 := readW_app (l.take (k + 1)) (l.drop (k + 1)) s0
  rw [List.take_append_drop] at h2
  rw [h2, h1]; rfl
def W0 : List Si × Nat := ([], 0)
theorem W0_ok : WOK W0 := ⟨by decide, fun h => absurd h (by decide)⟩
theorem joinB_le (r : List ByteArray) (hr : ∀ x ∈ r, x.size ≤ 160) (hl : r.length ≤ 161) : (joinS r).size ≤ 100000 := by
  have := joinP_le 160 r hr
  have h2 : (160 + 1) * r.length ≤ 161 * 161 := Nat.mul_le_mul (by decide) hl
  omega
theorem stepW_bds {s s' : List Si × Nat} {name : ByteArray} {rest r' : List ByteArray} (hs : WOK s) (hr : ∀ x ∈ rest, x.size ≤ 160) (hl : rest.length ≤ 161) (hb : ∀ x ∈ s.1, bdS x) (h : stepW s name rest = some (s', r')) : ∀ x ∈ s'.1, bdS x := by
  have hj := joinB_le rest hr hl
  unfold stepW at h
  split at h
  · split at h
    · split at h
      · rename_i w r hd
        split at h
        · rename_i hw
          simp only [Option.some.injEq, Prod.mk.injEq] at h
          obtain ⟨rfl, _⟩ := h
          have := (wordB_size hw).2
          intro x hx
          rcases List.mem_append.1 hx with hx | hx
          · exact hb x hx
          · simp at hx; subst hx; exact ⟨by simp only; omega, by show 0 ≤ _; omega, by show 0 ≤ _; omega⟩
        · cases h
      · cases h
    · cases h
  · split at h
    · split at h
      · split at h
        · simp only [Option.some.injEq, Prod.mk.injEq] at h
          obtain ⟨rfl, _⟩ := h
          rcases snoc_si s.1 with e | ⟨i, x, e⟩
          · rw [e]; simp [onLast]
          · rw [e] at hb
            rw [e]
            simp only [onLast_snoc]
            intro y hy
            rcases List.mem_append.1 hy with hy | hy
            · exact hb y (by simp [hy])
            · simp at hy; subst hy
              obtain ⟨q1, q2, q3⟩ := hb x (by simp)
              exact ⟨q1, hj, q3⟩
        · cases h
      · cases h
    · split at h
      · split at h
        · split at h
          · simp only [Option.some.injEq, Prod.mk.injEq] at h
            obtain ⟨rfl, _⟩ := h
            rcases snoc_si s.1 with e | ⟨i, x, e⟩
            · rw [e]; simp [onLast]
            · rw [e] at hb
              rw [e]
              simp only [onLast_snoc]
              intro y hy
              rcases List.mem_append.1 hy with hy | hy
              · exact hb y (by simp [hy])
              · simp at hy; subst hy
                obtain ⟨q1, q2, q3⟩ := hb x (by simp)
                exact ⟨q1, q2, hj⟩
          · cases h
        · cases h
      · cases h
theorem stepX_ok {s s' : List Si × Nat} {x : ByteArray} (hx : x.size ≤ 160) (hs : WOK s) (hb : ∀ x ∈ s.1, bdS x) (h : stepX s x = some s') : WOK s' ∧ s'.1.length ≤ s.1.length + 1 ∧ ∀ x ∈ s'.1, bdS x := by
  unfold stepX at h
  split at h
  · cases h
  · rename_i name rest hp
    split at h
    · rename_i t hst
      cases h
      obtain ⟨q1, q2⟩ := stepW_ok hs hst
      refine ⟨q1, q2, stepW_bds hs (fun y hy => ?_) ?_ hb hst⟩
      · have := partsS_size x y (by rw [hp]; simp [hy]); omega
      · have := partsS_len x; rw [hp] at this; simp at this; omega
    · cases h
theorem readW_ok {l : List ByteArray} (hl : ∀ x ∈ l, x.size ≤ 160) : ∀ {k : Nat} {s : List Si × Nat}, k ≤ l.length → readW W0 (l.take k) = some s → WOK s ∧ s.1.length ≤ k ∧ ∀ x ∈ s.1, bdS x
  | 0, s, _, h => by
    simp [readW] at h
    subst h
    exact ⟨W0_ok, by simp [W0], by simp [W0]⟩
  | k + 1, s, hk, h => by
    rw [readW_succ l W0 k (by omega)] at h
    simp only [Option.bind_eq_some_iff] at h
    obtain ⟨u, h1, h2⟩ := h
    obtain ⟨a, b, c⟩ := readW_ok hl (by omega) h1
    obtain ⟨a', b', c'⟩ := stepX_ok (hl _ (List.getElem_mem (by omega))) a c h2
    exact ⟨a', by omega, c'⟩
theorem mayE_frz (q : Nat) (p : Nat → Bool) (lo : Nat) (s : St) : (mayE q).map (fun e => (e.1, vwF p lo s 4 e.2)) = mayE q := by
  unfold mayE
  split <;> rfl
theorem mayE_ren (q : Nat) (ρ : Ren) : (mayE q).map (fun e => (e.1, renT ρ 4 e.2)) = mayE q := by
  unfold mayE
  split <;> rfl
theorem okL_may (ρ : Ren) (q q' : Nat) (hq : q = q') : okL (okN ρ 4) ((mayE q).map (fun p => p.2)) ((mayE q').map (fun p => p.2)) = True := by
  subst hq
  have h : okN ρ 4 (bl true) (bl true) := rfl
  unfold mayE
  split
  · exact eq_true trivial
  · exact eq_true ⟨h, trivial⟩
  · exact eq_true ⟨h, h, trivial⟩
  · exact eq_true ⟨h, h, trivial⟩
def mayN (q : Nat) : Nat := (mayE q).length
theorem mayE_snd (q : Nat) : (mayE q).map (fun p => p.2) = List.replicate (mayN q) (.v (.bool true)) := by
  unfold mayN mayE
  split <;> rfl
theorem wread_rows (l : List ByteArray) (h : rowsB l = false) : Tri Tryz.prog 30 [strs 0 l, .fn (.func 31) [.ptr 0 0, .ptr 1 0]] [(0, .box [.v (.slice none 0 0)]), (1, .box [.mp 2]), (2, .map .string [])] (fun _ => .pan (wrV 110) []) := by
  refine tri_intro (fun _ => false) Tryz.func30 Tryz.ntmps30 rfl (by kernel_rfl) (by simp) rfl (by decide) fun G hG hOw hNm => ?_; simp only [go_sem, hG, hOw]
  (repeat' with_reducible first | refine And.intro ?_ ?_ | intro _ | refine exP ?_ ?_); all_goals try omega
  refine call_pureA (Check_ok l) ?_
  rw [h]
  simp only [go_sem, hG, hOw]
  (repeat' with_reducible first | refine And.intro ?_ ?_ | intro _ | refine exP ?_ ?_); all_goals try omega
  refine call_tri [] [] (must_no 110) (by (simp only [go_sem]) <;> simp) (by (simp only [go_sem, entH, entH1, nilArr, obOK]) <;> simp) (by simp [injR, apart, toR]) (by simp [coverR, usH, toR]) (by simp [uniqP, lkR, toR]) (by simp [chk, hG]) ?_
  simp only [go_sem, hG, hOw]
  exact ⟨rfl, ⟨[], by (simp only [EndT, go_sem, entH, entH1, nilArr, obOK, apart, injR, coverR]) <;> simp⟩⟩
theorem read_slips (l : List ByteArray) (h : rowsB l = true) : Tri Tryz.prog 30 [strs 0 l, .fn (.func 31) [.ptr 0 0, .ptr 1 0]] [(0, .box [.v (.slice none 0 0)]), (1, .box [.mp 2]), (2, .map .string [])] (fun _ => match readW W0 l with
    | some s => .ret (.tup []) [(0, .box [sis 0 s.1])]
    | none => .pan (wrV 111) []) := by
  obtain ⟨hl1, hl2⟩ := rowsB_bd h
  refine tri_intro (fun _ => false) Tryz.func30 Tryz.ntmps30 rfl (by kernel_rfl) (by simp) rfl (by decide) fun G hG hOw hNm => ?_; simp only [go_sem, hG, hOw]
  (repeat' with_reducible first | refine And.intro ?_ ?_ | intro _ | refine exP ?_ ?_); all_goals try omega
  refine call_pureA (Check_ok l) ?_
  rw [h]
  simp only [go_sem, hG, hOw]
  (repeat' with_reducible first | refine And.intro ?_ ?_ | intro _ | refine exP ?_ ?_); all_goals try omega
  refine call_tri [] [] (must_yes 110) (by (simp only [go_sem]) <;> simp) (by (simp only [go_sem, entH, entH1, nilArr, obOK]) <;> simp) (by simp [injR, apart, toR]) (by simp [coverR, usH, toR]) (by simp [uniqP, lkR, toR]) (by simp [chk, hG]) ?_
  simp only [go_sem, hG, hOw]
  (repeat' with_reducible first | refine And.intro ?_ ?_ | intro _ | refine exP ?_ ?_); all_goals try omega
  have e0 : W0.1 = [] := rfl
  have e1 : mayE W0.2 = [] := rfl
  refine semC_cutN (fun s : List Si × Nat => St.of [] [(0, .box [sis 0 s.1]), (1, .box [.mp 2]), (2, .map .string (mayE s.2))]) (fun s => readW W0 l = some s) ?_ ?_
  · refine semC_loop (fun x : Nat × (List Si × Nat) => St.of [(1, .fn (.func 31) [.ptr 0 0, .ptr 1 0]), (11, strs 0 l), (12, i64 l.length), (13, i64 x.1)] [(0, .box [.own 100 0 x.2.1.length 6]), (1, .box [.mp 2]), (2, .map .string (mayE x.2.2)), (100, .arr 62 6 (x.2.1.map siC))]) (fun x => x.1 ≤ l.length ∧ readW W0 (l.take x.1) = some x.2) (fun x => l.length - x.1) (0, W0) ⟨by simp, by simp [readW]⟩ (ent_of [(0, some 0), (1, some 1), (2, some 2), (100, none)] (by (simp only [e0,e1,List.map_nil,List.length_nil, go_sem]) <;> simp [e0, e1, List.map_nil, List.length_nil]) (by (simp only [e0,e1,List.map_nil,List.length_nil, go_sem, entH, entH1, nilArr, obOK]) <;> simp [e0, e1, List.map_nil, List.length_nil]) (by simp [injR, apart]) (by simp [coverR, usH]) (by simp [hNm, lkR, names])) ?_
    rintro ⟨k, s⟩ ⟨hk, hrd⟩
    simp only at hk hrd
    obtain ⟨hwk, hbd, _⟩ := readW_ok hl2 hk hrd
    refine vc_sound _ _ _ ?_; simp only [go_sem, hG, hOw]
    (repeat' with_reducible first | refine And.intro ?_ ?_ | intro _ | refine exP ?_ ?_); all_goals try omega
    · rename_i hlt
      have hkl : k < l.length := by omega
      have hsz := hl2 _ (List.getElem_mem hkl)
      refine call_pureA (Split_ok l[k] (by omega)) ?_
      obtain ⟨name, rest, hp⟩ : ∃ name rest, partsS l[k] = name :: rest := by
        cases hq : partsS l[k] with
        | nil => exact (partsS_ne _ hq).elim
        | cons a b => exact ⟨a, b, rfl⟩
      have hpl : rest.length ≤ 1000 := by have := partsS_len l[k]; rw [hp] at this; simp at this; omega
      have hps : ∀ s ∈ rest, s.size ≤ 100000 := fun s hs => by have := partsS_size l[k] s (by rw [hp]; simp [hs]); omega
      rw [hp]
      simp only [go_sem, hG, hOw]
      (repeat' with_reducible first | refine And.intro ?_ ?_ | intro _ | refine exP ?_ ?_); all_goals try omega
      refine call_tri [(0, 20)] [] (take_yes G.lo name rest) (by (simp only [go_sem]) <;> simp) (by (simp only [go_sem, entH, entH1, nilArr, obOK]) <;> simp) (by simp [injR, apart, toR]) (by simp [coverR, usH, toR]) (by simp [uniqP, lkR, toR]) (by simp [chk, hG]) ?_
      simp only [go_sem, hG, hOw]
      (repeat' with_reducible first | refine And.intro ?_ ?_ | intro _ | refine exP ?_ ?_); all_goals try omega
      cases hst : stepW s name rest with
      | none =>
        have hno : readW W0 l = none := readW_bad hkl hrd (by unfold stepX; rw [hp]; simp only [hst])
        rw [hno]
        refine call_tri [(0, 0), (1, 20), (2, 1), (3, 100), (4, 2)] [] (wby_bad G.lo s name rest hwk hst hps hpl (by omega)) (by (simp only [go_sem]) <;> simp [mayE_snd,okL_rep,okN]) (by (simp only [go_sem, entH, entH1, nilArr, obOK]) <;> simp [mayE_snd,okL_rep,okN]) (by simp [injR, apart, toR]) (by simp [coverR, usH, toR, mayE_snd,okL_rep,okN]) (by simp [uniqP, lkR, toR]) (by simp [chk, hG]) ?_
        simp only [go_sem, hG, hOw]
        exact ⟨rfl, ⟨[], by (simp only [EndT, go_sem, entH, entH1, nilArr, obOK, apart, injR, coverR]) <;> simp⟩⟩
      | some q =>
        obtain ⟨s', r'⟩ := q
        refine call_tri [(0, 0), (1, 20), (2, 1), (3, 100), (4, 2)] [(5, 204)] (wby_ok G.lo s s' name rest r' hwk hst hps hpl (by omega)) (by (simp only [go_sem]) <;> simp [mayE_snd,okL_rep,okN]) (by (simp only [go_sem, entH, entH1, nilArr, obOK]) <;> simp [mayE_snd,okL_rep,okN]) (by simp [injR, apart, toR]) (by simp [coverR, usH, toR, mayE_snd,okL_rep,okN]) (by simp [uniqP, lkR, toR]) (by simp [chk, hG]) ?_
        simp (maxSteps := 2000000) only [go_sem, hG, hOw, ↓mayE_ren]
        (repeat' with_reducible first | refine And.intro ?_ ?_ | intro _ | refine exP ?_ ?_); all_goals try omega
        · rename_i hr0
          have hr0 : r' = [] := List.eq_nil_of_length_eq_zero (by omega)
          subst hr0
          have hsF : stepX s l[k] = some s' := by unfold stepX; rw [hp]; simp only [hst]
          exact ⟨(k + 1, s'), ⟨by show k + 1 ≤ _; omega, by rw [readW_succ l W0 k hkl, hrd]; simp [hsF]⟩, by show l.length - (k + 1) < _; omega, ent_of [(0, some 0), (1, some 1), (2, some 2), (100, some 204)] (by (simp only [↓okL_may, go_sem]) <;> simp []) (by (simp only [↓okL_may, go_sem, entH, entH1, nilArr, obOK]) <;> simp []) (by simp [injR, apart]) (by simp [coverR, usH]) (by simp [hNm, lkR, names])⟩
        · rename_i hr0
          have hno : readW W0 l = none := readW_bad hkl hrd (by
            unfold stepX; rw [hp]; simp only [hst]
            cases r' with
            | nil => exact (hr0 rfl).elim
            | cons a b => rfl)
          rw [hno]
          refine mki_step [.int .i64 111] rfl rfl (by kernel_rfl) (by simp [chk, hG]) ?_
          simp only [go_sem, hG, hOw]
          (repeat' with_reducible first | refine And.intro ?_ ?_ | intro _ | refine exP ?_ ?_); all_goals try omega
          refine panic_step rfl rfl ?_
          exact ⟨rfl, ⟨[], by (simp only [EndT, go_sem, entH, entH1, nilArr, obOK, apart, injR, coverR]) <;> simp⟩⟩
    · rename_i hge
      obtain rfl : k = l.length := by omega
      rw [List.take_length] at hrd
      refine ⟨s, hrd, ent_frz (fun i => i == 100) ?_⟩
      have hN : Pm.Sub (.lst G.lo 6 (s.1.map siC)) (.lst 0 6 (s.1.map siC)) := Sub.lo (Nat.zero_le _)
      have hT : List.take s.1.length (s.1.map siC) = s.1.map siC := List.take_of_length_le (by simp)
      exact ent_of [(0, some 0), (1, some 1), (2, some 2)] (by (simp only [hT,hN,↓mayE_frz,↓okL_may, go_sem]) <;> simp [hT, hN]) (by (simp only [hT,hN,↓mayE_frz,↓okL_may, go_sem, entH, entH1, nilArr, obOK]) <;> simp [hT, hN]) (by simp [injR, apart]) (by simp [coverR, usH]) (by simp [hNm, lkR, names])
  · rintro s hs
    rw [hs]
    simp only [go_sem, hG, hOw]
    (repeat' with_reducible first | refine And.intro ?_ ?_ | intro _ | refine exP ?_ ?_); all_goals try omega
    exact ⟨[(0, some 0)], by (simp only [EndT, go_sem, entH, entH1, nilArr, obOK, apart, injR, coverR]) <;> simp⟩
end Go.Proofs.YtppcbmpiphhphaaGreatDoor
