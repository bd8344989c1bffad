import Derived.Test.YtphadkcpgnkpfaaGreatDoorQT39
import Derived.Test.YtphadkcpgnkpfaaGreatDoorQT45
namespace Go.Proofs.YtphadkcpgnkpfaaGreatDoor
open Go Pm
set_option linter.unusedSimpArgs false
set_option linter.unusedVariables false
set_option maxHeartbeats 4000000
set_option maxRecDepth 100000
theorem Index_ok (l : List ByteArray) (x : ByteArray) : Gives Tryz.prog 46 [strs 0 l, str x] (fun _ => i64 (idxOf (fun s => decide (x = s)) l)) := by
  refine pure_intro (ow := fun _ => false) Tryz.func46 Tryz.ntmps46 rfl (by kernel_rfl) (by simp) rfl (by decide) fun G hG hOw hNm hB => ?_; simp only [go_sem, hG, hOw]
  have hl : l.length ≤ 140737488355328 := by
    have := bd_lst hB (lo := 0) (sz := 1) (l := l.map strE) (List.mem_cons_self ..)
    simpa using this
  refine semC_loop (fun i : Nat => St.of [(0, strs 0 l), (1, str x), (7, i64 l.length), (8, i64 i)] []) (fun i => i ≤ l.length ∧ (l.take i).all (fun s => !decide (x = s)) = true) (fun i => l.length - i) 0 (by simp) (ent_of0 (by (simp only [go_sem]) <;> simp) hNm) ?_
  rintro i ⟨hi, hall⟩
  refine vc_sound _ _ _ ?_; simp only [go_sem, hG, hOw]
  (repeat' with_reducible first | refine And.intro ?_ ?_ | intro _ | refine exP ?_ ?_); all_goals try omega
  · rename_i hlt h
    have hil : i < l.length := by omega
    exact (idxOf_at hil hall (by simpa using h)).symm
  · rename_i hlt h
    have hil : i < l.length := by omega
    exact ⟨i + 1, ⟨by omega, all_take_succ hil hall (by simpa using h)⟩, by omega, ent_of0 (by (simp only [go_sem]) <;> simp) hNm⟩
  · rename_i hge
    rw [take_full hi hge] at hall
    exact (idxOf_no hall).symm
def kdN (s : ByteArray) : Nat := if s = omitS then 1 else if s = putS then 2 else if s = otherS then 3 else 0
theorem idx_kind (x : ByteArray) : idxOf (fun s => decide (x = s)) [⟨#[]⟩, omitS, putS, otherS] = if x = ⟨#[]⟩ then 0 else if kdN x = 0 then -1 else (kdN x : Int) := by
  by_cases h0 : x = ⟨#[]⟩
  · rw [if_pos h0]; simp [idxOf, List.findIdx?_cons, h0]
  · rw [if_neg h0]
    unfold kdN
    by_cases h1 : x = omitS
    · simp [idxOf, List.findIdx?_cons, h0, h1]
      decide
    · by_cases h2 : x = putS
      · subst h2
        simp [idxOf, List.findIdx?_cons]
        decide
      · by_cases h3 : x = otherS
        · subst h3
          simp [idxOf, List.findIdx?_cons]
          decide
        · simp [idxOf, List.findIdx?_cons, h0, h1, h2, h3]
def stepC (s : Option Cp) (name : ByteArray) (rest : List ByteArray) : Option (Cp × List ByteArray) := match s with
  | none => if name = copyS then match rest with
      | x :: r => (valueS x).map fun v => (⟨v, []⟩, r)
      | [] => none
    else none
  | some c => if name = copyS then none else if kdN name = 0 then none else if placeB rest then
      (if kdN name = 1 then some (⟨c.id, c.rds ++ [⟨nvS rest 0, nvS rest 1, nvS rest 2, 1, ⟨#[]⟩⟩]⟩, rest.drop 3) else match rest.drop 3 with
        | w :: r => if wordB w then some (⟨c.id, c.rds ++ [⟨nvS rest 0, nvS rest 1, nvS rest 2, UInt8.ofNat (kdN name), w⟩]⟩, r) else none
        | [] => none)
      else none
def stepG (s : Option Cp) (x : ByteArray) : Option Cp := match partsS x with
  | [] => none
  | name :: rest => match stepC s name rest with
    | some (c, []) => some c
    | _ => none
def readG (s : Option Cp) : List ByteArray → Option (Option Cp)
  | [] => some s
  | x :: l => (stepG s x).bind fun c => readG (some c) l
theorem copy_first (lo : Nat) (x : ByteArray) (r : List ByteArray) (v : Int) (hx : x.size ≤ 100000) (hv : valueS x = some v) :
    Tri Tryz.prog 45 [str copyS, .ptr 1 0, .ptr 0 0, .ptr 2 0] [(0, .box [bl false]), (1, .box [strs lo (x :: r)]), (2, .box [i64 0, .own 3 0 0 5]), (3, .arr 59 5 [])]
      (fun _ => .ret (.tup []) [(0, .box [bl true]), (1, .box [strs lo r]), (2, .box [i64 v, .own 4 0 0 5]), (4, .arr 59 5 [])]) := by
  have hcs : decide (copyS = ⟨#[99, 111, 112, 121]⟩) = true := rfl
  refine tri_intro (fun _ => false) Tryz.func45 Tryz.ntmps45 rfl (by kernel_rfl) (by simp) rfl (by decide) fun G hG hOw hNm => ?_; simp only [go_sem, hG, hOw]
  (repeat' with_reducible first | refine And.intro ?_ ?_ | intro _ | refine exP ?_ ?_); all_goals try omega
  refine call_tri [] [] (must_yes 111) (by (simp only [go_sem]) <;> simp [hcs]) (by (simp only [go_sem, entH, entH1, nilArr, obOK]) <;> simp [hcs]) (by simp [injR, apart, toR]) (by simp [coverR, usH, toR, hcs]) (by simp [uniqP, lkR, toR]) (by simp [chk, hG]) ?_
  simp only [go_sem, hG, hOw]
  (repeat' with_reducible first | refine And.intro ?_ ?_ | intro _ | refine exP ?_ ?_); all_goals try omega
  refine call_tri [(0, 1)] [] (number_yes lo x r v hx hv) (by (simp only [go_sem]) <;> simp) (by (simp only [go_sem, entH, entH1, nilArr, obOK]) <;> simp) (by simp [injR, apart, toR]) (by simp [coverR, usH, toR]) (by simp [uniqP, lkR, toR]) (by simp [chk, hG]) ?_
  simp only [go_sem, hG, hOw]
  (repeat' with_reducible first | refine And.intro ?_ ?_ | intro _ | refine exP ?_ ?_); all_goals try omega
  exact ⟨[(0, some 0), (1, some 1), (2, some 2), (4, some 3)], by (simp only [EndT, go_sem, entH, entH1, nilArr, obOK, apart, injR, coverR]) <;> simp⟩
theorem copy_first_bad (lo : Nat) (l : List ByteArray) (hl : ∀ s ∈ l, s.size ≤ 100000) (h : ∀ s r, l = s :: r → valueS s = none) :
    Tri Tryz.prog 45 [str copyS, .ptr 1 0, .ptr 0 0, .ptr 2 0] [(0, .box [bl false]), (1, .box [strs lo l]), (2, .box [i64 0, .own 3 0 0 5]), (3, .arr 59 5 [])]
      (fun _ => .pan (wrV 111) []) := by
  have hcs : decide (copyS = ⟨#[99, 111, 112, 121]⟩) = true := rfl
  refine tri_intro (fun _ => false) Tryz.func45 Tryz.ntmps45 rfl (by kernel_rfl) (by simp) rfl (by decide) fun G hG hOw hNm => ?_; simp only [go_sem, hG, hOw]
  (repeat' with_reducible first | refine And.intro ?_ ?_ | intro _ | refine exP ?_ ?_); all_goals try omega
  refine call_tri [] [] (must_yes 111) (by (simp only [go_sem]) <;> simp [hcs]) (by (simp only [go_sem, entH, entH1, nilArr, obOK]) <;> simp [hcs]) (by simp [injR, apart, toR]) (by simp [coverR, usH, toR, hcs]) (by simp [uniqP, lkR, toR]) (by simp [chk, hG]) ?_
  simp only [go_sem, hG, hOw]
  (repeat' with_reducible first | refine And.intro ?_ ?_ | intro _ | refine exP ?_ ?_); all_goals try omega
  refine call_tri [(0, 1)] [] (number_bad lo l hl h) (by (simp only [go_sem]) <;> simp) (by (simp only [go_sem, entH, entH1, nilArr, obOK]) <;> simp) (by simp [injR, apart, toR]) (by simp [coverR, usH, toR]) (by simp [uniqP, lkR, toR]) (by simp [chk, hG]) ?_
  simp only [go_sem, hG, hOw]
  exact ⟨rfl, ⟨[], by (simp only [EndT, go_sem, entH, entH1, nilArr, obOK, apart, injR, coverR]) <;> simp⟩⟩
theorem copy_wrong (lo : Nat) (b : Bool) (name : ByteArray) (id : Int) (rs : List Rd) (l : List ByteArray) (h : decide (name = copyS) = b) :
    Tri Tryz.prog 45 [str name, .ptr 1 0, .ptr 0 0, .ptr 2 0] [(0, .box [bl b]), (1, .box [strs lo l]), (2, .box [i64 id, .own 3 0 rs.length 5]), (3, .arr 59 5 (rs.map rdE))]
      (fun _ => .pan (wrV 111) []) := by
  have hcs : decide (name = ⟨#[99, 111, 112, 121]⟩) = b := h
  refine tri_intro (fun _ => false) Tryz.func45 Tryz.ntmps45 rfl (by kernel_rfl) (by simp) rfl (by decide) fun G hG hOw hNm => ?_; simp only [go_sem, hG, hOw]
  (repeat' with_reducible first | refine And.intro ?_ ?_ | intro _ | refine exP ?_ ?_); all_goals try omega
  refine call_tri [] [] (must_no 111) (by (simp only [go_sem]) <;> simp [hcs]) (by (simp only [go_sem, entH, entH1, nilArr, obOK]) <;> simp [hcs]) (by simp [injR, apart, toR]) (by simp [coverR, usH, toR, hcs]) (by simp [uniqP, lkR, toR]) (by simp [chk, hG]) ?_
  simp only [go_sem, hG, hOw]
  exact ⟨rfl, ⟨[], by (simp only [EndT, go_sem, entH, entH1, nilArr, obOK, apart, injR, coverR]) <;> simp⟩⟩
theorem copy_kind (lo : Nat) (name : ByteArray) (id : Int) (rs : List Rd) (l : List ByteArray) (hn : ¬ name = copyS) (hk : kdN name = 0) :
    Tri Tryz.prog 45 [str name, .ptr 1 0, .ptr 0 0, .ptr 2 0] [(0, .box [bl true]), (1, .box [strs lo l]), (2, .box [i64 id, .own 3 0 rs.length 5]), (3, .arr 59 5 (rs.map rdE))]
      (fun _ => .pan (wrV 111) []) := by
  have hcs : decide (name = ⟨#[99, 111, 112, 121]⟩) = false := decide_eq_false hn
  have hI := idx_kind name
  have hI2 : decide (0 < idxOf (fun s => decide (name = s)) [⟨#[]⟩, omitS, putS, otherS]) = false := by
    rw [hI, hk]
    split <;> rfl
  refine tri_intro (fun _ => false) Tryz.func45 Tryz.ntmps45 rfl (by kernel_rfl) (by simp) rfl (by decide) fun G hG hOw hNm => ?_; simp only [go_sem, hG, hOw]
  (repeat' with_reducible first | refine And.intro ?_ ?_ | intro _ | refine exP ?_ ?_); all_goals try omega
  refine call_tri [] [] (must_yes 111) (by (simp only [go_sem]) <;> simp [hcs]) (by (simp only [go_sem, entH, entH1, nilArr, obOK]) <;> simp [hcs]) (by simp [injR, apart, toR]) (by simp [coverR, usH, toR, hcs]) (by simp [uniqP, lkR, toR]) (by simp [chk, hG]) ?_
  simp only [go_sem, hG, hOw]
  (repeat' with_reducible first | refine And.intro ?_ ?_ | intro _ | refine exP ?_ ?_); all_goals try omega
  refine call_pureA (Index_ok [⟨#[]⟩, omitS, putS, otherS] name) ?_
  simp (maxSteps := 2000000) only [go_sem, hG, hOw, hI2]
  (repeat' with_reducible first | refine And.intro ?_ ?_ | intro _ | refine exP ?_ ?_); all_goals try omega
  refine call_tri [] [] (must_no 111) (by (simp only [go_sem]) <;> simp [hI2]) (by (simp only [go_sem, entH, entH1, nilArr, obOK]) <;> simp [hI2]) (by simp [injR, apart, toR]) (by simp [coverR, usH, toR, hI2]) (by simp [uniqP, lkR, toR]) (by simp [chk, hG]) ?_
  simp only [go_sem, hG, hOw]
  exact ⟨rfl, ⟨[], by (simp only [EndT, go_sem, entH, entH1, nilArr, obOK, apart, injR, coverR]) <;> simp⟩⟩
open Go Pm
set_option maxHeartbeats 4000000
set_option maxRecDepth 100000
theorem copy_bad1 (lo : Nat) (id : Int) (rs : List Rd) (l : List ByteArray) (hl : ∀ s ∈ l, s.size ≤ 100000) (hp : placeB l = false) :
    Tri Tryz.prog 45 [str omitS, .ptr 1 0, .ptr 0 0, .ptr 2 0] [(0, .box [bl true]), (1, .box [strs lo l]), (2, .box [i64 id, .own 3 0 rs.length 5]), (3, .arr 59 5 (rs.map rdE))] (fun _ => .pan (wrV 111) []) := by
  have hP := place_tri lo l hl
  simp only [hp] at hP
  have hcs : decide (omitS = ⟨#[99, 111, 112, 121]⟩) = false := by decide
  have hI : idxOf (fun s => decide (omitS = s)) [⟨#[]⟩, omitS, putS, otherS] = 1 := by decide
  refine tri_intro (fun _ => false) Tryz.func45 Tryz.ntmps45 rfl (by kernel_rfl) (by simp) rfl (by decide) fun G hG hOw hNm => ?_; simp only [go_sem, hG, hOw]
  (repeat' with_reducible first | refine And.intro ?_ ?_ | intro _ | refine exP ?_ ?_); all_goals try omega
  refine call_tri [] [] (must_yes 111) (by (simp only [go_sem]) <;> simp [hcs]) (by (simp only [go_sem, entH, entH1, nilArr, obOK]) <;> simp [hcs]) (by simp [injR, apart, toR]) (by simp [coverR, usH, toR, hcs]) (by simp [uniqP, lkR, toR]) (by simp [chk, hG]) ?_
  simp only [go_sem, hG, hOw]
  (repeat' with_reducible first | refine And.intro ?_ ?_ | intro _ | refine exP ?_ ?_); all_goals try omega
  refine call_pureA (Index_ok [⟨#[]⟩, omitS, putS, otherS] omitS) ?_
  rw [hI]
  simp only [go_sem, hG, hOw]
  (repeat' with_reducible first | refine And.intro ?_ ?_ | intro _ | refine exP ?_ ?_); all_goals try omega
  refine call_tri [] [] (must_yes 111) (by (simp only [go_sem]) <;> simp) (by (simp only [go_sem, entH, entH1, nilArr, obOK]) <;> simp) (by simp [injR, apart, toR]) (by simp [coverR, usH, toR]) (by simp [uniqP, lkR, toR]) (by simp [chk, hG]) ?_
  simp only [go_sem, hG, hOw]
  (repeat' with_reducible first | refine And.intro ?_ ?_ | intro _ | refine exP ?_ ?_); all_goals try omega
  refine call_tri [(0, 1)] [] (hP) (by (simp only [go_sem]) <;> simp) (by (simp only [go_sem, entH, entH1, nilArr, obOK]) <;> simp) (by simp [injR, apart, toR]) (by simp [coverR, usH, toR]) (by simp [uniqP, lkR, toR]) (by simp [chk, hG]) ?_
  simp only [go_sem, hG, hOw]
  exact ⟨rfl, ⟨[], by (simp only [EndT, go_sem, entH, entH1, nilArr, obOK, apart, injR, coverR]) <;> simp⟩⟩
theorem copy_ok1 (lo : Nat) (id : Int) (rs : List Rd) (l : List ByteArray) (hl : ∀ s ∈ l, s.size ≤ 100000) (hp : placeB l = true) (hn : rs.length ≤ 1000) :
    Tri Tryz.prog 45 [str omitS, .ptr 1 0, .ptr 0 0, .ptr 2 0] [(0, .box [bl true]), (1, .box [strs lo l]), (2, .box [i64 id, .own 3 0 rs.length 5]), (3, .arr 59 5 (rs.map rdE))] (fun _ => .ret (.tup []) [(0, .box [bl true]), (1, .box [strs lo (l.drop 3)]), (2, .box [i64 id, .own 4 0 (rs.length + 1) 5]), (4, .arr 59 5 ((rs ++ [(⟨nvS l 0, nvS l 1, nvS l 2, 1, ⟨#[]⟩⟩ : Rd)]).map rdE))]) := by
  have hP := place_tri lo l hl
  simp only [hp] at hP
  have hq : (rs ++ [(⟨nvS l 0, nvS l 1, nvS l 2, 1, ⟨#[]⟩⟩ : Rd)]).map rdE = rs.map rdE ++ [[V.v (Value.int IntKind.i64 (nvS l 0)), V.v (Value.int IntKind.i64 (nvS l 1)), V.v (Value.int IntKind.i64 (nvS l 2)), V.v (Value.int IntKind.u8 (IntKind.u8.wrap 1)), V.v (Value.string ByteArray.empty)]] := by
    rw [List.map_append]; rfl
  rw [hq]
  have hcs : decide (omitS = ⟨#[99, 111, 112, 121]⟩) = false := by decide
  have hI : idxOf (fun s => decide (omitS = s)) [⟨#[]⟩, omitS, putS, otherS] = 1 := by decide
  refine tri_intro (fun _ => false) Tryz.func45 Tryz.ntmps45 rfl (by kernel_rfl) (by simp) rfl (by decide) fun G hG hOw hNm => ?_; simp only [go_sem, hG, hOw]
  (repeat' with_reducible first | refine And.intro ?_ ?_ | intro _ | refine exP ?_ ?_); all_goals try omega
  refine call_tri [] [] (must_yes 111) (by (simp only [go_sem]) <;> simp [hcs]) (by (simp only [go_sem, entH, entH1, nilArr, obOK]) <;> simp [hcs]) (by simp [injR, apart, toR]) (by simp [coverR, usH, toR, hcs]) (by simp [uniqP, lkR, toR]) (by simp [chk, hG]) ?_
  simp only [go_sem, hG, hOw]
  (repeat' with_reducible first | refine And.intro ?_ ?_ | intro _ | refine exP ?_ ?_); all_goals try omega
  refine call_pureA (Index_ok [⟨#[]⟩, omitS, putS, otherS] omitS) ?_
  rw [hI]
  simp only [go_sem, hG, hOw]
  (repeat' with_reducible first | refine And.intro ?_ ?_ | intro _ | refine exP ?_ ?_); all_goals try omega
  refine call_tri [] [] (must_yes 111) (by (simp only [go_sem]) <;> simp) (by (simp only [go_sem, entH, entH1, nilArr, obOK]) <;> simp) (by simp [injR, apart, toR]) (by simp [coverR, usH, toR]) (by simp [uniqP, lkR, toR]) (by simp [chk, hG]) ?_
  simp only [go_sem, hG, hOw]
  (repeat' with_reducible first | refine And.intro ?_ ?_ | intro _ | refine exP ?_ ?_); all_goals try omega
  refine call_tri [(0, 1)] [] (hP) (by (simp only [go_sem]) <;> simp) (by (simp only [go_sem, entH, entH1, nilArr, obOK]) <;> simp) (by simp [injR, apart, toR]) (by simp [coverR, usH, toR]) (by simp [uniqP, lkR, toR]) (by simp [chk, hG]) ?_
  simp only [go_sem, hG, hOw]
  (repeat' with_reducible first | refine And.intro ?_ ?_ | intro _ | refine exP ?_ ?_); all_goals try omega
  exact ⟨[(0, some 0), (1, some 1), (2, some 2), (4, some 38)], by (simp only [EndT, go_sem, entH, entH1, nilArr, obOK, apart, injR, coverR]) <;> simp⟩
theorem copy_bad2 (lo : Nat) (id : Int) (rs : List Rd) (l : List ByteArray) (hl : ∀ s ∈ l, s.size ≤ 100000) (hp : placeB l = false) :
    Tri Tryz.prog 45 [str putS, .ptr 1 0, .ptr 0 0, .ptr 2 0] [(0, .box [bl true]), (1, .box [strs lo l]), (2, .box [i64 id, .own 3 0 rs.length 5]), (3, .arr 59 5 (rs.map rdE))] (fun _ => .pan (wrV 111) []) := by
  have hP := place_tri lo l hl
  simp only [hp] at hP
  have hcs : decide (putS = ⟨#[99, 111, 112, 121]⟩) = false := by decide
  have hI : idxOf (fun s => decide (putS = s)) [⟨#[]⟩, omitS, putS, otherS] = 2 := by decide
  refine tri_intro (fun _ => false) Tryz.func45 Tryz.ntmps45 rfl (by kernel_rfl) (by simp) rfl (by decide) fun G hG hOw hNm => ?_; simp only [go_sem, hG, hOw]
  (repeat' with_reducible first | refine And.intro ?_ ?_ | intro _ | refine exP ?_ ?_); all_goals try omega
  refine call_tri [] [] (must_yes 111) (by (simp only [go_sem]) <;> simp [hcs]) (by (simp only [go_sem, entH, entH1, nilArr, obOK]) <;> simp [hcs]) (by simp [injR, apart, toR]) (by simp [coverR, usH, toR, hcs]) (by simp [uniqP, lkR, toR]) (by simp [chk, hG]) ?_
  simp only [go_sem, hG, hOw]
  (repeat' with_reducible first | refine And.intro ?_ ?_ | intro _ | refine exP ?_ ?_); all_goals try omega
  refine call_pureA (Index_ok [⟨#[]⟩, omitS, putS, otherS] putS) ?_
  rw [hI]
  simp only [go_sem, hG, hOw]
  (repeat' with_reducible first | refine And.intro ?_ ?_ | intro _ | refine exP ?_ ?_); all_goals try omega
  refine call_tri [] [] (must_yes 111) (by (simp only [go_sem]) <;> simp) (by (simp only [go_sem, entH, entH1, nilArr, obOK]) <;> simp) (by simp [injR, apart, toR]) (by simp [coverR, usH, toR]) (by simp [uniqP, lkR, toR]) (by simp [chk, hG]) ?_
  simp only [go_sem, hG, hOw]
  (repeat' with_reducible first | refine And.intro ?_ ?_ | intro _ | refine exP ?_ ?_); all_goals try omega
  refine call_tri [(0, 1)] [] (hP) (by (simp only [go_sem]) <;> simp) (by (simp only [go_sem, entH, entH1, nilArr, obOK]) <;> simp) (by simp [injR, apart, toR]) (by simp [coverR, usH, toR]) (by simp [uniqP, lkR, toR]) (by simp [chk, hG]) ?_
  simp only [go_sem, hG, hOw]
  exact ⟨rfl, ⟨[], by (simp only [EndT, go_sem, entH, entH1, nilArr, obOK, apart, injR, coverR]) <;> simp⟩⟩
theorem copy_ok2 (lo : Nat) (id : Int) (rs : List Rd) (l : List ByteArray) (hl : ∀ s ∈ l, s.size ≤ 100000) (hp : placeB l = true) (hn : rs.length ≤ 1000) (w : ByteArray) (r : List ByteArray) (hd : l.drop 3 = w :: r) (hw : wordB w = true) :
    Tri Tryz.prog 45 [str putS, .ptr 1 0, .ptr 0 0, .ptr 2 0] [(0, .box [bl true]), (1, .box [strs lo l]), (2, .box [i64 id, .own 3 0 rs.length 5]), (3, .arr 59 5 (rs.map rdE))] (fun _ => .ret (.tup []) [(0, .box [bl true]), (1, .box [strs lo r]), (2, .box [i64 id, .own 4 0 (rs.length + 1) 5]), (4, .arr 59 5 ((rs ++ [(⟨nvS l 0, nvS l 1, nvS l 2, 2, w⟩ : Rd)]).map rdE))]) := by
  have hP := place_tri lo l hl
  simp only [hp, hd] at hP
  have hq : (rs ++ [(⟨nvS l 0, nvS l 1, nvS l 2, 2, w⟩ : Rd)]).map rdE = rs.map rdE ++ [[V.v (Value.int IntKind.i64 (nvS l 0)), V.v (Value.int IntKind.i64 (nvS l 1)), V.v (Value.int IntKind.i64 (nvS l 2)), V.v (Value.int IntKind.u8 (IntKind.u8.wrap 2)), V.v (Value.string w)]] := by
    rw [List.map_append]; rfl
  rw [hq]
  have hcs : decide (putS = ⟨#[99, 111, 112, 121]⟩) = false := by decide
  have hI : idxOf (fun s => decide (putS = s)) [⟨#[]⟩, omitS, putS, otherS] = 2 := by decide
  refine tri_intro (fun _ => false) Tryz.func45 Tryz.ntmps45 rfl (by kernel_rfl) (by simp) rfl (by decide) fun G hG hOw hNm => ?_; simp only [go_sem, hG, hOw]
  (repeat' with_reducible first | refine And.intro ?_ ?_ | intro _ | refine exP ?_ ?_); all_goals try omega
  refine call_tri [] [] (must_yes 111) (by (simp only [go_sem]) <;> simp [hcs]) (by (simp only [go_sem, entH, entH1, nilArr, obOK]) <;> simp [hcs]) (by simp [injR, apart, toR]) (by simp [coverR, usH, toR, hcs]) (by simp [uniqP, lkR, toR]) (by simp [chk, hG]) ?_
  simp only [go_sem, hG, hOw]
  (repeat' with_reducible first | refine And.intro ?_ ?_ | intro _ | refine exP ?_ ?_); all_goals try omega
  refine call_pureA (Index_ok [⟨#[]⟩, omitS, putS, otherS] putS) ?_
  rw [hI]
  simp only [go_sem, hG, hOw]
  (repeat' with_reducible first | refine And.intro ?_ ?_ | intro _ | refine exP ?_ ?_); all_goals try omega
  refine call_tri [] [] (must_yes 111) (by (simp only [go_sem]) <;> simp) (by (simp only [go_sem, entH, entH1, nilArr, obOK]) <;> simp) (by simp [injR, apart, toR]) (by simp [coverR, usH, toR]) (by simp [uniqP, lkR, toR]) (by simp [chk, hG]) ?_
  simp only [go_sem, hG, hOw]
  (repeat' with_reducible first | refine And.intro ?_ ?_ | intro _ | refine exP ?_ ?_); all_goals try omega
  refine call_tri [(0, 1)] [] (hP) (by (simp only [go_sem]) <;> simp) (by (simp only [go_sem, entH, entH1, nilArr, obOK]) <;> simp) (by simp [injR, apart, toR]) (by simp [coverR, usH, toR]) (by simp [uniqP, lkR, toR]) (by simp [chk, hG]) ?_
  simp only [go_sem, hG, hOw]
  (repeat' with_reducible first | refine And.intro ?_ ?_ | intro _ | refine exP ?_ ?_); all_goals try omega
  refine call_tri [(0, 1)] [] (word_yes lo w r hw) (by (simp only [go_sem]) <;> simp) (by (simp only [go_sem, entH, entH1, nilArr, obOK]) <;> simp) (by simp [injR, apart, toR]) (by simp [coverR, usH, toR]) (by simp [uniqP, lkR, toR]) (by simp [chk, hG]) ?_
  simp only [go_sem, hG, hOw]
  (repeat' with_reducible first | refine And.intro ?_ ?_ | intro _ | refine exP ?_ ?_); all_goals try omega
  exact ⟨[(0, some 0), (1, some 1), (2, some 2), (4, some 38)], by (simp only [EndT, go_sem, entH, entH1, nilArr, obOK, apart, injR, coverR]) <;> simp⟩
theorem copy_not2 (lo : Nat) (id : Int) (rs : List Rd) (l : List ByteArray) (hl : ∀ s ∈ l, s.size ≤ 100000) (hp : placeB l = true) (w : ByteArray) (r : List ByteArray) (hd : l.drop 3 = w :: r) (hw : wordB w = false) :
    Tri Tryz.prog 45 [str putS, .ptr 1 0, .ptr 0 0, .ptr 2 0] [(0, .box [bl true]), (1, .box [strs lo l]), (2, .box [i64 id, .own 3 0 rs.length 5]), (3, .arr 59 5 (rs.map rdE))] (fun _ => .pan (wrV 111) []) := by
  have hP := place_tri lo l hl
  simp only [hp, hd] at hP
  have hcs : decide (putS = ⟨#[99, 111, 112, 121]⟩) = false := by decide
  have hI : idxOf (fun s => decide (putS = s)) [⟨#[]⟩, omitS, putS, otherS] = 2 := by decide
  refine tri_intro (fun _ => false) Tryz.func45 Tryz.ntmps45 rfl (by kernel_rfl) (by simp) rfl (by decide) fun G hG hOw hNm => ?_; simp only [go_sem, hG, hOw]
  (repeat' with_reducible first | refine And.intro ?_ ?_ | intro _ | refine exP ?_ ?_); all_goals try omega
  refine call_tri [] [] (must_yes 111) (by (simp only [go_sem]) <;> simp [hcs]) (by (simp only [go_sem, entH, entH1, nilArr, obOK]) <;> simp [hcs]) (by simp [injR, apart, toR]) (by simp [coverR, usH, toR, hcs]) (by simp [uniqP, lkR, toR]) (by simp [chk, hG]) ?_
  simp only [go_sem, hG, hOw]
  (repeat' with_reducible first | refine And.intro ?_ ?_ | intro _ | refine exP ?_ ?_); all_goals try omega
  refine call_pureA (Index_ok [⟨#[]⟩, omitS, putS, otherS] putS) ?_
  rw [hI]
  simp only [go_sem, hG, hOw]
  (repeat' with_reducible first | refine And.intro ?_ ?_ | intro _ | refine exP ?_ ?_); all_goals try omega
  refine call_tri [] [] (must_yes 111) (by (simp only [go_sem]) <;> simp) (by (simp only [go_sem, entH, entH1, nilArr, obOK]) <;> simp) (by simp [injR, apart, toR]) (by simp [coverR, usH, toR]) (by simp [uniqP, lkR, toR]) (by simp [chk, hG]) ?_
  simp only [go_sem, hG, hOw]
  (repeat' with_reducible first | refine And.intro ?_ ?_ | intro _ | refine exP ?_ ?_); all_goals try omega
  refine call_tri [(0, 1)] [] (hP) (by (simp only [go_sem]) <;> simp) (by (simp only [go_sem, entH, entH1, nilArr, obOK]) <;> simp) (by simp [injR, apart, toR]) (by simp [coverR, usH, toR]) (by simp [uniqP, lkR, toR]) (by simp [chk, hG]) ?_
  simp only [go_sem, hG, hOw]
  (repeat' with_reducible first | refine And.intro ?_ ?_ | intro _ | refine exP ?_ ?_); all_goals try omega
  refine call_tri [(0, 1)] [] (word_not lo w r hw) (by (simp only [go_sem]) <;> simp) (by (simp only [go_sem, entH, entH1, nilArr, obOK]) <;> simp) (by simp [injR, apart, toR]) (by simp [coverR, usH, toR]) (by simp [uniqP, lkR, toR]) (by simp [chk, hG]) ?_
  simp only [go_sem, hG, hOw]
  exact ⟨rfl, ⟨[], by (simp only [EndT, go_sem, entH, entH1, nilArr, obOK, apart, injR, coverR]) <;> simp⟩⟩
theorem copy_end2 (lo : Nat) (id : Int) (rs : List Rd) (l : List ByteArray) (hl : ∀ s ∈ l, s.size ≤ 100000) (hp : placeB l = true) (hd : l.drop 3 = []) :
    Tri Tryz.prog 45 [str putS, .ptr 1 0, .ptr 0 0, .ptr 2 0] [(0, .box [bl true]), (1, .box [strs lo l]), (2, .box [i64 id, .own 3 0 rs.length 5]), (3, .arr 59 5 (rs.map rdE))] (fun _ => .pan (wrV 111) []) := by
  have hP := place_tri lo l hl
  simp only [hp, hd] at hP
  have hcs : decide (putS = ⟨#[99, 111, 112, 121]⟩) = false := by decide
  have hI : idxOf (fun s => decide (putS = s)) [⟨#[]⟩, omitS, putS, otherS] = 2 := by decide
  refine tri_intro (fun _ => false) Tryz.func45 Tryz.ntmps45 rfl (by kernel_rfl) (by simp) rfl (by decide) fun G hG hOw hNm => ?_; simp only [go_sem, hG, hOw]
  (repeat' with_reducible first | refine And.intro ?_ ?_ | intro _ | refine exP ?_ ?_); all_goals try omega
  refine call_tri [] [] (must_yes 111) (by (simp only [go_sem]) <;> simp [hcs]) (by (simp only [go_sem, entH, entH1, nilArr, obOK]) <;> simp [hcs]) (by simp [injR, apart, toR]) (by simp [coverR, usH, toR, hcs]) (by simp [uniqP, lkR, toR]) (by simp [chk, hG]) ?_
  simp only [go_sem, hG, hOw]
  (repeat' with_reducible first | refine And.intro ?_ ?_ | intro _ | refine exP ?_ ?_); all_goals try omega
  refine call_pureA (Index_ok [⟨#[]⟩, omitS, putS, otherS] putS) ?_
  rw [hI]
  simp only [go_sem, hG, hOw]
  (repeat' with_reducible first | refine And.intro ?_ ?_ | intro _ | refine exP ?_ ?_); all_goals try omega
  refine call_tri [] [] (must_yes 111) (by (simp only [go_sem]) <;> simp) (by (simp only [go_sem, entH, entH1, nilArr, obOK]) <;> simp) (by simp [injR, apart, toR]) (by simp [coverR, usH, toR]) (by simp [uniqP, lkR, toR]) (by simp [chk, hG]) ?_
  simp only [go_sem, hG, hOw]
  (repeat' with_reducible first | refine And.intro ?_ ?_ | intro _ | refine exP ?_ ?_); all_goals try omega
  refine call_tri [(0, 1)] [] (hP) (by (simp only [go_sem]) <;> simp) (by (simp only [go_sem, entH, entH1, nilArr, obOK]) <;> simp) (by simp [injR, apart, toR]) (by simp [coverR, usH, toR]) (by simp [uniqP, lkR, toR]) (by simp [chk, hG]) ?_
  simp only [go_sem, hG, hOw]
  (repeat' with_reducible first | refine And.intro ?_ ?_ | intro _ | refine exP ?_ ?_); all_goals try omega
  refine call_tri [(0, 1)] [] (word_no lo) (by (simp only [go_sem]) <;> simp) (by (simp only [go_sem, entH, entH1, nilArr, obOK]) <;> simp) (by simp [injR, apart, toR]) (by simp [coverR, usH, toR]) (by simp [uniqP, lkR, toR]) (by simp [chk, hG]) ?_
  simp only [go_sem, hG, hOw]
  exact ⟨rfl, ⟨[], by (simp only [EndT, go_sem, entH, entH1, nilArr, obOK, apart, injR, coverR]) <;> simp⟩⟩
theorem copy_bad3 (lo : Nat) (id : Int) (rs : List Rd) (l : List ByteArray) (hl : ∀ s ∈ l, s.size ≤ 100000) (hp : placeB l = false) :
    Tri Tryz.prog 45 [str otherS, .ptr 1 0, .ptr 0 0, .ptr 2 0] [(0, .box [bl true]), (1, .box [strs lo l]), (2, .box [i64 id, .own 3 0 rs.length 5]), (3, .arr 59 5 (rs.map rdE))] (fun _ => .pan (wrV 111) []) := by
  have hP := place_tri lo l hl
  simp only [hp] at hP
  have hcs : decide (otherS = ⟨#[99, 111, 112, 121]⟩) = false := by decide
  have hI : idxOf (fun s => decide (otherS = s)) [⟨#[]⟩, omitS, putS, otherS] = 3 := by decide
  refine tri_intro (fun _ => false) Tryz.func45 Tryz.ntmps45 rfl (by kernel_rfl) (by simp) rfl (by decide) fun G hG hOw hNm => ?_; simp only [go_sem, hG, hOw]
  (repeat' with_reducible first | refine And.intro ?_ ?_ | intro _ | refine exP ?_ ?_); all_goals try omega
  refine call_tri [] [] (must_yes 111) (by (simp only [go_sem]) <;> simp [hcs]) (by (simp only [go_sem, entH, entH1, nilArr, obOK]) <;> simp [hcs]) (by simp [injR, apart, toR]) (by simp [coverR, usH, toR, hcs]) (by simp [uniqP, lkR, toR]) (by simp [chk, hG]) ?_
  simp only [go_sem, hG, hOw]
  (repeat' with_reducible first | refine And.intro ?_ ?_ | intro _ | refine exP ?_ ?_); all_goals try omega
  refine call_pureA (Index_ok [⟨#[]⟩, omitS, putS, otherS] otherS) ?_
  rw [hI]
  simp only [go_sem, hG, hOw]
  (repeat' with_reducible first | refine And.intro ?_ ?_ | intro _ | refine exP ?_ ?_); all_goals try omega
  refine call_tri [] [] (must_yes 111) (by (simp only [go_sem]) <;> simp) (by (simp only [go_sem, entH, entH1, nilArr, obOK]) <;> simp) (by simp [injR, apart, toR]) (by simp [coverR, usH, toR]) (by simp [uniqP, lkR, toR]) (by simp [chk, hG]) ?_
  simp only [go_sem, hG, hOw]
  (repeat' with_reducible first | refine And.intro ?_ ?_ | intro _ | refine exP ?_ ?_); all_goals try omega
  refine call_tri [(0, 1)] [] (hP) (by (simp only [go_sem]) <;> simp) (by (simp only [go_sem, entH, entH1, nilArr, obOK]) <;> simp) (by simp [injR, apart, toR]) (by simp [coverR, usH, toR]) (by simp [uniqP, lkR, toR]) (by simp [chk, hG]) ?_
  simp only [go_sem, hG, hOw]
  exact ⟨rfl, ⟨[], by (simp only [EndT, go_sem, entH, entH1, nilArr, obOK, apart, injR, coverR]) <;> simp⟩⟩
theorem copy_ok3 (lo : Nat) (id : Int) (rs : List Rd) (l : List ByteArray) (hl : ∀ s ∈ l, s.size ≤ 100000) (hp : placeB l = true) (hn : rs.length ≤ 1000) (w : ByteArray) (r : List ByteArray) (hd : l.drop 3 = w :: r) (hw : wordB w = true) :
    Tri Tryz.prog 45 [str otherS, .ptr 1 0, .ptr 0 0, .ptr 2 0] [(0, .box [bl true]), (1, .box [strs lo l]), (2, .box [i64 id, .own 3 0 rs.length 5]), (3, .arr 59 5 (rs.map rdE))] (fun _ => .ret (.tup []) [(0, .box [bl true]), (1, .box [strs lo r]), (2, .box [i64 id, .own 4 0 (rs.length + 1) 5]), (4, .arr 59 5 ((rs ++ [(⟨nvS l 0, nvS l 1, nvS l 2, 3, w⟩ : Rd)]).map rdE))]) := by
  have hP := place_tri lo l hl
  simp only [hp, hd] at hP
  have hq : (rs ++ [(⟨nvS l 0, nvS l 1, nvS l 2, 3, w⟩ : Rd)]).map rdE = rs.map rdE ++ [[V.v (Value.int IntKind.i64 (nvS l 0)), V.v (Value.int IntKind.i64 (nvS l 1)), V.v (Value.int IntKind.i64 (nvS l 2)), V.v (Value.int IntKind.u8 (IntKind.u8.wrap 3)), V.v (Value.string w)]] := by
    rw [List.map_append]; rfl
  rw [hq]
  have hcs : decide (otherS = ⟨#[99, 111, 112, 121]⟩) = false := by decide
  have hI : idxOf (fun s => decide (otherS = s)) [⟨#[]⟩, omitS, putS, otherS] = 3 := by decide
  refine tri_intro (fun _ => false) Tryz.func45 Tryz.ntmps45 rfl (by kernel_rfl) (by simp) rfl (by decide) fun G hG hOw hNm => ?_; simp only [go_sem, hG, hOw]
  (repeat' with_reducible first | refine And.intro ?_ ?_ | intro _ | refine exP ?_ ?_); all_goals try omega
  refine call_tri [] [] (must_yes 111) (by (simp only [go_sem]) <;> simp [hcs]) (by (simp only [go_sem, entH, entH1, nilArr, obOK]) <;> simp [hcs]) (by simp [injR, apart, toR]) (by simp [coverR, usH, toR, hcs]) (by simp [uniqP, lkR, toR]) (by simp [chk, hG]) ?_
  simp only [go_sem, hG, hOw]
  (repeat' with_reducible first | refine And.intro ?_ ?_ | intro _ | refine exP ?_ ?_); all_goals try omega
  refine call_pureA (Index_ok [⟨#[]⟩, omitS, putS, otherS] otherS) ?_
  rw [hI]
  simp only [go_sem, hG, hOw]
  (repeat' with_reducible first | refine And.intro ?_ ?_ | intro _ | refine exP ?_ ?_); all_goals try omega
  refine call_tri [] [] (must_yes 111) (by (simp only [go_sem]) <;> simp) (by (simp only [go_sem, entH, entH1, nilArr, obOK]) <;> simp) (by simp [injR, apart, toR]) (by simp [coverR, usH, toR]) (by simp [uniqP, lkR, toR]) (by simp [chk, hG]) ?_
  simp only [go_sem, hG, hOw]
  (repeat' with_reducible first | refine And.intro ?_ ?_ | intro _ | refine exP ?_ ?_); all_goals try omega
  refine call_tri [(0, 1)] [] (hP) (by (simp only [go_sem]) <;> simp) (by (simp only [go_sem, entH, entH1, nilArr, obOK]) <;> simp) (by simp [injR, apart, toR]) (by simp [coverR, usH, toR]) (by simp [uniqP, lkR, toR]) (by simp [chk, hG]) ?_
  simp only [go_sem, hG, hOw]
  (repeat' with_reducible first | refine And.intro ?_ ?_ | intro _ | refine exP ?_ ?_); all_goals try omega
  refine call_tri [(0, 1)] [] (word_yes lo w r hw) (by (simp only [go_sem]) <;> simp) (by (simp only [go_sem, entH, entH1, nilArr, obOK]) <;> simp) (by simp [injR, apart, toR]) (by simp [coverR, usH, toR]) (by simp [uniqP, lkR, toR]) (by simp [chk, hG]) ?_
  simp only [go_sem, hG, hOw]
  (repeat' with_reducible first | refine And.intro ?_ ?_ | intro _ | refine exP ?_ ?_); all_goals try omega
  exact ⟨[(0, some 0), (1, some 1), (2, some 2), (4, some 38)], by (simp only [EndT, go_sem, entH, entH1, nilArr, obOK, apart, injR, coverR]) <;> simp⟩
theorem copy_not3 (lo : Nat) (id : Int) (rs : List Rd) (l : List ByteArray) (hl : ∀ s ∈ l, s.size ≤ 100000) (hp : placeB l = true) (w : ByteArray) (r : List ByteArray) (hd : l.drop 3 = w :: r) (hw : wordB w = false) :
    Tri Tryz.prog 45 [str otherS, .ptr 1 0, .ptr 0 0, .ptr 2 0] [(0, .box [bl true]), (1, .box [strs lo l]), (2, .box [i64 id, .own 3 0 rs.length 5]), (3, .arr 59 5 (rs.map rdE))] (fun _ => .pan (wrV 111) []) := by
  have hP := place_tri lo l hl
  simp only [hp, hd] at hP
  have hcs : decide (otherS = ⟨#[99, 111, 112, 121]⟩) = false := by decide
  have hI : idxOf (fun s => decide (otherS = s)) [⟨#[]⟩, omitS, putS, otherS] = 3 := by decide
  refine tri_intro (fun _ => false) Tryz.func45 Tryz.ntmps45 rfl (by kernel_rfl) (by simp) rfl (by decide) fun G hG hOw hNm => ?_; simp only [go_sem, hG, hOw]
  (repeat' with_reducible first | refine And.intro ?_ ?_ | intro _ | refine exP ?_ ?_); all_goals try omega
  refine call_tri [] [] (must_yes 111) (by (simp only [go_sem]) <;> simp [hcs]) (by (simp only [go_sem, entH, entH1, nilArr, obOK]) <;> simp [hcs]) (by simp [injR, apart, toR]) (by simp [coverR, usH, toR, hcs]) (by simp [uniqP, lkR, toR]) (by simp [chk, hG]) ?_
  simp only [go_sem, hG, hOw]
  (repeat' with_reducible first | refine And.intro ?_ ?_ | intro _ | refine exP ?_ ?_); all_goals try omega
  refine call_pureA (Index_ok [⟨#[]⟩, omitS, putS, otherS] otherS) ?_
  rw [hI]
  simp only [go_sem, hG, hOw]
  (repeat' with_reducible first | refine And.intro ?_ ?_ | intro _ | refine exP ?_ ?_); all_goals try omega
  refine call_tri [] [] (must_yes 111) (by (simp only [go_sem]) <;> simp) (by (simp only [go_sem, entH, entH1, nilArr, obOK]) <;> simp) (by simp [injR, apart, toR]) (by simp [coverR, usH, toR]) (by simp [uniqP, lkR, toR]) (by simp [chk, hG]) ?_
  simp only [go_sem, hG, hOw]
  (repeat' with_reducible first | refine And.intro ?_ ?_ | intro _ | refine exP ?_ ?_); all_goals try omega
  refine call_tri [(0, 1)] [] (hP) (by (simp only [go_sem]) <;> simp) (by (simp only [go_sem, entH, entH1, nilArr, obOK]) <;> simp) (by simp [injR, apart, toR]) (by simp [coverR, usH, toR]) (by simp [uniqP, lkR, toR]) (by simp [chk, hG]) ?_
  simp only [go_sem, hG, hOw]
  (repeat' with_reducible first | refine And.intro ?_ ?_ | intro _ | refine exP ?_ ?_); all_goals try omega
  refine call_tri [(0, 1)] [] (word_not lo w r hw) (by (simp only [go_sem]) <;> simp) (by (simp only [go_sem, entH, entH1, nilArr, obOK]) <;> simp) (by simp [injR, apart, toR]) (by simp [coverR, usH, toR]) (by simp [uniqP, lkR, toR]) (by simp [chk, hG]) ?_
  simp only [go_sem, hG, hOw]
  exact ⟨rfl, ⟨[], by (simp only [EndT, go_sem, entH, entH1, nilArr, obOK, apart, injR, coverR]) <;> simp⟩⟩
theorem copy_end3 (lo : Nat) (id : Int) (rs : List Rd) (l : List ByteArray) (hl : ∀ s ∈ l, s.size ≤ 100000) (hp : placeB l = true) (hd : l.drop 3 = []) :
    Tri Tryz.prog 45 [str otherS, .ptr 1 0, .ptr 0 0, .ptr 2 0] [(0, .box [bl true]), (1, .box [strs lo l]), (2, .box [i64 id, .own 3 0 rs.length 5]), (3, .arr 59 5 (rs.map rdE))] (fun _ => .pan (wrV 111) []) := by
  have hP := place_tri lo l hl
  simp only [hp, hd] at hP
  have hcs : decide (otherS = ⟨#[99, 111, 112, 121]⟩) = false := by decide
  have hI : idxOf (fun s => decide (otherS = s)) [⟨#[]⟩, omitS, putS, otherS] = 3 := by decide
  refine tri_intro (fun _ => false) Tryz.func45 Tryz.ntmps45 rfl (by kernel_rfl) (by simp) rfl (by decide) fun G hG hOw hNm => ?_; simp only [go_sem, hG, hOw]
  (repeat' with_reducible first | refine And.intro ?_ ?_ | intro _ | refine exP ?_ ?_); all_goals try omega
  refine call_tri [] [] (must_yes 111) (by (simp only [go_sem]) <;> simp [hcs]) (by (simp only [go_sem, entH, entH1, nilArr, obOK]) <;> simp [hcs]) (by simp [injR, apart, toR]) (by simp [coverR, usH, toR, hcs]) (by simp [uniqP, lkR, toR]) (by simp [chk, hG]) ?_
  simp only [go_sem, hG, hOw]
  (repeat' with_reducible first | refine And.intro ?_ ?_ | intro _ | refine exP ?_ ?_); all_goals try omega
  refine call_pureA (Index_ok [⟨#[]⟩, omitS, putS, otherS] otherS) ?_
  rw [hI]
  simp only [go_sem, hG, hOw]
  (repeat' with_reducible first | refine And.intro ?_ ?_ | intro _ | refine exP ?_ ?_); all_goals try omega
  refine call_tri [] [] (must_yes 111) (by (simp only [go_sem]) <;> simp) (by (simp only [go_sem, entH, entH1, nilArr, obOK]) <;> simp) (by simp [injR, apart, toR]) (by simp [coverR, usH, toR]) (by simp [uniqP, lkR, toR]) (by simp [chk, hG]) ?_
  simp only [go_sem, hG, hOw]
  (repeat' with_reducible first | refine And.intro ?_ ?_ | intro _ | refine exP ?_ ?_); all_goals try omega
  refine call_tri [(0, 1)] [] (hP) (by (simp only [go_sem]) <;> simp) (by (simp only [go_sem, entH, entH1, nilArr, obOK]) <;> simp) (by simp [injR, apart, toR]) (by simp [coverR, usH, toR]) (by simp [uniqP, lkR, toR]) (by simp [chk, hG]) ?_
  simp only [go_sem, hG, hOw]
  (repeat' with_reducible first | refine And.intro ?_ ?_ | intro _ | refine exP ?_ ?_); all_goals try omega
  refine call_tri [(0, 1)] [] (word_no lo) (by (simp only [go_sem]) <;> simp) (by (simp only [go_sem, entH, entH1, nilArr, obOK]) <;> simp) (by simp [injR, apart, toR]) (by simp [coverR, usH, toR]) (by simp [uniqP, lkR, toR]) (by simp [chk, hG]) ?_
  simp only [go_sem, hG, hOw]
  exact ⟨rfl, ⟨[], by (simp only [EndT, go_sem, entH, entH1, nilArr, obOK, apart, injR, coverR]) <;> simp⟩⟩
open Go Pm
set_option maxHeartbeats 4000000
set_option maxRecDepth 100000
def cpO (s : Option Cp) : Cp := s.getD ⟨0, []⟩
theorem kd_cases (x : ByteArray) : (kdN x = 1 ∧ x = omitS) ∨ (kdN x = 2 ∧ x = putS) ∨ (kdN x = 3 ∧ x = otherS) ∨ kdN x = 0 := by
  unfold kdN
  by_cases h1 : x = omitS
  · left; simp [h1]
  · by_cases h2 : x = putS
    · right; left; rw [if_neg h1, if_pos h2]; exact ⟨rfl, h2⟩
    · by_cases h3 : x = otherS
      · right; right; left; rw [if_neg h1, if_neg h2, if_pos h3]; exact ⟨rfl, h3⟩
      · right; right; right; rw [if_neg h1, if_neg h2, if_neg h3]
theorem cby_ok (lo : Nat) (s : Option Cp) (c' : Cp) (name : ByteArray) (rest r' : List ByteArray) (hs : stepC s name rest = some (c', r')) (hl : ∀ s ∈ rest, s.size ≤ 100000) (hb : (cpO s).rds.length ≤ 1000) :
    Tri Tryz.prog 45 [str name, .ptr 1 0, .ptr 0 0, .ptr 2 0] [(0, .box [bl s.isSome]), (1, .box [strs lo rest]), (2, .box [i64 (cpO s).id, .own 3 0 (cpO s).rds.length 5]), (3, .arr 59 5 ((cpO s).rds.map rdE))]
      (fun _ => .ret (.tup []) [(0, .box [bl true]), (1, .box [strs lo r']), (2, .box [i64 c'.id, .own 4 0 c'.rds.length 5]), (4, .arr 59 5 (c'.rds.map rdE))]) := by
  cases s with
  | none =>
    unfold stepC at hs
    simp only at hs
    split at hs
    · rename_i hn
      subst hn
      cases rest with
      | nil => cases hs
      | cons x r =>
        simp only [Option.map_eq_some_iff, Prod.mk.injEq] at hs
        obtain ⟨v, hv, rfl, rfl⟩ := hs
        exact copy_first lo x r v (hl x (by simp)) hv
    · cases hs
  | some c =>
    unfold stepC at hs
    simp only at hs
    rcases kd_cases name with ⟨hk, rfl⟩ | ⟨hk, rfl⟩ | ⟨hk, rfl⟩ | hk
    · rw [if_neg (by decide), if_neg (by rw [hk]; decide), hk] at hs
      split at hs
      · rename_i hp
        simp only [if_true, Option.some.injEq, Prod.mk.injEq] at hs
        obtain ⟨rfl, rfl⟩ := hs
        have := copy_ok1 lo c.id c.rds rest hl hp hb
        simpa [cpO] using this
      · cases hs
    · rw [if_neg (by decide), if_neg (by rw [hk]; decide), hk] at hs
      split at hs
      · rename_i hp
        rw [if_neg (by decide)] at hs
        split at hs
        · rename_i w r hd
          split at hs
          · rename_i hw
            simp only [Option.some.injEq, Prod.mk.injEq] at hs
            obtain ⟨rfl, rfl⟩ := hs
            have := copy_ok2 lo c.id c.rds rest hl hp hb w r hd hw
            simpa [cpO] using this
          · cases hs
        · cases hs
      · cases hs
    · rw [if_neg (by decide), if_neg (by rw [hk]; decide), hk] at hs
      split at hs
      · rename_i hp
        rw [if_neg (by decide)] at hs
        split at hs
        · rename_i w r hd
          split at hs
          · rename_i hw
            simp only [Option.some.injEq, Prod.mk.injEq] at hs
            obtain ⟨rfl, rfl⟩ := hs
            have := copy_ok3 lo c.id c.rds rest hl hp hb w r hd hw
            simpa [cpO] using this
          · cases hs
        · cases hs
      · cases hs
    · split at hs
      · cases hs
      · first | cases hs | (rw [if_pos hk] at hs; cases hs)
theorem cby_bad (lo : Nat) (s : Option Cp) (name : ByteArray) (rest : List ByteArray) (h0 : s = none → True) (hs : stepC s name rest = none) (hl : ∀ s ∈ rest, s.size ≤ 100000) :
    Tri Tryz.prog 45 [str name, .ptr 1 0, .ptr 0 0, .ptr 2 0] [(0, .box [bl s.isSome]), (1, .box [strs lo rest]), (2, .box [i64 (cpO s).id, .own 3 0 (cpO s).rds.length 5]), (3, .arr 59 5 ((cpO s).rds.map rdE))] (fun _ => .pan (wrV 111) []) := by
  cases s with
  | none =>
    by_cases hn : name = copyS
    · subst hn
      refine copy_first_bad lo rest hl fun x r e => ?_
      subst e
      simpa [stepC] using hs
    · exact copy_wrong lo false name 0 [] rest (decide_eq_false hn)
  | some c =>
    by_cases hn : name = copyS
    · exact copy_wrong lo true name c.id c.rds rest (decide_eq_true hn)
    · rcases kd_cases name with ⟨hk, rfl⟩ | ⟨hk, rfl⟩ | ⟨hk, rfl⟩ | hk
      · cases hp : placeB rest with
        | false => exact copy_bad1 lo c.id c.rds rest hl hp
        | true =>
          exfalso
          simp [stepC, hp, hk, hn] at hs
      · cases hp : placeB rest with
        | false => exact copy_bad2 lo c.id c.rds rest hl hp
        | true =>
          cases hd : rest.drop 3 with
          | nil => exact copy_end2 lo c.id c.rds rest hl hp hd
          | cons w r =>
            cases hw : wordB w with
            | false => exact copy_not2 lo c.id c.rds rest hl hp w r hd hw
            | true => exfalso; simp [stepC, hp, hk, hn, hd, hw] at hs
      · cases hp : placeB rest with
        | false => exact copy_bad3 lo c.id c.rds rest hl hp
        | true =>
          cases hd : rest.drop 3 with
          | nil => exact copy_end3 lo c.id c.rds rest hl hp hd
          | cons w r =>
            cases hw : wordB w with
            | false => exact copy_not3 lo c.id c.rds rest hl hp w r hd hw
            | true => exfalso; simp [stepC, hp, hk, hn, hd, hw] at hs
      · exact copy_kind lo name c.id c.rds rest hn hk
theorem readG_app : ∀ (l m : List ByteArray) (s : Option Cp), readG s (l ++ m) = (readG s l).bind fun s' => readG s' m
  | [], m, s => rfl
  | x :: l, m, s => by
    simp only [List.cons_append, readG]
    cases stepG s x with
    | none => rfl
    | some c => exact readG_app l m (some c)
theorem readG_succ (l : List ByteArray) (k : Nat) (hk : k < l.length) : readG none (l.take (k + 1)) = (readG none (l.take k)).bind fun s => (stepG s l[k]).map some := by
  rw [List.take_add_one, List.getElem?_eq_getElem hk, readG_app]
  congr 1
  funext s
  simp only [Option.toList, readG]
  cases stepG s l[k] <;> rfl
theorem readG_bad {l : List ByteArray} {k : Nat} {s : Option Cp} (hk : k < l.length) (h : readG none (l.take k) = some s) (hb : stepG s l[k] = none) : readG none l = none := by
  have h1 : readG none (l.take (k + 1)) = none := by rw [readG_succ l k hk, h]; simp [hb]
  have h2 := readG_app (l.take (k + 1)) (l.drop (k + 1)) none
  rw [List.take_append_drop] at h2
  rw [h2, h1]; rfl
open Go Pm
set_option maxHeartbeats 4000000
set_option maxRecDepth 100000
theorem stepC_len {s : Option Cp} {name : ByteArray} {rest r' : List ByteArray} {c : Cp} (h : stepC s name rest = some (c, r')) : c.rds.length ≤ (cpO s).rds.length + 1 := by
  cases s with
  | none =>
    unfold stepC at h
    simp only at h
    split at h
    · cases rest with
      | nil => cases h
      | cons x r =>
        simp only [Option.map_eq_some_iff, Prod.mk.injEq] at h
        obtain ⟨v, _, rfl, _⟩ := h
        simp
    · cases h
  | some d =>
    unfold stepC at h
    simp only at h
    split at h
    · cases h
    · split at h
      · cases h
      · split at h
        · split at h
          · simp only [Option.some.injEq, Prod.mk.injEq] at h
            obtain ⟨rfl, _⟩ := h
            simp [cpO]
          · split at h
            · split at h
              · simp only [Option.some.injEq, Prod.mk.injEq] at h
                obtain ⟨rfl, _⟩ := h
                simp [cpO]
              · cases h
            · cases h
        · cases h
theorem stepG_len {s : Option Cp} {x : ByteArray} {c : Cp} (h : stepG s x = some c) : c.rds.length ≤ (cpO s).rds.length + 1 := by
  unfold stepG at h
  split at h
  · cases h
  · split at h
    · rename_i hs
      cases h
      exact stepC_len hs
    · cases h
theorem readG_len {l : List ByteArray} : ∀ {k : Nat} {s : Option Cp}, k ≤ l.length → readG none (l.take k) = some s → (cpO s).rds.length ≤ k
  | 0, s, _, h => by
    simp [readG] at h
    subst h
    simp [cpO]
  | k + 1, s, hk, h => by
    rw [readG_succ l k (by omega)] at h
    simp only [Option.bind_eq_some_iff, Option.map_eq_some_iff] at h
    obtain ⟨u, h1, c, h2, rfl⟩ := h
    have ih := readG_len (by omega) h1
    have := stepG_len h2
    show c.rds.length ≤ _
    omega
theorem cread_rows (l : List ByteArray) (h : rowsB l = false) : Tri Tryz.prog 29 [strs 0 l, .fn (.func 45) [.ptr 0 0, .ptr 1 0]] [(0, .box [bl false]), (1, .box [i64 0, .v (.slice none 0 0)])] (fun _ => .pan (wrV 110) []) := by
  refine tri_intro (fun _ => false) Tryz.func29 Tryz.ntmps29 rfl (by kernel_rfl) (by simp) rfl (by decide) fun G hG hOw hNm => ?_; simp only [go_sem, hG, hOw]
  (repeat' with_reducible first | refine And.intro ?_ ?_ | intro _ | refine exP ?_ ?_); all_goals try omega
  refine call_pureA (Check_ok l) ?_
  rw [h]
  simp only [go_sem, hG, hOw]
  (repeat' with_reducible first | refine And.intro ?_ ?_ | intro _ | refine exP ?_ ?_); all_goals try omega
  refine call_tri [] [] (must_no 110) (by (simp only [go_sem]) <;> simp) (by (simp only [go_sem, entH, entH1, nilArr, obOK]) <;> simp) (by simp [injR, apart, toR]) (by simp [coverR, usH, toR]) (by simp [uniqP, lkR, toR]) (by simp [chk, hG]) ?_
  simp only [go_sem, hG, hOw]
  (repeat' with_reducible first | refine And.intro ?_ ?_ | intro _ | refine exP ?_ ?_); all_goals try omega
  exact ⟨rfl, ⟨[], by (simp only [EndT, go_sem, entH, entH1, nilArr, obOK, apart, injR, coverR]) <;> simp⟩⟩
theorem read_copy (l : List ByteArray) (h : rowsB l = true) : Tri Tryz.prog 29 [strs 0 l, .fn (.func 45) [.ptr 0 0, .ptr 1 0]] [(0, .box [bl false]), (1, .box [i64 0, .v (.slice none 0 0)])] (fun _ => match readG none l with
    | some s => .ret (.tup []) [(0, .box [bl s.isSome]), (1, .box [i64 (cpO s).id, rds 0 (cpO s).rds])]
    | none => .pan (wrV 111) []) := by
  obtain ⟨hl1, hl2⟩ := rowsB_bd h
  refine tri_intro (fun _ => false) Tryz.func29 Tryz.ntmps29 rfl (by kernel_rfl) (by simp) rfl (by decide) fun G hG hOw hNm => ?_; simp only [go_sem, hG, hOw]
  (repeat' with_reducible first | refine And.intro ?_ ?_ | intro _ | refine exP ?_ ?_); all_goals try omega
  refine call_pureA (Check_ok l) ?_
  rw [h]
  simp only [go_sem, hG, hOw]
  (repeat' with_reducible first | refine And.intro ?_ ?_ | intro _ | refine exP ?_ ?_); all_goals try omega
  refine call_tri [] [] (must_yes 110) (by (simp only [go_sem]) <;> simp) (by (simp only [go_sem, entH, entH1, nilArr, obOK]) <;> simp) (by simp [injR, apart, toR]) (by simp [coverR, usH, toR]) (by simp [uniqP, lkR, toR]) (by simp [chk, hG]) ?_
  simp only [go_sem, hG, hOw]
  (repeat' with_reducible first | refine And.intro ?_ ?_ | intro _ | refine exP ?_ ?_); all_goals try omega
  have e0 : (cpO none).rds = [] := rfl
  have e1 : (cpO none).id = 0 := rfl
  refine semC_cutN (fun s : Option Cp => St.of [] [(0, .box [bl s.isSome]), (1, .box [i64 (cpO s).id, rds 0 (cpO s).rds])]) (fun s => readG none l = some s) ?_ ?_
  · refine semC_loop (fun x : Nat × Option Cp => St.of [(1, .fn (.func 45) [.ptr 0 0, .ptr 1 0]), (11, strs 0 l), (12, i64 l.length), (13, i64 x.1)] [(0, .box [bl x.2.isSome]), (1, .box [i64 (cpO x.2).id, .own 100 0 (cpO x.2).rds.length 5]), (100, .arr 59 5 ((cpO x.2).rds.map rdE))]) (fun x => x.1 ≤ l.length ∧ readG none (l.take x.1) = some x.2) (fun x => l.length - x.1) (0, none) ⟨by simp, by simp [readG]⟩ (ent_of [(0, some 0), (1, some 1), (100, none)] (by (simp only [e0,e1,Option.isSome_none,List.map_nil,List.length_nil, go_sem]) <;> simp [e0, e1, Option.isSome_none, List.map_nil, List.length_nil]) (by (simp only [e0,e1,Option.isSome_none,List.map_nil,List.length_nil, go_sem, entH, entH1, nilArr, obOK]) <;> simp [e0, e1, Option.isSome_none, List.map_nil, List.length_nil]) (by simp [injR, apart]) (by simp [coverR, usH]) (by simp [hNm, lkR, names])) ?_
    rintro ⟨k, s⟩ ⟨hk, hrd⟩
    simp only at hk hrd
    have hbd := readG_len hk hrd
    refine vc_sound _ _ _ ?_; simp only [go_sem, hG, hOw]
    (repeat' with_reducible first | refine And.intro ?_ ?_ | intro _ | refine exP ?_ ?_); all_goals try omega
    · rename_i hlt
      have hkl : k < l.length := by omega
      have hsz := hl2 _ (List.getElem_mem hkl)
      refine call_pureA (Split_ok l[k] (by omega)) ?_
      obtain ⟨name, rest, hp⟩ : ∃ name rest, partsS l[k] = name :: rest := by
        cases hq : partsS l[k] with
        | nil => exact (partsS_ne _ hq).elim
        | cons a b => exact ⟨a, b, rfl⟩
      have hps : ∀ s ∈ rest, s.size ≤ 100000 := fun s hs => by have := partsS_size l[k] s (by rw [hp]; simp [hs]); omega
      rw [hp]
      simp only [go_sem, hG, hOw]
      (repeat' with_reducible first | refine And.intro ?_ ?_ | intro _ | refine exP ?_ ?_); all_goals try omega
      refine call_tri [(0, 20)] [] (take_yes G.lo name rest) (by (simp only [go_sem]) <;> simp) (by (simp only [go_sem, entH, entH1, nilArr, obOK]) <;> simp) (by simp [injR, apart, toR]) (by simp [coverR, usH, toR]) (by simp [uniqP, lkR, toR]) (by simp [chk, hG]) ?_
      simp only [go_sem, hG, hOw]
      (repeat' with_reducible first | refine And.intro ?_ ?_ | intro _ | refine exP ?_ ?_); all_goals try omega
      cases hst : stepC s name rest with
      | none =>
        have hno : readG none l = none := readG_bad hkl hrd (by unfold stepG; rw [hp]; simp only [hst])
        rw [hno]
        refine call_tri [(0, 0), (1, 20), (2, 1), (3, 100)] [] (cby_bad G.lo s name rest (fun _ => trivial) hst hps) (by (simp only [go_sem]) <;> simp) (by (simp only [go_sem, entH, entH1, nilArr, obOK]) <;> simp) (by simp [injR, apart, toR]) (by simp [coverR, usH, toR]) (by simp [uniqP, lkR, toR]) (by simp [chk, hG]) ?_
        simp only [go_sem, hG, hOw]
        exact ⟨rfl, ⟨[], by (simp only [EndT, go_sem, entH, entH1, nilArr, obOK, apart, injR, coverR]) <;> simp⟩⟩
      | some q =>
        obtain ⟨c', r'⟩ := q
        refine call_tri [(0, 0), (1, 20), (2, 1), (3, 100)] [(4, 204)] (cby_ok G.lo s c' name rest r' hst hps (by omega)) (by (simp only [go_sem]) <;> simp) (by (simp only [go_sem, entH, entH1, nilArr, obOK]) <;> simp) (by simp [injR, apart, toR]) (by simp [coverR, usH, toR]) (by simp [uniqP, lkR, toR]) (by simp [chk, hG]) ?_
        simp only [go_sem, hG, hOw]
        (repeat' with_reducible first | refine And.intro ?_ ?_ | intro _ | refine exP ?_ ?_); all_goals try omega
        · rename_i hr0
          have hr0 : r' = [] := List.eq_nil_of_length_eq_zero (by omega)
          subst hr0
          have hsF : stepG s l[k] = some c' := by unfold stepG; rw [hp]; simp only [hst]
          have f1 : cpO (some c') = c' := rfl
          exact ⟨(k + 1, some c'), ⟨by show k + 1 ≤ _; omega, by rw [readG_succ l k hkl, hrd]; simp [hsF]⟩, by show l.length - (k + 1) < _; omega, ent_of [(0, some 0), (1, some 1), (100, some 204)] (by (simp only [f1,Option.isSome_some, go_sem]) <;> simp [f1, Option.isSome_some]) (by (simp only [f1,Option.isSome_some, go_sem, entH, entH1, nilArr, obOK]) <;> simp [f1, Option.isSome_some]) (by simp [injR, apart]) (by simp [coverR, usH]) (by simp [hNm, lkR, names])⟩
        · rename_i hr0
          have hno : readG none l = none := readG_bad hkl hrd (by
            unfold stepG; rw [hp]; simp only [hst]
            cases r' with
            | nil => exact (hr0 rfl).elim
            | cons a b => rfl)
          rw [hno]
          refine mki_step [.int .i64 111] rfl rfl (by kernel_rfl) (by simp [chk, hG]) ?_
          simp only [go_sem, hG, hOw]
          (repeat' with_reducible first | refine And.intro ?_ ?_ | intro _ | refine exP ?_ ?_); all_goals try omega
          refine panic_step rfl rfl ?_
          exact ⟨rfl, ⟨[], by (simp only [EndT, go_sem, entH, entH1, nilArr, obOK, apart, injR, coverR]) <;> simp⟩⟩
    · rename_i hge
      obtain rfl : k = l.length := by omega
      rw [List.take_length] at hrd
      refine ⟨s, hrd, ent_frz (fun i => i == 100) ?_⟩
      have hN : Pm.Sub (.lst G.lo 5 ((cpO s).rds.map rdE)) (.lst 0 5 ((cpO s).rds.map rdE)) := Sub.lo (Nat.zero_le _)
      have hT : List.take (cpO s).rds.length ((cpO s).rds.map rdE) = (cpO s).rds.map rdE := List.take_of_length_le (by simp)
      exact ent_of [(0, some 0), (1, some 1)] (by (simp only [hT,hN, go_sem]) <;> simp [hT, hN]) (by (simp only [hT,hN, go_sem, entH, entH1, nilArr, obOK]) <;> simp [hT, hN]) (by simp [injR, apart]) (by simp [coverR, usH]) (by simp [hNm, lkR, names])
  · rintro s hs
    rw [hs]
    simp only [go_sem, hG, hOw]
    (repeat' with_reducible first | refine And.intro ?_ ?_ | intro _ | refine exP ?_ ?_); all_goals try omega
    exact ⟨[(0, some 0), (1, some 1)], by (simp only [EndT, go_sem, entH, entH1, nilArr, obOK, apart, injR, coverR]) <;> simp⟩
end Go.Proofs.YtphadkcpgnkpfaaGreatDoor
