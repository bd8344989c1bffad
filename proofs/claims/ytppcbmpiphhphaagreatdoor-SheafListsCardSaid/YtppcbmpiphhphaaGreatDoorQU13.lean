import Derived.Test.YtppcbmpiphhphaaGreatDoorQU10
import Derived.Test.YtppcbmpiphhphaaGreatDoorQU12
namespace Go.Proofs.YtppcbmpiphhphaaGreatDoor
open Go Pm
set_option linter.unusedSimpArgs false
set_option linter.unusedVariables false
set_option maxHeartbeats 4000000
set_option maxRecDepth 100000
def intE (n : Int) : List V := [i64 n]
attribute [go_sem] intE byteE
theorem allOnes_bytes (l : List UInt8) : allOnes (l.map byteE) = true := allOnes_map (fun _ => rfl) l
theorem allOnes_ints (l : List Int) : allOnes (l.map intE) = true := allOnes_map (fun _ => rfl) l
attribute [go_sem] allOnes_bytes allOnes_ints
theorem bd_lst {lo sz : Nat} {l : List (List V)} {xs : List V} (h : ∀ x ∈ xs, Bd x) (hm : V.lst lo sz l ∈ xs) : l.length ≤ 140737488355328 := by
  cases h _ hm with
  | lst _ _ _ hl _ => exact hl
def idxOf {α : Type} (p : α → Bool) (l : List α) : Int := match l.findIdx? p with
  | some i => i
  | none => -1
theorem idxOf_at {α : Type} {p : α → Bool} {l : List α} {k : Nat} (hk : k < l.length) (h : (l.take k).all (fun x => !p x) = true) (hp : p l[k] = true) : idxOf p l = k := by
  have : l.findIdx? p = some k := by
    rw [List.findIdx?_eq_some_iff_getElem]
    refine ⟨hk, hp, fun j hj => ?_⟩
    have := List.all_eq_true.1 h l[j] (List.mem_take_iff_getElem.2 ⟨j, by omega, rfl⟩)
    simpa using this
  simp [idxOf, this]
theorem idxOf_no {α : Type} {p : α → Bool} {l : List α} (h : l.all (fun x => !p x) = true) : idxOf p l = -1 := by
  have : l.findIdx? p = none := by
    rw [List.findIdx?_eq_none_iff]
    intro x hx
    simpa using List.all_eq_true.1 h x hx
  simp [idxOf, this]
theorem idxOf_any {α : Type} (p : α → Bool) (l : List α) : decide (0 ≤ idxOf p l) = l.any p := by
  cases h : l.any p with
  | false =>
    rw [idxOf_no (by simpa using h)]; rfl
  | true =>
    have : ∃ i, l.findIdx? p = some i := by
      cases e : l.findIdx? p with
      | some i => exact ⟨i, rfl⟩
      | none => rw [List.findIdx?_eq_none_iff] at e; simp at h; obtain ⟨x, hx, hp⟩ := h; rw [e x hx] at hp; cases hp
    obtain ⟨i, hi⟩ := this
    simp [idxOf, hi]
theorem IndexFunc_Int (k : FuncId) (cap : List V) (p : Int → Bool) (l : List Int) (hcap : all0 cap = true) (hf : ∀ x ∈ l, Gives Tryz.prog k (intE x ++ cap) (fun _ => bl (p x))) :
    Gives Tryz.prog 97 [.lst 0 1 (l.map intE), .fn (.func k) cap] (fun _ => i64 (idxOf p l)) := by
  refine pure_intro (ow := fun _ => false) Tryz.func97 Tryz.ntmps97 rfl (by kernel_rfl) (by simp) rfl (by decide) fun G hG hOw hNm hB => ?_; simp only [go_sem, hG, hOw]
  have hl := bd_lst hB (List.mem_cons_self ..)
  simp only [List.length_map] at hl
  refine semC_loop (fun i : Nat => St.of [(0, .lst 0 1 (l.map intE)), (1, .fn (.func k) cap), (7, i64 l.length), (8, i64 i)] []) (fun i => i ≤ l.length ∧ (l.take i).all (fun x => !p x) = true) (fun i => l.length - i) 0 (by simp) (entA [] (by (simp only [go_sem]) <;> simp [hcap]) (by (simp only [go_sem, entH, entH1, nilArr, obOK]) <;> simp [hcap])) ?_
  rintro i ⟨hi, hall⟩
  refine vc_sound _ _ _ ?_; simp only [go_sem, hG, hOw]
  (repeat' with_reducible first | refine And.intro ?_ ?_ | intro _ | refine exP ?_ ?_); all_goals try omega
  · rename_i hlt
    have hil : i < l.length := by omega
    refine call_pure (hf l[i] (List.getElem_mem hil)) (Subs.refl _) (by simp [allP, pureV, pure0, all0_allP hcap]) (by simp [chk, hG]) ?_
    simp only [go_sem, hG, hOw]
    (repeat' with_reducible first | refine And.intro ?_ ?_ | intro _ | refine exP ?_ ?_); all_goals try omega
    · rename_i hp
      exact (idxOf_at hil hall hp).symm
    · rename_i hp
      exact ⟨i + 1, ⟨by omega, all_take_succ hil hall (by rw [hp]; rfl)⟩, by omega, entA [] (by (simp only [go_sem]) <;> simp [hcap]) (by (simp only [go_sem, entH, entH1, nilArr, obOK]) <;> simp [hcap])⟩
  · rename_i hge
    rw [take_full hi hge] at hall
    exact (idxOf_no hall).symm
theorem ContainsFunc_Int (k : FuncId) (cap : List V) (p : Int → Bool) (l : List Int) (hcap : all0 cap = true) (hf : ∀ x ∈ l, Gives Tryz.prog k (intE x ++ cap) (fun _ => bl (p x))) :
    Gives Tryz.prog 63 [.lst 0 1 (l.map intE), .fn (.func k) cap] (fun _ => bl (l.any p)) := by
  refine pure_intro (ow := fun _ => false) Tryz.func63 Tryz.ntmps63 rfl (by kernel_rfl) (by simp) rfl (by decide) fun G hG hOw hNm hB => ?_; simp only [go_sem, hG, hOw]
  refine call_pureA (IndexFunc_Int k cap p l hcap hf) ?_
  simp only [go_sem, hG, hOw]
  rw [idxOf_any]
theorem IndexFunc_Byte (k : FuncId) (cap : List V) (p : UInt8 → Bool) (l : List UInt8) (hcap : all0 cap = true) (hf : ∀ x ∈ l, Gives Tryz.prog k (byteE x ++ cap) (fun _ => bl (p x))) :
    Gives Tryz.prog 104 [.lst 0 1 (l.map byteE), .fn (.func k) cap] (fun _ => i64 (idxOf p l)) := by
  refine pure_intro (ow := fun _ => false) Tryz.func104 Tryz.ntmps104 rfl (by kernel_rfl) (by simp) rfl (by decide) fun G hG hOw hNm hB => ?_; simp only [go_sem, hG, hOw]
  have hl := bd_lst hB (List.mem_cons_self ..)
  simp only [List.length_map] at hl
  refine semC_loop (fun i : Nat => St.of [(0, .lst 0 1 (l.map byteE)), (1, .fn (.func k) cap), (7, i64 l.length), (8, i64 i)] []) (fun i => i ≤ l.length ∧ (l.take i).all (fun x => !p x) = true) (fun i => l.length - i) 0 (by simp) (entA [] (by (simp only [go_sem]) <;> simp [hcap]) (by (simp only [go_sem, entH, entH1, nilArr, obOK]) <;> simp [hcap])) ?_
  rintro i ⟨hi, hall⟩
  refine vc_sound _ _ _ ?_; simp only [go_sem, hG, hOw]
  (repeat' with_reducible first | refine And.intro ?_ ?_ | intro _ | refine exP ?_ ?_); all_goals try omega
  · rename_i hlt
    have hil : i < l.length := by omega
    refine call_pure (hf l[i] (List.getElem_mem hil)) (Subs.refl _) (by simp [allP, pureV, pure0, all0_allP hcap]) (by simp [chk, hG]) ?_
    simp only [go_sem, hG, hOw]
    (repeat' with_reducible first | refine And.intro ?_ ?_ | intro _ | refine exP ?_ ?_); all_goals try omega
    · rename_i hp
      exact (idxOf_at hil hall hp).symm
    · rename_i hp
      exact ⟨i + 1, ⟨by omega, all_take_succ hil hall (by rw [hp]; rfl)⟩, by omega, entA [] (by (simp only [go_sem]) <;> simp [hcap]) (by (simp only [go_sem, entH, entH1, nilArr, obOK]) <;> simp [hcap])⟩
  · rename_i hge
    rw [take_full hi hge] at hall
    exact (idxOf_no hall).symm
theorem ContainsFunc_Byte (k : FuncId) (cap : List V) (p : UInt8 → Bool) (l : List UInt8) (hcap : all0 cap = true) (hf : ∀ x ∈ l, Gives Tryz.prog k (byteE x ++ cap) (fun _ => bl (p x))) :
    Gives Tryz.prog 72 [.lst 0 1 (l.map byteE), .fn (.func k) cap] (fun _ => bl (l.any p)) := by
  refine pure_intro (ow := fun _ => false) Tryz.func72 Tryz.ntmps72 rfl (by kernel_rfl) (by simp) rfl (by decide) fun G hG hOw hNm hB => ?_; simp only [go_sem, hG, hOw]
  refine call_pureA (IndexFunc_Byte k cap p l hcap hf) ?_
  simp only [go_sem, hG, hOw]
  rw [idxOf_any]
theorem IndexFunc_Str (k : FuncId) (cap : List V) (p : ByteArray → Bool) (l : List ByteArray) (hcap : all0 cap = true) (hf : ∀ x ∈ l, Gives Tryz.prog k (strE x ++ cap) (fun _ => bl (p x))) :
    Gives Tryz.prog 120 [.lst 0 1 (l.map strE), .fn (.func k) cap] (fun _ => i64 (idxOf p l)) := by
  refine pure_intro (ow := fun _ => false) Tryz.func120 Tryz.ntmps120 rfl (by kernel_rfl) (by simp) rfl (by decide) fun G hG hOw hNm hB => ?_; simp only [go_sem, hG, hOw]
  have hl := bd_lst hB (List.mem_cons_self ..)
  simp only [List.length_map] at hl
  refine semC_loop (fun i : Nat => St.of [(0, .lst 0 1 (l.map strE)), (1, .fn (.func k) cap), (7, i64 l.length), (8, i64 i)] []) (fun i => i ≤ l.length ∧ (l.take i).all (fun x => !p x) = true) (fun i => l.length - i) 0 (by simp) (entA [] (by (simp only [go_sem]) <;> simp [hcap]) (by (simp only [go_sem, entH, entH1, nilArr, obOK]) <;> simp [hcap])) ?_
  rintro i ⟨hi, hall⟩
  refine vc_sound _ _ _ ?_; simp only [go_sem, hG, hOw]
  (repeat' with_reducible first | refine And.intro ?_ ?_ | intro _ | refine exP ?_ ?_); all_goals try omega
  · rename_i hlt
    have hil : i < l.length := by omega
    refine call_pure (hf l[i] (List.getElem_mem hil)) (Subs.refl _) (by simp [allP, pureV, pure0, all0_allP hcap]) (by simp [chk, hG]) ?_
    simp only [go_sem, hG, hOw]
    (repeat' with_reducible first | refine And.intro ?_ ?_ | intro _ | refine exP ?_ ?_); all_goals try omega
    · rename_i hp
      exact (idxOf_at hil hall hp).symm
    · rename_i hp
      exact ⟨i + 1, ⟨by omega, all_take_succ hil hall (by rw [hp]; rfl)⟩, by omega, entA [] (by (simp only [go_sem]) <;> simp [hcap]) (by (simp only [go_sem, entH, entH1, nilArr, obOK]) <;> simp [hcap])⟩
  · rename_i hge
    rw [take_full hi hge] at hall
    exact (idxOf_no hall).symm
theorem ContainsFunc_Str (k : FuncId) (cap : List V) (p : ByteArray → Bool) (l : List ByteArray) (hcap : all0 cap = true) (hf : ∀ x ∈ l, Gives Tryz.prog k (strE x ++ cap) (fun _ => bl (p x))) :
    Gives Tryz.prog 87 [.lst 0 1 (l.map strE), .fn (.func k) cap] (fun _ => bl (l.any p)) := by
  refine pure_intro (ow := fun _ => false) Tryz.func87 Tryz.ntmps87 rfl (by kernel_rfl) (by simp) rfl (by decide) fun G hG hOw hNm hB => ?_; simp only [go_sem, hG, hOw]
  refine call_pureA (IndexFunc_Str k cap p l hcap hf) ?_
  simp only [go_sem, hG, hOw]
  rw [idxOf_any]
end Go.Proofs.YtppcbmpiphhphaaGreatDoor
