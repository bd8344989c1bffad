import Derived.Test.YtagfopbijboajaaGreatDoorQY28
namespace Go.Proofs.YtagfopbijboajaaGreatDoor
open Go Pm
set_option linter.unusedSimpArgs false
set_option linter.unusedVariables false
set_option maxHeartbeats 4000000
set_option maxRecDepth 100000
theorem allPre_at {α : Type} {f : List α → α → Bool} {l : List α} (h : allPre f [] l = true) {k : Nat} (hk : k < l.length) : f (l.take k) l[k] = true := by
  cases e : f (l.take k) l[k] with
  | true => rfl
  | false => rw [allPre_bad hk e] at h; exact absurd h (by simp)
structure Good (r : Ro) : Prop where
  ok : OKr r
  e : roundE r = 0
  ll : (linesL r.text).length ≤ 400
  hn : 1 ≤ r.helpers.length ∧ r.helpers.length ≤ 4
  sn : r.shares.length ≤ 8
  xn : r.sheets.length = r.shares.length
  h : ∀ k (hk : k < r.helpers.length), 0 ≤ r.helpers[k].post ∧ r.helpers[k].post ≤ 30 ∧ 1 ≤ r.helpers[k].rate ∧ r.helpers[k].rate ≤ 20
  s : ∀ k (hk : k < r.shares.length), 0 ≤ r.shares[k].fr ∧ r.shares[k].fr ≤ r.shares[k].to ∧ r.shares[k].to < (linesL r.text).length ∧ 0 ≤ r.shares[k].helper ∧ r.shares[k].helper < r.helpers.length ∧ 0 ≤ r.shares[k].sent ∧ r.shares[k].sent ≤ 400
theorem good_of {r : Ro} (hr : OKr r) (he : roundE r = 0) : Good r := by
  have hb : roundB r = true := by
    unfold roundE at he
    split at he
    · split at he
      · assumption
      · omega
    · omega
  simp only [roundB, Bool.and_eq_true, inB, decide_eq_true_eq] at hb
  obtain ⟨⟨⟨⟨⟨⟨h1, h2⟩, h3⟩, h4⟩, h5⟩, h6⟩, h7⟩ := hb
  refine ⟨hr, he, linesL_le hr.t, ⟨by omega, by omega⟩, by omega, by omega, fun k hk => ?_, fun k hk => ?_⟩
  · have := allPre_at h5 hk
    simp only [helpB, Bool.and_eq_true, inB, decide_eq_true_eq] at this
    omega
  · have := allPre_at h6 hk
    simp only [shareB, Bool.and_eq_true, inB, decide_eq_true_eq] at this
    omega
def tornB (x : Se) (s : Sr) : Bool := x.back && !decide ((x.lines.length : Int) = s.to - s.fr + 1)
def tornI (r : Ro) (i : Nat) : Bool := match r.sheets[i]?, r.shares[i]? with
  | some x, some s => tornB x s
  | _, _ => false
theorem tornI_at (r : Ro) {i : Nat} (h1 : i < r.shares.length) (h2 : i < r.sheets.length) : tornI r i = tornB r.sheets[i] r.shares[i] := by
  simp [tornI, h1, h2]
def numsL (p : Nat → Bool) (k : Nat) : List Int := ((List.range k).filter p).map Int.ofNat
theorem numsL_succ (p : Nat → Bool) (k : Nat) : numsL p (k + 1) = if p k then numsL p k ++ [(k : Int)] else numsL p k := by
  unfold numsL
  rw [List.range_succ, List.filter_append]
  cases h : p k <;> simp [h]
theorem numsL_le (p : Nat → Bool) (k : Nat) : (numsL p k).length ≤ k := by
  unfold numsL
  rw [List.length_map]
  exact Nat.le_trans (List.length_filter_le _ _) (by simp)
def tornL (r : Ro) : List Int := if roundE r = 0 then numsL (tornI r) r.shares.length else []
theorem SameInts_ok (l m : List Int) : Gives Tryz.prog 27 [ints 0 l, ints 0 m] (fun _ => bl (decide (l = m))) := by
  refine pure_intro (ow := fun _ => false) Tryz.func27 Tryz.ntmps27 rfl (by kernel_rfl) (by simp) rfl (by decide) fun G hG hOw hNm hB => ?_; simp only [go_sem, hG, hOw]
  have hl := bd_lst hB (List.mem_cons_self ..)
  simp only [List.length_map] at hl
  refine ⟨fun h => ?_, fun h => ?_⟩
  · rw [decide_eq_false]
    rintro rfl
    simp at h
  have hlen : l.length = m.length := by omega
  refine semC_loop (fun k : Nat => St.of [(0, ints 0 l), (1, ints 0 m), (5, i64 k)] []) (fun k => k ≤ l.length ∧ l.take k = m.take k) (fun k => l.length - k) 0 (by simp) (ent_of0 (by (simp only [go_sem]) <;> simp) hNm) ?_
  rintro k ⟨hk, hall⟩
  refine vc_sound _ _ _ ?_; simp only [go_sem, hG, hOw]
  refine ⟨fun hlt => ?_, fun hge => ?_⟩
  · refine semC_draw0 mixed (by kernel_rfl) ?_
    simp only [go_sem, hG, hOw]
    refine ⟨by omega, by omega, fun h1 => ?_, fun h1 => ⟨(by first | omega | (simp; omega)), k + 1, ⟨by omega, ?_⟩, by omega, ent_of0 (by (simp only [go_sem]) <;> simp) hNm⟩⟩
    · rw [decide_eq_false]
      rintro rfl
      simp at h1
    · have e : l[k] = m[k] := by simpa using h1
      rw [List.take_add_one, List.take_add_one, hall, List.getElem?_eq_getElem (by omega), List.getElem?_eq_getElem (by omega), e]
  · rw [take_full hk hge, take_full (by omega) (by omega)] at hall
    rw [hall]; simp
def hasI (r : Ro) (n : Nat) : Bool := r.shares.any fun s => inB n s.fr s.to
def gapsL (r : Ro) : List Int := if roundE r = 0 then numsL (fun n => !hasI r n) (linesL r.text).length else []
open Go Pm
set_option maxHeartbeats 4000000
set_option maxRecDepth 100000
def daysI (s : Sr) (h : Hp) : Int := (s.to - s.fr + h.rate) / h.rate
theorem daysI_le {s : Sr} {h : Hp} (h1 : 0 ≤ s.fr) (h2 : s.fr ≤ s.to) (h3 : s.to ≤ 400) (h4 : 1 ≤ h.rate) (h5 : h.rate ≤ 20) : 0 ≤ daysI s h ∧ daysI s h ≤ 420 := by
  unfold daysI
  have := Int.ediv_le_self (a := s.to - s.fr + h.rate) h.rate (by omega)
  have := Int.ediv_nonneg (a := s.to - s.fr + h.rate) (b := h.rate) (by omega) (by omega)
  omega
def backW (r : Ro) (h : Int) : Nat → Int
  | 0 => 0
  | i + 1 => match r.shares[i]?, r.helpers[h.toNat]? with
    | some s, some p => if s.helper = h then (if backW r h i < s.sent + p.post then s.sent + p.post else backW r h i) + daysI s p else backW r h i
    | _, _ => backW r h i
theorem backW_succ (r : Ro) (h : Int) {i : Nat} (hi : i < r.shares.length) (hh : h.toNat < r.helpers.length) :
    backW r h (i + 1) = if r.shares[i].helper = h then (if backW r h i < r.shares[i].sent + r.helpers[h.toNat].post then r.shares[i].sent + r.helpers[h.toNat].post else backW r h i) + daysI r.shares[i] r.helpers[h.toNat] else backW r h i := by
  simp [backW, hi, hh]
theorem backW_le {r : Ro} (hr : Good r) (h : Int) (hh : h.toNat < r.helpers.length) : ∀ i, i ≤ r.shares.length → 0 ≤ backW r h i ∧ backW r h i ≤ 1000 * i
  | 0, _ => by simp [backW]
  | i + 1, hi => by
    have ih := backW_le hr h hh i (by omega)
    have hs := hr.s i (by omega)
    have hl := hr.ll
    have hH := hr.h _ hh
    have hd := daysI_le (s := r.shares[i]) (h := r.helpers[h.toNat]) (by omega) (by omega) (by omega) (by omega) (by omega)
    rw [backW_succ r h (by omega) hh]
    split
    · split <;> constructor <;> omega
    · constructor <;> omega
def backR (r : Ro) (n : Int) : Int := if roundE r = 0 then if inB n 0 (r.shares.length - 1) then match r.shares[n.toNat]? with
  | some s => match r.helpers[s.helper.toNat]? with
    | some p => backW r s.helper (n.toNat + 1) + p.post
    | none => 0
  | none => 0 else 0 else 0
def backE (r : Ro) (n : Int) : Int := if roundE r = 0 then if inB n 0 (r.shares.length - 1) then 0 else 2 else roundE r
end Go.Proofs.YtagfopbijboajaaGreatDoor
