import Derived.Test.YtfnohnjnncjidaaGreatDoorQP19
import Derived.Test.YtfnohnjnncjidaaGreatDoorQP35
import Derived.Test.YtfnohnjnncjidaaGreatDoorQP47
namespace Go.Proofs.YtfnohnjnncjidaaGreatDoor
open Go Pm
set_option linter.unusedSimpArgs false
set_option linter.unusedVariables false
set_option maxHeartbeats 4000000
set_option maxRecDepth 100000
def twO (lo : Nat) (r : Ro) : V := .agg [chs lo r.text, .own 0 0 r.helpers.length 3, .own 1 0 r.shares.length 4, .own 2 0 r.sheets.length 2]
def twH (lo : Nat) (r : Ro) : List (Nat × OB) := [(0, .arr 97 3 (r.helpers.map hpE)), (1, .arr 80 4 (r.shares.map srE)), (2, .arr 59 2 (r.sheets.map (seE lo)))]
attribute [go_sem] twO twH
theorem Twin_tri (r : Ro) (hr : OKr r) : Tri Tryz.prog 15 [roE 0 r] [] (fun lo => .ret (twO lo r) (twH lo r)) := by
  refine tri_intro (fun _ => false) Tryz.func15 Tryz.ntmps15 rfl (by kernel_rfl) (by simp) rfl (by decide) fun G hG hOw hNm => ?_; simp only [go_sem, hG, hOw]
  have hh := hr.h
  have hs := hr.s
  obtain ⟨hx1, hx2⟩ := hr.x
  refine semC_draw0 mixed (by kernel_rfl) ?_
  simp only [go_sem, hG, hOw]
  refine ⟨_, callGives (Twin01_ok r.text hr.t) (by first | exact Subs.refl _ | (repeat' (first | exact Subs.nil | exact Sub.refl _ | exact Sub.lo (Nat.zero_le _) | refine Subs.cons ?_ ?_ | refine Subs.agg ?_ | refine Subs.fp ?_ | refine Subs.tup ?_ | refine Sub.map (Nat.zero_le _) (fun _ => ?_)))) (by first | rfl | simp [allP, all0, pureV, pure0, *]), ?_⟩
  simp only [go_sem, hG, hOw]
  (repeat' (first | (with_reducible refine And.intro ?_ ?_) | (with_reducible intro _) | (with_reducible refine exP ?_ ?_))); all_goals (try omega)
  refine semC_loop (fun k : Nat => St.of [(1, .ptr 1 0), (2, .ptr 2 0), (3, .ptr 3 0), (4, i64 k)] [(1, .box (roC 0 r)), (2, .box [.v (.slice none 0 0), .v (.slice none 0 0), .v (.slice none 0 0), .v (.slice none 0 0)]), (3, .box [chs G.lo r.text, .own 91 0 r.helpers.length 3, .own 92 0 r.shares.length 4, .own 93 0 k 2]), (91, .arr 97 3 (r.helpers.map hpE)), (92, .arr 80 4 (r.shares.map srE)), (93, .arr 59 2 ((r.sheets.take k).map (seE G.lo)))]) (fun k => k ≤ r.sheets.length) (fun k => r.sheets.length - k) 0 (by simp) (ent_of [(1, some 1), (2, some 2), (3, some 3), (91, some 11), (92, some 15), (93, none)] (by (simp only [go_sem]) <;> simp) (by (simp only [go_sem, entH, entH1, nilArr, obOK]) <;> simp) (by simp [injR, apart]) (by simp [coverR, usH]) (by simp [hNm, lkR, names])) ?_
  rintro k hk
  have hmin : min k r.sheets.length = k := Nat.min_eq_left hk
  refine vc_sound _ _ _ ?_; simp only [go_sem, hG, hOw]
  (repeat' (first | (with_reducible refine And.intro ?_ ?_) | (with_reducible intro _) | (with_reducible refine exP ?_ ?_))); all_goals (try omega)
  · rename_i hlt
    have hkl : k < r.sheets.length := by omega
    have h0 := take_snoc_map (seE G.lo) r.sheets k hkl
    refine semC_draw0 mixed (by kernel_rfl) ?_
    simp only [go_sem, hG, hOw]
    (repeat' (first | (with_reducible refine And.intro ?_ ?_) | (with_reducible intro _) | (with_reducible refine exP ?_ ?_))); all_goals (try omega)
    refine ⟨_, callGives (TwinLines_ok r.sheets[k].lines (hx2 _ (List.getElem_mem hkl))) (by first | exact Subs.refl _ | (repeat' (first | exact Subs.nil | exact Sub.refl _ | exact Sub.lo (Nat.zero_le _) | refine Subs.cons ?_ ?_ | refine Subs.agg ?_ | refine Subs.fp ?_ | refine Subs.tup ?_ | refine Sub.map (Nat.zero_le _) (fun _ => ?_)))) (by first | rfl | simp [allP, all0, pureV, pure0, *]), ?_⟩
    simp only [go_sem, hG, hOw]
    (repeat' (first | (with_reducible refine And.intro ?_ ?_) | (with_reducible intro _) | (with_reducible refine exP ?_ ?_))); all_goals (try omega)
    exact ⟨k + 1, by omega, by omega, ent_of [(1, some 1), (2, some 2), (3, some 3), (91, some 91), (92, some 92), (93, some 41)] (by (simp only [go_sem]) <;> simp [h0,hmin,seE,lns,bl]) (by (simp only [go_sem, entH, entH1, nilArr, obOK]) <;> simp [h0,hmin,seE,lns,bl]) (by simp [injR, apart]) (by simp [coverR, usH]) (by simp [hNm, lkR, names])⟩
  · rename_i hge
    obtain rfl : k = r.sheets.length := by omega
    simp only [List.take_length]
    exact ⟨[(0, some 91), (1, some 92), (2, some 93)], by (simp only [EndT, go_sem, entH, entH1, nilArr, obOK, apart, injR, coverR]) <;> simp⟩
end Go.Proofs.YtfnohnjnncjidaaGreatDoor
namespace Go.Proofs.YtfnohnjnncjidaaGreatDoor
open Go Pm
set_option linter.unusedSimpArgs false
set_option linter.unusedVariables false
theorem daysI_eq {s : Sr} {h : Hp} (h1 : 1 ≤ h.rate) : daysI s h = (s.to - s.fr) / h.rate + 1 := by
  unfold daysI
  rw [Int.add_ediv_of_dvd_right (Int.dvd_refl _), Int.ediv_self (by omega)]
theorem daysI_anti {s s' : Sr} {h h' : Hp} (hs : s'.to = s.to ∧ s'.fr = s.fr) (h0 : s.fr ≤ s.to) (h1 : 1 ≤ h'.rate) (h2 : h'.rate ≤ h.rate) : daysI s h ≤ daysI s' h' := by
  rw [daysI_eq (by omega), daysI_eq h1, hs.1, hs.2]
  obtain ⟨L, hL⟩ : ∃ L, L = s.to - s.fr := ⟨_, rfl⟩
  rw [← hL]
  have hn : 0 ≤ L / h.rate := Int.ediv_nonneg (by omega) (by omega)
  have h3 : L / h.rate ≤ L / h'.rate := (Int.le_ediv_iff_mul_le (by omega)).2 (by
    have h4 : L / h.rate * h'.rate ≤ L / h.rate * h.rate := Int.mul_le_mul_of_nonneg_left h2 hn
    have h5 : L / h.rate * h.rate ≤ L := Int.ediv_mul_le _ (by omega)
    omega)
  omega
theorem daysI_bd {s : Sr} {h : Hp} (h0 : s.fr ≤ s.to) (h1 : 1 ≤ h.rate) : 1 ≤ daysI s h ∧ s.to - s.fr + 1 ≤ daysI s h * h.rate ∧ (daysI s h - 1) * h.rate < s.to - s.fr + 1 := by
  rw [daysI_eq h1]
  obtain ⟨L, hL⟩ : ∃ L, L = s.to - s.fr := ⟨_, rfl⟩
  rw [← hL]
  have hn : 0 ≤ L / h.rate := Int.ediv_nonneg (by omega) (by omega)
  have h5 : L / h.rate * h.rate ≤ L := Int.ediv_mul_le _ (by omega)
  have h6 : L < (L / h.rate + 1) * h.rate := Int.lt_ediv_add_one_mul_self _ (by omega)
  refine ⟨by omega, by omega, ?_⟩
  rw [show L / h.rate + 1 - 1 = L / h.rate by omega]
  omega
theorem backR_at {r : Ro} (hg : Good r) {i : Nat} (hi : i < r.shares.length) (hh : r.shares[i].helper.toNat < r.helpers.length) : backE r i = 0 ∧ backR r i = backW r r.shares[i].helper (i + 1) + r.helpers[r.shares[i].helper.toNat].post := by
  have hin : inB (i : Int) 0 (r.shares.length - 1) = true := by simp [inB]; omega
  constructor
  · simp [backE, hg.e, hin]
  · unfold backR
    rw [if_pos hg.e, if_pos hin, Int.toNat_natCast, List.getElem?_eq_getElem hi]
    simp only
    rw [List.getElem?_eq_getElem hh]
structure Later (r x : Ro) (h : Int) : Prop where
  sn : x.shares.length = r.shares.length
  hn : x.helpers.length = r.helpers.length
  s : ∀ j (h1 : j < r.shares.length) (h2 : j < x.shares.length), x.shares[j].helper = r.shares[j].helper ∧ (r.shares[j].helper = h → r.shares[j].sent ≤ x.shares[j].sent) ∧ x.shares[j].fr = r.shares[j].fr ∧ x.shares[j].to = r.shares[j].to
  h : ∀ (h1 : h.toNat < r.helpers.length) (h2 : h.toNat < x.helpers.length), r.helpers[h.toNat].post ≤ x.helpers[h.toNat].post ∧ x.helpers[h.toNat].rate ≤ r.helpers[h.toNat].rate
theorem backW_later {r x : Ro} (hg : Good r) (hx : Good x) {h : Int} (hl : Later r x h) (hh : h.toNat < r.helpers.length) : ∀ j, j ≤ r.shares.length → backW r h j ≤ backW x h j
  | 0, _ => Int.le_refl _
  | j + 1, hj => by
    have ih := backW_later hg hx hl hh j (by omega)
    have hjx : j < x.shares.length := by rw [hl.sn]; omega
    have hhx : h.toNat < x.helpers.length := by rw [hl.hn]; exact hh
    obtain ⟨a1, a2, a3, a4⟩ := hl.s j (by omega) hjx
    obtain ⟨b1, b2⟩ := hl.h hh hhx
    have hsr := hg.s j (by omega)
    have hHx := hx.h _ hhx
    have hd := daysI_anti (s := r.shares[j]) (s' := x.shares[j]) (h := r.helpers[h.toNat]) (h' := x.helpers[h.toNat]) ⟨a4, a3⟩ (by omega) (by omega) b2
    rw [backW_succ r h (by omega) hh, backW_succ x h hjx hhx, a1]
    by_cases e : r.shares[j].helper = h
    · rw [if_pos e, if_pos e]
      have := a2 e
      split <;> split <;> omega
    · rw [if_neg e, if_neg e]; exact ih
theorem later_back {r x : Ro} (hg : Good r) (hx : Good x) {i : Nat} (hi : i < r.shares.length) (hl : Later r x r.shares[i].helper) : backE x i = 0 ∧ backR r i ≤ backR x i := by
  have hix : i < x.shares.length := by rw [hl.sn]; exact hi
  have hs := hg.s i hi
  have hh : r.shares[i].helper.toNat < r.helpers.length := by omega
  obtain ⟨a1, _⟩ := hl.s i hi hix
  have hhx : x.shares[i].helper.toNat < x.helpers.length := by rw [a1, hl.hn]; exact hh
  obtain ⟨e1, e2⟩ := backR_at hg hi hh
  obtain ⟨e3, e4⟩ := backR_at hx hix hhx
  refine ⟨e3, ?_⟩
  rw [e2, e4]
  have h1 := backW_later hg hx hl hh (i + 1) (by omega)
  obtain ⟨b1, _⟩ := hl.h hh (by rw [hl.hn]; exact hh)
  simp only [a1]
  omega
def lateR (r : Ro) (k : Nat) (m : Int) : Ro := { r with shares := r.shares.modify k fun s => { s with sent := s.sent + m % 20 } }
def farR (r : Ro) (h : Nat) (m : Int) : Ro := { r with helpers := r.helpers.modify h fun p => { p with post := p.post + m % 4 } }
def slowR (r : Ro) (h : Nat) (m : Int) : Ro := { r with helpers := r.helpers.modify h fun p => { p with rate := p.rate - m % 5 } }
def apartR (r : Ro) (k : Nat) (m : Int) : Ro := { r with shares := r.shares.modify k fun s => { s with sent := m } }
def postX (r : Ro) (k h : Nat) (m : Int) : List Ro := [lateR r k m, farR r h m, slowR r h m, apartR r k m]
theorem late_later (r : Ro) (k : Nat) (m : Int) (hm : 0 ≤ m) (h : Int) : Later r (lateR r k m) h := by
  refine ⟨by simp [lateR], rfl, fun j h1 h2 => ?_, fun h1 h2 => ⟨Int.le_refl _, Int.le_refl _⟩⟩
  simp only [lateR, List.getElem_modify]
  split
  · exact ⟨rfl, fun _ => by simp only; omega, rfl, rfl⟩
  · exact ⟨rfl, fun _ => Int.le_refl _, rfl, rfl⟩
theorem far_later (r : Ro) (k : Nat) (m : Int) (hm : 0 ≤ m) (h : Int) : Later r (farR r k m) h := by
  refine ⟨rfl, by simp [farR], fun j h1 h2 => ⟨rfl, fun _ => Int.le_refl _, rfl, rfl⟩, fun h1 h2 => ?_⟩
  simp only [farR, List.getElem_modify]
  split
  · exact ⟨by simp only; omega, Int.le_refl _⟩
  · exact ⟨Int.le_refl _, Int.le_refl _⟩
theorem slow_later (r : Ro) (k : Nat) (m : Int) (hm : 0 ≤ m) (h : Int) : Later r (slowR r k m) h := by
  refine ⟨rfl, by simp [slowR], fun j h1 h2 => ⟨rfl, fun _ => Int.le_refl _, rfl, rfl⟩, fun h1 h2 => ?_⟩
  simp only [slowR, List.getElem_modify]
  split
  · exact ⟨Int.le_refl _, by simp only; omega⟩
  · exact ⟨Int.le_refl _, Int.le_refl _⟩
theorem apart_later (r : Ro) (k : Nat) (m : Int) (h : Int) (hk : k < r.shares.length) (hne : r.shares[k].helper ≠ h) : Later r (apartR r k m) h := by
  refine ⟨by simp [apartR], rfl, fun j h1 h2 => ?_, fun h1 h2 => ⟨Int.le_refl _, Int.le_refl _⟩⟩
  simp only [apartR, List.getElem_modify]
  split
  · rename_i e; subst e; exact ⟨rfl, fun e => absurd e hne, rfl, rfl⟩
  · exact ⟨rfl, fun _ => Int.le_refl _, rfl, rfl⟩
theorem apart_earlier (r : Ro) (k : Nat) (m : Int) (h : Int) (hk : k < r.shares.length) (hne : r.shares[k].helper ≠ h) : Later (apartR r k m) r h := by
  refine ⟨by simp [apartR], rfl, fun j h1 h2 => ?_, fun h1 h2 => ⟨Int.le_refl _, Int.le_refl _⟩⟩
  simp only [apartR, List.getElem_modify]
  split
  · rename_i e; subst e; exact ⟨rfl, fun e => absurd e hne, rfl, rfl⟩
  · exact ⟨rfl, fun _ => Int.le_refl _, rfl, rfl⟩
theorem post_each (r : Ro) (hg : Good r) (i k : Nat) (hi : i < r.shares.length) (hk : k < r.shares.length) (m : Int) (hm : 0 ≤ m) (j : Nat) (hj : j < (postX r k r.shares[i].helper.toNat m).length) (hx : Good (postX r k r.shares[i].helper.toNat m)[j]) :
    backE (postX r k r.shares[i].helper.toNat m)[j] i = 0 ∧ (j < 3 → backR r i ≤ backR (postX r k r.shares[i].helper.toNat m)[j] i) ∧ (j = 3 → r.shares[k].helper ≠ r.shares[i].helper → backR (postX r k r.shares[i].helper.toNat m)[j] i = backR r i) := by
  have hj4 : j < 4 := hj
  match j, hj4 with
  | 0, _ => exact ⟨(later_back hg hx hi (late_later r k m hm _)).1, fun _ => (later_back hg hx hi (late_later r k m hm _)).2, fun h => by omega⟩
  | 1, _ => exact ⟨(later_back hg hx hi (far_later r _ m hm _)).1, fun _ => (later_back hg hx hi (far_later r _ m hm _)).2, fun h => by omega⟩
  | 2, _ => exact ⟨(later_back hg hx hi (slow_later r _ m hm _)).1, fun _ => (later_back hg hx hi (slow_later r _ m hm _)).2, fun h => by omega⟩
  | 3, _ =>
    have hx' : Good (apartR r k m) := hx
    have hix : i < (apartR r k m).shares.length := by simp [apartR]; exact hi
    have ehp : (apartR r k m).shares[i].helper = r.shares[i].helper := by
      simp only [apartR, List.getElem_modify]; split <;> rfl
    refine ⟨?_, fun h => by omega, fun _ hne => ?_⟩
    · have hs := hx'.s i hix
      exact (backR_at hx' hix (by omega)).1
    · have h1 := (later_back hg hx' hi (apart_later r k m _ hk hne)).2
      have h2 := (later_back hx' hg hix (by rw [ehp]; exact apart_earlier r k m _ hk hne)).2
      show backR (apartR r k m) i = backR r i
      omega
def aloneB (r : Ro) (h : Int) (j : Nat) : Bool := (r.shares.take j).all fun s => !decide (s.helper = h)
theorem backW_alone (r : Ro) (h : Int) : ∀ j, j ≤ r.shares.length → aloneB r h j = true → backW r h j = 0
  | 0, _, _ => rfl
  | j + 1, hj, ha => by
    unfold aloneB at ha
    rw [List.take_add_one, List.getElem?_eq_getElem (by omega), List.all_append, Bool.and_eq_true] at ha
    have ih := backW_alone r h j (by omega) ha.1
    simp only [backW, List.getElem?_eq_getElem (show j < r.shares.length by omega)]
    have hne : ¬ r.shares[j].helper = h := by simpa using ha.2
    split
    · rename_i s p h1 h2
      cases h1
      rw [if_neg hne]; exact ih
    · exact ih
theorem post_last (r : Ro) (hg : Good r) (i : Nat) (hi : i < r.shares.length) (hh : r.shares[i].helper.toNat < r.helpers.length) :
    let d := backR r i - (r.shares[i].sent + 2 * r.helpers[r.shares[i].helper.toNat].post)
    1 ≤ d ∧ r.shares[i].to - r.shares[i].fr + 1 ≤ d * r.helpers[r.shares[i].helper.toNat].rate ∧ (aloneB r r.shares[i].helper i = true → (d - 1) * r.helpers[r.shares[i].helper.toNat].rate < r.shares[i].to - r.shares[i].fr + 1) ∧ d ≤ 20000 := by
  intro d
  obtain ⟨e1, e2⟩ := backR_at hg hi hh
  have hs := hg.s i hi
  have hH := hg.h _ hh
  have hl := hg.ll
  have hsn := hg.sn
  obtain ⟨d1, d2, d3⟩ := daysI_bd (s := r.shares[i]) (h := r.helpers[r.shares[i].helper.toNat]) (by omega) (by omega)
  have hW := backW_le hg r.shares[i].helper hh (i + 1) (by omega)
  have e3 := backW_succ r r.shares[i].helper hi hh
  rw [if_pos rfl] at e3
  have hd : daysI r.shares[i] r.helpers[r.shares[i].helper.toNat] ≤ d := by
    show _ ≤ backR r i - (r.shares[i].sent + 2 * r.helpers[r.shares[i].helper.toNat].post)
    rw [e2, e3]
    split <;> omega
  refine ⟨by omega, ?_, fun ha => ?_, ?_⟩
  · have : daysI r.shares[i] r.helpers[r.shares[i].helper.toNat] * r.helpers[r.shares[i].helper.toNat].rate ≤ d * r.helpers[r.shares[i].helper.toNat].rate := Int.mul_le_mul_of_nonneg_right hd (by omega)
    omega
  · have h0 := backW_alone r r.shares[i].helper i (by omega) ha
    have : d = daysI r.shares[i] r.helpers[r.shares[i].helper.toNat] := by
      show backR r i - (r.shares[i].sent + 2 * r.helpers[r.shares[i].helper.toNat].post) = _
      rw [e2, e3, h0]
      split <;> omega
    rw [this]; exact d3
  · show backR r i - (r.shares[i].sent + 2 * r.helpers[r.shares[i].helper.toNat].post) ≤ 20000
    rw [e2]
    omega
end Go.Proofs.YtfnohnjnncjidaaGreatDoor
namespace Go.Proofs.YtfnohnjnncjidaaGreatDoor
open Go Pm
set_option linter.unusedSimpArgs false
set_option linter.unusedVariables false
set_option maxHeartbeats 4000000
set_option maxRecDepth 100000
theorem postC (r : Ro) (i k h : Nat) (hg : Good r) (hil : i < r.shares.length) (hkl : k < r.shares.length) (hh : r.shares[i].helper = h) (hhl : h < r.helpers.length) (X : List Ro) (n : Int) (hn : n = backR r i) (hX4 : X.length = 4)
    (hX : ∀ j (hj : j < X.length), readyB X[j] = true → backE X[j] i = 0 ∧ (j < 3 → n ≤ backR X[j] i) ∧ (j = 3 → r.shares[k].helper ≠ h → backR X[j] i = n))
    {G : Gh} (hG : G.n = 246) (hOw : G.ow = fun _ => false) (hNm : G.nm = []) {lo : Nat} :
    SemL Tryz.prog G ((flat (Tryz.f9.body.getD .skip)).drop 15) (St.of [(4, .ptr 4 0), (9, bl true), (10, i64 i), (11, i64 k), (12, i64 n), (14, i64 h), (125, .lst G.lo 4 (X.map (roC G.lo))), (126, i64 4), (127, i64 0)] [(4, .box (roC 0 r))]) (EndsAt Tryz.prog lo [.tmp 8] (bl true)) := by
  have hpl := post_last r hg i hil (by omega)
  have hsn := hg.sn
  have hsi := hg.s i hil
  have hll := hg.ll
  have hH := hg.h h hhl
  simp only [hh, Int.toNat_natCast, ← hn] at hpl
  obtain ⟨d, hd⟩ : ∃ d, d = n - (r.shares[i].sent + 2 * r.helpers[h].post) := ⟨_, rfl⟩
  rw [← hd] at hpl
  obtain ⟨pl1, pl2, pl3, pl4⟩ := hpl
  have mb : 0 ≤ d * r.helpers[h].rate ∧ d * r.helpers[h].rate ≤ 400000 := by
    refine ⟨Int.mul_nonneg (by omega) (by omega), ?_⟩
    have h1 := Int.mul_le_mul_of_nonneg_right pl4 (show 0 ≤ r.helpers[h].rate by omega)
    have h2 := Int.mul_le_mul_of_nonneg_left (show r.helpers[h].rate ≤ 20 by omega) (show (0 : Int) ≤ 20000 by decide)
    omega
  have mc : 0 ≤ (d - 1) * r.helpers[h].rate ∧ (d - 1) * r.helpers[h].rate ≤ 400000 := by
    have e : (d - 1) * r.helpers[h].rate = d * r.helpers[h].rate - r.helpers[h].rate := by rw [Int.sub_mul, Int.one_mul]
    have := Int.mul_nonneg (show 0 ≤ d - 1 by omega) (show 0 ≤ r.helpers[h].rate by omega)
    omega
  refine vcN_sound 20 _ _ ?_
  simp only [Tryz.f9, Option.getD_some, flat_seq, flat_region, flat_cond, flat_block, flat_ret, List.singleton_append, List.cons_append, List.nil_append, List.drop_succ_cons, List.drop_zero]
  simp only [go_sem, hG, hOw]
  refine semC_cutN (fun _ : Unit => St.of [(4, .ptr 4 0), (9, bl true), (10, i64 i), (12, i64 n), (14, i64 h)] [(4, .box (roC 0 r))]) (fun _ => True) ?_ ?_
  · refine semC_loop (fun j : Nat => St.of [(4, .ptr 4 0), (9, bl true), (10, i64 i), (11, i64 k), (12, i64 n), (14, i64 h), (125, .lst G.lo 4 (X.map (roC G.lo))), (126, i64 4), (127, i64 j)] [(4, .box (roC 0 r))]) (fun j => j ≤ 4) (fun j => 4 - j) 0 (by omega) (ent_of [(4, some 4)] (by (simp only [go_sem]) <;> simp) (by (simp only [go_sem, entH, entH1, nilArr, obOK]) <;> simp) (by simp [injR, apart]) (by simp [coverR, usH]) (by simp [hNm, lkR, names])) ?_
    rintro j hj
    refine vc_sound _ _ _ ?_; simp only [go_sem, hG, hOw]
    (repeat' (first | (with_reducible refine And.intro ?_ ?_) | (with_reducible intro _) | (with_reducible refine exP ?_ ?_))); all_goals (try omega)
    · rename_i hlt
      have hjX : j < X.length := by omega
      refine call_pure (ready_ok X[j]) (by first | exact Subs.refl _ | (repeat' (first | exact Subs.nil | exact Sub.refl _ | exact Sub.lo (Nat.zero_le _) | refine Subs.cons ?_ ?_ | refine Subs.agg ?_ | refine Subs.fp ?_ | refine Subs.tup ?_ | refine Sub.map (Nat.zero_le _) (fun _ => ?_)))) (by first | rfl | simp [allP, all0, pureV, pure0, *]) (by simp [chk, hG]) ?_
      cases hrj : readyB X[j] with
      | false =>
        simp only [go_sem, hG, hOw]
        (repeat' (first | (with_reducible refine And.intro ?_ ?_) | (with_reducible intro _) | (with_reducible refine exP ?_ ?_))); all_goals (try omega)
        exact ⟨j + 1, by omega, by omega, ent_of [(4, some 4)] (by (simp only [go_sem]) <;> simp) (by (simp only [go_sem, entH, entH1, nilArr, obOK]) <;> simp) (by simp [injR, apart]) (by simp [coverR, usH]) (by simp [hNm, lkR, names])⟩
      | true =>
        obtain ⟨x1, x2, x3⟩ := hX j hjX hrj
        have hB := HBack_ok X[j] (ready_good hrj).1 i
        rw [x1] at hB
        simp only [go_sem, hG, hOw]
        (repeat' (first | (with_reducible refine And.intro ?_ ?_) | (with_reducible intro _) | (with_reducible refine exP ?_ ?_))); all_goals (try omega)
        refine call_pure hB (by first | exact Subs.refl _ | (repeat' (first | exact Subs.nil | exact Sub.refl _ | exact Sub.lo (Nat.zero_le _) | refine Subs.cons ?_ ?_ | refine Subs.agg ?_ | refine Subs.fp ?_ | refine Subs.tup ?_ | refine Sub.map (Nat.zero_le _) (fun _ => ?_)))) (by first | rfl | simp [allP, all0, pureV, pure0, *]) (by simp [chk, hG]) ?_
        simp only [go_sem, hG, hOw]
        (repeat' (first | (with_reducible refine And.intro ?_ ?_) | (with_reducible intro _) | (with_reducible refine exP ?_ ?_))); all_goals (try omega)
        all_goals exact ⟨j + 1, by omega, by omega, ent_of [(4, some 4)] (by (simp only [go_sem]) <;> simp) (by (simp only [go_sem, entH, entH1, nilArr, obOK]) <;> simp) (by simp [injR, apart]) (by simp [coverR, usH]) (by simp [hNm, lkR, names])⟩
    · rename_i hge
      exact ⟨(), ent_of [(4, some 4)] (by (simp only [go_sem]) <;> simp) (by (simp only [go_sem, entH, entH1, nilArr, obOK]) <;> simp) (by simp [injR, apart]) (by simp [coverR, usH]) (by simp [hNm, lkR, names])⟩
  rintro ⟨⟩ -
  simp only [go_sem, hG, hOw]
  refine semC_cutN (fun _ : Unit => St.of [(4, .ptr 4 0), (9, bl true), (10, i64 i), (12, i64 n), (14, i64 h), (23, bl (aloneB r h i))] [(4, .box (roC 0 r))]) (fun _ => True) ?_ ?_
  · refine semC_loop (fun j : Nat => St.of [(4, .ptr 4 0), (9, bl true), (10, i64 i), (12, i64 n), (14, i64 h), (23, bl (aloneB r h j)), (172, i64 i), (173, i64 j)] [(4, .box (roC 0 r))]) (fun j => j ≤ i) (fun j => i - j) 0 (by omega) (ent_of [(4, some 4)] (by (simp only [go_sem]) <;> simp [aloneB]) (by (simp only [go_sem, entH, entH1, nilArr, obOK]) <;> simp [aloneB]) (by simp [injR, apart]) (by simp [coverR, usH]) (by simp [hNm, lkR, names])) ?_
    rintro j hj
    have ea : ∀ hj : j < r.shares.length, aloneB r h (j + 1) = (aloneB r h j && !decide (r.shares[j].helper = h)) := fun hj => by
      unfold aloneB
      rw [List.take_add_one, List.getElem?_eq_getElem hj, List.all_append]
      simp
    refine vc_sound _ _ _ ?_; simp only [go_sem, hG, hOw]
    (repeat' (first | (with_reducible refine And.intro ?_ ?_) | (with_reducible intro _) | (with_reducible refine exP ?_ ?_))); all_goals (try omega)
    · rename_i hlt ha
      refine ⟨j + 1, by omega, by omega, ?_⟩
      rw [ea (by omega), ha, Bool.true_and]
      exact ent_of [(4, some 4)] (by (simp only [go_sem]) <;> simp) (by (simp only [go_sem, entH, entH1, nilArr, obOK]) <;> simp) (by simp [injR, apart]) (by simp [coverR, usH]) (by simp [hNm, lkR, names])
    · rename_i hlt ha
      refine ⟨j + 1, by omega, by omega, ?_⟩
      rw [ea (by omega), ha, Bool.false_and]
      exact ent_of [(4, some 4)] (by (simp only [go_sem]) <;> simp) (by (simp only [go_sem, entH, entH1, nilArr, obOK]) <;> simp) (by simp [injR, apart]) (by simp [coverR, usH]) (by simp [hNm, lkR, names])
    · rename_i hge
      rw [show j = i by omega]
      exact ⟨(), ent_of [(4, some 4)] (by (simp only [go_sem]) <;> simp) (by (simp only [go_sem, entH, entH1, nilArr, obOK]) <;> simp) (by simp [injR, apart]) (by simp [coverR, usH]) (by simp [hNm, lkR, names])⟩
  rintro ⟨⟩ -
  simp only [go_sem, hG, hOw]
  refine semC_draw0 mixed (by kernel_rfl) ?_
  simp only [go_sem, hG, hOw]
  (repeat' (first | (with_reducible refine And.intro ?_ ?_) | (with_reducible intro _) | (with_reducible refine exP ?_ ?_))); all_goals (try omega)
  refine semC_draw0 mixed (by kernel_rfl) ?_
  simp (config := { maxSteps := 2000000 }) only [go_sem, hG, hOw, ← hd]
  (repeat' (first | (with_reducible refine And.intro ?_ ?_) | (with_reducible intro _) | (with_reducible refine exP ?_ ?_))); all_goals (try omega)
  exact pl3 (by assumption)
end Go.Proofs.YtfnohnjnncjidaaGreatDoor
namespace Go.Proofs.YtfnohnjnncjidaaGreatDoor
open Go Pm
set_option linter.unusedSimpArgs false
set_option linter.unusedVariables false
set_option maxHeartbeats 4000000
set_option maxRecDepth 100000
def twB (lo a b c : Nat) (r : Ro) : List V := [chs lo r.text, .own a 0 r.helpers.length 3, .own b 0 r.shares.length 4, .own c 0 r.sheets.length 2]
attribute [go_sem] twB
theorem modify_row {α : Type} (g : α → List V) (l : List α) (k : Nat) (hk : k < l.length) (f : α → α) (row : List V) (h : g (f l[k]) = row) : (l.map g).set k row = (l.modify k f).map g := by
  refine List.ext_getElem (by simp) fun j h1 h2 => ?_
  simp only [List.getElem_set, List.getElem_map, List.getElem_modify]
  split
  · rename_i e; subst e; exact h.symm
  · rfl
def pbF (k i h m : Nat) (n : Int) : List (Nat × V) := [(3, .v (.int .u8 m)), (4, .ptr 4 0), (9, bl true), (10, i64 i), (11, i64 k), (12, i64 n), (14, i64 h), (15, .ptr 15 0), (16, .ptr 16 0), (17, .ptr 17 0), (18, .ptr 18 0)]
def pbH (lo : Nat) (r : Ro) (s1 h2 h3 s4 : List (List V)) : List (Nat × OB) := [(4, .box (roC 0 r)), (15, .box (twB lo 1071 1072 1073 r)), (16, .box (twB lo 2071 2072 2073 r)), (17, .box (twB lo 3071 3072 3073 r)), (18, .box (twB lo 4071 4072 4073 r)),
       (1071, .arr 97 3 (r.helpers.map hpE)), (1072, .arr 80 4 s1), (1073, .arr 59 2 (r.sheets.map (seE lo))),
       (2071, .arr 97 3 h2), (2072, .arr 80 4 (r.shares.map srE)), (2073, .arr 59 2 (r.sheets.map (seE lo))),
       (3071, .arr 97 3 h3), (3072, .arr 80 4 (r.shares.map srE)), (3073, .arr 59 2 (r.sheets.map (seE lo))),
       (4071, .arr 97 3 (r.helpers.map hpE)), (4072, .arr 80 4 s4), (4073, .arr 59 2 (r.sheets.map (seE lo)))]
attribute [go_sem] pbF pbH
theorem postB (r : Ro) (i k h m : Nat) (hm : m < 256) (hg : Good r) (hil : i < r.shares.length) (hkl : k < r.shares.length) (hh : r.shares[i].helper = h) (hhl : h < r.helpers.length) (n : Int) (hn : n = backR r i)
    {G : Gh} (hG : G.n = 246) (hOw : G.ow = fun _ => false) (hNm : G.nm = []) {lo : Nat} :
    SemL Tryz.prog G ((flat (Tryz.f9.body.getD .skip)).drop 10) (St.of (pbF k i h m n) (pbH G.lo r (r.shares.map srE) (r.helpers.map hpE) (r.helpers.map hpE) (r.shares.map srE))) (EndsAt Tryz.prog lo [.tmp 8] (bl true)) := by
  have hsk := hg.s k hkl
  have hH := hg.h h hhl
  have q1 : (r.shares.map srE).set k [.v (.int .i64 r.shares[k].fr), .v (.int .i64 r.shares[k].to), .v (.int .i64 r.shares[k].helper), .v (.int .i64 (r.shares[k].sent + (m : Int) % 20))] = (lateR r k m).shares.map srE := modify_row srE _ _ hkl (fun s => { s with sent := s.sent + (m : Int) % 20 }) _ rfl
  have q2 : (r.helpers.map hpE).set h [.v (.int .i64 r.helpers[h].id), .v (.int .i64 (r.helpers[h].post + (m : Int) % 4)), .v (.int .i64 r.helpers[h].rate)] = (farR r h m).helpers.map hpE := modify_row hpE _ _ hhl (fun p => { p with post := p.post + (m : Int) % 4 }) _ rfl
  have q3 : (r.helpers.map hpE).set h [.v (.int .i64 r.helpers[h].id), .v (.int .i64 r.helpers[h].post), .v (.int .i64 (r.helpers[h].rate - (m : Int) % 5))] = (slowR r h m).helpers.map hpE := modify_row hpE _ _ hhl (fun p => { p with rate := p.rate - (m : Int) % 5 }) _ rfl
  have q4 : (r.shares.map srE).set k [.v (.int .i64 r.shares[k].fr), .v (.int .i64 r.shares[k].to), .v (.int .i64 r.shares[k].helper), .v (.int .i64 (m : Int))] = (apartR r k m).shares.map srE := modify_row srE _ _ hkl (fun s => { s with sent := (m : Int) }) _ rfl
  have t1 : (List.map srE (lateR r k m).shares).take r.shares.length = List.map srE (lateR r k m).shares := List.take_of_length_le (by simp [lateR])
  have t2 : (List.map hpE (farR r h m).helpers).take r.helpers.length = List.map hpE (farR r h m).helpers := List.take_of_length_le (by simp [farR])
  have t3 : (List.map hpE (slowR r h m).helpers).take r.helpers.length = List.map hpE (slowR r h m).helpers := List.take_of_length_le (by simp [slowR])
  have t4 : (List.map srE (apartR r k m).shares).take r.shares.length = List.map srE (apartR r k m).shares := List.take_of_length_le (by simp [apartR])
  have e1 : (lateR r k m).helpers = r.helpers := rfl
  have e2 : (farR r h m).shares = r.shares := rfl
  have e3 : (slowR r h m).shares = r.shares := rfl
  have e4 : (apartR r k m).helpers = r.helpers := rfl
  have e5 : (lateR r k m).text = r.text ∧ (lateR r k m).sheets = r.sheets := ⟨rfl, rfl⟩
  have e6 : (farR r h m).text = r.text ∧ (farR r h m).sheets = r.sheets := ⟨rfl, rfl⟩
  have e7 : (slowR r h m).text = r.text ∧ (slowR r h m).sheets = r.sheets := ⟨rfl, rfl⟩
  have e8 : (apartR r k m).text = r.text ∧ (apartR r k m).sheets = r.sheets := ⟨rfl, rfl⟩
  simp only [Tryz.f9, Option.getD_some, flat_seq, flat_region, flat_cond, flat_block, flat_ret, List.singleton_append, List.cons_append, List.nil_append, List.drop_succ_cons, List.drop_zero]
  refine vcN_sound 1 _ _ ?_
  simp (config := { maxSteps := 2000000 }) only [go_sem, hG, hOw, hm]
  (repeat' (first | (with_reducible refine And.intro ?_ ?_) | (with_reducible intro _) | (with_reducible refine exP ?_ ?_))); all_goals (try omega)
  refine semL_ent (s' := St.of (pbF k i h m n) (pbH G.lo r ((lateR r k m).shares.map srE) (r.helpers.map hpE) (r.helpers.map hpE) (r.shares.map srE))) (ent_of [(4, some 4), (15, some 15), (16, some 16), (17, some 17), (18, some 18), (1071, some 1071), (1072, some 1072), (1073, some 1073), (2071, some 2071), (2072, some 2072), (2073, some 2073), (3071, some 3071), (3072, some 3072), (3073, some 3073), (4071, some 4071), (4072, some 4072), (4073, some 4073)] (by (simp only [go_sem]) <;> simp [q1,pbH]) (by (simp only [go_sem, entH, entH1, nilArr, obOK]) <;> simp [q1,pbH]) (by simp [injR, apart]) (by simp [coverR, usH, q1,pbH]) (by simp [hNm, lkR, names])) ?_
  refine vcN_sound 1 _ _ ?_
  simp (config := { maxSteps := 2000000 }) only [go_sem, hG, hOw, hm]
  (repeat' (first | (with_reducible refine And.intro ?_ ?_) | (with_reducible intro _) | (with_reducible refine exP ?_ ?_))); all_goals (try omega)
  refine semL_ent (s' := St.of (pbF k i h m n) (pbH G.lo r ((lateR r k m).shares.map srE) ((farR r h m).helpers.map hpE) (r.helpers.map hpE) (r.shares.map srE))) (ent_of [(4, some 4), (15, some 15), (16, some 16), (17, some 17), (18, some 18), (1071, some 1071), (1072, some 1072), (1073, some 1073), (2071, some 2071), (2072, some 2072), (2073, some 2073), (3071, some 3071), (3072, some 3072), (3073, some 3073), (4071, some 4071), (4072, some 4072), (4073, some 4073)] (by (simp only [go_sem]) <;> simp [q2,pbH]) (by (simp only [go_sem, entH, entH1, nilArr, obOK]) <;> simp [q2,pbH]) (by simp [injR, apart]) (by simp [coverR, usH, q2,pbH]) (by simp [hNm, lkR, names])) ?_
  refine vcN_sound 1 _ _ ?_
  simp (config := { maxSteps := 2000000 }) only [go_sem, hG, hOw, hm]
  (repeat' (first | (with_reducible refine And.intro ?_ ?_) | (with_reducible intro _) | (with_reducible refine exP ?_ ?_))); all_goals (try omega)
  refine semL_ent (s' := St.of (pbF k i h m n) (pbH G.lo r ((lateR r k m).shares.map srE) ((farR r h m).helpers.map hpE) ((slowR r h m).helpers.map hpE) (r.shares.map srE))) (ent_of [(4, some 4), (15, some 15), (16, some 16), (17, some 17), (18, some 18), (1071, some 1071), (1072, some 1072), (1073, some 1073), (2071, some 2071), (2072, some 2072), (2073, some 2073), (3071, some 3071), (3072, some 3072), (3073, some 3073), (4071, some 4071), (4072, some 4072), (4073, some 4073)] (by (simp only [go_sem]) <;> simp [q3,pbH]) (by (simp only [go_sem, entH, entH1, nilArr, obOK]) <;> simp [q3,pbH]) (by simp [injR, apart]) (by simp [coverR, usH, q3,pbH]) (by simp [hNm, lkR, names])) ?_
  refine vcN_sound 1 _ _ ?_
  simp (config := { maxSteps := 2000000 }) only [go_sem, hG, hOw, hm]
  (repeat' (first | (with_reducible refine And.intro ?_ ?_) | (with_reducible intro _) | (with_reducible refine exP ?_ ?_))); all_goals (try omega)
  refine semL_ent (s' := St.of (pbF k i h m n) (pbH G.lo r ((lateR r k m).shares.map srE) ((farR r h m).helpers.map hpE) ((slowR r h m).helpers.map hpE) ((apartR r k m).shares.map srE))) (ent_of [(4, some 4), (15, some 15), (16, some 16), (17, some 17), (18, some 18), (1071, some 1071), (1072, some 1072), (1073, some 1073), (2071, some 2071), (2072, some 2072), (2073, some 2073), (3071, some 3071), (3072, some 3072), (3073, some 3073), (4071, some 4071), (4072, some 4072), (4073, some 4073)] (by (simp only [go_sem]) <;> simp [q4,pbH]) (by (simp only [go_sem, entH, entH1, nilArr, obOK]) <;> simp [q4,pbH]) (by simp [injR, apart]) (by simp [coverR, usH, q4,pbH]) (by simp [hNm, lkR, names])) ?_
  refine semL_ent (s' := St.of [(4, .ptr 4 0), (9, bl true), (10, i64 i), (11, i64 k), (12, i64 n), (14, i64 h), (15, .fp (roC G.lo (lateR r k m))), (16, .fp (roC G.lo (farR r h m))), (17, .fp (roC G.lo (slowR r h m))), (18, .fp (roC G.lo (apartR r k m)))] [(4, .box (roC 0 r))]) (ent_frz (fun i => !(i == 4)) (ent_of [(4, some 4)] (by (simp only [go_sem]) <;> simp [pbH,t1,t2,t3,t4,e1,e2,e3,e4,e5,e6,e7,e8]) (by (simp only [go_sem, entH, entH1, nilArr, obOK]) <;> simp [pbH,t1,t2,t3,t4,e1,e2,e3,e4,e5,e6,e7,e8]) (by simp [injR, apart]) (by simp [coverR, usH, pbH,t1,t2,t3,t4,e1,e2,e3,e4,e5,e6,e7,e8]) (by simp [hNm, lkR, names]))) ?_
  refine vcN_sound 1 _ _ ?_
  simp (config := { maxSteps := 2000000 }) only [go_sem, hG, hOw, Nat.reduceMul]
  (repeat' (first | (with_reducible refine And.intro ?_ ?_) | (with_reducible intro _) | (with_reducible refine exP ?_ ?_))); all_goals (try omega)
  refine semL_ent (s' := St.of [(4, .ptr 4 0), (9, bl true), (10, i64 i), (11, i64 k), (12, i64 n), (14, i64 h), (125, .lst G.lo 4 ((postX r k h m).map (roC G.lo))), (126, i64 4), (127, i64 0)] [(4, .box (roC 0 r))]) (ent_of [(4, some 4)] (by (simp only [go_sem]) <;> simp [postX,roC,chs,hps,srs,ses]) (by (simp only [go_sem, entH, entH1, nilArr, obOK]) <;> simp [postX,roC,chs,hps,srs,ses]) (by simp [injR, apart]) (by simp [coverR, usH]) (by simp [hNm, lkR, names])) ?_
  exact postC r i k h hg hil hkl hh hhl (postX r k h m) n hn rfl (by
    intro j hj hrj
    have := post_each r hg i k hil hkl m (by omega) j (by rw [hh]; exact hj) (by simp only [hh]; exact (ready_good hrj).2)
    simp only [hh, ← hn] at this
    exact this) hG hOw hNm
theorem HandPost_ok (r : Ro) (p o m : Nat) (hp : p < 256) (ho : o < 256) (hm : m < 256) : Gives Tryz.prog 9 [roE 0 r, .v (.int .u8 p), .v (.int .u8 o), .v (.int .u8 m)] (fun _ => bl true) := by
  refine pure_introL (fun _ => false) Tryz.func9 Tryz.ntmps9 rfl (by kernel_rfl) (by simp) rfl (by decide) fun G hG hOw hNm hZ hB => ?_
  refine vcN_sound 2 _ _ ?_
  simp only [go_sem, hG, hOw]
  refine call_pure alive_ok (Subs.refl _) rfl (by simp [chk, hG]) ?_
  simp only [go_sem, hG, hOw]
  refine vcN_sound 2 _ _ ?_
  cases hrd : readyB r with
  | false =>
    simp only [go_sem, hG, hOw]
    refine call_pure (ready_ok r) (by first | exact Subs.refl _ | (repeat' (first | exact Subs.nil | exact Sub.refl _ | exact Sub.lo (Nat.zero_le _) | refine Subs.cons ?_ ?_ | refine Subs.agg ?_ | refine Subs.fp ?_ | refine Subs.tup ?_ | refine Sub.map (Nat.zero_le _) (fun _ => ?_)))) (by first | rfl | simp [allP, all0, pureV, pure0, *]) (by simp [chk, hG]) ?_
    simp (config := { maxSteps := 2000000 }) only [go_sem, hG, hOw, hrd]
    try (repeat' (first | (with_reducible refine And.intro ?_ ?_) | (with_reducible intro _) | (with_reducible refine exP ?_ ?_))); all_goals (try omega)
  | true =>
    obtain ⟨hr, hg⟩ := ready_good hrd
    have he := hg.e
    have hsn := hg.sn
    by_cases h0 : r.shares.length = 0
    · have h0' : (r.shares.length : Int) = 0 := by omega
      simp only [go_sem, hG, hOw]
      refine call_pure (ready_ok r) (by first | exact Subs.refl _ | (repeat' (first | exact Subs.nil | exact Sub.refl _ | exact Sub.lo (Nat.zero_le _) | refine Subs.cons ?_ ?_ | refine Subs.agg ?_ | refine Subs.fp ?_ | refine Subs.tup ?_ | refine Sub.map (Nat.zero_le _) (fun _ => ?_)))) (by first | rfl | simp [allP, all0, pureV, pure0, *]) (by simp [chk, hG]) ?_
      simp (config := { maxSteps := 2000000 }) only [go_sem, hG, hOw, hrd, h0']
      try (repeat' (first | (with_reducible refine And.intro ?_ ?_) | (with_reducible intro _) | (with_reducible refine exP ?_ ?_))); all_goals (try omega)
    · obtain ⟨i, hi⟩ : ∃ i, i = p % r.shares.length := ⟨_, rfl⟩
      obtain ⟨k, hk⟩ : ∃ k, k = o % r.shares.length := ⟨_, rfl⟩
      have hil : i < r.shares.length := by rw [hi]; exact Nat.mod_lt _ (by omega)
      have hkl : k < r.shares.length := by rw [hk]; exact Nat.mod_lt _ (by omega)
      have em1 : (p : Int) % (r.shares.length : Int) = (i : Int) := by rw [hi]; simp
      have em2 : (o : Int) % (r.shares.length : Int) = (k : Int) := by rw [hk]; simp
      have hsi := hg.s i hil
      have hsk := hg.s k hkl
      have hll := hg.ll
      obtain ⟨h, hh⟩ : ∃ h : Nat, r.shares[i].helper = h := ⟨r.shares[i].helper.toNat, by omega⟩
      have hhl : h < r.helpers.length := by omega
      have hH := hg.h h hhl
      have h0' : ¬ (r.shares.length : Int) = 0 := by omega
      obtain ⟨eB, nB⟩ := backR_at hg hil (by omega)
      have hBk := HBack_ok r hr i
      rw [eB] at hBk
      obtain ⟨n, hn⟩ : ∃ n, n = backR r i := ⟨_, rfl⟩
      rw [← hn] at hBk
      simp only [go_sem, hG, hOw]
      refine call_pure (ready_ok r) (by first | exact Subs.refl _ | (repeat' (first | exact Subs.nil | exact Sub.refl _ | exact Sub.lo (Nat.zero_le _) | refine Subs.cons ?_ ?_ | refine Subs.agg ?_ | refine Subs.fp ?_ | refine Subs.tup ?_ | refine Sub.map (Nat.zero_le _) (fun _ => ?_)))) (by first | rfl | simp [allP, all0, pureV, pure0, *]) (by simp [chk, hG]) ?_
      simp (config := { maxSteps := 2000000 }) only [go_sem, hG, hOw, hrd, h0']
      (repeat' (first | (with_reducible refine And.intro ?_ ?_) | (with_reducible intro _) | (with_reducible refine exP ?_ ?_))); all_goals (try omega)
      refine vcN_sound 6 _ _ ?_
      simp only [go_sem, hG, hOw]
      refine semC_draw0 mixed (by kernel_rfl) ?_
      simp (config := { maxSteps := 2000000 }) only [go_sem, hG, hOw, em1, em2]
      (repeat' (first | (with_reducible refine And.intro ?_ ?_) | (with_reducible intro _) | (with_reducible refine exP ?_ ?_))); all_goals (try omega)
      refine call_pure hBk (by first | exact Subs.refl _ | (repeat' (first | exact Subs.nil | exact Sub.refl _ | exact Sub.lo (Nat.zero_le _) | refine Subs.cons ?_ ?_ | refine Subs.agg ?_ | refine Subs.fp ?_ | refine Subs.tup ?_ | refine Sub.map (Nat.zero_le _) (fun _ => ?_)))) (by first | rfl | simp [allP, all0, pureV, pure0, *]) (by simp [chk, hG]) ?_
      simp (config := { maxSteps := 2000000 }) only [go_sem, hG, hOw, hh]
      (repeat' (first | (with_reducible refine And.intro ?_ ?_) | (with_reducible intro _) | (with_reducible refine exP ?_ ?_))); all_goals (try omega)
      refine semC_draw ⟨[15, 16, 17, 18, 1071, 1072, 1073, 2071, 2072, 2073, 3071, 3072, 3073, 4071, 4072, 4073], [(71, [1071, 1072, 1073]), (73, [2071, 2072, 2073]), (75, [3071, 3072, 3073]), (77, [4071, 4072, 4073])], [71, 73, 75, 77]⟩ [(0, false), (1, false), (2, false), (3, false), (4, false), (5, false), (6, false), (7, false), (8, false), (9, false), (10, false), (11, false), (12, false), (13, false), (14, false), (15, false)] mixed (by kernel_rfl) ?_
      simp only [pickO, List.getElem?_cons_zero, List.getElem?_cons_succ]
      simp only [go_sem, hG, hOw]
      (repeat' (first | (with_reducible refine And.intro ?_ ?_) | (with_reducible intro _) | (with_reducible refine exP ?_ ?_))); all_goals (try omega)
      refine ⟨_, callNew [(0, 1071), (1, 1072), (2, 1073)] (Twin_tri r hr) (by (simp only [go_sem]) <;> simp [twO,twH]) rfl (by simp [tgt, nmHas]) (by simp [upT, dropsR, outsR, keepR, usH, lkR, toR, nmHas, twO,twH]) (by simp [newN, usH, tgt, go_sem]) (by simp [hasAll, keepR, usH, lkR, toR, twO,twH]) (by simp [uniqN, usH, twO,twH]), ?_⟩
      simp (config := { maxSteps := 2000000 }) only [go_sem, hG, hOw, hh]
      (repeat' (first | (with_reducible refine And.intro ?_ ?_) | (with_reducible intro _) | (with_reducible refine exP ?_ ?_))); all_goals (try omega)
      refine ⟨_, callNew [(0, 2071), (1, 2072), (2, 2073)] (Twin_tri r hr) (by (simp only [go_sem]) <;> simp [twO,twH]) rfl (by simp [tgt, nmHas]) (by simp [upT, dropsR, outsR, keepR, usH, lkR, toR, nmHas, twO,twH]) (by simp [newN, usH, tgt, go_sem]) (by simp [hasAll, keepR, usH, lkR, toR, twO,twH]) (by simp [uniqN, usH, twO,twH]), ?_⟩
      simp (config := { maxSteps := 2000000 }) only [go_sem, hG, hOw, hh]
      (repeat' (first | (with_reducible refine And.intro ?_ ?_) | (with_reducible intro _) | (with_reducible refine exP ?_ ?_))); all_goals (try omega)
      refine ⟨_, callNew [(0, 3071), (1, 3072), (2, 3073)] (Twin_tri r hr) (by (simp only [go_sem]) <;> simp [twO,twH]) rfl (by simp [tgt, nmHas]) (by simp [upT, dropsR, outsR, keepR, usH, lkR, toR, nmHas, twO,twH]) (by simp [newN, usH, tgt, go_sem]) (by simp [hasAll, keepR, usH, lkR, toR, twO,twH]) (by simp [uniqN, usH, twO,twH]), ?_⟩
      simp (config := { maxSteps := 2000000 }) only [go_sem, hG, hOw, hh]
      (repeat' (first | (with_reducible refine And.intro ?_ ?_) | (with_reducible intro _) | (with_reducible refine exP ?_ ?_))); all_goals (try omega)
      refine ⟨_, callNew [(0, 4071), (1, 4072), (2, 4073)] (Twin_tri r hr) (by (simp only [go_sem]) <;> simp [twO,twH]) rfl (by simp [tgt, nmHas]) (by simp [upT, dropsR, outsR, keepR, usH, lkR, toR, nmHas, twO,twH]) (by simp [newN, usH, tgt, go_sem]) (by simp [hasAll, keepR, usH, lkR, toR, twO,twH]) (by simp [uniqN, usH, twO,twH]), ?_⟩
      simp (config := { maxSteps := 2000000 }) only [go_sem, hG, hOw, hh]
      (repeat' (first | (with_reducible refine And.intro ?_ ?_) | (with_reducible intro _) | (with_reducible refine exP ?_ ?_))); all_goals (try omega)
      refine semL_ent (s' := St.of (pbF k i h m n) (pbH G.lo r (r.shares.map srE) (r.helpers.map hpE) (r.helpers.map hpE) (r.shares.map srE))) (ent_of [(4, some 4), (15, some 15), (16, some 16), (17, some 17), (18, some 18), (1071, some 1071), (1072, some 1072), (1073, some 1073), (2071, some 2071), (2072, some 2072), (2073, some 2073), (3071, some 3071), (3072, some 3072), (3073, some 3073), (4071, some 4071), (4072, some 4072), (4073, some 4073)] (by (simp only [go_sem]) <;> simp [pbH]) (by (simp only [go_sem, entH, entH1, nilArr, obOK]) <;> simp [pbH]) (by simp [injR, apart]) (by simp [coverR, usH, pbH]) (by simp [hNm, lkR, names])) ?_
      exact postB r i k h m hm hg hil hkl hh hhl n hn hG hOw hNm
end Go.Proofs.YtfnohnjnncjidaaGreatDoor
