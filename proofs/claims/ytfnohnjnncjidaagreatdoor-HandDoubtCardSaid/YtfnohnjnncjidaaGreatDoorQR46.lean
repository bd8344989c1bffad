import Derived.Test.YtfnohnjnncjidaaGreatDoorQR42
import Derived.Test.YtfnohnjnncjidaaGreatDoorQR43
namespace Go.Proofs.YtfnohnjnncjidaaGreatDoor
open Go Pm
set_option linter.unusedSimpArgs false
set_option linter.unusedVariables false
theorem part_len {r : Ro} (hg : Good r) {i : Nat} (hi : i < r.shares.length) : ((partA r i).length : Int) = r.shares[i].to - r.shares[i].fr + 1 := by
  have hs := hg.s i hi
  unfold partA
  rw [List.getElem?_eq_getElem hi]
  simp only [List.length_take, List.length_drop]
  omega
theorem part_at {r : Ro} (hg : Good r) {i : Nat} (hi : i < r.shares.length) (n : Int) (h1 : r.shares[i].fr ≤ n) (h2 : n ≤ r.shares[i].to) : (partA r i)[(n - r.shares[i].fr).toNat]? = (linesL r.text)[n.toNat]? := by
  have hs := hg.s i hi
  unfold partA
  rw [List.getElem?_eq_getElem hi]
  simp only
  rw [List.getElem?_take, if_pos (by omega), List.getElem?_drop]
  congr 1
  omega
def trL (r : Ro) (bs : List Int) (i : Nat) : List Ln × Int := if chooseI bs (10 + i) % 3 = 0 then (wrOut bs (40 * i) (partA r i), wrCost bs (40 * i) (partA r i)) else (partA r i, 0)
def trOn (r : Ro) (bs : List Int) (i : Nat) : Bool := !decide (chooseI bs i % 5 = 0) && decide (((trL r bs i).1.length : Int) ≤ 30)
def trS (r : Ro) (bs : List Int) (i : Nat) : Se := if trOn r bs i = true then ⟨true, (trL r bs i).1⟩ else ⟨false, []⟩
def trW (r : Ro) (bs : List Int) (i : Nat) : Int := if trOn r bs i = true then (trL r bs i).2 else 0
def trX (r : Ro) (bs : List Int) : Ro := { r with sheets := (List.range r.shares.length).map (trS r bs) }
def trSum (r : Ro) (bs : List Int) (k : Nat) : Nat := (numsL (fun i => decide (0 < trW r bs i)) k).length
def trWs (r : Ro) (bs : List Int) : List Int := (List.range r.shares.length).map (trW r bs)
theorem trL_bd (r : Ro) (bs : List Int) (i : Nat) : 0 ≤ (trL r bs i).2 ∧ (trL r bs i).2 ≤ 2 * (partA r i).length ∧ (trL r bs i).1.length ≤ 2 * (partA r i).length := by
  unfold trL
  split
  · exact wr_bd bs (40 * i) _ _ 0 0
  · simp only; omega
theorem trW_bd (r : Ro) (bs : List Int) (i : Nat) : 0 ≤ trW r bs i ∧ trW r bs i ≤ 2 * (partA r i).length := by
  have := trL_bd r bs i
  unfold trW
  split <;> omega
theorem trW_zero (r : Ro) (bs : List Int) (i : Nat) (h : trW r bs i = 0) : (trS r bs i).back = false ∨ (trS r bs i).lines = partA r i := by
  unfold trW at h
  unfold trS
  split
  · rename_i ho
    rw [if_pos ho] at h
    right
    unfold trL at h ⊢
    split
    · rename_i hc
      rw [if_pos hc] at h
      exact wr_none bs (40 * i) _ _ 0 0 h
    · rfl
  · exact .inl rfl
theorem trX_sheet (r : Ro) (bs : List Int) {i : Nat} (h : i < (trX r bs).sheets.length) : (trX r bs).sheets[i] = trS r bs i := by simp [trX]
theorem tr_torn {r : Ro} {bs : List Int} (hg : Good r) (hx : Good (trX r bs)) {i : Nat} (hi : i < r.shares.length) (h : tornI (trX r bs) i = true) : 0 < trW r bs i := by
  have hl : i < (trX r bs).sheets.length := by rw [hx.xn]; exact hi
  rw [tornI_at (trX r bs) (i := i) hi hl, trX_sheet] at h
  have hb := trW_bd r bs i
  by_cases h0 : trW r bs i = 0
  · have hp := part_len hg hi
    rcases trW_zero r bs i h0 with e | e
    · simp [tornB, e] at h
    · have h2 : (trX r bs).shares[i]'hi = r.shares[i] := rfl
      simp only [tornB, e, h2, Bool.and_eq_true, Bool.not_eq_true', decide_eq_false_iff_not] at h
      exact absurd hp h.2
  · omega
theorem tr_differ {r : Ro} {bs : List Int} (hg : Good r) (hx : Good (trX r bs)) {i : Nat} (hi : i + 1 < r.shares.length) (h : differI (trX r bs) i = true) : 0 < trW r bs i ∨ 0 < trW r bs (i + 1) := by
  have hl : i + 1 < (trX r bs).sheets.length := by rw [hx.xn]; exact hi
  rw [differI_at (trX r bs) (i := i) hi hl, trX_sheet, trX_sheet] at h
  have hb := trW_bd r bs i
  have hb1 := trW_bd r bs (i + 1)
  by_cases h0 : trW r bs i = 0
  · by_cases h1 : trW r bs (i + 1) = 0
    · exfalso
      have hm := hg.mono hi
      have hs := hg.s i (by omega)
      have hs1 := hg.s (i + 1) hi
      simp only [differB, Bool.and_eq_true, Bool.not_eq_true', Bool.or_eq_false_iff, Bool.not_eq_false'] at h
      obtain ⟨⟨⟨⟨b1, b2⟩, -⟩, -⟩, h⟩ := h
      obtain ⟨j, hj, hd⟩ := List.any_eq_true.1 h
      rw [List.mem_range] at hj
      have e0 : (trS r bs i).lines = partA r i := by
        rcases trW_zero r bs i h0 with e | e
        · rw [e] at b1; cases b1
        · exact e
      have e1 : (trS r bs (i + 1)).lines = partA r (i + 1) := by
        rcases trW_zero r bs (i + 1) h1 with e | e
        · rw [e] at b2; cases b2
        · exact e
      have s0 : (trX r bs).shares[i]'(by exact Nat.lt_of_succ_lt hi) = r.shares[i] := rfl
      have s1 : (trX r bs).shares[i + 1]'hi = r.shares[i + 1] := rfl
      simp only [s0, s1] at hj hd
      unfold diffAt at hd
      rw [e0, e1, part_at hg (by omega) _ (by omega) (by omega), part_at hg hi _ (by omega) (by omega)] at hd
      simp at hd
    · right; omega
  · left; omega
theorem tr_again {r : Ro} {bs : List Int} (hg : Good r) (hx : Good (trX r bs)) : (againP (trX r bs)).length ≤ trSum r bs r.shares.length := by
  obtain ⟨_, h⟩ := againP_spec (trX r bs) hx.e
  have hsl : (trX r bs).shares.length = r.shares.length := rfl
  rw [hsl] at h
  have := h (fun i => decide (0 < trW r bs i)) (cov_iff.2 ⟨fun i hi ht => by
    simpa using tr_torn hg hx hi ht, fun i hi hd => by
    simpa using tr_differ hg hx hi hd⟩)
  exact before_len this
theorem trSum_succ (r : Ro) (bs : List Int) (k : Nat) : trSum r bs (k + 1) = if 0 < trW r bs k then trSum r bs k + 1 else trSum r bs k := by
  unfold trSum
  rw [numsL_succ]
  by_cases h : 0 < trW r bs k
  · rw [if_pos (by simpa using h), if_pos h, List.length_append, List.length_singleton]
  · rw [if_neg (by simpa using h), if_neg h]
def wIn (W : List Int) (i : Int) : Bool := decide (0 ≤ i) && (decide (i < W.length) && decide (0 < getI W i.toNat))
theorem wIn_at (r : Ro) (bs : List Int) (i : Nat) (hi : i < r.shares.length) (h : 0 < trW r bs i) : wIn (trWs r bs) i = true := by
  have hl : i < (trWs r bs).length := by simpa [trWs] using hi
  have e : getI (trWs r bs) i = trW r bs i := by
    unfold getI
    rw [List.getD_eq_getElem?_getD, List.getElem?_eq_getElem hl, Option.getD_some]
    simp [trWs]
  simp only [wIn, Int.toNat_natCast, e, Bool.and_eq_true, decide_eq_true_eq]
  exact ⟨by omega, by omega, h⟩
theorem tr_in_torn {r : Ro} {bs : List Int} (hg : Good r) (hx : Good (trX r bs)) : ∀ t ∈ tornL (trX r bs), wIn (trWs r bs) t = true := by
  intro t ht
  rw [show tornL (trX r bs) = numsL (tornI (trX r bs)) r.shares.length by simp [tornL, hx.e]; rfl] at ht
  obtain ⟨i, hi, h1, rfl⟩ := mem_numsL.1 ht
  exact wIn_at r bs i hi (tr_torn hg hx hi h1)
theorem tr_in_differ {r : Ro} {bs : List Int} (hg : Good r) (hx : Good (trX r bs)) : ∀ y ∈ differL (trX r bs), (wIn (trWs r bs) y.1 || wIn (trWs r bs) y.2) = true := by
  intro y hy
  rw [show differL (trX r bs) = prsL (differI (trX r bs)) (r.shares.length - 1) by simp [differL, hx.e]; rfl] at hy
  unfold prsL at hy
  obtain ⟨i, h1, rfl⟩ := List.mem_map.1 hy
  obtain ⟨h2, h3⟩ := List.mem_filter.1 h1
  rw [List.mem_range] at h2
  rw [Bool.or_eq_true]
  rcases tr_differ hg hx (by omega) h3 with h | h
  · exact .inl (wIn_at r bs i (by omega) h)
  · exact .inr (wIn_at r bs (i + 1) (by omega) h)
theorem tr_in_proof {r : Ro} {bs : List Int} (hg : Good r) (hx : Good (trX r bs)) : ∀ y ∈ proofL (trX r bs), (wIn (trWs r bs) y.1 || wIn (trWs r bs) y.2) = true := by
  intro y hy
  obtain ⟨j, hj, rfl⟩ := List.getElem_of_mem hy
  have h := (once_ok _ hx.e j hj).1
  obtain ⟨z, hz, e⟩ := List.any_eq_true.1 h
  rw [of_decide_eq_true e]
  exact tr_in_differ hg hx z hz
end Go.Proofs.YtfnohnjnncjidaaGreatDoor
namespace Go.Proofs.YtfnohnjnncjidaaGreatDoor
open Go Pm
set_option linter.unusedSimpArgs false
set_option linter.unusedVariables false
theorem word_read : wordB wRead = true := by decide
theorem word_wrong : wordB wWrong = true := by decide
theorem wSet_line {a : Ln} (w : Nat) (h : lineB a = true) : lineB (wSet a w) = true := by
  simp only [lineB, Bool.and_eq_true, List.all_eq_true] at h ⊢
  refine ⟨by simpa [wSet] using h.1, fun x hx => ?_⟩
  unfold wSet at hx
  rcases List.mem_or_eq_of_mem_set hx with hx | rfl
  · exact h.2 x hx
  · split
    · exact word_wrong
    · exact word_read
theorem roundE_of {r : Ro} (h1 : textB r.text = true) (h2 : roundB r = true) : roundE r = 0 := by simp [roundE, h1, h2]
theorem good_text {r : Ro} (hg : Good r) : textB r.text = true := by
  cases h : textB r.text with
  | true => rfl
  | false => have := hg.e; simp [roundE, h] at this
theorem lineB_gt {l : Ln} (h : lineB l = true) : gtLine l = false := by
  simp only [lineB, inB, Bool.and_eq_true, decide_eq_true_eq, List.all_eq_true] at h
  simp only [gtLine, Bool.or_eq_false_iff, decide_eq_false_iff_not, List.any_eq_false, decide_eq_true_eq]
  refine ⟨by omega, fun s hs => ?_⟩
  have := h.2 s hs
  simp only [wordB, inB, Bool.and_eq_true, decide_eq_true_eq] at this
  omega
theorem partA_line {r : Ro} (hg : Good r) (i : Nat) : (partA r i).length ≤ 400 ∧ ∀ l ∈ partA r i, lineB l = true := by
  obtain ⟨h1, _⟩ := good_lines hg
  have hll := hg.ll
  constructor
  · unfold partA
    split
    · rw [List.length_take, List.length_drop]; omega
    · simp
  · intro l hl
    refine h1 l ?_
    unfold partA at hl
    split at hl
    · exact List.mem_of_mem_drop (List.mem_of_mem_take hl)
    · cases hl
theorem trL_line {r : Ro} (hg : Good r) (bs : List Int) (i : Nat) : ∀ l ∈ (trL r bs i).1, lineB l = true := by
  obtain ⟨_, h2⟩ := partA_line hg i
  unfold trL
  split
  · exact wr_all bs (40 * i) _ (fun a => lineB a = true) (fun a w h => wSet_line w h) _ 0 0 h2
  · exact h2
theorem trS_ok {r : Ro} (hg : Good r) (bs : List Int) (i : Nat) : sheetB (trS r bs i) = true ∧ gtSheet (trS r bs i) = false := by
  have hl := trL_line hg bs i
  unfold trS
  split
  · rename_i ho
    simp only [trOn, Bool.and_eq_true, decide_eq_true_eq] at ho
    constructor
    · simp only [sheetB, Bool.true_or, Bool.and_true, Bool.and_eq_true, decide_eq_true_eq, List.all_eq_true]
      exact ⟨ho.2, hl⟩
    · simp only [gtSheet, Bool.or_eq_false_iff, decide_eq_false_iff_not, List.any_eq_false, Bool.not_eq_true]
      exact ⟨by omega, fun l h => lineB_gt (hl l h)⟩
  · exact ⟨rfl, rfl⟩
theorem sheets_ready {r x : Ro} (hr : readyB r = true) (h1 : x.text = r.text) (h2 : x.helpers = r.helpers) (h3 : x.shares = r.shares) (h4 : x.sheets.length = r.shares.length) (h5 : ∀ s ∈ x.sheets, sheetB s = true ∧ gtSheet s = false) : readyB x = true := by
  obtain ⟨hok, hg⟩ := ready_good hr
  simp only [readyB, Bool.and_eq_true, Bool.not_eq_true', decide_eq_true_eq] at hr ⊢
  have hsn := hg.sn
  have hb := roundB_of hg.e
  constructor
  · have hgr := hr.1
    simp only [greatR, Bool.or_eq_false_iff, List.any_eq_false, Bool.not_eq_true, h1, h2, h3] at hgr ⊢
    refine ⟨⟨hgr.1.1, ?_⟩, fun s hs => (h5 s hs).2⟩
    simp only [decide_eq_false_iff_not]; omega
  · refine roundE_of (by rw [h1]; exact good_text hg) ?_
    unfold roundB at hb ⊢
    simp only [Bool.and_eq_true, List.all_eq_true, h1, h2, h3] at hb ⊢
    refine ⟨⟨⟨⟨hb.1.1.1.1, ?_⟩, hb.1.1.2⟩, hb.1.2⟩, fun s hs => (h5 s hs).1⟩
    simp only [decide_eq_true_eq]; omega
theorem tr_ready {r : Ro} (hr : readyB r = true) (bs : List Int) : readyB (trX r bs) = true := by
  obtain ⟨_, hg⟩ := ready_good hr
  refine sheets_ready hr rfl rfl rfl (by simp [trX]) fun s hs => ?_
  simp only [trX, List.mem_map] at hs
  obtain ⟨i, _, rfl⟩ := hs
  exact trS_ok hg bs i
end Go.Proofs.YtfnohnjnncjidaaGreatDoor
namespace Go.Proofs.YtfnohnjnncjidaaGreatDoor
open Go Pm
set_option linter.unusedSimpArgs false
set_option linter.unusedVariables false
def putS (r : Ro) (i : Nat) (x : Se) : Ro := { r with sheets := r.sheets.set i x }
theorem leftD_iff (r : Ro) (n : Nat) : leftD r n = true ↔ n < (linesL r.text).length ∧ ∀ (j : Nat) (hj : j < r.shares.length), sureB r (againP r) j = true → ¬ (r.shares[j].fr ≤ n ∧ (n : Int) ≤ r.shares[j].to) := by
  unfold leftD
  rw [List.any_eq_true]
  have hm := fun x => mem_leftL (linesL r.text).length r.shares (sureB r (againP r)) x r.shares.length (Nat.le_refl _)
  constructor
  · rintro ⟨y, hy, he⟩
    obtain rfl := of_decide_eq_true he
    obtain ⟨h1, h2⟩ := (hm _).1 hy
    exact ⟨by omega, fun j hj hs => h2 j hj hj hs⟩
  · rintro ⟨h1, h2⟩
    exact ⟨(n : Int), (hm _).2 ⟨⟨by omega, by omega⟩, fun j hj _ hs => h2 j hj hs⟩, by simp⟩
theorem dbtL_sub (c : Cu) (t : List Ch) (f g : Nat → Bool) (h : ∀ n, f n = true → g n = true) : ∀ n, (dbtL c t f n).Sublist (dbtL c t g n)
  | 0 => List.Sublist.refl _
  | n + 1 => by
    unfold dbtL
    refine List.Sublist.append (dbtL_sub c t f g h n) ?_
    by_cases hf : f n = true
    · rw [if_pos hf, if_pos (h n hf)]; exact List.Sublist.refl _
    · rw [if_neg hf]; exact List.nil_sublist _
instance slDec : DecidableEq Sl := fun a b =>
  if h : a.p = b.p ∧ a.word = b.word ∧ a.bef = b.bef ∧ a.aft = b.aft then isTrue (by
    obtain ⟨h1, h2, h3, h4⟩ := h
    cases a; cases b
    simp only at h1 h2 h3 h4
    rw [h1, h2, h3, h4])
  else isFalse (fun e => h (by rw [e]; exact ⟨rfl, rfl, rfl, rfl⟩))
def gstep (m : List Sl) (a : Nat) (s : Sl) : Nat := if m[a]? = some s then a + 1 else a
theorem greedy (m : List Sl) : ∀ (d : List Sl) (a : Nat), a ≤ m.length → (m.drop a).Sublist d → d.foldl (gstep m) a = m.length
  | [], a, ha, h => by
    have := List.sublist_nil.1 h
    have := congrArg List.length this
    rw [List.length_drop] at this
    simp at this
    simp; omega
  | s :: d, a, ha, h => by
    rw [List.foldl_cons]
    by_cases hs : m[a]? = some s
    · have e : gstep m a s = a + 1 := by unfold gstep; rw [if_pos hs]
      rw [e]
      obtain ⟨hl, e2⟩ := List.getElem?_eq_some_iff.1 hs
      rw [List.drop_eq_getElem_cons hl, e2] at h
      exact greedy m d (a + 1) (by omega) (List.cons_sublist_cons.1 h)
    · have e : gstep m a s = a := by unfold gstep; rw [if_neg hs]
      rw [e]
      refine greedy m d a ha ?_
      by_cases hl : a < m.length
      · rw [List.drop_eq_getElem_cons hl] at h ⊢
        cases h with
        | cons _ h => exact h
        | cons_cons _ h => exact absurd (List.getElem?_eq_getElem hl) hs
      · rw [List.drop_of_length_le (by omega)]; exact List.nil_sublist _
def grd (m d : List Sl) (k : Nat) : Nat := (d.take k).foldl (gstep m) 0
theorem grd_succ (m d : List Sl) (k : Nat) (hk : k < d.length) : grd m d (k + 1) = gstep m (grd m d k) d[k] := by
  unfold grd
  rw [List.take_add_one, List.getElem?_eq_getElem hk, List.foldl_append]; rfl
theorem grd_le (m d : List Sl) : ∀ k, k ≤ d.length → grd m d k ≤ k
  | 0, _ => Nat.le_refl _
  | k + 1, hk => by
    have ih := grd_le m d k (by omega)
    rw [grd_succ m d k (by omega)]
    unfold gstep
    split <;> omega
theorem grd_all {m d : List Sl} (h : m.Sublist d) : grd m d d.length = m.length := by
  unfold grd
  rw [List.take_length]
  exact greedy m d 0 (Nat.zero_le _) (by simpa using h)
theorem sure_put (r : Ro) (i : Nat) (x : Se) (A : List Int) (j : Nat) (hj : j ≠ i) : sureB (putS r i x) A j = sureB r A j := by
  unfold sureB putS
  simp only
  rw [List.getElem?_set_ne (by omega)]
theorem more_left {r : Ro} (i : Nat) (hi : i < r.shares.length) (hix : i < r.sheets.length) (hb : r.sheets[i].back = false) (x : Se) (hA : againP (putS r i x) = againP r) (n : Nat) (h : leftD (putS r i x) n = true) : leftD r n = true := by
  rw [leftD_iff] at h ⊢
  rw [hA] at h
  refine ⟨h.1, fun j hj hs => ?_⟩
  have hji : j ≠ i := by
    rintro rfl
    unfold sureB at hs
    rw [List.getElem?_eq_getElem hix] at hs
    simp [hb] at hs
  exact h.2 j hj (by rw [sure_put r i x _ j hji]; exact hs)
theorem torn_put {r : Ro} (hg : Good r) (i : Nat) (hi : i < r.shares.length) (hb : ∀ h : i < r.sheets.length, r.sheets[i].back = false) (j : Nat) (hj : j < r.shares.length) : tornI (putS r i ⟨true, partA r i⟩) j = tornI r j := by
  have hxn := hg.xn
  have hjs : j < (putS r i ⟨true, partA r i⟩).sheets.length := by simp [putS]; omega
  have hjs0 : j < r.sheets.length := by omega
  rw [tornI_at (putS r i ⟨true, partA r i⟩) (i := j) hj hjs, tornI_at r (i := j) hj hjs0]
  by_cases e : j = i
  · subst e
    have hp := part_len hg hj
    have e1 : (putS r j ⟨true, partA r j⟩).sheets[j] = ⟨true, partA r j⟩ := by simp [putS]
    have e2 : (putS r j ⟨true, partA r j⟩).shares[j]'hj = r.shares[j] := rfl
    rw [e1, e2]
    simp [tornB, hp, hb hjs0]
  · have e1 : (putS r i ⟨true, partA r i⟩).sheets[j] = r.sheets[j] := by simp only [putS]; exact List.getElem_set_ne (by omega) _
    rw [e1]; rfl
theorem differ_put {r : Ro} (hg : Good r) (i : Nat) (hb : ∀ h : i < r.sheets.length, r.sheets[i].back = false) (j : Nat) (hj : j + 1 < r.shares.length) :
    (differI r j = true → differI (putS r i ⟨true, partA r i⟩) j = true) ∧ (differI (putS r i ⟨true, partA r i⟩) j = true → j = i ∨ j + 1 = i ∨ differI r j = true) := by
  have hxn := hg.xn
  have hjs : j + 1 < (putS r i ⟨true, partA r i⟩).sheets.length := by simp [putS]; omega
  have hjs0 : j + 1 < r.sheets.length := by omega
  rw [differI_at (putS r i ⟨true, partA r i⟩) (i := j) hj hjs, differI_at r (i := j) hj hjs0]
  by_cases e : j = i
  · refine ⟨fun h => ?_, fun _ => .inl e⟩
    subst e
    simp [differB, hb (by omega)] at h
  · by_cases e' : j + 1 = i
    · refine ⟨fun h => ?_, fun _ => .inr (.inl e')⟩
      subst e'
      simp [differB, hb (by omega)] at h
    · have e1 : (putS r i ⟨true, partA r i⟩).sheets[j]'(by omega) = r.sheets[j] := by simp only [putS]; exact List.getElem_set_ne (by omega) _
      have e2 : (putS r i ⟨true, partA r i⟩).sheets[j + 1] = r.sheets[j + 1] := by simp only [putS]; exact List.getElem_set_ne (by omega) _
      rw [e1, e2]
      exact ⟨fun h => h, fun h => .inr (.inr h)⟩
theorem more_again {r : Ro} (hg : Good r) (i : Nat) (hi : i < r.shares.length) (hb : ∀ h : i < r.sheets.length, r.sheets[i].back = false) (hgx : Good (putS r i ⟨true, partA r i⟩)) :
    (againP r).length ≤ (againP (putS r i ⟨true, partA r i⟩)).length ∧ (againP (putS r i ⟨true, partA r i⟩)).length ≤ (againP r).length + 1 := by
  obtain ⟨⟨s, hs1, hs2⟩, hr⟩ := againP_spec r hg.e
  obtain ⟨⟨t, ht1, ht2⟩, hx⟩ := againP_spec _ hgx.e
  have hsl : (putS r i ⟨true, partA r i⟩).shares.length = r.shares.length := rfl
  rw [hsl] at ht1 ht2 hx
  rw [cov_iff] at hs2 ht2
  constructor
  · have h := before_len (hr t (cov_iff.2 ⟨fun j hj h => ht2.1 j hj (by rw [torn_put hg i hi hb j hj]; exact h), fun j hj h => ht2.2 j hj ((differ_put hg i hb j hj).1 h)⟩))
    rw [ht1]; exact h
  · have h := before_len (hx (fun j => s j || decide ((i : Int) = (j : Int))) (cov_iff.2 ⟨fun j hj h => by
        rw [torn_put hg i hi hb j hj] at h
        simp [hs2.1 j hj h], fun j hj h => by
        rcases (differ_put hg i hb j hj).2 h with h | h | h
        · left; simp [h]
        · right; simp [← h]
        · rcases hs2.2 j hj h with h | h
          · left; simp [h]
          · right; simp [h]⟩))
    have h2 := nums_or (p := s) (q := fun j => decide ((i : Int) = (j : Int))) r.shares.length
    have h3 := nums_one (i : Int) r.shares.length
    rw [hs1]
    split at h3 <;> omega
end Go.Proofs.YtfnohnjnncjidaaGreatDoor
