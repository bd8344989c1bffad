import Derived.Test.YtfnohnjnncjidaaGreatDoorQR22
import Derived.Test.YtfnohnjnncjidaaGreatDoorQR42
namespace Go.Proofs.YtfnohnjnncjidaaGreatDoor
open Go Pm
set_option linter.unusedSimpArgs false
set_option linter.unusedVariables false
def wRead : ByteArray := ⟨#[114, 101, 97, 100]⟩
def wWrong : ByteArray := ⟨#[119, 114, 111, 110, 103]⟩
def oftI (bs : List Int) (fr : Nat) : Int := 3 + chooseI bs fr % 20
def wSkip (bs : List Int) (fr n i : Nat) : Bool := decide (chooseI bs (fr + 3 * i + 1) % oftI bs fr = 0) && decide (1 < (n : Int))
def wBad (bs : List Int) (fr i : Nat) : Bool := decide (chooseI bs (fr + 3 * i + 1) % oftI bs fr = 1)
def wRep (bs : List Int) (fr n i o : Nat) : Bool := decide (chooseI bs (fr + 3 * i + 3) % oftI bs fr = 2) && decide ((o : Int) + n - i < 30)
def wAtI (bs : List Int) (fr i : Nat) (a : Ln) : Nat := (chooseI bs (fr + 3 * i + 2)).toNat % a.length
def wSet (a : Ln) (w : Nat) : Ln := a.set w (if a[w]? = some wRead then wWrong else wRead)
def wOwn (bs : List Int) (fr i : Nat) (a : Ln) : Ln := if wBad bs fr i = true then wSet a (wAtI bs fr i a) else a
def wCost (bs : List Int) (fr i : Nat) : Int := if wBad bs fr i = true then 1 else 0
def wr (bs : List Int) (fr n : Nat) : List Ln → Nat → Nat → List Ln × Int
  | [], _, _ => ([], 0)
  | a :: r, i, o =>
    if wSkip bs fr n i = true then ((wr bs fr n r (i + 1) o).1, 1 + (wr bs fr n r (i + 1) o).2)
    else if wRep bs fr n i (o + 1) = true then (wOwn bs fr i a :: a :: (wr bs fr n r (i + 1) (o + 2)).1, wCost bs fr i + 1 + (wr bs fr n r (i + 1) (o + 2)).2)
    else (wOwn bs fr i a :: (wr bs fr n r (i + 1) (o + 1)).1, wCost bs fr i + (wr bs fr n r (i + 1) (o + 1)).2)
def wrOut (bs : List Int) (fr : Nat) (l : List Ln) : List Ln := (wr bs fr l.length l 0 0).1
def wrCost (bs : List Int) (fr : Nat) (l : List Ln) : Int := (wr bs fr l.length l 0 0).2
theorem wCost_bd (bs : List Int) (fr i : Nat) : 0 ≤ wCost bs fr i ∧ wCost bs fr i ≤ 1 := by unfold wCost; split <;> omega
theorem few_own (bs : List Int) (fr i : Nat) (a : Ln) : few a (wOwn bs fr i a) ≤ wCost bs fr i := by
  unfold wOwn wCost
  split
  · exact few_set _ _ _
  · rw [few_self]; exact Int.le_refl _
theorem cst_skip (x : Ln) (a : List Ln) (p : Option Ln) (b : List Ln) : cst (x :: a) p b ≤ 1 + cst a none b := by
  cases b with
  | nil => rw [cst_xn]; exact Int.min_le_right _ _
  | cons y b => rw [cst_xy]; exact Int.min_le_right _ _
theorem cst_read (x y : Ln) (a : List Ln) (p : Option Ln) (b : List Ln) : cst (x :: a) p (y :: b) ≤ few x y + cst a (some x) b := by
  rw [cst_xy]; omega
theorem cst_rep (x : Ln) (a b : List Ln) : cst a (some x) (x :: b) ≤ 1 + cst a (some x) b := by
  cases a with
  | nil => rw [cst_ny, if_pos rfl]; exact Int.min_le_right _ _
  | cons y a => rw [cst_xy, if_pos rfl]; omega
theorem wr_cst (bs : List Int) (fr n : Nat) : ∀ (l : List Ln) (i o : Nat) (p : Option Ln), cst l p (wr bs fr n l i o).1 ≤ (wr bs fr n l i o).2
  | [], i, o, p => by simp [wr, cst_nn]
  | a :: r, i, o, p => by
    have h1 := few_own bs fr i a
    unfold wr
    split
    · have := wr_cst bs fr n r (i + 1) o none
      have := cst_skip a r p (wr bs fr n r (i + 1) o).1
      simp only; omega
    · split
      · have := wr_cst bs fr n r (i + 1) (o + 2) (some a)
        have := cst_read a (wOwn bs fr i a) r p (a :: (wr bs fr n r (i + 1) (o + 2)).1)
        have := cst_rep a r (wr bs fr n r (i + 1) (o + 2)).1
        simp only; omega
      · have := wr_cst bs fr n r (i + 1) (o + 1) (some a)
        have := cst_read a (wOwn bs fr i a) r p (wr bs fr n r (i + 1) (o + 1)).1
        simp only; omega
theorem wr_bd (bs : List Int) (fr n : Nat) : ∀ (l : List Ln) (i o : Nat), 0 ≤ (wr bs fr n l i o).2 ∧ (wr bs fr n l i o).2 ≤ 2 * l.length ∧ (wr bs fr n l i o).1.length ≤ 2 * l.length
  | [], i, o => by simp [wr]
  | a :: r, i, o => by
    have h1 := wCost_bd bs fr i
    unfold wr
    split
    · have := wr_bd bs fr n r (i + 1) o
      simp only [List.length_cons]; omega
    · split
      · have := wr_bd bs fr n r (i + 1) (o + 2)
        simp only [List.length_cons]; omega
      · have := wr_bd bs fr n r (i + 1) (o + 1)
        simp only [List.length_cons]; omega
theorem wr_none (bs : List Int) (fr n : Nat) : ∀ (l : List Ln) (i o : Nat), (wr bs fr n l i o).2 = 0 → (wr bs fr n l i o).1 = l
  | [], i, o => fun _ => rfl
  | a :: r, i, o => by
    have h1 := wCost_bd bs fr i
    unfold wr
    split
    · have := (wr_bd bs fr n r (i + 1) o).1
      intro h; simp only at h; omega
    · split
      · have := (wr_bd bs fr n r (i + 1) (o + 2)).1
        intro h; simp only at h; omega
      · have h2 := (wr_bd bs fr n r (i + 1) (o + 1)).1
        intro h
        simp only at h ⊢
        have h3 : wCost bs fr i = 0 := by omega
        have h4 := wr_none bs fr n r (i + 1) (o + 1) (by omega)
        have h5 : ¬ wBad bs fr i = true := fun hb => by unfold wCost at h3; rw [if_pos hb] at h3; omega
        rw [h4]; unfold wOwn; rw [if_neg h5]
theorem wr_all (bs : List Int) (fr n : Nat) (P : Ln → Prop) (hP : ∀ (a : Ln) (w : Nat), P a → P (wSet a w)) : ∀ (l : List Ln) (i o : Nat), (∀ a ∈ l, P a) → ∀ a ∈ (wr bs fr n l i o).1, P a
  | [], i, o, _, a, ha => by simp [wr] at ha
  | x :: r, i, o, hl, a, ha => by
    have hx := hl x (List.mem_cons_self ..)
    have hr := fun a h => hl a (List.mem_cons_of_mem _ h)
    have ho : P (wOwn bs fr i x) := by
      unfold wOwn
      split
      · exact hP _ _ hx
      · exact hx
    unfold wr at ha
    split at ha
    · exact wr_all bs fr n P hP r _ _ hr a ha
    · split at ha
      · simp only [List.mem_cons] at ha
        rcases ha with rfl | rfl | ha
        · exact ho
        · exact hx
        · exact wr_all bs fr n P hP r _ _ hr a ha
      · simp only [List.mem_cons] at ha
        rcases ha with rfl | ha
        · exact ho
        · exact wr_all bs fr n P hP r _ _ hr a ha
end Go.Proofs.YtfnohnjnncjidaaGreatDoor
namespace Go.Proofs.YtfnohnjnncjidaaGreatDoor
open Go Pm
set_option linter.unusedSimpArgs false
set_option linter.unusedVariables false
def costF (f : Ft) : Int := if 1 < f.words then f.words else 1
def sumL : List Ft → Int
  | [] => 0
  | f :: r => costF f + sumL r
theorem sumL_app (L M : List Ft) : sumL (L ++ M) = sumL L + sumL M := by
  induction L with
  | nil => simp [sumL]
  | cons f r ih => simp only [List.cons_append, sumL, ih]; omega
theorem sumL_step (L : List Ft) (k : Nat) (hk : k < L.length) : sumL (L.take (k + 1)) = sumL (L.take k) + costF L[k] := by
  rw [List.take_add_one, List.getElem?_eq_getElem hk, sumL_app]
  simp [sumL]
theorem costF_pos (f : Ft) : 1 ≤ costF f := by unfold costF; split <;> omega
theorem sumL_len (L : List Ft) : (L.length : Int) ≤ sumL L := by
  induction L with
  | nil => simp [sumL]
  | cons f r ih => have := costF_pos f; simp only [List.length_cons, sumL]; omega
theorem lfew_pos (a b : List Ln) (i k : Nat) : 0 ≤ lfew a b i k := by
  unfold lfew
  split
  · exact (few_bd _ _).1
  · exact Int.le_refl _
theorem stF_sum (a b : List Ln) (fr : Int) (i k j : Nat) : sumL (stF a b fr i k j) = stC a b i k j := by
  have := lfew_pos a b i k
  match j with
  | 0 => simp [stF, stC, sumL, costF]
  | 1 =>
    simp only [stF, stC]
    split
    · simp only [sumL, costF]; split <;> omega
    · simp only [sumL]; omega
  | j + 2 => simp [stF, stC, sumL, costF]
theorem tld_sum (a b : List Ln) (fr : Int) : ∀ (n i k : Nat) (w : Bool), i ≤ a.length → k ≤ b.length → (w = true → 0 < i) → cAt a b i k w < 1073741824 → (a.length - i) + (b.length - k) ≤ n → sumL (tld a b fr n i k w) = cAt a b i k w
  | 0, i, k, w, hi, hk, hw, lt, hn => by
    obtain rfl : i = a.length := by omega
    obtain rfl : k = b.length := by omega
    simp [tld, sumL, cAt, cst_nn]
  | n + 1, i, k, w, hi, hk, hw, lt, hn => by
    unfold tld
    split
    · rename_i h
      obtain ⟨rfl, rfl⟩ := h
      simp [sumL, cAt, cst_nn]
    · rename_i hne
      obtain ⟨j1, _⟩ := stJ_ok a b i k w hi hk hw hne lt
      simp only [onB, Bool.and_eq_true, decide_eq_true_eq] at j1
      obtain ⟨j2, j3⟩ := j1
      obtain ⟨n1, n2, n3, n4⟩ := stN_ok a b i k w hi hk hw _ j2
      have h0 : 0 ≤ stC a b i k (stJ a b i k w) := by
        have := lfew_pos a b i k
        unfold stC
        split <;> omega
      have e : cOf a b (stN a b i k w (stJ a b i k w)) = cAt a b (stN a b i k w (stJ a b i k w)).1 (stN a b i k w (stJ a b i k w)).2.1 (stN a b i k w (stJ a b i k w)).2.2 := rfl
      have ih := tld_sum a b fr n _ _ _ n1 n2 n3 (by omega) (by omega)
      rw [sumL_app, stF_sum, ih]
      omega
theorem told_sum (a b : List Ln) (fr : Int) (h : cAt a b 0 0 false < 1073741824) : sumL (toldL a b fr) = cAt a b 0 0 false := by
  unfold toldL
  rw [if_neg (by omega)]
  exact tld_sum a b fr _ 0 0 false (Nat.zero_le _) (Nat.zero_le _) (fun h => by cases h) h (by omega)
theorem cst_self : ∀ (l : List Ln) (p : Option Ln), cst l p l ≤ 0
  | [], p => by rw [cst_nn]; exact Int.le_refl _
  | x :: r, p => by
    have h1 := cst_self r (some x)
    have h2 := cst_read x x r p r
    rw [few_self] at h2
    omega
theorem told_none (a : List Ln) (fr : Int) : cAt a a 0 0 false = 0 ∧ toldL a a fr = [] := by
  have h1 : cAt a a 0 0 false ≤ 0 := cst_self a none
  have h2 := (cAt_bd a a 0 0 false).1
  have h3 : cAt a a 0 0 false = 0 := by omega
  refine ⟨h3, ?_⟩
  have h4 := told_sum a a fr (by omega)
  have h5 := sumL_len (toldL a a fr)
  exact List.eq_nil_of_length_eq_zero (by omega)
theorem backE_good {r : Ro} (hg : Good r) {i : Nat} (hi : i < r.shares.length) : backE r i = 0 := by
  have hin : inB (i : Int) 0 (r.shares.length - 1) = true := by simp [inB]; omega
  simp [backE, hg.e, hin]
theorem expl_le {x : Ro} (hg : Good x) (i : Nat) (hi : i < x.shares.length) (hix : i < x.sheets.length) (c : Int) (hb : x.sheets[i].back = true) (hc : cst (partA x i) none x.sheets[i].lines ≤ c) (hc2 : c < 1073741824) : explE x i = 0 ∧ sumL (explL x i) ≤ c := by
  have hE := backE_good hg hi
  have hA : cAt (partA x i) x.sheets[i].lines 0 0 false ≤ c := hc
  constructor
  · unfold explE
    rw [if_neg (by rw [hE]; decide), Int.toNat_natCast, List.getElem?_eq_getElem hi, List.getElem?_eq_getElem hix]
    simp only
    rw [if_pos hb, if_neg (by omega)]
  · unfold explL
    rw [if_neg (by rw [hE]; decide), Int.toNat_natCast, List.getElem?_eq_getElem hi, List.getElem?_eq_getElem hix]
    simp only
    rw [if_pos hb, told_sum _ _ _ (by omega)]
    exact hA
theorem expl_none {x : Ro} (hg : Good x) (i : Nat) (hi : i < x.shares.length) (hix : i < x.sheets.length) (hb : x.sheets[i].back = true) (hc : x.sheets[i].lines = partA x i) : explE x i = 0 ∧ explL x i = [] := by
  have hE := backE_good hg hi
  have hn := told_none (partA x i) x.shares[i].fr
  constructor
  · unfold explE
    rw [if_neg (by rw [hE]; decide), Int.toNat_natCast, List.getElem?_eq_getElem hi, List.getElem?_eq_getElem hix]
    simp only
    rw [if_pos hb, hc, if_neg (by rw [hn.1]; decide)]
  · unfold explL
    rw [if_neg (by rw [hE]; decide), Int.toNat_natCast, List.getElem?_eq_getElem hi, List.getElem?_eq_getElem hix]
    simp only
    rw [if_pos hb, hc, hn.2]
end Go.Proofs.YtfnohnjnncjidaaGreatDoor
namespace Go.Proofs.YtfnohnjnncjidaaGreatDoor
open Go Pm
set_option linter.unusedSimpArgs false
set_option linter.unusedVariables false
set_option maxHeartbeats 4000000
set_option maxRecDepth 100000
abbrev wrF (lo : Nat) (l : List Ln) (bs : List Int) (fr i : Nat) (O : List Ln) (c : Int) : List (Nat × V) := [(0, lns 0 l), (1, u32s 0 bs), (2, i64 fr), (8, .own 99 0 O.length 1), (9, i64 c), (10, i64 (oftI bs fr)), (21, lns 0 l), (22, i64 l.length), (23, i64 i)]
theorem wr_skip {bs : List Int} {fr n : Nat} {a : Ln} {r : List Ln} {i o : Nat} (h : wSkip bs fr n i = true) : wr bs fr n (a :: r) i o = ((wr bs fr n r (i + 1) o).1, 1 + (wr bs fr n r (i + 1) o).2) := by
  conv => lhs; unfold wr
  rw [if_pos h]
theorem wr_two {bs : List Int} {fr n : Nat} {a : Ln} {r : List Ln} {i o : Nat} (h : wSkip bs fr n i = false) (h2 : wRep bs fr n i (o + 1) = true) : wr bs fr n (a :: r) i o = (wOwn bs fr i a :: a :: (wr bs fr n r (i + 1) (o + 2)).1, wCost bs fr i + 1 + (wr bs fr n r (i + 1) (o + 2)).2) := by
  conv => lhs; unfold wr
  rw [if_neg (by rw [h]; decide), if_pos h2]
theorem wr_one {bs : List Int} {fr n : Nat} {a : Ln} {r : List Ln} {i o : Nat} (h : wSkip bs fr n i = false) (h2 : wRep bs fr n i (o + 1) = false) : wr bs fr n (a :: r) i o = (wOwn bs fr i a :: (wr bs fr n r (i + 1) (o + 1)).1, wCost bs fr i + (wr bs fr n r (i + 1) (o + 1)).2) := by
  conv => lhs; unfold wr
  rw [if_neg (by rw [h]; decide), if_neg (by rw [h2]; decide)]
theorem write_ok (l : List Ln) (bs : List Int) (hbs : OKu bs) (fr : Nat) (hfr : fr ≤ 10000) (hl : l.length ≤ 400) (hw : ∀ a ∈ l, 1 ≤ a.length ∧ a.length ≤ 100) :
    Gives Tryz.prog 30 [lns 0 l, u32s 0 bs, i64 fr] (fun n => .tup [lns n (wrOut bs fr l), i64 (wrCost bs fr l)]) := by
  have hch := fun k => chooseI_bd hbs k
  obtain ⟨R, hR⟩ : ∃ R, R = wrOut bs fr l := ⟨_, rfl⟩
  obtain ⟨C, hC⟩ : ∃ C, C = wrCost bs fr l := ⟨_, rfl⟩
  rw [← hR, ← hC]
  have hRl : R.length ≤ 2 * l.length := by rw [hR]; exact (wr_bd bs fr _ l 0 0).2.2
  have hCl : C ≤ 2 * l.length := by rw [hC]; exact (wr_bd bs fr _ l 0 0).2.1
  have hf0 := hch fr
  have hof : 3 ≤ oftI bs fr ∧ oftI bs fr ≤ 22 := by
    unfold oftI
    have := Int.emod_nonneg (chooseI bs fr) (show (20 : Int) ≠ 0 by decide)
    have := Int.emod_lt_of_pos (chooseI bs fr) (show (0 : Int) < 20 by decide)
    omega
  have hoe : 3 + chooseI bs fr % 20 = oftI bs fr := rfl
  refine pure_intro (ow := fun i => [103].contains i) Tryz.func30 Tryz.ntmps30 rfl (by kernel_rfl) (by simp) rfl (by decide) fun G hG hOw hNm hB => ?_; simp only [go_sem, hG, hOw]
  refine call_pureA (choose_ok bs hbs fr (by omega)) ?_
  simp (config := { maxSteps := 2000000 }) only [go_sem, hG, hOw, hoe]
  (repeat' first | with_reducible refine And.intro ?_ ?_ | with_reducible intro _ | with_reducible refine exP ?_ ?_); all_goals try omega
  refine semC_loop (fun x : Nat × List Ln × Int => St.of (wrF G.lo l bs fr x.1 x.2.1 x.2.2) [(99, .arr 78 1 (x.2.1.map (lnE G.lo)))])
    (fun x => x.1 ≤ l.length ∧ 0 ≤ x.2.2 ∧ x.2.1 ++ (wr bs fr l.length (l.drop x.1) x.1 x.2.1.length).1 = R ∧ x.2.2 + (wr bs fr l.length (l.drop x.1) x.1 x.2.1.length).2 = C) (fun x => l.length - x.1) (0, [], 0) ⟨by simp, by simp, by rw [hR]; rfl, by rw [hC]; simp [wrCost]⟩ (entA [(99, none)]) ?_
  rintro ⟨i, O, c⟩ ⟨hi, hc, hO, hC'⟩
  simp only at hi hc hO hC'
  have hOl : O.length ≤ 1000 := by have := congrArg List.length hO; rw [List.length_append] at this; omega
  by_cases hil : i < l.length
  · rw [List.drop_eq_getElem_cons hil] at hO hC'
    obtain ⟨a, ha⟩ : ∃ a, a = l[i] := ⟨_, rfl⟩
    rw [← ha] at hO hC'
    obtain ⟨ha1, ha2⟩ := hw _ (List.getElem_mem hil)
    rw [← ha] at ha1 ha2
    have wb := wr_bd bs fr l.length (l.drop (i + 1)) (i + 1)
    have hx := hch (fr + 3 * i + 1)
    have hy := hch (fr + 3 * i + 2)
    have hz := hch (fr + 3 * i + 3)
    have em2 : chooseI bs (fr + 3 * i + 2) % (a.length : Int) = ((wAtI bs fr i a : Nat) : Int) := by
      unfold wAtI
      rw [Int.natCast_emod, Int.toNat_of_nonneg hy.1]
    have hol : (wOwn bs fr i a).length = a.length := by unfold wOwn wSet; split <;> simp
    have htk : List.take a.length ((wOwn bs fr i a).map strE) = (wOwn bs fr i a).map strE := List.take_of_length_le (by simp [hol])
    have hwa : wAtI bs fr i a < a.length := Nat.mod_lt _ (by omega)
    have c1 := choose_ok bs hbs (fr + 3 * i + 1) (by omega)
    have c2 := choose_ok bs hbs (fr + 3 * i + 2) (by omega)
    have c3 := choose_ok bs hbs (fr + 3 * i + 3) (by omega)
    have hcb : c ≤ 800 := by have := (wr_bd bs fr l.length (a :: l.drop (i + 1)) i O.length).1; omega
    have hlt : (i : Int) < l.length := by omega
    refine SemL.semC ?_
    simp only [flat, List.cons_append, List.nil_append, List.append_assoc, List.take_succ_cons, List.take_zero, List.take_nil, List.drop_succ_cons, List.drop_zero]
    refine vcN_sound 2 _ _ ?_
    simp (config := { maxSteps := 2000000 }) only [go_sem, hG, hOw, hlt]
    (repeat' first | with_reducible refine And.intro ?_ ?_ | with_reducible intro _ | with_reducible refine exP ?_ ?_); all_goals try omega
    refine semL_blk ?_
    simp only [flat, List.cons_append, List.nil_append, List.append_assoc, List.take_succ_cons, List.take_zero, List.take_nil, List.drop_succ_cons, List.drop_zero]
    refine vcN_sound 2 _ _ ?_
    simp (config := { maxSteps := 2000000 }) only [go_sem, hG, hOw, ← ha]
    (repeat' first | with_reducible refine And.intro ?_ ?_ | with_reducible intro _ | with_reducible refine exP ?_ ?_); all_goals try omega
    refine call_pure c1 (by first | exact Subs.refl _ | (repeat' (first | exact Subs.nil | exact Sub.refl _ | exact Sub.lo (Nat.zero_le _) | refine Subs.cons ?_ ?_ | refine Subs.agg ?_ | refine Subs.fp ?_ | refine Subs.tup ?_ | refine Sub.map (Nat.zero_le _) (fun _ => ?_)))) (by first | rfl | simp [allP, all0, pureV, pure0, *]) (by simp [chk, hG]) ?_
    simp (config := { maxSteps := 2000000 }) only [go_sem, hG, hOw, ← ha]
    (repeat' first | with_reducible refine And.intro ?_ ?_ | with_reducible intro _ | with_reducible refine exP ?_ ?_); all_goals try omega
    refine semL_midN 2 (fun _ : Unit => St.of (wrF G.lo l bs fr i O c ++ [(11, i64 i), (12, strs 0 a), (13, i64 (chooseI bs (fr + 3 * i + 1)))]) [(99, .arr 78 1 (O.map (lnE G.lo)))]) (fun _ => wSkip bs fr l.length i = false) ?_ ?_
    · simp only [flat, List.cons_append, List.nil_append, List.append_assoc, List.take_succ_cons, List.take_zero, List.take_nil, List.drop_succ_cons, List.drop_zero]
      refine vcN_sound 3 _ _ ?_
      simp only [go_sem, hG, hOw]
      (repeat' first | with_reducible refine And.intro ?_ ?_ | with_reducible intro _ | with_reducible refine exP ?_ ?_); all_goals try omega
      · have hs : wSkip bs fr l.length i = true := by simp only [wSkip, Bool.and_eq_true, decide_eq_true_eq]; omega
        rw [wr_skip hs] at hO hC'
        simp only at hO hC'
        refine vcN_sound 2 _ _ ?_
        simp only [go_sem, hG, hOw]
        (repeat' first | with_reducible refine And.intro ?_ ?_ | with_reducible intro _ | with_reducible refine exP ?_ ?_); all_goals try omega
        exact ⟨(i + 1, O, c + 1), ⟨by simp only; omega, by simp only; omega, hO, by simp only; omega⟩, by simp only; omega, entA [(99, some 99)]⟩
      · refine ⟨(), ?_, entA [(99, some 99)]⟩
        cases h : wSkip bs fr l.length i with
        | false => rfl
        | true => simp only [wSkip, Bool.and_eq_true, decide_eq_true_eq] at h; omega
      · refine ⟨(), ?_, entA [(99, some 99)]⟩
        cases h : wSkip bs fr l.length i with
        | false => rfl
        | true => simp only [wSkip, Bool.and_eq_true, decide_eq_true_eq] at h; omega
    rintro ⟨⟩ hskip
    simp only [flat, List.cons_append, List.nil_append, List.append_assoc, List.take_succ_cons, List.take_zero, List.take_nil, List.drop_succ_cons, List.drop_zero]
    refine vcN_sound 2 _ _ ?_
    simp only [go_sem, hG, hOw]
    (repeat' first | with_reducible refine And.intro ?_ ?_ | with_reducible intro _ | with_reducible refine exP ?_ ?_); all_goals try omega
    refine semL_mid (fun _ : Unit => St.of (wrF G.lo l bs fr i O (c + wCost bs fr i) ++ [(11, i64 i), (12, strs 0 a), (14, strs G.lo (wOwn bs fr i a))]) [(99, .arr 78 1 (O.map (lnE G.lo)))]) (fun _ => True) ?_ ?_
    · refine vc_sound _ _ _ ?_
      simp only [go_sem, hG, hOw]
      (repeat' first | with_reducible refine And.intro ?_ ?_ | with_reducible intro _ | with_reducible refine exP ?_ ?_); all_goals try omega
      · refine call_pure c2 (by first | exact Subs.refl _ | (repeat' (first | exact Subs.nil | exact Sub.refl _ | exact Sub.lo (Nat.zero_le _) | refine Subs.cons ?_ ?_ | refine Subs.agg ?_ | refine Subs.fp ?_ | refine Subs.tup ?_ | refine Sub.map (Nat.zero_le _) (fun _ => ?_)))) (by first | rfl | simp [allP, all0, pureV, pure0, *]) (by simp [chk, hG]) ?_
        simp (config := { maxSteps := 2000000 }) only [go_sem, hG, hOw, em2]
        (repeat' first | with_reducible refine And.intro ?_ ?_ | with_reducible intro _ | with_reducible refine exP ?_ ?_); all_goals try omega
        · rename_i hb hrd
          have hbd : wBad bs fr i = true := by simp [wBad, hb]
          have ew : (a.map strE).set (wAtI bs fr i a) [.v (.string ⟨#[119, 114, 111, 110, 103]⟩)] = (wOwn bs fr i a).map strE := by
            unfold wOwn wSet
            rw [if_pos hbd, List.getElem?_eq_getElem hwa, if_pos (by rw [hrd]; rfl), List.map_set]; rfl
          have ec : wCost bs fr i = 1 := by unfold wCost; rw [if_pos hbd]
          rw [ec]
          refine ⟨(), ent_frz (fun i => i == 48) ?_⟩
          exact entA [(99, some 99)] (by (simp only [go_sem]) <;> simp [ew,htk]) (by (simp only [go_sem, entH, entH1, nilArr, obOK]) <;> simp [ew,htk])
        · rename_i hb hrd
          have hbd : wBad bs fr i = true := by simp [wBad, hb]
          have ew : (a.map strE).set (wAtI bs fr i a) [.v (.string ⟨#[114, 101, 97, 100]⟩)] = (wOwn bs fr i a).map strE := by
            unfold wOwn wSet
            rw [if_pos hbd, List.getElem?_eq_getElem hwa, if_neg (by intro h; exact hrd (Option.some.inj h)), List.map_set]; rfl
          have ec : wCost bs fr i = 1 := by unfold wCost; rw [if_pos hbd]
          rw [ec]
          refine ⟨(), ent_frz (fun i => i == 48) ?_⟩
          exact entA [(99, some 99)] (by (simp only [go_sem]) <;> simp [ew,htk]) (by (simp only [go_sem, entH, entH1, nilArr, obOK]) <;> simp [ew,htk])
      · rename_i hb
        have hbd : ¬ wBad bs fr i = true := by simp [wBad, hb]
        have ew : wOwn bs fr i a = a := by unfold wOwn; rw [if_neg hbd]
        have ec : wCost bs fr i = 0 := by unfold wCost; rw [if_neg hbd]
        rw [ec, ew, Int.add_zero]
        refine ⟨(), ent_frz (fun i => i == 48) ?_⟩
        exact entA [(99, some 99)]
    rintro ⟨⟩ -
    have hcost := wCost_bd bs fr i
    refine vcN_sound 2 _ _ ?_
    simp only [go_sem, hG, hOw]
    (repeat' first | with_reducible refine And.intro ?_ ?_ | with_reducible intro _ | with_reducible refine exP ?_ ?_); all_goals try omega
    refine call_pure c3 (by first | exact Subs.refl _ | (repeat' (first | exact Subs.nil | exact Sub.refl _ | exact Sub.lo (Nat.zero_le _) | refine Subs.cons ?_ ?_ | refine Subs.agg ?_ | refine Subs.fp ?_ | refine Subs.tup ?_ | refine Sub.map (Nat.zero_le _) (fun _ => ?_)))) (by first | rfl | simp [allP, all0, pureV, pure0, *]) (by simp [chk, hG]) ?_
    simp only [go_sem, hG, hOw]
    (repeat' first | with_reducible refine And.intro ?_ ?_ | with_reducible intro _ | with_reducible refine exP ?_ ?_); all_goals try omega
    all_goals refine vcN_sound 2 _ _ ?_
    all_goals simp only [go_sem, hG, hOw]
    all_goals (repeat' first | with_reducible refine And.intro ?_ ?_ | with_reducible intro _ | with_reducible refine exP ?_ ?_); all_goals try omega
    all_goals refine vcN_sound 2 _ _ ?_
    all_goals simp only [go_sem, hG, hOw]
    all_goals (repeat' first | with_reducible refine And.intro ?_ ?_ | with_reducible intro _ | with_reducible refine exP ?_ ?_); all_goals try omega
    · rename_i hz1 hz2
      have hrp : wRep bs fr l.length i (O.length + 1) = true := by simp only [wRep, Bool.and_eq_true, decide_eq_true_eq]; omega
      rw [wr_two hskip hrp] at hO hC'
      simp only at hO hC'
      refine ⟨(i + 1, O ++ [wOwn bs fr i a, a], c + wCost bs fr i + 1), ⟨by simp only; omega, by simp only; omega, ?_, ?_⟩, by simp only; omega, ?_⟩
      · simp only [List.length_append, List.length_cons, List.length_nil, Nat.zero_add, Nat.reduceAdd]
        rw [List.append_assoc]; exact hO
      · simp only [List.length_append, List.length_cons, List.length_nil, Nat.zero_add, Nat.reduceAdd]
        omega
      · exact entA [(99, some 105)] (by (simp only [go_sem]) <;> simp [lnE,strs]) (by (simp only [go_sem, entH, entH1, nilArr, obOK]) <;> simp [lnE,strs])
    · rename_i hz1 hz2
      have hrp : wRep bs fr l.length i (O.length + 1) = false := by
        cases h : wRep bs fr l.length i (O.length + 1) with
        | false => rfl
        | true => simp only [wRep, Bool.and_eq_true, decide_eq_true_eq] at h; omega
      rw [wr_one hskip hrp] at hO hC'
      simp only at hO hC'
      refine ⟨(i + 1, O ++ [wOwn bs fr i a], c + wCost bs fr i), ⟨by simp only; omega, by simp only; omega, ?_, ?_⟩, by simp only; omega, ?_⟩
      · simp only [List.length_append, List.length_cons, List.length_nil, Nat.zero_add, Nat.reduceAdd]
        rw [List.append_assoc]; exact hO
      · simp only [List.length_append, List.length_cons, List.length_nil, Nat.zero_add, Nat.reduceAdd]
        omega
      · exact entA [(99, some 79)] (by (simp only [go_sem]) <;> simp [lnE,strs]) (by (simp only [go_sem, entH, entH1, nilArr, obOK]) <;> simp [lnE,strs])
    · rename_i hz1
      have hrp : wRep bs fr l.length i (O.length + 1) = false := by
        cases h : wRep bs fr l.length i (O.length + 1) with
        | false => rfl
        | true => simp only [wRep, Bool.and_eq_true, decide_eq_true_eq] at h; omega
      rw [wr_one hskip hrp] at hO hC'
      simp only at hO hC'
      refine ⟨(i + 1, O ++ [wOwn bs fr i a], c + wCost bs fr i), ⟨by simp only; omega, by simp only; omega, ?_, ?_⟩, by simp only; omega, ?_⟩
      · simp only [List.length_append, List.length_cons, List.length_nil, Nat.zero_add, Nat.reduceAdd]
        rw [List.append_assoc]; exact hO
      · simp only [List.length_append, List.length_cons, List.length_nil, Nat.zero_add, Nat.reduceAdd]
        omega
      · exact entA [(99, some 79)] (by (simp only [go_sem]) <;> simp [lnE,strs]) (by (simp only [go_sem, entH, entH1, nilArr, obOK]) <;> simp [lnE,strs])
  · obtain rfl : i = l.length := by omega
    rw [List.drop_length] at hO hC'
    simp only [wr, List.append_nil, Int.add_zero] at hO hC'
    subst hO
    subst hC'
    refine vc_sound _ _ _ ?_; simp only [go_sem, hG, hOw]
    (repeat' first | with_reducible refine And.intro ?_ ?_ | with_reducible intro _ | with_reducible refine exP ?_ ?_); all_goals try omega
    all_goals exact .refl _
end Go.Proofs.YtfnohnjnncjidaaGreatDoor
