import Derived.Test.YtphadkcpgnkpfaaGreatDoorQT23
import Derived.Test.YtphadkcpgnkpfaaGreatDoorQT28
import Derived.Test.YtphadkcpgnkpfaaGreatDoorQT35
namespace Go.Proofs.YtphadkcpgnkpfaaGreatDoor
open Go Pm Go.RowKit Go.Sort
set_option linter.unusedSimpArgs false
set_option linter.unusedVariables false
set_option maxRecDepth 100000
set_option maxHeartbeats 4000000
def strC (l : List ByteArray) : List V := l.map fun s => .v (.string s)
theorem strC_nil : strC [] = [] := rfl
theorem strC_cons (s : ByteArray) (l : List ByteArray) : strC (s :: l) = .v (.string s) :: strC l := rfl
attribute [go_sem] strC_nil strC_cons
theorem below_setCells {B b : Nat} {w0 : World} (hb : B ≤ b) : ∀ (vs : List Value) (o : Nat) (w : World), Below B w0 w → Below B w0 (w.setCells b o vs)
  | [], _, _, h => h
  | v :: r, o, w, h => below_setCells hb r (o + 1) _ (h.setCell (p := ⟨b, o, none⟩) hb v)
theorem zc_size (n : Nat) : (Builtin.zeroCells (Value.string ⟨#[]⟩).cells n).size = n := by simp [Builtin.zeroCells, Value.cells]
def insW (w : World) (cap : Nat) (x : Value) (cs : List Value) : World :=
  (((w.alloc (.cells ((cs.take 0).toArray ++ Builtin.zeroCells (Value.string ⟨#[]⟩).cells (cs.length + 1 - 0) ++ Builtin.zeroCells (Value.string ⟨#[]⟩).cells (cap - (cs.length + 1))) 9)).drew.setCells w.heap.size 0 [x]).drew).setCells w.heap.size (0 + 1) (cs.drop 0)
theorem insW_ok (w : World) (cap : Nat) (x : ByteArray) (cs : List ByteArray) :
    Below w.heap.size w (insW w cap (.string x) (cs.map .string)) ∧ w.heap.size < (insW w cap (.string x) (cs.map .string)).heap.size ∧ ∀ j v, (x :: cs)[j]? = some v → cellA (insW w cap (.string x) (cs.map .string)) ⟨w.heap.size, j, none⟩ (.string v) := by
  have hb1 : Below w.heap.size w (w.alloc (.cells ((([] : List Value)).toArray ++ Builtin.zeroCells (Value.string ⟨#[]⟩).cells (cs.length + 1 - 0) ++ Builtin.zeroCells (Value.string ⟨#[]⟩).cells (cap - (cs.length + 1))) 9)) := (Below.refl _ w).alloc (Nat.le_refl _) _
  have e0 : insW w cap (.string x) (cs.map .string) = ((((w.alloc (.cells ((([] : List Value)).toArray ++ Builtin.zeroCells (Value.string ⟨#[]⟩).cells (cs.length + 1 - 0) ++ Builtin.zeroCells (Value.string ⟨#[]⟩).cells (cap - (cs.length + 1))) 9)).drew.setCells w.heap.size 0 [.string x]).drew).setCells w.heap.size (0 + 1) (cs.map .string)) := by
    unfold insW; rw [List.length_map, List.take_zero, List.drop_zero]
  rw [e0]
  generalize hA : (([] : List Value)).toArray ++ Builtin.zeroCells (Value.string ⟨#[]⟩).cells (cs.length + 1 - 0) ++ Builtin.zeroCells (Value.string ⟨#[]⟩).cells (cap - (cs.length + 1)) = A at *
  have hAs : cs.length + 1 ≤ A.size := by rw [← hA, Array.size_append, Array.size_append, zc_size, zc_size]; simp
  have hw1 : (w.alloc (.cells A 9)).heap[w.heap.size]? = some (.cells A 9 (0, 0)) := heap_new w _
  generalize hW : w.alloc (.cells A 9) = W at *
  have hcell : ∀ j, j < A.size → (W.cell? ⟨w.heap.size, j, none⟩).isSome = true := fun j hj => by rw [cell_of_row _ _ _ _ _ _ hw1]; simp [hj]
  have hfr : ∀ j, W.frozen? ⟨w.heap.size, j, none⟩ = false := fun j => by simp [World.frozen?, hw1]
  have hB : Below w.heap.size w (((W.drew.setCells w.heap.size 0 [.string x]).drew).setCells w.heap.size (0 + 1) (cs.map .string)) := below_setCells (Nat.le_refl _) _ _ _ (below_setCells (Nat.le_refl _) _ _ _ hb1.drew).drew
  have hcell2 : ∀ j, j < A.size → ((W.drew.setCells w.heap.size 0 [Value.string x]).drew.cell? ⟨w.heap.size, j, none⟩).isSome = true := fun j hj => by
    show ((W.drew.setCells w.heap.size 0 [Value.string x]).cell? ⟨w.heap.size, j, none⟩).isSome = true
    cases j with
    | zero =>
      have := World.cell?_setCells_in w.heap.size [Value.string x] 0 W.drew (fun j hj => by simp at hj; subst hj; exact hcell 0 (by omega)) 0 (by simp)
      simp only [Nat.zero_add] at this
      rw [this]; rfl
    | succ j =>
      rw [World.cell?_setCells_out w.heap.size [Value.string x] 0 W.drew _ (fun _ _ => .inr (by simp))]
      exact hcell (j + 1) hj
  refine ⟨hB, ?_, fun j v hv => ⟨?_, fun _ => ?_⟩⟩
  · have h1 : ((((W.drew.setCells w.heap.size 0 [.string x]).drew).setCells w.heap.size (0 + 1) (cs.map .string)).cell? ⟨w.heap.size, 0, none⟩).isSome = true := by
      rw [World.cell?_setCells_out w.heap.size _ (0 + 1) _ _ (fun _ _ => .inl (by simp))]
      exact hcell2 0 (by omega)
    obtain ⟨u, hu⟩ := Option.isSome_iff_exists.1 h1
    exact Lib.lt_of_cell hu
  · cases j with
    | zero =>
      simp at hv; subst hv
      rw [World.cell?_setCells_out w.heap.size _ (0 + 1) _ _ (fun _ _ => .inl (by simp))]
      show (W.drew.setCells w.heap.size 0 [Value.string x]).cell? ⟨w.heap.size, 0, none⟩ = _
      have := World.cell?_setCells_in w.heap.size [Value.string x] 0 W.drew (fun j hj => by simp at hj; subst hj; exact hcell 0 (by omega)) 0 (by simp)
      simpa using this
    | succ j =>
      simp at hv
      have hj : j < cs.length := (List.getElem?_eq_some_iff.1 hv).1
      have hvj : cs[j] = v := (List.getElem?_eq_some_iff.1 hv).2
      have := World.cell?_setCells_in w.heap.size (cs.map Value.string) (0 + 1) (W.drew.setCells w.heap.size 0 [Value.string x]).drew (fun i hi => hcell2 _ (by simp at hi; omega)) j (by simpa using hj)
      rw [show j + 1 = 0 + 1 + j by omega, this]
      simp [hvj]
  · rw [World.frozen?_setCells]
    show (W.drew.setCells w.heap.size 0 [Value.string x]).frozen? _ = false
    rw [World.frozen?_setCells]
    exact hfr j
theorem insert_call {G : Gh} {o : Oper} {s : St} {Q : Exit → St → Prop} {rest : St → Prop} (id lo' : Nat) (cs : List ByteArray) (x : ByteArray) (hb : s.hget id = some (.box (strC cs))) (hne : 0 < cs.length) (hl : cs.length ≤ 1000) (hc : chk G.n o.dst)
    (h : rest (putD s o.dst (strs G.lo (x :: cs)))) : SemCall Tryz.prog G o s Q rest (.fn (.func 55) []) [.own id 0 cs.length 1, i64 0, strs lo' [x]] := by
  rintro xo l ts ho hx has a w ⟨E, hE⟩
  obtain ⟨ys, hy, hsz, hr⟩ := R.fn_inv (ev_E hE hx.symm)
  have hl3 : l.length = 3 := by have := congrArg List.length has; simpa using this.symm
  match l, hl3, has with
  | [o1, o2, o3], _, has =>
    simp only [List.map_cons, List.map_nil, List.cons.injEq, and_true] at has
    obtain ⟨e1, e2, e3⟩ := has
    have q2 := R.v_inv (ev_E hE e2.symm)
    obtain ⟨b, K, C, hEi, hle, hKC, hv⟩ := R.own_inv (ev_E hE e1.symm)
    obtain ⟨b1, K1, C1, h1, b', zs, t, hb', hh, hzs, hK, hKC', hrr⟩ := hE.hp id _ hb
    rw [hEi] at h1
    cases h1
    cases hb'
    have hcl : (strC cs).length = cs.length := by simp [strC]
    obtain ⟨o', ho', hy1⟩ := hv
    have ho0 : o' = 0 := by rw [ho' (.inr rfl)]
    subst ho0
    have hC : C - 0 = cs.length := by omega
    rw [hC] at hy1
    have q3 := (ev_E hE e3.symm).pure0 rfl
    generalize hY3 : a.eval o3 = y3 at q3
    cases q3 with
    | lst _ _ _ ad n3 cap3 b3 of3 g3 hlo3 hn3 hc3 hl3' ha3 hs3 hz3 hr3 =>
    simp only [List.map_cons, List.map_nil, List.length_cons, List.length_nil] at hn3
    subst hn3
    obtain ⟨rfl, hO3, hb3⟩ := ha3 (by simp)
    have hg3 : g3 0 0 = .string x := by
      have := hr3 0 [.v (.string x)] 0 (.v (.string x)) rfl rfl
      generalize g3 0 0 = z at this
      cases this; rfl
    have hcell3 : w.cell? ⟨b3, of3, none⟩ = some (.string x) := by
      have := (hs3 0 [.v (.string x)] 0 (.v (.string x)) rfl rfl).1
      rw [hg3] at this
      simpa using this
    have hzcell : ∀ j v, (cs.map Value.string)[j]? = some v → w.cell? ⟨b', 0 + j, none⟩ = some v := fun j v hj => by
      simp only [List.getElem?_map, Option.map_eq_some_iff] at hj
      obtain ⟨c, hcj, rfl⟩ := hj
      have hjl : j < cs.length := (List.getElem?_eq_some_iff.1 hcj).1
      rw [cell_of_row _ _ _ _ _ _ hh, Nat.zero_add]
      have hjz : j < zs.size := by omega
      have hz : zs[j]? = some zs[j] := Array.getElem?_eq_getElem hjz
      have := R.v_inv (hrr j (.v (.string c)) zs[j] (by simp [strC, hcj]) hz)
      rw [hz, this]
    have hcalls := Any2.slices_Insert_string_grow Tryz.laysNm222 b' 0 cs.length cs.length 0 b3 of3 1 cap3 (cs.map Value.string) [.string x] w (by omega) (by omega) (Nat.le_refl _) (by omega) (by omega) (by simp) (by simp) hzcell
      (fun j v hj => by
        match j with
        | 0 => simp at hj; subst hj; simpa using hcell3
        | j + 1 => simp at hj) (fun v hv => by
        simp only [List.mem_map] at hv
        obtain ⟨c, _, rfl⟩ := hv
        rfl) (fun v hv => by simp at hv; subst hv; rfl)
    have hys0 : ys = #[] := by
      apply Array.eq_empty_of_size_eq_zero
      simpa using hsz
    have hargs : ([o1, o2, o3].map a.eval).toArray ++ ys = #[.slice (some ⟨b', 0, none⟩) cs.length cs.length, .int .i64 (0 : Nat), .slice (some ⟨b3, of3, none⟩) 1 cap3] := by
      rw [hys0]
      simp [hy1, q2, hY3]
    refine wp_call ho ⟨_, Tryz.func55, by decide, by kernel_rfl⟩ hy (by rw [hargs]; exact hcalls) ?_
    rintro e w' ⟨rfl, hw⟩
    obtain ⟨g1, g2, g3'⟩ := insW_ok w (grownCap w (cs.length + 1) cs.length 9) x cs
    have hw' : w' = insW w (grownCap w (cs.length + 1) cs.length 9) (.string x) (cs.map .string) := by
      rw [hw]
      unfold insW
      rw [List.length_map]
      rfl
    rw [← hw'] at g1 g2 g3'
    refine ⟨_, rfl, _, h, E, (hE.below g1).put (chk_spec hc) (.r0 _ _ ?_)⟩
    refine .lst G.lo 1 _ _ _ _ w.heap.size 0 (fun i j => .string ((x :: cs).getD i ByteArray.empty)) (fun _ => Nat.le_trans G.hlo hE.grow) (by simp) (by rw [List.length_map, List.length_cons]; exact grownCap_ge w (cs.length + 1) cs.length 9) (by simp; omega)
      (fun _ => ⟨rfl, fun hc => Nat.lt_irrefl _ (OT_lt hE _ hc), g2⟩) (fun i y j u h1 h2 => ?_) (fun y hy => ?_) fun i y j u h1 h2 => ?_
    · rw [List.getElem?_map, Option.map_eq_some_iff] at h1
      obtain ⟨c, hc, rfl⟩ := h1
      match j with
      | 0 =>
        have := g3' i c hc
        simp only [Nat.zero_add, Nat.mul_one, Nat.add_zero, List.getD, hc, Option.getD_some]
        exact this
      | j + 1 => simp [strE] at h2
    · simp only [List.mem_map] at hy
      obtain ⟨c, _, rfl⟩ := hy
      rfl
    · rw [List.getElem?_map, Option.map_eq_some_iff] at h1
      obtain ⟨c, hc, rfl⟩ := h1
      match j with
      | 0 =>
        simp [strE] at h2
        subst h2
        simp only [List.getD, hc, Option.getD_some]
        exact .v _
      | j + 1 => simp [strE] at h2
theorem written_ok (x : ByteArray) (cs : List ByteArray) (hne : 0 < cs.length) (hl : cs.length ≤ 900) (hx : x.size ≤ 100000) (hs : ∀ s ∈ cs, s.size ≤ 100000) :
    Tri Tryz.prog 21 [str x, .own 0 0 cs.length 1] [(0, .box (strC cs))] (fun _ => .ret (str (joinS (x :: cs))) []) := by
  refine tri_intro (fun _ => false) Tryz.func21 Tryz.ntmps21 rfl (by kernel_rfl) (by simp) rfl (by decide) fun G hG hOw hNm => ?_; simp only [go_sem, hG, hOw]
  (repeat' with_reducible first | refine And.intro ?_ ?_ | intro _ | refine exP ?_ ?_); all_goals try omega
  refine insert_call 0 _ cs x (by simp [go_sem]) hne (by omega) (by simp [chk, hG]) ?_
  simp only [go_sem, hG, hOw]
  refine call_pureA (Join_ok (x :: cs) (by simp; omega) (by simpa using ⟨hx, hs⟩)) ?_
  simp only [go_sem, hG, hOw]
  (repeat' with_reducible first | refine And.intro ?_ ?_ | intro _ | refine exP ?_ ?_); all_goals try omega
  exact ⟨[], by (simp only [EndT, go_sem, entH, entH1, nilArr, obOK, apart, injR, coverR]) <;> simp⟩
open Go Pm Go.RowKit Go.Sort
set_option maxRecDepth 100000
set_option maxHeartbeats 4000000
theorem numB_size {n : Int} (h0 : 0 ≤ n) (h1 : n ≤ 9999) : (numB n).size ≤ 4 := by
  have := valueU_itoa n h0 h1
  unfold valueU at this
  split at this
  · rename_i h; rw [numB, bA_size]; exact h.2.1
  · cases this
theorem inB_iff {n lo hi : Int} : inB n lo hi = true ↔ lo ≤ n ∧ n ≤ hi := by simp [inB]
def atS (a b c : Int) : ByteArray := joinS [numB a, numB b, numB c]
def in9 (n : Int) : Prop := 0 ≤ n ∧ n ≤ 9999
theorem at_ok (a b c : Int) (ha : in9 a) (hb : in9 b) (hc : in9 c) : Gives Tryz.prog 41 [.agg [i64 a, i64 b, i64 c]] (fun _ => str (atS a b c)) := by
  have sa := numB_size ha.1 ha.2
  have sb := numB_size hb.1 hb.2
  have sc := numB_size hc.1 hc.2
  refine pure_intro (ow := fun i => [12,1000012].contains i) Tryz.func41 Tryz.ntmps41 rfl (by kernel_rfl) (by simp) rfl (by decide) fun G hG hOw hNm hB => ?_; simp only [go_sem, hG, hOw]
  (repeat' with_reducible first | refine And.intro ?_ ?_ | intro _ | refine exP ?_ ?_); all_goals try omega
  refine semC_draw ⟨[12], [], []⟩ [(0, false), (1, false), (2, false), (3, false), (4, false), (5, false), (6, false), (7, false), (8, false), (9, false), (10, true), (11, false)] mixed (by kernel_rfl) ?_
  simp only [pickO, List.getElem?_cons_zero, List.getElem?_cons_succ]
  simp only [go_sem, hG, hOw]
  (repeat' with_reducible first | refine And.intro ?_ ?_ | intro _ | refine exP ?_ ?_); all_goals try omega
  refine ⟨_, callGivesA (Itoa_ok a ha.1 ha.2), ?_⟩
  simp only [go_sem, hG, hOw]
  (repeat' with_reducible first | refine And.intro ?_ ?_ | intro _ | refine exP ?_ ?_); all_goals try omega
  refine ⟨_, callGivesA (Itoa_ok b hb.1 hb.2), ?_⟩
  simp only [go_sem, hG, hOw]
  (repeat' with_reducible first | refine And.intro ?_ ?_ | intro _ | refine exP ?_ ?_); all_goals try omega
  refine ⟨_, callGivesA (Itoa_ok c hc.1 hc.2), ?_⟩
  simp only [go_sem, hG, hOw]
  (repeat' with_reducible first | refine And.intro ?_ ?_ | intro _ | refine exP ?_ ?_); all_goals try omega
  refine call_tri [(0, 12)] [] (written_ok (numB a) [numB b, numB c] (by simp) (by simp) (by omega) (by simp; omega)) (by (simp only [go_sem]) <;> simp) (by (simp only [go_sem, entH, entH1, nilArr, obOK]) <;> simp) (by simp [injR, apart, toR]) (by simp [coverR, usH, toR]) (by simp [uniqP, lkR, toR]) (by simp [chk, hG]) ?_
  simp only [go_sem, hG, hOw]
  (repeat' with_reducible first | refine And.intro ?_ ?_ | intro _ | refine exP ?_ ?_); all_goals try omega
  rfl
def lineR (l : List ByteArray) : ByteArray := joinS [lineS, joinS l]
def chapR (c : Ch) : List ByteArray := joinS [chapterS, numB c.id] :: c.lines.map lineR
def ofTextL (t : List Ch) : List ByteArray := t.flatMap chapR
theorem ofText_succ (t : List Ch) (k : Nat) (hk : k < t.length) : ofTextL (t.take (k + 1)) = ofTextL (t.take k) ++ chapR t[k] := by
  unfold ofTextL
  rw [List.take_add_one, List.getElem?_eq_getElem hk, List.flatMap_append]
  simp
theorem allPre_all {f : List Ch → Ch → Bool} {p : Ch → Prop} (h : ∀ pre c, f pre c = true → p c) : ∀ (t pre : List Ch), allPre f pre t = true → ∀ c ∈ t, p c
  | [], _, _ => by simp
  | c :: r, pre, ht => by
    simp only [allPre, Bool.and_eq_true] at ht
    intro d hd
    rcases List.mem_cons.1 hd with rfl | hd
    · exact h _ _ ht.1
    · exact allPre_all h r _ ht.2 d hd
theorem wordB_size {s : ByteArray} (h : wordB s = true) : 1 ≤ s.size ∧ s.size ≤ 12 := by
  simp only [wordB, Bool.and_eq_true, inB_iff] at h; omega
structure VCh (c : Ch) : Prop where
  id : in9 c.id
  len : 1 ≤ c.lines.length ∧ c.lines.length ≤ 10
  ln : ∀ l ∈ c.lines, (1 ≤ l.length ∧ l.length ≤ 10) ∧ ∀ s ∈ l, wordB s = true
theorem chapB_v {pre : List Ch} {c : Ch} (h : chapB pre c = true) : VCh c := by
  simp only [chapB, Bool.and_eq_true, inB_iff, List.all_eq_true, lineB] at h
  obtain ⟨⟨⟨h1, h2⟩, h3⟩, h4⟩ := h
  exact ⟨h1, by omega, fun l hl => ⟨by have := (h4 l hl).1; omega, (h4 l hl).2⟩⟩
theorem text_v {t : List Ch} (h : textB t = true) : (1 ≤ t.length ∧ t.length ≤ 6) ∧ ∀ c ∈ t, VCh c := by
  simp only [textB, Bool.and_eq_true, inB_iff] at h
  exact ⟨by omega, fun c hc => allPre_all (p := VCh) (fun _ _ => chapB_v) t [] h.2 c hc⟩
theorem line_size {l : List ByteArray} (h : (1 ≤ l.length ∧ l.length ≤ 10) ∧ ∀ s ∈ l, wordB s = true) : (joinS l).size ≤ 130 := by
  have h1 := join_le 12 l fun s hs => (wordB_size (h.2 s hs)).2
  rw [join_size]
  have : (12 + 1) * l.length ≤ 13 * 10 := Nat.mul_le_mul_left _ h.1.2
  omega
theorem ofText_len {t : List Ch} (h6 : t.length ≤ 6) (hv : ∀ c ∈ t, c.lines.length ≤ 10) : (ofTextL t).length ≤ 66 := by
  have : ∀ t : List Ch, (∀ c ∈ t, c.lines.length ≤ 10) → (ofTextL t).length ≤ 11 * t.length := by
    intro t
    induction t with
    | nil => simp [ofTextL]
    | cons c r ih =>
      intro h
      have h1 := ih fun d hd => h d (by simp [hd])
      have h2 := h c (by simp)
      simp only [ofTextL, List.flatMap_cons, List.length_append, chapR, List.length_cons, List.length_map] at h1 ⊢
      omega
  have := this t hv
  omega
theorem rows_step (pre : List ByteArray) (r : ByteArray) (ls : List (List ByteArray)) : ∃ M : Nat → List ByteArray, M 0 = pre ++ [r] ∧ (∀ j (h : j < ls.length), M (j + 1) = M j ++ [lineR ls[j]]) ∧ M ls.length = pre ++ r :: ls.map lineR ∧ ∀ j, j ≤ ls.length → (M j).length = pre.length + 1 + j := by
  refine ⟨fun j => pre ++ r :: (ls.take j).map lineR, by simp, fun j h => ?_, by simp, fun j h => by simp; omega⟩
  simp only [take_snoc_map lineR ls j h]
  simp
theorem OfText_ok (t : List Ch) : Gives Tryz.prog 9 [txE 0 t] (fun n => .tup [strs n (if textB t then ofTextL t else []), i64 (if textB t then 0 else 10)]) := by
  refine pure_intro (ow := fun i => [26,40,1000026,1000040].contains i) Tryz.func9 Tryz.ntmps9 rfl (by kernel_rfl) (by simp) rfl (by decide) fun G hG hOw hNm hB => ?_; simp only [go_sem, hG, hOw]
  refine call_pureA (LCheck_ok t) ?_
  cases ht : textB t with
  | false =>
    simp only [go_sem, hG, hOw]
    (repeat' with_reducible first | refine And.intro ?_ ?_ | intro _ | refine exP ?_ ?_); all_goals try omega
    exact Subs.tup (.cons (.nil _ _) (.cons (.refl _) .nil))
  | true =>
    obtain ⟨ht1, ht2⟩ := text_v ht
    have hlen : ∀ k, (ofTextL (t.take k)).length ≤ 66 := fun k => ofText_len (by simp; omega) fun c hc => (ht2 c (List.mem_of_mem_take hc)).len.2
    simp only [go_sem, hG, hOw]
    (repeat' with_reducible first | refine And.intro ?_ ?_ | intro _ | refine exP ?_ ?_); all_goals try omega
    refine semC_loop (fun k : Nat => St.of [(1, .ptr 1 0), (5, .own 100 0 (ofTextL (t.take k)).length 1), (16, chs 0 t), (17, i64 t.length), (18, i64 k)] [(1, .box [chs 0 t]), (100, .arr 9 1 ((ofTextL (t.take k)).map strE))]) (fun k => k ≤ t.length) (fun k => t.length - k) 0 (by simp) (by simp only [List.take_zero, ofTextL, List.flatMap_nil]; exact entA [(1, some 1), (100, none)]) ?_
    rintro k hk
    refine vc_sound _ _ _ ?_; simp only [go_sem, hG, hOw]
    (repeat' with_reducible first | refine And.intro ?_ ?_ | intro _ | refine exP ?_ ?_); all_goals try omega
    · rename_i hlt
      have hkl : k < t.length := by omega
      obtain ⟨hid, hcl, hln⟩ := ht2 _ (List.getElem_mem hkl)
      have hsz := numB_size hid.1 hid.2
      refine call_pureA (Itoa_ok t[k].id hid.1 hid.2) ?_
      simp only [go_sem, hG, hOw]
      (repeat' with_reducible first | refine And.intro ?_ ?_ | intro _ | refine exP ?_ ?_); all_goals try omega
      refine call_tri [(0, 26)] [] (written_ok chapterS [numB t[k].id] (by simp) (by simp) (by decide) (by simp; omega)) (by (simp only [go_sem]) <;> simp [chapterS]) (by (simp only [go_sem, entH, entH1, nilArr, obOK]) <;> simp [chapterS]) (by simp [injR, apart, toR]) (by simp [coverR, usH, toR, chapterS]) (by simp [uniqP, lkR, toR]) (by simp [chk, hG]) ?_
      simp only [go_sem, hG, hOw]
      have hl66 := hlen k
      (repeat' with_reducible first | refine And.intro ?_ ?_ | intro _ | refine exP ?_ ?_); all_goals try omega
      obtain ⟨M, hM0, hMs, hMe, hMl⟩ := rows_step (ofTextL (t.take k)) (joinS [chapterS, numB t[k].id]) t[k].lines
      have hMe' : M t[k].lines.length = ofTextL (t.take (k + 1)) := by rw [hMe, ofText_succ t k hkl]; rfl
      refine semC_cutN (fun _ : Unit => St.of [(1, .ptr 1 0), (5, .own 100 0 (ofTextL (t.take (k + 1))).length 1), (16, chs 0 t), (17, i64 t.length), (18, i64 k)] [(1, .box [chs 0 t]), (100, .arr 9 1 ((ofTextL (t.take (k + 1))).map strE))]) (fun _ => True) ?_ ?_
      · refine semC_loop (fun j : Nat => St.of [(1, .ptr 1 0), (5, .own 200 0 (M j).length 1), (16, chs 0 t), (17, i64 t.length), (18, i64 k), (31, lns 0 t[k].lines), (32, i64 t[k].lines.length), (33, i64 j)] [(1, .box [chs 0 t]), (200, .arr 9 1 ((M j).map strE))]) (fun j => j ≤ t[k].lines.length) (fun j => t[k].lines.length - j) 0 (by simp) (by simp only [hM0]; exact entA [(1, some 1), (200, some 29)] (by (simp only [go_sem]) <;> simp [strE]) (by (simp only [go_sem, entH, entH1, nilArr, obOK]) <;> simp [strE])) ?_
        rintro j hj
        have hMj := hMl j hj
        refine vc_sound _ _ _ ?_; simp only [go_sem, hG, hOw]
        (repeat' with_reducible first | refine And.intro ?_ ?_ | intro _ | refine exP ?_ ?_); all_goals try omega
        · rename_i hlt2
          have hjl : j < t[k].lines.length := by omega
          have hlj := hln _ (List.getElem_mem hjl)
          have hs2 := line_size hlj
          refine call_pureA (Join_ok t[k].lines[j] (by omega) fun s hs => by have := wordB_size (hlj.2 s hs); omega) ?_
          simp only [go_sem, hG, hOw]
          (repeat' with_reducible first | refine And.intro ?_ ?_ | intro _ | refine exP ?_ ?_); all_goals try omega
          refine call_tri [(0, 40)] [] (written_ok lineS [joinS t[k].lines[j]] (by simp) (by simp) (by decide) (by simp; omega)) (by (simp only [go_sem]) <;> simp [lineS]) (by (simp only [go_sem, entH, entH1, nilArr, obOK]) <;> simp [lineS]) (by simp [injR, apart, toR]) (by simp [coverR, usH, toR, lineS]) (by simp [uniqP, lkR, toR]) (by simp [chk, hG]) ?_
          simp only [go_sem, hG, hOw]
          (repeat' with_reducible first | refine And.intro ?_ ?_ | intro _ | refine exP ?_ ?_); all_goals try omega
          exact ⟨j + 1, by omega, by omega, entA [(1, some 1), (200, some 43)] (by (simp only [go_sem]) <;> simp [hMs j hjl,lineR,strE]) (by (simp only [go_sem, entH, entH1, nilArr, obOK]) <;> simp [hMs j hjl,lineR,strE])⟩
        · rename_i hge2
          have hj2 : j = t[k].lines.length := by omega
          subst hj2
          rw [hMe']
          exact ⟨(), entA [(1, some 1), (100, some 200)]⟩
      · rintro ⟨⟩ -
        simp only [go_sem, hG, hOw]
        (repeat' with_reducible first | refine And.intro ?_ ?_ | intro _ | refine exP ?_ ?_); all_goals try omega
        exact ⟨k + 1, by omega, by omega, entA [(1, some 1), (100, some 100)]⟩
    · rename_i hge
      obtain rfl : k = t.length := by omega
      simp only [List.take_length]
      exact .refl _
end Go.Proofs.YtphadkcpgnkpfaaGreatDoor
