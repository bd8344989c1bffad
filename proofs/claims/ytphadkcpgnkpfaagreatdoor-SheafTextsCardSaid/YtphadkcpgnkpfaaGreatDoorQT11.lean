import Derived.ProofKit
import Derived.WideKeyArgs
import Derived.Below
import Derived.ChangeSame
import Derived.SizedLaws
import Derived.Test.YtphadkcpgnkpfaaGreatDoorQT07
namespace Go.Proofs.YtphadkcpgnkpfaaGreatDoor
open Go Go.RowKit Go.WideShapes Go.ChangeShapes Go.ChangeAt
set_option linter.unusedSimpArgs false
set_option linter.unusedVariables false
namespace Pm

def CellsF (w : World) (cs : List V) (ys : List Value) : Prop := ys.length = cs.length ∧ ∀ (j : Nat) (u : V) (y : Value), cs[j]? = some u → ys[j]? = some y → R0 w (fun _ => False) u y
theorem CellsF.one {w : World} {u : V} {y : Value} (h : R0 w (fun _ => False) u y) : CellsF w [u] [y] := ⟨rfl, fun j u' y' h1 h2 => by
  cases j with
  | zero => simp at h1 h2; subst h1; subst h2; exact h
  | succ j => simp at h1⟩
theorem CellsF.one_inv {w : World} {u : V} {y : Value} (h : CellsF w [u] [y]) : R0 w (fun _ => False) u y := h.2 0 u y rfl rfl

def Rd (P : Program) (t : TypeId) {α : Type} (f : α → List V) (p : α → Prop) : Prop :=
  ∀ (H : Type) (enc : TypeId × Value → H) (w : World) (fuel : Nat) (cs : List Value) (d : DataW H) (ps : List MemPlace), DataW.trod enc P w 0 (fun _ => true) true fuel t cs = some (d, ps) → (∀ n ∈ d.weights P t, n ≤ 140737488355328) → w.noneFrozen ps → ∃ x : α, p x ∧ CellsF w (f x) cs

theorem Rd.int {P : Program} {t : TypeId} {k : IntKind} (ht : P.underlying t = some (.int k)) : Rd P t (fun n : Int => [.v (.int k n)]) (fun n => (Lit.int k n).wf = true) := by
  intro H enc w fuel cs d ps h _ _
  obtain ⟨n, rfl, _, hw⟩ := DataW.trod_int ht h
  exact ⟨n, hw, .one (.v _)⟩
theorem Rd.bool {P : Program} {t : TypeId} (ht : P.underlying t = some .bool) : Rd P t (fun b : Bool => [.v (.bool b)]) (fun _ => True) := by
  intro H enc w fuel cs d ps h _ _
  obtain ⟨b, rfl, _⟩ := DataW.trod_bool ht h
  exact ⟨b, trivial, .one (.v _)⟩
theorem Rd.string {P : Program} {t : TypeId} (ht : P.underlying t = some .string) : Rd P t (fun s : ByteArray => [.v (.string s)]) (fun s => s.size ≤ 140737488355328) := by
  intro H enc w fuel cs d ps h hw _
  obtain ⟨s, rfl, hx, hs⟩ := DataW.trod_string ht h
  simp only [Prod.mk.injEq] at hx
  obtain ⟨rfl, _⟩ := hx
  exact ⟨s, by simpa using hw s.data.toList.length (by simp [DataW.weights]), .one (.v _)⟩

theorem mapM_range_get {β : Type} {g : Nat → Option β} {n : Nat} {l : List β} (h : (List.range n).mapM g = some l) : l.length = n ∧ ∀ i, i < n → g i = l[i]? :=
  ⟨by simpa using mapM_some_length h, fun i hi => mapM_some_get h i i (by simp [hi])⟩

theorem choose_list {α β : Type} {R : Nat → β → α → Prop} : ∀ (n : Nat) (l : List β), l.length = n → (∀ i y, l[i]? = some y → ∃ x, R i y x) → ∃ m : List α, m.length = n ∧ ∀ i y x, l[i]? = some y → m[i]? = some x → R i y x := by
  intro n
  induction n with
  | zero =>
    intro l hl _
    exact ⟨[], rfl, fun i y x _ h => by simp at h⟩
  | succ n ih =>
    intro l hl h
    have hne : l ≠ [] := by rintro rfl; simp at hl
    obtain ⟨m, hm, hR⟩ := ih l.dropLast (by simp [hl]) (fun i y hy => by
      obtain ⟨hi, e⟩ := List.getElem?_eq_some_iff.1 hy
      simp at hi
      exact h i y (by rw [← e]; simp))
    have hlast : l[n]? = some (l.getLast hne) := by rw [List.getLast_eq_getElem, List.getElem?_eq_getElem (by omega)]; simp [hl]
    obtain ⟨x, hx⟩ := h n _ hlast
    refine ⟨m ++ [x], by simp [hm], fun i y x' h1 h2 => ?_⟩
    by_cases hi : i < n
    · rw [List.getElem?_append_left (by omega)] at h2
      refine hR i y x' ?_ h2
      rw [← h1]
      simp [hl, hi]
    · obtain ⟨hi', _⟩ := List.getElem?_eq_some_iff.1 h2
      have : i = n := by simp at hi'; omega
      subst this
      rw [List.getElem?_append_right (by omega)] at h2
      simp [hm] at h2
      subst h2
      rw [hlast] at h1
      cases h1
      exact hx

theorem Rd.slice {P : Program} {t e sz : TypeId} {α : Type} {f : α → List V} {p : α → Prop} (ht : P.underlying t = some (.slice e)) (hsz : P.cellsOf e = sz) (h0 : 0 < sz) (hb0 : Nat.ble 1 (P.bytesOf e) = true) (hf : ∀ x, (f x).length = sz) (he : Rd P e f p) :
    Rd P t (fun l : List α => [.lst 0 sz (l.map f)]) (fun l => l.length ≤ 140737488355328 ∧ ∀ x ∈ l, p x) := by
  subst hsz
  intro H enc w fuel cs d ps h hwt hnf
  rcases DataW.trod_slice ht h with ⟨rfl, _⟩ | ⟨a, len, cap, elems, rest, n, rfl, rfl, hx, _, hlc, hcap, hel, hget, hrest, _⟩
  · exact ⟨[], ⟨by simp, by simp⟩, .one (.lst 0 _ [] none 0 0 0 0 (fun _ _ => undef) (by simp) rfl (by simp) (by simp) (by simp) (by simp) (by simp) (by simp))⟩
  · simp only [Prod.mk.injEq] at hx
    obtain ⟨rfl, rfl⟩ := hx
    obtain ⟨hr1, _⟩ := hrest rfl
    have hw1 : len ≤ 140737488355328 := by
      have := hwt ((elems.length + rest.length) * P.bytesOf e) (by simp [DataW.weights, ht])
      have h2 : (elems.length + rest.length) * 1 ≤ (elems.length + rest.length) * P.bytesOf e := Nat.mul_le_mul_left _ (Nat.le_of_ble_eq_true hb0)
      omega
    have hw2 : ∀ x ∈ elems, ∀ n ∈ x.1.weights P e, n ≤ 140737488355328 := fun x hx n hn => hwt n (by
      have : ∀ {l : List (DataW H)} {d : DataW H}, d ∈ l → ∀ n ∈ d.weights P e, n ∈ DataW.weightsAll P e l := by
        intro l
        induction l with
        | nil => intro d h; cases h
        | cons a r ih =>
          intro d h n hn
          simp only [DataW.weightsAll, List.mem_append]
          rcases List.mem_cons.1 h with rfl | h
          · exact .inl hn
          · exact .inr (ih h n hn)
      have hm := this (List.mem_map_of_mem (f := (·.1)) hx) n hn
      simp [DataW.weights, ht, hm])
    -- every element's cells
    have key : ∀ i y, (List.range len)[i]? = some y → ∃ z : α × List Value, p z.1 ∧ CellsF w (f z.1) z.2 ∧ w.cells? 0 (a.add (i * P.cellsOf e)) (P.cellsOf e) = some z.2 := by
      intro i y hy
      obtain ⟨hi, _⟩ := List.getElem?_eq_some_iff.1 hy
      simp at hi
      have hg := hget i hi
      rw [List.getElem?_eq_getElem (by omega)] at hg
      simp only [Option.bind_eq_some_iff] at hg
      obtain ⟨cs', h1, h2⟩ := hg
      have hsub : w.noneFrozen (elems[i]'(by omega)).2 := fun b off hp => hnf b off (by
        simp only [List.mem_append, List.mem_flatMap]
        exact .inr ⟨_, .inl (List.getElem_mem _), hp⟩)
      obtain ⟨x, hp, hc⟩ := he H enc w n cs' _ _ h2 (hw2 _ (List.getElem_mem _)) hsub
      exact ⟨(x, cs'), hp, hc, h1⟩
    obtain ⟨m, hm, hR⟩ := choose_list (R := fun i _ (z : α × List Value) => p z.1 ∧ CellsF w (f z.1) z.2 ∧ w.cells? 0 (a.add (i * P.cellsOf e)) (P.cellsOf e) = some z.2) len (List.range len) (by simp) key
    have hM : ∀ i (hi : i < m.length), p m[i].1 ∧ CellsF w (f m[i].1) m[i].2 ∧ w.cells? 0 (a.add (i * P.cellsOf e)) (P.cellsOf e) = some m[i].2 := fun i hi => hR i i m[i] (by rw [List.getElem?_range (by omega)]) (List.getElem?_eq_getElem hi)
    obtain ⟨b, o, sp⟩ := a
    have hcell : ∀ i (hi : i < m.length) j (y : Value), m[i].2[j]? = some y → w.cell? (((⟨b, o, sp⟩ : Addr).add (i * P.cellsOf e)).add j) = some y ∧ j < P.cellsOf e := by
      intro i hi j y hy
      obtain ⟨_, _, hc⟩ := hM i hi
      unfold World.cells? at hc
      rw [if_pos (Nat.zero_le _)] at hc
      obtain ⟨h1, h2⟩ := mapM_range_get hc
      obtain ⟨hj, _⟩ := List.getElem?_eq_some_iff.1 hy
      rw [h1] at hj
      exact ⟨(h2 j hj).trans hy, hj⟩
    have hlen : ∀ i (hi : i < m.length), m[i].2.length = P.cellsOf e := by
      intro i hi
      obtain ⟨_, h2, _⟩ := hM i hi
      rw [h2.1, hf]
    refine ⟨m.map (·.1), ⟨by simp; omega, ?_⟩, .one ?_⟩
    · intro x hx
      simp only [List.mem_map] at hx
      obtain ⟨z, hz, rfl⟩ := hx
      obtain ⟨i, hi, rfl⟩ := List.getElem_of_mem hz
      exact (hM i hi).1
    · have hsp : 0 < m.length → sp = none := by
        intro hpos
        have := hcell 0 hpos 0 (m[0].2[0]'(by rw [hlen 0 hpos]; exact h0)) (List.getElem?_eq_getElem _)
        simpa [Addr.add] using World.cell?_spot this.1
      by_cases hpos : m.length = 0
      · have : m = [] := List.length_eq_zero_iff.1 hpos
        subst this
        simp at hm
        subst hm
        exact .lst 0 _ [] _ _ _ 0 0 (fun _ _ => undef) (by simp) rfl (by simp) (by simp) (by simp) (by simp) (by simp) (by simp)
      · have hs0 := hsp (by omega)
        subst hs0
        have hblt : b < w.heap.size := by
          have := hcell 0 (by omega) 0 (m[0].2[0]'(by rw [hlen 0 (by omega)]; exact h0)) (List.getElem?_eq_getElem _)
          have h1 := this.1
          simp only [Addr.add] at h1
          unfold World.cell? at h1
          false_or_by_contra
          rename_i hge
          have : w.heap[b]? = none := by simp; omega
          simp [this] at h1
        refine .lst 0 _ _ (some ⟨b, o, none⟩) len cap b o (fun i j => ((m[i]?.map (·.2)).getD [])[j]?.getD undef) (fun _ => Nat.zero_le _) (by simp; omega) (by simp; omega) (by simp; omega) (fun _ => ⟨rfl, fun h => h, hblt⟩) ?_ ?_ ?_
        · intro i x j u h1 h2
          simp only [List.getElem?_map, List.map_map] at h1
          obtain ⟨z, hz, rfl⟩ := Option.map_eq_some_iff.1 h1
          obtain ⟨hi, rfl⟩ := List.getElem?_eq_some_iff.1 hz
          obtain ⟨hj, _⟩ := List.getElem?_eq_some_iff.1 h2
          have hj' : j < m[i].2.length := by rw [hlen i hi, ← hf m[i].1]; exact hj
          have hc := hcell i hi j (m[i].2[j]) (List.getElem?_eq_getElem hj')
          simp only [add_none] at hc
          have e1 : (((m[i]?.map (·.2)).getD [])[j]?).getD undef = m[i].2[j] := by simp [List.getElem?_eq_getElem hi, List.getElem?_eq_getElem hj']
          rw [e1, show o + (i * P.cellsOf e + j) = o + i * P.cellsOf e + j by omega]
          refine ⟨hc.1, fun _ => hnf b _ ?_⟩
          simp only [List.mem_append]
          left
          unfold MemPlace.row
          simp only [List.mem_map, List.mem_range]
          refine ⟨i * P.cellsOf e + j, ?_, by simp; omega⟩
          have : (i + 1) * P.cellsOf e ≤ (elems.length + rest.length) * P.cellsOf e := Nat.mul_le_mul_right _ (by omega)
          rw [Nat.add_mul] at this
          omega
        · intro x hx
          simp only [List.map_map, List.mem_map] at hx
          obtain ⟨z, _, rfl⟩ := hx
          exact hf _
        · intro i x j u h1 h2
          simp only [List.getElem?_map, List.map_map] at h1
          obtain ⟨z, hz, rfl⟩ := Option.map_eq_some_iff.1 h1
          obtain ⟨hi, rfl⟩ := List.getElem?_eq_some_iff.1 hz
          obtain ⟨hj, _⟩ := List.getElem?_eq_some_iff.1 h2
          have hj' : j < m[i].2.length := by rw [hlen i hi, ← hf m[i].1]; exact hj
          have e1 : (((m[i]?.map (·.2)).getD [])[j]?).getD undef = m[i].2[j] := by simp [List.getElem?_eq_getElem hi, List.getElem?_eq_getElem hj']
          rw [e1]
          exact (hM i hi).2.1.2 j u _ h2 (List.getElem?_eq_getElem hj')

def RdF (P : Program) : List TypeId → {α : Type} → (α → List V) → (α → Prop) → Prop := fun ts {α} f p =>
  ∀ (H : Type) (enc : TypeId × Value → H) (w : World) (fuel : Nat) (cs : List Value) (xs : List (DataW H × List MemPlace)), cs.length = (ts.map P.cellsOf).sum → xs.length = ts.length →
    (∀ (i : Nat) (t : TypeId), ts[i]? = some t → DataW.trod enc P w 0 (fun _ => true) true fuel t ((cs.drop ((ts.take i).map P.cellsOf).sum).take (P.cellsOf t)) = xs[i]?) → (∀ (i : Nat) (t : TypeId) (x : DataW H × List MemPlace), ts[i]? = some t → xs[i]? = some x → ∀ n ∈ x.1.weights P t, n ≤ 140737488355328) → w.noneFrozen (xs.flatMap (·.2)) → ∃ x : α, p x ∧ CellsF w (f x) cs
theorem RdF.nil {P : Program} : RdF P [] (fun _ : Unit => []) (fun _ => True) := by
  intro H enc w fuel cs xs h1 _ _ _ _
  simp at h1
  subst h1
  exact ⟨(), trivial, rfl, by simp⟩
theorem CellsF.append {w : World} {a b : List V} {x y : List Value} (h1 : CellsF w a x) (h2 : CellsF w b y) : CellsF w (a ++ b) (x ++ y) := by
  refine ⟨by simp [h1.1, h2.1], fun j u z hu hz => ?_⟩
  by_cases hj : j < a.length
  · rw [List.getElem?_append_left hj] at hu
    rw [List.getElem?_append_left (by rw [h1.1]; exact hj)] at hz
    exact h1.2 j u z hu hz
  · rw [List.getElem?_append_right (by omega)] at hu
    rw [List.getElem?_append_right (by rw [h1.1]; omega), h1.1] at hz
    exact h2.2 _ u z hu hz
theorem RdF.cons {P : Program} {t : TypeId} {ts : List TypeId} {α β : Type} {f : α → List V} {g : β → List V} {p : α → Prop} {q : β → Prop} (h1 : Rd P t f p) (h2 : RdF P ts g q) : RdF P (t :: ts) (fun x : α × β => f x.1 ++ g x.2) (fun x => p x.1 ∧ q x.2) := by
  intro H enc w fuel cs xs hl hx hg hwt hn
  match xs, hx with
  | x0 :: xr, hx =>
    have h0 := hg 0 t rfl
    simp only [List.take_zero, List.map_nil, List.sum_nil, List.drop_zero, List.getElem?_cons_zero] at h0
    simp only [List.map_cons, List.sum_cons] at hl
    obtain ⟨a, ha, hca⟩ := h1 H enc w fuel _ x0.1 x0.2 h0 (hwt 0 t x0 rfl rfl) (fun b off hp => hn b off (by simp [hp]))
    obtain ⟨b, hb, hcb⟩ := h2 H enc w fuel (cs.drop (P.cellsOf t)) xr (by simp; omega) (by simpa using hx) (fun i t' hi => by
      have := hg (i + 1) t' (by simpa using hi)
      simp only [List.take_succ_cons, List.map_cons, List.sum_cons, List.getElem?_cons_succ] at this
      rw [List.drop_drop]
      exact this) (fun i t' x h3 h4 => hwt (i + 1) t' x (by simpa using h3) (by simpa using h4)) (fun b off hp => hn b off (by simp only [List.flatMap_cons, List.mem_append]; exact .inr hp))
    refine ⟨(a, b), ⟨ha, hb⟩, ?_⟩
    have := hca.append hcb
    rw [List.take_append_drop] at this
    exact this
theorem Rd.struct {P : Program} {t : TypeId} {fs : Array Field} {α : Type} {f : α → List V} {p : α → Prop} (ht : P.underlying t = some (.struct fs)) (hc : P.cellsOf t = ((fs.toList.map (·.type)).map P.cellsOf).sum)
    (ho : (List.range fs.size).map (fun i => (fs.toList[i]?).map (·.offset)) = (List.range fs.size).map (fun i => some (((fs.toList.map (·.type)).take i).map P.cellsOf).sum))
    (h : RdF P (fs.toList.map (·.type)) f p) : Rd P t f p := by
  intro H enc w fuel cs d ps hd hwt hn
  obtain ⟨xs, n, _, hx, hl, hxl, hg⟩ := DataW.trod_struct ht hd
  simp only [Prod.mk.injEq] at hx
  obtain ⟨rfl, rfl⟩ := hx
  refine h H enc w n cs xs (hl.trans hc) (by simpa using hxl) (fun i t' hi => ?_) (fun i t' x h3 h4 n hn => hwt n ?_) hn
  rotate_left
  · simp only [DataW.weights, ht]
    exact DataW.weights_mem_each h3 (by simp [h4]) n hn
  simp only [List.getElem?_map] at hi
  obtain ⟨fd, hfd, rfl⟩ := Option.map_eq_some_iff.1 hi
  have hi' : i < fs.size := by obtain ⟨h, _⟩ := List.getElem?_eq_some_iff.1 hfd; simpa using h
  have e := congrArg (·[i]?) ho
  simp only [List.getElem?_map, List.getElem?_range hi', Option.map_some, hfd] at e
  rw [← hg i fd (by simpa using hfd)]
  injection e with e
  injection e with e
  rw [e]
theorem Rd.map {P : Program} {t : TypeId} {α β : Type} {f : α → List V} {g : β → List V} {p : α → Prop} {q : β → Prop} (h : Rd P t f p) (k : ∀ x, p x → ∃ y, q y ∧ g y = f x) : Rd P t g q := by
  intro H enc w fuel cs d ps hd hwt hn
  obtain ⟨x, hp, hc⟩ := h H enc w fuel cs d ps hd hwt hn
  obtain ⟨y, hq, e⟩ := k x hp
  exact ⟨y, hq, e ▸ hc⟩

def RdV (P : Program) (t : TypeId) {α : Type} (g : α → V) (p : α → Prop) : Prop :=
  ∀ (H : Type) (enc : TypeId × Value → H) (w : World) (base : Nat) (v : Value) (d : DataW H) (ps : List MemPlace), Value.okWide P w .any base t v → DataW.Trod enc P w 0 (fun _ => true) true t v d ps → (∀ n ∈ d.weights P t, n ≤ 140737488355328) → w.noneFrozen ps → ∃ x : α, p x ∧ R0 w (fun _ => False) (g x) v
theorem RdV.struct {P : Program} {t : TypeId} {fs : Array Field} {α : Type} {f : α → List V} {p : α → Prop} (ht : P.underlying t = some (.struct fs)) (h : Rd P t f p) : RdV P t (fun x => .agg (f x)) p := by
  intro H enc w base v d ps hok hd hwt hn
  unfold Value.okWide at hok
  rw [ht] at hok
  obtain ⟨cs, rfl, _, _⟩ := hok
  obtain ⟨n, hd⟩ := hd
  obtain ⟨x, hp, hc⟩ := h H enc w n _ d ps hd hwt hn
  refine ⟨x, hp, .agg _ _ (by simpa [Value.cells] using hc.1) fun j u y h1 h2 => hc.2 j u y h1 (by simpa [Value.cells] using h2)⟩
theorem RdV.one {P : Program} {t : TypeId} {α : Type} {g : α → V} {p : α → Prop} (ht : ∀ w base v, Value.okWide P w .any base t v → v.cells = #[v]) (h : Rd P t (fun x => [g x]) p) : RdV P t g p := by
  intro H enc w base v d ps hok hd hwt hn
  have e := ht w base v hok
  obtain ⟨n, hd⟩ := hd
  rw [e] at hd
  obtain ⟨x, hp, hc⟩ := h H enc w n _ d ps hd hwt hn
  exact ⟨x, hp, hc.one_inv⟩
theorem cells_slice {P : Program} {t e : TypeId} (ht : P.underlying t = some (.slice e)) (w : World) (base : Nat) (v : Value) (h : Value.okWide P w .any base t v) : v.cells = #[v] := by
  obtain ⟨a, n, c, rfl⟩ := okWide_slice ht h
  rfl
def RdA (P : Program) (ts : List TypeId) {α : Type} (g : α → List V) (p : α → Prop) : Prop :=
  ∀ (H : Type) (enc : TypeId × Value → H) (w : World) (base : Nat) (vs : List Value) (ds : List (DataW H)) (ps : List MemPlace), (∀ (j : Nat) (t : TypeId) (v : Value), ts[j]? = some t → vs[j]? = some v → Value.okWide P w .any base t v) →
    DataW.TrodAll enc P w 0 (fun _ => true) true ts vs ds ps → (∀ n ∈ DataW.weightsEach P ts ds, n ≤ 140737488355328) → w.noneFrozen ps → ∃ x : α, p x ∧ CellsF w (g x) vs
theorem RdA.nil {P : Program} : RdA P [] (fun _ : Unit => []) (fun _ => True) := by
  intro H enc w base vs ds ps _ h _ _
  obtain ⟨rfl, _, _⟩ := trodAll_nil h
  exact ⟨(), trivial, rfl, by simp⟩
theorem RdA.cons {P : Program} {t : TypeId} {ts : List TypeId} {α β : Type} {f : α → V} {g : β → List V} {p : α → Prop} {q : β → Prop} (h1 : RdV P t f p) (h2 : RdA P ts g q) : RdA P (t :: ts) (fun x : α × β => f x.1 :: g x.2) (fun x => p x.1 ∧ q x.2) := by
  intro H enc w base vs ds ps hok h hwt hn
  obtain ⟨v, vs', d, ds', a, b, rfl, rfl, rfl, g1, g2⟩ := trodAll_cons h
  obtain ⟨x, hp, hx⟩ := h1 H enc w base v d a (hok 0 t v rfl rfl) g1 (fun n hn => hwt n (by simp [DataW.weightsEach, hn])) (fun b off h => hn b off (by simp [h]))
  obtain ⟨y, hq, hy⟩ := h2 H enc w base vs' ds' b (fun j t v h3 h4 => hok (j + 1) t v (by simpa using h3) (by simpa using h4)) g2 (fun n hn => hwt n (by simp [DataW.weightsEach, hn])) (fun b off h => hn b off (by simp [h]))
  exact ⟨(x, y), ⟨hp, hq⟩, (CellsF.one hx).append hy⟩

section
variable {H : Type} {enc : TypeId × Value → H} {P : Program}
theorem post_below {f : Func} {s : ChangeSpec} {apart fresh handsOn again : Bool} {W W' : World} {args : Array Value} {v : Value} {ds gs : List (DataW H)} {before pa pv : List MemPlace}
    (hW : DataW.Whole enc P f.params.toList s.vars apart W args.toList ds gs before)
    (hres : ∀ (b : Nat) (sp : Nat → Bool) (hd : Bool), DataW.TrodAll enc P W' b sp hd f.resultTypes.toList (v.resultList f.resultTypes.size) (s.fn H (ds ++ gs)).results [])
    (hargs : ∀ sp : Nat → Bool, (∀ p ∈ before, sp p.block = true) → DataW.TrodAll enc P W' 0 sp true f.params.toList args.toList (s.fn H (ds ++ gs)).args pa)
    (hvars : ∀ sp : Nat → Bool, (∀ p ∈ before, sp p.block = true) → DataW.TrodVars enc P W' sp s.vars (s.fn H (ds ++ gs)).vars pv)
    (hps : before = pa ++ pv) (hb : Below W.heap.size W W')
    (hok : ∀ (j : Nat) (t : TypeId) (r : Value), f.resultTypes[j]? = some t → (v.resultList f.resultTypes.size)[j]? = some r → Value.okWide P W' .any 0 t r) :
    s.post enc P f apart fresh handsOn again W args v W' := by
  have hlt : ∀ p ∈ before, p.block < W.heap.size := fun p hp => hW.lt p hp
  have hold : ∀ p ∈ before, (fun b => decide (b < W.heap.size)) p.block = true := fun p hp => by simpa using hlt p hp
  refine ⟨ds, gs, before, [], pa, pv, hW, hres _ _ _, hargs _ hold, hvars _ hold, World.keptBut_mono (fun p hp => ⟨hp, ?_⟩) (hb.frame (· ∈ before)), fun _ => ?_⟩
  · rw [hps, List.mem_append] at hp
    exact Or.inr hp
  · obtain ⟨_, _, _, _, _, hz, hn⟩ := hW
    refine ⟨hok, _, _, ([] ++ pa) ++ pv, ⟨[] ++ pa, pv, trodAll_append (hargs _ (fun _ _ => rfl)) (hres _ _ _), hvars _ (fun _ _ => rfl), rfl, ?_, ?_⟩, ?_⟩
    · intro b off hp
      have hin : MemPlace.cell b off ∈ before := by rw [hps]; simpa using hp
      rw [hb.frozen (hlt _ hin)]
      exact hz b off hin
    · intro ha
      have := hn ha
      rw [hps] at this
      simpa using this
    · intro p hp _
      rw [hps]
      simpa using hp
theorem trodAll_stays (hl : laidOutB P = true) {W W' : World} {sp : Nat → Bool} : ∀ {ts : List TypeId} {vs : List Value} {ds : List (DataW H)} {ps : List MemPlace}, (∀ t ∈ ts, P.readableRec t = true ∧ t < P.types.size) →
    DataW.TrodAll enc P W 0 (fun _ => true) true ts vs ds ps → (∀ p ∈ ps, W.sameAt W' p) → (∀ p ∈ ps, sp p.block = true) → DataW.TrodAll enc P W' 0 sp true ts vs ds ps
  | [], vs, ds, ps, _, h, _, _ => by
    obtain ⟨rfl, rfl, rfl⟩ := trodAll_nil h
    exact rfl
  | t :: ts, vs, ds, ps, ht, h, hs, hp => by
    obtain ⟨v, vs', d, ds', a, b, rfl, rfl, rfl, g1, g2⟩ := trodAll_cons h
    exact ⟨a, b, WideElems.Trod_stays hl (ht t (by simp)).1 (ht t (by simp)).2 g1 (fun p h => hs p (by simp [h])) (fun p h => hp p (by simp [h])),
      trodAll_stays hl (fun t h => ht t (by simp [h])) g2 (fun p h => hs p (by simp [h])) (fun p h => hp p (by simp [h])), rfl⟩
end

end Pm
end Go.Proofs.YtphadkcpgnkpfaaGreatDoor
