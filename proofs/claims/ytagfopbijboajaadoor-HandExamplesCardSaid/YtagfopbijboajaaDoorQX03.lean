import Derived.Maps.AppendAt
import Derived.Test.YtagfopbijboajaaDoorQX02
namespace Go.Proofs.YtagfopbijboajaaDoor
open Go Go.RowKit
set_option linter.unusedSimpArgs false
set_option linter.unusedVariables false
namespace Pm

theorem heap_new (w : World) (o : Obj) : (w.alloc o).heap[w.heap.size]? = some o := heap_alloc_new w o
theorem heap_old (w : World) (o : Obj) (b : Nat) (h : b < w.heap.size) : (w.alloc o).heap[b]? = w.heap[b]? := Below.heap_alloc w o b h

theorem SimE.new {G : Gh} {s : St} {a : Act} {w : World} {E : Env} (h : SimE G s a w E) {id : Nat} (hid : s.us id = false) {ob : OB} {o : Obj} {K C : Nat}
    (hb : ∀ (O' : Nat → Prop) (E' : Env), (∀ b, ¬ OT G s E b → b < w.heap.size → ¬ O' b) → (∀ i r, E i = some r → E' i = some r) → HB (w.alloc o) O' E' (some w.heap.size) K C ob) :
    ∃ E', SimE G (s.hset id (some ob)) a (w.alloc o) E' ∧ E' id = some (some w.heap.size, K, C) ∧ (∀ i r, E i = some r → E' i = some r) ∧ (∀ b, ¬ OT G s E b → b < w.heap.size → ¬ OT G (s.hset id (some ob)) E' b) := by
  have hE0 : E id = none := by
    cases he : E id with
    | none => rfl
    | some r => have := h.us id (by rw [he]; simp); rw [hid] at this; cases this
  let E' : Env := fun i => if i = id then some (some w.heap.size, K, C) else E i
  have hEE : ∀ i r, E i = some r → E' i = some r := fun i r hi => by
    show (if i = id then _ else E i) = _
    rw [if_neg (by rintro rfl; rw [hE0] at hi; cases hi)]
    exact hi
  have hE'id : E' id = some (some w.heap.size, K, C) := if_pos rfl
  obtain ⟨h1, h2⟩ := h.upd (s' := s.hset id (some ob)) (w' := w.alloc o) (E' := E') (fun i => i = id) rfl (by simp) rfl rfl rfl (fun b hlt _ => heap_old w _ b hlt)
    (fun i hi => ⟨by show (if id = i then _ else s.hp i) = _; rw [if_neg fun e => hi e.symm], if_neg hi⟩) hEE (fun i hi => by simp [St.hset, hi]) (fun i hi _ => by subst hi; simp [St.hset])
    (fun i o hi ho => by subst hi; simp only [St.hset, if_true, Option.some.injEq] at ho; subst ho; exact ⟨_, _, _, hE'id, fun hO1 => hb _ _ hO1 hEE⟩)
    (fun i o b' K' C' hi _ he => by subst hi; rw [hE'id] at he; cases he; exact .inl ⟨Nat.le_refl _, by simp⟩) (fun i i' _ _ _ _ _ hi hi' _ _ _ _ => by rw [hi, hi'])
  exact ⟨E', h1, hE'id, hEE, h2⟩

theorem SimE.junk {G : Gh} {s : St} {a : Act} {w : World} {E : Env} (h : SimE G s a w E) (o : Obj) : SimE G s a (w.alloc o) E :=
  h.below ((Below.refl _ _).alloc (Nat.le_refl _) o)

theorem stepOK_heap {P : Program} {G : Gh} {s : St} {o : Oper} (hd : ∀ d, o.dst = some d → d < G.n) {x : V} {l : List (Nat × Option OB)}
    (h : ∀ a w E, SimE G s a w E → ∃ y w' E', (execOp a.eval o).run P w = .ok (.value y) w' ∧ SimE G (hsets s l) a w' E' ∧ R w' (OT G (hsets s l) E') E' x y) : StepOK P G s o (app s o.dst (x, l)) := by
  rintro a w ⟨E, hs⟩ K Q hK
  obtain ⟨y, w', E', hy, hs', hR⟩ := h a w E hs
  unfold Oper.wp
  rw [hy]
  exact hK _ _ ⟨E', hs'.put hd hR⟩

def boxRes (s : St) : Option Nat → Option (List V) → Res
  | some d, some cs => .heap (s.used d = false ∧ cs.length ≤ 140737488355328) fun _ => (.ptr d 0, [(d, some (.box cs))])
  | _, _ => .stuck
theorem hb_box {G : Gh} {s : St} {w : World} {E : Env} {cs : List V} {ys : Array Value} {t : TypeId} (hc : CellsR w (OT G s E) E cs ys) (hl : cs.length ≤ 140737488355328) (K : Nat) (hK : K ≤ cs.length)
    (O' : Nat → Prop) (E' : Env) (hO : ∀ b, ¬ OT G s E b → b < w.heap.size → ¬ O' b) (hE : ∀ i r, E i = some r → E' i = some r) : HB (w.alloc (.cells ys t)) O' E' (some w.heap.size) K K (.box cs) :=
  ⟨w.heap.size, ys, t, rfl, heap_new w _, hc.1, ⟨hK, hl⟩, rfl, fun j u y h1 h2 => (hc.2 j u y h1 h2).mono (by simp) hO (fun b _ hlt => heap_old w _ b hlt) hE⟩
theorem box_ok (P : Program) (G : Gh) (s : St) (o : Oper) (hd : ∀ d, o.dst = some d → d < G.n) (t : TypeId) (x : Operand) (ho : o.op = .box t x) :
    ResOK P G s o (boxRes s o.dst (cellsV (ev s x))) := by
  unfold boxRes
  split
  · rename_i d cs hdd hcs
    rintro ⟨hu, hl⟩
    refine stepOK_heap hd fun a w E hs => ?_
    have hc := cellsV_R (ev_R hs x) hcs
    obtain ⟨E', h1, h2, h3, h4⟩ := hs.new (id := d) hu (o := .cells (a.eval x).cells t) (K := 0) (C := 0) (hb_box hc hl 0 (Nat.zero_le _))
    refine ⟨.pointer (some ⟨w.heap.size, 0, none⟩), _, E', ?_, h1, .ptr d 0 _ _ _ h2⟩
    simp [execOp, ho, Instr.box, newVar, newRow]
  · trivial
def zeroA (P : Program) (t : TypeId) : Option (List Value) := match zeroK P t with
  | some [.pointer none, .slice none 0 0] => none
  | z => z
theorem zeroA_some {P : Program} {t : TypeId} {z : List Value} (h : zeroA P t = some z) : zeroK P t = some z := by
  unfold zeroA at h
  split at h
  · cases h
  · exact h
theorem alloc_ok (P : Program) (G : Gh) (s : St) (o : Oper) (hd : ∀ d, o.dst = some d → d < G.n) (t : TypeId) (ho : o.op = .alloc t) :
    ResOK P G s o (boxRes s o.dst ((zeroA P t).map fun z => z.map .v)) := by
  unfold boxRes
  split
  · rename_i d cs hdd hcs
    rintro ⟨hu, hl⟩
    simp only [Option.map_eq_some_iff] at hcs
    obtain ⟨z, hz, rfl⟩ := hcs
    have hz := zeroA_some hz
    refine stepOK_heap hd fun a w E hs => ?_
    obtain ⟨zv, hzr, hzc⟩ := zeroK_inv hz w
    obtain ⟨E', h1, h2, h3, h4⟩ := hs.new (id := d) hu (o := .cells zv.cells t) (K := 0) (C := 0) (hb_box (cells_lits hzc) hl 0 (Nat.zero_le _))
    refine ⟨.pointer (some ⟨w.heap.size, 0, none⟩), _, E', ?_, h1, .ptr d 0 _ _ _ h2⟩
    simp [execOp, ho, Instr.alloc, newVar, newRow, hzr]
  · trivial

def ldBox (ag : Bool) (n off : Nat) (cs : List V) : Res := match ag with
  | false => .go (off < cs.length) fun _ => (cs[off]?).getD .any
  | true => .go (off + n ≤ cs.length) fun _ => .agg ((cs.drop off).take n)
def ldoRes (s : St) : Option (Bool × Nat) → V → Res
  | some (ag, n), .ptr id off => match s.hget id with
    | some (.box cs) => ldBox ag n off cs
    | _ => .stuck
  | some (ag, n), .eptr id i k sz => match s.hget id with
    | some (.arr _ sz' l) => match ag with
      | false => .go (sz' = sz ∧ k < sz ∧ i < l.length) fun h => ((l[i]'h.2.2)[k]?).getD .any
      | true => .go (sz' = sz ∧ k + n ≤ sz ∧ i < l.length) fun h => .agg (((l[i]'h.2.2).drop k).take n)
    | some (.box cs) => ldBox ag n (i * sz + k) cs
    | _ => .stuck
  | lk, x => ldRes lk x
theorem ldBox_ok (P : Program) (G : Gh) (s : St) (o : Oper) (hd : ∀ d, o.dst = some d → d < G.n) (t : TypeId) (x : Operand) (ho : o.op = .load t x) {id off n : Nat} {cs : List V} {ag : Bool} (hl : loadK P t = some (ag, n)) (hob : s.hget id = some (.box cs))
    (hp : ∀ a w E, SimE G s a w E → ∃ b K C, E id = some (some b, K, C) ∧ a.eval x = .pointer (some ⟨b, off, none⟩)) :
    ResOK P G s o (ldBox ag n off cs) := by
  unfold ldBox
  have core : ∀ a w E, SimE G s a w E → ∃ b ys t', a.eval x = .pointer (some ⟨b, off, none⟩) ∧ w.heap[b]? = some (.cells ys t' (0, 0)) ∧ CellsR w (OT G s E) E cs ys := fun a w E hs => by
    obtain ⟨b, K, C, hE, hy⟩ := hp a w E hs
    obtain ⟨b1, K1, C1, h1, b', ys, t', rfl, hh, hsz, _, _, hr⟩ := hs.hp id _ hob
    rw [hE] at h1
    cases h1
    exact ⟨b, ys, t', hy, hh, hsz, hr⟩
  split
  · intro hlt
    refine stepOK_val hd fun a w E hs => ?_
    obtain ⟨d, i, hu, hi, hag, hsz⟩ := loadK_inv hl
    obtain ⟨b, ys, t', hy, hh, hc⟩ := core a w E hs
    have hlt' : off < ys.size := by rw [hc.1]; exact hlt
    have hcell : w.cell? ⟨b, off, none⟩ = some ys[off] := by rw [cell_of_row w b off ys t' (0, 0) hh]; simp [hlt']
    refine ⟨ys[off], ?_, ?_⟩
    · simp [execOp, ho, hy, Instr.loadAt, Instr.sureAddr, loadVar, run_isAgg P w hu, hag, hcell]
    · have h1 : cs[off]? = some cs[off] := List.getElem?_eq_getElem hlt
      simp only [h1, Option.getD_some]
      exact hc.2 off _ _ h1 (by simp [hlt'])
  · intro hle
    refine stepOK_val hd fun a w E hs => ?_
    obtain ⟨d, i, hu, hi, hag, hsz⟩ := loadK_inv hl
    obtain ⟨b, ys, t', hy, hh, hc⟩ := core a w E hs
    have hrun := load_cells (P := P) (w := w) (b := b) (o := off) (n := n) (f := fun j => ys.getD (off + j) undef) (fun j hj => by
      rw [cell_of_row w b (off + j) ys t' (0, 0) hh]
      have : off + j < ys.size := by rw [hc.1]; omega
      simp [this])
    refine ⟨.agg ((List.range n).map fun j => ys.getD (off + j) undef).toArray, ?_, .agg _ _ (by simp; omega) (fun j u y h1 h2 => ?_)⟩
    · simp [execOp, ho, hy, Instr.loadAt, Instr.sureAddr, loadVar, run_isAgg P w hu, hag, run_size P w hi, hsz, hrun]
    · obtain ⟨h3, hj⟩ := take_getElem? _ _ _ _ h1
      rw [List.getElem?_drop] at h3
      have : off + j < ys.size := by rw [hc.1]; omega
      simp [hj] at h2
      subst h2
      exact hc.2 _ u _ h3 (by simp [this])
theorem loadOwn_ok (P : Program) (G : Gh) (s : St) (o : Oper) (hd : ∀ d, o.dst = some d → d < G.n) (t : TypeId) (x : Operand) (ho : o.op = .load t x) :
    ResOK P G s o (ldoRes s (loadK P t) (ev s x)) := by
  unfold ldoRes
  split
  · rename_i ag n id off hl hx
    split
    · rename_i cs hob
      exact ldBox_ok P G s o hd t x ho hl hob fun a w E hs => R.ptr_inv (ev_E hs hx)
    · trivial
  · rename_i ag n id i k sz hl hx
    split
    · rename_i t0 sz' l hob
      have core : ∀ a w E, SimE G s a w E → sz' = sz → ∀ hi : i < l.length, ∃ b ys t', a.eval x = .pointer (some ⟨b, i * sz + k, none⟩) ∧ w.heap[b]? = some (.cells ys t' (0, 0)) ∧ (l[i]).length = sz ∧ i * sz + sz ≤ ys.size ∧
          ∀ (j : Nat) (u : V) (y : Value), (l[i])[j]? = some u → ys[i * sz + j]? = some y → R0 w (OT G s E) u y := fun a w E hs hszz hi => by
        obtain ⟨b, K, C, hE, _, hy⟩ := R.eptr_inv (ev_E hs hx)
        obtain ⟨b1, K1, C1, h1, hz, h0, _, hK, hb⟩ := hs.hp id _ hob
        rw [hE] at h1
        cases h1
        subst hszz
        obtain ⟨ys, hh, hys, hKC, _, hr⟩ := hb
        refine ⟨b, ys, t0, hy, hh, hz _ (List.getElem_mem hi), ?_, fun j u y h1 h2 => hr i _ j u y (List.getElem?_eq_getElem hi) h1 h2⟩
        have : (i + 1) * sz' ≤ C * sz' := Nat.mul_le_mul_right _ (by omega)
        rw [hys]
        rw [Nat.succ_mul] at this
        omega
      split
      · rintro ⟨hszz, hk, hi⟩
        refine stepOK_val hd fun a w E hs => ?_
        obtain ⟨d, i', hu, hi', hag, hsz⟩ := loadK_inv hl
        obtain ⟨b, ys, t', hy, hh, hel, hle, hr⟩ := core a w E hs hszz hi
        have hlt' : i * sz + k < ys.size := by omega
        have hcell : w.cell? ⟨b, i * sz + k, none⟩ = some ys[i * sz + k] := by rw [cell_of_row w b _ ys t' (0, 0) hh]; simp [hlt']
        refine ⟨ys[i * sz + k], ?_, ?_⟩
        · simp [execOp, ho, hy, Instr.loadAt, Instr.sureAddr, loadVar, run_isAgg P w hu, hag, hcell]
        · have h1 : (l[i])[k]? = some ((l[i])[k]'(by omega)) := List.getElem?_eq_getElem _
          simp only [h1, Option.getD_some]
          exact .r0 _ _ (hr k _ _ h1 (by simp [hlt']))
      · rintro ⟨hszz, hk, hi⟩
        refine stepOK_val hd fun a w E hs => ?_
        obtain ⟨d, i', hu, hi', hag, hsz⟩ := loadK_inv hl
        obtain ⟨b, ys, t', hy, hh, hel, hle, hr⟩ := core a w E hs hszz hi
        have hrun := load_cells (P := P) (w := w) (b := b) (o := i * sz + k) (n := n) (f := fun j => ys.getD (i * sz + k + j) undef) (fun j hj => by
          rw [cell_of_row w b _ ys t' (0, 0) hh]
          have : i * sz + k + j < ys.size := by omega
          simp [this])
        refine ⟨.agg ((List.range n).map fun j => ys.getD (i * sz + k + j) undef).toArray, ?_, .agg _ _ (by simp; omega) (fun j u y h1 h2 => ?_)⟩
        · simp [execOp, ho, hy, Instr.loadAt, Instr.sureAddr, loadVar, run_isAgg P w hu, hag, run_size P w hi', hsz, hrun]
        · obtain ⟨h3, hj⟩ := take_getElem? _ _ _ _ h1
          rw [List.getElem?_drop] at h3
          have : i * sz + k + j < ys.size := by omega
          simp [hj] at h2
          subst h2
          refine .r0 _ _ (hr _ u _ h3 ?_)
          rw [← Nat.add_assoc]
          simp [this]
    · rename_i cs hob
      exact ldBox_ok P G s o hd t x ho hl hob fun a w E hs => let ⟨b, K, C, h1, _, h2⟩ := R.eptr_inv (ev_E hs hx); ⟨b, K, C, h1, h2⟩
    · trivial
  · exact load_ok P G s o hd t x ho
end Pm
end Go.Proofs.YtagfopbijboajaaDoor
