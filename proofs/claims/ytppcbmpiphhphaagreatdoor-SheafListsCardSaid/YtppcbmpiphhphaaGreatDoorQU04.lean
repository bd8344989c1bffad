import Derived.Maps.AppendAt
import Derived.Laws.StructEq
import Derived.ChangeKeysEq
import Derived.Test.YtppcbmpiphhphaaGreatDoorQU02
namespace Go.Proofs.YtppcbmpiphhphaaGreatDoor
open Go Go.RowKit
set_option linter.unusedSimpArgs false
set_option linter.unusedVariables false
namespace Pm

theorem heap_new (w : World) (o : Obj) : (w.alloc o).heap[w.heap.size]? = some o := heap_alloc_new w o
theorem heap_old (w : World) (o : Obj) (b : Nat) (h : b < w.heap.size) : (w.alloc o).heap[b]? = w.heap[b]? := Below.heap_alloc w o b h

theorem SimE.new {G : Gh} {s : St} {a : Act} {w : World} {E : Env} (h : SimE G s a w E) {id : Nat} (hid : s.us id = false) {ob : OB} {o : Obj} {K C : Nat}
    (hb : ∀ (O' : Nat → Prop) (E' : Env), (∀ b, ¬ OT G s E b → b < w.heap.size → ¬ O' b) → (∀ i r, E i = some r → E' i = some r) → HB (w.alloc o) O' E' (some w.heap.size) K C ob) :
    ∃ E', SimE G (s.hset id (some ob)) a (w.alloc o) E' ∧ E' id = some (some w.heap.size, K, C) ∧ (∀ i r, E i = some r → E' i = some r) ∧ (∀ b, ¬ OT G s E b → b < w.heap.size → ¬ OT G (s.hset id (some ob)) E' b) := by
  have hE0 : E id = none := by
    cases he : E id with
    | none => rfl
    | some r => have := h.us id (by rw [he]; simp); rw [hid] at this; cases this
  let E' : Env := fun i => if i = id then some (some w.heap.size, K, C) else E i
  have hEE : ∀ i r, E i = some r → E' i = some r := fun i r hi => by
    show (if i = id then _ else E i) = _
    rw [if_neg (by rintro rfl; rw [hE0] at hi; cases hi)]
    exact hi
  have hE'id : E' id = some (some w.heap.size, K, C) := if_pos rfl
  obtain ⟨h1, h2⟩ := h.upd (s' := s.hset id (some ob)) (w' := w.alloc o) (E' := E') (fun i => i = id) rfl (by simp) rfl rfl rfl (fun b hlt _ => heap_old w _ b hlt)
    (fun i hi => ⟨by show (if id = i then _ else s.hp i) = _; rw [if_neg fun e => hi e.symm], if_neg hi⟩) hEE (fun i hi => by simp [St.hset, hi]) (fun i hi _ => by subst hi; simp [St.hset])
    (fun i o hi ho => by subst hi; simp only [St.hset, if_true, Option.some.injEq] at ho; subst ho; exact ⟨_, _, _, hE'id, fun hO1 => hb _ _ hO1 hEE⟩)
    (fun i o b' K' C' hi _ he => by subst hi; rw [hE'id] at he; cases he; exact .inl ⟨Nat.le_refl _, by simp⟩) (fun i i' _ _ _ _ _ hi hi' _ _ _ _ => by rw [hi, hi'])
  exact ⟨E', h1, hE'id, hEE, h2⟩

theorem SimE.junk {G : Gh} {s : St} {a : Act} {w : World} {E : Env} (h : SimE G s a w E) (o : Obj) : SimE G s a (w.alloc o) E :=
  h.below ((Below.refl _ _).alloc (Nat.le_refl _) o)

theorem stepOK_heap {P : Program} {G : Gh} {s : St} {o : Oper} (hd : ∀ d, o.dst = some d → d < G.n) {x : V} {l : List (Nat × Option OB)}
    (h : ∀ a w E, SimE G s a w E → ∃ y w' E', (execOp a.eval o).run P w = .ok (.value y) w' ∧ SimE G (hsets s l) a w' E' ∧ R w' (OT G (hsets s l) E') E' x y) : StepOK P G s o (app s o.dst (x, l)) := by
  rintro a w ⟨E, hs⟩ K Q hK
  obtain ⟨y, w', E', hy, hs', hR⟩ := h a w E hs
  unfold Oper.wp
  rw [hy]
  exact hK _ _ ⟨E', hs'.put hd hR⟩

def boxRes (s : St) : Option Nat → Option (List V) → Res
  | some d, some cs => .heap (s.used d = false ∧ cs.length ≤ 140737488355328) fun _ => (.ptr d 0, [(d, some (.box cs))])
  | _, _ => .stuck
theorem hb_box {G : Gh} {s : St} {w : World} {E : Env} {cs : List V} {ys : Array Value} {t : TypeId} (hc : CellsR w (OT G s E) E cs ys) (hl : cs.length ≤ 140737488355328) (K : Nat) (hK : K ≤ cs.length)
    (O' : Nat → Prop) (E' : Env) (hO : ∀ b, ¬ OT G s E b → b < w.heap.size → ¬ O' b) (hE : ∀ i r, E i = some r → E' i = some r) : HB (w.alloc (.cells ys t)) O' E' (some w.heap.size) K K (.box cs) :=
  ⟨w.heap.size, ys, t, rfl, heap_new w _, hc.1, ⟨hK, hl⟩, rfl, fun j u y h1 h2 => (hc.2 j u y h1 h2).mono (by simp) hO (fun b _ hlt => heap_old w _ b hlt) hE⟩
theorem box_ok (P : Program) (G : Gh) (s : St) (o : Oper) (hd : ∀ d, o.dst = some d → d < G.n) (t : TypeId) (x : Operand) (ho : o.op = .box t x) :
    ResOK P G s o (boxRes s o.dst (cellsV (ev s x))) := by
  unfold boxRes
  split
  · rename_i d cs hdd hcs
    rintro ⟨hu, hl⟩
    refine stepOK_heap hd fun a w E hs => ?_
    have hc := cellsV_R (ev_R hs x) hcs
    obtain ⟨E', h1, h2, h3, h4⟩ := hs.new (id := d) hu (o := .cells (a.eval x).cells t) (K := 0) (C := 0) (hb_box hc hl 0 (Nat.zero_le _))
    refine ⟨.pointer (some ⟨w.heap.size, 0, none⟩), _, E', ?_, h1, .ptr d 0 _ _ _ h2⟩
    simp [execOp, ho, Instr.box, newVar, newRow]
  · trivial
def zeroA (P : Program) (t : TypeId) : Option (List Value) := match zeroK P t with
  | some [.pointer none, .slice none 0 0] => none
  | z => z
theorem zeroA_some {P : Program} {t : TypeId} {z : List Value} (h : zeroA P t = some z) : zeroK P t = some z := by
  unfold zeroA at h
  split at h
  · cases h
  · exact h
theorem alloc_ok (P : Program) (G : Gh) (s : St) (o : Oper) (hd : ∀ d, o.dst = some d → d < G.n) (t : TypeId) (ho : o.op = .alloc t) :
    ResOK P G s o (boxRes s o.dst ((zeroA P t).map fun z => z.map .v)) := by
  unfold boxRes
  split
  · rename_i d cs hdd hcs
    rintro ⟨hu, hl⟩
    simp only [Option.map_eq_some_iff] at hcs
    obtain ⟨z, hz, rfl⟩ := hcs
    have hz := zeroA_some hz
    refine stepOK_heap hd fun a w E hs => ?_
    obtain ⟨zv, hzr, hzc⟩ := zeroK_inv hz w
    obtain ⟨E', h1, h2, h3, h4⟩ := hs.new (id := d) hu (o := .cells zv.cells t) (K := 0) (C := 0) (hb_box (cells_lits hzc) hl 0 (Nat.zero_le _))
    refine ⟨.pointer (some ⟨w.heap.size, 0, none⟩), _, E', ?_, h1, .ptr d 0 _ _ _ h2⟩
    simp [execOp, ho, Instr.alloc, newVar, newRow, hzr]
  · trivial

def ldBox (ag : Bool) (n off : Nat) (cs : List V) : Res := match ag with
  | false => .go (off < cs.length) fun _ => (cs[off]?).getD .any
  | true => .go (off + n ≤ cs.length) fun _ => .agg ((cs.drop off).take n)
def ldoRes (s : St) : Option (Bool × Nat) → V → Res
  | some (ag, n), .ptr id off => match s.hget id with
    | some (.box cs) => ldBox ag n off cs
    | _ => .stuck
  | some (ag, n), .eptr id i k sz => match s.hget id with
    | some (.arr _ sz' l) => match ag with
      | false => .go (sz' = sz ∧ k < sz ∧ i < l.length) fun h => ((l[i]'h.2.2)[k]?).getD .any
      | true => .go (sz' = sz ∧ k + n ≤ sz ∧ i < l.length) fun h => .agg (((l[i]'h.2.2).drop k).take n)
    | some (.box cs) => ldBox ag n (i * sz + k) cs
    | some (.arx _ sz' l) => match ag with
      | false => .go (sz' = sz ∧ k < sz ∧ i < l.length) fun h => ((l[i]'h.2.2)[k]?).getD .any
      | true => .go (sz' = sz ∧ k + n ≤ sz ∧ i < l.length) fun h => .agg (((l[i]'h.2.2).drop k).take n)
    | _ => .stuck
  | lk, x => ldRes lk x
theorem ldBox_ok (P : Program) (G : Gh) (s : St) (o : Oper) (hd : ∀ d, o.dst = some d → d < G.n) (t : TypeId) (x : Operand) (ho : o.op = .load t x) {id off n : Nat} {cs : List V} {ag : Bool} (hl : loadK P t = some (ag, n)) (hob : s.hget id = some (.box cs))
    (hp : ∀ a w E, SimE G s a w E → ∃ b K C, E id = some (some b, K, C) ∧ a.eval x = .pointer (some ⟨b, off, none⟩)) :
    ResOK P G s o (ldBox ag n off cs) := by
  unfold ldBox
  have core : ∀ a w E, SimE G s a w E → ∃ b ys t', a.eval x = .pointer (some ⟨b, off, none⟩) ∧ w.heap[b]? = some (.cells ys t' (0, 0)) ∧ CellsR w (OT G s E) E cs ys := fun a w E hs => by
    obtain ⟨b, K, C, hE, hy⟩ := hp a w E hs
    obtain ⟨b1, K1, C1, h1, b', ys, t', rfl, hh, hsz, _, _, hr⟩ := hs.hp id _ hob
    rw [hE] at h1
    cases h1
    exact ⟨b, ys, t', hy, hh, hsz, hr⟩
  split
  · intro hlt
    refine stepOK_val hd fun a w E hs => ?_
    obtain ⟨d, i, hu, hi, hag, hsz⟩ := loadK_inv hl
    obtain ⟨b, ys, t', hy, hh, hc⟩ := core a w E hs
    have hlt' : off < ys.size := by rw [hc.1]; exact hlt
    have hcell : w.cell? ⟨b, off, none⟩ = some ys[off] := by rw [cell_of_row w b off ys t' (0, 0) hh]; simp [hlt']
    refine ⟨ys[off], ?_, ?_⟩
    · simp [execOp, ho, hy, Instr.loadAt, Instr.sureAddr, loadVar, run_isAgg P w hu, hag, hcell]
    · have h1 : cs[off]? = some cs[off] := List.getElem?_eq_getElem hlt
      simp only [h1, Option.getD_some]
      exact hc.2 off _ _ h1 (by simp [hlt'])
  · intro hle
    refine stepOK_val hd fun a w E hs => ?_
    obtain ⟨d, i, hu, hi, hag, hsz⟩ := loadK_inv hl
    obtain ⟨b, ys, t', hy, hh, hc⟩ := core a w E hs
    have hrun := load_cells (P := P) (w := w) (b := b) (o := off) (n := n) (f := fun j => ys.getD (off + j) undef) (fun j hj => by
      rw [cell_of_row w b (off + j) ys t' (0, 0) hh]
      have : off + j < ys.size := by rw [hc.1]; omega
      simp [this])
    refine ⟨.agg ((List.range n).map fun j => ys.getD (off + j) undef).toArray, ?_, .agg _ _ (by simp; omega) (fun j u y h1 h2 => ?_)⟩
    · simp [execOp, ho, hy, Instr.loadAt, Instr.sureAddr, loadVar, run_isAgg P w hu, hag, run_size P w hi, hsz, hrun]
    · obtain ⟨h3, hj⟩ := take_getElem? _ _ _ _ h1
      rw [List.getElem?_drop] at h3
      have : off + j < ys.size := by rw [hc.1]; omega
      simp [hj] at h2
      subst h2
      exact hc.2 _ u _ h3 (by simp [this])
theorem loadOwn_ok (P : Program) (G : Gh) (s : St) (o : Oper) (hd : ∀ d, o.dst = some d → d < G.n) (t : TypeId) (x : Operand) (ho : o.op = .load t x) :
    ResOK P G s o (ldoRes s (loadK P t) (ev s x)) := by
  unfold ldoRes
  split
  · rename_i ag n id off hl hx
    split
    · rename_i cs hob
      exact ldBox_ok P G s o hd t x ho hl hob fun a w E hs => R.ptr_inv (ev_E hs hx)
    · trivial
  · rename_i ag n id i k sz hl hx
    split
    · rename_i t0 sz' l hob
      have core : ∀ a w E, SimE G s a w E → sz' = sz → ∀ hi : i < l.length, ∃ b ys t', a.eval x = .pointer (some ⟨b, i * sz + k, none⟩) ∧ w.heap[b]? = some (.cells ys t' (0, 0)) ∧ (l[i]).length = sz ∧ i * sz + sz ≤ ys.size ∧
          ∀ (j : Nat) (u : V) (y : Value), (l[i])[j]? = some u → ys[i * sz + j]? = some y → R0 w (OT G s E) u y := fun a w E hs hszz hi => by
        obtain ⟨b, K, C, hE, _, hy⟩ := R.eptr_inv (ev_E hs hx)
        obtain ⟨b1, K1, C1, h1, hz, h0, _, hK, hb⟩ := hs.hp id _ hob
        rw [hE] at h1
        cases h1
        subst hszz
        obtain ⟨ys, hh, hys, hKC, _, hr⟩ := hb
        refine ⟨b, ys, t0, hy, hh, hz _ (List.getElem_mem hi), ?_, fun j u y h1 h2 => hr i _ j u y (List.getElem?_eq_getElem hi) h1 h2⟩
        have : (i + 1) * sz' ≤ C * sz' := Nat.mul_le_mul_right _ (by omega)
        rw [hys]
        rw [Nat.succ_mul] at this
        omega
      split
      · rintro ⟨hszz, hk, hi⟩
        refine stepOK_val hd fun a w E hs => ?_
        obtain ⟨d, i', hu, hi', hag, hsz⟩ := loadK_inv hl
        obtain ⟨b, ys, t', hy, hh, hel, hle, hr⟩ := core a w E hs hszz hi
        have hlt' : i * sz + k < ys.size := by omega
        have hcell : w.cell? ⟨b, i * sz + k, none⟩ = some ys[i * sz + k] := by rw [cell_of_row w b _ ys t' (0, 0) hh]; simp [hlt']
        refine ⟨ys[i * sz + k], ?_, ?_⟩
        · simp [execOp, ho, hy, Instr.loadAt, Instr.sureAddr, loadVar, run_isAgg P w hu, hag, hcell]
        · have h1 : (l[i])[k]? = some ((l[i])[k]'(by omega)) := List.getElem?_eq_getElem _
          simp only [h1, Option.getD_some]
          exact .r0 _ _ (hr k _ _ h1 (by simp [hlt']))
      · rintro ⟨hszz, hk, hi⟩
        refine stepOK_val hd fun a w E hs => ?_
        obtain ⟨d, i', hu, hi', hag, hsz⟩ := loadK_inv hl
        obtain ⟨b, ys, t', hy, hh, hel, hle, hr⟩ := core a w E hs hszz hi
        have hrun := load_cells (P := P) (w := w) (b := b) (o := i * sz + k) (n := n) (f := fun j => ys.getD (i * sz + k + j) undef) (fun j hj => by
          rw [cell_of_row w b _ ys t' (0, 0) hh]
          have : i * sz + k + j < ys.size := by omega
          simp [this])
        refine ⟨.agg ((List.range n).map fun j => ys.getD (i * sz + k + j) undef).toArray, ?_, .agg _ _ (by simp; omega) (fun j u y h1 h2 => ?_)⟩
        · simp [execOp, ho, hy, Instr.loadAt, Instr.sureAddr, loadVar, run_isAgg P w hu, hag, run_size P w hi', hsz, hrun]
        · obtain ⟨h3, hj⟩ := take_getElem? _ _ _ _ h1
          rw [List.getElem?_drop] at h3
          have : i * sz + k + j < ys.size := by omega
          simp [hj] at h2
          subst h2
          refine .r0 _ _ (hr _ u _ h3 ?_)
          rw [← Nat.add_assoc]
          simp [this]
    · rename_i cs hob
      exact ldBox_ok P G s o hd t x ho hl hob fun a w E hs => let ⟨b, K, C, h1, _, h2⟩ := R.eptr_inv (ev_E hs hx); ⟨b, K, C, h1, h2⟩
    · rename_i t0 sz' l hob
      have core : ∀ a w E, SimE G s a w E → sz' = sz → ∀ hi : i < l.length, ∃ b ys t', a.eval x = .pointer (some ⟨b, i * sz + k, none⟩) ∧ w.heap[b]? = some (.cells ys t' (0, 0)) ∧ (l[i]).length = sz ∧ i * sz + sz ≤ ys.size ∧
          ∀ (j : Nat) (u : V) (y : Value), (l[i])[j]? = some u → ys[i * sz + j]? = some y → R w (OT G s E) E u y := fun a w E hs hszz hi => by
        obtain ⟨b, K, C, hE, _, hy⟩ := R.eptr_inv (ev_E hs hx)
        obtain ⟨b1, K1, C1, h1, hz, h0, _, hK, hb⟩ := hs.hp id _ hob
        rw [hE] at h1
        cases h1
        subst hszz
        obtain ⟨ys, hh, hys, hKC, _, hr⟩ := hb
        refine ⟨b, ys, t0, hy, hh, hz _ (List.getElem_mem hi), ?_, fun j u y h1 h2 => hr i _ j u y (List.getElem?_eq_getElem hi) h1 h2⟩
        have : (i + 1) * sz' ≤ C * sz' := Nat.mul_le_mul_right _ (by omega)
        rw [hys]
        rw [Nat.succ_mul] at this
        omega
      split
      · rintro ⟨hszz, hk, hi⟩
        refine stepOK_val hd fun a w E hs => ?_
        obtain ⟨d, i', hu, hi', hag, hsz⟩ := loadK_inv hl
        obtain ⟨b, ys, t', hy, hh, hel, hle, hr⟩ := core a w E hs hszz hi
        have hlt' : i * sz + k < ys.size := by omega
        have hcell : w.cell? ⟨b, i * sz + k, none⟩ = some ys[i * sz + k] := by rw [cell_of_row w b _ ys t' (0, 0) hh]; simp [hlt']
        refine ⟨ys[i * sz + k], ?_, ?_⟩
        · simp [execOp, ho, hy, Instr.loadAt, Instr.sureAddr, loadVar, run_isAgg P w hu, hag, hcell]
        · have h1 : (l[i])[k]? = some ((l[i])[k]'(by omega)) := List.getElem?_eq_getElem _
          simp only [h1, Option.getD_some]
          exact hr k _ _ h1 (by simp [hlt'])
      · rintro ⟨hszz, hk, hi⟩
        refine stepOK_val hd fun a w E hs => ?_
        obtain ⟨d, i', hu, hi', hag, hsz⟩ := loadK_inv hl
        obtain ⟨b, ys, t', hy, hh, hel, hle, hr⟩ := core a w E hs hszz hi
        have hrun := load_cells (P := P) (w := w) (b := b) (o := i * sz + k) (n := n) (f := fun j => ys.getD (i * sz + k + j) undef) (fun j hj => by
          rw [cell_of_row w b _ ys t' (0, 0) hh]
          have : i * sz + k + j < ys.size := by omega
          simp [this])
        refine ⟨.agg ((List.range n).map fun j => ys.getD (i * sz + k + j) undef).toArray, ?_, .agg _ _ (by simp; omega) (fun j u y h1 h2 => ?_)⟩
        · simp [execOp, ho, hy, Instr.loadAt, Instr.sureAddr, loadVar, run_isAgg P w hu, hag, run_size P w hi', hsz, hrun]
        · obtain ⟨h3, hj⟩ := take_getElem? _ _ _ _ h1
          rw [List.getElem?_drop] at h3
          have : i * sz + k + j < ys.size := by omega
          simp [hj] at h2
          subst h2
          refine hr _ u _ h3 ?_
          rw [← Nat.add_assoc]
          simp [this]
    · trivial
  · exact load_ok P G s o hd t x ho
end Pm
open Go
namespace Pm
def flatA (l : List TypeDesc) : Nat → List TypeDesc
  | 0 => []
  | n + 1 => l ++ flatA l n
def flatF (P : Program) (g : TypeId → Option (List TypeDesc)) : List Field → Nat → Option (List TypeDesc)
  | [], _ => some []
  | f :: r, off => match g f.type with
    | some l => if f.name ≠ "_" ∧ f.offset = off ∧ (loadK P f.type).map (·.2) = some l.length then (flatF P g r (off + l.length)).map (l ++ ·) else none
    | none => none
def flatT (P : Program) : Nat → TypeId → Option (List TypeDesc)
  | 0, _ => none
  | d + 1, t => match P.underlying t with
    | some .bool => some [.bool]
    | some (.int k) => some [.int k]
    | some .string => some [.string]
    | some (.struct fs) => if P.stoodInHeld t = true then none else flatF P (flatT P d) fs.toList 0
    | some (.array n e) => match flatT P d e with
      | some l => if (loadK P e).map (·.2) = some l.length then some (flatA l n) else none
      | none => none
    | _ => none
def flatK (P : Program) (t : TypeId) : Option (List TypeDesc) := if P.eqGuardType P.depth t = true ∨ (loadK P t).map (·.1) ≠ some true then none else flatT P 6 t
def eqX : Value → Value → Bool
  | .bool a, .bool b => a == b
  | .int _ a, .int _ b => decide (a = b)
  | .string a, .string b => decide (a = b)
  | _, _ => false
def eqXs : List Value → List Value → Bool
  | [], [] => true
  | x :: xs, y :: ys => eqX x y && eqXs xs ys
  | _, _ => false
theorem Fits.len {ts : List TypeDesc} {xs : List Value} (h : Fits ts xs) : xs.length = ts.length := by
  induction h with
  | nil => rfl
  | cons _ _ ih => simp [ih]
theorem Fits.split {a b : List TypeDesc} : ∀ {xs : List Value}, Fits (a ++ b) xs → ∃ u v, xs = u ++ v ∧ Fits a u ∧ Fits b v := by
  induction a with
  | nil => intro xs h; exact ⟨[], xs, rfl, .nil, h⟩
  | cons t ts ih =>
    intro xs h
    cases h with
    | cons h r =>
      obtain ⟨u, v, rfl, h1, h2⟩ := ih r
      exact ⟨_ :: u, v, rfl, .cons h h1, h2⟩
theorem eqXs_app : ∀ {a b c d : List Value}, a.length = b.length → eqXs (a ++ c) (b ++ d) = (eqXs a b && eqXs c d)
  | [], [], _, _, _ => by simp [eqXs]
  | x :: a, y :: b, c, d, h => by
    have := eqXs_app (a := a) (b := b) (c := c) (d := d) (by simpa using h)
    simp [eqXs, this, Bool.and_assoc]
  | [], _ :: _, _, _, h => by simp at h
  | _ :: _, [], _, _, h => by simp at h
def mkX (P : Program) (t : TypeId) (xs : List Value) : Value := match P.underlying t with
  | some d => if isAggD d = true then .agg xs.toArray else xs.headD undef
  | none => undef
section
variable {P : Program}
theorem part_mk {w : World} {t : TypeId} {n : Nat} (hl : (loadK P t).map (·.2) = some n) (pre xs post : List Value) (hx : xs.length = n) (h1 : (loadK P t).map (·.1) = some false → n = 1) :
    (part t (pre ++ xs ++ post).toArray pre.length).run P w = .ok (mkX P t xs) w := by
  cases hk : loadK P t with
  | none => simp [hk] at hl
  | some q =>
    obtain ⟨ag, m⟩ := q
    simp only [hk, Option.map_some, Option.some.injEq] at hl h1
    subst hl
    obtain ⟨d, i, hu, hi, hag, hsz⟩ := loadK_inv hk
    cases ag with
    | false =>
      have hn1 := h1 rfl
      match xs, hx with
      | [x], _ =>
        rw [part_run_one hk _ _ x (by simp)]
        simp [mkX, hu, hag]
      | [], hx => simp at hx; omega
      | _ :: _ :: _, hx => simp at hx; omega
    | true =>
      rw [part_run_agg hk]
      have : (pre ++ xs ++ post).toArray.extract pre.length (pre.length + m) = xs.toArray := by
        apply Array.ext'
        simp [List.extract, ← hx]
      rw [this]
      simp [mkX, hu, hag]
def EqT (P : Program) (d : Nat) (t : TypeId) (ts : List TypeDesc) : Prop := ∀ (w : World) (xs ys : List Value), Fits ts xs → Fits ts ys → (Op.equalIn d t (mkX P t xs) (mkX P t ys)).run P w = .ok (eqXs xs ys) w
theorem flatT_one : ∀ {D : Nat} {t : TypeId} {l : List TypeDesc}, flatT P D t = some l → (loadK P t).map (·.1) = some false → l.length = 1 := by
  intro D t l h hk
  cases D with
  | zero => simp [flatT] at h
  | succ D =>
    cases hl : loadK P t with
    | none => simp [hl] at hk
    | some q =>
      obtain ⟨ag, m⟩ := q
      simp only [hl, Option.map_some, Option.some.injEq] at hk
      subst hk
      obtain ⟨d, i, hu, hi, hag, hsz⟩ := loadK_inv hl
      unfold flatT at h
      rw [hu] at h
      cases d <;> simp [isAggD] at hag h <;> subst h <;> rfl
theorem eqFields_flat {D d : Nat} (IH : ∀ t l, flatT P D t = some l → EqT P d t l) : ∀ (fs : List Field) (off : Nat) (ts : List TypeDesc), flatF P (flatT P D) fs off = some ts → ∀ (w : World) (px py xs ys : List Value), px.length = off → py.length = off → Fits ts xs → Fits ts ys →
    (Op.eqFields d (px ++ xs).toArray (py ++ ys).toArray fs).run P w = .ok (eqXs xs ys) w
  | [], off, ts, h, w, px, py, xs, ys, h1, h2, h3, h4 => by
    simp only [flatF, Option.some.injEq] at h
    subst h
    cases h3; cases h4
    simp [Op.eqFields, eqXs]
  | f :: fs, off, ts, h, w, px, py, xs, ys, h1, h2, h3, h4 => by
    unfold flatF at h
    split at h
    · rename_i l hl
      split at h
      · rename_i hc
        obtain ⟨c1, c2, c3⟩ := hc
        simp only [Option.map_eq_some_iff] at h
        obtain ⟨r, hr, rfl⟩ := h
        obtain ⟨ux, vx, rfl, fx1, fx2⟩ := h3.split
        obtain ⟨uy, vy, rfl, fy1, fy2⟩ := h4.split
        have o1 := flatT_one hl
        have p1 := part_mk (w := w) c3 px ux vx fx1.len o1
        have p2 := part_mk (w := w) c3 py uy vy fy1.len o1
        have p3 := IH _ _ hl w ux uy fx1 fy1
        have ih := eqFields_flat IH fs _ r hr w (px ++ ux) (py ++ uy) vx vy (by simp [h1, fx1.len]) (by simp [h2, fy1.len]) fx2 fy2
        simp only [Op.eqFields, c1, ne_eq, not_false_eq_true, if_true, Sem.run_bind]
        rw [c2, ← h1, ← List.append_assoc, p1]
        simp only [Result.andThen_ok]
        rw [h1, ← h2, ← List.append_assoc, p2]
        simp only [Result.andThen_ok, p3]
        rw [eqXs_app (by rw [fx1.len, fy1.len])]
        cases eqXs ux uy
        · simp
        · simpa using ih
      · cases h
    · cases h
theorem eqItems_flat {d e : Nat} {l : List TypeDesc} (hl : (loadK P e).map (·.2) = some l.length) (h1 : (loadK P e).map (·.1) = some false → l.length = 1) (IH : EqT P d e l) : ∀ (n k : Nat) (w : World) (px py xs ys : List Value), px.length = k * l.length → py.length = k * l.length → Fits (flatA l n) xs → Fits (flatA l n) ys →
    (Op.eqItems d e l.length (px ++ xs).toArray (py ++ ys).toArray (List.range' k n)).run P w = .ok (eqXs xs ys) w
  | 0, k, w, px, py, xs, ys, _, _, h3, h4 => by
    cases h3; cases h4
    simp [Op.eqItems, eqXs]
  | n + 1, k, w, px, py, xs, ys, q1, q2, h3, h4 => by
    obtain ⟨ux, vx, rfl, fx1, fx2⟩ := h3.split
    obtain ⟨uy, vy, rfl, fy1, fy2⟩ := h4.split
    have p1 := part_mk (w := w) hl px ux vx fx1.len h1
    have p2 := part_mk (w := w) hl py uy vy fy1.len h1
    have p3 := IH w ux uy fx1 fy1
    have ih := eqItems_flat hl h1 IH n (k + 1) w (px ++ ux) (py ++ uy) vx vy (by simp [q1, fx1.len, Nat.succ_mul]) (by simp [q2, fy1.len, Nat.succ_mul]) fx2 fy2
    rw [List.range'_succ]
    simp only [Op.eqItems, Sem.run_bind]
    rw [← q1, ← List.append_assoc, p1]
    simp only [Result.andThen_ok]
    rw [q1, ← q2, ← List.append_assoc, p2]
    simp only [Result.andThen_ok, p3]
    rw [eqXs_app (by rw [fx1.len, fy1.len])]
    cases eqXs ux uy
    · simp
    · simpa using ih
theorem eq_flat : ∀ (D m : Nat) (t : TypeId) (ts : List TypeDesc), flatT P D t = some ts → EqT P (D + m) t ts
  | 0, _, _, _, h => by simp [flatT] at h
  | D + 1, m, t, ts, h => by
    intro w xs ys hx hy
    unfold flatT at h
    cases hu : P.underlying t with
    | none => simp [hu] at h
    | some d =>
      rw [show D + 1 + m = (D + m) + 1 by omega]
      rw [hu] at h
      cases d with
      | bool =>
        simp only [Option.some.injEq] at h; subst h
        cases hx with
        | cons a r =>
          cases r
          cases hy with
          | cons b r =>
            cases r
            rename_i x y
            cases x <;> simp only [Fit] at a
            cases y <;> simp only [Fit] at b
            simp [mkX, hu, isAggD, eqXs, eqX, run_equalIn_bool' w _ _ _ _ hu]
      | int k =>
        simp only [Option.some.injEq] at h; subst h
        cases hx with
        | cons a r =>
          cases r
          cases hy with
          | cons b r =>
            cases r
            rename_i x y
            cases x <;> simp only [Fit] at a
            cases y <;> simp only [Fit] at b
            subst a; subst b
            simp [mkX, hu, isAggD, eqXs, eqX, run_equalIn_int w _ _ _ _ _ _ hu, int_beq]
      | string =>
        simp only [Option.some.injEq] at h; subst h
        cases hx with
        | cons a r =>
          cases r
          cases hy with
          | cons b r =>
            cases r
            rename_i x y
            cases x <;> simp only [Fit] at a
            cases y <;> simp only [Fit] at b
            simp [mkX, hu, isAggD, eqXs, eqX, run_equalIn_string w _ _ _ _ hu, ba_beq]
      | struct fs =>
        simp only at h
        split at h
        · cases h
        · rename_i hst
          have hfs : P.fieldsOf t = fs := by simp [Program.fieldsOf, hu]
          have := eqFields_flat (d := D + m) (fun t l h => eq_flat D m t l h) fs.toList 0 ts h w [] [] xs ys rfl rfl hx hy
          simp only [mkX, hu, isAggD, if_true]
          rw [run_equalIn_struct w (D + m) t _ _ (by rw [hfs]; exact hu) (by simpa using hst), hfs]
          simpa using this
      | array n e =>
        simp only at h
        split at h
        · rename_i l hl
          split at h
          · rename_i hc
            simp only [Option.some.injEq] at h
            subst h
            have := eqItems_flat hc (flatT_one hl) (eq_flat D m e l hl) n 0 w [] [] xs ys (by simp) (by simp) hx hy
            have hi : ∃ i, P.info? e = some i ∧ i.size = l.length := by
              cases hk : loadK P e with
              | none => simp [hk] at hc
              | some q =>
                obtain ⟨ag, z⟩ := q
                obtain ⟨_, i, _, hi, _, hs⟩ := loadK_inv hk
                simp only [hk, Option.map_some, Option.some.injEq] at hc
                exact ⟨i, hi, hs.trans hc⟩
            obtain ⟨i, hi, his⟩ := hi
            have hce : P.cellsOf e = l.length := by simp [Program.cellsOf, hi, his]
            simp only [mkX, hu, isAggD, if_true]
            rw [run_equalIn_array w (D + m) _ _ hu hi, hce, List.range_eq_range']
            simpa using this
          · cases h
        · cases h
      | _ => simp at h
def fitB : TypeDesc → V → Bool
  | .bool, .v (.bool _) => true
  | .int k, .v (.int k' _) => decide (k' = k)
  | .string, .v (.string _) => true
  | _, _ => false
def fitsB : List TypeDesc → List V → Bool
  | [], [] => true
  | t :: ts, x :: xs => fitB t x && fitsB ts xs
  | _, _ => false
def eqV : V → V → Bool
  | .v x, .v y => eqX x y
  | _, _ => false
def eqVs : List V → List V → Bool
  | [], [] => true
  | x :: xs, y :: ys => eqV x y && eqVs xs ys
  | _, _ => false
theorem fitsB_spec : ∀ {ts : List TypeDesc} {cs : List V}, fitsB ts cs = true → ∃ xs, cs = xs.map .v ∧ Fits ts xs
  | [], [], _ => ⟨[], rfl, .nil⟩
  | t :: ts, x :: cs, h => by
    simp only [fitsB, Bool.and_eq_true] at h
    obtain ⟨xs, rfl, h2⟩ := fitsB_spec h.2
    have h1 := h.1
    unfold fitB at h1
    split at h1
    · exact ⟨_ :: xs, rfl, .cons trivial h2⟩
    · exact ⟨_ :: xs, rfl, .cons (by simp only [decide_eq_true_eq] at h1; exact h1) h2⟩
    · exact ⟨_ :: xs, rfl, .cons trivial h2⟩
    · cases h1
  | [], _ :: _, h => by simp [fitsB] at h
  | _ :: _, [], h => by simp [fitsB] at h
theorem eqVs_map : ∀ (xs ys : List Value), eqVs (xs.map .v) (ys.map .v) = eqXs xs ys
  | [], [] => rfl
  | x :: xs, y :: ys => by simp [eqVs, eqXs, eqV, eqVs_map xs ys]
  | [], _ :: _ => rfl
  | _ :: _, [] => rfl
def aggEq (op : BinOp) (C : Prop) (b : Bool) : Res := match op with
  | .eql => .go C fun _ => .v (.bool b)
  | .neq => .go C fun _ => .v (.bool (!b))
  | _ => .stuck
def aggRes (op : BinOp) (fk : Option (List TypeDesc)) : V → V → Res → Res
  | .agg cs, .agg ds, _ => match fk with
    | some ts => aggEq op (fitsB ts cs = true ∧ fitsB ts ds = true) (eqVs cs ds)
    | none => .stuck
  | _, _, r => r
theorem scal_R {w : World} {O : Nat → Prop} {E : Env} {xs : List Value} {y : Value} (h : R w O E (.agg (xs.map .v)) y) : y = .agg xs.toArray := by
  obtain ⟨ys, rfl, hsz, hr⟩ := R.agg_inv h
  congr 1
  apply Array.ext'
  apply List.ext_getElem?
  intro j
  by_cases hj : j < xs.length
  · have hj' : j < ys.size := by simpa [hsz] using hj
    have := R.v_inv (hr j (.v xs[j]) ys[j] (by simp [hj]) (by simp [hj']))
    simp [hj, hj', this]
  · have hj' : ¬ j < ys.size := by simpa [hsz] using hj
    simp [hj, hj']
theorem aggRes_ok {G : Gh} {s : St} {o : Oper} (hd : ∀ d, o.dst = some d → d < G.n) {op : BinOp} {t t' : TypeId} {x y : Operand} (ho : o.op = .binOp op t x y t') : ResOK P G s o (aggRes op (flatK P t) (ev s x) (ev s y) (binRes op (tk P t) (ev s x) (ev s y))) := by
  unfold aggRes
  split
  · rename_i _ cs ds hx hy
    split
    · rename_i ts hts
      unfold flatK at hts
      split at hts
      · cases hts
      · rename_i hg
        obtain ⟨hg, hag⟩ := not_or.1 hg
        have key : ∀ a w E, SimE G s a w E → fitsB ts cs = true ∧ fitsB ts ds = true → (Op.equal t (a.eval x) (a.eval y)).run P w = .ok (eqVs cs ds) w ∧ (eqGuard op t x y (a.eval x) (a.eval y)).run P w = .ok () w ∧ ∃ xs ys, a.eval x = .agg xs ∧ a.eval y = .agg ys := by
          intro a w E hs ⟨h1, h2⟩
          obtain ⟨xs, rfl, f1⟩ := fitsB_spec h1
          obtain ⟨ys, rfl, f2⟩ := fitsB_spec h2
          have e1 := scal_R (ev_E hs hx)
          have e2 := scal_R (ev_E hs hy)
          have hag : ∃ d, P.underlying t = some d ∧ isAggD d = true := by
            cases hk : loadK P t with
            | none => simp [hk] at hag
            | some q =>
              obtain ⟨ag, z⟩ := q
              simp [hk] at hag
              subst hag
              obtain ⟨d, _, hu, _, h, _⟩ := loadK_inv hk
              exact ⟨d, hu, h⟩
          obtain ⟨d, hu, hag⟩ := hag
          refine ⟨?_, ?_, _, _, e1, e2⟩
          · have := eq_flat 6 9994 t ts hts w xs ys f1 f2
            simp only [mkX, hu, hag, if_true] at this
            rw [e1, e2, eqVs_map]
            exact this
          · rw [e1, e2]
            exact run_eqGuard_agg w op t x y _ _ (by simpa using hg)
        unfold aggEq
        split
        · intro hC
          refine stepOK_val hd fun a w E hs => ⟨_, ?_, .r0 _ _ (.v _)⟩
          obtain ⟨k1, k2, xs, ys, e1, e2⟩ := key a w E hs hC
          rw [e1, e2] at k1 k2
          simp [execOp, ho, k2, e1, e2, binOp, k1]
        · intro hC
          refine stepOK_val hd fun a w E hs => ⟨_, ?_, .r0 _ _ (.v _)⟩
          obtain ⟨k1, k2, xs, ys, e1, e2⟩ := key a w E hs hC
          rw [e1, e2] at k1 k2
          simp [execOp, ho, k2, e1, e2, binOp, k1]
        · trivial
    · trivial
  · exact bin_ok hd ho
end
end Pm
end Go.Proofs.YtppcbmpiphhphaaGreatDoor
