/- Operations that give a value and write nothing: what each asks, what it gives, and that the machine's run gives that. No program in sight. -/
import Derived.Test.YtgienbcekgokiaaPm2
namespace Go.Proofs.Ytgienbcekgokiaa
open Go
set_option linter.unusedSimpArgs false
set_option linter.unusedVariables false
namespace Pm

/-! The types' facts that the operations ask, as functions that a seat's own closed facts answer. -/
def sliceElem (P : Program) (t : TypeId) : Option (TypeId × Nat) := match P.underlying t with
  | some (.slice e) => (P.info? e).map fun i => (e, i.size)
  | _ => none
def arrElem (P : Program) (t : TypeId) : Option (Nat × Nat) := match P.underlying t with
  | some (.array n e) => (P.info? e).map fun i => (n, i.size)
  | _ => none
def isAggD : TypeDesc → Bool
  | .struct _ | .array _ _ => true
  | _ => false
def loadK (P : Program) (t : TypeId) : Option (Bool × Nat) := match P.underlying t, P.info? t with
  | some d, some i => some (isAggD d, i.size)
  | _, _ => none
def fieldK (P : Program) (t k : Nat) : Option (Nat × Bool × Nat) := match P.underlying t with
  | some (.struct fs) => (fs[k]?).bind fun f => (loadK P f.type).bind fun x => if x.2 = 0 then none else some (f.offset, x)
  | _ => none
/-- what kind of a type it is, for 'len', 'convert', '==' -/
inductive TK | str | slc | int (k : IntKind) | bool | ptr | mp | other
def tkD : TypeDesc → TK
  | .string => .str
  | .slice _ => .slc
  | .int k => .int k
  | .bool => .bool
  | .pointer _ => .ptr
  | .map _ _ => .mp
  | _ => .other
def tk (P : Program) (t : TypeId) : TK := match P.underlying t with
  | some d => tkD d
  | none => .other

section
variable (P : Program) (w : World)
theorem run_under {t : TypeId} {d : TypeDesc} (h : P.underlying t = some d) : (underlying t).run P w = .ok d w := by
  simp [underlying, h]
theorem run_size {t : TypeId} {i : TypeInfo} (h : P.info? t = some i) : (sizeOf t).run P w = .ok i.size w := by
  simp [sizeOf, typeInfo, h]
theorem run_isAgg {t : TypeId} {d : TypeDesc} (h : P.underlying t = some d) : (isAgg t).run P w = .ok (isAggD d) w := by
  cases d <;> simp [isAgg, run_under P w h, isAggD]
end
theorem add_none (b o n : Nat) : (⟨b, o, none⟩ : Addr).add n = ⟨b, o + n, none⟩ := by
  unfold Addr.add
  split
  · subst_vars; rfl
  · rfl
theorem sliceElem_inv {P : Program} {t e sz : Nat} (h : sliceElem P t = some (e, sz)) : P.underlying t = some (.slice e) ∧ ∃ i, P.info? e = some i ∧ i.size = sz := by
  unfold sliceElem at h
  split at h
  · rename_i e' he
    cases hi : P.info? e' with
    | none => simp [hi] at h
    | some i => simp [hi] at h; obtain ⟨rfl, rfl⟩ := h; exact ⟨he, i, hi, rfl⟩
  · cases h
theorem arrElem_inv {P : Program} {t n sz : Nat} (h : arrElem P t = some (n, sz)) : ∃ e, P.underlying t = some (.array n e) ∧ ∃ i, P.info? e = some i ∧ i.size = sz := by
  unfold arrElem at h
  split at h
  · rename_i m e' he
    cases hi : P.info? e' with
    | none => simp [hi] at h
    | some i => simp [hi] at h; obtain ⟨rfl, rfl⟩ := h; exact ⟨e', he, i, hi, rfl⟩
  · cases h
theorem loadK_inv {P : Program} {t n : Nat} {b : Bool} (h : loadK P t = some (b, n)) : ∃ d i, P.underlying t = some d ∧ P.info? t = some i ∧ isAggD d = b ∧ i.size = n := by
  unfold loadK at h
  split at h
  · rename_i d i h1 h2
    simp at h
    exact ⟨d, i, h1, h2, h.1, h.2⟩
  · cases h
theorem fieldK_inv {P : Program} {t k off n : Nat} {b : Bool} (h : fieldK P t k = some (off, b, n)) :
    ∃ fs f, P.underlying t = some (.struct fs) ∧ fs[k]? = some f ∧ f.offset = off ∧ loadK P f.type = some (b, n) ∧ n ≠ 0 := by
  unfold fieldK at h
  split at h
  · rename_i fs hs
    cases hf : fs[k]? with
    | none => simp [hf] at h
    | some f =>
      cases hl : loadK P f.type with
      | none => simp [hf, hl] at h
      | some x =>
        obtain ⟨b', n'⟩ := x
        simp only [hf, hl, Option.bind_some] at h
        split at h
        · cases h
        · simp at h
          obtain ⟨rfl, rfl, rfl⟩ := h
          exact ⟨fs, f, hs, hf, rfl, hl, by assumption⟩
  · cases h

/-! The inversions. -/
section
variable {w : World} {O : Nat → Prop} {E : Env}
theorem R.lst_inv {lo sz : Nat} {l : List (List V)} {y : Value} (h : R w O E (.lst lo sz l) y) :
    ∃ a cap b o, ∃ g : Nat → Nat → Value, y = .slice a l.length cap ∧ l.length ≤ cap ∧ l.length ≤ 140737488355328 ∧ (l ≠ [] → a = some ⟨b, o, none⟩ ∧ ¬ O b ∧ b < w.heap.size) ∧
      (∀ (i : Nat) (x : List V) (j : Nat) (u : V), l[i]? = some x → x[j]? = some u → w.cell? ⟨b, o + (i * sz + j), none⟩ = some (g i j)) ∧ (∀ x, x ∈ l → x.length = sz) ∧
      (∀ (i : Nat) (x : List V) (j : Nat) (u : V), l[i]? = some x → x[j]? = some u → R0 w O u (g i j)) := by
  cases h with
  | r0 _ _ h =>
    cases h with
    | lst _ _ _ a n cap b o g hlo hn hc hl ha hs hz hr => exact ⟨a, cap, b, o, g, by rw [hn], hc, hl, ha, fun i x j u h1 h2 => (hs i x j u h1 h2).1, hz, hr⟩
theorem R.lst_inv' {lo sz : Nat} {l : List (List V)} {y : Value} (h : R w O E (.lst lo sz l) y) :
    ∃ a cap b o, ∃ g : Nat → Nat → Value, y = .slice a l.length cap ∧ l.length ≤ cap ∧ l.length ≤ 140737488355328 ∧ (l ≠ [] → a = some ⟨b, o, none⟩ ∧ ¬ O b ∧ b < w.heap.size) ∧
      (∀ (i : Nat) (x : List V) (j : Nat) (u : V), l[i]? = some x → x[j]? = some u → cellA w ⟨b, o + (i * sz + j), none⟩ (g i j)) ∧ (∀ x, x ∈ l → x.length = sz) ∧
      (∀ (i : Nat) (x : List V) (j : Nat) (u : V), l[i]? = some x → x[j]? = some u → R0 w O u (g i j)) ∧ (l ≠ [] → lo ≤ b) := by
  cases h with
  | r0 _ _ h =>
    cases h with
    | lst _ _ _ a n cap b o g hlo hn hc hl ha hs hz hr => exact ⟨a, cap, b, o, g, by rw [hn], hc, hl, ha, hs, hz, hr, hlo⟩
theorem R.fp_inv {cs : List V} {y : Value} (h : R w O E (.fp cs) y) :
    ∃ b o, ∃ g : Nat → Value, y = .pointer (some ⟨b, o, none⟩) ∧ ¬ O b ∧ b < w.heap.size ∧ (∀ (j : Nat) (u : V), cs[j]? = some u → cellA w ⟨b, o + j, none⟩ (g j)) ∧
      (∀ (j : Nat) (u : V), cs[j]? = some u → R0 w O u (g j)) := by
  cases h with
  | r0 _ _ h =>
    cases h with
    | fp _ b o g hO hb hs hr => exact ⟨b, o, g, rfl, hO, hb, hs, hr⟩
theorem R.ptr_inv {id off : Nat} {y : Value} (h : R w O E (.ptr id off) y) : ∃ b K C, E id = some (some b, K, C) ∧ y = .pointer (some ⟨b, off, none⟩) := by
  cases h with
  | r0 _ _ h => cases h
  | ptr _ _ b K C h => exact ⟨b, K, C, h, rfl⟩
theorem R.eptr_inv {id i k sz : Nat} {y : Value} (h : R w O E (.eptr id i k sz) y) : ∃ b K C, E id = some (some b, K, C) ∧ i < K ∧ y = .pointer (some ⟨b, i * sz + k, none⟩) := by
  cases h with
  | r0 _ _ h => cases h
  | eptr _ _ _ _ b K C h hi => exact ⟨b, K, C, h, hi, rfl⟩
theorem R.own_inv {id off len sz : Nat} {y : Value} (h : R w O E (.own id off len sz) y) : ∃ b K C, E id = some (b, K, C) ∧ ownVal b K C off len sz y := by
  cases h with
  | r0 _ _ h => cases h
  | own _ _ _ _ b K C _ h hv => exact ⟨b, K, C, h, hv⟩
theorem R.mp_inv {id : Nat} {y : Value} (h : R w O E (.mp id) y) : ∃ b K C, E id = some (some b, K, C) ∧ y = .map (some b) := by
  cases h with
  | r0 _ _ h => cases h
  | mp id b K C h => exact ⟨b, K, C, h, rfl⟩
theorem R.agg_inv {cs : List V} {y : Value} (h : R w O E (.agg cs) y) :
    ∃ ys : Array Value, y = .agg ys ∧ ys.size = cs.length ∧ ∀ (j : Nat) (u : V) (y : Value), cs[j]? = some u → ys[j]? = some y → R w O E u y := by
  cases h with
  | r0 _ _ h =>
    cases h with
    | agg _ ys hn hr => exact ⟨ys, rfl, hn, fun j u y h1 h2 => .r0 _ _ (hr j u y h1 h2)⟩
  | agg _ ys hn hr => exact ⟨ys, rfl, hn, hr⟩
theorem R.tup_inv {cs : List V} {y : Value} (h : R w O E (.tup cs) y) :
    ∃ ys : Array Value, y = .tuple ys ∧ ys.size = cs.length ∧ ∀ (j : Nat) (u : V) (y : Value), cs[j]? = some u → ys[j]? = some y → R w O E u y := by
  cases h with
  | r0 _ _ h =>
    cases h with
    | tup _ ys hn hr => exact ⟨ys, rfl, hn, fun j u y h1 h2 => .r0 _ _ (hr j u y h1 h2)⟩
  | tup _ ys hn hr => exact ⟨ys, rfl, hn, hr⟩
theorem R.fn_inv {f : Fn} {cap : List V} {y : Value} (h : R w O E (.fn f cap) y) :
    ∃ ys : Array Value, y = fnVal f ys ∧ ys.size = cap.length ∧ ∀ (j : Nat) (u : V) (y : Value), cap[j]? = some u → ys[j]? = some y → R w O E u y := by
  cases h with
  | r0 _ _ h =>
    cases h with
    | fn _ _ ys hn hr => exact ⟨ys, rfl, hn, fun j u y h1 h2 => .r0 _ _ (hr j u y h1 h2)⟩
  | fn _ _ ys hn hr => exact ⟨ys, rfl, hn, hr⟩
end

/-! 'x[i]', the place. -/
def ixaRes : Option (TypeId × Nat) → Option (Nat × Nat) → V → V → Res
  | some (_, sz'), _, .lst _ sz l, .v (.int _ n) => .go (sz' = sz ∧ 0 ≤ n ∧ n.toNat < l.length) fun h => .fp (l[n.toNat]'h.2.2)
  | some (_, sz'), _, .own id off len sz, .v (.int _ n) => .go (sz' = sz ∧ 0 ≤ n ∧ n < len) fun _ => .eptr id (off + n.toNat) 0 sz
  | none, some (m, sz), .fp cs, .v (.int _ n) => .go (0 ≤ n ∧ n < m) fun _ => .fp (cs.drop (n.toNat * sz))
  | none, some (m, sz), .ptr id off, .v (.int _ n) => .go (0 ≤ n ∧ n < m) fun _ => .ptr id (off + n.toNat * sz)
  | _, _, _, _ => .stuck

theorem ixa_ok (P : Program) (G : Gh) (s : St) (o : Oper) (hd : ∀ d, o.dst = some d → d < G.n) (t : TypeId) (x i : Operand) (ho : o.op = .indexAddr t x i) :
    ResOK P G s o (ixaRes (sliceElem P t) (arrElem P t) (ev s x) (ev s i)) := by
  unfold ixaRes
  split
  · rename_i e0 sz' lo sz l k n hse hx hi
    rintro ⟨rfl, h0, hlt⟩
    refine stepOK_val hd fun a w E hs => ?_
    obtain ⟨hu, inf, hinf, hsz⟩ := sliceElem_inv hse
    obtain ⟨ad, cap, b, of', g, hy, hc, hl, ha, hcell, hz, hr, _⟩ := R.lst_inv' (ev_E hs hx)
    have hyi := R.v_inv (ev_E hs hi)
    have hne : l ≠ [] := by rintro rfl; simp at hlt
    obtain ⟨rfl, hO, hb⟩ := ha hne
    refine ⟨.pointer (some ⟨b, of' + n.toNat * sz', none⟩), ?_, ?_⟩
    · have hn' : n < (l.length : Int) := by omega
      simp [execOp, ho, Instr.indexAt, asIntOf, hyi, hy, run_under P w hu, run_size P w hinf, hsz, h0, hn', add_none]
    · refine .r0 _ _ (.fp _ b _ (fun j => g n.toNat j) hO hb (fun j u hj => ?_) (fun j u hj => hr n.toNat _ j u (List.getElem?_eq_getElem hlt) hj))
      rw [Nat.add_assoc]
      exact hcell n.toNat _ j u (List.getElem?_eq_getElem hlt) hj
  · rename_i e0 sz' id off len sz k n hse hx hi
    rintro ⟨rfl, h0, hlt⟩
    refine stepOK_val hd fun a w E hs => ?_
    obtain ⟨hu, inf, hinf, hsz⟩ := sliceElem_inv hse
    obtain ⟨b, K, C, hE, hv⟩ := R.own_inv (ev_E hs hx)
    have hyi := R.v_inv (ev_E hs hi)
    obtain ⟨hle, hKC, hv⟩ := hv
    cases b with
    | none => obtain ⟨_, rfl, _⟩ := hv; simp at hlt; omega
    | some b =>
      obtain ⟨o', ho', hy⟩ := hv
      have := ho' (.inl (by omega))
      subst this
      refine ⟨.pointer (some ⟨b, (off + n.toNat) * sz' + 0, none⟩), ?_, .eptr _ _ _ _ b K C hE (by omega)⟩
      simp [execOp, ho, Instr.indexAt, asIntOf, hyi, hy, run_under P w hu, run_size P w hinf, hsz, h0, hlt, add_none, Nat.add_mul]
  · rename_i m sz cs k n hse hae hx hi
    rintro ⟨h0, hlt⟩
    refine stepOK_val hd fun a w E hs => ?_
    obtain ⟨e, hu, inf, hinf, hsz⟩ := arrElem_inv hae
    obtain ⟨b, of', g, hy, hO, hb, hcell, hr⟩ := R.fp_inv (ev_E hs hx)
    have hyi := R.v_inv (ev_E hs hi)
    refine ⟨.pointer (some ⟨b, of' + n.toNat * sz, none⟩), ?_, ?_⟩
    · simp [execOp, ho, Instr.indexAt, asIntOf, hyi, hy, run_under P w hu, run_size P w hinf, hsz, h0, hlt, add_none, Instr.sureAddr]
    · refine .r0 _ _ (.fp _ b _ (fun j => g (n.toNat * sz + j)) hO hb (fun j u hj => ?_) (fun j u hj => hr _ _ (by rw [← hj, List.getElem?_drop])))
      rw [Nat.add_assoc]
      exact hcell _ u (by rw [← hj, List.getElem?_drop])
  · rename_i m sz id off k n hse hae hx hi
    rintro ⟨h0, hlt⟩
    refine stepOK_val hd fun a w E hs => ?_
    obtain ⟨e, hu, inf, hinf, hsz⟩ := arrElem_inv hae
    obtain ⟨b, K, C, hE, hy⟩ := R.ptr_inv (ev_E hs hx)
    have hyi := R.v_inv (ev_E hs hi)
    refine ⟨.pointer (some ⟨b, off + n.toNat * sz, none⟩), ?_, .ptr _ _ b K C hE⟩
    simp [execOp, ho, Instr.indexAt, asIntOf, hyi, hy, run_under P w hu, run_size P w hinf, hsz, h0, hlt, add_none, Instr.sureAddr]
  · trivial

/-! Copies. -/
theorem move_ok (P : Program) (G : Gh) (s : St) (o : Oper) (hd : ∀ d, o.dst = some d → d < G.n) (x : Operand) (ho : o.op = .move x ∨ o.op = .assign x) :
    ResOK P G s o (.go True fun _ => ev s x) := by
  intro _
  refine stepOK_val hd fun a w E hs => ⟨a.eval x, ?_, ev_R hs x⟩
  rcases ho with ho | ho <;> simp [execOp, ho]
def pickRes : V → V → V → Res
  | .v (.bool c), .v (.bool a), .v (.bool b) => .go True fun _ => .v (.bool (bif c then a else b))
  | .v (.bool true), a, _ => .go True fun _ => a
  | .v (.bool false), _, b => .go True fun _ => b
  | _, _, _ => .stuck
theorem pick_ok (P : Program) (G : Gh) (s : St) (o : Oper) (hd : ∀ d, o.dst = some d → d < G.n) (c x y : Operand) (ho : o.op = .pick c x y) :
    ResOK P G s o (pickRes (ev s c) (ev s x) (ev s y)) := by
  unfold pickRes
  split
  · rename_i b p q hc hx hy
    intro _
    refine stepOK_val hd fun a w E hs => ⟨.bool (bif b then p else q), ?_, .r0 _ _ (.v _)⟩
    have hyc := R.v_inv (ev_E hs hc)
    have hyx := R.v_inv (ev_E hs hx)
    have hyy := R.v_inv (ev_E hs hy)
    cases b <;> simp [execOp, ho, hyc, hyx, hyy, asBool]
  · rename_i hc _
    intro _
    refine stepOK_val hd fun a w E hs => ⟨a.eval x, ?_, ev_R hs x⟩
    have hyc := R.v_inv (ev_E hs hc)
    simp [execOp, ho, hyc, asBool]
  · rename_i hc _
    intro _
    refine stepOK_val hd fun a w E hs => ⟨a.eval y, ?_, ev_R hs y⟩
    have hyc := R.v_inv (ev_E hs hc)
    simp [execOp, ho, hyc, asBool]
  · trivial
def nilRes : V → Res
  | .fp cs => .go True fun _ => .fp cs
  | .ptr id off => .go True fun _ => .ptr id off
  | .eptr id i k sz => .go True fun _ => .eptr id i k sz
  | .fn (.func f) cap => .go True fun _ => .fn (.func f) cap
  | _ => .stuck
theorem nilCheck_ok (P : Program) (G : Gh) (s : St) (o : Oper) (hd : ∀ d, o.dst = some d → d < G.n) (x : Operand) (ho : o.op = .nilCheck x) :
    ResOK P G s o (nilRes (ev s x)) := by
  unfold nilRes
  split
  · rename_i cs hx
    intro _
    refine stepOK_val hd fun a w E hs => ⟨a.eval x, ?_, ev_E hs hx⟩
    obtain ⟨b, of', g, hy, _⟩ := R.fp_inv (ev_E hs hx)
    simp [execOp, ho, hy]
  · rename_i id off hx
    intro _
    refine stepOK_val hd fun a w E hs => ⟨a.eval x, ?_, ev_E hs hx⟩
    obtain ⟨b, K, C, hE, hy⟩ := R.ptr_inv (ev_E hs hx)
    simp [execOp, ho, hy]
  · rename_i id i k sz hx
    intro _
    refine stepOK_val hd fun a w E hs => ⟨a.eval x, ?_, ev_E hs hx⟩
    obtain ⟨b, K, C, hE, _, hy⟩ := R.eptr_inv (ev_E hs hx)
    simp [execOp, ho, hy]
  · rename_i f cap hx
    intro _
    refine stepOK_val hd fun a w E hs => ⟨a.eval x, ?_, ev_E hs hx⟩
    obtain ⟨ys, hy, _⟩ := R.fn_inv (ev_E hs hx)
    simp [execOp, ho, hy, fnVal]
  · trivial

/-! Loads. -/
def ldRes : Option (Bool × Nat) → V → Res
  | some (false, _), .fp (c :: _) => .go True fun _ => c
  | some (true, n), .fp cs => .go (n ≤ cs.length) fun _ => .agg (cs.take n)
  | _, _ => .stuck
theorem take_getElem? {α : Type _} (l : List α) (n j : Nat) (u : α) (h : (l.take n)[j]? = some u) : l[j]? = some u ∧ j < n := by
  rw [List.getElem?_take] at h
  split at h
  · exact ⟨h, by assumption⟩
  · cases h
theorem load_cells {P : Program} {w : World} {b o n : Nat} {f : Nat → Value} (h : ∀ j, j < n → w.cell? ⟨b, o + j, none⟩ = some (f j)) :
    (loadCells ⟨b, o, none⟩ n).run P w = .ok ((List.range n).map f).toArray w := by
  have := run_loadCells (P := P) (w := w) ⟨b, o, none⟩ n f (fun j hj => by rw [add_none]; exact h j hj)
  simpa using this
theorem load_ok (P : Program) (G : Gh) (s : St) (o : Oper) (hd : ∀ d, o.dst = some d → d < G.n) (t : TypeId) (x : Operand) (ho : o.op = .load t x) :
    ResOK P G s o (ldRes (loadK P t) (ev s x)) := by
  unfold ldRes
  split
  · rename_i n c cs hl hx
    intro _
    refine stepOK_val hd fun a w E hs => ?_
    obtain ⟨d, i, hu, hi, hag, hsz⟩ := loadK_inv hl
    obtain ⟨b, of', g, hy, hO, hb, hcell, hr⟩ := R.fp_inv (ev_E hs hx)
    have h0 := (hcell 0 c rfl).1
    refine ⟨g 0, ?_, .r0 _ _ (hr 0 c rfl)⟩
    simp only [Nat.add_zero] at h0
    simp [execOp, ho, hy, Instr.loadAt, Instr.sureAddr, loadVar, run_isAgg P w hu, hag, h0]
  · rename_i n cs hl hx
    intro hle
    refine stepOK_val hd fun a w E hs => ?_
    obtain ⟨d, i, hu, hi, hag, hsz⟩ := loadK_inv hl
    obtain ⟨b, of', g, hy, hO, hb, hcell, hr⟩ := R.fp_inv (ev_E hs hx)
    have hrun := load_cells (P := P) (w := w) (b := b) (o := of') (n := n) (f := g) (fun j hj => (hcell j _ (List.getElem?_eq_getElem (by omega))).1)
    refine ⟨.agg ((List.range n).map g).toArray, ?_, .r0 _ _ (.agg _ _ (by simp; omega) (fun j u y h1 h2 => ?_))⟩
    · simp [execOp, ho, hy, Instr.loadAt, Instr.sureAddr, loadVar, run_isAgg P w hu, hag, run_size P w hi, hsz, hrun]
    · obtain ⟨h1, hj⟩ := take_getElem? _ _ _ _ h1
      simp [hj] at h2
      subst h2
      exact hr j u h1
  · trivial

/-! A field's place; a field; a part of a tuple. -/
def fldaRes : Option (Nat × Bool × Nat) → V → Res
  | some (k, _, _), .fp cs => .go True fun _ => .fp (cs.drop k)
  | some (k, _, _), .ptr id off => .go True fun _ => .ptr id (off + k)
  | some (k, _, _), .eptr id i k' sz => .go True fun _ => .eptr id i (k' + k) sz
  | _, _ => .stuck
theorem fieldPlace_run {P : Program} {w : World} {f : Field} {b : Bool} {n : Nat} (h : loadK P f.type = some (b, n)) (hn : n ≠ 0) (bl of' : Nat) :
    (fieldPlace ⟨bl, of', none⟩ f).run P w = .ok ⟨bl, of' + f.offset, none⟩ w := by
  obtain ⟨d, i, hu, hi, hag, hsz⟩ := loadK_inv h
  simp [fieldPlace, run_size P w hi, hsz, hn, add_none]
theorem fieldAddr_ok (P : Program) (G : Gh) (s : St) (o : Oper) (hd : ∀ d, o.dst = some d → d < G.n) (t : TypeId) (x : Operand) (k : Nat) (ho : o.op = .fieldAddr t x k) :
    ResOK P G s o (fldaRes (fieldK P t k) (ev s x)) := by
  unfold fldaRes
  split
  · rename_i off ag n cs hf hx
    intro _
    refine stepOK_val hd fun a w E hs => ?_
    obtain ⟨fs, f, hu, hfk, rfl, hl, hn⟩ := fieldK_inv hf
    obtain ⟨b, of', g, hy, hO, hb, hcell, hr⟩ := R.fp_inv (ev_E hs hx)
    refine ⟨.pointer (some ⟨b, of' + f.offset, none⟩), ?_, ?_⟩
    · simp [execOp, ho, hy, Instr.fieldAt, Instr.sureAddr, run_under P w hu, hfk, fieldPlace_run hl hn]
    · refine .r0 _ _ (.fp _ b _ (fun j => g (f.offset + j)) hO hb (fun j u hj => ?_) (fun j u hj => hr _ _ (by rw [← hj, List.getElem?_drop])))
      rw [Nat.add_assoc]
      exact hcell _ u (by rw [← hj, List.getElem?_drop])
  · rename_i off ag n id of' hf hx
    intro _
    refine stepOK_val hd fun a w E hs => ?_
    obtain ⟨fs, f, hu, hfk, rfl, hl, hn⟩ := fieldK_inv hf
    obtain ⟨b, K, C, hE, hy⟩ := R.ptr_inv (ev_E hs hx)
    refine ⟨.pointer (some ⟨b, of' + f.offset, none⟩), ?_, .ptr _ _ b K C hE⟩
    simp [execOp, ho, hy, Instr.fieldAt, Instr.sureAddr, run_under P w hu, hfk, fieldPlace_run hl hn]
  · rename_i off ag n id i k' sz hf hx
    intro _
    refine stepOK_val hd fun a w E hs => ?_
    obtain ⟨fs, f, hu, hfk, rfl, hl, hn⟩ := fieldK_inv hf
    obtain ⟨b, K, C, hE, hiK, hy⟩ := R.eptr_inv (ev_E hs hx)
    refine ⟨.pointer (some ⟨b, i * sz + (k' + f.offset), none⟩), ?_, .eptr _ _ _ _ b K C hE hiK⟩
    simp [execOp, ho, hy, Instr.fieldAt, Instr.sureAddr, run_under P w hu, hfk, fieldPlace_run hl hn, Nat.add_assoc]
  · trivial
def fldRes : Option (Nat × Bool × Nat) → V → Res
  | some (k, false, _), .agg cs => match cs[k]? with
    | some c => .go True fun _ => c
    | none => .stuck
  | some (k, true, n), .agg cs => .go (k + n ≤ cs.length) fun _ => .agg ((cs.drop k).take n)
  | _, _ => .stuck
theorem part_run_one {P : Program} {w : World} {t n : Nat} (h : loadK P t = some (false, n)) (ys : Array Value) (k : Nat) (y : Value) (hk : ys[k]? = some y) :
    (part t ys k).run P w = .ok y w := by
  obtain ⟨d, i, hu, hi, hag, hsz⟩ := loadK_inv h
  simp [part, run_isAgg P w hu, hag, hk]
theorem part_run_agg {P : Program} {w : World} {t n : Nat} (h : loadK P t = some (true, n)) (ys : Array Value) (k : Nat) :
    (part t ys k).run P w = .ok (.agg (ys.extract k (k + n))) w := by
  obtain ⟨d, i, hu, hi, hag, hsz⟩ := loadK_inv h
  simp [part, run_isAgg P w hu, hag, run_size P w hi, hsz]
theorem field_ok (P : Program) (G : Gh) (s : St) (o : Oper) (hd : ∀ d, o.dst = some d → d < G.n) (t : TypeId) (x : Operand) (k : Nat) (ho : o.op = .field t x k) :
    ResOK P G s o (fldRes (fieldK P t k) (ev s x)) := by
  unfold fldRes
  split
  · rename_i off n cs hf hx
    split
    · rename_i c hc
      intro _
      refine stepOK_val hd fun a w E hs => ?_
      obtain ⟨fs, f, hu, hfk, rfl, hl, hn⟩ := fieldK_inv hf
      obtain ⟨ys, hy, hsz, hr⟩ := R.agg_inv (ev_E hs hx)
      have hlt : f.offset < ys.size := by rw [hsz]; exact (List.getElem?_eq_some_iff.1 hc).1
      refine ⟨ys[f.offset], ?_, hr _ _ _ hc (by simp [hlt])⟩
      simp [execOp, ho, hy, Instr.field, asAgg, run_under P w hu, hfk, part_run_one hl ys f.offset _ (Array.getElem?_eq_getElem hlt)]
    · trivial
  · rename_i off n cs hf hx
    intro hle
    refine stepOK_val hd fun a w E hs => ?_
    obtain ⟨fs, f, hu, hfk, rfl, hl, hn⟩ := fieldK_inv hf
    obtain ⟨ys, hy, hsz, hr⟩ := R.agg_inv (ev_E hs hx)
    refine ⟨.agg (ys.extract f.offset (f.offset + n)), ?_, .agg _ _ (by simp; omega) (fun j u y h1 h2 => ?_)⟩
    · simp [execOp, ho, hy, Instr.field, asAgg, run_under P w hu, hfk, part_run_agg hl]
    · obtain ⟨h1, hj⟩ := take_getElem? _ _ _ _ h1
      rw [List.getElem?_drop] at h1
      refine hr _ u y h1 ?_
      rw [Array.getElem?_extract] at h2
      split at h2
      · exact h2
      · cases h2
  · trivial
def extRes (k : Nat) : V → Res
  | .tup cs => match cs[k]? with
    | some c => .go True fun _ => c
    | none => .stuck
  | _ => .stuck
theorem extract_ok (P : Program) (G : Gh) (s : St) (o : Oper) (hd : ∀ d, o.dst = some d → d < G.n) (x : Operand) (k : Nat) (ho : o.op = .extract x k) :
    ResOK P G s o (extRes k (ev s x)) := by
  unfold extRes
  split
  · rename_i cs hx
    split
    · rename_i c hc
      intro _
      refine stepOK_val hd fun a w E hs => ?_
      obtain ⟨ys, hy, hsz, hr⟩ := R.tup_inv (ev_E hs hx)
      have hlt : k < ys.size := by rw [hsz]; exact (List.getElem?_eq_some_iff.1 hc).1
      refine ⟨ys[k], ?_, hr _ _ _ hc (by simp [hlt])⟩
      simp [execOp, ho, hy, Instr.extract, hlt]
    · trivial
  · trivial

/-! 'len', and a string's byte. -/
def lenRes : TK → V → Res
  | .str, .v (.string s) => .go True fun _ => .v (.int .i64 s.size)
  | .slc, .lst _ _ l => .go True fun _ => .v (.int .i64 l.length)
  | .slc, .own _ _ len _ => .go True fun _ => .v (.int .i64 len)
  | .slc, .v (.slice _ n _) => .go True fun _ => .v (.int .i64 n)
  | _, _ => .stuck
theorem tk_str {P : Program} {t : Nat} (h : tk P t = .str) : P.underlying t = some .string := by
  unfold tk at h
  split at h
  · rename_i d hd; cases d <;> simp [tkD] at h; exact hd
  · cases h
theorem tk_slc {P : Program} {t : Nat} (h : tk P t = .slc) : ∃ e, P.underlying t = some (.slice e) := by
  unfold tk at h
  split at h
  · rename_i d hd; cases d <;> simp [tkD] at h; exact ⟨_, hd⟩
  · cases h
theorem tk_int {P : Program} {t : Nat} {k : IntKind} (h : tk P t = .int k) : P.underlying t = some (.int k) := by
  unfold tk at h
  split at h
  · rename_i d hd; cases d <;> simp [tkD] at h; subst h; exact hd
  · cases h
theorem tk_ptr {P : Program} {t : Nat} (h : tk P t = .ptr) : ∃ e, P.underlying t = some (.pointer e) := by
  unfold tk at h
  split at h
  · rename_i d hd; cases d <;> simp [tkD] at h; exact ⟨_, hd⟩
  · cases h
theorem tk_bool {P : Program} {t : Nat} (h : tk P t = .bool) : P.underlying t = some .bool := by
  unfold tk at h
  split at h
  · rename_i d hd; cases d <;> simp [tkD] at h; exact hd
  · cases h
theorem len_ok (P : Program) (G : Gh) (s : St) (o : Oper) (hd : ∀ d, o.dst = some d → d < G.n) (t : TypeId) (x : Operand)
    (ho : o.op = .call { callee := .builtin .len, args := #[x], argTypes := #[t] }) : ResOK P G s o (lenRes (tk P t) (ev s x)) := by
  unfold lenRes
  split
  · rename_i st ht hx
    intro _
    refine stepOK_val hd fun a w E hs => ⟨_, ?_, .r0 _ _ (.v _)⟩
    have hy := R.v_inv (ev_E hs hx)
    simp [execOp, ho, resolve, invoke, builtin, Builtin.len_, run_under P w (tk_str ht), hy, goInt]
  · rename_i sz l ht hx
    intro _
    refine stepOK_val hd fun a w E hs => ⟨_, ?_, .r0 _ _ (.v _)⟩
    obtain ⟨el, hu⟩ := tk_slc ht
    obtain ⟨ad, cap, b, of', g, hy, _⟩ := R.lst_inv (ev_E hs hx)
    simp [execOp, ho, resolve, invoke, builtin, Builtin.len_, run_under P w hu, hy, goInt]
  · rename_i id off len sz ht hx
    intro _
    refine stepOK_val hd fun a w E hs => ⟨_, ?_, .r0 _ _ (.v _)⟩
    obtain ⟨el, hu⟩ := tk_slc ht
    obtain ⟨b, K, C, hE, hv⟩ := R.own_inv (ev_E hs hx)
    have hy : ∃ ad c, a.eval x = .slice ad len c := by
      cases b with
      | none => obtain ⟨_, _, _, rfl, h⟩ := hv; exact ⟨_, _, h⟩
      | some b => obtain ⟨_, _, o', _, h⟩ := hv; exact ⟨_, _, h⟩
    obtain ⟨ad, c, hy⟩ := hy
    simp [execOp, ho, resolve, invoke, builtin, Builtin.len_, run_under P w hu, hy, goInt]
  · rename_i ad n c ht hx
    intro _
    refine stepOK_val hd fun a w E hs => ⟨_, ?_, .r0 _ _ (.v _)⟩
    obtain ⟨el, hu⟩ := tk_slc ht
    have hy := R.v_inv (ev_E hs hx)
    simp [execOp, ho, resolve, invoke, builtin, Builtin.len_, run_under P w hu, hy, goInt]
  · trivial
/-! the lesser, the greater of two numbers; a capacity -/
def mmRes : Builtin → V → V → Res
  | .min, .v (.int k x), .v (.int _ y) => .go True fun _ => .v (.int k (if y < x then y else x))
  | .max, .v (.int k x), .v (.int _ y) => .go True fun _ => .v (.int k (if x < y then y else x))
  | _, _, _ => .stuck
theorem mm_ok (P : Program) (G : Gh) (s : St) (o : Oper) (hd : ∀ d, o.dst = some d → d < G.n) (b : Builtin) (x y : Operand) (t t' : TypeId)
    (ho : o.op = .call ⟨.builtin b, ⟨[x, y]⟩, ⟨[t, t']⟩⟩) : ResOK P G s o (mmRes b (ev s x) (ev s y)) := by
  unfold mmRes
  split
  · rename_i k m k' n hx hy
    intro _
    refine stepOK_val hd fun a w E hs => ⟨_, ?_, .r0 _ _ (.v _)⟩
    have h1 := R.v_inv (ev_E hs hx)
    have h2 := R.v_inv (ev_E hs hy)
    simp [execOp, ho, resolve, invoke, builtin, Builtin.min_, Builtin.min2, h1, h2]
  · rename_i k m k' n hx hy
    intro _
    refine stepOK_val hd fun a w E hs => ⟨_, ?_, .r0 _ _ (.v _)⟩
    have h1 := R.v_inv (ev_E hs hx)
    have h2 := R.v_inv (ev_E hs hy)
    simp [execOp, ho, resolve, invoke, builtin, Builtin.max_, Builtin.max2, h1, h2]
  · trivial
def capRes : TK → V → Res
  | .slc, .v (.slice _ _ c) => .go True fun _ => .v (.int .i64 c)
  | _, _ => .stuck
theorem cap_ok (P : Program) (G : Gh) (s : St) (o : Oper) (hd : ∀ d, o.dst = some d → d < G.n) (t : TypeId) (x : Operand)
    (ho : o.op = .call ⟨.builtin .cap, ⟨[x]⟩, ⟨[t]⟩⟩) : ResOK P G s o (capRes (tk P t) (ev s x)) := by
  unfold capRes
  split
  · rename_i ad n c ht hx
    intro _
    refine stepOK_val hd fun a w E hs => ⟨_, ?_, .r0 _ _ (.v _)⟩
    obtain ⟨el, hu⟩ := tk_slc ht
    have hy := R.v_inv (ev_E hs hx)
    simp [execOp, ho, resolve, invoke, builtin, Builtin.cap_, run_under P w hu, hy, goInt]
  · trivial
def ixRes : TK → V → V → Res
  | .str, .v (.string s), .v (.int _ n) => .go (0 ≤ n ∧ n.toNat < s.size) fun h => .v (.int .u8 (s[n.toNat]'h.2).toNat)
  | _, _, _ => .stuck
theorem index_ok (P : Program) (G : Gh) (s : St) (o : Oper) (hd : ∀ d, o.dst = some d → d < G.n) (t : TypeId) (x i : Operand) (ho : o.op = .index t x i) :
    ResOK P G s o (ixRes (tk P t) (ev s x) (ev s i)) := by
  unfold ixRes
  split
  · rename_i st k n ht hx hi
    rintro ⟨h0, hlt⟩
    refine stepOK_val hd fun a w E hs => ⟨_, ?_, .r0 _ _ (.v _)⟩
    have hy := R.v_inv (ev_E hs hx)
    have hyi := R.v_inv (ev_E hs hi)
    have hg : st[n.toNat]? = some (st[n.toNat]'hlt) := by simp [hlt]
    simp [execOp, ho, Instr.index, asIntOf, run_under P w (tk_str ht), hy, hyi, h0, hg]
  · trivial
/-- an array's length, its elements' kind and size -/
def arrLoad (P : Program) (t : TypeId) : Option (Nat × Bool × Nat) := match P.underlying t with
  | some (.array n e) => (loadK P e).map fun x => (n, x)
  | _ => none
/-- 'x[i]', x an array's value -/
def ixgRes : Option (Nat × Bool × Nat) → V → V → Res → Res
  | some (n, false, m), .agg cs, .v (.int _ i), _ => .go (m = 1 ∧ cs.length = n ∧ 0 ≤ i ∧ i < n) fun _ => (cs[i.toNat]?).getD .any
  | some (n, true, m), .agg cs, .v (.int _ i), _ => .go (cs.length = n * m ∧ 0 ≤ i ∧ i < n) fun _ => .agg ((cs.drop (i.toNat * m)).take m)
  | _, _, _, r => r
theorem arrLoad_inv {P : Program} {t n m : Nat} {b : Bool} (h : arrLoad P t = some (n, b, m)) : ∃ e i, P.underlying t = some (.array n e) ∧ loadK P e = some (b, m) ∧ P.info? e = some i ∧ i.size = m := by
  unfold arrLoad at h
  split at h
  · rename_i n' e hu
    simp only [Option.map_eq_some_iff, Prod.mk.injEq] at h
    obtain ⟨x, h1, rfl, rfl⟩ := h
    obtain ⟨_, i, _, hi, _, hs⟩ := loadK_inv h1
    exact ⟨e, i, hu, h1, hi, hs⟩
  · cases h
theorem ixg_ok (P : Program) (G : Gh) (s : St) (o : Oper) (hd : ∀ d, o.dst = some d → d < G.n) (t : TypeId) (x i : Operand) (ho : o.op = .index t x i) (r : Res) (h : ResOK P G s o r) :
    ResOK P G s o (ixgRes (arrLoad P t) (ev s x) (ev s i) r) := by
  unfold ixgRes
  split
  · rename_i n m cs k j hl hx hi
    rintro ⟨rfl, h1, h2, h3⟩
    refine stepOK_val hd fun a w E hs => ?_
    obtain ⟨e, inf, hu, hk, hinf, hsz⟩ := arrLoad_inv hl
    obtain ⟨ys, hy, hys, hr⟩ := R.agg_inv (ev_E hs hx)
    have hyi := R.v_inv (ev_E hs hi)
    have hlt : j.toNat < ys.size := by omega
    have hc : cs[j.toNat]? = some (cs[j.toNat]'(by omega)) := List.getElem?_eq_getElem (by omega)
    rw [hc, Option.getD_some]
    refine ⟨ys[j.toNat], ?_, hr _ _ _ hc (by simp [hlt])⟩
    simp [execOp, ho, hy, hyi, Instr.index, asIntOf, run_under P w hu, h2, h3, run_size P w hinf, hsz, part_run_one hk ys j.toNat _ (Array.getElem?_eq_getElem hlt)]
  · rename_i n m cs k j hl hx hi
    rintro ⟨h1, h2, h3⟩
    refine stepOK_val hd fun a w E hs => ?_
    obtain ⟨e, inf, hu, hk, hinf, hsz⟩ := arrLoad_inv hl
    obtain ⟨ys, hy, hys, hr⟩ := R.agg_inv (ev_E hs hx)
    have hyi := R.v_inv (ev_E hs hi)
    have hle : (j.toNat + 1) * m ≤ n * m := Nat.mul_le_mul_right _ (by omega)
    rw [Nat.succ_mul] at hle
    refine ⟨.agg (ys.extract (j.toNat * m) (j.toNat * m + m)), ?_, .agg _ _ (by simp; omega) (fun q u y g1 g2 => ?_)⟩
    · simp [execOp, ho, hy, hyi, Instr.index, asIntOf, run_under P w hu, h2, h3, run_size P w hinf, hsz, part_run_agg hk]
    · obtain ⟨g1, hj⟩ := take_getElem? _ _ _ _ g1
      rw [List.getElem?_drop] at g1
      refine hr _ u y g1 ?_
      rw [Array.getElem?_extract] at g2
      split at g2
      · exact g2
      · cases g2
  · exact h
def mkfRes (f : Fn) (cap : List V) : Res := match f with
  | .func k => .go True fun _ => .fn (.func k) cap
  | _ => .stuck
theorem makeFunc_ok (P : Program) (G : Gh) (s : St) (o : Oper) (hd : ∀ d, o.dst = some d → d < G.n) (f : Fn) (cap : List Operand) (ho : o.op = .makeFunc f #[] cap.toArray) :
    ResOK P G s o (mkfRes f (cap.map (ev s))) := by
  unfold mkfRes
  split
  · rename_i k
    intro _
    refine stepOK_val hd fun a w E hs => ⟨.func (.func k) #[] (cap.toArray.map a.eval), ?_, .fn (.func k) _ (cap.toArray.map a.eval) (by simp) (fun j u y h1 h2 => ?_)⟩
    · simp [execOp, ho, Instr.makeFunc]
    · simp only [List.getElem?_map, Option.map_eq_some_iff] at h1
      obtain ⟨x, hx, rfl⟩ := h1
      simp [hx] at h2
      subst h2
      exact ev_R hs x
  · trivial
/-- bound to its first arguments -/
def mkbRes (f : Fn) (bs : List V) : Res := match f with
  | .func k => .go True fun _ => .fn (bndF k) bs
  | _ => .stuck
theorem makeBound_ok (P : Program) (G : Gh) (s : St) (o : Oper) (hd : ∀ d, o.dst = some d → d < G.n) (f : Fn) (bs : List Operand) (ho : o.op = .makeFunc f bs.toArray #[]) :
    ResOK P G s o (mkbRes f (bs.map (ev s))) := by
  unfold mkbRes
  split
  · rename_i k
    intro _
    refine stepOK_val hd fun a w E hs => ⟨.func (.func k) (bs.toArray.map a.eval) #[], ?_, .fn (bndF k) _ (bs.toArray.map a.eval) (by simp) (fun j u y h1 h2 => ?_)⟩
    · simp [execOp, ho, Instr.makeFunc]
    · simp only [List.getElem?_map, Option.map_eq_some_iff] at h1
      obtain ⟨x, hx, rfl⟩ := h1
      simp [hx] at h2
      subst h2
      exact ev_R hs x
  · trivial
end Pm
end Go.Proofs.Ytgienbcekgokiaa
