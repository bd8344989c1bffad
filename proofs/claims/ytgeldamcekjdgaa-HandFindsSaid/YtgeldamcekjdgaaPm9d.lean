/- Maps of one's own, by keys that are numbers, texts or bools: their entries in order. No program in sight. -/
import Derived.Test.YtgeldamcekjdgaaPm9c
namespace Go.Proofs.Ytgeldamcekjdgaa
open Go Go.RowKit Go.MapKept
set_option linter.unusedSimpArgs false
set_option linter.unusedVariables false
namespace Pm

def keyB : Value → Value → Bool
  | .int _ a, .int _ b => decide (a = b)
  | .string a, .string b => decide (a = b)
  | .bool a, .bool b => a == b
  | _, _ => false
theorem keyB_iff {d : TypeDesc} {a b : Value} (ha : IsKey d a) (hb : IsKey d b) : keyB a b = true ↔ a = b := by
  cases d <;> cases a <;> cases b <;> simp_all [IsKey, keyB]
def isKeyB : TypeDesc → Value → Bool
  | .bool, .bool _ => true
  | .int k, .int k' _ => decide (k' = k)
  | .string, .string _ => true
  | _, _ => false
theorem isKeyB_spec {d : TypeDesc} {v : Value} (h : isKeyB d v = true) : IsKey d v := by
  cases d <;> cases v <;> simp_all [IsKey, isKeyB]
def lkM : List (Value × V) → Value → Option V
  | [], _ => none
  | p :: r, k => if keyB p.1 k = true then some p.2 else lkM r k
def upM : List (Value × V) → Value → V → List (Value × V)
  | [], k, v => [(k, v)]
  | p :: r, k, v => if keyB p.1 k = true then (k, v) :: r else p :: upM r k v
def delM : List (Value × V) → Value → List (Value × V)
  | [], _ => []
  | p :: r, k => if keyB p.1 k = true then r else p :: delM r k

theorem find_rel {kd : TypeDesc} {k : Value} (hk : IsKey kd k) : ∀ (es : List MapEntry) (m : List (Value × V)) (n : Nat), es.length = m.length →
    (∀ (i : Nat) (e : MapEntry) (p : Value × V), es[i]? = some e → m[i]? = some p → e.key = p.1 ∧ IsKey kd p.1) →
    (Instr.findNow kd k es n = some none ∧ lkM m k = none ∧ (∀ v, upM m k v = m ++ [(k, v)]) ∧ delM m k = m ∧ ∀ x ∈ es, x.key ≠ k) ∨
    ∃ j e p, Instr.findNow kd k es n = some (some (n + j, e.val)) ∧ es[j]? = some e ∧ m[j]? = some p ∧ e.key = k ∧ lkM m k = some p.2 ∧ (∀ v, upM m k v = m.set j (k, v)) ∧ delM m k = m.eraseIdx j := by
  intro es
  induction es with
  | nil =>
    intro m n hl _
    have : m = [] := List.length_eq_zero_iff.1 hl.symm
    subst this
    exact .inl ⟨rfl, rfl, fun _ => rfl, rfl, by simp⟩
  | cons e es ih =>
    intro m n hl h
    match m, hl with
    | p :: m, hl =>
      obtain ⟨h1, h2⟩ := h 0 e p rfl rfl
      have hek : IsKey kd e.key := by rw [h1]; exact h2
      obtain ⟨r, hr, hiff⟩ := sameNow_of_keys hk hek
      have hb : keyB p.1 k = true ↔ p.1 = k := keyB_iff h2 hk
      cases r with
      | true =>
        have e1 : k = e.key := hiff.1 rfl
        have e2 : keyB p.1 k = true := hb.2 (by rw [e1, h1])
        exact .inr ⟨0, e, p, by simp [Instr.findNow, hr], rfl, rfl, e1.symm, by simp [lkM, e2], fun v => by simp [upM, e2], by simp [delM, e2]⟩
      | false =>
        have hne : e.key ≠ k := fun q => by have := hiff.2 q.symm; cases this
        have e2 : ¬ keyB p.1 k = true := fun q => hne (by rw [h1]; exact hb.1 q)
        rcases ih m (n + 1) (by simpa using hl) (fun i e' p' g1 g2 => h (i + 1) e' p' (by simpa using g1) (by simpa using g2)) with ⟨g1, g2, g3, g4, g5⟩ | ⟨j, e', p', g1, g2, g3, g4, g5, g6, g7⟩
        · exact .inl ⟨by simp [Instr.findNow, hr, g1], by simp [lkM, e2, g2], fun v => by simp [upM, e2, g3], by simp [delM, e2, g4], fun x hx => by
            rcases List.mem_cons.1 hx with rfl | hx
            · exact hne
            · exact g5 x hx⟩
        · exact .inr ⟨j + 1, e', p', by simp [Instr.findNow, hr, g1]; omega, by simpa using g2, by simpa using g3, g4, by simp [lkM, e2, g5], fun v => by simp [upM, e2, g6], by simp [delM, e2, g7]⟩

/-- a value as a symbolic value -/
def vOf : Value → V
  | .agg ys => .agg (ys.toList.map .v)
  | x => .v x
theorem vOf_R (w : World) (O : Nat → Prop) (E : Env) (x : Value) : R w O E (vOf x) x := by
  unfold vOf
  split
  · refine .agg _ _ (by simp) fun j u y h1 h2 => ?_
    simp only [List.getElem?_map, Array.getElem?_toList, h2, Option.map_some, Option.some.injEq] at h1
    subst h1
    exact .r0 _ _ (.v _)
  · exact .r0 _ _ (.v _)
/-- a map's type: its keys' kind, its elements' zero -/
def mapK (P : Program) (t : TypeId) : Option (TypeDesc × V) := match P.underlying t with
  | some (.map k e) => (P.underlying k).bind fun kd => (P.info? e).bind fun i => i.zero.map fun z => (kd, vOf z)
  | _ => none
theorem mapK_inv {P : Program} {t : TypeId} {kd : TypeDesc} {z : V} (h : mapK P t = some (kd, z)) (w : World) :
    ∃ k e zv, P.underlying t = some (.map k e) ∧ P.underlying k = some kd ∧ (zeroValue e).run P w = .ok zv w ∧ z = vOf zv := by
  unfold mapK at h
  split at h
  · rename_i k e ht
    simp only [Option.bind_eq_some_iff, Option.map_eq_some_iff, Prod.mk.injEq] at h
    obtain ⟨kd', h1, i, h2, zv, h3, rfl, rfl⟩ := h
    exact ⟨k, e, zv, ht, h1, by simp [zeroValue, typeInfo, h2, h3], rfl⟩
  · cases h

def lkpRes (s : St) : Option (TypeDesc × V) → Bool → V → V → Res
  | some (kd, z), ok, .mp id, .v k => match s.hget id with
    | some (.map kd' m) => match ok with
      | false => .go (kd' = kd ∧ isKeyB kd k = true) fun _ => (lkM m k).getD z
      | true => .go (kd' = kd ∧ isKeyB kd k = true) fun _ => .tup [(lkM m k).getD z, .v (.bool (lkM m k).isSome)]
    | _ => .stuck
  | _, _, _, _ => .stuck
theorem map_hb {G : Gh} {s : St} {a : Act} {w : World} {E : Env} (hs : SimE G s a w E) {id : Nat} {kd : TypeDesc} {m : List (Value × V)} (hob : s.hget id = some (.map kd m)) {y : Value} (hy : R w (OT G s E) E (.mp id) y) :
    ∃ b es clock, y = .map (some b) ∧ E id = some (some b, 0, 0) ∧ w.heap[b]? = some (.map es clock) ∧ es.size = m.length ∧
      (∀ (i : Nat) (e : MapEntry) (p : Value × V), es[i]? = some e → m[i]? = some p → e.key = p.1 ∧ IsKey kd p.1 ∧ R w (OT G s E) E p.2 e.val) ∧ Stamped es clock := by
  obtain ⟨b, K, C, hE, rfl⟩ := R.mp_inv hy
  obtain ⟨b1, K1, C1, h1, b', es, clock, rfl, g2, rfl, rfl, g5, g6, g7⟩ := hs.hp id _ hob
  rw [hE] at h1
  cases h1
  exact ⟨b, es, clock, rfl, hE, g2, g5, g6, g7⟩
theorem lookup_ok (P : Program) (G : Gh) (s : St) (o : Oper) (hd : ∀ d, o.dst = some d → d < G.n) (t : TypeId) (x k : Operand) (ok : Bool) (ho : o.op = .lookup t x k ok) :
    ResOK P G s o (lkpRes s (mapK P t) ok (ev s x) (ev s k)) := by
  have core : ∀ {kd z id kv m}, mapK P t = some (kd, z) → ev s x = .mp id → ev s k = .v kv → s.hget id = some (.map kd m) → isKeyB kd kv = true → ∀ a w E, SimE G s a w E →
      ∃ y, R w (OT G s E) E ((lkM m kv).getD z) y ∧ (execOp a.eval o).run P w = .ok (.value (if ok then .tuple #[y, .bool (lkM m kv).isSome] else y)) w := by
    intro kd z id kv m hm hx hk hob hkb a w E hs
    obtain ⟨b, es, clock, hy, hE, hh, hsz, hrel, hst⟩ := map_hb hs hob (ev_E hs hx)
    obtain ⟨kt, et, zv, h1, h2, h3, rfl⟩ := mapK_inv hm w
    have hkv := R.v_inv (ev_E hs hk)
    have hik := isKeyB_spec hkb
    rcases find_rel hik es.toList m 0 (by simpa using hsz) (fun i e p g1 g2 => ⟨(hrel i e p (by simpa using g1) g2).1, (hrel i e p (by simpa using g1) g2).2.1⟩) with ⟨g1, g2, _, _, _⟩ | ⟨j, e, p, g1, g2, g3, g4, g5, _, _⟩
    · refine ⟨zv, by rw [g2]; exact vOf_R _ _ _ _, ?_⟩
      rw [g2]
      simp [execOp, ho, Instr.lookup, run_underlying h1, hy, hkv, MapKept.run_getObj_map hh, MapKept.run_checkKey h2 hik, MapKept.run_findKey h2 g1, h3, Result.andThen]
    · refine ⟨e.val, by rw [g5]; exact (hrel j e p (by simpa using g2) g3).2.2, ?_⟩
      rw [g5]
      simp [execOp, ho, Instr.lookup, run_underlying h1, hy, hkv, MapKept.run_getObj_map hh, MapKept.run_checkKey h2 hik, MapKept.run_findKey h2 g1, h3, Result.andThen]
  unfold lkpRes
  split
  · rename_i kd z ok' id kv hm hx hk
    split
    · rename_i kd' m hob
      split
      · rintro ⟨rfl, hkb⟩
        refine stepOK_val hd fun a w E hs => ?_
        obtain ⟨y, g1, g2⟩ := core hm hx hk hob hkb a w E hs
        exact ⟨y, by simpa using g2, g1⟩
      · rintro ⟨rfl, hkb⟩
        refine stepOK_val hd fun a w E hs => ?_
        obtain ⟨y, g1, g2⟩ := core hm hx hk hob hkb a w E hs
        refine ⟨_, g2, .tup _ _ rfl fun j u y' q1 q2 => ?_⟩
        match j with
        | 0 => simp at q1 q2; subst q1; subst q2; exact g1
        | 1 => simp at q1 q2; subst q1; subst q2; exact .r0 _ _ (.v _)
        | j + 2 => simp at q1
    · trivial
  · trivial

def mkmRes (s : St) : Option Nat → Option (TypeDesc × V) → Res
  | some d, some (kd, _) => .heap (s.used d = false) fun _ => (.mp d, [(d, some (.map kd []))])
  | _, _ => .stuck
theorem makeMap_ok (P : Program) (G : Gh) (s : St) (o : Oper) (hd : ∀ d, o.dst = some d → d < G.n) (t : TypeId) (ho : o.op = .makeMap t none) : ResOK P G s o (mkmRes s o.dst (mapK P t)) := by
  unfold mkmRes
  split
  · rename_i d kd z hdd hm
    intro hu
    refine stepOK_heap hd fun a w E hs => ?_
    obtain ⟨E', h1, h2, h3, h4⟩ := hs.new (id := d) hu (ob := .map kd []) (o := .map #[] 0) (K := 0) (C := 0) (fun O' E' _ _ => ⟨w.heap.size, #[], 0, rfl, heap_new w _, rfl, rfl, rfl, by simp, stamped_empty 0⟩)
    refine ⟨.map (some w.heap.size), _, E', ?_, h1, .mp d _ _ _ h2⟩
    simp [execOp, ho, Instr.makeMap]
  · trivial

theorem setObj_facts {w : World} {b : Nat} {o o' : Obj} (h : w.heap[b]? = some o) : ({ w with heap := w.heap.setIfInBounds b o' } : World).heap[b]? = some o' ∧ ({ w with heap := w.heap.setIfInBounds b o' } : World).heap.size = w.heap.size ∧
    ∀ k, k ≠ b → ({ w with heap := w.heap.setIfInBounds b o' } : World).heap[k]? = w.heap[k]? :=
  ⟨(heap_set h).1, by simp, fun k hk => (heap_set h).2 k hk⟩
/-- a map's entries altered -/
theorem SimE.mapSet {G : Gh} {s : St} {a : Act} {w : World} {E : Env} (hs : SimE G s a w E) {id b : Nat} {kd : TypeDesc} {m m' : List (Value × V)} {es es' : Array MapEntry} {clock clock' : Nat} (hob : s.hget id = some (.map kd m)) (hE : E id = some (some b, 0, 0))
    (hh : w.heap[b]? = some (.map es clock)) (hsz : es'.size = m'.length)
    (hrel : ∀ (i : Nat) (e : MapEntry) (p : Value × V), es'[i]? = some e → m'[i]? = some p → e.key = p.1 ∧ IsKey kd p.1 ∧ R w (OT G s E) E p.2 e.val) (hst : Stamped es' clock') :
    SimE G (s.hset id (some (.map kd m'))) a { w with heap := w.heap.setIfInBounds b (.map es' clock') } E := by
  obtain ⟨f1, f2, f3⟩ := setObj_facts (o' := .map es' clock') hh
  refine hs.write hob hE rfl rfl rfl f2 f3 fun O1 hO1 => ⟨b, es', clock', rfl, f1, rfl, rfl, hsz, fun i e p g1 g2 => ?_, hst⟩
  obtain ⟨q1, q2, q3⟩ := hrel i e p g1 g2
  exact ⟨q1, q2, q3.mono (by rw [f2]; exact Nat.le_refl _) hO1 (fun k hk _ => f3 k (by rintro rfl; exact hk (.inr ⟨id, _, _, _, hob, hE⟩))) (fun _ _ h => h)⟩

def mupRes (s : St) : Option (TypeDesc × V) → V → V → V → Res
  | some (kd, _), .mp id, .v k, v => match s.hget id with
    | some (.map kd' m) => .heap (kd' = kd ∧ isKeyB kd k = true) fun _ => (.any, [(id, some (.map kd (upM m k v)))])
    | _ => .stuck
  | _, _, _, _ => .stuck
theorem mapUpdate_ok (P : Program) (G : Gh) (s : St) (o : Oper) (t : TypeId) (x k v : Operand) (ho : o.op = .mapUpdate t x k v) (hdst : o.dst = none) : ResOK P G s o (mupRes s (mapK P t) (ev s x) (ev s k) (ev s v)) := by
  unfold mupRes
  split
  · rename_i kd z id kv hm hx hk
    split
    · rename_i kd' m hob
      rintro ⟨rfl, hkb⟩ a w ⟨E, hs⟩ K Q hK
      obtain ⟨b, es, clock, hy, hE, hh, hsz, hrel, hst⟩ := map_hb hs hob (ev_E hs hx)
      obtain ⟨kt, et, zv, h1, h2, h3, rfl⟩ := mapK_inv hm w
      have hkv := R.v_inv (ev_E hs hk)
      have hik := isKeyB_spec hkb
      have hv := ev_R hs v
      unfold Oper.wp
      rcases find_rel hik es.toList m 0 (by simpa using hsz) (fun i e p g1 g2 => ⟨(hrel i e p (by simpa using g1) g2).1, (hrel i e p (by simpa using g1) g2).2.1⟩) with ⟨g1, _, g3, _, g5⟩ | ⟨j, e, p, g1, g2, g3, g4, _, g6, _⟩
      · have hrun : (execOp a.eval o).run P w = .ok .skip { w with heap := w.heap.setIfInBounds b (.map (es.push { key := kv, val := a.eval v, born := clock }) (clock + 1)) } := by
          simp [execOp, ho, Instr.mapUpdate, run_underlying h1, hy, hkv, MapKept.run_getObj_map hh, MapKept.run_checkKey h2 hik, MapKept.run_findKey h2 g1, MapKept.run_setObj_map _ hh, Result.andThen]
        rw [hrun]
        refine hK _ _ ⟨E, ?_⟩
        rw [hdst, g3]
        refine hs.mapSet hob hE hh (by simp [hsz]) (fun i e p q1 q2 => ?_) (stamped_push hst g5)
        rw [Array.getElem?_push] at q1
        by_cases hi : i = es.size
        · rw [if_pos hi] at q1
          cases q1
          rw [hi, hsz] at q2
          simp at q2
          subst q2
          exact ⟨rfl, hik, hv⟩
        · rw [if_neg hi] at q1
          have : i < m.length := by have := (Array.getElem?_eq_some_iff.1 q1).1; omega
          rw [List.getElem?_append_left this] at q2
          exact hrel i e p q1 q2
      · have hj : es[j]? = some e := by simpa using g2
        have hrun : (execOp a.eval o).run P w = .ok .skip { w with heap := w.heap.setIfInBounds b (.map (es.modify j fun e => { e with key := kv, val := a.eval v }) clock) } := by
          simp [execOp, ho, Instr.mapUpdate, run_underlying h1, hy, hkv, MapKept.run_getObj_map hh, MapKept.run_checkKey h2 hik, MapKept.run_findKey h2 g1, hj, g4, MapKept.run_keyThatStays hik, MapKept.run_setObj_map _ hh, Result.andThen]
        rw [hrun]
        refine hK _ _ ⟨E, ?_⟩
        rw [hdst, g6]
        refine hs.mapSet hob hE hh (by simp [hsz]) (fun i e' p' q1 q2 => ?_) (stamped_modify hst _ _ (fun _ _ => rfl) (fun e' _ he' => by rw [hj] at he'; cases he'; exact g4.symm))
        rw [Array.getElem?_modify] at q1
        rw [List.getElem?_set] at q2
        by_cases hi : j = i
        · subst hi
          rw [if_pos rfl, hj] at q1
          rw [if_pos rfl, if_pos (by have := (Array.getElem?_eq_some_iff.1 hj).1; omega)] at q2
          cases q1; cases q2
          exact ⟨rfl, hik, hv⟩
        · rw [if_neg hi] at q1 q2
          exact hrel i e' p' q1 q2
    · trivial
  · trivial

def delRes (s : St) : Option (TypeDesc × V) → V → V → Res
  | some (kd, _), .mp id, .v k => match s.hget id with
    | some (.map kd' m) => .heap (kd' = kd ∧ isKeyB kd k = true) fun _ => (.any, [(id, some (.map kd (delM m k)))])
    | _ => .stuck
  | _, _, _ => .stuck
theorem delete_ok (P : Program) (G : Gh) (s : St) (o : Oper) (hd : ∀ d, o.dst = some d → d < G.n) (t t' : TypeId) (x k : Operand) (ho : o.op = .call ⟨.builtin .delete, ⟨[x, k]⟩, ⟨[t, t']⟩⟩) : ResOK P G s o (delRes s (mapK P t) (ev s x) (ev s k)) := by
  unfold delRes
  split
  · rename_i kd z id kv hm hx hk
    split
    · rename_i kd' m hob
      rintro ⟨rfl, hkb⟩
      refine stepOK_heap hd fun a w E hs => ?_
      obtain ⟨b, es, clock, hy, hE, hh, hsz, hrel, hst⟩ := map_hb hs hob (ev_E hs hx)
      obtain ⟨kt, et, zv, h1, h2, h3, rfl⟩ := mapK_inv hm w
      have hkv := R.v_inv (ev_E hs hk)
      have hik := isKeyB_spec hkb
      rcases find_rel hik es.toList m 0 (by simpa using hsz) (fun i e p g1 g2 => ⟨(hrel i e p (by simpa using g1) g2).1, (hrel i e p (by simpa using g1) g2).2.1⟩) with ⟨g1, _, _, g4, g5⟩ | ⟨j, e, p, g1, g2, g3, g4, _, _, g7⟩
      · refine ⟨.tuple #[], { w with heap := w.heap.setIfInBounds b (.map es clock) }, E, ?_, ?_, .r0 _ _ (.any _)⟩
        · simp [execOp, ho, resolve, invoke, builtin, Builtin.delete_, run_underlying h1, hy, hkv, MapKept.run_getObj_map hh, MapKept.run_checkKey h2 hik, MapKept.run_findKey h2 g1, MapKept.run_setObj_map _ hh, Result.andThen]
        · show SimE G (s.hset id _) a _ E
          rw [g4]
          exact hs.mapSet hob hE hh hsz hrel hst
      · have hj : es[j]? = some e := by simpa using g2
        refine ⟨.tuple #[], { w with heap := w.heap.setIfInBounds b (.map (es.eraseIdxIfInBounds j) clock) }, E, ?_, ?_, .r0 _ _ (.any _)⟩
        · simp [execOp, ho, resolve, invoke, builtin, Builtin.delete_, run_underlying h1, hy, hkv, MapKept.run_getObj_map hh, MapKept.run_checkKey h2 hik, MapKept.run_findKey h2 g1, MapKept.run_setObj_map _ hh, Result.andThen]
        · show SimE G (s.hset id _) a _ E
          rw [g7]
          have hlt : j < es.size := (Array.getElem?_eq_some_iff.1 hj).1
          have hlist : (es.eraseIdxIfInBounds j).toList = es.toList.eraseIdx j := by simp [Array.eraseIdxIfInBounds, hlt]
          refine hs.mapSet hob hE hh (by have := congrArg List.length hlist; rw [List.length_eraseIdx, Array.length_toList, Array.length_toList, hsz] at this; rw [List.length_eraseIdx]; exact this) (fun i e' p' q1 q2 => ?_) (stamped_erase hst j)
          have q1' : (es.toList.eraseIdx j)[i]? = some e' := by rw [← hlist, Array.getElem?_toList]; exact q1
          rw [List.getElem?_eraseIdx] at q1' q2
          by_cases hi : i < j
          · rw [if_pos hi] at q1' q2
            exact hrel i e' p' (by simpa using q1') q2
          · rw [if_neg hi] at q1' q2
            exact hrel (i + 1) e' p' (by simpa using q1') q2
    · trivial
  · trivial
end Pm
end Go.Proofs.Ytgeldamcekjdgaa
