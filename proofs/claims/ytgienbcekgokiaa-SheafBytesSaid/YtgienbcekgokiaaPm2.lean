/- Symbolic states, what they mean, and the operations of a region upon them: for each operation what it asks and what it gives, and that the machine's own run gives that. No program in sight. -/
import Derived.Test.YtgienbcekgokiaaGl
import Derived.MapKept
namespace Go.Proofs.Ytgienbcekgokiaa
open Go
set_option linter.unusedSimpArgs false
set_option linter.unusedVariables false
namespace Pm

/-- a map's keys: numbers, texts, bools; or structs and arrays of these, cell by cell -/
inductive KD : Type
  | bool
  | int (k : IntKind)
  | string
  | agg (ts : List TypeDesc)
def Fit : TypeDesc → Value → Prop
  | .bool, .bool _ => True
  | .int k, .int k' _ => k' = k
  | .string, .string _ => True
  | _, _ => False
inductive Fits : List TypeDesc → List Value → Prop
  | nil : Fits [] []
  | cons {t : TypeDesc} {ts : List TypeDesc} {x : Value} {xs : List Value} (h : Fit t x) (r : Fits ts xs) : Fits (t :: ts) (x :: xs)
def IsK : KD → Value → Prop
  | .bool, .bool _ => True
  | .int k, .int k' _ => k' = k
  | .string, .string _ => True
  | .agg ts, .agg ys => Fits ts ys.toList
  | _, _ => False
/-- What a block of one's own holds: just these cells; an array that may grow; a map, its entries in order; this very object. -/
inductive OB : Type
  | box (cs : List V)
  | arr (t : TypeId) (sz : Nat) (l : List (List V))
  | map (kd : KD) (m : List (Value × V))
  | obj (o : Obj)

structure St where
  fr : Nat → V
  hp : Nat → Option OB
  us : Nat → Bool

def St.get (s : St) (i : Nat) : V := s.fr i
def St.hget (s : St) (i : Nat) : Option OB := s.hp i
def St.used (s : St) (i : Nat) : Bool := s.us i
def St.set (s : St) (i : Nat) (x : V) : St := { s with fr := fun j => if i = j then x else s.fr j }
def St.hset (s : St) (i : Nat) (x : Option OB) : St := { s with hp := fun j => if i = j then x else s.hp j, us := fun j => (i == j) || s.us j }
def lkV : List (Nat × V) → Nat → V
  | [], _ => .any
  | (i, x) :: r, j => if i = j then x else lkV r j
def lkH : List (Nat × OB) → Nat → Option OB
  | [], _ => none
  | (i, x) :: r, j => if i = j then some x else lkH r j
def usH : List (Nat × OB) → Nat → Bool
  | [], _ => false
  | (i, _) :: r, j => (i == j) || usH r j
def St.of (f : List (Nat × V)) (h : List (Nat × OB)) : St := ⟨lkV f, lkH h, usH h⟩

theorem get_set (s : St) (i j : Nat) (x : V) : (s.set i x).get j = if i = j then x else s.get j := rfl
theorem get_hset (s : St) (i j : Nat) (x : Option OB) : (s.hset i x).get j = s.get j := rfl
theorem hget_set (s : St) (i j : Nat) (x : V) : (s.set i x).hget j = s.hget j := rfl
theorem hget_hset (s : St) (i j : Nat) (x : Option OB) : (s.hset i x).hget j = if i = j then x else s.hget j := rfl
theorem used_set (s : St) (i j : Nat) (x : V) : (s.set i x).used j = s.used j := rfl
theorem used_hset (s : St) (i j : Nat) (x : Option OB) : (s.hset i x).used j = ((i == j) || s.used j) := rfl
theorem get_of (f : List (Nat × V)) (h : List (Nat × OB)) (j : Nat) : (St.of f h).get j = lkV f j := rfl
theorem hget_of (f : List (Nat × V)) (h : List (Nat × OB)) (j : Nat) : (St.of f h).hget j = lkH h j := rfl
theorem used_of (f : List (Nat × V)) (h : List (Nat × OB)) (j : Nat) : (St.of f h).used j = usH h j := rfl

/-- the package's variables are as they are known to be, and nobody writes them -/
def GlobOK (w : World) (O : Nat → Prop) : Prop := ∀ p ∈ globs, R0 w O (.fp p.2) (.pointer (some ⟨p.1, 0, none⟩))
theorem GlobOK.monoC {w w' : World} {O O' : Nat → Prop} (h : GlobOK w O) (hsz : w.heap.size ≤ w'.heap.size)
    (hO : ∀ b, ¬ O b → b < w.heap.size → ¬ O' b) (hw : ∀ b, ¬ O b → b < w.heap.size → isCells w b → w'.heap[b]? = w.heap[b]?) : GlobOK w' O' := fun p hp => (h p hp).monoC hsz hO hw
theorem GlobOK.weak {w : World} {O O' : Nat → Prop} (h : GlobOK w O) (hO : ∀ b, O' b → O b) : GlobOK w O' := h.monoC (Nat.le_refl _) (fun b hb _ h => hb (hO b h)) fun _ _ _ _ => rfl
/-- blocks that somebody may still write: they are there, and no package's variable is among them -/
structure OKO (w : World) (O : Nat → Prop) : Prop where
  lt : ∀ b, O b → b < w.heap.size
  gl : GlobOK w O
structure LoOK (w : World) (O : Nat → Prop) (lo : Nat) : Prop where
  le : lo ≤ w.heap.size
  gl : GlobOK w O
/-- What stays through one call: the world it began in, blocks that it must not touch, its number of temporaries, the blocks that it may write; the slots whose slices, written out, are to be its own, and those whose appended slices nobody is to write any more; a number that what is new lies behind; the names that its caller knows, and what they are; the loop's record whose round this is; what is known of the blocks that it must not touch. -/
structure Gh where
  w0 : World
  Of : Nat → Prop
  n : Nat
  M : Nat → Prop
  ow : Nat → Bool := fun _ => false
  lo : Nat := 0
  hlo : lo ≤ w0.heap.size := by exact Nat.zero_le _
  hM : ∀ b, M b → lo ≤ b := by intros; exact Nat.zero_le _
  hgl : GlobOK w0 (fun b => Of b ∨ M b)
  nm : List Nat := []
  E0 : Env := fun _ => none
  rd : Option Nat := none
  Zi : World → Prop := fun _ => True
  hZi : ∀ (w w' : World), w.heap.size ≤ w'.heap.size → (∀ b, Of b → w'.heap[b]? = w.heap[b]?) → Zi w → Zi w' := by intros; trivial

def live (s : St) (E : Env) (b : Nat) : Prop := ∃ id ob K C, s.hp id = some ob ∧ E id = some (some b, K, C)
def OT (G : Gh) (s : St) (E : Env) (b : Nat) : Prop := G.Of b ∨ live s E b

def HB (w : World) (O : Nat → Prop) (E : Env) (b : Option Nat) (K C : Nat) : OB → Prop
  | .box cs => ∃ (b' : Nat) (ys : Array Value) (t : TypeId), b = some b' ∧ w.heap[b']? = some (.cells ys t (0, 0)) ∧ ys.size = cs.length ∧ (K ≤ cs.length ∧ cs.length ≤ 140737488355328) ∧ K = C ∧
      ∀ (j : Nat) (u : V) (y : Value), cs[j]? = some u → ys[j]? = some y → R w O E u y
  | .arr t sz l => (∀ x, x ∈ l → x.length = sz) ∧ 0 < sz ∧ l.length ≤ 140737488355328 ∧ l.length = K ∧ match b with
      | none => K = 0 ∧ C = 0
      | some b => ∃ ys : Array Value, w.heap[b]? = some (.cells ys t (0, 0)) ∧ ys.size = C * sz ∧ K ≤ C ∧ C ≤ maxLen ∧
          ∀ (i : Nat) x (j : Nat) (u : V) (y : Value), l[i]? = some x → x[j]? = some u → ys[i * sz + j]? = some y → R0 w O u y
  | .map kd m => ∃ (b' : Nat) (es : Array MapEntry) (clock : Nat), b = some b' ∧ w.heap[b']? = some (.map es clock) ∧ K = 0 ∧ C = 0 ∧ es.size = m.length ∧
      (∀ (i : Nat) (e : MapEntry) (p : Value × V), es[i]? = some e → m[i]? = some p → e.key = p.1 ∧ IsK kd p.1 ∧ R w O E p.2 e.val) ∧ MapKept.Stamped es clock
  | .obj o => ∃ b', b = some b' ∧ w.heap[b']? = some o ∧ K = 0 ∧ C = 0

/-- the marks that ranges over functions have left: each one's block is nobody's, and has nothing in it -/
def mark (r : Nat) : Deferred := { target := .collected r, args := #[] }
def DefOK (G : Gh) (s : St) (E : Env) (w : World) (ds : List Deferred) : Prop := ∃ rs : List Nat, ds = rs.map mark ∧ rs.Nodup ∧ ∀ r ∈ rs, w.heap[r]? = some (.deferred (some [])) ∧ G.w0.heap.size ≤ r ∧ ¬ live s E r
theorem DefOK.nil {G : Gh} {s : St} {E : Env} {w : World} : DefOK G s E w [] := ⟨[], rfl, .nil, by simp⟩
theorem DefOK.mono {G G' : Gh} {s s' : St} {E E' : Env} {w w' : World} {ds : List Deferred} (h : DefOK G s E w ds) (h0 : G'.w0 = G.w0)
    (hk : ∀ b, ¬ live s E b → b < w.heap.size → ¬ isCells w b → w'.heap[b]? = w.heap[b]? ∧ ¬ live s' E' b) : DefOK G' s' E' w' ds := by
  obtain ⟨rs, h1, h2, h3⟩ := h
  refine ⟨rs, h1, h2, fun r hr => ?_⟩
  obtain ⟨q1, q2, q3⟩ := h3 r hr
  have hlt : r < w.heap.size := by false_or_by_contra; rename_i hge; have : w.heap[r]? = none := by simp; omega
                                   rw [this] at q1; cases q1
  obtain ⟨k1, k2⟩ := hk r q3 hlt (by rintro ⟨cs, t, f, h⟩; rw [q1] at h; cases h)
  exact ⟨k1.trans q1, by rw [h0]; exact q2, k2⟩

structure SimE (G : Gh) (s : St) (a : Act) (w : World) (E : Env) : Prop where
  fr : ∀ i, R w (OT G s E) E (s.fr i) (a.tmps.getD i undef)
  defers : DefOK G s E w a.defers
  size : a.tmps.size = G.n
  hp : ∀ id ob, s.hp id = some ob → ∃ b K C, E id = some (b, K, C) ∧ HB w (OT G s E) E b K C ob
  us : ∀ id, E id ≠ none → s.us id = true
  inj : ∀ id id' ob ob' b x x', s.hp id = some ob → s.hp id' = some ob' → E id = some (some b, x) → E id' = some (some b, x') → id = id'
  fresh : ∀ id ob b x, s.hp id = some ob → E id = some (some b, x) → (G.w0.heap.size ≤ b ∨ G.M b) ∧ ¬ G.Of b ∧ b < w.heap.size
  old : ∀ b, G.Of b → b < w.heap.size
  grow : G.w0.heap.size ≤ w.heap.size
  os : w.os = G.w0.os
  tape : w.tape = G.w0.tape
  output : w.output = G.w0.output
  keep : ∀ b, b < G.w0.heap.size → ¬ G.M b → w.heap[b]? = G.w0.heap[b]?
  base : ∀ id, id ∈ G.nm → ∃ r, G.E0 id = some r ∧ E id = some r
  zi : G.Zi w

def Sim (G : Gh) (s : St) (a : Act) (w : World) : Prop := ∃ E, SimE G s a w E

def StepOK (P : Program) (G : Gh) (s : St) (o : Oper) (s' : St) : Prop :=
  ∀ a w, Sim G s a w → ∀ (K : Act → World → Prop) (Q : Exit → Act → World → Prop), (∀ a' w', Sim G s' a' w' → K a' w') → o.wp P a w K Q

/-- the package's variables are still as they were -/
theorem SimE.glob {G : Gh} {s : St} {a : Act} {w : World} {E : Env} (h : SimE G s a w E) : GlobOK w (OT G s E) := by
  have hx : ∀ b, ¬ (G.Of b ∨ G.M b) → b < G.w0.heap.size → ¬ OT G s E b := by
    rintro b hb hlt (g | ⟨id, ob, K, C, g1, g2⟩)
    · exact hb (.inl g)
    · rcases (h.fresh id ob b _ g1 g2).1 with q | q
      · omega
      · exact hb (.inr q)
  exact G.hgl.monoC h.grow hx fun b hb hlt _ => h.keep b hlt fun q => hb (.inr q)
/-- The operands. -/
def lkG : List (Nat × List V) → Nat → V
  | [], _ => .any
  | p :: r, g => if p.1 = g then .fp p.2 else lkG r g
def ev (s : St) : Operand → V
  | .tmp t => s.get t
  | .const x => .v x
  | .func f => .fn (.func f) []
  | .global g => lkG globs g
theorem lkG_R {w : World} {O : Nat → Prop} (h : GlobOK w O) (g : Nat) : R0 w O (lkG globs g) (.pointer (some ⟨g, 0, none⟩)) := by
  unfold GlobOK at h
  generalize globs = l at h
  induction l with
  | nil => exact .any _
  | cons p r ih =>
    unfold lkG
    split
    · rename_i e; rw [← e]; exact h p (by simp)
    · exact ih fun q hq => h q (by simp [hq])

theorem ev_R {G : Gh} {s : St} {a : Act} {w : World} {E : Env} (h : SimE G s a w E) (x : Operand) : R w (OT G s E) E (ev s x) (a.eval x) := by
  cases x with
  | tmp t => exact h.fr t
  | const v => exact .r0 _ _ (.v v)
  | global g => exact .r0 _ _ (lkG_R h.glob g)
  | func f => exact .fn _ [] #[] rfl (by simp)

theorem ev_E {G : Gh} {s : St} {a : Act} {w : World} {E : Env} (h : SimE G s a w E) {x : Operand} {u : V} (hx : ev s x = u) : R w (OT G s E) E u (a.eval x) := hx ▸ ev_R h x

def putD (s : St) : Option Nat → V → St
  | some d, x => s.set d x
  | none, _ => s

theorem R.v_inv {w : World} {O : Nat → Prop} {E : Env} {x y : Value} (h : R w O E (.v x) y) : y = x := by
  cases h with
  | r0 _ _ h => cases h; rfl

theorem getD_put (a : Act) (d i : Nat) (y : Value) (hd : d < a.tmps.size) : (a.put (some d) y).tmps.getD i undef = if d = i then y else a.tmps.getD i undef := by
  simp only [Act.put, Array.getD_eq_getD_getElem?, Array.getElem?_setIfInBounds]
  split
  · subst_vars; simp

  · rfl

theorem live_set (s : St) (E : Env) (d : Nat) (x : V) : live (s.set d x) E = live s E := rfl
theorem OT_set (G : Gh) (s : St) (E : Env) (d : Nat) (x : V) : OT G (s.set d x) E = OT G s E := rfl

theorem SimE.put {G : Gh} {s : St} {a : Act} {w : World} {E : Env} (h : SimE G s a w E) {dst : Option Nat} (hd : ∀ d, dst = some d → d < G.n) {x : V} {y : Value}
    (hv : R w (OT G s E) E x y) : SimE G (putD s dst x) (a.put dst y) w E := by
  cases dst with
  | none => exact h
  | some d =>
    have hlt : d < a.tmps.size := by rw [h.size]; exact hd d rfl
    refine ⟨fun i => ?_, h.defers, by simp [Act.put, h.size], h.hp, h.us, h.inj, h.fresh, h.old, h.grow, h.os, h.tape, h.output, h.keep, h.base, h.zi⟩
    rw [getD_put a d i y hlt]
    show R w _ E (if d = i then x else s.fr i) _
    split
    · exact hv
    · exact h.fr i

theorem stepOK_val {P : Program} {G : Gh} {s : St} {o : Oper} {x : V} (hd : ∀ d, o.dst = some d → d < G.n)
    (h : ∀ a w E, SimE G s a w E → ∃ y, (execOp a.eval o).run P w = .ok (.value y) w ∧ R w (OT G s E) E x y) : StepOK P G s o (putD s o.dst x) := by
  rintro a w ⟨E, hs⟩ K Q hK
  obtain ⟨y, hy, hR⟩ := h a w E hs
  unfold Oper.wp
  rw [hy]
  exact hK _ _ ⟨E, hs.put hd hR⟩

theorem HB.monoC {w w' : World} {O O' : Nat → Prop} {E E' : Env} {b : Option Nat} {K C : Nat} {ob : OB} (h : HB w O E b K C ob) (hsz : w.heap.size ≤ w'.heap.size)
    (hO : ∀ b, ¬ O b → b < w.heap.size → ¬ O' b) (hw : ∀ b, ¬ O b → b < w.heap.size → isCells w b → w'.heap[b]? = w.heap[b]?)
    (hE : ∀ id r, E id = some r → E' id = some r) (hb : ∀ b', b = some b' → w'.heap[b']? = w.heap[b']?) : HB w' O' E' b K C ob := by
  cases ob with
  | box cs =>
    obtain ⟨b', ys, t, rfl, g2, g3, g4, g5, g6⟩ := h
    exact ⟨b', ys, t, rfl, (hb b' rfl).trans g2, g3, g4, g5, fun j u y h3 h4 => (g6 j u y h3 h4).monoC hsz hO hw hE⟩
  | arr t sz l =>
    obtain ⟨g1, g2, g3, g4, g5⟩ := h
    refine ⟨g1, g2, g3, g4, ?_⟩
    cases b with
    | none => exact g5
    | some b =>
      obtain ⟨ys, q1, q2, q3, q4, q5⟩ := g5
      exact ⟨ys, (hb b rfl).trans q1, q2, q3, q4, fun i x j u y h1 h2 h3 => (q5 i x j u y h1 h2 h3).monoC hsz hO hw⟩
  | map kk m =>
    obtain ⟨b', es, clock, rfl, g2, g3, g4, g5, g6, g7⟩ := h
    exact ⟨b', es, clock, rfl, (hb b' rfl).trans g2, g3, g4, g5, fun i e p h1 h2 => ⟨(g6 i e p h1 h2).1, (g6 i e p h1 h2).2.1, (g6 i e p h1 h2).2.2.monoC hsz hO hw hE⟩, g7⟩
  | obj o =>
    obtain ⟨b', rfl, g2, g3, g4⟩ := h
    exact ⟨b', rfl, (hb b' rfl).trans g2, g3, g4⟩
theorem HB.mono {w w' : World} {O O' : Nat → Prop} {E E' : Env} {b : Option Nat} {K C : Nat} {ob : OB} (h : HB w O E b K C ob) (hsz : w.heap.size ≤ w'.heap.size)
    (hO : ∀ b, ¬ O b → b < w.heap.size → ¬ O' b) (hw : ∀ b, ¬ O b → b < w.heap.size → w'.heap[b]? = w.heap[b]?)
    (hE : ∀ id r, E id = some r → E' id = some r) (hb : ∀ b', b = some b' → w'.heap[b']? = w.heap[b']?) : HB w' O' E' b K C ob := h.monoC hsz hO (fun b h1 h2 _ => hw b h1 h2) hE hb

/-- ONE STEP OF MEMORY. 'N': the names that are altered, dropped, or new. -/
theorem SimE.upd {G : Gh} {s s' : St} {a : Act} {w w' : World} {E E' : Env} (h : SimE G s a w E) (N : Nat → Prop) (hfr : s'.fr = s.fr)
    (hsz : w.heap.size ≤ w'.heap.size) (hos : w'.os = w.os) (htape : w'.tape = w.tape) (hout : w'.output = w.output)
    (hkeep : ∀ b, b < w.heap.size → (∀ id ob K C, N id → s.hp id = some ob → E id ≠ some (some b, K, C)) → w'.heap[b]? = w.heap[b]?)
    (hother : ∀ id, ¬ N id → s'.hp id = s.hp id ∧ E' id = E id) (hEE : ∀ id r, E id = some r → E' id = some r)
    (hus : ∀ id, s.us id = true → s'.us id = true) (hus' : ∀ id, N id → E' id ≠ none → s'.us id = true)
    (hN : ∀ id ob, N id → s'.hp id = some ob → ∃ b K C, E' id = some (b, K, C) ∧ ((∀ b, ¬ OT G s E b → b < w.heap.size → ¬ OT G s' E' b) → HB w' (OT G s' E') E' b K C ob))
    (hB : ∀ id ob b' K C, N id → s'.hp id = some ob → E' id = some (some b', K, C) → (w.heap.size ≤ b' ∧ b' < w'.heap.size) ∨ ∃ id0 ob0 K0 C0, N id0 ∧ s.hp id0 = some ob0 ∧ E id0 = some (some b', K0, C0))
    (hinj : ∀ id id' ob ob' b x x', N id → N id' → s'.hp id = some ob → s'.hp id' = some ob' → E' id = some (some b, x) → E' id' = some (some b, x') → id = id') :
    SimE G s' a w' E' ∧ (∀ b, ¬ OT G s E b → b < w.heap.size → ¬ OT G s' E' b) := by
  have hOT : ∀ b, ¬ OT G s E b → b < w.heap.size → ¬ OT G s' E' b := by
    rintro b hb hlt (hof | ⟨i, o, K, C, h1, h2⟩)
    · exact hb (.inl hof)
    · by_cases hi : N i
      · rcases hB i o b K C hi h1 h2 with g | ⟨i0, o0, K0, C0, _, g2, g3⟩
        · omega
        · exact hb (.inr ⟨i0, o0, K0, C0, g2, g3⟩)
      · rw [(hother i hi).1] at h1; rw [(hother i hi).2] at h2; exact hb (.inr ⟨i, o, K, C, h1, h2⟩)
  have hk : ∀ b, ¬ OT G s E b → b < w.heap.size → w'.heap[b]? = w.heap[b]? := fun b hb hlt => hkeep b hlt fun id ob K C _ h1 h2 => hb (.inr ⟨id, ob, K, C, h1, h2⟩)
  -- an unaltered name's block is no altered one's
  have hne : ∀ i o b x, ¬ N i → s.hp i = some o → E i = some (some b, x) → ∀ id ob K C, N id → s.hp id = some ob → E id ≠ some (some b, K, C) := fun i o b x hi h1 h2 id ob K C hid h3 h4 => by
    have := h.inj i id o ob b _ _ h1 h3 h2 h4
    subst this; exact hi hid
  have hlive : ∀ b, ¬ live s E b → b < w.heap.size → ¬ live s' E' b := by
    rintro b hb hlt ⟨i, o, K, C, h1, h2⟩
    by_cases hi : N i
    · rcases hB i o b K C hi h1 h2 with g | ⟨i0, o0, K0, C0, _, g2, g3⟩
      · omega
      · exact hb ⟨i0, o0, K0, C0, g2, g3⟩
    · rw [(hother i hi).1] at h1; rw [(hother i hi).2] at h2; exact hb ⟨i, o, K, C, h1, h2⟩
  refine ⟨⟨fun i => by rw [hfr]; exact (h.fr i).mono hsz hOT hk hEE, h.defers.mono rfl fun b hb hlt _ => ⟨hkeep b hlt fun id ob K C _ h1 h2 => hb ⟨id, ob, K, C, h1, h2⟩, hlive b hb hlt⟩, h.size, fun i o hi => ?_, fun i hi => ?_, fun i i' o o' b x x' h1 h2 h3 h4 => ?_, fun i o b x h1 h2 => ?_, fun b hb => Nat.lt_of_lt_of_le (h.old b hb) hsz, Nat.le_trans h.grow hsz, hos.trans h.os, htape.trans h.tape, hout.trans h.output, fun b h1 h2 => ?_, fun id hid => ?_,
    G.hZi w w' hsz (fun b hb => hkeep b (h.old b hb) fun id ob K C _ h1 h2 => (h.fresh id ob b _ h1 h2).2.1 hb) h.zi⟩, hOT⟩
  · by_cases hNi : N i
    · obtain ⟨b, K, C, g1, g2⟩ := hN i o hNi hi
      exact ⟨b, K, C, g1, g2 hOT⟩
    · rw [(hother i hNi).1] at hi
      obtain ⟨b, K, C, g1, g2⟩ := h.hp i o hi
      refine ⟨b, K, C, by rw [(hother i hNi).2]; exact g1, g2.mono hsz hOT hk hEE fun b' hb' => ?_⟩
      subst hb'
      exact hkeep b' (h.fresh i o b' _ hi g1).2.2 (hne i o b' _ hNi hi g1)
  · by_cases hNi : N i
    · exact hus' i hNi hi
    · rw [(hother i hNi).2] at hi; exact hus i (h.us i hi)
  · by_cases hi : N i <;> by_cases hi' : N i'
    · exact hinj i i' o o' b x x' hi hi' h1 h2 h3 h4
    · rw [(hother i' hi').1] at h2; rw [(hother i' hi').2] at h4
      rcases hB i o b _ _ hi h1 h3 with g | ⟨i0, o0, K0, C0, g1, g2, g3⟩
      · have := (h.fresh i' o' b _ h2 h4).2.2; omega
      · exact (hne i' o' b _ hi' h2 h4 i0 o0 K0 C0 g1 g2 g3).elim
    · rw [(hother i hi).1] at h1; rw [(hother i hi).2] at h3
      rcases hB i' o' b _ _ hi' h2 h4 with g | ⟨i0, o0, K0, C0, g1, g2, g3⟩
      · have := (h.fresh i o b _ h1 h3).2.2; omega
      · exact (hne i o b _ hi h1 h3 i0 o0 K0 C0 g1 g2 g3).elim
    · rw [(hother i hi).1] at h1; rw [(hother i hi).2] at h3; rw [(hother i' hi').1] at h2; rw [(hother i' hi').2] at h4
      exact h.inj i i' o o' b x x' h1 h2 h3 h4
  · by_cases hi : N i
    · obtain ⟨xK, xC⟩ := x
      rcases hB i o b _ _ hi h1 h2 with g | ⟨i0, o0, K0, C0, _, g2, g3⟩
      · exact ⟨.inl (Nat.le_trans h.grow g.1), fun hof => by have := h.old _ hof; omega, g.2⟩
      · obtain ⟨q1, q2, q3⟩ := h.fresh i0 o0 b _ g2 g3
        exact ⟨q1, q2, Nat.lt_of_lt_of_le q3 hsz⟩
    · rw [(hother i hi).1] at h1; rw [(hother i hi).2] at h2
      obtain ⟨q1, q2, q3⟩ := h.fresh i o b x h1 h2
      exact ⟨q1, q2, Nat.lt_of_lt_of_le q3 hsz⟩
  · rw [hkeep b (Nat.lt_of_lt_of_le h1 h.grow) fun id ob K C _ g1 g2 => by
      obtain ⟨q1, q2, q3⟩ := h.fresh id ob b _ g1 g2
      rcases q1 with q1 | q1
      · omega
      · exact h2 q1]
    exact h.keep b h1 h2
  · obtain ⟨r, h1, h2⟩ := h.base id hid
    exact ⟨r, h1, hEE id r h2⟩

open Go.RowKit in
theorem SimE.below {G : Gh} {s : St} {a : Act} {w w' : World} {E : Env} (h : SimE G s a w E) (hb : Below w.heap.size w w') : SimE G s a w' E :=
  (h.upd (fun _ => False) rfl hb.size hb.os hb.tape hb.output (fun b hlt _ => hb.block b hlt) (fun _ _ => ⟨rfl, rfl⟩) (fun _ _ h => h) (fun _ h => h) (fun _ h => h.elim) (fun _ _ h => h.elim)
    (fun _ _ _ _ _ h => h.elim) (fun _ _ _ _ _ _ _ h => h.elim)).1

/-- what is one's own lies behind the number -/
theorem SimE.lo_le {G : Gh} {s : St} {a : Act} {w : World} {E : Env} (h : SimE G s a w E) {id : Nat} {ob : OB} {b : Nat} {x : Nat × Nat} (h1 : s.hp id = some ob) (h2 : E id = some (some b, x)) : G.lo ≤ b := by
  rcases (h.fresh id ob b x h1 h2).1 with g | g
  · exact Nat.le_trans G.hlo g
  · exact G.hM b g
theorem OT_lt {G : Gh} {s : St} {a : Act} {w : World} {E : Env} (h : SimE G s a w E) : ∀ b, OT G s E b → b < w.heap.size := by
  rintro b (hb | ⟨id, ob, K, C, h1, h2⟩)
  · exact h.old b hb
  · exact (h.fresh id ob b _ h1 h2).2.2

theorem OT_ok {G : Gh} {s : St} {a : Act} {w : World} {E : Env} (h : SimE G s a w E) : OKO w (OT G s E) := ⟨OT_lt h, h.glob⟩

def vE (x : Value) : List V := [.v x]
def scal : List V → Option (List Value)
  | [] => some []
  | .v x :: r => (scal r).map (x :: ·)
  | _ => none
theorem scal_spec : ∀ {cs : List V} {xs : List Value}, scal cs = some xs → cs = xs.map .v := by
  intro cs
  induction cs with
  | nil => intro xs h; cases h; rfl
  | cons c r ih =>
    intro xs h
    cases c with
    | v x =>
      simp only [scal, Option.map_eq_some_iff] at h
      obtain ⟨r', hr, rfl⟩ := h
      simp [ih hr]
    | _ => cases h

def pure0 : V → Bool
  | .v _ | .lst _ _ _ | .fp _ | .any => true
  | _ => false
def all0 : List V → Bool
  | [] => true
  | x :: r => pure0 x && all0 r
def pureV : V → Bool
  | .agg cs | .tup cs | .fn _ cs => all0 cs
  | x => pure0 x
def allP : List V → Bool
  | [] => true
  | x :: r => pureV x && allP r
theorem all0_spec : ∀ {l : List V}, all0 l = true → ∀ (j : Nat) (u : V), l[j]? = some u → pure0 u = true := by
  intro l
  induction l with
  | nil => simp
  | cons x r ih =>
    intro h j u hj
    simp only [all0, Bool.and_eq_true] at h
    cases j with
    | zero => simp at hj; subst hj; exact h.1
    | succ j => simp at hj; exact ih h.2 j u hj
theorem allP_spec : ∀ {l : List V}, allP l = true → ∀ (j : Nat) (u : V), l[j]? = some u → pureV u = true := by
  intro l
  induction l with
  | nil => simp
  | cons x r ih =>
    intro h j u hj
    simp only [allP, Bool.and_eq_true] at h
    cases j with
    | zero => simp at hj; subst hj; exact h.1
    | succ j => simp at hj; exact ih h.2 j u hj
theorem R.pure0 {w : World} {O : Nat → Prop} {E : Env} {x : V} {y : Value} (hx : pure0 x = true) (h : R w O E x y) : R0 w O x y := by
  cases h with
  | r0 _ _ h => exact h
  | _ => cases hx
theorem R.pureV {w : World} {O : Nat → Prop} {E : Env} {x : V} {y : Value} (hx : pureV x = true) (h : R w O E x y) : R0 w O x y := by
  cases h with
  | r0 _ _ h => exact h
  | agg cs ys hn hr => exact .agg _ _ hn fun j u y h1 h2 => (hr j u y h1 h2).pure0 (all0_spec hx j u h1)
  | tup cs ys hn hr => exact .tup _ _ hn fun j u y h1 h2 => (hr j u y h1 h2).pure0 (all0_spec hx j u h1)
  | fn f cs ys hn hr => exact .fn _ _ _ hn fun j u y h1 h2 => (hr j u y h1 h2).pure0 (all0_spec hx j u h1)
  | ptr => cases hx
  | eptr => cases hx
  | own => cases hx
  | mp => cases hx

def hsets (s : St) : List (Nat × Option OB) → St
  | [] => s
  | (i, x) :: r => hsets (s.hset i x) r
/-- what an operation leaves: a value, and memory that it altered -/
def app (s : St) (d : Option Nat) (e : V × List (Nat × Option OB)) : St := putD (hsets s e.2) d e.1

/-- What an operation asks, and the value that it gives. -/
inductive Res : Type
  | go (C : Prop) (k : C → V)
  | heap (C : Prop) (k : C → V × List (Nat × Option OB))
  | call (f : V) (as : List V)
  | br (C : Bool → Prop)
  | stuck

/-- that what an operation gives is what the machine's run gives -/
def ResOK (P : Program) (G : Gh) (s : St) (o : Oper) : Res → Prop
  | .go C k => ∀ h : C, StepOK P G s o (putD s o.dst (k h))
  | .heap C k => ∀ h : C, StepOK P G s o (app s o.dst (k h))
  | .call f as => ∃ (x : Operand) (l : List Operand) (ts : Array TypeId), o.op = .call ⟨.value x, l.toArray, ts⟩ ∧ f = ev s x ∧ as = l.map (ev s)
  | .br C => ∀ a w, Sim G s a w → ∀ (K : Act → World → Prop) (Q : Exit → Act → World → Prop), (∀ b, C b → ∀ a' w', Sim G (putD s o.dst (.v (.bool b))) a' w' → K a' w') → o.wp P a w K Q
  | .stuck => True
end Pm
end Go.Proofs.Ytgienbcekgokiaa
