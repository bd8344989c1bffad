import Derived.WalkKit
import Derived.WalkSmall
namespace Go.Proofs.YtppcbmpiphhphaaGreatDoor
open Go
set_option linter.unusedSimpArgs false
set_option linter.unusedVariables false
namespace Pm
theorem orMap {a b c d : Prop} (f : a → c) (g : b → d) : a ∨ b → c ∨ d
  | .inl h => .inl (f h)
  | .inr h => .inr (g h)

inductive V : Type
  | any
  | v (x : Value)
  | lst (lo sz : Nat) (l : List (List V))
  | fp (cs : List V)
  | ptr (id off : Nat)
  | eptr (id i k sz : Nat)
  | own (id off len sz : Nat)
  | mp (id : Nat)
  | agg (cs : List V)
  | tup (cs : List V)
  | fn (f : Fn) (cap : List V)

def wrV : Value → Bool
  | .int .u8 _ => false
  | _ => true
def cellA (w : World) (a : Addr) (v : Value) : Prop := w.cell? a = some v ∧ (wrV v = true → w.frozen? a = false)
theorem cellA_of_block {w w' : World} {b o : Nat} {v : Value} (h : w'.heap[b]? = w.heap[b]?) (hc : cellA w ⟨b, o, none⟩ v) : cellA w' ⟨b, o, none⟩ v :=
  ⟨(World.cell?_of_block h).trans hc.1, fun hw => by have := hc.2 hw; simpa [World.frozen?, h] using this⟩
theorem cellA_of_row {w : World} {b o : Nat} {v : Value} {ys : Array Value} {t : TypeId} (h : w.heap[b]? = some (.cells ys t (0, 0))) (hc : w.cell? ⟨b, o, none⟩ = some v) : cellA w ⟨b, o, none⟩ v :=
  ⟨hc, fun _ => by simp [World.frozen?, h]⟩

abbrev bndF (k : FuncId) : Fn := .via 0 #[] k false
def fnVal : Fn → Array Value → Value
  | .via _ _ k _, ys => .func (.func k) ys #[]
  | f, ys => .func f #[] ys
inductive R0 (w : World) (O : Nat → Prop) : V → Value → Prop
  | any (y : Value) : R0 w O .any y
  | v (x : Value) : R0 w O (.v x) x
  | lst (lo sz : Nat) (l : List (List V)) (a : Option Addr) (n cap b o : Nat) (g : Nat → Nat → Value) (hlo : l ≠ [] → lo ≤ b)
      (hn : n = l.length) (hc : l.length ≤ cap) (hl : l.length ≤ 140737488355328)
      (ha : l ≠ [] → a = some ⟨b, o, none⟩ ∧ ¬ O b ∧ b < w.heap.size)
      (hs : ∀ (i : Nat) (x : List V) (j : Nat) (u : V), l[i]? = some x → x[j]? = some u → cellA w ⟨b, o + (i * sz + j), none⟩ (g i j))
      (hz : ∀ x, x ∈ l → x.length = sz)
      (hr : ∀ (i : Nat) (x : List V) (j : Nat) (u : V), l[i]? = some x → x[j]? = some u → R0 w O u (g i j)) : R0 w O (.lst lo sz l) (.slice a n cap)
  | fp (cs : List V) (b o : Nat) (g : Nat → Value) (hO : ¬ O b) (hb : b < w.heap.size)
      (hs : ∀ (j : Nat) (u : V), cs[j]? = some u → cellA w ⟨b, o + j, none⟩ (g j))
      (hr : ∀ (j : Nat) (u : V), cs[j]? = some u → R0 w O u (g j)) : R0 w O (.fp cs) (.pointer (some ⟨b, o, none⟩))
  | agg (cs : List V) (ys : Array Value) (hn : ys.size = cs.length) (hr : ∀ (j : Nat) (u : V) (y : Value), cs[j]? = some u → ys[j]? = some y → R0 w O u y) : R0 w O (.agg cs) (.agg ys)
  | tup (cs : List V) (ys : Array Value) (hn : ys.size = cs.length) (hr : ∀ (j : Nat) (u : V) (y : Value), cs[j]? = some u → ys[j]? = some y → R0 w O u y) : R0 w O (.tup cs) (.tuple ys)
  | fn (f : Fn) (cap : List V) (ys : Array Value) (hn : ys.size = cap.length) (hr : ∀ (j : Nat) (u : V) (y : Value), cap[j]? = some u → ys[j]? = some y → R0 w O u y) : R0 w O (.fn f cap) (fnVal f ys)

abbrev Env := Nat → Option (Option Nat × Nat × Nat)

def ownVal (b : Option Nat) (K C off len sz : Nat) (y : Value) : Prop :=
  off + len ≤ K ∧ K ≤ C ∧ match b with
  | none => off = 0 ∧ len = 0 ∧ y = .slice none 0 0
  | some b => ∃ o, (off < C ∨ off = 0 → o = off * sz) ∧ y = .slice (some ⟨b, o, none⟩) len (C - off)

inductive R (w : World) (O : Nat → Prop) (E : Env) : V → Value → Prop
  | r0 (x : V) (y : Value) (h : R0 w O x y) : R w O E x y
  | ptr (id off b K C : Nat) (h : E id = some (some b, K, C)) : R w O E (.ptr id off) (.pointer (some ⟨b, off, none⟩))
  | eptr (id i k sz b K C : Nat) (h : E id = some (some b, K, C)) (hi : i < K) : R w O E (.eptr id i k sz) (.pointer (some ⟨b, i * sz + k, none⟩))
  | own (id off len sz : Nat) (b : Option Nat) (K C : Nat) (y : Value) (h : E id = some (b, K, C)) (hv : ownVal b K C off len sz y) : R w O E (.own id off len sz) y
  | mp (id b K C : Nat) (h : E id = some (some b, K, C)) : R w O E (.mp id) (.map (some b))
  | agg (cs : List V) (ys : Array Value) (hn : ys.size = cs.length) (hr : ∀ (j : Nat) (u : V) (y : Value), cs[j]? = some u → ys[j]? = some y → R w O E u y) : R w O E (.agg cs) (.agg ys)
  | tup (cs : List V) (ys : Array Value) (hn : ys.size = cs.length) (hr : ∀ (j : Nat) (u : V) (y : Value), cs[j]? = some u → ys[j]? = some y → R w O E u y) : R w O E (.tup cs) (.tuple ys)
  | fn (f : Fn) (cap : List V) (ys : Array Value) (hn : ys.size = cap.length) (hr : ∀ (j : Nat) (u : V) (y : Value), cap[j]? = some u → ys[j]? = some y → R w O E u y) : R w O E (.fn f cap) (fnVal f ys)

def isCells (w : World) (b : Nat) : Prop := ∃ cs t f, w.heap[b]? = some (.cells cs t f)
theorem isCells_of {w : World} {b o : Nat} {v : Value} (h : w.cell? ⟨b, o, none⟩ = some v) : isCells w b := by
  unfold World.cell? at h
  revert h
  cases e : w.heap[b]? with
  | none => simp
  | some x =>
    cases x with
    | cells cs t f => intro _; exact ⟨cs, t, f, e⟩
    | _ => intro h; simp at h
theorem R0.monoC {w w' : World} {O O' : Nat → Prop} {x : V} {y : Value} (h : R0 w O x y) (hsz : w.heap.size ≤ w'.heap.size)
    (hO : ∀ b, ¬ O b → b < w.heap.size → ¬ O' b) (hw : ∀ b, ¬ O b → b < w.heap.size → isCells w b → w'.heap[b]? = w.heap[b]?) : R0 w' O' x y := by
  induction h with
  | any y => exact .any y
  | v x => exact .v x
  | lst lo sz l a n cap b o g hlo hn hc hl ha hs hz hr ih =>
    refine .lst lo sz l a n cap b o g hlo hn hc hl (fun h => ⟨(ha h).1, hO b (ha h).2.1 (ha h).2.2, Nat.lt_of_lt_of_le (ha h).2.2 hsz⟩) (fun i x j u h1 h2 => ?_) hz ih
    have hl0 : l ≠ [] := by rintro rfl; simp at h1
    have hc := hs i x j u h1 h2
    exact cellA_of_block (hw b (ha hl0).2.1 (ha hl0).2.2 (isCells_of hc.1)) hc
  | fp cs b o g h1 hb hs hr ih =>
    refine .fp cs b o g (hO b h1 hb) (Nat.lt_of_lt_of_le hb hsz) (fun j u h2 => ?_) ih
    have hc := hs j u h2
    exact cellA_of_block (hw b h1 hb (isCells_of hc.1)) hc
  | agg cs ys hn hr ih => exact .agg cs ys hn ih
  | tup cs ys hn hr ih => exact .tup cs ys hn ih
  | fn f cap ys hn hr ih => exact .fn f cap ys hn ih

theorem R0.mono {w w' : World} {O O' : Nat → Prop} {x : V} {y : Value} (h : R0 w O x y) (hsz : w.heap.size ≤ w'.heap.size)
    (hO : ∀ b, ¬ O b → b < w.heap.size → ¬ O' b) (hw : ∀ b, ¬ O b → b < w.heap.size → w'.heap[b]? = w.heap[b]?) : R0 w' O' x y := h.monoC hsz hO fun b h1 h2 _ => hw b h1 h2

theorem R.monoC {w w' : World} {O O' : Nat → Prop} {E E' : Env} {x : V} {y : Value} (h : R w O E x y) (hsz : w.heap.size ≤ w'.heap.size)
    (hO : ∀ b, ¬ O b → b < w.heap.size → ¬ O' b) (hw : ∀ b, ¬ O b → b < w.heap.size → isCells w b → w'.heap[b]? = w.heap[b]?)
    (hE : ∀ id r, E id = some r → E' id = some r) : R w' O' E' x y := by
  induction h with
  | r0 x y h => exact .r0 x y (h.monoC hsz hO hw)
  | ptr id off b K C h => exact .ptr id off b K C (hE _ _ h)
  | eptr id i k sz b K C h hi => exact .eptr id i k sz b K C (hE _ _ h) hi
  | own id off len sz b K C y h hv => exact .own id off len sz b K C y (hE _ _ h) hv
  | mp id b K C h => exact .mp id b K C (hE _ _ h)
  | agg cs ys hn hr ih => exact .agg cs ys hn ih
  | tup cs ys hn hr ih => exact .tup cs ys hn ih
  | fn f cap ys hn hr ih => exact .fn f cap ys hn ih
theorem R.mono {w w' : World} {O O' : Nat → Prop} {E E' : Env} {x : V} {y : Value} (h : R w O E x y) (hsz : w.heap.size ≤ w'.heap.size)
    (hO : ∀ b, ¬ O b → b < w.heap.size → ¬ O' b) (hw : ∀ b, ¬ O b → b < w.heap.size → w'.heap[b]? = w.heap[b]?)
    (hE : ∀ id r, E id = some r → E' id = some r) : R w' O' E' x y := h.monoC hsz hO (fun b h1 h2 _ => hw b h1 h2) hE
end Pm
open Go
namespace Pm
def gl1 : List (Nat × List V) := []
def gl2 : List (Nat × List V) := []
def gl3 : List (Nat × List V) := []
def gl4 : List (Nat × List V) := []
def gl5 : List (Nat × List V) := []
def gl6 : List (Nat × List V) := [(1, [.v (.bool false), .v (.bool false), .v (.bool false), .v (.bool false), .any, .v (.bool true), .v (.bool false), .v (.bool true), .v (.bool false), .fn (.func 213) [], .v (.bool true), .v (.bool true), .v (.bool true), .v (.bool false), .fn (.func 214) [], .v (.bool false), .v (.bool true), .v (.bool true), .v (.bool false), .fn (.func 216) [], .v (.bool false), .v (.bool false), .v (.bool false), .v (.bool true), .fn (.func 217) []])]
def gl7 : List (Nat × List V) := [(0, [.v (.string ⟨#[]⟩), .any, .any, .v (.string ⟨#[102, 111, 114, 109]⟩), .fn (.func 203) [], .fn (.func 205) [], .v (.string ⟨#[102, 114, 111, 109]⟩), .fn (.func 207) [], .fn (.func 208) [], .v (.string ⟨#[112, 108, 97, 99, 101]⟩), .fn (.func 209) [], .fn (.func 210) [], .v (.string ⟨#[118, 111, 105, 100]⟩), .fn (.func 211) [], .fn (.func 212) []])]
def isIfc (ys : Array Value) : Prop := ∃ y, ys[0]? = some y ∧ (y = .nilIface ∨ ∃ t p, y = .iface t p)
def isInt (ys : Array Value) : Prop := ∃ m, ys[0]? = some (.int .i64 m)
def isTab (zs : List Value) (ys : Array Value) : Prop := ys = zs.toArray
def glI1 : List (Nat × (Array Value → Prop)) := [(4, isIfc), (5, isIfc)]
def glI2 : List (Nat × (Array Value → Prop)) := [(3, isTab [.int .u64 1, .int .u64 10, .int .u64 100, .int .u64 1000, .int .u64 10000, .int .u64 100000, .int .u64 1000000, .int .u64 10000000, .int .u64 100000000, .int .u64 1000000000, .int .u64 10000000000, .int .u64 100000000000, .int .u64 1000000000000, .int .u64 10000000000000, .int .u64 100000000000000, .int .u64 1000000000000000, .int .u64 10000000000000000, .int .u64 100000000000000000, .int .u64 1000000000000000000, .int .u64 10000000000000000000])]
def glI3 : List (Nat × (Array Value → Prop)) := [(2, isInt)]
def globs : List (Nat × List V) := gl1 ++ gl2 ++ gl3 ++ gl4 ++ gl5 ++ gl6 ++ gl7
def globsI : List (Nat × (Array Value → Prop)) := glI1 ++ glI2 ++ glI3
end Pm
end Go.Proofs.YtppcbmpiphhphaaGreatDoor
