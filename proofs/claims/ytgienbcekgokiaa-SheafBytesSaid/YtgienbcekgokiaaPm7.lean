/- What a function that only reads gives: its contract, how it is shown, how a caller uses it. No program in sight. -/
import Derived.Test.YtgienbcekgokiaaPm6
namespace Go.Proofs.Ytgienbcekgokiaa
open Go Go.RowKit
set_option linter.unusedSimpArgs false
set_option linter.unusedVariables false
namespace Pm

/-- A value as others see it, once the blocks of the names 'p' are written no more; what leads to others is not told. -/
def vwS (p : Nat → Bool) (lo : Nat) (s : St) : Nat → V → V
  | 0, _ => .any
  | n + 1, x => match x with
    | .own id off len sz => match p id, s.hget id with
      | true, some (.arr _ sz' l) => if sz = sz' then .lst lo sz ((l.drop off).take len) else .any
      | true, some (.box cs) => if sz = 1 then .lst lo 1 ((((cs.map (vwS p lo s n)).drop off).take len).map fun c => [c]) else .any
      | _, _ => .any
    | .ptr id off => match p id, s.hget id with
      | true, some (.box cs) => .fp ((cs.map (vwS p lo s n)).drop off)
      | _, _ => .any
    | .eptr _ _ _ _ => .any
    | .mp _ => .any
    | .agg cs => .agg (cs.map (vwS p lo s n))
    | .tup cs => .tup (cs.map (vwS p lo s n))
    | .fn f cap => .fn f (cap.map (vwS p lo s n))
    | .v x => .v x
    | .lst lo sz l => .lst lo sz l
    | .fp cs => .fp cs
    | .any => .any
def vw (lo : Nat) (s : St) (n : Nat) (x : V) : V := vwS (fun _ => true) lo s n x
/-- the same, other names left as they are -/
def vwF (p : Nat → Bool) (lo : Nat) (s : St) : Nat → V → V
  | 0, _ => .any
  | n + 1, x => match x with
    | .own id off len sz => match p id with
      | true => vwS p lo s (n + 1) (.own id off len sz)
      | false => .own id off len sz
    | .ptr id off => match p id with
      | true => vwS p lo s (n + 1) (.ptr id off)
      | false => .ptr id off
    | .eptr id i k sz => match p id with
      | true => .any
      | false => .eptr id i k sz
    | .mp id => match p id with
      | true => .any
      | false => .mp id
    | .agg cs => .agg (cs.map (vwF p lo s n))
    | .tup cs => .tup (cs.map (vwF p lo s n))
    | .fn f cap => .fn f (cap.map (vwF p lo s n))
    | .v x => .v x
    | .lst lo sz l => .lst lo sz l
    | .fp cs => .fp cs
    | .any => .any

theorem vwS_R0 {G : Gh} {s : St} {a : Act} {w : World} {E : Env} (hE : SimE G s a w E) {p : Nat → Bool} {O' : Nat → Prop} (hO : ∀ b, ¬ OT G s E b → b < w.heap.size → ¬ O' b)
    (hp : ∀ id ob b x, p id = true → s.hp id = some ob → E id = some (some b, x) → ¬ O' b) : ∀ (n : Nat) {x : V} {y : Value}, R w (OT G s E) E x y → R0 w O' (vwS p G.lo s n x) y := by
  have hlo : ∀ id ob b x, s.hp id = some ob → E id = some (some b, x) → G.lo ≤ b := fun id ob b x h1 h2 => hE.lo_le h1 h2
  have up : ∀ {x : V} {y : Value}, R0 w (OT G s E) x y → R0 w O' x y := fun h => h.mono (Nat.le_refl _) hO fun _ _ _ => rfl
  intro n
  induction n with
  | zero => intro x y _; exact .any _
  | succ n ih =>
    intro x y h
    unfold vwS
    cases x with
    | any => exact .any _
    | v x => rw [R.v_inv h]; exact .v x
    | lst lo' sz l =>
      cases h with
      | r0 _ _ h => exact up h
    | fp cs =>
      cases h with
      | r0 _ _ h => exact up h
    | eptr => exact .any _
    | mp => exact .any _
    | agg cs =>
      obtain ⟨ys, rfl, hsz, hr⟩ := R.agg_inv h
      refine .agg _ _ (by simpa using hsz) fun j u y h1 h2 => ?_
      simp only [List.getElem?_map, Option.map_eq_some_iff] at h1
      obtain ⟨u', h1, rfl⟩ := h1
      exact ih (hr j u' y h1 h2)
    | tup cs =>
      obtain ⟨ys, rfl, hsz, hr⟩ := R.tup_inv h
      refine .tup _ _ (by simpa using hsz) fun j u y h1 h2 => ?_
      simp only [List.getElem?_map, Option.map_eq_some_iff] at h1
      obtain ⟨u', h1, rfl⟩ := h1
      exact ih (hr j u' y h1 h2)
    | fn f cs =>
      obtain ⟨ys, rfl, hsz, hr⟩ := R.fn_inv h
      refine .fn _ _ _ (by simpa using hsz) fun j u y h1 h2 => ?_
      simp only [List.getElem?_map, Option.map_eq_some_iff] at h1
      obtain ⟨u', h1, rfl⟩ := h1
      exact ih (hr j u' y h1 h2)
    | ptr id off =>
      obtain ⟨b, K, C, hid, rfl⟩ := R.ptr_inv h
      dsimp only
      split
      · rename_i cs hpi hcs
        obtain ⟨b', K', C', hid', b'', ys, t, hb, hh, hsz, _, _, hr⟩ := hE.hp id _ hcs
        rw [hid] at hid'
        cases hid'
        cases hb
        obtain ⟨_, _, hlt⟩ := hE.fresh id _ _ _ hcs hid
        have hnf := hp id _ _ _ hpi hcs hid
        have hsz' : ∀ j u, (List.map (vwS p G.lo s n) cs)[j]? = some u → j < ys.size := fun j u h => by
          have := (List.getElem?_eq_some_iff.1 h).1
          simp at this; omega
        refine .fp _ b off (fun j => ys.getD (off + j) undef) hnf hlt (fun j u h1 => ?_) (fun j u h1 => ?_)
        · rw [List.getElem?_drop] at h1
          have := hsz' _ _ h1
          refine cellA_of_row hh ?_
          rw [cell_of_row w b (off + j) ys t (0, 0) hh]
          simp [this]
        · rw [List.getElem?_drop] at h1
          have hlt' := hsz' _ _ h1
          simp only [List.getElem?_map, Option.map_eq_some_iff] at h1
          obtain ⟨u', h1, rfl⟩ := h1
          refine ih (hr (off + j) u' _ h1 ?_)
          simp [hlt']
      · exact .any _
    | own id off len sz =>
      obtain ⟨b, K, C, hid, hov⟩ := R.own_inv h
      dsimp only
      split
      · rename_i t sz' l hpi hob
        split
        · rename_i hszz
          subst hszz
          obtain ⟨b', K', C', hid', hHB⟩ := hE.hp id _ hob
          rw [hid] at hid'
          cases hid'
          refine arr_R0 (hHB.mono (O' := O') (Nat.le_refl _) hO (fun _ _ _ => rfl) (fun _ _ h => h) (fun _ _ => rfl)) hov fun b' hb' => ?_
          subst hb'
          exact ⟨hlo id _ _ _ hob hid, hp id _ _ _ hpi hob hid, (hE.fresh id _ _ _ hob hid).2.2⟩
        · exact .any _
      · rename_i cs hpi hob
        split
        · rename_i hsz1
          subst hsz1
          obtain ⟨hle, hKC, hv⟩ := hov
          obtain ⟨b', K', C', hid', b'', ys, t, hb, hh, hsz, hK, hKC', hr⟩ := hE.hp id _ hob
          rw [hid] at hid'
          cases hid'
          cases hb
          obtain ⟨o, ho, rfl⟩ := hv
          obtain ⟨_, _, hlt⟩ := hE.fresh id _ _ _ hob hid
          have hnf := hp id _ _ _ hpi hob hid
          have hlen : ((((cs.map (vwS p G.lo s n)).drop off).take len).map fun c => [c]).length = len := by simp; omega
          have idx : ∀ (i : Nat) (x : List V), ((((cs.map (vwS p G.lo s n)).drop off).take len).map fun c => [c])[i]? = some x → ∃ (u' : V) (hi : off + i < ys.size), x = [vwS p G.lo s n u'] ∧ i < len ∧ R0 w O' (vwS p G.lo s n u') ys[off + i] := fun i x h => by
            simp only [List.getElem?_map, Option.map_eq_some_iff] at h
            obtain ⟨c, h1, rfl⟩ := h
            obtain ⟨h2, hi⟩ := take_getElem? _ _ _ _ h1
            rw [List.getElem?_drop] at h2
            simp only [List.getElem?_map, Option.map_eq_some_iff] at h2
            obtain ⟨u', h3, rfl⟩ := h2
            have hlt : off + i < ys.size := by rw [hsz]; exact (List.getElem?_eq_some_iff.1 h3).1
            exact ⟨u', hlt, rfl, hi, ih (hr _ _ _ h3 (Array.getElem?_eq_getElem hlt))⟩
          refine .lst G.lo 1 _ _ len _ b'' (off * 1) (fun i j => ys.getD (off + i) undef) (fun _ => hlo id _ _ _ hob hid) hlen.symm (by rw [hlen]; omega) (by rw [hlen]; omega) (fun hne => ?_) (fun i x j u h1 h2 => ?_) (fun x hx => ?_) (fun i x j u h1 h2 => ?_)
          · have : 0 < len := by rw [← hlen]; exact List.length_pos_iff.2 hne
            refine ⟨?_, hnf, hlt⟩
            rw [ho (.inl (by omega))]
          · obtain ⟨u', hi, rfl, hil, h3⟩ := idx i x h1
            have hj : j = 0 := by have := (List.getElem?_eq_some_iff.1 h2).1; simp at this; exact this
            subst hj
            have e1 : off * 1 + (i * 1 + 0) = off + i := by omega
            refine cellA_of_row hh ?_
            rw [e1, cell_of_row w b'' _ ys t (0, 0) hh]
            simp [hi]
          · simp only [List.mem_map] at hx
            obtain ⟨c, _, rfl⟩ := hx
            rfl
          · obtain ⟨u', hi, rfl, hil, h3⟩ := idx i x h1
            have hj : j = 0 := by have := (List.getElem?_eq_some_iff.1 h2).1; simp at this; exact this
            subst hj
            simp at h2
            subst h2
            have e2 : ys.getD (off + i) undef = ys[off + i] := by simp [hi]
            rw [e2]
            exact h3
        · exact .any _
      · exact .any _
theorem vw_R0 {G : Gh} {s : St} {a : Act} {w : World} {E : Env} (hE : SimE G s a w E) (n : Nat) {x : V} {y : Value} (h : R w (OT G s E) E x y) : R0 w G.Of (vw G.lo s n x) y :=
  vwS_R0 hE (fun _ h _ h' => h (.inl h')) (fun id ob b x _ h1 h2 => (hE.fresh id ob b x h1 h2).2.1) n h

/-! Memory that is written no more, from here on. -/
def frzO (p : Nat → Bool) (lo : Nat) (s : St) : OB → OB
  | .box cs => .box (cs.map (vwF p lo s 4))
  | .arr t sz l => .arr t sz l
  | .map kk m => .map kk (m.map fun q => (q.1, vwF p lo s 4 q.2))
  | .obj o => .obj o
def frz (p : Nat → Bool) (lo : Nat) (s : St) : St := ⟨fun i => vwF p lo s 4 (s.fr i), fun i => match p i with
  | true => none
  | false => (s.hp i).map (frzO p lo s), s.us⟩
theorem vwF_R {G : Gh} {s : St} {a : Act} {w : World} {E : Env} (hE : SimE G s a w E) {p : Nat → Bool} {O' : Nat → Prop} (hO : ∀ b, ¬ OT G s E b → b < w.heap.size → ¬ O' b)
    (hp : ∀ id ob b x, p id = true → s.hp id = some ob → E id = some (some b, x) → ¬ O' b) : ∀ (n : Nat) {x : V} {y : Value}, R w (OT G s E) E x y → R w O' E (vwF p G.lo s n x) y := by
  have up : ∀ {x : V} {y : Value}, R w (OT G s E) E x y → R w O' E x y := fun h => h.mono (Nat.le_refl _) hO (fun _ _ _ => rfl) fun _ _ h => h
  intro n
  induction n with
  | zero => intro x y _; exact .r0 _ _ (.any _)
  | succ n ih =>
    intro x y h
    unfold vwF
    cases x with
    | own id off len sz =>
      dsimp only
      split
      · exact .r0 _ _ (vwS_R0 hE hO hp (n + 1) h)
      · exact up h
    | ptr id off =>
      dsimp only
      split
      · exact .r0 _ _ (vwS_R0 hE hO hp (n + 1) h)
      · exact up h
    | eptr id =>
      dsimp only
      split
      · exact .r0 _ _ (.any _)
      · exact up h
    | mp id =>
      dsimp only
      split
      · exact .r0 _ _ (.any _)
      · exact up h
    | agg cs =>
      obtain ⟨ys, rfl, hsz, hr⟩ := R.agg_inv h
      refine .agg _ _ (by simpa using hsz) fun j u y h1 h2 => ?_
      simp only [List.getElem?_map, Option.map_eq_some_iff] at h1
      obtain ⟨u', h1, rfl⟩ := h1
      exact ih (hr j u' y h1 h2)
    | tup cs =>
      obtain ⟨ys, rfl, hsz, hr⟩ := R.tup_inv h
      refine .tup _ _ (by simpa using hsz) fun j u y h1 h2 => ?_
      simp only [List.getElem?_map, Option.map_eq_some_iff] at h1
      obtain ⟨u', h1, rfl⟩ := h1
      exact ih (hr j u' y h1 h2)
    | fn f cs =>
      obtain ⟨ys, rfl, hsz, hr⟩ := R.fn_inv h
      refine .fn _ _ _ (by simpa using hsz) fun j u y h1 h2 => ?_
      simp only [List.getElem?_map, Option.map_eq_some_iff] at h1
      obtain ⟨u', h1, rfl⟩ := h1
      exact ih (hr j u' y h1 h2)
    | _ => exact up h
theorem frz_ent {G : Gh} {s : St} (p : Nat → Bool) : Ent G s (frz p G.lo s) := by
  rintro a w ⟨E, hE⟩
  have back : ∀ i o, (frz p G.lo s).hp i = some o → p i = false ∧ ∃ o', s.hp i = some o' ∧ o = frzO p G.lo s o' := fun i o h => by
    simp only [frz] at h
    split at h
    · cases h
    · rename_i hpi
      simp only [Option.map_eq_some_iff] at h
      obtain ⟨o', h1, h2⟩ := h
      exact ⟨hpi, o', h1, h2.symm⟩
  have hO : ∀ b, ¬ OT G s E b → b < w.heap.size → ¬ OT G (frz p G.lo s) E b := by
    rintro b hb _ (h | ⟨i, o, K, C, h1, h2⟩)
    · exact hb (.inl h)
    · obtain ⟨_, o', h3, _⟩ := back i o h1
      exact hb (.inr ⟨i, o', K, C, h3, h2⟩)
  have hp : ∀ id ob b x, p id = true → s.hp id = some ob → E id = some (some b, x) → ¬ OT G (frz p G.lo s) E b := by
    rintro id ob b x hpi h1 h2 (h | ⟨i, o, K, C, h3, h4⟩)
    · exact (hE.fresh id ob b x h1 h2).2.1 h
    · obtain ⟨hpi', o', h5, _⟩ := back i o h3
      have := hE.inj i id o' ob b _ _ h5 h1 h4 h2
      subst this
      rw [hpi] at hpi'; cases hpi'
  have hL : ∀ b, ¬ live s E b → ¬ live (frz p G.lo s) E b := by
    rintro b hb ⟨i, o, K, C, h1, h2⟩
    obtain ⟨_, o', h3, _⟩ := back i o h1
    exact hb ⟨i, o', K, C, h3, h2⟩
  refine ⟨E, ⟨fun i => vwF_R hE hO hp 4 (hE.fr i), hE.defers.mono rfl fun b hb _ _ => ⟨rfl, hL b hb⟩, hE.size, fun i o h => ?_, hE.us, fun i i' o o' b x x' h1 h2 h3 h4 => ?_, fun i o b x h1 h2 => ?_, hE.old, hE.grow, hE.os, hE.tape, hE.output, hE.keep, hE.base, hE.zi⟩⟩
  · obtain ⟨_, o', h1, rfl⟩ := back i o h
    obtain ⟨b, K, C, g1, g2⟩ := hE.hp i o' h1
    refine ⟨b, K, C, g1, ?_⟩
    cases o' with
    | arr t sz l => exact g2.mono (Nat.le_refl _) hO (fun _ _ _ => rfl) (fun _ _ h => h) (fun _ _ => rfl)
    | obj x => exact g2
    | map kk m =>
      obtain ⟨b', es, clock, rfl, q2, q3, q4, q5, q6, q7⟩ := g2
      refine ⟨b', es, clock, rfl, q2, q3, q4, by simpa using q5, fun i e p' h3 h4 => ?_, q7⟩
      simp only [List.getElem?_map, Option.map_eq_some_iff] at h4
      obtain ⟨p2, h4, rfl⟩ := h4
      obtain ⟨k1, k2, k3⟩ := q6 i e p2 h3 h4
      exact ⟨k1, k2, vwF_R hE hO hp 4 k3⟩
    | box cs =>
      obtain ⟨b', ys, t, rfl, q2, q3, q4, q5, q6⟩ := g2
      refine ⟨b', ys, t, rfl, q2, by simpa using q3, by simpa using q4, q5, fun j u y h3 h4 => ?_⟩
      simp only [List.getElem?_map, Option.map_eq_some_iff] at h3
      obtain ⟨u', h3, rfl⟩ := h3
      exact vwF_R hE hO hp 4 (q6 j u' y h3 h4)
  · obtain ⟨_, o1, g1, _⟩ := back i o h1
    obtain ⟨_, o2, g2, _⟩ := back i' o' h2
    exact hE.inj i i' o1 o2 b x x' g1 g2 h3 h4
  · obtain ⟨_, o1, g1, _⟩ := back i o h1
    exact hE.fresh i o1 b x g1 h2

/-- a function with a body of its own -/
def Enters (P : Program) (f : FuncId) : Prop := ∃ fn, P.funcs[f]? = some fn ∧ (fn.name == "runtime.NumGoroutine") = false ∧ fn.body.isNone = false
def ArgsR (w : World) (O : Nat → Prop) (as : List V) (ys : Array Value) : Prop := ys.size = as.length ∧ ∀ (j : Nat) (u : V) (y : Value), as[j]? = some u → ys[j]? = some y → R0 w O u y

/-- THE CONTRACT of a function that only reads: called with these it gives that, and leaves what lay there as it lay. 'r' is told by a number: what is new of it lies in blocks from that number on. -/
def Gives (P : Program) (f : FuncId) (as : List V) (r : Nat → V) : Prop :=
  Enters P f ∧ ∀ (n : Nat) (w : World) (O : Nat → Prop) (ys : Array Value), n ≤ w.heap.size → OKO w O → ArgsR w O as ys →
    Calls P f ys w fun e w' => ∃ y, e = .returned y ∧ R0 w' O (r n) y ∧ Below w.heap.size w w'

/-- What any value's lengths are bound by. -/
inductive Bd : V → Prop
  | any : Bd .any
  | v (x : Value) : Bd (.v x)
  | lst (lo sz : Nat) (l : List (List V)) (hl : l.length ≤ 140737488355328) (hr : ∀ r ∈ l, ∀ u ∈ r, Bd u) : Bd (.lst lo sz l)
  | fp (cs : List V) (hr : ∀ u ∈ cs, Bd u) : Bd (.fp cs)
  | agg (cs : List V) (hr : ∀ u ∈ cs, Bd u) : Bd (.agg cs)
  | tup (cs : List V) (hr : ∀ u ∈ cs, Bd u) : Bd (.tup cs)
  | fn (f : Fn) (cs : List V) (hr : ∀ u ∈ cs, Bd u) : Bd (.fn f cs)
theorem R0.bd {w : World} {O : Nat → Prop} {x : V} {y : Value} (h : R0 w O x y) : Bd x := by
  have arr : ∀ (cs : List V) (ys : Array Value), ys.size = cs.length → (∀ (j : Nat) (u : V) (y : Value), cs[j]? = some u → ys[j]? = some y → Bd u) → ∀ u ∈ cs, Bd u := fun cs ys hn ih u hu => by
    obtain ⟨j, hj, rfl⟩ := List.getElem_of_mem hu
    exact ih j _ (ys[j]'(by omega)) (List.getElem?_eq_getElem hj) (by simp [hn, hj])
  induction h with
  | any => exact .any
  | v x => exact .v x
  | lst lo sz l a n cap b o g hlo hn hc hl ha hs hz hr ih =>
    refine .lst _ _ _ hl fun r hr' u hu => ?_
    obtain ⟨i, hi, rfl⟩ := List.getElem_of_mem hr'
    obtain ⟨j, hj, rfl⟩ := List.getElem_of_mem hu
    exact ih i _ j _ (List.getElem?_eq_getElem hi) (List.getElem?_eq_getElem hj)
  | fp cs b o g hO hb hs hr ih =>
    refine .fp _ fun u hu => ?_
    obtain ⟨j, hj, rfl⟩ := List.getElem_of_mem hu
    exact ih j _ (List.getElem?_eq_getElem hj)
  | agg cs ys hn hr ih => exact .agg _ (arr cs ys hn ih)
  | tup cs ys hn hr ih => exact .tup _ (arr cs ys hn ih)
  | fn f cap ys hn hr ih => exact .fn _ _ (arr cap ys hn ih)
theorem ArgsR.bd {w : World} {O : Nat → Prop} {as : List V} {ys : Array Value} (h : ArgsR w O as ys) : ∀ x ∈ as, Bd x := by
  intro x hx
  obtain ⟨j, hj, rfl⟩ := List.getElem_of_mem hx
  exact (h.2 j _ (ys[j]'(by have := h.1; omega)) (List.getElem?_eq_getElem hj) (by simp [h.1, hj])).bd

theorem Sub.refl (x : V) : Sub x x := fun _ _ _ h => h
theorem Sub.nil (lo sz : Nat) : Sub (.v (.slice none 0 0)) (.lst lo sz []) := by
  intro w O y h
  cases h with
  | v => exact .lst _ sz [] none 0 0 0 0 (fun _ _ => undef) (fun h => (h rfl).elim) rfl (by simp) (by simp) (fun h => (h rfl).elim) (by simp) (by simp) (by simp)
theorem Sub.any (x : V) : Sub x .any := fun _ _ y _ => .any y
inductive Subs : List V → List V → Prop
  | nil : Subs [] []
  | cons {x x' : V} {l l' : List V} (h : Sub x x') (t : Subs l l') : Subs (x :: l) (x' :: l')
theorem Subs.refl : ∀ l : List V, Subs l l
  | [] => .nil
  | x :: l => .cons (.refl x) (Subs.refl l)
theorem Subs.spec {l l' : List V} (h : Subs l l') : l.length = l'.length ∧ ∀ (j : Nat) (u' : V), l'[j]? = some u' → ∃ u, l[j]? = some u ∧ Sub u u' := by
  induction h with
  | nil => exact ⟨rfl, by simp⟩
  | cons h t ih =>
    refine ⟨by simp [ih.1], fun j u' hj => ?_⟩
    cases j with
    | zero => simp at hj; subst hj; exact ⟨_, rfl, h⟩
    | succ j => simp at hj; simpa using ih.2 j u' hj
theorem Subs.tup {l l' : List V} (h : Subs l l') : Sub (.tup l) (.tup l') := by
  intro w O y hy
  cases hy with
  | tup _ ys hn hr =>
    obtain ⟨h1, h2⟩ := h.spec
    refine .tup _ _ (by omega) fun j u y h3 h4 => ?_
    obtain ⟨u0, h5, h6⟩ := h2 j u h3
    exact h6 _ _ _ (hr j u0 y h5 h4)
theorem Subs.agg {l l' : List V} (h : Subs l l') : Sub (.agg l) (.agg l') := by
  intro w O y hy
  cases hy with
  | agg _ ys hn hr =>
    obtain ⟨h1, h2⟩ := h.spec
    refine .agg _ _ (by omega) fun j u y h3 h4 => ?_
    obtain ⟨u0, h5, h6⟩ := h2 j u h3
    exact h6 _ _ _ (hr j u0 y h5 h4)

/-- what stands in a result's variable at the end -/
def resV (P : Program) (lo : Nat) (s : St) : ResultVar → V
  | .tmp t => vw lo s 4 (s.get t)
  | .cell a t => match s.get a, loadK P t with
    | .ptr id off, some (ag, n) => match s.hget id with
      | some (.box cs) => match ag with
        | true => .agg (((cs.map (vw lo s 3)).drop off).take n)
        | false => ((cs.map (vw lo s 3))[off]?).getD .any
      | _ => .any
    | _, _ => .any
def resOK (P : Program) (s : St) : ResultVar → Prop
  | .tmp _ => True
  | .cell a t => match s.get a, loadK P t with
    | .ptr id off, some (ag, n) => match s.hget id with
      | some (.box cs) => match ag with
        | true => off + n ≤ cs.length
        | false => off < cs.length
      | _ => False
    | _, _ => False
/-- what must hold at the end of a function's body for it to give 'r' -/
def EndsAt (P : Program) (lo : Nat) (rs : List ResultVar) (r : V) : Exit → St → Prop
  | .normal, s | .ret, s => match rs with
    | [x] => resOK P s x ∧ Sub (resV P lo s x) r
    | rs => (∀ x, x ∈ rs → resOK P s x) ∧ Sub (.tup (rs.map (resV P lo s))) r
  | _, _ => False

def resSem (tmps : Array Value) : ResultVar → Sem Value
  | .tmp t => pure (tmps.getD t undef)
  | .cell ad t => do loadVar t (← asAddr (tmps.getD ad undef))
theorem results_eq (fn : Func) (tmps : Array Value) : results fn tmps = (do
    let vs ← fn.results.mapM (resSem tmps)
    pure (if h : vs.size = 1 then vs[0] else .tuple vs)) := by
  unfold results
  congr 1
theorem resV_run {P : Program} {G : Gh} {s : St} {a : Act} {w : World} {E : Env} (hE : SimE G s a w E) (x : ResultVar) (hx : resOK P s x) :
    ∃ y, (resSem a.tmps x).run P w = .ok y w ∧ R0 w G.Of (resV P G.lo s x) y := by
  cases x with
  | tmp t => exact ⟨_, rfl, vw_R0 hE 4 (hE.fr t)⟩
  | cell ad t =>
    simp only [resOK, resV] at *
    split at hx
    · rename_i id off ag n hp hl
      split at hx
      · rename_i cs hcs
        obtain ⟨d, i, hu, hi, hag, hsz⟩ := loadK_inv hl
        have hR := hE.fr ad
        have hp' : s.fr ad = .ptr id off := hp
        rw [hp'] at hR
        obtain ⟨b, K, C, hid, hy⟩ := R.ptr_inv hR
        obtain ⟨b', K', C', hid', b'', ys, t', hb, hh, hys, _, _, hr⟩ := hE.hp id _ hcs
        rw [hid] at hid'
        cases hid'
        cases hb
        have cell : ∀ j, off + j < ys.size → w.cell? ⟨b, off + j, none⟩ = some (ys.getD (off + j) undef) := fun j hj => by
          rw [cell_of_row w b _ ys t' (0, 0) hh]; simp [hj]
        cases ag with
        | true =>
          have hrun := load_cells (P := P) (w := w) (b := b) (o := off) (n := n) (f := fun j => ys.getD (off + j) undef) (fun j hj => cell j (by simp at hx; omega))
          refine ⟨.agg ((List.range n).map fun j => ys.getD (off + j) undef).toArray, ?_, ?_⟩
          · simp [resSem, hy, asAddr, loadVar, run_isAgg P w hu, hag, run_size P w hi, hsz, hrun]
          · refine .agg _ _ (by simp; simp at hx; omega) fun j u y h1 h2 => ?_
            obtain ⟨h3, hj⟩ := take_getElem? _ _ _ _ h1
            rw [List.getElem?_drop] at h3
            simp only [List.getElem?_map, Option.map_eq_some_iff] at h3
            obtain ⟨u', h4, rfl⟩ := h3
            simp [hj] at h2
            subst h2
            have hlt : off + j < ys.size := by rw [hys]; exact (List.getElem?_eq_some_iff.1 h4).1
            exact vw_R0 hE 3 (hr _ _ _ h4 (by simp [hlt]))
        | false =>
          have hlt : off < ys.size := by simp at hx; omega
          have h0 := cell 0 (by omega)
          simp only [Nat.add_zero] at h0
          refine ⟨ys.getD off undef, ?_, ?_⟩
          · simp [resSem, hy, asAddr, loadVar, run_isAgg P w hu, hag, h0]
          · have h1 : cs[off]? = some (cs[off]'(by omega)) := List.getElem?_eq_getElem _
            simp only [List.getElem?_map, h1, Option.map_some, Option.getD_some]
            exact vw_R0 hE 3 (hr _ _ _ h1 (by simp [hlt]))
      · exact hx.elim
    · exact hx.elim

theorem results_run {P : Program} {G : Gh} {s : St} {a : Act} {w : World} (hs : Sim G s a w) {fn : Func} {rs : List ResultVar} (hrs : fn.results = rs.toArray) (hl : rs.length ≤ 3) {r : V}
    (h : EndsAt P G.lo rs r .ret s) : ∃ y, (results fn a.tmps).run P w = .ok y w ∧ R0 w G.Of r y := by
  obtain ⟨E, hE⟩ := hs
  match rs, hl with
  | [], _ =>
    refine ⟨.tuple #[], by simp [results_eq, hrs], h.2 _ _ _ (.tup _ _ rfl (by simp))⟩
  | [x], _ =>
    obtain ⟨y, hy, hr⟩ := resV_run hE x h.1
    refine ⟨y, ?_, h.2 _ _ _ hr⟩
    simp [results_eq, hrs, hy]
  | [x, x'], _ =>
    obtain ⟨y, hy, hr⟩ := resV_run hE x (h.1 x (by simp))
    obtain ⟨y', hy', hr'⟩ := resV_run hE x' (h.1 x' (by simp))
    refine ⟨.tuple #[y, y'], ?_, h.2 _ _ _ (.tup _ _ (by simp) fun j u z h1 h2 => ?_)⟩
    · simp [results_eq, hrs, hy, hy']
    · match j with
      | 0 => simp at h1 h2; subst h1; subst h2; exact hr
      | 1 => simp at h1 h2; subst h1; subst h2; exact hr'
      | j + 2 => simp at h2
  | [x, x', x''], _ =>
    obtain ⟨y, hy, hr⟩ := resV_run hE x (h.1 x (by simp))
    obtain ⟨y', hy', hr'⟩ := resV_run hE x' (h.1 x' (by simp))
    obtain ⟨y'', hy'', hr''⟩ := resV_run hE x'' (h.1 x'' (by simp))
    refine ⟨.tuple #[y, y', y''], ?_, h.2 _ _ _ (.tup _ _ (by simp) fun j u z h1 h2 => ?_)⟩
    · simp [results_eq, hrs, hy, hy', hy'']
    · match j with
      | 0 => simp at h1 h2; subst h1; subst h2; exact hr
      | 1 => simp at h1 h2; subst h1; subst h2; exact hr'
      | 2 => simp at h1 h2; subst h1; subst h2; exact hr''
      | j + 3 => simp at h2
  | _ :: _ :: _ :: _ :: _, h => simp at h

def enumV : Nat → List V → List (Nat × V)
  | _, [] => []
  | i, x :: r => (i, x) :: enumV (i + 1) r
theorem lkV_enum : ∀ (l : List V) (k i : Nat), lkV (enumV k l) i = if k ≤ i then (l[i - k]?).getD .any else .any := by
  intro l
  induction l with
  | nil => intro k i; simp [enumV, lkV]
  | cons x r ih =>
    intro k i
    simp only [enumV, lkV, ih]
    by_cases h1 : k = i
    · subst h1; simp
    · rw [if_neg h1]
      by_cases h2 : k ≤ i
      · have e : i - k = (i - (k + 1)) + 1 := by omega
        rw [if_pos (by omega), if_pos h2, e]; simp
      · rw [if_neg (by omega), if_neg h2]

theorem args_pad (ys : Array Value) (n i : Nat) : (ys ++ Array.replicate n undef).getD i undef = ys.getD i undef := by
  simp only [Array.getD_eq_getD_getElem?]
  by_cases h : i < ys.size
  · rw [Array.getElem?_append_left h]
  · rw [Array.getElem?_append_right (by omega), Array.getElem?_eq_none (by omega : ys.size ≤ i)]
    simp only [Array.getElem?_replicate]
    split <;> rfl
def pureG (ow : Nat → Bool) (w : World) (O : Nat → Prop) (n lo : Nat) (hlo : lo ≤ w.heap.size) (hO : OKO w O) : Gh :=
  { w0 := w, Of := O, n := n, M := fun _ => False, ow := ow, lo := lo, hlo := hlo, hM := fun _ h => h.elim, hgl := hO.gl.weak fun _ h => h.elim id False.elim }
theorem sim_enter (ow : Nat → Bool) {fn : Func} {as : List V} {ys : Array Value} {w : World} {O : Nat → Prop} {lo : Nat} (hlo : lo ≤ w.heap.size) (hO : OKO w O) (ha : ArgsR w O as ys) (hn : as.length ≤ fn.ntmps) :
    Sim (pureG ow w O fn.ntmps lo hlo hO) (St.of (enumV 0 as) []) { tmps := ys ++ Array.replicate (fn.ntmps - ys.size) undef, defers := [] } w := by
  have hsz := ha.1
  refine ⟨fun _ => none, ⟨fun i => ?_, DefOK.nil, by simp [pureG]; omega, fun id ob h => (by cases h), fun id h => (h rfl).elim, fun id id' ob ob' b x x' h => (by cases h), fun id ob b x h => (by cases h), hO.lt, Nat.le_refl _, rfl, rfl, rfl, fun _ _ _ => rfl, fun id h => (by cases h), trivial⟩⟩
  show R w _ _ (lkV (enumV 0 as) i) _
  rw [lkV_enum, args_pad]
  simp only [Nat.zero_le, if_true, Nat.sub_zero]
  cases h : as[i]? with
  | none => exact .r0 _ _ (.any _)
  | some u =>
    have hlt : i < ys.size := by rw [hsz]; exact (List.getElem?_eq_some_iff.1 h).1
    have hy : ys.getD i undef = ys[i] := by simp [hlt]
    rw [hy]
    refine .r0 _ _ ((ha.2 i u ys[i] h (by simp [hlt])).mono (Nat.le_refl _) (fun b hb _ hb' => ?_) fun _ _ _ => rfl)
    rcases hb' with hb' | ⟨id, ob, K, C, hid, _⟩
    · exact hb hb'
    · cases hid

/-! The marks, at a function's end. -/
def shutAll (w : World) : List Nat → World
  | [] => w
  | r :: rs => shutAll (w.putObj r (.deferred none)) rs
theorem shutAll_spec : ∀ (rs : List Nat) (w : World), (shutAll w rs).heap.size = w.heap.size ∧ (shutAll w rs).os = w.os ∧ (shutAll w rs).tape = w.tape ∧ (shutAll w rs).output = w.output ∧ ∀ b, b ∉ rs → (shutAll w rs).heap[b]? = w.heap[b]? := by
  intro rs
  induction rs with
  | nil => intro w; exact ⟨rfl, rfl, rfl, rfl, fun _ _ => rfl⟩
  | cons r rs ih =>
    intro w
    obtain ⟨h1, h2, h3, h4, h5⟩ := ih (w.putObj r (.deferred none))
    refine ⟨h1.trans World.putObj_size, h2, h3, h4, fun b hb => ?_⟩
    simp only [List.mem_cons, not_or] at hb
    exact (h5 b hb.2).trans (World.putObj_heap_other hb.1)
theorem leavesM_of {P : Program} {fn : Func} {tmps : Array Value} {R : Ending → World → Prop} {u : FrameMode} (hu : u ≠ .run) : ∀ (rs : List Nat) (w : World), rs.Nodup → (∀ r ∈ rs, w.heap[r]? = some (.deferred (some []))) →
    LeavesIn Fence.wide 0 P fn tmps R [] u (shutAll w rs) → LeavesInM Fence.wide 0 P fn tmps R (rs.map mark) u w := by
  intro rs
  induction rs with
  | nil => intro w _ _ h; exact h
  | cons r rs ih =>
    intro w hn h hl
    rw [List.nodup_cons] at hn
    refine ⟨hu, .inl ⟨r, _, rfl, run_takeDeferred (h r (by simp)), ih _ hn.2 (fun r' hr' => ?_) hl⟩⟩
    rw [World.putObj_heap_other (fun e : r' = r => hn.1 (by rw [← e]; exact hr'))]
    exact h r' (by simp [hr'])
theorem fin_leave {P : Program} {G : Gh} {s : St} {a : Act} {w : World} {fn : Func} {R : Ending → World → Prop} {u : FrameMode} {E : Env} (hu : u ≠ .run) (hs : SimE G s a w E) (hOf : ∀ b, G.Of b → b < G.w0.heap.size)
    (h : ∀ w'', SimE G s { tmps := a.tmps, defers := [] } w'' E → LeavesIn Fence.wide 0 P fn a.tmps R [] u w'') : LeavesInM Fence.wide 0 P fn a.tmps R a.defers u w := by
  obtain ⟨rs, e, hn, hrs⟩ := hs.defers
  rw [e]
  refine leavesM_of hu rs w hn (fun r hr => (hrs r hr).1) (h _ ?_)
  obtain ⟨h1, h2, h3, h4, h5⟩ := shutAll_spec rs w
  have hc : ∀ b, isCells w b → b ∉ rs := by
    rintro b ⟨cs, t, f, hb⟩ hr
    rw [(hrs b hr).1] at hb; cases hb
  refine ⟨fun i => (hs.fr i).monoC (by omega) (fun _ h _ => h) (fun b _ _ hb => h5 b (hc b hb)) fun _ _ h => h, DefOK.nil, hs.size, fun id ob hob => ?_, hs.us, hs.inj, fun id ob b x k1 k2 => ?_, fun b hb => by rw [h1]; exact hs.old b hb, by rw [h1]; exact hs.grow,
    h2.trans hs.os, h3.trans hs.tape, h4.trans hs.output, fun b k1 k2 => (h5 b fun hr => by have := (hrs b hr).2.1; omega).trans (hs.keep b k1 k2), hs.base, G.hZi _ _ (by omega) (fun b hb => h5 b fun hr => by have := (hrs b hr).2.1; have := hOf b hb; omega) hs.zi⟩
  · obtain ⟨b, K, C, k1, k2⟩ := hs.hp id ob hob
    refine ⟨b, K, C, k1, k2.monoC (by omega) (fun _ h _ => h) (fun b _ _ hb => h5 b (hc b hb)) (fun _ _ h => h) fun b' hb' => h5 b' fun hr => ?_⟩
    subst hb'
    exact (hrs b' hr).2.2 ⟨id, ob, K, C, hob, k1⟩
  · obtain ⟨q1, q2, q3⟩ := hs.fresh id ob b x k1 k2
    exact ⟨q1, q2, by rw [h1]; exact q3⟩
theorem calls_of_wpIn {P : Program} {f : FuncId} {fn : Func} {c : Code} {args : Array Value} {w : World} {R : Ending → World → Prop} {G : Gh} (hG : G.rd = none) (hf : P.funcs[f]? = some fn) (hb : fn.body = some c)
    (h : c.wpIn G.F 0 P (bodyPostM Fence.wide 0 P fn R) { tmps := args ++ Array.replicate (fn.ntmps - args.size) undef, defers := [] } w) : Calls P f args w R := by
  have e : G.F = Fence.wide := by unfold Gh.F; rw [hG]; rfl
  rw [e] at h
  exact (callsIn_wide (n := 0)).1 (callsIn_of_wp_marks hf hb trivial h)
theorem pure_fin {ow : Nat → Bool} {P : Program} {fn : Func} {w w' : World} {O : Nat → Prop} {lo m : Nat} (hlo : lo ≤ w.heap.size) (hO : OKO w O) {rs : List ResultVar} (hrs : fn.results = rs.toArray) (hl : rs.length ≤ 3) {r : V} {s : St} {a : Act}
    (hs : Sim (pureG ow w O m lo hlo hO) s a w') (hq : EndsAt P lo rs r .ret s) :
    LeavesInM Fence.wide 0 P fn a.tmps (fun e w' => ∃ y, e = .returned y ∧ R0 w' O r y ∧ Below w.heap.size w w') a.defers .returning w' := by
  obtain ⟨E, hE⟩ := hs
  refine fin_leave (by simp) hE hO.lt fun w'' hs => ?_
  obtain ⟨y, hy, hr⟩ := results_run ⟨E, hs⟩ hrs hl hq
  exact ⟨y, hy, y, rfl, hr, ⟨hs.os, hs.tape, hs.output, hs.grow, fun k hk => hs.keep k hk (fun h => h)⟩⟩
theorem pure_introR (ow : Nat → Bool) {P : Program} {f : FuncId} {fn : Func} {c : Code} {as : List V} {r : Nat → V} {rs : List ResultVar} {m : Nat} (hf : P.funcs[f]? = some fn) (hm : fn.ntmps = m) (hb : fn.body = some c) (hname : (fn.name == "runtime.NumGoroutine") = false)
    (hn : as.length ≤ m) (hrs : fn.results = rs.toArray) (hl : rs.length ≤ 3)
    (h : ∀ (G : Gh), G.n = m → G.ow = ow → G.nm = [] → G.rd = none → (∀ x ∈ as, Bd x) → vc P G c (St.of (enumV 0 as) []) (EndsAt P G.lo rs (r G.lo))) : Gives P f as r := by
  subst hm
  refine ⟨⟨fn, hf, hname, by simp [hb]⟩, fun lo w O ys hlo hO ha => ?_⟩
  refine calls_of_wpIn (G := (pureG ow w O fn.ntmps lo hlo hO)) rfl hf hb ?_
  refine wpIn_mono (vc_sound c _ _ (h (pureG ow w O fn.ntmps lo hlo hO) rfl rfl rfl rfl ha.bd) _ w (sim_enter ow hlo hO ha hn)) ?_
  rintro e a w' ⟨s, hq, hs⟩
  have fin := pure_fin (P := P) (ow := ow) (m := fn.ntmps) hlo hO hrs hl (r := r lo) hs
  cases e with
  | normal => exact fin hq
  | ret => exact fin hq
  | exit => exact hq.elim
  | goto => exact hq.elim
  | panic => exact hq.elim
  | outgrown => exact hq.elim
theorem pure_intro (ow : Nat → Bool) {P : Program} {f : FuncId} {fn : Func} {c : Code} {as : List V} {r : Nat → V} {rs : List ResultVar} {m : Nat} (hf : P.funcs[f]? = some fn) (hm : fn.ntmps = m) (hb : fn.body = some c) (hname : (fn.name == "runtime.NumGoroutine") = false)
    (hn : as.length ≤ m) (hrs : fn.results = rs.toArray) (hl : rs.length ≤ 3)
    (h : ∀ (G : Gh), G.n = m → G.ow = ow → G.nm = [] → (∀ x ∈ as, Bd x) → vc P G c (St.of (enumV 0 as) []) (EndsAt P G.lo rs (r G.lo))) : Gives P f as r := by
  exact pure_introR ow hf hm hb hname hn hrs hl fun G h1 h2 h3 _ h4 => h G h1 h2 h3 h4

/-! Calls. -/
/-- what a call of a function that only reads does -/
theorem wp_call {P : Program} {a : Act} {w : World} {o : Oper} {x : Operand} {l : List Operand} {ts : Array TypeId} (ho : o.op = .call ⟨.value x, l.toArray, ts⟩) {k : FuncId} (hk : Enters P k) {cap : Array Value} (hx : a.eval x = .func (.func k) #[] cap)
    {K : Act → World → Prop} {Q : Exit → Act → World → Prop} {R : Ending → World → Prop} (hc : Calls P k ((l.map a.eval).toArray ++ cap) w R)
    (h : ∀ e w', R e w' → ∃ y, e = .returned y ∧ K (a.put o.dst y) w') {G : Gh} : o.wpIn G.F 0 P a w K Q := by
  refine wpIn_of_wp (fun c hc => by rw [ho] at hc; cases hc) ?_
  obtain ⟨fn, hf, hn, hb⟩ := hk
  unfold Oper.wp
  have hrun : (execOp a.eval o).run P w = .ok (.enter k ((l.map a.eval).toArray ++ cap)) w := by
    have hn' : fn.name ≠ "runtime.NumGoroutine" := by simpa using hn
    have hb' : fn.body ≠ none := by intro h; simp [h] at hb
    simp [execOp, ho, resolve, Deferred.ofValue, hx, invoke, callFunc, hf, hb', hn']
  rw [hrun, Oper.upon_enter]
  refine hc.mono fun e w' hr => ?_
  obtain ⟨y, rfl, hK⟩ := h e w' hr
  exact hK

/-- That a call gives this. -/
def CallGives (P : Program) (G : Gh) (f : V) (as : List V) (r : V) : Prop := ∃ (k : FuncId) (cap as' : List V) (r' : Nat → V), f = .fn (.func k) cap ∧ r = r' G.lo ∧ Gives P k as' r' ∧ Subs (as ++ cap) as' ∧ allP (as ++ cap) = true

theorem call_step {P : Program} {G : Gh} {o : Oper} {s : St} {Q : Exit → St → Prop} {rest : St → Prop} {f : V} {as : List V} {r : V} (hg : CallGives P G f as r)
    (hc : chk G.n o.dst) (h : rest (putD s o.dst r)) : SemCall P G o s Q rest f as := by
  obtain ⟨k, cap, as', r', rfl, rfl, hp, hs, hpure⟩ := hg
  rintro x l ts ho hx rfl a w ⟨E, hE⟩
  obtain ⟨ys, hy, hsz, hr⟩ := R.fn_inv (ev_E hE hx.symm)
  obtain ⟨hlen, hsub⟩ := hs.spec
  refine wp_call ho hp.1 hy (hp.2 G.lo w (OT G s E) _ (Nat.le_trans G.hlo hE.grow) (OT_ok hE) ⟨?_, fun j u y h1 h2 => ?_⟩) ?_
  · simp at hlen ⊢; omega
  · obtain ⟨u0, h3, h4⟩ := hsub j u h1
    refine h4 _ _ _ ?_
    have hp0 := allP_spec hpure j u0 h3
    by_cases hj : j < l.length
    · rw [List.getElem?_append_left (by simpa using hj)] at h3
      rw [Array.getElem?_append_left (by simpa using hj)] at h2
      simp only [List.getElem?_map, Option.map_eq_some_iff] at h3
      obtain ⟨z, hz, rfl⟩ := h3
      simp [hz] at h2
      subst h2
      exact (ev_R hE z).pureV hp0
    · rw [List.getElem?_append_right (by simpa using hj)] at h3
      rw [Array.getElem?_append_right (by simpa using hj)] at h2
      simp at h3 h2
      exact (hr _ _ _ h3 h2).pureV hp0
  · rintro e w' ⟨y, rfl, hry, hb⟩
    exact ⟨y, rfl, _, h, E, (hE.below hb).put (chk_spec hc) (.r0 _ _ hry)⟩

theorem callGives0 {P : Program} {G : Gh} {k : FuncId} {cap as as' : List V} {r : Nat → V} (hp : Gives P k as' r) (hs : Subs (as ++ cap) as') (hpure : allP (as ++ cap) = true) : CallGives P G (.fn (.func k) cap) as (r G.lo) :=
  ⟨k, cap, as', r, rfl, rfl, hp, hs, hpure⟩
theorem call_pure {P : Program} {G : Gh} {o : Oper} {s : St} {Q : Exit → St → Prop} {rest : St → Prop} {k : FuncId} {cap as : List V} {as' : List V} {r : Nat → V} (hp : Gives P k as' r)
    (hs : Subs (as ++ cap) as') (hpure : allP (as ++ cap) = true) (hc : chk G.n o.dst) (h : rest (putD s o.dst (r G.lo))) :
    SemCall P G o s Q rest (.fn (.func k) cap) as := call_step ⟨k, cap, as', r, rfl, rfl, hp, hs, hpure⟩ hc h
/-! Calls of bound functions. -/
theorem wp_callB {P : Program} {a : Act} {w : World} {o : Oper} {x : Operand} {l : List Operand} {ts : Array TypeId} (ho : o.op = .call ⟨.value x, l.toArray, ts⟩) {k : FuncId} (hk : Enters P k) {bs : Array Value} (hx : a.eval x = .func (.func k) bs #[])
    {K : Act → World → Prop} {Q : Exit → Act → World → Prop} {R : Ending → World → Prop} (hc : Calls P k (bs ++ (l.map a.eval).toArray) w R)
    (h : ∀ e w', R e w' → ∃ y, e = .returned y ∧ K (a.put o.dst y) w') {G : Gh} : o.wpIn G.F 0 P a w K Q := by
  refine wpIn_of_wp (fun c hc => by rw [ho] at hc; cases hc) ?_
  obtain ⟨fn, hf, hn, hb⟩ := hk
  unfold Oper.wp
  have hrun : (execOp a.eval o).run P w = .ok (.enter k (bs ++ (l.map a.eval).toArray)) w := by
    have hn' : fn.name ≠ "runtime.NumGoroutine" := by simpa using hn
    have hb' : fn.body ≠ none := by intro h; simp [h] at hb
    simp [execOp, ho, resolve, Deferred.ofValue, hx, invoke, callFunc, hf, hb', hn']
  rw [hrun, Oper.upon_enter]
  refine hc.mono fun e w' hr => ?_
  obtain ⟨y, rfl, hK⟩ := h e w' hr
  exact hK
theorem call_bnd {P : Program} {G : Gh} {o : Oper} {s : St} {Q : Exit → St → Prop} {rest : St → Prop} {k : FuncId} {bs as as' : List V} {r : Nat → V} (hp : Gives P k as' r)
    (hs : Subs (bs ++ as) as') (hpure : allP (bs ++ as) = true) (hc : chk G.n o.dst) (h : rest (putD s o.dst (r G.lo))) : SemCall P G o s Q rest (.fn (bndF k) bs) as := by
  rintro x l ts ho hx rfl a w ⟨E, hE⟩
  obtain ⟨ys, hy, hsz, hr⟩ := R.fn_inv (ev_E hE hx.symm)
  obtain ⟨hlen, hsub⟩ := hs.spec
  refine wp_callB ho hp.1 hy (hp.2 G.lo w (OT G s E) _ (Nat.le_trans G.hlo hE.grow) (OT_ok hE) ⟨?_, fun j u y h1 h2 => ?_⟩) ?_
  · simp at hlen ⊢; omega
  · obtain ⟨u0, h3, h4⟩ := hsub j u h1
    refine h4 _ _ _ ?_
    have hp0 := allP_spec hpure j u0 h3
    by_cases hj : j < bs.length
    · rw [List.getElem?_append_left hj] at h3
      rw [Array.getElem?_append_left (by omega)] at h2
      exact (hr _ _ _ h3 h2).pureV hp0
    · rw [List.getElem?_append_right (by omega)] at h3
      rw [Array.getElem?_append_right (by omega), hsz] at h2
      simp only [List.getElem?_map, Option.map_eq_some_iff] at h3
      obtain ⟨z, hz, rfl⟩ := h3
      simp [hz] at h2
      subst h2
      exact (ev_R hE z).pureV hp0
  · rintro e w' ⟨y, rfl, hry, hb⟩
    exact ⟨y, rfl, _, h, E, (hE.below hb).put (chk_spec hc) (.r0 _ _ hry)⟩
theorem Subs.fp {l l' : List V} (h : Subs l l') : Sub (.fp l) (.fp l') := by
  intro w O y hy
  obtain ⟨hlen, hsub⟩ := h.spec
  cases hy with
  | fp _ b o g hO hb hs hr =>
    refine .fp _ b o g hO hb (fun j u' hj => ?_) (fun j u' hj => ?_)
    · obtain ⟨u, h1, _⟩ := hsub j u' hj
      exact hs j u h1
    · obtain ⟨u, h1, h2⟩ := hsub j u' hj
      exact h2 _ _ _ (hr j u h1)
theorem ent_frz {G : Gh} {s s' : St} (p : Nat → Bool) (h : Ent G (frz p G.lo s) s') : Ent G s s' := fun a w hs => h a w (frz_ent p a w hs)
theorem lkG_fp (l : List (Nat × List V)) (g : Nat) : lkG l g = .any ∨ ∃ cs, lkG l g = .fp cs := by
  induction l with
  | nil => exact .inl rfl
  | cons p r ih =>
    unfold lkG
    split
    · exact .inr ⟨_, rfl⟩
    · exact ih
theorem ev_frz {p : Nat → Bool} {lo : Nat} {s : St} (x : Operand) : ev (frz p lo s) x = vwF p lo s 4 (ev s x) := by
  cases x with
  | global g =>
    show lkG globs g = vwF p lo s 4 (lkG globs g)
    rcases lkG_fp globs g with h | ⟨cs, h⟩ <;> rw [h] <;> rfl
  | _ => rfl
/-- a call, once memory of one's own is written no more -/
theorem call_frz {P : Program} {G : Gh} {o : Oper} {s : St} {Q : Exit → St → Prop} {rest : St → Prop} {f : V} {as : List V} (p : Nat → Bool)
    (h : SemCall P G o (frz p G.lo s) Q rest (vwF p G.lo s 4 f) (as.map (vwF p G.lo s 4))) : SemCall P G o s Q rest f as := by
  rintro x l ts ho rfl rfl a w hs
  exact h x l ts ho (ev_frz x).symm (by rw [List.map_map]; exact List.map_congr_left fun y _ => (ev_frz y).symm) a w (frz_ent p _ _ hs)
theorem semC_ent {P : Program} {G : Gh} {c : Code} {s s' : St} {Q : Exit → St → Prop} (he : Ent G s s') (h : SemC P G c s' Q) : SemC P G c s Q := fun a w hs => h a w (he a w hs)
theorem semC_frz {P : Program} {G : Gh} {c : Code} {s : St} {Q : Exit → St → Prop} (p : Nat → Bool) (h : SemC P G c (frz p G.lo s) Q) : SemC P G c s Q := semC_ent (frz_ent p) h

/-! What says no more. -/
theorem Sub.trans {x y z : V} (h : Sub x y) (h' : Sub y z) : Sub x z := fun w O v hv => h' w O v (h w O v hv)
theorem Sub.lst {lo lo' sz : Nat} {l l' : List (List V)} (hlo : lo' ≤ lo) (hn : l'.length = l.length) (h : ∀ (i : Nat) (x x' : List V), l[i]? = some x → l'[i]? = some x' → Subs x x') : Sub (.lst lo sz l) (.lst lo' sz l') := by
  intro w O y hy
  have get : ∀ (i : Nat) (x' : List V), l'[i]? = some x' → ∃ x, l[i]? = some x ∧ Subs x x' := fun i x' hi => by
    have hlt : i < l.length := by have := (List.getElem?_eq_some_iff.1 hi).1; omega
    exact ⟨l[i], List.getElem?_eq_getElem hlt, h i _ x' (List.getElem?_eq_getElem hlt) hi⟩
  cases hy with
  | lst _ _ _ a n cap b o g hlo' hn' hc hl ha hs hz hr =>
    have ne : l' ≠ [] → l ≠ [] := fun h1 h2 => h1 (by subst h2; simp at hn; exact hn)
    refine .lst _ _ _ a n cap b o g (fun h => Nat.le_trans hlo (hlo' (ne h))) (by omega) (by omega) (by omega) (fun h => ha (ne h)) (fun i x' j u h1 h2 => ?_) (fun x' hx' => ?_) (fun i x' j u h1 h2 => ?_)
    · obtain ⟨x, h3, h4⟩ := get i x' h1
      obtain ⟨u0, h5, _⟩ := h4.spec.2 j u h2
      exact hs i x j u0 h3 h5
    · obtain ⟨i, hi, rfl⟩ := List.getElem_of_mem hx'
      obtain ⟨x, h3, h4⟩ := get i _ (List.getElem?_eq_getElem hi)
      rw [← h4.spec.1]
      exact hz x (List.mem_of_getElem? h3)
    · obtain ⟨x, h3, h4⟩ := get i x' h1
      obtain ⟨u0, h5, h6⟩ := h4.spec.2 j u h2
      exact h6 _ _ _ (hr i x j u0 h3 h5)
theorem Sub.lo {lo lo' sz : Nat} {l : List (List V)} (hlo : lo' ≤ lo) : Sub (.lst lo sz l) (.lst lo' sz l) :=
  .lst hlo rfl fun i x x' h1 h2 => by rw [h1] at h2; cases h2; exact .refl _
end Pm
end Go.Proofs.Ytgienbcekgokiaa
