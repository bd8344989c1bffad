/- Cuts of strings and slices; structs and slices that are written out. No program in sight. -/
import Derived.Test.YtgienbcekgokiaaPm3
namespace Go.Proofs.Ytgienbcekgokiaa
open Go
set_option linter.unusedSimpArgs false
set_option linter.unusedVariables false
namespace Pm

def optLo : Option V → Option Int
  | none => some 0
  | some (.v (.int _ n)) => some n
  | _ => none
def optHi (d : Int) : Option V → Option Int
  | none => some d
  | some (.v (.int _ n)) => some n
  | _ => none
def slcGo (C : Prop) (lo hi : Option Int) (len : Nat) (k : Nat → Nat → V) : Res := match lo, hi with
  | some l, some h => .go (C ∧ 0 ≤ l ∧ l ≤ h ∧ h ≤ len) fun _ => k l.toNat h.toNat
  | _, _ => .stuck
def slcRes : TK → Option (TypeId × Nat) → V → Option V → Option V → Res
  | .str, _, .v (.string s), lo, hi => slcGo True (optLo lo) (optHi s.size hi) s.size fun l h => .v (.string (s.extract l h))
  | .slc, some (_, sz'), .lst bo sz l, lo, hi => slcGo (sz' = sz) (optLo lo) (optHi l.length hi) l.length fun a b => .lst bo sz ((l.take b).drop a)
  | .slc, some (_, sz'), .own id off len sz, lo, hi => slcGo (sz' = sz) (optLo lo) (optHi len hi) len fun a b => .own id (off + a) (b - a) sz
  | .slc, some _, .v (.slice none 0 0), lo, hi => slcGo True (optLo lo) (optHi 0 hi) 0 fun _ _ => .v (.slice none 0 0)
  | _, _, _, _, _ => .stuck

/-- the two bounds' run -/
theorem bounds_run {P : Program} {w : World} (isS : Bool) (len cap : Nat) (lo hi : Option Value) (l h : Int) (hl : lo = none ∧ l = 0 ∨ ∃ k, lo = some (.int k l)) (hh : hi = none ∧ h = len ∨ ∃ k, hi = some (.int k h))
    (h0 : 0 ≤ l) (h1 : l ≤ h) (h2 : h ≤ cap) : (Instr.sliceBounds isS len cap lo hi none).run P w = .ok (l.toNat, h.toNat, cap) w := by
  have b1 : ∀ (k : IntKind) (n : Int) (y : Nat) (c : BoundsCode), 0 ≤ n → n ≤ y → (Instr.sliceBound (.int k n) y c).run P w = .ok n.toNat w := fun k n y c g1 g2 => by
    simp [Instr.sliceBound, asIntOf, g1, g2]
  rcases hh with ⟨rfl, rfl⟩ | ⟨k, rfl⟩
  · rcases hl with ⟨rfl, rfl⟩ | ⟨k', rfl⟩
    · simp [Instr.sliceBounds]
    · simp [Instr.sliceBounds, b1 k' l len _ h0 h1]
  · have e : ((h.toNat : Nat) : Int) = h := by omega
    rcases hl with ⟨rfl, rfl⟩ | ⟨k', rfl⟩
    · simp [Instr.sliceBounds, b1 k h cap _ (by omega) h2]
    · simp [Instr.sliceBounds, b1 k h cap _ (by omega) h2, b1 k' l h.toNat _ h0 (by omega)]
theorem optLo_inv {G : Gh} {s : St} {a : Act} {w : World} {E : Env} (hs : SimE G s a w E) {x : Option Operand} {l : Int} (h : optLo (x.map (ev s)) = some l) :
    x.map a.eval = none ∧ l = 0 ∨ ∃ k, x.map a.eval = some (.int k l) := by
  cases x with
  | none => simp [optLo] at h; exact .inl ⟨rfl, h.symm⟩
  | some x =>
    simp only [Option.map_some, optLo] at h
    split at h
    · cases h
      rename_i h'; cases h'
    · rename_i k n hk
      cases h
      simp only [Option.some.injEq] at hk
      exact .inr ⟨k, by simp [R.v_inv (ev_E hs hk)]⟩
    · cases h
theorem optHi_inv {G : Gh} {s : St} {a : Act} {w : World} {E : Env} (hs : SimE G s a w E) {x : Option Operand} {d l : Int} (h : optHi d (x.map (ev s)) = some l) :
    x.map a.eval = none ∧ l = d ∨ ∃ k, x.map a.eval = some (.int k l) := by
  cases x with
  | none => simp [optHi] at h; exact .inl ⟨rfl, h.symm⟩
  | some x =>
    simp only [Option.map_some, optHi] at h
    split at h
    · cases h
      rename_i h'; cases h'
    · rename_i k n hk
      cases h
      simp only [Option.some.injEq] at hk
      exact .inr ⟨k, by simp [R.v_inv (ev_E hs hk)]⟩
    · cases h

theorem slice_ok (P : Program) (G : Gh) (s : St) (o : Oper) (hd : ∀ d, o.dst = some d → d < G.n) (t : TypeId) (x : Operand) (lo hi : Option Operand) (ho : o.op = .slice t x lo hi none) :
    ResOK P G s o (slcRes (tk P t) (sliceElem P t) (ev s x) (lo.map (ev s)) (hi.map (ev s))) := by
  unfold slcRes
  split
  · rename_i str ht hx
    unfold slcGo
    split
    · rename_i l h hl hh
      rintro ⟨hsz, h0, h1, h2⟩
      refine stepOK_val hd fun a w E hs => ⟨_, ?_, .r0 _ _ (.v _)⟩
      have hb := bounds_run (P := P) (w := w) false str.size str.size (lo.map a.eval) (hi.map a.eval) l h (optLo_inv hs hl) (optHi_inv hs hh) h0 h1 h2
      simp [execOp, ho, Instr.sliceAt, Instr.slice, run_under P w (tk_str ht), R.v_inv (ev_E hs hx), hb]
    · trivial
  · rename_i el sz' bo sz l0 ht hse hx
    unfold slcGo
    split
    · rename_i l h hl hh
      rintro ⟨rfl, h0, h1, h2⟩
      refine stepOK_val hd fun a w E hs => ?_
      obtain ⟨hu, inf, hinf, hsz⟩ := sliceElem_inv hse
      obtain ⟨ad, cap, b, of', g, hy, hc, hlen, ha, hcell, hz, hr, hlo⟩ := R.lst_inv' (ev_E hs hx)
      have hb := bounds_run (P := P) (w := w) true l0.length cap (lo.map a.eval) (hi.map a.eval) l h (optLo_inv hs hl) (optHi_inv hs hh) h0 h1 (by omega)
      have hlen' : ((l0.take h.toNat).drop l.toNat).length = h.toNat - l.toNat := by simp; omega
      refine ⟨.slice (if cap = l.toNat then ad else ad.map (·.add (l.toNat * sz'))) (h.toNat - l.toNat) (cap - l.toNat), ?_, .r0 _ _ ?_⟩
      · simp [execOp, ho, Instr.sliceAt, Instr.slice, run_under P w hu, run_size P w hinf, hsz, hy, hb]
      · have idx : ∀ (i : Nat) x, ((l0.take h.toNat).drop l.toNat)[i]? = some x → l0[l.toNat + i]? = some x := fun i x hi => by
          rw [List.getElem?_drop] at hi
          exact (take_getElem? _ _ _ _ hi).1
        refine .lst _ sz' _ _ _ _ b (of' + l.toNat * sz') (fun i j => g (l.toNat + i) j) (fun hne => hlo (by rintro rfl; simp at hne)) hlen'.symm (by rw [hlen']; omega) (by rw [hlen']; omega) (fun hne => ?_) (fun i x j u h3 h4 => ?_) (fun x hx => hz x (List.mem_of_mem_take (List.mem_of_mem_drop hx))) (fun i x j u h3 h4 => hr _ x j u (idx i x h3) h4)
        · have hpos : 0 < h.toNat - l.toNat := by rw [← hlen']; exact List.length_pos_iff.2 hne
          obtain ⟨rfl, hO, hlt⟩ := ha (by rintro rfl; simp at h2; omega)
          refine ⟨?_, hO, hlt⟩
          rw [if_neg (by omega)]
          simp [add_none]
        · have := hcell _ x j u (idx i x h3) h4
          rw [Nat.add_mul] at this
          rw [show of' + l.toNat * sz' + (i * sz' + j) = of' + (l.toNat * sz' + i * sz' + j) by omega]
          exact this
    · trivial
  · rename_i el sz' id off len sz ht hse hx
    unfold slcGo
    split
    · rename_i l h hl hh
      rintro ⟨rfl, h0, h1, h2⟩
      refine stepOK_val hd fun a w E hs => ?_
      obtain ⟨hu, inf, hinf, hsz⟩ := sliceElem_inv hse
      obtain ⟨b, K, C, hE, hle, hKC, hv⟩ := R.own_inv (ev_E hs hx)
      cases b with
      | none =>
        obtain ⟨rfl, rfl, hy⟩ := hv
        obtain rfl : l = 0 := by omega
        obtain rfl : h = 0 := by omega
        have hb := bounds_run (P := P) (w := w) true 0 0 (lo.map a.eval) (hi.map a.eval) 0 0 (optLo_inv hs hl) (by simpa using optHi_inv hs hh) (by omega) (by omega) (by omega)
        refine ⟨.slice none 0 0, ?_, .own _ _ _ _ none K C _ hE ⟨by simp, hKC, rfl, rfl, rfl⟩⟩
        simp [execOp, ho, Instr.sliceAt, Instr.slice, run_under P w hu, run_size P w hinf, hy, hb]
      | some b =>
        obtain ⟨o', ho', hy⟩ := hv
        have hb := bounds_run (P := P) (w := w) true len (C - off) (lo.map a.eval) (hi.map a.eval) l h (optLo_inv hs hl) (optHi_inv hs hh) h0 h1 (by omega)
        refine ⟨.slice (if C - off = l.toNat then some ⟨b, o', none⟩ else some ⟨b, o' + l.toNat * sz', none⟩) (h.toNat - l.toNat) (C - off - l.toNat), ?_, .own _ _ _ _ (some b) K C _ hE ⟨by omega, hKC, ?_⟩⟩
        · simp [execOp, ho, Instr.sliceAt, Instr.slice, run_under P w hu, run_size P w hinf, hsz, hy, hb, add_none]
        · refine ⟨if C - off = l.toNat then o' else o' + l.toNat * sz', fun hlt => ?_, ?_⟩
          · rw [ho' (by omega)]
            split
            · have : l.toNat = 0 := by omega
              rw [this]; simp
            · rw [Nat.add_mul]
          · split <;> simp [Nat.sub_sub]
    · trivial
  · rename_i e ht hse hx
    unfold slcGo
    split
    · rename_i l h hl hh
      rintro ⟨_, h0, h1, h2⟩
      refine stepOK_val hd fun a w E hs => ⟨_, ?_, .r0 _ _ (.v _)⟩
      obtain ⟨el, sz'⟩ := e
      obtain ⟨hu, inf, hinf, hsz⟩ := sliceElem_inv hse
      obtain rfl : l = 0 := by omega
      obtain rfl : h = 0 := by omega
      have hb := bounds_run (P := P) (w := w) true 0 0 (lo.map a.eval) (hi.map a.eval) 0 0 (optLo_inv hs hl) (by simpa using optHi_inv hs hh) (by omega) (by omega) (by omega)
      simp [execOp, ho, Instr.sliceAt, Instr.slice, run_under P w hu, run_size P w hinf, R.v_inv (ev_E hs hx), hb]
    · trivial
  · trivial

/-! Structs that are written out. -/
/-- the cells of a value -/
def cellsV : V → Option (List V)
  | .any => none
  | .tup _ => none
  | .v x => some (x.cells.toList.map .v)
  | .agg cs => some cs
  | .lst lo sz l => some [.lst lo sz l]
  | .fp cs => some [.fp cs]
  | .ptr id off => some [.ptr id off]
  | .eptr id i k sz => some [.eptr id i k sz]
  | .own id off len sz => some [.own id off len sz]
  | .mp id => some [.mp id]
  | .fn f cap => some [.fn f cap]
def putCells : List V → Nat → List V → List V
  | cs, _, [] => cs
  | cs, off, x :: r => putCells (cs.set off x) (off + 1) r
def fillV (place : Nat → Option (Nat × Nat)) : List V → List (Nat × V) → Option (List V)
  | cs, [] => some cs
  | cs, (i, x) :: rest => match place i, cellsV x with
    | some (off, size), some xs => if xs.length = size ∧ off + size ≤ cs.length then fillV place (putCells cs off xs) rest else none
    | _, _ => none
/-- a type's zero, cell by cell; a struct's fields: place and size -/
def zeroK (P : Program) (t : TypeId) : Option (List Value) := (P.info? t).bind fun i => i.zero.map fun z => z.cells.toList
def placesK (P : Program) (t : TypeId) : Option (List (Nat × Nat)) := match P.underlying t with
  | some (.struct fs) => fs.toList.mapM fun f => (P.info? f.type).map fun i => (f.offset, i.size)
  | some (.array _ e) => (P.info? e).map fun i => (List.range 8).map fun j => (j * i.size, i.size)
  | _ => none
def bldRes : Option (List Value) → Option (List (Nat × Nat)) → List (Nat × V) → Res
  | some z, some ps, parts => match fillV (fun i => ps[i]?) (z.map .v) parts with
    | some cs => .go True fun _ => .agg cs
    | none => .stuck
  | _, _, _ => .stuck

def CellsR (w : World) (O : Nat → Prop) (E : Env) (cs : List V) (ys : Array Value) : Prop := ys.size = cs.length ∧ ∀ (j : Nat) (u : V) (y : Value), cs[j]? = some u → ys[j]? = some y → R w O E u y

theorem cellsV_R {w : World} {O : Nat → Prop} {E : Env} {x : V} {y : Value} {xs : List V} (h : R w O E x y) (hx : cellsV x = some xs) : CellsR w O E xs y.cells := by
  have one : ∀ {x : V} {y : Value}, R w O E x y → y.cells = #[y] → CellsR w O E [x] y.cells := fun {x y} h hy => by
    rw [hy]
    refine ⟨rfl, fun j u z h1 h2 => ?_⟩
    cases j with
    | zero => simp at h1 h2; subst h1; subst h2; exact h
    | succ j => simp at h1
  cases x with
  | any => cases hx
  | tup => cases hx
  | v z =>
    cases hx
    rw [R.v_inv h]
    refine ⟨by simp, fun j u y h1 h2 => ?_⟩
    simp only [List.getElem?_map, Option.map_eq_some_iff, Array.getElem?_toList] at h1
    obtain ⟨y', h1, rfl⟩ := h1
    rw [h1] at h2
    cases h2
    exact .r0 _ _ (.v _)
  | agg cs =>
    cases hx
    obtain ⟨ys, rfl, hsz, hr⟩ := R.agg_inv h
    exact ⟨hsz, hr⟩
  | lst lo sz l => cases hx; obtain ⟨_, _, _, _, _, hy, _⟩ := R.lst_inv h; exact one h (by rw [hy]; rfl)
  | fp cs => cases hx; obtain ⟨_, _, _, hy, _⟩ := R.fp_inv h; exact one h (by rw [hy]; rfl)
  | ptr id off => cases hx; obtain ⟨_, _, _, _, hy⟩ := R.ptr_inv h; exact one h (by rw [hy]; rfl)
  | eptr id i k sz => cases hx; obtain ⟨_, _, _, _, _, hy⟩ := R.eptr_inv h; exact one h (by rw [hy]; rfl)
  | own id off len sz =>
    cases hx
    obtain ⟨b, K, C, hE, _, _, hv⟩ := R.own_inv h
    cases b with
    | none => obtain ⟨_, _, hy⟩ := hv; exact one h (by rw [hy]; rfl)
    | some b => obtain ⟨_, _, hy⟩ := hv; exact one h (by rw [hy]; rfl)
  | mp id => cases hx; obtain ⟨_, _, _, _, hy⟩ := R.mp_inv h; exact one h (by rw [hy]; rfl)
  | fn f cap => cases hx; obtain ⟨_, hy, _⟩ := R.fn_inv h; exact one h (by rw [hy]; cases f <;> rfl)

theorem putCells_spec : ∀ (xs cs : List V) (off k : Nat), (putCells cs off xs).length = cs.length ∧ (putCells cs off xs)[k]? = if off ≤ k ∧ k < off + xs.length ∧ k < cs.length then xs[k - off]? else cs[k]? := by
  intro xs
  induction xs with
  | nil => intro cs off k; refine ⟨rfl, ?_⟩; rw [if_neg (by simp; omega)]; rfl
  | cons x r ih =>
    intro cs off k
    obtain ⟨h1, h2⟩ := ih (cs.set off x) (off + 1) k
    refine ⟨by simp [putCells, h1], ?_⟩
    simp only [putCells, h2, List.length_set, List.length_cons]
    by_cases hk : off = k
    · subst hk
      rw [if_neg (by omega)]
      by_cases hl : off < cs.length
      · rw [if_pos (by omega)]; simp [hl]
      · rw [if_neg (by omega), List.getElem?_set]; rw [if_pos rfl, if_neg hl, List.getElem?_eq_none (by omega)]
    · by_cases hc : off + 1 ≤ k ∧ k < off + 1 + r.length ∧ k < cs.length
      · rw [if_pos hc, if_pos (by omega)]
        have : k - off = (k - (off + 1)) + 1 := by omega
        rw [this]; rfl
      · rw [if_neg hc, if_neg (by omega), List.getElem?_set_ne hk]

theorem foldSet_spec (off : Nat) : ∀ (l : List Value) (n : Nat) (cells : Array Value) (k : Nat),
    ((l.zipIdx n).foldl (fun cs (x : Value × Nat) => cs.setIfInBounds (off + x.2) x.1) cells).size = cells.size ∧
    ((l.zipIdx n).foldl (fun cs (x : Value × Nat) => cs.setIfInBounds (off + x.2) x.1) cells)[k]? = if off + n ≤ k ∧ k < off + n + l.length ∧ k < cells.size then l[k - (off + n)]? else cells[k]? := by
  intro l
  induction l with
  | nil => intro n cells k; refine ⟨rfl, ?_⟩; rw [if_neg (by simp; omega)]; rfl
  | cons x r ih =>
    intro n cells k
    obtain ⟨h1, h2⟩ := ih (n + 1) (cells.setIfInBounds (off + n) x) k
    refine ⟨by simpa [List.zipIdx_cons] using h1, ?_⟩
    simp only [List.zipIdx_cons, List.foldl_cons, h2, Array.size_setIfInBounds, List.length_cons]
    by_cases hk : off + n = k
    · subst hk
      rw [if_neg (by omega)]
      by_cases hl : off + n < cells.size
      · rw [if_pos (by omega)]; simp [hl]
      · rw [if_neg (by omega)]; rw [Array.getElem?_setIfInBounds]; simp [hl]
    · by_cases hc : off + (n + 1) ≤ k ∧ k < off + (n + 1) + r.length ∧ k < cells.size
      · rw [if_pos hc, if_pos (by omega)]
        have : k - (off + n) = (k - (off + (n + 1))) + 1 := by omega
        rw [this]; rfl
      · rw [if_neg hc, if_neg (by omega), Array.getElem?_setIfInBounds_ne hk]

theorem fill_ok {w : World} {O : Nat → Prop} {E : Env} (place : Nat → Option (Nat × Nat)) : ∀ (parts : List (Nat × V)) (parts' : List (Nat × Value)) (cs : List V) (ys : Array Value) (cs' : List V),
    CellsR w O E cs ys → parts'.length = parts.length → (∀ (j i : Nat) (x : V), parts[j]? = some (i, x) → ∃ y, parts'[j]? = some (i, y) ∧ R w O E x y) → fillV place cs parts = some cs' →
    ∃ ys', Instr.fill place ys parts' = some ys' ∧ CellsR w O E cs' ys' := by
  intro parts
  induction parts with
  | nil =>
    intro parts' cs ys cs' hc hl _ hf
    cases hf
    have : parts' = [] := List.eq_nil_of_length_eq_zero (by simpa using hl)
    subst this
    exact ⟨ys, rfl, hc⟩
  | cons p rest ih =>
    obtain ⟨i, x⟩ := p
    intro parts' cs ys cs' hc hl hp hf
    obtain ⟨y, hy, hR⟩ := hp 0 i x rfl
    cases parts' with
    | nil => simp at hy
    | cons p' rest' =>
      simp at hy
      subst hy
      simp only [fillV] at hf
      split at hf
      · rename_i off size xs hpl hxs
        split at hf
        · rename_i hcond
          obtain ⟨hx1, hx2⟩ := cellsV_R hR hxs
          simp only [Instr.fill, hpl]
          have hcs := hc.1
          rw [if_neg (by simp only [Bool.or_eq_true, decide_eq_true_eq, gt_iff_lt]; omega)]
          refine ih rest' (putCells cs off xs) _ cs' ?_ (by simpa using hl) (fun j i x hj => hp (j + 1) i x hj) hf
          have fs := fun k => foldSet_spec off y.cells.toList 0 ys k
          have e : y.cells.zipIdx.foldl (fun cs (x : Value × Nat) => cs.setIfInBounds (off + x.2) x.1) ys = (y.cells.toList.zipIdx 0).foldl (fun cs (x : Value × Nat) => cs.setIfInBounds (off + x.2) x.1) ys := by
            rw [← Array.foldl_toList, Array.toList_zipIdx]
          rw [e]
          refine ⟨by rw [(fs 0).1, (putCells_spec xs cs off 0).1]; exact hc.1, fun j u z h1 h2 => ?_⟩
          rw [(putCells_spec xs cs off j).2] at h1
          rw [(fs j).2] at h2
          have hlen : y.cells.toList.length = xs.length := by simpa using hx1
          split at h1
          · rename_i hin
            rw [if_pos (by rw [hlen, hc.1]; omega)] at h2
            simp only [Nat.add_zero, Array.getElem?_toList] at h2
            exact hx2 _ u z h1 h2
          · rename_i hin
            rw [if_neg (by rw [hlen, hc.1]; omega)] at h2
            exact hc.2 j u z h1 h2
        · cases hf
      · cases hf

theorem placesK_inv {P : Program} {t : Nat} {ps : List (Nat × Nat)} (h : placesK P t = some ps) (w : World) :
    (∃ fs : Array Field, P.underlying t = some (.struct fs) ∧ (fs.mapM fun f => (do pure (f.offset, ← sizeOf f.type) : Sem (Nat × Nat))).run P w = .ok ps.toArray w) ∨
    (∃ n e i, P.underlying t = some (.array n e) ∧ P.info? e = some i ∧ ps = (List.range 8).map fun j => (j * i.size, i.size)) := by
  unfold placesK at h
  split at h
  · rename_i fs hfs
    refine .inl ⟨fs, hfs, ?_⟩
    rw [Array.mapM_eq_mapM_toList]
    simp only [Sem.run_map]
    have key : ∀ (l : List Field) (ps : List (Nat × Nat)), (l.mapM fun f => (P.info? f.type).map fun i => (f.offset, i.size)) = some ps → (l.mapM fun f => (do pure (f.offset, ← sizeOf f.type) : Sem (Nat × Nat))).run P w = .ok ps w := by
      intro l
      induction l with
      | nil => intro ps h; simp at h; subst h; rfl
      | cons f r ih =>
        intro ps h
        simp only [List.mapM_cons] at h ⊢
        cases hi : P.info? f.type with
        | none => simp [hi] at h
        | some i =>
          cases hr : (r.mapM fun f => (P.info? f.type).map fun i => (f.offset, i.size)) with
          | none => simp [hi, hr] at h
          | some ps' =>
            simp [hi, hr] at h
            subst h
            simp only [Sem.run_bind, Sem.run_pure, run_size P w hi, Result.andThen_ok, ih ps' hr]
    rw [key _ _ h]
    rfl
  · rename_i n e hu
    cases hi : P.info? e with
    | none => simp [hi] at h
    | some i =>
      simp only [hi, Option.map_some, Option.some.injEq] at h
      exact .inr ⟨n, e, i, hu, hi, h.symm⟩
  · cases h
theorem fillV_ext {p q : Nat → Option (Nat × Nat)} (hpq : ∀ i x, p i = some x → q i = some x) : ∀ (parts : List (Nat × V)) (cs r : List V), fillV p cs parts = some r → fillV q cs parts = some r
  | [], cs, r, h => h
  | (i, x) :: rest, cs, r, h => by
    unfold fillV at h ⊢
    cases hp : p i with
    | none => simp [hp] at h
    | some os =>
      cases hx : cellsV x with
      | none => simp [hp, hx] at h
      | some xs =>
        have hq := hpq i os hp
        simp only [hp, hx] at h
        simp only [hq, hx]
        split at h
        · rename_i hin
          rw [if_pos hin]
          exact fillV_ext hpq rest _ _ h
        · cases h
theorem zeroK_inv {P : Program} {t : Nat} {z : List Value} (h : zeroK P t = some z) (w : World) : ∃ zv, (zeroValue t).run P w = .ok zv w ∧ zv.cells.toList = z := by
  unfold zeroK at h
  cases hi : P.info? t with
  | none => simp [hi] at h
  | some i =>
    cases hz : i.zero with
    | none => simp [hi, hz] at h
    | some zv =>
      simp [hi, hz] at h
      exact ⟨zv, by simp [zeroValue, typeInfo, hi, hz], h⟩
theorem cells_lits {w : World} {O : Nat → Prop} {E : Env} {z : List Value} {zs : Array Value} (h : zs.toList = z) : CellsR w O E (z.map .v) zs := by
  subst h
  refine ⟨by simp, fun j u y h1 h2 => ?_⟩
  simp only [List.getElem?_map, Option.map_eq_some_iff, Array.getElem?_toList] at h1
  obtain ⟨y', h1, rfl⟩ := h1
  rw [h1] at h2
  cases h2
  exact .r0 _ _ (.v _)

theorem build_ok (P : Program) (G : Gh) (s : St) (o : Oper) (hd : ∀ d, o.dst = some d → d < G.n) (t : TypeId) (parts : List (Nat × Operand)) (ho : o.op = .build t parts.toArray) :
    ResOK P G s o (bldRes (zeroK P t) (placesK P t) (parts.map fun p => (p.1, ev s p.2))) := by
  unfold bldRes
  split
  · rename_i z ps hz hps
    split
    · rename_i cs hcs
      intro _
      refine stepOK_val hd fun a w E hs => ?_
      obtain ⟨zv, hzr, hzc⟩ := zeroK_inv hz w
      have hev : ∀ (j i : Nat) (x : V), (parts.map fun p => (p.1, ev s p.2))[j]? = some (i, x) → ∃ y, (parts.map fun p => (p.1, a.eval p.2))[j]? = some (i, y) ∧ R w (OT G s E) E x y := fun j i x hj => by
        simp only [List.getElem?_map, Option.map_eq_some_iff] at hj
        obtain ⟨q, hq, he⟩ := hj
        simp only [Prod.mk.injEq] at he
        obtain ⟨rfl, rfl⟩ := he
        exact ⟨a.eval q.2, by simp [hq], ev_R hs q.2⟩
      rcases placesK_inv hps w with ⟨fs, hu, hplaces⟩ | ⟨n, e, inf, hu, hinf, hp⟩
      · obtain ⟨ys, hfill, hc⟩ := fill_ok (w := w) (O := OT G s E) (E := E) (fun i => ps[i]?) _ (parts.map fun p => (p.1, a.eval p.2)) (z.map .v) zv.cells cs (cells_lits hzc) (by simp) hev hcs
        refine ⟨.agg ys, ?_, .agg _ _ hc.1 hc.2⟩
        have hpl : (fun i : Nat => ps.toArray[i]?) = fun i : Nat => ps[i]? := by funext i; simp
        simp only [execOp, ho, Instr.build, Sem.run_bind, hzr, Result.andThen_ok, run_under P w hu, hplaces, hpl]
        simp [hfill]
      · have hcs' := fillV_ext (q := fun i => some (i * inf.size, inf.size)) (fun i x h => by
          rw [hp, List.getElem?_map, Option.map_eq_some_iff] at h
          obtain ⟨j, hj, rfl⟩ := h
          have : j = i := by
            by_cases hlt : i < 8
            · rw [List.getElem?_range hlt] at hj; exact (Option.some.inj hj).symm
            · rw [List.getElem?_eq_none (by simp; omega)] at hj; cases hj
          rw [this]) _ _ _ hcs
        obtain ⟨ys, hfill, hc⟩ := fill_ok (w := w) (O := OT G s E) (E := E) (fun i => some (i * inf.size, inf.size)) _ (parts.map fun p => (p.1, a.eval p.2)) (z.map .v) zv.cells cs (cells_lits hzc) (by simp) hev hcs'
        refine ⟨.agg ys, ?_, .agg _ _ hc.1 hc.2⟩
        simp only [execOp, ho, Instr.build, Sem.run_bind, hzr, Result.andThen_ok, run_under P w hu, run_size P w hinf]
        simp [hfill]
    · trivial
  · trivial
end Pm
end Go.Proofs.Ytgienbcekgokiaa
