/- append to a slice of one's own; make. No program in sight. -/
import Derived.Test.YtgienbcekgokiaaPm9b
namespace Go.Proofs.Ytgienbcekgokiaa
open Go Go.RowKit
set_option linter.unusedSimpArgs false
set_option linter.unusedVariables false
namespace Pm

def bytesK (P : Program) (t : TypeId) : Option Nat := (P.info? t).map (·.bytes)

/-- a slice of one's own, whole, or nil: its elements -/
inductive IsArr (s : St) (el sz : Nat) : V → List (List V) → Option Nat → Prop
  | own (id : Nat) (l : List (List V)) (h : s.hget id = some (.arr el sz l)) : IsArr s el sz (.own id 0 l.length sz) l (some id)
  | nil : IsArr s el sz (.v (.slice none 0 0)) [] none
/-- what an append takes its new elements from -/
inductive IsSrc (s : St) (sz : Nat) : V → List (List V) → Prop
  | lst (lo : Nat) (l' : List (List V)) : IsSrc s sz (.lst lo sz l') l'
  | own (id off len el : Nat) (l : List (List V)) (h : s.hget id = some (.arr el sz l)) : IsSrc s sz (.own id off len sz) ((l.drop off).take len)
  | nil : IsSrc s sz (.v (.slice none 0 0)) []

def dropL : Option Nat → List (Nat × Option OB)
  | some id => [(id, none)]
  | none => []

theorem flat_get {sz : Nat} : ∀ (rows : List (List V)) (i : Nat) (r : List V) (j : Nat), (∀ r ∈ rows, r.length = sz) → rows[i]? = some r → j < sz → rows.flatten[i * sz + j]? = r[j]? := by
  intro rows
  induction rows with
  | nil => intro i r j _ h; simp at h
  | cons r0 rest ih =>
    intro i r j hl h hj
    have h0 : r0.length = sz := hl r0 (List.mem_cons_self ..)
    cases i with
    | zero =>
      simp at h; subst h
      simp only [Nat.zero_mul, Nat.zero_add, List.flatten_cons]
      rw [List.getElem?_append_left (by omega)]
    | succ i =>
      simp at h
      simp only [List.flatten_cons]
      rw [List.getElem?_append_right (by rw [Nat.succ_mul]; omega), Nat.succ_mul, h0]
      rw [show i * sz + sz + j - sz = i * sz + j by omega]
      exact ih i r j (fun r hr => hl r (List.mem_cons_of_mem _ hr)) h hj
theorem flat_len {sz : Nat} : ∀ (rows : List (List V)), (∀ r ∈ rows, r.length = sz) → rows.flatten.length = rows.length * sz := by
  intro rows
  induction rows with
  | nil => intro _; simp
  | cons r0 rest ih =>
    intro hl
    have h0 : r0.length = sz := hl r0 (List.mem_cons_self ..)
    simp only [List.flatten_cons, List.length_append, List.length_cons, ih (fun r hr => hl r (List.mem_cons_of_mem _ hr)), h0]
    rw [Nat.succ_mul]; omega

/-- The source's cells. -/
theorem src_cells {G : Gh} {s : St} {a : Act} {w : World} {E : Env} (hs : SimE G s a w E) {sz : Nat} {y : V} {rows : List (List V)} (hsrc : IsSrc s sz y rows) {yv : Value} (hR : R w (OT G s E) E y yv) :
    ∃ ad c, yv = .slice ad rows.length c ∧ (rows ≠ [] → ∃ A : Addr, ad = some A ∧ ∃ news : List Value, news.length = rows.length * sz ∧ (∀ j u, news[j]? = some u → w.cell? (A.add j) = some u) ∧
      (∀ r ∈ rows, r.length = sz) ∧ ∀ (i : Nat) (r : List V) (j : Nat) (u : V) (z : Value), rows[i]? = some r → r[j]? = some u → news[i * sz + j]? = some z → R0 w (OT G s E) u z) := by
  cases hsrc with
  | lst =>
    obtain ⟨ad, cap, b, o, g, rfl, hc, hl, ha, hcell, hz, hr⟩ := R.lst_inv hR
    refine ⟨ad, cap, by simp, fun hne => ?_⟩
    have hne' : rows ≠ [] := by rintro rfl; exact hne rfl
    obtain ⟨rfl, hO, hlt⟩ := ha hne'
    have hrl : ∀ r ∈ rows, r.length = sz := hz
    by_cases hsz0 : sz = 0
    · subst hsz0
      refine ⟨_, rfl, [], by simp, by simp, hrl, fun i r j u z h1 h2 h3 => by simp at h3⟩
    · have hpos : 0 < sz := by omega
      have hdm : ∀ k, k < rows.length * sz → k / sz < rows.length := fun k hk => Nat.div_lt_of_lt_mul (by rw [Nat.mul_comm]; exact hk)
      refine ⟨_, rfl, (List.range (rows.length * sz)).map fun k => g (k / sz) (k % sz), by simp, fun k u hk => ?_, hrl, fun i r j u z h1 h2 h3 => ?_⟩
      · simp only [List.getElem?_map, Option.map_eq_some_iff] at hk
        obtain ⟨k', hk', rfl⟩ := hk
        have hkl : k < rows.length * sz := by have := (List.getElem?_eq_some_iff.1 hk').1; simpa using this
        rw [List.getElem?_range hkl] at hk'
        cases hk'
        have hi := hdm k hkl
        have hj : k % sz < sz := Nat.mod_lt _ hpos
        have hx : rows[k / sz]? = some rows[k / sz] := List.getElem?_eq_getElem hi
        have hel := hz _ (List.getElem_mem hi)
        have hu : (rows[k / sz])[k % sz]? = some ((rows[k / sz])[k % sz]'(by omega)) := List.getElem?_eq_getElem _
        have := hcell _ _ _ _ hx hu
        rw [add_none]
        rw [show k / sz * sz + k % sz = k from by rw [Nat.mul_comm]; exact Nat.div_add_mod k sz] at this
        exact this
      · simp only [List.getElem?_map, Option.map_eq_some_iff] at h3
        obtain ⟨k', hk', rfl⟩ := h3
        have hkl : i * sz + j < rows.length * sz := by have := (List.getElem?_eq_some_iff.1 hk').1; simpa using this
        rw [List.getElem?_range hkl] at hk'
        cases hk'
        have hj : j < sz := by rw [← hz r (List.mem_of_getElem? h1)]; exact (List.getElem?_eq_some_iff.1 h2).1
        have e1 : (i * sz + j) / sz = i := by rw [Nat.mul_comm, Nat.mul_add_div hpos, Nat.div_eq_of_lt hj]; rfl
        have e2 : (i * sz + j) % sz = j := by rw [Nat.mul_comm, Nat.mul_add_mod, Nat.mod_eq_of_lt hj]
        rw [e1, e2]
        exact hr i r j u h1 h2
  | own id off len el l hob =>
    obtain ⟨b, K, C, hE, hle, hKC, hv⟩ := R.own_inv hR
    obtain ⟨b1, K1, C1, h1, hz, h0, hl48, hlK, hb⟩ := hs.hp id _ hob
    rw [hE] at h1
    cases h1
    have hlen : ((l.drop off).take len).length = len := by simp; omega
    cases b with
    | none =>
      obtain ⟨rfl, rfl, rfl⟩ := hv
      exact ⟨none, 0, by simp, fun h => by simp at h⟩
    | some b =>
      obtain ⟨o, ho, rfl⟩ := hv
      obtain ⟨ys, hh, hys, _, hCm, hr⟩ := hb
      refine ⟨_, _, by rw [hlen], fun hne => ⟨_, rfl, (ys.toList.drop (off * sz)).take (len * sz), ?_, fun j u hj => ?_, fun r hr' => hz r (List.mem_of_mem_drop (List.mem_of_mem_take hr')), fun i r j u z h1 h2 h3 => ?_⟩⟩
      · have hm : (off + len) * sz ≤ C * sz := Nat.mul_le_mul_right _ (by omega)
        rw [Nat.add_mul] at hm
        rw [hlen, List.length_take, List.length_drop, Array.length_toList, hys]; omega
      · have hl0 : 0 < len := by rw [← hlen]; exact List.length_pos_iff.2 hne
        have ho' : o = off * sz := ho (.inl (by omega))
        obtain ⟨h3, hj'⟩ := take_getElem? _ _ _ _ hj
        rw [List.getElem?_drop, Array.getElem?_toList] at h3
        rw [add_none, cell_of_row w b _ ys el (0, 0) hh, ho', h3]
      · obtain ⟨h1, hi⟩ := take_getElem? _ _ _ _ h1
        rw [List.getElem?_drop] at h1
        obtain ⟨h3, hj'⟩ := take_getElem? _ _ _ _ h3
        rw [List.getElem?_drop, Array.getElem?_toList] at h3
        exact hr (off + i) r j u z h1 h2 (by rw [Nat.add_mul, Nat.add_assoc]; exact h3)
  | nil => exact ⟨none, 0, R.v_inv hR, fun h => (h rfl).elim⟩

theorem own_row {G : Gh} {s : St} {a : Act} {w : World} {E : Env} (hs : SimE G s a w E) {el sz : Nat} {x : V} {l : List (List V)} {io : Option Nat} (ha : IsArr s el sz x l io) {xv : Value} (hR : R w (OT G s E) E x xv) :
    ∃ xs : List Value, w.ownsRow 0 el sz xv l.length xs ∧ (∀ b, xv.ownBlock = some b → ∃ id C ob, io = some id ∧ s.hp id = some ob ∧ E id = some (some b, l.length, C)) ∧
      ∀ (i : Nat) (x : List V) (j : Nat) (u : V) (z : Value), l[i]? = some x → x[j]? = some u → xs[i * sz + j]? = some z → R0 w (OT G s E) u z := by
  cases ha with
  | nil =>
    rw [R.v_inv hR]
    exact ⟨[], World.ownsRow_nil w 0 el sz, fun b h => by simp [Value.ownBlock] at h, fun i x j u z h => by simp at h⟩
  | own id l hob =>
    obtain ⟨b, K, C, hE, hle, hKC, hv⟩ := R.own_inv hR
    obtain ⟨b1, K1, C1, h1, hz, h0, hl48, hlK, hb⟩ := hs.hp id _ hob
    rw [hE] at h1
    cases h1
    cases b with
    | none =>
      obtain ⟨_, hl0, rfl⟩ := hv
      have hnil : l = [] := List.eq_nil_of_length_eq_zero hl0
      subst hnil
      exact ⟨[], World.ownsRow_nil w 0 el sz, fun b h => by simp [Value.ownBlock] at h, fun i x j u z h => by simp at h⟩
    | some b =>
      obtain ⟨o, ho, rfl⟩ := hv
      obtain ⟨ys, hh, hys, _, hCm, hr⟩ := hb
      obtain rfl : o = 0 := by rw [ho (.inr rfl)]; simp
      have hle' : l.length * sz ≤ C * sz := Nat.mul_le_mul_right _ (by omega)
      have hyl : ys.toList.length = C * sz := by simpa using hys
      refine ⟨ys.toList.take (l.length * sz), ⟨by rw [List.length_take, hyl, Nat.min_eq_left hle'], .inr ⟨b, C, ys, by simp, Nat.zero_le _, hh, by omega, hCm, hys, rfl⟩⟩, fun b' h => ?_, fun i x j u z h1 h2 h3 => ?_⟩
      · simp [Value.ownBlock] at h; subst h; exact ⟨id, C, _, rfl, hob, by rw [hE, ← hlK]⟩
      · obtain ⟨h3, _⟩ := take_getElem? _ _ _ _ h3
        exact hr i x j u z h1 h2 (by simpa using h3)

/-- what an append leaves: the elder row dropped, a new name for what is one's own now -/
theorem SimE.grown {G : Gh} {s : St} {a : Act} {w w' : World} {E : Env} (h : SimE G s a w E) {io : Option Nat} {d : Nat} (hd : s.us d = false) {ob : OB} {bo : Option Nat} {K C : Nat} {row : Option Nat}
    (hg : w.grownBy w' row) (hrow : ∀ b, row = some b → ∃ id ob' K' C', io = some id ∧ s.hp id = some ob' ∧ E id = some (some b, K', C')) (hb : ∀ b, bo = some b → row = some b ∨ b = w.heap.size) (hlt : ∀ b, bo = some b → b < w'.heap.size)
    (hHB : ∀ (O' : Nat → Prop) (E' : Env), (∀ b, ¬ OT G s E b → b < w.heap.size → ¬ O' b) → HB w' O' E' bo K C ob) :
    ∃ E', SimE G (hsets s (dropL io ++ [(d, some ob)])) a w' E' ∧ E' d = some (bo, K, C) := by
  have hE0 : E d = none := by
    cases he : E d with
    | none => rfl
    | some r => have := h.us d (by rw [he]; simp); rw [hd] at this; cases this
  let E' : Env := fun i => if i = d then some (bo, K, C) else E i
  have hE'd : E' d = some (bo, K, C) := if_pos rfl
  have hhp : ∀ i, (hsets s (dropL io ++ [(d, some ob)])).hp i = if d = i then some ob else if io = some i then none else s.hp i := fun i => by
    cases io with
    | none => simp [dropL, hsets, St.hset]
    | some id => simp [dropL, hsets, St.hset]
  have hus : ∀ i, s.us i = true → (hsets s (dropL io ++ [(d, some ob)])).us i = true := fun i hi => by cases io <;> simp [dropL, hsets, St.hset, hi]
  have husd : (hsets s (dropL io ++ [(d, some ob)])).us d = true := by cases io <;> simp [dropL, hsets, St.hset]
  have husi : ∀ i, io = some i → (hsets s (dropL io ++ [(d, some ob)])).us i = true := fun i hi => by subst hi; simp [dropL, hsets, St.hset]
  have hfr : (hsets s (dropL io ++ [(d, some ob)])).fr = s.fr := by cases io <;> rfl
  have own : ∀ i o, (i = d ∨ io = some i) → (hsets s (dropL io ++ [(d, some ob)])).hp i = some o → i = d ∧ o = ob := fun i o hi ho => by
    rw [hhp] at ho
    split at ho
    · rename_i e; cases ho; exact ⟨e.symm, rfl⟩
    · rename_i e
      rcases hi with hi | hi
      · exact (e hi.symm).elim
      · rw [if_pos hi] at ho; cases ho
  refine ⟨E', (h.upd (s' := hsets s (dropL io ++ [(d, some ob)])) (E' := E') (fun i => i = d ∨ io = some i) hfr hg.size hg.os hg.tape hg.output (fun b hlt hne => hg.block b hlt fun e => ?_)
    (fun i hi => ⟨by rw [hhp, if_neg fun e => hi (.inl e.symm), if_neg fun e => hi (.inr e)], if_neg fun e => hi (.inl e)⟩)
    (fun i r hi => ?_) hus (fun i hi _ => ?_) (fun i o hi ho => ?_) (fun i o b' K' C' hi ho he => ?_) (fun i i' o o' b x x' hi hi' ho ho' _ _ => ?_)).1, hE'd⟩
  · obtain ⟨id, ob', K', C', h1, h2, h3⟩ := hrow b e.symm
    exact hne id ob' K' C' (.inr h1) h2 h3
  · show (if i = d then _ else E i) = _
    rw [if_neg (by rintro rfl; rw [hE0] at hi; cases hi)]
    exact hi
  · rcases hi with rfl | hi
    · exact husd
    · exact husi i hi
  · obtain ⟨rfl, rfl⟩ := own i o hi ho
    exact ⟨_, _, _, hE'd, fun hO1 => hHB _ _ hO1⟩
  · obtain ⟨rfl, rfl⟩ := own i o hi ho
    rw [hE'd] at he
    cases he
    rcases hb b' rfl with hr | rfl
    · obtain ⟨id, ob', K'', C'', q1, q2, q3⟩ := hrow b' hr
      exact .inr ⟨id, ob', K'', C'', .inr q1, q2, q3⟩
    · exact .inl ⟨Nat.le_refl _, hlt _ rfl⟩
  · rw [(own i o hi ho).1, (own i' o' hi' ho').1]

/-- names that are given up: nobody writes there any more -/
theorem SimE.drop {G : Gh} {s : St} {a : Act} {w : World} {E : Env} (h : SimE G s a w E) (id : Nat) : SimE G (s.hset id none) a w E ∧ (∀ b, ¬ OT G s E b → b < w.heap.size → ¬ OT G (s.hset id none) E b) :=
  h.upd (s' := s.hset id none) (E' := E) (fun i => i = id) rfl (Nat.le_refl _) rfl rfl rfl (fun _ _ _ => rfl) (fun i hi => ⟨by show (if id = i then _ else s.hp i) = _; rw [if_neg fun e => hi e.symm], rfl⟩) (fun _ _ h => h)
    (fun i hi => by simp [St.hset, hi]) (fun i hi _ => by subst hi; simp [St.hset]) (fun i o hi ho => by subst hi; simp [St.hset] at ho) (fun i o b' K' C' hi ho _ => by subst hi; simp [St.hset] at ho) (fun i i' o _ _ _ _ hi _ ho _ _ _ => by subst hi; simp [St.hset] at ho)

/-- a row of one's own, once nobody writes it any more -/
theorem arr_R0 {w : World} {O : Nat → Prop} {E : Env} {b : Option Nat} {K C t sz lo off len : Nat} {l : List (List V)} {y : Value} (hb : HB w O E b K C (.arr t sz l)) (hv : ownVal b K C off len sz y)
    (hO : ∀ b', b = some b' → lo ≤ b' ∧ ¬ O b' ∧ b' < w.heap.size) : R0 w O (.lst lo sz ((l.drop off).take len)) y := by
  obtain ⟨hle, hKC, hv⟩ := hv
  obtain ⟨hz, h0, hl, hK, hb⟩ := hb
  have hlen : ((l.drop off).take len).length = len := by simp; omega
  cases b with
  | none =>
    obtain ⟨rfl, rfl, rfl⟩ := hv
    have : (l.drop 0).take 0 = [] := by simp
    rw [this]
    exact .lst _ sz [] none 0 0 0 0 (fun _ _ => undef) (fun h => (h rfl).elim) rfl (by simp) (by simp) (fun h => (h rfl).elim) (by simp) (by simp) (by simp)
  | some b =>
    obtain ⟨o, ho, rfl⟩ := hv
    obtain ⟨ys, hh, hys, hKC', hC, hr⟩ := hb
    obtain ⟨hlo, hnf, hlt⟩ := hO b rfl
    have idx : ∀ (i : Nat) x, ((l.drop off).take len)[i]? = some x → l[off + i]? = some x ∧ i < len := fun i x h => by
      obtain ⟨h, hi⟩ := take_getElem? _ _ _ _ h
      rw [List.getElem?_drop] at h
      exact ⟨h, hi⟩
    have bd : ∀ (i : Nat) x (j : Nat) u, ((l.drop off).take len)[i]? = some x → x[j]? = some u → (off + i) * sz + j < ys.size := fun i x j u h1 h2 => by
      obtain ⟨h1, hi⟩ := idx i x h1
      have hx : x ∈ l := List.mem_of_getElem? h1
      have hj : j < sz := by rw [← hz x hx]; exact (List.getElem?_eq_some_iff.1 h2).1
      have : (off + i + 1) * sz ≤ C * sz := Nat.mul_le_mul_right _ (by omega)
      rw [hys]
      rw [Nat.succ_mul] at this
      omega
    refine .lst lo sz _ _ len _ b (off * sz) (fun i j => ys.getD ((off + i) * sz + j) undef) (fun _ => hlo) hlen.symm (by rw [hlen]; omega) (by rw [hlen]; omega) (fun hne => ?_) (fun i x j u h1 h2 => ?_) (fun x hx => hz x ?_) (fun i x j u h1 h2 => ?_)
    · have : 0 < len := by rw [← hlen]; exact List.length_pos_iff.2 hne
      refine ⟨?_, hnf, hlt⟩
      rw [ho (.inl (by omega))]
    · have hb := bd i x j u h1 h2
      have e1 : off * sz + (i * sz + j) = (off + i) * sz + j := by rw [Nat.add_mul, Nat.add_assoc]
      refine cellA_of_row hh ?_
      rw [e1, cell_of_row w b _ ys t (0, 0) hh]
      simp [hb]
    · exact List.mem_of_mem_drop (List.mem_of_mem_take hx)
    · have hb := bd i x j u h1 h2
      obtain ⟨h1, hi⟩ := idx i x h1
      exact hr (off + i) x j u _ h1 h2 (by simp [hb])

def allOnes : List (List V) → Bool
  | [] => true
  | r :: rs => allOne r && allOnes rs
theorem allOnes_spec : ∀ {rs : List (List V)}, allOnes rs = true → ∀ r ∈ rs, allOne r = true := by
  intro rs
  induction rs with
  | nil => simp
  | cons r rs ih =>
    intro h r' hr
    simp only [allOnes, Bool.and_eq_true] at h
    rcases List.mem_cons.1 hr with rfl | hr
    · exact h.1
    · exact ih h.2 r' hr

theorem append_run {P : Program} {G : Gh} {s : St} {o : Oper} {d t el sz bytes : Nat} {xo yo : Operand} {x y : V} {l new : List (List V)} {io : Option Nat}
    (ho : o.op = .call ⟨.builtin .append, #[xo, yo], #[t, t]⟩) (hx : ev s xo = x) (hy : ev s yo = y)
    (hu : s.used d = false) (ha : IsArr s el sz x l io) (hsrc : IsSrc s sz y new) (hse : sliceElem P t = some (el, sz)) (hz : (zeroK P el).map List.length = some sz) (hby : bytesK P el = some bytes)
    (h0 : 0 < sz) (hone : allOnes new = true) (hlen : (l.length + new.length) * bytes ≤ 140737488355328) (hlen' : l.length + new.length ≤ 140737488355328) :
    ∀ a w E, SimE G s a w E → ∃ v' w' E', (execOp a.eval o).run P w = .ok (.value v') w' ∧ SimE G (hsets s (dropL io ++ [(d, some (.arr el sz (l ++ new)))])) a w' E' ∧ R w' (OT G (hsets s (dropL io ++ [(d, some (.arr el sz (l ++ new)))])) E') E' (.own d 0 (l.length + new.length) sz) v' := by
  intro a w E hs
  obtain ⟨hU, inf, hinf, hsz⟩ := sliceElem_inv hse
  obtain ⟨z, hzk, hzl⟩ : ∃ z, zeroK P el = some z ∧ z.length = sz := by simpa using hz
  obtain ⟨zv, hzv, hzc⟩ : ∃ zv, inf.zero = some zv ∧ zv.cells.toList = z := by
    unfold zeroK at hzk
    simp only [hinf, Option.bind_some, Option.map_eq_some_iff] at hzk
    exact hzk
  have hzs : zv.cells.size = sz := by rw [← hzl, ← hzc]; simp
  have hb : inf.bytes = bytes := by simpa [bytesK, hinf] using hby
  have hRx := ev_E hs hx
  have hRy := ev_E hs hy
  obtain ⟨xs, hown, hob1, hxs⟩ := own_row hs ha hRx
  obtain ⟨ad, c, hyv, hsrc'⟩ := src_cells hs hsrc hRy
  -- both ways, nil or not
  have run : ∃ v' w' news, (Builtin.append_ #[t, t] o.type #[a.eval xo, a.eval yo]).run P w = .ok v' w' ∧ w'.ownsRow 0 el sz v' (l.length + new.length) (xs ++ news) ∧ w.grownBy w' (a.eval xo).ownBlock ∧
      (v'.ownBlock = (a.eval xo).ownBlock ∨ v'.ownBlock = some w.heap.size) ∧ news.length = new.length * sz ∧ (∀ r ∈ new, r.length = sz) ∧
      ∀ (i : Nat) (r : List V) (j : Nat) (u : V) (z : Value), new[i]? = some r → r[j]? = some u → news[i * sz + j]? = some z → R0 w (OT G s E) u z := by
    by_cases hne : new = []
    · have hnil : new = [] := by simpa using hne
      subst hnil
      simp only [List.length_nil, Nat.add_zero] at *
      have hrun : (Builtin.append_ #[t, t] o.type #[a.eval xo, a.eval yo]).run P w = .ok (a.eval xo) w := by
        rw [hyv]
        rcases hown.2 with ⟨hv, h0'⟩ | ⟨g, cap, cur, hv, _, _, hnc, _⟩
        · rw [hv]
          cases ad <;> simp [Builtin.append_, run_under P w hU, run_size P w hinf, Builtin.lenOf, Builtin.firstCells, loadCells, loadCellsFrom]
        · rw [hv]
          cases ad <;> simp [Builtin.append_, run_under P w hU, run_size P w hinf, Builtin.lenOf, Builtin.firstCells, hnc, storeCells, loadCells, loadCellsFrom]
      exact ⟨a.eval xo, w, [], hrun, by simpa using hown, World.grownBy.refl w _, .inl rfl, by simp, by simp, fun i r j u z h => by simp at h⟩
    · obtain ⟨A, rfl, news, hnl, hnc, hrl, hnr⟩ := hsrc' hne
      have hone' : ∀ u ∈ news, u.oneCell' = true := fun u hu => by
        obtain ⟨k, hk, rfl⟩ := List.getElem_of_mem hu
        have hkl : k < new.length * sz := by omega
        have hi : k / sz < new.length := Nat.div_lt_of_lt_mul (by rw [Nat.mul_comm]; exact hkl)
        have hj : k % sz < sz := Nat.mod_lt _ h0
        have hi' : k / sz < new.length := hi
        have hr1 : new[k / sz]? = some (new[k / sz]'hi') := List.getElem?_eq_getElem _
        have hel := hrl _ (List.getElem_mem hi')
        have hu1 : (new[k / sz]'hi')[k % sz]? = some ((new[k / sz]'hi')[k % sz]'(by omega)) := List.getElem?_eq_getElem _
        have hk' : news[k / sz * sz + k % sz]? = some news[k] := by
          rw [show k / sz * sz + k % sz = k from by rw [Nat.mul_comm]; exact Nat.div_add_mod k sz]
          exact List.getElem?_eq_getElem hk
        exact oneV_cell (E := E) (allOne_spec (allOnes_spec hone _ (List.getElem_mem hi')) _ _ hu1) (.r0 _ _ (hnr _ _ _ _ _ hr1 hu1 hk'))
      obtain ⟨v', w', h1, h2, h3, _, h5⟩ := run_append_own_at (P := P) w 0 t o.type el inf zv sz bytes hU hinf hzv hsz hb hzs h0 (a.eval xo) l.length xs hown A new.length c news hnl hnc hone' (by simp only [maxLen]; omega) hlen (Nat.zero_le _)
      rw [hyv]
      exact ⟨v', w', news, h1, h2, h3, h5, hnl, hrl, hnr⟩
  obtain ⟨v', w', news, hrun, hown', hgrow, hblk, hnl, hrl, hnr⟩ := run
  have hexec : (execOp a.eval o).run P w = .ok (.value v') w' := by
    have := hrun
    simp [execOp, ho, resolve, invoke, builtin, this]
  obtain ⟨hxl, _⟩ := hown
  have hlive : ∀ b, (a.eval xo).ownBlock = some b → OT G s E b := fun b hb => by
    obtain ⟨id, C, ob, _, h2, h3⟩ := hob1 b hb
    exact .inr ⟨id, ob, _, C, h2, h3⟩
  have hkeep : ∀ b, ¬ OT G s E b → b < w.heap.size → w'.heap[b]? = w.heap[b]? := fun b hnb hlt => hgrow.block b hlt (fun e => hnb (hlive b e.symm))
  have hrow : ∀ b, (a.eval xo).ownBlock = some b → ∃ id ob' K' C', io = some id ∧ s.hp id = some ob' ∧ E id = some (some b, K', C') := fun b hb => by
    obtain ⟨id, C, ob, h1, h2, h3⟩ := hob1 b hb
    exact ⟨id, ob, _, C, h1, h2, h3⟩
  have hel : ∀ q, q ∈ l ++ new → q.length = sz := fun q hq => by
    rcases List.mem_append.1 hq with hq | hq
    · cases ha with
      | nil => simp at hq
      | own id _ hob =>
        obtain ⟨b, K, C, h1, h2, _⟩ := hs.hp id _ hob
        exact h2 q hq
    · exact hrl _ hq
  have hall : l.length + new.length ≤ 140737488355328 := hlen'
  rcases hown'.2 with ⟨hv, hzero⟩ | ⟨g, cap, cur, hv, _, hcur, hle, hcap, hcs, htake⟩
  · obtain ⟨E', h1, h2⟩ := hs.grown (io := io) (d := d) hu (ob := .arr el sz (l ++ new)) (bo := none) (K := 0) (C := 0) hgrow hrow (by simp) (by simp) (fun O' E' _ => ⟨hel, h0, by rw [List.length_append]; omega, by rw [List.length_append]; omega, rfl, rfl⟩)
    refine ⟨v', w', E', hexec, h1, .own d 0 _ sz none 0 0 _ h2 ⟨by omega, Nat.le_refl _, rfl, hzero, hv⟩⟩
  · have hgb : (a.eval xo).ownBlock = some g ∨ g = w.heap.size := by
      rw [hv] at hblk
      rcases hblk with hb | hb
      · exact .inl hb.symm
      · right; simpa [Value.ownBlock] using hb
    have hxsz : xs.length = l.length * sz := hxl
    have hHB : ∀ (O' : Nat → Prop) (E' : Env), (∀ b, ¬ OT G s E b → b < w.heap.size → ¬ O' b) → HB w' O' E' (some g) (l.length + new.length) cap (.arr el sz (l ++ new)) := fun O' E' hO' => by
      refine ⟨hel, h0, by rw [List.length_append]; omega, by rw [List.length_append], cur, hcur, hcs, hle, hcap, fun i x j u y h3 h4 h5 => ?_⟩
      have hj : j < sz := by rw [← hel x (List.mem_of_getElem? h3)]; exact (List.getElem?_eq_some_iff.1 h4).1
      have hi : i < l.length + new.length := by have := (List.getElem?_eq_some_iff.1 h3).1; simpa using this
      have hlt : i * sz + j < (l.length + new.length) * sz := by
        have : (i + 1) * sz ≤ (l.length + new.length) * sz := Nat.mul_le_mul_right _ (by omega)
        rw [Nat.succ_mul] at this
        omega
      have h5' : (xs ++ news)[i * sz + j]? = some y := by
        rw [← htake, List.getElem?_take, if_pos hlt]; simpa using h5
      have mono : ∀ {u : V} {y : Value}, R0 w (OT G s E) u y → R0 w' O' u y := fun h => h.mono hgrow.size hO' hkeep
      by_cases hil : i < l.length
      · rw [List.getElem?_append_left hil] at h3
        have hlt2 : i * sz + j < l.length * sz := by
          have : (i + 1) * sz ≤ l.length * sz := Nat.mul_le_mul_right _ (by omega)
          rw [Nat.succ_mul] at this
          omega
        rw [List.getElem?_append_left (by omega)] at h5'
        exact mono (hxs i x j u y h3 h4 h5')
      · rw [List.getElem?_append_right (by omega)] at h3
        have hge : l.length * sz ≤ i * sz := Nat.mul_le_mul_right _ (by omega)
        rw [List.getElem?_append_right (by omega), hxsz] at h5'
        have e1 : i * sz + j - l.length * sz = (i - l.length) * sz + j := by rw [Nat.mul_sub_right_distrib]; omega
        rw [e1] at h5'
        exact mono (hnr (i - l.length) x j u y h3 h4 h5')
    obtain ⟨E', h1, h2⟩ := hs.grown (io := io) (d := d) hu (ob := .arr el sz (l ++ new)) (bo := some g) (K := l.length + new.length) (C := cap) hgrow hrow (fun b hb => by cases hb; exact hgb)
      (fun b hb => by cases hb; exact (Array.getElem?_eq_some_iff.1 hcur).1) hHB
    exact ⟨v', w', E', hexec, h1, .own d 0 _ sz (some g) _ cap _ h2 ⟨by omega, hle, 0, by simp, by rw [hv]; simp⟩⟩
/-- append: what it gives is one's own, under a new name; or, where nobody is to write it any more, it is just its elements. -/
theorem append_step {P : Program} {G : Gh} {own : Bool} {s : St} {o : Oper} {d t el sz bytes : Nat} {xo yo : Operand} {x y : V} {l new : List (List V)} {io : Option Nat}
    (ho : o.op = .call ⟨.builtin .append, #[xo, yo], #[t, t]⟩) (hx : ev s xo = x) (hy : ev s yo = y) (hd : ∀ d, o.dst = some d → d < G.n)
    (hu : s.used d = false) (ha : IsArr s el sz x l io) (hsrc : IsSrc s sz y new) (hse : sliceElem P t = some (el, sz)) (hz : (zeroK P el).map List.length = some sz) (hby : bytesK P el = some bytes)
    (h0 : 0 < sz) (hone : allOnes new = true) (hlen : (l.length + new.length) * bytes ≤ 140737488355328) (hlen' : l.length + new.length ≤ 140737488355328) :
    StepOK P G s o (app s o.dst (match own with
      | true => (.own d 0 (l.length + new.length) sz, dropL io ++ [(d, some (.arr el sz (l ++ new)))])
      | false => (.lst G.lo sz (l ++ new), dropL io ++ [(d, some (.arr el sz (l ++ new))), (d, none)]))) := by
  have run := append_run (G := G) ho hx hy hu ha hsrc hse hz hby h0 hone hlen hlen'
  cases own with
  | true => exact stepOK_heap hd run
  | false =>
    refine stepOK_heap hd fun a w E hs => ?_
    obtain ⟨v', w', E', h1, h2, h3⟩ := run a w E hs
    have e : hsets s (dropL io ++ [(d, some (.arr el sz (l ++ new))), (d, none)]) = (hsets s (dropL io ++ [(d, some (.arr el sz (l ++ new)))])).hset d none := by cases io <;> rfl
    obtain ⟨h4, h5⟩ := h2.drop d
    refine ⟨v', w', E', h1, by rw [e]; exact h4, ?_⟩
    rw [e]
    have hob : (hsets s (dropL io ++ [(d, some (.arr el sz (l ++ new)))])).hp d = some (.arr el sz (l ++ new)) := by cases io <;> simp [dropL, hsets, St.hset]
    obtain ⟨b, K, C, hE, hv⟩ := R.own_inv h3
    obtain ⟨b1, K1, C1, hE1, hHB⟩ := h2.hp d _ hob
    rw [hE] at hE1
    cases hE1
    have hHB' := hHB.mono (w' := w') (O' := OT G ((hsets s (dropL io ++ [(d, some (.arr el sz (l ++ new)))])).hset d none) E') (Nat.le_refl _) h5 (fun _ _ _ => rfl) (fun _ _ h => h) (fun _ _ => rfl)
    have := arr_R0 (lo := G.lo) hHB' hv fun b' hb' => by
      subst hb'
      refine ⟨h2.lo_le hob hE, ?_, (h2.fresh d _ b' _ hob hE).2.2⟩
      rintro (hof | ⟨i, o', K', C', g1, g2⟩)
      · exact (h2.fresh d _ b' _ hob hE).2.1 hof
      · simp only [St.hset] at g1
        split at g1
        · cases g1
        · rename_i hne
          exact hne (h2.inj d i _ _ b' _ _ hob g1 hE g2)
    rw [List.drop_zero, List.take_of_length_le (by simp)] at this
    exact .r0 _ _ this
end Pm
end Go.Proofs.Ytgienbcekgokiaa
