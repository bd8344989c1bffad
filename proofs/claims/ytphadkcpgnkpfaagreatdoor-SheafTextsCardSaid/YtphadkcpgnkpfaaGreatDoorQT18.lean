import Derived.Lib.AppendStr
import Derived.Test.YtphadkcpgnkpfaaGreatDoorQT10
import Derived.Test.YtphadkcpgnkpfaaGreatDoorQT17
namespace Go.Proofs.YtphadkcpgnkpfaaGreatDoor
open Go Go.RowKit
set_option linter.unusedSimpArgs false
set_option linter.unusedVariables false
namespace Pm
end Pm
open Go Go.RowKit
namespace Pm
attribute [go_sem] okLL
inductive IsArrX (s : St) (el sz : Nat) : V → List (List V) → Option Nat → Prop
  | own (id : Nat) (l : List (List V)) (h : s.hget id = some (.arx el sz l)) : IsArrX s el sz (.own id 0 l.length sz) l (some id)
  | arr (id : Nat) (l : List (List V)) (h : s.hget id = some (.arr el sz l)) : IsArrX s el sz (.own id 0 l.length sz) l (some id)
  | nil : IsArrX s el sz (.v (.slice none 0 0)) [] none
inductive IsSrcX (s : St) (sz : Nat) : V → List (List V) → Prop
  | box (id : Nat) (r : List V) (h : s.hget id = some (.box r)) (hr : r.length = sz) : IsSrcX s sz (.own id 0 1 sz) [r]
  | src (y : V) (l : List (List V)) (h : IsSrc s sz y l) : IsSrcX s sz y l
theorem src_cellsX {G : Gh} {s : St} {a : Act} {w : World} {E : Env} (hs : SimE G s a w E) {sz : Nat} {y : V} {rows : List (List V)} (hsrc : IsSrcX s sz y rows) {yv : Value} (hR : R w (OT G s E) E y yv) :
    ∃ ad c, yv = .slice ad rows.length c ∧ (rows ≠ [] → ∃ A : Addr, ad = some A ∧ ∃ news : List Value, news.length = rows.length * sz ∧ (∀ j u, news[j]? = some u → w.cell? (A.add j) = some u) ∧
      (∀ r ∈ rows, r.length = sz) ∧ ∀ (i : Nat) (r : List V) (j : Nat) (u : V) (z : Value), rows[i]? = some r → r[j]? = some u → news[i * sz + j]? = some z → R w (OT G s E) E u z) := by
  cases hsrc with
  | src _ _ h =>
    obtain ⟨ad, c, h1, h2⟩ := src_cells hs h hR
    refine ⟨ad, c, h1, fun hne => ?_⟩
    obtain ⟨A, h3, news, h4, h5, h6, h7⟩ := h2 hne
    exact ⟨A, h3, news, h4, h5, h6, fun i r j u z g1 g2 g3 => .r0 _ _ (h7 i r j u z g1 g2 g3)⟩
  | box id r hob hr =>
    obtain ⟨b, K, C, hE, hle, hKC, hv⟩ := R.own_inv hR
    obtain ⟨b1, K1, C1, h1, b', ys, t, hb, hh, hsz, hK, hKC', hrr⟩ := hs.hp id _ hob
    rw [hE] at h1
    cases h1
    cases hb
    obtain ⟨o, ho, rfl⟩ := hv
    obtain rfl : o = 0 := by rw [ho (.inl (by omega))]; simp
    refine ⟨_, _, rfl, fun _ => ⟨_, rfl, ys.toList, by simp; omega, fun j u hj => ?_, fun x hx => by simp at hx; subst hx; exact hr, fun i x j u z g1 g2 g3 => ?_⟩⟩
    · rw [add_none, cell_of_row w b' _ ys t (0, 0) hh, Nat.zero_add]
      simpa using hj
    · have hi : i = 0 := by have := (List.getElem?_eq_some_iff.1 g1).1; simp at this; exact this
      subst hi
      simp at g1
      subst g1
      rw [Nat.zero_mul, Nat.zero_add] at g3
      exact hrr j u z g2 (by simpa using g3)
theorem own_rowX {G : Gh} {s : St} {a : Act} {w : World} {E : Env} (hs : SimE G s a w E) {el sz : Nat} {x : V} {l : List (List V)} {io : Option Nat} (ha : IsArrX s el sz x l io) {xv : Value} (hR : R w (OT G s E) E x xv) :
    ∃ xs : List Value, w.ownsRow 0 el sz xv l.length xs ∧ (∀ b, xv.ownBlock = some b → ∃ id C ob, io = some id ∧ s.hp id = some ob ∧ E id = some (some b, l.length, C)) ∧
      ∀ (i : Nat) (x : List V) (j : Nat) (u : V) (z : Value), l[i]? = some x → x[j]? = some u → xs[i * sz + j]? = some z → R w (OT G s E) E u z := by
  cases ha with
  | nil =>
    rw [R.v_inv hR]
    exact ⟨[], World.ownsRow_nil w 0 el sz, fun b h => by simp [Value.ownBlock] at h, fun i x j u z h => by simp at h⟩
  | arr id l hob =>
    obtain ⟨xs, h1, h2, h3⟩ := own_row hs (.own id l hob) hR
    exact ⟨xs, h1, h2, fun i x j u z g1 g2 g3 => .r0 _ _ (h3 i x j u z g1 g2 g3)⟩
  | own id l hob =>
    obtain ⟨b, K, C, hE, hle, hKC, hv⟩ := R.own_inv hR
    obtain ⟨b1, K1, C1, h1, hz, h0, hl48, hlK, hb⟩ := hs.hp id _ hob
    rw [hE] at h1
    cases h1
    cases b with
    | none =>
      obtain ⟨_, hl0, rfl⟩ := hv
      have hnil : l = [] := List.eq_nil_of_length_eq_zero hl0
      subst hnil
      exact ⟨[], World.ownsRow_nil w 0 el sz, fun b h => by simp [Value.ownBlock] at h, fun i x j u z h => by simp at h⟩
    | some b =>
      obtain ⟨o, ho, rfl⟩ := hv
      obtain ⟨ys, hh, hys, _, hCm, hr⟩ := hb
      obtain rfl : o = 0 := by rw [ho (.inr rfl)]; simp
      have hle' : l.length * sz ≤ C * sz := Nat.mul_le_mul_right _ (by omega)
      have hyl : ys.toList.length = C * sz := by simpa using hys
      refine ⟨ys.toList.take (l.length * sz), ⟨by rw [List.length_take, hyl, Nat.min_eq_left hle'], .inr ⟨b, C, ys, by simp, Nat.zero_le _, hh, by omega, hCm, hys, rfl⟩⟩, fun b' h => ?_, fun i x j u z h1 h2 h3 => ?_⟩
      · simp [Value.ownBlock] at h; subst h; exact ⟨id, C, _, rfl, hob, by rw [hE, ← hlK]⟩
      · obtain ⟨h3, _⟩ := take_getElem? _ _ _ _ h3
        exact hr i x j u z h1 h2 (by simpa using h3)
theorem SimE.grownX {G : Gh} {s : St} {a : Act} {w w' : World} {E : Env} (h : SimE G s a w E) {io : Option Nat} {d : Nat} (hd : s.us d = false) {ob : OB} {bo : Option Nat} {K C : Nat} {row : Option Nat}
    (hg : w.grownBy w' row) (hrow : ∀ b, row = some b → ∃ id ob' K' C', io = some id ∧ s.hp id = some ob' ∧ E id = some (some b, K', C')) (hb : ∀ b, bo = some b → row = some b ∨ b = w.heap.size) (hlt : ∀ b, bo = some b → b < w'.heap.size)
    (hHB : ∀ (O' : Nat → Prop) (E' : Env), (∀ b, ¬ OT G s E b → b < w.heap.size → ¬ O' b) → (∀ id r, E id = some r → E' id = some r) → HB w' O' E' bo K C ob) :
    ∃ E', SimE G (hsets s (dropL io ++ [(d, some ob)])) a w' E' ∧ E' d = some (bo, K, C) := by
  have hE0 : E d = none := by
    cases he : E d with
    | none => rfl
    | some r => have := h.us d (by rw [he]; simp); rw [hd] at this; cases this
  let E' : Env := fun i => if i = d then some (bo, K, C) else E i
  have hE'd : E' d = some (bo, K, C) := if_pos rfl
  have hhp : ∀ i, (hsets s (dropL io ++ [(d, some ob)])).hp i = if d = i then some ob else if io = some i then none else s.hp i := fun i => by
    cases io with
    | none => simp [dropL, hsets, St.hset]
    | some id => simp [dropL, hsets, St.hset]
  have hus : ∀ i, s.us i = true → (hsets s (dropL io ++ [(d, some ob)])).us i = true := fun i hi => by cases io <;> simp [dropL, hsets, St.hset, hi]
  have husd : (hsets s (dropL io ++ [(d, some ob)])).us d = true := by cases io <;> simp [dropL, hsets, St.hset]
  have husi : ∀ i, io = some i → (hsets s (dropL io ++ [(d, some ob)])).us i = true := fun i hi => by subst hi; simp [dropL, hsets, St.hset]
  have hfr : (hsets s (dropL io ++ [(d, some ob)])).fr = s.fr := by cases io <;> rfl
  have own : ∀ i o, (i = d ∨ io = some i) → (hsets s (dropL io ++ [(d, some ob)])).hp i = some o → i = d ∧ o = ob := fun i o hi ho => by
    rw [hhp] at ho
    split at ho
    · rename_i e; cases ho; exact ⟨e.symm, rfl⟩
    · rename_i e
      rcases hi with hi | hi
      · exact (e hi.symm).elim
      · rw [if_pos hi] at ho; cases ho
  have hEE : ∀ i r, E i = some r → E' i = some r := fun i r hi => by
    show (if i = d then _ else E i) = _
    rw [if_neg (by rintro rfl; rw [hE0] at hi; cases hi)]
    exact hi
  refine ⟨E', (h.upd (s' := hsets s (dropL io ++ [(d, some ob)])) (E' := E') (fun i => i = d ∨ io = some i) hfr hg.size hg.os hg.tape hg.output (fun b hlt hne => hg.block b hlt fun e => ?_)
    (fun i hi => ⟨by rw [hhp, if_neg fun e => hi (.inl e.symm), if_neg fun e => hi (.inr e)], if_neg fun e => hi (.inl e)⟩)
    hEE hus (fun i hi _ => ?_) (fun i o hi ho => ?_) (fun i o b' K' C' hi ho he => ?_) (fun i i' o o' b x x' hi hi' ho ho' _ _ => ?_)).1, hE'd⟩
  · obtain ⟨id, ob', K', C', h1, h2, h3⟩ := hrow b e.symm
    exact hne id ob' K' C' (.inr h1) h2 h3
  · rcases hi with rfl | hi
    · exact husd
    · exact husi i hi
  · obtain ⟨rfl, rfl⟩ := own i o hi ho
    exact ⟨_, _, _, hE'd, fun hO1 => hHB _ _ hO1 hEE⟩
  · obtain ⟨rfl, rfl⟩ := own i o hi ho
    rw [hE'd] at he
    cases he
    rcases hb b' rfl with hr | rfl
    · obtain ⟨id, ob', K'', C'', q1, q2, q3⟩ := hrow b' hr
      exact .inr ⟨id, ob', K'', C'', .inr q1, q2, q3⟩
    · exact .inl ⟨Nat.le_refl _, hlt _ rfl⟩
  · rw [(own i o hi ho).1, (own i' o' hi' ho').1]

theorem appendX_run {P : Program} {G : Gh} {s : St} {o : Oper} {d t el sz bytes : Nat} {xo yo : Operand} {x y : V} {l new : List (List V)} {io : Option Nat}
    (ho : o.op = .call ⟨.builtin .append, #[xo, yo], #[t, t]⟩) (hx : ev s xo = x) (hy : ev s yo = y)
    (hu : s.used d = false) (ha : IsArrX s el sz x l io) (hsrc : IsSrcX s sz y new) (hse : sliceElem P t = some (el, sz)) (hz : (zeroK P el).map List.length = some sz) (hby : bytesK P el = some bytes)
    (h0 : 0 < sz) (hone : allOnes new = true) (hlen : (l.length + new.length) * bytes ≤ 140737488355328) (hlen' : l.length + new.length ≤ 140737488355328) :
    ∀ a w E, SimE G s a w E → ∃ v' w' E', (execOp a.eval o).run P w = .ok (.value v') w' ∧ SimE G (hsets s (dropL io ++ [(d, some (.arx el sz (l ++ new)))])) a w' E' ∧ R w' (OT G (hsets s (dropL io ++ [(d, some (.arx el sz (l ++ new)))])) E') E' (.own d 0 (l.length + new.length) sz) v' := by
  intro a w E hs
  obtain ⟨hU, inf, hinf, hsz⟩ := sliceElem_inv hse
  obtain ⟨z, hzk, hzl⟩ : ∃ z, zeroK P el = some z ∧ z.length = sz := by simpa using hz
  obtain ⟨zv, hzv, hzc⟩ : ∃ zv, inf.zero = some zv ∧ zv.cells.toList = z := by
    unfold zeroK at hzk
    simp only [hinf, Option.bind_some, Option.map_eq_some_iff] at hzk
    exact hzk
  have hzs : zv.cells.size = sz := by rw [← hzl, ← hzc]; simp
  have hb : inf.bytes = bytes := by simpa [bytesK, hinf] using hby
  have hRx := ev_E hs hx
  have hRy := ev_E hs hy
  obtain ⟨xs, hown, hob1, hxs⟩ := own_rowX hs ha hRx
  obtain ⟨ad, c, hyv, hsrc'⟩ := src_cellsX hs hsrc hRy
  -- both ways, nil or not
  have run : ∃ v' w' news, (Builtin.append_ #[t, t] o.type #[a.eval xo, a.eval yo]).run P w = .ok v' w' ∧ w'.ownsRow 0 el sz v' (l.length + new.length) (xs ++ news) ∧ w.grownBy w' (a.eval xo).ownBlock ∧
      (v'.ownBlock = (a.eval xo).ownBlock ∨ v'.ownBlock = some w.heap.size) ∧ news.length = new.length * sz ∧ (∀ r ∈ new, r.length = sz) ∧
      ∀ (i : Nat) (r : List V) (j : Nat) (u : V) (z : Value), new[i]? = some r → r[j]? = some u → news[i * sz + j]? = some z → R w (OT G s E) E u z := by
    by_cases hne : new = []
    · have hnil : new = [] := by simpa using hne
      subst hnil
      simp only [List.length_nil, Nat.add_zero] at *
      have hrun : (Builtin.append_ #[t, t] o.type #[a.eval xo, a.eval yo]).run P w = .ok (a.eval xo) w := by
        rw [hyv]
        rcases hown.2 with ⟨hv, h0'⟩ | ⟨g, cap, cur, hv, _, _, hnc, _⟩
        · rw [hv]
          cases ad <;> simp [Builtin.append_, run_under P w hU, run_size P w hinf, Builtin.lenOf, Builtin.firstCells, loadCells, loadCellsFrom]
        · rw [hv]
          cases ad <;> simp [Builtin.append_, run_under P w hU, run_size P w hinf, Builtin.lenOf, Builtin.firstCells, hnc, storeCells, loadCells, loadCellsFrom]
      exact ⟨a.eval xo, w, [], hrun, by simpa using hown, World.grownBy.refl w _, .inl rfl, by simp, by simp, fun i r j u z h => by simp at h⟩
    · obtain ⟨A, rfl, news, hnl, hnc, hrl, hnr⟩ := hsrc' hne
      have hone' : ∀ u ∈ news, u.oneCell' = true := fun u hu => by
        obtain ⟨k, hk, rfl⟩ := List.getElem_of_mem hu
        have hkl : k < new.length * sz := by omega
        have hi : k / sz < new.length := Nat.div_lt_of_lt_mul (by rw [Nat.mul_comm]; exact hkl)
        have hj : k % sz < sz := Nat.mod_lt _ h0
        have hi' : k / sz < new.length := hi
        have hr1 : new[k / sz]? = some (new[k / sz]'hi') := List.getElem?_eq_getElem _
        have hel := hrl _ (List.getElem_mem hi')
        have hu1 : (new[k / sz]'hi')[k % sz]? = some ((new[k / sz]'hi')[k % sz]'(by omega)) := List.getElem?_eq_getElem _
        have hk' : news[k / sz * sz + k % sz]? = some news[k] := by
          rw [show k / sz * sz + k % sz = k from by rw [Nat.mul_comm]; exact Nat.div_add_mod k sz]
          exact List.getElem?_eq_getElem hk
        exact oneV_cell (E := E) (allOne_spec (allOnes_spec hone _ (List.getElem_mem hi')) _ _ hu1) (hnr _ _ _ _ _ hr1 hu1 hk')
      obtain ⟨v', w', h1, h2, h3, _, h5⟩ := run_append_own_at (P := P) w 0 t o.type el inf zv sz bytes hU hinf hzv hsz hb hzs h0 (a.eval xo) l.length xs hown A new.length c news hnl hnc hone' (by simp only [maxLen]; omega) hlen (Nat.zero_le _)
      rw [hyv]
      exact ⟨v', w', news, h1, h2, h3, h5, hnl, hrl, hnr⟩
  obtain ⟨v', w', news, hrun, hown', hgrow, hblk, hnl, hrl, hnr⟩ := run
  have hexec : (execOp a.eval o).run P w = .ok (.value v') w' := by
    have := hrun
    simp [execOp, ho, resolve, invoke, builtin, this]
  obtain ⟨hxl, _⟩ := hown
  have hlive : ∀ b, (a.eval xo).ownBlock = some b → OT G s E b := fun b hb => by
    obtain ⟨id, C, ob, _, h2, h3⟩ := hob1 b hb
    exact .inr ⟨id, ob, _, C, h2, h3⟩
  have hkeep : ∀ b, ¬ OT G s E b → b < w.heap.size → w'.heap[b]? = w.heap[b]? := fun b hnb hlt => hgrow.block b hlt (fun e => hnb (hlive b e.symm))
  have hrow : ∀ b, (a.eval xo).ownBlock = some b → ∃ id ob' K' C', io = some id ∧ s.hp id = some ob' ∧ E id = some (some b, K', C') := fun b hb => by
    obtain ⟨id, C, ob, h1, h2, h3⟩ := hob1 b hb
    exact ⟨id, ob, _, C, h1, h2, h3⟩
  have hel : ∀ q, q ∈ l ++ new → q.length = sz := fun q hq => by
    rcases List.mem_append.1 hq with hq | hq
    · cases ha with
      | nil => simp at hq
      | own id _ hob =>
        obtain ⟨b, K, C, h1, h2, _⟩ := hs.hp id _ hob
        exact h2 q hq
      | arr id _ hob =>
        obtain ⟨b, K, C, h1, h2, _⟩ := hs.hp id _ hob
        exact h2 q hq
    · exact hrl _ hq
  have hall : l.length + new.length ≤ 140737488355328 := hlen'
  rcases hown'.2 with ⟨hv, hzero⟩ | ⟨g, cap, cur, hv, _, hcur, hle, hcap, hcs, htake⟩
  · obtain ⟨E', h1, h2⟩ := hs.grownX (io := io) (d := d) hu (ob := .arx el sz (l ++ new)) (bo := none) (K := 0) (C := 0) hgrow hrow (by simp) (by simp) (fun O' E' _ _ => ⟨hel, h0, by rw [List.length_append]; omega, by rw [List.length_append]; omega, rfl, rfl⟩)
    refine ⟨v', w', E', hexec, h1, .own d 0 _ sz none 0 0 _ h2 ⟨by omega, Nat.le_refl _, rfl, hzero, hv⟩⟩
  · have hgb : (a.eval xo).ownBlock = some g ∨ g = w.heap.size := by
      rw [hv] at hblk
      rcases hblk with hb | hb
      · exact .inl hb.symm
      · right; simpa [Value.ownBlock] using hb
    have hxsz : xs.length = l.length * sz := hxl
    have hHB : ∀ (O' : Nat → Prop) (E' : Env), (∀ b, ¬ OT G s E b → b < w.heap.size → ¬ O' b) → (∀ id r, E id = some r → E' id = some r) → HB w' O' E' (some g) (l.length + new.length) cap (.arx el sz (l ++ new)) := fun O' E' hO' hEE => by
      refine ⟨hel, h0, by rw [List.length_append]; omega, by rw [List.length_append], cur, hcur, hcs, hle, hcap, fun i x j u y h3 h4 h5 => ?_⟩
      have hj : j < sz := by rw [← hel x (List.mem_of_getElem? h3)]; exact (List.getElem?_eq_some_iff.1 h4).1
      have hi : i < l.length + new.length := by have := (List.getElem?_eq_some_iff.1 h3).1; simpa using this
      have hlt : i * sz + j < (l.length + new.length) * sz := by
        have : (i + 1) * sz ≤ (l.length + new.length) * sz := Nat.mul_le_mul_right _ (by omega)
        rw [Nat.succ_mul] at this
        omega
      have h5' : (xs ++ news)[i * sz + j]? = some y := by
        rw [← htake, List.getElem?_take, if_pos hlt]; simpa using h5
      have mono : ∀ {u : V} {y : Value}, R w (OT G s E) E u y → R w' O' E' u y := fun h => h.monoC hgrow.size hO' (fun b h1 h2 _ => hkeep b h1 h2) hEE
      by_cases hil : i < l.length
      · rw [List.getElem?_append_left hil] at h3
        have hlt2 : i * sz + j < l.length * sz := by
          have : (i + 1) * sz ≤ l.length * sz := Nat.mul_le_mul_right _ (by omega)
          rw [Nat.succ_mul] at this
          omega
        rw [List.getElem?_append_left (by omega)] at h5'
        exact mono (hxs i x j u y h3 h4 h5')
      · rw [List.getElem?_append_right (by omega)] at h3
        have hge : l.length * sz ≤ i * sz := Nat.mul_le_mul_right _ (by omega)
        rw [List.getElem?_append_right (by omega), hxsz] at h5'
        have e1 : i * sz + j - l.length * sz = (i - l.length) * sz + j := by rw [Nat.mul_sub_right_distrib]; omega
        rw [e1] at h5'
        exact mono (hnr (i - l.length) x j u y h3 h4 h5')
    obtain ⟨E', h1, h2⟩ := hs.grownX (io := io) (d := d) hu (ob := .arx el sz (l ++ new)) (bo := some g) (K := l.length + new.length) (C := cap) hgrow hrow (fun b hb => by cases hb; exact hgb)
      (fun b hb => by cases hb; exact (Array.getElem?_eq_some_iff.1 hcur).1) hHB
    exact ⟨v', w', E', hexec, h1, .own d 0 _ sz (some g) _ cap _ h2 ⟨by omega, hle, 0, by simp, by rw [hv]; simp⟩⟩
theorem appx_step {P : Program} {G : Gh} {s : St} {o : Oper} {Q : Exit → St → Prop} {rest : St → Prop} {d t el sz bytes : Nat} {xo yo : Operand} {x y : V} {l new : List (List V)} {io : Option Nat}
    (ho : o.op = .call ⟨.builtin .append, #[xo, yo], #[t, t]⟩) (hx : ev s xo = x) (hy : ev s yo = y) (hd : o.dst = some d) (hdn : d < G.n)
    (hu : s.used d = false) (ha : IsArrX s el sz x l io) (hsrc : IsSrcX s sz y new) (hse : sliceElem P t = some (el, sz)) (hz : (zeroK P el).map List.length = some sz) (hby : bytesK P el = some bytes)
    (h0 : 0 < sz) (hone : allOnes new = true) (hlen : (l.length + new.length) * bytes ≤ 140737488355328) (hlen' : l.length + new.length ≤ 140737488355328)
    (hr : rest (app s o.dst (.own d 0 (l.length + new.length) sz, dropL io ++ [(d, some (.arx el sz (l ++ new)))]))) : SemStep P G o s Q rest := by
  intro a w hs
  refine wpIn_of_wp (fun c hc => by rw [ho] at hc; cases hc) ?_
  exact stepOK_heap (fun d' h => by rw [hd] at h; cases h; exact hdn) (appendX_run ho hx hy hu ha hsrc hse hz hby h0 hone hlen hlen') a w hs _ _ fun a' w' hs' => ⟨_, hr, hs'⟩
end Pm
end Go.Proofs.YtphadkcpgnkpfaaGreatDoor
