/- A text's bytes appended to bytes of one's own. No program in sight. -/
import Derived.Test.YtgienbcekgokiaaPmX
import Derived.Lib.AppendStr
namespace Go.Proofs.Ytgienbcekgokiaa
open Go Go.RowKit
set_option linter.unusedSimpArgs false
set_option linter.unusedVariables false
namespace Pm
theorem run_appendS {P : Program} (w : World) (t u ty e : TypeId) (i : TypeInfo) (ht : P.underlying t = some (.slice e)) (hu : P.underlying u = some .string) (hi : P.info? e = some i) (hz : i.zero = some (.int .u8 0))
    (hsize : i.size = 1) (hby : i.bytes = 1) (v : Value) (n : Nat) (xs : List Value) (hown : w.ownsRow 0 e 1 v n xs) (s : ByteArray) (h63 : n + s.size ≤ maxLen) (hbytes : n + s.size ≤ 140737488355328) :
    ∃ v' w', (Builtin.append_ #[t, u] ty #[v, .string s]).run P w = .ok v' w' ∧ w'.ownsRow 0 e 1 v' (n + s.size) (xs ++ Lib.strCells s) ∧ w.grownBy w' v.ownBlock ∧ (v'.ownBlock = v.ownBlock ∨ v'.ownBlock = some w.heap.size) := by
  obtain ⟨v', w', h1, h2, h3, h4⟩ := Lib.run_append_own_string (P := P) w 0 t u ty e i ht hu hi hz hsize hby v n xs hown s h63 hbytes (Nat.zero_le _)
  refine ⟨v', w', h1, h2, h3, ?_⟩
  have hsmall : n + s.size ≤ 9223372036854775807 := by simp only [maxLen] at h63; omega
  rcases hown.2 with ⟨rfl, rfl⟩ | ⟨g, cap, cur, rfl, hbg, hg, hnc, hcm, hcs, htake⟩
  · by_cases hm : s.size = 0
    · left
      rw [h4.2 ⟨rfl, hm⟩]
    · right
      have hr := run_append_nil_string (P := P) w t u ty e i (.int .u8 0) ht hu hi hz s (by omega) (by omega) (by rw [hby]; omega)
      rw [h1] at hr
      simp only [Result.ok.injEq] at hr
      rw [hr.1]; rfl
  · have hcs' : cur.size = cap := by simpa using hcs
    by_cases hroom : n + s.size ≤ cap
    · left
      have hr := Lib.run_append_room_string (P := P) w t u ty e i ht hu hi hsize g n cap cur hg s hroom (by omega)
      rw [h1] at hr
      simp only [Result.ok.injEq] at hr
      rw [hr.1]; rfl
    · right
      have holds : ∀ j u, xs[j]? = some u → w.cell? ((⟨g, 0, none⟩ : Addr).add j) = some u := hown.cells (g := g) rfl
      have hr := Lib.run_append_grow_string (P := P) w t u ty e i (.int .u8 0) ht hu hi hz ⟨g, 0, none⟩ n cap xs (by rw [hsize]; simpa using hown.1) holds s (by omega) (by omega) (by rw [hby]; exact growslice_fits (by omega) (by omega))
      rw [h1] at hr
      simp only [Result.ok.injEq] at hr
      rw [hr.1]; rfl
/-- an element type that is bytes -/
def isByte (P : Program) (el : TypeId) : Prop := (P.info? el).map (fun i => (i.zero, i.size, i.bytes)) = some (some (.int .u8 0), 1, 1)
theorem byteE_one (l : List UInt8) : ∀ r ∈ l.map byteE, r.length = 1 := fun r hr => by
  obtain ⟨b, _, rfl⟩ := List.mem_map.1 hr; rfl
theorem appendS_run {P : Program} {G : Gh} {s : St} {o : Oper} {d t u el : Nat} {xo yo : Operand} {x : V} {l : List (List V)} {io : Option Nat} {str : ByteArray}
    (ho : o.op = .call ⟨.builtin .append, #[xo, yo], #[t, u]⟩) (hx : ev s xo = x) (hy : ev s yo = .v (.string str))
    (hu : s.used d = false) (ha : IsArr s el 1 x l io) (hse : sliceElem P t = some (el, 1)) (hus : tk P u = .str) (hb : isByte P el)
    (hlen : l.length + str.size ≤ 140737488355328) :
    ∀ a w E, SimE G s a w E → ∃ v' w' E', (execOp a.eval o).run P w = .ok (.value v') w' ∧ SimE G (hsets s (dropL io ++ [(d, some (.arr el 1 (l ++ str.data.toList.map byteE)))])) a w' E' ∧ R w' (OT G (hsets s (dropL io ++ [(d, some (.arr el 1 (l ++ str.data.toList.map byteE)))])) E') E' (.own d 0 (l.length + str.size) 1) v' := by
  intro a w E hs
  obtain ⟨hU, inf, hinf, hsz⟩ := sliceElem_inv hse
  have hb' := hb
  unfold isByte at hb'
  rw [hinf] at hb'
  simp only [Option.map_some, Option.some.injEq, Prod.mk.injEq] at hb'
  obtain ⟨hz0, hz1, hz2⟩ := hb'
  have hRx := ev_E hs hx
  have hyv := R.v_inv (ev_E hs hy)
  obtain ⟨xs, hown, hob1, hxs⟩ := own_row hs ha hRx
  have hall : l.length + str.size ≤ maxLen := by simp only [maxLen]; omega
  obtain ⟨v', w', hrun, hown', hgrow, hblk⟩ := run_appendS (P := P) w t u o.type el inf hU (tk_str hus) hinf hz0 hz1 hz2 (a.eval xo) l.length xs hown str hall hlen
  have hexec : (execOp a.eval o).run P w = .ok (.value v') w' := by
    have := hrun
    simp [execOp, ho, resolve, invoke, builtin, hyv, this]
  obtain ⟨hxl, _⟩ := hown
  have hxl' : xs.length = l.length := by simpa using hxl
  have hsl : str.data.toList.length = str.size := by rw [Array.length_toList]; rfl
  obtain ⟨new, hnew⟩ : ∃ new, new = str.data.toList.map byteE := ⟨_, rfl⟩
  have hnl : new.length = str.size := by rw [hnew, List.length_map, hsl]
  rw [← hnew]
  have hlive : ∀ b, (a.eval xo).ownBlock = some b → OT G s E b := fun b hb => by
    obtain ⟨id, C, ob, _, h2, h3⟩ := hob1 b hb
    exact .inr ⟨id, ob, _, C, h2, h3⟩
  have hkeep : ∀ b, ¬ OT G s E b → b < w.heap.size → w'.heap[b]? = w.heap[b]? := fun b hnb hlt => hgrow.block b hlt (fun e => hnb (hlive b e.symm))
  have hrow : ∀ b, (a.eval xo).ownBlock = some b → ∃ id ob' K' C', io = some id ∧ s.hp id = some ob' ∧ E id = some (some b, K', C') := fun b hb => by
    obtain ⟨id, C, ob, h1, h2, h3⟩ := hob1 b hb
    exact ⟨id, ob, _, C, h1, h2, h3⟩
  have hel : ∀ q, q ∈ l ++ new → q.length = 1 := fun q hq => by
    rcases List.mem_append.1 hq with hq | hq
    · cases ha with
      | nil => simp at hq
      | own id _ hob =>
        obtain ⟨b, K, C, h1, h2, _⟩ := hs.hp id _ hob
        exact h2 q hq
    · rw [hnew] at hq
      exact byteE_one _ q hq
  rcases hown'.2 with ⟨hv, hzero⟩ | ⟨g, cap, cur, hv, _, hcur, hle, hcap, hcs, htake⟩
  · obtain ⟨E', h1, h2⟩ := hs.grown (io := io) (d := d) hu (ob := .arr el 1 (l ++ new)) (bo := none) (K := 0) (C := 0) hgrow hrow (by simp) (by simp) (fun O' E' _ => ⟨hel, by decide, by rw [List.length_append]; omega, by rw [List.length_append]; omega, rfl, rfl⟩)
    refine ⟨v', w', E', hexec, h1, .own d 0 _ 1 none 0 0 _ h2 ⟨by omega, Nat.le_refl _, rfl, hzero, hv⟩⟩
  · have hgb : (a.eval xo).ownBlock = some g ∨ g = w.heap.size := by
      rw [hv] at hblk
      rcases hblk with hb | hb
      · exact .inl hb.symm
      · right; simpa [Value.ownBlock] using hb
    have hHB : ∀ (O' : Nat → Prop) (E' : Env), (∀ b, ¬ OT G s E b → b < w.heap.size → ¬ O' b) → HB w' O' E' (some g) (l.length + str.size) cap (.arr el 1 (l ++ new)) := fun O' E' hO' => by
      refine ⟨hel, by decide, by rw [List.length_append]; omega, by rw [List.length_append, hnl], cur, hcur, hcs, hle, hcap, fun i x j u y h3 h4 h5 => ?_⟩
      have hj : j < 1 := by rw [← hel x (List.mem_of_getElem? h3)]; exact (List.getElem?_eq_some_iff.1 h4).1
      have hi : i < l.length + str.size := by have := (List.getElem?_eq_some_iff.1 h3).1; rw [List.length_append, hnl] at this; exact this
      have h5' : (xs ++ Lib.strCells str)[i * 1 + j]? = some y := by
        rw [← htake, List.getElem?_take, if_pos (by omega)]; simpa using h5
      have mono : ∀ {u : V} {y : Value}, R0 w (OT G s E) u y → R0 w' O' u y := fun h => h.mono hgrow.size hO' hkeep
      by_cases hil : i < l.length
      · rw [List.getElem?_append_left hil] at h3
        rw [List.getElem?_append_left (by omega)] at h5'
        exact mono (hxs i x j u y h3 h4 h5')
      · rw [List.getElem?_append_right (by omega), hnew, List.getElem?_map] at h3
        rw [List.getElem?_append_right (by omega)] at h5'
        have e1 : i * 1 + j - xs.length = i - l.length := by omega
        rw [e1] at h5'
        unfold Lib.strCells at h5'
        rw [List.getElem?_map] at h5'
        obtain ⟨b, hb1, rfl⟩ := Option.map_eq_some_iff.1 h3
        rw [hb1] at h5'
        have hj0 : j = 0 := by omega
        subst hj0
        simp only [byteE, List.getElem?_cons_zero, Option.some.injEq] at h4
        subst h4
        simp only [Option.map_some, Option.some.injEq] at h5'
        subst h5'
        exact .v _
    obtain ⟨E', h1, h2⟩ := hs.grown (io := io) (d := d) hu (ob := .arr el 1 (l ++ new)) (bo := some g) (K := l.length + str.size) (C := cap) hgrow hrow (fun b hb => by cases hb; exact hgb)
      (fun b hb => by cases hb; exact (Array.getElem?_eq_some_iff.1 hcur).1) hHB
    exact ⟨v', w', E', hexec, h1, .own d 0 _ 1 (some g) _ cap _ h2 ⟨by omega, hle, 0, by simp, by rw [hv]; simp⟩⟩
/-- append of a text's bytes: one's own, under a new name -/
theorem appendS_step {P : Program} {G : Gh} {s : St} {o : Oper} {Q : Exit → St → Prop} {rest : St → Prop} {d t u el : Nat} {xo yo : Operand} {x : V} {l : List (List V)} {io : Option Nat} {str : ByteArray}
    (ho : o.op = .call ⟨.builtin .append, #[xo, yo], #[t, u]⟩) (hx : ev s xo = x) (hy : ev s yo = .v (.string str)) (hd : o.dst = some d) (hdn : d < G.n)
    (hu : s.used d = false) (ha : IsArr s el 1 x l io) (hse : sliceElem P t = some (el, 1)) (hus : tk P u = .str) (hb : isByte P el)
    (hlen : l.length + str.size ≤ 140737488355328)
    (hr : rest (app s o.dst (.own d 0 (l.length + str.size) 1, dropL io ++ [(d, some (.arr el 1 (l ++ str.data.toList.map byteE)))]))) : SemStep P G o s Q rest := by
  intro a w hs
  refine wpIn_of_wp (fun c hc => by rw [ho] at hc; cases hc) ?_
  exact stepOK_heap (fun d' h => by rw [hd] at h; cases h; exact hdn) (appendS_run ho hx hy hu ha hse hus hb hlen) a w hs _ _ fun a' w' hs' => ⟨_, hr, hs'⟩
/-- a pointer against itself -/
theorem ptr_neq_step {P : Program} {G : Gh} {s : St} {o : Oper} {Q : Exit → St → Prop} {rest : St → Prop} {d t t' i k : Nat} {xo yo : Operand}
    (ho : o.op = .binOp .neq t xo yo t') (hx : ev s xo = .ptr i k) (hy : ev s yo = .ptr i k) (hd : o.dst = some d) (hdn : d < G.n) {e : TypeId} (hu : P.underlying t = some (.pointer e)) (hi : (P.info? e).isSome = true)
    (hr : rest (putD s o.dst (.v (.bool false)))) : SemStep P G o s Q rest := by
  intro a w hs
  refine wpIn_of_wp (fun c hc => by rw [ho] at hc; cases hc) ?_
  obtain ⟨inf, hinf⟩ := Option.isSome_iff_exists.1 hi
  refine stepOK_val (x := .v (.bool false)) (fun d' h => by rw [hd] at h; cases h; exact hdn) (fun a w E hs => ⟨_, ?_, .r0 _ _ (.v _)⟩) a w hs _ _ fun a' w' hs' => ⟨_, hr, hs'⟩
  obtain ⟨b, K, C, hE, hxv⟩ := R.ptr_inv (ev_E hs hx)
  obtain ⟨b', K', C', hE', hyv⟩ := R.ptr_inv (ev_E hs hy)
  rw [hE] at hE'
  cases hE'
  have hq : (Op.equal t (a.eval xo) (a.eval yo)).run P w = .ok true w := by
    rw [hxv, hyv]
    exact equal_of fun d => by by_cases h0 : inf.size = 0 <;> simp [Op.equalIn, run_under P w hu, run_size P w hinf, h0, sameAddr]
  have hg : (eqGuard .neq t xo yo (a.eval xo) (a.eval yo)).run P w = .ok () w := by rw [hxv, hyv]; unfold eqGuard; split <;> simp
  have hb : binOp .neq t (a.eval xo) (a.eval yo) = (do pure (.bool (!(← Op.equal t (a.eval xo) (a.eval yo))))) := by rw [hxv, hyv]; rfl
  simp [execOp, ho, hg, hb, hq]
/-- a new strings.Builder: this very object -/
theorem alloc_obj {P : Program} {G : Gh} {s : St} {o : Oper} {Q : Exit → St → Prop} {rest : St → Prop} {d t : Nat}
    (ho : o.op = .alloc t) (hd : o.dst = some d) (hdn : d < G.n) (hu : s.used d = false) (hz : zeroK P t = some [.pointer none, .slice none 0 0])
    (hr : rest (app s o.dst (.ptr d 0, [(d, some (.obj (.cells #[.pointer none, .slice none 0 0] t (0, 0))))]))) : SemStep P G o s Q rest := by
  intro a w hs
  refine wpIn_of_wp (fun c hc => by rw [ho] at hc; cases hc) ?_
  refine stepOK_heap (x := .ptr d 0) (l := [(d, some (.obj (.cells #[.pointer none, .slice none 0 0] t (0, 0))))]) (fun d' h => by rw [hd] at h; cases h; exact hdn) (fun a w E hs => ?_) a w hs _ _ fun a' w' hs' => ⟨_, hr, hs'⟩
  obtain ⟨zv, hzr, hzc⟩ := zeroK_inv hz w
  have hzc' : zv.cells = #[.pointer none, .slice none 0 0] := by apply Array.ext'; simpa using hzc
  obtain ⟨E', h1, h2, h3, h4⟩ := hs.new (id := d) hu (o := .cells zv.cells t) (ob := .obj (.cells #[.pointer none, .slice none 0 0] t (0, 0))) (K := 0) (C := 0) (fun O' E' hO hE => ⟨w.heap.size, rfl, by rw [heap_new, hzc'], rfl, rfl⟩)
  refine ⟨.pointer (some ⟨w.heap.size, 0, none⟩), _, E', ?_, h1, .ptr d 0 _ _ _ h2⟩
  simp [execOp, ho, Instr.alloc, newVar, newRow, hzr]
end Pm
end Go.Proofs.Ytgienbcekgokiaa
