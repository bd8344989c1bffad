import Derived.Test.YtphadkcpgnkpfaaGreatDoorQT18
namespace Go.Proofs.YtphadkcpgnkpfaaGreatDoor
open Go Go.RowKit Go.MapKept
set_option linter.unusedSimpArgs false
set_option linter.unusedVariables false
namespace Pm
def setJ (m : List (Value × V)) (j : Nat) (v : V) : List (Value × V) := match m[j]? with
  | some p => m.set j (p.1, v)
  | none => m
theorem SimE.mapSetO {G : Gh} {s : St} {a : Act} {w : World} {E : Env} (hs : SimE G s a w E) {id b : Nat} {ob ob' : OB} {o o' : Obj} (hob : s.hget id = some ob) (hE : E id = some (some b, 0, 0))
    (hh : w.heap[b]? = some o) (hHB : ∀ (w' : World) (O1 : Nat → Prop), w'.heap.size = w.heap.size → (∀ k, k ≠ b → w'.heap[k]? = w.heap[k]?) → w'.heap[b]? = some o' → (∀ k, ¬ OT G s E k → k < w.heap.size → ¬ O1 k) → HB w' O1 E (some b) 0 0 ob') :
    SimE G (s.hset id (some ob')) a { w with heap := w.heap.setIfInBounds b o' } E := by
  obtain ⟨f1, f2, f3⟩ := setObj_facts (o' := o') hh
  exact hs.write hob hE rfl rfl rfl f2 f3 fun O1 hO1 => hHB _ O1 f2 f3 f1 hO1
theorem mapEntry_step {P : Program} {G : Gh} {s : St} {o : Oper} {Q : Exit → St → Prop} {rest : St → Prop} {t d id : Nat} {x k : Operand} {kd : KD} {z : V} {kv : Value} {m : List (Value × V)}
    (ho : o.op = .mapEntry t x k) (hx : ev s x = .mp id) (hk : keyV (ev s k) = some kv) (hm : mapK P t = some (kd, z)) (hob : s.hget id = some (.map kd m)) (hkb : isKeyB kd kv = true) (hd : o.dst = some d) (hdn : d < G.n)
    (h0 : lkM m kv = none → ∀ bo : Int, rest (app s o.dst (.tup [z, .v (.int .i64 bo)], [(id, some (.mpe kd (m ++ [(kv, z)]) m.length bo))])))
    (h1 : ∀ (j : Nat) (p : Value × V), m[j]? = some p → p.1 = kv → lkM m kv = some p.2 → ∀ bo : Int, rest (app s o.dst (.tup [p.2, .v (.int .i64 bo)], [(id, some (.mpe kd m j bo))]))) : SemStep P G o s Q rest := by
  intro a w hs
  obtain ⟨E, hs⟩ := hs
  refine wpIn_of_wp (fun c hc => by rw [ho] at hc; cases hc) ?_
  obtain ⟨b, es, clock, hy, hE, hh, hsz, hrel, hst⟩ := map_hb hs hob (ev_E hs hx)
  obtain ⟨kt, et, zv, g1, g2, g3, rfl⟩ := mapK_inv hm w
  have hkv := keyV_R hk (ev_R hs k)
  have hik := isKeyB_spec hkb
  unfold Oper.wp
  rcases find_rel (w := w) g2 hik es.toList m (by simpa using hsz) (fun i e p q1 q2 => ⟨(hrel i e p (by simpa using q1) q2).1, (hrel i e p (by simpa using q1) q2).2.1⟩) with ⟨q1, q2, _, _, q5⟩ | ⟨j, e, p, q1, q2, q3, q4, q5, _, _⟩
  · have hrun : (execOp a.eval o).run P w = .ok (.value (.tuple #[zv, goInt clock])) { w with heap := w.heap.setIfInBounds b (.map (es.push { key := kv, val := zv, born := clock }) (clock + 1)) } := by
      simp [execOp, ho, Instr.mapEntry, run_underlying g1, hy, hkv, MapKept.run_getObj_map hh, run_checkK g2 hik, q1, g3, MapKept.run_setObj_map _ hh, Result.andThen]
    rw [hrun]
    have hS : SimE G (s.hset id (some (.mpe kd (m ++ [(kv, vOf zv)]) m.length (clock : Int)))) a { w with heap := w.heap.setIfInBounds b (.map (es.push { key := kv, val := zv, born := clock }) (clock + 1)) } E := by
      refine hs.mapSetO hob hE hh fun w' O1 f2 f3 f1 hO1 => ⟨b, _, _, rfl, f1, rfl, rfl, by simp [hsz], fun i e p r1 r2 => ?_, stamped_push hst q5, ⟨{ key := kv, val := zv, born := clock }, by rw [← hsz]; simp, rfl⟩⟩
      rw [Array.getElem?_push] at r1
      by_cases hi : i = es.size
      · rw [if_pos hi] at r1
        cases r1
        rw [hi, hsz] at r2
        simp at r2
        subst r2
        exact ⟨rfl, hik, vOf_R _ _ _ _⟩
      · rw [if_neg hi] at r1
        have : i < m.length := by have := (Array.getElem?_eq_some_iff.1 r1).1; omega
        rw [List.getElem?_append_left this] at r2
        obtain ⟨u1, u2, u3⟩ := hrel i e p r1 r2
        exact ⟨u1, u2, u3.mono (by rw [f2]; exact Nat.le_refl _) hO1 (fun k hk _ => f3 k (by rintro rfl; exact hk (.inr ⟨id, _, _, _, hob, hE⟩))) (fun _ _ h => h)⟩
    refine ⟨_, h0 q2 (clock : Int), E, ?_⟩
    refine SimE.put hS (fun d' h => by rw [hd] at h; cases h; exact hdn) (.tup _ _ rfl fun i u y r1 r2 => ?_)
    match i with
    | 0 => simp at r1 r2; subst r1; subst r2; exact vOf_R _ _ _ _
    | 1 => simp [goInt] at r1 r2; subst r1; subst r2; exact .r0 _ _ (.v _)
    | i + 2 => simp at r1
  · have hj : es[j]? = some e := by simpa using q2
    have hpk : p.1 = kv := by rw [← (hrel j e p hj q3).1]; exact q4
    have hrun : (execOp a.eval o).run P w = .ok (.value (.tuple #[e.val, goInt e.born])) { w with heap := w.heap.setIfInBounds b (.map (es.modify j fun e => { e with key := kv }) clock) } := by
      simp [execOp, ho, Instr.mapEntry, run_underlying g1, hy, hkv, MapKept.run_getObj_map hh, run_checkK g2 hik, q1, hj, q4, run_keyStays hik, MapKept.run_setObj_map _ hh, Result.andThen]
    rw [hrun]
    have hS : SimE G (s.hset id (some (.mpe kd m j (e.born : Int)))) a { w with heap := w.heap.setIfInBounds b (.map (es.modify j fun e => { e with key := kv }) clock) } E := by
      refine hs.mapSetO hob hE hh fun w' O1 f2 f3 f1 hO1 => ⟨b, _, _, rfl, f1, rfl, rfl, by simp [hsz], fun i e' p' r1 r2 => ?_, stamped_modify hst _ _ (fun _ _ => rfl) (fun e' _ he' => by rw [hj] at he'; cases he'; exact q4.symm), ⟨{ e with key := kv }, by rw [Array.getElem?_modify, if_pos rfl, hj]; rfl, rfl⟩⟩
      rw [Array.getElem?_modify] at r1
      have up : ∀ {u : V} {y : Value}, R w (OT G s E) E u y → R w' O1 E u y := fun h => h.mono (by rw [f2]; exact Nat.le_refl _) hO1 (fun k hk _ => f3 k (by rintro rfl; exact hk (.inr ⟨id, _, _, _, hob, hE⟩))) (fun _ _ h => h)
      by_cases hi : j = i
      · subst hi
        rw [if_pos rfl, hj] at r1
        cases r1
        rw [q3] at r2
        cases r2
        obtain ⟨u1, u2, u3⟩ := hrel j e p hj q3
        exact ⟨hpk.symm, u2, up u3⟩
      · rw [if_neg hi] at r1
        obtain ⟨u1, u2, u3⟩ := hrel i e' p' r1 r2
        exact ⟨u1, u2, up u3⟩
    refine ⟨_, h1 j p q3 hpk q5 (e.born : Int), E, ?_⟩
    refine SimE.put hS (fun d' h => by rw [hd] at h; cases h; exact hdn) (.tup _ _ rfl fun i u y r1 r2 => ?_)
    obtain ⟨f1, f2, f3⟩ := setObj_facts (o' := .map (es.modify j fun e => { e with key := kv }) clock) hh
    have up : ∀ {u : V} {y : Value}, R w (OT G s E) E u y → R { w with heap := w.heap.setIfInBounds b (.map (es.modify j fun e => { e with key := kv }) clock) } (OT G (s.hset id (some (.mpe kd m j (e.born : Int)))) E) E u y := fun h => by
      refine h.mono (by rw [f2]; exact Nat.le_refl _) (fun k hk _ hq => hk ?_) (fun k hk _ => f3 k (by rintro rfl; exact hk (.inr ⟨id, _, _, _, hob, hE⟩))) (fun _ _ h => h)
      rcases hq with hq | ⟨i, ob, K, C, t1, t2⟩
      · exact .inl hq
      · by_cases hii : id = i
        · subst hii; exact .inr ⟨id, _, K, C, hob, t2⟩
        · rw [show (s.hset id (some (.mpe kd m j (e.born : Int)))).hp i = s.hp i from if_neg hii] at t1
          exact .inr ⟨i, ob, K, C, t1, t2⟩
    match i with
    | 0 => simp at r1 r2; subst r1; subst r2; exact up (hrel j e p hj q3).2.2
    | 1 => simp [goInt] at r1 r2; subst r1; subst r2; exact .r0 _ _ (.v _)
    | i + 2 => simp at r1
theorem find_born : ∀ (l : List MapEntry) (j : Nat) (e : MapEntry), (l.map (·.born)).Nodup → l[j]? = some e → l.findIdx? (fun x => (x.born : Int) == (e.born : Int)) = some j
  | [], j, e, _, h => by simp at h
  | x :: r, 0, e, _, h => by
    simp at h; subst h
    simp [List.findIdx?_cons]
  | x :: r, j + 1, e, hn, h => by
    simp only [List.map_cons, List.nodup_cons] at hn
    simp at h
    have hne : ((x.born : Int) == (e.born : Int)) = false := by
      rw [beq_eq_false_iff_ne]
      intro q
      exact hn.1 (List.mem_map.2 ⟨e, List.mem_of_getElem? h, by omega⟩)
    rw [List.findIdx?_cons, hne]
    simp [find_born r j e hn.2 h]
theorem entryStore_step {P : Program} {G : Gh} {s : St} {o : Oper} {Q : Exit → St → Prop} {rest : St → Prop} {t id j : Nat} {bo : Int} {x st v : Operand} {kd : KD} {m : List (Value × V)}
    (ho : o.op = .entryStore t x st v) (hdst : o.dst = none) (hx : ev s x = .mp id) (hs' : ev s st = .v (.int .i64 bo)) (hob : s.hget id = some (.mpe kd m j bo))
    (h : rest (s.hset id (some (.map kd (setJ m j (ev s v)))))) : SemStep P G o s Q rest := by
  intro a w hs
  obtain ⟨E, hs⟩ := hs
  refine wpIn_of_wp (fun c hc => by rw [ho] at hc; cases hc) ?_
  obtain ⟨b, K, C, hE, hy⟩ := R.mp_inv (ev_E hs hx)
  obtain ⟨b1, K1, C1, h1, b', es, clock, rfl, hh, rfl, rfl, hsz, hrel, hst, e, hj, hbo⟩ := hs.hp id _ hob
  rw [hE] at h1
  cases h1
  have hsv := R.v_inv (ev_E hs hs')
  have hv := ev_R hs v
  have hfi : es.findIdx? (fun x => (x.born : Int) == bo) = some j := by
    have ht : es.findIdx? (fun x => (x.born : Int) == bo) = es.toList.findIdx? (fun x => (x.born : Int) == bo) := by
      conv => lhs; rw [← Array.toArray_toList (xs := es)]
      rw [List.findIdx?_toArray]
    rw [ht, ← hbo]
    exact find_born es.toList j e hst.2.1 (by simpa using hj)
  unfold Oper.wp
  have hrun : (execOp a.eval o).run P w = .ok .skip { w with heap := w.heap.setIfInBounds b (.map (es.modify j fun e => { e with val := a.eval v }) clock) } := by
    simp [execOp, ho, Instr.entryStore, hy, hsv, MapKept.run_getObj_map hh, asInt, asIntOf, hfi, MapKept.run_setObj_map _ hh, Result.andThen]
  rw [hrun]
  refine ⟨_, h, E, ?_⟩
  rw [hdst]
  have hjl : j < m.length := by have := (Array.getElem?_eq_some_iff.1 hj).1; omega
  have hmj : m[j]? = some m[j] := List.getElem?_eq_getElem hjl
  have hset : setJ m j (ev s v) = m.set j (m[j].1, ev s v) := by unfold setJ; rw [hmj]
  rw [hset]
  refine hs.mapSetO hob hE hh fun w' O1 f2 f3 f1 hO1 => ⟨b, _, _, rfl, f1, rfl, rfl, by simp [hsz], fun i e' p' r1 r2 => ?_, stamped_modify hst _ _ (fun _ _ => rfl) (fun e' _ he' => rfl)⟩
  have up : ∀ {u : V} {y : Value}, R w (OT G s E) E u y → R w' O1 E u y := fun h => h.mono (by rw [f2]; exact Nat.le_refl _) hO1 (fun k hk _ => f3 k (by rintro rfl; exact hk (.inr ⟨id, _, _, _, hob, hE⟩))) (fun _ _ h => h)
  rw [Array.getElem?_modify] at r1
  rw [List.getElem?_set] at r2
  by_cases hi : j = i
  · subst hi
    rw [if_pos rfl, hj] at r1
    rw [if_pos rfl, if_pos hjl] at r2
    cases r1; cases r2
    obtain ⟨u1, u2, u3⟩ := hrel j e m[j] hj hmj
    exact ⟨u1, u2, up hv⟩
  · rw [if_neg hi] at r1 r2
    obtain ⟨u1, u2, u3⟩ := hrel i e' p' r1 r2
    exact ⟨u1, u2, up u3⟩
theorem clear_step {P : Program} {G : Gh} {s : St} {o : Oper} {Q : Exit → St → Prop} {rest : St → Prop} {t id off len el : Nat} {x : Operand} {z : Value} {l : List (List V)}
    (ho : o.op = .call ⟨.builtin .clear, #[x], #[t]⟩) (hdst : o.dst = none) (hx : ev s x = .own id off len 1) (hob : s.hget id = some (.arr el 1 l)) (hol : off + len = l.length)
    (hse : sliceElem P t = some (el, 1)) (hz : zeroK P el = some [z]) (hone : z.oneCell' = true)
    (h : rest (s.hset id (some (.arr el 1 (l.take off ++ List.replicate len [.v z]))))) : SemStep P G o s Q rest := by
  intro a w hs
  obtain ⟨E, hs⟩ := hs
  refine wpIn_of_wp (fun c hc => by rw [ho] at hc; cases hc) ?_
  obtain ⟨hU, inf, hinf, hsz⟩ := sliceElem_inv hse
  obtain ⟨zv, hzv, hzc⟩ : ∃ zv, inf.zero = some zv ∧ zv.cells.toList = [z] := by
    unfold zeroK at hz
    simp only [hinf, Option.bind_some, Option.map_eq_some_iff] at hz
    exact hz
  obtain ⟨b, K, C, hE, hle, hKC, hv⟩ := R.own_inv (ev_E hs hx)
  obtain ⟨b1, K1, C1, h1, g1, g2, g3, g4, g5⟩ := hs.hp id _ hob
  rw [hE] at h1
  cases h1
  unfold Oper.wp
  have hzcs : ∀ n, (Builtin.zeroCells zv.cells n).toList = List.replicate n z := by
    intro n
    have hc1 : zv.cells = #[z] := by apply Array.toList_inj.1; rw [hzc]
    simp [Builtin.zeroCells, hc1, Nat.mod_one]
    try simp [List.map_const']
  cases b with
  | none =>
    obtain ⟨rfl, rfl, hy⟩ := hv
    have hrun : (execOp a.eval o).run P w = .ok (.value (.tuple #[])) w := by
      simp [execOp, ho, resolve, invoke, builtin, Builtin.clear_, run_under P w hU, hy]
    rw [hrun]
    refine ⟨_, h, E, ?_⟩
    rw [hdst]
    obtain ⟨rfl, rfl⟩ := g5
    have hl : l = [] := List.eq_nil_of_length_eq_zero (by omega)
    subst hl
    simp only [List.take_nil, List.replicate_zero, List.append_nil]
    show SimE G (s.hset id (some (.arr el 1 []))) a w E
    refine (hs.upd (s' := s.hset id (some (.arr el 1 []))) (E' := E) (fun i => i = id) rfl (Nat.le_refl _) rfl rfl rfl (fun _ _ _ => rfl)
      (fun i hi => ⟨by show (if id = i then _ else s.hp i) = _; rw [if_neg fun e => hi e.symm], rfl⟩) (fun _ _ h => h) (fun i hi => by simp [St.hset, hi]) (fun i hi _ => by subst hi; simp [St.hset])
      (fun i o hi ho => by subst hi; simp only [St.hset, if_true, Option.some.injEq] at ho; subst ho; exact ⟨_, _, _, hE, fun hO1 => ⟨g1, g2, g3, g4, rfl, rfl⟩⟩)
      (fun i o b' K' C' hi _ he => by subst hi; rw [hE] at he; cases he) (fun i i' _ _ _ _ _ hi hi' _ _ _ _ => by rw [hi, hi'])).1
  | some b =>
    obtain ⟨ys, hh, hys, hKC', hCm, hr⟩ := g5
    obtain ⟨o', ho', hy⟩ := hv
    simp only [Nat.mul_one] at hys ho'
    by_cases hlen : len = 0
    · subst hlen
      have hrun : (execOp a.eval o).run P w = .ok (.value (.tuple #[])) w := by
        simp [execOp, ho, resolve, invoke, builtin, Builtin.clear_, run_under P w hU, hy]
      rw [hrun]
      refine ⟨_, h, E, ?_⟩
      rw [hdst]
      have hl : l.take off = l := List.take_of_length_le (by omega)
      simp only [hl, List.replicate_zero, List.append_nil]
      exact hs.write hob hE rfl rfl rfl rfl (fun _ _ => rfl) fun O1 hO1 => ⟨g1, g2, g3, g4, ys, hh, by simpa using hys, hKC', hCm, fun i x j u y q1 q2 q3 => (hr i x j u y q1 q2 q3).mono (Nat.le_refl _) hO1 fun _ _ _ => rfl⟩
    · have hoff : o' = off := ho' (.inl (by omega))
      subst hoff
      have hst := run_storeCells_at P b o' el (List.replicate len z) 0 ys w hh (by simp; omega) (fun v hv => by rw [List.eq_of_mem_replicate hv]; exact hone)
      have hrun : (execOp a.eval o).run P w = .ok (.value (.tuple #[])) (w.setRow b (ys.toList.take (o' + 0) ++ List.replicate len z ++ ys.toList.drop (o' + 0 + (List.replicate len z).length)).toArray) := by
        obtain ⟨n, hn⟩ : ∃ n, len = n + 1 := ⟨len - 1, by omega⟩
        subst hn
        simp only [execOp, ho, resolve, invoke, builtin]
        simp [Builtin.clear_, run_under P w hU, hy, zeroValue, typeInfo, hinf, hzv, hzcs, hst]
      rw [hrun]
      refine ⟨_, h, E, ?_⟩
      rw [hdst]
      have hrow := setRow_heap w b ys (ys.toList.take (o' + 0) ++ List.replicate len z ++ ys.toList.drop (o' + 0 + (List.replicate len z).length)).toArray el (0, 0) hh
      have hoth : ∀ k, k ≠ b → (w.setRow b (ys.toList.take (o' + 0) ++ List.replicate len z ++ ys.toList.drop (o' + 0 + (List.replicate len z).length)).toArray).heap[k]? = w.heap[k]? := fun k hk => by
        simp [World.setRow, Array.getElem?_modify, Ne.symm hk]
      refine hs.write hob hE rfl rfl rfl (by simp [World.setRow]) hoth fun O1 hO1 => ⟨fun x hx => ?_, g2, by simp; omega, by simp; omega, _, hrow, ?_, hKC', hCm, fun i x j u y q1 q2 q3 => ?_⟩
      · rcases List.mem_append.1 hx with hx | hx
        · exact g1 x (List.mem_of_mem_take hx)
        · rw [List.eq_of_mem_replicate hx]; rfl
      · simp; omega
      · have hmono : ∀ {u : V} {y : Value}, R0 w (OT G s E) u y → R0 (w.setRow b (ys.toList.take (o' + 0) ++ List.replicate len z ++ ys.toList.drop (o' + 0 + (List.replicate len z).length)).toArray) O1 u y := fun h => h.mono (by simp [World.setRow]) hO1 fun k hk _ => hoth k (by rintro rfl; exact hk (.inr ⟨id, _, _, _, hob, hE⟩))
        have hi : i < o' + len := by have := (List.getElem?_eq_some_iff.1 q1).1; simp at this; omega
        have hj : j = 0 := by
          have : j < x.length := (List.getElem?_eq_some_iff.1 q2).1
          have hx1 : x.length = 1 := by
            rcases List.mem_append.1 (List.mem_of_getElem? q1) with hx | hx
            · exact g1 x (List.mem_of_mem_take hx)
            · rw [List.eq_of_mem_replicate hx]; rfl
          omega
        subst hj
        simp only [Nat.mul_one, Nat.add_zero] at q3
        by_cases hio : i < o'
        · rw [List.getElem?_append_left (by simp; omega), List.getElem?_take, if_pos hio] at q1
          have q3' : ys[i]? = some y := by
            rw [List.getElem?_toArray, List.append_assoc, List.getElem?_append_left (by simp; omega), List.getElem?_take, if_pos (by omega)] at q3
            simpa using q3
          exact hmono (hr i x 0 u y q1 q2 (by simpa using q3'))
        · rw [List.getElem?_append_right (by simp; omega)] at q1
          have hx' : x = [.v z] := List.eq_of_mem_replicate (List.mem_of_getElem? q1)
          subst hx'
          simp at q2
          subst q2
          have q3' : y = z := by
            rw [List.getElem?_toArray, List.append_assoc, List.getElem?_append_right (by simp; omega), List.getElem?_append_left (by simp; omega)] at q3
            exact List.eq_of_mem_replicate (List.mem_of_getElem? q3)
          subst q3'
          exact .v _
theorem fin_stepO {P : Program} {G : Gh} (ow : Nat → Bool) {o : Oper} {s : St} {Q : Exit → St → Prop} {rest : St → Prop} (h : fin P G o s Q rest (lstep P ow G.lo s o.dst o.op)) : SemStep P G o s Q rest := by
  by_cases hnd : ∃ c, o.op = .defer c
  · obtain ⟨c, hc⟩ := hnd
    rw [hc, lstep_defer] at h
    exact h
  have hnd : ∀ c, o.op ≠ .defer c := fun c hc => hnd ⟨c, hc⟩
  cases hr : lstep P ow G.lo s o.dst o.op with
  | stuck => rw [hr] at h; exact h
  | call f as =>
    rw [hr] at h
    have hok := lstep_ok P { G with n := o.dst.getD 0 + 1 } ow s o (by rintro d hd; simp [hd])
    rw [hr] at hok
    obtain ⟨x, l, ts, h1, h2, h3⟩ := hok
    exact h x l ts h1 h2 h3
  | br C =>
    rw [hr] at h
    obtain ⟨hc, h⟩ := h
    have hok := lstep_ok P G ow s o (chk_spec hc)
    rw [hr] at hok
    intro a w hs
    exact wpIn_of_wp hnd (hok a w hs _ _ fun b hb a' w' hs' => ⟨_, h b hb, hs'⟩)
  | heap C k =>
    rw [hr] at h
    obtain ⟨hc, hC, h⟩ := h
    have hok := lstep_ok P G ow s o (chk_spec hc)
    rw [hr] at hok
    intro a w hs
    exact wpIn_of_wp hnd (hok hC a w hs _ _ fun a' w' hs' => ⟨_, h, hs'⟩)
  | go C k =>
    rw [hr] at h
    obtain ⟨hc, hC, h⟩ := h
    have hok := lstep_ok P G ow s o (chk_spec hc)
    rw [hr] at hok
    intro a w hs
    exact wpIn_of_wp hnd (hok hC a w hs _ _ fun a' w' hs' => ⟨_, h, hs'⟩)

theorem step_frzO {P : Program} {G : Gh} {o : Oper} {s : St} {Q : Exit → St → Prop} {rest : St → Prop} (p : Nat → Bool) (h : fin P G o (frz p G.lo s) Q rest (lstep P (fun _ => false) G.lo (frz p G.lo s) o.dst o.op)) : SemStep P G o s Q rest :=
  fun a w hs => fin_stepO (fun _ => false) h a w (frz_ent p a w hs)
theorem SimE.cut {G : Gh} {s : St} {a : Act} {w : World} {E : Env} (hs : SimE G s a w E) {id d k el sz : Nat} {l : List (List V)} (hob : s.hget id = some (.arr el sz l)) (hk : k ≤ l.length) (hu : s.used d = false) :
    ∃ E', SimE G (hsets s [(id, none), (d, some (.arr el sz (l.take k)))]) a w E' ∧ ∀ y, R w (OT G s E) E (.own id 0 k sz) y → R w (OT G (hsets s [(id, none), (d, some (.arr el sz (l.take k)))]) E') E' (.own d 0 k sz) y := by
  obtain ⟨b, K, C, hE, hHB⟩ := hs.hp id _ hob
  have hE0 : E d = none := by
    cases he : E d with
    | none => rfl
    | some r => have := hs.us d (by rw [he]; simp); rw [show s.us d = false from hu] at this; cases this
  have hne : id ≠ d := by rintro rfl; rw [hE0] at hE; cases hE
  let E' : Env := fun i => if i = d then some (b, k, C) else E i
  have hE'd : E' d = some (b, k, C) := if_pos rfl
  have hEE : ∀ i r, E i = some r → E' i = some r := fun i r hi => by
    show (if i = d then _ else E i) = _
    rw [if_neg (by rintro rfl; rw [hE0] at hi; cases hi)]; exact hi
  obtain ⟨hz, hs0, h48, hlK, hbb⟩ := hHB
  have hHB' : ∀ O', (∀ b, ¬ OT G s E b → b < w.heap.size → ¬ O' b) → HB w O' E' b k C (.arr el sz (l.take k)) := fun O' hO' => by
    refine ⟨fun x hx => hz x (List.mem_of_mem_take hx), hs0, by simp; omega, by simp; omega, ?_⟩
    cases b with
    | none => obtain ⟨q1, q2⟩ := hbb; exact ⟨by omega, q2⟩
    | some b =>
      obtain ⟨ys, q1, q2, q3, q4, q5⟩ := hbb
      exact ⟨ys, q1, q2, by omega, q4, fun i x j u y h1 h2 h3 => (q5 i x j u y (take_getElem? _ _ _ _ h1).1 h2 h3).mono (Nat.le_refl _) hO' fun _ _ _ => rfl⟩
  have hhp : ∀ i, (hsets s [(id, none), (d, some (.arr el sz (l.take k)))]).hp i = if d = i then some (.arr el sz (l.take k)) else if id = i then none else s.hp i := fun i => rfl
  have own : ∀ i o', (i = d ∨ i = id) → (hsets s [(id, none), (d, some (.arr el sz (l.take k)))]).hp i = some o' → i = d ∧ o' = .arr el sz (l.take k) := fun i o' hi ho' => by
    rw [hhp] at ho'
    split at ho'
    · rename_i e; cases ho'; exact ⟨e.symm, rfl⟩
    · rename_i e
      rcases hi with rfl | rfl
      · exact (e rfl).elim
      · rw [if_pos rfl] at ho'; cases ho'
  obtain ⟨h1, h2⟩ := hs.upd (s' := hsets s [(id, none), (d, some (.arr el sz (l.take k)))]) (w' := w) (E' := E') (fun i => i = d ∨ i = id) rfl (Nat.le_refl _) rfl rfl rfl (fun _ _ _ => rfl)
    (fun i hi => ⟨by rw [hhp, if_neg fun e => hi (.inl e.symm), if_neg fun e => hi (.inr e.symm)], if_neg fun e => hi (.inl e)⟩) hEE (fun i hi => by simp [hsets, St.hset, hi]) (fun i hi _ => by rcases hi with rfl | rfl <;> simp [hsets, St.hset])
    (fun i o' hi ho' => by obtain ⟨rfl, rfl⟩ := own i o' hi ho'; exact ⟨_, _, _, hE'd, fun hO => hHB' _ hO⟩)
    (fun i o' b' K' C' hi ho' he => by
      obtain ⟨rfl, rfl⟩ := own i o' hi ho'
      rw [hE'd] at he; cases he
      exact .inr ⟨id, _, K, _, .inr rfl, hob, hE⟩)
    (fun i i' o1 o2 b x x' hi hi' ho1 ho2 _ _ => by rw [(own i o1 hi ho1).1, (own i' o2 hi' ho2).1])
  refine ⟨E', h1, fun y hy => ?_⟩
  obtain ⟨b1, K1, C1, g1, g2, g3, hv⟩ := R.own_inv hy
  rw [hE] at g1
  cases g1
  refine .own d 0 k sz b k C _ hE'd ?_
  cases b with
  | none =>
    obtain ⟨q1, q2, hv⟩ := hv
    exact ⟨by simp, by omega, by omega, q2, hv⟩
  | some b =>
    obtain ⟨o', ho', hv⟩ := hv
    exact ⟨by simp, by omega, o', ho', hv⟩
theorem step_cut {P : Program} {G : Gh} {s : St} {o : Oper} {Q : Exit → St → Prop} {rest : St → Prop} (t id d k el sz : Nat) {l : List (List V)} (ht : s.get t = .own id 0 k sz) (hob : s.hget id = some (.arr el sz l)) (hk : k ≤ l.length) (hu : s.used d = false)
    (h : SemStep P G o ((hsets s [(id, none), (d, some (.arr el sz (l.take k)))]).set t (.own d 0 k sz)) Q rest) : SemStep P G o s Q rest := by
  rintro a w ⟨E, hs⟩
  obtain ⟨E', h1, h2⟩ := hs.cut hob hk hu
  refine h a w ⟨E', { h1 with fr := fun i => ?_ }⟩
  show R w (OT G (hsets s [(id, none), (d, some (.arr el sz (l.take k)))]) E') E' (if t = i then .own d 0 k sz else (hsets s [(id, none), (d, some (.arr el sz (l.take k)))]).fr i) _
  by_cases hi : t = i
  · subst hi
    rw [if_pos rfl]
    exact h2 _ (by have := hs.fr t; rw [show s.fr t = _ from ht] at this; exact this)
  · rw [if_neg hi]
    exact h1.fr i
end Pm
end Go.Proofs.YtphadkcpgnkpfaaGreatDoor
