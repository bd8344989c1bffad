import Derived.Test.YtagfopbijboajaaGreatDoorQY10
namespace Go.Proofs.YtagfopbijboajaaGreatDoor
open Go Go.RowKit
set_option linter.unusedSimpArgs false
set_option linter.unusedVariables false
namespace Pm
def rnd0 (fl : List (Nat × V)) (s : St) : St := ⟨lkV fl, s.hp, s.us⟩
theorem get_rnd0 (fl : List (Nat × V)) (s : St) (j : Nat) : (rnd0 fl s).get j = lkV fl j := rfl
theorem hget_rnd0 (fl : List (Nat × V)) (s : St) (j : Nat) : (rnd0 fl s).hget j = s.hget j := rfl
theorem used_rnd0 (fl : List (Nat × V)) (s : St) (j : Nat) : (rnd0 fl s).used j = s.used j := rfl
attribute [go_sem] get_rnd0 hget_rnd0 used_rnd0
def asgQ (P : Program) (G : Gh) (lam : Nat) (L : Loop) (body : Code) (Q : Exit → St → Prop) : Exit → St → Prop
  | .normal, s => s.hget lam = some (.obj (.loop (Lp L none))) ∧ SemC P G body (s.hset lam (some (.obj (.loop (Lb L))))) Q
  | _, _ => False
theorem asgQ_n (P : Program) (G : Gh) (lam : Nat) (L : Loop) (body : Code) (Q : Exit → St → Prop) (s : St) : asgQ P G lam L body Q .normal s = (s.hget lam = some (.obj (.loop (Lp L none))) ∧ SemC P G body (s.hset lam (some (.obj (.loop (Lb L))))) Q) := rfl
attribute [go_sem] asgQ_n
def YieldLawG (P : Program) (G1 : Gh) (l lam : Nat) (L : Loop) (fl : List (Nat × V)) (ps : List Nat) (asg body : Code) (n : Nat) (ow : Nat → Bool) : Prop :=
  ∀ (nm2 : List Nat) (s : St) (o : Oper) (Q : Exit → St → Prop) (rest : St → Prop) (as : List V), s.hget lam = some (.obj (.loop (Lp L none))) → as.length = ps.length → chk G1.n o.dst → (∀ id ∈ G1.nm, id ∈ nm2) →
    (∀ id ∈ nm2, id ∈ G1.nm ∨ (s.hget id).isSome = true) →
    (∀ G2 : Gh, G2.n = n → G2.ow = ow → G2.nm = nm2 → G2.lo = G1.lo → G2.rd = some l → vc P G2 asg (rnd0 (zipF ps as ++ fl) s) (asgQ P G2 lam L body (RQ nm2 s o.dst lam L rest))) →
    SemCall P G1 o s Q rest (.v (.func (.yield l) #[] #[])) as
theorem RangeFunc_yieldG {P : Program} {G1 : Gh} {l lam : Nat} {L : Loop} {fl : List (Nat × V)} {ps : List Nat} {asg body : Code} {n : Nat} {ow : Nat → Bool} (hrd : G1.rd = none)
    (hL : L.state = .ready ∧ L.pending = none ∧ L.params = ps.toArray ∧ L.assign = asg ∧ L.body = body ∧ L.tmps.size = n) (hps : ps.Nodup ∧ ∀ p ∈ ps, p < n)
    (hlam : lam ∈ G1.nm ∧ G1.E0 lam = some (some l, 0, 0)) {O1 : Nat → Prop} (hO1 : ∀ b, ¬ O1 b → ¬ G1.Of b ∧ ¬ G1.M b)
    (hfl : ∀ i, nmOK G1.nm 4 (lkV fl i) = true ∧ R G1.w0 O1 G1.E0 (lkV fl i) (L.tmps.getD i undef)) : YieldLawG P G1 l lam L fl ps asg body n ow := by
  intro nm2 s o Q rest as hs has hc hnm hnm2 h x ops ts ho hx hops
  subst hops
  rintro a w ⟨E, hE⟩
  obtain ⟨hl1, hl2⟩ := hlam
  have hLp : Lp L none = L := rfl
  rw [hLp] at hs
  obtain ⟨hEl, hheap, hlt⟩ := hE.name_lt (b := l) hs fun b' z hz => by
    obtain ⟨r, g1, g2⟩ := hE.base lam hl1
    rw [hl2] at g1; cases g1; rw [g2] at hz; cases hz; rfl
  have hyv := R.v_inv (ev_E hE hx.symm)
  have hlen : ops.length = L.params.size := by rw [hL.2.2.1]; simpa using has
  have hrun := run_yieldCall (P := P) ho hyv hheap hlen G1.F.round
  unfold Oper.wpIn
  refine ⟨fun f _ => G1.fn f, ?_⟩
  rw [hrun, Oper.uponIn_round]
  refine ⟨G1.depth, ?_⟩
  have hF : G1.F.inRound l = { Fence.wide with round := some l } := by unfold Gh.F Fence.inRound; rfl
  rw [hL.2.2.2.1, hL.2.2.2.2.1]
  -- the round's ghost
  have hlive_l : live s E l := ⟨lam, _, 0, 0, hs, hEl⟩
  have hnOf : ¬ G1.Of l := (hE.fresh lam _ l _ hs hEl).2.1
  have hMl : ∀ b, live s E b → G1.lo ≤ b := fun b hb => by
    obtain ⟨id, ob, K, C, g1, g2⟩ := hb
    exact hE.lo_le g1 g2
  have hlo1 : G1.lo ≤ w.heap.size := Nat.le_trans G1.hlo hE.grow
  let G2 : Gh := { w0 := w, Of := G1.Of, n := n, M := live s E, ow := ow, lo := G1.lo, hlo := hlo1, hM := hMl, hgl := hE.glob, nm := nm2, E0 := E, rd := some l, Zi := G1.Zi, hZi := G1.hZi }
  have hbase : ∀ id, id ∈ nm2 → ∃ r, E id = some r := fun id hid => by
    rcases hnm2 id hid with g | g
    · obtain ⟨r, _, g2⟩ := hE.base id g; exact ⟨r, g2⟩
    · obtain ⟨ob, hob⟩ := Option.isSome_iff_exists.1 g
      obtain ⟨b, K, C, g1, _⟩ := hE.hp id ob hob
      exact ⟨_, g1⟩
  -- the loop's frame, as it is now
  have hframe : ∀ i, R w (OT G1 s E) E (lkV fl i) (L.tmps.getD i undef) := fun i => by
    obtain ⟨g1, g2⟩ := hfl i
    refine g2.nms hE.grow (fun b hb hlt hot => ?_) (fun b hb hlt hc => hE.keep b hlt (hO1 b hb).2) (fun id hid r hr => ?_) 4 g1
    · obtain ⟨q1, q2⟩ := hO1 b hb
      rcases hot with hot | ⟨id, ob, K, C, k1, k2⟩
      · exact q1 hot
      · rcases (hE.fresh id ob b _ k1 k2).1 with k3 | k3
        · omega
        · exact q2 k3
    · obtain ⟨r', k1, k2⟩ := hE.base id hid
      rw [hr] at k1; cases k1; exact k2
  have hargsR : ∀ (j : Nat) (u : V) (y : Value), (ops.map (ev s))[j]? = some u → (ops.map a.eval)[j]? = some y → R w (OT G1 s E) E u y := fun j u y g1 g2 => by
    simp only [List.getElem?_map, Option.map_eq_some_iff] at g1 g2
    obtain ⟨z, h3, rfl⟩ := g1
    obtain ⟨z', h4, rfl⟩ := g2
    rw [h3] at h4; cases h4
    exact ev_R hE z
  obtain ⟨z1, z2⟩ := zip_fold L.tmps ps (ops.map a.eval) (by simpa using has) (fun p hp => by rw [hL.2.2.2.2.2]; exact hps.2 p hp)
  have z2 := z2 (ops.map (ev s)) (R w (OT G1 s E) E) (lkV fl) has hps.1 hargsR hframe fl (fun _ => rfl)
  have hfold : (L.params.zip (ops.map a.eval).toArray).foldl (fun tmps (x : Nat × Value) => tmps.setIfInBounds x.1 x.2) L.tmps = (ps.zip (ops.map a.eval)).foldl (fun tmps (x : Nat × Value) => tmps.setIfInBounds x.1 x.2) L.tmps := by
    rw [hL.2.2.1]; simp [List.zip_toArray]
  have hO2 : ∀ b, ¬ OT G1 s E b → ¬ OT G2 (rnd0 (zipF ps (ops.map (ev s)) ++ fl) s) E b := fun b hb hb' => hb hb'
  have hE2 : SimE G2 (rnd0 (zipF ps (ops.map (ev s)) ++ fl) s) { tmps := (L.params.zip (ops.map a.eval).toArray).foldl (fun tmps (x : Nat × Value) => tmps.setIfInBounds x.1 x.2) L.tmps, defers := [] } w E := by
    refine ⟨fun i => ?_, DefOK.nil, by rw [hfold, z1]; exact hL.2.2.2.2.2, hE.hp, hE.us, hE.inj, fun id ob b y k1 k2 => ?_, hE.old, Nat.le_refl _, rfl, rfl, rfl, fun _ _ _ => rfl, fun id hid => ?_, hE.zi⟩
    · rw [hfold]
      exact z2 i
    · obtain ⟨yK, yC⟩ := y
      obtain ⟨q1, q2, q3⟩ := hE.fresh id ob b _ k1 k2
      exact ⟨.inr ⟨id, ob, yK, yC, k1, k2⟩, q2, q3⟩
    · obtain ⟨r, hr⟩ := hbase id hid
      exact ⟨r, hr, hr⟩
  have hF2 : G2.F = G1.F.inRound l := by rw [hF]; rfl
  have hasg := vc_sound asg _ _ (h G2 rfl rfl rfl rfl rfl) _ _ ⟨E, hE2⟩
  rw [hF2] at hasg
  refine roundIn_of_wpIn (G1.fn _) (wpIn_mono hasg ?_)
  rintro e a1 w1 ⟨s1, hq1, E1, hE1⟩
  cases e with
  | goto => exact hq1.elim
  | panic => exact hq1.elim
  | outgrown => exact hq1.elim
  | ret => exact hq1.elim
  | exit => exact hq1.elim
  | normal =>
  obtain ⟨hl1', hbody'⟩ := hq1
  have hE1l : E1 lam = some (some l, 0, 0) := by
    obtain ⟨r, k1, k2⟩ := hE1.base lam (hnm lam hl1)
    have : E lam = some r := k1
    rw [hEl] at this; cases this; exact k2
  obtain ⟨_, hheap1, hlt1⟩ := hE1.name_lt (b := l) (id := lam) hl1' fun b' z hz => by rw [hE1l] at hz; cases hz; rfl
  rw [hLp] at hheap1 hl1'
  refine ⟨_, run_beginRound hheap1 hL.1, ?_⟩
  have hEb : SimE G2 (s1.hset lam (some (.obj (.loop (Lb L))))) a1 (w1.putObj l (.loop { L with state := .busy })) E1 :=
    hE1.write hl1' hE1l rfl rfl rfl World.putObj_size (fun k hk => World.putObj_heap_other hk) fun O1' _ => ⟨l, rfl, World.putObj_heap_same hlt1, rfl, rfl⟩
  have hbody := hbody' _ _ ⟨E1, hEb⟩
  rw [hF2] at hbody
  refine wpIn_mono hbody ?_
  rintro e a2 w3 ⟨s2, hq, E3, hE3⟩
  -- behind the round
  have hE3l : E3 lam = some (some l, 0, 0) := by
    obtain ⟨r, k1, k2⟩ := hE3.base lam (hnm lam hl1)
    have : E lam = some r := k1
    rw [hEl] at this; cases this; exact k2
  have hE3e : ∀ id, id ∈ nm2 → ∀ r, E id = some r → E3 id = some r := fun id hid r hr => by
    obtain ⟨r', k1, k2⟩ := hE3.base id hid
    have : E id = some r' := k1
    rw [hr] at this; cases this; exact k2
  have fin : ∀ (jump : Option Code) (L' : Loop), L' = { Lb L with state := if jump.isNone then .ready else .done, pending := jump } → s2.hget lam = some (.obj (.loop (Lb L))) → rest (bck nm2 s s2 o.dst jump.isNone lam L') →
      ∃ v w', (Instr.endRound l jump).run P w3 = .ok v w' ∧ ∃ s', rest s' ∧ Sim G1 s' (a.put o.dst v) w' := by
    intro jump L' hL' hlb hrest
    obtain ⟨_, hh3, hlt3⟩ := hE3.name_lt (b := l) (id := lam) hlb fun b' z hz => by rw [hE3l] at hz; cases hz; rfl
    refine ⟨_, _, run_endRound jump hh3, _, hrest, E3, ?_⟩
    have hw4 : ∀ k, k ≠ l → (w3.putObj l (.loop { Lb L with state := if jump.isNone then .ready else .done, pending := jump })).heap[k]? = w3.heap[k]? := fun k hk => World.putObj_heap_other hk
    have hsz4 : (w3.putObj l (.loop { Lb L with state := if jump.isNone then .ready else .done, pending := jump })).heap.size = w3.heap.size := World.putObj_size
    rw [← hL'] at hw4 hsz4 ⊢
    have hnl3 : ∀ b, isCells w3 b → b ≠ l := by rintro b ⟨cs, t, f, hb⟩ rfl; rw [hh3] at hb; cases hb
    have hgrow3 : w.heap.size ≤ w3.heap.size := by have := hE3.grow; rw [show G2.w0.heap.size = w.heap.size from rfl] at this; exact this
    -- live blocks behind the round
    have hlv : ∀ b, live (bck nm2 s s2 o.dst jump.isNone lam L') E3 b → live s2 E3 b := by
      rintro b ⟨id, ob, K, C, g1, g2⟩
      by_cases e : lam = id
      · subst e; exact ⟨lam, _, K, C, hlb, g2⟩
      · refine ⟨id, ob, K, C, ?_, g2⟩
        have : (bck nm2 s s2 o.dst jump.isNone lam L').hget id = some ob := g1
        rw [hget_bck, if_neg e] at this; exact this
    have hfr3 : ∀ b, live s2 E3 b → (w.heap.size ≤ b ∨ live s E b) ∧ ¬ G1.Of b ∧ b < w3.heap.size := by
      rintro b ⟨id, ob, K, C, g1, g2⟩
      obtain ⟨q1, q2, q3⟩ := hE3.fresh id ob b _ g1 g2
      rw [show G2.w0.heap.size = w.heap.size from rfl] at q1
      exact ⟨q1, q2, q3⟩
    have hO4 : ∀ b, ¬ OT G1 s E b → b < w.heap.size → ¬ OT G1 (bck nm2 s s2 o.dst jump.isNone lam L') E3 b := by
      rintro b hb hlt' (g | g)
      · exact hb (.inl g)
      · rcases (hfr3 b (hlv b g)).1 with g | g
        · omega
        · exact hb (.inr g)
    have hO5 : ∀ b, ¬ OT G2 s2 E3 b → ¬ OT G1 (bck nm2 s s2 o.dst jump.isNone lam L') E3 b := by
      rintro b hb (g | g)
      · exact hb (.inl g)
      · exact hb (.inr (hlv b g))
    have hkeep : ∀ b, b < w.heap.size → ¬ live s E b → (w3.putObj l (.loop L')).heap[b]? = w.heap[b]? := fun b hlt' hnl' => by
      have e1 : b ≠ l := fun e => hnl' (e ▸ hlive_l)
      rw [hw4 b e1]
      exact hE3.keep b hlt' hnl'
    refine ⟨fun i => ?_, ?_, ?_, fun id ob hob => ?_, fun id hid => ?_, fun id id' ob ob' b y y' k1 k2 k3 k4 => ?_, fun id ob b y k1 k2 => ?_, fun b hb => by rw [hsz4]; exact hE3.old b hb, ?_, ?_, ?_, ?_, fun b k1 k2 => ?_, fun id hid => ?_, ?_⟩
    · have hbase : ∀ i, R (w3.putObj l (.loop L')) (OT G1 (bck nm2 s s2 o.dst jump.isNone lam L') E3) E3 (keepV nm2 (s.fr i)) (a.tmps.getD i undef) := fun i => by
        refine (hE.fr i).keepV (by rw [hsz4]; exact hgrow3) hO4 (fun b hb hlt' hc => ?_) hE3e
        exact hkeep b hlt' fun h => hb (.inr h)
      cases hd : o.dst with
      | none => rw [hd] at hbase; exact hbase i
      | some d =>
        rw [hd] at hc
        rw [getD_put a d i _ (by rw [hE.size]; exact hc)]
        show R _ _ _ (if d = i then _ else _) _
        rw [hd] at hbase
        split
        · exact .r0 _ _ (.v _)
        · exact hbase i
    · have : (a.put o.dst (.bool jump.isNone)).defers = a.defers := by cases o.dst <;> rfl
      rw [this]
      refine hE.defers.mono rfl fun b hb hlt' _ => ⟨hkeep b hlt' hb, fun h => ?_⟩
      rcases (hfr3 b (hlv b h)).1 with g | g
      · omega
      · exact hb g
    · have : (a.put o.dst (.bool jump.isNone)).tmps.size = a.tmps.size := by cases o.dst <;> simp [Act.put]
      rw [this]; exact hE.size
    · have hob' : (bck nm2 s s2 o.dst jump.isNone lam L').hget id = some ob := hob
      rw [hget_bck] at hob'
      by_cases e : lam = id
      · subst e
        rw [if_pos rfl] at hob'
        cases hob'
        exact ⟨_, _, _, hE3l, l, rfl, World.putObj_heap_same hlt3, rfl, rfl⟩
      · rw [if_neg e] at hob'
        obtain ⟨b, K, C, k1, k2⟩ := hE3.hp id ob hob'
        refine ⟨b, K, C, k1, k2.monoC (by rw [hsz4]; exact Nat.le_refl _) (fun b hb _ => hO5 b hb) (fun b _ _ hc => hw4 b (hnl3 b hc)) (fun _ _ h => h) fun b' hb' => hw4 b' fun e' => ?_⟩
        subst hb'; subst e'
        exact e (hE3.inj lam id _ _ _ _ _ hlb hob' hE3l k1)
    · have : (bck nm2 s s2 o.dst jump.isNone lam L').used id = s2.used id := used_bck _ _ _ _ _ _ _ _
      exact this.trans (hE3.us id hid)
    · have g : ∀ id ob, (bck nm2 s s2 o.dst jump.isNone lam L').hp id = some ob → ∃ ob', s2.hp id = some ob' := fun id ob hob => by
        have hob' : (bck nm2 s s2 o.dst jump.isNone lam L').hget id = some ob := hob
        rw [hget_bck] at hob'
        by_cases e : lam = id
        · subst e; exact ⟨_, hlb⟩
        · rw [if_neg e] at hob'; exact ⟨ob, hob'⟩
      obtain ⟨_, g1⟩ := g id ob k1
      obtain ⟨_, g2⟩ := g id' ob' k2
      exact hE3.inj id id' _ _ b y y' g1 g2 k3 k4
    · obtain ⟨yK, yC⟩ := y
      obtain ⟨q1, q2, q3⟩ := hfr3 b (hlv b ⟨id, ob, yK, yC, k1, k2⟩)
      refine ⟨?_, q2, by rw [hsz4]; exact q3⟩
      rcases q1 with q1 | ⟨id', ob', K, C, g1, g2⟩
      · exact .inl (Nat.le_trans hE.grow q1)
      · exact (hE.fresh id' ob' b _ g1 g2).1
    · rw [hsz4]; exact Nat.le_trans hE.grow hgrow3
    · exact (hE3.os.trans rfl).trans hE.os
    · exact (hE3.tape.trans rfl).trans hE.tape
    · exact (hE3.output.trans rfl).trans hE.output
    · rw [hkeep b (Nat.lt_of_lt_of_le k1 hE.grow) fun hl => ?_]
      · exact hE.keep b k1 k2
      · obtain ⟨id, ob, K, C, g1, g2⟩ := hl
        rcases (hE.fresh id ob b _ g1 g2).1 with q | q
        · omega
        · exact k2 q
    · obtain ⟨r, g1, g2⟩ := hE.base id hid
      exact ⟨r, g1, hE3e id (hnm id hid) r g2⟩
    · refine G1.hZi w3 _ (by rw [hsz4]; exact Nat.le_refl _) (fun b hb => hw4 b fun e => hnOf (e ▸ hb)) hE3.zi
  cases e with
  | normal => exact fin none (Lp L none) (by obtain ⟨h1, h2, _⟩ := hL; cases L; simp_all [Lp, Lb]) hq.1 hq.2
  | ret => exact fin (some .ret) (Lp L (some .ret)) (by simp [Lp, Lb]) hq.1 hq.2
  | exit id => exact fin (some (.exit id)) (Lp L (some (.exit id))) (by simp [Lp, Lb]) hq.1 hq.2
  | goto => exact hq.elim
  | panic => exact hq.elim
  | outgrown => exact hq.elim

structure YJ (P : Program) (G : Gh) (l lam : Nat) (L : Loop) (fl : List (Nat × V)) (ps : List Nat) (asg body : Code) (n : Nat) : Prop where
  rd : G.rd = none
  hL : L.state = .ready ∧ L.pending = none ∧ L.params = ps.toArray ∧ L.assign = asg ∧ L.body = body ∧ L.tmps.size = n
  hps : ps.Nodup ∧ ∀ p ∈ ps, p < n
  lam : lam ∈ G.nm ∧ G.E0 lam = some (some l, 0, 0)
  fr : ∃ O1 : Nat → Prop, (∀ b, ¬ O1 b → ¬ G.Of b ∧ ¬ G.M b) ∧ ∀ i, nmOK G.nm 4 (lkV fl i) = true ∧ R G.w0 O1 G.E0 (lkV fl i) (L.tmps.getD i undef)
theorem YJ.law {P : Program} {G : Gh} {l lam : Nat} {L : Loop} {fl : List (Nat × V)} {ps : List Nat} {asg body : Code} {n : Nat} (h : YJ P G l lam L fl ps asg body n) (ow : Nat → Bool) : YieldLawG P G l lam L fl ps asg body n ow := by
  obtain ⟨O1, h1, h2⟩ := h.fr
  exact RangeFunc_yieldG h.rd h.hL h.hps h.lam h1 h2
theorem semC_rangeFuncJ {P : Program} {G : Gh} {g : Operand} {ps : List Nat} {asg body : Code} {fl : List (Nat × V)} {hl : List (Nat × OB)} {Q : Exit → St → Prop} (nm : List Nat) (lam : Nat) {k : FuncId} {cap : List V} {fn : Func} {ck : Code} {m : Nat} (ow : Nat → Bool)
    (hrd : G.rd = none) (hg : ev (St.of fl hl) g = .fn (.func k) cap) (hf : P.funcs[k]? = some fn) (hm : fn.ntmps = m) (hb : fn.body = some ck) (hname : (fn.name == "runtime.NumGoroutine") = false) (hres : fn.results = #[]) (hn : cap.length + 1 ≤ m)
    (hps : ps.Nodup ∧ ∀ p ∈ ps, p < G.n) (hnm : nm.all (usH hl) = true) (hGn : ∀ id ∈ G.nm, id ∈ nm) (hfl : fl.all (fun p => nmOK nm 4 p.2) = true) (hlam : usH hl lam = false)
    (h : ∀ (G1 : Gh) (l : Nat) (L : Loop), G1.n = m → G1.ow = ow → G1.nm = lam :: nm → G1.lo = G.lo → G1.rd = none → YJ P G1 l lam L fl ps asg body G.n →
      vc P G1 ck (St.of (enumV 0 (.v (.func (.yield l) #[] #[]) :: cap)) ((lam, .obj (.loop (Lp L none))) :: hl)) (RangeEnd fl lam L Q)) :
    SemC P G (.rangeFunc g ps.toArray asg body) (St.of fl hl) Q := by
  subst hm
  rintro a w ⟨E, hE⟩
  have hF : G.F = Fence.wide := by unfold Gh.F; rw [hrd]; rfl
  rw [hF]
  refine wpIn_rangeFunc fun fid _ => ?_
  obtain ⟨ys, hy, hsz, hrr⟩ := R.fn_inv (ev_E hE hg)
  let L : Loop := { state := .ready, pending := none, fn := fid, tmps := a.tmps, params := ps.toArray, assign := asg, body := body, defers := w.heap.size }
  let w1 : World := (w.alloc (.deferred (some []))).alloc (.loop L)
  have hb' : fn.body ≠ none := by rw [hb]; simp
  have hname' : fn.name ≠ "runtime.NumGoroutine" := by simpa using hname
  refine ⟨w.heap.size + 1, [mark w.heap.size], w1, { target := .fn (.func k) ys, args := #[.func (.yield (w.heap.size + 1)) #[] #[]] }, w1, k, #[.func (.yield (w.heap.size + 1)) #[] #[]] ++ ys, w1, run_enterLoop_outer fid a.tmps ps.toArray asg body, ?_, fun _ _ => trivial, ?_, (fun h => by cases h), ?_⟩
  · simp [resolve, rangeCall, Deferred.ofValue, hy]
    rfl
  · simp [invoke, callFunc, hf, hb', hname']
  -- the world with the record
  have s1 : w1.heap.size = w.heap.size + 2 := by simp [w1]
  have hl1 : w1.heap[w.heap.size + 1]? = some (.loop L) := by
    have := World.alloc_heap_new (w.alloc (.deferred (some []))) (.loop L)
    simpa [w1] using this
  have hd1 : w1.heap[w.heap.size]? = some (.deferred (some [])) := by
    have e : w1.heap[w.heap.size]? = (w.alloc (.deferred (some []))).heap[w.heap.size]? := heap_old _ _ _ (by simp)
    rw [e]; exact World.alloc_heap_new _ _
  have hold : ∀ b, b < w.heap.size → w1.heap[b]? = w.heap[b]? := fun b hb => (heap_old _ _ b (by simp; omega)).trans (heap_old _ _ b hb)
  have hElam : E lam = none := by
    cases he : E lam with
    | none => rfl
    | some r => have := hE.us lam (by rw [he]; simp); rw [show (St.of fl hl).us lam = usH hl lam from rfl, hlam] at this; cases this
  let E1 : Env := fun id => if id = lam then some (some (w.heap.size + 1), 0, 0) else E id
  have hE1l : E1 lam = some (some (w.heap.size + 1), 0, 0) := if_pos rfl
  have hE1e : ∀ id r, E id = some r → E1 id = some r := fun id r hi => by
    show (if id = lam then _ else E id) = _
    rw [if_neg (by rintro rfl; rw [hElam] at hi; cases hi)]
    exact hi
  have hE1b : ∀ id r, id ≠ lam → E1 id = some r → E id = some r := fun id r hne hi => by
    have : (if id = lam then some (some (w.heap.size + 1), 0, 0) else E id) = some r := hi
    rw [if_neg hne] at this; exact this
  have hliveLo : ∀ b, live (St.of fl hl) E b ∨ b = w.heap.size + 1 → G.lo ≤ b := by
    rintro b (⟨id, ob, K, C, g1, g2⟩ | rfl)
    · exact hE.lo_le g1 g2
    · have := hE.grow; have := G.hlo; omega
  have hlo1 : G.lo ≤ w1.heap.size := by have := hE.grow; have := G.hlo; omega
  have hglb : GlobOK w1 (fun b => G.Of b ∨ live (St.of fl hl) E b ∨ b = w.heap.size + 1) := hE.glob.monoC (by omega) (fun b hb hlt hb' => by
    rcases hb' with g | g | g
    · exact hb (.inl g)
    · exact hb (.inr g)
    · omega) (fun b _ hlt _ => hold b hlt)
  let G1 : Gh := { w0 := w1, Of := G.Of, n := fn.ntmps, M := fun b => live (St.of fl hl) E b ∨ b = w.heap.size + 1, ow := ow, lo := G.lo, hlo := hlo1, hM := hliveLo, hgl := hglb, nm := lam :: nm, E0 := E1, rd := none, Zi := G.Zi, hZi := G.hZi }
  let s1' : St := St.of (enumV 0 (.v (.func (.yield (w.heap.size + 1)) #[] #[]) :: cap)) ((lam, .obj (.loop (Lp L none))) :: hl)
  have hhp : ∀ id ob, s1'.hp id = some ob → (id = lam ∧ ob = .obj (.loop L)) ∨ (id ≠ lam ∧ lkH hl id = some ob) := fun id ob hob => by
    have hob' : (if lam = id then some (OB.obj (.loop (Lp L none))) else lkH hl id) = some ob := hob
    by_cases e : lam = id
    · rw [if_pos e] at hob'; cases hob'; exact .inl ⟨e.symm, rfl⟩
    · rw [if_neg e] at hob'; exact .inr ⟨Ne.symm e, hob'⟩
  have hlv1 : ∀ b, live s1' E1 b → live (St.of fl hl) E b ∨ b = w.heap.size + 1 := by
    rintro b ⟨id, ob, K, C, g1, g2⟩
    rcases hhp id ob g1 with ⟨rfl, rfl⟩ | ⟨hne, h2⟩
    · rw [hE1l] at g2; cases g2; exact .inr rfl
    · exact .inl ⟨id, ob, K, C, h2, hE1b id _ hne g2⟩
  have hO1 : ∀ b, ¬ OT G (St.of fl hl) E b → b < w.heap.size → ¬ OT G1 s1' E1 b := by
    rintro b hb hlt (g | g)
    · exact hb (.inl g)
    · rcases hlv1 b g with g | g
      · exact hb (.inr g)
      · omega
  have hltOf : ∀ b, G.Of b → b < w.heap.size := hE.old
  have hnmhl : ∀ id ∈ nm, ∃ ob, lkH hl id = some ob := fun id hid => usH_lk.1 (List.all_eq_true.1 hnm id hid)
  have hsza : (#[Value.func (.yield (w.heap.size + 1)) #[] #[]] ++ ys).size = cap.length + 1 := by simp [hsz]; omega
  have hE1s : SimE G1 s1' { tmps := #[Value.func (.yield (w.heap.size + 1)) #[] #[]] ++ ys ++ Array.replicate (fn.ntmps - (#[Value.func (.yield (w.heap.size + 1)) #[] #[]] ++ ys).size) undef, defers := [] } w1 E1 := by
    refine ⟨fun i => ?_, DefOK.nil, by rw [Array.size_append, Array.size_replicate, hsza]; show _ = fn.ntmps; omega, fun id ob hob => ?_, fun id hid => ?_, fun id id' ob ob' b y y' k1 k2 k3 k4 => ?_, fun id ob b y k1 k2 => ?_, fun b hb => by rw [s1]; have := hltOf b hb; omega, Nat.le_refl _, rfl, rfl, rfl, fun _ _ _ => rfl, fun id hid => ?_, ?_⟩
    · show R _ _ _ (lkV (enumV 0 (.v (.func (.yield (w.heap.size + 1)) #[] #[]) :: cap)) i) _
      rw [lkV_enum, args_pad]
      simp only [Nat.zero_le, if_true, Nat.sub_zero]
      cases i with
      | zero =>
        have e0 : (#[Value.func (.yield (w.heap.size + 1)) #[] #[]] ++ ys).getD 0 undef = .func (.yield (w.heap.size + 1)) #[] #[] := by
          rw [Array.getD_eq_getD_getElem?, Array.getElem?_append_left (by simp)]; rfl
        rw [e0]
        exact .r0 _ _ (.v _)
      | succ i =>
        simp only [List.getElem?_cons_succ]
        cases hc : cap[i]? with
        | none => exact .r0 _ _ (.any _)
        | some u =>
          have hlt : i < ys.size := by rw [hsz]; exact (List.getElem?_eq_some_iff.1 hc).1
          have hy' : (#[Value.func (.yield (w.heap.size + 1)) #[] #[]] ++ ys).getD (i + 1) undef = ys[i] := by
            rw [Array.getD_eq_getD_getElem?, Array.getElem?_append_right (by simp)]
            simp [hlt]
          rw [hy']
          exact (hrr i u ys[i] hc (by simp [hlt])).mono (by rw [s1]; omega) hO1 (fun b _ hb => hold b hb) hE1e
    · rcases hhp id ob hob with ⟨rfl, rfl⟩ | ⟨hne, h2⟩
      · exact ⟨_, _, _, hE1l, w.heap.size + 1, rfl, hl1, rfl, rfl⟩
      · obtain ⟨b, K, C, g1, g2⟩ := hE.hp id ob h2
        refine ⟨b, K, C, hE1e _ _ g1, g2.mono (by rw [s1]; omega) hO1 (fun b _ hb => hold b hb) hE1e fun b' hb' => hold b' ?_⟩
        subst hb'
        exact (hE.fresh id ob b' _ h2 g1).2.2
    · show ((lam == id) || usH hl id) = true
      by_cases e : id = lam
      · simp [e]
      · obtain ⟨r, hr⟩ := Option.ne_none_iff_exists'.1 hid
        have := hE.us id (by rw [hE1b id r e hr]; simp)
        rw [show (St.of fl hl).us id = usH hl id from rfl] at this
        simp [this]
    · obtain ⟨yK, yC⟩ := y
      obtain ⟨yK', yC'⟩ := y'
      rcases hhp id ob k1 with ⟨rfl, rfl⟩ | ⟨hne, h2⟩ <;> rcases hhp id' ob' k2 with ⟨rfl, rfl⟩ | ⟨hne', h2'⟩
      · rfl
      · rw [hE1l] at k3; cases k3
        have := (hE.fresh id' ob' _ _ h2' (hE1b _ _ hne' k4)).2.2; omega
      · rw [hE1l] at k4; cases k4
        have := (hE.fresh id ob _ _ h2 (hE1b _ _ hne k3)).2.2; omega
      · exact hE.inj id id' ob ob' b _ _ h2 h2' (hE1b _ _ hne k3) (hE1b _ _ hne' k4)
    · rcases hhp id ob k1 with ⟨rfl, rfl⟩ | ⟨hne, h2⟩
      · rw [hE1l] at k2; cases k2
        exact ⟨.inr (.inr rfl), fun hof => by have := hltOf _ hof; omega, by rw [s1]; omega⟩
      · obtain ⟨q1, q2, q3⟩ := hE.fresh id ob b y h2 (hE1b _ _ hne k2)
        obtain ⟨yK, yC⟩ := y
        exact ⟨.inr (.inl ⟨id, ob, yK, yC, h2, hE1b _ _ hne k2⟩), q2, by rw [s1]; omega⟩
    · rcases List.mem_cons.1 hid with rfl | hid
      · exact ⟨_, hE1l, hE1l⟩
      · obtain ⟨ob, hob⟩ := hnmhl id hid
        obtain ⟨b, K, C, g1, _⟩ := hE.hp id ob hob
        exact ⟨_, hE1e _ _ g1, hE1e _ _ g1⟩
    · exact G.hZi w w1 (by rw [s1]; omega) (fun b hb => hold b (hltOf b hb)) hE.zi
  have hY : YJ P G1 (w.heap.size + 1) lam L fl ps asg body G.n := by
    refine ⟨rfl, ⟨rfl, rfl, rfl, rfl, rfl, hE.size⟩, hps, ⟨by simp [G1], hE1l⟩, fun b => OT G (St.of fl hl) E b ∨ w.heap.size ≤ b, fun b hb => ⟨fun g => hb (.inl (.inl g)), ?_⟩, fun i => ⟨nmOK_mono (fun id h => List.mem_cons_of_mem _ h) 4 (nmOK_lk hfl i), ?_⟩⟩
    · rintro (g | g)
      · exact hb (.inl (.inr g))
      · exact hb (.inr (by omega))
    · exact (hE.fr i).mono (by show _ ≤ w1.heap.size; rw [s1]; omega) (fun b hb hlt h => by rcases h with h | h; exact hb h; omega) (fun b _ hb => hold b hb) hE1e
  have hF1 : G1.F = Fence.wide := rfl
  have hwalk := vc_sound ck _ _ (h G1 (w.heap.size + 1) L rfl rfl rfl rfl rfl hY) _ w1 ⟨E1, hE1s⟩
  rw [hF1] at hwalk
  refine callsIn_of_wp_marks (F := Fence.wide) (n := 0) hf hb trivial (wpIn_mono hwalk ?_)
  rintro e a2 w2 ⟨s2, hq, E2, hE2⟩
  -- behind the function
  have fin : RangeEnd fl lam L Q .ret s2 → LeavesInM Fence.wide 0 P fn a2.tmps (rangePost Fence.wide 0 P (w.heap.size + 1) (lift G Q) { tmps := a.tmps, defers := [mark w.heap.size] ++ a.defers }) a2.defers .returning w2 := by
    rintro ⟨st, hst, hQ⟩
    refine fin_leave (by simp) hE2 (fun b hb => by have := hltOf b hb; show b < w1.heap.size; rw [s1]; omega) fun w3 hE3 => ?_
    refine ⟨.tuple #[], by simp [results, hres], ?_⟩
    have hE2l : E2 lam = some (some (w.heap.size + 1), 0, 0) := by
      obtain ⟨r, k1, k2⟩ := hE3.base lam (by simp [G1])
      have : E1 lam = some r := k1
      rw [hE1l] at this; cases this; exact k2
    obtain ⟨_, hh3, hlt3⟩ := hE3.name_lt (b := w.heap.size + 1) (id := lam) hst fun b' z hz => by rw [hE2l] at hz; cases hz; rfl
    have hstate : (Lp L st).state ≠ .busy := by cases st <;> simp [Lp, L]
    have hend : ∃ w4, w4 = w3.putObj (w.heap.size + 1) (.loop { Lp L st with state := .exhausted }) := ⟨_, rfl⟩
    obtain ⟨w4, hw4⟩ := hend
    have hw4 := hw4.symm
    refine ⟨(Lp L st).pending, w4, hw4 ▸ run_endLoop hh3 hstate, ?_⟩
    have hpend : (Lp L st).pending = st := by cases st <;> simp [Lp, L]
    rw [hpend]
    have h4 : ∀ k, k ≠ w.heap.size + 1 → w4.heap[k]? = w3.heap[k]? := fun k hk => by rw [← hw4]; exact World.putObj_heap_other hk
    have sz4 : w4.heap.size = w3.heap.size := by rw [← hw4]; exact World.putObj_size
    have hg3 : w.heap.size + 2 ≤ w3.heap.size := by have := hE3.grow; rw [show G1.w0.heap.size = w.heap.size + 2 from s1] at this; exact this
    have hfr3 : ∀ b, live s2 E2 b → (w.heap.size + 2 ≤ b ∨ live (St.of fl hl) E b ∨ b = w.heap.size + 1) ∧ ¬ G.Of b ∧ b < w3.heap.size := by
      rintro b ⟨id, ob, K, C, g1, g2⟩
      obtain ⟨q1, q2, q3⟩ := hE3.fresh id ob b _ g1 g2
      rw [show G1.w0.heap.size = w.heap.size + 2 from s1] at q1
      exact ⟨q1, q2, q3⟩
    have hlvA : ∀ b, live (aft fl s2 lam) E2 b → live s2 E2 b ∧ b ≠ w.heap.size + 1 := by
      rintro b ⟨id, ob, K, C, g1, g2⟩
      have g1' : (if lam = id then none else s2.hp id) = some ob := g1
      by_cases e : lam = id
      · rw [if_pos e] at g1'; cases g1'
      · rw [if_neg e] at g1'
        refine ⟨⟨id, ob, K, C, g1', g2⟩, ?_⟩
        rintro rfl
        exact e (hE3.inj lam id _ _ _ _ _ hst g1' hE2l g2)
    have hkeep : ∀ b, b < w.heap.size → ¬ live (St.of fl hl) E b → w4.heap[b]? = w.heap[b]? := fun b hlt hnl => by
      rw [h4 b (by omega), hE3.keep b (by show b < w1.heap.size; rw [s1]; omega) (by rintro (g | g); exact hnl g; omega)]
      exact hold b hlt
    have hOA : ∀ b, ¬ OT G (St.of fl hl) E b → b < w.heap.size → ¬ OT G (aft fl s2 lam) E2 b := by
      rintro b hb hlt (g | g)
      · exact hb (.inl g)
      · rcases (hfr3 b (hlvA b g).1).1 with g | g | g
        · omega
        · exact hb (.inr g)
        · omega
    have hOB : ∀ b, ¬ OT G1 s2 E2 b → ¬ OT G (aft fl s2 lam) E2 b := by
      rintro b hb (g | g)
      · exact hb (.inl g)
      · exact hb (.inr (hlvA b g).1)
    have hnl3 : ∀ b, isCells w3 b → b ≠ w.heap.size + 1 := by rintro b ⟨cs, t, f, hb⟩ rfl; rw [hh3] at hb; cases hb
    have hbase : ∀ id, id ∈ nm → ∀ r, E id = some r → E2 id = some r := fun id hid r hr => by
      obtain ⟨r', k1, k2⟩ := hE3.base id (by simp [G1, hid])
      have : E1 id = some r' := k1
      rw [hE1e _ _ hr] at this; cases this; exact k2
    have hA : SimE G (aft fl s2 lam) { tmps := a.tmps, defers := [mark w.heap.size] ++ a.defers } w4 E2 := by
      refine ⟨fun i => ?_, ?_, hE.size, fun id ob hob => ?_, hE3.us, fun id id' ob ob' b y y' k1 k2 k3 k4 => ?_, fun id ob b y k1 k2 => ?_, fun b hb => by have := hltOf b hb; rw [sz4]; omega, by have := hE.grow; rw [sz4]; omega, ?_, ?_, ?_, fun b k1 k2 => ?_, fun id hid => ?_, ?_⟩
      · exact (hE.fr i).nms (by rw [sz4]; omega) hOA (fun b hb hlt _ => hkeep b hlt fun g => hb (.inr g)) hbase 4 (nmOK_lk hfl i)
      · obtain ⟨rs, e1, e2, e3⟩ := hE.defers
        refine ⟨w.heap.size :: rs, by rw [e1]; rfl, List.nodup_cons.2 ⟨fun hm => ?_, e2⟩, fun r hr => ?_⟩
        · have := (e3 _ hm).1
          rw [show w.heap[w.heap.size]? = none by simp] at this; cases this
        · have hnlr : ¬ live (aft fl s2 lam) E2 r := by
            intro g
            rcases (hfr3 r (hlvA r g).1).1 with g' | g' | g'
            · rcases List.mem_cons.1 hr with rfl | hr
              · omega
              · have := (e3 r hr).1
                have : r < w.heap.size := (Array.getElem?_eq_some_iff.1 this).1
                omega
            · rcases List.mem_cons.1 hr with rfl | hr
              · obtain ⟨id, ob, K, C, q1, q2⟩ := g'
                have := (hE.fresh id ob _ _ q1 q2).2.2; omega
              · exact (e3 r hr).2.2 g'
            · rcases List.mem_cons.1 hr with rfl | hr
              · omega
              · have := (Array.getElem?_eq_some_iff.1 (e3 r hr).1).1; omega
          rcases List.mem_cons.1 hr with rfl | hr
          · refine ⟨?_, hE.grow, hnlr⟩
            rw [h4 _ (by omega), hE3.keep _ (by show _ < w1.heap.size; rw [s1]; omega) (by
              rintro (g | g)
              · obtain ⟨id, ob, K, C, q1, q2⟩ := g
                have := (hE.fresh id ob _ _ q1 q2).2.2; omega
              · omega)]
            exact hd1
          · obtain ⟨q1, q2, q3⟩ := e3 r hr
            have hlt : r < w.heap.size := (Array.getElem?_eq_some_iff.1 q1).1
            exact ⟨(hkeep r hlt q3).trans q1, q2, hnlr⟩
      · have hob' : (if lam = id then none else s2.hp id) = some ob := hob
        by_cases e : lam = id
        · rw [if_pos e] at hob'; cases hob'
        · rw [if_neg e] at hob'
          obtain ⟨b, K, C, k1, k2⟩ := hE3.hp id ob hob'
          refine ⟨b, K, C, k1, k2.monoC (by rw [sz4]; exact Nat.le_refl _) (fun b hb _ => hOB b hb) (fun b _ _ hc => h4 b (hnl3 b hc)) (fun _ _ h => h) fun b' hb' => h4 b' fun e' => ?_⟩
          subst hb'; subst e'
          exact e (hE3.inj lam id _ _ _ _ _ hst hob' hE2l k1)
      · have g : ∀ id ob, (aft fl s2 lam).hp id = some ob → s2.hp id = some ob := fun id ob hob => by
          have hob' : (if lam = id then none else s2.hp id) = some ob := hob
          by_cases e : lam = id
          · rw [if_pos e] at hob'; cases hob'
          · rw [if_neg e] at hob'; exact hob'
        exact hE3.inj id id' _ _ b y y' (g _ _ k1) (g _ _ k2) k3 k4
      · obtain ⟨yK, yC⟩ := y
        obtain ⟨q0, q0'⟩ := hlvA b ⟨id, ob, yK, yC, k1, k2⟩
        obtain ⟨q1, q2, q3⟩ := hfr3 b q0
        refine ⟨?_, q2, by rw [sz4]; exact q3⟩
        rcases q1 with q1 | ⟨id', ob', K, C, g1, g2⟩ | q1
        · exact .inl (by have := hE.grow; omega)
        · exact (hE.fresh id' ob' b _ g1 g2).1
        · exact (q0' q1).elim
      · rw [← hw4]; exact hE3.os.trans hE.os
      · rw [← hw4]; exact hE3.tape.trans hE.tape
      · rw [← hw4]; exact hE3.output.trans hE.output
      · rw [hkeep b (Nat.lt_of_lt_of_le k1 hE.grow) fun g => ?_]
        · exact hE.keep b k1 k2
        · obtain ⟨id, ob, K, C, g1, g2⟩ := g
          rcases (hE.fresh id ob b _ g1 g2).1 with q | q
          · omega
          · exact k2 q
      · obtain ⟨r, g1, g2⟩ := hE.base id hid
        exact ⟨r, g1, hbase id (hGn id hid) r g2⟩
      · exact G.hZi w3 w4 (by rw [sz4]; exact Nat.le_refl _) (fun b hb => h4 b fun e => by have := hltOf b hb; omega) hE3.zi
    cases st with
    | none => exact ⟨_, hQ, E2, hA⟩
    | some c =>
      cases c with
      | ret => exact wpIn_ret ⟨_, hQ, E2, hA⟩
      | exit id => exact wpIn_exit ⟨_, hQ, E2, hA⟩
      | _ => exact hQ.elim
  cases e with
  | normal => exact fin hq
  | ret => exact fin hq
  | exit => exact hq.elim
  | goto => exact hq.elim
  | panic => exact hq.elim
  | outgrown => exact hq.elim
end Pm
end Go.Proofs.YtagfopbijboajaaGreatDoor
