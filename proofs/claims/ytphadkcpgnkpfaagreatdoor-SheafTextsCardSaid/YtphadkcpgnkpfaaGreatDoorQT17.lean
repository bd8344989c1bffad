import Derived.Test.YtphadkcpgnkpfaaGreatDoorQT10
namespace Go.Proofs.YtphadkcpgnkpfaaGreatDoor
open Go Go.RowKit
set_option linter.unusedVariables false
namespace Pm
set_option linter.unusedSimpArgs false

def flat : Code → List Code
  | .seq a b => flat a ++ flat b
  | c => [c]
def wpL (F : Fence) (P : Program) (Q : Exit → Act → World → Prop) : List Code → Act → World → Prop
  | [] => Q .normal
  | c :: r => c.wpIn F 0 P (Exit.then (wpL F P Q r) Q)
theorem flat_wp {F : Fence} {P : Program} {Q : Exit → Act → World → Prop} (c : Code) : ∀ (r : List Code) {a : Act} {w : World}, wpL F P Q (flat c ++ r) a w → c.wpIn F 0 P (Exit.then (wpL F P Q r) Q) a w := by
  have one : ∀ (c : Code) (r : List Code) (a : Act) (w : World), wpL F P Q ([c] ++ r) a w → c.wpIn F 0 P (Exit.then (wpL F P Q r) Q) a w := fun c r a w h => h
  induction c with
  | seq x y ihx ihy =>
    intro r a w h
    simp only [flat, List.append_assoc] at h
    refine wpIn_seq (wpIn_mono (ihx _ h) fun e a w h => ?_)
    cases e with
    | normal => exact ihy r h
    | _ => exact h
  | _ => intro r a w h; exact one _ r a w h
def SemL (P : Program) (G : Gh) (l : List Code) (s : St) (Q : Exit → St → Prop) : Prop := ∀ a w, Sim G s a w → wpL G.F P (lift G Q) l a w
theorem SemL.semC {P : Program} {G : Gh} {c : Code} {s : St} {Q : Exit → St → Prop} (h : SemL P G (flat c) s Q) : SemC P G c s Q := fun a w hs => by
  have := flat_wp c [] (by simpa using h a w hs)
  refine wpIn_mono this fun e a w h => ?_
  cases e <;> exact h
def vcN (P : Program) (G : Gh) (Q : Exit → St → Prop) : Nat → List Code → St → Prop
  | 0, l, s => SemL P G l s Q
  | _ + 1, [], s => Q .normal s
  | n + 1, c :: r, s => vc P G c s (kseq (fun s _ => vcN P G Q n r s) Q)
theorem vcN_sound {P : Program} {G : Gh} {Q : Exit → St → Prop} : ∀ (n : Nat) (l : List Code) (s : St), vcN P G Q n l s → SemL P G l s Q := by
  intro n
  induction n with
  | zero => intro l s h; exact h
  | succ n ih =>
    intro l s h
    cases l with
    | nil => intro a w hs; exact ⟨s, h, hs⟩
    | cons c r =>
      intro a w hs
      refine wpIn_mono (vc_sound c _ _ h a w hs) fun e a w h => ?_
      obtain ⟨s', h1, h2⟩ := h
      cases e with
      | normal => exact ih r s' h1 a w h2
      | _ => exact ⟨s', h1, h2⟩
def XOK (G : Gh) (N : Nat) (Fx : V → Value → Prop) : Prop := ∀ s a w E, SimE G s a w E → N ≤ w.heap.size ∧
  ∃ O' : Nat → Prop, (∀ b, O' b → OT G s E b) ∧ (∀ b, N ≤ b → OT G s E b → O' b) ∧ ∀ x y, Fx x y → R0 w O' x y
theorem XOK.of {G : Gh} {w1 : World} {O1 : Nat → Prop} {Fx : V → Value → Prop} (hF : ∀ x y, Fx x y → R0 w1 O1 x y)
    (h : ∀ w, G.Zi w → w1.heap.size ≤ w.heap.size ∧ ∀ b, b < w1.heap.size → ¬ O1 b → w.heap[b]? = w1.heap[b]?) : XOK G w1.heap.size Fx := by
  intro s a w E hE
  obtain ⟨h1, h2⟩ := h w hE.zi
  refine ⟨h1, fun b => OT G s E b ∧ ¬ (b < w1.heap.size ∧ ¬ O1 b), fun b hb => hb.1, fun b hN hb => ⟨hb, fun g => by omega⟩, fun x y hxy => ?_⟩
  exact (hF x y hxy).mono h1 (fun b hb hlt g => g.2 ⟨hlt, hb⟩) fun b hb hlt => h2 b hlt hb
inductive AX (Fx : V → Value → Prop) : V → V → Prop
  | pure (u u' : V) (hp : pureV u = true) (hs : Sub u u') : AX Fx u u'
  | ex (y : Value) (u' : V) (h : Fx u' y) : AX Fx (.v y) u'
  | agg2 (c d c' d' : V) (h1 : AX Fx c c') (h2 : AX Fx d d') : AX Fx (.agg [c, d]) (.agg [c', d'])
  | agg4 (a b c d a' b' c' d' : V) (h1 : AX Fx a a') (h2 : AX Fx b b') (h3 : AX Fx c c') (h4 : AX Fx d d') : AX Fx (.agg [a, b, c, d]) (.agg [a', b', c', d'])
theorem AX.spec {Fx : V → Value → Prop} {w : World} {O O' : Nat → Prop} {E : Env} (hF : ∀ x y, Fx x y → R0 w O' x y) (hO : ∀ b, O' b → O b) {u u' : V} (h : AX Fx u u') : ∀ {y : Value}, R w O E u y → R0 w O' u' y := by
  induction h with
  | pure u u' hp hs => intro y hy; exact hs _ _ _ ((hy.pureV hp).mono (Nat.le_refl _) (fun b hb _ hb' => hb (hO b hb')) fun _ _ _ => rfl)
  | ex y u' h => intro y' hy; rw [R.v_inv hy]; exact hF _ _ h
  | agg2 c d c' d' h1 h2 i1 i2 =>
    intro y hy
    obtain ⟨ys, rfl, hn, hr⟩ := R.agg_inv hy
    refine .agg _ _ hn fun j u y hj hy => ?_
    match j with
    | 0 => simp at hj; subst hj; exact i1 (hr 0 c y rfl hy)
    | 1 => simp at hj; subst hj; exact i2 (hr 1 d y rfl hy)
    | j + 2 => simp at hj
  | agg4 a b c d a' b' c' d' h1 h2 h3 h4 i1 i2 i3 i4 =>
    intro y hy
    obtain ⟨ys, rfl, hn, hr⟩ := R.agg_inv hy
    refine .agg _ _ hn fun j u y hj hy => ?_
    match j with
    | 0 => simp at hj; subst hj; exact i1 (hr 0 a y rfl hy)
    | 1 => simp at hj; subst hj; exact i2 (hr 1 b y rfl hy)
    | 2 => simp at hj; subst hj; exact i3 (hr 2 c y rfl hy)
    | 3 => simp at hj; subst hj; exact i4 (hr 3 d y rfl hy)
    | j + 4 => simp at hj
inductive AXs (Fx : V → Value → Prop) : List V → List V → Prop
  | nil : AXs Fx [] []
  | cons {x x' : V} {l l' : List V} (h : AX Fx x x') (t : AXs Fx l l') : AXs Fx (x :: l) (x' :: l')
theorem AXs.spec {Fx : V → Value → Prop} {l l' : List V} (h : AXs Fx l l') : l.length = l'.length ∧ ∀ (j : Nat) (u' : V), l'[j]? = some u' → ∃ u, l[j]? = some u ∧ AX Fx u u' := by
  induction h with
  | nil => exact ⟨rfl, by simp⟩
  | cons h t ih =>
    refine ⟨by simp [ih.1], fun j u' hj => ?_⟩
    cases j with
    | zero => simp at hj; subst hj; exact ⟨_, rfl, h⟩
    | succ j => simp at hj; simpa using ih.2 j u' hj
inductive Hi (N : Nat) : V → Prop
  | any : Hi N .any
  | v (x : Value) : Hi N (.v x)
  | lst (lo sz : Nat) (l : List (List V)) (h : N ≤ lo) (hr : ∀ (i : Nat) (x : List V) (j : Nat) (u : V), l[i]? = some x → x[j]? = some u → Hi N u) : Hi N (.lst lo sz l)
  | agg (cs : List V) (hr : ∀ (j : Nat) (u : V), cs[j]? = some u → Hi N u) : Hi N (.agg cs)
  | tup (cs : List V) (hr : ∀ (j : Nat) (u : V), cs[j]? = some u → Hi N u) : Hi N (.tup cs)
theorem Hi.spec {N : Nat} {w : World} {O O' : Nat → Prop} {x : V} {y : Value} (h : R0 w O' x y) : Hi N x → (∀ b, N ≤ b → O b → O' b) → R0 w O x y := by
  induction h with
  | any y => intro _ _; exact .any y
  | v x => intro _ _; exact .v x
  | lst lo sz l a n cap b o g hlo hn hc hl ha hs hz hr ih =>
    intro h hO
    cases h with
    | lst _ _ _ h1 h2 => exact .lst lo sz l a n cap b o g hlo hn hc hl (fun h => ⟨(ha h).1, fun hb => (ha h).2.1 (hO b (Nat.le_trans h1 (hlo h)) hb), (ha h).2.2⟩) hs hz fun i x j u q1 q2 => ih i x j u q1 q2 (h2 i x j u q1 q2) hO
  | fp cs b o g h1 hb hs hr ih => intro h; cases h
  | agg cs ys hn hr ih =>
    intro h hO
    cases h with
    | agg _ h2 => exact .agg cs ys hn fun j u y q1 q2 => ih j u y q1 q2 (h2 j u q1) hO
  | tup cs ys hn hr ih =>
    intro h hO
    cases h with
    | tup _ h2 => exact .tup cs ys hn fun j u y q1 q2 => ih j u y q1 q2 (h2 j u q1) hO
  | fn f cap ys hn hr ih => intro h; cases h
theorem Hi.agg2 {N : Nat} {x y : V} (h1 : Hi N x) (h2 : Hi N y) : Hi N (.agg [x, y]) := .agg _ fun j u h => by
  match j with
  | 0 => simp at h; subst h; exact h1
  | 1 => simp at h; subst h; exact h2
  | j + 2 => simp at h
theorem Hi.map {α : Type} {N lo sz : Nat} {l : List α} {f : α → List V} (h : N ≤ lo) (hf : ∀ (x : α) (j : Nat) (u : V), (f x)[j]? = some u → Hi N u) : Hi N (.lst lo sz (l.map f)) := .lst _ _ _ h fun i x j u h1 h2 => by
  simp only [List.getElem?_map, Option.map_eq_some_iff] at h1
  obtain ⟨z, _, rfl⟩ := h1
  exact hf z j u h2
def isS : Value → Bool
  | .string _ => true
  | _ => false
def loose (wz w : World) (b : Nat) : Prop := ∀ (ys : Array Value) (t : TypeId) (fz : Nat × Nat), wz.heap[b]? = some (.cells ys t fz) →
  ∃ ys' : Array Value, w.heap[b]? = some (.cells ys' t fz) ∧ ys'.size = ys.size ∧ ∀ (j : Nat) (v : Value), ys[j]? = some v → ∃ v', ys'[j]? = some v' ∧ (v' = v ∨ (isS v = true ∧ isS v' = true))
theorem loose.same {wz w : World} {b : Nat} (h : w.heap[b]? = wz.heap[b]?) : loose wz w b := fun ys t fz hz => ⟨ys, h.trans hz, rfl, fun j v hj => ⟨v, hj, .inl rfl⟩⟩
theorem loose.next {wz w w' : World} {b : Nat} (h : loose wz w b) (e : w'.heap[b]? = w.heap[b]?) : loose wz w' b := fun ys t fz hz => by
  obtain ⟨ys', h1, h2, h3⟩ := h ys t fz hz
  exact ⟨ys', e.trans h1, h2, h3⟩
theorem cell_row {w : World} {b o : Nat} {v : Value} (h : w.cell? ⟨b, o, none⟩ = some v) : ∃ ys t fz, w.heap[b]? = some (.cells ys t fz) ∧ ys[o]? = some v := by
  unfold World.cell? at h
  split at h
  · rename_i c t fz hc
    exact ⟨c, t, fz, hc, by simpa using h⟩
  · cases h
theorem loose.cell {wz w : World} {b o : Nat} {v : Value} (h : loose wz w b) (hc : cellA wz ⟨b, o, none⟩ v) : ∃ v', cellA w ⟨b, o, none⟩ v' ∧ (v' = v ∨ (isS v = true ∧ isS v' = true)) := by
  obtain ⟨ys, t, fz, h1, h2⟩ := cell_row hc.1
  obtain ⟨ys', h3, h4, h5⟩ := h ys t fz h1
  obtain ⟨v', h6, h7⟩ := h5 o v h2
  refine ⟨v', ⟨by simp [World.cell?, h3, h6], fun hw => ?_⟩, h7⟩
  have hw' : wrV v = true := by
    rcases h7 with rfl | ⟨h8, _⟩
    · exact hw
    · cases v <;> first | rfl | cases h8
  have := hc.2 hw'
  simpa [World.frozen?, h1, h3] using this
theorem loose.set {wz w : World} {b o : Nat} {v : Value} (h : loose wz w b) (hc : wz.cell? ⟨b, o, none⟩ = some v) (hv : isS v = true) (x : ByteArray) : loose wz (w.setCell ⟨b, o, none⟩ (.string x)) b := fun ys t fz hz => by
  obtain ⟨ys0, t0, fz0, h1, h2⟩ := cell_row hc
  rw [hz] at h1
  cases h1
  obtain ⟨ys', h3, h4, h5⟩ := h ys t fz hz
  refine ⟨ys'.setIfInBounds o (.string x), by simp [World.setCell, Array.getElem?_modify, h3], by simpa using h4, fun j u hj => ?_⟩
  by_cases e : o = j
  · subst e
    rw [h2] at hj
    cases hj
    have : o < ys'.size := by rw [h4]; exact (Array.getElem?_eq_some_iff.1 h2).1
    exact ⟨.string x, by simp [this], .inr ⟨hv, rfl⟩⟩
  · obtain ⟨v', h6, h7⟩ := h5 j u hj
    exact ⟨v', by rw [Array.getElem?_setIfInBounds_ne e]; exact h6, h7⟩
theorem flat_seq (a b : Code) : flat (.seq a b) = flat a ++ flat b := rfl
theorem flat_region (id : Nat) (l : Array Oper) (d : Bool) : flat (.region id l d) = [.region id l d] := rfl
theorem flat_cond (c : Operand) (a b : Code) : flat (.cond c a b) = [.cond c a b] := rfl
theorem flat_block (id : Nat) (c : Code) : flat (.block id c) = [.block id c] := rfl
theorem flat_loop (c : Code) : flat (.loop c) = [.loop c] := rfl
theorem flat_ret : flat .ret = [.ret] := rfl
theorem flat_skip : flat .skip = [.skip] := rfl
theorem vcN_0 {P : Program} {G : Gh} {Q : Exit → St → Prop} (l : List Code) (s : St) : vcN P G Q 0 l s = SemL P G l s Q := rfl
theorem vcN_n {P : Program} {G : Gh} {Q : Exit → St → Prop} (n : Nat) (s : St) : vcN P G Q (n + 1) [] s = Q .normal s := rfl
theorem vcN_s {P : Program} {G : Gh} {Q : Exit → St → Prop} (n : Nat) (c : Code) (r : List Code) (s : St) : vcN P G Q (n + 1) (c :: r) s = vc P G c s (kseq (fun s _ => vcN P G Q n r s) Q) := rfl
attribute [go_sem] flat_seq flat_region flat_cond flat_block flat_loop flat_ret flat_skip List.singleton_append vcN_0 vcN_n vcN_s
theorem semL_ent {P : Program} {G : Gh} {l : List Code} {s s' : St} {Q : Exit → St → Prop} (he : Ent G s s') (h : SemL P G l s' Q) : SemL P G l s Q := fun a w hs => h a w (he a w hs)

theorem pure_introL (ow : Nat → Bool) {P : Program} {f : FuncId} {fn : Func} {c : Code} {as : List V} {r : Nat → V} {rs : List ResultVar} {m : Nat} (hf : P.funcs[f]? = some fn) (hm : fn.ntmps = m) (hb : fn.body = some c) (hname : (fn.name == "runtime.NumGoroutine") = false)
    (hn : as.length ≤ m) (hrs : fn.results = rs.toArray) (hl : rs.length ≤ 3)
    (h : ∀ (G : Gh), G.n = m → G.ow = ow → G.nm = [] → (∀ w, G.Zi w) → (∀ x ∈ as, Bd x) → SemL P G (flat c) (St.of (enumV 0 as) []) (EndsAt P G.lo rs (r G.lo))) : Gives P f as r := by
  subst hm
  refine ⟨⟨fn, hf, hname, by simp [hb]⟩, fun lo w O ys hlo hO ha => ?_⟩
  refine calls_of_wpIn (G := (pureG ow w O fn.ntmps lo hlo hO)) rfl hf hb ?_
  refine wpIn_mono (SemL.semC (h (pureG ow w O fn.ntmps lo hlo hO) rfl rfl rfl (fun _ => trivial) ha.bd) _ w (sim_enter ow hlo hO ha hn)) ?_
  rintro e a w' ⟨s, hq, hs⟩
  have fin := pure_fin (P := P) (ow := ow) (m := fn.ntmps) hlo hO hrs hl (r := r lo) hs
  cases e with
  | normal => exact fin hq
  | ret => exact fin hq
  | exit => exact hq.elim
  | goto => exact hq.elim
  | panic => exact hq.elim
  | outgrown => exact hq.elim

def exOf (y : Value) : V → V
  | .lst _ _ _ | .fp _ => .v y
  | x => x
def exCs (z : Nat → Value) : Nat → List V → List V
  | _, [] => []
  | j, x :: r => exOf (z j) x :: exCs z (j + 1) r
def exOB (z : Nat → Value) : OB → OB
  | .box cs => .box (exCs z 0 cs)
  | o => o
def exF (ys : Nat → Value) : List (Nat × V) → List (Nat × V)
  | [] => []
  | (i, x) :: r => (i, exOf (ys i) x) :: exF ys r
def exH (zs : Nat → Nat → Value) : List (Nat × OB) → List (Nat × OB)
  | [] => []
  | (i, o) :: r => (i, exOB (zs i) o) :: exH zs r
theorem exF_lk (ys : Nat → Value) : ∀ (fl : List (Nat × V)) (i : Nat), lkV (exF ys fl) i = exOf (ys i) (lkV fl i) := by
  intro fl
  induction fl with
  | nil => intro i; rfl
  | cons p r ih =>
    obtain ⟨j, x⟩ := p
    intro i
    simp only [exF, lkV]
    split
    · rename_i e; subst e; rfl
    · exact ih i
theorem exH_lk (zs : Nat → Nat → Value) : ∀ (hl : List (Nat × OB)) (i : Nat), lkH (exH zs hl) i = (lkH hl i).map (exOB (zs i)) := by
  intro hl
  induction hl with
  | nil => intro i; rfl
  | cons p r ih =>
    obtain ⟨j, x⟩ := p
    intro i
    simp only [exH, lkH]
    split
    · rename_i e; subst e; rfl
    · exact ih i
theorem exH_us (zs : Nat → Nat → Value) : ∀ (hl : List (Nat × OB)) (i : Nat), usH (exH zs hl) i = usH hl i := by
  intro hl
  induction hl with
  | nil => intro i; rfl
  | cons p r ih => intro i; simp only [exH, usH, ih]
theorem exCs_get (z : Nat → Value) : ∀ (cs : List V) (k j : Nat), (exCs z k cs)[j]? = (cs[j]?).map (exOf (z (k + j))) := by
  intro cs
  induction cs with
  | nil => intro k j; simp [exCs]
  | cons x r ih =>
    intro k j
    cases j with
    | zero => simp [exCs]
    | succ j => simp only [exCs, List.getElem?_cons_succ, ih]; rw [show k + 1 + j = k + (j + 1) by omega]
theorem exCs_len (z : Nat → Value) : ∀ (cs : List V) (k : Nat), (exCs z k cs).length = cs.length := by
  intro cs
  induction cs with
  | nil => intro k; rfl
  | cons x r ih => intro k; simp [exCs, ih]
theorem exOf_R {w : World} {O : Nat → Prop} {E : Env} {x : V} {y : Value} (h : R w O E x y) : R w O E (exOf y x) y := by
  cases x <;> first | exact h | exact .r0 _ _ (.v _)
def cellsOf (w : World) (E : Env) (id j : Nat) : Value := match E id with
  | some (some b, _, _) => match w.heap[b]? with
    | some (.cells ys _ _) => ys.getD j undef
    | _ => undef
  | _ => undef
theorem SimE.exact {G : Gh} {fl : List (Nat × V)} {hl : List (Nat × OB)} {a : Act} {w : World} {E : Env} (h : SimE G (St.of fl hl) a w E) : ∃ (ys : Nat → Value) (zs : Nat → Nat → Value),
    (∀ i, R w (OT G (St.of fl hl) E) E (lkV fl i) (ys i)) ∧ (∀ id cs j u, lkH hl id = some (.box cs) → cs[j]? = some u → R w (OT G (St.of fl hl) E) E u (zs id j)) ∧
    (∀ b, OT G (St.of (exF ys fl) (exH zs hl)) E b ↔ OT G (St.of fl hl) E b) ∧ SimE G (St.of (exF ys fl) (exH zs hl)) a w E := by
  have hz : ∀ id cs j u, lkH hl id = some (.box cs) → cs[j]? = some u → R w (OT G (St.of fl hl) E) E u (cellsOf w E id j) := fun id cs j u h1 h2 => by
    obtain ⟨b, K, C, k1, b', ys, t, rfl, g2, g3, g4, g5, g6⟩ := h.hp id _ h1
    have hj : j < ys.size := by rw [g3]; exact (List.getElem?_eq_some_iff.1 h2).1
    simp only [cellsOf, k1, g2]
    exact g6 j u _ h2 (by simp [hj])
  have hlive : ∀ b, live (St.of (exF (fun i => a.tmps.getD i undef) fl) (exH (cellsOf w E) hl)) E b ↔ live (St.of fl hl) E b := fun b => by
    constructor
    · rintro ⟨id, ob, K, C, h1, h2⟩
      have h1' : lkH (exH (cellsOf w E) hl) id = some ob := h1
      rw [exH_lk] at h1'
      simp only [Option.map_eq_some_iff] at h1'
      obtain ⟨o, h3, _⟩ := h1'
      exact ⟨id, o, K, C, h3, h2⟩
    · rintro ⟨id, ob, K, C, h1, h2⟩
      have h1' : lkH hl id = some ob := h1
      refine ⟨id, exOB (cellsOf w E id) ob, K, C, ?_, h2⟩
      show lkH (exH (cellsOf w E) hl) id = _
      rw [exH_lk, h1']; rfl
  have hOT : ∀ b, OT G (St.of (exF (fun i => a.tmps.getD i undef) fl) (exH (cellsOf w E) hl)) E b ↔ OT G (St.of fl hl) E b := fun b => or_congr Iff.rfl (hlive b)
  have hO' : ∀ b, ¬ OT G (St.of fl hl) E b → ¬ OT G (St.of (exF (fun i => a.tmps.getD i undef) fl) (exH (cellsOf w E) hl)) E b := fun b hb hb' => hb ((hOT b).1 hb')
  have back : ∀ {id ob}, lkH (exH (cellsOf w E) hl) id = some ob → ∃ o, lkH hl id = some o ∧ ob = exOB (cellsOf w E id) o := fun {id ob} h1 => by
    rw [exH_lk] at h1
    simp only [Option.map_eq_some_iff] at h1
    obtain ⟨o, h3, h4⟩ := h1
    exact ⟨o, h3, h4.symm⟩
  refine ⟨fun i => a.tmps.getD i undef, cellsOf w E, h.fr, hz, hOT, ⟨fun i => ?_, h.defers.mono rfl fun b hb _ _ => ⟨rfl, fun hl => hb ((hlive b).1 hl)⟩, h.size, fun id ob hob => ?_, fun id hid => ?_, fun i i' o o' b x x' k1 k2 k3 k4 => ?_, fun i o b x k1 k2 => ?_, h.old, h.grow, h.os, h.tape, h.output, h.keep, h.base, h.zi⟩⟩
  · show R w _ E (lkV (exF _ fl) i) _
    rw [exF_lk]
    exact (exOf_R (h.fr i)).weak hO' fun _ _ h => h
  · obtain ⟨o, h1, rfl⟩ := back hob
    obtain ⟨b, K, C, k1, k2⟩ := h.hp id o h1
    refine ⟨b, K, C, k1, ?_⟩
    cases o with
    | arr t sz l => exact k2.mono (Nat.le_refl _) (fun b hb _ => hO' b hb) (fun _ _ _ => rfl) (fun _ _ h => h) fun _ _ => rfl
    | map kk m => exact k2.mono (Nat.le_refl _) (fun b hb _ => hO' b hb) (fun _ _ _ => rfl) (fun _ _ h => h) fun _ _ => rfl
    | mpe kk m j bo => exact k2.mono (Nat.le_refl _) (fun b hb _ => hO' b hb) (fun _ _ _ => rfl) (fun _ _ h => h) fun _ _ => rfl
    | obj x => exact k2.mono (Nat.le_refl _) (fun b hb _ => hO' b hb) (fun _ _ _ => rfl) (fun _ _ h => h) fun _ _ => rfl
    | arx t sz l => exact k2.mono (Nat.le_refl _) (fun b hb _ => hO' b hb) (fun _ _ _ => rfl) (fun _ _ h => h) fun _ _ => rfl
    | box cs =>
      obtain ⟨b', ys, t, rfl, g2, g3, g4, g5, g6⟩ := k2
      refine ⟨b', ys, t, rfl, g2, by rw [exCs_len]; exact g3, by rw [exCs_len]; exact g4, g5, fun j u y q1 q2 => ?_⟩
      rw [exCs_get] at q1
      simp only [Option.map_eq_some_iff, Nat.zero_add] at q1
      obtain ⟨u', q3, rfl⟩ := q1
      have e : cellsOf w E id j = y := by simp only [cellsOf, k1, g2]; rw [Array.getD_eq_getD_getElem?, q2]; rfl
      rw [e]
      exact (exOf_R (g6 j u' y q3 q2)).weak hO' fun _ _ h => h
  · show usH (exH _ hl) id = true
    rw [exH_us]; exact h.us id hid
  · obtain ⟨_, f1, _⟩ := back k1
    obtain ⟨_, f2, _⟩ := back k2
    exact h.inj i i' _ _ b x x' f1 f2 k3 k4
  · obtain ⟨_, f1, _⟩ := back k1
    exact h.fresh i _ b x f1 k2

end Pm
end Go.Proofs.YtphadkcpgnkpfaaGreatDoor
