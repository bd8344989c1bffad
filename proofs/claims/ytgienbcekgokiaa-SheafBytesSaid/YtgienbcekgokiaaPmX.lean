/- Exact values: a walk goes on with the machine's own values, of which more is known than symbolic values tell. No program in sight. -/
import Derived.Test.YtgienbcekgokiaaPm8
namespace Go.Proofs.Ytgienbcekgokiaa
open Go Go.RowKit
set_option linter.unusedVariables false
namespace Pm
set_option linter.unusedSimpArgs false

/-! A body as the list of its parts. -/
def flat : Code → List Code
  | .seq a b => flat a ++ flat b
  | c => [c]
def wpL (F : Fence) (P : Program) (Q : Exit → Act → World → Prop) : List Code → Act → World → Prop
  | [] => Q .normal
  | c :: r => c.wpIn F 0 P (Exit.then (wpL F P Q r) Q)
theorem wpL_mono {F : Fence} {P : Program} {Q Q' : Exit → Act → World → Prop} (hq : ∀ e a w, Q e a w → Q' e a w) : ∀ (l : List Code) {a : Act} {w : World}, wpL F P Q l a w → wpL F P Q' l a w := by
  intro l
  induction l with
  | nil => intro a w h; exact hq _ _ _ h
  | cons c r ih =>
    intro a w h
    refine wpIn_mono h fun e a w h => ?_
    cases e with
    | normal => exact ih h
    | _ => exact hq _ _ _ h
theorem flat_wp {F : Fence} {P : Program} {Q : Exit → Act → World → Prop} (c : Code) : ∀ (r : List Code) {a : Act} {w : World}, wpL F P Q (flat c ++ r) a w → c.wpIn F 0 P (Exit.then (wpL F P Q r) Q) a w := by
  have one : ∀ (c : Code) (r : List Code) (a : Act) (w : World), wpL F P Q ([c] ++ r) a w → c.wpIn F 0 P (Exit.then (wpL F P Q r) Q) a w := fun c r a w h => h
  induction c with
  | seq x y ihx ihy =>
    intro r a w h
    simp only [flat, List.append_assoc] at h
    refine wpIn_seq (wpIn_mono (ihx _ h) fun e a w h => ?_)
    cases e with
    | normal => exact ihy r h
    | _ => exact h
  | _ => intro r a w h; exact one _ r a w h
def SemL (P : Program) (G : Gh) (l : List Code) (s : St) (Q : Exit → St → Prop) : Prop := ∀ a w, Sim G s a w → wpL G.F P (lift G Q) l a w
theorem SemL.semC {P : Program} {G : Gh} {c : Code} {s : St} {Q : Exit → St → Prop} (h : SemL P G (flat c) s Q) : SemC P G c s Q := fun a w hs => by
  have := flat_wp c [] (by simpa using h a w hs)
  refine wpIn_mono this fun e a w h => ?_
  cases e <;> exact h
/-- the first 'n' parts walked, the rest owed -/
def vcN (P : Program) (G : Gh) (Q : Exit → St → Prop) : Nat → List Code → St → Prop
  | 0, l, s => SemL P G l s Q
  | _ + 1, [], s => Q .normal s
  | n + 1, c :: r, s => vc P G c s (kseq (fun s _ => vcN P G Q n r s) Q)
theorem vcN_sound {P : Program} {G : Gh} {Q : Exit → St → Prop} : ∀ (n : Nat) (l : List Code) (s : St), vcN P G Q n l s → SemL P G l s Q := by
  intro n
  induction n with
  | zero => intro l s h; exact h
  | succ n ih =>
    intro l s h
    cases l with
    | nil => intro a w hs; exact ⟨s, h, hs⟩
    | cons c r =>
      intro a w hs
      refine wpIn_mono (vc_sound c _ _ h a w hs) fun e a w h => ?_
      obtain ⟨s', h1, h2⟩ := h
      cases e with
      | normal => exact ih r s' h1 a w h2
      | _ => exact ⟨s', h1, h2⟩
/-- Another ghost from here on. -/
theorem semL_enter {P : Program} {G : Gh} {l : List Code} {s : St} {Q : Exit → St → Prop}
    (h : ∀ a w E, SimE G s a w E → ∃ G1 s1, G1.F = G.F ∧ (∀ s' a' w', Sim G1 s' a' w' → Sim G s' a' w') ∧ Sim G1 s1 a w ∧ SemL P G1 l s1 Q) : SemL P G l s Q := by
  rintro a w ⟨E, hE⟩
  obtain ⟨G1, s1, hF, hback, hs1, hl⟩ := h a w E hE
  have := hl a w hs1
  rw [hF] at this
  exact wpL_mono (fun e a w ⟨s', h1, h2⟩ => ⟨s', h1, hback _ _ _ h2⟩) l this

/-! Calls whose arguments are exact values. 'Fx x y': the exact value y is known to be what x tells. -/
def XOK (G : Gh) (N : Nat) (Fx : V → Value → Prop) : Prop := ∀ s a w E, SimE G s a w E → N ≤ w.heap.size ∧
  ∃ O' : Nat → Prop, (∀ b, O' b → OT G s E b) ∧ (∀ b, N ≤ b → OT G s E b → O' b) ∧ ∀ x y, Fx x y → R0 w O' x y
theorem XOK.of {G : Gh} {w1 : World} {O1 : Nat → Prop} {Fx : V → Value → Prop} (hF : ∀ x y, Fx x y → R0 w1 O1 x y)
    (h : ∀ w, G.Zi w → w1.heap.size ≤ w.heap.size ∧ ∀ b, b < w1.heap.size → ¬ O1 b → w.heap[b]? = w1.heap[b]?) : XOK G w1.heap.size Fx := by
  intro s a w E hE
  obtain ⟨h1, h2⟩ := h w hE.zi
  refine ⟨h1, fun b => OT G s E b ∧ ¬ (b < w1.heap.size ∧ ¬ O1 b), fun b hb => hb.1, fun b hN hb => ⟨hb, fun g => by omega⟩, fun x y hxy => ?_⟩
  exact (hF x y hxy).mono h1 (fun b hb hlt g => g.2 ⟨hlt, hb⟩) fun b hb hlt => h2 b hlt hb
inductive AX (Fx : V → Value → Prop) : V → V → Prop
  | pure (u u' : V) (hp : pureV u = true) (hs : Sub u u') : AX Fx u u'
  | ex (y : Value) (u' : V) (h : Fx u' y) : AX Fx (.v y) u'
  | agg2 (c d c' d' : V) (h1 : AX Fx c c') (h2 : AX Fx d d') : AX Fx (.agg [c, d]) (.agg [c', d'])
  | agg4 (a b c d a' b' c' d' : V) (h1 : AX Fx a a') (h2 : AX Fx b b') (h3 : AX Fx c c') (h4 : AX Fx d d') : AX Fx (.agg [a, b, c, d]) (.agg [a', b', c', d'])
theorem AX.spec {Fx : V → Value → Prop} {w : World} {O O' : Nat → Prop} {E : Env} (hF : ∀ x y, Fx x y → R0 w O' x y) (hO : ∀ b, O' b → O b) {u u' : V} (h : AX Fx u u') : ∀ {y : Value}, R w O E u y → R0 w O' u' y := by
  induction h with
  | pure u u' hp hs => intro y hy; exact hs _ _ _ ((hy.pureV hp).mono (Nat.le_refl _) (fun b hb _ hb' => hb (hO b hb')) fun _ _ _ => rfl)
  | ex y u' h => intro y' hy; rw [R.v_inv hy]; exact hF _ _ h
  | agg2 c d c' d' h1 h2 i1 i2 =>
    intro y hy
    obtain ⟨ys, rfl, hn, hr⟩ := R.agg_inv hy
    refine .agg _ _ hn fun j u y hj hy => ?_
    match j with
    | 0 => simp at hj; subst hj; exact i1 (hr 0 c y rfl hy)
    | 1 => simp at hj; subst hj; exact i2 (hr 1 d y rfl hy)
    | j + 2 => simp at hj
  | agg4 a b c d a' b' c' d' h1 h2 h3 h4 i1 i2 i3 i4 =>
    intro y hy
    obtain ⟨ys, rfl, hn, hr⟩ := R.agg_inv hy
    refine .agg _ _ hn fun j u y hj hy => ?_
    match j with
    | 0 => simp at hj; subst hj; exact i1 (hr 0 a y rfl hy)
    | 1 => simp at hj; subst hj; exact i2 (hr 1 b y rfl hy)
    | 2 => simp at hj; subst hj; exact i3 (hr 2 c y rfl hy)
    | 3 => simp at hj; subst hj; exact i4 (hr 3 d y rfl hy)
    | j + 4 => simp at hj
inductive AXs (Fx : V → Value → Prop) : List V → List V → Prop
  | nil : AXs Fx [] []
  | cons {x x' : V} {l l' : List V} (h : AX Fx x x') (t : AXs Fx l l') : AXs Fx (x :: l) (x' :: l')
theorem AXs.spec {Fx : V → Value → Prop} {l l' : List V} (h : AXs Fx l l') : l.length = l'.length ∧ ∀ (j : Nat) (u' : V), l'[j]? = some u' → ∃ u, l[j]? = some u ∧ AX Fx u u' := by
  induction h with
  | nil => exact ⟨rfl, by simp⟩
  | cons h t ih =>
    refine ⟨by simp [ih.1], fun j u' hj => ?_⟩
    cases j with
    | zero => simp at hj; subst hj; exact ⟨_, rfl, h⟩
    | succ j => simp at hj; simpa using ih.2 j u' hj
/-- what is in it lies behind a number -/
inductive Hi (N : Nat) : V → Prop
  | any : Hi N .any
  | v (x : Value) : Hi N (.v x)
  | lst (lo sz : Nat) (l : List (List V)) (h : N ≤ lo) (hr : ∀ (i : Nat) (x : List V) (j : Nat) (u : V), l[i]? = some x → x[j]? = some u → Hi N u) : Hi N (.lst lo sz l)
  | agg (cs : List V) (hr : ∀ (j : Nat) (u : V), cs[j]? = some u → Hi N u) : Hi N (.agg cs)
  | tup (cs : List V) (hr : ∀ (j : Nat) (u : V), cs[j]? = some u → Hi N u) : Hi N (.tup cs)
theorem Hi.spec {N : Nat} {w : World} {O O' : Nat → Prop} {x : V} {y : Value} (h : R0 w O' x y) : Hi N x → (∀ b, N ≤ b → O b → O' b) → R0 w O x y := by
  induction h with
  | any y => intro _ _; exact .any y
  | v x => intro _ _; exact .v x
  | lst lo sz l a n cap b o g hlo hn hc hl ha hs hz hr ih =>
    intro h hO
    cases h with
    | lst _ _ _ h1 h2 => exact .lst lo sz l a n cap b o g hlo hn hc hl (fun h => ⟨(ha h).1, fun hb => (ha h).2.1 (hO b (Nat.le_trans h1 (hlo h)) hb), (ha h).2.2⟩) hs hz fun i x j u q1 q2 => ih i x j u q1 q2 (h2 i x j u q1 q2) hO
  | fp cs b o g h1 hb hs hr ih => intro h; cases h
  | agg cs ys hn hr ih =>
    intro h hO
    cases h with
    | agg _ h2 => exact .agg cs ys hn fun j u y q1 q2 => ih j u y q1 q2 (h2 j u q1) hO
  | tup cs ys hn hr ih =>
    intro h hO
    cases h with
    | tup _ h2 => exact .tup cs ys hn fun j u y q1 q2 => ih j u y q1 q2 (h2 j u q1) hO
  | fn f cap ys hn hr ih => intro h; cases h
theorem Hi.agg2 {N : Nat} {x y : V} (h1 : Hi N x) (h2 : Hi N y) : Hi N (.agg [x, y]) := .agg _ fun j u h => by
  match j with
  | 0 => simp at h; subst h; exact h1
  | 1 => simp at h; subst h; exact h2
  | j + 2 => simp at h
theorem Hi.tup2 {N : Nat} {x y : V} (h1 : Hi N x) (h2 : Hi N y) : Hi N (.tup [x, y]) := .tup _ fun j u h => by
  match j with
  | 0 => simp at h; subst h; exact h1
  | 1 => simp at h; subst h; exact h2
  | j + 2 => simp at h
theorem Hi.map {α : Type} {N lo sz : Nat} {l : List α} {f : α → List V} (h : N ≤ lo) (hf : ∀ (x : α) (j : Nat) (u : V), (f x)[j]? = some u → Hi N u) : Hi N (.lst lo sz (l.map f)) := .lst _ _ _ h fun i x j u h1 h2 => by
  simp only [List.getElem?_map, Option.map_eq_some_iff] at h1
  obtain ⟨z, _, rfl⟩ := h1
  exact hf z j u h2
/-- A CALL whose arguments are exact values, or what came from such calls. -/
theorem callX {P : Program} {G : Gh} {N : Nat} {Fx : V → Value → Prop} {Nm : Nat → Bool} {M : Bool} {s : St} {k : FuncId} {cap as as' : List V} {r : Nat → V} (hx : XOK G N Fx) (hp : Gives P k as' r)
    (ha : AXs Fx (as ++ cap) as') (hr : Hi N (r N)) : CallE P G Nm M (.fn (.func k) cap) as s (r N, []) := by
  refine .pure ?_
  rintro s' _ o Q rest hc h x l ts ho hx' rfl a w ⟨E, hE⟩
  obtain ⟨hN, O', h1, h2, h3⟩ := hx s' a w E hE
  obtain ⟨ys, hy, hsz, hrr⟩ := R.fn_inv (ev_E hE hx'.symm)
  obtain ⟨hlen, hsub⟩ := ha.spec
  refine wp_call ho hp.1 hy (hp.2 N w O' _ hN ⟨fun b hb => OT_lt hE b (h1 b hb), hE.glob.weak h1⟩ ⟨?_, fun j u y g1 g2 => ?_⟩) ?_
  · simp at hlen ⊢; omega
  · obtain ⟨u0, g3, g4⟩ := hsub j u g1
    refine AX.spec h3 h1 g4 (E := E) ?_
    by_cases hj : j < l.length
    · rw [List.getElem?_append_left (by simpa using hj)] at g3
      rw [Array.getElem?_append_left (by simpa using hj)] at g2
      simp only [List.getElem?_map, Option.map_eq_some_iff] at g3
      obtain ⟨z, hz, rfl⟩ := g3
      simp [hz] at g2
      subst g2
      exact ev_R hE z
    · rw [List.getElem?_append_right (by simpa using hj)] at g3
      rw [Array.getElem?_append_right (by simpa using hj)] at g2
      simp at g3 g2
      exact hrr _ _ _ g3 g2
  · rintro e w' ⟨y, rfl, hry, hb⟩
    exact ⟨y, rfl, _, h, E, (hE.below hb).put (chk_spec hc) (.r0 _ _ (Hi.spec hry hr h2))⟩
theorem call_X {P : Program} {G : Gh} {N : Nat} {Fx : V → Value → Prop} {o : Oper} {s : St} {Q : Exit → St → Prop} {rest : St → Prop} {k : FuncId} {cap as as' : List V} {r : Nat → V} (hx : XOK G N Fx) (hp : Gives P k as' r)
    (ha : AXs Fx (as ++ cap) as') (hr : Hi N (r N)) (hc : chk G.n o.dst) (h : rest (putD s o.dst (r N))) : SemCall P G o s Q rest (.fn (.func k) cap) as :=
  (callX (Nm := fun _ => false) (M := false) (s := s) hx hp ha hr).2.2 s (fun _ _ => ⟨rfl, rfl⟩) o Q rest hc h

/-! Into exact values. -/
theorem SimE.exSlot {G : Gh} {s : St} {a : Act} {w : World} {E : Env} (h : SimE G s a w E) (i : Nat) {x : V} (hi : s.fr i = x) (hp : pureV x = true) : ∃ y, R0 w (OT G s E) x y ∧ SimE G (s.set i (.v y)) a w E := by
  have hR := (hi ▸ h.fr i).pureV hp
  refine ⟨_, hR, ⟨fun j => ?_, h.defers, h.size, h.hp, h.us, h.inj, h.fresh, h.old, h.grow, h.os, h.tape, h.output, h.keep, h.base, h.zi⟩⟩
  show R w (OT G s E) E (if i = j then _ else s.fr j) _
  split
  · rename_i e; subst e; exact .r0 _ _ (.v _)
  · exact h.fr j
theorem live_hset {s : St} {E : Env} {id : Nat} {ob ob' : OB} (h : s.hp id = some ob) (b : Nat) : live (s.hset id (some ob')) E b ↔ live s E b := by
  constructor
  · rintro ⟨i, o, K, C, h1, h2⟩
    by_cases e : id = i
    · subst e; exact ⟨id, ob, K, C, h, h2⟩
    · exact ⟨i, o, K, C, by simpa [St.hset, e] using h1, h2⟩
  · rintro ⟨i, o, K, C, h1, h2⟩
    by_cases e : id = i
    · subst e; exact ⟨id, ob', K, C, by simp [St.hset], h2⟩
    · exact ⟨i, o, K, C, by simp [St.hset, e, h1], h2⟩
theorem SimE.exBox {G : Gh} {s : St} {a : Act} {w : World} {E : Env} (h : SimE G s a w E) (id : Nat) {x1 x2 : V} (hi : s.hp id = some (.box [x1, x2])) (hp1 : pureV x1 = true) (hp2 : pureV x2 = true) :
    ∃ y1 y2, R0 w (OT G s E) x1 y1 ∧ R0 w (OT G s E) x2 y2 ∧ SimE G (s.hset id (some (.box [.v y1, .v y2]))) a w E := by
  obtain ⟨b, K, C, hE, b', ys, t, rfl, g2, g3, g4, g5, g6⟩ := h.hp id _ hi
  have hs : ys.size = 2 := g3
  have q1 := (g6 0 x1 ys[0] rfl (by simp)).pureV hp1
  have q2 := (g6 1 x2 ys[1] rfl (by simp)).pureV hp2
  have hO : ∀ b, OT G (s.hset id (some (.box [.v ys[0], .v ys[1]]))) E b ↔ OT G s E b := fun b => or_congr Iff.rfl (live_hset hi b)
  have hO' : ∀ b, ¬ OT G s E b → ¬ OT G (s.hset id (some (.box [.v ys[0], .v ys[1]]))) E b := fun b hb hb' => hb ((hO b).1 hb')
  refine ⟨ys[0], ys[1], q1, q2, ⟨fun j => (h.fr j).weak hO' fun _ _ h => h, h.defers.mono rfl fun b hb _ _ => ⟨rfl, fun hl => hb ((live_hset hi b).1 hl)⟩, h.size, fun i o ho => ?_, fun i hi => ?_, fun i i' o o' b x x' k1 k2 k3 k4 => ?_, fun i o b x k1 k2 => ?_, h.old, h.grow, h.os, h.tape, h.output, h.keep, h.base, h.zi⟩⟩
  · by_cases e : id = i
    · subst e
      simp [St.hset] at ho
      subst ho
      refine ⟨_, _, _, hE, b', ys, t, rfl, g2, g3, g4, g5, fun j u y k1 k2 => ?_⟩
      match j with
      | 0 => simp [hs] at k1 k2; subst k1; subst k2; exact .r0 _ _ (.v _)
      | 1 => simp [hs] at k1 k2; subst k1; subst k2; exact .r0 _ _ (.v _)
      | j + 2 => simp at k1
    · obtain ⟨b, K, C, k1, k2⟩ := h.hp i o (by simpa [St.hset, e] using ho)
      exact ⟨b, K, C, k1, k2.mono (Nat.le_refl _) (fun b hb _ => hO' b hb) (fun _ _ _ => rfl) (fun _ _ h => h) fun _ _ => rfl⟩
  · simp [St.hset, h.us i hi]
  · have f : ∀ i o, (s.hset id (some (.box [.v ys[0], .v ys[1]]))).hp i = some o → ∃ o', s.hp i = some o' := fun i o ho => by
      by_cases e : id = i
      · subst e; exact ⟨_, hi⟩
      · exact ⟨o, by simpa [St.hset, e] using ho⟩
    obtain ⟨_, f1⟩ := f i o k1
    obtain ⟨_, f2⟩ := f i' o' k2
    exact h.inj i i' _ _ b x x' f1 f2 k3 k4
  · by_cases e : id = i
    · subst e; exact h.fresh id _ b x hi k2
    · exact h.fresh i o b x (by simpa [St.hset, e] using k1) k2
/-- a symbolic value that no block of others' comes into -/
def exV0 : V → Bool
  | .any | .v _ | .ptr _ _ | .own _ _ _ _ | .eptr _ _ _ _ | .mp _ => true
  | _ => false
theorem R.ex0 {w : World} {O O' : Nat → Prop} {E : Env} {x : V} {y : Value} (hx : exV0 x = true) (h : R w O E x y) : R w O' E x y := by
  cases h with
  | r0 _ _ h =>
    cases h with
    | any => exact .r0 _ _ (.any _)
    | v => exact .r0 _ _ (.v _)
    | _ => cases hx
  | ptr id off b K C h => exact .ptr id off b K C h
  | eptr id i k sz b K C h hi => exact .eptr id i k sz b K C h hi
  | own id off len sz b K C y h hv => exact .own id off len sz b K C y h hv
  | mp id b K C h => exact .mp id b K C h
  | _ => cases hx
def exFl : List (Nat × V) → Bool
  | [] => true
  | (_, x) :: r => exV0 x && exFl r
def exBoxL : List V → Bool
  | [] => true
  | x :: r => exV0 x && exBoxL r
def exHp : List (Nat × OB) → Bool
  | [] => true
  | (_, .box cs) :: r => exBoxL cs && exHp r
  | _ => false
theorem exFl_spec : ∀ {fl : List (Nat × V)}, exFl fl = true → ∀ i, exV0 (lkV fl i) = true := by
  intro fl
  induction fl with
  | nil => intro _ i; rfl
  | cons p r ih =>
    obtain ⟨j, x⟩ := p
    intro h i
    simp only [exFl, Bool.and_eq_true] at h
    simp only [lkV]
    split
    · exact h.1
    · exact ih h.2 i
theorem exBoxL_spec : ∀ {cs : List V}, exBoxL cs = true → ∀ (j : Nat) (u : V), cs[j]? = some u → exV0 u = true := by
  intro cs
  induction cs with
  | nil => simp
  | cons x r ih =>
    intro h j u hj
    simp only [exBoxL, Bool.and_eq_true] at h
    cases j with
    | zero => simp at hj; subst hj; exact h.1
    | succ j => simp at hj; exact ih h.2 j u hj
theorem exHp_spec : ∀ {hl : List (Nat × OB)}, exHp hl = true → ∀ i ob, lkH hl i = some ob → ∃ cs, ob = .box cs ∧ exBoxL cs = true := by
  intro hl
  induction hl with
  | nil => intro _ i ob h; cases h
  | cons p r ih =>
    obtain ⟨j, x⟩ := p
    intro h i ob hi
    cases x with
    | box cs =>
      simp only [exHp, Bool.and_eq_true] at h
      simp only [lkH] at hi
      split at hi
      · cases hi; exact ⟨cs, rfl, h.1⟩
      · exact ih h.2 i ob hi
    | _ => cases h
theorem globOK_nil {w : World} {O : Nat → Prop} (h : globs = []) : GlobOK w O := fun p hp => by rw [h] at hp; cases hp
/-- Another ghost, which forbids more blocks and knows more of them. -/
def Gh.widen (G : Gh) (Of' : Nat → Prop) (Zi' : World → Prop) (hZi : ∀ (w w' : World), w.heap.size ≤ w'.heap.size → (∀ b, Of' b → w'.heap[b]? = w.heap[b]?) → Zi' w → Zi' w') (hg0 : globs = []) : Gh :=
  { G with Of := Of', Zi := Zi', hZi := hZi, hgl := globOK_nil hg0 }
theorem SimE.widen {G : Gh} {fl : List (Nat × V)} {hl : List (Nat × OB)} {a : Act} {w : World} {E : Env} (h : SimE G (St.of fl hl) a w E) (h1 : exFl fl = true) (h2 : exHp hl = true)
    {Of' : Nat → Prop} {Zi' : World → Prop} {hZi : ∀ (w w' : World), w.heap.size ≤ w'.heap.size → (∀ b, Of' b → w'.heap[b]? = w.heap[b]?) → Zi' w → Zi' w'} {hg0 : globs = []}
    (ho : ∀ b, Of' b → b < w.heap.size ∧ ¬ live (St.of fl hl) E b) (hz : Zi' w) : SimE (G.widen Of' Zi' hZi hg0) (St.of fl hl) a w E := by
  refine ⟨fun i => (h.fr i).ex0 (exFl_spec h1 i), h.defers.mono rfl fun b hb _ _ => ⟨rfl, hb⟩, h.size, fun id ob hob => ?_, h.us, h.inj, fun id ob b x k1 k2 => ?_, fun b hb => (ho b hb).1, h.grow, h.os, h.tape, h.output, h.keep, h.base, hz⟩
  · obtain ⟨b, K, C, k1, k2⟩ := h.hp id ob hob
    obtain ⟨cs, rfl, hcs⟩ := exHp_spec h2 id ob hob
    obtain ⟨b', ys, t, rfl, g2, g3, g4, g5, g6⟩ := k2
    exact ⟨_, K, C, k1, b', ys, t, rfl, g2, g3, g4, g5, fun j u y q1 q2 => (g6 j u y q1 q2).ex0 (exBoxL_spec hcs j u q1)⟩
  · obtain ⟨q1, q2, q3⟩ := h.fresh id ob b x k1 k2
    obtain ⟨xK, xC⟩ := x
    exact ⟨q1, fun hof => (ho b hof).2 ⟨id, ob, xK, xC, k1, k2⟩, q3⟩
theorem Sim.narrow {G : Gh} {Of' : Nat → Prop} {Zi' : World → Prop} {hZi : ∀ (w w' : World), w.heap.size ≤ w'.heap.size → (∀ b, Of' b → w'.heap[b]? = w.heap[b]?) → Zi' w → Zi' w'} {hg0 : globs = []}
    (ho : ∀ b, G.Of b → Of' b) (hz : ∀ w, Zi' w → G.Zi w) {s : St} {a : Act} {w : World} (h : Sim (G.widen Of' Zi' hZi hg0) s a w) : Sim G s a w := by
  obtain ⟨E, h⟩ := h
  have hO : ∀ b, ¬ OT (G.widen Of' Zi' hZi hg0) s E b → ¬ OT G s E b := fun b hb hb' => hb (orMap (ho b) id hb')
  refine ⟨E, fun i => (h.fr i).weak hO fun _ _ h => h, h.defers.mono rfl fun b hb _ _ => ⟨rfl, hb⟩, h.size, fun id ob hob => ?_, h.us, h.inj, fun id ob b x k1 k2 => ?_, fun b hb => h.old b (ho b hb), h.grow, h.os, h.tape, h.output, h.keep, h.base, hz w h.zi⟩
  · obtain ⟨b, K, C, k1, k2⟩ := h.hp id ob hob
    exact ⟨b, K, C, k1, k2.mono (Nat.le_refl _) (fun b hb _ => hO b hb) (fun _ _ _ => rfl) (fun _ _ h => h) fun _ _ => rfl⟩
  · obtain ⟨q1, q2, q3⟩ := h.fresh id ob b x k1 k2
    exact ⟨q1, fun hof => q2 (ho b hof), q3⟩

/-! Blocks that are as they were but for other texts in the place of texts. -/
def isS : Value → Bool
  | .string _ => true
  | _ => false
def loose (wz w : World) (b : Nat) : Prop := ∀ (ys : Array Value) (t : TypeId) (fz : Nat × Nat), wz.heap[b]? = some (.cells ys t fz) →
  ∃ ys' : Array Value, w.heap[b]? = some (.cells ys' t fz) ∧ ys'.size = ys.size ∧ ∀ (j : Nat) (v : Value), ys[j]? = some v → ∃ v', ys'[j]? = some v' ∧ (v' = v ∨ (isS v = true ∧ isS v' = true))
theorem loose.same {wz w : World} {b : Nat} (h : w.heap[b]? = wz.heap[b]?) : loose wz w b := fun ys t fz hz => ⟨ys, h.trans hz, rfl, fun j v hj => ⟨v, hj, .inl rfl⟩⟩
theorem loose.next {wz w w' : World} {b : Nat} (h : loose wz w b) (e : w'.heap[b]? = w.heap[b]?) : loose wz w' b := fun ys t fz hz => by
  obtain ⟨ys', h1, h2, h3⟩ := h ys t fz hz
  exact ⟨ys', e.trans h1, h2, h3⟩
theorem cell_row {w : World} {b o : Nat} {v : Value} (h : w.cell? ⟨b, o, none⟩ = some v) : ∃ ys t fz, w.heap[b]? = some (.cells ys t fz) ∧ ys[o]? = some v := by
  unfold World.cell? at h
  split at h
  · rename_i c t fz hc
    exact ⟨c, t, fz, hc, by simpa using h⟩
  · cases h
theorem loose.cell {wz w : World} {b o : Nat} {v : Value} (h : loose wz w b) (hc : cellA wz ⟨b, o, none⟩ v) : ∃ v', cellA w ⟨b, o, none⟩ v' ∧ (v' = v ∨ (isS v = true ∧ isS v' = true)) := by
  obtain ⟨ys, t, fz, h1, h2⟩ := cell_row hc.1
  obtain ⟨ys', h3, h4, h5⟩ := h ys t fz h1
  obtain ⟨v', h6, h7⟩ := h5 o v h2
  refine ⟨v', ⟨by simp [World.cell?, h3, h6], fun hw => ?_⟩, h7⟩
  have hw' : wrV v = true := by
    rcases h7 with rfl | ⟨h8, _⟩
    · exact hw
    · cases v <;> first | rfl | cases h8
  have := hc.2 hw'
  simpa [World.frozen?, h1, h3] using this
theorem loose.set {wz w : World} {b o : Nat} {v : Value} (h : loose wz w b) (hc : wz.cell? ⟨b, o, none⟩ = some v) (hv : isS v = true) (x : ByteArray) : loose wz (w.setCell ⟨b, o, none⟩ (.string x)) b := fun ys t fz hz => by
  obtain ⟨ys0, t0, fz0, h1, h2⟩ := cell_row hc
  rw [hz] at h1
  cases h1
  obtain ⟨ys', h3, h4, h5⟩ := h ys t fz hz
  refine ⟨ys'.setIfInBounds o (.string x), by simp [World.setCell, Array.getElem?_modify, h3], by simpa using h4, fun j u hj => ?_⟩
  by_cases e : o = j
  · subst e
    rw [h2] at hj
    cases hj
    have : o < ys'.size := by rw [h4]; exact (Array.getElem?_eq_some_iff.1 h2).1
    exact ⟨.string x, by simp [this], .inr ⟨hv, rfl⟩⟩
  · obtain ⟨v', h6, h7⟩ := h5 j u hj
    exact ⟨v', by rw [Array.getElem?_setIfInBounds_ne e]; exact h6, h7⟩
/-- A block that one must not touch, touched, so that what is known of such blocks still holds. -/
theorem SimE.zone {G : Gh} {s : St} {a : Act} {w : World} {E : Env} (h : SimE G s a w E) {b : Nat} (hof : G.Of b) (hge : G.w0.heap.size ≤ b) (hcl : isCells w b) {w' : World}
    (hos : w'.os = w.os) (htape : w'.tape = w.tape) (hout : w'.output = w.output) (hsz : w'.heap.size = w.heap.size) (hk : ∀ k, k ≠ b → w'.heap[k]? = w.heap[k]?) (hz : G.Zi w') : SimE G s a w' E := by
  have hne : ∀ k, ¬ OT G s E k → w'.heap[k]? = w.heap[k]? := fun k hk' => hk k fun e => hk' (.inl (e ▸ hof))
  refine ⟨fun i => (h.fr i).mono (by omega) (fun _ h _ => h) (fun k h1 _ => hne k h1) fun _ _ h => h, h.defers.mono rfl fun k hb _ hnc => ⟨hk k fun e => hnc (e ▸ hcl), hb⟩, h.size, fun id ob hob => ?_, h.us, h.inj, fun id ob k x k1 k2 => ?_, fun k hk => by rw [hsz]; exact h.old k hk, by rw [hsz]; exact h.grow,
    hos.trans h.os, htape.trans h.tape, hout.trans h.output, fun k h1 h2 => (hk k (by omega)).trans (h.keep k h1 h2), h.base, hz⟩
  · obtain ⟨bb, K, C, k1, k2⟩ := h.hp id ob hob
    refine ⟨bb, K, C, k1, k2.mono (by omega) (fun _ h _ => h) (fun k h1 _ => hne k h1) (fun _ _ h => h) fun b' hb' => ?_⟩
    subst hb'
    exact hk b' fun e => (h.fresh id ob b' _ hob k1).2.1 (e ▸ hof)
  · obtain ⟨q1, q2, q3⟩ := h.fresh id ob k x k1 k2
    exact ⟨q1, q2, by omega⟩

/-! Steps on exact values. -/
theorem semStep_zix {P : Program} {G : Gh} {o : Oper} {s : St} {Q : Exit → St → Prop} {rest : St → Prop} {t e sz : Nat} {x i : Operand} (ho : o.op = .indexAddr t x i) (hse : sliceElem P t = some (e, sz)) {b o' n cap : Nat} {kk : IntKind} {k : Int}
    (hx : ev s x = .v (.slice (some ⟨b, o', none⟩) n cap)) (hi : ev s i = .v (.int kk k)) (h0 : 0 ≤ k) (hk : k < n) (hc : chk G.n o.dst) (h : rest (putD s o.dst (.v (.pointer (some ⟨b, o' + k.toNat * sz, none⟩))))) : SemStep P G o s Q rest := by
  intro a w hs
  refine wpIn_of_wp (fun c hc => by rw [ho] at hc; cases hc) ?_
  refine stepOK_val (chk_spec hc) (fun a w E hs => ⟨.pointer (some ⟨b, o' + k.toNat * sz, none⟩), ?_, .r0 _ _ (.v _)⟩) a w hs _ _ fun a' w' hs' => ⟨_, h, hs'⟩
  obtain ⟨hu, inf, hinf, hsz⟩ := sliceElem_inv hse
  have hy := R.v_inv (ev_E hs hx)
  have hyi := R.v_inv (ev_E hs hi)
  simp [execOp, ho, Instr.indexAt, asIntOf, hyi, hy, run_under P w hu, run_size P w hinf, hsz, h0, hk, add_none]
theorem semStep_zld {P : Program} {G : Gh} {o : Oper} {s : St} {Q : Exit → St → Prop} {rest : St → Prop} {t n : Nat} {x : Operand} (ho : o.op = .load t x) (hl : loadK P t = some (true, n)) {b off : Nat}
    (hx : ev s x = .v (.pointer (some ⟨b, off, none⟩))) (f : Nat → Value) (hz : ∀ w, G.Zi w → ∀ j, j < n → w.cell? ⟨b, off + j, none⟩ = some (f j)) (hc : chk G.n o.dst)
    (h : rest (putD s o.dst (.agg ((List.range n).map fun j => .v (f j))))) : SemStep P G o s Q rest := by
  intro a w hs
  refine wpIn_of_wp (fun c hc => by rw [ho] at hc; cases hc) ?_
  refine stepOK_val (chk_spec hc) (fun a w E hs => ⟨.agg ((List.range n).map f).toArray, ?_, .agg _ _ (by simp) fun j u y h1 h2 => ?_⟩) a w hs _ _ fun a' w' hs' => ⟨_, h, hs'⟩
  · obtain ⟨d, i, hu, hi, hag, hsz⟩ := loadK_inv hl
    have hy := R.v_inv (ev_E hs hx)
    have hrun := load_cells (P := P) (w := w) (b := b) (o := off) (n := n) (f := f) (hz w hs.zi)
    simp [execOp, ho, hy, Instr.loadAt, Instr.sureAddr, loadVar, run_isAgg P w hu, hag, run_size P w hi, hsz, hrun]
  · have hj : j < n := by have := (List.getElem?_eq_some_iff.1 h1).1; simpa using this
    simp [hj] at h1 h2
    subst h1; subst h2
    exact .r0 _ _ (.v _)
theorem semStep_zst {P : Program} {G : Gh} {o : Oper} {s : St} {Q : Exit → St → Prop} {rest : St → Prop} {t : Nat} {ag : Bool} {p x : Operand} (ho : o.op = .store t p x) (hdst : o.dst = none) (hl : loadK P t = some (ag, 1)) {b off : Nat} {str : ByteArray}
    (hp : ev s p = .v (.pointer (some ⟨b, off, none⟩))) (hx : ev s x = .v (.string str)) (hof : G.Of b) (hge : G.w0.heap.size ≤ b)
    (hcell : ∀ w, G.Zi w → ∃ v, w.cell? ⟨b, off, none⟩ = some v ∧ w.frozen? ⟨b, off, none⟩ = false) (hz : ∀ w, G.Zi w → G.Zi (w.setCell ⟨b, off, none⟩ (.string str))) (h : rest s) : SemStep P G o s Q rest := by
  rintro a w ⟨E, hs⟩
  refine wpIn_of_wp (fun c hc => by rw [ho] at hc; cases hc) ?_
  obtain ⟨v, hc1, hc2⟩ := hcell w hs.zi
  have hyp := R.v_inv (ev_E hs hp)
  have hyx := R.v_inv (ev_E hs hx)
  have hrun : (execOp a.eval o).run P w = .ok .skip (w.setCell ⟨b, off, none⟩ (.string str)) := by
    have hst : (storeVar t ⟨b, off, none⟩ (.string str)).run P w = .ok () (w.setCell ⟨b, off, none⟩ (.string str)) := by
      rw [storeVar_run hl _ _ (by rfl)]
      have e : (Value.string str).cells.toList = [.string str] := rfl
      rw [e]
      simp only [storeCells, Sem.run_bind, add_none, Nat.add_zero]
      rw [run_store P w ⟨b, off, none⟩ (.string str) _ rfl]
      simp [hc1, hc2]
    simp [execOp, ho, Instr.storeAt, Instr.sureAddr, hyp, hyx, hst]
  unfold Oper.wp
  rw [hrun]
  refine ⟨s, h, ⟨E, ?_⟩⟩
  rw [hdst]
  refine hs.zone hof hge (isCells_of hc1) rfl rfl rfl (by simp [World.setCell]) (fun k hk => Below.heap_setCell w _ _ k hk) (hz w hs.zi)

theorem flat_seq (a b : Code) : flat (.seq a b) = flat a ++ flat b := rfl
theorem flat_region (id : Nat) (l : Array Oper) (d : Bool) : flat (.region id l d) = [.region id l d] := rfl
theorem flat_cond (c : Operand) (a b : Code) : flat (.cond c a b) = [.cond c a b] := rfl
theorem flat_block (id : Nat) (c : Code) : flat (.block id c) = [.block id c] := rfl
theorem flat_loop (c : Code) : flat (.loop c) = [.loop c] := rfl
theorem flat_ret : flat .ret = [.ret] := rfl
theorem flat_skip : flat .skip = [.skip] := rfl
theorem vcN_0 {P : Program} {G : Gh} {Q : Exit → St → Prop} (l : List Code) (s : St) : vcN P G Q 0 l s = SemL P G l s Q := rfl
theorem vcN_n {P : Program} {G : Gh} {Q : Exit → St → Prop} (n : Nat) (s : St) : vcN P G Q (n + 1) [] s = Q .normal s := rfl
theorem vcN_s {P : Program} {G : Gh} {Q : Exit → St → Prop} (n : Nat) (c : Code) (r : List Code) (s : St) : vcN P G Q (n + 1) (c :: r) s = vc P G c s (kseq (fun s _ => vcN P G Q n r s) Q) := rfl
attribute [go_sem] flat_seq flat_region flat_cond flat_block flat_loop flat_ret flat_skip List.singleton_append vcN_0 vcN_n vcN_s
theorem semL_ent {P : Program} {G : Gh} {l : List Code} {s s' : St} {Q : Exit → St → Prop} (he : Ent G s s') (h : SemL P G l s' Q) : SemL P G l s Q := fun a w hs => h a w (he a w hs)

/-- 'pure_intro' for a body in parts -/
theorem pure_introL (ow : Nat → Bool) {P : Program} {f : FuncId} {fn : Func} {c : Code} {as : List V} {r : Nat → V} {rs : List ResultVar} {m : Nat} (hf : P.funcs[f]? = some fn) (hm : fn.ntmps = m) (hb : fn.body = some c) (hname : (fn.name == "runtime.NumGoroutine") = false)
    (hn : as.length ≤ m) (hrs : fn.results = rs.toArray) (hl : rs.length ≤ 3)
    (h : ∀ (G : Gh), G.n = m → G.ow = ow → G.nm = [] → (∀ w, G.Zi w) → (∀ x ∈ as, Bd x) → SemL P G (flat c) (St.of (enumV 0 as) []) (EndsAt P G.lo rs (r G.lo))) : Gives P f as r := by
  subst hm
  refine ⟨⟨fn, hf, hname, by simp [hb]⟩, fun lo w O ys hlo hO ha => ?_⟩
  refine calls_of_wpIn (G := (pureG ow w O fn.ntmps lo hlo hO)) rfl hf hb ?_
  refine wpIn_mono (SemL.semC (h (pureG ow w O fn.ntmps lo hlo hO) rfl rfl rfl (fun _ => trivial) ha.bd) _ w (sim_enter ow hlo hO ha hn)) ?_
  rintro e a w' ⟨s, hq, hs⟩
  have fin := pure_fin (P := P) (ow := ow) (m := fn.ntmps) hlo hO hrs hl (r := r lo) hs
  cases e with
  | normal => exact fin hq
  | ret => exact fin hq
  | exit => exact hq.elim
  | goto => exact hq.elim
  | panic => exact hq.elim
  | outgrown => exact hq.elim

/-! A whole state, exact. -/
def exOf (y : Value) : V → V
  | .lst _ _ _ | .fp _ => .v y
  | x => x
def exCs (z : Nat → Value) : Nat → List V → List V
  | _, [] => []
  | j, x :: r => exOf (z j) x :: exCs z (j + 1) r
def exOB (z : Nat → Value) : OB → OB
  | .box cs => .box (exCs z 0 cs)
  | o => o
def exF (ys : Nat → Value) : List (Nat × V) → List (Nat × V)
  | [] => []
  | (i, x) :: r => (i, exOf (ys i) x) :: exF ys r
def exH (zs : Nat → Nat → Value) : List (Nat × OB) → List (Nat × OB)
  | [] => []
  | (i, o) :: r => (i, exOB (zs i) o) :: exH zs r
theorem exF_lk (ys : Nat → Value) : ∀ (fl : List (Nat × V)) (i : Nat), lkV (exF ys fl) i = exOf (ys i) (lkV fl i) := by
  intro fl
  induction fl with
  | nil => intro i; rfl
  | cons p r ih =>
    obtain ⟨j, x⟩ := p
    intro i
    simp only [exF, lkV]
    split
    · rename_i e; subst e; rfl
    · exact ih i
theorem exH_lk (zs : Nat → Nat → Value) : ∀ (hl : List (Nat × OB)) (i : Nat), lkH (exH zs hl) i = (lkH hl i).map (exOB (zs i)) := by
  intro hl
  induction hl with
  | nil => intro i; rfl
  | cons p r ih =>
    obtain ⟨j, x⟩ := p
    intro i
    simp only [exH, lkH]
    split
    · rename_i e; subst e; rfl
    · exact ih i
theorem exH_us (zs : Nat → Nat → Value) : ∀ (hl : List (Nat × OB)) (i : Nat), usH (exH zs hl) i = usH hl i := by
  intro hl
  induction hl with
  | nil => intro i; rfl
  | cons p r ih => intro i; simp only [exH, usH, ih]
theorem exCs_get (z : Nat → Value) : ∀ (cs : List V) (k j : Nat), (exCs z k cs)[j]? = (cs[j]?).map (exOf (z (k + j))) := by
  intro cs
  induction cs with
  | nil => intro k j; simp [exCs]
  | cons x r ih =>
    intro k j
    cases j with
    | zero => simp [exCs]
    | succ j => simp only [exCs, List.getElem?_cons_succ, ih]; rw [show k + 1 + j = k + (j + 1) by omega]
theorem exCs_len (z : Nat → Value) : ∀ (cs : List V) (k : Nat), (exCs z k cs).length = cs.length := by
  intro cs
  induction cs with
  | nil => intro k; rfl
  | cons x r ih => intro k; simp [exCs, ih]
theorem exOf_R {w : World} {O : Nat → Prop} {E : Env} {x : V} {y : Value} (h : R w O E x y) : R w O E (exOf y x) y := by
  cases x <;> first | exact h | exact .r0 _ _ (.v _)
def cellsOf (w : World) (E : Env) (id j : Nat) : Value := match E id with
  | some (some b, _, _) => match w.heap[b]? with
    | some (.cells ys _ _) => ys.getD j undef
    | _ => undef
  | _ => undef
theorem SimE.exact {G : Gh} {fl : List (Nat × V)} {hl : List (Nat × OB)} {a : Act} {w : World} {E : Env} (h : SimE G (St.of fl hl) a w E) : ∃ (ys : Nat → Value) (zs : Nat → Nat → Value),
    (∀ i, R w (OT G (St.of fl hl) E) E (lkV fl i) (ys i)) ∧ (∀ id cs j u, lkH hl id = some (.box cs) → cs[j]? = some u → R w (OT G (St.of fl hl) E) E u (zs id j)) ∧
    (∀ b, OT G (St.of (exF ys fl) (exH zs hl)) E b ↔ OT G (St.of fl hl) E b) ∧ SimE G (St.of (exF ys fl) (exH zs hl)) a w E := by
  have hz : ∀ id cs j u, lkH hl id = some (.box cs) → cs[j]? = some u → R w (OT G (St.of fl hl) E) E u (cellsOf w E id j) := fun id cs j u h1 h2 => by
    obtain ⟨b, K, C, k1, b', ys, t, rfl, g2, g3, g4, g5, g6⟩ := h.hp id _ h1
    have hj : j < ys.size := by rw [g3]; exact (List.getElem?_eq_some_iff.1 h2).1
    simp only [cellsOf, k1, g2]
    exact g6 j u _ h2 (by simp [hj])
  have hlive : ∀ b, live (St.of (exF (fun i => a.tmps.getD i undef) fl) (exH (cellsOf w E) hl)) E b ↔ live (St.of fl hl) E b := fun b => by
    constructor
    · rintro ⟨id, ob, K, C, h1, h2⟩
      have h1' : lkH (exH (cellsOf w E) hl) id = some ob := h1
      rw [exH_lk] at h1'
      simp only [Option.map_eq_some_iff] at h1'
      obtain ⟨o, h3, _⟩ := h1'
      exact ⟨id, o, K, C, h3, h2⟩
    · rintro ⟨id, ob, K, C, h1, h2⟩
      have h1' : lkH hl id = some ob := h1
      refine ⟨id, exOB (cellsOf w E id) ob, K, C, ?_, h2⟩
      show lkH (exH (cellsOf w E) hl) id = _
      rw [exH_lk, h1']; rfl
  have hOT : ∀ b, OT G (St.of (exF (fun i => a.tmps.getD i undef) fl) (exH (cellsOf w E) hl)) E b ↔ OT G (St.of fl hl) E b := fun b => or_congr Iff.rfl (hlive b)
  have hO' : ∀ b, ¬ OT G (St.of fl hl) E b → ¬ OT G (St.of (exF (fun i => a.tmps.getD i undef) fl) (exH (cellsOf w E) hl)) E b := fun b hb hb' => hb ((hOT b).1 hb')
  have back : ∀ {id ob}, lkH (exH (cellsOf w E) hl) id = some ob → ∃ o, lkH hl id = some o ∧ ob = exOB (cellsOf w E id) o := fun {id ob} h1 => by
    rw [exH_lk] at h1
    simp only [Option.map_eq_some_iff] at h1
    obtain ⟨o, h3, h4⟩ := h1
    exact ⟨o, h3, h4.symm⟩
  refine ⟨fun i => a.tmps.getD i undef, cellsOf w E, h.fr, hz, hOT, ⟨fun i => ?_, h.defers.mono rfl fun b hb _ _ => ⟨rfl, fun hl => hb ((hlive b).1 hl)⟩, h.size, fun id ob hob => ?_, fun id hid => ?_, fun i i' o o' b x x' k1 k2 k3 k4 => ?_, fun i o b x k1 k2 => ?_, h.old, h.grow, h.os, h.tape, h.output, h.keep, h.base, h.zi⟩⟩
  · show R w _ E (lkV (exF _ fl) i) _
    rw [exF_lk]
    exact (exOf_R (h.fr i)).weak hO' fun _ _ h => h
  · obtain ⟨o, h1, rfl⟩ := back hob
    obtain ⟨b, K, C, k1, k2⟩ := h.hp id o h1
    refine ⟨b, K, C, k1, ?_⟩
    cases o with
    | arr t sz l => exact k2.mono (Nat.le_refl _) (fun b hb _ => hO' b hb) (fun _ _ _ => rfl) (fun _ _ h => h) fun _ _ => rfl
    | map kk m => exact k2.mono (Nat.le_refl _) (fun b hb _ => hO' b hb) (fun _ _ _ => rfl) (fun _ _ h => h) fun _ _ => rfl
    | obj x => exact k2.mono (Nat.le_refl _) (fun b hb _ => hO' b hb) (fun _ _ _ => rfl) (fun _ _ h => h) fun _ _ => rfl
    | box cs =>
      obtain ⟨b', ys, t, rfl, g2, g3, g4, g5, g6⟩ := k2
      refine ⟨b', ys, t, rfl, g2, by rw [exCs_len]; exact g3, by rw [exCs_len]; exact g4, g5, fun j u y q1 q2 => ?_⟩
      rw [exCs_get] at q1
      simp only [Option.map_eq_some_iff, Nat.zero_add] at q1
      obtain ⟨u', q3, rfl⟩ := q1
      have e : cellsOf w E id j = y := by simp only [cellsOf, k1, g2]; rw [Array.getD_eq_getD_getElem?, q2]; rfl
      rw [e]
      exact (exOf_R (g6 j u' y q3 q2)).weak hO' fun _ _ h => h
  · show usH (exH _ hl) id = true
    rw [exH_us]; exact h.us id hid
  · obtain ⟨_, f1, _⟩ := back k1
    obtain ⟨_, f2, _⟩ := back k2
    exact h.inj i i' _ _ b x x' f1 f2 k3 k4
  · obtain ⟨_, f1, _⟩ := back k1
    exact h.fresh i _ b x f1 k2

/-- FROM HERE ON EXACT: what the values are, was told in world 'w1', and old blocks stay as they were there. -/
theorem semL_exact {P : Program} {G : Gh} {l : List Code} {fl : List (Nat × V)} {hl : List (Nat × OB)} {Q : Exit → St → Prop} (hZ : ∀ w, G.Zi w)
    (h : ∀ (w1 : World) (O1 : Nat → Prop) (ys : Nat → Value) (zs : Nat → Nat → Value) (G1 : Gh), G1.n = G.n → G1.ow = G.ow → G1.lo = G.lo → G1.nm = G.nm → G1.w0.heap.size ≤ w1.heap.size →
      (∀ i, pureV (lkV fl i) = true → R0 w1 O1 (lkV fl i) (ys i)) → (∀ id cs j u, lkH hl id = some (.box cs) → cs[j]? = some u → pureV u = true → R0 w1 O1 u (zs id j)) →
      (∀ w, G1.Zi w → w1.heap.size ≤ w.heap.size ∧ ∀ b, b < w1.heap.size → ¬ O1 b → w.heap[b]? = w1.heap[b]?) →
      (∀ w b o v, w1.heap.size ≤ b → G1.Zi w → G1.Zi (w.setCell ⟨b, o, none⟩ v)) →
      exFl (exF ys fl) = true ∧ exHp (exH zs hl) = true ∧ SemL P G1 l (St.of (exF ys fl) (exH zs hl)) Q) (hg0 : globs = [] := by rfl) : SemL P G l (St.of fl hl) Q := by
  refine semL_enter fun a w1 E hE => ?_
  obtain ⟨ys, zs, hys, hzs, hOT, hE'⟩ := hE.exact
  have hz' : ∀ w w' : World, w.heap.size ≤ w'.heap.size → (∀ b, (G.Of b ∨ (b < w1.heap.size ∧ ¬ OT G (St.of fl hl) E b)) → w'.heap[b]? = w.heap[b]?) →
      (w1.heap.size ≤ w.heap.size ∧ ∀ b, b < w1.heap.size → ¬ OT G (St.of fl hl) E b → w.heap[b]? = w1.heap[b]?) →
      (w1.heap.size ≤ w'.heap.size ∧ ∀ b, b < w1.heap.size → ¬ OT G (St.of fl hl) E b → w'.heap[b]? = w1.heap[b]?) := fun w w' hsz hO hw =>
    ⟨by omega, fun b h1 h2 => (hO b (.inr ⟨h1, h2⟩)).trans (hw.2 b h1 h2)⟩
  obtain ⟨c1, c2, c3⟩ := h w1 (OT G (St.of fl hl) E) ys zs (G.widen (fun b => G.Of b ∨ (b < w1.heap.size ∧ ¬ OT G (St.of fl hl) E b))
    (fun w => w1.heap.size ≤ w.heap.size ∧ ∀ b, b < w1.heap.size → ¬ OT G (St.of fl hl) E b → w.heap[b]? = w1.heap[b]?) hz' hg0) rfl rfl rfl rfl hE.grow
    (fun i hp => (hys i).pureV hp) (fun id cs j u h1 h2 hp => (hzs id cs j u h1 h2).pureV hp) (fun w hw => hw)
    (fun w b o v hb hw => ⟨by have := hw.1; simpa [World.setCell] using this, fun k h1 h2 => (Below.heap_setCell w _ v k (by show k ≠ b; omega)).trans (hw.2 k h1 h2)⟩)
  refine ⟨_, _, ?_, ?_, ?_, c3⟩
  · rfl
  · exact fun s' a' w' hs' => hs'.narrow (fun b hb => .inl hb) (fun w _ => hZ w)
  refine ⟨E, hE'.widen c1 c2 (fun b hb => ?_) ⟨Nat.le_refl _, fun _ _ _ => rfl⟩⟩
  rcases hb with hb | ⟨h1, h2⟩
  · refine ⟨hE.old b hb, ?_⟩
    rintro ⟨id, ob, K, C, q1, q2⟩
    exact (hE'.fresh id ob b _ q1 q2).2.1 hb
  · exact ⟨h1, fun hlv => h2 ((hOT b).1 (.inr hlv))⟩
/-- FROM HERE ON LOOSE: old blocks that are nobody's may get other texts in the place of texts. 'N': from there on they may. -/
theorem semL_loose {P : Program} {G : Gh} {l : List Code} {fl : List (Nat × V)} {hl : List (Nat × OB)} {Q : Exit → St → Prop} {N : Nat} (hN : ∀ w b o v, N ≤ b → G.Zi w → G.Zi (w.setCell ⟨b, o, none⟩ v))
    (h : ∀ (w2 : World) (O2 : Nat → Prop) (ys : Nat → Value) (zs : Nat → Nat → Value) (G2 : Gh), G2.n = G.n → G2.ow = G.ow → G2.lo = G.lo → G2.nm = G.nm → G2.w0 = G.w0 →
      (∀ i, pureV (lkV fl i) = true → R0 w2 O2 (lkV fl i) (ys i)) → (∀ id cs j u, lkH hl id = some (.box cs) → cs[j]? = some u → pureV u = true → R0 w2 O2 u (zs id j)) →
      (∀ w, G2.Zi w → G.Zi w ∧ ∀ b, b < w2.heap.size → ¬ O2 b → loose w2 w b) →
      (∀ w b o v x, N ≤ b → b < w2.heap.size → ¬ O2 b → w2.cell? ⟨b, o, none⟩ = some v → isS v = true → G2.Zi w → G2.Zi (w.setCell ⟨b, o, none⟩ (.string x))) →
      (∀ b, b < w2.heap.size → ¬ O2 b → G2.Of b) →
      exFl (exF ys fl) = true ∧ exHp (exH zs hl) = true ∧ SemL P G2 l (St.of (exF ys fl) (exH zs hl)) Q) (hg0 : globs = [] := by rfl) : SemL P G l (St.of fl hl) Q := by
  refine semL_enter fun a w2 E hE => ?_
  obtain ⟨ys, zs, hys, hzs, hOT, hE'⟩ := hE.exact
  have hz' : ∀ w w' : World, w.heap.size ≤ w'.heap.size → (∀ b, (G.Of b ∨ (b < w2.heap.size ∧ ¬ OT G (St.of fl hl) E b)) → w'.heap[b]? = w.heap[b]?) →
      (G.Zi w ∧ ∀ b, b < w2.heap.size → ¬ OT G (St.of fl hl) E b → loose w2 w b) →
      (G.Zi w' ∧ ∀ b, b < w2.heap.size → ¬ OT G (St.of fl hl) E b → loose w2 w' b) := fun w w' hsz hO hw =>
    ⟨G.hZi w w' hsz (fun b hb => hO b (.inl hb)) hw.1, fun b h1 h2 => (hw.2 b h1 h2).next (hO b (.inr ⟨h1, h2⟩))⟩
  obtain ⟨c1, c2, c3⟩ := h w2 (OT G (St.of fl hl) E) ys zs (G.widen (fun b => G.Of b ∨ (b < w2.heap.size ∧ ¬ OT G (St.of fl hl) E b))
    (fun w => G.Zi w ∧ ∀ b, b < w2.heap.size → ¬ OT G (St.of fl hl) E b → loose w2 w b) hz' hg0) rfl rfl rfl rfl rfl
    (fun i hp => (hys i).pureV hp) (fun id cs j u h1 h2 hp => (hzs id cs j u h1 h2).pureV hp) (fun w hw => hw)
    (fun w b o v x hb hlt hO hc hv hw => ⟨hN w b o _ hb hw.1, fun k h1 h2 => by
      by_cases e : k = b
      · subst e; exact (hw.2 k h1 h2).set hc hv x
      · exact (hw.2 k h1 h2).next (Below.heap_setCell w _ _ k e)⟩) (fun b h1 h2 => .inr ⟨h1, h2⟩)
  refine ⟨_, _, ?_, ?_, ?_, c3⟩
  · rfl
  · exact fun s' a' w' hs' => hs'.narrow (fun b hb => .inl hb) (fun w hw => hw.1)
  refine ⟨E, hE'.widen c1 c2 (fun b hb => ?_) ⟨hE.zi, fun _ _ _ => loose.same rfl⟩⟩
  rcases hb with hb | ⟨h1, h2⟩
  · refine ⟨hE.old b hb, ?_⟩
    rintro ⟨id, ob, K, C, q1, q2⟩
    exact (hE'.fresh id ob b _ q1 q2).2.1 hb
  · exact ⟨h1, fun hlv => h2 ((hOT b).1 (.inr hlv))⟩

/-! What may be written: a slice of texts; a slice of rows whose last cell is such a slice. -/
def WrC (G : Gh) (b o : Nat) : Prop := G.Of b ∧ G.w0.heap.size ≤ b ∧ (∀ w, G.Zi w → ∃ v, w.cell? ⟨b, o, none⟩ = some v ∧ w.frozen? ⟨b, o, none⟩ = false) ∧ ∀ w x, G.Zi w → G.Zi (w.setCell ⟨b, o, none⟩ (.string x))
def WS (G : Gh) (y : Value) : Prop := ∃ a n cap, y = .slice a n cap ∧ n ≤ 140737488355328 ∧ (0 < n → ∃ b o, a = some ⟨b, o, none⟩ ∧ ∀ k, k < n → WrC G b (o + k))
def WH (G : Gh) (y : Value) : Prop := ∃ a n cap, y = .slice a n cap ∧ n ≤ 140737488355328 ∧ (0 < n → ∃ b o, a = some ⟨b, o, none⟩ ∧ ∀ k, k < n → ∃ f : Nat → Value, (∀ w, G.Zi w → ∀ j, j < 3 → w.cell? ⟨b, o + k * 3 + j, none⟩ = some (f j)) ∧ (∃ i0 i1 : Int, f 0 = .int .i64 i0 ∧ f 1 = .int .i64 i1) ∧ WS G (f 2))
end Pm
end Go.Proofs.Ytgienbcekgokiaa
