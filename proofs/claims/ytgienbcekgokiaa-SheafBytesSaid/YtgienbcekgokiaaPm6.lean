/- Code as one formula; loops; what a function that only reads is told to give; calls. No program in sight. -/
import Derived.Test.YtgienbcekgokiaaPm5
namespace Go.Proofs.Ytgienbcekgokiaa
open Go
set_option linter.unusedSimpArgs false
set_option linter.unusedVariables false
namespace Pm

def kseq (k : St → (Exit → St → Prop) → Prop) (Q : Exit → St → Prop) : Exit → St → Prop
  | .normal, s => k s Q
  | e, s => Q e s
def kblk (id : Nat) (Q : Exit → St → Prop) : Exit → St → Prop
  | .exit i, s => if i = id then Q .normal s else Q (.exit i) s
  | e, s => Q e s
def kscp (Q : Exit → St → Prop) : Exit → St → Prop
  | .goto _, _ => False
  | e, s => Q e s
section
variable {F : Fence} {n : Nat} {P : Program} {b : Frame} {a : Act} {k : List Item} {cs : List Frame} {w : World} {Q : Exit → Act → World → Prop}
theorem stepR_scope {c : Code} : step P (lone (b.atR a (.code (.scope c) :: k)) cs w) = .next (lone (b.atR a (.code c :: .inScope c :: k)) cs w) :=
  step_lone_go (by simp [stepG, stepG.exec, Frame.atR])
theorem stepR_inScope {c : Code} : step P (lone (b.atR a (.inScope c :: k)) cs w) = .next (lone (b.atR a k) cs w) :=
  step_lone_go (by simp [stepG, stepG.exec, Frame.atR])
def nogo (Q : Exit → Act → World → Prop) : Exit → Act → World → Prop
  | .goto _, _, _ => False
  | e, a, w => Q e a w
theorem wpIn_scope {c : Code} (h : c.wpIn F n P (nogo Q) a w) : (Code.scope c).wpIn F n P Q a w := by
  intro b k cs hro hb hr
  have h0 : (lone (b.atR a (.code (.scope c) :: k)) cs w).fenced P F := fenced_calm hb hr rfl
  obtain ⟨e, a₁, w₁, hq, harr⟩ := h b (.inScope c :: k) cs hro hb hr
  cases e with
  | normal => exact ⟨.normal, a₁, w₁, hq, .head h0 stepR_scope (StepsIn.trans harr (.one (fenced_calm hb hr rfl) stepR_inScope))⟩
  | exit id =>
    have hx : exitTo id (.inScope c :: k) = exitTo id k := by simp [exitTo]
    exact ⟨_, a₁, w₁, hq, fun k' hk => .head h0 stepR_scope (harr.1 k' (by rw [hx]; exact hk)),
      fun hr' hk => let ⟨k₁, h1, h2⟩ := harr.2 hr' (by rw [hx]; exact hk); ⟨k₁, h1, .head h0 stepR_scope h2⟩⟩
  | goto l => exact hq.elim
  | ret => exact ⟨_, a₁, w₁, hq, .of_steps (.one h0 stepR_scope) harr⟩
  | panic ch => exact ⟨_, a₁, w₁, hq, .of_steps (.one h0 stepR_scope) harr⟩
  | outgrown => exact ⟨_, a₁, w₁, hq, .of_steps (.one h0 stepR_scope) harr⟩
end
def vc (P : Program) (G : Gh) : Code → St → (Exit → St → Prop) → Prop
  | .skip, s, Q => Q .normal s
  | .region id ops draw, s, Q => match draw with
    | false => vcOps P G ops.toList Q ops.toList s
    | true => SemC P G (.region id ops true) s Q
  | .seq a b, s, Q => vc P G a s (kseq (vc P G b) Q)
  | .cond c x y, s, Q => match ev s c with
    | .v (.bool b) => (b = true → vc P G x s Q) ∧ (b = false → vc P G y s Q)
    | _ => SemC P G (.cond c x y) s Q
  | .block id c, s, Q => vc P G c s (kblk id Q)
  | .exit id, s, Q => Q (.exit id) s
  | .ret, s, Q => Q .ret s
  | .label _, s, Q => Q .normal s
  | .scope c, s, Q => vc P G c s (kscp Q)
  | c, s, Q => SemC P G c s Q

theorem lift_kseq {P : Program} {G : Gh} {b : Code} {Q : Exit → St → Prop} (hb : ∀ s, vc P G b s Q → SemC P G b s Q) (e : Exit) (a : Act) (w : World)
    (h : lift G (kseq (vc P G b) Q) e a w) : Exit.then (b.wpIn G.F 0 P (lift G Q)) (lift G Q) e a w := by
  obtain ⟨s, hq, hs⟩ := h
  cases e with
  | normal => exact hb s hq a w hs
  | _ => exact ⟨s, hq, hs⟩
theorem lift_kblk {G : Gh} {id : Nat} {Q : Exit → St → Prop} (e : Exit) (a : Act) (w : World) (h : lift G (kblk id Q) e a w) : Exit.inBlock id (lift G Q) e a w := by
  obtain ⟨s, hq, hs⟩ := h
  cases e with
  | exit i =>
    simp only [kblk] at hq
    simp only [Exit.inBlock]
    split at hq <;> rename_i h
    · rw [if_pos h]; exact ⟨s, hq, hs⟩
    · rw [if_neg h]; exact ⟨s, hq, hs⟩
  | _ => exact ⟨s, hq, hs⟩

theorem lift_kscp {G : Gh} {Q : Exit → St → Prop} (e : Exit) (a : Act) (w : World) (h : lift G (kscp Q) e a w) : nogo (lift G Q) e a w := by
  obtain ⟨s, hq, hs⟩ := h
  cases e with
  | goto => exact hq.elim
  | _ => exact ⟨s, hq, hs⟩
theorem vc_sound {P : Program} {G : Gh} : ∀ (c : Code) (s : St) (Q : Exit → St → Prop), vc P G c s Q → SemC P G c s Q := by
  intro c
  induction c with
  | skip => intro s Q h a w hs; exact wpIn_skip ⟨s, h, hs⟩
  | region id ops draw =>
    intro s Q h
    cases draw with
    | false =>
      intro a w hs
      have := vcOps_sound _ _ h a w hs
      exact wpIn_region_list (by simpa using this)
    | true => exact h
  | seq x y ihx ihy =>
    intro s Q h a w hs
    exact wpIn_seq (wpIn_mono (ihx s _ h a w hs) (lift_kseq (fun s => ihy s Q)))
  | cond c x y ihx ihy =>
    intro s Q h
    unfold vc at h
    split at h
    · rename_i b hb
      rintro a w ⟨E, hE⟩
      refine wpIn_cond_split (t := b) (R.v_inv (ev_E hE hb)) (fun ht => ihx s Q (h.1 ht) a w ⟨E, hE⟩) (fun hf => ihy s Q (h.2 hf) a w ⟨E, hE⟩)
    · exact h
  | block id c ih =>
    intro s Q h a w hs
    exact wpIn_block (wpIn_mono (ih s _ h a w hs) lift_kblk)
  | exit id => intro s Q h a w hs; exact wpIn_exit ⟨s, h, hs⟩
  | ret => intro s Q h a w hs; exact wpIn_ret ⟨s, h, hs⟩
  | label l => intro s Q h a w hs; exact wpIn_label ⟨s, h, hs⟩
  | scope c ih => intro s Q h a w hs; exact wpIn_scope (wpIn_mono (ih s _ h a w hs) lift_kscp)
  | _ => intro s Q h; exact h

/-- One state says no more than another one. -/
def Ent (G : Gh) (s s' : St) : Prop := ∀ a w, Sim G s a w → Sim G s' a w

theorem wpIn_loop_ghost {F : Fence} {m : Nat} {P : Program} {Q : Exit → Act → World → Prop} {a : Act} {w : World} {c : Code} (I : Nat → Act → World → Prop) (n₀ : Nat) (h₀ : I n₀ a w)
    (round : ∀ n a w, I n a w → c.wpIn F m P (Exit.then (fun a' w' => ∃ n', n' < n ∧ I n' a' w') Q) a w) : (Code.loop c).wpIn F m P Q a w := by
  refine wpIn_loop (fun a w => ∃ n, I n a w) (fun a w => leastOf (fun n => I n a w)) ⟨n₀, h₀⟩ ?_
  intro a w hI
  refine wpIn_mono (round _ a w (leastOf_spec hI).1) ?_
  intro e a' w' hq
  cases e with
  | normal =>
    obtain ⟨n', hlt, hI'⟩ := hq
    exact show (∃ n, I n a' w') ∧ leastOf (fun n => I n a' w') < leastOf (fun n => I n a w) from ⟨⟨n', hI'⟩, Nat.lt_of_le_of_lt ((leastOf_spec ⟨n', hI'⟩).2 n' hI') hlt⟩
  | _ => exact hq
/-- A LOOP: states by a ghost, which every round lowers. -/
theorem semC_loop {P : Program} {G : Gh} {c : Code} {s : St} {Q : Exit → St → Prop} {α : Type} (F : α → St) (I : α → Prop) (μ : α → Nat) (x0 : α) (h0 : I x0) (he : Ent G s (F x0))
    (body : ∀ x, I x → SemC P G c (F x) (fun e s' => match e with | .normal => ∃ y, I y ∧ μ y < μ x ∧ Ent G s' (F y) | e => Q e s')) : SemC P G (.loop c) s Q := by
  intro a w hs
  refine wpIn_loop_ghost (fun n a w => ∃ x, I x ∧ μ x = n ∧ Sim G (F x) a w) (μ x0) ⟨x0, h0, rfl, he _ _ hs⟩ ?_
  rintro n a w ⟨x, hI, rfl, hs⟩
  refine wpIn_mono (body x hI a w hs) ?_
  rintro e a' w' ⟨s', hq, hs'⟩
  cases e with
  | normal =>
    obtain ⟨y, hy, hlt, hent⟩ := hq
    exact ⟨μ y, hlt, y, hy, rfl, hent _ _ hs'⟩
  | _ => exact ⟨s', hq, hs'⟩

/-- What is owed where a block ends, by a state that is written out: 'b' comes behind it. -/
def cutQ (G : Gh) (i : Nat) {α : Type} (F : α → St) (I : α → Prop) (Q : Exit → St → Prop) : Exit → St → Prop
  | .exit j, s => if j = i then ∃ x, I x ∧ Ent G s (F x) else Q (.exit j) s
  | .normal, s => ∃ x, I x ∧ Ent G s (F x)
  | e, s => Q e s
theorem semC_cut {P : Program} {G : Gh} {c b : Code} {s : St} {Q : Exit → St → Prop} {i : Nat} {α : Type} (F : α → St) (I : α → Prop) (h1 : SemC P G c s (cutQ G i F I Q)) (h2 : ∀ x, I x → vc P G b (F x) Q) :
    SemC P G c s (kblk i (kseq (vc P G b) Q)) := by
  intro a w hs
  refine wpIn_mono (h1 a w hs) ?_
  rintro e a' w' ⟨s', hq, hs'⟩
  have fin : (∃ x, I x ∧ Ent G s' (F x)) → lift G (kseq (vc P G b) Q) .normal a' w' := fun ⟨x, hI, he⟩ => ⟨F x, h2 x hI, he _ _ hs'⟩
  cases e with
  | normal =>
    obtain ⟨s2, h3, h4⟩ := fin hq
    exact ⟨s2, h3, h4⟩
  | exit j =>
    simp only [cutQ] at hq
    split at hq
    · rename_i hj
      obtain ⟨s2, h3, h4⟩ := fin hq
      exact ⟨s2, by simp only [kblk]; rw [if_pos hj]; exact h3, h4⟩
    · rename_i hj
      exact ⟨s', by simp only [kblk]; rw [if_neg hj]; exact hq, hs'⟩
  | ret => exact ⟨s', hq, hs'⟩
  | goto => exact ⟨s', hq, hs'⟩
  | panic => exact ⟨s', hq, hs'⟩
  | outgrown => exact ⟨s', hq, hs'⟩

/-! Entailment towards a state that is written out. -/
theorem R.weak {w : World} {O O' : Nat → Prop} {E E' : Env} {x : V} {y : Value} (h : R w O E x y) (hO : ∀ b, ¬ O b → ¬ O' b) (hE : ∀ id r, E id = some r → E' id = some r) : R w O' E' x y :=
  h.mono (Nat.le_refl _) (fun b hb _ => hO b hb) (fun _ _ _ => rfl) hE


abbrev Ren := List (Nat × Option Nat)
def lkR : Ren → Nat → Option (Option Nat)
  | [], _ => none
  | (i, x) :: r, j => if i = j then some x else lkR r j
/-- One value says no more than another one (of those that nobody writes any more). -/
def Sub (x x' : V) : Prop := ∀ w O y, R0 w O x y → R0 w O x' y
def okL (f : V → V → Prop) : List V → List V → Prop
  | [], [] => True
  | u :: us, x :: xs => f u x ∧ okL f us xs
  | _, _ => False
/-- 'x', in the elder names, is what 'u' says in the later ones. -/
def okN (ρ : Ren) : Nat → V → V → Prop
  | 0, _, _ => False
  | n + 1, u, x => match u with
    | .any => True
    | .v a => x = .v a
    | .lst lo sz l => x = .lst lo sz l ∨ (pure0 x = true ∧ Sub x (.lst lo sz l))
    | .fp cs => x = .fp cs ∨ (pure0 x = true ∧ Sub x (.fp cs))
    | .ptr id off => match lkR ρ id with
      | some (some j) => x = .ptr j off
      | _ => False
    | .eptr id i k sz => match lkR ρ id with
      | some (some j) => x = .eptr j i k sz
      | _ => False
    | .mp id => match lkR ρ id with
      | some (some j) => x = .mp j
      | _ => False
    | .own id off len sz => match lkR ρ id with
      | some (some j) => x = .own j off len sz
      | some none => x = .v (.slice none 0 0) ∧ off = 0 ∧ len = 0
      | none => False
    | .agg us => match x with
      | .agg xs => okL (okN ρ n) us xs
      | _ => False
    | .tup us => match x with
      | .tup xs => okL (okN ρ n) us xs
      | _ => False
    | .fn f us => (x = .fn f us ∧ all0 us = true) ∨ match x with
      | .fn f' xs => f = f' ∧ okL (okN ρ n) us xs
      | _ => False
def obOK (ρ : Ren) : OB → Option OB → Prop
  | .box us, some (.box xs) => okL (okN ρ 4) us xs
  | .arr t sz l, some (.arr t' sz' l') => t = t' ∧ sz = sz' ∧ l = l'
  | .map kk m, some (.map kk' m') => kk = kk' ∧ m.map (·.1) = m'.map (·.1) ∧ okL (okN ρ 4) (m.map (·.2)) (m'.map (·.2))
  | .obj o, some (.obj o') => o = o'
  | _, _ => False
def entS (ρ : Ren) (s : St) : List (Nat × V) → Prop
  | [] => True
  | (i, x) :: r => okN ρ 4 x (s.get i) ∧ entS ρ s r
def nilArr : OB → Prop
  | .arr _ sz l => 0 < sz ∧ l = []
  | _ => False
def entH1 (ρ : Ren) (s : St) (ob : OB) : Option (Option Nat) → Prop
  | some (some j) => obOK ρ ob (s.hget j)
  | some none => nilArr ob
  | none => False
def entH (ρ : Ren) (s : St) : List (Nat × OB) → Prop
  | [] => True
  | (id, ob) :: r => entH1 ρ s ob (lkR ρ id) ∧ entH ρ s r
/-- two names are not one -/
def apart (j : Nat) : Ren → Prop
  | [] => True
  | (_, some k) :: r => j ≠ k ∧ apart j r
  | (_, none) :: r => apart j r
def injR : Ren → Prop
  | [] => True
  | (_, some j) :: r => apart j r ∧ injR r
  | (_, none) :: r => injR r
/-- every name of the renaming is a name of the later state -/
def coverR (hl : List (Nat × OB)) : Ren → Prop
  | [] => True
  | (i, _) :: r => usH hl i = true ∧ coverR hl r
def envR (ρ : Ren) (E : Env) : Env := fun id => match lkR ρ id with
  | some (some j) => E j
  | some none => some (none, 0, 0)
  | none => none

theorem all0_allP : ∀ {l : List V}, all0 l = true → allP l = true := by
  intro l
  induction l with
  | nil => intro _; rfl
  | cons x r ih =>
    intro h
    simp only [all0, Bool.and_eq_true] at h
    simp only [allP, ih h.2, Bool.and_true]
    cases x <;> first | rfl | exact h.1 | cases h.1
theorem okL_spec {f : V → V → Prop} : ∀ {us xs : List V}, okL f us xs → us.length = xs.length ∧ ∀ (j : Nat) (u : V), us[j]? = some u → ∃ x, xs[j]? = some x ∧ f u x := by
  intro us
  induction us with
  | nil =>
    intro xs h
    cases xs with
    | nil => exact ⟨rfl, by simp⟩
    | cons => exact h.elim
  | cons u us ih =>
    intro xs h
    cases xs with
    | nil => exact h.elim
    | cons x xs =>
      obtain ⟨h1, h2⟩ := h
      obtain ⟨h3, h4⟩ := ih h2
      refine ⟨by simp [h3], fun j u' hj => ?_⟩
      cases j with
      | zero => simp at hj; subst hj; exact ⟨x, rfl, h1⟩
      | succ j => simp at hj; simpa using h4 j u' hj
theorem sub_R {w : World} {O : Nat → Prop} {E E' : Env} {x u : V} {y : Value} (hp : pure0 x = true) (hs : Sub x u) (h : R w O E x y) : R w O E' u y := .r0 _ _ (hs _ _ _ (R.pure0 hp h))
theorem ren {w : World} {O : Nat → Prop} {E : Env} {ρ : Ren} : ∀ (n : Nat) {u x : V} {y : Value}, okN ρ n u x → R w O E x y → R w O (envR ρ E) u y := by
  intro n
  induction n with
  | zero => intro u x y h; exact h.elim
  | succ n ih =>
    intro u x y hu h
    have arr : ∀ {us xs : List V} {ys : Array Value}, okL (okN ρ n) us xs → ys.size = xs.length → (∀ (j : Nat) (u : V) (y : Value), xs[j]? = some u → ys[j]? = some y → R w O E u y) →
        ys.size = us.length ∧ ∀ (j : Nat) (u : V) (y : Value), us[j]? = some u → ys[j]? = some y → R w O (envR ρ E) u y := fun hl hn hr => by
      obtain ⟨h1, h2⟩ := okL_spec hl
      refine ⟨by omega, fun j u y h3 h4 => ?_⟩
      obtain ⟨x, h5, h6⟩ := h2 j u h3
      exact ih h6 (hr j x y h5 h4)
    unfold okN at hu
    cases u with
    | any => exact .r0 _ _ (.any _)
    | v a => subst hu; rw [R.v_inv h]; exact .r0 _ _ (.v a)
    | lst lo sz l =>
      rcases hu with rfl | ⟨hp, hs⟩
      · exact sub_R rfl (fun _ _ _ h => h) h
      · exact sub_R hp hs h
    | fp cs =>
      rcases hu with rfl | ⟨hp, hs⟩
      · exact sub_R rfl (fun _ _ _ h => h) h
      · exact sub_R hp hs h
    | ptr id off =>
      simp only at hu
      split at hu
      · rename_i j hj
        subst hu
        obtain ⟨b, K, C, hE, rfl⟩ := R.ptr_inv h
        exact .ptr id off b K C (by simp [envR, hj, hE])
      · exact hu.elim
    | eptr id i k sz =>
      simp only at hu
      split at hu
      · rename_i j hj
        subst hu
        obtain ⟨b, K, C, hE, hi, rfl⟩ := R.eptr_inv h
        exact .eptr id i k sz b K C (by simp [envR, hj, hE]) hi
      · exact hu.elim
    | mp id =>
      simp only at hu
      split at hu
      · rename_i j hj
        subst hu
        obtain ⟨b, K, C, hE, rfl⟩ := R.mp_inv h
        exact .mp id b K C (by simp [envR, hj, hE])
      · exact hu.elim
    | own id off len sz =>
      simp only at hu
      split at hu
      · rename_i j hj
        subst hu
        obtain ⟨b, K, C, hE, hv⟩ := R.own_inv h
        exact .own id off len sz b K C y (by simp [envR, hj, hE]) hv
      · rename_i hj
        obtain ⟨rfl, rfl, rfl⟩ := hu
        rw [R.v_inv h]
        exact .own id 0 0 sz none 0 0 _ (by simp [envR, hj]) ⟨by omega, by omega, rfl, rfl, rfl⟩
      · exact hu.elim
    | agg us =>
      simp only at hu
      split at hu
      · obtain ⟨ys, rfl, hsz, hr⟩ := R.agg_inv h
        obtain ⟨h1, h2⟩ := arr hu hsz hr
        exact .agg _ _ h1 h2
      · exact hu.elim
    | tup us =>
      simp only at hu
      split at hu
      · obtain ⟨ys, rfl, hsz, hr⟩ := R.tup_inv h
        obtain ⟨h1, h2⟩ := arr hu hsz hr
        exact .tup _ _ h1 h2
      · exact hu.elim
    | fn f us =>
      simp only at hu
      rcases hu with ⟨rfl, h0⟩ | hu
      · obtain ⟨ys, rfl, hsz, hr⟩ := R.fn_inv h
        exact .fn _ _ _ hsz fun j u y h1 h2 => sub_R (all0_spec h0 j u h1) (fun _ _ _ h => h) (hr j u y h1 h2)
      split at hu
      · obtain ⟨rfl, hu⟩ := hu
        obtain ⟨ys, rfl, hsz, hr⟩ := R.fn_inv h
        obtain ⟨h1, h2⟩ := arr hu hsz hr
        exact .fn _ _ _ h1 h2
      · exact hu.elim
theorem hb_ren {w : World} {O : Nat → Prop} {E : Env} {ρ : Ren} {ob ob' : OB} {b : Option Nat} {K C : Nat} (hu : obOK ρ ob (some ob')) (h : HB w O E b K C ob') : HB w O (envR ρ E) b K C ob := by
  cases ob with
  | arr t sz l =>
    cases ob' with
    | arr t' sz' l' =>
      obtain ⟨rfl, rfl, rfl⟩ := hu
      exact h
    | _ => exact hu.elim
  | obj o =>
    cases ob' with
    | obj o' => cases hu; exact h
    | _ => exact hu.elim
  | map kk m =>
    cases ob' with
    | map kk' m' =>
      obtain ⟨rfl, hk, hv⟩ := hu
      obtain ⟨hlen, hspec⟩ := okL_spec hv
      obtain ⟨b', es, clock, rfl, g2, g3, g4, g5, g6, g7⟩ := h
      simp only [List.length_map] at hlen
      refine ⟨b', es, clock, rfl, g2, g3, g4, by omega, fun i e p h1 h2 => ?_, g7⟩
      obtain ⟨x, h3, h4⟩ := hspec i p.2 (by simp [h2])
      simp only [List.getElem?_map, Option.map_eq_some_iff] at h3
      obtain ⟨p', h5, rfl⟩ := h3
      obtain ⟨q1, q2, q3⟩ := g6 i e p' h1 h5
      have e1 : p.1 = p'.1 := by
        have := congrArg (·[i]?) hk
        simp only [List.getElem?_map, h2, h5, Option.map_some, Option.some.injEq] at this
        exact this
      rw [e1]
      exact ⟨q1, q2, ren 4 h4 q3⟩
    | _ => exact hu.elim
  | box us =>
    cases ob' with
    | box xs =>
      obtain ⟨hlen, hspec⟩ := okL_spec hu
      obtain ⟨b', ys, t, g1, g2, g3, g3', g3'', g4⟩ := h
      refine ⟨b', ys, t, g1, g2, by omega, ⟨by omega, by omega⟩, g3'', fun j u y h1 h2 => ?_⟩
      obtain ⟨x, h3, h4⟩ := hspec j u h1
      exact ren 4 h4 (g4 j x y h3 h2)
    | _ => exact hu.elim
theorem entS_spec {ρ : Ren} {s : St} : ∀ {l : List (Nat × V)}, entS ρ s l → ∀ i, lkV l i = .any ∨ okN ρ 4 (lkV l i) (s.get i) := by
  intro l
  induction l with
  | nil => intro _ i; exact .inl rfl
  | cons p r ih =>
    obtain ⟨i, x⟩ := p
    intro h j
    simp only [lkV]
    split
    · subst_vars; exact .inr h.1
    · exact ih h.2 j
theorem entH_spec {ρ : Ren} {s : St} : ∀ {l : List (Nat × OB)}, entH ρ s l → ∀ id ob, lkH l id = some ob → entH1 ρ s ob (lkR ρ id) := by
  intro l
  induction l with
  | nil => intro _ id ob h; cases h
  | cons p r ih =>
    obtain ⟨i, x⟩ := p
    intro h id ob hob
    simp only [lkH] at hob
    split at hob
    · cases hob; subst_vars; exact h.1
    · exact ih h.2 id ob hob
theorem apart_spec {j : Nat} : ∀ {ρ : Ren} {id : Nat}, apart j ρ → lkR ρ id ≠ some (some j) := by
  intro ρ
  induction ρ with
  | nil => intro id _ h; cases h
  | cons p r ih =>
    obtain ⟨i, x⟩ := p
    intro id h
    cases x with
    | none =>
      simp only [lkR]
      split
      · simp
      · exact ih h
    | some k =>
      simp only [lkR]
      split
      · intro e; simp at e; exact h.1 e.symm
      · exact ih h.2
theorem injR_spec : ∀ {ρ : Ren} {id id' j : Nat}, injR ρ → lkR ρ id = some (some j) → lkR ρ id' = some (some j) → id = id' := by
  intro ρ
  induction ρ with
  | nil => intro id id' j _ h; cases h
  | cons p r ih =>
    obtain ⟨i, x⟩ := p
    intro id id' j h h1 h2
    simp only [lkR] at h1 h2
    split at h1 <;> split at h2
    · omega
    · simp at h1; subst h1; exact (apart_spec h.1 h2).elim
    · simp at h2; subst h2; exact (apart_spec h.1 h1).elim
    · cases x with
      | none => exact ih h h1 h2
      | some k => exact ih h.2 h1 h2
theorem coverR_spec {hl : List (Nat × OB)} : ∀ {ρ : Ren} {id : Nat} {x}, coverR hl ρ → lkR ρ id = some x → usH hl id = true := by
  intro ρ
  induction ρ with
  | nil => intro id x _ h; cases h
  | cons p r ih =>
    obtain ⟨i, z⟩ := p
    intro id x h h1
    simp only [lkR] at h1
    split at h1
    · subst_vars; exact h.1
    · exact ih h.2 h1
/-- a name's memory, in the elder state -/
theorem entH_live {ρ : Ren} {s : St} {hl : List (Nat × OB)} (hH : entH ρ s hl) {id : Nat} {ob : OB} {E : Env} {b : Nat} {x : Nat × Nat} (h1 : lkH hl id = some ob) (h2 : envR ρ E id = some (some b, x)) :
    ∃ j ob', lkR ρ id = some (some j) ∧ s.hp j = some ob' ∧ E j = some (some b, x) ∧ obOK ρ ob (some ob') := by
  have h3 := entH_spec hH id ob h1
  simp only [envR] at h2
  split at h2
  · rename_i j hj
    rw [hj] at h3
    have h3' : obOK ρ ob (s.hp j) := h3
    cases ho : s.hp j with
    | none => rw [ho] at h3'; cases ob <;> exact h3'.elim
    | some ob' => rw [ho] at h3'; exact ⟨j, ob', hj, ho, h2, h3'⟩
  · cases h2
  · cases h2
theorem entH_hb {ρ : Ren} {G : Gh} {s : St} {a : Act} {w : World} {E : Env} (hE : SimE G s a w E) {hl : List (Nat × OB)} (hH : entH ρ s hl) {id : Nat} {ob : OB} (h1 : lkH hl id = some ob) {O' : Nat → Prop} (hO : ∀ b, ¬ OT G s E b → ¬ O' b) :
    ∃ b K C, envR ρ E id = some (b, K, C) ∧ HB w O' (envR ρ E) b K C ob := by
  have h3 := entH_spec hH id ob h1
  unfold entH1 at h3
  split at h3
  · rename_i j hj
    have h3' : obOK ρ ob (s.hp j) := h3
    cases ho : s.hp j with
    | none => rw [ho] at h3'; cases ob <;> exact h3'.elim
    | some ob' =>
      rw [ho] at h3'
      obtain ⟨b, K, C, hEj, hb⟩ := hE.hp j ob' ho
      exact ⟨b, K, C, by simp [envR, hj, hEj], (hb_ren h3' hb).mono (Nat.le_refl _) (fun b hb _ => hO b hb) (fun _ _ _ => rfl) (fun _ _ h => h) (fun _ _ => rfl)⟩
  · rename_i hj
    refine ⟨none, 0, 0, by simp [envR, hj], ?_⟩
    cases ob with
    | arr t sz l =>
      obtain ⟨h0, rfl⟩ := h3
      exact ⟨by simp, h0, by simp, rfl, rfl, rfl⟩
    | _ => exact h3.elim
  · exact h3.elim
theorem entH_inj {ρ : Ren} {G : Gh} {s : St} {a : Act} {w : World} {E : Env} (hE : SimE G s a w E) {hl : List (Nat × OB)} (hH : entH ρ s hl) (hi : injR ρ) {id id' : Nat} {ob ob' : OB} {b : Nat} {x x' : Nat × Nat}
    (h1 : lkH hl id = some ob) (h2 : lkH hl id' = some ob') (h3 : envR ρ E id = some (some b, x)) (h4 : envR ρ E id' = some (some b, x')) : id = id' := by
  obtain ⟨j, o1, g1, g2, g3, _⟩ := entH_live hH h1 h3
  obtain ⟨j', o2, q1, q2, q3, _⟩ := entH_live hH h2 h4
  have := hE.inj j j' o1 o2 b x x' g2 q2 g3 q3
  subst this
  exact injR_spec hi g1 q1

theorem ent_of {s : St} {fl : List (Nat × V)} {hl : List (Nat × OB)} (ρ : Ren) (hS : entS ρ s fl) (hH : entH ρ s hl) (hi : injR ρ) (hc : coverR hl ρ) {G : Gh} (hb : ∀ id, id ∈ G.nm → lkR ρ id = some (some id)) : Ent G s (St.of fl hl) := by
  rintro a w ⟨E, hE⟩
  have hO : ∀ b, ¬ OT G s E b → ¬ OT G (St.of fl hl) (envR ρ E) b := by
    rintro b hb (h | ⟨id, ob, K, C, hid, hid'⟩)
    · exact hb (.inl h)
    · obtain ⟨j, ob', _, h2, h3, _⟩ := entH_live hH hid hid'
      exact hb (.inr ⟨j, ob', K, C, h2, h3⟩)
  have hL : ∀ b, ¬ live s E b → ¬ live (St.of fl hl) (envR ρ E) b := by
    rintro b hb ⟨id, ob, K, C, hid, hid'⟩
    obtain ⟨j, ob', _, h2, h3, _⟩ := entH_live hH hid hid'
    exact hb ⟨j, ob', K, C, h2, h3⟩
  refine ⟨envR ρ E, ⟨fun i => ?_, hE.defers.mono rfl fun b hb _ _ => ⟨rfl, hL b hb⟩, hE.size, fun id ob hob => entH_hb hE hH hob hO, fun id hid => ?_, fun id id' ob ob' b K K' h1 h2 h3 h4 => entH_inj hE hH hi h1 h2 h3 h4, fun id ob b K h1 h2 => ?_, hE.old, hE.grow, hE.os, hE.tape, hE.output, hE.keep, fun id hid => ?_, hE.zi⟩⟩
  · rcases entS_spec hS i with h | h
    · show R w _ _ (lkV fl i) _
      rw [h]; exact .r0 _ _ (.any _)
    · exact (ren 4 h (hE.fr i)).weak hO fun _ _ h => h
  · unfold envR at hid
    split at hid
    · rename_i j hj; exact coverR_spec hc hj
    · rename_i hj; exact coverR_spec hc hj
    · exact (hid rfl).elim
  · obtain ⟨j, ob', _, g2, g3, _⟩ := entH_live hH h1 h2
    exact hE.fresh j ob' b K g2 g3
  · obtain ⟨r, h1, h2⟩ := hE.base id hid
    exact ⟨r, h1, by simp only [envR, hb id hid]; exact h2⟩
theorem ent_of0 {s : St} {fl : List (Nat × V)} (hS : entS [] s fl) {G : Gh} (hb : G.nm = []) : Ent G s (St.of fl []) :=
  ent_of (hl := []) [] hS trivial trivial trivial (by rw [hb]; simp)
end Pm
end Go.Proofs.Ytgienbcekgokiaa
