import Derived.Test.YtfnohnjnncjidaaGreatDoorQS08
import Derived.Test.YtfnohnjnncjidaaGreatDoorQS10
namespace Go.Proofs.YtfnohnjnncjidaaGreatDoor
open Go
set_option linter.unusedSimpArgs false
set_option linter.unusedVariables false
namespace Pm
theorem YI.now {P : Program} {G : Gh} {l lam : Nat} {L : Loop} {fl : List (Nat × V)} {ps : List Nat} {mv : List (Nat × Nat)} {asg body : Code} {n : Nat} (h : YI P G l lam L fl ps mv asg body n)
    {s : St} {a : Act} {w : World} {E : Env} (hE : SimE G s a w E) (i : Nat) : R w (OT G s E) E (lkV fl i) (L.tmps.getD i undef) := by
  obtain ⟨O1, hO1, hfl⟩ := h.fr
  obtain ⟨g1, g2⟩ := hfl i
  refine g2.nms hE.grow (fun b hb hlt hot => ?_) (fun b hb hlt hc => hE.keep b hlt (hO1 b hb).2) (fun id hid r hr => ?_) 4 g1
  · obtain ⟨q1, q2⟩ := hO1 b hb
    rcases hot with hot | ⟨id, ob, K, C, k1, k2⟩
    · exact q1 hot
    · rcases (hE.fresh id ob b _ k1 k2).1 with k3 | k3
      · omega
      · exact q2 k3
  · obtain ⟨r', k1, k2⟩ := hE.base id hid
    rw [hr] at k1; cases k1; exact k2
def TriY (P : Program) (f : FuncId) (as : List V) (h : List (Nat × OB)) (post : Nat → Out) (l lam : Nat) (L : Loop) (fl : List (Nat × V)) (ps : List Nat) (mv : List (Nat × Nat)) (asg body : Code) (n : Nat) : Prop :=
  Enters P f ∧ ∀ (lo : Nat) (w : World) (O : Nat → Prop) (E : Env) (ys : Array Value) (hlo : LoOK w (fun b => O b ∨ triM h E b) lo), ys.size = as.length →
    SimE (triG noOw w O ys.size h E (names h) lo hlo) (St.of (enumV 0 as) h) ⟨ys, []⟩ w E → YI P (triG noOw w O ys.size h E (names h) lo hlo) l lam L fl ps mv asg body n → Calls P f ys w (Left w O h E lo hlo (post (loT h lo)))
theorem tri_body (ow : Nat → Bool) {P : Program} {f : FuncId} {fn : Func} {c : Code} {as : List V} {h0 : List (Nat × OB)} {post : Nat → Out} {rs : List ResultVar} (hf : P.funcs[f]? = some fn) (hb : fn.body = some c)
    (hrs : fn.results = rs.toArray) (hl : rs.length ≤ 3) {lo : Nat} {w : World} {O : Nat → Prop} {E : Env} {ys : Array Value} {hlo : LoOK w (fun b => O b ∨ triM h0 E b) lo}
    (hE : SimE (triG noOw w O ys.size h0 E (names h0) lo hlo) (St.of (enumV 0 as) h0) ⟨ys, []⟩ w E)
    (hE0 : SimE (triG ow w O fn.ntmps h0 E (names h0) lo hlo) (St.of (enumV 0 as) h0) { tmps := ys ++ Array.replicate (fn.ntmps - ys.size) undef, defers := [] } w E)
    (key : vc P (triG ow w O fn.ntmps h0 E (names h0) lo hlo) c (St.of (enumV 0 as) h0) (EndsT P h0 rs (post (loT h0 lo)))) : Calls P f ys w (Left w O h0 E lo hlo (post (loT h0 lo))) := by
  refine calls_of_wpIn (G := triG ow w O fn.ntmps h0 E (names h0) lo hlo) rfl hf hb ?_
  refine wpIn_mono (vc_sound c _ _ key _ w ⟨E, hE0⟩) ?_
  rintro e a w' ⟨s, hq, E1, hE1⟩
  have hOf : ∀ b, (triG ow w O fn.ntmps h0 E (names h0) lo hlo).Of b → b < (triG ow w O fn.ntmps h0 E (names h0) lo hlo).w0.heap.size := fun b hb => hE.old b hb
  have fin : EndsT P h0 rs (post (loT h0 lo)) .ret s → LeavesInM Fence.wide 0 P fn a.tmps (Left w O h0 E lo hlo (post (loT h0 lo))) a.defers .returning w' := fun hq => by
    refine fin_leave (by simp) hE1 hOf fun w'' hE1 => ?_
    cases hp : post (loT h0 lo) with
    | pan x h' => rw [hp] at hq; exact hq.elim
    | ret r h' =>
      rw [hp] at hq
      obtain ⟨hres, ρ, h1, h2, h3, h4, h5⟩ := hq
      obtain ⟨y, hy, hr⟩ := resT_run hE1 hrs hl hres
      refine ⟨y, hy, y, envR ρ E1, rfl, left_of (ys := #[y]) rfl hE1 h2 h3 h4 h5 fun i => ?_⟩
      cases i with
      | zero => exact ren 4 h1 hr
      | succ i => exact .r0 _ _ (.any _)
  cases e with
  | normal => exact fin hq
  | ret => exact fin hq
  | exit => exact hq.elim
  | goto => exact hq.elim
  | panic ch =>
    have hq' : EndsT P h0 rs (post (loT h0 lo)) (.panic ch) s := hq
    cases hp : post (loT h0 lo) with
    | ret r h' => rw [hp] at hq'; exact hq'.elim
    | pan x h' =>
      rw [hp] at hq'
      obtain ⟨rfl, ρ, _, h2, h3, h4, h5⟩ := hq'
      refine fin_leave (by simp) hE1 hOf fun w'' hE1 => ?_
      exact ⟨envR ρ E1, rfl, left_of (ys := #[]) rfl hE1 h2 h3 h4 h5 fun i => .r0 _ _ (.any _)⟩
  | outgrown => exact hq.elim
theorem triY_intro (ow : Nat → Bool) {P : Program} {f : FuncId} {fn : Func} {c : Code} {as : List V} {h0 : List (Nat × OB)} {post : Nat → Out} {rs : List ResultVar} {m : Nat} {l lam : Nat} {L : Loop} {fl : List (Nat × V)} {ps : List Nat} {mv : List (Nat × Nat)} {asg body : Code} {n : Nat}
    (hf : P.funcs[f]? = some fn) (hm : fn.ntmps = m) (hb : fn.body = some c) (hname : (fn.name == "runtime.NumGoroutine") = false)
    (hn : as.length ≤ m) (hrs : fn.results = rs.toArray) (hl : rs.length ≤ 3)
    (h : ∀ (G : Gh), G.n = m → G.ow = ow → G.nm = names h0 → G.rd = none → YI P G l lam L fl ps mv asg body n → vc P G c (St.of (enumV 0 as) h0) (EndsT P h0 rs (post G.lo))) : TriY P f as h0 post l lam L fl ps mv asg body n := by
  subst hm
  refine ⟨⟨fn, hf, hname, by simp [hb]⟩, fun lo w O E ys hlo hsz hE hY => ?_⟩
  have hE0 : SimE (triG ow w O fn.ntmps h0 E (names h0) lo hlo) (St.of (enumV 0 as) h0) { tmps := ys ++ Array.replicate (fn.ntmps - ys.size) undef, defers := [] } w E :=
    ⟨fun i => by rw [args_pad]; exact hE.fr i, DefOK.nil, by simp [triG]; omega, hE.hp, hE.us, hE.inj, hE.fresh, hE.old, hE.grow, hE.os, hE.tape, hE.output, hE.keep, hE.base, trivial⟩
  have hY0 : YI P (triG ow w O fn.ntmps h0 E (names h0) lo hlo) l lam L fl ps mv asg body n := ⟨rfl, hY.hL, hY.hps, hY.hmv, hY.hmvn, hY.lam, hY.fr⟩
  -- the same as for other functions
  have key := h (triG ow w O fn.ntmps h0 E (names h0) lo hlo) rfl rfl rfl rfl hY0
  exact tri_body ow hf hb hrs hl hE hE0 key
theorem names_of_cover {h : List (Nat × OB)} {ρ : Ren} (hc : coverR h ρ) {id : Nat} {x : Option Nat} (hl : lkR ρ id = some x) : id ∈ names h := names_mem.2 (coverR_spec hc hl)
theorem call_triY {P : Program} {G : Gh} {o : Oper} {s : St} {Q : Exit → St → Prop} {rest : St → Prop} {k : FuncId} {cap as as' : List V} {h : List (Nat × OB)} {post : Nat → Out} {l lam : Nat} {L : Loop} {fl : List (Nat × V)} {ps : List Nat} {mv : List (Nat × Nat)} {asg body : Code} {n : Nat}
    (ρ ν : List (Nat × Nat)) (hp : TriY P k as' h post l lam L fl ps mv asg body n) (hY : YI P G l lam L fl ps mv asg body n)
    (hA : okL (okN (toR ρ) 4) as' (as ++ cap)) (hH : entH (toR ρ) s h) (hi : injR (toR ρ)) (hcv : coverR h (toR ρ)) (hid : ∀ id ∈ G.nm, lkR (toR ρ) id = some (some id)) (hq : uniqP ρ) (hc : chk G.n o.dst)
    (hr : AftT o.dst s Q rest h ρ ν (post (loT h G.lo))) : SemCall P G o s Q rest (.fn (.func k) cap) as := by
  rintro x l' ts ho hx rfl a w ⟨E, hE⟩
  obtain ⟨ys, hy, hsz, hrr⟩ := R.fn_inv (ev_E hE hx.symm)
  obtain ⟨hn, hargs⟩ := ops_R (l := l') hE hsz hrr
  obtain ⟨hl1, hl2⟩ := okL_spec hA
  have hlo := tri_lo hE hH
  have hen := tri_enter hE hH hi hcv (as := as') (ys := (l'.map a.eval).toArray ++ ys) (fun j u hj => by
    obtain ⟨x', g1, g2⟩ := hl2 j u hj
    exact ren 4 g2 (hargs j x' g1)) hlo
  have hEid : ∀ id ∈ G.nm, envR (toR ρ) E id = E id := fun id h => by unfold envR; rw [hid id h]
  refine wp_call_any ho hp.1 hy (hp.2 G.lo w _ _ _ hlo (by omega) hen ⟨rfl, hY.hL, hY.hps, hY.hmv, hY.hmvn, ⟨names_of_cover hcv (hid lam hY.lam.1), ?_⟩, ?_⟩) ?_
  · show envR (toR ρ) E lam = _
    rw [hEid lam hY.lam.1]
    obtain ⟨r, h1, h2⟩ := hE.base lam hY.lam.1
    rw [hY.lam.2] at h1; cases h1; exact h2
  · refine ⟨OT G s E, fun b hb => ⟨?_, ?_⟩, fun i => ?_⟩
    · rintro (h | ⟨id, ob, K, C, h1, h2, _⟩)
      · exact hb (.inl h)
      · exact hb (.inr ⟨id, ob, K, C, h1, h2⟩)
    · rintro ⟨id, ob, K, C, h1, h2⟩
      obtain ⟨j, ob', _, g2, g3, _⟩ := entH_live hH h1 h2
      exact hb (.inr ⟨j, ob', K, C, g2, g3⟩)
    · obtain ⟨O1, hO1, hfl⟩ := hY.fr
      refine ⟨nmOK_mono (fun id h => names_of_cover hcv (hid id h)) 4 (hfl i).1, ?_⟩
      refine (hY.now hE i).nms (Nat.le_refl _) (fun _ h _ => h) (fun _ _ _ _ => rfl) (fun id hid' r hr => ?_) 4 (hfl i).1
      show envR (toR ρ) E id = _
      rw [hEid id hid']; exact hr
  intro e w' hleft
  cases hpost : post (loT h G.lo) with
  | ret r h' =>
    rw [hpost] at hleft hr
    obtain ⟨y, E1, rfl, h1⟩ := hleft
    obtain ⟨a1, a2, a3, a4⟩ := hr
    obtain ⟨E', b1, b2⟩ := tri_leave hE hH hcv h1 hq a1 a3
    have hR := h1.fr 0
    refine .inl ⟨y, rfl, _, a4, E', b1.put (chk_spec hc) (b2 ?_)⟩
    simpa [St.of, lkV] using hR
  | pan v h' =>
    rw [hpost] at hleft hr
    obtain ⟨E1, rfl, h1⟩ := hleft
    obtain ⟨a1, a2, a3, a4⟩ := hr
    obtain ⟨E', b1, b2⟩ := tri_leave hE hH hcv h1 hq a1 a3
    exact .inr ⟨_, rfl, _, a4, E', b1⟩
theorem newN_congr {s s' : St} {N : Nat → Bool} (e : ∀ id, N id = true → s'.hp id = s.hp id ∧ s'.us id = s.us id) : ∀ {ν : List (Nat × Nat)}, (tgt ν).all N = true → newN s [] ν → newN s' [] ν
  | [], _, _ => trivial
  | (i, j) :: r, h, ⟨h1, h2, h3, h4⟩ => by
    have h' : N j = true ∧ (tgt r).all N = true := by simpa [tgt, List.all_cons] using h
    exact ⟨h1, (e j h'.1).2.trans h2, h3, newN_congr e h'.2 h4⟩
theorem callNew {P : Program} {G : Gh} {N : Nat → Bool} {M : Bool} {s : St} {k : FuncId} {cap as as' : List V} {r : Nat → V} {h' : Nat → List (Nat × OB)} (ν : List (Nat × Nat)) (hp : Tri P k as' [] (fun lo => .ret (r lo) (h' lo)))
    (hA : okL (okN (toR []) 4) as' (as ++ cap)) (hM : M = true) (hN : (tgt ν).all N = true) (hN2 : ((upT [] ν (h' G.lo)).map (·.1)).all N = true) (hnew : newN s [] ν) (hall : hasAll (toR (keepR (h' G.lo) [] ++ ν)) (h' G.lo)) (hu : uniqN (h' G.lo)) :
    CallE P G N M (.fn (.func k) cap) as s (renT (toR (keepR (h' G.lo) [] ++ ν)) 4 (r G.lo), upT [] ν (h' G.lo)) := by
  refine ⟨fun h => (by rw [hM] at h; cases h), fun p hp => List.all_eq_true.1 hN2 _ (List.mem_map_of_mem hp), ?_⟩
  intro s' e o Q rest hc hr
  refine call_tri [] ν hp hA trivial ?_ ?_ trivial hc ⟨newN_congr e hN hnew, hall, hu, hr⟩
  · simp [injR, toR]
  · simp [coverR, toR]
def rfO : Code → Option Code
  | .seq a b => orElse (rfO a) (rfO b)
  | .cond _ a b => orElse (rfO a) (rfO b)
  | .block _ c => rfO c
  | .loop c => rfO c
  | .scope c => rfO c
  | .rangeFunc _ _ _ b => some b
  | _ => none
def rfOf (c : Option Code) : Code := ((c.bind rfO).getD .skip)
theorem YI.code {P : Program} {G : Gh} {l lam : Nat} {L : Loop} {fl : List (Nat × V)} {ps : List Nat} {mv : List (Nat × Nat)} {asg body body' : Code} {n : Nat} (h : YI P G l lam L fl ps mv asg body n) (e : body = body') : YI P G l lam L fl ps mv asg body' n := e ▸ h
theorem step_frz {P : Program} {G : Gh} {o : Oper} {s : St} {Q : Exit → St → Prop} {rest : St → Prop} (p : Nat → Bool) (h : fin P G o (frz p G.lo s) Q rest (lstep P G.ow G.lo (frz p G.lo s) o.dst o.op)) : SemStep P G o s Q rest :=
  fun a w hs => fin_step h a w (frz_ent p a w hs)
end Pm
open Go Go.RowKit
namespace Pm

def flat : Code → List Code
  | .seq a b => flat a ++ flat b
  | c => [c]
def wpL (F : Fence) (P : Program) (Q : Exit → Act → World → Prop) : List Code → Act → World → Prop
  | [] => Q .normal
  | c :: r => c.wpIn F 0 P (Exit.then (wpL F P Q r) Q)
theorem flat_wp {F : Fence} {P : Program} {Q : Exit → Act → World → Prop} (c : Code) : ∀ (r : List Code) {a : Act} {w : World}, wpL F P Q (flat c ++ r) a w → c.wpIn F 0 P (Exit.then (wpL F P Q r) Q) a w := by
  have one : ∀ (c : Code) (r : List Code) (a : Act) (w : World), wpL F P Q ([c] ++ r) a w → c.wpIn F 0 P (Exit.then (wpL F P Q r) Q) a w := fun c r a w h => h
  induction c with
  | seq x y ihx ihy =>
    intro r a w h
    simp only [flat, List.append_assoc] at h
    refine wpIn_seq (wpIn_mono (ihx _ h) fun e a w h => ?_)
    cases e with
    | normal => exact ihy r h
    | _ => exact h
  | _ => intro r a w h; exact one _ r a w h
def SemL (P : Program) (G : Gh) (l : List Code) (s : St) (Q : Exit → St → Prop) : Prop := ∀ a w, Sim G s a w → wpL G.F P (lift G Q) l a w
theorem SemL.semC {P : Program} {G : Gh} {c : Code} {s : St} {Q : Exit → St → Prop} (h : SemL P G (flat c) s Q) : SemC P G c s Q := fun a w hs => by
  have := flat_wp c [] (by simpa using h a w hs)
  refine wpIn_mono this fun e a w h => ?_
  cases e <;> exact h
def vcN (P : Program) (G : Gh) (Q : Exit → St → Prop) : Nat → List Code → St → Prop
  | 0, l, s => SemL P G l s Q
  | _ + 1, [], s => Q .normal s
  | n + 1, c :: r, s => vc P G c s (kseq (fun s _ => vcN P G Q n r s) Q)
theorem vcN_sound {P : Program} {G : Gh} {Q : Exit → St → Prop} : ∀ (n : Nat) (l : List Code) (s : St), vcN P G Q n l s → SemL P G l s Q := by
  intro n
  induction n with
  | zero => intro l s h; exact h
  | succ n ih =>
    intro l s h
    cases l with
    | nil => intro a w hs; exact ⟨s, h, hs⟩
    | cons c r =>
      intro a w hs
      refine wpIn_mono (vc_sound c _ _ h a w hs) fun e a w h => ?_
      obtain ⟨s', h1, h2⟩ := h
      cases e with
      | normal => exact ih r s' h1 a w h2
      | _ => exact ⟨s', h1, h2⟩
def XOK (G : Gh) (N : Nat) (Fx : V → Value → Prop) : Prop := ∀ s a w E, SimE G s a w E → N ≤ w.heap.size ∧
  ∃ O' : Nat → Prop, (∀ b, O' b → OT G s E b) ∧ (∀ b, N ≤ b → OT G s E b → O' b) ∧ ∀ x y, Fx x y → R0 w O' x y
theorem XOK.of {G : Gh} {w1 : World} {O1 : Nat → Prop} {Fx : V → Value → Prop} (hF : ∀ x y, Fx x y → R0 w1 O1 x y)
    (h : ∀ w, G.Zi w → w1.heap.size ≤ w.heap.size ∧ ∀ b, b < w1.heap.size → ¬ O1 b → w.heap[b]? = w1.heap[b]?) : XOK G w1.heap.size Fx := by
  intro s a w E hE
  obtain ⟨h1, h2⟩ := h w hE.zi
  refine ⟨h1, fun b => OT G s E b ∧ ¬ (b < w1.heap.size ∧ ¬ O1 b), fun b hb => hb.1, fun b hN hb => ⟨hb, fun g => by omega⟩, fun x y hxy => ?_⟩
  exact (hF x y hxy).mono h1 (fun b hb hlt g => g.2 ⟨hlt, hb⟩) fun b hb hlt => h2 b hlt hb
inductive AX (Fx : V → Value → Prop) : V → V → Prop
  | pure (u u' : V) (hp : pureV u = true) (hs : Sub u u') : AX Fx u u'
  | ex (y : Value) (u' : V) (h : Fx u' y) : AX Fx (.v y) u'
  | agg2 (c d c' d' : V) (h1 : AX Fx c c') (h2 : AX Fx d d') : AX Fx (.agg [c, d]) (.agg [c', d'])
  | agg4 (a b c d a' b' c' d' : V) (h1 : AX Fx a a') (h2 : AX Fx b b') (h3 : AX Fx c c') (h4 : AX Fx d d') : AX Fx (.agg [a, b, c, d]) (.agg [a', b', c', d'])
theorem AX.spec {Fx : V → Value → Prop} {w : World} {O O' : Nat → Prop} {E : Env} (hF : ∀ x y, Fx x y → R0 w O' x y) (hO : ∀ b, O' b → O b) {u u' : V} (h : AX Fx u u') : ∀ {y : Value}, R w O E u y → R0 w O' u' y := by
  induction h with
  | pure u u' hp hs => intro y hy; exact hs _ _ _ ((hy.pureV hp).mono (Nat.le_refl _) (fun b hb _ hb' => hb (hO b hb')) fun _ _ _ => rfl)
  | ex y u' h => intro y' hy; rw [R.v_inv hy]; exact hF _ _ h
  | agg2 c d c' d' h1 h2 i1 i2 =>
    intro y hy
    obtain ⟨ys, rfl, hn, hr⟩ := R.agg_inv hy
    refine .agg _ _ hn fun j u y hj hy => ?_
    match j with
    | 0 => simp at hj; subst hj; exact i1 (hr 0 c y rfl hy)
    | 1 => simp at hj; subst hj; exact i2 (hr 1 d y rfl hy)
    | j + 2 => simp at hj
  | agg4 a b c d a' b' c' d' h1 h2 h3 h4 i1 i2 i3 i4 =>
    intro y hy
    obtain ⟨ys, rfl, hn, hr⟩ := R.agg_inv hy
    refine .agg _ _ hn fun j u y hj hy => ?_
    match j with
    | 0 => simp at hj; subst hj; exact i1 (hr 0 a y rfl hy)
    | 1 => simp at hj; subst hj; exact i2 (hr 1 b y rfl hy)
    | 2 => simp at hj; subst hj; exact i3 (hr 2 c y rfl hy)
    | 3 => simp at hj; subst hj; exact i4 (hr 3 d y rfl hy)
    | j + 4 => simp at hj
inductive AXs (Fx : V → Value → Prop) : List V → List V → Prop
  | nil : AXs Fx [] []
  | cons {x x' : V} {l l' : List V} (h : AX Fx x x') (t : AXs Fx l l') : AXs Fx (x :: l) (x' :: l')
theorem AXs.spec {Fx : V → Value → Prop} {l l' : List V} (h : AXs Fx l l') : l.length = l'.length ∧ ∀ (j : Nat) (u' : V), l'[j]? = some u' → ∃ u, l[j]? = some u ∧ AX Fx u u' := by
  induction h with
  | nil => exact ⟨rfl, by simp⟩
  | cons h t ih =>
    refine ⟨by simp [ih.1], fun j u' hj => ?_⟩
    cases j with
    | zero => simp at hj; subst hj; exact ⟨_, rfl, h⟩
    | succ j => simp at hj; simpa using ih.2 j u' hj
inductive Hi (N : Nat) : V → Prop
  | any : Hi N .any
  | v (x : Value) : Hi N (.v x)
  | lst (lo sz : Nat) (l : List (List V)) (h : N ≤ lo) (hr : ∀ (i : Nat) (x : List V) (j : Nat) (u : V), l[i]? = some x → x[j]? = some u → Hi N u) : Hi N (.lst lo sz l)
  | agg (cs : List V) (hr : ∀ (j : Nat) (u : V), cs[j]? = some u → Hi N u) : Hi N (.agg cs)
  | tup (cs : List V) (hr : ∀ (j : Nat) (u : V), cs[j]? = some u → Hi N u) : Hi N (.tup cs)
theorem Hi.spec {N : Nat} {w : World} {O O' : Nat → Prop} {x : V} {y : Value} (h : R0 w O' x y) : Hi N x → (∀ b, N ≤ b → O b → O' b) → R0 w O x y := by
  induction h with
  | any y => intro _ _; exact .any y
  | v x => intro _ _; exact .v x
  | lst lo sz l a n cap b o g hlo hn hc hl ha hs hz hr ih =>
    intro h hO
    cases h with
    | lst _ _ _ h1 h2 => exact .lst lo sz l a n cap b o g hlo hn hc hl (fun h => ⟨(ha h).1, fun hb => (ha h).2.1 (hO b (Nat.le_trans h1 (hlo h)) hb), (ha h).2.2⟩) hs hz fun i x j u q1 q2 => ih i x j u q1 q2 (h2 i x j u q1 q2) hO
  | fp cs b o g h1 hb hs hr ih => intro h; cases h
  | agg cs ys hn hr ih =>
    intro h hO
    cases h with
    | agg _ h2 => exact .agg cs ys hn fun j u y q1 q2 => ih j u y q1 q2 (h2 j u q1) hO
  | tup cs ys hn hr ih =>
    intro h hO
    cases h with
    | tup _ h2 => exact .tup cs ys hn fun j u y q1 q2 => ih j u y q1 q2 (h2 j u q1) hO
  | fn f cap ys hn hr ih => intro h; cases h
theorem Hi.agg2 {N : Nat} {x y : V} (h1 : Hi N x) (h2 : Hi N y) : Hi N (.agg [x, y]) := .agg _ fun j u h => by
  match j with
  | 0 => simp at h; subst h; exact h1
  | 1 => simp at h; subst h; exact h2
  | j + 2 => simp at h
theorem Hi.map {α : Type} {N lo sz : Nat} {l : List α} {f : α → List V} (h : N ≤ lo) (hf : ∀ (x : α) (j : Nat) (u : V), (f x)[j]? = some u → Hi N u) : Hi N (.lst lo sz (l.map f)) := .lst _ _ _ h fun i x j u h1 h2 => by
  simp only [List.getElem?_map, Option.map_eq_some_iff] at h1
  obtain ⟨z, _, rfl⟩ := h1
  exact hf z j u h2
def isS : Value → Bool
  | .string _ => true
  | _ => false
def loose (wz w : World) (b : Nat) : Prop := ∀ (ys : Array Value) (t : TypeId) (fz : Nat × Nat), wz.heap[b]? = some (.cells ys t fz) →
  ∃ ys' : Array Value, w.heap[b]? = some (.cells ys' t fz) ∧ ys'.size = ys.size ∧ ∀ (j : Nat) (v : Value), ys[j]? = some v → ∃ v', ys'[j]? = some v' ∧ (v' = v ∨ (isS v = true ∧ isS v' = true))
theorem loose.same {wz w : World} {b : Nat} (h : w.heap[b]? = wz.heap[b]?) : loose wz w b := fun ys t fz hz => ⟨ys, h.trans hz, rfl, fun j v hj => ⟨v, hj, .inl rfl⟩⟩
theorem loose.next {wz w w' : World} {b : Nat} (h : loose wz w b) (e : w'.heap[b]? = w.heap[b]?) : loose wz w' b := fun ys t fz hz => by
  obtain ⟨ys', h1, h2, h3⟩ := h ys t fz hz
  exact ⟨ys', e.trans h1, h2, h3⟩
theorem cell_row {w : World} {b o : Nat} {v : Value} (h : w.cell? ⟨b, o, none⟩ = some v) : ∃ ys t fz, w.heap[b]? = some (.cells ys t fz) ∧ ys[o]? = some v := by
  unfold World.cell? at h
  split at h
  · rename_i c t fz hc
    exact ⟨c, t, fz, hc, by simpa using h⟩
  · cases h
theorem loose.cell {wz w : World} {b o : Nat} {v : Value} (h : loose wz w b) (hc : cellA wz ⟨b, o, none⟩ v) : ∃ v', cellA w ⟨b, o, none⟩ v' ∧ (v' = v ∨ (isS v = true ∧ isS v' = true)) := by
  obtain ⟨ys, t, fz, h1, h2⟩ := cell_row hc.1
  obtain ⟨ys', h3, h4, h5⟩ := h ys t fz h1
  obtain ⟨v', h6, h7⟩ := h5 o v h2
  refine ⟨v', ⟨by simp [World.cell?, h3, h6], fun hw => ?_⟩, h7⟩
  have hw' : wrV v = true := by
    rcases h7 with rfl | ⟨h8, _⟩
    · exact hw
    · cases v <;> first | rfl | cases h8
  have := hc.2 hw'
  simpa [World.frozen?, h1, h3] using this
theorem loose.set {wz w : World} {b o : Nat} {v : Value} (h : loose wz w b) (hc : wz.cell? ⟨b, o, none⟩ = some v) (hv : isS v = true) (x : ByteArray) : loose wz (w.setCell ⟨b, o, none⟩ (.string x)) b := fun ys t fz hz => by
  obtain ⟨ys0, t0, fz0, h1, h2⟩ := cell_row hc
  rw [hz] at h1
  cases h1
  obtain ⟨ys', h3, h4, h5⟩ := h ys t fz hz
  refine ⟨ys'.setIfInBounds o (.string x), by simp [World.setCell, Array.getElem?_modify, h3], by simpa using h4, fun j u hj => ?_⟩
  by_cases e : o = j
  · subst e
    rw [h2] at hj
    cases hj
    have : o < ys'.size := by rw [h4]; exact (Array.getElem?_eq_some_iff.1 h2).1
    exact ⟨.string x, by simp [this], .inr ⟨hv, rfl⟩⟩
  · obtain ⟨v', h6, h7⟩ := h5 j u hj
    exact ⟨v', by rw [Array.getElem?_setIfInBounds_ne e]; exact h6, h7⟩
theorem flat_seq (a b : Code) : flat (.seq a b) = flat a ++ flat b := rfl
theorem flat_region (id : Nat) (l : Array Oper) (d : Bool) : flat (.region id l d) = [.region id l d] := rfl
theorem flat_cond (c : Operand) (a b : Code) : flat (.cond c a b) = [.cond c a b] := rfl
theorem flat_block (id : Nat) (c : Code) : flat (.block id c) = [.block id c] := rfl
theorem flat_loop (c : Code) : flat (.loop c) = [.loop c] := rfl
theorem flat_ret : flat .ret = [.ret] := rfl
theorem flat_skip : flat .skip = [.skip] := rfl
theorem vcN_0 {P : Program} {G : Gh} {Q : Exit → St → Prop} (l : List Code) (s : St) : vcN P G Q 0 l s = SemL P G l s Q := rfl
theorem vcN_n {P : Program} {G : Gh} {Q : Exit → St → Prop} (n : Nat) (s : St) : vcN P G Q (n + 1) [] s = Q .normal s := rfl
theorem vcN_s {P : Program} {G : Gh} {Q : Exit → St → Prop} (n : Nat) (c : Code) (r : List Code) (s : St) : vcN P G Q (n + 1) (c :: r) s = vc P G c s (kseq (fun s _ => vcN P G Q n r s) Q) := rfl
attribute [go_sem] flat_seq flat_region flat_cond flat_block flat_loop flat_ret flat_skip List.singleton_append vcN_0 vcN_n vcN_s
theorem semL_ent {P : Program} {G : Gh} {l : List Code} {s s' : St} {Q : Exit → St → Prop} (he : Ent G s s') (h : SemL P G l s' Q) : SemL P G l s Q := fun a w hs => h a w (he a w hs)

def exOf (y : Value) : V → V
  | .lst _ _ _ | .fp _ => .v y
  | x => x
def exCs (z : Nat → Value) : Nat → List V → List V
  | _, [] => []
  | j, x :: r => exOf (z j) x :: exCs z (j + 1) r
def exOB (z : Nat → Value) : OB → OB
  | .box cs => .box (exCs z 0 cs)
  | o => o
def exF (ys : Nat → Value) : List (Nat × V) → List (Nat × V)
  | [] => []
  | (i, x) :: r => (i, exOf (ys i) x) :: exF ys r
def exH (zs : Nat → Nat → Value) : List (Nat × OB) → List (Nat × OB)
  | [] => []
  | (i, o) :: r => (i, exOB (zs i) o) :: exH zs r
theorem exF_lk (ys : Nat → Value) : ∀ (fl : List (Nat × V)) (i : Nat), lkV (exF ys fl) i = exOf (ys i) (lkV fl i) := by
  intro fl
  induction fl with
  | nil => intro i; rfl
  | cons p r ih =>
    obtain ⟨j, x⟩ := p
    intro i
    simp only [exF, lkV]
    split
    · rename_i e; subst e; rfl
    · exact ih i
theorem exH_lk (zs : Nat → Nat → Value) : ∀ (hl : List (Nat × OB)) (i : Nat), lkH (exH zs hl) i = (lkH hl i).map (exOB (zs i)) := by
  intro hl
  induction hl with
  | nil => intro i; rfl
  | cons p r ih =>
    obtain ⟨j, x⟩ := p
    intro i
    simp only [exH, lkH]
    split
    · rename_i e; subst e; rfl
    · exact ih i
theorem exH_us (zs : Nat → Nat → Value) : ∀ (hl : List (Nat × OB)) (i : Nat), usH (exH zs hl) i = usH hl i := by
  intro hl
  induction hl with
  | nil => intro i; rfl
  | cons p r ih => intro i; simp only [exH, usH, ih]
theorem exCs_get (z : Nat → Value) : ∀ (cs : List V) (k j : Nat), (exCs z k cs)[j]? = (cs[j]?).map (exOf (z (k + j))) := by
  intro cs
  induction cs with
  | nil => intro k j; simp [exCs]
  | cons x r ih =>
    intro k j
    cases j with
    | zero => simp [exCs]
    | succ j => simp only [exCs, List.getElem?_cons_succ, ih]; rw [show k + 1 + j = k + (j + 1) by omega]
theorem exCs_len (z : Nat → Value) : ∀ (cs : List V) (k : Nat), (exCs z k cs).length = cs.length := by
  intro cs
  induction cs with
  | nil => intro k; rfl
  | cons x r ih => intro k; simp [exCs, ih]
theorem exOf_R {w : World} {O : Nat → Prop} {E : Env} {x : V} {y : Value} (h : R w O E x y) : R w O E (exOf y x) y := by
  cases x <;> first | exact h | exact .r0 _ _ (.v _)
def cellsOf (w : World) (E : Env) (id j : Nat) : Value := match E id with
  | some (some b, _, _) => match w.heap[b]? with
    | some (.cells ys _ _) => ys.getD j undef
    | _ => undef
  | _ => undef
theorem SimE.exact {G : Gh} {fl : List (Nat × V)} {hl : List (Nat × OB)} {a : Act} {w : World} {E : Env} (h : SimE G (St.of fl hl) a w E) : ∃ (ys : Nat → Value) (zs : Nat → Nat → Value),
    (∀ i, R w (OT G (St.of fl hl) E) E (lkV fl i) (ys i)) ∧ (∀ id cs j u, lkH hl id = some (.box cs) → cs[j]? = some u → R w (OT G (St.of fl hl) E) E u (zs id j)) ∧
    (∀ b, OT G (St.of (exF ys fl) (exH zs hl)) E b ↔ OT G (St.of fl hl) E b) ∧ SimE G (St.of (exF ys fl) (exH zs hl)) a w E := by
  have hz : ∀ id cs j u, lkH hl id = some (.box cs) → cs[j]? = some u → R w (OT G (St.of fl hl) E) E u (cellsOf w E id j) := fun id cs j u h1 h2 => by
    obtain ⟨b, K, C, k1, b', ys, t, rfl, g2, g3, g4, g5, g6⟩ := h.hp id _ h1
    have hj : j < ys.size := by rw [g3]; exact (List.getElem?_eq_some_iff.1 h2).1
    simp only [cellsOf, k1, g2]
    exact g6 j u _ h2 (by simp [hj])
  have hlive : ∀ b, live (St.of (exF (fun i => a.tmps.getD i undef) fl) (exH (cellsOf w E) hl)) E b ↔ live (St.of fl hl) E b := fun b => by
    constructor
    · rintro ⟨id, ob, K, C, h1, h2⟩
      have h1' : lkH (exH (cellsOf w E) hl) id = some ob := h1
      rw [exH_lk] at h1'
      simp only [Option.map_eq_some_iff] at h1'
      obtain ⟨o, h3, _⟩ := h1'
      exact ⟨id, o, K, C, h3, h2⟩
    · rintro ⟨id, ob, K, C, h1, h2⟩
      have h1' : lkH hl id = some ob := h1
      refine ⟨id, exOB (cellsOf w E id) ob, K, C, ?_, h2⟩
      show lkH (exH (cellsOf w E) hl) id = _
      rw [exH_lk, h1']; rfl
  have hOT : ∀ b, OT G (St.of (exF (fun i => a.tmps.getD i undef) fl) (exH (cellsOf w E) hl)) E b ↔ OT G (St.of fl hl) E b := fun b => or_congr Iff.rfl (hlive b)
  have hO' : ∀ b, ¬ OT G (St.of fl hl) E b → ¬ OT G (St.of (exF (fun i => a.tmps.getD i undef) fl) (exH (cellsOf w E) hl)) E b := fun b hb hb' => hb ((hOT b).1 hb')
  have back : ∀ {id ob}, lkH (exH (cellsOf w E) hl) id = some ob → ∃ o, lkH hl id = some o ∧ ob = exOB (cellsOf w E id) o := fun {id ob} h1 => by
    rw [exH_lk] at h1
    simp only [Option.map_eq_some_iff] at h1
    obtain ⟨o, h3, h4⟩ := h1
    exact ⟨o, h3, h4.symm⟩
  refine ⟨fun i => a.tmps.getD i undef, cellsOf w E, h.fr, hz, hOT, ⟨fun i => ?_, h.defers.mono rfl fun b hb _ _ => ⟨rfl, fun hl => hb ((hlive b).1 hl)⟩, h.size, fun id ob hob => ?_, fun id hid => ?_, fun i i' o o' b x x' k1 k2 k3 k4 => ?_, fun i o b x k1 k2 => ?_, h.old, h.grow, h.os, h.tape, h.output, h.keep, h.base, h.zi⟩⟩
  · show R w _ E (lkV (exF _ fl) i) _
    rw [exF_lk]
    exact (exOf_R (h.fr i)).weak hO' fun _ _ h => h
  · obtain ⟨o, h1, rfl⟩ := back hob
    obtain ⟨b, K, C, k1, k2⟩ := h.hp id o h1
    refine ⟨b, K, C, k1, ?_⟩
    cases o with
    | arr t sz l => exact k2.mono (Nat.le_refl _) (fun b hb _ => hO' b hb) (fun _ _ _ => rfl) (fun _ _ h => h) fun _ _ => rfl
    | map kk m => exact k2.mono (Nat.le_refl _) (fun b hb _ => hO' b hb) (fun _ _ _ => rfl) (fun _ _ h => h) fun _ _ => rfl
    | obj x => exact k2.mono (Nat.le_refl _) (fun b hb _ => hO' b hb) (fun _ _ _ => rfl) (fun _ _ h => h) fun _ _ => rfl
    | box cs =>
      obtain ⟨b', ys, t, rfl, g2, g3, g4, g5, g6⟩ := k2
      refine ⟨b', ys, t, rfl, g2, by rw [exCs_len]; exact g3, by rw [exCs_len]; exact g4, g5, fun j u y q1 q2 => ?_⟩
      rw [exCs_get] at q1
      simp only [Option.map_eq_some_iff, Nat.zero_add] at q1
      obtain ⟨u', q3, rfl⟩ := q1
      have e : cellsOf w E id j = y := by simp only [cellsOf, k1, g2]; rw [Array.getD_eq_getD_getElem?, q2]; rfl
      rw [e]
      exact (exOf_R (g6 j u' y q3 q2)).weak hO' fun _ _ h => h
  · show usH (exH _ hl) id = true
    rw [exH_us]; exact h.us id hid
  · obtain ⟨_, f1, _⟩ := back k1
    obtain ⟨_, f2, _⟩ := back k2
    exact h.inj i i' _ _ b x x' f1 f2 k3 k4
  · obtain ⟨_, f1, _⟩ := back k1
    exact h.fresh i _ b x f1 k2

end Pm
open Go Go.RowKit
namespace Pm
theorem semL_blk {P : Program} {G : Gh} {i : Nat} {c : Code} {r : List Code} {s : St} {Q : Exit → St → Prop} (h : SemL P G (flat c) s (kblk i (kseq (fun s _ => SemL P G r s Q) Q))) : SemL P G (.block i c :: r) s Q := by
  intro a w hs
  have := (SemL.semC h) a w hs
  refine wpIn_block (wpIn_mono this ?_)
  rintro e a' w' ⟨s', hq, hs'⟩
  cases e with
  | normal => exact hq a' w' hs'
  | exit j =>
    by_cases e : j = i
    · subst e
      simp only [kblk, if_true, kseq] at hq
      simp only [Exit.inBlock, if_true, Exit.then]
      exact hq a' w' hs'
    · simp only [kblk, if_neg e, kseq] at hq
      simp only [Exit.inBlock, if_neg e, Exit.then]
      exact ⟨s', hq, hs'⟩
  | _ => exact ⟨s', hq, hs'⟩
theorem semL_one {P : Program} {G : Gh} {c : Code} {s : St} {Q : Exit → St → Prop} (h : SemC P G c s Q) : SemL P G [c] s Q := by
  intro a w hs
  refine wpIn_mono (h a w hs) ?_
  rintro e a' w' ⟨s', hq, hs'⟩
  cases e <;> exact ⟨s', hq, hs'⟩
theorem semL_code {P : Program} {G : Gh} {l l' : List Code} {s : St} {Q : Exit → St → Prop} (e : l = l') (h : SemL P G l' s Q) : SemL P G l s Q := e ▸ h
theorem wpL_mid {F : Fence} {P : Program} {Q M : Exit → Act → World → Prop} (hn : ∀ e a w, e ≠ .normal → M e a w → Q e a w) : ∀ (n : Nat) (l : List Code) {a : Act} {w : World}, wpL F P M (l.take n) a w →
    (∀ a w, M .normal a w → wpL F P Q (l.drop n) a w) → wpL F P Q l a w
  | 0, l, a, w, h, hd => hd a w h
  | n + 1, [], a, w, h, hd => hd a w h
  | n + 1, c :: r, a, w, h, hd => by
    refine wpIn_mono h ?_
    intro e a' w' h'
    cases e with
    | normal => exact wpL_mid hn n r h' hd
    | _ => exact hn _ _ _ (by intro h; cases h) h'
theorem semL_midN {P : Program} {G : Gh} {l : List Code} {s : St} {Q : Exit → St → Prop} {α : Type} (n : Nat) (F : α → St) (I : α → Prop) (h1 : SemL P G (l.take n) s (midQ G F I Q)) (h2 : ∀ x, I x → SemL P G (l.drop n) (F x) Q) : SemL P G l s Q := by
  intro a w hs
  refine wpL_mid (M := lift G (midQ G F I Q)) ?_ n l (h1 a w hs) ?_
  · rintro e a w hne ⟨s', hq, hs'⟩
    cases e with
    | normal => exact absurd rfl hne
    | _ => exact ⟨s', hq, hs'⟩
  · rintro a w ⟨s', ⟨x, hI, he⟩, hs'⟩
    exact h2 x hI a w (he _ _ hs')
end Pm
open Go Go.RowKit
namespace Pm
inductive NewV (n : Nat) : V → Prop
  | any : NewV n .any
  | v (x : Value) : NewV n (.v x)
  | lst (lo sz : Nat) (l : List (List V)) (h : l = [] ∨ n ≤ lo) (hr : ∀ r ∈ l, ∀ u ∈ r, NewV n u) : NewV n (.lst lo sz l)
  | agg (cs : List V) (hr : ∀ u ∈ cs, NewV n u) : NewV n (.agg cs)
  | tup (cs : List V) (hr : ∀ u ∈ cs, NewV n u) : NewV n (.tup cs)
  | fn (f : Fn) (cs : List V) (hr : ∀ u ∈ cs, NewV n u) : NewV n (.fn f cs)
theorem NewV.R0 {n : Nat} {x : V} {y : Value} {w : World} {O O' : Nat → Prop} (hx : NewV n x) (hO : ∀ b, n ≤ b → O b → O' b) (h : R0 w O' x y) : R0 w O x y := by
  induction h with
  | any y => exact .any y
  | v x => exact .v x
  | lst lo sz l a k cap b o g hlo hn hc hl ha hs hz hr ih =>
    cases hx with
    | lst _ _ _ h1 h2 =>
      refine .lst lo sz l a k cap b o g hlo hn hc hl (fun hne => ?_) hs hz fun i x j u e1 e2 => ih i x j u e1 e2 (h2 x (List.mem_of_getElem? e1) u (List.mem_of_getElem? e2))
      obtain ⟨q1, q2, q3⟩ := ha hne
      refine ⟨q1, fun hb => q2 (hO b ?_ hb), q3⟩
      have := hlo hne
      rcases h1 with h1 | h1
      · exact absurd h1 hne
      · omega
  | fp cs b o g h1 hb hs hr ih => cases hx
  | agg cs ys hn hr ih =>
    cases hx with
    | agg _ h2 => exact .agg cs ys hn fun j u y e1 e2 => ih j u y e1 e2 (h2 u (List.mem_of_getElem? e1))
  | tup cs ys hn hr ih =>
    cases hx with
    | tup _ h2 => exact .tup cs ys hn fun j u y e1 e2 => ih j u y e1 e2 (h2 u (List.mem_of_getElem? e1))
  | fn f cap ys hn hr ih =>
    cases hx with
    | fn _ _ h2 => exact .fn f cap ys hn fun j u y e1 e2 => ih j u y e1 e2 (h2 u (List.mem_of_getElem? e1))
structure NewR (r : Nat → V) : Prop where
  new : ∀ n, NewV n (r n)
  mono : ∀ n n', n' ≤ n → Sub (r n) (r n')
theorem call_lend {P : Program} {G : Gh} {o : Oper} {s : St} {Q : Exit → St → Prop} {rest : St → Prop} {k : FuncId} {cap as as' : List V} {r : Nat → V} (p : Nat → Bool) (hp : Gives P k as' r) (hr : NewR r)
    (hs : Subs ((as ++ cap).map (vwF p G.lo s 4)) as') (hpure : allP ((as ++ cap).map (vwF p G.lo s 4)) = true)
    (hc : chk G.n o.dst) (h : rest (putD s o.dst (r G.lo))) : SemCall P G o s Q rest (.fn (.func k) cap) as := by
  rintro x l ts ho hx rfl a w ⟨E, hE⟩
  obtain ⟨ys, hy, hsz, hry⟩ := R.fn_inv (ev_E hE hx.symm)
  obtain ⟨hlen, hsub⟩ := hs.spec
  obtain ⟨O', hO'⟩ : ∃ O' : Nat → Prop, O' = fun b => OT G s E b ∧ ¬ ∃ id ob x, p id = true ∧ s.hp id = some ob ∧ E id = some (some b, x) := ⟨_, rfl⟩
  have hsubO : ∀ b, O' b → OT G s E b := fun b hb => by rw [hO'] at hb; exact hb.1
  have hO1 : ∀ b, ¬ OT G s E b → b < w.heap.size → ¬ O' b := fun b hb _ h => hb (hsubO b h)
  have hp1 : ∀ id ob b x, p id = true → s.hp id = some ob → E id = some (some b, x) → ¬ O' b := fun id ob b x h1 h2 h3 h => by
    rw [hO'] at h; exact h.2 ⟨id, ob, x, h1, h2, h3⟩
  have hok := OT_ok hE
  have hokO : OKO w O' := ⟨fun b hb => hok.lt b (hsubO b hb), hok.gl.weak hsubO⟩
  refine wp_call ho hp.1 hy (hp.2 w.heap.size w O' _ (Nat.le_refl _) hokO ⟨?_, fun j u y h1 h2 => ?_⟩) ?_
  · simp at hlen ⊢; omega
  · obtain ⟨u0, h3, h4⟩ := hsub j u h1
    refine h4 _ _ _ ?_
    have hp0 := allP_spec hpure j u0 h3
    rw [List.getElem?_map] at h3
    by_cases hj : j < l.length
    · rw [List.getElem?_append_left (by simpa using hj)] at h3
      rw [Array.getElem?_append_left (by simpa using hj)] at h2
      simp only [List.getElem?_map, Option.map_eq_some_iff] at h3
      obtain ⟨z0, ⟨z, hz, rfl⟩, rfl⟩ := h3
      simp [hz] at h2
      subst h2
      exact (vwF_R hE hO1 hp1 4 (ev_R hE z)).pureV hp0
    · rw [List.getElem?_append_right (by simpa using hj)] at h3
      rw [Array.getElem?_append_right (by simpa using hj)] at h2
      simp at h3 h2
      obtain ⟨z0, hz0, rfl⟩ := h3
      exact (vwF_R hE hO1 hp1 4 (hry _ _ _ hz0 h2)).pureV hp0
  · rintro e w' ⟨y, rfl, hyy, hb⟩
    refine ⟨y, rfl, _, h, E, (hE.below hb).put (chk_spec hc) (.r0 _ _ ?_)⟩
    refine hr.mono _ _ (Nat.le_trans G.hlo hE.grow) _ _ _ ((hr.new _).R0 (O := OT G s E) (fun b hbn hbO => ?_) hyy)
    exact absurd (hok.lt b hbO) (by omega)
theorem newR_v (x : Value) : NewR (fun _ => .v x) := ⟨fun _ => .v x, fun _ _ _ => Sub.refl _⟩
end Pm
open Go Go.RowKit
namespace Pm
theorem all0_mem {l : List V} (h : all0 l = true) : ∀ x ∈ l, pure0 x = true := by
  induction l with
  | nil => intro x hx; cases hx
  | cons y r ih =>
    simp only [all0, Bool.and_eq_true] at h
    intro x hx
    rcases List.mem_cons.1 hx with rfl | hx
    · exact h.1
    · exact ih h.2 x hx
theorem all0_of {l : List V} (h : ∀ x ∈ l, pure0 x = true) : all0 l = true := by
  induction l with
  | nil => rfl
  | cons y r ih =>
    simp only [all0, Bool.and_eq_true]
    exact ⟨h y (List.mem_cons_self ..), ih fun x hx => h x (List.mem_cons_of_mem _ hx)⟩
theorem okN_self {ρ : Ren} {n : Nat} {x : V} (h : pure0 x = true) : okN ρ (n + 1) x x := by
  unfold okN
  cases x <;> first | trivial | rfl | exact .inl rfl | cases h
theorem okL_of {f : V → V → Prop} : ∀ {us xs : List V}, us.length = xs.length → (∀ (j : Nat) (u x : V), us[j]? = some u → xs[j]? = some x → f u x) → okL f us xs
  | [], [], _, _ => trivial
  | u :: us, x :: xs, hl, h => ⟨h 0 u x rfl rfl, okL_of (by simpa using hl) fun j u x h1 h2 => h (j + 1) u x h1 h2⟩
theorem okL_self {ρ : Ren} {us : List V} (h : all0 us = true) : okL (okN ρ 4) us us = True :=
  eq_true (okL_of rfl fun j u x h1 h2 => by
    rw [h1] at h2; cases h2
    exact okN_self (all0_mem h u (List.mem_of_getElem? h1)))
theorem okL_set {ρ : Ren} {us : List V} {i : Nat} {x y : V} (h : all0 us = true) (hx : okN ρ 4 x y) : okL (okN ρ 4) (us.set i x) (us.set i y) = True :=
  eq_true (okL_of (by simp) fun j u v h1 h2 => by
    rw [List.getElem?_set] at h1 h2
    split at h1
    · rename_i e
      rw [if_pos e] at h2
      split at h1
      · rename_i e2
        rw [if_pos e2] at h2
        cases h1; cases h2
        exact hx
      · cases h1
    · rename_i e
      rw [if_neg e, h1] at h2
      cases h2
      exact okN_self (all0_mem h u (List.mem_of_getElem? h1)))
theorem okN_own {ρ : Ren} {id off len sz : Nat} (h : lkR ρ id = some (some id)) : okN ρ 4 (.own id off len sz) (.own id off len sz) := by
  unfold okN; simp only [h]
theorem okL_own {ρ : Ren} {us : List V} {i id off len sz : Nat} (h : all0 us = true) (hx : lkR ρ id = some (some id)) : okL (okN ρ 4) (us.set i (.own id off len sz)) (us.set i (.own id off len sz)) = True := okL_set h (okN_own hx)
theorem vwF_pure0 {p : Nat → Bool} {lo : Nat} {s : St} {n : Nat} {x : V} (h : pure0 x = true) : vwF p lo s (n + 1) x = x := by
  unfold vwF
  cases x <;> first | rfl | cases h
theorem vwS_pure0 {p : Nat → Bool} {lo : Nat} {s : St} {n : Nat} {x : V} (h : pure0 x = true) : vwS p lo s (n + 1) x = x := by
  unfold vwS
  cases x <;> first | rfl | cases h
theorem vwF_all {p : Nat → Bool} {lo : Nat} {s : St} {us : List V} (h : all0 us = true) : us.map (vwF p lo s 4) = us := by
  have e : us.map (vwF p lo s 4) = us.map id := List.map_congr_left fun x hx => vwF_pure0 (n := 3) (all0_mem h x hx)
  rw [e, List.map_id]
theorem vwS_all {p : Nat → Bool} {lo : Nat} {s : St} {us : List V} (h : all0 us = true) : us.map (vwS p lo s 3) = us := by
  have e : us.map (vwS p lo s 3) = us.map id := List.map_congr_left fun x hx => vwS_pure0 (n := 2) (all0_mem h x hx)
  rw [e, List.map_id]
theorem vwF_set {p : Nat → Bool} {lo : Nat} {s : St} {us : List V} {i : Nat} {x : V} (h : all0 us = true) : (us.set i x).map (vwF p lo s 4) = us.set i (vwF p lo s 4 x) := by
  rw [List.map_set, vwF_all h]
theorem entH_frz1 {ρ : Ren} {p : Nat → Bool} {lo : Nat} {s : St} {id : Nat} {cs X : List V} (h1 : lkR ρ id = some (some id)) (hp : p id = false) (h2 : s.hget id = some (.box cs)) (h3 : cs.map (vwF p lo s 4) = X) (h4 : all0 X = true) :
    entH ρ (frz p lo s) [(id, .box X)] := by
  refine ⟨?_, trivial⟩
  unfold entH1
  rw [h1]
  show obOK ρ (.box X) ((frz p lo s).hp id)
  unfold frz
  simp only [hp]
  have h2' : s.hp id = some (.box cs) := h2
  rw [h2']
  show okL (okN ρ 4) X (cs.map (vwF p lo s 4))
  rw [h3, okL_self h4]
  trivial
theorem vwF_own {p : Nat → Bool} {lo : Nat} {s : St} {id off len sz t sz' : Nat} {l : List (List V)} (hp : p id = true) (h : s.hget id = some (.arr t sz' l)) (hs : sz = sz') : vwF p lo s 4 (.own id off len sz) = .lst lo sz ((l.drop off).take len) := by
  subst hs
  unfold vwF
  simp only [hp]
  unfold vwS
  simp only [hp, h, if_true]
end Pm
end Go.Proofs.YtfnohnjnncjidaaGreatDoor
