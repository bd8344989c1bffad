/- Functions that a loop's iterator calls, and that call yield themselves: their contract, how it is shown, how a caller uses it. No program in sight. -/
import Derived.Test.YtgeldamcekjdgaaPmR
namespace Go.Proofs.Ytgeldamcekjdgaa
open Go
set_option linter.unusedSimpArgs false
set_option linter.unusedVariables false
namespace Pm
/-- the loop's frame, as it is now -/
theorem YI.now {P : Program} {G : Gh} {l lam : Nat} {L : Loop} {fl : List (Nat × V)} {ps : List Nat} {mv : List (Nat × Nat)} {asg body : Code} {n : Nat} (h : YI P G l lam L fl ps mv asg body n)
    {s : St} {a : Act} {w : World} {E : Env} (hE : SimE G s a w E) (i : Nat) : R w (OT G s E) E (lkV fl i) (L.tmps.getD i undef) := by
  obtain ⟨O1, hO1, hfl⟩ := h.fr
  obtain ⟨g1, g2⟩ := hfl i
  refine g2.nms hE.grow (fun b hb hlt hot => ?_) (fun b hb hlt hc => hE.keep b hlt (hO1 b hb).2) (fun id hid r hr => ?_) 4 g1
  · obtain ⟨q1, q2⟩ := hO1 b hb
    rcases hot with hot | ⟨id, ob, K, C, k1, k2⟩
    · exact q1 hot
    · rcases (hE.fresh id ob b _ k1 k2).1 with k3 | k3
      · omega
      · exact q2 k3
  · obtain ⟨r', k1, k2⟩ := hE.base id hid
    rw [hr] at k1; cases k1; exact k2
/-- THE CONTRACT of a function that calls yield. -/
def TriY (P : Program) (f : FuncId) (as : List V) (h : List (Nat × OB)) (post : Nat → Out) (l lam : Nat) (L : Loop) (fl : List (Nat × V)) (ps : List Nat) (mv : List (Nat × Nat)) (asg body : Code) (n : Nat) : Prop :=
  Enters P f ∧ ∀ (lo : Nat) (w : World) (O : Nat → Prop) (E : Env) (ys : Array Value) (hlo : lo ≤ w.heap.size), ys.size = as.length →
    SimE (triG noOw w O ys.size h E (names h) lo hlo) (St.of (enumV 0 as) h) ⟨ys, []⟩ w E → YI P (triG noOw w O ys.size h E (names h) lo hlo) l lam L fl ps mv asg body n → Calls P f ys w (Left w O h E lo hlo (post (loT h lo)))
theorem tri_body (ow : Nat → Bool) {P : Program} {f : FuncId} {fn : Func} {c : Code} {as : List V} {h0 : List (Nat × OB)} {post : Nat → Out} {rs : List ResultVar} (hf : P.funcs[f]? = some fn) (hb : fn.body = some c)
    (hrs : fn.results = rs.toArray) (hl : rs.length ≤ 3) {lo : Nat} {w : World} {O : Nat → Prop} {E : Env} {ys : Array Value} {hlo : lo ≤ w.heap.size}
    (hE : SimE (triG noOw w O ys.size h0 E (names h0) lo hlo) (St.of (enumV 0 as) h0) ⟨ys, []⟩ w E)
    (hE0 : SimE (triG ow w O fn.ntmps h0 E (names h0) lo hlo) (St.of (enumV 0 as) h0) { tmps := ys ++ Array.replicate (fn.ntmps - ys.size) undef, defers := [] } w E)
    (key : vc P (triG ow w O fn.ntmps h0 E (names h0) lo hlo) c (St.of (enumV 0 as) h0) (EndsT P h0 rs (post (loT h0 lo)))) : Calls P f ys w (Left w O h0 E lo hlo (post (loT h0 lo))) := by
  refine calls_of_wpIn (G := triG ow w O fn.ntmps h0 E (names h0) lo hlo) rfl hf hb ?_
  refine wpIn_mono (vc_sound c _ _ key _ w ⟨E, hE0⟩) ?_
  rintro e a w' ⟨s, hq, E1, hE1⟩
  have hOf : ∀ b, (triG ow w O fn.ntmps h0 E (names h0) lo hlo).Of b → b < (triG ow w O fn.ntmps h0 E (names h0) lo hlo).w0.heap.size := fun b hb => hE.old b hb
  have fin : EndsT P h0 rs (post (loT h0 lo)) .ret s → LeavesInM Fence.wide 0 P fn a.tmps (Left w O h0 E lo hlo (post (loT h0 lo))) a.defers .returning w' := fun hq => by
    refine fin_leave (by simp) hE1 hOf fun w'' hE1 => ?_
    cases hp : post (loT h0 lo) with
    | pan x h' => rw [hp] at hq; exact hq.elim
    | ret r h' =>
      rw [hp] at hq
      obtain ⟨hres, ρ, h1, h2, h3, h4, h5⟩ := hq
      obtain ⟨y, hy, hr⟩ := resT_run hE1 hrs hl hres
      refine ⟨y, hy, y, envR ρ E1, rfl, left_of (ys := #[y]) rfl hE1 h2 h3 h4 h5 fun i => ?_⟩
      cases i with
      | zero => exact ren 4 h1 hr
      | succ i => exact .r0 _ _ (.any _)
  cases e with
  | normal => exact fin hq
  | ret => exact fin hq
  | exit => exact hq.elim
  | goto => exact hq.elim
  | panic ch =>
    have hq' : EndsT P h0 rs (post (loT h0 lo)) (.panic ch) s := hq
    cases hp : post (loT h0 lo) with
    | ret r h' => rw [hp] at hq'; exact hq'.elim
    | pan x h' =>
      rw [hp] at hq'
      obtain ⟨rfl, ρ, _, h2, h3, h4, h5⟩ := hq'
      refine fin_leave (by simp) hE1 hOf fun w'' hE1 => ?_
      exact ⟨envR ρ E1, rfl, left_of (ys := #[]) rfl hE1 h2 h3 h4 h5 fun i => .r0 _ _ (.any _)⟩
  | outgrown => exact hq.elim
theorem triY_intro (ow : Nat → Bool) {P : Program} {f : FuncId} {fn : Func} {c : Code} {as : List V} {h0 : List (Nat × OB)} {post : Nat → Out} {rs : List ResultVar} {m : Nat} {l lam : Nat} {L : Loop} {fl : List (Nat × V)} {ps : List Nat} {mv : List (Nat × Nat)} {asg body : Code} {n : Nat}
    (hf : P.funcs[f]? = some fn) (hm : fn.ntmps = m) (hb : fn.body = some c) (hname : (fn.name == "runtime.NumGoroutine") = false)
    (hn : as.length ≤ m) (hrs : fn.results = rs.toArray) (hl : rs.length ≤ 3)
    (h : ∀ (G : Gh), G.n = m → G.ow = ow → G.nm = names h0 → G.rd = none → YI P G l lam L fl ps mv asg body n → vc P G c (St.of (enumV 0 as) h0) (EndsT P h0 rs (post G.lo))) : TriY P f as h0 post l lam L fl ps mv asg body n := by
  subst hm
  refine ⟨⟨fn, hf, hname, by simp [hb]⟩, fun lo w O E ys hlo hsz hE hY => ?_⟩
  have hE0 : SimE (triG ow w O fn.ntmps h0 E (names h0) lo hlo) (St.of (enumV 0 as) h0) { tmps := ys ++ Array.replicate (fn.ntmps - ys.size) undef, defers := [] } w E :=
    ⟨fun i => by rw [args_pad]; exact hE.fr i, DefOK.nil, by simp [triG]; omega, hE.hp, hE.us, hE.inj, hE.fresh, hE.old, hE.grow, hE.os, hE.tape, hE.output, hE.keep, hE.base, trivial⟩
  have hY0 : YI P (triG ow w O fn.ntmps h0 E (names h0) lo hlo) l lam L fl ps mv asg body n := ⟨rfl, hY.hL, hY.hps, hY.hmv, hY.hmvn, hY.lam, hY.fr⟩
  -- the same as for other functions
  have key := h (triG ow w O fn.ntmps h0 E (names h0) lo hlo) rfl rfl rfl rfl hY0
  exact tri_body ow hf hb hrs hl hE hE0 key
theorem names_of_cover {h : List (Nat × OB)} {ρ : Ren} (hc : coverR h ρ) {id : Nat} {x : Option Nat} (hl : lkR ρ id = some x) : id ∈ names h := names_mem.2 (coverR_spec hc hl)
/-- THE CALL. The names stay what they are. -/
theorem call_triY {P : Program} {G : Gh} {o : Oper} {s : St} {Q : Exit → St → Prop} {rest : St → Prop} {k : FuncId} {cap as as' : List V} {h : List (Nat × OB)} {post : Nat → Out} {l lam : Nat} {L : Loop} {fl : List (Nat × V)} {ps : List Nat} {mv : List (Nat × Nat)} {asg body : Code} {n : Nat}
    (ρ ν : List (Nat × Nat)) (hp : TriY P k as' h post l lam L fl ps mv asg body n) (hY : YI P G l lam L fl ps mv asg body n)
    (hA : okL (okN (toR ρ) 4) as' (as ++ cap)) (hH : entH (toR ρ) s h) (hi : injR (toR ρ)) (hcv : coverR h (toR ρ)) (hid : ∀ id ∈ G.nm, lkR (toR ρ) id = some (some id)) (hq : uniqP ρ) (hc : chk G.n o.dst)
    (hr : AftT o.dst s Q rest h ρ ν (post (loT h G.lo))) : SemCall P G o s Q rest (.fn (.func k) cap) as := by
  rintro x l' ts ho hx rfl a w ⟨E, hE⟩
  obtain ⟨ys, hy, hsz, hrr⟩ := R.fn_inv (ev_E hE hx.symm)
  obtain ⟨hn, hargs⟩ := ops_R (l := l') hE hsz hrr
  obtain ⟨hl1, hl2⟩ := okL_spec hA
  have hlo : G.lo ≤ w.heap.size := Nat.le_trans G.hlo hE.grow
  have hen := tri_enter hE hH hi hcv (as := as') (ys := (l'.map a.eval).toArray ++ ys) (fun j u hj => by
    obtain ⟨x', g1, g2⟩ := hl2 j u hj
    exact ren 4 g2 (hargs j x' g1)) hlo
  have hEid : ∀ id ∈ G.nm, envR (toR ρ) E id = E id := fun id h => by unfold envR; rw [hid id h]
  refine wp_call_any ho hp.1 hy (hp.2 G.lo w _ _ _ hlo (by omega) hen ⟨rfl, hY.hL, hY.hps, hY.hmv, hY.hmvn, ⟨names_of_cover hcv (hid lam hY.lam.1), ?_⟩, ?_⟩) ?_
  · show envR (toR ρ) E lam = _
    rw [hEid lam hY.lam.1]
    obtain ⟨r, h1, h2⟩ := hE.base lam hY.lam.1
    rw [hY.lam.2] at h1; cases h1; exact h2
  · refine ⟨OT G s E, fun b hb => ⟨?_, ?_⟩, fun i => ?_⟩
    · rintro (h | ⟨id, ob, K, C, h1, h2, _⟩)
      · exact hb (.inl h)
      · exact hb (.inr ⟨id, ob, K, C, h1, h2⟩)
    · rintro ⟨id, ob, K, C, h1, h2⟩
      obtain ⟨j, ob', _, g2, g3, _⟩ := entH_live hH h1 h2
      exact hb (.inr ⟨j, ob', K, C, g2, g3⟩)
    · obtain ⟨O1, hO1, hfl⟩ := hY.fr
      refine ⟨nmOK_mono (fun id h => names_of_cover hcv (hid id h)) 4 (hfl i).1, ?_⟩
      refine (hY.now hE i).nms (Nat.le_refl _) (fun _ h _ => h) (fun _ _ _ _ => rfl) (fun id hid' r hr => ?_) 4 (hfl i).1
      show envR (toR ρ) E id = _
      rw [hEid id hid']; exact hr
  intro e w' hleft
  cases hpost : post (loT h G.lo) with
  | ret r h' =>
    rw [hpost] at hleft hr
    obtain ⟨y, E1, rfl, h1⟩ := hleft
    obtain ⟨a1, a2, a3, a4⟩ := hr
    obtain ⟨E', b1, b2⟩ := tri_leave hE hH hcv h1 hq a1 a3
    have hR := h1.fr 0
    refine .inl ⟨y, rfl, _, a4, E', b1.put (chk_spec hc) (b2 ?_)⟩
    simpa [St.of, lkV] using hR
  | pan v h' =>
    rw [hpost] at hleft hr
    obtain ⟨E1, rfl, h1⟩ := hleft
    obtain ⟨a1, a2, a3, a4⟩ := hr
    obtain ⟨E', b1, b2⟩ := tri_leave hE hH hcv h1 hq a1 a3
    exact .inr ⟨_, rfl, _, a4, E', b1⟩
/-- In a region that draws its order: a call that gives new memory, under names of one's own. -/
theorem newN_congr {s s' : St} {N : Nat → Bool} (e : ∀ id, N id = true → s'.hp id = s.hp id ∧ s'.us id = s.us id) : ∀ {ν : List (Nat × Nat)}, (tgt ν).all N = true → newN s [] ν → newN s' [] ν
  | [], _, _ => trivial
  | (i, j) :: r, h, ⟨h1, h2, h3, h4⟩ => by
    have h' : N j = true ∧ (tgt r).all N = true := by simpa [tgt, List.all_cons] using h
    exact ⟨h1, (e j h'.1).2.trans h2, h3, newN_congr e h'.2 h4⟩
theorem callNew {P : Program} {G : Gh} {N : Nat → Bool} {M : Bool} {s : St} {k : FuncId} {cap as as' : List V} {r : Nat → V} {h' : Nat → List (Nat × OB)} (ν : List (Nat × Nat)) (hp : Tri P k as' [] (fun lo => .ret (r lo) (h' lo)))
    (hA : okL (okN (toR []) 4) as' (as ++ cap)) (hM : M = true) (hN : (tgt ν).all N = true) (hN2 : ((upT [] ν (h' G.lo)).map (·.1)).all N = true) (hnew : newN s [] ν) (hall : hasAll (toR (keepR (h' G.lo) [] ++ ν)) (h' G.lo)) (hu : uniqN (h' G.lo)) :
    CallE P G N M (.fn (.func k) cap) as s (renT (toR (keepR (h' G.lo) [] ++ ν)) 4 (r G.lo), upT [] ν (h' G.lo)) := by
  refine ⟨fun h => (by rw [hM] at h; cases h), fun p hp => List.all_eq_true.1 hN2 _ (List.mem_map_of_mem hp), ?_⟩
  intro s' e o Q rest hc hr
  refine call_tri [] ν hp hA trivial ?_ ?_ trivial hc ⟨newN_congr e hN hnew, hall, hu, hr⟩
  · simp [injR, toR]
  · simp [coverR, toR]
/-- the body of a range over a function -/
def rfO : Code → Option Code
  | .seq a b => orElse (rfO a) (rfO b)
  | .cond _ a b => orElse (rfO a) (rfO b)
  | .block _ c => rfO c
  | .loop c => rfO c
  | .scope c => rfO c
  | .rangeFunc _ _ _ b => some b
  | _ => none
def rfOf (c : Option Code) : Code := ((c.bind rfO).getD .skip)
theorem YI.code {P : Program} {G : Gh} {l lam : Nat} {L : Loop} {fl : List (Nat × V)} {ps : List Nat} {mv : List (Nat × Nat)} {asg body body' : Code} {n : Nat} (h : YI P G l lam L fl ps mv asg body n) (e : body = body') : YI P G l lam L fl ps mv asg body' n := e ▸ h
/-- an operation that is not told of memory of one's own: nobody writes there any more -/
theorem step_frz {P : Program} {G : Gh} {o : Oper} {s : St} {Q : Exit → St → Prop} {rest : St → Prop} (p : Nat → Bool) (h : fin P G o (frz p G.lo s) Q rest (lstep P G.ow G.lo (frz p G.lo s) o.dst o.op)) : SemStep P G o s Q rest :=
  fun a w hs => fin_step h a w (frz_ent p a w hs)
end Pm
end Go.Proofs.Ytgeldamcekjdgaa
