import Derived.Test.YtphadkcpgnkpfaaGreatDoorQT28
namespace Go.Proofs.YtphadkcpgnkpfaaGreatDoor
open Go Go.RowKit
set_option linter.unusedSimpArgs false
set_option linter.unusedVariables false
namespace Pm
def GivesS (P : Program) (f : FuncId) (as : List V) (r : Nat → V → Prop) : Prop := Enters P f ∧ ∀ (lo : Nat) (w : World) (O : Nat → Prop) (ys : Array Value), lo ≤ w.heap.size → OKO w O → ArgsR w O as ys →
  Calls P f ys w fun e w' => ∃ y v, e = .returned y ∧ r lo v ∧ R0 w' O v y ∧ Below w.heap.size w w'
theorem call_some {P : Program} {G : Gh} {o : Oper} {s : St} {Q : Exit → St → Prop} {rest : St → Prop} {k : FuncId} {cap as as' : List V} {r : Nat → V → Prop} (hp : GivesS P k as' r)
    (hs : Subs (as ++ cap) as') (hpure : allP (as ++ cap) = true) (hc : chk G.n o.dst) (h : ∀ v, r G.lo v → rest (putD s o.dst v)) : SemCall P G o s Q rest (.fn (.func k) cap) as := by
  rintro x l ts ho hx rfl a w ⟨E, hE⟩
  obtain ⟨ys, hy, hsz, hr⟩ := R.fn_inv (ev_E hE hx.symm)
  obtain ⟨hlen, hsub⟩ := hs.spec
  refine wp_call ho hp.1 hy (hp.2 G.lo w (OT G s E) _ (Nat.le_trans G.hlo hE.grow) (OT_ok hE) ⟨?_, fun j u y h1 h2 => ?_⟩) ?_
  · simp at hlen ⊢; omega
  · obtain ⟨u0, h3, h4⟩ := hsub j u h1
    refine h4 _ _ _ ?_
    have hp0 := allP_spec hpure j u0 h3
    by_cases hj : j < l.length
    · rw [List.getElem?_append_left (by simpa using hj)] at h3
      rw [Array.getElem?_append_left (by simpa using hj)] at h2
      simp only [List.getElem?_map, Option.map_eq_some_iff] at h3
      obtain ⟨z, hz, rfl⟩ := h3
      simp [hz] at h2
      subst h2
      exact (ev_R hE z).pureV hp0
    · rw [List.getElem?_append_right (by simpa using hj)] at h3
      rw [Array.getElem?_append_right (by simpa using hj)] at h2
      simp at h3 h2
      exact (hr _ _ _ h3 h2).pureV hp0
  · rintro e w' ⟨y, v, rfl, hv, hry, hb⟩
    exact ⟨y, rfl, _, h v hv, E, (hE.below hb).put (chk_spec hc) (.r0 _ _ hry)⟩

theorem tgt_mem {ρ : List (Nat × Nat)} {i j : Nat} (hm : (i, j) ∈ ρ) : j ∈ tgt ρ := by
  induction ρ with
  | nil => cases hm
  | cons q t ih =>
    obtain ⟨u, v⟩ := q
    rcases List.mem_cons.1 hm with h1 | h1
    · cases h1; exact List.mem_cons_self ..
    · exact List.mem_cons_of_mem _ (ih h1)
theorem entH_agree {ρ : List (Nat × Nat)} {s s' : St} {h : List (Nat × OB)} {N : Nat → Bool} (hN : (tgt ρ).all N = true) (e : ∀ id, N id = true → s'.hp id = s.hp id ∧ s'.us id = s.us id) (hH : entH (toR ρ) s h) : entH (toR ρ) s' h :=
  entH_congr (fun i j hj => by
    obtain ⟨j', e1, hm⟩ := lkR_toR hj
    cases e1
    exact (e j (List.all_eq_true.1 hN j (tgt_mem hm))).1) hH
theorem callMod {P : Program} {G : Gh} {N : Nat → Bool} {M : Bool} {s : St} {k : FuncId} {cap as as' : List V} {h : List (Nat × OB)} {r : Nat → V} {h' : Nat → List (Nat × OB)} (ρ ν : List (Nat × Nat)) (hp : Tri P k as' h (fun lo => .ret (r lo) (h' lo)))
    (hA : okL (okN (toR ρ) 4) as' (as ++ cap)) (hH : entH (toR ρ) s h) (hi : injR (toR ρ)) (hcv : coverR h (toR ρ)) (hq : uniqP ρ) (hM : M = true) (hNρ : (tgt ρ).all N = true) (hN : (tgt ν).all N = true) (hN2 : ((upT ρ ν (h' (loT h G.lo))).map (·.1)).all N = true)
    (hnew : newN s h ν) (hall : hasAll (toR (keepR (h' (loT h G.lo)) ρ ++ ν)) (h' (loT h G.lo))) (hu : uniqN (h' (loT h G.lo))) :
    CallE P G N M (.fn (.func k) cap) as s (renT (toR (keepR (h' (loT h G.lo)) ρ ++ ν)) 4 (r (loT h G.lo)), upT ρ ν (h' (loT h G.lo))) := by
  refine ⟨fun h => (by rw [hM] at h; cases h), fun p hp => List.all_eq_true.1 hN2 _ (List.mem_map_of_mem hp), ?_⟩
  intro s' e o Q rest hc hr
  exact call_tri ρ ν hp hA (entH_agree hNρ e hH) hi hcv hq hc ⟨newN_congr e hN hnew, hall, hu, hr⟩
theorem callDies {P : Program} {G : Gh} {N : Nat → Bool} {s : St} {Q : Exit → St → Prop} {k : FuncId} {cap as as' : List V} {h : List (Nat × OB)} {x : Value} (ρ : List (Nat × Nat)) (hp : Tri P k as' h (fun _ => .pan x []))
    (hA : okL (okN (toR ρ) 4) as' (as ++ cap)) (hH : entH (toR ρ) s h) (hi : injR (toR ρ)) (hcv : coverR h (toR ρ)) (hq : uniqP ρ) (hNρ : (tgt ρ).all N = true) (hQ : ∀ s', Q (.panic [{ v := x, recovered := false }]) s') :
    CallD P G Q N (.fn (.func k) cap) as s :=
  fun s' e o rest hc => call_tri ρ [] hp hA (entH_agree hNρ e hH) hi hcv hq hc ⟨trivial, trivial, trivial, hQ _⟩

def TriD (P : Program) (f : FuncId) (as : List V) (h : List (Nat × OB)) (u u' : FrameMode) (h' : List (Nat × OB)) : Prop :=
  Enters P f ∧ ∀ (lo : Nat) (w : World) (O : Nat → Prop) (E : Env) (ys : Array Value) (hlo : LoOK w (fun b => O b ∨ triM h E b) lo), ys.size = as.length →
    SimE (triG noOw w O ys.size h E (names h) lo hlo) (St.of (enumV 0 as) h) ⟨ys, []⟩ w E → CallsDIn Fence.wide 0 P f ys u w fun e u2 w' => u2 = u' ∧ Left w O h E lo hlo (.ret (.tup []) h') e w'
theorem bare {ow : Nat → Bool} {w : World} {O : Nat → Prop} {n : Nat} {h : List (Nat × OB)} {E0 : Env} {nm : List Nat} {lo : Nat} {hlo : LoOK w (fun b => O b ∨ triM h E0 b) lo} {df : List Deferred} {nomk : Bool} {rd : Option Nat} {hnk}
    {s : St} {a : Act} {w' : World} {E : Env} (hs : SimE { triG ow w O n h E0 nm lo hlo with df := df, nomk := nomk, rd := rd, hnk := hnk } s a w' E) : SimE (triG ow w O n h E0 nm lo hlo) s ⟨a.tmps, []⟩ w' E :=
  ⟨hs.fr, DefOK.nil, hs.size, hs.hp, hs.us, hs.inj, hs.fresh, hs.old, hs.grow, hs.os, hs.tape, hs.output, hs.keep, hs.base, hs.zi⟩
theorem clad {ow : Nat → Bool} {w : World} {O : Nat → Prop} {n : Nat} {h : List (Nat × OB)} {E0 : Env} {nm : List Nat} {lo : Nat} {hlo : LoOK w (fun b => O b ∨ triM h E0 b) lo} {df : List Deferred} {nomk : Bool} {rd : Option Nat} {hnk}
    {s : St} {a : Act} {w' : World} {E : Env} (hs : SimE (triG ow w O n h E0 nm lo hlo) s ⟨a.tmps, []⟩ w' E) (hd : a.defers = df) : SimE { triG ow w O n h E0 nm lo hlo with df := df, nomk := nomk, rd := rd, hnk := hnk } s a w' E :=
  ⟨hs.fr, ⟨[], by rw [hd]; rfl, .nil, by simp⟩, hs.size, hs.hp, hs.us, hs.inj, hs.fresh, hs.old, hs.grow, hs.os, hs.tape, hs.output, hs.keep, hs.base, hs.zi⟩
theorem pad_sim {w : World} {O : Nat → Prop} {h0 : List (Nat × OB)} {E : Env} {lo : Nat} {hlo : LoOK w (fun b => O b ∨ triM h0 E b) lo} {ys : Array Value} {as : List V} {m : Nat} (hm : ys.size ≤ m) (hE : SimE (triG noOw w O ys.size h0 E (names h0) lo hlo) (St.of (enumV 0 as) h0) ⟨ys, []⟩ w E) (ow : Nat → Bool) :
    SimE (triG ow w O m h0 E (names h0) lo hlo) (St.of (enumV 0 as) h0) ⟨ys ++ Array.replicate (m - ys.size) undef, []⟩ w E :=
  ⟨fun i => by rw [args_pad]; exact hE.fr i, DefOK.nil, by simp [triG]; omega, hE.hp, hE.us, hE.inj, hE.fresh, hE.old, hE.grow, hE.os, hE.tape, hE.output, hE.keep, hE.base, trivial⟩

theorem triD_intro (u u' : FrameMode) (val : Value) {P : Program} {f : FuncId} {fn : Func} {c2 : Code} {id d : Nat} {o : Oper} {as : List V} {h0 h' : List (Nat × OB)} {m : Nat} (hf : P.funcs[f]? = some fn) (hm : fn.ntmps = m) (hb : fn.body = some (.seq (.region id #[o] false) c2)) (hname : (fn.name == "runtime.NumGoroutine") = false)
    (hn : as.length ≤ m) (hrs : fn.results = #[]) (ho : o.op = .call ⟨.builtin .recover, #[], #[]⟩) (hod : o.dst = some d) (hog : o.guard = none) (hdm : d < m)
    (hrec : ∀ (c₀ : Frame) (cs : List Frame), c₀.mode = u → match recoverD (c₀ :: cs) with | some (v, cs') => v = val ∧ cs' = { c₀ with mode := u' } :: cs | none => val = .nilIface ∧ u' = u)
    (h : ∀ (G : Gh), G.n = m → G.ow = (fun _ => false) → G.nm = names h0 → vc P G c2 ((St.of (enumV 0 as) h0).set d (.v val)) (EndsT P h0 [] (.ret (.tup []) h'))) : TriD P f as h0 u u' h' := by
  subst hm
  refine ⟨⟨fn, hf, hname, by simp [hb]⟩, fun lo w O E ys hlo hsz hE => ?_⟩
  refine callsDIn_of_wpSIn hf hb trivial fun c₀ cs hu => ?_
  refine wpSIn_seq (wpSIn_region ?_)
  have hS := pad_sim (m := fn.ntmps) (by omega) hE (fun _ => false)
  generalize ha : ({ tmps := ys ++ Array.replicate (fn.ntmps - ys.size) undef, defers := [] } : Act) = a at hS
  have had : a.defers = [] := by rw [← ha]
  have hrun : (execOp a.eval o).run P w = .ok .recover w := by simp [execOp, ho, resolve, invoke, builtin]
  have hab : ∀ g, o.about P w a.eval = some g → Fence.wide.fn g := fun _ _ => trivial
  have hwant : Region.wanted o (yielded #[o] a.tmps) = true := by simp [Region.wanted, hog]
  have key : ∀ cs', cs' = { c₀ with mode := u' } :: cs → c2.wpSIn Fence.wide 0 P (bodyPostS P fn c₀ cs fun e u2 w' => u2 = u' ∧ Left w O h0 E lo hlo (.ret (.tup []) h') e w') (a.put o.dst val) cs' w := by
    rintro _ rfl
    refine wpSIn_of_wpIn rfl ?_
    let G : Gh := { triG (fun _ => false) w O fn.ntmps h0 E (names h0) lo hlo with nomk := true, rd := some 0, hnk := fun _ => by simp }
    have hG : G.F = Fence.wide := rfl
    have hs : Sim G ((St.of (enumV 0 as) h0).set d (.v val)) (a.put o.dst val) w := by
      have h1 : SimE G (St.of (enumV 0 as) h0) a w E := clad (a := a) (by rw [← had]; exact hS) had
      have := h1.put (dst := o.dst) (x := .v val) (y := val) (fun d' hd' => by rw [hod] at hd'; cases hd'; exact hdm) (.r0 _ _ (.v _))
      rw [hod] at this ⊢
      exact ⟨E, this⟩
    have hw := vc_sound c2 _ _ (h G rfl rfl rfl) _ w hs
    rw [hG] at hw
    refine wpIn_mono hw ?_
    rintro e a1 w1 ⟨s, hq, E1, hE1⟩
    have hd1 : a1.defers = [] := by
      obtain ⟨rs, e1, _, e3⟩ := hE1.defers
      cases rs with
      | nil => exact e1
      | cons r rs => have := (e3 r (by simp)).2.2.2; cases this
    have fin : EndsT P h0 [] (.ret (.tup []) h') .ret s → bodyPostS P fn c₀ cs (fun e u2 w' => u2 = u' ∧ Left w O h0 E lo hlo (.ret (.tup []) h') e w') .ret a1 ({ c₀ with mode := u' } :: cs) w1 := fun hq => by
      obtain ⟨hres, ρ, h1, h2, h3, h4, h5⟩ := hq
      have hE2 := bare hE1
      obtain ⟨y, hy, hr⟩ := resT_run hE2 hrs (by simp) hres
      refine ⟨hd1, u', rfl, y, hy, rfl, y, envR ρ E1, rfl, left_of (ys := #[y]) rfl hE2 h2 h3 h4 h5 fun i => ?_⟩
      cases i with
      | zero => exact ren 4 h1 hr
      | succ i => exact .r0 _ _ (.any _)
    cases e with
    | normal => exact fin hq
    | ret => exact fin hq
    | exit => exact hq.elim
    | goto => exact hq.elim
    | panic ch => exact hq.elim
    | outgrown => exact hq.elim
  have hr := hrec c₀ cs hu
  show wpOpsSIn Fence.wide 0 P #[o] _ [0] a (c₀ :: cs) w
  have hl : #[o][0]? = some o := rfl
  simp only [wpOpsSIn, hl, hwant, if_true, hrun]
  refine ⟨hab, ?_⟩
  cases hx : recoverD (c₀ :: cs) with
  | some p =>
    obtain ⟨v, cs'⟩ := p
    rw [hx] at hr
    obtain ⟨rfl, hcs⟩ := hr
    exact key cs' hcs
  | none =>
    rw [hx] at hr
    obtain ⟨rfl, rfl⟩ := hr
    exact key _ (by rw [← hu])
def EndsD (P : Program) (h0 : List (Nat × OB)) (p : Nat) (x : Value) (wV : Int → Value) (K : Int → Prop) (out : Out) : Exit → St → Prop
  | .normal, s | .ret, s => s.hget p = some (.box [.v x]) ∧ EndsT P h0 [] out .ret (s.hset p (some (.box [.v x])))
  | .panic ch, s => ∃ k, K k ∧ ch = [{ v := wV k, recovered := false }] ∧ s.hget p = some (.box [.v x]) ∧ EndsT P h0 [] out .ret (s.hset p (some (.box [.v (.int .i64 k)])))
  | _, _ => False
theorem endsD_n {P : Program} {h0 : List (Nat × OB)} {p : Nat} {x : Value} {wV : Int → Value} {K : Int → Prop} {out : Out} (s : St) : EndsD P h0 p x wV K out .normal s = (s.hget p = some (.box [.v x]) ∧ EndsT P h0 [] out .ret (s.hset p (some (.box [.v x])))) := rfl
theorem endsD_r {P : Program} {h0 : List (Nat × OB)} {p : Nat} {x : Value} {wV : Int → Value} {K : Int → Prop} {out : Out} (s : St) : EndsD P h0 p x wV K out .ret s = (s.hget p = some (.box [.v x]) ∧ EndsT P h0 [] out .ret (s.hset p (some (.box [.v x])))) := rfl
theorem endsD_p {P : Program} {h0 : List (Nat × OB)} {p : Nat} {x : Value} {wV : Int → Value} {K : Int → Prop} {out : Out} (ch : List PanicEntry) (s : St) : EndsD P h0 p x wV K out (.panic ch) s = (∃ k, K k ∧ ch = [{ v := wV k, recovered := false }] ∧ s.hget p = some (.box [.v x]) ∧ EndsT P h0 [] out .ret (s.hset p (some (.box [.v (.int .i64 k)])))) := rfl
theorem tri_introD (ow : Nat → Bool) {P : Program} {f told : FuncId} {fn : Func} {c2 : Code} {id p : Nat} {o : Oper} {ts : Array TypeId} {x : Value} {as : List V} {h0 : List (Nat × OB)} {post : Nat → Out} {m : Nat} (wV : Int → Value) (K : Int → Prop) (hf : P.funcs[f]? = some fn) (hm : fn.ntmps = m) (hb : fn.body = some (.seq (.region id #[o] false) c2)) (hname : (fn.name == "runtime.NumGoroutine") = false)
    (hn : as.length ≤ m) (hrs : fn.results = #[]) (ho : o.op = .defer ⟨.value (.func told), #[.tmp 0], ts⟩) (hod : o.dst = none) (hog : o.guard = none) (has : as[0]? = some (.ptr p 0)) (hp0 : p ∈ names h0)
    (hret : TriD P told [.ptr 0 0] [(0, .box [.v x])] .returning .returning [(0, .box [.v x])])
    (hpan : ∀ k, K k → TriD P told [.ptr 0 0] [(0, .box [.v x])] (.panicking [{ v := wV k, recovered := false }]) (.panicking [{ v := wV k, recovered := true }]) [(0, .box [.v (.int .i64 k)])])
    (h : ∀ (G : Gh), G.n = m → G.ow = ow → G.nm = names h0 → G.rd = none → vc P G c2 (St.of (enumV 0 as) h0) (EndsD P h0 p x wV K (post G.lo))) : Tri P f as h0 post := by
  subst hm
  refine ⟨⟨fn, hf, hname, by simp [hb]⟩, fun lo w O E ys hlo hsz hE => ?_⟩
  have hS := pad_sim (m := fn.ntmps) (by omega) hE ow
  generalize ha : ({ tmps := ys ++ Array.replicate (fn.ntmps - ys.size) undef, defers := [] } : Act) = a at hS
  have had : a.defers = [] := by rw [← ha]
  obtain ⟨y0, hy0⟩ : ∃ y0, y0 = a.eval (.tmp 0) := ⟨_, rfl⟩
  have hnk0 : false = true → (none : Option Nat) ≠ none := fun h => nomatch h
  let d : Deferred := { target := .fn (.func told) #[], args := #[y0] }
  let G : Gh := { triG ow w O fn.ntmps h0 E (names h0) lo hlo with df := [d] }
  have hGF : G.F = Fence.wide := rfl
  refine calls_of_wpIn (G := G) rfl hf hb ?_
  rw [ha]
  have hy0R : ∃ b K0 C0, E p = some (some b, K0, C0) ∧ y0 = .pointer (some ⟨b, 0, none⟩) := by
    have h1 : R w (OT (triG ow w O fn.ntmps h0 E (names h0) lo hlo) (St.of (enumV 0 as) h0) E) E (.ptr p 0) y0 := by
      have := ev_R hS (.tmp 0)
      rw [← hy0] at this
      have e : ev (St.of (enumV 0 as) h0) (.tmp 0) = .ptr p 0 := by
        show lkV (enumV 0 as) 0 = _
        rw [lkV_enum]; simp [has]
      rwa [e] at this
    exact R.ptr_inv h1
  have hrun : (execOp a.eval o).run P w = .ok (.defer d) w := by
    have e1 : a.eval (.func told) = .func (.func told) #[] #[] := rfl
    simp [execOp, ho, resolve, Deferred.ofValue, e1, d, hy0]
  have hOf : ∀ b, G.Of b → b < G.w0.heap.size := fun b hb => hE.old b hb
  have tail : ∀ (u u' : FrameMode) (x' : Value) (s : St) (a1 : Act) (w1 : World) (E1 : Env), u ≠ .run → settle u' = .returning → SimE G s a1 w1 E1 → s.hget p = some (.box [.v x]) → TriD P told [.ptr 0 0] [(0, .box [.v x])] u u' [(0, .box [.v x'])] →
      EndsT P h0 [] (post (loT h0 lo)) .ret (s.hset p (some (.box [.v x']))) → LeavesInM Fence.wide 0 P fn a1.tmps (Left w O h0 E lo hlo (post (loT h0 lo))) a1.defers u w1 := by
    intro u u' x' s a1 w1 E1 hu hset hE1 hx ht hq
    refine fin_leaveD hu hE1 hOf fun w2 hE2 => ?_
    have hB : SimE (triG ow w O fn.ntmps h0 E (names h0) lo hlo) s ⟨a1.tmps, []⟩ w2 E1 := ⟨hE2.fr, DefOK.nil, hE2.size, hE2.hp, hE2.us, hE2.inj, hE2.fresh, hE2.old, hE2.grow, hE2.os, hE2.tape, hE2.output, hE2.keep, hE2.base, hE2.zi⟩
    obtain ⟨b0, K0, C0, hEp, hy⟩ := hy0R
    obtain ⟨r, hr1, hr2⟩ := hB.base p hp0
    rw [show (triG ow w O fn.ntmps h0 E (names h0) lo hlo).E0 = E from rfl, hEp] at hr1
    cases hr1
    have hx' : s.hp p = some (.box [.v x]) := hx
    have hH : entH (toR [(0, p)]) s [(0, .box [.v x])] := by simp [entH, entH1, toR, lkR, obOK, St.hget, hx', okL, okN]
    have hi : injR (toR [(0, p)]) := by simp [injR, toR, apart]
    have hc : coverR [(0, OB.box [.v x])] (toR [(0, p)]) := by simp [coverR, toR, usH]
    have hen := tri_enter hB hH hi hc (as := [.ptr 0 0]) (ys := #[y0]) (fun j u hj => by
      match j with
      | 0 => simp at hj; subst hj; rw [hy]; exact .ptr 0 0 b0 K0 C0 (by simp [envR, toR, lkR, hr2])
      | j + 1 => simp at hj) (tri_lo hB hH)
    have hcall := ht.2 _ w2 _ _ #[y0] (tri_lo hB hH) rfl hen
    refine ⟨hu, .inr ⟨(fun h => by cases h), .func told, #[], told, #[y0], rfl, ?_, fun _ _ => trivial, hcall.mono ?_⟩⟩
    · obtain ⟨fnT, hfT, hnT, hbT⟩ := ht.1
      have hn' : fnT.name ≠ "runtime.NumGoroutine" := by simpa using hnT
      have hb' : fnT.body ≠ none := by intro h; simp [h] at hbT
      simp [d, invoke, callFunc, hfT, hb', hn']
    · rintro e u2 w3 ⟨rfl, y, E3, rfl, h1⟩
      show LeavesInM Fence.wide 0 P fn a1.tmps _ [] (settle u2) w3
      rw [hset]
      obtain ⟨E4, b1, _⟩ := tri_leave hB hH hc h1 (by simp [uniqP, lkR, toR]) (ν := []) trivial (by simp [uniqN, usH])
      have e : hsets s (upT [(0, p)] [] [(0, .box [.v x'])]) = s.hset p (some (.box [.v x'])) := by simp [upT, dropsR, outsR, keepR, usH, toR, lkR, renO, renT, hsets]
      rw [e] at b1
      cases hp : post (loT h0 lo) with
      | pan x h' => rw [hp] at hq; exact hq.elim
      | ret r h' =>
        rw [hp] at hq
        obtain ⟨hres, ρ, h1, h2, h3, h4, h5⟩ := hq
        obtain ⟨y, hy, hr⟩ := resT_run b1 hrs (by simp) hres
        refine ⟨y, hy, y, envR ρ E4, rfl, left_of (ys := #[y]) rfl b1 h2 h3 h4 h5 fun i => ?_⟩
        cases i with
        | zero => exact ren 4 h1 hr
        | succ i => exact .r0 _ _ (.any _)
  refine wpIn_seq (wpIn_region_list ?_)
  have hS2 : SimE G (St.of (enumV 0 as) h0) ({ a with defers := d :: a.defers }.put o.dst undef) w E := by
    rw [hod]
    exact clad (df := [d]) (nomk := false) (rd := none) (hnk := hnk0) (a := { a with defers := d :: a.defers }) (by rw [← had]; exact hS) (by show d :: a.defers = _; rw [had])
  have hw := vc_sound c2 _ _ (h G rfl rfl rfl rfl) _ w ⟨E, hS2⟩
  show wpListIn G.F 0 P #[o] _ [o] a w
  refine wpListIn_plain hog fun K' hK' => ?_
  refine ⟨fun _ _ => trivial, ?_⟩
  have hsem : o.semAt G.F.round a.eval = execOp a.eval o := by rw [hGF]; exact Oper.semAt_none _ _
  rw [hsem, hrun, Oper.uponIn_defer]
  refine hK' _ _ ?_
  show Exit.then _ _ .normal _ _
  refine wpIn_mono hw ?_
  rintro e a1 w1 ⟨s, hq, E1, hE1⟩
  cases e with
  | normal => exact tail .returning .returning x s a1 w1 E1 (by simp) rfl hE1 hq.1 hret hq.2
  | ret => exact tail .returning .returning x s a1 w1 E1 (by simp) rfl hE1 hq.1 hret hq.2
  | exit => exact hq.elim
  | goto => exact hq.elim
  | panic ch =>
    obtain ⟨k, hk, rfl, q1, q2⟩ := hq
    exact tail _ _ (.int .i64 k) s a1 w1 E1 (by simp) rfl hE1 q1 (hpan k hk) q2
  | outgrown => exact hq.elim
end Pm
end Go.Proofs.YtphadkcpgnkpfaaGreatDoor
