import Derived.Deep.OwnRows
import Derived.Handed
import Derived.LaidMore
import Derived.LaidHandle
import Derived.Stop.Joined
import Derived.OpenShut
import Derived.ChangeSame
import Derived.Test.YtagfopbijboajaaGreatDoorQY08
import Derived.Test.YtagfopbijboajaaGreatDoorQY10
import Derived.Test.YtagfopbijboajaaGreatDoorQY11
import Derived.Test.YtagfopbijboajaaGreatDoorQY21
namespace Go.Proofs.YtagfopbijboajaaGreatDoor
open Go
set_option linter.unusedSimpArgs false
set_option linter.unusedVariables false
namespace Pm
theorem YI.now {P : Program} {G : Gh} {l lam : Nat} {L : Loop} {fl : List (Nat × V)} {ps : List Nat} {mv : List (Nat × Nat)} {asg body : Code} {n : Nat} (h : YI P G l lam L fl ps mv asg body n)
    {s : St} {a : Act} {w : World} {E : Env} (hE : SimE G s a w E) (i : Nat) : R w (OT G s E) E (lkV fl i) (L.tmps.getD i undef) := by
  obtain ⟨O1, hO1, hfl⟩ := h.fr
  obtain ⟨g1, g2⟩ := hfl i
  refine g2.nms hE.grow (fun b hb hlt hot => ?_) (fun b hb hlt hc => hE.keep b hlt (hO1 b hb).2) (fun id hid r hr => ?_) 4 g1
  · obtain ⟨q1, q2⟩ := hO1 b hb
    rcases hot with hot | ⟨id, ob, K, C, k1, k2⟩
    · exact q1 hot
    · rcases (hE.fresh id ob b _ k1 k2).1 with k3 | k3
      · omega
      · exact q2 k3
  · obtain ⟨r', k1, k2⟩ := hE.base id hid
    rw [hr] at k1; cases k1; exact k2
def TriY (P : Program) (f : FuncId) (as : List V) (h : List (Nat × OB)) (post : Nat → Out) (l lam : Nat) (L : Loop) (fl : List (Nat × V)) (ps : List Nat) (mv : List (Nat × Nat)) (asg body : Code) (n : Nat) : Prop :=
  Enters P f ∧ ∀ (lo : Nat) (w : World) (O : Nat → Prop) (E : Env) (ys : Array Value) (hlo : LoOK w (fun b => O b ∨ triM h E b) lo), ys.size = as.length →
    SimE (triG noOw w O ys.size h E (names h) lo hlo) (St.of (enumV 0 as) h) ⟨ys, []⟩ w E → YI P (triG noOw w O ys.size h E (names h) lo hlo) l lam L fl ps mv asg body n → Calls P f ys w (Left w O h E lo hlo (post (loT h lo)))
theorem tri_body (ow : Nat → Bool) {P : Program} {f : FuncId} {fn : Func} {c : Code} {as : List V} {h0 : List (Nat × OB)} {post : Nat → Out} {rs : List ResultVar} (hf : P.funcs[f]? = some fn) (hb : fn.body = some c)
    (hrs : fn.results = rs.toArray) (hl : rs.length ≤ 3) {lo : Nat} {w : World} {O : Nat → Prop} {E : Env} {ys : Array Value} {hlo : LoOK w (fun b => O b ∨ triM h0 E b) lo}
    (hE : SimE (triG noOw w O ys.size h0 E (names h0) lo hlo) (St.of (enumV 0 as) h0) ⟨ys, []⟩ w E)
    (hE0 : SimE (triG ow w O fn.ntmps h0 E (names h0) lo hlo) (St.of (enumV 0 as) h0) { tmps := ys ++ Array.replicate (fn.ntmps - ys.size) undef, defers := [] } w E)
    (key : vc P (triG ow w O fn.ntmps h0 E (names h0) lo hlo) c (St.of (enumV 0 as) h0) (EndsT P h0 rs (post (loT h0 lo)))) : Calls P f ys w (Left w O h0 E lo hlo (post (loT h0 lo))) := by
  refine calls_of_wpIn (G := triG ow w O fn.ntmps h0 E (names h0) lo hlo) rfl hf hb ?_
  refine wpIn_mono (vc_sound c _ _ key _ w ⟨E, hE0⟩) ?_
  rintro e a w' ⟨s, hq, E1, hE1⟩
  have hOf : ∀ b, (triG ow w O fn.ntmps h0 E (names h0) lo hlo).Of b → b < (triG ow w O fn.ntmps h0 E (names h0) lo hlo).w0.heap.size := fun b hb => hE.old b hb
  have fin : EndsT P h0 rs (post (loT h0 lo)) .ret s → LeavesInM Fence.wide 0 P fn a.tmps (Left w O h0 E lo hlo (post (loT h0 lo))) a.defers .returning w' := fun hq => by
    refine fin_leave (by simp) hE1 hOf fun w'' hE1 => ?_
    cases hp : post (loT h0 lo) with
    | pan x h' => rw [hp] at hq; exact hq.elim
    | ret r h' =>
      rw [hp] at hq
      obtain ⟨hres, ρ, h1, h2, h3, h4, h5⟩ := hq
      obtain ⟨y, hy, hr⟩ := resT_run hE1 hrs hl hres
      refine ⟨y, hy, y, envR ρ E1, rfl, left_of (ys := #[y]) rfl hE1 h2 h3 h4 h5 fun i => ?_⟩
      cases i with
      | zero => exact ren 4 h1 hr
      | succ i => exact .r0 _ _ (.any _)
  cases e with
  | normal => exact fin hq
  | ret => exact fin hq
  | exit => exact hq.elim
  | goto => exact hq.elim
  | panic ch =>
    have hq' : EndsT P h0 rs (post (loT h0 lo)) (.panic ch) s := hq
    cases hp : post (loT h0 lo) with
    | ret r h' => rw [hp] at hq'; exact hq'.elim
    | pan x h' =>
      rw [hp] at hq'
      obtain ⟨rfl, ρ, _, h2, h3, h4, h5⟩ := hq'
      refine fin_leave (by simp) hE1 hOf fun w'' hE1 => ?_
      exact ⟨envR ρ E1, rfl, left_of (ys := #[]) rfl hE1 h2 h3 h4 h5 fun i => .r0 _ _ (.any _)⟩
  | outgrown => exact hq.elim
theorem triY_intro (ow : Nat → Bool) {P : Program} {f : FuncId} {fn : Func} {c : Code} {as : List V} {h0 : List (Nat × OB)} {post : Nat → Out} {rs : List ResultVar} {m : Nat} {l lam : Nat} {L : Loop} {fl : List (Nat × V)} {ps : List Nat} {mv : List (Nat × Nat)} {asg body : Code} {n : Nat}
    (hf : P.funcs[f]? = some fn) (hm : fn.ntmps = m) (hb : fn.body = some c) (hname : (fn.name == "runtime.NumGoroutine") = false)
    (hn : as.length ≤ m) (hrs : fn.results = rs.toArray) (hl : rs.length ≤ 3)
    (h : ∀ (G : Gh), G.n = m → G.ow = ow → G.nm = names h0 → G.rd = none → YI P G l lam L fl ps mv asg body n → vc P G c (St.of (enumV 0 as) h0) (EndsT P h0 rs (post G.lo))) : TriY P f as h0 post l lam L fl ps mv asg body n := by
  subst hm
  refine ⟨⟨fn, hf, hname, by simp [hb]⟩, fun lo w O E ys hlo hsz hE hY => ?_⟩
  have hE0 : SimE (triG ow w O fn.ntmps h0 E (names h0) lo hlo) (St.of (enumV 0 as) h0) { tmps := ys ++ Array.replicate (fn.ntmps - ys.size) undef, defers := [] } w E :=
    ⟨fun i => by rw [args_pad]; exact hE.fr i, DefOK.nil, by simp [triG]; omega, hE.hp, hE.us, hE.inj, hE.fresh, hE.old, hE.grow, hE.os, hE.tape, hE.output, hE.keep, hE.base, trivial⟩
  have hY0 : YI P (triG ow w O fn.ntmps h0 E (names h0) lo hlo) l lam L fl ps mv asg body n := ⟨rfl, hY.hL, hY.hps, hY.hmv, hY.hmvn, hY.lam, hY.fr⟩
  -- the same as for other functions
  have key := h (triG ow w O fn.ntmps h0 E (names h0) lo hlo) rfl rfl rfl rfl hY0
  exact tri_body ow hf hb hrs hl hE hE0 key
theorem names_of_cover {h : List (Nat × OB)} {ρ : Ren} (hc : coverR h ρ) {id : Nat} {x : Option Nat} (hl : lkR ρ id = some x) : id ∈ names h := names_mem.2 (coverR_spec hc hl)
theorem call_triY {P : Program} {G : Gh} {o : Oper} {s : St} {Q : Exit → St → Prop} {rest : St → Prop} {k : FuncId} {cap as as' : List V} {h : List (Nat × OB)} {post : Nat → Out} {l lam : Nat} {L : Loop} {fl : List (Nat × V)} {ps : List Nat} {mv : List (Nat × Nat)} {asg body : Code} {n : Nat}
    (ρ ν : List (Nat × Nat)) (hp : TriY P k as' h post l lam L fl ps mv asg body n) (hY : YI P G l lam L fl ps mv asg body n)
    (hA : okL (okN (toR ρ) 4) as' (as ++ cap)) (hH : entH (toR ρ) s h) (hi : injR (toR ρ)) (hcv : coverR h (toR ρ)) (hid : ∀ id ∈ G.nm, lkR (toR ρ) id = some (some id)) (hq : uniqP ρ) (hc : chk G.n o.dst)
    (hr : AftT o.dst s Q rest h ρ ν (post (loT h G.lo))) : SemCall P G o s Q rest (.fn (.func k) cap) as := by
  rintro x l' ts ho hx rfl a w ⟨E, hE⟩
  obtain ⟨ys, hy, hsz, hrr⟩ := R.fn_inv (ev_E hE hx.symm)
  obtain ⟨hn, hargs⟩ := ops_R (l := l') hE hsz hrr
  obtain ⟨hl1, hl2⟩ := okL_spec hA
  have hlo := tri_lo hE hH
  have hen := tri_enter hE hH hi hcv (as := as') (ys := (l'.map a.eval).toArray ++ ys) (fun j u hj => by
    obtain ⟨x', g1, g2⟩ := hl2 j u hj
    exact ren 4 g2 (hargs j x' g1)) hlo
  have hEid : ∀ id ∈ G.nm, envR (toR ρ) E id = E id := fun id h => by unfold envR; rw [hid id h]
  refine wp_call_any ho hp.1 hy (hp.2 G.lo w _ _ _ hlo (by omega) hen ⟨rfl, hY.hL, hY.hps, hY.hmv, hY.hmvn, ⟨names_of_cover hcv (hid lam hY.lam.1), ?_⟩, ?_⟩) ?_
  · show envR (toR ρ) E lam = _
    rw [hEid lam hY.lam.1]
    obtain ⟨r, h1, h2⟩ := hE.base lam hY.lam.1
    rw [hY.lam.2] at h1; cases h1; exact h2
  · refine ⟨OT G s E, fun b hb => ⟨?_, ?_⟩, fun i => ?_⟩
    · rintro (h | ⟨id, ob, K, C, h1, h2, _⟩)
      · exact hb (.inl h)
      · exact hb (.inr ⟨id, ob, K, C, h1, h2⟩)
    · rintro ⟨id, ob, K, C, h1, h2⟩
      obtain ⟨j, ob', _, g2, g3, _⟩ := entH_live hH h1 h2
      exact hb (.inr ⟨j, ob', K, C, g2, g3⟩)
    · obtain ⟨O1, hO1, hfl⟩ := hY.fr
      refine ⟨nmOK_mono (fun id h => names_of_cover hcv (hid id h)) 4 (hfl i).1, ?_⟩
      refine (hY.now hE i).nms (Nat.le_refl _) (fun _ h _ => h) (fun _ _ _ _ => rfl) (fun id hid' r hr => ?_) 4 (hfl i).1
      show envR (toR ρ) E id = _
      rw [hEid id hid']; exact hr
  intro e w' hleft
  cases hpost : post (loT h G.lo) with
  | ret r h' =>
    rw [hpost] at hleft hr
    obtain ⟨y, E1, rfl, h1⟩ := hleft
    obtain ⟨a1, a2, a3, a4⟩ := hr
    obtain ⟨E', b1, b2⟩ := tri_leave hE hH hcv h1 hq a1 a3
    have hR := h1.fr 0
    refine .inl ⟨y, rfl, _, a4, E', b1.put (chk_spec hc) (b2 ?_)⟩
    simpa [St.of, lkV] using hR
  | pan v h' =>
    rw [hpost] at hleft hr
    obtain ⟨E1, rfl, h1⟩ := hleft
    obtain ⟨a1, a2, a3, a4⟩ := hr
    obtain ⟨E', b1, b2⟩ := tri_leave hE hH hcv h1 hq a1 a3
    exact .inr ⟨_, rfl, _, a4, E', b1⟩
theorem newN_congr {s s' : St} {N : Nat → Bool} (e : ∀ id, N id = true → s'.hp id = s.hp id ∧ s'.us id = s.us id) : ∀ {ν : List (Nat × Nat)}, (tgt ν).all N = true → newN s [] ν → newN s' [] ν
  | [], _, _ => trivial
  | (i, j) :: r, h, ⟨h1, h2, h3, h4⟩ => by
    have h' : N j = true ∧ (tgt r).all N = true := by simpa [tgt, List.all_cons] using h
    exact ⟨h1, (e j h'.1).2.trans h2, h3, newN_congr e h'.2 h4⟩
theorem callNew {P : Program} {G : Gh} {N : Nat → Bool} {M : Bool} {s : St} {k : FuncId} {cap as as' : List V} {r : Nat → V} {h' : Nat → List (Nat × OB)} (ν : List (Nat × Nat)) (hp : Tri P k as' [] (fun lo => .ret (r lo) (h' lo)))
    (hA : okL (okN (toR []) 4) as' (as ++ cap)) (hM : M = true) (hN : (tgt ν).all N = true) (hN2 : ((upT [] ν (h' G.lo)).map (·.1)).all N = true) (hnew : newN s [] ν) (hall : hasAll (toR (keepR (h' G.lo) [] ++ ν)) (h' G.lo)) (hu : uniqN (h' G.lo)) :
    CallE P G N M (.fn (.func k) cap) as s (renT (toR (keepR (h' G.lo) [] ++ ν)) 4 (r G.lo), upT [] ν (h' G.lo)) := by
  refine ⟨fun h => (by rw [hM] at h; cases h), fun p hp => List.all_eq_true.1 hN2 _ (List.mem_map_of_mem hp), ?_⟩
  intro s' e o Q rest hc hr
  refine call_tri [] ν hp hA trivial ?_ ?_ trivial hc ⟨newN_congr e hN hnew, hall, hu, hr⟩
  · simp [injR, toR]
  · simp [coverR, toR]
def rfO : Code → Option Code
  | .seq a b => orElse (rfO a) (rfO b)
  | .cond _ a b => orElse (rfO a) (rfO b)
  | .block _ c => rfO c
  | .loop c => rfO c
  | .scope c => rfO c
  | .rangeFunc _ _ _ b => some b
  | _ => none
def rfOf (c : Option Code) : Code := ((c.bind rfO).getD .skip)
theorem YI.code {P : Program} {G : Gh} {l lam : Nat} {L : Loop} {fl : List (Nat × V)} {ps : List Nat} {mv : List (Nat × Nat)} {asg body body' : Code} {n : Nat} (h : YI P G l lam L fl ps mv asg body n) (e : body = body') : YI P G l lam L fl ps mv asg body' n := e ▸ h
theorem step_frz {P : Program} {G : Gh} {o : Oper} {s : St} {Q : Exit → St → Prop} {rest : St → Prop} (p : Nat → Bool) (h : fin P G o (frz p G.lo s) Q rest (lstep P G.ow G.lo (frz p G.lo s) o.dst o.op)) : SemStep P G o s Q rest :=
  fun a w hs => fin_step h a w (frz_ent p a w hs)
end Pm
open Go
namespace Pm
theorem make_step {P : Program} {G : Gh} {s : St} {o : Oper} {Q : Exit → St → Prop} {rest : St → Prop} {d t el sz bytes : Nat} {lo' ca : Operand} {k k' : IntKind} {n : Int} {z : List Value}
    (ho : o.op = .makeSlice t lo' ca) (hx : ev s lo' = .v (.int k n)) (hy : ev s ca = .v (.int k' n)) (hd : o.dst = some d) (hdn : d < G.n)
    (hu : s.used d = false) (hse : sliceElem P t = some (el, sz)) (hz : zeroK P el = some z) (hzl : z.length = sz) (hby : bytesK P el = some bytes)
    (h0 : 0 < sz) (hn : 0 ≤ n) (hlen : n * bytes ≤ 140737488355328) (hlen' : n ≤ 140737488355328)
    (hr : rest (app s o.dst (.own d 0 n.toNat sz, [(d, some (.arr el sz (List.replicate n.toNat (z.map .v))))]))) : SemStep P G o s Q rest := by
  intro a w hs
  refine wpIn_of_wp (fun c hc => by rw [ho] at hc; cases hc) ?_
  refine stepOK_heap (x := .own d 0 n.toNat sz) (l := [(d, some (.arr el sz (List.replicate n.toNat (z.map .v))))]) (fun d' h => by rw [hd] at h; cases h; exact hdn) (fun a w E hs => ?_) a w hs _ _ fun a' w' hs' => ⟨_, hr, hs'⟩
  obtain ⟨hU, inf, hinf, hsz⟩ := sliceElem_inv hse
  obtain ⟨zv, hzv, hzc⟩ : ∃ zv, inf.zero = some zv ∧ zv.cells.toList = z := by
    unfold zeroK at hz
    simp only [hinf, Option.bind_some, Option.map_eq_some_iff] at hz
    exact hz
  have hzs : zv.cells.size = sz := by rw [← hzl, ← hzc, Array.length_toList]
  have hb : inf.bytes = bytes := by unfold bytesK at hby; rw [hinf] at hby; simpa using hby
  have hxv := R.v_inv (ev_E hs hx)
  have hyv := R.v_inv (ev_E hs hy)
  obtain ⟨m, rfl⟩ : ∃ m : Nat, n = m := ⟨n.toNat, by omega⟩
  simp only [Int.toNat_natCast]
  have hlm : inf.bytes * m ≤ 281474976710656 := by have h := hlen; rw [← Int.natCast_mul] at h; rw [hb, Nat.mul_comm]; omega
  have hrun0 := run_make (P := P) w t el inf zv hU hinf hzv k k' m m (by omega) (Int.le_refl _) (by rw [← Int.natCast_mul]; omega) (by omega)
  simp only [Int.toNat_natCast] at hrun0
  have hrun : (execOp a.eval o).run P w = .ok (.value (.slice (some ⟨w.heap.size, 0, none⟩) m m)) (w.alloc (.cells (madeCells zv.cells (m * inf.size)) el)) := by
    simp [execOp, ho, hxv, hyv, hrun0, Result.andThen]
  have hcs : (madeCells zv.cells (m * inf.size)).size = m * sz := by rw [size_madeCells, hsz]
  obtain ⟨E', h1, h2, h3, h4⟩ := hs.new (id := d) hu (o := .cells (madeCells zv.cells (m * inf.size)) el) (ob := .arr el sz (List.replicate m (z.map .v))) (K := m) (C := m) (fun O' E' hO hE => by
    refine ⟨fun x hx => by rw [List.eq_of_mem_replicate hx]; simpa using hzl, h0, by simp; omega, by simp, _, heap_new _ _, hcs, Nat.le_refl _, by simp only [maxLen]; omega, fun i x j u y h1 h2 h3 => ?_⟩
    have hi : i < m := by have := (List.getElem?_eq_some_iff.1 h1).1; simpa using this
    have hxe : x = z.map .v := by
      rw [List.getElem?_replicate, if_pos hi] at h1
      cases h1; rfl
    subst hxe
    simp only [List.getElem?_map, Option.map_eq_some_iff] at h2
    obtain ⟨v, hv, rfl⟩ := h2
    have hj : j < sz := by rw [← hzl]; exact (List.getElem?_eq_some_iff.1 hv).1
    have hlt : i * sz + j < m * sz := by
      have : (i + 1) * sz ≤ m * sz := Nat.mul_le_mul_right _ (by omega)
      rw [Nat.succ_mul] at this
      omega
    have hmod : (i * sz + j) % sz = j := by rw [Nat.mul_comm, Nat.mul_add_mod, Nat.mod_eq_of_lt hj]
    have hv' : zv.cells[j]? = some v := by rw [← hzc] at hv; simpa using hv
    simp only [madeCells, Array.getElem?_map, Array.getElem?_range, hzs, hsz] at h3
    rw [if_pos hlt] at h3
    simp only [Option.map_some, Option.some.injEq] at h3
    rw [hmod] at h3
    have : zv.cells[j]! = v := by simp [Array.getElem!_eq_getD, hv']
    rw [this] at h3
    subst h3
    exact .v _)
  refine ⟨_, _, E', hrun, h1, ?_⟩
  exact .own d 0 m sz _ _ _ _ h2 ⟨by simp, Nat.le_refl _, 0, by simp, rfl⟩
end Pm
open Go Go.RowKit Go.ChangeShapes Go.WideShapes Go.ChangeAt
namespace Pm
theorem law_laid {C : Checked} {f : FuncId} {fn : Func} {s : ChangeSpec} {ts : List TypeId} {tb : TypeId} {α : Type} {g : α → List V} {p : α → Prop} {apart fresh handsOn again : Bool} {laid : List (String × DataW Unit)}
    (hglob : ∀ W : World, W.ShapedOpen C.prog → laidMetH C.prog laid W → GlobOK W (fun _ => False))
    (hfn : C.prog.funcs[f]? = some fn) (hts : fn.params.toList = ts) (hres : fn.resultTypes = #[tb]) (htb : C.prog.underlying tb = some .bool) (hsv : s.vars = [])
    (own : ownKnob C.prog.godebug = none) (noInit : C.prog.inits.idxOf? f = none) (hl : laidOutB C.prog = true) (hread : ∀ t ∈ ts, C.prog.readableRec t = true ∧ t < C.prog.types.size)
    (hsp : ∀ (H : Type) (ds : List (DataW H)), ds.length = ts.length → (s.fn H ds).results = [.lit (.bool true)] ∧ (s.fn H ds).args = ds ∧ (s.fn H ds).vars = [])
    (hargs : RdA C.prog ts g p) (hlaw : ∀ x, p x → Gives C.prog f (g x) (fun _ => .v (.bool true)))
    (os : Os) (started : os.Started) (H : Type) (enc : TypeId × Value → H)
    (witness : ∃ (w : World) (tape : Tape) (i : Input), w.os = os ∧ (w.forCall tape i).Shaped C.prog ∧ i.vars = [] ∧ Input.okWide C.prog (w.forCall tape i) .any w.heap.size f i ∧
      ((s.pre enc C.prog fn [] apart (w.forCall tape i).memory i.args ∧ laidMetH C.prog laid (w.forCall tape i).memory) ∧ sizedMet enc C.prog fn (OpenSpec.ofChange s) apart (w.forCall tape i).memory i.args) ∧ ({} : Assume).holds C.prog (lone (Frame.enter C.prog f i.args .normal) [] (w.forCall tape i))) :
    ReturnsInHanded {} C os f .any (fun w args => (s.pre enc C.prog fn [] apart w args ∧ laidMetH C.prog laid w) ∧ sizedMet enc C.prog fn (OpenSpec.ofChange s) apart w args) (s.post enc C.prog fn apart fresh handsOn again) := by
  refine returnsInHanded_of_calls own started noInit witness ?_
  intro w tape i _ hshape _ hok hpre hholds
  obtain ⟨_, _, _, fn', hfn', _, _, _, _, hval⟩ := hok
  have e : fn' = fn := Option.some.inj (hfn'.symm.trans hfn)
  subst e
  obtain ⟨⟨⟨ds, gs, before, hw, _⟩, hx⟩, hz⟩ := hpre
  have hW := DataW.Whole.of_heap (w' := w.forCall tape i) (by rfl) hw
  have hsz : (DataW.weightsEach C.prog (fn'.params.toList ++ s.plain.varTypes C.prog) (ds ++ gs)).all (· ≤ reachBytes) = true := hz.weights hw
  have hgl := hglob _ hshape (hx.of_heap (by rfl))
  have main : Calls C.prog f i.args (w.forCall tape i) fun e W' => ∃ v, e = .returned v ∧ s.post enc C.prog fn' apart fresh handsOn again (w.forCall tape i) i.args v W' := by
    generalize (w.forCall tape i) = W at hW hgl hval
    generalize i.args = args at hW hval
    have hW' := hW
    obtain ⟨pp, q, hA, hV, rfl, hfz, _⟩ := hW
    rw [hsv] at hV
    have hV' : gs = [] ∧ q = [] := by
      cases gs with
      | nil => exact ⟨rfl, hV⟩
      | cons => exact hV.elim
    obtain ⟨rfl, rfl⟩ := hV'
    rw [hts] at hA
    have hlen : ds.length = ts.length := by
      clear hfz hW' hV
      have : ∀ {ts : List TypeId} {vs : List Value} {ds : List (DataW H)} {ps : List MemPlace}, DataW.TrodAll enc C.prog W 0 (fun _ => true) true ts vs ds ps → ds.length = ts.length := by
        intro ts
        induction ts with
        | nil => intro vs ds ps h; obtain ⟨_, rfl, _⟩ := trodAll_nil h; rfl
        | cons t ts ih => intro vs ds ps h; obtain ⟨_, _, _, _, _, _, _, rfl, _, _, g2⟩ := trodAll_cons h; simp [ih g2]
      exact this hA
    have hvt : s.plain.varTypes C.prog = [] := by simp [ChangeSpec.plain, DataSpec.varTypes, hsv]
    rw [hvt, hts, List.append_nil, List.append_nil] at hsz
    obtain ⟨x, hp, hx⟩ := hargs H enc W w.heap.size args.toList ds pp (fun j t v h1 h2 => hval j t v (by rw [← hts] at h1; simpa using h1) (by simpa using h2)) hA (fun n hn => by have := List.all_eq_true.1 hsz n hn; have h2 := reachBytes_lt; simp at this; omega) (fun b off h => hfz b off (by simp [h]))
    obtain ⟨_, hcall⟩ := hlaw x hp
    refine (hcall 0 W (fun _ => False) args (Nat.zero_le _) ⟨fun _ h => h.elim, hgl⟩ ⟨by simpa using hx.1, fun j u y h1 h2 => hx.2 j u y h1 (by simpa using h2)⟩).mono fun e W' ⟨y, he, hr, hb⟩ => ?_
    have hy : y = .bool true := by cases hr; rfl
    subst hy
    obtain ⟨e1, e2, e3⟩ := hsp H ds hlen
    have hlt : ∀ p ∈ pp, p.block < W.heap.size := fun p hp => hW'.lt p (by simp [hp])
    refine ⟨_, he, post_below (pa := pp) (pv := []) hW' (fun b sp hd => ?_) (fun sp hsp' => ?_) (fun _ _ => ?_) rfl hb ?_⟩
    · rw [List.append_nil, e1, hres]
      exact trodAll_mk1 (shut_bool htb true)
    · rw [List.append_nil, e2, hts]
      exact trodAll_stays hl hread hA (fun p hp => hb.same (hlt p hp)) (fun p hp => hsp' p (by simp [hp]))
    · rw [List.append_nil, e3, hsv]
      exact rfl
    · intro j t r h1 h2
      rw [hres] at h1 h2
      cases j with
      | zero =>
        simp at h1
        subst h1
        simp [Value.resultList] at h2
        subst h2
        exact okWide_bool_mk htb true
      | succ j => simp at h1
  refine main.mono fun e W' ⟨v, he, hp⟩ => ?_
  subst he
  exact ChangeSpec.post_blind hp
theorem glob_fp {P : Program} {W : World} {g : Nat} {n : String} {cs : Array Value} {z : Array Value} {t0 : TypeId} {l : List V} (hs : W.ShapedOpen P) (hg : g < P.globals.size) (h0 : (((begin P (fun _ _ => 0) default).world.heap[g]?).bind Obj.row?) = some (z, t0))
    (hn : P.globalNamed n = some g) (hv : W.var? P n = some cs) (hl : l.length ≤ cs.size) (hr : ∀ (j : Nat) (u : V) (y : Value), l[j]? = some u → cs[j]? = some y → R0 W (fun _ => False) u y) :
    R0 W (fun _ => False) (.fp l) (.pointer (some ⟨g, 0, none⟩)) := by
  obtain ⟨xs, hx, _⟩ := hs.1 g z t0 hg h0
  have hc : ∀ j, j < cs.size → W.cell? ⟨g, 0 + j, none⟩ = some (cs.getD j undef) := fun j hj => by
    have := World.var?_cell hn hv j
    rw [Nat.zero_add, this]
    simp [hj]
  refine .fp l g 0 (fun j => cs.getD j undef) (fun h => h) (by have := (List.getElem?_eq_some_iff.1 (show W.heap.toList[g]? = some (.cells xs t0) by simpa using hx)).1; simpa using this) (fun j u h => cellA_of_row hx (hc j ?_)) (fun j u h => ?_)
  · have := (List.getElem?_eq_some_iff.1 h).1; omega
  · have hj : j < cs.size := by have := (List.getElem?_eq_some_iff.1 h).1; omega
    exact hr j u _ h (by simp [hj])
end Pm
open Go Go.RowKit
namespace Pm
theorem semL_blk {P : Program} {G : Gh} {i : Nat} {c : Code} {r : List Code} {s : St} {Q : Exit → St → Prop} (h : SemL P G (flat c) s (kblk i (kseq (fun s _ => SemL P G r s Q) Q))) : SemL P G (.block i c :: r) s Q := by
  intro a w hs
  have := (SemL.semC h) a w hs
  refine wpIn_block (wpIn_mono this ?_)
  rintro e a' w' ⟨s', hq, hs'⟩
  cases e with
  | normal => exact hq a' w' hs'
  | exit j =>
    by_cases e : j = i
    · subst e
      simp only [kblk, if_true, kseq] at hq
      simp only [Exit.inBlock, if_true, Exit.then]
      exact hq a' w' hs'
    · simp only [kblk, if_neg e, kseq] at hq
      simp only [Exit.inBlock, if_neg e, Exit.then]
      exact ⟨s', hq, hs'⟩
  | _ => exact ⟨s', hq, hs'⟩
theorem semL_mid {P : Program} {G : Gh} {c : Code} {r : List Code} {s : St} {Q : Exit → St → Prop} {α : Type} (F : α → St) (I : α → Prop) (h1 : SemC P G c s (midQ G F I Q)) (h2 : ∀ x, I x → SemL P G r (F x) Q) : SemL P G (c :: r) s Q := by
  intro a w hs
  refine wpIn_mono (h1 a w hs) ?_
  rintro e a' w' ⟨s', hq, hs'⟩
  cases e with
  | normal =>
    obtain ⟨x, hI, he⟩ := hq
    exact h2 x hI a' w' (he _ _ hs')
  | _ => exact ⟨s', hq, hs'⟩
theorem semL_code {P : Program} {G : Gh} {l l' : List Code} {s : St} {Q : Exit → St → Prop} (e : l = l') (h : SemL P G l' s Q) : SemL P G l s Q := e ▸ h
end Pm
open Go Go.RowKit
namespace Pm
inductive NewV (n : Nat) : V → Prop
  | any : NewV n .any
  | v (x : Value) : NewV n (.v x)
  | lst (lo sz : Nat) (l : List (List V)) (h : l = [] ∨ n ≤ lo) (hr : ∀ r ∈ l, ∀ u ∈ r, NewV n u) : NewV n (.lst lo sz l)
  | agg (cs : List V) (hr : ∀ u ∈ cs, NewV n u) : NewV n (.agg cs)
  | tup (cs : List V) (hr : ∀ u ∈ cs, NewV n u) : NewV n (.tup cs)
  | fn (f : Fn) (cs : List V) (hr : ∀ u ∈ cs, NewV n u) : NewV n (.fn f cs)
theorem NewV.R0 {n : Nat} {x : V} {y : Value} {w : World} {O O' : Nat → Prop} (hx : NewV n x) (hO : ∀ b, n ≤ b → O b → O' b) (h : R0 w O' x y) : R0 w O x y := by
  induction h with
  | any y => exact .any y
  | v x => exact .v x
  | lst lo sz l a k cap b o g hlo hn hc hl ha hs hz hr ih =>
    cases hx with
    | lst _ _ _ h1 h2 =>
      refine .lst lo sz l a k cap b o g hlo hn hc hl (fun hne => ?_) hs hz fun i x j u e1 e2 => ih i x j u e1 e2 (h2 x (List.mem_of_getElem? e1) u (List.mem_of_getElem? e2))
      obtain ⟨q1, q2, q3⟩ := ha hne
      refine ⟨q1, fun hb => q2 (hO b ?_ hb), q3⟩
      have := hlo hne
      rcases h1 with h1 | h1
      · exact absurd h1 hne
      · omega
  | fp cs b o g h1 hb hs hr ih => cases hx
  | agg cs ys hn hr ih =>
    cases hx with
    | agg _ h2 => exact .agg cs ys hn fun j u y e1 e2 => ih j u y e1 e2 (h2 u (List.mem_of_getElem? e1))
  | tup cs ys hn hr ih =>
    cases hx with
    | tup _ h2 => exact .tup cs ys hn fun j u y e1 e2 => ih j u y e1 e2 (h2 u (List.mem_of_getElem? e1))
  | fn f cap ys hn hr ih =>
    cases hx with
    | fn _ _ h2 => exact .fn f cap ys hn fun j u y e1 e2 => ih j u y e1 e2 (h2 u (List.mem_of_getElem? e1))
structure NewR (r : Nat → V) : Prop where
  new : ∀ n, NewV n (r n)
  mono : ∀ n n', n' ≤ n → Sub (r n) (r n')
end Pm
open Go Go.RowKit
namespace Pm
theorem all0_mem {l : List V} (h : all0 l = true) : ∀ x ∈ l, pure0 x = true := by
  induction l with
  | nil => intro x hx; cases hx
  | cons y r ih =>
    simp only [all0, Bool.and_eq_true] at h
    intro x hx
    rcases List.mem_cons.1 hx with rfl | hx
    · exact h.1
    · exact ih h.2 x hx
theorem okN_self {ρ : Ren} {n : Nat} {x : V} (h : pure0 x = true) : okN ρ (n + 1) x x := by
  unfold okN
  cases x <;> first | trivial | rfl | exact .inl rfl | cases h
theorem okL_of {f : V → V → Prop} : ∀ {us xs : List V}, us.length = xs.length → (∀ (j : Nat) (u x : V), us[j]? = some u → xs[j]? = some x → f u x) → okL f us xs
  | [], [], _, _ => trivial
  | u :: us, x :: xs, hl, h => ⟨h 0 u x rfl rfl, okL_of (by simpa using hl) fun j u x h1 h2 => h (j + 1) u x h1 h2⟩
theorem okL_self {ρ : Ren} {us : List V} (h : all0 us = true) : okL (okN ρ 4) us us = True :=
  eq_true (okL_of rfl fun j u x h1 h2 => by
    rw [h1] at h2; cases h2
    exact okN_self (all0_mem h u (List.mem_of_getElem? h1)))
theorem okL_set {ρ : Ren} {us : List V} {i : Nat} {x y : V} (h : all0 us = true) (hx : okN ρ 4 x y) : okL (okN ρ 4) (us.set i x) (us.set i y) = True :=
  eq_true (okL_of (by simp) fun j u v h1 h2 => by
    rw [List.getElem?_set] at h1 h2
    split at h1
    · rename_i e
      rw [if_pos e] at h2
      split at h1
      · rename_i e2
        rw [if_pos e2] at h2
        cases h1; cases h2
        exact hx
      · cases h1
    · rename_i e
      rw [if_neg e, h1] at h2
      cases h2
      exact okN_self (all0_mem h u (List.mem_of_getElem? h1)))
theorem okN_own {ρ : Ren} {id off len sz : Nat} (h : lkR ρ id = some (some id)) : okN ρ 4 (.own id off len sz) (.own id off len sz) := by
  unfold okN; simp only [h]
theorem okL_own {ρ : Ren} {us : List V} {i id off len sz : Nat} (h : all0 us = true) (hx : lkR ρ id = some (some id)) : okL (okN ρ 4) (us.set i (.own id off len sz)) (us.set i (.own id off len sz)) = True := okL_set h (okN_own hx)
theorem vwF_pure0 {p : Nat → Bool} {lo : Nat} {s : St} {n : Nat} {x : V} (h : pure0 x = true) : vwF p lo s (n + 1) x = x := by
  unfold vwF
  cases x <;> first | rfl | cases h
theorem vwS_pure0 {p : Nat → Bool} {lo : Nat} {s : St} {n : Nat} {x : V} (h : pure0 x = true) : vwS p lo s (n + 1) x = x := by
  unfold vwS
  cases x <;> first | rfl | cases h
theorem vwF_all {p : Nat → Bool} {lo : Nat} {s : St} {us : List V} (h : all0 us = true) : us.map (vwF p lo s 4) = us := by
  have e : us.map (vwF p lo s 4) = us.map id := List.map_congr_left fun x hx => vwF_pure0 (n := 3) (all0_mem h x hx)
  rw [e, List.map_id]
theorem vwS_all {p : Nat → Bool} {lo : Nat} {s : St} {us : List V} (h : all0 us = true) : us.map (vwS p lo s 3) = us := by
  have e : us.map (vwS p lo s 3) = us.map id := List.map_congr_left fun x hx => vwS_pure0 (n := 2) (all0_mem h x hx)
  rw [e, List.map_id]
theorem vwF_set {p : Nat → Bool} {lo : Nat} {s : St} {us : List V} {i : Nat} {x : V} (h : all0 us = true) : (us.set i x).map (vwF p lo s 4) = us.set i (vwF p lo s 4 x) := by
  rw [List.map_set, vwF_all h]
end Pm
end Go.Proofs.YtagfopbijboajaaGreatDoor
