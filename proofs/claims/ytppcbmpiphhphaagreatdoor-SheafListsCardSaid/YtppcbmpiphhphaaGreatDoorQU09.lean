import Derived.Test.YtppcbmpiphhphaaGreatDoorQU07
namespace Go.Proofs.YtppcbmpiphhphaaGreatDoor
open Go Go.RowKit
set_option linter.unusedSimpArgs false
set_option linter.unusedVariables false
namespace Pm

inductive Out : Type
  | ret (r : V) (h : List (Nat × OB))
  | pan (x : Value) (h : List (Nat × OB))
def names : List (Nat × OB) → List Nat
  | [] => []
  | (i, _) :: r => i :: names r
theorem names_mem {h : List (Nat × OB)} {id : Nat} : id ∈ names h ↔ usH h id = true := by
  induction h with
  | nil => simp [names, usH]
  | cons p r ih => obtain ⟨i, o⟩ := p; simp only [names, usH, List.mem_cons, ih, Bool.or_eq_true, beq_iff_eq]; exact ⟨fun h => orMap Eq.symm (fun h => h) h, fun h => orMap Eq.symm (fun h => h) h⟩
theorem usH_lk {h : List (Nat × OB)} {id : Nat} : usH h id = true ↔ ∃ ob, lkH h id = some ob := by
  induction h with
  | nil => simp [lkH, usH]
  | cons p r ih =>
    obtain ⟨i, o⟩ := p
    by_cases e : i = id
    · subst e; simp [usH, lkH]
    · simp [usH, lkH, e, ih]
theorem lk_mem {h : List (Nat × OB)} {i : Nat} {ob : OB} (hob : lkH h i = some ob) : (i, ob) ∈ h := by
  induction h with
  | nil => cases hob
  | cons p r ih =>
    obtain ⟨a, o⟩ := p
    simp only [lkH] at hob
    split at hob
    · rename_i e; cases hob; subst e; exact List.mem_cons_self ..
    · exact List.mem_cons_of_mem _ (ih hob)
def keptN (h h' : List (Nat × OB)) : List Nat := (names h).filter (usH h')
def loT (h : List (Nat × OB)) (lo : Nat) : Nat := match h with
  | [] => lo
  | _ :: _ => 0
theorem loT_le {h : List (Nat × OB)} {lo n : Nat} (hl : lo ≤ n) : loT h lo ≤ n := by cases h <;> simp [loT, hl]
def triM (h : List (Nat × OB)) (E : Env) (b : Nat) : Prop := ∃ id ob K C, lkH h id = some ob ∧ E id = some (some b, K, C)
theorem triM_lo {h : List (Nat × OB)} {lo : Nat} {E : Env} (b : Nat) (hb : triM h E b) : loT h lo ≤ b := by
  cases h with
  | nil => obtain ⟨id, ob, K, C, h1, _⟩ := hb; cases h1
  | cons => simp [loT]
def triG (ow : Nat → Bool) (w : World) (O : Nat → Prop) (n : Nat) (h : List (Nat × OB)) (E : Env) (nm : List Nat) (lo : Nat) (hlo : LoOK w (fun b => O b ∨ triM h E b) lo) : Gh :=
  { w0 := w, Of := O, n := n, M := triM h E, ow := ow, lo := loT h lo, hlo := loT_le hlo.le, hM := triM_lo, nm := nm, E0 := E, hgl := hlo.gl }
def noOw : Nat → Bool := fun _ => false
def Left (w : World) (O : Nat → Prop) (h : List (Nat × OB)) (E : Env) (lo : Nat) (hlo : LoOK w (fun b => O b ∨ triM h E b) lo) : Out → Ending → World → Prop
  | .ret r h', e, w' => ∃ y E', e = .returned y ∧ SimE (triG noOw w O 1 h E (keptN h h') lo hlo) (St.of [(0, r)] h') ⟨#[y], []⟩ w' E'
  | .pan x h', e, w' => ∃ E', e = .panicked [{ v := x, recovered := false }] ∧ SimE (triG noOw w O 0 h E (keptN h h') lo hlo) (St.of [] h') ⟨#[], []⟩ w' E'
def Tri (P : Program) (f : FuncId) (as : List V) (h : List (Nat × OB)) (post : Nat → Out) : Prop :=
  Enters P f ∧ ∀ (lo : Nat) (w : World) (O : Nat → Prop) (E : Env) (ys : Array Value) (hlo : LoOK w (fun b => O b ∨ triM h E b) lo), ys.size = as.length →
    SimE (triG noOw w O ys.size h E (names h) lo hlo) (St.of (enumV 0 as) h) ⟨ys, []⟩ w E → Calls P f ys w (Left w O h E lo hlo (post (loT h lo)))

def resW (P : Program) (s : St) : ResultVar → V
  | .tmp t => s.get t
  | .cell a t => match s.get a, loadK P t with
    | .ptr id off, some (ag, n) => match s.hget id with
      | some (.box cs) => match ag with
        | true => .agg ((cs.drop off).take n)
        | false => (cs[off]?).getD .any
      | _ => .any
    | _, _ => .any
def resT (P : Program) (s : St) : List ResultVar → V
  | [x] => resW P s x
  | rs => .tup (rs.map (resW P s))
def EndT (h0 : List (Nat × OB)) (s : St) (v : V) (r : V) (h' : List (Nat × OB)) (ρ : Ren) : Prop :=
  okN ρ 4 r v ∧ entH ρ s h' ∧ injR ρ ∧ coverR h' ρ ∧ ∀ id, id ∈ keptN h0 h' → lkR ρ id = some (some id)
def EndsT (P : Program) (h0 : List (Nat × OB)) (rs : List ResultVar) (out : Out) : Exit → St → Prop
  | .normal, s | .ret, s => match out with
    | .ret r h' => (∀ x, x ∈ rs → resOK P s x) ∧ ∃ ρ, EndT h0 s (resT P s rs) r h' ρ
    | .pan _ _ => False
  | .panic ch, s => match out with
    | .ret _ _ => False
    | .pan x h' => ch = [{ v := x, recovered := false }] ∧ ∃ ρ, EndT h0 s .any .any h' ρ
  | _, _ => False

theorem resW_run {P : Program} {G : Gh} {s : St} {a : Act} {w : World} {E : Env} (hE : SimE G s a w E) (x : ResultVar) (hx : resOK P s x) :
    ∃ y, (resSem a.tmps x).run P w = .ok y w ∧ R w (OT G s E) E (resW P s x) y := by
  cases x with
  | tmp t => exact ⟨_, rfl, hE.fr t⟩
  | cell ad t =>
    simp only [resOK, resW] at *
    split at hx
    · rename_i id off ag n hp hl
      split at hx
      · rename_i cs hcs
        simp only [hp, hl, hcs]
        obtain ⟨d, i, hu, hi, hag, hsz⟩ := loadK_inv hl
        have hR := hE.fr ad
        have hp' : s.fr ad = .ptr id off := hp
        rw [hp'] at hR
        obtain ⟨b, K, C, hid, hy⟩ := R.ptr_inv hR
        obtain ⟨b', K', C', hid', b'', ys, t', hb, hh, hys, _, _, hr⟩ := hE.hp id _ hcs
        rw [hid] at hid'
        cases hid'
        cases hb
        have cell : ∀ j, off + j < ys.size → w.cell? ⟨b, off + j, none⟩ = some (ys.getD (off + j) undef) := fun j hj => by
          rw [cell_of_row w b _ ys t' (0, 0) hh]; simp [hj]
        cases ag with
        | true =>
          have hx' : off + n ≤ cs.length := hx
          have hrun := load_cells (P := P) (w := w) (b := b) (o := off) (n := n) (f := fun j => ys.getD (off + j) undef) (fun j hj => cell j (by omega))
          refine ⟨.agg ((List.range n).map fun j => ys.getD (off + j) undef).toArray, ?_, ?_⟩
          · simp [resSem, hy, asAddr, loadVar, run_isAgg P w hu, hag, run_size P w hi, hsz, hrun]
          · refine .agg _ _ (by simp; omega) fun j u y h1 h2 => ?_
            obtain ⟨h3, hj⟩ := take_getElem? _ _ _ _ h1
            rw [List.getElem?_drop] at h3
            simp [hj] at h2
            subst h2
            have hlt : off + j < ys.size := by rw [hys]; exact (List.getElem?_eq_some_iff.1 h3).1
            exact hr _ _ _ h3 (by simp [hlt])
        | false =>
          have hx' : off < cs.length := hx
          have hlt : off < ys.size := by omega
          have h0 := cell 0 (by omega)
          simp only [Nat.add_zero] at h0
          refine ⟨ys.getD off undef, ?_, ?_⟩
          · simp [resSem, hy, asAddr, loadVar, run_isAgg P w hu, hag, h0]
          · have h1 : cs[off]? = some (cs[off]'(by omega)) := List.getElem?_eq_getElem _
            simp only [h1, Option.getD_some]
            exact hr _ _ _ h1 (by simp [hlt])
      · exact hx.elim
    · exact hx.elim
theorem resT_run {P : Program} {G : Gh} {s : St} {a : Act} {w : World} {E : Env} (hE : SimE G s a w E) {fn : Func} {rs : List ResultVar} (hrs : fn.results = rs.toArray) (hl : rs.length ≤ 3) (h : ∀ x, x ∈ rs → resOK P s x) :
    ∃ y, (results fn a.tmps).run P w = .ok y w ∧ R w (OT G s E) E (resT P s rs) y := by
  match rs, hl with
  | [], _ => exact ⟨.tuple #[], by simp [results_eq, hrs], .tup _ _ rfl (by simp)⟩
  | [x], _ =>
    obtain ⟨y, hy, hr⟩ := resW_run hE x (h x (by simp))
    exact ⟨y, by simp [results_eq, hrs, hy], hr⟩
  | [x, x'], _ =>
    obtain ⟨y, hy, hr⟩ := resW_run hE x (h x (by simp))
    obtain ⟨y', hy', hr'⟩ := resW_run hE x' (h x' (by simp))
    refine ⟨.tuple #[y, y'], ?_, .tup _ _ (by simp) fun j u z h1 h2 => ?_⟩
    · simp [results_eq, hrs, hy, hy']
    · match j with
      | 0 => simp at h1 h2; subst h1; subst h2; exact hr
      | 1 => simp at h1 h2; subst h1; subst h2; exact hr'
      | j + 2 => simp at h2
  | [x, x', x''], _ =>
    obtain ⟨y, hy, hr⟩ := resW_run hE x (h x (by simp))
    obtain ⟨y', hy', hr'⟩ := resW_run hE x' (h x' (by simp))
    obtain ⟨y'', hy'', hr''⟩ := resW_run hE x'' (h x'' (by simp))
    refine ⟨.tuple #[y, y', y''], ?_, .tup _ _ (by simp) fun j u z h1 h2 => ?_⟩
    · simp [results_eq, hrs, hy, hy', hy'']
    · match j with
      | 0 => simp at h1 h2; subst h1; subst h2; exact hr
      | 1 => simp at h1 h2; subst h1; subst h2; exact hr'
      | 2 => simp at h1 h2; subst h1; subst h2; exact hr''
      | j + 3 => simp at h2
  | _ :: _ :: _ :: _ :: _, h => simp at h

theorem left_of {G : Gh} {w : World} {O : Nat → Prop} {h0 h' : List (Nat × OB)} {E0 : Env} {lo : Nat} {hlo : LoOK w (fun b => O b ∨ triM h0 E0 b) lo} {ow : Nat → Bool} {m : Nat} (hG : G = triG ow w O m h0 E0 (names h0) lo hlo)
    {s : St} {a : Act} {w' : World} {E : Env} (hE : SimE G s a w' E) {ρ : Ren} (hH : entH ρ s h') (hi : injR ρ) (hc : coverR h' ρ) (hk : ∀ id, id ∈ keptN h0 h' → lkR ρ id = some (some id))
    {fl : List (Nat × V)} {ys : Array Value} (hf : ∀ i, R w' (OT G s E) (envR ρ E) (lkV fl i) (ys.getD i undef)) :
    SimE (triG noOw w O ys.size h0 E0 (keptN h0 h') lo hlo) (St.of fl h') ⟨ys, []⟩ w' (envR ρ E) := by
  subst hG
  have hO : ∀ b, ¬ OT (triG ow w O m h0 E0 (names h0) lo hlo) s E b → ¬ OT (triG noOw w O ys.size h0 E0 (keptN h0 h') lo hlo) (St.of fl h') (envR ρ E) b := by
    rintro b hb (h | ⟨id, ob, K, C, hid, hid'⟩)
    · exact hb (.inl h)
    · obtain ⟨j, ob', _, h2, h3, _⟩ := entH_live hH hid hid'
      exact hb (.inr ⟨j, ob', K, C, h2, h3⟩)
  refine ⟨fun i => (hf i).weak hO fun _ _ h => h, DefOK.nil, rfl, fun id ob hob => entH_hb hE hH hob hO, fun id hid => ?_, fun id id' ob ob' b K K' h1 h2 h3 h4 => entH_inj hE hH hi h1 h2 h3 h4, fun id ob b K h1 h2 => ?_, hE.old, hE.grow, hE.os, hE.tape, hE.output, hE.keep, fun id hid => ?_, trivial⟩
  · unfold envR at hid
    split at hid
    · rename_i j hj; exact coverR_spec hc hj
    · rename_i hj; exact coverR_spec hc hj
    · exact (hid rfl).elim
  · obtain ⟨j, ob', _, g2, g3, _⟩ := entH_live hH h1 h2
    exact hE.fresh j ob' b K g2 g3
  · obtain ⟨r, h1, h2⟩ := hE.base id (List.mem_filter.1 hid).1
    exact ⟨r, h1, by simp only [envR, hk id hid]; exact h2⟩

theorem tri_introR (ow : Nat → Bool) {P : Program} {f : FuncId} {fn : Func} {c : Code} {as : List V} {h0 : List (Nat × OB)} {post : Nat → Out} {rs : List ResultVar} {m : Nat} (hf : P.funcs[f]? = some fn) (hm : fn.ntmps = m) (hb : fn.body = some c) (hname : (fn.name == "runtime.NumGoroutine") = false)
    (hn : as.length ≤ m) (hrs : fn.results = rs.toArray) (hl : rs.length ≤ 3)
    (h : ∀ (G : Gh), G.n = m → G.ow = ow → G.nm = names h0 → G.rd = none → vc P G c (St.of (enumV 0 as) h0) (EndsT P h0 rs (post G.lo))) : Tri P f as h0 post := by
  subst hm
  refine ⟨⟨fn, hf, hname, by simp [hb]⟩, fun lo w O E ys hlo hsz hE => ?_⟩
  have hE0 : SimE (triG ow w O fn.ntmps h0 E (names h0) lo hlo) (St.of (enumV 0 as) h0) { tmps := ys ++ Array.replicate (fn.ntmps - ys.size) undef, defers := [] } w E :=
    ⟨fun i => by rw [args_pad]; exact hE.fr i, DefOK.nil, by simp [triG]; omega, hE.hp, hE.us, hE.inj, hE.fresh, hE.old, hE.grow, hE.os, hE.tape, hE.output, hE.keep, hE.base, trivial⟩
  refine calls_of_wpIn (G := triG ow w O fn.ntmps h0 E (names h0) lo hlo) rfl hf hb ?_
  refine wpIn_mono (vc_sound c _ _ (h (triG ow w O fn.ntmps h0 E (names h0) lo hlo) rfl rfl rfl rfl) _ w ⟨E, hE0⟩) ?_
  rintro e a w' ⟨s, hq, E1, hE1⟩
  have hOf : ∀ b, (triG ow w O fn.ntmps h0 E (names h0) lo hlo).Of b → b < (triG ow w O fn.ntmps h0 E (names h0) lo hlo).w0.heap.size := fun b hb => hE.old b hb
  have fin : EndsT P h0 rs (post (loT h0 lo)) .ret s → LeavesInM Fence.wide 0 P fn a.tmps (Left w O h0 E lo hlo (post (loT h0 lo))) a.defers .returning w' := fun hq => by
    refine fin_leave (by simp) hE1 hOf fun w'' hE1 => ?_
    cases hp : post (loT h0 lo) with
    | pan x h' => rw [hp] at hq; exact hq.elim
    | ret r h' =>
      rw [hp] at hq
      obtain ⟨hres, ρ, h1, h2, h3, h4, h5⟩ := hq
      obtain ⟨y, hy, hr⟩ := resT_run hE1 hrs hl hres
      refine ⟨y, hy, y, envR ρ E1, rfl, left_of (ys := #[y]) rfl hE1 h2 h3 h4 h5 fun i => ?_⟩
      cases i with
      | zero => exact ren 4 h1 hr
      | succ i => exact .r0 _ _ (.any _)
  cases e with
  | normal => exact fin hq
  | ret => exact fin hq
  | exit => exact hq.elim
  | goto => exact hq.elim
  | panic ch =>
    have hq' : EndsT P h0 rs (post (loT h0 lo)) (.panic ch) s := hq
    cases hp : post (loT h0 lo) with
    | ret r h' => rw [hp] at hq'; exact hq'.elim
    | pan x h' =>
      rw [hp] at hq'
      obtain ⟨rfl, ρ, _, h2, h3, h4, h5⟩ := hq'
      refine fin_leave (by simp) hE1 hOf fun w'' hE1 => ?_
      exact ⟨envR ρ E1, rfl, left_of (ys := #[]) rfl hE1 h2 h3 h4 h5 fun i => .r0 _ _ (.any _)⟩
  | outgrown => exact hq.elim
theorem tri_intro (ow : Nat → Bool) {P : Program} {f : FuncId} {fn : Func} {c : Code} {as : List V} {h0 : List (Nat × OB)} {post : Nat → Out} {rs : List ResultVar} {m : Nat} (hf : P.funcs[f]? = some fn) (hm : fn.ntmps = m) (hb : fn.body = some c) (hname : (fn.name == "runtime.NumGoroutine") = false)
    (hn : as.length ≤ m) (hrs : fn.results = rs.toArray) (hl : rs.length ≤ 3)
    (h : ∀ (G : Gh), G.n = m → G.ow = ow → G.nm = names h0 → vc P G c (St.of (enumV 0 as) h0) (EndsT P h0 rs (post G.lo))) : Tri P f as h0 post := by
  exact tri_introR ow hf hm hb hname hn hrs hl fun G h1 h2 h3 _ => h G h1 h2 h3

def renT (ρ : Ren) : Nat → V → V
  | 0, _ => .any
  | n + 1, x => match x with
    | .ptr id off => match lkR ρ id with
      | some (some j) => .ptr j off
      | _ => .any
    | .eptr id i k sz => match lkR ρ id with
      | some (some j) => .eptr j i k sz
      | _ => .any
    | .own id off len sz => match lkR ρ id with
      | some (some j) => .own j off len sz
      | _ => .any
    | .mp id => match lkR ρ id with
      | some (some j) => .mp j
      | _ => .any
    | .agg cs => .agg (cs.map (renT ρ n))
    | .tup cs => .tup (cs.map (renT ρ n))
    | .fn f cap => .fn f (cap.map (renT ρ n))
    | .v x => .v x
    | .lst lo sz l => .lst lo sz l
    | .fp cs => .fp cs
    | .any => .any
def renO (ρ : Ren) : OB → OB
  | .box cs => .box (cs.map (renT ρ 4))
  | .arr t sz l => .arr t sz l
  | .arx t sz l => .arx t sz (l.map (List.map (renT ρ 4)))
  | .map kk m => .map kk (m.map fun q => (q.1, renT ρ 4 q.2))
  | .obj o => .obj o
  | .mpe kk m j bo => .mpe kk (m.map fun q => (q.1, renT ρ 4 q.2)) j bo
theorem renT_R {w : World} {O : Nat → Prop} {E E' : Env} {ρ : Ren} (hE : ∀ id j r, lkR ρ id = some (some j) → E id = some r → E' j = some r) : ∀ (n : Nat) {x : V} {y : Value}, R w O E x y → R w O E' (renT ρ n x) y := by
  intro n
  induction n with
  | zero => intro x y _; exact .r0 _ _ (.any _)
  | succ n ih =>
    intro x y h
    unfold renT
    cases x with
    | ptr id off =>
      simp only
      split
      · rename_i j hj
        obtain ⟨b, K, C, h1, rfl⟩ := R.ptr_inv h
        exact .ptr j off b K C (hE _ _ _ hj h1)
      · exact .r0 _ _ (.any _)
    | eptr id i k sz =>
      simp only
      split
      · rename_i j hj
        obtain ⟨b, K, C, h1, hi, rfl⟩ := R.eptr_inv h
        exact .eptr j i k sz b K C (hE _ _ _ hj h1) hi
      · exact .r0 _ _ (.any _)
    | own id off len sz =>
      simp only
      split
      · rename_i j hj
        obtain ⟨b, K, C, h1, hv⟩ := R.own_inv h
        exact .own j off len sz b K C _ (hE _ _ _ hj h1) hv
      · exact .r0 _ _ (.any _)
    | mp id =>
      simp only
      split
      · rename_i j hj
        obtain ⟨b, K, C, h1, rfl⟩ := R.mp_inv h
        exact .mp j b K C (hE _ _ _ hj h1)
      · exact .r0 _ _ (.any _)
    | agg cs =>
      obtain ⟨ys, rfl, hsz, hr⟩ := R.agg_inv h
      refine .agg _ _ (by simpa using hsz) fun j u y h1 h2 => ?_
      simp only [List.getElem?_map, Option.map_eq_some_iff] at h1
      obtain ⟨u', h1, rfl⟩ := h1
      exact ih (hr j u' y h1 h2)
    | tup cs =>
      obtain ⟨ys, rfl, hsz, hr⟩ := R.tup_inv h
      refine .tup _ _ (by simpa using hsz) fun j u y h1 h2 => ?_
      simp only [List.getElem?_map, Option.map_eq_some_iff] at h1
      obtain ⟨u', h1, rfl⟩ := h1
      exact ih (hr j u' y h1 h2)
    | fn f cs =>
      obtain ⟨ys, rfl, hsz, hr⟩ := R.fn_inv h
      refine .fn _ _ _ (by simpa using hsz) fun j u y h1 h2 => ?_
      simp only [List.getElem?_map, Option.map_eq_some_iff] at h1
      obtain ⟨u', h1, rfl⟩ := h1
      exact ih (hr j u' y h1 h2)
    | v x => rw [R.v_inv h]; exact .r0 _ _ (.v x)
    | any => exact .r0 _ _ (.any _)
    | lst lo sz l =>
      cases h with
      | r0 _ _ h => exact .r0 _ _ h
    | fp cs =>
      cases h with
      | r0 _ _ h => exact .r0 _ _ h
theorem renO_hb {w : World} {O : Nat → Prop} {E E' : Env} {ρ : Ren} (hE : ∀ id j r, lkR ρ id = some (some j) → E id = some r → E' j = some r) {b : Option Nat} {K C : Nat} {ob : OB} (h : HB w O E b K C ob) : HB w O E' b K C (renO ρ ob) := by
  cases ob with
  | arr t sz l => exact h
  | obj o => exact h
  | arx t sz l =>
    obtain ⟨g1, g2, g3, g4, g5⟩ := h
    refine ⟨fun x hx => ?_, g2, by simpa using g3, by simpa using g4, ?_⟩
    · obtain ⟨x', hx', rfl⟩ := List.mem_map.1 hx
      rw [List.length_map]; exact g1 _ hx'
    · cases b with
      | none => exact g5
      | some b =>
        obtain ⟨ys, q1, q2, q3, q4, q5⟩ := g5
        refine ⟨ys, q1, q2, q3, q4, fun i x j u y h1 h2 h3 => ?_⟩
        simp only [List.getElem?_map, Option.map_eq_some_iff] at h1
        obtain ⟨x', h4, rfl⟩ := h1
        simp only [List.getElem?_map, Option.map_eq_some_iff] at h2
        obtain ⟨u', h5, rfl⟩ := h2
        exact renT_R hE 4 (q5 i x' j u' y h4 h5 h3)
  | mpe kk m j bo =>
    obtain ⟨b', es, clock, rfl, q2, q3, q4, q5, q6, q7⟩ := h
    refine ⟨b', es, clock, rfl, q2, q3, q4, by simpa using q5, fun i e p' h3 h4 => ?_, q7⟩
    simp only [List.getElem?_map, Option.map_eq_some_iff] at h4
    obtain ⟨p2, h4, rfl⟩ := h4
    obtain ⟨k1, k2, k3⟩ := q6 i e p2 h3 h4
    exact ⟨k1, k2, renT_R hE 4 k3⟩
  | map kk m =>
    obtain ⟨b', es, clock, rfl, q2, q3, q4, q5, q6, q7⟩ := h
    refine ⟨b', es, clock, rfl, q2, q3, q4, by simpa using q5, fun i e p' h3 h4 => ?_, q7⟩
    simp only [List.getElem?_map, Option.map_eq_some_iff] at h4
    obtain ⟨p2, h4, rfl⟩ := h4
    obtain ⟨k1, k2, k3⟩ := q6 i e p2 h3 h4
    exact ⟨k1, k2, renT_R hE 4 k3⟩
  | box cs =>
    obtain ⟨b', ys, t, g1, g2, g3, g4, g5, g6⟩ := h
    refine ⟨b', ys, t, g1, g2, by simpa using g3, by simpa using g4, g5, fun j u y h1 h2 => ?_⟩
    simp only [List.getElem?_map, Option.map_eq_some_iff] at h1
    obtain ⟨u', h1, rfl⟩ := h1
    exact renT_R hE 4 (g6 j u' y h1 h2)
def toR : List (Nat × Nat) → Ren
  | [] => []
  | (i, j) :: r => (i, some j) :: toR r
def tgt : List (Nat × Nat) → List Nat
  | [] => []
  | (_, j) :: r => j :: tgt r
def keepR (h' : List (Nat × OB)) : List (Nat × Nat) → List (Nat × Nat)
  | [] => []
  | (i, j) :: r => match usH h' i with
    | true => (i, j) :: keepR h' r
    | false => keepR h' r
def dropsR (h' : List (Nat × OB)) : List (Nat × Nat) → List (Nat × Option OB)
  | [] => []
  | (i, j) :: r => match usH h' i with
    | true => dropsR h' r
    | false => (j, none) :: dropsR h' r
def outsR (ρ : Ren) : List (Nat × OB) → List (Nat × Option OB)
  | [] => []
  | (i, ob) :: r => match lkR ρ i with
    | some (some j) => (j, some (renO ρ ob)) :: outsR ρ r
    | _ => outsR ρ r
def newN (s : St) (h : List (Nat × OB)) : List (Nat × Nat) → Prop
  | [] => True
  | (i, j) :: r => usH h i = false ∧ s.used j = false ∧ (tgt r).contains j = false ∧ newN s h r
def uniqP : List (Nat × Nat) → Prop
  | [] => True
  | (i, _) :: r => lkR (toR r) i = none ∧ uniqP r
def hasAll (ρ : Ren) : List (Nat × OB) → Prop
  | [] => True
  | (i, _) :: r => (lkR ρ i).isSome = true ∧ hasAll ρ r
def uniqN : List (Nat × OB) → Prop
  | [] => True
  | (i, _) :: r => usH r i = false ∧ uniqN r
def upT (ρ ν : List (Nat × Nat)) (h' : List (Nat × OB)) : List (Nat × Option OB) := dropsR h' ρ ++ outsR (toR (keepR h' ρ ++ ν)) h'
def AftT (d : Option Nat) (s : St) (Q : Exit → St → Prop) (rest : St → Prop) (h : List (Nat × OB)) (ρ ν : List (Nat × Nat)) : Out → Prop
  | .ret r h' => newN s h ν ∧ hasAll (toR (keepR h' ρ ++ ν)) h' ∧ uniqN h' ∧ rest (app s d (renT (toR (keepR h' ρ ++ ν)) 4 r, upT ρ ν h'))
  | .pan x h' => newN s h ν ∧ hasAll (toR (keepR h' ρ ++ ν)) h' ∧ uniqN h' ∧ Q (.panic [{ v := x, recovered := false }]) (hsets s (upT ρ ν h'))

theorem lkR_toR {ρ : List (Nat × Nat)} {i : Nat} {x : Option Nat} (h : lkR (toR ρ) i = some x) : ∃ j, x = some j ∧ (i, j) ∈ ρ := by
  induction ρ with
  | nil => cases h
  | cons p r ih =>
    obtain ⟨a, b⟩ := p
    simp only [toR, lkR] at h
    split at h
    · rename_i e; cases h; subst e; exact ⟨b, rfl, List.mem_cons_self ..⟩
    · obtain ⟨j, h1, h2⟩ := ih h; exact ⟨j, h1, List.mem_cons_of_mem _ h2⟩
theorem lkR_app {ρ ν : List (Nat × Nat)} {i : Nat} : lkR (toR (ρ ++ ν)) i = match lkR (toR ρ) i with | some x => some x | none => lkR (toR ν) i := by
  induction ρ with
  | nil => rfl
  | cons p r ih =>
    obtain ⟨a, b⟩ := p
    simp only [List.cons_append, toR, lkR]
    split
    · rfl
    · exact ih
theorem lkR_keep {h' : List (Nat × OB)} {ρ : List (Nat × Nat)} {i : Nat} : lkR (toR (keepR h' ρ)) i = match usH h' i with | true => lkR (toR ρ) i | false => none := by
  induction ρ with
  | nil => cases usH h' i <;> rfl
  | cons p r ih =>
    obtain ⟨a, b⟩ := p
    simp only [keepR]
    cases ha : usH h' a with
    | true =>
      simp only [toR, lkR]
      by_cases e : a = i
      · subst e; simp [ha]
      · simp only [e, if_false]; exact ih
    | false =>
      simp only [toR, lkR]
      by_cases e : a = i
      · subst e; rw [ih, ha]
      · simp only [e, if_false]; exact ih
theorem dropsR_spec {h' : List (Nat × OB)} {ρ : List (Nat × Nat)} {p : Nat × Option OB} (hp : p ∈ dropsR h' ρ) : p.2 = none ∧ ∃ i, (i, p.1) ∈ ρ ∧ usH h' i = false := by
  induction ρ with
  | nil => cases hp
  | cons q r ih =>
    obtain ⟨a, b⟩ := q
    simp only [dropsR] at hp
    cases ha : usH h' a with
    | true =>
      rw [ha] at hp
      obtain ⟨h1, i, h2, h3⟩ := ih hp
      exact ⟨h1, i, List.mem_cons_of_mem _ h2, h3⟩
    | false =>
      rw [ha] at hp
      simp only [List.mem_cons] at hp
      rcases hp with rfl | hp
      · exact ⟨rfl, a, List.mem_cons_self .., ha⟩
      · obtain ⟨h1, i, h2, h3⟩ := ih hp
        exact ⟨h1, i, List.mem_cons_of_mem _ h2, h3⟩
theorem dropsR_mem {h' : List (Nat × OB)} {ρ : List (Nat × Nat)} {i j : Nat} (hp : (i, j) ∈ ρ) (hi : usH h' i = false) : (j, none) ∈ dropsR h' ρ := by
  induction ρ with
  | nil => cases hp
  | cons q r ih =>
    obtain ⟨a, b⟩ := q
    simp only [dropsR]
    rcases List.mem_cons.1 hp with e | hp
    · cases e; rw [hi]; exact List.mem_cons_self ..
    · cases usH h' a with
      | true => exact ih hp
      | false => exact List.mem_cons_of_mem _ (ih hp)
theorem outsR_spec {ρ : Ren} {h' : List (Nat × OB)} {p : Nat × Option OB} (hp : p ∈ outsR ρ h') : ∃ i ob, (i, ob) ∈ h' ∧ lkR ρ i = some (some p.1) ∧ p.2 = some (renO ρ ob) := by
  induction h' with
  | nil => cases hp
  | cons q r ih =>
    obtain ⟨i, ob⟩ := q
    simp only [outsR] at hp
    split at hp
    · rename_i j hj
      simp only [List.mem_cons] at hp
      rcases hp with rfl | hp
      · exact ⟨i, ob, List.mem_cons_self .., hj, rfl⟩
      · obtain ⟨i', ob', h1, h2⟩ := ih hp
        exact ⟨i', ob', List.mem_cons_of_mem _ h1, h2⟩
    · obtain ⟨i', ob', h1, h2⟩ := ih hp
      exact ⟨i', ob', List.mem_cons_of_mem _ h1, h2⟩
theorem uniq_lk {h' : List (Nat × OB)} (hu : uniqN h') {i : Nat} {ob : OB} (h : (i, ob) ∈ h') : lkH h' i = some ob := by
  induction h' with
  | nil => cases h
  | cons q r ih =>
    obtain ⟨a, o⟩ := q
    obtain ⟨h1, h2⟩ := hu
    simp only [lkH]
    rcases List.mem_cons.1 h with e | h
    · cases e; simp
    · have := ih h2 h
      rw [if_neg (by rintro rfl; rw [usH_lk.2 ⟨_, this⟩] at h1; cases h1)]
      exact this
theorem hsets_last {s : St} {l : List (Nat × Option OB)} {i : Nat} : ((hsets s l).hp i = s.hp i ∧ ∀ p, p ∈ l → p.1 ≠ i) ∨ ∃ x, (i, x) ∈ l ∧ (hsets s l).hp i = x := by
  induction l generalizing s with
  | nil => exact .inl ⟨rfl, by simp⟩
  | cons p r ih =>
    obtain ⟨j, o⟩ := p
    simp only [hsets]
    rcases ih (s := s.hset j o) with ⟨h1, h2⟩ | ⟨x, h1, h2⟩
    · by_cases e : j = i
      · subst e; exact .inr ⟨o, List.mem_cons_self .., by rw [h1]; simp [St.hset]⟩
      · refine .inl ⟨by rw [h1]; simp [St.hset, e], fun p hp => ?_⟩
        rcases List.mem_cons.1 hp with rfl | hp
        · exact e
        · exact h2 p hp
    · exact .inr ⟨x, List.mem_cons_of_mem _ h1, h2⟩
theorem hsets_us {s : St} {l : List (Nat × Option OB)} {i : Nat} : (hsets s l).us i = true ↔ s.us i = true ∨ ∃ x, (i, x) ∈ l := by
  induction l generalizing s with
  | nil => simp [hsets]
  | cons p r ih =>
    obtain ⟨j, o⟩ := p
    simp only [hsets, ih]
    simp only [St.hset, Bool.or_eq_true, beq_iff_eq, List.mem_cons, Prod.mk.injEq]
    constructor
    · rintro ((h | h) | ⟨x, h⟩)
      · exact .inr ⟨o, .inl ⟨h.symm, rfl⟩⟩
      · exact .inl h
      · exact .inr ⟨x, .inr h⟩
    · rintro (h | ⟨x, ⟨h, _⟩ | h⟩)
      · exact .inl (.inr h)
      · exact .inl (.inl h.symm)
      · exact .inr ⟨x, h⟩
theorem hsets_fr' {s : St} {l : List (Nat × Option OB)} : (hsets s l).fr = s.fr := by
  induction l generalizing s with
  | nil => rfl
  | cons p r ih => exact ih
theorem newN_spec {s : St} {h : List (Nat × OB)} : ∀ {ν : List (Nat × Nat)}, newN s h ν → (∀ i j, (i, j) ∈ ν → usH h i = false ∧ s.us j = false) ∧ ∀ i i' j, (i, j) ∈ ν → (i', j) ∈ ν → lkR (toR ν) i = some (some j) → lkR (toR ν) i' = some (some j) → i = i' := by
  have mt : ∀ {ν : List (Nat × Nat)} {i j : Nat}, (i, j) ∈ ν → (tgt ν).contains j = true := fun {ν} => by
    induction ν with
    | nil => intro i j h; cases h
    | cons p r ih =>
      obtain ⟨a, b⟩ := p
      intro i j h
      simp only [tgt, List.contains_cons, Bool.or_eq_true, beq_iff_eq]
      rcases List.mem_cons.1 h with e | h
      · cases e; exact .inl rfl
      · exact .inr (ih h)
  intro ν
  induction ν with
  | nil => intro _; exact ⟨by simp, by simp⟩
  | cons p r ih =>
    obtain ⟨a, b⟩ := p
    rintro ⟨h1, h2, h3, h4⟩
    obtain ⟨g1, g2⟩ := ih h4
    refine ⟨fun i j hm => ?_, fun i i' j hm hm' => ?_⟩
    · rcases List.mem_cons.1 hm with e | hm
      · cases e; exact ⟨h1, h2⟩
      · exact g1 i j hm
    · intro hl hl'
      simp only [toR, lkR] at hl hl'
      split at hl <;> split at hl'
      · omega
      · simp at hl; subst hl
        obtain ⟨j', e, hm2⟩ := lkR_toR hl'
        cases e
        rw [mt hm2] at h3; cases h3
      · simp at hl'; subst hl'
        obtain ⟨j', e, hm2⟩ := lkR_toR hl
        cases e
        rw [mt hm2] at h3; cases h3
      · obtain ⟨_, e, q1⟩ := lkR_toR hl
        cases e
        obtain ⟨_, e, q2⟩ := lkR_toR hl'
        cases e
        exact g2 i i' j q1 q2 hl hl'

theorem tri_enter {G : Gh} {s : St} {a : Act} {w : World} {E : Env} (hE : SimE G s a w E) {h : List (Nat × OB)} {ρ : List (Nat × Nat)} (hH : entH (toR ρ) s h) (hi : injR (toR ρ)) (hc : coverR h (toR ρ))
    {as : List V} {ys : Array Value} (ha : ∀ j u, as[j]? = some u → R w (OT G s E) (envR (toR ρ) E) u (ys.getD j undef)) {lo : Nat} (hlo : LoOK w (fun b => (G.Of b ∨ ∃ id ob K C, s.hp id = some ob ∧ E id = some (some b, K, C) ∧ id ∉ tgt ρ) ∨ triM h (envR (toR ρ) E) b) lo) :
    SimE (triG noOw w (fun b => G.Of b ∨ ∃ id ob K C, s.hp id = some ob ∧ E id = some (some b, K, C) ∧ id ∉ tgt ρ) ys.size h (envR (toR ρ) E) (names h) lo hlo) (St.of (enumV 0 as) h) ⟨ys, []⟩ w (envR (toR ρ) E) := by
  have hO : ∀ b, ¬ OT G s E b → ¬ OT (triG noOw w (fun b => G.Of b ∨ ∃ id ob K C, s.hp id = some ob ∧ E id = some (some b, K, C) ∧ id ∉ tgt ρ) ys.size h (envR (toR ρ) E) (names h) lo hlo) (St.of (enumV 0 as) h) (envR (toR ρ) E) b := by
    rintro b hb ((h | ⟨id, ob, K, C, h1, h2, _⟩) | ⟨id, ob, K, C, hid, hid'⟩)
    · exact hb (.inl h)
    · exact hb (.inr ⟨id, ob, K, C, h1, h2⟩)
    · obtain ⟨j, ob', _, h2, h3, _⟩ := entH_live hH hid hid'
      exact hb (.inr ⟨j, ob', K, C, h2, h3⟩)
  have mt : ∀ {i j : Nat}, lkR (toR ρ) i = some (some j) → j ∈ tgt ρ := fun {i j} h => by
    obtain ⟨_, e, hm⟩ := lkR_toR h
    cases e
    clear h hO
    clear hlo
    clear hH hi hc ha
    induction ρ with
    | nil => cases hm
    | cons p r ih =>
      obtain ⟨a, b⟩ := p
      rcases List.mem_cons.1 hm with e | hm
      · cases e; exact List.mem_cons_self ..
      · exact List.mem_cons_of_mem _ (ih hm)
  refine ⟨fun i => ?_, DefOK.nil, rfl, fun id ob hob => entH_hb hE hH hob hO, fun id hid => ?_, fun id id' ob ob' b K K' h1 h2 h3 h4 => entH_inj hE hH hi h1 h2 h3 h4, fun id ob b K h1 h2 => ?_, fun b hb => ?_, Nat.le_refl _, rfl, rfl, rfl, fun _ _ _ => rfl, fun id hid => ?_, trivial⟩
  · show R w _ _ (lkV (enumV 0 as) i) _
    rw [lkV_enum]
    simp only [Nat.zero_le, if_true, Nat.sub_zero]
    cases hj : as[i]? with
    | none => exact .r0 _ _ (.any _)
    | some u => exact (ha i u hj).weak hO fun _ _ h => h
  · unfold envR at hid
    split at hid
    · rename_i j hj; exact coverR_spec hc hj
    · rename_i hj; exact coverR_spec hc hj
    · exact (hid rfl).elim
  · obtain ⟨Kk, Cc⟩ := K
    obtain ⟨j, ob', g1, g2, g3, _⟩ := entH_live hH h1 h2
    refine ⟨.inr ⟨id, ob, Kk, Cc, h1, h2⟩, ?_, (hE.fresh j ob' b _ g2 g3).2.2⟩
    rintro (hof | ⟨i, o, K', C', q1, q2, q3⟩)
    · exact (hE.fresh j ob' b _ g2 g3).2.1 hof
    · have := hE.inj j i ob' o b _ _ g2 q1 g3 q2
      subst this
      exact q3 (mt g1)
  · rcases hb with hb | ⟨id, ob, K, C, h1, h2, _⟩
    · exact hE.old b hb
    · exact (hE.fresh id ob b _ h1 h2).2.2
  · obtain ⟨ob, hob⟩ := usH_lk.1 (names_mem.1 hid)
    obtain ⟨b, K, C, h1, _⟩ := entH_hb hE hH hob hO
    exact ⟨_, h1, h1⟩

theorem tri_leave {G : Gh} {s : St} {a : Act} {w : World} {E : Env} (hE : SimE G s a w E) {h h' : List (Nat × OB)} {ρ ν : List (Nat × Nat)} (hH : entH (toR ρ) s h) (hc : coverR h (toR ρ))
    {lo : Nat} {hlo : LoOK w (fun b => (G.Of b ∨ ∃ id ob K C, s.hp id = some ob ∧ E id = some (some b, K, C) ∧ id ∉ tgt ρ) ∨ triM h (envR (toR ρ) E) b) lo} {n : Nat} {fl : List (Nat × V)} {a1 : Act} {w' : World} {E1 : Env}
    (h1 : SimE (triG noOw w (fun b => G.Of b ∨ ∃ id ob K C, s.hp id = some ob ∧ E id = some (some b, K, C) ∧ id ∉ tgt ρ) n h (envR (toR ρ) E) (keptN h h') lo hlo) (St.of fl h') a1 w' E1)
    (hq : uniqP ρ) (hν : newN s h ν) (hu : uniqN h') :
    ∃ E', SimE G (hsets s (upT ρ ν h')) a w' E' ∧ ∀ {x : V} {y : Value}, R w' (OT (triG noOw w (fun b => G.Of b ∨ ∃ id ob K C, s.hp id = some ob ∧ E id = some (some b, K, C) ∧ id ∉ tgt ρ) n h (envR (toR ρ) E) (keptN h h') lo hlo) (St.of fl h') E1) E1 x y →
      R w' (OT G (hsets s (upT ρ ν h')) E') E' (renT (toR (keepR h' ρ ++ ν)) 4 x) y := by
  obtain ⟨hν1, hν2⟩ := newN_spec hν
  -- how names go over
  have hlk : ∀ i j, lkR (toR (keepR h' ρ ++ ν)) i = some (some j) → (lkR (toR ρ) i = some (some j) ∧ usH h' i = true) ∨ (lkR (toR ν) i = some (some j) ∧ usH h i = false ∧ s.us j = false) := fun i j hj => by
    rw [lkR_app, lkR_keep] at hj
    cases hu' : usH h' i with
    | false =>
      rw [hu'] at hj
      obtain ⟨_, e, hm⟩ := lkR_toR hj
      cases e
      exact .inr ⟨hj, hν1 i j hm⟩
    | true =>
      rw [hu'] at hj
      simp only at hj
      cases hr : lkR (toR ρ) i with
      | some x => rw [hr] at hj; exact .inl ⟨hj, rfl⟩
      | none =>
        rw [hr] at hj
        obtain ⟨_, e, hm⟩ := lkR_toR hj
        cases e
        exact .inr ⟨hj, hν1 i j hm⟩
  have hEj : ∀ i j r, lkR (toR ρ) i = some (some j) → usH h' i = true → E1 i = some r → E j = some r := fun i j r hj hi' hr => by
    have hih : usH h i = true := coverR_spec hc hj
    obtain ⟨r', q1, q2⟩ := h1.base i (List.mem_filter.2 ⟨names_mem.2 hih, hi'⟩)
    rw [hr] at q2
    cases q2
    have q1' : envR (toR ρ) E i = some r := q1
    simpa [envR, hj] using q1'
  have hun : ∀ j, s.us j = false → E j = none := fun j hj => by
    cases he : E j with
    | none => rfl
    | some r => have := hE.us j (by rw [he]; simp); rw [hj] at this; cases this
  -- the caller's new names
  let E' : Env := fun j => match E j with
    | some r => some r
    | none => match (names h').find? (fun i => lkR (toR (keepR h' ρ ++ ν)) i == some (some j)) with
      | some i => E1 i
      | none => none
  have hEE : ∀ j r, E j = some r → E' j = some r := fun j r hr => by show (match E j with | some r => some r | none => _) = _; rw [hr]
  have hinjν : ∀ i i' j, lkR (toR (keepR h' ρ ++ ν)) i = some (some j) → lkR (toR (keepR h' ρ ++ ν)) i' = some (some j) → s.us j = false → i = i' := fun i i' j q1 q2 hj => by
    have old : ∀ i, lkR (toR ρ) i = some (some j) → False := fun i hij => by
      have hih : usH h i = true := coverR_spec hc hij
      obtain ⟨ob, hob⟩ := usH_lk.1 hih
      have := entH_spec hH i ob hob
      rw [hij] at this
      have h3' : obOK (toR ρ) ob (s.hp j) := this
      cases ho : s.hp j with
      | none => rw [ho] at h3'; cases ob <;> exact h3'.elim
      | some ob' =>
        obtain ⟨b, K, C, q, _⟩ := hE.hp j ob' ho
        rw [hun j hj] at q; cases q
    rcases hlk i j q1 with ⟨g, _⟩ | ⟨g, _⟩
    · exact (old i g).elim
    · rcases hlk i' j q2 with ⟨g', _⟩ | ⟨g', _⟩
      · exact (old i' g').elim
      · obtain ⟨_, e, m1⟩ := lkR_toR g
        cases e
        obtain ⟨_, e, m2⟩ := lkR_toR g'
        cases e
        exact hν2 i i' j m1 m2 g g'
  have hE1 : ∀ i j r, lkR (toR (keepR h' ρ ++ ν)) i = some (some j) → E1 i = some r → E' j = some r := fun i j r hj hr => by
    rcases hlk i j hj with ⟨g1, g2⟩ | ⟨g1, g2, g3⟩
    · exact hEE j r (hEj i j r g1 g2 hr)
    · have hi' : i ∈ names h' := names_mem.2 (h1.us i (by rw [hr]; simp))
      show (match E j with | some r => some r | none => _) = _
      rw [hun j g3]
      simp only
      have hf : ∃ i', (names h').find? (fun i => lkR (toR (keepR h' ρ ++ ν)) i == some (some j)) = some i' := by
        cases hf : (names h').find? (fun i => lkR (toR (keepR h' ρ ++ ν)) i == some (some j)) with
        | some i' => exact ⟨i', rfl⟩
        | none =>
          have := List.find?_eq_none.1 hf i hi'
          simp [hj] at this
      obtain ⟨i', hf⟩ := hf
      rw [hf]
      have hf' := List.find?_some hf
      simp only [beq_iff_eq] at hf'
      rw [hinjν i i' j hj hf' g3] at hr
      exact hr
  have hE'none : ∀ j, E j = none → (∀ i, lkR (toR (keepR h' ρ ++ ν)) i ≠ some (some j)) → E' j = none := fun j hj hno => by
    show (match E j with | some r => some r | none => _) = _
    rw [hj]
    simp only
    cases hf : (names h').find? (fun i => lkR (toR (keepR h' ρ ++ ν)) i == some (some j)) with
    | none => rfl
    | some i => have := List.find?_some hf; simp only [beq_iff_eq] at this; exact (hno i this).elim
  -- which names are altered
  let N : Nat → Prop := fun j => (∃ i, lkR (toR ρ) i = some (some j)) ∨ ∃ i, lkR (toR (keepR h' ρ ++ ν)) i = some (some j)
  have hmemρ : ∀ i j, (i, j) ∈ ρ → lkR (toR ρ) i = some (some j) := fun i j hm => by
    have : ∀ {l : List (Nat × Nat)}, uniqP l → (i, j) ∈ l → lkR (toR l) i = some (some j) := fun {l} => by
      induction l with
      | nil => intro _ h; cases h
      | cons p r ih =>
        obtain ⟨a, b⟩ := p
        rintro ⟨q1, q2⟩ hm
        simp only [toR, lkR]
        rcases List.mem_cons.1 hm with e' | hm
        · cases e'; simp
        · have := ih q2 hm
          rw [if_neg (by rintro rfl; rw [q1] at this; cases this)]
          exact this
    exact this hq hm
  have hin : ∀ i j, lkR (toR (keepR h' ρ ++ ν)) i = some (some j) → usH h' i = true → ∃ ob, (i, ob) ∈ h' ∧ (j, some (renO (toR (keepR h' ρ ++ ν)) ob)) ∈ upT ρ ν h' := fun i j hj hi' => by
    obtain ⟨ob, hob⟩ := usH_lk.1 hi'
    have hm : (i, ob) ∈ h' := lk_mem hob
    refine ⟨ob, hm, List.mem_append_right _ ?_⟩
    have : ∀ {l : List (Nat × OB)}, (i, ob) ∈ l → (j, some (renO (toR (keepR h' ρ ++ ν)) ob)) ∈ outsR (toR (keepR h' ρ ++ ν)) l := fun {l} => by
      induction l with
      | nil => intro h; cases h
      | cons p r ih =>
        obtain ⟨a, o⟩ := p
        intro hm
        simp only [outsR]
        rcases List.mem_cons.1 hm with e | hm
        · cases e; rw [hj]; exact List.mem_cons_self ..
        · split
          · exact List.mem_cons_of_mem _ (ih hm)
          · exact ih hm
    exact this hm
  -- where an altered name's memory comes from
  have hup : ∀ p, p ∈ upT ρ ν h' → (p.2 = none ∧ ∃ i, lkR (toR ρ) i = some (some p.1) ∧ usH h' i = false) ∨ ∃ i ob, lkH h' i = some ob ∧ lkR (toR (keepR h' ρ ++ ν)) i = some (some p.1) ∧ p.2 = some (renO (toR (keepR h' ρ ++ ν)) ob) := fun p hp => by
    rcases List.mem_append.1 hp with hp | hp
    · obtain ⟨g1, i, g2, g3⟩ := dropsR_spec hp
      exact .inl ⟨g1, i, hmemρ _ _ g2, g3⟩
    · obtain ⟨i, ob, g1, g2, g3⟩ := outsR_spec hp
      exact .inr ⟨i, ob, uniq_lk hu g1, g2, g3⟩
  have hupN : ∀ p, p ∈ upT ρ ν h' → N p.1 := fun p hp => by
    rcases hup p hp with ⟨_, i, g, _⟩ | ⟨i, ob, _, g, _⟩
    · exact .inl ⟨i, g⟩
    · exact .inr ⟨i, g⟩
  have himg : ∀ j o, N j → (hsets s (upT ρ ν h')).hp j = some o → ∃ i ob, lkH h' i = some ob ∧ lkR (toR (keepR h' ρ ++ ν)) i = some (some j) ∧ o = renO (toR (keepR h' ρ ++ ν)) ob := fun j o hj ho => by
    rcases hsets_last (s := s) (l := upT ρ ν h') (i := j) with ⟨g1, g2⟩ | ⟨x, g1, g2⟩
    · exfalso
      rw [g1] at ho
      obtain ⟨b, K, C, q1, _⟩ := hE.hp j o ho
      rcases hj with ⟨i, hij⟩ | ⟨i, hij⟩
      · cases hi' : usH h' i with
        | true =>
          obtain ⟨ob, _, hm⟩ := hin i j (by rw [lkR_app, lkR_keep, hi']; simp only [hij]) hi'
          exact g2 _ hm rfl
        | false =>
          obtain ⟨_, e, hm⟩ := lkR_toR hij
          cases e
          exact g2 _ (List.mem_append_left _ (dropsR_mem hm hi')) rfl
      · rcases hlk i j hij with ⟨_, hi'⟩ | ⟨_, _, hus⟩
        · obtain ⟨ob, _, hm⟩ := hin i j hij hi'
          exact g2 _ hm rfl
        · rw [hun j hus] at q1; cases q1
    · rw [g2] at ho
      subst ho
      rcases hup _ g1 with ⟨g, _⟩ | ⟨i, ob, q1, q2, q3⟩
      · cases g
      · cases q3
        exact ⟨i, ob, q1, q2, rfl⟩
  have himgE : ∀ i j ob, lkH h' i = some ob → lkR (toR (keepR h' ρ ++ ν)) i = some (some j) → E' j = E1 i := fun i j ob hob hj => by
    obtain ⟨b, K, C, q1, _⟩ := h1.hp i ob hob
    rw [q1]; exact hE1 i j _ hj q1
  have hother : ∀ j, ¬ N j → (hsets s (upT ρ ν h')).hp j = s.hp j ∧ E' j = E j := fun j hj => by
    refine ⟨?_, ?_⟩
    · rcases hsets_last (s := s) (l := upT ρ ν h') (i := j) with ⟨g1, _⟩ | ⟨x, g1, _⟩
      · exact g1
      · exact (hj (hupN _ g1)).elim
    · cases he : E j with
      | some r => exact hEE j r he
      | none => exact hE'none j he fun i hi => hj (.inr ⟨i, hi⟩)
  have htgt : ∀ j, j ∈ tgt ρ → N j := fun j hj => by
    have : ∀ {l : List (Nat × Nat)}, j ∈ tgt l → ∃ i, (i, j) ∈ l := fun {l} => by
      induction l with
      | nil => intro h; cases h
      | cons p r ih =>
        obtain ⟨a, b⟩ := p
        intro h
        simp only [tgt, List.mem_cons] at h
        rcases h with rfl | h
        · exact ⟨a, List.mem_cons_self ..⟩
        · obtain ⟨i, hi⟩ := ih h; exact ⟨i, List.mem_cons_of_mem _ hi⟩
    obtain ⟨i, hi⟩ := this hj
    exact .inl ⟨i, hmemρ _ _ hi⟩
  have hOT1 : ∀ b, OT G (hsets s (upT ρ ν h')) E' b → OT (triG noOw w (fun b => G.Of b ∨ ∃ id ob K C, s.hp id = some ob ∧ E id = some (some b, K, C) ∧ id ∉ tgt ρ) n h (envR (toR ρ) E) (keptN h h') lo hlo) (St.of fl h') E1 b := by
    rintro b (hb | ⟨j, o, K, C, q1, q2⟩)
    · exact .inl (.inl hb)
    · by_cases hj : N j
      · obtain ⟨i, ob, g1, g2, rfl⟩ := himg j o hj q1
        rw [himgE i j ob g1 g2] at q2
        exact .inr ⟨i, ob, K, C, g1, q2⟩
      · rw [(hother j hj).1] at q1; rw [(hother j hj).2] at q2
        exact .inl (.inr ⟨j, o, K, C, q1, q2, fun h => hj (htgt j h)⟩)
  have hM : ∀ b, triM h (envR (toR ρ) E) b → ∃ id0 ob0 K0 C0, N id0 ∧ s.hp id0 = some ob0 ∧ E id0 = some (some b, K0, C0) := by
    rintro b ⟨i, ob, K, C, q1, q2⟩
    obtain ⟨j, ob', g1, g2, g3, _⟩ := entH_live hH q1 q2
    exact ⟨j, ob', K, C, .inl ⟨i, g1⟩, g2, g3⟩
  obtain ⟨r1, r2⟩ := hE.upd (s' := hsets s (upT ρ ν h')) (w' := w') (E' := E') N hsets_fr' h1.grow h1.os h1.tape h1.output
    (fun b hlt hno => h1.keep b hlt fun hm => by obtain ⟨j, o, K, C, g1, g2, g3⟩ := hM b hm; exact hno j o K C g1 g2 g3)
    hother hEE (fun j hj => hsets_us.2 (.inl hj))
    (fun j _ he => by
      cases hej : E j with
      | some r => exact hsets_us.2 (.inl (hE.us j (by rw [hej]; simp)))
      | none =>
        have he' : (match E j with | some r => some r | none => match (names h').find? (fun i => lkR (toR (keepR h' ρ ++ ν)) i == some (some j)) with | some i => E1 i | none => none) ≠ none := he
        rw [hej] at he'
        simp only at he'
        cases hf : (names h').find? (fun i => lkR (toR (keepR h' ρ ++ ν)) i == some (some j)) with
        | none => rw [hf] at he'; exact (he' rfl).elim
        | some i =>
          have h2 := List.find?_some hf
          simp only [beq_iff_eq] at h2
          obtain ⟨ob, _, hm⟩ := hin i j h2 (names_mem.1 (List.mem_of_find?_eq_some hf))
          exact hsets_us.2 (.inr ⟨_, hm⟩))
    (fun j o hj ho => by
      obtain ⟨i, ob, g1, g2, rfl⟩ := himg j o hj ho
      obtain ⟨b, K, C, q1, q2⟩ := h1.hp i ob g1
      exact ⟨b, K, C, hE1 i j _ g2 q1, fun _ => (renO_hb hE1 q2).mono (Nat.le_refl _) (fun b hb _ h => hb (hOT1 b h)) (fun _ _ _ => rfl) (fun _ _ h => h) (fun _ _ => rfl)⟩)
    (fun j o b K C hj ho he => by
      obtain ⟨i, ob, g1, g2, rfl⟩ := himg j o hj ho
      rw [himgE i j ob g1 g2] at he
      obtain ⟨q1, _, q3⟩ := h1.fresh i ob b _ g1 he
      rcases q1 with q1 | q1
      · exact .inl ⟨q1, q3⟩
      · exact .inr (hM b q1))
    (fun j j' o o' b x x' hj hj' ho ho' he he' => by
      obtain ⟨i, ob, g1, g2, rfl⟩ := himg j o hj ho
      obtain ⟨i', ob', g1', g2', rfl⟩ := himg j' o' hj' ho'
      rw [himgE i j ob g1 g2] at he
      rw [himgE i' j' ob' g1' g2'] at he'
      have := h1.inj i i' ob ob' b x x' g1 g1' he he'
      subst this
      rw [g2] at g2'
      cases g2'; rfl)
  exact ⟨E', r1, fun hx => (renT_R hE1 4 hx).mono (Nat.le_refl _) (fun b hb _ h => hb (hOT1 b h)) (fun _ _ _ => rfl) fun _ _ h => h⟩

theorem ops_R {G : Gh} {s : St} {a : Act} {w : World} {E : Env} (hE : SimE G s a w E) {l : List Operand} {cap : List V} {ys : Array Value} (hsz : ys.size = cap.length) (hr : ∀ (j : Nat) (u : V) (y : Value), cap[j]? = some u → ys[j]? = some y → R w (OT G s E) E u y) :
    ((l.map a.eval).toArray ++ ys).size = (l.map (ev s) ++ cap).length ∧ ∀ (j : Nat) (u : V), (l.map (ev s) ++ cap)[j]? = some u → R w (OT G s E) E u (((l.map a.eval).toArray ++ ys).getD j undef) := by
  refine ⟨by simp [hsz], fun j u h1 => ?_⟩
  rw [Array.getD_eq_getD_getElem?]
  by_cases hj : j < l.length
  · rw [List.getElem?_append_left (by simpa using hj)] at h1
    rw [Array.getElem?_append_left (by simpa using hj)]
    simp only [List.getElem?_map, Option.map_eq_some_iff] at h1
    obtain ⟨z, hz, rfl⟩ := h1
    simp [hz]
    exact ev_R hE z
  · rw [List.getElem?_append_right (by simpa using hj)] at h1
    rw [Array.getElem?_append_right (by simpa using hj)]
    simp only [List.length_map, List.size_toArray] at h1 ⊢
    have hlt : j - l.length < ys.size := by rw [hsz]; exact (List.getElem?_eq_some_iff.1 h1).1
    rw [Array.getElem?_eq_getElem hlt]
    exact hr _ _ _ h1 (Array.getElem?_eq_getElem hlt)

theorem wp_call_any {P : Program} {G : Gh} {a : Act} {w : World} {o : Oper} {x : Operand} {l : List Operand} {ts : Array TypeId} (ho : o.op = .call ⟨.value x, l.toArray, ts⟩) {k : FuncId} (hk : Enters P k) {cap : Array Value} (hx : a.eval x = .func (.func k) #[] cap)
    {K : Act → World → Prop} {Q : Exit → Act → World → Prop} {R : Ending → World → Prop} (hc : Calls P k ((l.map a.eval).toArray ++ cap) w R)
    (h : ∀ e w', R e w' → (∃ y, e = .returned y ∧ K (a.put o.dst y) w') ∨ ∃ ch, e = .panicked ch ∧ Q (.panic ch) a w') : o.wpIn G.F 0 P a w K Q := by
  refine wpIn_of_wp (fun c hc => by rw [ho] at hc; cases hc) ?_
  obtain ⟨fn, hf, hn, hb⟩ := hk
  unfold Oper.wp
  have hrun : (execOp a.eval o).run P w = .ok (.enter k ((l.map a.eval).toArray ++ cap)) w := by
    have hn' : fn.name ≠ "runtime.NumGoroutine" := by simpa using hn
    have hb' : fn.body ≠ none := by intro h; simp [h] at hb
    simp [execOp, ho, resolve, Deferred.ofValue, hx, invoke, callFunc, hf, hb', hn']
  rw [hrun, Oper.upon_enter]
  refine hc.mono fun e w' hr => ?_
  rcases h e w' hr with ⟨y, rfl, hK⟩ | ⟨ch, rfl, hQ⟩
  · exact hK
  · exact hQ

theorem tri_lo {G : Gh} {s : St} {a : Act} {w : World} {E : Env} (hE : SimE G s a w E) {h : List (Nat × OB)} {ρ : List (Nat × Nat)} (hH : entH (toR ρ) s h) : LoOK w (fun b => (G.Of b ∨ ∃ id ob K C, s.hp id = some ob ∧ E id = some (some b, K, C) ∧ id ∉ tgt ρ) ∨ triM h (envR (toR ρ) E) b) G.lo := by
  refine ⟨Nat.le_trans G.hlo hE.grow, hE.glob.weak ?_⟩
  rintro b ((q | ⟨id, ob, K, C, h1, h2, _⟩) | ⟨id, ob, K, C, h1, h2⟩)
  · exact .inl q
  · exact .inr ⟨id, ob, K, C, h1, h2⟩
  · obtain ⟨j, ob', _, g2, g3, _⟩ := entH_live hH h1 h2
    exact .inr ⟨j, ob', K, C, g2, g3⟩
theorem call_tri {P : Program} {G : Gh} {o : Oper} {s : St} {Q : Exit → St → Prop} {rest : St → Prop} {k : FuncId} {cap as as' : List V} {h : List (Nat × OB)} {post : Nat → Out} (ρ ν : List (Nat × Nat)) (hp : Tri P k as' h post)
    (hA : okL (okN (toR ρ) 4) as' (as ++ cap)) (hH : entH (toR ρ) s h) (hi : injR (toR ρ)) (hcv : coverR h (toR ρ)) (hq : uniqP ρ) (hc : chk G.n o.dst)
    (hr : AftT o.dst s Q rest h ρ ν (post (loT h G.lo))) : SemCall P G o s Q rest (.fn (.func k) cap) as := by
  rintro x l ts ho hx rfl a w ⟨E, hE⟩
  obtain ⟨ys, hy, hsz, hrr⟩ := R.fn_inv (ev_E hE hx.symm)
  obtain ⟨hn, hargs⟩ := ops_R (l := l) hE hsz hrr
  obtain ⟨hl1, hl2⟩ := okL_spec hA
  have hlo := tri_lo hE hH
  have hen := tri_enter hE hH hi hcv (as := as') (ys := (l.map a.eval).toArray ++ ys) (fun j u hj => by
    obtain ⟨x', g1, g2⟩ := hl2 j u hj
    exact ren 4 g2 (hargs j x' g1)) hlo
  refine wp_call_any ho hp.1 hy (hp.2 G.lo w _ _ _ hlo (by omega) hen) ?_
  intro e w' hleft
  cases hpost : post (loT h G.lo) with
  | ret r h' =>
    rw [hpost] at hleft hr
    obtain ⟨y, E1, rfl, h1⟩ := hleft
    obtain ⟨a1, a2, a3, a4⟩ := hr
    obtain ⟨E', b1, b2⟩ := tri_leave hE hH hcv h1 hq a1 a3
    have hR := h1.fr 0
    refine .inl ⟨y, rfl, _, a4, E', b1.put (chk_spec hc) (b2 ?_)⟩
    simpa [St.of, lkV] using hR
  | pan v h' =>
    rw [hpost] at hleft hr
    obtain ⟨E1, rfl, h1⟩ := hleft
    obtain ⟨a1, a2, a3, a4⟩ := hr
    obtain ⟨E', b1, b2⟩ := tri_leave hE hH hcv h1 hq a1 a3
    exact .inr ⟨_, rfl, _, a4, E', b1⟩
end Pm
end Go.Proofs.YtppcbmpiphhphaaGreatDoor
