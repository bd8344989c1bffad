import Derived.RecoverIn
import Derived.Handed
import Derived.LaidMore
import Derived.LaidHandle
import Derived.Stop.Joined
import Derived.OpenShut
import Derived.ChangeSame
import Derived.LaidSub
import Derived.Test.YtphadkcpgnkpfaaGreatDoorQT08
import Derived.Test.YtphadkcpgnkpfaaGreatDoorQT10
import Derived.Test.YtphadkcpgnkpfaaGreatDoorQT11
import Derived.Test.YtphadkcpgnkpfaaGreatDoorQT17
namespace Go.Proofs.YtphadkcpgnkpfaaGreatDoor
open Go Go.RowKit
set_option linter.unusedSimpArgs false
set_option linter.unusedVariables false
namespace Pm
def conc (P : Program) (t : TypeId) : Bool := match P.underlying t with
  | some (.interface _) => false
  | some _ => true
  | none => false
theorem conc_inv {P : Program} {t : TypeId} (h : conc P t = true) : ∃ d, P.underlying t = some d ∧ ∀ m, d ≠ .interface m := by
  unfold conc at h
  split at h
  · cases h
  · rename_i d hn hu; exact ⟨d, hu, fun m e => hn m e⟩
  · cases h
theorem panic_step {P : Program} {G : Gh} {s : St} {o : Oper} {Q : Exit → St → Prop} {rest : St → Prop} {x : Operand} {t : TypeId} {v : Value} (ho : o.op = .panic x) (hx : ev s x = .v (.iface t v))
    (h : Q (.panic [{ v := .iface t v, recovered := false }]) s) : SemStep P G o s Q rest := by
  rintro a w ⟨E, hE⟩
  refine wpIn_of_wp (fun c hc => by rw [ho] at hc; cases hc) ?_
  have hv := R.v_inv (ev_E hE hx)
  unfold Oper.wp
  have hrun : (execOp a.eval o).run P w = .halt (.panic (.iface t v)) w := by rw [show (execOp a.eval o) = (Functor.map Next.value (Instr.panic (a.eval x))) from by simp only [execOp, ho]; rfl, hv]; rfl
  rw [hrun]
  exact ⟨s, h, E, hE⟩
theorem agg_exact {w : World} {O : Nat → Prop} {E : Env} {ys : List Value} {y : Value} (h : R w O E (.agg (ys.map .v)) y) : y = .agg ys.toArray := by
  obtain ⟨zs, rfl, hsz, hr⟩ := R.agg_inv h
  congr 1
  apply Array.ext
  · simpa using hsz
  · intro i h1 h2
    have hi : i < ys.length := by simpa using h2
    have := R.v_inv (hr i (.v ys[i]) zs[i] (by simp [hi]) (by simp [h1]))
    simpa using this
theorem mki_step {P : Program} {G : Gh} {s : St} {o : Oper} {Q : Exit → St → Prop} {rest : St → Prop} {x : Operand} {t : TypeId} (ys : List Value) (ho : o.op = .makeInterface t x) (hx : ev s x = .agg (ys.map .v)) (hu : conc P t = true) (hc : chk G.n o.dst)
    (h : rest (putD s o.dst (.v (.iface t (.agg ys.toArray))))) : SemStep P G o s Q rest := by
  intro a w hs
  refine wpIn_of_wp (fun c hc => by rw [ho] at hc; cases hc) ?_
  refine stepOK_val (chk_spec hc) (fun a w E hE => ?_) a w hs _ _ fun a' w' hs' => ⟨_, h, hs'⟩
  have hv := agg_exact (ev_E hE hx)
  obtain ⟨d, hd, hn⟩ := conc_inv hu
  refine ⟨.iface t (.agg ys.toArray), ?_, .r0 _ _ (.v _)⟩
  cases d <;> first | (simp [execOp, ho, hv, Instr.makeInterface, run_under P w hd]; done) | exact (hn _ rfl).elim
theorem asrt_step {P : Program} {G : Gh} {s : St} {o : Oper} {Q : Exit → St → Prop} {rest : St → Prop} {x : Operand} {t xt : TypeId} (ys : List Value) (ho : o.op = .typeAssert x xt t true) (hx : ev s x = .v (.iface t (.agg ys.toArray))) (hu : conc P t = true) (hc : chk G.n o.dst)
    (h : rest (putD s o.dst (.tup [.agg (ys.map .v), .v (.bool true)]))) : SemStep P G o s Q rest := by
  intro a w hs
  refine wpIn_of_wp (fun c hc => by rw [ho] at hc; cases hc) ?_
  refine stepOK_val (chk_spec hc) (fun a w E hE => ?_) a w hs _ _ fun a' w' hs' => ⟨_, h, hs'⟩
  have hv := R.v_inv (ev_E hE hx)
  obtain ⟨d, hd, hn⟩ := conc_inv hu
  refine ⟨.tuple #[.agg ys.toArray, .bool true], ?_, .tup _ _ rfl fun j u y h1 h2 => ?_⟩
  · cases d <;> first | (simp [execOp, ho, hv, Instr.typeAssert, run_under P w hd]; done) | exact (hn _ rfl).elim
  · match j with
    | 0 =>
      simp at h1 h2; subst h1; subst h2
      refine .agg _ _ (by simp) fun j u y h1 h2 => ?_
      simp only [List.getElem?_map, Option.map_eq_some_iff] at h1
      obtain ⟨z, hz, rfl⟩ := h1
      simp [hz] at h2
      subst h2
      exact .r0 _ _ (.v _)
    | 1 => simp at h1 h2; subst h1; subst h2; exact .r0 _ _ (.v _)
    | j + 2 => simp at h1
def isIf (P : Program) (t : TypeId) : Bool := match P.underlying t with
  | some (.interface _) => true
  | _ => false
theorem isIf_inv {P : Program} {t : TypeId} (h : isIf P t = true) : ∃ m, P.underlying t = some (.interface m) := by
  unfold isIf at h
  split at h
  · rename_i m hm; exact ⟨m, hm⟩
  · cases h
theorem ifnil_step {P : Program} {G : Gh} {s : St} {o : Oper} {Q : Exit → St → Prop} {rest : St → Prop} {x : Operand} {t t' : TypeId} (u : Value) (b : Bool) (op : BinOp) (hop : op = .eql ∧ b = (match u with | .nilIface => true | _ => false) ∨ op = .neq ∧ b = (match u with | .nilIface => false | _ => true))
    (ho : o.op = .binOp op t x (.const .nilIface) t') (hx : ev s x = .v u) (hif : u = .nilIface ∨ ∃ tt z, u = .iface tt z) (hu : isIf P t = true) (hc : chk G.n o.dst)
    (h : rest (putD s o.dst (.v (.bool b)))) : SemStep P G o s Q rest := by
  intro a w hs
  refine wpIn_of_wp (fun c hc => by rw [ho] at hc; cases hc) ?_
  refine stepOK_val (chk_spec hc) (fun a w E hE => ?_) a w hs _ _ fun a' w' hs' => ⟨_, h, hs'⟩
  have hv := R.v_inv (ev_E hE hx)
  obtain ⟨m, hm⟩ := isIf_inv hu
  have e1 : a.eval (.const .nilIface) = .nilIface := rfl
  have h2 : (Op.equal t u .nilIface).run P w = .ok (match u with | .nilIface => true | _ => false) w := equal_of fun d => by rcases hif with rfl | ⟨tt, z, rfl⟩ <;> simp [Op.equalIn, run_under P w hm]
  refine ⟨.bool b, ?_, .r0 _ _ (.v _)⟩
  rcases hop with ⟨rfl, hb⟩ | ⟨rfl, hb⟩ <;> rcases hif with rfl | ⟨tt, z, rfl⟩ <;> subst hb
  · have h1 : (eqGuard .eql t x (.const .nilIface) .nilIface .nilIface).run P w = .ok () w := by unfold eqGuard; simp
    have h3 : binOp .eql t .nilIface .nilIface = (do pure (.bool (← Op.equal t .nilIface .nilIface))) := rfl
    simp [execOp, ho, hv, e1, h1, h2, h3]
  · have h1 : (eqGuard .eql t x (.const .nilIface) (.iface tt z) .nilIface).run P w = .ok () w := by unfold eqGuard; simp
    have h3 : binOp .eql t (.iface tt z) .nilIface = (do pure (.bool (← Op.equal t (.iface tt z) .nilIface))) := rfl
    simp [execOp, ho, hv, e1, h1, h2, h3]
  · have h1 : (eqGuard .neq t x (.const .nilIface) .nilIface .nilIface).run P w = .ok () w := by unfold eqGuard; simp
    have h3 : binOp .neq t .nilIface .nilIface = (do pure (.bool (!(← Op.equal t .nilIface .nilIface)))) := rfl
    simp [execOp, ho, hv, e1, h1, h2, h3]
  · have h1 : (eqGuard .neq t x (.const .nilIface) (.iface tt z) .nilIface).run P w = .ok () w := by unfold eqGuard; simp
    have h3 : binOp .neq t (.iface tt z) .nilIface = (do pure (.bool (!(← Op.equal t (.iface tt z) .nilIface)))) := rfl
    simp [execOp, ho, hv, e1, h1, h2, h3]
end Pm
open Go
namespace Pm
theorem newN_congr {s s' : St} {h : List (Nat × OB)} {N : Nat → Bool} (e : ∀ id, N id = true → s'.hp id = s.hp id ∧ s'.us id = s.us id) : ∀ {ν : List (Nat × Nat)}, (tgt ν).all N = true → newN s h ν → newN s' h ν
  | [], _, _ => trivial
  | (i, j) :: r, hh, ⟨h1, h2, h3, h4⟩ => by
    have h' : N j = true ∧ (tgt r).all N = true := by simpa [tgt, List.all_cons] using hh
    exact ⟨h1, (e j h'.1).2.trans h2, h3, newN_congr e h'.2 h4⟩
theorem YI.code {P : Program} {G : Gh} {l lam : Nat} {L : Loop} {fl : List (Nat × V)} {ps : List Nat} {mv : List (Nat × Nat)} {asg body body' : Code} {n : Nat} (h : YI P G l lam L fl ps mv asg body n) (e : body = body') : YI P G l lam L fl ps mv asg body' n := e ▸ h
end Pm
open Go Go.RowKit Go.ChangeShapes Go.WideShapes Go.ChangeAt
namespace Pm
theorem law_laid {C : Checked} {f : FuncId} {fn : Func} {s : ChangeSpec} {ts : List TypeId} {tb : TypeId} {α : Type} {g : α → List V} {p : α → Prop} {apart fresh handsOn again : Bool} {laid : List (String × DataW Unit)}
    (hglob : ∀ W : World, W.ShapedOpen C.prog → laidMetH C.prog laid W → GlobOK W (fun _ => False))
    (hfn : C.prog.funcs[f]? = some fn) (hts : fn.params.toList = ts) (hres : fn.resultTypes = #[tb]) (htb : C.prog.underlying tb = some .bool) (hsv : s.vars = [])
    (own : ownKnob C.prog.godebug = none) (noInit : C.prog.inits.idxOf? f = none) (hl : laidOutB C.prog = true) (hread : ∀ t ∈ ts, C.prog.readableRec t = true ∧ t < C.prog.types.size)
    (hsp : ∀ (H : Type) (ds : List (DataW H)), ds.length = ts.length → (s.fn H ds).results = [.lit (.bool true)] ∧ (s.fn H ds).args = ds ∧ (s.fn H ds).vars = [])
    (hargs : RdA C.prog ts g p) (hlaw : ∀ x, p x → Gives C.prog f (g x) (fun _ => .v (.bool true)))
    (os : Os) (started : os.Started) (H : Type) (enc : TypeId × Value → H)
    (witness : ∃ (w : World) (tape : Tape) (i : Input), w.os = os ∧ (w.forCall tape i).Shaped C.prog ∧ i.vars = [] ∧ Input.okWide C.prog (w.forCall tape i) .any w.heap.size f i ∧
      ((s.pre enc C.prog fn [] apart (w.forCall tape i).memory i.args ∧ laidMetH C.prog laid (w.forCall tape i).memory) ∧ sizedMet enc C.prog fn (OpenSpec.ofChange s) apart (w.forCall tape i).memory i.args) ∧ ({} : Assume).holds C.prog (lone (Frame.enter C.prog f i.args .normal) [] (w.forCall tape i))) :
    ReturnsInHanded {} C os f .any (fun w args => (s.pre enc C.prog fn [] apart w args ∧ laidMetH C.prog laid w) ∧ sizedMet enc C.prog fn (OpenSpec.ofChange s) apart w args) (s.post enc C.prog fn apart fresh handsOn again) := by
  refine returnsInHanded_of_calls own started noInit witness ?_
  intro w tape i _ hshape _ hok hpre hholds
  obtain ⟨_, _, _, fn', hfn', _, _, _, _, hval⟩ := hok
  have e : fn' = fn := Option.some.inj (hfn'.symm.trans hfn)
  subst e
  obtain ⟨⟨⟨ds, gs, before, hw, _⟩, hx⟩, hz⟩ := hpre
  have hW := DataW.Whole.of_heap (w' := w.forCall tape i) (by rfl) hw
  have hsz : (DataW.weightsEach C.prog (fn'.params.toList ++ s.plain.varTypes C.prog) (ds ++ gs)).all (· ≤ reachBytes) = true := hz.weights hw
  have hgl := hglob _ hshape (hx.of_heap (by rfl))
  have main : Calls C.prog f i.args (w.forCall tape i) fun e W' => ∃ v, e = .returned v ∧ s.post enc C.prog fn' apart fresh handsOn again (w.forCall tape i) i.args v W' := by
    generalize (w.forCall tape i) = W at hW hgl hval
    generalize i.args = args at hW hval
    have hW' := hW
    obtain ⟨pp, q, hA, hV, rfl, hfz, _⟩ := hW
    rw [hsv] at hV
    have hV' : gs = [] ∧ q = [] := by
      cases gs with
      | nil => exact ⟨rfl, hV⟩
      | cons => exact hV.elim
    obtain ⟨rfl, rfl⟩ := hV'
    rw [hts] at hA
    have hlen : ds.length = ts.length := by
      clear hfz hW' hV
      have : ∀ {ts : List TypeId} {vs : List Value} {ds : List (DataW H)} {ps : List MemPlace}, DataW.TrodAll enc C.prog W 0 (fun _ => true) true ts vs ds ps → ds.length = ts.length := by
        intro ts
        induction ts with
        | nil => intro vs ds ps h; obtain ⟨_, rfl, _⟩ := trodAll_nil h; rfl
        | cons t ts ih => intro vs ds ps h; obtain ⟨_, _, _, _, _, _, _, rfl, _, _, g2⟩ := trodAll_cons h; simp [ih g2]
      exact this hA
    have hvt : s.plain.varTypes C.prog = [] := by simp [ChangeSpec.plain, DataSpec.varTypes, hsv]
    rw [hvt, hts, List.append_nil, List.append_nil] at hsz
    obtain ⟨x, hp, hx⟩ := hargs H enc W w.heap.size args.toList ds pp (fun j t v h1 h2 => hval j t v (by rw [← hts] at h1; simpa using h1) (by simpa using h2)) hA (fun n hn => by have := List.all_eq_true.1 hsz n hn; have h2 := reachBytes_lt; simp at this; omega) (fun b off h => hfz b off (by simp [h]))
    obtain ⟨_, hcall⟩ := hlaw x hp
    refine (hcall 0 W (fun _ => False) args (Nat.zero_le _) ⟨fun _ h => h.elim, hgl⟩ ⟨by simpa using hx.1, fun j u y h1 h2 => hx.2 j u y h1 (by simpa using h2)⟩).mono fun e W' ⟨y, he, hr, hb⟩ => ?_
    have hy : y = .bool true := by cases hr; rfl
    subst hy
    obtain ⟨e1, e2, e3⟩ := hsp H ds hlen
    have hlt : ∀ p ∈ pp, p.block < W.heap.size := fun p hp => hW'.lt p (by simp [hp])
    refine ⟨_, he, post_below (pa := pp) (pv := []) hW' (fun b sp hd => ?_) (fun sp hsp' => ?_) (fun _ _ => ?_) rfl hb ?_⟩
    · rw [List.append_nil, e1, hres]
      exact trodAll_mk1 (shut_bool htb true)
    · rw [List.append_nil, e2, hts]
      exact trodAll_stays hl hread hA (fun p hp => hb.same (hlt p hp)) (fun p hp => hsp' p (by simp [hp]))
    · rw [List.append_nil, e3, hsv]
      exact rfl
    · intro j t r h1 h2
      rw [hres] at h1 h2
      cases j with
      | zero =>
        simp at h1
        subst h1
        simp [Value.resultList] at h2
        subst h2
        exact okWide_bool_mk htb true
      | succ j => simp at h1
  refine main.mono fun e W' ⟨v, he, hp⟩ => ?_
  subst he
  exact ChangeSpec.post_blind hp
theorem glob_fp {P : Program} {W : World} {g : Nat} {n : String} {cs : Array Value} {z : Array Value} {t0 : TypeId} {l : List V} (hs : W.ShapedOpen P) (hg : g < P.globals.size) (h0 : (((begin P (fun _ _ => 0) default).world.heap[g]?).bind Obj.row?) = some (z, t0))
    (hn : P.globalNamed n = some g) (hv : W.var? P n = some cs) (hl : l.length ≤ cs.size) (hr : ∀ (j : Nat) (u : V) (y : Value), l[j]? = some u → cs[j]? = some y → R0 W (fun _ => False) u y) :
    R0 W (fun _ => False) (.fp l) (.pointer (some ⟨g, 0, none⟩)) := by
  obtain ⟨xs, hx, _⟩ := hs.1 g z t0 hg h0
  have hc : ∀ j, j < cs.size → W.cell? ⟨g, 0 + j, none⟩ = some (cs.getD j undef) := fun j hj => by
    have := World.var?_cell hn hv j
    rw [Nat.zero_add, this]
    simp [hj]
  refine .fp l g 0 (fun j => cs.getD j undef) (fun h => h) (by have := (List.getElem?_eq_some_iff.1 (show W.heap.toList[g]? = some (.cells xs t0) by simpa using hx)).1; simpa using this) (fun j u h => cellA_of_row hx (hc j ?_)) (fun j u h => ?_)
  · have := (List.getElem?_eq_some_iff.1 h).1; omega
  · have hj : j < cs.size := by have := (List.getElem?_eq_some_iff.1 h).1; omega
    exact hr j u _ h (by simp [hj])
end Pm
open Go Go.RowKit Go.ChangeShapes Go.WideShapes Go.ChangeAt
namespace Pm
theorem laidVars_mem {P : Program} {w : World} {n : String} {d : DataW Unit} : ∀ {l : List (String × DataW Unit)} {ps : List MemPlace}, DataW.LaidVars P w l ps → (n, d) ∈ l →
    ∃ g t cs fuel p, P.globalNamed n = some g ∧ (P.globals[g]?).map (·.type) = some t ∧ w.var? P n = some cs ∧ DataW.trod (fun _ => ()) P w 0 (fun _ => true) false fuel t cs.toList = some (d, p)
  | [], ps, h, hm => by cases hm
  | (n', d') :: r, ps, h, hm => by
    obtain ⟨g, t, cs, fuel, p, q, h1, h2, h3, h4, h5, _⟩ := h
    rcases List.mem_cons.1 hm with e | hm
    · cases e
      exact ⟨g, t, cs, fuel, p, h1, h2, h3, h4⟩
    · exact laidVars_mem h5 hm
theorem laid_var {P : Program} {w : World} {l : List (String × DataW Unit)} {n : String} {d : DataW Unit} (h : laidMetH P l w) (hm : (n, d) ∈ l) (hn : d.handleName?.isNone = true) :
    ∃ g t cs fuel p, P.globalNamed n = some g ∧ (P.globals[g]?).map (·.type) = some t ∧ w.var? P n = some cs ∧ DataW.trod (fun _ => ()) P w 0 (fun _ => true) false fuel t cs.toList = some (d, p) := by
  obtain ⟨⟨ps, h1, _⟩, _⟩ := laidMetH_iff.1 h
  exact laidVars_mem h1 (List.mem_filter.2 ⟨hm, hn⟩)
section
variable {H : Type} {enc : TypeId × Value → H} {P : Program} {w : World} {base : Nat} {spare : Nat → Bool} {held : Bool} {fuel : Nat} {t : TypeId} {cs : List Value} {x : DataW H × List MemPlace}
theorem arr_one {n : Nat} {e : TypeId} (ht : P.underlying t = some (.array n e)) (hc : P.cellsOf e = 1) (hct : P.cellsOf t = n) (h : DataW.trod enc P w base spare held fuel t cs = some x) :
    ∃ (xs : List (DataW H × List MemPlace)) (m : Nat), x.1 = .agg (xs.map (·.1)) ∧ cs.length = n ∧ xs.length = n ∧ ∀ (i : Nat) (v : Value), cs[i]? = some v → ∃ y, xs[i]? = some y ∧ DataW.trod enc P w base spare held m e [v] = some y := by
  obtain ⟨xs, m, _, rfl, hl, hn, hel⟩ := DataW.trod_array ht h
  rw [hct] at hl
  refine ⟨xs, m, rfl, hl, hn, fun i v hi => ?_⟩
  obtain ⟨hlt, hv⟩ := List.getElem?_eq_some_iff.1 hi
  have := hel i (by omega)
  rw [hc, Nat.mul_one, List.drop_eq_getElem_cons hlt, List.take_succ_cons, List.take_zero, hv] at this
  rw [List.getElem?_eq_getElem (by omega)] at this ⊢
  exact ⟨_, rfl, this⟩
theorem arr_cells {n : Nat} {e : TypeId} {α : Type} {f : α → Value} {g : α → DataW H} {zs : List α} (ht : P.underlying t = some (.array n e)) (hc : P.cellsOf e = 1) (hct : P.cellsOf t = n) (h : DataW.trod enc P w base spare held fuel t cs = some x)
    (hx : x.1 = .agg (zs.map g)) (hinv : ∀ m v y a, DataW.trod enc P w base spare held m e [v] = some y → y.1 = g a → v = f a) : cs = zs.map f := by
  obtain ⟨xs, m, e1, hl, hn, hel⟩ := arr_one ht hc hct h
  rw [e1] at hx
  injection hx with hx
  refine List.ext_getElem? fun i => ?_
  have hq := congrArg (fun l : List (DataW H) => l[i]?) hx
  simp only [List.getElem?_map] at hq ⊢
  cases hi : cs[i]? with
  | none =>
    have h1 : n ≤ i := by have := List.getElem?_eq_none_iff.1 hi; omega
    rw [List.getElem?_eq_none (by omega : xs.length ≤ i)] at hq
    cases hz : zs[i]? with
    | none => rfl
    | some a => rw [hz] at hq; cases hq
  | some v =>
    obtain ⟨y, hy, hv⟩ := hel i v hi
    rw [hy] at hq
    cases hz : zs[i]? with
    | none => rw [hz] at hq; cases hq
    | some a =>
      rw [hz] at hq
      simp only [Option.map_some, Option.some.injEq] at hq ⊢
      exact hinv m v y a hv hq
theorem arr_ints {n : Nat} {e : TypeId} {k : IntKind} {zs : List Int} (ht : P.underlying t = some (.array n e)) (he : P.underlying e = some (.int k)) (hc : P.cellsOf e = 1) (hct : P.cellsOf t = n) (h : DataW.trod enc P w base spare held fuel t cs = some x)
    (hx : x.1 = .agg (zs.map fun z => .lit (.int k z))) : cs = zs.map (Value.int k) :=
  arr_cells ht hc hct h hx fun m v y a hv hy => by
    obtain ⟨n', e1, e2, _⟩ := DataW.trod_int he hv
    rw [e2] at hy
    simp only [DataW.lit.injEq, Lit.int.injEq, true_and] at hy
    simp only [List.cons.injEq, and_true] at e1
    rw [e1, hy]
theorem arr_strs {n : Nat} {e : TypeId} {zs : List ByteArray} (ht : P.underlying t = some (.array n e)) (he : P.underlying e = some .string) (hc : P.cellsOf e = 1) (hct : P.cellsOf t = n) (h : DataW.trod enc P w base spare held fuel t cs = some x)
    (hx : x.1 = .agg (zs.map fun z => .lit (.string z.data.toList))) : cs = zs.map Value.string :=
  arr_cells ht hc hct h hx fun m v y a hv hy => by
    obtain ⟨s, e1, e2, _⟩ := DataW.trod_string he hv
    rw [e2] at hy
    simp only [DataW.lit.injEq, Lit.string.injEq] at hy
    simp only [List.cons.injEq, and_true] at e1
    have hd : s.data = a.data := Array.toList_inj.1 hy
    obtain ⟨ds⟩ := s
    obtain ⟨da⟩ := a
    simp only at hd
    rw [e1, hd]
end
theorem glob_kn {P : Program} {W : World} {g : Nat} {n : String} {cs : Array Value} {z : Array Value} {t0 : TypeId} {φ : Array Value → Prop} (hs : W.ShapedOpen P) (hg : g < P.globals.size) (h0 : (((begin P (fun _ _ => 0) default).world.heap[g]?).bind Obj.row?) = some (z, t0))
    (hn : P.globalNamed n = some g) (hv : W.var? P n = some cs) (hl : 1 ≤ cs.size) (hφ : φ cs) : KnAt W (fun _ => False) g φ := by
  refine ⟨glob_fp hs hg h0 hn hv (by simpa using hl) (fun j u y h1 _ => ?_), ?_⟩
  · cases j with
    | zero => simp at h1; subst h1; exact .any _
    | succ j => simp at h1
  · obtain ⟨xs, hx, _⟩ := hs.1 g z t0 hg h0
    have hx' := hx
    simp only [World.var?, hn, Option.bind_some] at hv
    rw [hx'] at hv
    simp only [Option.some.injEq] at hv
    subst hv
    exact ⟨_, _, _, hx, hφ⟩
theorem glob_int {P : Program} {W : World} {g : Nat} {n : String} {z : Array Value} {t0 : TypeId} (hs : W.ShapedOpen P) (hg : g < P.globals.size) (h0 : (((begin P (fun _ _ => 0) default).world.heap[g]?).bind Obj.row?) = some (z, t0))
    (hn : P.globalNamed n = some g) (hz : z.size = 1) (hb : P.buildable t0 = true) (hct : P.cellTypes P.depth t0 = some [t0]) (ht : P.underlying t0 = some (.int .i64)) : KnAt W (fun _ => False) g isInt := by
  obtain ⟨xs, hx, hsz, hr⟩ := hs.1 g z t0 hg h0
  obtain ⟨ts, h1, h2, h3⟩ := hr hb
  rw [hct] at h1
  cases h1
  have hv : W.var? P n = some xs := by
    simp only [World.var?, hn, Option.bind_some]
    rw [hx]
  refine glob_kn hs hg h0 hn hv (by omega) ?_
  obtain ⟨u, e1, e2⟩ := h3 0 (xs[0]'(by omega)) (by rw [Array.getElem?_eq_getElem])
  simp at e1
  subst e1
  unfold Cell.ok at e2
  rw [ht] at e2
  cases hc : xs[0]'(by omega) <;> rw [hc] at e2 <;> simp only at e2
  rename_i k' n'
  obtain ⟨rfl, _⟩ := e2
  exact ⟨_, by rw [Array.getElem?_eq_getElem (by omega), hc]⟩
end Pm
open Go Go.RowKit
namespace Pm
theorem semL_blk {P : Program} {G : Gh} {i : Nat} {c : Code} {r : List Code} {s : St} {Q : Exit → St → Prop} (h : SemL P G (flat c) s (kblk i (kseq (fun s _ => SemL P G r s Q) Q))) : SemL P G (.block i c :: r) s Q := by
  intro a w hs
  have := (SemL.semC h) a w hs
  refine wpIn_block (wpIn_mono this ?_)
  rintro e a' w' ⟨s', hq, hs'⟩
  cases e with
  | normal => exact hq a' w' hs'
  | exit j =>
    by_cases e : j = i
    · subst e
      simp only [kblk, if_true, kseq] at hq
      simp only [Exit.inBlock, if_true, Exit.then]
      exact hq a' w' hs'
    · simp only [kblk, if_neg e, kseq] at hq
      simp only [Exit.inBlock, if_neg e, Exit.then]
      exact ⟨s', hq, hs'⟩
  | _ => exact ⟨s', hq, hs'⟩
theorem semL_code {P : Program} {G : Gh} {l l' : List Code} {s : St} {Q : Exit → St → Prop} (e : l = l') (h : SemL P G l' s Q) : SemL P G l s Q := e ▸ h
theorem wpL_mid {F : Fence} {P : Program} {Q M : Exit → Act → World → Prop} (hn : ∀ e a w, e ≠ .normal → M e a w → Q e a w) : ∀ (n : Nat) (l : List Code) {a : Act} {w : World}, wpL F P M (l.take n) a w →
    (∀ a w, M .normal a w → wpL F P Q (l.drop n) a w) → wpL F P Q l a w
  | 0, l, a, w, h, hd => hd a w h
  | n + 1, [], a, w, h, hd => hd a w h
  | n + 1, c :: r, a, w, h, hd => by
    refine wpIn_mono h ?_
    intro e a' w' h'
    cases e with
    | normal => exact wpL_mid hn n r h' hd
    | _ => exact hn _ _ _ (by intro h; cases h) h'
theorem semL_midN {P : Program} {G : Gh} {l : List Code} {s : St} {Q : Exit → St → Prop} {α : Type} (n : Nat) (F : α → St) (I : α → Prop) (h1 : SemL P G (l.take n) s (midQ G F I Q)) (h2 : ∀ x, I x → SemL P G (l.drop n) (F x) Q) : SemL P G l s Q := by
  intro a w hs
  refine wpL_mid (M := lift G (midQ G F I Q)) ?_ n l (h1 a w hs) ?_
  · rintro e a w hne ⟨s', hq, hs'⟩
    cases e with
    | normal => exact absurd rfl hne
    | _ => exact ⟨s', hq, hs'⟩
  · rintro a w ⟨s', ⟨x, hI, he⟩, hs'⟩
    exact h2 x hI a w (he _ _ hs')
end Pm
open Go Go.RowKit
namespace Pm
inductive NewV (n : Nat) : V → Prop
  | any : NewV n .any
  | v (x : Value) : NewV n (.v x)
  | lst (lo sz : Nat) (l : List (List V)) (h : l = [] ∨ n ≤ lo) (hr : ∀ r ∈ l, ∀ u ∈ r, NewV n u) : NewV n (.lst lo sz l)
  | agg (cs : List V) (hr : ∀ u ∈ cs, NewV n u) : NewV n (.agg cs)
  | tup (cs : List V) (hr : ∀ u ∈ cs, NewV n u) : NewV n (.tup cs)
  | fn (f : Fn) (cs : List V) (hr : ∀ u ∈ cs, NewV n u) : NewV n (.fn f cs)
theorem NewV.R0 {n : Nat} {x : V} {y : Value} {w : World} {O O' : Nat → Prop} (hx : NewV n x) (hO : ∀ b, n ≤ b → O b → O' b) (h : R0 w O' x y) : R0 w O x y := by
  induction h with
  | any y => exact .any y
  | v x => exact .v x
  | lst lo sz l a k cap b o g hlo hn hc hl ha hs hz hr ih =>
    cases hx with
    | lst _ _ _ h1 h2 =>
      refine .lst lo sz l a k cap b o g hlo hn hc hl (fun hne => ?_) hs hz fun i x j u e1 e2 => ih i x j u e1 e2 (h2 x (List.mem_of_getElem? e1) u (List.mem_of_getElem? e2))
      obtain ⟨q1, q2, q3⟩ := ha hne
      refine ⟨q1, fun hb => q2 (hO b ?_ hb), q3⟩
      have := hlo hne
      rcases h1 with h1 | h1
      · exact absurd h1 hne
      · omega
  | fp cs b o g h1 hb hs hr ih => cases hx
  | agg cs ys hn hr ih =>
    cases hx with
    | agg _ h2 => exact .agg cs ys hn fun j u y e1 e2 => ih j u y e1 e2 (h2 u (List.mem_of_getElem? e1))
  | tup cs ys hn hr ih =>
    cases hx with
    | tup _ h2 => exact .tup cs ys hn fun j u y e1 e2 => ih j u y e1 e2 (h2 u (List.mem_of_getElem? e1))
  | fn f cap ys hn hr ih =>
    cases hx with
    | fn _ _ h2 => exact .fn f cap ys hn fun j u y e1 e2 => ih j u y e1 e2 (h2 u (List.mem_of_getElem? e1))
structure NewR (r : Nat → V) : Prop where
  new : ∀ n, NewV n (r n)
  mono : ∀ n n', n' ≤ n → Sub (r n) (r n')
theorem call_lend {P : Program} {G : Gh} {o : Oper} {s : St} {Q : Exit → St → Prop} {rest : St → Prop} {k : FuncId} {cap as as' : List V} {r : Nat → V} (p : Nat → Bool) (hp : Gives P k as' r) (hr : NewR r)
    (hs : Subs ((as ++ cap).map (vwF p G.lo s 4)) as') (hpure : allP ((as ++ cap).map (vwF p G.lo s 4)) = true)
    (hc : chk G.n o.dst) (h : rest (putD s o.dst (r G.lo))) : SemCall P G o s Q rest (.fn (.func k) cap) as := by
  rintro x l ts ho hx rfl a w ⟨E, hE⟩
  obtain ⟨ys, hy, hsz, hry⟩ := R.fn_inv (ev_E hE hx.symm)
  obtain ⟨hlen, hsub⟩ := hs.spec
  obtain ⟨O', hO'⟩ : ∃ O' : Nat → Prop, O' = fun b => OT G s E b ∧ ¬ ∃ id ob x, p id = true ∧ s.hp id = some ob ∧ E id = some (some b, x) := ⟨_, rfl⟩
  have hsubO : ∀ b, O' b → OT G s E b := fun b hb => by rw [hO'] at hb; exact hb.1
  have hO1 : ∀ b, ¬ OT G s E b → b < w.heap.size → ¬ O' b := fun b hb _ h => hb (hsubO b h)
  have hp1 : ∀ id ob b x, p id = true → s.hp id = some ob → E id = some (some b, x) → ¬ O' b := fun id ob b x h1 h2 h3 h => by
    rw [hO'] at h; exact h.2 ⟨id, ob, x, h1, h2, h3⟩
  have hok := OT_ok hE
  have hokO : OKO w O' := ⟨fun b hb => hok.lt b (hsubO b hb), hok.gl.weak hsubO⟩
  refine wp_call ho hp.1 hy (hp.2 w.heap.size w O' _ (Nat.le_refl _) hokO ⟨?_, fun j u y h1 h2 => ?_⟩) ?_
  · simp at hlen ⊢; omega
  · obtain ⟨u0, h3, h4⟩ := hsub j u h1
    refine h4 _ _ _ ?_
    have hp0 := allP_spec hpure j u0 h3
    rw [List.getElem?_map] at h3
    by_cases hj : j < l.length
    · rw [List.getElem?_append_left (by simpa using hj)] at h3
      rw [Array.getElem?_append_left (by simpa using hj)] at h2
      simp only [List.getElem?_map, Option.map_eq_some_iff] at h3
      obtain ⟨z0, ⟨z, hz, rfl⟩, rfl⟩ := h3
      simp [hz] at h2
      subst h2
      exact (vwF_R hE hO1 hp1 4 (ev_R hE z)).pureV hp0
    · rw [List.getElem?_append_right (by simpa using hj)] at h3
      rw [Array.getElem?_append_right (by simpa using hj)] at h2
      simp at h3 h2
      obtain ⟨z0, hz0, rfl⟩ := h3
      exact (vwF_R hE hO1 hp1 4 (hry _ _ _ hz0 h2)).pureV hp0
  · rintro e w' ⟨y, rfl, hyy, hb⟩
    refine ⟨y, rfl, _, h, E, (hE.below hb).put (chk_spec hc) (.r0 _ _ ?_)⟩
    refine hr.mono _ _ (Nat.le_trans G.hlo hE.grow) _ _ _ ((hr.new _).R0 (O := OT G s E) (fun b hbn hbO => ?_) hyy)
    exact absurd (hok.lt b hbO) (by omega)
theorem newR_v (x : Value) : NewR (fun _ => .v x) := ⟨fun _ => .v x, fun _ _ _ => Sub.refl _⟩
end Pm
open Go Go.RowKit
namespace Pm
end Pm
end Go.Proofs.YtphadkcpgnkpfaaGreatDoor
