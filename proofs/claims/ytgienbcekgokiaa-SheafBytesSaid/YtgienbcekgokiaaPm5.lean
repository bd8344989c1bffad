/- A region's operations in the order of the text, and code, as one formula; loops. No program in sight. -/
import Derived.Test.YtgienbcekgokiaaPm9d
import Derived.Deep.LoopGhost
import Derived.RangeFuncLeaves
import Derived.RangeFuncRecord
import Derived.OrdersIn
import Derived.TacticsInMore
namespace Go.Proofs.Ytgienbcekgokiaa
open Go
set_option linter.unusedSimpArgs false
set_option linter.unusedVariables false
namespace Pm

/-! append -/
def arrV (s : St) (el sz : Nat) : V → Option (List (List V) × Option Nat × Prop)
  | .own id off len sz' => match s.hget id with
    | some (.arr el' sz'' l) => some (l, some id, off = 0 ∧ len = l.length ∧ sz' = sz ∧ sz'' = sz ∧ el' = el)
    | _ => none
  | .v (.slice none 0 0) => some ([], none, True)
  | _ => none
def srcV (s : St) (sz : Nat) : V → Option (List (List V) × Prop)
  | .lst _ sz' l => some (l, sz' = sz)
  | .own id off len sz' => match s.hget id with
    | some (.arr _ sz'' l) => some ((l.drop off).take len, sz' = sz ∧ sz'' = sz)
    | _ => none
  | .v (.slice none 0 0) => some ([], True)
  | _ => none
def aprEff (own : Bool) (lo d el sz : Nat) (l new : List (List V)) (io : Option Nat) : V × List (Nat × Option OB) := match own with
  | true => (.own d 0 (l.length + new.length) sz, dropL io ++ [(d, some (.arr el sz (l ++ new)))])
  | false => (.lst lo sz (l ++ new), dropL io ++ [(d, some (.arr el sz (l ++ new))), (d, none)])
def aprGo (P : Program) (own : Bool) (lo : Nat) (s : St) (d t t' el sz : Nat) : Option (List (List V) × Option Nat × Prop) → Option (List (List V) × Prop) → Res
  | some (l, io, C1), some (new, C2) => .heap (C1 ∧ C2 ∧ t' = t ∧ s.used d = false ∧ 0 < sz ∧ (zeroK P el).map List.length = some sz ∧ (bytesK P el).isSome = true ∧ allOnes new = true ∧ (l.length + new.length) * (bytesK P el).getD 0 ≤ 140737488355328 ∧ l.length + new.length ≤ 140737488355328)
      fun _ => aprEff own lo d el sz l new io
  | _, _ => .stuck
def aprRes (P : Program) (own : Bool) (lo : Nat) (s : St) (t t' : TypeId) (x y : V) : Option Nat → Option (TypeId × Nat) → Res
  | some d, some (el, sz) => aprGo P own lo s d t t' el sz (arrV s el sz x) (srcV s sz y)
  | _, _ => .stuck
theorem arrV_spec {s : St} {el sz : Nat} {x : V} {l : List (List V)} {io : Option Nat} {C : Prop} (h : arrV s el sz x = some (l, io, C)) (hC : C) : IsArr s el sz x l io := by
  unfold arrV at h
  split at h
  · split at h
    · rename_i h'
      simp only [Option.some.injEq, Prod.mk.injEq] at h
      obtain ⟨rfl, rfl, rfl⟩ := h
      obtain ⟨rfl, rfl, rfl, rfl, rfl⟩ := hC
      exact .own _ _ h'
    · cases h
  · simp only [Option.some.injEq, Prod.mk.injEq] at h
    obtain ⟨rfl, rfl, rfl⟩ := h
    exact .nil
  · cases h
theorem srcV_spec {s : St} {sz : Nat} {y : V} {l : List (List V)} {C : Prop} (h : srcV s sz y = some (l, C)) (hC : C) : IsSrc s sz y l := by
  unfold srcV at h
  split at h
  · simp only [Option.some.injEq, Prod.mk.injEq] at h
    obtain ⟨rfl, rfl⟩ := h
    subst hC
    exact .lst _ _
  · split at h
    · rename_i h'
      simp only [Option.some.injEq, Prod.mk.injEq] at h
      obtain ⟨rfl, rfl⟩ := h
      obtain ⟨rfl, rfl⟩ := hC
      exact .own _ _ _ _ _ h'
    · cases h
  · simp only [Option.some.injEq, Prod.mk.injEq] at h
    obtain ⟨rfl, rfl⟩ := h
    exact .nil
  · cases h
theorem apr_ok (P : Program) (G : Gh) (own : Bool) (s : St) (o : Oper) (hd : ∀ d, o.dst = some d → d < G.n) (x y : Operand) (t t' : TypeId) (ho : o.op = .call ⟨.builtin .append, ⟨[x, y]⟩, ⟨[t, t']⟩⟩) :
    ResOK P G s o (aprRes P own G.lo s t t' (ev s x) (ev s y) o.dst (sliceElem P t)) := by
  unfold aprRes
  split
  · rename_i d el sz hd' hse
    unfold aprGo
    split
    · rename_i l io C1 new C2 h1 h2
      rintro ⟨g1, g2, rfl, g3, g4, g5, g6, g7, g8, g9⟩
      obtain ⟨bytes, hby⟩ := Option.isSome_iff_exists.1 g6
      rw [hby] at g8
      have := append_step (own := own) ho rfl rfl hd g3 (arrV_spec h1 g1) (srcV_spec h2 g2) hse g5 hby g4 g7 g8 g9
      unfold aprEff
      cases own <;> exact this
    · trivial
  · trivial

/-- an array that nobody writes any more, as a slice -/
def slaRes : Option (Nat × Nat) → V → Option V → Option V → Res → Res
  | some (n, 1), .fp cs, none, none, _ => .go (cs.length = n ∧ 0 < n ∧ n ≤ 1000) fun _ => .lst 0 1 (cs.map fun c => [c])
  | _, _, _, _, r => r
theorem sla_ok (P : Program) (G : Gh) (s : St) (o : Oper) (hd : ∀ d, o.dst = some d → d < G.n) (t : TypeId) (x : Operand) (lo hi : Option Operand) (r : Res) (ho : o.op = .slice t x lo hi none) (h : ResOK P G s o r) :
    ResOK P G s o (slaRes (arrElem P t) (ev s x) (lo.map (ev s)) (hi.map (ev s)) r) := by
  unfold slaRes
  split
  · rename_i n cs hae hx hlo hhi
    rintro ⟨h1, h2, h3⟩
    refine stepOK_val hd fun a w E hs => ?_
    obtain ⟨e, hu, inf, hinf, hsz⟩ := arrElem_inv hae
    obtain ⟨b, of', g, hy, hO, hb, hcell, hr⟩ := R.fp_inv (ev_E hs hx)
    obtain rfl : lo = none := by cases lo <;> simp_all
    obtain rfl : hi = none := by cases hi <;> simp_all
    have hbd := bounds_run (P := P) (w := w) false n n none none 0 n (.inl ⟨rfl, rfl⟩) (.inl ⟨rfl, rfl⟩) (by omega) (by omega) (by omega)
    have e0 : ((0 : Int)).toNat = 0 := rfl
    have en : ((n : Int)).toNat = n := Int.toNat_natCast n
    rw [e0, en] at hbd
    refine ⟨.slice (some ⟨b, of', none⟩) n n, ?_, .r0 _ _ (.lst 0 1 _ _ _ _ b of' (fun i _ => g i) (fun _ => Nat.zero_le _) (by simp [h1]) (by simp [h1]) (by simp; omega) (fun _ => ⟨rfl, hO, hb⟩) (fun i x j u h5 h6 => ?_) (fun x hx => ?_) (fun i x j u h5 h6 => ?_))⟩
    · have : ¬ n = 0 := by omega
      simp [execOp, ho, Instr.sliceAt, run_under P w hu, run_size P w hinf, hsz, hy, hbd, Instr.sureAddr, this, add_none]
    · simp only [List.getElem?_map, Option.map_eq_some_iff] at h5
      obtain ⟨c, h7, rfl⟩ := h5
      have hj : j = 0 := by
        rcases j with _ | j
        · rfl
        · simp at h6
      subst hj
      simp at h6
      subst h6
      simpa using hcell i c h7
    · simp at hx; obtain ⟨c, _, rfl⟩ := hx; rfl
    · simp only [List.getElem?_map, Option.map_eq_some_iff] at h5
      obtain ⟨c, h7, rfl⟩ := h5
      have hj : j = 0 := by
        rcases j with _ | j
        · rfl
        · simp at h6
      subst hj
      simp at h6
      subst h6
      exact hr i c h7
  · exact h
/-- a slice that takes its row over is not told here -/
def slcT : Bool → Res → Res
  | true, _ => .stuck
  | false, r => r
def lstep (P : Program) (ow : Nat → Bool) (lo : Nat) (s : St) (d : Option Nat) : Op → Res
  | .move x => .go True fun _ => ev s x
  | .assign x => .go True fun _ => ev s x
  | .pick c x y => pickRes (ev s c) (ev s x) (ev s y)
  | .nilCheck x => nilRes (ev s x)
  | .load t x => ldoRes s (loadK P t) (ev s x)
  | .fieldAddr t x k => fldaRes (fieldK P t k) (ev s x)
  | .field t x k => fldRes (fieldK P t k) (ev s x)
  | .extract x k => extRes k (ev s x)
  | .call ⟨.builtin .len, ⟨[x]⟩, ⟨[t]⟩⟩ => lenRes (tk P t) (ev s x)
  | .call ⟨.builtin .append, ⟨[x, y]⟩, ⟨[t, t']⟩⟩ => aprRes P (!d.any ow) lo s t t' (ev s x) (ev s y) d (sliceElem P t)
  | .call ⟨.builtin .delete, ⟨[x, y]⟩, ⟨[t, _]⟩⟩ => delRes s (mapK P t) (ev s x) (keyV (ev s y))
  | .call ⟨.builtin b, ⟨[x, y]⟩, ⟨[t, t']⟩⟩ => mmRes b (ev s x) (ev s y)
  | .call ⟨.builtin .cap, ⟨[x]⟩, ⟨[t]⟩⟩ => capRes (tk P t) (ev s x)
  | .indexAddr t x i => ixaRes (sliceElem P t) (arrElem P t) (ev s x) (ev s i)
  | .index t x i => ixgRes (arrLoad P t) (ev s x) (ev s i) (ixRes (tk P t) (ev s x) (ev s i))
  | .makeFunc f ⟨[]⟩ ⟨cap⟩ => mkfRes f (cap.map (ev s))
  | .makeFunc f ⟨b :: bs⟩ ⟨[]⟩ => mkbRes f ((b :: bs).map (ev s))
  | .binOp op t x y _ => aggRes op (flatK P t) (ev s x) (ev s y) (binRes op (tk P t) (ev s x) (ev s y))
  | .unOp op _ x => unRes op (ev s x)
  | .convert t t' x => cvbRes lo (tk P t) (tk P t') (byteEl P t) (byteEl P t') (ev s x)
  | .slice t x l h none => slcT (d.any ow) (slaRes (arrElem P t) (ev s x) (l.map (ev s)) (h.map (ev s)) (slcRes (tk P t) (sliceElem P t) (ev s x) (l.map (ev s)) (h.map (ev s))))
  | .build t ⟨parts⟩ => bldRes (zeroK P t) (placesK P t) (parts.map fun p => (p.1, ev s p.2))
  | .buildSlice t n ⟨parts⟩ => bslRes P (d.any ow || n == 0) lo s n d (sliceElem P t) (parts.map fun p => (p.1, ev s p.2))
  | .box _ x => boxRes s d (cellsV (ev s x))
  | .alloc t => boxRes s d ((zeroA P t).map fun z => z.map .v)
  | .store t p x => match d with
    | none => stRes s (loadK P t) (ev s p) (cellsV (ev s x))
    | some _ => .stuck
  | .lookup t x k ok => lkpRes s (mapK P t) ok (ev s x) (keyV (ev s k))
  | .makeMap t none => mkmRes s d (mapK P t)
  | .mapUpdate t x k v => match d with
    | none => mupRes s (mapK P t) (ev s x) (keyV (ev s k)) (ev s v)
    | some _ => .stuck
  | .call ⟨.value f, ⟨as⟩, _⟩ => .call (ev s f) (as.map (ev s))
  | _ => .stuck

theorem lstep_ok (P : Program) (G : Gh) (ow : Nat → Bool) (s : St) (o : Oper) (hd : ∀ d, o.dst = some d → d < G.n) : ResOK P G s o (lstep P ow G.lo s o.dst o.op) := by
  obtain ⟨dst, op, ty, pos, after, guard⟩ := o
  dsimp only at *
  unfold lstep
  split
  · exact move_ok P G s _ hd _ (.inl rfl)
  · exact move_ok P G s _ hd _ (.inr rfl)
  · exact pick_ok P G s _ hd _ _ _ rfl
  · exact nilCheck_ok P G s _ hd _ rfl
  · exact loadOwn_ok P G s _ hd _ _ rfl
  · exact fieldAddr_ok P G s _ hd _ _ _ rfl
  · exact field_ok P G s _ hd _ _ _ rfl
  · exact extract_ok P G s _ hd _ _ rfl
  · exact len_ok P G s _ hd _ _ rfl
  · exact apr_ok P G _ s _ hd _ _ _ _ rfl
  · exact delete_ok P G s _ hd _ _ _ _ rfl
  · exact mm_ok P G s _ hd _ _ _ _ _ rfl
  · exact cap_ok P G s _ hd _ _ rfl
  · exact ixa_ok P G s _ hd _ _ _ rfl
  · exact ixg_ok P G s _ hd _ _ _ rfl _ (index_ok P G s _ hd _ _ _ rfl)
  · exact makeFunc_ok P G s _ hd _ _ rfl
  · exact makeBound_ok P G s _ hd _ _ rfl
  · exact aggRes_ok hd rfl
  · exact un_ok P G s _ hd _ _ _ rfl
  · exact convert2_ok P G s _ hd _ _ _ rfl
  · unfold slcT
    split
    · trivial
    · exact sla_ok P G s _ hd _ _ _ _ _ rfl (slice_ok P G s _ hd _ _ _ _ rfl)
  · exact build_ok P G s _ hd _ _ rfl
  · exact buildSlice_ok P G _ s _ hd _ _ _ rfl
  · exact box_ok P G s _ hd _ _ rfl
  · exact alloc_ok P G s _ hd _ rfl
  · split
    · exact store_ok P G s _ _ _ _ rfl rfl
    · trivial
  · exact lookup_ok P G s _ hd _ _ _ _ rfl
  · exact makeMap_ok P G s _ hd _ rfl
  · split
    · exact mapUpdate_ok P G s _ _ _ _ _ rfl rfl
    · trivial
  · exact ⟨_, _, _, rfl, rfl, rfl⟩
  · trivial

/-! In a loop's round, or not: the widest fence. -/
def Gh.F (G : Gh) : Fence := { Fence.wide with round := G.rd }
theorem Gh.fn (G : Gh) (f : FuncId) : G.F.fn f := trivial
theorem Gh.depth (G : Gh) : G.F.depth.isSome = true → 1 ≤ 0 := fun h => by cases h
theorem callsIn_F {G : Gh} {n : Nat} {P : Program} {f : FuncId} {args : Array Value} {w : World} {R : Ending → World → Prop} (h : Calls P f args w R) : CallsIn G.F n P f args w R := (callsIn_wide (n := n)).2 h
theorem rowsIn_F {G : Gh} {n : Nat} {P : Program} {r : String} {args : Array Value} {w : World} {R : Value → World → Prop} (h : Rows P r args w R) : RowsIn G.F n P r args w R :=
  fun c cs _ => let ⟨v, w', h1, h2⟩ := h c cs; ⟨v, w', h1, (stepsIn_wide (P := P)).2 h2⟩
theorem wpIn_of_wp {G : Gh} {P : Program} {o : Oper} {a : Act} {w : World} {K : Act → World → Prop} {Q : Exit → Act → World → Prop} (hnd : ∀ c, o.op ≠ .defer c) (h : o.wp P a w K Q) : o.wpIn G.F 0 P a w K Q := by
  refine ⟨fun _ _ => trivial, ?_⟩
  rw [Oper.semAt_eq _ _ _ hnd]
  unfold Oper.wp at h
  revert h
  generalize (execOp a.eval o).run P w = r
  intro h
  unfold Oper.upon at h
  split at h
  · exact h
  · exact h
  · exact h
  · exact ⟨G.depth, callsIn_F h⟩
  · exact ⟨G.depth, rowsIn_F h⟩
  · exact h
  · exact h.elim

/-- what is said of the end, as the machine's laws ask it -/
def lift (G : Gh) (Q : Exit → St → Prop) : Exit → Act → World → Prop := fun e a w => ∃ s, Q e s ∧ Sim G s a w
def SemOps (P : Program) (G : Gh) (all os : List Oper) (s : St) (Q : Exit → St → Prop) : Prop := ∀ a w, Sim G s a w → wpListIn G.F 0 P all.toArray (lift G Q) os a w
def SemC (P : Program) (G : Gh) (c : Code) (s : St) (Q : Exit → St → Prop) : Prop := ∀ a w, Sim G s a w → c.wpIn G.F 0 P (lift G Q) a w

/-- One operation, carried out in this state, ends in one of which 'rest' holds. -/
def SemStep (P : Program) (G : Gh) (o : Oper) (s : St) (Q : Exit → St → Prop) (rest : St → Prop) : Prop :=
  ∀ a w, Sim G s a w → o.wpIn G.F 0 P a w (fun a' w' => ∃ s', rest s' ∧ Sim G s' a' w') (lift G Q)
/-- A call: what is owed of it, its operands' values written out. -/
def SemCall (P : Program) (G : Gh) (o : Oper) (s : St) (Q : Exit → St → Prop) (rest : St → Prop) (f : V) (as : List V) : Prop :=
  ∀ (x : Operand) (l : List Operand) (ts : Array TypeId), o.op = .call ⟨.value x, l.toArray, ts⟩ → f = ev s x → as = l.map (ev s) → SemStep P G o s Q rest

def gslot (all : List Oper) (j : Nat) : Option Nat := match all[j]? with
  | some o => o.dst
  | none => none
def chk (n : Nat) : Option Nat → Prop
  | some d => d < n
  | none => True
def fin (P : Program) (G : Gh) (o : Oper) (s : St) (Q : Exit → St → Prop) (rest : St → Prop) : Res → Prop
  | .go C k => chk G.n o.dst ∧ ∃ h : C, rest (putD s o.dst (k h))
  | .heap C k => chk G.n o.dst ∧ ∃ h : C, rest (app s o.dst (k h))
  | .call f as => SemCall P G o s Q rest f as
  | .br C => chk G.n o.dst ∧ ∀ b, C b → rest (putD s o.dst (.v (.bool b)))
  | .stuck => SemStep P G o s Q rest
/-- what stands where an operation was not carried out -/
abbrev skV : V := .v (.tuple ⟨[]⟩)
def vcOps (P : Program) (G : Gh) (all : List Oper) (Q : Exit → St → Prop) : List Oper → St → Prop
  | [], s => Q .normal s
  | o :: os, s => match o.guard with
    | none => fin P G o s Q (vcOps P G all Q os) (lstep P G.ow G.lo s o.dst o.op)
    | some (j, w) => match gslot all j with
      | none => SemOps P G all (o :: os) s Q
      | some g => match s.get g with
        | .v (.bool b) => (b = w → fin P G { o with guard := none } (s.set g (.v (.bool w))) Q (vcOps P G all Q os) (lstep P G.ow G.lo (s.set g (.v (.bool w))) o.dst o.op)) ∧
            (b = !w → chk G.n o.dst ∧ vcOps P G all Q os (putD (s.set g (.v (.bool !w))) o.dst skV))
        | .v (.tuple ⟨[]⟩) => chk G.n o.dst ∧ vcOps P G all Q os (putD s o.dst skV)
        | _ => SemOps P G all (o :: os) s Q

theorem lift_mono {G : Gh} {Q Q' : Exit → St → Prop} (h : ∀ e s, Q e s → Q' e s) (e : Exit) (a : Act) (w : World) (hq : lift G Q e a w) : lift G Q' e a w :=
  let ⟨s, h1, h2⟩ := hq; ⟨s, h e s h1, h2⟩
theorem SemC.mono {P : Program} {G : Gh} {c : Code} {s : St} {Q Q' : Exit → St → Prop} (h : SemC P G c s Q) (hq : ∀ e s, Q e s → Q' e s) : SemC P G c s Q' :=
  fun a w hs => wpIn_mono (h a w hs) (lift_mono hq)

theorem chk_spec {n : Nat} {dst : Option Nat} (h : chk n dst) : ∀ d, dst = some d → d < n := by
  rintro d rfl; exact h

theorem tmp_bool {G : Gh} {s : St} {a : Act} {w : World} {E : Env} (hs : SimE G s a w E) {g : Nat} {b : Bool} (h : s.get g = .v (.bool b)) : a.tmps[g]? = some (.bool b) := by
  have hR := hs.fr g
  have h' : s.fr g = .v (.bool b) := h
  rw [h'] at hR
  have hy := R.v_inv hR
  rw [Array.getD_eq_getD_getElem?] at hy
  cases hg : a.tmps[g]? with
  | none => rw [hg] at hy; simp [undef] at hy
  | some y => rw [hg] at hy; simp at hy; rw [hy]

theorem yielded_of {G : Gh} {s : St} {a : Act} {w : World} {E : Env} (hs : SimE G s a w E) {all : List Oper} {j g : Nat} {b : Bool} (hg : gslot all j = some g) (h : s.get g = .v (.bool b)) :
    yielded all.toArray a.tmps j = some b := by
  have := tmp_bool hs h
  unfold gslot at hg
  split at hg
  · rename_i o ho
    simp [yielded, ho, hg, this]
  · cases hg

theorem st_same {s : St} {g : Nat} {x : V} (h : s.get g = x) : s.set g x = s := by
  cases s with
  | mk fr hp us =>
    simp only [St.set, St.mk.injEq, and_true]
    funext j
    by_cases e : g = j
    · subst e; rw [if_pos rfl]; exact h.symm
    · rw [if_neg e]

theorem lstep_defer {P : Program} {ow : Nat → Bool} {lo : Nat} {s : St} {d : Option Nat} (c : Call) : lstep P ow lo s d (.defer c) = .stuck := rfl
theorem fin_step {P : Program} {G : Gh} {o : Oper} {s : St} {Q : Exit → St → Prop} {rest : St → Prop} (h : fin P G o s Q rest (lstep P G.ow G.lo s o.dst o.op)) : SemStep P G o s Q rest := by
  by_cases hnd : ∃ c, o.op = .defer c
  · obtain ⟨c, hc⟩ := hnd
    rw [hc, lstep_defer] at h
    exact h
  have hnd : ∀ c, o.op ≠ .defer c := fun c hc => hnd ⟨c, hc⟩
  cases hr : lstep P G.ow G.lo s o.dst o.op with
  | stuck => rw [hr] at h; exact h
  | call f as =>
    rw [hr] at h
    have hok := lstep_ok P { G with n := o.dst.getD 0 + 1 } G.ow s o (by rintro d hd; simp [hd])
    rw [hr] at hok
    obtain ⟨x, l, ts, h1, h2, h3⟩ := hok
    exact h x l ts h1 h2 h3
  | br C =>
    rw [hr] at h
    obtain ⟨hc, h⟩ := h
    have hok := lstep_ok P G G.ow s o (chk_spec hc)
    rw [hr] at hok
    intro a w hs
    exact wpIn_of_wp hnd (hok a w hs _ _ fun b hb a' w' hs' => ⟨_, h b hb, hs'⟩)
  | heap C k =>
    rw [hr] at h
    obtain ⟨hc, hC, h⟩ := h
    have hok := lstep_ok P G G.ow s o (chk_spec hc)
    rw [hr] at hok
    intro a w hs
    exact wpIn_of_wp hnd (hok hC a w hs _ _ fun a' w' hs' => ⟨_, h, hs'⟩)
  | go C k =>
    rw [hr] at h
    obtain ⟨hc, hC, h⟩ := h
    have hok := lstep_ok P G G.ow s o (chk_spec hc)
    rw [hr] at hok
    intro a w hs
    exact wpIn_of_wp hnd (hok hC a w hs _ _ fun a' w' hs' => ⟨_, h, hs'⟩)

theorem fin_ok {P : Program} {G : Gh} {all : List Oper} {o : Oper} {os : List Oper} {s : St} {Q : Exit → St → Prop} {rest : St → Prop} (hn : o.guard = none)
    (hrest : ∀ s', rest s' → SemOps P G all os s' Q) (h : fin P G o s Q rest (lstep P G.ow G.lo s o.dst o.op)) : SemOps P G all (o :: os) s Q := by
  intro a w hs
  refine wpListIn_plain hn fun K hK => ?_
  refine Oper.wpIn_mono ?_ (fin_step h a w hs)
  rintro a' w' ⟨s', h1, h2⟩
  exact hK _ _ (hrest s' h1 a' w' h2)

theorem semOps_guard {P : Program} {G : Gh} {all : List Oper} {o : Oper} {os : List Oper} {s : St} {Q : Exit → St → Prop} {j g : Nat} {w b : Bool}
    (hgd : o.guard = some (j, w)) (hg : gslot all j = some g) (hb : s.get g = .v (.bool b))
    (h1 : b = w → SemOps P G all ({ o with guard := none } :: os) s Q) (h2 : b = !w → chk G.n o.dst ∧ SemOps P G all os (putD s o.dst skV) Q) : SemOps P G all (o :: os) s Q := by
  intro a wd hs
  obtain ⟨E, hE⟩ := hs
  have hy := yielded_of hE hg hb
  have hw : Region.wanted o (yielded all.toArray a.tmps) = (b == w) := by
    simp [Region.wanted, hgd, hy]
  by_cases hbw : b = w
  · have := h1 hbw a wd ⟨E, hE⟩
    unfold wpListIn at this ⊢
    rw [hw]
    simp only [hbw, beq_self_eq_true, if_true]
    have h3 : Oper.wpIn G.F 0 P { o with guard := none } a wd (wpListIn G.F 0 P all.toArray (lift G Q) os) (lift G Q) := by simpa [Region.wanted] using this
    exact h3
  · have hn : b = !w := by cases b <;> cases w <;> simp_all
    obtain ⟨hc, h2⟩ := h2 hn
    unfold wpListIn
    rw [hw]
    simp only [hn, Bool.not_beq_self, Bool.false_eq_true, if_false]
    exact ⟨fun _ _ => trivial, h2 _ _ ⟨E, hE.put (chk_spec hc) (.r0 _ _ (.v _))⟩⟩
theorem yielded_und {G : Gh} {s : St} {a : Act} {w : World} {E : Env} (hs : SimE G s a w E) {all : List Oper} {j g : Nat} (hg : gslot all j = some g) (h : s.get g = skV) :
    yielded all.toArray a.tmps j = none := by
  have hR := hs.fr g
  have h' : s.fr g = skV := h
  rw [h'] at hR
  have hy := R.v_inv hR
  unfold gslot at hg
  unfold yielded
  have e : (all.toArray[j]?).bind (·.dst) = some g := by
    cases ho : all[j]? with
    | none => simp [ho] at hg
    | some o => simp [ho] at hg; simp [ho, hg]
  rw [e]
  simp only [Option.bind_some]
  rw [Array.getD_eq_getD_getElem?] at hy
  cases hg' : a.tmps[g]? with
  | none => rfl
  | some y => rw [hg'] at hy; simp at hy; rw [hy]
theorem semOps_guard0 {P : Program} {G : Gh} {all : List Oper} {o : Oper} {os : List Oper} {s : St} {Q : Exit → St → Prop} {j g : Nat} {w : Bool}
    (hgd : o.guard = some (j, w)) (hg : gslot all j = some g) (hb : s.get g = skV) (hc : chk G.n o.dst) (h2 : SemOps P G all os (putD s o.dst skV) Q) : SemOps P G all (o :: os) s Q := by
  intro a wd hs
  obtain ⟨E, hE⟩ := hs
  have hy := yielded_und hE hg hb
  have hw : Region.wanted o (yielded all.toArray a.tmps) = false := by
    simp [Region.wanted, hgd, hy]
  unfold wpListIn
  rw [hw]
  exact ⟨fun _ _ => trivial, h2 _ _ ⟨E, hE.put (chk_spec hc) (.r0 _ _ (.v _))⟩⟩

theorem vcOps_sound {P : Program} {G : Gh} {all : List Oper} {Q : Exit → St → Prop} : ∀ (os : List Oper) (s : St), vcOps P G all Q os s → SemOps P G all os s Q := by
  intro os
  induction os with
  | nil => intro s h a w hs; exact wpListIn_nil ⟨s, h, hs⟩
  | cons o os ih =>
    intro s h
    unfold vcOps at h
    split at h
    · rename_i hn
      exact fin_ok hn ih h
    · rename_i j w hgd
      split at h
      · exact h
      · rename_i g hg
        split at h
        · rename_i b hb
          obtain ⟨h1, h2⟩ := h
          refine semOps_guard hgd hg hb (fun hbw => ?_) (fun hbw => ?_)
          · subst hbw
            rw [st_same hb] at h1
            exact fin_ok rfl ih (h1 rfl)
          · subst hbw
            obtain ⟨hc, h2⟩ := h2 rfl
            refine ⟨hc, ?_⟩
            rw [st_same hb] at h2
            exact ih _ h2
        · rename_i hb
          exact semOps_guard0 hgd hg hb h.1 (ih _ h.2)
        · exact h

/-- append to nil, of so many zeros -/
theorem appendN_step {P : Program} {G : Gh} {s : St} {o : Oper} {Q : Exit → St → Prop} {rest : St → Prop} {d t t2 el sz bytes : Nat} {xo yo : Operand} {k : IntKind} {n : Int} {z : List Value}
    (ho : o.op = .call ⟨.builtin .append, #[xo, yo], #[t, t2]⟩) (hx : ev s xo = .v (.slice none 0 0)) (hy : ev s yo = .v (.int k n)) (hd : o.dst = some d) (hdn : d < G.n)
    (hu : s.used d = false) (hse : sliceElem P t = some (el, sz)) (ht2 : tk P t2 = .int k) (hz : zeroK P el = some z) (hzl : z.length = sz) (hby : bytesK P el = some bytes)
    (h0 : 0 < sz) (hn : 0 < n) (hlen : n * bytes ≤ 140737488355328) (hlen' : n ≤ 140737488355328)
    (hr : rest (app s o.dst (.own d 0 n.toNat sz, [(d, some (.arr el sz (List.replicate n.toNat (z.map .v))))]))) : SemStep P G o s Q rest := by
  intro a w hs
  refine wpIn_of_wp (fun c hc => by rw [ho] at hc; cases hc) ?_
  refine stepOK_heap (x := .own d 0 n.toNat sz) (l := [(d, some (.arr el sz (List.replicate n.toNat (z.map .v))))]) (fun d' h => by rw [hd] at h; cases h; exact hdn) (fun a w E hs => ?_) a w hs _ _ fun a' w' hs' => ⟨_, hr, hs'⟩
  obtain ⟨hU, inf, hinf, hsz⟩ := sliceElem_inv hse
  obtain ⟨zv, hzv, hzc⟩ : ∃ zv, inf.zero = some zv ∧ zv.cells.toList = z := by
    unfold zeroK at hz
    simp only [hinf, Option.bind_some, Option.map_eq_some_iff] at hz
    exact hz
  have hzs : zv.cells.size = sz := by rw [← hzl, ← hzc, Array.length_toList]
  have hb : inf.bytes = bytes := by unfold bytesK at hby; rw [hinf] at hby; simpa using hby
  have hxv := R.v_inv (ev_E hs hx)
  have hyv := R.v_inv (ev_E hs hy)
  obtain ⟨m, rfl⟩ : ∃ m : Nat, n = m := ⟨n.toNat, by omega⟩
  have hwrap : IntKind.i64.wrap (m : Int) = m := by rw [IntKind.wrap_i64]; omega
  have hm0 : 0 < m := by omega
  have hlm : m * bytes ≤ 140737488355328 := by have h := hlen; rw [← Int.natCast_mul] at h; omega
  have e1 : ¬ ((m : Int) < 0) := by omega
  have e2 : ¬ (281474976710656 < (m : Int) * (bytes : Int)) := by
    omega
  have e3 : m ≠ 0 := by omega
  have e4 : ¬ (9223372036854775807 < (m : Int)) := by omega
  have e5 : ¬ (281474976710656 < Builtin.nextslicecap m 0 * bytes) := by rw [nextslicecap_zero hm0]; omega
  have e6 : m * sz ≠ 0 := by have := Nat.mul_pos hm0 h0; omega
  have hcap := grownCap_ge w m 0 el
  have hrun : (execOp a.eval o).run P w = .ok (.value (.slice (some ⟨w.heap.size, 0, none⟩) m (grownCap w m 0 el)))
      (w.drew.alloc (.cells (Builtin.zeroCells zv.cells m ++ Builtin.zeroCells zv.cells (grownCap w m 0 el - m)) el)) := by
    simp [execOp, ho, resolve, invoke, builtin, Builtin.append_, run_under P w hU, run_under P w (tk_int ht2), sizeOf, typeInfo, hinf, hxv, hyv, asInt, asIntOf, hwrap, e1, e2, e3, e4, e5, e6, hb, hsz, zeroValue, hzv, Question.forced, run_firstCells_none, newRow, grownCap]
  have hzn : ∀ k, (Builtin.zeroCells zv.cells k).size = k * sz := fun k => by simp [Builtin.zeroCells, hzs]
  have hdrew : SimE G s a w.drew E := hs.below ⟨rfl, rfl, rfl, Nat.le_refl _, fun _ _ => rfl⟩
  obtain ⟨E', h1, h2, h3, h4⟩ := hdrew.new (id := d) hu (o := .cells (Builtin.zeroCells zv.cells m ++ Builtin.zeroCells zv.cells (grownCap w m 0 el - m)) el) (ob := .arr el sz (List.replicate m (z.map .v))) (K := m) (C := grownCap w m 0 el) (fun O' E' hO hE => by
    refine ⟨fun x hx => by rw [List.eq_of_mem_replicate hx]; simpa using hzl, h0, by simp; omega, by simp, _, heap_new _ _, ?_, hcap, ?_, fun i x j u y h1 h2 h3 => ?_⟩
    · rw [Array.size_append, hzn, hzn, ← Nat.add_mul]
      congr 1
      show m + (grownCap w m 0 el - m) = grownCap w m 0 el
      omega
    · exact grownCap_le_maxLen w m 0 el (by simp only [maxLen]; omega)
    · have hi : i < m := by have := (List.getElem?_eq_some_iff.1 h1).1; simpa using this
      have hxe : x = z.map .v := by
        rw [List.getElem?_replicate, if_pos hi] at h1
        cases h1; rfl
      subst hxe
      simp only [List.getElem?_map, Option.map_eq_some_iff] at h2
      obtain ⟨v, hv, rfl⟩ := h2
      have hj : j < sz := by rw [← hzl]; exact (List.getElem?_eq_some_iff.1 hv).1
      have hlt : i * sz + j < m * sz := by
        have : (i + 1) * sz ≤ m * sz := Nat.mul_le_mul_right _ (by omega)
        rw [Nat.succ_mul] at this
        omega
      rw [Array.getElem?_append_left (by rw [hzn]; exact hlt)] at h3
      have hmod : (i * sz + j) % sz = j := by rw [Nat.mul_comm, Nat.mul_add_mod, Nat.mod_eq_of_lt hj]
      have hv' : zv.cells[j]? = some v := by rw [← hzc] at hv; simpa using hv
      simp only [Builtin.zeroCells, Array.getElem?_map, Array.getElem?_range, hzs] at h3
      rw [if_pos hlt] at h3
      simp only [Option.map_some, Option.some.injEq] at h3
      rw [hmod] at h3
      have : zv.cells[j]! = v := by simp [Array.getElem!_eq_getD, hv']
      rw [this] at h3
      subst h3
      exact .v _)
  refine ⟨_, _, E', hrun, h1, ?_⟩
  exact .own d 0 m sz _ _ _ _ h2 ⟨by simp, hcap, 0, by simp, rfl⟩

/-- the beginning of a slice of one's own: its row goes by a new name, and holds no more than that -/
theorem slice_take {P : Program} {G : Gh} {s : St} {o : Oper} {Q : Exit → St → Prop} {rest : St → Prop} {d id t el sz len : Nat} {xo yo : Operand} {k : IntKind} {n : Int} {l : List (List V)}
    (ho : o.op = .slice t xo none (some yo) none) (hx : ev s xo = .own id 0 len sz) (hy : ev s yo = .v (.int k n)) (hob : s.hget id = some (.arr el sz l)) (hd : o.dst = some d) (hdn : d < G.n) (hu : s.used d = false)
    (htk : tk P t = .slc) (hse : sliceElem P t = some (el, sz)) (h0 : 0 ≤ n) (hn : n ≤ len) (hle : len ≤ l.length)
    (hr : rest (app s o.dst (.own d 0 n.toNat sz, [(id, none), (d, some (.arr el sz (l.take n.toNat)))]))) : SemStep P G o s Q rest := by
  intro a w hs
  refine wpIn_of_wp (fun c hc => by rw [ho] at hc; cases hc) ?_
  refine stepOK_heap (x := .own d 0 n.toNat sz) (l := [(id, none), (d, some (.arr el sz (l.take n.toNat)))]) (fun d' h => by rw [hd] at h; cases h; exact hdn) (fun a w E hs => ?_) a w hs _ _ fun a' w' hs' => ⟨_, hr, hs'⟩
  obtain ⟨hU, inf, hinf, hsz⟩ := sliceElem_inv hse
  obtain ⟨b, K, C, hE, hle', hKC, hv⟩ := R.own_inv (ev_E hs hx)
  obtain ⟨b1, K1, C1, hE1, hHB⟩ := hs.hp id _ hob
  rw [hE] at hE1
  cases hE1
  have hE0 : E d = none := by
    cases he : E d with
    | none => rfl
    | some r => have := hs.us d (by rw [he]; simp); rw [show s.us d = false from hu] at this; cases this
  have hne : id ≠ d := by rintro rfl; rw [hE0] at hE; cases hE
  let E' : Env := fun i => if i = d then some (b, n.toNat, C) else E i
  have hE'd : E' d = some (b, n.toNat, C) := if_pos rfl
  have hEE : ∀ i r, E i = some r → E' i = some r := fun i r hi => by
    show (if i = d then _ else E i) = _
    rw [if_neg (by rintro rfl; rw [hE0] at hi; cases hi)]; exact hi
  obtain ⟨hz, hs0, h48, hlK, hbb⟩ := hHB
  have hnK : n.toNat ≤ l.length := by omega
  have hHB' : ∀ O', (∀ b, ¬ OT G s E b → b < w.heap.size → ¬ O' b) → HB w O' E' b n.toNat C (.arr el sz (l.take n.toNat)) := fun O' hO' => by
    refine ⟨fun x hx => hz x (List.mem_of_mem_take hx), hs0, by simp; omega, by simp; omega, ?_⟩
    cases b with
    | none => obtain ⟨q1, q2⟩ := hbb; exact ⟨by omega, q2⟩
    | some b =>
      obtain ⟨ys, q1, q2, q3, q4, q5⟩ := hbb
      exact ⟨ys, q1, q2, by omega, q4, fun i x j u y h1 h2 h3 => (q5 i x j u y (take_getElem? _ _ _ _ h1).1 h2 h3).mono (Nat.le_refl _) hO' fun _ _ _ => rfl⟩
  have hhp : ∀ i, (hsets s [(id, none), (d, some (.arr el sz (l.take n.toNat)))]).hp i = if d = i then some (.arr el sz (l.take n.toNat)) else if id = i then none else s.hp i := fun i => rfl
  have own : ∀ i o', (i = d ∨ i = id) → (hsets s [(id, none), (d, some (.arr el sz (l.take n.toNat)))]).hp i = some o' → i = d ∧ o' = .arr el sz (l.take n.toNat) := fun i o' hi ho' => by
    rw [hhp] at ho'
    split at ho'
    · rename_i e; cases ho'; exact ⟨e.symm, rfl⟩
    · rename_i e
      rcases hi with rfl | rfl
      · exact (e rfl).elim
      · rw [if_pos rfl] at ho'; cases ho'
  obtain ⟨h1, h2⟩ := hs.upd (s' := hsets s [(id, none), (d, some (.arr el sz (l.take n.toNat)))]) (w' := w) (E' := E') (fun i => i = d ∨ i = id) rfl (Nat.le_refl _) rfl rfl rfl (fun _ _ _ => rfl)
    (fun i hi => ⟨by rw [hhp, if_neg fun e => hi (.inl e.symm), if_neg fun e => hi (.inr e.symm)], if_neg fun e => hi (.inl e)⟩) hEE (fun i hi => by simp [hsets, St.hset, hi]) (fun i hi _ => by rcases hi with rfl | rfl <;> simp [hsets, St.hset])
    (fun i o' hi ho' => by obtain ⟨rfl, rfl⟩ := own i o' hi ho'; exact ⟨_, _, _, hE'd, fun hO => hHB' _ hO⟩)
    (fun i o' b' K' C' hi ho' he => by
      obtain ⟨rfl, rfl⟩ := own i o' hi ho'
      rw [hE'd] at he; cases he
      exact .inr ⟨id, _, K, _, .inr rfl, hob, hE⟩)
    (fun i i' o1 o2 b x x' hi hi' ho1 ho2 _ _ => by rw [(own i o1 hi ho1).1, (own i' o2 hi' ho2).1])
  have hyv := R.v_inv (ev_E hs hy)
  cases b with
  | none =>
    obtain ⟨_, rfl, hv⟩ := hv
    have hn0 : n = 0 := by omega
    subst hn0
    have hb := bounds_run (P := P) (w := w) true 0 0 none (some (a.eval yo)) 0 0 (.inl ⟨rfl, rfl⟩) (.inr ⟨k, by rw [hyv]⟩) (by omega) (by omega) (by omega)
    refine ⟨.slice none 0 0, w, E', ?_, h1, .own d 0 0 sz none 0 C _ hE'd ⟨by simp, by omega, rfl, rfl, rfl⟩⟩
    simp [execOp, ho, Instr.sliceAt, Instr.slice, run_under P w hU, run_size P w hinf, hv, hb]
  | some b =>
    obtain ⟨o', ho', hv⟩ := hv
    have e0 : o' = 0 := by rw [ho' (.inr rfl)]; simp
    subst e0
    have hb := bounds_run (P := P) (w := w) true len (C - 0) none (some (a.eval yo)) 0 n (.inl ⟨rfl, rfl⟩) (.inr ⟨k, by rw [hyv]⟩) (by omega) (by omega) (by omega)
    refine ⟨.slice (some ⟨b, 0, none⟩) n.toNat C, w, E', ?_, h1, .own d 0 n.toNat sz (some b) n.toNat C _ hE'd ⟨by simp, by omega, 0, by simp, by simp⟩⟩
    simp at hb
    simp [execOp, ho, Instr.sliceAt, Instr.slice, run_under P w hU, run_size P w hinf, hsz, hv, hb, add_none]

/-! the same, as rows that simp goes by -/
section
variable (P : Program) (G : Gh) (all : List Oper) (Q : Exit → St → Prop)
theorem vc_nil (s : St) : vcOps P G all Q [] s = Q .normal s := rfl
theorem vc_none (d : Option Tmp) (op : Op) (t : TypeId) (p : String) (e : Array Edge) (os : List Oper) (s : St) :
    vcOps P G all Q (⟨d, op, t, p, e, none⟩ :: os) s = fin P G ⟨d, op, t, p, e, none⟩ s Q (vcOps P G all Q os) (lstep P G.ow G.lo s d op) := rfl
theorem fin_go (d : Option Tmp) (op : Op) (t : TypeId) (p : String) (e : Array Edge) (gd : Option (Nat × Bool)) (s : St) (rest : St → Prop) (C : Prop) (k : C → V) :
    fin P G ⟨d, op, t, p, e, gd⟩ s Q rest (.go C k) = (chk G.n d ∧ ∃ h : C, rest (putD s d (k h))) := rfl
theorem fin_heap (d : Option Tmp) (op : Op) (t : TypeId) (p : String) (e : Array Edge) (gd : Option (Nat × Bool)) (s : St) (rest : St → Prop) (C : Prop) (k : C → V × List (Nat × Option OB)) :
    fin P G ⟨d, op, t, p, e, gd⟩ s Q rest (.heap C k) = (chk G.n d ∧ ∃ h : C, rest (app s d (k h))) := rfl
theorem fin_call (o : Oper) (s : St) (rest : St → Prop) (f : V) (as : List V) : fin P G o s Q rest (.call f as) = SemCall P G o s Q rest f as := rfl
theorem fin_br (d : Option Tmp) (op : Op) (t : TypeId) (p : String) (e : Array Edge) (gd : Option (Nat × Bool)) (s : St) (rest : St → Prop) (C : Bool → Prop) :
    fin P G ⟨d, op, t, p, e, gd⟩ s Q rest (.br C) = (chk G.n d ∧ ∀ b, C b → rest (putD s d (.v (.bool b)))) := rfl
theorem fin_stuck (o : Oper) (s : St) (rest : St → Prop) : fin P G o s Q rest .stuck = SemStep P G o s Q rest := rfl
end
end Pm
end Go.Proofs.Ytgienbcekgokiaa
