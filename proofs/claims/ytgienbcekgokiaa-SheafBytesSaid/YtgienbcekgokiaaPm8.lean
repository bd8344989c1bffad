/- The rows by which simp reckons the formula of a piece of code out. No program in sight. -/
import Derived.Test.YtgienbcekgokiaaPmD
import Derived.Test.YtgienbcekgokiaaPm7b
namespace Go.Proofs.Ytgienbcekgokiaa
open Go Go.RowKit
set_option linter.unusedSimpArgs false
set_option linter.unusedVariables false
namespace Pm

/-! a call of one that is lent memory and leaves it as it was, in a region that draws its order -/
def sameH (s : St) (N : Nat → Bool) : List (Nat × Option OB) → Prop
  | [] => True
  | (i, x) :: r => ((∃ y, x = some y ∧ s.hget i = some y) ∧ N i = true) ∧ sameH s N r
theorem entH_congr {ρ : Ren} {s s' : St} : ∀ {h : List (Nat × OB)}, (∀ i j, lkR ρ i = some (some j) → s'.hp j = s.hp j) → entH ρ s h → entH ρ s' h := by
  intro h
  induction h with
  | nil => intro _ _; trivial
  | cons p r ih =>
    obtain ⟨i, ob⟩ := p
    intro he hh
    refine ⟨?_, ih he hh.2⟩
    have h1 := hh.1
    cases hl : lkR ρ i with
    | none => rw [hl] at h1; exact h1
    | some x =>
      rw [hl] at h1
      cases x with
      | none => exact h1
      | some j =>
        have : s'.hget j = s.hget j := he i j hl
        simp only [entH1] at h1 ⊢
        rw [this]; exact h1
theorem hsets_same {s : St} : ∀ {l : List (Nat × Option OB)}, (∀ p, p ∈ l → s.hp p.1 = p.2 ∧ s.us p.1 = true) → hsets s l = s := by
  intro l
  induction l with
  | nil => intro _; rfl
  | cons p r ih =>
    obtain ⟨i, x⟩ := p
    intro h
    obtain ⟨h1, h2⟩ := h (i, x) (List.mem_cons_self ..)
    have e : s.hset i x = s := by
      cases s with
      | mk fr hp us =>
        simp only [St.hset, St.mk.injEq, true_and]
        constructor
        · funext j
          by_cases e : i = j
          · subst e; rw [if_pos rfl]; exact h1.symm
          · rw [if_neg e]
        · funext j
          by_cases e : i = j
          · subst e; simp at h2 ⊢; exact h2
          · simp [e]
    simp only [hsets]
    rw [e]
    exact ih fun p hp => h p (List.mem_cons_of_mem _ hp)
theorem sameH_spec {s : St} {N : Nat → Bool} : ∀ {l : List (Nat × Option OB)}, sameH s N l → ∀ p, p ∈ l → ∃ y, p.2 = some y ∧ s.hp p.1 = some y ∧ N p.1 = true := by
  intro l
  induction l with
  | nil => intro _ p hp; cases hp
  | cons q r ih =>
    obtain ⟨i, x⟩ := q
    rintro ⟨⟨⟨y, h1, h2⟩, h3⟩, h4⟩ p hp
    rcases List.mem_cons.1 hp with rfl | hp
    · exact ⟨y, h1, h2, h3⟩
    · exact ih h4 p hp
theorem callReads {P : Program} {G : Gh} {N : Nat → Bool} {M : Bool} {s : St} {k : FuncId} {cap as as' : List V} {h : List (Nat × OB)} {r : Nat → V} (ρ : List (Nat × Nat)) (hp : Tri P k as' h (fun lo => .ret (r lo) h))
    (hA : okL (okN (toR ρ) 4) as' (as ++ cap)) (hH : entH (toR ρ) s h) (hi : injR (toR ρ)) (hcv : coverR h (toR ρ)) (hq : uniqP ρ) (hall : hasAll (toR (keepR h ρ ++ [])) h) (hu : uniqN h)
    (hN : (tgt ρ).all N = true) (hs : sameH s N (upT ρ [] h)) : CallE P G N M (.fn (.func k) cap) as s (renT (toR (keepR h ρ ++ [])) 4 (r (loT h G.lo)), []) := by
  refine .pure ?_
  intro s' e o Q rest hc hr x l ts ho hx has a w hsim
  obtain ⟨E, hE⟩ := hsim
  have hH' : entH (toR ρ) s' h := entH_congr (fun i j hj => by
    obtain ⟨j', e1, hm⟩ := lkR_toR hj
    cases e1
    refine (e j (List.all_eq_true.1 hN j ?_)).1
    clear hj hp hA hH hi hcv hq hall hu hN hs hr
    induction ρ with
    | nil => cases hm
    | cons q t ih =>
      obtain ⟨u, v⟩ := q
      rcases List.mem_cons.1 hm with h1 | h1
      · cases h1; exact List.mem_cons_self ..
      · exact List.mem_cons_of_mem _ (ih h1)) hH
  have hsm : hsets s' (upT ρ [] h) = s' := hsets_same fun p hp => by
    obtain ⟨y, h1, h2, h3⟩ := sameH_spec hs p hp
    have h4 : s'.hp p.1 = some y := (e p.1 h3).1.trans h2
    refine ⟨h4.trans h1.symm, hE.us _ ?_⟩
    obtain ⟨b, K, C, h5, _⟩ := hE.hp _ _ h4
    rw [h5]; simp
  refine call_tri ρ [] hp hA hH' hi hcv hq hc ⟨trivial, hall, hu, ?_⟩ x l ts ho hx has a w ⟨E, hE⟩
  have : app s' o.dst (renT (toR (keepR h ρ ++ [])) 4 (r (loT h G.lo)), upT ρ [] h) = putD s' o.dst (renT (toR (keepR h ρ ++ [])) 4 (r (loT h G.lo))) := by
    simp only [app, hsm]
  rw [this]; exact hr

section
variable (P : Program) (G : Gh) (all : List Oper) (Q : Exit → St → Prop) (s : St)

theorem exP {p : Prop} {q : p → Prop} (h : p) (k : q h) : ∃ h, q h := ⟨h, k⟩
theorem Sub.map {α : Type} {lo lo' sz : Nat} {l : List α} {f g : α → List V} (hlo : lo' ≤ lo) (h : ∀ x, Subs (f x) (g x)) : Sub (.lst lo sz (l.map f)) (.lst lo' sz (l.map g)) :=
  .lst hlo (by simp) fun i x x' h1 h2 => by
    simp only [List.getElem?_map, Option.map_eq_some_iff] at h1 h2
    obtain ⟨a, h3, rfl⟩ := h1
    obtain ⟨b, h4, rfl⟩ := h2
    rw [h3] at h4; cases h4
    exact h a
/-- the value of the operation that guards -/
def gv (all : List Oper) (j : Nat) (s : St) : V := match gslot all j with
  | some g => s.get g
  | none => .any
theorem gv_eq (j : Nat) : gv all j s = match gslot all j with | some g => s.get g | none => .any := rfl
theorem vc_yes {d : Option Tmp} {op : Op} {t : TypeId} {p : String} {e : Array Edge} {j : Nat} {w : Bool} {os : List Oper} (h : gv all j s = .v (.bool w)) :
    vcOps P G all Q (⟨d, op, t, p, e, some (j, w)⟩ :: os) s = fin P G ⟨d, op, t, p, e, none⟩ s Q (vcOps P G all Q os) (lstep P G.ow G.lo s d op) := by
  unfold gv at h
  rw [vcOps]
  split at h
  · rename_i g hg
    simp [hg, h, st_same h]
  · cases h
theorem vc_no {d : Option Tmp} {op : Op} {t : TypeId} {p : String} {e : Array Edge} {j : Nat} {w : Bool} {os : List Oper} (h : gv all j s = .v (.bool !w)) :
    vcOps P G all Q (⟨d, op, t, p, e, some (j, w)⟩ :: os) s = (chk G.n d ∧ vcOps P G all Q os (putD s d skV)) := by
  unfold gv at h
  rw [vcOps]
  split at h
  · rename_i g hg
    simp [hg, h, st_same h]
  · cases h
theorem vc_tt {d : Option Tmp} {op : Op} {t : TypeId} {p : String} {e : Array Edge} {j : Nat} {os : List Oper} (h : gv all j s = .v (.bool true)) :
    vcOps P G all Q (⟨d, op, t, p, e, some (j, true)⟩ :: os) s = fin P G ⟨d, op, t, p, e, none⟩ s Q (vcOps P G all Q os) (lstep P G.ow G.lo s d op) := vc_yes P G all Q s h
theorem vc_ff {d : Option Tmp} {op : Op} {t : TypeId} {p : String} {e : Array Edge} {j : Nat} {os : List Oper} (h : gv all j s = .v (.bool false)) :
    vcOps P G all Q (⟨d, op, t, p, e, some (j, false)⟩ :: os) s = fin P G ⟨d, op, t, p, e, none⟩ s Q (vcOps P G all Q os) (lstep P G.ow G.lo s d op) := vc_yes P G all Q s h
theorem vc_tf {d : Option Tmp} {op : Op} {t : TypeId} {p : String} {e : Array Edge} {j : Nat} {os : List Oper} (h : gv all j s = .v (.bool false)) :
    vcOps P G all Q (⟨d, op, t, p, e, some (j, true)⟩ :: os) s = (chk G.n d ∧ vcOps P G all Q os (putD s d skV)) := vc_no P G all Q s h
theorem vc_ft {d : Option Tmp} {op : Op} {t : TypeId} {p : String} {e : Array Edge} {j : Nat} {os : List Oper} (h : gv all j s = .v (.bool true)) :
    vcOps P G all Q (⟨d, op, t, p, e, some (j, false)⟩ :: os) s = (chk G.n d ∧ vcOps P G all Q os (putD s d skV)) := vc_no P G all Q s h
/-- a guard that is not decided: both ways -/
def gdb (P : Program) (G : Gh) (all : List Oper) (Q : Exit → St → Prop) (d : Option Tmp) (op : Op) (t : TypeId) (p : String) (e : Array Edge) (j : Nat) (w : Bool) (os : List Oper) (s : St) : Option Nat → V → Prop
  | some g, .v (.bool b) => (b = w → fin P G ⟨d, op, t, p, e, none⟩ (s.set g (.v (.bool w))) Q (vcOps P G all Q os) (lstep P G.ow G.lo (s.set g (.v (.bool w))) d op)) ∧
      (b = !w → chk G.n d ∧ vcOps P G all Q os (putD (s.set g (.v (.bool !w))) d skV))
  | some _, .v (.tuple ⟨[]⟩) => chk G.n d ∧ vcOps P G all Q os (putD s d skV)
  | _, _ => SemOps P G all (⟨d, op, t, p, e, some (j, w)⟩ :: os) s Q
theorem vc_gdb (d : Option Tmp) (op : Op) (t : TypeId) (p : String) (e : Array Edge) (j : Nat) (w : Bool) (os : List Oper) :
    vcOps P G all Q (⟨d, op, t, p, e, some (j, w)⟩ :: os) s = gdb P G all Q d op t p e j w os s (gslot all j) (gv all j s) := by
  rw [vcOps]
  simp only
  cases hg : gslot all j with
  | none => rfl
  | some g =>
    simp only [gv, hg]
    cases s.get g with
    | v x =>
      cases x with
      | tuple ys =>
        obtain ⟨l⟩ := ys
        cases l <;> rfl
      | _ => rfl
    | _ => rfl
theorem gdb_b (d : Option Tmp) (op : Op) (t : TypeId) (p : String) (e : Array Edge) (j : Nat) (w : Bool) (os : List Oper) (g : Nat) (b : Bool) :
    gdb P G all Q d op t p e j w os s (some g) (.v (.bool b)) = ((b = w → fin P G ⟨d, op, t, p, e, none⟩ (s.set g (.v (.bool w))) Q (vcOps P G all Q os) (lstep P G.ow G.lo (s.set g (.v (.bool w))) d op)) ∧
      (b = !w → chk G.n d ∧ vcOps P G all Q os (putD (s.set g (.v (.bool !w))) d skV))) := rfl

theorem gdb_u (d : Option Tmp) (op : Op) (t : TypeId) (p : String) (e : Array Edge) (j : Nat) (w : Bool) (os : List Oper) (g : Nat) :
    gdb P G all Q d op t p e j w os s (some g) (.v (.tuple ⟨[]⟩)) = (chk G.n d ∧ vcOps P G all Q os (putD s d skV)) := rfl
/-- a test -/
def cnd (P : Program) (G : Gh) (c : Operand) (x y : Code) (s : St) (Q : Exit → St → Prop) : V → Prop
  | .v (.bool b) => (b = true → vc P G x s Q) ∧ (b = false → vc P G y s Q)
  | _ => SemC P G (.cond c x y) s Q
theorem vc_cond (c : Operand) (x y : Code) : vc P G (.cond c x y) s Q = cnd P G c x y s Q (ev s c) := by
  rw [vc]
  cases ev s c with
  | v z => cases z <;> rfl
  | _ => rfl
theorem cnd_b (c : Operand) (x y : Code) (b : Bool) : cnd P G c x y s Q (.v (.bool b)) = ((b = true → vc P G x s Q) ∧ (b = false → vc P G y s Q)) := rfl
theorem cnd_t (c : Operand) (x y : Code) : cnd P G c x y s Q (.v (.bool true)) = vc P G x s Q := by simp [cnd]
theorem cnd_f (c : Operand) (x y : Code) : cnd P G c x y s Q (.v (.bool false)) = vc P G y s Q := by simp [cnd]
theorem vc_skip : vc P G .skip s Q = Q .normal s := rfl
theorem vc_seq (a b : Code) : vc P G (.seq a b) s Q = vc P G a s (kseq (vc P G b) Q) := rfl
theorem vc_region (id : Nat) (l : List Oper) : vc P G (.region id l.toArray false) s Q = vcOps P G l Q l s := rfl
theorem vc_draw (id : Nat) (l : List Oper) : vc P G (.region id l.toArray true) s Q = SemC P G (.region id l.toArray true) s Q := rfl
theorem vc_block (id : Nat) (c : Code) : vc P G (.block id c) s Q = vc P G c s (kblk id Q) := rfl
theorem vc_exit (id : Nat) : vc P G (.exit id) s Q = Q (.exit id) s := rfl
theorem vc_ret : vc P G .ret s Q = Q .ret s := rfl
theorem vc_loop (c : Code) : vc P G (.loop c) s Q = SemC P G (.loop c) s Q := rfl
theorem kseq_n (k : St → (Exit → St → Prop) → Prop) : kseq k Q .normal s = k s Q := rfl
theorem kseq_r (k : St → (Exit → St → Prop) → Prop) : kseq k Q .ret s = Q .ret s := rfl
theorem kseq_x (k : St → (Exit → St → Prop) → Prop) (i : Nat) : kseq k Q (.exit i) s = Q (.exit i) s := rfl
theorem kblk_n (id : Nat) : kblk id Q .normal s = Q .normal s := rfl
theorem kblk_r (id : Nat) : kblk id Q .ret s = Q .ret s := rfl
theorem kblk_x (id i : Nat) : kblk id Q (.exit i) s = if i = id then Q .normal s else Q (.exit i) s := rfl
variable (lo : Nat)
theorem ends_1 (x : ResultVar) (r : V) : EndsAt P lo [x] r .ret s = (resOK P s x ∧ Sub (resV P lo s x) r) := rfl
theorem ends_n1 (x : ResultVar) (r : V) : EndsAt P lo [x] r .normal s = (resOK P s x ∧ Sub (resV P lo s x) r) := rfl
theorem ends_2 (x y : ResultVar) (r : V) : EndsAt P lo [x, y] r .ret s = ((resOK P s x ∧ resOK P s y) ∧ Sub (.tup [resV P lo s x, resV P lo s y]) r) := by simp [EndsAt]
theorem ends_3 (x y z : ResultVar) (r : V) : EndsAt P lo [x, y, z] r .ret s = ((resOK P s x ∧ resOK P s y ∧ resOK P s z) ∧ Sub (.tup [resV P lo s x, resV P lo s y, resV P lo s z]) r) := by simp [EndsAt]
variable (h0 h' : List (Nat × OB)) (r : V)
theorem endsT_1 (x : ResultVar) : EndsT P h0 [x] (.ret r h') .ret s = (resOK P s x ∧ ∃ ρ, EndT h0 s (resW P s x) r h' ρ) := by simp [EndsT, resT]
theorem endsT_n1 (x : ResultVar) : EndsT P h0 [x] (.ret r h') .normal s = (resOK P s x ∧ ∃ ρ, EndT h0 s (resW P s x) r h' ρ) := by simp [EndsT, resT]
theorem endsT_2 (x y : ResultVar) : EndsT P h0 [x, y] (.ret r h') .ret s = ((resOK P s x ∧ resOK P s y) ∧ ∃ ρ, EndT h0 s (.tup [resW P s x, resW P s y]) r h' ρ) := by simp [EndsT, resT]
theorem endsT_3 (x y z : ResultVar) : EndsT P h0 [x, y, z] (.ret r h') .ret s = ((resOK P s x ∧ resOK P s y ∧ resOK P s z) ∧ ∃ ρ, EndT h0 s (.tup [resW P s x, resW P s y, resW P s z]) r h' ρ) := by simp [EndsT, resT]
theorem endsT_0 : EndsT P h0 [] (.ret r h') .ret s = ∃ ρ, EndT h0 s (.tup []) r h' ρ := by simp [EndsT, resT]
theorem endsT_n0 : EndsT P h0 [] (.ret r h') .normal s = ∃ ρ, EndT h0 s (.tup []) r h' ρ := by simp [EndsT, resT]
theorem endsT_p (rs : List ResultVar) (x : Value) (ch : List PanicEntry) : EndsT P h0 rs (.pan x h') (.panic ch) s = (ch = [{ v := x, recovered := false }] ∧ ∃ ρ, EndT h0 s .any .any h' ρ) := rfl
theorem aftT_r (d : Option Nat) (rest : St → Prop) (ρ ν : List (Nat × Nat)) : AftT d s Q rest h0 ρ ν (.ret r h') = (newN s h0 ν ∧ hasAll (toR (keepR h' ρ ++ ν)) h' ∧ uniqN h' ∧ rest (app s d (renT (toR (keepR h' ρ ++ ν)) 4 r, upT ρ ν h'))) := rfl
theorem aftT_p (d : Option Nat) (rest : St → Prop) (ρ ν : List (Nat × Nat)) (x : Value) : AftT d s Q rest h0 ρ ν (.pan x h') = (newN s h0 ν ∧ hasAll (toR (keepR h' ρ ++ ν)) h' ∧ uniqN h' ∧ Q (.panic [{ v := x, recovered := false }]) (hsets s (upT ρ ν h'))) := rfl
theorem vc_label (l : Nat) : vc P G (.label l) s Q = Q .normal s := rfl
theorem vc_scope (c : Code) : vc P G (.scope c) s Q = vc P G c s (kscp Q) := rfl
theorem kscp_n (s : St) : kscp Q .normal s = Q .normal s := rfl
theorem kscp_r (s : St) : kscp Q .ret s = Q .ret s := rfl
theorem kscp_x (s : St) (i : Nat) : kscp Q (.exit i) s = Q (.exit i) s := rfl
/-! drawn regions -/
section
variable (al : Al)
def stpM (P : Program) (G : Gh) (al : Al) (o : Oper) (Q : Exit → St → Prop) (rest : St → Prop) (f : Bool) (s : St) : Prop := finM P G al o s Q rest (lstep P G.ow G.lo s o.dst o.op) f
def gdR (G : Gh) (d : Option Nat) (A K : St → Prop) (s : St) (w : Bool) : Option Nat → V → Prop
  | some g, .v (.bool b) => (b = w → A (s.set g (.v (.bool w)))) ∧ (b = !w → chk G.n d ∧ K (putD (s.set g (.v (.bool !w))) d skV))
  | some _, .v (.tuple ⟨[]⟩) => chk G.n d ∧ K (putD s d skV)
  | _, _ => False
theorem stpM_eq (rest : St → Prop) (f : Bool) (d : Option Tmp) (op : Op) (t : TypeId) (p : String) (e : Array Edge) (g : Option (Nat × Bool)) : stpM P G al ⟨d, op, t, p, e, g⟩ Q rest f s = finM P G al ⟨d, op, t, p, e, g⟩ s Q rest (lstep P G.ow G.lo s d op) f := rfl
theorem vcD_nil : vcD P G al all Q [] s = Q .normal s := rfl
theorem vcD_none (d : Option Tmp) (op : Op) (t : TypeId) (p : String) (e : Array Edge) (f : Bool) (os : List (Oper × Bool)) :
    vcD P G al all Q ((⟨d, op, t, p, e, none⟩, f) :: os) s = finM P G al ⟨d, op, t, p, e, none⟩ s Q (vcD P G al all Q os) (lstep P G.ow G.lo s d op) f := rfl
theorem vcD_some (d : Option Tmp) (op : Op) (t : TypeId) (p : String) (e : Array Edge) (j : Nat) (w : Bool) (f : Bool) (os : List (Oper × Bool)) :
    vcD P G al all Q ((⟨d, op, t, p, e, some (j, w)⟩, f) :: os) s = gdR G d (stpM P G al ⟨d, op, t, p, e, some (j, w)⟩ Q (vcD P G al all Q os) f) (vcD P G al all Q os) s w (gslot all j) (gv all j s) := by
  simp only [vcD, gdD]
  cases hg : gslot all j with
  | none => rfl
  | some g =>
    simp only [gv, hg]
    cases s.get g with
    | v x =>
      cases x with
      | tuple ys =>
        obtain ⟨l⟩ := ys
        cases l <;> rfl
      | _ => rfl
    | _ => rfl
theorem vcD_yes (d : Option Tmp) (op : Op) (t : TypeId) (p : String) (e : Array Edge) (j : Nat) (w : Bool) (f : Bool) (os : List (Oper × Bool)) (h : gv all j s = .v (.bool w)) :
    vcD P G al all Q ((⟨d, op, t, p, e, some (j, w)⟩, f) :: os) s = stpM P G al ⟨d, op, t, p, e, some (j, w)⟩ Q (vcD P G al all Q os) f s := by
  rw [vcD_some, h]
  unfold gv at h
  split at h
  · rename_i g hg
    rw [hg]
    simp [gdR, st_same h]
  · cases h
theorem vcD_no (d : Option Tmp) (op : Op) (t : TypeId) (p : String) (e : Array Edge) (j : Nat) (w : Bool) (f : Bool) (os : List (Oper × Bool)) (h : gv all j s = .v (.bool !w)) :
    vcD P G al all Q ((⟨d, op, t, p, e, some (j, w)⟩, f) :: os) s = (chk G.n d ∧ vcD P G al all Q os (putD s d skV)) := by
  rw [vcD_some, h]
  unfold gv at h
  split at h
  · rename_i g hg
    rw [hg]
    simp [gdR, st_same h]
  · cases h
theorem vcD_tt (d : Option Tmp) (op : Op) (t : TypeId) (p : String) (e : Array Edge) (j : Nat) (f : Bool) (os : List (Oper × Bool)) (h : gv all j s = .v (.bool true)) :
    vcD P G al all Q ((⟨d, op, t, p, e, some (j, true)⟩, f) :: os) s = stpM P G al ⟨d, op, t, p, e, some (j, true)⟩ Q (vcD P G al all Q os) f s := vcD_yes P G all Q s al d op t p e j true f os h
theorem vcD_ff (d : Option Tmp) (op : Op) (t : TypeId) (p : String) (e : Array Edge) (j : Nat) (f : Bool) (os : List (Oper × Bool)) (h : gv all j s = .v (.bool false)) :
    vcD P G al all Q ((⟨d, op, t, p, e, some (j, false)⟩, f) :: os) s = stpM P G al ⟨d, op, t, p, e, some (j, false)⟩ Q (vcD P G al all Q os) f s := vcD_yes P G all Q s al d op t p e j false f os h
theorem vcD_tf (d : Option Tmp) (op : Op) (t : TypeId) (p : String) (e : Array Edge) (j : Nat) (f : Bool) (os : List (Oper × Bool)) (h : gv all j s = .v (.bool false)) :
    vcD P G al all Q ((⟨d, op, t, p, e, some (j, true)⟩, f) :: os) s = (chk G.n d ∧ vcD P G al all Q os (putD s d skV)) := vcD_no P G all Q s al d op t p e j true f os h
theorem vcD_ft (d : Option Tmp) (op : Op) (t : TypeId) (p : String) (e : Array Edge) (j : Nat) (f : Bool) (os : List (Oper × Bool)) (h : gv all j s = .v (.bool true)) :
    vcD P G al all Q ((⟨d, op, t, p, e, some (j, false)⟩, f) :: os) s = (chk G.n d ∧ vcD P G al all Q os (putD s d skV)) := vcD_no P G all Q s al d op t p e j false f os h
theorem gdR_tt (d : Option Nat) (A K : St → Prop) (g : Nat) : gdR G d A K s true (some g) (.v (.bool true)) = A (s.set g (.v (.bool true))) := by simp [gdR]
theorem gdR_ff (d : Option Nat) (A K : St → Prop) (g : Nat) : gdR G d A K s false (some g) (.v (.bool false)) = A (s.set g (.v (.bool false))) := by simp [gdR]
theorem gdR_tf (d : Option Nat) (A K : St → Prop) (g : Nat) : gdR G d A K s true (some g) (.v (.bool false)) = (chk G.n d ∧ K (putD (s.set g (.v (.bool false))) d skV)) := by simp [gdR]
theorem gdR_ft (d : Option Nat) (A K : St → Prop) (g : Nat) : gdR G d A K s false (some g) (.v (.bool true)) = (chk G.n d ∧ K (putD (s.set g (.v (.bool true))) d skV)) := by simp [gdR]
theorem gdR_b (d : Option Nat) (A K : St → Prop) (g : Nat) (b w : Bool) : gdR G d A K s w (some g) (.v (.bool b)) = ((b = w → A (s.set g (.v (.bool w)))) ∧ (b = !w → chk G.n d ∧ K (putD (s.set g (.v (.bool !w))) d skV))) := rfl
theorem gdR_u (d : Option Nat) (A K : St → Prop) (g : Nat) (w : Bool) : gdR G d A K s w (some g) (.v (.tuple ⟨[]⟩)) = (chk G.n d ∧ K (putD s d skV)) := rfl
theorem finM_f (o : Oper) (rest : St → Prop) (r : Res) : finM P G al o s Q rest r false = (footB al s o.dst o.op = true ∧ finL P G (nmHas al (nm0 al o.dst o.op)) (mkd al o.dst) o s rest r) := rfl
theorem finM_t (o : Oper) (rest : St → Prop) (r : Res) : finM P G al o s Q rest r true = fin P G o s Q rest r := rfl
end
section
variable (d : Option Tmp) (op : Op) (t : TypeId) (p : String) (e : Array Edge) (gd : Option (Nat × Bool)) (rest : St → Prop) (C : Prop)
variable (N : Nat → Bool) (M : Bool)
theorem finL_go (k : C → V) : finL P G N M ⟨d, op, t, p, e, gd⟩ s rest (.go C k) = (chk G.n d ∧ ∃ h : C, rest (putD s d (k h))) := rfl
theorem finL_heap (k : C → V × List (Nat × Option OB)) : finL P G N M ⟨d, op, t, p, e, gd⟩ s rest (.heap C k) = (chk G.n d ∧ ∃ h : C, rest (app s d (k h))) := rfl
theorem finL_call (f : V) (as : List V) : finL P G N M ⟨d, op, t, p, e, gd⟩ s rest (.call f as) = (chk G.n d ∧ ∃ e, CallE P G N M f as s e ∧ rest (app s d e)) := rfl
end
theorem cutQ_x {α : Type} (i j : Nat) (F : α → St) (I : α → Prop) : cutQ G i F I Q (.exit j) s = if j = i then ∃ x, I x ∧ Ent G s (F x) else Q (.exit j) s := rfl
theorem cutQ_n {α : Type} (i : Nat) (F : α → St) (I : α → Prop) : cutQ G i F I Q .normal s = ∃ x, I x ∧ Ent G s (F x) := rfl
theorem cutQ_r {α : Type} (i : Nat) (F : α → St) (I : α → Prop) : cutQ G i F I Q .ret s = Q .ret s := rfl
theorem app_d (d : Option Nat) (x : V) (l : List (Nat × Option OB)) : app s d (x, l) = putD (hsets s l) d x := rfl
theorem hsets_n : hsets s [] = s := rfl
theorem hsets_c (i : Nat) (x : Option OB) (l : List (Nat × Option OB)) : hsets s ((i, x) :: l) = hsets (s.hset i x) l := rfl
theorem get_frz (p : Nat → Bool) (lo i : Nat) : (frz p lo s).get i = vwF p lo s 4 (s.get i) := rfl
theorem used_frz (p : Nat → Bool) (lo i : Nat) : (frz p lo s).used i = s.used i := rfl
def frzH (p : Nat → Bool) (lo : Nat) (s : St) (i : Nat) : Bool → Option OB
  | true => none
  | false => (s.hget i).map (frzO p lo s)
theorem hget_frz (p : Nat → Bool) (lo i : Nat) : (frz p lo s).hget i = frzH p lo s i (p i) := by
  unfold frzH St.hget frz
  simp only
  cases p i <;> rfl
theorem chk_s (n d : Nat) : chk n (some d) = (d < n) := rfl
theorem chk_n (n : Nat) : chk n none = True := rfl
theorem putD_s (d : Nat) (x : V) : putD s (some d) x = s.set d x := rfl
theorem putD_n (x : V) : putD s none x = s := rfl
theorem sub_v (x y : Value) : Sub (.v x) (.v y) = (x = y) := by
  apply propext
  constructor
  · intro h
    have h1 := h (default : World) (fun _ => False) x (.v x)
    cases h1; rfl
  · rintro rfl; exact Sub.refl _
theorem sub_refl (x : V) : Sub x x = True := eq_true (Sub.refl x)
end
attribute [go_sem] slcT slaRes slcRes slcGo optLo optHi bldRes fillV cellsV putCells bslRes bslV boxRes zeroA ldoRes ldBox stGo stArr stRes mmRes capRes app_d hsets_n hsets_c get_frz used_frz hget_frz frzH frzO vwF vwS aprEff dropL srcV allP all0 pureV pure0 allOne oneV allOnes Option.map_some Option.map_none List.set_cons_zero List.set_cons_succ List.length_cons List.length_nil
  Option.any_some List.replicate_succ List.replicate_zero Bool.and_true Bool.true_and Nat.zero_mul Nat.mul_one Nat.add_zero Nat.zero_add Value.cells Array.toList List.range_succ List.getElem_map List.length_map List.getElem_append List.length_append List.length_take List.length_drop
attribute [go_sem] vc_nil vc_none fin_go fin_heap fin_call fin_br fin_stuck lstep ev get_set get_hset hget_set hget_hset used_set used_hset get_of hget_of used_of lkV lkH usH enumV putD_s putD_n vc_tt vc_ff vc_tf vc_ft gdb_b
  vc_cond cnd_t cnd_f vc_skip vc_seq vc_region vc_draw vc_block vc_exit vc_ret vc_loop kseq_n kseq_r kseq_x kblk_n kblk_r kblk_x ends_1 ends_n1 ends_2 ends_3 chk_s chk_n sub_refl sub_v gslot gv_eq resV resOK vw endsT_1 endsT_n1 endsT_2 endsT_3 endsT_0 endsT_n0 endsT_p aftT_r aftT_p resW renT renO toR tgt keepR dropsR outsR newN hasAll uniqN uniqP upT loT names keptN List.filter_cons List.filter_nil
  entS entH entH1 okN okL obOK injR apart coverR lkR true_or or_true
  aggRes aggEq fitsB fitB eqVs eqV eqX binRes intRes shrK andK addRes strRes nilEq nilEqIf pickRes unRes cvRes cvbRes bytesOf bytesOf_map lenRes ixRes ixgRes ixaRes ldRes fldaRes fldRes extRes nilRes mkfRes mkbRes decide_true
  exists_prop true_and and_true exists_true_left List.getElem?_cons_succ List.getElem?_cons_zero decide_eq_true_eq decide_eq_false_iff_not forall_const Bool.not_true Bool.not_false cond_true cond_false ite_true ite_false
  V.v.injEq Value.bool.injEq Value.int.injEq List.map_cons List.map_nil List.drop_zero List.drop_succ_cons List.take_succ_cons List.take_zero Option.getD_some false_implies implies_true not_true_eq_false not_false_eq_true Bool.not_eq_true Bool.not_eq_false
theorem rmap_take {α β : Type} (f : α → β) (l : List α) (n : Nat) : (l.map f).take n = (l.take n).map f := List.map_take.symm
theorem rmap_drop {α β : Type} (f : α → β) (l : List α) (n : Nat) : (l.map f).drop n = (l.drop n).map f := List.map_drop.symm
theorem rmap_append {α β : Type} (f : α → β) (l m : List α) : l.map f ++ m.map f = (l ++ m).map f := List.map_append.symm
attribute [go_sem] cutQ_x cutQ_n cutQ_r rmap_take rmap_drop rmap_append Int.toNat_zero Nat.sub_zero Nat.min_self List.take_length bslOB beq_self_eq_true aprRes aprGo arrV Option.isSome_some List.nil_append Int.natCast_nonneg stpM_eq vcD_nil vcD_none vcD_tt vcD_ff vcD_tf vcD_ft finM_f finM_t finL_go finL_heap finL_call alOf alC heapy pickO footB foot ptrN nm0 nmT tbl keyO nmPtr nmSrc nmHas List.cons_append List.all_cons List.all_nil List.contains_cons List.contains_nil Option.toList_some Option.toList_none Bool.not_or Bool.or_false Bool.or_true Bool.false_or Nat.reduceBEq Bool.true_or Bool.and_false Bool.false_and List.range_zero rowE Int.natCast_zero Int.cast_ofNat_Int Int.sub_zero Bool.not_eq_true' Bool.not_eq_false'
attribute [go_sem] lkpRes mkmRes mupRes delRes isKeyB lkM delM upM vOf keyV scal fitXs fitX lkG globs gl1 gl2
attribute [go_sem] gdb_u gdR_u vc_label vc_scope kscp_n kscp_r kscp_x
attribute [go_sem low] vc_gdb cnd_b gdR_b vcD_some
end Pm
end Go.Proofs.Ytgienbcekgokiaa
