import Derived.Test.YtppcbmpiphhphaaGreatDoorQU08
import Derived.Test.YtppcbmpiphhphaaGreatDoorQU09
namespace Go.Proofs.YtppcbmpiphhphaaGreatDoor
open Go Go.RowKit
set_option linter.unusedSimpArgs false
set_option linter.unusedVariables false
namespace Pm

theorem entH_congr {ρ : Ren} {s s' : St} : ∀ {h : List (Nat × OB)}, (∀ i j, lkR ρ i = some (some j) → s'.hp j = s.hp j) → entH ρ s h → entH ρ s' h := by
  intro h
  induction h with
  | nil => intro _ _; trivial
  | cons p r ih =>
    obtain ⟨i, ob⟩ := p
    intro he hh
    refine ⟨?_, ih he hh.2⟩
    have h1 := hh.1
    cases hl : lkR ρ i with
    | none => rw [hl] at h1; exact h1
    | some x =>
      rw [hl] at h1
      cases x with
      | none => exact h1
      | some j =>
        have : s'.hget j = s.hget j := he i j hl
        simp only [entH1] at h1 ⊢
        rw [this]; exact h1
section
variable (P : Program) (G : Gh) (all : List Oper) (Q : Exit → St → Prop) (s : St)

theorem exP {p : Prop} {q : p → Prop} (h : p) (k : q h) : ∃ h, q h := ⟨h, k⟩
theorem Sub.map {α : Type} {lo lo' sz : Nat} {l : List α} {f g : α → List V} (hlo : lo' ≤ lo) (h : ∀ x, Subs (f x) (g x)) : Sub (.lst lo sz (l.map f)) (.lst lo' sz (l.map g)) :=
  .lst hlo (by simp) fun i x x' h1 h2 => by
    simp only [List.getElem?_map, Option.map_eq_some_iff] at h1 h2
    obtain ⟨a, h3, rfl⟩ := h1
    obtain ⟨b, h4, rfl⟩ := h2
    rw [h3] at h4; cases h4
    exact h a
def gv (all : List Oper) (j : Nat) (s : St) : V := match gslot all j with
  | some g => s.get g
  | none => .any
theorem gv_eq (j : Nat) : gv all j s = match gslot all j with | some g => s.get g | none => .any := rfl
theorem vc_yes {d : Option Tmp} {op : Op} {t : TypeId} {p : String} {e : Array Edge} {j : Nat} {w : Bool} {os : List Oper} (h : gv all j s = .v (.bool w)) :
    vcOps P G all Q (⟨d, op, t, p, e, some (j, w)⟩ :: os) s = fin P G ⟨d, op, t, p, e, none⟩ s Q (vcOps P G all Q os) (lstep P G.ow G.lo s d op) := by
  unfold gv at h
  rw [vcOps]
  split at h
  · rename_i g hg
    simp [hg, h, st_same h]
  · cases h
theorem vc_no {d : Option Tmp} {op : Op} {t : TypeId} {p : String} {e : Array Edge} {j : Nat} {w : Bool} {os : List Oper} (h : gv all j s = .v (.bool !w)) :
    vcOps P G all Q (⟨d, op, t, p, e, some (j, w)⟩ :: os) s = (chk G.n d ∧ vcOps P G all Q os (putD s d skV)) := by
  unfold gv at h
  rw [vcOps]
  split at h
  · rename_i g hg
    simp [hg, h, st_same h]
  · cases h
theorem vc_tt {d : Option Tmp} {op : Op} {t : TypeId} {p : String} {e : Array Edge} {j : Nat} {os : List Oper} (h : gv all j s = .v (.bool true)) :
    vcOps P G all Q (⟨d, op, t, p, e, some (j, true)⟩ :: os) s = fin P G ⟨d, op, t, p, e, none⟩ s Q (vcOps P G all Q os) (lstep P G.ow G.lo s d op) := vc_yes P G all Q s h
theorem vc_ff {d : Option Tmp} {op : Op} {t : TypeId} {p : String} {e : Array Edge} {j : Nat} {os : List Oper} (h : gv all j s = .v (.bool false)) :
    vcOps P G all Q (⟨d, op, t, p, e, some (j, false)⟩ :: os) s = fin P G ⟨d, op, t, p, e, none⟩ s Q (vcOps P G all Q os) (lstep P G.ow G.lo s d op) := vc_yes P G all Q s h
theorem vc_tf {d : Option Tmp} {op : Op} {t : TypeId} {p : String} {e : Array Edge} {j : Nat} {os : List Oper} (h : gv all j s = .v (.bool false)) :
    vcOps P G all Q (⟨d, op, t, p, e, some (j, true)⟩ :: os) s = (chk G.n d ∧ vcOps P G all Q os (putD s d skV)) := vc_no P G all Q s h
theorem vc_ft {d : Option Tmp} {op : Op} {t : TypeId} {p : String} {e : Array Edge} {j : Nat} {os : List Oper} (h : gv all j s = .v (.bool true)) :
    vcOps P G all Q (⟨d, op, t, p, e, some (j, false)⟩ :: os) s = (chk G.n d ∧ vcOps P G all Q os (putD s d skV)) := vc_no P G all Q s h
def gdb (P : Program) (G : Gh) (all : List Oper) (Q : Exit → St → Prop) (d : Option Tmp) (op : Op) (t : TypeId) (p : String) (e : Array Edge) (j : Nat) (w : Bool) (os : List Oper) (s : St) : Option Nat → V → Prop
  | some g, .v (.bool b) => (b = w → fin P G ⟨d, op, t, p, e, none⟩ (s.set g (.v (.bool w))) Q (vcOps P G all Q os) (lstep P G.ow G.lo (s.set g (.v (.bool w))) d op)) ∧
      (b = !w → chk G.n d ∧ vcOps P G all Q os (putD (s.set g (.v (.bool !w))) d skV))
  | some _, .v (.tuple ⟨[]⟩) => chk G.n d ∧ vcOps P G all Q os (putD s d skV)
  | _, _ => SemOps P G all (⟨d, op, t, p, e, some (j, w)⟩ :: os) s Q
theorem vc_gdb (d : Option Tmp) (op : Op) (t : TypeId) (p : String) (e : Array Edge) (j : Nat) (w : Bool) (os : List Oper) :
    vcOps P G all Q (⟨d, op, t, p, e, some (j, w)⟩ :: os) s = gdb P G all Q d op t p e j w os s (gslot all j) (gv all j s) := by
  rw [vcOps]
  simp only
  cases hg : gslot all j with
  | none => rfl
  | some g =>
    simp only [gv, hg]
    cases s.get g with
    | v x =>
      cases x with
      | tuple ys =>
        obtain ⟨l⟩ := ys
        cases l <;> rfl
      | _ => rfl
    | _ => rfl
theorem gdb_b (d : Option Tmp) (op : Op) (t : TypeId) (p : String) (e : Array Edge) (j : Nat) (w : Bool) (os : List Oper) (g : Nat) (b : Bool) :
    gdb P G all Q d op t p e j w os s (some g) (.v (.bool b)) = ((b = w → fin P G ⟨d, op, t, p, e, none⟩ (s.set g (.v (.bool w))) Q (vcOps P G all Q os) (lstep P G.ow G.lo (s.set g (.v (.bool w))) d op)) ∧
      (b = !w → chk G.n d ∧ vcOps P G all Q os (putD (s.set g (.v (.bool !w))) d skV))) := rfl

theorem gdb_u (d : Option Tmp) (op : Op) (t : TypeId) (p : String) (e : Array Edge) (j : Nat) (w : Bool) (os : List Oper) (g : Nat) :
    gdb P G all Q d op t p e j w os s (some g) (.v (.tuple ⟨[]⟩)) = (chk G.n d ∧ vcOps P G all Q os (putD s d skV)) := rfl
def cnd (P : Program) (G : Gh) (c : Operand) (x y : Code) (s : St) (Q : Exit → St → Prop) : V → Prop
  | .v (.bool b) => (b = true → vc P G x s Q) ∧ (b = false → vc P G y s Q)
  | _ => SemC P G (.cond c x y) s Q
theorem vc_cond (c : Operand) (x y : Code) : vc P G (.cond c x y) s Q = cnd P G c x y s Q (ev s c) := by
  rw [vc]
  cases ev s c with
  | v z => cases z <;> rfl
  | _ => rfl
theorem cnd_b (c : Operand) (x y : Code) (b : Bool) : cnd P G c x y s Q (.v (.bool b)) = ((b = true → vc P G x s Q) ∧ (b = false → vc P G y s Q)) := rfl
theorem cnd_t (c : Operand) (x y : Code) : cnd P G c x y s Q (.v (.bool true)) = vc P G x s Q := by simp [cnd]
theorem cnd_f (c : Operand) (x y : Code) : cnd P G c x y s Q (.v (.bool false)) = vc P G y s Q := by simp [cnd]
theorem vc_skip : vc P G .skip s Q = Q .normal s := rfl
theorem vc_seq (a b : Code) : vc P G (.seq a b) s Q = vc P G a s (kseq (vc P G b) Q) := rfl
theorem vc_region (id : Nat) (l : List Oper) : vc P G (.region id l.toArray false) s Q = vcOps P G l Q l s := rfl
theorem vc_draw (id : Nat) (l : List Oper) : vc P G (.region id l.toArray true) s Q = SemC P G (.region id l.toArray true) s Q := rfl
theorem vc_block (id : Nat) (c : Code) : vc P G (.block id c) s Q = vc P G c s (kblk id Q) := rfl
theorem vc_exit (id : Nat) : vc P G (.exit id) s Q = Q (.exit id) s := rfl
theorem vc_ret : vc P G .ret s Q = Q .ret s := rfl
theorem vc_loop (c : Code) : vc P G (.loop c) s Q = SemC P G (.loop c) s Q := rfl
theorem kseq_n (k : St → (Exit → St → Prop) → Prop) : kseq k Q .normal s = k s Q := rfl
theorem kseq_r (k : St → (Exit → St → Prop) → Prop) : kseq k Q .ret s = Q .ret s := rfl
theorem kseq_x (k : St → (Exit → St → Prop) → Prop) (i : Nat) : kseq k Q (.exit i) s = Q (.exit i) s := rfl
theorem kblk_n (id : Nat) : kblk id Q .normal s = Q .normal s := rfl
theorem kblk_r (id : Nat) : kblk id Q .ret s = Q .ret s := rfl
theorem kblk_x (id i : Nat) : kblk id Q (.exit i) s = if i = id then Q .normal s else Q (.exit i) s := rfl
variable (lo : Nat)
theorem ends_1 (x : ResultVar) (r : V) : EndsAt P lo [x] r .ret s = (resOK P s x ∧ Sub (resV P lo s x) r) := rfl
theorem ends_n1 (x : ResultVar) (r : V) : EndsAt P lo [x] r .normal s = (resOK P s x ∧ Sub (resV P lo s x) r) := rfl
theorem ends_2 (x y : ResultVar) (r : V) : EndsAt P lo [x, y] r .ret s = ((resOK P s x ∧ resOK P s y) ∧ Sub (.tup [resV P lo s x, resV P lo s y]) r) := by simp [EndsAt]
theorem ends_3 (x y z : ResultVar) (r : V) : EndsAt P lo [x, y, z] r .ret s = ((resOK P s x ∧ resOK P s y ∧ resOK P s z) ∧ Sub (.tup [resV P lo s x, resV P lo s y, resV P lo s z]) r) := by simp [EndsAt]
variable (h0 h' : List (Nat × OB)) (r : V)
theorem endsT_1 (x : ResultVar) : EndsT P h0 [x] (.ret r h') .ret s = (resOK P s x ∧ ∃ ρ, EndT h0 s (resW P s x) r h' ρ) := by simp [EndsT, resT]
theorem endsT_n1 (x : ResultVar) : EndsT P h0 [x] (.ret r h') .normal s = (resOK P s x ∧ ∃ ρ, EndT h0 s (resW P s x) r h' ρ) := by simp [EndsT, resT]
theorem endsT_2 (x y : ResultVar) : EndsT P h0 [x, y] (.ret r h') .ret s = ((resOK P s x ∧ resOK P s y) ∧ ∃ ρ, EndT h0 s (.tup [resW P s x, resW P s y]) r h' ρ) := by simp [EndsT, resT]
theorem endsT_3 (x y z : ResultVar) : EndsT P h0 [x, y, z] (.ret r h') .ret s = ((resOK P s x ∧ resOK P s y ∧ resOK P s z) ∧ ∃ ρ, EndT h0 s (.tup [resW P s x, resW P s y, resW P s z]) r h' ρ) := by simp [EndsT, resT]
theorem endsT_0 : EndsT P h0 [] (.ret r h') .ret s = ∃ ρ, EndT h0 s (.tup []) r h' ρ := by simp [EndsT, resT]
theorem endsT_n0 : EndsT P h0 [] (.ret r h') .normal s = ∃ ρ, EndT h0 s (.tup []) r h' ρ := by simp [EndsT, resT]
theorem endsT_p (rs : List ResultVar) (x : Value) (ch : List PanicEntry) : EndsT P h0 rs (.pan x h') (.panic ch) s = (ch = [{ v := x, recovered := false }] ∧ ∃ ρ, EndT h0 s .any .any h' ρ) := rfl
theorem aftT_r (d : Option Nat) (rest : St → Prop) (ρ ν : List (Nat × Nat)) : AftT d s Q rest h0 ρ ν (.ret r h') = (newN s h0 ν ∧ hasAll (toR (keepR h' ρ ++ ν)) h' ∧ uniqN h' ∧ rest (app s d (renT (toR (keepR h' ρ ++ ν)) 4 r, upT ρ ν h'))) := rfl
theorem aftT_p (d : Option Nat) (rest : St → Prop) (ρ ν : List (Nat × Nat)) (x : Value) : AftT d s Q rest h0 ρ ν (.pan x h') = (newN s h0 ν ∧ hasAll (toR (keepR h' ρ ++ ν)) h' ∧ uniqN h' ∧ Q (.panic [{ v := x, recovered := false }]) (hsets s (upT ρ ν h'))) := rfl
theorem vc_label (l : Nat) : vc P G (.label l) s Q = Q .normal s := rfl
theorem vc_scope (c : Code) : vc P G (.scope c) s Q = vc P G c s (kscp Q) := rfl
theorem kscp_n (s : St) : kscp Q .normal s = Q .normal s := rfl
theorem kscp_r (s : St) : kscp Q .ret s = Q .ret s := rfl
theorem kscp_x (s : St) (i : Nat) : kscp Q (.exit i) s = Q (.exit i) s := rfl
section
variable (al : Al)
def stpM (P : Program) (G : Gh) (al : Al) (o : Oper) (Q : Exit → St → Prop) (rest : St → Prop) (f : Bool) (s : St) : Prop := finM P G al o s Q rest (lstep P G.ow G.lo s o.dst o.op) f
def gdR (G : Gh) (d : Option Nat) (A K : St → Prop) (s : St) (w : Bool) : Option Nat → V → Prop
  | some g, .v (.bool b) => (b = w → A (s.set g (.v (.bool w)))) ∧ (b = !w → chk G.n d ∧ K (putD (s.set g (.v (.bool !w))) d skV))
  | some _, .v (.tuple ⟨[]⟩) => chk G.n d ∧ K (putD s d skV)
  | _, _ => False
theorem stpM_eq (rest : St → Prop) (f : Bool) (d : Option Tmp) (op : Op) (t : TypeId) (p : String) (e : Array Edge) (g : Option (Nat × Bool)) : stpM P G al ⟨d, op, t, p, e, g⟩ Q rest f s = finM P G al ⟨d, op, t, p, e, g⟩ s Q rest (lstep P G.ow G.lo s d op) f := rfl
theorem vcD_nil : vcD P G al all Q [] s = Q .normal s := rfl
theorem vcD_none (d : Option Tmp) (op : Op) (t : TypeId) (p : String) (e : Array Edge) (f : Bool) (os : List (Oper × Bool)) :
    vcD P G al all Q ((⟨d, op, t, p, e, none⟩, f) :: os) s = finM P G al ⟨d, op, t, p, e, none⟩ s Q (vcD P G al all Q os) (lstep P G.ow G.lo s d op) f := rfl
theorem vcD_some (d : Option Tmp) (op : Op) (t : TypeId) (p : String) (e : Array Edge) (j : Nat) (w : Bool) (f : Bool) (os : List (Oper × Bool)) :
    vcD P G al all Q ((⟨d, op, t, p, e, some (j, w)⟩, f) :: os) s = gdR G d (stpM P G al ⟨d, op, t, p, e, some (j, w)⟩ Q (vcD P G al all Q os) f) (vcD P G al all Q os) s w (gslot all j) (gv all j s) := by
  simp only [vcD, gdD]
  cases hg : gslot all j with
  | none => rfl
  | some g =>
    simp only [gv, hg]
    cases s.get g with
    | v x =>
      cases x with
      | tuple ys =>
        obtain ⟨l⟩ := ys
        cases l <;> rfl
      | _ => rfl
    | _ => rfl
theorem vcD_yes (d : Option Tmp) (op : Op) (t : TypeId) (p : String) (e : Array Edge) (j : Nat) (w : Bool) (f : Bool) (os : List (Oper × Bool)) (h : gv all j s = .v (.bool w)) :
    vcD P G al all Q ((⟨d, op, t, p, e, some (j, w)⟩, f) :: os) s = stpM P G al ⟨d, op, t, p, e, some (j, w)⟩ Q (vcD P G al all Q os) f s := by
  rw [vcD_some, h]
  unfold gv at h
  split at h
  · rename_i g hg
    rw [hg]
    simp [gdR, st_same h]
  · cases h
theorem vcD_no (d : Option Tmp) (op : Op) (t : TypeId) (p : String) (e : Array Edge) (j : Nat) (w : Bool) (f : Bool) (os : List (Oper × Bool)) (h : gv all j s = .v (.bool !w)) :
    vcD P G al all Q ((⟨d, op, t, p, e, some (j, w)⟩, f) :: os) s = (chk G.n d ∧ vcD P G al all Q os (putD s d skV)) := by
  rw [vcD_some, h]
  unfold gv at h
  split at h
  · rename_i g hg
    rw [hg]
    simp [gdR, st_same h]
  · cases h
theorem vcD_tt (d : Option Tmp) (op : Op) (t : TypeId) (p : String) (e : Array Edge) (j : Nat) (f : Bool) (os : List (Oper × Bool)) (h : gv all j s = .v (.bool true)) :
    vcD P G al all Q ((⟨d, op, t, p, e, some (j, true)⟩, f) :: os) s = stpM P G al ⟨d, op, t, p, e, some (j, true)⟩ Q (vcD P G al all Q os) f s := vcD_yes P G all Q s al d op t p e j true f os h
theorem vcD_ff (d : Option Tmp) (op : Op) (t : TypeId) (p : String) (e : Array Edge) (j : Nat) (f : Bool) (os : List (Oper × Bool)) (h : gv all j s = .v (.bool false)) :
    vcD P G al all Q ((⟨d, op, t, p, e, some (j, false)⟩, f) :: os) s = stpM P G al ⟨d, op, t, p, e, some (j, false)⟩ Q (vcD P G al all Q os) f s := vcD_yes P G all Q s al d op t p e j false f os h
theorem vcD_tf (d : Option Tmp) (op : Op) (t : TypeId) (p : String) (e : Array Edge) (j : Nat) (f : Bool) (os : List (Oper × Bool)) (h : gv all j s = .v (.bool false)) :
    vcD P G al all Q ((⟨d, op, t, p, e, some (j, true)⟩, f) :: os) s = (chk G.n d ∧ vcD P G al all Q os (putD s d skV)) := vcD_no P G all Q s al d op t p e j true f os h
theorem vcD_ft (d : Option Tmp) (op : Op) (t : TypeId) (p : String) (e : Array Edge) (j : Nat) (f : Bool) (os : List (Oper × Bool)) (h : gv all j s = .v (.bool true)) :
    vcD P G al all Q ((⟨d, op, t, p, e, some (j, false)⟩, f) :: os) s = (chk G.n d ∧ vcD P G al all Q os (putD s d skV)) := vcD_no P G all Q s al d op t p e j false f os h
theorem gdR_b (d : Option Nat) (A K : St → Prop) (g : Nat) (b w : Bool) : gdR G d A K s w (some g) (.v (.bool b)) = ((b = w → A (s.set g (.v (.bool w)))) ∧ (b = !w → chk G.n d ∧ K (putD (s.set g (.v (.bool !w))) d skV))) := rfl
theorem gdR_u (d : Option Nat) (A K : St → Prop) (g : Nat) (w : Bool) : gdR G d A K s w (some g) (.v (.tuple ⟨[]⟩)) = (chk G.n d ∧ K (putD s d skV)) := rfl
theorem finM_f (o : Oper) (rest : St → Prop) (r : Res) : finM P G al o s Q rest r false = (footB al s o.dst o.op = true ∧ finL P G (nmHas al (nm0 al o.dst o.op)) (mkd al o.dst) o s rest r) := rfl
theorem finM_t (o : Oper) (rest : St → Prop) (r : Res) : finM P G al o s Q rest r true = fin P G o s Q rest r := rfl
end
section
variable (d : Option Tmp) (op : Op) (t : TypeId) (p : String) (e : Array Edge) (gd : Option (Nat × Bool)) (rest : St → Prop) (C : Prop)
variable (N : Nat → Bool) (M : Bool)
theorem finL_go (k : C → V) : finL P G N M ⟨d, op, t, p, e, gd⟩ s rest (.go C k) = (chk G.n d ∧ ∃ h : C, rest (putD s d (k h))) := rfl
theorem finL_heap (k : C → V × List (Nat × Option OB)) : finL P G N M ⟨d, op, t, p, e, gd⟩ s rest (.heap C k) = (chk G.n d ∧ ∃ h : C, rest (app s d (k h))) := rfl
theorem finL_call (f : V) (as : List V) : finL P G N M ⟨d, op, t, p, e, gd⟩ s rest (.call f as) = (chk G.n d ∧ ∃ e, CallE P G N M f as s e ∧ rest (app s d e)) := rfl
end
theorem cutQ_x {α : Type} (i j : Nat) (F : α → St) (I : α → Prop) : cutQ G i F I Q (.exit j) s = if j = i then ∃ x, I x ∧ Ent G s (F x) else Q (.exit j) s := rfl
theorem cutQ_n {α : Type} (i : Nat) (F : α → St) (I : α → Prop) : cutQ G i F I Q .normal s = ∃ x, I x ∧ Ent G s (F x) := rfl
theorem cutQ_r {α : Type} (i : Nat) (F : α → St) (I : α → Prop) : cutQ G i F I Q .ret s = Q .ret s := rfl
theorem app_d (d : Option Nat) (x : V) (l : List (Nat × Option OB)) : app s d (x, l) = putD (hsets s l) d x := rfl
theorem hsets_n : hsets s [] = s := rfl
theorem hsets_c (i : Nat) (x : Option OB) (l : List (Nat × Option OB)) : hsets s ((i, x) :: l) = hsets (s.hset i x) l := rfl
theorem get_frz (p : Nat → Bool) (lo i : Nat) : (frz p lo s).get i = vwF p lo s 4 (s.get i) := rfl
theorem used_frz (p : Nat → Bool) (lo i : Nat) : (frz p lo s).used i = s.used i := rfl
def frzH (p : Nat → Bool) (lo : Nat) (s : St) (i : Nat) : Bool → Option OB
  | true => none
  | false => (s.hget i).map (frzO p lo s)
theorem hget_frz (p : Nat → Bool) (lo i : Nat) : (frz p lo s).hget i = frzH p lo s i (p i) := by
  unfold frzH St.hget frz
  simp only
  cases p i <;> rfl
theorem chk_s (n d : Nat) : chk n (some d) = (d < n) := rfl
theorem chk_n (n : Nat) : chk n none = True := rfl
theorem putD_s (d : Nat) (x : V) : putD s (some d) x = s.set d x := rfl
theorem putD_n (x : V) : putD s none x = s := rfl
theorem sub_v (x y : Value) : Sub (.v x) (.v y) = (x = y) := by
  apply propext
  constructor
  · intro h
    have h1 := h (default : World) (fun _ => False) x (.v x)
    cases h1; rfl
  · rintro rfl; exact Sub.refl _
theorem sub_refl (x : V) : Sub x x = True := eq_true (Sub.refl x)
end
attribute [go_sem] slcT slaRes slcRes slcGo optLo optHi bldRes fillV cellsV putCells bslRes bslV boxRes zeroA ldoRes ldBox stGo stArr stArx stRes mmRes capRes app_d hsets_n hsets_c get_frz used_frz hget_frz frzH frzO vwF vwS aprEff dropL srcV allP all0 pureV pure0 allOne oneV allOnes Option.map_some Option.map_none List.set_cons_zero List.set_cons_succ List.length_cons List.length_nil Option.any_some List.replicate_succ List.replicate_zero Bool.and_true Bool.true_and Nat.zero_mul Nat.mul_one Nat.add_zero Nat.zero_add Value.cells Array.toList List.range_succ List.getElem_map List.length_map List.getElem_append List.length_append List.length_take List.length_drop
attribute [go_sem] vc_nil vc_none fin_go fin_heap fin_call fin_br fin_stuck lstep ev get_set get_hset hget_set hget_hset used_set used_hset get_of hget_of used_of lkV lkH usH enumV putD_s putD_n vc_tt vc_ff vc_tf vc_ft gdb_b vc_cond cnd_t cnd_f vc_skip vc_seq vc_region vc_draw vc_block vc_exit vc_ret vc_loop kseq_n kseq_r kseq_x kblk_n kblk_r kblk_x ends_1 ends_n1 ends_2 ends_3 chk_s chk_n sub_refl sub_v gslot gv_eq resV resOK vw endsT_1 endsT_n1 endsT_2 endsT_3 endsT_0 endsT_n0 endsT_p aftT_r aftT_p resW renT renO toR tgt keepR dropsR outsR newN hasAll uniqN uniqP upT loT names keptN List.filter_cons List.filter_nil entS entH entH1 okN okL obOK injR apart coverR lkR true_or or_true aggRes aggEq fitsB fitB eqVs eqV eqX binRes intRes shrK andK addRes strRes nilEq nilEqIf pickRes unRes cvRes cvbRes bytesOf bytesOf_map lenRes ixRes ixgRes ixaRes ldRes fldaRes fldRes extRes nilRes mkfRes mkbRes decide_true exists_prop true_and and_true exists_true_left List.getElem?_cons_succ List.getElem?_cons_zero decide_eq_true_eq decide_eq_false_iff_not forall_const Bool.not_true Bool.not_false cond_true cond_false ite_true ite_false V.v.injEq Value.bool.injEq Value.int.injEq List.map_cons List.map_nil List.drop_zero List.drop_succ_cons List.take_succ_cons List.take_zero Option.getD_some false_implies implies_true not_true_eq_false not_false_eq_true Bool.not_eq_true Bool.not_eq_false
theorem rmap_take {α β : Type} (f : α → β) (l : List α) (n : Nat) : (l.map f).take n = (l.take n).map f := List.map_take.symm
theorem rmap_drop {α β : Type} (f : α → β) (l : List α) (n : Nat) : (l.map f).drop n = (l.drop n).map f := List.map_drop.symm
theorem rmap_append {α β : Type} (f : α → β) (l m : List α) : l.map f ++ m.map f = (l ++ m).map f := List.map_append.symm
attribute [go_sem] cutQ_x cutQ_n cutQ_r rmap_take rmap_drop rmap_append Int.toNat_zero Nat.sub_zero Nat.min_self List.take_length bslOB beq_self_eq_true aprRes aprGo arrV Option.isSome_some List.nil_append Int.natCast_nonneg stpM_eq vcD_nil vcD_none vcD_tt vcD_ff vcD_tf vcD_ft finM_f finM_t finL_go finL_heap finL_call alOf alC heapy pickO footB foot ptrN nm0 nmT tbl keyO nmPtr nmSrc nmHas List.cons_append List.all_cons List.all_nil List.contains_cons List.contains_nil Option.toList_some Option.toList_none Bool.not_or Bool.or_false Bool.or_true Bool.false_or Nat.reduceBEq Bool.true_or Bool.and_false Bool.false_and List.range_zero rowE Int.natCast_zero Int.cast_ofNat_Int Int.sub_zero Bool.not_eq_true' Bool.not_eq_false'
attribute [go_sem] lkpRes mkmRes mupRes delRes isKeyB lkM delM upM vOf keyV scal fitXs fitX lkG globs gl1 gl2 gl3 gl4 gl5 gl6 gl7
attribute [go_sem] gdb_u gdR_u vc_label vc_scope kscp_n kscp_r kscp_x
attribute [go_sem low] vc_gdb cnd_b gdR_b vcD_some
end Pm
attribute [go_sem_proc] reduceIte Nat.reduceLeDiff Nat.reduceEqDiff Nat.reduceAdd Nat.reduceLT reduceCtorEq
attribute [go_sem] Nat.le_refl Int.toNat_natCast
open Go Pm
def strE (s : ByteArray) : List V := [.v (.string s)]
def strs (lo : Nat) (l : List ByteArray) : V := .lst lo 1 (l.map strE)
def bl (b : Bool) : V := .v (.bool b)
def i64 (n : Int) : V := .v (.int .i64 n)
attribute [go_sem] strE strs bl i64
theorem allOnes_map {α : Type} {f : α → List V} (h : ∀ x, allOne (f x) = true) (l : List α) : allOnes (l.map f) = true := by
  induction l with
  | nil => rfl
  | cons a r ih => simp [allOnes, h, ih]
theorem allOnes_strs (l : List ByteArray) : allOnes (l.map strE) = true := allOnes_map (fun _ => rfl) l
attribute [go_sem] allOnes_strs
theorem bd_strs {lo : Nat} {l : List ByteArray} {as : List V} (h : ∀ x ∈ as, Bd x) (hm : strs lo l ∈ as) : l.length ≤ 140737488355328 := by
  cases h _ hm with
  | lst _ _ _ hl _ => simpa using hl

def byteOK (b : UInt8) : Bool := !(decide ((b.toNat : Int) < 32) || decide (126 < (b.toNat : Int)))
def rowB (s : ByteArray) : Bool := decide (1 ≤ (s.size : Int)) && decide ((s.size : Int) ≤ 160) && s.data.toList.all byteOK
def rowsB (l : List ByteArray) : Bool := l.all rowB && decide ((l.length : Int) ≤ 200)
def greatRows (l : List ByteArray) : Bool := decide (250 < (l.length : Int)) || l.any fun s => decide (200 < (s.size : Int))

theorem all_take_succ {α : Type} {p : α → Bool} {l : List α} {k : Nat} (hk : k < l.length) (h : (l.take k).all p = true) (hp : p l[k] = true) : (l.take (k + 1)).all p = true := by
  rw [List.take_add_one, List.getElem?_eq_getElem hk, List.all_append, h]
  simp [hp]
theorem take_snoc_map {α β : Type} (f : α → β) (l : List α) (k : Nat) (hk : k < l.length) : (l.take (k + 1)).map f = (l.take k).map f ++ [f l[k]] := by
  rw [List.take_add_one, List.getElem?_eq_getElem hk, List.map_append]; rfl
theorem all_false {α : Type} {p : α → Bool} {l : List α} {k : Nat} (hk : k < l.length) (hp : p l[k] = false) : l.all p = false :=
  List.all_eq_false.2 ⟨_, List.getElem_mem hk, by simp [hp]⟩
theorem take_full {α : Type} {l : List α} {k : Nat} (hk : k ≤ l.length) (h : ¬ (k : Int) < (l.length : Int)) : l.take k = l := by
  rw [List.take_of_length_le]; omega
theorem byte_at (s : ByteArray) (j : Nat) (h : j < s.size) : s.data.toList[j]'(by simpa using h) = s[j] := by simp [ByteArray.getElem_eq_getElem_data]

structure Hk where
  lo : Int
  drop : Int
  put : List ByteArray
structure Sh where
  first : List ByteArray
  chg : List Hk
instance : DecidableEq Hk := fun a b => by
  cases a; cases b; simp only [Hk.mk.injEq]; infer_instance
instance : DecidableEq Sh := fun a b => by
  cases a; cases b; simp only [Sh.mk.injEq]; infer_instance
def madeB (l : List ByteArray) (h : Hk) : Bool := (decide (0 ≤ h.lo) && decide (h.lo ≤ (l.length : Int))) && (decide (0 ≤ h.drop) && decide (h.drop ≤ (l.length : Int) - h.lo))
def madeL (l : List ByteArray) (h : Hk) : List ByteArray := if madeB l h = true then l.take h.lo.toNat ++ h.put ++ l.drop (h.lo + h.drop).toNat else []
open Go
namespace Pm

def nmOK (nm : List Nat) : Nat → V → Bool
  | 0, _ => false
  | n + 1, x => match x with
    | .any | .v _ | .lst _ _ _ | .fp _ => true
    | .ptr id _ | .eptr id _ _ _ | .own id _ _ _ | .mp id => nm.contains id
    | .agg cs | .tup cs | .fn _ cs => cs.all (nmOK nm n)
theorem R.nms {w w' : World} {O O' : Nat → Prop} {E E' : Env} {nm : List Nat} (hsz : w.heap.size ≤ w'.heap.size)
    (hO : ∀ b, ¬ O b → b < w.heap.size → ¬ O' b) (hw : ∀ b, ¬ O b → b < w.heap.size → isCells w b → w'.heap[b]? = w.heap[b]?)
    (hE : ∀ id, id ∈ nm → ∀ r, E id = some r → E' id = some r) : ∀ (n : Nat) {x : V} {y : Value}, nmOK nm n x = true → R w O E x y → R w' O' E' x y := by
  intro n
  induction n with
  | zero => intro x y h; cases h
  | succ n ih =>
    intro x y h hR
    cases hR with
    | r0 x y h0 => exact .r0 _ _ (h0.monoC hsz hO hw)
    | ptr id off b K C h1 => exact .ptr id off b K C (hE id (by simpa [nmOK] using h) _ h1)
    | eptr id i k sz b K C h1 hi => exact .eptr id i k sz b K C (hE id (by simpa [nmOK] using h) _ h1) hi
    | own id off len sz b K C y h1 hv => exact .own id off len sz b K C y (hE id (by simpa [nmOK] using h) _ h1) hv
    | mp id b K C h1 => exact .mp id b K C (hE id (by simpa [nmOK] using h) _ h1)
    | agg cs ys hn hr => exact .agg cs ys hn fun j u y h1 h2 => ih (List.all_eq_true.1 (by simpa [nmOK] using h) u (List.mem_of_getElem? h1)) (hr j u y h1 h2)
    | tup cs ys hn hr => exact .tup cs ys hn fun j u y h1 h2 => ih (List.all_eq_true.1 (by simpa [nmOK] using h) u (List.mem_of_getElem? h1)) (hr j u y h1 h2)
    | fn f cs ys hn hr => exact .fn f cs ys hn fun j u y h1 h2 => ih (List.all_eq_true.1 (by simpa [nmOK] using h) u (List.mem_of_getElem? h1)) (hr j u y h1 h2)
def keepV (nm : List Nat) (x : V) : V := match nmOK nm 4 x with
  | true => x
  | false => .any
theorem R.keepV {w w' : World} {O O' : Nat → Prop} {E E' : Env} {nm : List Nat} (hsz : w.heap.size ≤ w'.heap.size)
    (hO : ∀ b, ¬ O b → b < w.heap.size → ¬ O' b) (hw : ∀ b, ¬ O b → b < w.heap.size → isCells w b → w'.heap[b]? = w.heap[b]?)
    (hE : ∀ id, id ∈ nm → ∀ r, E id = some r → E' id = some r) {x : V} {y : Value} (h : R w O E x y) : R w' O' E' (keepV nm x) y := by
  unfold Pm.keepV
  split
  · rename_i e; exact h.nms hsz hO hw hE 4 e
  · exact .r0 _ _ (.any _)
theorem keepV_v (nm : List Nat) (x : Value) : keepV nm (.v x) = .v x := rfl
theorem keepV_any (nm : List Nat) : keepV nm .any = .any := rfl
theorem keepV_lst (nm : List Nat) (lo sz : Nat) (l : List (List V)) : keepV nm (.lst lo sz l) = .lst lo sz l := rfl
theorem keepV_fp (nm : List Nat) (l : List V) : keepV nm (.fp l) = .fp l := rfl
theorem keepV_ptr (nm : List Nat) (id off : Nat) : keepV nm (.ptr id off) = if nm.contains id = true then .ptr id off else .any := by
  unfold keepV nmOK; simp only; cases nm.contains id <;> rfl
theorem keepV_own (nm : List Nat) (id off len sz : Nat) : keepV nm (.own id off len sz) = if nm.contains id = true then .own id off len sz else .any := by
  unfold keepV nmOK; simp only; cases nm.contains id <;> rfl
theorem keepV_mp (nm : List Nat) (id : Nat) : keepV nm (.mp id) = if nm.contains id = true then .mp id else .any := by
  unfold keepV nmOK; simp only; cases nm.contains id <;> rfl
theorem keepV_agg (nm : List Nat) (l : List V) : keepV nm (.agg l) = if l.all (nmOK nm 3) = true then .agg l else .any := by
  unfold keepV nmOK; simp only; cases l.all (nmOK nm 3) <;> rfl
theorem keepV_tup (nm : List Nat) (l : List V) : keepV nm (.tup l) = if l.all (nmOK nm 3) = true then .tup l else .any := by
  unfold keepV nmOK; simp only; cases l.all (nmOK nm 3) <;> rfl
theorem keepV_fn (nm : List Nat) (f : Fn) (l : List V) : keepV nm (.fn f l) = if l.all (nmOK nm 3) = true then .fn f l else .any := by
  unfold keepV nmOK; simp only; cases l.all (nmOK nm 3) <;> rfl

def Lp (L : Loop) : Option Code → Loop
  | none => L
  | some c => { L with state := .done, pending := some c }
def Lb (L : Loop) : Loop := { L with state := .busy }

def rnd (fl : List (Nat × V)) (s : St) (lam : Nat) (L : Loop) : St := ⟨lkV fl, fun id => if lam = id then some (.obj (.loop (Lb L))) else s.hp id, s.us⟩
def bck (nm : List Nat) (s s2 : St) (d : Option Nat) (b : Bool) (lam : Nat) (L' : Loop) : St :=
  putD ⟨fun i => keepV nm (s.fr i), fun id => if lam = id then some (.obj (.loop L')) else s2.hp id, s2.us⟩ d (.v (.bool b))
def aft (fl : List (Nat × V)) (s : St) (lam : Nat) : St := ⟨lkV fl, fun id => if lam = id then none else s.hp id, s.us⟩
theorem get_rnd (fl : List (Nat × V)) (s : St) (lam : Nat) (L : Loop) (j : Nat) : (rnd fl s lam L).get j = lkV fl j := rfl
theorem hget_rnd (fl : List (Nat × V)) (s : St) (lam : Nat) (L : Loop) (j : Nat) : (rnd fl s lam L).hget j = if lam = j then some (.obj (.loop (Lb L))) else s.hget j := rfl
theorem used_rnd (fl : List (Nat × V)) (s : St) (lam : Nat) (L : Loop) (j : Nat) : (rnd fl s lam L).used j = s.used j := rfl
theorem get_bck (nm : List Nat) (s s2 : St) (d : Nat) (b : Bool) (lam : Nat) (L' : Loop) (j : Nat) : (bck nm s s2 (some d) b lam L').get j = if d = j then .v (.bool b) else keepV nm (s.get j) := rfl
theorem get_bck0 (nm : List Nat) (s s2 : St) (b : Bool) (lam : Nat) (L' : Loop) (j : Nat) : (bck nm s s2 none b lam L').get j = keepV nm (s.get j) := rfl
theorem hget_bck (nm : List Nat) (s s2 : St) (d : Option Nat) (b : Bool) (lam : Nat) (L' : Loop) (j : Nat) : (bck nm s s2 d b lam L').hget j = if lam = j then some (.obj (.loop L')) else s2.hget j := by cases d <;> rfl
theorem used_bck (nm : List Nat) (s s2 : St) (d : Option Nat) (b : Bool) (lam : Nat) (L' : Loop) (j : Nat) : (bck nm s s2 d b lam L').used j = s2.used j := by cases d <;> rfl
theorem get_aft (fl : List (Nat × V)) (s : St) (lam j : Nat) : (aft fl s lam).get j = lkV fl j := rfl
theorem hget_aft (fl : List (Nat × V)) (s : St) (lam j : Nat) : (aft fl s lam).hget j = if lam = j then none else s.hget j := rfl
theorem used_aft (fl : List (Nat × V)) (s : St) (lam j : Nat) : (aft fl s lam).used j = s.used j := rfl

def RQ (nm : List Nat) (s : St) (d : Option Nat) (lam : Nat) (L : Loop) (rest : St → Prop) : Exit → St → Prop
  | .normal, s2 => s2.hget lam = some (.obj (.loop (Lb L))) ∧ rest (bck nm s s2 d true lam (Lp L none))
  | .ret, s2 => s2.hget lam = some (.obj (.loop (Lb L))) ∧ rest (bck nm s s2 d false lam (Lp L (some .ret)))
  | .exit id, s2 => s2.hget lam = some (.obj (.loop (Lb L))) ∧ rest (bck nm s s2 d false lam (Lp L (some (.exit id))))
  | _, _ => False
def zipF : List Nat → List V → List (Nat × V)
  | i :: is, x :: xs => (i, x) :: zipF is xs
  | _, _ => []
def mvO : Oper → Option (Nat × Nat)
  | ⟨some d, .assign (.tmp t), _, _, _, none⟩ => some (d, t)
  | _ => none
def mvL : List Oper → Option (List (Nat × Nat))
  | [] => some []
  | o :: r => match mvO o, mvL r with
    | some m, some l => some (m :: l)
    | _, _ => none
def mvC : Code → Option (List (Nat × Nat))
  | .skip => some []
  | .region _ ⟨ops⟩ false => mvL ops
  | .seq a b => match mvC a, mvC b with
    | some x, some y => some (x ++ y)
    | _, _ => none
  | _ => none
def mvF : List (Nat × Nat) → List (Nat × V) → List (Nat × V)
  | [], fl => fl
  | (d, t) :: r, fl => mvF r ((d, lkV fl t) :: fl)
structure YI (P : Program) (G : Gh) (l lam : Nat) (L : Loop) (fl : List (Nat × V)) (ps : List Nat) (mv : List (Nat × Nat)) (asg body : Code) (n : Nat) : Prop where
  rd : G.rd = none
  hL : L.state = .ready ∧ L.pending = none ∧ L.params = ps.toArray ∧ L.assign = asg ∧ L.body = body ∧ L.tmps.size = n
  hps : ps.Nodup ∧ ∀ p ∈ ps, p < n
  hmv : mvC asg = some mv
  hmvn : ∀ p ∈ mv, p.1 < n
  lam : lam ∈ G.nm ∧ G.E0 lam = some (some l, 0, 0)
  fr : ∃ O1 : Nat → Prop, (∀ b, ¬ O1 b → ¬ G.Of b ∧ ¬ G.M b) ∧ ∀ i, nmOK G.nm 4 (lkV fl i) = true ∧ R G.w0 O1 G.E0 (lkV fl i) (L.tmps.getD i undef)
def midQ (G : Gh) {α : Type} (F : α → St) (I : α → Prop) (Q : Exit → St → Prop) : Exit → St → Prop
  | .normal, s => ∃ x, I x ∧ Ent G s (F x)
  | e, s => Q e s
theorem midQ_n {G : Gh} {α : Type} {F : α → St} {I : α → Prop} {Q : Exit → St → Prop} (s : St) : midQ G F I Q .normal s = ∃ x, I x ∧ Ent G s (F x) := rfl
theorem midQ_r {G : Gh} {α : Type} {F : α → St} {I : α → Prop} {Q : Exit → St → Prop} (s : St) : midQ G F I Q .ret s = Q .ret s := rfl
theorem midQ_x {G : Gh} {α : Type} {F : α → St} {I : α → Prop} {Q : Exit → St → Prop} (i : Nat) (s : St) : midQ G F I Q (.exit i) s = Q (.exit i) s := rfl
attribute [go_sem] midQ_n midQ_r midQ_x
theorem semC_cutN {P : Program} {G : Gh} {c : Code} {s : St} {Q : Exit → St → Prop} {i : Nat} {α : Type} (F : α → St) (I : α → Prop) (h1 : SemC P G c s (cutQ G i F I Q)) (h2 : ∀ x, I x → Q .normal (F x)) :
    SemC P G c s (kblk i Q) := by
  intro a w hs
  refine wpIn_mono (h1 a w hs) ?_
  rintro e a' w' ⟨s', hq, hs'⟩
  have fin : (∃ x, I x ∧ Ent G s' (F x)) → lift G Q .normal a' w' := fun ⟨x, hI, he⟩ => ⟨F x, h2 x hI, he _ _ hs'⟩
  cases e with
  | normal =>
    obtain ⟨s2, h3, h4⟩ := fin hq
    exact ⟨s2, h3, h4⟩
  | exit j =>
    simp only [cutQ] at hq
    split at hq
    · rename_i hj
      obtain ⟨s2, h3, h4⟩ := fin hq
      exact ⟨s2, by simp only [kblk]; rw [if_pos hj]; exact h3, h4⟩
    · rename_i hj
      exact ⟨s', by simp only [kblk]; rw [if_neg hj]; exact hq, hs'⟩
  | ret => exact ⟨s', hq, hs'⟩
  | goto => exact ⟨s', hq, hs'⟩
  | panic => exact ⟨s', hq, hs'⟩
  | outgrown => exact ⟨s', hq, hs'⟩
def orElse (a b : Option Code) : Option Code := match a with
  | some c => some c
  | none => b
def rgO (i : Nat) : Code → Option Code
  | .region j ops d => if j = i then some (.region j ops d) else none
  | .seq a b => orElse (rgO i a) (rgO i b)
  | .cond _ a b => orElse (rgO i a) (rgO i b)
  | .block _ c => rgO i c
  | .loop c => rgO i c
  | .scope c => rgO i c
  | .rangeFunc _ _ a b => orElse (rgO i a) (rgO i b)
  | _ => none
def bkO (i : Nat) : Code → Option Code
  | .seq a b => orElse (bkO i a) (bkO i b)
  | .cond _ a b => orElse (bkO i a) (bkO i b)
  | .block j c => if j = i then some c else bkO i c
  | .loop c => bkO i c
  | .scope c => bkO i c
  | .rangeFunc _ _ a b => orElse (bkO i a) (bkO i b)
  | _ => none
def rgOf (i : Nat) (c : Option Code) : Code := ((c.bind (rgO i)).getD .skip)
def bkOf (i : Nat) (c : Option Code) : Code := ((c.bind (bkO i)).getD .skip)
theorem semC_code {P : Program} {G : Gh} {c c' : Code} {s : St} {Q : Exit → St → Prop} (e : c' = c) (h : SemC P G c' s Q) : SemC P G c s Q := e ▸ h
attribute [go_sem] get_rnd hget_rnd used_rnd get_bck get_bck0 hget_bck used_bck get_aft hget_aft used_aft keepV_v keepV_any keepV_lst keepV_fp keepV_ptr keepV_own keepV_mp keepV_agg keepV_tup keepV_fn nmOK zipF mvF RQ
end Pm
open Go Pm
def lnE (lo : Nat) (r : List ByteArray) : List V := [strs lo r]
def lns (lo : Nat) (l : List (List ByteArray)) : V := .lst lo 1 (l.map (lnE lo))
structure Ch where
  id : Int
  lines : List (List ByteArray)
def chE (lo : Nat) (c : Ch) : List V := [i64 c.id, lns lo c.lines]
def chs (lo : Nat) (t : List Ch) : V := .lst lo 2 (t.map (chE lo))
def txE (lo : Nat) (t : List Ch) : V := .agg [chs lo t]
structure Hp where
  id : Int
  post : Int
  rate : Int
def hpE (h : Hp) : List V := [i64 h.id, i64 h.post, i64 h.rate]
structure Sr where
  fr : Int
  to : Int
  helper : Int
  sent : Int
structure Se where
  back : Bool
  lines : List (List ByteArray)
structure Ro where
  text : List Ch
  helpers : List Hp
  shares : List Sr
  sheets : List Se
def hps (lo : Nat) (l : List Hp) : V := .lst lo 3 (l.map hpE)
attribute [go_sem] lnE lns chE chs txE hpE hps
theorem allOnes_lns (n : Nat) (l : List (List ByteArray)) : allOnes (l.map (lnE n)) = true := allOnes_map (fun _ => rfl) l
theorem allOnes_chs (n : Nat) (l : List Ch) : allOnes (l.map (chE n)) = true := allOnes_map (fun _ => rfl) l
theorem allOnes_hps (l : List Hp) : allOnes (l.map hpE) = true := allOnes_map (fun _ => rfl) l
attribute [go_sem] allOnes_lns allOnes_chs allOnes_hps
theorem bd_lns {lo : Nat} {l : List (List ByteArray)} (h : Bd (lns lo l)) : l.length ≤ 140737488355328 ∧ ∀ r ∈ l, r.length ≤ 140737488355328 := by
  cases h with
  | lst _ _ _ h1 h2 =>
    refine ⟨by simpa using h1, fun r hr => ?_⟩
    have := h2 (lnE lo r) (List.mem_map_of_mem hr) (strs lo r) (by simp [lnE])
    cases this with
    | lst _ _ _ h3 _ => simpa using h3
theorem bd_chs {lo : Nat} {t : List Ch} (h : Bd (chs lo t)) : t.length ≤ 140737488355328 ∧ ∀ c ∈ t, c.lines.length ≤ 140737488355328 ∧ ∀ r ∈ c.lines, r.length ≤ 140737488355328 := by
  cases h with
  | lst _ _ _ h1 h2 => exact ⟨by simpa using h1, fun c hc => bd_lns (h2 (chE lo c) (List.mem_map_of_mem hc) (lns lo c.lines) (by simp [chE]))⟩
theorem bd_agg {cs : List V} (h : Bd (.agg cs)) : ∀ x ∈ cs, Bd x := by
  cases h with
  | agg _ h => exact h
structure BdRo (r : Ro) : Prop where
  t : r.text.length ≤ 140737488355328 ∧ ∀ c ∈ r.text, c.lines.length ≤ 140737488355328 ∧ ∀ r ∈ c.lines, r.length ≤ 140737488355328
  h : r.helpers.length ≤ 140737488355328
  s : r.shares.length ≤ 140737488355328
  x : r.sheets.length ≤ 140737488355328 ∧ ∀ c ∈ r.sheets, c.lines.length ≤ 140737488355328 ∧ ∀ r ∈ c.lines, r.length ≤ 140737488355328
def allPre {α : Type} (f : List α → α → Bool) : List α → List α → Bool
  | _, [] => true
  | pre, x :: r => f pre x && allPre f (pre ++ [x]) r
theorem allPre_app {α : Type} (f : List α → α → Bool) : ∀ (l m pre : List α), allPre f pre (l ++ m) = (allPre f pre l && allPre f (pre ++ l) m) := by
  intro l
  induction l with
  | nil => intro m pre; simp [allPre]
  | cons x r ih => intro m pre; simp [allPre, ih, Bool.and_assoc]
theorem allPre_step {α : Type} (f : List α → α → Bool) (l : List α) (k : Nat) (hk : k < l.length) : allPre f [] (l.take (k + 1)) = (allPre f [] (l.take k) && f (l.take k) l[k]) := by
  rw [List.take_add_one, List.getElem?_eq_getElem hk, allPre_app]; simp [allPre]
theorem allPre_bad {α : Type} {f : List α → α → Bool} {l : List α} {k : Nat} (hk : k < l.length) (h : f (l.take k) l[k] = false) : allPre f [] l = false := by
  have := allPre_app f (l.take (k + 1)) (l.drop (k + 1)) []
  rw [List.take_append_drop, allPre_step f l k hk, h] at this
  simpa using this

def inB (n lo hi : Int) : Bool := decide (lo ≤ n) && decide (n ≤ hi)
def letterB (b : UInt8) : Bool := !(decide ((b.toNat : Int) < 97) || decide (122 < (b.toNat : Int)))
def wordB (s : ByteArray) : Bool := s.data.toList.all letterB && inB s.size 1 12
def lineB (l : List ByteArray) : Bool := inB l.length 1 10 && l.all wordB
def chapB (pre : List Ch) (c : Ch) : Bool := inB c.id 0 9999 && inB c.lines.length 1 10 && !(pre.any fun d => decide (d.id = c.id)) && c.lines.all lineB
def textB (t : List Ch) : Bool := inB t.length 1 6 && allPre chapB [] t
def OKl (l : List (List ByteArray)) : Prop := l.length ≤ 40 ∧ ∀ r ∈ l, r.length ≤ 15 ∧ ∀ s ∈ r, s.size ≤ 40
def OKt (t : List Ch) : Prop := t.length ≤ 10 ∧ ∀ c ∈ t, OKl c.lines
structure OKr (r : Ro) : Prop where
  t : OKt r.text
  h : r.helpers.length ≤ 8
  s : r.shares.length ≤ 12
  x : r.sheets.length ≤ 12 ∧ ∀ x ∈ r.sheets, OKl x.lines
end Go.Proofs.YtppcbmpiphhphaaGreatDoor
