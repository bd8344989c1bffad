import Derived.Orders
import Derived.Test.YtppcbmpiphhphaaGreatDoorQU07
namespace Go.Proofs.YtppcbmpiphhphaaGreatDoor
open Go
set_option linter.unusedSimpArgs false
set_option linter.unusedVariables false
namespace Pm

def heapy : Op → Bool
  | .box _ _ | .alloc _ | .store _ _ _ | .buildSlice _ _ _ => true
  | .call ⟨.builtin .append, _, _⟩ => true
  | .call ⟨.builtin .delete, _, _⟩ => true
  | .makeMap _ _ | .mapUpdate _ _ _ _ => true
  | _ => false

theorem set_comm {s : St} {d e : Nat} {x y : V} (h : d ≠ e) : (s.set d x).set e y = (s.set e y).set d x := by
  cases s with
  | mk fr hp us =>
    simp only [St.set, St.mk.injEq, and_true]
    funext j
    by_cases e1 : e = j
    · subst e1
      rw [if_pos rfl, if_neg h, if_pos rfl]
    · simp [e1]
theorem putD_comm {s : St} {d : Nat} {x y : V} {dst : Option Nat} (h : dst ≠ some d) : putD (s.set d x) dst y = (putD s dst y).set d x := by
  cases dst with
  | none => rfl
  | some e => exact set_comm (fun he => h (by rw [he]))

def NH : Res → Prop
  | .heap _ _ => False
  | _ => True
theorem addRes_nh (k : IntKind) (k' : IntKind) (n : Int) : NH (addRes k k' n) := by
  unfold addRes
  repeat' split
  all_goals first | exact trivial
theorem intRes_nh (o : BinOp) (k : IntKind) (k' : IntKind) (x : Int) (y : Int) : NH (intRes o k k' x y) := by
  unfold intRes
  repeat' split
  all_goals first | exact trivial | exact addRes_nh _ _ _
theorem strRes_nh (o : BinOp) (x : ByteArray) (y : ByteArray) : NH (strRes o x y) := by
  unfold strRes
  repeat' split
  all_goals first | exact trivial
theorem nilEq_nh (o : BinOp) (b : Bool) : NH (nilEq o b) := by
  unfold nilEq
  repeat' split
  all_goals first | exact trivial
theorem nilEqIf_nh (o : BinOp) (C : Prop) : NH (nilEqIf o C) := by
  unfold nilEqIf
  repeat' split
  all_goals first | exact trivial
theorem binRes_nh (o : BinOp) (t : TK) (x : V) (y : V) : NH (binRes o t x y) := by
  unfold binRes
  repeat' split
  all_goals first | exact trivial | exact intRes_nh _ _ _ _ _ | exact strRes_nh _ _ _ | exact nilEq_nh _ _ | exact nilEqIf_nh _ _
theorem aggRes_nh (o : BinOp) (fk : Option (List TypeDesc)) (x y : V) (r : Res) (h : NH r) : NH (aggRes o fk x y r) := by
  unfold aggRes
  split
  · split
    · unfold aggEq; split <;> trivial
    · trivial
  · exact h
theorem unRes_nh (o : UnOp) (x : V) : NH (unRes o x) := by
  unfold unRes
  repeat' split
  all_goals first | exact trivial
theorem cvRes_nh (a : TK) (b : TK) (x : V) : NH (cvRes a b x) := by
  unfold cvRes
  repeat' split
  all_goals first | exact trivial
theorem cvbRes_nh (lo : Nat) (a : TK) (b : TK) (p : Bool) (q : Bool) (x : V) : NH (cvbRes lo a b p q x) := by
  unfold cvbRes
  repeat' split
  all_goals first | exact trivial | exact cvRes_nh _ _ _
theorem pickRes_nh (a : V) (b : V) (x : V) : NH (pickRes a b x) := by
  unfold pickRes
  repeat' split
  all_goals first | exact trivial
theorem nilRes_nh (x : V) : NH (nilRes x) := by
  unfold nilRes
  repeat' split
  all_goals first | exact trivial
theorem ldRes_nh (k : Option (Bool × Nat)) (x : V) : NH (ldRes k x) := by
  unfold ldRes
  repeat' split
  all_goals first | exact trivial
theorem ldBox_nh (a : Bool) (n : Nat) (off : Nat) (cs : List V) : NH (ldBox a n off cs) := by
  unfold ldBox
  repeat' split
  all_goals first | exact trivial
theorem ldoRes_nh (s : St) (k : Option (Bool × Nat)) (x : V) : NH (ldoRes s k x) := by
  unfold ldoRes
  repeat' split
  all_goals first | exact trivial | exact ldRes_nh _ _ | exact ldBox_nh _ _ _ _
theorem fldaRes_nh (k : Option (Nat × Bool × Nat)) (x : V) : NH (fldaRes k x) := by
  unfold fldaRes
  repeat' split
  all_goals first | exact trivial
theorem fldRes_nh (k : Option (Nat × Bool × Nat)) (x : V) : NH (fldRes k x) := by
  unfold fldRes
  repeat' split
  all_goals first | exact trivial
theorem extRes_nh (k : Nat) (x : V) : NH (extRes k x) := by
  unfold extRes
  repeat' split
  all_goals first | exact trivial
theorem lenRes_nh (k : TK) (x : V) : NH (lenRes k x) := by
  unfold lenRes
  repeat' split
  all_goals first | exact trivial
theorem ixRes_nh (k : TK) (x : V) (i : V) : NH (ixRes k x i) := by
  unfold ixRes
  repeat' split
  all_goals first | exact trivial
theorem ixgRes_nh (k : Option (Nat × Bool × Nat)) (x i : V) (r : Res) (h : NH r) : NH (ixgRes k x i r) := by
  unfold ixgRes
  repeat' split
  all_goals first | exact trivial | exact h
theorem mkbRes_nh (f : Fn) (l : List V) : NH (mkbRes f l) := by
  unfold mkbRes
  split <;> trivial
theorem mkfRes_nh (f : Fn) (l : List V) : NH (mkfRes f l) := by
  unfold mkfRes
  split <;> trivial
theorem slcGo_nh (C : Prop) (lo : Option Int) (hi : Option Int) (n : Nat) (k : Nat → Nat → V) : NH (slcGo C lo hi n k) := by
  unfold slcGo
  repeat' split
  all_goals first | exact trivial
theorem slcRes_nh (k : TK) (e : Option (TypeId × Nat)) (x : V) (lo : Option V) (hi : Option V) : NH (slcRes k e x lo hi) := by
  unfold slcRes
  repeat' split
  all_goals first | exact trivial | exact slcGo_nh _ _ _ _ _
theorem slaRes_nh (a : Option (Nat × Nat)) (x : V) (l h : Option V) (r : Res) (hr : NH r) : NH (slaRes a x l h r) := by
  unfold slaRes
  split
  · trivial
  · exact hr
theorem slcT_nh (b : Bool) (r : Res) (h : NH r) : NH (slcT b r) := by
  cases b
  · exact h
  · trivial
theorem ixaRes_nh (a : Option (TypeId × Nat)) (b : Option (Nat × Nat)) (x : V) (i : V) : NH (ixaRes a b x i) := by
  unfold ixaRes
  repeat' split
  all_goals first | exact trivial
theorem bldRes_nh (a : Option (List Value)) (b : Option (List (Nat × Nat))) (x : List (Nat × V)) : NH (bldRes a b x) := by
  unfold bldRes
  repeat' split
  all_goals first | exact trivial
theorem mmRes_nh (b : Builtin) (x : V) (y : V) : NH (mmRes b x y) := by
  unfold mmRes
  repeat' split
  all_goals first | exact trivial
theorem capRes_nh (k : TK) (x : V) : NH (capRes k x) := by
  unfold capRes
  repeat' split
  all_goals first | exact trivial

theorem lkpRes_nh (s : St) (k : Option (KD × V)) (b : Bool) (x : V) (y : Option Value) : NH (lkpRes s k b x y) := by
  unfold lkpRes
  repeat' split
  all_goals first | exact trivial
theorem lstep_nh {P : Program} {ow : Nat → Bool} {lo : Nat} {s : St} {dst : Option Nat} {op : Op} (h : heapy op = false) : NH (lstep P ow lo s dst op) := by
  unfold lstep
  split
  all_goals first | exact trivial | exact pickRes_nh _ _ _ | exact nilRes_nh _ | exact ldoRes_nh _ _ _ | exact fldaRes_nh _ _ | exact fldRes_nh _ _ | exact extRes_nh _ _ | exact lenRes_nh _ _ | exact ixaRes_nh _ _ _ _ | exact ixgRes_nh _ _ _ _ (ixRes_nh _ _ _) | exact aggRes_nh _ _ _ _ _ (binRes_nh _ _ _ _) | exact unRes_nh _ _ | exact cvbRes_nh _ _ _ _ _ _ | exact slcT_nh _ _ (slaRes_nh _ _ _ _ _ (slcRes_nh _ _ _ _ _)) | exact bldRes_nh _ _ _ | exact mmRes_nh _ _ _ | exact capRes_nh _ _ | exact mkfRes_nh _ _ | exact mkbRes_nh _ _ | exact lkpRes_nh _ _ _ _ _ | (exfalso; cases h; done)

def ptrN : V → List Nat
  | .ptr id _ => [id]
  | .eptr id _ _ _ => [id]
  | .own id _ _ _ => [id]
  | .mp id => [id]
  | _ => []
def foot (s : St) (d : Option Nat) : Op → List Nat
  | .load _ x => ptrN (ev s x)
  | .store _ x _ => ptrN (ev s x)
  | .box _ _ => d.toList
  | .alloc _ => d.toList
  | .buildSlice _ _ _ => d.toList
  | .lookup _ x _ _ => ptrN (ev s x)
  | .makeMap _ _ => d.toList
  | .mapUpdate _ x _ _ => ptrN (ev s x)
  | .call ⟨.builtin .delete, ⟨[x, y]⟩, _⟩ => ptrN (ev s x)
  | .call ⟨.builtin .append, ⟨[x, y]⟩, _⟩ => d.toList ++ (ptrN (ev s x) ++ ptrN (ev s y))
  | _ => []

structure Agr (s s' : St) (d : Option Nat) (op : Op) : Prop where
  e : ∀ x, x ∈ op.operands → ev s' x = ev s x
  m : ∀ id, id ∈ foot s d op → s'.hp id = s.hp id ∧ s'.us id = s.us id
theorem Agr.refl (s : St) (d : Option Nat) (op : Op) : Agr s s d op := ⟨fun _ _ => rfl, fun _ _ => ⟨rfl, rfl⟩⟩

theorem lstep_agr {P : Program} {ow : Nat → Bool} {lo : Nat} {s s' : St} {dst : Option Nat} {op : Op} (h : Agr s s' dst op) : lstep P ow lo s' dst op = lstep P ow lo s dst op := by
  have e := h.e
  have box : ∀ cs, foot s dst op = dst.toList → boxRes s' dst cs = boxRes s dst cs := fun cs hf => by
    unfold boxRes
    split
    · rename_i d cs
      have hu : s'.used d = s.used d := (h.m d (by simp [hf])).2
      rw [hu]
    · rfl
  have hpt : ∀ p : V, (∀ i, i ∈ ptrN p → i ∈ foot s dst op) → ∀ i, i ∈ ptrN p → s'.hget i = s.hget i := fun p hp i hi => (h.m i (hp i hi)).1
  unfold lstep
  split
  · rw [e _ (by simp [Op.operands])]
  · rw [e _ (by simp [Op.operands])]
  · rename_i c x y
    rw [e c (by simp [Op.operands]), e x (by simp [Op.operands]), e y (by simp [Op.operands])]
  · rw [e _ (by simp [Op.operands])]
  · rename_i t x
    rw [e _ (by simp [Op.operands])]
    have hq := hpt (ev s x) (fun i hi => hi)
    revert hq
    generalize ev s x = p
    intro hq
    unfold ldoRes
    split
    · rw [hq _ (by simp [ptrN])]
    · rw [hq _ (by simp [ptrN])]
    · rfl
  · rw [e _ (by simp [Op.operands])]
  · rw [e _ (by simp [Op.operands])]
  · rw [e _ (by simp [Op.operands])]
  · rw [e _ (by simp [Op.operands, Call.operands])]
  · rename_i x y t t'
    rw [e x (by simp [Op.operands, Call.operands]), e y (by simp [Op.operands, Call.operands])]
    have hx := hpt (ev s x) (fun i hi => List.mem_append_right _ (List.mem_append_left _ hi))
    have hy := hpt (ev s y) (fun i hi => List.mem_append_right _ (List.mem_append_right _ hi))
    have hd : ∀ d, dst = some d → s'.used d = s.used d := fun d hd => (h.m d (List.mem_append_left _ (by simp [hd]))).2
    revert hx hy
    generalize ev s x = u
    generalize ev s y = v
    intro hx hy
    unfold aprRes
    split
    · rename_i d el sz _
      have e1 : arrV s' el sz u = arrV s el sz u := by
        unfold arrV
        split
        · rw [hx _ (by simp [ptrN])]
        · rfl
        · rfl
      have e2 : srcV s' sz v = srcV s sz v := by
        unfold srcV
        split
        · rfl
        · rw [hy _ (by simp [ptrN])]
        · rfl
        · rfl
      rw [e1, e2]
      unfold aprGo
      rw [hd d rfl]
    · rfl
  · rename_i x y t t'
    rw [e x (by simp [Op.operands, Call.operands]), e y (by simp [Op.operands, Call.operands])]
    have hq := hpt (ev s x) (fun i hi => hi)
    revert hq
    generalize ev s x = q
    intro hq
    unfold delRes
    split
    · rw [hq _ (by simp [ptrN])]
    · rfl
  · rename_i b x y t t' _ _
    rw [e x (by simp [Op.operands, Call.operands]), e y (by simp [Op.operands, Call.operands])]
  · rename_i x t
    rw [e x (by simp [Op.operands, Call.operands])]
  · rename_i t x i
    rw [e x (by simp [Op.operands]), e i (by simp [Op.operands])]
  · rename_i t x i
    rw [e x (by simp [Op.operands]), e i (by simp [Op.operands])]
  · rename_i f cap
    rw [List.map_congr_left (f := ev s') (g := ev s) fun x hx => e x (by simp [Op.operands, hx])]
  · rename_i f b bs
    rw [List.map_congr_left (f := ev s') (g := ev s) fun x hx => e x (by simp [Op.operands]; rcases List.mem_cons.1 hx with rfl | hx <;> simp [*])]
  · rename_i o t x y _
    rw [e x (by simp [Op.operands]), e y (by simp [Op.operands])]
  · rw [e _ (by simp [Op.operands])]
  · rw [e _ (by simp [Op.operands])]
  · rename_i t x l u
    have h1 : l.map (ev s') = l.map (ev s) := by clear h box hpt; cases l <;> simp [Op.operands] at e ⊢ <;> simp [e]
    have h2 : u.map (ev s') = u.map (ev s) := by clear h box hpt; cases l <;> cases u <;> simp [Op.operands] at e ⊢ <;> simp [e]
    rw [e x (by simp [Op.operands]), h1, h2]
  · rename_i t ps
    rw [List.map_congr_left (f := fun (p : Nat × Operand) => (p.1, ev s' p.2)) (g := fun (p : Nat × Operand) => (p.1, ev s p.2)) fun x hx => by rw [e x.2 (by simp [Op.operands]; exact ⟨_, hx⟩)]]
  · rename_i t n ps
    rw [List.map_congr_left (f := fun (p : Nat × Operand) => (p.1, ev s' p.2)) (g := fun (p : Nat × Operand) => (p.1, ev s p.2)) fun x hx => by rw [e x.2 (by simp [Op.operands]; exact ⟨_, hx⟩)]]
    unfold bslRes
    split
    · split
      · split
        · rfl
        · rename_i d _
          have hu : s'.used d = s.used d := (h.m d (by simp [foot])).2
          rw [hu]
        · rfl
      · rfl
    · rfl
  · rw [e _ (by simp [Op.operands])]; exact box _ rfl
  · exact box _ rfl
  · rename_i t p x
    rw [e p (by simp [Op.operands]), e x (by simp [Op.operands])]
    cases dst with
    | none =>
      have hq := hpt (ev s p) (fun i hi => hi)
      revert hq
      generalize ev s p = q
      intro hq
      simp only
      unfold stRes
      split
      · rw [hq _ (by simp [ptrN])]
      · rw [hq _ (by simp [ptrN])]
      · rfl
    | some d' => rfl
  · rename_i t x k ok
    rw [e x (by simp [Op.operands]), e k (by simp [Op.operands])]
    have hq := hpt (ev s x) (fun i hi => hi)
    revert hq
    generalize ev s x = q
    intro hq
    unfold lkpRes
    split
    · rw [hq _ (by simp [ptrN])]
    · rfl
  · unfold mkmRes
    split
    · rename_i d kd z hd
      have hu : s'.used d = s.used d := (h.m d (by simp [foot])).2
      rw [hu]
    · rfl
  · rename_i t x k v
    rw [e x (by simp [Op.operands]), e k (by simp [Op.operands]), e v (by simp [Op.operands])]
    cases dst with
    | none =>
      have hq := hpt (ev s x) (fun i hi => hi)
      revert hq
      generalize ev s x = q
      intro hq
      simp only
      unfold mupRes
      split
      · rw [hq _ (by simp [ptrN])]
      · rfl
    | some d' => rfl
  · rename_i f as ts
    rw [e f (by simp [Op.operands, Call.operands]), List.map_congr_left (f := ev s') (g := ev s) fun x hx => e x (by simp [Op.operands, Call.operands, hx])]
  · rfl
theorem dropL_mem {s : St} {el sz : Nat} {x : V} {l : List (List V)} {io : Option Nat} {C : Prop} (h : arrV s el sz x = some (l, io, C)) {p : Nat × Option OB} (hp : p ∈ dropL io) : p.1 ∈ ptrN x := by
  unfold arrV at h
  split at h
  · split at h
    · simp only [Option.some.injEq, Prod.mk.injEq] at h
      obtain ⟨_, rfl, _⟩ := h
      simp [dropL] at hp
      subst hp
      simp [ptrN]
    · cases h
  · simp only [Option.some.injEq, Prod.mk.injEq] at h
    obtain ⟨_, rfl, _⟩ := h
    simp [dropL] at hp
  · cases h
theorem lstep_foot {P : Program} {ow : Nat → Bool} {lo : Nat} {s : St} {dst : Option Nat} {op : Op} {C : Prop} {k : C → V × List (Nat × Option OB)} (h : lstep P ow lo s dst op = .heap C k) (hC : C) : ∀ p, p ∈ (k hC).2 → p.1 ∈ foot s dst op := by
  by_cases hh : heapy op = false
  · have := lstep_nh (P := P) (ow := ow) (lo := lo) (s := s) (dst := dst) hh
    rw [h] at this
    exact this.elim
  have box : ∀ cs, foot s dst op = dst.toList → boxRes s dst cs = .heap C k → ∀ p, p ∈ (k hC).2 → p.1 ∈ foot s dst op := fun cs hf hb p hp => by
    unfold boxRes at hb
    split at hb
    · cases hb
      simp at hp
      rw [hf, hp]; simp
    · cases hb
  cases op with
  | box t x => exact box _ rfl h
  | alloc t => exact box _ rfl h
  | buildSlice t n parts =>
    obtain ⟨parts⟩ := parts
    intro p hp
    have h' : bslRes P (dst.any ow || n == 0) (dst.any fun i => ow (i + 1000000)) lo s n dst (sliceElem P t) (parts.map fun p => (p.1, ev s p.2)) = .heap C k := h
    unfold bslRes at h'
    split at h'
    · split at h'
      · split at h'
        · cases h'
        · cases h'
          simp at hp
          rw [hp]; simp [foot]
        · cases h'
      · cases h'
    · cases h'
  | store t x y =>
    intro p hp
    cases dst with
    | some d => cases h
    | none =>
      have h' : stRes s (loadK P t) (ev s x) (cellsV (ev s y)) = .heap C k := h
      show p.1 ∈ ptrN (ev s x)
      unfold stRes at h'
      split at h'
      · split at h'
        · rename_i hx _ _ _
          cases h'; simp at hp; simp_all [ptrN]
        · cases h'
      · split at h'
        · cases h'; simp at hp; simp_all [ptrN]
        · cases h'; simp at hp; simp_all [ptrN]
        · cases h'; simp at hp; simp_all [ptrN]
        · cases h'
      · cases h'
  | makeMap t r =>
    intro p hp
    cases r with
    | some r => cases h
    | none =>
      have h' : mkmRes s dst (mapK P t) = .heap C k := h
      unfold mkmRes at h'
      split at h'
      · cases h'; simp at hp; rw [hp]; simp [foot]
      · cases h'
  | mapUpdate t x y z =>
    intro p hp
    cases dst with
    | some d => cases h
    | none =>
      have h' : mupRes s (mapK P t) (ev s x) (keyV (ev s y)) (ev s z) = .heap C k := h
      show p.1 ∈ ptrN (ev s x)
      unfold mupRes at h'
      split at h'
      · split at h'
        · rename_i hx _ _ _ _
          cases h'; simp at hp; simp_all [ptrN]
        · cases h'
      · cases h'
  | call c =>
    obtain ⟨f, ⟨as⟩, ⟨ts⟩⟩ := c
    cases f with
    | builtin b =>
      cases b with
      | delete =>
        match as, ts with
        | [x, y], [t, t'] =>
          intro p hp
          have h' : delRes s (mapK P t) (ev s x) (keyV (ev s y)) = .heap C k := h
          show p.1 ∈ ptrN (ev s x)
          unfold delRes at h'
          split at h'
          · split at h'
            · cases h'; simp at hp; simp_all [ptrN]
            · cases h'
          · cases h'
        | [], _ => cases h
        | [_], _ => cases h
        | [_, _], [] => cases h
        | [_, _], [_] => cases h
        | [_, _], _ :: _ :: _ :: _ => cases h
        | _ :: _ :: _ :: _, _ => cases h
      | append =>
        match as, ts with
        | [x, y], [t, t'] =>
          intro p hp
          have h' : aprRes P (!dst.any ow) lo s t t' (ev s x) (ev s y) dst (sliceElem P t) = .heap C k := h
          show p.1 ∈ dst.toList ++ (ptrN (ev s x) ++ ptrN (ev s y))
          unfold aprRes at h'
          split at h'
          · rename_i d el sz _
            unfold aprGo at h'
            split at h'
            · rename_i l io C1 new C2 h1 h2
              cases h'
              unfold aprEff at hp
              split at hp
              · rcases List.mem_append.1 hp with hp | hp
                · exact List.mem_append_right _ (List.mem_append_left _ (dropL_mem h1 hp))
                · simp at hp; rw [hp]; simp
              · rcases List.mem_append.1 hp with hp | hp
                · exact List.mem_append_right _ (List.mem_append_left _ (dropL_mem h1 hp))
                · simp at hp; rcases hp with hp | hp <;> (rw [hp]; simp)
            · cases h'
          · cases h'
        | [], _ => cases h
        | [_], _ => cases h
        | [_, _], [] => cases h
        | [_, _], [_] => cases h
        | [_, _], _ :: _ :: _ :: _ => cases h
        | _ :: _ :: _ :: _, _ => cases h
      | _ => exact absurd rfl hh
    | _ => exact absurd rfl hh
  | _ => exact absurd rfl hh

def CallE (P : Program) (G : Gh) (N : Nat → Bool) (M : Bool) (f : V) (as : List V) (s : St) (e : V × List (Nat × Option OB)) : Prop :=
  (M = false → e.2 = []) ∧ (∀ p, p ∈ e.2 → N p.1 = true) ∧ ∀ s', (∀ id, N id = true → s'.hp id = s.hp id ∧ s'.us id = s.us id) → ∀ (o : Oper) (Q : Exit → St → Prop) (rest : St → Prop), chk G.n o.dst → rest (app s' o.dst e) → SemCall P G o s' Q rest f as
theorem CallE.at {P : Program} {G : Gh} {N : Nat → Bool} {M : Bool} {f : V} {as : List V} {s s' : St} {e : V × List (Nat × Option OB)} (h : CallE P G N M f as s e) (he : ∀ id, N id = true → s'.hp id = s.hp id ∧ s'.us id = s.us id) : CallE P G N M f as s' e :=
  ⟨h.1, h.2.1, fun s'' e' => h.2.2 s'' fun id hi => ⟨(e' id hi).1.trans (he id hi).1, (e' id hi).2.trans (he id hi).2⟩⟩
theorem CallE.pure {P : Program} {G : Gh} {N : Nat → Bool} {M : Bool} {f : V} {as : List V} {s : St} {r : V} (h : ∀ s', (∀ id, N id = true → s'.hp id = s.hp id ∧ s'.us id = s.us id) → ∀ (o : Oper) (Q : Exit → St → Prop) (rest : St → Prop), chk G.n o.dst → rest (putD s' o.dst r) → SemCall P G o s' Q rest f as) : CallE P G N M f as s (r, []) :=
  ⟨fun _ => rfl, fun _ h => (nomatch h), h⟩
theorem callGives {P : Program} {G : Gh} {N : Nat → Bool} {M : Bool} {s : St} {k : FuncId} {cap as as' : List V} {r : Nat → V} (hp : Gives P k as' r) (hs : Subs (as ++ cap) as') (hpure : allP (as ++ cap) = true) : CallE P G N M (.fn (.func k) cap) as s (r G.lo, []) :=
  .pure fun _ _ _ _ _ hc hr => call_step (callGives0 hp hs hpure) hc hr
def finL (P : Program) (G : Gh) (N : Nat → Bool) (M : Bool) (o : Oper) (s : St) (rest : St → Prop) : Res → Prop
  | .go C k => chk G.n o.dst ∧ ∃ h : C, rest (putD s o.dst (k h))
  | .heap C k => chk G.n o.dst ∧ ∃ h : C, rest (app s o.dst (k h))
  | .call f as => chk G.n o.dst ∧ ∃ e, CallE P G N M f as s e ∧ rest (app s o.dst e)
  | _ => False
theorem finL_fin {P : Program} {G : Gh} {N : Nat → Bool} {M : Bool} {o : Oper} {s : St} {Q : Exit → St → Prop} {rest : St → Prop} {r : Res} (h : finL P G N M o s rest r) : fin P G o s Q rest r := by
  cases r with
  | go C k => exact h
  | heap C k => exact h
  | call f as => obtain ⟨h1, r, h2, h3⟩ := h; exact h2.2.2 s (fun _ _ => ⟨rfl, rfl⟩) _ _ _ h1 h3
  | br => exact h.elim
  | stuck => exact h.elim
theorem finL_mono {P : Program} {G : Gh} {N : Nat → Bool} {M : Bool} {o : Oper} {s : St} {rest rest' : St → Prop} {r : Res} (hr : ∀ s, rest s → rest' s) (h : finL P G N M o s rest r) : finL P G N M o s rest' r := by
  cases r with
  | go C k => obtain ⟨h1, h2, h3⟩ := h; exact ⟨h1, h2, hr _ h3⟩
  | heap C k => obtain ⟨h1, h2, h3⟩ := h; exact ⟨h1, h2, hr _ h3⟩
  | call f as => obtain ⟨h1, r, h2, h3⟩ := h; exact ⟨h1, r, h2, hr _ h3⟩
  | br => exact h.elim
  | stuck => exact h.elim

theorem SemStep.mono {P : Program} {G : Gh} {o : Oper} {s : St} {Q : Exit → St → Prop} {rest rest' : St → Prop} (hr : ∀ s, rest s → rest' s) (h : SemStep P G o s Q rest) : SemStep P G o s Q rest' :=
  fun a w hs => Oper.wpIn_mono (fun _ _ ⟨s', h1, h2⟩ => ⟨s', hr s' h1, h2⟩) (h a w hs)
theorem fin_mono {P : Program} {G : Gh} {o : Oper} {s : St} {Q : Exit → St → Prop} {rest rest' : St → Prop} {r : Res} (hr : ∀ s, rest s → rest' s) (h : fin P G o s Q rest r) : fin P G o s Q rest' r := by
  cases r with
  | go C k => obtain ⟨h1, h2, h3⟩ := h; exact ⟨h1, h2, hr _ h3⟩
  | heap C k => obtain ⟨h1, h2, h3⟩ := h; exact ⟨h1, h2, hr _ h3⟩
  | call f as => exact fun x l ts h1 h2 h3 => (h x l ts h1 h2 h3).mono hr
  | br C => obtain ⟨h1, h2⟩ := h; exact ⟨h1, fun b hb => hr _ (h2 b hb)⟩
  | stuck => exact SemStep.mono hr h

def wantS (all : List Oper) (o : Oper) (s : St) : Option Bool := match o.guard with
  | none => some true
  | some (j, w) => match gslot all j with
    | none => none
    | some g => match s.get g with
      | .v (.bool b) => some (b == w)
      | .v (.tuple ⟨[]⟩) => some false
      | _ => none
theorem wantS_spec {G : Gh} {s : St} {a : Act} {w : World} {E : Env} (hs : SimE G s a w E) {all : List Oper} {o : Oper} {b : Bool} (h : wantS all o s = some b) : Region.wanted o (yielded all.toArray a.tmps) = b := by
  unfold wantS at h
  split at h
  · rename_i hg; cases h; simp [Region.wanted, hg]
  · rename_i j w' hg
    split at h
    · cases h
    · rename_i g hgs
      split at h
      · rename_i b' hb
        cases h
        have := yielded_of hs hgs hb
        simp [Region.wanted, hg, this]
      · rename_i hb
        cases h
        have := yielded_und hs hgs hb
        simp [Region.wanted, hg, this]
      · cases h

structure Al where
  l : List Nat
  /-- names of blocks, told by the prover: of the operation with this slot, of the store through this slot -/
  tb : List (Nat × List Nat)
  /-- slots of calls that give new memory -/
  nw : List Nat
def mkd (al : Al) (d : Option Nat) : Bool := match d with
  | some d => al.nw.contains d
  | none => false
def tbl : List (Nat × List Nat) → Option Nat → Option (List Nat)
  | (k, l) :: r, some d => if k = d then some l else tbl r (some d)
  | _, _ => none
def keyO (d : Option Nat) : Op → Option Nat
  | .store _ (.tmp t) _ => some t
  | _ => d
abbrev Nm := List Nat × Bool
def nmHas (al : Al) (n : Nm) (m : Nat) : Bool := n.1.contains m || (n.2 && !al.l.contains m)
def nmPtr (al : Al) : Operand → Nm
  | .tmp t => if al.l.contains t then ([t], false) else ([], true)
  | _ => ([], true)
def nmSrc (al : Al) : Operand → List Nat
  | .tmp t => if al.l.contains t then [t] else []
  | _ => []
def nmT (al : Al) (d : Option Nat) : Op → Nm
  | .load _ x => nmPtr al x
  | .store _ x _ => nmPtr al x
  | .box _ _ | .alloc _ | .buildSlice _ _ _ | .makeMap _ _ => (d.toList, false)
  | .lookup _ x _ _ | .mapUpdate _ x _ _ => nmPtr al x
  | .call ⟨.builtin .delete, ⟨[x, _]⟩, _⟩ => nmPtr al x
  | .call ⟨.builtin .append, ⟨[x, y]⟩, _⟩ => (d.toList ++ ((nmPtr al x).1 ++ nmSrc al y), (nmPtr al x).2)
  | _ => ([], false)
def nm0 (al : Al) (d : Option Nat) (op : Op) : Nm := match tbl al.tb (keyO d op) with
  | some l => (l, false)
  | none => nmT al d op
def nmDis (al : Al) (a b : Nm) : Bool :=
  a.1.all (fun m => !b.1.contains m && (!b.2 || al.l.contains m)) && b.1.all (fun m => !a.2 || al.l.contains m) && !(a.2 && b.2)
theorem nmDis_spec {al : Al} {a b : Nm} (h : nmDis al a b = true) {m : Nat} (h1 : nmHas al a m = true) (h2 : nmHas al b m = true) : False := by
  simp only [nmDis, nmHas, Bool.and_eq_true, Bool.or_eq_true, List.all_eq_true, Bool.not_eq_true'] at h h1 h2
  obtain ⟨⟨h3, h4⟩, h5⟩ := h
  rcases h1 with h1 | ⟨h1, h1'⟩
  · obtain ⟨q1, q2⟩ := h3 m (by simpa using h1)
    rcases h2 with h2 | ⟨h2, h2'⟩
    · rw [q1] at h2; cases h2
    · rcases q2 with q2 | q2
      · rw [q2] at h2; cases h2
      · rw [q2] at h2'; cases h2'
  · rcases h2 with h2 | ⟨h2, h2'⟩
    · rcases h4 m (by simpa using h2) with q | q
      · rw [q] at h1; cases h1
      · rw [q] at h1'; cases h1'
    · rw [h1, h2] at h5; cases h5
def footB (al : Al) (s : St) (d : Option Nat) (op : Op) : Bool := (foot s d op).all (nmHas al (nm0 al d op))
def indep (al : Al) (all : List Oper) (x y : Oper) : Bool := x.apart all.toArray y && (nmDis al (nm0 al x.dst x.op) (nm0 al y.dst y.op) || ((!heapy x.op && !heapy y.op) && (!mkd al x.dst && !mkd al y.dst)))

def stepL (P : Program) (G : Gh) (al : Al) (all : List Oper) (o : Oper) (s : St) (K : St → Prop) : Prop :=
  (wantS all o s = some true ∧ footB al s o.dst o.op = true ∧ finL P G (nmHas al (nm0 al o.dst o.op)) (mkd al o.dst) o s K (lstep P G.ow G.lo s o.dst o.op)) ∨ (wantS all o s = some false ∧ chk G.n o.dst ∧ K (putD s o.dst skV))
def stepF (P : Program) (G : Gh) (all : List Oper) (Q : Exit → St → Prop) (o : Oper) (s : St) (K : St → Prop) : Prop :=
  (wantS all o s = some true ∧ SemStep P G o s Q K) ∨ (wantS all o s = some false ∧ chk G.n o.dst ∧ K (putD s o.dst skV))
theorem stepL_stepF {P : Program} {G : Gh} {al : Al} {all : List Oper} {Q : Exit → St → Prop} {o : Oper} {s : St} {K : St → Prop} (h : stepL P G al all o s K) : stepF P G all Q o s K :=
  orMap (fun ⟨h1, _, h2⟩ => ⟨h1, fin_step (finL_fin h2)⟩) id h
theorem stepL_mono {P : Program} {G : Gh} {al : Al} {all : List Oper} {o : Oper} {s : St} {K K' : St → Prop} (hk : ∀ s, K s → K' s) (h : stepL P G al all o s K) : stepL P G al all o s K' :=
  orMap (fun ⟨h1, h0, h2⟩ => ⟨h1, h0, finL_mono hk h2⟩) (fun ⟨h1, h2, h3⟩ => ⟨h1, h2, hk _ h3⟩) h

theorem stepF_op {P : Program} {G : Gh} {ops : List Oper} {Q : Exit → St → Prop} {i : Nat} {o : Oper} (hi : ops.toArray[i]? = some o) {s : St} {K : St → Prop} (h : stepF P G ops Q o s K)
    {a : Act} {w : World} (hs : Sim G s a w) {K' : Act → World → Prop} (hK : ∀ s' a' w', K s' → Sim G s' a' w' → K' a' w') : wpOpIn G.F 0 P ops.toArray (lift G Q) i K' a w := by
  obtain ⟨E, hE⟩ := hs
  unfold wpOpIn
  simp only [hi]
  rcases h with ⟨h1, h2⟩ | ⟨h1, h2, h3⟩
  · rw [wantS_spec hE h1]
    exact Oper.wpIn_mono (fun a' w' ⟨s', h3, h4⟩ => hK s' a' w' h3 h4) (h2 a w ⟨E, hE⟩)
  · rw [wantS_spec hE h1]
    exact ⟨fun _ _ => trivial, hK _ _ _ h3 ⟨E, hE.put (chk_spec h2) (.r0 _ _ (.v _))⟩⟩

def CallD (P : Program) (G : Gh) (Q : Exit → St → Prop) (N : Nat → Bool) (f : V) (as : List V) (s : St) : Prop :=
  ∀ s', (∀ id, N id = true → s'.hp id = s.hp id ∧ s'.us id = s.us id) → ∀ (o : Oper) (rest : St → Prop), chk G.n o.dst → SemCall P G o s' Q rest f as
def diesR (P : Program) (G : Gh) (Q : Exit → St → Prop) (N : Nat → Bool) (s : St) : Res → Prop
  | .call f as => CallD P G Q N f as s
  | _ => False
def diesL (P : Program) (G : Gh) (al : Al) (all : List Oper) (Q : Exit → St → Prop) (o : Oper) (s : St) : Prop :=
  chk G.n o.dst ∧ wantS all o s = some true ∧ footB al s o.dst o.op = true ∧ diesR P G Q (nmHas al (nm0 al o.dst o.op)) s (lstep P G.ow G.lo s o.dst o.op)
theorem diesL_stepF {P : Program} {G : Gh} {al : Al} {all : List Oper} {Q : Exit → St → Prop} {o : Oper} {s : St} {K : St → Prop} (h : diesL P G al all Q o s) : stepF P G all Q o s K := by
  obtain ⟨h0, h1, _, h2⟩ := h
  refine .inl ⟨h1, fin_step ?_⟩
  cases hl : lstep P G.ow G.lo s o.dst o.op with
  | call f as => rw [hl] at h2; exact h2 s (fun _ _ => ⟨rfl, rfl⟩) o _ h0
  | _ => rw [hl] at h2; exact h2.elim
def anyS (P : Program) (G : Gh) (al : Al) (ops : List Oper) (sem : Nat → Bool) (Q : Exit → St → Prop) : Nat → Array Bool → St → Prop
  | 0, listed, s => Region.ready .any ops.toArray listed = [] ∧ Q .normal s
  | n + 1, listed, s => (Region.ready .any ops.toArray listed = [] → Q .normal s) ∧
    ((∀ i ∈ Region.ready .any ops.toArray listed, ∀ o, ops[i]? = some o → stepL P G al ops o s (anyS P G al ops sem Q n (listed.setIfInBounds i true)) ∨ diesL P G al ops Q o s) ∨
      ∃ i o, Region.ready .any ops.toArray listed = [i] ∧ sem i = true ∧ ops[i]? = some o ∧ stepF P G ops Q o s (anyS P G al ops sem Q n (listed.setIfInBounds i true)))

theorem wpAny_of_anyS {P : Program} {G : Gh} {al : Al} {ops : List Oper} {sem : Nat → Bool} {Q : Exit → St → Prop} : ∀ (n : Nat) (listed : Array Bool) (s : St), anyS P G al ops sem Q n listed s →
    ∀ a w, Sim G s a w → wpAnyIn G.F 0 P .any ops.toArray (lift G Q) n listed a w := by
  intro n
  induction n with
  | zero => intro listed s h a w hs; exact ⟨h.1, s, h.2, hs⟩
  | succ n ih =>
    intro listed s h a w hs
    refine ⟨fun h0 => ⟨s, h.1 h0, hs⟩, fun i hi => ?_⟩
    rcases h.2 with h | ⟨j, o, h1, _, h2, h3⟩
    · obtain ⟨_, o, ho, _⟩ := mem_ready.1 hi
      have ho' : ops[i]? = some o := by simpa using ho
      exact stepF_op ho ((h i hi o ho').elim stepL_stepF diesL_stepF) hs fun s' a' w' hk hs' => ih _ s' hk a' w' hs'
    · rw [h1] at hi
      simp at hi
      subst hi
      exact stepF_op (by simpa using h2) h3 hs fun s' a' w' hk hs' => ih _ s' hk a' w' hs'

def yieldsL (P : Program) (G : Gh) (al : Al) (all : List Oper) (o : Oper) (s : St) (e : V × List (Nat × Option OB)) : Prop :=
  chk G.n o.dst ∧ ((wantS all o s = some true ∧ footB al s o.dst o.op = true ∧ ((∃ C k, ∃ h : C, lstep P G.ow G.lo s o.dst o.op = .go C k ∧ (k h, []) = e) ∨ (∃ f as, lstep P G.ow G.lo s o.dst o.op = .call f as ∧ CallE P G (nmHas al (nm0 al o.dst o.op)) (mkd al o.dst) f as s e) ∨
      ∃ C k, ∃ h : C, lstep P G.ow G.lo s o.dst o.op = .heap C k ∧ k h = e)) ∨
    (wantS all o s = some false ∧ (skV, []) = e))
theorem yieldsL_step {P : Program} {G : Gh} {al : Al} {all : List Oper} {o : Oper} {s : St} {e : V × List (Nat × Option OB)} (h : yieldsL P G al all o s e) {K : St → Prop} (hK : K (app s o.dst e)) : stepL P G al all o s K := by
  obtain ⟨h0, ⟨h1, hf, ⟨C, k, hC, h2, rfl⟩ | ⟨f, as, h2, h3⟩ | ⟨C, k, hC, h2, rfl⟩⟩ | ⟨h1, rfl⟩⟩ := h
  · exact .inl ⟨h1, hf, by rw [h2]; exact ⟨h0, hC, hK⟩⟩
  · exact .inl ⟨h1, hf, by rw [h2]; exact ⟨h0, e, h3, hK⟩⟩
  · exact .inl ⟨h1, hf, by rw [h2]; exact ⟨h0, hC, hK⟩⟩
  · exact .inr ⟨h1, h0, hK⟩
theorem yieldsL_of {P : Program} {G : Gh} {al : Al} {all : List Oper} {o : Oper} {s : St} {K : St → Prop} (h : stepL P G al all o s K) : ∃ e, yieldsL P G al all o s e ∧ K (app s o.dst e) := by
  rcases h with ⟨h1, hf, h2⟩ | ⟨h1, h2, h3⟩
  · cases hl : lstep P G.ow G.lo s o.dst o.op with
    | go C k => rw [hl] at h2; obtain ⟨q1, q2, q3⟩ := h2; exact ⟨_, ⟨q1, .inl ⟨h1, hf, .inl ⟨C, k, q2, hl, rfl⟩⟩⟩, q3⟩
    | call f as => rw [hl] at h2; obtain ⟨q1, r, q2, q3⟩ := h2; exact ⟨_, ⟨q1, .inl ⟨h1, hf, .inr (.inl ⟨f, as, hl, q2⟩)⟩⟩, q3⟩
    | heap C k => rw [hl] at h2; obtain ⟨q1, q2, q3⟩ := h2; exact ⟨_, ⟨q1, .inl ⟨h1, hf, .inr (.inr ⟨C, k, q2, hl, rfl⟩)⟩⟩, q3⟩
    | br => rw [hl] at h2; exact h2.elim
    | stuck => rw [hl] at h2; exact h2.elim
  · exact ⟨_, ⟨h2, .inr ⟨h1, rfl⟩⟩, h3⟩

theorem hsets_fr {s : St} {l : List (Nat × Option OB)} : (hsets s l).fr = s.fr := by
  induction l generalizing s with
  | nil => rfl
  | cons p r ih => exact ih
theorem hsets_mem {s : St} {l : List (Nat × Option OB)} {id : Nat} (h : ∀ p, p ∈ l → p.1 ≠ id) : (hsets s l).hp id = s.hp id ∧ (hsets s l).us id = s.us id := by
  induction l generalizing s with
  | nil => exact ⟨rfl, rfl⟩
  | cons p r ih =>
    obtain ⟨i, o⟩ := p
    have h1 := ih (s := s.hset i o) fun p hp => h p (List.mem_cons_of_mem _ hp)
    have hne : i ≠ id := h (i, o) (List.mem_cons_self ..)
    exact ⟨h1.1.trans (by simp [St.hset, hne]), h1.2.trans (by simp [St.hset, hne])⟩
theorem app_get {d : Option Nat} {e : V × List (Nat × Option OB)} {s : St} {g : Nat} (h : d ≠ some g) : (app s d e).get g = s.get g := by
  have h1 : (hsets s e.2).get g = s.get g := congrFun hsets_fr g
  unfold app
  cases d with
  | none => exact h1
  | some d =>
    have hne : d ≠ g := fun e => h (by rw [e])
    simp [putD, get_set, hne, h1]
theorem app_ev {d : Option Nat} {e : V × List (Nat × Option OB)} {s : St} {y : Operand} (h : ∀ k, d = some k → y ≠ .tmp k) : ev (app s d e) y = ev s y := by
  cases y with
  | tmp t => exact app_get (fun e => h t e rfl)
  | _ => rfl
theorem app_mem {d : Option Nat} {e : V × List (Nat × Option OB)} {s : St} {id : Nat} (h : ∀ p, p ∈ e.2 → p.1 ≠ id) : (app s d e).hp id = s.hp id ∧ (app s d e).us id = s.us id := by
  have h1 := hsets_mem (s := s) h
  unfold app
  cases d <;> exact h1
theorem wantS_app {all : List Oper} {o : Oper} {s : St} {dst : Option Nat} {e : V × List (Nat × Option OB)} (h : ∀ d, dst = some d → d ∉ o.looksAt all.toArray) : wantS all o (app s dst e) = wantS all o s := by
  unfold wantS
  cases hg : o.guard with
  | none => rfl
  | some gw =>
    obtain ⟨j, b⟩ := gw
    simp only
    cases hgs : gslot all j with
    | none => rfl
    | some g =>
      have hne : dst ≠ some g := fun e => h g e (by
        unfold gslot at hgs
        split at hgs
        · rename_i o' ho'
          simp [Oper.looksAt, hg, ho', hgs]
        · cases hgs)
      simp only [app_get hne]
theorem ops_ne {all : List Oper} {o : Oper} {d : Nat} (h : d ∉ o.looksAt all.toArray) : ∀ x, x ∈ o.op.operands → x ≠ .tmp d := by
  rintro x hx rfl
  exact h (List.mem_append_left _ (List.mem_filterMap.2 ⟨.tmp d, by simpa using hx, rfl⟩))
theorem foot_e {s s' : St} {d : Option Nat} {op : Op} (e : ∀ x, x ∈ op.operands → ev s' x = ev s x) : foot s' d op = foot s d op := by
  unfold foot
  split
  · rw [e _ (by simp [Op.operands])]
  · rw [e _ (by simp [Op.operands])]
  · rfl
  · rfl
  · rfl
  · rw [e _ (by simp [Op.operands])]
  · rfl
  · rw [e _ (by simp [Op.operands])]
  · rename_i x y _
    rw [e x (by simp [Op.operands, Call.operands])]
  · rename_i x y _
    rw [e x (by simp [Op.operands, Call.operands]), e y (by simp [Op.operands, Call.operands])]
  · rfl
theorem yieldsL_want {P : Program} {G : Gh} {al : Al} {all : List Oper} {o : Oper} {s s' : St} {e : V × List (Nat × Option OB)} (he : ∀ x, x ∈ o.op.operands → ev s' x = ev s x) (hw : wantS all o s' = wantS all o s)
    (hm : ∀ id, nmHas al (nm0 al o.dst o.op) id = true → s'.hp id = s.hp id ∧ s'.us id = s.us id) (h : yieldsL P G al all o s e) : yieldsL P G al all o s' e := by
  unfold yieldsL footB
  rw [hw, foot_e he]
  obtain ⟨h0, ⟨h1, hf, h2⟩ | h⟩ := h
  · rw [lstep_agr ⟨he, fun id hi => hm id (List.all_eq_true.1 hf id hi)⟩]
    refine ⟨h0, .inl ⟨h1, hf, ?_⟩⟩
    rcases h2 with h2 | ⟨f, as, q1, q2⟩ | h2
    · exact .inl h2
    · exact .inr (.inl ⟨f, as, q1, q2.at hm⟩)
    · exact .inr (.inr h2)
  · exact ⟨h0, .inr h⟩
theorem yieldsL_heapy {P : Program} {G : Gh} {al : Al} {all : List Oper} {o : Oper} {s : St} {e : V × List (Nat × Option OB)} (h : yieldsL P G al all o s e) {p : Nat × Option OB} (hp : p ∈ e.2) :
    (heapy o.op = true ∨ mkd al o.dst = true) ∧ nmHas al (nm0 al o.dst o.op) p.1 = true := by
  obtain ⟨h0, ⟨h1, hf, ⟨C, k, hC, h2, rfl⟩ | ⟨f, as, h2, h3⟩ | ⟨C, k, hC, h2, rfl⟩⟩ | ⟨h1, rfl⟩⟩ := h
  · cases hp
  · refine ⟨.inr ?_, h3.2.1 p hp⟩
    cases hm : mkd al o.dst with
    | true => rfl
    | false => rw [h3.1 hm] at hp; cases hp
  · have hid := lstep_foot h2 hC p hp
    refine ⟨.inl ?_, List.all_eq_true.1 hf p.1 hid⟩
    cases hh : heapy o.op with
    | true => rfl
    | false => have := lstep_nh (P := P) (ow := G.ow) (lo := G.lo) (s := s) (dst := o.dst) hh; rw [h2] at this; exact this.elim
  · cases hp
theorem hset_comm {s : St} {i j : Nat} {x y : Option OB} (h : i ≠ j) : (s.hset i x).hset j y = (s.hset j y).hset i x := by
  cases s with
  | mk fr hp us =>
    simp only [St.hset, St.mk.injEq, true_and]
    constructor
    · funext k
      by_cases e1 : j = k
      · subst e1; rw [if_pos rfl, if_neg h, if_pos rfl]
      · simp [e1]
    · funext k
      cases (i == k) <;> cases (j == k) <;> rfl
theorem hsets_hset {s : St} {l : List (Nat × Option OB)} {i : Nat} {x : Option OB} (h : ∀ p, p ∈ l → p.1 ≠ i) : hsets (s.hset i x) l = (hsets s l).hset i x := by
  induction l generalizing s with
  | nil => rfl
  | cons p r ih =>
    obtain ⟨j, o⟩ := p
    simp only [hsets]
    rw [hset_comm (Ne.symm (h (j, o) (List.mem_cons_self ..))), ih fun p hp => h p (List.mem_cons_of_mem _ hp)]
theorem hsets_comm {s : St} {l m : List (Nat × Option OB)} (h : ∀ p q, p ∈ l → q ∈ m → p.1 ≠ q.1) : hsets (hsets s l) m = hsets (hsets s m) l := by
  induction l generalizing s with
  | nil => rfl
  | cons p r ih =>
    obtain ⟨j, o⟩ := p
    simp only [hsets]
    rw [ih fun p q hp hq => h p q (List.mem_cons_of_mem _ hp) hq, hsets_hset fun q hq => (h (j, o) q (List.mem_cons_self ..) hq).symm]
theorem hsets_set {s : St} {l : List (Nat × Option OB)} {d : Nat} {x : V} : hsets (s.set d x) l = (hsets s l).set d x := by
  induction l generalizing s with
  | nil => rfl
  | cons p r ih => exact ih (s := s.hset p.1 p.2)
theorem app_comm {s : St} {d e : Option Nat} {x y : V × List (Nat × Option OB)} (h : ∀ k, d = some k → e ≠ some k) (hw : ∀ p q, p ∈ x.2 → q ∈ y.2 → p.1 ≠ q.1) :
    app (app s d x) e y = app (app s e y) d x := by
  have hp : ∀ (u : St) (l : List (Nat × Option OB)) (d : Option Nat) (x : V), hsets (putD u d x) l = putD (hsets u l) d x := fun u l d x => by
    cases d with
    | none => rfl
    | some d => exact hsets_set
  have pp : ∀ u : St, putD (putD u d x.1) e y.1 = putD (putD u e y.1) d x.1 := fun u => by
    cases d with
    | none => rfl
    | some d => exact putD_comm (h d rfl)
  simp only [app, hp]
  rw [pp, hsets_comm hw]

theorem stepL_put {P : Program} {G : Gh} {al : Al} {all : List Oper} {oi oj : Oper} {s : St} {x : V × List (Nat × Option OB)} {K : St → Prop} (hin : indep al all oi oj = true)
    (hy : yieldsL P G al all oi s x) (h : stepL P G al all oj (app s oi.dst x) K) : stepL P G al all oj s fun s' => yieldsL P G al all oi s' x ∧ K (app s' oi.dst x) := by
  simp only [indep, Bool.and_eq_true, Bool.or_eq_true, Bool.not_eq_true'] at hin
  obtain ⟨hap, hnm⟩ := hin
  obtain ⟨h1, h2, h3⟩ := Oper.apart_spec hap
  obtain ⟨y, hyj, hK⟩ := yieldsL_of h
  have ej : ∀ x', x' ∈ oj.op.operands → ev (app s oi.dst x) x' = ev s x' := fun x' hx' => app_ev fun k hk => ops_ne (h1 k hk) x' hx'
  have no : ∀ id, nmHas al (nm0 al oi.dst oi.op) id = true → nmHas al (nm0 al oj.dst oj.op) id = true → ((heapy oi.op = true ∨ mkd al oi.dst = true) ∨ heapy oj.op = true ∨ mkd al oj.dst = true) → False := fun id a b c => by
    rcases hnm with hnm | ⟨⟨g1, g2⟩, g3, g4⟩
    · exact nmDis_spec hnm a b
    · rcases c with (c | c) | c | c
      · rw [g1] at c; cases c
      · rw [g3] at c; cases c
      · rw [g2] at c; cases c
      · rw [g4] at c; cases c
  -- the other one, taken first
  have hyj' : yieldsL P G al all oj s y := by
    refine yieldsL_want (fun x' hx' => (ej x' hx').symm) (wantS_app h1).symm (fun id hid => ?_) hyj
    have : (app s oi.dst x).hp id = s.hp id ∧ (app s oi.dst x).us id = s.us id := app_mem fun p hp e => by
      obtain ⟨a, b⟩ := yieldsL_heapy hy hp
      subst e
      exact no p.1 b hid (.inl a)
    exact ⟨this.1.symm, this.2.symm⟩
  refine yieldsL_step hyj' ⟨?_, ?_⟩
  · refine yieldsL_want (fun x' hx' => app_ev fun k hk => ops_ne (h3 k hk) x' hx') (wantS_app h3) (fun id hid => app_mem fun p hp e => ?_) hy
    obtain ⟨a, b⟩ := yieldsL_heapy hyj' hp
    subst e
    exact no p.1 hid b (.inr a)
  · rw [app_comm (fun k hk he => h2 k he hk) (fun p q hp hq e => by
      obtain ⟨a1, a2⟩ := yieldsL_heapy hyj' hp
      obtain ⟨b1, b2⟩ := yieldsL_heapy hy hq
      rw [e] at a2
      exact no q.1 b2 a2 (.inl b1))]
    exact hK

theorem diesL_put {P : Program} {G : Gh} {al : Al} {all : List Oper} {oi oj : Oper} {s : St} {x : V × List (Nat × Option OB)} {Q : Exit → St → Prop} (hin : indep al all oi oj = true)
    (hy : yieldsL P G al all oi s x) (h : diesL P G al all Q oj (app s oi.dst x)) : diesL P G al all Q oj s := by
  simp only [indep, Bool.and_eq_true, Bool.or_eq_true, Bool.not_eq_true'] at hin
  obtain ⟨hap, hnm⟩ := hin
  obtain ⟨h1, h2, h3⟩ := Oper.apart_spec hap
  have ej : ∀ x', x' ∈ oj.op.operands → ev (app s oi.dst x) x' = ev s x' := fun x' hx' => app_ev fun k hk => ops_ne (h1 k hk) x' hx'
  have hag : ∀ id, nmHas al (nm0 al oj.dst oj.op) id = true → (app s oi.dst x).hp id = s.hp id ∧ (app s oi.dst x).us id = s.us id := fun id hid => app_mem fun p hp e => by
    obtain ⟨a, b⟩ := yieldsL_heapy hy hp
    subst e
    rcases hnm with hnm | ⟨⟨g1, g2⟩, g3, g4⟩
    · exact nmDis_spec hnm b hid
    · rcases a with a | a
      · rw [g1] at a; cases a
      · rw [g3] at a; cases a
  obtain ⟨d0, d1, d2, d3⟩ := h
  have hfoot : foot (app s oi.dst x) oj.dst oj.op = foot s oj.dst oj.op := foot_e ej
  have hfB : footB al s oj.dst oj.op = true := by unfold footB at d2 ⊢; rw [← hfoot]; exact d2
  have hagr : Agr s (app s oi.dst x) oj.dst oj.op := ⟨ej, fun id hid => hag id (List.all_eq_true.1 hfB id hid)⟩
  refine ⟨d0, (wantS_app h1).symm.trans d1, hfB, ?_⟩
  rw [lstep_agr hagr] at d3
  revert d3
  cases lstep P G.ow G.lo s oj.dst oj.op with
  | call f as => exact fun d3 s' hs' => d3 s' fun id hid => ⟨(hs' id hid).1.trans (hag id hid).1.symm, (hs' id hid).2.trans (hag id hid).2.symm⟩
  | _ => exact fun d3 => d3.elim

def anc (ops : List Oper) : Nat → Nat → Nat → Bool
  | 0, _, _ => false
  | n + 1, j, i => match ops[j]? with
    | some o => o.after.toList.any fun e => Region.binds .any e && (e.on == i || anc ops n e.on i)
    | none => false
def Closed (ops : List Oper) (listed : Array Bool) : Prop := ∀ j o, ops[j]? = some o → listed.getD j false = true → ∀ e ∈ o.after, Region.binds .any e = true → listed.getD e.on false = true
theorem Closed.add {ops : List Oper} {listed : Array Bool} (h : Closed ops listed) {i : Nat} (hi : i ∈ Region.ready .any ops.toArray listed) : Closed ops (listed.setIfInBounds i true) := by
  intro j o hj hl e he hb
  by_cases hij : i = j
  · subst hij
    obtain ⟨_, o', ho', hall⟩ := mem_ready.1 hi
    have : o' = o := by
      have h2 : ops[i]? = some o' := by simpa using ho'
      rw [hj] at h2; cases h2; rfl
    subst this
    exact getD_set_true (hall e he hb)
  · rw [getD_set_ne false hij] at hl
    exact getD_set_true (h j o hj hl e he hb)
theorem anc_listed {ops : List Oper} {listed : Array Bool} (h : Closed ops listed) : ∀ (n j i : Nat), listed.getD j false = true → anc ops n j i = true → listed.getD i false = true := by
  intro n
  induction n with
  | zero => intro j i _ h; cases h
  | succ n ih =>
    intro j i hj ha
    unfold anc at ha
    split at ha
    · rename_i o ho
      obtain ⟨e, he, hb⟩ := List.any_eq_true.1 ha
      simp only [Bool.and_eq_true, Bool.or_eq_true, beq_iff_eq] at hb
      have hon := h j o ho hj e (by simpa using he) hb.1
      rcases hb.2 with rfl | h2
      · exact hon
      · exact ih _ _ hon h2
    · cases ha
theorem anc_ready {ops : List Oper} {listed : Array Bool} (h : Closed ops listed) {n j i : Nat} (hj : j ∈ Region.ready .any ops.toArray listed) (hi : listed.getD i true = false) : anc ops n j i = false := by
  cases hb : anc ops n j i with
  | false => rfl
  | true =>
    exfalso
    have hi' : listed.getD i false = false := by
      rcases Nat.lt_or_ge i listed.size with h' | h'
      · simp [h'] at hi ⊢; exact hi
      · simp [Array.getElem?_eq_none h'] at hi
    have hl : listed.getD i false = true := by
      cases n with
      | zero => cases hb
      | succ n =>
        obtain ⟨_, o, ho, hall⟩ := mem_ready.1 hj
        have ho' : ops[j]? = some o := by simpa using ho
        unfold anc at hb
        rw [ho'] at hb
        obtain ⟨e, he, hb⟩ := List.any_eq_true.1 hb
        simp only [Bool.and_eq_true, Bool.or_eq_true, beq_iff_eq] at hb
        have hon := hall e (by simpa using he) hb.1
        rcases hb.2 with rfl | h2
        · exact hon
        · exact anc_listed h n _ _ hon h2
    rw [hi'] at hl
    cases hl

theorem anyS_first {P : Program} {G : Gh} {al : Al} {ops : List Oper} {sem : Nat → Bool} {Q : Exit → St → Prop} {m i : Nat} {oi : Oper} {x : V × List (Nat × Option OB)} (hi : ops[i]? = some oi) :
    ∀ (n : Nat) (listed : Array Bool) (s : St), Closed ops listed →
      (∀ j oj, ops[j]? = some oj → j ≠ i → listed.getD j true = false → anc ops m j i = false → sem j = false ∧ indep al ops oi oj = true) →
      i ∈ Region.ready .any ops.toArray listed → yieldsL P G al ops oi s x → anyS P G al ops sem Q n (listed.setIfInBounds i true) (app s oi.dst x) → anyS P G al ops sem Q (n + 1) listed s := by
  intro n
  induction n with
  | zero =>
    intro listed s hc hfree hr hy H
    refine ⟨fun h => (by rw [h] at hr; cases hr), .inl fun j hj o ho => ?_⟩
    by_cases hji : j = i
    · subst hji; rw [hi] at ho; cases ho; exact .inl (yieldsL_step hy H)
    · have := ready_mono hj hji
      rw [H.1] at this
      cases this
  | succ n ih =>
    intro listed s hc hfree hr hy H
    have hun := (mem_ready.1 hr).1
    refine ⟨fun h => (by rw [h] at hr; cases hr), .inl fun j hj oj hoj => ?_⟩
    by_cases hji : j = i
    · subst hji; rw [hi] at hoj; cases hoj; exact .inl (yieldsL_step hy H)
    · obtain ⟨hsem, hin⟩ := hfree j oj hoj hji (mem_ready.1 hj).1 (anc_ready hc hj hun)
      have hj' := ready_mono hj hji
      rcases H.2 with h1 | ⟨k, o, h1, h2, _⟩
      · refine (h1 j hj' oj hoj).elim (fun h1 => ?_) (fun h1 => .inr (diesL_put hin hy h1))
        have h2 := stepL_put hin hy h1
        refine .inl (stepL_mono ?_ h2)
        rintro s' ⟨h3, h4⟩
        refine ih (listed.setIfInBounds j true) s' (hc.add hj) (fun k ok hk hki hun' hno => ?_) (ready_mono hr (Ne.symm hji)) h3 ?_
        · refine hfree k ok hk hki ?_ hno
          by_cases hjk : j = k
          · subst hjk; exact (mem_ready.1 hj).1
          · rw [getD_set_ne true hjk] at hun'; exact hun'
        · rw [Array.setIfInBounds_comm _ _ hji]; exact h4
      · rw [h1] at hj'
        simp at hj'
        subst hj'
        rw [hsem] at h2
        cases h2

def finM (P : Program) (G : Gh) (al : Al) (o : Oper) (s : St) (Q : Exit → St → Prop) (rest : St → Prop) (r : Res) : Bool → Prop
  | false => footB al s o.dst o.op = true ∧ finL P G (nmHas al (nm0 al o.dst o.op)) (mkd al o.dst) o s rest r
  | true => fin P G o s Q rest r
def gdD (G : Gh) (all : List Oper) (d : Option Nat) (s : St) (A K : St → Prop) : Option (Nat × Bool) → Prop
  | none => A s
  | some (j, w) => match gslot all j with
    | none => False
    | some g => match s.get g with
      | .v (.bool b) => (b = w → A (s.set g (.v (.bool w)))) ∧ (b = !w → chk G.n d ∧ K (putD (s.set g (.v (.bool !w))) d skV))
      | .v (.tuple ⟨[]⟩) => chk G.n d ∧ K (putD s d skV)
      | _ => False
def vcD (P : Program) (G : Gh) (al : Al) (all : List Oper) (Q : Exit → St → Prop) : List (Oper × Bool) → St → Prop
  | [], s => Q .normal s
  | (o, f) :: os, s => gdD G all o.dst s (fun s => finM P G al o s Q (vcD P G al all Q os) (lstep P G.ow G.lo s o.dst o.op) f) (vcD P G al all Q os) o.guard

def pickO (l : List Oper) : List (Nat × Bool) → List (Oper × Bool)
  | [] => []
  | (i, f) :: r => match l[i]? with
    | some o => (o, f) :: pickO l r
    | none => []

def semOf (p : List (Nat × Bool)) (i : Nat) : Bool := p.any fun x => x.1 == i && x.2
def takeOK (al : Al) (l : List Oper) (sem : Nat → Bool) (i : Nat) (f : Bool) (listed : Array Bool) : Bool := match l[i]? with
  | none => false
  | some oi => match f with
    | false => (Region.ready .any l.toArray listed).contains i && (List.range l.length).all fun j => match l[j]? with
        | none => true
        | some oj => j == i || listed.getD j true || anc l l.length j i || (!sem j && indep al l oi oj)
    | true => Region.ready .any l.toArray listed == [i] && sem i
def orderOK (al : Al) (l : List Oper) (sem : Nat → Bool) : List (Nat × Bool) → Array Bool → Bool
  | [], listed => (Region.ready .any l.toArray listed).isEmpty
  | (i, f) :: r, listed => takeOK al l sem i f listed && orderOK al l sem r (listed.setIfInBounds i true)
def drawOK (al : Al) (l : List Oper) (p : List (Nat × Bool)) : Bool := p.length == l.length && orderOK al l (semOf p) p (Array.replicate l.length false)

theorem gdD_spec {G : Gh} {all : List Oper} {o : Oper} {s : St} {A K : St → Prop} (h : gdD G all o.dst s A K o.guard) :
    (wantS all o s = some true ∧ A s) ∨ (wantS all o s = some false ∧ chk G.n o.dst ∧ K (putD s o.dst skV)) := by
  unfold gdD at h
  unfold wantS
  split at h
  · exact .inl ⟨rfl, h⟩
  · rename_i j w hg
    split at h
    · exact h.elim
    · rename_i g hgs
      split at h
      · rename_i b hb
        by_cases e : b = w
        · subst e
          refine .inl ⟨by simp, ?_⟩
          have := h.1 rfl
          rwa [st_same hb] at this
        · have e' : b = !w := by cases b <;> cases w <;> simp_all
          subst e'
          have := h.2 rfl
          rw [st_same hb] at this
          exact .inr ⟨by simp, this⟩
      · rename_i hb
        exact .inr ⟨rfl, h⟩
      · exact h.elim

theorem anyS_of_vcD {P : Program} {G : Gh} {al : Al} {l : List Oper} {sem : Nat → Bool} {Q : Exit → St → Prop} : ∀ (p : List (Nat × Bool)) (listed : Array Bool) (s : St), Closed l listed →
    orderOK al l sem p listed = true → vcD P G al l Q (pickO l p) s → anyS P G al l sem Q p.length listed s := by
  intro p
  induction p with
  | nil => intro listed s _ h hv; exact ⟨by simpa [orderOK] using h, hv⟩
  | cons x p ih =>
    obtain ⟨i, f⟩ := x
    intro listed s hc h hv
    simp only [orderOK, Bool.and_eq_true] at h
    obtain ⟨ht, hr⟩ := h
    unfold takeOK at ht
    cases hi : l[i]? with
    | none => rw [hi] at ht; cases ht
    | some oi =>
      rw [hi] at ht
      have e : pickO l ((i, f) :: p) = (oi, f) :: pickO l p := by simp only [pickO, hi]
      rw [e] at hv
      have hv := gdD_spec hv
      cases f with
      | false =>
        simp only [Bool.and_eq_true, List.contains_iff_mem] at ht
        obtain ⟨hrd, hall⟩ := ht
        have hrd' : i ∈ Region.ready .any l.toArray listed := by simpa using hrd
        obtain ⟨x, hy, hx⟩ := yieldsL_of (P := P) (G := G) (al := al) (all := l) (o := oi) (s := s) (K := vcD P G al l Q (pickO l p)) (orMap (fun ⟨a, b, c⟩ => ⟨a, b, c⟩) id hv)
        refine anyS_first (m := l.length) hi _ _ _ hc (fun j oj hj hji hun hno => ?_) hrd' hy (ih _ _ (hc.add hrd') hr hx)
        have hlt : j < l.length := (List.getElem?_eq_some_iff.1 hj).1
        have := List.all_eq_true.1 hall j (by simpa using hlt)
        simp only [hj] at this
        simpa [hji, hun, hno] using this
      | true =>
        simp only [Bool.and_eq_true] at ht
        have hrd : Region.ready .any l.toArray listed = [i] := by simpa using ht.1
        refine ⟨fun h => (by rw [hrd] at h; cases h), .inr ⟨i, oi, hrd, ht.2, hi, ?_⟩⟩
        have hc' := hc.add (i := i) (by rw [hrd]; simp)
        rcases hv with ⟨h1, h2⟩ | ⟨h1, h2, h3⟩
        · refine .inl ⟨h1, fin_step (fin_mono (fun s h => ih _ s hc' hr h) h2)⟩
        · exact .inr ⟨h1, h2, ih _ _ hc' hr h3⟩

theorem semC_draw {P : Program} {G : Gh} {id : Nat} {l : List Oper} {s : St} {Q : Exit → St → Prop} (al : Al) (p : List (Nat × Bool)) (hm : P.follows .mixedOrders = true) (hp : drawOK al l p = true)
    (h : vcD P G al l Q (pickO l p) s) : SemC P G (.region id l.toArray true) s Q := by
  simp only [drawOK, Bool.and_eq_true, beq_iff_eq] at hp
  rintro a w ⟨E, hE⟩
  refine wpIn_region_any hm ?_
  have := anyS_of_vcD p _ s (fun j o hj hl => by simp [Array.getD_eq_getD_getElem?, Array.getElem?_replicate] at hl; split at hl <;> simp at hl) hp.2 h
  rw [hp.1] at this
  exact wpAny_of_anyS _ _ _ this a _ ⟨E, hE.below ⟨rfl, rfl, rfl, Nat.le_refl _, fun _ _ => rfl⟩⟩
theorem pickO_range (l : List Oper) : ∀ (n k : Nat), k + n = l.length → pickO l ((List.range' k n).map (·, false)) = (l.drop k).map (·, false) := by
  intro n
  induction n with
  | zero => intro k h; simp [pickO, List.drop_eq_nil_of_le (by omega : l.length ≤ k)]
  | succ n ih =>
    intro k h
    have hk : k < l.length := by omega
    rw [List.range'_succ, List.map_cons, pickO, List.getElem?_eq_getElem hk, List.drop_eq_getElem_cons hk, List.map_cons]
    simp only
    rw [ih (k + 1) (by omega)]
def alC (h : Bool) (d : Option Nat) (r : List Nat) : List Nat := match h, d with
  | true, some d => d :: r
  | _, _ => r
def alOf : List Oper → List Nat
  | [] => []
  | o :: r => alC (heapy o.op) o.dst (alOf r)
theorem semC_draw0 {P : Program} {G : Gh} {id : Nat} {l : List Oper} {s : St} {Q : Exit → St → Prop} (hm : P.follows .mixedOrders = true) (hp : drawOK ⟨alOf l, [], []⟩ l ((List.range' 0 l.length).map (·, false)) = true)
    (h : vcD P G ⟨alOf l, [], []⟩ l Q (l.map (·, false)) s) : SemC P G (.region id l.toArray true) s Q :=
  semC_draw _ _ hm hp (by rw [pickO_range l _ 0 (by simp)]; exact h)
end Pm
namespace Pm
open Go Go.RowKit
theorem callGivesA {P : Program} {G : Gh} {N : Nat → Bool} {M : Bool} {s : St} {k : FuncId} {cap as as' : List V} {r : Nat → V} (hp : Gives P k as' r) (hs : Subs (as ++ cap) as' := by first | exact Subs.refl _ | (repeat' (first | exact Subs.nil | exact Sub.refl _ | exact Sub.lo (Nat.zero_le _) | refine Subs.cons ?_ ?_ | refine Subs.agg ?_ | refine Subs.fp ?_ | refine Subs.tup ?_ | refine Sub.map (Nat.zero_le _) (fun _ => ?_)))) (hpure : allP (as ++ cap) = true := by first | rfl | simp [allP, all0, pureV, pure0, *]) : CallE P G N M (.fn (.func k) cap) as s (r G.lo, []) := callGives hp hs hpure
end Pm
end Go.Proofs.YtppcbmpiphhphaaGreatDoor
