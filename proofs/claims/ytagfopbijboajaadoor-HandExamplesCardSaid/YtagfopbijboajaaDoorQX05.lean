import Derived.Laws.StructEq
import Derived.ChangeKeysEq
import Derived.Test.YtagfopbijboajaaDoorQX02
namespace Go.Proofs.YtagfopbijboajaaDoor
open Go
set_option linter.unusedSimpArgs false
set_option linter.unusedVariables false
namespace Pm
def flatA (l : List TypeDesc) : Nat → List TypeDesc
  | 0 => []
  | n + 1 => l ++ flatA l n
def flatF (P : Program) (g : TypeId → Option (List TypeDesc)) : List Field → Nat → Option (List TypeDesc)
  | [], _ => some []
  | f :: r, off => match g f.type with
    | some l => if f.name ≠ "_" ∧ f.offset = off ∧ (loadK P f.type).map (·.2) = some l.length then (flatF P g r (off + l.length)).map (l ++ ·) else none
    | none => none
def flatT (P : Program) : Nat → TypeId → Option (List TypeDesc)
  | 0, _ => none
  | d + 1, t => match P.underlying t with
    | some .bool => some [.bool]
    | some (.int k) => some [.int k]
    | some .string => some [.string]
    | some (.struct fs) => if P.stoodInHeld t = true then none else flatF P (flatT P d) fs.toList 0
    | some (.array n e) => match flatT P d e with
      | some l => if (loadK P e).map (·.2) = some l.length then some (flatA l n) else none
      | none => none
    | _ => none
def flatK (P : Program) (t : TypeId) : Option (List TypeDesc) := if P.eqGuardType P.depth t = true ∨ (loadK P t).map (·.1) ≠ some true then none else flatT P 6 t
def eqX : Value → Value → Bool
  | .bool a, .bool b => a == b
  | .int _ a, .int _ b => decide (a = b)
  | .string a, .string b => decide (a = b)
  | _, _ => false
def eqXs : List Value → List Value → Bool
  | [], [] => true
  | x :: xs, y :: ys => eqX x y && eqXs xs ys
  | _, _ => false
theorem Fits.len {ts : List TypeDesc} {xs : List Value} (h : Fits ts xs) : xs.length = ts.length := by
  induction h with
  | nil => rfl
  | cons _ _ ih => simp [ih]
theorem Fits.split {a b : List TypeDesc} : ∀ {xs : List Value}, Fits (a ++ b) xs → ∃ u v, xs = u ++ v ∧ Fits a u ∧ Fits b v := by
  induction a with
  | nil => intro xs h; exact ⟨[], xs, rfl, .nil, h⟩
  | cons t ts ih =>
    intro xs h
    cases h with
    | cons h r =>
      obtain ⟨u, v, rfl, h1, h2⟩ := ih r
      exact ⟨_ :: u, v, rfl, .cons h h1, h2⟩
theorem eqXs_app : ∀ {a b c d : List Value}, a.length = b.length → eqXs (a ++ c) (b ++ d) = (eqXs a b && eqXs c d)
  | [], [], _, _, _ => by simp [eqXs]
  | x :: a, y :: b, c, d, h => by
    have := eqXs_app (a := a) (b := b) (c := c) (d := d) (by simpa using h)
    simp [eqXs, this, Bool.and_assoc]
  | [], _ :: _, _, _, h => by simp at h
  | _ :: _, [], _, _, h => by simp at h
def mkX (P : Program) (t : TypeId) (xs : List Value) : Value := match P.underlying t with
  | some d => if isAggD d = true then .agg xs.toArray else xs.headD undef
  | none => undef
section
variable {P : Program}
theorem part_mk {w : World} {t : TypeId} {n : Nat} (hl : (loadK P t).map (·.2) = some n) (pre xs post : List Value) (hx : xs.length = n) (h1 : (loadK P t).map (·.1) = some false → n = 1) :
    (part t (pre ++ xs ++ post).toArray pre.length).run P w = .ok (mkX P t xs) w := by
  cases hk : loadK P t with
  | none => simp [hk] at hl
  | some q =>
    obtain ⟨ag, m⟩ := q
    simp only [hk, Option.map_some, Option.some.injEq] at hl h1
    subst hl
    obtain ⟨d, i, hu, hi, hag, hsz⟩ := loadK_inv hk
    cases ag with
    | false =>
      have hn1 := h1 rfl
      match xs, hx with
      | [x], _ =>
        rw [part_run_one hk _ _ x (by simp)]
        simp [mkX, hu, hag]
      | [], hx => simp at hx; omega
      | _ :: _ :: _, hx => simp at hx; omega
    | true =>
      rw [part_run_agg hk]
      have : (pre ++ xs ++ post).toArray.extract pre.length (pre.length + m) = xs.toArray := by
        apply Array.ext'
        simp [List.extract, ← hx]
      rw [this]
      simp [mkX, hu, hag]
def EqT (P : Program) (d : Nat) (t : TypeId) (ts : List TypeDesc) : Prop := ∀ (w : World) (xs ys : List Value), Fits ts xs → Fits ts ys → (Op.equalIn d t (mkX P t xs) (mkX P t ys)).run P w = .ok (eqXs xs ys) w
theorem flatT_one : ∀ {D : Nat} {t : TypeId} {l : List TypeDesc}, flatT P D t = some l → (loadK P t).map (·.1) = some false → l.length = 1 := by
  intro D t l h hk
  cases D with
  | zero => simp [flatT] at h
  | succ D =>
    cases hl : loadK P t with
    | none => simp [hl] at hk
    | some q =>
      obtain ⟨ag, m⟩ := q
      simp only [hl, Option.map_some, Option.some.injEq] at hk
      subst hk
      obtain ⟨d, i, hu, hi, hag, hsz⟩ := loadK_inv hl
      unfold flatT at h
      rw [hu] at h
      cases d <;> simp [isAggD] at hag h <;> subst h <;> rfl
theorem eqFields_flat {D d : Nat} (IH : ∀ t l, flatT P D t = some l → EqT P d t l) : ∀ (fs : List Field) (off : Nat) (ts : List TypeDesc), flatF P (flatT P D) fs off = some ts → ∀ (w : World) (px py xs ys : List Value), px.length = off → py.length = off → Fits ts xs → Fits ts ys →
    (Op.eqFields d (px ++ xs).toArray (py ++ ys).toArray fs).run P w = .ok (eqXs xs ys) w
  | [], off, ts, h, w, px, py, xs, ys, h1, h2, h3, h4 => by
    simp only [flatF, Option.some.injEq] at h
    subst h
    cases h3; cases h4
    simp [Op.eqFields, eqXs]
  | f :: fs, off, ts, h, w, px, py, xs, ys, h1, h2, h3, h4 => by
    unfold flatF at h
    split at h
    · rename_i l hl
      split at h
      · rename_i hc
        obtain ⟨c1, c2, c3⟩ := hc
        simp only [Option.map_eq_some_iff] at h
        obtain ⟨r, hr, rfl⟩ := h
        obtain ⟨ux, vx, rfl, fx1, fx2⟩ := h3.split
        obtain ⟨uy, vy, rfl, fy1, fy2⟩ := h4.split
        have o1 := flatT_one hl
        have p1 := part_mk (w := w) c3 px ux vx fx1.len o1
        have p2 := part_mk (w := w) c3 py uy vy fy1.len o1
        have p3 := IH _ _ hl w ux uy fx1 fy1
        have ih := eqFields_flat IH fs _ r hr w (px ++ ux) (py ++ uy) vx vy (by simp [h1, fx1.len]) (by simp [h2, fy1.len]) fx2 fy2
        simp only [Op.eqFields, c1, ne_eq, not_false_eq_true, if_true, Sem.run_bind]
        rw [c2, ← h1, ← List.append_assoc, p1]
        simp only [Result.andThen_ok]
        rw [h1, ← h2, ← List.append_assoc, p2]
        simp only [Result.andThen_ok, p3]
        rw [eqXs_app (by rw [fx1.len, fy1.len])]
        cases eqXs ux uy
        · simp
        · simpa using ih
      · cases h
    · cases h
theorem eqItems_flat {d e : Nat} {l : List TypeDesc} (hl : (loadK P e).map (·.2) = some l.length) (h1 : (loadK P e).map (·.1) = some false → l.length = 1) (IH : EqT P d e l) : ∀ (n k : Nat) (w : World) (px py xs ys : List Value), px.length = k * l.length → py.length = k * l.length → Fits (flatA l n) xs → Fits (flatA l n) ys →
    (Op.eqItems d e l.length (px ++ xs).toArray (py ++ ys).toArray (List.range' k n)).run P w = .ok (eqXs xs ys) w
  | 0, k, w, px, py, xs, ys, _, _, h3, h4 => by
    cases h3; cases h4
    simp [Op.eqItems, eqXs]
  | n + 1, k, w, px, py, xs, ys, q1, q2, h3, h4 => by
    obtain ⟨ux, vx, rfl, fx1, fx2⟩ := h3.split
    obtain ⟨uy, vy, rfl, fy1, fy2⟩ := h4.split
    have p1 := part_mk (w := w) hl px ux vx fx1.len h1
    have p2 := part_mk (w := w) hl py uy vy fy1.len h1
    have p3 := IH w ux uy fx1 fy1
    have ih := eqItems_flat hl h1 IH n (k + 1) w (px ++ ux) (py ++ uy) vx vy (by simp [q1, fx1.len, Nat.succ_mul]) (by simp [q2, fy1.len, Nat.succ_mul]) fx2 fy2
    rw [List.range'_succ]
    simp only [Op.eqItems, Sem.run_bind]
    rw [← q1, ← List.append_assoc, p1]
    simp only [Result.andThen_ok]
    rw [q1, ← q2, ← List.append_assoc, p2]
    simp only [Result.andThen_ok, p3]
    rw [eqXs_app (by rw [fx1.len, fy1.len])]
    cases eqXs ux uy
    · simp
    · simpa using ih
theorem eq_flat : ∀ (D m : Nat) (t : TypeId) (ts : List TypeDesc), flatT P D t = some ts → EqT P (D + m) t ts
  | 0, _, _, _, h => by simp [flatT] at h
  | D + 1, m, t, ts, h => by
    intro w xs ys hx hy
    unfold flatT at h
    cases hu : P.underlying t with
    | none => simp [hu] at h
    | some d =>
      rw [show D + 1 + m = (D + m) + 1 by omega]
      rw [hu] at h
      cases d with
      | bool =>
        simp only [Option.some.injEq] at h; subst h
        cases hx with
        | cons a r =>
          cases r
          cases hy with
          | cons b r =>
            cases r
            rename_i x y
            cases x <;> simp only [Fit] at a
            cases y <;> simp only [Fit] at b
            simp [mkX, hu, isAggD, eqXs, eqX, run_equalIn_bool' w _ _ _ _ hu]
      | int k =>
        simp only [Option.some.injEq] at h; subst h
        cases hx with
        | cons a r =>
          cases r
          cases hy with
          | cons b r =>
            cases r
            rename_i x y
            cases x <;> simp only [Fit] at a
            cases y <;> simp only [Fit] at b
            subst a; subst b
            simp [mkX, hu, isAggD, eqXs, eqX, run_equalIn_int w _ _ _ _ _ _ hu, int_beq]
      | string =>
        simp only [Option.some.injEq] at h; subst h
        cases hx with
        | cons a r =>
          cases r
          cases hy with
          | cons b r =>
            cases r
            rename_i x y
            cases x <;> simp only [Fit] at a
            cases y <;> simp only [Fit] at b
            simp [mkX, hu, isAggD, eqXs, eqX, run_equalIn_string w _ _ _ _ hu, ba_beq]
      | struct fs =>
        simp only at h
        split at h
        · cases h
        · rename_i hst
          have hfs : P.fieldsOf t = fs := by simp [Program.fieldsOf, hu]
          have := eqFields_flat (d := D + m) (fun t l h => eq_flat D m t l h) fs.toList 0 ts h w [] [] xs ys rfl rfl hx hy
          simp only [mkX, hu, isAggD, if_true]
          rw [run_equalIn_struct w (D + m) t _ _ (by rw [hfs]; exact hu) (by simpa using hst), hfs]
          simpa using this
      | array n e =>
        simp only at h
        split at h
        · rename_i l hl
          split at h
          · rename_i hc
            simp only [Option.some.injEq] at h
            subst h
            have := eqItems_flat hc (flatT_one hl) (eq_flat D m e l hl) n 0 w [] [] xs ys (by simp) (by simp) hx hy
            have hi : ∃ i, P.info? e = some i ∧ i.size = l.length := by
              cases hk : loadK P e with
              | none => simp [hk] at hc
              | some q =>
                obtain ⟨ag, z⟩ := q
                obtain ⟨_, i, _, hi, _, hs⟩ := loadK_inv hk
                simp only [hk, Option.map_some, Option.some.injEq] at hc
                exact ⟨i, hi, hs.trans hc⟩
            obtain ⟨i, hi, his⟩ := hi
            have hce : P.cellsOf e = l.length := by simp [Program.cellsOf, hi, his]
            simp only [mkX, hu, isAggD, if_true]
            rw [run_equalIn_array w (D + m) _ _ hu hi, hce, List.range_eq_range']
            simpa using this
          · cases h
        · cases h
      | _ => simp at h
def fitB : TypeDesc → V → Bool
  | .bool, .v (.bool _) => true
  | .int k, .v (.int k' _) => decide (k' = k)
  | .string, .v (.string _) => true
  | _, _ => false
def fitsB : List TypeDesc → List V → Bool
  | [], [] => true
  | t :: ts, x :: xs => fitB t x && fitsB ts xs
  | _, _ => false
def eqV : V → V → Bool
  | .v x, .v y => eqX x y
  | _, _ => false
def eqVs : List V → List V → Bool
  | [], [] => true
  | x :: xs, y :: ys => eqV x y && eqVs xs ys
  | _, _ => false
theorem fitsB_spec : ∀ {ts : List TypeDesc} {cs : List V}, fitsB ts cs = true → ∃ xs, cs = xs.map .v ∧ Fits ts xs
  | [], [], _ => ⟨[], rfl, .nil⟩
  | t :: ts, x :: cs, h => by
    simp only [fitsB, Bool.and_eq_true] at h
    obtain ⟨xs, rfl, h2⟩ := fitsB_spec h.2
    have h1 := h.1
    unfold fitB at h1
    split at h1
    · exact ⟨_ :: xs, rfl, .cons trivial h2⟩
    · exact ⟨_ :: xs, rfl, .cons (by simp only [decide_eq_true_eq] at h1; exact h1) h2⟩
    · exact ⟨_ :: xs, rfl, .cons trivial h2⟩
    · cases h1
  | [], _ :: _, h => by simp [fitsB] at h
  | _ :: _, [], h => by simp [fitsB] at h
theorem eqVs_map : ∀ (xs ys : List Value), eqVs (xs.map .v) (ys.map .v) = eqXs xs ys
  | [], [] => rfl
  | x :: xs, y :: ys => by simp [eqVs, eqXs, eqV, eqVs_map xs ys]
  | [], _ :: _ => rfl
  | _ :: _, [] => rfl
def aggEq (op : BinOp) (C : Prop) (b : Bool) : Res := match op with
  | .eql => .go C fun _ => .v (.bool b)
  | .neq => .go C fun _ => .v (.bool (!b))
  | _ => .stuck
def aggRes (op : BinOp) (fk : Option (List TypeDesc)) : V → V → Res → Res
  | .agg cs, .agg ds, _ => match fk with
    | some ts => aggEq op (fitsB ts cs = true ∧ fitsB ts ds = true) (eqVs cs ds)
    | none => .stuck
  | _, _, r => r
theorem scal_R {w : World} {O : Nat → Prop} {E : Env} {xs : List Value} {y : Value} (h : R w O E (.agg (xs.map .v)) y) : y = .agg xs.toArray := by
  obtain ⟨ys, rfl, hsz, hr⟩ := R.agg_inv h
  congr 1
  apply Array.ext'
  apply List.ext_getElem?
  intro j
  by_cases hj : j < xs.length
  · have hj' : j < ys.size := by simpa [hsz] using hj
    have := R.v_inv (hr j (.v xs[j]) ys[j] (by simp [hj]) (by simp [hj']))
    simp [hj, hj', this]
  · have hj' : ¬ j < ys.size := by simpa [hsz] using hj
    simp [hj, hj']
theorem aggRes_ok {G : Gh} {s : St} {o : Oper} (hd : ∀ d, o.dst = some d → d < G.n) {op : BinOp} {t t' : TypeId} {x y : Operand} (ho : o.op = .binOp op t x y t') : ResOK P G s o (aggRes op (flatK P t) (ev s x) (ev s y) (binRes op (tk P t) (ev s x) (ev s y))) := by
  unfold aggRes
  split
  · rename_i _ cs ds hx hy
    split
    · rename_i ts hts
      unfold flatK at hts
      split at hts
      · cases hts
      · rename_i hg
        obtain ⟨hg, hag⟩ := not_or.1 hg
        have key : ∀ a w E, SimE G s a w E → fitsB ts cs = true ∧ fitsB ts ds = true → (Op.equal t (a.eval x) (a.eval y)).run P w = .ok (eqVs cs ds) w ∧ (eqGuard op t x y (a.eval x) (a.eval y)).run P w = .ok () w ∧ ∃ xs ys, a.eval x = .agg xs ∧ a.eval y = .agg ys := by
          intro a w E hs ⟨h1, h2⟩
          obtain ⟨xs, rfl, f1⟩ := fitsB_spec h1
          obtain ⟨ys, rfl, f2⟩ := fitsB_spec h2
          have e1 := scal_R (ev_E hs hx)
          have e2 := scal_R (ev_E hs hy)
          have hag : ∃ d, P.underlying t = some d ∧ isAggD d = true := by
            cases hk : loadK P t with
            | none => simp [hk] at hag
            | some q =>
              obtain ⟨ag, z⟩ := q
              simp [hk] at hag
              subst hag
              obtain ⟨d, _, hu, _, h, _⟩ := loadK_inv hk
              exact ⟨d, hu, h⟩
          obtain ⟨d, hu, hag⟩ := hag
          refine ⟨?_, ?_, _, _, e1, e2⟩
          · have := eq_flat 6 9994 t ts hts w xs ys f1 f2
            simp only [mkX, hu, hag, if_true] at this
            rw [e1, e2, eqVs_map]
            exact this
          · rw [e1, e2]
            exact run_eqGuard_agg w op t x y _ _ (by simpa using hg)
        unfold aggEq
        split
        · intro hC
          refine stepOK_val hd fun a w E hs => ⟨_, ?_, .r0 _ _ (.v _)⟩
          obtain ⟨k1, k2, xs, ys, e1, e2⟩ := key a w E hs hC
          rw [e1, e2] at k1 k2
          simp [execOp, ho, k2, e1, e2, binOp, k1]
        · intro hC
          refine stepOK_val hd fun a w E hs => ⟨_, ?_, .r0 _ _ (.v _)⟩
          obtain ⟨k1, k2, xs, ys, e1, e2⟩ := key a w E hs hC
          rw [e1, e2] at k1 k2
          simp [execOp, ho, k2, e1, e2, binOp, k1]
        · trivial
    · trivial
  · exact bin_ok hd ho
end
end Pm
end Go.Proofs.YtagfopbijboajaaDoor
