/- Sums, tests, conversions: what each asks, what it gives, and that the machine's run gives that. No program in sight. -/
import Derived.Test.YtgienbcekgokiaaPm3
namespace Go.Proofs.Ytgienbcekgokiaa
open Go
set_option linter.unusedSimpArgs false
set_option linter.unusedVariables false
namespace Pm

/-- a number that fitsK its kind -/
def fitsK (k : IntKind) (n : Int) : Prop := k.min ≤ n ∧ n ≤ k.max
theorem fitsK_i64 (n : Int) : fitsK .i64 n = (-9223372036854775808 ≤ n ∧ n ≤ 9223372036854775807) := by
  simp [fitsK, IntKind.min, IntKind.max, IntKind.signed, IntKind.bits]
theorem wrap_fitsK {k : IntKind} {n : Int} (h : fitsK k n) : k.wrap n = n := by
  obtain ⟨h1, h2⟩ := h
  cases k <;> simp [IntKind.min, IntKind.max, IntKind.signed, IntKind.bits] at h1 h2 <;> simp [IntKind.wrap, IntKind.signed, IntKind.bits] <;> omega
theorem ba_beq (x y : ByteArray) : (x.toList == y.toList) = decide (x = y) := by
  rw [ByteArray.toList_eq, ByteArray.toList_eq, Bool.eq_iff_iff]
  simp only [beq_iff_eq, decide_eq_true_eq]
  exact ⟨WideShapes.bytes_inj, fun h => by rw [h]⟩

theorem int_beq (m n : Int) : (m == n) = decide (m = n) := by rw [Bool.eq_iff_iff]; simp

/-- sums in int are asked to fit; in the other kinds they go round -/
def addRes (k k' : IntKind) (n : Int) : Res := match k with
  | .i64 => .go (k' = .i64 ∧ -9223372036854775808 ≤ n ∧ n ≤ 9223372036854775807) fun _ => .v (.int .i64 n)
  | k => .go (k' = k) fun _ => .v (.int k (k.wrap n))
/-- how far a value is shifted, and how large one may be, for bits to be told -/
def shrK : IntKind → Int
  | .i64 => 62
  | .u8 => 8
  | _ => 0
def andK : IntKind → Int
  | .i64 => 9223372036854775807
  | .u8 => 255
  | _ => 0
def intRes (op : BinOp) (k k' : IntKind) (x y : Int) : Res := match op with
  | .add => addRes k k' (x + y)
  | .sub => addRes k k' (x - y)
  | .mul => addRes k k' (x * y)
  | .quo => .go (k' = k ∧ 0 ≤ x ∧ 0 < y ∧ fitsK k (x / y)) fun _ => .v (.int k (x / y))
  | .rem => .go (k' = k ∧ 0 ≤ x ∧ 0 < y) fun _ => .v (.int k (x % y))
  | .eql => .go (k' = k) fun _ => .v (.bool (decide (x = y)))
  | .neq => .go (k' = k) fun _ => .v (.bool (!decide (x = y)))
  | .lss => .go (k' = k) fun _ => .v (.bool (decide (x < y)))
  | .leq => .go (k' = k) fun _ => .v (.bool (decide (x ≤ y)))
  | .gtr => .go (k' = k) fun _ => .v (.bool (decide (y < x)))
  | .geq => .go (k' = k) fun _ => .v (.bool (decide (y ≤ x)))
  | .shl => .go (k = .i64 ∧ 0 ≤ y ∧ y ≤ 62 ∧ fitsK .i64 (x * 2 ^ y.toNat)) fun _ => .v (.int .i64 (x * 2 ^ y.toNat))
  | .shr => .go (0 ≤ y ∧ y ≤ shrK k) fun _ => .v (.int k (x / 2 ^ y.toNat))
  | .and => .go (k' = k ∧ 0 ≤ x ∧ x ≤ andK k ∧ 0 ≤ y ∧ y ≤ andK k) fun _ => .v (.int k ((x.toNat &&& y.toNat : Nat) : Int))
  | _ => .stuck
def strRes (op : BinOp) (x y : ByteArray) : Res := match op with
  | .add => .go (x.size + y.size ≤ 9223372036854775807) fun _ => .v (.string (x ++ y))
  | .eql => .go True fun _ => .v (.bool (decide (x = y)))
  | .neq => .go True fun _ => .v (.bool (!decide (x = y)))
  | .lss => .go True fun _ => .v (.bool (Op.bytesLess x.toList y.toList))
  | .leq => .go True fun _ => .v (.bool (Op.bytesLess x.toList y.toList || decide (x = y)))
  | .gtr => .go True fun _ => .v (.bool (!(Op.bytesLess x.toList y.toList || decide (x = y))))
  | .geq => .go True fun _ => .v (.bool (!Op.bytesLess x.toList y.toList))
  | _ => .stuck
def nilEq (op : BinOp) (b : Bool) : Res := match op with
  | .eql => .go True fun _ => .v (.bool b)
  | .neq => .go True fun _ => .v (.bool (!b))
  | _ => .stuck
/-- against nil, where one cannot tell: it may be nil if 'C' -/
def nilEqIf (op : BinOp) (C : Prop) : Res := match op with
  | .eql => .br fun b => b = true → C
  | .neq => .br fun b => b = false → C
  | _ => .stuck
def binRes (op : BinOp) (t : TK) : V → V → Res
  | .v (.int k x), .v (.int k' y) => intRes op k k' x y
  | .v (.string x), .v (.string y) => strRes op x y
  | .v (.bool x), .v (.bool y) => match t with
    | .bool => nilEq op (x == y)
    | _ => .stuck
  | .v (.pointer none), .v (.pointer none) => match t with
    | .ptr => nilEq op true
    | _ => .stuck
  | .fp _, .v (.pointer none) => match t with
    | .ptr => nilEq op false
    | _ => .stuck
  | .ptr _ _, .v (.pointer none) => match t with
    | .ptr => nilEq op false
    | _ => .stuck
  | .v (.slice none _ _), .v (.slice none _ _) => match t with
    | .slc => nilEq op true
    | _ => .stuck
  | .lst _ _ l, .v (.slice none _ _) => match t with
    | .slc => nilEqIf op (l = [])
    | _ => .stuck
  | .own _ _ len _, .v (.slice none _ _) => match t with
    | .slc => nilEqIf op (len = 0)
    | _ => .stuck
  | _, _ => .stuck

section
variable {P : Program} {G : Gh} {s : St} {o : Oper} (hd : ∀ d, o.dst = some d → d < G.n) {op : BinOp} {t t' : TypeId} {x y : Operand} (ho : o.op = .binOp op t x y t')
include hd ho
theorem intRes_ok {k k' : IntKind} {m n : Int} (hx : ev s x = .v (.int k m)) (hy : ev s y = .v (.int k' n)) : ResOK P G s o (intRes op k k' m n) := by
  have key : ∀ (v : Value) (h : ∀ w, (do eqGuard op t x y (.int k m) (.int k' n); binOp op t (.int k m) (.int k' n)).run P w = .ok v w), StepOK P G s o (putD s o.dst (.v v)) := fun v h => by
    refine stepOK_val hd fun a w E hs => ⟨v, ?_, .r0 _ _ (.v _)⟩
    have hx' := R.v_inv (ev_E hs hx)
    have hy' := R.v_inv (ev_E hs hy)
    have := h w
    simp only [execOp, ho, hx', hy', Sem.run_bind, Sem.run_pure] at this ⊢
    rw [this]
    rfl
  have eg : ∀ (k : IntKind) (w : World), (eqGuard op t x y (.int k m) (.int k n)).run P w = .ok () w := fun k w => by unfold eqGuard; split <;> simp
  unfold intRes
  split
  case h_1 | h_2 | h_3 =>
    unfold addRes
    split
    · rintro ⟨rfl, hf⟩
      refine key _ fun w => ?_
      simp [eg, binOp, Op.intArith, wrap_fitsK (fitsK_i64 _ ▸ hf)]
    · rintro rfl
      refine key _ fun w => ?_
      simp [eg, binOp, Op.intArith]
  case h_4 =>
    rintro ⟨rfl, h1, h2, hf⟩
    refine key _ fun w => ?_
    have hne : n ≠ 0 := by omega
    simp [eg, binOp, Op.intDiv, hne, Int.tdiv_eq_ediv_of_nonneg h1, wrap_fitsK hf]
  case h_5 =>
    rintro ⟨rfl, h1, h2⟩
    refine key _ fun w => ?_
    have hne : n ≠ 0 := by omega
    simp [eg, binOp, Op.intDiv, hne, Int.tmod_eq_emod_of_nonneg h1]
  case h_12 =>
    rintro ⟨rfl, h1, h2, hf⟩
    refine key _ fun w => ?_
    have eg' : (eqGuard .shl t x y (.int .i64 m) (.int k' n)).run P w = .ok () w := by unfold eqGuard; simp
    have h3 : ¬ n < 0 := by omega
    have h4 : min n.toNat 64 = n.toNat := by omega
    simp [eg', binOp, Op.shift, h3, IntKind.bits, h4, wrap_fitsK hf]
  case h_13 =>
    rintro ⟨h1, h2⟩
    refine key _ fun w => ?_
    have eg' : (eqGuard .shr t x y (.int k m) (.int k' n)).run P w = .ok () w := by unfold eqGuard; simp
    have h3 : ¬ n < 0 := by omega
    have h4 : min n.toNat k.bits = n.toNat := by cases k <;> simp only [shrK] at h2 <;> simp only [IntKind.bits] <;> omega
    have h5 : m.fdiv (2 ^ n.toNat) = m / 2 ^ n.toNat := Int.fdiv_eq_ediv_of_nonneg _ (Int.pow_nonneg (by decide))
    simp [eg', binOp, Op.shift, h3, h4, h5]
  case h_14 =>
    rintro ⟨rfl, h1, h2, h3, h4⟩
    refine key _ fun w => ?_
    obtain ⟨m, rfl⟩ := Int.eq_ofNat_of_zero_le h1
    obtain ⟨n, rfl⟩ := Int.eq_ofNat_of_zero_le h3
    have h6 : ((m : Nat) : Int) < 2 ^ k'.bits ∧ ((n : Nat) : Int) < 2 ^ k'.bits ∧ (m : Int) ≤ k'.max := by
      cases k' <;> simp only [andK] at h2 h4 <;> simp only [IntKind.bits, IntKind.max, IntKind.signed] <;> refine ⟨?_, ?_, ?_⟩ <;> simp <;> omega
    have hm : m % 2 ^ k'.bits = m := Nat.mod_eq_of_lt (by have := h6.1; exact_mod_cast this)
    have hn : n % 2 ^ k'.bits = n := Nat.mod_eq_of_lt (by have := h6.2.1; exact_mod_cast this)
    have hle : m &&& n ≤ m := Nat.and_le_left
    have hw : k'.wrap ((m &&& n : Nat) : Int) = ((m &&& n : Nat) : Int) := wrap_fitsK (by
      have : k'.min ≤ 0 := by cases k' <;> simp [IntKind.min, IntKind.signed, IntKind.bits]
      exact ⟨by omega, by omega⟩)
    have hb : (BitVec.ofNat k'.bits m &&& BitVec.ofNat k'.bits n).toNat = m &&& n := by
      rw [BitVec.toNat_and, BitVec.toNat_ofNat, BitVec.toNat_ofNat, hm, hn]
    simp [eg, binOp, Op.intBits]
    exact (congrArg (fun z : Nat => k'.wrap (z : Int)) hb).trans hw
  case h_15 => trivial
  all_goals
    rintro rfl
    refine key _ fun w => ?_
    simp [eg, binOp, Op.intCmp, int_beq, bne]
theorem strRes_ok {m n : ByteArray} (hx : ev s x = .v (.string m)) (hy : ev s y = .v (.string n)) : ResOK P G s o (strRes op m n) := by
  have key : ∀ (v : Value) (h : ∀ w, (do eqGuard op t x y (.string m) (.string n); binOp op t (.string m) (.string n)).run P w = .ok v w), StepOK P G s o (putD s o.dst (.v v)) := fun v h => by
    refine stepOK_val hd fun a w E hs => ⟨v, ?_, .r0 _ _ (.v _)⟩
    have hx' := R.v_inv (ev_E hs hx)
    have hy' := R.v_inv (ev_E hs hy)
    have := h w
    simp only [execOp, ho, hx', hy', Sem.run_bind, Sem.run_pure] at this ⊢
    rw [this]
    rfl
  have eg : ∀ (w : World), (eqGuard op t x y (.string m) (.string n)).run P w = .ok () w := fun w => by unfold eqGuard; split <;> simp
  unfold strRes
  split
  case h_1 =>
    intro hle
    refine key _ fun w => ?_
    have : ¬ (9223372036854775807 : Int) < (m.size : Int) + n.size := by omega
    simp [eg, binOp, Op.stringOp, IntKind.max, IntKind.signed, IntKind.bits, this]
  case h_8 => trivial
  all_goals
    intro _
    refine key _ fun w => ?_
    simp [eg, binOp, Op.stringOp, ba_beq]
theorem nilEq_ok (b : Bool)
    (h : ∀ a w E, SimE G s a w E → (Op.equal t (a.eval x) (a.eval y)).run P w = .ok b w ∧ (eqGuard op t x y (a.eval x) (a.eval y)).run P w = .ok () w ∧
      (binOp op t (a.eval x) (a.eval y) = match op with | .eql => (do pure (.bool (← Op.equal t (a.eval x) (a.eval y)))) | .neq => (do pure (.bool (!(← Op.equal t (a.eval x) (a.eval y))))) | _ => binOp op t (a.eval x) (a.eval y))) :
    ResOK P G s o (nilEq op b) := by
  unfold nilEq
  split
  · intro _
    refine stepOK_val hd fun a w E hs => ⟨_, ?_, .r0 _ _ (.v _)⟩
    obtain ⟨h1, h2, h3⟩ := h a w E hs
    simp [execOp, ho, h2, h3, h1]
  · intro _
    refine stepOK_val hd fun a w E hs => ⟨_, ?_, .r0 _ _ (.v _)⟩
    obtain ⟨h1, h2, h3⟩ := h a w E hs
    simp [execOp, ho, h2, h3, h1]
  · trivial
theorem nilEqIf_ok {C : Prop}
    (h : ∀ a w E, SimE G s a w E → ∃ b, (b = true → C) ∧ (Op.equal t (a.eval x) (a.eval y)).run P w = .ok b w ∧ (eqGuard op t x y (a.eval x) (a.eval y)).run P w = .ok () w ∧
      (binOp op t (a.eval x) (a.eval y) = match op with | .eql => (do pure (.bool (← Op.equal t (a.eval x) (a.eval y)))) | .neq => (do pure (.bool (!(← Op.equal t (a.eval x) (a.eval y))))) | _ => binOp op t (a.eval x) (a.eval y))) :
    ResOK P G s o (nilEqIf op C) := by
  have go : ∀ b a w E, SimE G s a w E → (execOp a.eval o).run P w = .ok (.value (.bool b)) w → ∀ (K : Act → World → Prop) (Q : Exit → Act → World → Prop), (∀ a' w', Sim G (putD s o.dst (.v (.bool b))) a' w' → K a' w') → o.wp P a w K Q := fun b a w E hE hr K Q hK => by
    unfold Oper.wp
    rw [hr]
    exact hK _ _ ⟨E, hE.put hd (.r0 _ _ (.v _))⟩
  unfold nilEqIf
  split
  · rintro a w ⟨E, hE⟩ K Q hK
    obtain ⟨b, hc, h1, h2, h3⟩ := h a w E hE
    exact go b a w E hE (by simp [execOp, ho, h2, h3, h1]) K Q (hK b hc)
  · rintro a w ⟨E, hE⟩ K Q hK
    obtain ⟨b, hc, h1, h2, h3⟩ := h a w E hE
    exact go (!b) a w E hE (by simp [execOp, ho, h2, h3, h1]) K Q (hK (!b) (by cases b <;> simp_all))
  · trivial
omit hd ho in
theorem equal_of {w : World} {vx vy : Value} {b : Bool} (h : ∀ d, (Op.equalIn (d + 1) t vx vy).run P w = .ok b w) : (Op.equal t vx vy).run P w = .ok b w := h 9999
theorem bin_ok : ResOK P G s o (binRes op (tk P t) (ev s x) (ev s y)) := by
  unfold binRes
  split
  · rename_i hx hy; exact intRes_ok hd ho hx hy
  · rename_i hx hy; exact strRes_ok hd ho hx hy
  · rename_i hx hy
    split
    · rename_i hb
      refine nilEq_ok hd ho _ fun a w E hs => ?_
      rw [R.v_inv (ev_E hs hx), R.v_inv (ev_E hs hy)]
      refine ⟨equal_of fun d => by simp [Op.equalIn, run_under P w (tk_bool hb)], by unfold eqGuard; split <;> simp, ?_⟩
      cases op <;> rfl
    · trivial
  · rename_i hx hy
    split
    · rename_i hb
      obtain ⟨e, hb⟩ := tk_ptr hb
      refine nilEq_ok hd ho _ fun a w E hs => ?_
      rw [R.v_inv (ev_E hs hx), R.v_inv (ev_E hs hy)]
      refine ⟨equal_of fun d => by simp [Op.equalIn, run_under P w hb], by unfold eqGuard; split <;> simp, ?_⟩
      cases op <;> rfl
    · trivial
  · rename_i cs hx hy
    split
    · rename_i hb
      obtain ⟨e, hb⟩ := tk_ptr hb
      refine nilEq_ok hd ho _ fun a w E hs => ?_
      obtain ⟨b, of', g, h, _⟩ := R.fp_inv (ev_E hs hx)
      rw [h, R.v_inv (ev_E hs hy)]
      refine ⟨equal_of fun d => by simp [Op.equalIn, run_under P w hb], by unfold eqGuard; split <;> simp, ?_⟩
      cases op <;> rfl
    · trivial
  · rename_i id off hx hy
    split
    · rename_i hb
      obtain ⟨e, hb⟩ := tk_ptr hb
      refine nilEq_ok hd ho _ fun a w E hs => ?_
      obtain ⟨b, K, C, _, h⟩ := R.ptr_inv (ev_E hs hx)
      rw [h, R.v_inv (ev_E hs hy)]
      refine ⟨equal_of fun d => by simp [Op.equalIn, run_under P w hb], by unfold eqGuard; split <;> simp, ?_⟩
      cases op <;> rfl
    · trivial
  · rename_i hx hy
    split
    · rename_i hb
      obtain ⟨e, hb⟩ := tk_slc hb
      refine nilEq_ok hd ho _ fun a w E hs => ?_
      rw [R.v_inv (ev_E hs hx), R.v_inv (ev_E hs hy)]
      refine ⟨equal_of fun d => by simp [Op.equalIn, run_under P w hb], by unfold eqGuard; split <;> simp, ?_⟩
      cases op <;> rfl
    · trivial
  · rename_i sz l _ _ hx hy
    split
    · rename_i hb
      obtain ⟨el, hb⟩ := tk_slc hb
      refine nilEqIf_ok hd ho fun a w E hs => ?_
      obtain ⟨ad, cap, b, of', g, h, _, _, ha, _⟩ := R.lst_inv (ev_E hs hx)
      rw [h, R.v_inv (ev_E hs hy)]
      cases ad with
      | none =>
        refine ⟨true, fun _ => ?_, equal_of fun d => by simp [Op.equalIn, run_under P w hb], by unfold eqGuard; split <;> simp, by cases op <;> rfl⟩
        by_cases hne : l = []
        · exact hne
        · obtain ⟨q, _⟩ := ha hne; cases q
      | some A => exact ⟨false, (fun h => by cases h), equal_of fun d => by simp [Op.equalIn, run_under P w hb], by unfold eqGuard; split <;> simp, by cases op <;> rfl⟩
    · trivial
  · rename_i id off len sz _ _ hx hy
    split
    · rename_i hb
      obtain ⟨el, hb⟩ := tk_slc hb
      refine nilEqIf_ok hd ho fun a w E hs => ?_
      obtain ⟨b, K, C, _, _, _, hv⟩ := R.own_inv (ev_E hs hx)
      rw [R.v_inv (ev_E hs hy)]
      cases b with
      | none =>
        obtain ⟨_, hl, hv⟩ := hv
        rw [hv]
        exact ⟨true, fun _ => hl, equal_of fun d => by simp [Op.equalIn, run_under P w hb], by unfold eqGuard; split <;> simp, by cases op <;> rfl⟩
      | some b =>
        obtain ⟨o', _, hv⟩ := hv
        rw [hv]
        exact ⟨false, (fun h => by cases h), equal_of fun d => by simp [Op.equalIn, run_under P w hb], by unfold eqGuard; split <;> simp, by cases op <;> rfl⟩
    · trivial
  · trivial
end

/-! 'not', and the other sign. -/
def unRes : UnOp → V → Res
  | .not, .v (.bool b) => .go True fun _ => .v (.bool (!b))
  | .neg, .v (.int .i64 n) => .go (-9223372036854775808 ≤ -n ∧ -n ≤ 9223372036854775807) fun _ => .v (.int .i64 (-n))
  | _, _ => .stuck
theorem un_ok (P : Program) (G : Gh) (s : St) (o : Oper) (hd : ∀ d, o.dst = some d → d < G.n) (op : UnOp) (t : TypeId) (x : Operand) (ho : o.op = .unOp op t x) :
    ResOK P G s o (unRes op (ev s x)) := by
  unfold unRes
  split
  · rename_i b hx
    intro _
    refine stepOK_val hd fun a w E hs => ⟨_, ?_, .r0 _ _ (.v _)⟩
    simp [execOp, ho, R.v_inv (ev_E hs hx), Op.unary]
  · rename_i n hx
    intro hf
    refine stepOK_val hd fun a w E hs => ⟨_, ?_, .r0 _ _ (.v _)⟩
    have : IntKind.i64.wrap (-n) = -n := wrap_fitsK (fitsK_i64 _ ▸ hf)
    simp [execOp, ho, R.v_inv (ev_E hs hx), Op.unary, Op.intArith, this]
  · trivial

/-! Conversions: between whole numbers (in int: what fitsK); of a string to a string's type. -/
def cvRes : TK → TK → V → Res
  | .int _, .int .i64, .v (.int _ n) => .go (-9223372036854775808 ≤ n ∧ n ≤ 9223372036854775807) fun _ => .v (.int .i64 n)
  | .int _, .int k, .v (.int _ n) => .go True fun _ => .v (.int k (k.wrap n))
  | .str, .str, .v (.string s) => .go True fun _ => .v (.string s)
  | _, _, _ => .stuck
theorem convert_ok (P : Program) (G : Gh) (s : St) (o : Oper) (hd : ∀ d, o.dst = some d → d < G.n) (t t' : TypeId) (x : Operand) (ho : o.op = .convert t t' x) :
    ResOK P G s o (cvRes (tk P t) (tk P t') (ev s x)) := by
  unfold cvRes
  split
  · rename_i k0 k n hk0 hk hx
    intro hf
    refine stepOK_val hd fun a w E hs => ⟨_, ?_, .r0 _ _ (.v _)⟩
    simp [execOp, ho, R.v_inv (ev_E hs hx), convert, run_under P w (tk_int hk), run_under P w (tk_int hk0), Conv.intToInt, wrap_fitsK (fitsK_i64 _ ▸ hf)]
  · rename_i k0 k k' n hk0 hk hx
    intro hf
    refine stepOK_val hd fun a w E hs => ⟨_, ?_, .r0 _ _ (.v _)⟩
    simp [execOp, ho, R.v_inv (ev_E hs hx), convert, run_under P w (tk_int hk), run_under P w (tk_int hk0), Conv.intToInt]
  · rename_i st hk0 hk hx
    intro hf
    refine stepOK_val hd fun a w E hs => ⟨_, ?_, .r0 _ _ (.v _)⟩
    simp [execOp, ho, R.v_inv (ev_E hs hx), convert, run_under P w (tk_str hk), run_under P w (tk_str hk0)]
  · trivial
end Pm
end Go.Proofs.Ytgienbcekgokiaa
