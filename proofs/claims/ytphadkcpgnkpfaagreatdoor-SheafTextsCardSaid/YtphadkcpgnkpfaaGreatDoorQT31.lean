import Derived.Test.YtphadkcpgnkpfaaGreatDoorRows
import Derived.Deep.Strs
import Derived.Test.YtphadkcpgnkpfaaGreatDoorQT28
namespace Go.Proofs.YtphadkcpgnkpfaaGreatDoor
open Go Pm Go.ChangeShapes Go.WideShapes Go.ChangeAt
set_option linter.unusedSimpArgs false
set_option linter.unusedVariables false
set_option maxRecDepth 100000
def laidNeed : List (String × DataW Unit) := [("internal/strconv.uint64pow10", Rows.laid_internal_strconv_uint64pow10), ("strconv.ErrRange", Rows.laid_strconv_ErrRange), ("strconv.ErrSyntax", Rows.laid_strconv_ErrSyntax), ("postil/leaf.kinds", Rows.laid_postil_leaf_kinds), ("postil/postilref11.kinds", Rows.laid_postil_postilref11_kinds), ("postil/sheaf.kinds", Rows.laid_postil_sheaf_kinds)]
theorem cell_kind {W : World} {m : Nat} {c0 c1 c2 : Value} {x : DataW (List UInt8) × List MemPlace} {k : Int} {b b' : UInt8} {r r' : List UInt8} {f0 f1 : FuncId}
    (h : DataW.trod (funcToken Tryz.prog) Tryz.prog W 0 (fun _ => true) true m 155 [c0, c1, c2] = some x) (hx : x.1 = .agg [.lit (.int .i64 k), .held (b :: r), .held (b' :: r')])
    (hone : ((List.range Tryz.prog.funcs.size).filter fun f => (Tryz.prog.funcs[f]?).any (·.name.toUTF8.data.toList == b :: r)) = [f0])
    (hone' : ((List.range Tryz.prog.funcs.size).filter fun f => (Tryz.prog.funcs[f]?).any (·.name.toUTF8.data.toList == b' :: r')) = [f1]) : c0 = .int .i64 k ∧ c1 = .func (.func f0) #[] #[] ∧ c2 = .func (.func f1) #[] #[] := by
  obtain ⟨y0, y1, y2, n, rfl, _, h0, h1, h2⟩ := Go.Deep.trod_struct3 Tryz.underlying155 h
  have c3 : Tryz.prog.cellsOf 3 = 1 := by kernel_rfl
  have c4 : Tryz.prog.cellsOf 153 = 1 := by kernel_rfl
  have c5 : Tryz.prog.cellsOf 103 = 1 := by kernel_rfl
  simp only [c3, c4, c5, List.drop_zero, List.take_succ_cons, List.take_zero, List.drop_succ_cons] at h0 h1 h2
  simp only [DataW.agg.injEq, List.cons.injEq, and_true] at hx
  obtain ⟨z0, q0⟩ := y0
  obtain ⟨z1, q1⟩ := y1
  obtain ⟨z2, q2⟩ := y2
  simp only at hx
  obtain ⟨rfl, rfl, rfl⟩ := hx
  obtain ⟨k', e1, e2, _⟩ := DataW.trod_int Tryz.underlying3 h0
  refine ⟨?_, func_of_trod Tryz.underlying153 hone h1, func_of_trod Tryz.underlying103 hone' h2⟩
  simp at e1 e2
  rw [e1, e2.1]
theorem cell_kind0 {W : World} {m : Nat} {c0 c1 c2 : Value} {x : DataW (List UInt8) × List MemPlace} {k : Int}
    (h : DataW.trod (funcToken Tryz.prog) Tryz.prog W 0 (fun _ => true) true m 155 [c0, c1, c2] = some x) (hx : x.1 = .agg [.lit (.int .i64 k), .nil, .nil]) : c0 = .int .i64 k := by
  obtain ⟨y0, y1, y2, n, rfl, _, h0, h1, h2⟩ := Go.Deep.trod_struct3 Tryz.underlying155 h
  have c3 : Tryz.prog.cellsOf 3 = 1 := by kernel_rfl
  simp only [c3, List.drop_zero, List.take_succ_cons, List.take_zero, List.drop_succ_cons] at h0
  simp only [DataW.agg.injEq, List.cons.injEq, and_true] at hx
  obtain ⟨z0, q0⟩ := y0
  simp only at hx
  obtain ⟨rfl, _, _⟩ := hx
  obtain ⟨k', e1, e2, _⟩ := DataW.trod_int Tryz.underlying3 h0
  simp at e1 e2
  rw [e1, e2.1]
theorem kinds_known {W : World} {L : List (String × DataW Unit)} (hm : ("postil/leaf.kinds", Rows.laid_postil_leaf_kinds) ∈ L) (hs : W.ShapedOpen Tryz.prog) (h : laidMetH Tryz.prog L W) : R0 W (fun _ => False) (.fp [.v (.int .i64 0), .any, .any, .v (.int .i64 0), .fn (.func 171) [], .fn (.func 172) [], .v (.int .i64 1), .fn (.func 173) [], .fn (.func 174) [], .v (.int .i64 0), .fn (.func 175) [], .fn (.func 176) []]) (.pointer (some ⟨2, 0, none⟩)) := by
  obtain ⟨g, t, cs, fuel, p, hg, ht, hv, hd⟩ := laidMetH.funcs h (n := "postil/leaf.kinds") hm
  obtain rfl := Option.some.inj ((show Tryz.prog.globalNamed "postil/leaf.kinds" = some 2 by kernel_rfl).symm.trans hg)
  obtain rfl := Option.some.inj ((show (Tryz.prog.globals[2]?).map (·.type) = some 156 by kernel_rfl).symm.trans ht)
  obtain ⟨xs, m, rfl, hx, hl, hn, hel⟩ := DataW.trod_array Tryz.underlying156 hd
  have c1 : Tryz.prog.cellsOf 156 = 12 := by kernel_rfl
  have c2 : Tryz.prog.cellsOf 155 = 3 := by kernel_rfl
  rw [c1] at hl
  rw [c2] at hel
  obtain ⟨l⟩ := cs
  match l, hl, xs, hn with
  | [a0, a1, a2, a3, a4, a5, a6, a7, a8, a9, a10, a11], _, [x0, x1, x2, x3], _ =>
    have h0 := hel 0 (by decide)
    have h1 := hel 1 (by decide)
    have h2 := hel 2 (by decide)
    have h3 := hel 3 (by decide)
    have hxx : [x0.1, x1.1, x2.1, x3.1] = [.agg [.lit (.int .i64 0), .nil, .nil], .agg [.lit (.int .i64 0), .held [112, 111, 115, 116, 105, 108, 47, 108, 101, 97, 102, 46, 107, 105, 110, 100, 115, 36, 49], .held [112, 111, 115, 116, 105, 108, 47, 108, 101, 97, 102, 46, 107, 105, 110, 100, 115, 36, 50]], .agg [.lit (.int .i64 1), .held [112, 111, 115, 116, 105, 108, 47, 108, 101, 97, 102, 46, 107, 105, 110, 100, 115, 36, 51], .held [112, 111, 115, 116, 105, 108, 47, 108, 101, 97, 102, 46, 107, 105, 110, 100, 115, 36, 52]], .agg [.lit (.int .i64 0), .held [112, 111, 115, 116, 105, 108, 47, 108, 101, 97, 102, 46, 107, 105, 110, 100, 115, 36, 53], .held [112, 111, 115, 116, 105, 108, 47, 108, 101, 97, 102, 46, 107, 105, 110, 100, 115, 36, 54]]] := by
      have e : DataW.agg [.agg [.lit (.int .i64 0), .nil, .nil], .agg [.lit (.int .i64 0), .held [112, 111, 115, 116, 105, 108, 47, 108, 101, 97, 102, 46, 107, 105, 110, 100, 115, 36, 49], .held [112, 111, 115, 116, 105, 108, 47, 108, 101, 97, 102, 46, 107, 105, 110, 100, 115, 36, 50]], .agg [.lit (.int .i64 1), .held [112, 111, 115, 116, 105, 108, 47, 108, 101, 97, 102, 46, 107, 105, 110, 100, 115, 36, 51], .held [112, 111, 115, 116, 105, 108, 47, 108, 101, 97, 102, 46, 107, 105, 110, 100, 115, 36, 52]], .agg [.lit (.int .i64 0), .held [112, 111, 115, 116, 105, 108, 47, 108, 101, 97, 102, 46, 107, 105, 110, 100, 115, 36, 53], .held [112, 111, 115, 116, 105, 108, 47, 108, 101, 97, 102, 46, 107, 105, 110, 100, 115, 36, 54]]] = DataW.agg [x0.1, x1.1, x2.1, x3.1] := congrArg Prod.fst hx
      injection e with e
      exact e.symm
    simp only [List.cons.injEq, and_true] at hxx
    obtain ⟨k0, k1, k2, k3⟩ := hxx
    obtain rfl := cell_kind0 h0 k0
    obtain ⟨rfl, rfl, rfl⟩ := cell_kind (f0 := 171) (f1 := 172) h1 k1 (by kernel_rfl) (by kernel_rfl)
    obtain ⟨rfl, rfl, rfl⟩ := cell_kind (f0 := 173) (f1 := 174) h2 k2 (by kernel_rfl) (by kernel_rfl)
    obtain ⟨rfl, rfl, rfl⟩ := cell_kind (f0 := 175) (f1 := 176) h3 k3 (by kernel_rfl) (by kernel_rfl)
    have f0 : ∀ k : FuncId, R0 W (fun _ => False) (.fn (.func k) []) (.func (.func k) #[] #[]) := fun k => .fn (.func k) [] #[] rfl (by simp)
    refine glob_fp (z := (((((begin Tryz.prog (fun _ _ => 0) default).world.heap[2]?).bind Obj.row?)).getD (#[], 0)).1) (t0 := (((((begin Tryz.prog (fun _ _ => 0) default).world.heap[2]?).bind Obj.row?)).getD (#[], 0)).2) hs (by decide +kernel) (by kernel_rfl) hg hv (by simp) fun j u y q1 q2 => ?_
    match j with
    | 0 => simp at q1 q2; subst q1; subst q2; exact .v _
    | 1 => simp at q1; subst q1; exact .any _
    | 2 => simp at q1; subst q1; exact .any _
    | 3 => simp at q1 q2; subst q1; subst q2; exact .v _
    | 4 => simp at q1 q2; subst q1; subst q2; exact f0 _
    | 5 => simp at q1 q2; subst q1; subst q2; exact f0 _
    | 6 => simp at q1 q2; subst q1; subst q2; exact .v _
    | 7 => simp at q1 q2; subst q1; subst q2; exact f0 _
    | 8 => simp at q1 q2; subst q1; subst q2; exact f0 _
    | 9 => simp at q1 q2; subst q1; subst q2; exact .v _
    | 10 => simp at q1 q2; subst q1; subst q2; exact f0 _
    | 11 => simp at q1 q2; subst q1; subst q2; exact f0 _
    | j + 12 => simp at q1
theorem rkinds_known {W : World} {L : List (String × DataW Unit)} (hm : ("postil/postilref11.kinds", Rows.laid_postil_postilref11_kinds) ∈ L) (hs : W.ShapedOpen Tryz.prog) (h : laidMetH Tryz.prog L W) : R0 W (fun _ => False) (.fp [.v (.string ⟨#[]⟩), .v (.string ⟨#[111, 109, 105, 116]⟩), .v (.string ⟨#[112, 117, 116]⟩), .v (.string ⟨#[111, 116, 104, 101, 114]⟩)]) (.pointer (some ⟨1, 0, none⟩)) := by
  obtain ⟨g, t, cs, fuel, p, hg, ht, hv, hd⟩ := laid_var h hm (by kernel_rfl)
  obtain rfl := Option.some.inj ((show Tryz.prog.globalNamed "postil/postilref11.kinds" = some 1 by kernel_rfl).symm.trans hg)
  obtain rfl := Option.some.inj ((show (Tryz.prog.globals[1]?).map (·.type) = some 83 by kernel_rfl).symm.trans ht)
  have e := arr_strs (zs := [⟨#[]⟩, ⟨#[111, 109, 105, 116]⟩, ⟨#[112, 117, 116]⟩, ⟨#[111, 116, 104, 101, 114]⟩]) Tryz.underlying83 Tryz.underlying9 (by kernel_rfl) (by kernel_rfl) hd (by kernel_rfl)
  have e' : cs = #[.string ⟨#[]⟩, .string ⟨#[111, 109, 105, 116]⟩, .string ⟨#[112, 117, 116]⟩, .string ⟨#[111, 116, 104, 101, 114]⟩] := by rw [← Array.toList_inj, e]; rfl
  subst e'
  refine glob_fp (z := (((((begin Tryz.prog (fun _ _ => 0) default).world.heap[1]?).bind Obj.row?)).getD (#[], 0)).1) (t0 := (((((begin Tryz.prog (fun _ _ => 0) default).world.heap[1]?).bind Obj.row?)).getD (#[], 0)).2) hs (by decide +kernel) (by kernel_rfl) hg hv (by simp) fun j u y q1 q2 => ?_
  match j with
  | 0 => simp at q1 q2; subst q1; subst q2; exact .v _
  | 1 => simp at q1 q2; subst q1; subst q2; exact .v _
  | 2 => simp at q1 q2; subst q1; subst q2; exact .v _
  | 3 => simp at q1 q2; subst q1; subst q2; exact .v _
  | j + 4 => simp at q1
theorem skinds_known {W : World} {L : List (String × DataW Unit)} (hm : ("postil/sheaf.kinds", Rows.laid_postil_sheaf_kinds) ∈ L) (hs : W.ShapedOpen Tryz.prog) (h : laidMetH Tryz.prog L W) : R0 W (fun _ => False) (.fp [.v (.string ⟨#[]⟩), .v (.string ⟨#[111, 109, 105, 116]⟩), .v (.string ⟨#[112, 117, 116]⟩), .v (.string ⟨#[111, 116, 104, 101, 114]⟩)]) (.pointer (some ⟨0, 0, none⟩)) := by
  obtain ⟨g, t, cs, fuel, p, hg, ht, hv, hd⟩ := laid_var h hm (by kernel_rfl)
  obtain rfl := Option.some.inj ((show Tryz.prog.globalNamed "postil/sheaf.kinds" = some 0 by kernel_rfl).symm.trans hg)
  obtain rfl := Option.some.inj ((show (Tryz.prog.globals[0]?).map (·.type) = some 83 by kernel_rfl).symm.trans ht)
  have e := arr_strs (zs := [⟨#[]⟩, ⟨#[111, 109, 105, 116]⟩, ⟨#[112, 117, 116]⟩, ⟨#[111, 116, 104, 101, 114]⟩]) Tryz.underlying83 Tryz.underlying9 (by kernel_rfl) (by kernel_rfl) hd (by kernel_rfl)
  have e' : cs = #[.string ⟨#[]⟩, .string ⟨#[111, 109, 105, 116]⟩, .string ⟨#[112, 117, 116]⟩, .string ⟨#[111, 116, 104, 101, 114]⟩] := by rw [← Array.toList_inj, e]; rfl
  subst e'
  refine glob_fp (z := (((((begin Tryz.prog (fun _ _ => 0) default).world.heap[0]?).bind Obj.row?)).getD (#[], 0)).1) (t0 := (((((begin Tryz.prog (fun _ _ => 0) default).world.heap[0]?).bind Obj.row?)).getD (#[], 0)).2) hs (by decide +kernel) (by kernel_rfl) hg hv (by simp) fun j u y q1 q2 => ?_
  match j with
  | 0 => simp at q1 q2; subst q1; subst q2; exact .v _
  | 1 => simp at q1 q2; subst q1; subst q2; exact .v _
  | 2 => simp at q1 q2; subst q1; subst q2; exact .v _
  | 3 => simp at q1 q2; subst q1; subst q2; exact .v _
  | j + 4 => simp at q1
theorem pow_known {W : World} {L : List (String × DataW Unit)} (hm : ("internal/strconv.uint64pow10", Rows.laid_internal_strconv_uint64pow10) ∈ L) (hs : W.ShapedOpen Tryz.prog) (h : laidMetH Tryz.prog L W) : KnAt W (fun _ => False) 3 (isTab [.int .u64 1, .int .u64 10, .int .u64 100, .int .u64 1000, .int .u64 10000, .int .u64 100000, .int .u64 1000000, .int .u64 10000000, .int .u64 100000000, .int .u64 1000000000, .int .u64 10000000000, .int .u64 100000000000, .int .u64 1000000000000, .int .u64 10000000000000, .int .u64 100000000000000, .int .u64 1000000000000000, .int .u64 10000000000000000, .int .u64 100000000000000000, .int .u64 1000000000000000000, .int .u64 10000000000000000000]) := by
  obtain ⟨g, t, cs, fuel, p, hg, ht, hv, hd⟩ := laid_var h hm (by kernel_rfl)
  obtain rfl := Option.some.inj ((show Tryz.prog.globalNamed "internal/strconv.uint64pow10" = some 3 by kernel_rfl).symm.trans hg)
  obtain rfl := Option.some.inj ((show (Tryz.prog.globals[3]?).map (·.type) = some 166 by kernel_rfl).symm.trans ht)
  have e := arr_ints (zs := [1, 10, 100, 1000, 10000, 100000, 1000000, 10000000, 100000000, 1000000000, 10000000000, 100000000000, 1000000000000, 10000000000000, 100000000000000, 1000000000000000, 10000000000000000, 100000000000000000, 1000000000000000000, 10000000000000000000]) Tryz.underlying166 Tryz.underlying134 (by kernel_rfl) (by kernel_rfl) hd (by kernel_rfl)
  have e' : cs = #[.int .u64 1, .int .u64 10, .int .u64 100, .int .u64 1000, .int .u64 10000, .int .u64 100000, .int .u64 1000000, .int .u64 10000000, .int .u64 100000000, .int .u64 1000000000, .int .u64 10000000000, .int .u64 100000000000, .int .u64 1000000000000, .int .u64 10000000000000, .int .u64 100000000000000, .int .u64 1000000000000000, .int .u64 10000000000000000, .int .u64 100000000000000000, .int .u64 1000000000000000000, .int .u64 10000000000000000000] := by rw [← Array.toList_inj, e]; rfl
  subst e'
  exact glob_kn (z := (((((begin Tryz.prog (fun _ _ => 0) default).world.heap[3]?).bind Obj.row?)).getD (#[], 0)).1) (t0 := (((((begin Tryz.prog (fun _ _ => 0) default).world.heap[3]?).bind Obj.row?)).getD (#[], 0)).2) hs (by decide +kernel) (by kernel_rfl) hg hv (by simp) rfl
theorem ifc_of {W : World} {t : TypeId} {cs : Array Value} {ms : Array (String × TypeId)} {fuel : Nat} {x : DataW Unit × List MemPlace} (ht : Tryz.prog.underlying t = some (.interface ms)) (h : DataW.trod (fun _ => ()) Tryz.prog W 0 (fun _ => true) false fuel t cs.toList = some x) : isIfc cs ∧ 1 ≤ cs.size := by
  obtain ⟨l⟩ := cs
  cases fuel with
  | zero => simp [DataW.trod] at h
  | succ m =>
    unfold DataW.trod at h
    rw [ht] at h
    simp only at h
    split at h <;> simp_all
    · exact ⟨_, rfl, .inl rfl⟩
    · exact ⟨_, rfl, .inr ⟨_, _, rfl⟩⟩
theorem synt_known {W : World} {L : List (String × DataW Unit)} (hm : ("strconv.ErrSyntax", Rows.laid_strconv_ErrSyntax) ∈ L) (hs : W.ShapedOpen Tryz.prog) (h : laidMetH Tryz.prog L W) : KnAt W (fun _ => False) 5 isIfc := by
  obtain ⟨g, t, cs, fuel, p, hg, ht, hv, hd⟩ := laid_var h hm (by kernel_rfl)
  obtain rfl := Option.some.inj ((show Tryz.prog.globalNamed "strconv.ErrSyntax" = some 5 by kernel_rfl).symm.trans hg)
  obtain rfl := Option.some.inj ((show (Tryz.prog.globals[5]?).map (·.type) = some 99 by kernel_rfl).symm.trans ht)
  obtain ⟨e1, e2⟩ := ifc_of Tryz.underlying99 hd
  exact glob_kn (z := (((((begin Tryz.prog (fun _ _ => 0) default).world.heap[5]?).bind Obj.row?)).getD (#[], 0)).1) (t0 := (((((begin Tryz.prog (fun _ _ => 0) default).world.heap[5]?).bind Obj.row?)).getD (#[], 0)).2) hs (by decide +kernel) (by kernel_rfl) hg hv e2 e1
theorem rng_known {W : World} {L : List (String × DataW Unit)} (hm : ("strconv.ErrRange", Rows.laid_strconv_ErrRange) ∈ L) (hs : W.ShapedOpen Tryz.prog) (h : laidMetH Tryz.prog L W) : KnAt W (fun _ => False) 6 isIfc := by
  obtain ⟨g, t, cs, fuel, p, hg, ht, hv, hd⟩ := laid_var h hm (by kernel_rfl)
  obtain rfl := Option.some.inj ((show Tryz.prog.globalNamed "strconv.ErrRange" = some 6 by kernel_rfl).symm.trans hg)
  obtain rfl := Option.some.inj ((show (Tryz.prog.globals[6]?).map (·.type) = some 99 by kernel_rfl).symm.trans ht)
  obtain ⟨e1, e2⟩ := ifc_of Tryz.underlying99 hd
  exact glob_kn (z := (((((begin Tryz.prog (fun _ _ => 0) default).world.heap[6]?).bind Obj.row?)).getD (#[], 0)).1) (t0 := (((((begin Tryz.prog (fun _ _ => 0) default).world.heap[6]?).bind Obj.row?)).getD (#[], 0)).2) hs (by decide +kernel) (by kernel_rfl) hg hv e2 e1
theorem maxlen_known {W : World} (hs : W.ShapedOpen Tryz.prog) : KnAt W (fun _ => False) 4 isInt :=
  glob_int (n := "internal/bytealg.MaxLen") (z := (((((begin Tryz.prog (fun _ _ => 0) default).world.heap[4]?).bind Obj.row?)).getD (#[], 0)).1) (t0 := (((((begin Tryz.prog (fun _ _ => 0) default).world.heap[4]?).bind Obj.row?)).getD (#[], 0)).2) hs (by decide +kernel) (by kernel_rfl) (by kernel_rfl) (by kernel_rfl) (by kernel_rfl) (by kernel_rfl) (by kernel_rfl)
theorem globs_known {L : List (String × DataW Unit)} (hL : ∀ x ∈ laidNeed, x ∈ L) (W : World) (hs : W.ShapedOpen Tryz.prog) (h : laidMetH Tryz.prog L W) : GlobOK W (fun _ => False) := by
  simp only [laidNeed, List.mem_cons, List.not_mem_nil, or_false, forall_eq_or_imp, forall_eq] at hL
  obtain ⟨m1, m2, m3, m4, m5, m6⟩ := hL
  refine ⟨fun p hp => ?_, fun g hg => ?_⟩
  · simp only [globs, gl1, gl2, gl3, gl4, gl5, List.nil_append, List.cons_append, List.mem_cons, List.not_mem_nil, or_false] at hp
    rcases hp with rfl | rfl | rfl
    · exact kinds_known m4 hs h
    · exact rkinds_known m5 hs h
    · exact skinds_known m6 hs h
  · simp only [globsI, glI1, glI2, glI3, List.nil_append, List.cons_append, List.mem_cons, List.not_mem_nil, or_false] at hg
    rcases hg with rfl | rfl | rfl | rfl
    · exact synt_known m3 hs h
    · exact rng_known m2 hs h
    · exact pow_known m1 hs h
    · exact maxlen_known hs
end Go.Proofs.YtphadkcpgnkpfaaGreatDoor
