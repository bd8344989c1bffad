import Derived.Test.YtagfopbijboajaaGreatDoorRows
import Derived.Test.YtagfopbijboajaaGreatDoorQY23
namespace Go.Proofs.YtagfopbijboajaaGreatDoor
open Go Pm Go.ChangeShapes Go.WideShapes Go.ChangeAt
set_option linter.unusedSimpArgs false
set_option linter.unusedVariables false
set_option maxRecDepth 100000
def laidAll : List (String × DataW Unit) := [("postil/slip.sides", Rows.laid_postil_slip_sides), ("postil/hand.steps", Rows.laid_postil_hand_steps)]
theorem cell_step {W : World} {m : Nat} {c0 c1 : Value} {x : DataW (List UInt8) × List MemPlace} {k : Int} {b : UInt8} {r : List UInt8} {f0 : FuncId}
    (h : DataW.trod (funcToken Tryz.prog) Tryz.prog W 0 (fun _ => true) true m 137 [c0, c1] = some x) (hx : x.1 = .agg [.lit (.int .u8 k), .held (b :: r)])
    (hone : ((List.range Tryz.prog.funcs.size).filter fun f => (Tryz.prog.funcs[f]?).any (·.name.toUTF8.data.toList == b :: r)) = [f0]) : c0 = .int .u8 k ∧ c1 = .func (.func f0) #[] #[] := by
  obtain ⟨y0, y1, n, rfl, _, h0, h1⟩ := trod_struct2 Tryz.underlying137 h
  have c3 : Tryz.prog.cellsOf 5 = 1 := by kernel_rfl
  have c4 : Tryz.prog.cellsOf 135 = 1 := by kernel_rfl
  simp only [c3, c4, List.drop_zero, List.take_succ_cons, List.take_zero, List.drop_succ_cons] at h0 h1
  simp only [DataW.agg.injEq, List.cons.injEq, and_true] at hx
  obtain ⟨z0, q0⟩ := y0
  obtain ⟨z1, q1⟩ := y1
  simp only at hx
  obtain ⟨rfl, rfl⟩ := hx
  obtain ⟨k', e1, e2, _⟩ := DataW.trod_int Tryz.underlying5 h0
  refine ⟨?_, func_of_trod Tryz.underlying135 hone h1⟩
  simp at e1 e2
  rw [e1, e2.1]
theorem steps_known {W : World} (hs : W.ShapedOpen Tryz.prog) (h : laidMetH Tryz.prog laidAll W) : R0 W (fun _ => False) (.fp [.v (.int .u8 2), .fn (.func 134) [], .v (.int .u8 3), .fn (.func 135) [], .v (.int .u8 1), .fn (.func 137) []]) (.pointer (some ⟨0, 0, none⟩)) := by
  obtain ⟨g, t, cs, fuel, p, hg, ht, hv, hd⟩ := laidMetH.funcs h (n := "postil/hand.steps") (List.mem_cons_of_mem _ (List.mem_cons_self ..))
  obtain rfl := Option.some.inj ((show Tryz.prog.globalNamed "postil/hand.steps" = some 0 by kernel_rfl).symm.trans hg)
  obtain rfl := Option.some.inj ((show (Tryz.prog.globals[0]?).map (·.type) = some 138 by kernel_rfl).symm.trans ht)
  obtain ⟨xs, m, rfl, hx, hl, hn, hel⟩ := DataW.trod_array Tryz.underlying138 hd
  have c1 : Tryz.prog.cellsOf 138 = 6 := by kernel_rfl
  have c2 : Tryz.prog.cellsOf 137 = 2 := by kernel_rfl
  rw [c1] at hl
  rw [c2] at hel
  obtain ⟨l⟩ := cs
  match l, hl, xs, hn with
  | [a0, a1, a2, a3, a4, a5], _, [x0, x1, x2], _ =>
    have h0 := hel 0 (by decide)
    have h1 := hel 1 (by decide)
    have h2 := hel 2 (by decide)
    have hxx : [x0.1, x1.1, x2.1] = [.agg [.lit (.int .u8 2), .held [112, 111, 115, 116, 105, 108, 47, 104, 97, 110, 100, 46, 115, 116, 101, 112, 115, 36, 49]], .agg [.lit (.int .u8 3), .held [112, 111, 115, 116, 105, 108, 47, 104, 97, 110, 100, 46, 115, 116, 101, 112, 115, 36, 50]], .agg [.lit (.int .u8 1), .held [112, 111, 115, 116, 105, 108, 47, 104, 97, 110, 100, 46, 115, 116, 101, 112, 115, 36, 51]]] := by
      have e : DataW.agg [.agg [.lit (.int .u8 2), .held [112, 111, 115, 116, 105, 108, 47, 104, 97, 110, 100, 46, 115, 116, 101, 112, 115, 36, 49]], .agg [.lit (.int .u8 3), .held [112, 111, 115, 116, 105, 108, 47, 104, 97, 110, 100, 46, 115, 116, 101, 112, 115, 36, 50]], .agg [.lit (.int .u8 1), .held [112, 111, 115, 116, 105, 108, 47, 104, 97, 110, 100, 46, 115, 116, 101, 112, 115, 36, 51]]] = DataW.agg [x0.1, x1.1, x2.1] := congrArg Prod.fst hx
      injection e with e
      exact e.symm
    simp only [List.cons.injEq, and_true] at hxx
    obtain ⟨k0, k1, k2⟩ := hxx
    obtain ⟨rfl, rfl⟩ := cell_step (f0 := 134) h0 k0 (by kernel_rfl)
    obtain ⟨rfl, rfl⟩ := cell_step (f0 := 135) h1 k1 (by kernel_rfl)
    obtain ⟨rfl, rfl⟩ := cell_step (f0 := 137) h2 k2 (by kernel_rfl)
    have f0 : ∀ k : FuncId, R0 W (fun _ => False) (.fn (.func k) []) (.func (.func k) #[] #[]) := fun k => .fn (.func k) [] #[] rfl (by simp)
    refine glob_fp (z := (((((begin Tryz.prog (fun _ _ => 0) default).world.heap[0]?).bind Obj.row?)).getD (#[], 0)).1) (t0 := (((((begin Tryz.prog (fun _ _ => 0) default).world.heap[0]?).bind Obj.row?)).getD (#[], 0)).2) hs (by decide +kernel) (by kernel_rfl) hg hv (by simp) fun j u y q1 q2 => ?_
    match j with
    | 0 => simp at q1 q2; subst q1; subst q2; exact .v _
    | 1 => simp at q1 q2; subst q1; subst q2; exact f0 _
    | 2 => simp at q1 q2; subst q1; subst q2; exact .v _
    | 3 => simp at q1 q2; subst q1; subst q2; exact f0 _
    | 4 => simp at q1 q2; subst q1; subst q2; exact .v _
    | 5 => simp at q1 q2; subst q1; subst q2; exact f0 _
    | j + 6 => simp at q1
theorem cell_side {W : World} {m : Nat} {c1 : Value} {x : DataW (List UInt8) × List MemPlace} {b : UInt8} {r : List UInt8} {f0 : FuncId}
    (h : DataW.trod (funcToken Tryz.prog) Tryz.prog W 0 (fun _ => true) true m 170 [c1] = some x) (hx : x.1 = .agg [.held (b :: r)])
    (hone : ((List.range Tryz.prog.funcs.size).filter fun f => (Tryz.prog.funcs[f]?).any (·.name.toUTF8.data.toList == b :: r)) = [f0]) : c1 = .func (.func f0) #[] #[] := by
  obtain ⟨y1, n, rfl, _, h1⟩ := trod_struct1 Tryz.underlying170 h
  have c4 : Tryz.prog.cellsOf 169 = 1 := by kernel_rfl
  simp only [c4, List.drop_zero, List.take_succ_cons, List.take_zero, List.drop_succ_cons] at h1
  simp only [DataW.agg.injEq, List.cons.injEq, and_true] at hx
  obtain ⟨z1, q1⟩ := y1
  simp only at hx
  subst hx
  exact func_of_trod Tryz.underlying169 hone h1
theorem sides_known {W : World} (hs : W.ShapedOpen Tryz.prog) (h : laidMetH Tryz.prog laidAll W) : R0 W (fun _ => False) (.fp [.any, .fn (.func 145) [], .fn (.func 146) [], .fn (.func 147) []]) (.pointer (some ⟨1, 0, none⟩)) := by
  obtain ⟨g, t, cs, fuel, p, hg, ht, hv, hd⟩ := laidMetH.funcs h (n := "postil/slip.sides") (List.mem_cons_self ..)
  obtain rfl := Option.some.inj ((show Tryz.prog.globalNamed "postil/slip.sides" = some 1 by kernel_rfl).symm.trans hg)
  obtain rfl := Option.some.inj ((show (Tryz.prog.globals[1]?).map (·.type) = some 171 by kernel_rfl).symm.trans ht)
  obtain ⟨xs, m, rfl, hx, hl, hn, hel⟩ := DataW.trod_array Tryz.underlying171 hd
  have c1 : Tryz.prog.cellsOf 171 = 4 := by kernel_rfl
  have c2 : Tryz.prog.cellsOf 170 = 1 := by kernel_rfl
  rw [c1] at hl
  rw [c2] at hel
  obtain ⟨l⟩ := cs
  match l, hl, xs, hn with
  | [a0, a1, a2, a3], _, [x0, x1, x2, x3], _ =>
    have h1 := hel 1 (by decide)
    have h2 := hel 2 (by decide)
    have h3 := hel 3 (by decide)
    have hxx : [x0.1, x1.1, x2.1, x3.1] = [.agg [.nil], .agg [.held [112, 111, 115, 116, 105, 108, 47, 115, 108, 105, 112, 46, 115, 105, 100, 101, 115, 36, 49]], .agg [.held [112, 111, 115, 116, 105, 108, 47, 115, 108, 105, 112, 46, 115, 105, 100, 101, 115, 36, 50]], .agg [.held [112, 111, 115, 116, 105, 108, 47, 115, 108, 105, 112, 46, 115, 105, 100, 101, 115, 36, 51]]] := by
      have e : DataW.agg [.agg [.nil], .agg [.held [112, 111, 115, 116, 105, 108, 47, 115, 108, 105, 112, 46, 115, 105, 100, 101, 115, 36, 49]], .agg [.held [112, 111, 115, 116, 105, 108, 47, 115, 108, 105, 112, 46, 115, 105, 100, 101, 115, 36, 50]], .agg [.held [112, 111, 115, 116, 105, 108, 47, 115, 108, 105, 112, 46, 115, 105, 100, 101, 115, 36, 51]]] = DataW.agg [x0.1, x1.1, x2.1, x3.1] := congrArg Prod.fst hx
      injection e with e
      exact e.symm
    simp only [List.cons.injEq, and_true] at hxx
    obtain ⟨k0, k1, k2, k3⟩ := hxx
    obtain rfl := cell_side (f0 := 145) h1 k1 (by kernel_rfl)
    obtain rfl := cell_side (f0 := 146) h2 k2 (by kernel_rfl)
    obtain rfl := cell_side (f0 := 147) h3 k3 (by kernel_rfl)
    have f0 : ∀ k : FuncId, R0 W (fun _ => False) (.fn (.func k) []) (.func (.func k) #[] #[]) := fun k => .fn (.func k) [] #[] rfl (by simp)
    refine glob_fp (z := (((((begin Tryz.prog (fun _ _ => 0) default).world.heap[1]?).bind Obj.row?)).getD (#[], 0)).1) (t0 := (((((begin Tryz.prog (fun _ _ => 0) default).world.heap[1]?).bind Obj.row?)).getD (#[], 0)).2) hs (by decide +kernel) (by kernel_rfl) hg hv (by simp) fun j u y q1 q2 => ?_
    match j with
    | 0 => simp at q1; subst q1; exact .any _
    | 1 => simp at q1 q2; subst q1; subst q2; exact f0 _
    | 2 => simp at q1 q2; subst q1; subst q2; exact f0 _
    | 3 => simp at q1 q2; subst q1; subst q2; exact f0 _
    | j + 4 => simp at q1
theorem globs_known (W : World) (hs : W.ShapedOpen Tryz.prog) (h : laidMetH Tryz.prog laidAll W) : GlobOK W (fun _ => False) := by
  intro p hp
  rcases List.mem_append.1 (show p ∈ gl1 ++ gl2 from hp) with hp | hp
  · rw [List.mem_singleton.1 (show p ∈ [_] from hp)]
    exact steps_known hs h
  · rw [List.mem_singleton.1 (show p ∈ [_] from hp)]
    exact sides_known hs h
end Go.Proofs.YtagfopbijboajaaGreatDoor
