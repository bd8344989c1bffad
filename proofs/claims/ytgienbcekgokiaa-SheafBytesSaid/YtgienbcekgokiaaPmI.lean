/- A call of a function that has no body: the place of a byte in a text. No program in sight. -/
import Derived.Test.YtgienbcekgokiaaPm8
import Derived.Lib.Bytealg
namespace Go.Proofs.Ytgienbcekgokiaa
open Go
set_option linter.unusedSimpArgs false
set_option linter.unusedVariables false
namespace Pm
theorem call_idx {P : Program} {G : Gh} {o : Oper} {s : St} {Q : Exit → St → Prop} {rest : St → Prop} {k : FuncId} {fn : Func} (hf : P.funcs[k]? = some fn) (hname : (fn.name == "runtime.NumGoroutine") = false)
    (hb : fn.body.isNone = true) (hn : Extern.findNext fn = none) (he : Extern.find fn = some Extern.BytealgIndexByte.indexByte) {d : Nat} (hd : o.dst = some d) (hdn : d < G.n) (S : ByteArray) (c : Int)
    (h : rest (putD s o.dst (.v (.int .i64 (Lib.indexByte S.data.toList c.toNat.toUInt8))))) : SemCall P G o s Q rest (.fn (.func k) []) [.v (.string S), .v (.int .u8 c)] := by
  rintro x l ts ho hx has a w hs
  refine wpIn_of_wp (fun c hc => by rw [ho] at hc; cases hc) ?_
  refine stepOK_val (x := .v (.int .i64 (Lib.indexByte S.data.toList c.toNat.toUInt8))) (fun d' h => by rw [hd] at h; cases h; exact hdn) (fun a w E hs => ⟨_, ?_, .r0 _ _ (.v _)⟩) a w hs _ _ fun a' w' hs' => ⟨_, h, hs'⟩
  obtain ⟨ys, hy, hsz, hr⟩ := R.fn_inv (ev_E hs hx.symm)
  obtain rfl : ys = #[] := by
    apply Array.eq_empty_of_size_eq_zero
    simpa using hsz
  have hl : l.length = 2 := by simpa using (congrArg List.length has).symm
  obtain ⟨p, q, rfl⟩ : ∃ p q, l = [p, q] := by
    rcases l with _ | ⟨p, _ | ⟨q, _ | ⟨z, r⟩⟩⟩
    · cases hl
    · cases hl
    · exact ⟨p, q, rfl⟩
    · simp at hl
  · simp only [List.map_cons, List.map_nil, List.cons.injEq, and_true] at has
    have h1 := R.v_inv (ev_E hs has.1.symm)
    have h2 := R.v_inv (ev_E hs has.2.symm)
    have hrun := run_callFunc_extern hf hname hb hn he #[a.eval p, a.eval q] w
    rw [h1, h2, Lib.run_indexByteString] at hrun
    have hy' : a.eval x = .func (.func k) #[] #[] := hy
    simp only [execOp, ho, resolve, Deferred.ofValue, hy', invoke]
    simp [h1, h2, hrun]
end Pm
end Go.Proofs.Ytgienbcekgokiaa
