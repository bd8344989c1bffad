/- Go's library: strings.Builder. -/
import Derived.Test.YtgienbcekgokiaaSp
import Derived.Test.YtgienbcekgokiaaTab
import Derived.Test.YtgienbcekgokiaaPmS
import Derived.Test.YtgienbcekgokiaaJb
namespace Go.Proofs.Ytgienbcekgokiaa
open Go Pm
set_option linter.unusedSimpArgs false
set_option linter.unusedVariables false
set_option maxHeartbeats 4000000
set_option maxRecDepth 100000
theorem copyCheck_used (n : Nat) (l : List UInt8) : Tri Try.prog 54 [.ptr 0 0] [(0, .box [.ptr 0 0, .own 1 0 n 1]), (1, .arr 5 1 (l.map byteE))] (fun _ => .ret (.tup []) [(0, .box [.ptr 0 0, .own 1 0 n 1]), (1, .arr 5 1 (l.map byteE))]) := by
  refine tri_intro (fun _ => false) Try.func54 Try.ntmps54 rfl (by kernel_rfl) (by simp) rfl (by decide) fun G hG hOw hNm => ?_; simp only [go_sem, hG, hOw, reduceIte, Nat.reduceLeDiff, Nat.le_refl, Nat.reduceEqDiff, Nat.reduceAdd, Nat.reduceLT, reduceCtorEq, Int.toNat_natCast]
  (repeat' (first | (with_reducible refine And.intro ?_ ?_) | (with_reducible intro _) | (with_reducible refine exP ?_ ?_))); all_goals (try omega)
  refine ptr_neq_step rfl rfl rfl rfl (by rw [hG]; decide) Try.underlying74 (by kernel_rfl) ?_
  simp only [go_sem, hG, hOw, reduceIte, Nat.reduceLeDiff, Nat.le_refl, Nat.reduceEqDiff, Nat.reduceAdd, Nat.reduceLT, reduceCtorEq, Int.toNat_natCast]
  exact ⟨[(0, some 0), (1, some 1)], by (simp only [EndT, go_sem, entH, entH1, nilArr, obOK, apart, injR, coverR, reduceIte, Nat.reduceLeDiff, Nat.le_refl, Nat.reduceEqDiff, Nat.reduceAdd, Nat.reduceLT, reduceCtorEq, Int.toNat_natCast]) <;> simp⟩
def freshB : Obj := .cells #[.pointer none, .slice none 0 0] 77 (0, 0)
theorem setCell_heap0 (w : World) (b : Nat) (x y v : Value) (t : TypeId) (h : w.heap[b]? = some (.cells #[x, y] t (0, 0))) : (w.setCell ⟨b, 0, none⟩ v).heap[b]? = some (.cells #[v, y] t (0, 0)) ∧ ∀ k, k ≠ b → (w.setCell ⟨b, 0, none⟩ v).heap[k]? = w.heap[k]? := by
  rw [setCell_eq_setRow w b 0 _ t _ v h]
  exact ⟨setRow_heap w b _ _ t _ h, fun k hk => setRow_other w b k _ hk⟩
def cren : Go.Shelf.Ren := ⟨fun | 240 => 54 | 276 => 66 | n => n, fun | 0 => 0 | 4 => 4 | 9 => 9 | 20 => 20 | 70 => 74 | 72 => 77 | 37 => 75 | 164 => 114 | n => n, fun | n => n⟩
theorem lays240 : Go.Proofs.Lays.n240 Try.prog cren := {
  mixed := by kernel_rfl
  f240 := Try.func54.trans (congrArg some (by kernel_rfl))
  f276 := Try.func66.trans (congrArg some (by kernel_rfl))
  t0 := Try.underlying0
  a0 := Try.isAgg0
  z0 := Try.sizeOf0
  v0 := Try.zeroValue0
  t4 := Try.underlying4
  a4 := Try.isAgg4
  z4 := Try.sizeOf4
  v4 := Try.zeroValue4
  t9 := Try.underlying9
  a9 := Try.isAgg9
  z9 := Try.sizeOf9
  v9 := Try.zeroValue9
  t20 := Try.underlying20
  a20 := Try.isAgg20
  z20 := Try.sizeOf20
  v20 := Try.zeroValue20
  t70 := Try.underlying74
  a70 := Try.isAgg74
  z70 := Try.sizeOf74
  v70 := Try.zeroValue74
  t72 := Try.underlying77
  a72 := Try.isAgg77
  z72 := Try.sizeOf77
  v72 := Try.zeroValue77
  t164 := Try.underlying114
  a164 := Try.isAgg114
  z164 := Try.sizeOf114
  v164 := Try.zeroValue114 }
theorem x72 : Builder.X72 Try.prog cren := ⟨by kernel_rfl, by kernel_rfl⟩
theorem copyCheck_fresh : Tri Try.prog 54 [.ptr 0 0] [(0, .obj freshB)] (fun _ => .ret (.tup []) [(0, .box [.ptr 0 0, .v (.slice none 0 0)])]) := by
  refine ⟨⟨_, Try.func54, by decide, by kernel_rfl⟩, fun lo w O E ys hlo hys hs => ?_⟩
  obtain ⟨ys⟩ := ys
  match ys, hys with
  | [y], _ =>
    obtain ⟨b, K, C, hE0, hob⟩ := hs.hp 0 (.obj freshB) rfl
    obtain ⟨b', rfl, hbk, rfl, rfl⟩ := hob
    have hy := hs.fr 0
    obtain ⟨b2, K2, C2, hE2, hy2⟩ := R.ptr_inv (show R w _ E (.ptr 0 0) y from hy)
    rw [hE0] at hE2
    cases hE2
    subst hy2
    have h0 : w.cell? ⟨b', 0, none⟩ = some (.pointer none) := by rw [Lib.cell_of_heap hbk]; rfl
    have hk := Any.Builder_copyCheck_fresh (P := Try.prog) (ρ := cren) lays240 x72 b' w h0 (by simp [World.shape?, hbk]; rfl) (Lib.frozen_of_heap hbk 0)
    refine hk.mono fun e w' he => ?_
    obtain ⟨rfl, rfl⟩ := he
    obtain ⟨g1, g2⟩ := setCell_heap0 w b' _ _ (.pointer (some ⟨b', 0, none⟩)) _ hbk
    have hsz : (w.setCell ⟨b', 0, none⟩ (.pointer (some ⟨b', 0, none⟩))).heap.size = w.heap.size := by
      rw [setCell_eq_setRow w b' 0 _ _ _ _ hbk]; simp [World.setRow]
    refine ⟨.tuple #[], E, rfl, ?_⟩
    have hkn : keptN [(0, OB.obj freshB)] [(0, OB.box [.ptr 0 0, .v (.slice none 0 0)])] = [0] := rfl
    have h1 := hs.upd (s' := St.of [(0, .ptr 0 0)] [(0, .box [.ptr 0 0, .v (.slice none 0 0)])]) (w' := w.setCell ⟨b', 0, none⟩ (.pointer (some ⟨b', 0, none⟩))) (E' := E) (fun id => id = 0) rfl (Nat.le_of_eq hsz.symm) rfl rfl rfl
      (fun b _ h => g2 b fun e => h 0 (.obj freshB) 0 0 rfl rfl (by rw [hE0, e]))
      (fun id hid => ⟨by simp [St.of, lkH, Ne.symm hid], rfl⟩) (fun _ _ h => h) (fun id h => by simpa [St.of, usH] using h) (fun id hid _ => by subst hid; simp [St.of, usH])
      (fun id ob hid hob => by
        subst hid
        simp [St.of, lkH] at hob
        subst hob
        refine ⟨some b', 0, 0, hE0, fun _ => ⟨b', _, _, rfl, g1, rfl, ⟨Nat.zero_le _, by simp⟩, rfl, fun j u y hu hy => ?_⟩⟩
        match j with
        | 0 => simp at hu hy; subst hu; subst hy; exact .ptr _ _ b' 0 0 hE0
        | 1 => simp at hu hy; subst hu; subst hy; exact .r0 _ _ (.v _)
        | j + 2 => simp at hu)
      (fun id ob b2 K C hid _ hE => .inr ⟨0, .obj freshB, 0, 0, rfl, rfl, by subst hid; rw [hE0] at hE ⊢; cases hE; rfl⟩)
      (fun id id' _ _ _ _ _ h1 h2 _ _ _ _ => h1.trans h2.symm)
    have q := h1.1
    refine ⟨fun i => ?_, q.defers, rfl, q.hp, q.us, q.inj, q.fresh, q.old, q.grow, q.os, q.tape, q.output, q.keep, q.base, q.zi⟩
    match i with
    | 0 => exact .r0 _ _ (.tup [] #[] rfl (by simp))
    | i + 1 => exact .r0 _ _ (.any _)
/-- a builder that was written, its bytes under the name 'k' -/
def bldM (k : Nat) (l : List UInt8) : List (Nat × OB) := [(0, .box [.ptr 0 0, .own k 0 l.length 1]), (k, .arr 5 1 (l.map byteE))]
theorem WriteString_fresh (s : ByteArray) (hs : s.size ≤ 1000000) : Tri Try.prog 35 [.ptr 0 0, .v (.string s)] [(0, .obj freshB)] (fun _ => .ret (.tup [i64 s.size, .v .nilIface]) (bldM 1 s.data.toList)) := by
  have hsl : s.data.toList.length = s.size := by rw [Array.length_toList]; rfl
  unfold bldM
  rw [hsl]
  refine tri_intro (fun _ => false) Try.func35 Try.ntmps35 rfl (by kernel_rfl) (by simp) rfl (by decide) fun G hG hOw hNm => ?_; simp only [go_sem, hG, hOw, reduceIte, Nat.reduceLeDiff, Nat.le_refl, Nat.reduceEqDiff, Nat.reduceAdd, Nat.reduceLT, reduceCtorEq, Int.toNat_natCast]
  (repeat' (first | (with_reducible refine And.intro ?_ ?_) | (with_reducible intro _) | (with_reducible refine exP ?_ ?_))); all_goals (try omega)
  refine call_tri [(0, 0)] [] (copyCheck_fresh) (by (simp only [go_sem, reduceIte, Nat.reduceLeDiff, Nat.le_refl, Nat.reduceEqDiff, Nat.reduceAdd, Nat.reduceLT, reduceCtorEq, Int.toNat_natCast]) <;> simp) (by (simp only [go_sem, entH, entH1, nilArr, obOK, reduceIte, Nat.reduceLeDiff, Nat.le_refl, Nat.reduceEqDiff, Nat.reduceAdd, Nat.reduceLT, reduceCtorEq, Int.toNat_natCast]) <;> simp) (by simp [injR, apart, toR]) (by simp [coverR, usH, toR]) (by simp [uniqP, lkR, toR]) (by simp [chk, hG]) ?_
  simp only [go_sem, hG, hOw, reduceIte, Nat.reduceLeDiff, Nat.le_refl, Nat.reduceEqDiff, Nat.reduceAdd, Nat.reduceLT, reduceCtorEq, Int.toNat_natCast]
  (repeat' (first | (with_reducible refine And.intro ?_ ?_) | (with_reducible intro _) | (with_reducible refine exP ?_ ?_))); all_goals (try omega)
  refine appendS_step rfl rfl rfl rfl (by rw [hG]; decide) (by simp [go_sem]) .nil tb_sliceElem_75 tb_tk_9 (by unfold isByte; kernel_rfl) (by simp; omega) ?_
  simp only [go_sem, hG, hOw, reduceIte, Nat.reduceLeDiff, Nat.le_refl, Nat.reduceEqDiff, Nat.reduceAdd, Nat.reduceLT, reduceCtorEq, Int.toNat_natCast]
  (repeat' (first | (with_reducible refine And.intro ?_ ?_) | (with_reducible intro _) | (with_reducible refine exP ?_ ?_))); all_goals (try omega)
  exact ⟨[(0, some 0), (1, some 14)], by (simp only [EndT, go_sem, entH, entH1, nilArr, obOK, apart, injR, coverR, reduceIte, Nat.reduceLeDiff, Nat.le_refl, Nat.reduceEqDiff, Nat.reduceAdd, Nat.reduceLT, reduceCtorEq, Int.toNat_natCast]) <;> simp⟩
theorem WriteString_used (l : List UInt8) (s : ByteArray) (hs : l.length + s.size ≤ 1000000) : Tri Try.prog 35 [.ptr 0 0, .v (.string s)] (bldM 1 l) (fun _ => .ret (.tup [i64 s.size, .v .nilIface]) (bldM 2 (l ++ s.data.toList))) := by
  have hsl : s.data.toList.length = s.size := by rw [Array.length_toList]; rfl
  unfold bldM
  rw [List.length_append, hsl, List.map_append]
  refine tri_intro (fun _ => false) Try.func35 Try.ntmps35 rfl (by kernel_rfl) (by simp) rfl (by decide) fun G hG hOw hNm => ?_; simp only [go_sem, hG, hOw, reduceIte, Nat.reduceLeDiff, Nat.le_refl, Nat.reduceEqDiff, Nat.reduceAdd, Nat.reduceLT, reduceCtorEq, Int.toNat_natCast]
  (repeat' (first | (with_reducible refine And.intro ?_ ?_) | (with_reducible intro _) | (with_reducible refine exP ?_ ?_))); all_goals (try omega)
  refine call_tri [(0, 0), (1, 1)] [] (copyCheck_used l.length l) (by (simp only [go_sem, reduceIte, Nat.reduceLeDiff, Nat.le_refl, Nat.reduceEqDiff, Nat.reduceAdd, Nat.reduceLT, reduceCtorEq, Int.toNat_natCast]) <;> simp) (by (simp only [go_sem, entH, entH1, nilArr, obOK, reduceIte, Nat.reduceLeDiff, Nat.le_refl, Nat.reduceEqDiff, Nat.reduceAdd, Nat.reduceLT, reduceCtorEq, Int.toNat_natCast]) <;> simp) (by simp [injR, apart, toR]) (by simp [coverR, usH, toR]) (by simp [uniqP, lkR, toR]) (by simp [chk, hG]) ?_
  simp only [go_sem, hG, hOw, reduceIte, Nat.reduceLeDiff, Nat.le_refl, Nat.reduceEqDiff, Nat.reduceAdd, Nat.reduceLT, reduceCtorEq, Int.toNat_natCast]
  (repeat' (first | (with_reducible refine And.intro ?_ ?_) | (with_reducible intro _) | (with_reducible refine exP ?_ ?_))); all_goals (try omega)
  refine appendS_step (l := l.map byteE) (x := .own 1 0 (l.map byteE).length 1) rfl (by simp [go_sem]) rfl rfl (by rw [hG]; decide) (by simp [go_sem]) (.own 1 _ (by simp [go_sem])) tb_sliceElem_75 tb_tk_9 (by unfold isByte; kernel_rfl) (by simp; omega) ?_
  simp only [go_sem, hG, hOw, reduceIte, Nat.reduceLeDiff, Nat.le_refl, Nat.reduceEqDiff, Nat.reduceAdd, Nat.reduceLT, reduceCtorEq, Int.toNat_natCast]
  (repeat' (first | (with_reducible refine And.intro ?_ ?_) | (with_reducible intro _) | (with_reducible refine exP ?_ ?_))); all_goals (try omega)
  exact ⟨[(0, some 0), (2, some 14)], by (simp only [EndT, go_sem, entH, entH1, nilArr, obOK, apart, injR, coverR, reduceIte, Nat.reduceLeDiff, Nat.le_refl, Nat.reduceEqDiff, Nat.reduceAdd, Nat.reduceLT, reduceCtorEq, Int.toNat_natCast]) <;> simp⟩
theorem Len_used (l : List UInt8) : Tri Try.prog 37 [.ptr 0 0] (bldM 1 l) (fun _ => .ret (i64 l.length) (bldM 1 l)) := by
  unfold bldM
  refine tri_intro (fun _ => false) Try.func37 Try.ntmps37 rfl (by kernel_rfl) (by simp) rfl (by decide) fun G hG hOw hNm => ?_; simp only [go_sem, hG, hOw, reduceIte, Nat.reduceLeDiff, Nat.le_refl, Nat.reduceEqDiff, Nat.reduceAdd, Nat.reduceLT, reduceCtorEq, Int.toNat_natCast]
  (repeat' (first | (with_reducible refine And.intro ?_ ?_) | (with_reducible intro _) | (with_reducible refine exP ?_ ?_))); all_goals (try omega)
  exact ⟨[(0, some 0), (1, some 1)], by (simp only [EndT, go_sem, entH, entH1, nilArr, obOK, apart, injR, coverR, reduceIte, Nat.reduceLeDiff, Nat.le_refl, Nat.reduceEqDiff, Nat.reduceAdd, Nat.reduceLT, reduceCtorEq, Int.toNat_natCast]) <;> simp⟩
end Go.Proofs.Ytgienbcekgokiaa
