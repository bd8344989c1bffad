/- The law of shelves: its end, which writes into what it got. -/
import Derived.Test.YtgienbcekgokiaaF2
import Derived.Test.YtgienbcekgokiaaPmX
namespace Go.Proofs.Ytgienbcekgokiaa
open Go Pm
set_option linter.unusedSimpArgs false
set_option linter.unusedVariables false
set_option maxHeartbeats 4000000
set_option maxRecDepth 100000
theorem ws_of {G G2 : Gh} {N : Nat} {w2 : World} {O2 : Nat → Prop} {l : List ByteArray} {y : Value} (h : R0 w2 O2 (strs N l) y) (hw0 : G2.w0.heap.size ≤ N)
    (q1 : ∀ w, G2.Zi w → G.Zi w ∧ ∀ b, b < w2.heap.size → ¬ O2 b → loose w2 w b)
    (q2 : ∀ w b o v x, N ≤ b → b < w2.heap.size → ¬ O2 b → w2.cell? ⟨b, o, none⟩ = some v → isS v = true → G2.Zi w → G2.Zi (w.setCell ⟨b, o, none⟩ (.string x)))
    (q3 : ∀ b, b < w2.heap.size → ¬ O2 b → G2.Of b) : WS G2 y := by
  cases h with
  | lst _ _ _ a n cap b o g hlo hn hc hl ha hs hz hr =>
    refine ⟨a, n, cap, rfl, by omega, fun hpos => ?_⟩
    have hne : l.map strE ≠ [] := by rintro h; rw [h] at hn; simp at hn; omega
    obtain ⟨e, hO, hlt⟩ := ha hne
    refine ⟨b, o, e, fun k hk => ?_⟩
    have hk' : k < l.length := by simpa [hn] using hk
    have hc1 := hs k [.v (.string l[k])] 0 _ (by simp [hk', strE]) rfl
    have hg := hr k [.v (.string l[k])] 0 _ (by simp [hk', strE]) rfl
    have eg : g k 0 = .string l[k] := by
      revert hg; generalize g k 0 = z; intro hg; cases hg; rfl
    rw [eg, show o + (k * 1 + 0) = o + k by omega] at hc1
    refine ⟨q3 b hlt hO, Nat.le_trans hw0 (hlo hne), fun w hw => ?_, fun w x hw => q2 w b (o + k) _ x (hlo hne) hlt hO hc1.1 rfl hw⟩
    obtain ⟨v', h1, h2⟩ := ((q1 w hw).2 b hlt hO).cell hc1
    refine ⟨v', h1.1, h1.2 ?_⟩
    rcases h2 with rfl | ⟨_, h2⟩
    · rfl
    · cases v' <;> first | rfl | cases h2
theorem wh_of {G G2 : Gh} {N : Nat} {w2 : World} {O2 : Nat → Prop} {l : List Hk} {y : Value} (h : R0 w2 O2 (hks N l) y) (hw0 : G2.w0.heap.size ≤ N)
    (q1 : ∀ w, G2.Zi w → G.Zi w ∧ ∀ b, b < w2.heap.size → ¬ O2 b → loose w2 w b)
    (q2 : ∀ w b o v x, N ≤ b → b < w2.heap.size → ¬ O2 b → w2.cell? ⟨b, o, none⟩ = some v → isS v = true → G2.Zi w → G2.Zi (w.setCell ⟨b, o, none⟩ (.string x)))
    (q3 : ∀ b, b < w2.heap.size → ¬ O2 b → G2.Of b) : WH G2 y := by
  cases h with
  | lst _ _ _ a n cap b o g hlo hn hc hl ha hs hz hr =>
    refine ⟨a, n, cap, rfl, by omega, fun hpos => ?_⟩
    have hne : l.map (hkE N) ≠ [] := by rintro h; rw [h] at hn; simp at hn; omega
    obtain ⟨e, hO, hlt⟩ := ha hne
    refine ⟨b, o, e, fun k hk => ?_⟩
    have hk' : k < l.length := by simpa [hn] using hk
    have hx : (l.map (hkE N))[k]? = some (hkE N l[k]) := by simp [hk']
    have h0 := hs k _ 0 _ hx rfl
    have h1 := hs k _ 1 _ hx rfl
    have h2 := hs k _ 2 _ hx rfl
    have e0 : isS (g k 0) = false := by have := hr k _ 0 _ hx rfl; revert this; generalize g k 0 = z; intro h; cases h; rfl
    have e1 : isS (g k 1) = false := by have := hr k _ 1 _ hx rfl; revert this; generalize g k 1 = z; intro h; cases h; rfl
    have r2 : R0 w2 O2 (strs N l[k].put) (g k 2) := hr k _ 2 _ hx rfl
    have e2 : isS (g k 2) = false := by revert r2; generalize g k 2 = z; intro h; cases h; rfl
    have i0 : g k 0 = .int .i64 l[k].lo := by have := hr k _ 0 _ hx rfl; revert this; generalize g k 0 = z; intro h; cases h; rfl
    have i1 : g k 1 = .int .i64 l[k].drop := by have := hr k _ 1 _ hx rfl; revert this; generalize g k 1 = z; intro h; cases h; rfl
    refine ⟨fun j => g k j, fun w hw j hj => ?_, ⟨_, _, i0, i1⟩, ws_of r2 hw0 q1 q2 q3⟩
    have fin : ∀ j, isS (g k j) = false → cellA w2 ⟨b, o + (k * 3 + j), none⟩ (g k j) → w.cell? ⟨b, o + k * 3 + j, none⟩ = some (g k j) := fun j hj hc => by
      obtain ⟨v', h1, h2⟩ := ((q1 w hw).2 b hlt hO).cell hc
      rw [Nat.add_assoc]
      rcases h2 with rfl | ⟨h2, _⟩
      · exact h1.1
      · rw [hj] at h2; cases h2
    match j with
    | 0 => exact fin 0 e0 h0
    | 1 => exact fin 1 e1 h1
    | 2 => exact fin 2 e2 h2
theorem lawC {G1 : Gh} {N lo : Nat} {Fx : V → Value → Prop} {s : Sh} {l : List ByteArray} {n : Int} {y1 y8 a1 a2 b1 b2 : Value} (x : List ByteArray) (sa sp : Sh) (hG : G1.n = 170) (hOw : G1.ow = fun i => [37, 39].contains i) (hNm : G1.nm = []) (hw0 : G1.w0.heap.size ≤ N)
    (hX : ∀ G2 : Gh, (∀ w, G2.Zi w → G1.Zi w) → XOK G2 N Fx) (hN : ∀ w b o v, N ≤ b → G1.Zi w → G1.Zi (w.setCell ⟨b, o, none⟩ v))
    (own : AX Fx (.agg [.v b1, .v b2]) (shE 0 s)) (arg : AX Fx (.agg [.v a1, .v a2]) (shE 0 s)) (fl1 : Fx (strs 0 l) y1) (fl8 : Fx (strs 0 l) y8) :
    SemL Try.prog G1 ((flat (Try.f3.body.getD .skip)).drop 11) (St.of [(1, .v y1), (2, i64 n), (3, .ptr 3 0), (7, .ptr 7 0), (8, .v y8), (9, .ptr 9 0), (13, strs N x), (17, .ptr 17 0), (21, bl true)]
    [(3, .box [.v a1, .v a2]), (7, .box [.v b1, .v b2]), (9, .box [strs N sa.first, hks N sa.chg]), (17, .box [strs N sp.first, hks N sp.chg])]) (EndsAt Try.prog lo [.tmp 6] (bl true)) := by
  refine semL_loose hN fun w2 O2 ys zs G2 g1 g2 g3 g4 g5 f1 f2 q1 q2 q3 => ⟨rfl, rfl, ?_⟩
  rw [← g5] at hw0
  have c1 : WS G2 (zs 9 0) := ws_of (f2 9 _ 0 _ rfl rfl rfl) hw0 q1 q2 q3
  have c2 : WH G2 (zs 9 1) := wh_of (f2 9 _ 1 _ rfl rfl rfl) hw0 q1 q2 q3
  have d1 : WS G2 (zs 17 0) := ws_of (f2 17 _ 0 _ rfl rfl rfl) hw0 q1 q2 q3
  have d2 : WH G2 (zs 17 1) := wh_of (f2 17 _ 1 _ rfl rfl rfl) hw0 q1 q2 q3
  have e1 : WS G2 (ys 13) := ws_of (f1 13 rfl) hw0 q1 q2 q3
  have hX2 : XOK G2 N Fx := hX G2 fun w hw => (q1 w hw).1
  simp only [exF, exH, exOB, exCs, exOf, strs, hks, i64]
  generalize zs 9 0 = c1v at c1 ⊢
  generalize zs 9 1 = c2v at c2 ⊢
  generalize zs 17 0 = d1v at d1 ⊢
  generalize zs 17 1 = d2v at d2 ⊢
  generalize ys 13 = e1v at e1 ⊢
  rw [← g1] at hG
  rw [← g4] at hNm
  show SemL Try.prog G2 _ _ _
  rw [show (flat (Try.f3.body.getD .skip)).drop 11 = (flat (Try.f3.body.getD .skip)).drop 11 from rfl]
  refine vcN_sound 2 _ _ ?_
  simp only [Try.f3, Option.getD_some, flat_seq, flat_region, flat_cond, flat_block, flat_ret, List.singleton_append, List.cons_append, List.nil_append, List.drop_succ_cons, List.drop_zero]
  rw [← g2] at hOw
  simp only [go_sem, hG, hOw, reduceIte, Nat.reduceLeDiff, Nat.le_refl, Nat.reduceEqDiff, Nat.reduceAdd, Nat.reduceLT, reduceCtorEq, Int.toNat_natCast]
  refine ⟨by decide, ?_⟩
  refine semC_loop (fun k : Nat => St.of [(1, .v y1), (3, .ptr 3 0), (7, .ptr 7 0), (8, .v y8), (13, .v e1v), (21, bl true), (113, .lst G2.lo 2 [[.v c1v, .v c2v], [.v d1v, .v d2v]]), (114, i64 2), (115, i64 k)]
      [(3, .box [.v a1, .v a2]), (7, .box [.v b1, .v b2])])
    (fun k => k ≤ 2) (fun k => 2 - k) 0 (by omega) (ent_of [(3, some 3), (7, some 7)] (by (simp only [go_sem, reduceIte, Nat.reduceLeDiff, Nat.le_refl, Nat.reduceEqDiff, Nat.reduceAdd, Nat.reduceLT, reduceCtorEq, Int.toNat_natCast]) <;> simp) (by (simp only [go_sem, entH, entH1, nilArr, obOK, reduceIte, Nat.reduceLeDiff, Nat.le_refl, Nat.reduceEqDiff, Nat.reduceAdd, Nat.reduceLT, reduceCtorEq, Int.toNat_natCast]) <;> simp) (by simp [injR, apart]) (by simp [coverR, usH]) (by simp [hNm, lkR, names])) ?_
  rintro k hk
  by_cases hk2 : k < 2
  · obtain ⟨p1, p2, hrow, hp1, hp2⟩ : ∃ p1 p2, [[V.v c1v, V.v c2v], [V.v d1v, V.v d2v]][k]'(by simpa using hk2) = [V.v p1, V.v p2] ∧ WS G2 p1 ∧ WH G2 p2 := by
      rcases (by omega : k = 0 ∨ k = 1) with rfl | rfl
      · exact ⟨c1v, c2v, rfl, c1, c2⟩
      · exact ⟨d1v, d2v, rfl, d1, d2⟩
    obtain ⟨pa, pn, pc, rfl, hpl, hpa⟩ := hp1
    obtain ⟨qa, qn, qc, rfl, hql, hqa⟩ := hp2
    refine vc_sound _ _ _ ?_
    simp only [go_sem, hG, hOw, hrow, reduceIte, Nat.reduceLeDiff, Nat.le_refl, Nat.reduceEqDiff, Nat.reduceAdd, Nat.reduceLT, reduceCtorEq, Int.toNat_natCast, List.take_succ_cons, List.take_zero, putCells]
    (repeat' (first | (with_reducible refine And.intro ?_ ?_) | (with_reducible intro _) | (with_reducible refine exP ?_ ?_))); all_goals (try omega)
    refine semC_loop (fun j : Nat => St.of [(1, .v y1), (3, .ptr 3 0), (7, .ptr 7 0), (8, .v y8), (13, .v e1v), (21, bl true), (113, .lst G2.lo 2 [[.v c1v, .v c2v], [.v d1v, .v d2v]]), (114, i64 2), (115, i64 k), (23, .ptr 23 0), (121, i64 pn), (122, i64 j)]
      [(3, .box [.v a1, .v a2]), (7, .box [.v b1, .v b2]), (23, .box [.v (.slice pa pn pc), .v (.slice qa qn qc)])])
      (fun j => j ≤ pn) (fun j => pn - j) 0 (by omega) (ent_of [(3, some 3), (7, some 7), (23, some 23)] (by (simp only [go_sem, reduceIte, Nat.reduceLeDiff, Nat.le_refl, Nat.reduceEqDiff, Nat.reduceAdd, Nat.reduceLT, reduceCtorEq, Int.toNat_natCast]) <;> simp) (by (simp only [go_sem, entH, entH1, nilArr, obOK, reduceIte, Nat.reduceLeDiff, Nat.le_refl, Nat.reduceEqDiff, Nat.reduceAdd, Nat.reduceLT, reduceCtorEq, Int.toNat_natCast]) <;> simp) (by simp [injR, apart]) (by simp [coverR, usH]) (by simp [hNm, lkR, names])) ?_
    rintro j hj
    refine vc_sound _ _ _ ?_; simp only [go_sem, hG, hOw, reduceIte, Nat.reduceLeDiff, Nat.le_refl, Nat.reduceEqDiff, Nat.reduceAdd, Nat.reduceLT, reduceCtorEq, Int.toNat_natCast]
    (repeat' (first | (with_reducible refine And.intro ?_ ?_) | (with_reducible intro _) | (with_reducible refine exP ?_ ?_))); all_goals (try omega)
    · rename_i hjn
      obtain ⟨b, o', rfl, hwr⟩ := hpa (by omega)
      refine semStep_zix (e := 9) (sz := 1) rfl (by kernel_rfl) (by rfl) (by rfl) (by omega) (by omega) (by simp [chk, hG]) ?_
      simp only [go_sem, hG, hOw, reduceIte, Nat.reduceLeDiff, Nat.le_refl, Nat.reduceEqDiff, Nat.reduceAdd, Nat.reduceLT, reduceCtorEq, Int.toNat_natCast]
      obtain ⟨x1, x2, x3, x4⟩ := hwr j (by omega)
      refine semStep_zst (ag := false) rfl rfl (by kernel_rfl) (b := b) (off := o' + j) (by simp [ev, go_sem]) (by rfl) x1 x2 x3 (fun w => x4 w _) ?_
      simp only [go_sem, hG, hOw, reduceIte, Nat.reduceLeDiff, Nat.le_refl, Nat.reduceEqDiff, Nat.reduceAdd, Nat.reduceLT, reduceCtorEq, Int.toNat_natCast]
      (repeat' (first | (with_reducible refine And.intro ?_ ?_) | (with_reducible intro _) | (with_reducible refine exP ?_ ?_))); all_goals (try omega)
      · refine ⟨j + 1, by omega, by omega, ?_⟩
        exact ent_of [(3, some 3), (7, some 7), (23, some 23)] (by (simp only [go_sem, reduceIte, Nat.reduceLeDiff, Nat.le_refl, Nat.reduceEqDiff, Nat.reduceAdd, Nat.reduceLT, reduceCtorEq, Int.toNat_natCast]) <;> simp) (by (simp only [go_sem, entH, entH1, nilArr, obOK, reduceIte, Nat.reduceLeDiff, Nat.le_refl, Nat.reduceEqDiff, Nat.reduceAdd, Nat.reduceLT, reduceCtorEq, Int.toNat_natCast]) <;> simp) (by simp [injR, apart]) (by simp [coverR, usH]) (by simp [hNm, lkR, names])
    · rename_i hjn
      refine semC_loop (fun j : Nat => St.of [(1, .v y1), (3, .ptr 3 0), (7, .ptr 7 0), (8, .v y8), (13, .v e1v), (21, bl true), (113, .lst G2.lo 2 [[.v c1v, .v c2v], [.v d1v, .v d2v]]), (114, i64 2), (115, i64 k), (131, .v (.slice qa qn qc)), (132, i64 qn), (133, i64 j)]
        [(3, .box [.v a1, .v a2]), (7, .box [.v b1, .v b2])])
        (fun j => j ≤ qn) (fun j => qn - j) 0 (by omega) (ent_of [(3, some 3), (7, some 7)] (by (simp only [go_sem, reduceIte, Nat.reduceLeDiff, Nat.le_refl, Nat.reduceEqDiff, Nat.reduceAdd, Nat.reduceLT, reduceCtorEq, Int.toNat_natCast]) <;> simp) (by (simp only [go_sem, entH, entH1, nilArr, obOK, reduceIte, Nat.reduceLeDiff, Nat.le_refl, Nat.reduceEqDiff, Nat.reduceAdd, Nat.reduceLT, reduceCtorEq, Int.toNat_natCast]) <;> simp) (by simp [injR, apart]) (by simp [coverR, usH]) (by simp [hNm, lkR, names])) ?_
      rintro m hm
      refine vc_sound _ _ _ ?_; simp only [go_sem, hG, hOw, reduceIte, Nat.reduceLeDiff, Nat.le_refl, Nat.reduceEqDiff, Nat.reduceAdd, Nat.reduceLT, reduceCtorEq, Int.toNat_natCast]
      (repeat' (first | (with_reducible refine And.intro ?_ ?_) | (with_reducible intro _) | (with_reducible refine exP ?_ ?_))); all_goals (try omega)
      · rename_i hmn
        obtain ⟨b, o', rfl, hwr⟩ := hqa (by omega)
        obtain ⟨f, hf1, ⟨i0, i1, hi0, hi1⟩, hf2⟩ := hwr m (by omega)
        obtain ⟨ra, rn, rc, hrv, hrl, hra⟩ := hf2
        refine semStep_zix (e := 46) (sz := 3) rfl (by kernel_rfl) (by rfl) (by rfl) (by omega) (by omega) (by simp [chk, hG]) ?_
        simp only [go_sem, hG, hOw, reduceIte, Nat.reduceLeDiff, Nat.le_refl, Nat.reduceEqDiff, Nat.reduceAdd, Nat.reduceLT, reduceCtorEq, Int.toNat_natCast]
        refine semStep_zld (n := 3) rfl (by kernel_rfl) (b := b) (off := o' + m * 3) (by simp [ev, go_sem]) f hf1 (by simp [chk, hG]) ?_
        have e3 : (List.range 3).map (fun j => V.v (f j)) = [i64 i0, i64 i1, .v (.slice ra rn rc)] := by rw [← hrv, i64, i64, ← hi0, ← hi1]; rfl
        rw [e3]
        simp only [go_sem, hG, hOw, reduceIte, Nat.reduceLeDiff, Nat.le_refl, Nat.reduceEqDiff, Nat.reduceAdd, Nat.reduceLT, reduceCtorEq, Int.toNat_natCast]
        (repeat' (first | (with_reducible refine And.intro ?_ ?_) | (with_reducible intro _) | (with_reducible refine exP ?_ ?_))); all_goals (try omega)
        refine semC_loop (fun j : Nat => St.of [(1, .v y1), (3, .ptr 3 0), (7, .ptr 7 0), (8, .v y8), (13, .v e1v), (21, bl true), (113, .lst G2.lo 2 [[.v c1v, .v c2v], [.v d1v, .v d2v]]), (114, i64 2), (115, i64 k), (131, .v (.slice (some ⟨b, o', none⟩) qn qc)), (132, i64 qn), (133, i64 m), (26, .ptr 26 0), (139, i64 rn), (140, i64 j)]
          [(3, .box [.v a1, .v a2]), (7, .box [.v b1, .v b2]), (26, .box [i64 i0, i64 i1, .v (.slice ra rn rc)])])
          (fun j => j ≤ rn) (fun j => rn - j) 0 (by omega) (ent_of [(3, some 3), (7, some 7), (26, some 26)] (by (simp only [go_sem, reduceIte, Nat.reduceLeDiff, Nat.le_refl, Nat.reduceEqDiff, Nat.reduceAdd, Nat.reduceLT, reduceCtorEq, Int.toNat_natCast]) <;> simp) (by (simp only [go_sem, entH, entH1, nilArr, obOK, reduceIte, Nat.reduceLeDiff, Nat.le_refl, Nat.reduceEqDiff, Nat.reduceAdd, Nat.reduceLT, reduceCtorEq, Int.toNat_natCast]) <;> simp) (by simp [injR, apart]) (by simp [coverR, usH]) (by simp [hNm, lkR, names])) ?_
        rintro j hj
        refine vc_sound _ _ _ ?_; simp only [go_sem, hG, hOw, reduceIte, Nat.reduceLeDiff, Nat.le_refl, Nat.reduceEqDiff, Nat.reduceAdd, Nat.reduceLT, reduceCtorEq, Int.toNat_natCast]
        (repeat' (first | (with_reducible refine And.intro ?_ ?_) | (with_reducible intro _) | (with_reducible refine exP ?_ ?_))); all_goals (try omega)
        · rename_i hjn
          obtain ⟨b', o'', rfl, hwr'⟩ := hra (by omega)
          refine semStep_zix (e := 9) (sz := 1) rfl (by kernel_rfl) (by rfl) (by rfl) (by omega) (by omega) (by simp [chk, hG]) ?_
          simp only [go_sem, hG, hOw, reduceIte, Nat.reduceLeDiff, Nat.le_refl, Nat.reduceEqDiff, Nat.reduceAdd, Nat.reduceLT, reduceCtorEq, Int.toNat_natCast]
          obtain ⟨x1, x2, x3, x4⟩ := hwr' j (by omega)
          refine semStep_zst (ag := false) rfl rfl (by kernel_rfl) (b := b') (off := o'' + j) (by simp [ev, go_sem]) (by rfl) x1 x2 x3 (fun w => x4 w _) ?_
          simp only [go_sem, hG, hOw, reduceIte, Nat.reduceLeDiff, Nat.le_refl, Nat.reduceEqDiff, Nat.reduceAdd, Nat.reduceLT, reduceCtorEq, Int.toNat_natCast]
          (repeat' (first | (with_reducible refine And.intro ?_ ?_) | (with_reducible intro _) | (with_reducible refine exP ?_ ?_))); all_goals (try omega)
          exact ⟨j + 1, by omega, by omega, ent_of [(3, some 3), (7, some 7), (26, some 26)] (by (simp only [go_sem, reduceIte, Nat.reduceLeDiff, Nat.le_refl, Nat.reduceEqDiff, Nat.reduceAdd, Nat.reduceLT, reduceCtorEq, Int.toNat_natCast]) <;> simp) (by (simp only [go_sem, entH, entH1, nilArr, obOK, reduceIte, Nat.reduceLeDiff, Nat.le_refl, Nat.reduceEqDiff, Nat.reduceAdd, Nat.reduceLT, reduceCtorEq, Int.toNat_natCast]) <;> simp) (by simp [injR, apart]) (by simp [coverR, usH]) (by simp [hNm, lkR, names])⟩
        · exact ⟨m + 1, by omega, by omega, ent_of [(3, some 3), (7, some 7)] (by (simp only [go_sem, reduceIte, Nat.reduceLeDiff, Nat.le_refl, Nat.reduceEqDiff, Nat.reduceAdd, Nat.reduceLT, reduceCtorEq, Int.toNat_natCast]) <;> simp) (by (simp only [go_sem, entH, entH1, nilArr, obOK, reduceIte, Nat.reduceLeDiff, Nat.le_refl, Nat.reduceEqDiff, Nat.reduceAdd, Nat.reduceLT, reduceCtorEq, Int.toNat_natCast]) <;> simp) (by simp [injR, apart]) (by simp [coverR, usH]) (by simp [hNm, lkR, names])⟩
      · exact ⟨k + 1, by omega, by omega, ent_of [(3, some 3), (7, some 7)] (by (simp only [go_sem, reduceIte, Nat.reduceLeDiff, Nat.le_refl, Nat.reduceEqDiff, Nat.reduceAdd, Nat.reduceLT, reduceCtorEq, Int.toNat_natCast]) <;> simp) (by (simp only [go_sem, entH, entH1, nilArr, obOK, reduceIte, Nat.reduceLeDiff, Nat.le_refl, Nat.reduceEqDiff, Nat.reduceAdd, Nat.reduceLT, reduceCtorEq, Int.toNat_natCast]) <;> simp) (by simp [injR, apart]) (by simp [coverR, usH]) (by simp [hNm, lkR, names])⟩
  · refine vc_sound _ _ _ ?_
    simp only [go_sem, hG, hOw, reduceIte, Nat.reduceLeDiff, Nat.le_refl, Nat.reduceEqDiff, Nat.reduceAdd, Nat.reduceLT, reduceCtorEq, Int.toNat_natCast]
    (repeat' (first | (with_reducible refine And.intro ?_ ?_) | (with_reducible intro _) | (with_reducible refine exP ?_ ?_))); all_goals (try omega)
    obtain ⟨pa, pn, pc, rfl, hpl, hpa⟩ := e1
    refine vcN_sound 4 _ _ ?_
    simp only [go_sem, hG, hOw, reduceIte, Nat.reduceLeDiff, Nat.le_refl, Nat.reduceEqDiff, Nat.reduceAdd, Nat.reduceLT, reduceCtorEq, Int.toNat_natCast]
    refine semC_loop (fun j : Nat => St.of [(1, .v y1), (3, .ptr 3 0), (7, .ptr 7 0), (8, .v y8), (13, .v (.slice pa pn pc)), (21, bl true), (151, i64 pn), (152, i64 j)]
      [(3, .box [.v a1, .v a2]), (7, .box [.v b1, .v b2])])
      (fun j => j ≤ pn) (fun j => pn - j) 0 (by omega) (ent_of [(3, some 3), (7, some 7)] (by (simp only [go_sem, reduceIte, Nat.reduceLeDiff, Nat.le_refl, Nat.reduceEqDiff, Nat.reduceAdd, Nat.reduceLT, reduceCtorEq, Int.toNat_natCast]) <;> simp) (by (simp only [go_sem, entH, entH1, nilArr, obOK, reduceIte, Nat.reduceLeDiff, Nat.le_refl, Nat.reduceEqDiff, Nat.reduceAdd, Nat.reduceLT, reduceCtorEq, Int.toNat_natCast]) <;> simp) (by simp [injR, apart]) (by simp [coverR, usH]) (by simp [hNm, lkR, names])) ?_
    rintro j hj
    refine vc_sound _ _ _ ?_; simp only [go_sem, hG, hOw, reduceIte, Nat.reduceLeDiff, Nat.le_refl, Nat.reduceEqDiff, Nat.reduceAdd, Nat.reduceLT, reduceCtorEq, Int.toNat_natCast]
    (repeat' (first | (with_reducible refine And.intro ?_ ?_) | (with_reducible intro _) | (with_reducible refine exP ?_ ?_))); all_goals (try omega)
    · rename_i hjn
      obtain ⟨b', o'', rfl, hwr'⟩ := hpa (by omega)
      refine semStep_zix (e := 9) (sz := 1) rfl (by kernel_rfl) (by rfl) (by rfl) (by omega) (by omega) (by simp [chk, hG]) ?_
      simp only [go_sem, hG, hOw, reduceIte, Nat.reduceLeDiff, Nat.le_refl, Nat.reduceEqDiff, Nat.reduceAdd, Nat.reduceLT, reduceCtorEq, Int.toNat_natCast]
      obtain ⟨x1, x2, x3, x4⟩ := hwr' j (by omega)
      refine semStep_zst (ag := false) rfl rfl (by kernel_rfl) (b := b') (off := o'' + j) (by simp [ev, go_sem]) (by rfl) x1 x2 x3 (fun w => x4 w _) ?_
      simp only [go_sem, hG, hOw, reduceIte, Nat.reduceLeDiff, Nat.le_refl, Nat.reduceEqDiff, Nat.reduceAdd, Nat.reduceLT, reduceCtorEq, Int.toNat_natCast]
      (repeat' (first | (with_reducible refine And.intro ?_ ?_) | (with_reducible intro _) | (with_reducible refine exP ?_ ?_))); all_goals (try omega)
      exact ⟨j + 1, by omega, by omega, ent_of [(3, some 3), (7, some 7)] (by (simp only [go_sem, reduceIte, Nat.reduceLeDiff, Nat.le_refl, Nat.reduceEqDiff, Nat.reduceAdd, Nat.reduceLT, reduceCtorEq, Int.toNat_natCast]) <;> simp) (by (simp only [go_sem, entH, entH1, nilArr, obOK, reduceIte, Nat.reduceLeDiff, Nat.le_refl, Nat.reduceEqDiff, Nat.reduceAdd, Nat.reduceLT, reduceCtorEq, Int.toNat_natCast]) <;> simp) (by simp [injR, apart]) (by simp [coverR, usH]) (by simp [hNm, lkR, names])⟩
    · refine call_X hX2 (SameShelf_ok s s) (.cons own (.cons arg .nil)) (.v _) (by simp [chk, hG]) ?_
      simp only [go_sem, hG, hOw, reduceIte, Nat.reduceLeDiff, Nat.le_refl, Nat.reduceEqDiff, Nat.reduceAdd, Nat.reduceLT, reduceCtorEq, Int.toNat_natCast]
      refine call_X hX2 (SameWords_ok l l) (.cons (.ex _ _ fl8) (.cons (.ex _ _ fl1) .nil)) (.v _) (by simp [chk, hG]) ?_
      simp only [go_sem, hG, hOw, reduceIte, Nat.reduceLeDiff, Nat.le_refl, Nat.reduceEqDiff, Nat.reduceAdd, Nat.reduceLT, reduceCtorEq, Int.toNat_natCast]
      simp
end Go.Proofs.Ytgienbcekgokiaa
