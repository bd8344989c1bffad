/- Go's library: strings.Builder's text. -/
import Derived.Test.YtgienbcekgokiaaBW1
namespace Go.Proofs.Ytgienbcekgokiaa
open Go Pm Go.RowKit
set_option linter.unusedSimpArgs false
set_option linter.unusedVariables false
set_option maxHeartbeats 4000000
set_option maxRecDepth 100000
theorem String_run (w : World) (b g cap : Nat) (cur : Array Value) (p : Value) (l : List UInt8) (h0 : l ≠ []) {ty : TypeId} (hbk : w.heap[b]? = some (.cells #[p, .slice (some ⟨g, 0, none⟩) l.length cap] ty (0, 0)))
    (hg : w.heap[g]? = some (.cells cur 5 (0, 0))) (hnc : l.length ≤ cap) (hcm : cap ≤ maxLen) (hcs : cur.size = cap) (htake : ∀ (j : Nat) (x : UInt8), l[j]? = some x → cur[j]? = some (Value.int .u8 x.toNat)) :
    Calls Try.prog 38 #[.pointer (some ⟨b, 0, none⟩)] w fun e w' => e = .returned (.string ⟨l.toArray⟩) ∧ ∃ n, w' = (w.drewN n).freeze ⟨g, 0, none⟩ l.length := by
  have hl0 : l.length ≠ 0 := by simpa using h0
  have L := Try.lays169
  have X := Try.Builder_Extra_169
  have c1 : w.drew.cell? ⟨b, 1, none⟩ = some (.slice (some ⟨g, 0, none⟩) l.length cap) := by
    have : w.drew.heap[b]? = some (.cells #[p, .slice (some ⟨g, 0, none⟩) l.length cap] ty (0, 0)) := hbk
    rw [Lib.cell_of_heap this]; rfl
  have hSD : (Builtin.unsafeSliceData_ #[75] 99 #[.slice (some ⟨g, 0, none⟩) l.length cap]).run Try.prog w.drew = .ok (.pointer (some ⟨g, 0, none⟩)) w.drew :=
    Lib.run_unsafeSliceData_row _ _ _ _ _ _ (by omega)
  have hUS : (Builtin.unsafeString_ #[99, 3] 9 #[.pointer (some ⟨g, 0, none⟩), .int .i64 l.length]).run Try.prog w.drew = .ok (.string ⟨l.toArray⟩) (w.drew.freeze ⟨g, 0, none⟩ l.length) := by
    refine Lib.run_unsafeString_row w.drew _ _ _ 5 L.t127 X.cellsByte g cur.size (by have hg' : w.drew.heap[g]? = some (.cells cur 5 (0, 0)) := hg; simp [World.shape?, hg']) l h0 (by omega) (by unfold maxLen at hcm; omega) ?_
    intro j x hx
    have e : (⟨g, 0, none⟩ : Addr).add j = ⟨g, j, none⟩ := by unfold Addr.add; by_cases h : j = 0 <;> simp [h]
    rw [e, Lib.cell_of_heap (show w.drew.heap[g]? = some (.cells cur 5 (0, 0)) from hg)]
    exact htake j x hx
  have mixed := L.mixed
  go_enter Try.func38, Try.ntmps38
  have t72 := L.t72; have a72 := L.a72; have z72 := L.z72; have v72 := L.v72; have u72 := run_underlying L.t72
  have t70 := L.t70; have a70 := L.a70; have z70 := L.z70; have v70 := L.v70; have u70 := run_underlying L.t70
  have t37 := L.t37; have a37 := L.a37; have z37 := L.z37; have v37 := L.v37; have u37 := run_underlying L.t37
  have t127 := L.t127; have a127 := L.a127; have z127 := L.z127; have v127 := L.v127; have u127 := run_underlying L.t127
  have t3 := L.t3; have a3 := L.a3; have z3 := L.z3; have v3 := L.v3; have u3 := run_underlying L.t3
  have t9 := L.t9; have a9 := L.a9; have z9 := L.z9; have v9 := L.v9; have u9 := run_underlying L.t9
  go_wp2
  go_region_o
  all_goals go_wp2
  all_goals go_ret
  all_goals exact ⟨rfl, 1, rfl⟩
theorem String_nil_run (w : World) (b : Nat) (p : Value) {ty : TypeId} (hbk : w.heap[b]? = some (.cells #[p, .slice none 0 0] ty (0, 0))) :
    Calls Try.prog 38 #[.pointer (some ⟨b, 0, none⟩)] w fun e w' => e = .returned (.string ⟨#[]⟩) ∧ ∃ n, w' = w.drewN n := by
  have L := Try.lays169
  have X := Try.Builder_Extra_169
  have c1 : w.drew.cell? ⟨b, 1, none⟩ = some (.slice none 0 0) := by
    have : w.drew.heap[b]? = some (.cells #[p, .slice none 0 0] ty (0, 0)) := hbk
    rw [Lib.cell_of_heap this]; rfl
  have hSD : (Builtin.unsafeSliceData_ #[75] 99 #[.slice none 0 0]).run Try.prog w.drew = .ok (.pointer none) w.drew := rfl
  have hUS : ∀ (W : World) (q : Option Addr), (Builtin.unsafeString_ #[99, 3] 9 #[.pointer q, .int .i64 0]).run Try.prog W = .ok (.string .empty) W := fun W q => Lib.run_unsafeString_none W _ _ _ q
  have mixed := L.mixed
  go_enter Try.func38, Try.ntmps38
  have t72 := L.t72; have a72 := L.a72; have z72 := L.z72; have v72 := L.v72; have u72 := run_underlying L.t72
  have t70 := L.t70; have a70 := L.a70; have z70 := L.z70; have v70 := L.v70; have u70 := run_underlying L.t70
  have t37 := L.t37; have a37 := L.a37; have z37 := L.z37; have v37 := L.v37; have u37 := run_underlying L.t37
  have t127 := L.t127; have a127 := L.a127; have z127 := L.z127; have v127 := L.v127; have u127 := run_underlying L.t127
  have t3 := L.t3; have a3 := L.a3; have z3 := L.z3; have v3 := L.v3; have u3 := run_underlying L.t3
  have t9 := L.t9; have a9 := L.a9; have z9 := L.z9; have v9 := L.v9; have u9 := run_underlying L.t9
  go_wp2
  go_region_o
  all_goals go_wp2
  all_goals go_ret
  all_goals exact ⟨rfl, 1, rfl⟩
theorem freeze_facts (w : World) (g n k : Nat) : ((w.drewN k).freeze ⟨g, 0, none⟩ n).heap.size = w.heap.size ∧ ((w.drewN k).freeze ⟨g, 0, none⟩ n).os = w.os ∧ ((w.drewN k).freeze ⟨g, 0, none⟩ n).tape = w.tape ∧ ((w.drewN k).freeze ⟨g, 0, none⟩ n).output = w.output ∧
    ∀ b, b ≠ g → ((w.drewN k).freeze ⟨g, 0, none⟩ n).heap[b]? = w.heap[b]? := by
  have h := Lib.below_freeze (B := 0) (Below.refl 0 (w.drewN k)) (p := ⟨g, 0, none⟩) (Nat.zero_le _) n
  unfold World.freeze
  split
  · exact ⟨rfl, rfl, rfl, rfl, fun _ _ => rfl⟩
  · refine ⟨by simp, rfl, rfl, rfl, fun b hb => ?_⟩
    simp only [Array.getElem?_modify]
    rw [if_neg (fun e => hb e.symm)]
    rfl
theorem String_used (l : List UInt8) (h0 : l ≠ []) : Tri Try.prog 38 [.ptr 0 0] (bldM 1 l) (fun _ => .ret (.v (.string ⟨l.toArray⟩)) []) := by
  refine ⟨⟨_, Try.func38, by decide, by kernel_rfl⟩, fun lo w O E ys hlo hys hs => ?_⟩
  obtain ⟨ys⟩ := ys
  match ys, hys with
  | [y], _ =>
    obtain ⟨b, K, C, hE0, hob⟩ := hs.hp 0 (.box [.ptr 0 0, .own 1 0 l.length 1]) rfl
    obtain ⟨b', zs, ty, rfl, hbk, hzs, hKl, hKC, hcell⟩ := hob
    obtain ⟨b1, K1, C1, hE1, hob1⟩ := hs.hp 1 (.arr 5 1 (l.map byteE)) rfl
    obtain ⟨r1, r2, r3, r4, r5⟩ := hob1
    obtain ⟨b2, K2, C2, hE2, hy2⟩ := R.ptr_inv (show R w _ E (.ptr 0 0) y from hs.fr 0)
    rw [hE0] at hE2
    cases hE2
    subst hy2
    obtain ⟨zs⟩ := zs
    match zs, hzs with
    | [z0, z1], _ =>
    have hz1 := hcell 1 _ z1 rfl rfl
    obtain ⟨b3, K3, C3, hE3, hv⟩ := R.own_inv hz1
    rw [hE1] at hE3
    cases hE3
    have hll : 0 < l.length := List.length_pos_iff.2 h0
    rw [List.length_map] at r4
    cases b1 with
    | none => omega
    | some g =>
      obtain ⟨cur, q1, q2, q3, q4, q5⟩ := r5
      obtain ⟨v1, v2, o, v3, v4⟩ := hv
      have ho : o = 0 := by have := v3 (.inr rfl); omega
      subst ho
      subst v4
      rw [Nat.sub_zero] at hbk
      have hbk' : w.heap[b']? = some (.cells #[z0, .slice (some ⟨g, 0, none⟩) l.length C1] ty (0, 0)) := hbk
      have ht : ∀ (j : Nat) (x : UInt8), l[j]? = some x → cur[j]? = some (Value.int .u8 x.toNat) := fun j x hx => by
        have e1 : (l.map byteE)[j]? = some (byteE x) := by rw [List.getElem?_map, hx]; rfl
        have hjl : j < cur.size := by have := (List.getElem?_eq_some_iff.1 hx).1; omega
        have e2 := q5 j (byteE x) 0 _ cur[j] e1 rfl (by simp [hjl])
        have e3 : cur[j] = Value.int .u8 x.toNat := by
          generalize cur[j] = z at e2
          cases e2; rfl
        rw [Array.getElem?_eq_getElem hjl, e3]
      refine (String_run w b' g C1 cur z0 l h0 hbk' q1 (by omega) q4 (by omega) ht).mono fun e w' he => ?_
      obtain ⟨rfl, k, rfl⟩ := he
      obtain ⟨f1, f2, f3, f4, f5⟩ := freeze_facts w g l.length k
      refine ⟨.string ⟨l.toArray⟩, fun _ => none, rfl, ⟨fun i => ?_, .nil, rfl, fun id ob h => ?_, fun id h => absurd rfl h, fun id id' ob ob' b x x' h => ?_, fun id ob b x h => ?_, fun b hb => ?_, ?_, f2, f3, f4, fun b hb hM => ?_, fun id hid => ?_, trivial⟩⟩
      · match i with
        | 0 => exact .r0 _ _ (.v _)
        | i + 1 => exact .r0 _ _ (.any _)
      · cases h
      · cases h
      · cases h
      · have := hs.old b hb; omega
      · rw [f1]; exact Nat.le_refl _
      · refine f5 b fun e => hM ?_
        subst e
        exact ⟨1, .arr 5 1 (l.map byteE), K1, C1, rfl, hE1⟩
      · exact absurd hid (by simp [keptN, triG, names, usH, bldM])
theorem String_fresh : Tri Try.prog 38 [.ptr 0 0] [(0, .obj freshB)] (fun _ => .ret (.v (.string ⟨#[]⟩)) []) := by
  refine ⟨⟨_, Try.func38, by decide, by kernel_rfl⟩, fun lo w O E ys hlo hys hs => ?_⟩
  obtain ⟨ys⟩ := ys
  match ys, hys with
  | [y], _ =>
    obtain ⟨b, K, C, hE0, hob⟩ := hs.hp 0 (.obj freshB) rfl
    obtain ⟨b', rfl, hbk, rfl, rfl⟩ := hob
    obtain ⟨b2, K2, C2, hE2, hy2⟩ := R.ptr_inv (show R w _ E (.ptr 0 0) y from hs.fr 0)
    rw [hE0] at hE2
    cases hE2
    subst hy2
    refine (String_nil_run w b' _ hbk).mono fun e w' he => ?_
    obtain ⟨rfl, k, rfl⟩ := he
    refine ⟨.string ⟨#[]⟩, fun _ => none, rfl, ⟨fun i => ?_, .nil, rfl, fun id ob h => ?_, fun id h => absurd rfl h, fun id id' ob ob' b x x' h => ?_, fun id ob b x h => ?_, fun b hb => hs.old b hb, Nat.le_refl _, rfl, rfl, rfl, fun b hb hM => rfl, fun id hid => ?_, trivial⟩⟩
    · match i with
      | 0 => exact .r0 _ _ (.v _)
      | i + 1 => exact .r0 _ _ (.any _)
    · cases h
    · cases h
    · cases h
    · exact absurd hid (by simp [keptN, triG, names, usH])
theorem Len_fresh : Tri Try.prog 37 [.ptr 0 0] [(0, .obj freshB)] (fun _ => .ret (i64 0) [(0, .obj freshB)]) := by
  refine ⟨⟨_, Try.func37, by decide, by kernel_rfl⟩, fun lo w O E ys hlo hys hs => ?_⟩
  obtain ⟨ys⟩ := ys
  match ys, hys with
  | [y], _ =>
    obtain ⟨b, K, C, hE0, hob⟩ := hs.hp 0 (.obj freshB) rfl
    obtain ⟨b', rfl, hbk, rfl, rfl⟩ := hob
    obtain ⟨b2, K2, C2, hE2, hy2⟩ := R.ptr_inv (show R w _ E (.ptr 0 0) y from hs.fr 0)
    rw [hE0] at hE2
    cases hE2
    subst hy2
    refine (Try.Builder_Len 0 b' [] w (.inl ⟨Nat.zero_le _, .slice none 0 0, hbk, World.ownsRow_nil _ _ _ _, by simp [Value.ownBlock]⟩)).mono fun e w' he => ?_
    obtain ⟨rfl, rfl⟩ := he
    refine ⟨.int .i64 0, E, rfl, ?_⟩
    have hkn : keptN [(0, OB.obj freshB)] [(0, OB.obj freshB)] = [0] := rfl
    refine ⟨fun i => ?_, hs.defers, rfl, hs.hp, hs.us, hs.inj, hs.fresh, hs.old, hs.grow, hs.os, hs.tape, hs.output, hs.keep, hs.base, hs.zi⟩
    match i with
    | 0 => exact .r0 _ _ (.v _)
    | i + 1 => exact .r0 _ _ (.any _)
end Go.Proofs.Ytgienbcekgokiaa
