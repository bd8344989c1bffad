import Derived.Test.YtfnohnjnncjidaaGreatDoorQR16
import Derived.Test.YtfnohnjnncjidaaGreatDoorQR37
namespace Go.Proofs.YtfnohnjnncjidaaGreatDoor
open Go Pm
set_option linter.unusedSimpArgs false
set_option linter.unusedVariables false
set_option maxHeartbeats 4000000
set_option maxRecDepth 100000
def chSl (c : Cu) (k : Nat) (ls : List (List ByteArray)) (n : Nat) : List Sl := (List.range n).map (slOf c k ls)
theorem chSl_succ (c : Cu) (k : Nat) (ls : List (List ByteArray)) (n : Nat) : chSl c k ls (n + 1) = chSl c k ls n ++ [slOf c k ls n] := by
  unfold chSl
  rw [List.range_succ, List.map_append]; rfl
def allSl (c : Cu) (t : List Ch) : Nat → List Sl
  | 0 => []
  | k + 1 => allSl c t k ++ match t[k]? with
    | some ch => chSl c k ch.lines ch.lines.flatten.length
    | none => []
theorem allSl_succ (c : Cu) (t : List Ch) (k : Nat) (hk : k < t.length) : allSl c t (k + 1) = allSl c t k ++ chSl c k t[k].lines t[k].lines.flatten.length := by simp [allSl, hk]
theorem allSl_len (c : Cu) (t : List Ch) (ht : textB t = true) : ∀ k, k ≤ t.length → (allSl c t k).length ≤ 600 * k
  | 0, _ => by simp [allSl]
  | k + 1, hk => by
    have ih := allSl_len c t ht k (by omega)
    rw [allSl_succ c t k (by omega), List.length_append]
    obtain ⟨h1, h2, h3⟩ := chap_words ht k (by omega)
    have := flatten_bd t[k].lines (by omega) (fun r hr => by have := h2 r hr; omega)
    simp only [chSl, List.length_map, List.length_range]
    omega
theorem AppendSeq_ok (t : List Ch) (ht : textB t = true) (c : Cu) (hcb : cutB c = true) : Gives Tryz.prog 138 [.v (.slice none 0 0), .fn (.func 139) [.fp [chs 0 t], .fp (cuC c)]] (fun n => sls n (allSl c t t.length)) := by
  obtain ⟨bt1, bt2⟩ := textB_bd ht
  refine pure_introR (ow := fun _ => false) Tryz.func138 Tryz.ntmps138 rfl (by kernel_rfl) (by simp) rfl (by decide) fun G hG hOw hNm hrd hB => ?_; simp only [go_sem, hG, hOw]
  (repeat' first | with_reducible refine And.intro ?_ ?_ | with_reducible intro _ | with_reducible refine exP ?_ ?_); all_goals try omega
  refine semC_ent (s' := St.of [(2, .ptr 2 0), (6, .fn (.func 139) [.fp [chs 0 t], .fp (cuC c)])] [(2, .box [.own 30 0 0 6]), (30, .arr 93 6 [])]) (entA [(2, some 2), (30, none)]) ?_
  refine semC_rangeFuncJ [2] 99 (fun _ => false) hrd rfl Tryz.func139 Tryz.ntmps139 rfl (by kernel_rfl) rfl (by simp) (by rw [hG]; decide) rfl (by rw [hNm]; simp [names]) rfl rfl fun G1 l L k1 k2 k3 k4 k5 hYJ => ?_
  have hY := hYJ.law (fun _ => false)
  have hG0 := hG
  have hNm0 := hNm
  have hOw0 := hOw
  have hG := k1
  have hOw := k2
  have hNm := k3
  simp only [go_sem, hG, hOw]
  (repeat' first | with_reducible refine And.intro ?_ ?_ | with_reducible intro _ | with_reducible refine exP ?_ ?_); all_goals try omega
  refine semC_loop (fun k : Nat => St.of [(0, .v (.func (.yield l) #[] #[])), (1, .fp [chs 0 t]), (2, .fp (cuC c)), (9, i64 t.length), (10, i64 k)] [(99, .obj (.loop (Lp L none))), (2, .box [.own 30 0 (allSl c t k).length 6]), (30, .arr 93 6 ((allSl c t k).map slC))]) (fun k => k ≤ t.length) (fun k => t.length - k) 0 (by simp) (entA [(99, some 99), (2, some 2), (30, some 30)] (by (simp only [go_sem]) <;> simp [allSl]) (by (simp only [go_sem, entH, entH1, nilArr, obOK]) <;> simp [allSl])) ?_
  rintro k hk
  have hlen := allSl_len c t ht k hk
  refine vc_sound _ _ _ ?_
  simp only [go_sem, hG, hOw]
  (repeat' first | with_reducible refine And.intro ?_ ?_ | with_reducible intro _ | with_reducible refine exP ?_ ?_); all_goals try omega
  · rename_i hlt
    have hkl : k < t.length := by omega
    obtain ⟨h1, h2, h3⟩ := chap_words ht k hkl
    have hfl := flatten_bd t[k].lines (by omega) (fun r hr => by have := h2 r hr; omega)
    refine call_pureA (runs_ok t c k hkl (by omega) (fun r hr => by have := h2 r hr; omega)) ?_
    simp only [go_sem, hG, hOw]
    (repeat' first | with_reducible refine And.intro ?_ ?_ | with_reducible intro _ | with_reducible refine exP ?_ ?_); all_goals try omega
    obtain ⟨P, hP⟩ : ∃ P, P = allSl c t k := ⟨_, rfl⟩
    obtain ⟨ls, hls⟩ : ∃ ls, ls = t[k].lines := ⟨_, rfl⟩
    have hnx := allSl_succ c t k hkl
    rw [← hP, ← hls] at hnx
    rw [← hls] at hfl h3
    rw [← hP] at hlen ⊢
    have hls' := hls.symm
    have hcs : inB c.s 1 3 = true ∧ 12 ≤ c.w ∧ c.w ≤ 1000 := by
      simp only [cutB, Bool.and_eq_true] at hcb
      have h12 := hcb.1
      simp only [inB, Bool.and_eq_true, decide_eq_true_eq] at h12
      exact ⟨hcb.2, by omega, by omega⟩
    refine semC_cutN (fun _ : Unit => St.of [(0, .v (.func (.yield l) #[] #[])), (1, .fp [chs 0 t]), (2, .fp (cuC c)), (9, i64 t.length), (10, i64 k)] [(99, .obj (.loop (Lp L none))), (2, .box [.own 30 0 (P ++ chSl c k ls ls.flatten.length).length 6]), (30, .arr 93 6 ((P ++ chSl c k ls ls.flatten.length).map slC))]) (fun _ => True) ?_ ?_
    · refine semC_loop (fun i : Nat => St.of [(0, .v (.func (.yield l) #[] #[])), (1, .fp [chs 0 t]), (2, .fp (cuC c)), (5, .fp (runC G1.lo c k ls)), (9, i64 t.length), (10, i64 k), (19, i64 ls.flatten.length), (20, i64 i)] [(99, .obj (.loop (Lp L none))), (2, .box [.own 30 0 (P ++ chSl c k ls i).length 6]), (30, .arr 93 6 ((P ++ chSl c k ls i).map slC))]) (fun i => i ≤ ls.flatten.length) (fun i => ls.flatten.length - i) 0 (by simp) (ent_frz (fun i => i == 5) (entA [(99, some 99), (2, some 2), (30, some 30)] (by (simp only [go_sem]) <;> simp [chSl,hls']) (by (simp only [go_sem, entH, entH1, nilArr, obOK]) <;> simp [chSl,hls']))) ?_
      rintro i hi
      have hcl : (chSl c k ls i).length = i := by simp [chSl]
      refine vc_sound _ _ _ ?_
      simp only [go_sem, hG, hOw]
      (repeat' first | with_reducible refine And.intro ?_ ?_ | with_reducible intro _ | with_reducible refine exP ?_ ?_); all_goals try omega
      · rename_i hlt2
        have hil : i < ls.flatten.length := by omega
        refine call_pureA (slip_ok c k ls hcs.1 hcs.2 h3.1 (by omega) i hil) ?_
        simp only [go_sem, hG, hOw]
        (repeat' first | with_reducible refine And.intro ?_ ?_ | with_reducible intro _ | with_reducible refine exP ?_ ?_); all_goals try omega
        refine hY [99, 2] _ _ _ _ _ (by simp (config := { maxSteps := 4000000 }) only [go_sem, reduceIte, Nat.reduceEqDiff]) rfl (by simp [chk, k1]) (by rw [k3]; simp) (by intro id hid; left; rw [k3]; exact hid) fun G2 m1 m2 m3 m4 m5 => ?_
        have hG2 := m1.trans hG0
        simp (config := { maxSteps := 2000000 }) only [go_sem, hG, hOw, hG2, m2]
        refine vc_sound _ _ _ ?_
        simp (config := { maxSteps := 2000000 }) only [go_sem, hG, hOw, hG2, m2]
        (repeat' first | with_reducible refine And.intro ?_ ?_ | with_reducible intro _ | with_reducible refine exP ?_ ?_); all_goals try omega
        have e1 := chSl_succ c k ls i
        refine ⟨i + 1, by omega, by omega, ?_⟩
        rw [e1]
        exact entA [(99, some 99), (2, some 2), (30, some 11)] (by (simp only [go_sem]) <;> simp [slC,i64,Nat.add_assoc]) (by (simp only [go_sem, entH, entH1, nilArr, obOK]) <;> simp [slC,i64,Nat.add_assoc])
      · obtain rfl : i = ls.flatten.length := by omega
        exact ⟨(), entA [(99, some 99), (2, some 2), (30, some 30)]⟩
    rintro ⟨⟩ -
    simp only [go_sem, hG, hOw]
    (repeat' first | with_reducible refine And.intro ?_ ?_ | with_reducible intro _ | with_reducible refine exP ?_ ?_); all_goals try omega
    refine ⟨k + 1, by omega, by omega, ?_⟩
    rw [hnx]
    exact entA [(99, some 99), (2, some 2), (30, some 30)]
  · obtain rfl : k = t.length := by omega
    refine ⟨none, by simp (config := { maxSteps := 4000000 }) only [go_sem, reduceIte, Nat.reduceEqDiff], ?_⟩
    have hG := hG0
    have hOw := hOw0
    have hNm := hNm0
    simp only [go_sem, hG, hOw]
    all_goals try exact .refl _
theorem slips_ok (t : List Ch) (c : Cu) : Gives Tryz.prog 96 [txE 0 t, .agg (cuC c)] (fun _ => .fn (.func 139) [.fp [chs 0 t], .fp (cuC c)]) := by
  refine pure_intro (ow := fun _ => false) Tryz.func96 Tryz.ntmps96 rfl (by kernel_rfl) (by simp) rfl (by decide) fun G hG hOw hNm hB => ?_; simp only [go_sem, hG, hOw]
theorem Collect_ok (t : List Ch) (ht : textB t = true) (c : Cu) (hcb : cutB c = true) : Gives Tryz.prog 95 [.fn (.func 139) [.fp [chs 0 t], .fp (cuC c)]] (fun n => sls n (allSl c t t.length)) := by
  refine pure_intro (ow := fun _ => false) Tryz.func95 Tryz.ntmps95 rfl (by kernel_rfl) (by simp) rfl (by decide) fun G hG hOw hNm hB => ?_; simp only [go_sem, hG, hOw]
  refine call_pureA (AppendSeq_ok t ht c hcb) ?_
  simp only [go_sem, hG, hOw]
theorem All_ok (t : List Ch) (ht : textB t = true) (c : Cu) (hs : 0 ≤ c.s ∧ c.s ≤ 255) (hcb : cutB c = true) : Gives Tryz.prog 49 [txE 0 t, .agg (cuC c)] (fun n => .tup [sls n (allSl c t t.length), i64 0]) := by
  have ho := Sopen_ok t c hs
  rw [show openE t c = 0 by simp [openE, ht, hcb]] at ho
  refine pure_intro (ow := fun _ => false) Tryz.func49 Tryz.ntmps49 rfl (by kernel_rfl) (by simp) rfl (by decide) fun G hG hOw hNm hB => ?_; simp only [go_sem, hG, hOw]
  refine call_pure ho (by first | exact Subs.refl _ | (repeat' (first | exact Subs.nil | exact Sub.refl _ | exact Sub.lo (Nat.zero_le _) | refine Subs.cons ?_ ?_ | refine Subs.agg ?_ | refine Subs.fp ?_ | refine Subs.tup ?_ | refine Sub.map (Nat.zero_le _) (fun _ => ?_)))) (by first | rfl | simp [allP, all0, pureV, pure0, *]) (by simp [chk, hG]) ?_
  simp only [go_sem, hG, hOw]
  refine call_pureA (slips_ok t c) ?_
  simp only [go_sem, hG, hOw]
  refine call_pureA (Collect_ok t ht c hcb) ?_
  simp only [go_sem, hG, hOw]
end Go.Proofs.YtfnohnjnncjidaaGreatDoor
