import Derived.Test.YtppcbmpiphhphaaGreatDoorQU10
import Derived.Test.YtppcbmpiphhphaaGreatDoorQU12
namespace Go.Proofs.YtppcbmpiphhphaaGreatDoor
open Go Pm
set_option linter.unusedSimpArgs false
set_option linter.unusedVariables false
set_option maxHeartbeats 1000000
theorem within_ok (n lo hi : Int) : Gives Tryz.prog 68 [i64 n, i64 lo, i64 hi] (fun _ => bl (decide (lo ≤ n) && decide (n ≤ hi))) := by
  refine pure_intro (ow := fun _ => false) Tryz.func68 Tryz.ntmps68 rfl (by kernel_rfl) (by simp) rfl (by decide) fun G hG hOw hNm hB => ?_; simp only [go_sem, hG, hOw]
  exact ⟨fun h => by simp [h], fun h => by simp [h]⟩

theorem Rows_ok (l : List ByteArray) : Gives Tryz.prog 37 [strs 0 l] (fun _ => bl (rowsB l)) := by
  refine pure_intro (ow := fun _ => false) Tryz.func37 Tryz.ntmps37 rfl (by kernel_rfl) (by simp) rfl (by decide) fun G hG hOw hNm hB => ?_; simp only [go_sem, hG, hOw]
  have hl := bd_strs (lo := 0) (l := l) hB (by simp)
  have bad : ∀ (k : Nat) (h : k < l.length), rowB l[k] = false → false = rowsB l := fun k h h' => by
    unfold rowsB; rw [all_false h h']; rfl
  refine semC_loop (fun k : Nat => St.of [(0, strs 0 l), (3, i64 k)] []) (fun k => k ≤ l.length ∧ (l.take k).all rowB = true) (fun k => l.length - k) 0 (by simp) (ent_of0 (by (simp only [go_sem]) <;> simp) hNm) ?_
  rintro k ⟨hk, hall⟩
  refine vc_sound _ _ _ ?_; simp only [go_sem, hG, hOw]
  refine ⟨fun hlt => ⟨by omega, call_pure (within_ok _ _ _) (by first | exact Subs.refl _ | (repeat' (first | exact Subs.nil | exact Sub.refl _ | exact Sub.lo (Nat.zero_le _) | refine Subs.cons ?_ ?_ | refine Subs.agg ?_ | refine Subs.fp ?_ | refine Subs.tup ?_ | refine Sub.map (Nat.zero_le _) (fun _ => ?_)))) (by first | rfl | simp [allP, all0, pureV, pure0, *]) (by simp [chk, hG]) ?_⟩, fun hge => ?_⟩
  · have hkl : k < l.length := by omega
    simp only [go_sem, hG, hOw]
    refine ⟨fun hb => ?_, fun hb => ?_⟩
    · refine bad k hkl ?_
      unfold rowB
      rw [hb]; rfl
    · skip
      have hsz : l[k].size ≤ 160 := by simp at hb; omega
      refine semC_loop (fun j : Nat => St.of [(0, strs 0 l), (3, i64 k), (4, i64 j)] []) (fun j => j ≤ l[k].size ∧ (l[k].data.toList.take j).all byteOK = true) (fun j => l[k].size - j) 0 (by simp) (ent_of0 (by (simp only [go_sem]) <;> simp) hNm) ?_
      rintro j ⟨hj, hallj⟩
      refine vc_sound _ _ _ ?_; simp only [go_sem, hG, hOw]
      have badj : ∀ h : j < l[k].size, byteOK l[k][j] = false → false = rowsB l := fun h h' => bad k hkl (by
        unfold rowB
        rw [all_false (l := l[k].data.toList) (k := j) (by simpa using h) (by rw [byte_at _ _ h]; exact h')]
        simp)
      refine ⟨hkl, fun hlt => ⟨hkl, by omega, fun h1 => ⟨hkl, by omega, fun h2 => ?_, fun h2 => ?_⟩, fun h1 => ?_⟩, fun hge => ?_⟩
      · exact badj (by omega) (by simp [byteOK, h2])
      · refine ⟨(by first | omega | (simp; omega)), j + 1, ⟨by omega, all_take_succ (by simp; omega) hallj ?_⟩, by omega, ent_of0 (by (simp only [go_sem]) <;> simp) hNm⟩
        rw [byte_at _ _ (by omega)]
        unfold byteOK
        rw [decide_eq_false h1, decide_eq_false h2]; rfl
      · exact badj (by omega) (by simp [byteOK, h1])
      · refine ⟨(by first | omega | (simp; omega)), k + 1, ⟨by omega, all_take_succ hkl hall ?_⟩, by omega, ent_of0 (by (simp only [go_sem]) <;> simp) hNm⟩
        unfold rowB
        rw [take_full (by simpa using hj) (by simpa using hge)] at hallj
        rw [hb, hallj]; rfl
  · rw [take_full hk hge] at hall
    unfold rowsB
    rw [hall]; rfl

theorem GreatRows_ok (l : List ByteArray) : Gives Tryz.prog 7 [strs 0 l] (fun _ => bl (greatRows l)) := by
  refine pure_intro (ow := fun _ => false) Tryz.func7 Tryz.ntmps7 rfl (by kernel_rfl) (by simp) rfl (by decide) fun G hG hOw hNm hB => ?_; simp only [go_sem, hG, hOw]
  have hl := bd_strs (lo := 0) (l := l) hB (by simp)
  refine ⟨fun h => ?_, fun h => ?_⟩
  · unfold greatRows; rw [decide_eq_true h]; rfl
  refine semC_loop (fun k : Nat => St.of [(0, strs 0 l), (3, i64 k)] []) (fun k => k ≤ l.length ∧ (l.take k).all (fun s => !decide (200 < (s.size : Int))) = true) (fun k => l.length - k) 0 (by simp) (ent_of0 (by (simp only [go_sem]) <;> simp) hNm) ?_
  rintro k ⟨hk, hall⟩
  refine vc_sound _ _ _ ?_; simp only [go_sem, hG, hOw]
  refine ⟨fun hlt => ⟨by omega, fun h1 => ?_, fun h1 => ?_⟩, fun hge => ?_⟩
  · unfold greatRows
    have hkl : k < l.length := by omega
    rw [show (l.any fun s => decide (200 < (s.size : Int))) = true from List.any_eq_true.2 ⟨l[k], List.getElem_mem hkl, decide_eq_true h1⟩]; simp
  · refine ⟨(by first | omega | (simp; omega)), k + 1, ⟨by omega, all_take_succ (by omega) hall (by rw [decide_eq_false h1]; rfl)⟩, by omega, ent_of0 (by (simp only [go_sem]) <;> simp) hNm⟩
  · rw [take_full hk hge] at hall
    unfold greatRows
    rw [List.any_eq_false.2 (fun x hx => by simpa using List.all_eq_true.1 hall x hx), decide_eq_false h]; rfl

theorem SameWordsF_ok (l m : List ByteArray) : Gives Tryz.prog 13 [strs 0 l, strs 0 m] (fun _ => bl (decide (l = m))) := by
  refine pure_intro (ow := fun _ => false) Tryz.func13 Tryz.ntmps13 rfl (by kernel_rfl) (by simp) rfl (by decide) fun G hG hOw hNm hB => ?_; simp only [go_sem, hG, hOw]
  have hl := bd_strs (lo := 0) (l := l) hB (by simp)
  refine ⟨fun h => ?_, fun h => ?_⟩
  · rw [decide_eq_false]
    rintro rfl
    simp at h
  have hlen : l.length = m.length := by omega
  refine semC_loop (fun k : Nat => St.of [(0, strs 0 l), (1, strs 0 m), (5, i64 k)] []) (fun k => k ≤ l.length ∧ l.take k = m.take k) (fun k => l.length - k) 0 (by simp) (ent_of0 (by (simp only [go_sem]) <;> simp) hNm) ?_
  rintro k ⟨hk, hall⟩
  refine vc_sound _ _ _ ?_; simp only [go_sem, hG, hOw]
  refine ⟨fun hlt => ?_, fun hge => ?_⟩
  · refine semC_draw0 mixed (by kernel_rfl) ?_
    simp only [go_sem, hG, hOw]
    refine ⟨by omega, by omega, fun h1 => ?_, fun h1 => ⟨(by first | omega | (simp; omega)), k + 1, ⟨by omega, ?_⟩, by omega, ent_of0 (by (simp only [go_sem]) <;> simp) hNm⟩⟩
    · rw [decide_eq_false]
      rintro rfl
      simp at h1
    · have e : l[k] = m[k] := by simpa using h1
      rw [List.take_add_one, List.take_add_one, hall, List.getElem?_eq_getElem (by omega), List.getElem?_eq_getElem (by omega), e]
  · rw [take_full hk hge, take_full (by omega) (by omega)] at hall
    rw [hall]; simp
end Go.Proofs.YtppcbmpiphhphaaGreatDoor
