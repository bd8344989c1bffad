import Derived.Test.YtfnohnjnncjidaaGreatDoorQP29
import Derived.Test.YtfnohnjnncjidaaGreatDoorQP32
namespace Go.Proofs.YtfnohnjnncjidaaGreatDoor
open Go Pm
set_option linter.unusedSimpArgs false
set_option linter.unusedVariables false
set_option maxHeartbeats 4000000
set_option maxRecDepth 100000
def offs (ls : List (List ByteArray)) (n : Nat) : Nat := (ls.take n).flatten.length
theorem offs_le (ls : List (List ByteArray)) (n w : Nat) (hn : n < ls.length) (hw : w < ls[n].length) : offs ls n + w < ls.flatten.length := by
  have e : ls.flatten = (ls.take n).flatten ++ (ls[n] ++ (ls.drop (n + 1)).flatten) := by
    conv => lhs; rw [← List.take_append_drop n ls, List.drop_eq_getElem_cons hn]
    rw [List.flatten_append, List.flatten_cons]
  rw [e, List.length_append, List.length_append]
  unfold offs
  omega
theorem atF_at (k : Nat) : ∀ (ls : List (List ByteArray)) (m n w : Nat) (hn : n < ls.length) (hw : w < ls[n].length), (atF k m ls)[offs ls n + w]? = some (k, m + n, w) := by
  intro ls
  induction ls with
  | nil => intro m n w hn; simp at hn
  | cons l r ih =>
    intro m n w hn hw
    cases n with
    | zero =>
      simp only [List.getElem_cons_zero] at hw
      simp only [atF, offs, List.take_zero, List.flatten_nil, List.length_nil, Nat.zero_add, Nat.add_zero]
      rw [List.getElem?_append_left (by simpa using hw), List.getElem?_map, List.getElem?_range hw]; rfl
    | succ n =>
      simp only [List.getElem_cons_succ] at hw
      have h := ih (m + 1) n w (by simpa using hn) hw
      simp only [atF]
      have e : offs (l :: r) (n + 1) = l.length + offs r n := by simp [offs]
      rw [e, List.getElem?_append_right (by simp; omega)]
      simp only [List.length_map, List.length_range]
      rw [show l.length + offs r n + w - l.length = offs r n + w by omega, h]
      rw [show m + 1 + n = m + (n + 1) by omega]
theorem mem_atF (k : Nat) : ∀ (ls : List (List ByteArray)) (m : Nat) (p : Nat × Nat × Nat), p ∈ atF k m ls → m ≤ p.2.1 := by
  intro ls
  induction ls with
  | nil => intro m p h; cases h
  | cons l r ih =>
    intro m p h
    rcases List.mem_append.1 h with h | h
    · simp only [List.mem_map] at h
      obtain ⟨w, _, rfl⟩ := h
      exact Nat.le_refl _
    · have := ih (m + 1) p h; omega
theorem atF_nodup (k : Nat) : ∀ (ls : List (List ByteArray)) (m : Nat), (atF k m ls).Nodup := by
  intro ls
  induction ls with
  | nil => intro m; exact List.nodup_nil
  | cons l r ih =>
    intro m
    rw [atF, List.nodup_append]
    refine ⟨?_, ih (m + 1), fun a ha b hb => ?_⟩
    · unfold List.Nodup
      rw [List.pairwise_map]
      exact List.Pairwise.imp (fun h e => h (by simpa using e)) List.nodup_range
    · simp only [List.mem_map] at ha
      obtain ⟨w, _, rfl⟩ := ha
      have := mem_atF k r (m + 1) b hb
      rintro rfl
      simp at this
      omega
def slAt (c : Cu) (k : Nat) (ls : List (List ByteArray)) (n w : Nat) : Sl := slOf c k ls (offs ls n + w)
theorem textB_bd {t : List Ch} (ht : textB t = true) : t.length ≤ 6 ∧ ∀ ch ∈ t, (ch.lines.length ≤ 10 ∧ 1 ≤ ch.lines.length) ∧ ∀ r ∈ ch.lines, lineB r = true := by
  unfold textB at ht
  simp only [Bool.and_eq_true, inB, decide_eq_true_eq] at ht
  refine ⟨by omega, fun ch hc => ?_⟩
  obtain ⟨k, hk, rfl⟩ := List.getElem_of_mem hc
  have := allPre_at ht.2 hk
  unfold chapB at this
  simp only [Bool.and_eq_true, inB, decide_eq_true_eq] at this
  exact ⟨by omega, fun r hr => List.all_eq_true.1 this.2 r hr⟩
theorem lineB_words {r : List ByteArray} (h : lineB r = true) : r.length ≤ 10 ∧ 1 ≤ r.length ∧ ∀ s ∈ r, s.size ≤ 12 ∧ 1 ≤ s.size := by
  unfold lineB at h
  simp only [Bool.and_eq_true, inB, decide_eq_true_eq] at h
  refine ⟨by omega, by omega, fun s hs => ?_⟩
  have := List.all_eq_true.1 h.2 s hs
  unfold wordB at this
  simp only [Bool.and_eq_true, inB, decide_eq_true_eq] at this
  omega
theorem chap_words {t : List Ch} (ht : textB t = true) (k : Nat) (hk : k < t.length) : t[k].lines.length ≤ 10 ∧ (∀ r ∈ t[k].lines, r.length ≤ 10) ∧ (∀ s ∈ t[k].lines.flatten, s.size ≤ 12) ∧ t[k].lines.flatten.length ≤ 600 := by
  obtain ⟨_, h⟩ := textB_bd ht
  obtain ⟨h1, h2⟩ := h _ (List.getElem_mem hk)
  refine ⟨h1.1, fun r hr => (lineB_words (h2 r hr)).1, fun s hs => ?_, flatten_bd _ (by omega) fun r hr => by have := (lineB_words (h2 r hr)).1; omega⟩
  obtain ⟨r, hr, hs⟩ := List.mem_flatten.1 hs
  exact ((lineB_words (h2 r hr)).2.2 s hs).1
theorem made_ok (t : List Ch) (ht : textB t = true) (c : Cu) (hc : cutB c = true) (k : Nat) (hk : k < t.length) (n w : Nat) (hn : n < t[k].lines.length) (hw : w < t[k].lines[n].length) :
    Gives Tryz.prog 115 [txE 0 t, .agg (cuC c), .agg (pl3 (k, n, w))] (fun _ => .tup [.agg (slC (slAt c k t[k].lines n w)), bl true]) := by
  obtain ⟨b1, b2, b3, b4⟩ := chap_words ht k hk
  have ht6 := (textB_bd ht).1
  have hc2 := hc
  simp only [cutB, Bool.and_eq_true] at hc2
  have hcw : 12 ≤ c.w ∧ c.w ≤ 80 := by simp only [inB, Bool.and_eq_true, decide_eq_true_eq] at hc2; omega
  have hR := runs_ok t c k hk (by omega) (fun r hr => by have := b2 r hr; omega)
  have hi := offs_le t[k].lines n w hn hw
  have hal := atF_len k t[k].lines 0
  have hat := atF_at k t[k].lines 0 n w hn hw
  have hS := slip_ok c k t[k].lines hc2.2 (by omega) b3 (by omega) _ hi
  have hia : offs t[k].lines n + w < (atF k 0 t[k].lines).length := by omega
  rw [List.getElem?_eq_getElem hia, Option.some.injEq, Nat.zero_add] at hat
  have hI := IndexP_ok (atF k 0 t[k].lines) (by omega) (offs t[k].lines n + w) hia (fun j hj hlt e => by
    have := (List.getElem_inj (atF_nodup k t[k].lines 0)).1 e
    omega)
  rw [hat] at hI
  unfold slAt
  obtain ⟨ls, hls⟩ : ∃ ls, ls = t[k].lines := ⟨_, rfl⟩
  rw [← hls] at hR hI hS ⊢
  refine pure_intro (ow := fun _ => false) Tryz.func115 Tryz.ntmps115 rfl (by kernel_rfl) (by simp) rfl (by decide) fun G hG hOw hNm hB => ?_; simp only [go_sem, hG, hOw]
  (repeat' (first | (with_reducible refine And.intro ?_ ?_) | (with_reducible intro _) | (with_reducible refine exP ?_ ?_))); all_goals (try omega)
  refine call_pure (inS_one 0 (t.length - 1) k) (by first | exact Subs.refl _ | (repeat' (first | exact Subs.nil | exact Sub.refl _ | exact Sub.lo (Nat.zero_le _) | refine Subs.cons ?_ ?_ | refine Subs.agg ?_ | refine Subs.fp ?_ | refine Subs.tup ?_ | refine Sub.map (Nat.zero_le _) (fun _ => ?_)))) (by first | rfl | simp [allP, all0, pureV, pure0, *]) (by simp [chk, hG]) ?_
  have e1 : inB k 0 (t.length - 1) = true := by simp [inB]; omega
  simp (config := { maxSteps := 2000000 }) only [go_sem, hG, hOw, e1]
  (repeat' (first | (with_reducible refine And.intro ?_ ?_) | (with_reducible intro _) | (with_reducible refine exP ?_ ?_))); all_goals (try omega)
  refine call_pure hR (by first | exact Subs.refl _ | (repeat' (first | exact Subs.nil | exact Sub.refl _ | exact Sub.lo (Nat.zero_le _) | refine Subs.cons ?_ ?_ | refine Subs.agg ?_ | refine Subs.fp ?_ | refine Subs.tup ?_ | refine Sub.map (Nat.zero_le _) (fun _ => ?_)))) (by first | rfl | simp [allP, all0, pureV, pure0, *]) (by simp [chk, hG]) ?_
  simp only [go_sem, hG, hOw]
  (repeat' (first | (with_reducible refine And.intro ?_ ?_) | (with_reducible intro _) | (with_reducible refine exP ?_ ?_))); all_goals (try omega)
  refine call_pure hI (by first | exact Subs.refl _ | (repeat' (first | exact Subs.nil | exact Sub.refl _ | exact Sub.lo (Nat.zero_le _) | refine Subs.cons ?_ ?_ | refine Subs.agg ?_ | refine Subs.fp ?_ | refine Subs.tup ?_ | refine Sub.map (Nat.zero_le _) (fun _ => ?_)))) (by first | rfl | simp [allP, all0, pureV, pure0, *]) (by simp [chk, hG]) ?_
  simp only [go_sem, hG, hOw]
  (repeat' (first | (with_reducible refine And.intro ?_ ?_) | (with_reducible intro _) | (with_reducible refine exP ?_ ?_))); all_goals (try omega)
  refine call_pure hS (by first | exact Subs.refl _ | (repeat' (first | exact Subs.nil | exact Sub.refl _ | exact Sub.lo (Nat.zero_le _) | refine Subs.cons ?_ ?_ | refine Subs.agg ?_ | refine Subs.fp ?_ | refine Subs.tup ?_ | refine Sub.map (Nat.zero_le _) (fun _ => ?_)))) (by first | rfl | simp [allP, all0, pureV, pure0, *]) (by simp [chk, hG]) ?_
  simp only [go_sem, hG, hOw]
  (repeat' (first | (with_reducible refine And.intro ?_ ?_) | (with_reducible intro _) | (with_reducible refine exP ?_ ?_))); all_goals (try omega)
theorem Make_ok (t : List Ch) (ht : textB t = true) (c : Cu) (hc : cutB c = true) (k : Nat) (hk : k < t.length) (n w : Nat) (hn : n < t[k].lines.length) (hw : w < t[k].lines[n].length) :
    Gives Tryz.prog 68 [txE 0 t, .agg (cuC c), .agg (pl3 (k, n, w))] (fun _ => .tup [.agg (slC (slAt c k t[k].lines n w)), i64 0]) := by
  have hM := made_ok t ht c hc k hk n w hn hw
  have hc2 := hc
  simp only [cutB, inB, Bool.and_eq_true, decide_eq_true_eq] at hc2
  have hO := Sopen_ok t c (by omega)
  rw [show openE t c = 0 by simp [openE, ht, hc]] at hO
  refine pure_intro (ow := fun _ => false) Tryz.func68 Tryz.ntmps68 rfl (by kernel_rfl) (by simp) rfl (by decide) fun G hG hOw hNm hB => ?_; simp only [go_sem, hG, hOw]
  refine call_pure hO (by first | exact Subs.refl _ | (repeat' (first | exact Subs.nil | exact Sub.refl _ | exact Sub.lo (Nat.zero_le _) | refine Subs.cons ?_ ?_ | refine Subs.agg ?_ | refine Subs.fp ?_ | refine Subs.tup ?_ | refine Sub.map (Nat.zero_le _) (fun _ => ?_)))) (by first | rfl | simp [allP, all0, pureV, pure0, *]) (by simp [chk, hG]) ?_
  simp only [go_sem, hG, hOw]
  (repeat' (first | (with_reducible refine And.intro ?_ ?_) | (with_reducible intro _) | (with_reducible refine exP ?_ ?_))); all_goals (try omega)
  refine call_pure hM (by first | exact Subs.refl _ | (repeat' (first | exact Subs.nil | exact Sub.refl _ | exact Sub.lo (Nat.zero_le _) | refine Subs.cons ?_ ?_ | refine Subs.agg ?_ | refine Subs.fp ?_ | refine Subs.tup ?_ | refine Sub.map (Nat.zero_le _) (fun _ => ?_)))) (by first | rfl | simp [allP, all0, pureV, pure0, *]) (by simp [chk, hG]) ?_
  simp only [go_sem, hG, hOw]
  (repeat' (first | (with_reducible refine And.intro ?_ ?_) | (with_reducible intro _) | (with_reducible refine exP ?_ ?_))); all_goals (try omega)
end Go.Proofs.YtfnohnjnncjidaaGreatDoor
