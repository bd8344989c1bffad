import Derived.Test.YtppcbmpiphhphaaGreatDoorQU11
import Derived.Test.YtppcbmpiphhphaaGreatDoorQU17
import Derived.Test.YtppcbmpiphhphaaGreatDoorQU18
import Derived.Test.YtppcbmpiphhphaaGreatDoorQU24
import Derived.Test.YtppcbmpiphhphaaGreatDoorQU26
import Derived.Test.YtppcbmpiphhphaaGreatDoorQU29
namespace Go.Proofs.YtppcbmpiphhphaaGreatDoor
open Go Pm
set_option linter.unusedSimpArgs false
set_option linter.unusedVariables false
set_option maxHeartbeats 4000000
set_option maxRecDepth 100000
theorem ten_div (n : Nat) : ((n : Int) / 10) = ((n / 10 : Nat) : Int) := by omega
theorem ten_mod (n : Nat) : ((n : Int) % 10) = ((n % 10 : Nat) : Int) := by omega
theorem dig_one : ∀ n : Fin 10, (⟨#[48, 49, 50, 51, 52, 53, 54, 55, 56, 57]⟩ : ByteArray).extract n.val (n.val + 1) = ⟨#[UInt8.ofNat (48 + n.val)]⟩ := by decide
theorem numB_one {n : Nat} (h : n < 10) : numB (n : Int) = ⟨#[UInt8.ofNat (48 + n)]⟩ := by
  unfold numB; rw [itoa_nat, Lib.decDigits_one h]; rfl
theorem numB_ten {n : Nat} (h : ¬ n < 10) : numB (n : Int) = numB ((n / 10 : Nat) : Int) ++ numB ((n % 10 : Nat) : Int) := by
  rw [numB_one (Nat.mod_lt n (by omega))]
  unfold numB
  rw [itoa_nat, itoa_nat, decDigits_ten n h]
  refine ba_ext ?_
  rw [ByteArray.data_append]
  simp [bA]
theorem numB_sz (n : Nat) (h : n ≤ 9999) : (numB (n : Int)).size ≤ 4 := by
  have := valueU_itoa n (by omega) (by omega)
  unfold valueU at this
  split at this
  · rename_i h; rw [numB, bA_size]; exact h.2.1
  · cases this
theorem RNumber_ok : ∀ n : Nat, n ≤ 9999 → Gives Tryz.prog 48 [i64 n] (fun _ => .v (.string (numB n))) := by
  intro n
  induction n using Nat.strongRecOn with
  | _ n ih =>
    intro hn
    refine pure_intro (ow := fun _ => false) Tryz.func48 Tryz.ntmps48 rfl (by kernel_rfl) (by simp) rfl (by decide) fun G hG hOw hNm hB => ?_; simp only [go_sem, hG, hOw]
    (repeat' with_reducible first | refine And.intro ?_ ?_ | intro _ | refine exP ?_ ?_); all_goals try omega
    · show (n : Int) + 1 ≤ 10; omega
    · rename_i h
      rw [numB_one (by omega), show ((n : Int) + 1).toNat = n + 1 by omega, dig_one ⟨n, by omega⟩]
    · rw [fitsK_i64]; omega
    · rename_i h
      have hn10 : ¬ n < 10 := by omega
      rw [ten_div]
      refine call_pureA (ih (n / 10) (by omega) (by omega)) ?_
      simp only [go_sem, hG, hOw]
      (repeat' with_reducible first | refine And.intro ?_ ?_ | intro _ | refine exP ?_ ?_); all_goals try omega
      rw [ten_mod]
      refine call_pureA (ih (n % 10) (by omega) (by omega)) ?_
      simp only [go_sem, hG, hOw]
      rw [numB_ten hn10]
      have q1 := numB_sz (n / 10) (by omega)
      have q2 := numB_sz (n % 10) (by omega)
      exact ⟨by omega, rfl⟩
theorem RNumber_i (n : Int) (h0 : 0 ≤ n) (h1 : n ≤ 9999) : Gives Tryz.prog 48 [i64 n] (fun _ => .v (.string (numB n))) := by
  obtain ⟨k, rfl⟩ := Int.eq_ofNat_of_zero_le h0
  exact RNumber_ok k (by omega)
theorem valF_bd : ∀ (l : List UInt8) (a : Int) (k : Nat), 0 ≤ a → a < 10 ^ k → l.all digB = true → 0 ≤ l.foldl (fun n b => 10 * n + ((b.toNat : Int) - 48)) a ∧ l.foldl (fun n b => 10 * n + ((b.toNat : Int) - 48)) a < 10 ^ (k + l.length)
  | [], a, k, h0, h1, _ => by simpa using ⟨h0, h1⟩
  | b :: l, a, k, h0, h1, h => by
    simp only [List.all_cons, Bool.and_eq_true] at h
    have h3 := dig_lo h.1
    have e : (10 : Int) ^ (k + 1) = 10 ^ k * 10 := Int.pow_succ _ _
    have := valF_bd l (10 * a + ((b.toNat : Int) - 48)) (k + 1) (by omega) (by rw [e]; omega) h.2
    rw [List.foldl_cons, List.length_cons, show k + (l.length + 1) = k + 1 + l.length by omega]
    exact this
theorem valN_bd (l : List UInt8) (h : l.all digB = true) : 0 ≤ valN l ∧ valN l < 10 ^ l.length := by
  have := valF_bd l 0 0 (Int.le_refl _) (by decide) h
  simpa [valN] using this
theorem valN_small {l : List UInt8} (h : l.all digB = true) (hl : l.length ≤ 4) : 0 ≤ valN l ∧ valN l ≤ 9999 := by
  obtain ⟨h1, h2⟩ := valN_bd l h
  have : (10 : Int) ^ l.length ≤ 10 ^ 4 := by
    match hq : l.length, hl with
    | 0, _ => decide
    | 1, _ => decide
    | 2, _ => decide
    | 3, _ => decide
    | 4, _ => decide
  have e : (10 : Int) ^ 4 = 10000 := rfl
  omega
theorem head_at (s : ByteArray) (h : 0 < s.size) : s.data.toList.head? = some (s[0]'h) := by
  rw [← byte_at s 0 h, List.head?_eq_getElem?, List.getElem?_eq_getElem]
theorem RValue_ok (s : ByteArray) (hs : s.size ≤ 100000) : Gives Tryz.prog 92 [.v (.string s)] (fun _ => .tup [i64 ((valueS s).getD 0), bl (valueS s).isSome]) := by
  have no : (¬ (1 ≤ s.data.toList.length ∧ s.data.toList.length ≤ 4 ∧ ¬ (1 < s.data.toList.length ∧ s.data.toList.head? = some 48) ∧ s.data.toList.all digB = true)) → valueS s = none := fun h => by unfold valueS valueU; rw [if_neg h]
  have hsz : s.data.toList.length = s.size := by simp
  have hw : ∀ n : Int, 0 ≤ n → n ≤ 255 → IntKind.u8.wrap n = n := fun n h1 h2 => wrap_fitsK (by simp [fitsK, IntKind.min, IntKind.max, IntKind.signed, IntKind.bits]; omega)
  refine pure_intro (ow := fun _ => false) Tryz.func92 Tryz.ntmps92 rfl (by kernel_rfl) (by simp) rfl (by decide) fun G hG hOw hNm hB => ?_; simp only [go_sem, hG, hOw]
  refine call_pureA (within_ok s.size 1 4) ?_
  simp only [go_sem, hG, hOw]
  (repeat' with_reducible first | refine And.intro ?_ ?_ | intro _ | refine exP ?_ ?_); all_goals try omega
  · rename_i a1 a2 a3
    rw [no fun q => q.2.2.1 ⟨by omega, by rw [head_at s (by omega)]; congr 1; exact UInt8.toNat_inj.1 (by show _ = 48; omega)⟩]
    exact .refl _
  · rename_i a1 a2 a3
    have a1 : 1 ≤ (s.size : Int) ∧ (s.size : Int) ≤ 4 := by simpa using a1
    have hh : ¬ (1 < s.data.toList.length ∧ s.data.toList.head? = some 48) := fun q => by
      rw [head_at s (by omega)] at q
      have := congrArg UInt8.toNat (Option.some.inj q.2)
      have e : (48 : UInt8).toNat = 48 := rfl
      omega
    refine semC_loop (fun i : Nat => St.of [(0, .v (.string s)), (4, i64 (valN (s.data.toList.take i))), (5, i64 i)] []) (fun i => i ≤ s.size ∧ (s.data.toList.take i).all digB = true) (fun i => s.size - i) 0 (by simp) (entA [] (by (simp only [go_sem]) <;> simp [valN]) (by (simp only [go_sem, entH, entH1, nilArr, obOK]) <;> simp [valN])) ?_
    rintro i ⟨hi, hall⟩
    obtain ⟨v1, v2⟩ := valN_small hall (by rw [List.length_take]; omega)
    refine vc_sound _ _ _ ?_; simp only [go_sem, hG, hOw]
    (repeat' with_reducible first | refine And.intro ?_ ?_ | intro _ | refine exP ?_ ?_); all_goals try omega
    all_goals first
      | (rename_i a1 a2; rw [no fun q => by
          have := List.all_eq_true.1 q.2.2.2 (s[i]'(by omega)) (by rw [← byte_at s i (by omega)]; exact List.getElem_mem _)
          have := dig_lo this
          omega]; exact .refl _)
      | (rw [hw _ (by omega) (by omega)]; omega)
      | skip
    · rename_i a1 a2 a3
      have hd : digB (s[i]'(by omega)) = true := by simp [digB]; omega
      refine ⟨i + 1, ⟨by omega, all_take_succ (by simpa using (by omega : i < s.size)) hall (by rw [byte_at _ _ (by omega)]; exact hd)⟩, by omega, ?_⟩
      have e : valN (s.data.toList.take (i + 1)) = 10 * valN (s.data.toList.take i) + (((s[i]'(by omega)).toNat : Int) - 48) := by
        rw [List.take_add_one, List.getElem?_eq_getElem (by simpa using (by omega : i < s.size)), byte_at _ _ (by omega)]
        exact valN_snoc _ _
      rw [e]
      have e0 := hw (((s[i]'(by omega)).toNat : Int) - 48) (by omega) (by omega)
      simp only [e0]
      exact ent_of0 (by (simp only [go_sem]) <;> simp) hNm
    · rename_i hge
      obtain rfl : i = s.size := by omega
      have e : s.data.toList.take s.size = s.data.toList := List.take_of_length_le (by simp)
      rw [e] at hall ⊢
      have : valueS s = some (valN s.data.toList) := by unfold valueS valueU; rw [if_pos ⟨by omega, by omega, hh, hall⟩]
      rw [this]
      exact .refl _
  · rename_i a1 a2
    have a1 : 1 ≤ (s.size : Int) ∧ (s.size : Int) ≤ 4 := by simpa using a1
    have hh : ¬ (1 < s.data.toList.length ∧ s.data.toList.head? = some 48) := fun q => by omega
    refine semC_loop (fun i : Nat => St.of [(0, .v (.string s)), (4, i64 (valN (s.data.toList.take i))), (5, i64 i)] []) (fun i => i ≤ s.size ∧ (s.data.toList.take i).all digB = true) (fun i => s.size - i) 0 (by simp) (entA [] (by (simp only [go_sem]) <;> simp [valN]) (by (simp only [go_sem, entH, entH1, nilArr, obOK]) <;> simp [valN])) ?_
    rintro i ⟨hi, hall⟩
    obtain ⟨v1, v2⟩ := valN_small hall (by rw [List.length_take]; omega)
    refine vc_sound _ _ _ ?_; simp only [go_sem, hG, hOw]
    (repeat' with_reducible first | refine And.intro ?_ ?_ | intro _ | refine exP ?_ ?_); all_goals try omega
    all_goals first
      | (rename_i a1 a2; rw [no fun q => by
          have := List.all_eq_true.1 q.2.2.2 (s[i]'(by omega)) (by rw [← byte_at s i (by omega)]; exact List.getElem_mem _)
          have := dig_lo this
          omega]; exact .refl _)
      | (rw [hw _ (by omega) (by omega)]; omega)
      | skip
    · rename_i a1 a2 a3
      have hd : digB (s[i]'(by omega)) = true := by simp [digB]; omega
      refine ⟨i + 1, ⟨by omega, all_take_succ (by simpa using (by omega : i < s.size)) hall (by rw [byte_at _ _ (by omega)]; exact hd)⟩, by omega, ?_⟩
      have e : valN (s.data.toList.take (i + 1)) = 10 * valN (s.data.toList.take i) + (((s[i]'(by omega)).toNat : Int) - 48) := by
        rw [List.take_add_one, List.getElem?_eq_getElem (by simpa using (by omega : i < s.size)), byte_at _ _ (by omega)]
        exact valN_snoc _ _
      rw [e]
      have e0 := hw (((s[i]'(by omega)).toNat : Int) - 48) (by omega) (by omega)
      simp only [e0]
      exact ent_of0 (by (simp only [go_sem]) <;> simp) hNm
    · rename_i hge
      obtain rfl : i = s.size := by omega
      have e : s.data.toList.take s.size = s.data.toList := List.take_of_length_le (by simp)
      rw [e] at hall ⊢
      have : valueS s = some (valN s.data.toList) := by unfold valueS valueU; rw [if_pos ⟨by omega, by omega, hh, hall⟩]
      rw [this]
      exact .refl _
  · rename_i a1
    have a1 : ¬ (1 ≤ (s.size : Int) ∧ (s.size : Int) ≤ 4) := by simpa using a1
    rw [no fun q => a1 (by omega)]
    exact .refl _
open Go Pm
set_option maxHeartbeats 4000000
set_option maxRecDepth 100000
def ptL (s : ByteArray) (i : Nat) : List ByteArray := (partsU (s.data.toList.take i)).map bA
theorem ptL_all (s : ByteArray) : ptL s s.size = partsS s := by
  unfold ptL partsS
  rw [List.take_of_length_le (by simp)]
theorem ptL_len (s : ByteArray) (i : Nat) : 1 ≤ (ptL s i).length ∧ (ptL s i).length ≤ i + 1 := by
  have h1 := partsU_ne (s.data.toList.take i)
  have h2 := partsU_len (s.data.toList.take i)
  have h3 := List.length_pos_iff.2 h1
  simp only [ptL, List.length_map, List.length_take] at *
  omega
theorem ptL_size (s : ByteArray) (i : Nat) : ∀ x ∈ ptL s i, x.size ≤ s.size := by
  intro x hx
  simp only [ptL, List.mem_map] at hx
  obtain ⟨y, hy, rfl⟩ := hx
  have := partsU_size _ y hy
  rw [bA_size]
  simp at this
  omega
theorem take_byte (s : ByteArray) (i : Nat) (h : i < s.size) : s.data.toList.take (i + 1) = s.data.toList.take i ++ [s[i]] := by
  rw [List.take_add_one, List.getElem?_eq_getElem (by simpa using h), byte_at s i h]; rfl
theorem ptL_space (s : ByteArray) (i : Nat) (h : i < s.size) (hb : s[i] = 32) : ptL s (i + 1) = ptL s i ++ [⟨#[]⟩] := by
  unfold ptL
  rw [take_byte s i h, partsU_snoc, if_pos hb, List.map_append]; rfl
theorem addB_set (b : UInt8) (l : List (List UInt8)) (hne : l ≠ []) (h : (l.map bA).length - 1 < (l.map bA).length) : (addB b l).map bA = (l.map bA).set ((l.map bA).length - 1) ((l.map bA)[(l.map bA).length - 1] ++ bA [b]) := by
  rcases List.eq_nil_or_concat l with rfl | ⟨m, x, rfl⟩
  · exact (hne rfl).elim
  · simp only [List.concat_eq_append, List.map_append, List.map_cons, List.map_nil, List.length_append, List.length_map, List.length_singleton, Nat.add_sub_cancel, addB]
    rw [List.set_append_right _ _ (by simp)]
    simp
    refine ba_ext ?_
    rw [ByteArray.data_append]
    simp [bA]
theorem ptL_other (s : ByteArray) (i : Nat) (h : i < s.size) (hb : s[i] ≠ 32) (hl : (ptL s i).length - 1 < (ptL s i).length) : ptL s (i + 1) = (ptL s i).set ((ptL s i).length - 1) ((ptL s i)[(ptL s i).length - 1] ++ s.extract i (i + 1)) := by
  have hx : s.extract i (i + 1) = bA [s[i]] := by
    refine ba_ext ?_
    have : (s.extract i (i + 1)).data.toList = (s.data.toList.drop i).take (i + 1 - i) := by simp [ByteArray.data_extract]
    rw [this, bA_list, List.drop_eq_getElem_cons (by simpa using h), byte_at s i h, show i + 1 - i = 1 by omega]; rfl
  rw [hx]
  have e : ptL s (i + 1) = (addB s[i] (partsU (s.data.toList.take i))).map bA := by
    unfold ptL; rw [take_byte s i h, partsU_snoc, if_neg hb]
  rw [e]
  exact addB_set _ _ (partsU_ne _) hl
theorem RParts_ok (s : ByteArray) (hs : s.size ≤ 100000) : Gives Tryz.prog 38 [.v (.string s)] (fun n => strs n (partsS s)) := by
  refine pure_intro (ow := fun i => [5].contains i) Tryz.func38 Tryz.ntmps38 rfl (by kernel_rfl) (by simp) rfl (by decide) fun G hG hOw hNm hB => ?_; simp only [go_sem, hG, hOw]
  (repeat' with_reducible first | refine And.intro ?_ ?_ | intro _ | refine exP ?_ ?_); all_goals try omega
  refine semC_loop (fun i : Nat => St.of [(0, .v (.string s)), (3, .own 9 0 (ptL s i).length 1), (4, i64 i)] [(9, .arr 9 1 ((ptL s i).map strE))]) (fun i => i ≤ s.size) (fun i => s.size - i) 0 (by simp) (by
    have e : ptL s 0 = [⟨#[]⟩] := rfl
    simp only [e]
    exact entA [(9, some 5)]) ?_
  rintro i hi
  obtain ⟨l1, l2⟩ := ptL_len s i
  refine vc_sound _ _ _ ?_; simp only [go_sem, hG, hOw]
  (repeat' with_reducible first | refine And.intro ?_ ?_ | intro _ | refine exP ?_ ?_); all_goals try omega
  · rename_i a1 a2
    have hil : i < s.size := by omega
    have hb : s[i] = 32 := UInt8.toNat_inj.1 (by show _ = 32; omega)
    have e := ptL_space s i hil hb
    exact ⟨i + 1, by omega, by omega, entA [(9, some 18)] (by (simp only [go_sem]) <;> simp [e,strE]) (by (simp only [go_sem, entH, entH1, nilArr, obOK]) <;> simp [e,strE])⟩
  · rename_i a1 a2
    have hil : i < s.size := by omega
    have hb : s[i] ≠ 32 := fun e => a2 (by rw [e]; rfl)
    have e := ptL_other s i hil hb (by omega)
    have e1 : (((ptL s i).length : Int) - 1).toNat = (ptL s i).length - 1 := by omega
    have e2 : ((i : Int) + 1).toNat = i + 1 := by omega
    refine semC_draw0 mixed (by kernel_rfl) ?_
    simp (maxSteps := 2000000) only [go_sem, hG, hOw, e1, e2]
    (repeat' with_reducible first | refine And.intro ?_ ?_ | intro _ | refine exP ?_ ?_); all_goals try omega
    · have q1 := ptL_size s i _ (List.getElem_mem (show (ptL s i).length - 1 < (ptL s i).length by omega))
      have q2 : (s.extract i (i + 1)).size = 1 := by rw [ByteArray.size_extract]; omega
      omega
    · have e3 : (List.map strE (ptL s i)).set ((ptL s i).length - 1) [.v (.string ((ptL s i)[(ptL s i).length - 1] ++ s.extract i (i + 1)))] = List.map strE (ptL s (i + 1)) := by rw [e, List.map_set]; rfl
      have e4 : (ptL s (i + 1)).length = (ptL s i).length := by rw [e, List.length_set]
      exact ⟨i + 1, by omega, by omega, entA [(9, some 9)] (by (simp only [go_sem]) <;> simp [e3,e4]) (by (simp only [go_sem, entH, entH1, nilArr, obOK]) <;> simp [e3,e4])⟩
  · rename_i a1
    obtain rfl : i = s.size := by omega
    rw [ptL_all]
    exact .refl _
theorem join_two (a b : ByteArray) : joinS [a, b] = a ++ (⟨#[32]⟩ ++ b) := by
  refine ba_ext ?_
  rw [ByteArray.data_append, ByteArray.data_append, joinS, bA_list]
  simp [List.intercalate]
theorem join_snoc (l : List ByteArray) (x : ByteArray) (h : l ≠ []) : joinS (l ++ [x]) = joinS l ++ ⟨#[32]⟩ ++ x := by
  refine ba_ext ?_
  rw [ByteArray.data_append, ByteArray.data_append]
  have : ∀ (l : List (List UInt8)) (x : List UInt8), l ≠ [] → [32].intercalate (l ++ [x]) = [32].intercalate l ++ [32] ++ x := by
    intro l
    induction l with
    | nil => intro x h; exact (h rfl).elim
    | cons a r ih =>
      intro x _
      cases r with
      | nil => simp [List.intercalate]
      | cons b q =>
        have := ih x (by simp)
        simp only [List.intercalate, List.cons_append, List.intersperse, List.flatten] at this ⊢
        rw [this]
        simp
  rw [joinS, bA_list, List.map_append, List.map_cons, List.map_nil, this _ _ (by simpa using h), joinS]
  simp [bA]
theorem join_nil : joinS [] = ⟨#[]⟩ := rfl
theorem join_one (x : ByteArray) : joinS [x] = x := by
  refine ba_ext ?_
  rw [joinS, bA_list]; simp [List.intercalate]
theorem joinP_le (b : Nat) (l : List ByteArray) (h : ∀ s ∈ l, s.size ≤ b) : (joinS l).size ≤ (b + 1) * l.length := by
  rw [join_size]; exact join_le b l h
theorem RJoined_ok (l : List ByteArray) (hl : l.length ≤ 1000) (hs : ∀ s ∈ l, s.size ≤ 100000) : Gives Tryz.prog 42 [strs 0 l] (fun _ => .v (.string (joinS l))) := by
  refine pure_intro (ow := fun _ => false) Tryz.func42 Tryz.ntmps42 rfl (by kernel_rfl) (by simp) rfl (by decide) fun G hG hOw hNm hB => ?_; simp only [go_sem, hG, hOw]
  (repeat' with_reducible first | refine And.intro ?_ ?_ | intro _ | refine exP ?_ ?_); all_goals try omega
  refine semC_loop (fun i : Nat => St.of [(0, strs 0 l), (3, .v (.string (joinS (l.take i)))), (4, i64 i)] []) (fun i => i ≤ l.length) (fun i => l.length - i) 0 (by simp) (by simp only [List.take_zero, join_nil]; exact ent_of0 (by (simp only [go_sem]) <;> simp) hNm) ?_
  rintro i hi
  have hj := joinP_le 100000 (l.take i) fun s h => hs s (List.mem_of_mem_take h)
  have hj2 : (100000 + 1) * (l.take i).length ≤ (100000 + 1) * 1000 := Nat.mul_le_mul_left _ (by rw [List.length_take]; omega)
  have h32 : (#[32] : Array UInt8).size = 1 := rfl
  refine vc_sound _ _ _ ?_; simp only [go_sem, hG, hOw]
  (repeat' with_reducible first | refine And.intro ?_ ?_ | intro _ | refine exP ?_ ?_); all_goals try omega
  all_goals first
    | (have hil : i < l.length := by omega
       have := hs _ (List.getElem_mem hil)
       first | omega | (simp; omega))
    | skip
  · rename_i a1 a2
    have e : joinS (l.take (i + 1)) = joinS (l.take i) ++ ⟨#[32]⟩ ++ l[i] := by
      rw [List.take_add_one, List.getElem?_eq_getElem (by omega)]
      exact join_snoc _ _ fun e => by
        have := congrArg List.length e
        rw [List.length_take, List.length_nil] at this
        omega
    exact ⟨i + 1, by omega, by omega, entA [] (by (simp only [go_sem]) <;> simp [e]) (by (simp only [go_sem, entH, entH1, nilArr, obOK]) <;> simp [e])⟩
  · rename_i a1 a2
    obtain rfl : i = 0 := by omega
    have h0 : 0 < l.length := by omega
    have e : joinS (l.take (0 + 1)) = joinS (l.take 0) ++ l[0] := by
      have q : l.take (0 + 1) = [l[0]] := by rw [List.take_add_one, List.getElem?_eq_getElem h0]; rfl
      rw [q, join_one, List.take_zero, join_nil]
      refine ba_ext ?_
      rw [ByteArray.data_append]; simp
    exact ⟨0 + 1, by omega, by omega, entA [] (by (simp only [go_sem]) <;> simp [e]) (by (simp only [go_sem, entH, entH1, nilArr, obOK]) <;> simp [e])⟩
  · rename_i a1
    rw [List.take_of_length_le (by omega)]
theorem RAt_ok (a b c : Int) (ha : 0 ≤ a ∧ a ≤ 9999) (hb : 0 ≤ b ∧ b ≤ 9999) (hc : 0 ≤ c ∧ c ≤ 9999) : Gives Tryz.prog 27 [.agg [i64 a, i64 b, i64 c]] (fun _ => .v (.string (joinS [numB a, numB b, numB c]))) := by
  have h32 : (#[32] : Array UInt8).size = 1 := rfl
  obtain ⟨x, rfl⟩ := Int.eq_ofNat_of_zero_le ha.1
  obtain ⟨y, rfl⟩ := Int.eq_ofNat_of_zero_le hb.1
  obtain ⟨z, rfl⟩ := Int.eq_ofNat_of_zero_le hc.1
  have s1 := numB_sz x (by omega)
  have s2 := numB_sz y (by omega)
  have s3 := numB_sz z (by omega)
  refine pure_intro (ow := fun _ => false) Tryz.func27 Tryz.ntmps27 rfl (by kernel_rfl) (by simp) rfl (by decide) fun G hG hOw hNm hB => ?_; simp only [go_sem, hG, hOw]
  refine semC_draw0 mixed (by kernel_rfl) ?_
  simp only [go_sem, hG, hOw]
  (repeat' with_reducible first | refine And.intro ?_ ?_ | intro _ | refine exP ?_ ?_); all_goals try omega
  refine ⟨_, callGivesA (RNumber_ok x (by omega)), ?_⟩
  simp only [go_sem, hG, hOw]
  (repeat' with_reducible first | refine And.intro ?_ ?_ | intro _ | refine exP ?_ ?_); all_goals try omega
  all_goals try (simp; omega)
  refine ⟨_, callGivesA (RNumber_ok y (by omega)), ?_⟩
  simp only [go_sem, hG, hOw]
  (repeat' with_reducible first | refine And.intro ?_ ?_ | intro _ | refine exP ?_ ?_); all_goals try omega
  all_goals try (simp; omega)
  refine ⟨_, callGivesA (RNumber_ok z (by omega)), ?_⟩
  simp only [go_sem, hG, hOw]
  (repeat' with_reducible first | refine And.intro ?_ ?_ | intro _ | refine exP ?_ ?_); all_goals try omega
  all_goals try (simp; omega)
  rw [show ([numB (x : Int), numB (y : Int), numB (z : Int)] : List ByteArray) = [numB (x : Int), numB (y : Int)] ++ [numB (z : Int)] from rfl, join_snoc _ _ (by simp), join_two]
  congr 1
  refine ba_ext ?_
  simp [ByteArray.data_append]
open Go Pm
set_option maxHeartbeats 4000000
set_option maxRecDepth 100000
theorem next_yes (lo : Nat) (s : ByteArray) (l : List ByteArray) (b : Bool) : Tri Tryz.prog 39 [.ptr 0 0] [(0, .box [strs lo (s :: l), bl b])] (fun _ => .ret (str s) [(0, .box [strs lo l, bl b])]) := by
  refine tri_intro (fun _ => false) Tryz.func39 Tryz.ntmps39 rfl (by kernel_rfl) (by simp) rfl (by decide) fun G hG hOw hNm => ?_; simp only [go_sem, hG, hOw]
  simp (maxSteps := 2000000) only [go_sem, hG, hOw, List.map_cons, List.length_cons, List.getElem_cons_zero]
  (repeat' with_reducible first | refine And.intro ?_ ?_ | intro _ | refine exP ?_ ?_); all_goals try omega
  exact ⟨[(0, some 0)], by (simp only [EndT, go_sem, entH, entH1, nilArr, obOK, apart, injR, coverR]) <;> simp⟩
theorem next_end (lo : Nat) (b : Bool) : Tri Tryz.prog 39 [.ptr 0 0] [(0, .box [strs lo [], bl b])] (fun _ => .ret (str ⟨#[]⟩) [(0, .box [strs lo [], bl true])]) := by
  refine tri_intro (fun _ => false) Tryz.func39 Tryz.ntmps39 rfl (by kernel_rfl) (by simp) rfl (by decide) fun G hG hOw hNm => ?_; simp only [go_sem, hG, hOw]
  (repeat' with_reducible first | refine And.intro ?_ ?_ | intro _ | refine exP ?_ ?_); all_goals try omega
  exact ⟨[(0, some 0)], by (simp only [EndT, go_sem, entH, entH1, nilArr, obOK, apart, injR, coverR]) <;> simp⟩
theorem rnum_yes (lo : Nat) (s : ByteArray) (l : List ByteArray) (b : Bool) (hs : s.size ≤ 100000) : Tri Tryz.prog 57 [.ptr 0 0] [(0, .box [strs lo (s :: l), bl b])] (fun _ => .ret (i64 ((valueS s).getD 0)) [(0, .box [strs lo l, bl (b || !(valueS s).isSome)])]) := by
  refine tri_intro (fun _ => false) Tryz.func57 Tryz.ntmps57 rfl (by kernel_rfl) (by simp) rfl (by decide) fun G hG hOw hNm => ?_; simp only [go_sem, hG, hOw]
  (repeat' with_reducible first | refine And.intro ?_ ?_ | intro _ | refine exP ?_ ?_); all_goals try omega
  refine call_tri [(0, 0)] [] (next_yes lo s l b) (by (simp only [go_sem]) <;> simp) (by (simp only [go_sem, entH, entH1, nilArr, obOK]) <;> simp) (by simp [injR, apart, toR]) (by simp [coverR, usH, toR]) (by simp [uniqP, lkR, toR]) (by simp [chk, hG]) ?_
  simp only [go_sem, hG, hOw]
  (repeat' with_reducible first | refine And.intro ?_ ?_ | intro _ | refine exP ?_ ?_); all_goals try omega
  refine call_pureA (RValue_ok s hs) ?_
  cases b with
  | true =>
    simp only [go_sem, hG, hOw]
    (repeat' with_reducible first | refine And.intro ?_ ?_ | intro _ | refine exP ?_ ?_); all_goals try omega
    exact ⟨[(0, some 0)], by (simp only [EndT, go_sem, entH, entH1, nilArr, obOK, apart, injR, coverR]) <;> simp⟩
  | false =>
    simp only [go_sem, hG, hOw]
    (repeat' with_reducible first | refine And.intro ?_ ?_ | intro _ | refine exP ?_ ?_); all_goals try omega
    exact ⟨[(0, some 0)], by (simp only [EndT, go_sem, entH, entH1, nilArr, obOK, apart, injR, coverR]) <;> simp⟩
theorem rnum_end (lo : Nat) (b : Bool) : Tri Tryz.prog 57 [.ptr 0 0] [(0, .box [strs lo [], bl b])] (fun _ => .ret (i64 0) [(0, .box [strs lo [], bl true])]) := by
  refine tri_intro (fun _ => false) Tryz.func57 Tryz.ntmps57 rfl (by kernel_rfl) (by simp) rfl (by decide) fun G hG hOw hNm => ?_; simp only [go_sem, hG, hOw]
  (repeat' with_reducible first | refine And.intro ?_ ?_ | intro _ | refine exP ?_ ?_); all_goals try omega
  refine call_tri [(0, 0)] [] (next_end lo b) (by (simp only [go_sem]) <;> simp) (by (simp only [go_sem, entH, entH1, nilArr, obOK]) <;> simp) (by simp [injR, apart, toR]) (by simp [coverR, usH, toR]) (by simp [uniqP, lkR, toR]) (by simp [chk, hG]) ?_
  simp only [go_sem, hG, hOw]
  (repeat' with_reducible first | refine And.intro ?_ ?_ | intro _ | refine exP ?_ ?_); all_goals try omega
  refine call_pureA (RValue_ok ⟨#[]⟩ (by decide)) ?_
  rw [show valueS ⟨#[]⟩ = none by decide]
  simp only [go_sem, hG, hOw]
  (repeat' with_reducible first | refine And.intro ?_ ?_ | intro _ | refine exP ?_ ?_); all_goals try omega
  exact ⟨[(0, some 0)], by (simp only [EndT, go_sem, entH, entH1, nilArr, obOK, apart, injR, coverR]) <;> simp⟩
theorem rword_yes (lo : Nat) (s : ByteArray) (l : List ByteArray) (b : Bool) (hs : s.size ≤ 100000) : Tri Tryz.prog 41 [.ptr 0 0] [(0, .box [strs lo (s :: l), bl b])] (fun _ => .ret (str s) [(0, .box [strs lo l, bl (b || !wordB s)])]) := by
  refine tri_intro (fun _ => false) Tryz.func41 Tryz.ntmps41 rfl (by kernel_rfl) (by simp) rfl (by decide) fun G hG hOw hNm => ?_; simp only [go_sem, hG, hOw]
  (repeat' with_reducible first | refine And.intro ?_ ?_ | intro _ | refine exP ?_ ?_); all_goals try omega
  refine call_tri [(0, 0)] [] (next_yes lo s l b) (by (simp only [go_sem]) <;> simp) (by (simp only [go_sem, entH, entH1, nilArr, obOK]) <;> simp) (by simp [injR, apart, toR]) (by simp [coverR, usH, toR]) (by simp [uniqP, lkR, toR]) (by simp [chk, hG]) ?_
  cases b with
  | true =>
    simp only [go_sem, hG, hOw]
    (repeat' with_reducible first | refine And.intro ?_ ?_ | intro _ | refine exP ?_ ?_); all_goals try omega
    exact ⟨[(0, some 0)], by (simp only [EndT, go_sem, entH, entH1, nilArr, obOK, apart, injR, coverR]) <;> simp⟩
  | false =>
    simp only [go_sem, hG, hOw]
    (repeat' with_reducible first | refine And.intro ?_ ?_ | intro _ | refine exP ?_ ?_); all_goals try omega
    refine call_pureA (Word_ok s (by omega)) ?_
    simp only [go_sem, hG, hOw]
    (repeat' with_reducible first | refine And.intro ?_ ?_ | intro _ | refine exP ?_ ?_); all_goals try omega
    exact ⟨[(0, some 0)], by (simp only [EndT, go_sem, entH, entH1, nilArr, obOK, apart, injR, coverR]) <;> simp⟩
theorem rword_end (lo : Nat) (b : Bool) : Tri Tryz.prog 41 [.ptr 0 0] [(0, .box [strs lo [], bl b])] (fun _ => .ret (str ⟨#[]⟩) [(0, .box [strs lo [], bl true])]) := by
  refine tri_intro (fun _ => false) Tryz.func41 Tryz.ntmps41 rfl (by kernel_rfl) (by simp) rfl (by decide) fun G hG hOw hNm => ?_; simp only [go_sem, hG, hOw]
  (repeat' with_reducible first | refine And.intro ?_ ?_ | intro _ | refine exP ?_ ?_); all_goals try omega
  refine call_tri [(0, 0)] [] (next_end lo b) (by (simp only [go_sem]) <;> simp) (by (simp only [go_sem, entH, entH1, nilArr, obOK]) <;> simp) (by simp [injR, apart, toR]) (by simp [coverR, usH, toR]) (by simp [uniqP, lkR, toR]) (by simp [chk, hG]) ?_
  simp only [go_sem, hG, hOw]
  (repeat' with_reducible first | refine And.intro ?_ ?_ | intro _ | refine exP ?_ ?_); all_goals try omega
  exact ⟨[(0, some 0)], by (simp only [EndT, go_sem, entH, entH1, nilArr, obOK, apart, injR, coverR]) <;> simp⟩
theorem rright_ok (lo : Nat) (l : List ByteArray) (b : Bool) : Tri Tryz.prog 44 [.ptr 0 0] [(0, .box [strs lo l, bl b])] (fun _ => .ret (bl (!b && l.isEmpty)) [(0, .box [strs lo l, bl b])]) := by
  refine tri_intro (fun _ => false) Tryz.func44 Tryz.ntmps44 rfl (by kernel_rfl) (by simp) rfl (by decide) fun G hG hOw hNm => ?_; simp only [go_sem, hG, hOw]
  cases b with
  | true =>
    simp only [go_sem, hG, hOw]
    (repeat' with_reducible first | refine And.intro ?_ ?_ | intro _ | refine exP ?_ ?_); all_goals try omega
    exact ⟨[(0, some 0)], by (simp only [EndT, go_sem, entH, entH1, nilArr, obOK, apart, injR, coverR]) <;> simp⟩
  | false =>
    cases l with
    | nil =>
      simp only [go_sem, hG, hOw]
      (repeat' with_reducible first | refine And.intro ?_ ?_ | intro _ | refine exP ?_ ?_); all_goals try omega
      exact ⟨[(0, some 0)], by (simp only [EndT, go_sem, entH, entH1, nilArr, obOK, apart, injR, coverR]) <;> simp⟩
    | cons s r =>
      have h0 : ¬ (r.length : Int) + 1 = 0 := by omega
      simp only [go_sem, hG, hOw]
      (repeat' with_reducible first | refine And.intro ?_ ?_ | intro _ | refine exP ?_ ?_); all_goals try omega
      exact ⟨[(0, some 0)], by (simp only [EndT, go_sem, entH, entH1, nilArr, obOK, apart, injR, coverR]) <;> simp [h0]⟩
def wordsR (l : List ByteArray) : List ByteArray := if l.isEmpty then [⟨#[]⟩] else l
theorem rwords_ok (lo : Nat) (l : List ByteArray) (b : Bool) (hl : l.length ≤ 1000) (hs : ∀ s ∈ l, s.size ≤ 100000) : Tri Tryz.prog 43 [.ptr 0 0] [(0, .box [strs lo l, bl b])] (fun n => .ret (strs n (wordsR l)) [(0, .box [strs lo [], bl (b || !wordsB l)])]) := by
  refine tri_intro (fun _ => false) Tryz.func43 Tryz.ntmps43 rfl (by kernel_rfl) (by simp) rfl (by decide) fun G hG hOw hNm => ?_; simp only [go_sem, hG, hOw]
  (repeat' with_reducible first | refine And.intro ?_ ?_ | intro _ | refine exP ?_ ?_); all_goals try omega
  cases l with
  | nil =>
    refine call_tri [(0, 0)] [] (rword_end lo b) (by (simp only [go_sem]) <;> simp) (by (simp only [go_sem, entH, entH1, nilArr, obOK]) <;> simp) (by simp [injR, apart, toR]) (by simp [coverR, usH, toR]) (by simp [uniqP, lkR, toR]) (by simp [chk, hG]) ?_
    simp only [go_sem, hG, hOw]
    (repeat' with_reducible first | refine And.intro ?_ ?_ | intro _ | refine exP ?_ ?_); all_goals try omega
    refine semC_cut (fun _ : Unit => St.of [(0, .ptr 0 0), (3, strs G.lo [⟨#[]⟩])] [(0, .box [strs lo [], bl true])]) (fun _ => True) ?_ ?_
    · refine semC_loop (fun _ : Unit => St.of [(0, .ptr 0 0), (3, .own 9 0 1 1)] [(0, .box [strs lo [], bl true]), (9, .arr 9 1 [[.v (.string ⟨#[]⟩)]])]) (fun _ => True) (fun _ => 0) () trivial (entA [(0, some 0), (9, some 8)] (by (simp only [go_sem]) <;> simp [strE]) (by (simp only [go_sem, entH, entH1, nilArr, obOK]) <;> simp [strE])) ?_
      rintro ⟨⟩ -
      refine vc_sound _ _ _ ?_; simp only [go_sem, hG, hOw]
      (repeat' with_reducible first | refine And.intro ?_ ?_ | intro _ | refine exP ?_ ?_); all_goals try omega
      exact ⟨(), fun a w h => (entA [(0, some 0)] (by (simp only [go_sem]) <;> simp [strE]) (by (simp only [go_sem, entH, entH1, nilArr, obOK]) <;> simp [strE])) a w (frz_ent (fun i => i == 9) a w h)⟩
    · rintro ⟨⟩ -
      simp only [go_sem, hG, hOw]
      (repeat' with_reducible first | refine And.intro ?_ ?_ | intro _ | refine exP ?_ ?_); all_goals try omega
      exact ⟨[(0, some 0)], by (simp only [EndT, go_sem, entH, entH1, nilArr, obOK, apart, injR, coverR]) <;> simp [wordsB,wordsR,strE]⟩
  | cons s r =>
    refine call_tri [(0, 0)] [] (rword_yes lo s r b (hs s (by simp))) (by (simp only [go_sem]) <;> simp) (by (simp only [go_sem, entH, entH1, nilArr, obOK]) <;> simp) (by simp [injR, apart, toR]) (by simp [coverR, usH, toR]) (by simp [uniqP, lkR, toR]) (by simp [chk, hG]) ?_
    simp only [go_sem, hG, hOw]
    (repeat' with_reducible first | refine And.intro ?_ ?_ | intro _ | refine exP ?_ ?_); all_goals try omega
    obtain ⟨l, hl'⟩ : ∃ l, l = s :: r := ⟨_, rfl⟩
    rw [← hl'] at hl hs
    have hW : wordsR l = l := by rw [hl']; rfl
    have hB : wordsB l = l.all wordB := by rw [hl']; unfold wordsB; simp
    have h0 : 0 < l.length := by rw [hl']; simp
    have hd1 : l.drop 1 = r := by rw [hl']; rfl
    have ht1 : l.take 1 = [s] := by rw [hl']; rfl
    have ha1 : (l.take 1).all wordB = wordB s := by rw [ht1]; simp
    rw [← hl', hW, hB]
    refine semC_cut (fun _ : Unit => St.of [(0, .ptr 0 0), (3, strs G.lo l)] [(0, .box [strs lo [], bl (b || !l.all wordB)])]) (fun _ => True) ?_ ?_
    · refine semC_loop (fun k : Nat => St.of [(0, .ptr 0 0), (3, .own 9 0 k 1)] [(0, .box [strs lo (l.drop k), bl (b || !(l.take k).all wordB)]), (9, .arr 9 1 ((l.take k).map strE))]) (fun k => 1 ≤ k ∧ k ≤ l.length) (fun k => l.length - k) 1 ⟨by omega, by omega⟩ (by simp only [hd1, ha1, ht1]; exact entA [(0, some 0), (9, some 8)]) ?_
      rintro k ⟨h1, h2⟩
      refine vc_sound _ _ _ ?_; simp only [go_sem, hG, hOw]
      (repeat' with_reducible first | refine And.intro ?_ ?_ | intro _ | refine exP ?_ ?_); all_goals try omega
      · rename_i hlt
        have hk : k < l.length := by simp at hlt; omega
        rw [List.drop_eq_getElem_cons hk]
        have hU := rword_yes lo l[k] (l.drop (k + 1)) (b || !(l.take k).all wordB) (hs _ (List.getElem_mem hk))
        refine call_tri [(0, 0)] [] (hU) (by (simp only [go_sem]) <;> simp) (by (simp only [go_sem, entH, entH1, nilArr, obOK]) <;> simp) (by simp [injR, apart, toR]) (by simp [coverR, usH, toR]) (by simp [uniqP, lkR, toR]) (by simp [chk, hG]) ?_
        simp only [go_sem, hG, hOw]
        (repeat' with_reducible first | refine And.intro ?_ ?_ | intro _ | refine exP ?_ ?_); all_goals try omega
        have e : (b || !(l.take k).all wordB || !wordB l[k]) = (b || !(l.take (k + 1)).all wordB) := by
          rw [List.take_add_one, List.getElem?_eq_getElem hk, List.all_append]
          simp [Bool.or_assoc]
        exact ⟨k + 1, ⟨by omega, by omega⟩, by omega, entA [(0, some 0), (9, some 19)] (by (simp only [go_sem]) <;> simp [e,take_snoc_map strE l k hk,strE,Nat.min_eq_left h2]) (by (simp only [go_sem, entH, entH1, nilArr, obOK]) <;> simp [e,take_snoc_map strE l k hk,strE,Nat.min_eq_left h2])⟩
      · rename_i hlt
        have hk : k = l.length := by simp at hlt; omega
        subst hk
        rw [List.take_length, List.drop_length]
        exact ⟨(), fun a w h => (entA [(0, some 0)]) a w (frz_ent (fun i => i == 9) a w h)⟩
    · rintro ⟨⟩ -
      simp only [go_sem, hG, hOw]
      (repeat' with_reducible first | refine And.intro ?_ ?_ | intro _ | refine exP ?_ ?_); all_goals try omega
      exact ⟨[(0, some 0)], by (simp only [EndT, go_sem, entH, entH1, nilArr, obOK, apart, injR, coverR]) <;> simp⟩
open Go Pm
set_option maxHeartbeats 4000000
set_option maxRecDepth 100000
open Go Pm
set_option maxHeartbeats 4000000
set_option maxRecDepth 100000
end Go.Proofs.YtppcbmpiphhphaaGreatDoor
