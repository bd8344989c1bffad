import Derived.Lib.ItoaNum
import Derived.Lib.AtoiAllCases
import Derived.Lib.SplitLaws
import Derived.Test.YtppcbmpiphhphaaGreatDoorQU10
namespace Go.Proofs.YtppcbmpiphhphaaGreatDoor
open Go Pm
set_option linter.unusedSimpArgs false
set_option linter.unusedVariables false
theorem ba_ext {a b : ByteArray} (h : a.data.toList = b.data.toList) : a = b := by
  cases a with
  | mk a => cases b with
    | mk b => congr 1; exact Array.toList_inj.1 h
def bA (l : List UInt8) : ByteArray := ⟨l.toArray⟩
theorem bA_list (l : List UInt8) : (bA l).data.toList = l := by simp [bA]
theorem bA_size (l : List UInt8) : (bA l).size = l.length := by simp [bA, ByteArray.size]
theorem bA_self (s : ByteArray) : bA s.data.toList = s := ba_ext (bA_list _)
def partsU : List UInt8 → List (List UInt8)
  | [] => [[]]
  | b :: r => if b = 32 then [] :: partsU r else match partsU r with
    | [] => [[b]]
    | x :: l => (b :: x) :: l
theorem partsU_ne : ∀ l, partsU l ≠ []
  | [] => by simp [partsU]
  | b :: r => by
    unfold partsU
    split
    · simp
    · split <;> simp
def addB (b : UInt8) (l : List (List UInt8)) : List (List UInt8) := l.dropLast ++ [l.getLastD [] ++ [b]]
theorem addB_cons (b : UInt8) (x : List UInt8) (l : List (List UInt8)) (h : l ≠ []) : addB b (x :: l) = x :: addB b l := by
  cases l with
  | nil => exact (h rfl).elim
  | cons y r => simp [addB, List.getLastD]
theorem partsU_snoc (b : UInt8) : ∀ l, partsU (l ++ [b]) = if b = 32 then partsU l ++ [[]] else addB b (partsU l)
  | [] => by
    by_cases h : b = 32 <;> simp [partsU, h, addB]
  | c :: r => by
    have ih := partsU_snoc b r
    have hne := partsU_ne r
    rw [List.cons_append, partsU, ih, partsU]
    by_cases hc : c = 32
    · rw [if_pos hc, if_pos hc]
      by_cases hb : b = 32
      · simp [hb]
      · rw [if_neg hb, if_neg hb, addB_cons _ _ _ hne]
    · rw [if_neg hc, if_neg hc]
      cases hp : partsU r with
      | nil => exact (hne hp).elim
      | cons x l =>
        by_cases hb : b = 32
        · simp [hb]
        · rw [if_neg hb, if_neg hb]
          cases l with
          | nil => simp [addB, List.getLastD]
          | cons y q => simp [addB, List.getLastD]
def partsS (s : ByteArray) : List ByteArray := (partsU s.data.toList).map bA
theorem partsS_ne (s : ByteArray) : partsS s ≠ [] := by simp [partsS, partsU_ne]
theorem partsS_pos (s : ByteArray) : 0 < (partsS s).length := List.length_pos_iff.2 (partsS_ne s)
theorem partsU_len : ∀ l, (partsU l).length ≤ l.length + 1
  | [] => by simp [partsU]
  | b :: r => by
    have := partsU_len r
    unfold partsU
    split
    · simp; omega
    · split
      · simp
      · rename_i e; rw [e] at this; simp at this ⊢; omega
theorem partsS_len (s : ByteArray) : (partsS s).length ≤ s.size + 1 := by
  have := partsU_len s.data.toList
  simpa [partsS] using this
theorem partsU_size : ∀ l, ∀ x ∈ partsU l, x.length ≤ l.length
  | [] => by simp [partsU]
  | b :: r => by
    have ih := partsU_size r
    unfold partsU
    split
    · intro x hx
      rcases List.mem_cons.1 hx with rfl | hx
      · simp
      · have := ih x hx; simp; omega
    · split
      · simp
      · rename_i y l e
        intro x hx
        rcases List.mem_cons.1 hx with rfl | hx
        · have := ih y (by rw [e]; simp); simp; omega
        · have := ih x (by rw [e]; simp [hx]); simp; omega
theorem partsS_size (s : ByteArray) : ∀ x ∈ partsS s, x.size ≤ s.size := by
  intro x hx
  simp only [partsS, List.mem_map] at hx
  obtain ⟨y, hy, rfl⟩ := hx
  have := partsU_size _ y hy
  rw [bA_size]; simpa using this
def numB (n : Int) : ByteArray := bA (Lib.itoa n)
def digB (b : UInt8) : Bool := decide (48 ≤ (b.toNat : Int)) && decide ((b.toNat : Int) ≤ 57)
def valN (l : List UInt8) : Int := l.foldl (fun n b => 10 * n + ((b.toNat : Int) - 48)) 0
def valueU (l : List UInt8) : Option Int := if 1 ≤ l.length ∧ l.length ≤ 4 ∧ ¬ (1 < l.length ∧ l.head? = some 48) ∧ l.all digB = true then some (valN l) else none
def valueS (s : ByteArray) : Option Int := valueU s.data.toList
theorem valN_snoc (l : List UInt8) (b : UInt8) : valN (l ++ [b]) = 10 * valN l + ((b.toNat : Int) - 48) := by simp [valN]
theorem dig_lo {b : UInt8} (h : digB b = true) : 48 ≤ b.toNat ∧ b.toNat ≤ 57 := by simp [digB] at h; omega
theorem ofNat_b {b : UInt8} {n : Nat} (h : b.toNat = n) : UInt8.ofNat n = b := by rw [← h]; exact UInt8.ofNat_toNat
theorem decDigits_ten (n : Nat) (h : ¬ n < 10) : Lib.decDigits n = Lib.decDigits (n / 10) ++ [UInt8.ofNat (48 + n % 10)] := by rw [Lib.decDigits, dif_neg h]
theorem pu {acc n : Nat} {b : UInt8} {r : List UInt8} (hb : b.toNat = 48 + n) (hn : n ≤ 9) (ha : acc ≤ 1000) : Lib.parseUint10 acc (b :: r) = Lib.parseUint10 (acc * 10 + n) r := by
  rw [Lib.parseUint10, if_pos (by omega), if_neg (by omega), if_neg (by omega)]
  congr 1; omega
theorem itoa_nat (n : Nat) : Lib.itoa (n : Int) = Lib.decDigits n := by unfold Lib.itoa; rw [if_neg (by omega), Int.toNat_natCast]
theorem atoi_dig {a : UInt8} {r : List UInt8} (h : digB a = true) : Lib.atoiAll (a :: r) = Lib.signless (Lib.parseUint10 0 (a :: r)) := by
  have := dig_lo h
  rw [Lib.atoiAll_plain _ _ (by omega) (by omega)]
  simp [Lib.parseMag]
theorem sg_ok {n : Nat} (h : n ≤ 9999) : Lib.signless (.ok n) = .ok (n : Int) := by simp [Lib.signless]; omega
theorem dig_n {b : UInt8} (h : digB b = true) : ∃ n, b.toNat = 48 + n ∧ n ≤ 9 := ⟨b.toNat - 48, by have := dig_lo h; omega⟩
theorem valueU_inv {l : List UInt8} {v : Int} (h : valueU l = some v) : Lib.itoa v = l ∧ 0 ≤ v ∧ v ≤ 9999 ∧ Lib.atoiAll l = .ok v := by
  unfold valueU at h
  split at h
  · rename_i hh
    obtain ⟨h1, h2, h3, h4⟩ := hh
    cases h
    match l, h1, h2, h3, h4 with
    | [a], _, _, h3, h4 =>
      simp at h4
      obtain ⟨n, hn, n9⟩ := dig_n h4
      have hv : valN [a] = (n : Int) := by simp [valN]; omega
      have e : Lib.decDigits n = [a] := by rw [Lib.decDigits_one (by omega), ofNat_b hn]
      rw [hv, itoa_nat, e, atoi_dig h4, pu hn n9 (by omega)]
      refine ⟨rfl, by omega, by omega, ?_⟩
      rw [Lib.parseUint10, sg_ok (by omega)]
      congr 1; omega
    | [a, b], _, _, h3, h4 =>
      simp at h4 h3
      obtain ⟨n, hn, n9⟩ := dig_n h4.1
      obtain ⟨m, hm, m9⟩ := dig_n h4.2
      have h0 : a.toNat ≠ 48 := fun e => h3 (UInt8.toNat_inj.1 e)
      have hv : valN [a, b] = ((10 * n + m : Nat) : Int) := by simp [valN]; omega
      have e : Lib.decDigits (10 * n + m) = [a, b] := by
        rw [decDigits_ten _ (by omega), show (10 * n + m) / 10 = n by omega, show (10 * n + m) % 10 = m by omega, Lib.decDigits_one (by omega), ofNat_b hn, ofNat_b hm]; rfl
      rw [hv, itoa_nat, e, atoi_dig h4.1, pu hn n9 (by omega), pu hm m9 (by omega)]
      refine ⟨rfl, by omega, by omega, ?_⟩
      rw [Lib.parseUint10, sg_ok (by omega)]
      congr 1; omega
    | [a, b, c], _, _, h3, h4 =>
      simp at h4 h3
      obtain ⟨n, hn, n9⟩ := dig_n h4.1
      obtain ⟨m, hm, m9⟩ := dig_n h4.2.1
      obtain ⟨k, hk, k9⟩ := dig_n h4.2.2
      have h0 : a.toNat ≠ 48 := fun e => h3 (UInt8.toNat_inj.1 e)
      have hv : valN [a, b, c] = ((10 * (10 * n + m) + k : Nat) : Int) := by simp [valN]; omega
      have e : Lib.decDigits (10 * (10 * n + m) + k) = [a, b, c] := by
        rw [decDigits_ten _ (by omega), show (10 * (10 * n + m) + k) / 10 = 10 * n + m by omega, show (10 * (10 * n + m) + k) % 10 = k by omega, decDigits_ten _ (by omega), show (10 * n + m) / 10 = n by omega, show (10 * n + m) % 10 = m by omega, Lib.decDigits_one (by omega), ofNat_b hn, ofNat_b hm, ofNat_b hk]; rfl
      rw [hv, itoa_nat, e, atoi_dig h4.1, pu hn n9 (by omega), pu hm m9 (by omega), pu hk k9 (by omega)]
      refine ⟨rfl, by omega, by omega, ?_⟩
      rw [Lib.parseUint10, sg_ok (by omega)]
      congr 1; omega
    | [a, b, c, d], _, _, h3, h4 =>
      simp at h4 h3
      obtain ⟨n, hn, n9⟩ := dig_n h4.1
      obtain ⟨m, hm, m9⟩ := dig_n h4.2.1
      obtain ⟨k, hk, k9⟩ := dig_n h4.2.2.1
      obtain ⟨j, hj, j9⟩ := dig_n h4.2.2.2
      have h0 : a.toNat ≠ 48 := fun e => h3 (UInt8.toNat_inj.1 e)
      have hv : valN [a, b, c, d] = ((10 * (10 * (10 * n + m) + k) + j : Nat) : Int) := by simp [valN]; omega
      have e : Lib.decDigits (10 * (10 * (10 * n + m) + k) + j) = [a, b, c, d] := by
        rw [decDigits_ten _ (by omega), show (10 * (10 * (10 * n + m) + k) + j) / 10 = 10 * (10 * n + m) + k by omega, show (10 * (10 * (10 * n + m) + k) + j) % 10 = j by omega, decDigits_ten _ (by omega), show (10 * (10 * n + m) + k) / 10 = 10 * n + m by omega, show (10 * (10 * n + m) + k) % 10 = k by omega, decDigits_ten _ (by omega), show (10 * n + m) / 10 = n by omega, show (10 * n + m) % 10 = m by omega, Lib.decDigits_one (by omega), ofNat_b hn, ofNat_b hm, ofNat_b hk, ofNat_b hj]; rfl
      rw [hv, itoa_nat, e, atoi_dig h4.1, pu hn n9 (by omega), pu hm m9 (by omega), pu hk k9 (by omega), pu hj j9 (by omega)]
      refine ⟨rfl, by omega, by omega, ?_⟩
      rw [Lib.parseUint10, sg_ok (by omega)]
      congr 1; omega
  · cases h
theorem dig_of (n : Nat) (h : n < 10) : digB (UInt8.ofNat (48 + n)) = true ∧ ((UInt8.ofNat (48 + n)).toNat : Int) - 48 = n := by
  have : (UInt8.ofNat (48 + n)).toNat = 48 + n := by simp; omega
  unfold digB
  rw [this]
  simp
  omega
theorem dig_ne (n : Nat) (h : n < 10) (h0 : n ≠ 0) : UInt8.ofNat (48 + n) ≠ 48 := fun e => by
  have h2 : (UInt8.ofNat (48 + n)).toNat = 48 + n := by simp; omega
  rw [e] at h2
  have : (48 : UInt8).toNat = 48 := rfl
  omega
theorem valueU_itoa (v : Int) (h0 : 0 ≤ v) (h1 : v ≤ 9999) : valueU (Lib.itoa v) = some v := by
  obtain ⟨n, rfl⟩ := Int.eq_ofNat_of_zero_le h0
  have hi : Lib.itoa ((n : Nat) : Int) = Lib.decDigits n := by unfold Lib.itoa; rw [if_neg (by omega), Int.toNat_natCast]
  rw [hi]
  have hn : n ≤ 9999 := by omega
  by_cases c1 : n < 10
  · rw [Lib.decDigits_one c1]
    obtain ⟨a1, a2⟩ := dig_of n c1
    unfold valueU
    rw [if_pos ⟨by simp, by simp, by simp, by simp [-UInt8.ofNat_add, a1]⟩]
    simp only [valN, List.foldl, Option.some.injEq]
    omega
  by_cases c2 : n < 100
  · rw [decDigits_ten _ c1, Lib.decDigits_one (by omega)]
    obtain ⟨a1, a2⟩ := dig_of (n / 10) (by omega)
    obtain ⟨b1, b2⟩ := dig_of (n % 10) (by omega)
    have hne := dig_ne (n / 10) (by omega) (by omega)
    unfold valueU
    rw [if_pos ⟨by simp, by simp, by simp [-UInt8.ofNat_add, hne], by simp [-UInt8.ofNat_add, a1, b1]⟩]
    simp only [valN, List.foldl, Option.some.injEq, List.cons_append, List.nil_append]
    omega
  by_cases c3 : n < 1000
  · rw [decDigits_ten _ c1, decDigits_ten (n / 10) (by omega), Lib.decDigits_one (by omega)]
    obtain ⟨a1, a2⟩ := dig_of (n / 10 / 10) (by omega)
    obtain ⟨b1, b2⟩ := dig_of (n / 10 % 10) (by omega)
    obtain ⟨d1, d2⟩ := dig_of (n % 10) (by omega)
    have hne := dig_ne (n / 10 / 10) (by omega) (by omega)
    unfold valueU
    rw [if_pos ⟨by simp, by simp, by simp [-UInt8.ofNat_add, hne], by simp [-UInt8.ofNat_add, a1, b1, d1]⟩]
    simp only [valN, List.foldl, Option.some.injEq, List.cons_append, List.nil_append]
    omega
  · rw [decDigits_ten _ c1, decDigits_ten (n / 10) (by omega), decDigits_ten (n / 10 / 10) (by omega), Lib.decDigits_one (by omega)]
    obtain ⟨a1, a2⟩ := dig_of (n / 10 / 10 / 10) (by omega)
    obtain ⟨b1, b2⟩ := dig_of (n / 10 / 10 % 10) (by omega)
    obtain ⟨d1, d2⟩ := dig_of (n / 10 % 10) (by omega)
    obtain ⟨e1, e2⟩ := dig_of (n % 10) (by omega)
    have hne := dig_ne (n / 10 / 10 / 10) (by omega) (by omega)
    unfold valueU
    rw [if_pos ⟨by simp, by simp, by simp [-UInt8.ofNat_add, hne], by simp [-UInt8.ofNat_add, a1, b1, d1, e1]⟩]
    simp only [valN, List.foldl, Option.some.injEq, List.cons_append, List.nil_append]
    omega
theorem valueS_ok (s : ByteArray) (v : Int) (h : Lib.atoiAll s.data.toList = .ok v) : (inB v 0 9999 = true ∧ numB v = s) ∧ valueS s = some v ∨ ¬ (inB v 0 9999 = true ∧ numB v = s) ∧ valueS s = none := by
  by_cases c : inB v 0 9999 = true ∧ numB v = s
  · refine .inl ⟨c, ?_⟩
    have hh := c.1
    simp [inB] at hh
    have e : Lib.itoa v = s.data.toList := by rw [← c.2, numB, bA_list]
    rw [valueS, ← e]
    exact valueU_itoa v hh.1 hh.2
  · refine .inr ⟨c, ?_⟩
    cases hv : valueS s with
    | none => rfl
    | some u =>
      obtain ⟨h1, h2, h3, h4⟩ := valueU_inv hv
      rw [h4] at h
      injection h with h
      subst h
      exact (c ⟨by simp [inB, h2, h3], by rw [numB, h1, bA_self]⟩).elim
def joinS (l : List ByteArray) : ByteArray := bA ([32].intercalate (l.map (·.data.toList)))
def wordsB (l : List ByteArray) : Bool := decide (0 < l.length) && l.all wordB
def chapterS : ByteArray := ⟨#[99, 104, 97, 112, 116, 101, 114]⟩
def lineS : ByteArray := ⟨#[108, 105, 110, 101]⟩
def copyS : ByteArray := ⟨#[99, 111, 112, 121]⟩
def omitS : ByteArray := ⟨#[111, 109, 105, 116]⟩
def putS : ByteArray := ⟨#[112, 117, 116]⟩
def otherS : ByteArray := ⟨#[111, 116, 104, 101, 114]⟩
end Go.Proofs.YtppcbmpiphhphaaGreatDoor
