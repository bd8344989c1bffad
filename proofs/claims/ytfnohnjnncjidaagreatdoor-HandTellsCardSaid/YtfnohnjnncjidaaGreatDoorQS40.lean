import Derived.Test.YtfnohnjnncjidaaGreatDoorQS17
import Derived.Test.YtfnohnjnncjidaaGreatDoorQS25
import Derived.Test.YtfnohnjnncjidaaGreatDoorQS39
namespace Go.Proofs.YtfnohnjnncjidaaGreatDoor
open Go Pm
set_option linter.unusedSimpArgs false
set_option linter.unusedVariables false
set_option maxHeartbeats 4000000
set_option maxRecDepth 100000
open Go Pm
structure PrfOK (d : Nat → Bool) (k : Nat) : Prop where
  mem : ∀ p ∈ prf1 d k, ∃ i : Nat, p = ((i : Int), (i : Int) + 1) ∧ i < k ∧ d i = true ∧ p.2 ≤ prf2 d k
  pw : (prf1 d k).Pairwise fun p q => p.2 < q.1
  last : prf2 d k = -1 ∨ ∃ p ∈ prf1 d k, p.2 = prf2 d k
  cov : ∀ i, i < k → d i = true → ∃ p ∈ prf1 d k, p.2 = i ∨ p.2 = i + 1
open Go Pm
set_option maxHeartbeats 4000000
set_option maxRecDepth 100000
open Go Pm
structure Later (r x : Ro) (h : Int) : Prop where
  sn : x.shares.length = r.shares.length
  hn : x.helpers.length = r.helpers.length
  s : ∀ j (h1 : j < r.shares.length) (h2 : j < x.shares.length), x.shares[j].helper = r.shares[j].helper ∧ (r.shares[j].helper = h → r.shares[j].sent ≤ x.shares[j].sent) ∧ x.shares[j].fr = r.shares[j].fr ∧ x.shares[j].to = r.shares[j].to
  h : ∀ (h1 : h.toNat < r.helpers.length) (h2 : h.toNat < x.helpers.length), r.helpers[h.toNat].post ≤ x.helpers[h.toNat].post ∧ x.helpers[h.toNat].rate ≤ r.helpers[h.toNat].rate
open Go Pm
set_option maxHeartbeats 4000000
set_option maxRecDepth 100000
open Go Pm
set_option maxHeartbeats 4000000
set_option maxRecDepth 100000
open Go Pm
set_option maxHeartbeats 4000000
set_option maxRecDepth 100000
def sumI (r : Ro) (ps y : List Int) (h : Nat) : Nat → Int
  | 0 => 0
  | k + 1 => if getI y k = h then sumI r ps y h k + wrI r (getI ps k) h else sumI r ps y h k
theorem wrL_sum (r : Ro) (ps y : List Int) (hy : ∀ a ∈ y, 0 ≤ a ∧ a < r.helpers.length) (h : Nat) (hh : h < r.helpers.length) : ∀ k, k ≤ y.length → getI (wrL r ps y k) h = sumI r ps y h k
  | 0, _ => by simp [wrL, sumI, getI, List.getElem?_replicate, hh]
  | k + 1, hk => by
    have ih := wrL_sum r ps y hy h hh k (by omega)
    have hb := hy _ (List.getElem_mem (show k < y.length by omega))
    have e := getI_at (show k < y.length by omega)
    simp only [wrL, wrS, sumI]
    rw [getI_set _ _ _ _ (by rw [wrL_len, e]; omega), e]
    by_cases q : y[k] = (h : Int)
    · rw [if_pos (by omega), if_pos q, q, Int.toNat_natCast, ih]
    · rw [if_neg (by omega), if_neg q, ih]
def lastS (r : Ro) (ps y : List Int) (day : Int) : Nat → Int
  | 0 => day
  | h + 1 => if 0 < sumI r ps y h y.length then (if lastS r ps y day h < day + sumI r ps y h y.length + 2 * ((r.helpers[h]?).getD ⟨0, 0, 0⟩).post then day + sumI r ps y h y.length + 2 * ((r.helpers[h]?).getD ⟨0, 0, 0⟩).post else lastS r ps y day h) else lastS r ps y day h
theorem lastS_eq (r : Ro) (ps y : List Int) (hy : ∀ a ∈ y, 0 ≤ a ∧ a < r.helpers.length) (day : Int) : ∀ h, h ≤ r.helpers.length → lastI r (wrL r ps y y.length) day h = lastS r ps y day h
  | 0, _ => rfl
  | h + 1, hh => by
    have ih := lastS_eq r ps y hy day h (by omega)
    simp only [lastI, lastS, ih, wrL_sum r ps y hy h (by omega) y.length (Nat.le_refl _)]
theorem backI_eq (r : Ro) (ps y : List Int) (hy : ∀ a ∈ y, 0 ≤ a ∧ a < r.helpers.length) (day : Int) : backI r ps day y = lastS r ps y day r.helpers.length := lastS_eq r ps y hy day _ (Nat.le_refl _)
theorem sumI_bd (r : Ro) (hr : Good r) (ps y : List Int) (hpS : ∀ p ∈ ps, 0 ≤ p ∧ p < r.shares.length) (h : Nat) (hh : h < r.helpers.length) : ∀ k, k ≤ ps.length → 0 ≤ sumI r ps y h k ∧ sumI r ps y h k ≤ 420 * k
  | 0, _ => by simp [sumI]
  | k + 1, hk => by
    have ih := sumI_bd r hr ps y hpS h hh k (by omega)
    have hp := hpS _ (List.getElem_mem (show k < ps.length by omega))
    have hw := wrI_bd r hr (getI ps k) h (by rw [getI_at (show k < ps.length by omega)]; exact hp) (by omega)
    simp only [sumI]
    split <;> constructor <;> omega
theorem lastS_bd (r : Ro) (hr : Good r) (ps y : List Int) (hpS : ∀ p ∈ ps, 0 ≤ p ∧ p < r.shares.length) (hl : y.length = ps.length) (hl8 : ps.length ≤ 12) (day : Int) (hd : 0 ≤ day ∧ day ≤ 400) : ∀ h, h ≤ r.helpers.length → 0 ≤ lastS r ps y day h ∧ lastS r ps y day h ≤ 20000
  | 0, _ => by simp only [lastS]; omega
  | h + 1, hh => by
    have ih := lastS_bd r hr ps y hpS hl hl8 day hd h (by omega)
    have hs := sumI_bd r hr ps y hpS h (by omega) y.length (by omega)
    have hH := hr.h h (by omega)
    simp only [lastS, List.getElem?_eq_getElem (show h < r.helpers.length by omega), Option.getD_some]
    split
    · split <;> constructor <;> omega
    · exact ih
end Go.Proofs.YtfnohnjnncjidaaGreatDoor
