import Derived.Test.YtagfopbijboajaaGreatDoorQY29
namespace Go.Proofs.YtagfopbijboajaaGreatDoor
open Go Pm
set_option linter.unusedSimpArgs false
set_option linter.unusedVariables false
set_option maxHeartbeats 4000000
set_option maxRecDepth 100000
def diffAt (x y : Se) (a b : Sr) (n : Int) : Bool := !decide (x.lines[(n - a.fr).toNat]? = y.lines[(n - b.fr).toNat]?)
def differB (x y : Se) (a b : Sr) : Bool := !(!x.back || !y.back || tornB x a || tornB y b) && (List.range (a.to - b.fr + 1).toNat).any fun j => diffAt x y a b (b.fr + j)
def differI (r : Ro) (i : Nat) : Bool := match r.sheets[i]?, r.sheets[i + 1]?, r.shares[i]?, r.shares[i + 1]? with
  | some x, some y, some a, some b => differB x y a b
  | _, _, _, _ => false
theorem differI_at (r : Ro) {i : Nat} (h1 : i + 1 < r.shares.length) (h2 : i + 1 < r.sheets.length) : differI r i = differB r.sheets[i] r.sheets[i + 1] r.shares[i] r.shares[i + 1] := by
  simp [differI, h1, h2, (by omega : i < r.shares.length), (by omega : i < r.sheets.length)]
theorem roundB_of {r : Ro} (he : roundE r = 0) : roundB r = true := by
  unfold roundE at he
  split at he
  · split at he
    · assumption
    · omega
  · omega
theorem Good.mono {r : Ro} (hr : Good r) {k : Nat} (hk : k + 1 < r.shares.length) : r.shares[k].fr < r.shares[k + 1].fr ∧ r.shares[k].to < r.shares[k + 1].to := by
  have hb := roundB_of hr.e
  simp only [roundB, Bool.and_eq_true] at hb
  have := allPre_at hb.1.2 hk
  unfold shareB at this
  rw [last_take r.shares (k + 1) (by omega) (by omega)] at this
  simp only [Bool.and_eq_true, decide_eq_true_eq] at this
  exact this.1.2
open Go Pm
set_option maxHeartbeats 4000000
set_option maxRecDepth 100000
def prE (p : Int × Int) : List V := [i64 p.1, i64 p.2]
def prs (lo : Nat) (l : List (Int × Int)) : V := .lst lo 2 (l.map prE)
attribute [go_sem] prE prs
theorem allOnes_prs (l : List (Int × Int)) : allOnes (l.map prE) = true := allOnes_map (fun _ => rfl) l
attribute [go_sem] allOnes_prs
def prsL (p : Nat → Bool) (k : Nat) : List (Int × Int) := ((List.range k).filter p).map fun i : Nat => ((i : Int), (i : Int) + 1)
theorem prsL_succ (p : Nat → Bool) (k : Nat) : prsL p (k + 1) = if p k then prsL p k ++ [((k : Int), (k : Int) + 1)] else prsL p k := by
  unfold prsL
  rw [List.range_succ, List.filter_append]
  cases h : p k <;> simp [h]
theorem prsL_le (p : Nat → Bool) (k : Nat) : (prsL p k).length ≤ k := by
  unfold prsL
  rw [List.length_map]
  exact Nat.le_trans (List.length_filter_le _ _) (by simp)
def differL (r : Ro) : List (Int × Int) := if roundE r = 0 then prsL (differI r) (r.shares.length - 1) else []
def befL : List Int → List Int → Bool
  | a :: u, b :: v => if a = b then befL u v else decide (a < b)
  | _, _ => false
def beforeB (l m : List Int) : Bool := if (l.length : Int) = m.length then befL l m else decide ((l.length : Int) < m.length)
end Go.Proofs.YtagfopbijboajaaGreatDoor
