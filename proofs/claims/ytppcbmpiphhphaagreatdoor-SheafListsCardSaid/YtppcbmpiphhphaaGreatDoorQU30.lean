import Derived.Test.YtppcbmpiphhphaaGreatDoorQU26
import Derived.Test.YtppcbmpiphhphaaGreatDoorQU29
namespace Go.Proofs.YtppcbmpiphhphaaGreatDoor
open Go Pm
set_option linter.unusedSimpArgs false
set_option linter.unusedVariables false
structure Rd where
  ch : Int
  ln : Int
  wd : Int
  kind : UInt8
  word : ByteArray
def rdE (r : Rd) : List V := [i64 r.ch, i64 r.ln, i64 r.wd, .v (.int .u8 r.kind.toNat), str r.word]
def rds (lo : Nat) (l : List Rd) : V := .lst lo 5 (l.map rdE)
structure Cp where
  id : Int
  rds : List Rd
attribute [go_sem] rdE rds
theorem allOnes_rds (l : List Rd) : allOnes (l.map rdE) = true := allOnes_map (fun _ => rfl) l
attribute [go_sem] allOnes_rds
def lineO (t : List Ch) (a b : Int) : Option (List ByteArray) := if 0 ≤ a ∧ 0 ≤ b then (t[a.toNat]?).bind fun c => c.lines[b.toNat]? else none
def cmpI (a b : Int) : Int := if a < b then -1 else if b < a then 1 else 0
def GoodR (r : Rd) : Prop := ((r.kind.toNat : Int) = 1 ∧ r.word = ⟨#[]⟩) ∨ ((r.kind.toNat : Int) = 2 ∧ wordB r.word = true) ∨ ((r.kind.toNat : Int) = 3 ∧ wordB r.word = true)
open Go Pm
def InP (r : Rd) : Prop := (0 ≤ r.ch ∧ r.ch ≤ 99) ∧ (0 ≤ r.ln ∧ r.ln ≤ 99) ∧ (0 ≤ r.wd ∧ r.wd ≤ 99)
def nP (r : Rd) : Int := r.ch * 10000 + r.ln * 100 + r.wd
def BefR (a b : Rd) : Prop := nP a < nP b ∨ nP a = nP b ∧ (a.kind.toNat : Int) = 2
structure OKR (t : List Ch) (rs : List Rd) : Prop where
  n : rs.length ≤ 1000
  i : ∀ r ∈ rs, InP r ∧ GoodR r
  s : rs.Pairwise BefR
theorem OKR.take {t : List Ch} {rs : List Rd} (h : OKR t rs) (k : Nat) : OKR t (rs.take k) :=
  ⟨by have := h.n; simp; omega, fun r hr => h.i r (List.mem_of_mem_take hr), h.s.sublist (List.take_sublist _ _)⟩
structure RepOK (rs ps : List Rd) : Prop where
  mem : ∀ p ∈ ps, p ∈ rs
  all : ∀ r ∈ rs, ∃ p ∈ ps, nP p = nP r
  lt : ps.Pairwise (fun a b => nP a < nP b)
  top : ∀ p r, ps.getLast? = some p → r ∈ rs → nP r ≤ nP p
end Go.Proofs.YtppcbmpiphhphaaGreatDoor
