import Derived.Test.YtppcbmpiphhphaaGreatDoorTie
import Derived.Test.YtppcbmpiphhphaaGreatDoorCards
import Derived.SevenTiedAt
import Derived.LaidOnce
import Derived.Lay
import Derived.Test.YtppcbmpiphhphaaGreatDoorQU25
import Derived.Test.YtppcbmpiphhphaaGreatDoorQU27
import Derived.Test.YtppcbmpiphhphaaGreatDoorQU28
import Derived.Test.YtppcbmpiphhphaaGreatDoorQU33
import Derived.Test.YtppcbmpiphhphaaGreatDoorQU49
namespace Go.Proofs.YtppcbmpiphhphaaGreatDoor
open Go Pm Go.RowKit Go.ChangeShapes Go.WideShapes Go.ChangeAt
set_option linter.unusedSimpArgs false
set_option linter.unusedVariables false
set_option maxRecDepth 100000
theorem rd_b8 : Pm.Rd Tryz.prog 5 (fun n : UInt8 => [.v (.int .u8 n.toNat)]) (fun _ => True) :=
  (Rd.int Tryz.underlying5).map fun n h => by
    have h2 : 0 ≤ n ∧ n ≤ 255 := by simpa [Lit.wf, IntKind.min, IntKind.max, IntKind.signed, IntKind.bits] using h
    refine ⟨UInt8.ofNat n.toNat, trivial, ?_⟩
    have e : (UInt8.ofNat n.toNat).toNat = n.toNat := by
      rw [UInt8.toNat_ofNat']
      omega
    rw [e, Int.toNat_of_nonneg h2.1]
theorem rd_place : Pm.Rd Tryz.prog 60 (fun p : Int × Int × Int => [i64 p.1, i64 p.2.1, i64 p.2.2]) (fun _ => True) :=
  (Rd.struct Tryz.underlying60 (by kernel_rfl) (by kernel_rfl) (.cons rd_int (.cons rd_int (.cons rd_int .nil)))).map fun ⟨a, b, c, _⟩ _ => ⟨(a, b, c), trivial, rfl⟩
theorem rd_slip : Pm.Rd Tryz.prog 62 siC (fun _ => True) :=
  (Rd.struct Tryz.underlying62 (by kernel_rfl) (by kernel_rfl) (.cons rd_place (.cons rd_string (.cons rd_string (.cons rd_string .nil))))).map fun ⟨⟨a, b, c⟩, w, x, y, _⟩ _ => ⟨⟨a, b, c, w, x, y⟩, trivial, rfl⟩
theorem rd_slips : Pm.Rd Tryz.prog 25 (fun l => [sis 0 l]) (fun _ => True) :=
  (Rd.slice (sz := 6) Tryz.underlying25 (by kernel_rfl) (by decide) (by kernel_rfl) (fun _ => rfl) rd_slip).map fun l _ => ⟨l, trivial, rfl⟩
theorem rd_rule : Pm.Rd Tryz.prog 64 rlC (fun _ => True) :=
  (Rd.struct Tryz.underlying64 (by kernel_rfl) (by kernel_rfl) (.cons rd_string (.cons rd_string (.cons rd_int .nil)))).map fun ⟨a, b, c, _⟩ _ => ⟨⟨a, b, c⟩, trivial, rfl⟩
theorem rd_rules : Pm.Rd Tryz.prog 26 (fun l => [rls 0 l]) (fun _ => True) :=
  (Rd.slice (sz := 3) Tryz.underlying26 (by kernel_rfl) (by decide) (by kernel_rfl) (fun _ => rfl) rd_rule).map fun l _ => ⟨l, trivial, rfl⟩
theorem rd_head : Pm.Rd Tryz.prog 66 (fun h : ByteArray × UInt8 => [str h.1, u8 h.2]) (fun _ => True) :=
  (Rd.struct Tryz.underlying66 (by kernel_rfl) (by kernel_rfl) (.cons rd_string (.cons rd_b8 .nil))).map fun ⟨a, b, _⟩ _ => ⟨(a, b), trivial, rfl⟩
theorem rd_dec : Pm.Rd Tryz.prog 68 dcC (fun _ => True) :=
  (Rd.struct Tryz.underlying68 (by kernel_rfl) (by kernel_rfl) (.cons rd_int (.cons rd_b8 (.cons rd_string (.cons rd_place (.cons rd_head (.cons rd_int .nil))))))).map fun ⟨n, k, f, ⟨a, b, c⟩, ⟨s, m⟩, o, _⟩ _ => ⟨⟨n, k, f, a, b, c, s, m, o⟩, trivial, rfl⟩
theorem rd_decs : Pm.Rd Tryz.prog 27 (fun l => [dcs 0 l]) (fun _ => True) :=
  (Rd.slice (sz := 9) Tryz.underlying27 (by kernel_rfl) (by decide) (by kernel_rfl) (fun _ => rfl) rd_dec).map fun l _ => ⟨l, trivial, rfl⟩
theorem rd_lex : Pm.Rd Tryz.prog 29 (lxC 0) (fun _ => True) :=
  (Rd.struct Tryz.underlying29 (by kernel_rfl) (by kernel_rfl) (.cons rd_rules (.cons rd_decs .nil))).map fun ⟨a, b, _⟩ _ => ⟨⟨a, b⟩, trivial, rfl⟩
theorem rdv_text : RdV Tryz.prog 24 (fun t : List Ch => txE 0 t) okChs := .struct Tryz.underlying24 rd_text
theorem rdv_lex : RdV Tryz.prog 29 (lxE 0) (fun _ => True) := .struct Tryz.underlying29 rd_lex
theorem rdv_slips : RdV Tryz.prog 25 (fun l => sis 0 l) (fun _ => True) := .one (cells_slice Tryz.underlying25) rd_slips
theorem rdv_strs : RdV Tryz.prog 30 (fun l => strs 0 l) okStrs := .one (cells_slice Tryz.underlying30) rd_strs
noncomputable def laidW (os : Os) : World := (World.doorLaid Tryz.prog 90 os).layVars Tryz.prog [("unicode/utf8.first", Rows.laid_unicode_utf8_first)]
theorem doorLaid_os (P : Program) (n : Nat) (os : Os) : (World.doorLaid P n os).os = os := rfl
theorem door_os (os : Os) : (laidW os).os = os := (World.layVars_os _ _ _).trans (doorLaid_os _ _ _)
theorem door_shaped (os : Os) (args : Array Value) : ((laidW os).forCall (fun _ _ => 0) ⟨#[], args, []⟩).Shaped Tryz.prog := World.shaped_of_ZipB (by kernel_rfl) (by kernel_rfl)
open Go Pm Go.RowKit Go.ChangeShapes Go.WideShapes Go.ChangeAt
set_option maxRecDepth 100000
theorem laid_need1 : ∀ x ∈ laidNeedU, x ∈ Rows.sheafListsRow.laid := by
  unfold laidNeedU Rows.sheafListsRow
  simp
theorem door_met1 (os : Os) (args : Array Value) : laidMetH Tryz.prog Rows.sheafListsRow.laid ((laidW os).forCall (fun _ _ => 0) ⟨#[], args, []⟩).memory :=
  laidMetH_of_parts3 (fuel := 8) (laidMet_of_run' 8 (by kernel_rfl) (by kernel_rfl)) (by kernel_rfl) (by kernel_rfl)
theorem SheafLists_holds : Rows.SheafListsSaid :=
  OpenClaim.holds_of_wide 3 Tryz.f3 rfl rfl rfl rfl rfl rfl rfl ⟨rfl, rfl, rfl, rfl, rfl⟩ rfl rfl rfl rfl rfl (by kernel_rfl) Tryz.func3 (by kernel_rfl)
    (of_decide_eq_true (by kernel_rfl)) (by unfold Func.isWrapper; first | (rw [if_pos (by decide +kernel)]; kernel_rfl) | (rw [if_neg (by decide +kernel)]; exact ⟨rfl, rfl⟩))
    (fun os started H enc _ => law_laid (C := Tryz.checked) (ts := [24, 25, 29, 30]) (tb := 4) (s := Rows.sheafListsSpec) (laid := Rows.sheafListsRow.laid) (globs_knownU laid_need1) Tryz.func3 (by kernel_rfl) (by kernel_rfl) Tryz.underlying4 rfl own_knob (by kernel_rfl) laid_out (by decide +kernel)
      (fun H ds h => by
        match ds, h with
        | [d1, d2, d3, d4], _ => exact ⟨rfl, rfl, rfl⟩)
      (.cons rdv_text (.cons rdv_slips (.cons rdv_lex (.cons rdv_strs .nil))))
      (fun ⟨t, s, x, l, _⟩ h => SheafLists_ok t s x l) os started H enc
      (ChangeSpec.witness_shaped (enc := enc) (C := Tryz.checked) (os := os) (X := fun w _ => laidMetH Tryz.prog Rows.sheafListsRow.laid w) false (laidW os) #[.agg #[.slice none 0 0], .slice none 0 0, .agg #[.slice none 0 0, .slice none 0 0], .slice none 0 0] 8 (door_os os) (door_shaped os _) (by kernel_rfl) (by kernel_rfl) (by kernel_rfl) (door_met1 os _)))
theorem SheafLists_card : Rows.SheafListsCardSaid :=
  Claim7.holds_tied_plain_at .later [] [.data, .data, .data, .data, .sentinel, .sentinel, .funcs, .funcsDeep, .pinned] true Rows.sheafListsCard.stood.harness true
    SheafLists_holds (fun _ h => by cases h) (by kernel_rfl) (fun _ h => by cases h) sheafLists_row_tie rfl ⟨rfl, rfl⟩ (by kernel_rfl) rfl
    (fun f fn hf hfn => by
      obtain rfl : f = 3 := Option.some.inj ((show Tryz.prog.funcNamed "postil/postillaw11.SheafLists" = some 3 by kernel_rfl).symm.trans hf) |>.symm
      obtain rfl : fn = Tryz.f3 := (Option.some.inj (Tryz.func3.symm.trans hfn)).symm
      exact ⟨by kernel_rfl, fun j t ht => by
        have hm : t ∈ [24, 25, 29, 30] := by simpa using Array.mem_of_getElem? ht
        have hall : ([24, 25, 29, 30].all fun u => !Tryz.prog.wantsStandIn u) = true := by kernel_rfl
        exact (show Tryz.prog.wantsStandIn t = false by simpa using List.all_eq_true.1 hall t hm)⟩)
    (by kernel_rfl)
end Go.Proofs.YtppcbmpiphhphaaGreatDoor
