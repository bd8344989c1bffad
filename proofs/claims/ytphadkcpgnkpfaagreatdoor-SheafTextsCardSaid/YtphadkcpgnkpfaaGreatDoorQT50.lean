import Derived.Test.YtphadkcpgnkpfaaGreatDoorTie
import Derived.Test.YtphadkcpgnkpfaaGreatDoorCards
import Derived.SevenTiedAt
import Derived.LaidOnce
import Derived.Lay
import Derived.Test.YtphadkcpgnkpfaaGreatDoorQT12
import Derived.Test.YtphadkcpgnkpfaaGreatDoorQT30
import Derived.Test.YtphadkcpgnkpfaaGreatDoorQT31
import Derived.Test.YtphadkcpgnkpfaaGreatDoorQT49
namespace Go.Proofs.YtphadkcpgnkpfaaGreatDoor
open Go Pm Go.RowKit Go.ChangeShapes Go.WideShapes Go.ChangeAt
set_option linter.unusedSimpArgs false
set_option linter.unusedVariables false
set_option maxRecDepth 100000
theorem rd_b8 : Pm.Rd Tryz.prog 5 (fun n : UInt8 => [.v (.int .u8 n.toNat)]) (fun _ => True) :=
  (Rd.int Tryz.underlying5).map fun n h => by
    have h2 : 0 ≤ n ∧ n ≤ 255 := by simpa [Lit.wf, IntKind.min, IntKind.max, IntKind.signed, IntKind.bits] using h
    refine ⟨UInt8.ofNat n.toNat, trivial, ?_⟩
    have e : (UInt8.ofNat n.toNat).toNat = n.toNat := by
      rw [UInt8.toNat_ofNat']
      omega
    rw [e, Int.toNat_of_nonneg h2.1]
theorem rd_place : Pm.Rd Tryz.prog 57 (fun p : Int × Int × Int => [i64 p.1, i64 p.2.1, i64 p.2.2]) (fun _ => True) :=
  (Rd.struct Tryz.underlying57 (by kernel_rfl) (by kernel_rfl) (.cons rd_int (.cons rd_int (.cons rd_int .nil)))).map fun ⟨a, b, c, _⟩ _ => ⟨(a, b, c), trivial, rfl⟩
theorem rd_reading : Pm.Rd Tryz.prog 59 rdE (fun _ => True) :=
  (Rd.struct Tryz.underlying59 (by kernel_rfl) (by kernel_rfl) (.cons rd_place (.cons rd_b8 (.cons rd_string .nil)))).map fun ⟨⟨a, b, c⟩, k, w, _⟩ _ => ⟨⟨a, b, c, k, w⟩, trivial, rfl⟩
theorem rd_readings : Pm.Rd Tryz.prog 25 (fun l => [rds 0 l]) (fun _ => True) :=
  (Rd.slice (sz := 5) Tryz.underlying25 (by kernel_rfl) (by decide) (by kernel_rfl) (fun _ => rfl) rd_reading).map fun l _ => ⟨l, trivial, rfl⟩
theorem rd_copy : Pm.Rd Tryz.prog 27 (cpC 0) (fun _ => True) :=
  (Rd.struct Tryz.underlying27 (by kernel_rfl) (by kernel_rfl) (.cons rd_int (.cons rd_readings .nil))).map fun ⟨a, l, _⟩ _ => ⟨⟨a, l⟩, trivial, rfl⟩
theorem rdv_text : RdV Tryz.prog 24 (fun t : List Ch => txE 0 t) okChs := .struct Tryz.underlying24 rd_text
theorem rdv_copy : RdV Tryz.prog 27 (cpE 0) (fun _ => True) := .struct Tryz.underlying27 rd_copy
theorem rdv_strs : RdV Tryz.prog 28 (fun l => strs 0 l) okStrs := .one (cells_slice Tryz.underlying28) rd_strs
noncomputable def laidW (os : Os) : World := (World.doorLaid Tryz.prog 90 os).layVars Tryz.prog [("unicode/utf8.first", Rows.laid_unicode_utf8_first)]
theorem doorLaid_os (P : Program) (n : Nat) (os : Os) : (World.doorLaid P n os).os = os := rfl
theorem door_os (os : Os) : (laidW os).os = os := (World.layVars_os _ _ _).trans (doorLaid_os _ _ _)
theorem door_shaped (os : Os) (args : Array Value) : ((laidW os).forCall (fun _ _ => 0) ⟨#[], args, []⟩).Shaped Tryz.prog := World.shaped_of_ZipB (by kernel_rfl) (by kernel_rfl)
open Go Pm Go.RowKit Go.ChangeShapes Go.WideShapes Go.ChangeAt
set_option maxRecDepth 100000
theorem laid_need1 : ∀ x ∈ laidNeed, x ∈ Rows.sheafTextsRow.laid := by
  unfold laidNeed Rows.sheafTextsRow
  simp
theorem door_met1 (os : Os) (args : Array Value) : laidMetH Tryz.prog Rows.sheafTextsRow.laid ((laidW os).forCall (fun _ _ => 0) ⟨#[], args, []⟩).memory :=
  laidMetH_of_parts3 (fuel := 8) (laidMet_of_run' 8 (by kernel_rfl) (by kernel_rfl)) (by kernel_rfl) (by kernel_rfl)
theorem SheafTexts_holds : Rows.SheafTextsSaid :=
  OpenClaim.holds_of_wide 3 Tryz.f3 rfl rfl rfl rfl rfl rfl rfl ⟨rfl, rfl, rfl, rfl, rfl⟩ rfl rfl rfl rfl rfl (by kernel_rfl) Tryz.func3 (by kernel_rfl)
    (of_decide_eq_true (by kernel_rfl)) (by unfold Func.isWrapper; first | (rw [if_pos (by decide +kernel)]; kernel_rfl) | (rw [if_neg (by decide +kernel)]; exact ⟨rfl, rfl⟩))
    (fun os started H enc _ => law_laid (C := Tryz.checked) (ts := [24, 27, 28]) (tb := 4) (s := Rows.sheafTextsSpec) (laid := Rows.sheafTextsRow.laid) (globs_known laid_need1) Tryz.func3 (by kernel_rfl) (by kernel_rfl) Tryz.underlying4 rfl own_knob (by kernel_rfl) laid_out (by decide +kernel)
      (fun H ds h => by
        match ds, h with
        | [d1, d2, d3], _ => exact ⟨rfl, rfl, rfl⟩)
      (.cons rdv_text (.cons rdv_copy (.cons rdv_strs .nil)))
      (fun ⟨t, c, l, _⟩ h => SheafTexts_ok t c l) os started H enc
      (ChangeSpec.witness_shaped (enc := enc) (C := Tryz.checked) (os := os) (X := fun w _ => laidMetH Tryz.prog Rows.sheafTextsRow.laid w) false (laidW os) #[.agg #[.slice none 0 0], .agg #[.int .i64 0, .slice none 0 0], .slice none 0 0] 8 (door_os os) (door_shaped os _) (by kernel_rfl) (by kernel_rfl) (by kernel_rfl) (door_met1 os _)))
theorem SheafTexts_card : Rows.SheafTextsCardSaid :=
  Claim7.holds_tied_plain_at .later [] [.data, .data, .data, .data, .sentinel, .sentinel, .funcs, .data, .widerDeep, .pinned] true Rows.sheafTextsCard.stood.harness true
    SheafTexts_holds (fun _ h => by cases h) (by kernel_rfl) (fun _ h => by cases h) sheafTexts_row_tie rfl ⟨rfl, rfl⟩ (by kernel_rfl) rfl
    (fun f fn hf hfn => by
      obtain rfl : f = 3 := Option.some.inj ((show Tryz.prog.funcNamed "postil/postillaw11.SheafTexts" = some 3 by kernel_rfl).symm.trans hf) |>.symm
      obtain rfl : fn = Tryz.f3 := (Option.some.inj (Tryz.func3.symm.trans hfn)).symm
      exact ⟨by kernel_rfl, fun j t ht => by
        have hm : t ∈ [24, 27, 28] := by simpa using Array.mem_of_getElem? ht
        have hall : ([24, 27, 28].all fun u => !Tryz.prog.wantsStandIn u) = true := by kernel_rfl
        exact (show Tryz.prog.wantsStandIn t = false by simpa using List.all_eq_true.1 hall t hm)⟩)
    (by kernel_rfl)
end Go.Proofs.YtphadkcpgnkpfaaGreatDoor
