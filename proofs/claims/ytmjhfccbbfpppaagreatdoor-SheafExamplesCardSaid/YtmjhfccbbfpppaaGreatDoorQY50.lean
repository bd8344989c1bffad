import Derived.Test.YtmjhfccbbfpppaaGreatDoorTie
import Derived.Test.YtmjhfccbbfpppaaGreatDoorCards
import Derived.SevenTiedAt
import Derived.LaidOnce
import Derived.Lay
import Derived.Test.YtmjhfccbbfpppaaGreatDoorQY04
import Derived.Test.YtmjhfccbbfpppaaGreatDoorQY22
import Derived.Test.YtmjhfccbbfpppaaGreatDoorQY25
import Derived.Test.YtmjhfccbbfpppaaGreatDoorQY32
import Derived.Test.YtmjhfccbbfpppaaGreatDoorQY34
import Derived.Test.YtmjhfccbbfpppaaGreatDoorQY41
import Derived.Test.YtmjhfccbbfpppaaGreatDoorQY54
import Derived.Test.YtmjhfccbbfpppaaGreatDoorQY49
namespace Go.Proofs.YtmjhfccbbfpppaaGreatDoor
open Go Pm Go.RowKit Go.ChangeShapes Go.WideShapes Go.ChangeAt
set_option linter.unusedSimpArgs false
set_option linter.unusedVariables false
set_option maxRecDepth 100000
noncomputable def c6s (os:Os):World:=(World.doorLaid Tryz.prog 200 os).layVars Tryz.prog [("unicode/utf8.first",Rows.laid_unicode_utf8_first)]
theorem c9j (P:Program) (n:Nat) (os:Os):(World.doorLaid P n os).os=os:=rfl
theorem f5i (os:Os):(c6s os).os=os:=(World.layVars_os _ _ _).trans (c9j _ _ _)
theorem c7k (os:Os) (args:Array Value):((c6s os).forCall (fun _ _=>0) ⟨#[],args,[]⟩).Shaped Tryz.prog:=World.shaped_of_ZipB (by kernel_rfl) (by kernel_rfl)
open Go Pm Go.RowKit Go.ChangeShapes Go.WideShapes Go.ChangeAt
set_option maxRecDepth 100000
theorem c8o:∀ x ∈ b2f,x ∈ Rows.sheafExamplesRow.laid:=by
 unfold b2f Rows.sheafExamplesRow
 simp
theorem d1w (os:Os) (args:Array Value):laidMetH Tryz.prog Rows.sheafExamplesRow.laid ((c6s os).forCall (fun _ _=>0) ⟨#[],args,[]⟩).memory :=
 laidMetH_of_parts3 (fuel:=8) (laidMet_of_run' 8 (by kernel_rfl) (by kernel_rfl)) (by kernel_rfl) (by kernel_rfl)
theorem g4t (os:Os):Input.okWideB Tryz.prog ((c6s os).forCall (fun _ _=>0) ⟨#[],#[],[]⟩) 6 ⟨#[],#[],[]⟩=true:=by kernel_rfl
theorem f8y {H:Type} (enc:TypeId×Value→H) (os:Os):Rows.sheafExamplesSpec.preB enc Tryz.prog Tryz.f6 [] Rows.sheafExamplesRow.apart ((c6s os).forCall (fun _ _=>0) ⟨#[],#[],[]⟩).memory #[] 8=true:=by kernel_rfl
theorem g3n {H:Type} (enc:TypeId×Value→H) (os:Os):Rows.sheafExamplesSpec.sizedB enc Tryz.prog Tryz.f6 Rows.sheafExamplesRow.apart ((c6s os).forCall (fun _ _=>0) ⟨#[],#[],[]⟩).memory #[] 8=true:=by kernel_rfl
theorem b1e:Rows.SheafExamplesSaid :=
 OpenClaim.holds_of_wide 6 Tryz.f6 rfl rfl rfl rfl rfl rfl rfl ⟨rfl,rfl,rfl,rfl,rfl⟩ rfl rfl rfl rfl rfl (by kernel_rfl) Tryz.func6 g4s
  (of_decide_eq_true (by kernel_rfl)) (by unfold Func.isWrapper;first|(rw [if_pos (by decide +kernel)];kernel_rfl)|(rw [if_neg (by decide +kernel)];exact ⟨rfl,rfl⟩))
  (fun os started H enc _=>e5q (C:=Tryz.checked) (ts:=([]:List TypeId)) (tb:=4) (s:=Rows.sheafExamplesSpec) (laid:=Rows.sheafExamplesRow.laid) (c2t c8o) Tryz.func6 (by kernel_rfl) (by kernel_rfl) Tryz.underlying4 rfl e8f (by kernel_rfl) e5v (by decide +kernel)
   (fun H ds h=>by
    match ds,h with
    |[],_=>exact ⟨rfl,rfl,rfl⟩)
   .nil
   (fun _ _=>b4s) os started H enc
   (ChangeSpec.witness_shaped (enc:=enc) (C:=Tryz.checked) (os:=os) (X:=fun w _=>laidMetH Tryz.prog Rows.sheafExamplesRow.laid w) false (c6s os) #[] 8 (f5i os) (c7k os _) (g4t os) (f8y enc os) (g3n enc os) (d1w os _)))
theorem SheafExamples_card:Rows.SheafExamplesCardSaid :=
 Claim7.holds_tied_plain_at .later [] [.data,.data,.data,.data,.sentinel,.sentinel,.funcs,.funcs,.widerDeep,.funcsDeep,.pinned] true Rows.sheafExamplesCard.stood.harness true
  b1e (fun _ h=>by cases h) (by kernel_rfl) (fun _ h=>by cases h) sheafExamples_row_tie rfl ⟨rfl,rfl⟩ (by kernel_rfl) rfl
  (fun f fn hf hfn=>by
   obtain rfl:f=6:=Option.some.inj ((show Tryz.prog.funcNamed "postil/postillaw11.SheafExamples"=some 6 by kernel_rfl).symm.trans hf) |>.symm
   obtain rfl:fn=Tryz.f6:=(Option.some.inj (Tryz.func6.symm.trans hfn)).symm
   exact ⟨by kernel_rfl,fun j t ht=>by
    have hm:t ∈ ([]:List TypeId):=by simpa using Array.mem_of_getElem? ht
    have hall:(([]:List TypeId).all fun u=>!Tryz.prog.wantsStandIn u)=true:=by kernel_rfl
    exact (show Tryz.prog.wantsStandIn t=false by simpa using List.all_eq_true.1 hall t hm)⟩)
  (by kernel_rfl)
end Go.Proofs.YtmjhfccbbfpppaaGreatDoor
