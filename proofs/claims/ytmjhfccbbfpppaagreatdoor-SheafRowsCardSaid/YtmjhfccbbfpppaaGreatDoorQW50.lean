import Derived.Test.YtmjhfccbbfpppaaGreatDoorTie
import Derived.Test.YtmjhfccbbfpppaaGreatDoorCards
import Derived.SevenTiedAt
import Derived.LaidOnce
import Derived.Lay
import Derived.Test.YtmjhfccbbfpppaaGreatDoorQW06
import Derived.Test.YtmjhfccbbfpppaaGreatDoorQW21
import Derived.Test.YtmjhfccbbfpppaaGreatDoorQW24
import Derived.Test.YtmjhfccbbfpppaaGreatDoorQW31
import Derived.Test.YtmjhfccbbfpppaaGreatDoorQW33
import Derived.Test.YtmjhfccbbfpppaaGreatDoorQW40
import Derived.Test.YtmjhfccbbfpppaaGreatDoorQW54
import Derived.Test.YtmjhfccbbfpppaaGreatDoorQW49
namespace Go.Proofs.YtmjhfccbbfpppaaGreatDoor
open Go Pm Go.RowKit Go.ChangeShapes Go.WideShapes Go.ChangeAt
set_option linter.unusedSimpArgs false
set_option linter.unusedVariables false
set_option maxRecDepth 100000
theorem f1n:RdV Tryz.prog 24 (fun t:List Ch=>txE 0 t) f6e:=.struct Tryz.underlying24 f7t
theorem e8f:RdV Tryz.prog 32 (fun l=>a0h 0 l) d9f:=.one (d0o Tryz.underlying32) d9g
noncomputable def c9f (os:Os):World:=(World.doorLaid Tryz.prog 200 os).layVars Tryz.prog [("unicode/utf8.first",Rows.laid_unicode_utf8_first)]
theorem c9r (P:Program) (n:Nat) (os:Os):(World.doorLaid P n os).os=os:=rfl
theorem f6u (os:Os):(c9f os).os=os:=(World.layVars_os _ _ _).trans (c9r _ _ _)
theorem c9s (os:Os) (args:Array Value):((c9f os).forCall (fun _ _=>0) ⟨#[],args,[]⟩).Shaped Tryz.prog:=World.shaped_of_ZipB (by kernel_rfl) (by kernel_rfl)
open Go Pm Go.RowKit Go.ChangeShapes Go.WideShapes Go.ChangeAt
set_option maxRecDepth 100000
theorem c9y:∀ x ∈ b3i,x ∈ Rows.sheafRowsRow.laid:=by
 unfold b3i Rows.sheafRowsRow
 simp
theorem d4g (os:Os) (args:Array Value):laidMetH Tryz.prog Rows.sheafRowsRow.laid ((c9f os).forCall (fun _ _=>0) ⟨#[],args,[]⟩).memory :=
 laidMetH_of_parts3 (fuel:=8) (laidMet_of_run' 8 (by kernel_rfl) (by kernel_rfl)) (by kernel_rfl) (by kernel_rfl)
theorem g6f (os:Os):Input.okWideB Tryz.prog ((c9f os).forCall (fun _ _=>0) ⟨#[],#[.agg #[.slice none 0 0],.slice none 0 0],[]⟩) 5 ⟨#[],#[.agg #[.slice none 0 0],.slice none 0 0],[]⟩=true:=by kernel_rfl
theorem g0e {H:Type} (enc:TypeId×Value→H) (os:Os):Rows.sheafRowsSpec.preB enc Tryz.prog Tryz.f5 [] Rows.sheafRowsRow.apart ((c9f os).forCall (fun _ _=>0) ⟨#[],#[.agg #[.slice none 0 0],.slice none 0 0],[]⟩).memory #[.agg #[.slice none 0 0],.slice none 0 0] 8=true:=by kernel_rfl
theorem g6b {H:Type} (enc:TypeId×Value→H) (os:Os):Rows.sheafRowsSpec.sizedB enc Tryz.prog Tryz.f5 Rows.sheafRowsRow.apart ((c9f os).forCall (fun _ _=>0) ⟨#[],#[.agg #[.slice none 0 0],.slice none 0 0],[]⟩).memory #[.agg #[.slice none 0 0],.slice none 0 0] 8=true:=by kernel_rfl
theorem b8n:Rows.SheafRowsSaid :=
 OpenClaim.holds_of_wide 5 Tryz.f5 rfl rfl rfl rfl rfl rfl rfl ⟨rfl,rfl,rfl,rfl,rfl⟩ rfl rfl rfl rfl rfl (by kernel_rfl) Tryz.func5 g4x
  (of_decide_eq_true (by kernel_rfl)) (by unfold Func.isWrapper;first|(rw [if_pos (by decide +kernel)];kernel_rfl)|(rw [if_neg (by decide +kernel)];exact ⟨rfl,rfl⟩))
  (fun os started H enc _=>f0w (C:=Tryz.checked) (ts:=[24,32]) (tb:=4) (s:=Rows.sheafRowsSpec) (laid:=Rows.sheafRowsRow.laid) (c5e c9y) Tryz.func5 (by kernel_rfl) (by kernel_rfl) Tryz.underlying4 rfl f1v (by kernel_rfl) e9b (by decide +kernel)
   (fun H ds h=>by
    match ds,h with
    |[d1,d2],_=>exact ⟨rfl,rfl,rfl⟩)
   (.cons f1n (.cons e8f .nil))
   (fun ⟨t,l,_⟩ h=>c4w t l) os started H enc
   (ChangeSpec.witness_shaped (enc:=enc) (C:=Tryz.checked) (os:=os) (X:=fun w _=>laidMetH Tryz.prog Rows.sheafRowsRow.laid w) false (c9f os) #[.agg #[.slice none 0 0],.slice none 0 0] 8 (f6u os) (c9s os _) (g6f os) (g0e enc os) (g6b enc os) (d4g os _)))
theorem SheafRows_card:Rows.SheafRowsCardSaid :=
 Claim7.holds_tied_plain_at .later [] [.data,.data,.data,.data,.sentinel,.sentinel,.funcs,.funcs,.widerDeep,.funcsDeep,.pinned] true Rows.sheafRowsCard.stood.harness true
  b8n (fun _ h=>by cases h) (by kernel_rfl) (fun _ h=>by cases h) sheafRows_row_tie rfl ⟨rfl,rfl⟩ (by kernel_rfl) rfl
  (fun f fn hf hfn=>by
   obtain rfl:f=5:=Option.some.inj ((show Tryz.prog.funcNamed "postil/postillaw11.SheafRows"=some 5 by kernel_rfl).symm.trans hf) |>.symm
   obtain rfl:fn=Tryz.f5:=(Option.some.inj (Tryz.func5.symm.trans hfn)).symm
   exact ⟨by kernel_rfl,fun j t ht=>by
    have hm:t ∈ [24,32]:=by simpa using Array.mem_of_getElem? ht
    have hall:([24,32].all fun u=>!Tryz.prog.wantsStandIn u)=true:=by kernel_rfl
    exact (show Tryz.prog.wantsStandIn t=false by simpa using List.all_eq_true.1 hall t hm)⟩)
  (by kernel_rfl)
end Go.Proofs.YtmjhfccbbfpppaaGreatDoor
