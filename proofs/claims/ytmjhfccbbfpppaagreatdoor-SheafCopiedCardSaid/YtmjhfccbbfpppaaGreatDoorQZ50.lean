import Derived.Test.YtmjhfccbbfpppaaGreatDoorTie
import Derived.Test.YtmjhfccbbfpppaaGreatDoorCards
import Derived.SevenTiedAt
import Derived.LaidOnce
import Derived.Lay
import Derived.Test.YtmjhfccbbfpppaaGreatDoorQZ06
import Derived.Test.YtmjhfccbbfpppaaGreatDoorQZ21
import Derived.Test.YtmjhfccbbfpppaaGreatDoorQZ23
import Derived.Test.YtmjhfccbbfpppaaGreatDoorQZ32
import Derived.Test.YtmjhfccbbfpppaaGreatDoorQZ34
import Derived.Test.YtmjhfccbbfpppaaGreatDoorQZ40
import Derived.Test.YtmjhfccbbfpppaaGreatDoorQZ54
import Derived.Test.YtmjhfccbbfpppaaGreatDoorQZ49
namespace Go.Proofs.YtmjhfccbbfpppaaGreatDoor
open Go Pm Go.RowKit Go.ChangeShapes Go.WideShapes Go.ChangeAt
set_option linter.unusedSimpArgs false
set_option linter.unusedVariables false
set_option maxRecDepth 100000
theorem c8k:RdV Tryz.prog 24 (fun t:List Ch=>txE 0 t) f0p:=.struct Tryz.underlying24 f0h
noncomputable def c7t (os:Os):World:=(World.doorLaid Tryz.prog 200 os).layVars Tryz.prog [("unicode/utf8.first",Rows.laid_unicode_utf8_first)]
theorem c5w (P:Program) (n:Nat) (os:Os):(World.doorLaid P n os).os=os:=rfl
theorem f0l (os:Os):(c7t os).os=os:=(World.layVars_os _ _ _).trans (c5w _ _ _)
theorem c7g (os:Os) (args:Array Value):((c7t os).forCall (fun _ _=>0) ⟨#[],args,[]⟩).Shaped Tryz.prog:=World.shaped_of_ZipB (by kernel_rfl) (by kernel_rfl)
open Go Pm Go.RowKit Go.ChangeShapes Go.WideShapes Go.ChangeAt
set_option maxRecDepth 100000
theorem f8u:Pm.Rd Tryz.prog 48 (fun n:Nat=>[.v (.int .u16 n)]) (fun n=>n < 65536) :=
 (Rd.int Tryz.underlying48).map fun n h=>by
  have:0≤n∧n≤65535:=by simpa [Lit.wf,IntKind.min,IntKind.max,IntKind.signed,IntKind.bits] using h
  exact ⟨n.toNat,by omega,by rw [Int.toNat_of_nonneg this.1]⟩
theorem f0x:RdV Tryz.prog 48 (fun n:Nat=>.v (.int .u16 n)) (fun n=>n < 65536):=.one (e1b Tryz.underlying48) f8u
theorem c5h:∀ x ∈ b1j,x ∈ Rows.sheafCopiedRow.laid:=by
 unfold b1j Rows.sheafCopiedRow
 simp
theorem d3j (os:Os) (args:Array Value):laidMetH Tryz.prog Rows.sheafCopiedRow.laid ((c7t os).forCall (fun _ _=>0) ⟨#[],args,[]⟩).memory :=
 laidMetH_of_parts3 (fuel:=8) (laidMet_of_run' 8 (by kernel_rfl) (by kernel_rfl)) (by kernel_rfl) (by kernel_rfl)
theorem g0d (os:Os):Input.okWideB Tryz.prog ((c7t os).forCall (fun _ _=>0) ⟨#[],#[.agg #[.slice none 0 0],.agg #[.slice none 0 0],.int .u16 0],[]⟩) 4 ⟨#[],#[.agg #[.slice none 0 0],.agg #[.slice none 0 0],.int .u16 0],[]⟩=true:=by kernel_rfl
theorem f8j {H:Type} (enc:TypeId×Value→H) (os:Os):Rows.sheafCopiedSpec.preB enc Tryz.prog Tryz.f4 [] Rows.sheafCopiedRow.apart ((c7t os).forCall (fun _ _=>0) ⟨#[],#[.agg #[.slice none 0 0],.agg #[.slice none 0 0],.int .u16 0],[]⟩).memory #[.agg #[.slice none 0 0],.agg #[.slice none 0 0],.int .u16 0] 8=true:=by kernel_rfl
theorem g1l {H:Type} (enc:TypeId×Value→H) (os:Os):Rows.sheafCopiedSpec.sizedB enc Tryz.prog Tryz.f4 Rows.sheafCopiedRow.apart ((c7t os).forCall (fun _ _=>0) ⟨#[],#[.agg #[.slice none 0 0],.agg #[.slice none 0 0],.int .u16 0],[]⟩).memory #[.agg #[.slice none 0 0],.agg #[.slice none 0 0],.int .u16 0] 8=true:=by kernel_rfl
theorem b2h:Rows.SheafCopiedSaid :=
 OpenClaim.holds_of_wide 4 Tryz.f4 rfl rfl rfl rfl rfl rfl rfl ⟨rfl,rfl,rfl,rfl,rfl⟩ rfl rfl rfl rfl rfl (by kernel_rfl) Tryz.func4 g0v
  (of_decide_eq_true (by kernel_rfl)) (by unfold Func.isWrapper;first|(rw [if_pos (by decide +kernel)];kernel_rfl)|(rw [if_neg (by decide +kernel)];exact ⟨rfl,rfl⟩))
  (fun os started H enc _=>e3z (C:=Tryz.checked) (ts:=[24,24,48]) (tb:=4) (s:=Rows.sheafCopiedSpec) (laid:=Rows.sheafCopiedRow.laid) (c3u c5h) Tryz.func4 (by kernel_rfl) (by kernel_rfl) Tryz.underlying4 rfl e6r (by kernel_rfl) e3i (by decide +kernel)
   (fun H ds h=>by
    match ds,h with
    |[d1,d2,d3],_=>exact ⟨rfl,rfl,rfl⟩)
   (.cons c8k (.cons c8k (.cons f0x .nil)))
   (fun ⟨t,u,d,_⟩ h=>b6q t u d h.2.2.1) os started H enc
   (ChangeSpec.witness_shaped (enc:=enc) (C:=Tryz.checked) (os:=os) (X:=fun w _=>laidMetH Tryz.prog Rows.sheafCopiedRow.laid w) false (c7t os) #[.agg #[.slice none 0 0],.agg #[.slice none 0 0],.int .u16 0] 8 (f0l os) (c7g os _) (g0d os) (f8j enc os) (g1l enc os) (d3j os _)))
theorem SheafCopied_card:Rows.SheafCopiedCardSaid :=
 Claim7.holds_tied_plain_at .later [] [.data,.data,.data,.data,.sentinel,.sentinel,.funcs,.funcs,.widerDeep,.funcsDeep,.pinned] true Rows.sheafCopiedCard.stood.harness true
  b2h (fun _ h=>by cases h) (by kernel_rfl) (fun _ h=>by cases h) sheafCopied_row_tie rfl ⟨rfl,rfl⟩ (by kernel_rfl) rfl
  (fun f fn hf hfn=>by
   obtain rfl:f=4:=Option.some.inj ((show Tryz.prog.funcNamed "postil/postillaw11.SheafCopied"=some 4 by kernel_rfl).symm.trans hf) |>.symm
   obtain rfl:fn=Tryz.f4:=(Option.some.inj (Tryz.func4.symm.trans hfn)).symm
   exact ⟨by kernel_rfl,fun j t ht=>by
    have hm:t ∈ [24,24,48]:=by simpa using Array.mem_of_getElem? ht
    have hall:([24,24,48].all fun u=>!Tryz.prog.wantsStandIn u)=true:=by kernel_rfl
    exact (show Tryz.prog.wantsStandIn t=false by simpa using List.all_eq_true.1 hall t hm)⟩)
  (by kernel_rfl)
end Go.Proofs.YtmjhfccbbfpppaaGreatDoor
