import Derived.Test.YtmjhfccbbfpppaaGreatDoorTie
import Derived.Test.YtmjhfccbbfpppaaGreatDoorCards
import Derived.SevenTiedAt
import Derived.LaidOnce
import Derived.Lay
import Derived.Test.YtmjhfccbbfpppaaGreatDoorQX04
import Derived.Test.YtmjhfccbbfpppaaGreatDoorQX22
import Derived.Test.YtmjhfccbbfpppaaGreatDoorQX25
import Derived.Test.YtmjhfccbbfpppaaGreatDoorQX32
import Derived.Test.YtmjhfccbbfpppaaGreatDoorQX34
import Derived.Test.YtmjhfccbbfpppaaGreatDoorQX38
import Derived.Test.YtmjhfccbbfpppaaGreatDoorQX54
import Derived.Test.YtmjhfccbbfpppaaGreatDoorQX49
namespace Go.Proofs.YtmjhfccbbfpppaaGreatDoor
open Go Pm Go.RowKit Go.ChangeShapes Go.WideShapes Go.ChangeAt
set_option linter.unusedSimpArgs false
set_option linter.unusedVariables false
set_option maxRecDepth 100000
theorem g2c:Pm.Rd Tryz.prog 5 (fun n:UInt8=>[.v (.int .u8 n.toNat)]) (fun _=>True) :=
 (Rd.int Tryz.underlying5).map fun n h=>by
  have h2:0≤n∧n≤255:=by simpa [Lit.wf,IntKind.min,IntKind.max,IntKind.signed,IntKind.bits] using h
  refine ⟨UInt8.ofNat n.toNat,trivial,?_⟩
  have e:(UInt8.ofNat n.toNat).toNat=n.toNat:=by
   rw [UInt8.toNat_ofNat']
   omega
  rw [e,Int.toNat_of_nonneg h2.1]
theorem e7c:Pm.Rd Tryz.prog 84 (fun p:Int×Int×Int=>[i64 p.1,i64 p.2.1,i64 p.2.2]) (fun _=>True) :=
 (Rd.struct Tryz.underlying84 (by kernel_rfl) (by kernel_rfl) (.cons c2e (.cons c2e (.cons c2e .nil)))).map fun ⟨a,b,c,_⟩ _=>⟨(a,b,c),trivial,rfl⟩
theorem d3s:Pm.Rd Tryz.prog 148 rdE (fun _=>True) :=
 (Rd.struct Tryz.underlying148 (by kernel_rfl) (by kernel_rfl) (.cons e7c (.cons g2c (.cons c5t .nil)))).map fun ⟨⟨a,b,c⟩,k,w,_⟩ _=>⟨⟨a,b,c,k,w⟩,trivial,rfl⟩
theorem c6e:Pm.Rd Tryz.prog 25 (fun l=>[rds 0 l]) (fun _=>True) :=
 (Rd.slice (sz:=5) Tryz.underlying25 (by kernel_rfl) (by decide) (by kernel_rfl) (fun _=>rfl) d3s).map fun l _=>⟨l,trivial,rfl⟩
theorem f3x:Pm.Rd Tryz.prog 27 (cpC 0) (fun _=>True) :=
 (Rd.struct Tryz.underlying27 (by kernel_rfl) (by kernel_rfl) (.cons c2e (.cons c6e .nil))).map fun ⟨a,l,_⟩ _=>⟨⟨a,l⟩,trivial,rfl⟩
theorem e8w:RdV Tryz.prog 24 (fun t:List Ch=>txE 0 t) f3c:=.struct Tryz.underlying24 f0o
theorem e8g:RdV Tryz.prog 27 (cpE 0) (fun _=>True):=.struct Tryz.underlying27 f3x
noncomputable def c8l (os:Os):World:=(World.doorLaid Tryz.prog 200 os).layVars Tryz.prog [("unicode/utf8.first",Rows.laid_unicode_utf8_first)]
theorem c7c (P:Program) (n:Nat) (os:Os):(World.doorLaid P n os).os=os:=rfl
theorem f4a (os:Os):(c8l os).os=os:=(World.layVars_os _ _ _).trans (c7c _ _ _)
theorem c8t (os:Os) (args:Array Value):((c8l os).forCall (fun _ _=>0) ⟨#[],args,[]⟩).Shaped Tryz.prog:=World.shaped_of_ZipB (by kernel_rfl) (by kernel_rfl)
open Go Pm Go.RowKit Go.ChangeShapes Go.WideShapes Go.ChangeAt
set_option maxRecDepth 100000
theorem c8g:∀ x ∈ b1u,x ∈ Rows.sheafWordsRow.laid:=by
 unfold b1u Rows.sheafWordsRow
 simp
theorem d2y (os:Os) (args:Array Value):laidMetH Tryz.prog Rows.sheafWordsRow.laid ((c8l os).forCall (fun _ _=>0) ⟨#[],args,[]⟩).memory :=
 laidMetH_of_parts3 (fuel:=8) (laidMet_of_run' 8 (by kernel_rfl) (by kernel_rfl)) (by kernel_rfl) (by kernel_rfl)
theorem g0z (os:Os):Input.okWideB Tryz.prog ((c8l os).forCall (fun _ _=>0) ⟨#[],#[.agg #[.slice none 0 0],.agg #[.int .i64 0,.slice none 0 0]],[]⟩) 3 ⟨#[],#[.agg #[.slice none 0 0],.agg #[.int .i64 0,.slice none 0 0]],[]⟩=true:=by kernel_rfl
theorem f7c {H:Type} (enc:TypeId×Value→H) (os:Os):Rows.sheafWordsSpec.preB enc Tryz.prog Tryz.f3 [] Rows.sheafWordsRow.apart ((c8l os).forCall (fun _ _=>0) ⟨#[],#[.agg #[.slice none 0 0],.agg #[.int .i64 0,.slice none 0 0]],[]⟩).memory #[.agg #[.slice none 0 0],.agg #[.int .i64 0,.slice none 0 0]] 8=true:=by kernel_rfl
theorem g2u {H:Type} (enc:TypeId×Value→H) (os:Os):Rows.sheafWordsSpec.sizedB enc Tryz.prog Tryz.f3 Rows.sheafWordsRow.apart ((c8l os).forCall (fun _ _=>0) ⟨#[],#[.agg #[.slice none 0 0],.agg #[.int .i64 0,.slice none 0 0]],[]⟩).memory #[.agg #[.slice none 0 0],.agg #[.int .i64 0,.slice none 0 0]] 8=true:=by kernel_rfl
theorem b3s:Rows.SheafWordsSaid :=
 OpenClaim.holds_of_wide 3 Tryz.f3 rfl rfl rfl rfl rfl rfl rfl ⟨rfl,rfl,rfl,rfl,rfl⟩ rfl rfl rfl rfl rfl (by kernel_rfl) Tryz.func3 g1j
  (of_decide_eq_true (by kernel_rfl)) (by unfold Func.isWrapper;first|(rw [if_pos (by decide +kernel)];kernel_rfl)|(rw [if_neg (by decide +kernel)];exact ⟨rfl,rfl⟩))
  (fun os started H enc _=>e7a (C:=Tryz.checked) (ts:=[24,27]) (tb:=4) (s:=Rows.sheafWordsSpec) (laid:=Rows.sheafWordsRow.laid) (c2z c8g) Tryz.func3 (by kernel_rfl) (by kernel_rfl) Tryz.underlying4 rfl e6e (by kernel_rfl) e6l (by decide +kernel)
   (fun H ds h=>by
    match ds,h with
    |[d1,d2],_=>exact ⟨rfl,rfl,rfl⟩)
   (.cons e8w (.cons e8g .nil))
   (fun ⟨t,c,_⟩ h=>c0z t c) os started H enc
   (ChangeSpec.witness_shaped (enc:=enc) (C:=Tryz.checked) (os:=os) (X:=fun w _=>laidMetH Tryz.prog Rows.sheafWordsRow.laid w) false (c8l os) #[.agg #[.slice none 0 0],.agg #[.int .i64 0,.slice none 0 0]] 8 (f4a os) (c8t os _) (g0z os) (f7c enc os) (g2u enc os) (d2y os _)))
theorem SheafWords_card:Rows.SheafWordsCardSaid :=
 Claim7.holds_tied_plain_at .later [] [.data,.data,.data,.data,.sentinel,.sentinel,.funcs,.funcs,.widerDeep,.funcsDeep,.pinned] true Rows.sheafWordsCard.stood.harness true
  b3s (fun _ h=>by cases h) (by kernel_rfl) (fun _ h=>by cases h) sheafWords_row_tie rfl ⟨rfl,rfl⟩ (by kernel_rfl) rfl
  (fun f fn hf hfn=>by
   obtain rfl:f=3:=Option.some.inj ((show Tryz.prog.funcNamed "postil/postillaw11.SheafWords"=some 3 by kernel_rfl).symm.trans hf) |>.symm
   obtain rfl:fn=Tryz.f3:=(Option.some.inj (Tryz.func3.symm.trans hfn)).symm
   exact ⟨by kernel_rfl,fun j t ht=>by
    have hm:t ∈ [24,27]:=by simpa using Array.mem_of_getElem? ht
    have hall:([24,27].all fun u=>!Tryz.prog.wantsStandIn u)=true:=by kernel_rfl
    exact (show Tryz.prog.wantsStandIn t=false by simpa using List.all_eq_true.1 hall t hm)⟩)
  (by kernel_rfl)
end Go.Proofs.YtmjhfccbbfpppaaGreatDoor
