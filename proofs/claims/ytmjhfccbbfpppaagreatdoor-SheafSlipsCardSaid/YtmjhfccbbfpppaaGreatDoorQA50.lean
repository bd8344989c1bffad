import Derived.Test.YtmjhfccbbfpppaaGreatDoorTie
import Derived.Test.YtmjhfccbbfpppaaGreatDoorCards
import Derived.SevenTiedAt
import Derived.LaidOnce
import Derived.Lay
import Derived.Test.YtmjhfccbbfpppaaGreatDoorQA06
import Derived.Test.YtmjhfccbbfpppaaGreatDoorQA09
import Derived.Test.YtmjhfccbbfpppaaGreatDoorQA20
import Derived.Test.YtmjhfccbbfpppaaGreatDoorQA25
import Derived.Test.YtmjhfccbbfpppaaGreatDoorQA30
import Derived.Test.YtmjhfccbbfpppaaGreatDoorQA32
import Derived.Test.YtmjhfccbbfpppaaGreatDoorQA38
import Derived.Test.YtmjhfccbbfpppaaGreatDoorQA54
import Derived.Test.YtmjhfccbbfpppaaGreatDoorQA49
namespace Go.Proofs.YtmjhfccbbfpppaaGreatDoor
open Go Pm Go.RowKit Go.ChangeShapes Go.WideShapes Go.ChangeAt
set_option linter.unusedSimpArgs false
set_option linter.unusedVariables false
set_option maxRecDepth 100000
theorem e9k:RdV Tryz.prog 24 (fun t:List Ch=>txE 0 t) f4k:=.struct Tryz.underlying24 f5x
noncomputable def c8g (os:Os):World:=(World.doorLaid Tryz.prog 200 os).layVars Tryz.prog [("unicode/utf8.first",Rows.laid_unicode_utf8_first)]
theorem c8e (P:Program) (n:Nat) (os:Os):(World.doorLaid P n os).os=os:=rfl
theorem f4r (os:Os):(c8g os).os=os:=(World.layVars_os _ _ _).trans (c8e _ _ _)
theorem c9c (os:Os) (args:Array Value):((c8g os).forCall (fun _ _=>0) ⟨#[],args,[]⟩).Shaped Tryz.prog:=World.shaped_of_ZipB (by kernel_rfl) (by kernel_rfl)
open Go Pm Go.RowKit Go.ChangeShapes Go.WideShapes Go.ChangeAt
set_option maxRecDepth 100000
theorem g0b:Pm.Rd Tryz.prog 48 (fun n:Nat=>[.v (.int .u16 n)]) (fun n=>n < 65536) :=
 (Rd.int Tryz.underlying48).map fun n h=>by
  have:0≤n∧n≤65535:=by simpa [Lit.wf,IntKind.min,IntKind.max,IntKind.signed,IntKind.bits] using h
  exact ⟨n.toNat,by omega,by rw [Int.toNat_of_nonneg this.1]⟩
theorem e4i:RdV Tryz.prog 48 (fun n:Nat=>.v (.int .u16 n)) (fun n=>n < 65536):=.one (e2v Tryz.underlying48) g0b
theorem g2t:Pm.Rd Tryz.prog 5 (fun n:Nat=>[.v (.int .u8 n)]) (fun n=>n < 256) :=
 (Rd.int Tryz.underlying5).map fun n h=>by
  have:0≤n∧n≤255:=by simpa [Lit.wf,IntKind.min,IntKind.max,IntKind.signed,IntKind.bits] using h
  exact ⟨n.toNat,by omega,by rw [Int.toNat_of_nonneg this.1]⟩
theorem f9x:Pm.Rd Tryz.prog 103 cuC (fun c=>0≤c.s∧c.s≤255) :=
 (Rd.struct Tryz.underlying103 (by kernel_rfl) (by kernel_rfl) (.cons f0w (.cons g2t .nil))).map fun ⟨a,b,_⟩ ⟨h1,h2,_⟩=>⟨⟨a,b⟩,⟨Int.natCast_nonneg b,by have h3:b < 256:=h2;show (b:Int)≤255;omega⟩,rfl⟩
theorem f6l:RdV Tryz.prog 103 (fun c=>.agg (cuC c)) (fun c=>0≤c.s∧c.s≤255):=.struct Tryz.underlying103 f9x
theorem c8o:∀ x ∈ b2g,x ∈ Rows.sheafSlipsRow.laid:=by
 unfold b2g Rows.sheafSlipsRow
 simp
theorem d3q (os:Os) (args:Array Value):laidMetH Tryz.prog Rows.sheafSlipsRow.laid ((c8g os).forCall (fun _ _=>0) ⟨#[],args,[]⟩).memory :=
 laidMetH_of_parts3 (fuel:=8) (laidMet_of_run' 8 (by kernel_rfl) (by kernel_rfl)) (by kernel_rfl) (by kernel_rfl)
theorem g2x (os:Os):Input.okWideB Tryz.prog ((c8g os).forCall (fun _ _=>0) ⟨#[],#[.agg #[.slice none 0 0],.agg #[.int .i64 0,.int .u8 0],.int .u16 0,.int .u16 0],[]⟩) 8 ⟨#[],#[.agg #[.slice none 0 0],.agg #[.int .i64 0,.int .u8 0],.int .u16 0,.int .u16 0],[]⟩=true:=by kernel_rfl
theorem f7q {H:Type} (enc:TypeId×Value→H) (os:Os):Rows.sheafSlipsSpec.preB enc Tryz.prog Tryz.f8 [] Rows.sheafSlipsRow.apart ((c8g os).forCall (fun _ _=>0) ⟨#[],#[.agg #[.slice none 0 0],.agg #[.int .i64 0,.int .u8 0],.int .u16 0,.int .u16 0],[]⟩).memory #[.agg #[.slice none 0 0],.agg #[.int .i64 0,.int .u8 0],.int .u16 0,.int .u16 0] 8=true:=by kernel_rfl
theorem g2m {H:Type} (enc:TypeId×Value→H) (os:Os):Rows.sheafSlipsSpec.sizedB enc Tryz.prog Tryz.f8 Rows.sheafSlipsRow.apart ((c8g os).forCall (fun _ _=>0) ⟨#[],#[.agg #[.slice none 0 0],.agg #[.int .i64 0,.int .u8 0],.int .u16 0,.int .u16 0],[]⟩).memory #[.agg #[.slice none 0 0],.agg #[.int .i64 0,.int .u8 0],.int .u16 0,.int .u16 0] 8=true:=by kernel_rfl
theorem b4d:Rows.SheafSlipsSaid :=
 OpenClaim.holds_of_wide 8 Tryz.f8 rfl rfl rfl rfl rfl rfl rfl ⟨rfl,rfl,rfl,rfl,rfl⟩ rfl rfl rfl rfl rfl (by kernel_rfl) Tryz.func8 g4k
  (of_decide_eq_true (by kernel_rfl)) (by unfold Func.isWrapper;first|(rw [if_pos (by decide +kernel)];kernel_rfl)|(rw [if_neg (by decide +kernel)];exact ⟨rfl,rfl⟩))
  (fun os started H enc _=>e6e (C:=Tryz.checked) (ts:=[24,103,48,48]) (tb:=4) (s:=Rows.sheafSlipsSpec) (laid:=Rows.sheafSlipsRow.laid) (c5j c8o) Tryz.func8 (by kernel_rfl) (by kernel_rfl) Tryz.underlying4 rfl f0c (by kernel_rfl) e9w (by decide +kernel)
   (fun H ds h=>by
    match ds,h with
    |[d1,d2,d3,d4],_=>exact ⟨rfl,rfl,rfl⟩)
   (.cons e9k (.cons f6l (.cons e4i (.cons e4i .nil))))
   (fun ⟨t,c,a,b,_⟩ h=>c1s t c a b h.2.1 h.2.2.1 h.2.2.2.1) os started H enc
   (ChangeSpec.witness_shaped (enc:=enc) (C:=Tryz.checked) (os:=os) (X:=fun w _=>laidMetH Tryz.prog Rows.sheafSlipsRow.laid w) false (c8g os) #[.agg #[.slice none 0 0],.agg #[.int .i64 0,.int .u8 0],.int .u16 0,.int .u16 0] 8 (f4r os) (c9c os _) (g2x os) (f7q enc os) (g2m enc os) (d3q os _)))
theorem SheafSlips_card:Rows.SheafSlipsCardSaid :=
 Claim7.holds_tied_plain_at .later [] [.data,.data,.data,.data,.sentinel,.sentinel,.funcs,.funcs,.funcs,.widerDeep,.funcsDeep,.pinned] true Rows.sheafSlipsCard.stood.harness true
  b4d (fun _ h=>by cases h) (by kernel_rfl) (fun _ h=>by cases h) sheafSlips_row_tie rfl ⟨rfl,rfl⟩ (by kernel_rfl) rfl
  (fun f fn hf hfn=>by
   obtain rfl:f=8:=Option.some.inj ((show Tryz.prog.funcNamed "postil/postillaw11.SheafSlips"=some 8 by kernel_rfl).symm.trans hf) |>.symm
   obtain rfl:fn=Tryz.f8:=(Option.some.inj (Tryz.func8.symm.trans hfn)).symm
   exact ⟨by kernel_rfl,fun j t ht=>by
    have hm:t ∈ [24,103,48,48]:=by simpa using Array.mem_of_getElem? ht
    have hall:([24,103,48,48].all fun u=>!Tryz.prog.wantsStandIn u)=true:=by kernel_rfl
    exact (show Tryz.prog.wantsStandIn t=false by simpa using List.all_eq_true.1 hall t hm)⟩)
  (by kernel_rfl)
end Go.Proofs.YtmjhfccbbfpppaaGreatDoor
