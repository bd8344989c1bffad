import Derived.Test.YtmjhfccbbfpppaaGreatDoorTie
import Derived.Test.YtmjhfccbbfpppaaGreatDoorCards
import Derived.SevenTiedAt
import Derived.LaidOnce
import Derived.Lay
import Derived.Test.YtmjhfccbbfpppaaGreatDoorQB06
import Derived.Test.YtmjhfccbbfpppaaGreatDoorQB17
import Derived.Test.YtmjhfccbbfpppaaGreatDoorQB24
import Derived.Test.YtmjhfccbbfpppaaGreatDoorQB28
import Derived.Test.YtmjhfccbbfpppaaGreatDoorQB30
import Derived.Test.YtmjhfccbbfpppaaGreatDoorQB36
import Derived.Test.YtmjhfccbbfpppaaGreatDoorQB53
namespace Go.Proofs.YtmjhfccbbfpppaaGreatDoor
open Go Pm Go.RowKit Go.ChangeShapes Go.WideShapes Go.ChangeAt
set_option linter.unusedSimpArgs false
set_option linter.unusedVariables false
set_option maxRecDepth 100000
theorem g4d:Pm.Rd Tryz.prog 5 (fun n:UInt8=>[.v (.int .u8 n.toNat)]) (fun _=>True) :=
 (Rd.int Tryz.underlying5).map fun n h=>by
  have h2:0≤n∧n≤255:=by simpa [Lit.wf,IntKind.min,IntKind.max,IntKind.signed,IntKind.bits] using h
  refine ⟨UInt8.ofNat n.toNat,trivial,?_⟩
  have e:(UInt8.ofNat n.toNat).toNat=n.toNat:=by
   rw [UInt8.toNat_ofNat']
   omega
  rw [e,Int.toNat_of_nonneg h2.1]
theorem e8h:Pm.Rd Tryz.prog 84 (fun p:Int×Int×Int=>[i64 p.1,i64 p.2.1,i64 p.2.2]) (fun _=>True) :=
 (Rd.struct Tryz.underlying84 (by kernel_rfl) (by kernel_rfl) (.cons b6i (.cons b6i (.cons b6i .nil)))).map fun ⟨a,b,c,_⟩ _=>⟨(a,b,c),trivial,rfl⟩
theorem f7w:Pm.Rd Tryz.prog 166 rlC (fun _=>True) :=
 (Rd.struct Tryz.underlying166 (by kernel_rfl) (by kernel_rfl) (.cons b0b (.cons b0b (.cons b6i .nil)))).map fun ⟨a,b,c,_⟩ _=>⟨⟨a,b,c⟩,trivial,rfl⟩
theorem e8w:Pm.Rd Tryz.prog 59 (fun l=>[rls 0 l]) (fun _=>True) :=
 (Rd.slice (sz:=3) Tryz.underlying59 (by kernel_rfl) (by decide) (by kernel_rfl) (fun _=>rfl) f7w).map fun l _=>⟨l,trivial,rfl⟩
theorem f7p:Pm.Rd Tryz.prog 98 (fun h:ByteArray×UInt8=>[str h.1,u8 h.2]) (fun _=>True) :=
 (Rd.struct Tryz.underlying98 (by kernel_rfl) (by kernel_rfl) (.cons b0b (.cons g4d .nil))).map fun ⟨a,b,_⟩ _=>⟨(a,b),trivial,rfl⟩
theorem g0u:Pm.Rd Tryz.prog 178 dcC (fun _=>True) :=
 (Rd.struct Tryz.underlying178 (by kernel_rfl) (by kernel_rfl) (.cons b6i (.cons g4d (.cons b0b (.cons e8h (.cons f7p (.cons b6i .nil))))))).map fun ⟨n,k,f,⟨a,b,c⟩,⟨s,m⟩,o,_⟩ _=>⟨⟨n,k,f,a,b,c,s,m,o⟩,trivial,rfl⟩
theorem f5v:Pm.Rd Tryz.prog 60 (fun l=>[dcs 0 l]) (fun _=>True) :=
 (Rd.slice (sz:=9) Tryz.underlying60 (by kernel_rfl) (by decide) (by kernel_rfl) (fun _=>rfl) g0u).map fun l _=>⟨l,trivial,rfl⟩
theorem g1a:Pm.Rd Tryz.prog 62 (lxC 0) (fun _=>True) :=
 (Rd.struct Tryz.underlying62 (by kernel_rfl) (by kernel_rfl) (.cons e8w (.cons f5v .nil))).map fun ⟨a,b,_⟩ _=>⟨⟨a,b⟩,trivial,rfl⟩
theorem e7i:RdV Tryz.prog 24 (fun t:List Ch=>txE 0 t) f3q:=.struct Tryz.underlying24 f7k
theorem f7x:RdV Tryz.prog 62 (lxE 0) (fun _=>True):=.struct Tryz.underlying62 g1a
noncomputable def c9d (os:Os):World:=(World.doorLaid Tryz.prog 200 os).layVars Tryz.prog [("unicode/utf8.first",Rows.laid_unicode_utf8_first)]
theorem c8n (P:Program) (n:Nat) (os:Os):(World.doorLaid P n os).os=os:=rfl
theorem f9b (os:Os):(c9d os).os=os:=(World.layVars_os _ _ _).trans (c8n _ _ _)
theorem c9z (os:Os) (args:Array Value):((c9d os).forCall (fun _ _=>0) ⟨#[],args,[]⟩).Shaped Tryz.prog:=World.shaped_of_ZipB (by kernel_rfl) (by kernel_rfl)
open Go Pm Go.RowKit Go.ChangeShapes Go.WideShapes Go.ChangeAt
theorem g0r:Pm.Rd Tryz.prog 48 (fun n:Nat=>[.v (.int .u16 n)]) (fun n=>n < 65536) :=
 (Rd.int Tryz.underlying48).map fun n h=>by
  have:0≤n∧n≤65535:=by simpa [Lit.wf,IntKind.min,IntKind.max,IntKind.signed,IntKind.bits] using h
  exact ⟨n.toNat,by omega,by rw [Int.toNat_of_nonneg this.1]⟩
theorem f4z:RdV Tryz.prog 48 (fun n:Nat=>.v (.int .u16 n)) (fun n=>n < 65536):=.one (e3r Tryz.underlying48) g0r
theorem c7e:∀ x ∈ b2n,x ∈ Rows.sheafLexiconRow.laid:=by
 unfold b2n Rows.sheafLexiconRow
 simp
theorem d3m (os:Os) (args:Array Value):laidMetH Tryz.prog Rows.sheafLexiconRow.laid ((c9d os).forCall (fun _ _=>0) ⟨#[],args,[]⟩).memory :=
 laidMetH_of_parts3 (fuel:=8) (laidMet_of_run' 8 (by kernel_rfl) (by kernel_rfl)) (by kernel_rfl) (by kernel_rfl)
theorem g7z (os:Os):Input.okWideB Tryz.prog ((c9d os).forCall (fun _ _=>0) ⟨#[],#[.agg #[.slice none 0 0],.agg #[.slice none 0 0,.slice none 0 0],.int .u16 0],[]⟩) 7 ⟨#[],#[.agg #[.slice none 0 0],.agg #[.slice none 0 0,.slice none 0 0],.int .u16 0],[]⟩=true:=by kernel_rfl
theorem g0f {H:Type} (enc:TypeId×Value→H) (os:Os):Rows.sheafLexiconSpec.preB enc Tryz.prog Tryz.f7 [] Rows.sheafLexiconRow.apart ((c9d os).forCall (fun _ _=>0) ⟨#[],#[.agg #[.slice none 0 0],.agg #[.slice none 0 0,.slice none 0 0],.int .u16 0],[]⟩).memory #[.agg #[.slice none 0 0],.agg #[.slice none 0 0,.slice none 0 0],.int .u16 0] 8=true:=by kernel_rfl
theorem g6q {H:Type} (enc:TypeId×Value→H) (os:Os):Rows.sheafLexiconSpec.sizedB enc Tryz.prog Tryz.f7 Rows.sheafLexiconRow.apart ((c9d os).forCall (fun _ _=>0) ⟨#[],#[.agg #[.slice none 0 0],.agg #[.slice none 0 0,.slice none 0 0],.int .u16 0],[]⟩).memory #[.agg #[.slice none 0 0],.agg #[.slice none 0 0,.slice none 0 0],.int .u16 0] 8=true:=by kernel_rfl
theorem b2l:Rows.SheafLexiconSaid :=
 OpenClaim.holds_of_wide 7 Tryz.f7 rfl rfl rfl rfl rfl rfl rfl ⟨rfl,rfl,rfl,rfl,rfl⟩ rfl rfl rfl rfl rfl (by kernel_rfl) Tryz.func7 g8b
  (of_decide_eq_true (by kernel_rfl)) (by unfold Func.isWrapper;first|(rw [if_pos (by decide +kernel)];kernel_rfl)|(rw [if_neg (by decide +kernel)];exact ⟨rfl,rfl⟩))
  (fun os started H enc _=>f1z (C:=Tryz.checked) (ts:=[24,62,48]) (tb:=4) (s:=Rows.sheafLexiconSpec) (laid:=Rows.sheafLexiconRow.laid) (c4l c7e) Tryz.func7 (by kernel_rfl) (by kernel_rfl) Tryz.underlying4 rfl e9n (by kernel_rfl) e6g (by decide +kernel)
   (fun H ds h=>by
    match ds,h with
    |[d1,d2,d3],_=>exact ⟨rfl,rfl,rfl⟩)
   (.cons e7i (.cons f7x (.cons f4z .nil)))
   (fun ⟨t,x,d,_⟩ h=>b5m t x d h.2.2.1) os started H enc
   (ChangeSpec.witness_shaped (enc:=enc) (C:=Tryz.checked) (os:=os) (X:=fun w _=>laidMetH Tryz.prog Rows.sheafLexiconRow.laid w) false (c9d os) #[.agg #[.slice none 0 0],.agg #[.slice none 0 0,.slice none 0 0],.int .u16 0] 8 (f9b os) (c9z os _) (g7z os) (g0f enc os) (g6q enc os) (d3m os _)))
theorem SheafLexicon_card:Rows.SheafLexiconCardSaid :=
 Claim7.holds_tied_plain_at .later [] [.data,.data,.data,.data,.sentinel,.sentinel,.funcs,.funcs,.widerDeep,.funcsDeep,.pinned] true Rows.sheafLexiconCard.stood.harness true
  b2l (fun _ h=>by cases h) (by kernel_rfl) (fun _ h=>by cases h) sheafLexicon_row_tie rfl ⟨rfl,rfl⟩ (by kernel_rfl) rfl
  (fun f fn hf hfn=>by
   obtain rfl:f=7:=Option.some.inj ((show Tryz.prog.funcNamed "postil/postillaw11.SheafLexicon"=some 7 by kernel_rfl).symm.trans hf) |>.symm
   obtain rfl:fn=Tryz.f7:=(Option.some.inj (Tryz.func7.symm.trans hfn)).symm
   exact ⟨by kernel_rfl,fun j t ht=>by
    have hm:t ∈ [24,62,48]:=by simpa using Array.mem_of_getElem? ht
    have hall:([24,62,48].all fun u=>!Tryz.prog.wantsStandIn u)=true:=by kernel_rfl
    exact (show Tryz.prog.wantsStandIn t=false by simpa using List.all_eq_true.1 hall t hm)⟩)
  (by kernel_rfl)
end Go.Proofs.YtmjhfccbbfpppaaGreatDoor
