import Derived.Test.YtmjhfccbbfpppaaGreatDoorQY28
import Derived.Test.YtmjhfccbbfpppaaGreatDoorQY29
import Derived.Test.YtmjhfccbbfpppaaGreatDoorQY31
import Derived.Test.YtmjhfccbbfpppaaGreatDoorQY39
import Derived.Test.YtmjhfccbbfpppaaGreatDoorQY44
import Derived.Test.YtmjhfccbbfpppaaGreatDoorQY46
namespace Go.Proofs.YtmjhfccbbfpppaaGreatDoor
open Go Pm
set_option linter.unusedSimpArgs false
set_option linter.unusedVariables false
theorem join_cons (a b:ByteArray) (l:List ByteArray):a1o (a::b::l)=a++(⟨#[32]⟩++a1o (b::l)):=by
 refine d8v ?_
 simp only [a1o,c0m,ByteArray.data_append,Array.toList_append]
 simp [List.intercalate,List.intersperse]
def g5g (s:ByteArray):Prop:=∀ b ∈ s.data.toList,b≠32
structure OKch (c:Ch):Prop where
 id:in9 c.id
 ln:∀ r ∈ c.lines,a4c r=true
open Go Pm
structure OKrd (r:Rd):Prop where
 ch:in9 r.ch
 ln:in9 r.ln
 wd:in9 r.wd
 good:b4p r
open Go Pm
structure PDc (d:Dc):Prop where
 num:in9 d.num
 form:g5g d.form
 stem:g5g d.stem
 pl:in9 d.ch∧in9 d.ln∧in9 d.wd
 of:in9 d.of
structure PRl (r:Rl):Prop where
 cut:a1p r.cut=true
 put:r.put=⟨#[]⟩∨a1p r.put=true
 least:in9 r.least
structure QDc (d:Dc):Prop where
 num:in9 d.num
 stem:in9 d.of
 pl:in9 d.ch∧in9 d.ln∧in9 d.wd
 is:((d.kind.toNat:Int)=1∧a1p d.form=true∧a1p d.stem=true∧d=⟨d.num,1,d.form,0,0,0,d.stem,d.mark,0⟩) ∨
  ((d.kind.toNat:Int)=2∧a1p d.form=true∧a1p d.stem=true∧d=⟨d.num,2,d.form,d.ch,d.ln,d.wd,d.stem,d.mark,0⟩) ∨
  ((d.kind.toNat:Int)=3∧a1p d.stem=true∧d=⟨d.num,3,⟨#[]⟩,d.ch,d.ln,d.wd,d.stem,d.mark,0⟩) ∨
  ((d.kind.toNat:Int)=4∧d=⟨d.num,4,⟨#[]⟩,0,0,0,⟨#[]⟩,0,d.of⟩)
theorem z9:in9 0:=⟨by omega,by omega⟩
open Go Pm
def c1 (s:ByteArray) (i:Int):UInt8:=UInt8.ofNat (97+(c9z s i s.size / 26).toNat)
def c2 (s:ByteArray) (i:Int):UInt8:=UInt8.ofNat (97+(c9z s i s.size % 26).toNat)
open Go Pm
structure GSi (s:Si):Prop where
 bef:e4c s.bef=true
 aft:e4c s.aft=true
 word:a1p s.word=true
 pl:in9 s.ch∧in9 s.ln∧in9 s.wd
end Go.Proofs.YtmjhfccbbfpppaaGreatDoor
