import Derived.Test.YtmjhfccbbfpppaaGreatDoorQY15
import Derived.Test.YtmjhfccbbfpppaaGreatDoorQY23
import Derived.Test.YtmjhfccbbfpppaaGreatDoorQY29
import Derived.Test.YtmjhfccbbfpppaaGreatDoorQY31
import Derived.Test.YtmjhfccbbfpppaaGreatDoorQY33
namespace Go.Proofs.YtmjhfccbbfpppaaGreatDoor
open Go Pm
set_option linter.unusedSimpArgs false
set_option linter.unusedVariables false
set_option maxHeartbeats 4000000
set_option maxRecDepth 100000
structure Si where
 ch:Int
 ln:Int
 wd:Int
 word:ByteArray
 bef:ByteArray
 aft:ByteArray
def siC (s:Si):List V:=[i64 s.ch,i64 s.ln,i64 s.wd,str s.word,str s.bef,str s.aft]
def sis (lo:Nat) (l:List Si):V:=.lst lo 6 (l.map siC)
attribute [go_sem] siC sis
theorem c7n (l:List Si):a2y (l.map siC)=true:=a2t (fun _=>rfl) l
attribute [go_sem] c7n
def e4c (s:ByteArray):Bool:=decide (s=⟨#[]⟩) || (decide ((s.size:Int)≤80) && (a2e s).all a1p)
def b7b (s:Si):Bool:=e4c s.bef && e4c s.aft && a1p s.word
def bdS (s:Si):Prop:=s.word.size≤100000∧s.bef.size≤100000∧s.aft.size≤100000
theorem e8e (n lo hi:Int):a0o Tryz.prog 227 [i64 n,.fp [i64 lo],.fp [i64 hi]] (fun _=>bl (decide (n < lo) || decide (hi < n))):=by
 refine a0c (ow:=fun _=>false) Tryz.func227 Tryz.ntmps227 rfl rfl fun G hG hOw hNm hB=>?_;simp only [go_sem,hG,hOw]
 (repeat' with_reducible first|refine And.intro ?_ ?_|intro _|refine exP ?_ ?_);all_goals try omega
 ·rename_i h;rw [decide_eq_false h];rfl
 ·rename_i h;rw [decide_eq_true h];rfl
theorem f1v (lo hi:Int) (l:List Int):a0o Tryz.prog 178 [i64 lo,i64 hi,.lst 0 1 (l.map c4m)] (fun _=>bl (l.all fun n=>inB n lo hi)):=by
 refine a0c (ow:=fun _=>false) Tryz.func178 Tryz.ntmps178 rfl rfl fun G hG hOw hNm hB=>?_;simp only [go_sem,hG,hOw]
 refine a3h (fun i=>[3,4].contains i) ?_
 simp only [go_sem,hG,hOw]
 refine a0a (a4w _ [.fp [i64 lo],.fp [i64 hi]] (fun n=>decide (n < lo) || decide (hi < n)) l rfl (fun x _=>e8e x lo hi)) ?_
 simp only [go_sem,hG,hOw]
 rw [List.not_any_eq_all_not]
 congr 1
 funext n
 rw [Bool.eq_iff_iff];simp [inB]
theorem e8b (lo hi n:Int):a0o Tryz.prog 178 [i64 lo,i64 hi,.lst 0 1 [[i64 n]]] (fun _=>bl (inB n lo hi)):=by
 have:=f1v lo hi [n]
 simpa [c4m] using this
theorem e1q (b:UInt8):a0o Tryz.prog 232 [.v (.int .u8 b.toNat)] (fun _=>bl (!a2j b)):=by
 refine a0c (ow:=fun _=>false) Tryz.func232 Tryz.ntmps232 rfl rfl fun G hG hOw hNm hB=>?_;simp only [go_sem,hG,hOw]
 (repeat' with_reducible first|refine And.intro ?_ ?_|intro _|refine exP ?_ ?_);all_goals try omega
 ·rename_i h;simp [a2j];intro;omega
 ·rename_i h;simp [a2j];omega
theorem d0g (s:ByteArray):a0o Tryz.prog 185 [str s] (fun _=>bl (a1p s)):=by
 refine a0c (ow:=fun _=>false) Tryz.func185 Tryz.ntmps185 rfl rfl fun G hG hOw hNm hB=>?_;simp only [go_sem,hG,hOw]
 refine a0a (e8b 1 12 s.size) ?_
 simp only [go_sem,hG,hOw]
 (repeat' with_reducible first|refine And.intro ?_ ?_|intro _|refine exP ?_ ?_);all_goals try omega
 ·rename_i h;simp [inB] at h;omega
 ·rename_i h
  refine a0a (a3j _ [] (fun b=>!a2j b) s.data.toList rfl (fun b _=>e1q b)) ?_
  simp only [go_sem,hG,hOw]
  unfold a1p;rw [h,Bool.and_true,List.not_any_eq_all_not];simp
 ·rename_i h;unfold a1p;rw [h,Bool.and_false]
theorem c4a (s:ByteArray) (hs:s.size≤100000):a0o Tryz.prog 184 [str s] (fun n=>.tup [a0e n (if s=⟨#[]⟩ then [] else a2e s),bl (e4c s)]):=by
 by_cases h0:s=⟨#[]⟩
 ·subst h0
  have e:e4c ⟨#[]⟩=true:=by decide
  rw [if_pos rfl,e]
  refine a0c (ow:=fun _=>false) Tryz.func184 Tryz.ntmps184 rfl rfl fun G hG hOw hNm hB=>?_;simp only [go_sem,hG,hOw]
  exact Subs.tup (.cons (.nil _ _) (.cons (.refl _) .nil))
 ·have hpl:=a8k s
  have hW:e4c s=(decide ((s.size:Int)≤80) && (a2e s).all a1p):=by unfold e4c;rw [decide_eq_false h0,Bool.false_or]
  rw [if_neg h0,hW]
  have d0:=decide_eq_false h0
  have hpos:=d4k s
  refine a0c (ow:=fun _=>false) Tryz.func184 Tryz.ntmps184 rfl rfl fun G hG hOw hNm hB=>?_;simp only [go_sem,hG,hOw]
  (repeat' with_reducible first|refine And.intro ?_ ?_|intro _|refine exP ?_ ?_);all_goals try omega
  ·rename_i h;exact absurd h h0
  refine a0a (b1s s hs) ?_
  simp only [go_sem,hG,hOw]
  (repeat' with_reducible first|refine And.intro ?_ ?_|intro _|refine exP ?_ ?_);all_goals try omega
  refine a3g (fun _:Unit=>St.of [(4,a0e G.lo (a2e s)),(5,bl (decide ((s.size:Int)≤80) && (a2e s).all a1p))] []) (fun _=>True) ?_ ?_
  ·refine a0r (fun k:Nat=>St.of [(4,a0e G.lo (a2e s)),(5,bl (decide ((s.size:Int)≤80))),(15,a0e G.lo (a2e s)),(16,i64 (a2e s).length),(17,i64 k)] []) (fun k=>k≤(a2e s).length∧((a2e s).take k).all a1p=true) (fun k=>(a2e s).length - k) 0 (by simp) (a1j (by (simp only [go_sem])<;>simp) hNm) ?_
   rintro k ⟨hk,hall⟩
   by_cases hkl:k < (a2e s).length
   ·have hlt:(k:Int) < (a2e s).length:=by omega
    refine a0l _ _ _ ?_
    simp (maxSteps:=2000000) only [go_sem,hG,hOw,hlt]
    (repeat' with_reducible first|refine And.intro ?_ ?_|intro _|refine exP ?_ ?_);all_goals try omega
    refine a0a (d0g (a2e s)[k]) ?_
    cases hw:a1p (a2e s)[k] with
    |false =>
     have e:(a2e s).all a1p=false:=a8g hkl hw
     rw [e,Bool.and_false]
     simp only [go_sem,hG,hOw]
     (repeat' with_reducible first|refine And.intro ?_ ?_|intro _|refine exP ?_ ?_);all_goals try omega
     exact ⟨(),a1j (by (simp only [go_sem])<;>simp) hNm⟩
    |true =>
     simp only [go_sem,hG,hOw]
     (repeat' with_reducible first|refine And.intro ?_ ?_|intro _|refine exP ?_ ?_);all_goals try omega
     exact ⟨k+1,⟨by omega,a1k hkl hall hw⟩,by omega,a1j (by (simp only [go_sem])<;>simp) hNm⟩
   ·have hlt:¬ (k:Int) < (a2e s).length:=by omega
    have hke:k=(a2e s).length:=by omega
    subst hke
    rw [List.take_length] at hall
    refine a0l _ _ _ ?_
    simp (maxSteps:=2000000) only [go_sem,hG,hOw,hlt]
    try (repeat' with_reducible first|refine And.intro ?_ ?_|intro _|refine exP ?_ ?_);all_goals try omega
    rw [hall,Bool.and_true]
    exact ⟨(),a1j (by (simp only [go_sem])<;>simp) hNm⟩
  ·rintro ⟨⟩ -
   simp only [go_sem,hG,hOw]
theorem c5r (s:ByteArray):a0o Tryz.prog 203 [str s] (fun _=>bl false):=by
 refine a0c (ow:=fun _=>false) Tryz.func203 Tryz.ntmps203 rfl rfl fun G hG hOw hNm hB=>?_;simp only [go_sem,hG,hOw]
 all_goals simp [bl]
theorem b0x:∀ l:List UInt8,Op.bytesLess l l=false
 |[]=>rfl
 |a::r=>by
  unfold Op.bytesLess
  simp [b0x r]
theorem b2x (s:ByteArray):a0o Tryz.prog 154 [str s,str s] (fun _=>i64 0):=by
 refine a0c (ow:=fun _=>false) Tryz.func154 Tryz.ntmps154 rfl rfl fun G hG hOw hNm hB=>?_;simp only [go_sem,hG,hOw]
 refine a0a (c5r s) ?_
 simp only [go_sem,hG,hOw]
 refine a0a (c5r s) ?_
 simp only [go_sem,hG,hOw]
 (repeat' with_reducible first|refine And.intro ?_ ?_|intro _|refine exP ?_ ?_);all_goals try omega
 all_goals (rename_i h;rw [b0x] at h;cases h)
theorem d0f (l:List Int) (hl:l.length≤100) (h:∀ x ∈ l,x=0):a0o Tryz.prog 153 [.lst 0 1 (l.map c4m)] (fun _=>i64 0):=by
 refine a0c (ow:=fun _=>false) Tryz.func153 Tryz.ntmps153 rfl rfl fun G hG hOw hNm hB=>?_;simp only [go_sem,hG,hOw]
 (repeat' with_reducible first|refine And.intro ?_ ?_|intro _|refine exP ?_ ?_);all_goals try omega
 refine a0r (fun k:Nat=>St.of [(3,i64 0),(6,.lst 0 1 (l.map c4m)),(7,i64 l.length),(8,i64 k)] []) (fun k=>k≤l.length) (fun k=>l.length - k) 0 (by simp) (a1j (by (simp only [go_sem])<;>simp) hNm) ?_
 rintro k hk
 refine a0l _ _ _ ?_;simp only [go_sem,hG,hOw]
 (repeat' with_reducible first|refine And.intro ?_ ?_|intro _|refine exP ?_ ?_);all_goals try omega
 ·rename_i hlt hne
  exact absurd (h _ (List.getElem_mem (by omega:k < l.length))) hne
 ·exact ⟨k+1,by omega,by omega,a1j (by (simp only [go_sem])<;>simp) hNm⟩
end Go.Proofs.YtmjhfccbbfpppaaGreatDoor
