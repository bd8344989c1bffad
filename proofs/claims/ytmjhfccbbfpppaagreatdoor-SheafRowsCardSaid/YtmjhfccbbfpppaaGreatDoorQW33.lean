import Derived.Test.YtmjhfccbbfpppaaGreatDoorQW14
import Derived.Test.YtmjhfccbbfpppaaGreatDoorQW22
import Derived.Test.YtmjhfccbbfpppaaGreatDoorQW28
import Derived.Test.YtmjhfccbbfpppaaGreatDoorQW30
import Derived.Test.YtmjhfccbbfpppaaGreatDoorQW32
namespace Go.Proofs.YtmjhfccbbfpppaaGreatDoor
open Go Pm
set_option linter.unusedSimpArgs false
set_option linter.unusedVariables false
set_option maxHeartbeats 4000000
set_option maxRecDepth 100000
structure Si where
 ch:Int
 ln:Int
 wd:Int
 word:ByteArray
 bef:ByteArray
 aft:ByteArray
def siC (s:Si):List V:=[i64 s.ch,i64 s.ln,i64 s.wd,str s.word,str s.bef,str s.aft]
def sis (lo:Nat) (l:List Si):V:=.lst lo 6 (l.map siC)
attribute [go_sem] siC sis
theorem c9j (l:List Si):a3b (l.map siC)=true:=a2w (fun _=>rfl) l
attribute [go_sem] c9j
def d6d (s:ByteArray):Bool:=decide (s=⟨#[]⟩) || (decide ((s.size:Int)≤80) && (a0y s).all a1i)
def b5q (s:Si):Bool:=d6d s.bef && d6d s.aft && a1i s.word
def bdS (s:Si):Prop:=s.word.size≤100000∧s.bef.size≤100000∧s.aft.size≤100000
theorem e9y (n lo hi:Int):a0p Tryz.prog 227 [i64 n,.fp [i64 lo],.fp [i64 hi]] (fun _=>bl (decide (n < lo) || decide (hi < n))):=by
 refine a0c (ow:=fun _=>false) Tryz.func227 Tryz.ntmps227 rfl rfl fun G hG hOw hNm hB=>?_;simp only [go_sem,hG,hOw]
 (repeat' with_reducible first|refine And.intro ?_ ?_|intro _|refine exP ?_ ?_);all_goals try omega
 ·rename_i h;rw [decide_eq_false h];rfl
 ·rename_i h;rw [decide_eq_true h];rfl
theorem f8j (lo hi:Int) (l:List Int):a0p Tryz.prog 178 [i64 lo,i64 hi,.lst 0 1 (l.map c4g)] (fun _=>bl (l.all fun n=>inB n lo hi)):=by
 refine a0c (ow:=fun _=>false) Tryz.func178 Tryz.ntmps178 rfl rfl fun G hG hOw hNm hB=>?_;simp only [go_sem,hG,hOw]
 refine a3k (fun i=>[3,4].contains i) ?_
 simp only [go_sem,hG,hOw]
 refine a0a (a5a _ [.fp [i64 lo],.fp [i64 hi]] (fun n=>decide (n < lo) || decide (hi < n)) l rfl (fun x _=>e9y x lo hi)) ?_
 simp only [go_sem,hG,hOw]
 rw [List.not_any_eq_all_not]
 congr 1
 funext n
 rw [Bool.eq_iff_iff];simp [inB]
theorem e9x (lo hi n:Int):a0p Tryz.prog 178 [i64 lo,i64 hi,.lst 0 1 [[i64 n]]] (fun _=>bl (inB n lo hi)):=by
 have:=f8j lo hi [n]
 simpa [c4g] using this
theorem e6b (b:UInt8):a0p Tryz.prog 232 [.v (.int .u8 b.toNat)] (fun _=>bl (!a1x b)):=by
 refine a0c (ow:=fun _=>false) Tryz.func232 Tryz.ntmps232 rfl rfl fun G hG hOw hNm hB=>?_;simp only [go_sem,hG,hOw]
 (repeat' with_reducible first|refine And.intro ?_ ?_|intro _|refine exP ?_ ?_);all_goals try omega
 ·rename_i h;simp [a1x];intro;omega
 ·rename_i h;simp [a1x];omega
theorem d1q (s:ByteArray):a0p Tryz.prog 185 [str s] (fun _=>bl (a1i s)):=by
 refine a0c (ow:=fun _=>false) Tryz.func185 Tryz.ntmps185 rfl rfl fun G hG hOw hNm hB=>?_;simp only [go_sem,hG,hOw]
 refine a0a (e9x 1 12 s.size) ?_
 simp only [go_sem,hG,hOw]
 (repeat' with_reducible first|refine And.intro ?_ ?_|intro _|refine exP ?_ ?_);all_goals try omega
 ·rename_i h;simp [inB] at h;omega
 ·rename_i h
  refine a0a (a3o _ [] (fun b=>!a1x b) s.data.toList rfl (fun b _=>e6b b)) ?_
  simp only [go_sem,hG,hOw]
  unfold a1i;rw [h,Bool.and_true,List.not_any_eq_all_not];simp
 ·rename_i h;unfold a1i;rw [h,Bool.and_false]
theorem c4s (s:ByteArray) (hs:s.size≤100000):a0p Tryz.prog 184 [str s] (fun n=>.tup [a0h n (if s=⟨#[]⟩ then [] else a0y s),bl (d6d s)]):=by
 by_cases h0:s=⟨#[]⟩
 ·subst h0
  have e:d6d ⟨#[]⟩=true:=by decide
  rw [if_pos rfl,e]
  refine a0c (ow:=fun _=>false) Tryz.func184 Tryz.ntmps184 rfl rfl fun G hG hOw hNm hB=>?_;simp only [go_sem,hG,hOw]
  exact Subs.tup (.cons (.nil _ _) (.cons (.refl _) .nil))
 ·have hpl:=a8u s
  have hW:d6d s=(decide ((s.size:Int)≤80) && (a0y s).all a1i):=by unfold d6d;rw [decide_eq_false h0,Bool.false_or]
  rw [if_neg h0,hW]
  have d0:=decide_eq_false h0
  have hpos:=c0x s
  refine a0c (ow:=fun _=>false) Tryz.func184 Tryz.ntmps184 rfl rfl fun G hG hOw hNm hB=>?_;simp only [go_sem,hG,hOw]
  (repeat' with_reducible first|refine And.intro ?_ ?_|intro _|refine exP ?_ ?_);all_goals try omega
  ·rename_i h;exact absurd h h0
  refine a0a (b2z s hs) ?_
  simp only [go_sem,hG,hOw]
  (repeat' with_reducible first|refine And.intro ?_ ?_|intro _|refine exP ?_ ?_);all_goals try omega
  refine a3l (fun _:Unit=>St.of [(4,a0h G.lo (a0y s)),(5,bl (decide ((s.size:Int)≤80) && (a0y s).all a1i))] []) (fun _=>True) ?_ ?_
  ·refine a0n (fun k:Nat=>St.of [(4,a0h G.lo (a0y s)),(5,bl (decide ((s.size:Int)≤80))),(15,a0h G.lo (a0y s)),(16,i64 (a0y s).length),(17,i64 k)] []) (fun k=>k≤(a0y s).length∧((a0y s).take k).all a1i=true) (fun k=>(a0y s).length - k) 0 (by simp) (a1d (by (simp only [go_sem])<;>simp) hNm) ?_
   rintro k ⟨hk,hall⟩
   by_cases hkl:k < (a0y s).length
   ·have hlt:(k:Int) < (a0y s).length:=by omega
    refine a0g _ _ _ ?_
    simp (maxSteps:=2000000) only [go_sem,hG,hOw,hlt]
    (repeat' with_reducible first|refine And.intro ?_ ?_|intro _|refine exP ?_ ?_);all_goals try omega
    refine a0a (d1q (a0y s)[k]) ?_
    cases hw:a1i (a0y s)[k] with
    |false =>
     have e:(a0y s).all a1i=false:=a4l hkl hw
     rw [e,Bool.and_false]
     simp only [go_sem,hG,hOw]
     (repeat' with_reducible first|refine And.intro ?_ ?_|intro _|refine exP ?_ ?_);all_goals try omega
     exact ⟨(),a1d (by (simp only [go_sem])<;>simp) hNm⟩
    |true =>
     simp only [go_sem,hG,hOw]
     (repeat' with_reducible first|refine And.intro ?_ ?_|intro _|refine exP ?_ ?_);all_goals try omega
     exact ⟨k+1,⟨by omega,a0u hkl hall hw⟩,by omega,a1d (by (simp only [go_sem])<;>simp) hNm⟩
   ·have hlt:¬ (k:Int) < (a0y s).length:=by omega
    have hke:k=(a0y s).length:=by omega
    subst hke
    rw [List.take_length] at hall
    refine a0g _ _ _ ?_
    simp (maxSteps:=2000000) only [go_sem,hG,hOw,hlt]
    try (repeat' with_reducible first|refine And.intro ?_ ?_|intro _|refine exP ?_ ?_);all_goals try omega
    rw [hall,Bool.and_true]
    exact ⟨(),a1d (by (simp only [go_sem])<;>simp) hNm⟩
  ·rintro ⟨⟩ -
   simp only [go_sem,hG,hOw]
theorem c5l (s:ByteArray):a0p Tryz.prog 203 [str s] (fun _=>bl false):=by
 refine a0c (ow:=fun _=>false) Tryz.func203 Tryz.ntmps203 rfl rfl fun G hG hOw hNm hB=>?_;simp only [go_sem,hG,hOw]
 all_goals simp [bl]
theorem b1w:∀ l:List UInt8,Op.bytesLess l l=false
 |[]=>rfl
 |a::r=>by
  unfold Op.bytesLess
  simp [b1w r]
theorem b5c (s:ByteArray):a0p Tryz.prog 154 [str s,str s] (fun _=>i64 0):=by
 refine a0c (ow:=fun _=>false) Tryz.func154 Tryz.ntmps154 rfl rfl fun G hG hOw hNm hB=>?_;simp only [go_sem,hG,hOw]
 refine a0a (c5l s) ?_
 simp only [go_sem,hG,hOw]
 refine a0a (c5l s) ?_
 simp only [go_sem,hG,hOw]
 (repeat' with_reducible first|refine And.intro ?_ ?_|intro _|refine exP ?_ ?_);all_goals try omega
 all_goals (rename_i h;rw [b1w] at h;cases h)
theorem d1m (l:List Int) (hl:l.length≤100) (h:∀ x ∈ l,x=0):a0p Tryz.prog 153 [.lst 0 1 (l.map c4g)] (fun _=>i64 0):=by
 refine a0c (ow:=fun _=>false) Tryz.func153 Tryz.ntmps153 rfl rfl fun G hG hOw hNm hB=>?_;simp only [go_sem,hG,hOw]
 (repeat' with_reducible first|refine And.intro ?_ ?_|intro _|refine exP ?_ ?_);all_goals try omega
 refine a0n (fun k:Nat=>St.of [(3,i64 0),(6,.lst 0 1 (l.map c4g)),(7,i64 l.length),(8,i64 k)] []) (fun k=>k≤l.length) (fun k=>l.length - k) 0 (by simp) (a1d (by (simp only [go_sem])<;>simp) hNm) ?_
 rintro k hk
 refine a0g _ _ _ ?_;simp only [go_sem,hG,hOw]
 (repeat' with_reducible first|refine And.intro ?_ ?_|intro _|refine exP ?_ ?_);all_goals try omega
 ·rename_i hlt hne
  exact absurd (h _ (List.getElem_mem (by omega:k < l.length))) hne
 ·exact ⟨k+1,by omega,by omega,a1d (by (simp only [go_sem])<;>simp) hNm⟩
end Go.Proofs.YtmjhfccbbfpppaaGreatDoor
