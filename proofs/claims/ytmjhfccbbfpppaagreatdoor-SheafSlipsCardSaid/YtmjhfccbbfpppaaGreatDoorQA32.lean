import Derived.Test.YtmjhfccbbfpppaaGreatDoorQA15
import Derived.Test.YtmjhfccbbfpppaaGreatDoorQA18
import Derived.Test.YtmjhfccbbfpppaaGreatDoorQA24
import Derived.Test.YtmjhfccbbfpppaaGreatDoorQA29
import Derived.Test.YtmjhfccbbfpppaaGreatDoorQA31
namespace Go.Proofs.YtmjhfccbbfpppaaGreatDoor
open Go Pm
set_option linter.unusedSimpArgs false
set_option linter.unusedVariables false
set_option maxHeartbeats 4000000
set_option maxRecDepth 100000
structure Si where
 ch:Int
 ln:Int
 wd:Int
 word:ByteArray
 bef:ByteArray
 aft:ByteArray
def siC (s:Si):List V:=[i64 s.ch,i64 s.ln,i64 s.wd,str s.word,str s.bef,str s.aft]
def sis (lo:Nat) (l:List Si):V:=.lst lo 6 (l.map siC)
attribute [go_sem] siC sis
theorem c7n (l:List Si):a2p (l.map siC)=true:=a2b (fun _=>rfl) l
attribute [go_sem] c7n
def b7j (s:ByteArray):Bool:=decide (s=⟨#[]⟩) || (decide ((s.size:Int)≤80) && (a1l s).all a1b)
def b1b (s:Si):Bool:=b7j s.bef && b7j s.aft && a1b s.word
def bdS (s:Si):Prop:=s.word.size≤100000∧s.bef.size≤100000∧s.aft.size≤100000
theorem e7w (n lo hi:Int):a0l Tryz.prog 227 [i64 n,.fp [i64 lo],.fp [i64 hi]] (fun _=>bl (decide (n < lo) || decide (hi < n))):=by
 refine a0b (ow:=fun _=>false) Tryz.func227 Tryz.ntmps227 rfl rfl fun G hG hOw hNm hB=>?_;simp only [go_sem,hG,hOw]
 (repeat' with_reducible first|refine And.intro ?_ ?_|intro _|refine exP ?_ ?_);all_goals try omega
 ·rename_i h;rw [decide_eq_false h];rfl
 ·rename_i h;rw [decide_eq_true h];rfl
theorem f5h (lo hi:Int) (l:List Int):a0l Tryz.prog 178 [i64 lo,i64 hi,.lst 0 1 (l.map c0t)] (fun _=>bl (l.all fun n=>inB n lo hi)):=by
 refine a0b (ow:=fun _=>false) Tryz.func178 Tryz.ntmps178 rfl rfl fun G hG hOw hNm hB=>?_;simp only [go_sem,hG,hOw]
 refine a6x (fun i=>[3,4].contains i) ?_
 simp only [go_sem,hG,hOw]
 refine a0a (a3i _ [.fp [i64 lo],.fp [i64 hi]] (fun n=>decide (n < lo) || decide (hi < n)) l rfl (fun x _=>e7w x lo hi)) ?_
 simp only [go_sem,hG,hOw]
 rw [List.not_any_eq_all_not]
 congr 1
 funext n
 rw [Bool.eq_iff_iff];simp [inB]
theorem e5f (lo hi n:Int):a0l Tryz.prog 178 [i64 lo,i64 hi,.lst 0 1 [[i64 n]]] (fun _=>bl (inB n lo hi)):=by
 have:=f5h lo hi [n]
 simpa [c0t] using this
theorem e4u (b:UInt8):a0l Tryz.prog 232 [.v (.int .u8 b.toNat)] (fun _=>bl (!a1p b)):=by
 refine a0b (ow:=fun _=>false) Tryz.func232 Tryz.ntmps232 rfl rfl fun G hG hOw hNm hB=>?_;simp only [go_sem,hG,hOw]
 (repeat' with_reducible first|refine And.intro ?_ ?_|intro _|refine exP ?_ ?_);all_goals try omega
 ·rename_i h;simp [a1p];intro;omega
 ·rename_i h;simp [a1p];omega
theorem d0f (s:ByteArray):a0l Tryz.prog 185 [str s] (fun _=>bl (a1b s)):=by
 refine a0b (ow:=fun _=>false) Tryz.func185 Tryz.ntmps185 rfl rfl fun G hG hOw hNm hB=>?_;simp only [go_sem,hG,hOw]
 refine a0a (e5f 1 12 s.size) ?_
 simp only [go_sem,hG,hOw]
 (repeat' with_reducible first|refine And.intro ?_ ?_|intro _|refine exP ?_ ?_);all_goals try omega
 ·rename_i h;simp [inB] at h;omega
 ·rename_i h
  refine a0a (a3b _ [] (fun b=>!a1p b) s.data.toList rfl (fun b _=>e4u b)) ?_
  simp only [go_sem,hG,hOw]
  unfold a1b;rw [h,Bool.and_true,List.not_any_eq_all_not];simp
 ·rename_i h;unfold a1b;rw [h,Bool.and_false]
theorem c3u (s:ByteArray) (hs:s.size≤100000):a0l Tryz.prog 184 [str s] (fun n=>.tup [a0o n (if s=⟨#[]⟩ then [] else a1l s),bl (b7j s)]):=by
 by_cases h0:s=⟨#[]⟩
 ·subst h0
  have e:b7j ⟨#[]⟩=true:=by decide
  rw [if_pos rfl,e]
  refine a0b (ow:=fun _=>false) Tryz.func184 Tryz.ntmps184 rfl rfl fun G hG hOw hNm hB=>?_;simp only [go_sem,hG,hOw]
  exact Subs.tup (.cons (.nil _ _) (.cons (.refl _) .nil))
 ·have hpl:=b0a s
  have hW:b7j s=(decide ((s.size:Int)≤80) && (a1l s).all a1b):=by unfold b7j;rw [decide_eq_false h0,Bool.false_or]
  rw [if_neg h0,hW]
  have d0:=decide_eq_false h0
  have hpos:=b9u s
  refine a0b (ow:=fun _=>false) Tryz.func184 Tryz.ntmps184 rfl rfl fun G hG hOw hNm hB=>?_;simp only [go_sem,hG,hOw]
  (repeat' with_reducible first|refine And.intro ?_ ?_|intro _|refine exP ?_ ?_);all_goals try omega
  ·rename_i h;exact absurd h h0
  refine a0a (d1t s hs) ?_
  simp only [go_sem,hG,hOw]
  (repeat' with_reducible first|refine And.intro ?_ ?_|intro _|refine exP ?_ ?_);all_goals try omega
  refine a2z (fun _:Unit=>St.of [(4,a0o G.lo (a1l s)),(5,bl (decide ((s.size:Int)≤80) && (a1l s).all a1b))] []) (fun _=>True) ?_ ?_
  ·refine a0i (fun k:Nat=>St.of [(4,a0o G.lo (a1l s)),(5,bl (decide ((s.size:Int)≤80))),(15,a0o G.lo (a1l s)),(16,i64 (a1l s).length),(17,i64 k)] []) (fun k=>k≤(a1l s).length∧((a1l s).take k).all a1b=true) (fun k=>(a1l s).length - k) 0 (by simp) (a1e (by (simp only [go_sem])<;>simp) hNm) ?_
   rintro k ⟨hk,hall⟩
   by_cases hkl:k < (a1l s).length
   ·have hlt:(k:Int) < (a1l s).length:=by omega
    refine a0d _ _ _ ?_
    simp (maxSteps:=2000000) only [go_sem,hG,hOw,hlt]
    (repeat' with_reducible first|refine And.intro ?_ ?_|intro _|refine exP ?_ ?_);all_goals try omega
    refine a0a (d0f (a1l s)[k]) ?_
    cases hw:a1b (a1l s)[k] with
    |false =>
     have e:(a1l s).all a1b=false:=a4x hkl hw
     rw [e,Bool.and_false]
     simp only [go_sem,hG,hOw]
     (repeat' with_reducible first|refine And.intro ?_ ?_|intro _|refine exP ?_ ?_);all_goals try omega
     exact ⟨(),a1e (by (simp only [go_sem])<;>simp) hNm⟩
    |true =>
     simp only [go_sem,hG,hOw]
     (repeat' with_reducible first|refine And.intro ?_ ?_|intro _|refine exP ?_ ?_);all_goals try omega
     exact ⟨k+1,⟨by omega,a0v hkl hall hw⟩,by omega,a1e (by (simp only [go_sem])<;>simp) hNm⟩
   ·have hlt:¬ (k:Int) < (a1l s).length:=by omega
    have hke:k=(a1l s).length:=by omega
    subst hke
    rw [List.take_length] at hall
    refine a0d _ _ _ ?_
    simp (maxSteps:=2000000) only [go_sem,hG,hOw,hlt]
    try (repeat' with_reducible first|refine And.intro ?_ ?_|intro _|refine exP ?_ ?_);all_goals try omega
    rw [hall,Bool.and_true]
    exact ⟨(),a1e (by (simp only [go_sem])<;>simp) hNm⟩
  ·rintro ⟨⟩ -
   simp only [go_sem,hG,hOw]
theorem c3a (s:ByteArray):a0l Tryz.prog 203 [str s] (fun _=>bl false):=by
 refine a0b (ow:=fun _=>false) Tryz.func203 Tryz.ntmps203 rfl rfl fun G hG hOw hNm hB=>?_;simp only [go_sem,hG,hOw]
 all_goals simp [bl]
theorem b0k:∀ l:List UInt8,Op.bytesLess l l=false
 |[]=>rfl
 |a::r=>by
  unfold Op.bytesLess
  simp [b0k r]
theorem b3c (s:ByteArray):a0l Tryz.prog 154 [str s,str s] (fun _=>i64 0):=by
 refine a0b (ow:=fun _=>false) Tryz.func154 Tryz.ntmps154 rfl rfl fun G hG hOw hNm hB=>?_;simp only [go_sem,hG,hOw]
 refine a0a (c3a s) ?_
 simp only [go_sem,hG,hOw]
 refine a0a (c3a s) ?_
 simp only [go_sem,hG,hOw]
 (repeat' with_reducible first|refine And.intro ?_ ?_|intro _|refine exP ?_ ?_);all_goals try omega
 all_goals (rename_i h;rw [b0k] at h;cases h)
theorem d1g (l:List Int) (hl:l.length≤100) (h:∀ x ∈ l,x=0):a0l Tryz.prog 153 [.lst 0 1 (l.map c0t)] (fun _=>i64 0):=by
 refine a0b (ow:=fun _=>false) Tryz.func153 Tryz.ntmps153 rfl rfl fun G hG hOw hNm hB=>?_;simp only [go_sem,hG,hOw]
 (repeat' with_reducible first|refine And.intro ?_ ?_|intro _|refine exP ?_ ?_);all_goals try omega
 refine a0i (fun k:Nat=>St.of [(3,i64 0),(6,.lst 0 1 (l.map c0t)),(7,i64 l.length),(8,i64 k)] []) (fun k=>k≤l.length) (fun k=>l.length - k) 0 (by simp) (a1e (by (simp only [go_sem])<;>simp) hNm) ?_
 rintro k hk
 refine a0d _ _ _ ?_;simp only [go_sem,hG,hOw]
 (repeat' with_reducible first|refine And.intro ?_ ?_|intro _|refine exP ?_ ?_);all_goals try omega
 ·rename_i hlt hne
  exact absurd (h _ (List.getElem_mem (by omega:k < l.length))) hne
 ·exact ⟨k+1,by omega,by omega,a1e (by (simp only [go_sem])<;>simp) hNm⟩
end Go.Proofs.YtmjhfccbbfpppaaGreatDoor
