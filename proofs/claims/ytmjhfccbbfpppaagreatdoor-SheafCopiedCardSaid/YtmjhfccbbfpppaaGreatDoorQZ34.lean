import Derived.Test.YtmjhfccbbfpppaaGreatDoorQZ14
import Derived.Test.YtmjhfccbbfpppaaGreatDoorQZ28
import Derived.Test.YtmjhfccbbfpppaaGreatDoorQZ30
import Derived.Test.YtmjhfccbbfpppaaGreatDoorQZ31
import Derived.Test.YtmjhfccbbfpppaaGreatDoorQZ33
namespace Go.Proofs.YtmjhfccbbfpppaaGreatDoor
open Go Pm
set_option linter.unusedSimpArgs false
set_option linter.unusedVariables false
set_option maxHeartbeats 4000000
set_option maxRecDepth 100000
structure Si where
 ch:Int
 ln:Int
 wd:Int
 word:ByteArray
 bef:ByteArray
 aft:ByteArray
def siC (s:Si):List V:=[i64 s.ch,i64 s.ln,i64 s.wd,str s.word,str s.bef,str s.aft]
def sis (lo:Nat) (l:List Si):V:=.lst lo 6 (l.map siC)
attribute [go_sem] siC sis
theorem c5v (l:List Si):a2z (l.map siC)=true:=a2l (fun _=>rfl) l
attribute [go_sem] c5v
def e2x (s:ByteArray):Bool:=decide (s=⟨#[]⟩) || (decide ((s.size:Int)≤80) && (a1n s).all a1h)
def c6b (s:Si):Bool:=e2x s.bef && e2x s.aft && a1h s.word
def bdS (s:Si):Prop:=s.word.size≤100000∧s.bef.size≤100000∧s.aft.size≤100000
theorem e6t (n lo hi:Int):a0n Tryz.prog 227 [i64 n,.fp [i64 lo],.fp [i64 hi]] (fun _=>bl (decide (n < lo) || decide (hi < n))):=by
 refine a0b (ow:=fun _=>false) Tryz.func227 Tryz.ntmps227 rfl rfl fun G hG hOw hNm hB=>?_;simp only [go_sem,hG,hOw]
 (repeat' with_reducible first|refine And.intro ?_ ?_|intro _|refine exP ?_ ?_);all_goals try omega
 ·rename_i h;rw [decide_eq_false h];rfl
 ·rename_i h;rw [decide_eq_true h];rfl
theorem f1w (lo hi:Int) (l:List Int):a0n Tryz.prog 178 [i64 lo,i64 hi,.lst 0 1 (l.map b9l)] (fun _=>bl (l.all fun n=>inB n lo hi)):=by
 refine a0b (ow:=fun _=>false) Tryz.func178 Tryz.ntmps178 rfl rfl fun G hG hOw hNm hB=>?_;simp only [go_sem,hG,hOw]
 refine a6n (fun i=>[3,4].contains i) ?_
 simp only [go_sem,hG,hOw]
 refine a0a (a3i _ [.fp [i64 lo],.fp [i64 hi]] (fun n=>decide (n < lo) || decide (hi < n)) l rfl (fun x _=>e6t x lo hi)) ?_
 simp only [go_sem,hG,hOw]
 rw [List.not_any_eq_all_not]
 congr 1
 funext n
 rw [Bool.eq_iff_iff];simp [inB]
theorem e4d (lo hi n:Int):a0n Tryz.prog 178 [i64 lo,i64 hi,.lst 0 1 [[i64 n]]] (fun _=>bl (inB n lo hi)):=by
 have:=f1w lo hi [n]
 simpa [b9l] using this
theorem e2f (b:UInt8):a0n Tryz.prog 232 [.v (.int .u8 b.toNat)] (fun _=>bl (!a1s b)):=by
 refine a0b (ow:=fun _=>false) Tryz.func232 Tryz.ntmps232 rfl rfl fun G hG hOw hNm hB=>?_;simp only [go_sem,hG,hOw]
 (repeat' with_reducible first|refine And.intro ?_ ?_|intro _|refine exP ?_ ?_);all_goals try omega
 ·rename_i h;simp [a1s];intro;omega
 ·rename_i h;simp [a1s];omega
theorem c8p (s:ByteArray):a0n Tryz.prog 185 [str s] (fun _=>bl (a1h s)):=by
 refine a0b (ow:=fun _=>false) Tryz.func185 Tryz.ntmps185 rfl rfl fun G hG hOw hNm hB=>?_;simp only [go_sem,hG,hOw]
 refine a0a (e4d 1 12 s.size) ?_
 simp only [go_sem,hG,hOw]
 (repeat' with_reducible first|refine And.intro ?_ ?_|intro _|refine exP ?_ ?_);all_goals try omega
 ·rename_i h;simp [inB] at h;omega
 ·rename_i h
  refine a0a (a3a _ [] (fun b=>!a1s b) s.data.toList rfl (fun b _=>e2f b)) ?_
  simp only [go_sem,hG,hOw]
  unfold a1h;rw [h,Bool.and_true,List.not_any_eq_all_not];simp
 ·rename_i h;unfold a1h;rw [h,Bool.and_false]
theorem c4c (s:ByteArray) (hs:s.size≤100000):a0n Tryz.prog 184 [str s] (fun n=>.tup [a0p n (if s=⟨#[]⟩ then [] else a1n s),bl (e2x s)]):=by
 by_cases h0:s=⟨#[]⟩
 ·subst h0
  have e:e2x ⟨#[]⟩=true:=by decide
  rw [if_pos rfl,e]
  refine a0b (ow:=fun _=>false) Tryz.func184 Tryz.ntmps184 rfl rfl fun G hG hOw hNm hB=>?_;simp only [go_sem,hG,hOw]
  exact Subs.tup (.cons (.nil _ _) (.cons (.refl _) .nil))
 ·have hpl:=b7y s
  have hW:e2x s=(decide ((s.size:Int)≤80) && (a1n s).all a1h):=by unfold e2x;rw [decide_eq_false h0,Bool.false_or]
  rw [if_neg h0,hW]
  have d0:=decide_eq_false h0
  have hpos:=d3g s
  refine a0b (ow:=fun _=>false) Tryz.func184 Tryz.ntmps184 rfl rfl fun G hG hOw hNm hB=>?_;simp only [go_sem,hG,hOw]
  (repeat' with_reducible first|refine And.intro ?_ ?_|intro _|refine exP ?_ ?_);all_goals try omega
  ·rename_i h;exact absurd h h0
  refine a0a (c9j s hs) ?_
  simp only [go_sem,hG,hOw]
  (repeat' with_reducible first|refine And.intro ?_ ?_|intro _|refine exP ?_ ?_);all_goals try omega
  refine a3e (fun _:Unit=>St.of [(4,a0p G.lo (a1n s)),(5,bl (decide ((s.size:Int)≤80) && (a1n s).all a1h))] []) (fun _=>True) ?_ ?_
  ·refine a0m (fun k:Nat=>St.of [(4,a0p G.lo (a1n s)),(5,bl (decide ((s.size:Int)≤80))),(15,a0p G.lo (a1n s)),(16,i64 (a1n s).length),(17,i64 k)] []) (fun k=>k≤(a1n s).length∧((a1n s).take k).all a1h=true) (fun k=>(a1n s).length - k) 0 (by simp) (a1e (by (simp only [go_sem])<;>simp) hNm) ?_
   rintro k ⟨hk,hall⟩
   by_cases hkl:k < (a1n s).length
   ·have hlt:(k:Int) < (a1n s).length:=by omega
    refine a0d _ _ _ ?_
    simp (maxSteps:=2000000) only [go_sem,hG,hOw,hlt]
    (repeat' with_reducible first|refine And.intro ?_ ?_|intro _|refine exP ?_ ?_);all_goals try omega
    refine a0a (c8p (a1n s)[k]) ?_
    cases hw:a1h (a1n s)[k] with
    |false =>
     have e:(a1n s).all a1h=false:=a5t hkl hw
     rw [e,Bool.and_false]
     simp only [go_sem,hG,hOw]
     (repeat' with_reducible first|refine And.intro ?_ ?_|intro _|refine exP ?_ ?_);all_goals try omega
     exact ⟨(),a1e (by (simp only [go_sem])<;>simp) hNm⟩
    |true =>
     simp only [go_sem,hG,hOw]
     (repeat' with_reducible first|refine And.intro ?_ ?_|intro _|refine exP ?_ ?_);all_goals try omega
     exact ⟨k+1,⟨by omega,a0v hkl hall hw⟩,by omega,a1e (by (simp only [go_sem])<;>simp) hNm⟩
   ·have hlt:¬ (k:Int) < (a1n s).length:=by omega
    have hke:k=(a1n s).length:=by omega
    subst hke
    rw [List.take_length] at hall
    refine a0d _ _ _ ?_
    simp (maxSteps:=2000000) only [go_sem,hG,hOw,hlt]
    try (repeat' with_reducible first|refine And.intro ?_ ?_|intro _|refine exP ?_ ?_);all_goals try omega
    rw [hall,Bool.and_true]
    exact ⟨(),a1e (by (simp only [go_sem])<;>simp) hNm⟩
  ·rintro ⟨⟩ -
   simp only [go_sem,hG,hOw]
theorem c3h (s:ByteArray):a0n Tryz.prog 203 [str s] (fun _=>bl false):=by
 refine a0b (ow:=fun _=>false) Tryz.func203 Tryz.ntmps203 rfl rfl fun G hG hOw hNm hB=>?_;simp only [go_sem,hG,hOw]
 all_goals simp [bl]
theorem b0b:∀ l:List UInt8,Op.bytesLess l l=false
 |[]=>rfl
 |a::r=>by
  unfold Op.bytesLess
  simp [b0b r]
theorem b2g (s:ByteArray):a0n Tryz.prog 154 [str s,str s] (fun _=>i64 0):=by
 refine a0b (ow:=fun _=>false) Tryz.func154 Tryz.ntmps154 rfl rfl fun G hG hOw hNm hB=>?_;simp only [go_sem,hG,hOw]
 refine a0a (c3h s) ?_
 simp only [go_sem,hG,hOw]
 refine a0a (c3h s) ?_
 simp only [go_sem,hG,hOw]
 (repeat' with_reducible first|refine And.intro ?_ ?_|intro _|refine exP ?_ ?_);all_goals try omega
 all_goals (rename_i h;rw [b0b] at h;cases h)
theorem c9x (l:List Int) (hl:l.length≤100) (h:∀ x ∈ l,x=0):a0n Tryz.prog 153 [.lst 0 1 (l.map b9l)] (fun _=>i64 0):=by
 refine a0b (ow:=fun _=>false) Tryz.func153 Tryz.ntmps153 rfl rfl fun G hG hOw hNm hB=>?_;simp only [go_sem,hG,hOw]
 (repeat' with_reducible first|refine And.intro ?_ ?_|intro _|refine exP ?_ ?_);all_goals try omega
 refine a0m (fun k:Nat=>St.of [(3,i64 0),(6,.lst 0 1 (l.map b9l)),(7,i64 l.length),(8,i64 k)] []) (fun k=>k≤l.length) (fun k=>l.length - k) 0 (by simp) (a1e (by (simp only [go_sem])<;>simp) hNm) ?_
 rintro k hk
 refine a0d _ _ _ ?_;simp only [go_sem,hG,hOw]
 (repeat' with_reducible first|refine And.intro ?_ ?_|intro _|refine exP ?_ ?_);all_goals try omega
 ·rename_i hlt hne
  exact absurd (h _ (List.getElem_mem (by omega:k < l.length))) hne
 ·exact ⟨k+1,by omega,by omega,a1e (by (simp only [go_sem])<;>simp) hNm⟩
end Go.Proofs.YtmjhfccbbfpppaaGreatDoor
