import Derived.Test.YtmjhfccbbfpppaaGreatDoorQB14
import Derived.Test.YtmjhfccbbfpppaaGreatDoorQB23
import Derived.Test.YtmjhfccbbfpppaaGreatDoorQB25
import Derived.Test.YtmjhfccbbfpppaaGreatDoorQB27
import Derived.Test.YtmjhfccbbfpppaaGreatDoorQB29
namespace Go.Proofs.YtmjhfccbbfpppaaGreatDoor
open Go Pm
set_option linter.unusedSimpArgs false
set_option linter.unusedVariables false
set_option maxHeartbeats 4000000
set_option maxRecDepth 100000
structure Si where
 ch:Int
 ln:Int
 wd:Int
 word:ByteArray
 bef:ByteArray
 aft:ByteArray
def siC (s:Si):List V:=[i64 s.ch,i64 s.ln,i64 s.wd,str s.word,str s.bef,str s.aft]
def sis (lo:Nat) (l:List Si):V:=.lst lo 6 (l.map siC)
attribute [go_sem] siC sis
theorem c9j (l:List Si):a3b (l.map siC)=true:=a2l (fun _=>rfl) l
attribute [go_sem] c9j
def e5s (s:ByteArray):Bool:=decide (s=⟨#[]⟩) || (decide ((s.size:Int)≤80) && (a1o s).all a1f)
def c8h (s:Si):Bool:=e5s s.bef && e5s s.aft && a1f s.word
def bdS (s:Si):Prop:=s.word.size≤100000∧s.bef.size≤100000∧s.aft.size≤100000
theorem e9d (n lo hi:Int):a0l Tryz.prog 227 [i64 n,.fp [i64 lo],.fp [i64 hi]] (fun _=>bl (decide (n < lo) || decide (hi < n))):=by
 refine a0b (ow:=fun _=>false) Tryz.func227 Tryz.ntmps227 rfl rfl fun G hG hOw hNm hB=>?_;simp only [go_sem,hG,hOw]
 (repeat' with_reducible first|apply And.intro|refine exP ?_ ?_|intro);all_goals try omega
 ·rename_i h;rw [decide_eq_false h];rfl
 ·rename_i h;rw [decide_eq_true h];rfl
theorem f8z (lo hi:Int) (l:List Int):a0l Tryz.prog 178 [i64 lo,i64 hi,.lst 0 1 (l.map c3r)] (fun _=>bl (l.all fun n=>inB n lo hi)):=by
 refine a0b (ow:=fun _=>false) Tryz.func178 Tryz.ntmps178 rfl rfl fun G hG hOw hNm hB=>?_;simp only [go_sem,hG,hOw]
 refine a2x (fun i=>[3,4].contains i) ?_
 simp only [go_sem,hG,hOw]
 refine a0a (a4o _ [.fp [i64 lo],.fp [i64 hi]] (fun n=>decide (n < lo) || decide (hi < n)) l rfl (fun x _=>e9d x lo hi)) ?_
 simp only [go_sem,hG,hOw]
 rw [List.not_any_eq_all_not]
 congr 1
 funext n
 rw [Bool.eq_iff_iff];simp [inB]
theorem e6d (lo hi n:Int):a0l Tryz.prog 178 [i64 lo,i64 hi,.lst 0 1 [[i64 n]]] (fun _=>bl (inB n lo hi)):=by
 have:=f8z lo hi [n]
 simpa [c3r] using this
theorem d8j (b:UInt8):a0l Tryz.prog 232 [.v (.int .u8 b.toNat)] (fun _=>bl (!a1i b)):=by
 refine a0b (ow:=fun _=>false) Tryz.func232 Tryz.ntmps232 rfl rfl fun G hG hOw hNm hB=>?_;simp only [go_sem,hG,hOw]
 (repeat' with_reducible first|apply And.intro|refine exP ?_ ?_|intro);all_goals try omega
 ·rename_i h;simp [a1i];intro;omega
 ·rename_i h;simp [a1i];omega
theorem d2e (s:ByteArray):a0l Tryz.prog 185 [str s] (fun _=>bl (a1f s)):=by
 refine a0b (ow:=fun _=>false) Tryz.func185 Tryz.ntmps185 rfl rfl fun G hG hOw hNm hB=>?_;simp only [go_sem,hG,hOw]
 refine a0a (e6d 1 12 s.size) ?_
 simp only [go_sem,hG,hOw]
 (repeat' with_reducible first|apply And.intro|refine exP ?_ ?_|intro);all_goals try omega
 ·rename_i h;simp [inB] at h;omega
 ·rename_i h
  refine a0a (a3c _ [] (fun b=>!a1i b) s.data.toList rfl (fun b _=>d8j b)) ?_
  simp only [go_sem,hG,hOw]
  unfold a1f;rw [h,Bool.and_true,List.not_any_eq_all_not];simp
 ·rename_i h;unfold a1f;rw [h,Bool.and_false]
theorem c6h (s:ByteArray) (hs:s.size≤100000):a0l Tryz.prog 184 [str s] (fun n=>.tup [a0q n (if s=⟨#[]⟩ then [] else a1o s),bl (e5s s)]):=by
 by_cases h0:s=⟨#[]⟩
 ·subst h0
  have e:e5s ⟨#[]⟩=true:=by decide
  rw [if_pos rfl,e]
  refine a0b (ow:=fun _=>false) Tryz.func184 Tryz.ntmps184 rfl rfl fun G hG hOw hNm hB=>?_;simp only [go_sem,hG,hOw]
  exact Subs.tup (.cons (.nil _ _) (.cons (.refl _) .nil))
 ·have hpl:=c0a s
  have hW:e5s s=(decide ((s.size:Int)≤80) && (a1o s).all a1f):=by unfold e5s;rw [decide_eq_false h0,Bool.false_or]
  rw [if_neg h0,hW]
  have d0:=decide_eq_false h0
  have hpos:=d3n s
  refine a0b (ow:=fun _=>false) Tryz.func184 Tryz.ntmps184 rfl rfl fun G hG hOw hNm hB=>?_;simp only [go_sem,hG,hOw]
  (repeat' with_reducible first|apply And.intro|refine exP ?_ ?_|intro);all_goals try omega
  ·rename_i h;exact absurd h h0
  refine a0a (d1h s hs) ?_
  simp only [go_sem,hG,hOw]
  (repeat' with_reducible first|apply And.intro|refine exP ?_ ?_|intro);all_goals try omega
  refine a3e (fun _:Unit=>St.of [(4,a0q G.lo (a1o s)),(5,bl (decide ((s.size:Int)≤80) && (a1o s).all a1f))] []) (fun _=>True) ?_ ?_
  ·refine a0k (fun k:Nat=>St.of [(4,a0q G.lo (a1o s)),(5,bl (decide ((s.size:Int)≤80))),(15,a0q G.lo (a1o s)),(16,i64 (a1o s).length),(17,i64 k)] []) (fun k=>k≤(a1o s).length∧((a1o s).take k).all a1f=true) (fun k=>(a1o s).length - k) 0 (by simp) (a0y (by (simp only [go_sem])<;>simp) hNm) ?_
   rintro k ⟨hk,hall⟩
   by_cases hkl:k < (a1o s).length
   ·have hlt:(k:Int) < (a1o s).length:=by omega
    refine a0d _ _ _ ?_
    simp (maxSteps:=2000000) only [go_sem,hG,hOw,hlt]
    (repeat' with_reducible first|apply And.intro|refine exP ?_ ?_|intro);all_goals try omega
    refine a0a (d2e (a1o s)[k]) ?_
    cases hw:a1f (a1o s)[k] with
    |false =>
     have e:(a1o s).all a1f=false:=a4k hkl hw
     rw [e,Bool.and_false]
     simp only [go_sem,hG,hOw]
     (repeat' with_reducible first|apply And.intro|refine exP ?_ ?_|intro);all_goals try omega
     exact ⟨(),a0y (by (simp only [go_sem])<;>simp) hNm⟩
    |true =>
     simp only [go_sem,hG,hOw]
     (repeat' with_reducible first|apply And.intro|refine exP ?_ ?_|intro);all_goals try omega
     exact ⟨k+1,⟨by omega,a0u hkl hall hw⟩,by omega,a0y (by (simp only [go_sem])<;>simp) hNm⟩
   ·have hlt:¬ (k:Int) < (a1o s).length:=by omega
    have hke:k=(a1o s).length:=by omega
    subst hke
    rw [List.take_length] at hall
    refine a0d _ _ _ ?_
    simp (maxSteps:=2000000) only [go_sem,hG,hOw,hlt]
    try (repeat' with_reducible first|apply And.intro|refine exP ?_ ?_|intro);all_goals try omega
    rw [hall,Bool.and_true]
    exact ⟨(),a0y (by (simp only [go_sem])<;>simp) hNm⟩
  ·rintro ⟨⟩ -
   simp only [go_sem,hG,hOw]
theorem c4m (s:ByteArray):a0l Tryz.prog 203 [str s] (fun _=>bl false):=by
 refine a0b (ow:=fun _=>false) Tryz.func203 Tryz.ntmps203 rfl rfl fun G hG hOw hNm hB=>?_;simp only [go_sem,hG,hOw]
 all_goals simp [bl]
theorem b1b:∀ l:List UInt8,Op.bytesLess l l=false
 |[]=>rfl
 |a::r=>by
  unfold Op.bytesLess
  simp [b1b r]
theorem b4a (s:ByteArray):a0l Tryz.prog 154 [str s,str s] (fun _=>i64 0):=by
 refine a0b (ow:=fun _=>false) Tryz.func154 Tryz.ntmps154 rfl rfl fun G hG hOw hNm hB=>?_;simp only [go_sem,hG,hOw]
 refine a0a (c4m s) ?_
 simp only [go_sem,hG,hOw]
 refine a0a (c4m s) ?_
 simp only [go_sem,hG,hOw]
 (repeat' with_reducible first|apply And.intro|refine exP ?_ ?_|intro);all_goals try omega
 all_goals (rename_i h;rw [b1b] at h;cases h)
theorem d0q (l:List Int) (hl:l.length≤100) (h:∀ x ∈ l,x=0):a0l Tryz.prog 153 [.lst 0 1 (l.map c3r)] (fun _=>i64 0):=by
 refine a0b (ow:=fun _=>false) Tryz.func153 Tryz.ntmps153 rfl rfl fun G hG hOw hNm hB=>?_;simp only [go_sem,hG,hOw]
 (repeat' with_reducible first|apply And.intro|refine exP ?_ ?_|intro);all_goals try omega
 refine a0k (fun k:Nat=>St.of [(3,i64 0),(6,.lst 0 1 (l.map c3r)),(7,i64 l.length),(8,i64 k)] []) (fun k=>k≤l.length) (fun k=>l.length - k) 0 (by simp) (a0y (by (simp only [go_sem])<;>simp) hNm) ?_
 rintro k hk
 refine a0d _ _ _ ?_;simp only [go_sem,hG,hOw]
 (repeat' with_reducible first|apply And.intro|refine exP ?_ ?_|intro);all_goals try omega
 ·rename_i hlt hne
  exact absurd (h _ (List.getElem_mem (by omega:k < l.length))) hne
 ·exact ⟨k+1,by omega,by omega,a0y (by (simp only [go_sem])<;>simp) hNm⟩
end Go.Proofs.YtmjhfccbbfpppaaGreatDoor
