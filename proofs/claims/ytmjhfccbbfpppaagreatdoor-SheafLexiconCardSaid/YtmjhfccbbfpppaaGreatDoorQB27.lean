import Derived.Test.YtmjhfccbbfpppaaGreatDoorQB09
import Derived.Test.YtmjhfccbbfpppaaGreatDoorQB13
import Derived.Test.YtmjhfccbbfpppaaGreatDoorQB16
import Derived.Test.YtmjhfccbbfpppaaGreatDoorQB19
import Derived.Test.YtmjhfccbbfpppaaGreatDoorQB23
import Derived.Test.YtmjhfccbbfpppaaGreatDoorQB25
import Derived.Test.YtmjhfccbbfpppaaGreatDoorQB26
namespace Go.Proofs.YtmjhfccbbfpppaaGreatDoor
open Go Pm
set_option linter.unusedSimpArgs false
set_option linter.unusedVariables false
set_option maxHeartbeats 4000000
set_option maxRecDepth 100000
open Go Pm
theorem e9w (a b:ByteArray):a1b [a,b]=a++(⟨#[32]⟩++b):=by
 refine b6j ?_
 rw [ByteArray.data_append,ByteArray.data_append,a1b,a7l]
 simp [List.intercalate]
theorem d0z:a1b []=⟨#[]⟩:=rfl
theorem b5k (x:ByteArray):a1b [x]=x:=by
 refine b6j ?_
 rw [a1b,a7l];simp [List.intercalate]
open Go Pm
open Go Pm
open Go Pm
instance:DecidableEq Ch:=fun a b=>by cases a;cases b;simp only [Ch.mk.injEq];infer_instance
instance:DecidableEq Hp:=fun a b=>by cases a;cases b;simp only [Hp.mk.injEq];infer_instance
instance:DecidableEq Sr:=fun a b=>by cases a;cases b;simp only [Sr.mk.injEq];infer_instance
instance:DecidableEq Se:=fun a b=>by cases a;cases b;simp only [Se.mk.injEq];infer_instance
instance:DecidableEq Ro:=fun a b=>by cases a;cases b;simp only [Ro.mk.injEq];infer_instance
open Go Pm
set_option maxHeartbeats 1000000
theorem c5r (s t:Sh):a0l Tryz.prog 36 [shE 0 s,shE 0 t] (fun _=>bl (decide (s=t))):=by
 refine a0b (ow:=fun _=>false) Tryz.func36 Tryz.ntmps36 rfl rfl fun G hG hOw hNm hB=>?_;simp only [go_sem,hG,hOw]
 obtain ⟨hl1,hl2,hl3⟩:=g6g (n:=0) (s:=s) hB (by simp)
 refine a0a (a8i _ _) ?_
 simp only [go_sem,hG,hOw]
 have ne:s≠t→false=decide (s=t):=fun h=>by rw [decide_eq_false h]
 refine ⟨fun h1=>⟨fun h2=>ne ?_,fun h2=>?_⟩,fun h1=>ne ?_⟩
 ·rintro rfl;simp at h2
 ·have hlen:s.chg.length=t.chg.length:=by omega
  have hf:s.first=t.first:=by simpa using h1
  refine a0k (fun k:Nat=>St.of [(2,.ptr 2 0),(3,.ptr 3 0),(5,i64 k)] [(2,.box [a0q 0 s.first,hks 0 s.chg]),(3,.box [a0q 0 t.first,hks 0 t.chg])]) (fun k=>k≤s.chg.length∧s.chg.take k=t.chg.take k) (fun k=>s.chg.length - k) 0 (by simp) (a1m [(2,some 2),(3,some 3)]) ?_
  rintro k ⟨hk,hall⟩
  refine a0d _ _ _ ?_;simp only [go_sem,hG,hOw]
  refine ⟨fun hlt=>?_,fun hge=>?_⟩
  ·refine a0s mixed (by kernel_rfl) ?_
   simp only [go_sem,hG,hOw]
   have hkl:k < s.chg.length:=by omega
   have nek:s.chg[k]≠t.chg[k]→s≠t:=fun h e=>h (by subst e;rfl)
   refine ⟨(by first|omega|(simp;omega)),(by first|omega|(simp;omega)),fun h3=>⟨fun h4=>a1p (a8i _ _) (by first|exact Subs.refl _|(repeat' (first|exact Subs.nil|exact Sub.refl _|exact Sub.lo (Nat.zero_le _)|refine Subs.cons ?_ ?_|refine Subs.agg ?_|refine Subs.fp ?_|refine Subs.tup ?_|refine Sub.map (Nat.zero_le _) (fun _=>?_)))) (by first|rfl|simp [b0t,b3o,pureV,pure0, *]) (by simp [chk,hG]) ?_,fun h4=>ne (nek ?_)⟩,fun h3=>ne (nek ?_)⟩
   ·simp only [go_sem,hG,hOw]
    refine ⟨fun h5=>ne (nek ?_),fun h5=>⟨(by first|omega|(simp;omega)),k+1,⟨by omega,?_⟩,by omega,a1m [(2,some 2),(3,some 3)]⟩⟩
    ·intro e;simp [e] at h5
    ·have e:s.chg[k]=t.chg[k]:=by
      have h3':s.chg[k].lo=t.chg[k].lo:=by simpa using h3
      have h4':s.chg[k].drop=t.chg[k].drop:=by simpa using h4
      have h5':s.chg[k].put=t.chg[k].put:=by simpa using h5
      revert h3' h4' h5'
      cases s.chg[k];cases t.chg[k]
      rintro rfl rfl rfl;rfl
     rw [List.take_add_one,List.take_add_one,hall,List.getElem?_eq_getElem hkl,List.getElem?_eq_getElem (by omega),e]
   ·intro e;simp [e] at h4
   ·intro e;simp [e] at h3
  ·rw [a1k hk hge,a1k (by omega) (by omega)] at hall
   cases s;cases t
   simp only at hf hall
   subst hf;subst hall
   simp
 ·rintro rfl;simp at h1
open Go Pm
set_option maxHeartbeats 4000000
open Go Pm
end Go.Proofs.YtmjhfccbbfpppaaGreatDoor
