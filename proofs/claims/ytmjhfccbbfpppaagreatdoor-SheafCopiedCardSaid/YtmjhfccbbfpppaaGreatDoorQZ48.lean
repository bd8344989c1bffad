import Derived.KernelRfl
import Derived.Test.YtmjhfccbbfpppaaGreatDoorQZ17
import Derived.Test.YtmjhfccbbfpppaaGreatDoorQZ18
import Derived.Test.YtmjhfccbbfpppaaGreatDoorQZ20
import Derived.Test.YtmjhfccbbfpppaaGreatDoorQZ24
import Derived.Test.YtmjhfccbbfpppaaGreatDoorQZ27
import Derived.Test.YtmjhfccbbfpppaaGreatDoorQZ29
import Derived.Test.YtmjhfccbbfpppaaGreatDoorQZ30
import Derived.Test.YtmjhfccbbfpppaaGreatDoorQZ32
import Derived.Test.YtmjhfccbbfpppaaGreatDoorQZ34
import Derived.Test.YtmjhfccbbfpppaaGreatDoorQZ36
import Derived.Test.YtmjhfccbbfpppaaGreatDoorQZ37
import Derived.Test.YtmjhfccbbfpppaaGreatDoorQZ38
import Derived.Test.YtmjhfccbbfpppaaGreatDoorQZ39
import Derived.Test.YtmjhfccbbfpppaaGreatDoorQZ40
import Derived.Test.YtmjhfccbbfpppaaGreatDoorQZ54
import Derived.Test.YtmjhfccbbfpppaaGreatDoorQZ43
import Derived.Test.YtmjhfccbbfpppaaGreatDoorQZ47
namespace Go.Proofs.YtmjhfccbbfpppaaGreatDoor
open Go Pm
set_option maxRecDepth 100000
def d2a:List Ch:=[⟨7,[[⟨#[116,104,101]⟩,⟨#[115,101,97]⟩,⟨#[105,115]⟩,⟨#[111,108,100]⟩],[⟨#[111,108,100]⟩,⟨#[116,104,101]⟩,⟨#[115,101,97]⟩]]⟩,⟨3,[[⟨#[115,101,97]⟩,⟨#[97,110,100]⟩,⟨#[115,101,97]⟩]]⟩]
def c5s:Cp:=⟨4,[⟨0,0,3,3,⟨#[99,111,108,100]⟩⟩,⟨0,1,1,1,⟨#[]⟩⟩,⟨1,0,3,2,⟨#[115,97,108,116]⟩⟩]⟩
def lexX:Lx:=⟨[⟨⟨#[115]⟩,⟨#[]⟩,2⟩,⟨⟨#[108,100]⟩,⟨#[108,100,101]⟩,1⟩],[⟨1,1,⟨#[115,101,97]⟩,0,0,0,⟨#[115,101,97]⟩,1,0⟩,⟨2,2,⟨#[111,108,100]⟩,0,1,0,⟨#[97,103,101]⟩,3,0⟩,⟨3,3,⟨#[]⟩,1,0,2,⟨#[115,101,101]⟩,2,0⟩,⟨5,4,⟨#[]⟩,0,0,0,⟨#[]⟩,0,3⟩]⟩
def shelfS:Sh:=⟨[⟨#[97,98]⟩,⟨#[98]⟩],[⟨1,0,[⟨#[99]⟩]⟩,⟨0,1,[]⟩]⟩
def slipsL:List Si:=[⟨0,0,2,⟨#[105,115]⟩,⟨#[115,101,97]⟩,⟨#[111,108,100,32,111,108,100]⟩⟩]
open Go Pm
set_option linter.unusedSimpArgs false
set_option linter.unusedVariables false
set_option maxRecDepth 100000
theorem f9a:a2a 0=⟨#[48]⟩:=by unfold a2a;rw [show Lib.itoa 0=Lib.decDigits 0 from a4i 0,Lib.decDigits_one (by decide)];rfl
theorem f9q:a2a 1=⟨#[49]⟩:=by unfold a2a;rw [show Lib.itoa 1=Lib.decDigits 1 from a4i 1,Lib.decDigits_one (by decide)];rfl
theorem f9k:a2a 2=⟨#[50]⟩:=by unfold a2a;rw [show Lib.itoa 2=Lib.decDigits 2 from a4i 2,Lib.decDigits_one (by decide)];rfl
theorem f9i:a2a 3=⟨#[51]⟩:=by unfold a2a;rw [show Lib.itoa 3=Lib.decDigits 3 from a4i 3,Lib.decDigits_one (by decide)];rfl
theorem f9r:a2a 4=⟨#[52]⟩:=by unfold a2a;rw [show Lib.itoa 4=Lib.decDigits 4 from a4i 4,Lib.decDigits_one (by decide)];rfl
theorem f9p:a2a 5=⟨#[53]⟩:=by unfold a2a;rw [show Lib.itoa 5=Lib.decDigits 5 from a4i 5,Lib.decDigits_one (by decide)];rfl
theorem f9m:a2a 6=⟨#[54]⟩:=by unfold a2a;rw [show Lib.itoa 6=Lib.decDigits 6 from a4i 6,Lib.decDigits_one (by decide)];rfl
theorem f8y:a2a 7=⟨#[55]⟩:=by unfold a2a;rw [show Lib.itoa 7=Lib.decDigits 7 from a4i 7,Lib.decDigits_one (by decide)];rfl
theorem al_wr:wrS [⟨#[97,98]⟩,⟨#[98]⟩]=⟨#[97,98,32,115,103,10,98,32,101,97,10]⟩∧wrE [⟨#[97,98]⟩,⟨#[98]⟩]=0:=⟨by kernel_rfl,by kernel_rfl⟩
theorem al_rd:rdL ⟨#[97,98,32,115,103,10,98,32,101,97]⟩=[⟨#[97,98]⟩]∧rdN ⟨#[97,98,32,115,103,10,98,32,101,97]⟩=6∧c6n ⟨#[97,98,32,115,103,10,98,32,101,97]⟩=0:=⟨by kernel_rfl,by kernel_rfl,by kernel_rfl⟩
theorem al_save:c2f ⟨[⟨#[97,98]⟩,⟨#[98]⟩],[]⟩ [⟨#[97,98]⟩,⟨#[99]⟩,⟨#[98]⟩]=⟨[⟨#[97,98]⟩,⟨#[98]⟩],[⟨1,0,[⟨#[99]⟩]⟩]⟩∧b3h ⟨[⟨#[97,98]⟩,⟨#[98]⟩],[]⟩ [⟨#[97,98]⟩,⟨#[99]⟩,⟨#[98]⟩]=0:=⟨by kernel_rfl,by kernel_rfl⟩
theorem al_back:b6g shelfS 1=[⟨#[97,98]⟩,⟨#[99]⟩,⟨#[98]⟩]∧a6l shelfS 1=0:=⟨by kernel_rfl,by kernel_rfl⟩
theorem e4y:b5s shelfS 1=⟨[⟨#[97,98]⟩,⟨#[99]⟩,⟨#[98]⟩],[⟨0,1,[]⟩]⟩:=by kernel_rfl
theorem f1o:a1l d2a=true:=by kernel_rfl
theorem f2x:a5q d2a c5s=0:=by kernel_rfl
theorem f5g:b6o d2a lexX=0:=by kernel_rfl
theorem e5t:slipsL.all b3d=true:=by kernel_rfl
theorem al_merge:a5b [⟨#[97]⟩,⟨#[98]⟩,⟨#[99]⟩] [⟨#[120]⟩,⟨#[98]⟩,⟨#[99]⟩] [⟨#[97]⟩,⟨#[98]⟩]=[⟨#[120]⟩,⟨#[98]⟩]∧a3j [⟨#[97]⟩,⟨#[98]⟩,⟨#[99]⟩] [⟨#[120]⟩,⟨#[98]⟩,⟨#[99]⟩] [⟨#[97]⟩,⟨#[98]⟩]=0:=⟨by kernel_rfl,by kernel_rfl⟩
theorem d8i:a3f d2a=[⟨#[99,104,97,112,116,101,114,32,55]⟩,⟨#[108,105,110,101,32,116,104,101,32,115,101,97,32,105,115,32,111,108,100]⟩,⟨#[108,105,110,101,32,111,108,100,32,116,104,101,32,115,101,97]⟩,⟨#[99,104,97,112,116,101,114,32,51]⟩,⟨#[108,105,110,101,32,115,101,97,32,97,110,100,32,115,101,97]⟩]:=by simp only [a3f,d2a,List.flatMap_cons,List.flatMap_nil,e7w,List.map_cons,List.map_nil,f9a,f9q,f9k,f9i,f9r,f9p,f9m,f8y];kernel_rfl
theorem d8z:a2o c5s=[⟨#[99,111,112,121,32,52]⟩,⟨#[111,116,104,101,114,32,48,32,48,32,51,32,99,111,108,100]⟩,⟨#[111,109,105,116,32,48,32,49,32,49]⟩,⟨#[112,117,116,32,49,32,48,32,51,32,115,97,108,116]⟩]:=by simp only [a2o,c5s,List.map_cons,List.map_nil,b6l,atS,f9a,f9q,f9k,f9i,f9r,f9p,f9m,f8y];kernel_rfl
theorem e5p:b7k lexX=[⟨#[99,117,116,32,115,32,50]⟩,⟨#[99,117,116,32,108,100,32,108,100,101,32,49]⟩,⟨#[102,111,114,109,32,49,32,115,101,97,32,115,101,97,32,49]⟩,⟨#[102,114,111,109,32,50,32,48,32,49,32,48,32,111,108,100,32,97,103,101,32,51]⟩,⟨#[112,108,97,99,101,32,51,32,49,32,48,32,50,32,115,101,101,32,50]⟩,⟨#[118,111,105,100,32,53,32,51]⟩]:=by simp only [b7k,lexX,List.map_cons,List.map_nil,a7u,b1n,fmP,c4v,atS,f9a,f9q,f9k,f9i,f9r,f9p,f9m,f8y];kernel_rfl
theorem d0q:a2j slipsL=[⟨#[115,108,105,112,32,48,32,48,32,50,32,105,115]⟩,⟨#[98,101,102,111,114,101,32,115,101,97]⟩,⟨#[97,102,116,101,114,32,111,108,100,32,111,108,100]⟩]:=by simp only [a2j,slipsL,List.flatMap_cons,List.flatMap_nil,c5b,f1z,e7s,atS,f9a,f9q,f9k,f9i,f9r,f9p,f9m,f8y];kernel_rfl
theorem c5r:a4s slipsL=([⟨#[115,108,105,112,32,48,32,48,32,50,32,105,115]⟩,⟨#[98,101,102,111,114,101,32,115,101,97]⟩,⟨#[97,102,116,101,114,32,111,108,100,32,111,108,100]⟩],0):=by unfold a4s;rw [if_pos e5t,d0q];rfl
open Go Pm
set_option maxHeartbeats 4000000
set_option maxRecDepth 100000
theorem a7c (lo sz:Nat) (rows:List (List V)):a0n Tryz.prog 34 [.lst lo sz rows] (fun _=>.lst lo sz rows):=by
 refine a0b (ow:=fun _=>false) Tryz.func34 Tryz.ntmps34 rfl rfl fun G hG hOw hNm hB=>?_;simp only [go_sem,hG,hOw]
theorem b7r (a b c:Int):a0n Tryz.prog 41 [i64 a,i64 b,i64 c] (fun _=>.agg [i64 a,i64 b,i64 c]):=by
 refine a0b (ow:=fun _=>false) Tryz.func41 Tryz.ntmps41 rfl rfl fun G hG hOw hNm hB=>?_;simp only [go_sem,hG,hOw]
theorem d8m:a0n Tryz.prog 38 [] (fun n=>txE n d2a):=by
 refine a0b (ow:=fun _=>false) Tryz.func38 Tryz.ntmps38 rfl rfl fun G hG hOw hNm hB=>?_;simp only [go_sem,hG,hOw]
 try (repeat' with_reducible first|refine And.intro ?_ ?_|intro _|refine exP ?_ ?_);all_goals try omega
 exact .refl _
theorem b3p:a0n Tryz.prog 35 [] (fun n=>shE n shelfS):=by
 refine a0b (ow:=fun _=>false) Tryz.func35 Tryz.ntmps35 rfl rfl fun G hG hOw hNm hB=>?_;simp only [go_sem,hG,hOw]
 try (repeat' with_reducible first|refine And.intro ?_ ?_|intro _|refine exP ?_ ?_);all_goals try omega
 refine a1u (a7c _ _ _) (Subs.refl _) rfl (by simp [chk,hG]) ?_
 simp only [go_sem,hG,hOw]
 try (repeat' with_reducible first|refine And.intro ?_ ?_|intro _|refine exP ?_ ?_);all_goals try omega
 refine a1u (a7c _ _ _) (Subs.refl _) rfl (by simp [chk,hG]) ?_
 simp only [go_sem,hG,hOw]
 try (repeat' with_reducible first|refine And.intro ?_ ?_|intro _|refine exP ?_ ?_);all_goals try omega
 refine Subs.agg (.cons (.refl _) (.cons (Sub.lst (Nat.le_refl _) rfl fun i x x' h1 h2=>?_) .nil))
 match i with
 |0=>simp at h1;subst h1;simp [shelfS] at h2;subst h2;exact Subs.refl _
 |1=>simp at h1;subst h1;simp [shelfS] at h2;subst h2;exact .cons (.refl _) (.cons (.refl _) (.cons (.nil _ _) .nil))
 |i+2=>simp at h1
theorem f0a:a0n Tryz.prog 54 [] (fun n=>cpE n c5s):=by
 refine a0b (ow:=fun _=>false) Tryz.func54 Tryz.ntmps54 rfl rfl fun G hG hOw hNm hB=>?_;simp only [go_sem,hG,hOw]
 try (repeat' with_reducible first|refine And.intro ?_ ?_|intro _|refine exP ?_ ?_);all_goals try omega
 refine a1u (b7r _ _ _) (Subs.refl _) rfl (by simp [chk,hG]) ?_
 simp (maxSteps:=2000000) only [go_sem,hG,hOw,Nat.reduceMul]
 try (repeat' with_reducible first|refine And.intro ?_ ?_|intro _|refine exP ?_ ?_);all_goals try omega
 refine a1u (b7r _ _ _) (Subs.refl _) rfl (by simp [chk,hG]) ?_
 simp (maxSteps:=2000000) only [go_sem,hG,hOw,Nat.reduceMul]
 try (repeat' with_reducible first|refine And.intro ?_ ?_|intro _|refine exP ?_ ?_);all_goals try omega
 refine a1u (b7r _ _ _) (Subs.refl _) rfl (by simp [chk,hG]) ?_
 simp (maxSteps:=2000000) only [go_sem,hG,hOw,Nat.reduceMul]
 try (repeat' with_reducible first|refine And.intro ?_ ?_|intro _|refine exP ?_ ?_);all_goals try omega
 exact .refl _
theorem d3k:a0n Tryz.prog 55 [] (fun n=>lxE n lexX):=by
 refine a0b (ow:=fun _=>false) Tryz.func55 Tryz.ntmps55 rfl rfl fun G hG hOw hNm hB=>?_;simp only [go_sem,hG,hOw]
 try (repeat' with_reducible first|refine And.intro ?_ ?_|intro _|refine exP ?_ ?_);all_goals try omega
 refine a1u (b7r _ _ _) (Subs.refl _) rfl (by simp [chk,hG]) ?_
 simp (maxSteps:=2000000) only [go_sem,hG,hOw,Nat.reduceMul]
 try (repeat' with_reducible first|refine And.intro ?_ ?_|intro _|refine exP ?_ ?_);all_goals try omega
 refine a1u (b7r _ _ _) (Subs.refl _) rfl (by simp [chk,hG]) ?_
 simp (maxSteps:=2000000) only [go_sem,hG,hOw,Nat.reduceMul]
 try (repeat' with_reducible first|refine And.intro ?_ ?_|intro _|refine exP ?_ ?_);all_goals try omega
 exact .refl _
theorem f2z (l m:List ByteArray) (e:Int):a0n Tryz.prog 56 [a0p 0 l,i64 e,a0p 0 m] (fun _=>bl (decide (e=0) && decide (l=m))):=by
 by_cases he:e=0
 ·subst he
  refine a0b (ow:=fun _=>false) Tryz.func56 Tryz.ntmps56 rfl rfl fun G hG hOw hNm hB=>?_;simp only [go_sem,hG,hOw]
  (repeat' with_reducible first|refine And.intro ?_ ?_|intro _|refine exP ?_ ?_);all_goals try omega
  refine a0a (a7y _ _) ?_
  simp only [go_sem,hG,hOw]
  try (repeat' with_reducible first|refine And.intro ?_ ?_|intro _|refine exP ?_ ?_);all_goals try omega
  try simp
 ·rw [decide_eq_false he,Bool.false_and]
  refine a0b (ow:=fun _=>false) Tryz.func56 Tryz.ntmps56 rfl rfl fun G hG hOw hNm hB=>?_;simp only [go_sem,hG,hOw]
  simp (maxSteps:=2000000) only [go_sem,hG,hOw,decide_eq_false he]
  try (repeat' with_reducible first|refine And.intro ?_ ?_|intro _|refine exP ?_ ?_);all_goals try omega
open Go Pm
set_option maxRecDepth 100000
def f4m:List ByteArray:=[⟨#[97,98]⟩,⟨#[98]⟩]
def lAb:List ByteArray:=[⟨#[97,98]⟩]
def a4v:List ByteArray:=[⟨#[97,98]⟩,⟨#[99]⟩,⟨#[98]⟩]
def lC:List ByteArray:=[⟨#[99]⟩]
def a6y:List ByteArray:=[⟨#[99,111,112,121,32,52]⟩,⟨#[111,116,104,101,114,32,48,32,48,32,51,32,99,111,108,100]⟩,⟨#[111,109,105,116,32,48,32,49,32,49]⟩,⟨#[112,117,116,32,49,32,48,32,51,32,115,97,108,116]⟩]
def a8l:List ByteArray:=[⟨#[99,104,97,112,116,101,114,32,55]⟩,⟨#[108,105,110,101,32,116,104,101,32,115,101,97,32,105,115,32,111,108,100]⟩,⟨#[108,105,110,101,32,111,108,100,32,116,104,101,32,115,101,97]⟩,⟨#[99,104,97,112,116,101,114,32,51]⟩,⟨#[108,105,110,101,32,115,101,97,32,97,110,100,32,115,101,97]⟩]
def c7b:List ByteArray:=[⟨#[99,117,116,32,115,32,50]⟩,⟨#[99,117,116,32,108,100,32,108,100,101,32,49]⟩,⟨#[102,111,114,109,32,49,32,115,101,97,32,115,101,97,32,49]⟩,⟨#[102,114,111,109,32,50,32,48,32,49,32,48,32,111,108,100,32,97,103,101,32,51]⟩,⟨#[112,108,97,99,101,32,51,32,49,32,48,32,50,32,115,101,101,32,50]⟩,⟨#[118,111,105,100,32,53,32,51]⟩]
def a8f:List ByteArray:=[⟨#[115,108,105,112,32,48,32,48,32,50,32,105,115]⟩,⟨#[98,101,102,111,114,101,32,115,101,97]⟩,⟨#[97,102,116,101,114,32,111,108,100,32,111,108,100]⟩]
def f9j:List ByteArray:=[⟨#[97]⟩,⟨#[98]⟩,⟨#[99]⟩]
def f9e:List ByteArray:=[⟨#[120]⟩,⟨#[98]⟩,⟨#[99]⟩]
def lAB:List ByteArray:=[⟨#[97]⟩,⟨#[98]⟩]
def lXB:List ByteArray:=[⟨#[120]⟩,⟨#[98]⟩]
def sWr:ByteArray:=⟨#[97,98,32,115,103,10,98,32,101,97,10]⟩
def sRd:ByteArray:=⟨#[97,98,32,115,103,10,98,32,101,97]⟩
def shSave:Sh:=⟨f4m,[⟨1,0,lC⟩]⟩
def shPrune:Sh:=⟨a4v,[⟨0,1,[]⟩]⟩
def e6h:Sh:=⟨f4m,[]⟩
theorem cWr:a0n Tryz.prog 14 [a0p 0 f4m] (fun n=>.tup [str sWr,i64 0]):=by
 have h:=c9s f4m
 rw [show wrS f4m=sWr from al_wr.1] at h
 rw [show wrE f4m=0 from al_wr.2] at h
 exact h
theorem cRd:a0n Tryz.prog 15 [str sRd] (fun n=>.tup [a0p n lAb,i64 6,i64 0]):=by
 have h:=e1r sRd
 rw [show rdL sRd=lAb from al_rd.1] at h
 rw [show rdN sRd=6 from al_rd.2.1] at h
 rw [show c6n sRd=0 from al_rd.2.2] at h
 exact h
theorem g2d:a0n Tryz.prog 33 [shE 0 e6h,a0p 0 a4v] (fun n=>.tup [shE n shSave,i64 0]):=by
 have h:=f2m e6h a4v (by decide) (by intro c hc;cases hc) (by decide)
 rw [show c2f e6h a4v=shSave from al_save.1] at h
 rw [show b3h e6h a4v=0 from al_save.2] at h
 exact h
theorem g1p:a0n Tryz.prog 39 [shE 0 shelfS,i64 1] (fun n=>.tup [a0p n a4v,i64 0]):=by
 have h:=f1t shelfS 1 (by decide) (by intro c hc;simp only [shelfS,List.mem_cons,List.not_mem_nil,or_false] at hc;rcases hc with rfl|rfl<;>decide)
 rw [show b6g shelfS 1=a4v from al_back.1] at h
 rw [show a6l shelfS 1=0 from al_back.2] at h
 exact h
theorem f6z:a0n Tryz.prog 40 [shE 0 shelfS,i64 1] (fun n=>.tup [shE n shPrune,i64 0]):=by
 have h:=e5k shelfS 1 (by decide) (by intro c hc;simp only [shelfS,List.mem_cons,List.not_mem_nil,or_false] at hc;rcases hc with rfl|rfl<;>decide)
 rw [show b5s shelfS 1=shPrune from e4y] at h
 rw [show a6l shelfS 1=0 from al_back.2] at h
 exact h
theorem f9y:a0n Tryz.prog 20 [txE 0 d2a,cpE 0 c5s] (fun n=>.tup [a0p n a6y,i64 0]):=by
 have h:=c3i d2a c5s
 rw [f2x,if_pos rfl] at h
 rw [show a2o c5s=a6y from d8z] at h
 exact h
theorem g2c:a0n Tryz.prog 13 [txE 0 d2a] (fun n=>.tup [a0p n a8l,i64 0]):=by
 have h:=d8x d2a
 rw [f1o,if_pos rfl,if_pos rfl] at h
 rw [show a3f d2a=a8l from d8i] at h
 exact h
theorem g2z:a0n Tryz.prog 31 [txE 0 d2a,lxE 0 lexX] (fun n=>.tup [a0p n c7b,i64 0]):=by
 have hb:(∀ r ∈ lexX.rules,bdR r)∧(∀ d ∈ lexX.decs,bdD d)∧lexX.rules.length≤1000∧lexX.decs.length≤1000:=by
  refine ⟨?_,?_,by decide,by decide⟩
  ·intro r hr;simp only [lexX,List.mem_cons,List.not_mem_nil,or_false] at hr;rcases hr with rfl|rfl<;>exact ⟨by decide,by decide⟩
  ·intro r hr;simp only [lexX,List.mem_cons,List.not_mem_nil,or_false] at hr;rcases hr with rfl|rfl|rfl|rfl<;>exact ⟨by decide,by decide⟩
 have h:=c4a d2a lexX hb
 rw [f5g,if_pos rfl] at h
 rw [show b7k lexX=c7b from e5p] at h
 exact h
theorem f7h:a0n Tryz.prog 29 [sis 0 slipsL] (fun n=>.tup [a0p n a8f,i64 0]):=by
 have h:=d2j slipsL (by decide) (by intro r hr;simp only [slipsL,List.mem_cons,List.not_mem_nil,or_false] at hr;subst hr;exact ⟨by decide,by decide,by decide⟩)
 rw [show a4s slipsL=(a8f,0) from c5r] at h
 exact h
theorem f6p:a0n Tryz.prog 37 [a0p 0 f9j,a0p 0 f9e,a0p 0 lAB] (fun n=>.tup [a0p n lXB,i64 0]):=by
 have h:=e4m f9j f9e lAB (by decide) (by decide) (by decide)
 rw [show a5b f9j f9e lAB=lXB from al_merge.1] at h
 rw [show a3j f9j f9e lAB=0 from al_merge.2] at h
 exact h
theorem c5p (l:List ByteArray):a0n Tryz.prog 56 [a0p 0 l,i64 0,a0p 0 l] (fun _=>bl true):=by
 have h:=f2z l l 0
 rw [decide_eq_true (rfl:l=l)] at h
 exact h
theorem e8m (s:Sh):a0n Tryz.prog 36 [shE 0 s,shE 0 s] (fun _=>bl true):=by
 have h:=c1t s s
 rw [decide_eq_true (rfl:s=s)] at h
 exact h
theorem c9m (lo:Nat) (s:Sh):Pm.Sub (.agg [.lst lo 1 (s.first.map a2e),.lst lo 3 (s.chg.map (hkE lo))]) (shE 0 s) :=
 Subs.agg (.cons (.lo (Nat.zero_le _)) (.cons (.map (Nat.zero_le _) fun c=>.cons (.refl _) (.cons (.refl _) (.cons (.lo (Nat.zero_le _)) .nil))) .nil))
open Go Pm
set_option maxHeartbeats 4000000
set_option maxRecDepth 100000
theorem g0k {G:Gh} {lo:Nat} (hG:G.n=168) (hOw:G.ow=fun _=>false) (hNm:G.nm=[]) (h:SemL Tryz.prog G ((a5i (Tryz.f9.body.getD .skip)).drop 2) (St.of [(1,str sWr),(2,i64 0)] []) (a2f Tryz.prog lo [.tmp 0] (bl true))) :
  SemL Tryz.prog G ((a5i (Tryz.f9.body.getD .skip)).drop 1) (St.of [] []) (a2f Tryz.prog lo [.tmp 0] (bl true)):=by
 refine a1d 1 _ _ ?_
 simp only [Tryz.f9,Option.getD_some,a2s,a1t,a2i,a1w,a2y,List.singleton_append,List.cons_append,List.nil_append,List.drop_succ_cons,List.drop_zero]
 simp only [go_sem,hG,hOw]
 try (repeat' with_reducible first|refine And.intro ?_ ?_|intro _|refine exP ?_ ?_);all_goals try omega
 refine a1u (a7c _ _ _) (Subs.refl _) rfl (by simp [chk,hG]) ?_
 simp (maxSteps:=2000000) only [go_sem,hG,hOw,Nat.reduceMul]
 try (repeat' with_reducible first|refine And.intro ?_ ?_|intro _|refine exP ?_ ?_);all_goals try omega
 refine a0a cWr ?_
 simp (maxSteps:=2000000) only [go_sem,hG,hOw,Nat.reduceMul]
 try (repeat' with_reducible first|refine And.intro ?_ ?_|intro _|refine exP ?_ ?_);all_goals try omega
 refine a2x (s':=St.of [(1,str sWr),(2,i64 0)] []) (a1e (by (simp only [go_sem])<;>simp) hNm) ?_
 exact h
theorem g1g {G:Gh} {lo:Nat} (hG:G.n=168) (hOw:G.ow=fun _=>false) (hNm:G.nm=[]) (h:SemL Tryz.prog G ((a5i (Tryz.f9.body.getD .skip)).drop 3) (St.of [(1,str sWr),(2,i64 0),(3,a0p G.lo lAb),(4,i64 6),(5,i64 0)] []) (a2f Tryz.prog lo [.tmp 0] (bl true))) :
  SemL Tryz.prog G ((a5i (Tryz.f9.body.getD .skip)).drop 2) (St.of [(1,str sWr),(2,i64 0)] []) (a2f Tryz.prog lo [.tmp 0] (bl true)):=by
 refine a1d 1 _ _ ?_
 simp only [Tryz.f9,Option.getD_some,a2s,a1t,a2i,a1w,a2y,List.singleton_append,List.cons_append,List.nil_append,List.drop_succ_cons,List.drop_zero]
 simp only [go_sem,hG,hOw]
 try (repeat' with_reducible first|refine And.intro ?_ ?_|intro _|refine exP ?_ ?_);all_goals try omega
 refine a0a cRd ?_
 simp (maxSteps:=2000000) only [go_sem,hG,hOw,Nat.reduceMul]
 try (repeat' with_reducible first|refine And.intro ?_ ?_|intro _|refine exP ?_ ?_);all_goals try omega
 refine a2x (s':=St.of [(1,str sWr),(2,i64 0),(3,a0p G.lo lAb),(4,i64 6),(5,i64 0)] []) (a1e (by (simp only [go_sem])<;>simp) hNm) ?_
 exact h
theorem g1v {G:Gh} {lo:Nat} (hG:G.n=168) (hOw:G.ow=fun _=>false) (hNm:G.nm=[]) (h:SemL Tryz.prog G ((a5i (Tryz.f9.body.getD .skip)).drop 4) (St.of [(1,str sWr),(2,i64 0),(3,a0p G.lo lAb),(4,i64 6),(5,i64 0),(6,.ptr 6 0),(7,i64 0)] [(6,.box [a0p G.lo shSave.first,hks G.lo shSave.chg])]) (a2f Tryz.prog lo [.tmp 0] (bl true))) :
  SemL Tryz.prog G ((a5i (Tryz.f9.body.getD .skip)).drop 3) (St.of [(1,str sWr),(2,i64 0),(3,a0p G.lo lAb),(4,i64 6),(5,i64 0)] []) (a2f Tryz.prog lo [.tmp 0] (bl true)):=by
 refine a1d 1 _ _ ?_
 simp only [Tryz.f9,Option.getD_some,a2s,a1t,a2i,a1w,a2y,List.singleton_append,List.cons_append,List.nil_append,List.drop_succ_cons,List.drop_zero]
 simp only [go_sem,hG,hOw]
 try (repeat' with_reducible first|refine And.intro ?_ ?_|intro _|refine exP ?_ ?_);all_goals try omega
 refine a1u (a7c _ _ _) (Subs.refl _) rfl (by simp [chk,hG]) ?_
 simp (maxSteps:=2000000) only [go_sem,hG,hOw,Nat.reduceMul]
 try (repeat' with_reducible first|refine And.intro ?_ ?_|intro _|refine exP ?_ ?_);all_goals try omega
 refine a1u (a7c _ _ _) (Subs.refl _) rfl (by simp [chk,hG]) ?_
 simp (maxSteps:=2000000) only [go_sem,hG,hOw,Nat.reduceMul]
 try (repeat' with_reducible first|refine And.intro ?_ ?_|intro _|refine exP ?_ ?_);all_goals try omega
 refine a1u g2d (Subs.cons (Subs.agg (.cons (.lo (Nat.zero_le _)) (.cons (.nil _ _) .nil))) (.cons (.lo (Nat.zero_le _)) .nil)) rfl (by simp [chk,hG]) ?_
 simp (maxSteps:=2000000) only [go_sem,hG,hOw,Nat.reduceMul]
 try (repeat' with_reducible first|refine And.intro ?_ ?_|intro _|refine exP ?_ ?_);all_goals try omega
 refine a2x (s':=St.of [(1,str sWr),(2,i64 0),(3,a0p G.lo lAb),(4,i64 6),(5,i64 0),(6,.ptr 6 0),(7,i64 0)] [(6,.box [a0p G.lo shSave.first,hks G.lo shSave.chg])]) (a2d [(6,some 6)]) ?_
 exact h
theorem g1q {G:Gh} {lo:Nat} (hG:G.n=168) (hOw:G.ow=fun _=>false) (hNm:G.nm=[]) (h:SemL Tryz.prog G ((a5i (Tryz.f9.body.getD .skip)).drop 5) (St.of [(1,str sWr),(2,i64 0),(3,a0p G.lo lAb),(4,i64 6),(5,i64 0),(6,.ptr 6 0),(7,i64 0),(8,a0p G.lo a4v),(9,i64 0)] [(6,.box [a0p G.lo shSave.first,hks G.lo shSave.chg])]) (a2f Tryz.prog lo [.tmp 0] (bl true))) :
  SemL Tryz.prog G ((a5i (Tryz.f9.body.getD .skip)).drop 4) (St.of [(1,str sWr),(2,i64 0),(3,a0p G.lo lAb),(4,i64 6),(5,i64 0),(6,.ptr 6 0),(7,i64 0)] [(6,.box [a0p G.lo shSave.first,hks G.lo shSave.chg])]) (a2f Tryz.prog lo [.tmp 0] (bl true)):=by
 refine a1d 1 _ _ ?_
 simp only [Tryz.f9,Option.getD_some,a2s,a1t,a2i,a1w,a2y,List.singleton_append,List.cons_append,List.nil_append,List.drop_succ_cons,List.drop_zero]
 simp only [go_sem,hG,hOw]
 try (repeat' with_reducible first|refine And.intro ?_ ?_|intro _|refine exP ?_ ?_);all_goals try omega
 refine a0a b3p ?_
 simp (maxSteps:=2000000) only [go_sem,hG,hOw,Nat.reduceMul]
 refine a0a g1p ?_
 simp (maxSteps:=2000000) only [go_sem,hG,hOw,Nat.reduceMul]
 try (repeat' with_reducible first|refine And.intro ?_ ?_|intro _|refine exP ?_ ?_);all_goals try omega
 refine a2x (s':=St.of [(1,str sWr),(2,i64 0),(3,a0p G.lo lAb),(4,i64 6),(5,i64 0),(6,.ptr 6 0),(7,i64 0),(8,a0p G.lo a4v),(9,i64 0)] [(6,.box [a0p G.lo shSave.first,hks G.lo shSave.chg])]) (a2d [(6,some 6)]) ?_
 exact h
theorem g0h {G:Gh} {lo:Nat} (hG:G.n=168) (hOw:G.ow=fun _=>false) (hNm:G.nm=[]) (h:SemL Tryz.prog G ((a5i (Tryz.f9.body.getD .skip)).drop 6) (St.of [(1,str sWr),(2,i64 0),(3,a0p G.lo lAb),(4,i64 6),(5,i64 0),(6,.ptr 6 0),(7,i64 0),(8,a0p G.lo a4v),(9,i64 0),(10,.ptr 10 0),(11,i64 0)] [(6,.box [a0p G.lo shSave.first,hks G.lo shSave.chg]),(10,.box [a0p G.lo shPrune.first,hks G.lo shPrune.chg])]) (a2f Tryz.prog lo [.tmp 0] (bl true))) :
  SemL Tryz.prog G ((a5i (Tryz.f9.body.getD .skip)).drop 5) (St.of [(1,str sWr),(2,i64 0),(3,a0p G.lo lAb),(4,i64 6),(5,i64 0),(6,.ptr 6 0),(7,i64 0),(8,a0p G.lo a4v),(9,i64 0)] [(6,.box [a0p G.lo shSave.first,hks G.lo shSave.chg])]) (a2f Tryz.prog lo [.tmp 0] (bl true)):=by
 refine a1d 1 _ _ ?_
 simp only [Tryz.f9,Option.getD_some,a2s,a1t,a2i,a1w,a2y,List.singleton_append,List.cons_append,List.nil_append,List.drop_succ_cons,List.drop_zero]
 simp only [go_sem,hG,hOw]
 try (repeat' with_reducible first|refine And.intro ?_ ?_|intro _|refine exP ?_ ?_);all_goals try omega
 refine a0a b3p ?_
 simp (maxSteps:=2000000) only [go_sem,hG,hOw,Nat.reduceMul]
 refine a0a f6z ?_
 simp (maxSteps:=2000000) only [go_sem,hG,hOw,Nat.reduceMul]
 try (repeat' with_reducible first|refine And.intro ?_ ?_|intro _|refine exP ?_ ?_);all_goals try omega
 refine a2x (s':=St.of [(1,str sWr),(2,i64 0),(3,a0p G.lo lAb),(4,i64 6),(5,i64 0),(6,.ptr 6 0),(7,i64 0),(8,a0p G.lo a4v),(9,i64 0),(10,.ptr 10 0),(11,i64 0)] [(6,.box [a0p G.lo shSave.first,hks G.lo shSave.chg]),(10,.box [a0p G.lo shPrune.first,hks G.lo shPrune.chg])]) (a2d [(6,some 6),(10,some 10)]) ?_
 exact h
theorem g2a {G:Gh} {lo:Nat} (hG:G.n=168) (hOw:G.ow=fun _=>false) (hNm:G.nm=[]) (h:SemL Tryz.prog G ((a5i (Tryz.f9.body.getD .skip)).drop 7) (St.of [(1,str sWr),(2,i64 0),(3,a0p G.lo lAb),(4,i64 6),(5,i64 0),(6,.ptr 6 0),(7,i64 0),(8,a0p G.lo a4v),(9,i64 0),(10,.ptr 10 0),(11,i64 0),(12,a0p G.lo a6y),(13,i64 0)] [(6,.box [a0p G.lo shSave.first,hks G.lo shSave.chg]),(10,.box [a0p G.lo shPrune.first,hks G.lo shPrune.chg])]) (a2f Tryz.prog lo [.tmp 0] (bl true))) :
  SemL Tryz.prog G ((a5i (Tryz.f9.body.getD .skip)).drop 6) (St.of [(1,str sWr),(2,i64 0),(3,a0p G.lo lAb),(4,i64 6),(5,i64 0),(6,.ptr 6 0),(7,i64 0),(8,a0p G.lo a4v),(9,i64 0),(10,.ptr 10 0),(11,i64 0)] [(6,.box [a0p G.lo shSave.first,hks G.lo shSave.chg]),(10,.box [a0p G.lo shPrune.first,hks G.lo shPrune.chg])]) (a2f Tryz.prog lo [.tmp 0] (bl true)):=by
 refine a1d 1 _ _ ?_
 simp only [Tryz.f9,Option.getD_some,a2s,a1t,a2i,a1w,a2y,List.singleton_append,List.cons_append,List.nil_append,List.drop_succ_cons,List.drop_zero]
 simp only [go_sem,hG,hOw]
 try (repeat' with_reducible first|refine And.intro ?_ ?_|intro _|refine exP ?_ ?_);all_goals try omega
 refine a0a d8m ?_
 simp (maxSteps:=2000000) only [go_sem,hG,hOw,Nat.reduceMul]
 try (repeat' with_reducible first|refine And.intro ?_ ?_|intro _|refine exP ?_ ?_);all_goals try omega
 refine a0a f0a ?_
 simp (maxSteps:=2000000) only [go_sem,hG,hOw,Nat.reduceMul]
 try (repeat' with_reducible first|refine And.intro ?_ ?_|intro _|refine exP ?_ ?_);all_goals try omega
 refine a0a f9y ?_
 simp (maxSteps:=2000000) only [go_sem,hG,hOw,Nat.reduceMul]
 try (repeat' with_reducible first|refine And.intro ?_ ?_|intro _|refine exP ?_ ?_);all_goals try omega
 refine a2x (s':=St.of [(1,str sWr),(2,i64 0),(3,a0p G.lo lAb),(4,i64 6),(5,i64 0),(6,.ptr 6 0),(7,i64 0),(8,a0p G.lo a4v),(9,i64 0),(10,.ptr 10 0),(11,i64 0),(12,a0p G.lo a6y),(13,i64 0)] [(6,.box [a0p G.lo shSave.first,hks G.lo shSave.chg]),(10,.box [a0p G.lo shPrune.first,hks G.lo shPrune.chg])]) (a2d [(6,some 6),(10,some 10)]) ?_
 exact h
theorem g0n {G:Gh} {lo:Nat} (hG:G.n=168) (hOw:G.ow=fun _=>false) (hNm:G.nm=[]) (h:SemL Tryz.prog G ((a5i (Tryz.f9.body.getD .skip)).drop 8) (St.of [(1,str sWr),(2,i64 0),(3,a0p G.lo lAb),(4,i64 6),(5,i64 0),(6,.ptr 6 0),(7,i64 0),(8,a0p G.lo a4v),(9,i64 0),(10,.ptr 10 0),(11,i64 0),(12,a0p G.lo a6y),(13,i64 0),(14,a0p G.lo a8l),(15,i64 0)] [(6,.box [a0p G.lo shSave.first,hks G.lo shSave.chg]),(10,.box [a0p G.lo shPrune.first,hks G.lo shPrune.chg])]) (a2f Tryz.prog lo [.tmp 0] (bl true))) :
  SemL Tryz.prog G ((a5i (Tryz.f9.body.getD .skip)).drop 7) (St.of [(1,str sWr),(2,i64 0),(3,a0p G.lo lAb),(4,i64 6),(5,i64 0),(6,.ptr 6 0),(7,i64 0),(8,a0p G.lo a4v),(9,i64 0),(10,.ptr 10 0),(11,i64 0),(12,a0p G.lo a6y),(13,i64 0)] [(6,.box [a0p G.lo shSave.first,hks G.lo shSave.chg]),(10,.box [a0p G.lo shPrune.first,hks G.lo shPrune.chg])]) (a2f Tryz.prog lo [.tmp 0] (bl true)):=by
 refine a1d 1 _ _ ?_
 simp only [Tryz.f9,Option.getD_some,a2s,a1t,a2i,a1w,a2y,List.singleton_append,List.cons_append,List.nil_append,List.drop_succ_cons,List.drop_zero]
 simp only [go_sem,hG,hOw]
 try (repeat' with_reducible first|refine And.intro ?_ ?_|intro _|refine exP ?_ ?_);all_goals try omega
 refine a0a d8m ?_
 simp (maxSteps:=2000000) only [go_sem,hG,hOw,Nat.reduceMul]
 try (repeat' with_reducible first|refine And.intro ?_ ?_|intro _|refine exP ?_ ?_);all_goals try omega
 refine a0a g2c ?_
 simp (maxSteps:=2000000) only [go_sem,hG,hOw,Nat.reduceMul]
 try (repeat' with_reducible first|refine And.intro ?_ ?_|intro _|refine exP ?_ ?_);all_goals try omega
 refine a2x (s':=St.of [(1,str sWr),(2,i64 0),(3,a0p G.lo lAb),(4,i64 6),(5,i64 0),(6,.ptr 6 0),(7,i64 0),(8,a0p G.lo a4v),(9,i64 0),(10,.ptr 10 0),(11,i64 0),(12,a0p G.lo a6y),(13,i64 0),(14,a0p G.lo a8l),(15,i64 0)] [(6,.box [a0p G.lo shSave.first,hks G.lo shSave.chg]),(10,.box [a0p G.lo shPrune.first,hks G.lo shPrune.chg])]) (a2d [(6,some 6),(10,some 10)]) ?_
 exact h
theorem g0r {G:Gh} {lo:Nat} (hG:G.n=168) (hOw:G.ow=fun _=>false) (hNm:G.nm=[]) (h:SemL Tryz.prog G ((a5i (Tryz.f9.body.getD .skip)).drop 9) (St.of [(1,str sWr),(2,i64 0),(3,a0p G.lo lAb),(4,i64 6),(5,i64 0),(6,.ptr 6 0),(7,i64 0),(8,a0p G.lo a4v),(9,i64 0),(10,.ptr 10 0),(11,i64 0),(12,a0p G.lo a6y),(13,i64 0),(14,a0p G.lo a8l),(15,i64 0),(16,a0p G.lo c7b),(17,i64 0)] [(6,.box [a0p G.lo shSave.first,hks G.lo shSave.chg]),(10,.box [a0p G.lo shPrune.first,hks G.lo shPrune.chg])]) (a2f Tryz.prog lo [.tmp 0] (bl true))) :
  SemL Tryz.prog G ((a5i (Tryz.f9.body.getD .skip)).drop 8) (St.of [(1,str sWr),(2,i64 0),(3,a0p G.lo lAb),(4,i64 6),(5,i64 0),(6,.ptr 6 0),(7,i64 0),(8,a0p G.lo a4v),(9,i64 0),(10,.ptr 10 0),(11,i64 0),(12,a0p G.lo a6y),(13,i64 0),(14,a0p G.lo a8l),(15,i64 0)] [(6,.box [a0p G.lo shSave.first,hks G.lo shSave.chg]),(10,.box [a0p G.lo shPrune.first,hks G.lo shPrune.chg])]) (a2f Tryz.prog lo [.tmp 0] (bl true)):=by
 refine a1d 1 _ _ ?_
 simp only [Tryz.f9,Option.getD_some,a2s,a1t,a2i,a1w,a2y,List.singleton_append,List.cons_append,List.nil_append,List.drop_succ_cons,List.drop_zero]
 simp only [go_sem,hG,hOw]
 try (repeat' with_reducible first|refine And.intro ?_ ?_|intro _|refine exP ?_ ?_);all_goals try omega
 refine a0a d8m ?_
 simp (maxSteps:=2000000) only [go_sem,hG,hOw,Nat.reduceMul]
 try (repeat' with_reducible first|refine And.intro ?_ ?_|intro _|refine exP ?_ ?_);all_goals try omega
 refine a0a d3k ?_
 simp (maxSteps:=2000000) only [go_sem,hG,hOw,Nat.reduceMul]
 try (repeat' with_reducible first|refine And.intro ?_ ?_|intro _|refine exP ?_ ?_);all_goals try omega
 refine a0a g2z ?_
 simp (maxSteps:=2000000) only [go_sem,hG,hOw,Nat.reduceMul]
 try (repeat' with_reducible first|refine And.intro ?_ ?_|intro _|refine exP ?_ ?_);all_goals try omega
 refine a2x (s':=St.of [(1,str sWr),(2,i64 0),(3,a0p G.lo lAb),(4,i64 6),(5,i64 0),(6,.ptr 6 0),(7,i64 0),(8,a0p G.lo a4v),(9,i64 0),(10,.ptr 10 0),(11,i64 0),(12,a0p G.lo a6y),(13,i64 0),(14,a0p G.lo a8l),(15,i64 0),(16,a0p G.lo c7b),(17,i64 0)] [(6,.box [a0p G.lo shSave.first,hks G.lo shSave.chg]),(10,.box [a0p G.lo shPrune.first,hks G.lo shPrune.chg])]) (a2d [(6,some 6),(10,some 10)]) ?_
 exact h
theorem g0c {G:Gh} {lo:Nat} (hG:G.n=168) (hOw:G.ow=fun _=>false) (hNm:G.nm=[]) (h:SemL Tryz.prog G ((a5i (Tryz.f9.body.getD .skip)).drop 10) (St.of [(1,str sWr),(2,i64 0),(3,a0p G.lo lAb),(4,i64 6),(5,i64 0),(6,.ptr 6 0),(7,i64 0),(8,a0p G.lo a4v),(9,i64 0),(10,.ptr 10 0),(11,i64 0),(12,a0p G.lo a6y),(13,i64 0),(14,a0p G.lo a8l),(15,i64 0),(16,a0p G.lo c7b),(17,i64 0),(18,a0p G.lo a8f),(19,i64 0)] [(6,.box [a0p G.lo shSave.first,hks G.lo shSave.chg]),(10,.box [a0p G.lo shPrune.first,hks G.lo shPrune.chg])]) (a2f Tryz.prog lo [.tmp 0] (bl true))) :
  SemL Tryz.prog G ((a5i (Tryz.f9.body.getD .skip)).drop 9) (St.of [(1,str sWr),(2,i64 0),(3,a0p G.lo lAb),(4,i64 6),(5,i64 0),(6,.ptr 6 0),(7,i64 0),(8,a0p G.lo a4v),(9,i64 0),(10,.ptr 10 0),(11,i64 0),(12,a0p G.lo a6y),(13,i64 0),(14,a0p G.lo a8l),(15,i64 0),(16,a0p G.lo c7b),(17,i64 0)] [(6,.box [a0p G.lo shSave.first,hks G.lo shSave.chg]),(10,.box [a0p G.lo shPrune.first,hks G.lo shPrune.chg])]) (a2f Tryz.prog lo [.tmp 0] (bl true)):=by
 refine a1d 1 _ _ ?_
 simp only [Tryz.f9,Option.getD_some,a2s,a1t,a2i,a1w,a2y,List.singleton_append,List.cons_append,List.nil_append,List.drop_succ_cons,List.drop_zero]
 simp only [go_sem,hG,hOw]
 try (repeat' with_reducible first|refine And.intro ?_ ?_|intro _|refine exP ?_ ?_);all_goals try omega
 refine a0a (b7r _ _ _) ?_
 simp (maxSteps:=2000000) only [go_sem,hG,hOw,Nat.reduceMul]
 try (repeat' with_reducible first|refine And.intro ?_ ?_|intro _|refine exP ?_ ?_);all_goals try omega
 refine a0a f7h ?_
 simp (maxSteps:=2000000) only [go_sem,hG,hOw,Nat.reduceMul]
 try (repeat' with_reducible first|refine And.intro ?_ ?_|intro _|refine exP ?_ ?_);all_goals try omega
 refine a2x (s':=St.of [(1,str sWr),(2,i64 0),(3,a0p G.lo lAb),(4,i64 6),(5,i64 0),(6,.ptr 6 0),(7,i64 0),(8,a0p G.lo a4v),(9,i64 0),(10,.ptr 10 0),(11,i64 0),(12,a0p G.lo a6y),(13,i64 0),(14,a0p G.lo a8l),(15,i64 0),(16,a0p G.lo c7b),(17,i64 0),(18,a0p G.lo a8f),(19,i64 0)] [(6,.box [a0p G.lo shSave.first,hks G.lo shSave.chg]),(10,.box [a0p G.lo shPrune.first,hks G.lo shPrune.chg])]) (a2d [(6,some 6),(10,some 10)]) ?_
 exact h
theorem f7j {G:Gh} {lo:Nat} (hG:G.n=168) (hOw:G.ow=fun _=>false) (hNm:G.nm=[]) (h:SemL Tryz.prog G ((a5i (Tryz.f9.body.getD .skip)).drop 11) (St.of [(1,str sWr),(2,i64 0),(3,a0p G.lo lAb),(4,i64 6),(5,i64 0),(6,.ptr 6 0),(7,i64 0),(8,a0p G.lo a4v),(9,i64 0),(10,.ptr 10 0),(11,i64 0),(12,a0p G.lo a6y),(13,i64 0),(14,a0p G.lo a8l),(15,i64 0),(16,a0p G.lo c7b),(17,i64 0),(18,a0p G.lo a8f),(19,i64 0),(20,a0p G.lo lXB),(21,i64 0)] [(6,.box [a0p G.lo shSave.first,hks G.lo shSave.chg]),(10,.box [a0p G.lo shPrune.first,hks G.lo shPrune.chg])]) (a2f Tryz.prog lo [.tmp 0] (bl true))) :
  SemL Tryz.prog G ((a5i (Tryz.f9.body.getD .skip)).drop 10) (St.of [(1,str sWr),(2,i64 0),(3,a0p G.lo lAb),(4,i64 6),(5,i64 0),(6,.ptr 6 0),(7,i64 0),(8,a0p G.lo a4v),(9,i64 0),(10,.ptr 10 0),(11,i64 0),(12,a0p G.lo a6y),(13,i64 0),(14,a0p G.lo a8l),(15,i64 0),(16,a0p G.lo c7b),(17,i64 0),(18,a0p G.lo a8f),(19,i64 0)] [(6,.box [a0p G.lo shSave.first,hks G.lo shSave.chg]),(10,.box [a0p G.lo shPrune.first,hks G.lo shPrune.chg])]) (a2f Tryz.prog lo [.tmp 0] (bl true)):=by
 refine a1d 1 _ _ ?_
 simp only [Tryz.f9,Option.getD_some,a2s,a1t,a2i,a1w,a2y,List.singleton_append,List.cons_append,List.nil_append,List.drop_succ_cons,List.drop_zero]
 simp only [go_sem,hG,hOw]
 try (repeat' with_reducible first|refine And.intro ?_ ?_|intro _|refine exP ?_ ?_);all_goals try omega
 refine a1u (a7c _ _ _) (Subs.refl _) rfl (by simp [chk,hG]) ?_
 simp (maxSteps:=2000000) only [go_sem,hG,hOw,Nat.reduceMul]
 try (repeat' with_reducible first|refine And.intro ?_ ?_|intro _|refine exP ?_ ?_);all_goals try omega
 refine a1u (a7c _ _ _) (Subs.refl _) rfl (by simp [chk,hG]) ?_
 simp (maxSteps:=2000000) only [go_sem,hG,hOw,Nat.reduceMul]
 try (repeat' with_reducible first|refine And.intro ?_ ?_|intro _|refine exP ?_ ?_);all_goals try omega
 refine a1u (a7c _ _ _) (Subs.refl _) rfl (by simp [chk,hG]) ?_
 simp (maxSteps:=2000000) only [go_sem,hG,hOw,Nat.reduceMul]
 try (repeat' with_reducible first|refine And.intro ?_ ?_|intro _|refine exP ?_ ?_);all_goals try omega
 refine a0a f6p ?_
 simp (maxSteps:=2000000) only [go_sem,hG,hOw,Nat.reduceMul]
 try (repeat' with_reducible first|refine And.intro ?_ ?_|intro _|refine exP ?_ ?_);all_goals try omega
 refine a2x (s':=St.of [(1,str sWr),(2,i64 0),(3,a0p G.lo lAb),(4,i64 6),(5,i64 0),(6,.ptr 6 0),(7,i64 0),(8,a0p G.lo a4v),(9,i64 0),(10,.ptr 10 0),(11,i64 0),(12,a0p G.lo a6y),(13,i64 0),(14,a0p G.lo a8l),(15,i64 0),(16,a0p G.lo c7b),(17,i64 0),(18,a0p G.lo a8f),(19,i64 0),(20,a0p G.lo lXB),(21,i64 0)] [(6,.box [a0p G.lo shSave.first,hks G.lo shSave.chg]),(10,.box [a0p G.lo shPrune.first,hks G.lo shPrune.chg])]) (a2d [(6,some 6),(10,some 10)]) ?_
 exact h
theorem f5w {G:Gh} {lo:Nat} (hG:G.n=168) (hOw:G.ow=fun _=>false) (hNm:G.nm=[]) :
  SemL Tryz.prog G ((a5i (Tryz.f9.body.getD .skip)).drop 13) (St.of [(12,a0p G.lo a6y),(13,i64 0),(14,a0p G.lo a8l),(15,i64 0),(16,a0p G.lo c7b),(17,i64 0),(18,a0p G.lo a8f),(19,i64 0),(20,a0p G.lo lXB),(21,i64 0)] []) (a2f Tryz.prog lo [.tmp 0] (bl true)):=by
 refine a1d 2 _ _ ?_
 simp only [Tryz.f9,Option.getD_some,a2s,a1t,a2i,a1w,a2y,List.singleton_append,List.cons_append,List.nil_append,List.drop_succ_cons,List.drop_zero]
 simp only [go_sem,hG,hOw]
 try (repeat' with_reducible first|refine And.intro ?_ ?_|intro _|refine exP ?_ ?_);all_goals try omega
 refine a0a (c5p a6y) ?_
 simp (maxSteps:=2000000) only [go_sem,hG,hOw,Nat.reduceMul]
 try (repeat' with_reducible first|refine And.intro ?_ ?_|intro _|refine exP ?_ ?_);all_goals try omega
 refine a0a (c5p a8l) ?_
 simp (maxSteps:=2000000) only [go_sem,hG,hOw,Nat.reduceMul]
 try (repeat' with_reducible first|refine And.intro ?_ ?_|intro _|refine exP ?_ ?_);all_goals try omega
 refine a0a (c5p c7b) ?_
 simp (maxSteps:=2000000) only [go_sem,hG,hOw,Nat.reduceMul]
 try (repeat' with_reducible first|refine And.intro ?_ ?_|intro _|refine exP ?_ ?_);all_goals try omega
 refine a0a (c5p a8f) ?_
 simp (maxSteps:=2000000) only [go_sem,hG,hOw,Nat.reduceMul]
 try (repeat' with_reducible first|refine And.intro ?_ ?_|intro _|refine exP ?_ ?_);all_goals try omega
 refine a0a (c5p lXB) ?_
 simp (maxSteps:=2000000) only [go_sem,hG,hOw,Nat.reduceMul]
 try (repeat' with_reducible first|refine And.intro ?_ ?_|intro _|refine exP ?_ ?_);all_goals try omega
theorem f8v {G:Gh} {lo:Nat} (hG:G.n=168) (hOw:G.ow=fun _=>false) (hNm:G.nm=[]) (h:SemL Tryz.prog G ((a5i (Tryz.f9.body.getD .skip)).drop 13) (St.of [(12,a0p G.lo a6y),(13,i64 0),(14,a0p G.lo a8l),(15,i64 0),(16,a0p G.lo c7b),(17,i64 0),(18,a0p G.lo a8f),(19,i64 0),(20,a0p G.lo lXB),(21,i64 0)] []) (a2f Tryz.prog lo [.tmp 0] (bl true))) :
  SemL Tryz.prog G ((a5i (Tryz.f9.body.getD .skip)).drop 11) (St.of [(1,str sWr),(2,i64 0),(3,a0p G.lo lAb),(4,i64 6),(5,i64 0),(6,.ptr 6 0),(7,i64 0),(8,a0p G.lo a4v),(9,i64 0),(10,.ptr 10 0),(11,i64 0),(12,a0p G.lo a6y),(13,i64 0),(14,a0p G.lo a8l),(15,i64 0),(16,a0p G.lo c7b),(17,i64 0),(18,a0p G.lo a8f),(19,i64 0),(20,a0p G.lo lXB),(21,i64 0)] [(6,.box [a0p G.lo shSave.first,hks G.lo shSave.chg]),(10,.box [a0p G.lo shPrune.first,hks G.lo shPrune.chg])]) (a2f Tryz.prog lo [.tmp 0] (bl true)):=by
 have hln:shelfS.chg.length=2:=rfl
 have hs:decide (sWr=⟨#[97,98,32,115,103,10,98,32,101,97,10]⟩)=true:=by decide
 refine a1d 2 _ _ ?_
 simp only [Tryz.f9,Option.getD_some,a2s,a1t,a2i,a1w,a2y,List.singleton_append,List.cons_append,List.nil_append,List.drop_succ_cons,List.drop_zero]
 simp only [go_sem,hG,hOw]
 try (repeat' with_reducible first|refine And.intro ?_ ?_|intro _|refine exP ?_ ?_);all_goals try omega
 refine a0s mixed (by kernel_rfl) ?_
 simp (maxSteps:=2000000) only [go_sem,hG,hOw,Nat.reduceMul,hs,hln]
 try (repeat' with_reducible first|refine And.intro ?_ ?_|intro _|refine exP ?_ ?_);all_goals try omega
 refine ⟨_,a0e (c5p lAb),?_⟩
 simp (maxSteps:=2000000) only [go_sem,hG,hOw,Nat.reduceMul,hs,hln]
 try (repeat' with_reducible first|refine And.intro ?_ ?_|intro _|refine exP ?_ ?_);all_goals try omega
 refine ⟨_,a0e (a7c _ _ _),?_⟩
 simp (maxSteps:=2000000) only [go_sem,hG,hOw,Nat.reduceMul,hs,hln]
 try (repeat' with_reducible first|refine And.intro ?_ ?_|intro _|refine exP ?_ ?_);all_goals try omega
 refine ⟨_,a0e b3p,?_⟩
 simp (maxSteps:=2000000) only [go_sem,hG,hOw,Nat.reduceMul,hs,hln]
 try (repeat' with_reducible first|refine And.intro ?_ ?_|intro _|refine exP ?_ ?_);all_goals try omega
 refine ⟨_,b4n (e8m shSave) (.cons (c9m _ shSave) (.cons (c9m _ shSave) .nil)) (by first|rfl|simp [b0j,b3n,pureV,pure0, *]),?_⟩
 simp (maxSteps:=2000000) only [go_sem,hG,hOw,Nat.reduceMul,hs,hln]
 try (repeat' with_reducible first|refine And.intro ?_ ?_|intro _|refine exP ?_ ?_);all_goals try omega
 refine ⟨_,a0e (c5p a4v),?_⟩
 simp (maxSteps:=2000000) only [go_sem,hG,hOw,Nat.reduceMul,hs,hln]
 try (repeat' with_reducible first|refine And.intro ?_ ?_|intro _|refine exP ?_ ?_);all_goals try omega
 refine ⟨_,a0e (a7c _ _ _),?_⟩
 simp (maxSteps:=2000000) only [go_sem,hG,hOw,Nat.reduceMul,hs,hln]
 try (repeat' with_reducible first|refine And.intro ?_ ?_|intro _|refine exP ?_ ?_);all_goals try omega
 refine ⟨_,a0e b3p,?_⟩
 simp (maxSteps:=2000000) only [go_sem,hG,hOw,Nat.reduceMul,hs,hln]
 try (repeat' with_reducible first|refine And.intro ?_ ?_|intro _|refine exP ?_ ?_);all_goals try omega
 refine ⟨_,b4n (e8m shPrune) (.cons (c9m _ shPrune) (.cons (c9m _ shPrune) .nil)) (by first|rfl|simp [b0j,b3n,pureV,pure0, *]),?_⟩
 simp (maxSteps:=2000000) only [go_sem,hG,hOw,Nat.reduceMul,hs,hln]
 try (repeat' with_reducible first|refine And.intro ?_ ?_|intro _|refine exP ?_ ?_);all_goals try omega
 refine a2x (s':=St.of [(12,a0p G.lo a6y),(13,i64 0),(14,a0p G.lo a8l),(15,i64 0),(16,a0p G.lo c7b),(17,i64 0),(18,a0p G.lo a8f),(19,i64 0),(20,a0p G.lo lXB),(21,i64 0)] []) (a1e (by (simp only [go_sem])<;>simp) hNm) ?_
 exact h
theorem e8g:a0n Tryz.prog 9 [] (fun _=>bl true):=by
 refine b5u (fun _=>false) Tryz.func9 Tryz.ntmps9 rfl (by kernel_rfl) (by simp) rfl (by decide) fun G hG hOw hNm hZ hB=>?_
 refine a1d 1 _ _ ?_
 simp only [go_sem,hG,hOw]
 refine a2x (s':=St.of [] []) (a1e (by (simp only [go_sem])<;>simp) hNm) ?_
 refine g0k hG hOw hNm ?_
 refine g1g hG hOw hNm ?_
 refine g1v hG hOw hNm ?_
 refine g1q hG hOw hNm ?_
 refine g0h hG hOw hNm ?_
 refine g2a hG hOw hNm ?_
 refine g0n hG hOw hNm ?_
 refine g0r hG hOw hNm ?_
 refine g0c hG hOw hNm ?_
 refine f7j hG hOw hNm ?_
 refine f8v hG hOw hNm ?_
 exact f5w hG hOw hNm
open Go Pm
set_option maxHeartbeats 4000000
set_option maxRecDepth 100000
theorem e9p {l:List ByteArray} (h:a1a l=true) (hn:l.length≤180):∃ B,a0n Tryz.prog 14 [a0p 0 l] (fun _=>.tup [.v (.string B),i64 0])∧a0n Tryz.prog 15 [.v (.string B)] (fun n=>.tup [a0p n l,i64 B.size,i64 0]):=by
 obtain ⟨e1,e2,e3,e4⟩:=g0s h (f7b h hn)
 refine ⟨wrS l,?_,?_⟩
 ·have:=c9s l
  rw [e4] at this
  exact this
 ·have:=e1r (wrS l)
  rw [e1,e2,e3] at this
  exact this
end Go.Proofs.YtmjhfccbbfpppaaGreatDoor
