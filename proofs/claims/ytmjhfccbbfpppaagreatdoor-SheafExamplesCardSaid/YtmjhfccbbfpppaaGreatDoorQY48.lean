import Derived.KernelRfl
import Derived.Test.YtmjhfccbbfpppaaGreatDoorQY18
import Derived.Test.YtmjhfccbbfpppaaGreatDoorQY19
import Derived.Test.YtmjhfccbbfpppaaGreatDoorQY20
import Derived.Test.YtmjhfccbbfpppaaGreatDoorQY26
import Derived.Test.YtmjhfccbbfpppaaGreatDoorQY28
import Derived.Test.YtmjhfccbbfpppaaGreatDoorQY29
import Derived.Test.YtmjhfccbbfpppaaGreatDoorQY30
import Derived.Test.YtmjhfccbbfpppaaGreatDoorQY32
import Derived.Test.YtmjhfccbbfpppaaGreatDoorQY34
import Derived.Test.YtmjhfccbbfpppaaGreatDoorQY37
import Derived.Test.YtmjhfccbbfpppaaGreatDoorQY38
import Derived.Test.YtmjhfccbbfpppaaGreatDoorQY41
import Derived.Test.YtmjhfccbbfpppaaGreatDoorQY54
import Derived.Test.YtmjhfccbbfpppaaGreatDoorQY43
import Derived.Test.YtmjhfccbbfpppaaGreatDoorQY47
namespace Go.Proofs.YtmjhfccbbfpppaaGreatDoor
open Go Pm
set_option maxRecDepth 100000
def b4m:List Ch:=[⟨7,[[⟨#[116,104,101]⟩,⟨#[115,101,97]⟩,⟨#[105,115]⟩,⟨#[111,108,100]⟩],[⟨#[111,108,100]⟩,⟨#[116,104,101]⟩,⟨#[115,101,97]⟩]]⟩,⟨3,[[⟨#[115,101,97]⟩,⟨#[97,110,100]⟩,⟨#[115,101,97]⟩]]⟩]
def c9q:Cp:=⟨4,[⟨0,0,3,3,⟨#[99,111,108,100]⟩⟩,⟨0,1,1,1,⟨#[]⟩⟩,⟨1,0,3,2,⟨#[115,97,108,116]⟩⟩]⟩
def lexX:Lx:=⟨[⟨⟨#[115]⟩,⟨#[]⟩,2⟩,⟨⟨#[108,100]⟩,⟨#[108,100,101]⟩,1⟩],[⟨1,1,⟨#[115,101,97]⟩,0,0,0,⟨#[115,101,97]⟩,1,0⟩,⟨2,2,⟨#[111,108,100]⟩,0,1,0,⟨#[97,103,101]⟩,3,0⟩,⟨3,3,⟨#[]⟩,1,0,2,⟨#[115,101,101]⟩,2,0⟩,⟨5,4,⟨#[]⟩,0,0,0,⟨#[]⟩,0,3⟩]⟩
def shelfS:Sh:=⟨[⟨#[97,98]⟩,⟨#[98]⟩],[⟨1,0,[⟨#[99]⟩]⟩,⟨0,1,[]⟩]⟩
def slipsL:List Si:=[⟨0,0,2,⟨#[105,115]⟩,⟨#[115,101,97]⟩,⟨#[111,108,100,32,111,108,100]⟩⟩]
open Go Pm
set_option linter.unusedSimpArgs false
set_option linter.unusedVariables false
set_option maxRecDepth 100000
theorem g1d:a3u 0=⟨#[48]⟩:=by unfold a3u;rw [show Lib.itoa 0=Lib.decDigits 0 from a4s 0,Lib.decDigits_one (by decide)];rfl
theorem g1i:a3u 1=⟨#[49]⟩:=by unfold a3u;rw [show Lib.itoa 1=Lib.decDigits 1 from a4s 1,Lib.decDigits_one (by decide)];rfl
theorem g0x:a3u 2=⟨#[50]⟩:=by unfold a3u;rw [show Lib.itoa 2=Lib.decDigits 2 from a4s 2,Lib.decDigits_one (by decide)];rfl
theorem g1h:a3u 3=⟨#[51]⟩:=by unfold a3u;rw [show Lib.itoa 3=Lib.decDigits 3 from a4s 3,Lib.decDigits_one (by decide)];rfl
theorem g1g:a3u 4=⟨#[52]⟩:=by unfold a3u;rw [show Lib.itoa 4=Lib.decDigits 4 from a4s 4,Lib.decDigits_one (by decide)];rfl
theorem g1l:a3u 5=⟨#[53]⟩:=by unfold a3u;rw [show Lib.itoa 5=Lib.decDigits 5 from a4s 5,Lib.decDigits_one (by decide)];rfl
theorem g1n:a3u 6=⟨#[54]⟩:=by unfold a3u;rw [show Lib.itoa 6=Lib.decDigits 6 from a4s 6,Lib.decDigits_one (by decide)];rfl
theorem g0w:a3u 7=⟨#[55]⟩:=by unfold a3u;rw [show Lib.itoa 7=Lib.decDigits 7 from a4s 7,Lib.decDigits_one (by decide)];rfl
theorem al_wr:wrS [⟨#[97,98]⟩,⟨#[98]⟩]=⟨#[97,98,32,115,103,10,98,32,101,97,10]⟩∧wrE [⟨#[97,98]⟩,⟨#[98]⟩]=0:=⟨by kernel_rfl,by kernel_rfl⟩
theorem al_rd:rdL ⟨#[97,98,32,115,103,10,98,32,101,97]⟩=[⟨#[97,98]⟩]∧rdN ⟨#[97,98,32,115,103,10,98,32,101,97]⟩=6∧c6q ⟨#[97,98,32,115,103,10,98,32,101,97]⟩=0:=⟨by kernel_rfl,by kernel_rfl,by kernel_rfl⟩
theorem al_save:b7s ⟨[⟨#[97,98]⟩,⟨#[98]⟩],[]⟩ [⟨#[97,98]⟩,⟨#[99]⟩,⟨#[98]⟩]=⟨[⟨#[97,98]⟩,⟨#[98]⟩],[⟨1,0,[⟨#[99]⟩]⟩]⟩∧b1m ⟨[⟨#[97,98]⟩,⟨#[98]⟩],[]⟩ [⟨#[97,98]⟩,⟨#[99]⟩,⟨#[98]⟩]=0:=⟨by kernel_rfl,by kernel_rfl⟩
theorem al_back:b2z shelfS 1=[⟨#[97,98]⟩,⟨#[99]⟩,⟨#[98]⟩]∧a6d shelfS 1=0:=⟨by kernel_rfl,by kernel_rfl⟩
theorem e8c:b4a shelfS 1=⟨[⟨#[97,98]⟩,⟨#[99]⟩,⟨#[98]⟩],[⟨0,1,[]⟩]⟩:=by kernel_rfl
theorem f2o:a2l b4m=true:=by kernel_rfl
theorem f2v:a7l b4m c9q=0:=by kernel_rfl
theorem f8a:b1f b4m lexX=0:=by kernel_rfl
theorem e9n:slipsL.all b4t=true:=by kernel_rfl
theorem al_merge:a5n [⟨#[97]⟩,⟨#[98]⟩,⟨#[99]⟩] [⟨#[120]⟩,⟨#[98]⟩,⟨#[99]⟩] [⟨#[97]⟩,⟨#[98]⟩]=[⟨#[120]⟩,⟨#[98]⟩]∧a3m [⟨#[97]⟩,⟨#[98]⟩,⟨#[99]⟩] [⟨#[120]⟩,⟨#[98]⟩,⟨#[99]⟩] [⟨#[97]⟩,⟨#[98]⟩]=0:=⟨by kernel_rfl,by kernel_rfl⟩
theorem d8z:a3n b4m=[⟨#[99,104,97,112,116,101,114,32,55]⟩,⟨#[108,105,110,101,32,116,104,101,32,115,101,97,32,105,115,32,111,108,100]⟩,⟨#[108,105,110,101,32,111,108,100,32,116,104,101,32,115,101,97]⟩,⟨#[99,104,97,112,116,101,114,32,51]⟩,⟨#[108,105,110,101,32,115,101,97,32,97,110,100,32,115,101,97]⟩]:=by simp only [a3n,b4m,List.flatMap_cons,List.flatMap_nil,e6m,List.map_cons,List.map_nil,g1d,g1i,g0x,g1h,g1g,g1l,g1n,g0w];kernel_rfl
theorem e1f:a7u c9q=[⟨#[99,111,112,121,32,52]⟩,⟨#[111,116,104,101,114,32,48,32,48,32,51,32,99,111,108,100]⟩,⟨#[111,109,105,116,32,48,32,49,32,49]⟩,⟨#[112,117,116,32,49,32,48,32,51,32,115,97,108,116]⟩]:=by simp only [a7u,c9q,List.map_cons,List.map_nil,c6e,atS,g1d,g1i,g0x,g1h,g1g,g1l,g1n,g0w];kernel_rfl
theorem e6l:b9k lexX=[⟨#[99,117,116,32,115,32,50]⟩,⟨#[99,117,116,32,108,100,32,108,100,101,32,49]⟩,⟨#[102,111,114,109,32,49,32,115,101,97,32,115,101,97,32,49]⟩,⟨#[102,114,111,109,32,50,32,48,32,49,32,48,32,111,108,100,32,97,103,101,32,51]⟩,⟨#[112,108,97,99,101,32,51,32,49,32,48,32,50,32,115,101,101,32,50]⟩,⟨#[118,111,105,100,32,53,32,51]⟩]:=by simp only [b9k,lexX,List.map_cons,List.map_nil,a8y,b1p,fmP,c6i,atS,g1d,g1i,g0x,g1h,g1g,g1l,g1n,g0w];kernel_rfl
theorem d1s:a2p slipsL=[⟨#[115,108,105,112,32,48,32,48,32,50,32,105,115]⟩,⟨#[98,101,102,111,114,101,32,115,101,97]⟩,⟨#[97,102,116,101,114,32,111,108,100,32,111,108,100]⟩]:=by simp only [a2p,slipsL,List.flatMap_cons,List.flatMap_nil,c6t,f3c,e7x,atS,g1d,g1i,g0x,g1h,g1g,g1l,g1n,g0w];kernel_rfl
theorem c8b:a4t slipsL=([⟨#[115,108,105,112,32,48,32,48,32,50,32,105,115]⟩,⟨#[98,101,102,111,114,101,32,115,101,97]⟩,⟨#[97,102,116,101,114,32,111,108,100,32,111,108,100]⟩],0):=by unfold a4t;rw [if_pos e9n,d1s];rfl
open Go Pm
set_option maxHeartbeats 4000000
set_option maxRecDepth 100000
theorem a2n (lo sz:Nat) (rows:List (List V)):a0o Tryz.prog 34 [.lst lo sz rows] (fun _=>.lst lo sz rows):=by
 refine a0c (ow:=fun _=>false) Tryz.func34 Tryz.ntmps34 rfl rfl fun G hG hOw hNm hB=>?_;simp only [go_sem,hG,hOw]
theorem b7h (a b c:Int):a0o Tryz.prog 41 [i64 a,i64 b,i64 c] (fun _=>.agg [i64 a,i64 b,i64 c]):=by
 refine a0c (ow:=fun _=>false) Tryz.func41 Tryz.ntmps41 rfl rfl fun G hG hOw hNm hB=>?_;simp only [go_sem,hG,hOw]
theorem b7m:a0o Tryz.prog 38 [] (fun n=>txE n b4m):=by
 refine a0c (ow:=fun _=>false) Tryz.func38 Tryz.ntmps38 rfl rfl fun G hG hOw hNm hB=>?_;simp only [go_sem,hG,hOw]
 try (repeat' with_reducible first|refine And.intro ?_ ?_|intro _|refine exP ?_ ?_);all_goals try omega
 exact .refl _
theorem a6q:a0o Tryz.prog 35 [] (fun n=>shE n shelfS):=by
 refine a0c (ow:=fun _=>false) Tryz.func35 Tryz.ntmps35 rfl rfl fun G hG hOw hNm hB=>?_;simp only [go_sem,hG,hOw]
 try (repeat' with_reducible first|refine And.intro ?_ ?_|intro _|refine exP ?_ ?_);all_goals try omega
 refine a0w (a2n _ _ _) (Subs.refl _) rfl (by simp [chk,hG]) ?_
 simp only [go_sem,hG,hOw]
 try (repeat' with_reducible first|refine And.intro ?_ ?_|intro _|refine exP ?_ ?_);all_goals try omega
 refine a0w (a2n _ _ _) (Subs.refl _) rfl (by simp [chk,hG]) ?_
 simp only [go_sem,hG,hOw]
 try (repeat' with_reducible first|refine And.intro ?_ ?_|intro _|refine exP ?_ ?_);all_goals try omega
 refine Subs.agg (.cons (.refl _) (.cons (Sub.lst (Nat.le_refl _) rfl fun i x x' h1 h2=>?_) .nil))
 match i with
 |0=>simp at h1;subst h1;simp [shelfS] at h2;subst h2;exact Subs.refl _
 |1=>simp at h1;subst h1;simp [shelfS] at h2;subst h2;exact .cons (.refl _) (.cons (.refl _) (.cons (.nil _ _) .nil))
 |i+2=>simp at h1
theorem f2t:a0o Tryz.prog 54 [] (fun n=>cpE n c9q):=by
 refine a0c (ow:=fun _=>false) Tryz.func54 Tryz.ntmps54 rfl rfl fun G hG hOw hNm hB=>?_;simp only [go_sem,hG,hOw]
 try (repeat' with_reducible first|refine And.intro ?_ ?_|intro _|refine exP ?_ ?_);all_goals try omega
 refine a0w (b7h _ _ _) (Subs.refl _) rfl (by simp [chk,hG]) ?_
 simp (maxSteps:=2000000) only [go_sem,hG,hOw,Nat.reduceMul]
 try (repeat' with_reducible first|refine And.intro ?_ ?_|intro _|refine exP ?_ ?_);all_goals try omega
 refine a0w (b7h _ _ _) (Subs.refl _) rfl (by simp [chk,hG]) ?_
 simp (maxSteps:=2000000) only [go_sem,hG,hOw,Nat.reduceMul]
 try (repeat' with_reducible first|refine And.intro ?_ ?_|intro _|refine exP ?_ ?_);all_goals try omega
 refine a0w (b7h _ _ _) (Subs.refl _) rfl (by simp [chk,hG]) ?_
 simp (maxSteps:=2000000) only [go_sem,hG,hOw,Nat.reduceMul]
 try (repeat' with_reducible first|refine And.intro ?_ ?_|intro _|refine exP ?_ ?_);all_goals try omega
 exact .refl _
theorem d2w:a0o Tryz.prog 55 [] (fun n=>lxE n lexX):=by
 refine a0c (ow:=fun _=>false) Tryz.func55 Tryz.ntmps55 rfl rfl fun G hG hOw hNm hB=>?_;simp only [go_sem,hG,hOw]
 try (repeat' with_reducible first|refine And.intro ?_ ?_|intro _|refine exP ?_ ?_);all_goals try omega
 refine a0w (b7h _ _ _) (Subs.refl _) rfl (by simp [chk,hG]) ?_
 simp (maxSteps:=2000000) only [go_sem,hG,hOw,Nat.reduceMul]
 try (repeat' with_reducible first|refine And.intro ?_ ?_|intro _|refine exP ?_ ?_);all_goals try omega
 refine a0w (b7h _ _ _) (Subs.refl _) rfl (by simp [chk,hG]) ?_
 simp (maxSteps:=2000000) only [go_sem,hG,hOw,Nat.reduceMul]
 try (repeat' with_reducible first|refine And.intro ?_ ?_|intro _|refine exP ?_ ?_);all_goals try omega
 exact .refl _
theorem f4e (l m:List ByteArray) (e:Int):a0o Tryz.prog 56 [a0e 0 l,i64 e,a0e 0 m] (fun _=>bl (decide (e=0) && decide (l=m))):=by
 by_cases he:e=0
 ·subst he
  refine a0c (ow:=fun _=>false) Tryz.func56 Tryz.ntmps56 rfl rfl fun G hG hOw hNm hB=>?_;simp only [go_sem,hG,hOw]
  (repeat' with_reducible first|refine And.intro ?_ ?_|intro _|refine exP ?_ ?_);all_goals try omega
  refine a0a (a8w _ _) ?_
  simp only [go_sem,hG,hOw]
  try (repeat' with_reducible first|refine And.intro ?_ ?_|intro _|refine exP ?_ ?_);all_goals try omega
  try simp
 ·rw [decide_eq_false he,Bool.false_and]
  refine a0c (ow:=fun _=>false) Tryz.func56 Tryz.ntmps56 rfl rfl fun G hG hOw hNm hB=>?_;simp only [go_sem,hG,hOw]
  simp (maxSteps:=2000000) only [go_sem,hG,hOw,decide_eq_false he]
  try (repeat' with_reducible first|refine And.intro ?_ ?_|intro _|refine exP ?_ ?_);all_goals try omega
open Go Pm
set_option maxRecDepth 100000
def a5e:List ByteArray:=[⟨#[97,98]⟩,⟨#[98]⟩]
def lAb:List ByteArray:=[⟨#[97,98]⟩]
def a5l:List ByteArray:=[⟨#[97,98]⟩,⟨#[99]⟩,⟨#[98]⟩]
def lC:List ByteArray:=[⟨#[99]⟩]
def a8a:List ByteArray:=[⟨#[99,111,112,121,32,52]⟩,⟨#[111,116,104,101,114,32,48,32,48,32,51,32,99,111,108,100]⟩,⟨#[111,109,105,116,32,48,32,49,32,49]⟩,⟨#[112,117,116,32,49,32,48,32,51,32,115,97,108,116]⟩]
def a9j:List ByteArray:=[⟨#[99,104,97,112,116,101,114,32,55]⟩,⟨#[108,105,110,101,32,116,104,101,32,115,101,97,32,105,115,32,111,108,100]⟩,⟨#[108,105,110,101,32,111,108,100,32,116,104,101,32,115,101,97]⟩,⟨#[99,104,97,112,116,101,114,32,51]⟩,⟨#[108,105,110,101,32,115,101,97,32,97,110,100,32,115,101,97]⟩]
def c9b:List ByteArray:=[⟨#[99,117,116,32,115,32,50]⟩,⟨#[99,117,116,32,108,100,32,108,100,101,32,49]⟩,⟨#[102,111,114,109,32,49,32,115,101,97,32,115,101,97,32,49]⟩,⟨#[102,114,111,109,32,50,32,48,32,49,32,48,32,111,108,100,32,97,103,101,32,51]⟩,⟨#[112,108,97,99,101,32,51,32,49,32,48,32,50,32,115,101,101,32,50]⟩,⟨#[118,111,105,100,32,53,32,51]⟩]
def a9b:List ByteArray:=[⟨#[115,108,105,112,32,48,32,48,32,50,32,105,115]⟩,⟨#[98,101,102,111,114,101,32,115,101,97]⟩,⟨#[97,102,116,101,114,32,111,108,100,32,111,108,100]⟩]
def g1k:List ByteArray:=[⟨#[97]⟩,⟨#[98]⟩,⟨#[99]⟩]
def g1r:List ByteArray:=[⟨#[120]⟩,⟨#[98]⟩,⟨#[99]⟩]
def lAB:List ByteArray:=[⟨#[97]⟩,⟨#[98]⟩]
def lXB:List ByteArray:=[⟨#[120]⟩,⟨#[98]⟩]
def sWr:ByteArray:=⟨#[97,98,32,115,103,10,98,32,101,97,10]⟩
def sRd:ByteArray:=⟨#[97,98,32,115,103,10,98,32,101,97]⟩
def shSave:Sh:=⟨a5e,[⟨1,0,lC⟩]⟩
def shPrune:Sh:=⟨a5l,[⟨0,1,[]⟩]⟩
def e9f:Sh:=⟨a5e,[]⟩
theorem cWr:a0o Tryz.prog 14 [a0e 0 a5e] (fun n=>.tup [str sWr,i64 0]):=by
 have h:=d0k a5e
 rw [show wrS a5e=sWr from al_wr.1] at h
 rw [show wrE a5e=0 from al_wr.2] at h
 exact h
theorem cRd:a0o Tryz.prog 15 [str sRd] (fun n=>.tup [a0e n lAb,i64 6,i64 0]):=by
 have h:=d5m sRd
 rw [show rdL sRd=lAb from al_rd.1] at h
 rw [show rdN sRd=6 from al_rd.2.1] at h
 rw [show c6q sRd=0 from al_rd.2.2] at h
 exact h
theorem g2x:a0o Tryz.prog 33 [shE 0 e9f,a0e 0 a5l] (fun n=>.tup [shE n shSave,i64 0]):=by
 have h:=c7h e9f a5l (by decide) (by intro c hc;cases hc) (by decide)
 rw [show b7s e9f a5l=shSave from al_save.1] at h
 rw [show b1m e9f a5l=0 from al_save.2] at h
 exact h
theorem g4e:a0o Tryz.prog 39 [shE 0 shelfS,i64 1] (fun n=>.tup [a0e n a5l,i64 0]):=by
 have h:=c8a shelfS 1 (by decide) (by intro c hc;simp only [shelfS,List.mem_cons,List.not_mem_nil,or_false] at hc;rcases hc with rfl|rfl<;>decide)
 rw [show b2z shelfS 1=a5l from al_back.1] at h
 rw [show a6d shelfS 1=0 from al_back.2] at h
 exact h
theorem f9u:a0o Tryz.prog 40 [shE 0 shelfS,i64 1] (fun n=>.tup [shE n shPrune,i64 0]):=by
 have h:=d1b shelfS 1 (by decide) (by intro c hc;simp only [shelfS,List.mem_cons,List.not_mem_nil,or_false] at hc;rcases hc with rfl|rfl<;>decide)
 rw [show b4a shelfS 1=shPrune from e8c] at h
 rw [show a6d shelfS 1=0 from al_back.2] at h
 exact h
theorem g2p:a0o Tryz.prog 20 [txE 0 b4m,cpE 0 c9q] (fun n=>.tup [a0e n a8a,i64 0]):=by
 have h:=d8h b4m c9q
 rw [f2v,if_pos rfl] at h
 rw [show a7u c9q=a8a from e1f] at h
 exact h
theorem g3y:a0o Tryz.prog 13 [txE 0 b4m] (fun n=>.tup [a0e n a9j,i64 0]):=by
 have h:=c4d b4m
 rw [f2o,if_pos rfl,if_pos rfl] at h
 rw [show a3n b4m=a9j from d8z] at h
 exact h
theorem g5o:a0o Tryz.prog 31 [txE 0 b4m,lxE 0 lexX] (fun n=>.tup [a0e n c9b,i64 0]):=by
 have hb:(∀ r ∈ lexX.rules,bdR r)∧(∀ d ∈ lexX.decs,bdD d)∧lexX.rules.length≤1000∧lexX.decs.length≤1000:=by
  refine ⟨?_,?_,by decide,by decide⟩
  ·intro r hr;simp only [lexX,List.mem_cons,List.not_mem_nil,or_false] at hr;rcases hr with rfl|rfl<;>exact ⟨by decide,by decide⟩
  ·intro r hr;simp only [lexX,List.mem_cons,List.not_mem_nil,or_false] at hr;rcases hr with rfl|rfl|rfl|rfl<;>exact ⟨by decide,by decide⟩
 have h:=c4c b4m lexX hb
 rw [f8a,if_pos rfl] at h
 rw [show b9k lexX=c9b from e6l] at h
 exact h
theorem f9o:a0o Tryz.prog 29 [sis 0 slipsL] (fun n=>.tup [a0e n a9b,i64 0]):=by
 have h:=b9l slipsL (by decide) (by intro r hr;simp only [slipsL,List.mem_cons,List.not_mem_nil,or_false] at hr;subst hr;exact ⟨by decide,by decide,by decide⟩)
 rw [show a4t slipsL=(a9b,0) from c8b] at h
 exact h
theorem f8f:a0o Tryz.prog 37 [a0e 0 g1k,a0e 0 g1r,a0e 0 lAB] (fun n=>.tup [a0e n lXB,i64 0]):=by
 have h:=c9t g1k g1r lAB (by decide) (by decide) (by decide)
 rw [show a5n g1k g1r lAB=lXB from al_merge.1] at h
 rw [show a3m g1k g1r lAB=0 from al_merge.2] at h
 exact h
theorem c9e (l:List ByteArray):a0o Tryz.prog 56 [a0e 0 l,i64 0,a0e 0 l] (fun _=>bl true):=by
 have h:=f4e l l 0
 rw [decide_eq_true (rfl:l=l)] at h
 exact h
theorem d8j (s:Sh):a0o Tryz.prog 36 [shE 0 s,shE 0 s] (fun _=>bl true):=by
 have h:=c3g s s
 rw [decide_eq_true (rfl:s=s)] at h
 exact h
theorem b6y (lo:Nat) (s:Sh):Pm.Sub (.agg [.lst lo 1 (s.first.map a2h),.lst lo 3 (s.chg.map (hkE lo))]) (shE 0 s) :=
 Subs.agg (.cons (.lo (Nat.zero_le _)) (.cons (.map (Nat.zero_le _) fun c=>.cons (.refl _) (.cons (.refl _) (.cons (.lo (Nat.zero_le _)) .nil))) .nil))
open Go Pm
set_option maxHeartbeats 4000000
set_option maxRecDepth 100000
theorem g1w {G:Gh} {lo:Nat} (hG:G.n=168) (hOw:G.ow=fun _=>false) (hNm:G.nm=[]) (h:SemL Tryz.prog G ((a3a (Tryz.f9.body.getD .skip)).drop 2) (St.of [(1,str sWr),(2,i64 0)] []) (a1d Tryz.prog lo [.tmp 0] (bl true))) :
  SemL Tryz.prog G ((a3a (Tryz.f9.body.getD .skip)).drop 1) (St.of [] []) (a1d Tryz.prog lo [.tmp 0] (bl true)):=by
 refine a0u 1 _ _ ?_
 simp only [Tryz.f9,Option.getD_some,a1s,a0v,a1e,a0y,a1t,List.singleton_append,List.cons_append,List.nil_append,List.drop_succ_cons,List.drop_zero]
 simp only [go_sem,hG,hOw]
 try (repeat' with_reducible first|refine And.intro ?_ ?_|intro _|refine exP ?_ ?_);all_goals try omega
 refine a0w (a2n _ _ _) (Subs.refl _) rfl (by simp [chk,hG]) ?_
 simp (maxSteps:=2000000) only [go_sem,hG,hOw,Nat.reduceMul]
 try (repeat' with_reducible first|refine And.intro ?_ ?_|intro _|refine exP ?_ ?_);all_goals try omega
 refine a0a cWr ?_
 simp (maxSteps:=2000000) only [go_sem,hG,hOw,Nat.reduceMul]
 try (repeat' with_reducible first|refine And.intro ?_ ?_|intro _|refine exP ?_ ?_);all_goals try omega
 refine a1n (s':=St.of [(1,str sWr),(2,i64 0)] []) (a1j (by (simp only [go_sem])<;>simp) hNm) ?_
 exact h
theorem g4a {G:Gh} {lo:Nat} (hG:G.n=168) (hOw:G.ow=fun _=>false) (hNm:G.nm=[]) (h:SemL Tryz.prog G ((a3a (Tryz.f9.body.getD .skip)).drop 3) (St.of [(1,str sWr),(2,i64 0),(3,a0e G.lo lAb),(4,i64 6),(5,i64 0)] []) (a1d Tryz.prog lo [.tmp 0] (bl true))) :
  SemL Tryz.prog G ((a3a (Tryz.f9.body.getD .skip)).drop 2) (St.of [(1,str sWr),(2,i64 0)] []) (a1d Tryz.prog lo [.tmp 0] (bl true)):=by
 refine a0u 1 _ _ ?_
 simp only [Tryz.f9,Option.getD_some,a1s,a0v,a1e,a0y,a1t,List.singleton_append,List.cons_append,List.nil_append,List.drop_succ_cons,List.drop_zero]
 simp only [go_sem,hG,hOw]
 try (repeat' with_reducible first|refine And.intro ?_ ?_|intro _|refine exP ?_ ?_);all_goals try omega
 refine a0a cRd ?_
 simp (maxSteps:=2000000) only [go_sem,hG,hOw,Nat.reduceMul]
 try (repeat' with_reducible first|refine And.intro ?_ ?_|intro _|refine exP ?_ ?_);all_goals try omega
 refine a1n (s':=St.of [(1,str sWr),(2,i64 0),(3,a0e G.lo lAb),(4,i64 6),(5,i64 0)] []) (a1j (by (simp only [go_sem])<;>simp) hNm) ?_
 exact h
theorem g2t {G:Gh} {lo:Nat} (hG:G.n=168) (hOw:G.ow=fun _=>false) (hNm:G.nm=[]) (h:SemL Tryz.prog G ((a3a (Tryz.f9.body.getD .skip)).drop 4) (St.of [(1,str sWr),(2,i64 0),(3,a0e G.lo lAb),(4,i64 6),(5,i64 0),(6,.ptr 6 0),(7,i64 0)] [(6,.box [a0e G.lo shSave.first,hks G.lo shSave.chg])]) (a1d Tryz.prog lo [.tmp 0] (bl true))) :
  SemL Tryz.prog G ((a3a (Tryz.f9.body.getD .skip)).drop 3) (St.of [(1,str sWr),(2,i64 0),(3,a0e G.lo lAb),(4,i64 6),(5,i64 0)] []) (a1d Tryz.prog lo [.tmp 0] (bl true)):=by
 refine a0u 1 _ _ ?_
 simp only [Tryz.f9,Option.getD_some,a1s,a0v,a1e,a0y,a1t,List.singleton_append,List.cons_append,List.nil_append,List.drop_succ_cons,List.drop_zero]
 simp only [go_sem,hG,hOw]
 try (repeat' with_reducible first|refine And.intro ?_ ?_|intro _|refine exP ?_ ?_);all_goals try omega
 refine a0w (a2n _ _ _) (Subs.refl _) rfl (by simp [chk,hG]) ?_
 simp (maxSteps:=2000000) only [go_sem,hG,hOw,Nat.reduceMul]
 try (repeat' with_reducible first|refine And.intro ?_ ?_|intro _|refine exP ?_ ?_);all_goals try omega
 refine a0w (a2n _ _ _) (Subs.refl _) rfl (by simp [chk,hG]) ?_
 simp (maxSteps:=2000000) only [go_sem,hG,hOw,Nat.reduceMul]
 try (repeat' with_reducible first|refine And.intro ?_ ?_|intro _|refine exP ?_ ?_);all_goals try omega
 refine a0w g2x (Subs.cons (Subs.agg (.cons (.lo (Nat.zero_le _)) (.cons (.nil _ _) .nil))) (.cons (.lo (Nat.zero_le _)) .nil)) rfl (by simp [chk,hG]) ?_
 simp (maxSteps:=2000000) only [go_sem,hG,hOw,Nat.reduceMul]
 try (repeat' with_reducible first|refine And.intro ?_ ?_|intro _|refine exP ?_ ?_);all_goals try omega
 refine a1n (s':=St.of [(1,str sWr),(2,i64 0),(3,a0e G.lo lAb),(4,i64 6),(5,i64 0),(6,.ptr 6 0),(7,i64 0)] [(6,.box [a0e G.lo shSave.first,hks G.lo shSave.chg])]) (a2o [(6,some 6)]) ?_
 exact h
theorem g1s {G:Gh} {lo:Nat} (hG:G.n=168) (hOw:G.ow=fun _=>false) (hNm:G.nm=[]) (h:SemL Tryz.prog G ((a3a (Tryz.f9.body.getD .skip)).drop 5) (St.of [(1,str sWr),(2,i64 0),(3,a0e G.lo lAb),(4,i64 6),(5,i64 0),(6,.ptr 6 0),(7,i64 0),(8,a0e G.lo a5l),(9,i64 0)] [(6,.box [a0e G.lo shSave.first,hks G.lo shSave.chg])]) (a1d Tryz.prog lo [.tmp 0] (bl true))) :
  SemL Tryz.prog G ((a3a (Tryz.f9.body.getD .skip)).drop 4) (St.of [(1,str sWr),(2,i64 0),(3,a0e G.lo lAb),(4,i64 6),(5,i64 0),(6,.ptr 6 0),(7,i64 0)] [(6,.box [a0e G.lo shSave.first,hks G.lo shSave.chg])]) (a1d Tryz.prog lo [.tmp 0] (bl true)):=by
 refine a0u 1 _ _ ?_
 simp only [Tryz.f9,Option.getD_some,a1s,a0v,a1e,a0y,a1t,List.singleton_append,List.cons_append,List.nil_append,List.drop_succ_cons,List.drop_zero]
 simp only [go_sem,hG,hOw]
 try (repeat' with_reducible first|refine And.intro ?_ ?_|intro _|refine exP ?_ ?_);all_goals try omega
 refine a0a a6q ?_
 simp (maxSteps:=2000000) only [go_sem,hG,hOw,Nat.reduceMul]
 refine a0a g4e ?_
 simp (maxSteps:=2000000) only [go_sem,hG,hOw,Nat.reduceMul]
 try (repeat' with_reducible first|refine And.intro ?_ ?_|intro _|refine exP ?_ ?_);all_goals try omega
 refine a1n (s':=St.of [(1,str sWr),(2,i64 0),(3,a0e G.lo lAb),(4,i64 6),(5,i64 0),(6,.ptr 6 0),(7,i64 0),(8,a0e G.lo a5l),(9,i64 0)] [(6,.box [a0e G.lo shSave.first,hks G.lo shSave.chg])]) (a2o [(6,some 6)]) ?_
 exact h
theorem g3a {G:Gh} {lo:Nat} (hG:G.n=168) (hOw:G.ow=fun _=>false) (hNm:G.nm=[]) (h:SemL Tryz.prog G ((a3a (Tryz.f9.body.getD .skip)).drop 6) (St.of [(1,str sWr),(2,i64 0),(3,a0e G.lo lAb),(4,i64 6),(5,i64 0),(6,.ptr 6 0),(7,i64 0),(8,a0e G.lo a5l),(9,i64 0),(10,.ptr 10 0),(11,i64 0)] [(6,.box [a0e G.lo shSave.first,hks G.lo shSave.chg]),(10,.box [a0e G.lo shPrune.first,hks G.lo shPrune.chg])]) (a1d Tryz.prog lo [.tmp 0] (bl true))) :
  SemL Tryz.prog G ((a3a (Tryz.f9.body.getD .skip)).drop 5) (St.of [(1,str sWr),(2,i64 0),(3,a0e G.lo lAb),(4,i64 6),(5,i64 0),(6,.ptr 6 0),(7,i64 0),(8,a0e G.lo a5l),(9,i64 0)] [(6,.box [a0e G.lo shSave.first,hks G.lo shSave.chg])]) (a1d Tryz.prog lo [.tmp 0] (bl true)):=by
 refine a0u 1 _ _ ?_
 simp only [Tryz.f9,Option.getD_some,a1s,a0v,a1e,a0y,a1t,List.singleton_append,List.cons_append,List.nil_append,List.drop_succ_cons,List.drop_zero]
 simp only [go_sem,hG,hOw]
 try (repeat' with_reducible first|refine And.intro ?_ ?_|intro _|refine exP ?_ ?_);all_goals try omega
 refine a0a a6q ?_
 simp (maxSteps:=2000000) only [go_sem,hG,hOw,Nat.reduceMul]
 refine a0a f9u ?_
 simp (maxSteps:=2000000) only [go_sem,hG,hOw,Nat.reduceMul]
 try (repeat' with_reducible first|refine And.intro ?_ ?_|intro _|refine exP ?_ ?_);all_goals try omega
 refine a1n (s':=St.of [(1,str sWr),(2,i64 0),(3,a0e G.lo lAb),(4,i64 6),(5,i64 0),(6,.ptr 6 0),(7,i64 0),(8,a0e G.lo a5l),(9,i64 0),(10,.ptr 10 0),(11,i64 0)] [(6,.box [a0e G.lo shSave.first,hks G.lo shSave.chg]),(10,.box [a0e G.lo shPrune.first,hks G.lo shPrune.chg])]) (a2o [(6,some 6),(10,some 10)]) ?_
 exact h
theorem g2m {G:Gh} {lo:Nat} (hG:G.n=168) (hOw:G.ow=fun _=>false) (hNm:G.nm=[]) (h:SemL Tryz.prog G ((a3a (Tryz.f9.body.getD .skip)).drop 7) (St.of [(1,str sWr),(2,i64 0),(3,a0e G.lo lAb),(4,i64 6),(5,i64 0),(6,.ptr 6 0),(7,i64 0),(8,a0e G.lo a5l),(9,i64 0),(10,.ptr 10 0),(11,i64 0),(12,a0e G.lo a8a),(13,i64 0)] [(6,.box [a0e G.lo shSave.first,hks G.lo shSave.chg]),(10,.box [a0e G.lo shPrune.first,hks G.lo shPrune.chg])]) (a1d Tryz.prog lo [.tmp 0] (bl true))) :
  SemL Tryz.prog G ((a3a (Tryz.f9.body.getD .skip)).drop 6) (St.of [(1,str sWr),(2,i64 0),(3,a0e G.lo lAb),(4,i64 6),(5,i64 0),(6,.ptr 6 0),(7,i64 0),(8,a0e G.lo a5l),(9,i64 0),(10,.ptr 10 0),(11,i64 0)] [(6,.box [a0e G.lo shSave.first,hks G.lo shSave.chg]),(10,.box [a0e G.lo shPrune.first,hks G.lo shPrune.chg])]) (a1d Tryz.prog lo [.tmp 0] (bl true)):=by
 refine a0u 1 _ _ ?_
 simp only [Tryz.f9,Option.getD_some,a1s,a0v,a1e,a0y,a1t,List.singleton_append,List.cons_append,List.nil_append,List.drop_succ_cons,List.drop_zero]
 simp only [go_sem,hG,hOw]
 try (repeat' with_reducible first|refine And.intro ?_ ?_|intro _|refine exP ?_ ?_);all_goals try omega
 refine a0a b7m ?_
 simp (maxSteps:=2000000) only [go_sem,hG,hOw,Nat.reduceMul]
 try (repeat' with_reducible first|refine And.intro ?_ ?_|intro _|refine exP ?_ ?_);all_goals try omega
 refine a0a f2t ?_
 simp (maxSteps:=2000000) only [go_sem,hG,hOw,Nat.reduceMul]
 try (repeat' with_reducible first|refine And.intro ?_ ?_|intro _|refine exP ?_ ?_);all_goals try omega
 refine a0a g2p ?_
 simp (maxSteps:=2000000) only [go_sem,hG,hOw,Nat.reduceMul]
 try (repeat' with_reducible first|refine And.intro ?_ ?_|intro _|refine exP ?_ ?_);all_goals try omega
 refine a1n (s':=St.of [(1,str sWr),(2,i64 0),(3,a0e G.lo lAb),(4,i64 6),(5,i64 0),(6,.ptr 6 0),(7,i64 0),(8,a0e G.lo a5l),(9,i64 0),(10,.ptr 10 0),(11,i64 0),(12,a0e G.lo a8a),(13,i64 0)] [(6,.box [a0e G.lo shSave.first,hks G.lo shSave.chg]),(10,.box [a0e G.lo shPrune.first,hks G.lo shPrune.chg])]) (a2o [(6,some 6),(10,some 10)]) ?_
 exact h
theorem g3x {G:Gh} {lo:Nat} (hG:G.n=168) (hOw:G.ow=fun _=>false) (hNm:G.nm=[]) (h:SemL Tryz.prog G ((a3a (Tryz.f9.body.getD .skip)).drop 8) (St.of [(1,str sWr),(2,i64 0),(3,a0e G.lo lAb),(4,i64 6),(5,i64 0),(6,.ptr 6 0),(7,i64 0),(8,a0e G.lo a5l),(9,i64 0),(10,.ptr 10 0),(11,i64 0),(12,a0e G.lo a8a),(13,i64 0),(14,a0e G.lo a9j),(15,i64 0)] [(6,.box [a0e G.lo shSave.first,hks G.lo shSave.chg]),(10,.box [a0e G.lo shPrune.first,hks G.lo shPrune.chg])]) (a1d Tryz.prog lo [.tmp 0] (bl true))) :
  SemL Tryz.prog G ((a3a (Tryz.f9.body.getD .skip)).drop 7) (St.of [(1,str sWr),(2,i64 0),(3,a0e G.lo lAb),(4,i64 6),(5,i64 0),(6,.ptr 6 0),(7,i64 0),(8,a0e G.lo a5l),(9,i64 0),(10,.ptr 10 0),(11,i64 0),(12,a0e G.lo a8a),(13,i64 0)] [(6,.box [a0e G.lo shSave.first,hks G.lo shSave.chg]),(10,.box [a0e G.lo shPrune.first,hks G.lo shPrune.chg])]) (a1d Tryz.prog lo [.tmp 0] (bl true)):=by
 refine a0u 1 _ _ ?_
 simp only [Tryz.f9,Option.getD_some,a1s,a0v,a1e,a0y,a1t,List.singleton_append,List.cons_append,List.nil_append,List.drop_succ_cons,List.drop_zero]
 simp only [go_sem,hG,hOw]
 try (repeat' with_reducible first|refine And.intro ?_ ?_|intro _|refine exP ?_ ?_);all_goals try omega
 refine a0a b7m ?_
 simp (maxSteps:=2000000) only [go_sem,hG,hOw,Nat.reduceMul]
 try (repeat' with_reducible first|refine And.intro ?_ ?_|intro _|refine exP ?_ ?_);all_goals try omega
 refine a0a g3y ?_
 simp (maxSteps:=2000000) only [go_sem,hG,hOw,Nat.reduceMul]
 try (repeat' with_reducible first|refine And.intro ?_ ?_|intro _|refine exP ?_ ?_);all_goals try omega
 refine a1n (s':=St.of [(1,str sWr),(2,i64 0),(3,a0e G.lo lAb),(4,i64 6),(5,i64 0),(6,.ptr 6 0),(7,i64 0),(8,a0e G.lo a5l),(9,i64 0),(10,.ptr 10 0),(11,i64 0),(12,a0e G.lo a8a),(13,i64 0),(14,a0e G.lo a9j),(15,i64 0)] [(6,.box [a0e G.lo shSave.first,hks G.lo shSave.chg]),(10,.box [a0e G.lo shPrune.first,hks G.lo shPrune.chg])]) (a2o [(6,some 6),(10,some 10)]) ?_
 exact h
theorem g2d {G:Gh} {lo:Nat} (hG:G.n=168) (hOw:G.ow=fun _=>false) (hNm:G.nm=[]) (h:SemL Tryz.prog G ((a3a (Tryz.f9.body.getD .skip)).drop 9) (St.of [(1,str sWr),(2,i64 0),(3,a0e G.lo lAb),(4,i64 6),(5,i64 0),(6,.ptr 6 0),(7,i64 0),(8,a0e G.lo a5l),(9,i64 0),(10,.ptr 10 0),(11,i64 0),(12,a0e G.lo a8a),(13,i64 0),(14,a0e G.lo a9j),(15,i64 0),(16,a0e G.lo c9b),(17,i64 0)] [(6,.box [a0e G.lo shSave.first,hks G.lo shSave.chg]),(10,.box [a0e G.lo shPrune.first,hks G.lo shPrune.chg])]) (a1d Tryz.prog lo [.tmp 0] (bl true))) :
  SemL Tryz.prog G ((a3a (Tryz.f9.body.getD .skip)).drop 8) (St.of [(1,str sWr),(2,i64 0),(3,a0e G.lo lAb),(4,i64 6),(5,i64 0),(6,.ptr 6 0),(7,i64 0),(8,a0e G.lo a5l),(9,i64 0),(10,.ptr 10 0),(11,i64 0),(12,a0e G.lo a8a),(13,i64 0),(14,a0e G.lo a9j),(15,i64 0)] [(6,.box [a0e G.lo shSave.first,hks G.lo shSave.chg]),(10,.box [a0e G.lo shPrune.first,hks G.lo shPrune.chg])]) (a1d Tryz.prog lo [.tmp 0] (bl true)):=by
 refine a0u 1 _ _ ?_
 simp only [Tryz.f9,Option.getD_some,a1s,a0v,a1e,a0y,a1t,List.singleton_append,List.cons_append,List.nil_append,List.drop_succ_cons,List.drop_zero]
 simp only [go_sem,hG,hOw]
 try (repeat' with_reducible first|refine And.intro ?_ ?_|intro _|refine exP ?_ ?_);all_goals try omega
 refine a0a b7m ?_
 simp (maxSteps:=2000000) only [go_sem,hG,hOw,Nat.reduceMul]
 try (repeat' with_reducible first|refine And.intro ?_ ?_|intro _|refine exP ?_ ?_);all_goals try omega
 refine a0a d2w ?_
 simp (maxSteps:=2000000) only [go_sem,hG,hOw,Nat.reduceMul]
 try (repeat' with_reducible first|refine And.intro ?_ ?_|intro _|refine exP ?_ ?_);all_goals try omega
 refine a0a g5o ?_
 simp (maxSteps:=2000000) only [go_sem,hG,hOw,Nat.reduceMul]
 try (repeat' with_reducible first|refine And.intro ?_ ?_|intro _|refine exP ?_ ?_);all_goals try omega
 refine a1n (s':=St.of [(1,str sWr),(2,i64 0),(3,a0e G.lo lAb),(4,i64 6),(5,i64 0),(6,.ptr 6 0),(7,i64 0),(8,a0e G.lo a5l),(9,i64 0),(10,.ptr 10 0),(11,i64 0),(12,a0e G.lo a8a),(13,i64 0),(14,a0e G.lo a9j),(15,i64 0),(16,a0e G.lo c9b),(17,i64 0)] [(6,.box [a0e G.lo shSave.first,hks G.lo shSave.chg]),(10,.box [a0e G.lo shPrune.first,hks G.lo shPrune.chg])]) (a2o [(6,some 6),(10,some 10)]) ?_
 exact h
theorem g4i {G:Gh} {lo:Nat} (hG:G.n=168) (hOw:G.ow=fun _=>false) (hNm:G.nm=[]) (h:SemL Tryz.prog G ((a3a (Tryz.f9.body.getD .skip)).drop 10) (St.of [(1,str sWr),(2,i64 0),(3,a0e G.lo lAb),(4,i64 6),(5,i64 0),(6,.ptr 6 0),(7,i64 0),(8,a0e G.lo a5l),(9,i64 0),(10,.ptr 10 0),(11,i64 0),(12,a0e G.lo a8a),(13,i64 0),(14,a0e G.lo a9j),(15,i64 0),(16,a0e G.lo c9b),(17,i64 0),(18,a0e G.lo a9b),(19,i64 0)] [(6,.box [a0e G.lo shSave.first,hks G.lo shSave.chg]),(10,.box [a0e G.lo shPrune.first,hks G.lo shPrune.chg])]) (a1d Tryz.prog lo [.tmp 0] (bl true))) :
  SemL Tryz.prog G ((a3a (Tryz.f9.body.getD .skip)).drop 9) (St.of [(1,str sWr),(2,i64 0),(3,a0e G.lo lAb),(4,i64 6),(5,i64 0),(6,.ptr 6 0),(7,i64 0),(8,a0e G.lo a5l),(9,i64 0),(10,.ptr 10 0),(11,i64 0),(12,a0e G.lo a8a),(13,i64 0),(14,a0e G.lo a9j),(15,i64 0),(16,a0e G.lo c9b),(17,i64 0)] [(6,.box [a0e G.lo shSave.first,hks G.lo shSave.chg]),(10,.box [a0e G.lo shPrune.first,hks G.lo shPrune.chg])]) (a1d Tryz.prog lo [.tmp 0] (bl true)):=by
 refine a0u 1 _ _ ?_
 simp only [Tryz.f9,Option.getD_some,a1s,a0v,a1e,a0y,a1t,List.singleton_append,List.cons_append,List.nil_append,List.drop_succ_cons,List.drop_zero]
 simp only [go_sem,hG,hOw]
 try (repeat' with_reducible first|refine And.intro ?_ ?_|intro _|refine exP ?_ ?_);all_goals try omega
 refine a0a (b7h _ _ _) ?_
 simp (maxSteps:=2000000) only [go_sem,hG,hOw,Nat.reduceMul]
 try (repeat' with_reducible first|refine And.intro ?_ ?_|intro _|refine exP ?_ ?_);all_goals try omega
 refine a0a f9o ?_
 simp (maxSteps:=2000000) only [go_sem,hG,hOw,Nat.reduceMul]
 try (repeat' with_reducible first|refine And.intro ?_ ?_|intro _|refine exP ?_ ?_);all_goals try omega
 refine a1n (s':=St.of [(1,str sWr),(2,i64 0),(3,a0e G.lo lAb),(4,i64 6),(5,i64 0),(6,.ptr 6 0),(7,i64 0),(8,a0e G.lo a5l),(9,i64 0),(10,.ptr 10 0),(11,i64 0),(12,a0e G.lo a8a),(13,i64 0),(14,a0e G.lo a9j),(15,i64 0),(16,a0e G.lo c9b),(17,i64 0),(18,a0e G.lo a9b),(19,i64 0)] [(6,.box [a0e G.lo shSave.first,hks G.lo shSave.chg]),(10,.box [a0e G.lo shPrune.first,hks G.lo shPrune.chg])]) (a2o [(6,some 6),(10,some 10)]) ?_
 exact h
theorem f7o {G:Gh} {lo:Nat} (hG:G.n=168) (hOw:G.ow=fun _=>false) (hNm:G.nm=[]) (h:SemL Tryz.prog G ((a3a (Tryz.f9.body.getD .skip)).drop 11) (St.of [(1,str sWr),(2,i64 0),(3,a0e G.lo lAb),(4,i64 6),(5,i64 0),(6,.ptr 6 0),(7,i64 0),(8,a0e G.lo a5l),(9,i64 0),(10,.ptr 10 0),(11,i64 0),(12,a0e G.lo a8a),(13,i64 0),(14,a0e G.lo a9j),(15,i64 0),(16,a0e G.lo c9b),(17,i64 0),(18,a0e G.lo a9b),(19,i64 0),(20,a0e G.lo lXB),(21,i64 0)] [(6,.box [a0e G.lo shSave.first,hks G.lo shSave.chg]),(10,.box [a0e G.lo shPrune.first,hks G.lo shPrune.chg])]) (a1d Tryz.prog lo [.tmp 0] (bl true))) :
  SemL Tryz.prog G ((a3a (Tryz.f9.body.getD .skip)).drop 10) (St.of [(1,str sWr),(2,i64 0),(3,a0e G.lo lAb),(4,i64 6),(5,i64 0),(6,.ptr 6 0),(7,i64 0),(8,a0e G.lo a5l),(9,i64 0),(10,.ptr 10 0),(11,i64 0),(12,a0e G.lo a8a),(13,i64 0),(14,a0e G.lo a9j),(15,i64 0),(16,a0e G.lo c9b),(17,i64 0),(18,a0e G.lo a9b),(19,i64 0)] [(6,.box [a0e G.lo shSave.first,hks G.lo shSave.chg]),(10,.box [a0e G.lo shPrune.first,hks G.lo shPrune.chg])]) (a1d Tryz.prog lo [.tmp 0] (bl true)):=by
 refine a0u 1 _ _ ?_
 simp only [Tryz.f9,Option.getD_some,a1s,a0v,a1e,a0y,a1t,List.singleton_append,List.cons_append,List.nil_append,List.drop_succ_cons,List.drop_zero]
 simp only [go_sem,hG,hOw]
 try (repeat' with_reducible first|refine And.intro ?_ ?_|intro _|refine exP ?_ ?_);all_goals try omega
 refine a0w (a2n _ _ _) (Subs.refl _) rfl (by simp [chk,hG]) ?_
 simp (maxSteps:=2000000) only [go_sem,hG,hOw,Nat.reduceMul]
 try (repeat' with_reducible first|refine And.intro ?_ ?_|intro _|refine exP ?_ ?_);all_goals try omega
 refine a0w (a2n _ _ _) (Subs.refl _) rfl (by simp [chk,hG]) ?_
 simp (maxSteps:=2000000) only [go_sem,hG,hOw,Nat.reduceMul]
 try (repeat' with_reducible first|refine And.intro ?_ ?_|intro _|refine exP ?_ ?_);all_goals try omega
 refine a0w (a2n _ _ _) (Subs.refl _) rfl (by simp [chk,hG]) ?_
 simp (maxSteps:=2000000) only [go_sem,hG,hOw,Nat.reduceMul]
 try (repeat' with_reducible first|refine And.intro ?_ ?_|intro _|refine exP ?_ ?_);all_goals try omega
 refine a0a f8f ?_
 simp (maxSteps:=2000000) only [go_sem,hG,hOw,Nat.reduceMul]
 try (repeat' with_reducible first|refine And.intro ?_ ?_|intro _|refine exP ?_ ?_);all_goals try omega
 refine a1n (s':=St.of [(1,str sWr),(2,i64 0),(3,a0e G.lo lAb),(4,i64 6),(5,i64 0),(6,.ptr 6 0),(7,i64 0),(8,a0e G.lo a5l),(9,i64 0),(10,.ptr 10 0),(11,i64 0),(12,a0e G.lo a8a),(13,i64 0),(14,a0e G.lo a9j),(15,i64 0),(16,a0e G.lo c9b),(17,i64 0),(18,a0e G.lo a9b),(19,i64 0),(20,a0e G.lo lXB),(21,i64 0)] [(6,.box [a0e G.lo shSave.first,hks G.lo shSave.chg]),(10,.box [a0e G.lo shPrune.first,hks G.lo shPrune.chg])]) (a2o [(6,some 6),(10,some 10)]) ?_
 exact h
theorem f6i {G:Gh} {lo:Nat} (hG:G.n=168) (hOw:G.ow=fun _=>false) (hNm:G.nm=[]) :
  SemL Tryz.prog G ((a3a (Tryz.f9.body.getD .skip)).drop 13) (St.of [(12,a0e G.lo a8a),(13,i64 0),(14,a0e G.lo a9j),(15,i64 0),(16,a0e G.lo c9b),(17,i64 0),(18,a0e G.lo a9b),(19,i64 0),(20,a0e G.lo lXB),(21,i64 0)] []) (a1d Tryz.prog lo [.tmp 0] (bl true)):=by
 refine a0u 2 _ _ ?_
 simp only [Tryz.f9,Option.getD_some,a1s,a0v,a1e,a0y,a1t,List.singleton_append,List.cons_append,List.nil_append,List.drop_succ_cons,List.drop_zero]
 simp only [go_sem,hG,hOw]
 try (repeat' with_reducible first|refine And.intro ?_ ?_|intro _|refine exP ?_ ?_);all_goals try omega
 refine a0a (c9e a8a) ?_
 simp (maxSteps:=2000000) only [go_sem,hG,hOw,Nat.reduceMul]
 try (repeat' with_reducible first|refine And.intro ?_ ?_|intro _|refine exP ?_ ?_);all_goals try omega
 refine a0a (c9e a9j) ?_
 simp (maxSteps:=2000000) only [go_sem,hG,hOw,Nat.reduceMul]
 try (repeat' with_reducible first|refine And.intro ?_ ?_|intro _|refine exP ?_ ?_);all_goals try omega
 refine a0a (c9e c9b) ?_
 simp (maxSteps:=2000000) only [go_sem,hG,hOw,Nat.reduceMul]
 try (repeat' with_reducible first|refine And.intro ?_ ?_|intro _|refine exP ?_ ?_);all_goals try omega
 refine a0a (c9e a9b) ?_
 simp (maxSteps:=2000000) only [go_sem,hG,hOw,Nat.reduceMul]
 try (repeat' with_reducible first|refine And.intro ?_ ?_|intro _|refine exP ?_ ?_);all_goals try omega
 refine a0a (c9e lXB) ?_
 simp (maxSteps:=2000000) only [go_sem,hG,hOw,Nat.reduceMul]
 try (repeat' with_reducible first|refine And.intro ?_ ?_|intro _|refine exP ?_ ?_);all_goals try omega
theorem g0q {G:Gh} {lo:Nat} (hG:G.n=168) (hOw:G.ow=fun _=>false) (hNm:G.nm=[]) (h:SemL Tryz.prog G ((a3a (Tryz.f9.body.getD .skip)).drop 13) (St.of [(12,a0e G.lo a8a),(13,i64 0),(14,a0e G.lo a9j),(15,i64 0),(16,a0e G.lo c9b),(17,i64 0),(18,a0e G.lo a9b),(19,i64 0),(20,a0e G.lo lXB),(21,i64 0)] []) (a1d Tryz.prog lo [.tmp 0] (bl true))) :
  SemL Tryz.prog G ((a3a (Tryz.f9.body.getD .skip)).drop 11) (St.of [(1,str sWr),(2,i64 0),(3,a0e G.lo lAb),(4,i64 6),(5,i64 0),(6,.ptr 6 0),(7,i64 0),(8,a0e G.lo a5l),(9,i64 0),(10,.ptr 10 0),(11,i64 0),(12,a0e G.lo a8a),(13,i64 0),(14,a0e G.lo a9j),(15,i64 0),(16,a0e G.lo c9b),(17,i64 0),(18,a0e G.lo a9b),(19,i64 0),(20,a0e G.lo lXB),(21,i64 0)] [(6,.box [a0e G.lo shSave.first,hks G.lo shSave.chg]),(10,.box [a0e G.lo shPrune.first,hks G.lo shPrune.chg])]) (a1d Tryz.prog lo [.tmp 0] (bl true)):=by
 have hln:shelfS.chg.length=2:=rfl
 have hs:decide (sWr=⟨#[97,98,32,115,103,10,98,32,101,97,10]⟩)=true:=by decide
 refine a0u 2 _ _ ?_
 simp only [Tryz.f9,Option.getD_some,a1s,a0v,a1e,a0y,a1t,List.singleton_append,List.cons_append,List.nil_append,List.drop_succ_cons,List.drop_zero]
 simp only [go_sem,hG,hOw]
 try (repeat' with_reducible first|refine And.intro ?_ ?_|intro _|refine exP ?_ ?_);all_goals try omega
 refine a0z mixed (by kernel_rfl) ?_
 simp (maxSteps:=2000000) only [go_sem,hG,hOw,Nat.reduceMul,hs,hln]
 try (repeat' with_reducible first|refine And.intro ?_ ?_|intro _|refine exP ?_ ?_);all_goals try omega
 refine ⟨_,a0i (c9e lAb),?_⟩
 simp (maxSteps:=2000000) only [go_sem,hG,hOw,Nat.reduceMul,hs,hln]
 try (repeat' with_reducible first|refine And.intro ?_ ?_|intro _|refine exP ?_ ?_);all_goals try omega
 refine ⟨_,a0i (a2n _ _ _),?_⟩
 simp (maxSteps:=2000000) only [go_sem,hG,hOw,Nat.reduceMul,hs,hln]
 try (repeat' with_reducible first|refine And.intro ?_ ?_|intro _|refine exP ?_ ?_);all_goals try omega
 refine ⟨_,a0i a6q,?_⟩
 simp (maxSteps:=2000000) only [go_sem,hG,hOw,Nat.reduceMul,hs,hln]
 try (repeat' with_reducible first|refine And.intro ?_ ?_|intro _|refine exP ?_ ?_);all_goals try omega
 refine ⟨_,a9w (d8j shSave) (.cons (b6y _ shSave) (.cons (b6y _ shSave) .nil)) (by first|rfl|simp [a9i,b1n,pureV,pure0, *]),?_⟩
 simp (maxSteps:=2000000) only [go_sem,hG,hOw,Nat.reduceMul,hs,hln]
 try (repeat' with_reducible first|refine And.intro ?_ ?_|intro _|refine exP ?_ ?_);all_goals try omega
 refine ⟨_,a0i (c9e a5l),?_⟩
 simp (maxSteps:=2000000) only [go_sem,hG,hOw,Nat.reduceMul,hs,hln]
 try (repeat' with_reducible first|refine And.intro ?_ ?_|intro _|refine exP ?_ ?_);all_goals try omega
 refine ⟨_,a0i (a2n _ _ _),?_⟩
 simp (maxSteps:=2000000) only [go_sem,hG,hOw,Nat.reduceMul,hs,hln]
 try (repeat' with_reducible first|refine And.intro ?_ ?_|intro _|refine exP ?_ ?_);all_goals try omega
 refine ⟨_,a0i a6q,?_⟩
 simp (maxSteps:=2000000) only [go_sem,hG,hOw,Nat.reduceMul,hs,hln]
 try (repeat' with_reducible first|refine And.intro ?_ ?_|intro _|refine exP ?_ ?_);all_goals try omega
 refine ⟨_,a9w (d8j shPrune) (.cons (b6y _ shPrune) (.cons (b6y _ shPrune) .nil)) (by first|rfl|simp [a9i,b1n,pureV,pure0, *]),?_⟩
 simp (maxSteps:=2000000) only [go_sem,hG,hOw,Nat.reduceMul,hs,hln]
 try (repeat' with_reducible first|refine And.intro ?_ ?_|intro _|refine exP ?_ ?_);all_goals try omega
 refine a1n (s':=St.of [(12,a0e G.lo a8a),(13,i64 0),(14,a0e G.lo a9j),(15,i64 0),(16,a0e G.lo c9b),(17,i64 0),(18,a0e G.lo a9b),(19,i64 0),(20,a0e G.lo lXB),(21,i64 0)] []) (a1j (by (simp only [go_sem])<;>simp) hNm) ?_
 exact h
theorem e6r:a0o Tryz.prog 9 [] (fun _=>bl true):=by
 refine b7c (fun _=>false) Tryz.func9 Tryz.ntmps9 rfl (by kernel_rfl) (by simp) rfl (by decide) fun G hG hOw hNm hZ hB=>?_
 refine a0u 1 _ _ ?_
 simp only [go_sem,hG,hOw]
 refine a1n (s':=St.of [] []) (a1j (by (simp only [go_sem])<;>simp) hNm) ?_
 refine g1w hG hOw hNm ?_
 refine g4a hG hOw hNm ?_
 refine g2t hG hOw hNm ?_
 refine g1s hG hOw hNm ?_
 refine g3a hG hOw hNm ?_
 refine g2m hG hOw hNm ?_
 refine g3x hG hOw hNm ?_
 refine g2d hG hOw hNm ?_
 refine g4i hG hOw hNm ?_
 refine f7o hG hOw hNm ?_
 refine g0q hG hOw hNm ?_
 exact f6i hG hOw hNm
end Go.Proofs.YtmjhfccbbfpppaaGreatDoor
