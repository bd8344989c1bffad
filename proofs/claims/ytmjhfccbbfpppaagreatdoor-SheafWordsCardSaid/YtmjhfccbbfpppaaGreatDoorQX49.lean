import Derived.KernelRfl
import Derived.Test.YtmjhfccbbfpppaaGreatDoorQX18
import Derived.Test.YtmjhfccbbfpppaaGreatDoorQX19
import Derived.Test.YtmjhfccbbfpppaaGreatDoorQX20
import Derived.Test.YtmjhfccbbfpppaaGreatDoorQX26
import Derived.Test.YtmjhfccbbfpppaaGreatDoorQX28
import Derived.Test.YtmjhfccbbfpppaaGreatDoorQX29
import Derived.Test.YtmjhfccbbfpppaaGreatDoorQX30
import Derived.Test.YtmjhfccbbfpppaaGreatDoorQX32
import Derived.Test.YtmjhfccbbfpppaaGreatDoorQX34
import Derived.Test.YtmjhfccbbfpppaaGreatDoorQX37
import Derived.Test.YtmjhfccbbfpppaaGreatDoorQX38
import Derived.Test.YtmjhfccbbfpppaaGreatDoorQX54
import Derived.Test.YtmjhfccbbfpppaaGreatDoorQX39
import Derived.Test.YtmjhfccbbfpppaaGreatDoorQX40
import Derived.Test.YtmjhfccbbfpppaaGreatDoorQX41
import Derived.Test.YtmjhfccbbfpppaaGreatDoorQX42
import Derived.Test.YtmjhfccbbfpppaaGreatDoorQX48
namespace Go.Proofs.YtmjhfccbbfpppaaGreatDoor
open Go Pm
set_option maxRecDepth 100000
def d1y:List Ch:=[⟨7,[[⟨#[116,104,101]⟩,⟨#[115,101,97]⟩,⟨#[105,115]⟩,⟨#[111,108,100]⟩],[⟨#[111,108,100]⟩,⟨#[116,104,101]⟩,⟨#[115,101,97]⟩]]⟩,⟨3,[[⟨#[115,101,97]⟩,⟨#[97,110,100]⟩,⟨#[115,101,97]⟩]]⟩]
def c7i:Cp:=⟨4,[⟨0,0,3,3,⟨#[99,111,108,100]⟩⟩,⟨0,1,1,1,⟨#[]⟩⟩,⟨1,0,3,2,⟨#[115,97,108,116]⟩⟩]⟩
def lexX:Lx:=⟨[⟨⟨#[115]⟩,⟨#[]⟩,2⟩,⟨⟨#[108,100]⟩,⟨#[108,100,101]⟩,1⟩],[⟨1,1,⟨#[115,101,97]⟩,0,0,0,⟨#[115,101,97]⟩,1,0⟩,⟨2,2,⟨#[111,108,100]⟩,0,1,0,⟨#[97,103,101]⟩,3,0⟩,⟨3,3,⟨#[]⟩,1,0,2,⟨#[115,101,101]⟩,2,0⟩,⟨5,4,⟨#[]⟩,0,0,0,⟨#[]⟩,0,3⟩]⟩
def shelfS:Sh:=⟨[⟨#[97,98]⟩,⟨#[98]⟩],[⟨1,0,[⟨#[99]⟩]⟩,⟨0,1,[]⟩]⟩
def slipsL:List Si:=[⟨0,0,2,⟨#[105,115]⟩,⟨#[115,101,97]⟩,⟨#[111,108,100,32,111,108,100]⟩⟩]
open Go Pm
set_option linter.unusedSimpArgs false
set_option linter.unusedVariables false
set_option maxRecDepth 100000
theorem f9w:a2d 0=⟨#[48]⟩:=by unfold a2d;rw [show Lib.itoa 0=Lib.decDigits 0 from a4m 0,Lib.decDigits_one (by decide)];rfl
theorem f9o:a2d 1=⟨#[49]⟩:=by unfold a2d;rw [show Lib.itoa 1=Lib.decDigits 1 from a4m 1,Lib.decDigits_one (by decide)];rfl
theorem f9t:a2d 2=⟨#[50]⟩:=by unfold a2d;rw [show Lib.itoa 2=Lib.decDigits 2 from a4m 2,Lib.decDigits_one (by decide)];rfl
theorem g0b:a2d 3=⟨#[51]⟩:=by unfold a2d;rw [show Lib.itoa 3=Lib.decDigits 3 from a4m 3,Lib.decDigits_one (by decide)];rfl
theorem f9p:a2d 4=⟨#[52]⟩:=by unfold a2d;rw [show Lib.itoa 4=Lib.decDigits 4 from a4m 4,Lib.decDigits_one (by decide)];rfl
theorem f9l:a2d 5=⟨#[53]⟩:=by unfold a2d;rw [show Lib.itoa 5=Lib.decDigits 5 from a4m 5,Lib.decDigits_one (by decide)];rfl
theorem f9x:a2d 6=⟨#[54]⟩:=by unfold a2d;rw [show Lib.itoa 6=Lib.decDigits 6 from a4m 6,Lib.decDigits_one (by decide)];rfl
theorem f9m:a2d 7=⟨#[55]⟩:=by unfold a2d;rw [show Lib.itoa 7=Lib.decDigits 7 from a4m 7,Lib.decDigits_one (by decide)];rfl
theorem al_wr:wrS [⟨#[97,98]⟩,⟨#[98]⟩]=⟨#[97,98,32,115,103,10,98,32,101,97,10]⟩∧wrE [⟨#[97,98]⟩,⟨#[98]⟩]=0:=⟨by kernel_rfl,by kernel_rfl⟩
theorem al_rd:rdL ⟨#[97,98,32,115,103,10,98,32,101,97]⟩=[⟨#[97,98]⟩]∧rdN ⟨#[97,98,32,115,103,10,98,32,101,97]⟩=6∧c7o ⟨#[97,98,32,115,103,10,98,32,101,97]⟩=0:=⟨by kernel_rfl,by kernel_rfl,by kernel_rfl⟩
theorem al_save:c2j ⟨[⟨#[97,98]⟩,⟨#[98]⟩],[]⟩ [⟨#[97,98]⟩,⟨#[99]⟩,⟨#[98]⟩]=⟨[⟨#[97,98]⟩,⟨#[98]⟩],[⟨1,0,[⟨#[99]⟩]⟩]⟩∧b3u ⟨[⟨#[97,98]⟩,⟨#[98]⟩],[]⟩ [⟨#[97,98]⟩,⟨#[99]⟩,⟨#[98]⟩]=0:=⟨by kernel_rfl,by kernel_rfl⟩
theorem al_back:b7h shelfS 1=[⟨#[97,98]⟩,⟨#[99]⟩,⟨#[98]⟩]∧a6r shelfS 1=0:=⟨by kernel_rfl,by kernel_rfl⟩
theorem e4w:b6i shelfS 1=⟨[⟨#[97,98]⟩,⟨#[99]⟩,⟨#[98]⟩],[⟨0,1,[]⟩]⟩:=by kernel_rfl
theorem f2k:a1r d1y=true:=by kernel_rfl
theorem f0n:a6a d1y c7i=0:=by kernel_rfl
theorem f7m:b7w d1y lexX=0:=by kernel_rfl
theorem e4b:slipsL.all b3x=true:=by kernel_rfl
theorem al_merge:a5l [⟨#[97]⟩,⟨#[98]⟩,⟨#[99]⟩] [⟨#[120]⟩,⟨#[98]⟩,⟨#[99]⟩] [⟨#[97]⟩,⟨#[98]⟩]=[⟨#[120]⟩,⟨#[98]⟩]∧a3n [⟨#[97]⟩,⟨#[98]⟩,⟨#[99]⟩] [⟨#[120]⟩,⟨#[98]⟩,⟨#[99]⟩] [⟨#[97]⟩,⟨#[98]⟩]=0:=⟨by kernel_rfl,by kernel_rfl⟩
theorem d7t:a2c d1y=[⟨#[99,104,97,112,116,101,114,32,55]⟩,⟨#[108,105,110,101,32,116,104,101,32,115,101,97,32,105,115,32,111,108,100]⟩,⟨#[108,105,110,101,32,111,108,100,32,116,104,101,32,115,101,97]⟩,⟨#[99,104,97,112,116,101,114,32,51]⟩,⟨#[108,105,110,101,32,115,101,97,32,97,110,100,32,115,101,97]⟩]:=by simp only [a2c,d1y,List.flatMap_cons,List.flatMap_nil,c4g,List.map_cons,List.map_nil,f9w,f9o,f9t,g0b,f9p,f9l,f9x,f9m];kernel_rfl
theorem d8d:a3g c7i=[⟨#[99,111,112,121,32,52]⟩,⟨#[111,116,104,101,114,32,48,32,48,32,51,32,99,111,108,100]⟩,⟨#[111,109,105,116,32,48,32,49,32,49]⟩,⟨#[112,117,116,32,49,32,48,32,51,32,115,97,108,116]⟩]:=by simp only [a3g,c7i,List.map_cons,List.map_nil,b8c,atS,f9w,f9o,f9t,g0b,f9p,f9l,f9x,f9m];kernel_rfl
theorem e6a:b8v lexX=[⟨#[99,117,116,32,115,32,50]⟩,⟨#[99,117,116,32,108,100,32,108,100,101,32,49]⟩,⟨#[102,111,114,109,32,49,32,115,101,97,32,115,101,97,32,49]⟩,⟨#[102,114,111,109,32,50,32,48,32,49,32,48,32,111,108,100,32,97,103,101,32,51]⟩,⟨#[112,108,97,99,101,32,51,32,49,32,48,32,50,32,115,101,101,32,50]⟩,⟨#[118,111,105,100,32,53,32,51]⟩]:=by simp only [b8v,lexX,List.map_cons,List.map_nil,a7q,b1p,fmP,c5y,atS,f9w,f9o,f9t,g0b,f9p,f9l,f9x,f9m];kernel_rfl
theorem d2q:a2m slipsL=[⟨#[115,108,105,112,32,48,32,48,32,50,32,105,115]⟩,⟨#[98,101,102,111,114,101,32,115,101,97]⟩,⟨#[97,102,116,101,114,32,111,108,100,32,111,108,100]⟩]:=by simp only [a2m,slipsL,List.flatMap_cons,List.flatMap_nil,c9h,f4x,e5q,atS,f9w,f9o,f9t,g0b,f9p,f9l,f9x,f9m];kernel_rfl
theorem c6w:a5e slipsL=([⟨#[115,108,105,112,32,48,32,48,32,50,32,105,115]⟩,⟨#[98,101,102,111,114,101,32,115,101,97]⟩,⟨#[97,102,116,101,114,32,111,108,100,32,111,108,100]⟩],0):=by unfold a5e;rw [if_pos e4b,d2q];rfl
open Go Pm
set_option maxHeartbeats 4000000
set_option maxRecDepth 100000
theorem a7d (lo sz:Nat) (rows:List (List V)):a0o Tryz.prog 34 [.lst lo sz rows] (fun _=>.lst lo sz rows):=by
 refine a0b (ow:=fun _=>false) Tryz.func34 Tryz.ntmps34 rfl rfl fun G hG hOw hNm hB=>?_;simp only [go_sem,hG,hOw]
theorem b8p (a b c:Int):a0o Tryz.prog 41 [i64 a,i64 b,i64 c] (fun _=>.agg [i64 a,i64 b,i64 c]):=by
 refine a0b (ow:=fun _=>false) Tryz.func41 Tryz.ntmps41 rfl rfl fun G hG hOw hNm hB=>?_;simp only [go_sem,hG,hOw]
theorem d8u:a0o Tryz.prog 38 [] (fun n=>txE n d1y):=by
 refine a0b (ow:=fun _=>false) Tryz.func38 Tryz.ntmps38 rfl rfl fun G hG hOw hNm hB=>?_;simp only [go_sem,hG,hOw]
 try (repeat' with_reducible first|refine And.intro ?_ ?_|intro _|refine exP ?_ ?_);all_goals try omega
 exact .refl _
theorem b4e:a0o Tryz.prog 35 [] (fun n=>shE n shelfS):=by
 refine a0b (ow:=fun _=>false) Tryz.func35 Tryz.ntmps35 rfl rfl fun G hG hOw hNm hB=>?_;simp only [go_sem,hG,hOw]
 try (repeat' with_reducible first|refine And.intro ?_ ?_|intro _|refine exP ?_ ?_);all_goals try omega
 refine a1u (a7d _ _ _) (Subs.refl _) rfl (by simp [chk,hG]) ?_
 simp only [go_sem,hG,hOw]
 try (repeat' with_reducible first|refine And.intro ?_ ?_|intro _|refine exP ?_ ?_);all_goals try omega
 refine a1u (a7d _ _ _) (Subs.refl _) rfl (by simp [chk,hG]) ?_
 simp only [go_sem,hG,hOw]
 try (repeat' with_reducible first|refine And.intro ?_ ?_|intro _|refine exP ?_ ?_);all_goals try omega
 refine Subs.agg (.cons (.refl _) (.cons (Sub.lst (Nat.le_refl _) rfl fun i x x' h1 h2=>?_) .nil))
 match i with
 |0=>simp at h1;subst h1;simp [shelfS] at h2;subst h2;exact Subs.refl _
 |1=>simp at h1;subst h1;simp [shelfS] at h2;subst h2;exact .cons (.refl _) (.cons (.refl _) (.cons (.nil _ _) .nil))
 |i+2=>simp at h1
theorem f2d:a0o Tryz.prog 54 [] (fun n=>cpE n c7i):=by
 refine a0b (ow:=fun _=>false) Tryz.func54 Tryz.ntmps54 rfl rfl fun G hG hOw hNm hB=>?_;simp only [go_sem,hG,hOw]
 try (repeat' with_reducible first|refine And.intro ?_ ?_|intro _|refine exP ?_ ?_);all_goals try omega
 refine a1u (b8p _ _ _) (Subs.refl _) rfl (by simp [chk,hG]) ?_
 simp (maxSteps:=2000000) only [go_sem,hG,hOw,Nat.reduceMul]
 try (repeat' with_reducible first|refine And.intro ?_ ?_|intro _|refine exP ?_ ?_);all_goals try omega
 refine a1u (b8p _ _ _) (Subs.refl _) rfl (by simp [chk,hG]) ?_
 simp (maxSteps:=2000000) only [go_sem,hG,hOw,Nat.reduceMul]
 try (repeat' with_reducible first|refine And.intro ?_ ?_|intro _|refine exP ?_ ?_);all_goals try omega
 refine a1u (b8p _ _ _) (Subs.refl _) rfl (by simp [chk,hG]) ?_
 simp (maxSteps:=2000000) only [go_sem,hG,hOw,Nat.reduceMul]
 try (repeat' with_reducible first|refine And.intro ?_ ?_|intro _|refine exP ?_ ?_);all_goals try omega
 exact .refl _
theorem d3n:a0o Tryz.prog 55 [] (fun n=>lxE n lexX):=by
 refine a0b (ow:=fun _=>false) Tryz.func55 Tryz.ntmps55 rfl rfl fun G hG hOw hNm hB=>?_;simp only [go_sem,hG,hOw]
 try (repeat' with_reducible first|refine And.intro ?_ ?_|intro _|refine exP ?_ ?_);all_goals try omega
 refine a1u (b8p _ _ _) (Subs.refl _) rfl (by simp [chk,hG]) ?_
 simp (maxSteps:=2000000) only [go_sem,hG,hOw,Nat.reduceMul]
 try (repeat' with_reducible first|refine And.intro ?_ ?_|intro _|refine exP ?_ ?_);all_goals try omega
 refine a1u (b8p _ _ _) (Subs.refl _) rfl (by simp [chk,hG]) ?_
 simp (maxSteps:=2000000) only [go_sem,hG,hOw,Nat.reduceMul]
 try (repeat' with_reducible first|refine And.intro ?_ ?_|intro _|refine exP ?_ ?_);all_goals try omega
 exact .refl _
theorem f2h (l m:List ByteArray) (e:Int):a0o Tryz.prog 56 [a0n 0 l,i64 e,a0n 0 m] (fun _=>bl (decide (e=0) && decide (l=m))):=by
 by_cases he:e=0
 ·subst he
  refine a0b (ow:=fun _=>false) Tryz.func56 Tryz.ntmps56 rfl rfl fun G hG hOw hNm hB=>?_;simp only [go_sem,hG,hOw]
  (repeat' with_reducible first|refine And.intro ?_ ?_|intro _|refine exP ?_ ?_);all_goals try omega
  refine a0a (a8b _ _) ?_
  simp only [go_sem,hG,hOw]
  try (repeat' with_reducible first|refine And.intro ?_ ?_|intro _|refine exP ?_ ?_);all_goals try omega
  try simp
 ·rw [decide_eq_false he,Bool.false_and]
  refine a0b (ow:=fun _=>false) Tryz.func56 Tryz.ntmps56 rfl rfl fun G hG hOw hNm hB=>?_;simp only [go_sem,hG,hOw]
  simp (maxSteps:=2000000) only [go_sem,hG,hOw,decide_eq_false he]
  try (repeat' with_reducible first|refine And.intro ?_ ?_|intro _|refine exP ?_ ?_);all_goals try omega
open Go Pm
set_option maxRecDepth 100000
def f5e:List ByteArray:=[⟨#[97,98]⟩,⟨#[98]⟩]
def lAb:List ByteArray:=[⟨#[97,98]⟩]
def a5f:List ByteArray:=[⟨#[97,98]⟩,⟨#[99]⟩,⟨#[98]⟩]
def lC:List ByteArray:=[⟨#[99]⟩]
def a6z:List ByteArray:=[⟨#[99,111,112,121,32,52]⟩,⟨#[111,116,104,101,114,32,48,32,48,32,51,32,99,111,108,100]⟩,⟨#[111,109,105,116,32,48,32,49,32,49]⟩,⟨#[112,117,116,32,49,32,48,32,51,32,115,97,108,116]⟩]
def a8q:List ByteArray:=[⟨#[99,104,97,112,116,101,114,32,55]⟩,⟨#[108,105,110,101,32,116,104,101,32,115,101,97,32,105,115,32,111,108,100]⟩,⟨#[108,105,110,101,32,111,108,100,32,116,104,101,32,115,101,97]⟩,⟨#[99,104,97,112,116,101,114,32,51]⟩,⟨#[108,105,110,101,32,115,101,97,32,97,110,100,32,115,101,97]⟩]
def c9k:List ByteArray:=[⟨#[99,117,116,32,115,32,50]⟩,⟨#[99,117,116,32,108,100,32,108,100,101,32,49]⟩,⟨#[102,111,114,109,32,49,32,115,101,97,32,115,101,97,32,49]⟩,⟨#[102,114,111,109,32,50,32,48,32,49,32,48,32,111,108,100,32,97,103,101,32,51]⟩,⟨#[112,108,97,99,101,32,51,32,49,32,48,32,50,32,115,101,101,32,50]⟩,⟨#[118,111,105,100,32,53,32,51]⟩]
def a8i:List ByteArray:=[⟨#[115,108,105,112,32,48,32,48,32,50,32,105,115]⟩,⟨#[98,101,102,111,114,101,32,115,101,97]⟩,⟨#[97,102,116,101,114,32,111,108,100,32,111,108,100]⟩]
def f9q:List ByteArray:=[⟨#[97]⟩,⟨#[98]⟩,⟨#[99]⟩]
def f9r:List ByteArray:=[⟨#[120]⟩,⟨#[98]⟩,⟨#[99]⟩]
def lAB:List ByteArray:=[⟨#[97]⟩,⟨#[98]⟩]
def lXB:List ByteArray:=[⟨#[120]⟩,⟨#[98]⟩]
def sWr:ByteArray:=⟨#[97,98,32,115,103,10,98,32,101,97,10]⟩
def sRd:ByteArray:=⟨#[97,98,32,115,103,10,98,32,101,97]⟩
def shSave:Sh:=⟨f5e,[⟨1,0,lC⟩]⟩
def shPrune:Sh:=⟨a5f,[⟨0,1,[]⟩]⟩
def e6o:Sh:=⟨f5e,[]⟩
theorem cWr:a0o Tryz.prog 14 [a0n 0 f5e] (fun n=>.tup [str sWr,i64 0]):=by
 have h:=d0r f5e
 rw [show wrS f5e=sWr from al_wr.1] at h
 rw [show wrE f5e=0 from al_wr.2] at h
 exact h
theorem cRd:a0o Tryz.prog 15 [str sRd] (fun n=>.tup [a0n n lAb,i64 6,i64 0]):=by
 have h:=d7j sRd
 rw [show rdL sRd=lAb from al_rd.1] at h
 rw [show rdN sRd=6 from al_rd.2.1] at h
 rw [show c7o sRd=0 from al_rd.2.2] at h
 exact h
theorem g0t:a0o Tryz.prog 33 [shE 0 e6o,a0n 0 a5f] (fun n=>.tup [shE n shSave,i64 0]):=by
 have h:=f4n e6o a5f (by decide) (by intro c hc;cases hc) (by decide)
 rw [show c2j e6o a5f=shSave from al_save.1] at h
 rw [show b3u e6o a5f=0 from al_save.2] at h
 exact h
theorem g1b:a0o Tryz.prog 39 [shE 0 shelfS,i64 1] (fun n=>.tup [a0n n a5f,i64 0]):=by
 have h:=f2t shelfS 1 (by decide) (by intro c hc;simp only [shelfS,List.mem_cons,List.not_mem_nil,or_false] at hc;rcases hc with rfl|rfl<;>decide)
 rw [show b7h shelfS 1=a5f from al_back.1] at h
 rw [show a6r shelfS 1=0 from al_back.2] at h
 exact h
theorem f8u:a0o Tryz.prog 40 [shE 0 shelfS,i64 1] (fun n=>.tup [shE n shPrune,i64 0]):=by
 have h:=e7y shelfS 1 (by decide) (by intro c hc;simp only [shelfS,List.mem_cons,List.not_mem_nil,or_false] at hc;rcases hc with rfl|rfl<;>decide)
 rw [show b6i shelfS 1=shPrune from e4w] at h
 rw [show a6r shelfS 1=0 from al_back.2] at h
 exact h
theorem g1a:a0o Tryz.prog 20 [txE 0 d1y,cpE 0 c7i] (fun n=>.tup [a0n n a6z,i64 0]):=by
 have h:=c3y d1y c7i
 rw [f0n,if_pos rfl] at h
 rw [show a3g c7i=a6z from d8d] at h
 exact h
theorem g0k:a0o Tryz.prog 13 [txE 0 d1y] (fun n=>.tup [a0n n a8q,i64 0]):=by
 have h:=c4o d1y
 rw [f2k,if_pos rfl,if_pos rfl] at h
 rw [show a2c d1y=a8q from d7t] at h
 exact h
theorem g3r:a0o Tryz.prog 31 [txE 0 d1y,lxE 0 lexX] (fun n=>.tup [a0n n c9k,i64 0]):=by
 have hb:(∀ r ∈ lexX.rules,bdR r)∧(∀ d ∈ lexX.decs,bdD d)∧lexX.rules.length≤1000∧lexX.decs.length≤1000:=by
  refine ⟨?_,?_,by decide,by decide⟩
  ·intro r hr;simp only [lexX,List.mem_cons,List.not_mem_nil,or_false] at hr;rcases hr with rfl|rfl<;>exact ⟨by decide,by decide⟩
  ·intro r hr;simp only [lexX,List.mem_cons,List.not_mem_nil,or_false] at hr;rcases hr with rfl|rfl|rfl|rfl<;>exact ⟨by decide,by decide⟩
 have h:=c3r d1y lexX hb
 rw [f7m,if_pos rfl] at h
 rw [show b8v lexX=c9k from e6a] at h
 exact h
theorem f6a:a0o Tryz.prog 29 [sis 0 slipsL] (fun n=>.tup [a0n n a8i,i64 0]):=by
 have h:=d3y slipsL (by decide) (by intro r hr;simp only [slipsL,List.mem_cons,List.not_mem_nil,or_false] at hr;subst hr;exact ⟨by decide,by decide,by decide⟩)
 rw [show a5e slipsL=(a8i,0) from c6w] at h
 exact h
theorem f7t:a0o Tryz.prog 37 [a0n 0 f9q,a0n 0 f9r,a0n 0 lAB] (fun n=>.tup [a0n n lXB,i64 0]):=by
 have h:=e5z f9q f9r lAB (by decide) (by decide) (by decide)
 rw [show a5l f9q f9r lAB=lXB from al_merge.1] at h
 rw [show a3n f9q f9r lAB=0 from al_merge.2] at h
 exact h
theorem c8s (l:List ByteArray):a0o Tryz.prog 56 [a0n 0 l,i64 0,a0n 0 l] (fun _=>bl true):=by
 have h:=f2h l l 0
 rw [decide_eq_true (rfl:l=l)] at h
 exact h
theorem e9k (s:Sh):a0o Tryz.prog 36 [shE 0 s,shE 0 s] (fun _=>bl true):=by
 have h:=c2m s s
 rw [decide_eq_true (rfl:s=s)] at h
 exact h
theorem d0v (lo:Nat) (s:Sh):Pm.Sub (.agg [.lst lo 1 (s.first.map a1t),.lst lo 3 (s.chg.map (hkE lo))]) (shE 0 s) :=
 Subs.agg (.cons (.lo (Nat.zero_le _)) (.cons (.map (Nat.zero_le _) fun c=>.cons (.refl _) (.cons (.refl _) (.cons (.lo (Nat.zero_le _)) .nil))) .nil))
open Go Pm
set_option maxHeartbeats 4000000
set_option maxRecDepth 100000
theorem g0h {G:Gh} {lo:Nat} (hG:G.n=168) (hOw:G.ow=fun _=>false) (hNm:G.nm=[]) (h:SemL Tryz.prog G ((a4x (Tryz.f9.body.getD .skip)).drop 2) (St.of [(1,str sWr),(2,i64 0)] []) (a2i Tryz.prog lo [.tmp 0] (bl true))) :
  SemL Tryz.prog G ((a4x (Tryz.f9.body.getD .skip)).drop 1) (St.of [] []) (a2i Tryz.prog lo [.tmp 0] (bl true)):=by
 refine a1a 1 _ _ ?_
 simp only [Tryz.f9,Option.getD_some,a3e,a1w,a2q,a2h,a3d,List.singleton_append,List.cons_append,List.nil_append,List.drop_succ_cons,List.drop_zero]
 simp only [go_sem,hG,hOw]
 try (repeat' with_reducible first|refine And.intro ?_ ?_|intro _|refine exP ?_ ?_);all_goals try omega
 refine a1u (a7d _ _ _) (Subs.refl _) rfl (by simp [chk,hG]) ?_
 simp (maxSteps:=2000000) only [go_sem,hG,hOw,Nat.reduceMul]
 try (repeat' with_reducible first|refine And.intro ?_ ?_|intro _|refine exP ?_ ?_);all_goals try omega
 refine a0a cWr ?_
 simp (maxSteps:=2000000) only [go_sem,hG,hOw,Nat.reduceMul]
 try (repeat' with_reducible first|refine And.intro ?_ ?_|intro _|refine exP ?_ ?_);all_goals try omega
 refine a2r (s':=St.of [(1,str sWr),(2,i64 0)] []) (a1j (by (simp only [go_sem])<;>simp) hNm) ?_
 exact h
theorem g2p {G:Gh} {lo:Nat} (hG:G.n=168) (hOw:G.ow=fun _=>false) (hNm:G.nm=[]) (h:SemL Tryz.prog G ((a4x (Tryz.f9.body.getD .skip)).drop 3) (St.of [(1,str sWr),(2,i64 0),(3,a0n G.lo lAb),(4,i64 6),(5,i64 0)] []) (a2i Tryz.prog lo [.tmp 0] (bl true))) :
  SemL Tryz.prog G ((a4x (Tryz.f9.body.getD .skip)).drop 2) (St.of [(1,str sWr),(2,i64 0)] []) (a2i Tryz.prog lo [.tmp 0] (bl true)):=by
 refine a1a 1 _ _ ?_
 simp only [Tryz.f9,Option.getD_some,a3e,a1w,a2q,a2h,a3d,List.singleton_append,List.cons_append,List.nil_append,List.drop_succ_cons,List.drop_zero]
 simp only [go_sem,hG,hOw]
 try (repeat' with_reducible first|refine And.intro ?_ ?_|intro _|refine exP ?_ ?_);all_goals try omega
 refine a0a cRd ?_
 simp (maxSteps:=2000000) only [go_sem,hG,hOw,Nat.reduceMul]
 try (repeat' with_reducible first|refine And.intro ?_ ?_|intro _|refine exP ?_ ?_);all_goals try omega
 refine a2r (s':=St.of [(1,str sWr),(2,i64 0),(3,a0n G.lo lAb),(4,i64 6),(5,i64 0)] []) (a1j (by (simp only [go_sem])<;>simp) hNm) ?_
 exact h
theorem g2m {G:Gh} {lo:Nat} (hG:G.n=168) (hOw:G.ow=fun _=>false) (hNm:G.nm=[]) (h:SemL Tryz.prog G ((a4x (Tryz.f9.body.getD .skip)).drop 4) (St.of [(1,str sWr),(2,i64 0),(3,a0n G.lo lAb),(4,i64 6),(5,i64 0),(6,.ptr 6 0),(7,i64 0)] [(6,.box [a0n G.lo shSave.first,hks G.lo shSave.chg])]) (a2i Tryz.prog lo [.tmp 0] (bl true))) :
  SemL Tryz.prog G ((a4x (Tryz.f9.body.getD .skip)).drop 3) (St.of [(1,str sWr),(2,i64 0),(3,a0n G.lo lAb),(4,i64 6),(5,i64 0)] []) (a2i Tryz.prog lo [.tmp 0] (bl true)):=by
 refine a1a 1 _ _ ?_
 simp only [Tryz.f9,Option.getD_some,a3e,a1w,a2q,a2h,a3d,List.singleton_append,List.cons_append,List.nil_append,List.drop_succ_cons,List.drop_zero]
 simp only [go_sem,hG,hOw]
 try (repeat' with_reducible first|refine And.intro ?_ ?_|intro _|refine exP ?_ ?_);all_goals try omega
 refine a1u (a7d _ _ _) (Subs.refl _) rfl (by simp [chk,hG]) ?_
 simp (maxSteps:=2000000) only [go_sem,hG,hOw,Nat.reduceMul]
 try (repeat' with_reducible first|refine And.intro ?_ ?_|intro _|refine exP ?_ ?_);all_goals try omega
 refine a1u (a7d _ _ _) (Subs.refl _) rfl (by simp [chk,hG]) ?_
 simp (maxSteps:=2000000) only [go_sem,hG,hOw,Nat.reduceMul]
 try (repeat' with_reducible first|refine And.intro ?_ ?_|intro _|refine exP ?_ ?_);all_goals try omega
 refine a1u g0t (Subs.cons (Subs.agg (.cons (.lo (Nat.zero_le _)) (.cons (.nil _ _) .nil))) (.cons (.lo (Nat.zero_le _)) .nil)) rfl (by simp [chk,hG]) ?_
 simp (maxSteps:=2000000) only [go_sem,hG,hOw,Nat.reduceMul]
 try (repeat' with_reducible first|refine And.intro ?_ ?_|intro _|refine exP ?_ ?_);all_goals try omega
 refine a2r (s':=St.of [(1,str sWr),(2,i64 0),(3,a0n G.lo lAb),(4,i64 6),(5,i64 0),(6,.ptr 6 0),(7,i64 0)] [(6,.box [a0n G.lo shSave.first,hks G.lo shSave.chg])]) (a2a [(6,some 6)]) ?_
 exact h
theorem g1s {G:Gh} {lo:Nat} (hG:G.n=168) (hOw:G.ow=fun _=>false) (hNm:G.nm=[]) (h:SemL Tryz.prog G ((a4x (Tryz.f9.body.getD .skip)).drop 5) (St.of [(1,str sWr),(2,i64 0),(3,a0n G.lo lAb),(4,i64 6),(5,i64 0),(6,.ptr 6 0),(7,i64 0),(8,a0n G.lo a5f),(9,i64 0)] [(6,.box [a0n G.lo shSave.first,hks G.lo shSave.chg])]) (a2i Tryz.prog lo [.tmp 0] (bl true))) :
  SemL Tryz.prog G ((a4x (Tryz.f9.body.getD .skip)).drop 4) (St.of [(1,str sWr),(2,i64 0),(3,a0n G.lo lAb),(4,i64 6),(5,i64 0),(6,.ptr 6 0),(7,i64 0)] [(6,.box [a0n G.lo shSave.first,hks G.lo shSave.chg])]) (a2i Tryz.prog lo [.tmp 0] (bl true)):=by
 refine a1a 1 _ _ ?_
 simp only [Tryz.f9,Option.getD_some,a3e,a1w,a2q,a2h,a3d,List.singleton_append,List.cons_append,List.nil_append,List.drop_succ_cons,List.drop_zero]
 simp only [go_sem,hG,hOw]
 try (repeat' with_reducible first|refine And.intro ?_ ?_|intro _|refine exP ?_ ?_);all_goals try omega
 refine a0a b4e ?_
 simp (maxSteps:=2000000) only [go_sem,hG,hOw,Nat.reduceMul]
 refine a0a g1b ?_
 simp (maxSteps:=2000000) only [go_sem,hG,hOw,Nat.reduceMul]
 try (repeat' with_reducible first|refine And.intro ?_ ?_|intro _|refine exP ?_ ?_);all_goals try omega
 refine a2r (s':=St.of [(1,str sWr),(2,i64 0),(3,a0n G.lo lAb),(4,i64 6),(5,i64 0),(6,.ptr 6 0),(7,i64 0),(8,a0n G.lo a5f),(9,i64 0)] [(6,.box [a0n G.lo shSave.first,hks G.lo shSave.chg])]) (a2a [(6,some 6)]) ?_
 exact h
theorem g0x {G:Gh} {lo:Nat} (hG:G.n=168) (hOw:G.ow=fun _=>false) (hNm:G.nm=[]) (h:SemL Tryz.prog G ((a4x (Tryz.f9.body.getD .skip)).drop 6) (St.of [(1,str sWr),(2,i64 0),(3,a0n G.lo lAb),(4,i64 6),(5,i64 0),(6,.ptr 6 0),(7,i64 0),(8,a0n G.lo a5f),(9,i64 0),(10,.ptr 10 0),(11,i64 0)] [(6,.box [a0n G.lo shSave.first,hks G.lo shSave.chg]),(10,.box [a0n G.lo shPrune.first,hks G.lo shPrune.chg])]) (a2i Tryz.prog lo [.tmp 0] (bl true))) :
  SemL Tryz.prog G ((a4x (Tryz.f9.body.getD .skip)).drop 5) (St.of [(1,str sWr),(2,i64 0),(3,a0n G.lo lAb),(4,i64 6),(5,i64 0),(6,.ptr 6 0),(7,i64 0),(8,a0n G.lo a5f),(9,i64 0)] [(6,.box [a0n G.lo shSave.first,hks G.lo shSave.chg])]) (a2i Tryz.prog lo [.tmp 0] (bl true)):=by
 refine a1a 1 _ _ ?_
 simp only [Tryz.f9,Option.getD_some,a3e,a1w,a2q,a2h,a3d,List.singleton_append,List.cons_append,List.nil_append,List.drop_succ_cons,List.drop_zero]
 simp only [go_sem,hG,hOw]
 try (repeat' with_reducible first|refine And.intro ?_ ?_|intro _|refine exP ?_ ?_);all_goals try omega
 refine a0a b4e ?_
 simp (maxSteps:=2000000) only [go_sem,hG,hOw,Nat.reduceMul]
 refine a0a f8u ?_
 simp (maxSteps:=2000000) only [go_sem,hG,hOw,Nat.reduceMul]
 try (repeat' with_reducible first|refine And.intro ?_ ?_|intro _|refine exP ?_ ?_);all_goals try omega
 refine a2r (s':=St.of [(1,str sWr),(2,i64 0),(3,a0n G.lo lAb),(4,i64 6),(5,i64 0),(6,.ptr 6 0),(7,i64 0),(8,a0n G.lo a5f),(9,i64 0),(10,.ptr 10 0),(11,i64 0)] [(6,.box [a0n G.lo shSave.first,hks G.lo shSave.chg]),(10,.box [a0n G.lo shPrune.first,hks G.lo shPrune.chg])]) (a2a [(6,some 6),(10,some 10)]) ?_
 exact h
theorem g0m {G:Gh} {lo:Nat} (hG:G.n=168) (hOw:G.ow=fun _=>false) (hNm:G.nm=[]) (h:SemL Tryz.prog G ((a4x (Tryz.f9.body.getD .skip)).drop 7) (St.of [(1,str sWr),(2,i64 0),(3,a0n G.lo lAb),(4,i64 6),(5,i64 0),(6,.ptr 6 0),(7,i64 0),(8,a0n G.lo a5f),(9,i64 0),(10,.ptr 10 0),(11,i64 0),(12,a0n G.lo a6z),(13,i64 0)] [(6,.box [a0n G.lo shSave.first,hks G.lo shSave.chg]),(10,.box [a0n G.lo shPrune.first,hks G.lo shPrune.chg])]) (a2i Tryz.prog lo [.tmp 0] (bl true))) :
  SemL Tryz.prog G ((a4x (Tryz.f9.body.getD .skip)).drop 6) (St.of [(1,str sWr),(2,i64 0),(3,a0n G.lo lAb),(4,i64 6),(5,i64 0),(6,.ptr 6 0),(7,i64 0),(8,a0n G.lo a5f),(9,i64 0),(10,.ptr 10 0),(11,i64 0)] [(6,.box [a0n G.lo shSave.first,hks G.lo shSave.chg]),(10,.box [a0n G.lo shPrune.first,hks G.lo shPrune.chg])]) (a2i Tryz.prog lo [.tmp 0] (bl true)):=by
 refine a1a 1 _ _ ?_
 simp only [Tryz.f9,Option.getD_some,a3e,a1w,a2q,a2h,a3d,List.singleton_append,List.cons_append,List.nil_append,List.drop_succ_cons,List.drop_zero]
 simp only [go_sem,hG,hOw]
 try (repeat' with_reducible first|refine And.intro ?_ ?_|intro _|refine exP ?_ ?_);all_goals try omega
 refine a0a d8u ?_
 simp (maxSteps:=2000000) only [go_sem,hG,hOw,Nat.reduceMul]
 try (repeat' with_reducible first|refine And.intro ?_ ?_|intro _|refine exP ?_ ?_);all_goals try omega
 refine a0a f2d ?_
 simp (maxSteps:=2000000) only [go_sem,hG,hOw,Nat.reduceMul]
 try (repeat' with_reducible first|refine And.intro ?_ ?_|intro _|refine exP ?_ ?_);all_goals try omega
 refine a0a g1a ?_
 simp (maxSteps:=2000000) only [go_sem,hG,hOw,Nat.reduceMul]
 try (repeat' with_reducible first|refine And.intro ?_ ?_|intro _|refine exP ?_ ?_);all_goals try omega
 refine a2r (s':=St.of [(1,str sWr),(2,i64 0),(3,a0n G.lo lAb),(4,i64 6),(5,i64 0),(6,.ptr 6 0),(7,i64 0),(8,a0n G.lo a5f),(9,i64 0),(10,.ptr 10 0),(11,i64 0),(12,a0n G.lo a6z),(13,i64 0)] [(6,.box [a0n G.lo shSave.first,hks G.lo shSave.chg]),(10,.box [a0n G.lo shPrune.first,hks G.lo shPrune.chg])]) (a2a [(6,some 6),(10,some 10)]) ?_
 exact h
theorem g1l {G:Gh} {lo:Nat} (hG:G.n=168) (hOw:G.ow=fun _=>false) (hNm:G.nm=[]) (h:SemL Tryz.prog G ((a4x (Tryz.f9.body.getD .skip)).drop 8) (St.of [(1,str sWr),(2,i64 0),(3,a0n G.lo lAb),(4,i64 6),(5,i64 0),(6,.ptr 6 0),(7,i64 0),(8,a0n G.lo a5f),(9,i64 0),(10,.ptr 10 0),(11,i64 0),(12,a0n G.lo a6z),(13,i64 0),(14,a0n G.lo a8q),(15,i64 0)] [(6,.box [a0n G.lo shSave.first,hks G.lo shSave.chg]),(10,.box [a0n G.lo shPrune.first,hks G.lo shPrune.chg])]) (a2i Tryz.prog lo [.tmp 0] (bl true))) :
  SemL Tryz.prog G ((a4x (Tryz.f9.body.getD .skip)).drop 7) (St.of [(1,str sWr),(2,i64 0),(3,a0n G.lo lAb),(4,i64 6),(5,i64 0),(6,.ptr 6 0),(7,i64 0),(8,a0n G.lo a5f),(9,i64 0),(10,.ptr 10 0),(11,i64 0),(12,a0n G.lo a6z),(13,i64 0)] [(6,.box [a0n G.lo shSave.first,hks G.lo shSave.chg]),(10,.box [a0n G.lo shPrune.first,hks G.lo shPrune.chg])]) (a2i Tryz.prog lo [.tmp 0] (bl true)):=by
 refine a1a 1 _ _ ?_
 simp only [Tryz.f9,Option.getD_some,a3e,a1w,a2q,a2h,a3d,List.singleton_append,List.cons_append,List.nil_append,List.drop_succ_cons,List.drop_zero]
 simp only [go_sem,hG,hOw]
 try (repeat' with_reducible first|refine And.intro ?_ ?_|intro _|refine exP ?_ ?_);all_goals try omega
 refine a0a d8u ?_
 simp (maxSteps:=2000000) only [go_sem,hG,hOw,Nat.reduceMul]
 try (repeat' with_reducible first|refine And.intro ?_ ?_|intro _|refine exP ?_ ?_);all_goals try omega
 refine a0a g0k ?_
 simp (maxSteps:=2000000) only [go_sem,hG,hOw,Nat.reduceMul]
 try (repeat' with_reducible first|refine And.intro ?_ ?_|intro _|refine exP ?_ ?_);all_goals try omega
 refine a2r (s':=St.of [(1,str sWr),(2,i64 0),(3,a0n G.lo lAb),(4,i64 6),(5,i64 0),(6,.ptr 6 0),(7,i64 0),(8,a0n G.lo a5f),(9,i64 0),(10,.ptr 10 0),(11,i64 0),(12,a0n G.lo a6z),(13,i64 0),(14,a0n G.lo a8q),(15,i64 0)] [(6,.box [a0n G.lo shSave.first,hks G.lo shSave.chg]),(10,.box [a0n G.lo shPrune.first,hks G.lo shPrune.chg])]) (a2a [(6,some 6),(10,some 10)]) ?_
 exact h
theorem g2h {G:Gh} {lo:Nat} (hG:G.n=168) (hOw:G.ow=fun _=>false) (hNm:G.nm=[]) (h:SemL Tryz.prog G ((a4x (Tryz.f9.body.getD .skip)).drop 9) (St.of [(1,str sWr),(2,i64 0),(3,a0n G.lo lAb),(4,i64 6),(5,i64 0),(6,.ptr 6 0),(7,i64 0),(8,a0n G.lo a5f),(9,i64 0),(10,.ptr 10 0),(11,i64 0),(12,a0n G.lo a6z),(13,i64 0),(14,a0n G.lo a8q),(15,i64 0),(16,a0n G.lo c9k),(17,i64 0)] [(6,.box [a0n G.lo shSave.first,hks G.lo shSave.chg]),(10,.box [a0n G.lo shPrune.first,hks G.lo shPrune.chg])]) (a2i Tryz.prog lo [.tmp 0] (bl true))) :
  SemL Tryz.prog G ((a4x (Tryz.f9.body.getD .skip)).drop 8) (St.of [(1,str sWr),(2,i64 0),(3,a0n G.lo lAb),(4,i64 6),(5,i64 0),(6,.ptr 6 0),(7,i64 0),(8,a0n G.lo a5f),(9,i64 0),(10,.ptr 10 0),(11,i64 0),(12,a0n G.lo a6z),(13,i64 0),(14,a0n G.lo a8q),(15,i64 0)] [(6,.box [a0n G.lo shSave.first,hks G.lo shSave.chg]),(10,.box [a0n G.lo shPrune.first,hks G.lo shPrune.chg])]) (a2i Tryz.prog lo [.tmp 0] (bl true)):=by
 refine a1a 1 _ _ ?_
 simp only [Tryz.f9,Option.getD_some,a3e,a1w,a2q,a2h,a3d,List.singleton_append,List.cons_append,List.nil_append,List.drop_succ_cons,List.drop_zero]
 simp only [go_sem,hG,hOw]
 try (repeat' with_reducible first|refine And.intro ?_ ?_|intro _|refine exP ?_ ?_);all_goals try omega
 refine a0a d8u ?_
 simp (maxSteps:=2000000) only [go_sem,hG,hOw,Nat.reduceMul]
 try (repeat' with_reducible first|refine And.intro ?_ ?_|intro _|refine exP ?_ ?_);all_goals try omega
 refine a0a d3n ?_
 simp (maxSteps:=2000000) only [go_sem,hG,hOw,Nat.reduceMul]
 try (repeat' with_reducible first|refine And.intro ?_ ?_|intro _|refine exP ?_ ?_);all_goals try omega
 refine a0a g3r ?_
 simp (maxSteps:=2000000) only [go_sem,hG,hOw,Nat.reduceMul]
 try (repeat' with_reducible first|refine And.intro ?_ ?_|intro _|refine exP ?_ ?_);all_goals try omega
 refine a2r (s':=St.of [(1,str sWr),(2,i64 0),(3,a0n G.lo lAb),(4,i64 6),(5,i64 0),(6,.ptr 6 0),(7,i64 0),(8,a0n G.lo a5f),(9,i64 0),(10,.ptr 10 0),(11,i64 0),(12,a0n G.lo a6z),(13,i64 0),(14,a0n G.lo a8q),(15,i64 0),(16,a0n G.lo c9k),(17,i64 0)] [(6,.box [a0n G.lo shSave.first,hks G.lo shSave.chg]),(10,.box [a0n G.lo shPrune.first,hks G.lo shPrune.chg])]) (a2a [(6,some 6),(10,some 10)]) ?_
 exact h
theorem g2j {G:Gh} {lo:Nat} (hG:G.n=168) (hOw:G.ow=fun _=>false) (hNm:G.nm=[]) (h:SemL Tryz.prog G ((a4x (Tryz.f9.body.getD .skip)).drop 10) (St.of [(1,str sWr),(2,i64 0),(3,a0n G.lo lAb),(4,i64 6),(5,i64 0),(6,.ptr 6 0),(7,i64 0),(8,a0n G.lo a5f),(9,i64 0),(10,.ptr 10 0),(11,i64 0),(12,a0n G.lo a6z),(13,i64 0),(14,a0n G.lo a8q),(15,i64 0),(16,a0n G.lo c9k),(17,i64 0),(18,a0n G.lo a8i),(19,i64 0)] [(6,.box [a0n G.lo shSave.first,hks G.lo shSave.chg]),(10,.box [a0n G.lo shPrune.first,hks G.lo shPrune.chg])]) (a2i Tryz.prog lo [.tmp 0] (bl true))) :
  SemL Tryz.prog G ((a4x (Tryz.f9.body.getD .skip)).drop 9) (St.of [(1,str sWr),(2,i64 0),(3,a0n G.lo lAb),(4,i64 6),(5,i64 0),(6,.ptr 6 0),(7,i64 0),(8,a0n G.lo a5f),(9,i64 0),(10,.ptr 10 0),(11,i64 0),(12,a0n G.lo a6z),(13,i64 0),(14,a0n G.lo a8q),(15,i64 0),(16,a0n G.lo c9k),(17,i64 0)] [(6,.box [a0n G.lo shSave.first,hks G.lo shSave.chg]),(10,.box [a0n G.lo shPrune.first,hks G.lo shPrune.chg])]) (a2i Tryz.prog lo [.tmp 0] (bl true)):=by
 refine a1a 1 _ _ ?_
 simp only [Tryz.f9,Option.getD_some,a3e,a1w,a2q,a2h,a3d,List.singleton_append,List.cons_append,List.nil_append,List.drop_succ_cons,List.drop_zero]
 simp only [go_sem,hG,hOw]
 try (repeat' with_reducible first|refine And.intro ?_ ?_|intro _|refine exP ?_ ?_);all_goals try omega
 refine a0a (b8p _ _ _) ?_
 simp (maxSteps:=2000000) only [go_sem,hG,hOw,Nat.reduceMul]
 try (repeat' with_reducible first|refine And.intro ?_ ?_|intro _|refine exP ?_ ?_);all_goals try omega
 refine a0a f6a ?_
 simp (maxSteps:=2000000) only [go_sem,hG,hOw,Nat.reduceMul]
 try (repeat' with_reducible first|refine And.intro ?_ ?_|intro _|refine exP ?_ ?_);all_goals try omega
 refine a2r (s':=St.of [(1,str sWr),(2,i64 0),(3,a0n G.lo lAb),(4,i64 6),(5,i64 0),(6,.ptr 6 0),(7,i64 0),(8,a0n G.lo a5f),(9,i64 0),(10,.ptr 10 0),(11,i64 0),(12,a0n G.lo a6z),(13,i64 0),(14,a0n G.lo a8q),(15,i64 0),(16,a0n G.lo c9k),(17,i64 0),(18,a0n G.lo a8i),(19,i64 0)] [(6,.box [a0n G.lo shSave.first,hks G.lo shSave.chg]),(10,.box [a0n G.lo shPrune.first,hks G.lo shPrune.chg])]) (a2a [(6,some 6),(10,some 10)]) ?_
 exact h
theorem f5x {G:Gh} {lo:Nat} (hG:G.n=168) (hOw:G.ow=fun _=>false) (hNm:G.nm=[]) (h:SemL Tryz.prog G ((a4x (Tryz.f9.body.getD .skip)).drop 11) (St.of [(1,str sWr),(2,i64 0),(3,a0n G.lo lAb),(4,i64 6),(5,i64 0),(6,.ptr 6 0),(7,i64 0),(8,a0n G.lo a5f),(9,i64 0),(10,.ptr 10 0),(11,i64 0),(12,a0n G.lo a6z),(13,i64 0),(14,a0n G.lo a8q),(15,i64 0),(16,a0n G.lo c9k),(17,i64 0),(18,a0n G.lo a8i),(19,i64 0),(20,a0n G.lo lXB),(21,i64 0)] [(6,.box [a0n G.lo shSave.first,hks G.lo shSave.chg]),(10,.box [a0n G.lo shPrune.first,hks G.lo shPrune.chg])]) (a2i Tryz.prog lo [.tmp 0] (bl true))) :
  SemL Tryz.prog G ((a4x (Tryz.f9.body.getD .skip)).drop 10) (St.of [(1,str sWr),(2,i64 0),(3,a0n G.lo lAb),(4,i64 6),(5,i64 0),(6,.ptr 6 0),(7,i64 0),(8,a0n G.lo a5f),(9,i64 0),(10,.ptr 10 0),(11,i64 0),(12,a0n G.lo a6z),(13,i64 0),(14,a0n G.lo a8q),(15,i64 0),(16,a0n G.lo c9k),(17,i64 0),(18,a0n G.lo a8i),(19,i64 0)] [(6,.box [a0n G.lo shSave.first,hks G.lo shSave.chg]),(10,.box [a0n G.lo shPrune.first,hks G.lo shPrune.chg])]) (a2i Tryz.prog lo [.tmp 0] (bl true)):=by
 refine a1a 1 _ _ ?_
 simp only [Tryz.f9,Option.getD_some,a3e,a1w,a2q,a2h,a3d,List.singleton_append,List.cons_append,List.nil_append,List.drop_succ_cons,List.drop_zero]
 simp only [go_sem,hG,hOw]
 try (repeat' with_reducible first|refine And.intro ?_ ?_|intro _|refine exP ?_ ?_);all_goals try omega
 refine a1u (a7d _ _ _) (Subs.refl _) rfl (by simp [chk,hG]) ?_
 simp (maxSteps:=2000000) only [go_sem,hG,hOw,Nat.reduceMul]
 try (repeat' with_reducible first|refine And.intro ?_ ?_|intro _|refine exP ?_ ?_);all_goals try omega
 refine a1u (a7d _ _ _) (Subs.refl _) rfl (by simp [chk,hG]) ?_
 simp (maxSteps:=2000000) only [go_sem,hG,hOw,Nat.reduceMul]
 try (repeat' with_reducible first|refine And.intro ?_ ?_|intro _|refine exP ?_ ?_);all_goals try omega
 refine a1u (a7d _ _ _) (Subs.refl _) rfl (by simp [chk,hG]) ?_
 simp (maxSteps:=2000000) only [go_sem,hG,hOw,Nat.reduceMul]
 try (repeat' with_reducible first|refine And.intro ?_ ?_|intro _|refine exP ?_ ?_);all_goals try omega
 refine a0a f7t ?_
 simp (maxSteps:=2000000) only [go_sem,hG,hOw,Nat.reduceMul]
 try (repeat' with_reducible first|refine And.intro ?_ ?_|intro _|refine exP ?_ ?_);all_goals try omega
 refine a2r (s':=St.of [(1,str sWr),(2,i64 0),(3,a0n G.lo lAb),(4,i64 6),(5,i64 0),(6,.ptr 6 0),(7,i64 0),(8,a0n G.lo a5f),(9,i64 0),(10,.ptr 10 0),(11,i64 0),(12,a0n G.lo a6z),(13,i64 0),(14,a0n G.lo a8q),(15,i64 0),(16,a0n G.lo c9k),(17,i64 0),(18,a0n G.lo a8i),(19,i64 0),(20,a0n G.lo lXB),(21,i64 0)] [(6,.box [a0n G.lo shSave.first,hks G.lo shSave.chg]),(10,.box [a0n G.lo shPrune.first,hks G.lo shPrune.chg])]) (a2a [(6,some 6),(10,some 10)]) ?_
 exact h
theorem f8y {G:Gh} {lo:Nat} (hG:G.n=168) (hOw:G.ow=fun _=>false) (hNm:G.nm=[]) :
  SemL Tryz.prog G ((a4x (Tryz.f9.body.getD .skip)).drop 13) (St.of [(12,a0n G.lo a6z),(13,i64 0),(14,a0n G.lo a8q),(15,i64 0),(16,a0n G.lo c9k),(17,i64 0),(18,a0n G.lo a8i),(19,i64 0),(20,a0n G.lo lXB),(21,i64 0)] []) (a2i Tryz.prog lo [.tmp 0] (bl true)):=by
 refine a1a 2 _ _ ?_
 simp only [Tryz.f9,Option.getD_some,a3e,a1w,a2q,a2h,a3d,List.singleton_append,List.cons_append,List.nil_append,List.drop_succ_cons,List.drop_zero]
 simp only [go_sem,hG,hOw]
 try (repeat' with_reducible first|refine And.intro ?_ ?_|intro _|refine exP ?_ ?_);all_goals try omega
 refine a0a (c8s a6z) ?_
 simp (maxSteps:=2000000) only [go_sem,hG,hOw,Nat.reduceMul]
 try (repeat' with_reducible first|refine And.intro ?_ ?_|intro _|refine exP ?_ ?_);all_goals try omega
 refine a0a (c8s a8q) ?_
 simp (maxSteps:=2000000) only [go_sem,hG,hOw,Nat.reduceMul]
 try (repeat' with_reducible first|refine And.intro ?_ ?_|intro _|refine exP ?_ ?_);all_goals try omega
 refine a0a (c8s c9k) ?_
 simp (maxSteps:=2000000) only [go_sem,hG,hOw,Nat.reduceMul]
 try (repeat' with_reducible first|refine And.intro ?_ ?_|intro _|refine exP ?_ ?_);all_goals try omega
 refine a0a (c8s a8i) ?_
 simp (maxSteps:=2000000) only [go_sem,hG,hOw,Nat.reduceMul]
 try (repeat' with_reducible first|refine And.intro ?_ ?_|intro _|refine exP ?_ ?_);all_goals try omega
 refine a0a (c8s lXB) ?_
 simp (maxSteps:=2000000) only [go_sem,hG,hOw,Nat.reduceMul]
 try (repeat' with_reducible first|refine And.intro ?_ ?_|intro _|refine exP ?_ ?_);all_goals try omega
theorem f9a {G:Gh} {lo:Nat} (hG:G.n=168) (hOw:G.ow=fun _=>false) (hNm:G.nm=[]) (h:SemL Tryz.prog G ((a4x (Tryz.f9.body.getD .skip)).drop 13) (St.of [(12,a0n G.lo a6z),(13,i64 0),(14,a0n G.lo a8q),(15,i64 0),(16,a0n G.lo c9k),(17,i64 0),(18,a0n G.lo a8i),(19,i64 0),(20,a0n G.lo lXB),(21,i64 0)] []) (a2i Tryz.prog lo [.tmp 0] (bl true))) :
  SemL Tryz.prog G ((a4x (Tryz.f9.body.getD .skip)).drop 11) (St.of [(1,str sWr),(2,i64 0),(3,a0n G.lo lAb),(4,i64 6),(5,i64 0),(6,.ptr 6 0),(7,i64 0),(8,a0n G.lo a5f),(9,i64 0),(10,.ptr 10 0),(11,i64 0),(12,a0n G.lo a6z),(13,i64 0),(14,a0n G.lo a8q),(15,i64 0),(16,a0n G.lo c9k),(17,i64 0),(18,a0n G.lo a8i),(19,i64 0),(20,a0n G.lo lXB),(21,i64 0)] [(6,.box [a0n G.lo shSave.first,hks G.lo shSave.chg]),(10,.box [a0n G.lo shPrune.first,hks G.lo shPrune.chg])]) (a2i Tryz.prog lo [.tmp 0] (bl true)):=by
 have hln:shelfS.chg.length=2:=rfl
 have hs:decide (sWr=⟨#[97,98,32,115,103,10,98,32,101,97,10]⟩)=true:=by decide
 refine a1a 2 _ _ ?_
 simp only [Tryz.f9,Option.getD_some,a3e,a1w,a2q,a2h,a3d,List.singleton_append,List.cons_append,List.nil_append,List.drop_succ_cons,List.drop_zero]
 simp only [go_sem,hG,hOw]
 try (repeat' with_reducible first|refine And.intro ?_ ?_|intro _|refine exP ?_ ?_);all_goals try omega
 refine a0s mixed (by kernel_rfl) ?_
 simp (maxSteps:=2000000) only [go_sem,hG,hOw,Nat.reduceMul,hs,hln]
 try (repeat' with_reducible first|refine And.intro ?_ ?_|intro _|refine exP ?_ ?_);all_goals try omega
 refine ⟨_,a0d (c8s lAb),?_⟩
 simp (maxSteps:=2000000) only [go_sem,hG,hOw,Nat.reduceMul,hs,hln]
 try (repeat' with_reducible first|refine And.intro ?_ ?_|intro _|refine exP ?_ ?_);all_goals try omega
 refine ⟨_,a0d (a7d _ _ _),?_⟩
 simp (maxSteps:=2000000) only [go_sem,hG,hOw,Nat.reduceMul,hs,hln]
 try (repeat' with_reducible first|refine And.intro ?_ ?_|intro _|refine exP ?_ ?_);all_goals try omega
 refine ⟨_,a0d b4e,?_⟩
 simp (maxSteps:=2000000) only [go_sem,hG,hOw,Nat.reduceMul,hs,hln]
 try (repeat' with_reducible first|refine And.intro ?_ ?_|intro _|refine exP ?_ ?_);all_goals try omega
 refine ⟨_,b5e (e9k shSave) (.cons (d0v _ shSave) (.cons (d0v _ shSave) .nil)) (by first|rfl|simp [b0t,b4l,pureV,pure0, *]),?_⟩
 simp (maxSteps:=2000000) only [go_sem,hG,hOw,Nat.reduceMul,hs,hln]
 try (repeat' with_reducible first|refine And.intro ?_ ?_|intro _|refine exP ?_ ?_);all_goals try omega
 refine ⟨_,a0d (c8s a5f),?_⟩
 simp (maxSteps:=2000000) only [go_sem,hG,hOw,Nat.reduceMul,hs,hln]
 try (repeat' with_reducible first|refine And.intro ?_ ?_|intro _|refine exP ?_ ?_);all_goals try omega
 refine ⟨_,a0d (a7d _ _ _),?_⟩
 simp (maxSteps:=2000000) only [go_sem,hG,hOw,Nat.reduceMul,hs,hln]
 try (repeat' with_reducible first|refine And.intro ?_ ?_|intro _|refine exP ?_ ?_);all_goals try omega
 refine ⟨_,a0d b4e,?_⟩
 simp (maxSteps:=2000000) only [go_sem,hG,hOw,Nat.reduceMul,hs,hln]
 try (repeat' with_reducible first|refine And.intro ?_ ?_|intro _|refine exP ?_ ?_);all_goals try omega
 refine ⟨_,b5e (e9k shPrune) (.cons (d0v _ shPrune) (.cons (d0v _ shPrune) .nil)) (by first|rfl|simp [b0t,b4l,pureV,pure0, *]),?_⟩
 simp (maxSteps:=2000000) only [go_sem,hG,hOw,Nat.reduceMul,hs,hln]
 try (repeat' with_reducible first|refine And.intro ?_ ?_|intro _|refine exP ?_ ?_);all_goals try omega
 refine a2r (s':=St.of [(12,a0n G.lo a6z),(13,i64 0),(14,a0n G.lo a8q),(15,i64 0),(16,a0n G.lo c9k),(17,i64 0),(18,a0n G.lo a8i),(19,i64 0),(20,a0n G.lo lXB),(21,i64 0)] []) (a1j (by (simp only [go_sem])<;>simp) hNm) ?_
 exact h
theorem e6u:a0o Tryz.prog 9 [] (fun _=>bl true):=by
 refine b6y (fun _=>false) Tryz.func9 Tryz.ntmps9 rfl (by kernel_rfl) (by simp) rfl (by decide) fun G hG hOw hNm hZ hB=>?_
 refine a1a 1 _ _ ?_
 simp only [go_sem,hG,hOw]
 refine a2r (s':=St.of [] []) (a1j (by (simp only [go_sem])<;>simp) hNm) ?_
 refine g0h hG hOw hNm ?_
 refine g2p hG hOw hNm ?_
 refine g2m hG hOw hNm ?_
 refine g1s hG hOw hNm ?_
 refine g0x hG hOw hNm ?_
 refine g0m hG hOw hNm ?_
 refine g1l hG hOw hNm ?_
 refine g2h hG hOw hNm ?_
 refine g2j hG hOw hNm ?_
 refine f5x hG hOw hNm ?_
 refine f9a hG hOw hNm ?_
 exact f8y hG hOw hNm
open Go Pm
set_option maxHeartbeats 4000000
set_option maxRecDepth 100000
theorem d3t {c:Cp} (h:b5w c=false):c.rds.length≤30∧∀ r ∈ c.rds,r.word.size≤40:=by
 simp only [b5w,Bool.or_eq_false_iff,decide_eq_false_iff_not,List.any_eq_false,decide_eq_true_eq] at h
 exact ⟨by omega,fun r hr=>by have:=h.2 r hr;omega⟩
theorem d8q {l:List ByteArray} (h:a0z l=true) (hn:l.length≤180):∃ B,a0o Tryz.prog 14 [a0n 0 l] (fun _=>.tup [.v (.string B),i64 0])∧a0o Tryz.prog 15 [.v (.string B)] (fun n=>.tup [a0n n l,i64 B.size,i64 0]):=by
 obtain ⟨e1,e2,e3,e4⟩:=g0q h (f9f h hn)
 refine ⟨wrS l,?_,?_⟩
 ·have:=d0r l
  rw [e4] at this
  exact this
 ·have:=d7j (wrS l)
  rw [e1,e2,e3] at this
  exact this
theorem g1i (t:List Ch) (c:Cp) (hok:OKt t) (ht:a1r t=true) (hcb:a3u t c=true) {G:Gh} {lo:Nat} (hG:G.n=141) (hOw:G.ow=fun _=>false) (hNm:G.nm=[]) :
  SemL Tryz.prog G ((a4x (Tryz.f3.body.getD .skip)).drop 12) (St.of [(2,.ptr 2 0),(3,.ptr 3 0),(5,bl true),(13,.ptr 13 0)] [(2,.box [chs 0 t]),(3,.box (cpC 0 c)),(13,.box [chs 0 t])]) (a2i Tryz.prog lo [.tmp 4] (bl true)):=by
 obtain ⟨r1,r2⟩:=c3q ht hcb
 obtain ⟨B,cW,cR⟩:=d8q r1 (by omega)
 have hE:a6a t c=0:=by unfold a6a;rw [ht,hcb];rfl
 have cO:=c3y t c
 rw [hE,if_pos rfl] at cO
 have cT:=d7c t (a3g c)
 rw [d5r ht hcb] at cT
 obtain ⟨L,hL⟩:∃ L,L=a3g c:=⟨_,rfl⟩
 rw [← hL] at cW cR cO cT
 have hcl:c.rds.length≤1000:=by have:=(c1m ht hcb).2.1;omega
 refine a1a 6 _ _ ?_
 simp only [Tryz.f3,Option.getD_some,a3e,a1w,a2q,a2h,a3d,List.singleton_append,List.cons_append,List.nil_append,List.drop_succ_cons,List.drop_zero]
 simp only [go_sem,hG,hOw]
 refine a0a cO ?_
 simp only [go_sem,hG,hOw]
 refine a0a cW ?_
 simp only [go_sem,hG,hOw]
 refine a0a cR ?_
 simp only [go_sem,hG,hOw]
 refine a0a cT ?_
 simp only [go_sem,hG,hOw]
 refine a0a (c7t c c hcl) ?_
 rw [decide_eq_true (rfl:c=c)]
 simp only [go_sem,hG,hOw]
theorem g2n (t:List Ch) (c:Cp) (hok:OKt t) (ht:a1r t=true) {G:Gh} {lo:Nat} (hG:G.n=141) (hOw:G.ow=fun _=>false) (hNm:G.nm=[]) :
  SemL Tryz.prog G ((a4x (Tryz.f3.body.getD .skip)).drop 10) (St.of [(2,.ptr 2 0),(3,.ptr 3 0),(5,bl true),(13,.ptr 13 0)] [(2,.box [chs 0 t]),(3,.box (cpC 0 c)),(13,.box [chs 0 t])]) (a2i Tryz.prog lo [.tmp 4] (bl true)):=by
 refine a1a 2 _ _ ?_
 simp only [Tryz.f3,Option.getD_some,a3e,a1w,a2q,a2h,a3d,List.singleton_append,List.cons_append,List.nil_append,List.drop_succ_cons,List.drop_zero]
 simp only [go_sem,hG,hOw]
 refine a0a (c2k c) ?_
 cases hC:b5w c with
 |true =>
  simp (maxSteps:=2000000) only [go_sem,hG,hOw,hC]
  try (repeat' with_reducible first|refine And.intro ?_ ?_|intro _|refine exP ?_ ?_);all_goals try omega
 |false =>
 obtain ⟨hc1,hc2⟩:=d3t hC
 simp (maxSteps:=2000000) only [go_sem,hG,hOw,hC]
 try (repeat' with_reducible first|refine And.intro ?_ ?_|intro _|refine exP ?_ ?_);all_goals try omega
 refine a0a (e7p t ht c (by omega) (fun r hr=>by have:=hc2 r hr;omega)) ?_
 cases hB:a3u t c with
 |false =>
  simp (maxSteps:=2000000) only [go_sem,hG,hOw,hB]
  try (repeat' with_reducible first|refine And.intro ?_ ?_|intro _|refine exP ?_ ?_);all_goals try omega
 |true =>
 simp (maxSteps:=2000000) only [go_sem,hG,hOw,hB]
 try (repeat' with_reducible first|refine And.intro ?_ ?_|intro _|refine exP ?_ ?_);all_goals try omega
 refine a2r (s':=(St.of [(2,.ptr 2 0),(3,.ptr 3 0),(5,bl true),(13,.ptr 13 0)] [(2,.box [chs 0 t]),(3,.box (cpC 0 c)),(13,.box [chs 0 t])])) (a2a [(2,some 2),(3,some 3),(13,some 13)]) ?_
 exact g1i t c hok ht hB hG hOw hNm
theorem g0s (t:List Ch) (c:Cp) (hok:OKt t) (ht:a1r t=true) {G:Gh} {lo:Nat} (hG:G.n=141) (hOw:G.ow=fun _=>false) (hNm:G.nm=[]) :
  SemL Tryz.prog G ((a4x (Tryz.f3.body.getD .skip)).drop 4) (St.of [(2,.ptr 2 0),(3,.ptr 3 0),(5,bl true)] [(2,.box [chs 0 t]),(3,.box (cpC 0 c))]) (a2i Tryz.prog lo [.tmp 4] (bl true)):=by
 obtain ⟨r1,r2⟩:=c4v ht
 obtain ⟨B,cW,cR⟩:=d8q r1 (by omega)
 have cO:=c4o t
 rw [ht] at cO
 simp only [if_true] at cO
 have cT:=e1v (a2c t)
 rw [e1w ht] at cT
 obtain ⟨L,hL⟩:∃ L,L=a2c t:=⟨_,rfl⟩
 rw [← hL] at cW cR cO cT
 refine a1a 6 _ _ ?_
 simp only [Tryz.f3,Option.getD_some,a3e,a1w,a2q,a2h,a3d,List.singleton_append,List.cons_append,List.nil_append,List.drop_succ_cons,List.drop_zero]
 simp only [go_sem,hG,hOw]
 refine a0a cO ?_
 simp only [go_sem,hG,hOw]
 refine a0a cW ?_
 simp only [go_sem,hG,hOw]
 refine a0a cR ?_
 simp only [go_sem,hG,hOw]
 refine a0a cT ?_
 simp only [go_sem,hG,hOw]
 refine a0a (e3k t t hok) ?_
 rw [decide_eq_true (rfl:t=t)]
 simp only [go_sem,hG,hOw]
 try (repeat' with_reducible first|refine And.intro ?_ ?_|intro _|refine exP ?_ ?_);all_goals try omega
 refine a2r (s':=(St.of [(2,.ptr 2 0),(3,.ptr 3 0),(5,bl true),(13,.ptr 13 0)] [(2,.box [chs 0 t]),(3,.box (cpC 0 c)),(13,.box [chs 0 t])])) (a2a [(2,some 2),(3,some 3),(13,some 13)]) ?_
 exact g2n t c hok ht hG hOw hNm
theorem c0z (t:List Ch) (c:Cp):a0o Tryz.prog 3 [txE 0 t,cpE 0 c] (fun _=>bl true):=by
 refine b6y (fun _=>false) Tryz.func3 Tryz.ntmps3 rfl (by kernel_rfl) (by simp) rfl (by decide) fun G hG hOw hNm hZ hB=>?_
 refine a1a 4 _ _ ?_
 simp only [go_sem,hG,hOw]
 refine a0a e6u ?_
 simp only [go_sem,hG,hOw]
 refine a0a (d2s t) ?_
 cases hT:b2f t with
 |true =>
  simp (maxSteps:=2000000) only [go_sem,hG,hOw,hT]
  try (repeat' with_reducible first|refine And.intro ?_ ?_|intro _|refine exP ?_ ?_);all_goals try omega
 |false =>
 have hok:=e2f hT
 simp (maxSteps:=2000000) only [go_sem,hG,hOw,hT]
 try (repeat' with_reducible first|refine And.intro ?_ ?_|intro _|refine exP ?_ ?_);all_goals try omega
 refine a0a (a4j t) ?_
 cases ht:a1r t with
 |false =>
  simp (maxSteps:=2000000) only [go_sem,hG,hOw,ht]
  try (repeat' with_reducible first|refine And.intro ?_ ?_|intro _|refine exP ?_ ?_);all_goals try omega
 |true =>
 simp (maxSteps:=2000000) only [go_sem,hG,hOw,ht]
 try (repeat' with_reducible first|refine And.intro ?_ ?_|intro _|refine exP ?_ ?_);all_goals try omega
 refine a0a (f2i t hok) ?_
 simp (maxSteps:=2000000) only [go_sem,hG,hOw,ht]
 try (repeat' with_reducible first|refine And.intro ?_ ?_|intro _|refine exP ?_ ?_);all_goals try omega
 refine a2r (s':=(St.of [(2,.ptr 2 0),(3,.ptr 3 0),(5,bl true)] [(2,.box [chs 0 t]),(3,.box (cpC 0 c))])) (a2a [(2,some 2),(3,some 3)]) ?_
 exact g0s t c hok ht hG hOw hNm
end Go.Proofs.YtmjhfccbbfpppaaGreatDoor
