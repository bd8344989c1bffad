import Derived.KernelRfl
import Derived.Test.YtmjhfccbbfpppaaGreatDoorQB15
import Derived.Test.YtmjhfccbbfpppaaGreatDoorQB16
import Derived.Test.YtmjhfccbbfpppaaGreatDoorQB20
import Derived.Test.YtmjhfccbbfpppaaGreatDoorQB25
import Derived.Test.YtmjhfccbbfpppaaGreatDoorQB26
import Derived.Test.YtmjhfccbbfpppaaGreatDoorQB27
import Derived.Test.YtmjhfccbbfpppaaGreatDoorQB28
import Derived.Test.YtmjhfccbbfpppaaGreatDoorQB30
import Derived.Test.YtmjhfccbbfpppaaGreatDoorQB33
import Derived.Test.YtmjhfccbbfpppaaGreatDoorQB34
import Derived.Test.YtmjhfccbbfpppaaGreatDoorQB35
import Derived.Test.YtmjhfccbbfpppaaGreatDoorQB36
import Derived.Test.YtmjhfccbbfpppaaGreatDoorQB37
import Derived.Test.YtmjhfccbbfpppaaGreatDoorQB43
import Derived.Test.YtmjhfccbbfpppaaGreatDoorQB50
namespace Go.Proofs.YtmjhfccbbfpppaaGreatDoor
open Go Pm
set_option maxRecDepth 100000
def d3v:List Ch:=[⟨7,[[⟨#[116,104,101]⟩,⟨#[115,101,97]⟩,⟨#[105,115]⟩,⟨#[111,108,100]⟩],[⟨#[111,108,100]⟩,⟨#[116,104,101]⟩,⟨#[115,101,97]⟩]]⟩,⟨3,[[⟨#[115,101,97]⟩,⟨#[97,110,100]⟩,⟨#[115,101,97]⟩]]⟩]
def c8c:Cp:=⟨4,[⟨0,0,3,3,⟨#[99,111,108,100]⟩⟩,⟨0,1,1,1,⟨#[]⟩⟩,⟨1,0,3,2,⟨#[115,97,108,116]⟩⟩]⟩
def lexX:Lx:=⟨[⟨⟨#[115]⟩,⟨#[]⟩,2⟩,⟨⟨#[108,100]⟩,⟨#[108,100,101]⟩,1⟩],[⟨1,1,⟨#[115,101,97]⟩,0,0,0,⟨#[115,101,97]⟩,1,0⟩,⟨2,2,⟨#[111,108,100]⟩,0,1,0,⟨#[97,103,101]⟩,3,0⟩,⟨3,3,⟨#[]⟩,1,0,2,⟨#[115,101,101]⟩,2,0⟩,⟨5,4,⟨#[]⟩,0,0,0,⟨#[]⟩,0,3⟩]⟩
def shelfS:Sh:=⟨[⟨#[97,98]⟩,⟨#[98]⟩],[⟨1,0,[⟨#[99]⟩]⟩,⟨0,1,[]⟩]⟩
def slipsL:List Si:=[⟨0,0,2,⟨#[105,115]⟩,⟨#[115,101,97]⟩,⟨#[111,108,100,32,111,108,100]⟩⟩]
open Go Pm
set_option linter.unusedSimpArgs false
set_option linter.unusedVariables false
theorem g5b:a1q 0=⟨#[48]⟩:=by unfold a1q;rw [show Lib.itoa 0=Lib.decDigits 0 from a4n 0,Lib.decDigits_one (by decide)];rfl
theorem g4n:a1q 1=⟨#[49]⟩:=by unfold a1q;rw [show Lib.itoa 1=Lib.decDigits 1 from a4n 1,Lib.decDigits_one (by decide)];rfl
theorem g4x:a1q 2=⟨#[50]⟩:=by unfold a1q;rw [show Lib.itoa 2=Lib.decDigits 2 from a4n 2,Lib.decDigits_one (by decide)];rfl
theorem g4w:a1q 3=⟨#[51]⟩:=by unfold a1q;rw [show Lib.itoa 3=Lib.decDigits 3 from a4n 3,Lib.decDigits_one (by decide)];rfl
theorem g4p:a1q 4=⟨#[52]⟩:=by unfold a1q;rw [show Lib.itoa 4=Lib.decDigits 4 from a4n 4,Lib.decDigits_one (by decide)];rfl
theorem g4k:a1q 5=⟨#[53]⟩:=by unfold a1q;rw [show Lib.itoa 5=Lib.decDigits 5 from a4n 5,Lib.decDigits_one (by decide)];rfl
theorem g4v:a1q 6=⟨#[54]⟩:=by unfold a1q;rw [show Lib.itoa 6=Lib.decDigits 6 from a4n 6,Lib.decDigits_one (by decide)];rfl
theorem g5d:a1q 7=⟨#[55]⟩:=by unfold a1q;rw [show Lib.itoa 7=Lib.decDigits 7 from a4n 7,Lib.decDigits_one (by decide)];rfl
theorem al_wr:wrS [⟨#[97,98]⟩,⟨#[98]⟩]=⟨#[97,98,32,115,103,10,98,32,101,97,10]⟩∧wrE [⟨#[97,98]⟩,⟨#[98]⟩]=0:=⟨by kernel_rfl,by kernel_rfl⟩
theorem al_rd:rdL ⟨#[97,98,32,115,103,10,98,32,101,97]⟩=[⟨#[97,98]⟩]∧rdN ⟨#[97,98,32,115,103,10,98,32,101,97]⟩=6∧c9s ⟨#[97,98,32,115,103,10,98,32,101,97]⟩=0:=⟨by kernel_rfl,by kernel_rfl,by kernel_rfl⟩
theorem al_save:c5t ⟨[⟨#[97,98]⟩,⟨#[98]⟩],[]⟩ [⟨#[97,98]⟩,⟨#[99]⟩,⟨#[98]⟩]=⟨[⟨#[97,98]⟩,⟨#[98]⟩],[⟨1,0,[⟨#[99]⟩]⟩]⟩∧b4t ⟨[⟨#[97,98]⟩,⟨#[98]⟩],[]⟩ [⟨#[97,98]⟩,⟨#[99]⟩,⟨#[98]⟩]=0:=⟨by kernel_rfl,by kernel_rfl⟩
theorem al_back:b7j shelfS 1=[⟨#[97,98]⟩,⟨#[99]⟩,⟨#[98]⟩]∧a6q shelfS 1=0:=⟨by kernel_rfl,by kernel_rfl⟩
theorem f0v:b5t shelfS 1=⟨[⟨#[97,98]⟩,⟨#[99]⟩,⟨#[98]⟩],[⟨0,1,[]⟩]⟩:=by kernel_rfl
theorem f7s:a1s d3v=true:=by kernel_rfl
theorem f5c:b0d d3v c8c=0:=by kernel_rfl
theorem g1n:a4w d3v lexX=0:=by kernel_rfl
theorem e9l:slipsL.all b4v=true:=by kernel_rfl
theorem al_merge:a5f [⟨#[97]⟩,⟨#[98]⟩,⟨#[99]⟩] [⟨#[120]⟩,⟨#[98]⟩,⟨#[99]⟩] [⟨#[97]⟩,⟨#[98]⟩]=[⟨#[120]⟩,⟨#[98]⟩]∧a3l [⟨#[97]⟩,⟨#[98]⟩,⟨#[99]⟩] [⟨#[120]⟩,⟨#[98]⟩,⟨#[99]⟩] [⟨#[97]⟩,⟨#[98]⟩]=0:=⟨by kernel_rfl,by kernel_rfl⟩
theorem d8w:a3i d3v=[⟨#[99,104,97,112,116,101,114,32,55]⟩,⟨#[108,105,110,101,32,116,104,101,32,115,101,97,32,105,115,32,111,108,100]⟩,⟨#[108,105,110,101,32,111,108,100,32,116,104,101,32,115,101,97]⟩,⟨#[99,104,97,112,116,101,114,32,51]⟩,⟨#[108,105,110,101,32,115,101,97,32,97,110,100,32,115,101,97]⟩]:=by simp only [a3i,d3v,List.flatMap_cons,List.flatMap_nil,f1s,List.map_cons,List.map_nil,g5b,g4n,g4x,g4w,g4p,g4k,g4v,g5d];kernel_rfl
theorem e3x:a7k c8c=[⟨#[99,111,112,121,32,52]⟩,⟨#[111,116,104,101,114,32,48,32,48,32,51,32,99,111,108,100]⟩,⟨#[111,109,105,116,32,48,32,49,32,49]⟩,⟨#[112,117,116,32,49,32,48,32,51,32,115,97,108,116]⟩]:=by simp only [a7k,c8c,List.map_cons,List.map_nil,c7a,atS,g5b,g4n,g4x,g4w,g4p,g4k,g4v,g5d];kernel_rfl
theorem e6e:a5d lexX=[⟨#[99,117,116,32,115,32,50]⟩,⟨#[99,117,116,32,108,100,32,108,100,101,32,49]⟩,⟨#[102,111,114,109,32,49,32,115,101,97,32,115,101,97,32,49]⟩,⟨#[102,114,111,109,32,50,32,48,32,49,32,48,32,111,108,100,32,97,103,101,32,51]⟩,⟨#[112,108,97,99,101,32,51,32,49,32,48,32,50,32,115,101,101,32,50]⟩,⟨#[118,111,105,100,32,53,32,51]⟩]:=by simp only [a5d,lexX,List.map_cons,List.map_nil,a6h,a8h,fmP,c3m,atS,g5b,g4n,g4x,g4w,g4p,g4k,g4v,g5d];kernel_rfl
theorem d3d:a2k slipsL=[⟨#[115,108,105,112,32,48,32,48,32,50,32,105,115]⟩,⟨#[98,101,102,111,114,101,32,115,101,97]⟩,⟨#[97,102,116,101,114,32,111,108,100,32,111,108,100]⟩]:=by simp only [a2k,slipsL,List.flatMap_cons,List.flatMap_nil,c8i,f6d,e9r,atS,g5b,g4n,g4x,g4w,g4p,g4k,g4v,g5d];kernel_rfl
theorem c7r:a5a slipsL=([⟨#[115,108,105,112,32,48,32,48,32,50,32,105,115]⟩,⟨#[98,101,102,111,114,101,32,115,101,97]⟩,⟨#[97,102,116,101,114,32,111,108,100,32,111,108,100]⟩],0):=by unfold a5a;rw [if_pos e9l,d3d];rfl
open Go Pm
set_option maxHeartbeats 4000000
theorem a7g (lo sz:Nat) (rows:List (List V)):a0l Tryz.prog 34 [.lst lo sz rows] (fun _=>.lst lo sz rows):=by
 refine a0b (ow:=fun _=>false) Tryz.func34 Tryz.ntmps34 rfl rfl fun G hG hOw hNm hB=>?_;simp only [go_sem,hG,hOw]
theorem c0l (a b c:Int):a0l Tryz.prog 41 [i64 a,i64 b,i64 c] (fun _=>.agg [i64 a,i64 b,i64 c]):=by
 refine a0b (ow:=fun _=>false) Tryz.func41 Tryz.ntmps41 rfl rfl fun G hG hOw hNm hB=>?_;simp only [go_sem,hG,hOw]
theorem e2n:a0l Tryz.prog 38 [] (fun n=>txE n d3v):=by
 refine a0b (ow:=fun _=>false) Tryz.func38 Tryz.ntmps38 rfl rfl fun G hG hOw hNm hB=>?_;simp only [go_sem,hG,hOw]
 try (repeat' with_reducible first|apply And.intro|refine exP ?_ ?_|intro);all_goals try omega
 exact .refl _
theorem b5d:a0l Tryz.prog 35 [] (fun n=>shE n shelfS):=by
 refine a0b (ow:=fun _=>false) Tryz.func35 Tryz.ntmps35 rfl rfl fun G hG hOw hNm hB=>?_;simp only [go_sem,hG,hOw]
 try (repeat' with_reducible first|apply And.intro|refine exP ?_ ?_|intro);all_goals try omega
 refine a1p (a7g _ _ _) (Subs.refl _) rfl (by simp [chk,hG]) ?_
 simp only [go_sem,hG,hOw]
 try (repeat' with_reducible first|apply And.intro|refine exP ?_ ?_|intro);all_goals try omega
 refine a1p (a7g _ _ _) (Subs.refl _) rfl (by simp [chk,hG]) ?_
 simp only [go_sem,hG,hOw]
 try (repeat' with_reducible first|apply And.intro|refine exP ?_ ?_|intro);all_goals try omega
 refine Subs.agg (.cons (.refl _) (.cons (Sub.lst (Nat.le_refl _) rfl fun i x x' h1 h2=>?_) .nil))
 match i with
 |0=>simp at h1;subst h1;simp [shelfS] at h2;subst h2;exact Subs.refl _
 |1=>simp at h1;subst h1;simp [shelfS] at h2;subst h2;exact .cons (.refl _) (.cons (.refl _) (.cons (.nil _ _) .nil))
 |i+2=>simp at h1
theorem f5l:a0l Tryz.prog 54 [] (fun n=>cpE n c8c):=by
 refine a0b (ow:=fun _=>false) Tryz.func54 Tryz.ntmps54 rfl rfl fun G hG hOw hNm hB=>?_;simp only [go_sem,hG,hOw]
 try (repeat' with_reducible first|apply And.intro|refine exP ?_ ?_|intro);all_goals try omega
 refine a1p (c0l _ _ _) (Subs.refl _) rfl (by simp [chk,hG]) ?_
 simp (maxSteps:=2000000) only [go_sem,hG,hOw,Nat.reduceMul]
 try (repeat' with_reducible first|apply And.intro|refine exP ?_ ?_|intro);all_goals try omega
 refine a1p (c0l _ _ _) (Subs.refl _) rfl (by simp [chk,hG]) ?_
 simp (maxSteps:=2000000) only [go_sem,hG,hOw,Nat.reduceMul]
 try (repeat' with_reducible first|apply And.intro|refine exP ?_ ?_|intro);all_goals try omega
 refine a1p (c0l _ _ _) (Subs.refl _) rfl (by simp [chk,hG]) ?_
 simp (maxSteps:=2000000) only [go_sem,hG,hOw,Nat.reduceMul]
 try (repeat' with_reducible first|apply And.intro|refine exP ?_ ?_|intro);all_goals try omega
 exact .refl _
theorem d6b:a0l Tryz.prog 55 [] (fun n=>lxE n lexX):=by
 refine a0b (ow:=fun _=>false) Tryz.func55 Tryz.ntmps55 rfl rfl fun G hG hOw hNm hB=>?_;simp only [go_sem,hG,hOw]
 try (repeat' with_reducible first|apply And.intro|refine exP ?_ ?_|intro);all_goals try omega
 refine a1p (c0l _ _ _) (Subs.refl _) rfl (by simp [chk,hG]) ?_
 simp (maxSteps:=2000000) only [go_sem,hG,hOw,Nat.reduceMul]
 try (repeat' with_reducible first|apply And.intro|refine exP ?_ ?_|intro);all_goals try omega
 refine a1p (c0l _ _ _) (Subs.refl _) rfl (by simp [chk,hG]) ?_
 simp (maxSteps:=2000000) only [go_sem,hG,hOw,Nat.reduceMul]
 try (repeat' with_reducible first|apply And.intro|refine exP ?_ ?_|intro);all_goals try omega
 exact .refl _
theorem f6f (l m:List ByteArray) (e:Int):a0l Tryz.prog 56 [a0q 0 l,i64 e,a0q 0 m] (fun _=>bl (decide (e=0) && decide (l=m))):=by
 by_cases he:e=0
 ·subst he
  refine a0b (ow:=fun _=>false) Tryz.func56 Tryz.ntmps56 rfl rfl fun G hG hOw hNm hB=>?_;simp only [go_sem,hG,hOw]
  (repeat' with_reducible first|apply And.intro|refine exP ?_ ?_|intro);all_goals try omega
  refine a0a (a8i _ _) ?_
  simp only [go_sem,hG,hOw]
  try (repeat' with_reducible first|apply And.intro|refine exP ?_ ?_|intro);all_goals try omega
  try simp
 ·rw [decide_eq_false he,Bool.false_and]
  refine a0b (ow:=fun _=>false) Tryz.func56 Tryz.ntmps56 rfl rfl fun G hG hOw hNm hB=>?_;simp only [go_sem,hG,hOw]
  simp (maxSteps:=2000000) only [go_sem,hG,hOw,decide_eq_false he]
  try (repeat' with_reducible first|apply And.intro|refine exP ?_ ?_|intro);all_goals try omega
open Go Pm
def f9q:List ByteArray:=[⟨#[97,98]⟩,⟨#[98]⟩]
def lAb:List ByteArray:=[⟨#[97,98]⟩]
def a5c:List ByteArray:=[⟨#[97,98]⟩,⟨#[99]⟩,⟨#[98]⟩]
def lC:List ByteArray:=[⟨#[99]⟩]
def a7d:List ByteArray:=[⟨#[99,111,112,121,32,52]⟩,⟨#[111,116,104,101,114,32,48,32,48,32,51,32,99,111,108,100]⟩,⟨#[111,109,105,116,32,48,32,49,32,49]⟩,⟨#[112,117,116,32,49,32,48,32,51,32,115,97,108,116]⟩]
def a9g:List ByteArray:=[⟨#[99,104,97,112,116,101,114,32,55]⟩,⟨#[108,105,110,101,32,116,104,101,32,115,101,97,32,105,115,32,111,108,100]⟩,⟨#[108,105,110,101,32,111,108,100,32,116,104,101,32,115,101,97]⟩,⟨#[99,104,97,112,116,101,114,32,51]⟩,⟨#[108,105,110,101,32,115,101,97,32,97,110,100,32,115,101,97]⟩]
def c9k:List ByteArray:=[⟨#[99,117,116,32,115,32,50]⟩,⟨#[99,117,116,32,108,100,32,108,100,101,32,49]⟩,⟨#[102,111,114,109,32,49,32,115,101,97,32,115,101,97,32,49]⟩,⟨#[102,114,111,109,32,50,32,48,32,49,32,48,32,111,108,100,32,97,103,101,32,51]⟩,⟨#[112,108,97,99,101,32,51,32,49,32,48,32,50,32,115,101,101,32,50]⟩,⟨#[118,111,105,100,32,53,32,51]⟩]
def a8s:List ByteArray:=[⟨#[115,108,105,112,32,48,32,48,32,50,32,105,115]⟩,⟨#[98,101,102,111,114,101,32,115,101,97]⟩,⟨#[97,102,116,101,114,32,111,108,100,32,111,108,100]⟩]
def g4q:List ByteArray:=[⟨#[97]⟩,⟨#[98]⟩,⟨#[99]⟩]
def g4s:List ByteArray:=[⟨#[120]⟩,⟨#[98]⟩,⟨#[99]⟩]
def lAB:List ByteArray:=[⟨#[97]⟩,⟨#[98]⟩]
def lXB:List ByteArray:=[⟨#[120]⟩,⟨#[98]⟩]
def sWr:ByteArray:=⟨#[97,98,32,115,103,10,98,32,101,97,10]⟩
def sRd:ByteArray:=⟨#[97,98,32,115,103,10,98,32,101,97]⟩
def shSave:Sh:=⟨f9q,[⟨1,0,lC⟩]⟩
def shPrune:Sh:=⟨a5c,[⟨0,1,[]⟩]⟩
def f1j:Sh:=⟨f9q,[]⟩
theorem cWr:a0l Tryz.prog 14 [a0q 0 f9q] (fun n=>.tup [str sWr,i64 0]):=by
 have h:=d1l f9q
 rw [show wrS f9q=sWr from al_wr.1] at h
 rw [show wrE f9q=0 from al_wr.2] at h
 exact h
theorem cRd:a0l Tryz.prog 15 [str sRd] (fun n=>.tup [a0q n lAb,i64 6,i64 0]):=by
 have h:=e0f sRd
 rw [show rdL sRd=lAb from al_rd.1] at h
 rw [show rdN sRd=6 from al_rd.2.1] at h
 rw [show c9s sRd=0 from al_rd.2.2] at h
 exact h
theorem g5q:a0l Tryz.prog 33 [shE 0 f1j,a0q 0 a5c] (fun n=>.tup [shE n shSave,i64 0]):=by
 have h:=f6w f1j a5c (by decide) (by intro c hc;cases hc) (by decide)
 rw [show c5t f1j a5c=shSave from al_save.1] at h
 rw [show b4t f1j a5c=0 from al_save.2] at h
 exact h
theorem g5v:a0l Tryz.prog 39 [shE 0 shelfS,i64 1] (fun n=>.tup [a0q n a5c,i64 0]):=by
 have h:=f4s shelfS 1 (by decide) (by intro c hc;simp only [shelfS,List.mem_cons,List.not_mem_nil,or_false] at hc;rcases hc with rfl|rfl<;>decide)
 rw [show b7j shelfS 1=a5c from al_back.1] at h
 rw [show a6q shelfS 1=0 from al_back.2] at h
 exact h
theorem g2r:a0l Tryz.prog 40 [shE 0 shelfS,i64 1] (fun n=>.tup [shE n shPrune,i64 0]):=by
 have h:=e8n shelfS 1 (by decide) (by intro c hc;simp only [shelfS,List.mem_cons,List.not_mem_nil,or_false] at hc;rcases hc with rfl|rfl<;>decide)
 rw [show b5t shelfS 1=shPrune from f0v] at h
 rw [show a6q shelfS 1=0 from al_back.2] at h
 exact h
theorem g7u:a0l Tryz.prog 20 [txE 0 d3v,cpE 0 c8c] (fun n=>.tup [a0q n a7d,i64 0]):=by
 have h:=e4x d3v c8c
 rw [f5c,if_pos rfl] at h
 rw [show a7k c8c=a7d from e3x] at h
 exact h
theorem g7w:a0l Tryz.prog 13 [txE 0 d3v] (fun n=>.tup [a0q n a9g,i64 0]):=by
 have h:=d9g d3v
 rw [f7s,if_pos rfl,if_pos rfl] at h
 rw [show a3i d3v=a9g from d8w] at h
 exact h
theorem g8r:a0l Tryz.prog 31 [txE 0 d3v,lxE 0 lexX] (fun n=>.tup [a0q n c9k,i64 0]):=by
 have hb:(∀ r ∈ lexX.rules,bdR r)∧(∀ d ∈ lexX.decs,bdD d)∧lexX.rules.length≤1000∧lexX.decs.length≤1000:=by
  refine ⟨?_,?_,by decide,by decide⟩
  ·intro r hr;simp only [lexX,List.mem_cons,List.not_mem_nil,or_false] at hr;rcases hr with rfl|rfl<;>exact ⟨by decide,by decide⟩
  ·intro r hr;simp only [lexX,List.mem_cons,List.not_mem_nil,or_false] at hr;rcases hr with rfl|rfl|rfl|rfl<;>exact ⟨by decide,by decide⟩
 have h:=b4g d3v lexX hb
 rw [g1n,if_pos rfl] at h
 rw [show a5d lexX=c9k from e6e] at h
 exact h
theorem g1p:a0l Tryz.prog 29 [sis 0 slipsL] (fun n=>.tup [a0q n a8s,i64 0]):=by
 have h:=d4s slipsL (by decide) (by intro r hr;simp only [slipsL,List.mem_cons,List.not_mem_nil,or_false] at hr;subst hr;exact ⟨by decide,by decide,by decide⟩)
 rw [show a5a slipsL=(a8s,0) from c7r] at h
 exact h
theorem f9x:a0l Tryz.prog 37 [a0q 0 g4q,a0q 0 g4s,a0q 0 lAB] (fun n=>.tup [a0q n lXB,i64 0]):=by
 have h:=f1a g4q g4s lAB (by decide) (by decide) (by decide)
 rw [show a5f g4q g4s lAB=lXB from al_merge.1] at h
 rw [show a3l g4q g4s lAB=0 from al_merge.2] at h
 exact h
theorem c9y (l:List ByteArray):a0l Tryz.prog 56 [a0q 0 l,i64 0,a0q 0 l] (fun _=>bl true):=by
 have h:=f6f l l 0
 rw [decide_eq_true (rfl:l=l)] at h
 exact h
theorem f2z (s:Sh):a0l Tryz.prog 36 [shE 0 s,shE 0 s] (fun _=>bl true):=by
 have h:=c5r s s
 rw [decide_eq_true (rfl:s=s)] at h
 exact h
theorem d1j (lo:Nat) (s:Sh):Pm.Sub (.agg [.lst lo 1 (s.first.map a2c),.lst lo 3 (s.chg.map (hkE lo))]) (shE 0 s) :=
 Subs.agg (.cons (.lo (Nat.zero_le _)) (.cons (.map (Nat.zero_le _) fun c=>.cons (.refl _) (.cons (.refl _) (.cons (.lo (Nat.zero_le _)) .nil))) .nil))
open Go Pm
theorem g6y {G:Gh} {lo:Nat} (hG:G.n=168) (hOw:G.ow=fun _=>false) (hNm:G.nm=[]) (h:SemL Tryz.prog G ((a5k (Tryz.f9.body.getD .skip)).drop 2) (St.of [(1,str sWr),(2,i64 0)] []) (a1z Tryz.prog lo [.tmp 0] (bl true))) :
  SemL Tryz.prog G ((a5k (Tryz.f9.body.getD .skip)).drop 1) (St.of [] []) (a1z Tryz.prog lo [.tmp 0] (bl true)):=by
 refine a1j 1 _ _ ?_
 simp only [Tryz.f9,Option.getD_some,a3j,a1y,a2p,a2e,a3h,List.singleton_append,List.cons_append,List.nil_append,List.drop_succ_cons,List.drop_zero]
 simp only [go_sem,hG,hOw]
 try (repeat' with_reducible first|apply And.intro|refine exP ?_ ?_|intro);all_goals try omega
 refine a1p (a7g _ _ _) (Subs.refl _) rfl (by simp [chk,hG]) ?_
 simp (maxSteps:=2000000) only [go_sem,hG,hOw,Nat.reduceMul]
 try (repeat' with_reducible first|apply And.intro|refine exP ?_ ?_|intro);all_goals try omega
 refine a0a cWr ?_
 simp (maxSteps:=2000000) only [go_sem,hG,hOw,Nat.reduceMul]
 try (repeat' with_reducible first|apply And.intro|refine exP ?_ ?_|intro);all_goals try omega
 refine a2v (s':=St.of [(1,str sWr),(2,i64 0)] []) (a0y (by (simp only [go_sem])<;>simp) hNm) ?_
 exact h
theorem g7f {G:Gh} {lo:Nat} (hG:G.n=168) (hOw:G.ow=fun _=>false) (hNm:G.nm=[]) (h:SemL Tryz.prog G ((a5k (Tryz.f9.body.getD .skip)).drop 3) (St.of [(1,str sWr),(2,i64 0),(3,a0q G.lo lAb),(4,i64 6),(5,i64 0)] []) (a1z Tryz.prog lo [.tmp 0] (bl true))) :
  SemL Tryz.prog G ((a5k (Tryz.f9.body.getD .skip)).drop 2) (St.of [(1,str sWr),(2,i64 0)] []) (a1z Tryz.prog lo [.tmp 0] (bl true)):=by
 refine a1j 1 _ _ ?_
 simp only [Tryz.f9,Option.getD_some,a3j,a1y,a2p,a2e,a3h,List.singleton_append,List.cons_append,List.nil_append,List.drop_succ_cons,List.drop_zero]
 simp only [go_sem,hG,hOw]
 try (repeat' with_reducible first|apply And.intro|refine exP ?_ ?_|intro);all_goals try omega
 refine a0a cRd ?_
 simp (maxSteps:=2000000) only [go_sem,hG,hOw,Nat.reduceMul]
 try (repeat' with_reducible first|apply And.intro|refine exP ?_ ?_|intro);all_goals try omega
 refine a2v (s':=St.of [(1,str sWr),(2,i64 0),(3,a0q G.lo lAb),(4,i64 6),(5,i64 0)] []) (a0y (by (simp only [go_sem])<;>simp) hNm) ?_
 exact h
theorem g7g {G:Gh} {lo:Nat} (hG:G.n=168) (hOw:G.ow=fun _=>false) (hNm:G.nm=[]) (h:SemL Tryz.prog G ((a5k (Tryz.f9.body.getD .skip)).drop 4) (St.of [(1,str sWr),(2,i64 0),(3,a0q G.lo lAb),(4,i64 6),(5,i64 0),(6,.ptr 6 0),(7,i64 0)] [(6,.box [a0q G.lo shSave.first,hks G.lo shSave.chg])]) (a1z Tryz.prog lo [.tmp 0] (bl true))) :
  SemL Tryz.prog G ((a5k (Tryz.f9.body.getD .skip)).drop 3) (St.of [(1,str sWr),(2,i64 0),(3,a0q G.lo lAb),(4,i64 6),(5,i64 0)] []) (a1z Tryz.prog lo [.tmp 0] (bl true)):=by
 refine a1j 1 _ _ ?_
 simp only [Tryz.f9,Option.getD_some,a3j,a1y,a2p,a2e,a3h,List.singleton_append,List.cons_append,List.nil_append,List.drop_succ_cons,List.drop_zero]
 simp only [go_sem,hG,hOw]
 try (repeat' with_reducible first|apply And.intro|refine exP ?_ ?_|intro);all_goals try omega
 refine a1p (a7g _ _ _) (Subs.refl _) rfl (by simp [chk,hG]) ?_
 simp (maxSteps:=2000000) only [go_sem,hG,hOw,Nat.reduceMul]
 try (repeat' with_reducible first|apply And.intro|refine exP ?_ ?_|intro);all_goals try omega
 refine a1p (a7g _ _ _) (Subs.refl _) rfl (by simp [chk,hG]) ?_
 simp (maxSteps:=2000000) only [go_sem,hG,hOw,Nat.reduceMul]
 try (repeat' with_reducible first|apply And.intro|refine exP ?_ ?_|intro);all_goals try omega
 refine a1p g5q (Subs.cons (Subs.agg (.cons (.lo (Nat.zero_le _)) (.cons (.nil _ _) .nil))) (.cons (.lo (Nat.zero_le _)) .nil)) rfl (by simp [chk,hG]) ?_
 simp (maxSteps:=2000000) only [go_sem,hG,hOw,Nat.reduceMul]
 try (repeat' with_reducible first|apply And.intro|refine exP ?_ ?_|intro);all_goals try omega
 refine a2v (s':=St.of [(1,str sWr),(2,i64 0),(3,a0q G.lo lAb),(4,i64 6),(5,i64 0),(6,.ptr 6 0),(7,i64 0)] [(6,.box [a0q G.lo shSave.first,hks G.lo shSave.chg])]) (a1m [(6,some 6)]) ?_
 exact h
theorem g7t {G:Gh} {lo:Nat} (hG:G.n=168) (hOw:G.ow=fun _=>false) (hNm:G.nm=[]) (h:SemL Tryz.prog G ((a5k (Tryz.f9.body.getD .skip)).drop 5) (St.of [(1,str sWr),(2,i64 0),(3,a0q G.lo lAb),(4,i64 6),(5,i64 0),(6,.ptr 6 0),(7,i64 0),(8,a0q G.lo a5c),(9,i64 0)] [(6,.box [a0q G.lo shSave.first,hks G.lo shSave.chg])]) (a1z Tryz.prog lo [.tmp 0] (bl true))) :
  SemL Tryz.prog G ((a5k (Tryz.f9.body.getD .skip)).drop 4) (St.of [(1,str sWr),(2,i64 0),(3,a0q G.lo lAb),(4,i64 6),(5,i64 0),(6,.ptr 6 0),(7,i64 0)] [(6,.box [a0q G.lo shSave.first,hks G.lo shSave.chg])]) (a1z Tryz.prog lo [.tmp 0] (bl true)):=by
 refine a1j 1 _ _ ?_
 simp only [Tryz.f9,Option.getD_some,a3j,a1y,a2p,a2e,a3h,List.singleton_append,List.cons_append,List.nil_append,List.drop_succ_cons,List.drop_zero]
 simp only [go_sem,hG,hOw]
 try (repeat' with_reducible first|apply And.intro|refine exP ?_ ?_|intro);all_goals try omega
 refine a0a b5d ?_
 simp (maxSteps:=2000000) only [go_sem,hG,hOw,Nat.reduceMul]
 refine a0a g5v ?_
 simp (maxSteps:=2000000) only [go_sem,hG,hOw,Nat.reduceMul]
 try (repeat' with_reducible first|apply And.intro|refine exP ?_ ?_|intro);all_goals try omega
 refine a2v (s':=St.of [(1,str sWr),(2,i64 0),(3,a0q G.lo lAb),(4,i64 6),(5,i64 0),(6,.ptr 6 0),(7,i64 0),(8,a0q G.lo a5c),(9,i64 0)] [(6,.box [a0q G.lo shSave.first,hks G.lo shSave.chg])]) (a1m [(6,some 6)]) ?_
 exact h
theorem g6e {G:Gh} {lo:Nat} (hG:G.n=168) (hOw:G.ow=fun _=>false) (hNm:G.nm=[]) (h:SemL Tryz.prog G ((a5k (Tryz.f9.body.getD .skip)).drop 6) (St.of [(1,str sWr),(2,i64 0),(3,a0q G.lo lAb),(4,i64 6),(5,i64 0),(6,.ptr 6 0),(7,i64 0),(8,a0q G.lo a5c),(9,i64 0),(10,.ptr 10 0),(11,i64 0)] [(6,.box [a0q G.lo shSave.first,hks G.lo shSave.chg]),(10,.box [a0q G.lo shPrune.first,hks G.lo shPrune.chg])]) (a1z Tryz.prog lo [.tmp 0] (bl true))) :
  SemL Tryz.prog G ((a5k (Tryz.f9.body.getD .skip)).drop 5) (St.of [(1,str sWr),(2,i64 0),(3,a0q G.lo lAb),(4,i64 6),(5,i64 0),(6,.ptr 6 0),(7,i64 0),(8,a0q G.lo a5c),(9,i64 0)] [(6,.box [a0q G.lo shSave.first,hks G.lo shSave.chg])]) (a1z Tryz.prog lo [.tmp 0] (bl true)):=by
 refine a1j 1 _ _ ?_
 simp only [Tryz.f9,Option.getD_some,a3j,a1y,a2p,a2e,a3h,List.singleton_append,List.cons_append,List.nil_append,List.drop_succ_cons,List.drop_zero]
 simp only [go_sem,hG,hOw]
 try (repeat' with_reducible first|apply And.intro|refine exP ?_ ?_|intro);all_goals try omega
 refine a0a b5d ?_
 simp (maxSteps:=2000000) only [go_sem,hG,hOw,Nat.reduceMul]
 refine a0a g2r ?_
 simp (maxSteps:=2000000) only [go_sem,hG,hOw,Nat.reduceMul]
 try (repeat' with_reducible first|apply And.intro|refine exP ?_ ?_|intro);all_goals try omega
 refine a2v (s':=St.of [(1,str sWr),(2,i64 0),(3,a0q G.lo lAb),(4,i64 6),(5,i64 0),(6,.ptr 6 0),(7,i64 0),(8,a0q G.lo a5c),(9,i64 0),(10,.ptr 10 0),(11,i64 0)] [(6,.box [a0q G.lo shSave.first,hks G.lo shSave.chg]),(10,.box [a0q G.lo shPrune.first,hks G.lo shPrune.chg])]) (a1m [(6,some 6),(10,some 10)]) ?_
 exact h
theorem g6s {G:Gh} {lo:Nat} (hG:G.n=168) (hOw:G.ow=fun _=>false) (hNm:G.nm=[]) (h:SemL Tryz.prog G ((a5k (Tryz.f9.body.getD .skip)).drop 7) (St.of [(1,str sWr),(2,i64 0),(3,a0q G.lo lAb),(4,i64 6),(5,i64 0),(6,.ptr 6 0),(7,i64 0),(8,a0q G.lo a5c),(9,i64 0),(10,.ptr 10 0),(11,i64 0),(12,a0q G.lo a7d),(13,i64 0)] [(6,.box [a0q G.lo shSave.first,hks G.lo shSave.chg]),(10,.box [a0q G.lo shPrune.first,hks G.lo shPrune.chg])]) (a1z Tryz.prog lo [.tmp 0] (bl true))) :
  SemL Tryz.prog G ((a5k (Tryz.f9.body.getD .skip)).drop 6) (St.of [(1,str sWr),(2,i64 0),(3,a0q G.lo lAb),(4,i64 6),(5,i64 0),(6,.ptr 6 0),(7,i64 0),(8,a0q G.lo a5c),(9,i64 0),(10,.ptr 10 0),(11,i64 0)] [(6,.box [a0q G.lo shSave.first,hks G.lo shSave.chg]),(10,.box [a0q G.lo shPrune.first,hks G.lo shPrune.chg])]) (a1z Tryz.prog lo [.tmp 0] (bl true)):=by
 refine a1j 1 _ _ ?_
 simp only [Tryz.f9,Option.getD_some,a3j,a1y,a2p,a2e,a3h,List.singleton_append,List.cons_append,List.nil_append,List.drop_succ_cons,List.drop_zero]
 simp only [go_sem,hG,hOw]
 try (repeat' with_reducible first|apply And.intro|refine exP ?_ ?_|intro);all_goals try omega
 refine a0a e2n ?_
 simp (maxSteps:=2000000) only [go_sem,hG,hOw,Nat.reduceMul]
 try (repeat' with_reducible first|apply And.intro|refine exP ?_ ?_|intro);all_goals try omega
 refine a0a f5l ?_
 simp (maxSteps:=2000000) only [go_sem,hG,hOw,Nat.reduceMul]
 try (repeat' with_reducible first|apply And.intro|refine exP ?_ ?_|intro);all_goals try omega
 refine a0a g7u ?_
 simp (maxSteps:=2000000) only [go_sem,hG,hOw,Nat.reduceMul]
 try (repeat' with_reducible first|apply And.intro|refine exP ?_ ?_|intro);all_goals try omega
 refine a2v (s':=St.of [(1,str sWr),(2,i64 0),(3,a0q G.lo lAb),(4,i64 6),(5,i64 0),(6,.ptr 6 0),(7,i64 0),(8,a0q G.lo a5c),(9,i64 0),(10,.ptr 10 0),(11,i64 0),(12,a0q G.lo a7d),(13,i64 0)] [(6,.box [a0q G.lo shSave.first,hks G.lo shSave.chg]),(10,.box [a0q G.lo shPrune.first,hks G.lo shPrune.chg])]) (a1m [(6,some 6),(10,some 10)]) ?_
 exact h
theorem g5z {G:Gh} {lo:Nat} (hG:G.n=168) (hOw:G.ow=fun _=>false) (hNm:G.nm=[]) (h:SemL Tryz.prog G ((a5k (Tryz.f9.body.getD .skip)).drop 8) (St.of [(1,str sWr),(2,i64 0),(3,a0q G.lo lAb),(4,i64 6),(5,i64 0),(6,.ptr 6 0),(7,i64 0),(8,a0q G.lo a5c),(9,i64 0),(10,.ptr 10 0),(11,i64 0),(12,a0q G.lo a7d),(13,i64 0),(14,a0q G.lo a9g),(15,i64 0)] [(6,.box [a0q G.lo shSave.first,hks G.lo shSave.chg]),(10,.box [a0q G.lo shPrune.first,hks G.lo shPrune.chg])]) (a1z Tryz.prog lo [.tmp 0] (bl true))) :
  SemL Tryz.prog G ((a5k (Tryz.f9.body.getD .skip)).drop 7) (St.of [(1,str sWr),(2,i64 0),(3,a0q G.lo lAb),(4,i64 6),(5,i64 0),(6,.ptr 6 0),(7,i64 0),(8,a0q G.lo a5c),(9,i64 0),(10,.ptr 10 0),(11,i64 0),(12,a0q G.lo a7d),(13,i64 0)] [(6,.box [a0q G.lo shSave.first,hks G.lo shSave.chg]),(10,.box [a0q G.lo shPrune.first,hks G.lo shPrune.chg])]) (a1z Tryz.prog lo [.tmp 0] (bl true)):=by
 refine a1j 1 _ _ ?_
 simp only [Tryz.f9,Option.getD_some,a3j,a1y,a2p,a2e,a3h,List.singleton_append,List.cons_append,List.nil_append,List.drop_succ_cons,List.drop_zero]
 simp only [go_sem,hG,hOw]
 try (repeat' with_reducible first|apply And.intro|refine exP ?_ ?_|intro);all_goals try omega
 refine a0a e2n ?_
 simp (maxSteps:=2000000) only [go_sem,hG,hOw,Nat.reduceMul]
 try (repeat' with_reducible first|apply And.intro|refine exP ?_ ?_|intro);all_goals try omega
 refine a0a g7w ?_
 simp (maxSteps:=2000000) only [go_sem,hG,hOw,Nat.reduceMul]
 try (repeat' with_reducible first|apply And.intro|refine exP ?_ ?_|intro);all_goals try omega
 refine a2v (s':=St.of [(1,str sWr),(2,i64 0),(3,a0q G.lo lAb),(4,i64 6),(5,i64 0),(6,.ptr 6 0),(7,i64 0),(8,a0q G.lo a5c),(9,i64 0),(10,.ptr 10 0),(11,i64 0),(12,a0q G.lo a7d),(13,i64 0),(14,a0q G.lo a9g),(15,i64 0)] [(6,.box [a0q G.lo shSave.first,hks G.lo shSave.chg]),(10,.box [a0q G.lo shPrune.first,hks G.lo shPrune.chg])]) (a1m [(6,some 6),(10,some 10)]) ?_
 exact h
theorem g7r {G:Gh} {lo:Nat} (hG:G.n=168) (hOw:G.ow=fun _=>false) (hNm:G.nm=[]) (h:SemL Tryz.prog G ((a5k (Tryz.f9.body.getD .skip)).drop 9) (St.of [(1,str sWr),(2,i64 0),(3,a0q G.lo lAb),(4,i64 6),(5,i64 0),(6,.ptr 6 0),(7,i64 0),(8,a0q G.lo a5c),(9,i64 0),(10,.ptr 10 0),(11,i64 0),(12,a0q G.lo a7d),(13,i64 0),(14,a0q G.lo a9g),(15,i64 0),(16,a0q G.lo c9k),(17,i64 0)] [(6,.box [a0q G.lo shSave.first,hks G.lo shSave.chg]),(10,.box [a0q G.lo shPrune.first,hks G.lo shPrune.chg])]) (a1z Tryz.prog lo [.tmp 0] (bl true))) :
  SemL Tryz.prog G ((a5k (Tryz.f9.body.getD .skip)).drop 8) (St.of [(1,str sWr),(2,i64 0),(3,a0q G.lo lAb),(4,i64 6),(5,i64 0),(6,.ptr 6 0),(7,i64 0),(8,a0q G.lo a5c),(9,i64 0),(10,.ptr 10 0),(11,i64 0),(12,a0q G.lo a7d),(13,i64 0),(14,a0q G.lo a9g),(15,i64 0)] [(6,.box [a0q G.lo shSave.first,hks G.lo shSave.chg]),(10,.box [a0q G.lo shPrune.first,hks G.lo shPrune.chg])]) (a1z Tryz.prog lo [.tmp 0] (bl true)):=by
 refine a1j 1 _ _ ?_
 simp only [Tryz.f9,Option.getD_some,a3j,a1y,a2p,a2e,a3h,List.singleton_append,List.cons_append,List.nil_append,List.drop_succ_cons,List.drop_zero]
 simp only [go_sem,hG,hOw]
 try (repeat' with_reducible first|apply And.intro|refine exP ?_ ?_|intro);all_goals try omega
 refine a0a e2n ?_
 simp (maxSteps:=2000000) only [go_sem,hG,hOw,Nat.reduceMul]
 try (repeat' with_reducible first|apply And.intro|refine exP ?_ ?_|intro);all_goals try omega
 refine a0a d6b ?_
 simp (maxSteps:=2000000) only [go_sem,hG,hOw,Nat.reduceMul]
 try (repeat' with_reducible first|apply And.intro|refine exP ?_ ?_|intro);all_goals try omega
 refine a0a g8r ?_
 simp (maxSteps:=2000000) only [go_sem,hG,hOw,Nat.reduceMul]
 try (repeat' with_reducible first|apply And.intro|refine exP ?_ ?_|intro);all_goals try omega
 refine a2v (s':=St.of [(1,str sWr),(2,i64 0),(3,a0q G.lo lAb),(4,i64 6),(5,i64 0),(6,.ptr 6 0),(7,i64 0),(8,a0q G.lo a5c),(9,i64 0),(10,.ptr 10 0),(11,i64 0),(12,a0q G.lo a7d),(13,i64 0),(14,a0q G.lo a9g),(15,i64 0),(16,a0q G.lo c9k),(17,i64 0)] [(6,.box [a0q G.lo shSave.first,hks G.lo shSave.chg]),(10,.box [a0q G.lo shPrune.first,hks G.lo shPrune.chg])]) (a1m [(6,some 6),(10,some 10)]) ?_
 exact h
theorem g8c {G:Gh} {lo:Nat} (hG:G.n=168) (hOw:G.ow=fun _=>false) (hNm:G.nm=[]) (h:SemL Tryz.prog G ((a5k (Tryz.f9.body.getD .skip)).drop 10) (St.of [(1,str sWr),(2,i64 0),(3,a0q G.lo lAb),(4,i64 6),(5,i64 0),(6,.ptr 6 0),(7,i64 0),(8,a0q G.lo a5c),(9,i64 0),(10,.ptr 10 0),(11,i64 0),(12,a0q G.lo a7d),(13,i64 0),(14,a0q G.lo a9g),(15,i64 0),(16,a0q G.lo c9k),(17,i64 0),(18,a0q G.lo a8s),(19,i64 0)] [(6,.box [a0q G.lo shSave.first,hks G.lo shSave.chg]),(10,.box [a0q G.lo shPrune.first,hks G.lo shPrune.chg])]) (a1z Tryz.prog lo [.tmp 0] (bl true))) :
  SemL Tryz.prog G ((a5k (Tryz.f9.body.getD .skip)).drop 9) (St.of [(1,str sWr),(2,i64 0),(3,a0q G.lo lAb),(4,i64 6),(5,i64 0),(6,.ptr 6 0),(7,i64 0),(8,a0q G.lo a5c),(9,i64 0),(10,.ptr 10 0),(11,i64 0),(12,a0q G.lo a7d),(13,i64 0),(14,a0q G.lo a9g),(15,i64 0),(16,a0q G.lo c9k),(17,i64 0)] [(6,.box [a0q G.lo shSave.first,hks G.lo shSave.chg]),(10,.box [a0q G.lo shPrune.first,hks G.lo shPrune.chg])]) (a1z Tryz.prog lo [.tmp 0] (bl true)):=by
 refine a1j 1 _ _ ?_
 simp only [Tryz.f9,Option.getD_some,a3j,a1y,a2p,a2e,a3h,List.singleton_append,List.cons_append,List.nil_append,List.drop_succ_cons,List.drop_zero]
 simp only [go_sem,hG,hOw]
 try (repeat' with_reducible first|apply And.intro|refine exP ?_ ?_|intro);all_goals try omega
 refine a0a (c0l _ _ _) ?_
 simp (maxSteps:=2000000) only [go_sem,hG,hOw,Nat.reduceMul]
 try (repeat' with_reducible first|apply And.intro|refine exP ?_ ?_|intro);all_goals try omega
 refine a0a g1p ?_
 simp (maxSteps:=2000000) only [go_sem,hG,hOw,Nat.reduceMul]
 try (repeat' with_reducible first|apply And.intro|refine exP ?_ ?_|intro);all_goals try omega
 refine a2v (s':=St.of [(1,str sWr),(2,i64 0),(3,a0q G.lo lAb),(4,i64 6),(5,i64 0),(6,.ptr 6 0),(7,i64 0),(8,a0q G.lo a5c),(9,i64 0),(10,.ptr 10 0),(11,i64 0),(12,a0q G.lo a7d),(13,i64 0),(14,a0q G.lo a9g),(15,i64 0),(16,a0q G.lo c9k),(17,i64 0),(18,a0q G.lo a8s),(19,i64 0)] [(6,.box [a0q G.lo shSave.first,hks G.lo shSave.chg]),(10,.box [a0q G.lo shPrune.first,hks G.lo shPrune.chg])]) (a1m [(6,some 6),(10,some 10)]) ?_
 exact h
theorem g3f {G:Gh} {lo:Nat} (hG:G.n=168) (hOw:G.ow=fun _=>false) (hNm:G.nm=[]) (h:SemL Tryz.prog G ((a5k (Tryz.f9.body.getD .skip)).drop 11) (St.of [(1,str sWr),(2,i64 0),(3,a0q G.lo lAb),(4,i64 6),(5,i64 0),(6,.ptr 6 0),(7,i64 0),(8,a0q G.lo a5c),(9,i64 0),(10,.ptr 10 0),(11,i64 0),(12,a0q G.lo a7d),(13,i64 0),(14,a0q G.lo a9g),(15,i64 0),(16,a0q G.lo c9k),(17,i64 0),(18,a0q G.lo a8s),(19,i64 0),(20,a0q G.lo lXB),(21,i64 0)] [(6,.box [a0q G.lo shSave.first,hks G.lo shSave.chg]),(10,.box [a0q G.lo shPrune.first,hks G.lo shPrune.chg])]) (a1z Tryz.prog lo [.tmp 0] (bl true))) :
  SemL Tryz.prog G ((a5k (Tryz.f9.body.getD .skip)).drop 10) (St.of [(1,str sWr),(2,i64 0),(3,a0q G.lo lAb),(4,i64 6),(5,i64 0),(6,.ptr 6 0),(7,i64 0),(8,a0q G.lo a5c),(9,i64 0),(10,.ptr 10 0),(11,i64 0),(12,a0q G.lo a7d),(13,i64 0),(14,a0q G.lo a9g),(15,i64 0),(16,a0q G.lo c9k),(17,i64 0),(18,a0q G.lo a8s),(19,i64 0)] [(6,.box [a0q G.lo shSave.first,hks G.lo shSave.chg]),(10,.box [a0q G.lo shPrune.first,hks G.lo shPrune.chg])]) (a1z Tryz.prog lo [.tmp 0] (bl true)):=by
 refine a1j 1 _ _ ?_
 simp only [Tryz.f9,Option.getD_some,a3j,a1y,a2p,a2e,a3h,List.singleton_append,List.cons_append,List.nil_append,List.drop_succ_cons,List.drop_zero]
 simp only [go_sem,hG,hOw]
 try (repeat' with_reducible first|apply And.intro|refine exP ?_ ?_|intro);all_goals try omega
 refine a1p (a7g _ _ _) (Subs.refl _) rfl (by simp [chk,hG]) ?_
 simp (maxSteps:=2000000) only [go_sem,hG,hOw,Nat.reduceMul]
 try (repeat' with_reducible first|apply And.intro|refine exP ?_ ?_|intro);all_goals try omega
 refine a1p (a7g _ _ _) (Subs.refl _) rfl (by simp [chk,hG]) ?_
 simp (maxSteps:=2000000) only [go_sem,hG,hOw,Nat.reduceMul]
 try (repeat' with_reducible first|apply And.intro|refine exP ?_ ?_|intro);all_goals try omega
 refine a1p (a7g _ _ _) (Subs.refl _) rfl (by simp [chk,hG]) ?_
 simp (maxSteps:=2000000) only [go_sem,hG,hOw,Nat.reduceMul]
 try (repeat' with_reducible first|apply And.intro|refine exP ?_ ?_|intro);all_goals try omega
 refine a0a f9x ?_
 simp (maxSteps:=2000000) only [go_sem,hG,hOw,Nat.reduceMul]
 try (repeat' with_reducible first|apply And.intro|refine exP ?_ ?_|intro);all_goals try omega
 refine a2v (s':=St.of [(1,str sWr),(2,i64 0),(3,a0q G.lo lAb),(4,i64 6),(5,i64 0),(6,.ptr 6 0),(7,i64 0),(8,a0q G.lo a5c),(9,i64 0),(10,.ptr 10 0),(11,i64 0),(12,a0q G.lo a7d),(13,i64 0),(14,a0q G.lo a9g),(15,i64 0),(16,a0q G.lo c9k),(17,i64 0),(18,a0q G.lo a8s),(19,i64 0),(20,a0q G.lo lXB),(21,i64 0)] [(6,.box [a0q G.lo shSave.first,hks G.lo shSave.chg]),(10,.box [a0q G.lo shPrune.first,hks G.lo shPrune.chg])]) (a1m [(6,some 6),(10,some 10)]) ?_
 exact h
theorem g1x {G:Gh} {lo:Nat} (hG:G.n=168) (hOw:G.ow=fun _=>false) (hNm:G.nm=[]) :
  SemL Tryz.prog G ((a5k (Tryz.f9.body.getD .skip)).drop 13) (St.of [(12,a0q G.lo a7d),(13,i64 0),(14,a0q G.lo a9g),(15,i64 0),(16,a0q G.lo c9k),(17,i64 0),(18,a0q G.lo a8s),(19,i64 0),(20,a0q G.lo lXB),(21,i64 0)] []) (a1z Tryz.prog lo [.tmp 0] (bl true)):=by
 refine a1j 2 _ _ ?_
 simp only [Tryz.f9,Option.getD_some,a3j,a1y,a2p,a2e,a3h,List.singleton_append,List.cons_append,List.nil_append,List.drop_succ_cons,List.drop_zero]
 simp only [go_sem,hG,hOw]
 try (repeat' with_reducible first|apply And.intro|refine exP ?_ ?_|intro);all_goals try omega
 refine a0a (c9y a7d) ?_
 simp (maxSteps:=2000000) only [go_sem,hG,hOw,Nat.reduceMul]
 try (repeat' with_reducible first|apply And.intro|refine exP ?_ ?_|intro);all_goals try omega
 refine a0a (c9y a9g) ?_
 simp (maxSteps:=2000000) only [go_sem,hG,hOw,Nat.reduceMul]
 try (repeat' with_reducible first|apply And.intro|refine exP ?_ ?_|intro);all_goals try omega
 refine a0a (c9y c9k) ?_
 simp (maxSteps:=2000000) only [go_sem,hG,hOw,Nat.reduceMul]
 try (repeat' with_reducible first|apply And.intro|refine exP ?_ ?_|intro);all_goals try omega
 refine a0a (c9y a8s) ?_
 simp (maxSteps:=2000000) only [go_sem,hG,hOw,Nat.reduceMul]
 try (repeat' with_reducible first|apply And.intro|refine exP ?_ ?_|intro);all_goals try omega
 refine a0a (c9y lXB) ?_
 simp (maxSteps:=2000000) only [go_sem,hG,hOw,Nat.reduceMul]
 try (repeat' with_reducible first|apply And.intro|refine exP ?_ ?_|intro);all_goals try omega
theorem g0a {G:Gh} {lo:Nat} (hG:G.n=168) (hOw:G.ow=fun _=>false) (hNm:G.nm=[]) (h:SemL Tryz.prog G ((a5k (Tryz.f9.body.getD .skip)).drop 13) (St.of [(12,a0q G.lo a7d),(13,i64 0),(14,a0q G.lo a9g),(15,i64 0),(16,a0q G.lo c9k),(17,i64 0),(18,a0q G.lo a8s),(19,i64 0),(20,a0q G.lo lXB),(21,i64 0)] []) (a1z Tryz.prog lo [.tmp 0] (bl true))) :
  SemL Tryz.prog G ((a5k (Tryz.f9.body.getD .skip)).drop 11) (St.of [(1,str sWr),(2,i64 0),(3,a0q G.lo lAb),(4,i64 6),(5,i64 0),(6,.ptr 6 0),(7,i64 0),(8,a0q G.lo a5c),(9,i64 0),(10,.ptr 10 0),(11,i64 0),(12,a0q G.lo a7d),(13,i64 0),(14,a0q G.lo a9g),(15,i64 0),(16,a0q G.lo c9k),(17,i64 0),(18,a0q G.lo a8s),(19,i64 0),(20,a0q G.lo lXB),(21,i64 0)] [(6,.box [a0q G.lo shSave.first,hks G.lo shSave.chg]),(10,.box [a0q G.lo shPrune.first,hks G.lo shPrune.chg])]) (a1z Tryz.prog lo [.tmp 0] (bl true)):=by
 have hln:shelfS.chg.length=2:=rfl
 have hs:decide (sWr=⟨#[97,98,32,115,103,10,98,32,101,97,10]⟩)=true:=by decide
 refine a1j 2 _ _ ?_
 simp only [Tryz.f9,Option.getD_some,a3j,a1y,a2p,a2e,a3h,List.singleton_append,List.cons_append,List.nil_append,List.drop_succ_cons,List.drop_zero]
 simp only [go_sem,hG,hOw]
 try (repeat' with_reducible first|apply And.intro|refine exP ?_ ?_|intro);all_goals try omega
 refine a0s mixed (by kernel_rfl) ?_
 simp (maxSteps:=2000000) only [go_sem,hG,hOw,Nat.reduceMul,hs,hln]
 try (repeat' with_reducible first|apply And.intro|refine exP ?_ ?_|intro);all_goals try omega
 refine ⟨_,a0f (c9y lAb),?_⟩
 simp (maxSteps:=2000000) only [go_sem,hG,hOw,Nat.reduceMul,hs,hln]
 try (repeat' with_reducible first|apply And.intro|refine exP ?_ ?_|intro);all_goals try omega
 refine ⟨_,a0f (a7g _ _ _),?_⟩
 simp (maxSteps:=2000000) only [go_sem,hG,hOw,Nat.reduceMul,hs,hln]
 try (repeat' with_reducible first|apply And.intro|refine exP ?_ ?_|intro);all_goals try omega
 refine ⟨_,a0f b5d,?_⟩
 simp (maxSteps:=2000000) only [go_sem,hG,hOw,Nat.reduceMul,hs,hln]
 try (repeat' with_reducible first|apply And.intro|refine exP ?_ ?_|intro);all_goals try omega
 refine ⟨_,b7l (f2z shSave) (.cons (d1j _ shSave) (.cons (d1j _ shSave) .nil)) (by first|rfl|simp [b0t,b3o,pureV,pure0, *]),?_⟩
 simp (maxSteps:=2000000) only [go_sem,hG,hOw,Nat.reduceMul,hs,hln]
 try (repeat' with_reducible first|apply And.intro|refine exP ?_ ?_|intro);all_goals try omega
 refine ⟨_,a0f (c9y a5c),?_⟩
 simp (maxSteps:=2000000) only [go_sem,hG,hOw,Nat.reduceMul,hs,hln]
 try (repeat' with_reducible first|apply And.intro|refine exP ?_ ?_|intro);all_goals try omega
 refine ⟨_,a0f (a7g _ _ _),?_⟩
 simp (maxSteps:=2000000) only [go_sem,hG,hOw,Nat.reduceMul,hs,hln]
 try (repeat' with_reducible first|apply And.intro|refine exP ?_ ?_|intro);all_goals try omega
 refine ⟨_,a0f b5d,?_⟩
 simp (maxSteps:=2000000) only [go_sem,hG,hOw,Nat.reduceMul,hs,hln]
 try (repeat' with_reducible first|apply And.intro|refine exP ?_ ?_|intro);all_goals try omega
 refine ⟨_,b7l (f2z shPrune) (.cons (d1j _ shPrune) (.cons (d1j _ shPrune) .nil)) (by first|rfl|simp [b0t,b3o,pureV,pure0, *]),?_⟩
 simp (maxSteps:=2000000) only [go_sem,hG,hOw,Nat.reduceMul,hs,hln]
 try (repeat' with_reducible first|apply And.intro|refine exP ?_ ?_|intro);all_goals try omega
 refine a2v (s':=St.of [(12,a0q G.lo a7d),(13,i64 0),(14,a0q G.lo a9g),(15,i64 0),(16,a0q G.lo c9k),(17,i64 0),(18,a0q G.lo a8s),(19,i64 0),(20,a0q G.lo lXB),(21,i64 0)] []) (a0y (by (simp only [go_sem])<;>simp) hNm) ?_
 exact h
theorem f0h:a0l Tryz.prog 9 [] (fun _=>bl true):=by
 refine b6x (fun _=>false) Tryz.func9 Tryz.ntmps9 rfl (by kernel_rfl) (by simp) rfl (by decide) fun G hG hOw hNm hZ hB=>?_
 refine a1j 1 _ _ ?_
 simp only [go_sem,hG,hOw]
 refine a2v (s':=St.of [] []) (a0y (by (simp only [go_sem])<;>simp) hNm) ?_
 refine g6y hG hOw hNm ?_
 refine g7f hG hOw hNm ?_
 refine g7g hG hOw hNm ?_
 refine g7t hG hOw hNm ?_
 refine g6e hG hOw hNm ?_
 refine g6s hG hOw hNm ?_
 refine g5z hG hOw hNm ?_
 refine g7r hG hOw hNm ?_
 refine g8c hG hOw hNm ?_
 refine g3f hG hOw hNm ?_
 refine g0a hG hOw hNm ?_
 exact g1x hG hOw hNm
open Go Pm
theorem f4i {l:List ByteArray} (h:a1c l=true) (hn:l.length≤180):∃ B,a0l Tryz.prog 14 [a0q 0 l] (fun _=>.tup [.v (.string B),i64 0])∧a0l Tryz.prog 15 [.v (.string B)] (fun n=>.tup [a0q n l,i64 B.size,i64 0]):=by
 obtain ⟨e1,e2,e3,e4⟩:=g6v h (g1m h hn)
 refine ⟨wrS l,?_,?_⟩
 ·have:=d1l l
  rw [e4] at this
  exact this
 ·have:=e0f (wrS l)
  rw [e1,e2,e3] at this
  exact this
end Go.Proofs.YtmjhfccbbfpppaaGreatDoor
