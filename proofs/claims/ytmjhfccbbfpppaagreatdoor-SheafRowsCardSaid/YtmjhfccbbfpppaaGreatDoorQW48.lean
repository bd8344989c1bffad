import Derived.KernelRfl
import Derived.Test.YtmjhfccbbfpppaaGreatDoorQW17
import Derived.Test.YtmjhfccbbfpppaaGreatDoorQW18
import Derived.Test.YtmjhfccbbfpppaaGreatDoorQW19
import Derived.Test.YtmjhfccbbfpppaaGreatDoorQW25
import Derived.Test.YtmjhfccbbfpppaaGreatDoorQW27
import Derived.Test.YtmjhfccbbfpppaaGreatDoorQW28
import Derived.Test.YtmjhfccbbfpppaaGreatDoorQW29
import Derived.Test.YtmjhfccbbfpppaaGreatDoorQW31
import Derived.Test.YtmjhfccbbfpppaaGreatDoorQW33
import Derived.Test.YtmjhfccbbfpppaaGreatDoorQW36
import Derived.Test.YtmjhfccbbfpppaaGreatDoorQW37
import Derived.Test.YtmjhfccbbfpppaaGreatDoorQW40
import Derived.Test.YtmjhfccbbfpppaaGreatDoorQW54
import Derived.Test.YtmjhfccbbfpppaaGreatDoorQW42
import Derived.Test.YtmjhfccbbfpppaaGreatDoorQW47
namespace Go.Proofs.YtmjhfccbbfpppaaGreatDoor
open Go Pm
set_option maxRecDepth 100000
def d4z:List Ch:=[⟨7,[[⟨#[116,104,101]⟩,⟨#[115,101,97]⟩,⟨#[105,115]⟩,⟨#[111,108,100]⟩],[⟨#[111,108,100]⟩,⟨#[116,104,101]⟩,⟨#[115,101,97]⟩]]⟩,⟨3,[[⟨#[115,101,97]⟩,⟨#[97,110,100]⟩,⟨#[115,101,97]⟩]]⟩]
def c8p:Cp:=⟨4,[⟨0,0,3,3,⟨#[99,111,108,100]⟩⟩,⟨0,1,1,1,⟨#[]⟩⟩,⟨1,0,3,2,⟨#[115,97,108,116]⟩⟩]⟩
def lexX:Lx:=⟨[⟨⟨#[115]⟩,⟨#[]⟩,2⟩,⟨⟨#[108,100]⟩,⟨#[108,100,101]⟩,1⟩],[⟨1,1,⟨#[115,101,97]⟩,0,0,0,⟨#[115,101,97]⟩,1,0⟩,⟨2,2,⟨#[111,108,100]⟩,0,1,0,⟨#[97,103,101]⟩,3,0⟩,⟨3,3,⟨#[]⟩,1,0,2,⟨#[115,101,101]⟩,2,0⟩,⟨5,4,⟨#[]⟩,0,0,0,⟨#[]⟩,0,3⟩]⟩
def shelfS:Sh:=⟨[⟨#[97,98]⟩,⟨#[98]⟩],[⟨1,0,[⟨#[99]⟩]⟩,⟨0,1,[]⟩]⟩
def slipsL:List Si:=[⟨0,0,2,⟨#[105,115]⟩,⟨#[115,101,97]⟩,⟨#[111,108,100,32,111,108,100]⟩⟩]
open Go Pm
set_option linter.unusedSimpArgs false
set_option linter.unusedVariables false
set_option maxRecDepth 100000
theorem g4d:a1v 0=⟨#[48]⟩:=by unfold a1v;rw [show Lib.itoa 0=Lib.decDigits 0 from a5b 0,Lib.decDigits_one (by decide)];rfl
theorem g3w:a1v 1=⟨#[49]⟩:=by unfold a1v;rw [show Lib.itoa 1=Lib.decDigits 1 from a5b 1,Lib.decDigits_one (by decide)];rfl
theorem g3m:a1v 2=⟨#[50]⟩:=by unfold a1v;rw [show Lib.itoa 2=Lib.decDigits 2 from a5b 2,Lib.decDigits_one (by decide)];rfl
theorem g3l:a1v 3=⟨#[51]⟩:=by unfold a1v;rw [show Lib.itoa 3=Lib.decDigits 3 from a5b 3,Lib.decDigits_one (by decide)];rfl
theorem g3o:a1v 4=⟨#[52]⟩:=by unfold a1v;rw [show Lib.itoa 4=Lib.decDigits 4 from a5b 4,Lib.decDigits_one (by decide)];rfl
theorem g3t:a1v 5=⟨#[53]⟩:=by unfold a1v;rw [show Lib.itoa 5=Lib.decDigits 5 from a5b 5,Lib.decDigits_one (by decide)];rfl
theorem g3q:a1v 6=⟨#[54]⟩:=by unfold a1v;rw [show Lib.itoa 6=Lib.decDigits 6 from a5b 6,Lib.decDigits_one (by decide)];rfl
theorem g3x:a1v 7=⟨#[55]⟩:=by unfold a1v;rw [show Lib.itoa 7=Lib.decDigits 7 from a5b 7,Lib.decDigits_one (by decide)];rfl
theorem al_wr:wrS [⟨#[97,98]⟩,⟨#[98]⟩]=⟨#[97,98,32,115,103,10,98,32,101,97,10]⟩∧wrE [⟨#[97,98]⟩,⟨#[98]⟩]=0:=⟨by kernel_rfl,by kernel_rfl⟩
theorem al_rd:rdL ⟨#[97,98,32,115,103,10,98,32,101,97]⟩=[⟨#[97,98]⟩]∧rdN ⟨#[97,98,32,115,103,10,98,32,101,97]⟩=6∧e1f ⟨#[97,98,32,115,103,10,98,32,101,97]⟩=0:=⟨by kernel_rfl,by kernel_rfl,by kernel_rfl⟩
theorem al_save:c6h ⟨[⟨#[97,98]⟩,⟨#[98]⟩],[]⟩ [⟨#[97,98]⟩,⟨#[99]⟩,⟨#[98]⟩]=⟨[⟨#[97,98]⟩,⟨#[98]⟩],[⟨1,0,[⟨#[99]⟩]⟩]⟩∧b5o ⟨[⟨#[97,98]⟩,⟨#[98]⟩],[]⟩ [⟨#[97,98]⟩,⟨#[99]⟩,⟨#[98]⟩]=0:=⟨by kernel_rfl,by kernel_rfl⟩
theorem al_back:b6x shelfS 1=[⟨#[97,98]⟩,⟨#[99]⟩,⟨#[98]⟩]∧a7u shelfS 1=0:=⟨by kernel_rfl,by kernel_rfl⟩
theorem f0f:b6o shelfS 1=⟨[⟨#[97,98]⟩,⟨#[99]⟩,⟨#[98]⟩],[⟨0,1,[]⟩]⟩:=by kernel_rfl
theorem f4n:a1z d4z=true:=by kernel_rfl
theorem f4v:a7t d4z c8p=0:=by kernel_rfl
theorem g3c:b1n d4z lexX=0:=by kernel_rfl
theorem f1b:slipsL.all b1m=true:=by kernel_rfl
theorem al_merge:a6g [⟨#[97]⟩,⟨#[98]⟩,⟨#[99]⟩] [⟨#[120]⟩,⟨#[98]⟩,⟨#[99]⟩] [⟨#[97]⟩,⟨#[98]⟩]=[⟨#[120]⟩,⟨#[98]⟩]∧a3u [⟨#[97]⟩,⟨#[98]⟩,⟨#[99]⟩] [⟨#[120]⟩,⟨#[98]⟩,⟨#[99]⟩] [⟨#[97]⟩,⟨#[98]⟩]=0:=⟨by kernel_rfl,by kernel_rfl⟩
theorem d7k:a2q d4z=[⟨#[99,104,97,112,116,101,114,32,55]⟩,⟨#[108,105,110,101,32,116,104,101,32,115,101,97,32,105,115,32,111,108,100]⟩,⟨#[108,105,110,101,32,111,108,100,32,116,104,101,32,115,101,97]⟩,⟨#[99,104,97,112,116,101,114,32,51]⟩,⟨#[108,105,110,101,32,115,101,97,32,97,110,100,32,115,101,97]⟩]:=by simp only [a2q,d4z,List.flatMap_cons,List.flatMap_nil,d5j,List.map_cons,List.map_nil,g4d,g3w,g3m,g3l,g3o,g3t,g3q,g3x];kernel_rfl
theorem d8p:a4j c8p=[⟨#[99,111,112,121,32,52]⟩,⟨#[111,116,104,101,114,32,48,32,48,32,51,32,99,111,108,100]⟩,⟨#[111,109,105,116,32,48,32,49,32,49]⟩,⟨#[112,117,116,32,49,32,48,32,51,32,115,97,108,116]⟩]:=by simp only [a4j,c8p,List.map_cons,List.map_nil,c0s,atS,g4d,g3w,g3m,g3l,g3o,g3t,g3q,g3x];kernel_rfl
theorem e6o:a8b lexX=[⟨#[99,117,116,32,115,32,50]⟩,⟨#[99,117,116,32,108,100,32,108,100,101,32,49]⟩,⟨#[102,111,114,109,32,49,32,115,101,97,32,115,101,97,32,49]⟩,⟨#[102,114,111,109,32,50,32,48,32,49,32,48,32,111,108,100,32,97,103,101,32,51]⟩,⟨#[112,108,97,99,101,32,51,32,49,32,48,32,50,32,115,101,101,32,50]⟩,⟨#[118,111,105,100,32,53,32,51]⟩]:=by simp only [a8b,lexX,List.map_cons,List.map_nil,a7z,b0h,fmP,c6y,atS,g4d,g3w,g3m,g3l,g3o,g3t,g3q,g3x];kernel_rfl
theorem d3p:a1m slipsL=[⟨#[115,108,105,112,32,48,32,48,32,50,32,105,115]⟩,⟨#[98,101,102,111,114,101,32,115,101,97]⟩,⟨#[97,102,116,101,114,32,111,108,100,32,111,108,100]⟩]:=by simp only [a1m,slipsL,List.flatMap_cons,List.flatMap_nil,b4h,e6h,d6s,atS,g4d,g3w,g3m,g3l,g3o,g3t,g3q,g3x];kernel_rfl
theorem c8r:a4c slipsL=([⟨#[115,108,105,112,32,48,32,48,32,50,32,105,115]⟩,⟨#[98,101,102,111,114,101,32,115,101,97]⟩,⟨#[97,102,116,101,114,32,111,108,100,32,111,108,100]⟩],0):=by unfold a4c;rw [if_pos f1b,d3p];rfl
open Go Pm
set_option maxHeartbeats 4000000
set_option maxRecDepth 100000
theorem a8l (lo sz:Nat) (rows:List (List V)):a0p Tryz.prog 34 [.lst lo sz rows] (fun _=>.lst lo sz rows):=by
 refine a0c (ow:=fun _=>false) Tryz.func34 Tryz.ntmps34 rfl rfl fun G hG hOw hNm hB=>?_;simp only [go_sem,hG,hOw]
theorem c0m (a b c:Int):a0p Tryz.prog 41 [i64 a,i64 b,i64 c] (fun _=>.agg [i64 a,i64 b,i64 c]):=by
 refine a0c (ow:=fun _=>false) Tryz.func41 Tryz.ntmps41 rfl rfl fun G hG hOw hNm hB=>?_;simp only [go_sem,hG,hOw]
theorem e3e:a0p Tryz.prog 38 [] (fun n=>txE n d4z):=by
 refine a0c (ow:=fun _=>false) Tryz.func38 Tryz.ntmps38 rfl rfl fun G hG hOw hNm hB=>?_;simp only [go_sem,hG,hOw]
 try (repeat' with_reducible first|refine And.intro ?_ ?_|intro _|refine exP ?_ ?_);all_goals try omega
 exact .refl _
theorem b6e:a0p Tryz.prog 35 [] (fun n=>shE n shelfS):=by
 refine a0c (ow:=fun _=>false) Tryz.func35 Tryz.ntmps35 rfl rfl fun G hG hOw hNm hB=>?_;simp only [go_sem,hG,hOw]
 try (repeat' with_reducible first|refine And.intro ?_ ?_|intro _|refine exP ?_ ?_);all_goals try omega
 refine a1w (a8l _ _ _) (Subs.refl _) rfl (by simp [chk,hG]) ?_
 simp only [go_sem,hG,hOw]
 try (repeat' with_reducible first|refine And.intro ?_ ?_|intro _|refine exP ?_ ?_);all_goals try omega
 refine a1w (a8l _ _ _) (Subs.refl _) rfl (by simp [chk,hG]) ?_
 simp only [go_sem,hG,hOw]
 try (repeat' with_reducible first|refine And.intro ?_ ?_|intro _|refine exP ?_ ?_);all_goals try omega
 refine Subs.agg (.cons (.refl _) (.cons (Sub.lst (Nat.le_refl _) rfl fun i x x' h1 h2=>?_) .nil))
 match i with
 |0=>simp at h1;subst h1;simp [shelfS] at h2;subst h2;exact Subs.refl _
 |1=>simp at h1;subst h1;simp [shelfS] at h2;subst h2;exact .cons (.refl _) (.cons (.refl _) (.cons (.nil _ _) .nil))
 |i+2=>simp at h1
theorem f8f:a0p Tryz.prog 54 [] (fun n=>cpE n c8p):=by
 refine a0c (ow:=fun _=>false) Tryz.func54 Tryz.ntmps54 rfl rfl fun G hG hOw hNm hB=>?_;simp only [go_sem,hG,hOw]
 try (repeat' with_reducible first|refine And.intro ?_ ?_|intro _|refine exP ?_ ?_);all_goals try omega
 refine a1w (c0m _ _ _) (Subs.refl _) rfl (by simp [chk,hG]) ?_
 simp (maxSteps:=2000000) only [go_sem,hG,hOw,Nat.reduceMul]
 try (repeat' with_reducible first|refine And.intro ?_ ?_|intro _|refine exP ?_ ?_);all_goals try omega
 refine a1w (c0m _ _ _) (Subs.refl _) rfl (by simp [chk,hG]) ?_
 simp (maxSteps:=2000000) only [go_sem,hG,hOw,Nat.reduceMul]
 try (repeat' with_reducible first|refine And.intro ?_ ?_|intro _|refine exP ?_ ?_);all_goals try omega
 refine a1w (c0m _ _ _) (Subs.refl _) rfl (by simp [chk,hG]) ?_
 simp (maxSteps:=2000000) only [go_sem,hG,hOw,Nat.reduceMul]
 try (repeat' with_reducible first|refine And.intro ?_ ?_|intro _|refine exP ?_ ?_);all_goals try omega
 exact .refl _
theorem d4c:a0p Tryz.prog 55 [] (fun n=>lxE n lexX):=by
 refine a0c (ow:=fun _=>false) Tryz.func55 Tryz.ntmps55 rfl rfl fun G hG hOw hNm hB=>?_;simp only [go_sem,hG,hOw]
 try (repeat' with_reducible first|refine And.intro ?_ ?_|intro _|refine exP ?_ ?_);all_goals try omega
 refine a1w (c0m _ _ _) (Subs.refl _) rfl (by simp [chk,hG]) ?_
 simp (maxSteps:=2000000) only [go_sem,hG,hOw,Nat.reduceMul]
 try (repeat' with_reducible first|refine And.intro ?_ ?_|intro _|refine exP ?_ ?_);all_goals try omega
 refine a1w (c0m _ _ _) (Subs.refl _) rfl (by simp [chk,hG]) ?_
 simp (maxSteps:=2000000) only [go_sem,hG,hOw,Nat.reduceMul]
 try (repeat' with_reducible first|refine And.intro ?_ ?_|intro _|refine exP ?_ ?_);all_goals try omega
 exact .refl _
theorem f6i (l m:List ByteArray) (e:Int):a0p Tryz.prog 56 [a0h 0 l,i64 e,a0h 0 m] (fun _=>bl (decide (e=0) && decide (l=m))):=by
 by_cases he:e=0
 ·subst he
  refine a0c (ow:=fun _=>false) Tryz.func56 Tryz.ntmps56 rfl rfl fun G hG hOw hNm hB=>?_;simp only [go_sem,hG,hOw]
  (repeat' with_reducible first|refine And.intro ?_ ?_|intro _|refine exP ?_ ?_);all_goals try omega
  refine a0a (a3s _ _) ?_
  simp only [go_sem,hG,hOw]
  try (repeat' with_reducible first|refine And.intro ?_ ?_|intro _|refine exP ?_ ?_);all_goals try omega
  try simp
 ·rw [decide_eq_false he,Bool.false_and]
  refine a0c (ow:=fun _=>false) Tryz.func56 Tryz.ntmps56 rfl rfl fun G hG hOw hNm hB=>?_;simp only [go_sem,hG,hOw]
  simp (maxSteps:=2000000) only [go_sem,hG,hOw,decide_eq_false he]
  try (repeat' with_reducible first|refine And.intro ?_ ?_|intro _|refine exP ?_ ?_);all_goals try omega
open Go Pm
set_option maxRecDepth 100000
def f8z:List ByteArray:=[⟨#[97,98]⟩,⟨#[98]⟩]
def lAb:List ByteArray:=[⟨#[97,98]⟩]
def a5n:List ByteArray:=[⟨#[97,98]⟩,⟨#[99]⟩,⟨#[98]⟩]
def lC:List ByteArray:=[⟨#[99]⟩]
def a8j:List ByteArray:=[⟨#[99,111,112,121,32,52]⟩,⟨#[111,116,104,101,114,32,48,32,48,32,51,32,99,111,108,100]⟩,⟨#[111,109,105,116,32,48,32,49,32,49]⟩,⟨#[112,117,116,32,49,32,48,32,51,32,115,97,108,116]⟩]
def a9v:List ByteArray:=[⟨#[99,104,97,112,116,101,114,32,55]⟩,⟨#[108,105,110,101,32,116,104,101,32,115,101,97,32,105,115,32,111,108,100]⟩,⟨#[108,105,110,101,32,111,108,100,32,116,104,101,32,115,101,97]⟩,⟨#[99,104,97,112,116,101,114,32,51]⟩,⟨#[108,105,110,101,32,115,101,97,32,97,110,100,32,115,101,97]⟩]
def d0p:List ByteArray:=[⟨#[99,117,116,32,115,32,50]⟩,⟨#[99,117,116,32,108,100,32,108,100,101,32,49]⟩,⟨#[102,111,114,109,32,49,32,115,101,97,32,115,101,97,32,49]⟩,⟨#[102,114,111,109,32,50,32,48,32,49,32,48,32,111,108,100,32,97,103,101,32,51]⟩,⟨#[112,108,97,99,101,32,51,32,49,32,48,32,50,32,115,101,101,32,50]⟩,⟨#[118,111,105,100,32,53,32,51]⟩]
def a9r:List ByteArray:=[⟨#[115,108,105,112,32,48,32,48,32,50,32,105,115]⟩,⟨#[98,101,102,111,114,101,32,115,101,97]⟩,⟨#[97,102,116,101,114,32,111,108,100,32,111,108,100]⟩]
def g3r:List ByteArray:=[⟨#[97]⟩,⟨#[98]⟩,⟨#[99]⟩]
def g3n:List ByteArray:=[⟨#[120]⟩,⟨#[98]⟩,⟨#[99]⟩]
def lAB:List ByteArray:=[⟨#[97]⟩,⟨#[98]⟩]
def lXB:List ByteArray:=[⟨#[120]⟩,⟨#[98]⟩]
def sWr:ByteArray:=⟨#[97,98,32,115,103,10,98,32,101,97,10]⟩
def sRd:ByteArray:=⟨#[97,98,32,115,103,10,98,32,101,97]⟩
def shSave:Sh:=⟨f8z,[⟨1,0,lC⟩]⟩
def shPrune:Sh:=⟨a5n,[⟨0,1,[]⟩]⟩
def f1z:Sh:=⟨f8z,[]⟩
theorem cWr:a0p Tryz.prog 14 [a0h 0 f8z] (fun n=>.tup [str sWr,i64 0]):=by
 have h:=f1g f8z
 rw [show wrS f8z=sWr from al_wr.1] at h
 rw [show wrE f8z=0 from al_wr.2] at h
 exact h
theorem cRd:a0p Tryz.prog 15 [str sRd] (fun n=>.tup [a0h n lAb,i64 6,i64 0]):=by
 have h:=f5p sRd
 rw [show rdL sRd=lAb from al_rd.1] at h
 rw [show rdN sRd=6 from al_rd.2.1] at h
 rw [show e1f sRd=0 from al_rd.2.2] at h
 exact h
theorem g6y:a0p Tryz.prog 33 [shE 0 f1z,a0h 0 a5n] (fun n=>.tup [shE n shSave,i64 0]):=by
 have h:=f5t f1z a5n (by decide) (by intro c hc;cases hc) (by decide)
 rw [show c6h f1z a5n=shSave from al_save.1] at h
 rw [show b5o f1z a5n=0 from al_save.2] at h
 exact h
theorem g6h:a0p Tryz.prog 39 [shE 0 shelfS,i64 1] (fun n=>.tup [a0h n a5n,i64 0]):=by
 have h:=f7c shelfS 1 (by decide) (by intro c hc;simp only [shelfS,List.mem_cons,List.not_mem_nil,or_false] at hc;rcases hc with rfl|rfl<;>decide)
 rw [show b6x shelfS 1=a5n from al_back.1] at h
 rw [show a7u shelfS 1=0 from al_back.2] at h
 exact h
theorem g0n:a0p Tryz.prog 40 [shE 0 shelfS,i64 1] (fun n=>.tup [shE n shPrune,i64 0]):=by
 have h:=f0x shelfS 1 (by decide) (by intro c hc;simp only [shelfS,List.mem_cons,List.not_mem_nil,or_false] at hc;rcases hc with rfl|rfl<;>decide)
 rw [show b6o shelfS 1=shPrune from f0f] at h
 rw [show a7u shelfS 1=0 from al_back.2] at h
 exact h
theorem g6p:a0p Tryz.prog 20 [txE 0 d4z,cpE 0 c8p] (fun n=>.tup [a0h n a8j,i64 0]):=by
 have h:=c4p d4z c8p
 rw [f4v,if_pos rfl] at h
 rw [show a4j c8p=a8j from d8p] at h
 exact h
theorem g5n:a0p Tryz.prog 13 [txE 0 d4z] (fun n=>.tup [a0h n a9v,i64 0]):=by
 have h:=c6v d4z
 rw [f4n,if_pos rfl,if_pos rfl] at h
 rw [show a2q d4z=a9v from d7k] at h
 exact h
theorem g7n:a0p Tryz.prog 31 [txE 0 d4z,lxE 0 lexX] (fun n=>.tup [a0h n d0p,i64 0]):=by
 have hb:(∀ r ∈ lexX.rules,bdR r)∧(∀ d ∈ lexX.decs,bdD d)∧lexX.rules.length≤1000∧lexX.decs.length≤1000:=by
  refine ⟨?_,?_,by decide,by decide⟩
  ·intro r hr;simp only [lexX,List.mem_cons,List.not_mem_nil,or_false] at hr;rcases hr with rfl|rfl<;>exact ⟨by decide,by decide⟩
  ·intro r hr;simp only [lexX,List.mem_cons,List.not_mem_nil,or_false] at hr;rcases hr with rfl|rfl|rfl|rfl<;>exact ⟨by decide,by decide⟩
 have h:=b5g d4z lexX hb
 rw [g3c,if_pos rfl] at h
 rw [show a8b lexX=d0p from e6o] at h
 exact h
theorem f9m:a0p Tryz.prog 29 [sis 0 slipsL] (fun n=>.tup [a0h n a9r,i64 0]):=by
 have h:=c0e slipsL (by decide) (by intro r hr;simp only [slipsL,List.mem_cons,List.not_mem_nil,or_false] at hr;subst hr;exact ⟨by decide,by decide,by decide⟩)
 rw [show a4c slipsL=(a9r,0) from c8r] at h
 exact h
theorem f9z:a0p Tryz.prog 37 [a0h 0 g3r,a0h 0 g3n,a0h 0 lAB] (fun n=>.tup [a0h n lXB,i64 0]):=by
 have h:=e9c g3r g3n lAB (by decide) (by decide) (by decide)
 rw [show a6g g3r g3n lAB=lXB from al_merge.1] at h
 rw [show a3u g3r g3n lAB=0 from al_merge.2] at h
 exact h
theorem d0b (l:List ByteArray):a0p Tryz.prog 56 [a0h 0 l,i64 0,a0h 0 l] (fun _=>bl true):=by
 have h:=f6i l l 0
 rw [decide_eq_true (rfl:l=l)] at h
 exact h
theorem f2q (s:Sh):a0p Tryz.prog 36 [shE 0 s,shE 0 s] (fun _=>bl true):=by
 have h:=c6c s s
 rw [decide_eq_true (rfl:s=s)] at h
 exact h
theorem d1u (lo:Nat) (s:Sh):Pm.Sub (.agg [.lst lo 1 (s.first.map a2j),.lst lo 3 (s.chg.map (hkE lo))]) (shE 0 s) :=
 Subs.agg (.cons (.lo (Nat.zero_le _)) (.cons (.map (Nat.zero_le _) fun c=>.cons (.refl _) (.cons (.refl _) (.cons (.lo (Nat.zero_le _)) .nil))) .nil))
open Go Pm
set_option maxHeartbeats 4000000
set_option maxRecDepth 100000
theorem g5z {G:Gh} {lo:Nat} (hG:G.n=168) (hOw:G.ow=fun _=>false) (hNm:G.nm=[]) (h:SemL Tryz.prog G ((a5k (Tryz.f9.body.getD .skip)).drop 2) (St.of [(1,str sWr),(2,i64 0)] []) (a2b Tryz.prog lo [.tmp 0] (bl true))) :
  SemL Tryz.prog G ((a5k (Tryz.f9.body.getD .skip)).drop 1) (St.of [] []) (a2b Tryz.prog lo [.tmp 0] (bl true)):=by
 refine a1c 1 _ _ ?_
 simp only [Tryz.f9,Option.getD_some,a2n,a1j,a1y,a1q,a2o,List.singleton_append,List.cons_append,List.nil_append,List.drop_succ_cons,List.drop_zero]
 simp only [go_sem,hG,hOw]
 try (repeat' with_reducible first|refine And.intro ?_ ?_|intro _|refine exP ?_ ?_);all_goals try omega
 refine a1w (a8l _ _ _) (Subs.refl _) rfl (by simp [chk,hG]) ?_
 simp (maxSteps:=2000000) only [go_sem,hG,hOw,Nat.reduceMul]
 try (repeat' with_reducible first|refine And.intro ?_ ?_|intro _|refine exP ?_ ?_);all_goals try omega
 refine a0a cWr ?_
 simp (maxSteps:=2000000) only [go_sem,hG,hOw,Nat.reduceMul]
 try (repeat' with_reducible first|refine And.intro ?_ ?_|intro _|refine exP ?_ ?_);all_goals try omega
 refine a2h (s':=St.of [(1,str sWr),(2,i64 0)] []) (a1d (by (simp only [go_sem])<;>simp) hNm) ?_
 exact h
theorem g4y {G:Gh} {lo:Nat} (hG:G.n=168) (hOw:G.ow=fun _=>false) (hNm:G.nm=[]) (h:SemL Tryz.prog G ((a5k (Tryz.f9.body.getD .skip)).drop 3) (St.of [(1,str sWr),(2,i64 0),(3,a0h G.lo lAb),(4,i64 6),(5,i64 0)] []) (a2b Tryz.prog lo [.tmp 0] (bl true))) :
  SemL Tryz.prog G ((a5k (Tryz.f9.body.getD .skip)).drop 2) (St.of [(1,str sWr),(2,i64 0)] []) (a2b Tryz.prog lo [.tmp 0] (bl true)):=by
 refine a1c 1 _ _ ?_
 simp only [Tryz.f9,Option.getD_some,a2n,a1j,a1y,a1q,a2o,List.singleton_append,List.cons_append,List.nil_append,List.drop_succ_cons,List.drop_zero]
 simp only [go_sem,hG,hOw]
 try (repeat' with_reducible first|refine And.intro ?_ ?_|intro _|refine exP ?_ ?_);all_goals try omega
 refine a0a cRd ?_
 simp (maxSteps:=2000000) only [go_sem,hG,hOw,Nat.reduceMul]
 try (repeat' with_reducible first|refine And.intro ?_ ?_|intro _|refine exP ?_ ?_);all_goals try omega
 refine a2h (s':=St.of [(1,str sWr),(2,i64 0),(3,a0h G.lo lAb),(4,i64 6),(5,i64 0)] []) (a1d (by (simp only [go_sem])<;>simp) hNm) ?_
 exact h
theorem g6z {G:Gh} {lo:Nat} (hG:G.n=168) (hOw:G.ow=fun _=>false) (hNm:G.nm=[]) (h:SemL Tryz.prog G ((a5k (Tryz.f9.body.getD .skip)).drop 4) (St.of [(1,str sWr),(2,i64 0),(3,a0h G.lo lAb),(4,i64 6),(5,i64 0),(6,.ptr 6 0),(7,i64 0)] [(6,.box [a0h G.lo shSave.first,hks G.lo shSave.chg])]) (a2b Tryz.prog lo [.tmp 0] (bl true))) :
  SemL Tryz.prog G ((a5k (Tryz.f9.body.getD .skip)).drop 3) (St.of [(1,str sWr),(2,i64 0),(3,a0h G.lo lAb),(4,i64 6),(5,i64 0)] []) (a2b Tryz.prog lo [.tmp 0] (bl true)):=by
 refine a1c 1 _ _ ?_
 simp only [Tryz.f9,Option.getD_some,a2n,a1j,a1y,a1q,a2o,List.singleton_append,List.cons_append,List.nil_append,List.drop_succ_cons,List.drop_zero]
 simp only [go_sem,hG,hOw]
 try (repeat' with_reducible first|refine And.intro ?_ ?_|intro _|refine exP ?_ ?_);all_goals try omega
 refine a1w (a8l _ _ _) (Subs.refl _) rfl (by simp [chk,hG]) ?_
 simp (maxSteps:=2000000) only [go_sem,hG,hOw,Nat.reduceMul]
 try (repeat' with_reducible first|refine And.intro ?_ ?_|intro _|refine exP ?_ ?_);all_goals try omega
 refine a1w (a8l _ _ _) (Subs.refl _) rfl (by simp [chk,hG]) ?_
 simp (maxSteps:=2000000) only [go_sem,hG,hOw,Nat.reduceMul]
 try (repeat' with_reducible first|refine And.intro ?_ ?_|intro _|refine exP ?_ ?_);all_goals try omega
 refine a1w g6y (Subs.cons (Subs.agg (.cons (.lo (Nat.zero_le _)) (.cons (.nil _ _) .nil))) (.cons (.lo (Nat.zero_le _)) .nil)) rfl (by simp [chk,hG]) ?_
 simp (maxSteps:=2000000) only [go_sem,hG,hOw,Nat.reduceMul]
 try (repeat' with_reducible first|refine And.intro ?_ ?_|intro _|refine exP ?_ ?_);all_goals try omega
 refine a2h (s':=St.of [(1,str sWr),(2,i64 0),(3,a0h G.lo lAb),(4,i64 6),(5,i64 0),(6,.ptr 6 0),(7,i64 0)] [(6,.box [a0h G.lo shSave.first,hks G.lo shSave.chg])]) (a2r [(6,some 6)]) ?_
 exact h
theorem g5f {G:Gh} {lo:Nat} (hG:G.n=168) (hOw:G.ow=fun _=>false) (hNm:G.nm=[]) (h:SemL Tryz.prog G ((a5k (Tryz.f9.body.getD .skip)).drop 5) (St.of [(1,str sWr),(2,i64 0),(3,a0h G.lo lAb),(4,i64 6),(5,i64 0),(6,.ptr 6 0),(7,i64 0),(8,a0h G.lo a5n),(9,i64 0)] [(6,.box [a0h G.lo shSave.first,hks G.lo shSave.chg])]) (a2b Tryz.prog lo [.tmp 0] (bl true))) :
  SemL Tryz.prog G ((a5k (Tryz.f9.body.getD .skip)).drop 4) (St.of [(1,str sWr),(2,i64 0),(3,a0h G.lo lAb),(4,i64 6),(5,i64 0),(6,.ptr 6 0),(7,i64 0)] [(6,.box [a0h G.lo shSave.first,hks G.lo shSave.chg])]) (a2b Tryz.prog lo [.tmp 0] (bl true)):=by
 refine a1c 1 _ _ ?_
 simp only [Tryz.f9,Option.getD_some,a2n,a1j,a1y,a1q,a2o,List.singleton_append,List.cons_append,List.nil_append,List.drop_succ_cons,List.drop_zero]
 simp only [go_sem,hG,hOw]
 try (repeat' with_reducible first|refine And.intro ?_ ?_|intro _|refine exP ?_ ?_);all_goals try omega
 refine a0a b6e ?_
 simp (maxSteps:=2000000) only [go_sem,hG,hOw,Nat.reduceMul]
 refine a0a g6h ?_
 simp (maxSteps:=2000000) only [go_sem,hG,hOw,Nat.reduceMul]
 try (repeat' with_reducible first|refine And.intro ?_ ?_|intro _|refine exP ?_ ?_);all_goals try omega
 refine a2h (s':=St.of [(1,str sWr),(2,i64 0),(3,a0h G.lo lAb),(4,i64 6),(5,i64 0),(6,.ptr 6 0),(7,i64 0),(8,a0h G.lo a5n),(9,i64 0)] [(6,.box [a0h G.lo shSave.first,hks G.lo shSave.chg])]) (a2r [(6,some 6)]) ?_
 exact h
theorem g4v {G:Gh} {lo:Nat} (hG:G.n=168) (hOw:G.ow=fun _=>false) (hNm:G.nm=[]) (h:SemL Tryz.prog G ((a5k (Tryz.f9.body.getD .skip)).drop 6) (St.of [(1,str sWr),(2,i64 0),(3,a0h G.lo lAb),(4,i64 6),(5,i64 0),(6,.ptr 6 0),(7,i64 0),(8,a0h G.lo a5n),(9,i64 0),(10,.ptr 10 0),(11,i64 0)] [(6,.box [a0h G.lo shSave.first,hks G.lo shSave.chg]),(10,.box [a0h G.lo shPrune.first,hks G.lo shPrune.chg])]) (a2b Tryz.prog lo [.tmp 0] (bl true))) :
  SemL Tryz.prog G ((a5k (Tryz.f9.body.getD .skip)).drop 5) (St.of [(1,str sWr),(2,i64 0),(3,a0h G.lo lAb),(4,i64 6),(5,i64 0),(6,.ptr 6 0),(7,i64 0),(8,a0h G.lo a5n),(9,i64 0)] [(6,.box [a0h G.lo shSave.first,hks G.lo shSave.chg])]) (a2b Tryz.prog lo [.tmp 0] (bl true)):=by
 refine a1c 1 _ _ ?_
 simp only [Tryz.f9,Option.getD_some,a2n,a1j,a1y,a1q,a2o,List.singleton_append,List.cons_append,List.nil_append,List.drop_succ_cons,List.drop_zero]
 simp only [go_sem,hG,hOw]
 try (repeat' with_reducible first|refine And.intro ?_ ?_|intro _|refine exP ?_ ?_);all_goals try omega
 refine a0a b6e ?_
 simp (maxSteps:=2000000) only [go_sem,hG,hOw,Nat.reduceMul]
 refine a0a g0n ?_
 simp (maxSteps:=2000000) only [go_sem,hG,hOw,Nat.reduceMul]
 try (repeat' with_reducible first|refine And.intro ?_ ?_|intro _|refine exP ?_ ?_);all_goals try omega
 refine a2h (s':=St.of [(1,str sWr),(2,i64 0),(3,a0h G.lo lAb),(4,i64 6),(5,i64 0),(6,.ptr 6 0),(7,i64 0),(8,a0h G.lo a5n),(9,i64 0),(10,.ptr 10 0),(11,i64 0)] [(6,.box [a0h G.lo shSave.first,hks G.lo shSave.chg]),(10,.box [a0h G.lo shPrune.first,hks G.lo shPrune.chg])]) (a2r [(6,some 6),(10,some 10)]) ?_
 exact h
theorem g4p {G:Gh} {lo:Nat} (hG:G.n=168) (hOw:G.ow=fun _=>false) (hNm:G.nm=[]) (h:SemL Tryz.prog G ((a5k (Tryz.f9.body.getD .skip)).drop 7) (St.of [(1,str sWr),(2,i64 0),(3,a0h G.lo lAb),(4,i64 6),(5,i64 0),(6,.ptr 6 0),(7,i64 0),(8,a0h G.lo a5n),(9,i64 0),(10,.ptr 10 0),(11,i64 0),(12,a0h G.lo a8j),(13,i64 0)] [(6,.box [a0h G.lo shSave.first,hks G.lo shSave.chg]),(10,.box [a0h G.lo shPrune.first,hks G.lo shPrune.chg])]) (a2b Tryz.prog lo [.tmp 0] (bl true))) :
  SemL Tryz.prog G ((a5k (Tryz.f9.body.getD .skip)).drop 6) (St.of [(1,str sWr),(2,i64 0),(3,a0h G.lo lAb),(4,i64 6),(5,i64 0),(6,.ptr 6 0),(7,i64 0),(8,a0h G.lo a5n),(9,i64 0),(10,.ptr 10 0),(11,i64 0)] [(6,.box [a0h G.lo shSave.first,hks G.lo shSave.chg]),(10,.box [a0h G.lo shPrune.first,hks G.lo shPrune.chg])]) (a2b Tryz.prog lo [.tmp 0] (bl true)):=by
 refine a1c 1 _ _ ?_
 simp only [Tryz.f9,Option.getD_some,a2n,a1j,a1y,a1q,a2o,List.singleton_append,List.cons_append,List.nil_append,List.drop_succ_cons,List.drop_zero]
 simp only [go_sem,hG,hOw]
 try (repeat' with_reducible first|refine And.intro ?_ ?_|intro _|refine exP ?_ ?_);all_goals try omega
 refine a0a e3e ?_
 simp (maxSteps:=2000000) only [go_sem,hG,hOw,Nat.reduceMul]
 try (repeat' with_reducible first|refine And.intro ?_ ?_|intro _|refine exP ?_ ?_);all_goals try omega
 refine a0a f8f ?_
 simp (maxSteps:=2000000) only [go_sem,hG,hOw,Nat.reduceMul]
 try (repeat' with_reducible first|refine And.intro ?_ ?_|intro _|refine exP ?_ ?_);all_goals try omega
 refine a0a g6p ?_
 simp (maxSteps:=2000000) only [go_sem,hG,hOw,Nat.reduceMul]
 try (repeat' with_reducible first|refine And.intro ?_ ?_|intro _|refine exP ?_ ?_);all_goals try omega
 refine a2h (s':=St.of [(1,str sWr),(2,i64 0),(3,a0h G.lo lAb),(4,i64 6),(5,i64 0),(6,.ptr 6 0),(7,i64 0),(8,a0h G.lo a5n),(9,i64 0),(10,.ptr 10 0),(11,i64 0),(12,a0h G.lo a8j),(13,i64 0)] [(6,.box [a0h G.lo shSave.first,hks G.lo shSave.chg]),(10,.box [a0h G.lo shPrune.first,hks G.lo shPrune.chg])]) (a2r [(6,some 6),(10,some 10)]) ?_
 exact h
theorem g4g {G:Gh} {lo:Nat} (hG:G.n=168) (hOw:G.ow=fun _=>false) (hNm:G.nm=[]) (h:SemL Tryz.prog G ((a5k (Tryz.f9.body.getD .skip)).drop 8) (St.of [(1,str sWr),(2,i64 0),(3,a0h G.lo lAb),(4,i64 6),(5,i64 0),(6,.ptr 6 0),(7,i64 0),(8,a0h G.lo a5n),(9,i64 0),(10,.ptr 10 0),(11,i64 0),(12,a0h G.lo a8j),(13,i64 0),(14,a0h G.lo a9v),(15,i64 0)] [(6,.box [a0h G.lo shSave.first,hks G.lo shSave.chg]),(10,.box [a0h G.lo shPrune.first,hks G.lo shPrune.chg])]) (a2b Tryz.prog lo [.tmp 0] (bl true))) :
  SemL Tryz.prog G ((a5k (Tryz.f9.body.getD .skip)).drop 7) (St.of [(1,str sWr),(2,i64 0),(3,a0h G.lo lAb),(4,i64 6),(5,i64 0),(6,.ptr 6 0),(7,i64 0),(8,a0h G.lo a5n),(9,i64 0),(10,.ptr 10 0),(11,i64 0),(12,a0h G.lo a8j),(13,i64 0)] [(6,.box [a0h G.lo shSave.first,hks G.lo shSave.chg]),(10,.box [a0h G.lo shPrune.first,hks G.lo shPrune.chg])]) (a2b Tryz.prog lo [.tmp 0] (bl true)):=by
 refine a1c 1 _ _ ?_
 simp only [Tryz.f9,Option.getD_some,a2n,a1j,a1y,a1q,a2o,List.singleton_append,List.cons_append,List.nil_append,List.drop_succ_cons,List.drop_zero]
 simp only [go_sem,hG,hOw]
 try (repeat' with_reducible first|refine And.intro ?_ ?_|intro _|refine exP ?_ ?_);all_goals try omega
 refine a0a e3e ?_
 simp (maxSteps:=2000000) only [go_sem,hG,hOw,Nat.reduceMul]
 try (repeat' with_reducible first|refine And.intro ?_ ?_|intro _|refine exP ?_ ?_);all_goals try omega
 refine a0a g5n ?_
 simp (maxSteps:=2000000) only [go_sem,hG,hOw,Nat.reduceMul]
 try (repeat' with_reducible first|refine And.intro ?_ ?_|intro _|refine exP ?_ ?_);all_goals try omega
 refine a2h (s':=St.of [(1,str sWr),(2,i64 0),(3,a0h G.lo lAb),(4,i64 6),(5,i64 0),(6,.ptr 6 0),(7,i64 0),(8,a0h G.lo a5n),(9,i64 0),(10,.ptr 10 0),(11,i64 0),(12,a0h G.lo a8j),(13,i64 0),(14,a0h G.lo a9v),(15,i64 0)] [(6,.box [a0h G.lo shSave.first,hks G.lo shSave.chg]),(10,.box [a0h G.lo shPrune.first,hks G.lo shPrune.chg])]) (a2r [(6,some 6),(10,some 10)]) ?_
 exact h
theorem g5o {G:Gh} {lo:Nat} (hG:G.n=168) (hOw:G.ow=fun _=>false) (hNm:G.nm=[]) (h:SemL Tryz.prog G ((a5k (Tryz.f9.body.getD .skip)).drop 9) (St.of [(1,str sWr),(2,i64 0),(3,a0h G.lo lAb),(4,i64 6),(5,i64 0),(6,.ptr 6 0),(7,i64 0),(8,a0h G.lo a5n),(9,i64 0),(10,.ptr 10 0),(11,i64 0),(12,a0h G.lo a8j),(13,i64 0),(14,a0h G.lo a9v),(15,i64 0),(16,a0h G.lo d0p),(17,i64 0)] [(6,.box [a0h G.lo shSave.first,hks G.lo shSave.chg]),(10,.box [a0h G.lo shPrune.first,hks G.lo shPrune.chg])]) (a2b Tryz.prog lo [.tmp 0] (bl true))) :
  SemL Tryz.prog G ((a5k (Tryz.f9.body.getD .skip)).drop 8) (St.of [(1,str sWr),(2,i64 0),(3,a0h G.lo lAb),(4,i64 6),(5,i64 0),(6,.ptr 6 0),(7,i64 0),(8,a0h G.lo a5n),(9,i64 0),(10,.ptr 10 0),(11,i64 0),(12,a0h G.lo a8j),(13,i64 0),(14,a0h G.lo a9v),(15,i64 0)] [(6,.box [a0h G.lo shSave.first,hks G.lo shSave.chg]),(10,.box [a0h G.lo shPrune.first,hks G.lo shPrune.chg])]) (a2b Tryz.prog lo [.tmp 0] (bl true)):=by
 refine a1c 1 _ _ ?_
 simp only [Tryz.f9,Option.getD_some,a2n,a1j,a1y,a1q,a2o,List.singleton_append,List.cons_append,List.nil_append,List.drop_succ_cons,List.drop_zero]
 simp only [go_sem,hG,hOw]
 try (repeat' with_reducible first|refine And.intro ?_ ?_|intro _|refine exP ?_ ?_);all_goals try omega
 refine a0a e3e ?_
 simp (maxSteps:=2000000) only [go_sem,hG,hOw,Nat.reduceMul]
 try (repeat' with_reducible first|refine And.intro ?_ ?_|intro _|refine exP ?_ ?_);all_goals try omega
 refine a0a d4c ?_
 simp (maxSteps:=2000000) only [go_sem,hG,hOw,Nat.reduceMul]
 try (repeat' with_reducible first|refine And.intro ?_ ?_|intro _|refine exP ?_ ?_);all_goals try omega
 refine a0a g7n ?_
 simp (maxSteps:=2000000) only [go_sem,hG,hOw,Nat.reduceMul]
 try (repeat' with_reducible first|refine And.intro ?_ ?_|intro _|refine exP ?_ ?_);all_goals try omega
 refine a2h (s':=St.of [(1,str sWr),(2,i64 0),(3,a0h G.lo lAb),(4,i64 6),(5,i64 0),(6,.ptr 6 0),(7,i64 0),(8,a0h G.lo a5n),(9,i64 0),(10,.ptr 10 0),(11,i64 0),(12,a0h G.lo a8j),(13,i64 0),(14,a0h G.lo a9v),(15,i64 0),(16,a0h G.lo d0p),(17,i64 0)] [(6,.box [a0h G.lo shSave.first,hks G.lo shSave.chg]),(10,.box [a0h G.lo shPrune.first,hks G.lo shPrune.chg])]) (a2r [(6,some 6),(10,some 10)]) ?_
 exact h
theorem g6a {G:Gh} {lo:Nat} (hG:G.n=168) (hOw:G.ow=fun _=>false) (hNm:G.nm=[]) (h:SemL Tryz.prog G ((a5k (Tryz.f9.body.getD .skip)).drop 10) (St.of [(1,str sWr),(2,i64 0),(3,a0h G.lo lAb),(4,i64 6),(5,i64 0),(6,.ptr 6 0),(7,i64 0),(8,a0h G.lo a5n),(9,i64 0),(10,.ptr 10 0),(11,i64 0),(12,a0h G.lo a8j),(13,i64 0),(14,a0h G.lo a9v),(15,i64 0),(16,a0h G.lo d0p),(17,i64 0),(18,a0h G.lo a9r),(19,i64 0)] [(6,.box [a0h G.lo shSave.first,hks G.lo shSave.chg]),(10,.box [a0h G.lo shPrune.first,hks G.lo shPrune.chg])]) (a2b Tryz.prog lo [.tmp 0] (bl true))) :
  SemL Tryz.prog G ((a5k (Tryz.f9.body.getD .skip)).drop 9) (St.of [(1,str sWr),(2,i64 0),(3,a0h G.lo lAb),(4,i64 6),(5,i64 0),(6,.ptr 6 0),(7,i64 0),(8,a0h G.lo a5n),(9,i64 0),(10,.ptr 10 0),(11,i64 0),(12,a0h G.lo a8j),(13,i64 0),(14,a0h G.lo a9v),(15,i64 0),(16,a0h G.lo d0p),(17,i64 0)] [(6,.box [a0h G.lo shSave.first,hks G.lo shSave.chg]),(10,.box [a0h G.lo shPrune.first,hks G.lo shPrune.chg])]) (a2b Tryz.prog lo [.tmp 0] (bl true)):=by
 refine a1c 1 _ _ ?_
 simp only [Tryz.f9,Option.getD_some,a2n,a1j,a1y,a1q,a2o,List.singleton_append,List.cons_append,List.nil_append,List.drop_succ_cons,List.drop_zero]
 simp only [go_sem,hG,hOw]
 try (repeat' with_reducible first|refine And.intro ?_ ?_|intro _|refine exP ?_ ?_);all_goals try omega
 refine a0a (c0m _ _ _) ?_
 simp (maxSteps:=2000000) only [go_sem,hG,hOw,Nat.reduceMul]
 try (repeat' with_reducible first|refine And.intro ?_ ?_|intro _|refine exP ?_ ?_);all_goals try omega
 refine a0a f9m ?_
 simp (maxSteps:=2000000) only [go_sem,hG,hOw,Nat.reduceMul]
 try (repeat' with_reducible first|refine And.intro ?_ ?_|intro _|refine exP ?_ ?_);all_goals try omega
 refine a2h (s':=St.of [(1,str sWr),(2,i64 0),(3,a0h G.lo lAb),(4,i64 6),(5,i64 0),(6,.ptr 6 0),(7,i64 0),(8,a0h G.lo a5n),(9,i64 0),(10,.ptr 10 0),(11,i64 0),(12,a0h G.lo a8j),(13,i64 0),(14,a0h G.lo a9v),(15,i64 0),(16,a0h G.lo d0p),(17,i64 0),(18,a0h G.lo a9r),(19,i64 0)] [(6,.box [a0h G.lo shSave.first,hks G.lo shSave.chg]),(10,.box [a0h G.lo shPrune.first,hks G.lo shPrune.chg])]) (a2r [(6,some 6),(10,some 10)]) ?_
 exact h
theorem g3b {G:Gh} {lo:Nat} (hG:G.n=168) (hOw:G.ow=fun _=>false) (hNm:G.nm=[]) (h:SemL Tryz.prog G ((a5k (Tryz.f9.body.getD .skip)).drop 11) (St.of [(1,str sWr),(2,i64 0),(3,a0h G.lo lAb),(4,i64 6),(5,i64 0),(6,.ptr 6 0),(7,i64 0),(8,a0h G.lo a5n),(9,i64 0),(10,.ptr 10 0),(11,i64 0),(12,a0h G.lo a8j),(13,i64 0),(14,a0h G.lo a9v),(15,i64 0),(16,a0h G.lo d0p),(17,i64 0),(18,a0h G.lo a9r),(19,i64 0),(20,a0h G.lo lXB),(21,i64 0)] [(6,.box [a0h G.lo shSave.first,hks G.lo shSave.chg]),(10,.box [a0h G.lo shPrune.first,hks G.lo shPrune.chg])]) (a2b Tryz.prog lo [.tmp 0] (bl true))) :
  SemL Tryz.prog G ((a5k (Tryz.f9.body.getD .skip)).drop 10) (St.of [(1,str sWr),(2,i64 0),(3,a0h G.lo lAb),(4,i64 6),(5,i64 0),(6,.ptr 6 0),(7,i64 0),(8,a0h G.lo a5n),(9,i64 0),(10,.ptr 10 0),(11,i64 0),(12,a0h G.lo a8j),(13,i64 0),(14,a0h G.lo a9v),(15,i64 0),(16,a0h G.lo d0p),(17,i64 0),(18,a0h G.lo a9r),(19,i64 0)] [(6,.box [a0h G.lo shSave.first,hks G.lo shSave.chg]),(10,.box [a0h G.lo shPrune.first,hks G.lo shPrune.chg])]) (a2b Tryz.prog lo [.tmp 0] (bl true)):=by
 refine a1c 1 _ _ ?_
 simp only [Tryz.f9,Option.getD_some,a2n,a1j,a1y,a1q,a2o,List.singleton_append,List.cons_append,List.nil_append,List.drop_succ_cons,List.drop_zero]
 simp only [go_sem,hG,hOw]
 try (repeat' with_reducible first|refine And.intro ?_ ?_|intro _|refine exP ?_ ?_);all_goals try omega
 refine a1w (a8l _ _ _) (Subs.refl _) rfl (by simp [chk,hG]) ?_
 simp (maxSteps:=2000000) only [go_sem,hG,hOw,Nat.reduceMul]
 try (repeat' with_reducible first|refine And.intro ?_ ?_|intro _|refine exP ?_ ?_);all_goals try omega
 refine a1w (a8l _ _ _) (Subs.refl _) rfl (by simp [chk,hG]) ?_
 simp (maxSteps:=2000000) only [go_sem,hG,hOw,Nat.reduceMul]
 try (repeat' with_reducible first|refine And.intro ?_ ?_|intro _|refine exP ?_ ?_);all_goals try omega
 refine a1w (a8l _ _ _) (Subs.refl _) rfl (by simp [chk,hG]) ?_
 simp (maxSteps:=2000000) only [go_sem,hG,hOw,Nat.reduceMul]
 try (repeat' with_reducible first|refine And.intro ?_ ?_|intro _|refine exP ?_ ?_);all_goals try omega
 refine a0a f9z ?_
 simp (maxSteps:=2000000) only [go_sem,hG,hOw,Nat.reduceMul]
 try (repeat' with_reducible first|refine And.intro ?_ ?_|intro _|refine exP ?_ ?_);all_goals try omega
 refine a2h (s':=St.of [(1,str sWr),(2,i64 0),(3,a0h G.lo lAb),(4,i64 6),(5,i64 0),(6,.ptr 6 0),(7,i64 0),(8,a0h G.lo a5n),(9,i64 0),(10,.ptr 10 0),(11,i64 0),(12,a0h G.lo a8j),(13,i64 0),(14,a0h G.lo a9v),(15,i64 0),(16,a0h G.lo d0p),(17,i64 0),(18,a0h G.lo a9r),(19,i64 0),(20,a0h G.lo lXB),(21,i64 0)] [(6,.box [a0h G.lo shSave.first,hks G.lo shSave.chg]),(10,.box [a0h G.lo shPrune.first,hks G.lo shPrune.chg])]) (a2r [(6,some 6),(10,some 10)]) ?_
 exact h
theorem g2w {G:Gh} {lo:Nat} (hG:G.n=168) (hOw:G.ow=fun _=>false) (hNm:G.nm=[]) :
  SemL Tryz.prog G ((a5k (Tryz.f9.body.getD .skip)).drop 13) (St.of [(12,a0h G.lo a8j),(13,i64 0),(14,a0h G.lo a9v),(15,i64 0),(16,a0h G.lo d0p),(17,i64 0),(18,a0h G.lo a9r),(19,i64 0),(20,a0h G.lo lXB),(21,i64 0)] []) (a2b Tryz.prog lo [.tmp 0] (bl true)):=by
 refine a1c 2 _ _ ?_
 simp only [Tryz.f9,Option.getD_some,a2n,a1j,a1y,a1q,a2o,List.singleton_append,List.cons_append,List.nil_append,List.drop_succ_cons,List.drop_zero]
 simp only [go_sem,hG,hOw]
 try (repeat' with_reducible first|refine And.intro ?_ ?_|intro _|refine exP ?_ ?_);all_goals try omega
 refine a0a (d0b a8j) ?_
 simp (maxSteps:=2000000) only [go_sem,hG,hOw,Nat.reduceMul]
 try (repeat' with_reducible first|refine And.intro ?_ ?_|intro _|refine exP ?_ ?_);all_goals try omega
 refine a0a (d0b a9v) ?_
 simp (maxSteps:=2000000) only [go_sem,hG,hOw,Nat.reduceMul]
 try (repeat' with_reducible first|refine And.intro ?_ ?_|intro _|refine exP ?_ ?_);all_goals try omega
 refine a0a (d0b d0p) ?_
 simp (maxSteps:=2000000) only [go_sem,hG,hOw,Nat.reduceMul]
 try (repeat' with_reducible first|refine And.intro ?_ ?_|intro _|refine exP ?_ ?_);all_goals try omega
 refine a0a (d0b a9r) ?_
 simp (maxSteps:=2000000) only [go_sem,hG,hOw,Nat.reduceMul]
 try (repeat' with_reducible first|refine And.intro ?_ ?_|intro _|refine exP ?_ ?_);all_goals try omega
 refine a0a (d0b lXB) ?_
 simp (maxSteps:=2000000) only [go_sem,hG,hOw,Nat.reduceMul]
 try (repeat' with_reducible first|refine And.intro ?_ ?_|intro _|refine exP ?_ ?_);all_goals try omega
theorem g2k {G:Gh} {lo:Nat} (hG:G.n=168) (hOw:G.ow=fun _=>false) (hNm:G.nm=[]) (h:SemL Tryz.prog G ((a5k (Tryz.f9.body.getD .skip)).drop 13) (St.of [(12,a0h G.lo a8j),(13,i64 0),(14,a0h G.lo a9v),(15,i64 0),(16,a0h G.lo d0p),(17,i64 0),(18,a0h G.lo a9r),(19,i64 0),(20,a0h G.lo lXB),(21,i64 0)] []) (a2b Tryz.prog lo [.tmp 0] (bl true))) :
  SemL Tryz.prog G ((a5k (Tryz.f9.body.getD .skip)).drop 11) (St.of [(1,str sWr),(2,i64 0),(3,a0h G.lo lAb),(4,i64 6),(5,i64 0),(6,.ptr 6 0),(7,i64 0),(8,a0h G.lo a5n),(9,i64 0),(10,.ptr 10 0),(11,i64 0),(12,a0h G.lo a8j),(13,i64 0),(14,a0h G.lo a9v),(15,i64 0),(16,a0h G.lo d0p),(17,i64 0),(18,a0h G.lo a9r),(19,i64 0),(20,a0h G.lo lXB),(21,i64 0)] [(6,.box [a0h G.lo shSave.first,hks G.lo shSave.chg]),(10,.box [a0h G.lo shPrune.first,hks G.lo shPrune.chg])]) (a2b Tryz.prog lo [.tmp 0] (bl true)):=by
 have hln:shelfS.chg.length=2:=rfl
 have hs:decide (sWr=⟨#[97,98,32,115,103,10,98,32,101,97,10]⟩)=true:=by decide
 refine a1c 2 _ _ ?_
 simp only [Tryz.f9,Option.getD_some,a2n,a1j,a1y,a1q,a2o,List.singleton_append,List.cons_append,List.nil_append,List.drop_succ_cons,List.drop_zero]
 simp only [go_sem,hG,hOw]
 try (repeat' with_reducible first|refine And.intro ?_ ?_|intro _|refine exP ?_ ?_);all_goals try omega
 refine a1a mixed (by kernel_rfl) ?_
 simp (maxSteps:=2000000) only [go_sem,hG,hOw,Nat.reduceMul,hs,hln]
 try (repeat' with_reducible first|refine And.intro ?_ ?_|intro _|refine exP ?_ ?_);all_goals try omega
 refine ⟨_,a0j (d0b lAb),?_⟩
 simp (maxSteps:=2000000) only [go_sem,hG,hOw,Nat.reduceMul,hs,hln]
 try (repeat' with_reducible first|refine And.intro ?_ ?_|intro _|refine exP ?_ ?_);all_goals try omega
 refine ⟨_,a0j (a8l _ _ _),?_⟩
 simp (maxSteps:=2000000) only [go_sem,hG,hOw,Nat.reduceMul,hs,hln]
 try (repeat' with_reducible first|refine And.intro ?_ ?_|intro _|refine exP ?_ ?_);all_goals try omega
 refine ⟨_,a0j b6e,?_⟩
 simp (maxSteps:=2000000) only [go_sem,hG,hOw,Nat.reduceMul,hs,hln]
 try (repeat' with_reducible first|refine And.intro ?_ ?_|intro _|refine exP ?_ ?_);all_goals try omega
 refine ⟨_,b7b (f2q shSave) (.cons (d1u _ shSave) (.cons (d1u _ shSave) .nil)) (by first|rfl|simp [b2c,b5r,pureV,pure0, *]),?_⟩
 simp (maxSteps:=2000000) only [go_sem,hG,hOw,Nat.reduceMul,hs,hln]
 try (repeat' with_reducible first|refine And.intro ?_ ?_|intro _|refine exP ?_ ?_);all_goals try omega
 refine ⟨_,a0j (d0b a5n),?_⟩
 simp (maxSteps:=2000000) only [go_sem,hG,hOw,Nat.reduceMul,hs,hln]
 try (repeat' with_reducible first|refine And.intro ?_ ?_|intro _|refine exP ?_ ?_);all_goals try omega
 refine ⟨_,a0j (a8l _ _ _),?_⟩
 simp (maxSteps:=2000000) only [go_sem,hG,hOw,Nat.reduceMul,hs,hln]
 try (repeat' with_reducible first|refine And.intro ?_ ?_|intro _|refine exP ?_ ?_);all_goals try omega
 refine ⟨_,a0j b6e,?_⟩
 simp (maxSteps:=2000000) only [go_sem,hG,hOw,Nat.reduceMul,hs,hln]
 try (repeat' with_reducible first|refine And.intro ?_ ?_|intro _|refine exP ?_ ?_);all_goals try omega
 refine ⟨_,b7b (f2q shPrune) (.cons (d1u _ shPrune) (.cons (d1u _ shPrune) .nil)) (by first|rfl|simp [b2c,b5r,pureV,pure0, *]),?_⟩
 simp (maxSteps:=2000000) only [go_sem,hG,hOw,Nat.reduceMul,hs,hln]
 try (repeat' with_reducible first|refine And.intro ?_ ?_|intro _|refine exP ?_ ?_);all_goals try omega
 refine a2h (s':=St.of [(12,a0h G.lo a8j),(13,i64 0),(14,a0h G.lo a9v),(15,i64 0),(16,a0h G.lo d0p),(17,i64 0),(18,a0h G.lo a9r),(19,i64 0),(20,a0h G.lo lXB),(21,i64 0)] []) (a1d (by (simp only [go_sem])<;>simp) hNm) ?_
 exact h
theorem e7i:a0p Tryz.prog 9 [] (fun _=>bl true):=by
 refine b7c (fun _=>false) Tryz.func9 Tryz.ntmps9 rfl (by kernel_rfl) (by simp) rfl (by decide) fun G hG hOw hNm hZ hB=>?_
 refine a1c 1 _ _ ?_
 simp only [go_sem,hG,hOw]
 refine a2h (s':=St.of [] []) (a1d (by (simp only [go_sem])<;>simp) hNm) ?_
 refine g5z hG hOw hNm ?_
 refine g4y hG hOw hNm ?_
 refine g6z hG hOw hNm ?_
 refine g5f hG hOw hNm ?_
 refine g4v hG hOw hNm ?_
 refine g4p hG hOw hNm ?_
 refine g4g hG hOw hNm ?_
 refine g5o hG hOw hNm ?_
 refine g6a hG hOw hNm ?_
 refine g3b hG hOw hNm ?_
 refine g2k hG hOw hNm ?_
 exact g2w hG hOw hNm
end Go.Proofs.YtmjhfccbbfpppaaGreatDoor
