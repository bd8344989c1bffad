import Derived.KernelRfl
import Derived.Test.YtmjhfccbbfpppaaGreatDoorQA08
import Derived.Test.YtmjhfccbbfpppaaGreatDoorQA16
import Derived.Test.YtmjhfccbbfpppaaGreatDoorQA21
import Derived.Test.YtmjhfccbbfpppaaGreatDoorQA23
import Derived.Test.YtmjhfccbbfpppaaGreatDoorQA24
import Derived.Test.YtmjhfccbbfpppaaGreatDoorQA27
import Derived.Test.YtmjhfccbbfpppaaGreatDoorQA28
import Derived.Test.YtmjhfccbbfpppaaGreatDoorQA30
import Derived.Test.YtmjhfccbbfpppaaGreatDoorQA32
import Derived.Test.YtmjhfccbbfpppaaGreatDoorQA36
import Derived.Test.YtmjhfccbbfpppaaGreatDoorQA37
import Derived.Test.YtmjhfccbbfpppaaGreatDoorQA38
import Derived.Test.YtmjhfccbbfpppaaGreatDoorQA54
import Derived.Test.YtmjhfccbbfpppaaGreatDoorQA40
import Derived.Test.YtmjhfccbbfpppaaGreatDoorQA46
namespace Go.Proofs.YtmjhfccbbfpppaaGreatDoor
open Go Pm
set_option maxRecDepth 100000
def d2r:List Ch:=[⟨7,[[⟨#[116,104,101]⟩,⟨#[115,101,97]⟩,⟨#[105,115]⟩,⟨#[111,108,100]⟩],[⟨#[111,108,100]⟩,⟨#[116,104,101]⟩,⟨#[115,101,97]⟩]]⟩,⟨3,[[⟨#[115,101,97]⟩,⟨#[97,110,100]⟩,⟨#[115,101,97]⟩]]⟩]
def c7a:Cp:=⟨4,[⟨0,0,3,3,⟨#[99,111,108,100]⟩⟩,⟨0,1,1,1,⟨#[]⟩⟩,⟨1,0,3,2,⟨#[115,97,108,116]⟩⟩]⟩
def lexX:Lx:=⟨[⟨⟨#[115]⟩,⟨#[]⟩,2⟩,⟨⟨#[108,100]⟩,⟨#[108,100,101]⟩,1⟩],[⟨1,1,⟨#[115,101,97]⟩,0,0,0,⟨#[115,101,97]⟩,1,0⟩,⟨2,2,⟨#[111,108,100]⟩,0,1,0,⟨#[97,103,101]⟩,3,0⟩,⟨3,3,⟨#[]⟩,1,0,2,⟨#[115,101,101]⟩,2,0⟩,⟨5,4,⟨#[]⟩,0,0,0,⟨#[]⟩,0,3⟩]⟩
def shelfS:Sh:=⟨[⟨#[97,98]⟩,⟨#[98]⟩],[⟨1,0,[⟨#[99]⟩]⟩,⟨0,1,[]⟩]⟩
def slipsL:List Si:=[⟨0,0,2,⟨#[105,115]⟩,⟨#[115,101,97]⟩,⟨#[111,108,100,32,111,108,100]⟩⟩]
open Go Pm
set_option linter.unusedSimpArgs false
set_option linter.unusedVariables false
set_option maxRecDepth 100000
theorem g1i:a2h 0=⟨#[48]⟩:=by unfold a2h;rw [show Lib.itoa 0=Lib.decDigits 0 from a4o 0,Lib.decDigits_one (by decide)];rfl
theorem g1m:a2h 1=⟨#[49]⟩:=by unfold a2h;rw [show Lib.itoa 1=Lib.decDigits 1 from a4o 1,Lib.decDigits_one (by decide)];rfl
theorem g1w:a2h 2=⟨#[50]⟩:=by unfold a2h;rw [show Lib.itoa 2=Lib.decDigits 2 from a4o 2,Lib.decDigits_one (by decide)];rfl
theorem g1k:a2h 3=⟨#[51]⟩:=by unfold a2h;rw [show Lib.itoa 3=Lib.decDigits 3 from a4o 3,Lib.decDigits_one (by decide)];rfl
theorem g1n:a2h 4=⟨#[52]⟩:=by unfold a2h;rw [show Lib.itoa 4=Lib.decDigits 4 from a4o 4,Lib.decDigits_one (by decide)];rfl
theorem g1h:a2h 5=⟨#[53]⟩:=by unfold a2h;rw [show Lib.itoa 5=Lib.decDigits 5 from a4o 5,Lib.decDigits_one (by decide)];rfl
theorem g1l:a2h 6=⟨#[54]⟩:=by unfold a2h;rw [show Lib.itoa 6=Lib.decDigits 6 from a4o 6,Lib.decDigits_one (by decide)];rfl
theorem g2a:a2h 7=⟨#[55]⟩:=by unfold a2h;rw [show Lib.itoa 7=Lib.decDigits 7 from a4o 7,Lib.decDigits_one (by decide)];rfl
theorem al_wr:wrS [⟨#[97,98]⟩,⟨#[98]⟩]=⟨#[97,98,32,115,103,10,98,32,101,97,10]⟩∧wrE [⟨#[97,98]⟩,⟨#[98]⟩]=0:=⟨by kernel_rfl,by kernel_rfl⟩
theorem al_rd:rdL ⟨#[97,98,32,115,103,10,98,32,101,97]⟩=[⟨#[97,98]⟩]∧rdN ⟨#[97,98,32,115,103,10,98,32,101,97]⟩=6∧e4m ⟨#[97,98,32,115,103,10,98,32,101,97]⟩=0:=⟨by kernel_rfl,by kernel_rfl,by kernel_rfl⟩
theorem al_save:c4m ⟨[⟨#[97,98]⟩,⟨#[98]⟩],[]⟩ [⟨#[97,98]⟩,⟨#[99]⟩,⟨#[98]⟩]=⟨[⟨#[97,98]⟩,⟨#[98]⟩],[⟨1,0,[⟨#[99]⟩]⟩]⟩∧b4g ⟨[⟨#[97,98]⟩,⟨#[98]⟩],[]⟩ [⟨#[97,98]⟩,⟨#[99]⟩,⟨#[98]⟩]=0:=⟨by kernel_rfl,by kernel_rfl⟩
theorem al_back:b4t shelfS 1=[⟨#[97,98]⟩,⟨#[99]⟩,⟨#[98]⟩]∧a6l shelfS 1=0:=⟨by kernel_rfl,by kernel_rfl⟩
theorem e9u:b6z shelfS 1=⟨[⟨#[97,98]⟩,⟨#[99]⟩,⟨#[98]⟩],[⟨0,1,[]⟩]⟩:=by kernel_rfl
theorem f3y:a1r d2r=true:=by kernel_rfl
theorem f3k:a8w d2r c7a=0:=by kernel_rfl
theorem f8v:b7u d2r lexX=0:=by kernel_rfl
theorem e7m:slipsL.all a6w=true:=by kernel_rfl
theorem al_merge:a5f [⟨#[97]⟩,⟨#[98]⟩,⟨#[99]⟩] [⟨#[120]⟩,⟨#[98]⟩,⟨#[99]⟩] [⟨#[97]⟩,⟨#[98]⟩]=[⟨#[120]⟩,⟨#[98]⟩]∧a3h [⟨#[97]⟩,⟨#[98]⟩,⟨#[99]⟩] [⟨#[120]⟩,⟨#[98]⟩,⟨#[99]⟩] [⟨#[97]⟩,⟨#[98]⟩]=0:=⟨by kernel_rfl,by kernel_rfl⟩
theorem d6u:a3d d2r=[⟨#[99,104,97,112,116,101,114,32,55]⟩,⟨#[108,105,110,101,32,116,104,101,32,115,101,97,32,105,115,32,111,108,100]⟩,⟨#[108,105,110,101,32,111,108,100,32,116,104,101,32,115,101,97]⟩,⟨#[99,104,97,112,116,101,114,32,51]⟩,⟨#[108,105,110,101,32,115,101,97,32,97,110,100,32,115,101,97]⟩]:=by simp only [a3d,d2r,List.flatMap_cons,List.flatMap_nil,e7j,List.map_cons,List.map_nil,g1i,g1m,g1w,g1k,g1n,g1h,g1l,g2a];kernel_rfl
theorem d8r:a7d c7a=[⟨#[99,111,112,121,32,52]⟩,⟨#[111,116,104,101,114,32,48,32,48,32,51,32,99,111,108,100]⟩,⟨#[111,109,105,116,32,48,32,49,32,49]⟩,⟨#[112,117,116,32,49,32,48,32,51,32,115,97,108,116]⟩]:=by simp only [a7d,c7a,List.map_cons,List.map_nil,c5w,atS,g1i,g1m,g1w,g1k,g1n,g1h,g1l,g2a];kernel_rfl
theorem e6j:b9b lexX=[⟨#[99,117,116,32,115,32,50]⟩,⟨#[99,117,116,32,108,100,32,108,100,101,32,49]⟩,⟨#[102,111,114,109,32,49,32,115,101,97,32,115,101,97,32,49]⟩,⟨#[102,114,111,109,32,50,32,48,32,49,32,48,32,111,108,100,32,97,103,101,32,51]⟩,⟨#[112,108,97,99,101,32,51,32,49,32,48,32,50,32,115,101,101,32,50]⟩,⟨#[118,111,105,100,32,53,32,51]⟩]:=by simp only [b9b,lexX,List.map_cons,List.map_nil,a8d,b1r,fmP,c5y,atS,g1i,g1m,g1w,g1k,g1n,g1h,g1l,g2a];kernel_rfl
theorem d4u:a1a slipsL=[⟨#[115,108,105,112,32,48,32,48,32,50,32,105,115]⟩,⟨#[98,101,102,111,114,101,32,115,101,97]⟩,⟨#[97,102,116,101,114,32,111,108,100,32,111,108,100]⟩]:=by simp only [a1a,slipsL,List.flatMap_cons,List.flatMap_nil,b1u,e4y,d5j,atS,g1i,g1m,g1w,g1k,g1n,g1h,g1l,g2a];kernel_rfl
theorem c9e:a3z slipsL=([⟨#[115,108,105,112,32,48,32,48,32,50,32,105,115]⟩,⟨#[98,101,102,111,114,101,32,115,101,97]⟩,⟨#[97,102,116,101,114,32,111,108,100,32,111,108,100]⟩],0):=by unfold a3z;rw [if_pos e7m,d4u];rfl
open Go Pm
set_option maxHeartbeats 4000000
set_option maxRecDepth 100000
theorem a7g (lo sz:Nat) (rows:List (List V)):a0l Tryz.prog 34 [.lst lo sz rows] (fun _=>.lst lo sz rows):=by
 refine a0b (ow:=fun _=>false) Tryz.func34 Tryz.ntmps34 rfl rfl fun G hG hOw hNm hB=>?_;simp only [go_sem,hG,hOw]
theorem b8l (a b c:Int):a0l Tryz.prog 41 [i64 a,i64 b,i64 c] (fun _=>.agg [i64 a,i64 b,i64 c]):=by
 refine a0b (ow:=fun _=>false) Tryz.func41 Tryz.ntmps41 rfl rfl fun G hG hOw hNm hB=>?_;simp only [go_sem,hG,hOw]
theorem e1e:a0l Tryz.prog 38 [] (fun n=>txE n d2r):=by
 refine a0b (ow:=fun _=>false) Tryz.func38 Tryz.ntmps38 rfl rfl fun G hG hOw hNm hB=>?_;simp only [go_sem,hG,hOw]
 try (repeat' with_reducible first|refine And.intro ?_ ?_|intro _|refine exP ?_ ?_);all_goals try omega
 exact .refl _
theorem b4i:a0l Tryz.prog 35 [] (fun n=>shE n shelfS):=by
 refine a0b (ow:=fun _=>false) Tryz.func35 Tryz.ntmps35 rfl rfl fun G hG hOw hNm hB=>?_;simp only [go_sem,hG,hOw]
 try (repeat' with_reducible first|refine And.intro ?_ ?_|intro _|refine exP ?_ ?_);all_goals try omega
 refine a1j (a7g _ _ _) (Subs.refl _) rfl (by simp [chk,hG]) ?_
 simp only [go_sem,hG,hOw]
 try (repeat' with_reducible first|refine And.intro ?_ ?_|intro _|refine exP ?_ ?_);all_goals try omega
 refine a1j (a7g _ _ _) (Subs.refl _) rfl (by simp [chk,hG]) ?_
 simp only [go_sem,hG,hOw]
 try (repeat' with_reducible first|refine And.intro ?_ ?_|intro _|refine exP ?_ ?_);all_goals try omega
 refine Subs.agg (.cons (.refl _) (.cons (Sub.lst (Nat.le_refl _) rfl fun i x x' h1 h2=>?_) .nil))
 match i with
 |0=>simp at h1;subst h1;simp [shelfS] at h2;subst h2;exact Subs.refl _
 |1=>simp at h1;subst h1;simp [shelfS] at h2;subst h2;exact .cons (.refl _) (.cons (.refl _) (.cons (.nil _ _) .nil))
 |i+2=>simp at h1
theorem f2p:a0l Tryz.prog 54 [] (fun n=>cpE n c7a):=by
 refine a0b (ow:=fun _=>false) Tryz.func54 Tryz.ntmps54 rfl rfl fun G hG hOw hNm hB=>?_;simp only [go_sem,hG,hOw]
 try (repeat' with_reducible first|refine And.intro ?_ ?_|intro _|refine exP ?_ ?_);all_goals try omega
 refine a1j (b8l _ _ _) (Subs.refl _) rfl (by simp [chk,hG]) ?_
 simp (maxSteps:=2000000) only [go_sem,hG,hOw,Nat.reduceMul]
 try (repeat' with_reducible first|refine And.intro ?_ ?_|intro _|refine exP ?_ ?_);all_goals try omega
 refine a1j (b8l _ _ _) (Subs.refl _) rfl (by simp [chk,hG]) ?_
 simp (maxSteps:=2000000) only [go_sem,hG,hOw,Nat.reduceMul]
 try (repeat' with_reducible first|refine And.intro ?_ ?_|intro _|refine exP ?_ ?_);all_goals try omega
 refine a1j (b8l _ _ _) (Subs.refl _) rfl (by simp [chk,hG]) ?_
 simp (maxSteps:=2000000) only [go_sem,hG,hOw,Nat.reduceMul]
 try (repeat' with_reducible first|refine And.intro ?_ ?_|intro _|refine exP ?_ ?_);all_goals try omega
 exact .refl _
theorem d2i:a0l Tryz.prog 55 [] (fun n=>lxE n lexX):=by
 refine a0b (ow:=fun _=>false) Tryz.func55 Tryz.ntmps55 rfl rfl fun G hG hOw hNm hB=>?_;simp only [go_sem,hG,hOw]
 try (repeat' with_reducible first|refine And.intro ?_ ?_|intro _|refine exP ?_ ?_);all_goals try omega
 refine a1j (b8l _ _ _) (Subs.refl _) rfl (by simp [chk,hG]) ?_
 simp (maxSteps:=2000000) only [go_sem,hG,hOw,Nat.reduceMul]
 try (repeat' with_reducible first|refine And.intro ?_ ?_|intro _|refine exP ?_ ?_);all_goals try omega
 refine a1j (b8l _ _ _) (Subs.refl _) rfl (by simp [chk,hG]) ?_
 simp (maxSteps:=2000000) only [go_sem,hG,hOw,Nat.reduceMul]
 try (repeat' with_reducible first|refine And.intro ?_ ?_|intro _|refine exP ?_ ?_);all_goals try omega
 exact .refl _
theorem f4h (l m:List ByteArray) (e:Int):a0l Tryz.prog 56 [a0o 0 l,i64 e,a0o 0 m] (fun _=>bl (decide (e=0) && decide (l=m))):=by
 by_cases he:e=0
 ·subst he
  refine a0b (ow:=fun _=>false) Tryz.func56 Tryz.ntmps56 rfl rfl fun G hG hOw hNm hB=>?_;simp only [go_sem,hG,hOw]
  (repeat' with_reducible first|refine And.intro ?_ ?_|intro _|refine exP ?_ ?_);all_goals try omega
  refine a0a (a8c _ _) ?_
  simp only [go_sem,hG,hOw]
  try (repeat' with_reducible first|refine And.intro ?_ ?_|intro _|refine exP ?_ ?_);all_goals try omega
  try simp
 ·rw [decide_eq_false he,Bool.false_and]
  refine a0b (ow:=fun _=>false) Tryz.func56 Tryz.ntmps56 rfl rfl fun G hG hOw hNm hB=>?_;simp only [go_sem,hG,hOw]
  simp (maxSteps:=2000000) only [go_sem,hG,hOw,decide_eq_false he]
  try (repeat' with_reducible first|refine And.intro ?_ ?_|intro _|refine exP ?_ ?_);all_goals try omega
open Go Pm
set_option maxRecDepth 100000
def f6w:List ByteArray:=[⟨#[97,98]⟩,⟨#[98]⟩]
def lAb:List ByteArray:=[⟨#[97,98]⟩]
def a5a:List ByteArray:=[⟨#[97,98]⟩,⟨#[99]⟩,⟨#[98]⟩]
def lC:List ByteArray:=[⟨#[99]⟩]
def a7i:List ByteArray:=[⟨#[99,111,112,121,32,52]⟩,⟨#[111,116,104,101,114,32,48,32,48,32,51,32,99,111,108,100]⟩,⟨#[111,109,105,116,32,48,32,49,32,49]⟩,⟨#[112,117,116,32,49,32,48,32,51,32,115,97,108,116]⟩]
def a8t:List ByteArray:=[⟨#[99,104,97,112,116,101,114,32,55]⟩,⟨#[108,105,110,101,32,116,104,101,32,115,101,97,32,105,115,32,111,108,100]⟩,⟨#[108,105,110,101,32,111,108,100,32,116,104,101,32,115,101,97]⟩,⟨#[99,104,97,112,116,101,114,32,51]⟩,⟨#[108,105,110,101,32,115,101,97,32,97,110,100,32,115,101,97]⟩]
def c8q:List ByteArray:=[⟨#[99,117,116,32,115,32,50]⟩,⟨#[99,117,116,32,108,100,32,108,100,101,32,49]⟩,⟨#[102,111,114,109,32,49,32,115,101,97,32,115,101,97,32,49]⟩,⟨#[102,114,111,109,32,50,32,48,32,49,32,48,32,111,108,100,32,97,103,101,32,51]⟩,⟨#[112,108,97,99,101,32,51,32,49,32,48,32,50,32,115,101,101,32,50]⟩,⟨#[118,111,105,100,32,53,32,51]⟩]
def a8l:List ByteArray:=[⟨#[115,108,105,112,32,48,32,48,32,50,32,105,115]⟩,⟨#[98,101,102,111,114,101,32,115,101,97]⟩,⟨#[97,102,116,101,114,32,111,108,100,32,111,108,100]⟩]
def g2b:List ByteArray:=[⟨#[97]⟩,⟨#[98]⟩,⟨#[99]⟩]
def g1x:List ByteArray:=[⟨#[120]⟩,⟨#[98]⟩,⟨#[99]⟩]
def lAB:List ByteArray:=[⟨#[97]⟩,⟨#[98]⟩]
def lXB:List ByteArray:=[⟨#[120]⟩,⟨#[98]⟩]
def sWr:ByteArray:=⟨#[97,98,32,115,103,10,98,32,101,97,10]⟩
def sRd:ByteArray:=⟨#[97,98,32,115,103,10,98,32,101,97]⟩
def shSave:Sh:=⟨f6w,[⟨1,0,lC⟩]⟩
def shPrune:Sh:=⟨a5a,[⟨0,1,[]⟩]⟩
def f0e:Sh:=⟨f6w,[]⟩
theorem cWr:a0l Tryz.prog 14 [a0o 0 f6w] (fun n=>.tup [str sWr,i64 0]):=by
 have h:=e5t f6w
 rw [show wrS f6w=sWr from al_wr.1] at h
 rw [show wrE f6w=0 from al_wr.2] at h
 exact h
theorem cRd:a0l Tryz.prog 15 [str sRd] (fun n=>.tup [a0o n lAb,i64 6,i64 0]):=by
 have h:=f4x sRd
 rw [show rdL sRd=lAb from al_rd.1] at h
 rw [show rdN sRd=6 from al_rd.2.1] at h
 rw [show e4m sRd=0 from al_rd.2.2] at h
 exact h
theorem g2c:a0l Tryz.prog 33 [shE 0 f0e,a0o 0 a5a] (fun n=>.tup [shE n shSave,i64 0]):=by
 have h:=f2u f0e a5a (by decide) (by intro c hc;cases hc) (by decide)
 rw [show c4m f0e a5a=shSave from al_save.1] at h
 rw [show b4g f0e a5a=0 from al_save.2] at h
 exact h
theorem g4u:a0l Tryz.prog 39 [shE 0 shelfS,i64 1] (fun n=>.tup [a0o n a5a,i64 0]):=by
 have h:=f2j shelfS 1 (by decide) (by intro c hc;simp only [shelfS,List.mem_cons,List.not_mem_nil,or_false] at hc;rcases hc with rfl|rfl<;>decide)
 rw [show b4t shelfS 1=a5a from al_back.1] at h
 rw [show a6l shelfS 1=0 from al_back.2] at h
 exact h
theorem f8h:a0l Tryz.prog 40 [shE 0 shelfS,i64 1] (fun n=>.tup [shE n shPrune,i64 0]):=by
 have h:=f0k shelfS 1 (by decide) (by intro c hc;simp only [shelfS,List.mem_cons,List.not_mem_nil,or_false] at hc;rcases hc with rfl|rfl<;>decide)
 rw [show b6z shelfS 1=shPrune from e9u] at h
 rw [show a6l shelfS 1=0 from al_back.2] at h
 exact h
theorem g3e:a0l Tryz.prog 20 [txE 0 d2r,cpE 0 c7a] (fun n=>.tup [a0o n a7i,i64 0]):=by
 have h:=d7a d2r c7a
 rw [f3k,if_pos rfl] at h
 rw [show a7d c7a=a7i from d8r] at h
 exact h
theorem g2y:a0l Tryz.prog 13 [txE 0 d2r] (fun n=>.tup [a0o n a8t,i64 0]):=by
 have h:=e2q d2r
 rw [f3y,if_pos rfl,if_pos rfl] at h
 rw [show a3d d2r=a8t from d6u] at h
 exact h
theorem g5l:a0l Tryz.prog 31 [txE 0 d2r,lxE 0 lexX] (fun n=>.tup [a0o n c8q,i64 0]):=by
 have hb:(∀ r ∈ lexX.rules,bdR r)∧(∀ d ∈ lexX.decs,bdD d)∧lexX.rules.length≤1000∧lexX.decs.length≤1000:=by
  refine ⟨?_,?_,by decide,by decide⟩
  ·intro r hr;simp only [lexX,List.mem_cons,List.not_mem_nil,or_false] at hr;rcases hr with rfl|rfl<;>exact ⟨by decide,by decide⟩
  ·intro r hr;simp only [lexX,List.mem_cons,List.not_mem_nil,or_false] at hr;rcases hr with rfl|rfl|rfl|rfl<;>exact ⟨by decide,by decide⟩
 have h:=c3s d2r lexX hb
 rw [f8v,if_pos rfl] at h
 rw [show b9b lexX=c8q from e6j] at h
 exact h
theorem f9p:a0l Tryz.prog 29 [sis 0 slipsL] (fun n=>.tup [a0o n a8l,i64 0]):=by
 have h:=b8v slipsL (by decide) (by intro r hr;simp only [slipsL,List.mem_cons,List.not_mem_nil,or_false] at hr;subst hr;exact ⟨by decide,by decide,by decide⟩)
 rw [show a3z slipsL=(a8l,0) from c9e] at h
 exact h
theorem f8o:a0l Tryz.prog 37 [a0o 0 g2b,a0o 0 g1x,a0o 0 lAB] (fun n=>.tup [a0o n lXB,i64 0]):=by
 have h:=e6l g2b g1x lAB (by decide) (by decide) (by decide)
 rw [show a5f g2b g1x lAB=lXB from al_merge.1] at h
 rw [show a3h g2b g1x lAB=0 from al_merge.2] at h
 exact h
theorem c7f (l:List ByteArray):a0l Tryz.prog 56 [a0o 0 l,i64 0,a0o 0 l] (fun _=>bl true):=by
 have h:=f4h l l 0
 rw [decide_eq_true (rfl:l=l)] at h
 exact h
theorem f1r (s:Sh):a0l Tryz.prog 36 [shE 0 s,shE 0 s] (fun _=>bl true):=by
 have h:=c3r s s
 rw [decide_eq_true (rfl:s=s)] at h
 exact h
theorem d0e (lo:Nat) (s:Sh):Pm.Sub (.agg [.lst lo 1 (s.first.map a1z),.lst lo 3 (s.chg.map (hkE lo))]) (shE 0 s) :=
 Subs.agg (.cons (.lo (Nat.zero_le _)) (.cons (.map (Nat.zero_le _) fun c=>.cons (.refl _) (.cons (.refl _) (.cons (.lo (Nat.zero_le _)) .nil))) .nil))
open Go Pm
set_option maxHeartbeats 4000000
set_option maxRecDepth 100000
theorem g4n {G:Gh} {lo:Nat} (hG:G.n=168) (hOw:G.ow=fun _=>false) (hNm:G.nm=[]) (h:SemL Tryz.prog G ((a5p (Tryz.f9.body.getD .skip)).drop 2) (St.of [(1,str sWr),(2,i64 0)] []) (a2g Tryz.prog lo [.tmp 0] (bl true))) :
  SemL Tryz.prog G ((a5p (Tryz.f9.body.getD .skip)).drop 1) (St.of [] []) (a2g Tryz.prog lo [.tmp 0] (bl true)):=by
 refine a1g 1 _ _ ?_
 simp only [Tryz.f9,Option.getD_some,a2y,a1s,a2k,a2e,a3a,List.singleton_append,List.cons_append,List.nil_append,List.drop_succ_cons,List.drop_zero]
 simp only [go_sem,hG,hOw]
 try (repeat' with_reducible first|refine And.intro ?_ ?_|intro _|refine exP ?_ ?_);all_goals try omega
 refine a1j (a7g _ _ _) (Subs.refl _) rfl (by simp [chk,hG]) ?_
 simp (maxSteps:=2000000) only [go_sem,hG,hOw,Nat.reduceMul]
 try (repeat' with_reducible first|refine And.intro ?_ ?_|intro _|refine exP ?_ ?_);all_goals try omega
 refine a0a cWr ?_
 simp (maxSteps:=2000000) only [go_sem,hG,hOw,Nat.reduceMul]
 try (repeat' with_reducible first|refine And.intro ?_ ?_|intro _|refine exP ?_ ?_);all_goals try omega
 refine a2x (s':=St.of [(1,str sWr),(2,i64 0)] []) (a1e (by (simp only [go_sem])<;>simp) hNm) ?_
 exact h
theorem g2r {G:Gh} {lo:Nat} (hG:G.n=168) (hOw:G.ow=fun _=>false) (hNm:G.nm=[]) (h:SemL Tryz.prog G ((a5p (Tryz.f9.body.getD .skip)).drop 3) (St.of [(1,str sWr),(2,i64 0),(3,a0o G.lo lAb),(4,i64 6),(5,i64 0)] []) (a2g Tryz.prog lo [.tmp 0] (bl true))) :
  SemL Tryz.prog G ((a5p (Tryz.f9.body.getD .skip)).drop 2) (St.of [(1,str sWr),(2,i64 0)] []) (a2g Tryz.prog lo [.tmp 0] (bl true)):=by
 refine a1g 1 _ _ ?_
 simp only [Tryz.f9,Option.getD_some,a2y,a1s,a2k,a2e,a3a,List.singleton_append,List.cons_append,List.nil_append,List.drop_succ_cons,List.drop_zero]
 simp only [go_sem,hG,hOw]
 try (repeat' with_reducible first|refine And.intro ?_ ?_|intro _|refine exP ?_ ?_);all_goals try omega
 refine a0a cRd ?_
 simp (maxSteps:=2000000) only [go_sem,hG,hOw,Nat.reduceMul]
 try (repeat' with_reducible first|refine And.intro ?_ ?_|intro _|refine exP ?_ ?_);all_goals try omega
 refine a2x (s':=St.of [(1,str sWr),(2,i64 0),(3,a0o G.lo lAb),(4,i64 6),(5,i64 0)] []) (a1e (by (simp only [go_sem])<;>simp) hNm) ?_
 exact h
theorem g4z {G:Gh} {lo:Nat} (hG:G.n=168) (hOw:G.ow=fun _=>false) (hNm:G.nm=[]) (h:SemL Tryz.prog G ((a5p (Tryz.f9.body.getD .skip)).drop 4) (St.of [(1,str sWr),(2,i64 0),(3,a0o G.lo lAb),(4,i64 6),(5,i64 0),(6,.ptr 6 0),(7,i64 0)] [(6,.box [a0o G.lo shSave.first,hks G.lo shSave.chg])]) (a2g Tryz.prog lo [.tmp 0] (bl true))) :
  SemL Tryz.prog G ((a5p (Tryz.f9.body.getD .skip)).drop 3) (St.of [(1,str sWr),(2,i64 0),(3,a0o G.lo lAb),(4,i64 6),(5,i64 0)] []) (a2g Tryz.prog lo [.tmp 0] (bl true)):=by
 refine a1g 1 _ _ ?_
 simp only [Tryz.f9,Option.getD_some,a2y,a1s,a2k,a2e,a3a,List.singleton_append,List.cons_append,List.nil_append,List.drop_succ_cons,List.drop_zero]
 simp only [go_sem,hG,hOw]
 try (repeat' with_reducible first|refine And.intro ?_ ?_|intro _|refine exP ?_ ?_);all_goals try omega
 refine a1j (a7g _ _ _) (Subs.refl _) rfl (by simp [chk,hG]) ?_
 simp (maxSteps:=2000000) only [go_sem,hG,hOw,Nat.reduceMul]
 try (repeat' with_reducible first|refine And.intro ?_ ?_|intro _|refine exP ?_ ?_);all_goals try omega
 refine a1j (a7g _ _ _) (Subs.refl _) rfl (by simp [chk,hG]) ?_
 simp (maxSteps:=2000000) only [go_sem,hG,hOw,Nat.reduceMul]
 try (repeat' with_reducible first|refine And.intro ?_ ?_|intro _|refine exP ?_ ?_);all_goals try omega
 refine a1j g2c (Subs.cons (Subs.agg (.cons (.lo (Nat.zero_le _)) (.cons (.nil _ _) .nil))) (.cons (.lo (Nat.zero_le _)) .nil)) rfl (by simp [chk,hG]) ?_
 simp (maxSteps:=2000000) only [go_sem,hG,hOw,Nat.reduceMul]
 try (repeat' with_reducible first|refine And.intro ?_ ?_|intro _|refine exP ?_ ?_);all_goals try omega
 refine a2x (s':=St.of [(1,str sWr),(2,i64 0),(3,a0o G.lo lAb),(4,i64 6),(5,i64 0),(6,.ptr 6 0),(7,i64 0)] [(6,.box [a0o G.lo shSave.first,hks G.lo shSave.chg])]) (a1m [(6,some 6)]) ?_
 exact h
theorem g3z {G:Gh} {lo:Nat} (hG:G.n=168) (hOw:G.ow=fun _=>false) (hNm:G.nm=[]) (h:SemL Tryz.prog G ((a5p (Tryz.f9.body.getD .skip)).drop 5) (St.of [(1,str sWr),(2,i64 0),(3,a0o G.lo lAb),(4,i64 6),(5,i64 0),(6,.ptr 6 0),(7,i64 0),(8,a0o G.lo a5a),(9,i64 0)] [(6,.box [a0o G.lo shSave.first,hks G.lo shSave.chg])]) (a2g Tryz.prog lo [.tmp 0] (bl true))) :
  SemL Tryz.prog G ((a5p (Tryz.f9.body.getD .skip)).drop 4) (St.of [(1,str sWr),(2,i64 0),(3,a0o G.lo lAb),(4,i64 6),(5,i64 0),(6,.ptr 6 0),(7,i64 0)] [(6,.box [a0o G.lo shSave.first,hks G.lo shSave.chg])]) (a2g Tryz.prog lo [.tmp 0] (bl true)):=by
 refine a1g 1 _ _ ?_
 simp only [Tryz.f9,Option.getD_some,a2y,a1s,a2k,a2e,a3a,List.singleton_append,List.cons_append,List.nil_append,List.drop_succ_cons,List.drop_zero]
 simp only [go_sem,hG,hOw]
 try (repeat' with_reducible first|refine And.intro ?_ ?_|intro _|refine exP ?_ ?_);all_goals try omega
 refine a0a b4i ?_
 simp (maxSteps:=2000000) only [go_sem,hG,hOw,Nat.reduceMul]
 refine a0a g4u ?_
 simp (maxSteps:=2000000) only [go_sem,hG,hOw,Nat.reduceMul]
 try (repeat' with_reducible first|refine And.intro ?_ ?_|intro _|refine exP ?_ ?_);all_goals try omega
 refine a2x (s':=St.of [(1,str sWr),(2,i64 0),(3,a0o G.lo lAb),(4,i64 6),(5,i64 0),(6,.ptr 6 0),(7,i64 0),(8,a0o G.lo a5a),(9,i64 0)] [(6,.box [a0o G.lo shSave.first,hks G.lo shSave.chg])]) (a1m [(6,some 6)]) ?_
 exact h
theorem g4o {G:Gh} {lo:Nat} (hG:G.n=168) (hOw:G.ow=fun _=>false) (hNm:G.nm=[]) (h:SemL Tryz.prog G ((a5p (Tryz.f9.body.getD .skip)).drop 6) (St.of [(1,str sWr),(2,i64 0),(3,a0o G.lo lAb),(4,i64 6),(5,i64 0),(6,.ptr 6 0),(7,i64 0),(8,a0o G.lo a5a),(9,i64 0),(10,.ptr 10 0),(11,i64 0)] [(6,.box [a0o G.lo shSave.first,hks G.lo shSave.chg]),(10,.box [a0o G.lo shPrune.first,hks G.lo shPrune.chg])]) (a2g Tryz.prog lo [.tmp 0] (bl true))) :
  SemL Tryz.prog G ((a5p (Tryz.f9.body.getD .skip)).drop 5) (St.of [(1,str sWr),(2,i64 0),(3,a0o G.lo lAb),(4,i64 6),(5,i64 0),(6,.ptr 6 0),(7,i64 0),(8,a0o G.lo a5a),(9,i64 0)] [(6,.box [a0o G.lo shSave.first,hks G.lo shSave.chg])]) (a2g Tryz.prog lo [.tmp 0] (bl true)):=by
 refine a1g 1 _ _ ?_
 simp only [Tryz.f9,Option.getD_some,a2y,a1s,a2k,a2e,a3a,List.singleton_append,List.cons_append,List.nil_append,List.drop_succ_cons,List.drop_zero]
 simp only [go_sem,hG,hOw]
 try (repeat' with_reducible first|refine And.intro ?_ ?_|intro _|refine exP ?_ ?_);all_goals try omega
 refine a0a b4i ?_
 simp (maxSteps:=2000000) only [go_sem,hG,hOw,Nat.reduceMul]
 refine a0a f8h ?_
 simp (maxSteps:=2000000) only [go_sem,hG,hOw,Nat.reduceMul]
 try (repeat' with_reducible first|refine And.intro ?_ ?_|intro _|refine exP ?_ ?_);all_goals try omega
 refine a2x (s':=St.of [(1,str sWr),(2,i64 0),(3,a0o G.lo lAb),(4,i64 6),(5,i64 0),(6,.ptr 6 0),(7,i64 0),(8,a0o G.lo a5a),(9,i64 0),(10,.ptr 10 0),(11,i64 0)] [(6,.box [a0o G.lo shSave.first,hks G.lo shSave.chg]),(10,.box [a0o G.lo shPrune.first,hks G.lo shPrune.chg])]) (a1m [(6,some 6),(10,some 10)]) ?_
 exact h
theorem g4g {G:Gh} {lo:Nat} (hG:G.n=168) (hOw:G.ow=fun _=>false) (hNm:G.nm=[]) (h:SemL Tryz.prog G ((a5p (Tryz.f9.body.getD .skip)).drop 7) (St.of [(1,str sWr),(2,i64 0),(3,a0o G.lo lAb),(4,i64 6),(5,i64 0),(6,.ptr 6 0),(7,i64 0),(8,a0o G.lo a5a),(9,i64 0),(10,.ptr 10 0),(11,i64 0),(12,a0o G.lo a7i),(13,i64 0)] [(6,.box [a0o G.lo shSave.first,hks G.lo shSave.chg]),(10,.box [a0o G.lo shPrune.first,hks G.lo shPrune.chg])]) (a2g Tryz.prog lo [.tmp 0] (bl true))) :
  SemL Tryz.prog G ((a5p (Tryz.f9.body.getD .skip)).drop 6) (St.of [(1,str sWr),(2,i64 0),(3,a0o G.lo lAb),(4,i64 6),(5,i64 0),(6,.ptr 6 0),(7,i64 0),(8,a0o G.lo a5a),(9,i64 0),(10,.ptr 10 0),(11,i64 0)] [(6,.box [a0o G.lo shSave.first,hks G.lo shSave.chg]),(10,.box [a0o G.lo shPrune.first,hks G.lo shPrune.chg])]) (a2g Tryz.prog lo [.tmp 0] (bl true)):=by
 refine a1g 1 _ _ ?_
 simp only [Tryz.f9,Option.getD_some,a2y,a1s,a2k,a2e,a3a,List.singleton_append,List.cons_append,List.nil_append,List.drop_succ_cons,List.drop_zero]
 simp only [go_sem,hG,hOw]
 try (repeat' with_reducible first|refine And.intro ?_ ?_|intro _|refine exP ?_ ?_);all_goals try omega
 refine a0a e1e ?_
 simp (maxSteps:=2000000) only [go_sem,hG,hOw,Nat.reduceMul]
 try (repeat' with_reducible first|refine And.intro ?_ ?_|intro _|refine exP ?_ ?_);all_goals try omega
 refine a0a f2p ?_
 simp (maxSteps:=2000000) only [go_sem,hG,hOw,Nat.reduceMul]
 try (repeat' with_reducible first|refine And.intro ?_ ?_|intro _|refine exP ?_ ?_);all_goals try omega
 refine a0a g3e ?_
 simp (maxSteps:=2000000) only [go_sem,hG,hOw,Nat.reduceMul]
 try (repeat' with_reducible first|refine And.intro ?_ ?_|intro _|refine exP ?_ ?_);all_goals try omega
 refine a2x (s':=St.of [(1,str sWr),(2,i64 0),(3,a0o G.lo lAb),(4,i64 6),(5,i64 0),(6,.ptr 6 0),(7,i64 0),(8,a0o G.lo a5a),(9,i64 0),(10,.ptr 10 0),(11,i64 0),(12,a0o G.lo a7i),(13,i64 0)] [(6,.box [a0o G.lo shSave.first,hks G.lo shSave.chg]),(10,.box [a0o G.lo shPrune.first,hks G.lo shPrune.chg])]) (a1m [(6,some 6),(10,some 10)]) ?_
 exact h
theorem g3h {G:Gh} {lo:Nat} (hG:G.n=168) (hOw:G.ow=fun _=>false) (hNm:G.nm=[]) (h:SemL Tryz.prog G ((a5p (Tryz.f9.body.getD .skip)).drop 8) (St.of [(1,str sWr),(2,i64 0),(3,a0o G.lo lAb),(4,i64 6),(5,i64 0),(6,.ptr 6 0),(7,i64 0),(8,a0o G.lo a5a),(9,i64 0),(10,.ptr 10 0),(11,i64 0),(12,a0o G.lo a7i),(13,i64 0),(14,a0o G.lo a8t),(15,i64 0)] [(6,.box [a0o G.lo shSave.first,hks G.lo shSave.chg]),(10,.box [a0o G.lo shPrune.first,hks G.lo shPrune.chg])]) (a2g Tryz.prog lo [.tmp 0] (bl true))) :
  SemL Tryz.prog G ((a5p (Tryz.f9.body.getD .skip)).drop 7) (St.of [(1,str sWr),(2,i64 0),(3,a0o G.lo lAb),(4,i64 6),(5,i64 0),(6,.ptr 6 0),(7,i64 0),(8,a0o G.lo a5a),(9,i64 0),(10,.ptr 10 0),(11,i64 0),(12,a0o G.lo a7i),(13,i64 0)] [(6,.box [a0o G.lo shSave.first,hks G.lo shSave.chg]),(10,.box [a0o G.lo shPrune.first,hks G.lo shPrune.chg])]) (a2g Tryz.prog lo [.tmp 0] (bl true)):=by
 refine a1g 1 _ _ ?_
 simp only [Tryz.f9,Option.getD_some,a2y,a1s,a2k,a2e,a3a,List.singleton_append,List.cons_append,List.nil_append,List.drop_succ_cons,List.drop_zero]
 simp only [go_sem,hG,hOw]
 try (repeat' with_reducible first|refine And.intro ?_ ?_|intro _|refine exP ?_ ?_);all_goals try omega
 refine a0a e1e ?_
 simp (maxSteps:=2000000) only [go_sem,hG,hOw,Nat.reduceMul]
 try (repeat' with_reducible first|refine And.intro ?_ ?_|intro _|refine exP ?_ ?_);all_goals try omega
 refine a0a g2y ?_
 simp (maxSteps:=2000000) only [go_sem,hG,hOw,Nat.reduceMul]
 try (repeat' with_reducible first|refine And.intro ?_ ?_|intro _|refine exP ?_ ?_);all_goals try omega
 refine a2x (s':=St.of [(1,str sWr),(2,i64 0),(3,a0o G.lo lAb),(4,i64 6),(5,i64 0),(6,.ptr 6 0),(7,i64 0),(8,a0o G.lo a5a),(9,i64 0),(10,.ptr 10 0),(11,i64 0),(12,a0o G.lo a7i),(13,i64 0),(14,a0o G.lo a8t),(15,i64 0)] [(6,.box [a0o G.lo shSave.first,hks G.lo shSave.chg]),(10,.box [a0o G.lo shPrune.first,hks G.lo shPrune.chg])]) (a1m [(6,some 6),(10,some 10)]) ?_
 exact h
theorem g3l {G:Gh} {lo:Nat} (hG:G.n=168) (hOw:G.ow=fun _=>false) (hNm:G.nm=[]) (h:SemL Tryz.prog G ((a5p (Tryz.f9.body.getD .skip)).drop 9) (St.of [(1,str sWr),(2,i64 0),(3,a0o G.lo lAb),(4,i64 6),(5,i64 0),(6,.ptr 6 0),(7,i64 0),(8,a0o G.lo a5a),(9,i64 0),(10,.ptr 10 0),(11,i64 0),(12,a0o G.lo a7i),(13,i64 0),(14,a0o G.lo a8t),(15,i64 0),(16,a0o G.lo c8q),(17,i64 0)] [(6,.box [a0o G.lo shSave.first,hks G.lo shSave.chg]),(10,.box [a0o G.lo shPrune.first,hks G.lo shPrune.chg])]) (a2g Tryz.prog lo [.tmp 0] (bl true))) :
  SemL Tryz.prog G ((a5p (Tryz.f9.body.getD .skip)).drop 8) (St.of [(1,str sWr),(2,i64 0),(3,a0o G.lo lAb),(4,i64 6),(5,i64 0),(6,.ptr 6 0),(7,i64 0),(8,a0o G.lo a5a),(9,i64 0),(10,.ptr 10 0),(11,i64 0),(12,a0o G.lo a7i),(13,i64 0),(14,a0o G.lo a8t),(15,i64 0)] [(6,.box [a0o G.lo shSave.first,hks G.lo shSave.chg]),(10,.box [a0o G.lo shPrune.first,hks G.lo shPrune.chg])]) (a2g Tryz.prog lo [.tmp 0] (bl true)):=by
 refine a1g 1 _ _ ?_
 simp only [Tryz.f9,Option.getD_some,a2y,a1s,a2k,a2e,a3a,List.singleton_append,List.cons_append,List.nil_append,List.drop_succ_cons,List.drop_zero]
 simp only [go_sem,hG,hOw]
 try (repeat' with_reducible first|refine And.intro ?_ ?_|intro _|refine exP ?_ ?_);all_goals try omega
 refine a0a e1e ?_
 simp (maxSteps:=2000000) only [go_sem,hG,hOw,Nat.reduceMul]
 try (repeat' with_reducible first|refine And.intro ?_ ?_|intro _|refine exP ?_ ?_);all_goals try omega
 refine a0a d2i ?_
 simp (maxSteps:=2000000) only [go_sem,hG,hOw,Nat.reduceMul]
 try (repeat' with_reducible first|refine And.intro ?_ ?_|intro _|refine exP ?_ ?_);all_goals try omega
 refine a0a g5l ?_
 simp (maxSteps:=2000000) only [go_sem,hG,hOw,Nat.reduceMul]
 try (repeat' with_reducible first|refine And.intro ?_ ?_|intro _|refine exP ?_ ?_);all_goals try omega
 refine a2x (s':=St.of [(1,str sWr),(2,i64 0),(3,a0o G.lo lAb),(4,i64 6),(5,i64 0),(6,.ptr 6 0),(7,i64 0),(8,a0o G.lo a5a),(9,i64 0),(10,.ptr 10 0),(11,i64 0),(12,a0o G.lo a7i),(13,i64 0),(14,a0o G.lo a8t),(15,i64 0),(16,a0o G.lo c8q),(17,i64 0)] [(6,.box [a0o G.lo shSave.first,hks G.lo shSave.chg]),(10,.box [a0o G.lo shPrune.first,hks G.lo shPrune.chg])]) (a1m [(6,some 6),(10,some 10)]) ?_
 exact h
theorem g3u {G:Gh} {lo:Nat} (hG:G.n=168) (hOw:G.ow=fun _=>false) (hNm:G.nm=[]) (h:SemL Tryz.prog G ((a5p (Tryz.f9.body.getD .skip)).drop 10) (St.of [(1,str sWr),(2,i64 0),(3,a0o G.lo lAb),(4,i64 6),(5,i64 0),(6,.ptr 6 0),(7,i64 0),(8,a0o G.lo a5a),(9,i64 0),(10,.ptr 10 0),(11,i64 0),(12,a0o G.lo a7i),(13,i64 0),(14,a0o G.lo a8t),(15,i64 0),(16,a0o G.lo c8q),(17,i64 0),(18,a0o G.lo a8l),(19,i64 0)] [(6,.box [a0o G.lo shSave.first,hks G.lo shSave.chg]),(10,.box [a0o G.lo shPrune.first,hks G.lo shPrune.chg])]) (a2g Tryz.prog lo [.tmp 0] (bl true))) :
  SemL Tryz.prog G ((a5p (Tryz.f9.body.getD .skip)).drop 9) (St.of [(1,str sWr),(2,i64 0),(3,a0o G.lo lAb),(4,i64 6),(5,i64 0),(6,.ptr 6 0),(7,i64 0),(8,a0o G.lo a5a),(9,i64 0),(10,.ptr 10 0),(11,i64 0),(12,a0o G.lo a7i),(13,i64 0),(14,a0o G.lo a8t),(15,i64 0),(16,a0o G.lo c8q),(17,i64 0)] [(6,.box [a0o G.lo shSave.first,hks G.lo shSave.chg]),(10,.box [a0o G.lo shPrune.first,hks G.lo shPrune.chg])]) (a2g Tryz.prog lo [.tmp 0] (bl true)):=by
 refine a1g 1 _ _ ?_
 simp only [Tryz.f9,Option.getD_some,a2y,a1s,a2k,a2e,a3a,List.singleton_append,List.cons_append,List.nil_append,List.drop_succ_cons,List.drop_zero]
 simp only [go_sem,hG,hOw]
 try (repeat' with_reducible first|refine And.intro ?_ ?_|intro _|refine exP ?_ ?_);all_goals try omega
 refine a0a (b8l _ _ _) ?_
 simp (maxSteps:=2000000) only [go_sem,hG,hOw,Nat.reduceMul]
 try (repeat' with_reducible first|refine And.intro ?_ ?_|intro _|refine exP ?_ ?_);all_goals try omega
 refine a0a f9p ?_
 simp (maxSteps:=2000000) only [go_sem,hG,hOw,Nat.reduceMul]
 try (repeat' with_reducible first|refine And.intro ?_ ?_|intro _|refine exP ?_ ?_);all_goals try omega
 refine a2x (s':=St.of [(1,str sWr),(2,i64 0),(3,a0o G.lo lAb),(4,i64 6),(5,i64 0),(6,.ptr 6 0),(7,i64 0),(8,a0o G.lo a5a),(9,i64 0),(10,.ptr 10 0),(11,i64 0),(12,a0o G.lo a7i),(13,i64 0),(14,a0o G.lo a8t),(15,i64 0),(16,a0o G.lo c8q),(17,i64 0),(18,a0o G.lo a8l),(19,i64 0)] [(6,.box [a0o G.lo shSave.first,hks G.lo shSave.chg]),(10,.box [a0o G.lo shPrune.first,hks G.lo shPrune.chg])]) (a1m [(6,some 6),(10,some 10)]) ?_
 exact h
theorem f8k {G:Gh} {lo:Nat} (hG:G.n=168) (hOw:G.ow=fun _=>false) (hNm:G.nm=[]) (h:SemL Tryz.prog G ((a5p (Tryz.f9.body.getD .skip)).drop 11) (St.of [(1,str sWr),(2,i64 0),(3,a0o G.lo lAb),(4,i64 6),(5,i64 0),(6,.ptr 6 0),(7,i64 0),(8,a0o G.lo a5a),(9,i64 0),(10,.ptr 10 0),(11,i64 0),(12,a0o G.lo a7i),(13,i64 0),(14,a0o G.lo a8t),(15,i64 0),(16,a0o G.lo c8q),(17,i64 0),(18,a0o G.lo a8l),(19,i64 0),(20,a0o G.lo lXB),(21,i64 0)] [(6,.box [a0o G.lo shSave.first,hks G.lo shSave.chg]),(10,.box [a0o G.lo shPrune.first,hks G.lo shPrune.chg])]) (a2g Tryz.prog lo [.tmp 0] (bl true))) :
  SemL Tryz.prog G ((a5p (Tryz.f9.body.getD .skip)).drop 10) (St.of [(1,str sWr),(2,i64 0),(3,a0o G.lo lAb),(4,i64 6),(5,i64 0),(6,.ptr 6 0),(7,i64 0),(8,a0o G.lo a5a),(9,i64 0),(10,.ptr 10 0),(11,i64 0),(12,a0o G.lo a7i),(13,i64 0),(14,a0o G.lo a8t),(15,i64 0),(16,a0o G.lo c8q),(17,i64 0),(18,a0o G.lo a8l),(19,i64 0)] [(6,.box [a0o G.lo shSave.first,hks G.lo shSave.chg]),(10,.box [a0o G.lo shPrune.first,hks G.lo shPrune.chg])]) (a2g Tryz.prog lo [.tmp 0] (bl true)):=by
 refine a1g 1 _ _ ?_
 simp only [Tryz.f9,Option.getD_some,a2y,a1s,a2k,a2e,a3a,List.singleton_append,List.cons_append,List.nil_append,List.drop_succ_cons,List.drop_zero]
 simp only [go_sem,hG,hOw]
 try (repeat' with_reducible first|refine And.intro ?_ ?_|intro _|refine exP ?_ ?_);all_goals try omega
 refine a1j (a7g _ _ _) (Subs.refl _) rfl (by simp [chk,hG]) ?_
 simp (maxSteps:=2000000) only [go_sem,hG,hOw,Nat.reduceMul]
 try (repeat' with_reducible first|refine And.intro ?_ ?_|intro _|refine exP ?_ ?_);all_goals try omega
 refine a1j (a7g _ _ _) (Subs.refl _) rfl (by simp [chk,hG]) ?_
 simp (maxSteps:=2000000) only [go_sem,hG,hOw,Nat.reduceMul]
 try (repeat' with_reducible first|refine And.intro ?_ ?_|intro _|refine exP ?_ ?_);all_goals try omega
 refine a1j (a7g _ _ _) (Subs.refl _) rfl (by simp [chk,hG]) ?_
 simp (maxSteps:=2000000) only [go_sem,hG,hOw,Nat.reduceMul]
 try (repeat' with_reducible first|refine And.intro ?_ ?_|intro _|refine exP ?_ ?_);all_goals try omega
 refine a0a f8o ?_
 simp (maxSteps:=2000000) only [go_sem,hG,hOw,Nat.reduceMul]
 try (repeat' with_reducible first|refine And.intro ?_ ?_|intro _|refine exP ?_ ?_);all_goals try omega
 refine a2x (s':=St.of [(1,str sWr),(2,i64 0),(3,a0o G.lo lAb),(4,i64 6),(5,i64 0),(6,.ptr 6 0),(7,i64 0),(8,a0o G.lo a5a),(9,i64 0),(10,.ptr 10 0),(11,i64 0),(12,a0o G.lo a7i),(13,i64 0),(14,a0o G.lo a8t),(15,i64 0),(16,a0o G.lo c8q),(17,i64 0),(18,a0o G.lo a8l),(19,i64 0),(20,a0o G.lo lXB),(21,i64 0)] [(6,.box [a0o G.lo shSave.first,hks G.lo shSave.chg]),(10,.box [a0o G.lo shPrune.first,hks G.lo shPrune.chg])]) (a1m [(6,some 6),(10,some 10)]) ?_
 exact h
theorem f8w {G:Gh} {lo:Nat} (hG:G.n=168) (hOw:G.ow=fun _=>false) (hNm:G.nm=[]) :
  SemL Tryz.prog G ((a5p (Tryz.f9.body.getD .skip)).drop 13) (St.of [(12,a0o G.lo a7i),(13,i64 0),(14,a0o G.lo a8t),(15,i64 0),(16,a0o G.lo c8q),(17,i64 0),(18,a0o G.lo a8l),(19,i64 0),(20,a0o G.lo lXB),(21,i64 0)] []) (a2g Tryz.prog lo [.tmp 0] (bl true)):=by
 refine a1g 2 _ _ ?_
 simp only [Tryz.f9,Option.getD_some,a2y,a1s,a2k,a2e,a3a,List.singleton_append,List.cons_append,List.nil_append,List.drop_succ_cons,List.drop_zero]
 simp only [go_sem,hG,hOw]
 try (repeat' with_reducible first|refine And.intro ?_ ?_|intro _|refine exP ?_ ?_);all_goals try omega
 refine a0a (c7f a7i) ?_
 simp (maxSteps:=2000000) only [go_sem,hG,hOw,Nat.reduceMul]
 try (repeat' with_reducible first|refine And.intro ?_ ?_|intro _|refine exP ?_ ?_);all_goals try omega
 refine a0a (c7f a8t) ?_
 simp (maxSteps:=2000000) only [go_sem,hG,hOw,Nat.reduceMul]
 try (repeat' with_reducible first|refine And.intro ?_ ?_|intro _|refine exP ?_ ?_);all_goals try omega
 refine a0a (c7f c8q) ?_
 simp (maxSteps:=2000000) only [go_sem,hG,hOw,Nat.reduceMul]
 try (repeat' with_reducible first|refine And.intro ?_ ?_|intro _|refine exP ?_ ?_);all_goals try omega
 refine a0a (c7f a8l) ?_
 simp (maxSteps:=2000000) only [go_sem,hG,hOw,Nat.reduceMul]
 try (repeat' with_reducible first|refine And.intro ?_ ?_|intro _|refine exP ?_ ?_);all_goals try omega
 refine a0a (c7f lXB) ?_
 simp (maxSteps:=2000000) only [go_sem,hG,hOw,Nat.reduceMul]
 try (repeat' with_reducible first|refine And.intro ?_ ?_|intro _|refine exP ?_ ?_);all_goals try omega
theorem g0d {G:Gh} {lo:Nat} (hG:G.n=168) (hOw:G.ow=fun _=>false) (hNm:G.nm=[]) (h:SemL Tryz.prog G ((a5p (Tryz.f9.body.getD .skip)).drop 13) (St.of [(12,a0o G.lo a7i),(13,i64 0),(14,a0o G.lo a8t),(15,i64 0),(16,a0o G.lo c8q),(17,i64 0),(18,a0o G.lo a8l),(19,i64 0),(20,a0o G.lo lXB),(21,i64 0)] []) (a2g Tryz.prog lo [.tmp 0] (bl true))) :
  SemL Tryz.prog G ((a5p (Tryz.f9.body.getD .skip)).drop 11) (St.of [(1,str sWr),(2,i64 0),(3,a0o G.lo lAb),(4,i64 6),(5,i64 0),(6,.ptr 6 0),(7,i64 0),(8,a0o G.lo a5a),(9,i64 0),(10,.ptr 10 0),(11,i64 0),(12,a0o G.lo a7i),(13,i64 0),(14,a0o G.lo a8t),(15,i64 0),(16,a0o G.lo c8q),(17,i64 0),(18,a0o G.lo a8l),(19,i64 0),(20,a0o G.lo lXB),(21,i64 0)] [(6,.box [a0o G.lo shSave.first,hks G.lo shSave.chg]),(10,.box [a0o G.lo shPrune.first,hks G.lo shPrune.chg])]) (a2g Tryz.prog lo [.tmp 0] (bl true)):=by
 have hln:shelfS.chg.length=2:=rfl
 have hs:decide (sWr=⟨#[97,98,32,115,103,10,98,32,101,97,10]⟩)=true:=by decide
 refine a1g 2 _ _ ?_
 simp only [Tryz.f9,Option.getD_some,a2y,a1s,a2k,a2e,a3a,List.singleton_append,List.cons_append,List.nil_append,List.drop_succ_cons,List.drop_zero]
 simp only [go_sem,hG,hOw]
 try (repeat' with_reducible first|refine And.intro ?_ ?_|intro _|refine exP ?_ ?_);all_goals try omega
 refine a0r mixed (by kernel_rfl) ?_
 simp (maxSteps:=2000000) only [go_sem,hG,hOw,Nat.reduceMul,hs,hln]
 try (repeat' with_reducible first|refine And.intro ?_ ?_|intro _|refine exP ?_ ?_);all_goals try omega
 refine ⟨_,a0e (c7f lAb),?_⟩
 simp (maxSteps:=2000000) only [go_sem,hG,hOw,Nat.reduceMul,hs,hln]
 try (repeat' with_reducible first|refine And.intro ?_ ?_|intro _|refine exP ?_ ?_);all_goals try omega
 refine ⟨_,a0e (a7g _ _ _),?_⟩
 simp (maxSteps:=2000000) only [go_sem,hG,hOw,Nat.reduceMul,hs,hln]
 try (repeat' with_reducible first|refine And.intro ?_ ?_|intro _|refine exP ?_ ?_);all_goals try omega
 refine ⟨_,a0e b4i,?_⟩
 simp (maxSteps:=2000000) only [go_sem,hG,hOw,Nat.reduceMul,hs,hln]
 try (repeat' with_reducible first|refine And.intro ?_ ?_|intro _|refine exP ?_ ?_);all_goals try omega
 refine ⟨_,b6p (f1r shSave) (.cons (d0e _ shSave) (.cons (d0e _ shSave) .nil)) (by first|rfl|simp [a9b,b2q,pureV,pure0, *]),?_⟩
 simp (maxSteps:=2000000) only [go_sem,hG,hOw,Nat.reduceMul,hs,hln]
 try (repeat' with_reducible first|refine And.intro ?_ ?_|intro _|refine exP ?_ ?_);all_goals try omega
 refine ⟨_,a0e (c7f a5a),?_⟩
 simp (maxSteps:=2000000) only [go_sem,hG,hOw,Nat.reduceMul,hs,hln]
 try (repeat' with_reducible first|refine And.intro ?_ ?_|intro _|refine exP ?_ ?_);all_goals try omega
 refine ⟨_,a0e (a7g _ _ _),?_⟩
 simp (maxSteps:=2000000) only [go_sem,hG,hOw,Nat.reduceMul,hs,hln]
 try (repeat' with_reducible first|refine And.intro ?_ ?_|intro _|refine exP ?_ ?_);all_goals try omega
 refine ⟨_,a0e b4i,?_⟩
 simp (maxSteps:=2000000) only [go_sem,hG,hOw,Nat.reduceMul,hs,hln]
 try (repeat' with_reducible first|refine And.intro ?_ ?_|intro _|refine exP ?_ ?_);all_goals try omega
 refine ⟨_,b6p (f1r shPrune) (.cons (d0e _ shPrune) (.cons (d0e _ shPrune) .nil)) (by first|rfl|simp [a9b,b2q,pureV,pure0, *]),?_⟩
 simp (maxSteps:=2000000) only [go_sem,hG,hOw,Nat.reduceMul,hs,hln]
 try (repeat' with_reducible first|refine And.intro ?_ ?_|intro _|refine exP ?_ ?_);all_goals try omega
 refine a2x (s':=St.of [(12,a0o G.lo a7i),(13,i64 0),(14,a0o G.lo a8t),(15,i64 0),(16,a0o G.lo c8q),(17,i64 0),(18,a0o G.lo a8l),(19,i64 0),(20,a0o G.lo lXB),(21,i64 0)] []) (a1e (by (simp only [go_sem])<;>simp) hNm) ?_
 exact h
theorem e9g:a0l Tryz.prog 9 [] (fun _=>bl true):=by
 refine b6t (fun _=>false) Tryz.func9 Tryz.ntmps9 rfl (by kernel_rfl) (by simp) rfl (by decide) fun G hG hOw hNm hZ hB=>?_
 refine a1g 1 _ _ ?_
 simp only [go_sem,hG,hOw]
 refine a2x (s':=St.of [] []) (a1e (by (simp only [go_sem])<;>simp) hNm) ?_
 refine g4n hG hOw hNm ?_
 refine g2r hG hOw hNm ?_
 refine g4z hG hOw hNm ?_
 refine g3z hG hOw hNm ?_
 refine g4o hG hOw hNm ?_
 refine g4g hG hOw hNm ?_
 refine g3h hG hOw hNm ?_
 refine g3l hG hOw hNm ?_
 refine g3u hG hOw hNm ?_
 refine f8k hG hOw hNm ?_
 refine g0d hG hOw hNm ?_
 exact f8w hG hOw hNm
end Go.Proofs.YtmjhfccbbfpppaaGreatDoor
