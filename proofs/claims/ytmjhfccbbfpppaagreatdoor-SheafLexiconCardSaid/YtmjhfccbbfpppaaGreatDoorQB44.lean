import Derived.Test.YtmjhfccbbfpppaaGreatDoorQB22
import Derived.Test.YtmjhfccbbfpppaaGreatDoorQB25
import Derived.Test.YtmjhfccbbfpppaaGreatDoorQB37
import Derived.Test.YtmjhfccbbfpppaaGreatDoorQB43
namespace Go.Proofs.YtmjhfccbbfpppaaGreatDoor
open Go Pm
set_option linter.unusedSimpArgs false
set_option linter.unusedVariables false
set_option maxHeartbeats 4000000
set_option maxRecDepth 100000
theorem b2h (nm name:ByteArray) (x y:V):a0l Tryz.prog 99 [.agg [str nm,x,y],.fp [str name]] (fun _=>bl (!decide (nm=⟨#[]⟩) && decide (nm=name))):=by
 refine a0b (ow:=fun _=>false) Tryz.func99 Tryz.ntmps99 rfl rfl fun G hG hOw hNm hB=>?_;simp only [go_sem,hG,hOw]
 exact ⟨fun h=>by rw [decide_eq_false h];rfl,fun h=>by rw [decide_eq_true h];rfl⟩
def formRows:List (List V):=[[.v (.string ⟨#[]⟩),.any,.any],[.v (.string formS),.any,.any],[.v (.string fromS),.any,.any],[.v (.string plcS),.any,.any],[.v (.string voidS),.any,.any]]
def a5s (name:ByteArray):Int:=if name=formS then 1 else if name=fromS then 2 else if name=plcS then 3 else if name=voidS then 4 else -1
def nmK (k:Nat):ByteArray:=if k=1 then formS else if k=2 then fromS else if k=3 then plcS else if k=4 then voidS else ⟨#[]⟩
def isK (name:ByteArray) (k:Nat):Bool:=!decide (nmK k=⟨#[]⟩) && decide (nmK k=name)
theorem e5x {name:ByteArray} {k:Nat} (hk:k < 5) (h:isK name k=true):a5s name=k:=by
 simp only [isK,Bool.and_eq_true,decide_eq_true_eq] at h
 obtain ⟨h1,rfl⟩:=h
 have:k=0∨k=1∨k=2∨k=3∨k=4:=by omega
 rcases this with rfl|rfl|rfl|rfl|rfl
 ·exact absurd h1 (by decide)
 all_goals decide
theorem e6z {name:ByteArray} (h:∀ j,j < 5→isK name j=false):a5s name=-1:=by
 have n1:∀ j,1≤j→j < 5→name≠nmK j:=fun j h1 h5 e=>by
  have:=h j h5
  have hz:j=1∨j=2∨j=3∨j=4:=by omega
  subst e
  rcases hz with rfl|rfl|rfl|rfl<;>revert this<;>decide
 unfold a5s
 have q1:name≠formS:=n1 1 (by omega) (by omega)
 have q2:name≠fromS:=n1 2 (by omega) (by omega)
 have q3:name≠plcS:=n1 3 (by omega) (by omega)
 have q4:name≠voidS:=n1 4 (by omega) (by omega)
 rw [if_neg q1,if_neg q2,if_neg q3,if_neg q4]
theorem a4j (name:ByteArray):a0l Tryz.prog 98 [.lst 0 3 formRows,.fn (.func 99) [.fp [str name]]] (fun _=>i64 (a5s name)):=by
 have hl5:formRows.length=5:=rfl
 refine a0b (ow:=fun _=>false) Tryz.func98 Tryz.ntmps98 rfl rfl fun G hG hOw hNm hB=>?_;simp only [go_sem,hG,hOw]
 try (repeat' with_reducible first|apply And.intro|refine exP ?_ ?_|intro);all_goals try omega
 refine a0k (fun k:Nat=>St.of [(0,.lst 0 3 formRows),(1,.fn (.func 99) [.fp [str name]]),(7,i64 formRows.length),(8,i64 k)] []) (fun k=>k≤5∧∀ j,j < k→isK name j=false) (fun k=>5 - k) 0 ⟨by omega,fun j h=>by omega⟩ (a0y (by (simp only [go_sem])<;>simp) hNm) ?_
 rintro k ⟨hk,hno⟩
 by_cases hkl:k < 5
 ·have hlt:(k:Int) < 5:=by omega
  have hc:k=0∨k=1∨k=2∨k=3∨k=4:=by omega
  have go:∀ (b:Bool),isK name k=b→b=false→∀ j,j < k+1→isK name j=false:=fun b e hb j hj=>by
   by_cases hjk:j < k
   ·exact hno j hjk
   ·obtain rfl:j=k:=by omega
    rw [e,hb]
  have yes:isK name k=true→a5s name=k:=e5x hkl
  rcases hc with rfl|rfl|rfl|rfl|rfl
  ·have hF:=b2h (⟨#[]⟩:ByteArray) name (.any) (.any)
   have hq:(!decide ((⟨#[]⟩:ByteArray)=⟨#[]⟩) && decide ((⟨#[]⟩:ByteArray)=name))=isK name 0:=rfl
   have ge:∀ h,formRows[0]'h=[V.v (.string ⟨#[]⟩),V.any,V.any]:=fun _=>rfl
   have it:Int.toNat ((0:Nat):Int)=0:=rfl
   have it2:Int.toNat (0:Int)=0:=rfl
   rw [hq] at hF
   refine a0d _ _ _ ?_
   simp (maxSteps:=2000000) only [go_sem,hG,hOw,hlt,hl5,it,it2,ge]
   (repeat' with_reducible first|apply And.intro|refine exP ?_ ?_|intro);all_goals try omega
   refine a0a hF ?_
   cases hr:isK name 0 with
   |true =>
    rw [yes hr]
    simp only [go_sem,hG,hOw]
    try (repeat' with_reducible first|apply And.intro|refine exP ?_ ?_|intro);all_goals try omega
   |false =>
    simp only [go_sem,hG,hOw]
    try (repeat' with_reducible first|apply And.intro|refine exP ?_ ?_|intro);all_goals try omega
    exact ⟨1,⟨by omega,go _ hr rfl⟩,by omega,a0y (by (simp only [go_sem])<;>simp) hNm⟩
  ·have hF:=b2h formS name .any .any
   have hq:(!decide (formS=⟨#[]⟩) && decide (formS=name))=isK name 1:=rfl
   have ge:∀ h,formRows[1]'h=[V.v (.string formS),V.any,V.any]:=fun _=>rfl
   have it:Int.toNat ((1:Nat):Int)=1:=rfl
   have it2:Int.toNat (1:Int)=1:=rfl
   rw [hq] at hF
   refine a0d _ _ _ ?_
   simp (maxSteps:=2000000) only [go_sem,hG,hOw,hlt,hl5,it,it2,ge]
   (repeat' with_reducible first|apply And.intro|refine exP ?_ ?_|intro);all_goals try omega
   refine a0a hF ?_
   cases hr:isK name 1 with
   |true =>
    rw [yes hr]
    simp only [go_sem,hG,hOw]
    try (repeat' with_reducible first|apply And.intro|refine exP ?_ ?_|intro);all_goals try omega
   |false =>
    simp only [go_sem,hG,hOw]
    try (repeat' with_reducible first|apply And.intro|refine exP ?_ ?_|intro);all_goals try omega
    exact ⟨2,⟨by omega,go _ hr rfl⟩,by omega,a0y (by (simp only [go_sem])<;>simp) hNm⟩
  ·have hF:=b2h fromS name .any .any
   have hq:(!decide (fromS=⟨#[]⟩) && decide (fromS=name))=isK name 2:=rfl
   have ge:∀ h,formRows[2]'h=[V.v (.string fromS),V.any,V.any]:=fun _=>rfl
   have it:Int.toNat ((2:Nat):Int)=2:=rfl
   have it2:Int.toNat (2:Int)=2:=rfl
   rw [hq] at hF
   refine a0d _ _ _ ?_
   simp (maxSteps:=2000000) only [go_sem,hG,hOw,hlt,hl5,it,it2,ge]
   (repeat' with_reducible first|apply And.intro|refine exP ?_ ?_|intro);all_goals try omega
   refine a0a hF ?_
   cases hr:isK name 2 with
   |true =>
    rw [yes hr]
    simp only [go_sem,hG,hOw]
    try (repeat' with_reducible first|apply And.intro|refine exP ?_ ?_|intro);all_goals try omega
   |false =>
    simp only [go_sem,hG,hOw]
    try (repeat' with_reducible first|apply And.intro|refine exP ?_ ?_|intro);all_goals try omega
    exact ⟨3,⟨by omega,go _ hr rfl⟩,by omega,a0y (by (simp only [go_sem])<;>simp) hNm⟩
  ·have hF:=b2h plcS name .any .any
   have hq:(!decide (plcS=⟨#[]⟩) && decide (plcS=name))=isK name 3:=rfl
   have ge:∀ h,formRows[3]'h=[V.v (.string plcS),V.any,V.any]:=fun _=>rfl
   have it:Int.toNat ((3:Nat):Int)=3:=rfl
   have it2:Int.toNat (3:Int)=3:=rfl
   rw [hq] at hF
   refine a0d _ _ _ ?_
   simp (maxSteps:=2000000) only [go_sem,hG,hOw,hlt,hl5,it,it2,ge]
   (repeat' with_reducible first|apply And.intro|refine exP ?_ ?_|intro);all_goals try omega
   refine a0a hF ?_
   cases hr:isK name 3 with
   |true =>
    rw [yes hr]
    simp only [go_sem,hG,hOw]
    try (repeat' with_reducible first|apply And.intro|refine exP ?_ ?_|intro);all_goals try omega
   |false =>
    simp only [go_sem,hG,hOw]
    try (repeat' with_reducible first|apply And.intro|refine exP ?_ ?_|intro);all_goals try omega
    exact ⟨4,⟨by omega,go _ hr rfl⟩,by omega,a0y (by (simp only [go_sem])<;>simp) hNm⟩
  ·have hF:=b2h voidS name .any .any
   have hq:(!decide (voidS=⟨#[]⟩) && decide (voidS=name))=isK name 4:=rfl
   have ge:∀ h,formRows[4]'h=[V.v (.string voidS),V.any,V.any]:=fun _=>rfl
   have it:Int.toNat ((4:Nat):Int)=4:=rfl
   have it2:Int.toNat (4:Int)=4:=rfl
   rw [hq] at hF
   refine a0d _ _ _ ?_
   simp (maxSteps:=2000000) only [go_sem,hG,hOw,hlt,hl5,it,it2,ge]
   (repeat' with_reducible first|apply And.intro|refine exP ?_ ?_|intro);all_goals try omega
   refine a0a hF ?_
   cases hr:isK name 4 with
   |true =>
    rw [yes hr]
    simp only [go_sem,hG,hOw]
    try (repeat' with_reducible first|apply And.intro|refine exP ?_ ?_|intro);all_goals try omega
   |false =>
    simp only [go_sem,hG,hOw]
    try (repeat' with_reducible first|apply And.intro|refine exP ?_ ?_|intro);all_goals try omega
    exact ⟨5,⟨by omega,go _ hr rfl⟩,by omega,a0y (by (simp only [go_sem])<;>simp) hNm⟩
 ·have hlt:¬ (k:Int) < 5:=by omega
  have hke:k=5:=by omega
  subst hke
  rw [e6z hno]
  refine a0d _ _ _ ?_
  simp (maxSteps:=2000000) only [go_sem,hG,hOw,hlt,hl5]
  try (repeat' with_reducible first|apply And.intro|refine exP ?_ ?_|intro);all_goals try omega
open Go Pm
def d2x (r:Rws):Option (ByteArray×Rws):=if 1 < r.length then a6b r else some (⟨#[]⟩,r)
def c9i (l:Rws):Option (Rl×Rws):=match a6b l with
 |none=>none
 |some (w,r)=>match d2x r with
  |none=>none
  |some (p,r1)=>match a9j r1 with
   |none=>none
   |some (n,r2)=>some (⟨w,p,n⟩,r2)
def fK (k:Int) (d:Dc) (l:Rws):Option (Dc×Rws):=if k=1 then f2 d l else if k=2 then f4 d l else if k=3 then f6 d l else if k=4 then f8 d l else none
def f1f (name:ByteArray) (l:Rws):Option (Dc×Rws):=match a9j l with
 |none=>none
 |some (n,r)=>fK (a5s name) { dc0 with num:=n,kind:=UInt8.ofNat (a5s name).toNat } r
def b1f (s:Lx) (name:ByteArray) (l:Rws):Option (Lx×Rws) :=
 if name=cutS then (if s.decs=[] then match c9i l with
  |none=>none
  |some (r,l')=>some (⟨s.rules++[r],s.decs⟩,l') else none)
 else match f1f name l with
  |none=>none
  |some (d,l')=>some (⟨s.rules,s.decs++[d]⟩,l')
theorem f8e (lo:Nat) (s:Lx) (l:Rws) (hs:s.decs≠[]) :
  Tri Tryz.prog 97 [str cutS,.ptr 51 0,.ptr 50 0] [(50,.box [.own 60 0 s.rules.length 3,.own 61 0 s.decs.length 9]),(51,.box [a0q lo l]),(60,.arr 166 3 (s.rules.map rlC)),(61,.arr 178 9 (s.decs.map dcC))]
   (fun _=>.pan (wrV 111) []):=by
 have hd:decide ((s.decs.length:Int)=0)=false:=decide_eq_false (by intro h;apply hs;exact List.length_eq_zero_iff.1 (by omega))
 refine a0e (fun _=>false) Tryz.func97 Tryz.ntmps97 rfl rfl fun G hG hOw hNm=>?_;simp only [go_sem,hG,hOw]
 (repeat' with_reducible first|apply And.intro|refine exP ?_ ?_|intro);all_goals try omega
 rotate_left
 ·rename_i h;exact absurd (by decide) h
 rw [hd]
 refine a0c [] [] (a7h 111) ?_
 simp only [go_sem,hG,hOw]
 exact ⟨rfl,(a2o [])⟩
theorem c1o {l r:Rws} {p:ByteArray} (h:d2x l=some (p,r)):SubR r l∧p.size≤12:=by
 unfold d2x at h
 split at h
 ·exact ⟨a4y h,b0q h⟩
 ·cases h;exact ⟨SubR.refl l,by decide⟩
theorem e4j {l r:Rws} {q:Rl} (h:c9i l=some (q,r)):SubR r l∧bdR q:=by
 unfold c9i at h
 split at h
 ·cases h
 ·rename_i w r1 h1
  split at h
  ·cases h
  ·rename_i p r2 h2
   split at h
   ·cases h
   ·rename_i n r3 h3
    cases h
    obtain ⟨a,b⟩:=c1o h2
    have:=b0q h1
    exact ⟨(a4p h3).trans (a.trans (a4y h1)),by simp only;omega,by simp only;omega⟩
theorem g6j (lo:Nat) (s:Lx) (l:Rws) (hs:s.decs=[]) (h1:a6b l=none) :
  Tri Tryz.prog 97 [str cutS,.ptr 51 0,.ptr 50 0] [(50,.box [.own 60 0 s.rules.length 3,.own 61 0 s.decs.length 9]),(51,.box [a0q lo l]),(60,.arr 166 3 (s.rules.map rlC)),(61,.arr 178 9 (s.decs.map dcC))]
   (fun _=>.pan (wrV 111) []):=by
 have hW:=b8n lo l
 rw [h1] at hW
 simp only at hW
 have hd:decide ((s.decs.length:Int)=0)=true:=decide_eq_true (by rw [hs];rfl)
 refine a0e (fun _=>false) Tryz.func97 Tryz.ntmps97 rfl rfl fun G hG hOw hNm=>?_;simp only [go_sem,hG,hOw]
 (repeat' with_reducible first|apply And.intro|refine exP ?_ ?_|intro);all_goals try omega
 rotate_left
 ·rename_i h;exact absurd (by decide) h
 rw [hd]
 refine a0c [] [] (a2j 111) ?_
 simp only [go_sem,hG,hOw]
 (repeat' with_reducible first|apply And.intro|refine exP ?_ ?_|intro);all_goals try omega
 refine a0c [(0,51)] [] (hW) ?_
 simp only [go_sem,hG,hOw]
 exact ⟨rfl,(a2o [])⟩
theorem g5l (lo:Nat) (s:Lx) (l:Rws) (hs:s.decs=[]) (w:ByteArray) (r:Rws) (h1:a6b l=some (w,r)) (h2:d2x r=none) :
  Tri Tryz.prog 97 [str cutS,.ptr 51 0,.ptr 50 0] [(50,.box [.own 60 0 s.rules.length 3,.own 61 0 s.decs.length 9]),(51,.box [a0q lo l]),(60,.arr 166 3 (s.rules.map rlC)),(61,.arr 178 9 (s.decs.map dcC))]
   (fun _=>.pan (wrV 111) []):=by
 have hW:=b8n lo l
 rw [h1] at hW
 simp only at hW
 unfold d2x at h2
 split at h2
 ·rename_i hlen
  have hln:(1:Int) < r.length:=by omega
  have hW2:=b8n lo r
  rw [h2] at hW2
  simp only at hW2
  have hd:decide ((s.decs.length:Int)=0)=true:=decide_eq_true (by rw [hs];rfl)
  refine a0e (fun _=>false) Tryz.func97 Tryz.ntmps97 rfl rfl fun G hG hOw hNm=>?_;simp only [go_sem,hG,hOw]
  (repeat' with_reducible first|apply And.intro|refine exP ?_ ?_|intro);all_goals try omega
  rotate_left
  ·rename_i h;exact absurd (by decide) h
  rw [hd]
  refine a0c [] [] (a2j 111) ?_
  simp only [go_sem,hG,hOw]
  (repeat' with_reducible first|apply And.intro|refine exP ?_ ?_|intro);all_goals try omega
  refine a0c [(0,51)] [] (hW) ?_
  simp (maxSteps:=2000000) only [go_sem,hG,hOw,hln,decide_eq_true hln]
  (repeat' with_reducible first|apply And.intro|refine exP ?_ ?_|intro);all_goals try omega
  refine a0c [(0,51)] [] (hW2) ?_
  simp only [go_sem,hG,hOw]
  exact ⟨rfl,(a2o [])⟩
 ·cases h2
theorem g7s (lo:Nat) (s:Lx) (l:Rws) (hs:s.decs=[]) (hl:∀ x ∈ l,x.size≤100000) (hn:s.rules.length≤1000) (w:ByteArray) (r:Rws) (h1:a6b l=some (w,r)) (p:ByteArray) (r1:Rws) (h2:d2x r=some (p,r1)) (h3:a9j r1=none) :
  Tri Tryz.prog 97 [str cutS,.ptr 51 0,.ptr 50 0] [(50,.box [.own 60 0 s.rules.length 3,.own 61 0 s.decs.length 9]),(51,.box [a0q lo l]),(60,.arr 166 3 (s.rules.map rlC)),(61,.arr 178 9 (s.decs.map dcC))]
   (fun _=>.pan (wrV 111) []):=by
 have hW:=b8n lo l
 rw [h1] at hW
 have hN:=d4g lo r1 (((c1o h2).1.trans (a4y h1)).size hl)
 rw [h3] at hN
 simp only at hW hN
 unfold d2x at h2
 split at h2
 ·rename_i hlen
  have hln:(1:Int) < r.length:=by omega
  have hW2:=b8n lo r
  rw [h2] at hW2
  simp only at hW2
  have hd:decide ((s.decs.length:Int)=0)=true:=decide_eq_true (by rw [hs];rfl)
  refine a0e (fun _=>false) Tryz.func97 Tryz.ntmps97 rfl rfl fun G hG hOw hNm=>?_;simp only [go_sem,hG,hOw]
  (repeat' with_reducible first|apply And.intro|refine exP ?_ ?_|intro);all_goals try omega
  rotate_left
  ·rename_i h;exact absurd (by decide) h
  rw [hd]
  refine a0c [] [] (a2j 111) ?_
  simp only [go_sem,hG,hOw]
  (repeat' with_reducible first|apply And.intro|refine exP ?_ ?_|intro);all_goals try omega
  refine a0c [(0,51)] [] (hW) ?_
  simp (maxSteps:=2000000) only [go_sem,hG,hOw,hln,decide_eq_true hln]
  (repeat' with_reducible first|apply And.intro|refine exP ?_ ?_|intro);all_goals try omega
  refine a0c [(0,51)] [] (hW2) ?_
  simp only [go_sem,hG,hOw]
  (repeat' with_reducible first|apply And.intro|refine exP ?_ ?_|intro);all_goals try omega
  refine a0c [(0,51)] [] (hN) ?_
  simp only [go_sem,hG,hOw]
  exact ⟨rfl,(a2o [])⟩
 ·rename_i hlen
  have hln:¬ (1:Int) < r.length:=by omega
  simp only [Option.some.injEq,Prod.mk.injEq] at h2
  obtain ⟨rfl,rfl⟩:=h2
  have hd:decide ((s.decs.length:Int)=0)=true:=decide_eq_true (by rw [hs];rfl)
  refine a0e (fun _=>false) Tryz.func97 Tryz.ntmps97 rfl rfl fun G hG hOw hNm=>?_;simp only [go_sem,hG,hOw]
  (repeat' with_reducible first|apply And.intro|refine exP ?_ ?_|intro);all_goals try omega
  rotate_left
  ·rename_i h;exact absurd (by decide) h
  rw [hd]
  refine a0c [] [] (a2j 111) ?_
  simp only [go_sem,hG,hOw]
  (repeat' with_reducible first|apply And.intro|refine exP ?_ ?_|intro);all_goals try omega
  refine a0c [(0,51)] [] (hW) ?_
  simp (maxSteps:=2000000) only [go_sem,hG,hOw,hln,decide_eq_false hln]
  (repeat' with_reducible first|apply And.intro|refine exP ?_ ?_|intro);all_goals try omega
  refine a0c [(0,51)] [] (hN) ?_
  simp only [go_sem,hG,hOw]
  exact ⟨rfl,(a2o [])⟩
theorem g6k (lo:Nat) (s:Lx) (l:Rws) (hs:s.decs=[]) (hl:∀ x ∈ l,x.size≤100000) (hn:s.rules.length≤1000) (w:ByteArray) (r:Rws) (h1:a6b l=some (w,r)) (p:ByteArray) (r1:Rws) (h2:d2x r=some (p,r1)) (n:Int) (r2:Rws) (h3:a9j r1=some (n,r2)) :
  Tri Tryz.prog 97 [str cutS,.ptr 51 0,.ptr 50 0] [(50,.box [.own 60 0 s.rules.length 3,.own 61 0 s.decs.length 9]),(51,.box [a0q lo l]),(60,.arr 166 3 (s.rules.map rlC)),(61,.arr 178 9 (s.decs.map dcC))]
   (fun _=>.ret (.tup []) [(50,.box [.own 62 0 (s.rules.length+1) 3,.own 63 0 s.decs.length 9]),(51,.box [a0q lo r2]),(62,.arr 166 3 (s.rules.map rlC++[rlC ⟨w,p,n⟩])),(63,.arr 178 9 (s.decs.map dcC))]):=by
 have hW:=b8n lo l
 rw [h1] at hW
 have hN:=d4g lo r1 (((c1o h2).1.trans (a4y h1)).size hl)
 rw [h3] at hN
 simp only at hW hN
 unfold d2x at h2
 split at h2
 ·rename_i hlen
  have hln:(1:Int) < r.length:=by omega
  have hW2:=b8n lo r
  rw [h2] at hW2
  simp only at hW2
  have hd:decide ((s.decs.length:Int)=0)=true:=decide_eq_true (by rw [hs];rfl)
  refine a0e (fun _=>false) Tryz.func97 Tryz.ntmps97 rfl rfl fun G hG hOw hNm=>?_;simp only [go_sem,hG,hOw]
  (repeat' with_reducible first|apply And.intro|refine exP ?_ ?_|intro);all_goals try omega
  rotate_left
  ·rename_i h;exact absurd (by decide) h
  rw [hd]
  refine a0c [] [] (a2j 111) ?_
  simp only [go_sem,hG,hOw]
  (repeat' with_reducible first|apply And.intro|refine exP ?_ ?_|intro);all_goals try omega
  refine a0c [(0,51)] [] (hW) ?_
  simp (maxSteps:=2000000) only [go_sem,hG,hOw,hln,decide_eq_true hln]
  (repeat' with_reducible first|apply And.intro|refine exP ?_ ?_|intro);all_goals try omega
  refine a0c [(0,51)] [] (hW2) ?_
  simp only [go_sem,hG,hOw]
  (repeat' with_reducible first|apply And.intro|refine exP ?_ ?_|intro);all_goals try omega
  refine a0c [(0,51)] [] (hN) ?_
  simp only [go_sem,hG,hOw]
  (repeat' with_reducible first|apply And.intro|refine exP ?_ ?_|intro);all_goals try omega
  exact (a2o [(50,some 50),(51,some 51),(62,some 34),(63,some 61)])
 ·rename_i hlen
  have hln:¬ (1:Int) < r.length:=by omega
  simp only [Option.some.injEq,Prod.mk.injEq] at h2
  obtain ⟨rfl,rfl⟩:=h2
  have hd:decide ((s.decs.length:Int)=0)=true:=decide_eq_true (by rw [hs];rfl)
  refine a0e (fun _=>false) Tryz.func97 Tryz.ntmps97 rfl rfl fun G hG hOw hNm=>?_;simp only [go_sem,hG,hOw]
  (repeat' with_reducible first|apply And.intro|refine exP ?_ ?_|intro);all_goals try omega
  rotate_left
  ·rename_i h;exact absurd (by decide) h
  rw [hd]
  refine a0c [] [] (a2j 111) ?_
  simp only [go_sem,hG,hOw]
  (repeat' with_reducible first|apply And.intro|refine exP ?_ ?_|intro);all_goals try omega
  refine a0c [(0,51)] [] (hW) ?_
  simp (maxSteps:=2000000) only [go_sem,hG,hOw,hln,decide_eq_false hln]
  (repeat' with_reducible first|apply And.intro|refine exP ?_ ?_|intro);all_goals try omega
  refine a0c [(0,51)] [] (hN) ?_
  simp only [go_sem,hG,hOw]
  (repeat' with_reducible first|apply And.intro|refine exP ?_ ?_|intro);all_goals try omega
  have hbe:ByteArray.empty=⟨#[]⟩:=rfl
  exact ⟨[(50,some 50),(51,some 51),(62,some 34),(63,some 61)],by (simp only [b3x,go_sem,a1d,a0r,a0i,a1l,apart,a2m,a0n])<;>simp [hbe]⟩
open Go Pm
def a4c:List V:=[.v (.string ⟨#[]⟩),.any,.any,.v (.string ⟨#[102,111,114,109]⟩),.fn (.func 327) [],.fn (.func 329) [],.v (.string ⟨#[102,114,111,109]⟩),.fn (.func 331) [],.fn (.func 332) [],.v (.string ⟨#[112,108,97,99,101]⟩),.fn (.func 333) [],.fn (.func 334) [],.v (.string ⟨#[118,111,105,100]⟩),.fn (.func 335) [],.fn (.func 336) []]
theorem a7c:wkL formRows.flatten a4c:=by simp [formRows,a4c,wkL,formS,fromS,plcS,voidS]
theorem g0j (lo:Nat) (s:Lx) (name:ByteArray) (l:Rws) (hne:¬ name=⟨#[99,117,116]⟩) (hf:a5s name=-1) :
  Tri Tryz.prog 97 [str name,.ptr 51 0,.ptr 50 0] [(50,.box [.own 60 0 s.rules.length 3,.own 61 0 s.decs.length 9]),(51,.box [a0q lo l]),(60,.arr 166 3 (s.rules.map rlC)),(61,.arr 178 9 (s.decs.map dcC))]
   (fun _=>.pan (wrV 111) []):=by
 have hI:=a4j name
 rw [hf] at hI
 refine a0e (fun _=>false) Tryz.func97 Tryz.ntmps97 rfl rfl fun G hG hOw hNm=>?_;simp only [go_sem,hG,hOw]
 (repeat' with_reducible first|apply And.intro|refine exP ?_ ?_|intro);all_goals try omega
 ·rename_i h;exact absurd h hne
 refine a5u (n:=5) (sz:=3) (cs:=a4c) formRows rfl (by simp [go_sem,a4c]) rfl (by rw [hG];decide) (by kernel_rfl) a7c (by simp [formRows]) rfl ⟨by decide,by decide⟩ (by decide) ?_
 simp only [go_sem,hG,hOw]
 refine a2x (fun i=>[3].contains i) ?_
 simp only [go_sem,hG,hOw]
 refine a0a hI ?_
 simp only [go_sem,hG,hOw]
 (repeat' with_reducible first|apply And.intro|refine exP ?_ ?_|intro);all_goals try omega
 refine a0c [] [] (a7h 111) ?_
 simp only [go_sem,hG,hOw]
 exact ⟨rfl,(a2o [])⟩
theorem f8r (lo:Nat) (s:Lx) (name:ByteArray) (l:Rws) (hl:∀ x ∈ l,x.size≤100000) (hne:¬ name=⟨#[99,117,116]⟩) (k:Int) (hk:1≤k∧k≤4) (hf:a5s name=k) (h1:a9j l=none) :
  Tri Tryz.prog 97 [str name,.ptr 51 0,.ptr 50 0] [(50,.box [.own 60 0 s.rules.length 3,.own 61 0 s.decs.length 9]),(51,.box [a0q lo l]),(60,.arr 166 3 (s.rules.map rlC)),(61,.arr 178 9 (s.decs.map dcC))]
   (fun _=>.pan (wrV 111) []):=by
 have hI:=a4j name
 rw [hf] at hI
 have hN:=d4g lo l hl
 rw [h1] at hN
 simp only at hN
 have hk0:decide ((0:Int) < k)=true:=decide_eq_true (by omega)
 have hwr:IntKind.u8.wrap k=k:=by have:IntKind.u8.wrap k=k % 256:=rfl;omega
 refine a0e (fun _=>false) Tryz.func97 Tryz.ntmps97 rfl rfl fun G hG hOw hNm=>?_;simp only [go_sem,hG,hOw]
 (repeat' with_reducible first|apply And.intro|refine exP ?_ ?_|intro);all_goals try omega
 ·rename_i h;exact absurd h hne
 refine a5u (n:=5) (sz:=3) (cs:=a4c) formRows rfl (by simp [go_sem,a4c]) rfl (by rw [hG];decide) (by kernel_rfl) a7c (by simp [formRows]) rfl ⟨by decide,by decide⟩ (by decide) ?_
 simp only [go_sem,hG,hOw]
 refine a2x (fun i=>[3].contains i) ?_
 simp only [go_sem,hG,hOw]
 refine a0a hI ?_
 simp only [go_sem,hG,hOw]
 (repeat' with_reducible first|apply And.intro|refine exP ?_ ?_|intro);all_goals try omega
 rw [hk0]
 refine a0c [] [] (a2j 111) ?_
 simp (maxSteps:=2000000) only [go_sem,hG,hOw,hwr]
 (repeat' with_reducible first|apply And.intro|refine exP ?_ ?_|intro);all_goals try omega
 refine a0c [(0,51)] [] (hN) ?_
 simp only [go_sem,hG,hOw]
 exact ⟨rfl,(a2o [])⟩
theorem e9b (lo:Nat) (s:Lx) (name:ByteArray) (l:Rws) (hl:∀ x ∈ l,x.size≤100000) (hne:¬ name=⟨#[99,117,116]⟩) (hf:a5s name=1) (v:Int) (r:Rws) (h1:a9j l=some (v,r)) (h2:f2 { dc0 with num:=v,kind:=1 } r=none) :
  Tri Tryz.prog 97 [str name,.ptr 51 0,.ptr 50 0] [(50,.box [.own 60 0 s.rules.length 3,.own 61 0 s.decs.length 9]),(51,.box [a0q lo l]),(60,.arr 166 3 (s.rules.map rlC)),(61,.arr 178 9 (s.decs.map dcC))]
   (fun _=>.pan (wrV 111) []):=by
 have hI:=a4j name
 rw [hf] at hI
 have hN:=d4g lo l hl
 rw [h1] at hN
 have hF:=e3y lo { dc0 with num:=v,kind:=1 } r ((a4p h1).size hl)
 rw [h2] at hF
 simp only at hN hF
 have hbe:ByteArray.empty=⟨#[]⟩:=rfl
 have hwr:IntKind.u8.wrap 1=1:=rfl
 have it:Int.toNat 1=1:=rfl
 refine a0e (fun _=>false) Tryz.func97 Tryz.ntmps97 rfl rfl fun G hG hOw hNm=>?_;simp only [go_sem,hG,hOw]
 (repeat' with_reducible first|apply And.intro|refine exP ?_ ?_|intro);all_goals try omega
 ·rename_i h;exact absurd h hne
 refine a5u (n:=5) (sz:=3) (cs:=a4c) formRows rfl (by simp [go_sem,a4c]) rfl (by rw [hG];decide) (by kernel_rfl) a7c (by simp [formRows]) rfl ⟨by decide,by decide⟩ (by decide) ?_
 simp only [go_sem,hG,hOw]
 refine a2x (fun i=>[3].contains i) ?_
 simp only [go_sem,hG,hOw]
 refine a0a hI ?_
 simp only [go_sem,hG,hOw]
 (repeat' with_reducible first|apply And.intro|refine exP ?_ ?_|intro);all_goals try omega
 refine a0c [] [] (a2j 111) ?_
 simp (maxSteps:=2000000) only [go_sem,hG,hOw,hwr]
 (repeat' with_reducible first|apply And.intro|refine exP ?_ ?_|intro);all_goals try omega
 refine a0c [(0,51)] [] (hN) ?_
 simp (maxSteps:=2000000) only [go_sem,hG,hOw,hbe,it,Nat.reduceMul,List.drop_succ_cons,List.drop_zero]
 (repeat' with_reducible first|apply And.intro|refine exP ?_ ?_|intro);all_goals try omega
 try refine ⟨by omega,?_⟩
 refine a0c [(50,51),(51,7)] [] (hF) ?_ (by (simp only [go_sem])<;>simp [dc0]) (by (simp only [go_sem,a1d,a0r,a0i,a1l])<;>simp [dc0]) (by simp [a0n,usH,toR,dc0])
 simp only [go_sem,hG,hOw]
 exact ⟨rfl,(a2o [])⟩
theorem f5d (lo:Nat) (s:Lx) (name:ByteArray) (l:Rws) (hl:∀ x ∈ l,x.size≤100000) (hne:¬ name=⟨#[99,117,116]⟩) (hf:a5s name=1) (v:Int) (r:Rws) (h1:a9j l=some (v,r)) (d:Dc) (r':Rws) (h2:f2 { dc0 with num:=v,kind:=1 } r=some (d,r')) (hn:s.decs.length≤1000) :
  Tri Tryz.prog 97 [str name,.ptr 51 0,.ptr 50 0] [(50,.box [.own 60 0 s.rules.length 3,.own 61 0 s.decs.length 9]),(51,.box [a0q lo l]),(60,.arr 166 3 (s.rules.map rlC)),(61,.arr 178 9 (s.decs.map dcC))]
   (fun _=>.ret (.tup []) [(50,.box [.own 62 0 s.rules.length 3,.own 63 0 (s.decs.length+1) 9]),(51,.box [a0q lo r']),(62,.arr 166 3 (s.rules.map rlC)),(63,.arr 178 9 (s.decs.map dcC++[dcC d]))]):=by
 have hI:=a4j name
 rw [hf] at hI
 have hN:=d4g lo l hl
 rw [h1] at hN
 have hF:=e3y lo { dc0 with num:=v,kind:=1 } r ((a4p h1).size hl)
 rw [h2] at hF
 simp only at hN hF
 have hbe:ByteArray.empty=⟨#[]⟩:=rfl
 have hwr:IntKind.u8.wrap 1=1:=rfl
 have it:Int.toNat 1=1:=rfl
 refine a0e (fun _=>false) Tryz.func97 Tryz.ntmps97 rfl rfl fun G hG hOw hNm=>?_;simp only [go_sem,hG,hOw]
 (repeat' with_reducible first|apply And.intro|refine exP ?_ ?_|intro);all_goals try omega
 ·rename_i h;exact absurd h hne
 refine a5u (n:=5) (sz:=3) (cs:=a4c) formRows rfl (by simp [go_sem,a4c]) rfl (by rw [hG];decide) (by kernel_rfl) a7c (by simp [formRows]) rfl ⟨by decide,by decide⟩ (by decide) ?_
 simp only [go_sem,hG,hOw]
 refine a2x (fun i=>[3].contains i) ?_
 simp only [go_sem,hG,hOw]
 refine a0a hI ?_
 simp only [go_sem,hG,hOw]
 (repeat' with_reducible first|apply And.intro|refine exP ?_ ?_|intro);all_goals try omega
 refine a0c [] [] (a2j 111) ?_
 simp (maxSteps:=2000000) only [go_sem,hG,hOw,hwr]
 (repeat' with_reducible first|apply And.intro|refine exP ?_ ?_|intro);all_goals try omega
 refine a0c [(0,51)] [] (hN) ?_
 simp (maxSteps:=2000000) only [go_sem,hG,hOw,hbe,it,Nat.reduceMul,List.drop_succ_cons,List.drop_zero]
 (repeat' with_reducible first|apply And.intro|refine exP ?_ ?_|intro);all_goals try omega
 try refine ⟨by omega,?_⟩
 refine a0c [(50,51),(51,7)] [] (hF) ?_ (by (simp only [go_sem])<;>simp [dc0]) (by (simp only [go_sem,a1d,a0r,a0i,a1l])<;>simp [dc0]) (by simp [a0n,usH,toR,dc0])
 simp only [go_sem,hG,hOw]
 (repeat' with_reducible first|apply And.intro|refine exP ?_ ?_|intro);all_goals try omega
 exact (a2o [(50,some 50),(51,some 51),(62,some 60),(63,some 57)])
theorem e8x (lo:Nat) (s:Lx) (name:ByteArray) (l:Rws) (hl:∀ x ∈ l,x.size≤100000) (hne:¬ name=⟨#[99,117,116]⟩) (hf:a5s name=2) (v:Int) (r:Rws) (h1:a9j l=some (v,r)) (h2:f4 { dc0 with num:=v,kind:=2 } r=none) :
  Tri Tryz.prog 97 [str name,.ptr 51 0,.ptr 50 0] [(50,.box [.own 60 0 s.rules.length 3,.own 61 0 s.decs.length 9]),(51,.box [a0q lo l]),(60,.arr 166 3 (s.rules.map rlC)),(61,.arr 178 9 (s.decs.map dcC))]
   (fun _=>.pan (wrV 111) []):=by
 have hI:=a4j name
 rw [hf] at hI
 have hN:=d4g lo l hl
 rw [h1] at hN
 have hF:=d7n lo { dc0 with num:=v,kind:=2 } r ((a4p h1).size hl)
 rw [h2] at hF
 simp only at hN hF
 have hbe:ByteArray.empty=⟨#[]⟩:=rfl
 have hwr:IntKind.u8.wrap 2=2:=rfl
 have it:Int.toNat 2=2:=rfl
 refine a0e (fun _=>false) Tryz.func97 Tryz.ntmps97 rfl rfl fun G hG hOw hNm=>?_;simp only [go_sem,hG,hOw]
 (repeat' with_reducible first|apply And.intro|refine exP ?_ ?_|intro);all_goals try omega
 ·rename_i h;exact absurd h hne
 refine a5u (n:=5) (sz:=3) (cs:=a4c) formRows rfl (by simp [go_sem,a4c]) rfl (by rw [hG];decide) (by kernel_rfl) a7c (by simp [formRows]) rfl ⟨by decide,by decide⟩ (by decide) ?_
 simp only [go_sem,hG,hOw]
 refine a2x (fun i=>[3].contains i) ?_
 simp only [go_sem,hG,hOw]
 refine a0a hI ?_
 simp only [go_sem,hG,hOw]
 (repeat' with_reducible first|apply And.intro|refine exP ?_ ?_|intro);all_goals try omega
 refine a0c [] [] (a2j 111) ?_
 simp (maxSteps:=2000000) only [go_sem,hG,hOw,hwr]
 (repeat' with_reducible first|apply And.intro|refine exP ?_ ?_|intro);all_goals try omega
 refine a0c [(0,51)] [] (hN) ?_
 simp (maxSteps:=2000000) only [go_sem,hG,hOw,hbe,it,Nat.reduceMul,List.drop_succ_cons,List.drop_zero]
 (repeat' with_reducible first|apply And.intro|refine exP ?_ ?_|intro);all_goals try omega
 try refine ⟨by omega,?_⟩
 refine a0c [(50,51),(51,7)] [] (hF) ?_ (by (simp only [go_sem])<;>simp [dc0]) (by (simp only [go_sem,a1d,a0r,a0i,a1l])<;>simp [dc0]) (by simp [a0n,usH,toR,dc0])
 simp only [go_sem,hG,hOw]
 exact ⟨rfl,(a2o [])⟩
theorem f3r (lo:Nat) (s:Lx) (name:ByteArray) (l:Rws) (hl:∀ x ∈ l,x.size≤100000) (hne:¬ name=⟨#[99,117,116]⟩) (hf:a5s name=2) (v:Int) (r:Rws) (h1:a9j l=some (v,r)) (d:Dc) (r':Rws) (h2:f4 { dc0 with num:=v,kind:=2 } r=some (d,r')) (hn:s.decs.length≤1000) :
  Tri Tryz.prog 97 [str name,.ptr 51 0,.ptr 50 0] [(50,.box [.own 60 0 s.rules.length 3,.own 61 0 s.decs.length 9]),(51,.box [a0q lo l]),(60,.arr 166 3 (s.rules.map rlC)),(61,.arr 178 9 (s.decs.map dcC))]
   (fun _=>.ret (.tup []) [(50,.box [.own 62 0 s.rules.length 3,.own 63 0 (s.decs.length+1) 9]),(51,.box [a0q lo r']),(62,.arr 166 3 (s.rules.map rlC)),(63,.arr 178 9 (s.decs.map dcC++[dcC d]))]):=by
 have hI:=a4j name
 rw [hf] at hI
 have hN:=d4g lo l hl
 rw [h1] at hN
 have hF:=d7n lo { dc0 with num:=v,kind:=2 } r ((a4p h1).size hl)
 rw [h2] at hF
 simp only at hN hF
 have hbe:ByteArray.empty=⟨#[]⟩:=rfl
 have hwr:IntKind.u8.wrap 2=2:=rfl
 have it:Int.toNat 2=2:=rfl
 refine a0e (fun _=>false) Tryz.func97 Tryz.ntmps97 rfl rfl fun G hG hOw hNm=>?_;simp only [go_sem,hG,hOw]
 (repeat' with_reducible first|apply And.intro|refine exP ?_ ?_|intro);all_goals try omega
 ·rename_i h;exact absurd h hne
 refine a5u (n:=5) (sz:=3) (cs:=a4c) formRows rfl (by simp [go_sem,a4c]) rfl (by rw [hG];decide) (by kernel_rfl) a7c (by simp [formRows]) rfl ⟨by decide,by decide⟩ (by decide) ?_
 simp only [go_sem,hG,hOw]
 refine a2x (fun i=>[3].contains i) ?_
 simp only [go_sem,hG,hOw]
 refine a0a hI ?_
 simp only [go_sem,hG,hOw]
 (repeat' with_reducible first|apply And.intro|refine exP ?_ ?_|intro);all_goals try omega
 refine a0c [] [] (a2j 111) ?_
 simp (maxSteps:=2000000) only [go_sem,hG,hOw,hwr]
 (repeat' with_reducible first|apply And.intro|refine exP ?_ ?_|intro);all_goals try omega
 refine a0c [(0,51)] [] (hN) ?_
 simp (maxSteps:=2000000) only [go_sem,hG,hOw,hbe,it,Nat.reduceMul,List.drop_succ_cons,List.drop_zero]
 (repeat' with_reducible first|apply And.intro|refine exP ?_ ?_|intro);all_goals try omega
 try refine ⟨by omega,?_⟩
 refine a0c [(50,51),(51,7)] [] (hF) ?_ (by (simp only [go_sem])<;>simp [dc0]) (by (simp only [go_sem,a1d,a0r,a0i,a1l])<;>simp [dc0]) (by simp [a0n,usH,toR,dc0])
 simp only [go_sem,hG,hOw]
 (repeat' with_reducible first|apply And.intro|refine exP ?_ ?_|intro);all_goals try omega
 exact (a2o [(50,some 50),(51,some 51),(62,some 60),(63,some 57)])
theorem f1g (lo:Nat) (s:Lx) (name:ByteArray) (l:Rws) (hl:∀ x ∈ l,x.size≤100000) (hne:¬ name=⟨#[99,117,116]⟩) (hf:a5s name=3) (v:Int) (r:Rws) (h1:a9j l=some (v,r)) (h2:f6 { dc0 with num:=v,kind:=3 } r=none) :
  Tri Tryz.prog 97 [str name,.ptr 51 0,.ptr 50 0] [(50,.box [.own 60 0 s.rules.length 3,.own 61 0 s.decs.length 9]),(51,.box [a0q lo l]),(60,.arr 166 3 (s.rules.map rlC)),(61,.arr 178 9 (s.decs.map dcC))]
   (fun _=>.pan (wrV 111) []):=by
 have hI:=a4j name
 rw [hf] at hI
 have hN:=d4g lo l hl
 rw [h1] at hN
 have hF:=e4r lo { dc0 with num:=v,kind:=3 } r ((a4p h1).size hl)
 rw [h2] at hF
 simp only at hN hF
 have hbe:ByteArray.empty=⟨#[]⟩:=rfl
 have hwr:IntKind.u8.wrap 3=3:=rfl
 have it:Int.toNat 3=3:=rfl
 refine a0e (fun _=>false) Tryz.func97 Tryz.ntmps97 rfl rfl fun G hG hOw hNm=>?_;simp only [go_sem,hG,hOw]
 (repeat' with_reducible first|apply And.intro|refine exP ?_ ?_|intro);all_goals try omega
 ·rename_i h;exact absurd h hne
 refine a5u (n:=5) (sz:=3) (cs:=a4c) formRows rfl (by simp [go_sem,a4c]) rfl (by rw [hG];decide) (by kernel_rfl) a7c (by simp [formRows]) rfl ⟨by decide,by decide⟩ (by decide) ?_
 simp only [go_sem,hG,hOw]
 refine a2x (fun i=>[3].contains i) ?_
 simp only [go_sem,hG,hOw]
 refine a0a hI ?_
 simp only [go_sem,hG,hOw]
 (repeat' with_reducible first|apply And.intro|refine exP ?_ ?_|intro);all_goals try omega
 refine a0c [] [] (a2j 111) ?_
 simp (maxSteps:=2000000) only [go_sem,hG,hOw,hwr]
 (repeat' with_reducible first|apply And.intro|refine exP ?_ ?_|intro);all_goals try omega
 refine a0c [(0,51)] [] (hN) ?_
 simp (maxSteps:=2000000) only [go_sem,hG,hOw,hbe,it,Nat.reduceMul,List.drop_succ_cons,List.drop_zero]
 (repeat' with_reducible first|apply And.intro|refine exP ?_ ?_|intro);all_goals try omega
 try refine ⟨by omega,?_⟩
 refine a0c [(50,51),(51,7)] [] (hF) ?_ (by (simp only [go_sem])<;>simp [dc0]) (by (simp only [go_sem,a1d,a0r,a0i,a1l])<;>simp [dc0]) (by simp [a0n,usH,toR,dc0])
 simp only [go_sem,hG,hOw]
 exact ⟨rfl,(a2o [])⟩
theorem f8s (lo:Nat) (s:Lx) (name:ByteArray) (l:Rws) (hl:∀ x ∈ l,x.size≤100000) (hne:¬ name=⟨#[99,117,116]⟩) (hf:a5s name=3) (v:Int) (r:Rws) (h1:a9j l=some (v,r)) (d:Dc) (r':Rws) (h2:f6 { dc0 with num:=v,kind:=3 } r=some (d,r')) (hn:s.decs.length≤1000) :
  Tri Tryz.prog 97 [str name,.ptr 51 0,.ptr 50 0] [(50,.box [.own 60 0 s.rules.length 3,.own 61 0 s.decs.length 9]),(51,.box [a0q lo l]),(60,.arr 166 3 (s.rules.map rlC)),(61,.arr 178 9 (s.decs.map dcC))]
   (fun _=>.ret (.tup []) [(50,.box [.own 62 0 s.rules.length 3,.own 63 0 (s.decs.length+1) 9]),(51,.box [a0q lo r']),(62,.arr 166 3 (s.rules.map rlC)),(63,.arr 178 9 (s.decs.map dcC++[dcC d]))]):=by
 have hI:=a4j name
 rw [hf] at hI
 have hN:=d4g lo l hl
 rw [h1] at hN
 have hF:=e4r lo { dc0 with num:=v,kind:=3 } r ((a4p h1).size hl)
 rw [h2] at hF
 simp only at hN hF
 have hbe:ByteArray.empty=⟨#[]⟩:=rfl
 have hwr:IntKind.u8.wrap 3=3:=rfl
 have it:Int.toNat 3=3:=rfl
 refine a0e (fun _=>false) Tryz.func97 Tryz.ntmps97 rfl rfl fun G hG hOw hNm=>?_;simp only [go_sem,hG,hOw]
 (repeat' with_reducible first|apply And.intro|refine exP ?_ ?_|intro);all_goals try omega
 ·rename_i h;exact absurd h hne
 refine a5u (n:=5) (sz:=3) (cs:=a4c) formRows rfl (by simp [go_sem,a4c]) rfl (by rw [hG];decide) (by kernel_rfl) a7c (by simp [formRows]) rfl ⟨by decide,by decide⟩ (by decide) ?_
 simp only [go_sem,hG,hOw]
 refine a2x (fun i=>[3].contains i) ?_
 simp only [go_sem,hG,hOw]
 refine a0a hI ?_
 simp only [go_sem,hG,hOw]
 (repeat' with_reducible first|apply And.intro|refine exP ?_ ?_|intro);all_goals try omega
 refine a0c [] [] (a2j 111) ?_
 simp (maxSteps:=2000000) only [go_sem,hG,hOw,hwr]
 (repeat' with_reducible first|apply And.intro|refine exP ?_ ?_|intro);all_goals try omega
 refine a0c [(0,51)] [] (hN) ?_
 simp (maxSteps:=2000000) only [go_sem,hG,hOw,hbe,it,Nat.reduceMul,List.drop_succ_cons,List.drop_zero]
 (repeat' with_reducible first|apply And.intro|refine exP ?_ ?_|intro);all_goals try omega
 try refine ⟨by omega,?_⟩
 refine a0c [(50,51),(51,7)] [] (hF) ?_ (by (simp only [go_sem])<;>simp [dc0]) (by (simp only [go_sem,a1d,a0r,a0i,a1l])<;>simp [dc0]) (by simp [a0n,usH,toR,dc0])
 simp only [go_sem,hG,hOw]
 (repeat' with_reducible first|apply And.intro|refine exP ?_ ?_|intro);all_goals try omega
 exact (a2o [(50,some 50),(51,some 51),(62,some 60),(63,some 57)])
theorem e8a (lo:Nat) (s:Lx) (name:ByteArray) (l:Rws) (hl:∀ x ∈ l,x.size≤100000) (hne:¬ name=⟨#[99,117,116]⟩) (hf:a5s name=4) (v:Int) (r:Rws) (h1:a9j l=some (v,r)) (h2:f8 { dc0 with num:=v,kind:=4 } r=none) :
  Tri Tryz.prog 97 [str name,.ptr 51 0,.ptr 50 0] [(50,.box [.own 60 0 s.rules.length 3,.own 61 0 s.decs.length 9]),(51,.box [a0q lo l]),(60,.arr 166 3 (s.rules.map rlC)),(61,.arr 178 9 (s.decs.map dcC))]
   (fun _=>.pan (wrV 111) []):=by
 have hI:=a4j name
 rw [hf] at hI
 have hN:=d4g lo l hl
 rw [h1] at hN
 have hF:=e1b lo { dc0 with num:=v,kind:=4 } r ((a4p h1).size hl)
 rw [h2] at hF
 simp only at hN hF
 have hbe:ByteArray.empty=⟨#[]⟩:=rfl
 have hwr:IntKind.u8.wrap 4=4:=rfl
 have it:Int.toNat 4=4:=rfl
 refine a0e (fun _=>false) Tryz.func97 Tryz.ntmps97 rfl rfl fun G hG hOw hNm=>?_;simp only [go_sem,hG,hOw]
 (repeat' with_reducible first|apply And.intro|refine exP ?_ ?_|intro);all_goals try omega
 ·rename_i h;exact absurd h hne
 refine a5u (n:=5) (sz:=3) (cs:=a4c) formRows rfl (by simp [go_sem,a4c]) rfl (by rw [hG];decide) (by kernel_rfl) a7c (by simp [formRows]) rfl ⟨by decide,by decide⟩ (by decide) ?_
 simp only [go_sem,hG,hOw]
 refine a2x (fun i=>[3].contains i) ?_
 simp only [go_sem,hG,hOw]
 refine a0a hI ?_
 simp only [go_sem,hG,hOw]
 (repeat' with_reducible first|apply And.intro|refine exP ?_ ?_|intro);all_goals try omega
 refine a0c [] [] (a2j 111) ?_
 simp (maxSteps:=2000000) only [go_sem,hG,hOw,hwr]
 (repeat' with_reducible first|apply And.intro|refine exP ?_ ?_|intro);all_goals try omega
 refine a0c [(0,51)] [] (hN) ?_
 simp (maxSteps:=2000000) only [go_sem,hG,hOw,hbe,it,Nat.reduceMul,List.drop_succ_cons,List.drop_zero]
 (repeat' with_reducible first|apply And.intro|refine exP ?_ ?_|intro);all_goals try omega
 try refine ⟨by omega,?_⟩
 refine a0c [(50,51),(51,7)] [] (hF) ?_ (by (simp only [go_sem])<;>simp [dc0]) (by (simp only [go_sem,a1d,a0r,a0i,a1l])<;>simp [dc0]) (by simp [a0n,usH,toR,dc0])
 simp only [go_sem,hG,hOw]
 exact ⟨rfl,(a2o [])⟩
theorem f8v (lo:Nat) (s:Lx) (name:ByteArray) (l:Rws) (hl:∀ x ∈ l,x.size≤100000) (hne:¬ name=⟨#[99,117,116]⟩) (hf:a5s name=4) (v:Int) (r:Rws) (h1:a9j l=some (v,r)) (d:Dc) (r':Rws) (h2:f8 { dc0 with num:=v,kind:=4 } r=some (d,r')) (hn:s.decs.length≤1000) :
  Tri Tryz.prog 97 [str name,.ptr 51 0,.ptr 50 0] [(50,.box [.own 60 0 s.rules.length 3,.own 61 0 s.decs.length 9]),(51,.box [a0q lo l]),(60,.arr 166 3 (s.rules.map rlC)),(61,.arr 178 9 (s.decs.map dcC))]
   (fun _=>.ret (.tup []) [(50,.box [.own 62 0 s.rules.length 3,.own 63 0 (s.decs.length+1) 9]),(51,.box [a0q lo r']),(62,.arr 166 3 (s.rules.map rlC)),(63,.arr 178 9 (s.decs.map dcC++[dcC d]))]):=by
 have hI:=a4j name
 rw [hf] at hI
 have hN:=d4g lo l hl
 rw [h1] at hN
 have hF:=e1b lo { dc0 with num:=v,kind:=4 } r ((a4p h1).size hl)
 rw [h2] at hF
 simp only at hN hF
 have hbe:ByteArray.empty=⟨#[]⟩:=rfl
 have hwr:IntKind.u8.wrap 4=4:=rfl
 have it:Int.toNat 4=4:=rfl
 refine a0e (fun _=>false) Tryz.func97 Tryz.ntmps97 rfl rfl fun G hG hOw hNm=>?_;simp only [go_sem,hG,hOw]
 (repeat' with_reducible first|apply And.intro|refine exP ?_ ?_|intro);all_goals try omega
 ·rename_i h;exact absurd h hne
 refine a5u (n:=5) (sz:=3) (cs:=a4c) formRows rfl (by simp [go_sem,a4c]) rfl (by rw [hG];decide) (by kernel_rfl) a7c (by simp [formRows]) rfl ⟨by decide,by decide⟩ (by decide) ?_
 simp only [go_sem,hG,hOw]
 refine a2x (fun i=>[3].contains i) ?_
 simp only [go_sem,hG,hOw]
 refine a0a hI ?_
 simp only [go_sem,hG,hOw]
 (repeat' with_reducible first|apply And.intro|refine exP ?_ ?_|intro);all_goals try omega
 refine a0c [] [] (a2j 111) ?_
 simp (maxSteps:=2000000) only [go_sem,hG,hOw,hwr]
 (repeat' with_reducible first|apply And.intro|refine exP ?_ ?_|intro);all_goals try omega
 refine a0c [(0,51)] [] (hN) ?_
 simp (maxSteps:=2000000) only [go_sem,hG,hOw,hbe,it,Nat.reduceMul,List.drop_succ_cons,List.drop_zero]
 (repeat' with_reducible first|apply And.intro|refine exP ?_ ?_|intro);all_goals try omega
 try refine ⟨by omega,?_⟩
 refine a0c [(50,51),(51,7)] [] (hF) ?_ (by (simp only [go_sem])<;>simp [dc0]) (by (simp only [go_sem,a1d,a0r,a0i,a1l])<;>simp [dc0]) (by simp [a0n,usH,toR,dc0])
 simp only [go_sem,hG,hOw]
 (repeat' with_reducible first|apply And.intro|refine exP ?_ ?_|intro);all_goals try omega
 exact (a2o [(50,some 50),(51,some 51),(62,some 60),(63,some 57)])
open Go Pm Go.RowKit Go.Sort
theorem b7v (name:ByteArray):a5s name=-1∨a5s name=1∨a5s name=2∨a5s name=3∨a5s name=4:=by
 unfold a5s
 split
 ·simp
 split
 ·simp
 split
 ·simp
 split<;>simp
theorem c8s {name:ByteArray} {l r:Rws} {v k:Int} (hf:a5s name=k) (h1:a9j l=some (v,r)):f1f name l=fK k { dc0 with num:=v,kind:=UInt8.ofNat k.toNat } r:=by
 unfold f1f;rw [h1,hf]
theorem f7d (k:Int) (d:Dc) (l:Rws) (h:k=-1):fK k d l=none:=by subst h;rfl
theorem g1s {k:Int} {d d':Dc} {l r:Rws} (h:fK k d l=some (d',r)) (hb:bdD d):SubR r l∧bdD d':=by
 unfold fK at h
 split at h
 ·exact f3m h hb
 split at h
 ·exact g3v h hb
 split at h
 ·exact f9z h hb
 split at h
 ·exact g0l h hb
 ·cases h
theorem e7g {name:ByteArray} {l r:Rws} {d:Dc} (h:f1f name l=some (d,r)):SubR r l∧bdD d:=by
 unfold f1f at h
 split at h
 ·cases h
 ·rename_i n r1 h1
  obtain ⟨a,b⟩:=g1s h ⟨by show (⟨#[]⟩:ByteArray).size≤_;decide,by show (⟨#[]⟩:ByteArray).size≤_;decide⟩
  exact ⟨a.trans (a4p h1),b⟩
theorem e0d {s s':Lx} {name:ByteArray} {l r:Rws} (h:b1f s name l=some (s',r)):s'.rules.length≤s.rules.length+1∧s'.decs.length≤s.decs.length+1∧((∀ r ∈ s.rules,bdR r)→∀ r ∈ s'.rules,bdR r)∧((∀ d ∈ s.decs,bdD d)→∀ d ∈ s'.decs,bdD d):=by
 unfold b1f at h
 split at h
 ·split at h
  ·split at h
   ·cases h
   ·rename_i q l' h1
    cases h
    refine ⟨by simp,by simp,fun hb x hx=>?_,fun hb=>hb⟩
    rcases List.mem_append.1 hx with hx|hx
    ·exact hb x hx
    ·simp at hx;subst hx;exact (e4j h1).2
  ·cases h
 ·split at h
  ·cases h
  ·rename_i d l' h1
   cases h
   refine ⟨by simp,by simp,fun hb=>hb,fun hb x hx=>?_⟩
   rcases List.mem_append.1 hx with hx|hx
   ·exact hb x hx
   ·simp at hx;subst hx;exact (e7g h1).2
theorem f4v (lo:Nat) (s:Lx) (name:ByteArray) (l:Rws) (h:b1f s name l=none) (hl:∀ x ∈ l,x.size≤100000) (hn:s.rules.length≤1000) (hd:s.decs.length≤1000) :
  Tri Tryz.prog 97 [str name,.ptr 51 0,.ptr 50 0] [(50,.box [.own 60 0 s.rules.length 3,.own 61 0 s.decs.length 9]),(51,.box [a0q lo l]),(60,.arr 166 3 (s.rules.map rlC)),(61,.arr 178 9 (s.decs.map dcC))]
   (fun _=>.pan (wrV 111) []):=by
 unfold b1f at h
 split at h
 ·rename_i hc
  subst hc
  split at h
  ·rename_i hs
   unfold c9i at h
   cases h1:a6b l with
   |none=>exact g6j lo s l hs h1
   |some q =>
    obtain ⟨w,r⟩:=q
    rw [h1] at h
    simp only at h
    cases h2:d2x r with
    |none=>exact g5l lo s l hs w r h1 h2
    |some q2 =>
     obtain ⟨p,r1⟩:=q2
     rw [h2] at h
     simp only at h
     cases h3:a9j r1 with
     |none=>exact g7s lo s l hs hl hn w r h1 p r1 h2 h3
     |some q3=>rw [h3] at h;cases h
  ·rename_i hs
   exact f8e lo s l hs
 ·rename_i hc
  have hd0:f1f name l=none:=by
   cases hq:f1f name l with
   |none=>rfl
   |some q=>rw [hq] at h;cases h
  rcases b7v name with hf|hf
  ·exact g0j lo s name l hc hf
  ·have hk:1≤a5s name∧a5s name≤4:=by omega
   cases h1:a9j l with
   |none=>exact f8r lo s name l hl hc _ hk rfl h1
   |some q =>
    obtain ⟨v,r⟩:=q
    rcases hf with hf|hf|hf|hf
    all_goals rw [c8s hf h1] at hd0
    ·exact e9b lo s name l hl hc hf v r h1 hd0
    ·exact e8x lo s name l hl hc hf v r h1 hd0
    ·exact f1g lo s name l hl hc hf v r h1 hd0
    ·exact e8a lo s name l hl hc hf v r h1 hd0
theorem g0q (lo:Nat) (s s':Lx) (name:ByteArray) (l l':Rws) (h:b1f s name l=some (s',l')) (hl:∀ x ∈ l,x.size≤100000) (hn:s.rules.length≤1000) (hd:s.decs.length≤1000) :
  Tri Tryz.prog 97 [str name,.ptr 51 0,.ptr 50 0] [(50,.box [.own 60 0 s.rules.length 3,.own 61 0 s.decs.length 9]),(51,.box [a0q lo l]),(60,.arr 166 3 (s.rules.map rlC)),(61,.arr 178 9 (s.decs.map dcC))]
   (fun _=>.ret (.tup []) [(50,.box [.own 62 0 s'.rules.length 3,.own 63 0 s'.decs.length 9]),(51,.box [a0q lo l']),(62,.arr 166 3 (s'.rules.map rlC)),(63,.arr 178 9 (s'.decs.map dcC))]):=by
 unfold b1f at h
 split at h
 ·rename_i hc
  subst hc
  split at h
  ·rename_i hs
   unfold c9i at h
   cases h1:a6b l with
   |none=>rw [h1] at h;cases h
   |some q =>
    obtain ⟨w,r⟩:=q
    rw [h1] at h
    simp only at h
    cases h2:d2x r with
    |none=>rw [h2] at h;cases h
    |some q2 =>
     obtain ⟨p,r1⟩:=q2
     rw [h2] at h
     simp only at h
     cases h3:a9j r1 with
     |none=>rw [h3] at h;cases h
     |some q3 =>
      obtain ⟨n,r2⟩:=q3
      rw [h3] at h
      simp only [Option.some.injEq,Prod.mk.injEq] at h
      obtain ⟨rfl,rfl⟩:=h
      have hT:=g6k lo s l hs hl hn w r h1 p r1 h2 n r2 h3
      have e1:(s.rules++[(⟨w,p,n⟩:Rl)]).map rlC=s.rules.map rlC++[rlC ⟨w,p,n⟩]:=by rw [List.map_append];rfl
      have e2:(s.rules++[(⟨w,p,n⟩:Rl)]).length=s.rules.length+1:=by simp
      simp only [e1,e2]
      exact hT
  ·cases h
 ·rename_i hc
  split at h
  ·cases h
  ·rename_i d r' hq
   simp only [Option.some.injEq,Prod.mk.injEq] at h
   obtain ⟨rfl,rfl⟩:=h
   have e1:(s.decs++[d]).map dcC=s.decs.map dcC++[dcC d]:=by rw [List.map_append];rfl
   have e2:(s.decs++[d]).length=s.decs.length+1:=by simp
   simp only [e1,e2]
   cases h1:a9j l with
   |none=>unfold f1f at hq;rw [h1] at hq;cases hq
   |some q =>
    obtain ⟨v,r⟩:=q
    rcases b7v name with hf|hf|hf|hf|hf
    all_goals rw [c8s hf h1] at hq
    ·rw [f7d _ _ _ rfl] at hq;cases hq
    ·exact f5d lo s name l hl hc hf v r h1 d r' hq hd
    ·exact f3r lo s name l hl hc hf v r h1 d r' hq hd
    ·exact f8s lo s name l hl hc hf v r h1 d r' hq hd
    ·exact f8v lo s name l hl hc hf v r h1 d r' hq hd
open Go Pm Go.RowKit Go.Sort
def b1o (s:Lx) (x:ByteArray):Option Lx:=match a1o x with
 |[]=>none
 |name::rest=>match b1f s name rest with
  |some (s',[])=>some s'
  |_=>none
def a4e (s:Lx):List ByteArray→Option Lx
 |[]=>some s
 |x::l=>(b1o s x).bind fun s'=>a4e s' l
theorem b1u:∀ (l m:List ByteArray) (s:Lx),a4e s (l++m)=(a4e s l).bind fun s'=>a4e s' m
 |[],m,s=>rfl
 |x::l,m,s=>by
  simp only [List.cons_append,a4e]
  cases b1o s x with
  |none=>rfl
  |some c=>exact b1u l m c
theorem b3l (l:List ByteArray) (s:Lx) (k:Nat) (hk:k < l.length):a4e s (l.take (k+1))=(a4e s (l.take k)).bind fun s=>b1o s l[k]:=by
 rw [List.take_add_one,List.getElem?_eq_getElem hk,b1u]
 congr 1
 funext s
 simp only [Option.toList,a4e]
 cases b1o s l[k]<;>rfl
theorem c6m {l:List ByteArray} {s0 s:Lx} {k:Nat} (hk:k < l.length) (h:a4e s0 (l.take k)=some s) (hb:b1o s l[k]=none):a4e s0 l=none:=by
 have h1:a4e s0 (l.take (k+1))=none:=by rw [b3l l s0 k hk,h];simp [hb]
 have h2:=b1u (l.take (k+1)) (l.drop (k+1)) s0
 rw [List.take_append_drop] at h2
 rw [h2,h1];rfl
def X0:Lx:=⟨[],[]⟩
theorem e6a {s s':Lx} {x:ByteArray} (h:b1o s x=some s'):s'.rules.length≤s.rules.length+1∧s'.decs.length≤s.decs.length+1∧((∀ r ∈ s.rules,bdR r)→∀ r ∈ s'.rules,bdR r)∧((∀ d ∈ s.decs,bdD d)→∀ d ∈ s'.decs,bdD d):=by
 unfold b1o at h
 split at h
 ·cases h
 ·split at h
  ·rename_i t hst
   cases h
   exact e0d hst
  ·cases h
theorem c0q {l:List ByteArray}:∀ {k:Nat} {s:Lx},k≤l.length→a4e X0 (l.take k)=some s→s.rules.length≤k∧s.decs.length≤k∧(∀ r ∈ s.rules,bdR r)∧∀ d ∈ s.decs,bdD d
 |0,s,_,h=>by
  simp [a4e] at h
  subst h
  exact ⟨by simp [X0],by simp [X0],by simp [X0],by simp [X0]⟩
 |k+1,s,hk,h=>by
  rw [b3l l X0 k (by omega)] at h
  simp only [Option.bind_eq_some_iff] at h
  obtain ⟨u,h1,h2⟩:=h
  obtain ⟨a,b,c,d⟩:=c0q (by omega) h1
  obtain ⟨a',b',c',d'⟩:=e6a h2
  exact ⟨by omega,by omega,c' c,d' d⟩
theorem d4c (l:List ByteArray) (h:a1c l=false):Tri Tryz.prog 73 [a0q 0 l,.fn (.func 97) [.ptr 50 0]] [(50,.box [.v (.slice none 0 0),.v (.slice none 0 0)])] (fun _=>.pan (wrV 110) []):=by
 refine a0e (fun _=>false) Tryz.func73 Tryz.ntmps73 rfl rfl fun G hG hOw hNm=>?_;simp only [go_sem,hG,hOw]
 (repeat' with_reducible first|apply And.intro|refine exP ?_ ?_|intro);all_goals try omega
 refine a0a (a6v l) ?_
 rw [h]
 simp only [go_sem,hG,hOw]
 (repeat' with_reducible first|apply And.intro|refine exP ?_ ?_|intro);all_goals try omega
 refine a0c [] [] (a7h 110) ?_
 simp only [go_sem,hG,hOw]
 exact ⟨rfl,(a2o [])⟩
theorem d1b (l:List ByteArray) (h:a1c l=true):Tri Tryz.prog 73 [a0q 0 l,.fn (.func 97) [.ptr 50 0]] [(50,.box [.v (.slice none 0 0),.v (.slice none 0 0)])] (fun _=>match a4e X0 l with
  |some s=>.ret (.tup []) [(50,.box (lxC 0 s))]
  |none=>.pan (wrV 111) []):=by
 obtain ⟨hl1,hl2⟩:=d2s h
 refine a0e (fun _=>false) Tryz.func73 Tryz.ntmps73 rfl rfl fun G hG hOw hNm=>?_;simp only [go_sem,hG,hOw]
 (repeat' with_reducible first|apply And.intro|refine exP ?_ ?_|intro);all_goals try omega
 refine a0a (a6v l) ?_
 rw [h]
 simp only [go_sem,hG,hOw]
 (repeat' with_reducible first|apply And.intro|refine exP ?_ ?_|intro);all_goals try omega
 refine a0c [] [] (a2j 110) ?_
 simp only [go_sem,hG,hOw]
 (repeat' with_reducible first|apply And.intro|refine exP ?_ ?_|intro);all_goals try omega
 have e0:X0.rules=[]:=rfl
 have e1:X0.decs=[]:=rfl
 refine a2h (fun s:Lx=>St.of [] [(50,.box (lxC 0 s))]) (fun s=>a4e X0 l=some s) ?_ ?_
 ·refine a0k (fun x:Nat×Lx=>St.of [(1,.fn (.func 97) [.ptr 50 0]),(11,a0q 0 l),(12,i64 l.length),(13,i64 x.1)] [(50,.box [.own 60 0 x.2.rules.length 3,.own 61 0 x.2.decs.length 9]),(60,.arr 166 3 (x.2.rules.map rlC)),(61,.arr 178 9 (x.2.decs.map dcC))]) (fun x=>x.1≤l.length∧a4e X0 (l.take x.1)=some x.2) (fun x=>l.length - x.1) (0,X0) ⟨by simp,by simp [a4e]⟩ (a1e [(50,some 50),(60,none),(61,none)] (by (simp only [e0,e1,List.map_nil,List.length_nil,go_sem])<;>simp [e0,e1,List.map_nil,List.length_nil]) (by (simp only [e0,e1,List.map_nil,List.length_nil,go_sem,a1d,a0r,a0i,a1l])<;>simp [e0,e1,List.map_nil,List.length_nil]) (by simp [a2m,apart]) (by simp [a0n,usH]) (by simp [hNm,lkR,a0x])) ?_
  rintro ⟨k,s⟩ ⟨hk,hrd⟩
  simp only at hk hrd
  obtain ⟨hb1,hb2,_,_⟩:=c0q hk hrd
  refine a0d _ _ _ ?_;simp only [go_sem,hG,hOw]
  (repeat' with_reducible first|apply And.intro|refine exP ?_ ?_|intro);all_goals try omega
  ·rename_i hlt
   have hkl:k < l.length:=by omega
   have hsz:=hl2 _ (List.getElem_mem hkl)
   refine a0a (d1h l[k] (by omega)) ?_
   obtain ⟨name,rest,hp⟩:∃ name rest,a1o l[k]=name::rest:=by
    cases hq:a1o l[k] with
    |nil=>exact (c4o _ hq).elim
    |cons a b=>exact ⟨a,b,rfl⟩
   have hps:∀ s ∈ rest,s.size≤100000:=fun s hs=>by have:=c8z l[k] s (by rw [hp];simp [hs]);omega
   rw [hp]
   simp only [go_sem,hG,hOw]
   (repeat' with_reducible first|apply And.intro|refine exP ?_ ?_|intro);all_goals try omega
   refine a0c [(0,20)] [] (b2y G.lo name rest) ?_
   simp only [go_sem,hG,hOw]
   (repeat' with_reducible first|apply And.intro|refine exP ?_ ?_|intro);all_goals try omega
   cases hst:b1f s name rest with
   |none =>
    have hno:a4e X0 l=none:=c6m hkl hrd (by unfold b1o;rw [hp];simp only [hst])
    rw [hno]
    refine a0c [(50,50),(51,20),(60,60),(61,61)] [] (f4v G.lo s name rest hst hps (by omega) (by omega)) ?_
    simp only [go_sem,hG,hOw]
    exact ⟨rfl,(a2o [])⟩
   |some q =>
    obtain ⟨s',r'⟩:=q
    refine a0c [(50,50),(51,20),(60,60),(61,61)] [(62,204),(63,205)] (g0q G.lo s s' name rest r' hst hps (by omega) (by omega)) ?_
    simp only [go_sem,hG,hOw]
    (repeat' with_reducible first|apply And.intro|refine exP ?_ ?_|intro);all_goals try omega
    ·rename_i hr0
     have hr0:r'=[]:=List.eq_nil_of_length_eq_zero (by omega)
     subst hr0
     have hsF:b1o s l[k]=some s':=by unfold b1o;rw [hp];simp only [hst]
     exact ⟨(k+1,s'),⟨by show k+1≤_;omega,by rw [b3l l X0 k hkl,hrd];simp [hsF]⟩,by show l.length - (k+1) < _;omega,a1e [(50,some 50),(60,some 204),(61,some 205)] (by (simp only [List.map_nil,go_sem])<;>simp [List.map_nil]) (by (simp only [List.map_nil,go_sem,a1d,a0r,a0i,a1l])<;>simp [List.map_nil]) (by simp [a2m,apart]) (by simp [a0n,usH]) (by simp [hNm,lkR,a0x])⟩
    ·rename_i hr0
     have hno:a4e X0 l=none:=c6m hkl hrd (by
      unfold b1o;rw [hp];simp only [hst]
      cases r' with
      |nil=>exact (hr0 rfl).elim
      |cons a b=>rfl)
     rw [hno]
     refine d2t [.int .i64 111] rfl rfl (by kernel_rfl) (by simp [chk,hG]) ?_
     simp only [go_sem,hG,hOw]
     (repeat' with_reducible first|apply And.intro|refine exP ?_ ?_|intro);all_goals try omega
     refine b8y rfl rfl ?_
     exact ⟨rfl,(a2o [])⟩
  ·rename_i hge
   obtain rfl:k=l.length:=by omega
   rw [List.take_length] at hrd
   refine ⟨s,hrd,b1q (fun i=>i == 60 || i == 61) ?_⟩
   have hN:Pm.Sub (.lst G.lo 3 (s.rules.map rlC)) (.lst 0 3 (s.rules.map rlC)):=Sub.lo (Nat.zero_le _)
   have hN2:Pm.Sub (.lst G.lo 9 (s.decs.map dcC)) (.lst 0 9 (s.decs.map dcC)):=Sub.lo (Nat.zero_le _)
   have hT:List.take s.rules.length (s.rules.map rlC)=s.rules.map rlC:=List.take_of_length_le (by simp)
   have hT2:List.take s.decs.length (s.decs.map dcC)=s.decs.map dcC:=List.take_of_length_le (by simp)
   exact a1e [(50,some 50)] (by (simp only [hT,hN,hT2,hN2,go_sem])<;>simp [hT,hN,hT2,hN2]) (by (simp only [hT,hN,hT2,hN2,go_sem,a1d,a0r,a0i,a1l])<;>simp [hT,hN,hT2,hN2]) (by simp [a2m,apart]) (by simp [a0n,usH]) (by simp [hNm,lkR,a0x])
 ·rintro s hs
  rw [hs]
  simp only [go_sem,hG,hOw]
  (repeat' with_reducible first|apply And.intro|refine exP ?_ ?_|intro);all_goals try omega
  exact (a2o [(50,some 50)])
open Go Pm Go.RowKit Go.Sort
def a9o (t:List Ch) (l:List ByteArray):Lx×Int:=if a1s t=true then (if a1c l=true then (match a4e X0 l with
  |some s=>if a4w t s=0 then (s,0) else (X0,a4w t s)
  |none=>(X0,111)) else (X0,110)) else (X0,10)
theorem e3e (l:List ByteArray) (s:Lx) (h:a1c l=true) (hr:a4e X0 l=some s):Tri Tryz.prog 96 [.ptr 0 0,.ptr 1 0,.ptr 2 0] [(0,.box [i64 0]),(1,.box [a0q 0 l]),(2,.box [.v (.slice none 0 0),.v (.slice none 0 0)])]
  (fun _=>.ret (.tup []) [(0,.box [i64 0]),(1,.box [a0q 0 l]),(2,.box (lxC 0 s))]):=by
 have hU:=d1b l h
 simp only [hr] at hU
 refine b9v (fun _=>false) (told:=72) (p:=0) (x:=.int .i64 0) wrV (fun _=>True) Tryz.func96 Tryz.ntmps96 rfl (by kernel_rfl) (by simp) rfl rfl rfl rfl rfl (by simp [a0x]) c3n (fun k _=>c6y k) fun G hG hOw hNm _=>?_
 simp only [go_sem,hG,hOw]
 (repeat' with_reducible first|apply And.intro|refine exP ?_ ?_|intro);all_goals try omega
 refine a0c [(50,2)] [] (hU) ?_
 simp (maxSteps:=2000000) only [go_sem,hG,hOw,f9a,f8q]
 (repeat' with_reducible first|apply And.intro|refine exP ?_ ?_|intro);all_goals try omega
 exact (a2o [(0,some 0),(1,some 1),(2,some 2)])
theorem d4v (l:List ByteArray) (k:Int) (h:a1c l=false∧k=110∨a1c l=true∧a4e X0 l=none∧k=111):Tri Tryz.prog 96 [.ptr 0 0,.ptr 1 0,.ptr 2 0] [(0,.box [i64 0]),(1,.box [a0q 0 l]),(2,.box [.v (.slice none 0 0),.v (.slice none 0 0)])]
  (fun _=>.ret (.tup []) [(0,.box [i64 k]),(1,.box [a0q 0 l])]):=by
 have hU:Tri Tryz.prog 73 [a0q 0 l,.fn (.func 97) [.ptr 50 0]] [(50,.box [.v (.slice none 0 0),.v (.slice none 0 0)])] (fun _=>.pan (wrV k) []):=by
  rcases h with ⟨h1,rfl⟩|⟨h1,h2,rfl⟩
  ·exact d4c l h1
  ·have:=d1b l h1
   simp only [h2] at this
   exact this
 refine b9v (fun _=>false) (told:=72) (p:=0) (x:=.int .i64 0) wrV (fun _=>True) Tryz.func96 Tryz.ntmps96 rfl (by kernel_rfl) (by simp) rfl rfl rfl rfl rfl (by simp [a0x]) c3n (fun k _=>c6y k) fun G hG hOw hNm _=>?_
 simp only [go_sem,hG,hOw]
 (repeat' with_reducible first|apply And.intro|refine exP ?_ ?_|intro);all_goals try omega
 refine a0c [(50,2)] [] (hU) ?_
 simp (maxSteps:=2000000) only [go_sem,hG,hOw,f7v]
 (repeat' with_reducible first|apply And.intro|refine exP ?_ ?_|intro);all_goals try omega
 exact ⟨k,rfl,(a2o [(0,some 0),(1,some 1)])⟩
theorem c1u (lo:Nat) (k:Int):Pm.Sub (.tup [.agg [.v (.slice none 0 0),.v (.slice none 0 0)],i64 k]) (.tup [lxE lo X0,i64 k]) :=
 Subs.tup (.cons (Subs.agg (.cons (.nil _ _) (.cons (.nil _ _) .nil))) (.cons (.refl _) .nil))
theorem c4t (t:List Ch) (l:List ByteArray):a0l Tryz.prog 30 [txE 0 t,a0q 0 l] (fun _=>.tup [lxE 0 (a9o t l).1,i64 (a9o t l).2]):=by
 cases ht:a1s t with
 |false =>
  have e:a9o t l=(X0,10):=by unfold a9o;rw [ht];rfl
  rw [e]
  refine a0b (ow:=fun _=>false) Tryz.func30 Tryz.ntmps30 rfl rfl fun G hG hOw hNm hB=>?_;simp only [go_sem,hG,hOw]
  refine a0a (a5x t) ?_
  simp (maxSteps:=2000000) only [go_sem,hG,hOw,ht]
  try (repeat' with_reducible first|apply And.intro|refine exP ?_ ?_|intro);all_goals try omega
  exact c1u _ _
 |true =>
  by_cases hgood:a1c l=true∧∃ s,a4e X0 l=some s
  ·obtain ⟨h1,s,h2⟩:=hgood
   obtain ⟨hl1,hl2⟩:=d2s h1
   obtain ⟨b1,b2,b3,b4⟩:=c0q (l:=l) (k:=l.length) (Nat.le_refl _) (by rw [List.take_length];exact h2)
   have e:a9o t l=if a4w t s=0 then (s,0) else (X0,a4w t s):=by unfold a9o;simp only [ht,h1,h2,if_true]
   rw [e]
   have hT:=e3e l s h1 h2
   have hC:=b3b t s ⟨b3,b4,by omega,by omega⟩
   refine a0b (ow:=fun _=>false) Tryz.func30 Tryz.ntmps30 rfl rfl fun G hG hOw hNm hB=>?_;simp only [go_sem,hG,hOw]
   refine a0a (a5x t) ?_
   simp (maxSteps:=2000000) only [go_sem,hG,hOw,ht]
   try (repeat' with_reducible first|apply And.intro|refine exP ?_ ?_|intro);all_goals try omega
   refine a0c [(0,8),(1,3),(2,7)] [] (hT) ?_
   simp only [go_sem,hG,hOw]
   (repeat' with_reducible first|apply And.intro|refine exP ?_ ?_|intro);all_goals try omega
   refine a0a hC ?_
   by_cases he:a4w t s=0
   ·rw [if_pos he,he]
    simp only [go_sem,hG,hOw]
    try (repeat' with_reducible first|apply And.intro|refine exP ?_ ?_|intro);all_goals try omega
   ·rw [if_neg he]
    simp (maxSteps:=2000000) only [go_sem,hG,hOw,he]
    try (repeat' with_reducible first|apply And.intro|refine exP ?_ ?_|intro);all_goals try omega
    refine a2g ⟨[],[(25,[8]),(4,[4])],[]⟩ [(0,false),(1,false),(2,false),(3,false)] mixed (by kernel_rfl) ?_
    simp only [a3s,List.getElem?_cons_zero,List.getElem?_cons_succ]
    simp only [go_sem,hG,hOw]
    try (repeat' with_reducible first|apply And.intro|refine exP ?_ ?_|intro);all_goals try omega
    exact c1u _ _
  ·obtain ⟨k,hk,e⟩:∃ k:Int,(a1c l=false∧k=110∨a1c l=true∧a4e X0 l=none∧k=111)∧a9o t l=(X0,k):=by
    cases h1:a1c l with
    |false=>exact ⟨110,.inl ⟨rfl,rfl⟩,by simp [a9o,h1,ht]⟩
    |true =>
     cases h2:a4e X0 l with
     |none=>exact ⟨111,.inr ⟨rfl,rfl,rfl⟩,by simp [a9o,h1,h2,ht]⟩
     |some t=>exact (hgood ⟨h1,t,h2⟩).elim
   have hk0:k≠0:=by rcases hk with ⟨_,rfl⟩|⟨_,_,rfl⟩<;>decide
   have hT:=d4v l k hk
   rw [e]
   refine a0b (ow:=fun _=>false) Tryz.func30 Tryz.ntmps30 rfl rfl fun G hG hOw hNm hB=>?_;simp only [go_sem,hG,hOw]
   refine a0a (a5x t) ?_
   simp (maxSteps:=2000000) only [go_sem,hG,hOw,ht]
   try (repeat' with_reducible first|apply And.intro|refine exP ?_ ?_|intro);all_goals try omega
   refine a0c [(0,8),(1,3),(2,7)] [] (hT) ?_
   simp (maxSteps:=2000000) only [go_sem,hG,hOw,hk0]
   (repeat' with_reducible first|apply And.intro|refine exP ?_ ?_|intro);all_goals try omega
   refine a2g ⟨[],[(25,[8]),(4,[4])],[]⟩ [(0,false),(1,false),(2,false),(3,false)] mixed (by kernel_rfl) ?_
   simp only [a3s,List.getElem?_cons_zero,List.getElem?_cons_succ]
   simp only [go_sem,hG,hOw]
   try (repeat' with_reducible first|apply And.intro|refine exP ?_ ?_|intro);all_goals try omega
   exact c1u _ _
end Go.Proofs.YtmjhfccbbfpppaaGreatDoor
