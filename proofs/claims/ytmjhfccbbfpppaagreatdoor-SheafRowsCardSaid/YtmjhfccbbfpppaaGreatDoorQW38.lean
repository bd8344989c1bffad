import Derived.Test.YtmjhfccbbfpppaaGreatDoorQW28
import Derived.Test.YtmjhfccbbfpppaaGreatDoorQW36
namespace Go.Proofs.YtmjhfccbbfpppaaGreatDoor
open Go Pm
set_option linter.unusedSimpArgs false
set_option linter.unusedVariables false
set_option maxHeartbeats 4000000
set_option maxRecDepth 100000
theorem a5o (l:List ByteArray) (x:ByteArray):a0p Tryz.prog 84 [a0h 0 l,str x] (fun _=>i64 (a4e (fun s=>decide (x=s)) l)):=by
 refine a0c (ow:=fun _=>false) Tryz.func84 Tryz.ntmps84 rfl rfl fun G hG hOw hNm hB=>?_;simp only [go_sem,hG,hOw]
 have hl:l.length≤140737488355328:=by
  have:=b9t hB (lo:=0) (sz:=1) (l:=l.map a2j) (List.mem_cons_self ..)
  simpa using this
 refine a0n (fun i:Nat=>St.of [(0,a0h 0 l),(1,str x),(7,i64 l.length),(8,i64 i)] []) (fun i=>i≤l.length∧(l.take i).all (fun s=>!decide (x=s))=true) (fun i=>l.length - i) 0 (by simp) (a1d (by (simp only [go_sem])<;>simp) hNm) ?_
 rintro i ⟨hi,hall⟩
 refine a0g _ _ _ ?_;simp only [go_sem,hG,hOw]
 (repeat' with_reducible first|refine And.intro ?_ ?_|intro _|refine exP ?_ ?_);all_goals try omega
 ·rename_i hlt h
  have hil:i < l.length:=by omega
  exact (a9e hil hall (by simpa using h)).symm
 ·rename_i hlt h
  have hil:i < l.length:=by omega
  exact ⟨i+1,⟨by omega,a0u hil hall (by simpa using h)⟩,by omega,a1d (by (simp only [go_sem])<;>simp) hNm⟩
 ·rename_i hge
  rw [a1t hi hge] at hall
  exact (a8e hall).symm
def kdN (s:ByteArray):Nat:=if s=a3d then 1 else if s=a6q then 2 else if s=a1p then 3 else 0
theorem e8m (x:ByteArray):a4e (fun s=>decide (x=s)) [⟨#[]⟩,a3d,a6q,a1p]=if x=⟨#[]⟩ then 0 else if kdN x=0 then -1 else (kdN x:Int):=by
 by_cases h0:x=⟨#[]⟩
 ·rw [if_pos h0];simp [a4e,List.findIdx?_cons,h0]
 ·rw [if_neg h0]
  unfold kdN
  by_cases h1:x=a3d
  ·simp [a4e,List.findIdx?_cons,h0,h1]
   decide
  ·by_cases h2:x=a6q
   ·subst h2
    simp [a4e,List.findIdx?_cons]
    decide
   ·by_cases h3:x=a1p
    ·subst h3
     simp [a4e,List.findIdx?_cons]
     decide
    ·simp [a4e,List.findIdx?_cons,h0,h1,h2,h3]
def b1q (s:Option Cp) (name:ByteArray) (rest:List ByteArray):Option (Cp×List ByteArray):=match s with
 |none=>if name=a6y then match rest with
   |x::r=>(a3q x).map fun v=>(⟨v,[]⟩,r)
   |[]=>none
  else none
 |some c=>if name=a6y then none else if kdN name=0 then none else if a2t rest then
   (if kdN name=1 then some (⟨c.id,c.rds++[⟨nvS rest 0,nvS rest 1,nvS rest 2,1,⟨#[]⟩⟩]⟩,rest.drop 3) else match rest.drop 3 with
    |w::r=>if a1i w then some (⟨c.id,c.rds++[⟨nvS rest 0,nvS rest 1,nvS rest 2,UInt8.ofNat (kdN name),w⟩]⟩,r) else none
    |[]=>none)
   else none
def stepG (s:Option Cp) (x:ByteArray):Option Cp:=match a0y x with
 |[]=>none
 |name::rest=>match b1q s name rest with
  |some (c,[])=>some c
  |_=>none
def a6b (s:Option Cp):List ByteArray→Option (Option Cp)
 |[]=>some s
 |x::l=>(stepG s x).bind fun c=>a6b (some c) l
theorem d5e (lo:Nat) (x:ByteArray) (r:List ByteArray) (v:Int) (hx:x.size≤100000) (hv:a3q x=some v) :
  Tri Tryz.prog 83 [str a6y,.ptr 1 0,.ptr 0 0,.ptr 2 0] [(0,.box [bl false]),(1,.box [a0h lo (x::r)]),(2,.box [i64 0,.own 3 0 0 5]),(3,.arr 148 5 [])]
   (fun _=>.ret (.tup []) [(0,.box [bl true]),(1,.box [a0h lo r]),(2,.box [i64 v,.own 4 0 0 5]),(4,.arr 148 5 [])]):=by
 have hcs:decide (a6y=⟨#[99,111,112,121]⟩)=true:=rfl
 refine a0d (fun _=>false) Tryz.func83 Tryz.ntmps83 rfl rfl fun G hG hOw hNm=>?_;simp only [go_sem,hG,hOw]
 (repeat' with_reducible first|refine And.intro ?_ ?_|intro _|refine exP ?_ ?_);all_goals try omega
 refine a0b [] [] (a0s 111) ?_ (by (simp only [go_sem])<;>simp [hcs]) (by (simp only [go_sem,a1f,a0q,a0e,a1l])<;>simp [hcs]) (by simp [a0f,usH,toR,hcs])
 simp only [go_sem,hG,hOw]
 (repeat' with_reducible first|refine And.intro ?_ ?_|intro _|refine exP ?_ ?_);all_goals try omega
 refine a0b [(0,1)] [] (a8s lo x r v hx hv) ?_
 simp only [go_sem,hG,hOw]
 (repeat' with_reducible first|refine And.intro ?_ ?_|intro _|refine exP ?_ ?_);all_goals try omega
 exact (a1u [(0,some 0),(1,some 1),(2,some 2),(4,some 3)])
theorem b8x (lo:Nat) (l:List ByteArray) (hl:∀ s ∈ l,s.size≤100000) (h:∀ s r,l=s::r→a3q s=none) :
  Tri Tryz.prog 83 [str a6y,.ptr 1 0,.ptr 0 0,.ptr 2 0] [(0,.box [bl false]),(1,.box [a0h lo l]),(2,.box [i64 0,.own 3 0 0 5]),(3,.arr 148 5 [])]
   (fun _=>.pan (wrV 111) []):=by
 have hcs:decide (a6y=⟨#[99,111,112,121]⟩)=true:=rfl
 refine a0d (fun _=>false) Tryz.func83 Tryz.ntmps83 rfl rfl fun G hG hOw hNm=>?_;simp only [go_sem,hG,hOw]
 (repeat' with_reducible first|refine And.intro ?_ ?_|intro _|refine exP ?_ ?_);all_goals try omega
 refine a0b [] [] (a0s 111) ?_ (by (simp only [go_sem])<;>simp [hcs]) (by (simp only [go_sem,a1f,a0q,a0e,a1l])<;>simp [hcs]) (by simp [a0f,usH,toR,hcs])
 simp only [go_sem,hG,hOw]
 (repeat' with_reducible first|refine And.intro ?_ ?_|intro _|refine exP ?_ ?_);all_goals try omega
 refine a0b [(0,1)] [] (b4u lo l hl h) ?_
 simp only [go_sem,hG,hOw]
 exact ⟨rfl,(a1u [])⟩
theorem c0d (lo:Nat) (b:Bool) (name:ByteArray) (id:Int) (rs:List Rd) (l:List ByteArray) (h:decide (name=a6y)=b) :
  Tri Tryz.prog 83 [str name,.ptr 1 0,.ptr 0 0,.ptr 2 0] [(0,.box [bl b]),(1,.box [a0h lo l]),(2,.box [i64 id,.own 3 0 rs.length 5]),(3,.arr 148 5 (rs.map rdE))]
   (fun _=>.pan (wrV 111) []):=by
 have hcs:decide (name=⟨#[99,111,112,121]⟩)=b:=h
 refine a0d (fun _=>false) Tryz.func83 Tryz.ntmps83 rfl rfl fun G hG hOw hNm=>?_;simp only [go_sem,hG,hOw]
 (repeat' with_reducible first|refine And.intro ?_ ?_|intro _|refine exP ?_ ?_);all_goals try omega
 refine a0b [] [] (a3z 111) ?_ (by (simp only [go_sem])<;>simp [hcs]) (by (simp only [go_sem,a1f,a0q,a0e,a1l])<;>simp [hcs]) (by simp [a0f,usH,toR,hcs])
 simp only [go_sem,hG,hOw]
 exact ⟨rfl,(a1u [])⟩
theorem e3b (lo:Nat) (name:ByteArray) (id:Int) (rs:List Rd) (l:List ByteArray) (hn:¬ name=a6y) (hk:kdN name=0) :
  Tri Tryz.prog 83 [str name,.ptr 1 0,.ptr 0 0,.ptr 2 0] [(0,.box [bl true]),(1,.box [a0h lo l]),(2,.box [i64 id,.own 3 0 rs.length 5]),(3,.arr 148 5 (rs.map rdE))]
   (fun _=>.pan (wrV 111) []):=by
 have hcs:decide (name=⟨#[99,111,112,121]⟩)=false:=decide_eq_false hn
 have hI:=e8m name
 have hI2:decide (0 < a4e (fun s=>decide (name=s)) [⟨#[]⟩,a3d,a6q,a1p])=false:=by
  rw [hI,hk]
  split<;>rfl
 refine a0d (fun _=>false) Tryz.func83 Tryz.ntmps83 rfl rfl fun G hG hOw hNm=>?_;simp only [go_sem,hG,hOw]
 (repeat' with_reducible first|refine And.intro ?_ ?_|intro _|refine exP ?_ ?_);all_goals try omega
 refine a0b [] [] (a0s 111) ?_ (by (simp only [go_sem])<;>simp [hcs]) (by (simp only [go_sem,a1f,a0q,a0e,a1l])<;>simp [hcs]) (by simp [a0f,usH,toR,hcs])
 simp only [go_sem,hG,hOw]
 (repeat' with_reducible first|refine And.intro ?_ ?_|intro _|refine exP ?_ ?_);all_goals try omega
 refine a0a (a5o [⟨#[]⟩,a3d,a6q,a1p] name) ?_
 simp (maxSteps:=2000000) only [go_sem,hG,hOw,hI2]
 (repeat' with_reducible first|refine And.intro ?_ ?_|intro _|refine exP ?_ ?_);all_goals try omega
 refine a0b [] [] (a3z 111) ?_ (by (simp only [go_sem])<;>simp [hI2]) (by (simp only [go_sem,a1f,a0q,a0e,a1l])<;>simp [hI2]) (by simp [a0f,usH,toR,hI2])
 simp only [go_sem,hG,hOw]
 exact ⟨rfl,(a1u [])⟩
open Go Pm
set_option maxHeartbeats 4000000
set_option maxRecDepth 100000
theorem d9b (lo:Nat) (id:Int) (rs:List Rd) (l:List ByteArray) (hl:∀ s ∈ l,s.size≤100000) (hp:a2t l=false) :
  Tri Tryz.prog 83 [str a3d,.ptr 1 0,.ptr 0 0,.ptr 2 0] [(0,.box [bl true]),(1,.box [a0h lo l]),(2,.box [i64 id,.own 3 0 rs.length 5]),(3,.arr 148 5 (rs.map rdE))] (fun _=>.pan (wrV 111) []):=by
 have hP:=a2p lo l hl
 simp only [hp] at hP
 have hcs:decide (a3d=⟨#[99,111,112,121]⟩)=false:=by decide
 have hI:a4e (fun s=>decide (a3d=s)) [⟨#[]⟩,a3d,a6q,a1p]=1:=by decide
 refine a0d (fun _=>false) Tryz.func83 Tryz.ntmps83 rfl rfl fun G hG hOw hNm=>?_;simp only [go_sem,hG,hOw]
 (repeat' with_reducible first|refine And.intro ?_ ?_|intro _|refine exP ?_ ?_);all_goals try omega
 refine a0b [] [] (a0s 111) ?_ (by (simp only [go_sem])<;>simp [hcs]) (by (simp only [go_sem,a1f,a0q,a0e,a1l])<;>simp [hcs]) (by simp [a0f,usH,toR,hcs])
 simp only [go_sem,hG,hOw]
 (repeat' with_reducible first|refine And.intro ?_ ?_|intro _|refine exP ?_ ?_);all_goals try omega
 refine a0a (a5o [⟨#[]⟩,a3d,a6q,a1p] a3d) ?_
 rw [hI]
 simp only [go_sem,hG,hOw]
 (repeat' with_reducible first|refine And.intro ?_ ?_|intro _|refine exP ?_ ?_);all_goals try omega
 refine a0b [] [] (a0s 111) ?_
 simp only [go_sem,hG,hOw]
 (repeat' with_reducible first|refine And.intro ?_ ?_|intro _|refine exP ?_ ?_);all_goals try omega
 refine a0b [(0,1)] [] (hP) ?_
 simp only [go_sem,hG,hOw]
 exact ⟨rfl,(a1u [])⟩
theorem e8p (lo:Nat) (id:Int) (rs:List Rd) (l:List ByteArray) (hl:∀ s ∈ l,s.size≤100000) (hp:a2t l=true) (hn:rs.length≤1000) :
  Tri Tryz.prog 83 [str a3d,.ptr 1 0,.ptr 0 0,.ptr 2 0] [(0,.box [bl true]),(1,.box [a0h lo l]),(2,.box [i64 id,.own 3 0 rs.length 5]),(3,.arr 148 5 (rs.map rdE))] (fun _=>.ret (.tup []) [(0,.box [bl true]),(1,.box [a0h lo (l.drop 3)]),(2,.box [i64 id,.own 4 0 (rs.length+1) 5]),(4,.arr 148 5 ((rs++[(⟨nvS l 0,nvS l 1,nvS l 2,1,⟨#[]⟩⟩:Rd)]).map rdE))]):=by
 have hP:=a2p lo l hl
 simp only [hp] at hP
 have hq:(rs++[(⟨nvS l 0,nvS l 1,nvS l 2,1,⟨#[]⟩⟩:Rd)]).map rdE=rs.map rdE++[[V.v (Value.int IntKind.i64 (nvS l 0)),V.v (Value.int IntKind.i64 (nvS l 1)),V.v (Value.int IntKind.i64 (nvS l 2)),V.v (Value.int IntKind.u8 (IntKind.u8.wrap 1)),V.v (Value.string ByteArray.empty)]]:=by
  rw [List.map_append];rfl
 rw [hq]
 have hcs:decide (a3d=⟨#[99,111,112,121]⟩)=false:=by decide
 have hI:a4e (fun s=>decide (a3d=s)) [⟨#[]⟩,a3d,a6q,a1p]=1:=by decide
 refine a0d (fun _=>false) Tryz.func83 Tryz.ntmps83 rfl rfl fun G hG hOw hNm=>?_;simp only [go_sem,hG,hOw]
 (repeat' with_reducible first|refine And.intro ?_ ?_|intro _|refine exP ?_ ?_);all_goals try omega
 refine a0b [] [] (a0s 111) ?_ (by (simp only [go_sem])<;>simp [hcs]) (by (simp only [go_sem,a1f,a0q,a0e,a1l])<;>simp [hcs]) (by simp [a0f,usH,toR,hcs])
 simp only [go_sem,hG,hOw]
 (repeat' with_reducible first|refine And.intro ?_ ?_|intro _|refine exP ?_ ?_);all_goals try omega
 refine a0a (a5o [⟨#[]⟩,a3d,a6q,a1p] a3d) ?_
 rw [hI]
 simp only [go_sem,hG,hOw]
 (repeat' with_reducible first|refine And.intro ?_ ?_|intro _|refine exP ?_ ?_);all_goals try omega
 refine a0b [] [] (a0s 111) ?_
 simp only [go_sem,hG,hOw]
 (repeat' with_reducible first|refine And.intro ?_ ?_|intro _|refine exP ?_ ?_);all_goals try omega
 refine a0b [(0,1)] [] (hP) ?_
 simp only [go_sem,hG,hOw]
 (repeat' with_reducible first|refine And.intro ?_ ?_|intro _|refine exP ?_ ?_);all_goals try omega
 exact (a1u [(0,some 0),(1,some 1),(2,some 2),(4,some 38)])
theorem d8w (lo:Nat) (id:Int) (rs:List Rd) (l:List ByteArray) (hl:∀ s ∈ l,s.size≤100000) (hp:a2t l=false) :
  Tri Tryz.prog 83 [str a6q,.ptr 1 0,.ptr 0 0,.ptr 2 0] [(0,.box [bl true]),(1,.box [a0h lo l]),(2,.box [i64 id,.own 3 0 rs.length 5]),(3,.arr 148 5 (rs.map rdE))] (fun _=>.pan (wrV 111) []):=by
 have hP:=a2p lo l hl
 simp only [hp] at hP
 have hcs:decide (a6q=⟨#[99,111,112,121]⟩)=false:=by decide
 have hI:a4e (fun s=>decide (a6q=s)) [⟨#[]⟩,a3d,a6q,a1p]=2:=by decide
 refine a0d (fun _=>false) Tryz.func83 Tryz.ntmps83 rfl rfl fun G hG hOw hNm=>?_;simp only [go_sem,hG,hOw]
 (repeat' with_reducible first|refine And.intro ?_ ?_|intro _|refine exP ?_ ?_);all_goals try omega
 refine a0b [] [] (a0s 111) ?_ (by (simp only [go_sem])<;>simp [hcs]) (by (simp only [go_sem,a1f,a0q,a0e,a1l])<;>simp [hcs]) (by simp [a0f,usH,toR,hcs])
 simp only [go_sem,hG,hOw]
 (repeat' with_reducible first|refine And.intro ?_ ?_|intro _|refine exP ?_ ?_);all_goals try omega
 refine a0a (a5o [⟨#[]⟩,a3d,a6q,a1p] a6q) ?_
 rw [hI]
 simp only [go_sem,hG,hOw]
 (repeat' with_reducible first|refine And.intro ?_ ?_|intro _|refine exP ?_ ?_);all_goals try omega
 refine a0b [] [] (a0s 111) ?_
 simp only [go_sem,hG,hOw]
 (repeat' with_reducible first|refine And.intro ?_ ?_|intro _|refine exP ?_ ?_);all_goals try omega
 refine a0b [(0,1)] [] (hP) ?_
 simp only [go_sem,hG,hOw]
 exact ⟨rfl,(a1u [])⟩
theorem e6u (lo:Nat) (id:Int) (rs:List Rd) (l:List ByteArray) (hl:∀ s ∈ l,s.size≤100000) (hp:a2t l=true) (hn:rs.length≤1000) (w:ByteArray) (r:List ByteArray) (hd:l.drop 3=w::r) (hw:a1i w=true) :
  Tri Tryz.prog 83 [str a6q,.ptr 1 0,.ptr 0 0,.ptr 2 0] [(0,.box [bl true]),(1,.box [a0h lo l]),(2,.box [i64 id,.own 3 0 rs.length 5]),(3,.arr 148 5 (rs.map rdE))] (fun _=>.ret (.tup []) [(0,.box [bl true]),(1,.box [a0h lo r]),(2,.box [i64 id,.own 4 0 (rs.length+1) 5]),(4,.arr 148 5 ((rs++[(⟨nvS l 0,nvS l 1,nvS l 2,2,w⟩:Rd)]).map rdE))]):=by
 have hP:=a2p lo l hl
 simp only [hp,hd] at hP
 have hq:(rs++[(⟨nvS l 0,nvS l 1,nvS l 2,2,w⟩:Rd)]).map rdE=rs.map rdE++[[V.v (Value.int IntKind.i64 (nvS l 0)),V.v (Value.int IntKind.i64 (nvS l 1)),V.v (Value.int IntKind.i64 (nvS l 2)),V.v (Value.int IntKind.u8 (IntKind.u8.wrap 2)),V.v (Value.string w)]]:=by
  rw [List.map_append];rfl
 rw [hq]
 have hcs:decide (a6q=⟨#[99,111,112,121]⟩)=false:=by decide
 have hI:a4e (fun s=>decide (a6q=s)) [⟨#[]⟩,a3d,a6q,a1p]=2:=by decide
 refine a0d (fun _=>false) Tryz.func83 Tryz.ntmps83 rfl rfl fun G hG hOw hNm=>?_;simp only [go_sem,hG,hOw]
 (repeat' with_reducible first|refine And.intro ?_ ?_|intro _|refine exP ?_ ?_);all_goals try omega
 refine a0b [] [] (a0s 111) ?_ (by (simp only [go_sem])<;>simp [hcs]) (by (simp only [go_sem,a1f,a0q,a0e,a1l])<;>simp [hcs]) (by simp [a0f,usH,toR,hcs])
 simp only [go_sem,hG,hOw]
 (repeat' with_reducible first|refine And.intro ?_ ?_|intro _|refine exP ?_ ?_);all_goals try omega
 refine a0a (a5o [⟨#[]⟩,a3d,a6q,a1p] a6q) ?_
 rw [hI]
 simp only [go_sem,hG,hOw]
 (repeat' with_reducible first|refine And.intro ?_ ?_|intro _|refine exP ?_ ?_);all_goals try omega
 refine a0b [] [] (a0s 111) ?_
 simp only [go_sem,hG,hOw]
 (repeat' with_reducible first|refine And.intro ?_ ?_|intro _|refine exP ?_ ?_);all_goals try omega
 refine a0b [(0,1)] [] (hP) ?_
 simp only [go_sem,hG,hOw]
 (repeat' with_reducible first|refine And.intro ?_ ?_|intro _|refine exP ?_ ?_);all_goals try omega
 refine a0b [(0,1)] [] (a7c lo w r hw) ?_
 simp only [go_sem,hG,hOw]
 (repeat' with_reducible first|refine And.intro ?_ ?_|intro _|refine exP ?_ ?_);all_goals try omega
 exact (a1u [(0,some 0),(1,some 1),(2,some 2),(4,some 38)])
theorem e4o (lo:Nat) (id:Int) (rs:List Rd) (l:List ByteArray) (hl:∀ s ∈ l,s.size≤100000) (hp:a2t l=true) (w:ByteArray) (r:List ByteArray) (hd:l.drop 3=w::r) (hw:a1i w=false) :
  Tri Tryz.prog 83 [str a6q,.ptr 1 0,.ptr 0 0,.ptr 2 0] [(0,.box [bl true]),(1,.box [a0h lo l]),(2,.box [i64 id,.own 3 0 rs.length 5]),(3,.arr 148 5 (rs.map rdE))] (fun _=>.pan (wrV 111) []):=by
 have hP:=a2p lo l hl
 simp only [hp,hd] at hP
 have hcs:decide (a6q=⟨#[99,111,112,121]⟩)=false:=by decide
 have hI:a4e (fun s=>decide (a6q=s)) [⟨#[]⟩,a3d,a6q,a1p]=2:=by decide
 refine a0d (fun _=>false) Tryz.func83 Tryz.ntmps83 rfl rfl fun G hG hOw hNm=>?_;simp only [go_sem,hG,hOw]
 (repeat' with_reducible first|refine And.intro ?_ ?_|intro _|refine exP ?_ ?_);all_goals try omega
 refine a0b [] [] (a0s 111) ?_ (by (simp only [go_sem])<;>simp [hcs]) (by (simp only [go_sem,a1f,a0q,a0e,a1l])<;>simp [hcs]) (by simp [a0f,usH,toR,hcs])
 simp only [go_sem,hG,hOw]
 (repeat' with_reducible first|refine And.intro ?_ ?_|intro _|refine exP ?_ ?_);all_goals try omega
 refine a0a (a5o [⟨#[]⟩,a3d,a6q,a1p] a6q) ?_
 rw [hI]
 simp only [go_sem,hG,hOw]
 (repeat' with_reducible first|refine And.intro ?_ ?_|intro _|refine exP ?_ ?_);all_goals try omega
 refine a0b [] [] (a0s 111) ?_
 simp only [go_sem,hG,hOw]
 (repeat' with_reducible first|refine And.intro ?_ ?_|intro _|refine exP ?_ ?_);all_goals try omega
 refine a0b [(0,1)] [] (hP) ?_
 simp only [go_sem,hG,hOw]
 (repeat' with_reducible first|refine And.intro ?_ ?_|intro _|refine exP ?_ ?_);all_goals try omega
 refine a0b [(0,1)] [] (b1e lo w r hw) ?_
 simp only [go_sem,hG,hOw]
 exact ⟨rfl,(a1u [])⟩
theorem d8i (lo:Nat) (id:Int) (rs:List Rd) (l:List ByteArray) (hl:∀ s ∈ l,s.size≤100000) (hp:a2t l=true) (hd:l.drop 3=[]) :
  Tri Tryz.prog 83 [str a6q,.ptr 1 0,.ptr 0 0,.ptr 2 0] [(0,.box [bl true]),(1,.box [a0h lo l]),(2,.box [i64 id,.own 3 0 rs.length 5]),(3,.arr 148 5 (rs.map rdE))] (fun _=>.pan (wrV 111) []):=by
 have hP:=a2p lo l hl
 simp only [hp,hd] at hP
 have hcs:decide (a6q=⟨#[99,111,112,121]⟩)=false:=by decide
 have hI:a4e (fun s=>decide (a6q=s)) [⟨#[]⟩,a3d,a6q,a1p]=2:=by decide
 refine a0d (fun _=>false) Tryz.func83 Tryz.ntmps83 rfl rfl fun G hG hOw hNm=>?_;simp only [go_sem,hG,hOw]
 (repeat' with_reducible first|refine And.intro ?_ ?_|intro _|refine exP ?_ ?_);all_goals try omega
 refine a0b [] [] (a0s 111) ?_ (by (simp only [go_sem])<;>simp [hcs]) (by (simp only [go_sem,a1f,a0q,a0e,a1l])<;>simp [hcs]) (by simp [a0f,usH,toR,hcs])
 simp only [go_sem,hG,hOw]
 (repeat' with_reducible first|refine And.intro ?_ ?_|intro _|refine exP ?_ ?_);all_goals try omega
 refine a0a (a5o [⟨#[]⟩,a3d,a6q,a1p] a6q) ?_
 rw [hI]
 simp only [go_sem,hG,hOw]
 (repeat' with_reducible first|refine And.intro ?_ ?_|intro _|refine exP ?_ ?_);all_goals try omega
 refine a0b [] [] (a0s 111) ?_
 simp only [go_sem,hG,hOw]
 (repeat' with_reducible first|refine And.intro ?_ ?_|intro _|refine exP ?_ ?_);all_goals try omega
 refine a0b [(0,1)] [] (hP) ?_
 simp only [go_sem,hG,hOw]
 (repeat' with_reducible first|refine And.intro ?_ ?_|intro _|refine exP ?_ ?_);all_goals try omega
 refine a0b [(0,1)] [] (b8p lo) ?_
 simp only [go_sem,hG,hOw]
 exact ⟨rfl,(a1u [])⟩
theorem d9d (lo:Nat) (id:Int) (rs:List Rd) (l:List ByteArray) (hl:∀ s ∈ l,s.size≤100000) (hp:a2t l=false) :
  Tri Tryz.prog 83 [str a1p,.ptr 1 0,.ptr 0 0,.ptr 2 0] [(0,.box [bl true]),(1,.box [a0h lo l]),(2,.box [i64 id,.own 3 0 rs.length 5]),(3,.arr 148 5 (rs.map rdE))] (fun _=>.pan (wrV 111) []):=by
 have hP:=a2p lo l hl
 simp only [hp] at hP
 have hcs:decide (a1p=⟨#[99,111,112,121]⟩)=false:=by decide
 have hI:a4e (fun s=>decide (a1p=s)) [⟨#[]⟩,a3d,a6q,a1p]=3:=by decide
 refine a0d (fun _=>false) Tryz.func83 Tryz.ntmps83 rfl rfl fun G hG hOw hNm=>?_;simp only [go_sem,hG,hOw]
 (repeat' with_reducible first|refine And.intro ?_ ?_|intro _|refine exP ?_ ?_);all_goals try omega
 refine a0b [] [] (a0s 111) ?_ (by (simp only [go_sem])<;>simp [hcs]) (by (simp only [go_sem,a1f,a0q,a0e,a1l])<;>simp [hcs]) (by simp [a0f,usH,toR,hcs])
 simp only [go_sem,hG,hOw]
 (repeat' with_reducible first|refine And.intro ?_ ?_|intro _|refine exP ?_ ?_);all_goals try omega
 refine a0a (a5o [⟨#[]⟩,a3d,a6q,a1p] a1p) ?_
 rw [hI]
 simp only [go_sem,hG,hOw]
 (repeat' with_reducible first|refine And.intro ?_ ?_|intro _|refine exP ?_ ?_);all_goals try omega
 refine a0b [] [] (a0s 111) ?_
 simp only [go_sem,hG,hOw]
 (repeat' with_reducible first|refine And.intro ?_ ?_|intro _|refine exP ?_ ?_);all_goals try omega
 refine a0b [(0,1)] [] (hP) ?_
 simp only [go_sem,hG,hOw]
 exact ⟨rfl,(a1u [])⟩
theorem e9n (lo:Nat) (id:Int) (rs:List Rd) (l:List ByteArray) (hl:∀ s ∈ l,s.size≤100000) (hp:a2t l=true) (hn:rs.length≤1000) (w:ByteArray) (r:List ByteArray) (hd:l.drop 3=w::r) (hw:a1i w=true) :
  Tri Tryz.prog 83 [str a1p,.ptr 1 0,.ptr 0 0,.ptr 2 0] [(0,.box [bl true]),(1,.box [a0h lo l]),(2,.box [i64 id,.own 3 0 rs.length 5]),(3,.arr 148 5 (rs.map rdE))] (fun _=>.ret (.tup []) [(0,.box [bl true]),(1,.box [a0h lo r]),(2,.box [i64 id,.own 4 0 (rs.length+1) 5]),(4,.arr 148 5 ((rs++[(⟨nvS l 0,nvS l 1,nvS l 2,3,w⟩:Rd)]).map rdE))]):=by
 have hP:=a2p lo l hl
 simp only [hp,hd] at hP
 have hq:(rs++[(⟨nvS l 0,nvS l 1,nvS l 2,3,w⟩:Rd)]).map rdE=rs.map rdE++[[V.v (Value.int IntKind.i64 (nvS l 0)),V.v (Value.int IntKind.i64 (nvS l 1)),V.v (Value.int IntKind.i64 (nvS l 2)),V.v (Value.int IntKind.u8 (IntKind.u8.wrap 3)),V.v (Value.string w)]]:=by
  rw [List.map_append];rfl
 rw [hq]
 have hcs:decide (a1p=⟨#[99,111,112,121]⟩)=false:=by decide
 have hI:a4e (fun s=>decide (a1p=s)) [⟨#[]⟩,a3d,a6q,a1p]=3:=by decide
 refine a0d (fun _=>false) Tryz.func83 Tryz.ntmps83 rfl rfl fun G hG hOw hNm=>?_;simp only [go_sem,hG,hOw]
 (repeat' with_reducible first|refine And.intro ?_ ?_|intro _|refine exP ?_ ?_);all_goals try omega
 refine a0b [] [] (a0s 111) ?_ (by (simp only [go_sem])<;>simp [hcs]) (by (simp only [go_sem,a1f,a0q,a0e,a1l])<;>simp [hcs]) (by simp [a0f,usH,toR,hcs])
 simp only [go_sem,hG,hOw]
 (repeat' with_reducible first|refine And.intro ?_ ?_|intro _|refine exP ?_ ?_);all_goals try omega
 refine a0a (a5o [⟨#[]⟩,a3d,a6q,a1p] a1p) ?_
 rw [hI]
 simp only [go_sem,hG,hOw]
 (repeat' with_reducible first|refine And.intro ?_ ?_|intro _|refine exP ?_ ?_);all_goals try omega
 refine a0b [] [] (a0s 111) ?_
 simp only [go_sem,hG,hOw]
 (repeat' with_reducible first|refine And.intro ?_ ?_|intro _|refine exP ?_ ?_);all_goals try omega
 refine a0b [(0,1)] [] (hP) ?_
 simp only [go_sem,hG,hOw]
 (repeat' with_reducible first|refine And.intro ?_ ?_|intro _|refine exP ?_ ?_);all_goals try omega
 refine a0b [(0,1)] [] (a7c lo w r hw) ?_
 simp only [go_sem,hG,hOw]
 (repeat' with_reducible first|refine And.intro ?_ ?_|intro _|refine exP ?_ ?_);all_goals try omega
 exact (a1u [(0,some 0),(1,some 1),(2,some 2),(4,some 38)])
theorem d7p (lo:Nat) (id:Int) (rs:List Rd) (l:List ByteArray) (hl:∀ s ∈ l,s.size≤100000) (hp:a2t l=true) (w:ByteArray) (r:List ByteArray) (hd:l.drop 3=w::r) (hw:a1i w=false) :
  Tri Tryz.prog 83 [str a1p,.ptr 1 0,.ptr 0 0,.ptr 2 0] [(0,.box [bl true]),(1,.box [a0h lo l]),(2,.box [i64 id,.own 3 0 rs.length 5]),(3,.arr 148 5 (rs.map rdE))] (fun _=>.pan (wrV 111) []):=by
 have hP:=a2p lo l hl
 simp only [hp,hd] at hP
 have hcs:decide (a1p=⟨#[99,111,112,121]⟩)=false:=by decide
 have hI:a4e (fun s=>decide (a1p=s)) [⟨#[]⟩,a3d,a6q,a1p]=3:=by decide
 refine a0d (fun _=>false) Tryz.func83 Tryz.ntmps83 rfl rfl fun G hG hOw hNm=>?_;simp only [go_sem,hG,hOw]
 (repeat' with_reducible first|refine And.intro ?_ ?_|intro _|refine exP ?_ ?_);all_goals try omega
 refine a0b [] [] (a0s 111) ?_ (by (simp only [go_sem])<;>simp [hcs]) (by (simp only [go_sem,a1f,a0q,a0e,a1l])<;>simp [hcs]) (by simp [a0f,usH,toR,hcs])
 simp only [go_sem,hG,hOw]
 (repeat' with_reducible first|refine And.intro ?_ ?_|intro _|refine exP ?_ ?_);all_goals try omega
 refine a0a (a5o [⟨#[]⟩,a3d,a6q,a1p] a1p) ?_
 rw [hI]
 simp only [go_sem,hG,hOw]
 (repeat' with_reducible first|refine And.intro ?_ ?_|intro _|refine exP ?_ ?_);all_goals try omega
 refine a0b [] [] (a0s 111) ?_
 simp only [go_sem,hG,hOw]
 (repeat' with_reducible first|refine And.intro ?_ ?_|intro _|refine exP ?_ ?_);all_goals try omega
 refine a0b [(0,1)] [] (hP) ?_
 simp only [go_sem,hG,hOw]
 (repeat' with_reducible first|refine And.intro ?_ ?_|intro _|refine exP ?_ ?_);all_goals try omega
 refine a0b [(0,1)] [] (b1e lo w r hw) ?_
 simp only [go_sem,hG,hOw]
 exact ⟨rfl,(a1u [])⟩
theorem e2t (lo:Nat) (id:Int) (rs:List Rd) (l:List ByteArray) (hl:∀ s ∈ l,s.size≤100000) (hp:a2t l=true) (hd:l.drop 3=[]) :
  Tri Tryz.prog 83 [str a1p,.ptr 1 0,.ptr 0 0,.ptr 2 0] [(0,.box [bl true]),(1,.box [a0h lo l]),(2,.box [i64 id,.own 3 0 rs.length 5]),(3,.arr 148 5 (rs.map rdE))] (fun _=>.pan (wrV 111) []):=by
 have hP:=a2p lo l hl
 simp only [hp,hd] at hP
 have hcs:decide (a1p=⟨#[99,111,112,121]⟩)=false:=by decide
 have hI:a4e (fun s=>decide (a1p=s)) [⟨#[]⟩,a3d,a6q,a1p]=3:=by decide
 refine a0d (fun _=>false) Tryz.func83 Tryz.ntmps83 rfl rfl fun G hG hOw hNm=>?_;simp only [go_sem,hG,hOw]
 (repeat' with_reducible first|refine And.intro ?_ ?_|intro _|refine exP ?_ ?_);all_goals try omega
 refine a0b [] [] (a0s 111) ?_ (by (simp only [go_sem])<;>simp [hcs]) (by (simp only [go_sem,a1f,a0q,a0e,a1l])<;>simp [hcs]) (by simp [a0f,usH,toR,hcs])
 simp only [go_sem,hG,hOw]
 (repeat' with_reducible first|refine And.intro ?_ ?_|intro _|refine exP ?_ ?_);all_goals try omega
 refine a0a (a5o [⟨#[]⟩,a3d,a6q,a1p] a1p) ?_
 rw [hI]
 simp only [go_sem,hG,hOw]
 (repeat' with_reducible first|refine And.intro ?_ ?_|intro _|refine exP ?_ ?_);all_goals try omega
 refine a0b [] [] (a0s 111) ?_
 simp only [go_sem,hG,hOw]
 (repeat' with_reducible first|refine And.intro ?_ ?_|intro _|refine exP ?_ ?_);all_goals try omega
 refine a0b [(0,1)] [] (hP) ?_
 simp only [go_sem,hG,hOw]
 (repeat' with_reducible first|refine And.intro ?_ ?_|intro _|refine exP ?_ ?_);all_goals try omega
 refine a0b [(0,1)] [] (b8p lo) ?_
 simp only [go_sem,hG,hOw]
 exact ⟨rfl,(a1u [])⟩
open Go Pm
set_option maxHeartbeats 4000000
set_option maxRecDepth 100000
def cpO (s:Option Cp):Cp:=s.getD ⟨0,[]⟩
theorem d1a (x:ByteArray):(kdN x=1∧x=a3d)∨(kdN x=2∧x=a6q)∨(kdN x=3∧x=a1p)∨kdN x=0:=by
 unfold kdN
 by_cases h1:x=a3d
 ·left;simp [h1]
 ·by_cases h2:x=a6q
  ·right;left;rw [if_neg h1,if_pos h2];exact ⟨rfl,h2⟩
  ·by_cases h3:x=a1p
   ·right;right;left;rw [if_neg h1,if_neg h2,if_pos h3];exact ⟨rfl,h3⟩
   ·right;right;right;rw [if_neg h1,if_neg h2,if_neg h3]
theorem g3e (lo:Nat) (s:Option Cp) (c':Cp) (name:ByteArray) (rest r':List ByteArray) (hs:b1q s name rest=some (c',r')) (hl:∀ s ∈ rest,s.size≤100000) (hb:(cpO s).rds.length≤1000) :
  Tri Tryz.prog 83 [str name,.ptr 1 0,.ptr 0 0,.ptr 2 0] [(0,.box [bl s.isSome]),(1,.box [a0h lo rest]),(2,.box [i64 (cpO s).id,.own 3 0 (cpO s).rds.length 5]),(3,.arr 148 5 ((cpO s).rds.map rdE))]
   (fun _=>.ret (.tup []) [(0,.box [bl true]),(1,.box [a0h lo r']),(2,.box [i64 c'.id,.own 4 0 c'.rds.length 5]),(4,.arr 148 5 (c'.rds.map rdE))]):=by
 cases s with
 |none =>
  unfold b1q at hs
  simp only at hs
  split at hs
  ·rename_i hn
   subst hn
   cases rest with
   |nil=>cases hs
   |cons x r =>
    simp only [Option.map_eq_some_iff,Prod.mk.injEq] at hs
    obtain ⟨v,hv,rfl,rfl⟩:=hs
    exact d5e lo x r v (hl x (by simp)) hv
  ·cases hs
 |some c =>
  unfold b1q at hs
  simp only at hs
  rcases d1a name with ⟨hk,rfl⟩|⟨hk,rfl⟩|⟨hk,rfl⟩|hk
  ·rw [if_neg (by decide),if_neg (by rw [hk];decide),hk] at hs
   split at hs
   ·rename_i hp
    simp only [if_true,Option.some.injEq,Prod.mk.injEq] at hs
    obtain ⟨rfl,rfl⟩:=hs
    have:=e8p lo c.id c.rds rest hl hp hb
    simpa [cpO] using this
   ·cases hs
  ·rw [if_neg (by decide),if_neg (by rw [hk];decide),hk] at hs
   split at hs
   ·rename_i hp
    rw [if_neg (by decide)] at hs
    split at hs
    ·rename_i w r hd
     split at hs
     ·rename_i hw
      simp only [Option.some.injEq,Prod.mk.injEq] at hs
      obtain ⟨rfl,rfl⟩:=hs
      have:=e6u lo c.id c.rds rest hl hp hb w r hd hw
      simpa [cpO] using this
     ·cases hs
    ·cases hs
   ·cases hs
  ·rw [if_neg (by decide),if_neg (by rw [hk];decide),hk] at hs
   split at hs
   ·rename_i hp
    rw [if_neg (by decide)] at hs
    split at hs
    ·rename_i w r hd
     split at hs
     ·rename_i hw
      simp only [Option.some.injEq,Prod.mk.injEq] at hs
      obtain ⟨rfl,rfl⟩:=hs
      have:=e9n lo c.id c.rds rest hl hp hb w r hd hw
      simpa [cpO] using this
     ·cases hs
    ·cases hs
   ·cases hs
  ·split at hs
   ·cases hs
   ·first|cases hs|(rw [if_pos hk] at hs;cases hs)
theorem f4u (lo:Nat) (s:Option Cp) (name:ByteArray) (rest:List ByteArray) (h0:s=none→True) (hs:b1q s name rest=none) (hl:∀ s ∈ rest,s.size≤100000) :
  Tri Tryz.prog 83 [str name,.ptr 1 0,.ptr 0 0,.ptr 2 0] [(0,.box [bl s.isSome]),(1,.box [a0h lo rest]),(2,.box [i64 (cpO s).id,.own 3 0 (cpO s).rds.length 5]),(3,.arr 148 5 ((cpO s).rds.map rdE))] (fun _=>.pan (wrV 111) []):=by
 cases s with
 |none =>
  by_cases hn:name=a6y
  ·subst hn
   refine b8x lo rest hl fun x r e=>?_
   subst e
   simpa [b1q] using hs
  ·exact c0d lo false name 0 [] rest (decide_eq_false hn)
 |some c =>
  by_cases hn:name=a6y
  ·exact c0d lo true name c.id c.rds rest (decide_eq_true hn)
  ·rcases d1a name with ⟨hk,rfl⟩|⟨hk,rfl⟩|⟨hk,rfl⟩|hk
   ·cases hp:a2t rest with
    |false=>exact d9b lo c.id c.rds rest hl hp
    |true =>
     exfalso
     simp [b1q,hp,hk,hn] at hs
   ·cases hp:a2t rest with
    |false=>exact d8w lo c.id c.rds rest hl hp
    |true =>
     cases hd:rest.drop 3 with
     |nil=>exact d8i lo c.id c.rds rest hl hp hd
     |cons w r =>
      cases hw:a1i w with
      |false=>exact e4o lo c.id c.rds rest hl hp w r hd hw
      |true=>exfalso;simp [b1q,hp,hk,hn,hd,hw] at hs
   ·cases hp:a2t rest with
    |false=>exact d9d lo c.id c.rds rest hl hp
    |true =>
     cases hd:rest.drop 3 with
     |nil=>exact e2t lo c.id c.rds rest hl hp hd
     |cons w r =>
      cases hw:a1i w with
      |false=>exact d7p lo c.id c.rds rest hl hp w r hd hw
      |true=>exfalso;simp [b1q,hp,hk,hn,hd,hw] at hs
   ·exact e3b lo name c.id c.rds rest hn hk
theorem b8h:∀ (l m:List ByteArray) (s:Option Cp),a6b s (l++m)=(a6b s l).bind fun s'=>a6b s' m
 |[],m,s=>rfl
 |x::l,m,s=>by
  simp only [List.cons_append,a6b]
  cases stepG s x with
  |none=>rfl
  |some c=>exact b8h l m (some c)
theorem b4k (l:List ByteArray) (k:Nat) (hk:k < l.length):a6b none (l.take (k+1))=(a6b none (l.take k)).bind fun s=>(stepG s l[k]).map some:=by
 rw [List.take_add_one,List.getElem?_eq_getElem hk,b8h]
 congr 1
 funext s
 simp only [Option.toList,a6b]
 cases stepG s l[k]<;>rfl
theorem c3u {l:List ByteArray} {k:Nat} {s:Option Cp} (hk:k < l.length) (h:a6b none (l.take k)=some s) (hb:stepG s l[k]=none):a6b none l=none:=by
 have h1:a6b none (l.take (k+1))=none:=by rw [b4k l k hk,h];simp [hb]
 have h2:=b8h (l.take (k+1)) (l.drop (k+1)) none
 rw [List.take_append_drop] at h2
 rw [h2,h1];rfl
open Go Pm
set_option maxHeartbeats 4000000
set_option maxRecDepth 100000
theorem d6x {s:Option Cp} {name:ByteArray} {rest r':List ByteArray} {c:Cp} (h:b1q s name rest=some (c,r')):c.rds.length≤(cpO s).rds.length+1:=by
 cases s with
 |none =>
  unfold b1q at h
  simp only at h
  split at h
  ·cases rest with
   |nil=>cases h
   |cons x r =>
    simp only [Option.map_eq_some_iff,Prod.mk.injEq] at h
    obtain ⟨v,_,rfl,_⟩:=h
    simp
  ·cases h
 |some d =>
  unfold b1q at h
  simp only at h
  split at h
  ·cases h
  ·split at h
   ·cases h
   ·split at h
    ·split at h
     ·simp only [Option.some.injEq,Prod.mk.injEq] at h
      obtain ⟨rfl,_⟩:=h
      simp [cpO]
     ·split at h
      ·split at h
       ·simp only [Option.some.injEq,Prod.mk.injEq] at h
        obtain ⟨rfl,_⟩:=h
        simp [cpO]
       ·cases h
      ·cases h
    ·cases h
theorem d6w {s:Option Cp} {x:ByteArray} {c:Cp} (h:stepG s x=some c):c.rds.length≤(cpO s).rds.length+1:=by
 unfold stepG at h
 split at h
 ·cases h
 ·split at h
  ·rename_i hs
   cases h
   exact d6x hs
  ·cases h
theorem c3z {l:List ByteArray}:∀ {k:Nat} {s:Option Cp},k≤l.length→a6b none (l.take k)=some s→(cpO s).rds.length≤k
 |0,s,_,h=>by
  simp [a6b] at h
  subst h
  simp [cpO]
 |k+1,s,hk,h=>by
  rw [b4k l k (by omega)] at h
  simp only [Option.bind_eq_some_iff,Option.map_eq_some_iff] at h
  obtain ⟨u,h1,c,h2,rfl⟩:=h
  have ih:=c3z (by omega) h1
  have:=d6w h2
  show c.rds.length≤_
  omega
theorem d3k (l:List ByteArray) (h:a0v l=false):Tri Tryz.prog 73 [a0h 0 l,.fn (.func 83) [.ptr 0 0,.ptr 1 0]] [(0,.box [bl false]),(1,.box [i64 0,.v (.slice none 0 0)])] (fun _=>.pan (wrV 110) []):=by
 refine a0d (fun _=>false) Tryz.func73 Tryz.ntmps73 rfl rfl fun G hG hOw hNm=>?_;simp only [go_sem,hG,hOw]
 (repeat' with_reducible first|refine And.intro ?_ ?_|intro _|refine exP ?_ ?_);all_goals try omega
 refine a0a (a4a l) ?_
 rw [h]
 simp only [go_sem,hG,hOw]
 (repeat' with_reducible first|refine And.intro ?_ ?_|intro _|refine exP ?_ ?_);all_goals try omega
 refine a0b [] [] (a3z 110) ?_
 simp only [go_sem,hG,hOw]
 (repeat' with_reducible first|refine And.intro ?_ ?_|intro _|refine exP ?_ ?_);all_goals try omega
 exact ⟨rfl,(a1u [])⟩
theorem b7a (l:List ByteArray) (h:a0v l=true):Tri Tryz.prog 73 [a0h 0 l,.fn (.func 83) [.ptr 0 0,.ptr 1 0]] [(0,.box [bl false]),(1,.box [i64 0,.v (.slice none 0 0)])] (fun _=>match a6b none l with
  |some s=>.ret (.tup []) [(0,.box [bl s.isSome]),(1,.box [i64 (cpO s).id,rds 0 (cpO s).rds])]
  |none=>.pan (wrV 111) []):=by
 obtain ⟨hl1,hl2⟩:=a9j h
 refine a0d (fun _=>false) Tryz.func73 Tryz.ntmps73 rfl rfl fun G hG hOw hNm=>?_;simp only [go_sem,hG,hOw]
 (repeat' with_reducible first|refine And.intro ?_ ?_|intro _|refine exP ?_ ?_);all_goals try omega
 refine a0a (a4a l) ?_
 rw [h]
 simp only [go_sem,hG,hOw]
 (repeat' with_reducible first|refine And.intro ?_ ?_|intro _|refine exP ?_ ?_);all_goals try omega
 refine a0b [] [] (a0s 110) ?_
 simp only [go_sem,hG,hOw]
 (repeat' with_reducible first|refine And.intro ?_ ?_|intro _|refine exP ?_ ?_);all_goals try omega
 have e0:(cpO none).rds=[]:=rfl
 have e1:(cpO none).id=0:=rfl
 refine a6v (fun s:Option Cp=>St.of [] [(0,.box [bl s.isSome]),(1,.box [i64 (cpO s).id,rds 0 (cpO s).rds])]) (fun s=>a6b none l=some s) ?_ ?_
 ·refine a0n (fun x:Nat×Option Cp=>St.of [(1,.fn (.func 83) [.ptr 0 0,.ptr 1 0]),(11,a0h 0 l),(12,i64 l.length),(13,i64 x.1)] [(0,.box [bl x.2.isSome]),(1,.box [i64 (cpO x.2).id,.own 100 0 (cpO x.2).rds.length 5]),(100,.arr 148 5 ((cpO x.2).rds.map rdE))]) (fun x=>x.1≤l.length∧a6b none (l.take x.1)=some x.2) (fun x=>l.length - x.1) (0,none) ⟨by simp,by simp [a6b]⟩ (a1k [(0,some 0),(1,some 1),(100,none)] (by (simp only [e0,e1,Option.isSome_none,List.map_nil,List.length_nil,go_sem])<;>simp [e0,e1,Option.isSome_none,List.map_nil,List.length_nil]) (by (simp only [e0,e1,Option.isSome_none,List.map_nil,List.length_nil,go_sem,a1f,a0q,a0e,a1l])<;>simp [e0,e1,Option.isSome_none,List.map_nil,List.length_nil]) (by simp [a2s,apart]) (by simp [a0f,usH]) (by simp [hNm,lkR,a0z])) ?_
  rintro ⟨k,s⟩ ⟨hk,hrd⟩
  simp only at hk hrd
  have hbd:=c3z hk hrd
  refine a0g _ _ _ ?_;simp only [go_sem,hG,hOw]
  (repeat' with_reducible first|refine And.intro ?_ ?_|intro _|refine exP ?_ ?_);all_goals try omega
  ·rename_i hlt
   have hkl:k < l.length:=by omega
   have hsz:=hl2 _ (List.getElem_mem hkl)
   refine a0a (b2z l[k] (by omega)) ?_
   obtain ⟨name,rest,hp⟩:∃ name rest,a0y l[k]=name::rest:=by
    cases hq:a0y l[k] with
    |nil=>exact (a5m _ hq).elim
    |cons a b=>exact ⟨a,b,rfl⟩
   have hps:∀ s ∈ rest,s.size≤100000:=fun s hs=>by have:=a7v l[k] s (by rw [hp];simp [hs]);omega
   rw [hp]
   simp only [go_sem,hG,hOw]
   (repeat' with_reducible first|refine And.intro ?_ ?_|intro _|refine exP ?_ ?_);all_goals try omega
   refine a0b [(0,20)] [] (a8a G.lo name rest) ?_
   simp only [go_sem,hG,hOw]
   (repeat' with_reducible first|refine And.intro ?_ ?_|intro _|refine exP ?_ ?_);all_goals try omega
   cases hst:b1q s name rest with
   |none =>
    have hno:a6b none l=none:=c3u hkl hrd (by unfold stepG;rw [hp];simp only [hst])
    rw [hno]
    refine a0b [(0,0),(1,20),(2,1),(3,100)] [] (f4u G.lo s name rest (fun _=>trivial) hst hps) ?_
    simp only [go_sem,hG,hOw]
    exact ⟨rfl,(a1u [])⟩
   |some q =>
    obtain ⟨c',r'⟩:=q
    refine a0b [(0,0),(1,20),(2,1),(3,100)] [(4,204)] (g3e G.lo s c' name rest r' hst hps (by omega)) ?_
    simp only [go_sem,hG,hOw]
    (repeat' with_reducible first|refine And.intro ?_ ?_|intro _|refine exP ?_ ?_);all_goals try omega
    ·rename_i hr0
     have hr0:r'=[]:=List.eq_nil_of_length_eq_zero (by omega)
     subst hr0
     have hsF:stepG s l[k]=some c':=by unfold stepG;rw [hp];simp only [hst]
     have f1:cpO (some c')=c':=rfl
     exact ⟨(k+1,some c'),⟨by show k+1≤_;omega,by rw [b4k l k hkl,hrd];simp [hsF]⟩,by show l.length - (k+1) < _;omega,a1k [(0,some 0),(1,some 1),(100,some 204)] (by (simp only [f1,Option.isSome_some,go_sem])<;>simp [f1,Option.isSome_some]) (by (simp only [f1,Option.isSome_some,go_sem,a1f,a0q,a0e,a1l])<;>simp [f1,Option.isSome_some]) (by simp [a2s,apart]) (by simp [a0f,usH]) (by simp [hNm,lkR,a0z])⟩
    ·rename_i hr0
     have hno:a6b none l=none:=c3u hkl hrd (by
      unfold stepG;rw [hp];simp only [hst]
      cases r' with
      |nil=>exact (hr0 rfl).elim
      |cons a b=>rfl)
     rw [hno]
     refine b1k [.int .i64 111] rfl rfl (by kernel_rfl) (by simp [chk,hG]) ?_
     simp only [go_sem,hG,hOw]
     (repeat' with_reducible first|refine And.intro ?_ ?_|intro _|refine exP ?_ ?_);all_goals try omega
     refine a7k rfl rfl ?_
     exact ⟨rfl,(a1u [])⟩
  ·rename_i hge
   obtain rfl:k=l.length:=by omega
   rw [List.take_length] at hrd
   refine ⟨s,hrd,b2q (fun i=>i == 100) ?_⟩
   have hN:Pm.Sub (.lst G.lo 5 ((cpO s).rds.map rdE)) (.lst 0 5 ((cpO s).rds.map rdE)):=Sub.lo (Nat.zero_le _)
   have hT:List.take (cpO s).rds.length ((cpO s).rds.map rdE)=(cpO s).rds.map rdE:=List.take_of_length_le (by simp)
   exact a1k [(0,some 0),(1,some 1)] (by (simp only [hT,hN,go_sem])<;>simp [hT,hN]) (by (simp only [hT,hN,go_sem,a1f,a0q,a0e,a1l])<;>simp [hT,hN]) (by simp [a2s,apart]) (by simp [a0f,usH]) (by simp [hNm,lkR,a0z])
 ·rintro s hs
  rw [hs]
  simp only [go_sem,hG,hOw]
  (repeat' with_reducible first|refine And.intro ?_ ?_|intro _|refine exP ?_ ?_);all_goals try omega
  exact (a1u [(0,some 0),(1,some 1)])
open Go Pm Go.RowKit Go.Sort
set_option maxHeartbeats 4000000
set_option maxRecDepth 100000
theorem d3y (l:List ByteArray) (c:Cp) (h:a0v l=true) (hr:a6b none l=some (some c)):Tri Tryz.prog 82 [.ptr 0 0,.ptr 1 0,.ptr 2 0] [(0,.box [i64 0]),(1,.box [a0h 0 l]),(2,.box [i64 0,.v (.slice none 0 0)])]
  (fun _=>.ret (.tup []) [(0,.box [i64 0]),(1,.box [a0h 0 l]),(2,.box (cpC 0 c))]):=by
 have hU:=b7a l h
 simp only [hr] at hU
 refine a4o (fun _=>false) (told:=72) (p:=0) (x:=.int .i64 0) wrV (fun _=>True) Tryz.func82 Tryz.ntmps82 rfl (by kernel_rfl) (by simp) rfl rfl rfl rfl rfl (by simp [a0z]) a5w (fun k _=>a5r k) fun G hG hOw hNm _=>?_
 simp only [go_sem,hG,hOw]
 (repeat' with_reducible first|refine And.intro ?_ ?_|intro _|refine exP ?_ ?_);all_goals try omega
 refine a0b [(0,3),(1,2)] [] (hU) ?_
 simp only [go_sem,hG,hOw]
 (repeat' with_reducible first|refine And.intro ?_ ?_|intro _|refine exP ?_ ?_);all_goals try omega
 refine a0b [] [] (a0s 111) ?_
 simp (maxSteps:=2000000) only [go_sem,hG,hOw,c2p,c3i]
 (repeat' with_reducible first|refine And.intro ?_ ?_|intro _|refine exP ?_ ?_);all_goals try omega
 have f1:cpO (some c)=c:=rfl
 exact ⟨[(0,some 0),(1,some 1),(2,some 2)],by (simp only [b3z,go_sem,a1f,a0q,a0e,a1l,apart,a2s,a0f])<;>simp [f1]⟩
theorem c3x (l:List ByteArray) (h:a0v l=true) (hr:a6b none l=some none):Tri Tryz.prog 82 [.ptr 0 0,.ptr 1 0,.ptr 2 0] [(0,.box [i64 0]),(1,.box [a0h 0 l]),(2,.box [i64 0,.v (.slice none 0 0)])]
  (fun _=>.ret (.tup []) [(0,.box [i64 111]),(1,.box [a0h 0 l])]):=by
 have hU:=b7a l h
 simp only [hr] at hU
 refine a4o (fun _=>false) (told:=72) (p:=0) (x:=.int .i64 0) wrV (fun _=>True) Tryz.func82 Tryz.ntmps82 rfl (by kernel_rfl) (by simp) rfl rfl rfl rfl rfl (by simp [a0z]) a5w (fun k _=>a5r k) fun G hG hOw hNm _=>?_
 simp only [go_sem,hG,hOw]
 (repeat' with_reducible first|refine And.intro ?_ ?_|intro _|refine exP ?_ ?_);all_goals try omega
 refine a0b [(0,3),(1,2)] [] (hU) ?_
 simp only [go_sem,hG,hOw]
 (repeat' with_reducible first|refine And.intro ?_ ?_|intro _|refine exP ?_ ?_);all_goals try omega
 refine a0b [] [] (a3z 111) ?_
 simp (maxSteps:=2000000) only [go_sem,hG,hOw,b8e]
 (repeat' with_reducible first|refine And.intro ?_ ?_|intro _|refine exP ?_ ?_);all_goals try omega
 exact ⟨111,rfl,(a1u [(0,some 0),(1,some 1)])⟩
theorem b8i (l:List ByteArray) (k:Int) (h:a0v l=false∧k=110∨a0v l=true∧a6b none l=none∧k=111):Tri Tryz.prog 82 [.ptr 0 0,.ptr 1 0,.ptr 2 0] [(0,.box [i64 0]),(1,.box [a0h 0 l]),(2,.box [i64 0,.v (.slice none 0 0)])]
  (fun _=>.ret (.tup []) [(0,.box [i64 k]),(1,.box [a0h 0 l])]):=by
 have hU:Tri Tryz.prog 73 [a0h 0 l,.fn (.func 83) [.ptr 0 0,.ptr 1 0]] [(0,.box [bl false]),(1,.box [i64 0,.v (.slice none 0 0)])] (fun _=>.pan (wrV k) []):=by
  rcases h with ⟨h1,rfl⟩|⟨h1,h2,rfl⟩
  ·exact d3k l h1
  ·have:=b7a l h1
   simp only [h2] at this
   exact this
 refine a4o (fun _=>false) (told:=72) (p:=0) (x:=.int .i64 0) wrV (fun _=>True) Tryz.func82 Tryz.ntmps82 rfl (by kernel_rfl) (by simp) rfl rfl rfl rfl rfl (by simp [a0z]) a5w (fun k _=>a5r k) fun G hG hOw hNm _=>?_
 simp only [go_sem,hG,hOw]
 (repeat' with_reducible first|refine And.intro ?_ ?_|intro _|refine exP ?_ ?_);all_goals try omega
 refine a0b [(0,3),(1,2)] [] (hU) ?_
 simp (maxSteps:=2000000) only [go_sem,hG,hOw,b8e]
 (repeat' with_reducible first|refine And.intro ?_ ?_|intro _|refine exP ?_ ?_);all_goals try omega
 refine ⟨k,trivial,rfl,by simp [go_sem],?_⟩
 simp only [go_sem,hG,hOw]
 exact (a1u [(0,some 0),(1,some 1)])
def f2u:Cp:=⟨0,[]⟩
def a6o (t:List Ch) (l:List ByteArray):Cp×Int:=if a1z t then (if a0v l then (match a6b none l with
  |some (some c)=>if a7t t c=0 then (c,0) else (f2u,a7t t c)
  |_=>(f2u,111)) else (f2u,110)) else (f2u,10)
theorem c2t (k:Int):Pm.Sub (.tup [.agg [i64 0,.v (.slice none 0 0)],i64 k]) (.tup [cpE 0 f2u,i64 k]):=Subs.tup (.cons (Subs.agg (.cons (.refl _) (.cons (.nil _ _) .nil))) (.cons (.refl _) .nil))
theorem d6z (t:List Ch) (l:List ByteArray):a0p Tryz.prog 21 [txE 0 t,a0h 0 l] (fun _=>.tup [cpE 0 (a6o t l).1,i64 (a6o t l).2]):=by
 cases ht:a1z t with
 |false =>
  have e:a6o t l=(f2u,10):=by simp [a6o,ht]
  rw [e]
  refine a0c (ow:=fun _=>false) Tryz.func21 Tryz.ntmps21 rfl rfl fun G hG hOw hNm hB=>?_;simp only [go_sem,hG,hOw]
  refine a0a (a3p t) ?_
  simp (maxSteps:=2000000) only [go_sem,hG,hOw,ht]
  (repeat' with_reducible first|refine And.intro ?_ ?_|intro _|refine exP ?_ ?_);all_goals try omega
  exact c2t 10
 |true =>
  by_cases hgood:a0v l=true∧∃ c,a6b none l=some (some c)
  ·obtain ⟨h1,c,h2⟩:=hgood
   have e:a6o t l=if a7t t c=0 then (c,0) else (f2u,a7t t c):=by unfold a6o;simp only [ht,h1,h2,if_true]
   rw [e]
   refine a0c (ow:=fun _=>false) Tryz.func21 Tryz.ntmps21 rfl rfl fun G hG hOw hNm hB=>?_;simp only [go_sem,hG,hOw]
   refine a0a (a3p t) ?_
   simp (maxSteps:=2000000) only [go_sem,hG,hOw,ht]
   (repeat' with_reducible first|refine And.intro ?_ ?_|intro _|refine exP ?_ ?_);all_goals try omega
   refine a0b [(0,8),(1,3),(2,7)] [] (d3y l c h1 h2) ?_
   simp only [go_sem,hG,hOw]
   (repeat' with_reducible first|refine And.intro ?_ ?_|intro _|refine exP ?_ ?_);all_goals try omega
   refine a0a (b0r t c) ?_
   by_cases hc:a7t t c=0
   ·rw [if_pos hc]
    simp (maxSteps:=2000000) only [go_sem,hG,hOw,hc]
    (repeat' with_reducible first|refine And.intro ?_ ?_|intro _|refine exP ?_ ?_);all_goals try omega
   ·rw [if_neg hc]
    simp (maxSteps:=2000000) only [go_sem,hG,hOw,hc]
    (repeat' with_reducible first|refine And.intro ?_ ?_|intro _|refine exP ?_ ?_);all_goals try omega
    refine a1s ⟨[4,8],[],[]⟩ [(0,false),(1,false),(2,false),(3,false)] mixed (by kernel_rfl) ?_
    simp only [a2v,List.getElem?_cons_zero,List.getElem?_cons_succ]
    simp only [go_sem,hG,hOw]
    (repeat' with_reducible first|refine And.intro ?_ ?_|intro _|refine exP ?_ ?_);all_goals try omega
    exact c2t _
  ·obtain ⟨k,hk,e,hT⟩:∃ k:Int,k≠0∧a6o t l=(f2u,k)∧Tri Tryz.prog 82 [.ptr 0 0,.ptr 1 0,.ptr 2 0] [(0,.box [i64 0]),(1,.box [a0h 0 l]),(2,.box [i64 0,.v (.slice none 0 0)])] (fun _=>.ret (.tup []) [(0,.box [i64 k]),(1,.box [a0h 0 l])]):=by
    cases h1:a0v l with
    |false=>exact ⟨110,by decide,by simp [a6o,ht,h1],b8i l 110 (.inl ⟨h1,rfl⟩)⟩
    |true =>
     cases h2:a6b none l with
     |none=>exact ⟨111,by decide,by simp [a6o,ht,h1,h2],b8i l 111 (.inr ⟨h1,h2,rfl⟩)⟩
     |some s =>
      cases s with
      |none=>exact ⟨111,by decide,by simp [a6o,ht,h1,h2],c3x l h1 h2⟩
      |some c=>exact (hgood ⟨h1,c,h2⟩).elim
   rw [e]
   refine a0c (ow:=fun _=>false) Tryz.func21 Tryz.ntmps21 rfl rfl fun G hG hOw hNm hB=>?_;simp only [go_sem,hG,hOw]
   refine a0a (a3p t) ?_
   simp (maxSteps:=2000000) only [go_sem,hG,hOw,ht]
   (repeat' with_reducible first|refine And.intro ?_ ?_|intro _|refine exP ?_ ?_);all_goals try omega
   refine a0b [(0,8),(1,3),(2,7)] [] (hT) ?_
   simp (maxSteps:=2000000) only [go_sem,hG,hOw,hk]
   (repeat' with_reducible first|refine And.intro ?_ ?_|intro _|refine exP ?_ ?_);all_goals try omega
   refine a1s ⟨[4,8],[],[]⟩ [(0,false),(1,false),(2,false),(3,false)] mixed (by kernel_rfl) ?_
   simp only [a2v,List.getElem?_cons_zero,List.getElem?_cons_succ]
   simp only [go_sem,hG,hOw]
   (repeat' with_reducible first|refine And.intro ?_ ?_|intro _|refine exP ?_ ?_);all_goals try omega
   exact c2t k
end Go.Proofs.YtmjhfccbbfpppaaGreatDoor
