import Derived.Test.YtmjhfccbbfpppaaGreatDoorQZ30
import Derived.Test.YtmjhfccbbfpppaaGreatDoorQZ37
namespace Go.Proofs.YtmjhfccbbfpppaaGreatDoor
open Go Pm
set_option linter.unusedSimpArgs false
set_option linter.unusedVariables false
set_option maxHeartbeats 4000000
set_option maxRecDepth 100000
theorem a4t (l:List ByteArray) (x:ByteArray):a0n Tryz.prog 84 [a0p 0 l,str x] (fun _=>i64 (a3q (fun s=>decide (x=s)) l)):=by
 refine a0b (ow:=fun _=>false) Tryz.func84 Tryz.ntmps84 rfl rfl fun G hG hOw hNm hB=>?_;simp only [go_sem,hG,hOw]
 have hl:l.length≤140737488355328:=by
  have:=b7q hB (lo:=0) (sz:=1) (l:=l.map a2e) (List.mem_cons_self ..)
  simpa using this
 refine a0m (fun i:Nat=>St.of [(0,a0p 0 l),(1,str x),(7,i64 l.length),(8,i64 i)] []) (fun i=>i≤l.length∧(l.take i).all (fun s=>!decide (x=s))=true) (fun i=>l.length - i) 0 (by simp) (a1e (by (simp only [go_sem])<;>simp) hNm) ?_
 rintro i ⟨hi,hall⟩
 refine a0d _ _ _ ?_;simp only [go_sem,hG,hOw]
 (repeat' with_reducible first|refine And.intro ?_ ?_|intro _|refine exP ?_ ?_);all_goals try omega
 ·rename_i hlt h
  have hil:i < l.length:=by omega
  exact (a7p hil hall (by simpa using h)).symm
 ·rename_i hlt h
  have hil:i < l.length:=by omega
  exact ⟨i+1,⟨by omega,a0v hil hall (by simpa using h)⟩,by omega,a1e (by (simp only [go_sem])<;>simp) hNm⟩
 ·rename_i hge
  rw [a1c hi hge] at hall
  exact (a6p hall).symm
def kdN (s:ByteArray):Nat:=if s=a2q then 1 else if s=a5n then 2 else if s=a1i then 3 else 0
theorem e6u (x:ByteArray):a3q (fun s=>decide (x=s)) [⟨#[]⟩,a2q,a5n,a1i]=if x=⟨#[]⟩ then 0 else if kdN x=0 then -1 else (kdN x:Int):=by
 by_cases h0:x=⟨#[]⟩
 ·rw [if_pos h0];simp [a3q,List.findIdx?_cons,h0]
 ·rw [if_neg h0]
  unfold kdN
  by_cases h1:x=a2q
  ·simp [a3q,List.findIdx?_cons,h0,h1]
   decide
  ·by_cases h2:x=a5n
   ·subst h2
    simp [a3q,List.findIdx?_cons]
    decide
   ·by_cases h3:x=a1i
    ·subst h3
     simp [a3q,List.findIdx?_cons]
     decide
    ·simp [a3q,List.findIdx?_cons,h0,h1,h2,h3]
def b0d (s:Option Cp) (name:ByteArray) (rest:List ByteArray):Option (Cp×List ByteArray):=match s with
 |none=>if name=a5h then match rest with
   |x::r=>(a4o x).map fun v=>(⟨v,[]⟩,r)
   |[]=>none
  else none
 |some c=>if name=a5h then none else if kdN name=0 then none else if a3d rest then
   (if kdN name=1 then some (⟨c.id,c.rds++[⟨nvS rest 0,nvS rest 1,nvS rest 2,1,⟨#[]⟩⟩]⟩,rest.drop 3) else match rest.drop 3 with
    |w::r=>if a1h w then some (⟨c.id,c.rds++[⟨nvS rest 0,nvS rest 1,nvS rest 2,UInt8.ofNat (kdN name),w⟩]⟩,r) else none
    |[]=>none)
   else none
def stepG (s:Option Cp) (x:ByteArray):Option Cp:=match a1n x with
 |[]=>none
 |name::rest=>match b0d s name rest with
  |some (c,[])=>some c
  |_=>none
def a4r (s:Option Cp):List ByteArray→Option (Option Cp)
 |[]=>some s
 |x::l=>(stepG s x).bind fun c=>a4r (some c) l
theorem d2z (lo:Nat) (x:ByteArray) (r:List ByteArray) (v:Int) (hx:x.size≤100000) (hv:a4o x=some v) :
  Tri Tryz.prog 83 [str a5h,.ptr 1 0,.ptr 0 0,.ptr 2 0] [(0,.box [bl false]),(1,.box [a0p lo (x::r)]),(2,.box [i64 0,.own 3 0 0 5]),(3,.arr 148 5 [])]
   (fun _=>.ret (.tup []) [(0,.box [bl true]),(1,.box [a0p lo r]),(2,.box [i64 v,.own 4 0 0 5]),(4,.arr 148 5 [])]):=by
 have hcs:decide (a5h=⟨#[99,111,112,121]⟩)=true:=rfl
 refine a0j (fun _=>false) Tryz.func83 Tryz.ntmps83 rfl rfl fun G hG hOw hNm=>?_;simp only [go_sem,hG,hOw]
 (repeat' with_reducible first|refine And.intro ?_ ?_|intro _|refine exP ?_ ?_);all_goals try omega
 refine a0c [] [] (a1r 111) ?_ (by (simp only [go_sem])<;>simp [hcs]) (by (simp only [go_sem,a1k,a0r,a0i,a1p])<;>simp [hcs]) (by simp [a0k,usH,toR,hcs])
 simp only [go_sem,hG,hOw]
 (repeat' with_reducible first|refine And.intro ?_ ?_|intro _|refine exP ?_ ?_);all_goals try omega
 refine a0c [(0,1)] [] (b7w lo x r v hx hv) ?_
 simp only [go_sem,hG,hOw]
 (repeat' with_reducible first|refine And.intro ?_ ?_|intro _|refine exP ?_ ?_);all_goals try omega
 exact (a3x [(0,some 0),(1,some 1),(2,some 2),(4,some 3)])
theorem b6p (lo:Nat) (l:List ByteArray) (hl:∀ s ∈ l,s.size≤100000) (h:∀ s r,l=s::r→a4o s=none) :
  Tri Tryz.prog 83 [str a5h,.ptr 1 0,.ptr 0 0,.ptr 2 0] [(0,.box [bl false]),(1,.box [a0p lo l]),(2,.box [i64 0,.own 3 0 0 5]),(3,.arr 148 5 [])]
   (fun _=>.pan (wrV 111) []):=by
 have hcs:decide (a5h=⟨#[99,111,112,121]⟩)=true:=rfl
 refine a0j (fun _=>false) Tryz.func83 Tryz.ntmps83 rfl rfl fun G hG hOw hNm=>?_;simp only [go_sem,hG,hOw]
 (repeat' with_reducible first|refine And.intro ?_ ?_|intro _|refine exP ?_ ?_);all_goals try omega
 refine a0c [] [] (a1r 111) ?_ (by (simp only [go_sem])<;>simp [hcs]) (by (simp only [go_sem,a1k,a0r,a0i,a1p])<;>simp [hcs]) (by simp [a0k,usH,toR,hcs])
 simp only [go_sem,hG,hOw]
 (repeat' with_reducible first|refine And.intro ?_ ?_|intro _|refine exP ?_ ?_);all_goals try omega
 refine a0c [(0,1)] [] (b8j lo l hl h) ?_
 simp only [go_sem,hG,hOw]
 exact ⟨rfl,(a3x [])⟩
theorem b7l (lo:Nat) (b:Bool) (name:ByteArray) (id:Int) (rs:List Rd) (l:List ByteArray) (h:decide (name=a5h)=b) :
  Tri Tryz.prog 83 [str name,.ptr 1 0,.ptr 0 0,.ptr 2 0] [(0,.box [bl b]),(1,.box [a0p lo l]),(2,.box [i64 id,.own 3 0 rs.length 5]),(3,.arr 148 5 (rs.map rdE))]
   (fun _=>.pan (wrV 111) []):=by
 have hcs:decide (name=⟨#[99,111,112,121]⟩)=b:=h
 refine a0j (fun _=>false) Tryz.func83 Tryz.ntmps83 rfl rfl fun G hG hOw hNm=>?_;simp only [go_sem,hG,hOw]
 (repeat' with_reducible first|refine And.intro ?_ ?_|intro _|refine exP ?_ ?_);all_goals try omega
 refine a0c [] [] (a6v 111) ?_ (by (simp only [go_sem])<;>simp [hcs]) (by (simp only [go_sem,a1k,a0r,a0i,a1p])<;>simp [hcs]) (by simp [a0k,usH,toR,hcs])
 simp only [go_sem,hG,hOw]
 exact ⟨rfl,(a3x [])⟩
theorem e0w (lo:Nat) (name:ByteArray) (id:Int) (rs:List Rd) (l:List ByteArray) (hn:¬ name=a5h) (hk:kdN name=0) :
  Tri Tryz.prog 83 [str name,.ptr 1 0,.ptr 0 0,.ptr 2 0] [(0,.box [bl true]),(1,.box [a0p lo l]),(2,.box [i64 id,.own 3 0 rs.length 5]),(3,.arr 148 5 (rs.map rdE))]
   (fun _=>.pan (wrV 111) []):=by
 have hcs:decide (name=⟨#[99,111,112,121]⟩)=false:=decide_eq_false hn
 have hI:=e6u name
 have hI2:decide (0 < a3q (fun s=>decide (name=s)) [⟨#[]⟩,a2q,a5n,a1i])=false:=by
  rw [hI,hk]
  split<;>rfl
 refine a0j (fun _=>false) Tryz.func83 Tryz.ntmps83 rfl rfl fun G hG hOw hNm=>?_;simp only [go_sem,hG,hOw]
 (repeat' with_reducible first|refine And.intro ?_ ?_|intro _|refine exP ?_ ?_);all_goals try omega
 refine a0c [] [] (a1r 111) ?_ (by (simp only [go_sem])<;>simp [hcs]) (by (simp only [go_sem,a1k,a0r,a0i,a1p])<;>simp [hcs]) (by simp [a0k,usH,toR,hcs])
 simp only [go_sem,hG,hOw]
 (repeat' with_reducible first|refine And.intro ?_ ?_|intro _|refine exP ?_ ?_);all_goals try omega
 refine a0a (a4t [⟨#[]⟩,a2q,a5n,a1i] name) ?_
 simp (maxSteps:=2000000) only [go_sem,hG,hOw,hI2]
 (repeat' with_reducible first|refine And.intro ?_ ?_|intro _|refine exP ?_ ?_);all_goals try omega
 refine a0c [] [] (a6v 111) ?_ (by (simp only [go_sem])<;>simp [hI2]) (by (simp only [go_sem,a1k,a0r,a0i,a1p])<;>simp [hI2]) (by simp [a0k,usH,toR,hI2])
 simp only [go_sem,hG,hOw]
 exact ⟨rfl,(a3x [])⟩
open Go Pm
set_option maxHeartbeats 4000000
set_option maxRecDepth 100000
theorem d4q (lo:Nat) (id:Int) (rs:List Rd) (l:List ByteArray) (hl:∀ s ∈ l,s.size≤100000) (hp:a3d l=false) :
  Tri Tryz.prog 83 [str a2q,.ptr 1 0,.ptr 0 0,.ptr 2 0] [(0,.box [bl true]),(1,.box [a0p lo l]),(2,.box [i64 id,.own 3 0 rs.length 5]),(3,.arr 148 5 (rs.map rdE))] (fun _=>.pan (wrV 111) []):=by
 have hP:=a4e lo l hl
 simp only [hp] at hP
 have hcs:decide (a2q=⟨#[99,111,112,121]⟩)=false:=by decide
 have hI:a3q (fun s=>decide (a2q=s)) [⟨#[]⟩,a2q,a5n,a1i]=1:=by decide
 refine a0j (fun _=>false) Tryz.func83 Tryz.ntmps83 rfl rfl fun G hG hOw hNm=>?_;simp only [go_sem,hG,hOw]
 (repeat' with_reducible first|refine And.intro ?_ ?_|intro _|refine exP ?_ ?_);all_goals try omega
 refine a0c [] [] (a1r 111) ?_ (by (simp only [go_sem])<;>simp [hcs]) (by (simp only [go_sem,a1k,a0r,a0i,a1p])<;>simp [hcs]) (by simp [a0k,usH,toR,hcs])
 simp only [go_sem,hG,hOw]
 (repeat' with_reducible first|refine And.intro ?_ ?_|intro _|refine exP ?_ ?_);all_goals try omega
 refine a0a (a4t [⟨#[]⟩,a2q,a5n,a1i] a2q) ?_
 rw [hI]
 simp only [go_sem,hG,hOw]
 (repeat' with_reducible first|refine And.intro ?_ ?_|intro _|refine exP ?_ ?_);all_goals try omega
 refine a0c [] [] (a1r 111) ?_
 simp only [go_sem,hG,hOw]
 (repeat' with_reducible first|refine And.intro ?_ ?_|intro _|refine exP ?_ ?_);all_goals try omega
 refine a0c [(0,1)] [] (hP) ?_
 simp only [go_sem,hG,hOw]
 exact ⟨rfl,(a3x [])⟩
theorem e6y (lo:Nat) (id:Int) (rs:List Rd) (l:List ByteArray) (hl:∀ s ∈ l,s.size≤100000) (hp:a3d l=true) (hn:rs.length≤1000) :
  Tri Tryz.prog 83 [str a2q,.ptr 1 0,.ptr 0 0,.ptr 2 0] [(0,.box [bl true]),(1,.box [a0p lo l]),(2,.box [i64 id,.own 3 0 rs.length 5]),(3,.arr 148 5 (rs.map rdE))] (fun _=>.ret (.tup []) [(0,.box [bl true]),(1,.box [a0p lo (l.drop 3)]),(2,.box [i64 id,.own 4 0 (rs.length+1) 5]),(4,.arr 148 5 ((rs++[(⟨nvS l 0,nvS l 1,nvS l 2,1,⟨#[]⟩⟩:Rd)]).map rdE))]):=by
 have hP:=a4e lo l hl
 simp only [hp] at hP
 have hq:(rs++[(⟨nvS l 0,nvS l 1,nvS l 2,1,⟨#[]⟩⟩:Rd)]).map rdE=rs.map rdE++[[V.v (Value.int IntKind.i64 (nvS l 0)),V.v (Value.int IntKind.i64 (nvS l 1)),V.v (Value.int IntKind.i64 (nvS l 2)),V.v (Value.int IntKind.u8 (IntKind.u8.wrap 1)),V.v (Value.string ByteArray.empty)]]:=by
  rw [List.map_append];rfl
 rw [hq]
 have hcs:decide (a2q=⟨#[99,111,112,121]⟩)=false:=by decide
 have hI:a3q (fun s=>decide (a2q=s)) [⟨#[]⟩,a2q,a5n,a1i]=1:=by decide
 refine a0j (fun _=>false) Tryz.func83 Tryz.ntmps83 rfl rfl fun G hG hOw hNm=>?_;simp only [go_sem,hG,hOw]
 (repeat' with_reducible first|refine And.intro ?_ ?_|intro _|refine exP ?_ ?_);all_goals try omega
 refine a0c [] [] (a1r 111) ?_ (by (simp only [go_sem])<;>simp [hcs]) (by (simp only [go_sem,a1k,a0r,a0i,a1p])<;>simp [hcs]) (by simp [a0k,usH,toR,hcs])
 simp only [go_sem,hG,hOw]
 (repeat' with_reducible first|refine And.intro ?_ ?_|intro _|refine exP ?_ ?_);all_goals try omega
 refine a0a (a4t [⟨#[]⟩,a2q,a5n,a1i] a2q) ?_
 rw [hI]
 simp only [go_sem,hG,hOw]
 (repeat' with_reducible first|refine And.intro ?_ ?_|intro _|refine exP ?_ ?_);all_goals try omega
 refine a0c [] [] (a1r 111) ?_
 simp only [go_sem,hG,hOw]
 (repeat' with_reducible first|refine And.intro ?_ ?_|intro _|refine exP ?_ ?_);all_goals try omega
 refine a0c [(0,1)] [] (hP) ?_
 simp only [go_sem,hG,hOw]
 (repeat' with_reducible first|refine And.intro ?_ ?_|intro _|refine exP ?_ ?_);all_goals try omega
 exact (a3x [(0,some 0),(1,some 1),(2,some 2),(4,some 38)])
theorem d9b (lo:Nat) (id:Int) (rs:List Rd) (l:List ByteArray) (hl:∀ s ∈ l,s.size≤100000) (hp:a3d l=false) :
  Tri Tryz.prog 83 [str a5n,.ptr 1 0,.ptr 0 0,.ptr 2 0] [(0,.box [bl true]),(1,.box [a0p lo l]),(2,.box [i64 id,.own 3 0 rs.length 5]),(3,.arr 148 5 (rs.map rdE))] (fun _=>.pan (wrV 111) []):=by
 have hP:=a4e lo l hl
 simp only [hp] at hP
 have hcs:decide (a5n=⟨#[99,111,112,121]⟩)=false:=by decide
 have hI:a3q (fun s=>decide (a5n=s)) [⟨#[]⟩,a2q,a5n,a1i]=2:=by decide
 refine a0j (fun _=>false) Tryz.func83 Tryz.ntmps83 rfl rfl fun G hG hOw hNm=>?_;simp only [go_sem,hG,hOw]
 (repeat' with_reducible first|refine And.intro ?_ ?_|intro _|refine exP ?_ ?_);all_goals try omega
 refine a0c [] [] (a1r 111) ?_ (by (simp only [go_sem])<;>simp [hcs]) (by (simp only [go_sem,a1k,a0r,a0i,a1p])<;>simp [hcs]) (by simp [a0k,usH,toR,hcs])
 simp only [go_sem,hG,hOw]
 (repeat' with_reducible first|refine And.intro ?_ ?_|intro _|refine exP ?_ ?_);all_goals try omega
 refine a0a (a4t [⟨#[]⟩,a2q,a5n,a1i] a5n) ?_
 rw [hI]
 simp only [go_sem,hG,hOw]
 (repeat' with_reducible first|refine And.intro ?_ ?_|intro _|refine exP ?_ ?_);all_goals try omega
 refine a0c [] [] (a1r 111) ?_
 simp only [go_sem,hG,hOw]
 (repeat' with_reducible first|refine And.intro ?_ ?_|intro _|refine exP ?_ ?_);all_goals try omega
 refine a0c [(0,1)] [] (hP) ?_
 simp only [go_sem,hG,hOw]
 exact ⟨rfl,(a3x [])⟩
theorem e3v (lo:Nat) (id:Int) (rs:List Rd) (l:List ByteArray) (hl:∀ s ∈ l,s.size≤100000) (hp:a3d l=true) (hn:rs.length≤1000) (w:ByteArray) (r:List ByteArray) (hd:l.drop 3=w::r) (hw:a1h w=true) :
  Tri Tryz.prog 83 [str a5n,.ptr 1 0,.ptr 0 0,.ptr 2 0] [(0,.box [bl true]),(1,.box [a0p lo l]),(2,.box [i64 id,.own 3 0 rs.length 5]),(3,.arr 148 5 (rs.map rdE))] (fun _=>.ret (.tup []) [(0,.box [bl true]),(1,.box [a0p lo r]),(2,.box [i64 id,.own 4 0 (rs.length+1) 5]),(4,.arr 148 5 ((rs++[(⟨nvS l 0,nvS l 1,nvS l 2,2,w⟩:Rd)]).map rdE))]):=by
 have hP:=a4e lo l hl
 simp only [hp,hd] at hP
 have hq:(rs++[(⟨nvS l 0,nvS l 1,nvS l 2,2,w⟩:Rd)]).map rdE=rs.map rdE++[[V.v (Value.int IntKind.i64 (nvS l 0)),V.v (Value.int IntKind.i64 (nvS l 1)),V.v (Value.int IntKind.i64 (nvS l 2)),V.v (Value.int IntKind.u8 (IntKind.u8.wrap 2)),V.v (Value.string w)]]:=by
  rw [List.map_append];rfl
 rw [hq]
 have hcs:decide (a5n=⟨#[99,111,112,121]⟩)=false:=by decide
 have hI:a3q (fun s=>decide (a5n=s)) [⟨#[]⟩,a2q,a5n,a1i]=2:=by decide
 refine a0j (fun _=>false) Tryz.func83 Tryz.ntmps83 rfl rfl fun G hG hOw hNm=>?_;simp only [go_sem,hG,hOw]
 (repeat' with_reducible first|refine And.intro ?_ ?_|intro _|refine exP ?_ ?_);all_goals try omega
 refine a0c [] [] (a1r 111) ?_ (by (simp only [go_sem])<;>simp [hcs]) (by (simp only [go_sem,a1k,a0r,a0i,a1p])<;>simp [hcs]) (by simp [a0k,usH,toR,hcs])
 simp only [go_sem,hG,hOw]
 (repeat' with_reducible first|refine And.intro ?_ ?_|intro _|refine exP ?_ ?_);all_goals try omega
 refine a0a (a4t [⟨#[]⟩,a2q,a5n,a1i] a5n) ?_
 rw [hI]
 simp only [go_sem,hG,hOw]
 (repeat' with_reducible first|refine And.intro ?_ ?_|intro _|refine exP ?_ ?_);all_goals try omega
 refine a0c [] [] (a1r 111) ?_
 simp only [go_sem,hG,hOw]
 (repeat' with_reducible first|refine And.intro ?_ ?_|intro _|refine exP ?_ ?_);all_goals try omega
 refine a0c [(0,1)] [] (hP) ?_
 simp only [go_sem,hG,hOw]
 (repeat' with_reducible first|refine And.intro ?_ ?_|intro _|refine exP ?_ ?_);all_goals try omega
 refine a0c [(0,1)] [] (c9y lo w r hw) ?_
 simp only [go_sem,hG,hOw]
 (repeat' with_reducible first|refine And.intro ?_ ?_|intro _|refine exP ?_ ?_);all_goals try omega
 exact (a3x [(0,some 0),(1,some 1),(2,some 2),(4,some 38)])
theorem e2d (lo:Nat) (id:Int) (rs:List Rd) (l:List ByteArray) (hl:∀ s ∈ l,s.size≤100000) (hp:a3d l=true) (w:ByteArray) (r:List ByteArray) (hd:l.drop 3=w::r) (hw:a1h w=false) :
  Tri Tryz.prog 83 [str a5n,.ptr 1 0,.ptr 0 0,.ptr 2 0] [(0,.box [bl true]),(1,.box [a0p lo l]),(2,.box [i64 id,.own 3 0 rs.length 5]),(3,.arr 148 5 (rs.map rdE))] (fun _=>.pan (wrV 111) []):=by
 have hP:=a4e lo l hl
 simp only [hp,hd] at hP
 have hcs:decide (a5n=⟨#[99,111,112,121]⟩)=false:=by decide
 have hI:a3q (fun s=>decide (a5n=s)) [⟨#[]⟩,a2q,a5n,a1i]=2:=by decide
 refine a0j (fun _=>false) Tryz.func83 Tryz.ntmps83 rfl rfl fun G hG hOw hNm=>?_;simp only [go_sem,hG,hOw]
 (repeat' with_reducible first|refine And.intro ?_ ?_|intro _|refine exP ?_ ?_);all_goals try omega
 refine a0c [] [] (a1r 111) ?_ (by (simp only [go_sem])<;>simp [hcs]) (by (simp only [go_sem,a1k,a0r,a0i,a1p])<;>simp [hcs]) (by simp [a0k,usH,toR,hcs])
 simp only [go_sem,hG,hOw]
 (repeat' with_reducible first|refine And.intro ?_ ?_|intro _|refine exP ?_ ?_);all_goals try omega
 refine a0a (a4t [⟨#[]⟩,a2q,a5n,a1i] a5n) ?_
 rw [hI]
 simp only [go_sem,hG,hOw]
 (repeat' with_reducible first|refine And.intro ?_ ?_|intro _|refine exP ?_ ?_);all_goals try omega
 refine a0c [] [] (a1r 111) ?_
 simp only [go_sem,hG,hOw]
 (repeat' with_reducible first|refine And.intro ?_ ?_|intro _|refine exP ?_ ?_);all_goals try omega
 refine a0c [(0,1)] [] (hP) ?_
 simp only [go_sem,hG,hOw]
 (repeat' with_reducible first|refine And.intro ?_ ?_|intro _|refine exP ?_ ?_);all_goals try omega
 refine a0c [(0,1)] [] (c9k lo w r hw) ?_
 simp only [go_sem,hG,hOw]
 exact ⟨rfl,(a3x [])⟩
theorem d6v (lo:Nat) (id:Int) (rs:List Rd) (l:List ByteArray) (hl:∀ s ∈ l,s.size≤100000) (hp:a3d l=true) (hd:l.drop 3=[]) :
  Tri Tryz.prog 83 [str a5n,.ptr 1 0,.ptr 0 0,.ptr 2 0] [(0,.box [bl true]),(1,.box [a0p lo l]),(2,.box [i64 id,.own 3 0 rs.length 5]),(3,.arr 148 5 (rs.map rdE))] (fun _=>.pan (wrV 111) []):=by
 have hP:=a4e lo l hl
 simp only [hp,hd] at hP
 have hcs:decide (a5n=⟨#[99,111,112,121]⟩)=false:=by decide
 have hI:a3q (fun s=>decide (a5n=s)) [⟨#[]⟩,a2q,a5n,a1i]=2:=by decide
 refine a0j (fun _=>false) Tryz.func83 Tryz.ntmps83 rfl rfl fun G hG hOw hNm=>?_;simp only [go_sem,hG,hOw]
 (repeat' with_reducible first|refine And.intro ?_ ?_|intro _|refine exP ?_ ?_);all_goals try omega
 refine a0c [] [] (a1r 111) ?_ (by (simp only [go_sem])<;>simp [hcs]) (by (simp only [go_sem,a1k,a0r,a0i,a1p])<;>simp [hcs]) (by simp [a0k,usH,toR,hcs])
 simp only [go_sem,hG,hOw]
 (repeat' with_reducible first|refine And.intro ?_ ?_|intro _|refine exP ?_ ?_);all_goals try omega
 refine a0a (a4t [⟨#[]⟩,a2q,a5n,a1i] a5n) ?_
 rw [hI]
 simp only [go_sem,hG,hOw]
 (repeat' with_reducible first|refine And.intro ?_ ?_|intro _|refine exP ?_ ?_);all_goals try omega
 refine a0c [] [] (a1r 111) ?_
 simp only [go_sem,hG,hOw]
 (repeat' with_reducible first|refine And.intro ?_ ?_|intro _|refine exP ?_ ?_);all_goals try omega
 refine a0c [(0,1)] [] (hP) ?_
 simp only [go_sem,hG,hOw]
 (repeat' with_reducible first|refine And.intro ?_ ?_|intro _|refine exP ?_ ?_);all_goals try omega
 refine a0c [(0,1)] [] (e0f lo) ?_
 simp only [go_sem,hG,hOw]
 exact ⟨rfl,(a3x [])⟩
theorem d7g (lo:Nat) (id:Int) (rs:List Rd) (l:List ByteArray) (hl:∀ s ∈ l,s.size≤100000) (hp:a3d l=false) :
  Tri Tryz.prog 83 [str a1i,.ptr 1 0,.ptr 0 0,.ptr 2 0] [(0,.box [bl true]),(1,.box [a0p lo l]),(2,.box [i64 id,.own 3 0 rs.length 5]),(3,.arr 148 5 (rs.map rdE))] (fun _=>.pan (wrV 111) []):=by
 have hP:=a4e lo l hl
 simp only [hp] at hP
 have hcs:decide (a1i=⟨#[99,111,112,121]⟩)=false:=by decide
 have hI:a3q (fun s=>decide (a1i=s)) [⟨#[]⟩,a2q,a5n,a1i]=3:=by decide
 refine a0j (fun _=>false) Tryz.func83 Tryz.ntmps83 rfl rfl fun G hG hOw hNm=>?_;simp only [go_sem,hG,hOw]
 (repeat' with_reducible first|refine And.intro ?_ ?_|intro _|refine exP ?_ ?_);all_goals try omega
 refine a0c [] [] (a1r 111) ?_ (by (simp only [go_sem])<;>simp [hcs]) (by (simp only [go_sem,a1k,a0r,a0i,a1p])<;>simp [hcs]) (by simp [a0k,usH,toR,hcs])
 simp only [go_sem,hG,hOw]
 (repeat' with_reducible first|refine And.intro ?_ ?_|intro _|refine exP ?_ ?_);all_goals try omega
 refine a0a (a4t [⟨#[]⟩,a2q,a5n,a1i] a1i) ?_
 rw [hI]
 simp only [go_sem,hG,hOw]
 (repeat' with_reducible first|refine And.intro ?_ ?_|intro _|refine exP ?_ ?_);all_goals try omega
 refine a0c [] [] (a1r 111) ?_
 simp only [go_sem,hG,hOw]
 (repeat' with_reducible first|refine And.intro ?_ ?_|intro _|refine exP ?_ ?_);all_goals try omega
 refine a0c [(0,1)] [] (hP) ?_
 simp only [go_sem,hG,hOw]
 exact ⟨rfl,(a3x [])⟩
theorem e5h (lo:Nat) (id:Int) (rs:List Rd) (l:List ByteArray) (hl:∀ s ∈ l,s.size≤100000) (hp:a3d l=true) (hn:rs.length≤1000) (w:ByteArray) (r:List ByteArray) (hd:l.drop 3=w::r) (hw:a1h w=true) :
  Tri Tryz.prog 83 [str a1i,.ptr 1 0,.ptr 0 0,.ptr 2 0] [(0,.box [bl true]),(1,.box [a0p lo l]),(2,.box [i64 id,.own 3 0 rs.length 5]),(3,.arr 148 5 (rs.map rdE))] (fun _=>.ret (.tup []) [(0,.box [bl true]),(1,.box [a0p lo r]),(2,.box [i64 id,.own 4 0 (rs.length+1) 5]),(4,.arr 148 5 ((rs++[(⟨nvS l 0,nvS l 1,nvS l 2,3,w⟩:Rd)]).map rdE))]):=by
 have hP:=a4e lo l hl
 simp only [hp,hd] at hP
 have hq:(rs++[(⟨nvS l 0,nvS l 1,nvS l 2,3,w⟩:Rd)]).map rdE=rs.map rdE++[[V.v (Value.int IntKind.i64 (nvS l 0)),V.v (Value.int IntKind.i64 (nvS l 1)),V.v (Value.int IntKind.i64 (nvS l 2)),V.v (Value.int IntKind.u8 (IntKind.u8.wrap 3)),V.v (Value.string w)]]:=by
  rw [List.map_append];rfl
 rw [hq]
 have hcs:decide (a1i=⟨#[99,111,112,121]⟩)=false:=by decide
 have hI:a3q (fun s=>decide (a1i=s)) [⟨#[]⟩,a2q,a5n,a1i]=3:=by decide
 refine a0j (fun _=>false) Tryz.func83 Tryz.ntmps83 rfl rfl fun G hG hOw hNm=>?_;simp only [go_sem,hG,hOw]
 (repeat' with_reducible first|refine And.intro ?_ ?_|intro _|refine exP ?_ ?_);all_goals try omega
 refine a0c [] [] (a1r 111) ?_ (by (simp only [go_sem])<;>simp [hcs]) (by (simp only [go_sem,a1k,a0r,a0i,a1p])<;>simp [hcs]) (by simp [a0k,usH,toR,hcs])
 simp only [go_sem,hG,hOw]
 (repeat' with_reducible first|refine And.intro ?_ ?_|intro _|refine exP ?_ ?_);all_goals try omega
 refine a0a (a4t [⟨#[]⟩,a2q,a5n,a1i] a1i) ?_
 rw [hI]
 simp only [go_sem,hG,hOw]
 (repeat' with_reducible first|refine And.intro ?_ ?_|intro _|refine exP ?_ ?_);all_goals try omega
 refine a0c [] [] (a1r 111) ?_
 simp only [go_sem,hG,hOw]
 (repeat' with_reducible first|refine And.intro ?_ ?_|intro _|refine exP ?_ ?_);all_goals try omega
 refine a0c [(0,1)] [] (hP) ?_
 simp only [go_sem,hG,hOw]
 (repeat' with_reducible first|refine And.intro ?_ ?_|intro _|refine exP ?_ ?_);all_goals try omega
 refine a0c [(0,1)] [] (c9y lo w r hw) ?_
 simp only [go_sem,hG,hOw]
 (repeat' with_reducible first|refine And.intro ?_ ?_|intro _|refine exP ?_ ?_);all_goals try omega
 exact (a3x [(0,some 0),(1,some 1),(2,some 2),(4,some 38)])
theorem e2m (lo:Nat) (id:Int) (rs:List Rd) (l:List ByteArray) (hl:∀ s ∈ l,s.size≤100000) (hp:a3d l=true) (w:ByteArray) (r:List ByteArray) (hd:l.drop 3=w::r) (hw:a1h w=false) :
  Tri Tryz.prog 83 [str a1i,.ptr 1 0,.ptr 0 0,.ptr 2 0] [(0,.box [bl true]),(1,.box [a0p lo l]),(2,.box [i64 id,.own 3 0 rs.length 5]),(3,.arr 148 5 (rs.map rdE))] (fun _=>.pan (wrV 111) []):=by
 have hP:=a4e lo l hl
 simp only [hp,hd] at hP
 have hcs:decide (a1i=⟨#[99,111,112,121]⟩)=false:=by decide
 have hI:a3q (fun s=>decide (a1i=s)) [⟨#[]⟩,a2q,a5n,a1i]=3:=by decide
 refine a0j (fun _=>false) Tryz.func83 Tryz.ntmps83 rfl rfl fun G hG hOw hNm=>?_;simp only [go_sem,hG,hOw]
 (repeat' with_reducible first|refine And.intro ?_ ?_|intro _|refine exP ?_ ?_);all_goals try omega
 refine a0c [] [] (a1r 111) ?_ (by (simp only [go_sem])<;>simp [hcs]) (by (simp only [go_sem,a1k,a0r,a0i,a1p])<;>simp [hcs]) (by simp [a0k,usH,toR,hcs])
 simp only [go_sem,hG,hOw]
 (repeat' with_reducible first|refine And.intro ?_ ?_|intro _|refine exP ?_ ?_);all_goals try omega
 refine a0a (a4t [⟨#[]⟩,a2q,a5n,a1i] a1i) ?_
 rw [hI]
 simp only [go_sem,hG,hOw]
 (repeat' with_reducible first|refine And.intro ?_ ?_|intro _|refine exP ?_ ?_);all_goals try omega
 refine a0c [] [] (a1r 111) ?_
 simp only [go_sem,hG,hOw]
 (repeat' with_reducible first|refine And.intro ?_ ?_|intro _|refine exP ?_ ?_);all_goals try omega
 refine a0c [(0,1)] [] (hP) ?_
 simp only [go_sem,hG,hOw]
 (repeat' with_reducible first|refine And.intro ?_ ?_|intro _|refine exP ?_ ?_);all_goals try omega
 refine a0c [(0,1)] [] (c9k lo w r hw) ?_
 simp only [go_sem,hG,hOw]
 exact ⟨rfl,(a3x [])⟩
theorem d5u (lo:Nat) (id:Int) (rs:List Rd) (l:List ByteArray) (hl:∀ s ∈ l,s.size≤100000) (hp:a3d l=true) (hd:l.drop 3=[]) :
  Tri Tryz.prog 83 [str a1i,.ptr 1 0,.ptr 0 0,.ptr 2 0] [(0,.box [bl true]),(1,.box [a0p lo l]),(2,.box [i64 id,.own 3 0 rs.length 5]),(3,.arr 148 5 (rs.map rdE))] (fun _=>.pan (wrV 111) []):=by
 have hP:=a4e lo l hl
 simp only [hp,hd] at hP
 have hcs:decide (a1i=⟨#[99,111,112,121]⟩)=false:=by decide
 have hI:a3q (fun s=>decide (a1i=s)) [⟨#[]⟩,a2q,a5n,a1i]=3:=by decide
 refine a0j (fun _=>false) Tryz.func83 Tryz.ntmps83 rfl rfl fun G hG hOw hNm=>?_;simp only [go_sem,hG,hOw]
 (repeat' with_reducible first|refine And.intro ?_ ?_|intro _|refine exP ?_ ?_);all_goals try omega
 refine a0c [] [] (a1r 111) ?_ (by (simp only [go_sem])<;>simp [hcs]) (by (simp only [go_sem,a1k,a0r,a0i,a1p])<;>simp [hcs]) (by simp [a0k,usH,toR,hcs])
 simp only [go_sem,hG,hOw]
 (repeat' with_reducible first|refine And.intro ?_ ?_|intro _|refine exP ?_ ?_);all_goals try omega
 refine a0a (a4t [⟨#[]⟩,a2q,a5n,a1i] a1i) ?_
 rw [hI]
 simp only [go_sem,hG,hOw]
 (repeat' with_reducible first|refine And.intro ?_ ?_|intro _|refine exP ?_ ?_);all_goals try omega
 refine a0c [] [] (a1r 111) ?_
 simp only [go_sem,hG,hOw]
 (repeat' with_reducible first|refine And.intro ?_ ?_|intro _|refine exP ?_ ?_);all_goals try omega
 refine a0c [(0,1)] [] (hP) ?_
 simp only [go_sem,hG,hOw]
 (repeat' with_reducible first|refine And.intro ?_ ?_|intro _|refine exP ?_ ?_);all_goals try omega
 refine a0c [(0,1)] [] (e0f lo) ?_
 simp only [go_sem,hG,hOw]
 exact ⟨rfl,(a3x [])⟩
open Go Pm
set_option maxHeartbeats 4000000
set_option maxRecDepth 100000
def cpO (s:Option Cp):Cp:=s.getD ⟨0,[]⟩
theorem c9q (x:ByteArray):(kdN x=1∧x=a2q)∨(kdN x=2∧x=a5n)∨(kdN x=3∧x=a1i)∨kdN x=0:=by
 unfold kdN
 by_cases h1:x=a2q
 ·left;simp [h1]
 ·by_cases h2:x=a5n
  ·right;left;rw [if_neg h1,if_pos h2];exact ⟨rfl,h2⟩
  ·by_cases h3:x=a1i
   ·right;right;left;rw [if_neg h1,if_neg h2,if_pos h3];exact ⟨rfl,h3⟩
   ·right;right;right;rw [if_neg h1,if_neg h2,if_neg h3]
theorem f7v (lo:Nat) (s:Option Cp) (c':Cp) (name:ByteArray) (rest r':List ByteArray) (hs:b0d s name rest=some (c',r')) (hl:∀ s ∈ rest,s.size≤100000) (hb:(cpO s).rds.length≤1000) :
  Tri Tryz.prog 83 [str name,.ptr 1 0,.ptr 0 0,.ptr 2 0] [(0,.box [bl s.isSome]),(1,.box [a0p lo rest]),(2,.box [i64 (cpO s).id,.own 3 0 (cpO s).rds.length 5]),(3,.arr 148 5 ((cpO s).rds.map rdE))]
   (fun _=>.ret (.tup []) [(0,.box [bl true]),(1,.box [a0p lo r']),(2,.box [i64 c'.id,.own 4 0 c'.rds.length 5]),(4,.arr 148 5 (c'.rds.map rdE))]):=by
 cases s with
 |none =>
  unfold b0d at hs
  simp only at hs
  split at hs
  ·rename_i hn
   subst hn
   cases rest with
   |nil=>cases hs
   |cons x r =>
    simp only [Option.map_eq_some_iff,Prod.mk.injEq] at hs
    obtain ⟨v,hv,rfl,rfl⟩:=hs
    exact d2z lo x r v (hl x (by simp)) hv
  ·cases hs
 |some c =>
  unfold b0d at hs
  simp only at hs
  rcases c9q name with ⟨hk,rfl⟩|⟨hk,rfl⟩|⟨hk,rfl⟩|hk
  ·rw [if_neg (by decide),if_neg (by rw [hk];decide),hk] at hs
   split at hs
   ·rename_i hp
    simp only [if_true,Option.some.injEq,Prod.mk.injEq] at hs
    obtain ⟨rfl,rfl⟩:=hs
    have:=e6y lo c.id c.rds rest hl hp hb
    simpa [cpO] using this
   ·cases hs
  ·rw [if_neg (by decide),if_neg (by rw [hk];decide),hk] at hs
   split at hs
   ·rename_i hp
    rw [if_neg (by decide)] at hs
    split at hs
    ·rename_i w r hd
     split at hs
     ·rename_i hw
      simp only [Option.some.injEq,Prod.mk.injEq] at hs
      obtain ⟨rfl,rfl⟩:=hs
      have:=e3v lo c.id c.rds rest hl hp hb w r hd hw
      simpa [cpO] using this
     ·cases hs
    ·cases hs
   ·cases hs
  ·rw [if_neg (by decide),if_neg (by rw [hk];decide),hk] at hs
   split at hs
   ·rename_i hp
    rw [if_neg (by decide)] at hs
    split at hs
    ·rename_i w r hd
     split at hs
     ·rename_i hw
      simp only [Option.some.injEq,Prod.mk.injEq] at hs
      obtain ⟨rfl,rfl⟩:=hs
      have:=e5h lo c.id c.rds rest hl hp hb w r hd hw
      simpa [cpO] using this
     ·cases hs
    ·cases hs
   ·cases hs
  ·split at hs
   ·cases hs
   ·first|cases hs|(rw [if_pos hk] at hs;cases hs)
theorem f0k (lo:Nat) (s:Option Cp) (name:ByteArray) (rest:List ByteArray) (h0:s=none→True) (hs:b0d s name rest=none) (hl:∀ s ∈ rest,s.size≤100000) :
  Tri Tryz.prog 83 [str name,.ptr 1 0,.ptr 0 0,.ptr 2 0] [(0,.box [bl s.isSome]),(1,.box [a0p lo rest]),(2,.box [i64 (cpO s).id,.own 3 0 (cpO s).rds.length 5]),(3,.arr 148 5 ((cpO s).rds.map rdE))] (fun _=>.pan (wrV 111) []):=by
 cases s with
 |none =>
  by_cases hn:name=a5h
  ·subst hn
   refine b6p lo rest hl fun x r e=>?_
   subst e
   simpa [b0d] using hs
  ·exact b7l lo false name 0 [] rest (decide_eq_false hn)
 |some c =>
  by_cases hn:name=a5h
  ·exact b7l lo true name c.id c.rds rest (decide_eq_true hn)
  ·rcases c9q name with ⟨hk,rfl⟩|⟨hk,rfl⟩|⟨hk,rfl⟩|hk
   ·cases hp:a3d rest with
    |false=>exact d4q lo c.id c.rds rest hl hp
    |true =>
     exfalso
     simp [b0d,hp,hk,hn] at hs
   ·cases hp:a3d rest with
    |false=>exact d9b lo c.id c.rds rest hl hp
    |true =>
     cases hd:rest.drop 3 with
     |nil=>exact d6v lo c.id c.rds rest hl hp hd
     |cons w r =>
      cases hw:a1h w with
      |false=>exact e2d lo c.id c.rds rest hl hp w r hd hw
      |true=>exfalso;simp [b0d,hp,hk,hn,hd,hw] at hs
   ·cases hp:a3d rest with
    |false=>exact d7g lo c.id c.rds rest hl hp
    |true =>
     cases hd:rest.drop 3 with
     |nil=>exact d5u lo c.id c.rds rest hl hp hd
     |cons w r =>
      cases hw:a1h w with
      |false=>exact e2m lo c.id c.rds rest hl hp w r hd hw
      |true=>exfalso;simp [b0d,hp,hk,hn,hd,hw] at hs
   ·exact e0w lo name c.id c.rds rest hn hk
theorem b6e:∀ (l m:List ByteArray) (s:Option Cp),a4r s (l++m)=(a4r s l).bind fun s'=>a4r s' m
 |[],m,s=>rfl
 |x::l,m,s=>by
  simp only [List.cons_append,a4r]
  cases stepG s x with
  |none=>rfl
  |some c=>exact b6e l m (some c)
theorem b2f (l:List ByteArray) (k:Nat) (hk:k < l.length):a4r none (l.take (k+1))=(a4r none (l.take k)).bind fun s=>(stepG s l[k]).map some:=by
 rw [List.take_add_one,List.getElem?_eq_getElem hk,b6e]
 congr 1
 funext s
 simp only [Option.toList,a4r]
 cases stepG s l[k]<;>rfl
theorem c4k {l:List ByteArray} {k:Nat} {s:Option Cp} (hk:k < l.length) (h:a4r none (l.take k)=some s) (hb:stepG s l[k]=none):a4r none l=none:=by
 have h1:a4r none (l.take (k+1))=none:=by rw [b2f l k hk,h];simp [hb]
 have h2:=b6e (l.take (k+1)) (l.drop (k+1)) none
 rw [List.take_append_drop] at h2
 rw [h2,h1];rfl
open Go Pm
set_option maxHeartbeats 4000000
set_option maxRecDepth 100000
theorem d5r {s:Option Cp} {name:ByteArray} {rest r':List ByteArray} {c:Cp} (h:b0d s name rest=some (c,r')):c.rds.length≤(cpO s).rds.length+1:=by
 cases s with
 |none =>
  unfold b0d at h
  simp only at h
  split at h
  ·cases rest with
   |nil=>cases h
   |cons x r =>
    simp only [Option.map_eq_some_iff,Prod.mk.injEq] at h
    obtain ⟨v,_,rfl,_⟩:=h
    simp
  ·cases h
 |some d =>
  unfold b0d at h
  simp only at h
  split at h
  ·cases h
  ·split at h
   ·cases h
   ·split at h
    ·split at h
     ·simp only [Option.some.injEq,Prod.mk.injEq] at h
      obtain ⟨rfl,_⟩:=h
      simp [cpO]
     ·split at h
      ·split at h
       ·simp only [Option.some.injEq,Prod.mk.injEq] at h
        obtain ⟨rfl,_⟩:=h
        simp [cpO]
       ·cases h
      ·cases h
    ·cases h
theorem d6c {s:Option Cp} {x:ByteArray} {c:Cp} (h:stepG s x=some c):c.rds.length≤(cpO s).rds.length+1:=by
 unfold stepG at h
 split at h
 ·cases h
 ·split at h
  ·rename_i hs
   cases h
   exact d5r hs
  ·cases h
theorem c3y {l:List ByteArray}:∀ {k:Nat} {s:Option Cp},k≤l.length→a4r none (l.take k)=some s→(cpO s).rds.length≤k
 |0,s,_,h=>by
  simp [a4r] at h
  subst h
  simp [cpO]
 |k+1,s,hk,h=>by
  rw [b2f l k (by omega)] at h
  simp only [Option.bind_eq_some_iff,Option.map_eq_some_iff] at h
  obtain ⟨u,h1,c,h2,rfl⟩:=h
  have ih:=c3y (by omega) h1
  have:=d6c h2
  show c.rds.length≤_
  omega
theorem d2c (l:List ByteArray) (h:a1a l=false):Tri Tryz.prog 73 [a0p 0 l,.fn (.func 83) [.ptr 0 0,.ptr 1 0]] [(0,.box [bl false]),(1,.box [i64 0,.v (.slice none 0 0)])] (fun _=>.pan (wrV 110) []):=by
 refine a0j (fun _=>false) Tryz.func73 Tryz.ntmps73 rfl rfl fun G hG hOw hNm=>?_;simp only [go_sem,hG,hOw]
 (repeat' with_reducible first|refine And.intro ?_ ?_|intro _|refine exP ?_ ?_);all_goals try omega
 refine a0a (a6o l) ?_
 rw [h]
 simp only [go_sem,hG,hOw]
 (repeat' with_reducible first|refine And.intro ?_ ?_|intro _|refine exP ?_ ?_);all_goals try omega
 refine a0c [] [] (a6v 110) ?_
 simp only [go_sem,hG,hOw]
 (repeat' with_reducible first|refine And.intro ?_ ?_|intro _|refine exP ?_ ?_);all_goals try omega
 exact ⟨rfl,(a3x [])⟩
theorem b5j (l:List ByteArray) (h:a1a l=true):Tri Tryz.prog 73 [a0p 0 l,.fn (.func 83) [.ptr 0 0,.ptr 1 0]] [(0,.box [bl false]),(1,.box [i64 0,.v (.slice none 0 0)])] (fun _=>match a4r none l with
  |some s=>.ret (.tup []) [(0,.box [bl s.isSome]),(1,.box [i64 (cpO s).id,rds 0 (cpO s).rds])]
  |none=>.pan (wrV 111) []):=by
 obtain ⟨hl1,hl2⟩:=e6b h
 refine a0j (fun _=>false) Tryz.func73 Tryz.ntmps73 rfl rfl fun G hG hOw hNm=>?_;simp only [go_sem,hG,hOw]
 (repeat' with_reducible first|refine And.intro ?_ ?_|intro _|refine exP ?_ ?_);all_goals try omega
 refine a0a (a6o l) ?_
 rw [h]
 simp only [go_sem,hG,hOw]
 (repeat' with_reducible first|refine And.intro ?_ ?_|intro _|refine exP ?_ ?_);all_goals try omega
 refine a0c [] [] (a1r 110) ?_
 simp only [go_sem,hG,hOw]
 (repeat' with_reducible first|refine And.intro ?_ ?_|intro _|refine exP ?_ ?_);all_goals try omega
 have e0:(cpO none).rds=[]:=rfl
 have e1:(cpO none).id=0:=rfl
 refine a7k (fun s:Option Cp=>St.of [] [(0,.box [bl s.isSome]),(1,.box [i64 (cpO s).id,rds 0 (cpO s).rds])]) (fun s=>a4r none l=some s) ?_ ?_
 ·refine a0m (fun x:Nat×Option Cp=>St.of [(1,.fn (.func 83) [.ptr 0 0,.ptr 1 0]),(11,a0p 0 l),(12,i64 l.length),(13,i64 x.1)] [(0,.box [bl x.2.isSome]),(1,.box [i64 (cpO x.2).id,.own 100 0 (cpO x.2).rds.length 5]),(100,.arr 148 5 ((cpO x.2).rds.map rdE))]) (fun x=>x.1≤l.length∧a4r none (l.take x.1)=some x.2) (fun x=>l.length - x.1) (0,none) ⟨by simp,by simp [a4r]⟩ (a1g [(0,some 0),(1,some 1),(100,none)] (by (simp only [e0,e1,Option.isSome_none,List.map_nil,List.length_nil,go_sem])<;>simp [e0,e1,Option.isSome_none,List.map_nil,List.length_nil]) (by (simp only [e0,e1,Option.isSome_none,List.map_nil,List.length_nil,go_sem,a1k,a0r,a0i,a1p])<;>simp [e0,e1,Option.isSome_none,List.map_nil,List.length_nil]) (by simp [a2p,apart]) (by simp [a0k,usH]) (by simp [hNm,lkR,a0x])) ?_
  rintro ⟨k,s⟩ ⟨hk,hrd⟩
  simp only at hk hrd
  have hbd:=c3y hk hrd
  refine a0d _ _ _ ?_;simp only [go_sem,hG,hOw]
  (repeat' with_reducible first|refine And.intro ?_ ?_|intro _|refine exP ?_ ?_);all_goals try omega
  ·rename_i hlt
   have hkl:k < l.length:=by omega
   have hsz:=hl2 _ (List.getElem_mem hkl)
   refine a0a (c9j l[k] (by omega)) ?_
   obtain ⟨name,rest,hp⟩:∃ name rest,a1n l[k]=name::rest:=by
    cases hq:a1n l[k] with
    |nil=>exact (c1o _ hq).elim
    |cons a b=>exact ⟨a,b,rfl⟩
   have hps:∀ s ∈ rest,s.size≤100000:=fun s hs=>by have:=c7u l[k] s (by rw [hp];simp [hs]);omega
   rw [hp]
   simp only [go_sem,hG,hOw]
   (repeat' with_reducible first|refine And.intro ?_ ?_|intro _|refine exP ?_ ?_);all_goals try omega
   refine a0c [(0,20)] [] (b0p G.lo name rest) ?_
   simp only [go_sem,hG,hOw]
   (repeat' with_reducible first|refine And.intro ?_ ?_|intro _|refine exP ?_ ?_);all_goals try omega
   cases hst:b0d s name rest with
   |none =>
    have hno:a4r none l=none:=c4k hkl hrd (by unfold stepG;rw [hp];simp only [hst])
    rw [hno]
    refine a0c [(0,0),(1,20),(2,1),(3,100)] [] (f0k G.lo s name rest (fun _=>trivial) hst hps) ?_
    simp only [go_sem,hG,hOw]
    exact ⟨rfl,(a3x [])⟩
   |some q =>
    obtain ⟨c',r'⟩:=q
    refine a0c [(0,0),(1,20),(2,1),(3,100)] [(4,204)] (f7v G.lo s c' name rest r' hst hps (by omega)) ?_
    simp only [go_sem,hG,hOw]
    (repeat' with_reducible first|refine And.intro ?_ ?_|intro _|refine exP ?_ ?_);all_goals try omega
    ·rename_i hr0
     have hr0:r'=[]:=List.eq_nil_of_length_eq_zero (by omega)
     subst hr0
     have hsF:stepG s l[k]=some c':=by unfold stepG;rw [hp];simp only [hst]
     have f1:cpO (some c')=c':=rfl
     exact ⟨(k+1,some c'),⟨by show k+1≤_;omega,by rw [b2f l k hkl,hrd];simp [hsF]⟩,by show l.length - (k+1) < _;omega,a1g [(0,some 0),(1,some 1),(100,some 204)] (by (simp only [f1,Option.isSome_some,go_sem])<;>simp [f1,Option.isSome_some]) (by (simp only [f1,Option.isSome_some,go_sem,a1k,a0r,a0i,a1p])<;>simp [f1,Option.isSome_some]) (by simp [a2p,apart]) (by simp [a0k,usH]) (by simp [hNm,lkR,a0x])⟩
    ·rename_i hr0
     have hno:a4r none l=none:=c4k hkl hrd (by
      unfold stepG;rw [hp];simp only [hst]
      cases r' with
      |nil=>exact (hr0 rfl).elim
      |cons a b=>rfl)
     rw [hno]
     refine d0b [.int .i64 111] rfl rfl (by kernel_rfl) (by simp [chk,hG]) ?_
     simp only [go_sem,hG,hOw]
     (repeat' with_reducible first|refine And.intro ?_ ?_|intro _|refine exP ?_ ?_);all_goals try omega
     refine b8x rfl rfl ?_
     exact ⟨rfl,(a3x [])⟩
  ·rename_i hge
   obtain rfl:k=l.length:=by omega
   rw [List.take_length] at hrd
   refine ⟨s,hrd,b5q (fun i=>i == 100) ?_⟩
   have hN:Pm.Sub (.lst G.lo 5 ((cpO s).rds.map rdE)) (.lst 0 5 ((cpO s).rds.map rdE)):=Sub.lo (Nat.zero_le _)
   have hT:List.take (cpO s).rds.length ((cpO s).rds.map rdE)=(cpO s).rds.map rdE:=List.take_of_length_le (by simp)
   exact a1g [(0,some 0),(1,some 1)] (by (simp only [hT,hN,go_sem])<;>simp [hT,hN]) (by (simp only [hT,hN,go_sem,a1k,a0r,a0i,a1p])<;>simp [hT,hN]) (by simp [a2p,apart]) (by simp [a0k,usH]) (by simp [hNm,lkR,a0x])
 ·rintro s hs
  rw [hs]
  simp only [go_sem,hG,hOw]
  (repeat' with_reducible first|refine And.intro ?_ ?_|intro _|refine exP ?_ ?_);all_goals try omega
  exact (a3x [(0,some 0),(1,some 1)])
open Go Pm Go.RowKit Go.Sort
set_option maxHeartbeats 4000000
set_option maxRecDepth 100000
theorem d3r (l:List ByteArray) (c:Cp) (h:a1a l=true) (hr:a4r none l=some (some c)):Tri Tryz.prog 82 [.ptr 0 0,.ptr 1 0,.ptr 2 0] [(0,.box [i64 0]),(1,.box [a0p 0 l]),(2,.box [i64 0,.v (.slice none 0 0)])]
  (fun _=>.ret (.tup []) [(0,.box [i64 0]),(1,.box [a0p 0 l]),(2,.box (cpC 0 c))]):=by
 have hU:=b5j l h
 simp only [hr] at hU
 refine b1t (fun _=>false) (told:=72) (p:=0) (x:=.int .i64 0) wrV (fun _=>True) Tryz.func82 Tryz.ntmps82 rfl (by kernel_rfl) (by simp) rfl rfl rfl rfl rfl (by simp [a0x]) b6b (fun k _=>b4i k) fun G hG hOw hNm _=>?_
 simp only [go_sem,hG,hOw]
 (repeat' with_reducible first|refine And.intro ?_ ?_|intro _|refine exP ?_ ?_);all_goals try omega
 refine a0c [(0,3),(1,2)] [] (hU) ?_
 simp only [go_sem,hG,hOw]
 (repeat' with_reducible first|refine And.intro ?_ ?_|intro _|refine exP ?_ ?_);all_goals try omega
 refine a0c [] [] (a1r 111) ?_
 simp (maxSteps:=2000000) only [go_sem,hG,hOw,f0r,f2n]
 (repeat' with_reducible first|refine And.intro ?_ ?_|intro _|refine exP ?_ ?_);all_goals try omega
 have f1:cpO (some c)=c:=rfl
 exact ⟨[(0,some 0),(1,some 1),(2,some 2)],by (simp only [b6w,go_sem,a1k,a0r,a0i,a1p,apart,a2p,a0k])<;>simp [f1]⟩
theorem c3a (l:List ByteArray) (h:a1a l=true) (hr:a4r none l=some none):Tri Tryz.prog 82 [.ptr 0 0,.ptr 1 0,.ptr 2 0] [(0,.box [i64 0]),(1,.box [a0p 0 l]),(2,.box [i64 0,.v (.slice none 0 0)])]
  (fun _=>.ret (.tup []) [(0,.box [i64 111]),(1,.box [a0p 0 l])]):=by
 have hU:=b5j l h
 simp only [hr] at hU
 refine b1t (fun _=>false) (told:=72) (p:=0) (x:=.int .i64 0) wrV (fun _=>True) Tryz.func82 Tryz.ntmps82 rfl (by kernel_rfl) (by simp) rfl rfl rfl rfl rfl (by simp [a0x]) b6b (fun k _=>b4i k) fun G hG hOw hNm _=>?_
 simp only [go_sem,hG,hOw]
 (repeat' with_reducible first|refine And.intro ?_ ?_|intro _|refine exP ?_ ?_);all_goals try omega
 refine a0c [(0,3),(1,2)] [] (hU) ?_
 simp only [go_sem,hG,hOw]
 (repeat' with_reducible first|refine And.intro ?_ ?_|intro _|refine exP ?_ ?_);all_goals try omega
 refine a0c [] [] (a6v 111) ?_
 simp (maxSteps:=2000000) only [go_sem,hG,hOw,e2o]
 (repeat' with_reducible first|refine And.intro ?_ ?_|intro _|refine exP ?_ ?_);all_goals try omega
 exact ⟨111,rfl,(a3x [(0,some 0),(1,some 1)])⟩
theorem b5z (l:List ByteArray) (k:Int) (h:a1a l=false∧k=110∨a1a l=true∧a4r none l=none∧k=111):Tri Tryz.prog 82 [.ptr 0 0,.ptr 1 0,.ptr 2 0] [(0,.box [i64 0]),(1,.box [a0p 0 l]),(2,.box [i64 0,.v (.slice none 0 0)])]
  (fun _=>.ret (.tup []) [(0,.box [i64 k]),(1,.box [a0p 0 l])]):=by
 have hU:Tri Tryz.prog 73 [a0p 0 l,.fn (.func 83) [.ptr 0 0,.ptr 1 0]] [(0,.box [bl false]),(1,.box [i64 0,.v (.slice none 0 0)])] (fun _=>.pan (wrV k) []):=by
  rcases h with ⟨h1,rfl⟩|⟨h1,h2,rfl⟩
  ·exact d2c l h1
  ·have:=b5j l h1
   simp only [h2] at this
   exact this
 refine b1t (fun _=>false) (told:=72) (p:=0) (x:=.int .i64 0) wrV (fun _=>True) Tryz.func82 Tryz.ntmps82 rfl (by kernel_rfl) (by simp) rfl rfl rfl rfl rfl (by simp [a0x]) b6b (fun k _=>b4i k) fun G hG hOw hNm _=>?_
 simp only [go_sem,hG,hOw]
 (repeat' with_reducible first|refine And.intro ?_ ?_|intro _|refine exP ?_ ?_);all_goals try omega
 refine a0c [(0,3),(1,2)] [] (hU) ?_
 simp (maxSteps:=2000000) only [go_sem,hG,hOw,e2o]
 (repeat' with_reducible first|refine And.intro ?_ ?_|intro _|refine exP ?_ ?_);all_goals try omega
 refine ⟨k,trivial,rfl,by simp [go_sem],?_⟩
 simp only [go_sem,hG,hOw]
 exact (a3x [(0,some 0),(1,some 1)])
def d5j:Cp:=⟨0,[]⟩
def a5x (t:List Ch) (l:List ByteArray):Cp×Int:=if a1l t then (if a1a l then (match a4r none l with
  |some (some c)=>if a5q t c=0 then (c,0) else (d5j,a5q t c)
  |_=>(d5j,111)) else (d5j,110)) else (d5j,10)
theorem b9y (k:Int):Pm.Sub (.tup [.agg [i64 0,.v (.slice none 0 0)],i64 k]) (.tup [cpE 0 d5j,i64 k]):=Subs.tup (.cons (Subs.agg (.cons (.refl _) (.cons (.nil _ _) .nil))) (.cons (.refl _) .nil))
theorem d7e (t:List Ch) (l:List ByteArray):a0n Tryz.prog 21 [txE 0 t,a0p 0 l] (fun _=>.tup [cpE 0 (a5x t l).1,i64 (a5x t l).2]):=by
 cases ht:a1l t with
 |false =>
  have e:a5x t l=(d5j,10):=by simp [a5x,ht]
  rw [e]
  refine a0b (ow:=fun _=>false) Tryz.func21 Tryz.ntmps21 rfl rfl fun G hG hOw hNm hB=>?_;simp only [go_sem,hG,hOw]
  refine a0a (a4g t) ?_
  simp (maxSteps:=2000000) only [go_sem,hG,hOw,ht]
  (repeat' with_reducible first|refine And.intro ?_ ?_|intro _|refine exP ?_ ?_);all_goals try omega
  exact b9y 10
 |true =>
  by_cases hgood:a1a l=true∧∃ c,a4r none l=some (some c)
  ·obtain ⟨h1,c,h2⟩:=hgood
   have e:a5x t l=if a5q t c=0 then (c,0) else (d5j,a5q t c):=by unfold a5x;simp only [ht,h1,h2,if_true]
   rw [e]
   refine a0b (ow:=fun _=>false) Tryz.func21 Tryz.ntmps21 rfl rfl fun G hG hOw hNm hB=>?_;simp only [go_sem,hG,hOw]
   refine a0a (a4g t) ?_
   simp (maxSteps:=2000000) only [go_sem,hG,hOw,ht]
   (repeat' with_reducible first|refine And.intro ?_ ?_|intro _|refine exP ?_ ?_);all_goals try omega
   refine a0c [(0,8),(1,3),(2,7)] [] (d3r l c h1 h2) ?_
   simp only [go_sem,hG,hOw]
   (repeat' with_reducible first|refine And.intro ?_ ?_|intro _|refine exP ?_ ?_);all_goals try omega
   refine a0a (b2q t c) ?_
   by_cases hc:a5q t c=0
   ·rw [if_pos hc]
    simp (maxSteps:=2000000) only [go_sem,hG,hOw,hc]
    (repeat' with_reducible first|refine And.intro ?_ ?_|intro _|refine exP ?_ ?_);all_goals try omega
   ·rw [if_neg hc]
    simp (maxSteps:=2000000) only [go_sem,hG,hOw,hc]
    (repeat' with_reducible first|refine And.intro ?_ ?_|intro _|refine exP ?_ ?_);all_goals try omega
    refine a3c ⟨[4,8],[],[]⟩ [(0,false),(1,false),(2,false),(3,false)] mixed (by kernel_rfl) ?_
    simp only [a4f,List.getElem?_cons_zero,List.getElem?_cons_succ]
    simp only [go_sem,hG,hOw]
    (repeat' with_reducible first|refine And.intro ?_ ?_|intro _|refine exP ?_ ?_);all_goals try omega
    exact b9y _
  ·obtain ⟨k,hk,e,hT⟩:∃ k:Int,k≠0∧a5x t l=(d5j,k)∧Tri Tryz.prog 82 [.ptr 0 0,.ptr 1 0,.ptr 2 0] [(0,.box [i64 0]),(1,.box [a0p 0 l]),(2,.box [i64 0,.v (.slice none 0 0)])] (fun _=>.ret (.tup []) [(0,.box [i64 k]),(1,.box [a0p 0 l])]):=by
    cases h1:a1a l with
    |false=>exact ⟨110,by decide,by simp [a5x,ht,h1],b5z l 110 (.inl ⟨h1,rfl⟩)⟩
    |true =>
     cases h2:a4r none l with
     |none=>exact ⟨111,by decide,by simp [a5x,ht,h1,h2],b5z l 111 (.inr ⟨h1,h2,rfl⟩)⟩
     |some s =>
      cases s with
      |none=>exact ⟨111,by decide,by simp [a5x,ht,h1,h2],c3a l h1 h2⟩
      |some c=>exact (hgood ⟨h1,c,h2⟩).elim
   rw [e]
   refine a0b (ow:=fun _=>false) Tryz.func21 Tryz.ntmps21 rfl rfl fun G hG hOw hNm hB=>?_;simp only [go_sem,hG,hOw]
   refine a0a (a4g t) ?_
   simp (maxSteps:=2000000) only [go_sem,hG,hOw,ht]
   (repeat' with_reducible first|refine And.intro ?_ ?_|intro _|refine exP ?_ ?_);all_goals try omega
   refine a0c [(0,8),(1,3),(2,7)] [] (hT) ?_
   simp (maxSteps:=2000000) only [go_sem,hG,hOw,hk]
   (repeat' with_reducible first|refine And.intro ?_ ?_|intro _|refine exP ?_ ?_);all_goals try omega
   refine a3c ⟨[4,8],[],[]⟩ [(0,false),(1,false),(2,false),(3,false)] mixed (by kernel_rfl) ?_
   simp only [a4f,List.getElem?_cons_zero,List.getElem?_cons_succ]
   simp only [go_sem,hG,hOw]
   (repeat' with_reducible first|refine And.intro ?_ ?_|intro _|refine exP ?_ ?_);all_goals try omega
   exact b9y k
end Go.Proofs.YtmjhfccbbfpppaaGreatDoor
