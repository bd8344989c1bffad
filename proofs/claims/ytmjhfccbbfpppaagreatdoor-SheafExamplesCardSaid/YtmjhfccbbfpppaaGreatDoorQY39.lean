import Derived.Test.YtmjhfccbbfpppaaGreatDoorQY29
import Derived.Test.YtmjhfccbbfpppaaGreatDoorQY37
namespace Go.Proofs.YtmjhfccbbfpppaaGreatDoor
open Go Pm
set_option linter.unusedSimpArgs false
set_option linter.unusedVariables false
set_option maxHeartbeats 4000000
set_option maxRecDepth 100000
theorem a5p (l:List ByteArray) (x:ByteArray):a0o Tryz.prog 84 [a0e 0 l,str x] (fun _=>i64 (a4a (fun s=>decide (x=s)) l)):=by
 refine a0c (ow:=fun _=>false) Tryz.func84 Tryz.ntmps84 rfl rfl fun G hG hOw hNm hB=>?_;simp only [go_sem,hG,hOw]
 have hl:l.length≤140737488355328:=by
  have:=c0e hB (lo:=0) (sz:=1) (l:=l.map a2h) (List.mem_cons_self ..)
  simpa using this
 refine a0r (fun i:Nat=>St.of [(0,a0e 0 l),(1,str x),(7,i64 l.length),(8,i64 i)] []) (fun i=>i≤l.length∧(l.take i).all (fun s=>!decide (x=s))=true) (fun i=>l.length - i) 0 (by simp) (a1j (by (simp only [go_sem])<;>simp) hNm) ?_
 rintro i ⟨hi,hall⟩
 refine a0l _ _ _ ?_;simp only [go_sem,hG,hOw]
 (repeat' with_reducible first|refine And.intro ?_ ?_|intro _|refine exP ?_ ?_);all_goals try omega
 ·rename_i hlt h
  have hil:i < l.length:=by omega
  exact (a8u hil hall (by simpa using h)).symm
 ·rename_i hlt h
  have hil:i < l.length:=by omega
  exact ⟨i+1,⟨by omega,a1k hil hall (by simpa using h)⟩,by omega,a1j (by (simp only [go_sem])<;>simp) hNm⟩
 ·rename_i hge
  rw [a2x hi hge] at hall
  exact (a7o hall).symm
def kdN (s:ByteArray):Nat:=if s=a3e then 1 else if s=a6i then 2 else if s=a1v then 3 else 0
theorem e5p (x:ByteArray):a4a (fun s=>decide (x=s)) [⟨#[]⟩,a3e,a6i,a1v]=if x=⟨#[]⟩ then 0 else if kdN x=0 then -1 else (kdN x:Int):=by
 by_cases h0:x=⟨#[]⟩
 ·rw [if_pos h0];simp [a4a,List.findIdx?_cons,h0]
 ·rw [if_neg h0]
  unfold kdN
  by_cases h1:x=a3e
  ·simp [a4a,List.findIdx?_cons,h0,h1]
   decide
  ·by_cases h2:x=a6i
   ·subst h2
    simp [a4a,List.findIdx?_cons]
    decide
   ·by_cases h3:x=a1v
    ·subst h3
     simp [a4a,List.findIdx?_cons]
     decide
    ·simp [a4a,List.findIdx?_cons,h0,h1,h2,h3]
def b3s (s:Option Cp) (name:ByteArray) (rest:List ByteArray):Option (Cp×List ByteArray):=match s with
 |none=>if name=a7v then match rest with
   |x::r=>(a3z x).map fun v=>(⟨v,[]⟩,r)
   |[]=>none
  else none
 |some c=>if name=a7v then none else if kdN name=0 then none else if a2q rest then
   (if kdN name=1 then some (⟨c.id,c.rds++[⟨nvS rest 0,nvS rest 1,nvS rest 2,1,⟨#[]⟩⟩]⟩,rest.drop 3) else match rest.drop 3 with
    |w::r=>if a1p w then some (⟨c.id,c.rds++[⟨nvS rest 0,nvS rest 1,nvS rest 2,UInt8.ofNat (kdN name),w⟩]⟩,r) else none
    |[]=>none)
   else none
def stepG (s:Option Cp) (x:ByteArray):Option Cp:=match a2e x with
 |[]=>none
 |name::rest=>match b3s s name rest with
  |some (c,[])=>some c
  |_=>none
def a6l (s:Option Cp):List ByteArray→Option (Option Cp)
 |[]=>some s
 |x::l=>(stepG s x).bind fun c=>a6l (some c) l
theorem d2z (lo:Nat) (x:ByteArray) (r:List ByteArray) (v:Int) (hx:x.size≤100000) (hv:a3z x=some v) :
  Tri Tryz.prog 83 [str a7v,.ptr 1 0,.ptr 0 0,.ptr 2 0] [(0,.box [bl false]),(1,.box [a0e lo (x::r)]),(2,.box [i64 0,.own 3 0 0 5]),(3,.arr 148 5 [])]
   (fun _=>.ret (.tup []) [(0,.box [bl true]),(1,.box [a0e lo r]),(2,.box [i64 v,.own 4 0 0 5]),(4,.arr 148 5 [])]):=by
 have hcs:decide (a7v=⟨#[99,111,112,121]⟩)=true:=rfl
 refine a0d (fun _=>false) Tryz.func83 Tryz.ntmps83 rfl rfl fun G hG hOw hNm=>?_;simp only [go_sem,hG,hOw]
 (repeat' with_reducible first|refine And.intro ?_ ?_|intro _|refine exP ?_ ?_);all_goals try omega
 refine a0b [] [] (a0s 111) ?_ (by (simp only [go_sem])<;>simp [hcs]) (by (simp only [go_sem,a1g,a0q,a0f,a1m])<;>simp [hcs]) (by simp [a0h,usH,toR,hcs])
 simp only [go_sem,hG,hOw]
 (repeat' with_reducible first|refine And.intro ?_ ?_|intro _|refine exP ?_ ?_);all_goals try omega
 refine a0b [(0,1)] [] (a8h lo x r v hx hv) ?_
 simp only [go_sem,hG,hOw]
 (repeat' with_reducible first|refine And.intro ?_ ?_|intro _|refine exP ?_ ?_);all_goals try omega
 exact (a1x [(0,some 0),(1,some 1),(2,some 2),(4,some 3)])
theorem b8c (lo:Nat) (l:List ByteArray) (hl:∀ s ∈ l,s.size≤100000) (h:∀ s r,l=s::r→a3z s=none) :
  Tri Tryz.prog 83 [str a7v,.ptr 1 0,.ptr 0 0,.ptr 2 0] [(0,.box [bl false]),(1,.box [a0e lo l]),(2,.box [i64 0,.own 3 0 0 5]),(3,.arr 148 5 [])]
   (fun _=>.pan (wrV 111) []):=by
 have hcs:decide (a7v=⟨#[99,111,112,121]⟩)=true:=rfl
 refine a0d (fun _=>false) Tryz.func83 Tryz.ntmps83 rfl rfl fun G hG hOw hNm=>?_;simp only [go_sem,hG,hOw]
 (repeat' with_reducible first|refine And.intro ?_ ?_|intro _|refine exP ?_ ?_);all_goals try omega
 refine a0b [] [] (a0s 111) ?_ (by (simp only [go_sem])<;>simp [hcs]) (by (simp only [go_sem,a1g,a0q,a0f,a1m])<;>simp [hcs]) (by simp [a0h,usH,toR,hcs])
 simp only [go_sem,hG,hOw]
 (repeat' with_reducible first|refine And.intro ?_ ?_|intro _|refine exP ?_ ?_);all_goals try omega
 refine a0b [(0,1)] [] (b3r lo l hl h) ?_
 simp only [go_sem,hG,hOw]
 exact ⟨rfl,(a1x [])⟩
theorem b9q (lo:Nat) (b:Bool) (name:ByteArray) (id:Int) (rs:List Rd) (l:List ByteArray) (h:decide (name=a7v)=b) :
  Tri Tryz.prog 83 [str name,.ptr 1 0,.ptr 0 0,.ptr 2 0] [(0,.box [bl b]),(1,.box [a0e lo l]),(2,.box [i64 id,.own 3 0 rs.length 5]),(3,.arr 148 5 (rs.map rdE))]
   (fun _=>.pan (wrV 111) []):=by
 have hcs:decide (name=⟨#[99,111,112,121]⟩)=b:=h
 refine a0d (fun _=>false) Tryz.func83 Tryz.ntmps83 rfl rfl fun G hG hOw hNm=>?_;simp only [go_sem,hG,hOw]
 (repeat' with_reducible first|refine And.intro ?_ ?_|intro _|refine exP ?_ ?_);all_goals try omega
 refine a0b [] [] (a3v 111) ?_ (by (simp only [go_sem])<;>simp [hcs]) (by (simp only [go_sem,a1g,a0q,a0f,a1m])<;>simp [hcs]) (by simp [a0h,usH,toR,hcs])
 simp only [go_sem,hG,hOw]
 exact ⟨rfl,(a1x [])⟩
theorem d8c (lo:Nat) (name:ByteArray) (id:Int) (rs:List Rd) (l:List ByteArray) (hn:¬ name=a7v) (hk:kdN name=0) :
  Tri Tryz.prog 83 [str name,.ptr 1 0,.ptr 0 0,.ptr 2 0] [(0,.box [bl true]),(1,.box [a0e lo l]),(2,.box [i64 id,.own 3 0 rs.length 5]),(3,.arr 148 5 (rs.map rdE))]
   (fun _=>.pan (wrV 111) []):=by
 have hcs:decide (name=⟨#[99,111,112,121]⟩)=false:=decide_eq_false hn
 have hI:=e5p name
 have hI2:decide (0 < a4a (fun s=>decide (name=s)) [⟨#[]⟩,a3e,a6i,a1v])=false:=by
  rw [hI,hk]
  split<;>rfl
 refine a0d (fun _=>false) Tryz.func83 Tryz.ntmps83 rfl rfl fun G hG hOw hNm=>?_;simp only [go_sem,hG,hOw]
 (repeat' with_reducible first|refine And.intro ?_ ?_|intro _|refine exP ?_ ?_);all_goals try omega
 refine a0b [] [] (a0s 111) ?_ (by (simp only [go_sem])<;>simp [hcs]) (by (simp only [go_sem,a1g,a0q,a0f,a1m])<;>simp [hcs]) (by simp [a0h,usH,toR,hcs])
 simp only [go_sem,hG,hOw]
 (repeat' with_reducible first|refine And.intro ?_ ?_|intro _|refine exP ?_ ?_);all_goals try omega
 refine a0a (a5p [⟨#[]⟩,a3e,a6i,a1v] name) ?_
 simp (maxSteps:=2000000) only [go_sem,hG,hOw,hI2]
 (repeat' with_reducible first|refine And.intro ?_ ?_|intro _|refine exP ?_ ?_);all_goals try omega
 refine a0b [] [] (a3v 111) ?_ (by (simp only [go_sem])<;>simp [hI2]) (by (simp only [go_sem,a1g,a0q,a0f,a1m])<;>simp [hI2]) (by simp [a0h,usH,toR,hI2])
 simp only [go_sem,hG,hOw]
 exact ⟨rfl,(a1x [])⟩
open Go Pm
set_option maxHeartbeats 4000000
set_option maxRecDepth 100000
theorem d9b (lo:Nat) (id:Int) (rs:List Rd) (l:List ByteArray) (hl:∀ s ∈ l,s.size≤100000) (hp:a2q l=false) :
  Tri Tryz.prog 83 [str a3e,.ptr 1 0,.ptr 0 0,.ptr 2 0] [(0,.box [bl true]),(1,.box [a0e lo l]),(2,.box [i64 id,.own 3 0 rs.length 5]),(3,.arr 148 5 (rs.map rdE))] (fun _=>.pan (wrV 111) []):=by
 have hP:=a2k lo l hl
 simp only [hp] at hP
 have hcs:decide (a3e=⟨#[99,111,112,121]⟩)=false:=by decide
 have hI:a4a (fun s=>decide (a3e=s)) [⟨#[]⟩,a3e,a6i,a1v]=1:=by decide
 refine a0d (fun _=>false) Tryz.func83 Tryz.ntmps83 rfl rfl fun G hG hOw hNm=>?_;simp only [go_sem,hG,hOw]
 (repeat' with_reducible first|refine And.intro ?_ ?_|intro _|refine exP ?_ ?_);all_goals try omega
 refine a0b [] [] (a0s 111) ?_ (by (simp only [go_sem])<;>simp [hcs]) (by (simp only [go_sem,a1g,a0q,a0f,a1m])<;>simp [hcs]) (by simp [a0h,usH,toR,hcs])
 simp only [go_sem,hG,hOw]
 (repeat' with_reducible first|refine And.intro ?_ ?_|intro _|refine exP ?_ ?_);all_goals try omega
 refine a0a (a5p [⟨#[]⟩,a3e,a6i,a1v] a3e) ?_
 rw [hI]
 simp only [go_sem,hG,hOw]
 (repeat' with_reducible first|refine And.intro ?_ ?_|intro _|refine exP ?_ ?_);all_goals try omega
 refine a0b [] [] (a0s 111) ?_
 simp only [go_sem,hG,hOw]
 (repeat' with_reducible first|refine And.intro ?_ ?_|intro _|refine exP ?_ ?_);all_goals try omega
 refine a0b [(0,1)] [] (hP) ?_
 simp only [go_sem,hG,hOw]
 exact ⟨rfl,(a1x [])⟩
theorem e8p (lo:Nat) (id:Int) (rs:List Rd) (l:List ByteArray) (hl:∀ s ∈ l,s.size≤100000) (hp:a2q l=true) (hn:rs.length≤1000) :
  Tri Tryz.prog 83 [str a3e,.ptr 1 0,.ptr 0 0,.ptr 2 0] [(0,.box [bl true]),(1,.box [a0e lo l]),(2,.box [i64 id,.own 3 0 rs.length 5]),(3,.arr 148 5 (rs.map rdE))] (fun _=>.ret (.tup []) [(0,.box [bl true]),(1,.box [a0e lo (l.drop 3)]),(2,.box [i64 id,.own 4 0 (rs.length+1) 5]),(4,.arr 148 5 ((rs++[(⟨nvS l 0,nvS l 1,nvS l 2,1,⟨#[]⟩⟩:Rd)]).map rdE))]):=by
 have hP:=a2k lo l hl
 simp only [hp] at hP
 have hq:(rs++[(⟨nvS l 0,nvS l 1,nvS l 2,1,⟨#[]⟩⟩:Rd)]).map rdE=rs.map rdE++[[V.v (Value.int IntKind.i64 (nvS l 0)),V.v (Value.int IntKind.i64 (nvS l 1)),V.v (Value.int IntKind.i64 (nvS l 2)),V.v (Value.int IntKind.u8 (IntKind.u8.wrap 1)),V.v (Value.string ByteArray.empty)]]:=by
  rw [List.map_append];rfl
 rw [hq]
 have hcs:decide (a3e=⟨#[99,111,112,121]⟩)=false:=by decide
 have hI:a4a (fun s=>decide (a3e=s)) [⟨#[]⟩,a3e,a6i,a1v]=1:=by decide
 refine a0d (fun _=>false) Tryz.func83 Tryz.ntmps83 rfl rfl fun G hG hOw hNm=>?_;simp only [go_sem,hG,hOw]
 (repeat' with_reducible first|refine And.intro ?_ ?_|intro _|refine exP ?_ ?_);all_goals try omega
 refine a0b [] [] (a0s 111) ?_ (by (simp only [go_sem])<;>simp [hcs]) (by (simp only [go_sem,a1g,a0q,a0f,a1m])<;>simp [hcs]) (by simp [a0h,usH,toR,hcs])
 simp only [go_sem,hG,hOw]
 (repeat' with_reducible first|refine And.intro ?_ ?_|intro _|refine exP ?_ ?_);all_goals try omega
 refine a0a (a5p [⟨#[]⟩,a3e,a6i,a1v] a3e) ?_
 rw [hI]
 simp only [go_sem,hG,hOw]
 (repeat' with_reducible first|refine And.intro ?_ ?_|intro _|refine exP ?_ ?_);all_goals try omega
 refine a0b [] [] (a0s 111) ?_
 simp only [go_sem,hG,hOw]
 (repeat' with_reducible first|refine And.intro ?_ ?_|intro _|refine exP ?_ ?_);all_goals try omega
 refine a0b [(0,1)] [] (hP) ?_
 simp only [go_sem,hG,hOw]
 (repeat' with_reducible first|refine And.intro ?_ ?_|intro _|refine exP ?_ ?_);all_goals try omega
 exact (a1x [(0,some 0),(1,some 1),(2,some 2),(4,some 38)])
theorem d5v (lo:Nat) (id:Int) (rs:List Rd) (l:List ByteArray) (hl:∀ s ∈ l,s.size≤100000) (hp:a2q l=false) :
  Tri Tryz.prog 83 [str a6i,.ptr 1 0,.ptr 0 0,.ptr 2 0] [(0,.box [bl true]),(1,.box [a0e lo l]),(2,.box [i64 id,.own 3 0 rs.length 5]),(3,.arr 148 5 (rs.map rdE))] (fun _=>.pan (wrV 111) []):=by
 have hP:=a2k lo l hl
 simp only [hp] at hP
 have hcs:decide (a6i=⟨#[99,111,112,121]⟩)=false:=by decide
 have hI:a4a (fun s=>decide (a6i=s)) [⟨#[]⟩,a3e,a6i,a1v]=2:=by decide
 refine a0d (fun _=>false) Tryz.func83 Tryz.ntmps83 rfl rfl fun G hG hOw hNm=>?_;simp only [go_sem,hG,hOw]
 (repeat' with_reducible first|refine And.intro ?_ ?_|intro _|refine exP ?_ ?_);all_goals try omega
 refine a0b [] [] (a0s 111) ?_ (by (simp only [go_sem])<;>simp [hcs]) (by (simp only [go_sem,a1g,a0q,a0f,a1m])<;>simp [hcs]) (by simp [a0h,usH,toR,hcs])
 simp only [go_sem,hG,hOw]
 (repeat' with_reducible first|refine And.intro ?_ ?_|intro _|refine exP ?_ ?_);all_goals try omega
 refine a0a (a5p [⟨#[]⟩,a3e,a6i,a1v] a6i) ?_
 rw [hI]
 simp only [go_sem,hG,hOw]
 (repeat' with_reducible first|refine And.intro ?_ ?_|intro _|refine exP ?_ ?_);all_goals try omega
 refine a0b [] [] (a0s 111) ?_
 simp only [go_sem,hG,hOw]
 (repeat' with_reducible first|refine And.intro ?_ ?_|intro _|refine exP ?_ ?_);all_goals try omega
 refine a0b [(0,1)] [] (hP) ?_
 simp only [go_sem,hG,hOw]
 exact ⟨rfl,(a1x [])⟩
theorem e4k (lo:Nat) (id:Int) (rs:List Rd) (l:List ByteArray) (hl:∀ s ∈ l,s.size≤100000) (hp:a2q l=true) (hn:rs.length≤1000) (w:ByteArray) (r:List ByteArray) (hd:l.drop 3=w::r) (hw:a1p w=true) :
  Tri Tryz.prog 83 [str a6i,.ptr 1 0,.ptr 0 0,.ptr 2 0] [(0,.box [bl true]),(1,.box [a0e lo l]),(2,.box [i64 id,.own 3 0 rs.length 5]),(3,.arr 148 5 (rs.map rdE))] (fun _=>.ret (.tup []) [(0,.box [bl true]),(1,.box [a0e lo r]),(2,.box [i64 id,.own 4 0 (rs.length+1) 5]),(4,.arr 148 5 ((rs++[(⟨nvS l 0,nvS l 1,nvS l 2,2,w⟩:Rd)]).map rdE))]):=by
 have hP:=a2k lo l hl
 simp only [hp,hd] at hP
 have hq:(rs++[(⟨nvS l 0,nvS l 1,nvS l 2,2,w⟩:Rd)]).map rdE=rs.map rdE++[[V.v (Value.int IntKind.i64 (nvS l 0)),V.v (Value.int IntKind.i64 (nvS l 1)),V.v (Value.int IntKind.i64 (nvS l 2)),V.v (Value.int IntKind.u8 (IntKind.u8.wrap 2)),V.v (Value.string w)]]:=by
  rw [List.map_append];rfl
 rw [hq]
 have hcs:decide (a6i=⟨#[99,111,112,121]⟩)=false:=by decide
 have hI:a4a (fun s=>decide (a6i=s)) [⟨#[]⟩,a3e,a6i,a1v]=2:=by decide
 refine a0d (fun _=>false) Tryz.func83 Tryz.ntmps83 rfl rfl fun G hG hOw hNm=>?_;simp only [go_sem,hG,hOw]
 (repeat' with_reducible first|refine And.intro ?_ ?_|intro _|refine exP ?_ ?_);all_goals try omega
 refine a0b [] [] (a0s 111) ?_ (by (simp only [go_sem])<;>simp [hcs]) (by (simp only [go_sem,a1g,a0q,a0f,a1m])<;>simp [hcs]) (by simp [a0h,usH,toR,hcs])
 simp only [go_sem,hG,hOw]
 (repeat' with_reducible first|refine And.intro ?_ ?_|intro _|refine exP ?_ ?_);all_goals try omega
 refine a0a (a5p [⟨#[]⟩,a3e,a6i,a1v] a6i) ?_
 rw [hI]
 simp only [go_sem,hG,hOw]
 (repeat' with_reducible first|refine And.intro ?_ ?_|intro _|refine exP ?_ ?_);all_goals try omega
 refine a0b [] [] (a0s 111) ?_
 simp only [go_sem,hG,hOw]
 (repeat' with_reducible first|refine And.intro ?_ ?_|intro _|refine exP ?_ ?_);all_goals try omega
 refine a0b [(0,1)] [] (hP) ?_
 simp only [go_sem,hG,hOw]
 (repeat' with_reducible first|refine And.intro ?_ ?_|intro _|refine exP ?_ ?_);all_goals try omega
 refine a0b [(0,1)] [] (a6s lo w r hw) ?_
 simp only [go_sem,hG,hOw]
 (repeat' with_reducible first|refine And.intro ?_ ?_|intro _|refine exP ?_ ?_);all_goals try omega
 exact (a1x [(0,some 0),(1,some 1),(2,some 2),(4,some 38)])
theorem e1l (lo:Nat) (id:Int) (rs:List Rd) (l:List ByteArray) (hl:∀ s ∈ l,s.size≤100000) (hp:a2q l=true) (w:ByteArray) (r:List ByteArray) (hd:l.drop 3=w::r) (hw:a1p w=false) :
  Tri Tryz.prog 83 [str a6i,.ptr 1 0,.ptr 0 0,.ptr 2 0] [(0,.box [bl true]),(1,.box [a0e lo l]),(2,.box [i64 id,.own 3 0 rs.length 5]),(3,.arr 148 5 (rs.map rdE))] (fun _=>.pan (wrV 111) []):=by
 have hP:=a2k lo l hl
 simp only [hp,hd] at hP
 have hcs:decide (a6i=⟨#[99,111,112,121]⟩)=false:=by decide
 have hI:a4a (fun s=>decide (a6i=s)) [⟨#[]⟩,a3e,a6i,a1v]=2:=by decide
 refine a0d (fun _=>false) Tryz.func83 Tryz.ntmps83 rfl rfl fun G hG hOw hNm=>?_;simp only [go_sem,hG,hOw]
 (repeat' with_reducible first|refine And.intro ?_ ?_|intro _|refine exP ?_ ?_);all_goals try omega
 refine a0b [] [] (a0s 111) ?_ (by (simp only [go_sem])<;>simp [hcs]) (by (simp only [go_sem,a1g,a0q,a0f,a1m])<;>simp [hcs]) (by simp [a0h,usH,toR,hcs])
 simp only [go_sem,hG,hOw]
 (repeat' with_reducible first|refine And.intro ?_ ?_|intro _|refine exP ?_ ?_);all_goals try omega
 refine a0a (a5p [⟨#[]⟩,a3e,a6i,a1v] a6i) ?_
 rw [hI]
 simp only [go_sem,hG,hOw]
 (repeat' with_reducible first|refine And.intro ?_ ?_|intro _|refine exP ?_ ?_);all_goals try omega
 refine a0b [] [] (a0s 111) ?_
 simp only [go_sem,hG,hOw]
 (repeat' with_reducible first|refine And.intro ?_ ?_|intro _|refine exP ?_ ?_);all_goals try omega
 refine a0b [(0,1)] [] (hP) ?_
 simp only [go_sem,hG,hOw]
 (repeat' with_reducible first|refine And.intro ?_ ?_|intro _|refine exP ?_ ?_);all_goals try omega
 refine a0b [(0,1)] [] (b0h lo w r hw) ?_
 simp only [go_sem,hG,hOw]
 exact ⟨rfl,(a1x [])⟩
theorem e3t (lo:Nat) (id:Int) (rs:List Rd) (l:List ByteArray) (hl:∀ s ∈ l,s.size≤100000) (hp:a2q l=true) (hd:l.drop 3=[]) :
  Tri Tryz.prog 83 [str a6i,.ptr 1 0,.ptr 0 0,.ptr 2 0] [(0,.box [bl true]),(1,.box [a0e lo l]),(2,.box [i64 id,.own 3 0 rs.length 5]),(3,.arr 148 5 (rs.map rdE))] (fun _=>.pan (wrV 111) []):=by
 have hP:=a2k lo l hl
 simp only [hp,hd] at hP
 have hcs:decide (a6i=⟨#[99,111,112,121]⟩)=false:=by decide
 have hI:a4a (fun s=>decide (a6i=s)) [⟨#[]⟩,a3e,a6i,a1v]=2:=by decide
 refine a0d (fun _=>false) Tryz.func83 Tryz.ntmps83 rfl rfl fun G hG hOw hNm=>?_;simp only [go_sem,hG,hOw]
 (repeat' with_reducible first|refine And.intro ?_ ?_|intro _|refine exP ?_ ?_);all_goals try omega
 refine a0b [] [] (a0s 111) ?_ (by (simp only [go_sem])<;>simp [hcs]) (by (simp only [go_sem,a1g,a0q,a0f,a1m])<;>simp [hcs]) (by simp [a0h,usH,toR,hcs])
 simp only [go_sem,hG,hOw]
 (repeat' with_reducible first|refine And.intro ?_ ?_|intro _|refine exP ?_ ?_);all_goals try omega
 refine a0a (a5p [⟨#[]⟩,a3e,a6i,a1v] a6i) ?_
 rw [hI]
 simp only [go_sem,hG,hOw]
 (repeat' with_reducible first|refine And.intro ?_ ?_|intro _|refine exP ?_ ?_);all_goals try omega
 refine a0b [] [] (a0s 111) ?_
 simp only [go_sem,hG,hOw]
 (repeat' with_reducible first|refine And.intro ?_ ?_|intro _|refine exP ?_ ?_);all_goals try omega
 refine a0b [(0,1)] [] (hP) ?_
 simp only [go_sem,hG,hOw]
 (repeat' with_reducible first|refine And.intro ?_ ?_|intro _|refine exP ?_ ?_);all_goals try omega
 refine a0b [(0,1)] [] (b7a lo) ?_
 simp only [go_sem,hG,hOw]
 exact ⟨rfl,(a1x [])⟩
theorem d9u (lo:Nat) (id:Int) (rs:List Rd) (l:List ByteArray) (hl:∀ s ∈ l,s.size≤100000) (hp:a2q l=false) :
  Tri Tryz.prog 83 [str a1v,.ptr 1 0,.ptr 0 0,.ptr 2 0] [(0,.box [bl true]),(1,.box [a0e lo l]),(2,.box [i64 id,.own 3 0 rs.length 5]),(3,.arr 148 5 (rs.map rdE))] (fun _=>.pan (wrV 111) []):=by
 have hP:=a2k lo l hl
 simp only [hp] at hP
 have hcs:decide (a1v=⟨#[99,111,112,121]⟩)=false:=by decide
 have hI:a4a (fun s=>decide (a1v=s)) [⟨#[]⟩,a3e,a6i,a1v]=3:=by decide
 refine a0d (fun _=>false) Tryz.func83 Tryz.ntmps83 rfl rfl fun G hG hOw hNm=>?_;simp only [go_sem,hG,hOw]
 (repeat' with_reducible first|refine And.intro ?_ ?_|intro _|refine exP ?_ ?_);all_goals try omega
 refine a0b [] [] (a0s 111) ?_ (by (simp only [go_sem])<;>simp [hcs]) (by (simp only [go_sem,a1g,a0q,a0f,a1m])<;>simp [hcs]) (by simp [a0h,usH,toR,hcs])
 simp only [go_sem,hG,hOw]
 (repeat' with_reducible first|refine And.intro ?_ ?_|intro _|refine exP ?_ ?_);all_goals try omega
 refine a0a (a5p [⟨#[]⟩,a3e,a6i,a1v] a1v) ?_
 rw [hI]
 simp only [go_sem,hG,hOw]
 (repeat' with_reducible first|refine And.intro ?_ ?_|intro _|refine exP ?_ ?_);all_goals try omega
 refine a0b [] [] (a0s 111) ?_
 simp only [go_sem,hG,hOw]
 (repeat' with_reducible first|refine And.intro ?_ ?_|intro _|refine exP ?_ ?_);all_goals try omega
 refine a0b [(0,1)] [] (hP) ?_
 simp only [go_sem,hG,hOw]
 exact ⟨rfl,(a1x [])⟩
theorem e5t (lo:Nat) (id:Int) (rs:List Rd) (l:List ByteArray) (hl:∀ s ∈ l,s.size≤100000) (hp:a2q l=true) (hn:rs.length≤1000) (w:ByteArray) (r:List ByteArray) (hd:l.drop 3=w::r) (hw:a1p w=true) :
  Tri Tryz.prog 83 [str a1v,.ptr 1 0,.ptr 0 0,.ptr 2 0] [(0,.box [bl true]),(1,.box [a0e lo l]),(2,.box [i64 id,.own 3 0 rs.length 5]),(3,.arr 148 5 (rs.map rdE))] (fun _=>.ret (.tup []) [(0,.box [bl true]),(1,.box [a0e lo r]),(2,.box [i64 id,.own 4 0 (rs.length+1) 5]),(4,.arr 148 5 ((rs++[(⟨nvS l 0,nvS l 1,nvS l 2,3,w⟩:Rd)]).map rdE))]):=by
 have hP:=a2k lo l hl
 simp only [hp,hd] at hP
 have hq:(rs++[(⟨nvS l 0,nvS l 1,nvS l 2,3,w⟩:Rd)]).map rdE=rs.map rdE++[[V.v (Value.int IntKind.i64 (nvS l 0)),V.v (Value.int IntKind.i64 (nvS l 1)),V.v (Value.int IntKind.i64 (nvS l 2)),V.v (Value.int IntKind.u8 (IntKind.u8.wrap 3)),V.v (Value.string w)]]:=by
  rw [List.map_append];rfl
 rw [hq]
 have hcs:decide (a1v=⟨#[99,111,112,121]⟩)=false:=by decide
 have hI:a4a (fun s=>decide (a1v=s)) [⟨#[]⟩,a3e,a6i,a1v]=3:=by decide
 refine a0d (fun _=>false) Tryz.func83 Tryz.ntmps83 rfl rfl fun G hG hOw hNm=>?_;simp only [go_sem,hG,hOw]
 (repeat' with_reducible first|refine And.intro ?_ ?_|intro _|refine exP ?_ ?_);all_goals try omega
 refine a0b [] [] (a0s 111) ?_ (by (simp only [go_sem])<;>simp [hcs]) (by (simp only [go_sem,a1g,a0q,a0f,a1m])<;>simp [hcs]) (by simp [a0h,usH,toR,hcs])
 simp only [go_sem,hG,hOw]
 (repeat' with_reducible first|refine And.intro ?_ ?_|intro _|refine exP ?_ ?_);all_goals try omega
 refine a0a (a5p [⟨#[]⟩,a3e,a6i,a1v] a1v) ?_
 rw [hI]
 simp only [go_sem,hG,hOw]
 (repeat' with_reducible first|refine And.intro ?_ ?_|intro _|refine exP ?_ ?_);all_goals try omega
 refine a0b [] [] (a0s 111) ?_
 simp only [go_sem,hG,hOw]
 (repeat' with_reducible first|refine And.intro ?_ ?_|intro _|refine exP ?_ ?_);all_goals try omega
 refine a0b [(0,1)] [] (hP) ?_
 simp only [go_sem,hG,hOw]
 (repeat' with_reducible first|refine And.intro ?_ ?_|intro _|refine exP ?_ ?_);all_goals try omega
 refine a0b [(0,1)] [] (a6s lo w r hw) ?_
 simp only [go_sem,hG,hOw]
 (repeat' with_reducible first|refine And.intro ?_ ?_|intro _|refine exP ?_ ?_);all_goals try omega
 exact (a1x [(0,some 0),(1,some 1),(2,some 2),(4,some 38)])
theorem e2n (lo:Nat) (id:Int) (rs:List Rd) (l:List ByteArray) (hl:∀ s ∈ l,s.size≤100000) (hp:a2q l=true) (w:ByteArray) (r:List ByteArray) (hd:l.drop 3=w::r) (hw:a1p w=false) :
  Tri Tryz.prog 83 [str a1v,.ptr 1 0,.ptr 0 0,.ptr 2 0] [(0,.box [bl true]),(1,.box [a0e lo l]),(2,.box [i64 id,.own 3 0 rs.length 5]),(3,.arr 148 5 (rs.map rdE))] (fun _=>.pan (wrV 111) []):=by
 have hP:=a2k lo l hl
 simp only [hp,hd] at hP
 have hcs:decide (a1v=⟨#[99,111,112,121]⟩)=false:=by decide
 have hI:a4a (fun s=>decide (a1v=s)) [⟨#[]⟩,a3e,a6i,a1v]=3:=by decide
 refine a0d (fun _=>false) Tryz.func83 Tryz.ntmps83 rfl rfl fun G hG hOw hNm=>?_;simp only [go_sem,hG,hOw]
 (repeat' with_reducible first|refine And.intro ?_ ?_|intro _|refine exP ?_ ?_);all_goals try omega
 refine a0b [] [] (a0s 111) ?_ (by (simp only [go_sem])<;>simp [hcs]) (by (simp only [go_sem,a1g,a0q,a0f,a1m])<;>simp [hcs]) (by simp [a0h,usH,toR,hcs])
 simp only [go_sem,hG,hOw]
 (repeat' with_reducible first|refine And.intro ?_ ?_|intro _|refine exP ?_ ?_);all_goals try omega
 refine a0a (a5p [⟨#[]⟩,a3e,a6i,a1v] a1v) ?_
 rw [hI]
 simp only [go_sem,hG,hOw]
 (repeat' with_reducible first|refine And.intro ?_ ?_|intro _|refine exP ?_ ?_);all_goals try omega
 refine a0b [] [] (a0s 111) ?_
 simp only [go_sem,hG,hOw]
 (repeat' with_reducible first|refine And.intro ?_ ?_|intro _|refine exP ?_ ?_);all_goals try omega
 refine a0b [(0,1)] [] (hP) ?_
 simp only [go_sem,hG,hOw]
 (repeat' with_reducible first|refine And.intro ?_ ?_|intro _|refine exP ?_ ?_);all_goals try omega
 refine a0b [(0,1)] [] (b0h lo w r hw) ?_
 simp only [go_sem,hG,hOw]
 exact ⟨rfl,(a1x [])⟩
theorem e2r (lo:Nat) (id:Int) (rs:List Rd) (l:List ByteArray) (hl:∀ s ∈ l,s.size≤100000) (hp:a2q l=true) (hd:l.drop 3=[]) :
  Tri Tryz.prog 83 [str a1v,.ptr 1 0,.ptr 0 0,.ptr 2 0] [(0,.box [bl true]),(1,.box [a0e lo l]),(2,.box [i64 id,.own 3 0 rs.length 5]),(3,.arr 148 5 (rs.map rdE))] (fun _=>.pan (wrV 111) []):=by
 have hP:=a2k lo l hl
 simp only [hp,hd] at hP
 have hcs:decide (a1v=⟨#[99,111,112,121]⟩)=false:=by decide
 have hI:a4a (fun s=>decide (a1v=s)) [⟨#[]⟩,a3e,a6i,a1v]=3:=by decide
 refine a0d (fun _=>false) Tryz.func83 Tryz.ntmps83 rfl rfl fun G hG hOw hNm=>?_;simp only [go_sem,hG,hOw]
 (repeat' with_reducible first|refine And.intro ?_ ?_|intro _|refine exP ?_ ?_);all_goals try omega
 refine a0b [] [] (a0s 111) ?_ (by (simp only [go_sem])<;>simp [hcs]) (by (simp only [go_sem,a1g,a0q,a0f,a1m])<;>simp [hcs]) (by simp [a0h,usH,toR,hcs])
 simp only [go_sem,hG,hOw]
 (repeat' with_reducible first|refine And.intro ?_ ?_|intro _|refine exP ?_ ?_);all_goals try omega
 refine a0a (a5p [⟨#[]⟩,a3e,a6i,a1v] a1v) ?_
 rw [hI]
 simp only [go_sem,hG,hOw]
 (repeat' with_reducible first|refine And.intro ?_ ?_|intro _|refine exP ?_ ?_);all_goals try omega
 refine a0b [] [] (a0s 111) ?_
 simp only [go_sem,hG,hOw]
 (repeat' with_reducible first|refine And.intro ?_ ?_|intro _|refine exP ?_ ?_);all_goals try omega
 refine a0b [(0,1)] [] (hP) ?_
 simp only [go_sem,hG,hOw]
 (repeat' with_reducible first|refine And.intro ?_ ?_|intro _|refine exP ?_ ?_);all_goals try omega
 refine a0b [(0,1)] [] (b7a lo) ?_
 simp only [go_sem,hG,hOw]
 exact ⟨rfl,(a1x [])⟩
open Go Pm
set_option maxHeartbeats 4000000
set_option maxRecDepth 100000
def cpO (s:Option Cp):Cp:=s.getD ⟨0,[]⟩
theorem d0d (x:ByteArray):(kdN x=1∧x=a3e)∨(kdN x=2∧x=a6i)∨(kdN x=3∧x=a1v)∨kdN x=0:=by
 unfold kdN
 by_cases h1:x=a3e
 ·left;simp [h1]
 ·by_cases h2:x=a6i
  ·right;left;rw [if_neg h1,if_pos h2];exact ⟨rfl,h2⟩
  ·by_cases h3:x=a1v
   ·right;right;left;rw [if_neg h1,if_neg h2,if_pos h3];exact ⟨rfl,h3⟩
   ·right;right;right;rw [if_neg h1,if_neg h2,if_neg h3]
theorem f6h (lo:Nat) (s:Option Cp) (c':Cp) (name:ByteArray) (rest r':List ByteArray) (hs:b3s s name rest=some (c',r')) (hl:∀ s ∈ rest,s.size≤100000) (hb:(cpO s).rds.length≤1000) :
  Tri Tryz.prog 83 [str name,.ptr 1 0,.ptr 0 0,.ptr 2 0] [(0,.box [bl s.isSome]),(1,.box [a0e lo rest]),(2,.box [i64 (cpO s).id,.own 3 0 (cpO s).rds.length 5]),(3,.arr 148 5 ((cpO s).rds.map rdE))]
   (fun _=>.ret (.tup []) [(0,.box [bl true]),(1,.box [a0e lo r']),(2,.box [i64 c'.id,.own 4 0 c'.rds.length 5]),(4,.arr 148 5 (c'.rds.map rdE))]):=by
 cases s with
 |none =>
  unfold b3s at hs
  simp only at hs
  split at hs
  ·rename_i hn
   subst hn
   cases rest with
   |nil=>cases hs
   |cons x r =>
    simp only [Option.map_eq_some_iff,Prod.mk.injEq] at hs
    obtain ⟨v,hv,rfl,rfl⟩:=hs
    exact d2z lo x r v (hl x (by simp)) hv
  ·cases hs
 |some c =>
  unfold b3s at hs
  simp only at hs
  rcases d0d name with ⟨hk,rfl⟩|⟨hk,rfl⟩|⟨hk,rfl⟩|hk
  ·rw [if_neg (by decide),if_neg (by rw [hk];decide),hk] at hs
   split at hs
   ·rename_i hp
    simp only [if_true,Option.some.injEq,Prod.mk.injEq] at hs
    obtain ⟨rfl,rfl⟩:=hs
    have:=e8p lo c.id c.rds rest hl hp hb
    simpa [cpO] using this
   ·cases hs
  ·rw [if_neg (by decide),if_neg (by rw [hk];decide),hk] at hs
   split at hs
   ·rename_i hp
    rw [if_neg (by decide)] at hs
    split at hs
    ·rename_i w r hd
     split at hs
     ·rename_i hw
      simp only [Option.some.injEq,Prod.mk.injEq] at hs
      obtain ⟨rfl,rfl⟩:=hs
      have:=e4k lo c.id c.rds rest hl hp hb w r hd hw
      simpa [cpO] using this
     ·cases hs
    ·cases hs
   ·cases hs
  ·rw [if_neg (by decide),if_neg (by rw [hk];decide),hk] at hs
   split at hs
   ·rename_i hp
    rw [if_neg (by decide)] at hs
    split at hs
    ·rename_i w r hd
     split at hs
     ·rename_i hw
      simp only [Option.some.injEq,Prod.mk.injEq] at hs
      obtain ⟨rfl,rfl⟩:=hs
      have:=e5t lo c.id c.rds rest hl hp hb w r hd hw
      simpa [cpO] using this
     ·cases hs
    ·cases hs
   ·cases hs
  ·split at hs
   ·cases hs
   ·first|cases hs|(rw [if_pos hk] at hs;cases hs)
theorem f1a (lo:Nat) (s:Option Cp) (name:ByteArray) (rest:List ByteArray) (h0:s=none→True) (hs:b3s s name rest=none) (hl:∀ s ∈ rest,s.size≤100000) :
  Tri Tryz.prog 83 [str name,.ptr 1 0,.ptr 0 0,.ptr 2 0] [(0,.box [bl s.isSome]),(1,.box [a0e lo rest]),(2,.box [i64 (cpO s).id,.own 3 0 (cpO s).rds.length 5]),(3,.arr 148 5 ((cpO s).rds.map rdE))] (fun _=>.pan (wrV 111) []):=by
 cases s with
 |none =>
  by_cases hn:name=a7v
  ·subst hn
   refine b8c lo rest hl fun x r e=>?_
   subst e
   simpa [b3s] using hs
  ·exact b9q lo false name 0 [] rest (decide_eq_false hn)
 |some c =>
  by_cases hn:name=a7v
  ·exact b9q lo true name c.id c.rds rest (decide_eq_true hn)
  ·rcases d0d name with ⟨hk,rfl⟩|⟨hk,rfl⟩|⟨hk,rfl⟩|hk
   ·cases hp:a2q rest with
    |false=>exact d9b lo c.id c.rds rest hl hp
    |true =>
     exfalso
     simp [b3s,hp,hk,hn] at hs
   ·cases hp:a2q rest with
    |false=>exact d5v lo c.id c.rds rest hl hp
    |true =>
     cases hd:rest.drop 3 with
     |nil=>exact e3t lo c.id c.rds rest hl hp hd
     |cons w r =>
      cases hw:a1p w with
      |false=>exact e1l lo c.id c.rds rest hl hp w r hd hw
      |true=>exfalso;simp [b3s,hp,hk,hn,hd,hw] at hs
   ·cases hp:a2q rest with
    |false=>exact d9u lo c.id c.rds rest hl hp
    |true =>
     cases hd:rest.drop 3 with
     |nil=>exact e2r lo c.id c.rds rest hl hp hd
     |cons w r =>
      cases hw:a1p w with
      |false=>exact e2n lo c.id c.rds rest hl hp w r hd hw
      |true=>exfalso;simp [b3s,hp,hk,hn,hd,hw] at hs
   ·exact d8c lo name c.id c.rds rest hn hk
theorem b6s:∀ (l m:List ByteArray) (s:Option Cp),a6l s (l++m)=(a6l s l).bind fun s'=>a6l s' m
 |[],m,s=>rfl
 |x::l,m,s=>by
  simp only [List.cons_append,a6l]
  cases stepG s x with
  |none=>rfl
  |some c=>exact b6s l m (some c)
theorem b3a (l:List ByteArray) (k:Nat) (hk:k < l.length):a6l none (l.take (k+1))=(a6l none (l.take k)).bind fun s=>(stepG s l[k]).map some:=by
 rw [List.take_add_one,List.getElem?_eq_getElem hk,b6s]
 congr 1
 funext s
 simp only [Option.toList,a6l]
 cases stepG s l[k]<;>rfl
theorem c4l {l:List ByteArray} {k:Nat} {s:Option Cp} (hk:k < l.length) (h:a6l none (l.take k)=some s) (hb:stepG s l[k]=none):a6l none l=none:=by
 have h1:a6l none (l.take (k+1))=none:=by rw [b3a l k hk,h];simp [hb]
 have h2:=b6s (l.take (k+1)) (l.drop (k+1)) none
 rw [List.take_append_drop] at h2
 rw [h2,h1];rfl
open Go Pm
set_option maxHeartbeats 4000000
set_option maxRecDepth 100000
theorem e3d {s:Option Cp} {name:ByteArray} {rest r':List ByteArray} {c:Cp} (h:b3s s name rest=some (c,r')):c.rds.length≤(cpO s).rds.length+1:=by
 cases s with
 |none =>
  unfold b3s at h
  simp only at h
  split at h
  ·cases rest with
   |nil=>cases h
   |cons x r =>
    simp only [Option.map_eq_some_iff,Prod.mk.injEq] at h
    obtain ⟨v,_,rfl,_⟩:=h
    simp
  ·cases h
 |some d =>
  unfold b3s at h
  simp only at h
  split at h
  ·cases h
  ·split at h
   ·cases h
   ·split at h
    ·split at h
     ·simp only [Option.some.injEq,Prod.mk.injEq] at h
      obtain ⟨rfl,_⟩:=h
      simp [cpO]
     ·split at h
      ·split at h
       ·simp only [Option.some.injEq,Prod.mk.injEq] at h
        obtain ⟨rfl,_⟩:=h
        simp [cpO]
       ·cases h
      ·cases h
    ·cases h
theorem d8x {s:Option Cp} {x:ByteArray} {c:Cp} (h:stepG s x=some c):c.rds.length≤(cpO s).rds.length+1:=by
 unfold stepG at h
 split at h
 ·cases h
 ·split at h
  ·rename_i hs
   cases h
   exact e3d hs
  ·cases h
theorem c3o {l:List ByteArray}:∀ {k:Nat} {s:Option Cp},k≤l.length→a6l none (l.take k)=some s→(cpO s).rds.length≤k
 |0,s,_,h=>by
  simp [a6l] at h
  subst h
  simp [cpO]
 |k+1,s,hk,h=>by
  rw [b3a l k (by omega)] at h
  simp only [Option.bind_eq_some_iff,Option.map_eq_some_iff] at h
  obtain ⟨u,h1,c,h2,rfl⟩:=h
  have ih:=c3o (by omega) h1
  have:=d8x h2
  show c.rds.length≤_
  omega
theorem d4z (l:List ByteArray) (h:a1b l=false):Tri Tryz.prog 73 [a0e 0 l,.fn (.func 83) [.ptr 0 0,.ptr 1 0]] [(0,.box [bl false]),(1,.box [i64 0,.v (.slice none 0 0)])] (fun _=>.pan (wrV 110) []):=by
 refine a0d (fun _=>false) Tryz.func73 Tryz.ntmps73 rfl rfl fun G hG hOw hNm=>?_;simp only [go_sem,hG,hOw]
 (repeat' with_reducible first|refine And.intro ?_ ?_|intro _|refine exP ?_ ?_);all_goals try omega
 refine a0a (a3p l) ?_
 rw [h]
 simp only [go_sem,hG,hOw]
 (repeat' with_reducible first|refine And.intro ?_ ?_|intro _|refine exP ?_ ?_);all_goals try omega
 refine a0b [] [] (a3v 110) ?_
 simp only [go_sem,hG,hOw]
 (repeat' with_reducible first|refine And.intro ?_ ?_|intro _|refine exP ?_ ?_);all_goals try omega
 exact ⟨rfl,(a1x [])⟩
theorem b6i (l:List ByteArray) (h:a1b l=true):Tri Tryz.prog 73 [a0e 0 l,.fn (.func 83) [.ptr 0 0,.ptr 1 0]] [(0,.box [bl false]),(1,.box [i64 0,.v (.slice none 0 0)])] (fun _=>match a6l none l with
  |some s=>.ret (.tup []) [(0,.box [bl s.isSome]),(1,.box [i64 (cpO s).id,rds 0 (cpO s).rds])]
  |none=>.pan (wrV 111) []):=by
 obtain ⟨hl1,hl2⟩:=b0j h
 refine a0d (fun _=>false) Tryz.func73 Tryz.ntmps73 rfl rfl fun G hG hOw hNm=>?_;simp only [go_sem,hG,hOw]
 (repeat' with_reducible first|refine And.intro ?_ ?_|intro _|refine exP ?_ ?_);all_goals try omega
 refine a0a (a3p l) ?_
 rw [h]
 simp only [go_sem,hG,hOw]
 (repeat' with_reducible first|refine And.intro ?_ ?_|intro _|refine exP ?_ ?_);all_goals try omega
 refine a0b [] [] (a0s 110) ?_
 simp only [go_sem,hG,hOw]
 (repeat' with_reducible first|refine And.intro ?_ ?_|intro _|refine exP ?_ ?_);all_goals try omega
 have e0:(cpO none).rds=[]:=rfl
 have e1:(cpO none).id=0:=rfl
 refine a6h (fun s:Option Cp=>St.of [] [(0,.box [bl s.isSome]),(1,.box [i64 (cpO s).id,rds 0 (cpO s).rds])]) (fun s=>a6l none l=some s) ?_ ?_
 ·refine a0r (fun x:Nat×Option Cp=>St.of [(1,.fn (.func 83) [.ptr 0 0,.ptr 1 0]),(11,a0e 0 l),(12,i64 l.length),(13,i64 x.1)] [(0,.box [bl x.2.isSome]),(1,.box [i64 (cpO x.2).id,.own 100 0 (cpO x.2).rds.length 5]),(100,.arr 148 5 ((cpO x.2).rds.map rdE))]) (fun x=>x.1≤l.length∧a6l none (l.take x.1)=some x.2) (fun x=>l.length - x.1) (0,none) ⟨by simp,by simp [a6l]⟩ (a1l [(0,some 0),(1,some 1),(100,none)] (by (simp only [e0,e1,Option.isSome_none,List.map_nil,List.length_nil,go_sem])<;>simp [e0,e1,Option.isSome_none,List.map_nil,List.length_nil]) (by (simp only [e0,e1,Option.isSome_none,List.map_nil,List.length_nil,go_sem,a1g,a0q,a0f,a1m])<;>simp [e0,e1,Option.isSome_none,List.map_nil,List.length_nil]) (by simp [a2m,apart]) (by simp [a0h,usH]) (by simp [hNm,lkR,a1c])) ?_
  rintro ⟨k,s⟩ ⟨hk,hrd⟩
  simp only at hk hrd
  have hbd:=c3o hk hrd
  refine a0l _ _ _ ?_;simp only [go_sem,hG,hOw]
  (repeat' with_reducible first|refine And.intro ?_ ?_|intro _|refine exP ?_ ?_);all_goals try omega
  ·rename_i hlt
   have hkl:k < l.length:=by omega
   have hsz:=hl2 _ (List.getElem_mem hkl)
   refine a0a (b1s l[k] (by omega)) ?_
   obtain ⟨name,rest,hp⟩:∃ name rest,a2e l[k]=name::rest:=by
    cases hq:a2e l[k] with
    |nil=>exact (a9x _ hq).elim
    |cons a b=>exact ⟨a,b,rfl⟩
   have hps:∀ s ∈ rest,s.size≤100000:=fun s hs=>by have:=a7f l[k] s (by rw [hp];simp [hs]);omega
   rw [hp]
   simp only [go_sem,hG,hOw]
   (repeat' with_reducible first|refine And.intro ?_ ?_|intro _|refine exP ?_ ?_);all_goals try omega
   refine a0b [(0,20)] [] (a7n G.lo name rest) ?_
   simp only [go_sem,hG,hOw]
   (repeat' with_reducible first|refine And.intro ?_ ?_|intro _|refine exP ?_ ?_);all_goals try omega
   cases hst:b3s s name rest with
   |none =>
    have hno:a6l none l=none:=c4l hkl hrd (by unfold stepG;rw [hp];simp only [hst])
    rw [hno]
    refine a0b [(0,0),(1,20),(2,1),(3,100)] [] (f1a G.lo s name rest (fun _=>trivial) hst hps) ?_
    simp only [go_sem,hG,hOw]
    exact ⟨rfl,(a1x [])⟩
   |some q =>
    obtain ⟨c',r'⟩:=q
    refine a0b [(0,0),(1,20),(2,1),(3,100)] [(4,204)] (f6h G.lo s c' name rest r' hst hps (by omega)) ?_
    simp only [go_sem,hG,hOw]
    (repeat' with_reducible first|refine And.intro ?_ ?_|intro _|refine exP ?_ ?_);all_goals try omega
    ·rename_i hr0
     have hr0:r'=[]:=List.eq_nil_of_length_eq_zero (by omega)
     subst hr0
     have hsF:stepG s l[k]=some c':=by unfold stepG;rw [hp];simp only [hst]
     have f1:cpO (some c')=c':=rfl
     exact ⟨(k+1,some c'),⟨by show k+1≤_;omega,by rw [b3a l k hkl,hrd];simp [hsF]⟩,by show l.length - (k+1) < _;omega,a1l [(0,some 0),(1,some 1),(100,some 204)] (by (simp only [f1,Option.isSome_some,go_sem])<;>simp [f1,Option.isSome_some]) (by (simp only [f1,Option.isSome_some,go_sem,a1g,a0q,a0f,a1m])<;>simp [f1,Option.isSome_some]) (by simp [a2m,apart]) (by simp [a0h,usH]) (by simp [hNm,lkR,a1c])⟩
    ·rename_i hr0
     have hno:a6l none l=none:=c4l hkl hrd (by
      unfold stepG;rw [hp];simp only [hst]
      cases r' with
      |nil=>exact (hr0 rfl).elim
      |cons a b=>rfl)
     rw [hno]
     refine b0m [.int .i64 111] rfl rfl (by kernel_rfl) (by simp [chk,hG]) ?_
     simp only [go_sem,hG,hOw]
     (repeat' with_reducible first|refine And.intro ?_ ?_|intro _|refine exP ?_ ?_);all_goals try omega
     refine a6z rfl rfl ?_
     exact ⟨rfl,(a1x [])⟩
  ·rename_i hge
   obtain rfl:k=l.length:=by omega
   rw [List.take_length] at hrd
   refine ⟨s,hrd,a9s (fun i=>i == 100) ?_⟩
   have hN:Pm.Sub (.lst G.lo 5 ((cpO s).rds.map rdE)) (.lst 0 5 ((cpO s).rds.map rdE)):=Sub.lo (Nat.zero_le _)
   have hT:List.take (cpO s).rds.length ((cpO s).rds.map rdE)=(cpO s).rds.map rdE:=List.take_of_length_le (by simp)
   exact a1l [(0,some 0),(1,some 1)] (by (simp only [hT,hN,go_sem])<;>simp [hT,hN]) (by (simp only [hT,hN,go_sem,a1g,a0q,a0f,a1m])<;>simp [hT,hN]) (by simp [a2m,apart]) (by simp [a0h,usH]) (by simp [hNm,lkR,a1c])
 ·rintro s hs
  rw [hs]
  simp only [go_sem,hG,hOw]
  (repeat' with_reducible first|refine And.intro ?_ ?_|intro _|refine exP ?_ ?_);all_goals try omega
  exact (a1x [(0,some 0),(1,some 1)])
open Go Pm Go.RowKit Go.Sort
set_option maxHeartbeats 4000000
set_option maxRecDepth 100000
theorem d2v (l:List ByteArray) (c:Cp) (h:a1b l=true) (hr:a6l none l=some (some c)):Tri Tryz.prog 82 [.ptr 0 0,.ptr 1 0,.ptr 2 0] [(0,.box [i64 0]),(1,.box [a0e 0 l]),(2,.box [i64 0,.v (.slice none 0 0)])]
  (fun _=>.ret (.tup []) [(0,.box [i64 0]),(1,.box [a0e 0 l]),(2,.box (cpC 0 c))]):=by
 have hU:=b6i l h
 simp only [hr] at hU
 refine a4j (fun _=>false) (told:=72) (p:=0) (x:=.int .i64 0) wrV (fun _=>True) Tryz.func82 Tryz.ntmps82 rfl (by kernel_rfl) (by simp) rfl rfl rfl rfl rfl (by simp [a1c]) a5j (fun k _=>a5m k) fun G hG hOw hNm _=>?_
 simp only [go_sem,hG,hOw]
 (repeat' with_reducible first|refine And.intro ?_ ?_|intro _|refine exP ?_ ?_);all_goals try omega
 refine a0b [(0,3),(1,2)] [] (hU) ?_
 simp only [go_sem,hG,hOw]
 (repeat' with_reducible first|refine And.intro ?_ ?_|intro _|refine exP ?_ ?_);all_goals try omega
 refine a0b [] [] (a0s 111) ?_
 simp (maxSteps:=2000000) only [go_sem,hG,hOw,c1g,c2a]
 (repeat' with_reducible first|refine And.intro ?_ ?_|intro _|refine exP ?_ ?_);all_goals try omega
 have f1:cpO (some c)=c:=rfl
 exact ⟨[(0,some 0),(1,some 1),(2,some 2)],by (simp only [b1z,go_sem,a1g,a0q,a0f,a1m,apart,a2m,a0h])<;>simp [f1]⟩
theorem c5u (l:List ByteArray) (h:a1b l=true) (hr:a6l none l=some none):Tri Tryz.prog 82 [.ptr 0 0,.ptr 1 0,.ptr 2 0] [(0,.box [i64 0]),(1,.box [a0e 0 l]),(2,.box [i64 0,.v (.slice none 0 0)])]
  (fun _=>.ret (.tup []) [(0,.box [i64 111]),(1,.box [a0e 0 l])]):=by
 have hU:=b6i l h
 simp only [hr] at hU
 refine a4j (fun _=>false) (told:=72) (p:=0) (x:=.int .i64 0) wrV (fun _=>True) Tryz.func82 Tryz.ntmps82 rfl (by kernel_rfl) (by simp) rfl rfl rfl rfl rfl (by simp [a1c]) a5j (fun k _=>a5m k) fun G hG hOw hNm _=>?_
 simp only [go_sem,hG,hOw]
 (repeat' with_reducible first|refine And.intro ?_ ?_|intro _|refine exP ?_ ?_);all_goals try omega
 refine a0b [(0,3),(1,2)] [] (hU) ?_
 simp only [go_sem,hG,hOw]
 (repeat' with_reducible first|refine And.intro ?_ ?_|intro _|refine exP ?_ ?_);all_goals try omega
 refine a0b [] [] (a3v 111) ?_
 simp (maxSteps:=2000000) only [go_sem,hG,hOw,b6c]
 (repeat' with_reducible first|refine And.intro ?_ ?_|intro _|refine exP ?_ ?_);all_goals try omega
 exact ⟨111,rfl,(a1x [(0,some 0),(1,some 1)])⟩
theorem b5g (l:List ByteArray) (k:Int) (h:a1b l=false∧k=110∨a1b l=true∧a6l none l=none∧k=111):Tri Tryz.prog 82 [.ptr 0 0,.ptr 1 0,.ptr 2 0] [(0,.box [i64 0]),(1,.box [a0e 0 l]),(2,.box [i64 0,.v (.slice none 0 0)])]
  (fun _=>.ret (.tup []) [(0,.box [i64 k]),(1,.box [a0e 0 l])]):=by
 have hU:Tri Tryz.prog 73 [a0e 0 l,.fn (.func 83) [.ptr 0 0,.ptr 1 0]] [(0,.box [bl false]),(1,.box [i64 0,.v (.slice none 0 0)])] (fun _=>.pan (wrV k) []):=by
  rcases h with ⟨h1,rfl⟩|⟨h1,h2,rfl⟩
  ·exact d4z l h1
  ·have:=b6i l h1
   simp only [h2] at this
   exact this
 refine a4j (fun _=>false) (told:=72) (p:=0) (x:=.int .i64 0) wrV (fun _=>True) Tryz.func82 Tryz.ntmps82 rfl (by kernel_rfl) (by simp) rfl rfl rfl rfl rfl (by simp [a1c]) a5j (fun k _=>a5m k) fun G hG hOw hNm _=>?_
 simp only [go_sem,hG,hOw]
 (repeat' with_reducible first|refine And.intro ?_ ?_|intro _|refine exP ?_ ?_);all_goals try omega
 refine a0b [(0,3),(1,2)] [] (hU) ?_
 simp (maxSteps:=2000000) only [go_sem,hG,hOw,b6c]
 (repeat' with_reducible first|refine And.intro ?_ ?_|intro _|refine exP ?_ ?_);all_goals try omega
 refine ⟨k,trivial,rfl,by simp [go_sem],?_⟩
 simp only [go_sem,hG,hOw]
 exact (a1x [(0,some 0),(1,some 1)])
def d5c:Cp:=⟨0,[]⟩
def a6j (t:List Ch) (l:List ByteArray):Cp×Int:=if a2l t then (if a1b l then (match a6l none l with
  |some (some c)=>if a7l t c=0 then (c,0) else (d5c,a7l t c)
  |_=>(d5c,111)) else (d5c,110)) else (d5c,10)
theorem c1a (k:Int):Pm.Sub (.tup [.agg [i64 0,.v (.slice none 0 0)],i64 k]) (.tup [cpE 0 d5c,i64 k]):=Subs.tup (.cons (Subs.agg (.cons (.refl _) (.cons (.nil _ _) .nil))) (.cons (.refl _) .nil))
theorem c3e (t:List Ch) (l:List ByteArray):a0o Tryz.prog 21 [txE 0 t,a0e 0 l] (fun _=>.tup [cpE 0 (a6j t l).1,i64 (a6j t l).2]):=by
 cases ht:a2l t with
 |false =>
  have e:a6j t l=(d5c,10):=by simp [a6j,ht]
  rw [e]
  refine a0c (ow:=fun _=>false) Tryz.func21 Tryz.ntmps21 rfl rfl fun G hG hOw hNm hB=>?_;simp only [go_sem,hG,hOw]
  refine a0a (a3q t) ?_
  simp (maxSteps:=2000000) only [go_sem,hG,hOw,ht]
  (repeat' with_reducible first|refine And.intro ?_ ?_|intro _|refine exP ?_ ?_);all_goals try omega
  exact c1a 10
 |true =>
  by_cases hgood:a1b l=true∧∃ c,a6l none l=some (some c)
  ·obtain ⟨h1,c,h2⟩:=hgood
   have e:a6j t l=if a7l t c=0 then (c,0) else (d5c,a7l t c):=by unfold a6j;simp only [ht,h1,h2,if_true]
   rw [e]
   refine a0c (ow:=fun _=>false) Tryz.func21 Tryz.ntmps21 rfl rfl fun G hG hOw hNm hB=>?_;simp only [go_sem,hG,hOw]
   refine a0a (a3q t) ?_
   simp (maxSteps:=2000000) only [go_sem,hG,hOw,ht]
   (repeat' with_reducible first|refine And.intro ?_ ?_|intro _|refine exP ?_ ?_);all_goals try omega
   refine a0b [(0,8),(1,3),(2,7)] [] (d2v l c h1 h2) ?_
   simp only [go_sem,hG,hOw]
   (repeat' with_reducible first|refine And.intro ?_ ?_|intro _|refine exP ?_ ?_);all_goals try omega
   refine a0a (b4h t c) ?_
   by_cases hc:a7l t c=0
   ·rw [if_pos hc]
    simp (maxSteps:=2000000) only [go_sem,hG,hOw,hc]
    (repeat' with_reducible first|refine And.intro ?_ ?_|intro _|refine exP ?_ ?_);all_goals try omega
   ·rw [if_neg hc]
    simp (maxSteps:=2000000) only [go_sem,hG,hOw,hc]
    (repeat' with_reducible first|refine And.intro ?_ ?_|intro _|refine exP ?_ ?_);all_goals try omega
    refine a1w ⟨[4,8],[],[]⟩ [(0,false),(1,false),(2,false),(3,false)] mixed (by kernel_rfl) ?_
    simp only [a2r,List.getElem?_cons_zero,List.getElem?_cons_succ]
    simp only [go_sem,hG,hOw]
    (repeat' with_reducible first|refine And.intro ?_ ?_|intro _|refine exP ?_ ?_);all_goals try omega
    exact c1a _
  ·obtain ⟨k,hk,e,hT⟩:∃ k:Int,k≠0∧a6j t l=(d5c,k)∧Tri Tryz.prog 82 [.ptr 0 0,.ptr 1 0,.ptr 2 0] [(0,.box [i64 0]),(1,.box [a0e 0 l]),(2,.box [i64 0,.v (.slice none 0 0)])] (fun _=>.ret (.tup []) [(0,.box [i64 k]),(1,.box [a0e 0 l])]):=by
    cases h1:a1b l with
    |false=>exact ⟨110,by decide,by simp [a6j,ht,h1],b5g l 110 (.inl ⟨h1,rfl⟩)⟩
    |true =>
     cases h2:a6l none l with
     |none=>exact ⟨111,by decide,by simp [a6j,ht,h1,h2],b5g l 111 (.inr ⟨h1,h2,rfl⟩)⟩
     |some s =>
      cases s with
      |none=>exact ⟨111,by decide,by simp [a6j,ht,h1,h2],c5u l h1 h2⟩
      |some c=>exact (hgood ⟨h1,c,h2⟩).elim
   rw [e]
   refine a0c (ow:=fun _=>false) Tryz.func21 Tryz.ntmps21 rfl rfl fun G hG hOw hNm hB=>?_;simp only [go_sem,hG,hOw]
   refine a0a (a3q t) ?_
   simp (maxSteps:=2000000) only [go_sem,hG,hOw,ht]
   (repeat' with_reducible first|refine And.intro ?_ ?_|intro _|refine exP ?_ ?_);all_goals try omega
   refine a0b [(0,8),(1,3),(2,7)] [] (hT) ?_
   simp (maxSteps:=2000000) only [go_sem,hG,hOw,hk]
   (repeat' with_reducible first|refine And.intro ?_ ?_|intro _|refine exP ?_ ?_);all_goals try omega
   refine a1w ⟨[4,8],[],[]⟩ [(0,false),(1,false),(2,false),(3,false)] mixed (by kernel_rfl) ?_
   simp only [a2r,List.getElem?_cons_zero,List.getElem?_cons_succ]
   simp only [go_sem,hG,hOw]
   (repeat' with_reducible first|refine And.intro ?_ ?_|intro _|refine exP ?_ ?_);all_goals try omega
   exact c1a k
end Go.Proofs.YtmjhfccbbfpppaaGreatDoor
