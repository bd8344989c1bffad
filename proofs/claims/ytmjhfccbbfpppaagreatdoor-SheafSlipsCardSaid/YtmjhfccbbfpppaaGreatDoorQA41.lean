import Derived.Test.YtmjhfccbbfpppaaGreatDoorQA24
import Derived.Test.YtmjhfccbbfpppaaGreatDoorQA37
import Derived.Test.YtmjhfccbbfpppaaGreatDoorQA39
namespace Go.Proofs.YtmjhfccbbfpppaaGreatDoor
open Go Pm
set_option linter.unusedSimpArgs false
set_option linter.unusedVariables false
set_option maxHeartbeats 4000000
set_option maxRecDepth 100000
def a6f (q:Nat):List (Value×V):=match q with
 |0=>[]
 |1=>[(.string a2f,bl true)]
 |2=>[(.string a1w,bl true),(.string a2f,bl true)]
 |_=>[(.string a2f,bl true),(.string a1w,bl true)]
theorem g0o:a6f 0=[]:=rfl
theorem f8z:a6f 1=[(.string ⟨#[97,102,116,101,114]⟩,bl true)]:=rfl
theorem f7l:a6f 2=[(.string ⟨#[98,101,102,111,114,101]⟩,bl true),(.string ⟨#[97,102,116,101,114]⟩,bl true)]:=rfl
theorem g1e:a6f 3=[(.string ⟨#[97,102,116,101,114]⟩,bl true),(.string ⟨#[98,101,102,111,114,101]⟩,bl true)]:=rfl
attribute [go_sem] g0o f8z f7l g1e
theorem g2h:b4e (.string ⟨#[98,101,102,111,114,101]⟩) (.string ⟨#[97,102,116,101,114]⟩)=false:=by decide
theorem g2e:b4e (.string ⟨#[97,102,116,101,114]⟩) (.string ⟨#[98,101,102,111,114,101]⟩)=false:=by decide
theorem g3x:b4e (.string ⟨#[97,102,116,101,114]⟩) (.string ⟨#[97,102,116,101,114]⟩)=true:=by decide
theorem g3d:b4e (.string ⟨#[98,101,102,111,114,101]⟩) (.string ⟨#[98,101,102,111,114,101]⟩)=true:=by decide
attribute [go_sem] g2h g2e g3x g3d
def upQ (q:Nat):Nat:=if q=0 then 2 else if q=1 then 3 else q
def b3r (f:Si→Si) (l:List Si):List Si:=match l.getLast? with
 |some s=>l.dropLast++[f s]
 |none=>l
def b0w (s:List Si×Nat) (name:ByteArray) (rest:List ByteArray):Option ((List Si×Nat)×List ByteArray) :=
 if name=a4p then (if a4d rest then (match rest.drop 3 with
   |w::r=>if a1b w then some ((s.1++[⟨nvS rest 0,nvS rest 1,nvS rest 2,w,⟨#[]⟩,⟨#[]⟩⟩],upQ s.2),r) else none
   |[]=>none) else none)
 else if name=a1w then (if 2≤s.2 then (if a3q rest then some ((b3r (fun x=>{ x with bef:=a0w rest }) s.1,1),[]) else none) else none)
 else if name=a2f then (if 1≤s.2 then (if a3q rest then some ((b3r (fun x=>{ x with aft:=a0w rest }) s.1,0),[]) else none) else none)
 else none
theorem e0t (lo:Nat) (all:List Si) (l:List ByteArray) (hl:∀ s ∈ l,s.size≤100000) (hp:a4d l=true) (w:ByteArray) (r:List ByteArray) (hd:l.drop 3=w::r) (hw:a1b w=true) (hn:all.length≤1000) :
  Tri Tryz.prog 93 [str a4p,.ptr 1 0,.ptr 0 0,.ptr 2 0] [(0,.box [.own 3 0 all.length 6]),(1,.box [a0o lo l]),(2,.box [.mp 4]),(3,.arr 87 6 (all.map siC)),(4,.map .string (a6f 0))]
   (fun _=>.ret (.tup []) [(0,.box [.own 5 0 (all.length+1) 6]),(1,.box [a0o lo r]),(2,.box [.mp 4]),(5,.arr 87 6 ((all++[(⟨nvS l 0,nvS l 1,nvS l 2,w,⟨#[]⟩,⟨#[]⟩⟩:Si)]).map siC)),(4,.map .string (a6f 2))]):=by
 have hP:=a6m lo l hl
 simp only [hp,hd] at hP
 have hcs:decide (a4p=⟨#[115,108,105,112]⟩)=true:=by decide
 have hq:(all++[(⟨nvS l 0,nvS l 1,nvS l 2,w,⟨#[]⟩,⟨#[]⟩⟩:Si)]).map siC=all.map siC++[[V.v (Value.int IntKind.i64 (nvS l 0)),V.v (Value.int IntKind.i64 (nvS l 1)),V.v (Value.int IntKind.i64 (nvS l 2)),V.v (Value.string w),V.v (Value.string ByteArray.empty),V.v (Value.string ByteArray.empty)]]:=by
  rw [List.map_append];rfl
 rw [hq]
 refine a0k (fun _=>false) Tryz.func93 Tryz.ntmps93 rfl rfl fun G hG hOw hNm=>?_;simp only [go_sem,hG,hOw]
 (repeat' with_reducible first|refine And.intro ?_ ?_|intro _|refine exP ?_ ?_);all_goals try omega
 rotate_left
 ·rename_i h;exact absurd (by decide) h
 refine a0c [(0,1)] [] (hP) ?_
 simp only [go_sem,hG,hOw]
 (repeat' with_reducible first|refine And.intro ?_ ?_|intro _|refine exP ?_ ?_);all_goals try omega
 refine a0c [(0,1)] [] (b0d lo w r hw) ?_
 simp only [go_sem,hG,hOw]
 (repeat' with_reducible first|refine And.intro ?_ ?_|intro _|refine exP ?_ ?_);all_goals try omega
 refine a2o ⟨[2],[(21,[2]),(22,[2])],[]⟩ [(0,false),(1,false),(2,false),(3,false)] mixed (by kernel_rfl) ?_
 simp only [a4b,List.getElem?_cons_zero,List.getElem?_cons_succ]
 simp only [go_sem,hG,hOw]
 (repeat' with_reducible first|refine And.intro ?_ ?_|intro _|refine exP ?_ ?_);all_goals try omega
 exact (a3t [(0,some 0),(1,some 1),(2,some 2),(5,some 20),(4,some 4)])
theorem e2k (lo:Nat) (all:List Si) (l:List ByteArray) (hl:∀ s ∈ l,s.size≤100000) (hp:a4d l=true) (w:ByteArray) (r:List ByteArray) (hd:l.drop 3=w::r) (hw:a1b w=true) (hn:all.length≤1000) :
  Tri Tryz.prog 93 [str a4p,.ptr 1 0,.ptr 0 0,.ptr 2 0] [(0,.box [.own 3 0 all.length 6]),(1,.box [a0o lo l]),(2,.box [.mp 4]),(3,.arr 87 6 (all.map siC)),(4,.map .string (a6f 1))]
   (fun _=>.ret (.tup []) [(0,.box [.own 5 0 (all.length+1) 6]),(1,.box [a0o lo r]),(2,.box [.mp 4]),(5,.arr 87 6 ((all++[(⟨nvS l 0,nvS l 1,nvS l 2,w,⟨#[]⟩,⟨#[]⟩⟩:Si)]).map siC)),(4,.map .string (a6f 3))]):=by
 have hP:=a6m lo l hl
 simp only [hp,hd] at hP
 have hcs:decide (a4p=⟨#[115,108,105,112]⟩)=true:=by decide
 have hq:(all++[(⟨nvS l 0,nvS l 1,nvS l 2,w,⟨#[]⟩,⟨#[]⟩⟩:Si)]).map siC=all.map siC++[[V.v (Value.int IntKind.i64 (nvS l 0)),V.v (Value.int IntKind.i64 (nvS l 1)),V.v (Value.int IntKind.i64 (nvS l 2)),V.v (Value.string w),V.v (Value.string ByteArray.empty),V.v (Value.string ByteArray.empty)]]:=by
  rw [List.map_append];rfl
 rw [hq]
 refine a0k (fun _=>false) Tryz.func93 Tryz.ntmps93 rfl rfl fun G hG hOw hNm=>?_;simp only [go_sem,hG,hOw]
 (repeat' with_reducible first|refine And.intro ?_ ?_|intro _|refine exP ?_ ?_);all_goals try omega
 rotate_left
 ·rename_i h;exact absurd (by decide) h
 refine a0c [(0,1)] [] (hP) ?_
 simp only [go_sem,hG,hOw]
 (repeat' with_reducible first|refine And.intro ?_ ?_|intro _|refine exP ?_ ?_);all_goals try omega
 refine a0c [(0,1)] [] (b0d lo w r hw) ?_
 simp only [go_sem,hG,hOw]
 (repeat' with_reducible first|refine And.intro ?_ ?_|intro _|refine exP ?_ ?_);all_goals try omega
 refine a2o ⟨[2],[(21,[2]),(22,[2])],[]⟩ [(0,false),(1,false),(2,false),(3,false)] mixed (by kernel_rfl) ?_
 simp only [a4b,List.getElem?_cons_zero,List.getElem?_cons_succ]
 simp only [go_sem,hG,hOw]
 (repeat' with_reducible first|refine And.intro ?_ ?_|intro _|refine exP ?_ ?_);all_goals try omega
 exact (a3t [(0,some 0),(1,some 1),(2,some 2),(5,some 20),(4,some 4)])
theorem e3t (lo:Nat) (all:List Si) (l:List ByteArray) (hl:∀ s ∈ l,s.size≤100000) (hp:a4d l=true) (w:ByteArray) (r:List ByteArray) (hd:l.drop 3=w::r) (hw:a1b w=true) (hn:all.length≤1000) :
  Tri Tryz.prog 93 [str a4p,.ptr 1 0,.ptr 0 0,.ptr 2 0] [(0,.box [.own 3 0 all.length 6]),(1,.box [a0o lo l]),(2,.box [.mp 4]),(3,.arr 87 6 (all.map siC)),(4,.map .string (a6f 2))]
   (fun _=>.ret (.tup []) [(0,.box [.own 5 0 (all.length+1) 6]),(1,.box [a0o lo r]),(2,.box [.mp 4]),(5,.arr 87 6 ((all++[(⟨nvS l 0,nvS l 1,nvS l 2,w,⟨#[]⟩,⟨#[]⟩⟩:Si)]).map siC)),(4,.map .string (a6f 2))]):=by
 have hP:=a6m lo l hl
 simp only [hp,hd] at hP
 have hcs:decide (a4p=⟨#[115,108,105,112]⟩)=true:=by decide
 have hq:(all++[(⟨nvS l 0,nvS l 1,nvS l 2,w,⟨#[]⟩,⟨#[]⟩⟩:Si)]).map siC=all.map siC++[[V.v (Value.int IntKind.i64 (nvS l 0)),V.v (Value.int IntKind.i64 (nvS l 1)),V.v (Value.int IntKind.i64 (nvS l 2)),V.v (Value.string w),V.v (Value.string ByteArray.empty),V.v (Value.string ByteArray.empty)]]:=by
  rw [List.map_append];rfl
 rw [hq]
 refine a0k (fun _=>false) Tryz.func93 Tryz.ntmps93 rfl rfl fun G hG hOw hNm=>?_;simp only [go_sem,hG,hOw]
 (repeat' with_reducible first|refine And.intro ?_ ?_|intro _|refine exP ?_ ?_);all_goals try omega
 rotate_left
 ·rename_i h;exact absurd (by decide) h
 refine a0c [(0,1)] [] (hP) ?_
 simp only [go_sem,hG,hOw]
 (repeat' with_reducible first|refine And.intro ?_ ?_|intro _|refine exP ?_ ?_);all_goals try omega
 refine a0c [(0,1)] [] (b0d lo w r hw) ?_
 simp only [go_sem,hG,hOw]
 (repeat' with_reducible first|refine And.intro ?_ ?_|intro _|refine exP ?_ ?_);all_goals try omega
 refine a2o ⟨[2],[(21,[2]),(22,[2])],[]⟩ [(0,false),(1,false),(2,false),(3,false)] mixed (by kernel_rfl) ?_
 simp only [a4b,List.getElem?_cons_zero,List.getElem?_cons_succ]
 simp only [go_sem,hG,hOw]
 (repeat' with_reducible first|refine And.intro ?_ ?_|intro _|refine exP ?_ ?_);all_goals try omega
 exact (a3t [(0,some 0),(1,some 1),(2,some 2),(5,some 20),(4,some 4)])
theorem d7m (lo:Nat) (all:List Si) (l:List ByteArray) (hl:∀ s ∈ l,s.size≤100000) (hp:a4d l=true) (w:ByteArray) (r:List ByteArray) (hd:l.drop 3=w::r) (hw:a1b w=true) (hn:all.length≤1000) :
  Tri Tryz.prog 93 [str a4p,.ptr 1 0,.ptr 0 0,.ptr 2 0] [(0,.box [.own 3 0 all.length 6]),(1,.box [a0o lo l]),(2,.box [.mp 4]),(3,.arr 87 6 (all.map siC)),(4,.map .string (a6f 3))]
   (fun _=>.ret (.tup []) [(0,.box [.own 5 0 (all.length+1) 6]),(1,.box [a0o lo r]),(2,.box [.mp 4]),(5,.arr 87 6 ((all++[(⟨nvS l 0,nvS l 1,nvS l 2,w,⟨#[]⟩,⟨#[]⟩⟩:Si)]).map siC)),(4,.map .string (a6f 3))]):=by
 have hP:=a6m lo l hl
 simp only [hp,hd] at hP
 have hcs:decide (a4p=⟨#[115,108,105,112]⟩)=true:=by decide
 have hq:(all++[(⟨nvS l 0,nvS l 1,nvS l 2,w,⟨#[]⟩,⟨#[]⟩⟩:Si)]).map siC=all.map siC++[[V.v (Value.int IntKind.i64 (nvS l 0)),V.v (Value.int IntKind.i64 (nvS l 1)),V.v (Value.int IntKind.i64 (nvS l 2)),V.v (Value.string w),V.v (Value.string ByteArray.empty),V.v (Value.string ByteArray.empty)]]:=by
  rw [List.map_append];rfl
 rw [hq]
 refine a0k (fun _=>false) Tryz.func93 Tryz.ntmps93 rfl rfl fun G hG hOw hNm=>?_;simp only [go_sem,hG,hOw]
 (repeat' with_reducible first|refine And.intro ?_ ?_|intro _|refine exP ?_ ?_);all_goals try omega
 rotate_left
 ·rename_i h;exact absurd (by decide) h
 refine a0c [(0,1)] [] (hP) ?_
 simp only [go_sem,hG,hOw]
 (repeat' with_reducible first|refine And.intro ?_ ?_|intro _|refine exP ?_ ?_);all_goals try omega
 refine a0c [(0,1)] [] (b0d lo w r hw) ?_
 simp only [go_sem,hG,hOw]
 (repeat' with_reducible first|refine And.intro ?_ ?_|intro _|refine exP ?_ ?_);all_goals try omega
 refine a2o ⟨[2],[(21,[2]),(22,[2])],[]⟩ [(0,false),(1,false),(2,false),(3,false)] mixed (by kernel_rfl) ?_
 simp only [a4b,List.getElem?_cons_zero,List.getElem?_cons_succ]
 simp only [go_sem,hG,hOw]
 (repeat' with_reducible first|refine And.intro ?_ ?_|intro _|refine exP ?_ ?_);all_goals try omega
 exact (a3t [(0,some 0),(1,some 1),(2,some 2),(5,some 20),(4,some 4)])
open Go Pm
set_option maxHeartbeats 4000000
set_option maxRecDepth 100000
theorem e0k (lo:Nat) (all:List Si) (l:List ByteArray) (hl:∀ s ∈ l,s.size≤100000) (hp:a4d l=false) (m:List (Value×V)) :
  Tri Tryz.prog 93 [str a4p,.ptr 1 0,.ptr 0 0,.ptr 2 0] [(0,.box [.own 3 0 all.length 6]),(1,.box [a0o lo l]),(2,.box [.mp 4]),(3,.arr 87 6 (all.map siC)),(4,.map .string m)]
   (fun _=>.pan (wrV 111) []):=by
 have hP:=a6m lo l hl
 simp only [hp] at hP
 refine a0k (fun _=>false) Tryz.func93 Tryz.ntmps93 rfl rfl fun G hG hOw hNm=>?_;simp only [go_sem,hG,hOw]
 (repeat' with_reducible first|refine And.intro ?_ ?_|intro _|refine exP ?_ ?_);all_goals try omega
 rotate_left
 ·rename_i h;exact absurd (by decide) h
 refine a0c [(0,1)] [] (hP) ?_
 simp only [go_sem,hG,hOw]
 exact ⟨rfl,(a3t [])⟩
theorem e2w (lo:Nat) (all:List Si) (l:List ByteArray) (hl:∀ s ∈ l,s.size≤100000) (hp:a4d l=true) (w:ByteArray) (r:List ByteArray) (hd:l.drop 3=w::r) (hw:a1b w=false) (m:List (Value×V)) :
  Tri Tryz.prog 93 [str a4p,.ptr 1 0,.ptr 0 0,.ptr 2 0] [(0,.box [.own 3 0 all.length 6]),(1,.box [a0o lo l]),(2,.box [.mp 4]),(3,.arr 87 6 (all.map siC)),(4,.map .string m)]
   (fun _=>.pan (wrV 111) []):=by
 have hP:=a6m lo l hl
 simp only [hp,hd] at hP
 refine a0k (fun _=>false) Tryz.func93 Tryz.ntmps93 rfl rfl fun G hG hOw hNm=>?_;simp only [go_sem,hG,hOw]
 (repeat' with_reducible first|refine And.intro ?_ ?_|intro _|refine exP ?_ ?_);all_goals try omega
 rotate_left
 ·rename_i h;exact absurd (by decide) h
 refine a0c [(0,1)] [] (hP) ?_
 simp only [go_sem,hG,hOw]
 (repeat' with_reducible first|refine And.intro ?_ ?_|intro _|refine exP ?_ ?_);all_goals try omega
 refine a0c [(0,1)] [] (c0i lo w r hw) ?_
 simp only [go_sem,hG,hOw]
 exact ⟨rfl,(a3t [])⟩
theorem e3x (lo:Nat) (all:List Si) (l:List ByteArray) (hl:∀ s ∈ l,s.size≤100000) (hp:a4d l=true) (w:ByteArray) (r:List ByteArray) (hd:l.drop 3=[]) (hw:a1b w=false) (m:List (Value×V)) :
  Tri Tryz.prog 93 [str a4p,.ptr 1 0,.ptr 0 0,.ptr 2 0] [(0,.box [.own 3 0 all.length 6]),(1,.box [a0o lo l]),(2,.box [.mp 4]),(3,.arr 87 6 (all.map siC)),(4,.map .string m)]
   (fun _=>.pan (wrV 111) []):=by
 have hP:=a6m lo l hl
 simp only [hp,hd] at hP
 refine a0k (fun _=>false) Tryz.func93 Tryz.ntmps93 rfl rfl fun G hG hOw hNm=>?_;simp only [go_sem,hG,hOw]
 (repeat' with_reducible first|refine And.intro ?_ ?_|intro _|refine exP ?_ ?_);all_goals try omega
 rotate_left
 ·rename_i h;exact absurd (by decide) h
 refine a0c [(0,1)] [] (hP) ?_
 simp only [go_sem,hG,hOw]
 (repeat' with_reducible first|refine And.intro ?_ ?_|intro _|refine exP ?_ ?_);all_goals try omega
 refine a0c [(0,1)] [] (d8v lo) ?_
 simp only [go_sem,hG,hOw]
 exact ⟨rfl,(a3t [])⟩
theorem g3a (lo:Nat) (all:List Si) (name:ByteArray) (l:List ByteArray) (hn:¬ name=a4p) (m:List (Value×V)) (hm:lkM m (.string name)=none) :
  Tri Tryz.prog 93 [str name,.ptr 1 0,.ptr 0 0,.ptr 2 0] [(0,.box [.own 3 0 all.length 6]),(1,.box [a0o lo l]),(2,.box [.mp 4]),(3,.arr 87 6 (all.map siC)),(4,.map .string m)]
   (fun _=>.pan (wrV 111) []):=by
 refine a0k (fun _=>false) Tryz.func93 Tryz.ntmps93 rfl rfl fun G hG hOw hNm=>?_;simp only [go_sem,hG,hOw]
 (repeat' with_reducible first|refine And.intro ?_ ?_|intro _|refine exP ?_ ?_);all_goals try omega
 ·rename_i h;exact absurd h hn
 rw [hm]
 refine a0c [] [] (a9j 111) ?_
 simp only [go_sem,hG,hOw]
 exact ⟨rfl,(a3t [])⟩
theorem e9d (lo:Nat) (i:List Si) (s:Si) (r:List ByteArray) (hr:a3q r=true) (hrl:r.length≤1000) (hrs:∀ x ∈ r,x.size≤100000) (hi:i.length≤1000) :
  Tri Tryz.prog 93 [str a1w,.ptr 1 0,.ptr 0 0,.ptr 2 0] [(0,.box [.own 3 0 (i.length+1) 6]),(1,.box [a0o lo r]),(2,.box [.mp 4]),(3,.arr 87 6 (i.map siC++[siC s])),(4,.map .string (a6f 2))]
   (fun _=>.ret (.tup []) [(0,.box [.own 5 0 (i.length+1) 6]),(1,.box [a0o lo []]),(2,.box [.mp 4]),(5,.arr 87 6 (i.map siC++[siC { s with bef:=a0w r }])),(4,.map .string (a6f 1))]):=by
 have hW:=a4k lo r hrl
 simp only [hr,if_true] at hW
 have h1:(((i.length+1:Nat):Int) - 1).toNat=i.length:=by omega
 have g1:∀ (a:List V) (h:i.length < (i.map siC++[a]).length),(i.map siC++[a])[i.length]'h=a:=fun a h=>by simp
 have g2:∀ (a b:List V),(i.map siC++[a]).set i.length b=i.map siC++[b]:=fun a b=>by rw [List.set_append_right _ _ (by simp)];simp
 unfold a1w
 refine a0k (fun _=>false) Tryz.func93 Tryz.ntmps93 rfl rfl fun G hG hOw hNm=>?_;simp only [go_sem,hG,hOw]
 (repeat' with_reducible first|refine And.intro ?_ ?_|intro _|refine exP ?_ ?_);all_goals try omega
 ·rename_i h;exact absurd h (by decide)
 refine a0c [] [] (a3n 111) ?_
 simp (maxSteps:=2000000) only [go_sem,hG,hOw,h1,g1,g2]
 (repeat' with_reducible first|refine And.intro ?_ ?_|intro _|refine exP ?_ ?_);all_goals try omega
 refine a0c [(0,1)] [] (hW) ?_
 simp (maxSteps:=2000000) only [go_sem,hG,hOw,h1,g1,g2]
 (repeat' with_reducible first|refine And.intro ?_ ?_|intro _|refine exP ?_ ?_);all_goals try omega
 refine a0a (b0u r hrl hrs) ?_
 simp (maxSteps:=2000000) only [go_sem,hG,hOw,h1,g1,g2]
 (repeat' with_reducible first|refine And.intro ?_ ?_|intro _|refine exP ?_ ?_);all_goals try omega
 all_goals first|(rename_i h;exact absurd h (by decide))|exact (a3t [(0,some 0),(1,some 1),(2,some 2),(5,some 3),(4,some 4)])
theorem d6c (lo:Nat) (i:List Si) (s:Si) (r:List ByteArray) (hr:a3q r=false) (hrl:r.length≤1000) (hi:i.length≤1000) :
  Tri Tryz.prog 93 [str a1w,.ptr 1 0,.ptr 0 0,.ptr 2 0] [(0,.box [.own 3 0 (i.length+1) 6]),(1,.box [a0o lo r]),(2,.box [.mp 4]),(3,.arr 87 6 (i.map siC++[siC s])),(4,.map .string (a6f 2))]
   (fun _=>.pan (wrV 111) []):=by
 have hW:=a4k lo r hrl
 simp only [hr,Bool.false_eq_true,if_false] at hW
 have h1:(((i.length+1:Nat):Int) - 1).toNat=i.length:=by omega
 have g1:∀ (a:List V) (h:i.length < (i.map siC++[a]).length),(i.map siC++[a])[i.length]'h=a:=fun a h=>by simp
 unfold a1w
 refine a0k (fun _=>false) Tryz.func93 Tryz.ntmps93 rfl rfl fun G hG hOw hNm=>?_;simp only [go_sem,hG,hOw]
 (repeat' with_reducible first|refine And.intro ?_ ?_|intro _|refine exP ?_ ?_);all_goals try omega
 ·rename_i h;exact absurd h (by decide)
 refine a0c [] [] (a3n 111) ?_
 simp (maxSteps:=2000000) only [go_sem,hG,hOw,h1,g1]
 (repeat' with_reducible first|refine And.intro ?_ ?_|intro _|refine exP ?_ ?_);all_goals try omega
 refine a0c [(0,1)] [] (hW) ?_
 simp only [go_sem,hG,hOw]
 exact ⟨rfl,(a3t [])⟩
theorem e5q (lo:Nat) (i:List Si) (s:Si) (r:List ByteArray) (hr:a3q r=true) (hrl:r.length≤1000) (hrs:∀ x ∈ r,x.size≤100000) (hi:i.length≤1000) :
  Tri Tryz.prog 93 [str a1w,.ptr 1 0,.ptr 0 0,.ptr 2 0] [(0,.box [.own 3 0 (i.length+1) 6]),(1,.box [a0o lo r]),(2,.box [.mp 4]),(3,.arr 87 6 (i.map siC++[siC s])),(4,.map .string (a6f 3))]
   (fun _=>.ret (.tup []) [(0,.box [.own 5 0 (i.length+1) 6]),(1,.box [a0o lo []]),(2,.box [.mp 4]),(5,.arr 87 6 (i.map siC++[siC { s with bef:=a0w r }])),(4,.map .string (a6f 1))]):=by
 have hW:=a4k lo r hrl
 simp only [hr,if_true] at hW
 have h1:(((i.length+1:Nat):Int) - 1).toNat=i.length:=by omega
 have g1:∀ (a:List V) (h:i.length < (i.map siC++[a]).length),(i.map siC++[a])[i.length]'h=a:=fun a h=>by simp
 have g2:∀ (a b:List V),(i.map siC++[a]).set i.length b=i.map siC++[b]:=fun a b=>by rw [List.set_append_right _ _ (by simp)];simp
 unfold a1w
 refine a0k (fun _=>false) Tryz.func93 Tryz.ntmps93 rfl rfl fun G hG hOw hNm=>?_;simp only [go_sem,hG,hOw]
 (repeat' with_reducible first|refine And.intro ?_ ?_|intro _|refine exP ?_ ?_);all_goals try omega
 ·rename_i h;exact absurd h (by decide)
 refine a0c [] [] (a3n 111) ?_
 simp (maxSteps:=2000000) only [go_sem,hG,hOw,h1,g1,g2]
 (repeat' with_reducible first|refine And.intro ?_ ?_|intro _|refine exP ?_ ?_);all_goals try omega
 refine a0c [(0,1)] [] (hW) ?_
 simp (maxSteps:=2000000) only [go_sem,hG,hOw,h1,g1,g2]
 (repeat' with_reducible first|refine And.intro ?_ ?_|intro _|refine exP ?_ ?_);all_goals try omega
 refine a0a (b0u r hrl hrs) ?_
 simp (maxSteps:=2000000) only [go_sem,hG,hOw,h1,g1,g2]
 (repeat' with_reducible first|refine And.intro ?_ ?_|intro _|refine exP ?_ ?_);all_goals try omega
 all_goals first|(rename_i h;exact absurd h (by decide))|exact (a3t [(0,some 0),(1,some 1),(2,some 2),(5,some 3),(4,some 4)])
theorem d8h (lo:Nat) (i:List Si) (s:Si) (r:List ByteArray) (hr:a3q r=false) (hrl:r.length≤1000) (hi:i.length≤1000) :
  Tri Tryz.prog 93 [str a1w,.ptr 1 0,.ptr 0 0,.ptr 2 0] [(0,.box [.own 3 0 (i.length+1) 6]),(1,.box [a0o lo r]),(2,.box [.mp 4]),(3,.arr 87 6 (i.map siC++[siC s])),(4,.map .string (a6f 3))]
   (fun _=>.pan (wrV 111) []):=by
 have hW:=a4k lo r hrl
 simp only [hr,Bool.false_eq_true,if_false] at hW
 have h1:(((i.length+1:Nat):Int) - 1).toNat=i.length:=by omega
 have g1:∀ (a:List V) (h:i.length < (i.map siC++[a]).length),(i.map siC++[a])[i.length]'h=a:=fun a h=>by simp
 unfold a1w
 refine a0k (fun _=>false) Tryz.func93 Tryz.ntmps93 rfl rfl fun G hG hOw hNm=>?_;simp only [go_sem,hG,hOw]
 (repeat' with_reducible first|refine And.intro ?_ ?_|intro _|refine exP ?_ ?_);all_goals try omega
 ·rename_i h;exact absurd h (by decide)
 refine a0c [] [] (a3n 111) ?_
 simp (maxSteps:=2000000) only [go_sem,hG,hOw,h1,g1]
 (repeat' with_reducible first|refine And.intro ?_ ?_|intro _|refine exP ?_ ?_);all_goals try omega
 refine a0c [(0,1)] [] (hW) ?_
 simp only [go_sem,hG,hOw]
 exact ⟨rfl,(a3t [])⟩
theorem e7v (lo:Nat) (i:List Si) (s:Si) (r:List ByteArray) (hr:a3q r=true) (hrl:r.length≤1000) (hrs:∀ x ∈ r,x.size≤100000) (hi:i.length≤1000) :
  Tri Tryz.prog 93 [str a2f,.ptr 1 0,.ptr 0 0,.ptr 2 0] [(0,.box [.own 3 0 (i.length+1) 6]),(1,.box [a0o lo r]),(2,.box [.mp 4]),(3,.arr 87 6 (i.map siC++[siC s])),(4,.map .string (a6f 1))]
   (fun _=>.ret (.tup []) [(0,.box [.own 5 0 (i.length+1) 6]),(1,.box [a0o lo []]),(2,.box [.mp 4]),(5,.arr 87 6 (i.map siC++[siC { s with aft:=a0w r }])),(4,.map .string (a6f 0))]):=by
 have hW:=a4k lo r hrl
 simp only [hr,if_true] at hW
 have h1:(((i.length+1:Nat):Int) - 1).toNat=i.length:=by omega
 have g1:∀ (a:List V) (h:i.length < (i.map siC++[a]).length),(i.map siC++[a])[i.length]'h=a:=fun a h=>by simp
 have g2:∀ (a b:List V),(i.map siC++[a]).set i.length b=i.map siC++[b]:=fun a b=>by rw [List.set_append_right _ _ (by simp)];simp
 unfold a2f
 refine a0k (fun _=>false) Tryz.func93 Tryz.ntmps93 rfl rfl fun G hG hOw hNm=>?_;simp only [go_sem,hG,hOw]
 (repeat' with_reducible first|refine And.intro ?_ ?_|intro _|refine exP ?_ ?_);all_goals try omega
 ·rename_i h;exact absurd h (by decide)
 refine a0c [] [] (a3n 111) ?_
 simp (maxSteps:=2000000) only [go_sem,hG,hOw,h1,g1,g2]
 (repeat' with_reducible first|refine And.intro ?_ ?_|intro _|refine exP ?_ ?_);all_goals try omega
 refine a0c [(0,1)] [] (hW) ?_
 simp (maxSteps:=2000000) only [go_sem,hG,hOw,h1,g1,g2]
 (repeat' with_reducible first|refine And.intro ?_ ?_|intro _|refine exP ?_ ?_);all_goals try omega
 refine a0a (b0u r hrl hrs) ?_
 simp (maxSteps:=2000000) only [go_sem,hG,hOw,h1,g1,g2]
 (repeat' with_reducible first|refine And.intro ?_ ?_|intro _|refine exP ?_ ?_);all_goals try omega
 all_goals first|(rename_i h;exact absurd h (by decide))|exact (a3t [(0,some 0),(1,some 1),(2,some 2),(5,some 3),(4,some 4)])
theorem e4h (lo:Nat) (i:List Si) (s:Si) (r:List ByteArray) (hr:a3q r=false) (hrl:r.length≤1000) (hi:i.length≤1000) :
  Tri Tryz.prog 93 [str a2f,.ptr 1 0,.ptr 0 0,.ptr 2 0] [(0,.box [.own 3 0 (i.length+1) 6]),(1,.box [a0o lo r]),(2,.box [.mp 4]),(3,.arr 87 6 (i.map siC++[siC s])),(4,.map .string (a6f 1))]
   (fun _=>.pan (wrV 111) []):=by
 have hW:=a4k lo r hrl
 simp only [hr,Bool.false_eq_true,if_false] at hW
 have h1:(((i.length+1:Nat):Int) - 1).toNat=i.length:=by omega
 have g1:∀ (a:List V) (h:i.length < (i.map siC++[a]).length),(i.map siC++[a])[i.length]'h=a:=fun a h=>by simp
 unfold a2f
 refine a0k (fun _=>false) Tryz.func93 Tryz.ntmps93 rfl rfl fun G hG hOw hNm=>?_;simp only [go_sem,hG,hOw]
 (repeat' with_reducible first|refine And.intro ?_ ?_|intro _|refine exP ?_ ?_);all_goals try omega
 ·rename_i h;exact absurd h (by decide)
 refine a0c [] [] (a3n 111) ?_
 simp (maxSteps:=2000000) only [go_sem,hG,hOw,h1,g1]
 (repeat' with_reducible first|refine And.intro ?_ ?_|intro _|refine exP ?_ ?_);all_goals try omega
 refine a0c [(0,1)] [] (hW) ?_
 simp only [go_sem,hG,hOw]
 exact ⟨rfl,(a3t [])⟩
theorem e9x (lo:Nat) (i:List Si) (s:Si) (r:List ByteArray) (hr:a3q r=true) (hrl:r.length≤1000) (hrs:∀ x ∈ r,x.size≤100000) (hi:i.length≤1000) :
  Tri Tryz.prog 93 [str a2f,.ptr 1 0,.ptr 0 0,.ptr 2 0] [(0,.box [.own 3 0 (i.length+1) 6]),(1,.box [a0o lo r]),(2,.box [.mp 4]),(3,.arr 87 6 (i.map siC++[siC s])),(4,.map .string (a6f 2))]
   (fun _=>.ret (.tup []) [(0,.box [.own 5 0 (i.length+1) 6]),(1,.box [a0o lo []]),(2,.box [.mp 4]),(5,.arr 87 6 (i.map siC++[siC { s with aft:=a0w r }])),(4,.map .string (a6f 0))]):=by
 have hW:=a4k lo r hrl
 simp only [hr,if_true] at hW
 have h1:(((i.length+1:Nat):Int) - 1).toNat=i.length:=by omega
 have g1:∀ (a:List V) (h:i.length < (i.map siC++[a]).length),(i.map siC++[a])[i.length]'h=a:=fun a h=>by simp
 have g2:∀ (a b:List V),(i.map siC++[a]).set i.length b=i.map siC++[b]:=fun a b=>by rw [List.set_append_right _ _ (by simp)];simp
 unfold a2f
 refine a0k (fun _=>false) Tryz.func93 Tryz.ntmps93 rfl rfl fun G hG hOw hNm=>?_;simp only [go_sem,hG,hOw]
 (repeat' with_reducible first|refine And.intro ?_ ?_|intro _|refine exP ?_ ?_);all_goals try omega
 ·rename_i h;exact absurd h (by decide)
 refine a0c [] [] (a3n 111) ?_
 simp (maxSteps:=2000000) only [go_sem,hG,hOw,h1,g1,g2]
 (repeat' with_reducible first|refine And.intro ?_ ?_|intro _|refine exP ?_ ?_);all_goals try omega
 refine a0c [(0,1)] [] (hW) ?_
 simp (maxSteps:=2000000) only [go_sem,hG,hOw,h1,g1,g2]
 (repeat' with_reducible first|refine And.intro ?_ ?_|intro _|refine exP ?_ ?_);all_goals try omega
 refine a0a (b0u r hrl hrs) ?_
 simp (maxSteps:=2000000) only [go_sem,hG,hOw,h1,g1,g2]
 (repeat' with_reducible first|refine And.intro ?_ ?_|intro _|refine exP ?_ ?_);all_goals try omega
 all_goals first|(rename_i h;exact absurd h (by decide))|exact (a3t [(0,some 0),(1,some 1),(2,some 2),(5,some 3),(4,some 4)])
theorem d8e (lo:Nat) (i:List Si) (s:Si) (r:List ByteArray) (hr:a3q r=false) (hrl:r.length≤1000) (hi:i.length≤1000) :
  Tri Tryz.prog 93 [str a2f,.ptr 1 0,.ptr 0 0,.ptr 2 0] [(0,.box [.own 3 0 (i.length+1) 6]),(1,.box [a0o lo r]),(2,.box [.mp 4]),(3,.arr 87 6 (i.map siC++[siC s])),(4,.map .string (a6f 2))]
   (fun _=>.pan (wrV 111) []):=by
 have hW:=a4k lo r hrl
 simp only [hr,Bool.false_eq_true,if_false] at hW
 have h1:(((i.length+1:Nat):Int) - 1).toNat=i.length:=by omega
 have g1:∀ (a:List V) (h:i.length < (i.map siC++[a]).length),(i.map siC++[a])[i.length]'h=a:=fun a h=>by simp
 unfold a2f
 refine a0k (fun _=>false) Tryz.func93 Tryz.ntmps93 rfl rfl fun G hG hOw hNm=>?_;simp only [go_sem,hG,hOw]
 (repeat' with_reducible first|refine And.intro ?_ ?_|intro _|refine exP ?_ ?_);all_goals try omega
 ·rename_i h;exact absurd h (by decide)
 refine a0c [] [] (a3n 111) ?_
 simp (maxSteps:=2000000) only [go_sem,hG,hOw,h1,g1]
 (repeat' with_reducible first|refine And.intro ?_ ?_|intro _|refine exP ?_ ?_);all_goals try omega
 refine a0c [(0,1)] [] (hW) ?_
 simp only [go_sem,hG,hOw]
 exact ⟨rfl,(a3t [])⟩
theorem e7s (lo:Nat) (i:List Si) (s:Si) (r:List ByteArray) (hr:a3q r=true) (hrl:r.length≤1000) (hrs:∀ x ∈ r,x.size≤100000) (hi:i.length≤1000) :
  Tri Tryz.prog 93 [str a2f,.ptr 1 0,.ptr 0 0,.ptr 2 0] [(0,.box [.own 3 0 (i.length+1) 6]),(1,.box [a0o lo r]),(2,.box [.mp 4]),(3,.arr 87 6 (i.map siC++[siC s])),(4,.map .string (a6f 3))]
   (fun _=>.ret (.tup []) [(0,.box [.own 5 0 (i.length+1) 6]),(1,.box [a0o lo []]),(2,.box [.mp 4]),(5,.arr 87 6 (i.map siC++[siC { s with aft:=a0w r }])),(4,.map .string (a6f 0))]):=by
 have hW:=a4k lo r hrl
 simp only [hr,if_true] at hW
 have h1:(((i.length+1:Nat):Int) - 1).toNat=i.length:=by omega
 have g1:∀ (a:List V) (h:i.length < (i.map siC++[a]).length),(i.map siC++[a])[i.length]'h=a:=fun a h=>by simp
 have g2:∀ (a b:List V),(i.map siC++[a]).set i.length b=i.map siC++[b]:=fun a b=>by rw [List.set_append_right _ _ (by simp)];simp
 unfold a2f
 refine a0k (fun _=>false) Tryz.func93 Tryz.ntmps93 rfl rfl fun G hG hOw hNm=>?_;simp only [go_sem,hG,hOw]
 (repeat' with_reducible first|refine And.intro ?_ ?_|intro _|refine exP ?_ ?_);all_goals try omega
 ·rename_i h;exact absurd h (by decide)
 refine a0c [] [] (a3n 111) ?_
 simp (maxSteps:=2000000) only [go_sem,hG,hOw,h1,g1,g2]
 (repeat' with_reducible first|refine And.intro ?_ ?_|intro _|refine exP ?_ ?_);all_goals try omega
 refine a0c [(0,1)] [] (hW) ?_
 simp (maxSteps:=2000000) only [go_sem,hG,hOw,h1,g1,g2]
 (repeat' with_reducible first|refine And.intro ?_ ?_|intro _|refine exP ?_ ?_);all_goals try omega
 refine a0a (b0u r hrl hrs) ?_
 simp (maxSteps:=2000000) only [go_sem,hG,hOw,h1,g1,g2]
 (repeat' with_reducible first|refine And.intro ?_ ?_|intro _|refine exP ?_ ?_);all_goals try omega
 all_goals first|(rename_i h;exact absurd h (by decide))|exact (a3t [(0,some 0),(1,some 1),(2,some 2),(5,some 3),(4,some 4)])
theorem e2x (lo:Nat) (i:List Si) (s:Si) (r:List ByteArray) (hr:a3q r=false) (hrl:r.length≤1000) (hi:i.length≤1000) :
  Tri Tryz.prog 93 [str a2f,.ptr 1 0,.ptr 0 0,.ptr 2 0] [(0,.box [.own 3 0 (i.length+1) 6]),(1,.box [a0o lo r]),(2,.box [.mp 4]),(3,.arr 87 6 (i.map siC++[siC s])),(4,.map .string (a6f 3))]
   (fun _=>.pan (wrV 111) []):=by
 have hW:=a4k lo r hrl
 simp only [hr,Bool.false_eq_true,if_false] at hW
 have h1:(((i.length+1:Nat):Int) - 1).toNat=i.length:=by omega
 have g1:∀ (a:List V) (h:i.length < (i.map siC++[a]).length),(i.map siC++[a])[i.length]'h=a:=fun a h=>by simp
 unfold a2f
 refine a0k (fun _=>false) Tryz.func93 Tryz.ntmps93 rfl rfl fun G hG hOw hNm=>?_;simp only [go_sem,hG,hOw]
 (repeat' with_reducible first|refine And.intro ?_ ?_|intro _|refine exP ?_ ?_);all_goals try omega
 ·rename_i h;exact absurd h (by decide)
 refine a0c [] [] (a3n 111) ?_
 simp (maxSteps:=2000000) only [go_sem,hG,hOw,h1,g1]
 (repeat' with_reducible first|refine And.intro ?_ ?_|intro _|refine exP ?_ ?_);all_goals try omega
 refine a0c [(0,1)] [] (hW) ?_
 simp only [go_sem,hG,hOw]
 exact ⟨rfl,(a3t [])⟩
theorem a9m (l:List Si):l=[]∨∃ i s,l=i++[s]:=by
 rcases List.eq_nil_or_concat l with h|⟨i,s,h⟩
 ·exact .inl h
 ·exact .inr ⟨i,s,by rw [h,List.concat_eq_append]⟩
theorem a3e (f:Si→Si) (i:List Si) (s:Si):b3r f (i++[s])=i++[f s]:=by simp [b3r]
def WOK (s:List Si×Nat):Prop:=s.2≤3∧(1≤s.2→s.1≠[])
theorem g0i {q:Nat} (h:q≤3):1≤upQ q∧upQ q≤3:=by
 unfold upQ
 split
 ·omega
 ·split<;>omega
theorem f0d {s s':List Si×Nat} {name:ByteArray} {rest r':List ByteArray} (hs:WOK s) (h:b0w s name rest=some (s',r')):WOK s'∧s'.1.length≤s.1.length+1:=by
 unfold b0w at h
 split at h
 ·split at h
  ·split at h
   ·split at h
    ·simp only [Option.some.injEq,Prod.mk.injEq] at h
     obtain ⟨rfl,_⟩:=h
     exact ⟨⟨(g0i hs.1).2,fun _=>by simp⟩,by simp⟩
    ·cases h
   ·cases h
  ·cases h
 ·split at h
  ·split at h
   ·rename_i hq
    split at h
    ·simp only [Option.some.injEq,Prod.mk.injEq] at h
     obtain ⟨rfl,_⟩:=h
     rcases a9m s.1 with e|⟨i,x,e⟩
     ·exact absurd e (hs.2 (by omega))
     ·rw [e]
      simp only [a3e]
      exact ⟨⟨by simp,fun _=>by simp⟩,by simp⟩
    ·cases h
   ·cases h
  ·split at h
   ·split at h
    ·rename_i hq
     split at h
     ·simp only [Option.some.injEq,Prod.mk.injEq] at h
      obtain ⟨rfl,_⟩:=h
      rcases a9m s.1 with e|⟨i,x,e⟩
      ·exact absurd e (hs.2 (by omega))
      ·rw [e]
       simp only [a3e]
       exact ⟨⟨by simp,fun h=>absurd h (by simp)⟩,by simp⟩
     ·cases h
    ·cases h
   ·cases h
theorem g0c (lo:Nat) (s s':List Si×Nat) (name:ByteArray) (rest r':List ByteArray) (hw:WOK s) (hs:b0w s name rest=some (s',r')) (hl:∀ s ∈ rest,s.size≤100000) (hrl:rest.length≤1000) (hb:s.1.length≤1000) :
  Tri Tryz.prog 93 [str name,.ptr 1 0,.ptr 0 0,.ptr 2 0] [(0,.box [.own 3 0 s.1.length 6]),(1,.box [a0o lo rest]),(2,.box [.mp 4]),(3,.arr 87 6 (s.1.map siC)),(4,.map .string (a6f s.2))]
   (fun _=>.ret (.tup []) [(0,.box [.own 5 0 s'.1.length 6]),(1,.box [a0o lo r']),(2,.box [.mp 4]),(5,.arr 87 6 (s'.1.map siC)),(4,.map .string (a6f s'.2))]):=by
 obtain ⟨all,q⟩:=s
 obtain ⟨hq,hne⟩:=hw
 simp only at hq hne hb ⊢
 have hq4:q=0∨q=1∨q=2∨q=3:=by omega
 unfold b0w at hs
 simp only at hs
 split at hs
 ·rename_i hn
  subst hn
  split at hs
  ·rename_i hp
   split at hs
   ·rename_i w r hd
    split at hs
    ·rename_i hwd
     simp only [Option.some.injEq,Prod.mk.injEq] at hs
     obtain ⟨rfl,rfl⟩:=hs
     rcases hq4 with rfl|rfl|rfl|rfl
     ·simpa [upQ] using e0t lo all rest hl hp w r hd hwd hb
     ·simpa [upQ] using e2k lo all rest hl hp w r hd hwd hb
     ·simpa [upQ] using e3t lo all rest hl hp w r hd hwd hb
     ·simpa [upQ] using d7m lo all rest hl hp w r hd hwd hb
    ·cases hs
   ·cases hs
  ·cases hs
 ·split at hs
  ·rename_i hn
   subst hn
   split at hs
   ·rename_i h2
    split at hs
    ·rename_i hr
     simp only [Option.some.injEq,Prod.mk.injEq] at hs
     obtain ⟨rfl,rfl⟩:=hs
     rcases a9m all with e|⟨i,x,e⟩
     ·exact absurd e (hne (by omega))
     ·subst e
      simp only [List.length_append,List.length_singleton] at hb
      rcases hq4 with rfl|rfl|rfl|rfl
      ·omega
      ·omega
      ·simpa [a3e] using e9d lo i x rest hr hrl hl (by omega)
      ·simpa [a3e] using e5q lo i x rest hr hrl hl (by omega)
    ·cases hs
   ·cases hs
  ·split at hs
   ·rename_i hn
    subst hn
    split at hs
    ·rename_i h1
     split at hs
     ·rename_i hr
      simp only [Option.some.injEq,Prod.mk.injEq] at hs
      obtain ⟨rfl,rfl⟩:=hs
      rcases a9m all with e|⟨i,x,e⟩
      ·exact absurd e (hne (by omega))
      ·subst e
       simp only [List.length_append,List.length_singleton] at hb
       rcases hq4 with rfl|rfl|rfl|rfl
       ·omega
       ·simpa [a3e] using e7v lo i x rest hr hrl hl (by omega)
       ·simpa [a3e] using e9x lo i x rest hr hrl hl (by omega)
       ·simpa [a3e] using e7s lo i x rest hr hrl hl (by omega)
     ·cases hs
    ·cases hs
   ·cases hs
theorem f5i (q:Nat) (hq:q≤3) (name:ByteArray) (h1:¬ (name=a1w∧2≤q)) (h2:¬ (name=a2f∧1≤q)):lkM (a6f q) (.string name)=none:=by
 have k1:∀ x:ByteArray,b4e (.string x) (.string name)=decide (x=name):=fun x=>rfl
 have hq4:q=0∨q=1∨q=2∨q=3:=by omega
 rcases hq4 with rfl|rfl|rfl|rfl
 ·rfl
 ·have a:¬ a2f=name:=fun e=>h2 ⟨e.symm,by omega⟩
  simp [a6f,lkM,k1,a]
 ·have a:¬ a2f=name:=fun e=>h2 ⟨e.symm,by omega⟩
  have b:¬ a1w=name:=fun e=>h1 ⟨e.symm,by omega⟩
  simp [a6f,lkM,k1,a,b]
 ·have a:¬ a2f=name:=fun e=>h2 ⟨e.symm,by omega⟩
  have b:¬ a1w=name:=fun e=>h1 ⟨e.symm,by omega⟩
  simp [a6f,lkM,k1,a,b]
theorem f5y (lo:Nat) (s:List Si×Nat) (name:ByteArray) (rest:List ByteArray) (hw:WOK s) (hs:b0w s name rest=none) (hl:∀ s ∈ rest,s.size≤100000) (hrl:rest.length≤1000) (hb:s.1.length≤1000) :
  Tri Tryz.prog 93 [str name,.ptr 1 0,.ptr 0 0,.ptr 2 0] [(0,.box [.own 3 0 s.1.length 6]),(1,.box [a0o lo rest]),(2,.box [.mp 4]),(3,.arr 87 6 (s.1.map siC)),(4,.map .string (a6f s.2))]
   (fun _=>.pan (wrV 111) []):=by
 obtain ⟨all,q⟩:=s
 obtain ⟨hq,hne⟩:=hw
 simp only at hq hne hb ⊢
 have hq4:q=0∨q=1∨q=2∨q=3:=by omega
 by_cases hn:name=a4p
 ·subst hn
  cases hp:a4d rest with
  |false=>exact e0k lo all rest hl hp _
  |true =>
   cases hd:rest.drop 3 with
   |nil=>exact e3x lo all rest hl hp ⟨#[]⟩ [] hd (by decide) _
   |cons w r =>
    cases hwd:a1b w with
    |false=>exact e2w lo all rest hl hp w r hd hwd _
    |true=>exfalso;simp [b0w,hp,hd,hwd] at hs
 ·by_cases h1:name=a1w∧2≤q
  ·obtain ⟨rfl,h2⟩:=h1
   cases hr:a3q rest with
   |true=>exfalso;simp [b0w,hn,h2,hr] at hs
   |false =>
    rcases a9m all with e|⟨i,x,e⟩
    ·exact absurd e (hne (by omega))
    ·subst e
     simp only [List.length_append,List.length_singleton] at hb
     rcases hq4 with rfl|rfl|rfl|rfl
     ·omega
     ·omega
     ·simpa using d6c lo i x rest hr hrl (by omega)
     ·simpa using d8h lo i x rest hr hrl (by omega)
  ·by_cases h2:name=a2f∧1≤q
   ·obtain ⟨rfl,h3⟩:=h2
    have hab:¬ a2f=a1w:=by decide
    cases hr:a3q rest with
    |true=>exfalso;simp [b0w,hn,hab,h3,hr] at hs
    |false =>
     rcases a9m all with e|⟨i,x,e⟩
     ·exact absurd e (hne (by omega))
     ·subst e
      simp only [List.length_append,List.length_singleton] at hb
      rcases hq4 with rfl|rfl|rfl|rfl
      ·omega
      ·simpa using e4h lo i x rest hr hrl (by omega)
      ·simpa using d8e lo i x rest hr hrl (by omega)
      ·simpa using e2x lo i x rest hr hrl (by omega)
   ·exact g3a lo all name rest hn _ (f5i q hq name h1 h2)
open Go Pm Go.RowKit Go.Sort
set_option maxHeartbeats 4000000
set_option maxRecDepth 100000
def a9f (s:List Si×Nat) (x:ByteArray):Option (List Si×Nat):=match a1l x with
 |[]=>none
 |name::rest=>match b0w s name rest with
  |some (s',[])=>some s'
  |_=>none
def a4i (s:List Si×Nat):List ByteArray→Option (List Si×Nat)
 |[]=>some s
 |x::l=>(a9f s x).bind fun s'=>a4i s' l
theorem b2o:∀ (l m:List ByteArray) (s:List Si×Nat),a4i s (l++m)=(a4i s l).bind fun s'=>a4i s' m
 |[],m,s=>rfl
 |x::l,m,s=>by
  simp only [List.cons_append,a4i]
  cases a9f s x with
  |none=>rfl
  |some c=>exact b2o l m c
theorem b3b (l:List ByteArray) (s:List Si×Nat) (k:Nat) (hk:k < l.length):a4i s (l.take (k+1))=(a4i s (l.take k)).bind fun s=>a9f s l[k]:=by
 rw [List.take_add_one,List.getElem?_eq_getElem hk,b2o]
 congr 1
 funext s
 simp only [Option.toList,a4i]
 cases a9f s l[k]<;>rfl
theorem c4s {l:List ByteArray} {s0 s:List Si×Nat} {k:Nat} (hk:k < l.length) (h:a4i s0 (l.take k)=some s) (hb:a9f s l[k]=none):a4i s0 l=none:=by
 have h1:a4i s0 (l.take (k+1))=none:=by rw [b3b l s0 k hk,h];simp [hb]
 have h2:=b2o (l.take (k+1)) (l.drop (k+1)) s0
 rw [List.take_append_drop] at h2
 rw [h2,h1];rfl
def W0:List Si×Nat:=([],0)
theorem g4d:WOK W0:=⟨by decide,fun h=>absurd h (by decide)⟩
theorem e8c (r:List ByteArray) (hr:∀ x ∈ r,x.size≤160) (hl:r.length≤161):(a0w r).size≤100000:=by
 have:=f0f 160 r hr
 have h2:(160+1) * r.length≤161 * 161:=Nat.mul_le_mul (by decide) hl
 omega
theorem e1r {s s':List Si×Nat} {name:ByteArray} {rest r':List ByteArray} (hs:WOK s) (hr:∀ x ∈ rest,x.size≤160) (hl:rest.length≤161) (hb:∀ x ∈ s.1,bdS x) (h:b0w s name rest=some (s',r')):∀ x ∈ s'.1,bdS x:=by
 have hj:=e8c rest hr hl
 unfold b0w at h
 split at h
 ·split at h
  ·split at h
   ·rename_i w r hd
    split at h
    ·rename_i hw
     simp only [Option.some.injEq,Prod.mk.injEq] at h
     obtain ⟨rfl,_⟩:=h
     have:=(a2n hw).2
     intro x hx
     rcases List.mem_append.1 hx with hx|hx
     ·exact hb x hx
     ·simp at hx;subst hx;exact ⟨by simp only;omega,by show 0≤_;omega,by show 0≤_;omega⟩
    ·cases h
   ·cases h
  ·cases h
 ·split at h
  ·split at h
   ·split at h
    ·simp only [Option.some.injEq,Prod.mk.injEq] at h
     obtain ⟨rfl,_⟩:=h
     rcases a9m s.1 with e|⟨i,x,e⟩
     ·rw [e];simp [b3r]
     ·rw [e] at hb
      rw [e]
      simp only [a3e]
      intro y hy
      rcases List.mem_append.1 hy with hy|hy
      ·exact hb y (by simp [hy])
      ·simp at hy;subst hy
       obtain ⟨q1,q2,q3⟩:=hb x (by simp)
       exact ⟨q1,hj,q3⟩
    ·cases h
   ·cases h
  ·split at h
   ·split at h
    ·split at h
     ·simp only [Option.some.injEq,Prod.mk.injEq] at h
      obtain ⟨rfl,_⟩:=h
      rcases a9m s.1 with e|⟨i,x,e⟩
      ·rw [e];simp [b3r]
      ·rw [e] at hb
       rw [e]
       simp only [a3e]
       intro y hy
       rcases List.mem_append.1 hy with hy|hy
       ·exact hb y (by simp [hy])
       ·simp at hy;subst hy
        obtain ⟨q1,q2,q3⟩:=hb x (by simp)
        exact ⟨q1,q2,hj⟩
     ·cases h
    ·cases h
   ·cases h
theorem e7h {s s':List Si×Nat} {x:ByteArray} (hx:x.size≤160) (hs:WOK s) (hb:∀ x ∈ s.1,bdS x) (h:a9f s x=some s'):WOK s'∧s'.1.length≤s.1.length+1∧∀ x ∈ s'.1,bdS x:=by
 unfold a9f at h
 split at h
 ·cases h
 ·rename_i name rest hp
  split at h
  ·rename_i t hst
   cases h
   obtain ⟨q1,q2⟩:=f0d hs hst
   refine ⟨q1,q2,e1r hs (fun y hy=>?_) ?_ hb hst⟩
   ·have:=b5q x y (by rw [hp];simp [hy]);omega
   ·have:=b0a x;rw [hp] at this;simp at this;omega
  ·cases h
theorem c0j {l:List ByteArray} (hl:∀ x ∈ l,x.size≤160):∀ {k:Nat} {s:List Si×Nat},k≤l.length→a4i W0 (l.take k)=some s→WOK s∧s.1.length≤k∧∀ x ∈ s.1,bdS x
 |0,s,_,h=>by
  simp [a4i] at h
  subst h
  exact ⟨g4d,by simp [W0],by simp [W0]⟩
 |k+1,s,hk,h=>by
  rw [b3b l W0 k (by omega)] at h
  simp only [Option.bind_eq_some_iff] at h
  obtain ⟨u,h1,h2⟩:=h
  obtain ⟨a,b,c⟩:=c0j hl (by omega) h1
  obtain ⟨a',b',c'⟩:=e7h (hl _ (List.getElem_mem (by omega))) a c h2
  exact ⟨a',by omega,c'⟩
theorem d1q (q:Nat) (p:Nat→Bool) (lo:Nat) (s:St):(a6f q).map (fun e=>(e.1,vwF p lo s 4 e.2))=a6f q:=by
 unfold a6f
 split<;>rfl
theorem e9m (q:Nat) (ρ:Ren):(a6f q).map (fun e=>(e.1,b7e ρ 4 e.2))=a6f q:=by
 unfold a6f
 split<;>rfl
theorem c0z (ρ:Ren) (q q':Nat) (hq:q=q'):okL (okN ρ 4) ((a6f q).map (fun p=>p.2)) ((a6f q').map (fun p=>p.2))=True:=by
 subst hq
 have h:okN ρ 4 (bl true) (bl true):=rfl
 unfold a6f
 split
 ·exact eq_true trivial
 ·exact eq_true ⟨h,trivial⟩
 ·exact eq_true ⟨h,h,trivial⟩
 ·exact eq_true ⟨h,h,trivial⟩
def g5f (q:Nat):Nat:=(a6f q).length
theorem a9v (q:Nat):(a6f q).map (fun p=>p.2)=List.replicate (g5f q) (.v (.bool true)):=by
 unfold g5f a6f
 split<;>rfl
theorem d3y (l:List ByteArray) (h:a1d l=false):Tri Tryz.prog 73 [a0o 0 l,.fn (.func 93) [.ptr 0 0,.ptr 1 0]] [(0,.box [.v (.slice none 0 0)]),(1,.box [.mp 2]),(2,.map .string [])] (fun _=>.pan (wrV 110) []):=by
 refine a0k (fun _=>false) Tryz.func73 Tryz.ntmps73 rfl rfl fun G hG hOw hNm=>?_;simp only [go_sem,hG,hOw]
 (repeat' with_reducible first|refine And.intro ?_ ?_|intro _|refine exP ?_ ?_);all_goals try omega
 refine a0a (a6z l) ?_
 rw [h]
 simp only [go_sem,hG,hOw]
 (repeat' with_reducible first|refine And.intro ?_ ?_|intro _|refine exP ?_ ?_);all_goals try omega
 refine a0c [] [] (a9j 110) ?_
 simp only [go_sem,hG,hOw]
 exact ⟨rfl,(a3t [])⟩
theorem b9w (l:List ByteArray) (h:a1d l=true):Tri Tryz.prog 73 [a0o 0 l,.fn (.func 93) [.ptr 0 0,.ptr 1 0]] [(0,.box [.v (.slice none 0 0)]),(1,.box [.mp 2]),(2,.map .string [])] (fun _=>match a4i W0 l with
  |some s=>.ret (.tup []) [(0,.box [sis 0 s.1])]
  |none=>.pan (wrV 111) []):=by
 obtain ⟨hl1,hl2⟩:=d0a h
 refine a0k (fun _=>false) Tryz.func73 Tryz.ntmps73 rfl rfl fun G hG hOw hNm=>?_;simp only [go_sem,hG,hOw]
 (repeat' with_reducible first|refine And.intro ?_ ?_|intro _|refine exP ?_ ?_);all_goals try omega
 refine a0a (a6z l) ?_
 rw [h]
 simp only [go_sem,hG,hOw]
 (repeat' with_reducible first|refine And.intro ?_ ?_|intro _|refine exP ?_ ?_);all_goals try omega
 refine a0c [] [] (a3n 110) ?_
 simp only [go_sem,hG,hOw]
 (repeat' with_reducible first|refine And.intro ?_ ?_|intro _|refine exP ?_ ?_);all_goals try omega
 have e0:W0.1=[]:=rfl
 have e1:a6f W0.2=[]:=rfl
 refine a2s (fun s:List Si×Nat=>St.of [] [(0,.box [sis 0 s.1]),(1,.box [.mp 2]),(2,.map .string (a6f s.2))]) (fun s=>a4i W0 l=some s) ?_ ?_
 ·refine a0i (fun x:Nat×(List Si×Nat)=>St.of [(1,.fn (.func 93) [.ptr 0 0,.ptr 1 0]),(11,a0o 0 l),(12,i64 l.length),(13,i64 x.1)] [(0,.box [.own 100 0 x.2.1.length 6]),(1,.box [.mp 2]),(2,.map .string (a6f x.2.2)),(100,.arr 87 6 (x.2.1.map siC))]) (fun x=>x.1≤l.length∧a4i W0 (l.take x.1)=some x.2) (fun x=>l.length - x.1) (0,W0) ⟨by simp,by simp [a4i]⟩ (a1i [(0,some 0),(1,some 1),(2,some 2),(100,none)] (by (simp only [e0,e1,List.map_nil,List.length_nil,go_sem])<;>simp [e0,e1,List.map_nil,List.length_nil]) (by (simp only [e0,e1,List.map_nil,List.length_nil,go_sem,a1k,a0s,a0j,a1q])<;>simp [e0,e1,List.map_nil,List.length_nil]) (by simp [a2r,apart]) (by simp [a0q,usH]) (by simp [hNm,lkR,a0z])) ?_
  rintro ⟨k,s⟩ ⟨hk,hrd⟩
  simp only at hk hrd
  obtain ⟨hwk,hbd,_⟩:=c0j hl2 hk hrd
  refine a0d _ _ _ ?_;simp only [go_sem,hG,hOw]
  (repeat' with_reducible first|refine And.intro ?_ ?_|intro _|refine exP ?_ ?_);all_goals try omega
  ·rename_i hlt
   have hkl:k < l.length:=by omega
   have hsz:=hl2 _ (List.getElem_mem hkl)
   refine a0a (d1t l[k] (by omega)) ?_
   obtain ⟨name,rest,hp⟩:∃ name rest,a1l l[k]=name::rest:=by
    cases hq:a1l l[k] with
    |nil=>exact (c5m _ hq).elim
    |cons a b=>exact ⟨a,b,rfl⟩
   have hpl:rest.length≤1000:=by have:=b0a l[k];rw [hp] at this;simp at this;omega
   have hps:∀ s ∈ rest,s.size≤100000:=fun s hs=>by have:=b5q l[k] s (by rw [hp];simp [hs]);omega
   rw [hp]
   simp only [go_sem,hG,hOw]
   (repeat' with_reducible first|refine And.intro ?_ ?_|intro _|refine exP ?_ ?_);all_goals try omega
   refine a0c [(0,20)] [] (b1f G.lo name rest) ?_
   simp only [go_sem,hG,hOw]
   (repeat' with_reducible first|refine And.intro ?_ ?_|intro _|refine exP ?_ ?_);all_goals try omega
   cases hst:b0w s name rest with
   |none =>
    have hno:a4i W0 l=none:=c4s hkl hrd (by unfold a9f;rw [hp];simp only [hst])
    rw [hno]
    refine a0c [(0,0),(1,20),(2,1),(3,100),(4,2)] [] (f5y G.lo s name rest hwk hst hps hpl (by omega)) ?_ (by (simp only [go_sem])<;>simp [a9v,b0t,okN]) (by (simp only [go_sem,a1k,a0s,a0j,a1q])<;>simp [a9v,b0t,okN]) (by simp [a0q,usH,toR,a9v,b0t,okN])
    simp only [go_sem,hG,hOw]
    exact ⟨rfl,(a3t [])⟩
   |some q =>
    obtain ⟨s',r'⟩:=q
    refine a0c [(0,0),(1,20),(2,1),(3,100),(4,2)] [(5,204)] (g0c G.lo s s' name rest r' hwk hst hps hpl (by omega)) ?_ (by (simp only [go_sem])<;>simp [a9v,b0t,okN]) (by (simp only [go_sem,a1k,a0s,a0j,a1q])<;>simp [a9v,b0t,okN]) (by simp [a0q,usH,toR,a9v,b0t,okN])
    simp (maxSteps:=2000000) only [go_sem,hG,hOw,↓e9m]
    (repeat' with_reducible first|refine And.intro ?_ ?_|intro _|refine exP ?_ ?_);all_goals try omega
    ·rename_i hr0
     have hr0:r'=[]:=List.eq_nil_of_length_eq_zero (by omega)
     subst hr0
     have hsF:a9f s l[k]=some s':=by unfold a9f;rw [hp];simp only [hst]
     exact ⟨(k+1,s'),⟨by show k+1≤_;omega,by rw [b3b l W0 k hkl,hrd];simp [hsF]⟩,by show l.length - (k+1) < _;omega,a1i [(0,some 0),(1,some 1),(2,some 2),(100,some 204)] (by (simp only [↓c0z,go_sem])<;>simp []) (by (simp only [↓c0z,go_sem,a1k,a0s,a0j,a1q])<;>simp []) (by simp [a2r,apart]) (by simp [a0q,usH]) (by simp [hNm,lkR,a0z])⟩
    ·rename_i hr0
     have hno:a4i W0 l=none:=c4s hkl hrd (by
      unfold a9f;rw [hp];simp only [hst]
      cases r' with
      |nil=>exact (hr0 rfl).elim
      |cons a b=>rfl)
     rw [hno]
     refine d0l [.int .i64 111] rfl rfl (by kernel_rfl) (by simp [chk,hG]) ?_
     simp only [go_sem,hG,hOw]
     (repeat' with_reducible first|refine And.intro ?_ ?_|intro _|refine exP ?_ ?_);all_goals try omega
     refine b8e rfl rfl ?_
     exact ⟨rfl,(a3t [])⟩
  ·rename_i hge
   obtain rfl:k=l.length:=by omega
   rw [List.take_length] at hrd
   refine ⟨s,hrd,b5h (fun i=>i == 100) ?_⟩
   have hN:Pm.Sub (.lst G.lo 6 (s.1.map siC)) (.lst 0 6 (s.1.map siC)):=Sub.lo (Nat.zero_le _)
   have hT:List.take s.1.length (s.1.map siC)=s.1.map siC:=List.take_of_length_le (by simp)
   exact a1i [(0,some 0),(1,some 1),(2,some 2)] (by (simp only [hT,hN,↓d1q,↓c0z,go_sem])<;>simp [hT,hN]) (by (simp only [hT,hN,↓d1q,↓c0z,go_sem,a1k,a0s,a0j,a1q])<;>simp [hT,hN]) (by simp [a2r,apart]) (by simp [a0q,usH]) (by simp [hNm,lkR,a0z])
 ·rintro s hs
  rw [hs]
  simp only [go_sem,hG,hOw]
  (repeat' with_reducible first|refine And.intro ?_ ?_|intro _|refine exP ?_ ?_);all_goals try omega
  exact (a3t [(0,some 0)])
end Go.Proofs.YtmjhfccbbfpppaaGreatDoor
