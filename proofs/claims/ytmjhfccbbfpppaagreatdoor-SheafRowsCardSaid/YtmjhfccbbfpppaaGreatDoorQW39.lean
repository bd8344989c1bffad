import Derived.Test.YtmjhfccbbfpppaaGreatDoorQW28
import Derived.Test.YtmjhfccbbfpppaaGreatDoorQW37
import Derived.Test.YtmjhfccbbfpppaaGreatDoorQW38
namespace Go.Proofs.YtmjhfccbbfpppaaGreatDoor
open Go Pm
set_option linter.unusedSimpArgs false
set_option linter.unusedVariables false
set_option maxHeartbeats 4000000
set_option maxRecDepth 100000
def a7h (q:Nat):List (Value×V):=match q with
 |0=>[]
 |1=>[(.string a2u,bl true)]
 |2=>[(.string a2m,bl true),(.string a2u,bl true)]
 |_=>[(.string a2u,bl true),(.string a2m,bl true)]
theorem g1p:a7h 0=[]:=rfl
theorem g0c:a7h 1=[(.string ⟨#[97,102,116,101,114]⟩,bl true)]:=rfl
theorem g2e:a7h 2=[(.string ⟨#[98,101,102,111,114,101]⟩,bl true),(.string ⟨#[97,102,116,101,114]⟩,bl true)]:=rfl
theorem g0a:a7h 3=[(.string ⟨#[97,102,116,101,114]⟩,bl true),(.string ⟨#[98,101,102,111,114,101]⟩,bl true)]:=rfl
attribute [go_sem] g1p g0c g2e g0a
theorem g4o:b5t (.string ⟨#[98,101,102,111,114,101]⟩) (.string ⟨#[97,102,116,101,114]⟩)=false:=by decide
theorem g5p:b5t (.string ⟨#[97,102,116,101,114]⟩) (.string ⟨#[98,101,102,111,114,101]⟩)=false:=by decide
theorem g5d:b5t (.string ⟨#[97,102,116,101,114]⟩) (.string ⟨#[97,102,116,101,114]⟩)=true:=by decide
theorem g5v:b5t (.string ⟨#[98,101,102,111,114,101]⟩) (.string ⟨#[98,101,102,111,114,101]⟩)=true:=by decide
attribute [go_sem] g4o g5p g5d g5v
def upQ (q:Nat):Nat:=if q=0 then 2 else if q=1 then 3 else q
def b1z (f:Si→Si) (l:List Si):List Si:=match l.getLast? with
 |some s=>l.dropLast++[f s]
 |none=>l
def b2l (s:List Si×Nat) (name:ByteArray) (rest:List ByteArray):Option ((List Si×Nat)×List ByteArray) :=
 if name=a6c then (if a2t rest then (match rest.drop 3 with
   |w::r=>if a1i w then some ((s.1++[⟨nvS rest 0,nvS rest 1,nvS rest 2,w,⟨#[]⟩,⟨#[]⟩⟩],upQ s.2),r) else none
   |[]=>none) else none)
 else if name=a2m then (if 2≤s.2 then (if a3e rest then some ((b1z (fun x=>{ x with bef:=a1b rest }) s.1,1),[]) else none) else none)
 else if name=a2u then (if 1≤s.2 then (if a3e rest then some ((b1z (fun x=>{ x with aft:=a1b rest }) s.1,0),[]) else none) else none)
 else none
theorem e2o (lo:Nat) (all:List Si) (l:List ByteArray) (hl:∀ s ∈ l,s.size≤100000) (hp:a2t l=true) (w:ByteArray) (r:List ByteArray) (hd:l.drop 3=w::r) (hw:a1i w=true) (hn:all.length≤1000) :
  Tri Tryz.prog 93 [str a6c,.ptr 1 0,.ptr 0 0,.ptr 2 0] [(0,.box [.own 3 0 all.length 6]),(1,.box [a0h lo l]),(2,.box [.mp 4]),(3,.arr 87 6 (all.map siC)),(4,.map .string (a7h 0))]
   (fun _=>.ret (.tup []) [(0,.box [.own 5 0 (all.length+1) 6]),(1,.box [a0h lo r]),(2,.box [.mp 4]),(5,.arr 87 6 ((all++[(⟨nvS l 0,nvS l 1,nvS l 2,w,⟨#[]⟩,⟨#[]⟩⟩:Si)]).map siC)),(4,.map .string (a7h 2))]):=by
 have hP:=a2p lo l hl
 simp only [hp,hd] at hP
 have hcs:decide (a6c=⟨#[115,108,105,112]⟩)=true:=by decide
 have hq:(all++[(⟨nvS l 0,nvS l 1,nvS l 2,w,⟨#[]⟩,⟨#[]⟩⟩:Si)]).map siC=all.map siC++[[V.v (Value.int IntKind.i64 (nvS l 0)),V.v (Value.int IntKind.i64 (nvS l 1)),V.v (Value.int IntKind.i64 (nvS l 2)),V.v (Value.string w),V.v (Value.string ByteArray.empty),V.v (Value.string ByteArray.empty)]]:=by
  rw [List.map_append];rfl
 rw [hq]
 refine a0d (fun _=>false) Tryz.func93 Tryz.ntmps93 rfl rfl fun G hG hOw hNm=>?_;simp only [go_sem,hG,hOw]
 (repeat' with_reducible first|refine And.intro ?_ ?_|intro _|refine exP ?_ ?_);all_goals try omega
 rotate_left
 ·rename_i h;exact absurd (by decide) h
 refine a0b [(0,1)] [] (hP) ?_
 simp only [go_sem,hG,hOw]
 (repeat' with_reducible first|refine And.intro ?_ ?_|intro _|refine exP ?_ ?_);all_goals try omega
 refine a0b [(0,1)] [] (a7c lo w r hw) ?_
 simp only [go_sem,hG,hOw]
 (repeat' with_reducible first|refine And.intro ?_ ?_|intro _|refine exP ?_ ?_);all_goals try omega
 refine a1s ⟨[2],[(21,[2]),(22,[2])],[]⟩ [(0,false),(1,false),(2,false),(3,false)] mixed (by kernel_rfl) ?_
 simp only [a2v,List.getElem?_cons_zero,List.getElem?_cons_succ]
 simp only [go_sem,hG,hOw]
 (repeat' with_reducible first|refine And.intro ?_ ?_|intro _|refine exP ?_ ?_);all_goals try omega
 exact (a1u [(0,some 0),(1,some 1),(2,some 2),(5,some 20),(4,some 4)])
theorem e1p (lo:Nat) (all:List Si) (l:List ByteArray) (hl:∀ s ∈ l,s.size≤100000) (hp:a2t l=true) (w:ByteArray) (r:List ByteArray) (hd:l.drop 3=w::r) (hw:a1i w=true) (hn:all.length≤1000) :
  Tri Tryz.prog 93 [str a6c,.ptr 1 0,.ptr 0 0,.ptr 2 0] [(0,.box [.own 3 0 all.length 6]),(1,.box [a0h lo l]),(2,.box [.mp 4]),(3,.arr 87 6 (all.map siC)),(4,.map .string (a7h 1))]
   (fun _=>.ret (.tup []) [(0,.box [.own 5 0 (all.length+1) 6]),(1,.box [a0h lo r]),(2,.box [.mp 4]),(5,.arr 87 6 ((all++[(⟨nvS l 0,nvS l 1,nvS l 2,w,⟨#[]⟩,⟨#[]⟩⟩:Si)]).map siC)),(4,.map .string (a7h 3))]):=by
 have hP:=a2p lo l hl
 simp only [hp,hd] at hP
 have hcs:decide (a6c=⟨#[115,108,105,112]⟩)=true:=by decide
 have hq:(all++[(⟨nvS l 0,nvS l 1,nvS l 2,w,⟨#[]⟩,⟨#[]⟩⟩:Si)]).map siC=all.map siC++[[V.v (Value.int IntKind.i64 (nvS l 0)),V.v (Value.int IntKind.i64 (nvS l 1)),V.v (Value.int IntKind.i64 (nvS l 2)),V.v (Value.string w),V.v (Value.string ByteArray.empty),V.v (Value.string ByteArray.empty)]]:=by
  rw [List.map_append];rfl
 rw [hq]
 refine a0d (fun _=>false) Tryz.func93 Tryz.ntmps93 rfl rfl fun G hG hOw hNm=>?_;simp only [go_sem,hG,hOw]
 (repeat' with_reducible first|refine And.intro ?_ ?_|intro _|refine exP ?_ ?_);all_goals try omega
 rotate_left
 ·rename_i h;exact absurd (by decide) h
 refine a0b [(0,1)] [] (hP) ?_
 simp only [go_sem,hG,hOw]
 (repeat' with_reducible first|refine And.intro ?_ ?_|intro _|refine exP ?_ ?_);all_goals try omega
 refine a0b [(0,1)] [] (a7c lo w r hw) ?_
 simp only [go_sem,hG,hOw]
 (repeat' with_reducible first|refine And.intro ?_ ?_|intro _|refine exP ?_ ?_);all_goals try omega
 refine a1s ⟨[2],[(21,[2]),(22,[2])],[]⟩ [(0,false),(1,false),(2,false),(3,false)] mixed (by kernel_rfl) ?_
 simp only [a2v,List.getElem?_cons_zero,List.getElem?_cons_succ]
 simp only [go_sem,hG,hOw]
 (repeat' with_reducible first|refine And.intro ?_ ?_|intro _|refine exP ?_ ?_);all_goals try omega
 exact (a1u [(0,some 0),(1,some 1),(2,some 2),(5,some 20),(4,some 4)])
theorem e2b (lo:Nat) (all:List Si) (l:List ByteArray) (hl:∀ s ∈ l,s.size≤100000) (hp:a2t l=true) (w:ByteArray) (r:List ByteArray) (hd:l.drop 3=w::r) (hw:a1i w=true) (hn:all.length≤1000) :
  Tri Tryz.prog 93 [str a6c,.ptr 1 0,.ptr 0 0,.ptr 2 0] [(0,.box [.own 3 0 all.length 6]),(1,.box [a0h lo l]),(2,.box [.mp 4]),(3,.arr 87 6 (all.map siC)),(4,.map .string (a7h 2))]
   (fun _=>.ret (.tup []) [(0,.box [.own 5 0 (all.length+1) 6]),(1,.box [a0h lo r]),(2,.box [.mp 4]),(5,.arr 87 6 ((all++[(⟨nvS l 0,nvS l 1,nvS l 2,w,⟨#[]⟩,⟨#[]⟩⟩:Si)]).map siC)),(4,.map .string (a7h 2))]):=by
 have hP:=a2p lo l hl
 simp only [hp,hd] at hP
 have hcs:decide (a6c=⟨#[115,108,105,112]⟩)=true:=by decide
 have hq:(all++[(⟨nvS l 0,nvS l 1,nvS l 2,w,⟨#[]⟩,⟨#[]⟩⟩:Si)]).map siC=all.map siC++[[V.v (Value.int IntKind.i64 (nvS l 0)),V.v (Value.int IntKind.i64 (nvS l 1)),V.v (Value.int IntKind.i64 (nvS l 2)),V.v (Value.string w),V.v (Value.string ByteArray.empty),V.v (Value.string ByteArray.empty)]]:=by
  rw [List.map_append];rfl
 rw [hq]
 refine a0d (fun _=>false) Tryz.func93 Tryz.ntmps93 rfl rfl fun G hG hOw hNm=>?_;simp only [go_sem,hG,hOw]
 (repeat' with_reducible first|refine And.intro ?_ ?_|intro _|refine exP ?_ ?_);all_goals try omega
 rotate_left
 ·rename_i h;exact absurd (by decide) h
 refine a0b [(0,1)] [] (hP) ?_
 simp only [go_sem,hG,hOw]
 (repeat' with_reducible first|refine And.intro ?_ ?_|intro _|refine exP ?_ ?_);all_goals try omega
 refine a0b [(0,1)] [] (a7c lo w r hw) ?_
 simp only [go_sem,hG,hOw]
 (repeat' with_reducible first|refine And.intro ?_ ?_|intro _|refine exP ?_ ?_);all_goals try omega
 refine a1s ⟨[2],[(21,[2]),(22,[2])],[]⟩ [(0,false),(1,false),(2,false),(3,false)] mixed (by kernel_rfl) ?_
 simp only [a2v,List.getElem?_cons_zero,List.getElem?_cons_succ]
 simp only [go_sem,hG,hOw]
 (repeat' with_reducible first|refine And.intro ?_ ?_|intro _|refine exP ?_ ?_);all_goals try omega
 exact (a1u [(0,some 0),(1,some 1),(2,some 2),(5,some 20),(4,some 4)])
theorem e0u (lo:Nat) (all:List Si) (l:List ByteArray) (hl:∀ s ∈ l,s.size≤100000) (hp:a2t l=true) (w:ByteArray) (r:List ByteArray) (hd:l.drop 3=w::r) (hw:a1i w=true) (hn:all.length≤1000) :
  Tri Tryz.prog 93 [str a6c,.ptr 1 0,.ptr 0 0,.ptr 2 0] [(0,.box [.own 3 0 all.length 6]),(1,.box [a0h lo l]),(2,.box [.mp 4]),(3,.arr 87 6 (all.map siC)),(4,.map .string (a7h 3))]
   (fun _=>.ret (.tup []) [(0,.box [.own 5 0 (all.length+1) 6]),(1,.box [a0h lo r]),(2,.box [.mp 4]),(5,.arr 87 6 ((all++[(⟨nvS l 0,nvS l 1,nvS l 2,w,⟨#[]⟩,⟨#[]⟩⟩:Si)]).map siC)),(4,.map .string (a7h 3))]):=by
 have hP:=a2p lo l hl
 simp only [hp,hd] at hP
 have hcs:decide (a6c=⟨#[115,108,105,112]⟩)=true:=by decide
 have hq:(all++[(⟨nvS l 0,nvS l 1,nvS l 2,w,⟨#[]⟩,⟨#[]⟩⟩:Si)]).map siC=all.map siC++[[V.v (Value.int IntKind.i64 (nvS l 0)),V.v (Value.int IntKind.i64 (nvS l 1)),V.v (Value.int IntKind.i64 (nvS l 2)),V.v (Value.string w),V.v (Value.string ByteArray.empty),V.v (Value.string ByteArray.empty)]]:=by
  rw [List.map_append];rfl
 rw [hq]
 refine a0d (fun _=>false) Tryz.func93 Tryz.ntmps93 rfl rfl fun G hG hOw hNm=>?_;simp only [go_sem,hG,hOw]
 (repeat' with_reducible first|refine And.intro ?_ ?_|intro _|refine exP ?_ ?_);all_goals try omega
 rotate_left
 ·rename_i h;exact absurd (by decide) h
 refine a0b [(0,1)] [] (hP) ?_
 simp only [go_sem,hG,hOw]
 (repeat' with_reducible first|refine And.intro ?_ ?_|intro _|refine exP ?_ ?_);all_goals try omega
 refine a0b [(0,1)] [] (a7c lo w r hw) ?_
 simp only [go_sem,hG,hOw]
 (repeat' with_reducible first|refine And.intro ?_ ?_|intro _|refine exP ?_ ?_);all_goals try omega
 refine a1s ⟨[2],[(21,[2]),(22,[2])],[]⟩ [(0,false),(1,false),(2,false),(3,false)] mixed (by kernel_rfl) ?_
 simp only [a2v,List.getElem?_cons_zero,List.getElem?_cons_succ]
 simp only [go_sem,hG,hOw]
 (repeat' with_reducible first|refine And.intro ?_ ?_|intro _|refine exP ?_ ?_);all_goals try omega
 exact (a1u [(0,some 0),(1,some 1),(2,some 2),(5,some 20),(4,some 4)])
open Go Pm
set_option maxHeartbeats 4000000
set_option maxRecDepth 100000
theorem e5f (lo:Nat) (all:List Si) (l:List ByteArray) (hl:∀ s ∈ l,s.size≤100000) (hp:a2t l=false) (m:List (Value×V)) :
  Tri Tryz.prog 93 [str a6c,.ptr 1 0,.ptr 0 0,.ptr 2 0] [(0,.box [.own 3 0 all.length 6]),(1,.box [a0h lo l]),(2,.box [.mp 4]),(3,.arr 87 6 (all.map siC)),(4,.map .string m)]
   (fun _=>.pan (wrV 111) []):=by
 have hP:=a2p lo l hl
 simp only [hp] at hP
 refine a0d (fun _=>false) Tryz.func93 Tryz.ntmps93 rfl rfl fun G hG hOw hNm=>?_;simp only [go_sem,hG,hOw]
 (repeat' with_reducible first|refine And.intro ?_ ?_|intro _|refine exP ?_ ?_);all_goals try omega
 rotate_left
 ·rename_i h;exact absurd (by decide) h
 refine a0b [(0,1)] [] (hP) ?_
 simp only [go_sem,hG,hOw]
 exact ⟨rfl,(a1u [])⟩
theorem e3a (lo:Nat) (all:List Si) (l:List ByteArray) (hl:∀ s ∈ l,s.size≤100000) (hp:a2t l=true) (w:ByteArray) (r:List ByteArray) (hd:l.drop 3=w::r) (hw:a1i w=false) (m:List (Value×V)) :
  Tri Tryz.prog 93 [str a6c,.ptr 1 0,.ptr 0 0,.ptr 2 0] [(0,.box [.own 3 0 all.length 6]),(1,.box [a0h lo l]),(2,.box [.mp 4]),(3,.arr 87 6 (all.map siC)),(4,.map .string m)]
   (fun _=>.pan (wrV 111) []):=by
 have hP:=a2p lo l hl
 simp only [hp,hd] at hP
 refine a0d (fun _=>false) Tryz.func93 Tryz.ntmps93 rfl rfl fun G hG hOw hNm=>?_;simp only [go_sem,hG,hOw]
 (repeat' with_reducible first|refine And.intro ?_ ?_|intro _|refine exP ?_ ?_);all_goals try omega
 rotate_left
 ·rename_i h;exact absurd (by decide) h
 refine a0b [(0,1)] [] (hP) ?_
 simp only [go_sem,hG,hOw]
 (repeat' with_reducible first|refine And.intro ?_ ?_|intro _|refine exP ?_ ?_);all_goals try omega
 refine a0b [(0,1)] [] (b1e lo w r hw) ?_
 simp only [go_sem,hG,hOw]
 exact ⟨rfl,(a1u [])⟩
theorem e2a (lo:Nat) (all:List Si) (l:List ByteArray) (hl:∀ s ∈ l,s.size≤100000) (hp:a2t l=true) (w:ByteArray) (r:List ByteArray) (hd:l.drop 3=[]) (hw:a1i w=false) (m:List (Value×V)) :
  Tri Tryz.prog 93 [str a6c,.ptr 1 0,.ptr 0 0,.ptr 2 0] [(0,.box [.own 3 0 all.length 6]),(1,.box [a0h lo l]),(2,.box [.mp 4]),(3,.arr 87 6 (all.map siC)),(4,.map .string m)]
   (fun _=>.pan (wrV 111) []):=by
 have hP:=a2p lo l hl
 simp only [hp,hd] at hP
 refine a0d (fun _=>false) Tryz.func93 Tryz.ntmps93 rfl rfl fun G hG hOw hNm=>?_;simp only [go_sem,hG,hOw]
 (repeat' with_reducible first|refine And.intro ?_ ?_|intro _|refine exP ?_ ?_);all_goals try omega
 rotate_left
 ·rename_i h;exact absurd (by decide) h
 refine a0b [(0,1)] [] (hP) ?_
 simp only [go_sem,hG,hOw]
 (repeat' with_reducible first|refine And.intro ?_ ?_|intro _|refine exP ?_ ?_);all_goals try omega
 refine a0b [(0,1)] [] (b8p lo) ?_
 simp only [go_sem,hG,hOw]
 exact ⟨rfl,(a1u [])⟩
theorem g4u (lo:Nat) (all:List Si) (name:ByteArray) (l:List ByteArray) (hn:¬ name=a6c) (m:List (Value×V)) (hm:lkM m (.string name)=none) :
  Tri Tryz.prog 93 [str name,.ptr 1 0,.ptr 0 0,.ptr 2 0] [(0,.box [.own 3 0 all.length 6]),(1,.box [a0h lo l]),(2,.box [.mp 4]),(3,.arr 87 6 (all.map siC)),(4,.map .string m)]
   (fun _=>.pan (wrV 111) []):=by
 refine a0d (fun _=>false) Tryz.func93 Tryz.ntmps93 rfl rfl fun G hG hOw hNm=>?_;simp only [go_sem,hG,hOw]
 (repeat' with_reducible first|refine And.intro ?_ ?_|intro _|refine exP ?_ ?_);all_goals try omega
 ·rename_i h;exact absurd h hn
 rw [hm]
 refine a0b [] [] (a3z 111) ?_
 simp only [go_sem,hG,hOw]
 exact ⟨rfl,(a1u [])⟩
theorem e8i (lo:Nat) (i:List Si) (s:Si) (r:List ByteArray) (hr:a3e r=true) (hrl:r.length≤1000) (hrs:∀ x ∈ r,x.size≤100000) (hi:i.length≤1000) :
  Tri Tryz.prog 93 [str a2m,.ptr 1 0,.ptr 0 0,.ptr 2 0] [(0,.box [.own 3 0 (i.length+1) 6]),(1,.box [a0h lo r]),(2,.box [.mp 4]),(3,.arr 87 6 (i.map siC++[siC s])),(4,.map .string (a7h 2))]
   (fun _=>.ret (.tup []) [(0,.box [.own 5 0 (i.length+1) 6]),(1,.box [a0h lo []]),(2,.box [.mp 4]),(5,.arr 87 6 (i.map siC++[siC { s with bef:=a1b r }])),(4,.map .string (a7h 1))]):=by
 have hW:=a3v lo r hrl
 simp only [hr,if_true] at hW
 have h1:(((i.length+1:Nat):Int) - 1).toNat=i.length:=by omega
 have g1:∀ (a:List V) (h:i.length < (i.map siC++[a]).length),(i.map siC++[a])[i.length]'h=a:=fun a h=>by simp
 have g2:∀ (a b:List V),(i.map siC++[a]).set i.length b=i.map siC++[b]:=fun a b=>by rw [List.set_append_right _ _ (by simp)];simp
 unfold a2m
 refine a0d (fun _=>false) Tryz.func93 Tryz.ntmps93 rfl rfl fun G hG hOw hNm=>?_;simp only [go_sem,hG,hOw]
 (repeat' with_reducible first|refine And.intro ?_ ?_|intro _|refine exP ?_ ?_);all_goals try omega
 ·rename_i h;exact absurd h (by decide)
 refine a0b [] [] (a0s 111) ?_
 simp (maxSteps:=2000000) only [go_sem,hG,hOw,h1,g1,g2]
 (repeat' with_reducible first|refine And.intro ?_ ?_|intro _|refine exP ?_ ?_);all_goals try omega
 refine a0b [(0,1)] [] (hW) ?_
 simp (maxSteps:=2000000) only [go_sem,hG,hOw,h1,g1,g2]
 (repeat' with_reducible first|refine And.intro ?_ ?_|intro _|refine exP ?_ ?_);all_goals try omega
 refine a0a (b2j r hrl hrs) ?_
 simp (maxSteps:=2000000) only [go_sem,hG,hOw,h1,g1,g2]
 (repeat' with_reducible first|refine And.intro ?_ ?_|intro _|refine exP ?_ ?_);all_goals try omega
 all_goals first|(rename_i h;exact absurd h (by decide))|exact (a1u [(0,some 0),(1,some 1),(2,some 2),(5,some 3),(4,some 4)])
theorem d8s (lo:Nat) (i:List Si) (s:Si) (r:List ByteArray) (hr:a3e r=false) (hrl:r.length≤1000) (hi:i.length≤1000) :
  Tri Tryz.prog 93 [str a2m,.ptr 1 0,.ptr 0 0,.ptr 2 0] [(0,.box [.own 3 0 (i.length+1) 6]),(1,.box [a0h lo r]),(2,.box [.mp 4]),(3,.arr 87 6 (i.map siC++[siC s])),(4,.map .string (a7h 2))]
   (fun _=>.pan (wrV 111) []):=by
 have hW:=a3v lo r hrl
 simp only [hr,Bool.false_eq_true,if_false] at hW
 have h1:(((i.length+1:Nat):Int) - 1).toNat=i.length:=by omega
 have g1:∀ (a:List V) (h:i.length < (i.map siC++[a]).length),(i.map siC++[a])[i.length]'h=a:=fun a h=>by simp
 unfold a2m
 refine a0d (fun _=>false) Tryz.func93 Tryz.ntmps93 rfl rfl fun G hG hOw hNm=>?_;simp only [go_sem,hG,hOw]
 (repeat' with_reducible first|refine And.intro ?_ ?_|intro _|refine exP ?_ ?_);all_goals try omega
 ·rename_i h;exact absurd h (by decide)
 refine a0b [] [] (a0s 111) ?_
 simp (maxSteps:=2000000) only [go_sem,hG,hOw,h1,g1]
 (repeat' with_reducible first|refine And.intro ?_ ?_|intro _|refine exP ?_ ?_);all_goals try omega
 refine a0b [(0,1)] [] (hW) ?_
 simp only [go_sem,hG,hOw]
 exact ⟨rfl,(a1u [])⟩
theorem e6v (lo:Nat) (i:List Si) (s:Si) (r:List ByteArray) (hr:a3e r=true) (hrl:r.length≤1000) (hrs:∀ x ∈ r,x.size≤100000) (hi:i.length≤1000) :
  Tri Tryz.prog 93 [str a2m,.ptr 1 0,.ptr 0 0,.ptr 2 0] [(0,.box [.own 3 0 (i.length+1) 6]),(1,.box [a0h lo r]),(2,.box [.mp 4]),(3,.arr 87 6 (i.map siC++[siC s])),(4,.map .string (a7h 3))]
   (fun _=>.ret (.tup []) [(0,.box [.own 5 0 (i.length+1) 6]),(1,.box [a0h lo []]),(2,.box [.mp 4]),(5,.arr 87 6 (i.map siC++[siC { s with bef:=a1b r }])),(4,.map .string (a7h 1))]):=by
 have hW:=a3v lo r hrl
 simp only [hr,if_true] at hW
 have h1:(((i.length+1:Nat):Int) - 1).toNat=i.length:=by omega
 have g1:∀ (a:List V) (h:i.length < (i.map siC++[a]).length),(i.map siC++[a])[i.length]'h=a:=fun a h=>by simp
 have g2:∀ (a b:List V),(i.map siC++[a]).set i.length b=i.map siC++[b]:=fun a b=>by rw [List.set_append_right _ _ (by simp)];simp
 unfold a2m
 refine a0d (fun _=>false) Tryz.func93 Tryz.ntmps93 rfl rfl fun G hG hOw hNm=>?_;simp only [go_sem,hG,hOw]
 (repeat' with_reducible first|refine And.intro ?_ ?_|intro _|refine exP ?_ ?_);all_goals try omega
 ·rename_i h;exact absurd h (by decide)
 refine a0b [] [] (a0s 111) ?_
 simp (maxSteps:=2000000) only [go_sem,hG,hOw,h1,g1,g2]
 (repeat' with_reducible first|refine And.intro ?_ ?_|intro _|refine exP ?_ ?_);all_goals try omega
 refine a0b [(0,1)] [] (hW) ?_
 simp (maxSteps:=2000000) only [go_sem,hG,hOw,h1,g1,g2]
 (repeat' with_reducible first|refine And.intro ?_ ?_|intro _|refine exP ?_ ?_);all_goals try omega
 refine a0a (b2j r hrl hrs) ?_
 simp (maxSteps:=2000000) only [go_sem,hG,hOw,h1,g1,g2]
 (repeat' with_reducible first|refine And.intro ?_ ?_|intro _|refine exP ?_ ?_);all_goals try omega
 all_goals first|(rename_i h;exact absurd h (by decide))|exact (a1u [(0,some 0),(1,some 1),(2,some 2),(5,some 3),(4,some 4)])
theorem d8z (lo:Nat) (i:List Si) (s:Si) (r:List ByteArray) (hr:a3e r=false) (hrl:r.length≤1000) (hi:i.length≤1000) :
  Tri Tryz.prog 93 [str a2m,.ptr 1 0,.ptr 0 0,.ptr 2 0] [(0,.box [.own 3 0 (i.length+1) 6]),(1,.box [a0h lo r]),(2,.box [.mp 4]),(3,.arr 87 6 (i.map siC++[siC s])),(4,.map .string (a7h 3))]
   (fun _=>.pan (wrV 111) []):=by
 have hW:=a3v lo r hrl
 simp only [hr,Bool.false_eq_true,if_false] at hW
 have h1:(((i.length+1:Nat):Int) - 1).toNat=i.length:=by omega
 have g1:∀ (a:List V) (h:i.length < (i.map siC++[a]).length),(i.map siC++[a])[i.length]'h=a:=fun a h=>by simp
 unfold a2m
 refine a0d (fun _=>false) Tryz.func93 Tryz.ntmps93 rfl rfl fun G hG hOw hNm=>?_;simp only [go_sem,hG,hOw]
 (repeat' with_reducible first|refine And.intro ?_ ?_|intro _|refine exP ?_ ?_);all_goals try omega
 ·rename_i h;exact absurd h (by decide)
 refine a0b [] [] (a0s 111) ?_
 simp (maxSteps:=2000000) only [go_sem,hG,hOw,h1,g1]
 (repeat' with_reducible first|refine And.intro ?_ ?_|intro _|refine exP ?_ ?_);all_goals try omega
 refine a0b [(0,1)] [] (hW) ?_
 simp only [go_sem,hG,hOw]
 exact ⟨rfl,(a1u [])⟩
theorem f1y (lo:Nat) (i:List Si) (s:Si) (r:List ByteArray) (hr:a3e r=true) (hrl:r.length≤1000) (hrs:∀ x ∈ r,x.size≤100000) (hi:i.length≤1000) :
  Tri Tryz.prog 93 [str a2u,.ptr 1 0,.ptr 0 0,.ptr 2 0] [(0,.box [.own 3 0 (i.length+1) 6]),(1,.box [a0h lo r]),(2,.box [.mp 4]),(3,.arr 87 6 (i.map siC++[siC s])),(4,.map .string (a7h 1))]
   (fun _=>.ret (.tup []) [(0,.box [.own 5 0 (i.length+1) 6]),(1,.box [a0h lo []]),(2,.box [.mp 4]),(5,.arr 87 6 (i.map siC++[siC { s with aft:=a1b r }])),(4,.map .string (a7h 0))]):=by
 have hW:=a3v lo r hrl
 simp only [hr,if_true] at hW
 have h1:(((i.length+1:Nat):Int) - 1).toNat=i.length:=by omega
 have g1:∀ (a:List V) (h:i.length < (i.map siC++[a]).length),(i.map siC++[a])[i.length]'h=a:=fun a h=>by simp
 have g2:∀ (a b:List V),(i.map siC++[a]).set i.length b=i.map siC++[b]:=fun a b=>by rw [List.set_append_right _ _ (by simp)];simp
 unfold a2u
 refine a0d (fun _=>false) Tryz.func93 Tryz.ntmps93 rfl rfl fun G hG hOw hNm=>?_;simp only [go_sem,hG,hOw]
 (repeat' with_reducible first|refine And.intro ?_ ?_|intro _|refine exP ?_ ?_);all_goals try omega
 ·rename_i h;exact absurd h (by decide)
 refine a0b [] [] (a0s 111) ?_
 simp (maxSteps:=2000000) only [go_sem,hG,hOw,h1,g1,g2]
 (repeat' with_reducible first|refine And.intro ?_ ?_|intro _|refine exP ?_ ?_);all_goals try omega
 refine a0b [(0,1)] [] (hW) ?_
 simp (maxSteps:=2000000) only [go_sem,hG,hOw,h1,g1,g2]
 (repeat' with_reducible first|refine And.intro ?_ ?_|intro _|refine exP ?_ ?_);all_goals try omega
 refine a0a (b2j r hrl hrs) ?_
 simp (maxSteps:=2000000) only [go_sem,hG,hOw,h1,g1,g2]
 (repeat' with_reducible first|refine And.intro ?_ ?_|intro _|refine exP ?_ ?_);all_goals try omega
 all_goals first|(rename_i h;exact absurd h (by decide))|exact (a1u [(0,some 0),(1,some 1),(2,some 2),(5,some 3),(4,some 4)])
theorem d7t (lo:Nat) (i:List Si) (s:Si) (r:List ByteArray) (hr:a3e r=false) (hrl:r.length≤1000) (hi:i.length≤1000) :
  Tri Tryz.prog 93 [str a2u,.ptr 1 0,.ptr 0 0,.ptr 2 0] [(0,.box [.own 3 0 (i.length+1) 6]),(1,.box [a0h lo r]),(2,.box [.mp 4]),(3,.arr 87 6 (i.map siC++[siC s])),(4,.map .string (a7h 1))]
   (fun _=>.pan (wrV 111) []):=by
 have hW:=a3v lo r hrl
 simp only [hr,Bool.false_eq_true,if_false] at hW
 have h1:(((i.length+1:Nat):Int) - 1).toNat=i.length:=by omega
 have g1:∀ (a:List V) (h:i.length < (i.map siC++[a]).length),(i.map siC++[a])[i.length]'h=a:=fun a h=>by simp
 unfold a2u
 refine a0d (fun _=>false) Tryz.func93 Tryz.ntmps93 rfl rfl fun G hG hOw hNm=>?_;simp only [go_sem,hG,hOw]
 (repeat' with_reducible first|refine And.intro ?_ ?_|intro _|refine exP ?_ ?_);all_goals try omega
 ·rename_i h;exact absurd h (by decide)
 refine a0b [] [] (a0s 111) ?_
 simp (maxSteps:=2000000) only [go_sem,hG,hOw,h1,g1]
 (repeat' with_reducible first|refine And.intro ?_ ?_|intro _|refine exP ?_ ?_);all_goals try omega
 refine a0b [(0,1)] [] (hW) ?_
 simp only [go_sem,hG,hOw]
 exact ⟨rfl,(a1u [])⟩
theorem e9f (lo:Nat) (i:List Si) (s:Si) (r:List ByteArray) (hr:a3e r=true) (hrl:r.length≤1000) (hrs:∀ x ∈ r,x.size≤100000) (hi:i.length≤1000) :
  Tri Tryz.prog 93 [str a2u,.ptr 1 0,.ptr 0 0,.ptr 2 0] [(0,.box [.own 3 0 (i.length+1) 6]),(1,.box [a0h lo r]),(2,.box [.mp 4]),(3,.arr 87 6 (i.map siC++[siC s])),(4,.map .string (a7h 2))]
   (fun _=>.ret (.tup []) [(0,.box [.own 5 0 (i.length+1) 6]),(1,.box [a0h lo []]),(2,.box [.mp 4]),(5,.arr 87 6 (i.map siC++[siC { s with aft:=a1b r }])),(4,.map .string (a7h 0))]):=by
 have hW:=a3v lo r hrl
 simp only [hr,if_true] at hW
 have h1:(((i.length+1:Nat):Int) - 1).toNat=i.length:=by omega
 have g1:∀ (a:List V) (h:i.length < (i.map siC++[a]).length),(i.map siC++[a])[i.length]'h=a:=fun a h=>by simp
 have g2:∀ (a b:List V),(i.map siC++[a]).set i.length b=i.map siC++[b]:=fun a b=>by rw [List.set_append_right _ _ (by simp)];simp
 unfold a2u
 refine a0d (fun _=>false) Tryz.func93 Tryz.ntmps93 rfl rfl fun G hG hOw hNm=>?_;simp only [go_sem,hG,hOw]
 (repeat' with_reducible first|refine And.intro ?_ ?_|intro _|refine exP ?_ ?_);all_goals try omega
 ·rename_i h;exact absurd h (by decide)
 refine a0b [] [] (a0s 111) ?_
 simp (maxSteps:=2000000) only [go_sem,hG,hOw,h1,g1,g2]
 (repeat' with_reducible first|refine And.intro ?_ ?_|intro _|refine exP ?_ ?_);all_goals try omega
 refine a0b [(0,1)] [] (hW) ?_
 simp (maxSteps:=2000000) only [go_sem,hG,hOw,h1,g1,g2]
 (repeat' with_reducible first|refine And.intro ?_ ?_|intro _|refine exP ?_ ?_);all_goals try omega
 refine a0a (b2j r hrl hrs) ?_
 simp (maxSteps:=2000000) only [go_sem,hG,hOw,h1,g1,g2]
 (repeat' with_reducible first|refine And.intro ?_ ?_|intro _|refine exP ?_ ?_);all_goals try omega
 all_goals first|(rename_i h;exact absurd h (by decide))|exact (a1u [(0,some 0),(1,some 1),(2,some 2),(5,some 3),(4,some 4)])
theorem d8j (lo:Nat) (i:List Si) (s:Si) (r:List ByteArray) (hr:a3e r=false) (hrl:r.length≤1000) (hi:i.length≤1000) :
  Tri Tryz.prog 93 [str a2u,.ptr 1 0,.ptr 0 0,.ptr 2 0] [(0,.box [.own 3 0 (i.length+1) 6]),(1,.box [a0h lo r]),(2,.box [.mp 4]),(3,.arr 87 6 (i.map siC++[siC s])),(4,.map .string (a7h 2))]
   (fun _=>.pan (wrV 111) []):=by
 have hW:=a3v lo r hrl
 simp only [hr,Bool.false_eq_true,if_false] at hW
 have h1:(((i.length+1:Nat):Int) - 1).toNat=i.length:=by omega
 have g1:∀ (a:List V) (h:i.length < (i.map siC++[a]).length),(i.map siC++[a])[i.length]'h=a:=fun a h=>by simp
 unfold a2u
 refine a0d (fun _=>false) Tryz.func93 Tryz.ntmps93 rfl rfl fun G hG hOw hNm=>?_;simp only [go_sem,hG,hOw]
 (repeat' with_reducible first|refine And.intro ?_ ?_|intro _|refine exP ?_ ?_);all_goals try omega
 ·rename_i h;exact absurd h (by decide)
 refine a0b [] [] (a0s 111) ?_
 simp (maxSteps:=2000000) only [go_sem,hG,hOw,h1,g1]
 (repeat' with_reducible first|refine And.intro ?_ ?_|intro _|refine exP ?_ ?_);all_goals try omega
 refine a0b [(0,1)] [] (hW) ?_
 simp only [go_sem,hG,hOw]
 exact ⟨rfl,(a1u [])⟩
theorem f1m (lo:Nat) (i:List Si) (s:Si) (r:List ByteArray) (hr:a3e r=true) (hrl:r.length≤1000) (hrs:∀ x ∈ r,x.size≤100000) (hi:i.length≤1000) :
  Tri Tryz.prog 93 [str a2u,.ptr 1 0,.ptr 0 0,.ptr 2 0] [(0,.box [.own 3 0 (i.length+1) 6]),(1,.box [a0h lo r]),(2,.box [.mp 4]),(3,.arr 87 6 (i.map siC++[siC s])),(4,.map .string (a7h 3))]
   (fun _=>.ret (.tup []) [(0,.box [.own 5 0 (i.length+1) 6]),(1,.box [a0h lo []]),(2,.box [.mp 4]),(5,.arr 87 6 (i.map siC++[siC { s with aft:=a1b r }])),(4,.map .string (a7h 0))]):=by
 have hW:=a3v lo r hrl
 simp only [hr,if_true] at hW
 have h1:(((i.length+1:Nat):Int) - 1).toNat=i.length:=by omega
 have g1:∀ (a:List V) (h:i.length < (i.map siC++[a]).length),(i.map siC++[a])[i.length]'h=a:=fun a h=>by simp
 have g2:∀ (a b:List V),(i.map siC++[a]).set i.length b=i.map siC++[b]:=fun a b=>by rw [List.set_append_right _ _ (by simp)];simp
 unfold a2u
 refine a0d (fun _=>false) Tryz.func93 Tryz.ntmps93 rfl rfl fun G hG hOw hNm=>?_;simp only [go_sem,hG,hOw]
 (repeat' with_reducible first|refine And.intro ?_ ?_|intro _|refine exP ?_ ?_);all_goals try omega
 ·rename_i h;exact absurd h (by decide)
 refine a0b [] [] (a0s 111) ?_
 simp (maxSteps:=2000000) only [go_sem,hG,hOw,h1,g1,g2]
 (repeat' with_reducible first|refine And.intro ?_ ?_|intro _|refine exP ?_ ?_);all_goals try omega
 refine a0b [(0,1)] [] (hW) ?_
 simp (maxSteps:=2000000) only [go_sem,hG,hOw,h1,g1,g2]
 (repeat' with_reducible first|refine And.intro ?_ ?_|intro _|refine exP ?_ ?_);all_goals try omega
 refine a0a (b2j r hrl hrs) ?_
 simp (maxSteps:=2000000) only [go_sem,hG,hOw,h1,g1,g2]
 (repeat' with_reducible first|refine And.intro ?_ ?_|intro _|refine exP ?_ ?_);all_goals try omega
 all_goals first|(rename_i h;exact absurd h (by decide))|exact (a1u [(0,some 0),(1,some 1),(2,some 2),(5,some 3),(4,some 4)])
theorem d7a (lo:Nat) (i:List Si) (s:Si) (r:List ByteArray) (hr:a3e r=false) (hrl:r.length≤1000) (hi:i.length≤1000) :
  Tri Tryz.prog 93 [str a2u,.ptr 1 0,.ptr 0 0,.ptr 2 0] [(0,.box [.own 3 0 (i.length+1) 6]),(1,.box [a0h lo r]),(2,.box [.mp 4]),(3,.arr 87 6 (i.map siC++[siC s])),(4,.map .string (a7h 3))]
   (fun _=>.pan (wrV 111) []):=by
 have hW:=a3v lo r hrl
 simp only [hr,Bool.false_eq_true,if_false] at hW
 have h1:(((i.length+1:Nat):Int) - 1).toNat=i.length:=by omega
 have g1:∀ (a:List V) (h:i.length < (i.map siC++[a]).length),(i.map siC++[a])[i.length]'h=a:=fun a h=>by simp
 unfold a2u
 refine a0d (fun _=>false) Tryz.func93 Tryz.ntmps93 rfl rfl fun G hG hOw hNm=>?_;simp only [go_sem,hG,hOw]
 (repeat' with_reducible first|refine And.intro ?_ ?_|intro _|refine exP ?_ ?_);all_goals try omega
 ·rename_i h;exact absurd h (by decide)
 refine a0b [] [] (a0s 111) ?_
 simp (maxSteps:=2000000) only [go_sem,hG,hOw,h1,g1]
 (repeat' with_reducible first|refine And.intro ?_ ?_|intro _|refine exP ?_ ?_);all_goals try omega
 refine a0b [(0,1)] [] (hW) ?_
 simp only [go_sem,hG,hOw]
 exact ⟨rfl,(a1u [])⟩
theorem b0t (l:List Si):l=[]∨∃ i s,l=i++[s]:=by
 rcases List.eq_nil_or_concat l with h|⟨i,s,h⟩
 ·exact .inl h
 ·exact .inr ⟨i,s,by rw [h,List.concat_eq_append]⟩
theorem a3t (f:Si→Si) (i:List Si) (s:Si):b1z f (i++[s])=i++[f s]:=by simp [b1z]
def WOK (s:List Si×Nat):Prop:=s.2≤3∧(1≤s.2→s.1≠[])
theorem g1t {q:Nat} (h:q≤3):1≤upQ q∧upQ q≤3:=by
 unfold upQ
 split
 ·omega
 ·split<;>omega
theorem e8h {s s':List Si×Nat} {name:ByteArray} {rest r':List ByteArray} (hs:WOK s) (h:b2l s name rest=some (s',r')):WOK s'∧s'.1.length≤s.1.length+1:=by
 unfold b2l at h
 split at h
 ·split at h
  ·split at h
   ·split at h
    ·simp only [Option.some.injEq,Prod.mk.injEq] at h
     obtain ⟨rfl,_⟩:=h
     exact ⟨⟨(g1t hs.1).2,fun _=>by simp⟩,by simp⟩
    ·cases h
   ·cases h
  ·cases h
 ·split at h
  ·split at h
   ·rename_i hq
    split at h
    ·simp only [Option.some.injEq,Prod.mk.injEq] at h
     obtain ⟨rfl,_⟩:=h
     rcases b0t s.1 with e|⟨i,x,e⟩
     ·exact absurd e (hs.2 (by omega))
     ·rw [e]
      simp only [a3t]
      exact ⟨⟨by simp,fun _=>by simp⟩,by simp⟩
    ·cases h
   ·cases h
  ·split at h
   ·split at h
    ·rename_i hq
     split at h
     ·simp only [Option.some.injEq,Prod.mk.injEq] at h
      obtain ⟨rfl,_⟩:=h
      rcases b0t s.1 with e|⟨i,x,e⟩
      ·exact absurd e (hs.2 (by omega))
      ·rw [e]
       simp only [a3t]
       exact ⟨⟨by simp,fun h=>absurd h (by simp)⟩,by simp⟩
     ·cases h
    ·cases h
   ·cases h
theorem g1x (lo:Nat) (s s':List Si×Nat) (name:ByteArray) (rest r':List ByteArray) (hw:WOK s) (hs:b2l s name rest=some (s',r')) (hl:∀ s ∈ rest,s.size≤100000) (hrl:rest.length≤1000) (hb:s.1.length≤1000) :
  Tri Tryz.prog 93 [str name,.ptr 1 0,.ptr 0 0,.ptr 2 0] [(0,.box [.own 3 0 s.1.length 6]),(1,.box [a0h lo rest]),(2,.box [.mp 4]),(3,.arr 87 6 (s.1.map siC)),(4,.map .string (a7h s.2))]
   (fun _=>.ret (.tup []) [(0,.box [.own 5 0 s'.1.length 6]),(1,.box [a0h lo r']),(2,.box [.mp 4]),(5,.arr 87 6 (s'.1.map siC)),(4,.map .string (a7h s'.2))]):=by
 obtain ⟨all,q⟩:=s
 obtain ⟨hq,hne⟩:=hw
 simp only at hq hne hb ⊢
 have hq4:q=0∨q=1∨q=2∨q=3:=by omega
 unfold b2l at hs
 simp only at hs
 split at hs
 ·rename_i hn
  subst hn
  split at hs
  ·rename_i hp
   split at hs
   ·rename_i w r hd
    split at hs
    ·rename_i hwd
     simp only [Option.some.injEq,Prod.mk.injEq] at hs
     obtain ⟨rfl,rfl⟩:=hs
     rcases hq4 with rfl|rfl|rfl|rfl
     ·simpa [upQ] using e2o lo all rest hl hp w r hd hwd hb
     ·simpa [upQ] using e1p lo all rest hl hp w r hd hwd hb
     ·simpa [upQ] using e2b lo all rest hl hp w r hd hwd hb
     ·simpa [upQ] using e0u lo all rest hl hp w r hd hwd hb
    ·cases hs
   ·cases hs
  ·cases hs
 ·split at hs
  ·rename_i hn
   subst hn
   split at hs
   ·rename_i h2
    split at hs
    ·rename_i hr
     simp only [Option.some.injEq,Prod.mk.injEq] at hs
     obtain ⟨rfl,rfl⟩:=hs
     rcases b0t all with e|⟨i,x,e⟩
     ·exact absurd e (hne (by omega))
     ·subst e
      simp only [List.length_append,List.length_singleton] at hb
      rcases hq4 with rfl|rfl|rfl|rfl
      ·omega
      ·omega
      ·simpa [a3t] using e8i lo i x rest hr hrl hl (by omega)
      ·simpa [a3t] using e6v lo i x rest hr hrl hl (by omega)
    ·cases hs
   ·cases hs
  ·split at hs
   ·rename_i hn
    subst hn
    split at hs
    ·rename_i h1
     split at hs
     ·rename_i hr
      simp only [Option.some.injEq,Prod.mk.injEq] at hs
      obtain ⟨rfl,rfl⟩:=hs
      rcases b0t all with e|⟨i,x,e⟩
      ·exact absurd e (hne (by omega))
      ·subst e
       simp only [List.length_append,List.length_singleton] at hb
       rcases hq4 with rfl|rfl|rfl|rfl
       ·omega
       ·simpa [a3t] using f1y lo i x rest hr hrl hl (by omega)
       ·simpa [a3t] using e9f lo i x rest hr hrl hl (by omega)
       ·simpa [a3t] using f1m lo i x rest hr hrl hl (by omega)
     ·cases hs
    ·cases hs
   ·cases hs
theorem f7e (q:Nat) (hq:q≤3) (name:ByteArray) (h1:¬ (name=a2m∧2≤q)) (h2:¬ (name=a2u∧1≤q)):lkM (a7h q) (.string name)=none:=by
 have k1:∀ x:ByteArray,b5t (.string x) (.string name)=decide (x=name):=fun x=>rfl
 have hq4:q=0∨q=1∨q=2∨q=3:=by omega
 rcases hq4 with rfl|rfl|rfl|rfl
 ·rfl
 ·have a:¬ a2u=name:=fun e=>h2 ⟨e.symm,by omega⟩
  simp [a7h,lkM,k1,a]
 ·have a:¬ a2u=name:=fun e=>h2 ⟨e.symm,by omega⟩
  have b:¬ a2m=name:=fun e=>h1 ⟨e.symm,by omega⟩
  simp [a7h,lkM,k1,a,b]
 ·have a:¬ a2u=name:=fun e=>h2 ⟨e.symm,by omega⟩
  have b:¬ a2m=name:=fun e=>h1 ⟨e.symm,by omega⟩
  simp [a7h,lkM,k1,a,b]
theorem f5l (lo:Nat) (s:List Si×Nat) (name:ByteArray) (rest:List ByteArray) (hw:WOK s) (hs:b2l s name rest=none) (hl:∀ s ∈ rest,s.size≤100000) (hrl:rest.length≤1000) (hb:s.1.length≤1000) :
  Tri Tryz.prog 93 [str name,.ptr 1 0,.ptr 0 0,.ptr 2 0] [(0,.box [.own 3 0 s.1.length 6]),(1,.box [a0h lo rest]),(2,.box [.mp 4]),(3,.arr 87 6 (s.1.map siC)),(4,.map .string (a7h s.2))]
   (fun _=>.pan (wrV 111) []):=by
 obtain ⟨all,q⟩:=s
 obtain ⟨hq,hne⟩:=hw
 simp only at hq hne hb ⊢
 have hq4:q=0∨q=1∨q=2∨q=3:=by omega
 by_cases hn:name=a6c
 ·subst hn
  cases hp:a2t rest with
  |false=>exact e5f lo all rest hl hp _
  |true =>
   cases hd:rest.drop 3 with
   |nil=>exact e2a lo all rest hl hp ⟨#[]⟩ [] hd (by decide) _
   |cons w r =>
    cases hwd:a1i w with
    |false=>exact e3a lo all rest hl hp w r hd hwd _
    |true=>exfalso;simp [b2l,hp,hd,hwd] at hs
 ·by_cases h1:name=a2m∧2≤q
  ·obtain ⟨rfl,h2⟩:=h1
   cases hr:a3e rest with
   |true=>exfalso;simp [b2l,hn,h2,hr] at hs
   |false =>
    rcases b0t all with e|⟨i,x,e⟩
    ·exact absurd e (hne (by omega))
    ·subst e
     simp only [List.length_append,List.length_singleton] at hb
     rcases hq4 with rfl|rfl|rfl|rfl
     ·omega
     ·omega
     ·simpa using d8s lo i x rest hr hrl (by omega)
     ·simpa using d8z lo i x rest hr hrl (by omega)
  ·by_cases h2:name=a2u∧1≤q
   ·obtain ⟨rfl,h3⟩:=h2
    have hab:¬ a2u=a2m:=by decide
    cases hr:a3e rest with
    |true=>exfalso;simp [b2l,hn,hab,h3,hr] at hs
    |false =>
     rcases b0t all with e|⟨i,x,e⟩
     ·exact absurd e (hne (by omega))
     ·subst e
      simp only [List.length_append,List.length_singleton] at hb
      rcases hq4 with rfl|rfl|rfl|rfl
      ·omega
      ·simpa using d7t lo i x rest hr hrl (by omega)
      ·simpa using d8j lo i x rest hr hrl (by omega)
      ·simpa using d7a lo i x rest hr hrl (by omega)
   ·exact g4u lo all name rest hn _ (f7e q hq name h1 h2)
open Go Pm Go.RowKit Go.Sort
set_option maxHeartbeats 4000000
set_option maxRecDepth 100000
def b2f (s:List Si×Nat) (x:ByteArray):Option (List Si×Nat):=match a0y x with
 |[]=>none
 |name::rest=>match b2l s name rest with
  |some (s',[])=>some s'
  |_=>none
def a5f (s:List Si×Nat):List ByteArray→Option (List Si×Nat)
 |[]=>some s
 |x::l=>(b2f s x).bind fun s'=>a5f s' l
theorem b6w:∀ (l m:List ByteArray) (s:List Si×Nat),a5f s (l++m)=(a5f s l).bind fun s'=>a5f s' m
 |[],m,s=>rfl
 |x::l,m,s=>by
  simp only [List.cons_append,a5f]
  cases b2f s x with
  |none=>rfl
  |some c=>exact b6w l m c
theorem b4x (l:List ByteArray) (s:List Si×Nat) (k:Nat) (hk:k < l.length):a5f s (l.take (k+1))=(a5f s (l.take k)).bind fun s=>b2f s l[k]:=by
 rw [List.take_add_one,List.getElem?_eq_getElem hk,b6w]
 congr 1
 funext s
 simp only [Option.toList,a5f]
 cases b2f s l[k]<;>rfl
theorem c4m {l:List ByteArray} {s0 s:List Si×Nat} {k:Nat} (hk:k < l.length) (h:a5f s0 (l.take k)=some s) (hb:b2f s l[k]=none):a5f s0 l=none:=by
 have h1:a5f s0 (l.take (k+1))=none:=by rw [b4x l s0 k hk,h];simp [hb]
 have h2:=b6w (l.take (k+1)) (l.drop (k+1)) s0
 rw [List.take_append_drop] at h2
 rw [h2,h1];rfl
def W0:List Si×Nat:=([],0)
theorem g6k:WOK W0:=⟨by decide,fun h=>absurd h (by decide)⟩
theorem e7c (r:List ByteArray) (hr:∀ x ∈ r,x.size≤160) (hl:r.length≤161):(a1b r).size≤100000:=by
 have:=f0s 160 r hr
 have h2:(160+1) * r.length≤161 * 161:=Nat.mul_le_mul (by decide) hl
 omega
theorem e3z {s s':List Si×Nat} {name:ByteArray} {rest r':List ByteArray} (hs:WOK s) (hr:∀ x ∈ rest,x.size≤160) (hl:rest.length≤161) (hb:∀ x ∈ s.1,bdS x) (h:b2l s name rest=some (s',r')):∀ x ∈ s'.1,bdS x:=by
 have hj:=e7c rest hr hl
 unfold b2l at h
 split at h
 ·split at h
  ·split at h
   ·rename_i w r hd
    split at h
    ·rename_i hw
     simp only [Option.some.injEq,Prod.mk.injEq] at h
     obtain ⟨rfl,_⟩:=h
     have:=(a3f hw).2
     intro x hx
     rcases List.mem_append.1 hx with hx|hx
     ·exact hb x hx
     ·simp at hx;subst hx;exact ⟨by simp only;omega,by show 0≤_;omega,by show 0≤_;omega⟩
    ·cases h
   ·cases h
  ·cases h
 ·split at h
  ·split at h
   ·split at h
    ·simp only [Option.some.injEq,Prod.mk.injEq] at h
     obtain ⟨rfl,_⟩:=h
     rcases b0t s.1 with e|⟨i,x,e⟩
     ·rw [e];simp [b1z]
     ·rw [e] at hb
      rw [e]
      simp only [a3t]
      intro y hy
      rcases List.mem_append.1 hy with hy|hy
      ·exact hb y (by simp [hy])
      ·simp at hy;subst hy
       obtain ⟨q1,q2,q3⟩:=hb x (by simp)
       exact ⟨q1,hj,q3⟩
    ·cases h
   ·cases h
  ·split at h
   ·split at h
    ·split at h
     ·simp only [Option.some.injEq,Prod.mk.injEq] at h
      obtain ⟨rfl,_⟩:=h
      rcases b0t s.1 with e|⟨i,x,e⟩
      ·rw [e];simp [b1z]
      ·rw [e] at hb
       rw [e]
       simp only [a3t]
       intro y hy
       rcases List.mem_append.1 hy with hy|hy
       ·exact hb y (by simp [hy])
       ·simp at hy;subst hy
        obtain ⟨q1,q2,q3⟩:=hb x (by simp)
        exact ⟨q1,q2,hj⟩
     ·cases h
    ·cases h
   ·cases h
theorem e7d {s s':List Si×Nat} {x:ByteArray} (hx:x.size≤160) (hs:WOK s) (hb:∀ x ∈ s.1,bdS x) (h:b2f s x=some s'):WOK s'∧s'.1.length≤s.1.length+1∧∀ x ∈ s'.1,bdS x:=by
 unfold b2f at h
 split at h
 ·cases h
 ·rename_i name rest hp
  split at h
  ·rename_i t hst
   cases h
   obtain ⟨q1,q2⟩:=e8h hs hst
   refine ⟨q1,q2,e3z hs (fun y hy=>?_) ?_ hb hst⟩
   ·have:=a7v x y (by rw [hp];simp [hy]);omega
   ·have:=a8u x;rw [hp] at this;simp at this;omega
  ·cases h
theorem c2y {l:List ByteArray} (hl:∀ x ∈ l,x.size≤160):∀ {k:Nat} {s:List Si×Nat},k≤l.length→a5f W0 (l.take k)=some s→WOK s∧s.1.length≤k∧∀ x ∈ s.1,bdS x
 |0,s,_,h=>by
  simp [a5f] at h
  subst h
  exact ⟨g6k,by simp [W0],by simp [W0]⟩
 |k+1,s,hk,h=>by
  rw [b4x l W0 k (by omega)] at h
  simp only [Option.bind_eq_some_iff] at h
  obtain ⟨u,h1,h2⟩:=h
  obtain ⟨a,b,c⟩:=c2y hl (by omega) h1
  obtain ⟨a',b',c'⟩:=e7d (hl _ (List.getElem_mem (by omega))) a c h2
  exact ⟨a',by omega,c'⟩
theorem d2d (q:Nat) (p:Nat→Bool) (lo:Nat) (s:St):(a7h q).map (fun e=>(e.1,vwF p lo s 4 e.2))=a7h q:=by
 unfold a7h
 split<;>rfl
theorem e7e (q:Nat) (ρ:Ren):(a7h q).map (fun e=>(e.1,b6h ρ 4 e.2))=a7h q:=by
 unfold a7h
 split<;>rfl
theorem c2s (ρ:Ren) (q q':Nat) (hq:q=q'):okL (okN ρ 4) ((a7h q).map (fun p=>p.2)) ((a7h q').map (fun p=>p.2))=True:=by
 subst hq
 have h:okN ρ 4 (bl true) (bl true):=rfl
 unfold a7h
 split
 ·exact eq_true trivial
 ·exact eq_true ⟨h,trivial⟩
 ·exact eq_true ⟨h,h,trivial⟩
 ·exact eq_true ⟨h,h,trivial⟩
def g7g (q:Nat):Nat:=(a7h q).length
theorem b1c (q:Nat):(a7h q).map (fun p=>p.2)=List.replicate (g7g q) (.v (.bool true)):=by
 unfold g7g a7h
 split<;>rfl
theorem d4k (l:List ByteArray) (h:a0v l=false):Tri Tryz.prog 73 [a0h 0 l,.fn (.func 93) [.ptr 0 0,.ptr 1 0]] [(0,.box [.v (.slice none 0 0)]),(1,.box [.mp 2]),(2,.map .string [])] (fun _=>.pan (wrV 110) []):=by
 refine a0d (fun _=>false) Tryz.func73 Tryz.ntmps73 rfl rfl fun G hG hOw hNm=>?_;simp only [go_sem,hG,hOw]
 (repeat' with_reducible first|refine And.intro ?_ ?_|intro _|refine exP ?_ ?_);all_goals try omega
 refine a0a (a4a l) ?_
 rw [h]
 simp only [go_sem,hG,hOw]
 (repeat' with_reducible first|refine And.intro ?_ ?_|intro _|refine exP ?_ ?_);all_goals try omega
 refine a0b [] [] (a3z 110) ?_
 simp only [go_sem,hG,hOw]
 exact ⟨rfl,(a1u [])⟩
theorem c1j (l:List ByteArray) (h:a0v l=true):Tri Tryz.prog 73 [a0h 0 l,.fn (.func 93) [.ptr 0 0,.ptr 1 0]] [(0,.box [.v (.slice none 0 0)]),(1,.box [.mp 2]),(2,.map .string [])] (fun _=>match a5f W0 l with
  |some s=>.ret (.tup []) [(0,.box [sis 0 s.1])]
  |none=>.pan (wrV 111) []):=by
 obtain ⟨hl1,hl2⟩:=a9j h
 refine a0d (fun _=>false) Tryz.func73 Tryz.ntmps73 rfl rfl fun G hG hOw hNm=>?_;simp only [go_sem,hG,hOw]
 (repeat' with_reducible first|refine And.intro ?_ ?_|intro _|refine exP ?_ ?_);all_goals try omega
 refine a0a (a4a l) ?_
 rw [h]
 simp only [go_sem,hG,hOw]
 (repeat' with_reducible first|refine And.intro ?_ ?_|intro _|refine exP ?_ ?_);all_goals try omega
 refine a0b [] [] (a0s 110) ?_
 simp only [go_sem,hG,hOw]
 (repeat' with_reducible first|refine And.intro ?_ ?_|intro _|refine exP ?_ ?_);all_goals try omega
 have e0:W0.1=[]:=rfl
 have e1:a7h W0.2=[]:=rfl
 refine a6v (fun s:List Si×Nat=>St.of [] [(0,.box [sis 0 s.1]),(1,.box [.mp 2]),(2,.map .string (a7h s.2))]) (fun s=>a5f W0 l=some s) ?_ ?_
 ·refine a0n (fun x:Nat×(List Si×Nat)=>St.of [(1,.fn (.func 93) [.ptr 0 0,.ptr 1 0]),(11,a0h 0 l),(12,i64 l.length),(13,i64 x.1)] [(0,.box [.own 100 0 x.2.1.length 6]),(1,.box [.mp 2]),(2,.map .string (a7h x.2.2)),(100,.arr 87 6 (x.2.1.map siC))]) (fun x=>x.1≤l.length∧a5f W0 (l.take x.1)=some x.2) (fun x=>l.length - x.1) (0,W0) ⟨by simp,by simp [a5f]⟩ (a1k [(0,some 0),(1,some 1),(2,some 2),(100,none)] (by (simp only [e0,e1,List.map_nil,List.length_nil,go_sem])<;>simp [e0,e1,List.map_nil,List.length_nil]) (by (simp only [e0,e1,List.map_nil,List.length_nil,go_sem,a1f,a0q,a0e,a1l])<;>simp [e0,e1,List.map_nil,List.length_nil]) (by simp [a2s,apart]) (by simp [a0f,usH]) (by simp [hNm,lkR,a0z])) ?_
  rintro ⟨k,s⟩ ⟨hk,hrd⟩
  simp only at hk hrd
  obtain ⟨hwk,hbd,_⟩:=c2y hl2 hk hrd
  refine a0g _ _ _ ?_;simp only [go_sem,hG,hOw]
  (repeat' with_reducible first|refine And.intro ?_ ?_|intro _|refine exP ?_ ?_);all_goals try omega
  ·rename_i hlt
   have hkl:k < l.length:=by omega
   have hsz:=hl2 _ (List.getElem_mem hkl)
   refine a0a (b2z l[k] (by omega)) ?_
   obtain ⟨name,rest,hp⟩:∃ name rest,a0y l[k]=name::rest:=by
    cases hq:a0y l[k] with
    |nil=>exact (a5m _ hq).elim
    |cons a b=>exact ⟨a,b,rfl⟩
   have hpl:rest.length≤1000:=by have:=a8u l[k];rw [hp] at this;simp at this;omega
   have hps:∀ s ∈ rest,s.size≤100000:=fun s hs=>by have:=a7v l[k] s (by rw [hp];simp [hs]);omega
   rw [hp]
   simp only [go_sem,hG,hOw]
   (repeat' with_reducible first|refine And.intro ?_ ?_|intro _|refine exP ?_ ?_);all_goals try omega
   refine a0b [(0,20)] [] (a8a G.lo name rest) ?_
   simp only [go_sem,hG,hOw]
   (repeat' with_reducible first|refine And.intro ?_ ?_|intro _|refine exP ?_ ?_);all_goals try omega
   cases hst:b2l s name rest with
   |none =>
    have hno:a5f W0 l=none:=c4m hkl hrd (by unfold b2f;rw [hp];simp only [hst])
    rw [hno]
    refine a0b [(0,0),(1,20),(2,1),(3,100),(4,2)] [] (f5l G.lo s name rest hwk hst hps hpl (by omega)) ?_ (by (simp only [go_sem])<;>simp [b1c,b2h,okN]) (by (simp only [go_sem,a1f,a0q,a0e,a1l])<;>simp [b1c,b2h,okN]) (by simp [a0f,usH,toR,b1c,b2h,okN])
    simp only [go_sem,hG,hOw]
    exact ⟨rfl,(a1u [])⟩
   |some q =>
    obtain ⟨s',r'⟩:=q
    refine a0b [(0,0),(1,20),(2,1),(3,100),(4,2)] [(5,204)] (g1x G.lo s s' name rest r' hwk hst hps hpl (by omega)) ?_ (by (simp only [go_sem])<;>simp [b1c,b2h,okN]) (by (simp only [go_sem,a1f,a0q,a0e,a1l])<;>simp [b1c,b2h,okN]) (by simp [a0f,usH,toR,b1c,b2h,okN])
    simp (maxSteps:=2000000) only [go_sem,hG,hOw,↓e7e]
    (repeat' with_reducible first|refine And.intro ?_ ?_|intro _|refine exP ?_ ?_);all_goals try omega
    ·rename_i hr0
     have hr0:r'=[]:=List.eq_nil_of_length_eq_zero (by omega)
     subst hr0
     have hsF:b2f s l[k]=some s':=by unfold b2f;rw [hp];simp only [hst]
     exact ⟨(k+1,s'),⟨by show k+1≤_;omega,by rw [b4x l W0 k hkl,hrd];simp [hsF]⟩,by show l.length - (k+1) < _;omega,a1k [(0,some 0),(1,some 1),(2,some 2),(100,some 204)] (by (simp only [↓c2s,go_sem])<;>simp []) (by (simp only [↓c2s,go_sem,a1f,a0q,a0e,a1l])<;>simp []) (by simp [a2s,apart]) (by simp [a0f,usH]) (by simp [hNm,lkR,a0z])⟩
    ·rename_i hr0
     have hno:a5f W0 l=none:=c4m hkl hrd (by
      unfold b2f;rw [hp];simp only [hst]
      cases r' with
      |nil=>exact (hr0 rfl).elim
      |cons a b=>rfl)
     rw [hno]
     refine b1k [.int .i64 111] rfl rfl (by kernel_rfl) (by simp [chk,hG]) ?_
     simp only [go_sem,hG,hOw]
     (repeat' with_reducible first|refine And.intro ?_ ?_|intro _|refine exP ?_ ?_);all_goals try omega
     refine a7k rfl rfl ?_
     exact ⟨rfl,(a1u [])⟩
  ·rename_i hge
   obtain rfl:k=l.length:=by omega
   rw [List.take_length] at hrd
   refine ⟨s,hrd,b2q (fun i=>i == 100) ?_⟩
   have hN:Pm.Sub (.lst G.lo 6 (s.1.map siC)) (.lst 0 6 (s.1.map siC)):=Sub.lo (Nat.zero_le _)
   have hT:List.take s.1.length (s.1.map siC)=s.1.map siC:=List.take_of_length_le (by simp)
   exact a1k [(0,some 0),(1,some 1),(2,some 2)] (by (simp only [hT,hN,↓d2d,↓c2s,go_sem])<;>simp [hT,hN]) (by (simp only [hT,hN,↓d2d,↓c2s,go_sem,a1f,a0q,a0e,a1l])<;>simp [hT,hN]) (by simp [a2s,apart]) (by simp [a0f,usH]) (by simp [hNm,lkR,a0z])
 ·rintro s hs
  rw [hs]
  simp only [go_sem,hG,hOw]
  (repeat' with_reducible first|refine And.intro ?_ ?_|intro _|refine exP ?_ ?_);all_goals try omega
  exact (a1u [(0,some 0)])
end Go.Proofs.YtmjhfccbbfpppaaGreatDoor
