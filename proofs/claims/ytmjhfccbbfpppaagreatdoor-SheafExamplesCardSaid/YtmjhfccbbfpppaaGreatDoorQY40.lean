import Derived.Test.YtmjhfccbbfpppaaGreatDoorQY29
import Derived.Test.YtmjhfccbbfpppaaGreatDoorQY38
import Derived.Test.YtmjhfccbbfpppaaGreatDoorQY39
namespace Go.Proofs.YtmjhfccbbfpppaaGreatDoor
open Go Pm
set_option linter.unusedSimpArgs false
set_option linter.unusedVariables false
set_option maxHeartbeats 4000000
set_option maxRecDepth 100000
def a6t (q:Nat):List (Value×V):=match q with
 |0=>[]
 |1=>[(.string a2w,bl true)]
 |2=>[(.string a2s,bl true),(.string a2w,bl true)]
 |_=>[(.string a2w,bl true),(.string a2s,bl true)]
theorem f9s:a6t 0=[]:=rfl
theorem f6f:a6t 1=[(.string ⟨#[97,102,116,101,114]⟩,bl true)]:=rfl
theorem g0a:a6t 2=[(.string ⟨#[98,101,102,111,114,101]⟩,bl true),(.string ⟨#[97,102,116,101,114]⟩,bl true)]:=rfl
theorem f8v:a6t 3=[(.string ⟨#[97,102,116,101,114]⟩,bl true),(.string ⟨#[98,101,102,111,114,101]⟩,bl true)]:=rfl
attribute [go_sem] f9s f6f g0a f8v
theorem g2w:b4o (.string ⟨#[98,101,102,111,114,101]⟩) (.string ⟨#[97,102,116,101,114]⟩)=false:=by decide
theorem g3d:b4o (.string ⟨#[97,102,116,101,114]⟩) (.string ⟨#[98,101,102,111,114,101]⟩)=false:=by decide
theorem g3g:b4o (.string ⟨#[97,102,116,101,114]⟩) (.string ⟨#[97,102,116,101,114]⟩)=true:=by decide
theorem g4j:b4o (.string ⟨#[98,101,102,111,114,101]⟩) (.string ⟨#[98,101,102,111,114,101]⟩)=true:=by decide
attribute [go_sem] g2w g3d g3g g4j
def upQ (q:Nat):Nat:=if q=0 then 2 else if q=1 then 3 else q
def c0h (f:Si→Si) (l:List Si):List Si:=match l.getLast? with
 |some s=>l.dropLast++[f s]
 |none=>l
def b4n (s:List Si×Nat) (name:ByteArray) (rest:List ByteArray):Option ((List Si×Nat)×List ByteArray) :=
 if name=a7h then (if a2q rest then (match rest.drop 3 with
   |w::r=>if a1p w then some ((s.1++[⟨nvS rest 0,nvS rest 1,nvS rest 2,w,⟨#[]⟩,⟨#[]⟩⟩],upQ s.2),r) else none
   |[]=>none) else none)
 else if name=a2s then (if 2≤s.2 then (if a4c rest then some ((c0h (fun x=>{ x with bef:=a1o rest }) s.1,1),[]) else none) else none)
 else if name=a2w then (if 1≤s.2 then (if a4c rest then some ((c0h (fun x=>{ x with aft:=a1o rest }) s.1,0),[]) else none) else none)
 else none
theorem d8y (lo:Nat) (all:List Si) (l:List ByteArray) (hl:∀ s ∈ l,s.size≤100000) (hp:a2q l=true) (w:ByteArray) (r:List ByteArray) (hd:l.drop 3=w::r) (hw:a1p w=true) (hn:all.length≤1000) :
  Tri Tryz.prog 93 [str a7h,.ptr 1 0,.ptr 0 0,.ptr 2 0] [(0,.box [.own 3 0 all.length 6]),(1,.box [a0e lo l]),(2,.box [.mp 4]),(3,.arr 87 6 (all.map siC)),(4,.map .string (a6t 0))]
   (fun _=>.ret (.tup []) [(0,.box [.own 5 0 (all.length+1) 6]),(1,.box [a0e lo r]),(2,.box [.mp 4]),(5,.arr 87 6 ((all++[(⟨nvS l 0,nvS l 1,nvS l 2,w,⟨#[]⟩,⟨#[]⟩⟩:Si)]).map siC)),(4,.map .string (a6t 2))]):=by
 have hP:=a2k lo l hl
 simp only [hp,hd] at hP
 have hcs:decide (a7h=⟨#[115,108,105,112]⟩)=true:=by decide
 have hq:(all++[(⟨nvS l 0,nvS l 1,nvS l 2,w,⟨#[]⟩,⟨#[]⟩⟩:Si)]).map siC=all.map siC++[[V.v (Value.int IntKind.i64 (nvS l 0)),V.v (Value.int IntKind.i64 (nvS l 1)),V.v (Value.int IntKind.i64 (nvS l 2)),V.v (Value.string w),V.v (Value.string ByteArray.empty),V.v (Value.string ByteArray.empty)]]:=by
  rw [List.map_append];rfl
 rw [hq]
 refine a0d (fun _=>false) Tryz.func93 Tryz.ntmps93 rfl rfl fun G hG hOw hNm=>?_;simp only [go_sem,hG,hOw]
 (repeat' with_reducible first|refine And.intro ?_ ?_|intro _|refine exP ?_ ?_);all_goals try omega
 rotate_left
 ·rename_i h;exact absurd (by decide) h
 refine a0b [(0,1)] [] (hP) ?_
 simp only [go_sem,hG,hOw]
 (repeat' with_reducible first|refine And.intro ?_ ?_|intro _|refine exP ?_ ?_);all_goals try omega
 refine a0b [(0,1)] [] (a6s lo w r hw) ?_
 simp only [go_sem,hG,hOw]
 (repeat' with_reducible first|refine And.intro ?_ ?_|intro _|refine exP ?_ ?_);all_goals try omega
 refine a1w ⟨[2],[(21,[2]),(22,[2])],[]⟩ [(0,false),(1,false),(2,false),(3,false)] mixed (by kernel_rfl) ?_
 simp only [a2r,List.getElem?_cons_zero,List.getElem?_cons_succ]
 simp only [go_sem,hG,hOw]
 (repeat' with_reducible first|refine And.intro ?_ ?_|intro _|refine exP ?_ ?_);all_goals try omega
 exact (a1x [(0,some 0),(1,some 1),(2,some 2),(5,some 20),(4,some 4)])
theorem e0r (lo:Nat) (all:List Si) (l:List ByteArray) (hl:∀ s ∈ l,s.size≤100000) (hp:a2q l=true) (w:ByteArray) (r:List ByteArray) (hd:l.drop 3=w::r) (hw:a1p w=true) (hn:all.length≤1000) :
  Tri Tryz.prog 93 [str a7h,.ptr 1 0,.ptr 0 0,.ptr 2 0] [(0,.box [.own 3 0 all.length 6]),(1,.box [a0e lo l]),(2,.box [.mp 4]),(3,.arr 87 6 (all.map siC)),(4,.map .string (a6t 1))]
   (fun _=>.ret (.tup []) [(0,.box [.own 5 0 (all.length+1) 6]),(1,.box [a0e lo r]),(2,.box [.mp 4]),(5,.arr 87 6 ((all++[(⟨nvS l 0,nvS l 1,nvS l 2,w,⟨#[]⟩,⟨#[]⟩⟩:Si)]).map siC)),(4,.map .string (a6t 3))]):=by
 have hP:=a2k lo l hl
 simp only [hp,hd] at hP
 have hcs:decide (a7h=⟨#[115,108,105,112]⟩)=true:=by decide
 have hq:(all++[(⟨nvS l 0,nvS l 1,nvS l 2,w,⟨#[]⟩,⟨#[]⟩⟩:Si)]).map siC=all.map siC++[[V.v (Value.int IntKind.i64 (nvS l 0)),V.v (Value.int IntKind.i64 (nvS l 1)),V.v (Value.int IntKind.i64 (nvS l 2)),V.v (Value.string w),V.v (Value.string ByteArray.empty),V.v (Value.string ByteArray.empty)]]:=by
  rw [List.map_append];rfl
 rw [hq]
 refine a0d (fun _=>false) Tryz.func93 Tryz.ntmps93 rfl rfl fun G hG hOw hNm=>?_;simp only [go_sem,hG,hOw]
 (repeat' with_reducible first|refine And.intro ?_ ?_|intro _|refine exP ?_ ?_);all_goals try omega
 rotate_left
 ·rename_i h;exact absurd (by decide) h
 refine a0b [(0,1)] [] (hP) ?_
 simp only [go_sem,hG,hOw]
 (repeat' with_reducible first|refine And.intro ?_ ?_|intro _|refine exP ?_ ?_);all_goals try omega
 refine a0b [(0,1)] [] (a6s lo w r hw) ?_
 simp only [go_sem,hG,hOw]
 (repeat' with_reducible first|refine And.intro ?_ ?_|intro _|refine exP ?_ ?_);all_goals try omega
 refine a1w ⟨[2],[(21,[2]),(22,[2])],[]⟩ [(0,false),(1,false),(2,false),(3,false)] mixed (by kernel_rfl) ?_
 simp only [a2r,List.getElem?_cons_zero,List.getElem?_cons_succ]
 simp only [go_sem,hG,hOw]
 (repeat' with_reducible first|refine And.intro ?_ ?_|intro _|refine exP ?_ ?_);all_goals try omega
 exact (a1x [(0,some 0),(1,some 1),(2,some 2),(5,some 20),(4,some 4)])
theorem d5l (lo:Nat) (all:List Si) (l:List ByteArray) (hl:∀ s ∈ l,s.size≤100000) (hp:a2q l=true) (w:ByteArray) (r:List ByteArray) (hd:l.drop 3=w::r) (hw:a1p w=true) (hn:all.length≤1000) :
  Tri Tryz.prog 93 [str a7h,.ptr 1 0,.ptr 0 0,.ptr 2 0] [(0,.box [.own 3 0 all.length 6]),(1,.box [a0e lo l]),(2,.box [.mp 4]),(3,.arr 87 6 (all.map siC)),(4,.map .string (a6t 2))]
   (fun _=>.ret (.tup []) [(0,.box [.own 5 0 (all.length+1) 6]),(1,.box [a0e lo r]),(2,.box [.mp 4]),(5,.arr 87 6 ((all++[(⟨nvS l 0,nvS l 1,nvS l 2,w,⟨#[]⟩,⟨#[]⟩⟩:Si)]).map siC)),(4,.map .string (a6t 2))]):=by
 have hP:=a2k lo l hl
 simp only [hp,hd] at hP
 have hcs:decide (a7h=⟨#[115,108,105,112]⟩)=true:=by decide
 have hq:(all++[(⟨nvS l 0,nvS l 1,nvS l 2,w,⟨#[]⟩,⟨#[]⟩⟩:Si)]).map siC=all.map siC++[[V.v (Value.int IntKind.i64 (nvS l 0)),V.v (Value.int IntKind.i64 (nvS l 1)),V.v (Value.int IntKind.i64 (nvS l 2)),V.v (Value.string w),V.v (Value.string ByteArray.empty),V.v (Value.string ByteArray.empty)]]:=by
  rw [List.map_append];rfl
 rw [hq]
 refine a0d (fun _=>false) Tryz.func93 Tryz.ntmps93 rfl rfl fun G hG hOw hNm=>?_;simp only [go_sem,hG,hOw]
 (repeat' with_reducible first|refine And.intro ?_ ?_|intro _|refine exP ?_ ?_);all_goals try omega
 rotate_left
 ·rename_i h;exact absurd (by decide) h
 refine a0b [(0,1)] [] (hP) ?_
 simp only [go_sem,hG,hOw]
 (repeat' with_reducible first|refine And.intro ?_ ?_|intro _|refine exP ?_ ?_);all_goals try omega
 refine a0b [(0,1)] [] (a6s lo w r hw) ?_
 simp only [go_sem,hG,hOw]
 (repeat' with_reducible first|refine And.intro ?_ ?_|intro _|refine exP ?_ ?_);all_goals try omega
 refine a1w ⟨[2],[(21,[2]),(22,[2])],[]⟩ [(0,false),(1,false),(2,false),(3,false)] mixed (by kernel_rfl) ?_
 simp only [a2r,List.getElem?_cons_zero,List.getElem?_cons_succ]
 simp only [go_sem,hG,hOw]
 (repeat' with_reducible first|refine And.intro ?_ ?_|intro _|refine exP ?_ ?_);all_goals try omega
 exact (a1x [(0,some 0),(1,some 1),(2,some 2),(5,some 20),(4,some 4)])
theorem e1x (lo:Nat) (all:List Si) (l:List ByteArray) (hl:∀ s ∈ l,s.size≤100000) (hp:a2q l=true) (w:ByteArray) (r:List ByteArray) (hd:l.drop 3=w::r) (hw:a1p w=true) (hn:all.length≤1000) :
  Tri Tryz.prog 93 [str a7h,.ptr 1 0,.ptr 0 0,.ptr 2 0] [(0,.box [.own 3 0 all.length 6]),(1,.box [a0e lo l]),(2,.box [.mp 4]),(3,.arr 87 6 (all.map siC)),(4,.map .string (a6t 3))]
   (fun _=>.ret (.tup []) [(0,.box [.own 5 0 (all.length+1) 6]),(1,.box [a0e lo r]),(2,.box [.mp 4]),(5,.arr 87 6 ((all++[(⟨nvS l 0,nvS l 1,nvS l 2,w,⟨#[]⟩,⟨#[]⟩⟩:Si)]).map siC)),(4,.map .string (a6t 3))]):=by
 have hP:=a2k lo l hl
 simp only [hp,hd] at hP
 have hcs:decide (a7h=⟨#[115,108,105,112]⟩)=true:=by decide
 have hq:(all++[(⟨nvS l 0,nvS l 1,nvS l 2,w,⟨#[]⟩,⟨#[]⟩⟩:Si)]).map siC=all.map siC++[[V.v (Value.int IntKind.i64 (nvS l 0)),V.v (Value.int IntKind.i64 (nvS l 1)),V.v (Value.int IntKind.i64 (nvS l 2)),V.v (Value.string w),V.v (Value.string ByteArray.empty),V.v (Value.string ByteArray.empty)]]:=by
  rw [List.map_append];rfl
 rw [hq]
 refine a0d (fun _=>false) Tryz.func93 Tryz.ntmps93 rfl rfl fun G hG hOw hNm=>?_;simp only [go_sem,hG,hOw]
 (repeat' with_reducible first|refine And.intro ?_ ?_|intro _|refine exP ?_ ?_);all_goals try omega
 rotate_left
 ·rename_i h;exact absurd (by decide) h
 refine a0b [(0,1)] [] (hP) ?_
 simp only [go_sem,hG,hOw]
 (repeat' with_reducible first|refine And.intro ?_ ?_|intro _|refine exP ?_ ?_);all_goals try omega
 refine a0b [(0,1)] [] (a6s lo w r hw) ?_
 simp only [go_sem,hG,hOw]
 (repeat' with_reducible first|refine And.intro ?_ ?_|intro _|refine exP ?_ ?_);all_goals try omega
 refine a1w ⟨[2],[(21,[2]),(22,[2])],[]⟩ [(0,false),(1,false),(2,false),(3,false)] mixed (by kernel_rfl) ?_
 simp only [a2r,List.getElem?_cons_zero,List.getElem?_cons_succ]
 simp only [go_sem,hG,hOw]
 (repeat' with_reducible first|refine And.intro ?_ ?_|intro _|refine exP ?_ ?_);all_goals try omega
 exact (a1x [(0,some 0),(1,some 1),(2,some 2),(5,some 20),(4,some 4)])
open Go Pm
set_option maxHeartbeats 4000000
set_option maxRecDepth 100000
theorem e1r (lo:Nat) (all:List Si) (l:List ByteArray) (hl:∀ s ∈ l,s.size≤100000) (hp:a2q l=false) (m:List (Value×V)) :
  Tri Tryz.prog 93 [str a7h,.ptr 1 0,.ptr 0 0,.ptr 2 0] [(0,.box [.own 3 0 all.length 6]),(1,.box [a0e lo l]),(2,.box [.mp 4]),(3,.arr 87 6 (all.map siC)),(4,.map .string m)]
   (fun _=>.pan (wrV 111) []):=by
 have hP:=a2k lo l hl
 simp only [hp] at hP
 refine a0d (fun _=>false) Tryz.func93 Tryz.ntmps93 rfl rfl fun G hG hOw hNm=>?_;simp only [go_sem,hG,hOw]
 (repeat' with_reducible first|refine And.intro ?_ ?_|intro _|refine exP ?_ ?_);all_goals try omega
 rotate_left
 ·rename_i h;exact absurd (by decide) h
 refine a0b [(0,1)] [] (hP) ?_
 simp only [go_sem,hG,hOw]
 exact ⟨rfl,(a1x [])⟩
theorem e2y (lo:Nat) (all:List Si) (l:List ByteArray) (hl:∀ s ∈ l,s.size≤100000) (hp:a2q l=true) (w:ByteArray) (r:List ByteArray) (hd:l.drop 3=w::r) (hw:a1p w=false) (m:List (Value×V)) :
  Tri Tryz.prog 93 [str a7h,.ptr 1 0,.ptr 0 0,.ptr 2 0] [(0,.box [.own 3 0 all.length 6]),(1,.box [a0e lo l]),(2,.box [.mp 4]),(3,.arr 87 6 (all.map siC)),(4,.map .string m)]
   (fun _=>.pan (wrV 111) []):=by
 have hP:=a2k lo l hl
 simp only [hp,hd] at hP
 refine a0d (fun _=>false) Tryz.func93 Tryz.ntmps93 rfl rfl fun G hG hOw hNm=>?_;simp only [go_sem,hG,hOw]
 (repeat' with_reducible first|refine And.intro ?_ ?_|intro _|refine exP ?_ ?_);all_goals try omega
 rotate_left
 ·rename_i h;exact absurd (by decide) h
 refine a0b [(0,1)] [] (hP) ?_
 simp only [go_sem,hG,hOw]
 (repeat' with_reducible first|refine And.intro ?_ ?_|intro _|refine exP ?_ ?_);all_goals try omega
 refine a0b [(0,1)] [] (b0h lo w r hw) ?_
 simp only [go_sem,hG,hOw]
 exact ⟨rfl,(a1x [])⟩
theorem e2a (lo:Nat) (all:List Si) (l:List ByteArray) (hl:∀ s ∈ l,s.size≤100000) (hp:a2q l=true) (w:ByteArray) (r:List ByteArray) (hd:l.drop 3=[]) (hw:a1p w=false) (m:List (Value×V)) :
  Tri Tryz.prog 93 [str a7h,.ptr 1 0,.ptr 0 0,.ptr 2 0] [(0,.box [.own 3 0 all.length 6]),(1,.box [a0e lo l]),(2,.box [.mp 4]),(3,.arr 87 6 (all.map siC)),(4,.map .string m)]
   (fun _=>.pan (wrV 111) []):=by
 have hP:=a2k lo l hl
 simp only [hp,hd] at hP
 refine a0d (fun _=>false) Tryz.func93 Tryz.ntmps93 rfl rfl fun G hG hOw hNm=>?_;simp only [go_sem,hG,hOw]
 (repeat' with_reducible first|refine And.intro ?_ ?_|intro _|refine exP ?_ ?_);all_goals try omega
 rotate_left
 ·rename_i h;exact absurd (by decide) h
 refine a0b [(0,1)] [] (hP) ?_
 simp only [go_sem,hG,hOw]
 (repeat' with_reducible first|refine And.intro ?_ ?_|intro _|refine exP ?_ ?_);all_goals try omega
 refine a0b [(0,1)] [] (b7a lo) ?_
 simp only [go_sem,hG,hOw]
 exact ⟨rfl,(a1x [])⟩
theorem g2l (lo:Nat) (all:List Si) (name:ByteArray) (l:List ByteArray) (hn:¬ name=a7h) (m:List (Value×V)) (hm:lkM m (.string name)=none) :
  Tri Tryz.prog 93 [str name,.ptr 1 0,.ptr 0 0,.ptr 2 0] [(0,.box [.own 3 0 all.length 6]),(1,.box [a0e lo l]),(2,.box [.mp 4]),(3,.arr 87 6 (all.map siC)),(4,.map .string m)]
   (fun _=>.pan (wrV 111) []):=by
 refine a0d (fun _=>false) Tryz.func93 Tryz.ntmps93 rfl rfl fun G hG hOw hNm=>?_;simp only [go_sem,hG,hOw]
 (repeat' with_reducible first|refine And.intro ?_ ?_|intro _|refine exP ?_ ?_);all_goals try omega
 ·rename_i h;exact absurd h hn
 rw [hm]
 refine a0b [] [] (a3v 111) ?_
 simp only [go_sem,hG,hOw]
 exact ⟨rfl,(a1x [])⟩
theorem e7v (lo:Nat) (i:List Si) (s:Si) (r:List ByteArray) (hr:a4c r=true) (hrl:r.length≤1000) (hrs:∀ x ∈ r,x.size≤100000) (hi:i.length≤1000) :
  Tri Tryz.prog 93 [str a2s,.ptr 1 0,.ptr 0 0,.ptr 2 0] [(0,.box [.own 3 0 (i.length+1) 6]),(1,.box [a0e lo r]),(2,.box [.mp 4]),(3,.arr 87 6 (i.map siC++[siC s])),(4,.map .string (a6t 2))]
   (fun _=>.ret (.tup []) [(0,.box [.own 5 0 (i.length+1) 6]),(1,.box [a0e lo []]),(2,.box [.mp 4]),(5,.arr 87 6 (i.map siC++[siC { s with bef:=a1o r }])),(4,.map .string (a6t 1))]):=by
 have hW:=a3s lo r hrl
 simp only [hr,if_true] at hW
 have h1:(((i.length+1:Nat):Int) - 1).toNat=i.length:=by omega
 have g1:∀ (a:List V) (h:i.length < (i.map siC++[a]).length),(i.map siC++[a])[i.length]'h=a:=fun a h=>by simp
 have g2:∀ (a b:List V),(i.map siC++[a]).set i.length b=i.map siC++[b]:=fun a b=>by rw [List.set_append_right _ _ (by simp)];simp
 unfold a2s
 refine a0d (fun _=>false) Tryz.func93 Tryz.ntmps93 rfl rfl fun G hG hOw hNm=>?_;simp only [go_sem,hG,hOw]
 (repeat' with_reducible first|refine And.intro ?_ ?_|intro _|refine exP ?_ ?_);all_goals try omega
 ·rename_i h;exact absurd h (by decide)
 refine a0b [] [] (a0s 111) ?_
 simp (maxSteps:=2000000) only [go_sem,hG,hOw,h1,g1,g2]
 (repeat' with_reducible first|refine And.intro ?_ ?_|intro _|refine exP ?_ ?_);all_goals try omega
 refine a0b [(0,1)] [] (hW) ?_
 simp (maxSteps:=2000000) only [go_sem,hG,hOw,h1,g1,g2]
 (repeat' with_reducible first|refine And.intro ?_ ?_|intro _|refine exP ?_ ?_);all_goals try omega
 refine a0a (b1l r hrl hrs) ?_
 simp (maxSteps:=2000000) only [go_sem,hG,hOw,h1,g1,g2]
 (repeat' with_reducible first|refine And.intro ?_ ?_|intro _|refine exP ?_ ?_);all_goals try omega
 all_goals first|(rename_i h;exact absurd h (by decide))|exact (a1x [(0,some 0),(1,some 1),(2,some 2),(5,some 3),(4,some 4)])
theorem e3u (lo:Nat) (i:List Si) (s:Si) (r:List ByteArray) (hr:a4c r=false) (hrl:r.length≤1000) (hi:i.length≤1000) :
  Tri Tryz.prog 93 [str a2s,.ptr 1 0,.ptr 0 0,.ptr 2 0] [(0,.box [.own 3 0 (i.length+1) 6]),(1,.box [a0e lo r]),(2,.box [.mp 4]),(3,.arr 87 6 (i.map siC++[siC s])),(4,.map .string (a6t 2))]
   (fun _=>.pan (wrV 111) []):=by
 have hW:=a3s lo r hrl
 simp only [hr,Bool.false_eq_true,if_false] at hW
 have h1:(((i.length+1:Nat):Int) - 1).toNat=i.length:=by omega
 have g1:∀ (a:List V) (h:i.length < (i.map siC++[a]).length),(i.map siC++[a])[i.length]'h=a:=fun a h=>by simp
 unfold a2s
 refine a0d (fun _=>false) Tryz.func93 Tryz.ntmps93 rfl rfl fun G hG hOw hNm=>?_;simp only [go_sem,hG,hOw]
 (repeat' with_reducible first|refine And.intro ?_ ?_|intro _|refine exP ?_ ?_);all_goals try omega
 ·rename_i h;exact absurd h (by decide)
 refine a0b [] [] (a0s 111) ?_
 simp (maxSteps:=2000000) only [go_sem,hG,hOw,h1,g1]
 (repeat' with_reducible first|refine And.intro ?_ ?_|intro _|refine exP ?_ ?_);all_goals try omega
 refine a0b [(0,1)] [] (hW) ?_
 simp only [go_sem,hG,hOw]
 exact ⟨rfl,(a1x [])⟩
theorem e4h (lo:Nat) (i:List Si) (s:Si) (r:List ByteArray) (hr:a4c r=true) (hrl:r.length≤1000) (hrs:∀ x ∈ r,x.size≤100000) (hi:i.length≤1000) :
  Tri Tryz.prog 93 [str a2s,.ptr 1 0,.ptr 0 0,.ptr 2 0] [(0,.box [.own 3 0 (i.length+1) 6]),(1,.box [a0e lo r]),(2,.box [.mp 4]),(3,.arr 87 6 (i.map siC++[siC s])),(4,.map .string (a6t 3))]
   (fun _=>.ret (.tup []) [(0,.box [.own 5 0 (i.length+1) 6]),(1,.box [a0e lo []]),(2,.box [.mp 4]),(5,.arr 87 6 (i.map siC++[siC { s with bef:=a1o r }])),(4,.map .string (a6t 1))]):=by
 have hW:=a3s lo r hrl
 simp only [hr,if_true] at hW
 have h1:(((i.length+1:Nat):Int) - 1).toNat=i.length:=by omega
 have g1:∀ (a:List V) (h:i.length < (i.map siC++[a]).length),(i.map siC++[a])[i.length]'h=a:=fun a h=>by simp
 have g2:∀ (a b:List V),(i.map siC++[a]).set i.length b=i.map siC++[b]:=fun a b=>by rw [List.set_append_right _ _ (by simp)];simp
 unfold a2s
 refine a0d (fun _=>false) Tryz.func93 Tryz.ntmps93 rfl rfl fun G hG hOw hNm=>?_;simp only [go_sem,hG,hOw]
 (repeat' with_reducible first|refine And.intro ?_ ?_|intro _|refine exP ?_ ?_);all_goals try omega
 ·rename_i h;exact absurd h (by decide)
 refine a0b [] [] (a0s 111) ?_
 simp (maxSteps:=2000000) only [go_sem,hG,hOw,h1,g1,g2]
 (repeat' with_reducible first|refine And.intro ?_ ?_|intro _|refine exP ?_ ?_);all_goals try omega
 refine a0b [(0,1)] [] (hW) ?_
 simp (maxSteps:=2000000) only [go_sem,hG,hOw,h1,g1,g2]
 (repeat' with_reducible first|refine And.intro ?_ ?_|intro _|refine exP ?_ ?_);all_goals try omega
 refine a0a (b1l r hrl hrs) ?_
 simp (maxSteps:=2000000) only [go_sem,hG,hOw,h1,g1,g2]
 (repeat' with_reducible first|refine And.intro ?_ ?_|intro _|refine exP ?_ ?_);all_goals try omega
 all_goals first|(rename_i h;exact absurd h (by decide))|exact (a1x [(0,some 0),(1,some 1),(2,some 2),(5,some 3),(4,some 4)])
theorem d8s (lo:Nat) (i:List Si) (s:Si) (r:List ByteArray) (hr:a4c r=false) (hrl:r.length≤1000) (hi:i.length≤1000) :
  Tri Tryz.prog 93 [str a2s,.ptr 1 0,.ptr 0 0,.ptr 2 0] [(0,.box [.own 3 0 (i.length+1) 6]),(1,.box [a0e lo r]),(2,.box [.mp 4]),(3,.arr 87 6 (i.map siC++[siC s])),(4,.map .string (a6t 3))]
   (fun _=>.pan (wrV 111) []):=by
 have hW:=a3s lo r hrl
 simp only [hr,Bool.false_eq_true,if_false] at hW
 have h1:(((i.length+1:Nat):Int) - 1).toNat=i.length:=by omega
 have g1:∀ (a:List V) (h:i.length < (i.map siC++[a]).length),(i.map siC++[a])[i.length]'h=a:=fun a h=>by simp
 unfold a2s
 refine a0d (fun _=>false) Tryz.func93 Tryz.ntmps93 rfl rfl fun G hG hOw hNm=>?_;simp only [go_sem,hG,hOw]
 (repeat' with_reducible first|refine And.intro ?_ ?_|intro _|refine exP ?_ ?_);all_goals try omega
 ·rename_i h;exact absurd h (by decide)
 refine a0b [] [] (a0s 111) ?_
 simp (maxSteps:=2000000) only [go_sem,hG,hOw,h1,g1]
 (repeat' with_reducible first|refine And.intro ?_ ?_|intro _|refine exP ?_ ?_);all_goals try omega
 refine a0b [(0,1)] [] (hW) ?_
 simp only [go_sem,hG,hOw]
 exact ⟨rfl,(a1x [])⟩
theorem e5e (lo:Nat) (i:List Si) (s:Si) (r:List ByteArray) (hr:a4c r=true) (hrl:r.length≤1000) (hrs:∀ x ∈ r,x.size≤100000) (hi:i.length≤1000) :
  Tri Tryz.prog 93 [str a2w,.ptr 1 0,.ptr 0 0,.ptr 2 0] [(0,.box [.own 3 0 (i.length+1) 6]),(1,.box [a0e lo r]),(2,.box [.mp 4]),(3,.arr 87 6 (i.map siC++[siC s])),(4,.map .string (a6t 1))]
   (fun _=>.ret (.tup []) [(0,.box [.own 5 0 (i.length+1) 6]),(1,.box [a0e lo []]),(2,.box [.mp 4]),(5,.arr 87 6 (i.map siC++[siC { s with aft:=a1o r }])),(4,.map .string (a6t 0))]):=by
 have hW:=a3s lo r hrl
 simp only [hr,if_true] at hW
 have h1:(((i.length+1:Nat):Int) - 1).toNat=i.length:=by omega
 have g1:∀ (a:List V) (h:i.length < (i.map siC++[a]).length),(i.map siC++[a])[i.length]'h=a:=fun a h=>by simp
 have g2:∀ (a b:List V),(i.map siC++[a]).set i.length b=i.map siC++[b]:=fun a b=>by rw [List.set_append_right _ _ (by simp)];simp
 unfold a2w
 refine a0d (fun _=>false) Tryz.func93 Tryz.ntmps93 rfl rfl fun G hG hOw hNm=>?_;simp only [go_sem,hG,hOw]
 (repeat' with_reducible first|refine And.intro ?_ ?_|intro _|refine exP ?_ ?_);all_goals try omega
 ·rename_i h;exact absurd h (by decide)
 refine a0b [] [] (a0s 111) ?_
 simp (maxSteps:=2000000) only [go_sem,hG,hOw,h1,g1,g2]
 (repeat' with_reducible first|refine And.intro ?_ ?_|intro _|refine exP ?_ ?_);all_goals try omega
 refine a0b [(0,1)] [] (hW) ?_
 simp (maxSteps:=2000000) only [go_sem,hG,hOw,h1,g1,g2]
 (repeat' with_reducible first|refine And.intro ?_ ?_|intro _|refine exP ?_ ?_);all_goals try omega
 refine a0a (b1l r hrl hrs) ?_
 simp (maxSteps:=2000000) only [go_sem,hG,hOw,h1,g1,g2]
 (repeat' with_reducible first|refine And.intro ?_ ?_|intro _|refine exP ?_ ?_);all_goals try omega
 all_goals first|(rename_i h;exact absurd h (by decide))|exact (a1x [(0,some 0),(1,some 1),(2,some 2),(5,some 3),(4,some 4)])
theorem e3g (lo:Nat) (i:List Si) (s:Si) (r:List ByteArray) (hr:a4c r=false) (hrl:r.length≤1000) (hi:i.length≤1000) :
  Tri Tryz.prog 93 [str a2w,.ptr 1 0,.ptr 0 0,.ptr 2 0] [(0,.box [.own 3 0 (i.length+1) 6]),(1,.box [a0e lo r]),(2,.box [.mp 4]),(3,.arr 87 6 (i.map siC++[siC s])),(4,.map .string (a6t 1))]
   (fun _=>.pan (wrV 111) []):=by
 have hW:=a3s lo r hrl
 simp only [hr,Bool.false_eq_true,if_false] at hW
 have h1:(((i.length+1:Nat):Int) - 1).toNat=i.length:=by omega
 have g1:∀ (a:List V) (h:i.length < (i.map siC++[a]).length),(i.map siC++[a])[i.length]'h=a:=fun a h=>by simp
 unfold a2w
 refine a0d (fun _=>false) Tryz.func93 Tryz.ntmps93 rfl rfl fun G hG hOw hNm=>?_;simp only [go_sem,hG,hOw]
 (repeat' with_reducible first|refine And.intro ?_ ?_|intro _|refine exP ?_ ?_);all_goals try omega
 ·rename_i h;exact absurd h (by decide)
 refine a0b [] [] (a0s 111) ?_
 simp (maxSteps:=2000000) only [go_sem,hG,hOw,h1,g1]
 (repeat' with_reducible first|refine And.intro ?_ ?_|intro _|refine exP ?_ ?_);all_goals try omega
 refine a0b [(0,1)] [] (hW) ?_
 simp only [go_sem,hG,hOw]
 exact ⟨rfl,(a1x [])⟩
theorem e7u (lo:Nat) (i:List Si) (s:Si) (r:List ByteArray) (hr:a4c r=true) (hrl:r.length≤1000) (hrs:∀ x ∈ r,x.size≤100000) (hi:i.length≤1000) :
  Tri Tryz.prog 93 [str a2w,.ptr 1 0,.ptr 0 0,.ptr 2 0] [(0,.box [.own 3 0 (i.length+1) 6]),(1,.box [a0e lo r]),(2,.box [.mp 4]),(3,.arr 87 6 (i.map siC++[siC s])),(4,.map .string (a6t 2))]
   (fun _=>.ret (.tup []) [(0,.box [.own 5 0 (i.length+1) 6]),(1,.box [a0e lo []]),(2,.box [.mp 4]),(5,.arr 87 6 (i.map siC++[siC { s with aft:=a1o r }])),(4,.map .string (a6t 0))]):=by
 have hW:=a3s lo r hrl
 simp only [hr,if_true] at hW
 have h1:(((i.length+1:Nat):Int) - 1).toNat=i.length:=by omega
 have g1:∀ (a:List V) (h:i.length < (i.map siC++[a]).length),(i.map siC++[a])[i.length]'h=a:=fun a h=>by simp
 have g2:∀ (a b:List V),(i.map siC++[a]).set i.length b=i.map siC++[b]:=fun a b=>by rw [List.set_append_right _ _ (by simp)];simp
 unfold a2w
 refine a0d (fun _=>false) Tryz.func93 Tryz.ntmps93 rfl rfl fun G hG hOw hNm=>?_;simp only [go_sem,hG,hOw]
 (repeat' with_reducible first|refine And.intro ?_ ?_|intro _|refine exP ?_ ?_);all_goals try omega
 ·rename_i h;exact absurd h (by decide)
 refine a0b [] [] (a0s 111) ?_
 simp (maxSteps:=2000000) only [go_sem,hG,hOw,h1,g1,g2]
 (repeat' with_reducible first|refine And.intro ?_ ?_|intro _|refine exP ?_ ?_);all_goals try omega
 refine a0b [(0,1)] [] (hW) ?_
 simp (maxSteps:=2000000) only [go_sem,hG,hOw,h1,g1,g2]
 (repeat' with_reducible first|refine And.intro ?_ ?_|intro _|refine exP ?_ ?_);all_goals try omega
 refine a0a (b1l r hrl hrs) ?_
 simp (maxSteps:=2000000) only [go_sem,hG,hOw,h1,g1,g2]
 (repeat' with_reducible first|refine And.intro ?_ ?_|intro _|refine exP ?_ ?_);all_goals try omega
 all_goals first|(rename_i h;exact absurd h (by decide))|exact (a1x [(0,some 0),(1,some 1),(2,some 2),(5,some 3),(4,some 4)])
theorem d6k (lo:Nat) (i:List Si) (s:Si) (r:List ByteArray) (hr:a4c r=false) (hrl:r.length≤1000) (hi:i.length≤1000) :
  Tri Tryz.prog 93 [str a2w,.ptr 1 0,.ptr 0 0,.ptr 2 0] [(0,.box [.own 3 0 (i.length+1) 6]),(1,.box [a0e lo r]),(2,.box [.mp 4]),(3,.arr 87 6 (i.map siC++[siC s])),(4,.map .string (a6t 2))]
   (fun _=>.pan (wrV 111) []):=by
 have hW:=a3s lo r hrl
 simp only [hr,Bool.false_eq_true,if_false] at hW
 have h1:(((i.length+1:Nat):Int) - 1).toNat=i.length:=by omega
 have g1:∀ (a:List V) (h:i.length < (i.map siC++[a]).length),(i.map siC++[a])[i.length]'h=a:=fun a h=>by simp
 unfold a2w
 refine a0d (fun _=>false) Tryz.func93 Tryz.ntmps93 rfl rfl fun G hG hOw hNm=>?_;simp only [go_sem,hG,hOw]
 (repeat' with_reducible first|refine And.intro ?_ ?_|intro _|refine exP ?_ ?_);all_goals try omega
 ·rename_i h;exact absurd h (by decide)
 refine a0b [] [] (a0s 111) ?_
 simp (maxSteps:=2000000) only [go_sem,hG,hOw,h1,g1]
 (repeat' with_reducible first|refine And.intro ?_ ?_|intro _|refine exP ?_ ?_);all_goals try omega
 refine a0b [(0,1)] [] (hW) ?_
 simp only [go_sem,hG,hOw]
 exact ⟨rfl,(a1x [])⟩
theorem e7p (lo:Nat) (i:List Si) (s:Si) (r:List ByteArray) (hr:a4c r=true) (hrl:r.length≤1000) (hrs:∀ x ∈ r,x.size≤100000) (hi:i.length≤1000) :
  Tri Tryz.prog 93 [str a2w,.ptr 1 0,.ptr 0 0,.ptr 2 0] [(0,.box [.own 3 0 (i.length+1) 6]),(1,.box [a0e lo r]),(2,.box [.mp 4]),(3,.arr 87 6 (i.map siC++[siC s])),(4,.map .string (a6t 3))]
   (fun _=>.ret (.tup []) [(0,.box [.own 5 0 (i.length+1) 6]),(1,.box [a0e lo []]),(2,.box [.mp 4]),(5,.arr 87 6 (i.map siC++[siC { s with aft:=a1o r }])),(4,.map .string (a6t 0))]):=by
 have hW:=a3s lo r hrl
 simp only [hr,if_true] at hW
 have h1:(((i.length+1:Nat):Int) - 1).toNat=i.length:=by omega
 have g1:∀ (a:List V) (h:i.length < (i.map siC++[a]).length),(i.map siC++[a])[i.length]'h=a:=fun a h=>by simp
 have g2:∀ (a b:List V),(i.map siC++[a]).set i.length b=i.map siC++[b]:=fun a b=>by rw [List.set_append_right _ _ (by simp)];simp
 unfold a2w
 refine a0d (fun _=>false) Tryz.func93 Tryz.ntmps93 rfl rfl fun G hG hOw hNm=>?_;simp only [go_sem,hG,hOw]
 (repeat' with_reducible first|refine And.intro ?_ ?_|intro _|refine exP ?_ ?_);all_goals try omega
 ·rename_i h;exact absurd h (by decide)
 refine a0b [] [] (a0s 111) ?_
 simp (maxSteps:=2000000) only [go_sem,hG,hOw,h1,g1,g2]
 (repeat' with_reducible first|refine And.intro ?_ ?_|intro _|refine exP ?_ ?_);all_goals try omega
 refine a0b [(0,1)] [] (hW) ?_
 simp (maxSteps:=2000000) only [go_sem,hG,hOw,h1,g1,g2]
 (repeat' with_reducible first|refine And.intro ?_ ?_|intro _|refine exP ?_ ?_);all_goals try omega
 refine a0a (b1l r hrl hrs) ?_
 simp (maxSteps:=2000000) only [go_sem,hG,hOw,h1,g1,g2]
 (repeat' with_reducible first|refine And.intro ?_ ?_|intro _|refine exP ?_ ?_);all_goals try omega
 all_goals first|(rename_i h;exact absurd h (by decide))|exact (a1x [(0,some 0),(1,some 1),(2,some 2),(5,some 3),(4,some 4)])
theorem d9p (lo:Nat) (i:List Si) (s:Si) (r:List ByteArray) (hr:a4c r=false) (hrl:r.length≤1000) (hi:i.length≤1000) :
  Tri Tryz.prog 93 [str a2w,.ptr 1 0,.ptr 0 0,.ptr 2 0] [(0,.box [.own 3 0 (i.length+1) 6]),(1,.box [a0e lo r]),(2,.box [.mp 4]),(3,.arr 87 6 (i.map siC++[siC s])),(4,.map .string (a6t 3))]
   (fun _=>.pan (wrV 111) []):=by
 have hW:=a3s lo r hrl
 simp only [hr,Bool.false_eq_true,if_false] at hW
 have h1:(((i.length+1:Nat):Int) - 1).toNat=i.length:=by omega
 have g1:∀ (a:List V) (h:i.length < (i.map siC++[a]).length),(i.map siC++[a])[i.length]'h=a:=fun a h=>by simp
 unfold a2w
 refine a0d (fun _=>false) Tryz.func93 Tryz.ntmps93 rfl rfl fun G hG hOw hNm=>?_;simp only [go_sem,hG,hOw]
 (repeat' with_reducible first|refine And.intro ?_ ?_|intro _|refine exP ?_ ?_);all_goals try omega
 ·rename_i h;exact absurd h (by decide)
 refine a0b [] [] (a0s 111) ?_
 simp (maxSteps:=2000000) only [go_sem,hG,hOw,h1,g1]
 (repeat' with_reducible first|refine And.intro ?_ ?_|intro _|refine exP ?_ ?_);all_goals try omega
 refine a0b [(0,1)] [] (hW) ?_
 simp only [go_sem,hG,hOw]
 exact ⟨rfl,(a1x [])⟩
theorem a9y (l:List Si):l=[]∨∃ i s,l=i++[s]:=by
 rcases List.eq_nil_or_concat l with h|⟨i,s,h⟩
 ·exact .inl h
 ·exact .inr ⟨i,s,by rw [h,List.concat_eq_append]⟩
theorem a3o (f:Si→Si) (i:List Si) (s:Si):c0h f (i++[s])=i++[f s]:=by simp [c0h]
def WOK (s:List Si×Nat):Prop:=s.2≤3∧(1≤s.2→s.1≠[])
theorem f7e {q:Nat} (h:q≤3):1≤upQ q∧upQ q≤3:=by
 unfold upQ
 split
 ·omega
 ·split<;>omega
theorem e9j {s s':List Si×Nat} {name:ByteArray} {rest r':List ByteArray} (hs:WOK s) (h:b4n s name rest=some (s',r')):WOK s'∧s'.1.length≤s.1.length+1:=by
 unfold b4n at h
 split at h
 ·split at h
  ·split at h
   ·split at h
    ·simp only [Option.some.injEq,Prod.mk.injEq] at h
     obtain ⟨rfl,_⟩:=h
     exact ⟨⟨(f7e hs.1).2,fun _=>by simp⟩,by simp⟩
    ·cases h
   ·cases h
  ·cases h
 ·split at h
  ·split at h
   ·rename_i hq
    split at h
    ·simp only [Option.some.injEq,Prod.mk.injEq] at h
     obtain ⟨rfl,_⟩:=h
     rcases a9y s.1 with e|⟨i,x,e⟩
     ·exact absurd e (hs.2 (by omega))
     ·rw [e]
      simp only [a3o]
      exact ⟨⟨by simp,fun _=>by simp⟩,by simp⟩
    ·cases h
   ·cases h
  ·split at h
   ·split at h
    ·rename_i hq
     split at h
     ·simp only [Option.some.injEq,Prod.mk.injEq] at h
      obtain ⟨rfl,_⟩:=h
      rcases a9y s.1 with e|⟨i,x,e⟩
      ·exact absurd e (hs.2 (by omega))
      ·rw [e]
       simp only [a3o]
       exact ⟨⟨by simp,fun h=>absurd h (by simp)⟩,by simp⟩
     ·cases h
    ·cases h
   ·cases h
theorem f7n (lo:Nat) (s s':List Si×Nat) (name:ByteArray) (rest r':List ByteArray) (hw:WOK s) (hs:b4n s name rest=some (s',r')) (hl:∀ s ∈ rest,s.size≤100000) (hrl:rest.length≤1000) (hb:s.1.length≤1000) :
  Tri Tryz.prog 93 [str name,.ptr 1 0,.ptr 0 0,.ptr 2 0] [(0,.box [.own 3 0 s.1.length 6]),(1,.box [a0e lo rest]),(2,.box [.mp 4]),(3,.arr 87 6 (s.1.map siC)),(4,.map .string (a6t s.2))]
   (fun _=>.ret (.tup []) [(0,.box [.own 5 0 s'.1.length 6]),(1,.box [a0e lo r']),(2,.box [.mp 4]),(5,.arr 87 6 (s'.1.map siC)),(4,.map .string (a6t s'.2))]):=by
 obtain ⟨all,q⟩:=s
 obtain ⟨hq,hne⟩:=hw
 simp only at hq hne hb ⊢
 have hq4:q=0∨q=1∨q=2∨q=3:=by omega
 unfold b4n at hs
 simp only at hs
 split at hs
 ·rename_i hn
  subst hn
  split at hs
  ·rename_i hp
   split at hs
   ·rename_i w r hd
    split at hs
    ·rename_i hwd
     simp only [Option.some.injEq,Prod.mk.injEq] at hs
     obtain ⟨rfl,rfl⟩:=hs
     rcases hq4 with rfl|rfl|rfl|rfl
     ·simpa [upQ] using d8y lo all rest hl hp w r hd hwd hb
     ·simpa [upQ] using e0r lo all rest hl hp w r hd hwd hb
     ·simpa [upQ] using d5l lo all rest hl hp w r hd hwd hb
     ·simpa [upQ] using e1x lo all rest hl hp w r hd hwd hb
    ·cases hs
   ·cases hs
  ·cases hs
 ·split at hs
  ·rename_i hn
   subst hn
   split at hs
   ·rename_i h2
    split at hs
    ·rename_i hr
     simp only [Option.some.injEq,Prod.mk.injEq] at hs
     obtain ⟨rfl,rfl⟩:=hs
     rcases a9y all with e|⟨i,x,e⟩
     ·exact absurd e (hne (by omega))
     ·subst e
      simp only [List.length_append,List.length_singleton] at hb
      rcases hq4 with rfl|rfl|rfl|rfl
      ·omega
      ·omega
      ·simpa [a3o] using e7v lo i x rest hr hrl hl (by omega)
      ·simpa [a3o] using e4h lo i x rest hr hrl hl (by omega)
    ·cases hs
   ·cases hs
  ·split at hs
   ·rename_i hn
    subst hn
    split at hs
    ·rename_i h1
     split at hs
     ·rename_i hr
      simp only [Option.some.injEq,Prod.mk.injEq] at hs
      obtain ⟨rfl,rfl⟩:=hs
      rcases a9y all with e|⟨i,x,e⟩
      ·exact absurd e (hne (by omega))
      ·subst e
       simp only [List.length_append,List.length_singleton] at hb
       rcases hq4 with rfl|rfl|rfl|rfl
       ·omega
       ·simpa [a3o] using e5e lo i x rest hr hrl hl (by omega)
       ·simpa [a3o] using e7u lo i x rest hr hrl hl (by omega)
       ·simpa [a3o] using e7p lo i x rest hr hrl hl (by omega)
     ·cases hs
    ·cases hs
   ·cases hs
theorem f2r (q:Nat) (hq:q≤3) (name:ByteArray) (h1:¬ (name=a2s∧2≤q)) (h2:¬ (name=a2w∧1≤q)):lkM (a6t q) (.string name)=none:=by
 have k1:∀ x:ByteArray,b4o (.string x) (.string name)=decide (x=name):=fun x=>rfl
 have hq4:q=0∨q=1∨q=2∨q=3:=by omega
 rcases hq4 with rfl|rfl|rfl|rfl
 ·rfl
 ·have a:¬ a2w=name:=fun e=>h2 ⟨e.symm,by omega⟩
  simp [a6t,lkM,k1,a]
 ·have a:¬ a2w=name:=fun e=>h2 ⟨e.symm,by omega⟩
  have b:¬ a2s=name:=fun e=>h1 ⟨e.symm,by omega⟩
  simp [a6t,lkM,k1,a,b]
 ·have a:¬ a2w=name:=fun e=>h2 ⟨e.symm,by omega⟩
  have b:¬ a2s=name:=fun e=>h1 ⟨e.symm,by omega⟩
  simp [a6t,lkM,k1,a,b]
theorem f1k (lo:Nat) (s:List Si×Nat) (name:ByteArray) (rest:List ByteArray) (hw:WOK s) (hs:b4n s name rest=none) (hl:∀ s ∈ rest,s.size≤100000) (hrl:rest.length≤1000) (hb:s.1.length≤1000) :
  Tri Tryz.prog 93 [str name,.ptr 1 0,.ptr 0 0,.ptr 2 0] [(0,.box [.own 3 0 s.1.length 6]),(1,.box [a0e lo rest]),(2,.box [.mp 4]),(3,.arr 87 6 (s.1.map siC)),(4,.map .string (a6t s.2))]
   (fun _=>.pan (wrV 111) []):=by
 obtain ⟨all,q⟩:=s
 obtain ⟨hq,hne⟩:=hw
 simp only at hq hne hb ⊢
 have hq4:q=0∨q=1∨q=2∨q=3:=by omega
 by_cases hn:name=a7h
 ·subst hn
  cases hp:a2q rest with
  |false=>exact e1r lo all rest hl hp _
  |true =>
   cases hd:rest.drop 3 with
   |nil=>exact e2a lo all rest hl hp ⟨#[]⟩ [] hd (by decide) _
   |cons w r =>
    cases hwd:a1p w with
    |false=>exact e2y lo all rest hl hp w r hd hwd _
    |true=>exfalso;simp [b4n,hp,hd,hwd] at hs
 ·by_cases h1:name=a2s∧2≤q
  ·obtain ⟨rfl,h2⟩:=h1
   cases hr:a4c rest with
   |true=>exfalso;simp [b4n,hn,h2,hr] at hs
   |false =>
    rcases a9y all with e|⟨i,x,e⟩
    ·exact absurd e (hne (by omega))
    ·subst e
     simp only [List.length_append,List.length_singleton] at hb
     rcases hq4 with rfl|rfl|rfl|rfl
     ·omega
     ·omega
     ·simpa using e3u lo i x rest hr hrl (by omega)
     ·simpa using d8s lo i x rest hr hrl (by omega)
  ·by_cases h2:name=a2w∧1≤q
   ·obtain ⟨rfl,h3⟩:=h2
    have hab:¬ a2w=a2s:=by decide
    cases hr:a4c rest with
    |true=>exfalso;simp [b4n,hn,hab,h3,hr] at hs
    |false =>
     rcases a9y all with e|⟨i,x,e⟩
     ·exact absurd e (hne (by omega))
     ·subst e
      simp only [List.length_append,List.length_singleton] at hb
      rcases hq4 with rfl|rfl|rfl|rfl
      ·omega
      ·simpa using e3g lo i x rest hr hrl (by omega)
      ·simpa using d6k lo i x rest hr hrl (by omega)
      ·simpa using d9p lo i x rest hr hrl (by omega)
   ·exact g2l lo all name rest hn _ (f2r q hq name h1 h2)
open Go Pm Go.RowKit Go.Sort
set_option maxHeartbeats 4000000
set_option maxRecDepth 100000
def b7p (s:List Si×Nat) (x:ByteArray):Option (List Si×Nat):=match a2e x with
 |[]=>none
 |name::rest=>match b4n s name rest with
  |some (s',[])=>some s'
  |_=>none
def a6o (s:List Si×Nat):List ByteArray→Option (List Si×Nat)
 |[]=>some s
 |x::l=>(b7p s x).bind fun s'=>a6o s' l
theorem b6m:∀ (l m:List ByteArray) (s:List Si×Nat),a6o s (l++m)=(a6o s l).bind fun s'=>a6o s' m
 |[],m,s=>rfl
 |x::l,m,s=>by
  simp only [List.cons_append,a6o]
  cases b7p s x with
  |none=>rfl
  |some c=>exact b6m l m c
theorem b3d (l:List ByteArray) (s:List Si×Nat) (k:Nat) (hk:k < l.length):a6o s (l.take (k+1))=(a6o s (l.take k)).bind fun s=>b7p s l[k]:=by
 rw [List.take_add_one,List.getElem?_eq_getElem hk,b6m]
 congr 1
 funext s
 simp only [Option.toList,a6o]
 cases b7p s l[k]<;>rfl
theorem c5k {l:List ByteArray} {s0 s:List Si×Nat} {k:Nat} (hk:k < l.length) (h:a6o s0 (l.take k)=some s) (hb:b7p s l[k]=none):a6o s0 l=none:=by
 have h1:a6o s0 (l.take (k+1))=none:=by rw [b3d l s0 k hk,h];simp [hb]
 have h2:=b6m (l.take (k+1)) (l.drop (k+1)) s0
 rw [List.take_append_drop] at h2
 rw [h2,h1];rfl
def W0:List Si×Nat:=([],0)
theorem g3k:WOK W0:=⟨by decide,fun h=>absurd h (by decide)⟩
theorem e5y (r:List ByteArray) (hr:∀ x ∈ r,x.size≤160) (hl:r.length≤161):(a1o r).size≤100000:=by
 have:=e9d 160 r hr
 have h2:(160+1) * r.length≤161 * 161:=Nat.mul_le_mul (by decide) hl
 omega
theorem e0u {s s':List Si×Nat} {name:ByteArray} {rest r':List ByteArray} (hs:WOK s) (hr:∀ x ∈ rest,x.size≤160) (hl:rest.length≤161) (hb:∀ x ∈ s.1,bdS x) (h:b4n s name rest=some (s',r')):∀ x ∈ s'.1,bdS x:=by
 have hj:=e5y rest hr hl
 unfold b4n at h
 split at h
 ·split at h
  ·split at h
   ·rename_i w r hd
    split at h
    ·rename_i hw
     simp only [Option.some.injEq,Prod.mk.injEq] at h
     obtain ⟨rfl,_⟩:=h
     have:=(a3t hw).2
     intro x hx
     rcases List.mem_append.1 hx with hx|hx
     ·exact hb x hx
     ·simp at hx;subst hx;exact ⟨by simp only;omega,by show 0≤_;omega,by show 0≤_;omega⟩
    ·cases h
   ·cases h
  ·cases h
 ·split at h
  ·split at h
   ·split at h
    ·simp only [Option.some.injEq,Prod.mk.injEq] at h
     obtain ⟨rfl,_⟩:=h
     rcases a9y s.1 with e|⟨i,x,e⟩
     ·rw [e];simp [c0h]
     ·rw [e] at hb
      rw [e]
      simp only [a3o]
      intro y hy
      rcases List.mem_append.1 hy with hy|hy
      ·exact hb y (by simp [hy])
      ·simp at hy;subst hy
       obtain ⟨q1,q2,q3⟩:=hb x (by simp)
       exact ⟨q1,hj,q3⟩
    ·cases h
   ·cases h
  ·split at h
   ·split at h
    ·split at h
     ·simp only [Option.some.injEq,Prod.mk.injEq] at h
      obtain ⟨rfl,_⟩:=h
      rcases a9y s.1 with e|⟨i,x,e⟩
      ·rw [e];simp [c0h]
      ·rw [e] at hb
       rw [e]
       simp only [a3o]
       intro y hy
       rcases List.mem_append.1 hy with hy|hy
       ·exact hb y (by simp [hy])
       ·simp at hy;subst hy
        obtain ⟨q1,q2,q3⟩:=hb x (by simp)
        exact ⟨q1,q2,hj⟩
     ·cases h
    ·cases h
   ·cases h
theorem e6j {s s':List Si×Nat} {x:ByteArray} (hx:x.size≤160) (hs:WOK s) (hb:∀ x ∈ s.1,bdS x) (h:b7p s x=some s'):WOK s'∧s'.1.length≤s.1.length+1∧∀ x ∈ s'.1,bdS x:=by
 unfold b7p at h
 split at h
 ·cases h
 ·rename_i name rest hp
  split at h
  ·rename_i t hst
   cases h
   obtain ⟨q1,q2⟩:=e9j hs hst
   refine ⟨q1,q2,e0u hs (fun y hy=>?_) ?_ hb hst⟩
   ·have:=a7f x y (by rw [hp];simp [hy]);omega
   ·have:=a8k x;rw [hp] at this;simp at this;omega
  ·cases h
theorem c0t {l:List ByteArray} (hl:∀ x ∈ l,x.size≤160):∀ {k:Nat} {s:List Si×Nat},k≤l.length→a6o W0 (l.take k)=some s→WOK s∧s.1.length≤k∧∀ x ∈ s.1,bdS x
 |0,s,_,h=>by
  simp [a6o] at h
  subst h
  exact ⟨g3k,by simp [W0],by simp [W0]⟩
 |k+1,s,hk,h=>by
  rw [b3d l W0 k (by omega)] at h
  simp only [Option.bind_eq_some_iff] at h
  obtain ⟨u,h1,h2⟩:=h
  obtain ⟨a,b,c⟩:=c0t hl (by omega) h1
  obtain ⟨a',b',c'⟩:=e6j (hl _ (List.getElem_mem (by omega))) a c h2
  exact ⟨a',by omega,c'⟩
theorem d0a (q:Nat) (p:Nat→Bool) (lo:Nat) (s:St):(a6t q).map (fun e=>(e.1,vwF p lo s 4 e.2))=a6t q:=by
 unfold a6t
 split<;>rfl
theorem e4z (q:Nat) (ρ:Ren):(a6t q).map (fun e=>(e.1,b5c ρ 4 e.2))=a6t q:=by
 unfold a6t
 split<;>rfl
theorem c1h (ρ:Ren) (q q':Nat) (hq:q=q'):okL (okN ρ 4) ((a6t q).map (fun p=>p.2)) ((a6t q').map (fun p=>p.2))=True:=by
 subst hq
 have h:okN ρ 4 (bl true) (bl true):=rfl
 unfold a6t
 split
 ·exact eq_true trivial
 ·exact eq_true ⟨h,trivial⟩
 ·exact eq_true ⟨h,h,trivial⟩
 ·exact eq_true ⟨h,h,trivial⟩
def g5d (q:Nat):Nat:=(a6t q).length
theorem b0q (q:Nat):(a6t q).map (fun p=>p.2)=List.replicate (g5d q) (.v (.bool true)):=by
 unfold g5d a6t
 split<;>rfl
theorem d3s (l:List ByteArray) (h:a1b l=false):Tri Tryz.prog 73 [a0e 0 l,.fn (.func 93) [.ptr 0 0,.ptr 1 0]] [(0,.box [.v (.slice none 0 0)]),(1,.box [.mp 2]),(2,.map .string [])] (fun _=>.pan (wrV 110) []):=by
 refine a0d (fun _=>false) Tryz.func73 Tryz.ntmps73 rfl rfl fun G hG hOw hNm=>?_;simp only [go_sem,hG,hOw]
 (repeat' with_reducible first|refine And.intro ?_ ?_|intro _|refine exP ?_ ?_);all_goals try omega
 refine a0a (a3p l) ?_
 rw [h]
 simp only [go_sem,hG,hOw]
 (repeat' with_reducible first|refine And.intro ?_ ?_|intro _|refine exP ?_ ?_);all_goals try omega
 refine a0b [] [] (a3v 110) ?_
 simp only [go_sem,hG,hOw]
 exact ⟨rfl,(a1x [])⟩
theorem b9g (l:List ByteArray) (h:a1b l=true):Tri Tryz.prog 73 [a0e 0 l,.fn (.func 93) [.ptr 0 0,.ptr 1 0]] [(0,.box [.v (.slice none 0 0)]),(1,.box [.mp 2]),(2,.map .string [])] (fun _=>match a6o W0 l with
  |some s=>.ret (.tup []) [(0,.box [sis 0 s.1])]
  |none=>.pan (wrV 111) []):=by
 obtain ⟨hl1,hl2⟩:=b0j h
 refine a0d (fun _=>false) Tryz.func73 Tryz.ntmps73 rfl rfl fun G hG hOw hNm=>?_;simp only [go_sem,hG,hOw]
 (repeat' with_reducible first|refine And.intro ?_ ?_|intro _|refine exP ?_ ?_);all_goals try omega
 refine a0a (a3p l) ?_
 rw [h]
 simp only [go_sem,hG,hOw]
 (repeat' with_reducible first|refine And.intro ?_ ?_|intro _|refine exP ?_ ?_);all_goals try omega
 refine a0b [] [] (a0s 110) ?_
 simp only [go_sem,hG,hOw]
 (repeat' with_reducible first|refine And.intro ?_ ?_|intro _|refine exP ?_ ?_);all_goals try omega
 have e0:W0.1=[]:=rfl
 have e1:a6t W0.2=[]:=rfl
 refine a6h (fun s:List Si×Nat=>St.of [] [(0,.box [sis 0 s.1]),(1,.box [.mp 2]),(2,.map .string (a6t s.2))]) (fun s=>a6o W0 l=some s) ?_ ?_
 ·refine a0r (fun x:Nat×(List Si×Nat)=>St.of [(1,.fn (.func 93) [.ptr 0 0,.ptr 1 0]),(11,a0e 0 l),(12,i64 l.length),(13,i64 x.1)] [(0,.box [.own 100 0 x.2.1.length 6]),(1,.box [.mp 2]),(2,.map .string (a6t x.2.2)),(100,.arr 87 6 (x.2.1.map siC))]) (fun x=>x.1≤l.length∧a6o W0 (l.take x.1)=some x.2) (fun x=>l.length - x.1) (0,W0) ⟨by simp,by simp [a6o]⟩ (a1l [(0,some 0),(1,some 1),(2,some 2),(100,none)] (by (simp only [e0,e1,List.map_nil,List.length_nil,go_sem])<;>simp [e0,e1,List.map_nil,List.length_nil]) (by (simp only [e0,e1,List.map_nil,List.length_nil,go_sem,a1g,a0q,a0f,a1m])<;>simp [e0,e1,List.map_nil,List.length_nil]) (by simp [a2m,apart]) (by simp [a0h,usH]) (by simp [hNm,lkR,a1c])) ?_
  rintro ⟨k,s⟩ ⟨hk,hrd⟩
  simp only at hk hrd
  obtain ⟨hwk,hbd,_⟩:=c0t hl2 hk hrd
  refine a0l _ _ _ ?_;simp only [go_sem,hG,hOw]
  (repeat' with_reducible first|refine And.intro ?_ ?_|intro _|refine exP ?_ ?_);all_goals try omega
  ·rename_i hlt
   have hkl:k < l.length:=by omega
   have hsz:=hl2 _ (List.getElem_mem hkl)
   refine a0a (b1s l[k] (by omega)) ?_
   obtain ⟨name,rest,hp⟩:∃ name rest,a2e l[k]=name::rest:=by
    cases hq:a2e l[k] with
    |nil=>exact (a9x _ hq).elim
    |cons a b=>exact ⟨a,b,rfl⟩
   have hpl:rest.length≤1000:=by have:=a8k l[k];rw [hp] at this;simp at this;omega
   have hps:∀ s ∈ rest,s.size≤100000:=fun s hs=>by have:=a7f l[k] s (by rw [hp];simp [hs]);omega
   rw [hp]
   simp only [go_sem,hG,hOw]
   (repeat' with_reducible first|refine And.intro ?_ ?_|intro _|refine exP ?_ ?_);all_goals try omega
   refine a0b [(0,20)] [] (a7n G.lo name rest) ?_
   simp only [go_sem,hG,hOw]
   (repeat' with_reducible first|refine And.intro ?_ ?_|intro _|refine exP ?_ ?_);all_goals try omega
   cases hst:b4n s name rest with
   |none =>
    have hno:a6o W0 l=none:=c5k hkl hrd (by unfold b7p;rw [hp];simp only [hst])
    rw [hno]
    refine a0b [(0,0),(1,20),(2,1),(3,100),(4,2)] [] (f1k G.lo s name rest hwk hst hps hpl (by omega)) ?_ (by (simp only [go_sem])<;>simp [b0q,b1c,okN]) (by (simp only [go_sem,a1g,a0q,a0f,a1m])<;>simp [b0q,b1c,okN]) (by simp [a0h,usH,toR,b0q,b1c,okN])
    simp only [go_sem,hG,hOw]
    exact ⟨rfl,(a1x [])⟩
   |some q =>
    obtain ⟨s',r'⟩:=q
    refine a0b [(0,0),(1,20),(2,1),(3,100),(4,2)] [(5,204)] (f7n G.lo s s' name rest r' hwk hst hps hpl (by omega)) ?_ (by (simp only [go_sem])<;>simp [b0q,b1c,okN]) (by (simp only [go_sem,a1g,a0q,a0f,a1m])<;>simp [b0q,b1c,okN]) (by simp [a0h,usH,toR,b0q,b1c,okN])
    simp (maxSteps:=2000000) only [go_sem,hG,hOw,↓e4z]
    (repeat' with_reducible first|refine And.intro ?_ ?_|intro _|refine exP ?_ ?_);all_goals try omega
    ·rename_i hr0
     have hr0:r'=[]:=List.eq_nil_of_length_eq_zero (by omega)
     subst hr0
     have hsF:b7p s l[k]=some s':=by unfold b7p;rw [hp];simp only [hst]
     exact ⟨(k+1,s'),⟨by show k+1≤_;omega,by rw [b3d l W0 k hkl,hrd];simp [hsF]⟩,by show l.length - (k+1) < _;omega,a1l [(0,some 0),(1,some 1),(2,some 2),(100,some 204)] (by (simp only [↓c1h,go_sem])<;>simp []) (by (simp only [↓c1h,go_sem,a1g,a0q,a0f,a1m])<;>simp []) (by simp [a2m,apart]) (by simp [a0h,usH]) (by simp [hNm,lkR,a1c])⟩
    ·rename_i hr0
     have hno:a6o W0 l=none:=c5k hkl hrd (by
      unfold b7p;rw [hp];simp only [hst]
      cases r' with
      |nil=>exact (hr0 rfl).elim
      |cons a b=>rfl)
     rw [hno]
     refine b0m [.int .i64 111] rfl rfl (by kernel_rfl) (by simp [chk,hG]) ?_
     simp only [go_sem,hG,hOw]
     (repeat' with_reducible first|refine And.intro ?_ ?_|intro _|refine exP ?_ ?_);all_goals try omega
     refine a6z rfl rfl ?_
     exact ⟨rfl,(a1x [])⟩
  ·rename_i hge
   obtain rfl:k=l.length:=by omega
   rw [List.take_length] at hrd
   refine ⟨s,hrd,a9s (fun i=>i == 100) ?_⟩
   have hN:Pm.Sub (.lst G.lo 6 (s.1.map siC)) (.lst 0 6 (s.1.map siC)):=Sub.lo (Nat.zero_le _)
   have hT:List.take s.1.length (s.1.map siC)=s.1.map siC:=List.take_of_length_le (by simp)
   exact a1l [(0,some 0),(1,some 1),(2,some 2)] (by (simp only [hT,hN,↓d0a,↓c1h,go_sem])<;>simp [hT,hN]) (by (simp only [hT,hN,↓d0a,↓c1h,go_sem,a1g,a0q,a0f,a1m])<;>simp [hT,hN]) (by simp [a2m,apart]) (by simp [a0h,usH]) (by simp [hNm,lkR,a1c])
 ·rintro s hs
  rw [hs]
  simp only [go_sem,hG,hOw]
  (repeat' with_reducible first|refine And.intro ?_ ?_|intro _|refine exP ?_ ?_);all_goals try omega
  exact (a1x [(0,some 0)])
end Go.Proofs.YtmjhfccbbfpppaaGreatDoor
