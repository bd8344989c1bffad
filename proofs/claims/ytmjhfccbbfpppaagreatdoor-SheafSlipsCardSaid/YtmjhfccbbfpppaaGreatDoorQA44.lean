import Derived.Test.YtmjhfccbbfpppaaGreatDoorQA43
namespace Go.Proofs.YtmjhfccbbfpppaaGreatDoor
open Go Pm Go.RowKit Go.Sort
set_option linter.unusedSimpArgs false
set_option linter.unusedVariables false
set_option maxHeartbeats 4000000
set_option maxRecDepth 100000
theorem c7p (l:List ByteArray) (s:List Si×Nat) (h:a1d l=true) (hr:a4i W0 l=some s):Tri Tryz.prog 92 [.ptr 0 0,.ptr 1 0,.ptr 2 0] [(0,.box [i64 0]),(1,.box [a0o 0 l]),(2,.box [.v (.slice none 0 0)])]
  (fun _=>.ret (.tup []) [(0,.box [i64 0]),(1,.box [a0o 0 l]),(2,.box [sis 0 s.1])]):=by
 have hU:=b9w l h
 simp only [hr] at hU
 refine b8h (fun _=>false) (told:=72) (p:=0) (x:=.int .i64 0) wrV (fun _=>True) Tryz.func92 Tryz.ntmps92 rfl (by kernel_rfl) (by simp) rfl rfl rfl rfl rfl (by simp [a0z]) c4l (fun k _=>c5i k) fun G hG hOw hNm _=>?_
 simp only [go_sem,hG,hOw]
 (repeat' with_reducible first|refine And.intro ?_ ?_|intro _|refine exP ?_ ?_);all_goals try omega
 refine a0c [(0,2),(1,3),(2,4)] [] (hU) ?_
 simp (maxSteps:=2000000) only [go_sem,hG,hOw,f4t,f3c]
 (repeat' with_reducible first|refine And.intro ?_ ?_|intro _|refine exP ?_ ?_);all_goals try omega
 exact (a3t [(0,some 0),(1,some 1),(2,some 2)])
theorem c4a (l:List ByteArray) (k:Int) (h:a1d l=false∧k=110∨a1d l=true∧a4i W0 l=none∧k=111):Tri Tryz.prog 92 [.ptr 0 0,.ptr 1 0,.ptr 2 0] [(0,.box [i64 0]),(1,.box [a0o 0 l]),(2,.box [.v (.slice none 0 0)])]
  (fun _=>.ret (.tup []) [(0,.box [i64 k]),(1,.box [a0o 0 l])]):=by
 have hU:Tri Tryz.prog 73 [a0o 0 l,.fn (.func 93) [.ptr 0 0,.ptr 1 0]] [(0,.box [.v (.slice none 0 0)]),(1,.box [.mp 2]),(2,.map .string [])] (fun _=>.pan (wrV k) []):=by
  rcases h with ⟨h1,rfl⟩|⟨h1,h2,rfl⟩
  ·exact d3y l h1
  ·have:=b9w l h1
   simp only [h2] at this
   exact this
 refine b8h (fun _=>false) (told:=72) (p:=0) (x:=.int .i64 0) wrV (fun _=>True) Tryz.func92 Tryz.ntmps92 rfl (by kernel_rfl) (by simp) rfl rfl rfl rfl rfl (by simp [a0z]) c4l (fun k _=>c5i k) fun G hG hOw hNm _=>?_
 simp only [go_sem,hG,hOw]
 (repeat' with_reducible first|refine And.intro ?_ ?_|intro _|refine exP ?_ ?_);all_goals try omega
 refine a0c [(0,2),(1,3),(2,4)] [] (hU) ?_
 simp (maxSteps:=2000000) only [go_sem,hG,hOw,f6p]
 (repeat' with_reducible first|refine And.intro ?_ ?_|intro _|refine exP ?_ ?_);all_goals try omega
 exact ⟨k,rfl,(a3t [(0,some 0),(1,some 1)])⟩
theorem d1v (l:List ByteArray):a0l Tryz.prog 28 [a0o 0 l] (fun _=>.tup [sis 0 (a6e l).1,i64 (a6e l).2]):=by
 by_cases hgood:a1d l=true∧∃ s,a4i W0 l=some s
 ·obtain ⟨h1,s,h2⟩:=hgood
  obtain ⟨hl1,hl2⟩:=d0a h1
  obtain ⟨_,hsl,hbd⟩:=c0j (l:=l) hl2 (k:=l.length) (Nat.le_refl _) (by rw [List.take_length];exact h2)
  have e:a6e l=if s.1.all b1b then (s.1,0) else ([],31):=by unfold a6e;simp only [h1,h2,if_true]
  rw [e]
  obtain ⟨L,hL⟩:∃ L,L=s.1:=⟨_,rfl⟩
  have hT:=c7p l s h1 h2
  rw [← hL] at hT hsl hbd ⊢
  refine a0b (ow:=fun _=>false) Tryz.func28 Tryz.ntmps28 rfl rfl fun G hG hOw hNm hB=>?_;simp only [go_sem,hG,hOw]
  (repeat' with_reducible first|refine And.intro ?_ ?_|intro _|refine exP ?_ ?_);all_goals try omega
  refine a0c [(0,5),(1,1),(2,4)] [] (hT) ?_
  simp only [go_sem,hG,hOw]
  (repeat' with_reducible first|refine And.intro ?_ ?_|intro _|refine exP ?_ ?_);all_goals try omega
  refine a0i (fun k:Nat=>St.of [(4,.ptr 4 0),(15,sis 0 L),(16,i64 L.length),(17,i64 k)] [(4,.box [sis 0 L])]) (fun k=>k≤L.length∧(L.take k).all b1b=true) (fun k=>L.length - k) 0 (by simp) (a1m [(4,some 4)]) ?_
  rintro k ⟨hk,hall⟩
  by_cases hkl:k < L.length
  ·have hlt:(k:Int) < L.length:=by omega
   obtain ⟨x,hx⟩:∃ x,x=L[k]:=⟨_,rfl⟩
   refine a0d _ _ _ ?_
   simp (maxSteps:=2000000) only [go_sem,hG,hOw,hlt,← hx]
   (repeat' with_reducible first|refine And.intro ?_ ?_|intro _|refine exP ?_ ?_);all_goals try omega
   refine a0a (b9s x (by rw [hx];exact hbd _ (List.getElem_mem hkl))) ?_
   cases hg:b1b x with
   |false =>
    rw [a4x hkl (by rw [← hx];exact hg)]
    simp only [go_sem,hG,hOw]
    (repeat' with_reducible first|refine And.intro ?_ ?_|intro _|refine exP ?_ ?_);all_goals try omega
    exact d1n _ _
   |true =>
    simp only [go_sem,hG,hOw]
    (repeat' with_reducible first|refine And.intro ?_ ?_|intro _|refine exP ?_ ?_);all_goals try omega
    exact ⟨k+1,⟨by omega,a0v hkl hall (by rw [← hx];exact hg)⟩,by omega,a1m [(4,some 4)]⟩
  ·have hlt:¬ (k:Int) < L.length:=by omega
   have hke:k=L.length:=by omega
   subst hke
   rw [List.take_length] at hall
   rw [hall,if_pos rfl]
   refine a0d _ _ _ ?_
   simp (maxSteps:=2000000) only [go_sem,hG,hOw,hlt]
   try (repeat' with_reducible first|refine And.intro ?_ ?_|intro _|refine exP ?_ ?_);all_goals try omega
 ·obtain ⟨k,hk,e⟩:∃ k:Int,(a1d l=false∧k=110∨a1d l=true∧a4i W0 l=none∧k=111)∧a6e l=([],k):=by
   cases h1:a1d l with
   |false=>exact ⟨110,.inl ⟨rfl,rfl⟩,by simp [a6e,h1]⟩
   |true =>
    cases h2:a4i W0 l with
    |none=>exact ⟨111,.inr ⟨rfl,rfl,rfl⟩,by simp [a6e,h1,h2]⟩
    |some t=>exact (hgood ⟨h1,t,h2⟩).elim
  have hk0:k≠0:=by rcases hk with ⟨_,rfl⟩|⟨_,_,rfl⟩<;>decide
  rw [e]
  refine a0b (ow:=fun _=>false) Tryz.func28 Tryz.ntmps28 rfl rfl fun G hG hOw hNm hB=>?_;simp only [go_sem,hG,hOw]
  (repeat' with_reducible first|refine And.intro ?_ ?_|intro _|refine exP ?_ ?_);all_goals try omega
  refine a0c [(0,5),(1,1),(2,4)] [] (c4a l k hk) ?_
  simp (maxSteps:=2000000) only [go_sem,hG,hOw,hk0]
  (repeat' with_reducible first|refine And.intro ?_ ?_|intro _|refine exP ?_ ?_);all_goals try omega
  refine a0r mixed (by kernel_rfl) ?_
  simp only [go_sem,hG,hOw]
  (repeat' with_reducible first|refine And.intro ?_ ?_|intro _|refine exP ?_ ?_);all_goals try omega
  exact d1n _ _
end Go.Proofs.YtmjhfccbbfpppaaGreatDoor
