import Derived.Test.YtmjhfccbbfpppaaGreatDoorQW17
import Derived.Test.YtmjhfccbbfpppaaGreatDoorQW28
import Derived.Test.YtmjhfccbbfpppaaGreatDoorQW36
import Derived.Test.YtmjhfccbbfpppaaGreatDoorQW38
import Derived.Test.YtmjhfccbbfpppaaGreatDoorQW42
import Derived.Test.YtmjhfccbbfpppaaGreatDoorQW44
import Derived.Test.YtmjhfccbbfpppaaGreatDoorQW45
import Derived.Test.YtmjhfccbbfpppaaGreatDoorQW46
import Derived.Test.YtmjhfccbbfpppaaGreatDoorQW47
import Derived.Test.YtmjhfccbbfpppaaGreatDoorQW48
namespace Go.Proofs.YtmjhfccbbfpppaaGreatDoor
open Go Pm
set_option linter.unusedSimpArgs false
set_option linter.unusedVariables false
set_option maxHeartbeats 4000000
set_option maxRecDepth 100000
theorem f1s (l:List ByteArray):a0p Tryz.prog 25 [a0h 0 l] (fun _=>bl (a0v l)):=by
 refine a0c (ow:=fun _=>false) Tryz.func25 Tryz.ntmps25 rfl rfl fun G hG hOw hNm hB=>?_;simp only [go_sem,hG,hOw]
 refine a0a (f4h l) ?_
 simp only [go_sem,hG,hOw]
theorem f0b {l:List ByteArray} {s:List Si} (hl:a0v l=true) (h:a5p l=(s,0)):s.length≤1000∧∀ a ∈ s,bdS a:=by
 have h2:=b9s h
 unfold a4c at h2
 split at h2
 ·rename_i hg
  have hn:s.length≤(a1m s).length:=by
   clear h h2 hg
   induction s with
   |nil=>simp
   |cons a r ih =>
    have e:a1m (a::r)=b4h a++a1m r:=by simp [a1m]
    rw [e]
    simp only [b4h,List.length_append,List.length_cons]
    omega
  split at h2
  ·rename_i hk
   refine ⟨by omega,fun a ha=>?_⟩
   rw [List.all_eq_true] at hg
   have hG:=g0b (hg a ha)
   have hw:=(a3f hG.word).2
   have hb:∀ b,d6d b=true→b.size≤80:=fun b hb=>by
    by_cases e:b=⟨#[]⟩
    ·rw [e];decide
    ·exact (e1o hb e).2
   have h1:=hb _ hG.bef
   have h2:=hb _ hG.aft
   exact ⟨by omega,by omega,by omega⟩
  ·simp at h2
 ·simp at h2
theorem d8e (t:List Ch) (l:List ByteArray) (hok:OKt t) (ht:a1z t=true) (hl:a0v l=true) {G:Gh} {lo:Nat} (hG:G.n=139) (hOw:G.ow=fun _=>false) (hNm:G.nm=[]) (hrest:SemL Tryz.prog G ((a5k (Tryz.f5.body.getD .skip)).drop 7) (St.of [(1,a0h 0 l),(2,.ptr 2 0),(5,bl true)] [(2,.box [chs 0 t])]) (a2b Tryz.prog lo [.tmp 4] (bl true))) :
  SemL Tryz.prog G ((a5k (Tryz.f5.body.getD .skip)).drop 4) (St.of [(1,a0h 0 l),(2,.ptr 2 0),(5,bl true)] [(2,.box [chs 0 t])]) (a2b Tryz.prog lo [.tmp 4] (bl true)):=by
 obtain ⟨x,e,hxe⟩:∃ x e,a8h l=(x,e):=⟨_,_,rfl⟩
 have c1:=d7q l
 rw [hxe] at c1
 by_cases he:e=0
 ·subst he
  obtain ⟨hB,hO⟩:=e0l hxe
  have c2:=c6v x
  rw [hB,hO] at c2
  simp only [if_true] at c2
  have c3:=a3p x
  rw [hB] at c3
  simp only [if_true] at c3
  refine a1c 3 _ _ ?_
  simp only [Tryz.f5,Option.getD_some,a2n,a1j,a1y,a1q,a2o,List.singleton_append,List.cons_append,List.nil_append,List.drop_succ_cons,List.drop_zero]
  simp only [go_sem,hG,hOw]
  refine a0a c1 ?_
  simp only [go_sem,hG,hOw]
  refine a0a c2 ?_
  simp only [go_sem,hG,hOw]
  refine a0a (a3s l l) ?_
  rw [decide_eq_true (rfl:l=l)]
  simp only [go_sem,hG,hOw]
  refine a0a c3 ?_
  simp only [go_sem,hG,hOw]
  try (repeat' with_reducible first|refine And.intro ?_ ?_|intro _|refine exP ?_ ?_);all_goals try omega
  refine a2h (s':=(St.of [(1,a0h 0 l),(2,.ptr 2 0),(5,bl true)] [(2,.box [chs 0 t])])) (a2r [(2,some 2)]) ?_
  exact hrest
 ·refine a1c 3 _ _ ?_
  simp only [Tryz.f5,Option.getD_some,a2n,a1j,a1y,a1q,a2o,List.singleton_append,List.cons_append,List.nil_append,List.drop_succ_cons,List.drop_zero]
  simp only [go_sem,hG,hOw]
  refine a0a c1 ?_
  simp (maxSteps:=2000000) only [go_sem,hG,hOw,he,decide_eq_false he]
  try (repeat' with_reducible first|refine And.intro ?_ ?_|intro _|refine exP ?_ ?_);all_goals try omega
  refine a2h (s':=(St.of [(1,a0h 0 l),(2,.ptr 2 0),(5,bl true)] [(2,.box [chs 0 t])])) (a2r [(2,some 2)]) ?_
  exact hrest
theorem d8k (t:List Ch) (l:List ByteArray) (hok:OKt t) (ht:a1z t=true) (hl:a0v l=true) {G:Gh} {lo:Nat} (hG:G.n=139) (hOw:G.ow=fun _=>false) (hNm:G.nm=[]) (hrest:SemL Tryz.prog G ((a5k (Tryz.f5.body.getD .skip)).drop 10) (St.of [(1,a0h 0 l),(2,.ptr 2 0),(5,bl true)] [(2,.box [chs 0 t])]) (a2b Tryz.prog lo [.tmp 4] (bl true))) :
  SemL Tryz.prog G ((a5k (Tryz.f5.body.getD .skip)).drop 7) (St.of [(1,a0h 0 l),(2,.ptr 2 0),(5,bl true)] [(2,.box [chs 0 t])]) (a2b Tryz.prog lo [.tmp 4] (bl true)):=by
 obtain ⟨x,e,hxe⟩:∃ x e,a6o t l=(x,e):=⟨_,_,rfl⟩
 have c1:=d6z t l
 rw [hxe] at c1
 by_cases he:e=0
 ·subst he
  obtain ⟨hB,hO⟩:=d7g hxe
  have c2:=c4p t x
  rw [hB,if_pos rfl,hO] at c2
  have c3:=b0r t x
  rw [hB] at c3
  refine a1c 3 _ _ ?_
  simp only [Tryz.f5,Option.getD_some,a2n,a1j,a1y,a1q,a2o,List.singleton_append,List.cons_append,List.nil_append,List.drop_succ_cons,List.drop_zero]
  simp only [go_sem,hG,hOw]
  refine a0a c1 ?_
  simp only [go_sem,hG,hOw]
  refine a0a c2 ?_
  simp only [go_sem,hG,hOw]
  refine a0a (a3s l l) ?_
  rw [decide_eq_true (rfl:l=l)]
  simp only [go_sem,hG,hOw]
  refine a0a c3 ?_
  simp only [go_sem,hG,hOw]
  try (repeat' with_reducible first|refine And.intro ?_ ?_|intro _|refine exP ?_ ?_);all_goals try omega
  refine a2h (s':=(St.of [(1,a0h 0 l),(2,.ptr 2 0),(5,bl true)] [(2,.box [chs 0 t])])) (a2r [(2,some 2)]) ?_
  exact hrest
 ·refine a1c 3 _ _ ?_
  simp only [Tryz.f5,Option.getD_some,a2n,a1j,a1y,a1q,a2o,List.singleton_append,List.cons_append,List.nil_append,List.drop_succ_cons,List.drop_zero]
  simp only [go_sem,hG,hOw]
  refine a0a c1 ?_
  simp (maxSteps:=2000000) only [go_sem,hG,hOw,he,decide_eq_false he]
  try (repeat' with_reducible first|refine And.intro ?_ ?_|intro _|refine exP ?_ ?_);all_goals try omega
  refine a2h (s':=(St.of [(1,a0h 0 l),(2,.ptr 2 0),(5,bl true)] [(2,.box [chs 0 t])])) (a2r [(2,some 2)]) ?_
  exact hrest
theorem e4l (t:List Ch) (l:List ByteArray) (hok:OKt t) (ht:a1z t=true) (hl:a0v l=true) {G:Gh} {lo:Nat} (hG:G.n=139) (hOw:G.ow=fun _=>false) (hNm:G.nm=[]) (hrest:SemL Tryz.prog G ((a5k (Tryz.f5.body.getD .skip)).drop 13) (St.of [(1,a0h 0 l),(2,.ptr 2 0),(5,bl true)] [(2,.box [chs 0 t])]) (a2b Tryz.prog lo [.tmp 4] (bl true))) :
  SemL Tryz.prog G ((a5k (Tryz.f5.body.getD .skip)).drop 10) (St.of [(1,a0h 0 l),(2,.ptr 2 0),(5,bl true)] [(2,.box [chs 0 t])]) (a2b Tryz.prog lo [.tmp 4] (bl true)):=by
 obtain ⟨x,e,hxe⟩:∃ x e,a5p l=(x,e):=⟨_,_,rfl⟩
 have c1:=d4o l
 rw [hxe] at c1
 by_cases he:e=0
 ·subst he
  obtain ⟨b1,b2⟩:=f0b hl hxe
  have c2:=c0e x b1 b2
  rw [b9s hxe] at c2
  refine a1c 3 _ _ ?_
  simp only [Tryz.f5,Option.getD_some,a2n,a1j,a1y,a1q,a2o,List.singleton_append,List.cons_append,List.nil_append,List.drop_succ_cons,List.drop_zero]
  simp only [go_sem,hG,hOw]
  refine a0a c1 ?_
  simp only [go_sem,hG,hOw]
  refine a0a c2 ?_
  simp only [go_sem,hG,hOw]
  refine a0a (a3s l l) ?_
  rw [decide_eq_true (rfl:l=l)]
  simp only [go_sem,hG,hOw]
  try (repeat' with_reducible first|refine And.intro ?_ ?_|intro _|refine exP ?_ ?_);all_goals try omega
  refine a2h (s':=(St.of [(1,a0h 0 l),(2,.ptr 2 0),(5,bl true)] [(2,.box [chs 0 t])])) (a2r [(2,some 2)]) ?_
  exact hrest
 ·refine a1c 3 _ _ ?_
  simp only [Tryz.f5,Option.getD_some,a2n,a1j,a1y,a1q,a2o,List.singleton_append,List.cons_append,List.nil_append,List.drop_succ_cons,List.drop_zero]
  simp only [go_sem,hG,hOw]
  refine a0a c1 ?_
  simp (maxSteps:=2000000) only [go_sem,hG,hOw,he,decide_eq_false he]
  try (repeat' with_reducible first|refine And.intro ?_ ?_|intro _|refine exP ?_ ?_);all_goals try omega
  refine a2h (s':=(St.of [(1,a0h 0 l),(2,.ptr 2 0),(5,bl true)] [(2,.box [chs 0 t])])) (a2r [(2,some 2)]) ?_
  exact hrest
theorem f0a (t:List Ch) (l:List ByteArray) (hok:OKt t) (ht:a1z t=true) (hl:a0v l=true) {G:Gh} {lo:Nat} (hG:G.n=139) (hOw:G.ow=fun _=>false) (hNm:G.nm=[]) (hrest:SemL Tryz.prog G ((a5k (Tryz.f5.body.getD .skip)).drop 16) (St.of [(1,a0h 0 l),(2,.ptr 2 0),(5,bl true)] [(2,.box [chs 0 t])]) (a2b Tryz.prog lo [.tmp 4] (bl true))) :
  SemL Tryz.prog G ((a5k (Tryz.f5.body.getD .skip)).drop 13) (St.of [(1,a0h 0 l),(2,.ptr 2 0),(5,bl true)] [(2,.box [chs 0 t])]) (a2b Tryz.prog lo [.tmp 4] (bl true)):=by
 obtain ⟨x,e,hxe⟩:∃ x e,a8f t l=(x,e):=⟨_,_,rfl⟩
 have c1:=c6d t l
 rw [hxe] at c1
 by_cases he:e=0
 ·subst he
  obtain ⟨hB,hO⟩:=f2m hxe
  have hbd:=e4w t l
  rw [hxe] at hbd
  have c2:=b5g t x hbd
  rw [hB,if_pos rfl,hO] at c2
  have c3:=b5a t x hbd
  rw [hB] at c3
  refine a1c 3 _ _ ?_
  simp only [Tryz.f5,Option.getD_some,a2n,a1j,a1y,a1q,a2o,List.singleton_append,List.cons_append,List.nil_append,List.drop_succ_cons,List.drop_zero]
  simp only [go_sem,hG,hOw]
  refine a0a c1 ?_
  simp only [go_sem,hG,hOw]
  refine a0a c2 ?_
  simp only [go_sem,hG,hOw]
  refine a0a (a3s l l) ?_
  rw [decide_eq_true (rfl:l=l)]
  simp only [go_sem,hG,hOw]
  refine a0a c3 ?_
  simp only [go_sem,hG,hOw]
  try (repeat' with_reducible first|refine And.intro ?_ ?_|intro _|refine exP ?_ ?_);all_goals try omega
  refine a2h (s':=(St.of [(1,a0h 0 l),(2,.ptr 2 0),(5,bl true)] [(2,.box [chs 0 t])])) (a2r [(2,some 2)]) ?_
  exact hrest
 ·refine a1c 3 _ _ ?_
  simp only [Tryz.f5,Option.getD_some,a2n,a1j,a1y,a1q,a2o,List.singleton_append,List.cons_append,List.nil_append,List.drop_succ_cons,List.drop_zero]
  simp only [go_sem,hG,hOw]
  refine a0a c1 ?_
  simp (maxSteps:=2000000) only [go_sem,hG,hOw,he,decide_eq_false he]
  try (repeat' with_reducible first|refine And.intro ?_ ?_|intro _|refine exP ?_ ?_);all_goals try omega
  refine a2h (s':=(St.of [(1,a0h 0 l),(2,.ptr 2 0),(5,bl true)] [(2,.box [chs 0 t])])) (a2r [(2,some 2)]) ?_
  exact hrest
theorem c4w (t:List Ch) (l:List ByteArray):a0p Tryz.prog 5 [txE 0 t,a0h 0 l] (fun _=>bl true):=by
 refine b7c (fun _=>false) Tryz.func5 Tryz.ntmps5 rfl (by kernel_rfl) (by simp) rfl (by decide) fun G hG hOw hNm hZ hB=>?_
 refine a1c 4 _ _ ?_
 simp only [go_sem,hG,hOw]
 refine a0a e7i ?_
 simp only [go_sem,hG,hOw]
 refine a0a (d5f t) ?_
 cases hT:b3q t with
 |true =>
  simp (maxSteps:=2000000) only [go_sem,hG,hOw,hT]
  try (repeat' with_reducible first|refine And.intro ?_ ?_|intro _|refine exP ?_ ?_);all_goals try omega
 |false =>
 have hok:=e4s hT
 simp (maxSteps:=2000000) only [go_sem,hG,hOw,hT]
 try (repeat' with_reducible first|refine And.intro ?_ ?_|intro _|refine exP ?_ ?_);all_goals try omega
 refine a0a (f4x t hok) ?_
 cases ht:a1z t with
 |false =>
  simp (maxSteps:=2000000) only [go_sem,hG,hOw,ht]
  try (repeat' with_reducible first|refine And.intro ?_ ?_|intro _|refine exP ?_ ?_);all_goals try omega
 |true =>
 simp (maxSteps:=2000000) only [go_sem,hG,hOw,ht]
 try (repeat' with_reducible first|refine And.intro ?_ ?_|intro _|refine exP ?_ ?_);all_goals try omega
 refine a0a (f1s l) ?_
 cases hl:a0v l with
 |false =>
  simp (maxSteps:=2000000) only [go_sem,hG,hOw,hl]
  try (repeat' with_reducible first|refine And.intro ?_ ?_|intro _|refine exP ?_ ?_);all_goals try omega
 |true =>
 simp (maxSteps:=2000000) only [go_sem,hG,hOw,hl]
 try (repeat' with_reducible first|refine And.intro ?_ ?_|intro _|refine exP ?_ ?_);all_goals try omega
 refine a2h (s':=(St.of [(1,a0h 0 l),(2,.ptr 2 0),(5,bl true)] [(2,.box [chs 0 t])])) (a2r [(2,some 2)]) ?_
 refine d8e t l hok ht hl hG hOw hNm ?_
 refine d8k t l hok ht hl hG hOw hNm ?_
 refine e4l t l hok ht hl hG hOw hNm ?_
 refine f0a t l hok ht hl hG hOw hNm ?_
 refine a1c 2 _ _ ?_
 simp only [Tryz.f5,Option.getD_some,a2n,a1j,a1y,a1q,a2o,List.singleton_append,List.cons_append,List.nil_append,List.drop_succ_cons,List.drop_zero]
 simp only [go_sem,hG,hOw]
end Go.Proofs.YtmjhfccbbfpppaaGreatDoor
