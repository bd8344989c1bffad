import Derived.Test.YtmjhfccbbfpppaaGreatDoorQB32
import Derived.Test.YtmjhfccbbfpppaaGreatDoorQB43
import Derived.Test.YtmjhfccbbfpppaaGreatDoorQB44
import Derived.Test.YtmjhfccbbfpppaaGreatDoorQB49
import Derived.Test.YtmjhfccbbfpppaaGreatDoorQB51
import Derived.Test.YtmjhfccbbfpppaaGreatDoorQB52
namespace Go.Proofs.YtmjhfccbbfpppaaGreatDoor
open Go Pm
set_option linter.unusedSimpArgs false
set_option linter.unusedVariables false
set_option maxHeartbeats 4000000
set_option maxRecDepth 100000
theorem g6z (t:List Ch) (x:Lx) (d:Nat) (hd:d < 65536) (ht:a1s t=true) (hx:b1s t x=true) (hbd:bdX x) (L:List ByteArray) (hleni:(L.length:Int)=(x.rules.length:Int)+(x.decs.length:Int)) (hW1:1≤a8x t t.length) {G:Gh} {lo:Nat} (hG:G.n=158) (hOw:G.ow=fun _=>false) (hNm:G.nm=[]) :
  SemL Tryz.prog G ((a5k (Tryz.f7.body.getD .skip)).drop 11) (St.of [(2,.v (.int .u16 d)),(3,.ptr 3 0),(4,.ptr 4 0),(7,bl true),(8,a0q 0 L),(15,.ptr 15 0),(17,i64 (a8x t t.length))] [(3,.box [chs 0 t]),(4,.box (lxC 0 x)),(15,.box (lxC 0 x))]) (a1z Tryz.prog lo [.tmp 6] (bl true)):=by
 obtain ⟨v1,v2,_,_⟩:=d8x ht hx
 obtain ⟨hv1,hv2⟩:=b0f ht
 have hb:=b6v (t:=t) (fun c hc=>⟨(hv2 c hc).len.2,fun r hr=>((hv2 c hc).ln r hr).1.2⟩) t.length (Nat.le_refl _)
 have hpf:=e2y (t:=t) t.length (Nat.le_refl _) (N:=d % a8x t t.length) (by have:=Nat.mod_lt d hW1;omega)
 obtain ⟨W,hW⟩:∃ W,W=a8x t t.length:=⟨_,rfl⟩
 rw [← hW] at hb hW1 hpf ⊢
 obtain ⟨k,n,w,hp⟩:=hpf
 have cP:=d5o t ht _ k n w hp
 have hk:=hp.hk
 have hn:=hp.hn
 have cH:=d6v t x ht hx hbd k n w hk hn hp.hw
 generalize headD t x k n w _=D at cH
 have m1:((d % W:Nat):Int)=(d:Int) % W:=by rw [Int.natCast_emod]
 rw [m1] at cP
 have hWI:(1:Int)≤W:=by omega
 refine a1j 5 _ _ ?_
 simp only [Tryz.f7,Option.getD_some,a3j,a1y,a2p,a2e,a3h,List.singleton_append,List.cons_append,List.nil_append,List.drop_succ_cons,List.drop_zero]
 simp only [go_sem,hG,hOw]
 refine a0s mixed (by kernel_rfl) ?_
 simp only [go_sem,hG,hOw]
 try (repeat' with_reducible first|apply And.intro|refine exP ?_ ?_|intro);all_goals try omega
 refine ⟨_,a0f cP,?_⟩
 simp only [go_sem,hG,hOw]
 try (repeat' with_reducible first|apply And.intro|refine exP ?_ ?_|intro);all_goals try omega
 refine a0a cH ?_
 simp only [go_sem,hG,hOw]
 try (repeat' with_reducible first|apply And.intro|refine exP ?_ ?_|intro);all_goals try omega
 refine a0a cH ?_
 simp (maxSteps:=2000000) only [go_sem,hG,hOw,hleni]
 try (repeat' with_reducible first|apply And.intro|refine exP ?_ ?_|intro);all_goals try omega
theorem g6n (t:List Ch) (x:Lx) (d:Nat) (hd:d < 65536) (hok:OKt t) (ht:a1s t=true) (hx:b1s t x=true) (hbd:bdX x) {G:Gh} {lo:Nat} (hG:G.n=158) (hOw:G.ow=fun _=>false) (hNm:G.nm=[]) :
  SemL Tryz.prog G ((a5k (Tryz.f7.body.getD .skip)).drop 4) (St.of [(2,.v (.int .u16 d)),(3,.ptr 3 0),(4,.ptr 4 0),(7,bl true)] [(3,.box [chs 0 t]),(4,.box (lxC 0 x))]) (a1z Tryz.prog lo [.tmp 6] (bl true)):=by
 obtain ⟨r1,r2⟩:=d2a ht hx
 obtain ⟨B,cW,cR⟩:=f4i r1 (by omega)
 have hE:a4w t x=0:=by unfold a4w;rw [ht,hx];rfl
 have cO:=b4g t x hbd
 rw [hE,if_pos rfl] at cO
 have cT:=c4t t (a5d x)
 rw [f2a ht hx] at cT
 have cS:=e1i x hbd
 obtain ⟨v1,v2,_,_⟩:=d8x ht hx
 have hlen:(a5d x).length=x.rules.length+x.decs.length:=by unfold a5d;simp
 have hleni:((a5d x).length:Int)=(x.rules.length:Int)+(x.decs.length:Int):=by omega
 obtain ⟨L,hL⟩:∃ L,L=a5d x:=⟨_,rfl⟩
 rw [← hL] at cW cR cO cT hlen hleni
 obtain ⟨hv1,hv2⟩:=b0f ht
 have hb:=b6v (t:=t) (fun c hc=>⟨(hv2 c hc).len.2,fun r hr=>((hv2 c hc).ln r hr).1.2⟩) t.length (Nat.le_refl _)
 have hW1:1≤a8x t t.length:=by
  have h0:0 < t.length:=by omega
  have hc:=hv2 _ (List.getElem_mem h0)
  have h0l:0 < t[0].lines.length:=by have:=hc.len;omega
  have hr:=hc.ln _ (List.getElem_mem h0l)
  have a1:=b2t t (a:=1) (b:=t.length) h0
  rw [show (1:Nat)=0+1 from rfl,a9u h0] at a1
  have a2:=a9n t[0].lines (a:=1) (b:=t[0].lines.length) h0l
  rw [show (1:Nat)=0+1 from rfl,a7o h0l] at a2
  omega
 have cWd:=e6l t ht
 have hWI:(1:Int)≤a8x t t.length:=by omega
 refine a1j 7 _ _ ?_
 simp only [Tryz.f7,Option.getD_some,a3j,a1y,a2p,a2e,a3h,List.singleton_append,List.cons_append,List.nil_append,List.drop_succ_cons,List.drop_zero]
 simp only [go_sem,hG,hOw]
 refine a0a cO ?_
 simp only [go_sem,hG,hOw]
 refine a0a cW ?_
 simp only [go_sem,hG,hOw]
 refine a0a cR ?_
 simp only [go_sem,hG,hOw]
 refine a0a cT ?_
 simp only [go_sem,hG,hOw]
 refine a0a cWd ?_
 simp only [go_sem,hG,hOw]
 refine a0a cS ?_
 simp only [go_sem,hG,hOw]
 try (repeat' with_reducible first|apply And.intro|refine exP ?_ ?_|intro);all_goals try omega
 have hsub:∀ (n m:Nat) (r:List (List V)),Pm.Sub (V.lst n m r) (V.lst 0 m r):=fun n m r=>Sub.lo (Nat.zero_le _)
 refine a2v (s':=(St.of [(2,.v (.int .u16 d)),(3,.ptr 3 0),(4,.ptr 4 0),(7,bl true),(8,a0q 0 L),(15,.ptr 15 0),(17,i64 (a8x t t.length))] [(3,.box [chs 0 t]),(4,.box (lxC 0 x)),(15,.box (lxC 0 x))])) (a1e [(3,some 3),(4,some 4),(15,some 15)] (by (simp only [hsub,or_true,go_sem])<;>simp [hsub,or_true]) (by (simp only [hsub,or_true,go_sem,a1d,a0r,a0i,a1l])<;>simp [hsub,or_true]) (by simp [a2m,apart]) (by simp [a0n,usH]) (by simp [hNm,lkR,a0x])) ?_
 exact g6z t x d hd ht hx hbd L hleni hW1 hG hOw hNm
theorem b5m (t:List Ch) (x:Lx) (d:Nat) (hd:d < 65536):a0l Tryz.prog 7 [txE 0 t,lxE 0 x,.v (.int .u16 d)] (fun _=>bl true):=by
 refine b6x (fun _=>false) Tryz.func7 Tryz.ntmps7 rfl (by kernel_rfl) (by simp) rfl (by decide) fun G hG hOw hNm hZ hB=>?_
 refine a1j 4 _ _ ?_
 simp only [go_sem,hG,hOw]
 refine a0a f0h ?_
 simp only [go_sem,hG,hOw]
 refine a0a (d5k t) ?_
 cases hT:b2b t with
 |true =>
  simp (maxSteps:=2000000) only [go_sem,hG,hOw,hT]
  try (repeat' with_reducible first|apply And.intro|refine exP ?_ ?_|intro);all_goals try omega
 |false =>
 have hok:=e1f hT
 simp (maxSteps:=2000000) only [go_sem,hG,hOw,hT]
 try (repeat' with_reducible first|apply And.intro|refine exP ?_ ?_|intro);all_goals try omega
 refine a0a (d5c x) ?_
 cases hX:gtX x with
 |true =>
  simp (maxSteps:=2000000) only [go_sem,hG,hOw,hX]
  try (repeat' with_reducible first|apply And.intro|refine exP ?_ ?_|intro);all_goals try omega
 |false =>
 have hbd:=(g0i hX).1
 simp (maxSteps:=2000000) only [go_sem,hG,hOw,hX]
 try (repeat' with_reducible first|apply And.intro|refine exP ?_ ?_|intro);all_goals try omega
 refine a0a (c4q t hok x hbd) ?_
 by_cases he:a4w t x=0
 ·have hv:a1s t=true∧b1s t x=true:=by
   unfold a4w at he
   cases h1:a1s t with
   |false=>rw [h1] at he;simp at he
   |true =>
    rw [h1] at he
    cases h2:b1s t x with
    |false=>rw [h2] at he;simp at he
    |true=>exact ⟨rfl,rfl⟩
  simp (maxSteps:=2000000) only [go_sem,hG,hOw,he]
  try (repeat' with_reducible first|apply And.intro|refine exP ?_ ?_|intro);all_goals try omega
  refine a2v (s':=(St.of [(2,.v (.int .u16 d)),(3,.ptr 3 0),(4,.ptr 4 0),(7,bl true)] [(3,.box [chs 0 t]),(4,.box (lxC 0 x))])) (a1m [(3,some 3),(4,some 4)]) ?_
  exact g6n t x d hd hok hv.1 hv.2 hbd hG hOw hNm
 ·simp (maxSteps:=2000000) only [go_sem,hG,hOw,he,decide_false,Bool.not_false]
  try (repeat' with_reducible first|apply And.intro|refine exP ?_ ?_|intro);all_goals try omega
end Go.Proofs.YtmjhfccbbfpppaaGreatDoor
