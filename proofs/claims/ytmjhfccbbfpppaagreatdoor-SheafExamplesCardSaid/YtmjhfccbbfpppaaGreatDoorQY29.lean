import Derived.Test.YtmjhfccbbfpppaaGreatDoorQY10
import Derived.Test.YtmjhfccbbfpppaaGreatDoorQY13
import Derived.Test.YtmjhfccbbfpppaaGreatDoorQY15
import Derived.Test.YtmjhfccbbfpppaaGreatDoorQY20
import Derived.Test.YtmjhfccbbfpppaaGreatDoorQY21
import Derived.Test.YtmjhfccbbfpppaaGreatDoorQY23
import Derived.Test.YtmjhfccbbfpppaaGreatDoorQY24
namespace Go.Proofs.YtmjhfccbbfpppaaGreatDoor
open Go Pm Go.RowKit
set_option linter.unusedSimpArgs false
set_option linter.unusedVariables false
set_option maxRecDepth 100000
set_option maxHeartbeats 4000000
def wrV (k:Int):Value:=.iface 145 (.agg #[.int .i64 k])
theorem a0s (k:Int):Tri Tryz.prog 76 [bl true,i64 k] [] (fun _=>.ret (.tup []) []):=by
 refine a0d (fun _=>false) Tryz.func76 Tryz.ntmps76 rfl rfl fun G hG hOw hNm=>?_;simp only [go_sem,hG,hOw]
 (repeat' with_reducible first|refine And.intro ?_ ?_|intro _|refine exP ?_ ?_);all_goals try omega
 exact (a1x [])
theorem a3v (k:Int):Tri Tryz.prog 76 [bl false,i64 k] [] (fun _=>.pan (wrV k) []):=by
 refine a0d (fun _=>false) Tryz.func76 Tryz.ntmps76 rfl rfl fun G hG hOw hNm=>?_;simp only [go_sem,hG,hOw]
 (repeat' with_reducible first|refine And.intro ?_ ?_|intro _|refine exP ?_ ?_);all_goals try omega
 refine b0m [.int .i64 k] rfl rfl (by kernel_rfl) (by simp [chk,hG]) ?_
 simp only [go_sem,hG,hOw]
 (repeat' with_reducible first|refine And.intro ?_ ?_|intro _|refine exP ?_ ?_);all_goals try omega
 refine a6z rfl rfl ?_
 simp only [go_sem,hG,hOw]
 exact ⟨rfl,(a1x [])⟩
theorem a5m (k:Int):f5m Tryz.prog 72 [.ptr 0 0] [(0,.box [i64 0])] (.panicking [{ v:=wrV k,recovered:=false }]) (.panicking [{ v:=wrV k,recovered:=true }]) [(0,.box [i64 k])]:=by
 refine b8p _ _ (wrV k) Tryz.func72 Tryz.ntmps72 rfl (by kernel_rfl) (by simp) rfl rfl rfl rfl (by simp) (fun c₀ cs h=>?_) fun G hG hOw hNm=>?_
 ·simp [recoverD,h]
 simp only [go_sem,hG,hOw]
 (repeat' with_reducible first|refine And.intro ?_ ?_|intro _|refine exP ?_ ?_);all_goals try omega
 refine a8f (wrV k) false .eql (.inl ⟨rfl,rfl⟩) rfl rfl (.inr ⟨_,_,rfl⟩) (by kernel_rfl) (by simp [chk,hG]) ?_
 simp only [go_sem,hG,hOw]
 (repeat' with_reducible first|refine And.intro ?_ ?_|intro _|refine exP ?_ ?_);all_goals try omega
 refine d5q [.int .i64 k] rfl rfl (by kernel_rfl) (by simp [chk,hG]) ?_
 simp only [go_sem,hG,hOw]
 (repeat' with_reducible first|refine And.intro ?_ ?_|intro _|refine exP ?_ ?_);all_goals try omega
 exact (a1x [(0,some 0)])
theorem a5j:f5m Tryz.prog 72 [.ptr 0 0] [(0,.box [i64 0])] .returning .returning [(0,.box [i64 0])]:=by
 refine b8p _ _ .nilIface Tryz.func72 Tryz.ntmps72 rfl (by kernel_rfl) (by simp) rfl rfl rfl rfl (by simp) (fun c₀ cs h=>?_) fun G hG hOw hNm=>?_
 ·simp [recoverD,h]
 simp only [go_sem,hG,hOw]
 (repeat' with_reducible first|refine And.intro ?_ ?_|intro _|refine exP ?_ ?_);all_goals try omega
 refine a8f .nilIface true .eql (.inl ⟨rfl,rfl⟩) rfl rfl (.inl rfl) (by kernel_rfl) (by simp [chk,hG]) ?_
 simp only [go_sem,hG,hOw]
 (repeat' with_reducible first|refine And.intro ?_ ?_|intro _|refine exP ?_ ?_);all_goals try omega
 exact (a1x [(0,some 0)])
theorem a7n (lo:Nat) (s:ByteArray) (l:List ByteArray):Tri Tryz.prog 141 [.ptr 0 0] [(0,.box [a0e lo (s::l)])] (fun _=>.ret (.v (.string s)) [(0,.box [a0e lo l])]):=by
 refine a0d (fun _=>false) Tryz.func141 Tryz.ntmps141 rfl rfl fun G hG hOw hNm=>?_;simp only [go_sem,hG,hOw]
 (repeat' with_reducible first|refine And.intro ?_ ?_|intro _|refine exP ?_ ?_);all_goals try omega
 refine a0b [] [] (a0s 111) ?_
 simp (maxSteps:=2000000) only [go_sem,hG,hOw,List.map_cons,List.length_cons,List.getElem_cons_zero]
 (repeat' with_reducible first|refine And.intro ?_ ?_|intro _|refine exP ?_ ?_);all_goals try omega
 exact (a1x [(0,some 0)])
theorem d8i (lo:Nat):Tri Tryz.prog 141 [.ptr 0 0] [(0,.box [a0e lo []])] (fun _=>.pan (wrV 111) []):=by
 refine a0d (fun _=>false) Tryz.func141 Tryz.ntmps141 rfl rfl fun G hG hOw hNm=>?_;simp only [go_sem,hG,hOw]
 (repeat' with_reducible first|refine And.intro ?_ ?_|intro _|refine exP ?_ ?_);all_goals try omega
 refine a0b [] [] (a3v 111) ?_
 simp only [go_sem,hG,hOw]
 exact ⟨rfl,(a1x [])⟩
theorem c4k (b:UInt8):a0o Tryz.prog 144 [.v (.int .u8 b.toNat)] (fun _=>bl (!a2j b)):=by
 refine a0c (ow:=fun _=>false) Tryz.func144 Tryz.ntmps144 rfl rfl fun G hG hOw hNm hB=>?_;simp only [go_sem,hG,hOw]
 (repeat' with_reducible first|refine And.intro ?_ ?_|intro _|refine exP ?_ ?_);all_goals try omega
 ·rename_i h;simp [a2j];intro;omega
 ·rename_i h;simp [a2j];omega
theorem b4y (lo hi n:Int):a0o Tryz.prog 95 [i64 lo,i64 hi,.lst 0 1 [[i64 n]]] (fun _=>bl (inB n lo hi)):=by
 have h:=f2q lo hi [n]
 have e:([n].all fun n=>decide (lo≤n) && decide (n≤hi))=inB n lo hi:=by simp [inB]
 rw [e] at h
 exact h
theorem a6s (lo:Nat) (s:ByteArray) (l:List ByteArray) (h:a1p s=true):Tri Tryz.prog 86 [.ptr 0 0] [(0,.box [a0e lo (s::l)])] (fun _=>.ret (.v (.string s)) [(0,.box [a0e lo l])]):=by
 have h1:inB s.size 1 12=true:=by unfold a1p at h;simp at h;exact h.2
 have h2:(s.data.toList.any fun b=>!a2j b)=false:=by unfold a1p at h;rw [Bool.and_eq_true] at h;rw [List.any_eq_false];intro x hx;have:=List.all_eq_true.1 h.1 x hx;simp [this]
 have h3:s.size≤12:=by simp [inB] at h1;omega
 refine a0d (fun _=>false) Tryz.func86 Tryz.ntmps86 rfl rfl fun G hG hOw hNm=>?_;simp only [go_sem,hG,hOw]
 (repeat' with_reducible first|refine And.intro ?_ ?_|intro _|refine exP ?_ ?_);all_goals try omega
 refine a0b [(0,0)] [] (a7n lo s l) ?_
 simp only [go_sem,hG,hOw]
 (repeat' with_reducible first|refine And.intro ?_ ?_|intro _|refine exP ?_ ?_);all_goals try omega
 refine a0a (b4y 1 12 s.size) ?_
 rw [h1]
 simp only [go_sem,hG,hOw]
 (repeat' with_reducible first|refine And.intro ?_ ?_|intro _|refine exP ?_ ?_);all_goals try omega
 refine a0a (a3j _ [] (fun b=>!a2j b) s.data.toList rfl (fun b _=>c4k b)) ?_
 rw [h2]
 simp only [go_sem,hG,hOw]
 (repeat' with_reducible first|refine And.intro ?_ ?_|intro _|refine exP ?_ ?_);all_goals try omega
 refine a0b [] [] (a0s 111) ?_
 simp only [go_sem,hG,hOw]
 (repeat' with_reducible first|refine And.intro ?_ ?_|intro _|refine exP ?_ ?_);all_goals try omega
 exact (a1x [(0,some 0)])
theorem b0h (lo:Nat) (s:ByteArray) (l:List ByteArray) (h:a1p s=false):Tri Tryz.prog 86 [.ptr 0 0] [(0,.box [a0e lo (s::l)])] (fun _=>.pan (wrV 111) []):=by
 refine a0d (fun _=>false) Tryz.func86 Tryz.ntmps86 rfl rfl fun G hG hOw hNm=>?_;simp only [go_sem,hG,hOw]
 (repeat' with_reducible first|refine And.intro ?_ ?_|intro _|refine exP ?_ ?_);all_goals try omega
 refine a0b [(0,0)] [] (a7n lo s l) ?_
 simp only [go_sem,hG,hOw]
 (repeat' with_reducible first|refine And.intro ?_ ?_|intro _|refine exP ?_ ?_);all_goals try omega
 refine a0a (b4y 1 12 s.size) ?_
 cases h1:inB s.size 1 12 with
 |false =>
  simp only [go_sem,hG,hOw]
  (repeat' with_reducible first|refine And.intro ?_ ?_|intro _|refine exP ?_ ?_);all_goals try omega
  refine a0b [] [] (a3v 111) ?_
  simp only [go_sem,hG,hOw]
  exact ⟨rfl,(a1x [])⟩
 |true =>
  have h2:(s.data.toList.any fun b=>!a2j b)=true:=by unfold a1p at h;rw [h1,Bool.and_true] at h;rw [List.all_eq_false] at h;rw [List.any_eq_true];obtain ⟨x,hx,h⟩:=h;exact ⟨x,hx,by simpa using h⟩
  have h3:s.size≤12:=by simp [inB] at h1;omega
  simp only [go_sem,hG,hOw]
  (repeat' with_reducible first|refine And.intro ?_ ?_|intro _|refine exP ?_ ?_);all_goals try omega
  refine a0a (a3j _ [] (fun b=>!a2j b) s.data.toList rfl (fun b _=>c4k b)) ?_
  rw [h2]
  simp only [go_sem,hG,hOw]
  (repeat' with_reducible first|refine And.intro ?_ ?_|intro _|refine exP ?_ ?_);all_goals try omega
  refine a0b [] [] (a3v 111) ?_
  simp only [go_sem,hG,hOw]
  exact ⟨rfl,(a1x [])⟩
theorem b7a (lo:Nat):Tri Tryz.prog 86 [.ptr 0 0] [(0,.box [a0e lo []])] (fun _=>.pan (wrV 111) []):=by
 refine a0d (fun _=>false) Tryz.func86 Tryz.ntmps86 rfl rfl fun G hG hOw hNm=>?_;simp only [go_sem,hG,hOw]
 (repeat' with_reducible first|refine And.intro ?_ ?_|intro _|refine exP ?_ ?_);all_goals try omega
 refine a0b [(0,0)] [] (d8i lo) ?_
 simp only [go_sem,hG,hOw]
 exact ⟨rfl,(a1x [])⟩
open Go Pm Go.RowKit
set_option maxRecDepth 100000
set_option maxHeartbeats 4000000
theorem a3s (lo:Nat) (l:List ByteArray) (hl:l.length≤1000):Tri Tryz.prog 77 [.ptr 0 0] [(0,.box [a0e lo l])] (fun n=>if a4c l then .ret (a0e n l) [(0,.box [a0e lo []])] else .pan (wrV 111) []):=by
 refine a0d (fun i=>[6].contains i) Tryz.func77 Tryz.ntmps77 rfl rfl fun G hG hOw hNm=>?_;simp only [go_sem,hG,hOw]
 (repeat' with_reducible first|refine And.intro ?_ ?_|intro _|refine exP ?_ ?_);all_goals try omega
 cases l with
 |nil =>
  refine a0b [(0,0)] [] (b7a lo) ?_
  simp only [go_sem,hG,hOw]
  exact ⟨rfl,(a1x [])⟩
 |cons s r =>
  cases hs:a1p s with
  |false =>
   rw [show a4c (s::r)=false by simp [a4c,hs]]
   refine a0b [(0,0)] [] (b0h lo s r hs) ?_
   simp only [go_sem,hG,hOw]
   exact ⟨rfl,(a1x [])⟩
  |true =>
   refine a0b [(0,0)] [] (a6s lo s r hs) ?_
   simp only [go_sem,hG,hOw]
   (repeat' with_reducible first|refine And.intro ?_ ?_|intro _|refine exP ?_ ?_);all_goals try omega
   obtain ⟨l,hl'⟩:∃ l,l=s::r:=⟨_,rfl⟩
   rw [← hl'] at hl
   rw [← hl']
   refine a3g (fun _:Unit=>St.of [(0,.ptr 0 0),(3,a0e G.lo l)] [(0,.box [a0e lo []])]) (fun _=>l.all a1p=true) ?_ ?_
   ·refine a0r (fun k:Nat=>St.of [(0,.ptr 0 0),(3,.own 9 0 k 1)] [(0,.box [a0e lo (l.drop k)]),(9,.arr 9 1 ((l.take k).map a2h))]) (fun k=>1≤k∧k≤l.length∧(l.take k).all a1p=true) (fun k=>l.length - k) 1 ⟨by omega,by simp [hl'],by simp [hl',hs]⟩ (by subst hl';exact a2o [(0,some 0),(9,some 6)]) ?_
    rintro k ⟨h1,h2,h3⟩
    refine a0l _ _ _ ?_;simp only [go_sem,hG,hOw]
    (repeat' with_reducible first|refine And.intro ?_ ?_|intro _|refine exP ?_ ?_);all_goals try omega
    ·rename_i hlt
     have hk:k < l.length:=by simp at hlt;omega
     rw [List.drop_eq_getElem_cons hk]
     cases hw:a1p l[k] with
     |false =>
      refine a0b [(0,0)] [] (b0h lo l[k] (l.drop (k+1)) hw) ?_
      simp only [go_sem,hG,hOw]
      rw [if_neg (by simp [a4c];intro _;exact ⟨_,List.getElem_mem hk,hw⟩)]
      exact ⟨rfl,(a1x [])⟩
     |true =>
      refine a0b [(0,0)] [] (a6s lo l[k] (l.drop (k+1)) hw) ?_
      simp only [go_sem,hG,hOw]
      (repeat' with_reducible first|refine And.intro ?_ ?_|intro _|refine exP ?_ ?_);all_goals try omega
      refine ⟨k+1,⟨by omega,by omega,a1k hk h3 hw⟩,by omega,?_⟩
      exact a2o [(0,some 0),(9,some 17)] (by (simp only [go_sem])<;>simp [a2u a2h l k hk,a2h,Nat.min_eq_left h2]) (by (simp only [go_sem,a1g,a0q,a0f,a1m])<;>simp [a2u a2h l k hk,a2h,Nat.min_eq_left h2])
    ·rename_i hlt
     have hk:k=l.length:=by simp at hlt;omega
     subst hk
     rw [List.take_length] at h3
     rw [List.take_length,List.drop_length]
     exact ⟨(),h3,fun a w h=>(a2o [(0,some 0)]) a w (b3o (fun i=>i == 9) a w h)⟩
   ·rintro _ hall
    subst hl'
    rw [if_pos (by unfold a4c;rw [hall];simp)]
    simp only [go_sem,hG,hOw]
    (repeat' with_reducible first|refine And.intro ?_ ?_|intro _|refine exP ?_ ?_);all_goals try omega
    exact ⟨[(0,some 0)],by (simp only [b1z,go_sem,a1g,a0q,a0f,a1m,apart,a2m,a0h])<;>simp [a2h]⟩
open Go Pm Go.RowKit
set_option maxRecDepth 100000
set_option maxHeartbeats 4000000
theorem b9u (lo:Nat):Tri Tryz.prog 75 [.ptr 0 0] [(0,.box [a0e lo []])] (fun _=>.pan (wrV 111) []):=by
 refine a0d (fun _=>false) Tryz.func75 Tryz.ntmps75 rfl rfl fun G hG hOw hNm=>?_;simp only [go_sem,hG,hOw]
 (repeat' with_reducible first|refine And.intro ?_ ?_|intro _|refine exP ?_ ?_);all_goals try omega
 refine a0b [(0,0)] [] (d8i lo) ?_
 simp only [go_sem,hG,hOw]
 exact ⟨rfl,(a1x [])⟩
theorem a8h (lo:Nat) (s:ByteArray) (l:List ByteArray) (v:Int) (hs:s.size≤100000) (h:a3z s=some v):Tri Tryz.prog 75 [.ptr 0 0] [(0,.box [a0e lo (s::l)])] (fun _=>.ret (i64 v) [(0,.box [a0e lo l])]):=by
 obtain ⟨h1,h2,h3,h4⟩:=b3b h
 have hin:inB v 0 9999=true:=by simp [inB,h2,h3]
 have hnb:a3u v=s:=by rw [a3u,h1,c9p]
 refine a0d (fun _=>false) Tryz.func75 Tryz.ntmps75 rfl rfl fun G hG hOw hNm=>?_;simp only [go_sem,hG,hOw]
 (repeat' with_reducible first|refine And.intro ?_ ?_|intro _|refine exP ?_ ?_);all_goals try omega
 refine a0b [(0,0)] [] (a7n lo s l) ?_
 simp only [go_sem,hG,hOw]
 (repeat' with_reducible first|refine And.intro ?_ ?_|intro _|refine exP ?_ ?_);all_goals try omega
 refine a0a (d1c s hs v h4) ?_
 simp only [go_sem,hG,hOw]
 (repeat' with_reducible first|refine And.intro ?_ ?_|intro _|refine exP ?_ ?_);all_goals try omega
 refine a8f .nilIface true .eql (.inl ⟨rfl,rfl⟩) rfl rfl (.inl rfl) (by kernel_rfl) (by simp [chk,hG]) ?_
 simp only [go_sem,hG,hOw]
 (repeat' with_reducible first|refine And.intro ?_ ?_|intro _|refine exP ?_ ?_);all_goals try omega
 refine a0a (b4y 0 9999 v) ?_
 rw [hin]
 simp only [go_sem,hG,hOw]
 (repeat' with_reducible first|refine And.intro ?_ ?_|intro _|refine exP ?_ ?_);all_goals try omega
 refine a0a (a4z v h2 h3) ?_
 rw [hnb]
 simp only [go_sem,hG,hOw]
 (repeat' with_reducible first|refine And.intro ?_ ?_|intro _|refine exP ?_ ?_);all_goals try omega
 refine a0b [] [] (a0s 111) ?_
 simp only [go_sem,hG,hOw]
 (repeat' with_reducible first|refine And.intro ?_ ?_|intro _|refine exP ?_ ?_);all_goals try omega
 exact (a1x [(0,some 0)])
theorem b9z (lo:Nat) (s:ByteArray) (l:List ByteArray) (hs:s.size≤100000) (h:a3z s=none):Tri Tryz.prog 75 [.ptr 0 0] [(0,.box [a0e lo (s::l)])] (fun _=>.pan (wrV 111) []):=by
 refine a0d (fun _=>false) Tryz.func75 Tryz.ntmps75 rfl rfl fun G hG hOw hNm=>?_;simp only [go_sem,hG,hOw]
 (repeat' with_reducible first|refine And.intro ?_ ?_|intro _|refine exP ?_ ?_);all_goals try omega
 refine a0b [(0,0)] [] (a7n lo s l) ?_
 simp only [go_sem,hG,hOw]
 (repeat' with_reducible first|refine And.intro ?_ ?_|intro _|refine exP ?_ ?_);all_goals try omega
 by_cases ha:∃ v,Lib.atoiAll s.data.toList=.ok v
 ·obtain ⟨v,hv⟩:=ha
  have hno:¬ (inB v 0 9999=true∧a3u v=s):=by
   rcases d8r s v hv with q|q
   ·rw [h] at q;cases q.2
   ·exact q.1
  refine a0a (d1c s hs v hv) ?_
  simp only [go_sem,hG,hOw]
  (repeat' with_reducible first|refine And.intro ?_ ?_|intro _|refine exP ?_ ?_);all_goals try omega
  refine a8f .nilIface true .eql (.inl ⟨rfl,rfl⟩) rfl rfl (.inl rfl) (by kernel_rfl) (by simp [chk,hG]) ?_
  simp only [go_sem,hG,hOw]
  (repeat' with_reducible first|refine And.intro ?_ ?_|intro _|refine exP ?_ ?_);all_goals try omega
  refine a0a (b4y 0 9999 v) ?_
  cases hin:inB v 0 9999 with
  |false =>
   simp only [go_sem,hG,hOw]
   (repeat' with_reducible first|refine And.intro ?_ ?_|intro _|refine exP ?_ ?_);all_goals try omega
   refine a0b [] [] (a3v 111) ?_
   simp only [go_sem,hG,hOw]
   exact ⟨rfl,(a1x [])⟩
  |true =>
   have hb:0≤v∧v≤9999:=by simpa [inB] using hin
   simp only [go_sem,hG,hOw]
   (repeat' with_reducible first|refine And.intro ?_ ?_|intro _|refine exP ?_ ?_);all_goals try omega
   refine a0a (a4z v hb.1 hb.2) ?_
   have hne:a3u v≠s:=fun e=>hno ⟨hin,e⟩
   simp (maxSteps:=2000000) only [go_sem,hG,hOw,hne]
   (repeat' with_reducible first|refine And.intro ?_ ?_|intro _|refine exP ?_ ?_);all_goals try omega
   refine a0b [] [] (a3v 111) ?_
   simp only [go_sem,hG,hOw]
   exact ⟨rfl,(a1x [])⟩
 ·have ha':∀ v,Lib.atoiAll s.data.toList≠.ok v:=fun v hv=>ha ⟨v,hv⟩
  refine e1w (f5g s hs ha') (by first|exact Subs.refl _|(repeat' (first|exact Subs.nil|exact Sub.refl _|exact Sub.lo (Nat.zero_le _)|refine Subs.cons ?_ ?_|refine Subs.agg ?_|refine Subs.fp ?_|refine Subs.tup ?_|refine Sub.map (Nat.zero_le _) (fun _=>?_)))) (by first|rfl|simp [a9i,b1n,pureV,pure0, *]) (by simp [chk,hG]) ?_
  rintro _ ⟨n,t,p,rfl⟩
  simp only [go_sem,hG,hOw]
  (repeat' with_reducible first|refine And.intro ?_ ?_|intro _|refine exP ?_ ?_);all_goals try omega
  refine a8f (.iface t p) false .eql (.inl ⟨rfl,rfl⟩) rfl rfl (.inr ⟨_,_,rfl⟩) (by kernel_rfl) (by simp [chk,hG]) ?_
  simp only [go_sem,hG,hOw]
  (repeat' with_reducible first|refine And.intro ?_ ?_|intro _|refine exP ?_ ?_);all_goals try omega
  refine a0b [] [] (a3v 111) ?_
  simp only [go_sem,hG,hOw]
  exact ⟨rfl,(a1x [])⟩
theorem b3r (lo:Nat) (l:List ByteArray) (hl:∀ s ∈ l,s.size≤100000) (h:∀ s r,l=s::r→a3z s=none):Tri Tryz.prog 75 [.ptr 0 0] [(0,.box [a0e lo l])] (fun _=>.pan (wrV 111) []):=by
 cases l with
 |nil=>exact b9u lo
 |cons s r=>exact b9z lo s r (hl s (by simp)) (h s r rfl)
def nvS (l:List ByteArray) (j:Nat):Int:=(a3z (l.getD j ByteArray.empty)).getD 0
def c7m (l:List ByteArray) (j:Nat):Bool:=decide (j < l.length) && (a3z (l.getD j ByteArray.empty)).isSome
def a2q (l:List ByteArray):Bool:=c7m l 0 && c7m l 1 && c7m l 2
theorem e6e {l:List ByteArray} {j:Nat} (h:c7m l j=true):∃ hj:j < l.length,a3z l[j]=some (nvS l j):=by
 simp only [c7m,Bool.and_eq_true,decide_eq_true_eq] at h
 obtain ⟨hj,h2⟩:=h
 have e:l.getD j ByteArray.empty=l[j]:=by simp [List.getD,hj]
 rw [e] at h2
 refine ⟨hj,?_⟩
 unfold nvS
 rw [e]
 cases hv:a3z l[j] with
 |none=>rw [hv] at h2;cases h2
 |some v=>rfl
theorem f1t {l:List ByteArray} {j:Nat} (h:c7m l j=false):∀ s r,l.drop j=s::r→a3z s=none:=by
 intro s r e
 have hj:j < l.length:=by
  rcases Nat.lt_or_ge j l.length with q|q
  ·exact q
  ·rw [List.drop_eq_nil_of_le q] at e;cases e
 have e1:s=l[j]:=by rw [List.drop_eq_getElem_cons hj] at e;exact (List.cons.inj e).1.symm
 simp only [c7m,hj,decide_true,Bool.true_and] at h
 have e2:l.getD j ByteArray.empty=l[j]:=by simp [List.getD,hj]
 rw [e2,← e1] at h
 cases hv:a3z s with
 |none=>rfl
 |some v=>rw [hv] at h;cases h
theorem b5u (lo:Nat) (l:List ByteArray) (j:Nat) (hl:∀ s ∈ l,s.size≤100000) (h:c7m l j=true):Tri Tryz.prog 75 [.ptr 0 0] [(0,.box [a0e lo (l.drop j)])] (fun _=>.ret (i64 (nvS l j)) [(0,.box [a0e lo (l.drop (j+1))])]):=by
 obtain ⟨hj,hv⟩:=e6e h
 rw [List.drop_eq_getElem_cons hj]
 exact a8h lo l[j] (l.drop (j+1)) (nvS l j) (hl _ (List.getElem_mem hj)) hv
theorem b3t (lo:Nat) (l:List ByteArray) (j:Nat) (hl:∀ s ∈ l,s.size≤100000) (h:c7m l j=false):Tri Tryz.prog 75 [.ptr 0 0] [(0,.box [a0e lo (l.drop j)])] (fun _=>.pan (wrV 111) []) :=
 b3r lo (l.drop j) (fun s hs=>hl s (List.mem_of_mem_drop hs)) (f1t h)
def plK (l:List ByteArray):Nat→List V
 |0=>[i64 0,i64 0,i64 0]
 |1=>[i64 (nvS l 0),i64 0,i64 0]
 |2=>[i64 (nvS l 0),i64 (nvS l 1),i64 0]
 |_=>[i64 (nvS l 0),i64 (nvS l 1),i64 (nvS l 2)]
theorem g4n (l:List ByteArray):plK l 0=[i64 0,i64 0,i64 0]:=rfl
theorem g3h (l:List ByteArray):plK l 1=[i64 (nvS l 0),i64 0,i64 0]:=rfl
theorem g2g (l:List ByteArray):plK l 2=[i64 (nvS l 0),i64 (nvS l 1),i64 0]:=rfl
theorem g3j (l:List ByteArray):plK l 3=[i64 (nvS l 0),i64 (nvS l 1),i64 (nvS l 2)]:=rfl
attribute [go_sem] g4n g3h g2g g3j
theorem a2k (lo:Nat) (l:List ByteArray) (hl:∀ s ∈ l,s.size≤100000):Tri Tryz.prog 85 [.ptr 0 0] [(0,.box [a0e lo l])] (fun _=>if a2q l then .ret (.agg (plK l 3)) [(0,.box [a0e lo (l.drop 3)])] else .pan (wrV 111) []):=by
 refine a0d (fun i=>[9].contains i) Tryz.func85 Tryz.ntmps85 rfl rfl fun G hG hOw hNm=>?_;simp only [go_sem,hG,hOw]
 (repeat' with_reducible first|refine And.intro ?_ ?_|intro _|refine exP ?_ ?_);all_goals try omega
 have c0:((0:Nat):Int)=0:=rfl
 have c1:((1:Nat):Int)=1:=rfl
 have c2:((2:Nat):Int)=2:=rfl
 have c3:((3:Nat):Int)=3:=rfl
 have i1:Int.toNat 1=1:=rfl
 have i2:Int.toNat 2=2:=rfl
 refine a0r (fun k:Nat=>St.of [(0,.ptr 0 0),(2,.ptr 2 0),(3,.ptr 3 0),(9,.own 9 0 3 1),(10,i64 3),(11,i64 k)] [(0,.box [a0e lo (l.drop k)]),(2,.box [i64 0,i64 0,i64 0]),(3,.box (plK l k)),(9,.box [.ptr 3 0,.ptr 3 1,.ptr 3 2])]) (fun k=>k≤3∧(0 < k→c7m l 0=true)∧(1 < k→c7m l 1=true)∧(2 < k→c7m l 2=true)) (fun k=>3 - k) 0 (by simp) (by simp only [List.drop_zero];exact a2o [(0,some 0),(2,some 2),(3,some 3),(9,some 9)]) ?_
 rintro k ⟨hk,h1,h2,h3⟩
 have hk4:k=0∨k=1∨k=2∨k=3:=by omega
 rcases hk4 with rfl|rfl|rfl|rfl
 all_goals skip
 ·refine a0l _ _ _ ?_
  simp (maxSteps:=2000000) only [go_sem,hG,hOw,c0,c1,c2,c3,i1,i2,List.getElem_cons_zero,List.getElem_cons_succ]
  (repeat' with_reducible first|refine And.intro ?_ ?_|intro _|refine exP ?_ ?_);all_goals try omega
  cases ho:c7m l 0 with
  |false =>
   have hbad:a2q l=false:=by unfold a2q;rw [ho];simp
   rw [hbad]
   have hU:=b3t lo l 0 hl ho
   rw [List.drop_zero] at hU
   refine a0b [(0,0)] [] (hU) ?_
   simp only [go_sem,hG,hOw]
   exact ⟨rfl,(a1x [])⟩
  |true =>
   have hU:=b5u lo l 0 hl ho
   rw [List.drop_zero] at hU
   refine a0b [(0,0)] [] (hU) ?_
   simp only [go_sem,hG,hOw]
   (repeat' with_reducible first|refine And.intro ?_ ?_|intro _|refine exP ?_ ?_);all_goals try omega
   exact ⟨1,(by simp [ho]),by omega,a2o [(0,some 0),(2,some 2),(3,some 3),(9,some 9)]⟩
 ·refine a0l _ _ _ ?_
  simp (maxSteps:=2000000) only [go_sem,hG,hOw,c0,c1,c2,c3,i1,i2,List.getElem_cons_zero,List.getElem_cons_succ]
  (repeat' with_reducible first|refine And.intro ?_ ?_|intro _|refine exP ?_ ?_);all_goals try omega
  cases ho:c7m l 1 with
  |false =>
   have hbad:a2q l=false:=by unfold a2q;rw [ho];simp
   rw [hbad]
   have hU:=b3t lo l 1 hl ho
   skip
   refine a0b [(0,0)] [] (hU) ?_
   simp only [go_sem,hG,hOw]
   exact ⟨rfl,(a1x [])⟩
  |true =>
   have hU:=b5u lo l 1 hl ho
   skip
   refine a0b [(0,0)] [] (hU) ?_
   simp only [go_sem,hG,hOw]
   (repeat' with_reducible first|refine And.intro ?_ ?_|intro _|refine exP ?_ ?_);all_goals try omega
   have h1':=h1 (by omega)
   exact ⟨2,(by simp [ho,h1']),by omega,a2o [(0,some 0),(2,some 2),(3,some 3),(9,some 9)]⟩
 ·refine a0l _ _ _ ?_
  simp (maxSteps:=2000000) only [go_sem,hG,hOw,c0,c1,c2,c3,i1,i2,List.getElem_cons_zero,List.getElem_cons_succ]
  (repeat' with_reducible first|refine And.intro ?_ ?_|intro _|refine exP ?_ ?_);all_goals try omega
  cases ho:c7m l 2 with
  |false =>
   have hbad:a2q l=false:=by unfold a2q;rw [ho];simp
   rw [hbad]
   have hU:=b3t lo l 2 hl ho
   skip
   refine a0b [(0,0)] [] (hU) ?_
   simp only [go_sem,hG,hOw]
   exact ⟨rfl,(a1x [])⟩
  |true =>
   have hU:=b5u lo l 2 hl ho
   skip
   refine a0b [(0,0)] [] (hU) ?_
   simp only [go_sem,hG,hOw]
   (repeat' with_reducible first|refine And.intro ?_ ?_|intro _|refine exP ?_ ?_);all_goals try omega
   have h1':=h1 (by omega)
   have h2':=h2 (by omega)
   exact ⟨3,(by simp [ho,h1',h2']),by omega,a2o [(0,some 0),(2,some 2),(3,some 3),(9,some 9)]⟩
 ·have hok:a2q l=true:=by unfold a2q;rw [h1 (by omega),h2 (by omega),h3 (by omega)];rfl
  rw [if_pos hok]
  refine a0l _ _ _ ?_
  simp (maxSteps:=2000000) only [go_sem,hG,hOw,c0,c1,c2,c3,i1,i2,List.getElem_cons_zero,List.getElem_cons_succ]
  (repeat' with_reducible first|refine And.intro ?_ ?_|intro _|refine exP ?_ ?_);all_goals try omega
  exact (a1x [(0,some 0)])
open Go Pm Go.RowKit Go.Sort
set_option maxRecDepth 100000
set_option maxHeartbeats 4000000
def c6g (l:List ByteArray):List V:=l.map fun s=>.v (.string s)
theorem e5a:c6g []=[]:=rfl
theorem e3l (s:ByteArray) (l:List ByteArray):c6g (s::l)=.v (.string s)::c6g l:=rfl
attribute [go_sem] e5a e3l
theorem a7x {B b:Nat} {w0:World} (hb:B≤b):∀ (vs:List Value) (o:Nat) (w:World),Below B w0 w→Below B w0 (w.setCells b o vs)
 |[],_,_,h=>h
 |v::r,o,w,h=>a7x hb r (o+1) _ (h.setCell (p:=⟨b,o,none⟩) hb v)
theorem e0v (n:Nat):(Builtin.zeroCells (Value.string ⟨#[]⟩).cells n).size=n:=by simp [Builtin.zeroCells,Value.cells]
def f4h (w:World) (cap:Nat) (x:Value) (cs:List Value):World :=
 (((w.alloc (.cells ((cs.take 0).toArray++Builtin.zeroCells (Value.string ⟨#[]⟩).cells (cs.length+1 - 0)++Builtin.zeroCells (Value.string ⟨#[]⟩).cells (cap - (cs.length+1))) 9)).drew.setCells w.heap.size 0 [x]).drew).setCells w.heap.size (0+1) (cs.drop 0)
theorem f3p (w:World) (cap:Nat) (x:ByteArray) (cs:List ByteArray) :
  Below w.heap.size w (f4h w cap (.string x) (cs.map .string))∧w.heap.size < (f4h w cap (.string x) (cs.map .string)).heap.size∧∀ j v,(x::cs)[j]? = some v→b5l (f4h w cap (.string x) (cs.map .string)) ⟨w.heap.size,j,none⟩ (.string v):=by
 have hb1:Below w.heap.size w (w.alloc (.cells ((([]:List Value)).toArray++Builtin.zeroCells (Value.string ⟨#[]⟩).cells (cs.length+1 - 0)++Builtin.zeroCells (Value.string ⟨#[]⟩).cells (cap - (cs.length+1))) 9)):=(Below.refl _ w).alloc (Nat.le_refl _) _
 have e0:f4h w cap (.string x) (cs.map .string)=((((w.alloc (.cells ((([]:List Value)).toArray++Builtin.zeroCells (Value.string ⟨#[]⟩).cells (cs.length+1 - 0)++Builtin.zeroCells (Value.string ⟨#[]⟩).cells (cap - (cs.length+1))) 9)).drew.setCells w.heap.size 0 [.string x]).drew).setCells w.heap.size (0+1) (cs.map .string)):=by
  unfold f4h;rw [List.length_map,List.take_zero,List.drop_zero]
 rw [e0]
 generalize hA:(([]:List Value)).toArray++Builtin.zeroCells (Value.string ⟨#[]⟩).cells (cs.length+1 - 0)++Builtin.zeroCells (Value.string ⟨#[]⟩).cells (cap - (cs.length+1))=A at *
 have hAs:cs.length+1≤A.size:=by rw [← hA,Array.size_append,Array.size_append,e0v,e0v];simp
 have hw1:(w.alloc (.cells A 9)).heap[w.heap.size]? = some (.cells A 9 (0,0)):=a4u w _
 generalize hW:w.alloc (.cells A 9)=W at *
 have hcell:∀ j,j < A.size→(W.cell? ⟨w.heap.size,j,none⟩).isSome=true:=fun j hj=>by rw [cell_of_row _ _ _ _ _ _ hw1];simp [hj]
 have hfr:∀ j,W.frozen? ⟨w.heap.size,j,none⟩=false:=fun j=>by simp [World.frozen?,hw1]
 have hB:Below w.heap.size w (((W.drew.setCells w.heap.size 0 [.string x]).drew).setCells w.heap.size (0+1) (cs.map .string)):=a7x (Nat.le_refl _) _ _ _ (a7x (Nat.le_refl _) _ _ _ hb1.drew).drew
 have hcell2:∀ j,j < A.size→((W.drew.setCells w.heap.size 0 [Value.string x]).drew.cell? ⟨w.heap.size,j,none⟩).isSome=true:=fun j hj=>by
  show ((W.drew.setCells w.heap.size 0 [Value.string x]).cell? ⟨w.heap.size,j,none⟩).isSome=true
  cases j with
  |zero =>
   have:=World.cell?_setCells_in w.heap.size [Value.string x] 0 W.drew (fun j hj=>by simp at hj;subst hj;exact hcell 0 (by omega)) 0 (by simp)
   simp only [Nat.zero_add] at this
   rw [this];rfl
  |succ j =>
   rw [World.cell?_setCells_out w.heap.size [Value.string x] 0 W.drew _ (fun _ _=>.inr (by simp))]
   exact hcell (j+1) hj
 refine ⟨hB,?_,fun j v hv=>⟨?_,fun _=>?_⟩⟩
 ·have h1:((((W.drew.setCells w.heap.size 0 [.string x]).drew).setCells w.heap.size (0+1) (cs.map .string)).cell? ⟨w.heap.size,0,none⟩).isSome=true:=by
   rw [World.cell?_setCells_out w.heap.size _ (0+1) _ _ (fun _ _=>.inl (by simp))]
   exact hcell2 0 (by omega)
  obtain ⟨u,hu⟩:=Option.isSome_iff_exists.1 h1
  exact Lib.lt_of_cell hu
 ·cases j with
  |zero =>
   simp at hv;subst hv
   rw [World.cell?_setCells_out w.heap.size _ (0+1) _ _ (fun _ _=>.inl (by simp))]
   show (W.drew.setCells w.heap.size 0 [Value.string x]).cell? ⟨w.heap.size,0,none⟩=_
   have:=World.cell?_setCells_in w.heap.size [Value.string x] 0 W.drew (fun j hj=>by simp at hj;subst hj;exact hcell 0 (by omega)) 0 (by simp)
   simpa using this
  |succ j =>
   simp at hv
   have hj:j < cs.length:=(List.getElem?_eq_some_iff.1 hv).1
   have hvj:cs[j]=v:=(List.getElem?_eq_some_iff.1 hv).2
   have:=World.cell?_setCells_in w.heap.size (cs.map Value.string) (0+1) (W.drew.setCells w.heap.size 0 [Value.string x]).drew (fun i hi=>hcell2 _ (by simp at hi;omega)) j (by simpa using hj)
   rw [show j+1=0+1+j by omega,this]
   simp [hvj]
 ·rw [World.frozen?_setCells]
  show (W.drew.setCells w.heap.size 0 [Value.string x]).frozen? _=false
  rw [World.frozen?_setCells]
  exact hfr j
theorem c8c {G:Gh} {o:Oper} {s:St} {Q:Exit→St→Prop} {rest:St→Prop} (id lo':Nat) (cs:List ByteArray) (x:ByteArray) (hb:s.hget id=some (.box (c6g cs))) (hne:0 < cs.length) (hl:cs.length≤1000) (hc:chk G.n o.dst)
  (h:rest (a4o s o.dst (a0e G.lo (x::cs)))):a4d Tryz.prog G o s Q rest (.fn (.func 134) []) [.own id 0 cs.length 1,i64 0,a0e lo' [x]]:=by
 rintro xo l ts ho hx has a w ⟨E,hE⟩
 obtain ⟨ys,hy,hsz,hr⟩:=R.fn_inv (a2a hE hx.symm)
 have hl3:l.length=3:=by have:=congrArg List.length has;simpa using this.symm
 match l,hl3,has with
 |[o1,o2,o3],_,has =>
  simp only [List.map_cons,List.map_nil,List.cons.injEq,and_true] at has
  obtain ⟨e1,e2,e3⟩:=has
  have q2:=R.v_inv (a2a hE e2.symm)
  obtain ⟨b,K,C,hEi,hle,hKC,hv⟩:=R.own_inv (a2a hE e1.symm)
  obtain ⟨b1,K1,C1,h1,b',zs,t,hb',hh,hzs,hK,hKC',hrr⟩:=hE.hp id _ hb
  rw [hEi] at h1
  cases h1
  cases hb'
  have hcl:(c6g cs).length=cs.length:=by simp [c6g]
  obtain ⟨o',ho',hy1⟩:=hv
  have ho0:o'=0:=by rw [ho' (.inr rfl)]
  subst ho0
  have hC:C - 0=cs.length:=by omega
  rw [hC] at hy1
  have q3:=(a2a hE e3.symm).pure0 rfl
  generalize hY3:a.eval o3=y3 at q3
  cases q3 with
  |lst _ _ _ ad n3 cap3 b3 of3 g3 hlo3 hn3 hc3 hl3' ha3 hs3 hz3 hr3 =>
  simp only [List.map_cons,List.map_nil,List.length_cons,List.length_nil] at hn3
  subst hn3
  obtain ⟨rfl,hO3,hb3⟩:=ha3 (by simp)
  have hg3:g3 0 0=.string x:=by
   have:=hr3 0 [.v (.string x)] 0 (.v (.string x)) rfl rfl
   generalize g3 0 0=z at this
   cases this;rfl
  have hcell3:w.cell? ⟨b3,of3,none⟩=some (.string x):=by
   have:=(hs3 0 [.v (.string x)] 0 (.v (.string x)) rfl rfl).1
   rw [hg3] at this
   simpa using this
  have hzcell:∀ j v,(cs.map Value.string)[j]? = some v→w.cell? ⟨b',0+j,none⟩=some v:=fun j v hj=>by
   simp only [List.getElem?_map,Option.map_eq_some_iff] at hj
   obtain ⟨c,hcj,rfl⟩:=hj
   have hjl:j < cs.length:=(List.getElem?_eq_some_iff.1 hcj).1
   rw [cell_of_row _ _ _ _ _ _ hh,Nat.zero_add]
   have hjz:j < zs.size:=by omega
   have hz:zs[j]? = some zs[j]:=Array.getElem?_eq_getElem hjz
   have:=R.v_inv (hrr j (.v (.string c)) zs[j] (by simp [c6g,hcj]) hz)
   rw [hz,this]
  have hcalls:=Any2.slices_Insert_string_grow Tryz.laysNm222 b' 0 cs.length cs.length 0 b3 of3 1 cap3 (cs.map Value.string) [.string x] w (by omega) (by omega) (Nat.le_refl _) (by omega) (by omega) (by simp) (by simp) hzcell
   (fun j v hj=>by
    match j with
    |0=>simp at hj;subst hj;simpa using hcell3
    |j+1=>simp at hj) (fun v hv=>by
    simp only [List.mem_map] at hv
    obtain ⟨c,_,rfl⟩:=hv
    rfl) (fun v hv=>by simp at hv;subst hv;rfl)
  have hys0:ys=#[]:=by
   apply Array.eq_empty_of_size_eq_zero
   simpa using hsz
  have hargs:([o1,o2,o3].map a.eval).toArray++ys=#[.slice (some ⟨b',0,none⟩) cs.length cs.length,.int .i64 (0:Nat),.slice (some ⟨b3,of3,none⟩) 1 cap3]:=by
   rw [hys0]
   simp [hy1,q2,hY3]
  refine c1v ho ⟨_,Tryz.func134,by decide,by kernel_rfl⟩ hy (by rw [hargs];exact hcalls) ?_
  rintro e w' ⟨rfl,hw⟩
  obtain ⟨g1,g2,g3'⟩:=f3p w (grownCap w (cs.length+1) cs.length 9) x cs
  have hw':w'=f4h w (grownCap w (cs.length+1) cs.length 9) (.string x) (cs.map .string):=by
   rw [hw]
   unfold f4h
   rw [List.length_map]
   rfl
  rw [← hw'] at g1 g2 g3'
  refine ⟨_,rfl,_,h,E,(hE.below g1).put (a3d hc) (.r0 _ _ ?_)⟩
  refine .lst G.lo 1 _ _ _ _ w.heap.size 0 (fun i j=>.string ((x::cs).getD i ByteArray.empty)) (fun _=>Nat.le_trans G.hlo hE.grow) (by simp) (by rw [List.length_map,List.length_cons];exact grownCap_ge w (cs.length+1) cs.length 9) (by simp;omega)
   (fun _=>⟨rfl,fun hc=>Nat.lt_irrefl _ (e7s hE _ hc),g2⟩) (fun i y j u h1 h2=>?_) (fun y hy=>?_) fun i y j u h1 h2=>?_
  ·rw [List.getElem?_map,Option.map_eq_some_iff] at h1
   obtain ⟨c,hc,rfl⟩:=h1
   match j with
   |0 =>
    have:=g3' i c hc
    simp only [Nat.zero_add,Nat.mul_one,Nat.add_zero,List.getD,hc,Option.getD_some]
    exact this
   |j+1=>simp [a2h] at h2
  ·simp only [List.mem_map] at hy
   obtain ⟨c,_,rfl⟩:=hy
   rfl
  ·rw [List.getElem?_map,Option.map_eq_some_iff] at h1
   obtain ⟨c,hc,rfl⟩:=h1
   match j with
   |0 =>
    simp [a2h] at h2
    subst h2
    simp only [List.getD,hc,Option.getD_some]
    exact .v _
   |j+1=>simp [a2h] at h2
theorem a1q (x:ByteArray) (cs:List ByteArray) (hne:0 < cs.length) (hl:cs.length≤900) (hx:x.size≤100000) (hs:∀ s ∈ cs,s.size≤100000) :
  Tri Tryz.prog 63 [str x,.own 0 0 cs.length 1] [(0,.box (c6g cs))] (fun _=>.ret (str (a1o (x::cs))) []):=by
 refine a0d (fun _=>false) Tryz.func63 Tryz.ntmps63 rfl rfl fun G hG hOw hNm=>?_;simp only [go_sem,hG,hOw]
 (repeat' with_reducible first|refine And.intro ?_ ?_|intro _|refine exP ?_ ?_);all_goals try omega
 refine c8c 0 _ cs x (by simp [go_sem]) hne (by omega) (by simp [chk,hG]) ?_
 simp only [go_sem,hG,hOw]
 refine a0a (b1l (x::cs) (by simp;omega) (by simpa using ⟨hx,hs⟩)) ?_
 simp only [go_sem,hG,hOw]
 (repeat' with_reducible first|refine And.intro ?_ ?_|intro _|refine exP ?_ ?_);all_goals try omega
 exact (a1x [])
open Go Pm Go.RowKit Go.Sort
set_option maxRecDepth 100000
set_option maxHeartbeats 4000000
theorem a3i {n:Int} (h0:0≤n) (h1:n≤9999):(a3u n).size≤4:=by
 have:=b5m n h0 h1
 unfold b1r at this
 split at this
 ·rename_i h;rw [a3u,c6v];exact h.2.1
 ·cases this
theorem inB_iff {n lo hi:Int}:inB n lo hi=true↔lo≤n∧n≤hi:=by simp [inB]
def atS (a b c:Int):ByteArray:=a1o [a3u a,a3u b,a3u c]
def in9 (n:Int):Prop:=0≤n∧n≤9999
theorem d3r (a b c:Int) (ha:in9 a) (hb:in9 b) (hc:in9 c):a0o Tryz.prog 81 [.agg [i64 a,i64 b,i64 c]] (fun _=>str (atS a b c)):=by
 have sa:=a3i ha.1 ha.2
 have sb:=a3i hb.1 hb.2
 have sc:=a3i hc.1 hc.2
 refine a0c (ow:=fun i=>[12,1000012].contains i) Tryz.func81 Tryz.ntmps81 rfl rfl fun G hG hOw hNm hB=>?_;simp only [go_sem,hG,hOw]
 (repeat' with_reducible first|refine And.intro ?_ ?_|intro _|refine exP ?_ ?_);all_goals try omega
 refine a1w ⟨[12],[],[]⟩ [(0,false),(1,false),(2,false),(3,false),(4,false),(5,false),(6,false),(7,false),(8,false),(9,false),(10,true),(11,false)] mixed (by kernel_rfl) ?_
 simp only [a2r,List.getElem?_cons_zero,List.getElem?_cons_succ]
 simp only [go_sem,hG,hOw]
 (repeat' with_reducible first|refine And.intro ?_ ?_|intro _|refine exP ?_ ?_);all_goals try omega
 refine ⟨_,a0i (a4z a ha.1 ha.2),?_⟩
 simp only [go_sem,hG,hOw]
 (repeat' with_reducible first|refine And.intro ?_ ?_|intro _|refine exP ?_ ?_);all_goals try omega
 refine ⟨_,a0i (a4z b hb.1 hb.2),?_⟩
 simp only [go_sem,hG,hOw]
 (repeat' with_reducible first|refine And.intro ?_ ?_|intro _|refine exP ?_ ?_);all_goals try omega
 refine ⟨_,a0i (a4z c hc.1 hc.2),?_⟩
 simp only [go_sem,hG,hOw]
 (repeat' with_reducible first|refine And.intro ?_ ?_|intro _|refine exP ?_ ?_);all_goals try omega
 refine a0b [(0,12)] [] (a1q (a3u a) [a3u b,a3u c] (by simp) (by simp) (by omega) (by simp;omega)) ?_
 simp only [go_sem,hG,hOw]
 (repeat' with_reducible first|refine And.intro ?_ ?_|intro _|refine exP ?_ ?_);all_goals try omega
 rfl
def c8i (l:List ByteArray):ByteArray:=a1o [b1w,a1o l]
def e6m (c:Ch):List ByteArray:=a1o [a4i,a3u c.id]::c.lines.map c8i
def a3n (t:List Ch):List ByteArray:=t.flatMap e6m
theorem c7a (t:List Ch) (k:Nat) (hk:k < t.length):a3n (t.take (k+1))=a3n (t.take k)++e6m t[k]:=by
 unfold a3n
 rw [List.take_add_one,List.getElem?_eq_getElem hk,List.flatMap_append]
 simp
theorem c0f {f:List Ch→Ch→Bool} {p:Ch→Prop} (h:∀ pre c,f pre c=true→p c):∀ (t pre:List Ch),a4m f pre t=true→∀ c ∈ t,p c
 |[],_,_=>by simp
 |c::r,pre,ht=>by
  simp only [a4m,Bool.and_eq_true] at ht
  intro d hd
  rcases List.mem_cons.1 hd with rfl|hd
  ·exact h _ _ ht.1
  ·exact c0f h r _ ht.2 d hd
theorem a3t {s:ByteArray} (h:a1p s=true):1≤s.size∧s.size≤12:=by
 simp only [a1p,Bool.and_eq_true,inB_iff] at h;omega
structure VCh (c:Ch):Prop where
 id:in9 c.id
 len:1≤c.lines.length∧c.lines.length≤10
 ln:∀ l ∈ c.lines,(1≤l.length∧l.length≤10)∧∀ s ∈ l,a1p s=true
theorem f2w {pre:List Ch} {c:Ch} (h:b8d pre c=true):VCh c:=by
 simp only [b8d,Bool.and_eq_true,inB_iff,List.all_eq_true,b6b] at h
 obtain ⟨⟨⟨h1,h2⟩,h3⟩,h4⟩:=h
 exact ⟨h1,by omega,fun l hl=>⟨by have:=(h4 l hl).1;omega,(h4 l hl).2⟩⟩
theorem b9v {t:List Ch} (h:a2l t=true):(1≤t.length∧t.length≤6)∧∀ c ∈ t,VCh c:=by
 simp only [a2l,Bool.and_eq_true,inB_iff] at h
 exact ⟨by omega,fun c hc=>c0f (p:=VCh) (fun _ _=>f2w) t [] h.2 c hc⟩
theorem e3e {l:List ByteArray} (h:(1≤l.length∧l.length≤10)∧∀ s ∈ l,a1p s=true):(a1o l).size≤130:=by
 have h1:=b1i 12 l fun s hs=>(a3t (h.2 s hs)).2
 rw [a8d]
 have:(12+1) * l.length≤13 * 10:=Nat.mul_le_mul_left _ h.1.2
 omega
theorem d2a {t:List Ch} (h6:t.length≤6) (hv:∀ c ∈ t,c.lines.length≤10):(a3n t).length≤66:=by
 have:∀ t:List Ch,(∀ c ∈ t,c.lines.length≤10)→(a3n t).length≤11 * t.length:=by
  intro t
  induction t with
  |nil=>simp [a3n]
  |cons c r ih =>
   intro h
   have h1:=ih fun d hd=>h d (by simp [hd])
   have h2:=h c (by simp)
   simp only [a3n,List.flatMap_cons,List.length_append,e6m,List.length_cons,List.length_map] at h1 ⊢
   omega
 have:=this t hv
 omega
theorem e0c (pre:List ByteArray) (r:ByteArray) (ls:List (List ByteArray)):∃ M:Nat→List ByteArray,M 0=pre++[r]∧(∀ j (h:j < ls.length),M (j+1)=M j++[c8i ls[j]])∧M ls.length=pre++r::ls.map c8i∧∀ j,j≤ls.length→(M j).length=pre.length+1+j:=by
 refine ⟨fun j=>pre++r::(ls.take j).map c8i,by simp,fun j h=>?_,by simp,fun j h=>by simp;omega⟩
 simp only [a2u c8i ls j h]
 simp
theorem c4d (t:List Ch):a0o Tryz.prog 13 [txE 0 t] (fun n=>.tup [a0e n (if a2l t then a3n t else []),i64 (if a2l t then 0 else 10)]):=by
 refine a0c (ow:=fun i=>[26,40,1000026,1000040].contains i) Tryz.func13 Tryz.ntmps13 rfl rfl fun G hG hOw hNm hB=>?_;simp only [go_sem,hG,hOw]
 refine a0a (a3q t) ?_
 cases ht:a2l t with
 |false =>
  simp only [go_sem,hG,hOw]
  (repeat' with_reducible first|refine And.intro ?_ ?_|intro _|refine exP ?_ ?_);all_goals try omega
  exact Subs.tup (.cons (.nil _ _) (.cons (.refl _) .nil))
 |true =>
  obtain ⟨ht1,ht2⟩:=b9v ht
  have hlen:∀ k,(a3n (t.take k)).length≤66:=fun k=>d2a (by simp;omega) fun c hc=>(ht2 c (List.mem_of_mem_take hc)).len.2
  simp only [go_sem,hG,hOw]
  (repeat' with_reducible first|refine And.intro ?_ ?_|intro _|refine exP ?_ ?_);all_goals try omega
  refine a0r (fun k:Nat=>St.of [(1,.ptr 1 0),(5,.own 100 0 (a3n (t.take k)).length 1),(16,chs 0 t),(17,i64 t.length),(18,i64 k)] [(1,.box [chs 0 t]),(100,.arr 9 1 ((a3n (t.take k)).map a2h))]) (fun k=>k≤t.length) (fun k=>t.length - k) 0 (by simp) (by simp only [List.take_zero,a3n,List.flatMap_nil];exact a2o [(1,some 1),(100,none)]) ?_
  rintro k hk
  refine a0l _ _ _ ?_;simp only [go_sem,hG,hOw]
  (repeat' with_reducible first|refine And.intro ?_ ?_|intro _|refine exP ?_ ?_);all_goals try omega
  ·rename_i hlt
   have hkl:k < t.length:=by omega
   obtain ⟨hid,hcl,hln⟩:=ht2 _ (List.getElem_mem hkl)
   have hsz:=a3i hid.1 hid.2
   refine a0a (a4z t[k].id hid.1 hid.2) ?_
   simp only [go_sem,hG,hOw]
   (repeat' with_reducible first|refine And.intro ?_ ?_|intro _|refine exP ?_ ?_);all_goals try omega
   refine a0b [(0,26)] [] (a1q a4i [a3u t[k].id] (by simp) (by simp) (by decide) (by simp;omega)) ?_ (by (simp only [go_sem])<;>simp [a4i]) (by (simp only [go_sem,a1g,a0q,a0f,a1m])<;>simp [a4i]) (by simp [a0h,usH,toR,a4i])
   simp only [go_sem,hG,hOw]
   have hl66:=hlen k
   (repeat' with_reducible first|refine And.intro ?_ ?_|intro _|refine exP ?_ ?_);all_goals try omega
   obtain ⟨M,hM0,hMs,hMe,hMl⟩:=e0c (a3n (t.take k)) (a1o [a4i,a3u t[k].id]) t[k].lines
   have hMe':M t[k].lines.length=a3n (t.take (k+1)):=by rw [hMe,c7a t k hkl];rfl
   refine a6h (fun _:Unit=>St.of [(1,.ptr 1 0),(5,.own 100 0 (a3n (t.take (k+1))).length 1),(16,chs 0 t),(17,i64 t.length),(18,i64 k)] [(1,.box [chs 0 t]),(100,.arr 9 1 ((a3n (t.take (k+1))).map a2h))]) (fun _=>True) ?_ ?_
   ·refine a0r (fun j:Nat=>St.of [(1,.ptr 1 0),(5,.own 200 0 (M j).length 1),(16,chs 0 t),(17,i64 t.length),(18,i64 k),(31,lns 0 t[k].lines),(32,i64 t[k].lines.length),(33,i64 j)] [(1,.box [chs 0 t]),(200,.arr 9 1 ((M j).map a2h))]) (fun j=>j≤t[k].lines.length) (fun j=>t[k].lines.length - j) 0 (by simp) (by simp only [hM0];exact a2o [(1,some 1),(200,some 29)] (by (simp only [go_sem])<;>simp [a2h]) (by (simp only [go_sem,a1g,a0q,a0f,a1m])<;>simp [a2h])) ?_
    rintro j hj
    have hMj:=hMl j hj
    refine a0l _ _ _ ?_;simp only [go_sem,hG,hOw]
    (repeat' with_reducible first|refine And.intro ?_ ?_|intro _|refine exP ?_ ?_);all_goals try omega
    ·rename_i hlt2
     have hjl:j < t[k].lines.length:=by omega
     have hlj:=hln _ (List.getElem_mem hjl)
     have hs2:=e3e hlj
     refine a0a (b1l t[k].lines[j] (by omega) fun s hs=>by have:=a3t (hlj.2 s hs);omega) ?_
     simp only [go_sem,hG,hOw]
     (repeat' with_reducible first|refine And.intro ?_ ?_|intro _|refine exP ?_ ?_);all_goals try omega
     refine a0b [(0,40)] [] (a1q b1w [a1o t[k].lines[j]] (by simp) (by simp) (by decide) (by simp;omega)) ?_ (by (simp only [go_sem])<;>simp [b1w]) (by (simp only [go_sem,a1g,a0q,a0f,a1m])<;>simp [b1w]) (by simp [a0h,usH,toR,b1w])
     simp only [go_sem,hG,hOw]
     (repeat' with_reducible first|refine And.intro ?_ ?_|intro _|refine exP ?_ ?_);all_goals try omega
     exact ⟨j+1,by omega,by omega,a2o [(1,some 1),(200,some 43)] (by (simp only [go_sem])<;>simp [hMs j hjl,c8i,a2h]) (by (simp only [go_sem,a1g,a0q,a0f,a1m])<;>simp [hMs j hjl,c8i,a2h])⟩
    ·rename_i hge2
     have hj2:j=t[k].lines.length:=by omega
     subst hj2
     rw [hMe']
     exact ⟨(),a2o [(1,some 1),(100,some 200)]⟩
   ·rintro ⟨⟩ -
    simp only [go_sem,hG,hOw]
    (repeat' with_reducible first|refine And.intro ?_ ?_|intro _|refine exP ?_ ?_);all_goals try omega
    exact ⟨k+1,by omega,by omega,a2o [(1,some 1),(100,some 100)]⟩
  ·rename_i hge
   obtain rfl:k=t.length:=by omega
   simp only [List.take_length]
   exact .refl _
open Go Pm Go.RowKit Go.Sort
set_option maxRecDepth 100000
set_option maxHeartbeats 4000000
def c5p (t:List Ch) (n:Nat):List (List V):=match t.getLast? with
 |none=>[]
 |some c=>t.dropLast.map (chE 0)++[[i64 c.id,.own n 0 c.lines.length 1]]
def e2w (t:List Ch):List (List ByteArray):=match t.getLast? with
 |none=>[]
 |some c=>c.lines
theorem c0v (n:Nat):c5p [] n=[]:=rfl
theorem c0r:e2w []=[]:=rfl
theorem a5i (i:List Ch) (c:Ch) (n:Nat):c5p (i++[c]) n=i.map (chE 0)++[[i64 c.id,.own n 0 c.lines.length 1]]:=by simp [c5p]
theorem a9v (i:List Ch) (c:Ch):e2w (i++[c])=c.lines:=by simp [e2w]
theorem a6y {α:Type} (t:List α):t=[]∨∃ i c,t=i++[c]:=by
 rcases List.eq_nil_or_concat t with h|⟨i,c,h⟩
 ·exact .inl h
 ·exact .inr ⟨i,c,by simpa using h⟩
theorem c1w {ρ:Ren} {lo:Nat} {r r':List (List V)} (h:c6h ρ r r'):∀ i:List Ch,c6h ρ (i.map (chE lo)++r) (i.map (chE lo)++r')
 |[]=>by simpa using h
 |c::i=>by
  rw [List.map_cons,List.cons_append,List.cons_append]
  exact ⟨⟨rfl,.inl rfl,trivial⟩,c1w h i⟩
theorem b4e {ρ:Ren} {lo:Nat} {r r':List (List V)}:∀ i:List Ch,c6h ρ (i.map (chE lo)++r) (i.map (chE lo)++r')→c6h ρ r r'
 |[],h=>by simpa using h
 |c::i,h=>by
  rw [List.map_cons,List.cons_append,List.cons_append] at h
  exact b4e i h.2
theorem a8n {ρ:Ren} {lo:Nat} (i:List Ch) (r r':List (List V)):c6h ρ (i.map (chE lo)++r) (i.map (chE lo)++r')=c6h ρ r r':=propext ⟨b4e i,fun h=>c1w h i⟩
theorem c1c {p:Nat→Bool} {l:Nat} {s:St} {lo:Nat} (i:List Ch) (r:List (List V)):(i.map (chE lo)++r).map (List.map (vwF p l s 4))=i.map (chE lo)++r.map (List.map (vwF p l s 4)):=by
 rw [List.map_append,List.map_map]
 congr 1
theorem a7q (t:List Ch) {ρ:Ren} {a b:Nat} (h:lkR ρ a=some (some b)):c6h ρ (c5p t a) (c5p t b):=by
 rcases a6y t with rfl|⟨i,c,rfl⟩
 ·exact trivial
 ·rw [a5i,a5i]
  refine c1w ?_ i
  simp [c6h,okL,okN,h,i64]
theorem e8l (t:List Ch) (g:V→V) (hv:∀ x,g (.v x)=.v x) (hl:∀ lo sz l,g (.lst lo sz l)=.lst lo sz l) {a b:Nat} (h:∀ m,g (.own a 0 m 1)=.own b 0 m 1):(c5p t a).map (List.map g)=c5p t b:=by
 rcases a6y t with rfl|⟨i,c,rfl⟩
 ·rfl
 ·rw [a5i,a5i,List.map_append,List.map_map]
  congr 1
  ·refine List.map_congr_left fun d _=>?_
   simp [chE,i64,lns,hv,hl]
  ·simp [i64,hv,h]
theorem f3v {s:St} {el sz:Nat} (id:Nat) (l:List (List V)) {n:Nat} (hn:n=l.length) (h:s.hget id=some (.arx el sz l)):IsArrX s el sz (.own id 0 n sz) l (some id):=by
 subst hn
 exact .own id l h
theorem d4j (lo:Nat) (t:List Ch) (r:List ByteArray) (x:ByteArray) (v:Int) (hx:x.size≤100000) (hv:a3z x=some v) (ht:t.length≤1000) :
  Tri Tryz.prog 74 [str a4i,.ptr 1 0,.ptr 0 0] [(0,.box [.own 2 0 t.length 2]),(1,.box [a0e lo (x::r)]),(2,.arx 115 2 (c5p t 3)),(3,.arr 32 1 ((e2w t).map (lnE 0)))]
   (fun _=>.ret (.tup []) [(0,.box [.own 4 0 (t++[Ch.mk v []]).length 2]),(1,.box [a0e lo r]),(4,.arx 115 2 (c5p (t++[Ch.mk v []]) 5)),(5,.arr 32 1 ((e2w (t++[Ch.mk v []])).map (lnE 0)))]):=by
 unfold a4i
 rw [a5i,a9v]
 rcases a6y t with rfl|⟨i,c,rfl⟩
 ·rw [c0v,c0r]
  refine a0d (fun _=>false) Tryz.func74 Tryz.ntmps74 rfl rfl fun G hG hOw hNm=>?_;simp only [go_sem,hG,hOw]
  (repeat' with_reducible first|refine And.intro ?_ ?_|intro _|refine exP ?_ ?_);all_goals try omega
  refine a1w ⟨[1,16,17,18],[(14,[1]),(18,[0])],[14]⟩ [(0,false),(1,false),(2,false),(3,false),(4,false),(5,false),(6,true),(7,false),(8,false)] mixed (by kernel_rfl) ?_
  simp only [a2r,List.getElem?_cons_zero,List.getElem?_cons_succ]
  simp only [go_sem,hG,hOw]
  (repeat' with_reducible first|refine And.intro ?_ ?_|intro _|refine exP ?_ ?_);all_goals try omega
  refine ⟨_,a5x [(0,1)] [] (a8h lo x r v hx hv) (by (simp only [go_sem])<;>simp) (by (simp only [go_sem,a1g,a0q,a0f,a1m])<;>simp) (by simp [a2m,apart,toR]) (by simp [a0h,usH,toR]) (by simp [a5z,lkR,toR]) rfl (by simp [tgt,a1z]) (by simp [tgt,a1z]) (by simp [upT,a3k,a5w,a1u,usH,lkR,toR,a1z]) (by simp [b2k,usH,tgt,go_sem]) (by simp [a3l,a1u,usH,lkR,toR]) (by simp [a5d,usH]),?_⟩
  simp only [go_sem,hG,hOw]
  (repeat' with_reducible first|refine And.intro ?_ ?_|intro _|refine exP ?_ ?_);all_goals try omega
  refine c4p (el:=115) (sz:=2) (x:=.own 2 0 0 2) (y:=.lst G.lo 2 [[i64 v,.v (.slice none 0 0)]]) (l:=[]) (new:=[[i64 v,.v (.slice none 0 0)]]) (io:=some 2) rfl ?_ ?_ rfl ?_ ?_ ?_ ?_ b0d (by kernel_rfl) b1t (by decide) rfl (Nat.le_of_ble_eq_true rfl) (Nat.le_of_ble_eq_true rfl) ?_
  ·simp [go_sem]
  ·simp [go_sem]
  ·rw [hG];decide
  ·simp [go_sem]
  ·exact IsArrX.own 2 [] (by simp [go_sem])
  ·exact .src _ _ (.lst ..)
  simp only [go_sem,hG,hOw]
  (repeat' with_reducible first|refine And.intro ?_ ?_|intro _|refine exP ?_ ?_);all_goals try omega
  exact (a1x [(0,some 0),(1,some 1),(4,some 17),(5,none)])
 ·rw [a5i,a9v]
  refine a0d (fun _=>false) Tryz.func74 Tryz.ntmps74 rfl rfl fun G hG hOw hNm=>?_;simp only [go_sem,hG,hOw]
  (repeat' with_reducible first|refine And.intro ?_ ?_|intro _|refine exP ?_ ?_);all_goals try omega
  refine e5f (fun i=>i == 3) ?_
  refine a1w ⟨[1,16,17,18],[(14,[1]),(18,[0])],[14]⟩ [(0,false),(1,false),(2,false),(3,false),(4,false),(5,false),(6,true),(7,false),(8,false)] mixed (by kernel_rfl) ?_
  simp only [a2r,List.getElem?_cons_zero,List.getElem?_cons_succ]
  simp (maxSteps:=2000000) only [go_sem,hG,hOw,↓c1c]
  (repeat' with_reducible first|refine And.intro ?_ ?_|intro _|refine exP ?_ ?_);all_goals try omega
  refine ⟨_,a5x [(0,1)] [] (a8h lo x r v hx hv) (by (simp only [go_sem])<;>simp) (by (simp only [go_sem,a1g,a0q,a0f,a1m])<;>simp) (by simp [a2m,apart,toR]) (by simp [a0h,usH,toR]) (by simp [a5z,lkR,toR]) rfl (by simp [tgt,a1z]) (by simp [tgt,a1z]) (by simp [upT,a3k,a5w,a1u,usH,lkR,toR,a1z]) (by simp [b2k,usH,tgt,go_sem]) (by simp [a3l,a1u,usH,lkR,toR]) (by simp [a5d,usH]),?_⟩
  simp (maxSteps:=2000000) only [go_sem,hG,hOw,↓c1c]
  (repeat' with_reducible first|refine And.intro ?_ ?_|intro _|refine exP ?_ ?_);all_goals try omega
  have hS:Pm.Sub (.lst G.lo 1 (c.lines.map (lnE 0))) (.lst 0 1 (c.lines.map (lnE 0))):=Sub.lo (Nat.zero_le _)
  refine c4p (el:=115) (sz:=2) (x:=.own 2 0 (i.length+1) 2) (y:=.lst G.lo 2 [[i64 v,.v (.slice none 0 0)]]) (l:=i.map (chE 0)++[[i64 c.id,.lst G.lo 1 (c.lines.map (lnE 0))]]) (new:=[[i64 v,.v (.slice none 0 0)]]) (io:=some 2) rfl ?_ ?_ rfl ?_ ?_ ?_ ?_ b0d (by kernel_rfl) b1t (by decide) rfl ?_ ?_ ?_
  ·simp [go_sem]
  ·simp [go_sem]
  ·rw [hG];decide
  ·simp [go_sem]
  ·exact f3v 2 _ (by simp) (by simp only [↓c1c,go_sem])
  ·exact .src _ _ (.lst ..)
  ·simp at ht ⊢;omega
  ·simp at ht ⊢;omega
  simp (maxSteps:=2000000) only [go_sem,hG,hOw,↓c1c]
  (repeat' with_reducible first|refine And.intro ?_ ?_|intro _|refine exP ?_ ?_);all_goals try omega
  exact ⟨[(0,some 0),(1,some 1),(4,some 17),(5,none)],by (simp only [b1z,go_sem,a1g,a0q,a0f,a1m,apart,a2m,a0h])<;>simp [a8n,c6h,okL,okN,chE,lns,i64,lkR,hS,pure0]⟩
theorem b7w (lo:Nat) (t:List Ch) (l:List ByteArray) (hl:∀ s ∈ l,s.size≤100000) (hb:∀ s r,l=s::r→a3z s=none) :
  Tri Tryz.prog 74 [str a4i,.ptr 1 0,.ptr 0 0] [(0,.box [.own 2 0 t.length 2]),(1,.box [a0e lo l]),(2,.arx 115 2 (c5p t 3)),(3,.arr 32 1 ((e2w t).map (lnE 0)))]
   (fun _=>.pan (wrV 111) []):=by
 unfold a4i
 refine a0d (fun _=>false) Tryz.func74 Tryz.ntmps74 rfl rfl fun G hG hOw hNm=>?_;simp only [go_sem,hG,hOw]
 (repeat' with_reducible first|refine And.intro ?_ ?_|intro _|refine exP ?_ ?_);all_goals try omega
 refine c5x ⟨[1,16,17,18],[(14,[1]),(18,[0])],[14]⟩ [0,1,2] 3 (by rfl) (by rfl) mixed (by kernel_rfl) ?_
 simp only [a2r,List.map_cons,List.map_nil,List.getElem?_cons_zero,List.getElem?_cons_succ]
 simp (maxSteps:=2000000) only [go_sem,hG,hOw,f6a,e7j]
 (repeat' with_reducible first|refine And.intro ?_ ?_|intro _|refine exP ?_ ?_);all_goals try omega
 refine d0t [(0,1)] (b3r lo l hl hb) (by (simp only [go_sem])<;>simp) (by (simp only [go_sem,a1g,a0q,a0f,a1m])<;>simp) (by simp [a2m,apart,toR]) (by simp [a0h,usH,toR]) (by simp [a5z,lkR,toR]) (by simp [tgt,a1z]) (fun s'=>?_)
 exact ⟨rfl,(a1x [])⟩
theorem c7z (i:List Ch) (a:List V) (h:i.length < (i.map (chE 0)++[a]).length):(i.map (chE 0)++[a])[i.length]'h=a:=by simp
theorem e0h (i:List Ch) (a b:List V):(i.map (chE 0)++[a]).set i.length b=i.map (chE 0)++[b]:=by
 rw [List.set_append_right _ _ (by simp)];simp
theorem f3x (lo:Nat) (i:List Ch) (c:Ch) (r:List ByteArray) (hr:a4c r=true) (hrl:r.length≤1000) (ht:i.length≤1000) (hc:c.lines.length≤1000) :
  Tri Tryz.prog 74 [str b1w,.ptr 1 0,.ptr 0 0] [(0,.box [.own 2 0 (i.length+1) 2]),(1,.box [a0e lo r]),(2,.arx 115 2 (i.map (chE 0)++[[i64 c.id,.own 3 0 c.lines.length 1]])),(3,.arr 32 1 (c.lines.map (lnE 0)))]
   (fun _=>.ret (.tup []) [(0,.box [.own 4 0 (i.length+1) 2]),(1,.box [a0e lo []]),(4,.arx 115 2 (i.map (chE 0)++[[i64 c.id,.own 5 0 (c.lines++[r]).length 1]])),(5,.arr 32 1 ((c.lines++[r]).map (lnE 0)))]):=by
 have hW:=a3s lo r hrl
 simp only [hr,if_true] at hW
 unfold b1w
 refine a0d (fun _=>false) Tryz.func74 Tryz.ntmps74 rfl rfl fun G hG hOw hNm=>?_;simp only [go_sem,hG,hOw]
 (repeat' with_reducible first|refine And.intro ?_ ?_|intro _|refine exP ?_ ?_);all_goals try omega
 ·rename_i h;exact absurd h (by decide)
 ·have h0:(0:Int) < ((i.length+1:Nat):Int):=by omega
  have h1:(((i.length+1:Nat):Int) - 1).toNat=i.length:=by omega
  refine a0b [] [] (a0s 111) ?_ (by (simp only [go_sem])<;>simp [h0]) (by (simp only [go_sem,a1g,a0q,a0f,a1m])<;>simp [h0]) (by simp [a0h,usH,toR,h0])
  simp (maxSteps:=2000000) only [go_sem,hG,hOw,h1]
  (repeat' with_reducible first|refine And.intro ?_ ?_|intro _|refine exP ?_ ?_);all_goals try omega
  refine a1w ⟨[1,40,41],[(39,[1])],[39]⟩ [(0,false),(1,false),(2,false),(3,false),(4,false),(5,false),(6,false),(7,false),(8,false),(9,false),(10,false),(11,false)] mixed (by kernel_rfl) ?_
  simp only [a2r,List.getElem?_cons_zero,List.getElem?_cons_succ]
  simp (maxSteps:=2000000) only [go_sem,hG,hOw,c7z,e0h]
  (repeat' with_reducible first|refine And.intro ?_ ?_|intro _|refine exP ?_ ?_);all_goals try omega
  refine ⟨_,a5x [(0,1)] [] (hW) (by (simp only [go_sem])<;>simp) (by (simp only [go_sem,a1g,a0q,a0f,a1m])<;>simp) (by simp [a2m,apart,toR]) (by simp [a0h,usH,toR]) (by simp [a5z,lkR,toR]) rfl (by simp [tgt,a1z]) (by simp [tgt,a1z]) (by simp [upT,a3k,a5w,a1u,usH,lkR,toR,a1z]) (by simp [b2k,usH,tgt,go_sem]) (by simp [a3l,a1u,usH,lkR,toR]) (by simp [a5d,usH]),?_⟩
  simp (maxSteps:=2000000) only [go_sem,hG,hOw,c7z,e0h]
  (repeat' with_reducible first|refine And.intro ?_ ?_|intro _|refine exP ?_ ?_);all_goals try omega
  exact ⟨[(0,some 0),(1,some 1),(4,some 2),(5,some 41)],by (simp only [b1z,go_sem,a1g,a0q,a0f,a1m,apart,a2m,a0h])<;>simp [a8n,c6h,okL,okN,i64,lkR,lnE,a0e]⟩
theorem c6p (lo:Nat) (i:List Ch) (c:Ch) (r:List ByteArray) (hr:a4c r=false) (hrl:r.length≤1000) (ht:i.length≤1000) :
  Tri Tryz.prog 74 [str b1w,.ptr 1 0,.ptr 0 0] [(0,.box [.own 2 0 (i.length+1) 2]),(1,.box [a0e lo r]),(2,.arx 115 2 (i.map (chE 0)++[[i64 c.id,.own 3 0 c.lines.length 1]])),(3,.arr 32 1 (c.lines.map (lnE 0)))]
   (fun _=>.pan (wrV 111) []):=by
 have hW:=a3s lo r hrl
 simp only [hr,Bool.false_eq_true,if_false] at hW
 unfold b1w
 refine a0d (fun _=>false) Tryz.func74 Tryz.ntmps74 rfl rfl fun G hG hOw hNm=>?_;simp only [go_sem,hG,hOw]
 (repeat' with_reducible first|refine And.intro ?_ ?_|intro _|refine exP ?_ ?_);all_goals try omega
 ·rename_i h;exact absurd h (by decide)
 ·have h0:(0:Int) < ((i.length+1:Nat):Int):=by omega
  have h1:(((i.length+1:Nat):Int) - 1).toNat=i.length:=by omega
  refine a0b [] [] (a0s 111) ?_ (by (simp only [go_sem])<;>simp [h0]) (by (simp only [go_sem,a1g,a0q,a0f,a1m])<;>simp [h0]) (by simp [a0h,usH,toR,h0])
  simp (maxSteps:=2000000) only [go_sem,hG,hOw,h1]
  (repeat' with_reducible first|refine And.intro ?_ ?_|intro _|refine exP ?_ ?_);all_goals try omega
  refine c5x ⟨[1,40,41],[(39,[1])],[39]⟩ [0,1,2,3,4,5] 6 (by rfl) (by rfl) mixed (by kernel_rfl) ?_
  simp only [a2r,List.map_cons,List.map_nil,List.getElem?_cons_zero,List.getElem?_cons_succ]
  simp (maxSteps:=2000000) only [go_sem,hG,hOw,f6a,e7j,c7z]
  (repeat' with_reducible first|refine And.intro ?_ ?_|intro _|refine exP ?_ ?_);all_goals try omega
  refine d0t [(0,1)] (hW) (by (simp only [go_sem])<;>simp) (by (simp only [go_sem,a1g,a0q,a0f,a1m])<;>simp) (by simp [a2m,apart,toR]) (by simp [a0h,usH,toR]) (by simp [a5z,lkR,toR]) (by simp [tgt,a1z]) (fun s'=>?_)
  exact ⟨rfl,(a1x [])⟩
theorem c5w (lo:Nat) (r:List ByteArray) :
  Tri Tryz.prog 74 [str b1w,.ptr 1 0,.ptr 0 0] [(0,.box [.own 2 0 0 2]),(1,.box [a0e lo r]),(2,.arx 115 2 []),(3,.arr 32 1 [])]
   (fun _=>.pan (wrV 111) []):=by
 unfold b1w
 refine a0d (fun _=>false) Tryz.func74 Tryz.ntmps74 rfl rfl fun G hG hOw hNm=>?_;simp only [go_sem,hG,hOw]
 (repeat' with_reducible first|refine And.intro ?_ ?_|intro _|refine exP ?_ ?_);all_goals try omega
 ·rename_i h;exact absurd h (by decide)
 ·refine a0b [] [] (a3v 111) ?_
  simp only [go_sem,hG,hOw]
  exact ⟨rfl,(a1x [])⟩
theorem e6n (lo:Nat) (s:ByteArray) (t:List Ch) (r:List ByteArray) (h1:s≠a4i) (h2:s≠b1w) :
  Tri Tryz.prog 74 [str s,.ptr 1 0,.ptr 0 0] [(0,.box [.own 2 0 t.length 2]),(1,.box [a0e lo r]),(2,.arx 115 2 (c5p t 3)),(3,.arr 32 1 ((e2w t).map (lnE 0)))]
   (fun _=>.pan (wrV 111) []):=by
 unfold a4i at h1
 unfold b1w at h2
 refine a0d (fun _=>false) Tryz.func74 Tryz.ntmps74 rfl rfl fun G hG hOw hNm=>?_;simp only [go_sem,hG,hOw]
 (repeat' with_reducible first|refine And.intro ?_ ?_|intro _|refine exP ?_ ?_);all_goals try omega
 ·rename_i h;exact absurd h h1
 ·rename_i h;exact absurd h h2
 ·refine b0m [.int .i64 111] rfl rfl (by kernel_rfl) (by simp [chk,hG]) ?_
  simp only [go_sem,hG,hOw]
  (repeat' with_reducible first|refine And.intro ?_ ?_|intro _|refine exP ?_ ?_);all_goals try omega
  refine a6z rfl rfl ?_
  exact ⟨rfl,(a1x [])⟩
open Go Pm Go.RowKit Go.Sort
set_option maxRecDepth 100000
set_option maxHeartbeats 4000000
def c3s (t:List Ch) (name:ByteArray) (rest:List ByteArray):Option (List Ch×List ByteArray) :=
 if name=a4i then match rest with
  |x::r=>(a3z x).map fun v=>(t++[Ch.mk v []],r)
  |[]=>none
 else if name=b1w then match t.getLast? with
  |some c=>if a4c rest then some (t.dropLast++[Ch.mk c.id (c.lines++[rest])],[]) else none
  |none=>none
 else none
def b1d (t:List Ch) (s:ByteArray):Option (List Ch):=match a2e s with
 |[]=>none
 |name::rest=>match c3s t name rest with
  |some (t',[])=>some t'
  |_=>none
def c1m (t:List Ch):List ByteArray→Option (List Ch)
 |[]=>some t
 |s::l=>(b1d t s).bind fun t'=>c1m t' l
def a7w (l:List ByteArray):Option (List Ch):=c1m [] l
theorem b7q:∀ (l m:List ByteArray) (t:List Ch),c1m t (l++m)=(c1m t l).bind fun t'=>c1m t' m
 |[],m,t=>rfl
 |s::l,m,t=>by
  simp only [List.cons_append,c1m]
  cases b1d t s with
  |none=>rfl
  |some t'=>exact b7q l m t'
theorem b3e (l:List ByteArray) (k:Nat) (hk:k < l.length):a7w (l.take (k+1))=(a7w (l.take k)).bind fun t=>b1d t l[k]:=by
 unfold a7w
 rw [List.take_add_one,List.getElem?_eq_getElem hk,b7q]
 congr 1
 funext t
 simp only [Option.toList,c1m]
 cases b1d t l[k]<;>rfl
theorem c5t {l:List ByteArray} {k:Nat} {t:List Ch} (hk:k < l.length) (h:a7w (l.take k)=some t) (hb:b1d t l[k]=none):a7w l=none:=by
 have h1:a7w (l.take (k+1))=none:=by rw [b3e l k hk,h];exact hb
 have h2:=b7q (l.take (k+1)) (l.drop (k+1)) []
 rw [List.take_append_drop] at h2
 unfold a7w at h1 ⊢
 rw [h2,h1];rfl
def bdT (n:Nat) (t:List Ch):Prop:=t.length≤n∧∀ c ∈ t,c.lines.length≤n
theorem e6h {n:Nat} {t t':List Ch} {name:ByteArray} {rest r':List ByteArray} (h:bdT n t) (hs:c3s t name rest=some (t',r')):bdT (n+1) t':=by
 unfold c3s at hs
 split at hs
 ·cases rest with
  |nil=>cases hs
  |cons x r =>
   simp only [Option.map_eq_some_iff,Prod.mk.injEq] at hs
   obtain ⟨v,_,rfl,_⟩:=hs
   refine ⟨by have:=h.1;simp;omega,fun c hc=>?_⟩
   rcases List.mem_append.1 hc with hc|hc
   ·have:=h.2 c hc;omega
   ·simp at hc;subst hc;simp
 ·split at hs
  ·split at hs
   ·rename_i c hc
    split at hs
    ·simp only [Option.some.injEq,Prod.mk.injEq] at hs
     obtain ⟨rfl,_⟩:=hs
     have hcm:c ∈ t:=List.mem_of_getLast? hc
     refine ⟨by have:=h.1;simp;omega,fun d hd=>?_⟩
     rcases List.mem_append.1 hd with hd|hd
     ·have:=h.2 d ((List.dropLast_sublist t).mem hd);omega
     ·simp at hd;subst hd
      have:=h.2 c hcm
      simp;omega
    ·cases hs
   ·cases hs
  ·cases hs
theorem d1r {l:List ByteArray}:∀ {k:Nat} {t:List Ch},k≤l.length→a7w (l.take k)=some t→bdT k t
 |0,t,_,h=>by
  simp [a7w,c1m] at h
  subst h
  exact ⟨by simp,by simp⟩
 |k+1,t,hk,h=>by
  rw [b3e l k (by omega)] at h
  simp only [Option.bind_eq_some_iff] at h
  obtain ⟨u,h1,h2⟩:=h
  have ih:=d1r (by omega) h1
  unfold b1d at h2
  split at h2
  ·cases h2
  ·split at h2
   ·rename_i hs
    cases h2
    exact e6h ih hs
   ·cases h2
theorem g3i (lo:Nat) (t t':List Ch) (name:ByteArray) (rest r':List ByteArray) (hs:c3s t name rest=some (t',r')) (hl:∀ s ∈ rest,s.size≤100000) (hr:rest.length≤1000) (hb:bdT 1000 t) :
  Tri Tryz.prog 74 [str name,.ptr 1 0,.ptr 0 0] [(0,.box [.own 2 0 t.length 2]),(1,.box [a0e lo rest]),(2,.arx 115 2 (c5p t 3)),(3,.arr 32 1 ((e2w t).map (lnE 0)))]
   (fun _=>.ret (.tup []) [(0,.box [.own 4 0 t'.length 2]),(1,.box [a0e lo r']),(4,.arx 115 2 (c5p t' 5)),(5,.arr 32 1 ((e2w t').map (lnE 0)))]):=by
 unfold c3s at hs
 split at hs
 ·rename_i hn
  subst hn
  cases rest with
  |nil=>cases hs
  |cons x r =>
   simp only [Option.map_eq_some_iff,Prod.mk.injEq] at hs
   obtain ⟨v,hv,rfl,rfl⟩:=hs
   exact d4j lo t r x v (hl x (by simp)) hv hb.1
 ·split at hs
  ·rename_i hn
   subst hn
   rcases a6y t with rfl|⟨i,c,rfl⟩
   ·cases hs
   ·simp only [List.getLast?_append,List.getLast?_singleton,Option.some_or] at hs
    split at hs
    ·rename_i hw
     simp only [Option.some.injEq,Prod.mk.injEq,List.dropLast_concat] at hs
     obtain ⟨rfl,rfl⟩:=hs
     have h1:=hb.1
     have h2:=hb.2 c (by simp)
     have:=f3x lo i c rest hw hr (by simp at h1;omega) h2
     simp only [a5i,a9v,List.length_append,List.length_singleton] at this ⊢
     exact this
    ·cases hs
  ·cases hs
theorem f8k (lo:Nat) (t:List Ch) (name:ByteArray) (rest:List ByteArray) (hs:c3s t name rest=none) (hl:∀ s ∈ rest,s.size≤100000) (hr:rest.length≤1000) (hb:bdT 1000 t) :
  Tri Tryz.prog 74 [str name,.ptr 1 0,.ptr 0 0] [(0,.box [.own 2 0 t.length 2]),(1,.box [a0e lo rest]),(2,.arx 115 2 (c5p t 3)),(3,.arr 32 1 ((e2w t).map (lnE 0)))]
   (fun _=>.pan (wrV 111) []):=by
 unfold c3s at hs
 split at hs
 ·rename_i hn
  subst hn
  refine b7w lo t rest hl fun s r e=>?_
  subst e
  simpa using hs
 ·rename_i hn
  split at hs
  ·rename_i hn
   subst hn
   rcases a6y t with rfl|⟨i,c,rfl⟩
   ·exact c5w lo rest
   ·simp only [List.getLast?_append,List.getLast?_singleton,Option.some_or] at hs
    split at hs
    ·cases hs
    ·rename_i hw
     have h1:=hb.1
     have:=c6p lo i c rest (by simpa using hw) hr (by simp at h1;omega)
     simp only [a5i,a9v,List.length_append,List.length_singleton] at this ⊢
     exact this
  ·rename_i hn2
   exact e6n lo name t rest hn hn2
open Go Pm Go.RowKit Go.Sort
set_option maxRecDepth 100000
set_option maxHeartbeats 4000000
theorem d7u (t:List Ch) (a b:Nat) (ρ:Ren) (h:lkR ρ a=some (some b)):(c5p t a).map (List.map (b5c ρ 4))=c5p t b :=
 e8l t _ (fun _=>rfl) (fun _ _ _=>rfl) fun m=>by simp [b5c,h]
theorem f3g {p:Nat→Bool} {l:Nat} {s:St} {lo n:Nat} (i:List Ch) (r:List (List V)):(i.map (chE lo)++r).map (List.map (vwS p l s (n+1)))=i.map (chE lo)++r.map (List.map (vwS p l s (n+1))):=by
 rw [List.map_append,List.map_map]
 congr 1
theorem f1s (n:Nat) (i:List Ch) (c:Ch):Pm.Sub (.lst n 2 (i.map (chE 0)++[[i64 c.id,.lst n 1 (c.lines.map (lnE 0))]])) (chs 0 (i++[c])):=by
 refine .lst (Nat.zero_le _) (by simp) fun k x x' h1 h2=>?_
 by_cases hk:k < i.length
 ·rw [List.getElem?_append_left (by simpa using hk)] at h1
  rw [List.map_append,List.getElem?_append_left (by simpa using hk),h1] at h2
  cases h2
  exact .refl _
 ·rw [List.getElem?_append_right (by simpa using hk)] at h1
  rw [List.map_append,List.getElem?_append_right (by simpa using hk)] at h2
  rw [List.length_map] at h1 h2
  match hq:k - i.length with
  |0 =>
   rw [hq] at h1 h2
   simp at h1 h2
   subst h1;subst h2
   exact .cons (.refl _) (.cons (Sub.lo (Nat.zero_le _)) .nil)
  |q+1=>rw [hq] at h1;simp at h1
theorem f3m (ty ty1:TypeId) (i:List Ch) (c:Ch) {p:Nat→Bool} {lo:Nat} {s:St} (p100:p 100=true) (p101:p 101=true) (h100:s.hget 100=some (.arx ty 2 (i.map (chE 0)++[[i64 c.id,.own 101 0 c.lines.length 1]]))) (h101:s.hget 101=some (.arr ty1 1 (c.lines.map (lnE 0)))) :
  List.map (vwF p lo s 4) [.own 100 0 (i.length+1) 2]=[.lst lo 2 (i.map (chE 0)++[[i64 c.id,.lst lo 1 (c.lines.map (lnE 0))]])]:=by
 have e1:vwS p lo s 3 (.own 101 0 c.lines.length 1)=.lst lo 1 (c.lines.map (lnE 0)):=by
  rw [vwS,p101,h101]
  simp only [if_true,List.drop_zero]
  rw [List.take_of_length_le (by simp)]
 have e2:vwF p lo s 4 (.own 100 0 (i.length+1) 2)=vwS p lo s 4 (.own 100 0 (i.length+1) 2):=by rw [vwF,p100]
 rw [List.map_cons,List.map_nil,e2,vwS,p100,h100]
 have e3:=f3g (p:=p) (l:=lo) (s:=s) (lo:=0) (n:=2) i [[i64 c.id,.own 101 0 c.lines.length 1]]
 simp only [e3,List.map_cons,List.map_nil,e1,if_true,List.drop_zero]
 have e4:vwS p lo s 3 (i64 c.id)=i64 c.id:=rfl
 rw [e4,List.take_of_length_le (by simp)]
theorem b0j {l:List ByteArray} (h:a1b l=true):l.length≤200∧∀ s ∈ l,s.size≤160:=by
 simp only [a1b,Bool.and_eq_true,decide_eq_true_eq,List.all_eq_true,d5e] at h
 exact ⟨by omega,fun s hs=>by have:=(h.1 s hs).1.2;omega⟩
theorem d7c (l:List ByteArray) (h:a1b l=false):Tri Tryz.prog 73 [a0e 0 l,.fn (.func 74) [.ptr 0 0]] [(0,.box [.v (.slice none 0 0)])] (fun _=>.pan (wrV 110) []):=by
 refine a0d (fun _=>false) Tryz.func73 Tryz.ntmps73 rfl rfl fun G hG hOw hNm=>?_;simp only [go_sem,hG,hOw]
 (repeat' with_reducible first|refine And.intro ?_ ?_|intro _|refine exP ?_ ?_);all_goals try omega
 refine a0a (a3p l) ?_
 rw [h]
 simp only [go_sem,hG,hOw]
 (repeat' with_reducible first|refine And.intro ?_ ?_|intro _|refine exP ?_ ?_);all_goals try omega
 refine a0b [] [] (a3v 110) ?_
 simp only [go_sem,hG,hOw]
 exact ⟨rfl,(a1x [])⟩
theorem c3v (l:List ByteArray) (h:a1b l=true):Tri Tryz.prog 73 [a0e 0 l,.fn (.func 74) [.ptr 0 0]] [(0,.box [.v (.slice none 0 0)])] (fun _=>match a7w l with
  |some t=>.ret (.tup []) [(0,.box [chs 0 t])]
  |none=>.pan (wrV 111) []):=by
 obtain ⟨hl1,hl2⟩:=b0j h
 refine a0d (fun _=>false) Tryz.func73 Tryz.ntmps73 rfl rfl fun G hG hOw hNm=>?_;simp only [go_sem,hG,hOw]
 (repeat' with_reducible first|refine And.intro ?_ ?_|intro _|refine exP ?_ ?_);all_goals try omega
 refine a0a (a3p l) ?_
 rw [h]
 simp only [go_sem,hG,hOw]
 (repeat' with_reducible first|refine And.intro ?_ ?_|intro _|refine exP ?_ ?_);all_goals try omega
 refine a0b [] [] (a0s 110) ?_
 simp only [go_sem,hG,hOw]
 (repeat' with_reducible first|refine And.intro ?_ ?_|intro _|refine exP ?_ ?_);all_goals try omega
 refine a6h (fun t:List Ch=>St.of [] [(0,.box [chs 0 t])]) (fun t=>a7w l=some t) ?_ ?_
 ·refine a0r (fun x:Nat×List Ch=>St.of [(1,.fn (.func 74) [.ptr 0 0]),(11,a0e 0 l),(12,i64 l.length),(13,i64 x.1)] [(0,.box [.own 100 0 x.2.length 2]),(100,.arx 115 2 (c5p x.2 101)),(101,.arr 32 1 ((e2w x.2).map (lnE 0)))]) (fun x=>x.1≤l.length∧a7w (l.take x.1)=some x.2) (fun x=>l.length - x.1) (0,[]) ⟨by simp,by simp [a7w,c1m]⟩ (by simp only [c0v,c0r];exact a2o [(0,some 0),(100,none),(101,none)]) ?_
  rintro ⟨k,t⟩ ⟨hk,hrd⟩
  simp only at hk hrd
  have hbd:=d1r hk hrd
  have hb1000:bdT 1000 t:=⟨by have:=hbd.1;omega,fun c hc=>by have:=hbd.2 c hc;omega⟩
  refine a0l _ _ _ ?_;simp only [go_sem,hG,hOw]
  (repeat' with_reducible first|refine And.intro ?_ ?_|intro _|refine exP ?_ ?_);all_goals try omega
  ·rename_i hlt
   have hkl:k < l.length:=by omega
   have hsz:=hl2 _ (List.getElem_mem hkl)
   refine a0a (b1s l[k] (by omega)) ?_
   obtain ⟨name,rest,hp⟩:∃ name rest,a2e l[k]=name::rest:=by
    cases hq:a2e l[k] with
    |nil=>exact (a9x _ hq).elim
    |cons a b=>exact ⟨a,b,rfl⟩
   have hpl:rest.length≤1000:=by have:=a8k l[k];rw [hp] at this;simp at this;omega
   have hps:∀ s ∈ rest,s.size≤100000:=fun s hs=>by have:=a7f l[k] s (by rw [hp];simp [hs]);omega
   rw [hp]
   simp only [go_sem,hG,hOw]
   (repeat' with_reducible first|refine And.intro ?_ ?_|intro _|refine exP ?_ ?_);all_goals try omega
   refine a0b [(0,20)] [] (a7n G.lo name rest) ?_
   simp only [go_sem,hG,hOw]
   (repeat' with_reducible first|refine And.intro ?_ ?_|intro _|refine exP ?_ ?_);all_goals try omega
   cases hst:c3s t name rest with
   |none =>
    have hno:a7w l=none:=c5t hkl hrd (by unfold b1d;rw [hp];simp only [hst])
    rw [hno]
    refine a0b [(0,0),(1,20),(2,100),(3,101)] [] (f8k G.lo t name rest hst hps hpl hb1000) ?_ (by (simp only [go_sem])<;>simp [a7q,lkR]) (by (simp only [go_sem,a1g,a0q,a0f,a1m])<;>simp [a7q,lkR]) (by simp [a0h,usH,toR,a7q,lkR])
    simp only [go_sem,hG,hOw]
    exact ⟨rfl,(a1x [])⟩
   |some q =>
    obtain ⟨t',r'⟩:=q
    have hrr:=d7u t' 5 205
    refine a0b [(0,0),(1,20),(2,100),(3,101)] [(4,204),(5,205)] (g3i G.lo t t' name rest r' hst hps hpl hb1000) ?_ (by (simp only [go_sem])<;>simp [a7q,lkR]) (by (simp only [go_sem,a1g,a0q,a0f,a1m])<;>simp [a7q,lkR]) (by simp [a0h,usH,toR,a7q,lkR])
    simp (maxSteps:=2000000) only [go_sem,hG,hOw,↓hrr]
    (repeat' with_reducible first|refine And.intro ?_ ?_|intro _|refine exP ?_ ?_);all_goals try omega
    ·rename_i hr0
     have hr0:r'=[]:=List.eq_nil_of_length_eq_zero (by omega)
     subst hr0
     have hsF:b1d t l[k]=some t':=by unfold b1d;rw [hp];simp only [hst]
     exact ⟨(k+1,t'),⟨by show k+1≤_;omega,by rw [b3e l k hkl,hrd];exact hsF⟩,by show l.length - (k+1) < _;omega,a2o [(0,some 0),(100,some 204),(101,some 205)] (by (simp only [go_sem])<;>simp [a7q,lkR]) (by (simp only [go_sem,a1g,a0q,a0f,a1m])<;>simp [a7q,lkR])⟩
    ·rename_i hr0
     have hno:a7w l=none:=c5t hkl hrd (by
      unfold b1d;rw [hp];simp only [hst]
      cases r' with
      |nil=>exact (hr0 rfl).elim
      |cons a b=>rfl)
     rw [hno]
     refine b0m [.int .i64 111] rfl rfl (by kernel_rfl) (by simp [chk,hG]) ?_
     simp only [go_sem,hG,hOw]
     (repeat' with_reducible first|refine And.intro ?_ ?_|intro _|refine exP ?_ ?_);all_goals try omega
     refine a6z rfl rfl ?_
     exact ⟨rfl,(a1x [])⟩
  ·rename_i hge
   obtain rfl:k=l.length:=by omega
   rw [List.take_length] at hrd
   refine ⟨t,hrd,?_⟩
   rcases a6y t with rfl|⟨i,c,rfl⟩
   ·refine a9s (fun i=>i == 100 || i == 101) ?_
    simp only [c0v,c0r]
    have hN:Pm.Sub (.lst G.lo 2 []) (.lst 0 2 []):=Sub.lo (Nat.zero_le _)
    exact a2o [(0,some 0)] (by (simp only [go_sem])<;>simp [hN]) (by (simp only [go_sem,a1g,a0q,a0f,a1m])<;>simp [hN])
   ·have hS:=f1s G.lo i c
    have hS:Pm.Sub (.lst G.lo 2 (List.map (chE 0) i++[[.v (.int .i64 c.id),.lst G.lo 1 (List.map (lnE 0) c.lines)]])) (.lst 0 2 (List.map (chE 0) (i++[c]))):=hS
    have hF:=f3m 115 32 i c (p:=fun i=>i == 100 || i == 101) (lo:=G.lo) (s:=St.of [] [(0,.box [.own 100 0 (i.length+1) 2]),(100,.arx 115 2 (i.map (chE 0)++[[i64 c.id,.own 101 0 c.lines.length 1]])),(101,.arr 32 1 (c.lines.map (lnE 0)))]) rfl rfl rfl rfl
    have hOB:a1m [(0,some 0)] (.box [chs 0 (i++[c])]) (some (.box (List.map (vwF (fun i=>i == 100 || i == 101) G.lo (St.of [] [(0,.box [.own 100 0 (i.length+1) 2]),(100,.arx 115 2 (i.map (chE 0)++[[i64 c.id,.own 101 0 c.lines.length 1]])),(101,.arr 32 1 (c.lines.map (lnE 0)))]) 4) [.own 100 0 (i.length+1) 2]))):=by
     rw [hF]
     exact ⟨.inr ⟨rfl,hS⟩,trivial⟩
    have E3:Ent G (frz (fun i=>i == 100 || i == 101) G.lo (St.of [] [(0,.box [.own 100 0 (i.length+1) 2]),(100,.arx 115 2 (i.map (chE 0)++[[i64 c.id,.own 101 0 c.lines.length 1]])),(101,.arr 32 1 (c.lines.map (lnE 0)))])) (St.of [] [(0,.box [chs 0 (i++[c])])]):=by
     refine a1l [(0,some 0)] (by trivial) (by refine And.intro ?_ trivial;exact hOB) (by simp [a2m,apart]) (by simp [a0h,usH]) (by simp [hNm,lkR,a1c])
    refine fun a w h=>E3 a w (b3o _ a w (?_:Sim _ _ _ _))
    simp only [a5i,a9v,List.length_append,List.length_singleton] at h
    exact (a2o [(0,some 0),(100,some 100),(101,some 101)] (by (simp only [go_sem])<;>simp [a8n,c6h,okL,okN,i64,lkR]) (by (simp only [go_sem,a1g,a0q,a0f,a1m])<;>simp [a8n,c6h,okL,okN,i64,lkR])) a w h
 ·rintro t ht
  rw [ht]
  simp only [go_sem,hG,hOw]
  (repeat' with_reducible first|refine And.intro ?_ ?_|intro _|refine exP ?_ ?_);all_goals try omega
  exact (a1x [(0,some 0)])
open Go Pm Go.RowKit Go.Sort
set_option maxRecDepth 100000
set_option maxHeartbeats 4000000
theorem d4y (l:List ByteArray) (t:List Ch) (h:a1b l=true) (hr:a7w l=some t):Tri Tryz.prog 71 [.ptr 0 0,.ptr 1 0,.ptr 2 0] [(0,.box [i64 0]),(1,.box [a0e 0 l]),(2,.box [.v (.slice none 0 0)])]
  (fun _=>.ret (.tup []) [(0,.box [i64 0]),(1,.box [a0e 0 l]),(2,.box [chs 0 t])]):=by
 have hU:=c3v l h
 simp only [hr] at hU
 refine a4j (fun _=>false) (told:=72) (p:=0) (x:=.int .i64 0) wrV (fun _=>True) Tryz.func71 Tryz.ntmps71 rfl (by kernel_rfl) (by simp) rfl rfl rfl rfl rfl (by simp [a1c]) a5j (fun k _=>a5m k) fun G hG hOw hNm _=>?_
 simp only [go_sem,hG,hOw]
 (repeat' with_reducible first|refine And.intro ?_ ?_|intro _|refine exP ?_ ?_);all_goals try omega
 refine a0b [(0,2)] [] (hU) ?_
 simp (maxSteps:=2000000) only [go_sem,hG,hOw,c1g,c2a]
 (repeat' with_reducible first|refine And.intro ?_ ?_|intro _|refine exP ?_ ?_);all_goals try omega
 exact (a1x [(0,some 0),(1,some 1),(2,some 2)])
theorem c6n (l:List ByteArray) (k:Int) (h:a1b l=false∧k=110∨a1b l=true∧a7w l=none∧k=111):Tri Tryz.prog 71 [.ptr 0 0,.ptr 1 0,.ptr 2 0] [(0,.box [i64 0]),(1,.box [a0e 0 l]),(2,.box [.v (.slice none 0 0)])]
  (fun _=>.ret (.tup []) [(0,.box [i64 k]),(1,.box [a0e 0 l])]):=by
 have hU:Tri Tryz.prog 73 [a0e 0 l,.fn (.func 74) [.ptr 0 0]] [(0,.box [.v (.slice none 0 0)])] (fun _=>.pan (wrV k) []):=by
  rcases h with ⟨h1,rfl⟩|⟨h1,h2,rfl⟩
  ·exact d7c l h1
  ·have:=c3v l h1
   simp only [h2] at this
   exact this
 refine a4j (fun _=>false) (told:=72) (p:=0) (x:=.int .i64 0) wrV (fun _=>True) Tryz.func71 Tryz.ntmps71 rfl (by kernel_rfl) (by simp) rfl rfl rfl rfl rfl (by simp [a1c]) a5j (fun k _=>a5m k) fun G hG hOw hNm _=>?_
 simp only [go_sem,hG,hOw]
 (repeat' with_reducible first|refine And.intro ?_ ?_|intro _|refine exP ?_ ?_);all_goals try omega
 refine a0b [(0,2)] [] (hU) ?_
 simp (maxSteps:=2000000) only [go_sem,hG,hOw,b6c]
 (repeat' with_reducible first|refine And.intro ?_ ?_|intro _|refine exP ?_ ?_);all_goals try omega
 exact ⟨k,rfl,(a1x [(0,some 0),(1,some 1)])⟩
def a8q (l:List ByteArray):List Ch×Int:=if a1b l then match a7w l with
  |some t=>if a2l t then (t,0) else ([],10)
  |none=>([],111)
 else ([],110)
theorem c4s (l:List ByteArray):a0o Tryz.prog 16 [a0e 0 l] (fun _=>.tup [txE 0 (a8q l).1,i64 (a8q l).2]):=by
 by_cases hgood:a1b l=true∧∃ t,a7w l=some t
 ·obtain ⟨h1,t,h2⟩:=hgood
  have e:a8q l=if a2l t then (t,0) else ([],10):=by unfold a8q;simp only [h1,h2,if_true]
  rw [e]
  refine a0c (ow:=fun _=>false) Tryz.func16 Tryz.ntmps16 rfl rfl fun G hG hOw hNm hB=>?_;simp only [go_sem,hG,hOw]
  (repeat' with_reducible first|refine And.intro ?_ ?_|intro _|refine exP ?_ ?_);all_goals try omega
  refine a0b [(0,5),(1,1),(2,4)] [] (d4y l t h1 h2) ?_
  simp only [go_sem,hG,hOw]
  (repeat' with_reducible first|refine And.intro ?_ ?_|intro _|refine exP ?_ ?_);all_goals try omega
  refine a0a (a3q t) ?_
  cases htx:a2l t with
  |false =>
   simp only [go_sem,hG,hOw]
   (repeat' with_reducible first|refine And.intro ?_ ?_|intro _|refine exP ?_ ?_);all_goals try omega
   refine a1w ⟨[2,5],[],[]⟩ [(0,false),(1,false),(2,false),(3,false)] mixed (by kernel_rfl) ?_
   simp only [a2r,List.getElem?_cons_zero,List.getElem?_cons_succ]
   simp only [go_sem,hG,hOw]
   (repeat' with_reducible first|refine And.intro ?_ ?_|intro _|refine exP ?_ ?_);all_goals try omega
   exact Subs.tup (.cons (Subs.agg (.cons (.nil _ _) .nil)) (.cons (.refl _) .nil))
  |true =>
   simp only [go_sem,hG,hOw]
   (repeat' with_reducible first|refine And.intro ?_ ?_|intro _|refine exP ?_ ?_);all_goals try omega
 ·obtain ⟨k,hk,e⟩:∃ k:Int,(a1b l=false∧k=110∨a1b l=true∧a7w l=none∧k=111)∧a8q l=([],k):=by
   cases h1:a1b l with
   |false=>exact ⟨110,.inl ⟨rfl,rfl⟩,by unfold a8q;simp [h1]⟩
   |true =>
    cases h2:a7w l with
    |none=>exact ⟨111,.inr ⟨rfl,rfl,rfl⟩,by unfold a8q;simp [h1,h2]⟩
    |some t=>exact (hgood ⟨h1,t,h2⟩).elim
  have hk0:k≠0:=by rcases hk with ⟨_,rfl⟩|⟨_,_,rfl⟩<;>decide
  rw [e]
  refine a0c (ow:=fun _=>false) Tryz.func16 Tryz.ntmps16 rfl rfl fun G hG hOw hNm hB=>?_;simp only [go_sem,hG,hOw]
  (repeat' with_reducible first|refine And.intro ?_ ?_|intro _|refine exP ?_ ?_);all_goals try omega
  refine a0b [(0,5),(1,1),(2,4)] [] (c6n l k hk) ?_
  simp (maxSteps:=2000000) only [go_sem,hG,hOw,hk0]
  (repeat' with_reducible first|refine And.intro ?_ ?_|intro _|refine exP ?_ ?_);all_goals try omega
  refine a1w ⟨[2,5],[],[]⟩ [(0,false),(1,false),(2,false),(3,false)] mixed (by kernel_rfl) ?_
  simp only [a2r,List.getElem?_cons_zero,List.getElem?_cons_succ]
  simp only [go_sem,hG,hOw]
  (repeat' with_reducible first|refine And.intro ?_ ?_|intro _|refine exP ?_ ?_);all_goals try omega
  exact Subs.tup (.cons (Subs.agg (.cons (.nil _ _) .nil)) (.cons (.refl _) .nil))
end Go.Proofs.YtmjhfccbbfpppaaGreatDoor
