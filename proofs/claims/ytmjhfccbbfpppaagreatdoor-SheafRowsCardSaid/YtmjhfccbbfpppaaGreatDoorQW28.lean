import Derived.Test.YtmjhfccbbfpppaaGreatDoorQW09
import Derived.Test.YtmjhfccbbfpppaaGreatDoorQW12
import Derived.Test.YtmjhfccbbfpppaaGreatDoorQW14
import Derived.Test.YtmjhfccbbfpppaaGreatDoorQW19
import Derived.Test.YtmjhfccbbfpppaaGreatDoorQW20
import Derived.Test.YtmjhfccbbfpppaaGreatDoorQW22
import Derived.Test.YtmjhfccbbfpppaaGreatDoorQW23
namespace Go.Proofs.YtmjhfccbbfpppaaGreatDoor
open Go Pm Go.RowKit
set_option linter.unusedSimpArgs false
set_option linter.unusedVariables false
set_option maxRecDepth 100000
set_option maxHeartbeats 4000000
def wrV (k:Int):Value:=.iface 145 (.agg #[.int .i64 k])
theorem a0s (k:Int):Tri Tryz.prog 76 [bl true,i64 k] [] (fun _=>.ret (.tup []) []):=by
 refine a0d (fun _=>false) Tryz.func76 Tryz.ntmps76 rfl rfl fun G hG hOw hNm=>?_;simp only [go_sem,hG,hOw]
 (repeat' with_reducible first|refine And.intro ?_ ?_|intro _|refine exP ?_ ?_);all_goals try omega
 exact (a1u [])
theorem a3z (k:Int):Tri Tryz.prog 76 [bl false,i64 k] [] (fun _=>.pan (wrV k) []):=by
 refine a0d (fun _=>false) Tryz.func76 Tryz.ntmps76 rfl rfl fun G hG hOw hNm=>?_;simp only [go_sem,hG,hOw]
 (repeat' with_reducible first|refine And.intro ?_ ?_|intro _|refine exP ?_ ?_);all_goals try omega
 refine b1k [.int .i64 k] rfl rfl (by kernel_rfl) (by simp [chk,hG]) ?_
 simp only [go_sem,hG,hOw]
 (repeat' with_reducible first|refine And.intro ?_ ?_|intro _|refine exP ?_ ?_);all_goals try omega
 refine a7k rfl rfl ?_
 simp only [go_sem,hG,hOw]
 exact ⟨rfl,(a1u [])⟩
theorem a5r (k:Int):f8x Tryz.prog 72 [.ptr 0 0] [(0,.box [i64 0])] (.panicking [{ v:=wrV k,recovered:=false }]) (.panicking [{ v:=wrV k,recovered:=true }]) [(0,.box [i64 k])]:=by
 refine b9u _ _ (wrV k) Tryz.func72 Tryz.ntmps72 rfl (by kernel_rfl) (by simp) rfl rfl rfl rfl (by simp) (fun c₀ cs h=>?_) fun G hG hOw hNm=>?_
 ·simp [recoverD,h]
 simp only [go_sem,hG,hOw]
 (repeat' with_reducible first|refine And.intro ?_ ?_|intro _|refine exP ?_ ?_);all_goals try omega
 refine a8t (wrV k) false .eql (.inl ⟨rfl,rfl⟩) rfl rfl (.inr ⟨_,_,rfl⟩) (by kernel_rfl) (by simp [chk,hG]) ?_
 simp only [go_sem,hG,hOw]
 (repeat' with_reducible first|refine And.intro ?_ ?_|intro _|refine exP ?_ ?_);all_goals try omega
 refine d9u [.int .i64 k] rfl rfl (by kernel_rfl) (by simp [chk,hG]) ?_
 simp only [go_sem,hG,hOw]
 (repeat' with_reducible first|refine And.intro ?_ ?_|intro _|refine exP ?_ ?_);all_goals try omega
 exact (a1u [(0,some 0)])
theorem a5w:f8x Tryz.prog 72 [.ptr 0 0] [(0,.box [i64 0])] .returning .returning [(0,.box [i64 0])]:=by
 refine b9u _ _ .nilIface Tryz.func72 Tryz.ntmps72 rfl (by kernel_rfl) (by simp) rfl rfl rfl rfl (by simp) (fun c₀ cs h=>?_) fun G hG hOw hNm=>?_
 ·simp [recoverD,h]
 simp only [go_sem,hG,hOw]
 (repeat' with_reducible first|refine And.intro ?_ ?_|intro _|refine exP ?_ ?_);all_goals try omega
 refine a8t .nilIface true .eql (.inl ⟨rfl,rfl⟩) rfl rfl (.inl rfl) (by kernel_rfl) (by simp [chk,hG]) ?_
 simp only [go_sem,hG,hOw]
 (repeat' with_reducible first|refine And.intro ?_ ?_|intro _|refine exP ?_ ?_);all_goals try omega
 exact (a1u [(0,some 0)])
theorem a8a (lo:Nat) (s:ByteArray) (l:List ByteArray):Tri Tryz.prog 141 [.ptr 0 0] [(0,.box [a0h lo (s::l)])] (fun _=>.ret (.v (.string s)) [(0,.box [a0h lo l])]):=by
 refine a0d (fun _=>false) Tryz.func141 Tryz.ntmps141 rfl rfl fun G hG hOw hNm=>?_;simp only [go_sem,hG,hOw]
 (repeat' with_reducible first|refine And.intro ?_ ?_|intro _|refine exP ?_ ?_);all_goals try omega
 refine a0b [] [] (a0s 111) ?_
 simp (maxSteps:=2000000) only [go_sem,hG,hOw,List.map_cons,List.length_cons,List.getElem_cons_zero]
 (repeat' with_reducible first|refine And.intro ?_ ?_|intro _|refine exP ?_ ?_);all_goals try omega
 exact (a1u [(0,some 0)])
theorem d7m (lo:Nat):Tri Tryz.prog 141 [.ptr 0 0] [(0,.box [a0h lo []])] (fun _=>.pan (wrV 111) []):=by
 refine a0d (fun _=>false) Tryz.func141 Tryz.ntmps141 rfl rfl fun G hG hOw hNm=>?_;simp only [go_sem,hG,hOw]
 (repeat' with_reducible first|refine And.intro ?_ ?_|intro _|refine exP ?_ ?_);all_goals try omega
 refine a0b [] [] (a3z 111) ?_
 simp only [go_sem,hG,hOw]
 exact ⟨rfl,(a1u [])⟩
theorem c4f (b:UInt8):a0p Tryz.prog 144 [.v (.int .u8 b.toNat)] (fun _=>bl (!a1x b)):=by
 refine a0c (ow:=fun _=>false) Tryz.func144 Tryz.ntmps144 rfl rfl fun G hG hOw hNm hB=>?_;simp only [go_sem,hG,hOw]
 (repeat' with_reducible first|refine And.intro ?_ ?_|intro _|refine exP ?_ ?_);all_goals try omega
 ·rename_i h;simp [a1x];intro;omega
 ·rename_i h;simp [a1x];omega
theorem b6a (lo hi n:Int):a0p Tryz.prog 95 [i64 lo,i64 hi,.lst 0 1 [[i64 n]]] (fun _=>bl (inB n lo hi)):=by
 have h:=f7n lo hi [n]
 have e:([n].all fun n=>decide (lo≤n) && decide (n≤hi))=inB n lo hi:=by simp [inB]
 rw [e] at h
 exact h
theorem a7c (lo:Nat) (s:ByteArray) (l:List ByteArray) (h:a1i s=true):Tri Tryz.prog 86 [.ptr 0 0] [(0,.box [a0h lo (s::l)])] (fun _=>.ret (.v (.string s)) [(0,.box [a0h lo l])]):=by
 have h1:inB s.size 1 12=true:=by unfold a1i at h;simp at h;exact h.2
 have h2:(s.data.toList.any fun b=>!a1x b)=false:=by unfold a1i at h;rw [Bool.and_eq_true] at h;rw [List.any_eq_false];intro x hx;have:=List.all_eq_true.1 h.1 x hx;simp [this]
 have h3:s.size≤12:=by simp [inB] at h1;omega
 refine a0d (fun _=>false) Tryz.func86 Tryz.ntmps86 rfl rfl fun G hG hOw hNm=>?_;simp only [go_sem,hG,hOw]
 (repeat' with_reducible first|refine And.intro ?_ ?_|intro _|refine exP ?_ ?_);all_goals try omega
 refine a0b [(0,0)] [] (a8a lo s l) ?_
 simp only [go_sem,hG,hOw]
 (repeat' with_reducible first|refine And.intro ?_ ?_|intro _|refine exP ?_ ?_);all_goals try omega
 refine a0a (b6a 1 12 s.size) ?_
 rw [h1]
 simp only [go_sem,hG,hOw]
 (repeat' with_reducible first|refine And.intro ?_ ?_|intro _|refine exP ?_ ?_);all_goals try omega
 refine a0a (a3o _ [] (fun b=>!a1x b) s.data.toList rfl (fun b _=>c4f b)) ?_
 rw [h2]
 simp only [go_sem,hG,hOw]
 (repeat' with_reducible first|refine And.intro ?_ ?_|intro _|refine exP ?_ ?_);all_goals try omega
 refine a0b [] [] (a0s 111) ?_
 simp only [go_sem,hG,hOw]
 (repeat' with_reducible first|refine And.intro ?_ ?_|intro _|refine exP ?_ ?_);all_goals try omega
 exact (a1u [(0,some 0)])
theorem b1e (lo:Nat) (s:ByteArray) (l:List ByteArray) (h:a1i s=false):Tri Tryz.prog 86 [.ptr 0 0] [(0,.box [a0h lo (s::l)])] (fun _=>.pan (wrV 111) []):=by
 refine a0d (fun _=>false) Tryz.func86 Tryz.ntmps86 rfl rfl fun G hG hOw hNm=>?_;simp only [go_sem,hG,hOw]
 (repeat' with_reducible first|refine And.intro ?_ ?_|intro _|refine exP ?_ ?_);all_goals try omega
 refine a0b [(0,0)] [] (a8a lo s l) ?_
 simp only [go_sem,hG,hOw]
 (repeat' with_reducible first|refine And.intro ?_ ?_|intro _|refine exP ?_ ?_);all_goals try omega
 refine a0a (b6a 1 12 s.size) ?_
 cases h1:inB s.size 1 12 with
 |false =>
  simp only [go_sem,hG,hOw]
  (repeat' with_reducible first|refine And.intro ?_ ?_|intro _|refine exP ?_ ?_);all_goals try omega
  refine a0b [] [] (a3z 111) ?_
  simp only [go_sem,hG,hOw]
  exact ⟨rfl,(a1u [])⟩
 |true =>
  have h2:(s.data.toList.any fun b=>!a1x b)=true:=by unfold a1i at h;rw [h1,Bool.and_true] at h;rw [List.all_eq_false] at h;rw [List.any_eq_true];obtain ⟨x,hx,h⟩:=h;exact ⟨x,hx,by simpa using h⟩
  have h3:s.size≤12:=by simp [inB] at h1;omega
  simp only [go_sem,hG,hOw]
  (repeat' with_reducible first|refine And.intro ?_ ?_|intro _|refine exP ?_ ?_);all_goals try omega
  refine a0a (a3o _ [] (fun b=>!a1x b) s.data.toList rfl (fun b _=>c4f b)) ?_
  rw [h2]
  simp only [go_sem,hG,hOw]
  (repeat' with_reducible first|refine And.intro ?_ ?_|intro _|refine exP ?_ ?_);all_goals try omega
  refine a0b [] [] (a3z 111) ?_
  simp only [go_sem,hG,hOw]
  exact ⟨rfl,(a1u [])⟩
theorem b8p (lo:Nat):Tri Tryz.prog 86 [.ptr 0 0] [(0,.box [a0h lo []])] (fun _=>.pan (wrV 111) []):=by
 refine a0d (fun _=>false) Tryz.func86 Tryz.ntmps86 rfl rfl fun G hG hOw hNm=>?_;simp only [go_sem,hG,hOw]
 (repeat' with_reducible first|refine And.intro ?_ ?_|intro _|refine exP ?_ ?_);all_goals try omega
 refine a0b [(0,0)] [] (d7m lo) ?_
 simp only [go_sem,hG,hOw]
 exact ⟨rfl,(a1u [])⟩
open Go Pm Go.RowKit
set_option maxRecDepth 100000
set_option maxHeartbeats 4000000
theorem a3v (lo:Nat) (l:List ByteArray) (hl:l.length≤1000):Tri Tryz.prog 77 [.ptr 0 0] [(0,.box [a0h lo l])] (fun n=>if a3e l then .ret (a0h n l) [(0,.box [a0h lo []])] else .pan (wrV 111) []):=by
 refine a0d (fun i=>[6].contains i) Tryz.func77 Tryz.ntmps77 rfl rfl fun G hG hOw hNm=>?_;simp only [go_sem,hG,hOw]
 (repeat' with_reducible first|refine And.intro ?_ ?_|intro _|refine exP ?_ ?_);all_goals try omega
 cases l with
 |nil =>
  refine a0b [(0,0)] [] (b8p lo) ?_
  simp only [go_sem,hG,hOw]
  exact ⟨rfl,(a1u [])⟩
 |cons s r =>
  cases hs:a1i s with
  |false =>
   rw [show a3e (s::r)=false by simp [a3e,hs]]
   refine a0b [(0,0)] [] (b1e lo s r hs) ?_
   simp only [go_sem,hG,hOw]
   exact ⟨rfl,(a1u [])⟩
  |true =>
   refine a0b [(0,0)] [] (a7c lo s r hs) ?_
   simp only [go_sem,hG,hOw]
   (repeat' with_reducible first|refine And.intro ?_ ?_|intro _|refine exP ?_ ?_);all_goals try omega
   obtain ⟨l,hl'⟩:∃ l,l=s::r:=⟨_,rfl⟩
   rw [← hl'] at hl
   rw [← hl']
   refine a3l (fun _:Unit=>St.of [(0,.ptr 0 0),(3,a0h G.lo l)] [(0,.box [a0h lo []])]) (fun _=>l.all a1i=true) ?_ ?_
   ·refine a0n (fun k:Nat=>St.of [(0,.ptr 0 0),(3,.own 9 0 k 1)] [(0,.box [a0h lo (l.drop k)]),(9,.arr 9 1 ((l.take k).map a2j))]) (fun k=>1≤k∧k≤l.length∧(l.take k).all a1i=true) (fun k=>l.length - k) 1 ⟨by omega,by simp [hl'],by simp [hl',hs]⟩ (by subst hl';exact a2r [(0,some 0),(9,some 6)]) ?_
    rintro k ⟨h1,h2,h3⟩
    refine a0g _ _ _ ?_;simp only [go_sem,hG,hOw]
    (repeat' with_reducible first|refine And.intro ?_ ?_|intro _|refine exP ?_ ?_);all_goals try omega
    ·rename_i hlt
     have hk:k < l.length:=by simp at hlt;omega
     rw [List.drop_eq_getElem_cons hk]
     cases hw:a1i l[k] with
     |false =>
      refine a0b [(0,0)] [] (b1e lo l[k] (l.drop (k+1)) hw) ?_
      simp only [go_sem,hG,hOw]
      rw [if_neg (by simp [a3e];intro _;exact ⟨_,List.getElem_mem hk,hw⟩)]
      exact ⟨rfl,(a1u [])⟩
     |true =>
      refine a0b [(0,0)] [] (a7c lo l[k] (l.drop (k+1)) hw) ?_
      simp only [go_sem,hG,hOw]
      (repeat' with_reducible first|refine And.intro ?_ ?_|intro _|refine exP ?_ ?_);all_goals try omega
      refine ⟨k+1,⟨by omega,by omega,a0u hk h3 hw⟩,by omega,?_⟩
      exact a2r [(0,some 0),(9,some 17)] (by (simp only [go_sem])<;>simp [a2x a2j l k hk,a2j,Nat.min_eq_left h2]) (by (simp only [go_sem,a1f,a0q,a0e,a1l])<;>simp [a2x a2j l k hk,a2j,Nat.min_eq_left h2])
    ·rename_i hlt
     have hk:k=l.length:=by simp at hlt;omega
     subst hk
     rw [List.take_length] at h3
     rw [List.take_length,List.drop_length]
     exact ⟨(),h3,fun a w h=>(a2r [(0,some 0)]) a w (b4b (fun i=>i == 9) a w h)⟩
   ·rintro _ hall
    subst hl'
    rw [if_pos (by unfold a3e;rw [hall];simp)]
    simp only [go_sem,hG,hOw]
    (repeat' with_reducible first|refine And.intro ?_ ?_|intro _|refine exP ?_ ?_);all_goals try omega
    exact ⟨[(0,some 0)],by (simp only [b3z,go_sem,a1f,a0q,a0e,a1l,apart,a2s,a0f])<;>simp [a2j]⟩
open Go Pm Go.RowKit
set_option maxRecDepth 100000
set_option maxHeartbeats 4000000
theorem c1h (lo:Nat):Tri Tryz.prog 75 [.ptr 0 0] [(0,.box [a0h lo []])] (fun _=>.pan (wrV 111) []):=by
 refine a0d (fun _=>false) Tryz.func75 Tryz.ntmps75 rfl rfl fun G hG hOw hNm=>?_;simp only [go_sem,hG,hOw]
 (repeat' with_reducible first|refine And.intro ?_ ?_|intro _|refine exP ?_ ?_);all_goals try omega
 refine a0b [(0,0)] [] (d7m lo) ?_
 simp only [go_sem,hG,hOw]
 exact ⟨rfl,(a1u [])⟩
theorem a8s (lo:Nat) (s:ByteArray) (l:List ByteArray) (v:Int) (hs:s.size≤100000) (h:a3q s=some v):Tri Tryz.prog 75 [.ptr 0 0] [(0,.box [a0h lo (s::l)])] (fun _=>.ret (i64 v) [(0,.box [a0h lo l])]):=by
 obtain ⟨h1,h2,h3,h4⟩:=b0w h
 have hin:inB v 0 9999=true:=by simp [inB,h2,h3]
 have hnb:a1v v=s:=by rw [a1v,h1,b7t]
 refine a0d (fun _=>false) Tryz.func75 Tryz.ntmps75 rfl rfl fun G hG hOw hNm=>?_;simp only [go_sem,hG,hOw]
 (repeat' with_reducible first|refine And.intro ?_ ?_|intro _|refine exP ?_ ?_);all_goals try omega
 refine a0b [(0,0)] [] (a8a lo s l) ?_
 simp only [go_sem,hG,hOw]
 (repeat' with_reducible first|refine And.intro ?_ ?_|intro _|refine exP ?_ ?_);all_goals try omega
 refine a0a (d1i s hs v h4) ?_
 simp only [go_sem,hG,hOw]
 (repeat' with_reducible first|refine And.intro ?_ ?_|intro _|refine exP ?_ ?_);all_goals try omega
 refine a8t .nilIface true .eql (.inl ⟨rfl,rfl⟩) rfl rfl (.inl rfl) (by kernel_rfl) (by simp [chk,hG]) ?_
 simp only [go_sem,hG,hOw]
 (repeat' with_reducible first|refine And.intro ?_ ?_|intro _|refine exP ?_ ?_);all_goals try omega
 refine a0a (b6a 0 9999 v) ?_
 rw [hin]
 simp only [go_sem,hG,hOw]
 (repeat' with_reducible first|refine And.intro ?_ ?_|intro _|refine exP ?_ ?_);all_goals try omega
 refine a0a (a5g v h2 h3) ?_
 rw [hnb]
 simp only [go_sem,hG,hOw]
 (repeat' with_reducible first|refine And.intro ?_ ?_|intro _|refine exP ?_ ?_);all_goals try omega
 refine a0b [] [] (a0s 111) ?_
 simp only [go_sem,hG,hOw]
 (repeat' with_reducible first|refine And.intro ?_ ?_|intro _|refine exP ?_ ?_);all_goals try omega
 exact (a1u [(0,some 0)])
theorem c0z (lo:Nat) (s:ByteArray) (l:List ByteArray) (hs:s.size≤100000) (h:a3q s=none):Tri Tryz.prog 75 [.ptr 0 0] [(0,.box [a0h lo (s::l)])] (fun _=>.pan (wrV 111) []):=by
 refine a0d (fun _=>false) Tryz.func75 Tryz.ntmps75 rfl rfl fun G hG hOw hNm=>?_;simp only [go_sem,hG,hOw]
 (repeat' with_reducible first|refine And.intro ?_ ?_|intro _|refine exP ?_ ?_);all_goals try omega
 refine a0b [(0,0)] [] (a8a lo s l) ?_
 simp only [go_sem,hG,hOw]
 (repeat' with_reducible first|refine And.intro ?_ ?_|intro _|refine exP ?_ ?_);all_goals try omega
 by_cases ha:∃ v,Lib.atoiAll s.data.toList=.ok v
 ·obtain ⟨v,hv⟩:=ha
  have hno:¬ (inB v 0 9999=true∧a1v v=s):=by
   rcases e5o s v hv with q|q
   ·rw [h] at q;cases q.2
   ·exact q.1
  refine a0a (d1i s hs v hv) ?_
  simp only [go_sem,hG,hOw]
  (repeat' with_reducible first|refine And.intro ?_ ?_|intro _|refine exP ?_ ?_);all_goals try omega
  refine a8t .nilIface true .eql (.inl ⟨rfl,rfl⟩) rfl rfl (.inl rfl) (by kernel_rfl) (by simp [chk,hG]) ?_
  simp only [go_sem,hG,hOw]
  (repeat' with_reducible first|refine And.intro ?_ ?_|intro _|refine exP ?_ ?_);all_goals try omega
  refine a0a (b6a 0 9999 v) ?_
  cases hin:inB v 0 9999 with
  |false =>
   simp only [go_sem,hG,hOw]
   (repeat' with_reducible first|refine And.intro ?_ ?_|intro _|refine exP ?_ ?_);all_goals try omega
   refine a0b [] [] (a3z 111) ?_
   simp only [go_sem,hG,hOw]
   exact ⟨rfl,(a1u [])⟩
  |true =>
   have hb:0≤v∧v≤9999:=by simpa [inB] using hin
   simp only [go_sem,hG,hOw]
   (repeat' with_reducible first|refine And.intro ?_ ?_|intro _|refine exP ?_ ?_);all_goals try omega
   refine a0a (a5g v hb.1 hb.2) ?_
   have hne:a1v v≠s:=fun e=>hno ⟨hin,e⟩
   simp (maxSteps:=2000000) only [go_sem,hG,hOw,hne]
   (repeat' with_reducible first|refine And.intro ?_ ?_|intro _|refine exP ?_ ?_);all_goals try omega
   refine a0b [] [] (a3z 111) ?_
   simp only [go_sem,hG,hOw]
   exact ⟨rfl,(a1u [])⟩
 ·have ha':∀ v,Lib.atoiAll s.data.toList≠.ok v:=fun v hv=>ha ⟨v,hv⟩
  refine e5x (f5m s hs ha') (by first|exact Subs.refl _|(repeat' (first|exact Subs.nil|exact Sub.refl _|exact Sub.lo (Nat.zero_le _)|refine Subs.cons ?_ ?_|refine Subs.agg ?_|refine Subs.fp ?_|refine Subs.tup ?_|refine Sub.map (Nat.zero_le _) (fun _=>?_)))) (by first|rfl|simp [b2c,b5r,pureV,pure0, *]) (by simp [chk,hG]) ?_
  rintro _ ⟨n,t,p,rfl⟩
  simp only [go_sem,hG,hOw]
  (repeat' with_reducible first|refine And.intro ?_ ?_|intro _|refine exP ?_ ?_);all_goals try omega
  refine a8t (.iface t p) false .eql (.inl ⟨rfl,rfl⟩) rfl rfl (.inr ⟨_,_,rfl⟩) (by kernel_rfl) (by simp [chk,hG]) ?_
  simp only [go_sem,hG,hOw]
  (repeat' with_reducible first|refine And.intro ?_ ?_|intro _|refine exP ?_ ?_);all_goals try omega
  refine a0b [] [] (a3z 111) ?_
  simp only [go_sem,hG,hOw]
  exact ⟨rfl,(a1u [])⟩
theorem b4u (lo:Nat) (l:List ByteArray) (hl:∀ s ∈ l,s.size≤100000) (h:∀ s r,l=s::r→a3q s=none):Tri Tryz.prog 75 [.ptr 0 0] [(0,.box [a0h lo l])] (fun _=>.pan (wrV 111) []):=by
 cases l with
 |nil=>exact c1h lo
 |cons s r=>exact c0z lo s r (hl s (by simp)) (h s r rfl)
def nvS (l:List ByteArray) (j:Nat):Int:=(a3q (l.getD j ByteArray.empty)).getD 0
def c5j (l:List ByteArray) (j:Nat):Bool:=decide (j < l.length) && (a3q (l.getD j ByteArray.empty)).isSome
def a2t (l:List ByteArray):Bool:=c5j l 0 && c5j l 1 && c5j l 2
theorem f2g {l:List ByteArray} {j:Nat} (h:c5j l j=true):∃ hj:j < l.length,a3q l[j]=some (nvS l j):=by
 simp only [c5j,Bool.and_eq_true,decide_eq_true_eq] at h
 obtain ⟨hj,h2⟩:=h
 have e:l.getD j ByteArray.empty=l[j]:=by simp [List.getD,hj]
 rw [e] at h2
 refine ⟨hj,?_⟩
 unfold nvS
 rw [e]
 cases hv:a3q l[j] with
 |none=>rw [hv] at h2;cases h2
 |some v=>rfl
theorem f7j {l:List ByteArray} {j:Nat} (h:c5j l j=false):∀ s r,l.drop j=s::r→a3q s=none:=by
 intro s r e
 have hj:j < l.length:=by
  rcases Nat.lt_or_ge j l.length with q|q
  ·exact q
  ·rw [List.drop_eq_nil_of_le q] at e;cases e
 have e1:s=l[j]:=by rw [List.drop_eq_getElem_cons hj] at e;exact (List.cons.inj e).1.symm
 simp only [c5j,hj,decide_true,Bool.true_and] at h
 have e2:l.getD j ByteArray.empty=l[j]:=by simp [List.getD,hj]
 rw [e2,← e1] at h
 cases hv:a3q s with
 |none=>rfl
 |some v=>rw [hv] at h;cases h
theorem b6u (lo:Nat) (l:List ByteArray) (j:Nat) (hl:∀ s ∈ l,s.size≤100000) (h:c5j l j=true):Tri Tryz.prog 75 [.ptr 0 0] [(0,.box [a0h lo (l.drop j)])] (fun _=>.ret (i64 (nvS l j)) [(0,.box [a0h lo (l.drop (j+1))])]):=by
 obtain ⟨hj,hv⟩:=f2g h
 rw [List.drop_eq_getElem_cons hj]
 exact a8s lo l[j] (l.drop (j+1)) (nvS l j) (hl _ (List.getElem_mem hj)) hv
theorem b4q (lo:Nat) (l:List ByteArray) (j:Nat) (hl:∀ s ∈ l,s.size≤100000) (h:c5j l j=false):Tri Tryz.prog 75 [.ptr 0 0] [(0,.box [a0h lo (l.drop j)])] (fun _=>.pan (wrV 111) []) :=
 b4u lo (l.drop j) (fun s hs=>hl s (List.mem_of_mem_drop hs)) (f7j h)
def plK (l:List ByteArray):Nat→List V
 |0=>[i64 0,i64 0,i64 0]
 |1=>[i64 (nvS l 0),i64 0,i64 0]
 |2=>[i64 (nvS l 0),i64 (nvS l 1),i64 0]
 |_=>[i64 (nvS l 0),i64 (nvS l 1),i64 (nvS l 2)]
theorem g6d (l:List ByteArray):plK l 0=[i64 0,i64 0,i64 0]:=rfl
theorem g6g (l:List ByteArray):plK l 1=[i64 (nvS l 0),i64 0,i64 0]:=rfl
theorem g6n (l:List ByteArray):plK l 2=[i64 (nvS l 0),i64 (nvS l 1),i64 0]:=rfl
theorem g6i (l:List ByteArray):plK l 3=[i64 (nvS l 0),i64 (nvS l 1),i64 (nvS l 2)]:=rfl
attribute [go_sem] g6d g6g g6n g6i
theorem a2p (lo:Nat) (l:List ByteArray) (hl:∀ s ∈ l,s.size≤100000):Tri Tryz.prog 85 [.ptr 0 0] [(0,.box [a0h lo l])] (fun _=>if a2t l then .ret (.agg (plK l 3)) [(0,.box [a0h lo (l.drop 3)])] else .pan (wrV 111) []):=by
 refine a0d (fun i=>[9].contains i) Tryz.func85 Tryz.ntmps85 rfl rfl fun G hG hOw hNm=>?_;simp only [go_sem,hG,hOw]
 (repeat' with_reducible first|refine And.intro ?_ ?_|intro _|refine exP ?_ ?_);all_goals try omega
 have c0:((0:Nat):Int)=0:=rfl
 have c1:((1:Nat):Int)=1:=rfl
 have c2:((2:Nat):Int)=2:=rfl
 have c3:((3:Nat):Int)=3:=rfl
 have i1:Int.toNat 1=1:=rfl
 have i2:Int.toNat 2=2:=rfl
 refine a0n (fun k:Nat=>St.of [(0,.ptr 0 0),(2,.ptr 2 0),(3,.ptr 3 0),(9,.own 9 0 3 1),(10,i64 3),(11,i64 k)] [(0,.box [a0h lo (l.drop k)]),(2,.box [i64 0,i64 0,i64 0]),(3,.box (plK l k)),(9,.box [.ptr 3 0,.ptr 3 1,.ptr 3 2])]) (fun k=>k≤3∧(0 < k→c5j l 0=true)∧(1 < k→c5j l 1=true)∧(2 < k→c5j l 2=true)) (fun k=>3 - k) 0 (by simp) (by simp only [List.drop_zero];exact a2r [(0,some 0),(2,some 2),(3,some 3),(9,some 9)]) ?_
 rintro k ⟨hk,h1,h2,h3⟩
 have hk4:k=0∨k=1∨k=2∨k=3:=by omega
 rcases hk4 with rfl|rfl|rfl|rfl
 all_goals skip
 ·refine a0g _ _ _ ?_
  simp (maxSteps:=2000000) only [go_sem,hG,hOw,c0,c1,c2,c3,i1,i2,List.getElem_cons_zero,List.getElem_cons_succ]
  (repeat' with_reducible first|refine And.intro ?_ ?_|intro _|refine exP ?_ ?_);all_goals try omega
  cases ho:c5j l 0 with
  |false =>
   have hbad:a2t l=false:=by unfold a2t;rw [ho];simp
   rw [hbad]
   have hU:=b4q lo l 0 hl ho
   rw [List.drop_zero] at hU
   refine a0b [(0,0)] [] (hU) ?_
   simp only [go_sem,hG,hOw]
   exact ⟨rfl,(a1u [])⟩
  |true =>
   have hU:=b6u lo l 0 hl ho
   rw [List.drop_zero] at hU
   refine a0b [(0,0)] [] (hU) ?_
   simp only [go_sem,hG,hOw]
   (repeat' with_reducible first|refine And.intro ?_ ?_|intro _|refine exP ?_ ?_);all_goals try omega
   exact ⟨1,(by simp [ho]),by omega,a2r [(0,some 0),(2,some 2),(3,some 3),(9,some 9)]⟩
 ·refine a0g _ _ _ ?_
  simp (maxSteps:=2000000) only [go_sem,hG,hOw,c0,c1,c2,c3,i1,i2,List.getElem_cons_zero,List.getElem_cons_succ]
  (repeat' with_reducible first|refine And.intro ?_ ?_|intro _|refine exP ?_ ?_);all_goals try omega
  cases ho:c5j l 1 with
  |false =>
   have hbad:a2t l=false:=by unfold a2t;rw [ho];simp
   rw [hbad]
   have hU:=b4q lo l 1 hl ho
   skip
   refine a0b [(0,0)] [] (hU) ?_
   simp only [go_sem,hG,hOw]
   exact ⟨rfl,(a1u [])⟩
  |true =>
   have hU:=b6u lo l 1 hl ho
   skip
   refine a0b [(0,0)] [] (hU) ?_
   simp only [go_sem,hG,hOw]
   (repeat' with_reducible first|refine And.intro ?_ ?_|intro _|refine exP ?_ ?_);all_goals try omega
   have h1':=h1 (by omega)
   exact ⟨2,(by simp [ho,h1']),by omega,a2r [(0,some 0),(2,some 2),(3,some 3),(9,some 9)]⟩
 ·refine a0g _ _ _ ?_
  simp (maxSteps:=2000000) only [go_sem,hG,hOw,c0,c1,c2,c3,i1,i2,List.getElem_cons_zero,List.getElem_cons_succ]
  (repeat' with_reducible first|refine And.intro ?_ ?_|intro _|refine exP ?_ ?_);all_goals try omega
  cases ho:c5j l 2 with
  |false =>
   have hbad:a2t l=false:=by unfold a2t;rw [ho];simp
   rw [hbad]
   have hU:=b4q lo l 2 hl ho
   skip
   refine a0b [(0,0)] [] (hU) ?_
   simp only [go_sem,hG,hOw]
   exact ⟨rfl,(a1u [])⟩
  |true =>
   have hU:=b6u lo l 2 hl ho
   skip
   refine a0b [(0,0)] [] (hU) ?_
   simp only [go_sem,hG,hOw]
   (repeat' with_reducible first|refine And.intro ?_ ?_|intro _|refine exP ?_ ?_);all_goals try omega
   have h1':=h1 (by omega)
   have h2':=h2 (by omega)
   exact ⟨3,(by simp [ho,h1',h2']),by omega,a2r [(0,some 0),(2,some 2),(3,some 3),(9,some 9)]⟩
 ·have hok:a2t l=true:=by unfold a2t;rw [h1 (by omega),h2 (by omega),h3 (by omega)];rfl
  rw [if_pos hok]
  refine a0g _ _ _ ?_
  simp (maxSteps:=2000000) only [go_sem,hG,hOw,c0,c1,c2,c3,i1,i2,List.getElem_cons_zero,List.getElem_cons_succ]
  (repeat' with_reducible first|refine And.intro ?_ ?_|intro _|refine exP ?_ ?_);all_goals try omega
  exact (a1u [(0,some 0)])
open Go Pm Go.RowKit Go.Sort
set_option maxRecDepth 100000
set_option maxHeartbeats 4000000
def c7s (l:List ByteArray):List V:=l.map fun s=>.v (.string s)
theorem e8x:c7s []=[]:=rfl
theorem d8t (s:ByteArray) (l:List ByteArray):c7s (s::l)=.v (.string s)::c7s l:=rfl
attribute [go_sem] e8x d8t
theorem a8i {B b:Nat} {w0:World} (hb:B≤b):∀ (vs:List Value) (o:Nat) (w:World),Below B w0 w→Below B w0 (w.setCells b o vs)
 |[],_,_,h=>h
 |v::r,o,w,h=>a8i hb r (o+1) _ (h.setCell (p:=⟨b,o,none⟩) hb v)
theorem e0j (n:Nat):(Builtin.zeroCells (Value.string ⟨#[]⟩).cells n).size=n:=by simp [Builtin.zeroCells,Value.cells]
def f6o (w:World) (cap:Nat) (x:Value) (cs:List Value):World :=
 (((w.alloc (.cells ((cs.take 0).toArray++Builtin.zeroCells (Value.string ⟨#[]⟩).cells (cs.length+1 - 0)++Builtin.zeroCells (Value.string ⟨#[]⟩).cells (cap - (cs.length+1))) 9)).drew.setCells w.heap.size 0 [x]).drew).setCells w.heap.size (0+1) (cs.drop 0)
theorem f7i (w:World) (cap:Nat) (x:ByteArray) (cs:List ByteArray) :
  Below w.heap.size w (f6o w cap (.string x) (cs.map .string))∧w.heap.size < (f6o w cap (.string x) (cs.map .string)).heap.size∧∀ j v,(x::cs)[j]? = some v→b8f (f6o w cap (.string x) (cs.map .string)) ⟨w.heap.size,j,none⟩ (.string v):=by
 have hb1:Below w.heap.size w (w.alloc (.cells ((([]:List Value)).toArray++Builtin.zeroCells (Value.string ⟨#[]⟩).cells (cs.length+1 - 0)++Builtin.zeroCells (Value.string ⟨#[]⟩).cells (cap - (cs.length+1))) 9)):=(Below.refl _ w).alloc (Nat.le_refl _) _
 have e0:f6o w cap (.string x) (cs.map .string)=((((w.alloc (.cells ((([]:List Value)).toArray++Builtin.zeroCells (Value.string ⟨#[]⟩).cells (cs.length+1 - 0)++Builtin.zeroCells (Value.string ⟨#[]⟩).cells (cap - (cs.length+1))) 9)).drew.setCells w.heap.size 0 [.string x]).drew).setCells w.heap.size (0+1) (cs.map .string)):=by
  unfold f6o;rw [List.length_map,List.take_zero,List.drop_zero]
 rw [e0]
 generalize hA:(([]:List Value)).toArray++Builtin.zeroCells (Value.string ⟨#[]⟩).cells (cs.length+1 - 0)++Builtin.zeroCells (Value.string ⟨#[]⟩).cells (cap - (cs.length+1))=A at *
 have hAs:cs.length+1≤A.size:=by rw [← hA,Array.size_append,Array.size_append,e0j,e0j];simp
 have hw1:(w.alloc (.cells A 9)).heap[w.heap.size]? = some (.cells A 9 (0,0)):=a5z w _
 generalize hW:w.alloc (.cells A 9)=W at *
 have hcell:∀ j,j < A.size→(W.cell? ⟨w.heap.size,j,none⟩).isSome=true:=fun j hj=>by rw [cell_of_row _ _ _ _ _ _ hw1];simp [hj]
 have hfr:∀ j,W.frozen? ⟨w.heap.size,j,none⟩=false:=fun j=>by simp [World.frozen?,hw1]
 have hB:Below w.heap.size w (((W.drew.setCells w.heap.size 0 [.string x]).drew).setCells w.heap.size (0+1) (cs.map .string)):=a8i (Nat.le_refl _) _ _ _ (a8i (Nat.le_refl _) _ _ _ hb1.drew).drew
 have hcell2:∀ j,j < A.size→((W.drew.setCells w.heap.size 0 [Value.string x]).drew.cell? ⟨w.heap.size,j,none⟩).isSome=true:=fun j hj=>by
  show ((W.drew.setCells w.heap.size 0 [Value.string x]).cell? ⟨w.heap.size,j,none⟩).isSome=true
  cases j with
  |zero =>
   have:=World.cell?_setCells_in w.heap.size [Value.string x] 0 W.drew (fun j hj=>by simp at hj;subst hj;exact hcell 0 (by omega)) 0 (by simp)
   simp only [Nat.zero_add] at this
   rw [this];rfl
  |succ j =>
   rw [World.cell?_setCells_out w.heap.size [Value.string x] 0 W.drew _ (fun _ _=>.inr (by simp))]
   exact hcell (j+1) hj
 refine ⟨hB,?_,fun j v hv=>⟨?_,fun _=>?_⟩⟩
 ·have h1:((((W.drew.setCells w.heap.size 0 [.string x]).drew).setCells w.heap.size (0+1) (cs.map .string)).cell? ⟨w.heap.size,0,none⟩).isSome=true:=by
   rw [World.cell?_setCells_out w.heap.size _ (0+1) _ _ (fun _ _=>.inl (by simp))]
   exact hcell2 0 (by omega)
  obtain ⟨u,hu⟩:=Option.isSome_iff_exists.1 h1
  exact Lib.lt_of_cell hu
 ·cases j with
  |zero =>
   simp at hv;subst hv
   rw [World.cell?_setCells_out w.heap.size _ (0+1) _ _ (fun _ _=>.inl (by simp))]
   show (W.drew.setCells w.heap.size 0 [Value.string x]).cell? ⟨w.heap.size,0,none⟩=_
   have:=World.cell?_setCells_in w.heap.size [Value.string x] 0 W.drew (fun j hj=>by simp at hj;subst hj;exact hcell 0 (by omega)) 0 (by simp)
   simpa using this
  |succ j =>
   simp at hv
   have hj:j < cs.length:=(List.getElem?_eq_some_iff.1 hv).1
   have hvj:cs[j]=v:=(List.getElem?_eq_some_iff.1 hv).2
   have:=World.cell?_setCells_in w.heap.size (cs.map Value.string) (0+1) (W.drew.setCells w.heap.size 0 [Value.string x]).drew (fun i hi=>hcell2 _ (by simp at hi;omega)) j (by simpa using hj)
   rw [show j+1=0+1+j by omega,this]
   simp [hvj]
 ·rw [World.frozen?_setCells]
  show (W.drew.setCells w.heap.size 0 [Value.string x]).frozen? _=false
  rw [World.frozen?_setCells]
  exact hfr j
theorem c7x {G:Gh} {o:Oper} {s:St} {Q:Exit→St→Prop} {rest:St→Prop} (id lo':Nat) (cs:List ByteArray) (x:ByteArray) (hb:s.hget id=some (.box (c7s cs))) (hne:0 < cs.length) (hl:cs.length≤1000) (hc:chk G.n o.dst)
  (h:rest (a4u s o.dst (a0h G.lo (x::cs)))):a4i Tryz.prog G o s Q rest (.fn (.func 134) []) [.own id 0 cs.length 1,i64 0,a0h lo' [x]]:=by
 rintro xo l ts ho hx has a w ⟨E,hE⟩
 obtain ⟨ys,hy,hsz,hr⟩:=R.fn_inv (a2f hE hx.symm)
 have hl3:l.length=3:=by have:=congrArg List.length has;simpa using this.symm
 match l,hl3,has with
 |[o1,o2,o3],_,has =>
  simp only [List.map_cons,List.map_nil,List.cons.injEq,and_true] at has
  obtain ⟨e1,e2,e3⟩:=has
  have q2:=R.v_inv (a2f hE e2.symm)
  obtain ⟨b,K,C,hEi,hle,hKC,hv⟩:=R.own_inv (a2f hE e1.symm)
  obtain ⟨b1,K1,C1,h1,b',zs,t,hb',hh,hzs,hK,hKC',hrr⟩:=hE.hp id _ hb
  rw [hEi] at h1
  cases h1
  cases hb'
  have hcl:(c7s cs).length=cs.length:=by simp [c7s]
  obtain ⟨o',ho',hy1⟩:=hv
  have ho0:o'=0:=by rw [ho' (.inr rfl)]
  subst ho0
  have hC:C - 0=cs.length:=by omega
  rw [hC] at hy1
  have q3:=(a2f hE e3.symm).pure0 rfl
  generalize hY3:a.eval o3=y3 at q3
  cases q3 with
  |lst _ _ _ ad n3 cap3 b3 of3 g3 hlo3 hn3 hc3 hl3' ha3 hs3 hz3 hr3 =>
  simp only [List.map_cons,List.map_nil,List.length_cons,List.length_nil] at hn3
  subst hn3
  obtain ⟨rfl,hO3,hb3⟩:=ha3 (by simp)
  have hg3:g3 0 0=.string x:=by
   have:=hr3 0 [.v (.string x)] 0 (.v (.string x)) rfl rfl
   generalize g3 0 0=z at this
   cases this;rfl
  have hcell3:w.cell? ⟨b3,of3,none⟩=some (.string x):=by
   have:=(hs3 0 [.v (.string x)] 0 (.v (.string x)) rfl rfl).1
   rw [hg3] at this
   simpa using this
  have hzcell:∀ j v,(cs.map Value.string)[j]? = some v→w.cell? ⟨b',0+j,none⟩=some v:=fun j v hj=>by
   simp only [List.getElem?_map,Option.map_eq_some_iff] at hj
   obtain ⟨c,hcj,rfl⟩:=hj
   have hjl:j < cs.length:=(List.getElem?_eq_some_iff.1 hcj).1
   rw [cell_of_row _ _ _ _ _ _ hh,Nat.zero_add]
   have hjz:j < zs.size:=by omega
   have hz:zs[j]? = some zs[j]:=Array.getElem?_eq_getElem hjz
   have:=R.v_inv (hrr j (.v (.string c)) zs[j] (by simp [c7s,hcj]) hz)
   rw [hz,this]
  have hcalls:=Any2.slices_Insert_string_grow Tryz.laysNm222 b' 0 cs.length cs.length 0 b3 of3 1 cap3 (cs.map Value.string) [.string x] w (by omega) (by omega) (Nat.le_refl _) (by omega) (by omega) (by simp) (by simp) hzcell
   (fun j v hj=>by
    match j with
    |0=>simp at hj;subst hj;simpa using hcell3
    |j+1=>simp at hj) (fun v hv=>by
    simp only [List.mem_map] at hv
    obtain ⟨c,_,rfl⟩:=hv
    rfl) (fun v hv=>by simp at hv;subst hv;rfl)
  have hys0:ys=#[]:=by
   apply Array.eq_empty_of_size_eq_zero
   simpa using hsz
  have hargs:([o1,o2,o3].map a.eval).toArray++ys=#[.slice (some ⟨b',0,none⟩) cs.length cs.length,.int .i64 (0:Nat),.slice (some ⟨b3,of3,none⟩) 1 cap3]:=by
   rw [hys0]
   simp [hy1,q2,hY3]
  refine c1u ho ⟨_,Tryz.func134,by decide,by kernel_rfl⟩ hy (by rw [hargs];exact hcalls) ?_
  rintro e w' ⟨rfl,hw⟩
  obtain ⟨g1,g2,g3'⟩:=f7i w (grownCap w (cs.length+1) cs.length 9) x cs
  have hw':w'=f6o w (grownCap w (cs.length+1) cs.length 9) (.string x) (cs.map .string):=by
   rw [hw]
   unfold f6o
   rw [List.length_map]
   rfl
  rw [← hw'] at g1 g2 g3'
  refine ⟨_,rfl,_,h,E,(hE.below g1).put (a3i hc) (.r0 _ _ ?_)⟩
  refine .lst G.lo 1 _ _ _ _ w.heap.size 0 (fun i j=>.string ((x::cs).getD i ByteArray.empty)) (fun _=>Nat.le_trans G.hlo hE.grow) (by simp) (by rw [List.length_map,List.length_cons];exact grownCap_ge w (cs.length+1) cs.length 9) (by simp;omega)
   (fun _=>⟨rfl,fun hc=>Nat.lt_irrefl _ (e6q hE _ hc),g2⟩) (fun i y j u h1 h2=>?_) (fun y hy=>?_) fun i y j u h1 h2=>?_
  ·rw [List.getElem?_map,Option.map_eq_some_iff] at h1
   obtain ⟨c,hc,rfl⟩:=h1
   match j with
   |0 =>
    have:=g3' i c hc
    simp only [Nat.zero_add,Nat.mul_one,Nat.add_zero,List.getD,hc,Option.getD_some]
    exact this
   |j+1=>simp [a2j] at h2
  ·simp only [List.mem_map] at hy
   obtain ⟨c,_,rfl⟩:=hy
   rfl
  ·rw [List.getElem?_map,Option.map_eq_some_iff] at h1
   obtain ⟨c,hc,rfl⟩:=h1
   match j with
   |0 =>
    simp [a2j] at h2
    subst h2
    simp only [List.getD,hc,Option.getD_some]
    exact .v _
   |j+1=>simp [a2j] at h2
theorem a1n (x:ByteArray) (cs:List ByteArray) (hne:0 < cs.length) (hl:cs.length≤900) (hx:x.size≤100000) (hs:∀ s ∈ cs,s.size≤100000) :
  Tri Tryz.prog 63 [str x,.own 0 0 cs.length 1] [(0,.box (c7s cs))] (fun _=>.ret (str (a1b (x::cs))) []):=by
 refine a0d (fun _=>false) Tryz.func63 Tryz.ntmps63 rfl rfl fun G hG hOw hNm=>?_;simp only [go_sem,hG,hOw]
 (repeat' with_reducible first|refine And.intro ?_ ?_|intro _|refine exP ?_ ?_);all_goals try omega
 refine c7x 0 _ cs x (by simp [go_sem]) hne (by omega) (by simp [chk,hG]) ?_
 simp only [go_sem,hG,hOw]
 refine a0a (b2j (x::cs) (by simp;omega) (by simpa using ⟨hx,hs⟩)) ?_
 simp only [go_sem,hG,hOw]
 (repeat' with_reducible first|refine And.intro ?_ ?_|intro _|refine exP ?_ ?_);all_goals try omega
 exact (a1u [])
open Go Pm Go.RowKit Go.Sort
set_option maxRecDepth 100000
set_option maxHeartbeats 4000000
theorem a3m {n:Int} (h0:0≤n) (h1:n≤9999):(a1v n).size≤4:=by
 have:=b2e n h0 h1
 unfold b2b at this
 split at this
 ·rename_i h;rw [a1v,d0q];exact h.2.1
 ·cases this
theorem inB_iff {n lo hi:Int}:inB n lo hi=true↔lo≤n∧n≤hi:=by simp [inB]
def atS (a b c:Int):ByteArray:=a1b [a1v a,a1v b,a1v c]
def in9 (n:Int):Prop:=0≤n∧n≤9999
theorem d5z (a b c:Int) (ha:in9 a) (hb:in9 b) (hc:in9 c):a0p Tryz.prog 81 [.agg [i64 a,i64 b,i64 c]] (fun _=>str (atS a b c)):=by
 have sa:=a3m ha.1 ha.2
 have sb:=a3m hb.1 hb.2
 have sc:=a3m hc.1 hc.2
 refine a0c (ow:=fun i=>[12,1000012].contains i) Tryz.func81 Tryz.ntmps81 rfl rfl fun G hG hOw hNm hB=>?_;simp only [go_sem,hG,hOw]
 (repeat' with_reducible first|refine And.intro ?_ ?_|intro _|refine exP ?_ ?_);all_goals try omega
 refine a1s ⟨[12],[],[]⟩ [(0,false),(1,false),(2,false),(3,false),(4,false),(5,false),(6,false),(7,false),(8,false),(9,false),(10,true),(11,false)] mixed (by kernel_rfl) ?_
 simp only [a2v,List.getElem?_cons_zero,List.getElem?_cons_succ]
 simp only [go_sem,hG,hOw]
 (repeat' with_reducible first|refine And.intro ?_ ?_|intro _|refine exP ?_ ?_);all_goals try omega
 refine ⟨_,a0j (a5g a ha.1 ha.2),?_⟩
 simp only [go_sem,hG,hOw]
 (repeat' with_reducible first|refine And.intro ?_ ?_|intro _|refine exP ?_ ?_);all_goals try omega
 refine ⟨_,a0j (a5g b hb.1 hb.2),?_⟩
 simp only [go_sem,hG,hOw]
 (repeat' with_reducible first|refine And.intro ?_ ?_|intro _|refine exP ?_ ?_);all_goals try omega
 refine ⟨_,a0j (a5g c hc.1 hc.2),?_⟩
 simp only [go_sem,hG,hOw]
 (repeat' with_reducible first|refine And.intro ?_ ?_|intro _|refine exP ?_ ?_);all_goals try omega
 refine a0b [(0,12)] [] (a1n (a1v a) [a1v b,a1v c] (by simp) (by simp) (by omega) (by simp;omega)) ?_
 simp only [go_sem,hG,hOw]
 (repeat' with_reducible first|refine And.intro ?_ ?_|intro _|refine exP ?_ ?_);all_goals try omega
 rfl
def b9c (l:List ByteArray):ByteArray:=a1b [b0g,a1b l]
def d5j (c:Ch):List ByteArray:=a1b [a3c,a1v c.id]::c.lines.map b9c
def a2q (t:List Ch):List ByteArray:=t.flatMap d5j
theorem c9q (t:List Ch) (k:Nat) (hk:k < t.length):a2q (t.take (k+1))=a2q (t.take k)++d5j t[k]:=by
 unfold a2q
 rw [List.take_add_one,List.getElem?_eq_getElem hk,List.flatMap_append]
 simp
theorem c1c {f:List Ch→Ch→Bool} {p:Ch→Prop} (h:∀ pre c,f pre c=true→p c):∀ (t pre:List Ch),a4b f pre t=true→∀ c ∈ t,p c
 |[],_,_=>by simp
 |c::r,pre,ht=>by
  simp only [a4b,Bool.and_eq_true] at ht
  intro d hd
  rcases List.mem_cons.1 hd with rfl|hd
  ·exact h _ _ ht.1
  ·exact c1c h r _ ht.2 d hd
theorem a3f {s:ByteArray} (h:a1i s=true):1≤s.size∧s.size≤12:=by
 simp only [a1i,Bool.and_eq_true,inB_iff] at h;omega
structure VCh (c:Ch):Prop where
 id:in9 c.id
 len:1≤c.lines.length∧c.lines.length≤10
 ln:∀ l ∈ c.lines,(1≤l.length∧l.length≤10)∧∀ s ∈ l,a1i s=true
theorem f3y {pre:List Ch} {c:Ch} (h:b0f pre c=true):VCh c:=by
 simp only [b0f,Bool.and_eq_true,inB_iff,List.all_eq_true,b1o] at h
 obtain ⟨⟨⟨h1,h2⟩,h3⟩,h4⟩:=h
 exact ⟨h1,by omega,fun l hl=>⟨by have:=(h4 l hl).1;omega,(h4 l hl).2⟩⟩
theorem c0c {t:List Ch} (h:a1z t=true):(1≤t.length∧t.length≤6)∧∀ c ∈ t,VCh c:=by
 simp only [a1z,Bool.and_eq_true,inB_iff] at h
 exact ⟨by omega,fun c hc=>c1c (p:=VCh) (fun _ _=>f3y) t [] h.2 c hc⟩
theorem e4u {l:List ByteArray} (h:(1≤l.length∧l.length≤10)∧∀ s ∈ l,a1i s=true):(a1b l).size≤130:=by
 have h1:=b2n 12 l fun s hs=>(a3f (h.2 s hs)).2
 rw [a8q]
 have:(12+1) * l.length≤13 * 10:=Nat.mul_le_mul_left _ h.1.2
 omega
theorem d3q {t:List Ch} (h6:t.length≤6) (hv:∀ c ∈ t,c.lines.length≤10):(a2q t).length≤66:=by
 have:∀ t:List Ch,(∀ c ∈ t,c.lines.length≤10)→(a2q t).length≤11 * t.length:=by
  intro t
  induction t with
  |nil=>simp [a2q]
  |cons c r ih =>
   intro h
   have h1:=ih fun d hd=>h d (by simp [hd])
   have h2:=h c (by simp)
   simp only [a2q,List.flatMap_cons,List.length_append,d5j,List.length_cons,List.length_map] at h1 ⊢
   omega
 have:=this t hv
 omega
theorem e1x (pre:List ByteArray) (r:ByteArray) (ls:List (List ByteArray)):∃ M:Nat→List ByteArray,M 0=pre++[r]∧(∀ j (h:j < ls.length),M (j+1)=M j++[b9c ls[j]])∧M ls.length=pre++r::ls.map b9c∧∀ j,j≤ls.length→(M j).length=pre.length+1+j:=by
 refine ⟨fun j=>pre++r::(ls.take j).map b9c,by simp,fun j h=>?_,by simp,fun j h=>by simp;omega⟩
 simp only [a2x b9c ls j h]
 simp
theorem c6v (t:List Ch):a0p Tryz.prog 13 [txE 0 t] (fun n=>.tup [a0h n (if a1z t then a2q t else []),i64 (if a1z t then 0 else 10)]):=by
 refine a0c (ow:=fun i=>[26,40,1000026,1000040].contains i) Tryz.func13 Tryz.ntmps13 rfl rfl fun G hG hOw hNm hB=>?_;simp only [go_sem,hG,hOw]
 refine a0a (a3p t) ?_
 cases ht:a1z t with
 |false =>
  simp only [go_sem,hG,hOw]
  (repeat' with_reducible first|refine And.intro ?_ ?_|intro _|refine exP ?_ ?_);all_goals try omega
  exact Subs.tup (.cons (.nil _ _) (.cons (.refl _) .nil))
 |true =>
  obtain ⟨ht1,ht2⟩:=c0c ht
  have hlen:∀ k,(a2q (t.take k)).length≤66:=fun k=>d3q (by simp;omega) fun c hc=>(ht2 c (List.mem_of_mem_take hc)).len.2
  simp only [go_sem,hG,hOw]
  (repeat' with_reducible first|refine And.intro ?_ ?_|intro _|refine exP ?_ ?_);all_goals try omega
  refine a0n (fun k:Nat=>St.of [(1,.ptr 1 0),(5,.own 100 0 (a2q (t.take k)).length 1),(16,chs 0 t),(17,i64 t.length),(18,i64 k)] [(1,.box [chs 0 t]),(100,.arr 9 1 ((a2q (t.take k)).map a2j))]) (fun k=>k≤t.length) (fun k=>t.length - k) 0 (by simp) (by simp only [List.take_zero,a2q,List.flatMap_nil];exact a2r [(1,some 1),(100,none)]) ?_
  rintro k hk
  refine a0g _ _ _ ?_;simp only [go_sem,hG,hOw]
  (repeat' with_reducible first|refine And.intro ?_ ?_|intro _|refine exP ?_ ?_);all_goals try omega
  ·rename_i hlt
   have hkl:k < t.length:=by omega
   obtain ⟨hid,hcl,hln⟩:=ht2 _ (List.getElem_mem hkl)
   have hsz:=a3m hid.1 hid.2
   refine a0a (a5g t[k].id hid.1 hid.2) ?_
   simp only [go_sem,hG,hOw]
   (repeat' with_reducible first|refine And.intro ?_ ?_|intro _|refine exP ?_ ?_);all_goals try omega
   refine a0b [(0,26)] [] (a1n a3c [a1v t[k].id] (by simp) (by simp) (by decide) (by simp;omega)) ?_ (by (simp only [go_sem])<;>simp [a3c]) (by (simp only [go_sem,a1f,a0q,a0e,a1l])<;>simp [a3c]) (by simp [a0f,usH,toR,a3c])
   simp only [go_sem,hG,hOw]
   have hl66:=hlen k
   (repeat' with_reducible first|refine And.intro ?_ ?_|intro _|refine exP ?_ ?_);all_goals try omega
   obtain ⟨M,hM0,hMs,hMe,hMl⟩:=e1x (a2q (t.take k)) (a1b [a3c,a1v t[k].id]) t[k].lines
   have hMe':M t[k].lines.length=a2q (t.take (k+1)):=by rw [hMe,c9q t k hkl];rfl
   refine a6v (fun _:Unit=>St.of [(1,.ptr 1 0),(5,.own 100 0 (a2q (t.take (k+1))).length 1),(16,chs 0 t),(17,i64 t.length),(18,i64 k)] [(1,.box [chs 0 t]),(100,.arr 9 1 ((a2q (t.take (k+1))).map a2j))]) (fun _=>True) ?_ ?_
   ·refine a0n (fun j:Nat=>St.of [(1,.ptr 1 0),(5,.own 200 0 (M j).length 1),(16,chs 0 t),(17,i64 t.length),(18,i64 k),(31,lns 0 t[k].lines),(32,i64 t[k].lines.length),(33,i64 j)] [(1,.box [chs 0 t]),(200,.arr 9 1 ((M j).map a2j))]) (fun j=>j≤t[k].lines.length) (fun j=>t[k].lines.length - j) 0 (by simp) (by simp only [hM0];exact a2r [(1,some 1),(200,some 29)] (by (simp only [go_sem])<;>simp [a2j]) (by (simp only [go_sem,a1f,a0q,a0e,a1l])<;>simp [a2j])) ?_
    rintro j hj
    have hMj:=hMl j hj
    refine a0g _ _ _ ?_;simp only [go_sem,hG,hOw]
    (repeat' with_reducible first|refine And.intro ?_ ?_|intro _|refine exP ?_ ?_);all_goals try omega
    ·rename_i hlt2
     have hjl:j < t[k].lines.length:=by omega
     have hlj:=hln _ (List.getElem_mem hjl)
     have hs2:=e4u hlj
     refine a0a (b2j t[k].lines[j] (by omega) fun s hs=>by have:=a3f (hlj.2 s hs);omega) ?_
     simp only [go_sem,hG,hOw]
     (repeat' with_reducible first|refine And.intro ?_ ?_|intro _|refine exP ?_ ?_);all_goals try omega
     refine a0b [(0,40)] [] (a1n b0g [a1b t[k].lines[j]] (by simp) (by simp) (by decide) (by simp;omega)) ?_ (by (simp only [go_sem])<;>simp [b0g]) (by (simp only [go_sem,a1f,a0q,a0e,a1l])<;>simp [b0g]) (by simp [a0f,usH,toR,b0g])
     simp only [go_sem,hG,hOw]
     (repeat' with_reducible first|refine And.intro ?_ ?_|intro _|refine exP ?_ ?_);all_goals try omega
     exact ⟨j+1,by omega,by omega,a2r [(1,some 1),(200,some 43)] (by (simp only [go_sem])<;>simp [hMs j hjl,b9c,a2j]) (by (simp only [go_sem,a1f,a0q,a0e,a1l])<;>simp [hMs j hjl,b9c,a2j])⟩
    ·rename_i hge2
     have hj2:j=t[k].lines.length:=by omega
     subst hj2
     rw [hMe']
     exact ⟨(),a2r [(1,some 1),(100,some 200)]⟩
   ·rintro ⟨⟩ -
    simp only [go_sem,hG,hOw]
    (repeat' with_reducible first|refine And.intro ?_ ?_|intro _|refine exP ?_ ?_);all_goals try omega
    exact ⟨k+1,by omega,by omega,a2r [(1,some 1),(100,some 100)]⟩
  ·rename_i hge
   obtain rfl:k=t.length:=by omega
   simp only [List.take_length]
   exact .refl _
open Go Pm Go.RowKit Go.Sort
set_option maxRecDepth 100000
set_option maxHeartbeats 4000000
def c5f (t:List Ch) (n:Nat):List (List V):=match t.getLast? with
 |none=>[]
 |some c=>t.dropLast.map (chE 0)++[[i64 c.id,.own n 0 c.lines.length 1]]
def d9q (t:List Ch):List (List ByteArray):=match t.getLast? with
 |none=>[]
 |some c=>c.lines
theorem c2o (n:Nat):c5f [] n=[]:=rfl
theorem c2w:d9q []=[]:=rfl
theorem a5x (i:List Ch) (c:Ch) (n:Nat):c5f (i++[c]) n=i.map (chE 0)++[[i64 c.id,.own n 0 c.lines.length 1]]:=by simp [c5f]
theorem b0i (i:List Ch) (c:Ch):d9q (i++[c])=c.lines:=by simp [d9q]
theorem a7m {α:Type} (t:List α):t=[]∨∃ i c,t=i++[c]:=by
 rcases List.eq_nil_or_concat t with h|⟨i,c,h⟩
 ·exact .inl h
 ·exact .inr ⟨i,c,by simpa using h⟩
theorem c1v {ρ:Ren} {lo:Nat} {r r':List (List V)} (h:c7v ρ r r'):∀ i:List Ch,c7v ρ (i.map (chE lo)++r) (i.map (chE lo)++r')
 |[]=>by simpa using h
 |c::i=>by
  rw [List.map_cons,List.cons_append,List.cons_append]
  exact ⟨⟨rfl,.inl rfl,trivial⟩,c1v h i⟩
theorem b5e {ρ:Ren} {lo:Nat} {r r':List (List V)}:∀ i:List Ch,c7v ρ (i.map (chE lo)++r) (i.map (chE lo)++r')→c7v ρ r r'
 |[],h=>by simpa using h
 |c::i,h=>by
  rw [List.map_cons,List.cons_append,List.cons_append] at h
  exact b5e i h.2
theorem a9c {ρ:Ren} {lo:Nat} (i:List Ch) (r r':List (List V)):c7v ρ (i.map (chE lo)++r) (i.map (chE lo)++r')=c7v ρ r r':=propext ⟨b5e i,fun h=>c1v h i⟩
theorem c2r {p:Nat→Bool} {l:Nat} {s:St} {lo:Nat} (i:List Ch) (r:List (List V)):(i.map (chE lo)++r).map (List.map (vwF p l s 4))=i.map (chE lo)++r.map (List.map (vwF p l s 4)):=by
 rw [List.map_append,List.map_map]
 congr 1
theorem a8d (t:List Ch) {ρ:Ren} {a b:Nat} (h:lkR ρ a=some (some b)):c7v ρ (c5f t a) (c5f t b):=by
 rcases a7m t with rfl|⟨i,c,rfl⟩
 ·exact trivial
 ·rw [a5x,a5x]
  refine c1v ?_ i
  simp [c7v,okL,okN,h,i64]
theorem f0c (t:List Ch) (g:V→V) (hv:∀ x,g (.v x)=.v x) (hl:∀ lo sz l,g (.lst lo sz l)=.lst lo sz l) {a b:Nat} (h:∀ m,g (.own a 0 m 1)=.own b 0 m 1):(c5f t a).map (List.map g)=c5f t b:=by
 rcases a7m t with rfl|⟨i,c,rfl⟩
 ·rfl
 ·rw [a5x,a5x,List.map_append,List.map_map]
  congr 1
  ·refine List.map_congr_left fun d _=>?_
   simp [chE,i64,lns,hv,hl]
  ·simp [i64,hv,h]
theorem f7v {s:St} {el sz:Nat} (id:Nat) (l:List (List V)) {n:Nat} (hn:n=l.length) (h:s.hget id=some (.arx el sz l)):IsArrX s el sz (.own id 0 n sz) l (some id):=by
 subst hn
 exact .own id l h
theorem d6a (lo:Nat) (t:List Ch) (r:List ByteArray) (x:ByteArray) (v:Int) (hx:x.size≤100000) (hv:a3q x=some v) (ht:t.length≤1000) :
  Tri Tryz.prog 74 [str a3c,.ptr 1 0,.ptr 0 0] [(0,.box [.own 2 0 t.length 2]),(1,.box [a0h lo (x::r)]),(2,.arx 115 2 (c5f t 3)),(3,.arr 32 1 ((d9q t).map (lnE 0)))]
   (fun _=>.ret (.tup []) [(0,.box [.own 4 0 (t++[Ch.mk v []]).length 2]),(1,.box [a0h lo r]),(4,.arx 115 2 (c5f (t++[Ch.mk v []]) 5)),(5,.arr 32 1 ((d9q (t++[Ch.mk v []])).map (lnE 0)))]):=by
 unfold a3c
 rw [a5x,b0i]
 rcases a7m t with rfl|⟨i,c,rfl⟩
 ·rw [c2o,c2w]
  refine a0d (fun _=>false) Tryz.func74 Tryz.ntmps74 rfl rfl fun G hG hOw hNm=>?_;simp only [go_sem,hG,hOw]
  (repeat' with_reducible first|refine And.intro ?_ ?_|intro _|refine exP ?_ ?_);all_goals try omega
  refine a1s ⟨[1,16,17,18],[(14,[1]),(18,[0])],[14]⟩ [(0,false),(1,false),(2,false),(3,false),(4,false),(5,false),(6,true),(7,false),(8,false)] mixed (by kernel_rfl) ?_
  simp only [a2v,List.getElem?_cons_zero,List.getElem?_cons_succ]
  simp only [go_sem,hG,hOw]
  (repeat' with_reducible first|refine And.intro ?_ ?_|intro _|refine exP ?_ ?_);all_goals try omega
  refine ⟨_,a6l [(0,1)] [] (a8s lo x r v hx hv) (by (simp only [go_sem])<;>simp) (by (simp only [go_sem,a1f,a0q,a0e,a1l])<;>simp) (by simp [a2s,apart,toR]) (by simp [a0f,usH,toR]) (by simp [a6i,lkR,toR]) rfl (by simp [tgt,a2a]) (by simp [tgt,a2a]) (by simp [upT,a3r,a6h,a1r,usH,lkR,toR,a2a]) (by simp [b3n,usH,tgt,go_sem]) (by simp [a3n,a1r,usH,lkR,toR]) (by simp [a5l,usH]),?_⟩
  simp only [go_sem,hG,hOw]
  (repeat' with_reducible first|refine And.intro ?_ ?_|intro _|refine exP ?_ ?_);all_goals try omega
  refine c3y (el:=115) (sz:=2) (x:=.own 2 0 0 2) (y:=.lst G.lo 2 [[i64 v,.v (.slice none 0 0)]]) (l:=[]) (new:=[[i64 v,.v (.slice none 0 0)]]) (io:=some 2) rfl ?_ ?_ rfl ?_ ?_ ?_ ?_ b0p (by kernel_rfl) b3x (by decide) rfl (Nat.le_of_ble_eq_true rfl) (Nat.le_of_ble_eq_true rfl) ?_
  ·simp [go_sem]
  ·simp [go_sem]
  ·rw [hG];decide
  ·simp [go_sem]
  ·exact IsArrX.own 2 [] (by simp [go_sem])
  ·exact .src _ _ (.lst ..)
  simp only [go_sem,hG,hOw]
  (repeat' with_reducible first|refine And.intro ?_ ?_|intro _|refine exP ?_ ?_);all_goals try omega
  exact (a1u [(0,some 0),(1,some 1),(4,some 17),(5,none)])
 ·rw [a5x,b0i]
  refine a0d (fun _=>false) Tryz.func74 Tryz.ntmps74 rfl rfl fun G hG hOw hNm=>?_;simp only [go_sem,hG,hOw]
  (repeat' with_reducible first|refine And.intro ?_ ?_|intro _|refine exP ?_ ?_);all_goals try omega
  refine e6w (fun i=>i == 3) ?_
  refine a1s ⟨[1,16,17,18],[(14,[1]),(18,[0])],[14]⟩ [(0,false),(1,false),(2,false),(3,false),(4,false),(5,false),(6,true),(7,false),(8,false)] mixed (by kernel_rfl) ?_
  simp only [a2v,List.getElem?_cons_zero,List.getElem?_cons_succ]
  simp (maxSteps:=2000000) only [go_sem,hG,hOw,↓c2r]
  (repeat' with_reducible first|refine And.intro ?_ ?_|intro _|refine exP ?_ ?_);all_goals try omega
  refine ⟨_,a6l [(0,1)] [] (a8s lo x r v hx hv) (by (simp only [go_sem])<;>simp) (by (simp only [go_sem,a1f,a0q,a0e,a1l])<;>simp) (by simp [a2s,apart,toR]) (by simp [a0f,usH,toR]) (by simp [a6i,lkR,toR]) rfl (by simp [tgt,a2a]) (by simp [tgt,a2a]) (by simp [upT,a3r,a6h,a1r,usH,lkR,toR,a2a]) (by simp [b3n,usH,tgt,go_sem]) (by simp [a3n,a1r,usH,lkR,toR]) (by simp [a5l,usH]),?_⟩
  simp (maxSteps:=2000000) only [go_sem,hG,hOw,↓c2r]
  (repeat' with_reducible first|refine And.intro ?_ ?_|intro _|refine exP ?_ ?_);all_goals try omega
  have hS:Pm.Sub (.lst G.lo 1 (c.lines.map (lnE 0))) (.lst 0 1 (c.lines.map (lnE 0))):=Sub.lo (Nat.zero_le _)
  refine c3y (el:=115) (sz:=2) (x:=.own 2 0 (i.length+1) 2) (y:=.lst G.lo 2 [[i64 v,.v (.slice none 0 0)]]) (l:=i.map (chE 0)++[[i64 c.id,.lst G.lo 1 (c.lines.map (lnE 0))]]) (new:=[[i64 v,.v (.slice none 0 0)]]) (io:=some 2) rfl ?_ ?_ rfl ?_ ?_ ?_ ?_ b0p (by kernel_rfl) b3x (by decide) rfl ?_ ?_ ?_
  ·simp [go_sem]
  ·simp [go_sem]
  ·rw [hG];decide
  ·simp [go_sem]
  ·exact f7v 2 _ (by simp) (by simp only [↓c2r,go_sem])
  ·exact .src _ _ (.lst ..)
  ·simp at ht ⊢;omega
  ·simp at ht ⊢;omega
  simp (maxSteps:=2000000) only [go_sem,hG,hOw,↓c2r]
  (repeat' with_reducible first|refine And.intro ?_ ?_|intro _|refine exP ?_ ?_);all_goals try omega
  exact ⟨[(0,some 0),(1,some 1),(4,some 17),(5,none)],by (simp only [b3z,go_sem,a1f,a0q,a0e,a1l,apart,a2s,a0f])<;>simp [a9c,c7v,okL,okN,chE,lns,i64,lkR,hS,pure0]⟩
theorem b9g (lo:Nat) (t:List Ch) (l:List ByteArray) (hl:∀ s ∈ l,s.size≤100000) (hb:∀ s r,l=s::r→a3q s=none) :
  Tri Tryz.prog 74 [str a3c,.ptr 1 0,.ptr 0 0] [(0,.box [.own 2 0 t.length 2]),(1,.box [a0h lo l]),(2,.arx 115 2 (c5f t 3)),(3,.arr 32 1 ((d9q t).map (lnE 0)))]
   (fun _=>.pan (wrV 111) []):=by
 unfold a3c
 refine a0d (fun _=>false) Tryz.func74 Tryz.ntmps74 rfl rfl fun G hG hOw hNm=>?_;simp only [go_sem,hG,hOw]
 (repeat' with_reducible first|refine And.intro ?_ ?_|intro _|refine exP ?_ ?_);all_goals try omega
 refine c5n ⟨[1,16,17,18],[(14,[1]),(18,[0])],[14]⟩ [0,1,2] 3 (by rfl) (by rfl) mixed (by kernel_rfl) ?_
 simp only [a2v,List.map_cons,List.map_nil,List.getElem?_cons_zero,List.getElem?_cons_succ]
 simp (maxSteps:=2000000) only [go_sem,hG,hOw,f9h,f0l]
 (repeat' with_reducible first|refine And.intro ?_ ?_|intro _|refine exP ?_ ?_);all_goals try omega
 refine d2y [(0,1)] (b4u lo l hl hb) (by (simp only [go_sem])<;>simp) (by (simp only [go_sem,a1f,a0q,a0e,a1l])<;>simp) (by simp [a2s,apart,toR]) (by simp [a0f,usH,toR]) (by simp [a6i,lkR,toR]) (by simp [tgt,a2a]) (fun s'=>?_)
 exact ⟨rfl,(a1u [])⟩
theorem c8b (i:List Ch) (a:List V) (h:i.length < (i.map (chE 0)++[a]).length):(i.map (chE 0)++[a])[i.length]'h=a:=by simp
theorem e0f (i:List Ch) (a b:List V):(i.map (chE 0)++[a]).set i.length b=i.map (chE 0)++[b]:=by
 rw [List.set_append_right _ _ (by simp)];simp
theorem f4s (lo:Nat) (i:List Ch) (c:Ch) (r:List ByteArray) (hr:a3e r=true) (hrl:r.length≤1000) (ht:i.length≤1000) (hc:c.lines.length≤1000) :
  Tri Tryz.prog 74 [str b0g,.ptr 1 0,.ptr 0 0] [(0,.box [.own 2 0 (i.length+1) 2]),(1,.box [a0h lo r]),(2,.arx 115 2 (i.map (chE 0)++[[i64 c.id,.own 3 0 c.lines.length 1]])),(3,.arr 32 1 (c.lines.map (lnE 0)))]
   (fun _=>.ret (.tup []) [(0,.box [.own 4 0 (i.length+1) 2]),(1,.box [a0h lo []]),(4,.arx 115 2 (i.map (chE 0)++[[i64 c.id,.own 5 0 (c.lines++[r]).length 1]])),(5,.arr 32 1 ((c.lines++[r]).map (lnE 0)))]):=by
 have hW:=a3v lo r hrl
 simp only [hr,if_true] at hW
 unfold b0g
 refine a0d (fun _=>false) Tryz.func74 Tryz.ntmps74 rfl rfl fun G hG hOw hNm=>?_;simp only [go_sem,hG,hOw]
 (repeat' with_reducible first|refine And.intro ?_ ?_|intro _|refine exP ?_ ?_);all_goals try omega
 ·rename_i h;exact absurd h (by decide)
 ·have h0:(0:Int) < ((i.length+1:Nat):Int):=by omega
  have h1:(((i.length+1:Nat):Int) - 1).toNat=i.length:=by omega
  refine a0b [] [] (a0s 111) ?_ (by (simp only [go_sem])<;>simp [h0]) (by (simp only [go_sem,a1f,a0q,a0e,a1l])<;>simp [h0]) (by simp [a0f,usH,toR,h0])
  simp (maxSteps:=2000000) only [go_sem,hG,hOw,h1]
  (repeat' with_reducible first|refine And.intro ?_ ?_|intro _|refine exP ?_ ?_);all_goals try omega
  refine a1s ⟨[1,40,41],[(39,[1])],[39]⟩ [(0,false),(1,false),(2,false),(3,false),(4,false),(5,false),(6,false),(7,false),(8,false),(9,false),(10,false),(11,false)] mixed (by kernel_rfl) ?_
  simp only [a2v,List.getElem?_cons_zero,List.getElem?_cons_succ]
  simp (maxSteps:=2000000) only [go_sem,hG,hOw,c8b,e0f]
  (repeat' with_reducible first|refine And.intro ?_ ?_|intro _|refine exP ?_ ?_);all_goals try omega
  refine ⟨_,a6l [(0,1)] [] (hW) (by (simp only [go_sem])<;>simp) (by (simp only [go_sem,a1f,a0q,a0e,a1l])<;>simp) (by simp [a2s,apart,toR]) (by simp [a0f,usH,toR]) (by simp [a6i,lkR,toR]) rfl (by simp [tgt,a2a]) (by simp [tgt,a2a]) (by simp [upT,a3r,a6h,a1r,usH,lkR,toR,a2a]) (by simp [b3n,usH,tgt,go_sem]) (by simp [a3n,a1r,usH,lkR,toR]) (by simp [a5l,usH]),?_⟩
  simp (maxSteps:=2000000) only [go_sem,hG,hOw,c8b,e0f]
  (repeat' with_reducible first|refine And.intro ?_ ?_|intro _|refine exP ?_ ?_);all_goals try omega
  exact ⟨[(0,some 0),(1,some 1),(4,some 2),(5,some 41)],by (simp only [b3z,go_sem,a1f,a0q,a0e,a1l,apart,a2s,a0f])<;>simp [a9c,c7v,okL,okN,i64,lkR,lnE,a0h]⟩
theorem d0s (lo:Nat) (i:List Ch) (c:Ch) (r:List ByteArray) (hr:a3e r=false) (hrl:r.length≤1000) (ht:i.length≤1000) :
  Tri Tryz.prog 74 [str b0g,.ptr 1 0,.ptr 0 0] [(0,.box [.own 2 0 (i.length+1) 2]),(1,.box [a0h lo r]),(2,.arx 115 2 (i.map (chE 0)++[[i64 c.id,.own 3 0 c.lines.length 1]])),(3,.arr 32 1 (c.lines.map (lnE 0)))]
   (fun _=>.pan (wrV 111) []):=by
 have hW:=a3v lo r hrl
 simp only [hr,Bool.false_eq_true,if_false] at hW
 unfold b0g
 refine a0d (fun _=>false) Tryz.func74 Tryz.ntmps74 rfl rfl fun G hG hOw hNm=>?_;simp only [go_sem,hG,hOw]
 (repeat' with_reducible first|refine And.intro ?_ ?_|intro _|refine exP ?_ ?_);all_goals try omega
 ·rename_i h;exact absurd h (by decide)
 ·have h0:(0:Int) < ((i.length+1:Nat):Int):=by omega
  have h1:(((i.length+1:Nat):Int) - 1).toNat=i.length:=by omega
  refine a0b [] [] (a0s 111) ?_ (by (simp only [go_sem])<;>simp [h0]) (by (simp only [go_sem,a1f,a0q,a0e,a1l])<;>simp [h0]) (by simp [a0f,usH,toR,h0])
  simp (maxSteps:=2000000) only [go_sem,hG,hOw,h1]
  (repeat' with_reducible first|refine And.intro ?_ ?_|intro _|refine exP ?_ ?_);all_goals try omega
  refine c5n ⟨[1,40,41],[(39,[1])],[39]⟩ [0,1,2,3,4,5] 6 (by rfl) (by rfl) mixed (by kernel_rfl) ?_
  simp only [a2v,List.map_cons,List.map_nil,List.getElem?_cons_zero,List.getElem?_cons_succ]
  simp (maxSteps:=2000000) only [go_sem,hG,hOw,f9h,f0l,c8b]
  (repeat' with_reducible first|refine And.intro ?_ ?_|intro _|refine exP ?_ ?_);all_goals try omega
  refine d2y [(0,1)] (hW) (by (simp only [go_sem])<;>simp) (by (simp only [go_sem,a1f,a0q,a0e,a1l])<;>simp) (by simp [a2s,apart,toR]) (by simp [a0f,usH,toR]) (by simp [a6i,lkR,toR]) (by simp [tgt,a2a]) (fun s'=>?_)
  exact ⟨rfl,(a1u [])⟩
theorem c6r (lo:Nat) (r:List ByteArray) :
  Tri Tryz.prog 74 [str b0g,.ptr 1 0,.ptr 0 0] [(0,.box [.own 2 0 0 2]),(1,.box [a0h lo r]),(2,.arx 115 2 []),(3,.arr 32 1 [])]
   (fun _=>.pan (wrV 111) []):=by
 unfold b0g
 refine a0d (fun _=>false) Tryz.func74 Tryz.ntmps74 rfl rfl fun G hG hOw hNm=>?_;simp only [go_sem,hG,hOw]
 (repeat' with_reducible first|refine And.intro ?_ ?_|intro _|refine exP ?_ ?_);all_goals try omega
 ·rename_i h;exact absurd h (by decide)
 ·refine a0b [] [] (a3z 111) ?_
  simp only [go_sem,hG,hOw]
  exact ⟨rfl,(a1u [])⟩
theorem f2i (lo:Nat) (s:ByteArray) (t:List Ch) (r:List ByteArray) (h1:s≠a3c) (h2:s≠b0g) :
  Tri Tryz.prog 74 [str s,.ptr 1 0,.ptr 0 0] [(0,.box [.own 2 0 t.length 2]),(1,.box [a0h lo r]),(2,.arx 115 2 (c5f t 3)),(3,.arr 32 1 ((d9q t).map (lnE 0)))]
   (fun _=>.pan (wrV 111) []):=by
 unfold a3c at h1
 unfold b0g at h2
 refine a0d (fun _=>false) Tryz.func74 Tryz.ntmps74 rfl rfl fun G hG hOw hNm=>?_;simp only [go_sem,hG,hOw]
 (repeat' with_reducible first|refine And.intro ?_ ?_|intro _|refine exP ?_ ?_);all_goals try omega
 ·rename_i h;exact absurd h h1
 ·rename_i h;exact absurd h h2
 ·refine b1k [.int .i64 111] rfl rfl (by kernel_rfl) (by simp [chk,hG]) ?_
  simp only [go_sem,hG,hOw]
  (repeat' with_reducible first|refine And.intro ?_ ?_|intro _|refine exP ?_ ?_);all_goals try omega
  refine a7k rfl rfl ?_
  exact ⟨rfl,(a1u [])⟩
open Go Pm Go.RowKit Go.Sort
set_option maxRecDepth 100000
set_option maxHeartbeats 4000000
def b9j (t:List Ch) (name:ByteArray) (rest:List ByteArray):Option (List Ch×List ByteArray) :=
 if name=a3c then match rest with
  |x::r=>(a3q x).map fun v=>(t++[Ch.mk v []],r)
  |[]=>none
 else if name=b0g then match t.getLast? with
  |some c=>if a3e rest then some (t.dropLast++[Ch.mk c.id (c.lines++[rest])],[]) else none
  |none=>none
 else none
def b0c (t:List Ch) (s:ByteArray):Option (List Ch):=match a0y s with
 |[]=>none
 |name::rest=>match b9j t name rest with
  |some (t',[])=>some t'
  |_=>none
def b5p (t:List Ch):List ByteArray→Option (List Ch)
 |[]=>some t
 |s::l=>(b0c t s).bind fun t'=>b5p t' l
def a8o (l:List ByteArray):Option (List Ch):=b5p [] l
theorem b8m:∀ (l m:List ByteArray) (t:List Ch),b5p t (l++m)=(b5p t l).bind fun t'=>b5p t' m
 |[],m,t=>rfl
 |s::l,m,t=>by
  simp only [List.cons_append,b5p]
  cases b0c t s with
  |none=>rfl
  |some t'=>exact b8m l m t'
theorem b4l (l:List ByteArray) (k:Nat) (hk:k < l.length):a8o (l.take (k+1))=(a8o (l.take k)).bind fun t=>b0c t l[k]:=by
 unfold a8o
 rw [List.take_add_one,List.getElem?_eq_getElem hk,b8m]
 congr 1
 funext t
 simp only [Option.toList,b5p]
 cases b0c t l[k]<;>rfl
theorem c5x {l:List ByteArray} {k:Nat} {t:List Ch} (hk:k < l.length) (h:a8o (l.take k)=some t) (hb:b0c t l[k]=none):a8o l=none:=by
 have h1:a8o (l.take (k+1))=none:=by rw [b4l l k hk,h];exact hb
 have h2:=b8m (l.take (k+1)) (l.drop (k+1)) []
 rw [List.take_append_drop] at h2
 unfold a8o at h1 ⊢
 rw [h2,h1];rfl
def bdT (n:Nat) (t:List Ch):Prop:=t.length≤n∧∀ c ∈ t,c.lines.length≤n
theorem e7l {n:Nat} {t t':List Ch} {name:ByteArray} {rest r':List ByteArray} (h:bdT n t) (hs:b9j t name rest=some (t',r')):bdT (n+1) t':=by
 unfold b9j at hs
 split at hs
 ·cases rest with
  |nil=>cases hs
  |cons x r =>
   simp only [Option.map_eq_some_iff,Prod.mk.injEq] at hs
   obtain ⟨v,_,rfl,_⟩:=hs
   refine ⟨by have:=h.1;simp;omega,fun c hc=>?_⟩
   rcases List.mem_append.1 hc with hc|hc
   ·have:=h.2 c hc;omega
   ·simp at hc;subst hc;simp
 ·split at hs
  ·split at hs
   ·rename_i c hc
    split at hs
    ·simp only [Option.some.injEq,Prod.mk.injEq] at hs
     obtain ⟨rfl,_⟩:=hs
     have hcm:c ∈ t:=List.mem_of_getLast? hc
     refine ⟨by have:=h.1;simp;omega,fun d hd=>?_⟩
     rcases List.mem_append.1 hd with hd|hd
     ·have:=h.2 d ((List.dropLast_sublist t).mem hd);omega
     ·simp at hd;subst hd
      have:=h.2 c hcm
      simp;omega
    ·cases hs
   ·cases hs
  ·cases hs
theorem d2i {l:List ByteArray}:∀ {k:Nat} {t:List Ch},k≤l.length→a8o (l.take k)=some t→bdT k t
 |0,t,_,h=>by
  simp [a8o,b5p] at h
  subst h
  exact ⟨by simp,by simp⟩
 |k+1,t,hk,h=>by
  rw [b4l l k (by omega)] at h
  simp only [Option.bind_eq_some_iff] at h
  obtain ⟨u,h1,h2⟩:=h
  have ih:=d2i (by omega) h1
  unfold b0c at h2
  split at h2
  ·cases h2
  ·split at h2
   ·rename_i hs
    cases h2
    exact e7l ih hs
   ·cases h2
theorem g4l (lo:Nat) (t t':List Ch) (name:ByteArray) (rest r':List ByteArray) (hs:b9j t name rest=some (t',r')) (hl:∀ s ∈ rest,s.size≤100000) (hr:rest.length≤1000) (hb:bdT 1000 t) :
  Tri Tryz.prog 74 [str name,.ptr 1 0,.ptr 0 0] [(0,.box [.own 2 0 t.length 2]),(1,.box [a0h lo rest]),(2,.arx 115 2 (c5f t 3)),(3,.arr 32 1 ((d9q t).map (lnE 0)))]
   (fun _=>.ret (.tup []) [(0,.box [.own 4 0 t'.length 2]),(1,.box [a0h lo r']),(4,.arx 115 2 (c5f t' 5)),(5,.arr 32 1 ((d9q t').map (lnE 0)))]):=by
 unfold b9j at hs
 split at hs
 ·rename_i hn
  subst hn
  cases rest with
  |nil=>cases hs
  |cons x r =>
   simp only [Option.map_eq_some_iff,Prod.mk.injEq] at hs
   obtain ⟨v,hv,rfl,rfl⟩:=hs
   exact d6a lo t r x v (hl x (by simp)) hv hb.1
 ·split at hs
  ·rename_i hn
   subst hn
   rcases a7m t with rfl|⟨i,c,rfl⟩
   ·cases hs
   ·simp only [List.getLast?_append,List.getLast?_singleton,Option.some_or] at hs
    split at hs
    ·rename_i hw
     simp only [Option.some.injEq,Prod.mk.injEq,List.dropLast_concat] at hs
     obtain ⟨rfl,rfl⟩:=hs
     have h1:=hb.1
     have h2:=hb.2 c (by simp)
     have:=f4s lo i c rest hw hr (by simp at h1;omega) h2
     simp only [a5x,b0i,List.length_append,List.length_singleton] at this ⊢
     exact this
    ·cases hs
  ·cases hs
theorem g0h (lo:Nat) (t:List Ch) (name:ByteArray) (rest:List ByteArray) (hs:b9j t name rest=none) (hl:∀ s ∈ rest,s.size≤100000) (hr:rest.length≤1000) (hb:bdT 1000 t) :
  Tri Tryz.prog 74 [str name,.ptr 1 0,.ptr 0 0] [(0,.box [.own 2 0 t.length 2]),(1,.box [a0h lo rest]),(2,.arx 115 2 (c5f t 3)),(3,.arr 32 1 ((d9q t).map (lnE 0)))]
   (fun _=>.pan (wrV 111) []):=by
 unfold b9j at hs
 split at hs
 ·rename_i hn
  subst hn
  refine b9g lo t rest hl fun s r e=>?_
  subst e
  simpa using hs
 ·rename_i hn
  split at hs
  ·rename_i hn
   subst hn
   rcases a7m t with rfl|⟨i,c,rfl⟩
   ·exact c6r lo rest
   ·simp only [List.getLast?_append,List.getLast?_singleton,Option.some_or] at hs
    split at hs
    ·cases hs
    ·rename_i hw
     have h1:=hb.1
     have:=d0s lo i c rest (by simpa using hw) hr (by simp at h1;omega)
     simp only [a5x,b0i,List.length_append,List.length_singleton] at this ⊢
     exact this
  ·rename_i hn2
   exact f2i lo name t rest hn hn2
open Go Pm Go.RowKit Go.Sort
set_option maxRecDepth 100000
set_option maxHeartbeats 4000000
theorem d6v (t:List Ch) (a b:Nat) (ρ:Ren) (h:lkR ρ a=some (some b)):(c5f t a).map (List.map (b6h ρ 4))=c5f t b :=
 f0c t _ (fun _=>rfl) (fun _ _ _=>rfl) fun m=>by simp [b6h,h]
theorem f4j {p:Nat→Bool} {l:Nat} {s:St} {lo n:Nat} (i:List Ch) (r:List (List V)):(i.map (chE lo)++r).map (List.map (vwS p l s (n+1)))=i.map (chE lo)++r.map (List.map (vwS p l s (n+1))):=by
 rw [List.map_append,List.map_map]
 congr 1
theorem f8b (n:Nat) (i:List Ch) (c:Ch):Pm.Sub (.lst n 2 (i.map (chE 0)++[[i64 c.id,.lst n 1 (c.lines.map (lnE 0))]])) (chs 0 (i++[c])):=by
 refine .lst (Nat.zero_le _) (by simp) fun k x x' h1 h2=>?_
 by_cases hk:k < i.length
 ·rw [List.getElem?_append_left (by simpa using hk)] at h1
  rw [List.map_append,List.getElem?_append_left (by simpa using hk),h1] at h2
  cases h2
  exact .refl _
 ·rw [List.getElem?_append_right (by simpa using hk)] at h1
  rw [List.map_append,List.getElem?_append_right (by simpa using hk)] at h2
  rw [List.length_map] at h1 h2
  match hq:k - i.length with
  |0 =>
   rw [hq] at h1 h2
   simp at h1 h2
   subst h1;subst h2
   exact .cons (.refl _) (.cons (Sub.lo (Nat.zero_le _)) .nil)
  |q+1=>rw [hq] at h1;simp at h1
theorem f3x (ty ty1:TypeId) (i:List Ch) (c:Ch) {p:Nat→Bool} {lo:Nat} {s:St} (p100:p 100=true) (p101:p 101=true) (h100:s.hget 100=some (.arx ty 2 (i.map (chE 0)++[[i64 c.id,.own 101 0 c.lines.length 1]]))) (h101:s.hget 101=some (.arr ty1 1 (c.lines.map (lnE 0)))) :
  List.map (vwF p lo s 4) [.own 100 0 (i.length+1) 2]=[.lst lo 2 (i.map (chE 0)++[[i64 c.id,.lst lo 1 (c.lines.map (lnE 0))]])]:=by
 have e1:vwS p lo s 3 (.own 101 0 c.lines.length 1)=.lst lo 1 (c.lines.map (lnE 0)):=by
  rw [vwS,p101,h101]
  simp only [if_true,List.drop_zero]
  rw [List.take_of_length_le (by simp)]
 have e2:vwF p lo s 4 (.own 100 0 (i.length+1) 2)=vwS p lo s 4 (.own 100 0 (i.length+1) 2):=by rw [vwF,p100]
 rw [List.map_cons,List.map_nil,e2,vwS,p100,h100]
 have e3:=f4j (p:=p) (l:=lo) (s:=s) (lo:=0) (n:=2) i [[i64 c.id,.own 101 0 c.lines.length 1]]
 simp only [e3,List.map_cons,List.map_nil,e1,if_true,List.drop_zero]
 have e4:vwS p lo s 3 (i64 c.id)=i64 c.id:=rfl
 rw [e4,List.take_of_length_le (by simp)]
theorem a9j {l:List ByteArray} (h:a0v l=true):l.length≤200∧∀ s ∈ l,s.size≤160:=by
 simp only [a0v,Bool.and_eq_true,decide_eq_true_eq,List.all_eq_true,c3p] at h
 exact ⟨by omega,fun s hs=>by have:=(h.1 s hs).1.2;omega⟩
theorem e2s (l:List ByteArray) (h:a0v l=false):Tri Tryz.prog 73 [a0h 0 l,.fn (.func 74) [.ptr 0 0]] [(0,.box [.v (.slice none 0 0)])] (fun _=>.pan (wrV 110) []):=by
 refine a0d (fun _=>false) Tryz.func73 Tryz.ntmps73 rfl rfl fun G hG hOw hNm=>?_;simp only [go_sem,hG,hOw]
 (repeat' with_reducible first|refine And.intro ?_ ?_|intro _|refine exP ?_ ?_);all_goals try omega
 refine a0a (a4a l) ?_
 rw [h]
 simp only [go_sem,hG,hOw]
 (repeat' with_reducible first|refine And.intro ?_ ?_|intro _|refine exP ?_ ?_);all_goals try omega
 refine a0b [] [] (a3z 110) ?_
 simp only [go_sem,hG,hOw]
 exact ⟨rfl,(a1u [])⟩
theorem c7g (l:List ByteArray) (h:a0v l=true):Tri Tryz.prog 73 [a0h 0 l,.fn (.func 74) [.ptr 0 0]] [(0,.box [.v (.slice none 0 0)])] (fun _=>match a8o l with
  |some t=>.ret (.tup []) [(0,.box [chs 0 t])]
  |none=>.pan (wrV 111) []):=by
 obtain ⟨hl1,hl2⟩:=a9j h
 refine a0d (fun _=>false) Tryz.func73 Tryz.ntmps73 rfl rfl fun G hG hOw hNm=>?_;simp only [go_sem,hG,hOw]
 (repeat' with_reducible first|refine And.intro ?_ ?_|intro _|refine exP ?_ ?_);all_goals try omega
 refine a0a (a4a l) ?_
 rw [h]
 simp only [go_sem,hG,hOw]
 (repeat' with_reducible first|refine And.intro ?_ ?_|intro _|refine exP ?_ ?_);all_goals try omega
 refine a0b [] [] (a0s 110) ?_
 simp only [go_sem,hG,hOw]
 (repeat' with_reducible first|refine And.intro ?_ ?_|intro _|refine exP ?_ ?_);all_goals try omega
 refine a6v (fun t:List Ch=>St.of [] [(0,.box [chs 0 t])]) (fun t=>a8o l=some t) ?_ ?_
 ·refine a0n (fun x:Nat×List Ch=>St.of [(1,.fn (.func 74) [.ptr 0 0]),(11,a0h 0 l),(12,i64 l.length),(13,i64 x.1)] [(0,.box [.own 100 0 x.2.length 2]),(100,.arx 115 2 (c5f x.2 101)),(101,.arr 32 1 ((d9q x.2).map (lnE 0)))]) (fun x=>x.1≤l.length∧a8o (l.take x.1)=some x.2) (fun x=>l.length - x.1) (0,[]) ⟨by simp,by simp [a8o,b5p]⟩ (by simp only [c2o,c2w];exact a2r [(0,some 0),(100,none),(101,none)]) ?_
  rintro ⟨k,t⟩ ⟨hk,hrd⟩
  simp only at hk hrd
  have hbd:=d2i hk hrd
  have hb1000:bdT 1000 t:=⟨by have:=hbd.1;omega,fun c hc=>by have:=hbd.2 c hc;omega⟩
  refine a0g _ _ _ ?_;simp only [go_sem,hG,hOw]
  (repeat' with_reducible first|refine And.intro ?_ ?_|intro _|refine exP ?_ ?_);all_goals try omega
  ·rename_i hlt
   have hkl:k < l.length:=by omega
   have hsz:=hl2 _ (List.getElem_mem hkl)
   refine a0a (b2z l[k] (by omega)) ?_
   obtain ⟨name,rest,hp⟩:∃ name rest,a0y l[k]=name::rest:=by
    cases hq:a0y l[k] with
    |nil=>exact (a5m _ hq).elim
    |cons a b=>exact ⟨a,b,rfl⟩
   have hpl:rest.length≤1000:=by have:=a8u l[k];rw [hp] at this;simp at this;omega
   have hps:∀ s ∈ rest,s.size≤100000:=fun s hs=>by have:=a7v l[k] s (by rw [hp];simp [hs]);omega
   rw [hp]
   simp only [go_sem,hG,hOw]
   (repeat' with_reducible first|refine And.intro ?_ ?_|intro _|refine exP ?_ ?_);all_goals try omega
   refine a0b [(0,20)] [] (a8a G.lo name rest) ?_
   simp only [go_sem,hG,hOw]
   (repeat' with_reducible first|refine And.intro ?_ ?_|intro _|refine exP ?_ ?_);all_goals try omega
   cases hst:b9j t name rest with
   |none =>
    have hno:a8o l=none:=c5x hkl hrd (by unfold b0c;rw [hp];simp only [hst])
    rw [hno]
    refine a0b [(0,0),(1,20),(2,100),(3,101)] [] (g0h G.lo t name rest hst hps hpl hb1000) ?_ (by (simp only [go_sem])<;>simp [a8d,lkR]) (by (simp only [go_sem,a1f,a0q,a0e,a1l])<;>simp [a8d,lkR]) (by simp [a0f,usH,toR,a8d,lkR])
    simp only [go_sem,hG,hOw]
    exact ⟨rfl,(a1u [])⟩
   |some q =>
    obtain ⟨t',r'⟩:=q
    have hrr:=d6v t' 5 205
    refine a0b [(0,0),(1,20),(2,100),(3,101)] [(4,204),(5,205)] (g4l G.lo t t' name rest r' hst hps hpl hb1000) ?_ (by (simp only [go_sem])<;>simp [a8d,lkR]) (by (simp only [go_sem,a1f,a0q,a0e,a1l])<;>simp [a8d,lkR]) (by simp [a0f,usH,toR,a8d,lkR])
    simp (maxSteps:=2000000) only [go_sem,hG,hOw,↓hrr]
    (repeat' with_reducible first|refine And.intro ?_ ?_|intro _|refine exP ?_ ?_);all_goals try omega
    ·rename_i hr0
     have hr0:r'=[]:=List.eq_nil_of_length_eq_zero (by omega)
     subst hr0
     have hsF:b0c t l[k]=some t':=by unfold b0c;rw [hp];simp only [hst]
     exact ⟨(k+1,t'),⟨by show k+1≤_;omega,by rw [b4l l k hkl,hrd];exact hsF⟩,by show l.length - (k+1) < _;omega,a2r [(0,some 0),(100,some 204),(101,some 205)] (by (simp only [go_sem])<;>simp [a8d,lkR]) (by (simp only [go_sem,a1f,a0q,a0e,a1l])<;>simp [a8d,lkR])⟩
    ·rename_i hr0
     have hno:a8o l=none:=c5x hkl hrd (by
      unfold b0c;rw [hp];simp only [hst]
      cases r' with
      |nil=>exact (hr0 rfl).elim
      |cons a b=>rfl)
     rw [hno]
     refine b1k [.int .i64 111] rfl rfl (by kernel_rfl) (by simp [chk,hG]) ?_
     simp only [go_sem,hG,hOw]
     (repeat' with_reducible first|refine And.intro ?_ ?_|intro _|refine exP ?_ ?_);all_goals try omega
     refine a7k rfl rfl ?_
     exact ⟨rfl,(a1u [])⟩
  ·rename_i hge
   obtain rfl:k=l.length:=by omega
   rw [List.take_length] at hrd
   refine ⟨t,hrd,?_⟩
   rcases a7m t with rfl|⟨i,c,rfl⟩
   ·refine b2q (fun i=>i == 100 || i == 101) ?_
    simp only [c2o,c2w]
    have hN:Pm.Sub (.lst G.lo 2 []) (.lst 0 2 []):=Sub.lo (Nat.zero_le _)
    exact a2r [(0,some 0)] (by (simp only [go_sem])<;>simp [hN]) (by (simp only [go_sem,a1f,a0q,a0e,a1l])<;>simp [hN])
   ·have hS:=f8b G.lo i c
    have hS:Pm.Sub (.lst G.lo 2 (List.map (chE 0) i++[[.v (.int .i64 c.id),.lst G.lo 1 (List.map (lnE 0) c.lines)]])) (.lst 0 2 (List.map (chE 0) (i++[c]))):=hS
    have hF:=f3x 115 32 i c (p:=fun i=>i == 100 || i == 101) (lo:=G.lo) (s:=St.of [] [(0,.box [.own 100 0 (i.length+1) 2]),(100,.arx 115 2 (i.map (chE 0)++[[i64 c.id,.own 101 0 c.lines.length 1]])),(101,.arr 32 1 (c.lines.map (lnE 0)))]) rfl rfl rfl rfl
    have hOB:a1l [(0,some 0)] (.box [chs 0 (i++[c])]) (some (.box (List.map (vwF (fun i=>i == 100 || i == 101) G.lo (St.of [] [(0,.box [.own 100 0 (i.length+1) 2]),(100,.arx 115 2 (i.map (chE 0)++[[i64 c.id,.own 101 0 c.lines.length 1]])),(101,.arr 32 1 (c.lines.map (lnE 0)))]) 4) [.own 100 0 (i.length+1) 2]))):=by
     rw [hF]
     exact ⟨.inr ⟨rfl,hS⟩,trivial⟩
    have E3:Ent G (frz (fun i=>i == 100 || i == 101) G.lo (St.of [] [(0,.box [.own 100 0 (i.length+1) 2]),(100,.arx 115 2 (i.map (chE 0)++[[i64 c.id,.own 101 0 c.lines.length 1]])),(101,.arr 32 1 (c.lines.map (lnE 0)))])) (St.of [] [(0,.box [chs 0 (i++[c])])]):=by
     refine a1k [(0,some 0)] (by trivial) (by refine And.intro ?_ trivial;exact hOB) (by simp [a2s,apart]) (by simp [a0f,usH]) (by simp [hNm,lkR,a0z])
    refine fun a w h=>E3 a w (b4b _ a w (?_:Sim _ _ _ _))
    simp only [a5x,b0i,List.length_append,List.length_singleton] at h
    exact (a2r [(0,some 0),(100,some 100),(101,some 101)] (by (simp only [go_sem])<;>simp [a9c,c7v,okL,okN,i64,lkR]) (by (simp only [go_sem,a1f,a0q,a0e,a1l])<;>simp [a9c,c7v,okL,okN,i64,lkR])) a w h
 ·rintro t ht
  rw [ht]
  simp only [go_sem,hG,hOw]
  (repeat' with_reducible first|refine And.intro ?_ ?_|intro _|refine exP ?_ ?_);all_goals try omega
  exact (a1u [(0,some 0)])
open Go Pm Go.RowKit Go.Sort
set_option maxRecDepth 100000
set_option maxHeartbeats 4000000
theorem d3t (l:List ByteArray) (t:List Ch) (h:a0v l=true) (hr:a8o l=some t):Tri Tryz.prog 71 [.ptr 0 0,.ptr 1 0,.ptr 2 0] [(0,.box [i64 0]),(1,.box [a0h 0 l]),(2,.box [.v (.slice none 0 0)])]
  (fun _=>.ret (.tup []) [(0,.box [i64 0]),(1,.box [a0h 0 l]),(2,.box [chs 0 t])]):=by
 have hU:=c7g l h
 simp only [hr] at hU
 refine a4o (fun _=>false) (told:=72) (p:=0) (x:=.int .i64 0) wrV (fun _=>True) Tryz.func71 Tryz.ntmps71 rfl (by kernel_rfl) (by simp) rfl rfl rfl rfl rfl (by simp [a0z]) a5w (fun k _=>a5r k) fun G hG hOw hNm _=>?_
 simp only [go_sem,hG,hOw]
 (repeat' with_reducible first|refine And.intro ?_ ?_|intro _|refine exP ?_ ?_);all_goals try omega
 refine a0b [(0,2)] [] (hU) ?_
 simp (maxSteps:=2000000) only [go_sem,hG,hOw,c2p,c3i]
 (repeat' with_reducible first|refine And.intro ?_ ?_|intro _|refine exP ?_ ?_);all_goals try omega
 exact (a1u [(0,some 0),(1,some 1),(2,some 2)])
theorem c9l (l:List ByteArray) (k:Int) (h:a0v l=false∧k=110∨a0v l=true∧a8o l=none∧k=111):Tri Tryz.prog 71 [.ptr 0 0,.ptr 1 0,.ptr 2 0] [(0,.box [i64 0]),(1,.box [a0h 0 l]),(2,.box [.v (.slice none 0 0)])]
  (fun _=>.ret (.tup []) [(0,.box [i64 k]),(1,.box [a0h 0 l])]):=by
 have hU:Tri Tryz.prog 73 [a0h 0 l,.fn (.func 74) [.ptr 0 0]] [(0,.box [.v (.slice none 0 0)])] (fun _=>.pan (wrV k) []):=by
  rcases h with ⟨h1,rfl⟩|⟨h1,h2,rfl⟩
  ·exact e2s l h1
  ·have:=c7g l h1
   simp only [h2] at this
   exact this
 refine a4o (fun _=>false) (told:=72) (p:=0) (x:=.int .i64 0) wrV (fun _=>True) Tryz.func71 Tryz.ntmps71 rfl (by kernel_rfl) (by simp) rfl rfl rfl rfl rfl (by simp [a0z]) a5w (fun k _=>a5r k) fun G hG hOw hNm _=>?_
 simp only [go_sem,hG,hOw]
 (repeat' with_reducible first|refine And.intro ?_ ?_|intro _|refine exP ?_ ?_);all_goals try omega
 refine a0b [(0,2)] [] (hU) ?_
 simp (maxSteps:=2000000) only [go_sem,hG,hOw,b8e]
 (repeat' with_reducible first|refine And.intro ?_ ?_|intro _|refine exP ?_ ?_);all_goals try omega
 exact ⟨k,rfl,(a1u [(0,some 0),(1,some 1)])⟩
def a8h (l:List ByteArray):List Ch×Int:=if a0v l then match a8o l with
  |some t=>if a1z t then (t,0) else ([],10)
  |none=>([],111)
 else ([],110)
theorem d7q (l:List ByteArray):a0p Tryz.prog 16 [a0h 0 l] (fun _=>.tup [txE 0 (a8h l).1,i64 (a8h l).2]):=by
 by_cases hgood:a0v l=true∧∃ t,a8o l=some t
 ·obtain ⟨h1,t,h2⟩:=hgood
  have e:a8h l=if a1z t then (t,0) else ([],10):=by unfold a8h;simp only [h1,h2,if_true]
  rw [e]
  refine a0c (ow:=fun _=>false) Tryz.func16 Tryz.ntmps16 rfl rfl fun G hG hOw hNm hB=>?_;simp only [go_sem,hG,hOw]
  (repeat' with_reducible first|refine And.intro ?_ ?_|intro _|refine exP ?_ ?_);all_goals try omega
  refine a0b [(0,5),(1,1),(2,4)] [] (d3t l t h1 h2) ?_
  simp only [go_sem,hG,hOw]
  (repeat' with_reducible first|refine And.intro ?_ ?_|intro _|refine exP ?_ ?_);all_goals try omega
  refine a0a (a3p t) ?_
  cases htx:a1z t with
  |false =>
   simp only [go_sem,hG,hOw]
   (repeat' with_reducible first|refine And.intro ?_ ?_|intro _|refine exP ?_ ?_);all_goals try omega
   refine a1s ⟨[2,5],[],[]⟩ [(0,false),(1,false),(2,false),(3,false)] mixed (by kernel_rfl) ?_
   simp only [a2v,List.getElem?_cons_zero,List.getElem?_cons_succ]
   simp only [go_sem,hG,hOw]
   (repeat' with_reducible first|refine And.intro ?_ ?_|intro _|refine exP ?_ ?_);all_goals try omega
   exact Subs.tup (.cons (Subs.agg (.cons (.nil _ _) .nil)) (.cons (.refl _) .nil))
  |true =>
   simp only [go_sem,hG,hOw]
   (repeat' with_reducible first|refine And.intro ?_ ?_|intro _|refine exP ?_ ?_);all_goals try omega
 ·obtain ⟨k,hk,e⟩:∃ k:Int,(a0v l=false∧k=110∨a0v l=true∧a8o l=none∧k=111)∧a8h l=([],k):=by
   cases h1:a0v l with
   |false=>exact ⟨110,.inl ⟨rfl,rfl⟩,by unfold a8h;simp [h1]⟩
   |true =>
    cases h2:a8o l with
    |none=>exact ⟨111,.inr ⟨rfl,rfl,rfl⟩,by unfold a8h;simp [h1,h2]⟩
    |some t=>exact (hgood ⟨h1,t,h2⟩).elim
  have hk0:k≠0:=by rcases hk with ⟨_,rfl⟩|⟨_,_,rfl⟩<;>decide
  rw [e]
  refine a0c (ow:=fun _=>false) Tryz.func16 Tryz.ntmps16 rfl rfl fun G hG hOw hNm hB=>?_;simp only [go_sem,hG,hOw]
  (repeat' with_reducible first|refine And.intro ?_ ?_|intro _|refine exP ?_ ?_);all_goals try omega
  refine a0b [(0,5),(1,1),(2,4)] [] (c9l l k hk) ?_
  simp (maxSteps:=2000000) only [go_sem,hG,hOw,hk0]
  (repeat' with_reducible first|refine And.intro ?_ ?_|intro _|refine exP ?_ ?_);all_goals try omega
  refine a1s ⟨[2,5],[],[]⟩ [(0,false),(1,false),(2,false),(3,false)] mixed (by kernel_rfl) ?_
  simp only [a2v,List.getElem?_cons_zero,List.getElem?_cons_succ]
  simp only [go_sem,hG,hOw]
  (repeat' with_reducible first|refine And.intro ?_ ?_|intro _|refine exP ?_ ?_);all_goals try omega
  exact Subs.tup (.cons (Subs.agg (.cons (.nil _ _) .nil)) (.cons (.refl _) .nil))
end Go.Proofs.YtmjhfccbbfpppaaGreatDoor
