import Derived.Test.YtmjhfccbbfpppaaGreatDoorQX10
import Derived.Test.YtmjhfccbbfpppaaGreatDoorQX13
import Derived.Test.YtmjhfccbbfpppaaGreatDoorQX15
import Derived.Test.YtmjhfccbbfpppaaGreatDoorQX21
import Derived.Test.YtmjhfccbbfpppaaGreatDoorQX23
import Derived.Test.YtmjhfccbbfpppaaGreatDoorQX24
namespace Go.Proofs.YtmjhfccbbfpppaaGreatDoor
open Go Pm Go.RowKit
set_option linter.unusedSimpArgs false
set_option linter.unusedVariables false
set_option maxRecDepth 100000
set_option maxHeartbeats 4000000
def wrV (k:Int):Value:=.iface 145 (.agg #[.int .i64 k])
theorem a1o (k:Int):Tri Tryz.prog 76 [bl true,i64 k] [] (fun _=>.ret (.tup []) []):=by
 refine a0i (fun _=>false) Tryz.func76 Tryz.ntmps76 rfl rfl fun G hG hOw hNm=>?_;simp only [go_sem,hG,hOw]
 (repeat' with_reducible first|refine And.intro ?_ ?_|intro _|refine exP ?_ ?_);all_goals try omega
 exact (a3j [])
theorem a6b (k:Int):Tri Tryz.prog 76 [bl false,i64 k] [] (fun _=>.pan (wrV k) []):=by
 refine a0i (fun _=>false) Tryz.func76 Tryz.ntmps76 rfl rfl fun G hG hOw hNm=>?_;simp only [go_sem,hG,hOw]
 (repeat' with_reducible first|refine And.intro ?_ ?_|intro _|refine exP ?_ ?_);all_goals try omega
 refine b3z [.int .i64 k] rfl rfl (by kernel_rfl) (by simp [chk,hG]) ?_
 simp only [go_sem,hG,hOw]
 (repeat' with_reducible first|refine And.intro ?_ ?_|intro _|refine exP ?_ ?_);all_goals try omega
 refine a9r rfl rfl ?_
 simp only [go_sem,hG,hOw]
 exact ⟨rfl,(a3j [])⟩
theorem a9h (k:Int):f5j Tryz.prog 72 [.ptr 0 0] [(0,.box [i64 0])] (.panicking [{ v:=wrV k,recovered:=false }]) (.panicking [{ v:=wrV k,recovered:=true }]) [(0,.box [i64 k])]:=by
 refine b9s _ _ (wrV k) Tryz.func72 Tryz.ntmps72 rfl (by kernel_rfl) (by simp) rfl rfl rfl rfl (by simp) (fun c₀ cs h=>?_) fun G hG hOw hNm=>?_
 ·simp [recoverD,h]
 simp only [go_sem,hG,hOw]
 (repeat' with_reducible first|refine And.intro ?_ ?_|intro _|refine exP ?_ ?_);all_goals try omega
 refine a7m (wrV k) false .eql (.inl ⟨rfl,rfl⟩) rfl rfl (.inr ⟨_,_,rfl⟩) (by kernel_rfl) (by simp [chk,hG]) ?_
 simp only [go_sem,hG,hOw]
 (repeat' with_reducible first|refine And.intro ?_ ?_|intro _|refine exP ?_ ?_);all_goals try omega
 refine d9x [.int .i64 k] rfl rfl (by kernel_rfl) (by simp [chk,hG]) ?_
 simp only [go_sem,hG,hOw]
 (repeat' with_reducible first|refine And.intro ?_ ?_|intro _|refine exP ?_ ?_);all_goals try omega
 exact (a3j [(0,some 0)])
theorem a8s:f5j Tryz.prog 72 [.ptr 0 0] [(0,.box [i64 0])] .returning .returning [(0,.box [i64 0])]:=by
 refine b9s _ _ .nilIface Tryz.func72 Tryz.ntmps72 rfl (by kernel_rfl) (by simp) rfl rfl rfl rfl (by simp) (fun c₀ cs h=>?_) fun G hG hOw hNm=>?_
 ·simp [recoverD,h]
 simp only [go_sem,hG,hOw]
 (repeat' with_reducible first|refine And.intro ?_ ?_|intro _|refine exP ?_ ?_);all_goals try omega
 refine a7m .nilIface true .eql (.inl ⟨rfl,rfl⟩) rfl rfl (.inl rfl) (by kernel_rfl) (by simp [chk,hG]) ?_
 simp only [go_sem,hG,hOw]
 (repeat' with_reducible first|refine And.intro ?_ ?_|intro _|refine exP ?_ ?_);all_goals try omega
 exact (a3j [(0,some 0)])
theorem a9s (lo:Nat) (s:ByteArray) (l:List ByteArray):Tri Tryz.prog 141 [.ptr 0 0] [(0,.box [a0n lo (s::l)])] (fun _=>.ret (.v (.string s)) [(0,.box [a0n lo l])]):=by
 refine a0i (fun _=>false) Tryz.func141 Tryz.ntmps141 rfl rfl fun G hG hOw hNm=>?_;simp only [go_sem,hG,hOw]
 (repeat' with_reducible first|refine And.intro ?_ ?_|intro _|refine exP ?_ ?_);all_goals try omega
 refine a0c [] [] (a1o 111) ?_
 simp (maxSteps:=2000000) only [go_sem,hG,hOw,List.map_cons,List.length_cons,List.getElem_cons_zero]
 (repeat' with_reducible first|refine And.intro ?_ ?_|intro _|refine exP ?_ ?_);all_goals try omega
 exact (a3j [(0,some 0)])
theorem d9e (lo:Nat):Tri Tryz.prog 141 [.ptr 0 0] [(0,.box [a0n lo []])] (fun _=>.pan (wrV 111) []):=by
 refine a0i (fun _=>false) Tryz.func141 Tryz.ntmps141 rfl rfl fun G hG hOw hNm=>?_;simp only [go_sem,hG,hOw]
 (repeat' with_reducible first|refine And.intro ?_ ?_|intro _|refine exP ?_ ?_);all_goals try omega
 refine a0c [] [] (a6b 111) ?_
 simp only [go_sem,hG,hOw]
 exact ⟨rfl,(a3j [])⟩
theorem c3c (b:UInt8):a0o Tryz.prog 144 [.v (.int .u8 b.toNat)] (fun _=>bl (!a1s b)):=by
 refine a0b (ow:=fun _=>false) Tryz.func144 Tryz.ntmps144 rfl rfl fun G hG hOw hNm hB=>?_;simp only [go_sem,hG,hOw]
 (repeat' with_reducible first|refine And.intro ?_ ?_|intro _|refine exP ?_ ?_);all_goals try omega
 ·rename_i h;simp [a1s];intro;omega
 ·rename_i h;simp [a1s];omega
theorem b4c (lo hi n:Int):a0o Tryz.prog 95 [i64 lo,i64 hi,.lst 0 1 [[i64 n]]] (fun _=>bl (inB n lo hi)):=by
 have h:=f3e lo hi [n]
 have e:([n].all fun n=>decide (lo≤n) && decide (n≤hi))=inB n lo hi:=by simp [inB]
 rw [e] at h
 exact h
theorem b4d (lo:Nat) (s:ByteArray) (l:List ByteArray) (h:a1h s=true):Tri Tryz.prog 86 [.ptr 0 0] [(0,.box [a0n lo (s::l)])] (fun _=>.ret (.v (.string s)) [(0,.box [a0n lo l])]):=by
 have h1:inB s.size 1 12=true:=by unfold a1h at h;simp at h;exact h.2
 have h2:(s.data.toList.any fun b=>!a1s b)=false:=by unfold a1h at h;rw [Bool.and_eq_true] at h;rw [List.any_eq_false];intro x hx;have:=List.all_eq_true.1 h.1 x hx;simp [this]
 have h3:s.size≤12:=by simp [inB] at h1;omega
 refine a0i (fun _=>false) Tryz.func86 Tryz.ntmps86 rfl rfl fun G hG hOw hNm=>?_;simp only [go_sem,hG,hOw]
 (repeat' with_reducible first|refine And.intro ?_ ?_|intro _|refine exP ?_ ?_);all_goals try omega
 refine a0c [(0,0)] [] (a9s lo s l) ?_
 simp only [go_sem,hG,hOw]
 (repeat' with_reducible first|refine And.intro ?_ ?_|intro _|refine exP ?_ ?_);all_goals try omega
 refine a0a (b4c 1 12 s.size) ?_
 rw [h1]
 simp only [go_sem,hG,hOw]
 (repeat' with_reducible first|refine And.intro ?_ ?_|intro _|refine exP ?_ ?_);all_goals try omega
 refine a0a (a3f _ [] (fun b=>!a1s b) s.data.toList rfl (fun b _=>c3c b)) ?_
 rw [h2]
 simp only [go_sem,hG,hOw]
 (repeat' with_reducible first|refine And.intro ?_ ?_|intro _|refine exP ?_ ?_);all_goals try omega
 refine a0c [] [] (a1o 111) ?_
 simp only [go_sem,hG,hOw]
 (repeat' with_reducible first|refine And.intro ?_ ?_|intro _|refine exP ?_ ?_);all_goals try omega
 exact (a3j [(0,some 0)])
theorem b4m (lo:Nat) (s:ByteArray) (l:List ByteArray) (h:a1h s=false):Tri Tryz.prog 86 [.ptr 0 0] [(0,.box [a0n lo (s::l)])] (fun _=>.pan (wrV 111) []):=by
 refine a0i (fun _=>false) Tryz.func86 Tryz.ntmps86 rfl rfl fun G hG hOw hNm=>?_;simp only [go_sem,hG,hOw]
 (repeat' with_reducible first|refine And.intro ?_ ?_|intro _|refine exP ?_ ?_);all_goals try omega
 refine a0c [(0,0)] [] (a9s lo s l) ?_
 simp only [go_sem,hG,hOw]
 (repeat' with_reducible first|refine And.intro ?_ ?_|intro _|refine exP ?_ ?_);all_goals try omega
 refine a0a (b4c 1 12 s.size) ?_
 cases h1:inB s.size 1 12 with
 |false =>
  simp only [go_sem,hG,hOw]
  (repeat' with_reducible first|refine And.intro ?_ ?_|intro _|refine exP ?_ ?_);all_goals try omega
  refine a0c [] [] (a6b 111) ?_
  simp only [go_sem,hG,hOw]
  exact ⟨rfl,(a3j [])⟩
 |true =>
  have h2:(s.data.toList.any fun b=>!a1s b)=true:=by unfold a1h at h;rw [h1,Bool.and_true] at h;rw [List.all_eq_false] at h;rw [List.any_eq_true];obtain ⟨x,hx,h⟩:=h;exact ⟨x,hx,by simpa using h⟩
  have h3:s.size≤12:=by simp [inB] at h1;omega
  simp only [go_sem,hG,hOw]
  (repeat' with_reducible first|refine And.intro ?_ ?_|intro _|refine exP ?_ ?_);all_goals try omega
  refine a0a (a3f _ [] (fun b=>!a1s b) s.data.toList rfl (fun b _=>c3c b)) ?_
  rw [h2]
  simp only [go_sem,hG,hOw]
  (repeat' with_reducible first|refine And.intro ?_ ?_|intro _|refine exP ?_ ?_);all_goals try omega
  refine a0c [] [] (a6b 111) ?_
  simp only [go_sem,hG,hOw]
  exact ⟨rfl,(a3j [])⟩
theorem c7f (lo:Nat):Tri Tryz.prog 86 [.ptr 0 0] [(0,.box [a0n lo []])] (fun _=>.pan (wrV 111) []):=by
 refine a0i (fun _=>false) Tryz.func86 Tryz.ntmps86 rfl rfl fun G hG hOw hNm=>?_;simp only [go_sem,hG,hOw]
 (repeat' with_reducible first|refine And.intro ?_ ?_|intro _|refine exP ?_ ?_);all_goals try omega
 refine a0c [(0,0)] [] (d9e lo) ?_
 simp only [go_sem,hG,hOw]
 exact ⟨rfl,(a3j [])⟩
open Go Pm Go.RowKit
set_option maxRecDepth 100000
set_option maxHeartbeats 4000000
theorem c5f (lo:Nat) (l:List ByteArray) (hl:l.length≤1000):Tri Tryz.prog 77 [.ptr 0 0] [(0,.box [a0n lo l])] (fun n=>if a6f l then .ret (a0n n l) [(0,.box [a0n lo []])] else .pan (wrV 111) []):=by
 refine a0i (fun i=>[6].contains i) Tryz.func77 Tryz.ntmps77 rfl rfl fun G hG hOw hNm=>?_;simp only [go_sem,hG,hOw]
 (repeat' with_reducible first|refine And.intro ?_ ?_|intro _|refine exP ?_ ?_);all_goals try omega
 cases l with
 |nil =>
  refine a0c [(0,0)] [] (c7f lo) ?_
  simp only [go_sem,hG,hOw]
  exact ⟨rfl,(a3j [])⟩
 |cons s r =>
  cases hs:a1h s with
  |false =>
   rw [show a6f (s::r)=false by simp [a6f,hs]]
   refine a0c [(0,0)] [] (b4m lo s r hs) ?_
   simp only [go_sem,hG,hOw]
   exact ⟨rfl,(a3j [])⟩
  |true =>
   refine a0c [(0,0)] [] (b4d lo s r hs) ?_
   simp only [go_sem,hG,hOw]
   (repeat' with_reducible first|refine And.intro ?_ ?_|intro _|refine exP ?_ ?_);all_goals try omega
   obtain ⟨l,hl'⟩:∃ l,l=s::r:=⟨_,rfl⟩
   rw [← hl'] at hl
   rw [← hl']
   refine a2o (fun _:Unit=>St.of [(0,.ptr 0 0),(3,a0n G.lo l)] [(0,.box [a0n lo []])]) (fun _=>l.all a1h=true) ?_ ?_
   ·refine a0l (fun k:Nat=>St.of [(0,.ptr 0 0),(3,.own 9 0 k 1)] [(0,.box [a0n lo (l.drop k)]),(9,.arr 9 1 ((l.take k).map a1t))]) (fun k=>1≤k∧k≤l.length∧(l.take k).all a1h=true) (fun k=>l.length - k) 1 ⟨by omega,by simp [hl'],by simp [hl',hs]⟩ (by subst hl';exact a2a [(0,some 0),(9,some 6)]) ?_
    rintro k ⟨h1,h2,h3⟩
    refine a0e _ _ _ ?_;simp only [go_sem,hG,hOw]
    (repeat' with_reducible first|refine And.intro ?_ ?_|intro _|refine exP ?_ ?_);all_goals try omega
    ·rename_i hlt
     have hk:k < l.length:=by simp at hlt;omega
     rw [List.drop_eq_getElem_cons hk]
     cases hw:a1h l[k] with
     |false =>
      refine a0c [(0,0)] [] (b4m lo l[k] (l.drop (k+1)) hw) ?_
      simp only [go_sem,hG,hOw]
      rw [if_neg (by simp [a6f];intro _;exact ⟨_,List.getElem_mem hk,hw⟩)]
      exact ⟨rfl,(a3j [])⟩
     |true =>
      refine a0c [(0,0)] [] (b4d lo l[k] (l.drop (k+1)) hw) ?_
      simp only [go_sem,hG,hOw]
      (repeat' with_reducible first|refine And.intro ?_ ?_|intro _|refine exP ?_ ?_);all_goals try omega
      refine ⟨k+1,⟨by omega,by omega,a0u hk h3 hw⟩,by omega,?_⟩
      exact a2a [(0,some 0),(9,some 17)] (by (simp only [go_sem])<;>simp [a2s a1t l k hk,a1t,Nat.min_eq_left h2]) (by (simp only [go_sem,a1f,a0q,a0f,a1l])<;>simp [a2s a1t l k hk,a1t,Nat.min_eq_left h2])
    ·rename_i hlt
     have hk:k=l.length:=by simp at hlt;omega
     subst hk
     rw [List.take_length] at h3
     rw [List.take_length,List.drop_length]
     exact ⟨(),h3,fun a w h=>(a2a [(0,some 0)]) a w (b3f (fun i=>i == 9) a w h)⟩
   ·rintro _ hall
    subst hl'
    rw [if_pos (by unfold a6f;rw [hall];simp)]
    simp only [go_sem,hG,hOw]
    (repeat' with_reducible first|refine And.intro ?_ ?_|intro _|refine exP ?_ ?_);all_goals try omega
    exact ⟨[(0,some 0)],by (simp only [b6t,go_sem,a1f,a0q,a0f,a1l,apart,a2l,a0h])<;>simp [a1t]⟩
open Go Pm Go.RowKit
set_option maxRecDepth 100000
set_option maxHeartbeats 4000000
theorem d4c (lo:Nat):Tri Tryz.prog 75 [.ptr 0 0] [(0,.box [a0n lo []])] (fun _=>.pan (wrV 111) []):=by
 refine a0i (fun _=>false) Tryz.func75 Tryz.ntmps75 rfl rfl fun G hG hOw hNm=>?_;simp only [go_sem,hG,hOw]
 (repeat' with_reducible first|refine And.intro ?_ ?_|intro _|refine exP ?_ ?_);all_goals try omega
 refine a0c [(0,0)] [] (d9e lo) ?_
 simp only [go_sem,hG,hOw]
 exact ⟨rfl,(a3j [])⟩
theorem a9n (lo:Nat) (s:ByteArray) (l:List ByteArray) (v:Int) (hs:s.size≤100000) (h:a4c s=some v):Tri Tryz.prog 75 [.ptr 0 0] [(0,.box [a0n lo (s::l)])] (fun _=>.ret (i64 v) [(0,.box [a0n lo l])]):=by
 obtain ⟨h1,h2,h3,h4⟩:=b8i h
 have hin:inB v 0 9999=true:=by simp [inB,h2,h3]
 have hnb:a2d v=s:=by rw [a2d,h1,c0i]
 refine a0i (fun _=>false) Tryz.func75 Tryz.ntmps75 rfl rfl fun G hG hOw hNm=>?_;simp only [go_sem,hG,hOw]
 (repeat' with_reducible first|refine And.intro ?_ ?_|intro _|refine exP ?_ ?_);all_goals try omega
 refine a0c [(0,0)] [] (a9s lo s l) ?_
 simp only [go_sem,hG,hOw]
 (repeat' with_reducible first|refine And.intro ?_ ?_|intro _|refine exP ?_ ?_);all_goals try omega
 refine a0a (c9q s hs v h4) ?_
 simp only [go_sem,hG,hOw]
 (repeat' with_reducible first|refine And.intro ?_ ?_|intro _|refine exP ?_ ?_);all_goals try omega
 refine a7m .nilIface true .eql (.inl ⟨rfl,rfl⟩) rfl rfl (.inl rfl) (by kernel_rfl) (by simp [chk,hG]) ?_
 simp only [go_sem,hG,hOw]
 (repeat' with_reducible first|refine And.intro ?_ ?_|intro _|refine exP ?_ ?_);all_goals try omega
 refine a0a (b4c 0 9999 v) ?_
 rw [hin]
 simp only [go_sem,hG,hOw]
 (repeat' with_reducible first|refine And.intro ?_ ?_|intro _|refine exP ?_ ?_);all_goals try omega
 refine a0a (a4q v h2 h3) ?_
 rw [hnb]
 simp only [go_sem,hG,hOw]
 (repeat' with_reducible first|refine And.intro ?_ ?_|intro _|refine exP ?_ ?_);all_goals try omega
 refine a0c [] [] (a1o 111) ?_
 simp only [go_sem,hG,hOw]
 (repeat' with_reducible first|refine And.intro ?_ ?_|intro _|refine exP ?_ ?_);all_goals try omega
 exact (a3j [(0,some 0)])
theorem d3f (lo:Nat) (s:ByteArray) (l:List ByteArray) (hs:s.size≤100000) (h:a4c s=none):Tri Tryz.prog 75 [.ptr 0 0] [(0,.box [a0n lo (s::l)])] (fun _=>.pan (wrV 111) []):=by
 refine a0i (fun _=>false) Tryz.func75 Tryz.ntmps75 rfl rfl fun G hG hOw hNm=>?_;simp only [go_sem,hG,hOw]
 (repeat' with_reducible first|refine And.intro ?_ ?_|intro _|refine exP ?_ ?_);all_goals try omega
 refine a0c [(0,0)] [] (a9s lo s l) ?_
 simp only [go_sem,hG,hOw]
 (repeat' with_reducible first|refine And.intro ?_ ?_|intro _|refine exP ?_ ?_);all_goals try omega
 by_cases ha:∃ v,Lib.atoiAll s.data.toList=.ok v
 ·obtain ⟨v,hv⟩:=ha
  have hno:¬ (inB v 0 9999=true∧a2d v=s):=by
   rcases d9v s v hv with q|q
   ·rw [h] at q;cases q.2
   ·exact q.1
  refine a0a (c9q s hs v hv) ?_
  simp only [go_sem,hG,hOw]
  (repeat' with_reducible first|refine And.intro ?_ ?_|intro _|refine exP ?_ ?_);all_goals try omega
  refine a7m .nilIface true .eql (.inl ⟨rfl,rfl⟩) rfl rfl (.inl rfl) (by kernel_rfl) (by simp [chk,hG]) ?_
  simp only [go_sem,hG,hOw]
  (repeat' with_reducible first|refine And.intro ?_ ?_|intro _|refine exP ?_ ?_);all_goals try omega
  refine a0a (b4c 0 9999 v) ?_
  cases hin:inB v 0 9999 with
  |false =>
   simp only [go_sem,hG,hOw]
   (repeat' with_reducible first|refine And.intro ?_ ?_|intro _|refine exP ?_ ?_);all_goals try omega
   refine a0c [] [] (a6b 111) ?_
   simp only [go_sem,hG,hOw]
   exact ⟨rfl,(a3j [])⟩
  |true =>
   have hb:0≤v∧v≤9999:=by simpa [inB] using hin
   simp only [go_sem,hG,hOw]
   (repeat' with_reducible first|refine And.intro ?_ ?_|intro _|refine exP ?_ ?_);all_goals try omega
   refine a0a (a4q v hb.1 hb.2) ?_
   have hne:a2d v≠s:=fun e=>hno ⟨hin,e⟩
   simp (maxSteps:=2000000) only [go_sem,hG,hOw,hne]
   (repeat' with_reducible first|refine And.intro ?_ ?_|intro _|refine exP ?_ ?_);all_goals try omega
   refine a0c [] [] (a6b 111) ?_
   simp only [go_sem,hG,hOw]
   exact ⟨rfl,(a3j [])⟩
 ·have ha':∀ v,Lib.atoiAll s.data.toList≠.ok v:=fun v hv=>ha ⟨v,hv⟩
  refine e1s (f2g s hs ha') (by first|exact Subs.refl _|(repeat' (first|exact Subs.nil|exact Sub.refl _|exact Sub.lo (Nat.zero_le _)|refine Subs.cons ?_ ?_|refine Subs.agg ?_|refine Subs.fp ?_|refine Subs.tup ?_|refine Sub.map (Nat.zero_le _) (fun _=>?_)))) (by first|rfl|simp [b0t,b4l,pureV,pure0, *]) (by simp [chk,hG]) ?_
  rintro _ ⟨n,t,p,rfl⟩
  simp only [go_sem,hG,hOw]
  (repeat' with_reducible first|refine And.intro ?_ ?_|intro _|refine exP ?_ ?_);all_goals try omega
  refine a7m (.iface t p) false .eql (.inl ⟨rfl,rfl⟩) rfl rfl (.inr ⟨_,_,rfl⟩) (by kernel_rfl) (by simp [chk,hG]) ?_
  simp only [go_sem,hG,hOw]
  (repeat' with_reducible first|refine And.intro ?_ ?_|intro _|refine exP ?_ ?_);all_goals try omega
  refine a0c [] [] (a6b 111) ?_
  simp only [go_sem,hG,hOw]
  exact ⟨rfl,(a3j [])⟩
theorem b2i (lo:Nat) (l:List ByteArray) (hl:∀ s ∈ l,s.size≤100000) (h:∀ s r,l=s::r→a4c s=none):Tri Tryz.prog 75 [.ptr 0 0] [(0,.box [a0n lo l])] (fun _=>.pan (wrV 111) []):=by
 cases l with
 |nil=>exact d4c lo
 |cons s r=>exact d3f lo s r (hl s (by simp)) (h s r rfl)
def nvS (l:List ByteArray) (j:Nat):Int:=(a4c (l.getD j ByteArray.empty)).getD 0
def c3d (l:List ByteArray) (j:Nat):Bool:=decide (j < l.length) && (a4c (l.getD j ByteArray.empty)).isSome
def a3k (l:List ByteArray):Bool:=c3d l 0 && c3d l 1 && c3d l 2
theorem e7m {l:List ByteArray} {j:Nat} (h:c3d l j=true):∃ hj:j < l.length,a4c l[j]=some (nvS l j):=by
 simp only [c3d,Bool.and_eq_true,decide_eq_true_eq] at h
 obtain ⟨hj,h2⟩:=h
 have e:l.getD j ByteArray.empty=l[j]:=by simp [List.getD,hj]
 rw [e] at h2
 refine ⟨hj,?_⟩
 unfold nvS
 rw [e]
 cases hv:a4c l[j] with
 |none=>rw [hv] at h2;cases h2
 |some v=>rfl
theorem f2j {l:List ByteArray} {j:Nat} (h:c3d l j=false):∀ s r,l.drop j=s::r→a4c s=none:=by
 intro s r e
 have hj:j < l.length:=by
  rcases Nat.lt_or_ge j l.length with q|q
  ·exact q
  ·rw [List.drop_eq_nil_of_le q] at e;cases e
 have e1:s=l[j]:=by rw [List.drop_eq_getElem_cons hj] at e;exact (List.cons.inj e).1.symm
 simp only [c3d,hj,decide_true,Bool.true_and] at h
 have e2:l.getD j ByteArray.empty=l[j]:=by simp [List.getD,hj]
 rw [e2,← e1] at h
 cases hv:a4c s with
 |none=>rfl
 |some v=>rw [hv] at h;cases h
theorem b4t (lo:Nat) (l:List ByteArray) (j:Nat) (hl:∀ s ∈ l,s.size≤100000) (h:c3d l j=true):Tri Tryz.prog 75 [.ptr 0 0] [(0,.box [a0n lo (l.drop j)])] (fun _=>.ret (i64 (nvS l j)) [(0,.box [a0n lo (l.drop (j+1))])]):=by
 obtain ⟨hj,hv⟩:=e7m h
 rw [List.drop_eq_getElem_cons hj]
 exact a9n lo l[j] (l.drop (j+1)) (nvS l j) (hl _ (List.getElem_mem hj)) hv
theorem b2k (lo:Nat) (l:List ByteArray) (j:Nat) (hl:∀ s ∈ l,s.size≤100000) (h:c3d l j=false):Tri Tryz.prog 75 [.ptr 0 0] [(0,.box [a0n lo (l.drop j)])] (fun _=>.pan (wrV 111) []) :=
 b2i lo (l.drop j) (fun s hs=>hl s (List.mem_of_mem_drop hs)) (f2j h)
def plK (l:List ByteArray):Nat→List V
 |0=>[i64 0,i64 0,i64 0]
 |1=>[i64 (nvS l 0),i64 0,i64 0]
 |2=>[i64 (nvS l 0),i64 (nvS l 1),i64 0]
 |_=>[i64 (nvS l 0),i64 (nvS l 1),i64 (nvS l 2)]
theorem g2x (l:List ByteArray):plK l 0=[i64 0,i64 0,i64 0]:=rfl
theorem g2f (l:List ByteArray):plK l 1=[i64 (nvS l 0),i64 0,i64 0]:=rfl
theorem g0j (l:List ByteArray):plK l 2=[i64 (nvS l 0),i64 (nvS l 1),i64 0]:=rfl
theorem g1o (l:List ByteArray):plK l 3=[i64 (nvS l 0),i64 (nvS l 1),i64 (nvS l 2)]:=rfl
attribute [go_sem] g2x g2f g0j g1o
theorem a4h (lo:Nat) (l:List ByteArray) (hl:∀ s ∈ l,s.size≤100000):Tri Tryz.prog 85 [.ptr 0 0] [(0,.box [a0n lo l])] (fun _=>if a3k l then .ret (.agg (plK l 3)) [(0,.box [a0n lo (l.drop 3)])] else .pan (wrV 111) []):=by
 refine a0i (fun i=>[9].contains i) Tryz.func85 Tryz.ntmps85 rfl rfl fun G hG hOw hNm=>?_;simp only [go_sem,hG,hOw]
 (repeat' with_reducible first|refine And.intro ?_ ?_|intro _|refine exP ?_ ?_);all_goals try omega
 have c0:((0:Nat):Int)=0:=rfl
 have c1:((1:Nat):Int)=1:=rfl
 have c2:((2:Nat):Int)=2:=rfl
 have c3:((3:Nat):Int)=3:=rfl
 have i1:Int.toNat 1=1:=rfl
 have i2:Int.toNat 2=2:=rfl
 refine a0l (fun k:Nat=>St.of [(0,.ptr 0 0),(2,.ptr 2 0),(3,.ptr 3 0),(9,.own 9 0 3 1),(10,i64 3),(11,i64 k)] [(0,.box [a0n lo (l.drop k)]),(2,.box [i64 0,i64 0,i64 0]),(3,.box (plK l k)),(9,.box [.ptr 3 0,.ptr 3 1,.ptr 3 2])]) (fun k=>k≤3∧(0 < k→c3d l 0=true)∧(1 < k→c3d l 1=true)∧(2 < k→c3d l 2=true)) (fun k=>3 - k) 0 (by simp) (by simp only [List.drop_zero];exact a2a [(0,some 0),(2,some 2),(3,some 3),(9,some 9)]) ?_
 rintro k ⟨hk,h1,h2,h3⟩
 have hk4:k=0∨k=1∨k=2∨k=3:=by omega
 rcases hk4 with rfl|rfl|rfl|rfl
 all_goals skip
 ·refine a0e _ _ _ ?_
  simp (maxSteps:=2000000) only [go_sem,hG,hOw,c0,c1,c2,c3,i1,i2,List.getElem_cons_zero,List.getElem_cons_succ]
  (repeat' with_reducible first|refine And.intro ?_ ?_|intro _|refine exP ?_ ?_);all_goals try omega
  cases ho:c3d l 0 with
  |false =>
   have hbad:a3k l=false:=by unfold a3k;rw [ho];simp
   rw [hbad]
   have hU:=b2k lo l 0 hl ho
   rw [List.drop_zero] at hU
   refine a0c [(0,0)] [] (hU) ?_
   simp only [go_sem,hG,hOw]
   exact ⟨rfl,(a3j [])⟩
  |true =>
   have hU:=b4t lo l 0 hl ho
   rw [List.drop_zero] at hU
   refine a0c [(0,0)] [] (hU) ?_
   simp only [go_sem,hG,hOw]
   (repeat' with_reducible first|refine And.intro ?_ ?_|intro _|refine exP ?_ ?_);all_goals try omega
   exact ⟨1,(by simp [ho]),by omega,a2a [(0,some 0),(2,some 2),(3,some 3),(9,some 9)]⟩
 ·refine a0e _ _ _ ?_
  simp (maxSteps:=2000000) only [go_sem,hG,hOw,c0,c1,c2,c3,i1,i2,List.getElem_cons_zero,List.getElem_cons_succ]
  (repeat' with_reducible first|refine And.intro ?_ ?_|intro _|refine exP ?_ ?_);all_goals try omega
  cases ho:c3d l 1 with
  |false =>
   have hbad:a3k l=false:=by unfold a3k;rw [ho];simp
   rw [hbad]
   have hU:=b2k lo l 1 hl ho
   skip
   refine a0c [(0,0)] [] (hU) ?_
   simp only [go_sem,hG,hOw]
   exact ⟨rfl,(a3j [])⟩
  |true =>
   have hU:=b4t lo l 1 hl ho
   skip
   refine a0c [(0,0)] [] (hU) ?_
   simp only [go_sem,hG,hOw]
   (repeat' with_reducible first|refine And.intro ?_ ?_|intro _|refine exP ?_ ?_);all_goals try omega
   have h1':=h1 (by omega)
   exact ⟨2,(by simp [ho,h1']),by omega,a2a [(0,some 0),(2,some 2),(3,some 3),(9,some 9)]⟩
 ·refine a0e _ _ _ ?_
  simp (maxSteps:=2000000) only [go_sem,hG,hOw,c0,c1,c2,c3,i1,i2,List.getElem_cons_zero,List.getElem_cons_succ]
  (repeat' with_reducible first|refine And.intro ?_ ?_|intro _|refine exP ?_ ?_);all_goals try omega
  cases ho:c3d l 2 with
  |false =>
   have hbad:a3k l=false:=by unfold a3k;rw [ho];simp
   rw [hbad]
   have hU:=b2k lo l 2 hl ho
   skip
   refine a0c [(0,0)] [] (hU) ?_
   simp only [go_sem,hG,hOw]
   exact ⟨rfl,(a3j [])⟩
  |true =>
   have hU:=b4t lo l 2 hl ho
   skip
   refine a0c [(0,0)] [] (hU) ?_
   simp only [go_sem,hG,hOw]
   (repeat' with_reducible first|refine And.intro ?_ ?_|intro _|refine exP ?_ ?_);all_goals try omega
   have h1':=h1 (by omega)
   have h2':=h2 (by omega)
   exact ⟨3,(by simp [ho,h1',h2']),by omega,a2a [(0,some 0),(2,some 2),(3,some 3),(9,some 9)]⟩
 ·have hok:a3k l=true:=by unfold a3k;rw [h1 (by omega),h2 (by omega),h3 (by omega)];rfl
  rw [if_pos hok]
  refine a0e _ _ _ ?_
  simp (maxSteps:=2000000) only [go_sem,hG,hOw,c0,c1,c2,c3,i1,i2,List.getElem_cons_zero,List.getElem_cons_succ]
  (repeat' with_reducible first|refine And.intro ?_ ?_|intro _|refine exP ?_ ?_);all_goals try omega
  exact (a3j [(0,some 0)])
open Go Pm Go.RowKit Go.Sort
set_option maxRecDepth 100000
set_option maxHeartbeats 4000000
def c5w (l:List ByteArray):List V:=l.map fun s=>.v (.string s)
theorem e7r:c5w []=[]:=rfl
theorem d9d (s:ByteArray) (l:List ByteArray):c5w (s::l)=.v (.string s)::c5w l:=rfl
attribute [go_sem] e7r d9d
theorem a7a {B b:Nat} {w0:World} (hb:B≤b):∀ (vs:List Value) (o:Nat) (w:World),Below B w0 w→Below B w0 (w.setCells b o vs)
 |[],_,_,h=>h
 |v::r,o,w,h=>a7a hb r (o+1) _ (h.setCell (p:=⟨b,o,none⟩) hb v)
theorem d7u (n:Nat):(Builtin.zeroCells (Value.string ⟨#[]⟩).cells n).size=n:=by simp [Builtin.zeroCells,Value.cells]
def f2v (w:World) (cap:Nat) (x:Value) (cs:List Value):World :=
 (((w.alloc (.cells ((cs.take 0).toArray++Builtin.zeroCells (Value.string ⟨#[]⟩).cells (cs.length+1 - 0)++Builtin.zeroCells (Value.string ⟨#[]⟩).cells (cap - (cs.length+1))) 9)).drew.setCells w.heap.size 0 [x]).drew).setCells w.heap.size (0+1) (cs.drop 0)
theorem f1z (w:World) (cap:Nat) (x:ByteArray) (cs:List ByteArray) :
  Below w.heap.size w (f2v w cap (.string x) (cs.map .string))∧w.heap.size < (f2v w cap (.string x) (cs.map .string)).heap.size∧∀ j v,(x::cs)[j]? = some v→b6o (f2v w cap (.string x) (cs.map .string)) ⟨w.heap.size,j,none⟩ (.string v):=by
 have hb1:Below w.heap.size w (w.alloc (.cells ((([]:List Value)).toArray++Builtin.zeroCells (Value.string ⟨#[]⟩).cells (cs.length+1 - 0)++Builtin.zeroCells (Value.string ⟨#[]⟩).cells (cap - (cs.length+1))) 9)):=(Below.refl _ w).alloc (Nat.le_refl _) _
 have e0:f2v w cap (.string x) (cs.map .string)=((((w.alloc (.cells ((([]:List Value)).toArray++Builtin.zeroCells (Value.string ⟨#[]⟩).cells (cs.length+1 - 0)++Builtin.zeroCells (Value.string ⟨#[]⟩).cells (cap - (cs.length+1))) 9)).drew.setCells w.heap.size 0 [.string x]).drew).setCells w.heap.size (0+1) (cs.map .string)):=by
  unfold f2v;rw [List.length_map,List.take_zero,List.drop_zero]
 rw [e0]
 generalize hA:(([]:List Value)).toArray++Builtin.zeroCells (Value.string ⟨#[]⟩).cells (cs.length+1 - 0)++Builtin.zeroCells (Value.string ⟨#[]⟩).cells (cap - (cs.length+1))=A at *
 have hAs:cs.length+1≤A.size:=by rw [← hA,Array.size_append,Array.size_append,d7u,d7u];simp
 have hw1:(w.alloc (.cells A 9)).heap[w.heap.size]? = some (.cells A 9 (0,0)):=a5c w _
 generalize hW:w.alloc (.cells A 9)=W at *
 have hcell:∀ j,j < A.size→(W.cell? ⟨w.heap.size,j,none⟩).isSome=true:=fun j hj=>by rw [cell_of_row _ _ _ _ _ _ hw1];simp [hj]
 have hfr:∀ j,W.frozen? ⟨w.heap.size,j,none⟩=false:=fun j=>by simp [World.frozen?,hw1]
 have hB:Below w.heap.size w (((W.drew.setCells w.heap.size 0 [.string x]).drew).setCells w.heap.size (0+1) (cs.map .string)):=a7a (Nat.le_refl _) _ _ _ (a7a (Nat.le_refl _) _ _ _ hb1.drew).drew
 have hcell2:∀ j,j < A.size→((W.drew.setCells w.heap.size 0 [Value.string x]).drew.cell? ⟨w.heap.size,j,none⟩).isSome=true:=fun j hj=>by
  show ((W.drew.setCells w.heap.size 0 [Value.string x]).cell? ⟨w.heap.size,j,none⟩).isSome=true
  cases j with
  |zero =>
   have:=World.cell?_setCells_in w.heap.size [Value.string x] 0 W.drew (fun j hj=>by simp at hj;subst hj;exact hcell 0 (by omega)) 0 (by simp)
   simp only [Nat.zero_add] at this
   rw [this];rfl
  |succ j =>
   rw [World.cell?_setCells_out w.heap.size [Value.string x] 0 W.drew _ (fun _ _=>.inr (by simp))]
   exact hcell (j+1) hj
 refine ⟨hB,?_,fun j v hv=>⟨?_,fun _=>?_⟩⟩
 ·have h1:((((W.drew.setCells w.heap.size 0 [.string x]).drew).setCells w.heap.size (0+1) (cs.map .string)).cell? ⟨w.heap.size,0,none⟩).isSome=true:=by
   rw [World.cell?_setCells_out w.heap.size _ (0+1) _ _ (fun _ _=>.inl (by simp))]
   exact hcell2 0 (by omega)
  obtain ⟨u,hu⟩:=Option.isSome_iff_exists.1 h1
  exact Lib.lt_of_cell hu
 ·cases j with
  |zero =>
   simp at hv;subst hv
   rw [World.cell?_setCells_out w.heap.size _ (0+1) _ _ (fun _ _=>.inl (by simp))]
   show (W.drew.setCells w.heap.size 0 [Value.string x]).cell? ⟨w.heap.size,0,none⟩=_
   have:=World.cell?_setCells_in w.heap.size [Value.string x] 0 W.drew (fun j hj=>by simp at hj;subst hj;exact hcell 0 (by omega)) 0 (by simp)
   simpa using this
  |succ j =>
   simp at hv
   have hj:j < cs.length:=(List.getElem?_eq_some_iff.1 hv).1
   have hvj:cs[j]=v:=(List.getElem?_eq_some_iff.1 hv).2
   have:=World.cell?_setCells_in w.heap.size (cs.map Value.string) (0+1) (W.drew.setCells w.heap.size 0 [Value.string x]).drew (fun i hi=>hcell2 _ (by simp at hi;omega)) j (by simpa using hj)
   rw [show j+1=0+1+j by omega,this]
   simp [hvj]
 ·rw [World.frozen?_setCells]
  show (W.drew.setCells w.heap.size 0 [Value.string x]).frozen? _=false
  rw [World.frozen?_setCells]
  exact hfr j
theorem c9j {G:Gh} {o:Oper} {s:St} {Q:Exit→St→Prop} {rest:St→Prop} (id lo':Nat) (cs:List ByteArray) (x:ByteArray) (hb:s.hget id=some (.box (c5w cs))) (hne:0 < cs.length) (hl:cs.length≤1000) (hc:chk G.n o.dst)
  (h:rest (a4e s o.dst (a0n G.lo (x::cs)))):a3y Tryz.prog G o s Q rest (.fn (.func 134) []) [.own id 0 cs.length 1,i64 0,a0n lo' [x]]:=by
 rintro xo l ts ho hx has a w ⟨E,hE⟩
 obtain ⟨ys,hy,hsz,hr⟩:=R.fn_inv (a1z hE hx.symm)
 have hl3:l.length=3:=by have:=congrArg List.length has;simpa using this.symm
 match l,hl3,has with
 |[o1,o2,o3],_,has =>
  simp only [List.map_cons,List.map_nil,List.cons.injEq,and_true] at has
  obtain ⟨e1,e2,e3⟩:=has
  have q2:=R.v_inv (a1z hE e2.symm)
  obtain ⟨b,K,C,hEi,hle,hKC,hv⟩:=R.own_inv (a1z hE e1.symm)
  obtain ⟨b1,K1,C1,h1,b',zs,t,hb',hh,hzs,hK,hKC',hrr⟩:=hE.hp id _ hb
  rw [hEi] at h1
  cases h1
  cases hb'
  have hcl:(c5w cs).length=cs.length:=by simp [c5w]
  obtain ⟨o',ho',hy1⟩:=hv
  have ho0:o'=0:=by rw [ho' (.inr rfl)]
  subst ho0
  have hC:C - 0=cs.length:=by omega
  rw [hC] at hy1
  have q3:=(a1z hE e3.symm).pure0 rfl
  generalize hY3:a.eval o3=y3 at q3
  cases q3 with
  |lst _ _ _ ad n3 cap3 b3 of3 g3 hlo3 hn3 hc3 hl3' ha3 hs3 hz3 hr3 =>
  simp only [List.map_cons,List.map_nil,List.length_cons,List.length_nil] at hn3
  subst hn3
  obtain ⟨rfl,hO3,hb3⟩:=ha3 (by simp)
  have hg3:g3 0 0=.string x:=by
   have:=hr3 0 [.v (.string x)] 0 (.v (.string x)) rfl rfl
   generalize g3 0 0=z at this
   cases this;rfl
  have hcell3:w.cell? ⟨b3,of3,none⟩=some (.string x):=by
   have:=(hs3 0 [.v (.string x)] 0 (.v (.string x)) rfl rfl).1
   rw [hg3] at this
   simpa using this
  have hzcell:∀ j v,(cs.map Value.string)[j]? = some v→w.cell? ⟨b',0+j,none⟩=some v:=fun j v hj=>by
   simp only [List.getElem?_map,Option.map_eq_some_iff] at hj
   obtain ⟨c,hcj,rfl⟩:=hj
   have hjl:j < cs.length:=(List.getElem?_eq_some_iff.1 hcj).1
   rw [cell_of_row _ _ _ _ _ _ hh,Nat.zero_add]
   have hjz:j < zs.size:=by omega
   have hz:zs[j]? = some zs[j]:=Array.getElem?_eq_getElem hjz
   have:=R.v_inv (hrr j (.v (.string c)) zs[j] (by simp [c5w,hcj]) hz)
   rw [hz,this]
  have hcalls:=Any2.slices_Insert_string_grow Tryz.laysNm222 b' 0 cs.length cs.length 0 b3 of3 1 cap3 (cs.map Value.string) [.string x] w (by omega) (by omega) (Nat.le_refl _) (by omega) (by omega) (by simp) (by simp) hzcell
   (fun j v hj=>by
    match j with
    |0=>simp at hj;subst hj;simpa using hcell3
    |j+1=>simp at hj) (fun v hv=>by
    simp only [List.mem_map] at hv
    obtain ⟨c,_,rfl⟩:=hv
    rfl) (fun v hv=>by simp at hv;subst hv;rfl)
  have hys0:ys=#[]:=by
   apply Array.eq_empty_of_size_eq_zero
   simpa using hsz
  have hargs:([o1,o2,o3].map a.eval).toArray++ys=#[.slice (some ⟨b',0,none⟩) cs.length cs.length,.int .i64 (0:Nat),.slice (some ⟨b3,of3,none⟩) 1 cap3]:=by
   rw [hys0]
   simp [hy1,q2,hY3]
  refine c1d ho ⟨_,Tryz.func134,by decide,by kernel_rfl⟩ hy (by rw [hargs];exact hcalls) ?_
  rintro e w' ⟨rfl,hw⟩
  obtain ⟨g1,g2,g3'⟩:=f1z w (grownCap w (cs.length+1) cs.length 9) x cs
  have hw':w'=f2v w (grownCap w (cs.length+1) cs.length 9) (.string x) (cs.map .string):=by
   rw [hw]
   unfold f2v
   rw [List.length_map]
   rfl
  rw [← hw'] at g1 g2 g3'
  refine ⟨_,rfl,_,h,E,(hE.below g1).put (a3a hc) (.r0 _ _ ?_)⟩
  refine .lst G.lo 1 _ _ _ _ w.heap.size 0 (fun i j=>.string ((x::cs).getD i ByteArray.empty)) (fun _=>Nat.le_trans G.hlo hE.grow) (by simp) (by rw [List.length_map,List.length_cons];exact grownCap_ge w (cs.length+1) cs.length 9) (by simp;omega)
   (fun _=>⟨rfl,fun hc=>Nat.lt_irrefl _ (e5s hE _ hc),g2⟩) (fun i y j u h1 h2=>?_) (fun y hy=>?_) fun i y j u h1 h2=>?_
  ·rw [List.getElem?_map,Option.map_eq_some_iff] at h1
   obtain ⟨c,hc,rfl⟩:=h1
   match j with
   |0 =>
    have:=g3' i c hc
    simp only [Nat.zero_add,Nat.mul_one,Nat.add_zero,List.getD,hc,Option.getD_some]
    exact this
   |j+1=>simp [a1t] at h2
  ·simp only [List.mem_map] at hy
   obtain ⟨c,_,rfl⟩:=hy
   rfl
  ·rw [List.getElem?_map,Option.map_eq_some_iff] at h1
   obtain ⟨c,hc,rfl⟩:=h1
   match j with
   |0 =>
    simp [a1t] at h2
    subst h2
    simp only [List.getD,hc,Option.getD_some]
    exact .v _
   |j+1=>simp [a1t] at h2
theorem a1k (x:ByteArray) (cs:List ByteArray) (hne:0 < cs.length) (hl:cs.length≤900) (hx:x.size≤100000) (hs:∀ s ∈ cs,s.size≤100000) :
  Tri Tryz.prog 63 [str x,.own 0 0 cs.length 1] [(0,.box (c5w cs))] (fun _=>.ret (str (a1d (x::cs))) []):=by
 refine a0i (fun _=>false) Tryz.func63 Tryz.ntmps63 rfl rfl fun G hG hOw hNm=>?_;simp only [go_sem,hG,hOw]
 (repeat' with_reducible first|refine And.intro ?_ ?_|intro _|refine exP ?_ ?_);all_goals try omega
 refine c9j 0 _ cs x (by simp [go_sem]) hne (by omega) (by simp [chk,hG]) ?_
 simp only [go_sem,hG,hOw]
 refine a0a (d8n (x::cs) (by simp;omega) (by simpa using ⟨hx,hs⟩)) ?_
 simp only [go_sem,hG,hOw]
 (repeat' with_reducible first|refine And.intro ?_ ?_|intro _|refine exP ?_ ?_);all_goals try omega
 exact (a3j [])
open Go Pm Go.RowKit Go.Sort
set_option maxRecDepth 100000
set_option maxHeartbeats 4000000
theorem a2z {n:Int} (h0:0≤n) (h1:n≤9999):(a2d n).size≤4:=by
 have:=a7r n h0 h1
 unfold b0k at this
 split at this
 ·rename_i h;rw [a2d,c8e];exact h.2.1
 ·cases this
theorem inB_iff {n lo hi:Int}:inB n lo hi=true↔lo≤n∧n≤hi:=by simp [inB]
def atS (a b c:Int):ByteArray:=a1d [a2d a,a2d b,a2d c]
def in9 (n:Int):Prop:=0≤n∧n≤9999
theorem d2u (a b c:Int) (ha:in9 a) (hb:in9 b) (hc:in9 c):a0o Tryz.prog 81 [.agg [i64 a,i64 b,i64 c]] (fun _=>str (atS a b c)):=by
 have sa:=a2z ha.1 ha.2
 have sb:=a2z hb.1 hb.2
 have sc:=a2z hc.1 hc.2
 refine a0b (ow:=fun i=>[12,1000012].contains i) Tryz.func81 Tryz.ntmps81 rfl rfl fun G hG hOw hNm hB=>?_;simp only [go_sem,hG,hOw]
 (repeat' with_reducible first|refine And.intro ?_ ?_|intro _|refine exP ?_ ?_);all_goals try omega
 refine a2k ⟨[12],[],[]⟩ [(0,false),(1,false),(2,false),(3,false),(4,false),(5,false),(6,false),(7,false),(8,false),(9,false),(10,true),(11,false)] mixed (by kernel_rfl) ?_
 simp only [a2y,List.getElem?_cons_zero,List.getElem?_cons_succ]
 simp only [go_sem,hG,hOw]
 (repeat' with_reducible first|refine And.intro ?_ ?_|intro _|refine exP ?_ ?_);all_goals try omega
 refine ⟨_,a0d (a4q a ha.1 ha.2),?_⟩
 simp only [go_sem,hG,hOw]
 (repeat' with_reducible first|refine And.intro ?_ ?_|intro _|refine exP ?_ ?_);all_goals try omega
 refine ⟨_,a0d (a4q b hb.1 hb.2),?_⟩
 simp only [go_sem,hG,hOw]
 (repeat' with_reducible first|refine And.intro ?_ ?_|intro _|refine exP ?_ ?_);all_goals try omega
 refine ⟨_,a0d (a4q c hc.1 hc.2),?_⟩
 simp only [go_sem,hG,hOw]
 (repeat' with_reducible first|refine And.intro ?_ ?_|intro _|refine exP ?_ ?_);all_goals try omega
 refine a0c [(0,12)] [] (a1k (a2d a) [a2d b,a2d c] (by simp) (by simp) (by omega) (by simp;omega)) ?_
 simp only [go_sem,hG,hOw]
 (repeat' with_reducible first|refine And.intro ?_ ?_|intro _|refine exP ?_ ?_);all_goals try omega
 rfl
def b5s (l:List ByteArray):ByteArray:=a1d [a7y,a1d l]
def c4g (c:Ch):List ByteArray:=a1d [a2n,a2d c.id]::c.lines.map b5s
def a2c (t:List Ch):List ByteArray:=t.flatMap c4g
theorem c9i (t:List Ch) (k:Nat) (hk:k < t.length):a2c (t.take (k+1))=a2c (t.take k)++c4g t[k]:=by
 unfold a2c
 rw [List.take_add_one,List.getElem?_eq_getElem hk,List.flatMap_append]
 simp
theorem b9c {f:List Ch→Ch→Bool} {p:Ch→Prop} (h:∀ pre c,f pre c=true→p c):∀ (t pre:List Ch),a3r f pre t=true→∀ c ∈ t,p c
 |[],_,_=>by simp
 |c::r,pre,ht=>by
  simp only [a3r,Bool.and_eq_true] at ht
  intro d hd
  rcases List.mem_cons.1 hd with rfl|hd
  ·exact h _ _ ht.1
  ·exact b9c h r _ ht.2 d hd
theorem a3o {s:ByteArray} (h:a1h s=true):1≤s.size∧s.size≤12:=by
 simp only [a1h,Bool.and_eq_true,inB_iff] at h;omega
structure VCh (c:Ch):Prop where
 id:in9 c.id
 len:1≤c.lines.length∧c.lines.length≤10
 ln:∀ l ∈ c.lines,(1≤l.length∧l.length≤10)∧∀ s ∈ l,a1h s=true
theorem f3k {pre:List Ch} {c:Ch} (h:a8y pre c=true):VCh c:=by
 simp only [a8y,Bool.and_eq_true,inB_iff,List.all_eq_true,b0h] at h
 obtain ⟨⟨⟨h1,h2⟩,h3⟩,h4⟩:=h
 exact ⟨h1,by omega,fun l hl=>⟨by have:=(h4 l hl).1;omega,(h4 l hl).2⟩⟩
theorem b0q {t:List Ch} (h:a1r t=true):(1≤t.length∧t.length≤6)∧∀ c ∈ t,VCh c:=by
 simp only [a1r,Bool.and_eq_true,inB_iff] at h
 exact ⟨by omega,fun c hc=>b9c (p:=VCh) (fun _ _=>f3k) t [] h.2 c hc⟩
theorem d7y {l:List ByteArray} (h:(1≤l.length∧l.length≤10)∧∀ s ∈ l,a1h s=true):(a1d l).size≤130:=by
 have h1:=b0v 12 l fun s hs=>(a3o (h.2 s hs)).2
 rw [a7l]
 have:(12+1) * l.length≤13 * 10:=Nat.mul_le_mul_left _ h.1.2
 omega
theorem b8z {t:List Ch} (h6:t.length≤6) (hv:∀ c ∈ t,c.lines.length≤10):(a2c t).length≤66:=by
 have:∀ t:List Ch,(∀ c ∈ t,c.lines.length≤10)→(a2c t).length≤11 * t.length:=by
  intro t
  induction t with
  |nil=>simp [a2c]
  |cons c r ih =>
   intro h
   have h1:=ih fun d hd=>h d (by simp [hd])
   have h2:=h c (by simp)
   simp only [a2c,List.flatMap_cons,List.length_append,c4g,List.length_cons,List.length_map] at h1 ⊢
   omega
 have:=this t hv
 omega
theorem d8t (pre:List ByteArray) (r:ByteArray) (ls:List (List ByteArray)):∃ M:Nat→List ByteArray,M 0=pre++[r]∧(∀ j (h:j < ls.length),M (j+1)=M j++[b5s ls[j]])∧M ls.length=pre++r::ls.map b5s∧∀ j,j≤ls.length→(M j).length=pre.length+1+j:=by
 refine ⟨fun j=>pre++r::(ls.take j).map b5s,by simp,fun j h=>?_,by simp,fun j h=>by simp;omega⟩
 simp only [a2s b5s ls j h]
 simp
theorem c4o (t:List Ch):a0o Tryz.prog 13 [txE 0 t] (fun n=>.tup [a0n n (if a1r t then a2c t else []),i64 (if a1r t then 0 else 10)]):=by
 refine a0b (ow:=fun i=>[26,40,1000026,1000040].contains i) Tryz.func13 Tryz.ntmps13 rfl rfl fun G hG hOw hNm hB=>?_;simp only [go_sem,hG,hOw]
 refine a0a (a4j t) ?_
 cases ht:a1r t with
 |false =>
  simp only [go_sem,hG,hOw]
  (repeat' with_reducible first|refine And.intro ?_ ?_|intro _|refine exP ?_ ?_);all_goals try omega
  exact Subs.tup (.cons (.nil _ _) (.cons (.refl _) .nil))
 |true =>
  obtain ⟨ht1,ht2⟩:=b0q ht
  have hlen:∀ k,(a2c (t.take k)).length≤66:=fun k=>b8z (by simp;omega) fun c hc=>(ht2 c (List.mem_of_mem_take hc)).len.2
  simp only [go_sem,hG,hOw]
  (repeat' with_reducible first|refine And.intro ?_ ?_|intro _|refine exP ?_ ?_);all_goals try omega
  refine a0l (fun k:Nat=>St.of [(1,.ptr 1 0),(5,.own 100 0 (a2c (t.take k)).length 1),(16,chs 0 t),(17,i64 t.length),(18,i64 k)] [(1,.box [chs 0 t]),(100,.arr 9 1 ((a2c (t.take k)).map a1t))]) (fun k=>k≤t.length) (fun k=>t.length - k) 0 (by simp) (by simp only [List.take_zero,a2c,List.flatMap_nil];exact a2a [(1,some 1),(100,none)]) ?_
  rintro k hk
  refine a0e _ _ _ ?_;simp only [go_sem,hG,hOw]
  (repeat' with_reducible first|refine And.intro ?_ ?_|intro _|refine exP ?_ ?_);all_goals try omega
  ·rename_i hlt
   have hkl:k < t.length:=by omega
   obtain ⟨hid,hcl,hln⟩:=ht2 _ (List.getElem_mem hkl)
   have hsz:=a2z hid.1 hid.2
   refine a0a (a4q t[k].id hid.1 hid.2) ?_
   simp only [go_sem,hG,hOw]
   (repeat' with_reducible first|refine And.intro ?_ ?_|intro _|refine exP ?_ ?_);all_goals try omega
   refine a0c [(0,26)] [] (a1k a2n [a2d t[k].id] (by simp) (by simp) (by decide) (by simp;omega)) ?_ (by (simp only [go_sem])<;>simp [a2n]) (by (simp only [go_sem,a1f,a0q,a0f,a1l])<;>simp [a2n]) (by simp [a0h,usH,toR,a2n])
   simp only [go_sem,hG,hOw]
   have hl66:=hlen k
   (repeat' with_reducible first|refine And.intro ?_ ?_|intro _|refine exP ?_ ?_);all_goals try omega
   obtain ⟨M,hM0,hMs,hMe,hMl⟩:=d8t (a2c (t.take k)) (a1d [a2n,a2d t[k].id]) t[k].lines
   have hMe':M t[k].lines.length=a2c (t.take (k+1)):=by rw [hMe,c9i t k hkl];rfl
   refine a6o (fun _:Unit=>St.of [(1,.ptr 1 0),(5,.own 100 0 (a2c (t.take (k+1))).length 1),(16,chs 0 t),(17,i64 t.length),(18,i64 k)] [(1,.box [chs 0 t]),(100,.arr 9 1 ((a2c (t.take (k+1))).map a1t))]) (fun _=>True) ?_ ?_
   ·refine a0l (fun j:Nat=>St.of [(1,.ptr 1 0),(5,.own 200 0 (M j).length 1),(16,chs 0 t),(17,i64 t.length),(18,i64 k),(31,lns 0 t[k].lines),(32,i64 t[k].lines.length),(33,i64 j)] [(1,.box [chs 0 t]),(200,.arr 9 1 ((M j).map a1t))]) (fun j=>j≤t[k].lines.length) (fun j=>t[k].lines.length - j) 0 (by simp) (by simp only [hM0];exact a2a [(1,some 1),(200,some 29)] (by (simp only [go_sem])<;>simp [a1t]) (by (simp only [go_sem,a1f,a0q,a0f,a1l])<;>simp [a1t])) ?_
    rintro j hj
    have hMj:=hMl j hj
    refine a0e _ _ _ ?_;simp only [go_sem,hG,hOw]
    (repeat' with_reducible first|refine And.intro ?_ ?_|intro _|refine exP ?_ ?_);all_goals try omega
    ·rename_i hlt2
     have hjl:j < t[k].lines.length:=by omega
     have hlj:=hln _ (List.getElem_mem hjl)
     have hs2:=d7y hlj
     refine a0a (d8n t[k].lines[j] (by omega) fun s hs=>by have:=a3o (hlj.2 s hs);omega) ?_
     simp only [go_sem,hG,hOw]
     (repeat' with_reducible first|refine And.intro ?_ ?_|intro _|refine exP ?_ ?_);all_goals try omega
     refine a0c [(0,40)] [] (a1k a7y [a1d t[k].lines[j]] (by simp) (by simp) (by decide) (by simp;omega)) ?_ (by (simp only [go_sem])<;>simp [a7y]) (by (simp only [go_sem,a1f,a0q,a0f,a1l])<;>simp [a7y]) (by simp [a0h,usH,toR,a7y])
     simp only [go_sem,hG,hOw]
     (repeat' with_reducible first|refine And.intro ?_ ?_|intro _|refine exP ?_ ?_);all_goals try omega
     exact ⟨j+1,by omega,by omega,a2a [(1,some 1),(200,some 43)] (by (simp only [go_sem])<;>simp [hMs j hjl,b5s,a1t]) (by (simp only [go_sem,a1f,a0q,a0f,a1l])<;>simp [hMs j hjl,b5s,a1t])⟩
    ·rename_i hge2
     have hj2:j=t[k].lines.length:=by omega
     subst hj2
     rw [hMe']
     exact ⟨(),a2a [(1,some 1),(100,some 200)]⟩
   ·rintro ⟨⟩ -
    simp only [go_sem,hG,hOw]
    (repeat' with_reducible first|refine And.intro ?_ ?_|intro _|refine exP ?_ ?_);all_goals try omega
    exact ⟨k+1,by omega,by omega,a2a [(1,some 1),(100,some 100)]⟩
  ·rename_i hge
   obtain rfl:k=t.length:=by omega
   simp only [List.take_length]
   exact .refl _
open Go Pm Go.RowKit Go.Sort
set_option maxRecDepth 100000
set_option maxHeartbeats 4000000
def c4h (t:List Ch) (n:Nat):List (List V):=match t.getLast? with
 |none=>[]
 |some c=>t.dropLast.map (chE 0)++[[i64 c.id,.own n 0 c.lines.length 1]]
def e2g (t:List Ch):List (List ByteArray):=match t.getLast? with
 |none=>[]
 |some c=>c.lines
theorem c1a (n:Nat):c4h [] n=[]:=rfl
theorem c0m:e2g []=[]:=rfl
theorem a5d (i:List Ch) (c:Ch) (n:Nat):c4h (i++[c]) n=i.map (chE 0)++[[i64 c.id,.own n 0 c.lines.length 1]]:=by simp [c4h]
theorem a8u (i:List Ch) (c:Ch):e2g (i++[c])=c.lines:=by simp [e2g]
theorem a6l {α:Type} (t:List α):t=[]∨∃ i c,t=i++[c]:=by
 rcases List.eq_nil_or_concat t with h|⟨i,c,h⟩
 ·exact .inl h
 ·exact .inr ⟨i,c,by simpa using h⟩
theorem c1w {ρ:Ren} {lo:Nat} {r r':List (List V)} (h:c6b ρ r r'):∀ i:List Ch,c6b ρ (i.map (chE lo)++r) (i.map (chE lo)++r')
 |[]=>by simpa using h
 |c::i=>by
  rw [List.map_cons,List.cons_append,List.cons_append]
  exact ⟨⟨rfl,.inl rfl,trivial⟩,c1w h i⟩
theorem b3k {ρ:Ren} {lo:Nat} {r r':List (List V)}:∀ i:List Ch,c6b ρ (i.map (chE lo)++r) (i.map (chE lo)++r')→c6b ρ r r'
 |[],h=>by simpa using h
 |c::i,h=>by
  rw [List.map_cons,List.cons_append,List.cons_append] at h
  exact b3k i h.2
theorem a7z {ρ:Ren} {lo:Nat} (i:List Ch) (r r':List (List V)):c6b ρ (i.map (chE lo)++r) (i.map (chE lo)++r')=c6b ρ r r':=propext ⟨b3k i,fun h=>c1w h i⟩
theorem c1k {p:Nat→Bool} {l:Nat} {s:St} {lo:Nat} (i:List Ch) (r:List (List V)):(i.map (chE lo)++r).map (List.map (vwF p l s 4))=i.map (chE lo)++r.map (List.map (vwF p l s 4)):=by
 rw [List.map_append,List.map_map]
 congr 1
theorem a6x (t:List Ch) {ρ:Ren} {a b:Nat} (h:lkR ρ a=some (some b)):c6b ρ (c4h t a) (c4h t b):=by
 rcases a6l t with rfl|⟨i,c,rfl⟩
 ·exact trivial
 ·rw [a5d,a5d]
  refine c1w ?_ i
  simp [c6b,okL,okN,h,i64]
theorem e5u (t:List Ch) (g:V→V) (hv:∀ x,g (.v x)=.v x) (hl:∀ lo sz l,g (.lst lo sz l)=.lst lo sz l) {a b:Nat} (h:∀ m,g (.own a 0 m 1)=.own b 0 m 1):(c4h t a).map (List.map g)=c4h t b:=by
 rcases a6l t with rfl|⟨i,c,rfl⟩
 ·rfl
 ·rw [a5d,a5d,List.map_append,List.map_map]
  congr 1
  ·refine List.map_congr_left fun d _=>?_
   simp [chE,i64,lns,hv,hl]
  ·simp [i64,hv,h]
theorem f2w {s:St} {el sz:Nat} (id:Nat) (l:List (List V)) {n:Nat} (hn:n=l.length) (h:s.hget id=some (.arx el sz l)):IsArrX s el sz (.own id 0 n sz) l (some id):=by
 subst hn
 exact .own id l h
theorem d3o (lo:Nat) (t:List Ch) (r:List ByteArray) (x:ByteArray) (v:Int) (hx:x.size≤100000) (hv:a4c x=some v) (ht:t.length≤1000) :
  Tri Tryz.prog 74 [str a2n,.ptr 1 0,.ptr 0 0] [(0,.box [.own 2 0 t.length 2]),(1,.box [a0n lo (x::r)]),(2,.arx 115 2 (c4h t 3)),(3,.arr 32 1 ((e2g t).map (lnE 0)))]
   (fun _=>.ret (.tup []) [(0,.box [.own 4 0 (t++[Ch.mk v []]).length 2]),(1,.box [a0n lo r]),(4,.arx 115 2 (c4h (t++[Ch.mk v []]) 5)),(5,.arr 32 1 ((e2g (t++[Ch.mk v []])).map (lnE 0)))]):=by
 unfold a2n
 rw [a5d,a8u]
 rcases a6l t with rfl|⟨i,c,rfl⟩
 ·rw [c1a,c0m]
  refine a0i (fun _=>false) Tryz.func74 Tryz.ntmps74 rfl rfl fun G hG hOw hNm=>?_;simp only [go_sem,hG,hOw]
  (repeat' with_reducible first|refine And.intro ?_ ?_|intro _|refine exP ?_ ?_);all_goals try omega
  refine a2k ⟨[1,16,17,18],[(14,[1]),(18,[0])],[14]⟩ [(0,false),(1,false),(2,false),(3,false),(4,false),(5,false),(6,true),(7,false),(8,false)] mixed (by kernel_rfl) ?_
  simp only [a2y,List.getElem?_cons_zero,List.getElem?_cons_succ]
  simp only [go_sem,hG,hOw]
  (repeat' with_reducible first|refine And.intro ?_ ?_|intro _|refine exP ?_ ?_);all_goals try omega
  refine ⟨_,a5q [(0,1)] [] (a9n lo x r v hx hv) (by (simp only [go_sem])<;>simp) (by (simp only [go_sem,a1f,a0q,a0f,a1l])<;>simp) (by simp [a2l,apart,toR]) (by simp [a0h,usH,toR]) (by simp [a5o,lkR,toR]) rfl (by simp [tgt,a1v]) (by simp [tgt,a1v]) (by simp [upT,a3h,a5m,a1q,usH,lkR,toR,a1v]) (by simp [b1e,usH,tgt,go_sem]) (by simp [a3i,a1q,usH,lkR,toR]) (by simp [a4w,usH]),?_⟩
  simp only [go_sem,hG,hOw]
  (repeat' with_reducible first|refine And.intro ?_ ?_|intro _|refine exP ?_ ?_);all_goals try omega
  refine c2d (el:=115) (sz:=2) (x:=.own 2 0 0 2) (y:=.lst G.lo 2 [[i64 v,.v (.slice none 0 0)]]) (l:=[]) (new:=[[i64 v,.v (.slice none 0 0)]]) (io:=some 2) rfl ?_ ?_ rfl ?_ ?_ ?_ ?_ a8z (by kernel_rfl) b1v (by decide) rfl (Nat.le_of_ble_eq_true rfl) (Nat.le_of_ble_eq_true rfl) ?_
  ·simp [go_sem]
  ·simp [go_sem]
  ·rw [hG];decide
  ·simp [go_sem]
  ·exact IsArrX.own 2 [] (by simp [go_sem])
  ·exact .src _ _ (.lst ..)
  simp only [go_sem,hG,hOw]
  (repeat' with_reducible first|refine And.intro ?_ ?_|intro _|refine exP ?_ ?_);all_goals try omega
  exact (a3j [(0,some 0),(1,some 1),(4,some 17),(5,none)])
 ·rw [a5d,a8u]
  refine a0i (fun _=>false) Tryz.func74 Tryz.ntmps74 rfl rfl fun G hG hOw hNm=>?_;simp only [go_sem,hG,hOw]
  (repeat' with_reducible first|refine And.intro ?_ ?_|intro _|refine exP ?_ ?_);all_goals try omega
  refine e6b (fun i=>i == 3) ?_
  refine a2k ⟨[1,16,17,18],[(14,[1]),(18,[0])],[14]⟩ [(0,false),(1,false),(2,false),(3,false),(4,false),(5,false),(6,true),(7,false),(8,false)] mixed (by kernel_rfl) ?_
  simp only [a2y,List.getElem?_cons_zero,List.getElem?_cons_succ]
  simp (maxSteps:=2000000) only [go_sem,hG,hOw,↓c1k]
  (repeat' with_reducible first|refine And.intro ?_ ?_|intro _|refine exP ?_ ?_);all_goals try omega
  refine ⟨_,a5q [(0,1)] [] (a9n lo x r v hx hv) (by (simp only [go_sem])<;>simp) (by (simp only [go_sem,a1f,a0q,a0f,a1l])<;>simp) (by simp [a2l,apart,toR]) (by simp [a0h,usH,toR]) (by simp [a5o,lkR,toR]) rfl (by simp [tgt,a1v]) (by simp [tgt,a1v]) (by simp [upT,a3h,a5m,a1q,usH,lkR,toR,a1v]) (by simp [b1e,usH,tgt,go_sem]) (by simp [a3i,a1q,usH,lkR,toR]) (by simp [a4w,usH]),?_⟩
  simp (maxSteps:=2000000) only [go_sem,hG,hOw,↓c1k]
  (repeat' with_reducible first|refine And.intro ?_ ?_|intro _|refine exP ?_ ?_);all_goals try omega
  have hS:Pm.Sub (.lst G.lo 1 (c.lines.map (lnE 0))) (.lst 0 1 (c.lines.map (lnE 0))):=Sub.lo (Nat.zero_le _)
  refine c2d (el:=115) (sz:=2) (x:=.own 2 0 (i.length+1) 2) (y:=.lst G.lo 2 [[i64 v,.v (.slice none 0 0)]]) (l:=i.map (chE 0)++[[i64 c.id,.lst G.lo 1 (c.lines.map (lnE 0))]]) (new:=[[i64 v,.v (.slice none 0 0)]]) (io:=some 2) rfl ?_ ?_ rfl ?_ ?_ ?_ ?_ a8z (by kernel_rfl) b1v (by decide) rfl ?_ ?_ ?_
  ·simp [go_sem]
  ·simp [go_sem]
  ·rw [hG];decide
  ·simp [go_sem]
  ·exact f2w 2 _ (by simp) (by simp only [↓c1k,go_sem])
  ·exact .src _ _ (.lst ..)
  ·simp at ht ⊢;omega
  ·simp at ht ⊢;omega
  simp (maxSteps:=2000000) only [go_sem,hG,hOw,↓c1k]
  (repeat' with_reducible first|refine And.intro ?_ ?_|intro _|refine exP ?_ ?_);all_goals try omega
  exact ⟨[(0,some 0),(1,some 1),(4,some 17),(5,none)],by (simp only [b6t,go_sem,a1f,a0q,a0f,a1l,apart,a2l,a0h])<;>simp [a7z,c6b,okL,okN,chE,lns,i64,lkR,hS,pure0]⟩
theorem b8d (lo:Nat) (t:List Ch) (l:List ByteArray) (hl:∀ s ∈ l,s.size≤100000) (hb:∀ s r,l=s::r→a4c s=none) :
  Tri Tryz.prog 74 [str a2n,.ptr 1 0,.ptr 0 0] [(0,.box [.own 2 0 t.length 2]),(1,.box [a0n lo l]),(2,.arx 115 2 (c4h t 3)),(3,.arr 32 1 ((e2g t).map (lnE 0)))]
   (fun _=>.pan (wrV 111) []):=by
 unfold a2n
 refine a0i (fun _=>false) Tryz.func74 Tryz.ntmps74 rfl rfl fun G hG hOw hNm=>?_;simp only [go_sem,hG,hOw]
 (repeat' with_reducible first|refine And.intro ?_ ?_|intro _|refine exP ?_ ?_);all_goals try omega
 refine c5q ⟨[1,16,17,18],[(14,[1]),(18,[0])],[14]⟩ [0,1,2] 3 (by rfl) (by rfl) mixed (by kernel_rfl) ?_
 simp only [a2y,List.map_cons,List.map_nil,List.getElem?_cons_zero,List.getElem?_cons_succ]
 simp (maxSteps:=2000000) only [go_sem,hG,hOw,f7y,e7v]
 (repeat' with_reducible first|refine And.intro ?_ ?_|intro _|refine exP ?_ ?_);all_goals try omega
 refine d0q [(0,1)] (b2i lo l hl hb) (by (simp only [go_sem])<;>simp) (by (simp only [go_sem,a1f,a0q,a0f,a1l])<;>simp) (by simp [a2l,apart,toR]) (by simp [a0h,usH,toR]) (by simp [a5o,lkR,toR]) (by simp [tgt,a1v]) (fun s'=>?_)
 exact ⟨rfl,(a3j [])⟩
theorem c7l (i:List Ch) (a:List V) (h:i.length < (i.map (chE 0)++[a]).length):(i.map (chE 0)++[a])[i.length]'h=a:=by simp
theorem e2m (i:List Ch) (a b:List V):(i.map (chE 0)++[a]).set i.length b=i.map (chE 0)++[b]:=by
 rw [List.set_append_right _ _ (by simp)];simp
theorem f1f (lo:Nat) (i:List Ch) (c:Ch) (r:List ByteArray) (hr:a6f r=true) (hrl:r.length≤1000) (ht:i.length≤1000) (hc:c.lines.length≤1000) :
  Tri Tryz.prog 74 [str a7y,.ptr 1 0,.ptr 0 0] [(0,.box [.own 2 0 (i.length+1) 2]),(1,.box [a0n lo r]),(2,.arx 115 2 (i.map (chE 0)++[[i64 c.id,.own 3 0 c.lines.length 1]])),(3,.arr 32 1 (c.lines.map (lnE 0)))]
   (fun _=>.ret (.tup []) [(0,.box [.own 4 0 (i.length+1) 2]),(1,.box [a0n lo []]),(4,.arx 115 2 (i.map (chE 0)++[[i64 c.id,.own 5 0 (c.lines++[r]).length 1]])),(5,.arr 32 1 ((c.lines++[r]).map (lnE 0)))]):=by
 have hW:=c5f lo r hrl
 simp only [hr,if_true] at hW
 unfold a7y
 refine a0i (fun _=>false) Tryz.func74 Tryz.ntmps74 rfl rfl fun G hG hOw hNm=>?_;simp only [go_sem,hG,hOw]
 (repeat' with_reducible first|refine And.intro ?_ ?_|intro _|refine exP ?_ ?_);all_goals try omega
 ·rename_i h;exact absurd h (by decide)
 ·have h0:(0:Int) < ((i.length+1:Nat):Int):=by omega
  have h1:(((i.length+1:Nat):Int) - 1).toNat=i.length:=by omega
  refine a0c [] [] (a1o 111) ?_ (by (simp only [go_sem])<;>simp [h0]) (by (simp only [go_sem,a1f,a0q,a0f,a1l])<;>simp [h0]) (by simp [a0h,usH,toR,h0])
  simp (maxSteps:=2000000) only [go_sem,hG,hOw,h1]
  (repeat' with_reducible first|refine And.intro ?_ ?_|intro _|refine exP ?_ ?_);all_goals try omega
  refine a2k ⟨[1,40,41],[(39,[1])],[39]⟩ [(0,false),(1,false),(2,false),(3,false),(4,false),(5,false),(6,false),(7,false),(8,false),(9,false),(10,false),(11,false)] mixed (by kernel_rfl) ?_
  simp only [a2y,List.getElem?_cons_zero,List.getElem?_cons_succ]
  simp (maxSteps:=2000000) only [go_sem,hG,hOw,c7l,e2m]
  (repeat' with_reducible first|refine And.intro ?_ ?_|intro _|refine exP ?_ ?_);all_goals try omega
  refine ⟨_,a5q [(0,1)] [] (hW) (by (simp only [go_sem])<;>simp) (by (simp only [go_sem,a1f,a0q,a0f,a1l])<;>simp) (by simp [a2l,apart,toR]) (by simp [a0h,usH,toR]) (by simp [a5o,lkR,toR]) rfl (by simp [tgt,a1v]) (by simp [tgt,a1v]) (by simp [upT,a3h,a5m,a1q,usH,lkR,toR,a1v]) (by simp [b1e,usH,tgt,go_sem]) (by simp [a3i,a1q,usH,lkR,toR]) (by simp [a4w,usH]),?_⟩
  simp (maxSteps:=2000000) only [go_sem,hG,hOw,c7l,e2m]
  (repeat' with_reducible first|refine And.intro ?_ ?_|intro _|refine exP ?_ ?_);all_goals try omega
  exact ⟨[(0,some 0),(1,some 1),(4,some 2),(5,some 41)],by (simp only [b6t,go_sem,a1f,a0q,a0f,a1l,apart,a2l,a0h])<;>simp [a7z,c6b,okL,okN,i64,lkR,lnE,a0n]⟩
theorem c9g (lo:Nat) (i:List Ch) (c:Ch) (r:List ByteArray) (hr:a6f r=false) (hrl:r.length≤1000) (ht:i.length≤1000) :
  Tri Tryz.prog 74 [str a7y,.ptr 1 0,.ptr 0 0] [(0,.box [.own 2 0 (i.length+1) 2]),(1,.box [a0n lo r]),(2,.arx 115 2 (i.map (chE 0)++[[i64 c.id,.own 3 0 c.lines.length 1]])),(3,.arr 32 1 (c.lines.map (lnE 0)))]
   (fun _=>.pan (wrV 111) []):=by
 have hW:=c5f lo r hrl
 simp only [hr,Bool.false_eq_true,if_false] at hW
 unfold a7y
 refine a0i (fun _=>false) Tryz.func74 Tryz.ntmps74 rfl rfl fun G hG hOw hNm=>?_;simp only [go_sem,hG,hOw]
 (repeat' with_reducible first|refine And.intro ?_ ?_|intro _|refine exP ?_ ?_);all_goals try omega
 ·rename_i h;exact absurd h (by decide)
 ·have h0:(0:Int) < ((i.length+1:Nat):Int):=by omega
  have h1:(((i.length+1:Nat):Int) - 1).toNat=i.length:=by omega
  refine a0c [] [] (a1o 111) ?_ (by (simp only [go_sem])<;>simp [h0]) (by (simp only [go_sem,a1f,a0q,a0f,a1l])<;>simp [h0]) (by simp [a0h,usH,toR,h0])
  simp (maxSteps:=2000000) only [go_sem,hG,hOw,h1]
  (repeat' with_reducible first|refine And.intro ?_ ?_|intro _|refine exP ?_ ?_);all_goals try omega
  refine c5q ⟨[1,40,41],[(39,[1])],[39]⟩ [0,1,2,3,4,5] 6 (by rfl) (by rfl) mixed (by kernel_rfl) ?_
  simp only [a2y,List.map_cons,List.map_nil,List.getElem?_cons_zero,List.getElem?_cons_succ]
  simp (maxSteps:=2000000) only [go_sem,hG,hOw,f7y,e7v,c7l]
  (repeat' with_reducible first|refine And.intro ?_ ?_|intro _|refine exP ?_ ?_);all_goals try omega
  refine d0q [(0,1)] (hW) (by (simp only [go_sem])<;>simp) (by (simp only [go_sem,a1f,a0q,a0f,a1l])<;>simp) (by simp [a2l,apart,toR]) (by simp [a0h,usH,toR]) (by simp [a5o,lkR,toR]) (by simp [tgt,a1v]) (fun s'=>?_)
  exact ⟨rfl,(a3j [])⟩
theorem c3a (lo:Nat) (r:List ByteArray) :
  Tri Tryz.prog 74 [str a7y,.ptr 1 0,.ptr 0 0] [(0,.box [.own 2 0 0 2]),(1,.box [a0n lo r]),(2,.arx 115 2 []),(3,.arr 32 1 [])]
   (fun _=>.pan (wrV 111) []):=by
 unfold a7y
 refine a0i (fun _=>false) Tryz.func74 Tryz.ntmps74 rfl rfl fun G hG hOw hNm=>?_;simp only [go_sem,hG,hOw]
 (repeat' with_reducible first|refine And.intro ?_ ?_|intro _|refine exP ?_ ?_);all_goals try omega
 ·rename_i h;exact absurd h (by decide)
 ·refine a0c [] [] (a6b 111) ?_
  simp only [go_sem,hG,hOw]
  exact ⟨rfl,(a3j [])⟩
theorem e6x (lo:Nat) (s:ByteArray) (t:List Ch) (r:List ByteArray) (h1:s≠a2n) (h2:s≠a7y) :
  Tri Tryz.prog 74 [str s,.ptr 1 0,.ptr 0 0] [(0,.box [.own 2 0 t.length 2]),(1,.box [a0n lo r]),(2,.arx 115 2 (c4h t 3)),(3,.arr 32 1 ((e2g t).map (lnE 0)))]
   (fun _=>.pan (wrV 111) []):=by
 unfold a2n at h1
 unfold a7y at h2
 refine a0i (fun _=>false) Tryz.func74 Tryz.ntmps74 rfl rfl fun G hG hOw hNm=>?_;simp only [go_sem,hG,hOw]
 (repeat' with_reducible first|refine And.intro ?_ ?_|intro _|refine exP ?_ ?_);all_goals try omega
 ·rename_i h;exact absurd h h1
 ·rename_i h;exact absurd h h2
 ·refine b3z [.int .i64 111] rfl rfl (by kernel_rfl) (by simp [chk,hG]) ?_
  simp only [go_sem,hG,hOw]
  (repeat' with_reducible first|refine And.intro ?_ ?_|intro _|refine exP ?_ ?_);all_goals try omega
  refine a9r rfl rfl ?_
  exact ⟨rfl,(a3j [])⟩
open Go Pm Go.RowKit Go.Sort
set_option maxRecDepth 100000
set_option maxHeartbeats 4000000
def b7u (t:List Ch) (name:ByteArray) (rest:List ByteArray):Option (List Ch×List ByteArray) :=
 if name=a2n then match rest with
  |x::r=>(a4c x).map fun v=>(t++[Ch.mk v []],r)
  |[]=>none
 else if name=a7y then match t.getLast? with
  |some c=>if a6f rest then some (t.dropLast++[Ch.mk c.id (c.lines++[rest])],[]) else none
  |none=>none
 else none
def a7u (t:List Ch) (s:ByteArray):Option (List Ch):=match a1n s with
 |[]=>none
 |name::rest=>match b7u t name rest with
  |some (t',[])=>some t'
  |_=>none
def b0d (t:List Ch):List ByteArray→Option (List Ch)
 |[]=>some t
 |s::l=>(a7u t s).bind fun t'=>b0d t' l
def a6t (l:List ByteArray):Option (List Ch):=b0d [] l
theorem b1w:∀ (l m:List ByteArray) (t:List Ch),b0d t (l++m)=(b0d t l).bind fun t'=>b0d t' m
 |[],m,t=>rfl
 |s::l,m,t=>by
  simp only [List.cons_append,b0d]
  cases a7u t s with
  |none=>rfl
  |some t'=>exact b1w l m t'
theorem b2p (l:List ByteArray) (k:Nat) (hk:k < l.length):a6t (l.take (k+1))=(a6t (l.take k)).bind fun t=>a7u t l[k]:=by
 unfold a6t
 rw [List.take_add_one,List.getElem?_eq_getElem hk,b1w]
 congr 1
 funext t
 simp only [Option.toList,b0d]
 cases a7u t l[k]<;>rfl
theorem c4s {l:List ByteArray} {k:Nat} {t:List Ch} (hk:k < l.length) (h:a6t (l.take k)=some t) (hb:a7u t l[k]=none):a6t l=none:=by
 have h1:a6t (l.take (k+1))=none:=by rw [b2p l k hk,h];exact hb
 have h2:=b1w (l.take (k+1)) (l.drop (k+1)) []
 rw [List.take_append_drop] at h2
 unfold a6t at h1 ⊢
 rw [h2,h1];rfl
def bdT (n:Nat) (t:List Ch):Prop:=t.length≤n∧∀ c ∈ t,c.lines.length≤n
theorem e5b {n:Nat} {t t':List Ch} {name:ByteArray} {rest r':List ByteArray} (h:bdT n t) (hs:b7u t name rest=some (t',r')):bdT (n+1) t':=by
 unfold b7u at hs
 split at hs
 ·cases rest with
  |nil=>cases hs
  |cons x r =>
   simp only [Option.map_eq_some_iff,Prod.mk.injEq] at hs
   obtain ⟨v,_,rfl,_⟩:=hs
   refine ⟨by have:=h.1;simp;omega,fun c hc=>?_⟩
   rcases List.mem_append.1 hc with hc|hc
   ·have:=h.2 c hc;omega
   ·simp at hc;subst hc;simp
 ·split at hs
  ·split at hs
   ·rename_i c hc
    split at hs
    ·simp only [Option.some.injEq,Prod.mk.injEq] at hs
     obtain ⟨rfl,_⟩:=hs
     have hcm:c ∈ t:=List.mem_of_getLast? hc
     refine ⟨by have:=h.1;simp;omega,fun d hd=>?_⟩
     rcases List.mem_append.1 hd with hd|hd
     ·have:=h.2 d ((List.dropLast_sublist t).mem hd);omega
     ·simp at hd;subst hd
      have:=h.2 c hcm
      simp;omega
    ·cases hs
   ·cases hs
  ·cases hs
theorem d1d {l:List ByteArray}:∀ {k:Nat} {t:List Ch},k≤l.length→a6t (l.take k)=some t→bdT k t
 |0,t,_,h=>by
  simp [a6t,b0d] at h
  subst h
  exact ⟨by simp,by simp⟩
 |k+1,t,hk,h=>by
  rw [b2p l k (by omega)] at h
  simp only [Option.bind_eq_some_iff] at h
  obtain ⟨u,h1,h2⟩:=h
  have ih:=d1d (by omega) h1
  unfold a7u at h2
  split at h2
  ·cases h2
  ·split at h2
   ·rename_i hs
    cases h2
    exact e5b ih hs
   ·cases h2
theorem g0y (lo:Nat) (t t':List Ch) (name:ByteArray) (rest r':List ByteArray) (hs:b7u t name rest=some (t',r')) (hl:∀ s ∈ rest,s.size≤100000) (hr:rest.length≤1000) (hb:bdT 1000 t) :
  Tri Tryz.prog 74 [str name,.ptr 1 0,.ptr 0 0] [(0,.box [.own 2 0 t.length 2]),(1,.box [a0n lo rest]),(2,.arx 115 2 (c4h t 3)),(3,.arr 32 1 ((e2g t).map (lnE 0)))]
   (fun _=>.ret (.tup []) [(0,.box [.own 4 0 t'.length 2]),(1,.box [a0n lo r']),(4,.arx 115 2 (c4h t' 5)),(5,.arr 32 1 ((e2g t').map (lnE 0)))]):=by
 unfold b7u at hs
 split at hs
 ·rename_i hn
  subst hn
  cases rest with
  |nil=>cases hs
  |cons x r =>
   simp only [Option.map_eq_some_iff,Prod.mk.injEq] at hs
   obtain ⟨v,hv,rfl,rfl⟩:=hs
   exact d3o lo t r x v (hl x (by simp)) hv hb.1
 ·split at hs
  ·rename_i hn
   subst hn
   rcases a6l t with rfl|⟨i,c,rfl⟩
   ·cases hs
   ·simp only [List.getLast?_append,List.getLast?_singleton,Option.some_or] at hs
    split at hs
    ·rename_i hw
     simp only [Option.some.injEq,Prod.mk.injEq,List.dropLast_concat] at hs
     obtain ⟨rfl,rfl⟩:=hs
     have h1:=hb.1
     have h2:=hb.2 c (by simp)
     have:=f1f lo i c rest hw hr (by simp at h1;omega) h2
     simp only [a5d,a8u,List.length_append,List.length_singleton] at this ⊢
     exact this
    ·cases hs
  ·cases hs
theorem f7f (lo:Nat) (t:List Ch) (name:ByteArray) (rest:List ByteArray) (hs:b7u t name rest=none) (hl:∀ s ∈ rest,s.size≤100000) (hr:rest.length≤1000) (hb:bdT 1000 t) :
  Tri Tryz.prog 74 [str name,.ptr 1 0,.ptr 0 0] [(0,.box [.own 2 0 t.length 2]),(1,.box [a0n lo rest]),(2,.arx 115 2 (c4h t 3)),(3,.arr 32 1 ((e2g t).map (lnE 0)))]
   (fun _=>.pan (wrV 111) []):=by
 unfold b7u at hs
 split at hs
 ·rename_i hn
  subst hn
  refine b8d lo t rest hl fun s r e=>?_
  subst e
  simpa using hs
 ·rename_i hn
  split at hs
  ·rename_i hn
   subst hn
   rcases a6l t with rfl|⟨i,c,rfl⟩
   ·exact c3a lo rest
   ·simp only [List.getLast?_append,List.getLast?_singleton,Option.some_or] at hs
    split at hs
    ·cases hs
    ·rename_i hw
     have h1:=hb.1
     have:=c9g lo i c rest (by simpa using hw) hr (by simp at h1;omega)
     simp only [a5d,a8u,List.length_append,List.length_singleton] at this ⊢
     exact this
  ·rename_i hn2
   exact e6x lo name t rest hn hn2
open Go Pm Go.RowKit Go.Sort
set_option maxRecDepth 100000
set_option maxHeartbeats 4000000
theorem e0u (t:List Ch) (a b:Nat) (ρ:Ren) (h:lkR ρ a=some (some b)):(c4h t a).map (List.map (b5f ρ 4))=c4h t b :=
 e5u t _ (fun _=>rfl) (fun _ _ _=>rfl) fun m=>by simp [b5f,h]
theorem f3m {p:Nat→Bool} {l:Nat} {s:St} {lo n:Nat} (i:List Ch) (r:List (List V)):(i.map (chE lo)++r).map (List.map (vwS p l s (n+1)))=i.map (chE lo)++r.map (List.map (vwS p l s (n+1))):=by
 rw [List.map_append,List.map_map]
 congr 1
theorem f1p (n:Nat) (i:List Ch) (c:Ch):Pm.Sub (.lst n 2 (i.map (chE 0)++[[i64 c.id,.lst n 1 (c.lines.map (lnE 0))]])) (chs 0 (i++[c])):=by
 refine .lst (Nat.zero_le _) (by simp) fun k x x' h1 h2=>?_
 by_cases hk:k < i.length
 ·rw [List.getElem?_append_left (by simpa using hk)] at h1
  rw [List.map_append,List.getElem?_append_left (by simpa using hk),h1] at h2
  cases h2
  exact .refl _
 ·rw [List.getElem?_append_right (by simpa using hk)] at h1
  rw [List.map_append,List.getElem?_append_right (by simpa using hk)] at h2
  rw [List.length_map] at h1 h2
  match hq:k - i.length with
  |0 =>
   rw [hq] at h1 h2
   simp at h1 h2
   subst h1;subst h2
   exact .cons (.refl _) (.cons (Sub.lo (Nat.zero_le _)) .nil)
  |q+1=>rw [hq] at h1;simp at h1
theorem f4c (ty ty1:TypeId) (i:List Ch) (c:Ch) {p:Nat→Bool} {lo:Nat} {s:St} (p100:p 100=true) (p101:p 101=true) (h100:s.hget 100=some (.arx ty 2 (i.map (chE 0)++[[i64 c.id,.own 101 0 c.lines.length 1]]))) (h101:s.hget 101=some (.arr ty1 1 (c.lines.map (lnE 0)))) :
  List.map (vwF p lo s 4) [.own 100 0 (i.length+1) 2]=[.lst lo 2 (i.map (chE 0)++[[i64 c.id,.lst lo 1 (c.lines.map (lnE 0))]])]:=by
 have e1:vwS p lo s 3 (.own 101 0 c.lines.length 1)=.lst lo 1 (c.lines.map (lnE 0)):=by
  rw [vwS,p101,h101]
  simp only [if_true,List.drop_zero]
  rw [List.take_of_length_le (by simp)]
 have e2:vwF p lo s 4 (.own 100 0 (i.length+1) 2)=vwS p lo s 4 (.own 100 0 (i.length+1) 2):=by rw [vwF,p100]
 rw [List.map_cons,List.map_nil,e2,vwS,p100,h100]
 have e3:=f3m (p:=p) (l:=lo) (s:=s) (lo:=0) (n:=2) i [[i64 c.id,.own 101 0 c.lines.length 1]]
 simp only [e3,List.map_cons,List.map_nil,e1,if_true,List.drop_zero]
 have e4:vwS p lo s 3 (i64 c.id)=i64 c.id:=rfl
 rw [e4,List.take_of_length_le (by simp)]
theorem d1b {l:List ByteArray} (h:a0z l=true):l.length≤200∧∀ s ∈ l,s.size≤160:=by
 simp only [a0z,Bool.and_eq_true,decide_eq_true_eq,List.all_eq_true,b6q] at h
 exact ⟨by omega,fun s hs=>by have:=(h.1 s hs).1.2;omega⟩
theorem e0w (l:List ByteArray) (h:a0z l=false):Tri Tryz.prog 73 [a0n 0 l,.fn (.func 74) [.ptr 0 0]] [(0,.box [.v (.slice none 0 0)])] (fun _=>.pan (wrV 110) []):=by
 refine a0i (fun _=>false) Tryz.func73 Tryz.ntmps73 rfl rfl fun G hG hOw hNm=>?_;simp only [go_sem,hG,hOw]
 (repeat' with_reducible first|refine And.intro ?_ ?_|intro _|refine exP ?_ ?_);all_goals try omega
 refine a0a (a5v l) ?_
 rw [h]
 simp only [go_sem,hG,hOw]
 (repeat' with_reducible first|refine And.intro ?_ ?_|intro _|refine exP ?_ ?_);all_goals try omega
 refine a0c [] [] (a6b 110) ?_
 simp only [go_sem,hG,hOw]
 exact ⟨rfl,(a3j [])⟩
theorem c4y (l:List ByteArray) (h:a0z l=true):Tri Tryz.prog 73 [a0n 0 l,.fn (.func 74) [.ptr 0 0]] [(0,.box [.v (.slice none 0 0)])] (fun _=>match a6t l with
  |some t=>.ret (.tup []) [(0,.box [chs 0 t])]
  |none=>.pan (wrV 111) []):=by
 obtain ⟨hl1,hl2⟩:=d1b h
 refine a0i (fun _=>false) Tryz.func73 Tryz.ntmps73 rfl rfl fun G hG hOw hNm=>?_;simp only [go_sem,hG,hOw]
 (repeat' with_reducible first|refine And.intro ?_ ?_|intro _|refine exP ?_ ?_);all_goals try omega
 refine a0a (a5v l) ?_
 rw [h]
 simp only [go_sem,hG,hOw]
 (repeat' with_reducible first|refine And.intro ?_ ?_|intro _|refine exP ?_ ?_);all_goals try omega
 refine a0c [] [] (a1o 110) ?_
 simp only [go_sem,hG,hOw]
 (repeat' with_reducible first|refine And.intro ?_ ?_|intro _|refine exP ?_ ?_);all_goals try omega
 refine a6o (fun t:List Ch=>St.of [] [(0,.box [chs 0 t])]) (fun t=>a6t l=some t) ?_ ?_
 ·refine a0l (fun x:Nat×List Ch=>St.of [(1,.fn (.func 74) [.ptr 0 0]),(11,a0n 0 l),(12,i64 l.length),(13,i64 x.1)] [(0,.box [.own 100 0 x.2.length 2]),(100,.arx 115 2 (c4h x.2 101)),(101,.arr 32 1 ((e2g x.2).map (lnE 0)))]) (fun x=>x.1≤l.length∧a6t (l.take x.1)=some x.2) (fun x=>l.length - x.1) (0,[]) ⟨by simp,by simp [a6t,b0d]⟩ (by simp only [c1a,c0m];exact a2a [(0,some 0),(100,none),(101,none)]) ?_
  rintro ⟨k,t⟩ ⟨hk,hrd⟩
  simp only at hk hrd
  have hbd:=d1d hk hrd
  have hb1000:bdT 1000 t:=⟨by have:=hbd.1;omega,fun c hc=>by have:=hbd.2 c hc;omega⟩
  refine a0e _ _ _ ?_;simp only [go_sem,hG,hOw]
  (repeat' with_reducible first|refine And.intro ?_ ?_|intro _|refine exP ?_ ?_);all_goals try omega
  ·rename_i hlt
   have hkl:k < l.length:=by omega
   have hsz:=hl2 _ (List.getElem_mem hkl)
   refine a0a (c0g l[k] (by omega)) ?_
   obtain ⟨name,rest,hp⟩:∃ name rest,a1n l[k]=name::rest:=by
    cases hq:a1n l[k] with
    |nil=>exact (b6k _ hq).elim
    |cons a b=>exact ⟨a,b,rfl⟩
   have hpl:rest.length≤1000:=by have:=b2y l[k];rw [hp] at this;simp at this;omega
   have hps:∀ s ∈ rest,s.size≤100000:=fun s hs=>by have:=b7k l[k] s (by rw [hp];simp [hs]);omega
   rw [hp]
   simp only [go_sem,hG,hOw]
   (repeat' with_reducible first|refine And.intro ?_ ?_|intro _|refine exP ?_ ?_);all_goals try omega
   refine a0c [(0,20)] [] (a9s G.lo name rest) ?_
   simp only [go_sem,hG,hOw]
   (repeat' with_reducible first|refine And.intro ?_ ?_|intro _|refine exP ?_ ?_);all_goals try omega
   cases hst:b7u t name rest with
   |none =>
    have hno:a6t l=none:=c4s hkl hrd (by unfold a7u;rw [hp];simp only [hst])
    rw [hno]
    refine a0c [(0,0),(1,20),(2,100),(3,101)] [] (f7f G.lo t name rest hst hps hpl hb1000) ?_ (by (simp only [go_sem])<;>simp [a6x,lkR]) (by (simp only [go_sem,a1f,a0q,a0f,a1l])<;>simp [a6x,lkR]) (by simp [a0h,usH,toR,a6x,lkR])
    simp only [go_sem,hG,hOw]
    exact ⟨rfl,(a3j [])⟩
   |some q =>
    obtain ⟨t',r'⟩:=q
    have hrr:=e0u t' 5 205
    refine a0c [(0,0),(1,20),(2,100),(3,101)] [(4,204),(5,205)] (g0y G.lo t t' name rest r' hst hps hpl hb1000) ?_ (by (simp only [go_sem])<;>simp [a6x,lkR]) (by (simp only [go_sem,a1f,a0q,a0f,a1l])<;>simp [a6x,lkR]) (by simp [a0h,usH,toR,a6x,lkR])
    simp (maxSteps:=2000000) only [go_sem,hG,hOw,↓hrr]
    (repeat' with_reducible first|refine And.intro ?_ ?_|intro _|refine exP ?_ ?_);all_goals try omega
    ·rename_i hr0
     have hr0:r'=[]:=List.eq_nil_of_length_eq_zero (by omega)
     subst hr0
     have hsF:a7u t l[k]=some t':=by unfold a7u;rw [hp];simp only [hst]
     exact ⟨(k+1,t'),⟨by show k+1≤_;omega,by rw [b2p l k hkl,hrd];exact hsF⟩,by show l.length - (k+1) < _;omega,a2a [(0,some 0),(100,some 204),(101,some 205)] (by (simp only [go_sem])<;>simp [a6x,lkR]) (by (simp only [go_sem,a1f,a0q,a0f,a1l])<;>simp [a6x,lkR])⟩
    ·rename_i hr0
     have hno:a6t l=none:=c4s hkl hrd (by
      unfold a7u;rw [hp];simp only [hst]
      cases r' with
      |nil=>exact (hr0 rfl).elim
      |cons a b=>rfl)
     rw [hno]
     refine b3z [.int .i64 111] rfl rfl (by kernel_rfl) (by simp [chk,hG]) ?_
     simp only [go_sem,hG,hOw]
     (repeat' with_reducible first|refine And.intro ?_ ?_|intro _|refine exP ?_ ?_);all_goals try omega
     refine a9r rfl rfl ?_
     exact ⟨rfl,(a3j [])⟩
  ·rename_i hge
   obtain rfl:k=l.length:=by omega
   rw [List.take_length] at hrd
   refine ⟨t,hrd,?_⟩
   rcases a6l t with rfl|⟨i,c,rfl⟩
   ·refine b4y (fun i=>i == 100 || i == 101) ?_
    simp only [c1a,c0m]
    have hN:Pm.Sub (.lst G.lo 2 []) (.lst 0 2 []):=Sub.lo (Nat.zero_le _)
    exact a2a [(0,some 0)] (by (simp only [go_sem])<;>simp [hN]) (by (simp only [go_sem,a1f,a0q,a0f,a1l])<;>simp [hN])
   ·have hS:=f1p G.lo i c
    have hS:Pm.Sub (.lst G.lo 2 (List.map (chE 0) i++[[.v (.int .i64 c.id),.lst G.lo 1 (List.map (lnE 0) c.lines)]])) (.lst 0 2 (List.map (chE 0) (i++[c]))):=hS
    have hF:=f4c 115 32 i c (p:=fun i=>i == 100 || i == 101) (lo:=G.lo) (s:=St.of [] [(0,.box [.own 100 0 (i.length+1) 2]),(100,.arx 115 2 (i.map (chE 0)++[[i64 c.id,.own 101 0 c.lines.length 1]])),(101,.arr 32 1 (c.lines.map (lnE 0)))]) rfl rfl rfl rfl
    have hOB:a1l [(0,some 0)] (.box [chs 0 (i++[c])]) (some (.box (List.map (vwF (fun i=>i == 100 || i == 101) G.lo (St.of [] [(0,.box [.own 100 0 (i.length+1) 2]),(100,.arx 115 2 (i.map (chE 0)++[[i64 c.id,.own 101 0 c.lines.length 1]])),(101,.arr 32 1 (c.lines.map (lnE 0)))]) 4) [.own 100 0 (i.length+1) 2]))):=by
     rw [hF]
     exact ⟨.inr ⟨rfl,hS⟩,trivial⟩
    have E3:Ent G (frz (fun i=>i == 100 || i == 101) G.lo (St.of [] [(0,.box [.own 100 0 (i.length+1) 2]),(100,.arx 115 2 (i.map (chE 0)++[[i64 c.id,.own 101 0 c.lines.length 1]])),(101,.arr 32 1 (c.lines.map (lnE 0)))])) (St.of [] [(0,.box [chs 0 (i++[c])])]):=by
     refine a0y [(0,some 0)] (by trivial) (by refine And.intro ?_ trivial;exact hOB) (by simp [a2l,apart]) (by simp [a0h,usH]) (by simp [hNm,lkR,a0w])
    refine fun a w h=>E3 a w (b3f _ a w (?_:Sim _ _ _ _))
    simp only [a5d,a8u,List.length_append,List.length_singleton] at h
    exact (a2a [(0,some 0),(100,some 100),(101,some 101)] (by (simp only [go_sem])<;>simp [a7z,c6b,okL,okN,i64,lkR]) (by (simp only [go_sem,a1f,a0q,a0f,a1l])<;>simp [a7z,c6b,okL,okN,i64,lkR])) a w h
 ·rintro t ht
  rw [ht]
  simp only [go_sem,hG,hOw]
  (repeat' with_reducible first|refine And.intro ?_ ?_|intro _|refine exP ?_ ?_);all_goals try omega
  exact (a3j [(0,some 0)])
open Go Pm Go.RowKit Go.Sort
set_option maxRecDepth 100000
set_option maxHeartbeats 4000000
theorem d2h (l:List ByteArray) (t:List Ch) (h:a0z l=true) (hr:a6t l=some t):Tri Tryz.prog 71 [.ptr 0 0,.ptr 1 0,.ptr 2 0] [(0,.box [i64 0]),(1,.box [a0n 0 l]),(2,.box [.v (.slice none 0 0)])]
  (fun _=>.ret (.tup []) [(0,.box [i64 0]),(1,.box [a0n 0 l]),(2,.box [chs 0 t])]):=by
 have hU:=c4y l h
 simp only [hr] at hU
 refine a7o (fun _=>false) (told:=72) (p:=0) (x:=.int .i64 0) wrV (fun _=>True) Tryz.func71 Tryz.ntmps71 rfl (by kernel_rfl) (by simp) rfl rfl rfl rfl rfl (by simp [a0w]) a8s (fun k _=>a9h k) fun G hG hOw hNm _=>?_
 simp only [go_sem,hG,hOw]
 (repeat' with_reducible first|refine And.intro ?_ ?_|intro _|refine exP ?_ ?_);all_goals try omega
 refine a0c [(0,2)] [] (hU) ?_
 simp (maxSteps:=2000000) only [go_sem,hG,hOw,e2w,d7r]
 (repeat' with_reducible first|refine And.intro ?_ ?_|intro _|refine exP ?_ ?_);all_goals try omega
 exact (a3j [(0,some 0),(1,some 1),(2,some 2)])
theorem c6u (l:List ByteArray) (k:Int) (h:a0z l=false∧k=110∨a0z l=true∧a6t l=none∧k=111):Tri Tryz.prog 71 [.ptr 0 0,.ptr 1 0,.ptr 2 0] [(0,.box [i64 0]),(1,.box [a0n 0 l]),(2,.box [.v (.slice none 0 0)])]
  (fun _=>.ret (.tup []) [(0,.box [i64 k]),(1,.box [a0n 0 l])]):=by
 have hU:Tri Tryz.prog 73 [a0n 0 l,.fn (.func 74) [.ptr 0 0]] [(0,.box [.v (.slice none 0 0)])] (fun _=>.pan (wrV k) []):=by
  rcases h with ⟨h1,rfl⟩|⟨h1,h2,rfl⟩
  ·exact e0w l h1
  ·have:=c4y l h1
   simp only [h2] at this
   exact this
 refine a7o (fun _=>false) (told:=72) (p:=0) (x:=.int .i64 0) wrV (fun _=>True) Tryz.func71 Tryz.ntmps71 rfl (by kernel_rfl) (by simp) rfl rfl rfl rfl rfl (by simp [a0w]) a8s (fun k _=>a9h k) fun G hG hOw hNm _=>?_
 simp only [go_sem,hG,hOw]
 (repeat' with_reducible first|refine And.intro ?_ ?_|intro _|refine exP ?_ ?_);all_goals try omega
 refine a0c [(0,2)] [] (hU) ?_
 simp (maxSteps:=2000000) only [go_sem,hG,hOw,c8h]
 (repeat' with_reducible first|refine And.intro ?_ ?_|intro _|refine exP ?_ ?_);all_goals try omega
 exact ⟨k,rfl,(a3j [(0,some 0),(1,some 1)])⟩
def a7s (l:List ByteArray):List Ch×Int:=if a0z l then match a6t l with
  |some t=>if a1r t then (t,0) else ([],10)
  |none=>([],111)
 else ([],110)
theorem e1v (l:List ByteArray):a0o Tryz.prog 16 [a0n 0 l] (fun _=>.tup [txE 0 (a7s l).1,i64 (a7s l).2]):=by
 by_cases hgood:a0z l=true∧∃ t,a6t l=some t
 ·obtain ⟨h1,t,h2⟩:=hgood
  have e:a7s l=if a1r t then (t,0) else ([],10):=by unfold a7s;simp only [h1,h2,if_true]
  rw [e]
  refine a0b (ow:=fun _=>false) Tryz.func16 Tryz.ntmps16 rfl rfl fun G hG hOw hNm hB=>?_;simp only [go_sem,hG,hOw]
  (repeat' with_reducible first|refine And.intro ?_ ?_|intro _|refine exP ?_ ?_);all_goals try omega
  refine a0c [(0,5),(1,1),(2,4)] [] (d2h l t h1 h2) ?_
  simp only [go_sem,hG,hOw]
  (repeat' with_reducible first|refine And.intro ?_ ?_|intro _|refine exP ?_ ?_);all_goals try omega
  refine a0a (a4j t) ?_
  cases htx:a1r t with
  |false =>
   simp only [go_sem,hG,hOw]
   (repeat' with_reducible first|refine And.intro ?_ ?_|intro _|refine exP ?_ ?_);all_goals try omega
   refine a2k ⟨[2,5],[],[]⟩ [(0,false),(1,false),(2,false),(3,false)] mixed (by kernel_rfl) ?_
   simp only [a2y,List.getElem?_cons_zero,List.getElem?_cons_succ]
   simp only [go_sem,hG,hOw]
   (repeat' with_reducible first|refine And.intro ?_ ?_|intro _|refine exP ?_ ?_);all_goals try omega
   exact Subs.tup (.cons (Subs.agg (.cons (.nil _ _) .nil)) (.cons (.refl _) .nil))
  |true =>
   simp only [go_sem,hG,hOw]
   (repeat' with_reducible first|refine And.intro ?_ ?_|intro _|refine exP ?_ ?_);all_goals try omega
 ·obtain ⟨k,hk,e⟩:∃ k:Int,(a0z l=false∧k=110∨a0z l=true∧a6t l=none∧k=111)∧a7s l=([],k):=by
   cases h1:a0z l with
   |false=>exact ⟨110,.inl ⟨rfl,rfl⟩,by unfold a7s;simp [h1]⟩
   |true =>
    cases h2:a6t l with
    |none=>exact ⟨111,.inr ⟨rfl,rfl,rfl⟩,by unfold a7s;simp [h1,h2]⟩
    |some t=>exact (hgood ⟨h1,t,h2⟩).elim
  have hk0:k≠0:=by rcases hk with ⟨_,rfl⟩|⟨_,_,rfl⟩<;>decide
  rw [e]
  refine a0b (ow:=fun _=>false) Tryz.func16 Tryz.ntmps16 rfl rfl fun G hG hOw hNm hB=>?_;simp only [go_sem,hG,hOw]
  (repeat' with_reducible first|refine And.intro ?_ ?_|intro _|refine exP ?_ ?_);all_goals try omega
  refine a0c [(0,5),(1,1),(2,4)] [] (c6u l k hk) ?_
  simp (maxSteps:=2000000) only [go_sem,hG,hOw,hk0]
  (repeat' with_reducible first|refine And.intro ?_ ?_|intro _|refine exP ?_ ?_);all_goals try omega
  refine a2k ⟨[2,5],[],[]⟩ [(0,false),(1,false),(2,false),(3,false)] mixed (by kernel_rfl) ?_
  simp only [a2y,List.getElem?_cons_zero,List.getElem?_cons_succ]
  simp only [go_sem,hG,hOw]
  (repeat' with_reducible first|refine And.intro ?_ ?_|intro _|refine exP ?_ ?_);all_goals try omega
  exact Subs.tup (.cons (Subs.agg (.cons (.nil _ _) .nil)) (.cons (.refl _) .nil))
end Go.Proofs.YtmjhfccbbfpppaaGreatDoor
