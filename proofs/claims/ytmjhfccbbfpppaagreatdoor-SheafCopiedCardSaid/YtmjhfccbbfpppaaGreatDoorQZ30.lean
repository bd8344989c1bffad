import Derived.Test.YtmjhfccbbfpppaaGreatDoorQZ09
import Derived.Test.YtmjhfccbbfpppaaGreatDoorQZ12
import Derived.Test.YtmjhfccbbfpppaaGreatDoorQZ14
import Derived.Test.YtmjhfccbbfpppaaGreatDoorQZ20
import Derived.Test.YtmjhfccbbfpppaaGreatDoorQZ22
import Derived.Test.YtmjhfccbbfpppaaGreatDoorQZ26
import Derived.Test.YtmjhfccbbfpppaaGreatDoorQZ28
namespace Go.Proofs.YtmjhfccbbfpppaaGreatDoor
open Go Pm Go.RowKit
set_option linter.unusedSimpArgs false
set_option linter.unusedVariables false
set_option maxRecDepth 100000
set_option maxHeartbeats 4000000
def wrV (k:Int):Value:=.iface 145 (.agg #[.int .i64 k])
theorem a1r (k:Int):Tri Tryz.prog 76 [bl true,i64 k] [] (fun _=>.ret (.tup []) []):=by
 refine a0j (fun _=>false) Tryz.func76 Tryz.ntmps76 rfl rfl fun G hG hOw hNm=>?_;simp only [go_sem,hG,hOw]
 (repeat' with_reducible first|refine And.intro ?_ ?_|intro _|refine exP ?_ ?_);all_goals try omega
 exact (a3x [])
theorem a6v (k:Int):Tri Tryz.prog 76 [bl false,i64 k] [] (fun _=>.pan (wrV k) []):=by
 refine a0j (fun _=>false) Tryz.func76 Tryz.ntmps76 rfl rfl fun G hG hOw hNm=>?_;simp only [go_sem,hG,hOw]
 (repeat' with_reducible first|refine And.intro ?_ ?_|intro _|refine exP ?_ ?_);all_goals try omega
 refine d0b [.int .i64 k] rfl rfl (by kernel_rfl) (by simp [chk,hG]) ?_
 simp only [go_sem,hG,hOw]
 (repeat' with_reducible first|refine And.intro ?_ ?_|intro _|refine exP ?_ ?_);all_goals try omega
 refine b8x rfl rfl ?_
 simp only [go_sem,hG,hOw]
 exact ⟨rfl,(a3x [])⟩
theorem b4i (k:Int):f4t Tryz.prog 72 [.ptr 0 0] [(0,.box [i64 0])] (.panicking [{ v:=wrV k,recovered:=false }]) (.panicking [{ v:=wrV k,recovered:=true }]) [(0,.box [i64 k])]:=by
 refine b8q _ _ (wrV k) Tryz.func72 Tryz.ntmps72 rfl (by kernel_rfl) (by simp) rfl rfl rfl rfl (by simp) (fun c₀ cs h=>?_) fun G hG hOw hNm=>?_
 ·simp [recoverD,h]
 simp only [go_sem,hG,hOw]
 (repeat' with_reducible first|refine And.intro ?_ ?_|intro _|refine exP ?_ ?_);all_goals try omega
 refine a7l (wrV k) false .eql (.inl ⟨rfl,rfl⟩) rfl rfl (.inr ⟨_,_,rfl⟩) (by kernel_rfl) (by simp [chk,hG]) ?_
 simp only [go_sem,hG,hOw]
 (repeat' with_reducible first|refine And.intro ?_ ?_|intro _|refine exP ?_ ?_);all_goals try omega
 refine d5w [.int .i64 k] rfl rfl (by kernel_rfl) (by simp [chk,hG]) ?_
 simp only [go_sem,hG,hOw]
 (repeat' with_reducible first|refine And.intro ?_ ?_|intro _|refine exP ?_ ?_);all_goals try omega
 exact (a3x [(0,some 0)])
theorem b6b:f4t Tryz.prog 72 [.ptr 0 0] [(0,.box [i64 0])] .returning .returning [(0,.box [i64 0])]:=by
 refine b8q _ _ .nilIface Tryz.func72 Tryz.ntmps72 rfl (by kernel_rfl) (by simp) rfl rfl rfl rfl (by simp) (fun c₀ cs h=>?_) fun G hG hOw hNm=>?_
 ·simp [recoverD,h]
 simp only [go_sem,hG,hOw]
 (repeat' with_reducible first|refine And.intro ?_ ?_|intro _|refine exP ?_ ?_);all_goals try omega
 refine a7l .nilIface true .eql (.inl ⟨rfl,rfl⟩) rfl rfl (.inl rfl) (by kernel_rfl) (by simp [chk,hG]) ?_
 simp only [go_sem,hG,hOw]
 (repeat' with_reducible first|refine And.intro ?_ ?_|intro _|refine exP ?_ ?_);all_goals try omega
 exact (a3x [(0,some 0)])
theorem b0p (lo:Nat) (s:ByteArray) (l:List ByteArray):Tri Tryz.prog 141 [.ptr 0 0] [(0,.box [a0p lo (s::l)])] (fun _=>.ret (.v (.string s)) [(0,.box [a0p lo l])]):=by
 refine a0j (fun _=>false) Tryz.func141 Tryz.ntmps141 rfl rfl fun G hG hOw hNm=>?_;simp only [go_sem,hG,hOw]
 (repeat' with_reducible first|refine And.intro ?_ ?_|intro _|refine exP ?_ ?_);all_goals try omega
 refine a0c [] [] (a1r 111) ?_
 simp (maxSteps:=2000000) only [go_sem,hG,hOw,List.map_cons,List.length_cons,List.getElem_cons_zero]
 (repeat' with_reducible first|refine And.intro ?_ ?_|intro _|refine exP ?_ ?_);all_goals try omega
 exact (a3x [(0,some 0)])
theorem d8g (lo:Nat):Tri Tryz.prog 141 [.ptr 0 0] [(0,.box [a0p lo []])] (fun _=>.pan (wrV 111) []):=by
 refine a0j (fun _=>false) Tryz.func141 Tryz.ntmps141 rfl rfl fun G hG hOw hNm=>?_;simp only [go_sem,hG,hOw]
 (repeat' with_reducible first|refine And.intro ?_ ?_|intro _|refine exP ?_ ?_);all_goals try omega
 refine a0c [] [] (a6v 111) ?_
 simp only [go_sem,hG,hOw]
 exact ⟨rfl,(a3x [])⟩
theorem c3z (b:UInt8):a0n Tryz.prog 144 [.v (.int .u8 b.toNat)] (fun _=>bl (!a1s b)):=by
 refine a0b (ow:=fun _=>false) Tryz.func144 Tryz.ntmps144 rfl rfl fun G hG hOw hNm hB=>?_;simp only [go_sem,hG,hOw]
 (repeat' with_reducible first|refine And.intro ?_ ?_|intro _|refine exP ?_ ?_);all_goals try omega
 ·rename_i h;simp [a1s];intro;omega
 ·rename_i h;simp [a1s];omega
theorem b3q (lo hi n:Int):a0n Tryz.prog 95 [i64 lo,i64 hi,.lst 0 1 [[i64 n]]] (fun _=>bl (inB n lo hi)):=by
 have h:=f3u lo hi [n]
 have e:([n].all fun n=>decide (lo≤n) && decide (n≤hi))=inB n lo hi:=by simp [inB]
 rw [e] at h
 exact h
theorem c9y (lo:Nat) (s:ByteArray) (l:List ByteArray) (h:a1h s=true):Tri Tryz.prog 86 [.ptr 0 0] [(0,.box [a0p lo (s::l)])] (fun _=>.ret (.v (.string s)) [(0,.box [a0p lo l])]):=by
 have h1:inB s.size 1 12=true:=by unfold a1h at h;simp at h;exact h.2
 have h2:(s.data.toList.any fun b=>!a1s b)=false:=by unfold a1h at h;rw [Bool.and_eq_true] at h;rw [List.any_eq_false];intro x hx;have:=List.all_eq_true.1 h.1 x hx;simp [this]
 have h3:s.size≤12:=by simp [inB] at h1;omega
 refine a0j (fun _=>false) Tryz.func86 Tryz.ntmps86 rfl rfl fun G hG hOw hNm=>?_;simp only [go_sem,hG,hOw]
 (repeat' with_reducible first|refine And.intro ?_ ?_|intro _|refine exP ?_ ?_);all_goals try omega
 refine a0c [(0,0)] [] (b0p lo s l) ?_
 simp only [go_sem,hG,hOw]
 (repeat' with_reducible first|refine And.intro ?_ ?_|intro _|refine exP ?_ ?_);all_goals try omega
 refine a0a (b3q 1 12 s.size) ?_
 rw [h1]
 simp only [go_sem,hG,hOw]
 (repeat' with_reducible first|refine And.intro ?_ ?_|intro _|refine exP ?_ ?_);all_goals try omega
 refine a0a (a3a _ [] (fun b=>!a1s b) s.data.toList rfl (fun b _=>c3z b)) ?_
 rw [h2]
 simp only [go_sem,hG,hOw]
 (repeat' with_reducible first|refine And.intro ?_ ?_|intro _|refine exP ?_ ?_);all_goals try omega
 refine a0c [] [] (a1r 111) ?_
 simp only [go_sem,hG,hOw]
 (repeat' with_reducible first|refine And.intro ?_ ?_|intro _|refine exP ?_ ?_);all_goals try omega
 exact (a3x [(0,some 0)])
theorem c9k (lo:Nat) (s:ByteArray) (l:List ByteArray) (h:a1h s=false):Tri Tryz.prog 86 [.ptr 0 0] [(0,.box [a0p lo (s::l)])] (fun _=>.pan (wrV 111) []):=by
 refine a0j (fun _=>false) Tryz.func86 Tryz.ntmps86 rfl rfl fun G hG hOw hNm=>?_;simp only [go_sem,hG,hOw]
 (repeat' with_reducible first|refine And.intro ?_ ?_|intro _|refine exP ?_ ?_);all_goals try omega
 refine a0c [(0,0)] [] (b0p lo s l) ?_
 simp only [go_sem,hG,hOw]
 (repeat' with_reducible first|refine And.intro ?_ ?_|intro _|refine exP ?_ ?_);all_goals try omega
 refine a0a (b3q 1 12 s.size) ?_
 cases h1:inB s.size 1 12 with
 |false =>
  simp only [go_sem,hG,hOw]
  (repeat' with_reducible first|refine And.intro ?_ ?_|intro _|refine exP ?_ ?_);all_goals try omega
  refine a0c [] [] (a6v 111) ?_
  simp only [go_sem,hG,hOw]
  exact ⟨rfl,(a3x [])⟩
 |true =>
  have h2:(s.data.toList.any fun b=>!a1s b)=true:=by unfold a1h at h;rw [h1,Bool.and_true] at h;rw [List.all_eq_false] at h;rw [List.any_eq_true];obtain ⟨x,hx,h⟩:=h;exact ⟨x,hx,by simpa using h⟩
  have h3:s.size≤12:=by simp [inB] at h1;omega
  simp only [go_sem,hG,hOw]
  (repeat' with_reducible first|refine And.intro ?_ ?_|intro _|refine exP ?_ ?_);all_goals try omega
  refine a0a (a3a _ [] (fun b=>!a1s b) s.data.toList rfl (fun b _=>c3z b)) ?_
  rw [h2]
  simp only [go_sem,hG,hOw]
  (repeat' with_reducible first|refine And.intro ?_ ?_|intro _|refine exP ?_ ?_);all_goals try omega
  refine a0c [] [] (a6v 111) ?_
  simp only [go_sem,hG,hOw]
  exact ⟨rfl,(a3x [])⟩
theorem e0f (lo:Nat):Tri Tryz.prog 86 [.ptr 0 0] [(0,.box [a0p lo []])] (fun _=>.pan (wrV 111) []):=by
 refine a0j (fun _=>false) Tryz.func86 Tryz.ntmps86 rfl rfl fun G hG hOw hNm=>?_;simp only [go_sem,hG,hOw]
 (repeat' with_reducible first|refine And.intro ?_ ?_|intro _|refine exP ?_ ?_);all_goals try omega
 refine a0c [(0,0)] [] (d8g lo) ?_
 simp only [go_sem,hG,hOw]
 exact ⟨rfl,(a3x [])⟩
open Go Pm Go.RowKit
set_option maxRecDepth 100000
set_option maxHeartbeats 4000000
open Go Pm Go.RowKit
set_option maxRecDepth 100000
set_option maxHeartbeats 4000000
theorem d3h (lo:Nat):Tri Tryz.prog 75 [.ptr 0 0] [(0,.box [a0p lo []])] (fun _=>.pan (wrV 111) []):=by
 refine a0j (fun _=>false) Tryz.func75 Tryz.ntmps75 rfl rfl fun G hG hOw hNm=>?_;simp only [go_sem,hG,hOw]
 (repeat' with_reducible first|refine And.intro ?_ ?_|intro _|refine exP ?_ ?_);all_goals try omega
 refine a0c [(0,0)] [] (d8g lo) ?_
 simp only [go_sem,hG,hOw]
 exact ⟨rfl,(a3x [])⟩
theorem b7w (lo:Nat) (s:ByteArray) (l:List ByteArray) (v:Int) (hs:s.size≤100000) (h:a4o s=some v):Tri Tryz.prog 75 [.ptr 0 0] [(0,.box [a0p lo (s::l)])] (fun _=>.ret (i64 v) [(0,.box [a0p lo l])]):=by
 obtain ⟨h1,h2,h3,h4⟩:=b8r h
 have hin:inB v 0 9999=true:=by simp [inB,h2,h3]
 have hnb:a2a v=s:=by rw [a2a,h1,c0y]
 refine a0j (fun _=>false) Tryz.func75 Tryz.ntmps75 rfl rfl fun G hG hOw hNm=>?_;simp only [go_sem,hG,hOw]
 (repeat' with_reducible first|refine And.intro ?_ ?_|intro _|refine exP ?_ ?_);all_goals try omega
 refine a0c [(0,0)] [] (b0p lo s l) ?_
 simp only [go_sem,hG,hOw]
 (repeat' with_reducible first|refine And.intro ?_ ?_|intro _|refine exP ?_ ?_);all_goals try omega
 refine a0a (c8d s hs v h4) ?_
 simp only [go_sem,hG,hOw]
 (repeat' with_reducible first|refine And.intro ?_ ?_|intro _|refine exP ?_ ?_);all_goals try omega
 refine a7l .nilIface true .eql (.inl ⟨rfl,rfl⟩) rfl rfl (.inl rfl) (by kernel_rfl) (by simp [chk,hG]) ?_
 simp only [go_sem,hG,hOw]
 (repeat' with_reducible first|refine And.intro ?_ ?_|intro _|refine exP ?_ ?_);all_goals try omega
 refine a0a (b3q 0 9999 v) ?_
 rw [hin]
 simp only [go_sem,hG,hOw]
 (repeat' with_reducible first|refine And.intro ?_ ?_|intro _|refine exP ?_ ?_);all_goals try omega
 refine a0a (a4l v h2 h3) ?_
 rw [hnb]
 simp only [go_sem,hG,hOw]
 (repeat' with_reducible first|refine And.intro ?_ ?_|intro _|refine exP ?_ ?_);all_goals try omega
 refine a0c [] [] (a1r 111) ?_
 simp only [go_sem,hG,hOw]
 (repeat' with_reducible first|refine And.intro ?_ ?_|intro _|refine exP ?_ ?_);all_goals try omega
 exact (a3x [(0,some 0)])
theorem d1y (lo:Nat) (s:ByteArray) (l:List ByteArray) (hs:s.size≤100000) (h:a4o s=none):Tri Tryz.prog 75 [.ptr 0 0] [(0,.box [a0p lo (s::l)])] (fun _=>.pan (wrV 111) []):=by
 refine a0j (fun _=>false) Tryz.func75 Tryz.ntmps75 rfl rfl fun G hG hOw hNm=>?_;simp only [go_sem,hG,hOw]
 (repeat' with_reducible first|refine And.intro ?_ ?_|intro _|refine exP ?_ ?_);all_goals try omega
 refine a0c [(0,0)] [] (b0p lo s l) ?_
 simp only [go_sem,hG,hOw]
 (repeat' with_reducible first|refine And.intro ?_ ?_|intro _|refine exP ?_ ?_);all_goals try omega
 by_cases ha:∃ v,Lib.atoiAll s.data.toList=.ok v
 ·obtain ⟨v,hv⟩:=ha
  have hno:¬ (inB v 0 9999=true∧a2a v=s):=by
   rcases d8w s v hv with q|q
   ·rw [h] at q;cases q.2
   ·exact q.1
  refine a0a (c8d s hs v hv) ?_
  simp only [go_sem,hG,hOw]
  (repeat' with_reducible first|refine And.intro ?_ ?_|intro _|refine exP ?_ ?_);all_goals try omega
  refine a7l .nilIface true .eql (.inl ⟨rfl,rfl⟩) rfl rfl (.inl rfl) (by kernel_rfl) (by simp [chk,hG]) ?_
  simp only [go_sem,hG,hOw]
  (repeat' with_reducible first|refine And.intro ?_ ?_|intro _|refine exP ?_ ?_);all_goals try omega
  refine a0a (b3q 0 9999 v) ?_
  cases hin:inB v 0 9999 with
  |false =>
   simp only [go_sem,hG,hOw]
   (repeat' with_reducible first|refine And.intro ?_ ?_|intro _|refine exP ?_ ?_);all_goals try omega
   refine a0c [] [] (a6v 111) ?_
   simp only [go_sem,hG,hOw]
   exact ⟨rfl,(a3x [])⟩
  |true =>
   have hb:0≤v∧v≤9999:=by simpa [inB] using hin
   simp only [go_sem,hG,hOw]
   (repeat' with_reducible first|refine And.intro ?_ ?_|intro _|refine exP ?_ ?_);all_goals try omega
   refine a0a (a4l v hb.1 hb.2) ?_
   have hne:a2a v≠s:=fun e=>hno ⟨hin,e⟩
   simp (maxSteps:=2000000) only [go_sem,hG,hOw,hne]
   (repeat' with_reducible first|refine And.intro ?_ ?_|intro _|refine exP ?_ ?_);all_goals try omega
   refine a0c [] [] (a6v 111) ?_
   simp only [go_sem,hG,hOw]
   exact ⟨rfl,(a3x [])⟩
 ·have ha':∀ v,Lib.atoiAll s.data.toList≠.ok v:=fun v hv=>ha ⟨v,hv⟩
  refine d5n (f1g s hs ha') (by first|exact Subs.refl _|(repeat' (first|exact Subs.nil|exact Sub.refl _|exact Sub.lo (Nat.zero_le _)|refine Subs.cons ?_ ?_|refine Subs.agg ?_|refine Subs.fp ?_|refine Subs.tup ?_|refine Sub.map (Nat.zero_le _) (fun _=>?_)))) (by first|rfl|simp [b0j,b3n,pureV,pure0, *]) (by simp [chk,hG]) ?_
  rintro _ ⟨n,t,p,rfl⟩
  simp only [go_sem,hG,hOw]
  (repeat' with_reducible first|refine And.intro ?_ ?_|intro _|refine exP ?_ ?_);all_goals try omega
  refine a7l (.iface t p) false .eql (.inl ⟨rfl,rfl⟩) rfl rfl (.inr ⟨_,_,rfl⟩) (by kernel_rfl) (by simp [chk,hG]) ?_
  simp only [go_sem,hG,hOw]
  (repeat' with_reducible first|refine And.intro ?_ ?_|intro _|refine exP ?_ ?_);all_goals try omega
  refine a0c [] [] (a6v 111) ?_
  simp only [go_sem,hG,hOw]
  exact ⟨rfl,(a3x [])⟩
theorem b8j (lo:Nat) (l:List ByteArray) (hl:∀ s ∈ l,s.size≤100000) (h:∀ s r,l=s::r→a4o s=none):Tri Tryz.prog 75 [.ptr 0 0] [(0,.box [a0p lo l])] (fun _=>.pan (wrV 111) []):=by
 cases l with
 |nil=>exact d3h lo
 |cons s r=>exact d1y lo s r (hl s (by simp)) (h s r rfl)
def nvS (l:List ByteArray) (j:Nat):Int:=(a4o (l.getD j ByteArray.empty)).getD 0
def c2p (l:List ByteArray) (j:Nat):Bool:=decide (j < l.length) && (a4o (l.getD j ByteArray.empty)).isSome
def a3d (l:List ByteArray):Bool:=c2p l 0 && c2p l 1 && c2p l 2
theorem e3t {l:List ByteArray} {j:Nat} (h:c2p l j=true):∃ hj:j < l.length,a4o l[j]=some (nvS l j):=by
 simp only [c2p,Bool.and_eq_true,decide_eq_true_eq] at h
 obtain ⟨hj,h2⟩:=h
 have e:l.getD j ByteArray.empty=l[j]:=by simp [List.getD,hj]
 rw [e] at h2
 refine ⟨hj,?_⟩
 unfold nvS
 rw [e]
 cases hv:a4o l[j] with
 |none=>rw [hv] at h2;cases h2
 |some v=>rfl
theorem f0v {l:List ByteArray} {j:Nat} (h:c2p l j=false):∀ s r,l.drop j=s::r→a4o s=none:=by
 intro s r e
 have hj:j < l.length:=by
  rcases Nat.lt_or_ge j l.length with q|q
  ·exact q
  ·rw [List.drop_eq_nil_of_le q] at e;cases e
 have e1:s=l[j]:=by rw [List.drop_eq_getElem_cons hj] at e;exact (List.cons.inj e).1.symm
 simp only [c2p,hj,decide_true,Bool.true_and] at h
 have e2:l.getD j ByteArray.empty=l[j]:=by simp [List.getD,hj]
 rw [e2,← e1] at h
 cases hv:a4o s with
 |none=>rfl
 |some v=>rw [hv] at h;cases h
theorem b6f (lo:Nat) (l:List ByteArray) (j:Nat) (hl:∀ s ∈ l,s.size≤100000) (h:c2p l j=true):Tri Tryz.prog 75 [.ptr 0 0] [(0,.box [a0p lo (l.drop j)])] (fun _=>.ret (i64 (nvS l j)) [(0,.box [a0p lo (l.drop (j+1))])]):=by
 obtain ⟨hj,hv⟩:=e3t h
 rw [List.drop_eq_getElem_cons hj]
 exact b7w lo l[j] (l.drop (j+1)) (nvS l j) (hl _ (List.getElem_mem hj)) hv
theorem b2e (lo:Nat) (l:List ByteArray) (j:Nat) (hl:∀ s ∈ l,s.size≤100000) (h:c2p l j=false):Tri Tryz.prog 75 [.ptr 0 0] [(0,.box [a0p lo (l.drop j)])] (fun _=>.pan (wrV 111) []) :=
 b8j lo (l.drop j) (fun s hs=>hl s (List.mem_of_mem_drop hs)) (f0v h)
def plK (l:List ByteArray):Nat→List V
 |0=>[i64 0,i64 0,i64 0]
 |1=>[i64 (nvS l 0),i64 0,i64 0]
 |2=>[i64 (nvS l 0),i64 (nvS l 1),i64 0]
 |_=>[i64 (nvS l 0),i64 (nvS l 1),i64 (nvS l 2)]
theorem g0j (l:List ByteArray):plK l 0=[i64 0,i64 0,i64 0]:=rfl
theorem g1j (l:List ByteArray):plK l 1=[i64 (nvS l 0),i64 0,i64 0]:=rfl
theorem g1c (l:List ByteArray):plK l 2=[i64 (nvS l 0),i64 (nvS l 1),i64 0]:=rfl
theorem g0u (l:List ByteArray):plK l 3=[i64 (nvS l 0),i64 (nvS l 1),i64 (nvS l 2)]:=rfl
attribute [go_sem] g0j g1j g1c g0u
theorem a4e (lo:Nat) (l:List ByteArray) (hl:∀ s ∈ l,s.size≤100000):Tri Tryz.prog 85 [.ptr 0 0] [(0,.box [a0p lo l])] (fun _=>if a3d l then .ret (.agg (plK l 3)) [(0,.box [a0p lo (l.drop 3)])] else .pan (wrV 111) []):=by
 refine a0j (fun i=>[9].contains i) Tryz.func85 Tryz.ntmps85 rfl rfl fun G hG hOw hNm=>?_;simp only [go_sem,hG,hOw]
 (repeat' with_reducible first|refine And.intro ?_ ?_|intro _|refine exP ?_ ?_);all_goals try omega
 have c0:((0:Nat):Int)=0:=rfl
 have c1:((1:Nat):Int)=1:=rfl
 have c2:((2:Nat):Int)=2:=rfl
 have c3:((3:Nat):Int)=3:=rfl
 have i1:Int.toNat 1=1:=rfl
 have i2:Int.toNat 2=2:=rfl
 refine a0m (fun k:Nat=>St.of [(0,.ptr 0 0),(2,.ptr 2 0),(3,.ptr 3 0),(9,.own 9 0 3 1),(10,i64 3),(11,i64 k)] [(0,.box [a0p lo (l.drop k)]),(2,.box [i64 0,i64 0,i64 0]),(3,.box (plK l k)),(9,.box [.ptr 3 0,.ptr 3 1,.ptr 3 2])]) (fun k=>k≤3∧(0 < k→c2p l 0=true)∧(1 < k→c2p l 1=true)∧(2 < k→c2p l 2=true)) (fun k=>3 - k) 0 (by simp) (by simp only [List.drop_zero];exact a2d [(0,some 0),(2,some 2),(3,some 3),(9,some 9)]) ?_
 rintro k ⟨hk,h1,h2,h3⟩
 have hk4:k=0∨k=1∨k=2∨k=3:=by omega
 rcases hk4 with rfl|rfl|rfl|rfl
 all_goals skip
 ·refine a0d _ _ _ ?_
  simp (maxSteps:=2000000) only [go_sem,hG,hOw,c0,c1,c2,c3,i1,i2,List.getElem_cons_zero,List.getElem_cons_succ]
  (repeat' with_reducible first|refine And.intro ?_ ?_|intro _|refine exP ?_ ?_);all_goals try omega
  cases ho:c2p l 0 with
  |false =>
   have hbad:a3d l=false:=by unfold a3d;rw [ho];simp
   rw [hbad]
   have hU:=b2e lo l 0 hl ho
   rw [List.drop_zero] at hU
   refine a0c [(0,0)] [] (hU) ?_
   simp only [go_sem,hG,hOw]
   exact ⟨rfl,(a3x [])⟩
  |true =>
   have hU:=b6f lo l 0 hl ho
   rw [List.drop_zero] at hU
   refine a0c [(0,0)] [] (hU) ?_
   simp only [go_sem,hG,hOw]
   (repeat' with_reducible first|refine And.intro ?_ ?_|intro _|refine exP ?_ ?_);all_goals try omega
   exact ⟨1,(by simp [ho]),by omega,a2d [(0,some 0),(2,some 2),(3,some 3),(9,some 9)]⟩
 ·refine a0d _ _ _ ?_
  simp (maxSteps:=2000000) only [go_sem,hG,hOw,c0,c1,c2,c3,i1,i2,List.getElem_cons_zero,List.getElem_cons_succ]
  (repeat' with_reducible first|refine And.intro ?_ ?_|intro _|refine exP ?_ ?_);all_goals try omega
  cases ho:c2p l 1 with
  |false =>
   have hbad:a3d l=false:=by unfold a3d;rw [ho];simp
   rw [hbad]
   have hU:=b2e lo l 1 hl ho
   skip
   refine a0c [(0,0)] [] (hU) ?_
   simp only [go_sem,hG,hOw]
   exact ⟨rfl,(a3x [])⟩
  |true =>
   have hU:=b6f lo l 1 hl ho
   skip
   refine a0c [(0,0)] [] (hU) ?_
   simp only [go_sem,hG,hOw]
   (repeat' with_reducible first|refine And.intro ?_ ?_|intro _|refine exP ?_ ?_);all_goals try omega
   have h1':=h1 (by omega)
   exact ⟨2,(by simp [ho,h1']),by omega,a2d [(0,some 0),(2,some 2),(3,some 3),(9,some 9)]⟩
 ·refine a0d _ _ _ ?_
  simp (maxSteps:=2000000) only [go_sem,hG,hOw,c0,c1,c2,c3,i1,i2,List.getElem_cons_zero,List.getElem_cons_succ]
  (repeat' with_reducible first|refine And.intro ?_ ?_|intro _|refine exP ?_ ?_);all_goals try omega
  cases ho:c2p l 2 with
  |false =>
   have hbad:a3d l=false:=by unfold a3d;rw [ho];simp
   rw [hbad]
   have hU:=b2e lo l 2 hl ho
   skip
   refine a0c [(0,0)] [] (hU) ?_
   simp only [go_sem,hG,hOw]
   exact ⟨rfl,(a3x [])⟩
  |true =>
   have hU:=b6f lo l 2 hl ho
   skip
   refine a0c [(0,0)] [] (hU) ?_
   simp only [go_sem,hG,hOw]
   (repeat' with_reducible first|refine And.intro ?_ ?_|intro _|refine exP ?_ ?_);all_goals try omega
   have h1':=h1 (by omega)
   have h2':=h2 (by omega)
   exact ⟨3,(by simp [ho,h1',h2']),by omega,a2d [(0,some 0),(2,some 2),(3,some 3),(9,some 9)]⟩
 ·have hok:a3d l=true:=by unfold a3d;rw [h1 (by omega),h2 (by omega),h3 (by omega)];rfl
  rw [if_pos hok]
  refine a0d _ _ _ ?_
  simp (maxSteps:=2000000) only [go_sem,hG,hOw,c0,c1,c2,c3,i1,i2,List.getElem_cons_zero,List.getElem_cons_succ]
  (repeat' with_reducible first|refine And.intro ?_ ?_|intro _|refine exP ?_ ?_);all_goals try omega
  exact (a3x [(0,some 0)])
open Go Pm Go.RowKit Go.Sort
set_option maxRecDepth 100000
set_option maxHeartbeats 4000000
def c4s (l:List ByteArray):List V:=l.map fun s=>.v (.string s)
theorem e6l:c4s []=[]:=rfl
theorem d4i (s:ByteArray) (l:List ByteArray):c4s (s::l)=.v (.string s)::c4s l:=rfl
attribute [go_sem] e6l d4i
theorem a6u {B b:Nat} {w0:World} (hb:B≤b):∀ (vs:List Value) (o:Nat) (w:World),Below B w0 w→Below B w0 (w.setCells b o vs)
 |[],_,_,h=>h
 |v::r,o,w,h=>a6u hb r (o+1) _ (h.setCell (p:=⟨b,o,none⟩) hb v)
theorem d6e (n:Nat):(Builtin.zeroCells (Value.string ⟨#[]⟩).cells n).size=n:=by simp [Builtin.zeroCells,Value.cells]
def f1i (w:World) (cap:Nat) (x:Value) (cs:List Value):World :=
 (((w.alloc (.cells ((cs.take 0).toArray++Builtin.zeroCells (Value.string ⟨#[]⟩).cells (cs.length+1 - 0)++Builtin.zeroCells (Value.string ⟨#[]⟩).cells (cap - (cs.length+1))) 9)).drew.setCells w.heap.size 0 [x]).drew).setCells w.heap.size (0+1) (cs.drop 0)
theorem f2t (w:World) (cap:Nat) (x:ByteArray) (cs:List ByteArray) :
  Below w.heap.size w (f1i w cap (.string x) (cs.map .string))∧w.heap.size < (f1i w cap (.string x) (cs.map .string)).heap.size∧∀ j v,(x::cs)[j]? = some v→b5p (f1i w cap (.string x) (cs.map .string)) ⟨w.heap.size,j,none⟩ (.string v):=by
 have hb1:Below w.heap.size w (w.alloc (.cells ((([]:List Value)).toArray++Builtin.zeroCells (Value.string ⟨#[]⟩).cells (cs.length+1 - 0)++Builtin.zeroCells (Value.string ⟨#[]⟩).cells (cap - (cs.length+1))) 9)):=(Below.refl _ w).alloc (Nat.le_refl _) _
 have e0:f1i w cap (.string x) (cs.map .string)=((((w.alloc (.cells ((([]:List Value)).toArray++Builtin.zeroCells (Value.string ⟨#[]⟩).cells (cs.length+1 - 0)++Builtin.zeroCells (Value.string ⟨#[]⟩).cells (cap - (cs.length+1))) 9)).drew.setCells w.heap.size 0 [.string x]).drew).setCells w.heap.size (0+1) (cs.map .string)):=by
  unfold f1i;rw [List.length_map,List.take_zero,List.drop_zero]
 rw [e0]
 generalize hA:(([]:List Value)).toArray++Builtin.zeroCells (Value.string ⟨#[]⟩).cells (cs.length+1 - 0)++Builtin.zeroCells (Value.string ⟨#[]⟩).cells (cap - (cs.length+1))=A at *
 have hAs:cs.length+1≤A.size:=by rw [← hA,Array.size_append,Array.size_append,d6e,d6e];simp
 have hw1:(w.alloc (.cells A 9)).heap[w.heap.size]? = some (.cells A 9 (0,0)):=a4u w _
 generalize hW:w.alloc (.cells A 9)=W at *
 have hcell:∀ j,j < A.size→(W.cell? ⟨w.heap.size,j,none⟩).isSome=true:=fun j hj=>by rw [cell_of_row _ _ _ _ _ _ hw1];simp [hj]
 have hfr:∀ j,W.frozen? ⟨w.heap.size,j,none⟩=false:=fun j=>by simp [World.frozen?,hw1]
 have hB:Below w.heap.size w (((W.drew.setCells w.heap.size 0 [.string x]).drew).setCells w.heap.size (0+1) (cs.map .string)):=a6u (Nat.le_refl _) _ _ _ (a6u (Nat.le_refl _) _ _ _ hb1.drew).drew
 have hcell2:∀ j,j < A.size→((W.drew.setCells w.heap.size 0 [Value.string x]).drew.cell? ⟨w.heap.size,j,none⟩).isSome=true:=fun j hj=>by
  show ((W.drew.setCells w.heap.size 0 [Value.string x]).cell? ⟨w.heap.size,j,none⟩).isSome=true
  cases j with
  |zero =>
   have:=World.cell?_setCells_in w.heap.size [Value.string x] 0 W.drew (fun j hj=>by simp at hj;subst hj;exact hcell 0 (by omega)) 0 (by simp)
   simp only [Nat.zero_add] at this
   rw [this];rfl
  |succ j =>
   rw [World.cell?_setCells_out w.heap.size [Value.string x] 0 W.drew _ (fun _ _=>.inr (by simp))]
   exact hcell (j+1) hj
 refine ⟨hB,?_,fun j v hv=>⟨?_,fun _=>?_⟩⟩
 ·have h1:((((W.drew.setCells w.heap.size 0 [.string x]).drew).setCells w.heap.size (0+1) (cs.map .string)).cell? ⟨w.heap.size,0,none⟩).isSome=true:=by
   rw [World.cell?_setCells_out w.heap.size _ (0+1) _ _ (fun _ _=>.inl (by simp))]
   exact hcell2 0 (by omega)
  obtain ⟨u,hu⟩:=Option.isSome_iff_exists.1 h1
  exact Lib.lt_of_cell hu
 ·cases j with
  |zero =>
   simp at hv;subst hv
   rw [World.cell?_setCells_out w.heap.size _ (0+1) _ _ (fun _ _=>.inl (by simp))]
   show (W.drew.setCells w.heap.size 0 [Value.string x]).cell? ⟨w.heap.size,0,none⟩=_
   have:=World.cell?_setCells_in w.heap.size [Value.string x] 0 W.drew (fun j hj=>by simp at hj;subst hj;exact hcell 0 (by omega)) 0 (by simp)
   simpa using this
  |succ j =>
   simp at hv
   have hj:j < cs.length:=(List.getElem?_eq_some_iff.1 hv).1
   have hvj:cs[j]=v:=(List.getElem?_eq_some_iff.1 hv).2
   have:=World.cell?_setCells_in w.heap.size (cs.map Value.string) (0+1) (W.drew.setCells w.heap.size 0 [Value.string x]).drew (fun i hi=>hcell2 _ (by simp at hi;omega)) j (by simpa using hj)
   rw [show j+1=0+1+j by omega,this]
   simp [hvj]
 ·rw [World.frozen?_setCells]
  show (W.drew.setCells w.heap.size 0 [Value.string x]).frozen? _=false
  rw [World.frozen?_setCells]
  exact hfr j
theorem c5j {G:Gh} {o:Oper} {s:St} {Q:Exit→St→Prop} {rest:St→Prop} (id lo':Nat) (cs:List ByteArray) (x:ByteArray) (hb:s.hget id=some (.box (c4s cs))) (hne:0 < cs.length) (hl:cs.length≤1000) (hc:chk G.n o.dst)
  (h:rest (a4b s o.dst (a0p G.lo (x::cs)))):a3t Tryz.prog G o s Q rest (.fn (.func 134) []) [.own id 0 cs.length 1,i64 0,a0p lo' [x]]:=by
 rintro xo l ts ho hx has a w ⟨E,hE⟩
 obtain ⟨ys,hy,hsz,hr⟩:=R.fn_inv (a1y hE hx.symm)
 have hl3:l.length=3:=by have:=congrArg List.length has;simpa using this.symm
 match l,hl3,has with
 |[o1,o2,o3],_,has =>
  simp only [List.map_cons,List.map_nil,List.cons.injEq,and_true] at has
  obtain ⟨e1,e2,e3⟩:=has
  have q2:=R.v_inv (a1y hE e2.symm)
  obtain ⟨b,K,C,hEi,hle,hKC,hv⟩:=R.own_inv (a1y hE e1.symm)
  obtain ⟨b1,K1,C1,h1,b',zs,t,hb',hh,hzs,hK,hKC',hrr⟩:=hE.hp id _ hb
  rw [hEi] at h1
  cases h1
  cases hb'
  have hcl:(c4s cs).length=cs.length:=by simp [c4s]
  obtain ⟨o',ho',hy1⟩:=hv
  have ho0:o'=0:=by rw [ho' (.inr rfl)]
  subst ho0
  have hC:C - 0=cs.length:=by omega
  rw [hC] at hy1
  have q3:=(a1y hE e3.symm).pure0 rfl
  generalize hY3:a.eval o3=y3 at q3
  cases q3 with
  |lst _ _ _ ad n3 cap3 b3 of3 g3 hlo3 hn3 hc3 hl3' ha3 hs3 hz3 hr3 =>
  simp only [List.map_cons,List.map_nil,List.length_cons,List.length_nil] at hn3
  subst hn3
  obtain ⟨rfl,hO3,hb3⟩:=ha3 (by simp)
  have hg3:g3 0 0=.string x:=by
   have:=hr3 0 [.v (.string x)] 0 (.v (.string x)) rfl rfl
   generalize g3 0 0=z at this
   cases this;rfl
  have hcell3:w.cell? ⟨b3,of3,none⟩=some (.string x):=by
   have:=(hs3 0 [.v (.string x)] 0 (.v (.string x)) rfl rfl).1
   rw [hg3] at this
   simpa using this
  have hzcell:∀ j v,(cs.map Value.string)[j]? = some v→w.cell? ⟨b',0+j,none⟩=some v:=fun j v hj=>by
   simp only [List.getElem?_map,Option.map_eq_some_iff] at hj
   obtain ⟨c,hcj,rfl⟩:=hj
   have hjl:j < cs.length:=(List.getElem?_eq_some_iff.1 hcj).1
   rw [cell_of_row _ _ _ _ _ _ hh,Nat.zero_add]
   have hjz:j < zs.size:=by omega
   have hz:zs[j]? = some zs[j]:=Array.getElem?_eq_getElem hjz
   have:=R.v_inv (hrr j (.v (.string c)) zs[j] (by simp [c4s,hcj]) hz)
   rw [hz,this]
  have hcalls:=Any2.slices_Insert_string_grow Tryz.laysNm222 b' 0 cs.length cs.length 0 b3 of3 1 cap3 (cs.map Value.string) [.string x] w (by omega) (by omega) (Nat.le_refl _) (by omega) (by omega) (by simp) (by simp) hzcell
   (fun j v hj=>by
    match j with
    |0=>simp at hj;subst hj;simpa using hcell3
    |j+1=>simp at hj) (fun v hv=>by
    simp only [List.mem_map] at hv
    obtain ⟨c,_,rfl⟩:=hv
    rfl) (fun v hv=>by simp at hv;subst hv;rfl)
  have hys0:ys=#[]:=by
   apply Array.eq_empty_of_size_eq_zero
   simpa using hsz
  have hargs:([o1,o2,o3].map a.eval).toArray++ys=#[.slice (some ⟨b',0,none⟩) cs.length cs.length,.int .i64 (0:Nat),.slice (some ⟨b3,of3,none⟩) 1 cap3]:=by
   rw [hys0]
   simp [hy1,q2,hY3]
  refine b9o ho ⟨_,Tryz.func134,by decide,by kernel_rfl⟩ hy (by rw [hargs];exact hcalls) ?_
  rintro e w' ⟨rfl,hw⟩
  obtain ⟨g1,g2,g3'⟩:=f2t w (grownCap w (cs.length+1) cs.length 9) x cs
  have hw':w'=f1i w (grownCap w (cs.length+1) cs.length 9) (.string x) (cs.map .string):=by
   rw [hw]
   unfold f1i
   rw [List.length_map]
   rfl
  rw [← hw'] at g1 g2 g3'
  refine ⟨_,rfl,_,h,E,(hE.below g1).put (a2u hc) (.r0 _ _ ?_)⟩
  refine .lst G.lo 1 _ _ _ _ w.heap.size 0 (fun i j=>.string ((x::cs).getD i ByteArray.empty)) (fun _=>Nat.le_trans G.hlo hE.grow) (by simp) (by rw [List.length_map,List.length_cons];exact grownCap_ge w (cs.length+1) cs.length 9) (by simp;omega)
   (fun _=>⟨rfl,fun hc=>Nat.lt_irrefl _ (e3c hE _ hc),g2⟩) (fun i y j u h1 h2=>?_) (fun y hy=>?_) fun i y j u h1 h2=>?_
  ·rw [List.getElem?_map,Option.map_eq_some_iff] at h1
   obtain ⟨c,hc,rfl⟩:=h1
   match j with
   |0 =>
    have:=g3' i c hc
    simp only [Nat.zero_add,Nat.mul_one,Nat.add_zero,List.getD,hc,Option.getD_some]
    exact this
   |j+1=>simp [a2e] at h2
  ·simp only [List.mem_map] at hy
   obtain ⟨c,_,rfl⟩:=hy
   rfl
  ·rw [List.getElem?_map,Option.map_eq_some_iff] at h1
   obtain ⟨c,hc,rfl⟩:=h1
   match j with
   |0 =>
    simp [a2e] at h2
    subst h2
    simp only [List.getD,hc,Option.getD_some]
    exact .v _
   |j+1=>simp [a2e] at h2
theorem a1f (x:ByteArray) (cs:List ByteArray) (hne:0 < cs.length) (hl:cs.length≤900) (hx:x.size≤100000) (hs:∀ s ∈ cs,s.size≤100000) :
  Tri Tryz.prog 63 [str x,.own 0 0 cs.length 1] [(0,.box (c4s cs))] (fun _=>.ret (str (a0z (x::cs))) []):=by
 refine a0j (fun _=>false) Tryz.func63 Tryz.ntmps63 rfl rfl fun G hG hOw hNm=>?_;simp only [go_sem,hG,hOw]
 (repeat' with_reducible first|refine And.intro ?_ ?_|intro _|refine exP ?_ ?_);all_goals try omega
 refine c5j 0 _ cs x (by simp [go_sem]) hne (by omega) (by simp [chk,hG]) ?_
 simp only [go_sem,hG,hOw]
 refine a0a (d4h (x::cs) (by simp;omega) (by simpa using ⟨hx,hs⟩)) ?_
 simp only [go_sem,hG,hOw]
 (repeat' with_reducible first|refine And.intro ?_ ?_|intro _|refine exP ?_ ?_);all_goals try omega
 exact (a3x [])
open Go Pm Go.RowKit Go.Sort
set_option maxRecDepth 100000
set_option maxHeartbeats 4000000
theorem a2w {n:Int} (h0:0≤n) (h1:n≤9999):(a2a n).size≤4:=by
 have:=a7x n h0 h1
 unfold b0a at this
 split at this
 ·rename_i h;rw [a2a,c6o];exact h.2.1
 ·cases this
theorem inB_iff {n lo hi:Int}:inB n lo hi=true↔lo≤n∧n≤hi:=by simp [inB]
def atS (a b c:Int):ByteArray:=a0z [a2a a,a2a b,a2a c]
def in9 (n:Int):Prop:=0≤n∧n≤9999
theorem d1i (a b c:Int) (ha:in9 a) (hb:in9 b) (hc:in9 c):a0n Tryz.prog 81 [.agg [i64 a,i64 b,i64 c]] (fun _=>str (atS a b c)):=by
 have sa:=a2w ha.1 ha.2
 have sb:=a2w hb.1 hb.2
 have sc:=a2w hc.1 hc.2
 refine a0b (ow:=fun i=>[12,1000012].contains i) Tryz.func81 Tryz.ntmps81 rfl rfl fun G hG hOw hNm hB=>?_;simp only [go_sem,hG,hOw]
 (repeat' with_reducible first|refine And.intro ?_ ?_|intro _|refine exP ?_ ?_);all_goals try omega
 refine a3c ⟨[12],[],[]⟩ [(0,false),(1,false),(2,false),(3,false),(4,false),(5,false),(6,false),(7,false),(8,false),(9,false),(10,true),(11,false)] mixed (by kernel_rfl) ?_
 simp only [a4f,List.getElem?_cons_zero,List.getElem?_cons_succ]
 simp only [go_sem,hG,hOw]
 (repeat' with_reducible first|refine And.intro ?_ ?_|intro _|refine exP ?_ ?_);all_goals try omega
 refine ⟨_,a0e (a4l a ha.1 ha.2),?_⟩
 simp only [go_sem,hG,hOw]
 (repeat' with_reducible first|refine And.intro ?_ ?_|intro _|refine exP ?_ ?_);all_goals try omega
 refine ⟨_,a0e (a4l b hb.1 hb.2),?_⟩
 simp only [go_sem,hG,hOw]
 (repeat' with_reducible first|refine And.intro ?_ ?_|intro _|refine exP ?_ ?_);all_goals try omega
 refine ⟨_,a0e (a4l c hc.1 hc.2),?_⟩
 simp only [go_sem,hG,hOw]
 (repeat' with_reducible first|refine And.intro ?_ ?_|intro _|refine exP ?_ ?_);all_goals try omega
 refine a0c [(0,12)] [] (a1f (a2a a) [a2a b,a2a c] (by simp) (by simp) (by omega) (by simp;omega)) ?_
 simp only [go_sem,hG,hOw]
 (repeat' with_reducible first|refine And.intro ?_ ?_|intro _|refine exP ?_ ?_);all_goals try omega
 rfl
def c6t (l:List ByteArray):ByteArray:=a0z [d1z,a0z l]
def e7w (c:Ch):List ByteArray:=a0z [a7o,a2a c.id]::c.lines.map c6t
def a3f (t:List Ch):List ByteArray:=t.flatMap e7w
theorem c5t (t:List Ch) (k:Nat) (hk:k < t.length):a3f (t.take (k+1))=a3f (t.take k)++e7w t[k]:=by
 unfold a3f
 rw [List.take_add_one,List.getElem?_eq_getElem hk,List.flatMap_append]
 simp
theorem b8f {f:List Ch→Ch→Bool} {p:Ch→Prop} (h:∀ pre c,f pre c=true→p c):∀ (t pre:List Ch),a3m f pre t=true→∀ c ∈ t,p c
 |[],_,_=>by simp
 |c::r,pre,ht=>by
  simp only [a3m,Bool.and_eq_true] at ht
  intro d hd
  rcases List.mem_cons.1 hd with rfl|hd
  ·exact h _ _ ht.1
  ·exact b8f h r _ ht.2 d hd
theorem a2k {s:ByteArray} (h:a1h s=true):1≤s.size∧s.size≤12:=by
 simp only [a1h,Bool.and_eq_true,inB_iff] at h;omega
structure VCh (c:Ch):Prop where
 id:in9 c.id
 len:1≤c.lines.length∧c.lines.length≤10
 ln:∀ l ∈ c.lines,(1≤l.length∧l.length≤10)∧∀ s ∈ l,a1h s=true
theorem e9r {pre:List Ch} {c:Ch} (h:a8x pre c=true):VCh c:=by
 simp only [a8x,Bool.and_eq_true,inB_iff,List.all_eq_true,a9q] at h
 obtain ⟨⟨⟨h1,h2⟩,h3⟩,h4⟩:=h
 exact ⟨h1,by omega,fun l hl=>⟨by have:=(h4 l hl).1;omega,(h4 l hl).2⟩⟩
theorem a8y {t:List Ch} (h:a1l t=true):(1≤t.length∧t.length≤6)∧∀ c ∈ t,VCh c:=by
 simp only [a1l,Bool.and_eq_true,inB_iff] at h
 exact ⟨by omega,fun c hc=>b8f (p:=VCh) (fun _ _=>e9r) t [] h.2 c hc⟩
theorem d7d {l:List ByteArray} (h:(1≤l.length∧l.length≤10)∧∀ s ∈ l,a1h s=true):(a0z l).size≤130:=by
 have h1:=b0f 12 l fun s hs=>(a2k (h.2 s hs)).2
 rw [a7g]
 have:(12+1) * l.length≤13 * 10:=Nat.mul_le_mul_left _ h.1.2
 omega
theorem d3f {t:List Ch} (h6:t.length≤6) (hv:∀ c ∈ t,c.lines.length≤10):(a3f t).length≤66:=by
 have:∀ t:List Ch,(∀ c ∈ t,c.lines.length≤10)→(a3f t).length≤11 * t.length:=by
  intro t
  induction t with
  |nil=>simp [a3f]
  |cons c r ih =>
   intro h
   have h1:=ih fun d hd=>h d (by simp [hd])
   have h2:=h c (by simp)
   simp only [a3f,List.flatMap_cons,List.length_append,e7w,List.length_cons,List.length_map] at h1 ⊢
   omega
 have:=this t hv
 omega
theorem e1y (pre:List ByteArray) (r:ByteArray) (ls:List (List ByteArray)):∃ M:Nat→List ByteArray,M 0=pre++[r]∧(∀ j (h:j < ls.length),M (j+1)=M j++[c6t ls[j]])∧M ls.length=pre++r::ls.map c6t∧∀ j,j≤ls.length→(M j).length=pre.length+1+j:=by
 refine ⟨fun j=>pre++r::(ls.take j).map c6t,by simp,fun j h=>?_,by simp,fun j h=>by simp;omega⟩
 simp only [a3g c6t ls j h]
 simp
theorem d8x (t:List Ch):a0n Tryz.prog 13 [txE 0 t] (fun n=>.tup [a0p n (if a1l t then a3f t else []),i64 (if a1l t then 0 else 10)]):=by
 refine a0b (ow:=fun i=>[26,40,1000026,1000040].contains i) Tryz.func13 Tryz.ntmps13 rfl rfl fun G hG hOw hNm hB=>?_;simp only [go_sem,hG,hOw]
 refine a0a (a4g t) ?_
 cases ht:a1l t with
 |false =>
  simp only [go_sem,hG,hOw]
  (repeat' with_reducible first|refine And.intro ?_ ?_|intro _|refine exP ?_ ?_);all_goals try omega
  exact Subs.tup (.cons (.nil _ _) (.cons (.refl _) .nil))
 |true =>
  obtain ⟨ht1,ht2⟩:=a8y ht
  have hlen:∀ k,(a3f (t.take k)).length≤66:=fun k=>d3f (by simp;omega) fun c hc=>(ht2 c (List.mem_of_mem_take hc)).len.2
  simp only [go_sem,hG,hOw]
  (repeat' with_reducible first|refine And.intro ?_ ?_|intro _|refine exP ?_ ?_);all_goals try omega
  refine a0m (fun k:Nat=>St.of [(1,.ptr 1 0),(5,.own 100 0 (a3f (t.take k)).length 1),(16,chs 0 t),(17,i64 t.length),(18,i64 k)] [(1,.box [chs 0 t]),(100,.arr 9 1 ((a3f (t.take k)).map a2e))]) (fun k=>k≤t.length) (fun k=>t.length - k) 0 (by simp) (by simp only [List.take_zero,a3f,List.flatMap_nil];exact a2d [(1,some 1),(100,none)]) ?_
  rintro k hk
  refine a0d _ _ _ ?_;simp only [go_sem,hG,hOw]
  (repeat' with_reducible first|refine And.intro ?_ ?_|intro _|refine exP ?_ ?_);all_goals try omega
  ·rename_i hlt
   have hkl:k < t.length:=by omega
   obtain ⟨hid,hcl,hln⟩:=ht2 _ (List.getElem_mem hkl)
   have hsz:=a2w hid.1 hid.2
   refine a0a (a4l t[k].id hid.1 hid.2) ?_
   simp only [go_sem,hG,hOw]
   (repeat' with_reducible first|refine And.intro ?_ ?_|intro _|refine exP ?_ ?_);all_goals try omega
   refine a0c [(0,26)] [] (a1f a7o [a2a t[k].id] (by simp) (by simp) (by decide) (by simp;omega)) ?_ (by (simp only [go_sem])<;>simp [a7o]) (by (simp only [go_sem,a1k,a0r,a0i,a1p])<;>simp [a7o]) (by simp [a0k,usH,toR,a7o])
   simp only [go_sem,hG,hOw]
   have hl66:=hlen k
   (repeat' with_reducible first|refine And.intro ?_ ?_|intro _|refine exP ?_ ?_);all_goals try omega
   obtain ⟨M,hM0,hMs,hMe,hMl⟩:=e1y (a3f (t.take k)) (a0z [a7o,a2a t[k].id]) t[k].lines
   have hMe':M t[k].lines.length=a3f (t.take (k+1)):=by rw [hMe,c5t t k hkl];rfl
   refine a7k (fun _:Unit=>St.of [(1,.ptr 1 0),(5,.own 100 0 (a3f (t.take (k+1))).length 1),(16,chs 0 t),(17,i64 t.length),(18,i64 k)] [(1,.box [chs 0 t]),(100,.arr 9 1 ((a3f (t.take (k+1))).map a2e))]) (fun _=>True) ?_ ?_
   ·refine a0m (fun j:Nat=>St.of [(1,.ptr 1 0),(5,.own 200 0 (M j).length 1),(16,chs 0 t),(17,i64 t.length),(18,i64 k),(31,lns 0 t[k].lines),(32,i64 t[k].lines.length),(33,i64 j)] [(1,.box [chs 0 t]),(200,.arr 9 1 ((M j).map a2e))]) (fun j=>j≤t[k].lines.length) (fun j=>t[k].lines.length - j) 0 (by simp) (by simp only [hM0];exact a2d [(1,some 1),(200,some 29)] (by (simp only [go_sem])<;>simp [a2e]) (by (simp only [go_sem,a1k,a0r,a0i,a1p])<;>simp [a2e])) ?_
    rintro j hj
    have hMj:=hMl j hj
    refine a0d _ _ _ ?_;simp only [go_sem,hG,hOw]
    (repeat' with_reducible first|refine And.intro ?_ ?_|intro _|refine exP ?_ ?_);all_goals try omega
    ·rename_i hlt2
     have hjl:j < t[k].lines.length:=by omega
     have hlj:=hln _ (List.getElem_mem hjl)
     have hs2:=d7d hlj
     refine a0a (d4h t[k].lines[j] (by omega) fun s hs=>by have:=a2k (hlj.2 s hs);omega) ?_
     simp only [go_sem,hG,hOw]
     (repeat' with_reducible first|refine And.intro ?_ ?_|intro _|refine exP ?_ ?_);all_goals try omega
     refine a0c [(0,40)] [] (a1f d1z [a0z t[k].lines[j]] (by simp) (by simp) (by decide) (by simp;omega)) ?_ (by (simp only [go_sem])<;>simp [d1z]) (by (simp only [go_sem,a1k,a0r,a0i,a1p])<;>simp [d1z]) (by simp [a0k,usH,toR,d1z])
     simp only [go_sem,hG,hOw]
     (repeat' with_reducible first|refine And.intro ?_ ?_|intro _|refine exP ?_ ?_);all_goals try omega
     exact ⟨j+1,by omega,by omega,a2d [(1,some 1),(200,some 43)] (by (simp only [go_sem])<;>simp [hMs j hjl,c6t,a2e]) (by (simp only [go_sem,a1k,a0r,a0i,a1p])<;>simp [hMs j hjl,c6t,a2e])⟩
    ·rename_i hge2
     have hj2:j=t[k].lines.length:=by omega
     subst hj2
     rw [hMe']
     exact ⟨(),a2d [(1,some 1),(100,some 200)]⟩
   ·rintro ⟨⟩ -
    simp only [go_sem,hG,hOw]
    (repeat' with_reducible first|refine And.intro ?_ ?_|intro _|refine exP ?_ ?_);all_goals try omega
    exact ⟨k+1,by omega,by omega,a2d [(1,some 1),(100,some 100)]⟩
  ·rename_i hge
   obtain rfl:k=t.length:=by omega
   simp only [List.take_length]
   exact .refl _
open Go Pm Go.RowKit Go.Sort
set_option maxRecDepth 100000
set_option maxHeartbeats 4000000
open Go Pm Go.RowKit Go.Sort
set_option maxRecDepth 100000
set_option maxHeartbeats 4000000
def g0i (t:List Ch) (name:ByteArray) (rest:List ByteArray):Option (List Ch×List ByteArray) :=
 if name=a7o then match rest with
  |x::r=>(a4o x).map fun v=>(t++[Ch.mk v []],r)
  |[]=>none
 else if name=d1z then match t.getLast? with
  |some c=>if e8w rest then some (t.dropLast++[Ch.mk c.id (c.lines++[rest])],[]) else none
  |none=>none
 else none
def e0m (t:List Ch) (s:ByteArray):Option (List Ch):=match a1n s with
 |[]=>none
 |name::rest=>match g0i t name rest with
  |some (t',[])=>some t'
  |_=>none
open Go Pm Go.RowKit Go.Sort
set_option maxRecDepth 100000
set_option maxHeartbeats 4000000
theorem e6b {l:List ByteArray} (h:a1a l=true):l.length≤200∧∀ s ∈ l,s.size≤160:=by
 simp only [a1a,Bool.and_eq_true,decide_eq_true_eq,List.all_eq_true,b4c] at h
 exact ⟨by omega,fun s hs=>by have:=(h.1 s hs).1.2;omega⟩
open Go Pm Go.RowKit Go.Sort
set_option maxRecDepth 100000
set_option maxHeartbeats 4000000
end Go.Proofs.YtmjhfccbbfpppaaGreatDoor
