import Derived.Test.YtmjhfccbbfpppaaGreatDoorQB09
import Derived.Test.YtmjhfccbbfpppaaGreatDoorQB12
import Derived.Test.YtmjhfccbbfpppaaGreatDoorQB14
import Derived.Test.YtmjhfccbbfpppaaGreatDoorQB16
import Derived.Test.YtmjhfccbbfpppaaGreatDoorQB18
import Derived.Test.YtmjhfccbbfpppaaGreatDoorQB22
import Derived.Test.YtmjhfccbbfpppaaGreatDoorQB23
namespace Go.Proofs.YtmjhfccbbfpppaaGreatDoor
open Go Pm Go.RowKit
set_option linter.unusedSimpArgs false
set_option linter.unusedVariables false
set_option maxRecDepth 100000
set_option maxHeartbeats 4000000
def wrV (k:Int):Value:=.iface 145 (.agg #[.int .i64 k])
theorem a2j (k:Int):Tri Tryz.prog 76 [bl true,i64 k] [] (fun _=>.ret (.tup []) []):=by
 refine a0e (fun _=>false) Tryz.func76 Tryz.ntmps76 rfl rfl fun G hG hOw hNm=>?_;simp only [go_sem,hG,hOw]
 (repeat' with_reducible first|apply And.intro|refine exP ?_ ?_|intro);all_goals try omega
 exact (a2o [])
theorem a7h (k:Int):Tri Tryz.prog 76 [bl false,i64 k] [] (fun _=>.pan (wrV k) []):=by
 refine a0e (fun _=>false) Tryz.func76 Tryz.ntmps76 rfl rfl fun G hG hOw hNm=>?_;simp only [go_sem,hG,hOw]
 (repeat' with_reducible first|apply And.intro|refine exP ?_ ?_|intro);all_goals try omega
 refine d2t [.int .i64 k] rfl rfl (by kernel_rfl) (by simp [chk,hG]) ?_
 simp only [go_sem,hG,hOw]
 (repeat' with_reducible first|apply And.intro|refine exP ?_ ?_|intro);all_goals try omega
 refine b8y rfl rfl ?_
 simp only [go_sem,hG,hOw]
 exact ⟨rfl,(a2o [])⟩
theorem c6y (k:Int):f9p Tryz.prog 72 [.ptr 0 0] [(0,.box [i64 0])] (.panicking [{ v:=wrV k,recovered:=false }]) (.panicking [{ v:=wrV k,recovered:=true }]) [(0,.box [i64 k])]:=by
 refine c0e _ _ (wrV k) Tryz.func72 Tryz.ntmps72 rfl (by kernel_rfl) (by simp) rfl rfl rfl rfl (by simp) (fun c₀ cs h=>?_) fun G hG hOw hNm=>?_
 ·simp [recoverD,h]
 simp only [go_sem,hG,hOw]
 (repeat' with_reducible first|apply And.intro|refine exP ?_ ?_|intro);all_goals try omega
 refine a7m (wrV k) false .eql (.inl ⟨rfl,rfl⟩) rfl rfl (.inr ⟨_,_,rfl⟩) (by kernel_rfl) (by simp [chk,hG]) ?_
 simp only [go_sem,hG,hOw]
 (repeat' with_reducible first|apply And.intro|refine exP ?_ ?_|intro);all_goals try omega
 refine e0i [.int .i64 k] rfl rfl (by kernel_rfl) (by simp [chk,hG]) ?_
 simp only [go_sem,hG,hOw]
 (repeat' with_reducible first|apply And.intro|refine exP ?_ ?_|intro);all_goals try omega
 exact (a2o [(0,some 0)])
theorem c3n:f9p Tryz.prog 72 [.ptr 0 0] [(0,.box [i64 0])] .returning .returning [(0,.box [i64 0])]:=by
 refine c0e _ _ .nilIface Tryz.func72 Tryz.ntmps72 rfl (by kernel_rfl) (by simp) rfl rfl rfl rfl (by simp) (fun c₀ cs h=>?_) fun G hG hOw hNm=>?_
 ·simp [recoverD,h]
 simp only [go_sem,hG,hOw]
 (repeat' with_reducible first|apply And.intro|refine exP ?_ ?_|intro);all_goals try omega
 refine a7m .nilIface true .eql (.inl ⟨rfl,rfl⟩) rfl rfl (.inl rfl) (by kernel_rfl) (by simp [chk,hG]) ?_
 simp only [go_sem,hG,hOw]
 (repeat' with_reducible first|apply And.intro|refine exP ?_ ?_|intro);all_goals try omega
 exact (a2o [(0,some 0)])
theorem b2y (lo:Nat) (s:ByteArray) (l:List ByteArray):Tri Tryz.prog 141 [.ptr 0 0] [(0,.box [a0q lo (s::l)])] (fun _=>.ret (.v (.string s)) [(0,.box [a0q lo l])]):=by
 refine a0e (fun _=>false) Tryz.func141 Tryz.ntmps141 rfl rfl fun G hG hOw hNm=>?_;simp only [go_sem,hG,hOw]
 (repeat' with_reducible first|apply And.intro|refine exP ?_ ?_|intro);all_goals try omega
 refine a0c [] [] (a2j 111) ?_
 simp (maxSteps:=2000000) only [go_sem,hG,hOw,List.map_cons,List.length_cons,List.getElem_cons_zero]
 (repeat' with_reducible first|apply And.intro|refine exP ?_ ?_|intro);all_goals try omega
 exact (a2o [(0,some 0)])
theorem e2f (lo:Nat):Tri Tryz.prog 141 [.ptr 0 0] [(0,.box [a0q lo []])] (fun _=>.pan (wrV 111) []):=by
 refine a0e (fun _=>false) Tryz.func141 Tryz.ntmps141 rfl rfl fun G hG hOw hNm=>?_;simp only [go_sem,hG,hOw]
 (repeat' with_reducible first|apply And.intro|refine exP ?_ ?_|intro);all_goals try omega
 refine a0c [] [] (a7h 111) ?_
 simp only [go_sem,hG,hOw]
 exact ⟨rfl,(a2o [])⟩
theorem c6v (b:UInt8):a0l Tryz.prog 144 [.v (.int .u8 b.toNat)] (fun _=>bl (!a1i b)):=by
 refine a0b (ow:=fun _=>false) Tryz.func144 Tryz.ntmps144 rfl rfl fun G hG hOw hNm hB=>?_;simp only [go_sem,hG,hOw]
 (repeat' with_reducible first|apply And.intro|refine exP ?_ ?_|intro);all_goals try omega
 ·rename_i h;simp [a1i];intro;omega
 ·rename_i h;simp [a1i];omega
theorem b4z (lo hi n:Int):a0l Tryz.prog 95 [i64 lo,i64 hi,.lst 0 1 [[i64 n]]] (fun _=>bl (inB n lo hi)):=by
 have h:=f5i lo hi [n]
 have e:([n].all fun n=>decide (lo≤n) && decide (n≤hi))=inB n lo hi:=by simp [inB]
 rw [e] at h
 exact h
theorem e6y (lo:Nat) (s:ByteArray) (l:List ByteArray) (h:a1f s=true):Tri Tryz.prog 86 [.ptr 0 0] [(0,.box [a0q lo (s::l)])] (fun _=>.ret (.v (.string s)) [(0,.box [a0q lo l])]):=by
 have h1:inB s.size 1 12=true:=by unfold a1f at h;simp at h;exact h.2
 have h2:(s.data.toList.any fun b=>!a1i b)=false:=by unfold a1f at h;rw [Bool.and_eq_true] at h;rw [List.any_eq_false];intro x hx;have:=List.all_eq_true.1 h.1 x hx;simp [this]
 have h3:s.size≤12:=by simp [inB] at h1;omega
 refine a0e (fun _=>false) Tryz.func86 Tryz.ntmps86 rfl rfl fun G hG hOw hNm=>?_;simp only [go_sem,hG,hOw]
 (repeat' with_reducible first|apply And.intro|refine exP ?_ ?_|intro);all_goals try omega
 refine a0c [(0,0)] [] (b2y lo s l) ?_
 simp only [go_sem,hG,hOw]
 (repeat' with_reducible first|apply And.intro|refine exP ?_ ?_|intro);all_goals try omega
 refine a0a (b4z 1 12 s.size) ?_
 rw [h1]
 simp only [go_sem,hG,hOw]
 (repeat' with_reducible first|apply And.intro|refine exP ?_ ?_|intro);all_goals try omega
 refine a0a (a3c _ [] (fun b=>!a1i b) s.data.toList rfl (fun b _=>c6v b)) ?_
 rw [h2]
 simp only [go_sem,hG,hOw]
 (repeat' with_reducible first|apply And.intro|refine exP ?_ ?_|intro);all_goals try omega
 refine a0c [] [] (a2j 111) ?_
 simp only [go_sem,hG,hOw]
 (repeat' with_reducible first|apply And.intro|refine exP ?_ ?_|intro);all_goals try omega
 exact (a2o [(0,some 0)])
theorem e6o (lo:Nat) (s:ByteArray) (l:List ByteArray) (h:a1f s=false):Tri Tryz.prog 86 [.ptr 0 0] [(0,.box [a0q lo (s::l)])] (fun _=>.pan (wrV 111) []):=by
 refine a0e (fun _=>false) Tryz.func86 Tryz.ntmps86 rfl rfl fun G hG hOw hNm=>?_;simp only [go_sem,hG,hOw]
 (repeat' with_reducible first|apply And.intro|refine exP ?_ ?_|intro);all_goals try omega
 refine a0c [(0,0)] [] (b2y lo s l) ?_
 simp only [go_sem,hG,hOw]
 (repeat' with_reducible first|apply And.intro|refine exP ?_ ?_|intro);all_goals try omega
 refine a0a (b4z 1 12 s.size) ?_
 cases h1:inB s.size 1 12 with
 |false =>
  simp only [go_sem,hG,hOw]
  (repeat' with_reducible first|apply And.intro|refine exP ?_ ?_|intro);all_goals try omega
  refine a0c [] [] (a7h 111) ?_
  simp only [go_sem,hG,hOw]
  exact ⟨rfl,(a2o [])⟩
 |true =>
  have h2:(s.data.toList.any fun b=>!a1i b)=true:=by unfold a1f at h;rw [h1,Bool.and_true] at h;rw [List.all_eq_false] at h;rw [List.any_eq_true];obtain ⟨x,hx,h⟩:=h;exact ⟨x,hx,by simpa using h⟩
  have h3:s.size≤12:=by simp [inB] at h1;omega
  simp only [go_sem,hG,hOw]
  (repeat' with_reducible first|apply And.intro|refine exP ?_ ?_|intro);all_goals try omega
  refine a0a (a3c _ [] (fun b=>!a1i b) s.data.toList rfl (fun b _=>c6v b)) ?_
  rw [h2]
  simp only [go_sem,hG,hOw]
  (repeat' with_reducible first|apply And.intro|refine exP ?_ ?_|intro);all_goals try omega
  refine a0c [] [] (a7h 111) ?_
  simp only [go_sem,hG,hOw]
  exact ⟨rfl,(a2o [])⟩
theorem f8h (lo:Nat):Tri Tryz.prog 86 [.ptr 0 0] [(0,.box [a0q lo []])] (fun _=>.pan (wrV 111) []):=by
 refine a0e (fun _=>false) Tryz.func86 Tryz.ntmps86 rfl rfl fun G hG hOw hNm=>?_;simp only [go_sem,hG,hOw]
 (repeat' with_reducible first|apply And.intro|refine exP ?_ ?_|intro);all_goals try omega
 refine a0c [(0,0)] [] (e2f lo) ?_
 simp only [go_sem,hG,hOw]
 exact ⟨rfl,(a2o [])⟩
open Go Pm Go.RowKit
open Go Pm Go.RowKit
theorem b9z (lo:Nat):Tri Tryz.prog 75 [.ptr 0 0] [(0,.box [a0q lo []])] (fun _=>.pan (wrV 111) []):=by
 refine a0e (fun _=>false) Tryz.func75 Tryz.ntmps75 rfl rfl fun G hG hOw hNm=>?_;simp only [go_sem,hG,hOw]
 (repeat' with_reducible first|apply And.intro|refine exP ?_ ?_|intro);all_goals try omega
 refine a0c [(0,0)] [] (e2f lo) ?_
 simp only [go_sem,hG,hOw]
 exact ⟨rfl,(a2o [])⟩
theorem b9n (lo:Nat) (s:ByteArray) (l:List ByteArray) (v:Int) (hs:s.size≤100000) (h:a4d s=some v):Tri Tryz.prog 75 [.ptr 0 0] [(0,.box [a0q lo (s::l)])] (fun _=>.ret (i64 v) [(0,.box [a0q lo l])]):=by
 obtain ⟨h1,h2,h3,h4⟩:=b3h h
 have hin:inB v 0 9999=true:=by simp [inB,h2,h3]
 have hnb:a1q v=s:=by rw [a1q,h1,c0v]
 refine a0e (fun _=>false) Tryz.func75 Tryz.ntmps75 rfl rfl fun G hG hOw hNm=>?_;simp only [go_sem,hG,hOw]
 (repeat' with_reducible first|apply And.intro|refine exP ?_ ?_|intro);all_goals try omega
 refine a0c [(0,0)] [] (b2y lo s l) ?_
 simp only [go_sem,hG,hOw]
 (repeat' with_reducible first|apply And.intro|refine exP ?_ ?_|intro);all_goals try omega
 refine a0a (d2j s hs v h4) ?_
 simp only [go_sem,hG,hOw]
 (repeat' with_reducible first|apply And.intro|refine exP ?_ ?_|intro);all_goals try omega
 refine a7m .nilIface true .eql (.inl ⟨rfl,rfl⟩) rfl rfl (.inl rfl) (by kernel_rfl) (by simp [chk,hG]) ?_
 simp only [go_sem,hG,hOw]
 (repeat' with_reducible first|apply And.intro|refine exP ?_ ?_|intro);all_goals try omega
 refine a0a (b4z 0 9999 v) ?_
 rw [hin]
 simp only [go_sem,hG,hOw]
 (repeat' with_reducible first|apply And.intro|refine exP ?_ ?_|intro);all_goals try omega
 refine a0a (a4s v h2 h3) ?_
 rw [hnb]
 simp only [go_sem,hG,hOw]
 (repeat' with_reducible first|apply And.intro|refine exP ?_ ?_|intro);all_goals try omega
 refine a0c [] [] (a2j 111) ?_
 simp only [go_sem,hG,hOw]
 (repeat' with_reducible first|apply And.intro|refine exP ?_ ?_|intro);all_goals try omega
 exact (a2o [(0,some 0)])
theorem b8t (lo:Nat) (s:ByteArray) (l:List ByteArray) (hs:s.size≤100000) (h:a4d s=none):Tri Tryz.prog 75 [.ptr 0 0] [(0,.box [a0q lo (s::l)])] (fun _=>.pan (wrV 111) []):=by
 refine a0e (fun _=>false) Tryz.func75 Tryz.ntmps75 rfl rfl fun G hG hOw hNm=>?_;simp only [go_sem,hG,hOw]
 (repeat' with_reducible first|apply And.intro|refine exP ?_ ?_|intro);all_goals try omega
 refine a0c [(0,0)] [] (b2y lo s l) ?_
 simp only [go_sem,hG,hOw]
 (repeat' with_reducible first|apply And.intro|refine exP ?_ ?_|intro);all_goals try omega
 by_cases ha:∃ v,Lib.atoiAll s.data.toList=.ok v
 ·obtain ⟨v,hv⟩:=ha
  have hno:¬ (inB v 0 9999=true∧a1q v=s):=by
   rcases e0y s v hv with q|q
   ·rw [h] at q;cases q.2
   ·exact q.1
  refine a0a (d2j s hs v hv) ?_
  simp only [go_sem,hG,hOw]
  (repeat' with_reducible first|apply And.intro|refine exP ?_ ?_|intro);all_goals try omega
  refine a7m .nilIface true .eql (.inl ⟨rfl,rfl⟩) rfl rfl (.inl rfl) (by kernel_rfl) (by simp [chk,hG]) ?_
  simp only [go_sem,hG,hOw]
  (repeat' with_reducible first|apply And.intro|refine exP ?_ ?_|intro);all_goals try omega
  refine a0a (b4z 0 9999 v) ?_
  cases hin:inB v 0 9999 with
  |false =>
   simp only [go_sem,hG,hOw]
   (repeat' with_reducible first|apply And.intro|refine exP ?_ ?_|intro);all_goals try omega
   refine a0c [] [] (a7h 111) ?_
   simp only [go_sem,hG,hOw]
   exact ⟨rfl,(a2o [])⟩
  |true =>
   have hb:0≤v∧v≤9999:=by simpa [inB] using hin
   simp only [go_sem,hG,hOw]
   (repeat' with_reducible first|apply And.intro|refine exP ?_ ?_|intro);all_goals try omega
   refine a0a (a4s v hb.1 hb.2) ?_
   have hne:a1q v≠s:=fun e=>hno ⟨hin,e⟩
   simp (maxSteps:=2000000) only [go_sem,hG,hOw,hne]
   (repeat' with_reducible first|apply And.intro|refine exP ?_ ?_|intro);all_goals try omega
   refine a0c [] [] (a7h 111) ?_
   simp only [go_sem,hG,hOw]
   exact ⟨rfl,(a2o [])⟩
 ·have ha':∀ v,Lib.atoiAll s.data.toList≠.ok v:=fun v hv=>ha ⟨v,hv⟩
  refine d9i (f6c s hs ha') (by first|exact Subs.refl _|(repeat' (first|exact Subs.nil|exact Sub.refl _|exact Sub.lo (Nat.zero_le _)|refine Subs.cons ?_ ?_|refine Subs.agg ?_|refine Subs.fp ?_|refine Subs.tup ?_|refine Sub.map (Nat.zero_le _) (fun _=>?_)))) (by first|rfl|simp [b0t,b3o,pureV,pure0, *]) (by simp [chk,hG]) ?_
  rintro _ ⟨n,t,p,rfl⟩
  simp only [go_sem,hG,hOw]
  (repeat' with_reducible first|apply And.intro|refine exP ?_ ?_|intro);all_goals try omega
  refine a7m (.iface t p) false .eql (.inl ⟨rfl,rfl⟩) rfl rfl (.inr ⟨_,_,rfl⟩) (by kernel_rfl) (by simp [chk,hG]) ?_
  simp only [go_sem,hG,hOw]
  (repeat' with_reducible first|apply And.intro|refine exP ?_ ?_|intro);all_goals try omega
  refine a0c [] [] (a7h 111) ?_
  simp only [go_sem,hG,hOw]
  exact ⟨rfl,(a2o [])⟩
theorem d4k (lo:Nat) (l:List ByteArray) (hl:∀ s ∈ l,s.size≤100000) (h:∀ s r,l=s::r→a4d s=none):Tri Tryz.prog 75 [.ptr 0 0] [(0,.box [a0q lo l])] (fun _=>.pan (wrV 111) []):=by
 cases l with
 |nil=>exact b9z lo
 |cons s r=>exact b8t lo s r (hl s (by simp)) (h s r rfl)
def nvS (l:List ByteArray) (j:Nat):Int:=(a4d (l.getD j ByteArray.empty)).getD 0
def c3q (l:List ByteArray) (j:Nat):Bool:=decide (j < l.length) && (a4d (l.getD j ByteArray.empty)).isSome
def a6y (l:List ByteArray):Bool:=c3q l 0 && c3q l 1 && c3q l 2
theorem f1e {l:List ByteArray} {j:Nat} (h:c3q l j=true):∃ hj:j < l.length,a4d l[j]=some (nvS l j):=by
 simp only [c3q,Bool.and_eq_true,decide_eq_true_eq] at h
 obtain ⟨hj,h2⟩:=h
 have e:l.getD j ByteArray.empty=l[j]:=by simp [List.getD,hj]
 rw [e] at h2
 refine ⟨hj,?_⟩
 unfold nvS
 rw [e]
 cases hv:a4d l[j] with
 |none=>rw [hv] at h2;cases h2
 |some v=>rfl
theorem f3t {l:List ByteArray} {j:Nat} (h:c3q l j=false):∀ s r,l.drop j=s::r→a4d s=none:=by
 intro s r e
 have hj:j < l.length:=by
  rcases Nat.lt_or_ge j l.length with q|q
  ·exact q
  ·rw [List.drop_eq_nil_of_le q] at e;cases e
 have e1:s=l[j]:=by rw [List.drop_eq_getElem_cons hj] at e;exact (List.cons.inj e).1.symm
 simp only [c3q,hj,decide_true,Bool.true_and] at h
 have e2:l.getD j ByteArray.empty=l[j]:=by simp [List.getD,hj]
 rw [e2,← e1] at h
 cases hv:a4d s with
 |none=>rfl
 |some v=>rw [hv] at h;cases h
theorem b5y (lo:Nat) (l:List ByteArray) (j:Nat) (hl:∀ s ∈ l,s.size≤100000) (h:c3q l j=true):Tri Tryz.prog 75 [.ptr 0 0] [(0,.box [a0q lo (l.drop j)])] (fun _=>.ret (i64 (nvS l j)) [(0,.box [a0q lo (l.drop (j+1))])]):=by
 obtain ⟨hj,hv⟩:=f1e h
 rw [List.drop_eq_getElem_cons hj]
 exact b9n lo l[j] (l.drop (j+1)) (nvS l j) (hl _ (List.getElem_mem hj)) hv
theorem b3j (lo:Nat) (l:List ByteArray) (j:Nat) (hl:∀ s ∈ l,s.size≤100000) (h:c3q l j=false):Tri Tryz.prog 75 [.ptr 0 0] [(0,.box [a0q lo (l.drop j)])] (fun _=>.pan (wrV 111) []) :=
 d4k lo (l.drop j) (fun s hs=>hl s (List.mem_of_mem_drop hs)) (f3t h)
def plK (l:List ByteArray):Nat→List V
 |0=>[i64 0,i64 0,i64 0]
 |1=>[i64 (nvS l 0),i64 0,i64 0]
 |2=>[i64 (nvS l 0),i64 (nvS l 1),i64 0]
 |_=>[i64 (nvS l 0),i64 (nvS l 1),i64 (nvS l 2)]
theorem g7m (l:List ByteArray):plK l 0=[i64 0,i64 0,i64 0]:=rfl
theorem g7o (l:List ByteArray):plK l 1=[i64 (nvS l 0),i64 0,i64 0]:=rfl
theorem g6u (l:List ByteArray):plK l 2=[i64 (nvS l 0),i64 (nvS l 1),i64 0]:=rfl
theorem g7p (l:List ByteArray):plK l 3=[i64 (nvS l 0),i64 (nvS l 1),i64 (nvS l 2)]:=rfl
attribute [go_sem] g7m g7o g6u g7p
theorem d7i (lo:Nat) (l:List ByteArray) (hl:∀ s ∈ l,s.size≤100000):Tri Tryz.prog 85 [.ptr 0 0] [(0,.box [a0q lo l])] (fun _=>if a6y l then .ret (.agg (plK l 3)) [(0,.box [a0q lo (l.drop 3)])] else .pan (wrV 111) []):=by
 refine a0e (fun i=>[9].contains i) Tryz.func85 Tryz.ntmps85 rfl rfl fun G hG hOw hNm=>?_;simp only [go_sem,hG,hOw]
 (repeat' with_reducible first|apply And.intro|refine exP ?_ ?_|intro);all_goals try omega
 have c0:((0:Nat):Int)=0:=rfl
 have c1:((1:Nat):Int)=1:=rfl
 have c2:((2:Nat):Int)=2:=rfl
 have c3:((3:Nat):Int)=3:=rfl
 have i1:Int.toNat 1=1:=rfl
 have i2:Int.toNat 2=2:=rfl
 refine a0k (fun k:Nat=>St.of [(0,.ptr 0 0),(2,.ptr 2 0),(3,.ptr 3 0),(9,.own 9 0 3 1),(10,i64 3),(11,i64 k)] [(0,.box [a0q lo (l.drop k)]),(2,.box [i64 0,i64 0,i64 0]),(3,.box (plK l k)),(9,.box [.ptr 3 0,.ptr 3 1,.ptr 3 2])]) (fun k=>k≤3∧(0 < k→c3q l 0=true)∧(1 < k→c3q l 1=true)∧(2 < k→c3q l 2=true)) (fun k=>3 - k) 0 (by simp) (by simp only [List.drop_zero];exact a1m [(0,some 0),(2,some 2),(3,some 3),(9,some 9)]) ?_
 rintro k ⟨hk,h1,h2,h3⟩
 have hk4:k=0∨k=1∨k=2∨k=3:=by omega
 rcases hk4 with rfl|rfl|rfl|rfl
 all_goals skip
 ·refine a0d _ _ _ ?_
  simp (maxSteps:=2000000) only [go_sem,hG,hOw,c0,c1,c2,c3,i1,i2,List.getElem_cons_zero,List.getElem_cons_succ]
  (repeat' with_reducible first|apply And.intro|refine exP ?_ ?_|intro);all_goals try omega
  cases ho:c3q l 0 with
  |false =>
   have hbad:a6y l=false:=by unfold a6y;rw [ho];simp
   rw [hbad]
   have hU:=b3j lo l 0 hl ho
   rw [List.drop_zero] at hU
   refine a0c [(0,0)] [] (hU) ?_
   simp only [go_sem,hG,hOw]
   exact ⟨rfl,(a2o [])⟩
  |true =>
   have hU:=b5y lo l 0 hl ho
   rw [List.drop_zero] at hU
   refine a0c [(0,0)] [] (hU) ?_
   simp only [go_sem,hG,hOw]
   (repeat' with_reducible first|apply And.intro|refine exP ?_ ?_|intro);all_goals try omega
   exact ⟨1,(by simp [ho]),by omega,a1m [(0,some 0),(2,some 2),(3,some 3),(9,some 9)]⟩
 ·refine a0d _ _ _ ?_
  simp (maxSteps:=2000000) only [go_sem,hG,hOw,c0,c1,c2,c3,i1,i2,List.getElem_cons_zero,List.getElem_cons_succ]
  (repeat' with_reducible first|apply And.intro|refine exP ?_ ?_|intro);all_goals try omega
  cases ho:c3q l 1 with
  |false =>
   have hbad:a6y l=false:=by unfold a6y;rw [ho];simp
   rw [hbad]
   have hU:=b3j lo l 1 hl ho
   skip
   refine a0c [(0,0)] [] (hU) ?_
   simp only [go_sem,hG,hOw]
   exact ⟨rfl,(a2o [])⟩
  |true =>
   have hU:=b5y lo l 1 hl ho
   skip
   refine a0c [(0,0)] [] (hU) ?_
   simp only [go_sem,hG,hOw]
   (repeat' with_reducible first|apply And.intro|refine exP ?_ ?_|intro);all_goals try omega
   have h1':=h1 (by omega)
   exact ⟨2,(by simp [ho,h1']),by omega,a1m [(0,some 0),(2,some 2),(3,some 3),(9,some 9)]⟩
 ·refine a0d _ _ _ ?_
  simp (maxSteps:=2000000) only [go_sem,hG,hOw,c0,c1,c2,c3,i1,i2,List.getElem_cons_zero,List.getElem_cons_succ]
  (repeat' with_reducible first|apply And.intro|refine exP ?_ ?_|intro);all_goals try omega
  cases ho:c3q l 2 with
  |false =>
   have hbad:a6y l=false:=by unfold a6y;rw [ho];simp
   rw [hbad]
   have hU:=b3j lo l 2 hl ho
   skip
   refine a0c [(0,0)] [] (hU) ?_
   simp only [go_sem,hG,hOw]
   exact ⟨rfl,(a2o [])⟩
  |true =>
   have hU:=b5y lo l 2 hl ho
   skip
   refine a0c [(0,0)] [] (hU) ?_
   simp only [go_sem,hG,hOw]
   (repeat' with_reducible first|apply And.intro|refine exP ?_ ?_|intro);all_goals try omega
   have h1':=h1 (by omega)
   have h2':=h2 (by omega)
   exact ⟨3,(by simp [ho,h1',h2']),by omega,a1m [(0,some 0),(2,some 2),(3,some 3),(9,some 9)]⟩
 ·have hok:a6y l=true:=by unfold a6y;rw [h1 (by omega),h2 (by omega),h3 (by omega)];rfl
  rw [if_pos hok]
  refine a0d _ _ _ ?_
  simp (maxSteps:=2000000) only [go_sem,hG,hOw,c0,c1,c2,c3,i1,i2,List.getElem_cons_zero,List.getElem_cons_succ]
  (repeat' with_reducible first|apply And.intro|refine exP ?_ ?_|intro);all_goals try omega
  exact (a2o [(0,some 0)])
open Go Pm Go.RowKit Go.Sort
def c7c (l:List ByteArray):List V:=l.map fun s=>.v (.string s)
theorem e8o:c7c []=[]:=rfl
theorem e1k (s:ByteArray) (l:List ByteArray):c7c (s::l)=.v (.string s)::c7c l:=rfl
attribute [go_sem] e8o e1k
theorem a7e {B b:Nat} {w0:World} (hb:B≤b):∀ (vs:List Value) (o:Nat) (w:World),Below B w0 w→Below B w0 (w.setCells b o vs)
 |[],_,_,h=>h
 |v::r,o,w,h=>a7e hb r (o+1) _ (h.setCell (p:=⟨b,o,none⟩) hb v)
theorem e1x (n:Nat):(Builtin.zeroCells (Value.string ⟨#[]⟩).cells n).size=n:=by simp [Builtin.zeroCells,Value.cells]
def f6j (w:World) (cap:Nat) (x:Value) (cs:List Value):World :=
 (((w.alloc (.cells ((cs.take 0).toArray++Builtin.zeroCells (Value.string ⟨#[]⟩).cells (cs.length+1 - 0)++Builtin.zeroCells (Value.string ⟨#[]⟩).cells (cap - (cs.length+1))) 9)).drew.setCells w.heap.size 0 [x]).drew).setCells w.heap.size (0+1) (cs.drop 0)
theorem f3u (w:World) (cap:Nat) (x:ByteArray) (cs:List ByteArray) :
  Below w.heap.size w (f6j w cap (.string x) (cs.map .string))∧w.heap.size < (f6j w cap (.string x) (cs.map .string)).heap.size∧∀ j v,(x::cs)[j]? = some v→b6f (f6j w cap (.string x) (cs.map .string)) ⟨w.heap.size,j,none⟩ (.string v):=by
 have hb1:Below w.heap.size w (w.alloc (.cells ((([]:List Value)).toArray++Builtin.zeroCells (Value.string ⟨#[]⟩).cells (cs.length+1 - 0)++Builtin.zeroCells (Value.string ⟨#[]⟩).cells (cap - (cs.length+1))) 9)):=(Below.refl _ w).alloc (Nat.le_refl _) _
 have e0:f6j w cap (.string x) (cs.map .string)=((((w.alloc (.cells ((([]:List Value)).toArray++Builtin.zeroCells (Value.string ⟨#[]⟩).cells (cs.length+1 - 0)++Builtin.zeroCells (Value.string ⟨#[]⟩).cells (cap - (cs.length+1))) 9)).drew.setCells w.heap.size 0 [.string x]).drew).setCells w.heap.size (0+1) (cs.map .string)):=by
  unfold f6j;rw [List.length_map,List.take_zero,List.drop_zero]
 rw [e0]
 generalize hA:(([]:List Value)).toArray++Builtin.zeroCells (Value.string ⟨#[]⟩).cells (cs.length+1 - 0)++Builtin.zeroCells (Value.string ⟨#[]⟩).cells (cap - (cs.length+1))=A at *
 have hAs:cs.length+1≤A.size:=by rw [← hA,Array.size_append,Array.size_append,e1x,e1x];simp
 have hw1:(w.alloc (.cells A 9)).heap[w.heap.size]? = some (.cells A 9 (0,0)):=a4l w _
 generalize hW:w.alloc (.cells A 9)=W at *
 have hcell:∀ j,j < A.size→(W.cell? ⟨w.heap.size,j,none⟩).isSome=true:=fun j hj=>by rw [cell_of_row _ _ _ _ _ _ hw1];simp [hj]
 have hfr:∀ j,W.frozen? ⟨w.heap.size,j,none⟩=false:=fun j=>by simp [World.frozen?,hw1]
 have hB:Below w.heap.size w (((W.drew.setCells w.heap.size 0 [.string x]).drew).setCells w.heap.size (0+1) (cs.map .string)):=a7e (Nat.le_refl _) _ _ _ (a7e (Nat.le_refl _) _ _ _ hb1.drew).drew
 have hcell2:∀ j,j < A.size→((W.drew.setCells w.heap.size 0 [Value.string x]).drew.cell? ⟨w.heap.size,j,none⟩).isSome=true:=fun j hj=>by
  show ((W.drew.setCells w.heap.size 0 [Value.string x]).cell? ⟨w.heap.size,j,none⟩).isSome=true
  cases j with
  |zero =>
   have:=World.cell?_setCells_in w.heap.size [Value.string x] 0 W.drew (fun j hj=>by simp at hj;subst hj;exact hcell 0 (by omega)) 0 (by simp)
   simp only [Nat.zero_add] at this
   rw [this];rfl
  |succ j =>
   rw [World.cell?_setCells_out w.heap.size [Value.string x] 0 W.drew _ (fun _ _=>.inr (by simp))]
   exact hcell (j+1) hj
 refine ⟨hB,?_,fun j v hv=>⟨?_,fun _=>?_⟩⟩
 ·have h1:((((W.drew.setCells w.heap.size 0 [.string x]).drew).setCells w.heap.size (0+1) (cs.map .string)).cell? ⟨w.heap.size,0,none⟩).isSome=true:=by
   rw [World.cell?_setCells_out w.heap.size _ (0+1) _ _ (fun _ _=>.inl (by simp))]
   exact hcell2 0 (by omega)
  obtain ⟨u,hu⟩:=Option.isSome_iff_exists.1 h1
  exact Lib.lt_of_cell hu
 ·cases j with
  |zero =>
   simp at hv;subst hv
   rw [World.cell?_setCells_out w.heap.size _ (0+1) _ _ (fun _ _=>.inl (by simp))]
   show (W.drew.setCells w.heap.size 0 [Value.string x]).cell? ⟨w.heap.size,0,none⟩=_
   have:=World.cell?_setCells_in w.heap.size [Value.string x] 0 W.drew (fun j hj=>by simp at hj;subst hj;exact hcell 0 (by omega)) 0 (by simp)
   simpa using this
  |succ j =>
   simp at hv
   have hj:j < cs.length:=(List.getElem?_eq_some_iff.1 hv).1
   have hvj:cs[j]=v:=(List.getElem?_eq_some_iff.1 hv).2
   have:=World.cell?_setCells_in w.heap.size (cs.map Value.string) (0+1) (W.drew.setCells w.heap.size 0 [Value.string x]).drew (fun i hi=>hcell2 _ (by simp at hi;omega)) j (by simpa using hj)
   rw [show j+1=0+1+j by omega,this]
   simp [hvj]
 ·rw [World.frozen?_setCells]
  show (W.drew.setCells w.heap.size 0 [Value.string x]).frozen? _=false
  rw [World.frozen?_setCells]
  exact hfr j
theorem c9l {G:Gh} {o:Oper} {s:St} {Q:Exit→St→Prop} {rest:St→Prop} (id lo':Nat) (cs:List ByteArray) (x:ByteArray) (hb:s.hget id=some (.box (c7c cs))) (hne:0 < cs.length) (hl:cs.length≤1000) (hc:chk G.n o.dst)
  (h:rest (a3z s o.dst (a0q G.lo (x::cs)))):a3k Tryz.prog G o s Q rest (.fn (.func 134) []) [.own id 0 cs.length 1,i64 0,a0q lo' [x]]:=by
 rintro xo l ts ho hx has a w ⟨E,hE⟩
 obtain ⟨ys,hy,hsz,hr⟩:=R.fn_inv (a1t hE hx.symm)
 have hl3:l.length=3:=by have:=congrArg List.length has;simpa using this.symm
 match l,hl3,has with
 |[o1,o2,o3],_,has =>
  simp only [List.map_cons,List.map_nil,List.cons.injEq,and_true] at has
  obtain ⟨e1,e2,e3⟩:=has
  have q2:=R.v_inv (a1t hE e2.symm)
  obtain ⟨b,K,C,hEi,hle,hKC,hv⟩:=R.own_inv (a1t hE e1.symm)
  obtain ⟨b1,K1,C1,h1,b',zs,t,hb',hh,hzs,hK,hKC',hrr⟩:=hE.hp id _ hb
  rw [hEi] at h1
  cases h1
  cases hb'
  have hcl:(c7c cs).length=cs.length:=by simp [c7c]
  obtain ⟨o',ho',hy1⟩:=hv
  have ho0:o'=0:=by rw [ho' (.inr rfl)]
  subst ho0
  have hC:C - 0=cs.length:=by omega
  rw [hC] at hy1
  have q3:=(a1t hE e3.symm).pure0 rfl
  generalize hY3:a.eval o3=y3 at q3
  cases q3 with
  |lst _ _ _ ad n3 cap3 b3 of3 g3 hlo3 hn3 hc3 hl3' ha3 hs3 hz3 hr3 =>
  simp only [List.map_cons,List.map_nil,List.length_cons,List.length_nil] at hn3
  subst hn3
  obtain ⟨rfl,hO3,hb3⟩:=ha3 (by simp)
  have hg3:g3 0 0=.string x:=by
   have:=hr3 0 [.v (.string x)] 0 (.v (.string x)) rfl rfl
   generalize g3 0 0=z at this
   cases this;rfl
  have hcell3:w.cell? ⟨b3,of3,none⟩=some (.string x):=by
   have:=(hs3 0 [.v (.string x)] 0 (.v (.string x)) rfl rfl).1
   rw [hg3] at this
   simpa using this
  have hzcell:∀ j v,(cs.map Value.string)[j]? = some v→w.cell? ⟨b',0+j,none⟩=some v:=fun j v hj=>by
   simp only [List.getElem?_map,Option.map_eq_some_iff] at hj
   obtain ⟨c,hcj,rfl⟩:=hj
   have hjl:j < cs.length:=(List.getElem?_eq_some_iff.1 hcj).1
   rw [cell_of_row _ _ _ _ _ _ hh,Nat.zero_add]
   have hjz:j < zs.size:=by omega
   have hz:zs[j]? = some zs[j]:=Array.getElem?_eq_getElem hjz
   have:=R.v_inv (hrr j (.v (.string c)) zs[j] (by simp [c7c,hcj]) hz)
   rw [hz,this]
  have hcalls:=Any2.slices_Insert_string_grow Tryz.laysNm222 b' 0 cs.length cs.length 0 b3 of3 1 cap3 (cs.map Value.string) [.string x] w (by omega) (by omega) (Nat.le_refl _) (by omega) (by omega) (by simp) (by simp) hzcell
   (fun j v hj=>by
    match j with
    |0=>simp at hj;subst hj;simpa using hcell3
    |j+1=>simp at hj) (fun v hv=>by
    simp only [List.mem_map] at hv
    obtain ⟨c,_,rfl⟩:=hv
    rfl) (fun v hv=>by simp at hv;subst hv;rfl)
  have hys0:ys=#[]:=by
   apply Array.eq_empty_of_size_eq_zero
   simpa using hsz
  have hargs:([o1,o2,o3].map a.eval).toArray++ys=#[.slice (some ⟨b',0,none⟩) cs.length cs.length,.int .i64 (0:Nat),.slice (some ⟨b3,of3,none⟩) 1 cap3]:=by
   rw [hys0]
   simp [hy1,q2,hY3]
  refine b7r ho ⟨_,Tryz.func134,by decide,by kernel_rfl⟩ hy (by rw [hargs];exact hcalls) ?_
  rintro e w' ⟨rfl,hw⟩
  obtain ⟨g1,g2,g3'⟩:=f3u w (grownCap w (cs.length+1) cs.length 9) x cs
  have hw':w'=f6j w (grownCap w (cs.length+1) cs.length 9) (.string x) (cs.map .string):=by
   rw [hw]
   unfold f6j
   rw [List.length_map]
   rfl
  rw [← hw'] at g1 g2 g3'
  refine ⟨_,rfl,_,h,E,(hE.below g1).put (a2s hc) (.r0 _ _ ?_)⟩
  refine .lst G.lo 1 _ _ _ _ w.heap.size 0 (fun i j=>.string ((x::cs).getD i ByteArray.empty)) (fun _=>Nat.le_trans G.hlo hE.grow) (by simp) (by rw [List.length_map,List.length_cons];exact grownCap_ge w (cs.length+1) cs.length 9) (by simp;omega)
   (fun _=>⟨rfl,fun hc=>Nat.lt_irrefl _ (e5z hE _ hc),g2⟩) (fun i y j u h1 h2=>?_) (fun y hy=>?_) fun i y j u h1 h2=>?_
  ·rw [List.getElem?_map,Option.map_eq_some_iff] at h1
   obtain ⟨c,hc,rfl⟩:=h1
   match j with
   |0 =>
    have:=g3' i c hc
    simp only [Nat.zero_add,Nat.mul_one,Nat.add_zero,List.getD,hc,Option.getD_some]
    exact this
   |j+1=>simp [a2c] at h2
  ·simp only [List.mem_map] at hy
   obtain ⟨c,_,rfl⟩:=hy
   rfl
  ·rw [List.getElem?_map,Option.map_eq_some_iff] at h1
   obtain ⟨c,hc,rfl⟩:=h1
   match j with
   |0 =>
    simp [a2c] at h2
    subst h2
    simp only [List.getD,hc,Option.getD_some]
    exact .v _
   |j+1=>simp [a2c] at h2
theorem a1g (x:ByteArray) (cs:List ByteArray) (hne:0 < cs.length) (hl:cs.length≤900) (hx:x.size≤100000) (hs:∀ s ∈ cs,s.size≤100000) :
  Tri Tryz.prog 63 [str x,.own 0 0 cs.length 1] [(0,.box (c7c cs))] (fun _=>.ret (str (a1b (x::cs))) []):=by
 refine a0e (fun _=>false) Tryz.func63 Tryz.ntmps63 rfl rfl fun G hG hOw hNm=>?_;simp only [go_sem,hG,hOw]
 (repeat' with_reducible first|apply And.intro|refine exP ?_ ?_|intro);all_goals try omega
 refine c9l 0 _ cs x (by simp [go_sem]) hne (by omega) (by simp [chk,hG]) ?_
 simp only [go_sem,hG,hOw]
 refine a0a (e4c (x::cs) (by simp;omega) (by simpa using ⟨hx,hs⟩)) ?_
 simp only [go_sem,hG,hOw]
 (repeat' with_reducible first|apply And.intro|refine exP ?_ ?_|intro);all_goals try omega
 exact (a2o [])
open Go Pm Go.RowKit Go.Sort
theorem a2y {n:Int} (h0:0≤n) (h1:n≤9999):(a1q n).size≤4:=by
 have:=a8n n h0 h1
 unfold b1c at this
 split at this
 ·rename_i h;rw [a1q,d0b];exact h.2.1
 ·cases this
theorem inB_iff {n lo hi:Int}:inB n lo hi=true↔lo≤n∧n≤hi:=by simp [inB]
def atS (a b c:Int):ByteArray:=a1b [a1q a,a1q b,a1q c]
def in9 (n:Int):Prop:=0≤n∧n≤9999
theorem d5g (a b c:Int) (ha:in9 a) (hb:in9 b) (hc:in9 c):a0l Tryz.prog 81 [.agg [i64 a,i64 b,i64 c]] (fun _=>str (atS a b c)):=by
 have sa:=a2y ha.1 ha.2
 have sb:=a2y hb.1 hb.2
 have sc:=a2y hc.1 hc.2
 refine a0b (ow:=fun i=>[12,1000012].contains i) Tryz.func81 Tryz.ntmps81 rfl rfl fun G hG hOw hNm hB=>?_;simp only [go_sem,hG,hOw]
 (repeat' with_reducible first|apply And.intro|refine exP ?_ ?_|intro);all_goals try omega
 refine a2g ⟨[12],[],[]⟩ [(0,false),(1,false),(2,false),(3,false),(4,false),(5,false),(6,false),(7,false),(8,false),(9,false),(10,true),(11,false)] mixed (by kernel_rfl) ?_
 simp only [a3s,List.getElem?_cons_zero,List.getElem?_cons_succ]
 simp only [go_sem,hG,hOw]
 (repeat' with_reducible first|apply And.intro|refine exP ?_ ?_|intro);all_goals try omega
 refine ⟨_,a0f (a4s a ha.1 ha.2),?_⟩
 simp only [go_sem,hG,hOw]
 (repeat' with_reducible first|apply And.intro|refine exP ?_ ?_|intro);all_goals try omega
 refine ⟨_,a0f (a4s b hb.1 hb.2),?_⟩
 simp only [go_sem,hG,hOw]
 (repeat' with_reducible first|apply And.intro|refine exP ?_ ?_|intro);all_goals try omega
 refine ⟨_,a0f (a4s c hc.1 hc.2),?_⟩
 simp only [go_sem,hG,hOw]
 (repeat' with_reducible first|apply And.intro|refine exP ?_ ?_|intro);all_goals try omega
 refine a0c [(0,12)] [] (a1g (a1q a) [a1q b,a1q c] (by simp) (by simp) (by omega) (by simp;omega)) ?_
 simp only [go_sem,hG,hOw]
 (repeat' with_reducible first|apply And.intro|refine exP ?_ ?_|intro);all_goals try omega
 rfl
def c8e (l:List ByteArray):ByteArray:=a1b [d4j,a1b l]
def f1s (c:Ch):List ByteArray:=a1b [a8c,a1q c.id]::c.lines.map c8e
def a3i (t:List Ch):List ByteArray:=t.flatMap f1s
theorem c9o (t:List Ch) (k:Nat) (hk:k < t.length):a3i (t.take (k+1))=a3i (t.take k)++f1s t[k]:=by
 unfold a3i
 rw [List.take_add_one,List.getElem?_eq_getElem hk,List.flatMap_append]
 simp
theorem b9l {f:List Ch→Ch→Bool} {p:Ch→Prop} (h:∀ pre c,f pre c=true→p c):∀ (t pre:List Ch),a2i f pre t=true→∀ c ∈ t,p c
 |[],_,_=>by simp
 |c::r,pre,ht=>by
  simp only [a2i,Bool.and_eq_true] at ht
  intro d hd
  rcases List.mem_cons.1 hd with rfl|hd
  ·exact h _ _ ht.1
  ·exact b9l h r _ ht.2 d hd
theorem a2u {s:ByteArray} (h:a1f s=true):1≤s.size∧s.size≤12:=by
 simp only [a1f,Bool.and_eq_true,inB_iff] at h;omega
structure VCh (c:Ch):Prop where
 id:in9 c.id
 len:1≤c.lines.length∧c.lines.length≤10
 ln:∀ l ∈ c.lines,(1≤l.length∧l.length≤10)∧∀ s ∈ l,a1f s=true
theorem f8b {pre:List Ch} {c:Ch} (h:a9z pre c=true):VCh c:=by
 simp only [a9z,Bool.and_eq_true,inB_iff,List.all_eq_true,b0y] at h
 obtain ⟨⟨⟨h1,h2⟩,h3⟩,h4⟩:=h
 exact ⟨h1,by omega,fun l hl=>⟨by have:=(h4 l hl).1;omega,(h4 l hl).2⟩⟩
theorem b0f {t:List Ch} (h:a1s t=true):(1≤t.length∧t.length≤6)∧∀ c ∈ t,VCh c:=by
 simp only [a1s,Bool.and_eq_true,inB_iff] at h
 exact ⟨by omega,fun c hc=>b9l (p:=VCh) (fun _ _=>f8b) t [] h.2 c hc⟩
theorem e0n {l:List ByteArray} (h:(1≤l.length∧l.length≤10)∧∀ s ∈ l,a1f s=true):(a1b l).size≤130:=by
 have h1:=b1l 12 l fun s hs=>(a2u (h.2 s hs)).2
 rw [a7z]
 have:(12+1) * l.length≤13 * 10:=Nat.mul_le_mul_left _ h.1.2
 omega
theorem d5n {t:List Ch} (h6:t.length≤6) (hv:∀ c ∈ t,c.lines.length≤10):(a3i t).length≤66:=by
 have:∀ t:List Ch,(∀ c ∈ t,c.lines.length≤10)→(a3i t).length≤11 * t.length:=by
  intro t
  induction t with
  |nil=>simp [a3i]
  |cons c r ih =>
   intro h
   have h1:=ih fun d hd=>h d (by simp [hd])
   have h2:=h c (by simp)
   simp only [a3i,List.flatMap_cons,List.length_append,f1s,List.length_cons,List.length_map] at h1 ⊢
   omega
 have:=this t hv
 omega
theorem d8q (pre:List ByteArray) (r:ByteArray) (ls:List (List ByteArray)):∃ M:Nat→List ByteArray,M 0=pre++[r]∧(∀ j (h:j < ls.length),M (j+1)=M j++[c8e ls[j]])∧M ls.length=pre++r::ls.map c8e∧∀ j,j≤ls.length→(M j).length=pre.length+1+j:=by
 refine ⟨fun j=>pre++r::(ls.take j).map c8e,by simp,fun j h=>?_,by simp,fun j h=>by simp;omega⟩
 simp only [a3d c8e ls j h]
 simp
theorem d9g (t:List Ch):a0l Tryz.prog 13 [txE 0 t] (fun n=>.tup [a0q n (if a1s t then a3i t else []),i64 (if a1s t then 0 else 10)]):=by
 refine a0b (ow:=fun i=>[26,40,1000026,1000040].contains i) Tryz.func13 Tryz.ntmps13 rfl rfl fun G hG hOw hNm hB=>?_;simp only [go_sem,hG,hOw]
 refine a0a (a5x t) ?_
 cases ht:a1s t with
 |false =>
  simp only [go_sem,hG,hOw]
  (repeat' with_reducible first|apply And.intro|refine exP ?_ ?_|intro);all_goals try omega
  exact Subs.tup (.cons (.nil _ _) (.cons (.refl _) .nil))
 |true =>
  obtain ⟨ht1,ht2⟩:=b0f ht
  have hlen:∀ k,(a3i (t.take k)).length≤66:=fun k=>d5n (by simp;omega) fun c hc=>(ht2 c (List.mem_of_mem_take hc)).len.2
  simp only [go_sem,hG,hOw]
  (repeat' with_reducible first|apply And.intro|refine exP ?_ ?_|intro);all_goals try omega
  refine a0k (fun k:Nat=>St.of [(1,.ptr 1 0),(5,.own 100 0 (a3i (t.take k)).length 1),(16,chs 0 t),(17,i64 t.length),(18,i64 k)] [(1,.box [chs 0 t]),(100,.arr 9 1 ((a3i (t.take k)).map a2c))]) (fun k=>k≤t.length) (fun k=>t.length - k) 0 (by simp) (by simp only [List.take_zero,a3i,List.flatMap_nil];exact a1m [(1,some 1),(100,none)]) ?_
  rintro k hk
  refine a0d _ _ _ ?_;simp only [go_sem,hG,hOw]
  (repeat' with_reducible first|apply And.intro|refine exP ?_ ?_|intro);all_goals try omega
  ·rename_i hlt
   have hkl:k < t.length:=by omega
   obtain ⟨hid,hcl,hln⟩:=ht2 _ (List.getElem_mem hkl)
   have hsz:=a2y hid.1 hid.2
   refine a0a (a4s t[k].id hid.1 hid.2) ?_
   simp only [go_sem,hG,hOw]
   (repeat' with_reducible first|apply And.intro|refine exP ?_ ?_|intro);all_goals try omega
   refine a0c [(0,26)] [] (a1g a8c [a1q t[k].id] (by simp) (by simp) (by decide) (by simp;omega)) ?_ (by (simp only [go_sem])<;>simp [a8c]) (by (simp only [go_sem,a1d,a0r,a0i,a1l])<;>simp [a8c]) (by simp [a0n,usH,toR,a8c])
   simp only [go_sem,hG,hOw]
   have hl66:=hlen k
   (repeat' with_reducible first|apply And.intro|refine exP ?_ ?_|intro);all_goals try omega
   obtain ⟨M,hM0,hMs,hMe,hMl⟩:=d8q (a3i (t.take k)) (a1b [a8c,a1q t[k].id]) t[k].lines
   have hMe':M t[k].lines.length=a3i (t.take (k+1)):=by rw [hMe,c9o t k hkl];rfl
   refine a2h (fun _:Unit=>St.of [(1,.ptr 1 0),(5,.own 100 0 (a3i (t.take (k+1))).length 1),(16,chs 0 t),(17,i64 t.length),(18,i64 k)] [(1,.box [chs 0 t]),(100,.arr 9 1 ((a3i (t.take (k+1))).map a2c))]) (fun _=>True) ?_ ?_
   ·refine a0k (fun j:Nat=>St.of [(1,.ptr 1 0),(5,.own 200 0 (M j).length 1),(16,chs 0 t),(17,i64 t.length),(18,i64 k),(31,lns 0 t[k].lines),(32,i64 t[k].lines.length),(33,i64 j)] [(1,.box [chs 0 t]),(200,.arr 9 1 ((M j).map a2c))]) (fun j=>j≤t[k].lines.length) (fun j=>t[k].lines.length - j) 0 (by simp) (by simp only [hM0];exact a1m [(1,some 1),(200,some 29)] (by (simp only [go_sem])<;>simp [a2c]) (by (simp only [go_sem,a1d,a0r,a0i,a1l])<;>simp [a2c])) ?_
    rintro j hj
    have hMj:=hMl j hj
    refine a0d _ _ _ ?_;simp only [go_sem,hG,hOw]
    (repeat' with_reducible first|apply And.intro|refine exP ?_ ?_|intro);all_goals try omega
    ·rename_i hlt2
     have hjl:j < t[k].lines.length:=by omega
     have hlj:=hln _ (List.getElem_mem hjl)
     have hs2:=e0n hlj
     refine a0a (e4c t[k].lines[j] (by omega) fun s hs=>by have:=a2u (hlj.2 s hs);omega) ?_
     simp only [go_sem,hG,hOw]
     (repeat' with_reducible first|apply And.intro|refine exP ?_ ?_|intro);all_goals try omega
     refine a0c [(0,40)] [] (a1g d4j [a1b t[k].lines[j]] (by simp) (by simp) (by decide) (by simp;omega)) ?_ (by (simp only [go_sem])<;>simp [d4j]) (by (simp only [go_sem,a1d,a0r,a0i,a1l])<;>simp [d4j]) (by simp [a0n,usH,toR,d4j])
     simp only [go_sem,hG,hOw]
     (repeat' with_reducible first|apply And.intro|refine exP ?_ ?_|intro);all_goals try omega
     exact ⟨j+1,by omega,by omega,a1m [(1,some 1),(200,some 43)] (by (simp only [go_sem])<;>simp [hMs j hjl,c8e,a2c]) (by (simp only [go_sem,a1d,a0r,a0i,a1l])<;>simp [hMs j hjl,c8e,a2c])⟩
    ·rename_i hge2
     have hj2:j=t[k].lines.length:=by omega
     subst hj2
     rw [hMe']
     exact ⟨(),a1m [(1,some 1),(100,some 200)]⟩
   ·rintro ⟨⟩ -
    simp only [go_sem,hG,hOw]
    (repeat' with_reducible first|apply And.intro|refine exP ?_ ?_|intro);all_goals try omega
    exact ⟨k+1,by omega,by omega,a1m [(1,some 1),(100,some 100)]⟩
  ·rename_i hge
   obtain rfl:k=t.length:=by omega
   simp only [List.take_length]
   exact .refl _
open Go Pm Go.RowKit Go.Sort
open Go Pm Go.RowKit Go.Sort
def g7i (t:List Ch) (name:ByteArray) (rest:List ByteArray):Option (List Ch×List ByteArray) :=
 if name=a8c then match rest with
  |x::r=>(a4d x).map fun v=>(t++[Ch.mk v []],r)
  |[]=>none
 else if name=d4j then match t.getLast? with
  |some c=>if f3i rest then some (t.dropLast++[Ch.mk c.id (c.lines++[rest])],[]) else none
  |none=>none
 else none
def e4n (t:List Ch) (s:ByteArray):Option (List Ch):=match a1o s with
 |[]=>none
 |name::rest=>match g7i t name rest with
  |some (t',[])=>some t'
  |_=>none
open Go Pm Go.RowKit Go.Sort
theorem d2s {l:List ByteArray} (h:a1c l=true):l.length≤200∧∀ s ∈ l,s.size≤160:=by
 simp only [a1c,Bool.and_eq_true,decide_eq_true_eq,List.all_eq_true,b4y] at h
 exact ⟨by omega,fun s hs=>by have:=(h.1 s hs).1.2;omega⟩
open Go Pm Go.RowKit Go.Sort
end Go.Proofs.YtmjhfccbbfpppaaGreatDoor
