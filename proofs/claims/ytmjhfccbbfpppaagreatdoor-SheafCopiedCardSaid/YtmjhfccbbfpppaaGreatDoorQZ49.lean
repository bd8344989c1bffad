import Derived.Test.YtmjhfccbbfpppaaGreatDoorQZ19
import Derived.Test.YtmjhfccbbfpppaaGreatDoorQZ32
import Derived.Test.YtmjhfccbbfpppaaGreatDoorQZ33
import Derived.Test.YtmjhfccbbfpppaaGreatDoorQZ39
import Derived.Test.YtmjhfccbbfpppaaGreatDoorQZ48
namespace Go.Proofs.YtmjhfccbbfpppaaGreatDoor
open Go Pm
set_option linter.unusedSimpArgs false
set_option linter.unusedVariables false
def kdW:Nat→UInt8
 |1=>3
 |2=>1
 |_=>2
def rdq (a b:Ln) (c l:Int):Nat→Nat→Nat→List Rd
 |0,_,_=>[]
 |n+1,i,k =>
  if i=a.length∧k=b.length then []
  else if i < a.length∧k < b.length∧a[i]? = b[k]? then rdq a b c l n (i+1) (k+1)
  else ⟨c,l,i,kdW (a7n a b i k 3).2,if (b2s (a7n a b i k 3).2).2=1 then (b[k]?).getD ByteArray.empty else ByteArray.empty⟩::rdq a b c l n (i+(b2s (a7n a b i k 3).2).1) (k+(b2s (a7n a b i k 3).2).2)
theorem c9p (a b:Ln) (c l:Int) (n i k:Nat):rdq a b c l (n+1) i k=if i=a.length∧k=b.length then []
  else if i < a.length∧k < b.length∧a[i]? = b[k]? then rdq a b c l n (i+1) (k+1)
  else ⟨c,l,i,kdW (a7n a b i k 3).2,if (b2s (a7n a b i k 3).2).2=1 then (b[k]?).getD ByteArray.empty else ByteArray.empty⟩::rdq a b c l n (i+(b2s (a7n a b i k 3).2).1) (k+(b2s (a7n a b i k 3).2).2):=rfl
theorem c0w (a b:Ln) (c l:Int) (n i k:Nat) (hi:i≤a.length) (hk:k≤b.length) (hn:(a.length - i)+(b.length - k)≤n+1) :
  (i=a.length∧k=b.length∧rdq a b c l (n+1) i k=[]) ∨
  (∃ (h1:i < a.length) (h2:k < b.length),a[i]=b[k]∧rdq a b c l (n+1) i k=rdq a b c l n (i+1) (k+1)) ∨
  (∃ (h1:i < a.length) (h2:k < b.length),a[i]≠b[k]∧rdq a b c l (n+1) i k=⟨c,l,i,3,b[k]⟩::rdq a b c l n (i+1) (k+1)) ∨
  (∃ (h1:i < a.length),rdq a b c l (n+1) i k=⟨c,l,i,1,⟨#[]⟩⟩::rdq a b c l n (i+1) k) ∨
  (∃ (h2:k < b.length),rdq a b c l (n+1) i k=⟨c,l,i,2,b[k]⟩::rdq a b c l n i (k+1)):=by
 rw [c9p]
 by_cases h0:i=a.length∧k=b.length
 ·rw [if_pos h0];exact .inl ⟨h0.1,h0.2,rfl⟩
 rw [if_neg h0]
 by_cases he:i < a.length∧k < b.length∧a[i]? = b[k]?
 ·rw [if_pos he]
  obtain ⟨h1,h2,h3⟩:=he
  rw [List.getElem?_eq_getElem h1,List.getElem?_eq_getElem h2,Option.some.injEq] at h3
  exact .inr (.inl ⟨h1,h2,h3,rfl⟩)
 rw [if_neg he]
 have hd:∀ (h1:i < a.length) (h2:k < b.length),a[i]≠b[k]:=fun h1 h2 e=>he ⟨h1,h2,by rw [List.getElem?_eq_getElem h1,List.getElem?_eq_getElem h2,e]⟩
 obtain ⟨q1,q2,q3,q4,q5,q6⟩:=b1c a b i k hi hk (by omega) hd
 obtain ⟨m,hm⟩:∃ m,m=(a7n a b i k 3).2:=⟨_,rfl⟩
 rw [← hm] at q2 q3 q4 q5 ⊢
 have hm3:m=1∨m=2∨m=3:=by omega
 rcases hm3 with rfl|rfl|rfl
 ·have h1:i < a.length:=by have:i+1≤a.length:=q4;omega
  have h2:k < b.length:=by have:k+1≤b.length:=q5;omega
  refine .inr (.inr (.inl ⟨h1,h2,hd h1 h2,?_⟩))
  rw [List.getElem?_eq_getElem h2];rfl
 ·have h1:i < a.length:=by have:i+1≤a.length:=q4;omega
  exact .inr (.inr (.inr (.inl ⟨h1,rfl⟩)))
 ·have h2:k < b.length:=by have:k+1≤b.length:=q5;omega
  refine .inr (.inr (.inr (.inr ⟨h2,?_⟩)))
  rw [List.getElem?_eq_getElem h2];rfl
structure InQ (a b:Ln) (c l:Int) (i:Nat) (r:Rd):Prop where
 ch:r.ch=c
 ln:r.ln=l
 lo:(i:Int)≤r.wd
 is:((r.kind.toNat:Int)=1∧r.wd < a.length∧r.word=⟨#[]⟩)∨((r.kind.toNat:Int)=2∧r.wd≤a.length∧r.word ∈ b)∨((r.kind.toNat:Int)=3∧r.wd < a.length∧r.word ∈ b∧r.word≠b3b a r.wd)
theorem InQ.up {a b:Ln} {c l:Int} {i j:Nat} {r:Rd} (h:InQ a b c l j r) (hij:i≤j):InQ a b c l i r:=⟨h.ch,h.ln,by have:=h.lo;omega,h.is⟩
theorem e8r {a:Ln} {i:Nat} (h:i < a.length):b3b a i=a[i]:=by
 unfold b3b
 rw [Int.toNat_natCast]
 simp [List.getD,h]
theorem b0t (a b:Ln) (c l:Int):∀ (n i k:Nat),i≤a.length→k≤b.length→(a.length - i)+(b.length - k)≤n→∀ r ∈ rdq a b c l n i k,InQ a b c l i r
 |0,i,k,_,_,_=>by intro r hr;simp [rdq] at hr
 |n+1,i,k,hi,hk,hn=>by
  intro r hr
  rcases c0w a b c l n i k hi hk hn with ⟨_,_,e⟩|⟨h1,h2,_,e⟩|⟨h1,h2,hd,e⟩|⟨h1,e⟩|⟨h2,e⟩
  ·rw [e] at hr;cases hr
  ·rw [e] at hr
   exact (b0t a b c l n _ _ (by omega) (by omega) (by omega) r hr).up (by omega)
  ·rw [e] at hr
   rcases List.mem_cons.1 hr with rfl|hr
   ·refine ⟨rfl,rfl,Int.le_refl _,.inr (.inr ⟨rfl,by show (i:Int) < _;omega,List.getElem_mem h2,?_⟩)⟩
    show b[k]≠b3b a (i:Int)
    rw [e8r h1]
    exact fun e=>hd e.symm
   ·exact (b0t a b c l n _ _ (by omega) (by omega) (by omega) r hr).up (by omega)
  ·rw [e] at hr
   rcases List.mem_cons.1 hr with rfl|hr
   ·exact ⟨rfl,rfl,Int.le_refl _,.inl ⟨rfl,by show (i:Int) < _;omega,rfl⟩⟩
   ·exact (b0t a b c l n _ _ (by omega) (by omega) (by omega) r hr).up (by omega)
  ·rw [e] at hr
   rcases List.mem_cons.1 hr with rfl|hr
   ·exact ⟨rfl,rfl,Int.le_refl _,.inr (.inl ⟨rfl,by show (i:Int)≤_;omega,List.getElem_mem h2⟩)⟩
   ·exact b0t a b c l n _ _ (by omega) (by omega) (by omega) r hr
theorem b4p (a b:Ln) (c l:Int):∀ (n i k:Nat),i≤a.length→k≤b.length→(a.length - i)+(b.length - k)≤n→(rdq a b c l n i k).Pairwise fun p r=>p.wd < r.wd∨p.wd=r.wd∧(p.kind.toNat:Int)=2
 |0,i,k,_,_,_=>by simp [rdq]
 |n+1,i,k,hi,hk,hn=>by
  rcases c0w a b c l n i k hi hk hn with ⟨_,_,e⟩|⟨h1,h2,_,e⟩|⟨h1,h2,hd,e⟩|⟨h1,e⟩|⟨h2,e⟩
  ·rw [e];exact .nil
  ·rw [e];exact b4p a b c l n _ _ (by omega) (by omega) (by omega)
  ·rw [e]
   refine .cons (fun r hr=>.inl ?_) (b4p a b c l n _ _ (by omega) (by omega) (by omega))
   have:=(b0t a b c l n _ _ (by omega) (by omega) (by omega) r hr).lo
   show (i:Int) < r.wd
   omega
  ·rw [e]
   refine .cons (fun r hr=>.inl ?_) (b4p a b c l n _ _ (by omega) (by omega) (by omega))
   have:=(b0t a b c l n _ _ (by omega) (by omega) (by omega) r hr).lo
   show (i:Int) < r.wd
   omega
  ·rw [e]
   refine .cons (fun r hr=>?_) (b4p a b c l n _ _ (by omega) (by omega) (by omega))
   have:=(b0t a b c l n _ _ (by omega) (by omega) (by omega) r hr).lo
   show (i:Int) < r.wd∨(i:Int)=r.wd∧_
   by_cases e:(i:Int)=r.wd
   ·exact .inr ⟨e,rfl⟩
   ·exact .inl (by omega)
theorem e0o (k n w:Int) (x:List ByteArray) (s:List ByteArray×ByteArray) (r:Rd):a3z k n w (x++s.1,s.2) r=(x++(a3z k n w s r).1,(a3z k n w s r).2):=by
 unfold a3z
 split
 ·split
  ·simp
  ·rfl
 ·rfl
theorem c4l (k n w:Int) (x:List ByteArray):∀ (rs:List Rd) (s:List ByteArray×ByteArray),rs.foldl (a3z k n w) (x++s.1,s.2)=(x++(rs.foldl (a3z k n w) s).1,(rs.foldl (a3z k n w) s).2)
 |[],s=>rfl
 |r::rs,s=>by
  rw [List.foldl_cons,e0o,c4l k n w x rs (a3z k n w s r),List.foldl_cons]
theorem a5l (k n w:Int):∀ (rs:List Rd) (s:List ByteArray×ByteArray),(∀ r ∈ rs,atW k n w r=false)→rs.foldl (a3z k n w) s=s
 |[],s,_=>rfl
 |r::rs,s,h=>by
  rw [List.foldl_cons,show a3z k n w s r=s by unfold a3z;rw [h r (by simp)];rfl]
  exact a5l k n w rs s fun x hx=>h x (by simp [hx])
theorem e2r {a b:Ln} {c l:Int} {j w:Nat} {r:Rd} (h:InQ a b c l j r) (hw:w < j):atW c l w r=false:=by
 unfold atW
 rw [decide_eq_false (p:=r.wd=(w:Int)) (by have:=h.lo;omega),Bool.and_false]
theorem e7n (x:List ByteArray) (s:List ByteArray×ByteArray):d1f (x++s.1,s.2)=x++d1f s:=by
 unfold d1f
 split<;>simp
def e2w (rs:List Rd) (c l:Int) (a:Ln) (i m:Nat):List ByteArray:=(List.range' i m).flatMap (c1q rs c l a)
theorem a6g (rs:List Rd) (c l:Int) (a:Ln) (i m:Nat):e2w rs c l a i (m+1)=c1q rs c l a i++e2w rs c l a (i+1) m:=by
 unfold e2w
 rw [List.range'_succ,List.flatMap_cons]
theorem a8q {r:Rd} {rs:List Rd} {c l:Int} {a:Ln} {i:Nat} (h:r.wd < i):∀ m,e2w (r::rs) c l a i m=e2w rs c l a i m:=by
 intro m
 unfold e2w
 rw [List.flatMap_def,List.flatMap_def]
 congr 1
 refine List.map_congr_left fun w hw=>?_
 have hwi:i≤w:=by simp [List.mem_range'] at hw;omega
 unfold c1q
 rw [List.foldl_cons]
 congr 2
 unfold a3z atW
 rw [decide_eq_false (p:=r.wd=(w:Int)) (by omega),Bool.and_false]
 rfl
theorem a9c (a b:Ln) (c l:Int) (ha:∀ x ∈ a,¬ x=⟨#[]⟩) (hb:∀ x ∈ b,¬ x=⟨#[]⟩):∀ (n i k:Nat),i≤a.length→k≤b.length→(a.length - i)+(b.length - k)≤n→e2w (rdq a b c l n i k) c l a i (a.length+1 - i)=b.drop k
 |0,i,k,hi,hk,hn=>by
  obtain rfl:i=a.length:=by omega
  obtain rfl:k=b.length:=by omega
  rw [show a.length+1 - a.length=0+1 by omega,a6g]
  simp [rdq,e2w,c1q,d1f,b3b,List.getD]
 |n+1,i,k,hi,hk,hn=>by
  have hin:=fun (i' k':Nat) (h1:i'≤a.length) (h2:k'≤b.length) (h3:(a.length - i')+(b.length - k')≤n)=>b0t a b c l n i' k' h1 h2 h3
  rcases c0w a b c l n i k hi hk hn with ⟨rfl,rfl,e⟩|⟨h1,h2,he,e⟩|⟨h1,h2,hd,e⟩|⟨h1,e⟩|⟨h2,e⟩
  ·rw [e,show a.length+1 - a.length=0+1 by omega,a6g]
   simp [e2w,c1q,d1f,b3b,List.getD]
  ·rw [e,show a.length+1 - i=(a.length+1 - (i+1))+1 by omega,a6g,a9c a b c l ha hb n (i+1) (k+1) (by omega) (by omega) (by omega),List.drop_eq_getElem_cons h2]
   have:c1q (rdq a b c l n (i+1) (k+1)) c l a i=[a[i]]:=by
    unfold c1q
    rw [a5l c l i _ _ fun r hr=>e2r (hin _ _ (by omega) (by omega) (by omega) r hr) (by omega),e8r h1]
    unfold d1f
    rw [if_neg (ha _ (List.getElem_mem h1))];rfl
   rw [this,he];rfl
  ·rw [e,show a.length+1 - i=(a.length+1 - (i+1))+1 by omega,a6g,a8q (show (i:Int) < ((i+1:Nat):Int) by omega),a9c a b c l ha hb n (i+1) (k+1) (by omega) (by omega) (by omega),List.drop_eq_getElem_cons h2]
   have:c1q (⟨c,l,i,3,b[k]⟩::rdq a b c l n (i+1) (k+1)) c l a i=[b[k]]:=by
    unfold c1q
    rw [List.foldl_cons,a5l c l i _ _ fun r hr=>e2r (hin _ _ (by omega) (by omega) (by omega) r hr) (by omega)]
    unfold a3z atW d1f
    simp [hb _ (List.getElem_mem h2)]
   rw [this];rfl
  ·rw [e,show a.length+1 - i=(a.length+1 - (i+1))+1 by omega,a6g,a8q (show (i:Int) < ((i+1:Nat):Int) by omega),a9c a b c l ha hb n (i+1) k (by omega) (by omega) (by omega)]
   have:c1q (⟨c,l,i,1,⟨#[]⟩⟩::rdq a b c l n (i+1) k) c l a i=[]:=by
    unfold c1q
    rw [List.foldl_cons,a5l c l i _ _ fun r hr=>e2r (hin _ _ (by omega) (by omega) (by omega) r hr) (by omega)]
    unfold a3z atW d1f
    simp
   rw [this];rfl
  ·have ih:=a9c a b c l ha hb n i (k+1) (by omega) (by omega) (by omega)
   rw [e,show a.length+1 - i=(a.length - i)+1 by omega,a6g,a8q (show (i:Int) < ((i+1:Nat):Int) by omega),List.drop_eq_getElem_cons h2,← ih,show a.length+1 - i=(a.length - i)+1 by omega,a6g]
   have:c1q (⟨c,l,i,2,b[k]⟩::rdq a b c l n i (k+1)) c l a i=b[k]::c1q (rdq a b c l n i (k+1)) c l a i:=by
    unfold c1q
    rw [List.foldl_cons]
    have hs:a3z c l i ([],b3b a i) ⟨c,l,i,2,b[k]⟩=([b[k]]++(([]:List ByteArray),b3b a i).1,(([]:List ByteArray),b3b a i).2):=by
     unfold a3z atW
     simp
    rw [hs,c4l,e7n]
    rfl
   rw [this];rfl
theorem d8y (a b:Ln) (c l:Int) (ha:∀ x ∈ a,¬ x=⟨#[]⟩) (hb:∀ x ∈ b,¬ x=⟨#[]⟩):c4i (rdq a b c l (a.length+b.length) 0 0) c l a=b:=by
 have h:=a9c a b c l ha hb (a.length+b.length) 0 0 (Nat.zero_le _) (Nat.zero_le _) (by omega)
 unfold e2w at h
 rw [Nat.sub_zero,← List.range_eq_range'] at h
 exact h
open Go Pm
set_option linter.unusedSectionVars false
abbrev cO (t:List Ch) (k:Nat):Ch:=t.getD k ⟨0,[]⟩
abbrev lnO (c:Ch) (n:Nat):Ln:=c.lines.getD n []
def lnQ (t u:List Ch) (k n:Nat):List Rd:=rdq (lnO (cO t k) n) (lnO (cO u k) n) k n ((lnO (cO t k) n).length+(lnO (cO u k) n).length) 0 0
def chQ (t u:List Ch) (k:Nat):Nat→List Rd
 |0=>[]
 |n+1=>chQ t u k n++lnQ t u k n
def txQ (t u:List Ch):Nat→List Rd
 |0=>[]
 |k+1=>txQ t u k++chQ t u k (cO t k).lines.length
theorem b7x (t u:List Ch) (k n:Nat):∀ r ∈ lnQ t u k n,InQ (lnO (cO t k) n) (lnO (cO u k) n) k n 0 r :=
 b0t _ _ _ _ _ _ _ (Nat.zero_le _) (Nat.zero_le _) (by omega)
theorem b4y {t u:List Ch} {k:Nat} {r:Rd}:∀ {m:Nat},r ∈ chQ t u k m→∃ n,n < m∧r ∈ lnQ t u k n
 |0,h=>by cases h
 |m+1,h=>by
  rcases List.mem_append.1 h with h|h
  ·obtain ⟨n,h1,h2⟩:=b4y h
   exact ⟨n,by omega,h2⟩
  ·exact ⟨m,by omega,h⟩
theorem c0e {t u:List Ch} {r:Rd}:∀ {m:Nat},r ∈ txQ t u m→∃ k n,k < m∧n < (cO t k).lines.length∧r ∈ lnQ t u k n
 |0,h=>by cases h
 |m+1,h=>by
  rcases List.mem_append.1 h with h|h
  ·obtain ⟨k,n,h1,h2,h3⟩:=c0e h
   exact ⟨k,n,by omega,h2,h3⟩
  ·obtain ⟨n,h1,h2⟩:=b4y h
   exact ⟨m,n,by omega,h1,h2⟩
theorem d9p {k n w:Int} {r:Rd} (h:r.ch≠k∨r.ln≠n):atW k n w r=false:=by
 unfold atW
 rcases h with h|h
 ·rw [decide_eq_false h];rfl
 ·rw [decide_eq_false h,Bool.and_false];rfl
theorem d7y (t u:List Ch) (k n:Nat) (w:Int) (s:List ByteArray×ByteArray):∀ m,(chQ t u k m).foldl (a3z k n w) s=if n < m then (lnQ t u k n).foldl (a3z k n w) s else s
 |0=>by simp [chQ]
 |m+1=>by
  rw [chQ,List.foldl_append,d7y t u k n w s m]
  by_cases h1:n < m
  ·rw [if_pos h1,if_pos (by omega)]
   exact a5l _ _ _ _ _ fun r hr=>d9p (.inr (by have:=(b7x t u k m r hr).ln;omega))
  ·rw [if_neg h1]
   by_cases h2:n=m
   ·subst h2;rw [if_pos (by omega)]
   ·rw [if_neg (by omega)]
    exact a5l _ _ _ _ _ fun r hr=>d9p (.inr (by have:=(b7x t u k m r hr).ln;omega))
theorem e0n (t u:List Ch) (k n:Nat) (w:Int) (s:List ByteArray×ByteArray):∀ m,(txQ t u m).foldl (a3z k n w) s=if k < m∧n < (cO t k).lines.length then (lnQ t u k n).foldl (a3z k n w) s else s
 |0=>by simp [txQ]
 |m+1=>by
  have skip:∀ s,k≠m→(chQ t u m (cO t m).lines.length).foldl (a3z k n w) s=s:=fun s h=>a5l _ _ _ _ _ fun r hr=>by
   obtain ⟨j,_,hj⟩:=b4y hr
   exact d9p (.inl (by have:=(b7x t u m j r hj).ch;omega))
  rw [txQ,List.foldl_append,e0n t u k n w s m]
  by_cases h1:k=m
  ·subst h1
   rw [if_neg (by omega),d7y]
   by_cases h2:n < (cO t k).lines.length
   ·rw [if_pos h2,if_pos ⟨by omega,h2⟩]
   ·rw [if_neg h2,if_neg (by omega)]
  ·rw [skip _ h1]
   by_cases h2:k < m∧n < (cO t k).lines.length
   ·rw [if_pos h2,if_pos ⟨by omega,h2.2⟩]
   ·rw [if_neg h2,if_neg (by omega)]
theorem d5p (t u:List Ch) (k n:Nat) (hk:k < t.length) (hn:n < (cO t k).lines.length) (ha:∀ x ∈ lnO (cO t k) n,¬ x=⟨#[]⟩) (hb:∀ x ∈ lnO (cO u k) n,¬ x=⟨#[]⟩):c4i (txQ t u t.length) k n (lnO (cO t k) n)=lnO (cO u k) n:=by
 rw [← d8y (lnO (cO t k) n) (lnO (cO u k) n) k n ha hb]
 unfold c4i
 congr 1
 funext w
 unfold c1q
 rw [e0n,if_pos ⟨hk,hn⟩]
 rfl
structure ShapeQ (t u:List Ch):Prop where
 len:t.length=u.length
 ids:∀ k,k < t.length→(cO t k).id=(cO u k).id
 lns:∀ k,k < t.length→(cO t k).lines.length=(cO u k).lines.length
theorem a6z {t:List Ch} (ht:a1l t=true) {k n:Nat} (hk:k < t.length) (hn:n < (cO t k).lines.length):(1≤(lnO (cO t k) n).length∧(lnO (cO t k) n).length≤10)∧∀ s ∈ lnO (cO t k) n,a1h s=true:=by
 have e:cO t k=t[k]:=by simp [cO,List.getD,hk]
 have hv:=(a8y ht).2 _ (List.getElem_mem hk)
 rw [e] at hn ⊢
 have e2:lnO t[k] n=t[k].lines[n]:=by simp [lnO,List.getD,hn]
 rw [e2]
 exact hv.ln _ (List.getElem_mem hn)
theorem b1b {t:List Ch} (ht:a1l t=true) {k:Nat} (hk:k < t.length):k < 6∧(cO t k).lines.length≤10:=by
 have e:cO t k=t[k]:=by simp [cO,List.getD,hk]
 have hv:=(a8y ht).2 _ (List.getElem_mem hk)
 rw [e]
 exact ⟨by have:=(a8y ht).1.2;omega,hv.len.2⟩
theorem e5l {t:List Ch} {k n:Nat} (hk:k < t.length) (hn:n < (cO t k).lines.length):a5v t k n=some (lnO (cO t k) n):=by
 have e:cO t k=t[k]:=by simp [cO,List.getD,hk]
 rw [e] at hn ⊢
 unfold a5v
 rw [if_pos ⟨by omega,by omega⟩]
 simp [hk,hn,lnO,List.getD]
section
variable {t u:List Ch} (ht:a1l t=true) (hu:a1l u=true) (hS:ShapeQ t u)
include ht hu hS
theorem b7u {k n:Nat} (hk:k < t.length) (hn:n < (cO t k).lines.length) {r:Rd} (hr:r ∈ lnQ t u k n):r.ch=k∧r.ln=n∧(0≤r.wd∧r.wd≤10)∧a1q t r=true∧b0c r:=by
 have hq:=b7x t u k n r hr
 obtain ⟨a1,a2⟩:=a6z ht hk hn
 obtain ⟨b1,b2⟩:=a6z hu (k:=k) (n:=n) (by have:=hS.len;omega) (by have:=hS.lns k hk;omega)
 have hlo:=hq.lo
 have hrd:a1q t r=b3g (lnO (cO t k) n) r.wd r.kind.toNat r.word:=by
  unfold a1q
  rw [hq.ch,hq.ln,e5l hk hn]
 refine ⟨hq.ch,hq.ln,⟨by omega,?_⟩,?_,?_⟩
 ·rcases hq.is with ⟨_,h,_⟩|⟨_,h,_⟩|⟨_,h,_⟩<;>omega
 ·rw [hrd]
  unfold b3g
  rcases hq.is with ⟨h1,h2,h3⟩|⟨h1,h2,h3⟩|⟨h1,h2,h3,h4⟩
  ·rw [if_pos h1,inB_iff.2 ⟨by omega,by omega⟩,decide_eq_true h3];rfl
  ·rw [if_neg (by omega),if_pos h1,inB_iff.2 ⟨by omega,by omega⟩,b2 _ h3];rfl
  ·rw [if_neg (by omega),if_neg (by omega),if_pos h1,inB_iff.2 ⟨by omega,by omega⟩,b2 _ h3,decide_eq_true h4];rfl
 ·rcases hq.is with ⟨h1,h2,h3⟩|⟨h1,h2,h3⟩|⟨h1,h2,h3,h4⟩
  ·exact .inl ⟨h1,h3⟩
  ·exact .inr (.inl ⟨h1,b2 _ h3⟩)
  ·exact .inr (.inr ⟨h1,b2 _ h3⟩)
theorem f4f (k n:Nat):(lnQ t u k n).Pairwise c9w:=by
 refine (b4p (lnO (cO t k) n) (lnO (cO u k) n) k n _ 0 0 (Nat.zero_le _) (Nat.zero_le _) (Nat.le_of_eq (by simp))).imp_of_mem fun {a b} ha hb h=>?_
 have h1:=b7x t u k n a ha
 have h2:=b7x t u k n b hb
 unfold c9w nP
 rw [h1.ch,h1.ln,h2.ch,h2.ln]
 rcases h with h|⟨h,h'⟩
 ·exact .inl (by omega)
 ·exact .inr ⟨by omega,h'⟩
theorem d4d {k:Nat} (hk:k < t.length):∀ m,m≤(cO t k).lines.length→(chQ t u k m).Pairwise c9w
 |0,_=>by simp [chQ]
 |m+1,hm=>by
  refine List.pairwise_append.2 ⟨d4d hk m (by omega),f4f ht hu hS k m,fun a ha b hb=>.inl ?_⟩
  obtain ⟨n,hn,ha⟩:=b4y ha
  obtain ⟨a1,a2,a3,_,_⟩:=b7u ht hu hS hk (by omega) ha
  obtain ⟨b1,b2,b3,_,_⟩:=b7u ht hu hS hk (by omega) hb
  unfold nP
  omega
theorem d7o:∀ m,m≤t.length→(txQ t u m).Pairwise c9w
 |0,_=>by simp [txQ]
 |m+1,hm=>by
  refine List.pairwise_append.2 ⟨d7o m (by omega),d4d ht hu hS (by omega) _ (Nat.le_refl _),fun a ha b hb=>.inl ?_⟩
  obtain ⟨k,n,hk,hn,ha⟩:=c0e ha
  obtain ⟨n2,hn2,hb⟩:=b4y hb
  obtain ⟨a1,a2,a3,_,_⟩:=b7u ht hu hS (by omega) hn ha
  obtain ⟨b1,b2,b3,_,_⟩:=b7u ht hu hS (by omega) hn2 hb
  have h1:=(b1b ht (k:=k) (by omega)).2
  unfold nP
  omega
theorem c7i (hn:(txQ t u t.length).length≤1000):OKR t (txQ t u t.length):=by
 refine ⟨hn,fun r hr=>?_,d7o ht hu hS _ (Nat.le_refl _)⟩
 obtain ⟨k,n,hk,hl,h⟩:=c0e hr
 obtain ⟨a1,a2,a3,a4,a5⟩:=b7u ht hu hS hk hl h
 obtain ⟨b1,b2⟩:=b1b ht hk
 exact ⟨⟨⟨by omega,by omega⟩,⟨by omega,by omega⟩,by omega,by omega⟩,a5⟩
theorem e3m {id:Int} (hid:in9 id) (hn:(txQ t u t.length).length≤20):a5e t ⟨id,txQ t u t.length⟩=true:=by
 have hO:=c7i ht hu hS (by omega)
 unfold a5e
 simp only [Bool.and_eq_true,decide_eq_true_eq]
 refine ⟨⟨⟨inB_iff.2 hid,hn⟩,?_⟩,?_⟩
 ·unfold c0x
  rw [List.all_eq_true]
  intro j hj
  have hj:j < (txQ t u t.length).length:=by simpa using hj
  unfold c7q
  rw [Bool.and_eq_true]
  have ej:(txQ t u t.length).getD j rd0=(txQ t u t.length)[j]:=by simp [List.getD,hj]
  obtain ⟨k,n,hk,hl,h⟩:=c0e (List.getElem_mem hj)
  refine ⟨by rw [ej];exact (b7u ht hu hS hk hl h).2.2.2.1,?_⟩
  rw [Bool.or_eq_true,decide_eq_true_eq]
  by_cases h0:j=0
  ·exact .inl h0
  ·right
   have hj1:j - 1 < (txQ t u t.length).length:=by omega
   have ej1:(txQ t u t.length).getD (j - 1) rd0=(txQ t u t.length)[j - 1]:=by simp [List.getD,hj1]
   rw [ej,ej1]
   have hb:=List.pairwise_iff_getElem.1 hO.s (j - 1) j hj1 hj (by omega)
   have p1:=(hO.i _ (List.getElem_mem hj1)).1
   have p2:=(hO.i _ (List.getElem_mem hj)).1
   obtain ⟨x1,x2,x3⟩:=p1
   obtain ⟨y1,y2,y3⟩:=p2
   unfold c9w nP at hb
   unfold b4s b9c a5u
   rw [Bool.not_eq_true',Bool.or_eq_false_iff]
   constructor
   ·split
    ·rw [decide_eq_false_iff_not];omega
    ·split
     ·rw [decide_eq_false_iff_not];omega
     ·rw [decide_eq_false_iff_not];omega
   ·rw [Bool.and_eq_false_iff]
    rcases hb with hb|⟨_,hb⟩
    ·left
     rw [Bool.and_eq_false_iff,Bool.and_eq_false_iff,decide_eq_false_iff_not,decide_eq_false_iff_not,decide_eq_false_iff_not]
     omega
    ·right
     rw [decide_eq_false_iff_not];omega
 ·rw [List.all_eq_true]
  intro k hk
  rw [List.all_eq_true]
  intro n hn2
  have hk:k < t.length:=by simpa using hk
  have hn2:n < (cO t k).lines.length:=by simpa using hn2
  obtain ⟨a1,a2⟩:=a6z ht hk hn2
  obtain ⟨b1,b2⟩:=a6z hu (k:=k) (n:=n) (by have:=hS.len;omega) (by have:=hS.lns k hk;omega)
  have:=d5p t u k n hk hn2 (fun x hx=>fun e=>by have:=(a2k (a2 x hx)).1;rw [e] at this;exact absurd this (by decide)) (fun x hx=>fun e=>by have:=(a2k (b2 x hx)).1;rw [e] at this;exact absurd this (by decide))
  show inB (c4i (txQ t u t.length) k n (lnO (cO t k) n)).length 1 10=true
  rw [this]
  exact inB_iff.2 ⟨by omega,by omega⟩
theorem e5a (hn:(txQ t u t.length).length≤1000):a8d t (txQ t u t.length)=u:=by
 have hO:=c7i ht hu hS hn
 unfold a8d
 refine List.ext_getElem (by simp;exact hS.len) fun k h1 h2=>?_
 have hk:k < t.length:=by simpa using h1
 simp only [List.getElem_map,List.getElem_range]
 have eu:cO u k=u[k]:=by simp [cO,List.getD,h2]
 unfold d2o
 rw [hS.ids k hk]
 have hl:((List.range (cO t k).lines.length).map fun (n:Nat)=>d0z (txQ t u t.length) k n ((cO t k).lines.getD n []))=u[k].lines:=by
  have hll:=hS.lns k hk
  refine List.ext_getElem (by rw [List.length_map,List.length_range,hll,eu]) fun n g1 g2=>?_
  have hn2:n < (cO t k).lines.length:=by simpa using g1
  simp only [List.getElem_map,List.getElem_range]
  obtain ⟨a1,a2⟩:=a6z ht hk hn2
  obtain ⟨b1,b2⟩:=a6z hu (k:=k) (n:=n) (by have:=hS.len;omega) (by omega)
  rw [e0b hO]
  have:=d5p t u k n hk hn2 (fun x hx=>fun e=>by have:=(a2k (a2 x hx)).1;rw [e] at this;exact absurd this (by decide)) (fun x hx=>fun e=>by have:=(a2k (b2 x hx)).1;rw [e] at this;exact absurd this (by decide))
  refine this.trans ?_
  rw [eu]
  simp [lnO,List.getD,g2]
 show Ch.mk (cO u k).id _=u[k]
 rw [hl,eu]
end
open Go Pm
set_option maxHeartbeats 4000000
set_option maxRecDepth 100000
theorem b9s (a b:Ln) (c l:Int):∀ (n i k:Nat),i≤a.length→k≤b.length→(a.length - i)+(b.length - k)≤n→rdz a b c l n i k=(rdq a b c l n i k).map rdE
 |0,i,k,_,_,_=>rfl
 |n+1,i,k,hi,hk,hn=>by
  rw [c9p]
  unfold rdz
  by_cases h0:i=a.length∧k=b.length
  ·rw [if_pos h0,if_pos h0];rfl
  rw [if_neg h0,if_neg h0]
  by_cases he:i < a.length∧k < b.length∧a[i]? = b[k]?
  ·rw [if_pos he,if_pos he]
   exact b9s a b c l n _ _ (by omega) (by omega) (by omega)
  rw [if_neg he,if_neg he]
  have hd:∀ (h1:i < a.length) (h2:k < b.length),a[i]≠b[k]:=fun h1 h2 e=>he ⟨h1,h2,by rw [List.getElem?_eq_getElem h1,List.getElem?_eq_getElem h2,e]⟩
  obtain ⟨q1,q2,q3,q4,q5,q6⟩:=b1c a b i k hi hk (by omega) hd
  obtain ⟨m,hm⟩:∃ m,m=(a7n a b i k 3).2:=⟨_,rfl⟩
  rw [← hm] at q2 q3 q4 q5 ⊢
  have hw:=c0p m q3
  rw [List.map_cons,b9s a b c l n _ _ q4 q5 (by omega)]
  congr 1
  have hm3:m=1∨m=2∨m=3:=by omega
  rcases hm3 with rfl|rfl|rfl<;>rfl
def shB (c d:Ch):Bool:=decide (c.id=d.id) && decide ((c.lines.length:Int)=d.lines.length)
theorem e3k (c d:Ch):a0n Tryz.prog 146 [.agg (chE 0 c),.agg (chE 0 d)] (fun _=>bl (shB c d)):=by
 unfold shB
 by_cases h:c.id=d.id
 ·rw [decide_eq_true h]
  refine a0b (ow:=fun _=>false) Tryz.func146 Tryz.ntmps146 rfl rfl fun G hG hOw hNm hB=>?_;simp only [go_sem,hG,hOw]
  simp (maxSteps:=2000000) only [go_sem,hG,hOw,h]
  try (repeat' with_reducible first|refine And.intro ?_ ?_|intro _|refine exP ?_ ?_);all_goals try omega
  try rfl
  try simp
 ·rw [decide_eq_false h]
  refine a0b (ow:=fun _=>false) Tryz.func146 Tryz.ntmps146 rfl rfl fun G hG hOw hNm hB=>?_;simp only [go_sem,hG,hOw]
  simp (maxSteps:=2000000) only [go_sem,hG,hOw,h,decide_eq_false h]
  try (repeat' with_reducible first|refine And.intro ?_ ?_|intro _|refine exP ?_ ?_);all_goals try omega
  try rfl
  try simp
theorem f8p (t u:List Ch) (ht:t.length≤1000):a0n Tryz.prog 145 [chs 0 t,chs 0 u,.fn (.func 146) []] (fun _=>bl (decide (t.length=u.length∧∀ k,k < t.length→shB (cO t k) (cO u k)=true))):=by
 refine a0b (ow:=fun _=>false) Tryz.func145 Tryz.ntmps145 rfl rfl fun G hG hOw hNm hB=>?_;simp only [go_sem,hG,hOw]
 (repeat' with_reducible first|refine And.intro ?_ ?_|intro _|refine exP ?_ ?_);all_goals try omega
 ·rename_i h
  rw [decide_eq_false]
  rintro ⟨e,_⟩
  omega
 ·rename_i h
  have hlen:t.length=u.length:=by omega
  refine a0m (fun k:Nat=>St.of [(1,chs 0 u),(2,.fn (.func 146) []),(15,chs 0 t),(16,i64 t.length),(17,i64 k)] []) (fun k=>k≤t.length∧∀ j,j < k→shB (cO t j) (cO u j)=true) (fun k=>t.length - k) 0 (by simp) (a1e (by (simp only [go_sem])<;>simp) hNm) ?_
  rintro k ⟨hk,hall⟩
  by_cases hkl:k < t.length
  ·have hlt:(k:Int) < t.length:=by omega
   have hku:k < u.length:=by omega
   have e1:cO t k=t[k]:=by simp [cO,List.getD,hkl]
   have e2:cO u k=u[k]:=by simp [cO,List.getD,hku]
   refine a0d _ _ _ ?_
   simp (maxSteps:=2000000) only [go_sem,hG,hOw,hlt]
   (repeat' with_reducible first|refine And.intro ?_ ?_|intro _|refine exP ?_ ?_);all_goals try omega
   refine a0a (e3k t[k] u[k]) ?_
   cases hs:shB t[k] u[k] with
   |false =>
    simp (maxSteps:=2000000) only [go_sem,hG,hOw,hs]
    try (repeat' with_reducible first|refine And.intro ?_ ?_|intro _|refine exP ?_ ?_);all_goals try omega
    rw [decide_eq_false]
    rintro ⟨_,h2⟩
    have:=h2 k hkl
    rw [e1,e2,hs] at this
    cases this
   |true =>
    simp (maxSteps:=2000000) only [go_sem,hG,hOw,hs]
    (repeat' with_reducible first|refine And.intro ?_ ?_|intro _|refine exP ?_ ?_);all_goals try omega
    refine ⟨k+1,⟨by omega,fun j hj=>?_⟩,by omega,a1e (by (simp only [go_sem])<;>simp) hNm⟩
    by_cases e:j=k
    ·subst e;rw [e1,e2,hs]
    ·exact hall j (by omega)
  ·have hlt:¬ (k:Int) < t.length:=by omega
   obtain rfl:k=t.length:=by omega
   refine a0d _ _ _ ?_
   simp (maxSteps:=2000000) only [go_sem,hG,hOw,hlt]
   try (repeat' with_reducible first|refine And.intro ?_ ?_|intro _|refine exP ?_ ?_);all_goals try omega
   rw [decide_eq_true (⟨hlen,hall⟩)]
theorem d1l (t u:List Ch) (ht:a1l t=true) (hu:a1l u=true):a0n Tryz.prog 87 [txE 0 t,txE 0 u] (fun _=>i64 (if t.length=u.length∧∀ k,k < t.length→shB (cO t k) (cO u k)=true then 0 else 8)):=by
 have h1:=a4g t
 have h2:=a4g u
 rw [ht] at h1
 rw [hu] at h2
 simp only [if_true] at h1 h2
 have hb:=(a8y ht).1
 refine a0b (ow:=fun _=>false) Tryz.func87 Tryz.ntmps87 rfl rfl fun G hG hOw hNm hB=>?_;simp only [go_sem,hG,hOw]
 try (repeat' with_reducible first|refine And.intro ?_ ?_|intro _|refine exP ?_ ?_);all_goals try omega
 refine a0a h1 ?_
 simp only [go_sem,hG,hOw]
 try (repeat' with_reducible first|refine And.intro ?_ ?_|intro _|refine exP ?_ ?_);all_goals try omega
 refine a0a h2 ?_
 simp only [go_sem,hG,hOw]
 try (repeat' with_reducible first|refine And.intro ?_ ?_|intro _|refine exP ?_ ?_);all_goals try omega
 refine a0a (f8p t u (by omega)) ?_
 by_cases hs:t.length=u.length∧∀ k,k < t.length→shB (cO t k) (cO u k)=true
 ·rw [decide_eq_true hs,if_pos hs]
  simp only [go_sem,hG,hOw]
  try (repeat' with_reducible first|refine And.intro ?_ ?_|intro _|refine exP ?_ ?_);all_goals try omega
 ·rw [decide_eq_false hs,if_neg hs]
  simp only [go_sem,hG,hOw]
  try (repeat' with_reducible first|refine And.intro ?_ ?_|intro _|refine exP ?_ ?_);all_goals try omega
theorem c7z {t u:List Ch} (h:t.length=u.length∧∀ k,k < t.length→shB (cO t k) (cO u k)=true):ShapeQ t u:=by
 have hk:∀ k,k < t.length→(cO t k).id=(cO u k).id∧((cO t k).lines.length:Int)=(cO u k).lines.length:=fun k hk=>by
  have:=h.2 k hk
  unfold shB at this
  simpa only [Bool.and_eq_true,decide_eq_true_eq] using this
 exact ⟨h.1,fun k h=>(hk k h).1,fun k h=>by have:=(hk k h).2;omega⟩
theorem f1k (t u:List Ch) (k n:Nat):(lnQ t u k n).length≤(lnO (cO t k) n).length+(lnO (cO u k) n).length:=by
 have h:=e1t (lnO (cO t k) n) (lnO (cO u k) n) k n ((lnO (cO t k) n).length+(lnO (cO u k) n).length) 0 0 (Nat.zero_le _) (Nat.zero_le _) (by omega)
 rw [b9s _ _ _ _ _ _ _ (Nat.zero_le _) (Nat.zero_le _) (by omega),List.length_map] at h
 have hb:=a9i (lnO (cO t k) n) (lnO (cO u k) n) 0 0
 unfold lnQ
 omega
theorem f2q (t u:List Ch) (ht:a1l t=true) (hu:a1l u=true) (hS:ShapeQ t u):a0n Tryz.prog 88 [txE 0 t,txE 0 u] (fun n=>rds n (txQ t u t.length)):=by
 have hb6:=(a8y ht).1
 have hln:∀ k n,k < t.length→n < (cO t k).lines.length→(lnQ t u k n).length≤20:=fun k n hk hn=>by
  have:=f1k t u k n
  have a:=(a6z ht hk hn).1
  have b:=(a6z hu (k:=k) (n:=n) (by have:=hS.len;omega) (by have:=hS.lns k hk;omega)).1
  omega
 have hch:∀ k,k < t.length→∀ m,m≤(cO t k).lines.length→(chQ t u k m).length≤20 * m:=fun k hk m=>by
  induction m with
  |zero=>simp [chQ]
  |succ m ih =>
   intro hm
   have:=ih (by omega)
   have:=hln k m hk (by omega)
   rw [chQ,List.length_append];omega
 have htx:∀ k,k≤t.length→(txQ t u k).length≤200 * k:=fun k=>by
  induction k with
  |zero=>simp [txQ]
  |succ k ih =>
   intro hk
   have:=ih (by omega)
   have:=hch k (by omega) _ (Nat.le_refl _)
   have:=(b1b ht (k:=k) (by omega)).2
   rw [txQ,List.length_append];omega
 refine a0b (ow:=fun _=>false) Tryz.func88 Tryz.ntmps88 rfl rfl fun G hG hOw hNm hB=>?_;simp only [go_sem,hG,hOw]
 (repeat' with_reducible first|refine And.intro ?_ ?_|intro _|refine exP ?_ ?_);all_goals try omega
 have z0:txQ t u 0=[]:=rfl
 refine a0m (fun k:Nat=>St.of [(2,.ptr 2 0),(3,.ptr 3 0),(5,.own 60 0 (txQ t u k).length 5),(10,chs 0 t),(11,i64 t.length),(12,i64 k)] [(2,.box [chs 0 t]),(3,.box [chs 0 u]),(60,.arr 148 5 ((txQ t u k).map rdE))]) (fun k=>k≤t.length) (fun k=>t.length - k) 0 (by simp) (a1g [(2,some 2),(3,some 3),(60,none)] (by (simp only [z0,List.map_nil,List.length_nil,go_sem])<;>simp [z0,List.map_nil,List.length_nil]) (by (simp only [z0,List.map_nil,List.length_nil,go_sem,a1k,a0r,a0i,a1p])<;>simp [z0,List.map_nil,List.length_nil]) (by simp [a2p,apart]) (by simp [a0k,usH]) (by simp [hNm,lkR,a0x])) ?_
 rintro k hk
 have hlenk:=htx k hk
 by_cases hkl:k < t.length
 ·have hlt:(k:Int) < t.length:=by omega
  have e1:cO t k=t[k]:=by simp [cO,List.getD,hkl]
  have hku:k < u.length:=by have:=hS.len;omega
  have e2:cO u k=u[k]:=by simp [cO,List.getD,hku]
  have hls:=hS.lns k hkl
  have hck:=hch k hkl
  have hlk:=fun n=>hln k n hkl
  have hb10:=(b1b ht hkl).2
  have hnx:txQ t u (k+1)=txQ t u k++chQ t u k (cO t k).lines.length:=rfl
  have hqd:∀ n,lnQ t u k n=lnQ t u k n:=fun _=>rfl
  have hR:∀ n,n < (cO t k).lines.length→a0n Tryz.prog 147 [a0p 0 (lnO (cO t k) n),a0p 0 (lnO (cO u k) n),.agg [i64 k,i64 n,i64 0]] (fun m=>rds m (lnQ t u k n)):=fun n hn=>by
   have a:=(a6z ht hkl hn).1
   have b:=(a6z hu (k:=k) (n:=n) hku (by omega)).1
   have h:=c5k (lnO (cO t k) n) (lnO (cO u k) n) (by omega) (by omega) k n
   rw [b9s _ _ _ _ _ _ _ (Nat.zero_le _) (Nat.zero_le _) (by omega)] at h
   exact h
  rw [e1] at hls hck hlk hb10 hnx hR
  rw [e2] at hls hR
  obtain ⟨P,hP⟩:∃ P,P=txQ t u k:=⟨_,rfl⟩
  rw [← hP] at hnx hlenk ⊢
  obtain ⟨ls,hls1⟩:∃ ls,ls=t[k].lines:=⟨_,rfl⟩
  obtain ⟨ms,hms1⟩:∃ ms,ms=u[k].lines:=⟨_,rfl⟩
  have hla:∀ n,(h:n < ls.length)→lnO t[k] n=ls[n]:=fun n h=>by subst hls1;simp [lnO,List.getD,h]
  have hlb:∀ n,(h:n < ms.length)→lnO u[k] n=ms[n]:=fun n h=>by subst hms1;simp [lnO,List.getD,h]
  rw [← hls1] at hls hck hlk hb10 hnx hR
  rw [← hms1] at hls
  refine a0d _ _ _ ?_
  simp (maxSteps:=2000000) only [go_sem,hG,hOw,hlt,← hls1]
  (repeat' with_reducible first|refine And.intro ?_ ?_|intro _|refine exP ?_ ?_);all_goals try omega
  have c0:P++chQ t u k 0=P:=by simp [chQ]
  refine a7k (fun _:Unit=>St.of [(2,.ptr 2 0),(3,.ptr 3 0),(5,.own 60 0 (P++chQ t u k ls.length).length 5),(10,chs 0 t),(11,i64 t.length),(12,i64 k)] [(2,.box [chs 0 t]),(3,.box [chs 0 u]),(60,.arr 148 5 ((P++chQ t u k ls.length).map rdE))]) (fun _=>True) ?_ ?_
  ·refine a0m (fun n:Nat=>St.of [(2,.ptr 2 0),(3,.ptr 3 0),(5,.own 60 0 (P++chQ t u k n).length 5),(6,i64 k),(7,.ptr 7 0),(10,chs 0 t),(11,i64 t.length),(12,i64 k),(19,i64 ls.length),(20,i64 n)] [(7,.box [i64 t[k].id,lns 0 ls]),(2,.box [chs 0 t]),(3,.box [chs 0 u]),(60,.arr 148 5 ((P++chQ t u k n).map rdE))]) (fun n=>n≤ls.length) (fun n=>ls.length - n) 0 (by simp) (a1g [(2,some 2),(3,some 3),(7,some 7),(60,some 60)] (by (simp only [c0,go_sem])<;>simp [c0]) (by (simp only [c0,go_sem,a1k,a0r,a0i,a1p])<;>simp [c0]) (by simp [a2p,apart]) (by simp [a0k,usH]) (by simp [hNm,lkR,a0x])) ?_
   rintro n hn
   have hcn:=hck n hn
   by_cases hnl:n < ls.length
   ·have hlt2:(n:Int) < ls.length:=by omega
    have hnm:n < ms.length:=by omega
    have hlt3:(n:Int) < ms.length:=by omega
    have hku2:(k:Int) < u.length:=by omega
    have hRn:=hR n hnl
    rw [hla n hnl,hlb n hnm] at hRn
    have hq:=hlk n hnl
    have hnx2:P++chQ t u k (n+1)=(P++chQ t u k n)++lnQ t u k n:=by rw [chQ,List.append_assoc]
    obtain ⟨q,hq1⟩:∃ q,q=P++chQ t u k n:=⟨_,rfl⟩
    obtain ⟨R,hR1⟩:∃ R,R=lnQ t u k n:=⟨_,rfl⟩
    have hql:q.length≤1400:=by rw [hq1,List.length_append];omega
    rw [← hR1] at hRn hq hnx2
    rw [← hq1] at hnx2 ⊢
    refine a0d _ _ _ ?_
    simp (maxSteps:=2000000) only [go_sem,hG,hOw,hlt2]
    (repeat' with_reducible first|refine And.intro ?_ ?_|intro _|refine exP ?_ ?_);all_goals try omega
    refine a0s mixed (by kernel_rfl) ?_
    simp (maxSteps:=2000000) only [go_sem,hG,hOw,hlt2,hlt3,hku2,← hms1]
    (repeat' with_reducible first|refine And.intro ?_ ?_|intro _|refine exP ?_ ?_);all_goals try omega
    refine ⟨_,a0e hRn,?_⟩
    simp only [go_sem,hG,hOw]
    (repeat' with_reducible first|refine And.intro ?_ ?_|intro _|refine exP ?_ ?_);all_goals try omega
    refine ⟨n+1,by omega,by omega,?_⟩
    rw [hnx2]
    have g1:(q++R).map rdE=q.map rdE++R.map rdE:=List.map_append
    have g2:(q++R).length=q.length+R.length:=List.length_append
    have g3:P.length+(chQ t u k (n+1)).length=q.length+R.length:=by rw [← List.length_append,hnx2,List.length_append]
    exact a2d [(2,some 2),(3,some 3),(7,some 7),(60,some 42)] (by (simp only [go_sem])<;>simp [g1,g2,g3]) (by (simp only [go_sem,a1k,a0r,a0i,a1p])<;>simp [g1,g2,g3])
   ·have hlt2:¬ (n:Int) < ls.length:=by omega
    obtain rfl:n=ls.length:=by omega
    refine a0d _ _ _ ?_
    simp (maxSteps:=2000000) only [go_sem,hG,hOw,hlt2]
    (repeat' with_reducible first|refine And.intro ?_ ?_|intro _|refine exP ?_ ?_);all_goals try omega
    exact ⟨(),a2d [(2,some 2),(3,some 3),(60,some 60)]⟩
  rintro ⟨⟩ -
  simp only [go_sem,hG,hOw]
  (repeat' with_reducible first|refine And.intro ?_ ?_|intro _|refine exP ?_ ?_);all_goals try omega
  refine ⟨k+1,by omega,by omega,?_⟩
  rw [hnx]
  exact a2d [(2,some 2),(3,some 3),(60,some 60)]
 ·have hlt:¬ (k:Int) < t.length:=by omega
  obtain rfl:k=t.length:=by omega
  refine a0d _ _ _ ?_
  simp (maxSteps:=2000000) only [go_sem,hG,hOw,hlt]
  try (repeat' with_reducible first|refine And.intro ?_ ?_|intro _|refine exP ?_ ?_);all_goals try omega
  all_goals try exact .refl _
open Go Pm
set_option maxHeartbeats 4000000
set_option maxRecDepth 100000
theorem f2h (n lo hi:Int):a0n Tryz.prog 130 [i64 n,.fp [i64 lo],.fp [i64 hi]] (fun _=>bl (decide (n < lo) || decide (hi < n))):=by
 refine a0b (ow:=fun _=>false) Tryz.func130 Tryz.ntmps130 rfl rfl fun G hG hOw hNm hB=>?_;simp only [go_sem,hG,hOw]
 (repeat' with_reducible first|refine And.intro ?_ ?_|intro _|refine exP ?_ ?_);all_goals try omega
 ·rename_i h;rw [decide_eq_false h];rfl
 ·rename_i h;rw [decide_eq_true h];rfl
theorem f8g (lo hi:Int) (l:List Int):a0n Tryz.prog 57 [i64 lo,i64 hi,.lst 0 1 (l.map b9l)] (fun _=>bl (l.all fun n=>decide (lo≤n) && decide (n≤hi))):=by
 refine a0b (ow:=fun _=>false) Tryz.func57 Tryz.ntmps57 rfl rfl fun G hG hOw hNm hB=>?_;simp only [go_sem,hG,hOw]
 refine a6n (fun i=>[3,4].contains i) ?_
 simp only [go_sem,hG,hOw]
 refine a0a (a3i _ [.fp [i64 lo],.fp [i64 hi]] (fun n=>decide (n < lo) || decide (hi < n)) l rfl (fun x _=>f2h x lo hi)) ?_
 simp only [go_sem,hG,hOw]
 rw [List.not_any_eq_all_not]
 congr 1
 funext n
 rw [Bool.eq_iff_iff];simp
theorem f3c (lo hi n:Int):a0n Tryz.prog 57 [i64 lo,i64 hi,.lst 0 1 [[i64 n]]] (fun _=>bl (decide (lo≤n) && decide (n≤hi))):=by
 have:=f8g lo hi [n]
 simpa [b9l] using this
theorem e8a (t:List Ch) (c:Cp) (ht:a1l t=true) (hc:a5e t c=true) (ho:OKR t c.rds) (hn:c.rds.length≤20):a0n Tryz.prog 24 [txE 0 t,cpE 0 c] (fun _=>.tup [txE 0 (a8d t c.rds),i64 0]):=by
 obtain ⟨R,hR⟩:∃ R,R=a8d t c.rds:=⟨_,rfl⟩
 have hL:=c8g t ht c ho hn
 rw [← hR] at hL ⊢
 refine a0b (ow:=fun _=>false) Tryz.func24 Tryz.ntmps24 rfl rfl fun G hG hOw hNm hB=>?_;simp only [go_sem,hG,hOw]
 refine a0a (b7v t c ht hc) ?_
 simp only [go_sem,hG,hOw]
 refine a0a hL ?_
 simp only [go_sem,hG,hOw]
theorem c3b (lo:Nat) (k:Int):Pm.Sub (.tup [.agg [i64 0,.v (.slice none 0 0)],i64 k]) (.tup [cpE lo d5j,i64 k]):=Subs.tup (.cons (Subs.agg (.cons (.refl _) (.cons (.nil _ _) .nil))) (.cons (.refl _) .nil))
def e6a (t u:List Ch) (id:Int):Cp×Int :=
 if t.length=u.length∧∀ k,k < t.length→shB (cO t k) (cO u k)=true then
  (if (txQ t u t.length).length≤20 then (⟨id,txQ t u t.length⟩,0) else (d5j,4))
 else (d5j,8)
theorem f2o (t u:List Ch) (id:Int) (ht:a1l t=true) (hu:a1l u=true) (h0:0≤id) (h1:id≤9999):a0n Tryz.prog 23 [txE 0 t,txE 0 u,i64 id] (fun n=>.tup [cpE n (e6a t u id).1,i64 (e6a t u id).2]):=by
 have hA:=d1l t u ht hu
 unfold e6a
 by_cases hs:t.length=u.length∧∀ k,k < t.length→shB (cO t k) (cO u k)=true
 ·rw [if_pos hs] at hA ⊢
  have hQ:=f2q t u ht hu (c7z hs)
  obtain ⟨Q,hQ1⟩:∃ Q,Q=txQ t u t.length:=⟨_,rfl⟩
  rw [← hQ1] at hQ ⊢
  have hI:=f3c 0 9999 id
  rw [decide_eq_true h0,decide_eq_true h1] at hI
  simp only [Bool.and_self] at hI
  refine a0b (ow:=fun _=>false) Tryz.func23 Tryz.ntmps23 rfl rfl fun G hG hOw hNm hB=>?_;simp only [go_sem,hG,hOw]
  refine a0a hA ?_
  simp only [go_sem,hG,hOw]
  refine a6n (fun i=>false) ?_
  refine a0a hI ?_
  simp only [go_sem,hG,hOw]
  refine a0a hQ ?_
  simp only [go_sem,hG,hOw]
  by_cases hn:Q.length≤20
  ·rw [if_pos hn]
   have hn':decide (20 < (Q.length:Int))=false:=decide_eq_false (by omega)
   simp (maxSteps:=2000000) only [go_sem,hG,hOw,hn']
   try (repeat' with_reducible first|refine And.intro ?_ ?_|intro _|refine exP ?_ ?_);all_goals try omega
   try exact .refl _
  ·rw [if_neg hn]
   have hn':decide (20 < (Q.length:Int))=true:=decide_eq_true (by omega)
   simp (maxSteps:=2000000) only [go_sem,hG,hOw,hn']
   try (repeat' with_reducible first|refine And.intro ?_ ?_|intro _|refine exP ?_ ?_);all_goals try omega
   exact c3b _ 4
 ·rw [if_neg hs] at hA ⊢
  refine a0b (ow:=fun _=>false) Tryz.func23 Tryz.ntmps23 rfl rfl fun G hG hOw hNm hB=>?_;simp only [go_sem,hG,hOw]
  refine a0a hA ?_
  simp only [go_sem,hG,hOw]
  (repeat' with_reducible first|refine And.intro ?_ ?_|intro _|refine exP ?_ ?_);all_goals try omega
  exact c3b _ 8
open Go Pm
set_option maxHeartbeats 4000000
set_option maxRecDepth 100000
theorem f9v (t u:List Ch) (c:Cp) (hok:OKt t) (hou:OKt u) (ht:a1l t=true) (hu:a1l u=true) (hcb:a5e t c=true) (hor:OKR t c.rds) (hrd:a8d t c.rds=u) (hn:c.rds.length≤20) {G:Gh} {lo:Nat} (hG:G.n=133) (hOw:G.ow=fun _=>false) (hNm:G.nm=[]) :
  SemL Tryz.prog G ((a5i (Tryz.f4.body.getD .skip)).drop 7) (St.of [(3,.ptr 3 0),(4,.ptr 4 0),(7,bl true),(8,.ptr 8 0)] [(3,.box [chs 0 t]),(4,.box [chs 0 u]),(8,.box (cpC 0 c))]) (a2f Tryz.prog lo [.tmp 6] (bl true)):=by
 obtain ⟨r1,r2⟩:=c2i ht hcb
 obtain ⟨B,cW,cR⟩:=e9p r1 (by omega)
 have hE:a5q t c=0:=by unfold a5q;rw [ht,hcb];rfl
 have cO:=c3i t c
 rw [hE,if_pos rfl] at cO
 have cT:=d7e t (a2o c)
 rw [d9x ht hcb] at cT
 have hlen:(a2o c).length=c.rds.length+1:=by simp [a2o]
 have hleni:((a2o c).length:Int)=(c.rds.length:Int)+1:=by omega
 obtain ⟨L,hL⟩:∃ L,L=a2o c:=⟨_,rfl⟩
 rw [← hL] at cW cR cO cT hlen hleni
 have cD:=e8a t c ht hcb hor hn
 rw [hrd] at cD
 refine a1d 7 _ _ ?_
 simp only [Tryz.f4,Option.getD_some,a2s,a1t,a2i,a1w,a2y,List.singleton_append,List.cons_append,List.nil_append,List.drop_succ_cons,List.drop_zero]
 simp only [go_sem,hG,hOw]
 refine a0a cO ?_
 simp only [go_sem,hG,hOw]
 refine a0a cW ?_
 simp only [go_sem,hG,hOw]
 refine a0a cR ?_
 simp only [go_sem,hG,hOw]
 refine a0a cT ?_
 simp only [go_sem,hG,hOw]
 refine a0a cD ?_
 simp only [go_sem,hG,hOw]
 refine a0a (e1u u u hou) ?_
 rw [decide_eq_true (rfl:u=u)]
 simp (maxSteps:=2000000) only [go_sem,hG,hOw,hleni]
 try (repeat' with_reducible first|refine And.intro ?_ ?_|intro _|refine exP ?_ ?_);all_goals try omega
theorem g2n (t u:List Ch) (d:Nat) (hok:OKt t) (hou:OKt u) (ht:a1l t=true) (hu:a1l u=true) (hd:d < 65536) {G:Gh} {lo:Nat} (hG:G.n=133) (hOw:G.ow=fun _=>false) (hNm:G.nm=[]) :
  SemL Tryz.prog G ((a5i (Tryz.f4.body.getD .skip)).drop 4) (St.of [(2,.v (.int .u16 d)),(3,.ptr 3 0),(4,.ptr 4 0),(7,bl true)] [(3,.box [chs 0 t]),(4,.box [chs 0 u])]) (a2f Tryz.prog lo [.tmp 6] (bl true)):=by
 have hm0:(0:Int)≤(d:Int) % 10000:=by omega
 have hm1:(d:Int) % 10000≤9999:=by omega
 have cF:=f2o t u ((d:Int) % 10000) ht hu hm0 hm1
 unfold e6a at cF
 by_cases hs:t.length=u.length∧∀ k,k < t.length→shB (cO t k) (cO u k)=true
 ·rw [if_pos hs] at cF
  by_cases hn:(txQ t u t.length).length≤20
  ·rw [if_pos hn] at cF
   have hS:=c7z hs
   have hcb:=e3m (id:=(d:Int) % 10000) ht hu hS ⟨hm0,hm1⟩ hn
   have hor:=c7i ht hu hS (by omega)
   have hrd:=e5a ht hu hS (by omega)
   obtain ⟨Q,hQ⟩:∃ Q,Q=txQ t u t.length:=⟨_,rfl⟩
   rw [← hQ] at cF hcb hor hrd hn
   obtain ⟨c,hc⟩:∃ c:Cp,c=⟨(d:Int) % 10000,Q⟩:=⟨_,rfl⟩
   have hor':OKR t c.rds:=by rw [hc];exact hor
   have hrd':a8d t c.rds=u:=by rw [hc];exact hrd
   have hn':c.rds.length≤20:=by rw [hc];exact hn
   rw [← hc] at cF hcb
   have hsub:Pm.Sub (V.lst G.lo 5 (List.map rdE c.rds)) (V.lst 0 5 (List.map rdE c.rds)):=Sub.lo (Nat.zero_le _)
   refine a1d 3 _ _ ?_
   simp only [Tryz.f4,Option.getD_some,a2s,a1t,a2i,a1w,a2y,List.singleton_append,List.cons_append,List.nil_append,List.drop_succ_cons,List.drop_zero]
   simp only [go_sem,hG,hOw]
   (repeat' with_reducible first|refine And.intro ?_ ?_|intro _|refine exP ?_ ?_);all_goals try omega
   refine a0a cF ?_
   simp only [go_sem,hG,hOw]
   try (repeat' with_reducible first|refine And.intro ?_ ?_|intro _|refine exP ?_ ?_);all_goals try omega
   refine a2x (s':=(St.of [(3,.ptr 3 0),(4,.ptr 4 0),(7,bl true),(8,.ptr 8 0)] [(3,.box [chs 0 t]),(4,.box [chs 0 u]),(8,.box (cpC 0 c))])) (a1g [(3,some 3),(4,some 4),(8,some 8)] (by (simp only [hsub,or_true,go_sem])<;>simp [hsub,or_true]) (by (simp only [hsub,or_true,go_sem,a1k,a0r,a0i,a1p])<;>simp [hsub,or_true]) (by simp [a2p,apart]) (by simp [a0k,usH]) (by simp [hNm,lkR,a0x])) ?_
   exact f9v t u c hok hou ht hu hcb hor' hrd' hn' hG hOw hNm
  ·rw [if_neg hn] at cF
   refine a1d 3 _ _ ?_
   simp only [Tryz.f4,Option.getD_some,a2s,a1t,a2i,a1w,a2y,List.singleton_append,List.cons_append,List.nil_append,List.drop_succ_cons,List.drop_zero]
   simp only [go_sem,hG,hOw]
   (repeat' with_reducible first|refine And.intro ?_ ?_|intro _|refine exP ?_ ?_);all_goals try omega
   refine a0a cF ?_
   simp only [go_sem,hG,hOw]
   try (repeat' with_reducible first|refine And.intro ?_ ?_|intro _|refine exP ?_ ?_);all_goals try omega
 ·rw [if_neg hs] at cF
  refine a1d 3 _ _ ?_
  simp only [Tryz.f4,Option.getD_some,a2s,a1t,a2i,a1w,a2y,List.singleton_append,List.cons_append,List.nil_append,List.drop_succ_cons,List.drop_zero]
  simp only [go_sem,hG,hOw]
  (repeat' with_reducible first|refine And.intro ?_ ?_|intro _|refine exP ?_ ?_);all_goals try omega
  refine a0a cF ?_
  simp only [go_sem,hG,hOw]
  try (repeat' with_reducible first|refine And.intro ?_ ?_|intro _|refine exP ?_ ?_);all_goals try omega
theorem b6q (t u:List Ch) (d:Nat) (hd:d < 65536):a0n Tryz.prog 4 [txE 0 t,txE 0 u,.v (.int .u16 d)] (fun _=>bl true):=by
 refine b5u (fun _=>false) Tryz.func4 Tryz.ntmps4 rfl (by kernel_rfl) (by simp) rfl (by decide) fun G hG hOw hNm hZ hB=>?_
 refine a1d 4 _ _ ?_
 simp only [go_sem,hG,hOw]
 refine a0a e8g ?_
 simp only [go_sem,hG,hOw]
 refine a0a (b8g t) ?_
 cases hT:a9t t with
 |true =>
  simp (maxSteps:=2000000) only [go_sem,hG,hOw,hT]
  try (repeat' with_reducible first|refine And.intro ?_ ?_|intro _|refine exP ?_ ?_);all_goals try omega
 |false =>
 have hok:=c3m hT
 simp (maxSteps:=2000000) only [go_sem,hG,hOw,hT]
 try (repeat' with_reducible first|refine And.intro ?_ ?_|intro _|refine exP ?_ ?_);all_goals try omega
 refine a0a (b8g u) ?_
 cases hU:a9t u with
 |true =>
  simp (maxSteps:=2000000) only [go_sem,hG,hOw,hU]
  try (repeat' with_reducible first|refine And.intro ?_ ?_|intro _|refine exP ?_ ?_);all_goals try omega
 |false =>
 have hou:=c3m hU
 simp (maxSteps:=2000000) only [go_sem,hG,hOw,hU]
 try (repeat' with_reducible first|refine And.intro ?_ ?_|intro _|refine exP ?_ ?_);all_goals try omega
 refine a0a (d8n t hok) ?_
 cases ht:a1l t with
 |false =>
  simp (maxSteps:=2000000) only [go_sem,hG,hOw,ht]
  try (repeat' with_reducible first|refine And.intro ?_ ?_|intro _|refine exP ?_ ?_);all_goals try omega
 |true =>
 simp (maxSteps:=2000000) only [go_sem,hG,hOw,ht]
 try (repeat' with_reducible first|refine And.intro ?_ ?_|intro _|refine exP ?_ ?_);all_goals try omega
 refine a0a (d8n u hou) ?_
 cases hu:a1l u with
 |false =>
  simp (maxSteps:=2000000) only [go_sem,hG,hOw,hu]
  try (repeat' with_reducible first|refine And.intro ?_ ?_|intro _|refine exP ?_ ?_);all_goals try omega
 |true =>
 simp (maxSteps:=2000000) only [go_sem,hG,hOw,hu]
 try (repeat' with_reducible first|refine And.intro ?_ ?_|intro _|refine exP ?_ ?_);all_goals try omega
 refine a2x (s':=(St.of [(2,.v (.int .u16 d)),(3,.ptr 3 0),(4,.ptr 4 0),(7,bl true)] [(3,.box [chs 0 t]),(4,.box [chs 0 u])])) (a2d [(3,some 3),(4,some 4)]) ?_
 exact g2n t u d hok hou ht hu hd hG hOw hNm
end Go.Proofs.YtmjhfccbbfpppaaGreatDoor
