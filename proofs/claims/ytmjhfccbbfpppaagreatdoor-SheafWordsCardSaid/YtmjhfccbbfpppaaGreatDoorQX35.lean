import Derived.Test.YtmjhfccbbfpppaaGreatDoorQX32
import Derived.Test.YtmjhfccbbfpppaaGreatDoorQX33
namespace Go.Proofs.YtmjhfccbbfpppaaGreatDoor
open Go Pm
set_option linter.unusedSimpArgs false
set_option linter.unusedVariables false
set_option maxHeartbeats 4000000
set_option maxRecDepth 100000
structure FM where
 m:List (Value×V)
 h:∀ q ∈ m,∃ lo l,q.2=.lst lo 5 l
theorem FM.frz (A:FM) (p:Nat→Bool) (lo:Nat) (s:St):(A.m.map fun q=>(q.1,vwF p lo s 4 q.2))=A.m:=by
 conv=>rhs;rw [← List.map_id A.m]
 refine List.map_congr_left fun q hq=>?_
 obtain ⟨lo',l,h⟩:=A.h q hq
 obtain ⟨q1,q2⟩:=q
 simp only at h
 subst h
 rfl
theorem FM.frz2 (A:FM) (p:Nat→Bool) (lo:Nat) (s:St) (R:List (Value×V)):((A.m++R).map fun q=>(q.1,vwF p lo s 4 q.2))=A.m++R.map fun q=>(q.1,vwF p lo s 4 q.2):=by
 rw [List.map_append,A.frz]
theorem FM.frz3 (A:FM) (p:Nat→Bool) (lo:Nat) (s:St) (R R':List (Value×V)):((A.m++R++R').map fun q=>(q.1,vwF p lo s 4 q.2))=A.m++(R.map fun q=>(q.1,vwF p lo s 4 q.2))++R'.map fun q=>(q.1,vwF p lo s 4 q.2):=by
 rw [List.map_append,List.map_append,A.frz]
theorem FM.ren (A:FM) (ρ:Ren):(A.m.map fun q=>(q.1,b5f ρ 4 q.2))=A.m:=by
 conv=>rhs;rw [← List.map_id A.m]
 refine List.map_congr_left fun q hq=>?_
 obtain ⟨lo',l,h⟩:=A.h q hq
 obtain ⟨q1,q2⟩:=q
 simp only at h
 subst h
 rfl
theorem FM.ok1 (ρ:Ren):∀ (m:List (Value×V)),(∀ q ∈ m,∃ lo l,q.2=.lst lo 5 l)→okL (okN ρ 4) (m.map (·.2)) (m.map (·.2))
 |[],_=>trivial
 |q::m,h=>by
  refine ⟨?_,FM.ok1 ρ m fun x hx=>h x (by simp [hx])⟩
  obtain ⟨lo,l,e⟩:=h q (by simp)
  show okN ρ 4 q.2 q.2
  rw [e]
  exact .inl rfl
theorem FM.r1 (A:FM) (ρ:Ren):okL (okN ρ 4) (A.m.map (·.2)) (A.m.map (·.2))=True:=eq_true (FM.ok1 ρ A.m A.h)
theorem FM.r2' (ρ:Ren) (R R':List V):∀ (m:List (Value×V)),(∀ q ∈ m,∃ lo l,q.2=.lst lo 5 l)→okL (okN ρ 4) (m.map (·.2)++R) (m.map (·.2)++R')=okL (okN ρ 4) R R'
 |[],_=>rfl
 |q::m,h=>by
  have ih:=FM.r2' ρ R R' m fun x hx=>h x (by simp [hx])
  obtain ⟨lo,l,e⟩:=h q (by simp)
  have h1:okN ρ 4 q.2 q.2:=by rw [e];exact .inl rfl
  show (okN ρ 4 q.2 q.2∧okL (okN ρ 4) (m.map (·.2)++R) (m.map (·.2)++R'))=_
  rw [ih]
  exact propext ⟨fun h=>h.2,fun h=>⟨h1,h⟩⟩
theorem FM.r2 (A:FM) (ρ:Ren) (R R':List (Value×V)):okL (okN ρ 4) ((A.m++R).map (·.2)) ((A.m++R').map (·.2))=okL (okN ρ 4) (R.map (·.2)) (R'.map (·.2)):=by
 rw [List.map_append,List.map_append]
 exact FM.r2' ρ _ _ A.m A.h
theorem FM.r3 (A:FM) (ρ:Ren) (R R' S S':List (Value×V)):okL (okN ρ 4) ((A.m++R++S).map (·.2)) ((A.m++R'++S').map (·.2))=okL (okN ρ 4) ((R++S).map (·.2)) ((R'++S').map (·.2)):=by
 rw [List.append_assoc,List.append_assoc]
 exact A.r2 ρ _ _
attribute [go_sem ↓] FM.frz FM.frz2 FM.frz3 FM.ren FM.r1 FM.r2 FM.r3
theorem c4d (A:List (Value×V)) (x:Value×V) (v:V):f5f (A++[x]) A.length v=A++[(x.1,v)]:=by
 unfold f5f
 simp
def c2a (a b c:Int):Value:=.agg #[.int .i64 a,.int .i64 b,.int .i64 c]
def b0i (r:Rd):Value:=c2a r.ch r.ln r.wd
def kdP:KD:=.agg [.int .i64,.int .i64,.int .i64]
theorem c3v (a b c:Int):a8h kdP (c2a a b c)=true:=rfl
theorem f1y (a b c a' b' c':Int):b4a (c2a a b c) (c2a a' b' c')=true↔a=a'∧b=b'∧c=c':=by
 rw [b1h (a3x (c3v a b c)) (a3x (c3v a' b' c'))]
 unfold c2a
 simp
theorem b4r (a b:Rd):b0i a=b0i b↔a5x a b=true:=by
 unfold b0i c2a a5x
 simp [and_assoc]
theorem d9t (k:Value) (d:KD) (hk:a8h d k=true):∀ (m:List (Value×V)) (q:Value×V),q ∈ m→q.1=k→lkM m k≠none
 |[],q,h,_=>by cases h
 |p::m,q,h,e=>by
  unfold lkM
  split
  ·simp
  ·rename_i hne
   rcases List.mem_cons.1 h with rfl|h
   ·exact absurd ((b1h (a3x (e ▸ hk)) (a3x hk)).2 e) hne
   ·exact d9t k d hk m q h e
def d0z (lo:Nat) (rs:List Rd) (p:Rd):Value×V:=(b0i p,.lst lo 5 ((rs.filter (a5x p)).map rdE))
theorem d0t (lo:Nat) (rs ps:List Rd):∀ q ∈ ps.map (d0z lo rs),∃ lo l,q.2=.lst lo 5 l:=fun q hq=>by
 obtain ⟨p,_,rfl⟩:=List.mem_map.1 hq
 exact ⟨_,_,rfl⟩
theorem d0i (lo:Nat) (rs:List Rd) (k n w:Int):∀ ps:List Rd,lkM (ps.map (d0z lo rs)) (c2a k n w)=match ps.find? (atW k n w) with
  |some p=>some (.lst lo 5 ((rs.filter (a5x p)).map rdE))
  |none=>none
 |[]=>rfl
 |p::ps=>by
  rw [List.map_cons,lkM,List.find?_cons]
  have h:=f1y p.ch p.ln p.wd k n w
  have hk:(d0z lo rs p).1=c2a p.ch p.ln p.wd:=rfl
  rw [hk]
  cases ha:atW k n w p with
  |true =>
   simp only [atW,Bool.and_eq_true,decide_eq_true_eq] at ha
   rw [if_pos (h.2 ⟨ha.1.1,ha.1.2,ha.2⟩)]
   rfl
  |false =>
   have:¬ b4a (c2a p.ch p.ln p.wd) (c2a k n w)=true:=fun e=>by
    obtain ⟨h1,h2,h3⟩:=h.1 e
    simp [atW,h1,h2,h3] at ha
   rw [if_neg this]
   exact d0i lo rs k n w ps
def f4f (lo:Nat) (l:List Rd):Option V:=if l=[] then none else some (.lst lo 5 (l.map rdE))
theorem f0y {t:List Ch} {rs:List Rd} (h:OKR t rs) (lo:Nat) (k n w:Int):lkM ((b9t rs).map (d0z lo rs)) (c2a k n w)=f4f lo (rs.filter (atW k n w)):=by
 have hR:=c9v h rs.length (Nat.le_refl _)
 rw [List.take_length] at hR
 rw [d0i]
 unfold f4f
 cases hf:(b9t rs).find? (atW k n w) with
 |some p =>
  have hp:=List.find?_some hf
  have hm:=hR.mem p (List.mem_of_find?_eq_some hf)
  have e:rs.filter (a5x p)=rs.filter (atW k n w):=List.filter_congr fun r hr=>by
   simp only [atW,Bool.and_eq_true,decide_eq_true_eq] at hp
   unfold a5x atW
   rw [hp.1.1,hp.1.2,hp.2]
   rw [Bool.eq_iff_iff]
   simp only [Bool.and_eq_true,decide_eq_true_eq]
   constructor<;>rintro ⟨⟨h1,h2⟩,h3⟩<;>exact ⟨⟨h1.symm,h2.symm⟩,h3.symm⟩
  show some (V.lst lo 5 (List.map rdE (List.filter (a5x p) rs)))=_
  rw [e,if_neg]
  intro h0
  have:p ∈ rs.filter (atW k n w):=List.mem_filter.2 ⟨hm,hp⟩
  rw [h0] at this
  cases this
 |none =>
  rw [if_pos]
  refine List.filter_eq_nil_iff.2 fun r hr hat=>?_
  obtain ⟨p,hp,hn⟩:=hR.all r hr
  have hs:=(b1r (h.i p (hR.mem p hp)).1 (h.i r hr).1).2 hn
  have:=List.find?_eq_none.1 hf p hp
  apply this
  simp only [a5x,atW,Bool.and_eq_true,decide_eq_true_eq] at hs hat ⊢
  rw [hs.1.1,hs.1.2,hs.2]
  exact hat
open Go Pm
set_option maxHeartbeats 4000000
set_option maxRecDepth 100000
def e9l (lo:Nat) (rs:List Rd) (A:FM) (l:Option (Value×List Rd)):Prop:=match l with
 |none=>rs=[]∧A.m=[]
 |some (kp,g)=>∃ ps p,b9t rs=ps++[p]∧kp=b0i p∧A.m=ps.map (d0z lo rs)∧g=rs.filter (a5x p)
def tlM:Option (Value×List Rd)→List (Value×V)
 |none=>[]
 |some (kp,g)=>[(kp,.own 500 0 g.length 5)]
def tlG:Option (Value×List Rd)→List Rd
 |none=>[]
 |some (_,g)=>g
theorem e6d:tlM none=[]:=rfl
theorem e7t (kp:Value) (g:List Rd):tlM (some (kp,g))=[(kp,.own 500 0 g.length 5)]:=rfl
theorem e8d:tlG none=[]:=rfl
theorem e8e (kp:Value) (g:List Rd):tlG (some (kp,g))=g:=rfl
attribute [go_sem] e6d e7t e8d e8e
theorem d6s {m:List (Value×V)} {x p:Value×V} {k:Value} {j:Nat} (h:(m++[x])[j]? = some p) (hp:p.1=k) (hk:∀ q ∈ m,q.1≠k):j=m.length∧p=x:=by
 by_cases hj:j < m.length
 ·rw [List.getElem?_append_left hj] at h
  exact absurd hp (hk p (List.mem_of_getElem? h))
 ·rw [List.getElem?_append_right (by omega)] at h
  have:j - m.length=0:=by
   have:=(List.getElem?_eq_some_iff.1 h).1
   simp at this
   omega
  rw [this] at h
  exact ⟨by omega,by simpa using h.symm⟩
theorem d4h (lo:Nat) (r:Rd):e9l lo [r] ⟨[],by simp⟩ (some (b0i r,[r])) :=
 ⟨[],r,rfl,rfl,rfl,by simp [a5x]⟩
theorem d8c {t:List Ch} {rs:List Rd} (h:OKR t rs) (k:Nat) (hk:k < rs.length) (ps:List Rd) (p:Rd) (hr:b9t (rs.take k)=ps++[p]) :
  InP p∧(∀ q ∈ ps,InP q∧nP q < nP p)∧nP p≤nP rs[k]:=by
 have ih:=c9v h k (by omega)
 have hpi:∀ q ∈ b9t (rs.take k),InP q:=fun q hq=>(h.i q (List.mem_of_mem_take (ih.mem q hq))).1
 rw [hr] at hpi
 have hlt:=ih.lt
 rw [hr] at hlt
 refine ⟨hpi p (by simp),fun q hq=>⟨hpi q (by simp [hq]),(List.pairwise_append.1 hlt).2.2 q hq p (by simp)⟩,?_⟩
 have hm:p ∈ rs.take k:=ih.mem p (by rw [hr];simp)
 obtain ⟨i,hi,rfl⟩:=List.mem_iff_getElem.1 hm
 simp at hi
 have:=List.pairwise_iff_getElem.1 h.s i k (by omega) hk (by omega)
 rw [List.getElem_take]
 rcases this with h|h<;>omega
theorem c3x (lo:Nat) (rs:List Rd) (r:Rd) (ps:List Rd) (h:∀ q ∈ ps,a5x q r=false):ps.map (d0z lo (rs++[r]))=ps.map (d0z lo rs) :=
 List.map_congr_left fun q hq=>by simp [d0z,h q hq]
theorem e0c {t:List Ch} {rs:List Rd} (h:OKR t rs) {lo k:Nat} (hk:k < rs.length) {A:FM} {kp:Value} {g:List Rd} (hI:e9l lo (rs.take k) A (some (kp,g))) (hs:kp=b0i rs[k]) :
  e9l lo (rs.take (k+1)) A (some (b0i rs[k],g++[rs[k]]))∧∀ q ∈ A.m,q.1≠b0i rs[k]:=by
 obtain ⟨ps,p,h1,h2,h3,h4⟩:=hI
 obtain ⟨g1,g2,g3⟩:=d8c h k hk ps p h1
 have hkI:=(h.i _ (List.getElem_mem hk)).1
 have e:rs.take (k+1)=rs.take k++[rs[k]]:=by rw [List.take_add_one,List.getElem?_eq_getElem hk];rfl
 have hsp:a5x p rs[k]=true:=(b4r _ _).1 (h2.symm.trans hs)
 have hn:=(b1r g1 hkI).1 hsp
 have hno:∀ q ∈ ps,a5x q rs[k]=false:=fun q hq=>by
  cases hq':a5x q rs[k] with
  |false=>rfl
  |true =>
   exfalso
   have:=(b1r (g2 q hq).1 hkI).1 hq'
   have:=(g2 q hq).2
   omega
 refine ⟨⟨ps,p,?_,by rw [← hs,h2],?_,?_⟩,fun q hq e=>?_⟩
 ·rw [e,b5v,h1]
  unfold f6n
  rw [List.getLast?_concat]
  simp only
  rw [if_pos hsp]
 ·rw [e,c3x lo _ _ ps hno];exact h3
 ·rw [e,List.filter_append,h4];simp [hsp]
 ·rw [h3] at hq
  obtain ⟨x,hx,rfl⟩:=List.mem_map.1 hq
  have:=(b4r x rs[k]).1 e
  rw [hno x hx] at this;cases this
theorem c9w {t:List Ch} {rs:List Rd} (h:OKR t rs) {lo k:Nat} (hk:k < rs.length) {A:FM} {kp:Value} {g:List Rd} (hI:e9l lo (rs.take k) A (some (kp,g))) (hs:¬ kp=b0i rs[k]) :
  (∃ B:FM,B.m=A.m++[(kp,.lst lo 5 (g.map rdE))]∧e9l lo (rs.take (k+1)) B (some (b0i rs[k],[rs[k]])))∧∀ q ∈ A.m,q.1≠b0i rs[k]:=by
 obtain ⟨ps,p,h1,h2,h3,h4⟩:=hI
 obtain ⟨g1,g2,g3⟩:=d8c h k hk ps p h1
 have hkI:=(h.i _ (List.getElem_mem hk)).1
 have e:rs.take (k+1)=rs.take k++[rs[k]]:=by rw [List.take_add_one,List.getElem?_eq_getElem hk];rfl
 have hsp:¬ a5x p rs[k]=true:=fun e=>hs (h2.trans ((b4r _ _).2 e))
 have hn:¬ nP p=nP rs[k]:=fun e=>hsp ((b1r g1 hkI).2 e)
 have hlt:∀ q ∈ ps++[p],nP q < nP rs[k]∧InP q:=fun q hq=>by
  rcases List.mem_append.1 hq with hq|hq
  ·have:=g2 q hq;exact ⟨by omega,this.1⟩
  ·simp at hq;subst hq;exact ⟨by omega,g1⟩
 have hno:∀ q ∈ ps++[p],a5x q rs[k]=false:=fun q hq=>by
  cases hq':a5x q rs[k] with
  |false=>rfl
  |true =>
   exfalso
   have:=(b1r (hlt q hq).2 hkI).1 hq'
   have:=(hlt q hq).1
   omega
 have hB:A.m++[(kp,V.lst lo 5 (g.map rdE))]=(ps++[p]).map (d0z lo (rs.take (k+1))):=by
  rw [e,c3x lo _ _ (ps++[p]) hno,List.map_append,h3]
  congr 1
  simp [d0z,h2,h4]
 refine ⟨⟨⟨A.m++[(kp,V.lst lo 5 (g.map rdE))],by rw [hB];exact d0t lo _ _⟩,rfl,ps++[p],rs[k],?_,rfl,hB,?_⟩,fun q hq e=>?_⟩
 ·rw [e,b5v,h1]
  unfold f6n
  rw [List.getLast?_concat]
  simp only
  rw [if_neg hsp]
 ·rw [e,List.filter_append]
  have hnil:(rs.take k).filter (a5x rs[k])=[]:=List.filter_eq_nil_iff.2 fun r hr hs=>by
   have ih:=c9v h k (by omega)
   have hri:=(h.i r (List.mem_of_mem_take hr)).1
   have h5:=(b1r hkI hri).1 hs
   have h6:=ih.top p r (by rw [h1];simp) hr
   omega
  rw [hnil]
  simp [a5x]
 ·rw [h3] at hq
  obtain ⟨x,hx,rfl⟩:=List.mem_map.1 hq
  have:=(b4r x rs[k]).1 e
  rw [hno x (by simp [hx])] at this;cases this
theorem e6s {rs:List Rd} {lo:Nat} {A:FM} {l:Option (Value×List Rd)} (hI:e9l lo rs A l):∃ B:FM,B.m=(b9t rs).map (d0z lo rs)∧B.m=A.m++(match l with
  |none=>[]
  |some (kp,g)=>[(kp,V.lst lo 5 (g.map rdE))]):=by
 refine ⟨⟨(b9t rs).map (d0z lo rs),d0t lo _ _⟩,rfl,?_⟩
 cases l with
 |none=>obtain ⟨rfl,h⟩:=hI;simp [h,b9t]
 |some q =>
  obtain ⟨kp,g⟩:=q
  obtain ⟨ps,p,h1,h2,h3,h4⟩:=hI
  simp only
  rw [h1,List.map_append,h3,h2,h4]
  rfl
open Go Pm
set_option maxHeartbeats 4000000
set_option maxRecDepth 100000
def e0g (t:List Ch) (rs:List Rd) (k:Nat) (c:Ch):Ch:=⟨c.id,(List.range c.lines.length).map fun (n:Nat)=>e0d rs k n (c.lines.getD n [])⟩
def c0c (t:List Ch) (rs:List Rd):List Ch:=(List.range t.length).map fun k=>e0g t rs k (t.getD k ⟨0,[]⟩)
def wF (rs:List Rd) (k n:Int) (l:List ByteArray) (w:Nat):List ByteArray:=(List.range w).flatMap (b0e rs k n l)
def lF (rs:List Rd) (k:Nat) (c:Ch) (j:Nat):List (List ByteArray):=(List.range j).map fun (n:Nat)=>e0d rs k n (c.lines.getD n [])
def cF (t:List Ch) (rs:List Rd) (k:Nat):List Ch:=(List.range k).map fun k=>e0g t rs k (t.getD k ⟨0,[]⟩)
def chG (lo:Nat) (c:Ch):List V:=[i64 c.id,.lst lo 1 (c.lines.map (lnE 0))]
theorem c6z (rs:List Rd) (k n:Int) (l:List ByteArray) (w:Nat):wF rs k n l (w+1)=wF rs k n l w++b0e rs k n l w:=by
 unfold wF;rw [List.range_succ,List.flatMap_append];simp
theorem f3v (rs:List Rd) (k:Nat) (c:Ch) (j:Nat) (hj:j < c.lines.length):lF rs k c (j+1)=lF rs k c j++[(wF rs k j c.lines[j] (c.lines[j].length+1)).filter neB]:=by
 unfold lF;rw [List.range_succ,List.map_append];simp [e0d,wF,hj]
theorem f4q (t:List Ch) (rs:List Rd) (k:Nat) (hk:k < t.length):cF t rs (k+1)=cF t rs k++[⟨t[k].id,lF rs k t[k] t[k].lines.length⟩]:=by
 unfold cF;rw [List.range_succ,List.map_append];simp [e0g,lF,hk]
theorem f4l (rs:List Rd) (k n:Int) (l:List ByteArray):wF rs k n l 0=[]:=rfl
theorem f4j (rs:List Rd) (k:Nat) (c:Ch):lF rs k c 0=[]:=rfl
theorem f3l (t:List Ch) (rs:List Rd):cF t rs 0=[]:=rfl
attribute [go_sem] f4l f4j f3l
def pF (F:List Rd) (o:ByteArray) (i:Nat):List ByteArray:=(F.take i).foldl a8o [o]
theorem c0s (F:List Rd) (o:ByteArray):pF F o 0=[o]:=rfl
theorem d6q (F:List Rd) (o:ByteArray) (i:Nat) (hi:i < F.length):pF F o (i+1)=a8o (pF F o i) F[i]:=by
 unfold pF
 rw [List.take_add_one,List.getElem?_eq_getElem hi,List.foldl_append]
 rfl
theorem f0c (F:List Rd) (o:ByteArray) (hs:F.Pairwise fun a b=>(a.kind.toNat:Int)=2):∀ i,i < F.length→∃ ws,pF F o i=ws++[o]
 |0,_=>⟨[],rfl⟩
 |i+1,hi=>by
  obtain ⟨ws,h⟩:=f0c F o hs i (by omega)
  have hk:((F[i]'(by omega)).kind.toNat:Int)=2:=List.pairwise_iff_getElem.1 hs i (i+1) (by omega) hi (by omega)
  rw [d6q F o i (by omega),h]
  refine ⟨ws++[(F[i]'(by omega)).word],?_⟩
  unfold a8o b1n
  rw [hk]
  simp
theorem f8t {t:List Ch} {rs:List Rd} (h:OKR t rs) (k n w:Int):(rs.filter (atW k n w)).Pairwise fun a b=>(a.kind.toNat:Int)=2:=by
 have h1:=h.s.sublist (List.filter_sublist (p:=atW k n w))
 refine List.Pairwise.imp_of_mem (fun {a b} ha hb hab=>?_) h1
 have e:=g3h (List.mem_filter.1 ha).2 (List.mem_filter.1 hb).2
 rcases hab with h|h
 ·omega
 ·exact h.2
theorem e9i (rs:List Rd) (k:Nat) (c:Ch) (j:Nat):(lF rs k c j).length=j:=by simp [lF]
theorem e9v (t:List Ch) (rs:List Rd) (k:Nat):(cF t rs k).length=k:=by simp [cF]
theorem c4t (rs:List Rd):∀ s:List ByteArray,(rs.foldl a8o s).length≤s.length+2 * rs.length:=by
 induction rs with
 |nil=>intro s;simp
 |cons r rs ih =>
  intro s
  rw [List.foldl_cons]
  have h1:=ih (a8o s r)
  have h2:(a8o s r).length≤s.length+2:=by
   unfold a8o b1n
   rw [List.length_append,List.length_take]
   split
   ·simp only [List.length_cons,List.length_nil];omega
   ·split<;>simp only [List.length_cons,List.length_nil]<;>omega
  simp
  omega
theorem c2c (rs:List Rd) (k n:Int) (l:List ByteArray) (w:Nat):(b0e rs k n l w).length≤1+2 * rs.length:=by
 unfold b0e
 have h1:=c4t (rs.filter (atW k n w)) [a6w l w]
 have h2:=List.length_filter_le (atW k n w) rs
 simp at h1
 omega
theorem e3q (rs:List Rd) (k n:Int) (l:List ByteArray) (hn:rs.length≤20):∀ w,(wF rs k n l w).length≤w * 41
 |0=>by simp [wF]
 |w+1=>by
  rw [c6z,List.length_append]
  have h1:=e3q rs k n l hn w
  have h2:=c2c rs k n l w
  omega
theorem e8u (t:List Ch) (c:Cp) (hc:OKR t c.rds) (hn:c.rds.length≤20) {G:Gh} {Q:Exit→St→Prop} (hG:G.n=121) (hOw:G.ow=fun i=>[69].contains i) (hNm:G.nm=[]) :
  SemC Tryz.prog G (a9x 0 Tryz.f90.body) (St.of [(0,.fp [chs 0 t]),(4,.ptr 4 0),(5,.mp 20),(22,rds 0 c.rds),(23,i64 c.rds.length),(24,i64 0)] [(4,.box [.v (.slice none 0 0)]),(20,.map kdP [])])
   (c6a G 0 (fun M:FM=>St.of [(0,.fp [chs 0 t]),(4,.ptr 4 0),(5,.mp 20)] [(4,.box [.v (.slice none 0 0)]),(20,.map kdP M.m)]) (fun M=>M.m=(b9t c.rds).map (d0z G.lo c.rds)) Q):=by
 unfold Tryz.f90
 simp only [c6d,a9x,rgO,bkO,a4k,Option.bind_some,Option.getD_some,reduceIte,Nat.reduceEqDiff,reduceCtorEq]
 have e0:((⟨[],by simp⟩:FM).m++tlM none)=[]:=rfl
 refine a0l (fun q:Nat×FM×Option (Value×List Rd)=>St.of [(0,.fp [chs 0 t]),(4,.ptr 4 0),(5,.mp 20),(22,rds 0 c.rds),(23,i64 c.rds.length),(24,i64 q.1)] [(4,.box [.v (.slice none 0 0)]),(20,.map kdP (q.2.1.m++tlM q.2.2)),(500,.arr 148 5 ((tlG q.2.2).map rdE))]) (fun q=>q.1≤c.rds.length∧e9l G.lo (c.rds.take q.1) q.2.1 q.2.2) (fun q=>c.rds.length - q.1) (0,⟨[],by simp⟩,none) ⟨Nat.zero_le _,rfl,rfl⟩ (a0y [(4,some 4),(20,some 20),(500,none)] (by (simp only [e0,kdP,go_sem])<;>simp [e0,kdP]) (by (simp only [e0,kdP,go_sem,a1f,a0q,a0f,a1l])<;>simp [e0,kdP]) (by simp [a2l,apart]) (by simp [a0h,usH]) (by simp [hNm,lkR,a0w])) ?_
 rintro ⟨k,A,l⟩ ⟨hk,hI⟩
 simp only at hk hI
 cases l with
 |none =>
  obtain ⟨h1,h2⟩:=hI
  have hk0:k=0:=by
   rcases List.take_eq_nil_iff.1 h1 with h|h
   ·exact h
   ·rw [h] at hk;simp at hk;exact hk
  subst hk0
  have h2':A.m++[]=[]:=by rw [h2];rfl
  refine a0e _ _ _ ?_
  simp (maxSteps:=2000000) only [go_sem,hG,hOw,h2']
  (repeat' with_reducible first|refine And.intro ?_ ?_|intro _|refine exP ?_ ?_);all_goals try omega
  ·rename_i hlt
   have hkl:0 < c.rds.length:=by omega
   refine b1s (d:=34) (id:=20) (kd:=kdP) (z:=.v (.slice none 0 0)) (kv:=b0i c.rds[0]) (m:=[]) rfl (by simp [go_sem]) (by simp [go_sem,b0i,c2a]) b5d (by simp [go_sem]) (c3v _ _ _) rfl (by rw [hG];decide) ?_ (fun j p hj=>by simp at hj)
   intro _ bo
   simp only [go_sem,hG,hOw]
   (repeat' with_reducible first|refine And.intro ?_ ?_|intro _|refine exP ?_ ?_);all_goals try omega
   refine a6m (id:=20) (j:=0) (bo:=bo) (kd:=kdP) (m:=[(b0i c.rds[0],.v (.slice none 0 0))]) rfl rfl (by simp [go_sem]) (by simp [go_sem]) (by simp [go_sem]) ?_
   have es:∀ v:V,f5f [(b0i c.rds[0],V.v (.slice none 0 0))] 0 v=[(b0i c.rds[0],v)]:=fun _=>rfl
   have hI1:e9l G.lo (c.rds.take (0+1)) ⟨[],by simp⟩ (some (b0i c.rds[0],[c.rds[0]])):=by
    rw [List.take_add_one,List.getElem?_eq_getElem hkl]
    exact d4h G.lo c.rds[0]
   have e1:((⟨[],by simp⟩:FM).m++tlM (some (b0i c.rds[0],[c.rds[0]])))=[(b0i c.rds[0],.own 500 0 1 5)]:=rfl
   simp (maxSteps:=2000000) only [go_sem,hG,hOw,es]
   (repeat' with_reducible first|refine And.intro ?_ ?_|intro _|refine exP ?_ ?_);all_goals try omega
   refine ⟨(0+1,⟨[],by simp⟩,some (b0i c.rds[0],[c.rds[0]])),⟨by show 0+1≤_;omega,hI1⟩,by show c.rds.length - (0+1) < c.rds.length - 0;omega,a0y [(4,some 4),(20,some 20),(500,some 35)] (by (simp only [e1,kdP,go_sem])<;>simp [e1,kdP]) (by (simp only [e1,kdP,go_sem,a1f,a0q,a0f,a1l])<;>simp [e1,kdP]) (by simp [a2l,apart]) (by simp [a0h,usH]) (by simp [hNm,lkR,a0w])⟩
  ·rename_i hge
   have hnil:c.rds=[]:=List.eq_nil_of_length_eq_zero (by omega)
   refine ⟨A,by rw [h2,hnil];rfl,?_⟩
   exact a0y [(4,some 4),(20,some 20)] (by (simp only [h2,kdP,go_sem])<;>simp [h2,kdP]) (by (simp only [h2,kdP,go_sem,a1f,a0q,a0f,a1l])<;>simp [h2,kdP]) (by simp [a2l,apart]) (by simp [a0h,usH]) (by simp [hNm,lkR,a0w])
 |some q =>
  obtain ⟨kp,g⟩:=q
  refine a0e _ _ _ ?_
  simp only [go_sem,hG,hOw]
  (repeat' with_reducible first|refine And.intro ?_ ?_|intro _|refine exP ?_ ?_);all_goals try omega
  ·rename_i hlt
   have hkl:k < c.rds.length:=by omega
   refine b1s (d:=34) (id:=20) (kd:=kdP) (z:=.v (.slice none 0 0)) (kv:=b0i c.rds[k]) (m:=A.m++[(kp,.own 500 0 g.length 5)]) rfl (by simp [go_sem]) (by simp [go_sem,b0i,c2a]) b5d (by simp [go_sem]) (c3v _ _ _) rfl (by rw [hG];decide) ?_ ?_
   ·intro hl bo
    have hne:¬ kp=b0i c.rds[k]:=fun e=>d9t (b0i c.rds[k]) kdP (c3v _ _ _) _ (kp,.own 500 0 g.length 5) (by simp) e hl
    obtain ⟨⟨B,hB,hI1⟩,hno⟩:=c9w hc hkl hI hne
    simp only [go_sem,hG,hOw]
    (repeat' with_reducible first|refine And.intro ?_ ?_|intro _|refine exP ?_ ?_);all_goals try omega
    refine a6m (id:=20) (j:=(A.m++[(kp,V.own 500 0 g.length 5)]).length) (bo:=bo) (kd:=kdP) (m:=(A.m++[(kp,V.own 500 0 g.length 5)])++[(b0i c.rds[k],.v (.slice none 0 0))]) rfl rfl (by simp [go_sem]) (by simp [go_sem]) (by simp [go_sem]) ?_
    rw [c4d]
    simp only [go_sem,hG,hOw]
    (repeat' with_reducible first|refine And.intro ?_ ?_|intro _|refine exP ?_ ?_);all_goals try omega
    have e1:B.m++tlM (some (b0i c.rds[k],[c.rds[k]]))=A.m++[(kp,V.lst G.lo 5 (g.map rdE)),(b0i c.rds[k],.own 500 0 1 5)]:=by rw [hB];simp [tlM]
    refine ⟨(k+1,B,some (b0i c.rds[k],[c.rds[k]])),⟨by show k+1≤_;omega,hI1⟩,by show c.rds.length - (k+1) < c.rds.length - k;omega,b4y (fun i=>i == 500) ?_⟩
    exact a0y [(4,some 4),(20,some 20),(500,some 35)] (by (simp only [hB,kdP,go_sem])<;>simp [hB,kdP]) (by (simp only [hB,kdP,go_sem,a1f,a0q,a0f,a1l])<;>simp [hB,kdP]) (by simp [a2l,apart]) (by simp [a0h,usH]) (by simp [hNm,lkR,a0w])
   ·intro j p hj hp hl bo
    by_cases hs:kp=b0i c.rds[k]
    ·obtain ⟨hI1,hno⟩:=e0c hc hkl hI hs
     obtain ⟨rfl,rfl⟩:=d6s hj hp hno
     have hgl:g.length≤20:=by
      obtain ⟨_,_,_,_,_,hg⟩:=hI
      rw [hg]
      have:=List.length_filter_le (a5x ‹_›) (c.rds.take k)
      simp at this ⊢
      omega
     simp only [go_sem,hG,hOw]
     (repeat' with_reducible first|refine And.intro ?_ ?_|intro _|refine exP ?_ ?_);all_goals try omega
     refine a6m (id:=20) (j:=A.m.length) (bo:=bo) (kd:=kdP) (m:=A.m++[(kp,V.own 500 0 g.length 5)]) rfl rfl (by simp [go_sem]) (by simp [go_sem]) (by simp [go_sem]) ?_
     rw [c4d]
     simp only [go_sem,hG,hOw]
     (repeat' with_reducible first|refine And.intro ?_ ?_|intro _|refine exP ?_ ?_);all_goals try omega
     have e1:A.m++tlM (some (b0i c.rds[k],g++[c.rds[k]]))=A.m++[(kp,V.own 500 0 (g.length+1) 5)]:=by rw [hs];simp [tlM]
     refine ⟨(k+1,A,some (b0i c.rds[k],g++[c.rds[k]])),⟨by show k+1≤_;omega,hI1⟩,by show c.rds.length - (k+1) < c.rds.length - k;omega,?_⟩
     exact a0y [(4,some 4),(20,some 20),(500,some 35)] (by (simp only [hs,rdE,i64,str,kdP,go_sem])<;>simp [hs,rdE,i64,str,kdP]) (by (simp only [hs,rdE,i64,str,kdP,go_sem,a1f,a0q,a0f,a1l])<;>simp [hs,rdE,i64,str,kdP]) (by simp [a2l,apart]) (by simp [a0h,usH]) (by simp [hNm,lkR,a0w])
    ·obtain ⟨_,hno⟩:=c9w hc hkl hI hs
     obtain ⟨rfl,rfl⟩:=d6s hj hp hno
     exact absurd hp hs
  ·rename_i hge
   have hk':k=c.rds.length:=by omega
   subst hk'
   rw [List.take_length] at hI
   obtain ⟨B,hB1,hB2⟩:=e6s hI
   refine ⟨B,hB1,b4y (fun i=>i == 500) ?_⟩
   exact a0y [(4,some 4),(20,some 20)] (by (simp only [hB2,kdP,go_sem])<;>simp [hB2,kdP]) (by (simp only [hB2,kdP,go_sem,a1f,a0q,a0f,a1l])<;>simp [hB2,kdP]) (by simp [a2l,apart]) (by simp [a0h,usH]) (by simp [hNm,lkR,a0w])
open Go Pm
set_option maxHeartbeats 4000000
set_option maxRecDepth 100000
theorem e5p (t:List Ch) (k j w:Nat) (L:List (List ByteArray)) (l U:List ByteArray) (d:Int) (X Y:List (List V)) (M:FM) (F:List Rd) (o:ByteArray) (hF2:F.Pairwise fun a b=>(a.kind.toNat:Int)=2) (hFl:F.length≤20) (hFg:∀ r ∈ F,b2e r)
  {G:Gh} {Q:Exit→St→Prop} (hG:G.n=121) (hOw:G.ow=fun i=>[69].contains i) (hNm:G.nm=[]) :
  SemC Tryz.prog G (a9x 8 Tryz.f90.body) (St.of [(4,.ptr 4 0),(5,.mp 20),(8,.ptr 8 0),(42,chs 0 t),(43,i64 t.length),(44,i64 k),(9,i64 k),(11,.ptr 11 0),(53,lns 0 L),(54,i64 L.length),(55,i64 j),(12,i64 j),(13,a0n 0 l),(62,i64 ((l.length:Int)+1)),(63,i64 w),(14,.own 701 0 U.length 1),(16,.own 601 0 1 1),(75,rds G.lo F),(76,i64 F.length),(77,i64 0)] [(4,.box [.v (.slice none 0 0)]),(20,.map kdP M.m),(8,.box [.own 901 0 k 2]),(901,.arr 115 2 X),(11,.box [i64 d,.own 801 0 j 1]),(801,.arr 32 1 Y),(701,.arr 9 1 (U.map a1t)),(601,.arr 9 1 [[str o]])])
   (c6a G 8 (fun _:Unit=>St.of [(4,.ptr 4 0),(5,.mp 20),(8,.ptr 8 0),(42,chs 0 t),(43,i64 t.length),(44,i64 k),(9,i64 k),(11,.ptr 11 0),(53,lns 0 L),(54,i64 L.length),(55,i64 j),(12,i64 j),(13,a0n 0 l),(62,i64 ((l.length:Int)+1)),(63,i64 w),(14,.own 701 0 U.length 1),(16,.own 601 0 (pF F o F.length).length 1)] [(4,.box [.v (.slice none 0 0)]),(20,.map kdP M.m),(8,.box [.own 901 0 k 2]),(901,.arr 115 2 X),(11,.box [i64 d,.own 801 0 j 1]),(801,.arr 32 1 Y),(701,.arr 9 1 (U.map a1t)),(601,.arr 9 1 ((pF F o F.length).map a1t))]) (fun _=>True) Q):=by
 unfold Tryz.f90
 simp only [c6d,a9x,rgO,bkO,a4k,Option.bind_some,Option.getD_some,reduceIte,Nat.reduceEqDiff,reduceCtorEq]
 refine a0l (fun i:Nat=>St.of [(4,.ptr 4 0),(5,.mp 20),(8,.ptr 8 0),(42,chs 0 t),(43,i64 t.length),(44,i64 k),(9,i64 k),(11,.ptr 11 0),(53,lns 0 L),(54,i64 L.length),(55,i64 j),(12,i64 j),(13,a0n 0 l),(62,i64 ((l.length:Int)+1)),(63,i64 w),(14,.own 701 0 U.length 1),(16,.own 601 0 (pF F o i).length 1),(75,rds G.lo F),(76,i64 F.length),(77,i64 i)] [(4,.box [.v (.slice none 0 0)]),(20,.map kdP M.m),(8,.box [.own 901 0 k 2]),(901,.arr 115 2 X),(11,.box [i64 d,.own 801 0 j 1]),(801,.arr 32 1 Y),(701,.arr 9 1 (U.map a1t)),(601,.arr 9 1 ((pF F o i).map a1t))]) (fun i=>i≤F.length) (fun i=>F.length - i) 0 (by simp) (a0y [(4,some 4),(20,some 20),(8,some 8),(901,some 901),(11,some 11),(801,some 801),(701,some 701),(601,some 601)] (by (simp only [kdP,c0s,go_sem])<;>simp [kdP,c0s]) (by (simp only [kdP,c0s,go_sem,a1f,a0q,a0f,a1l])<;>simp [kdP,c0s]) (by simp [a2l,apart]) (by simp [a0h,usH]) (by simp [hNm,lkR,a0w])) ?_
 rintro i hi
 have hpl:(pF F o i).length≤100:=by
  have h1:=c4t (F.take i) [o]
  simp at h1
  unfold pF
  omega
 have i1:Int.toNat 1=1:=rfl
 have i2:Int.toNat 2=2:=rfl
 have i3:Int.toNat 3=3:=rfl
 by_cases hil:i < F.length
 ·obtain ⟨ws,hws⟩:=f0c F o hF2 i hil
  obtain ⟨P,hP⟩:∃ P,P=pF F o i:=⟨_,rfl⟩
  have hsucc:=d6q F o i hil
  rw [← hP] at hpl hws hsucc
  rw [← hP]
  have hPl:P.length=ws.length+1:=by rw [hws];simp
  have hm1:(P.length:Int) - 1=(ws.length:Int):=by omega
  have hPm:P[ws.length]'(by omega)=o:=by simp [hws]
  have hlt:ws.length < P.length:=by omega
  have hP1:P.length - 1=ws.length:=by omega
  have hmin:min ws.length P.length=ws.length:=by omega
  refine a0e _ _ _ ?_;simp (maxSteps:=2000000) only [go_sem,hG,hOw,hm1]
  (repeat' with_reducible first|refine And.intro ?_ ?_|intro _|refine exP ?_ ?_);all_goals try omega
  refine d5c ⟨[98,99],[],[]⟩ [0,1,2,3,4,5,6,7,8,9,10,11,12,13,14] 15 [(16,false)] (by rfl) (by rfl) mixed (by kernel_rfl) ?_
  simp only [a2y,List.map_cons,List.map_nil,List.getElem?_cons_zero,List.getElem?_cons_succ]
  rcases hFg F[i] (List.getElem_mem hil) with ⟨hk,hw⟩|⟨hk,hw⟩|⟨hk,hw⟩
  ·have hq:pF F o (i+1)=P.take ws.length++[]:=by
    rw [hsucc]
    unfold a8o b1n
    rw [hk,hP1]
    simp [List.getD_eq_getElem?_getD,hlt,hPm]
   simp (maxSteps:=2000000) only [go_sem,hG,hOw,hk,hm1,i1,i2,i3,Nat.reduceMul,List.drop_succ_cons,List.drop_zero,hPm]
   (repeat' with_reducible first|refine And.intro ?_ ?_|intro _|refine exP ?_ ?_);all_goals try omega
   refine ⟨_,a0d (d8r o F[i].word),?_⟩
   simp only [go_sem,hG,hOw]
   (repeat' with_reducible first|refine And.intro ?_ ?_|intro _|refine exP ?_ ?_);all_goals try omega
   refine c1t 86 601 86 ws.length 9 1 (l:=P.map a1t) (by simp [go_sem]) (by simp [go_sem]) (by simp;omega) (by simp [go_sem]) ?_
   refine a7t ?_
   simp only [go_sem,hG,hOw]
   (repeat' with_reducible first|refine And.intro ?_ ?_|intro _|refine exP ?_ ?_);all_goals try omega
   refine ⟨i+1,by omega,by omega,?_⟩
   exact a0y [(4,some 4),(20,some 20),(8,some 8),(901,some 901),(11,some 11),(801,some 801),(701,some 701),(601,some 99)] (by (simp only [kdP,hq,hmin,a1t,go_sem])<;>simp [kdP,hq,hmin,a1t]) (by (simp only [kdP,hq,hmin,a1t,go_sem,a1f,a0q,a0f,a1l])<;>simp [kdP,hq,hmin,a1t]) (by simp [a2l,apart]) (by simp [a0h,usH]) (by simp [hNm,lkR,a0w])
  ·have hq:pF F o (i+1)=P.take ws.length++[F[i].word,o]:=by
    rw [hsucc]
    unfold a8o b1n
    rw [hk,hP1]
    simp [List.getD_eq_getElem?_getD,hlt,hPm]
   simp (maxSteps:=2000000) only [go_sem,hG,hOw,hk,hm1,i1,i2,i3,Nat.reduceMul,List.drop_succ_cons,List.drop_zero,hPm]
   (repeat' with_reducible first|refine And.intro ?_ ?_|intro _|refine exP ?_ ?_);all_goals try omega
   refine ⟨_,a0d (d5j o F[i].word),?_⟩
   simp only [go_sem,hG,hOw]
   (repeat' with_reducible first|refine And.intro ?_ ?_|intro _|refine exP ?_ ?_);all_goals try omega
   refine c1t 86 601 86 ws.length 9 1 (l:=P.map a1t) (by simp [go_sem]) (by simp [go_sem]) (by simp;omega) (by simp [go_sem]) ?_
   refine a7t ?_
   simp only [go_sem,hG,hOw]
   (repeat' with_reducible first|refine And.intro ?_ ?_|intro _|refine exP ?_ ?_);all_goals try omega
   refine ⟨i+1,by omega,by omega,?_⟩
   exact a0y [(4,some 4),(20,some 20),(8,some 8),(901,some 901),(11,some 11),(801,some 801),(701,some 701),(601,some 99)] (by (simp only [kdP,hq,hmin,a1t,go_sem])<;>simp [kdP,hq,hmin,a1t]) (by (simp only [kdP,hq,hmin,a1t,go_sem,a1f,a0q,a0f,a1l])<;>simp [kdP,hq,hmin,a1t]) (by simp [a2l,apart]) (by simp [a0h,usH]) (by simp [hNm,lkR,a0w])
  ·have hq:pF F o (i+1)=P.take ws.length++[F[i].word]:=by
    rw [hsucc]
    unfold a8o b1n
    rw [hk,hP1]
    simp [List.getD_eq_getElem?_getD,hlt,hPm]
   simp (maxSteps:=2000000) only [go_sem,hG,hOw,hk,hm1,i1,i2,i3,Nat.reduceMul,List.drop_succ_cons,List.drop_zero,hPm]
   (repeat' with_reducible first|refine And.intro ?_ ?_|intro _|refine exP ?_ ?_);all_goals try omega
   refine ⟨_,a0d (d6v o F[i].word),?_⟩
   simp only [go_sem,hG,hOw]
   (repeat' with_reducible first|refine And.intro ?_ ?_|intro _|refine exP ?_ ?_);all_goals try omega
   refine c1t 86 601 86 ws.length 9 1 (l:=P.map a1t) (by simp [go_sem]) (by simp [go_sem]) (by simp;omega) (by simp [go_sem]) ?_
   refine a7t ?_
   simp only [go_sem,hG,hOw]
   (repeat' with_reducible first|refine And.intro ?_ ?_|intro _|refine exP ?_ ?_);all_goals try omega
   refine ⟨i+1,by omega,by omega,?_⟩
   exact a0y [(4,some 4),(20,some 20),(8,some 8),(901,some 901),(11,some 11),(801,some 801),(701,some 701),(601,some 99)] (by (simp only [kdP,hq,hmin,a1t,go_sem])<;>simp [kdP,hq,hmin,a1t]) (by (simp only [kdP,hq,hmin,a1t,go_sem,a1f,a0q,a0f,a1l])<;>simp [kdP,hq,hmin,a1t]) (by simp [a2l,apart]) (by simp [a0h,usH]) (by simp [hNm,lkR,a0w])
 ·have hi2:i=F.length:=by omega
  subst hi2
  refine a0e _ _ _ ?_;simp only [go_sem,hG,hOw]
  (repeat' with_reducible first|refine And.intro ?_ ?_|intro _|refine exP ?_ ?_);all_goals try omega
  exact ⟨(),a0y [(4,some 4),(20,some 20),(8,some 8),(901,some 901),(11,some 11),(801,some 801),(701,some 701),(601,some 601)] (by (simp only [kdP,go_sem])<;>simp [kdP]) (by (simp only [kdP,go_sem,a1f,a0q,a0f,a1l])<;>simp [kdP]) (by simp [a2l,apart]) (by simp [a0h,usH]) (by simp [hNm,lkR,a0w])⟩
open Go Pm
set_option maxHeartbeats 4000000
set_option maxRecDepth 100000
theorem d3j (t:List Ch) (c:Cp) (hc:OKR t c.rds) (hn:c.rds.length≤20) (k j:Nat) (L:List (List ByteArray)) (l:List ByteArray) (hl1:l.length≤10) (d:Int) (X Y:List (List V)) (M:FM)
  {G:Gh} {Q:Exit→St→Prop} (hlk:∀ k n w:Int,lkM M.m (c2a k n w)=f4f G.lo (c.rds.filter (atW k n w))) (hG:G.n=121) (hOw:G.ow=fun i=>[69].contains i) (hNm:G.nm=[]) :
  SemC Tryz.prog G (a9x 6 Tryz.f90.body) (St.of [(4,.ptr 4 0),(5,.mp 20),(8,.ptr 8 0),(42,chs 0 t),(43,i64 t.length),(44,i64 k),(9,i64 k),(11,.ptr 11 0),(53,lns 0 L),(54,i64 L.length),(55,i64 j),(12,i64 j),(13,a0n 0 l),(62,i64 ((l.length:Int)+1)),(63,i64 0),(14,.v (.slice none 0 0))] [(4,.box [.v (.slice none 0 0)]),(20,.map kdP M.m),(8,.box [.own 901 0 k 2]),(901,.arr 115 2 X),(11,.box [i64 d,.own 801 0 j 1]),(801,.arr 32 1 Y)])
   (c6a G 6 (fun _:Unit=>St.of [(4,.ptr 4 0),(5,.mp 20),(8,.ptr 8 0),(42,chs 0 t),(43,i64 t.length),(44,i64 k),(9,i64 k),(11,.ptr 11 0),(53,lns 0 L),(54,i64 L.length),(55,i64 j),(14,.own 701 0 (wF c.rds k j l (l.length+1)).length 1)] [(4,.box [.v (.slice none 0 0)]),(20,.map kdP M.m),(8,.box [.own 901 0 k 2]),(901,.arr 115 2 X),(11,.box [i64 d,.own 801 0 j 1]),(801,.arr 32 1 Y),(701,.arr 9 1 ((wF c.rds k j l (l.length+1)).map a1t))]) (fun _=>True) Q):=by
 unfold Tryz.f90
 simp only [c6d,a9x,rgO,bkO,a4k,Option.bind_some,Option.getD_some,reduceIte,Nat.reduceEqDiff,reduceCtorEq]
 refine a0l (fun w:Nat=>St.of [(4,.ptr 4 0),(5,.mp 20),(8,.ptr 8 0),(42,chs 0 t),(43,i64 t.length),(44,i64 k),(9,i64 k),(11,.ptr 11 0),(53,lns 0 L),(54,i64 L.length),(55,i64 j),(12,i64 j),(13,a0n 0 l),(62,i64 ((l.length:Int)+1)),(63,i64 w),(14,.own 701 0 (wF c.rds k j l w).length 1)] [(4,.box [.v (.slice none 0 0)]),(20,.map kdP M.m),(8,.box [.own 901 0 k 2]),(901,.arr 115 2 X),(11,.box [i64 d,.own 801 0 j 1]),(801,.arr 32 1 Y),(701,.arr 9 1 ((wF c.rds k j l w).map a1t))]) (fun w=>w≤l.length+1) (fun w=>l.length+1 - w) 0 (by simp) (a0y [(4,some 4),(20,some 20),(8,some 8),(901,some 901),(11,some 11),(801,some 801),(701,none)] (by (simp only [kdP,go_sem])<;>simp [kdP]) (by (simp only [kdP,go_sem,a1f,a0q,a0f,a1l])<;>simp [kdP]) (by simp [a2l,apart]) (by simp [a0h,usH]) (by simp [hNm,lkR,a0w])) ?_
 rintro w hw
 have hwl:=e3q c.rds k j l hn w
 have hsl:=c2c c.rds k j l w
 have hw11:w * 41≤451:=by omega
 refine a0e _ _ _ ?_;simp only [go_sem,hG,hOw]
 (repeat' with_reducible first|refine And.intro ?_ ?_|intro _|refine exP ?_ ?_);all_goals try omega
 ·rename_i hlt3
  have hwl2:w≤l.length:=by omega
  refine a0a (d0b l w ⟨by omega,by omega⟩) ?_
  have hlk':=hlk k j w
  unfold c2a f4f at hlk'
  cases hf:c.rds.filter (atW k j w) with
  |nil =>
   rw [if_pos hf] at hlk'
   have hsw:b0e c.rds k j l w=[a6w l w]:=by unfold b0e;rw [hf];rfl
   simp (maxSteps:=2000000) only [go_sem,hG,hOw,hlk',kdP,Option.getD_none]
   (repeat' with_reducible first|refine And.intro ?_ ?_|intro _|refine exP ?_ ?_);all_goals try omega
   refine a2o (fun _:Unit=>St.of [(4,.ptr 4 0),(5,.mp 20),(8,.ptr 8 0),(42,chs 0 t),(43,i64 t.length),(44,i64 k),(9,i64 k),(11,.ptr 11 0),(53,lns 0 L),(54,i64 L.length),(55,i64 j),(12,i64 j),(13,a0n 0 l),(62,i64 ((l.length:Int)+1)),(63,i64 w),(14,.own 701 0 (wF c.rds k j l w).length 1),(16,.own 601 0 (b0e c.rds k j l w).length 1)] [(4,.box [.v (.slice none 0 0)]),(20,.map kdP M.m),(8,.box [.own 901 0 k 2]),(901,.arr 115 2 X),(11,.box [i64 d,.own 801 0 j 1]),(801,.arr 32 1 Y),(701,.arr 9 1 ((wF c.rds k j l w).map a1t)),(601,.arr 9 1 ((b0e c.rds k j l w).map a1t))]) (fun _=>True) ?_ ?_
   ·refine a0l (fun _:Unit=>St.of [(4,.ptr 4 0),(5,.mp 20),(8,.ptr 8 0),(42,chs 0 t),(43,i64 t.length),(44,i64 k),(9,i64 k),(11,.ptr 11 0),(53,lns 0 L),(54,i64 L.length),(55,i64 j),(12,i64 j),(13,a0n 0 l),(62,i64 ((l.length:Int)+1)),(63,i64 w),(14,.own 701 0 (wF c.rds k j l w).length 1),(16,.own 601 0 (b0e c.rds k j l w).length 1),(76,i64 0),(77,i64 0)] [(4,.box [.v (.slice none 0 0)]),(20,.map kdP M.m),(8,.box [.own 901 0 k 2]),(901,.arr 115 2 X),(11,.box [i64 d,.own 801 0 j 1]),(801,.arr 32 1 Y),(701,.arr 9 1 ((wF c.rds k j l w).map a1t)),(601,.arr 9 1 ((b0e c.rds k j l w).map a1t))]) (fun _=>True) (fun _=>0) () trivial (a0y [(4,some 4),(20,some 20),(8,some 8),(901,some 901),(11,some 11),(801,some 801),(701,some 701),(601,some 69)] (by (simp only [kdP,hsw,go_sem])<;>simp [kdP,hsw]) (by (simp only [kdP,hsw,go_sem,a1f,a0q,a0f,a1l])<;>simp [kdP,hsw]) (by simp [a2l,apart]) (by simp [a0h,usH]) (by simp [hNm,lkR,a0w])) ?_
    rintro _ _
    refine a0e _ _ _ ?_;simp only [go_sem,hG,hOw]
    (repeat' with_reducible first|refine And.intro ?_ ?_|intro _|refine exP ?_ ?_);all_goals try omega
    exact ⟨(),a0y [(4,some 4),(20,some 20),(8,some 8),(901,some 901),(11,some 11),(801,some 801),(701,some 701),(601,some 601)] (by (simp only [kdP,go_sem])<;>simp [kdP]) (by (simp only [kdP,go_sem,a1f,a0q,a0f,a1l])<;>simp [kdP]) (by simp [a2l,apart]) (by simp [a0h,usH]) (by simp [hNm,lkR,a0w])⟩
   rintro _ _
   simp only [go_sem,hG,hOw]
   (repeat' with_reducible first|refine And.intro ?_ ?_|intro _|refine exP ?_ ?_);all_goals try omega
   have hws:(wF c.rds k j l (w+1))=wF c.rds k j l w++b0e c.rds k j l w:=c6z c.rds k j l w
   refine ⟨w+1,by omega,by omega,?_⟩
   exact a0y [(4,some 4),(20,some 20),(8,some 8),(901,some 901),(11,some 11),(801,some 801),(701,some 103)] (by (simp only [kdP,hws,go_sem])<;>simp [kdP,hws]) (by (simp only [kdP,hws,go_sem,a1f,a0q,a0f,a1l])<;>simp [kdP,hws]) (by simp [a2l,apart]) (by simp [a0h,usH]) (by simp [hNm,lkR,a0w])
  |cons r0 rr =>
   obtain ⟨F,hF⟩:∃ F,F=c.rds.filter (atW k j w):=⟨_,rfl⟩
   have hFn:¬ F=[]:=by rw [hF,hf];simp
   rw [← hF,if_neg hFn] at hlk'
   have hF2:=f8t hc k j w
   rw [← hF] at hF2
   have hFl:F.length≤20:=by rw [hF];have:=List.length_filter_le (atW k j w) c.rds;omega
   have hFg:∀ r ∈ F,b2e r:=fun r hr=>by rw [hF] at hr;exact (hc.i r (List.mem_filter.1 hr).1).2
   have hsw:b0e c.rds k j l w=pF F (a6w l w) F.length:=by unfold b0e pF;rw [← hF,List.take_length]
   simp (maxSteps:=2000000) only [go_sem,hG,hOw,hlk',kdP,Option.getD_some]
   (repeat' with_reducible first|refine And.intro ?_ ?_|intro _|refine exP ?_ ?_);all_goals try omega
   rw [hsw] at hsl
   refine a2o (fun _:Unit=>St.of [(4,.ptr 4 0),(5,.mp 20),(8,.ptr 8 0),(42,chs 0 t),(43,i64 t.length),(44,i64 k),(9,i64 k),(11,.ptr 11 0),(53,lns 0 L),(54,i64 L.length),(55,i64 j),(12,i64 j),(13,a0n 0 l),(62,i64 ((l.length:Int)+1)),(63,i64 w),(14,.own 701 0 (wF c.rds k j l w).length 1),(16,.own 601 0 (pF F (a6w l w) F.length).length 1)] [(4,.box [.v (.slice none 0 0)]),(20,.map kdP M.m),(8,.box [.own 901 0 k 2]),(901,.arr 115 2 X),(11,.box [i64 d,.own 801 0 j 1]),(801,.arr 32 1 Y),(701,.arr 9 1 ((wF c.rds k j l w).map a1t)),(601,.arr 9 1 ((pF F (a6w l w) F.length).map a1t))]) (fun _=>True) ?_ ?_
   ·refine a4l (s':=St.of [(4,.ptr 4 0),(5,.mp 20),(8,.ptr 8 0),(42,chs 0 t),(43,i64 t.length),(44,i64 k),(9,i64 k),(11,.ptr 11 0),(53,lns 0 L),(54,i64 L.length),(55,i64 j),(12,i64 j),(13,a0n 0 l),(62,i64 ((l.length:Int)+1)),(63,i64 w),(14,.own 701 0 (wF c.rds k j l w).length 1),(16,.own 601 0 1 1),(75,rds G.lo F),(76,i64 F.length),(77,i64 0)] [(4,.box [.v (.slice none 0 0)]),(20,.map kdP M.m),(8,.box [.own 901 0 k 2]),(901,.arr 115 2 X),(11,.box [i64 d,.own 801 0 j 1]),(801,.arr 32 1 Y),(701,.arr 9 1 ((wF c.rds k j l w).map a1t)),(601,.arr 9 1 [[str (a6w l w)]])]) (a0y [(4,some 4),(20,some 20),(8,some 8),(901,some 901),(11,some 11),(801,some 801),(701,some 701),(601,some 69)] (by (simp only [kdP,go_sem])<;>simp [kdP]) (by (simp only [kdP,go_sem,a1f,a0q,a0f,a1l])<;>simp [kdP]) (by simp [a2l,apart]) (by simp [a0h,usH]) (by simp [hNm,lkR,a0w])) ?_
    exact a4f (by kernel_rfl) (e5p t k j w L l (wF c.rds k j l w) d X Y M F (a6w l w) hF2 hFl hFg hG hOw hNm)
   rintro _ _
   simp only [go_sem,hG,hOw]
   (repeat' with_reducible first|refine And.intro ?_ ?_|intro _|refine exP ?_ ?_);all_goals try omega
   have hws:(wF c.rds k j l (w+1))=wF c.rds k j l w++b0e c.rds k j l w:=c6z c.rds k j l w
   refine ⟨w+1,by omega,by omega,?_⟩
   exact a0y [(4,some 4),(20,some 20),(8,some 8),(901,some 901),(11,some 11),(801,some 801),(701,some 103)] (by (simp only [kdP,hws,hsw,go_sem])<;>simp [kdP,hws,hsw]) (by (simp only [kdP,hws,hsw,go_sem,a1f,a0q,a0f,a1l])<;>simp [kdP,hws,hsw]) (by simp [a2l,apart]) (by simp [a0h,usH]) (by simp [hNm,lkR,a0w])
 ·rename_i hge3
  have hw2:w=l.length+1:=by omega
  subst hw2
  exact ⟨(),a0y [(4,some 4),(20,some 20),(8,some 8),(901,some 901),(11,some 11),(801,some 801),(701,some 701)] (by (simp only [kdP,go_sem])<;>simp [kdP]) (by (simp only [kdP,go_sem,a1f,a0q,a0f,a1l])<;>simp [kdP]) (by simp [a2l,apart]) (by simp [a0h,usH]) (by simp [hNm,lkR,a0w])⟩
open Go Pm
set_option maxHeartbeats 4000000
set_option maxRecDepth 100000
theorem d2i (t:List Ch) (c:Cp) (hc:OKR t c.rds) (hn:c.rds.length≤20) (k:Nat) (cc:Ch) (hv:VCh cc) (M:FM) {G:Gh} {Q:Exit→St→Prop} (hlk:∀ k n w:Int,lkM M.m (c2a k n w)=f4f G.lo (c.rds.filter (atW k n w))) (hG:G.n=121) (hOw:G.ow=fun i=>[69].contains i) (hNm:G.nm=[]) :
  SemC Tryz.prog G (a9x 4 Tryz.f90.body) (St.of [(4,.ptr 4 0),(5,.mp 20),(8,.ptr 8 0),(42,chs 0 t),(43,i64 t.length),(44,i64 k),(9,i64 k),(11,.ptr 11 0),(53,lns 0 cc.lines),(54,i64 cc.lines.length),(55,i64 0)] [(4,.box [.v (.slice none 0 0)]),(20,.map kdP M.m),(8,.box [.own 901 0 k 2]),(901,.arr 115 2 ((cF t c.rds k).map (chG G.lo))),(11,.box [i64 cc.id,.v (.slice none 0 0)])])
   (c6a G 4 (fun _:Unit=>St.of [(4,.ptr 4 0),(5,.mp 20),(8,.ptr 8 0),(42,chs 0 t),(43,i64 t.length),(44,i64 k),(11,.ptr 11 0)] [(4,.box [.v (.slice none 0 0)]),(20,.map kdP M.m),(8,.box [.own 901 0 k 2]),(901,.arr 115 2 ((cF t c.rds k).map (chG G.lo))),(11,.box (chG G.lo ⟨cc.id,lF c.rds k cc cc.lines.length⟩))]) (fun _=>True) Q):=by
 unfold Tryz.f90
 simp only [c6d,a9x,rgO,bkO,a4k,Option.bind_some,Option.getD_some,reduceIte,Nat.reduceEqDiff,reduceCtorEq]
 have hv1:=hv.len
 refine a0l (fun j:Nat=>St.of [(4,.ptr 4 0),(5,.mp 20),(8,.ptr 8 0),(42,chs 0 t),(43,i64 t.length),(44,i64 k),(9,i64 k),(11,.ptr 11 0),(53,lns 0 cc.lines),(54,i64 cc.lines.length),(55,i64 j)] [(4,.box [.v (.slice none 0 0)]),(20,.map kdP M.m),(8,.box [.own 901 0 k 2]),(901,.arr 115 2 ((cF t c.rds k).map (chG G.lo))),(11,.box [i64 cc.id,.own 801 0 j 1]),(801,.arr 32 1 ((lF c.rds k cc j).map (lnE 0)))]) (fun j=>j≤cc.lines.length) (fun j=>cc.lines.length - j) 0 (by simp) (a0y [(4,some 4),(20,some 20),(8,some 8),(901,some 901),(11,some 11),(801,none)] (by (simp only [kdP,go_sem])<;>simp [kdP]) (by (simp only [kdP,go_sem,a1f,a0q,a0f,a1l])<;>simp [kdP]) (by simp [a2l,apart]) (by simp [a0h,usH]) (by simp [hNm,lkR,a0w])) ?_
 rintro j hj
 by_cases hjl:j < cc.lines.length
 ·have hv2:=hv.ln _ (List.getElem_mem hjl)
  obtain ⟨hv3,hv4⟩:=hv2
  refine a0e _ _ _ ?_;simp only [go_sem,hG,hOw]
  (repeat' with_reducible first|refine And.intro ?_ ?_|intro _|refine exP ?_ ?_);all_goals try omega
  obtain ⟨l,hl⟩:∃ l,l=cc.lines[j]:=⟨_,rfl⟩
  have hl1:l.length≤10:=by rw [hl];exact hv3.2
  rw [← hl]
  refine a2o (fun _:Unit=>St.of [(4,.ptr 4 0),(5,.mp 20),(8,.ptr 8 0),(42,chs 0 t),(43,i64 t.length),(44,i64 k),(9,i64 k),(11,.ptr 11 0),(53,lns 0 cc.lines),(54,i64 cc.lines.length),(55,i64 j),(14,.own 701 0 (wF c.rds k j l (l.length+1)).length 1)] [(4,.box [.v (.slice none 0 0)]),(20,.map kdP M.m),(8,.box [.own 901 0 k 2]),(901,.arr 115 2 ((cF t c.rds k).map (chG G.lo))),(11,.box [i64 cc.id,.own 801 0 j 1]),(801,.arr 32 1 ((lF c.rds k cc j).map (lnE 0))),(701,.arr 9 1 ((wF c.rds k j l (l.length+1)).map a1t))]) (fun _=>True) ?_ ?_
  ·refine a4l (s':=St.of [(4,.ptr 4 0),(5,.mp 20),(8,.ptr 8 0),(42,chs 0 t),(43,i64 t.length),(44,i64 k),(9,i64 k),(11,.ptr 11 0),(53,lns 0 cc.lines),(54,i64 cc.lines.length),(55,i64 j),(12,i64 j),(13,a0n 0 l),(62,i64 ((l.length:Int)+1)),(63,i64 0),(14,.v (.slice none 0 0))] [(4,.box [.v (.slice none 0 0)]),(20,.map kdP M.m),(8,.box [.own 901 0 k 2]),(901,.arr 115 2 ((cF t c.rds k).map (chG G.lo))),(11,.box [i64 cc.id,.own 801 0 j 1]),(801,.arr 32 1 ((lF c.rds k cc j).map (lnE 0)))]) (a0y [(4,some 4),(20,some 20),(8,some 8),(901,some 901),(11,some 11),(801,some 801)] (by (simp only [kdP,go_sem])<;>simp [kdP]) (by (simp only [kdP,go_sem,a1f,a0q,a0f,a1l])<;>simp [kdP]) (by simp [a2l,apart]) (by simp [a0h,usH]) (by simp [hNm,lkR,a0w])) ?_
   exact a4f (by kernel_rfl) (d3j t c hc hn k j cc.lines l hl1 cc.id _ _ M hlk hG hOw hNm)
  rintro _ _
  have hwl:=e3q c.rds k j l hn (l.length+1)
  have hU:=c0y (wF c.rds k j l (l.length+1)) (by omega)
  have h0:(lF c.rds k cc (j+1)).map (lnE 0)=(lF c.rds k cc j).map (lnE 0)++[[a0n 0 ((wF c.rds k j l (l.length+1)).filter neB)]]:=by
   rw [f3v c.rds k cc j hjl,List.map_append,← hl];rfl
  simp only [go_sem,hG,hOw]
  (repeat' with_reducible first|refine And.intro ?_ ?_|intro _|refine exP ?_ ?_);all_goals try omega
  refine a2k ⟨[701,109,110],[(108,[701])],[108]⟩ [(0,false),(1,false),(2,false),(3,false),(4,false),(5,false),(6,false),(7,false)] mixed (by kernel_rfl) ?_
  simp only [a2y,List.getElem?_cons_zero,List.getElem?_cons_succ]
  simp only [go_sem,hG,hOw]
  (repeat' with_reducible first|refine And.intro ?_ ?_|intro _|refine exP ?_ ?_);all_goals try omega
  refine ⟨_,a5q [(0,701)] [] (hU) (by (simp only [go_sem])<;>simp) (by (simp only [go_sem,a1f,a0q,a0f,a1l])<;>simp) (by simp [a2l,apart,toR]) (by simp [a0h,usH,toR]) (by simp [a5o,lkR,toR]) rfl (by simp [tgt,a1v]) (by simp [tgt,a1v]) (by simp [upT,a3h,a5m,a1q,usH,lkR,toR,a1v]) (by simp [b1e,usH,tgt,go_sem]) (by simp [a3i,a1q,usH,lkR,toR]) (by simp [a4w,usH]),?_⟩
  simp (maxSteps:=2000000) only [go_sem,hG,hOw,e9i]
  (repeat' with_reducible first|refine And.intro ?_ ?_|intro _|refine exP ?_ ?_);all_goals try omega
  refine ⟨j+1,by omega,by omega,?_⟩
  exact a0y [(4,some 4),(20,some 20),(8,some 8),(901,some 901),(11,some 11),(801,some 110)] (by (simp only [kdP,h0,a0n,go_sem])<;>simp [kdP,h0,a0n]) (by (simp only [kdP,h0,a0n,go_sem,a1f,a0q,a0f,a1l])<;>simp [kdP,h0,a0n]) (by simp [a2l,apart]) (by simp [a0h,usH]) (by simp [hNm,lkR,a0w])
 ·have hj2:j=cc.lines.length:=by omega
  subst hj2
  have hT:List.take cc.lines.length (List.map (lnE 0) (lF c.rds k cc cc.lines.length))=List.map (lnE 0) (lF c.rds k cc cc.lines.length):=List.take_of_length_le (by rw [List.length_map,e9i];exact Nat.le_refl _)
  refine a0e _ _ _ ?_;simp only [go_sem,hG,hOw]
  (repeat' with_reducible first|refine And.intro ?_ ?_|intro _|refine exP ?_ ?_);all_goals try omega
  refine ⟨(),b4y (fun i=>i == 801) ?_⟩
  exact a0y [(4,some 4),(20,some 20),(8,some 8),(901,some 901),(11,some 11)] (by (simp only [kdP,chG,hT,go_sem])<;>simp [kdP,chG,hT]) (by (simp only [kdP,chG,hT,go_sem,a1f,a0q,a0f,a1l])<;>simp [kdP,chG,hT]) (by simp [a2l,apart]) (by simp [a0h,usH]) (by simp [hNm,lkR,a0w])
theorem e4f (t:List Ch) (ht:a1r t=true) (c:Cp) (hc:OKR t c.rds) (hn:c.rds.length≤20) (M:FM) {G:Gh} {Q:Exit→St→Prop} (hlk:∀ k n w:Int,lkM M.m (c2a k n w)=f4f G.lo (c.rds.filter (atW k n w))) (hG:G.n=121) (hOw:G.ow=fun i=>[69].contains i) (hNm:G.nm=[]) :
  SemC Tryz.prog G (a9x 2 Tryz.f90.body) (St.of [(4,.ptr 4 0),(5,.mp 20),(8,.ptr 8 0),(42,chs 0 t),(43,i64 t.length),(44,i64 0)] [(4,.box [.v (.slice none 0 0)]),(20,.map kdP M.m),(8,.box [.v (.slice none 0 0)])])
   (c6a G 2 (fun _:Unit=>St.of [(4,.ptr 4 0),(8,.ptr 8 0)] [(4,.box [.v (.slice none 0 0)]),(8,.box [.own 901 0 t.length 2]),(901,.arr 115 2 ((cF t c.rds t.length).map (chG G.lo)))]) (fun _=>True) Q):=by
 unfold Tryz.f90
 simp only [c6d,a9x,rgO,bkO,a4k,Option.bind_some,Option.getD_some,reduceIte,Nat.reduceEqDiff,reduceCtorEq]
 obtain ⟨ht1,ht2⟩:=b0q ht
 refine a0l (fun k:Nat=>St.of [(4,.ptr 4 0),(5,.mp 20),(8,.ptr 8 0),(42,chs 0 t),(43,i64 t.length),(44,i64 k)] [(4,.box [.v (.slice none 0 0)]),(20,.map kdP M.m),(8,.box [.own 901 0 k 2]),(901,.arr 115 2 ((cF t c.rds k).map (chG G.lo)))]) (fun k=>k≤t.length) (fun k=>t.length - k) 0 (by simp) (a0y [(4,some 4),(20,some 20),(8,some 8),(901,none)] (by (simp only [kdP,go_sem])<;>simp [kdP]) (by (simp only [kdP,go_sem,a1f,a0q,a0f,a1l])<;>simp [kdP]) (by simp [a2l,apart]) (by simp [a0h,usH]) (by simp [hNm,lkR,a0w])) ?_
 rintro k hk
 refine a0e _ _ _ ?_;simp only [go_sem,hG,hOw]
 (repeat' with_reducible first|refine And.intro ?_ ?_|intro _|refine exP ?_ ?_);all_goals try omega
 ·rename_i hlt
  have hkl:k < t.length:=by omega
  have hv:=ht2 _ (List.getElem_mem hkl)
  refine a2o (fun _:Unit=>St.of [(4,.ptr 4 0),(5,.mp 20),(8,.ptr 8 0),(42,chs 0 t),(43,i64 t.length),(44,i64 k),(11,.ptr 11 0)] [(4,.box [.v (.slice none 0 0)]),(20,.map kdP M.m),(8,.box [.own 901 0 k 2]),(901,.arr 115 2 ((cF t c.rds k).map (chG G.lo))),(11,.box (chG G.lo ⟨t[k].id,lF c.rds k t[k] t[k].lines.length⟩))]) (fun _=>True) ?_ ?_
  ·refine a4l (s':=St.of [(4,.ptr 4 0),(5,.mp 20),(8,.ptr 8 0),(42,chs 0 t),(43,i64 t.length),(44,i64 k),(9,i64 k),(11,.ptr 11 0),(53,lns 0 t[k].lines),(54,i64 t[k].lines.length),(55,i64 0)] [(4,.box [.v (.slice none 0 0)]),(20,.map kdP M.m),(8,.box [.own 901 0 k 2]),(901,.arr 115 2 ((cF t c.rds k).map (chG G.lo))),(11,.box [i64 t[k].id,.v (.slice none 0 0)])]) (a0y [(4,some 4),(20,some 20),(8,some 8),(901,some 901),(11,some 11)] (by (simp only [kdP,go_sem])<;>simp [kdP]) (by (simp only [kdP,go_sem,a1f,a0q,a0f,a1l])<;>simp [kdP]) (by simp [a2l,apart]) (by simp [a0h,usH]) (by simp [hNm,lkR,a0w])) ?_
   exact a4f (by kernel_rfl) (d2i t c hc hn k t[k] hv M hlk hG hOw hNm)
  rintro _ _
  have h0:(cF t c.rds (k+1)).map (chG G.lo)=(cF t c.rds k).map (chG G.lo)++[chG G.lo ⟨t[k].id,lF c.rds k t[k] t[k].lines.length⟩]:=by rw [f4q t c.rds k hkl,List.map_append];rfl
  simp (maxSteps:=2000000) only [go_sem,hG,hOw,e9v,chG]
  (repeat' with_reducible first|refine And.intro ?_ ?_|intro _|refine exP ?_ ?_);all_goals try omega
  refine ⟨k+1,by omega,by omega,?_⟩
  exact a0y [(4,some 4),(20,some 20),(8,some 8),(901,some 117)] (by (simp only [kdP,h0,chG,go_sem])<;>simp [kdP,h0,chG]) (by (simp only [kdP,h0,chG,go_sem,a1f,a0q,a0f,a1l])<;>simp [kdP,h0,chG]) (by simp [a2l,apart]) (by simp [a0h,usH]) (by simp [hNm,lkR,a0w])
 ·rename_i hge
  have hk2:k=t.length:=by omega
  subst hk2
  exact ⟨(),a0y [(4,some 4),(8,some 8),(901,some 901)] (by (simp only [kdP,go_sem])<;>simp [kdP]) (by (simp only [kdP,go_sem,a1f,a0q,a0f,a1l])<;>simp [kdP]) (by simp [a2l,apart]) (by simp [a0h,usH]) (by simp [hNm,lkR,a0w])⟩
theorem e8l (t:List Ch) (ht:a1r t=true) (c:Cp) (hc:OKR t c.rds) (hn:c.rds.length≤20):a0o Tryz.prog 90 [.fp [chs 0 t],cpE 0 c] (fun _=>txE 0 (c0c t c.rds)):=by
 refine a0b (ow:=fun i=>[69].contains i) Tryz.func90 Tryz.ntmps90 rfl rfl fun G hG hOw hNm hB=>?_;simp only [go_sem,hG,hOw]
 refine a2o (fun M:FM=>St.of [(0,.fp [chs 0 t]),(4,.ptr 4 0),(5,.mp 20)] [(4,.box [.v (.slice none 0 0)]),(20,.map kdP M.m)]) (fun M=>M.m=(b9t c.rds).map (d0z G.lo c.rds)) ?_ ?_
 ·refine a4l (s':=St.of [(0,.fp [chs 0 t]),(4,.ptr 4 0),(5,.mp 20),(22,rds 0 c.rds),(23,i64 c.rds.length),(24,i64 0)] [(4,.box [.v (.slice none 0 0)]),(20,.map kdP [])]) (a0y [(4,some 4),(20,some 20)] (by (simp only [kdP,go_sem])<;>simp [kdP]) (by (simp only [kdP,go_sem,a1f,a0q,a0f,a1l])<;>simp [kdP]) (by simp [a2l,apart]) (by simp [a0h,usH]) (by simp [hNm,lkR,a0w])) ?_
  exact a4f (by kernel_rfl) (e8u t c hc hn hG hOw hNm)
 rintro M hM
 have hlk:∀ k n w:Int,lkM M.m (c2a k n w)=f4f G.lo (c.rds.filter (atW k n w)):=fun k n w=>by rw [hM];exact f0y hc G.lo k n w
 obtain ⟨ht1,ht2⟩:=b0q ht
 simp only [go_sem,hG,hOw]
 (repeat' with_reducible first|refine And.intro ?_ ?_|intro _|refine exP ?_ ?_);all_goals try omega
 refine a2o (fun _:Unit=>St.of [(4,.ptr 4 0),(8,.ptr 8 0)] [(4,.box [.v (.slice none 0 0)]),(8,.box [.own 901 0 t.length 2]),(901,.arr 115 2 ((cF t c.rds t.length).map (chG G.lo)))]) (fun _=>True) ?_ ?_
 ·refine a4l (s':=St.of [(4,.ptr 4 0),(5,.mp 20),(8,.ptr 8 0),(42,chs 0 t),(43,i64 t.length),(44,i64 0)] [(4,.box [.v (.slice none 0 0)]),(20,.map kdP M.m),(8,.box [.v (.slice none 0 0)])]) (a0y [(4,some 4),(20,some 20),(8,some 8)] (by (simp only [kdP,go_sem])<;>simp [kdP]) (by (simp only [kdP,go_sem,a1f,a0q,a0f,a1l])<;>simp [kdP]) (by simp [a2l,apart]) (by simp [a0h,usH]) (by simp [hNm,lkR,a0w])) ?_
  exact a4f (by kernel_rfl) (e4f t ht c hc hn M hlk hG hOw hNm)
 rintro _ _
 simp only [go_sem,hG,hOw]
 rw [List.take_of_length_le (by rw [e9v];exact Nat.le_refl _)]
 exact Subs.agg (.cons (Sub.map (Nat.zero_le _) fun c=>.cons (.refl _) (.cons (Sub.lo (Nat.zero_le _)) .nil)) .nil)
open Go Pm
set_option maxHeartbeats 4000000
set_option maxRecDepth 100000
def a3u (t:List Ch) (c:Cp):Bool:=inB c.id 0 9999 && decide (c.rds.length≤20) && b4s t c.rds && (List.range t.length).all fun k=>(List.range (t.getD k ⟨0,[]⟩).lines.length).all fun n=>inB ((b8a c.rds (k:Nat) (n:Nat) ((t.getD k ⟨0,[]⟩).lines.getD n [])).length) 1 10
theorem d6n (t:List Ch) (rs:List Rd):(c0c t rs).length=t.length:=by simp [c0c]
theorem d0d {t:List Ch} {c:Cp} (hc:OKR t c.rds) (k:Nat) (h:k < t.length):(e0g t c.rds k t[k]).lines.any (fun l=>!inB l.length 1 10)=!((List.range t[k].lines.length).all fun n=>inB ((b8a c.rds (k:Nat) (n:Nat) (t[k].lines.getD n [])).length) 1 10):=by
 unfold e0g
 simp only [List.any_map,List.not_all_eq_any_not]
 congr 1
 funext n
 simp only [Function.comp,f3s hc]
theorem b2q (t:List Ch) (l:List Rd) (k:Nat) (hk:k < l.length):c0q t l k=(a1i t l[k] && (decide (k=0) || b0g (l.getD (k - 1) rd0) l[k])):=by
 unfold c0q
 simp [hk]
theorem d0l {t:List Ch} {l:List Rd} {k:Nat} (hk:k < l.length) (h:c0q t l k=false):b4s t l=false:=by
 unfold b4s
 cases hx:(List.range l.length).all (c0q t l) with
 |false=>rfl
 |true=>have:=List.all_eq_true.1 hx k (by simpa using hk);rw [h] at this;cases this
theorem d0c {t:List Ch} {l:List Rd} (h:∀ k,k < l.length→c0q t l k=true):b4s t l=true:=List.all_eq_true.2 fun k hk=>h k (by simpa using hk)
theorem a5b {t:List Ch} {l:List Rd} {k:Nat} (hk:k < l.length) (h:a1i t l[k]=false):b4s t l=false:=d0l hk (by rw [b2q t l k hk,h];rfl)
theorem b6h {t:List Ch} {l:List Rd} {k:Nat} (hk:k < l.length) (h0:¬ k=0) (h:b0g (l.getD (k - 1) rd0) l[k]=false):b4s t l=false:=d0l hk (by rw [b2q t l k hk,h];simp [h0])
open Go Pm
set_option maxHeartbeats 4000000
set_option maxRecDepth 100000
theorem rA (t:List Ch) (ht:a1r t=true) (htB:d4j t) (c:Cp) (hl:c.rds.length≤20) (k:Nat) (hkl:k < c.rds.length) {G:Gh} {Q:Exit→St→Prop} (hG:G.n=114) (hOw:G.ow=fun _=>false) (hNm:G.nm=[]) (hbad:b4s t c.rds=false→∀ s',s'.get 4=bl false→Q .ret s')
  (hQ:∀ s l,(1≤l.length∧l.length≤10)→a4z t c.rds[k].ch c.rds[k].ln=some l→((c.rds[k].kind.toNat:Int)=1∨(c.rds[k].kind.toNat:Int)=2∨(c.rds[k].kind.toNat:Int)=3)→Ent G s (St.of [(0,.fp [chs 0 t]),(3,.ptr 3 0),(25,rds 0 c.rds),(26,i64 c.rds.length),(27,i64 k),(5,i64 k),(6,.ptr 6 0),(7,a0n 0 l)] [(3,.box (cpC 0 c)),(6,.box (rdE c.rds[k]))])→Q .normal s) :
  SemL Tryz.prog G ((a4x (a9x 1 Tryz.f148.body)).take 4) (St.of [(0,.fp [chs 0 t]),(3,.ptr 3 0),(25,rds 0 c.rds),(26,i64 c.rds.length),(27,i64 k)] [(3,.box (cpC 0 c))]) Q:=by
 unfold Tryz.f148
 simp only [c6d,a9x,rgO,bkO,a4k,Option.bind_some,Option.getD_some,reduceIte,Nat.reduceEqDiff,reduceCtorEq]
 simp only [a4x,List.cons_append,List.nil_append,List.append_assoc,List.take_succ_cons,List.take_zero,List.take_nil,List.drop_succ_cons,List.drop_zero]
 obtain ⟨ht1,ht2⟩:=b0q ht
 cases hL:a4z t c.rds[k].ch c.rds[k].ln with
 |none =>
  have hb:=hbad (a5b hkl (by unfold a1i;rw [hL]))
  refine a1a 5 _ _ ?_
  simp only [go_sem,hG,hOw]
  (repeat' with_reducible first|refine And.intro ?_ ?_|intro _|refine exP ?_ ?_);all_goals try omega
  refine a0a (e2b t htB c.rds[k].ch c.rds[k].ln c.rds[k].wd hL) ?_
  simp only [go_sem,hG,hOw]
  (repeat' with_reducible first|refine And.intro ?_ ?_|intro _|refine exP ?_ ?_);all_goals try omega
  exact hb _ (by simp [go_sem])
 |some l =>
  have hll:1≤l.length∧l.length≤10:=by
   unfold a4z at hL
   split at hL
   ·simp only [Option.bind_eq_some_iff] at hL
    obtain ⟨cc,hc,hl⟩:=hL
    obtain ⟨hat,rfl⟩:=List.getElem?_eq_some_iff.1 hc
    obtain ⟨hbl,rfl⟩:=List.getElem?_eq_some_iff.1 hl
    exact ((ht2 _ (List.getElem_mem hat)).ln _ (List.getElem_mem hbl)).1
   ·cases hL
  have hR:a1i t c.rds[k]=b3y l c.rds[k].wd c.rds[k].kind.toNat c.rds[k].word:=by unfold a1i;rw [hL]
  have hn0:decide ((l.length:Int)=0)=false:=decide_eq_false (by omega)
  have hk256:=UInt8.toNat_lt c.rds[k].kind
  refine a1a 5 _ _ ?_
  simp only [go_sem,hG,hOw]
  (repeat' with_reducible first|refine And.intro ?_ ?_|intro _|refine exP ?_ ?_);all_goals try omega
  refine a0a (c1e t htB c.rds[k].ch c.rds[k].ln c.rds[k].wd l hL) ?_
  simp (maxSteps:=2000000) only [go_sem,hG,hOw,hn0]
  (repeat' with_reducible first|refine And.intro ?_ ?_|intro _|refine exP ?_ ?_);all_goals try omega
  refine a0a (a4a 1 3 c.rds[k].kind.toNat) ?_
  cases hin3:inB (c.rds[k].kind.toNat:Int) 1 3 with
  |false =>
   simp only [go_sem,hG,hOw]
   (repeat' with_reducible first|refine And.intro ?_ ?_|intro _|refine exP ?_ ?_);all_goals try omega
   refine hbad (a5b hkl ?_) _ (by simp [go_sem])
   rw [hR]
   unfold b3y
   simp only [inB,Bool.and_eq_false_iff,decide_eq_false_iff_not] at hin3
   rw [if_neg (by omega),if_neg (by omega),if_neg (by omega)]
  |true =>
   have hkd:(c.rds[k].kind.toNat:Int)=1∨(c.rds[k].kind.toNat:Int)=2∨(c.rds[k].kind.toNat:Int)=3:=by
    simp only [inB,Bool.and_eq_true,decide_eq_true_eq] at hin3
    omega
   simp only [go_sem,hG,hOw]
   (repeat' with_reducible first|refine And.intro ?_ ?_|intro _|refine exP ?_ ?_);all_goals try omega
   exact hQ _ l hll hL hkd (a2a [(3,some 3),(6,some 6)])
theorem rB1 (t:List Ch) (c:Cp) (hl:c.rds.length≤20) (k:Nat) (hkl:k < c.rds.length) (l:List ByteArray) (hll:1≤l.length∧l.length≤10) (hL:a4z t c.rds[k].ch c.rds[k].ln=some l) (hkd:(c.rds[k].kind.toNat:Int)=1) {G:Gh} {Q:Exit→St→Prop} (hG:G.n=114) (hOw:G.ow=fun _=>false) (hNm:G.nm=[]) (hbad:b4s t c.rds=false→∀ s',s'.get 4=bl false→Q .ret s')
  (hQ:∀ s,a1i t c.rds[k]=true→Ent G s (St.of [(0,.fp [chs 0 t]),(3,.ptr 3 0),(25,rds 0 c.rds),(26,i64 c.rds.length),(27,i64 k),(5,i64 k),(6,.ptr 6 0)] [(3,.box (cpC 0 c)),(6,.box (rdE c.rds[k]))])→Q .normal s) :
  SemL Tryz.prog G (((a4x (a9x 1 Tryz.f148.body)).drop 4).take 3) (St.of [(0,.fp [chs 0 t]),(3,.ptr 3 0),(25,rds 0 c.rds),(26,i64 c.rds.length),(27,i64 k),(5,i64 k),(6,.ptr 6 0),(7,a0n 0 l)] [(3,.box (cpC 0 c)),(6,.box (rdE c.rds[k]))]) Q:=by
 unfold Tryz.f148
 simp only [c6d,a9x,rgO,bkO,a4k,Option.bind_some,Option.getD_some,reduceIte,Nat.reduceEqDiff,reduceCtorEq]
 simp only [a4x,List.cons_append,List.nil_append,List.append_assoc,List.take_succ_cons,List.take_zero,List.take_nil,List.drop_succ_cons,List.drop_zero]
 have i1:Int.toNat 1=1:=rfl
 have i2:Int.toNat 2=2:=rfl
 have i3:Int.toNat 3=3:=rfl
 have hR:a1i t c.rds[k]=b3y l c.rds[k].wd c.rds[k].kind.toNat c.rds[k].word:=by unfold a1i;rw [hL]
 have hR2:a1i t c.rds[k]=(inB c.rds[k].wd 0 ((l.length:Int) - 1) && decide (c.rds[k].word=⟨#[]⟩)):=by rw [hR,hkd];simp [b3y]
 have e1:(l.length:Int) - 1+0=((l.length:Int) - 1):=by omega
 refine a1a 4 _ _ ?_
 simp (maxSteps:=2000000) only [go_sem,hG,hOw,hkd,i1,i2,i3,Nat.reduceMul,List.drop_succ_cons,List.drop_zero]
 (repeat' with_reducible first|refine And.intro ?_ ?_|intro _|refine exP ?_ ?_);all_goals try omega
 refine a0s mixed (by kernel_rfl) ?_
 simp (maxSteps:=2000000) only [go_sem,hG,hOw,e1]
 (repeat' with_reducible first|refine And.intro ?_ ?_|intro _|refine exP ?_ ?_);all_goals try omega
 refine ⟨_,a0d (a4a 0 ((l.length:Int) - 1) c.rds[k].wd),?_⟩
 cases hin:inB c.rds[k].wd 0 ((l.length:Int) - 1) with
 |false =>
  simp only [go_sem,hG,hOw]
  (repeat' with_reducible first|refine And.intro ?_ ?_|intro _|refine exP ?_ ?_);all_goals try omega
  exact hbad (a5b hkl (by rw [hR2,hin];rfl)) _ (by simp [go_sem])
 |true =>
  have hin2:0≤c.rds[k].wd∧c.rds[k].wd≤((l.length:Int) - 1):=by simpa [inB] using hin
  simp only [go_sem,hG,hOw]
  (repeat' with_reducible first|refine And.intro ?_ ?_|intro _|refine exP ?_ ?_);all_goals try omega
  refine ⟨_,a0d (d0b l c.rds[k].wd ⟨by omega,by omega⟩),?_⟩
  simp only [go_sem,hG,hOw]
  (repeat' with_reducible first|refine And.intro ?_ ?_|intro _|refine exP ?_ ?_);all_goals try omega
  refine ⟨_,a0d (e3r (a6w l c.rds[k].wd) c.rds[k].word),?_⟩
  cases hX:decide (c.rds[k].word=⟨#[]⟩) with
  |false =>
   simp only [go_sem,hG,hOw]
   (repeat' with_reducible first|refine And.intro ?_ ?_|intro _|refine exP ?_ ?_);all_goals try omega
   exact hbad (a5b hkl (by rw [hR2,hin,hX];rfl)) _ (by simp [go_sem])
  |true =>
   have hRt:a1i t c.rds[k]=true:=by rw [hR2,hin,hX];rfl
   simp only [go_sem,hG,hOw]
   (repeat' with_reducible first|refine And.intro ?_ ?_|intro _|refine exP ?_ ?_);all_goals try omega
   exact hQ _ hRt (a2a [(3,some 3),(6,some 6)] (by (simp only [go_sem])<;>simp [hkd]) (by (simp only [go_sem,a1f,a0q,a0f,a1l])<;>simp [hkd]))
theorem rB2 (t:List Ch) (c:Cp) (hl:c.rds.length≤20) (k:Nat) (hkl:k < c.rds.length) (l:List ByteArray) (hll:1≤l.length∧l.length≤10) (hL:a4z t c.rds[k].ch c.rds[k].ln=some l) (hkd:(c.rds[k].kind.toNat:Int)=2) {G:Gh} {Q:Exit→St→Prop} (hG:G.n=114) (hOw:G.ow=fun _=>false) (hNm:G.nm=[]) (hbad:b4s t c.rds=false→∀ s',s'.get 4=bl false→Q .ret s')
  (hQ:∀ s,a1i t c.rds[k]=true→Ent G s (St.of [(0,.fp [chs 0 t]),(3,.ptr 3 0),(25,rds 0 c.rds),(26,i64 c.rds.length),(27,i64 k),(5,i64 k),(6,.ptr 6 0)] [(3,.box (cpC 0 c)),(6,.box (rdE c.rds[k]))])→Q .normal s) :
  SemL Tryz.prog G (((a4x (a9x 1 Tryz.f148.body)).drop 4).take 3) (St.of [(0,.fp [chs 0 t]),(3,.ptr 3 0),(25,rds 0 c.rds),(26,i64 c.rds.length),(27,i64 k),(5,i64 k),(6,.ptr 6 0),(7,a0n 0 l)] [(3,.box (cpC 0 c)),(6,.box (rdE c.rds[k]))]) Q:=by
 unfold Tryz.f148
 simp only [c6d,a9x,rgO,bkO,a4k,Option.bind_some,Option.getD_some,reduceIte,Nat.reduceEqDiff,reduceCtorEq]
 simp only [a4x,List.cons_append,List.nil_append,List.append_assoc,List.take_succ_cons,List.take_zero,List.take_nil,List.drop_succ_cons,List.drop_zero]
 have i1:Int.toNat 1=1:=rfl
 have i2:Int.toNat 2=2:=rfl
 have i3:Int.toNat 3=3:=rfl
 have hR:a1i t c.rds[k]=b3y l c.rds[k].wd c.rds[k].kind.toNat c.rds[k].word:=by unfold a1i;rw [hL]
 have hR2:a1i t c.rds[k]=(inB c.rds[k].wd 0 (l.length:Int) && a1h c.rds[k].word):=by rw [hR,hkd];simp [b3y]
 have e1:(l.length:Int) - 1+1=(l.length:Int):=by omega
 refine a1a 4 _ _ ?_
 simp (maxSteps:=2000000) only [go_sem,hG,hOw,hkd,i1,i2,i3,Nat.reduceMul,List.drop_succ_cons,List.drop_zero]
 (repeat' with_reducible first|refine And.intro ?_ ?_|intro _|refine exP ?_ ?_);all_goals try omega
 refine a0s mixed (by kernel_rfl) ?_
 simp (maxSteps:=2000000) only [go_sem,hG,hOw,e1]
 (repeat' with_reducible first|refine And.intro ?_ ?_|intro _|refine exP ?_ ?_);all_goals try omega
 refine ⟨_,a0d (a4a 0 (l.length:Int) c.rds[k].wd),?_⟩
 cases hin:inB c.rds[k].wd 0 (l.length:Int) with
 |false =>
  simp only [go_sem,hG,hOw]
  (repeat' with_reducible first|refine And.intro ?_ ?_|intro _|refine exP ?_ ?_);all_goals try omega
  exact hbad (a5b hkl (by rw [hR2,hin];rfl)) _ (by simp [go_sem])
 |true =>
  have hin2:0≤c.rds[k].wd∧c.rds[k].wd≤(l.length:Int):=by simpa [inB] using hin
  simp only [go_sem,hG,hOw]
  (repeat' with_reducible first|refine And.intro ?_ ?_|intro _|refine exP ?_ ?_);all_goals try omega
  refine ⟨_,a0d (d0b l c.rds[k].wd ⟨by omega,by omega⟩),?_⟩
  simp only [go_sem,hG,hOw]
  (repeat' with_reducible first|refine And.intro ?_ ?_|intro _|refine exP ?_ ?_);all_goals try omega
  refine ⟨_,a0d (d5l (a6w l c.rds[k].wd) c.rds[k].word),?_⟩
  cases hX:a1h c.rds[k].word with
  |false =>
   simp only [go_sem,hG,hOw]
   (repeat' with_reducible first|refine And.intro ?_ ?_|intro _|refine exP ?_ ?_);all_goals try omega
   exact hbad (a5b hkl (by rw [hR2,hin,hX];rfl)) _ (by simp [go_sem])
  |true =>
   have hRt:a1i t c.rds[k]=true:=by rw [hR2,hin,hX];rfl
   simp only [go_sem,hG,hOw]
   (repeat' with_reducible first|refine And.intro ?_ ?_|intro _|refine exP ?_ ?_);all_goals try omega
   exact hQ _ hRt (a2a [(3,some 3),(6,some 6)] (by (simp only [go_sem])<;>simp [hkd]) (by (simp only [go_sem,a1f,a0q,a0f,a1l])<;>simp [hkd]))
theorem rB3 (t:List Ch) (c:Cp) (hl:c.rds.length≤20) (k:Nat) (hkl:k < c.rds.length) (l:List ByteArray) (hll:1≤l.length∧l.length≤10) (hL:a4z t c.rds[k].ch c.rds[k].ln=some l) (hkd:(c.rds[k].kind.toNat:Int)=3) {G:Gh} {Q:Exit→St→Prop} (hG:G.n=114) (hOw:G.ow=fun _=>false) (hNm:G.nm=[]) (hbad:b4s t c.rds=false→∀ s',s'.get 4=bl false→Q .ret s')
  (hQ:∀ s,a1i t c.rds[k]=true→Ent G s (St.of [(0,.fp [chs 0 t]),(3,.ptr 3 0),(25,rds 0 c.rds),(26,i64 c.rds.length),(27,i64 k),(5,i64 k),(6,.ptr 6 0)] [(3,.box (cpC 0 c)),(6,.box (rdE c.rds[k]))])→Q .normal s) :
  SemL Tryz.prog G (((a4x (a9x 1 Tryz.f148.body)).drop 4).take 3) (St.of [(0,.fp [chs 0 t]),(3,.ptr 3 0),(25,rds 0 c.rds),(26,i64 c.rds.length),(27,i64 k),(5,i64 k),(6,.ptr 6 0),(7,a0n 0 l)] [(3,.box (cpC 0 c)),(6,.box (rdE c.rds[k]))]) Q:=by
 unfold Tryz.f148
 simp only [c6d,a9x,rgO,bkO,a4k,Option.bind_some,Option.getD_some,reduceIte,Nat.reduceEqDiff,reduceCtorEq]
 simp only [a4x,List.cons_append,List.nil_append,List.append_assoc,List.take_succ_cons,List.take_zero,List.take_nil,List.drop_succ_cons,List.drop_zero]
 have i1:Int.toNat 1=1:=rfl
 have i2:Int.toNat 2=2:=rfl
 have i3:Int.toNat 3=3:=rfl
 have hR:a1i t c.rds[k]=b3y l c.rds[k].wd c.rds[k].kind.toNat c.rds[k].word:=by unfold a1i;rw [hL]
 have hR2:a1i t c.rds[k]=(inB c.rds[k].wd 0 ((l.length:Int) - 1) && (a1h c.rds[k].word && decide (c.rds[k].word≠a6w l c.rds[k].wd))):=by rw [hR,hkd];simp [b3y]
 have e1:(l.length:Int) - 1+0=((l.length:Int) - 1):=by omega
 refine a1a 4 _ _ ?_
 simp (maxSteps:=2000000) only [go_sem,hG,hOw,hkd,i1,i2,i3,Nat.reduceMul,List.drop_succ_cons,List.drop_zero]
 (repeat' with_reducible first|refine And.intro ?_ ?_|intro _|refine exP ?_ ?_);all_goals try omega
 refine a0s mixed (by kernel_rfl) ?_
 simp (maxSteps:=2000000) only [go_sem,hG,hOw,e1]
 (repeat' with_reducible first|refine And.intro ?_ ?_|intro _|refine exP ?_ ?_);all_goals try omega
 refine ⟨_,a0d (a4a 0 ((l.length:Int) - 1) c.rds[k].wd),?_⟩
 cases hin:inB c.rds[k].wd 0 ((l.length:Int) - 1) with
 |false =>
  simp only [go_sem,hG,hOw]
  (repeat' with_reducible first|refine And.intro ?_ ?_|intro _|refine exP ?_ ?_);all_goals try omega
  exact hbad (a5b hkl (by rw [hR2,hin];rfl)) _ (by simp [go_sem])
 |true =>
  have hin2:0≤c.rds[k].wd∧c.rds[k].wd≤((l.length:Int) - 1):=by simpa [inB] using hin
  simp only [go_sem,hG,hOw]
  (repeat' with_reducible first|refine And.intro ?_ ?_|intro _|refine exP ?_ ?_);all_goals try omega
  refine ⟨_,a0d (d0b l c.rds[k].wd ⟨by omega,by omega⟩),?_⟩
  simp only [go_sem,hG,hOw]
  (repeat' with_reducible first|refine And.intro ?_ ?_|intro _|refine exP ?_ ?_);all_goals try omega
  refine ⟨_,a0d (d7x (a6w l c.rds[k].wd) c.rds[k].word),?_⟩
  cases hX:(a1h c.rds[k].word && decide (c.rds[k].word≠a6w l c.rds[k].wd)) with
  |false =>
   simp only [go_sem,hG,hOw]
   (repeat' with_reducible first|refine And.intro ?_ ?_|intro _|refine exP ?_ ?_);all_goals try omega
   exact hbad (a5b hkl (by rw [hR2,hin,hX];rfl)) _ (by simp [go_sem])
  |true =>
   have hRt:a1i t c.rds[k]=true:=by rw [hR2,hin,hX];rfl
   simp only [go_sem,hG,hOw]
   (repeat' with_reducible first|refine And.intro ?_ ?_|intro _|refine exP ?_ ?_);all_goals try omega
   exact hQ _ hRt (a2a [(3,some 3),(6,some 6)] (by (simp only [go_sem])<;>simp [hkd]) (by (simp only [go_sem,a1f,a0q,a0f,a1l])<;>simp [hkd]))
theorem rC (t:List Ch) (c:Cp) (hl:c.rds.length≤20) (k:Nat) (hkl:k < c.rds.length) (hRt:a1i t c.rds[k]=true) {G:Gh} {Q:Exit→St→Prop} (hG:G.n=114) (hOw:G.ow=fun _=>false) (hNm:G.nm=[]) (hbad:b4s t c.rds=false→∀ s',s'.get 4=bl false→Q .ret s')
  (hQ:∀ s e,(e=.normal∨e=.exit 1)→c0q t c.rds k=true→Ent G s (St.of [(0,.fp [chs 0 t]),(3,.ptr 3 0),(25,rds 0 c.rds),(26,i64 c.rds.length),(27,i64 k)] [(3,.box (cpC 0 c))])→Q e s) :
  SemL Tryz.prog G ((a4x (a9x 1 Tryz.f148.body)).drop 7) (St.of [(0,.fp [chs 0 t]),(3,.ptr 3 0),(25,rds 0 c.rds),(26,i64 c.rds.length),(27,i64 k),(5,i64 k),(6,.ptr 6 0)] [(3,.box (cpC 0 c)),(6,.box (rdE c.rds[k]))]) Q:=by
 unfold Tryz.f148
 simp only [c6d,a9x,rgO,bkO,a4k,Option.bind_some,Option.getD_some,reduceIte,Nat.reduceEqDiff,reduceCtorEq]
 simp only [a4x,List.cons_append,List.nil_append,List.append_assoc,List.take_succ_cons,List.take_zero,List.take_nil,List.drop_succ_cons,List.drop_zero]
 by_cases hk0:k=0
 ·have hz:c0q t c.rds k=true:=by rw [b2q t c.rds k hkl,hRt,decide_eq_true hk0];rfl
  have hk0':((k:Nat):Int)=0:=by omega
  refine a1a 7 _ _ ?_
  simp (maxSteps:=2000000) only [go_sem,hG,hOw,decide_eq_true hk0']
  (repeat' with_reducible first|refine And.intro ?_ ?_|intro _|refine exP ?_ ?_);all_goals try omega
  exact hQ _ _ (.inr rfl) hz (a2a [(3,some 3)])
 ·have hk0':¬ ((k:Nat):Int)=0:=by omega
  have hk1:((k:Int) - 1).toNat=k - 1:=by omega
  have hP:=e2n c.rds[k - 1] c.rds[k]
  have hgood:b0g c.rds[k - 1] c.rds[k]=true→c0q t c.rds k=true:=fun h=>by
   rw [b2q t c.rds k hkl,hRt,show c.rds.getD (k - 1) rd0=c.rds[k - 1] by simp [show k - 1 < c.rds.length by omega],h]
   simp
  have hpe:b0g c.rds[k - 1] c.rds[k]=false→b0g (c.rds.getD (k - 1) rd0) c.rds[k]=false:=fun h=>by
   rw [show c.rds.getD (k - 1) rd0=c.rds[k - 1] by simp [show k - 1 < c.rds.length by omega]];exact h
  refine a1a 7 _ _ ?_
  simp (maxSteps:=2000000) only [go_sem,hG,hOw,decide_eq_false hk0',hk1]
  (repeat' with_reducible first|refine And.intro ?_ ?_|intro _|refine exP ?_ ?_);all_goals try omega
  refine a0a (e9b c.rds[k - 1] c.rds[k]) ?_
  simp only [go_sem,hG,hOw]
  (repeat' with_reducible first|refine And.intro ?_ ?_|intro _|refine exP ?_ ?_);all_goals try omega
  all_goals first
   |exact hbad (b6h hkl hk0 (hpe (by rw [hP];simp;omega))) _ (by simp [go_sem])
   |exact hQ _ _ (.inl rfl) (hgood (by rw [hP];simp;omega)) (a2a [(3,some 3)])
theorem e3g (t:List Ch) (ht:a1r t=true) (htB:d4j t) (c:Cp) (hl:c.rds.length≤20) {G:Gh} {Q:Exit→St→Prop} (hG:G.n=114) (hOw:G.ow=fun _=>false) (hNm:G.nm=[]) (hbad:b4s t c.rds=false→∀ s',s'.get 4=bl false→Q .ret s') :
  SemC Tryz.prog G (a9x 0 Tryz.f148.body) (St.of [(0,.fp [chs 0 t]),(3,.ptr 3 0),(25,rds 0 c.rds),(26,i64 c.rds.length),(27,i64 0)] [(3,.box (cpC 0 c))])
   (c6a G 0 (fun _:Unit=>St.of [(0,.fp [chs 0 t]),(3,.ptr 3 0)] [(3,.box (cpC 0 c))]) (fun _=>b4s t c.rds=true) Q):=by
 unfold Tryz.f148
 simp only [c6d,a9x,rgO,bkO,a4k,Option.bind_some,Option.getD_some,reduceIte,Nat.reduceEqDiff,reduceCtorEq]
 refine a0l (fun k:Nat=>St.of [(0,.fp [chs 0 t]),(3,.ptr 3 0),(25,rds 0 c.rds),(26,i64 c.rds.length),(27,i64 k)] [(3,.box (cpC 0 c))]) (fun k=>k≤c.rds.length∧∀ i,i < k→c0q t c.rds i=true) (fun k=>c.rds.length - k) 0 (by simp) (a2a [(3,some 3)]) ?_
 rintro k ⟨hk,hall⟩
 by_cases hkl:k < c.rds.length
 ·have hlt:(k:Int) < c.rds.length:=by omega
  refine SemL.semC ?_
  simp only [a4x,List.cons_append,List.nil_append,List.append_assoc,List.take_succ_cons,List.take_zero,List.take_nil,List.drop_succ_cons,List.drop_zero]
  refine a1a 2 _ _ ?_
  simp (maxSteps:=2000000) only [go_sem,hG,hOw,hlt]
  (repeat' with_reducible first|refine And.intro ?_ ?_|intro _|refine exP ?_ ?_);all_goals try omega
  refine c9n ?_
  refine b5g 4 (fun l:List ByteArray=>St.of [(0,.fp [chs 0 t]),(3,.ptr 3 0),(25,rds 0 c.rds),(26,i64 c.rds.length),(27,i64 k),(5,i64 k),(6,.ptr 6 0),(7,a0n 0 l)] [(3,.box (cpC 0 c)),(6,.box (rdE c.rds[k]))]) (fun l=>(1≤l.length∧l.length≤10)∧a4z t c.rds[k].ch c.rds[k].ln=some l∧((c.rds[k].kind.toNat:Int)=1∨(c.rds[k].kind.toNat:Int)=2∨(c.rds[k].kind.toNat:Int)=3)) ?_ ?_
  ·refine a2r (s':=St.of [(0,.fp [chs 0 t]),(3,.ptr 3 0),(25,rds 0 c.rds),(26,i64 c.rds.length),(27,i64 k)] [(3,.box (cpC 0 c))]) (a2a [(3,some 3)]) ?_
   refine b0z (l':=(a4x (a9x 1 Tryz.f148.body)).take 4) (by kernel_rfl) ?_
   exact rA t ht htB c hl k hkl hG hOw hNm hbad fun s l h1 h2 h3 h4=>⟨l,⟨h1,h2,h3⟩,h4⟩
  rintro l ⟨hll,hL,hkd⟩
  refine b5g 3 (fun _:Unit=>St.of [(0,.fp [chs 0 t]),(3,.ptr 3 0),(25,rds 0 c.rds),(26,i64 c.rds.length),(27,i64 k),(5,i64 k),(6,.ptr 6 0)] [(3,.box (cpC 0 c)),(6,.box (rdE c.rds[k]))]) (fun _=>a1i t c.rds[k]=true) ?_ ?_
  ·refine b0z (l':=((a4x (a9x 1 Tryz.f148.body)).drop 4).take 3) (by kernel_rfl) ?_
   rcases hkd with hkd|hkd|hkd
   ·exact rB1 t c hl k hkl l hll hL hkd hG hOw hNm hbad fun s h1 h2=>⟨(),h1,h2⟩
   ·exact rB2 t c hl k hkl l hll hL hkd hG hOw hNm hbad fun s h1 h2=>⟨(),h1,h2⟩
   ·exact rB3 t c hl k hkl l hll hL hkd hG hOw hNm hbad fun s h1 h2=>⟨(),h1,h2⟩
  rintro _ hRt
  refine b0z (l':=(a4x (a9x 1 Tryz.f148.body)).drop 7) (by kernel_rfl) ?_
  refine rC t c hl k hkl hRt hG hOw hNm hbad ?_
  rintro s e he hz hs
  have hz2:∀ i,i < k+1→c0q t c.rds i=true:=fun i hi=>by
   by_cases e:i=k
   ·exact e ▸ hz
   ·exact hall i (by omega)
  rcases he with rfl|rfl
  ·show SemL _ _ _ _ _
   refine a2r hs ?_
   refine a1a 2 _ _ ?_
   simp only [go_sem,hG,hOw]
   (repeat' with_reducible first|refine And.intro ?_ ?_|intro _|refine exP ?_ ?_);all_goals try omega
   exact ⟨k+1,⟨by omega,hz2⟩,by omega,a2a [(3,some 3)]⟩
  ·show SemL _ _ _ _ _
   refine a2r hs ?_
   refine a1a 2 _ _ ?_
   simp only [go_sem,hG,hOw]
   (repeat' with_reducible first|refine And.intro ?_ ?_|intro _|refine exP ?_ ?_);all_goals try omega
   exact ⟨k+1,⟨by omega,hz2⟩,by omega,a2a [(3,some 3)]⟩
 ·have hk2:k=c.rds.length:=by omega
  subst hk2
  refine a0e _ _ _ ?_;simp only [go_sem,hG,hOw]
  (repeat' with_reducible first|refine And.intro ?_ ?_|intro _|refine exP ?_ ?_);all_goals try omega
  exact ⟨(),d0c hall,a2a [(3,some 3)]⟩
open Go Pm
set_option maxHeartbeats 4000000
set_option maxRecDepth 100000
theorem b8n {t:List Ch} (ht:a1r t=true):d4j t:=by
 obtain ⟨ht1,ht2⟩:=b0q ht
 exact ⟨by omega,fun c hc=>by
  have hv:=ht2 c hc
  exact ⟨by have:=hv.len;omega,fun r hr=>⟨by have:=(hv.ln r hr).1;omega,fun s hs=>by have:=a3o ((hv.ln r hr).2 s hs);omega⟩⟩⟩
theorem d9p (t:List Ch) (c:Cp) (h1:inB c.id 0 9999=true) (h2:c.rds.length≤20) (h3:b4s t c.rds=true) (hc:OKR t c.rds):a3u t c=(c0c t c.rds).all fun x=>!(x.lines.any fun l=>!inB l.length 1 10):=by
 unfold a3u
 rw [h1,h3,decide_eq_true h2]
 simp only [Bool.true_and]
 unfold c0c
 rw [List.all_map]
 rw [Bool.eq_iff_iff,List.all_eq_true,List.all_eq_true]
 refine ⟨fun h k hk=>?_,fun h k hk=>?_⟩
 ·have hkl:k < t.length:=by simpa using hk
  have:=h k hk
  simp only [Function.comp,List.getD_eq_getElem?_getD,List.getElem?_eq_getElem hkl,Option.getD_some] at this ⊢
  rw [d0d hc k hkl,Bool.not_not]
  simpa [List.getD_eq_getElem?_getD] using this
 ·have hkl:k < t.length:=by simpa using hk
  have:=h k hk
  simp only [Function.comp,List.getD_eq_getElem?_getD,List.getElem?_eq_getElem hkl,Option.getD_some] at this ⊢
  rw [d0d hc k hkl,Bool.not_not] at this
  simpa [List.getD_eq_getElem?_getD] using this
theorem c2l (t:List Ch) (ht:a1r t=true) (c:Cp):a0o Tryz.prog 148 [.fp [chs 0 t],cpE 0 c] (fun _=>bl (a3u t c)):=by
 have htB:=b8n ht
 have bad:b4s t c.rds=false→a3u t c=false:=fun h=>by unfold a3u;rw [h];simp
 have bad1:inB c.id 0 9999=false→a3u t c=false:=fun h=>by unfold a3u;rw [h];simp
 have bad2:¬ c.rds.length≤20→a3u t c=false:=fun h=>by unfold a3u;rw [decide_eq_false h];simp
 refine a0b (ow:=fun _=>false) Tryz.func148 Tryz.ntmps148 rfl rfl fun G hG hOw hNm hB=>?_;simp only [go_sem,hG,hOw]
 refine a0a (a4a 0 9999 c.id) ?_
 cases h1:inB c.id 0 9999 with
 |false =>
  simp (maxSteps:=2000000) only [go_sem,hG,hOw,bad1 h1]
 |true =>
  by_cases h2:c.rds.length≤20
  ·have h2':decide (20 < (c.rds.length:Int))=false:=decide_eq_false (by omega)
   simp (maxSteps:=2000000) only [go_sem,hG,hOw,h2']
   (repeat' with_reducible first|refine And.intro ?_ ?_|intro _|refine exP ?_ ?_);all_goals try omega
   refine a2o (fun _:Unit=>St.of [(0,.fp [chs 0 t]),(3,.ptr 3 0)] [(3,.box (cpC 0 c))]) (fun _=>b4s t c.rds=true) ?_ ?_
   ·refine a4l (s':=St.of [(0,.fp [chs 0 t]),(3,.ptr 3 0),(25,rds 0 c.rds),(26,i64 c.rds.length),(27,i64 0)] [(3,.box (cpC 0 c))]) (a2a [(3,some 3)]) ?_
    exact a4f (by kernel_rfl) (e3g t ht htB c h2 hG hOw hNm fun h s' hs'=>by
     refine ⟨trivial,?_⟩
     simp only [d1h,hs',vw,bad h]
     exact Sub.refl _)
   rintro _ h3
   have hc:=f0g ht (by omega) h3
   have hall:=d9p t c h1 h2 h3 hc
   obtain ⟨R,hR⟩:∃ R,R=c0c t c.rds:=⟨_,rfl⟩
   have hRl:R.length≤1000:=by rw [hR,d6n];exact htB.1
   simp only [go_sem,hG,hOw]
   refine a0a (e8l t ht c hc h2) ?_
   rw [← hR] at hall ⊢
   simp only [go_sem,hG,hOw]
   (repeat' with_reducible first|refine And.intro ?_ ?_|intro _|refine exP ?_ ?_);all_goals try omega
   refine a2o (fun _:Unit=>St.of [] []) (fun _=>a3u t c=true) ?_ ?_
   ·refine a0l (fun k:Nat=>St.of [(104,chs 0 R),(105,i64 R.length),(106,i64 k)] []) (fun k=>k≤R.length∧(R.take k).all (fun x=>!(x.lines.any fun l=>!inB l.length 1 10))=true) (fun k=>R.length - k) 0 (by simp) (a1j (by (simp only [go_sem])<;>simp) hNm) ?_
    rintro k ⟨hk,hak⟩
    refine a0e _ _ _ ?_;simp only [go_sem,hG,hOw]
    (repeat' with_reducible first|refine And.intro ?_ ?_|intro _|refine exP ?_ ?_);all_goals try omega
    ·rename_i hlt
     have hkl:k < R.length:=by omega
     refine a0a (b6c (202) [] (fun l=>!inB l.length 1 10) R[k].lines rfl (fun l _=>d1t l)) ?_
     cases hx:R[k].lines.any (fun l=>!inB l.length 1 10) with
     |false =>
      simp only [go_sem,hG,hOw]
      (repeat' with_reducible first|refine And.intro ?_ ?_|intro _|refine exP ?_ ?_);all_goals try omega
      exact ⟨k+1,⟨by omega,a0u hkl hak (by rw [hx];rfl)⟩,by omega,a1j (by (simp only [go_sem])<;>simp) hNm⟩
     |true =>
      have hcb:a3u t c=false:=by rw [hall];exact a5z hkl (by rw [hx];rfl)
      simp (maxSteps:=2000000) only [go_sem,hG,hOw,hcb]
    ·rename_i hge
     rw [a1c hk hge] at hak
     exact ⟨(),by rw [hall];exact hak,a1j (by (simp only [go_sem])<;>simp) hNm⟩
   rintro _ hfull
   simp (maxSteps:=2000000) only [go_sem,hG,hOw,hfull]
  ·have h2':decide (20 < (c.rds.length:Int))=true:=decide_eq_true (by omega)
   simp (maxSteps:=2000000) only [go_sem,hG,hOw,h2',bad2 h2]
theorem b4f (t:List Ch) (ht:a1r t=true):a0o Tryz.prog 120 [txE 0 t] (fun n=>.tup [.fp [chs 0 t],i64 0]):=by
 refine a0b (ow:=fun _=>false) Tryz.func120 Tryz.ntmps120 rfl rfl fun G hG hOw hNm hB=>?_;simp only [go_sem,hG,hOw]
 refine a0a (a4j t) ?_
 simp (maxSteps:=2000000) only [go_sem,hG,hOw,ht]
theorem f4m (t:List Ch) (ht:a1r t=false):a0o Tryz.prog 120 [txE 0 t] (fun _=>.tup [.v (.pointer none),i64 10]):=by
 refine a0b (ow:=fun _=>false) Tryz.func120 Tryz.ntmps120 rfl rfl fun G hG hOw hNm hB=>?_;simp only [go_sem,hG,hOw]
 refine a0a (a4j t) ?_
 simp (maxSteps:=2000000) only [go_sem,hG,hOw,ht]
 (repeat' with_reducible first|refine And.intro ?_ ?_|intro _|refine exP ?_ ?_);all_goals try omega
def a6a (t:List Ch) (c:Cp):Int:=if a1r t then (if a3u t c then 0 else 11) else 10
theorem d1z (t:List Ch) (c:Cp) (ht:a1r t=true) (hc:a3u t c=true):a0o Tryz.prog 89 [txE 0 t,cpE 0 c] (fun n=>.tup [.fp [chs 0 t],i64 0]):=by
 refine a0b (ow:=fun _=>false) Tryz.func89 Tryz.ntmps89 rfl rfl fun G hG hOw hNm hB=>?_;simp only [go_sem,hG,hOw]
 refine a0a (b4f t ht) ?_
 simp only [go_sem,hG,hOw]
 refine a0a (c2l t ht c) ?_
 simp (maxSteps:=2000000) only [go_sem,hG,hOw,hc]
theorem d9i (t:List Ch) (c:Cp) (h:¬ a6a t c=0):a0o Tryz.prog 89 [txE 0 t,cpE 0 c] (fun _=>.tup [.v (.pointer none),i64 (a6a t c)]):=by
 refine a0b (ow:=fun _=>false) Tryz.func89 Tryz.ntmps89 rfl rfl fun G hG hOw hNm hB=>?_;simp only [go_sem,hG,hOw]
 cases ht:a1r t with
 |false =>
  refine a0a (f4m t ht) ?_
  have e:a6a t c=10:=by simp [a6a,ht]
  simp (maxSteps:=2000000) only [go_sem,hG,hOw,e]
  (repeat' with_reducible first|refine And.intro ?_ ?_|intro _|refine exP ?_ ?_);all_goals try omega
 |true =>
  refine a0a (b4f t ht) ?_
  simp only [go_sem,hG,hOw]
  refine a0a (c2l t ht c) ?_
  cases hc:a3u t c with
  |false =>
   have e:a6a t c=11:=by simp [a6a,ht,hc]
   simp (maxSteps:=2000000) only [go_sem,hG,hOw,e]
  |true=>exact absurd (by simp [a6a,ht,hc]) h
theorem b3r (t:List Ch) (c:Cp):a0o Tryz.prog 27 [txE 0 t,cpE 0 c] (fun _=>i64 (a6a t c)):=by
 refine a0b (ow:=fun _=>false) Tryz.func27 Tryz.ntmps27 rfl rfl fun G hG hOw hNm hB=>?_;simp only [go_sem,hG,hOw]
 by_cases h:a6a t c=0
 ·have ht:a1r t=true:=by
   cases ht:a1r t with
   |true=>rfl
   |false=>simp [a6a,ht] at h
  have hc:a3u t c=true:=by
   cases hc:a3u t c with
   |true=>rfl
   |false=>simp [a6a,ht,hc] at h
  refine a0a (d1z t c ht hc) ?_
  simp (maxSteps:=2000000) only [go_sem,hG,hOw,h]
 ·refine a0a (d9i t c h) ?_
  simp only [go_sem,hG,hOw]
end Go.Proofs.YtmjhfccbbfpppaaGreatDoor
