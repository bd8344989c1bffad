import Derived.Test.YtmjhfccbbfpppaaGreatDoorQZ08
import Derived.Test.YtmjhfccbbfpppaaGreatDoorQZ10
import Derived.Test.YtmjhfccbbfpppaaGreatDoorQZ14
namespace Go.Proofs.YtmjhfccbbfpppaaGreatDoor
open Go Pm
set_option linter.unusedSimpArgs false
set_option linter.unusedVariables false
abbrev Ln:=List ByteArray
def e9d (f:Ln→Int) (n:Int) (x:ByteArray):Ln→Int
 |[]=>n
 |y::b=>if x=y then f b else min (min (f b) (f (y::b))) (e9d f n x b)+1
def few:Ln→Ln→Int
 |[]=>fun b=>b.length
 |x::a=>e9d (few a) (a.length+1) x
theorem b9q (b:Ln):few [] b=b.length:=rfl
theorem b2z (x:ByteArray) (a:Ln):few (x::a) []=a.length+1:=rfl
theorem c0i (x y:ByteArray) (a b:Ln):few (x::a) (y::b)=if x=y then few a b else min (min (few a b) (few a (y::b))) (few (x::a) b)+1:=rfl
theorem d0a (a:Ln):few a []=a.length:=by
 cases a with
 |nil=>rfl
 |cons x a=>rw [b2z];simp
theorem f8f:∀ a b:Ln,0≤few a b∧few a b≤a.length+b.length:=by
 intro a
 induction a with
 |nil=>intro b;rw [b9q];simp
 |cons x a iha =>
  intro b
  induction b with
  |nil=>rw [b2z];simp;omega
  |cons y b ihb =>
   rw [c0i]
   have h1:=iha b
   have h2:=iha (y::b)
   simp only [List.length_cons,Int.natCast_add,Int.cast_ofNat_Int] at *
   split<;>omega
def a2n (a b:Ln) (i k:Nat):Int:=few (a.drop i) (b.drop k)
theorem a9i (a b:Ln) (i k:Nat):0≤a2n a b i k∧a2n a b i k≤a.length+b.length:=by
 have:=f8f (a.drop i) (b.drop k)
 simp only [List.length_drop] at this
 unfold a2n
 omega
theorem b1f (a b:Ln):a2n a b a.length b.length=0:=by simp [a2n,b9q]
theorem c8e (a b:Ln) (i k:Nat) (hi:i < a.length) (hk:k < b.length) (h:a[i]=b[k]):a2n a b i k=a2n a b (i+1) (k+1):=by
 unfold a2n
 rw [List.drop_eq_getElem_cons hi,List.drop_eq_getElem_cons hk,c0i,if_pos h]
theorem e4j (a b:Ln) (i k:Nat) (hi:i < a.length) (hk:k < b.length) (h:a[i]≠b[k]):a2n a b i k=min (min (a2n a b (i+1) (k+1)) (a2n a b (i+1) k)) (a2n a b i (k+1))+1:=by
 unfold a2n
 rw [List.drop_eq_getElem_cons hi,List.drop_eq_getElem_cons hk,c0i,if_neg h]
theorem f3r (a b:Ln) (i k:Nat) (hi:i < a.length) (hk:k=b.length):a2n a b i k=a2n a b (i+1) k+1:=by
 subst hk
 unfold a2n
 rw [List.drop_length,d0a,d0a,List.length_drop,List.length_drop];omega
theorem f3h (a b:Ln) (i k:Nat) (hi:i=a.length) (hk:k < b.length):a2n a b i k=a2n a b i (k+1)+1:=by
 subst hi
 unfold a2n
 rw [List.drop_length,b9q,b9q,List.length_drop,List.length_drop];omega
def sel (c:Prop) [Decidable c] (v:Int) (x:Int×Nat) (id:Nat):Int×Nat:=if c∧v < x.1 then (v,id) else x
def e4s (a b:Ln) (i k:Nat):Int×Nat:=sel (i+1≤a.length∧k+1≤b.length) (a2n a b (i+1) (k+1)) (a.length+b.length+1,0) 1
def e9m (a b:Ln) (i k:Nat):Int×Nat:=sel (i+1≤a.length) (a2n a b (i+1) k) (e4s a b i k) 2
def f4i (a b:Ln) (i k:Nat):Int×Nat:=sel (k+1≤b.length) (a2n a b i (k+1)) (e9m a b i k) 3
def a7n (a b:Ln) (i k:Nat):Nat→Int×Nat
 |0=>(a.length+b.length+1,0)
 |1=>e4s a b i k
 |2=>e9m a b i k
 |_=>f4i a b i k
def b2s:Nat→Nat×Nat
 |0=>(0,0)
 |1=>(1,1)
 |2=>(1,0)
 |_=>(0,1)
theorem b1c (a b:Ln) (i k:Nat) (hi:i≤a.length) (hk:k≤b.length) (hne:i < a.length∨k < b.length) (hd:∀ (h1:i < a.length) (h2:k < b.length),a[i]≠b[k]):(a7n a b i k 3).1+1=a2n a b i k ∧
  (a7n a b i k 3).2≤3∧0 < (a7n a b i k 3).2∧i+(b2s (a7n a b i k 3).2).1≤a.length∧k+(b2s (a7n a b i k 3).2).2≤b.length∧a2n a b (i+(b2s (a7n a b i k 3).2).1) (k+(b2s (a7n a b i k 3).2).2)=(a7n a b i k 3).1:=by
 have b1:=a9i a b (i+1) (k+1)
 have b2:=a9i a b (i+1) k
 have b3:=a9i a b i (k+1)
 by_cases h1:i < a.length
 ·by_cases h2:k < b.length
  ·rw [e4j a b i k h1 h2 (hd h1 h2)]
   have e1:e4s a b i k=(a2n a b (i+1) (k+1),1):=by unfold e4s sel;rw [if_pos ⟨⟨by omega,by omega⟩,by show _ < (_:Int);omega⟩]
   simp only [a7n,f4i,e9m,e1]
   unfold sel
   split<;>rename_i q1<;>split<;>rename_i q2<;>simp at q1 q2<;>simp [b2s]<;>omega
  ·rw [f3r a b i k h1 (by omega)]
   have e1:e4s a b i k=((a.length:Int)+b.length+1,0):=by unfold e4s sel;rw [if_neg (by omega)]
   have e2:e9m a b i k=(a2n a b (i+1) k,2):=by unfold e9m sel;rw [e1,if_pos ⟨by omega,by show _ < (_:Int);omega⟩]
   have e4:f4i a b i k=e9m a b i k:=by unfold f4i sel;rw [if_neg (by omega)]
   simp only [a7n,e4,e2,b2s]
   simp;omega
 ·rw [f3h a b i k (by omega) (by omega)]
  have e1:e4s a b i k=((a.length:Int)+b.length+1,0):=by unfold e4s sel;rw [if_neg (by omega)]
  have e2:e9m a b i k=e4s a b i k:=by unfold e9m sel;rw [if_neg (by omega)]
  have e4:f4i a b i k=(a2n a b i (k+1),3):=by unfold f4i sel;rw [e2,e1,if_pos ⟨by omega,by show _ < (_:Int);omega⟩]
  simp only [a7n,e4,b2s]
  simp;omega
open Go Pm
set_option maxHeartbeats 4000000
set_option maxRecDepth 100000
abbrev M2:=List ((Nat×Nat)×Int)
def mk2 (p:Nat×Nat):Value:=.agg ⟨[.int .i64 p.1,.int .i64 p.2]⟩
def a8p (m:M2):List (Value×V):=m.map fun q=>(mk2 q.1,.v (.int .i64 q.2))
def e2y:M2→Nat×Nat→Option Int
 |[],_=>none
 |q::r,p=>if q.1=p then some q.2 else e2y r p
def e2z:M2→Nat×Nat→Int→M2
 |[],p,v=>[(p,v)]
 |q::r,p,v=>if q.1=p then (p,v)::r else q::e2z r p v
theorem e5w (m:M2) (p q:Nat×Nat) (v:Int):e2y (e2z m p v) q=if p=q then some v else e2y m q:=by
 induction m with
 |nil=>simp [e2z,e2y]
 |cons x r ih =>
  unfold e2z
  split
  ·rename_i h
   simp only [e2y]
   split
   ·rfl
   ·rename_i h2;rw [if_neg (by rw [h];exact h2)]
  ·rename_i h
   simp only [e2y,ih]
   split
   ·rename_i h2
    rw [if_neg (fun h3=>h (by rw [h3,h2]))]
   ·rfl
theorem g2u (q p:Nat×Nat):b2u (mk2 q) (mk2 p)=decide (q=p):=by
 obtain ⟨a,b⟩:=q
 obtain ⟨c,d⟩:=p
 simp only [mk2,b2u,b6a,eqX,Bool.and_true]
 rw [show decide ((a,b)=(c,d))=(decide (a=c) && decide (b=d)) by simp [Prod.mk.injEq]]
 congr 1<;>(apply decide_eq_decide.2;omega)
theorem e4k (m:M2) (i k:Nat):lkM (a8p m) (.agg ⟨[.int .i64 i,.int .i64 k]⟩)=(e2y m (i,k)).map fun n=>.v (.int .i64 n):=by
 show lkM (a8p m) (mk2 (i,k))=_
 induction m with
 |nil=>rfl
 |cons x r ih =>
  simp only [a8p,List.map_cons,lkM,e2y,g2u] at ih ⊢
  by_cases h:x.1=(i,k)
  ·simp [h]
  ·simp [h,ih]
theorem b9i (m:M2) (i k:Nat) (v:Int):upM (a8p m) (.agg ⟨[.int .i64 i,.int .i64 k]⟩) (.v (.int .i64 v))=a8p (e2z m (i,k) v):=by
 show upM (a8p m) (mk2 (i,k)) _=_
 induction m with
 |nil=>rfl
 |cons x r ih =>
  simp only [a8p,List.map_cons,upM,e2z,g2u] at ih ⊢
  by_cases h:x.1=(i,k)
  ·simp [h]
  ·simp [h,ih]
theorem e4n {f:V→V→Prop} (hf:∀ n,f (.v (.int .i64 n)) (.v (.int .i64 n))) (m:M2):okL f ((a8p m).map fun q=>q.2) ((a8p m).map fun q=>q.2):=by
 induction m with
 |nil=>exact trivial
 |cons x r ih=>exact ⟨hf _,ih⟩
theorem e4r {f:V→V→Prop} (m:M2) (hf:∀ n,f (.v (.int .i64 n)) (.v (.int .i64 n))):okL f ((a8p m).map fun q=>q.2) ((a8p m).map fun q=>q.2)=True:=eq_true (e4n hf m)
theorem e6m {f:Value×V→Value×V} (m:M2) (hf:∀ k n,f (k,.v (.int .i64 n))=(k,.v (.int .i64 n))):(a8p m).map f=a8p m:=by
 induction m with
 |nil=>rfl
 |cons x r ih =>
  simp only [a8p,List.map_cons] at ih ⊢
  rw [hf,ih]
attribute [simp,go_sem] e4r
attribute [go_sem] e6m
def GoodM (f:Nat→Nat→Int) (m:M2):Prop:=∀ p v,e2y m p=some v→v=f p.1 p.2
theorem GoodM.put {f:Nat→Nat→Int} {m:M2} (h:GoodM f m) (i k:Nat) (v:Int) (hv:v=f i k):GoodM f (e2z m (i,k) v):=by
 intro p u hu
 rw [e5w] at hu
 split at hu
 ·rename_i e;cases hu;subst e;exact hv
 ·exact h p u hu
theorem GoodM.nil (f:Nat→Nat→Int):GoodM f []:=fun _ _ h=>by cases h
def f5z:List V:=[.v (.int .u8 3),i64 1,i64 1,.v (.int .u8 1),i64 1,i64 0,.v (.int .u8 2),i64 0,i64 1]
def wyk:Nat→Int
 |0=>0
 |1=>3
 |2=>1
 |_=>2
def wyo:Nat→Int
 |0=>0
 |1=>1
 |2=>1
 |_=>0
def wyt:Nat→Int
 |0=>0
 |1=>1
 |2=>0
 |_=>1
def g0w (n:Nat):List V:=[.v (.int .u8 (wyk n)),.v (.int .i64 (wyo n)),.v (.int .i64 (wyt n))]
attribute [simp,go_sem] g0w
theorem wk0:wyk 0=0∧wyo 0=0∧wyt 0=0:=⟨rfl,rfl,rfl⟩
theorem wk1:wyk 1=3∧wyo 1=1∧wyt 1=1:=⟨rfl,rfl,rfl⟩
theorem wk2:wyk 2=1∧wyo 2=1∧wyt 2=0:=⟨rfl,rfl,rfl⟩
theorem wk3:wyk 3=2∧wyo 3=0∧wyt 3=1:=⟨rfl,rfl,rfl⟩
def hR (a b:Ln) (m:M2):List (Nat×OB):=[(108,.box [.mp 121]),(121,.map (.agg [.int .i64,.int .i64]) (a8p m)),
 (109,.box [.fn (.func 198) [.ptr 108 0,.fp [a0p 0 a],.fp [a0p 0 b],.ptr 109 0,.ptr 110 0]]),
 (110,.box [.fn (.func 197) [.fp [a0p 0 a],.fp [a0p 0 b],.fp f5z,.ptr 109 0]])]
attribute [simp,go_sem] hR f5z
def f6o (a b:Ln) (N:Nat):Prop:=∀ (i k:Nat) (m:M2),i≤a.length→k≤b.length→(a.length - i)+(b.length - k) < N→GoodM (a2n a b) m →
 ∃ m',GoodM (a2n a b) m'∧Tri Tryz.prog 198 [i64 i,i64 k,.ptr 108 0,.fp [a0p 0 a],.fp [a0p 0 b],.ptr 109 0,.ptr 110 0] (hR a b m) (fun _=>.ret (i64 (a2n a b i k)) (hR a b m'))
theorem d8l (a b:Ln) (ha:a.length≤1000) (hb:b.length≤1000) (N:Nat) (ih:f6o a b N) (i k:Nat) (hi:i≤a.length) (hk:k≤b.length) (hr:(a.length - i)+(b.length - k)≤N) (m:M2) (hm:GoodM (a2n a b) m) :
  ∃ m',GoodM (a2n a b) m'∧Tri Tryz.prog 197 [i64 i,i64 k,.fp [a0p 0 a],.fp [a0p 0 b],.fp f5z,.ptr 109 0] (hR a b m)
   (fun _=>.ret (.tup [.agg (g0w (a7n a b i k 3).2),i64 (a7n a b i k 3).1]) (hR a b m')):=by
 have step:∀ (c:Prop) (i' k':Nat) (m:M2),GoodM (a2n a b) m→(c→i'≤a.length∧k'≤b.length∧(a.length - i')+(b.length - k') < N)→∃ m',GoodM (a2n a b) m' ∧
   (c→Tri Tryz.prog 198 [i64 i',i64 k',.ptr 108 0,.fp [a0p 0 a],.fp [a0p 0 b],.ptr 109 0,.ptr 110 0] (hR a b m) (fun _=>.ret (i64 (a2n a b i' k')) (hR a b m')))∧(¬ c→m'=m):=by
  intro c i' k' m hm hc
  by_cases h:c
  ·obtain ⟨q1,q2,q3⟩:=hc h
   obtain ⟨m',g1,g2⟩:=ih i' k' m q1 q2 q3 hm
   exact ⟨m',g1,fun _=>g2,fun h'=>(h' h).elim⟩
  ·exact ⟨m,hm,fun h'=>(h h').elim,fun _=>rfl⟩
 obtain ⟨m1,g1,t1,u1⟩:=step (i+1≤a.length∧k+1≤b.length) (i+1) (k+1) m hm (fun h=>⟨h.1,h.2,by omega⟩)
 obtain ⟨m2,g2,t2,u2⟩:=step (i+1≤a.length) (i+1) k m1 g1 (fun h=>⟨h,hk,by omega⟩)
 obtain ⟨m3,g3,t3,u3⟩:=step (k+1≤b.length) i (k+1) m2 g2 (fun h=>⟨hi,h,by omega⟩)
 refine ⟨m3,g3,?_⟩
 obtain ⟨mm,h0,h1,h2,h3⟩:∃ mm:Nat→M2,mm 0=m∧mm 1=m1∧mm 2=m2∧mm 3=m3:=⟨fun|0=>m|1=>m1|2=>m2|_=>m3,rfl,rfl,rfl,rfl⟩
 obtain ⟨wy,hwy⟩:∃ wy:Nat→Int×Nat,wy=a7n a b i k:=⟨_,rfl⟩
 have w0:wy 0=((a.length:Int)+b.length+1,0):=by rw [hwy];rfl
 have w1:wy 1=sel (i+1≤a.length∧k+1≤b.length) (a2n a b (i+1) (k+1)) (wy 0) 1:=by rw [hwy];rfl
 have w2:wy 2=sel (i+1≤a.length) (a2n a b (i+1) k) (wy 1) 2:=by rw [hwy];rfl
 have w3:wy 3=sel (k+1≤b.length) (a2n a b i (k+1)) (wy 2) 3:=by rw [hwy];rfl
 rw [← hwy,← h3]
 rw [← h0]
 refine a0j (fun _=>false) Tryz.func197 Tryz.ntmps197 rfl rfl fun G hG hOw hNm=>?_;simp only [go_sem,hG,hOw]
 (repeat' with_reducible first|refine And.intro ?_ ?_|intro _|refine exP ?_ ?_);all_goals try omega
 refine a0m (fun j:Nat=>St.of [(0,i64 i),(1,i64 k),(2,.fp [a0p 0 a]),(3,.fp [a0p 0 b]),(5,.ptr 109 0),(8,.ptr 8 0),(9,i64 (wy j).1),(19,.agg f5z),(20,i64 j)] ((8,.box (g0w (wy j).2))::hR a b (mm j))) (fun j=>j≤3) (fun j=>3 - j) 0 (by simp) (a2d [(8,some 8),(108,some 108),(121,some 121),(109,some 109),(110,some 110)] (by (simp only [go_sem])<;>simp [w0,wk0]) (by (simp only [go_sem,a1k,a0r,a0i,a1p])<;>simp [w0,wk0])) ?_
 rintro j hj
 have c0:((0:Nat):Int)=0:=rfl
 have c1:((1:Nat):Int)=1:=rfl
 have c2:((2:Nat):Int)=2:=rfl
 have c3:((3:Nat):Int)=3:=rfl
 have i1:Int.toNat 1=1:=rfl
 have i2:Int.toNat 2=2:=rfl
 have hj4:j=0∨j=1∨j=2∨j=3:=by omega
 rcases hj4 with rfl|rfl|rfl|rfl
 ·have no:¬ (i+1≤a.length∧k+1≤b.length)→wy 1=wy 0∧mm 1=mm 0:=fun h=>⟨by rw [w1];unfold sel;rw [if_neg (fun h'=>h h'.1)],by rw [h0,h1];exact u1 h⟩
  refine a0d _ _ _ ?_
  simp (maxSteps:=2000000) only [go_sem,hG,hOw,c0,c1,c2,c3,i1,i2,Nat.reduceMul,Int.add_zero]
  (repeat' with_reducible first|refine And.intro ?_ ?_|intro _|refine exP ?_ ?_);all_goals try omega
  all_goals first
   |(obtain ⟨e,em⟩:=no (by omega)
     refine ⟨1,by omega,by omega,?_⟩
     rw [e,em]
     exact a2d [(8,some 8),(108,some 108),(121,some 121),(109,some 109),(110,some 110)])
   |skip
  have T:=t1 (by omega)
  rw [← h0,← h1] at T
  simp only [Int.natCast_add,Int.cast_ofNat_Int] at T
  refine a0c [(108,108),(121,121),(109,109),(110,110)] [] (T) ?_
  simp only [go_sem,hG,hOw]
  (repeat' with_reducible first|refine And.intro ?_ ?_|intro _|refine exP ?_ ?_);all_goals try omega
  ·rename_i hlt
   have e:wy 1=(a2n a b (i+1) (k+1),1):=by rw [w1];unfold sel;rw [if_pos ⟨by omega,hlt⟩]
   refine ⟨1,by omega,by omega,?_⟩
   rw [e]
   exact a2d [(8,some 8),(108,some 108),(121,some 121),(109,some 109),(110,some 110)] (by (simp only [go_sem])<;>simp [wk1,wk2,wk3]) (by (simp only [go_sem,a1k,a0r,a0i,a1p])<;>simp [wk1,wk2,wk3])
  ·rename_i hge
   have e:wy 1=wy 0:=by rw [w1];unfold sel;rw [if_neg (fun h'=>hge h'.2)]
   refine ⟨1,by omega,by omega,?_⟩
   rw [e]
   exact a2d [(8,some 8),(108,some 108),(121,some 121),(109,some 109),(110,some 110)]
 ·have no:¬ (i+1≤a.length)→wy 2=wy 1∧mm 2=mm 1:=fun h=>⟨by rw [w2];unfold sel;rw [if_neg (fun h'=>h h'.1)],by rw [h1,h2];exact u2 h⟩
  refine a0d _ _ _ ?_
  simp (maxSteps:=2000000) only [go_sem,hG,hOw,c0,c1,c2,c3,i1,i2,Nat.reduceMul,Int.add_zero]
  (repeat' with_reducible first|refine And.intro ?_ ?_|intro _|refine exP ?_ ?_);all_goals try omega
  all_goals first
   |(obtain ⟨e,em⟩:=no (by omega)
     refine ⟨2,by omega,by omega,?_⟩
     rw [e,em]
     exact a2d [(8,some 8),(108,some 108),(121,some 121),(109,some 109),(110,some 110)])
   |skip
  have T:=t2 (by omega)
  rw [← h1,← h2] at T
  simp only [Int.natCast_add,Int.cast_ofNat_Int] at T
  refine a0c [(108,108),(121,121),(109,109),(110,110)] [] (T) ?_
  simp only [go_sem,hG,hOw]
  (repeat' with_reducible first|refine And.intro ?_ ?_|intro _|refine exP ?_ ?_);all_goals try omega
  ·rename_i hlt
   have e:wy 2=(a2n a b (i+1) k,2):=by rw [w2];unfold sel;rw [if_pos ⟨by omega,hlt⟩]
   refine ⟨2,by omega,by omega,?_⟩
   rw [e]
   exact a2d [(8,some 8),(108,some 108),(121,some 121),(109,some 109),(110,some 110)] (by (simp only [go_sem])<;>simp [wk1,wk2,wk3]) (by (simp only [go_sem,a1k,a0r,a0i,a1p])<;>simp [wk1,wk2,wk3])
  ·rename_i hge
   have e:wy 2=wy 1:=by rw [w2];unfold sel;rw [if_neg (fun h'=>hge h'.2)]
   refine ⟨2,by omega,by omega,?_⟩
   rw [e]
   exact a2d [(8,some 8),(108,some 108),(121,some 121),(109,some 109),(110,some 110)]
 ·have no:¬ (k+1≤b.length)→wy 3=wy 2∧mm 3=mm 2:=fun h=>⟨by rw [w3];unfold sel;rw [if_neg (fun h'=>h h'.1)],by rw [h2,h3];exact u3 h⟩
  refine a0d _ _ _ ?_
  simp (maxSteps:=2000000) only [go_sem,hG,hOw,c0,c1,c2,c3,i1,i2,Nat.reduceMul,Int.add_zero]
  (repeat' with_reducible first|refine And.intro ?_ ?_|intro _|refine exP ?_ ?_);all_goals try omega
  all_goals first
   |(obtain ⟨e,em⟩:=no (by omega)
     refine ⟨3,by omega,by omega,?_⟩
     rw [e,em]
     exact a2d [(8,some 8),(108,some 108),(121,some 121),(109,some 109),(110,some 110)])
   |skip
  have T:=t3 (by omega)
  rw [← h2,← h3] at T
  simp only [Int.natCast_add,Int.cast_ofNat_Int] at T
  refine a0c [(108,108),(121,121),(109,109),(110,110)] [] (T) ?_
  simp only [go_sem,hG,hOw]
  (repeat' with_reducible first|refine And.intro ?_ ?_|intro _|refine exP ?_ ?_);all_goals try omega
  ·rename_i hlt
   have e:wy 3=(a2n a b i (k+1),3):=by rw [w3];unfold sel;rw [if_pos ⟨by omega,hlt⟩]
   refine ⟨3,by omega,by omega,?_⟩
   rw [e]
   exact a2d [(8,some 8),(108,some 108),(121,some 121),(109,some 109),(110,some 110)] (by (simp only [go_sem])<;>simp [wk1,wk2,wk3]) (by (simp only [go_sem,a1k,a0r,a0i,a1p])<;>simp [wk1,wk2,wk3])
  ·rename_i hge
   have e:wy 3=wy 2:=by rw [w3];unfold sel;rw [if_neg (fun h'=>hge h'.2)]
   refine ⟨3,by omega,by omega,?_⟩
   rw [e]
   exact a2d [(8,some 8),(108,some 108),(121,some 121),(109,some 109),(110,some 110)]
 ·refine a0d _ _ _ ?_
  simp (maxSteps:=2000000) only [go_sem,hG,hOw,c0,c1,c2,c3,i1,i2,Nat.reduceMul]
  (repeat' with_reducible first|refine And.intro ?_ ?_|intro _|refine exP ?_ ?_);all_goals try omega
  exact (a3x [(108,some 108),(121,some 121),(109,some 109),(110,some 110)])
open Go Pm
set_option maxHeartbeats 4000000
set_option maxRecDepth 100000
theorem d4r (a b:Ln) (ha:a.length≤1000) (hb:b.length≤1000):∀ N,f6o a b N:=by
 intro N
 induction N with
 |zero=>intro i k m _ _ h;omega
 |succ N ih =>
  intro i k m hi hk hr hm
  have lk:=e4k m i k
  have bd:=a9i a b i k
  cases hg:e2y m (i,k) with
  |some v =>
   refine ⟨m,hm,?_⟩
   rw [hg] at lk
   have hv:=hm _ _ hg
   simp only at hv
   subst hv
   refine a0j (fun _=>false) Tryz.func198 Tryz.ntmps198 rfl rfl fun G hG hOw hNm=>?_;simp only [go_sem,hG,hOw]
   simp (maxSteps:=2000000) only [go_sem,hG,hOw,lk,Option.map_some,Option.isSome_some,Option.getD_some]
   (repeat' with_reducible first|refine And.intro ?_ ?_|intro _|refine exP ?_ ?_);all_goals try omega
   exact (a3x [(108,some 108),(121,some 121),(109,some 109),(110,some 110)])
  |none =>
   rw [hg] at lk
   by_cases hend:i=a.length∧k=b.length
   ·obtain ⟨rfl,rfl⟩:=hend
    have up:=b9i m a.length b.length 0
    have e0:=b1f a b
    refine ⟨e2z m (a.length,b.length) 0,hm.put _ _ _ (b1f a b).symm,?_⟩
    refine a0j (fun _=>false) Tryz.func198 Tryz.ntmps198 rfl rfl fun G hG hOw hNm=>?_;simp only [go_sem,hG,hOw]
    simp (maxSteps:=2000000) only [go_sem,hG,hOw,lk,up,Option.map_none,Option.isSome_none,Option.getD_none]
    (repeat' with_reducible first|refine And.intro ?_ ?_|intro _|refine exP ?_ ?_);all_goals try omega
    exact ⟨[(108,some 108),(121,some 121),(109,some 109),(110,some 110)],by (simp only [b6w,go_sem,a1k,a0r,a0i,a1p,apart,a2p,a0k])<;>simp [e0]⟩
   ·by_cases heq:∃ (h1:i < a.length) (h2:k < b.length),a[i]=b[k]
    ·obtain ⟨h1,h2,heq⟩:=heq
     have e1:=c8e a b i k h1 h2 heq
     obtain ⟨m1,g1,T⟩:=ih (i+1) (k+1) m (by omega) (by omega) (by omega) hm
     rw [← e1] at T
     simp only [Int.natCast_add,Int.cast_ofNat_Int] at T
     have up:=b9i m1 i k (a2n a b i k)
     refine ⟨e2z m1 (i,k) (a2n a b i k),g1.put _ _ _ rfl,?_⟩
     refine a0j (fun _=>false) Tryz.func198 Tryz.ntmps198 rfl rfl fun G hG hOw hNm=>?_;simp only [go_sem,hG,hOw]
     simp (maxSteps:=2000000) only [go_sem,hG,hOw,lk,Option.map_none,Option.isSome_none,Option.getD_none]
     (repeat' with_reducible first|refine And.intro ?_ ?_|intro _|refine exP ?_ ?_);all_goals try omega
     refine a0s mixed (by kernel_rfl) ?_
     simp (maxSteps:=2000000) only [go_sem,hG,hOw,heq,decide_true]
     (repeat' with_reducible first|refine And.intro ?_ ?_|intro _|refine exP ?_ ?_);all_goals try omega
     refine a0c [(108,108),(121,121),(109,109),(110,110)] [] (T) ?_
     simp (maxSteps:=2000000) only [go_sem,hG,hOw,up]
     (repeat' with_reducible first|refine And.intro ?_ ?_|intro _|refine exP ?_ ?_);all_goals try omega
     exact (a3x [(108,some 108),(121,some 121),(109,some 109),(110,some 110)])
    ·have hd:∀ (h1:i < a.length) (h2:k < b.length),a[i]≠b[k]:=fun h1 h2 h=>heq ⟨h1,h2,h⟩
     have hdf:∀ (h1:i < a.length) (h2:k < b.length),(a[i]=b[k])=False:=fun h1 h2=>eq_false (hd h1 h2)
     obtain ⟨e1,_⟩:=b1c a b i k hi hk (by omega) hd
     obtain ⟨m1,g1,T⟩:=d8l a b ha hb N ih i k hi hk (by omega) m hm
     obtain ⟨wn,hwn⟩:∃ n,n=(a7n a b i k 3).1:=⟨_,rfl⟩
     obtain ⟨wy,hwy⟩:∃ n,n=(a7n a b i k 3).2:=⟨_,rfl⟩
     rw [← hwn,← hwy] at T
     rw [← hwn] at e1
     have up:=b9i m1 i k (a2n a b i k)
     refine ⟨e2z m1 (i,k) (a2n a b i k),g1.put _ _ _ rfl,?_⟩
     refine a0j (fun _=>false) Tryz.func198 Tryz.ntmps198 rfl rfl fun G hG hOw hNm=>?_;simp only [go_sem,hG,hOw]
     simp (maxSteps:=2000000) only [go_sem,hG,hOw,lk,Option.map_none,Option.isSome_none,Option.getD_none]
     (repeat' with_reducible first|refine And.intro ?_ ?_|intro _|refine exP ?_ ?_);all_goals try omega
     all_goals refine a0s mixed (by kernel_rfl) ?_
     all_goals simp (maxSteps:=2000000) only [go_sem,hG,hOw,hdf,decide_false]
     all_goals (repeat' with_reducible first|refine And.intro ?_ ?_|intro _|refine exP ?_ ?_);all_goals try omega
     all_goals refine a0c [(108,108),(121,121),(109,109),(110,110)] [] (T) ?_
     all_goals simp (maxSteps:=2000000) only [go_sem,hG,hOw,e1,up]
     all_goals (repeat' with_reducible first|refine And.intro ?_ ?_|intro _|refine exP ?_ ?_);all_goals try omega
     all_goals exact (a3x [(108,some 108),(121,some 121),(109,some 109),(110,some 110)])
open Go Pm
set_option maxHeartbeats 4000000
set_option maxRecDepth 100000
def rdz (a b:Ln) (c l:Int):Nat→Nat→Nat→List (List V)
 |0,_,_=>[]
 |n+1,i,k =>
  if i=a.length∧k=b.length then []
  else if i < a.length∧k < b.length∧a[i]? = b[k]? then rdz a b c l n (i+1) (k+1)
  else
   [.v (.int .i64 c),.v (.int .i64 l),.v (.int .i64 i),.v (.int .u8 (wyk (a7n a b i k 3).2)),.v (.string (if wyt (a7n a b i k 3).2=1 then (b[k]?).getD ByteArray.empty else ByteArray.empty))]
    :: rdz a b c l n (i+(b2s (a7n a b i k 3).2).1) (k+(b2s (a7n a b i k 3).2).2)
theorem f7c (n:Nat):wyt n=((b2s n).2:Int):=by
 match n with
 |0=>rfl
 |1=>rfl
 |2=>rfl
 |n+3=>rfl
theorem f6n (n:Nat):wyo n=((b2s n).1:Int):=by
 match n with
 |0=>rfl
 |1=>rfl
 |2=>rfl
 |n+3=>rfl
theorem c0p (n:Nat) (h:0 < n):0 < (b2s n).1+(b2s n).2∧(b2s n).2≤1:=by
 match n with
 |1=>decide
 |2=>decide
 |n+3=>exact ⟨by show 0 < 0+1;omega,Nat.le_refl _⟩
theorem e1t (a b:Ln) (c l:Int):∀ (n i k:Nat),i≤a.length→k≤b.length→(a.length - i)+(b.length - k)≤n→((rdz a b c l n i k).length:Int)=a2n a b i k:=by
 intro n
 induction n with
 |zero =>
  intro i k hi hk h
  obtain rfl:i=a.length:=by omega
  obtain rfl:k=b.length:=by omega
  rw [b1f];rfl
 |succ n ih =>
  intro i k hi hk h
  unfold rdz
  split
  ·rename_i he
   obtain ⟨rfl,rfl⟩:=he
   rw [b1f];rfl
  ·rename_i hne
   split
   ·rename_i he
    obtain ⟨h1,h2,h3⟩:=he
    rw [List.getElem?_eq_getElem h1,List.getElem?_eq_getElem h2,Option.some.injEq] at h3
    rw [c8e a b i k h1 h2 h3]
    exact ih _ _ (by omega) (by omega) (by omega)
   ·rename_i hd
    obtain ⟨q1,q2,q3,q4,q5,q6⟩:=b1c a b i k hi hk (by omega) fun h1 h2 e=>hd ⟨h1,h2,by rw [List.getElem?_eq_getElem h1,List.getElem?_eq_getElem h2,e]⟩
    have:=c0p _ q3
    rw [List.length_cons,← q1,← q6]
    have:=ih (i+(b2s (a7n a b i k 3).2).1) (k+(b2s (a7n a b i k 3).2).2) q4 q5 (by omega)
    omega
theorem d7s:a8p []=[]:=rfl
attribute [simp,go_sem] d7s
def hL (a b:Ln) (m:M2):List (Nat×OB):=[(8,.box [.mp 21]),(21,.map (.agg [.int .i64,.int .i64]) (a8p m)),
 (9,.box [.fn (.func 198) [.ptr 8 0,.fp [a0p 0 a],.fp [a0p 0 b],.ptr 9 0,.ptr 10 0]]),
 (10,.box [.fn (.func 197) [.fp [a0p 0 a],.fp [a0p 0 b],.fp f5z,.ptr 9 0]])]
attribute [simp,go_sem] hL
theorem c5k (a b:Ln) (ha:a.length≤1000) (hb:b.length≤1000) (c l:Int):a0n Tryz.prog 147 [a0p 0 a,a0p 0 b,.agg [i64 c,i64 l,i64 0]] (fun n=>.lst n 5 (rdz a b c l (a.length+b.length) 0 0)):=by
 refine a0b (ow:=fun _=>false) Tryz.func147 Tryz.ntmps147 rfl rfl fun G hG hOw hNm hB=>?_;simp only [go_sem,hG,hOw]
 (repeat' with_reducible first|refine And.intro ?_ ?_|intro _|refine exP ?_ ?_);all_goals try omega
 obtain ⟨R,hR⟩:∃ R,R=rdz a b c l (a.length+b.length) 0 0:=⟨_,rfl⟩
 rw [← hR]
 have hRl:R.length≤2000:=by
  have h1:=e1t a b c l (a.length+b.length) 0 0 (by omega) (by omega) (by omega)
  have h2:=a9i a b 0 0
  rw [← hR] at h1
  omega
 refine a0m (fun x:Nat×Nat×List (List V)×M2=>St.of [(3,.fp [a0p 0 a]),(4,.fp [a0p 0 b]),(5,.fp [i64 c,i64 l,i64 0]),(10,.ptr 10 0),(11,.own 30 0 x.2.2.1.length 5),(12,i64 x.1),(13,i64 x.2.1)] ((30,.arr 148 5 x.2.2.1)::hL a b x.2.2.2))
  (fun x=>x.1≤a.length∧x.2.1≤b.length∧GoodM (a2n a b) x.2.2.2∧∃ n,(a.length - x.1)+(b.length - x.2.1)≤n∧x.2.2.1++rdz a b c l n x.1 x.2.1=R) (fun x=>(a.length - x.1)+(b.length - x.2.1)) (0,0,[],[]) ⟨by simp,by simp,GoodM.nil _,a.length+b.length,by simp,by simp [hR]⟩
  (b5q (fun i=>[3,4,5,7].contains i) (a2d [(8,some 8),(21,some 21),(9,some 9),(10,some 10),(30,none)])) ?_
 rintro ⟨i,k,L,m⟩ ⟨hi,hk,hm,n,hn,hL⟩
 simp only at hi hk hm hn hL
 have hLl:L.length≤2000:=by rw [← hL,List.length_append] at hRl;omega
 refine a0d _ _ _ ?_
 by_cases hend:i=a.length∧k=b.length
 ·obtain ⟨rfl,rfl⟩:=hend
  have e:rdz a b c l n a.length b.length=[]:=by
   cases n with
   |zero=>rfl
   |succ n=>unfold rdz;rw [if_pos ⟨rfl,rfl⟩]
  rw [e,List.append_nil] at hL
  subst hL
  simp only [go_sem,hG,hOw]
  (repeat' with_reducible first|refine And.intro ?_ ?_|intro _|refine exP ?_ ?_);all_goals try omega
  all_goals exact .refl _
 obtain ⟨n,rfl⟩:∃ n',n=n'+1:=⟨n - 1,by omega⟩
 by_cases heq:∃ (h1:i < a.length) (h2:k < b.length),a[i]=b[k]
 ·obtain ⟨h1,h2,heq⟩:=heq
  have e:rdz a b c l (n+1) i k=rdz a b c l n (i+1) (k+1):=by
   conv=>lhs;unfold rdz
   rw [if_neg hend,if_pos ⟨h1,h2,by rw [List.getElem?_eq_getElem h1,List.getElem?_eq_getElem h2,heq]⟩]
  rw [e] at hL
  simp only [go_sem,hG,hOw]
  (repeat' with_reducible first|refine And.intro ?_ ?_|intro _|refine exP ?_ ?_);all_goals try omega
  refine a0s mixed (by kernel_rfl) ?_
  simp (maxSteps:=2000000) only [go_sem,hG,hOw,heq,decide_true]
  (repeat' with_reducible first|refine And.intro ?_ ?_|intro _|refine exP ?_ ?_);all_goals try omega
  refine ⟨(i+1,k+1,L,m),⟨by simp only;omega,by simp only;omega,hm,n,by simp only;omega,hL⟩,by simp only;omega,?_⟩
  exact a2d [(8,some 8),(21,some 21),(9,some 9),(10,some 10),(30,some 30)]
 ·have hd:∀ (h1:i < a.length) (h2:k < b.length),a[i]≠b[k]:=fun h1 h2 h=>heq ⟨h1,h2,h⟩
  have hdf:∀ (h1:i < a.length) (h2:k < b.length),(a[i]=b[k])=False:=fun h1 h2=>eq_false (hd h1 h2)
  obtain ⟨q1,q2,q3,q4,q5,q6⟩:=b1c a b i k hi hk (by omega) hd
  obtain ⟨m1,g1,T⟩:=d8l a b ha hb _ (d4r a b ha hb _) i k hi hk (Nat.le_refl _) m hm
  have e:rdz a b c l (n+1) i k=[.v (.int .i64 c),.v (.int .i64 l),.v (.int .i64 i),.v (.int .u8 (wyk (a7n a b i k 3).2)),.v (.string (if wyt (a7n a b i k 3).2=1 then (b[k]?).getD ByteArray.empty else ByteArray.empty))]
    :: rdz a b c l n (i+(b2s (a7n a b i k 3).2).1) (k+(b2s (a7n a b i k 3).2).2):=by
   conv=>lhs;unfold rdz
   rw [if_neg hend,if_neg (fun h=>by
    obtain ⟨h1,h2,h3⟩:=h
    rw [List.getElem?_eq_getElem h1,List.getElem?_eq_getElem h2,Option.some.injEq] at h3
    exact hd h1 h2 h3)]
  have z1:=f7c (a7n a b i k 3).2
  have z2:=f6n (a7n a b i k 3).2
  have z3:=c0p _ q3
  obtain ⟨w,hw⟩:∃ w,w=(a7n a b i k 3).2:=⟨_,rfl⟩
  obtain ⟨wn,hwn⟩:∃ w,w=(a7n a b i k 3).1:=⟨_,rfl⟩
  rw [← hw] at e q2 q3 q4 q5 z1 z2 z3
  rw [← hw,← hwn] at T
  obtain ⟨p,hp⟩:∃ p,p=(b2s w).1:=⟨_,rfl⟩
  obtain ⟨q,hq⟩:∃ q,q=(b2s w).2:=⟨_,rfl⟩
  rw [← hp] at e q4 z2 z3
  rw [← hq] at e q5 z1 z3
  obtain ⟨row,hrow⟩:∃ row:List V,row=[.v (.int .i64 c),.v (.int .i64 l),.v (.int .i64 i),.v (.int .u8 (wyk w)),.v (.string (if wyt w=1 then (b[k]?).getD ByteArray.empty else ByteArray.empty))]:=⟨_,rfl⟩
  rw [← hrow] at e
  rw [e] at hL
  clear hw hwn hp hq q1 q6 e
  simp only [go_sem,hG,hOw]
  (repeat' with_reducible first|refine And.intro ?_ ?_|intro _|refine exP ?_ ?_);all_goals try omega
  all_goals refine a0s mixed (by kernel_rfl) ?_
  all_goals simp (maxSteps:=2000000) only [go_sem,hG,hOw,hdf,decide_false]
  all_goals (repeat' with_reducible first|refine And.intro ?_ ?_|intro _|refine exP ?_ ?_);all_goals try omega
  all_goals refine a0c [(108,8),(121,21),(109,9),(110,10)] [] (T) ?_
  all_goals simp only [go_sem,hG,hOw]
  all_goals (repeat' with_reducible first|refine And.intro ?_ ?_|intro _|refine exP ?_ ?_);all_goals try omega
  all_goals refine a0s mixed (by kernel_rfl) ?_
  all_goals simp only [go_sem,hG,hOw]
  all_goals (repeat' with_reducible first|refine And.intro ?_ ?_|intro _|refine exP ?_ ?_);all_goals try omega
  all_goals
   rename_i hw1
   first
    |rw [if_pos hw1,List.getElem?_eq_getElem (show k < b.length by omega),Option.getD_some] at hrow
    |rw [if_neg hw1] at hrow
   refine ⟨(i+p,k+q,L++[row],m1),⟨by simp only;omega,by simp only;omega,g1,n,by simp only;omega,by simp only;rw [List.append_assoc];exact hL⟩,by simp only;omega,?_⟩
   exact a2d [(8,some 8),(21,some 21),(9,some 9),(10,some 10),(30,some 86)] (by (simp only [go_sem])<;>simp [hrow,z1,z2]) (by (simp only [go_sem,a1k,a0r,a0i,a1p])<;>simp [hrow,z1,z2])
end Go.Proofs.YtmjhfccbbfpppaaGreatDoor
