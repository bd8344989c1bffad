import Derived.Test.YtmjhfccbbfpppaaGreatDoorQW27
import Derived.Test.YtmjhfccbbfpppaaGreatDoorQW28
import Derived.Test.YtmjhfccbbfpppaaGreatDoorQW30
import Derived.Test.YtmjhfccbbfpppaaGreatDoorQW38
import Derived.Test.YtmjhfccbbfpppaaGreatDoorQW43
import Derived.Test.YtmjhfccbbfpppaaGreatDoorQW45
namespace Go.Proofs.YtmjhfccbbfpppaaGreatDoor
open Go Pm
set_option linter.unusedSimpArgs false
set_option linter.unusedVariables false
theorem c1b:∀ a b:List UInt8,a3a (a++32::b)=a3a a++a3a b
 |[],b=>by simp [a3a]
 |c::r,b=>by
  have ih:=c1b r b
  have hne:=b6v r
  rw [List.cons_append,a3a,ih,a3a]
  by_cases hc:c=32
  ·rw [if_pos hc,if_pos hc];rfl
  ·rw [if_neg hc,if_neg hc]
   cases hp:a3a r with
   |nil=>exact (hne hp).elim
   |cons x l=>rfl
theorem c6w (a b:ByteArray):a0y (a++(⟨#[32]⟩++b))=a0y a++a0y b:=by
 have e:(a++((⟨#[32]⟩:ByteArray)++b)).data.toList=a.data.toList++32::b.data.toList:=by simp
 unfold a0y
 rw [e,c1b,List.map_append]
theorem join_cons (a b:ByteArray) (l:List ByteArray):a1b (a::b::l)=a++(⟨#[32]⟩++a1b (b::l)):=by
 refine c7l ?_
 simp only [a1b,b0d,ByteArray.data_append,Array.toList_append]
 simp [List.intercalate,List.intersperse]
theorem a4p:∀ l:List ByteArray,l≠[]→a0y (a1b l)=l.flatMap a0y
 |[],h=>(h rfl).elim
 |[a],_=>by rw [d1y];simp
 |a::b::l,_=>by
  rw [join_cons,c6w,a4p (b::l) (by simp)]
  rfl
def c2c:List (List UInt8)→List UInt8
 |[]=>[]
 |[a]=>a
 |a::b::l=>a++32::c2c (b::l)
theorem b7r:∀ l,c2c (a3a l)=l
 |[]=>rfl
 |b::r=>by
  have ih:=b7r r
  have hne:=b6v r
  unfold a3a
  by_cases hc:b=32
  ·rw [if_pos hc]
   cases hp:a3a r with
   |nil=>exact (hne hp).elim
   |cons x l=>rw [hp] at ih;simp only [c2c,List.nil_append];rw [ih,hc]
  ·rw [if_neg hc]
   cases hp:a3a r with
   |nil=>exact (hne hp).elim
   |cons x l =>
    rw [hp] at ih
    cases l with
    |nil=>simp only [c2c] at ih ⊢;rw [ih]
    |cons y q=>simp only [c2c,List.cons_append] at ih ⊢;rw [ih]
theorem b9v:∀ l:List (List UInt8),(a1b (l.map bA)).data.toList=c2c l
 |[]=>by simp [e9h,c2c]
 |[a]=>by simp only [List.map_cons,List.map_nil,d1y,b0d,c2c]
 |a::b::l=>by
  have ih:=b9v (b::l)
  simp only [List.map_cons] at ih ⊢
  rw [join_cons]
  simp only [ByteArray.data_append,Array.toList_append,ih,b0d,c2c]
  rfl
theorem c0p (s:ByteArray):a1b (a0y s)=s:=by
 refine c7l ?_
 unfold a0y
 rw [b9v,b7r]
theorem a4x {a b:ByteArray} (h:a0y a=a0y b):a=b:=by rw [← c0p a,h,c0p]
def a9o (s:ByteArray):Prop:=∀ b ∈ s.data.toList,b≠32
theorem a4k {s:ByteArray} (h:a9o s):a0y s=[s]:=by
 unfold a0y
 rw [b7s _ h]
 simp [b7t]
theorem a6r {l:List ByteArray} (hne:l≠[]) (h:∀ s ∈ l,a9o s):a0y (a1b l)=l:=by
 rw [a4p l hne]
 clear hne
 induction l with
 |nil=>rfl
 |cons a r ih =>
  rw [List.flatMap_cons,a4k (h a (by simp)),ih (fun s hs=>h s (by simp [hs]))]
  rfl
theorem a4y {s:ByteArray} (h:a1i s=true):a9o s:=by
 unfold a1i at h
 simp only [Bool.and_eq_true,List.all_eq_true] at h
 intro b hb e
 have:=h.1 b hb
 subst e
 exact absurd this (by decide)
theorem f6r {v:Int} (h:in9 v):∀ b ∈ Lib.itoa v,f3r b=true:=by
 have hv:=b2e v h.1 h.2
 unfold b2b at hv
 split at hv
 ·rename_i hh
  exact List.all_eq_true.1 hh.2.2.2
 ·cases hv
theorem a7d {v:Int} (h:in9 v):a9o (a1v v):=by
 intro b hb e
 unfold a1v at hb
 rw [b0d] at hb
 have:=f6r h b hb
 subst e
 exact absurd this (by decide)
theorem a5u {s:ByteArray} {v:Int} (h:a3q s=some v):a1v v=s∧in9 v:=by
 obtain ⟨h1,h2,h3,_⟩:=b0w h
 exact ⟨by unfold a1v;rw [h1,b7t],h2,h3⟩
theorem c3k {a b c:Int} (ha:in9 a) (hb:in9 b) (hc:in9 c):a0y (atS a b c)=[a1v a,a1v b,a1v c] :=
 a6r (by simp) (by
  intro s hs
  simp only [List.mem_cons,List.not_mem_nil,or_false] at hs
  rcases hs with rfl|rfl|rfl
  ·exact a7d ha
  ·exact a7d hb
  ·exact a7d hc)
theorem d0d {l:List ByteArray} {j:Nat} (h:c5j l j=true):∃ s,l[j]? = some s∧a3q s=some (nvS l j):=by
 unfold c5j at h
 simp only [Bool.and_eq_true,decide_eq_true_eq] at h
 obtain ⟨h1,h2⟩:=h
 have e:l.getD j ByteArray.empty=l[j]:=by simp [List.getD,h1]
 refine ⟨l[j],List.getElem?_eq_getElem h1,?_⟩
 unfold nvS
 rw [e] at h2 ⊢
 cases hv:a3q l[j] with
 |none=>rw [hv] at h2;cases h2
 |some v=>rfl
theorem b3h {l:List ByteArray} (h:a2t l=true):∃ r,l=a1v (nvS l 0)::a1v (nvS l 1)::a1v (nvS l 2)::r∧l.drop 3=r∧in9 (nvS l 0)∧in9 (nvS l 1)∧in9 (nvS l 2):=by
 unfold a2t at h
 simp only [Bool.and_eq_true] at h
 obtain ⟨⟨h0,h1⟩,h2⟩:=h
 obtain ⟨a,ha,va⟩:=d0d h0
 obtain ⟨b,hb,vb⟩:=d0d h1
 obtain ⟨c,hc,vc⟩:=d0d h2
 obtain ⟨ea,ia⟩:=a5u va
 obtain ⟨eb,ib⟩:=a5u vb
 obtain ⟨ec,ic⟩:=a5u vc
 match l,ha,hb,hc with
 |x::y::z::r,ha,hb,hc =>
  simp only [List.getElem?_cons_zero,List.getElem?_cons_succ,Option.some.injEq] at ha hb hc
  subst ha;subst hb;subst hc
  exact ⟨r,by rw [ea,eb,ec],rfl,ia,ib,ic⟩
theorem b0z {l:List ByteArray} (h:a3e l=true):l≠[]∧∀ s ∈ l,a9o s:=by
 unfold a3e at h
 simp only [Bool.and_eq_true,decide_eq_true_eq,List.all_eq_true] at h
 exact ⟨List.length_pos_iff.1 h.1,fun s hs=>a4y (h.2 s hs)⟩
theorem d9a:a9o b0g:=by unfold a9o b0g;decide
theorem d7w:a9o a3c:=by unfold a9o a3c;decide
theorem d3a {l:List ByteArray} (h:a3e l=true):a0y (b9c l)=b0g::l:=by
 obtain ⟨hne,hs⟩:=b0z h
 unfold b9c
 rw [a4p _ (by simp),List.flatMap_cons,List.flatMap_cons,a4k d9a,a6r hne hs]
 simp
theorem d3m {v:Int} (h:in9 v):a0y (a1b [a3c,a1v v])=[a3c,a1v v] :=
 a6r (by simp) (by
  intro s hs
  simp only [List.mem_cons,List.not_mem_nil,or_false] at hs
  rcases hs with rfl|rfl
  ·exact d7w
  ·exact a7d h)
structure OKch (c:Ch):Prop where
 id:in9 c.id
 ln:∀ r ∈ c.lines,a3e r=true
theorem e1u {t t':List Ch} {x:ByteArray} (h:b0c t x=some t'):a2q t'=a2q t++[x]:=by
 unfold b0c at h
 cases hp:a0y x with
 |nil=>exact (a5m x hp).elim
 |cons name rest =>
  rw [hp] at h
  simp only at h
  cases hs:b9j t name rest with
  |none=>rw [hs] at h;cases h
  |some q =>
   obtain ⟨u,left⟩:=q
   rw [hs] at h
   cases left with
   |cons a b=>cases h
   |nil =>
    simp only [Option.some.injEq] at h
    subst h
    unfold b9j at hs
    split at hs
    ·rename_i hn
     cases rest with
     |nil=>cases hs
     |cons y r =>
      simp only [Option.map_eq_some_iff,Prod.mk.injEq] at hs
      obtain ⟨v,hv,rfl,rfl⟩:=hs
      obtain ⟨e,hi⟩:=a5u hv
      have hx:x=a1b [a3c,a1v v]:=a4x (by rw [hp,d3m hi,e,hn])
      rw [hx]
      simp [a2q,d5j]
    ·split at hs
     ·rename_i hn
      split at hs
      ·rename_i c hc
       split at hs
       ·rename_i hw
        simp only [Option.some.injEq,Prod.mk.injEq] at hs
        obtain ⟨rfl,_⟩:=hs
        have hx:x=b9c rest:=a4x (by rw [hp,d3a hw,hn])
        have ht:t=t.dropLast++[c]:=by
         obtain ⟨hne,e⟩:=List.getLast?_eq_some_iff.1 hc
         rw [e];simp
        rw [hx]
        conv=>rhs;rw [ht]
        simp [a2q,d5j]
       ·cases hs
      ·cases hs
     ·cases hs
theorem c4k:∀ {l:List ByteArray} {t t':List Ch},b5p t l=some t'→a2q t'=a2q t++l
 |[],t,t',h=>by simp [b5p] at h;subst h;simp
 |x::l,t,t',h=>by
  simp only [b5p,Option.bind_eq_some_iff] at h
  obtain ⟨u,h1,h2⟩:=h
  rw [c4k h2,e1u h1]
  simp
open Go Pm
theorem f8g (k:Int):a9o (kdS k):=by
 unfold kdS
 split
 ·unfold a9o a3d;decide
 ·split
  ·unfold a9o a6q;decide
  ·split
   ·unfold a9o a1p;decide
   ·intro b hb;simp at hb
theorem f9k {s:ByteArray} (h:¬ kdN s=0):kdS (kdN s:Int)=s∧(kdN s=1∨kdN s=2∨kdN s=3):=by
 unfold kdN at h ⊢
 by_cases h1:s=a3d
 ·rw [if_pos h1];subst h1;exact ⟨by decide,.inl rfl⟩
 rw [if_neg h1] at h ⊢
 by_cases h2:s=a6q
 ·rw [if_pos h2];subst h2;exact ⟨by decide,.inr (.inl rfl)⟩
 rw [if_neg h2] at h ⊢
 by_cases h3:s=a1p
 ·rw [if_pos h3];subst h3;exact ⟨by decide,.inr (.inr rfl)⟩
 rw [if_neg h3] at h
 exact (h rfl).elim
def d0w (w:ByteArray):List ByteArray:=if w=⟨#[]⟩ then [] else [w]
theorem c1l {r:Rd} (ha:in9 r.ch) (hb:in9 r.ln) (hc:in9 r.wd) (hw:a9o r.word):a0y (c0s r)=kdS r.kind.toNat::a1v r.ch::a1v r.ln::a1v r.wd::d0w r.word:=by
 have h2:a0y (a1b [kdS r.kind.toNat,atS r.ch r.ln r.wd])=[kdS r.kind.toNat,a1v r.ch,a1v r.ln,a1v r.wd]:=by
  rw [a4p _ (by simp),List.flatMap_cons,List.flatMap_cons,a4k (f8g _),c3k ha hb hc]
  rfl
 unfold c0s d0w
 split
 ·exact h2
 ·rw [c6w,h2,a4k hw];rfl
theorem d6y {w:ByteArray} (h:a1i w=true):¬ w=⟨#[]⟩:=fun e=>by
 have:=(a3f h).1
 rw [e] at this
 exact absurd this (by decide)
theorem d4b {v:Int} (h:in9 v):a0y (a1b [a6y,a1v v])=[a6y,a1v v] :=
 a6r (by simp) (by
  intro s hs
  simp only [List.mem_cons,List.not_mem_nil,or_false] at hs
  rcases hs with rfl|rfl
  ·unfold a9o a6y;decide
  ·exact a7d h)
def b2r:Option Cp→List ByteArray
 |none=>[]
 |some c=>a4j c
structure OKrd (r:Rd):Prop where
 ch:in9 r.ch
 ln:in9 r.ln
 wd:in9 r.wd
 good:b5s r
theorem d8d {s:Option Cp} {c:Cp} {x:ByteArray} (h:stepG s x=some c):a4j c=b2r s++[x]:=by
 unfold stepG at h
 cases hp:a0y x with
 |nil=>exact (a5m x hp).elim
 |cons name rest =>
  rw [hp] at h
  simp only at h
  cases hs:b1q s name rest with
  |none=>rw [hs] at h;cases h
  |some q =>
   obtain ⟨u,left⟩:=q
   rw [hs] at h
   cases left with
   |cons a b=>cases h
   |nil =>
    simp only [Option.some.injEq] at h
    subst h
    cases s with
    |none =>
     unfold b1q at hs
     simp only at hs
     split at hs
     ·rename_i hn
      cases rest with
      |nil=>cases hs
      |cons y r =>
       simp only [Option.map_eq_some_iff,Prod.mk.injEq] at hs
       obtain ⟨v,hv,rfl,rfl⟩:=hs
       obtain ⟨e,hi⟩:=a5u hv
       have hx:x=a1b [a6y,a1v v]:=a4x (by rw [hp,d4b hi,e,hn])
       rw [hx]
       simp [b2r,a4j]
     ·cases hs
    |some d =>
     unfold b1q at hs
     simp only at hs
     split at hs
     ·cases hs
     ·split at hs
      ·cases hs
      ·rename_i hk0
       obtain ⟨q1,q2⟩:=f9k hk0
       split at hs
       ·rename_i hpl
        obtain ⟨r,er,ed,i0,i1,i2⟩:=b3h hpl
        split at hs
        ·rename_i hk1
         simp only [Option.some.injEq,Prod.mk.injEq] at hs
         obtain ⟨rfl,hd⟩:=hs
         have hr:r=[]:=ed.symm.trans hd
         have hx:x=c0s ⟨nvS rest 0,nvS rest 1,nvS rest 2,1,⟨#[]⟩⟩:=by
          refine a4x ?_
          rw [hp,c1l i0 i1 i2 (by intro b hb;simp at hb)]
          rw [hk1] at q1
          conv=>lhs;rw [er,hr]
          rw [← q1]
          rfl
         rw [hx]
         simp [b2r,a4j]
        ·split at hs
         ·rename_i w r' hd
          split at hs
          ·rename_i hw
           simp only [Option.some.injEq,Prod.mk.injEq] at hs
           obtain ⟨rfl,rfl⟩:=hs
           have hr:r=[w]:=ed.symm.trans hd
           have hu:(UInt8.ofNat (kdN name)).toNat=kdN name:=by rw [UInt8.toNat_ofNat'];omega
           have hx:x=c0s ⟨nvS rest 0,nvS rest 1,nvS rest 2,UInt8.ofNat (kdN name),w⟩:=by
            refine a4x ?_
            rw [hp,c1l i0 i1 i2 (a4y hw)]
            simp only [hu,q1,d0w,if_neg (d6y hw)]
            conv=>lhs;rw [er,hr]
           rw [hx]
           simp [b2r,a4j]
          ·cases hs
         ·cases hs
       ·cases hs
theorem c4o:∀ {l:List ByteArray} {s s':Option Cp},a6b s l=some s'→b2r s'=b2r s++l
 |[],s,s',h=>by simp [a6b] at h;subst h;simp
 |x::l,s,s',h=>by
  simp only [a6b,Option.bind_eq_some_iff] at h
  obtain ⟨u,h1,h2⟩:=h
  rw [c4o h2]
  show a4j u++l=_
  rw [d8d h1]
  simp
theorem d9j:a9o a6c:=by unfold a9o a6c;decide
theorem f1u:a9o a2m:=by unfold a9o a2m;decide
theorem f0h:a9o a2u:=by unfold a9o a2u;decide
theorem d5a {a b c:Int} (ha:in9 a) (hb:in9 b) (hc:in9 c) {w:ByteArray} (hw:a9o w):a0y (a1b [a6c,atS a b c,w])=a6c::a1v a::a1v b::a1v c::[w]:=by
 rw [a4p _ (by simp),List.flatMap_cons,List.flatMap_cons,List.flatMap_cons,a4k d9j,c3k ha hb hc,a4k hw]
 rfl
theorem c5g {n s:ByteArray} (hn:a9o n):a0y (a1b [n,s])=n::a0y s:=by
 rw [a4p _ (by simp),List.flatMap_cons,List.flatMap_cons,a4k hn]
 simp
theorem c4a (f:Si→Si) (l:List Si) (s:Si):b1z f (l++[s])=l++[f s]:=by
 simp [b1z]
def QS (s:List Si×Nat):Prop:=(2≤s.2→∃ i x,s.1=i++[x]∧x.bef=⟨#[]⟩∧x.aft=⟨#[]⟩)∧(1≤s.2→∃ i x,s.1=i++[x]∧x.aft=⟨#[]⟩)
theorem a6u (l:List Si) (s:Si):a1m (l++[s])=a1m l++b4h s:=by simp [a1m]
theorem e2c {l:List ByteArray} (h:a3e l=true):¬ a1b l=⟨#[]⟩:=fun e=>by
 obtain ⟨hne,hs⟩:=b0z h
 have hp:=a6r hne hs
 rw [e] at hp
 have h1:a0y ⟨#[]⟩=[⟨#[]⟩]:=by simp [a0y,a3a,bA]
 rw [h1] at hp
 subst hp
 unfold a3e at h
 revert h;decide
theorem e0t {s s':List Si×Nat} {x:ByteArray} (hq:QS s) (h:b2f s x=some s'):a1m s'.1=a1m s.1++[x]∧QS s':=by
 unfold b2f at h
 cases hp:a0y x with
 |nil=>exact (a5m x hp).elim
 |cons name rest =>
  rw [hp] at h
  simp only at h
  cases hs:b2l s name rest with
  |none=>rw [hs] at h;cases h
  |some q =>
   obtain ⟨u,left⟩:=q
   rw [hs] at h
   cases left with
   |cons a b=>cases h
   |nil =>
    simp only [Option.some.injEq] at h
    subst h
    unfold b2l at hs
    split at hs
    ·rename_i hn
     split at hs
     ·rename_i hpl
      obtain ⟨r,er,ed,i0,i1,i2⟩:=b3h hpl
      split at hs
      ·rename_i w r' hd
       split at hs
       ·rename_i hw
        simp only [Option.some.injEq,Prod.mk.injEq] at hs
        obtain ⟨rfl,rfl⟩:=hs
        have hr:r=[w]:=ed.symm.trans hd
        have hx:x=a1b [a6c,atS (nvS rest 0) (nvS rest 1) (nvS rest 2),w]:=by
         refine a4x ?_
         rw [hp,d5a i0 i1 i2 (a4y hw),hn]
         conv=>lhs;rw [er,hr]
        refine ⟨?_,fun _=>⟨s.1,_,rfl,rfl,rfl⟩,fun _=>⟨s.1,_,rfl,rfl⟩⟩
        rw [a6u,hx]
        simp [b4h,e6h,d6s]
       ·cases hs
      ·cases hs
     ·cases hs
    ·split at hs
     ·rename_i hn
      split at hs
      ·rename_i h2
       split at hs
       ·rename_i hw
        simp only [Option.some.injEq,Prod.mk.injEq] at hs
        obtain ⟨rfl,_⟩:=hs
        obtain ⟨i,y,e,e1,e2⟩:=hq.1 h2
        obtain ⟨hne,hsp⟩:=b0z hw
        have hx:x=a1b [a2m,a1b rest]:=a4x (by rw [hp,c5g f1u,a6r hne hsp,hn])
        simp only [e,c4a]
        refine ⟨?_,fun h=>absurd (show 2≤1 from h) (by decide),fun _=>⟨i,_,rfl,e2⟩⟩
        rw [a6u,a6u,hx]
        simp [b4h,e6h,d6s,e1,e2,e2c hw]
       ·cases hs
      ·cases hs
     ·split at hs
      ·rename_i hn
       split at hs
       ·rename_i h2
        split at hs
        ·rename_i hw
         simp only [Option.some.injEq,Prod.mk.injEq] at hs
         obtain ⟨rfl,_⟩:=hs
         obtain ⟨i,y,e,e2⟩:=hq.2 h2
         obtain ⟨hne,hsp⟩:=b0z hw
         have hx:x=a1b [a2u,a1b rest]:=a4x (by rw [hp,c5g f0h,a6r hne hsp,hn])
         simp only [e,c4a]
         refine ⟨?_,fun h=>absurd (show 2≤0 from h) (by decide),fun h=>absurd (show 1≤0 from h) (by decide)⟩
         rw [a6u,a6u,hx]
         simp [b4h,e6h,d6s,e2,e2c hw]
        ·cases hs
       ·cases hs
      ·cases hs
theorem c7e:∀ {l:List ByteArray} {s s':List Si×Nat},QS s→a5f s l=some s'→a1m s'.1=a1m s.1++l
 |[],s,s',_,h=>by simp [a5f] at h;subst h;simp
 |x::l,s,s',hq,h=>by
  simp only [a5f,Option.bind_eq_some_iff] at h
  obtain ⟨u,h1,h2⟩:=h
  obtain ⟨a,b⟩:=e0t hq h1
  rw [c7e b h2,a]
  simp
theorem QS0:QS W0:=⟨fun h=>absurd h (by decide),fun h=>absurd h (by decide)⟩
open Go Pm
theorem b2w:a9o ⟨#[]⟩:=by intro b hb;simp at hb
theorem f1a:a9o cutS:=by unfold a9o cutS;decide
theorem e4q {s:ByteArray} {m:UInt8} (hs:a9o s) (hm:in9 m.toNat):a0y (c6y s m)=[s,a1v m.toNat] :=
 a6r (by simp) (by
  intro x hx
  simp only [List.mem_cons,List.not_mem_nil,or_false] at hx
  rcases hx with rfl|rfl
  ·exact hs
  ·exact a7d hm)
theorem g5l (m:UInt8):in9 m.toNat:=⟨by omega,by have:=m.toNat_lt;omega⟩
def rlP (r:Rl):List ByteArray:=r.cut::(d0w r.put++[a1v r.least])
theorem e7s {r:Rl} (h1:a9o r.cut) (h2:a9o r.put) (h3:in9 r.least):a0y (a7z r)=cutS::rlP r:=by
 have e1:a0y (a1b [cutS,r.cut])=[cutS,r.cut]:=a6r (by simp) (by
  intro x hx
  simp only [List.mem_cons,List.not_mem_nil,or_false] at hx
  rcases hx with rfl|rfl
  ·exact f1a
  ·exact h1)
 unfold a7z rlP d0w
 rw [a4p _ (by simp),List.flatMap_cons,List.flatMap_cons,a4k (a7d h3)]
 split
 ·rw [e1];simp
 ·rw [a4p _ (by simp),List.flatMap_cons,List.flatMap_cons,e1,a4k h2];simp
def dcP (d:Dc):List ByteArray:=if (d.kind.toNat:Int)=1 then [d.form,d.stem,a1v d.mark.toNat] else if (d.kind.toNat:Int)=2 then [a1v d.ch,a1v d.ln,a1v d.wd,d.form,d.stem,a1v d.mark.toNat]
 else if (d.kind.toNat:Int)=3 then [a1v d.ch,a1v d.ln,a1v d.wd,d.stem,a1v d.mark.toNat] else [a1v d.of]
theorem f7u (k:Int):a9o (fmN k):=by
 unfold fmN
 split
 ·unfold a9o formS;decide
 split
 ·unfold a9o fromS;decide
 split
 ·unfold a9o plcS;decide
 split
 ·unfold a9o voidS;decide
 ·exact b2w
structure PDc (d:Dc):Prop where
 num:in9 d.num
 form:a9o d.form
 stem:a9o d.stem
 pl:in9 d.ch∧in9 d.ln∧in9 d.wd
 of:in9 d.of
theorem f1o {d:Dc} (h:PDc d):a0y (b0h d)=fmN d.kind.toNat::a1v d.num::dcP d:=by
 have e1:a0y (a1b [fmN d.kind.toNat,a1v d.num])=[fmN d.kind.toNat,a1v d.num]:=a6r (by simp) (by
  intro x hx
  simp only [List.mem_cons,List.not_mem_nil,or_false] at hx
  rcases hx with rfl|rfl
  ·exact f7u _
  ·exact a7d h.num)
 have e2:=e4q (m:=d.mark) h.stem (g5l _)
 have e3:=c3k h.pl.1 h.pl.2.1 h.pl.2.2
 have e4:=a4k h.form
 have e5:=a4k (a7d h.of)
 unfold b0h
 rw [a4p _ (by simp),List.flatMap_cons,e1]
 unfold fmP dcP
 split
 ·simp [e2,e4]
 split
 ·simp [e2,e3,e4]
 split
 ·simp [e2,e3]
 ·simp [e5]
theorem e7a {name:ByteArray}:(a5e name=1→name=fmN 1)∧(a5e name=2→name=fmN 2)∧(a5e name=3→name=fmN 3)∧(a5e name=4→name=fmN 4):=by
 unfold a5e
 by_cases h1:name=formS
 ·rw [if_pos h1];subst h1;decide
 rw [if_neg h1]
 by_cases h2:name=fromS
 ·rw [if_pos h2];subst h2;decide
 rw [if_neg h2]
 by_cases h3:name=plcS
 ·rw [if_pos h3];subst h3;decide
 rw [if_neg h3]
 by_cases h4:name=voidS
 ·rw [if_pos h4];subst h4;decide
 rw [if_neg h4]
 simp
structure PRl (r:Rl):Prop where
 cut:a1i r.cut=true
 put:r.put=⟨#[]⟩∨a1i r.put=true
 least:in9 r.least
theorem f8l {r:Rl} (h:PRl r):a9o r.cut∧a9o r.put:=⟨a4y h.cut,by
 rcases h.put with hp|hp
 ·rw [hp];exact b2w
 ·exact a4y hp⟩
structure QDc (d:Dc):Prop where
 num:in9 d.num
 stem:in9 d.of
 pl:in9 d.ch∧in9 d.ln∧in9 d.wd
 is:((d.kind.toNat:Int)=1∧a1i d.form=true∧a1i d.stem=true∧d=⟨d.num,1,d.form,0,0,0,d.stem,d.mark,0⟩) ∨
  ((d.kind.toNat:Int)=2∧a1i d.form=true∧a1i d.stem=true∧d=⟨d.num,2,d.form,d.ch,d.ln,d.wd,d.stem,d.mark,0⟩) ∨
  ((d.kind.toNat:Int)=3∧a1i d.stem=true∧d=⟨d.num,3,⟨#[]⟩,d.ch,d.ln,d.wd,d.stem,d.mark,0⟩) ∨
  ((d.kind.toNat:Int)=4∧d=⟨d.num,4,⟨#[]⟩,0,0,0,⟨#[]⟩,0,d.of⟩)
theorem e7t {l:Rws} {r:Rl} (h:c6j l=some (r,[])):l=rlP r∧PRl r:=by
 unfold c6j at h
 cases h1:a7g l with
 |none=>rw [h1] at h;cases h
 |some q =>
  obtain ⟨w,r0⟩:=q
  rw [h1] at h
  simp only at h
  obtain ⟨rfl,hw⟩:=a7o h1
  cases h2:d4t r0 with
  |none=>rw [h2] at h;cases h
  |some q =>
   obtain ⟨p,r1⟩:=q
   rw [h2] at h
   simp only at h
   cases h3:b1s r1 with
   |none=>rw [h3] at h;cases h
   |some q =>
    obtain ⟨n,r2⟩:=q
    rw [h3] at h
    simp only [Option.some.injEq,Prod.mk.injEq] at h
    obtain ⟨rfl,rfl⟩:=h
    obtain ⟨s,rfl,hv⟩:=b1j h3
    obtain ⟨e,hi⟩:=a5u hv
    unfold d4t at h2
    split at h2
    ·obtain ⟨rfl,hp⟩:=a7o h2
     exact ⟨by simp [rlP,d0w,d6y hp,e],hw,.inr hp,hi⟩
    ·simp only [Option.some.injEq,Prod.mk.injEq] at h2
     obtain ⟨rfl,rfl⟩:=h2
     exact ⟨by simp [rlP,d0w,e],hw,.inl rfl,hi⟩
theorem d0m {l r:Rws} {q:ByteArray×UInt8} (h:b2k l=some (q,r)):l=q.1::a1v q.2.toNat::r∧a1i q.1=true:=by
 obtain ⟨r1,n,h1,h2,h3,h4⟩:=b7f (w:=q.1) (m:=q.2) h
 obtain ⟨rfl,hw⟩:=a7o h1
 obtain ⟨s,rfl,hv⟩:=b1j h2
 obtain ⟨e,hi⟩:=a5u hv
 have hm:((q.2.toNat:Nat):Int)=n:=by
  rw [h4,UInt8.toNat_ofNat']
  have:=hi.1
  omega
 rw [hm,e]
 exact ⟨rfl,hw⟩
theorem d2x {l r:Rws} {p:Int×Int×Int} (h:a9n l=some (p,r)):l=a1v p.1::a1v p.2.1::a1v p.2.2::r∧in9 p.1∧in9 p.2.1∧in9 p.2.2:=by
 unfold a9n at h
 split at h
 ·rename_i hp
  obtain ⟨r',e,ed,i0,i1,i2⟩:=b3h hp
  simp only [Option.some.injEq,Prod.mk.injEq] at h
  obtain ⟨rfl,rfl⟩:=h
  exact ⟨by rw [ed];exact e,i0,i1,i2⟩
 ·cases h
theorem z9:in9 0:=⟨by omega,by omega⟩
theorem f7r {name:ByteArray} {l:Rws} {d:Dc} (h:e3f name l=some (d,[])):name=fmN d.kind.toNat∧l=a1v d.num::dcP d∧PDc d:=by
 unfold e3f at h
 cases h1:b1s l with
 |none=>rw [h1] at h;cases h
 |some q =>
  obtain ⟨n,r⟩:=q
  rw [h1] at h
  simp only at h
  obtain ⟨s,rfl,hv⟩:=b1j h1
  obtain ⟨e,hi⟩:=a5u hv
  obtain ⟨m1,m2,m3,m4⟩:=e7a (name:=name)
  rcases b2g name with hk|hk|hk|hk|hk
  ·rw [hk] at h;cases h
  ·rw [hk] at h
   simp only [fK,if_true,f2] at h
   cases h2:a7g r with
   |none=>rw [h2] at h;cases h
   |some q =>
    obtain ⟨w,r1⟩:=q
    rw [h2] at h
    simp only at h
    obtain ⟨rfl,hw⟩:=a7o h2
    cases h3:b2k r1 with
    |none=>rw [h3] at h;cases h
    |some q =>
     obtain ⟨q,r2⟩:=q
     rw [h3] at h
     simp only [Option.some.injEq,Prod.mk.injEq] at h
     obtain ⟨rfl,rfl⟩:=h
     obtain ⟨rfl,hq⟩:=d0m h3
     refine ⟨m1 hk,?_,hi,a4y hw,a4y hq,⟨z9,z9,z9⟩,z9⟩
     show s::w::q.1::a1v q.2.toNat::[]=a1v n::[w,q.1,a1v q.2.toNat]
     rw [e]
  ·rw [hk] at h
   simp only [fK,show ¬ (2:Int)=1 by decide,if_false,if_true,f4] at h
   cases h4:a9n r with
   |none=>rw [h4] at h;cases h
   |some q =>
    obtain ⟨p,r0⟩:=q
    rw [h4] at h
    simp only [f2] at h
    obtain ⟨rfl,j0,j1,j2⟩:=d2x h4
    cases h2:a7g r0 with
    |none=>rw [h2] at h;cases h
    |some q =>
     obtain ⟨w,r1⟩:=q
     rw [h2] at h
     simp only at h
     obtain ⟨rfl,hw⟩:=a7o h2
     cases h3:b2k r1 with
     |none=>rw [h3] at h;cases h
     |some q =>
      obtain ⟨q,r2⟩:=q
      rw [h3] at h
      simp only [Option.some.injEq,Prod.mk.injEq] at h
      obtain ⟨rfl,rfl⟩:=h
      obtain ⟨rfl,hq⟩:=d0m h3
      refine ⟨m2 hk,?_,hi,a4y hw,a4y hq,⟨j0,j1,j2⟩,z9⟩
      show s::a1v p.1::a1v p.2.1::a1v p.2.2::w::q.1::a1v q.2.toNat::[]=a1v n::[a1v p.1,a1v p.2.1,a1v p.2.2,w,q.1,a1v q.2.toNat]
      rw [e]
  ·rw [hk] at h
   simp only [fK,show ¬ (3:Int)=1 by decide,show ¬ (3:Int)=2 by decide,if_false,if_true,f6] at h
   cases h4:a9n r with
   |none=>rw [h4] at h;cases h
   |some q =>
    obtain ⟨p,r0⟩:=q
    rw [h4] at h
    simp only at h
    obtain ⟨rfl,j0,j1,j2⟩:=d2x h4
    cases h3:b2k r0 with
    |none=>rw [h3] at h;cases h
    |some q =>
     obtain ⟨q,r2⟩:=q
     rw [h3] at h
     simp only [Option.some.injEq,Prod.mk.injEq] at h
     obtain ⟨rfl,rfl⟩:=h
     obtain ⟨rfl,hq⟩:=d0m h3
     refine ⟨m3 hk,?_,hi,b2w,a4y hq,⟨j0,j1,j2⟩,z9⟩
     show s::a1v p.1::a1v p.2.1::a1v p.2.2::q.1::a1v q.2.toNat::[]=a1v n::[a1v p.1,a1v p.2.1,a1v p.2.2,q.1,a1v q.2.toNat]
     rw [e]
  ·rw [hk] at h
   simp only [fK,show ¬ (4:Int)=1 by decide,show ¬ (4:Int)=2 by decide,show ¬ (4:Int)=3 by decide,if_false,if_true,f8] at h
   cases h3:b1s r with
   |none=>rw [h3] at h;cases h
   |some q =>
    obtain ⟨o,r2⟩:=q
    rw [h3] at h
    simp only [Option.some.injEq,Prod.mk.injEq] at h
    obtain ⟨rfl,rfl⟩:=h
    obtain ⟨s2,rfl,hv2⟩:=b1j h3
    obtain ⟨e2,hi2⟩:=a5u hv2
    refine ⟨m4 hk,?_,hi,b2w,b2w,⟨z9,z9,z9⟩,hi2⟩
    show s::s2::[]=a1v n::[a1v o]
    rw [e,e2]
theorem e4t {s s':Lx} {x:ByteArray} (h:b4t s x=some s'):a8b s'=a8b s++[x]:=by
 unfold b4t at h
 cases hp:a0y x with
 |nil=>exact (a5m x hp).elim
 |cons name rest =>
  rw [hp] at h
  simp only at h
  cases hs:b2d s name rest with
  |none=>rw [hs] at h;cases h
  |some q =>
   obtain ⟨u,left⟩:=q
   rw [hs] at h
   cases left with
   |cons a b=>cases h
   |nil =>
    simp only [Option.some.injEq] at h
    subst h
    unfold b2d at hs
    split at hs
    ·rename_i hn
     split at hs
     ·rename_i hd
      cases hr:c6j rest with
      |none=>rw [hr] at hs;cases hs
      |some q =>
       obtain ⟨r,l'⟩:=q
       rw [hr] at hs
       simp only [Option.some.injEq,Prod.mk.injEq] at hs
       obtain ⟨rfl,rfl⟩:=hs
       obtain ⟨e,hP⟩:=e7t hr
       obtain ⟨n1,n2⟩:=f8l hP
       have hx:x=a7z r:=a4x (by rw [hp,e7s n1 n2 hP.least,hn,e])
       rw [hx]
       simp [a8b,hd]
     ·cases hs
    ·cases hr:e3f name rest with
     |none=>rw [hr] at hs;cases hs
     |some q =>
      obtain ⟨d,l'⟩:=q
      rw [hr] at hs
      simp only [Option.some.injEq,Prod.mk.injEq] at hs
      obtain ⟨rfl,rfl⟩:=hs
      obtain ⟨e1,e2,hP⟩:=f7r hr
      have hx:x=b0h d:=a4x (by rw [hp,f1o hP,← e1,← e2])
      rw [hx]
      simp [a8b]
theorem c4u:∀ {l:List ByteArray} {s s':Lx},a6a s l=some s'→a8b s'=a8b s++l
 |[],s,s',h=>by simp [a6a] at h;subst h;simp
 |x::l,s,s',h=>by
  simp only [a6a,Option.bind_eq_some_iff] at h
  obtain ⟨u,h1,h2⟩:=h
  rw [c4u h2,e4t h1]
  simp
open Go Pm
def c1 (s:ByteArray) (i:Int):UInt8:=UInt8.ofNat (97+(d2b s i s.size / 26).toNat)
def c2 (s:ByteArray) (i:Int):UInt8:=UInt8.ofNat (97+(d2b s i s.size % 26).toNat)
theorem f0y {l:List ByteArray} (h:a0v l=true):l.length≤200∧∀ s ∈ l,c3p s=true:=by
 unfold a0v at h
 simp only [Bool.and_eq_true,List.all_eq_true,decide_eq_true_eq] at h
 exact ⟨by omega,h.1⟩
theorem e0l {l:List ByteArray} {t:List Ch} (h:a8h l=(t,0)):a1z t=true∧a2q t=l:=by
 unfold a8h at h
 split at h
 ·split at h
  ·rename_i u hu
   split at h
   ·rename_i hB
    simp only [Prod.mk.injEq] at h
    obtain ⟨rfl,_⟩:=h
    have:=c4k hu
    exact ⟨hB,by simpa [a2q] using this⟩
   ·simp at h
  ·simp at h
 ·simp at h
theorem d7g {t:List Ch} {l:List ByteArray} {c:Cp} (h:a6o t l=(c,0)):a7t t c=0∧a4j c=l:=by
 unfold a6o at h
 split at h
 ·split at h
  ·split at h
   ·rename_i d hd
    split at h
    ·rename_i hE
     simp only [Prod.mk.injEq] at h
     obtain ⟨rfl,_⟩:=h
     have:=c4o hd
     exact ⟨hE,by simpa [b2r] using this⟩
    ·rename_i hE
     simp only [Prod.mk.injEq] at h
     exact (hE h.2).elim
   ·simp at h
  ·simp at h
 ·simp at h
theorem f2m {t:List Ch} {l:List ByteArray} {x:Lx} (h:a8f t l=(x,0)):b1n t x=0∧a8b x=l:=by
 unfold a8f at h
 split at h
 ·split at h
  ·split at h
   ·rename_i s hs
    split at h
    ·rename_i hE
     simp only [Prod.mk.injEq] at h
     obtain ⟨rfl,_⟩:=h
     have:=c4u hs
     exact ⟨hE,by simpa [a8b,X0] using this⟩
    ·rename_i hE
     simp only [Prod.mk.injEq] at h
     exact (hE h.2).elim
   ·simp at h
  ·simp at h
 ·simp at h
open Go Pm
theorem f1e {s s':List Si×Nat} {x:ByteArray} (hq:∀ a ∈ s.1,in9 a.ch∧in9 a.ln∧in9 a.wd) (h:b2f s x=some s'):∀ a ∈ s'.1,in9 a.ch∧in9 a.ln∧in9 a.wd:=by
 have hon:∀ f:Si→Si,(∀ y,(f y).ch=y.ch∧(f y).ln=y.ln∧(f y).wd=y.wd)→∀ a ∈ b1z f s.1,in9 a.ch∧in9 a.ln∧in9 a.wd:=by
  intro f hf a ha
  unfold b1z at ha
  split at ha
  ·rename_i y hy
   rcases List.mem_append.1 ha with ha|ha
   ·exact hq a ((List.dropLast_sublist s.1).mem ha)
   ·simp only [List.mem_cons,List.not_mem_nil,or_false] at ha
    subst ha
    obtain ⟨e1,e2,e3⟩:=hf y
    rw [e1,e2,e3]
    exact hq y (List.mem_of_getLast? hy)
  ·exact hq a ha
 unfold b2f at h
 split at h
 ·cases h
 ·split at h
  ·rename_i hs
   cases h
   unfold b2l at hs
   split at hs
   ·split at hs
    ·rename_i hpl
     obtain ⟨r,er,ed,i0,i1,i2⟩:=b3h hpl
     split at hs
     ·split at hs
      ·simp only [Option.some.injEq,Prod.mk.injEq] at hs
       obtain ⟨rfl,_⟩:=hs
       intro a ha
       rcases List.mem_append.1 ha with ha|ha
       ·exact hq a ha
       ·simp only [List.mem_cons,List.not_mem_nil,or_false] at ha
        subst ha
        exact ⟨i0,i1,i2⟩
      ·cases hs
     ·cases hs
    ·cases hs
   ·split at hs
    ·split at hs
     ·split at hs
      ·simp only [Option.some.injEq,Prod.mk.injEq] at hs
       obtain ⟨rfl,_⟩:=hs
       exact hon _ (fun y=>⟨rfl,rfl,rfl⟩)
      ·cases hs
     ·cases hs
    ·split at hs
     ·split at hs
      ·split at hs
       ·simp only [Option.some.injEq,Prod.mk.injEq] at hs
        obtain ⟨rfl,_⟩:=hs
        exact hon _ (fun y=>⟨rfl,rfl,rfl⟩)
       ·cases hs
      ·cases hs
     ·cases hs
  ·cases h
theorem d1w:∀ {l:List ByteArray} {s s':List Si×Nat},(∀ a ∈ s.1,in9 a.ch∧in9 a.ln∧in9 a.wd)→a5f s l=some s'→∀ a ∈ s'.1,in9 a.ch∧in9 a.ln∧in9 a.wd
 |[],s,s',hq,h=>by simp [a5f] at h;subst h;exact hq
 |x::l,s,s',hq,h=>by
  simp only [a5f,Option.bind_eq_some_iff] at h
  obtain ⟨u,h1,h2⟩:=h
  exact d1w (f1e hq h1) h2
theorem b9s {l:List ByteArray} {s:List Si} (h:a5p l=(s,0)):a4c s=(l,0):=by
 unfold a5p at h
 split at h
 ·rename_i hr
  split at h
  ·rename_i u hu
   split at h
   ·rename_i hB
    simp only [Prod.mk.injEq] at h
    obtain ⟨rfl,_⟩:=h
    have e:a1m u.1=l:=by
     have:=c7e QS0 hu
     simpa [a1m,W0] using this
    have hi:=d1w (s:=W0) (by intro a ha;cases ha) hu
    have hg:u.1.all b1m=true:=by
     rw [List.all_eq_true] at hB ⊢
     intro a ha
     obtain ⟨i0,i1,i2⟩:=hi a ha
     unfold b1m
     rw [hB a ha,inB_iff.2 i0,inB_iff.2 i1,inB_iff.2 i2]
     rfl
    unfold a4c
    rw [if_pos hg,e,if_pos (f0y hr).1]
   ·simp at h
  ·simp at h
 ·simp at h
theorem e1o {s:ByteArray} (h:d6d s=true) (hne:¬ s=⟨#[]⟩):a3e (a0y s)=true∧s.size≤80:=by
 unfold d6d at h
 rw [decide_eq_false hne,Bool.false_or,Bool.and_eq_true,decide_eq_true_eq] at h
 refine ⟨?_,by omega⟩
 unfold a3e
 rw [h.2,decide_eq_true (c0x s)]
 rfl
structure GSi (s:Si):Prop where
 bef:d6d s.bef=true
 aft:d6d s.aft=true
 word:a1i s.word=true
 pl:in9 s.ch∧in9 s.ln∧in9 s.wd
theorem g0b {s:Si} (h:b1m s=true):GSi s:=by
 have hp:=e3d h
 unfold b1m b5q at h
 simp only [Bool.and_eq_true] at h
 exact ⟨h.1.1.1,h.1.1.2,h.1.2,hp⟩
end Go.Proofs.YtmjhfccbbfpppaaGreatDoor
