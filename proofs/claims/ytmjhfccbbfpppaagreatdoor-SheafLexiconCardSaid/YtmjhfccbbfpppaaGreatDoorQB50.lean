import Derived.Test.YtmjhfccbbfpppaaGreatDoorQB25
import Derived.Test.YtmjhfccbbfpppaaGreatDoorQB26
import Derived.Test.YtmjhfccbbfpppaaGreatDoorQB27
import Derived.Test.YtmjhfccbbfpppaaGreatDoorQB37
import Derived.Test.YtmjhfccbbfpppaaGreatDoorQB44
namespace Go.Proofs.YtmjhfccbbfpppaaGreatDoor
open Go Pm
set_option linter.unusedSimpArgs false
set_option linter.unusedVariables false
theorem b9i:∀ a b:List UInt8,a2t (a++32::b)=a2t a++a2t b
 |[],b=>by simp [a2t]
 |c::r,b=>by
  have ih:=b9i r b
  have hne:=b6l r
  rw [List.cons_append,a2t,ih,a2t]
  by_cases hc:c=32
  ·rw [if_pos hc,if_pos hc];rfl
  ·rw [if_neg hc,if_neg hc]
   cases hp:a2t r with
   |nil=>exact (hne hp).elim
   |cons x l=>rfl
theorem e2u (a b:ByteArray):a1o (a++(⟨#[32]⟩++b))=a1o a++a1o b:=by
 have e:(a++((⟨#[32]⟩:ByteArray)++b)).data.toList=a.data.toList++32::b.data.toList:=by simp
 unfold a1o
 rw [e,b9i,List.map_append]
theorem join_cons (a b:ByteArray) (l:List ByteArray):a1b (a::b::l)=a++(⟨#[32]⟩++a1b (b::l)):=by
 refine b6j ?_
 simp only [a1b,a7l,ByteArray.data_append,Array.toList_append]
 simp [List.intercalate,List.intersperse]
theorem a7r:∀ l:List ByteArray,l≠[]→a1o (a1b l)=l.flatMap a1o
 |[],h=>(h rfl).elim
 |[a],_=>by rw [b5k];simp
 |a::b::l,_=>by
  rw [join_cons,e2u,a7r (b::l) (by simp)]
  rfl
def c1k:List (List UInt8)→List UInt8
 |[]=>[]
 |[a]=>a
 |a::b::l=>a++32::c1k (b::l)
theorem b6e:∀ l,c1k (a2t l)=l
 |[]=>rfl
 |b::r=>by
  have ih:=b6e r
  have hne:=b6l r
  unfold a2t
  by_cases hc:b=32
  ·rw [if_pos hc]
   cases hp:a2t r with
   |nil=>exact (hne hp).elim
   |cons x l=>rw [hp] at ih;simp only [c1k,List.nil_append];rw [ih,hc]
  ·rw [if_neg hc]
   cases hp:a2t r with
   |nil=>exact (hne hp).elim
   |cons x l =>
    rw [hp] at ih
    cases l with
    |nil=>simp only [c1k] at ih ⊢;rw [ih]
    |cons y q=>simp only [c1k,List.cons_append] at ih ⊢;rw [ih]
theorem b9r:∀ l:List (List UInt8),(a1b (l.map bA)).data.toList=c1k l
 |[]=>by simp [d0z,c1k]
 |[a]=>by simp only [List.map_cons,List.map_nil,b5k,a7l,c1k]
 |a::b::l=>by
  have ih:=b9r (b::l)
  simp only [List.map_cons] at ih ⊢
  rw [join_cons]
  simp only [ByteArray.data_append,Array.toList_append,ih,a7l,c1k]
  rfl
theorem d3u (s:ByteArray):a1b (a1o s)=s:=by
 refine b6j ?_
 unfold a1o
 rw [b9r,b6e]
def c2b (s:ByteArray):Prop:=∀ b ∈ s.data.toList,b≠32
theorem a9m {s:ByteArray} (h:c2b s):a1o s=[s]:=by
 unfold a1o
 rw [b6m _ h]
 simp [c0v]
theorem b5i {l:List ByteArray} (hne:l≠[]) (h:∀ s ∈ l,c2b s):a1o (a1b l)=l:=by
 rw [a7r l hne]
 clear hne
 induction l with
 |nil=>rfl
 |cons a r ih =>
  rw [List.flatMap_cons,a9m (h a (by simp)),ih (fun s hs=>h s (by simp [hs]))]
  rfl
theorem a6s {s:ByteArray} (h:a1f s=true):c2b s:=by
 unfold a1f at h
 simp only [Bool.and_eq_true,List.all_eq_true] at h
 intro b hb e
 have:=h.1 b hb
 subst e
 exact absurd this (by decide)
theorem d9y {v:Int} (h:in9 v):∀ b ∈ Lib.itoa v,f2s b=true:=by
 have hv:=a8n v h.1 h.2
 unfold b1c at hv
 split at hv
 ·rename_i hh
  exact List.all_eq_true.1 hh.2.2.2
 ·cases hv
theorem a8p {v:Int} (h:in9 v):c2b (a1q v):=by
 intro b hb e
 unfold a1q at hb
 rw [a7l] at hb
 have:=d9y h b hb
 subst e
 exact absurd this (by decide)
theorem a7p {v:Int} (h:in9 v):a4d (a1q v)=some v:=by
 unfold a4d a1q
 rw [a7l]
 exact a8n v h.1 h.2
theorem e9s {a b c:Int} (ha:in9 a) (hb:in9 b) (hc:in9 c):a1o (atS a b c)=[a1q a,a1q b,a1q c] :=
 b5i (by simp) (by
  intro s hs
  simp only [List.mem_cons,List.not_mem_nil,or_false] at hs
  rcases hs with rfl|rfl|rfl
  ·exact a8p ha
  ·exact a8p hb
  ·exact a8p hc)
theorem e5i {v:Int} (h:in9 v) (l:List ByteArray) (j:Nat) (hl:l[j]? = some (a1q v)):c3q l j=true∧nvS l j=v:=by
 obtain ⟨h1,h2⟩:=List.getElem?_eq_some_iff.1 hl
 have e:l.getD j ByteArray.empty=a1q v:=by simp [List.getD,hl]
 unfold c3q nvS
 rw [e,a7p h,decide_eq_true h1]
 exact ⟨rfl,rfl⟩
theorem d9w {a b c:Int} (ha:in9 a) (hb:in9 b) (hc:in9 c) (r:List ByteArray):a6y (a1q a::a1q b::a1q c::r)=true∧nvS (a1q a::a1q b::a1q c::r) 0=a∧nvS (a1q a::a1q b::a1q c::r) 1=b∧nvS (a1q a::a1q b::a1q c::r) 2=c:=by
 obtain ⟨a1,a2⟩:=e5i ha (a1q a::a1q b::a1q c::r) 0 rfl
 obtain ⟨b1,b2⟩:=e5i hb (a1q a::a1q b::a1q c::r) 1 rfl
 obtain ⟨c1,c2⟩:=e5i hc (a1q a::a1q b::a1q c::r) 2 rfl
 exact ⟨by unfold a6y;rw [a1,b1,c1];rfl,a2,b2,c2⟩
structure OKch (c:Ch):Prop where
 id:in9 c.id
 ln:∀ r ∈ c.lines,f3i r=true
open Go Pm
def c4u (w:ByteArray):List ByteArray:=if w=⟨#[]⟩ then [] else [w]
theorem f5e {w:ByteArray} (h:a1f w=true):¬ w=⟨#[]⟩:=fun e=>by
 have:=(a2u h).1
 rw [e] at this
 exact absurd this (by decide)
structure OKrd (r:Rd):Prop where
 ch:in9 r.ch
 ln:in9 r.ln
 wd:in9 r.wd
 good:b4s r
open Go Pm
theorem b2d:c2b ⟨#[]⟩:=by intro b hb;simp at hb
theorem e7b:c2b cutS:=by unfold c2b cutS;decide
theorem d6w {s:ByteArray} {m:UInt8} (hs:c2b s) (hm:in9 m.toNat):a1o (c3m s m)=[s,a1q m.toNat] :=
 b5i (by simp) (by
  intro x hx
  simp only [List.mem_cons,List.not_mem_nil,or_false] at hx
  rcases hx with rfl|rfl
  ·exact hs
  ·exact a8p hm)
theorem f5o (m:UInt8):in9 m.toNat:=⟨by omega,by have:=m.toNat_lt;omega⟩
def rlP (r:Rl):List ByteArray:=r.cut::(c4u r.put++[a1q r.least])
theorem d0y {r:Rl} (h1:c2b r.cut) (h2:c2b r.put) (h3:in9 r.least):a1o (a6h r)=cutS::rlP r:=by
 have e1:a1o (a1b [cutS,r.cut])=[cutS,r.cut]:=b5i (by simp) (by
  intro x hx
  simp only [List.mem_cons,List.not_mem_nil,or_false] at hx
  rcases hx with rfl|rfl
  ·exact e7b
  ·exact h1)
 unfold a6h rlP c4u
 rw [a7r _ (by simp),List.flatMap_cons,List.flatMap_cons,a9m (a8p h3)]
 split
 ·rw [e1];simp
 ·rw [a7r _ (by simp),List.flatMap_cons,List.flatMap_cons,e1,a9m h2];simp
def dcP (d:Dc):List ByteArray:=if (d.kind.toNat:Int)=1 then [d.form,d.stem,a1q d.mark.toNat] else if (d.kind.toNat:Int)=2 then [a1q d.ch,a1q d.ln,a1q d.wd,d.form,d.stem,a1q d.mark.toNat]
 else if (d.kind.toNat:Int)=3 then [a1q d.ch,a1q d.ln,a1q d.wd,d.stem,a1q d.mark.toNat] else [a1q d.of]
theorem f4c (k:Int):c2b (fmN k):=by
 unfold fmN
 split
 ·unfold c2b formS;decide
 split
 ·unfold c2b fromS;decide
 split
 ·unfold c2b plcS;decide
 split
 ·unfold c2b voidS;decide
 ·exact b2d
structure PDc (d:Dc):Prop where
 num:in9 d.num
 form:c2b d.form
 stem:c2b d.stem
 pl:in9 d.ch∧in9 d.ln∧in9 d.wd
 of:in9 d.of
theorem d0u {d:Dc} (h:PDc d):a1o (a8h d)=fmN d.kind.toNat::a1q d.num::dcP d:=by
 have e1:a1o (a1b [fmN d.kind.toNat,a1q d.num])=[fmN d.kind.toNat,a1q d.num]:=b5i (by simp) (by
  intro x hx
  simp only [List.mem_cons,List.not_mem_nil,or_false] at hx
  rcases hx with rfl|rfl
  ·exact f4c _
  ·exact a8p h.num)
 have e2:=d6w (m:=d.mark) h.stem (f5o _)
 have e3:=e9s h.pl.1 h.pl.2.1 h.pl.2.2
 have e4:=a9m h.form
 have e5:=a9m (a8p h.of)
 unfold a8h
 rw [a7r _ (by simp),List.flatMap_cons,e1]
 unfold fmP dcP
 split
 ·simp [e2,e4]
 split
 ·simp [e2,e3,e4]
 split
 ·simp [e2,e3]
 ·simp [e5]
theorem f1m {k:Int} (h:k=1∨k=2∨k=3∨k=4):a5s (fmN k)=k∧¬ fmN k=cutS:=by
 rcases h with rfl|rfl|rfl|rfl<;>decide
theorem e7e {s:ByteArray} (h:a2r s 0=true):s=⟨#[]⟩∨a1f s=true:=by
 by_cases h0:s=⟨#[]⟩
 ·exact .inl h0
 ·right
  rw [← a3y]
  unfold a2r inB at h ⊢
  simp only [Bool.and_eq_true,decide_eq_true_eq] at h ⊢
  have:s.size≠0:=fun e=>h0 (by
   obtain ⟨⟨l⟩⟩:=s
   simp [ByteArray.size] at e
   subst e;rfl)
  exact ⟨⟨by omega,h.1.2⟩,h.2⟩
structure PRl (r:Rl):Prop where
 cut:a1f r.cut=true
 put:r.put=⟨#[]⟩∨a1f r.put=true
 least:in9 r.least
theorem g2w {r:Rl} (h:a8a r=true):PRl r:=by
 have hv:=f3j h
 simp only [a8a,Bool.and_eq_true] at h
 obtain ⟨⟨⟨h1,h2⟩,_⟩,h3⟩:=h
 exact ⟨by rw [← a3y];exact h1,e7e h2,hv.least⟩
theorem f1p {r:Rl} (h:PRl r):c9i (rlP r)=some (r,[]):=by
 unfold rlP c9i
 simp only [a6b,h.cut,if_true]
 rcases h.put with hp|hp
 ·have e:c4u r.put=[]:=by unfold c4u;rw [if_pos hp]
  rw [e]
  simp only [d2x,List.nil_append,List.length_cons,List.length_nil,Nat.lt_irrefl,if_false,a9j,a7p h.least,Option.map_some]
  obtain ⟨a,b,c⟩:=r
  simp only at hp
  rw [hp]
 ·have e:c4u r.put=[r.put]:=by unfold c4u;rw [if_neg (f5e hp)]
  rw [e]
  simp [d2x,a6b,hp,a9j,a7p h.least]
theorem e0x {r:Rl} (h:PRl r):c2b r.cut∧c2b r.put:=⟨a6s h.cut,by
 rcases h.put with hp|hp
 ·rw [hp];exact b2d
 ·exact a6s hp⟩
theorem e8v (s:Lx) {r:Rl} (h:PRl r) (hs:s.decs=[]):b1o s (a6h r)=some ⟨s.rules++[r],s.decs⟩:=by
 obtain ⟨n1,n2⟩:=e0x h
 unfold b1o
 rw [d0y n1 n2 h.least]
 simp only [b1f,if_true,hs,f1p h]
structure QDc (d:Dc):Prop where
 num:in9 d.num
 stem:in9 d.of
 pl:in9 d.ch∧in9 d.ln∧in9 d.wd
 is:((d.kind.toNat:Int)=1∧a1f d.form=true∧a1f d.stem=true∧d=⟨d.num,1,d.form,0,0,0,d.stem,d.mark,0⟩) ∨
  ((d.kind.toNat:Int)=2∧a1f d.form=true∧a1f d.stem=true∧d=⟨d.num,2,d.form,d.ch,d.ln,d.wd,d.stem,d.mark,0⟩) ∨
  ((d.kind.toNat:Int)=3∧a1f d.stem=true∧d=⟨d.num,3,⟨#[]⟩,d.ch,d.ln,d.wd,d.stem,d.mark,0⟩) ∨
  ((d.kind.toNat:Int)=4∧d=⟨d.num,4,⟨#[]⟩,0,0,0,⟨#[]⟩,0,d.of⟩)
theorem c1x {k:UInt8} {n:UInt8} (h:(k.toNat:Int)=n.toNat):k=n:=UInt8.toNat_inj.1 (by omega)
theorem g7h {t:List Ch} (ht:a1s t=true) {d:Dc} (h:c2h t d=true):QDc d:=by
 have hv:=g1e ht h
 refine ⟨hv.num,hv.of,hv.pl,?_⟩
 obtain ⟨num,kind,form,ch,ln,wd,stem,mark,of⟩:=d
 unfold c2h at h
 rw [Bool.and_eq_true] at h
 have h2:=h.2
 clear h hv
 simp only at h2 ⊢
 unfold b1p at h2
 split at h2
 ·rename_i hk
  simp only [Bool.and_eq_true,c2u,a5l,decide_eq_true_eq] at h2
  obtain ⟨a,⟨b1,b2,b3⟩,⟨c,_⟩,e⟩:=h2
  have:=c1x (k:=kind) (n:=1) hk
  exact .inl ⟨hk,a,c,by rw [this,b1,b2,b3,e]⟩
 split at h2
 ·rename_i hk
  simp only [Bool.and_eq_true,c2u,a5l,decide_eq_true_eq] at h2
  obtain ⟨a,_,⟨c,_⟩,e⟩:=h2
  have:=c1x (k:=kind) (n:=2) hk
  exact .inr (.inl ⟨hk,a,c,by rw [this,e]⟩)
 split at h2
 ·rename_i hk
  simp only [Bool.and_eq_true,c2u,a5l,decide_eq_true_eq] at h2
  obtain ⟨a,_,⟨c,_⟩,e⟩:=h2
  have:=c1x (k:=kind) (n:=3) hk
  exact .inr (.inr (.inl ⟨hk,c,by rw [this,e,a]⟩))
 split at h2
 ·rename_i hk
  simp only [Bool.and_eq_true,c2u,f9f,decide_eq_true_eq] at h2
  obtain ⟨a,⟨b1,b2,b3⟩,⟨c,c'⟩,e⟩:=h2
  have:=c1x (k:=kind) (n:=4) hk
  exact .inr (.inr (.inr ⟨hk,by rw [this,a,b1,b2,b3,c,c']⟩))
 ·cases h2
theorem q_p {d:Dc} (h:QDc d):PDc d:=by
 refine ⟨h.num,?_,?_,h.pl,h.stem⟩
 ·rcases h.is with ⟨_,a,_,_⟩|⟨_,a,_,_⟩|⟨_,_,e⟩|⟨_,e⟩
  ·exact a6s a
  ·exact a6s a
  ·rw [e];exact b2d
  ·rw [e];exact b2d
 ·rcases h.is with ⟨_,_,a,_⟩|⟨_,_,a,_⟩|⟨_,a,_⟩|⟨_,e⟩
  ·exact a6s a
  ·exact a6s a
  ·exact a6s a
  ·rw [e];exact b2d
theorem c1c {s:ByteArray} {m:UInt8} (h:a1f s=true) (r:Rws):b3i (s::a1q m.toNat::r)=some ((s,m),r):=by
 have hm:=m.toNat_lt
 have e:UInt8.ofNat ((m.toNat:Int)).toNat=m:=by simp
 simp only [b3i,a6b,h,if_true,a9j,a7p (f5o m),Option.map_some,e]
 rw [if_pos (by omega)]
theorem c5k {a b c:Int} (ha:in9 a) (hb:in9 b) (hc:in9 c) (r:Rws):b1g (a1q a::a1q b::a1q c::r)=some ((a,b,c),r):=by
 obtain ⟨p0,p1,p2,p3⟩:=d9w ha hb hc r
 simp only [b1g,p0,if_true,p1,p2,p3,List.drop_succ_cons,List.drop_zero]
theorem f0b (s:Lx) {d:Dc} (h:QDc d):b1o s (a8h d)=some ⟨s.rules,s.decs++[d]⟩:=by
 have hk:(d.kind.toNat:Int)=1∨(d.kind.toNat:Int)=2∨(d.kind.toNat:Int)=3∨(d.kind.toNat:Int)=4:=by
  rcases h.is with ⟨a,_⟩|⟨a,_⟩|⟨a,_⟩|⟨a,_⟩<;>simp [a]
 obtain ⟨f1,f2'⟩:=f1m hk
 have key:f1f (fmN d.kind.toNat) (a1q d.num::dcP d)=some (d,[]):=by
  have hn:a9j (a1q d.num::dcP d)=some (d.num,dcP d):=by simp only [a9j,a7p h.num,Option.map_some]
  rw [c8s f1 hn]
  obtain ⟨i0,i1,i2⟩:=h.pl
  rcases h.is with ⟨a,b,c,e⟩|⟨a,b,c,e⟩|⟨a,c,e⟩|⟨a,e⟩
  ·have ep:dcP d=[d.form,d.stem,a1q d.mark.toNat]:=by unfold dcP;rw [if_pos a]
   rw [ep,a]
   simp only [fK,if_true,f2,a6b,b,c1c c,d1q]
   conv=>rhs;rw [e]
   rfl
  ·have ep:dcP d=[a1q d.ch,a1q d.ln,a1q d.wd,d.form,d.stem,a1q d.mark.toNat]:=by unfold dcP;rw [if_neg (by omega),if_pos a]
   rw [ep,a]
   simp only [fK,show ¬ (2:Int)=1 by decide,if_false,if_true,f4,c5k i0 i1 i2,f2,a6b,b,c1c c,d1q,f2n]
   conv=>rhs;rw [e]
   rfl
  ·have ep:dcP d=[a1q d.ch,a1q d.ln,a1q d.wd,d.stem,a1q d.mark.toNat]:=by unfold dcP;rw [if_neg (by omega),if_neg (by omega),if_pos a]
   rw [ep,a]
   simp only [fK,show ¬ (3:Int)=1 by decide,show ¬ (3:Int)=2 by decide,if_false,if_true,f6,c5k i0 i1 i2,c1c c,d1q,f2n]
   conv=>rhs;rw [e]
   rfl
  ·have ep:dcP d=[a1q d.of]:=by unfold dcP;rw [if_neg (by omega),if_neg (by omega),if_neg (by omega)]
   rw [ep,a]
   simp only [fK,show ¬ (4:Int)=1 by decide,show ¬ (4:Int)=2 by decide,show ¬ (4:Int)=3 by decide,if_false,if_true,f8,a9j,a7p h.stem,Option.map_some]
   conv=>rhs;rw [e]
   rfl
 unfold b1o
 rw [d0u (q_p h)]
 simp only [b1f,if_neg f2',key]
theorem c3k (R:List Rl):∀ (l pre:List Rl),(∀ r ∈ l,PRl r)→a4e ⟨pre,[]⟩ (l.map a6h)=some ⟨pre++l,[]⟩
 |[],pre,_=>by simp [a4e]
 |r::l,pre,h=>by
  rw [List.map_cons,a4e,e8v ⟨pre,[]⟩ (h r (by simp)) rfl]
  simp only [Option.bind_some]
  rw [c3k R l (pre++[r]) (fun x hx=>h x (by simp [hx]))]
  simp
theorem c5a (R:List Rl):∀ (l pre:List Dc),(∀ d ∈ l,QDc d)→a4e ⟨R,pre⟩ (l.map a8h)=some ⟨R,pre++l⟩
 |[],pre,_=>by simp [a4e]
 |r::l,pre,h=>by
  rw [List.map_cons,a4e,f0b ⟨R,pre⟩ (h r (by simp))]
  simp only [Option.bind_some]
  rw [c5a R l (pre++[r]) (fun x hx=>h x (by simp [hx]))]
  simp
theorem e3m {x:Lx} (h1:∀ r ∈ x.rules,PRl r) (h2:∀ d ∈ x.decs,QDc d):a4e X0 (a5d x)=some x:=by
 unfold a5d
 have e1:=c3k [] x.rules [] h1
 have e2:=c5a x.rules x.decs [] h2
 simp only [List.nil_append] at e1 e2
 rw [b1u]
 show Option.bind (a4e ⟨[],[]⟩ _) _=_
 rw [e1]
 exact e2
theorem z9:in9 0:=⟨by omega,by omega⟩
open Go Pm
def bL (l:List ByteArray) (k:Nat):List UInt8:=(a5g l k).data.toList
theorem d7y (l:List ByteArray) (k:Nat):(bL l k).length=(a5g l k).size:=by unfold bL;rw [Array.length_toList];rfl
theorem e2l (l:List ByteArray) {k:Nat} (h:k < l.length):bL l (k+1)=bL l k++(c2x l[k] k).data.toList:=by
 unfold bL
 rw [a7u l h,ByteArray.data_append,Array.toList_append]
theorem f2u (l:List ByteArray) (k:Nat):∀ n,k≤n→n≤l.length→∃ r,bL l n=bL l k++r
 |0,h,_=>⟨[],by rw [show k=0 by omega];simp⟩
 |n+1,h,hn=>by
  by_cases e:k=n+1
  ·exact ⟨[],by rw [e];simp⟩
  ·obtain ⟨r,hr⟩:=f2u l k n (by omega) (by omega)
   exact ⟨r++(c2x l[n] n).data.toList,by rw [e2l l (by omega),hr,List.append_assoc]⟩
def c1 (s:ByteArray) (i:Int):UInt8:=UInt8.ofNat (97+(d1g s i s.size / 26).toNat)
def c2 (s:ByteArray) (i:Int):UInt8:=UInt8.ofNat (97+(d1g s i s.size % 26).toNat)
theorem d2l (s:ByteArray) (i:Int):(c2x s i).data.toList=(s.data.toList++[32,c1 s i,c2 s i])++[10]:=by
 unfold c2x f5x c1 c2
 simp only [ByteArray.data_append,Array.toList_append,List.append_assoc]
 rfl
theorem g8j (s:ByteArray) (i:Int):c1 s i≠10∧c2 s i≠10:=by
 have h:=e3j s i s.size
 have e:(10:UInt8).toNat=10:=rfl
 constructor
 ·intro hc
  have h2:(c1 s i).toNat=10:=by rw [hc];rfl
  unfold c1 at h2
  rw [UInt8.toNat_ofNat'] at h2
  omega
 ·intro hc
  have h2:(c2 s i).toNat=10:=by rw [hc];rfl
  unfold c2 at h2
  rw [UInt8.toNat_ofNat'] at h2
  omega
theorem d7m:∀ (x r:List UInt8),(∀ b ∈ x,b≠10)→ixL (x++10::r)=x.length
 |[],r,_=>by simp [ixL]
 |b::x,r,h=>by
  rw [List.cons_append,ixL,if_neg (h b (by simp)),d7m x r (fun y hy=>h y (by simp [hy]))]
  rfl
theorem g0y (s:ByteArray) (a b:Nat):(s.extract a b).data.toList=(s.data.toList.drop a).take (b - a):=by
 rw [ByteArray.data_extract,Array.toList_extract,List.extract_eq_take_drop]
theorem g2e {s:ByteArray} (h:b4y s=true):∀ b ∈ s.data.toList,b≠10:=by
 unfold b4y at h
 simp only [Bool.and_eq_true,List.all_eq_true] at h
 intro b hb e
 have:=h.2 b hb
 subst e
 exact absurd this (by decide)
theorem f7b {l:List ByteArray} (hl:∀ s ∈ l,b4y s=true) {k:Nat} (hk:k < l.length) :
  nlS (a5g l l.length) (a5g l k).size+1=(a5g l (k+1)).size∧(a5g l l.length).extract (a5g l k).size (nlS (a5g l l.length) (a5g l k).size - 3)=l[k]∧b4q (a5g l l.length) (a5g l k).size k=true:=by
 have hr:=hl _ (List.getElem_mem hk)
 obtain ⟨r,e⟩:=f2u l (k+1) l.length (by omega) (Nat.le_refl _)
 have ek:=e2l l hk
 have hz:(a5g l (k+1)).size=(a5g l k).size+(l[k].size+4):=by rw [a7u l hk,ByteArray.size_append,a4i]
 have hd:(a5g l l.length).data.toList.drop (a5g l k).size=(l[k].data.toList++[32,c1 l[k] k,c2 l[k] k])++10::r:=by
  show (bL l l.length).drop _=_
  rw [e,ek,← d7y,List.append_assoc,List.drop_left,d2l]
  simp
 have hx:∀ b ∈ l[k].data.toList++[32,c1 l[k] k,c2 l[k] k],b≠10:=by
  intro b hb
  rcases List.mem_append.1 hb with hb|hb
  ·exact g2e hr b hb
  ·simp only [List.mem_cons,List.not_mem_nil,or_false] at hb
   rcases hb with rfl|rfl|rfl
   ·decide
   ·exact (g8j _ _).1
   ·exact (g8j _ _).2
 have hsz:l[k].data.toList.length=l[k].size:=by simp
 have hn:nlS (a5g l l.length) (a5g l k).size=(a5g l k).size+(l[k].size+3):=by
  unfold nlS
  rw [hd,d7m _ _ hx]
  simp
 have hS:(a5g l l.length).size=(a5g l k).size+(l[k].size+4)+r.length:=by
  have h1:(bL l l.length).length=(bL l (k+1)).length+r.length:=by rw [e,List.length_append]
  rw [d7y,d7y] at h1
  omega
 have he:(a5g l l.length).extract (a5g l k).size (nlS (a5g l l.length) (a5g l k).size - 3)=l[k]:=by
  refine b6j ?_
  rw [g0y,hn,hd,show (a5g l k).size+(l[k].size+3) - 3 - (a5g l k).size=l[k].data.toList.length by omega]
  simp
 refine ⟨by omega,he,?_⟩
 unfold b4q
 rw [he,hr,hn]
 have h2:c2x l[k] k=(a5g l l.length).extract (a5g l k).size ((a5g l k).size+(l[k].size+3)+1):=by
  refine b6j ?_
  rw [g0y,hd,d2l,show (a5g l k).size+(l[k].size+3)+1 - (a5g l k).size=(l[k].data.toList++[32,c1 l[k] k,c2 l[k] k]++[10]).length by simp;omega]
  rw [show (l[k].data.toList++[32,c1 l[k] k,c2 l[k] k]++10::r)=(l[k].data.toList++[32,c1 l[k] k,c2 l[k] k]++[10])++r by simp]
  rw [List.take_left]
 have hz1:1≤l[k].size:=by
  unfold b4y at hr
  simp only [Bool.and_eq_true,decide_eq_true_eq] at hr
  have:=hr.1.1
  omega
 rw [decide_eq_true h2,decide_eq_true (⟨by omega,by omega⟩)]
 rfl
theorem c0m {l:List ByteArray} (hl:∀ s ∈ l,b4y s=true):∀ (m k:Nat),k≤l.length→l.length≤k+m→b3v (a5g l l.length) m (a5g l k).size (l.take k)=(l,(a5g l l.length).size)
 |m,k,hk,hm=>by
  by_cases hkl:k < l.length
  ·obtain ⟨a,b,c⟩:=f7b hl hkl
   have hlen:(l.take k).length=k:=by simp;omega
   match m,hm with
   |0,hm=>omega
   |m+1,hm =>
    rw [b8x (by rw [hlen];exact c),a,b]
    have:=c0m hl m (k+1) (by omega) (by omega)
    rw [← this]
    rw [List.take_add_one,List.getElem?_eq_getElem hkl]
    rfl
  ·have e:k=l.length:=by omega
   subst e
   rw [b0h,List.take_length]
   unfold b4q
   rw [decide_eq_false,Bool.false_and]
   rintro ⟨h1,_⟩
   rw [f3x rfl] at h1
   omega
theorem d2h {l:List ByteArray} (h:a1c l=true):l.length≤200∧∀ s ∈ l,b4y s=true:=by
 unfold a1c at h
 simp only [Bool.and_eq_true,List.all_eq_true,decide_eq_true_eq] at h
 exact ⟨by omega,h.1⟩
theorem g6v {l:List ByteArray} (h:a1c l=true) (hs:(a5g l l.length).size≤30000):rdL (wrS l)=l∧rdN (wrS l)=(wrS l).size∧c9s (wrS l)=0∧wrE l=0:=by
 obtain ⟨h1,h2⟩:=d2h h
 have e:wrS l=a5g l l.length:=by unfold wrS;rw [if_pos h,if_pos hs]
 have hr:b3v (a5g l l.length) 200 0 []=(l,(a5g l l.length).size):=c0m h2 200 0 (by omega) (by omega)
 refine ⟨?_,?_,?_,?_⟩
 ·unfold rdL;rw [e,if_pos hs,hr]
 ·unfold rdN;rw [e,if_pos hs,hr]
 ·unfold c9s;rw [e,if_pos hs]
 ·unfold wrE;rw [if_pos h,if_pos hs]
theorem g1m {l:List ByteArray} (h:a1c l=true) (hn:l.length≤180):(a5g l l.length).size≤30000:=by
 obtain ⟨h1,h2⟩:=d2h h
 have:=b0a (l:=l) (fun s hs=>c3i (h2 s hs)) l.length (Nat.le_refl _)
 omega
def okP (s:ByteArray):Prop:=∀ b ∈ s.data.toList,b4o b=true
theorem e1j {a b:ByteArray} (ha:okP a) (hb:okP b):okP (a++b):=by
 intro x hx
 rw [ByteArray.data_append,Array.toList_append] at hx
 rcases List.mem_append.1 hx with h|h
 ·exact ha x h
 ·exact hb x h
theorem g2c:okP ⟨#[32]⟩:=by unfold okP;decide
theorem d1u:∀ l:List ByteArray,(∀ s ∈ l,okP s)→okP (a1b l)
 |[],_=>by rw [d0z];intro b hb;simp at hb
 |[a],h=>by rw [b5k];exact h a (by simp)
 |a::b::l,h=>by
  rw [join_cons]
  exact e1j (h a (by simp)) (e1j g2c (d1u (b::l) fun s hs=>h s (by simp [List.mem_cons] at hs ⊢;exact .inr hs)))
theorem f0u {s:ByteArray} (h:a1f s=true):okP s:=by
 unfold a1f at h
 simp only [Bool.and_eq_true,List.all_eq_true] at h
 intro b hb
 have:=h.1 b hb
 unfold a1i at this
 unfold b4o
 simp only [Bool.not_eq_true',Bool.or_eq_false_iff,decide_eq_false_iff_not] at this ⊢
 omega
theorem f5f {v:Int} (h:in9 v):okP (a1q v):=by
 intro b hb
 unfold a1q at hb
 rw [a7l] at hb
 have:=d9s (d9y h b hb)
 unfold b4o
 simp only [Bool.not_eq_true',Bool.or_eq_false_iff,decide_eq_false_iff_not]
 omega
theorem f4y:∀ (a:ByteArray) (l:List ByteArray),a.size≤(a1b (a::l)).size
 |a,[]=>by rw [b5k];exact Nat.le_refl _
 |a,b::l=>by rw [join_cons,ByteArray.size_append];omega
theorem e7d {a:ByteArray} {l:List ByteArray} (h1:1≤a.size) (h:∀ s ∈ a::l,okP s∧s.size≤12) (hn:l.length≤11):b4y (a1b (a::l))=true:=by
 have hs:=b1l 12 (a::l) fun s hs=>(h s hs).2
 rw [← a7z] at hs
 have hg:=f4y a l
 have hp:=d1u (a::l) fun s hs=>(h s hs).1
 rw [List.length_cons] at hs
 unfold b4y
 rw [decide_eq_true (show 1≤((a1b (a::l)).size:Int) by omega),decide_eq_true (show ((a1b (a::l)).size:Int)≤160 by omega)]
 simp only [Bool.and_self,Bool.true_and,List.all_eq_true]
 exact hp
theorem c4x {x a:ByteArray} {l:List ByteArray} (hp:a1o x=a::l) (h1:1≤a.size) (h:∀ s ∈ a::l,okP s∧s.size≤12) (hn:l.length≤11):b4y x=true:=by
 rw [← d3u x,hp]
 exact e7d h1 h hn
theorem f4f {l:List ByteArray} (h:∀ s ∈ l,b4y s=true) (hn:l.length≤200):a1c l=true:=by
 unfold a1c
 simp only [Bool.and_eq_true,List.all_eq_true,decide_eq_true_eq]
 exact ⟨h,by omega⟩
theorem w12 {s:ByteArray} (h:a1f s=true):okP s∧s.size≤12:=⟨f0u h,(a2u h).2⟩
theorem n12 {v:Int} (h:in9 v):okP (a1q v)∧(a1q v).size≤12:=⟨f5f h,by have:=a2y h.1 h.2;omega⟩
theorem g8v (k:Int):okP (fmN k)∧(fmN k).size≤12:=by
 unfold fmN
 split
 ·exact ⟨by unfold okP formS;decide,by decide⟩
 split
 ·exact ⟨by unfold okP fromS;decide,by decide⟩
 split
 ·exact ⟨by unfold okP plcS;decide,by decide⟩
 split
 ·exact ⟨by unfold okP voidS;decide,by decide⟩
 ·exact ⟨by intro b hb;simp at hb,by decide⟩
theorem g3h {r:Rl} (h:PRl r):b4y (a6h r)=true:=by
 obtain ⟨n1,n2⟩:=e0x h
 refine c4x (d0y n1 n2 h.least) (by decide) ?_ (by unfold rlP c4u;split<;>simp)
 intro x hx
 simp only [rlP,List.mem_cons,List.mem_append,List.not_mem_nil,or_false] at hx
 rcases hx with rfl|rfl|hx|rfl
 ·exact ⟨by unfold okP cutS;decide,by decide⟩
 ·exact w12 h.cut
 ·unfold c4u at hx
  split at hx
  ·cases hx
  ·rename_i hne
   simp only [List.mem_cons,List.not_mem_nil,or_false] at hx
   subst hx
   rcases h.put with e|e
   ·exact (hne e).elim
   ·exact w12 e
 ·exact n12 h.least
theorem g0n {d:Dc} (h:QDc d):b4y (a8h d)=true:=by
 have hk:(d.kind.toNat:Int)=1∨(d.kind.toNat:Int)=2∨(d.kind.toNat:Int)=3∨(d.kind.toNat:Int)=4:=by
  rcases h.is with ⟨a,_⟩|⟨a,_⟩|⟨a,_⟩|⟨a,_⟩<;>simp [a]
 have hz:1≤(fmN d.kind.toNat).size:=by rcases hk with e|e|e|e<;>rw [e]<;>decide
 have hl:(dcP d).length≤6:=by unfold dcP;split<;>(try split)<;>(try split)<;>simp
 have hd:∀ x ∈ dcP d,okP x∧x.size≤12:=by
  obtain ⟨i0,i1,i2⟩:=h.pl
  have hm:=n12 (f5o d.mark)
  rcases h.is with ⟨a,b,c,e⟩|⟨a,b,c,e⟩|⟨a,c,e⟩|⟨a,e⟩
  ·have ep:dcP d=[d.form,d.stem,a1q d.mark.toNat]:=by unfold dcP;rw [if_pos a]
   rw [ep];intro x hx
   simp only [List.mem_cons,List.not_mem_nil,or_false] at hx
   rcases hx with rfl|rfl|rfl
   ·exact w12 b
   ·exact w12 c
   ·exact hm
  ·have ep:dcP d=[a1q d.ch,a1q d.ln,a1q d.wd,d.form,d.stem,a1q d.mark.toNat]:=by unfold dcP;rw [if_neg (by omega),if_pos a]
   rw [ep];intro x hx
   simp only [List.mem_cons,List.not_mem_nil,or_false] at hx
   rcases hx with rfl|rfl|rfl|rfl|rfl|rfl
   ·exact n12 i0
   ·exact n12 i1
   ·exact n12 i2
   ·exact w12 b
   ·exact w12 c
   ·exact hm
  ·have ep:dcP d=[a1q d.ch,a1q d.ln,a1q d.wd,d.stem,a1q d.mark.toNat]:=by unfold dcP;rw [if_neg (by omega),if_neg (by omega),if_pos a]
   rw [ep];intro x hx
   simp only [List.mem_cons,List.not_mem_nil,or_false] at hx
   rcases hx with rfl|rfl|rfl|rfl|rfl
   ·exact n12 i0
   ·exact n12 i1
   ·exact n12 i2
   ·exact w12 c
   ·exact hm
  ·have ep:dcP d=[a1q d.of]:=by unfold dcP;rw [if_neg (by omega),if_neg (by omega),if_neg (by omega)]
   rw [ep];intro x hx
   simp only [List.mem_cons,List.not_mem_nil,or_false] at hx
   subst hx
   exact n12 h.stem
 refine c4x (d0u (q_p h)) hz ?_ (by simp;omega)
 intro x hx
 rcases List.mem_cons.1 hx with rfl|hx
 ·exact g8v _
 ·rcases List.mem_cons.1 hx with rfl|hx
  ·exact n12 h.num
  ·exact hd x hx
theorem d8x {t:List Ch} {x:Lx} (ht:a1s t=true) (h:b1s t x=true):x.rules.length≤12∧x.decs.length≤20∧(∀ r ∈ x.rules,PRl r)∧∀ d ∈ x.decs,QDc d:=by
 unfold b1s at h
 simp only [Bool.and_eq_true,decide_eq_true_eq,List.all_eq_true] at h
 obtain ⟨⟨⟨h1,h2⟩,h3⟩,h4⟩:=h
 refine ⟨h1,h2,fun r hr=>g2w (h3 r hr),?_⟩
 have:∀ (l pre:List Dc),a2i (a6p t) pre l=true→∀ d ∈ l,QDc d:=by
  intro l
  induction l with
  |nil=>intro pre _ d hd;cases hd
  |cons a r ih =>
   intro pre hp d hd
   simp only [a2i,Bool.and_eq_true] at hp
   rcases List.mem_cons.1 hd with rfl|hd
   ·have h5:=hp.1
    unfold a6p at h5
    rw [Bool.and_eq_true] at h5
    exact g7h ht h5.2
   ·exact ih _ hp.2 d hd
 exact this _ _ h4
theorem d2a {t:List Ch} {x:Lx} (ht:a1s t=true) (h:b1s t x=true):a1c (a5d x)=true∧(a5d x).length≤32:=by
 obtain ⟨h1,h2,h3,h4⟩:=d8x ht h
 have hn:(a5d x).length≤32:=by unfold a5d;simp;omega
 refine ⟨f4f (fun s hs=>?_) (by omega),hn⟩
 unfold a5d at hs
 rcases List.mem_append.1 hs with hs|hs
 ·simp only [List.mem_map] at hs
  obtain ⟨r,hr,rfl⟩:=hs
  exact g3h (h3 r hr)
 ·simp only [List.mem_map] at hs
  obtain ⟨d,hd,rfl⟩:=hs
  exact g0n (h4 d hd)
theorem f2a {t:List Ch} {x:Lx} (ht:a1s t=true) (h:b1s t x=true):a9o t (a5d x)=(x,0):=by
 obtain ⟨h1,h2,h3,h4⟩:=d8x ht h
 have e:a4w t x=0:=by unfold a4w;rw [ht,h];rfl
 unfold a9o
 rw [ht,(d2a ht h).1,e3m h3 h4]
 simp [e]
open Go Pm
structure GSi (s:Si):Prop where
 bef:e5s s.bef=true
 aft:e5s s.aft=true
 word:a1f s.word=true
 pl:in9 s.ch∧in9 s.ln∧in9 s.wd
end Go.Proofs.YtmjhfccbbfpppaaGreatDoor
