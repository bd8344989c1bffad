import Derived.Test.YtmjhfccbbfpppaaGreatDoorQZ27
import Derived.Test.YtmjhfccbbfpppaaGreatDoorQZ30
import Derived.Test.YtmjhfccbbfpppaaGreatDoorQZ31
import Derived.Test.YtmjhfccbbfpppaaGreatDoorQZ39
import Derived.Test.YtmjhfccbbfpppaaGreatDoorQZ44
import Derived.Test.YtmjhfccbbfpppaaGreatDoorQZ46
namespace Go.Proofs.YtmjhfccbbfpppaaGreatDoor
open Go Pm
set_option linter.unusedSimpArgs false
set_option linter.unusedVariables false
theorem b7p:∀ a b:List UInt8,a2r (a++32::b)=a2r a++a2r b
 |[],b=>by simp [a2r]
 |c::r,b=>by
  have ih:=b7p r b
  have hne:=b5d r
  rw [List.cons_append,a2r,ih,a2r]
  by_cases hc:c=32
  ·rw [if_pos hc,if_pos hc];rfl
  ·rw [if_neg hc,if_neg hc]
   cases hp:a2r r with
   |nil=>exact (hne hp).elim
   |cons x l=>rfl
theorem c1i (a b:ByteArray):a1n (a++(⟨#[32]⟩++b))=a1n a++a1n b:=by
 have e:(a++((⟨#[32]⟩:ByteArray)++b)).data.toList=a.data.toList++32::b.data.toList:=by simp
 unfold a1n
 rw [e,b7p,List.map_append]
theorem join_cons (a b:ByteArray) (l:List ByteArray):a0z (a::b::l)=a++(⟨#[32]⟩++a0z (b::l)):=by
 refine b6d ?_
 simp only [a0z,a6w,ByteArray.data_append,Array.toList_append]
 simp [List.intercalate,List.intersperse]
theorem b2j:∀ l:List ByteArray,l≠[]→a1n (a0z l)=l.flatMap a1n
 |[],h=>(h rfl).elim
 |[a],_=>by rw [b3m];simp
 |a::b::l,_=>by
  rw [join_cons,c1i,b2j (b::l) (by simp)]
  rfl
def b9k:List (List UInt8)→List UInt8
 |[]=>[]
 |[a]=>a
 |a::b::l=>a++32::b9k (b::l)
theorem b5x:∀ l,b9k (a2r l)=l
 |[]=>rfl
 |b::r=>by
  have ih:=b5x r
  have hne:=b5d r
  unfold a2r
  by_cases hc:b=32
  ·rw [if_pos hc]
   cases hp:a2r r with
   |nil=>exact (hne hp).elim
   |cons x l=>rw [hp] at ih;simp only [b9k,List.nil_append];rw [ih,hc]
  ·rw [if_neg hc]
   cases hp:a2r r with
   |nil=>exact (hne hp).elim
   |cons x l =>
    rw [hp] at ih
    cases l with
    |nil=>simp only [b9k] at ih ⊢;rw [ih]
    |cons y q=>simp only [b9k,List.cons_append] at ih ⊢;rw [ih]
theorem b9b:∀ l:List (List UInt8),(a0z (l.map bA)).data.toList=b9k l
 |[]=>by simp [c9t,b9k]
 |[a]=>by simp only [List.map_cons,List.map_nil,b3m,a6w,b9k]
 |a::b::l=>by
  have ih:=b9b (b::l)
  simp only [List.map_cons] at ih ⊢
  rw [join_cons]
  simp only [ByteArray.data_append,Array.toList_append,ih,a6w,b9k]
  rfl
theorem d2q (s:ByteArray):a0z (a1n s)=s:=by
 refine b6d ?_
 unfold a1n
 rw [b9b,b5x]
def d0l (s:ByteArray):Prop:=∀ b ∈ s.data.toList,b≠32
theorem b5l {s:ByteArray} (h:d0l s):a1n s=[s]:=by
 unfold a1n
 rw [b5y _ h]
 simp [c0y]
theorem c8u {l:List ByteArray} (hne:l≠[]) (h:∀ s ∈ l,d0l s):a1n (a0z l)=l:=by
 rw [b2j l hne]
 clear hne
 induction l with
 |nil=>rfl
 |cons a r ih =>
  rw [List.flatMap_cons,b5l (h a (by simp)),ih (fun s hs=>h s (by simp [hs]))]
  rfl
theorem c2o {s:ByteArray} (h:a1h s=true):d0l s:=by
 unfold a1h at h
 simp only [Bool.and_eq_true,List.all_eq_true] at h
 intro b hb e
 have:=h.1 b hb
 subst e
 exact absurd this (by decide)
theorem d4l {v:Int} (h:in9 v):∀ b ∈ Lib.itoa v,e8o b=true:=by
 have hv:=a7x v h.1 h.2
 unfold b0a at hv
 split at hv
 ·rename_i hh
  exact List.all_eq_true.1 hh.2.2.2
 ·cases hv
theorem b3v {v:Int} (h:in9 v):d0l (a2a v):=by
 intro b hb e
 unfold a2a at hb
 rw [a6w] at hb
 have:=d4l h b hb
 subst e
 exact absurd this (by decide)
theorem c3g {v:Int} (h:in9 v):a4o (a2a v)=some v:=by
 unfold a4o a2a
 rw [a6w]
 exact a7x v h.1 h.2
theorem e6n {a b c:Int} (ha:in9 a) (hb:in9 b) (hc:in9 c):a1n (atS a b c)=[a2a a,a2a b,a2a c] :=
 c8u (by simp) (by
  intro s hs
  simp only [List.mem_cons,List.not_mem_nil,or_false] at hs
  rcases hs with rfl|rfl|rfl
  ·exact b3v ha
  ·exact b3v hb
  ·exact b3v hc)
theorem d8e {v:Int} (h:in9 v) (l:List ByteArray) (j:Nat) (hl:l[j]? = some (a2a v)):c2p l j=true∧nvS l j=v:=by
 obtain ⟨h1,h2⟩:=List.getElem?_eq_some_iff.1 hl
 have e:l.getD j ByteArray.empty=a2a v:=by simp [List.getD,hl]
 unfold c2p nvS
 rw [e,c3g h,decide_eq_true h1]
 exact ⟨rfl,rfl⟩
theorem d8r {a b c:Int} (ha:in9 a) (hb:in9 b) (hc:in9 c) (r:List ByteArray):a3d (a2a a::a2a b::a2a c::r)=true∧nvS (a2a a::a2a b::a2a c::r) 0=a∧nvS (a2a a::a2a b::a2a c::r) 1=b∧nvS (a2a a::a2a b::a2a c::r) 2=c:=by
 obtain ⟨a1,a2⟩:=d8e ha (a2a a::a2a b::a2a c::r) 0 rfl
 obtain ⟨b1,b2⟩:=d8e hb (a2a a::a2a b::a2a c::r) 1 rfl
 obtain ⟨c1,c2⟩:=d8e hc (a2a a::a2a b::a2a c::r) 2 rfl
 exact ⟨by unfold a3d;rw [a1,b1,c1];rfl,a2,b2,c2⟩
structure OKch (c:Ch):Prop where
 id:in9 c.id
 ln:∀ r ∈ c.lines,e8w r=true
open Go Pm
theorem f3m (k:Int):d0l (kdS k):=by
 unfold kdS
 split
 ·unfold d0l a2q;decide
 ·split
  ·unfold d0l a5n;decide
  ·split
   ·unfold d0l a1i;decide
   ·intro b hb;simp at hb
theorem f8r {k:Int} (h:k=1∨k=2∨k=3):(kdN (kdS k):Int)=k∧¬ kdS k=a5h:=by
 rcases h with rfl|rfl|rfl<;>decide
def b5h (w:ByteArray):List ByteArray:=if w=⟨#[]⟩ then [] else [w]
theorem b7c {r:Rd} (ha:in9 r.ch) (hb:in9 r.ln) (hc:in9 r.wd) (hw:d0l r.word):a1n (b6l r)=kdS r.kind.toNat::a2a r.ch::a2a r.ln::a2a r.wd::b5h r.word:=by
 have h2:a1n (a0z [kdS r.kind.toNat,atS r.ch r.ln r.wd])=[kdS r.kind.toNat,a2a r.ch,a2a r.ln,a2a r.wd]:=by
  rw [b2j _ (by simp),List.flatMap_cons,List.flatMap_cons,b5l (f3m _),e6n ha hb hc]
  rfl
 unfold b6l b5h
 split
 ·exact h2
 ·rw [c1i,h2,b5l hw];rfl
theorem c3k {r:Rd} (h:b0c r):d0l r.word:=by
 rcases h with ⟨_,h⟩|⟨_,h⟩|⟨_,h⟩
 ·rw [h];intro b hb;simp at hb
 ·exact c2o h
 ·exact c2o h
theorem d9v {w:ByteArray} (h:a1h w=true):¬ w=⟨#[]⟩:=fun e=>by
 have:=(a2k h).1
 rw [e] at this
 exact absurd this (by decide)
theorem d6f (c:Cp) {r:Rd} (ha:in9 r.ch) (hb:in9 r.ln) (hc:in9 r.wd) (hg:b0c r):stepG (some c) (b6l r)=some ⟨c.id,c.rds++[r]⟩:=by
 obtain ⟨k1,k2⟩:=f8r (b0k hg)
 obtain ⟨p0,p1,p2,p3⟩:=d8r ha hb hc (b5h r.word)
 have hk0:¬ kdN (kdS r.kind.toNat)=0:=fun e=>by have:=b0k hg;omega
 unfold stepG
 rw [b7c ha hb hc (c3k hg)]
 simp only [b0d,if_neg k2,if_neg hk0,p0,if_true,p1,p2,p3]
 rcases hg with ⟨hk,hw⟩|⟨hk,hw⟩|⟨hk,hw⟩
 ·have e1:kdN (kdS r.kind.toNat)=1:=by omega
  have e2:r.kind=1:=UInt8.toNat_inj.1 (by show r.kind.toNat=1;omega)
  have e3:b5h r.word=[]:=by unfold b5h;rw [if_pos hw]
  simp only [e1,if_true,e3,List.drop_succ_cons,List.drop_zero]
  obtain ⟨a,b,d,k,w⟩:=r
  simp only at e2 hw ⊢
  rw [e2,hw]
 ·have e1:kdN (kdS r.kind.toNat)=2:=by omega
  have e3:b5h r.word=[r.word]:=by unfold b5h;rw [if_neg (d9v hw)]
  have e2:UInt8.ofNat 2=r.kind:=UInt8.toNat_inj.1 (by show 2=r.kind.toNat;omega)
  simp only [e1,e3,List.drop_succ_cons,List.drop_zero,hw,if_true,e2]
  rfl
 ·have e1:kdN (kdS r.kind.toNat)=3:=by omega
  have e3:b5h r.word=[r.word]:=by unfold b5h;rw [if_neg (d9v hw)]
  have e2:UInt8.ofNat 3=r.kind:=UInt8.toNat_inj.1 (by show 3=r.kind.toNat;omega)
  simp only [e1,e3,List.drop_succ_cons,List.drop_zero,hw,if_true,e2]
  rfl
theorem b8d {v:Int} (h:in9 v):a1n (a0z [a5h,a2a v])=[a5h,a2a v] :=
 c8u (by simp) (by
  intro s hs
  simp only [List.mem_cons,List.not_mem_nil,or_false] at hs
  rcases hs with rfl|rfl
  ·unfold d0l a5h;decide
  ·exact b3v h)
theorem c7x {v:Int} (h:in9 v):stepG none (a0z [a5h,a2a v])=some ⟨v,[]⟩:=by
 unfold stepG
 rw [b8d h]
 simp only [b0d,if_true,c3g h,Option.map_some]
structure OKrd (r:Rd):Prop where
 ch:in9 r.ch
 ln:in9 r.ln
 wd:in9 r.wd
 good:b0c r
theorem b8l (id:Int):∀ (l pre:List Rd),(∀ r ∈ l,OKrd r)→a4r (some ⟨id,pre⟩) (l.map b6l)=some (some ⟨id,pre++l⟩)
 |[],pre,_=>by simp [a4r]
 |r::l,pre,h=>by
  have hr:=h r (by simp)
  rw [List.map_cons,a4r,d6f ⟨id,pre⟩ hr.ch hr.ln hr.wd hr.good]
  simp only [Option.bind_some]
  rw [b8l id l (pre++[r]) (fun x hx=>h x (by simp [hx]))]
  simp
theorem d3m {c:Cp} (hi:in9 c.id) (h:∀ r ∈ c.rds,OKrd r):a4r none (a2o c)=some (some c):=by
 unfold a2o
 rw [a4r,c7x hi]
 simp only [Option.bind_some]
 have:=b8l c.id c.rds [] h
 simpa using this
open Go Pm
structure PDc (d:Dc):Prop where
 num:in9 d.num
 form:d0l d.form
 stem:d0l d.stem
 pl:in9 d.ch∧in9 d.ln∧in9 d.wd
 of:in9 d.of
structure PRl (r:Rl):Prop where
 cut:a1h r.cut=true
 put:r.put=⟨#[]⟩∨a1h r.put=true
 least:in9 r.least
structure QDc (d:Dc):Prop where
 num:in9 d.num
 stem:in9 d.of
 pl:in9 d.ch∧in9 d.ln∧in9 d.wd
 is:((d.kind.toNat:Int)=1∧a1h d.form=true∧a1h d.stem=true∧d=⟨d.num,1,d.form,0,0,0,d.stem,d.mark,0⟩) ∨
  ((d.kind.toNat:Int)=2∧a1h d.form=true∧a1h d.stem=true∧d=⟨d.num,2,d.form,d.ch,d.ln,d.wd,d.stem,d.mark,0⟩) ∨
  ((d.kind.toNat:Int)=3∧a1h d.stem=true∧d=⟨d.num,3,⟨#[]⟩,d.ch,d.ln,d.wd,d.stem,d.mark,0⟩) ∨
  ((d.kind.toNat:Int)=4∧d=⟨d.num,4,⟨#[]⟩,0,0,0,⟨#[]⟩,0,d.of⟩)
theorem z9:in9 0:=⟨by omega,by omega⟩
open Go Pm
def bL (l:List ByteArray) (k:Nat):List UInt8:=(a4z l k).data.toList
theorem e2q (l:List ByteArray) (k:Nat):(bL l k).length=(a4z l k).size:=by unfold bL;rw [Array.length_toList];rfl
theorem e0e (l:List ByteArray) {k:Nat} (h:k < l.length):bL l (k+1)=bL l k++(c1b l[k] k).data.toList:=by
 unfold bL
 rw [a7h l h,ByteArray.data_append,Array.toList_append]
theorem e9o (l:List ByteArray) (k:Nat):∀ n,k≤n→n≤l.length→∃ r,bL l n=bL l k++r
 |0,h,_=>⟨[],by rw [show k=0 by omega];simp⟩
 |n+1,h,hn=>by
  by_cases e:k=n+1
  ·exact ⟨[],by rw [e];simp⟩
  ·obtain ⟨r,hr⟩:=e9o l k n (by omega) (by omega)
   exact ⟨r++(c1b l[n] n).data.toList,by rw [e0e l (by omega),hr,List.append_assoc]⟩
def c1 (s:ByteArray) (i:Int):UInt8:=UInt8.ofNat (97+(c9a s i s.size / 26).toNat)
def c2 (s:ByteArray) (i:Int):UInt8:=UInt8.ofNat (97+(c9a s i s.size % 26).toNat)
theorem d0d (s:ByteArray) (i:Int):(c1b s i).data.toList=(s.data.toList++[32,c1 s i,c2 s i])++[10]:=by
 unfold c1b f2a c1 c2
 simp only [ByteArray.data_append,Array.toList_append,List.append_assoc]
 rfl
theorem g2s (s:ByteArray) (i:Int):c1 s i≠10∧c2 s i≠10:=by
 have h:=d7w s i s.size
 have e:(10:UInt8).toNat=10:=rfl
 constructor
 ·intro hc
  have h2:(c1 s i).toNat=10:=by rw [hc];rfl
  unfold c1 at h2
  rw [UInt8.toNat_ofNat'] at h2
  omega
 ·intro hc
  have h2:(c2 s i).toNat=10:=by rw [hc];rfl
  unfold c2 at h2
  rw [UInt8.toNat_ofNat'] at h2
  omega
theorem e2t:∀ (x r:List UInt8),(∀ b ∈ x,b≠10)→ixL (x++10::r)=x.length
 |[],r,_=>by simp [ixL]
 |b::x,r,h=>by
  rw [List.cons_append,ixL,if_neg (h b (by simp)),e2t x r (fun y hy=>h y (by simp [hy]))]
  rfl
theorem f5i (s:ByteArray) (a b:Nat):(s.extract a b).data.toList=(s.data.toList.drop a).take (b - a):=by
 rw [ByteArray.data_extract,Array.toList_extract,List.extract_eq_take_drop]
theorem f5j {s:ByteArray} (h:b4c s=true):∀ b ∈ s.data.toList,b≠10:=by
 unfold b4c at h
 simp only [Bool.and_eq_true,List.all_eq_true] at h
 intro b hb e
 have:=h.2 b hb
 subst e
 exact absurd this (by decide)
theorem f0q {l:List ByteArray} (hl:∀ s ∈ l,b4c s=true) {k:Nat} (hk:k < l.length) :
  nlS (a4z l l.length) (a4z l k).size+1=(a4z l (k+1)).size∧(a4z l l.length).extract (a4z l k).size (nlS (a4z l l.length) (a4z l k).size - 3)=l[k]∧b3f (a4z l l.length) (a4z l k).size k=true:=by
 have hr:=hl _ (List.getElem_mem hk)
 obtain ⟨r,e⟩:=e9o l (k+1) l.length (by omega) (Nat.le_refl _)
 have ek:=e0e l hk
 have hz:(a4z l (k+1)).size=(a4z l k).size+(l[k].size+4):=by rw [a7h l hk,ByteArray.size_append,a4d]
 have hd:(a4z l l.length).data.toList.drop (a4z l k).size=(l[k].data.toList++[32,c1 l[k] k,c2 l[k] k])++10::r:=by
  show (bL l l.length).drop _=_
  rw [e,ek,← e2q,List.append_assoc,List.drop_left,d0d]
  simp
 have hx:∀ b ∈ l[k].data.toList++[32,c1 l[k] k,c2 l[k] k],b≠10:=by
  intro b hb
  rcases List.mem_append.1 hb with hb|hb
  ·exact f5j hr b hb
  ·simp only [List.mem_cons,List.not_mem_nil,or_false] at hb
   rcases hb with rfl|rfl|rfl
   ·decide
   ·exact (g2s _ _).1
   ·exact (g2s _ _).2
 have hsz:l[k].data.toList.length=l[k].size:=by simp
 have hn:nlS (a4z l l.length) (a4z l k).size=(a4z l k).size+(l[k].size+3):=by
  unfold nlS
  rw [hd,e2t _ _ hx]
  simp
 have hS:(a4z l l.length).size=(a4z l k).size+(l[k].size+4)+r.length:=by
  have h1:(bL l l.length).length=(bL l (k+1)).length+r.length:=by rw [e,List.length_append]
  rw [e2q,e2q] at h1
  omega
 have he:(a4z l l.length).extract (a4z l k).size (nlS (a4z l l.length) (a4z l k).size - 3)=l[k]:=by
  refine b6d ?_
  rw [f5i,hn,hd,show (a4z l k).size+(l[k].size+3) - 3 - (a4z l k).size=l[k].data.toList.length by omega]
  simp
 refine ⟨by omega,he,?_⟩
 unfold b3f
 rw [he,hr,hn]
 have h2:c1b l[k] k=(a4z l l.length).extract (a4z l k).size ((a4z l k).size+(l[k].size+3)+1):=by
  refine b6d ?_
  rw [f5i,hd,d0d,show (a4z l k).size+(l[k].size+3)+1 - (a4z l k).size=(l[k].data.toList++[32,c1 l[k] k,c2 l[k] k]++[10]).length by simp;omega]
  rw [show (l[k].data.toList++[32,c1 l[k] k,c2 l[k] k]++10::r)=(l[k].data.toList++[32,c1 l[k] k,c2 l[k] k]++[10])++r by simp]
  rw [List.take_left]
 have hz1:1≤l[k].size:=by
  unfold b4c at hr
  simp only [Bool.and_eq_true,decide_eq_true_eq] at hr
  have:=hr.1.1
  omega
 rw [decide_eq_true h2,decide_eq_true (⟨by omega,by omega⟩)]
 rfl
theorem b7m {l:List ByteArray} (hl:∀ s ∈ l,b4c s=true):∀ (m k:Nat),k≤l.length→l.length≤k+m→b2i (a4z l l.length) m (a4z l k).size (l.take k)=(l,(a4z l l.length).size)
 |m,k,hk,hm=>by
  by_cases hkl:k < l.length
  ·obtain ⟨a,b,c⟩:=f0q hl hkl
   have hlen:(l.take k).length=k:=by simp;omega
   match m,hm with
   |0,hm=>omega
   |m+1,hm =>
    rw [b8a (by rw [hlen];exact c),a,b]
    have:=b7m hl m (k+1) (by omega) (by omega)
    rw [← this]
    rw [List.take_add_one,List.getElem?_eq_getElem hkl]
    rfl
  ·have e:k=l.length:=by omega
   subst e
   rw [a8w,List.take_length]
   unfold b3f
   rw [decide_eq_false,Bool.false_and]
   rintro ⟨h1,_⟩
   rw [f1s rfl] at h1
   omega
theorem c9g {l:List ByteArray} (h:a1a l=true):l.length≤200∧∀ s ∈ l,b4c s=true:=by
 unfold a1a at h
 simp only [Bool.and_eq_true,List.all_eq_true,decide_eq_true_eq] at h
 exact ⟨by omega,h.1⟩
theorem g0s {l:List ByteArray} (h:a1a l=true) (hs:(a4z l l.length).size≤30000):rdL (wrS l)=l∧rdN (wrS l)=(wrS l).size∧c6n (wrS l)=0∧wrE l=0:=by
 obtain ⟨h1,h2⟩:=c9g h
 have e:wrS l=a4z l l.length:=by unfold wrS;rw [if_pos h,if_pos hs]
 have hr:b2i (a4z l l.length) 200 0 []=(l,(a4z l l.length).size):=b7m h2 200 0 (by omega) (by omega)
 refine ⟨?_,?_,?_,?_⟩
 ·unfold rdL;rw [e,if_pos hs,hr]
 ·unfold rdN;rw [e,if_pos hs,hr]
 ·unfold c6n;rw [e,if_pos hs]
 ·unfold wrE;rw [if_pos h,if_pos hs]
theorem f7b {l:List ByteArray} (h:a1a l=true) (hn:l.length≤180):(a4z l l.length).size≤30000:=by
 obtain ⟨h1,h2⟩:=c9g h
 have:=a8s (l:=l) (fun s hs=>c2b (h2 s hs)) l.length (Nat.le_refl _)
 omega
def okP (s:ByteArray):Prop:=∀ b ∈ s.data.toList,b2w b=true
theorem e0k {a b:ByteArray} (ha:okP a) (hb:okP b):okP (a++b):=by
 intro x hx
 rw [ByteArray.data_append,Array.toList_append] at hx
 rcases List.mem_append.1 hx with h|h
 ·exact ha x h
 ·exact hb x h
theorem f6m:okP ⟨#[32]⟩:=by unfold okP;decide
theorem c8z:∀ l:List ByteArray,(∀ s ∈ l,okP s)→okP (a0z l)
 |[],_=>by rw [c9t];intro b hb;simp at hb
 |[a],h=>by rw [b3m];exact h a (by simp)
 |a::b::l,h=>by
  rw [join_cons]
  exact e0k (h a (by simp)) (e0k f6m (c8z (b::l) fun s hs=>h s (by simp [List.mem_cons] at hs ⊢;exact .inr hs)))
theorem e3e {s:ByteArray} (h:a1h s=true):okP s:=by
 unfold a1h at h
 simp only [Bool.and_eq_true,List.all_eq_true] at h
 intro b hb
 have:=h.1 b hb
 unfold a1s at this
 unfold b2w
 simp only [Bool.not_eq_true',Bool.or_eq_false_iff,decide_eq_false_iff_not] at this ⊢
 omega
theorem e9y {v:Int} (h:in9 v):okP (a2a v):=by
 intro b hb
 unfold a2a at hb
 rw [a6w] at hb
 have:=d8c (d4l h b hb)
 unfold b2w
 simp only [Bool.not_eq_true',Bool.or_eq_false_iff,decide_eq_false_iff_not]
 omega
theorem f2e:∀ (a:ByteArray) (l:List ByteArray),a.size≤(a0z (a::l)).size
 |a,[]=>by rw [b3m];exact Nat.le_refl _
 |a,b::l=>by rw [join_cons,ByteArray.size_append];omega
theorem e4b {a:ByteArray} {l:List ByteArray} (h1:1≤a.size) (h:∀ s ∈ a::l,okP s∧s.size≤12) (hn:l.length≤11):b4c (a0z (a::l))=true:=by
 have hs:=b0f 12 (a::l) fun s hs=>(h s hs).2
 rw [← a7g] at hs
 have hg:=f2e a l
 have hp:=c8z (a::l) fun s hs=>(h s hs).1
 rw [List.length_cons] at hs
 unfold b4c
 rw [decide_eq_true (show 1≤((a0z (a::l)).size:Int) by omega),decide_eq_true (show ((a0z (a::l)).size:Int)≤160 by omega)]
 simp only [Bool.and_self,Bool.true_and,List.all_eq_true]
 exact hp
theorem c4m {x a:ByteArray} {l:List ByteArray} (hp:a1n x=a::l) (h1:1≤a.size) (h:∀ s ∈ a::l,okP s∧s.size≤12) (hn:l.length≤11):b4c x=true:=by
 rw [← d2q x,hp]
 exact e4b h1 h hn
theorem f0n {l:List ByteArray} (h:∀ s ∈ l,b4c s=true) (hn:l.length≤200):a1a l=true:=by
 unfold a1a
 simp only [Bool.and_eq_true,List.all_eq_true,decide_eq_true_eq]
 exact ⟨h,by omega⟩
theorem w12 {s:ByteArray} (h:a1h s=true):okP s∧s.size≤12:=⟨e3e h,(a2k h).2⟩
theorem n12 {v:Int} (h:in9 v):okP (a2a v)∧(a2a v).size≤12:=⟨e9y h,by have:=a2w h.1 h.2;omega⟩
theorem g3a (k:Int):okP (kdS k)∧(kdS k).size≤12:=by
 unfold kdS
 split
 ·exact ⟨by unfold okP a2q;decide,by decide⟩
 split
 ·exact ⟨by unfold okP a5n;decide,by decide⟩
 split
 ·exact ⟨by unfold okP a1i;decide,by decide⟩
 ·exact ⟨by intro b hb;simp at hb,by decide⟩
theorem c8h {t:List Ch} {c:Cp} (ht:a1l t=true) (h:a5e t c=true):in9 c.id∧c.rds.length≤20∧∀ r ∈ c.rds,OKrd r:=by
 obtain ⟨h1,h2,h3⟩:=c4r ht h
 refine ⟨h1,h2,fun r hr=>?_⟩
 obtain ⟨q1,q2,q3⟩:=g2v (h3.i r hr).1
 exact ⟨q1,q2,q3,(h3.i r hr).2⟩
theorem e6f {r:Rd} (h:OKrd r):b4c (b6l r)=true:=by
 have hk:1≤(kdS r.kind.toNat).size:=by
  rcases b0k h.good with e|e|e<;>rw [e]<;>decide
 refine c4m (b7c h.ch h.ln h.wd (c3k h.good)) hk ?_ (by unfold b5h;split<;>simp)
 intro x hx
 simp only [List.mem_cons] at hx
 rcases hx with rfl|rfl|rfl|rfl|hx
 ·exact g3a _
 ·exact n12 h.ch
 ·exact n12 h.ln
 ·exact n12 h.wd
 ·unfold b5h at hx
  split at hx
  ·cases hx
  ·rename_i hne
   simp only [List.mem_cons,List.not_mem_nil,or_false] at hx
   subst hx
   rcases h.good with ⟨_,e⟩|⟨_,e⟩|⟨_,e⟩
   ·exact (hne e).elim
   ·exact w12 e
   ·exact w12 e
theorem c2i {t:List Ch} {c:Cp} (ht:a1l t=true) (h:a5e t c=true):a1a (a2o c)=true∧(a2o c).length≤21:=by
 obtain ⟨h1,h2,h3⟩:=c8h ht h
 have hn:(a2o c).length≤21:=by unfold a2o;simp;omega
 refine ⟨f0n (fun s hs=>?_) (by omega),hn⟩
 unfold a2o at hs
 rcases List.mem_cons.1 hs with rfl|hs
 ·refine c4m (b8d h1) (by decide) ?_ (by simp)
  intro x hx
  simp only [List.mem_cons,List.not_mem_nil,or_false] at hx
  rcases hx with rfl|rfl
  ·exact ⟨by unfold okP a5h;decide,by decide⟩
  ·exact n12 h1
 ·simp only [List.mem_map] at hs
  obtain ⟨r,hr,rfl⟩:=hs
  exact e6f (h3 r hr)
theorem d9x {t:List Ch} {c:Cp} (ht:a1l t=true) (h:a5e t c=true):a5x t (a2o c)=(c,0):=by
 obtain ⟨h1,h2,h3⟩:=c8h ht h
 have e:a5q t c=0:=by unfold a5q;rw [ht,h];rfl
 unfold a5x
 rw [ht,(c2i ht h).1,d3m h1 h3]
 simp [e]
open Go Pm
structure GSi (s:Si):Prop where
 bef:e2x s.bef=true
 aft:e2x s.aft=true
 word:a1h s.word=true
 pl:in9 s.ch∧in9 s.ln∧in9 s.wd
end Go.Proofs.YtmjhfccbbfpppaaGreatDoor
