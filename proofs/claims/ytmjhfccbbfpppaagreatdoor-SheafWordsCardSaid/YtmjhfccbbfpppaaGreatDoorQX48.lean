import Derived.Test.YtmjhfccbbfpppaaGreatDoorQX28
import Derived.Test.YtmjhfccbbfpppaaGreatDoorQX29
import Derived.Test.YtmjhfccbbfpppaaGreatDoorQX31
import Derived.Test.YtmjhfccbbfpppaaGreatDoorQX42
import Derived.Test.YtmjhfccbbfpppaaGreatDoorQX45
import Derived.Test.YtmjhfccbbfpppaaGreatDoorQX47
namespace Go.Proofs.YtmjhfccbbfpppaaGreatDoor
open Go Pm
set_option linter.unusedSimpArgs false
set_option linter.unusedVariables false
theorem b9k:∀ a b:List UInt8,a2x (a++32::b)=a2x a++a2x b
 |[],b=>by simp [a2x]
 |c::r,b=>by
  have ih:=b9k r b
  have hne:=b7j r
  rw [List.cons_append,a2x,ih,a2x]
  by_cases hc:c=32
  ·rw [if_pos hc,if_pos hc];rfl
  ·rw [if_neg hc,if_neg hc]
   cases hp:a2x r with
   |nil=>exact (hne hp).elim
   |cons x l=>rfl
theorem c5d (a b:ByteArray):a1n (a++(⟨#[32]⟩++b))=a1n a++a1n b:=by
 have e:(a++((⟨#[32]⟩:ByteArray)++b)).data.toList=a.data.toList++32::b.data.toList:=by simp
 unfold a1n
 rw [e,b9k,List.map_append]
theorem join_cons (a b:ByteArray) (l:List ByteArray):a1d (a::b::l)=a++(⟨#[32]⟩++a1d (b::l)):=by
 refine b5r ?_
 simp only [a1d,a7e,ByteArray.data_append,Array.toList_append]
 simp [List.intercalate,List.intersperse]
theorem b0a:∀ l:List ByteArray,l≠[]→a1n (a1d l)=l.flatMap a1n
 |[],h=>(h rfl).elim
 |[a],_=>by rw [b4n];simp
 |a::b::l,_=>by
  rw [join_cons,c5d,b0a (b::l) (by simp)]
  rfl
def c1v:List (List UInt8)→List UInt8
 |[]=>[]
 |[a]=>a
 |a::b::l=>a++32::c1v (b::l)
theorem b5i:∀ l,c1v (a2x l)=l
 |[]=>rfl
 |b::r=>by
  have ih:=b5i r
  have hne:=b7j r
  unfold a2x
  by_cases hc:b=32
  ·rw [if_pos hc]
   cases hp:a2x r with
   |nil=>exact (hne hp).elim
   |cons x l=>rw [hp] at ih;simp only [c1v,List.nil_append];rw [ih,hc]
  ·rw [if_neg hc]
   cases hp:a2x r with
   |nil=>exact (hne hp).elim
   |cons x l =>
    rw [hp] at ih
    cases l with
    |nil=>simp only [c1v] at ih ⊢;rw [ih]
    |cons y q=>simp only [c1v,List.cons_append] at ih ⊢;rw [ih]
theorem b8g:∀ l:List (List UInt8),(a1d (l.map bA)).data.toList=c1v l
 |[]=>by simp [c9l,c1v]
 |[a]=>by simp only [List.map_cons,List.map_nil,b4n,a7e,c1v]
 |a::b::l=>by
  have ih:=b8g (b::l)
  simp only [List.map_cons] at ih ⊢
  rw [join_cons]
  simp only [ByteArray.data_append,Array.toList_append,ih,a7e,c1v]
  rfl
theorem d4w (s:ByteArray):a1d (a1n s)=s:=by
 refine b5r ?_
 unfold a1n
 rw [b8g,b5i]
def c2b (s:ByteArray):Prop:=∀ b ∈ s.data.toList,b≠32
theorem b2c {s:ByteArray} (h:c2b s):a1n s=[s]:=by
 unfold a1n
 rw [b7f _ h]
 simp [c0i]
theorem b4j {l:List ByteArray} (hne:l≠[]) (h:∀ s ∈ l,c2b s):a1n (a1d l)=l:=by
 rw [b0a l hne]
 clear hne
 induction l with
 |nil=>rfl
 |cons a r ih =>
  rw [List.flatMap_cons,b2c (h a (by simp)),ih (fun s hs=>h s (by simp [hs]))]
  rfl
theorem b6x {s:ByteArray} (h:a1h s=true):c2b s:=by
 unfold a1h at h
 simp only [Bool.and_eq_true,List.all_eq_true] at h
 intro b hb e
 have:=h.1 b hb
 subst e
 exact absurd this (by decide)
theorem d7p {v:Int} (h:in9 v):∀ b ∈ Lib.itoa v,e9n b=true:=by
 have hv:=a7r v h.1 h.2
 unfold b0k at hv
 split at hv
 ·rename_i hh
  exact List.all_eq_true.1 hh.2.2.2
 ·cases hv
theorem b1t {v:Int} (h:in9 v):c2b (a2d v):=by
 intro b hb e
 unfold a2d at hb
 rw [a7e] at hb
 have:=d7p h b hb
 subst e
 exact absurd this (by decide)
theorem b5o {v:Int} (h:in9 v):a4c (a2d v)=some v:=by
 unfold a4c a2d
 rw [a7e]
 exact a7r v h.1 h.2
theorem e6i {a b c:Int} (ha:in9 a) (hb:in9 b) (hc:in9 c):a1n (atS a b c)=[a2d a,a2d b,a2d c] :=
 b4j (by simp) (by
  intro s hs
  simp only [List.mem_cons,List.not_mem_nil,or_false] at hs
  rcases hs with rfl|rfl|rfl
  ·exact b1t ha
  ·exact b1t hb
  ·exact b1t hc)
theorem d6l {v:Int} (h:in9 v) (l:List ByteArray) (j:Nat) (hl:l[j]? = some (a2d v)):c3d l j=true∧nvS l j=v:=by
 obtain ⟨h1,h2⟩:=List.getElem?_eq_some_iff.1 hl
 have e:l.getD j ByteArray.empty=a2d v:=by simp [List.getD,hl]
 unfold c3d nvS
 rw [e,b5o h,decide_eq_true h1]
 exact ⟨rfl,rfl⟩
theorem e3d {a b c:Int} (ha:in9 a) (hb:in9 b) (hc:in9 c) (r:List ByteArray):a3k (a2d a::a2d b::a2d c::r)=true∧nvS (a2d a::a2d b::a2d c::r) 0=a∧nvS (a2d a::a2d b::a2d c::r) 1=b∧nvS (a2d a::a2d b::a2d c::r) 2=c:=by
 obtain ⟨a1,a2⟩:=d6l ha (a2d a::a2d b::a2d c::r) 0 rfl
 obtain ⟨b1,b2⟩:=d6l hb (a2d a::a2d b::a2d c::r) 1 rfl
 obtain ⟨c1,c2⟩:=d6l hc (a2d a::a2d b::a2d c::r) 2 rfl
 exact ⟨by unfold a3k;rw [a1,b1,c1];rfl,a2,b2,c2⟩
theorem d4m {l:List ByteArray} (h:a6f l=true):l≠[]∧∀ s ∈ l,c2b s:=by
 unfold a6f at h
 simp only [Bool.and_eq_true,decide_eq_true_eq,List.all_eq_true] at h
 exact ⟨List.length_pos_iff.1 h.1,fun s hs=>b6x (h.2 s hs)⟩
theorem d6b:c2b a7y:=by unfold c2b a7y;decide
theorem e0v:c2b a2n:=by unfold c2b a2n;decide
theorem b8k {l:List ByteArray} (h:a6f l=true):a1n (b5s l)=a7y::l:=by
 obtain ⟨hne,hs⟩:=d4m h
 unfold b5s
 rw [b0a _ (by simp),List.flatMap_cons,List.flatMap_cons,b2c d6b,b4j hne hs]
 simp
theorem b8f {v:Int} (h:in9 v):a1n (a1d [a2n,a2d v])=[a2n,a2d v] :=
 b4j (by simp) (by
  intro s hs
  simp only [List.mem_cons,List.not_mem_nil,or_false] at hs
  rcases hs with rfl|rfl
  ·exact e0v
  ·exact b1t h)
theorem d4o (t:List Ch) {v:Int} (h:in9 v):a7u t (a1d [a2n,a2d v])=some (t++[⟨v,[]⟩]):=by
 unfold a7u
 rw [b8f h]
 simp only [b7u,if_true,b5o h,Option.map_some]
theorem d4n (i:List Ch) (c:Ch) {ws:List ByteArray} (h:a6f ws=true):a7u (i++[c]) (b5s ws)=some (i++[⟨c.id,c.lines++[ws]⟩]):=by
 have hn:¬ a7y=a2n:=by decide
 unfold a7u
 rw [b8k h]
 simp only [b7u,if_neg hn,if_true,List.getLast?_append,List.getLast?_singleton,Option.some_or,h,List.dropLast_concat]
theorem b5c (i:List Ch) (id:Int):∀ (ls pre:List (List ByteArray)),(∀ r ∈ ls,a6f r=true)→b0d (i++[⟨id,pre⟩]) (ls.map b5s)=some (i++[⟨id,pre++ls⟩])
 |[],pre,_=>by simp [b0d]
 |r::ls,pre,h=>by
  rw [List.map_cons,b0d,d4n i ⟨id,pre⟩ (h r (by simp))]
  simp only [Option.bind_some]
  rw [b5c i id ls (pre++[r]) (fun x hx=>h x (by simp [hx]))]
  simp
structure OKch (c:Ch):Prop where
 id:in9 c.id
 ln:∀ r ∈ c.lines,a6f r=true
theorem d3m (t:List Ch) {c:Ch} (h:OKch c):b0d t (c4g c)=some (t++[c]):=by
 unfold c4g
 rw [b0d,d4o t h.id]
 simp only [Option.bind_some]
 have:=b5c t c.id c.lines [] h.ln
 simpa using this
theorem b9q:∀ (t pre:List Ch),(∀ c ∈ t,OKch c)→b0d pre (a2c t)=some (pre++t)
 |[],pre,_=>by simp [a2c,b0d]
 |c::t,pre,h=>by
  have e:a2c (c::t)=c4g c++a2c t:=by simp [a2c]
  rw [e,b1w,d3m pre (h c (by simp))]
  simp only [Option.bind_some]
  rw [b9q t (pre++[c]) (fun x hx=>h x (by simp [hx]))]
  simp
open Go Pm
theorem f4u (k:Int):c2b (kdS k):=by
 unfold kdS
 split
 ·unfold c2b a2w;decide
 ·split
  ·unfold c2b a5u;decide
  ·split
   ·unfold c2b a1m;decide
   ·intro b hb;simp at hb
theorem f7v {k:Int} (h:k=1∨k=2∨k=3):(kdN (kdS k):Int)=k∧¬ kdS k=a5s:=by
 rcases h with rfl|rfl|rfl<;>decide
def b7g (w:ByteArray):List ByteArray:=if w=⟨#[]⟩ then [] else [w]
theorem b9f {r:Rd} (ha:in9 r.ch) (hb:in9 r.ln) (hc:in9 r.wd) (hw:c2b r.word):a1n (b8c r)=kdS r.kind.toNat::a2d r.ch::a2d r.ln::a2d r.wd::b7g r.word:=by
 have h2:a1n (a1d [kdS r.kind.toNat,atS r.ch r.ln r.wd])=[kdS r.kind.toNat,a2d r.ch,a2d r.ln,a2d r.wd]:=by
  rw [b0a _ (by simp),List.flatMap_cons,List.flatMap_cons,b2c (f4u _),e6i ha hb hc]
  rfl
 unfold b8c b7g
 split
 ·exact h2
 ·rw [c5d,h2,b2c hw];rfl
theorem c2o {r:Rd} (h:b2e r):c2b r.word:=by
 rcases h with ⟨_,h⟩|⟨_,h⟩|⟨_,h⟩
 ·rw [h];intro b hb;simp at hb
 ·exact b6x h
 ·exact b6x h
theorem d9g {w:ByteArray} (h:a1h w=true):¬ w=⟨#[]⟩:=fun e=>by
 have:=(a3o h).1
 rw [e] at this
 exact absurd this (by decide)
theorem e3o (c:Cp) {r:Rd} (ha:in9 r.ch) (hb:in9 r.ln) (hc:in9 r.wd) (hg:b2e r):stepG (some c) (b8c r)=some ⟨c.id,c.rds++[r]⟩:=by
 obtain ⟨k1,k2⟩:=f7v (b1c hg)
 obtain ⟨p0,p1,p2,p3⟩:=e3d ha hb hc (b7g r.word)
 have hk0:¬ kdN (kdS r.kind.toNat)=0:=fun e=>by have:=b1c hg;omega
 unfold stepG
 rw [b9f ha hb hc (c2o hg)]
 simp only [b0w,if_neg k2,if_neg hk0,p0,if_true,p1,p2,p3]
 rcases hg with ⟨hk,hw⟩|⟨hk,hw⟩|⟨hk,hw⟩
 ·have e1:kdN (kdS r.kind.toNat)=1:=by omega
  have e2:r.kind=1:=UInt8.toNat_inj.1 (by show r.kind.toNat=1;omega)
  have e3:b7g r.word=[]:=by unfold b7g;rw [if_pos hw]
  simp only [e1,if_true,e3,List.drop_succ_cons,List.drop_zero]
  obtain ⟨a,b,d,k,w⟩:=r
  simp only at e2 hw ⊢
  rw [e2,hw]
 ·have e1:kdN (kdS r.kind.toNat)=2:=by omega
  have e3:b7g r.word=[r.word]:=by unfold b7g;rw [if_neg (d9g hw)]
  have e2:UInt8.ofNat 2=r.kind:=UInt8.toNat_inj.1 (by show 2=r.kind.toNat;omega)
  simp only [e1,e3,List.drop_succ_cons,List.drop_zero,hw,if_true,e2]
  rfl
 ·have e1:kdN (kdS r.kind.toNat)=3:=by omega
  have e3:b7g r.word=[r.word]:=by unfold b7g;rw [if_neg (d9g hw)]
  have e2:UInt8.ofNat 3=r.kind:=UInt8.toNat_inj.1 (by show 3=r.kind.toNat;omega)
  simp only [e1,e3,List.drop_succ_cons,List.drop_zero,hw,if_true,e2]
  rfl
theorem b8x {v:Int} (h:in9 v):a1n (a1d [a5s,a2d v])=[a5s,a2d v] :=
 b4j (by simp) (by
  intro s hs
  simp only [List.mem_cons,List.not_mem_nil,or_false] at hs
  rcases hs with rfl|rfl
  ·unfold c2b a5s;decide
  ·exact b1t h)
theorem c7v {v:Int} (h:in9 v):stepG none (a1d [a5s,a2d v])=some ⟨v,[]⟩:=by
 unfold stepG
 rw [b8x h]
 simp only [b0w,if_true,b5o h,Option.map_some]
structure OKrd (r:Rd):Prop where
 ch:in9 r.ch
 ln:in9 r.ln
 wd:in9 r.wd
 good:b2e r
theorem b8t (id:Int):∀ (l pre:List Rd),(∀ r ∈ l,OKrd r)→a4v (some ⟨id,pre⟩) (l.map b8c)=some (some ⟨id,pre++l⟩)
 |[],pre,_=>by simp [a4v]
 |r::l,pre,h=>by
  have hr:=h r (by simp)
  rw [List.map_cons,a4v,e3o ⟨id,pre⟩ hr.ch hr.ln hr.wd hr.good]
  simp only [Option.bind_some]
  rw [b8t id l (pre++[r]) (fun x hx=>h x (by simp [hx]))]
  simp
theorem d4x {c:Cp} (hi:in9 c.id) (h:∀ r ∈ c.rds,OKrd r):a4v none (a3g c)=some (some c):=by
 unfold a3g
 rw [a4v,c7v hi]
 simp only [Option.bind_some]
 have:=b8t c.id c.rds [] h
 simpa using this
open Go Pm
structure PDc (d:Dc):Prop where
 num:in9 d.num
 form:c2b d.form
 stem:c2b d.stem
 pl:in9 d.ch∧in9 d.ln∧in9 d.wd
 of:in9 d.of
structure PRl (r:Rl):Prop where
 cut:a1h r.cut=true
 put:r.put=⟨#[]⟩∨a1h r.put=true
 least:in9 r.least
structure QDc (d:Dc):Prop where
 num:in9 d.num
 stem:in9 d.of
 pl:in9 d.ch∧in9 d.ln∧in9 d.wd
 is:((d.kind.toNat:Int)=1∧a1h d.form=true∧a1h d.stem=true∧d=⟨d.num,1,d.form,0,0,0,d.stem,d.mark,0⟩) ∨
  ((d.kind.toNat:Int)=2∧a1h d.form=true∧a1h d.stem=true∧d=⟨d.num,2,d.form,d.ch,d.ln,d.wd,d.stem,d.mark,0⟩) ∨
  ((d.kind.toNat:Int)=3∧a1h d.stem=true∧d=⟨d.num,3,⟨#[]⟩,d.ch,d.ln,d.wd,d.stem,d.mark,0⟩) ∨
  ((d.kind.toNat:Int)=4∧d=⟨d.num,4,⟨#[]⟩,0,0,0,⟨#[]⟩,0,d.of⟩)
theorem z9:in9 0:=⟨by omega,by omega⟩
open Go Pm
def bL (l:List ByteArray) (k:Nat):List UInt8:=(a5j l k).data.toList
theorem e2j (l:List ByteArray) (k:Nat):(bL l k).length=(a5j l k).size:=by unfold bL;rw [Array.length_toList];rfl
theorem d6g (l:List ByteArray) {k:Nat} (h:k < l.length):bL l (k+1)=bL l k++(c1z l[k] k).data.toList:=by
 unfold bL
 rw [a7k l h,ByteArray.data_append,Array.toList_append]
theorem e9s (l:List ByteArray) (k:Nat):∀ n,k≤n→n≤l.length→∃ r,bL l n=bL l k++r
 |0,h,_=>⟨[],by rw [show k=0 by omega];simp⟩
 |n+1,h,hn=>by
  by_cases e:k=n+1
  ·exact ⟨[],by rw [e];simp⟩
  ·obtain ⟨r,hr⟩:=e9s l k n (by omega) (by omega)
   exact ⟨r++(c1z l[n] n).data.toList,by rw [d6g l (by omega),hr,List.append_assoc]⟩
def c1 (s:ByteArray) (i:Int):UInt8:=UInt8.ofNat (97+(d1k s i s.size / 26).toNat)
def c2 (s:ByteArray) (i:Int):UInt8:=UInt8.ofNat (97+(d1k s i s.size % 26).toNat)
theorem c9o (s:ByteArray) (i:Int):(c1z s i).data.toList=(s.data.toList++[32,c1 s i,c2 s i])++[10]:=by
 unfold c1z f0r c1 c2
 simp only [ByteArray.data_append,Array.toList_append,List.append_assoc]
 rfl
theorem g3c (s:ByteArray) (i:Int):c1 s i≠10∧c2 s i≠10:=by
 have h:=d5t s i s.size
 have e:(10:UInt8).toNat=10:=rfl
 constructor
 ·intro hc
  have h2:(c1 s i).toNat=10:=by rw [hc];rfl
  unfold c1 at h2
  rw [UInt8.toNat_ofNat'] at h2
  omega
 ·intro hc
  have h2:(c2 s i).toNat=10:=by rw [hc];rfl
  unfold c2 at h2
  rw [UInt8.toNat_ofNat'] at h2
  omega
theorem d8v:∀ (x r:List UInt8),(∀ b ∈ x,b≠10)→ixL (x++10::r)=x.length
 |[],r,_=>by simp [ixL]
 |b::x,r,h=>by
  rw [List.cons_append,ixL,if_neg (h b (by simp)),d8v x r (fun y hy=>h y (by simp [hy]))]
  rfl
theorem f5o (s:ByteArray) (a b:Nat):(s.extract a b).data.toList=(s.data.toList.drop a).take (b - a):=by
 rw [ByteArray.data_extract,Array.toList_extract,List.extract_eq_take_drop]
theorem f6f {s:ByteArray} (h:b6q s=true):∀ b ∈ s.data.toList,b≠10:=by
 unfold b6q at h
 simp only [Bool.and_eq_true,List.all_eq_true] at h
 intro b hb e
 have:=h.2 b hb
 subst e
 exact absurd this (by decide)
theorem f1u {l:List ByteArray} (hl:∀ s ∈ l,b6q s=true) {k:Nat} (hk:k < l.length) :
  nlS (a5j l l.length) (a5j l k).size+1=(a5j l (k+1)).size∧(a5j l l.length).extract (a5j l k).size (nlS (a5j l l.length) (a5j l k).size - 3)=l[k]∧b3w (a5j l l.length) (a5j l k).size k=true:=by
 have hr:=hl _ (List.getElem_mem hk)
 obtain ⟨r,e⟩:=e9s l (k+1) l.length (by omega) (Nat.le_refl _)
 have ek:=d6g l hk
 have hz:(a5j l (k+1)).size=(a5j l k).size+(l[k].size+4):=by rw [a7k l hk,ByteArray.size_append,a4g]
 have hd:(a5j l l.length).data.toList.drop (a5j l k).size=(l[k].data.toList++[32,c1 l[k] k,c2 l[k] k])++10::r:=by
  show (bL l l.length).drop _=_
  rw [e,ek,← e2j,List.append_assoc,List.drop_left,c9o]
  simp
 have hx:∀ b ∈ l[k].data.toList++[32,c1 l[k] k,c2 l[k] k],b≠10:=by
  intro b hb
  rcases List.mem_append.1 hb with hb|hb
  ·exact f6f hr b hb
  ·simp only [List.mem_cons,List.not_mem_nil,or_false] at hb
   rcases hb with rfl|rfl|rfl
   ·decide
   ·exact (g3c _ _).1
   ·exact (g3c _ _).2
 have hsz:l[k].data.toList.length=l[k].size:=by simp
 have hn:nlS (a5j l l.length) (a5j l k).size=(a5j l k).size+(l[k].size+3):=by
  unfold nlS
  rw [hd,d8v _ _ hx]
  simp
 have hS:(a5j l l.length).size=(a5j l k).size+(l[k].size+4)+r.length:=by
  have h1:(bL l l.length).length=(bL l (k+1)).length+r.length:=by rw [e,List.length_append]
  rw [e2j,e2j] at h1
  omega
 have he:(a5j l l.length).extract (a5j l k).size (nlS (a5j l l.length) (a5j l k).size - 3)=l[k]:=by
  refine b5r ?_
  rw [f5o,hn,hd,show (a5j l k).size+(l[k].size+3) - 3 - (a5j l k).size=l[k].data.toList.length by omega]
  simp
 refine ⟨by omega,he,?_⟩
 unfold b3w
 rw [he,hr,hn]
 have h2:c1z l[k] k=(a5j l l.length).extract (a5j l k).size ((a5j l k).size+(l[k].size+3)+1):=by
  refine b5r ?_
  rw [f5o,hd,c9o,show (a5j l k).size+(l[k].size+3)+1 - (a5j l k).size=(l[k].data.toList++[32,c1 l[k] k,c2 l[k] k]++[10]).length by simp;omega]
  rw [show (l[k].data.toList++[32,c1 l[k] k,c2 l[k] k]++10::r)=(l[k].data.toList++[32,c1 l[k] k,c2 l[k] k]++[10])++r by simp]
  rw [List.take_left]
 have hz1:1≤l[k].size:=by
  unfold b6q at hr
  simp only [Bool.and_eq_true,decide_eq_true_eq] at hr
  have:=hr.1.1
  omega
 rw [decide_eq_true h2,decide_eq_true (⟨by omega,by omega⟩)]
 rfl
theorem b8j {l:List ByteArray} (hl:∀ s ∈ l,b6q s=true):∀ (m k:Nat),k≤l.length→l.length≤k+m→b2j (a5j l l.length) m (a5j l k).size (l.take k)=(l,(a5j l l.length).size)
 |m,k,hk,hm=>by
  by_cases hkl:k < l.length
  ·obtain ⟨a,b,c⟩:=f1u hl hkl
   have hlen:(l.take k).length=k:=by simp;omega
   match m,hm with
   |0,hm=>omega
   |m+1,hm =>
    rw [b8s (by rw [hlen];exact c),a,b]
    have:=b8j hl m (k+1) (by omega) (by omega)
    rw [← this]
    rw [List.take_add_one,List.getElem?_eq_getElem hkl]
    rfl
  ·have e:k=l.length:=by omega
   subst e
   rw [a9g,List.take_length]
   unfold b3w
   rw [decide_eq_false,Bool.false_and]
   rintro ⟨h1,_⟩
   rw [f1g rfl] at h1
   omega
theorem d1n {l:List ByteArray} (h:a0z l=true):l.length≤200∧∀ s ∈ l,b6q s=true:=by
 unfold a0z at h
 simp only [Bool.and_eq_true,List.all_eq_true,decide_eq_true_eq] at h
 exact ⟨by omega,h.1⟩
theorem g0q {l:List ByteArray} (h:a0z l=true) (hs:(a5j l l.length).size≤30000):rdL (wrS l)=l∧rdN (wrS l)=(wrS l).size∧c7o (wrS l)=0∧wrE l=0:=by
 obtain ⟨h1,h2⟩:=d1n h
 have e:wrS l=a5j l l.length:=by unfold wrS;rw [if_pos h,if_pos hs]
 have hr:b2j (a5j l l.length) 200 0 []=(l,(a5j l l.length).size):=b8j h2 200 0 (by omega) (by omega)
 refine ⟨?_,?_,?_,?_⟩
 ·unfold rdL;rw [e,if_pos hs,hr]
 ·unfold rdN;rw [e,if_pos hs,hr]
 ·unfold c7o;rw [e,if_pos hs]
 ·unfold wrE;rw [if_pos h,if_pos hs]
theorem f9f {l:List ByteArray} (h:a0z l=true) (hn:l.length≤180):(a5j l l.length).size≤30000:=by
 obtain ⟨h1,h2⟩:=d1n h
 have:=a9i (l:=l) (fun s hs=>c5u (h2 s hs)) l.length (Nat.le_refl _)
 omega
def okP (s:ByteArray):Prop:=∀ b ∈ s.data.toList,b3o b=true
theorem d8p {a b:ByteArray} (ha:okP a) (hb:okP b):okP (a++b):=by
 intro x hx
 rw [ByteArray.data_append,Array.toList_append] at hx
 rcases List.mem_append.1 hx with h|h
 ·exact ha x h
 ·exact hb x h
theorem f6j:okP ⟨#[32]⟩:=by unfold okP;decide
theorem d0n:∀ l:List ByteArray,(∀ s ∈ l,okP s)→okP (a1d l)
 |[],_=>by rw [c9l];intro b hb;simp at hb
 |[a],h=>by rw [b4n];exact h a (by simp)
 |a::b::l,h=>by
  rw [join_cons]
  exact d8p (h a (by simp)) (d8p f6j (d0n (b::l) fun s hs=>h s (by simp [List.mem_cons] at hs ⊢;exact .inr hs)))
theorem e7n {s:ByteArray} (h:a1h s=true):okP s:=by
 unfold a1h at h
 simp only [Bool.and_eq_true,List.all_eq_true] at h
 intro b hb
 have:=h.1 b hb
 unfold a1s at this
 unfold b3o
 simp only [Bool.not_eq_true',Bool.or_eq_false_iff,decide_eq_false_iff_not] at this ⊢
 omega
theorem f3w {v:Int} (h:in9 v):okP (a2d v):=by
 intro b hb
 unfold a2d at hb
 rw [a7e] at hb
 have:=d8z (d7p h b hb)
 unfold b3o
 simp only [Bool.not_eq_true',Bool.or_eq_false_iff,decide_eq_false_iff_not]
 omega
theorem f0k:∀ (a:ByteArray) (l:List ByteArray),a.size≤(a1d (a::l)).size
 |a,[]=>by rw [b4n];exact Nat.le_refl _
 |a,b::l=>by rw [join_cons,ByteArray.size_append];omega
theorem e5k {a:ByteArray} {l:List ByteArray} (h1:1≤a.size) (h:∀ s ∈ a::l,okP s∧s.size≤12) (hn:l.length≤11):b6q (a1d (a::l))=true:=by
 have hs:=b0v 12 (a::l) fun s hs=>(h s hs).2
 rw [← a7l] at hs
 have hg:=f0k a l
 have hp:=d0n (a::l) fun s hs=>(h s hs).1
 rw [List.length_cons] at hs
 unfold b6q
 rw [decide_eq_true (show 1≤((a1d (a::l)).size:Int) by omega),decide_eq_true (show ((a1d (a::l)).size:Int)≤160 by omega)]
 simp only [Bool.and_self,Bool.true_and,List.all_eq_true]
 exact hp
theorem b1l {x a:ByteArray} {l:List ByteArray} (hp:a1n x=a::l) (h1:1≤a.size) (h:∀ s ∈ a::l,okP s∧s.size≤12) (hn:l.length≤11):b6q x=true:=by
 rw [← d4w x,hp]
 exact e5k h1 h hn
theorem e0m {l:List ByteArray} (h:∀ s ∈ l,b6q s=true) (hn:l.length≤200):a0z l=true:=by
 unfold a0z
 simp only [Bool.and_eq_true,List.all_eq_true,decide_eq_true_eq]
 exact ⟨h,by omega⟩
theorem w12 {s:ByteArray} (h:a1h s=true):okP s∧s.size≤12:=⟨e7n h,(a3o h).2⟩
theorem n12 {v:Int} (h:in9 v):okP (a2d v)∧(a2d v).size≤12:=⟨f3w h,by have:=a2z h.1 h.2;omega⟩
theorem c9m {l:List ByteArray} (h:(1≤l.length∧l.length≤10)∧∀ s ∈ l,a1h s=true):a6f l=true:=by
 unfold a6f
 simp only [Bool.and_eq_true,List.all_eq_true,decide_eq_true_eq]
 exact ⟨by omega,h.2⟩
theorem f3a {t:List Ch} (h:a1r t=true):∀ c ∈ t,OKch c:=fun c hc=>by
 have hv:=(b0q h).2 c hc
 exact ⟨hv.id,fun r hr=>c9m (hv.ln r hr)⟩
theorem c4v {t:List Ch} (h:a1r t=true):a0z (a2c t)=true∧(a2c t).length≤66:=by
 obtain ⟨h1,h2⟩:=b0q h
 have hn:=b8z (t:=t) h1.2 (fun c hc=>(h2 c hc).len.2)
 refine ⟨e0m (fun s hs=>?_) (by omega),hn⟩
 simp only [a2c,List.mem_flatMap] at hs
 obtain ⟨c,hc,hs⟩:=hs
 have hv:=h2 c hc
 unfold c4g at hs
 rcases List.mem_cons.1 hs with rfl|hs
 ·refine b1l (b8f hv.id) (by decide) ?_ (by simp)
  intro x hx
  simp only [List.mem_cons,List.not_mem_nil,or_false] at hx
  rcases hx with rfl|rfl
  ·exact ⟨by unfold okP a2n;decide,by decide⟩
  ·exact n12 hv.id
 ·simp only [List.mem_map] at hs
  obtain ⟨r,hr,rfl⟩:=hs
  have hl:=hv.ln r hr
  refine b1l (b8k (c9m hl)) (by decide) ?_ (by omega)
  intro x hx
  rcases List.mem_cons.1 hx with rfl|hx
  ·exact ⟨by unfold okP a7y;decide,by decide⟩
  ·exact w12 (hl.2 x hx)
theorem e1w {t:List Ch} (h:a1r t=true):a7s (a2c t)=(t,0):=by
 have hr:=b9q t [] (f3a h)
 unfold a7s a6t
 rw [(c4v h).1,hr]
 simp [h]
theorem g3o (k:Int):okP (kdS k)∧(kdS k).size≤12:=by
 unfold kdS
 split
 ·exact ⟨by unfold okP a2w;decide,by decide⟩
 split
 ·exact ⟨by unfold okP a5u;decide,by decide⟩
 split
 ·exact ⟨by unfold okP a1m;decide,by decide⟩
 ·exact ⟨by intro b hb;simp at hb,by decide⟩
theorem c1m {t:List Ch} {c:Cp} (ht:a1r t=true) (h:a3u t c=true):in9 c.id∧c.rds.length≤20∧∀ r ∈ c.rds,OKrd r:=by
 obtain ⟨h1,h2,h3⟩:=c4p ht h
 refine ⟨h1,h2,fun r hr=>?_⟩
 obtain ⟨q1,q2,q3⟩:=g3g (h3.i r hr).1
 exact ⟨q1,q2,q3,(h3.i r hr).2⟩
theorem e5j {r:Rd} (h:OKrd r):b6q (b8c r)=true:=by
 have hk:1≤(kdS r.kind.toNat).size:=by
  rcases b1c h.good with e|e|e<;>rw [e]<;>decide
 refine b1l (b9f h.ch h.ln h.wd (c2o h.good)) hk ?_ (by unfold b7g;split<;>simp)
 intro x hx
 simp only [List.mem_cons] at hx
 rcases hx with rfl|rfl|rfl|rfl|hx
 ·exact g3o _
 ·exact n12 h.ch
 ·exact n12 h.ln
 ·exact n12 h.wd
 ·unfold b7g at hx
  split at hx
  ·cases hx
  ·rename_i hne
   simp only [List.mem_cons,List.not_mem_nil,or_false] at hx
   subst hx
   rcases h.good with ⟨_,e⟩|⟨_,e⟩|⟨_,e⟩
   ·exact (hne e).elim
   ·exact w12 e
   ·exact w12 e
theorem c3q {t:List Ch} {c:Cp} (ht:a1r t=true) (h:a3u t c=true):a0z (a3g c)=true∧(a3g c).length≤21:=by
 obtain ⟨h1,h2,h3⟩:=c1m ht h
 have hn:(a3g c).length≤21:=by unfold a3g;simp;omega
 refine ⟨e0m (fun s hs=>?_) (by omega),hn⟩
 unfold a3g at hs
 rcases List.mem_cons.1 hs with rfl|hs
 ·refine b1l (b8x h1) (by decide) ?_ (by simp)
  intro x hx
  simp only [List.mem_cons,List.not_mem_nil,or_false] at hx
  rcases hx with rfl|rfl
  ·exact ⟨by unfold okP a5s;decide,by decide⟩
  ·exact n12 h1
 ·simp only [List.mem_map] at hs
  obtain ⟨r,hr,rfl⟩:=hs
  exact e5j (h3 r hr)
theorem d5r {t:List Ch} {c:Cp} (ht:a1r t=true) (h:a3u t c=true):a6c t (a3g c)=(c,0):=by
 obtain ⟨h1,h2,h3⟩:=c1m ht h
 have e:a6a t c=0:=by unfold a6a;rw [ht,h];rfl
 unfold a6c
 rw [ht,(c3q ht h).1,d4x h1 h3]
 simp [e]
open Go Pm
structure GSi (s:Si):Prop where
 bef:e3y s.bef=true
 aft:e3y s.aft=true
 word:a1h s.word=true
 pl:in9 s.ch∧in9 s.ln∧in9 s.wd
end Go.Proofs.YtmjhfccbbfpppaaGreatDoor
