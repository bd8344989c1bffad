import Derived.Test.YtmjhfccbbfpppaaGreatDoorQA23
import Derived.Test.YtmjhfccbbfpppaaGreatDoorQA24
import Derived.Test.YtmjhfccbbfpppaaGreatDoorQA29
import Derived.Test.YtmjhfccbbfpppaaGreatDoorQA39
import Derived.Test.YtmjhfccbbfpppaaGreatDoorQA43
import Derived.Test.YtmjhfccbbfpppaaGreatDoorQA45
namespace Go.Proofs.YtmjhfccbbfpppaaGreatDoor
open Go Pm
set_option linter.unusedSimpArgs false
set_option linter.unusedVariables false
theorem b9p:∀ a b:List UInt8,a2q (a++32::b)=a2q a++a2q b
 |[],b=>by simp [a2q]
 |c::r,b=>by
  have ih:=b9p r b
  have hne:=b5x r
  rw [List.cons_append,a2q,ih,a2q]
  by_cases hc:c=32
  ·rw [if_pos hc,if_pos hc];rfl
  ·rw [if_neg hc,if_neg hc]
   cases hp:a2q r with
   |nil=>exact (hne hp).elim
   |cons x l=>rfl
theorem e0j (a b:ByteArray):a1l (a++(⟨#[32]⟩++b))=a1l a++a1l b:=by
 have e:(a++((⟨#[32]⟩:ByteArray)++b)).data.toList=a.data.toList++32::b.data.toList:=by simp
 unfold a1l
 rw [e,b9p,List.map_append]
theorem join_cons (a b:ByteArray) (l:List ByteArray):a0w (a::b::l)=a++(⟨#[32]⟩++a0w (b::l)):=by
 refine b9y ?_
 simp only [a0w,a6k,ByteArray.data_append,Array.toList_append]
 simp [List.intercalate,List.intersperse]
theorem b0f:∀ l:List ByteArray,l≠[]→a1l (a0w l)=l.flatMap a1l
 |[],h=>(h rfl).elim
 |[a],_=>by rw [b2a];simp
 |a::b::l,_=>by
  rw [join_cons,e0j,b0f (b::l) (by simp)]
  rfl
def c1w:List (List UInt8)→List UInt8
 |[]=>[]
 |[a]=>a
 |a::b::l=>a++32::c1w (b::l)
theorem b4z:∀ l,c1w (a2q l)=l
 |[]=>rfl
 |b::r=>by
  have ih:=b4z r
  have hne:=b5x r
  unfold a2q
  by_cases hc:b=32
  ·rw [if_pos hc]
   cases hp:a2q r with
   |nil=>exact (hne hp).elim
   |cons x l=>rw [hp] at ih;simp only [c1w,List.nil_append];rw [ih,hc]
  ·rw [if_neg hc]
   cases hp:a2q r with
   |nil=>exact (hne hp).elim
   |cons x l =>
    rw [hp] at ih
    cases l with
    |nil=>simp only [c1w] at ih ⊢;rw [ih]
    |cons y q=>simp only [c1w,List.cons_append] at ih ⊢;rw [ih]
theorem b8f:∀ l:List (List UInt8),(a0w (l.map bA)).data.toList=c1w l
 |[]=>by simp [join_nil,c1w]
 |[a]=>by simp only [List.map_cons,List.map_nil,b2a,a6k,c1w]
 |a::b::l=>by
  have ih:=b8f (b::l)
  simp only [List.map_cons] at ih ⊢
  rw [join_cons]
  simp only [ByteArray.data_append,Array.toList_append,ih,a6k,c1w]
  rfl
theorem b0g (s:ByteArray):a0w (a1l s)=s:=by
 refine b9y ?_
 unfold a1l
 rw [b8f,b4z]
def d0b (s:ByteArray):Prop:=∀ b ∈ s.data.toList,b≠32
theorem b1n {s:ByteArray} (h:d0b s):a1l s=[s]:=by
 unfold a1l
 rw [b6k _ h]
 simp [c0y]
theorem d1j {l:List ByteArray} (hne:l≠[]) (h:∀ s ∈ l,d0b s):a1l (a0w l)=l:=by
 rw [b0f l hne]
 clear hne
 induction l with
 |nil=>rfl
 |cons a r ih =>
  rw [List.flatMap_cons,b1n (h a (by simp)),ih (fun s hs=>h s (by simp [hs]))]
  rfl
theorem b4y {s:ByteArray} (h:a1b s=true):d0b s:=by
 unfold a1b at h
 simp only [Bool.and_eq_true,List.all_eq_true] at h
 intro b hb e
 have:=h.1 b hb
 subst e
 exact absurd this (by decide)
theorem d9w {v:Int} (h:in9 v):∀ b ∈ Lib.itoa v,f1x b=true:=by
 have hv:=a7y v h.1 h.2
 unfold b0p at hv
 split at hv
 ·rename_i hh
  exact List.all_eq_true.1 hh.2.2.2
 ·cases hv
theorem b9z {v:Int} (h:in9 v):d0b (a2h v):=by
 intro b hb e
 unfold a2h at hb
 rw [a6k] at hb
 have:=d9w h b hb
 subst e
 exact absurd this (by decide)
theorem e1m {v:Int} (h:in9 v):a5j (a2h v)=some v:=by
 unfold a5j a2h
 rw [a6k]
 exact a7y v h.1 h.2
theorem e7n {a b c:Int} (ha:in9 a) (hb:in9 b) (hc:in9 c):a1l (atS a b c)=[a2h a,a2h b,a2h c] :=
 d1j (by simp) (by
  intro s hs
  simp only [List.mem_cons,List.not_mem_nil,or_false] at hs
  rcases hs with rfl|rfl|rfl
  ·exact b9z ha
  ·exact b9z hb
  ·exact b9z hc)
theorem d6s {v:Int} (h:in9 v) (l:List ByteArray) (j:Nat) (hl:l[j]? = some (a2h v)):c2j l j=true∧nvS l j=v:=by
 obtain ⟨h1,h2⟩:=List.getElem?_eq_some_iff.1 hl
 have e:l.getD j ByteArray.empty=a2h v:=by simp [List.getD,hl]
 unfold c2j nvS
 rw [e,e1m h,decide_eq_true h1]
 exact ⟨rfl,rfl⟩
theorem e4o {a b c:Int} (ha:in9 a) (hb:in9 b) (hc:in9 c) (r:List ByteArray):a4d (a2h a::a2h b::a2h c::r)=true∧nvS (a2h a::a2h b::a2h c::r) 0=a∧nvS (a2h a::a2h b::a2h c::r) 1=b∧nvS (a2h a::a2h b::a2h c::r) 2=c:=by
 obtain ⟨a1,a2⟩:=d6s ha (a2h a::a2h b::a2h c::r) 0 rfl
 obtain ⟨b1,b2⟩:=d6s hb (a2h a::a2h b::a2h c::r) 1 rfl
 obtain ⟨c1,c2⟩:=d6s hc (a2h a::a2h b::a2h c::r) 2 rfl
 exact ⟨by unfold a4d;rw [a1,b1,c1];rfl,a2,b2,c2⟩
structure OKch (c:Ch):Prop where
 id:in9 c.id
 ln:∀ r ∈ c.lines,a3q r=true
open Go Pm
structure OKrd (r:Rd):Prop where
 ch:in9 r.ch
 ln:in9 r.ln
 wd:in9 r.wd
 good:b4f r
theorem e3m:d0b a4p:=by unfold d0b a4p;decide
theorem e6s:d0b a1w:=by unfold d0b a1w;decide
theorem e8w:d0b a2f:=by unfold d0b a2f;decide
theorem b9j {a b c:Int} (ha:in9 a) (hb:in9 b) (hc:in9 c) {w:ByteArray} (hw:d0b w):a1l (a0w [a4p,atS a b c,w])=a4p::a2h a::a2h b::a2h c::[w]:=by
 rw [b0f _ (by simp),List.flatMap_cons,List.flatMap_cons,List.flatMap_cons,b1n e3m,e7n ha hb hc,b1n hw]
 rfl
theorem c3l {n s:ByteArray} (hn:d0b n):a1l (a0w [n,s])=n::a1l s:=by
 rw [b0f _ (by simp),List.flatMap_cons,List.flatMap_cons,b1n hn]
 simp
theorem c5t (f:Si→Si) (l:List Si) (s:Si):b3r f (l++[s])=l++[f s]:=by
 simp [b3r]
open Go Pm
structure PDc (d:Dc):Prop where
 num:in9 d.num
 form:d0b d.form
 stem:d0b d.stem
 pl:in9 d.ch∧in9 d.ln∧in9 d.wd
 of:in9 d.of
structure PRl (r:Rl):Prop where
 cut:a1b r.cut=true
 put:r.put=⟨#[]⟩∨a1b r.put=true
 least:in9 r.least
structure QDc (d:Dc):Prop where
 num:in9 d.num
 stem:in9 d.of
 pl:in9 d.ch∧in9 d.ln∧in9 d.wd
 is:((d.kind.toNat:Int)=1∧a1b d.form=true∧a1b d.stem=true∧d=⟨d.num,1,d.form,0,0,0,d.stem,d.mark,0⟩) ∨
  ((d.kind.toNat:Int)=2∧a1b d.form=true∧a1b d.stem=true∧d=⟨d.num,2,d.form,d.ch,d.ln,d.wd,d.stem,d.mark,0⟩) ∨
  ((d.kind.toNat:Int)=3∧a1b d.stem=true∧d=⟨d.num,3,⟨#[]⟩,d.ch,d.ln,d.wd,d.stem,d.mark,0⟩) ∨
  ((d.kind.toNat:Int)=4∧d=⟨d.num,4,⟨#[]⟩,0,0,0,⟨#[]⟩,0,d.of⟩)
theorem z9:in9 0:=⟨by omega,by omega⟩
open Go Pm
def c1 (s:ByteArray) (i:Int):UInt8:=UInt8.ofNat (97+(d1l s i s.size / 26).toNat)
def c2 (s:ByteArray) (i:Int):UInt8:=UInt8.ofNat (97+(d1l s i s.size % 26).toNat)
def okP (s:ByteArray):Prop:=∀ b ∈ s.data.toList,b3u b=true
theorem d7b {a b:ByteArray} (ha:okP a) (hb:okP b):okP (a++b):=by
 intro x hx
 rw [ByteArray.data_append,Array.toList_append] at hx
 rcases List.mem_append.1 hx with h|h
 ·exact ha x h
 ·exact hb x h
theorem f7p:okP ⟨#[32]⟩:=by unfold okP;decide
theorem b4j:∀ l:List ByteArray,(∀ s ∈ l,okP s)→okP (a0w l)
 |[],_=>by rw [join_nil];intro b hb;simp at hb
 |[a],h=>by rw [b2a];exact h a (by simp)
 |a::b::l,h=>by
  rw [join_cons]
  exact d7b (h a (by simp)) (d7b f7p (b4j (b::l) fun s hs=>h s (by simp [List.mem_cons] at hs ⊢;exact .inr hs)))
theorem d0n {s:ByteArray} (h:a1b s=true):okP s:=by
 unfold a1b at h
 simp only [Bool.and_eq_true,List.all_eq_true] at h
 intro b hb
 have:=h.1 b hb
 unfold a1p at this
 unfold b3u
 simp only [Bool.not_eq_true',Bool.or_eq_false_iff,decide_eq_false_iff_not] at this ⊢
 omega
theorem f3x {v:Int} (h:in9 v):okP (a2h v):=by
 intro b hb
 unfold a2h at hb
 rw [a6k] at hb
 have:=e1l (d9w h b hb)
 unfold b3u
 simp only [Bool.not_eq_true',Bool.or_eq_false_iff,decide_eq_false_iff_not]
 omega
theorem f4a:∀ (a:ByteArray) (l:List ByteArray),a.size≤(a0w (a::l)).size
 |a,[]=>by rw [b2a];exact Nat.le_refl _
 |a,b::l=>by rw [join_cons,ByteArray.size_append];omega
theorem e8q {a:ByteArray} {l:List ByteArray} (h1:1≤a.size) (h:∀ s ∈ a::l,okP s∧s.size≤12) (hn:l.length≤11):c1c (a0w (a::l))=true:=by
 have hs:=a9n 12 (a::l) fun s hs=>(h s hs).2
 rw [← a6o] at hs
 have hg:=f4a a l
 have hp:=b4j (a::l) fun s hs=>(h s hs).1
 rw [List.length_cons] at hs
 unfold c1c
 rw [decide_eq_true (show 1≤((a0w (a::l)).size:Int) by omega),decide_eq_true (show ((a0w (a::l)).size:Int)≤160 by omega)]
 simp only [Bool.and_self,Bool.true_and,List.all_eq_true]
 exact hp
theorem d5t {x a:ByteArray} {l:List ByteArray} (hp:a1l x=a::l) (h1:1≤a.size) (h:∀ s ∈ a::l,okP s∧s.size≤12) (hn:l.length≤11):c1c x=true:=by
 rw [← b0g x,hp]
 exact e8q h1 h hn
theorem f4c {l:List ByteArray} (h:∀ s ∈ l,c1c s=true) (hn:l.length≤200):a1d l=true:=by
 unfold a1d
 simp only [Bool.and_eq_true,List.all_eq_true,decide_eq_true_eq]
 exact ⟨h,by omega⟩
theorem w12 {s:ByteArray} (h:a1b s=true):okP s∧s.size≤12:=⟨d0n h,(a2n h).2⟩
theorem n12 {v:Int} (h:in9 v):okP (a2h v)∧(a2h v).size≤12:=⟨f3x h,by have:=a2t h.1 h.2;omega⟩
open Go Pm
theorem a7n {s:ByteArray} (h:b7j s=true) (hne:¬ s=⟨#[]⟩):a3q (a1l s)=true∧s.size≤80:=by
 unfold b7j at h
 rw [decide_eq_false hne,Bool.false_or,Bool.and_eq_true,decide_eq_true_eq] at h
 refine ⟨?_,by omega⟩
 unfold a3q
 rw [h.2,decide_eq_true (b9u s)]
 rfl
structure GSi (s:Si):Prop where
 bef:b7j s.bef=true
 aft:b7j s.aft=true
 word:a1b s.word=true
 pl:in9 s.ch∧in9 s.ln∧in9 s.wd
theorem f1i {s:Si} (h:a6w s=true):GSi s:=by
 have hp:=d8j h
 unfold a6w b1b at h
 simp only [Bool.and_eq_true] at h
 exact ⟨h.1.1.1,h.1.1.2,h.1.2,hp⟩
theorem c6q (l:List Si) (q:Nat) {s:Si} (h:GSi s):a9f (l,q) (a0w [a4p,atS s.ch s.ln s.wd,s.word])=some (l++[⟨s.ch,s.ln,s.wd,s.word,⟨#[]⟩,⟨#[]⟩⟩],upQ q):=by
 obtain ⟨i0,i1,i2⟩:=h.pl
 obtain ⟨p0,p1,p2,p3⟩:=e4o i0 i1 i2 [s.word]
 unfold a9f
 rw [b9j i0 i1 i2 (b4y h.word)]
 simp only [b0w,if_true,p0,p1,p2,p3,List.drop_succ_cons,List.drop_zero,h.word]
theorem d2g (l:List Si) (q:Nat) (hq:2≤q) (s:Si) (b:ByteArray) (h:b7j b=true) (hne:¬ b=⟨#[]⟩):a9f (l++[s],q) (a0w [a1w,b])=some (l++[{ s with bef:=b }],1):=by
 obtain ⟨h1,_⟩:=a7n h hne
 have n1:¬ a1w=a4p:=by decide
 unfold a9f
 rw [c3l e6s]
 simp only [b0w,if_neg n1,if_true,if_pos hq,h1,c5t,b0g]
theorem b8g (l:List Si) (q:Nat) (hq:1≤q) (s:Si) (b:ByteArray) (h:b7j b=true) (hne:¬ b=⟨#[]⟩):a9f (l++[s],q) (a0w [a2f,b])=some (l++[{ s with aft:=b }],0):=by
 obtain ⟨h1,_⟩:=a7n h hne
 have n1:¬ a2f=a4p:=by decide
 have n2:¬ a2f=a1w:=by decide
 unfold a9f
 rw [c3l e8w]
 simp only [b0w,if_neg n1,if_neg n2,if_true,if_pos hq,h1,c5t,b0g]
theorem f2f (q:Nat) (h:q≤3):2≤upQ q∧upQ q≤3:=by unfold upQ;split<;>(try split)<;>omega
theorem d4c (l:List Si) (q:Nat) (hq:q≤3) {s:Si} (h:GSi s):∃ q',q'≤3∧a4i (l,q) (b1u s)=some (l++[s],q'):=by
 obtain ⟨u2,u3⟩:=f2f q hq
 obtain ⟨ch,ln,wd,word,bef,aft⟩:=s
 have hs:=c6q l q h
 unfold b1u e4y d5j
 simp only at hs ⊢
 rw [a4i,hs]
 simp only [Option.bind_some]
 by_cases hb:bef=⟨#[]⟩
 ·by_cases ha:aft=⟨#[]⟩
  ·rw [if_pos hb,if_pos ha,hb,ha]
   exact ⟨upQ q,u3,rfl⟩
  ·have:=b8g l (upQ q) (by omega) ⟨ch,ln,wd,word,⟨#[]⟩,⟨#[]⟩⟩ aft h.aft ha
   rw [if_pos hb,if_neg ha,hb]
   refine ⟨0,by omega,?_⟩
   simp only [List.nil_append,a4i,this,Option.bind_some]
 ·have h1:=d2g l (upQ q) u2 ⟨ch,ln,wd,word,⟨#[]⟩,⟨#[]⟩⟩ bef h.bef hb
  by_cases ha:aft=⟨#[]⟩
  ·rw [if_neg hb,if_pos ha,ha]
   refine ⟨1,by omega,?_⟩
   simp only [List.append_nil,a4i,h1,Option.bind_some]
  ·have h2:=b8g l 1 (by omega) ⟨ch,ln,wd,word,bef,⟨#[]⟩⟩ aft h.aft ha
   rw [if_neg hb,if_neg ha]
   refine ⟨0,by omega,?_⟩
   simp only [List.cons_append,List.nil_append,a4i,h1,h2,Option.bind_some]
theorem b5i:∀ (l pre:List Si) (q:Nat),q≤3→(∀ s ∈ l,GSi s)→∃ q',a4i (pre,q) (a1a l)=some (pre++l,q')
 |[],pre,q,_,_=>⟨q,by simp [a1a,a4i]⟩
 |s::l,pre,q,hq,h=>by
  obtain ⟨q1,h1,e1⟩:=d4c pre q hq (h s (by simp))
  obtain ⟨q2,e2⟩:=b5i l (pre++[s]) q1 h1 (fun x hx=>h x (by simp [hx]))
  have e:a1a (s::l)=b1u s++a1a l:=by simp [a1a]
  refine ⟨q2,?_⟩
  rw [e,b2o,e1]
  simp only [Option.bind_some,e2]
  simp
theorem e2r {s:ByteArray} (h:b7j s=true) (hne:¬ s=⟨#[]⟩):okP s:=by
 obtain ⟨h1,_⟩:=a7n h hne
 rw [← b0g s]
 unfold a3q at h1
 simp only [Bool.and_eq_true,List.all_eq_true] at h1
 exact b4j _ fun x hx=>d0n (h1.2 x hx)
theorem e3q {n s:ByteArray} (hn:okP n) (h1:1≤n.size) (h2:n.size≤12) (hs:okP s) (h3:s.size≤80):c1c (a0w [n,s])=true:=by
 have hz:=a4u n s
 have hp:=b4j [n,s] (by
  intro x hx
  simp only [List.mem_cons,List.not_mem_nil,or_false] at hx
  rcases hx with rfl|rfl
  ·exact hn
  ·exact hs)
 unfold c1c
 rw [decide_eq_true (show 1≤((a0w [n,s]).size:Int) by omega),decide_eq_true (show ((a0w [n,s]).size:Int)≤160 by omega)]
 simp only [Bool.and_self,Bool.true_and,List.all_eq_true]
 exact hp
theorem e1x {s:Si} (h:GSi s):∀ x ∈ b1u s,c1c x=true:=by
 intro x hx
 unfold b1u e4y d5j at hx
 rcases List.mem_cons.1 hx with rfl|hx
 ·obtain ⟨i0,i1,i2⟩:=h.pl
  refine d5t (b9j i0 i1 i2 (b4y h.word)) (by decide) ?_ (by simp)
  intro y hy
  simp only [List.mem_cons,List.not_mem_nil,or_false] at hy
  rcases hy with rfl|rfl|rfl|rfl|rfl
  ·exact ⟨by unfold okP a4p;decide,by decide⟩
  ·exact n12 i0
  ·exact n12 i1
  ·exact n12 i2
  ·exact w12 h.word
 ·rcases List.mem_append.1 hx with hx|hx
  ·split at hx
   ·cases hx
   ·rename_i hne
    simp only [List.mem_cons,List.not_mem_nil,or_false] at hx
    subst hx
    exact e3q (by unfold okP a1w;decide) (by decide) (by decide) (e2r h.bef hne) (a7n h.bef hne).2
  ·split at hx
   ·cases hx
   ·rename_i hne
    simp only [List.mem_cons,List.not_mem_nil,or_false] at hx
    subst hx
    exact e3q (by unfold okP a2f;decide) (by decide) (by decide) (e2r h.aft hne) (a7n h.aft hne).2
theorem d3f {l:List Si} (h:l.all a6w=true) (hn:(a1a l).length≤200):a6e (a1a l)=(l,0):=by
 rw [List.all_eq_true] at h
 have hg:∀ s ∈ l,GSi s:=fun s hs=>f1i (h s hs)
 have hr:a1d (a1a l)=true:=f4c (fun x hx=>by
  simp only [a1a,List.mem_flatMap] at hx
  obtain ⟨s,hs,hx⟩:=hx
  exact e1x (hg s hs) x hx) hn
 obtain ⟨q,e⟩:=b5i l [] 0 (by omega) hg
 have hB:l.all b1b=true:=by
  rw [List.all_eq_true]
  intro s hs
  have:=h s hs
  unfold a6w at this
  rw [Bool.and_eq_true] at this
  exact this.1
 unfold a6e
 rw [hr,show W0=([],0) from rfl,e]
 simp [hB]
end Go.Proofs.YtmjhfccbbfpppaaGreatDoor
