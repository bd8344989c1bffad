import Derived.Test.YtmjhfccbbfpppaaGreatDoorQB23
import Derived.Test.YtmjhfccbbfpppaaGreatDoorQB25
namespace Go.Proofs.YtmjhfccbbfpppaaGreatDoor
open Go Pm
set_option linter.unusedSimpArgs false
set_option linter.unusedVariables false
structure Rd where
 ch:Int
 ln:Int
 wd:Int
 kind:UInt8
 word:ByteArray
def rdE (r:Rd):List V:=[i64 r.ch,i64 r.ln,i64 r.wd,.v (.int .u8 r.kind.toNat),str r.word]
def rds (lo:Nat) (l:List Rd):V:=.lst lo 5 (l.map rdE)
structure Cp where
 id:Int
 rds:List Rd
def cpC (lo:Nat) (c:Cp):List V:=[i64 c.id,rds lo c.rds]
def cpE (lo:Nat) (c:Cp):V:=.agg (cpC lo c)
attribute [go_sem] rdE rds cpC cpE
theorem c8k (l:List Rd):a3b (l.map rdE)=true:=a2l (fun _=>rfl) l
attribute [go_sem] c8k
def a4x (t:List Ch) (a b:Int):Option (List ByteArray):=if 0≤a∧0≤b then (t[a.toNat]?).bind fun c=>c.lines[b.toNat]? else none
def c4b (l:List ByteArray) (w:Int):ByteArray:=l.getD w.toNat ⟨#[]⟩
def b8k (l:List ByteArray) (w:Int) (k:Int) (s:ByteArray):Bool :=
 if k=1 then inB w 0 ((l.length:Int) - 1) && decide (s=⟨#[]⟩)
 else if k=2 then inB w 0 l.length && a1f s
 else if k=3 then inB w 0 ((l.length:Int) - 1) && (a1f s && decide (s≠c4b l w))
 else false
def a1w (t:List Ch) (r:Rd):Bool:=match a4x t r.ch r.ln with
 |none=>false
 |some l=>b8k l r.wd r.kind.toNat r.word
def d0k (a b:Rd):Bool:=if a.ch≠b.ch then decide (a.ch < b.ch) else if a.ln≠b.ln then decide (a.ln < b.ln) else decide (a.wd < b.wd)
def a6d (a b:Rd):Bool:=decide (a.ch=b.ch) && decide (a.ln=b.ln) && decide (a.wd=b.wd)
def b8d (p r:Rd):Bool:=!(d0k r p || a6d r p && decide ((p.kind.toNat:Int)≠2))
def rd0:Rd:=⟨0,0,0,0,⟨#[]⟩⟩
def d1m (t:List Ch) (l:List Rd) (k:Nat):Bool:=a1w t (l.getD k rd0) && (decide (k=0) || b8d (l.getD (k - 1) rd0) (l.getD k rd0))
def c2r (t:List Ch) (l:List Rd):Bool:=(List.range l.length).all (d1m t l)
def c2s (a b:Int):Int:=if a < b then -1 else if b < a then 1 else 0
def or3 (a b c:Int):Int:=if a≠0 then a else if b≠0 then b else c
def g5e (a b:Rd):Int:=or3 (c2s a.ch b.ch) (c2s a.ln b.ln) (c2s a.wd b.wd)
theorem d7u (p r:Rd):b8d p r=!(decide (g5e p r > 0) || decide (g5e p r=0) && decide ((p.kind.toNat:Int)≠2)):=by
 unfold b8d d0k a6d g5e or3 c2s
 congr 1
 rw [Bool.eq_iff_iff]
 simp only [Bool.or_eq_true,Bool.and_eq_true,decide_eq_true_eq]
 by_cases h1:r.ch=p.ch
 ·by_cases h2:r.ln=p.ln
  ·simp [h1,h2]
   by_cases h3:p.wd < r.wd
   ·simp [h3];omega
   ·by_cases h4:r.wd < p.wd
    ·simp [h3,h4]
    ·have:r.wd=p.wd:=by omega
     simp [this]
  ·simp [h1,h2]
   by_cases h3:p.ln < r.ln
   ·simp [h3];omega
   ·have h4:r.ln < p.ln:=by omega
    simp [h3,h4]
 ·simp [h1]
  by_cases h3:p.ch < r.ch
  ·simp [h3];omega
  ·have h4:r.ch < p.ch:=by omega
   simp [h3,h4]
def atW (k n w:Int) (r:Rd):Bool:=decide (r.ch=k) && decide (r.ln=n) && decide (r.wd=w)
def b3f (k n w:Int) (s:List ByteArray×ByteArray) (r:Rd):List ByteArray×ByteArray :=
 if atW k n w r then (if (r.kind.toNat:Int)=2 then (s.1++[r.word],s.2) else (s.1,r.word)) else s
def g1h (s:List ByteArray×ByteArray):List ByteArray:=if s.2=⟨#[]⟩ then s.1 else s.1++[s.2]
def g8h (rs:List Rd) (k n:Int) (l:List ByteArray) (w:Nat):List ByteArray:=g1h (rs.foldl (b3f k n w) ([],c4b l w))
def e9o (rs:List Rd) (k n:Int) (l:List ByteArray):List ByteArray:=(List.range (l.length+1)).flatMap (g8h rs k n l)
def b2m (k:Int) (own put:ByteArray):List ByteArray:=if k=2 then [put,own] else if k=3 then [put] else []
def a9e (s:List ByteArray) (r:Rd):List ByteArray:=s.take (s.length - 1)++b2m r.kind.toNat (s.getD (s.length - 1) ⟨#[]⟩) r.word
def b0x (rs:List Rd) (k n:Int) (l:List ByteArray) (w:Nat):List ByteArray:=(rs.filter (atW k n w)).foldl a9e [c4b l w]
def neB (s:ByteArray):Bool:=!decide (s=⟨#[]⟩)
def e1a (rs:List Rd) (k n:Int) (l:List ByteArray):List ByteArray:=((List.range (l.length+1)).flatMap (b0x rs k n l)).filter neB
def b4s (r:Rd):Prop:=((r.kind.toNat:Int)=1∧r.word=⟨#[]⟩)∨((r.kind.toNat:Int)=2∧a1f r.word=true)∨((r.kind.toNat:Int)=3∧a1f r.word=true)
open Go Pm
def InP (r:Rd):Prop:=(0≤r.ch∧r.ch≤99)∧(0≤r.ln∧r.ln≤99)∧(0≤r.wd∧r.wd≤99)
def nP (r:Rd):Int:=r.ch * 10000+r.ln * 100+r.wd
def f0e (a b:Rd):Prop:=nP a < nP b∨nP a=nP b∧(a.kind.toNat:Int)=2
theorem b2p {a b:Rd} (ha:InP a) (hb:InP b):a6d a b=true↔nP a=nP b:=by
 obtain ⟨⟨a1,a2⟩,⟨a3,a4⟩,⟨a5,a6⟩⟩:=ha
 obtain ⟨⟨b1,b2⟩,⟨b3,b4⟩,⟨b5,b6⟩⟩:=hb
 unfold a6d nP
 simp only [Bool.and_eq_true,decide_eq_true_eq]
 constructor
 ·rintro ⟨⟨h1,h2⟩,h3⟩;rw [h1,h2,h3]
 ·intro h;refine ⟨⟨?_,?_⟩,?_⟩<;>omega
theorem e9g {a b:Rd} (ha:InP a) (hb:InP b) (h:b8d a b=true):f0e a b:=by
 have hs:=b2p hb ha
 obtain ⟨⟨a1,a2⟩,⟨a3,a4⟩,⟨a5,a6⟩⟩:=ha
 obtain ⟨⟨b1,b2⟩,⟨b3,b4⟩,⟨b5,b6⟩⟩:=hb
 unfold b8d at h
 simp only [Bool.not_eq_true',Bool.or_eq_false_iff,Bool.and_eq_false_iff,decide_eq_false_iff_not,Decidable.not_not] at h
 obtain ⟨h1,h2⟩:=h
 have hle:nP a≤nP b:=by
  unfold d0k at h1
  unfold nP
  by_cases e1:b.ch=a.ch
  ·by_cases e2:b.ln=a.ln
   ·simp [e1,e2] at h1;omega
   ·simp [e1,e2] at h1;omega
  ·simp [e1] at h1;omega
 unfold f0e
 rcases h2 with h2|h2
 ·have:¬ nP a=nP b:=fun e=>by rw [hs.2 e.symm] at h2;cases h2
  left;omega
 ·by_cases e:nP a=nP b
  ·exact .inr ⟨e,h2⟩
  ·left;omega
theorem e4a {a b c:Rd} (h1:f0e a b) (h2:f0e b c):f0e a c:=by
 unfold f0e at *
 rcases h1 with h1|⟨h1,k1⟩<;>rcases h2 with h2|⟨h2,k2⟩
 ·left;omega
 ·left;omega
 ·left;omega
 ·right;exact ⟨by omega,k1⟩
theorem d3y {t:List Ch} (ht:a1s t=true) {r:Rd} (h:a1w t r=true):InP r∧b4s r:=by
 obtain ⟨ht1,ht2⟩:=b0f ht
 unfold a1w at h
 cases hl:a4x t r.ch r.ln with
 |none=>rw [hl] at h;cases h
 |some l =>
  rw [hl] at h
  simp only at h
  unfold a4x at hl
  split at hl
  ·rename_i hab
   obtain ⟨ha,hb⟩:=hab
   simp only [Option.bind_eq_some_iff] at hl
   obtain ⟨c,hc,hl⟩:=hl
   obtain ⟨hat,rfl⟩:=List.getElem?_eq_some_iff.1 hc
   obtain ⟨hbl,rfl⟩:=List.getElem?_eq_some_iff.1 hl
   have hv:=ht2 _ (List.getElem_mem hat)
   have hv1:=hv.len
   have hv2:=hv.ln _ (List.getElem_mem hbl)
   unfold b8k at h
   have hw:0≤r.wd∧r.wd≤99∧b4s r:=by
    unfold b4s
    split at h
    ·rename_i hk
     simp only [Bool.and_eq_true,inB_iff,decide_eq_true_eq] at h
     exact ⟨by omega,by omega,.inl ⟨hk,h.2⟩⟩
    ·split at h
     ·rename_i hk
      simp only [Bool.and_eq_true,inB_iff] at h
      exact ⟨by omega,by omega,.inr (.inl ⟨hk,h.2⟩)⟩
     ·split at h
      ·rename_i hk
       simp only [Bool.and_eq_true,inB_iff] at h
       exact ⟨by omega,by omega,.inr (.inr ⟨hk,h.2.1⟩)⟩
      ·cases h
   refine ⟨⟨⟨ha,by omega⟩,⟨hb,by omega⟩,⟨hw.1,hw.2.1⟩⟩,hw.2.2⟩
  ·cases hl
structure OKR (t:List Ch) (rs:List Rd):Prop where
 n:rs.length≤1000
 i:∀ r ∈ rs,InP r∧b4s r
 s:rs.Pairwise f0e
theorem f2x {t:List Ch} {rs:List Rd} (ht:a1s t=true) (hn:rs.length≤1000) (h:c2r t rs=true):OKR t rs:=by
 have hat:∀ k,k < rs.length→d1m t rs k=true:=fun k hk=>by
  unfold c2r at h
  exact List.all_eq_true.1 h k (by simpa using hk)
 have hin:∀ r ∈ rs,InP r∧b4s r:=fun r hr=>by
  obtain ⟨k,hk,rfl⟩:=List.mem_iff_getElem.1 hr
  have:=hat k hk
  unfold d1m at this
  simp only [Bool.and_eq_true,List.getD_eq_getElem?_getD,List.getElem?_eq_getElem hk,Option.getD_some] at this
  exact d3y ht this.1
 refine ⟨hn,hin,List.pairwise_iff_getElem.2 ?_⟩
 intro i j hi hj hij
 induction j with
 |zero=>omega
 |succ j ih =>
  have hjl:j < rs.length:=by omega
  have h1:=hat (j+1) hj
  unfold d1m at h1
  simp only [Bool.and_eq_true,List.getD_eq_getElem?_getD,List.getElem?_eq_getElem hj,Option.getD_some,Bool.or_eq_true,decide_eq_true_eq,Nat.add_sub_cancel,List.getElem?_eq_getElem hjl] at h1
  have h2:f0e rs[j] rs[j+1]:=e9g (hin _ (List.getElem_mem hjl)).1 (hin _ (List.getElem_mem hj)).1 (by rcases h1.2 with h|h;omega;exact h)
  by_cases e:i=j
  ·subst e;exact h2
  ·exact e4a (ih hjl (by omega)) h2
theorem OKR.take {t:List Ch} {rs:List Rd} (h:OKR t rs) (k:Nat):OKR t (rs.take k) :=
 ⟨by have:=h.n;simp;omega,fun r hr=>h.i r (List.mem_of_mem_take hr),h.s.sublist (List.take_sublist _ _)⟩
theorem f0a {s:ByteArray} (h:a1f s=true):neB s=true:=by
 have:=a2u h
 unfold neB
 simp only [Bool.not_eq_true',decide_eq_false_iff_not]
 rintro rfl
 simp [ByteArray.size] at this
theorem e0q (out:List ByteArray) (own:ByteArray) (ho:∀ s ∈ out,neB s=true):(out++[own]).filter neB=g1h (out,own):=by
 unfold g1h
 rw [List.filter_append,List.filter_eq_self.2 ho]
 by_cases h:own=⟨#[]⟩
 ·subst h;simp [neB]
 ·simp [h,neB]
theorem b3m (k n w:Int):∀ (rs:List Rd) (s:List ByteArray×ByteArray),(∀ r ∈ rs,atW k n w r=false)→rs.foldl (b3f k n w) s=s
 |[],s,_=>rfl
 |r::rs,s,h=>by
  rw [List.foldl_cons,show b3f k n w s r=s by simp [b3f,h r (by simp)]]
  exact b3m k n w rs s fun x hx=>h x (by simp [hx])
theorem g8k {k n w:Int} {a b:Rd} (ha:atW k n w a=true) (hb:atW k n w b=true):nP a=nP b:=by
 simp only [atW,Bool.and_eq_true,decide_eq_true_eq] at ha hb
 unfold nP
 rw [ha.1.1,ha.1.2,ha.2,hb.1.1,hb.1.2,hb.2]
theorem e3q (k n w:Int):∀ (rs:List Rd) (out:List ByteArray) (own:ByteArray),(∀ r ∈ rs,b4s r)→rs.Pairwise f0e→(∀ s ∈ out,neB s=true) →
  ((rs.filter (atW k n w)).foldl a9e (out++[own])).filter neB=g1h (rs.foldl (b3f k n w) (out,own))
 |[],out,own,_,_,ho=>e0q out own ho
 |r::rs,out,own,hg,hs,ho=>by
  have hg':∀ r ∈ rs,b4s r:=fun x hx=>hg x (by simp [hx])
  obtain ⟨hs1,hs2⟩:=List.pairwise_cons.1 hs
  cases hat:atW k n w r with
  |false =>
   rw [List.filter_cons_of_neg (by simp [hat]),List.foldl_cons,show b3f k n w (out,own) r=(out,own) by simp [b3f,hat]]
   exact e3q k n w rs out own hg' hs2 ho
  |true =>
   rw [List.filter_cons_of_pos hat,List.foldl_cons,List.foldl_cons]
   have hlast:(out++[own]).getD ((out++[own]).length - 1) ⟨#[]⟩=own:=by simp
   have htake:(out++[own]).take ((out++[own]).length - 1)=out:=by simp
   have none (hk:¬ (r.kind.toNat:Int)=2):∀ x ∈ rs,atW k n w x=false:=fun x hx=>by
    cases hx':atW k n w x with
    |false=>rfl
    |true =>
     exfalso
     have e:=g8k hat hx'
     rcases hs1 x hx with h|h
     ·omega
     ·exact hk h.2
   have nof (hk:¬ (r.kind.toNat:Int)=2):rs.filter (atW k n w)=[]:=List.filter_eq_nil_iff.2 fun x hx=>by rw [none hk x hx];simp
   rcases hg r (by simp) with ⟨hk,hw⟩|⟨hk,hw⟩|⟨hk,hw⟩
   ·have e1:a9e (out++[own]) r=out:=by unfold a9e b2m;rw [htake,hk];simp
    have e2:b3f k n w (out,own) r=(out,⟨#[]⟩):=by simp [b3f,hat,hk,hw]
    rw [e1,e2,nof (by omega),b3m k n w rs _ (none (by omega))]
    rw [List.foldl_nil,List.filter_eq_self.2 ho]
    simp [g1h]
   ·have e1:a9e (out++[own]) r=(out++[r.word])++[own]:=by unfold a9e b2m;rw [htake,hlast,hk];simp
    have e2:b3f k n w (out,own) r=(out++[r.word],own):=by simp [b3f,hat,hk]
    rw [e1,e2]
    refine e3q k n w rs _ own hg' hs2 fun s hsm=>?_
    rcases List.mem_append.1 hsm with h|h
    ·exact ho s h
    ·simp at h;subst h;exact f0a hw
   ·have e1:a9e (out++[own]) r=out++[r.word]:=by unfold a9e b2m;rw [htake,hlast,hk];simp
    have e2:b3f k n w (out,own) r=(out,r.word):=by simp [b3f,hat,hk]
    rw [e1,e2,nof (by omega),b3m k n w rs _ (none (by omega)),List.foldl_nil]
    exact e0q out r.word ho
theorem e9x {t:List Ch} {rs:List Rd} (h:OKR t rs) (k n:Int) (l:List ByteArray) (w:Nat):(b0x rs k n l w).filter neB=g8h rs k n l w :=
 e3q k n w rs [] _ (fun r hr=>(h.i r hr).2) h.s (by simp)
theorem f5p {t:List Ch} {rs:List Rd} (h:OKR t rs) (k n:Int) (l:List ByteArray):e1a rs k n l=e9o rs k n l:=by
 unfold e1a e9o
 rw [List.filter_flatMap]
 congr 1
 funext w
 exact e9x h k n l w
def g0v (ps:List Rd) (r:Rd):List Rd:=match ps.getLast? with
 |some p=>if a6d p r then ps else ps++[r]
 |none=>[r]
def b9b (rs:List Rd):List Rd:=rs.foldl g0v []
theorem b6n (rs:List Rd) (r:Rd):b9b (rs++[r])=g0v (b9b rs) r:=by simp [b9b]
structure RepOK (rs ps:List Rd):Prop where
 mem:∀ p ∈ ps,p ∈ rs
 all:∀ r ∈ rs,∃ p ∈ ps,nP p=nP r
 lt:ps.Pairwise (fun a b=>nP a < nP b)
 top:∀ p r,ps.getLast? = some p→r ∈ rs→nP r≤nP p
theorem d2r {t:List Ch} {rs:List Rd} (h:OKR t rs):∀ k,k≤rs.length→RepOK (rs.take k) (b9b (rs.take k))
 |0,_=>by
  rw [List.take_zero]
  exact ⟨by simp [b9b],by simp,by simp [b9b],by simp [b9b]⟩
 |k+1,hk=>by
  have ih:=d2r h k (by omega)
  have hkl:k < rs.length:=by omega
  have e:rs.take (k+1)=rs.take k++[rs[k]]:=by rw [List.take_add_one,List.getElem?_eq_getElem hkl];rfl
  have hle:∀ r ∈ rs.take k,nP r≤nP rs[k]:=fun r hr=>by
   obtain ⟨i,hi,rfl⟩:=List.mem_iff_getElem.1 hr
   simp at hi
   have:=List.pairwise_iff_getElem.1 h.s i k (by omega) hkl (by omega)
   rw [List.getElem_take]
   rcases this with h|h<;>omega
  rw [e,b6n]
  unfold g0v
  have hI:=(h.i _ (List.getElem_mem hkl)).1
  cases hp:(b9b (rs.take k)).getLast? with
  |none =>
   have h0:b9b (rs.take k)=[]:=List.getLast?_eq_none_iff.1 hp
   have hall:∀ r,r ∉ rs.take k:=fun r hr=>by obtain ⟨p,h1,_⟩:=ih.all r hr;rw [h0] at h1;cases h1
   simp only
   refine ⟨fun q hq=>by simp at hq;subst hq;exact List.mem_append_right _ (List.mem_singleton.2 rfl),fun r hr=>?_,by simp,fun p r hp hr=>?_⟩
   ·rcases List.mem_append.1 hr with hr|hr
    ·exact absurd hr (hall r)
    ·simp at hr;subst hr;exact ⟨_,by simp,rfl⟩
   ·simp at hp;subst hp
    rcases List.mem_append.1 hr with hr|hr
    ·exact absurd hr (hall r)
    ·simp at hr;subst hr;exact Int.le_refl _
  |some p =>
   have hpm:p ∈ b9b (rs.take k):=List.mem_of_getLast? hp
   have hpi:=(h.i p (List.mem_of_mem_take (ih.mem p hpm))).1
   have hpk:=hle p (ih.mem p hpm)
   simp only
   split
   ·rename_i hs
    have hn:=(b2p hpi hI).1 hs
    refine ⟨fun q hq=>List.mem_append_left _ (ih.mem q hq),fun r hr=>?_,ih.lt,fun q r hq hr=>?_⟩
    ·rcases List.mem_append.1 hr with hr|hr
     ·exact ih.all r hr
     ·simp at hr;subst hr;exact ⟨p,hpm,hn⟩
    ·rw [hp] at hq;cases hq
     rcases List.mem_append.1 hr with hr|hr
     ·exact ih.top p r hp hr
     ·simp at hr;subst hr;omega
   ·rename_i hs
    have hn:¬ nP p=nP rs[k]:=fun e=>hs ((b2p hpi hI).2 e)
    refine ⟨fun q hq=>?_,fun r hr=>?_,List.pairwise_append.2 ⟨ih.lt,by simp,fun a ha b hb=>?_⟩,fun q r hq hr=>?_⟩
    ·rcases List.mem_append.1 hq with hq|hq
     ·exact List.mem_append_left _ (ih.mem q hq)
     ·exact List.mem_append_right _ hq
    ·rcases List.mem_append.1 hr with hr|hr
     ·obtain ⟨q,h1,h2⟩:=ih.all r hr;exact ⟨q,List.mem_append_left _ h1,h2⟩
     ·simp at hr;subst hr;exact ⟨_,by simp,rfl⟩
    ·simp at hb;subst hb
     have:=ih.top p a hp (ih.mem a ha)
     omega
    ·simp at hq;subst hq
     rcases List.mem_append.1 hr with hr|hr
     ·exact hle r hr
     ·simp at hr;subst hr;exact Int.le_refl _
end Go.Proofs.YtmjhfccbbfpppaaGreatDoor
