import Derived.Test.YtmjhfccbbfpppaaGreatDoorQW22
import Derived.Test.YtmjhfccbbfpppaaGreatDoorQW28
namespace Go.Proofs.YtmjhfccbbfpppaaGreatDoor
open Go Pm
set_option linter.unusedSimpArgs false
set_option linter.unusedVariables false
structure Rd where
 ch:Int
 ln:Int
 wd:Int
 kind:UInt8
 word:ByteArray
def rdE (r:Rd):List V:=[i64 r.ch,i64 r.ln,i64 r.wd,.v (.int .u8 r.kind.toNat),str r.word]
def rds (lo:Nat) (l:List Rd):V:=.lst lo 5 (l.map rdE)
structure Cp where
 id:Int
 rds:List Rd
def cpC (lo:Nat) (c:Cp):List V:=[i64 c.id,rds lo c.rds]
def cpE (lo:Nat) (c:Cp):V:=.agg (cpC lo c)
attribute [go_sem] rdE rds cpC cpE
theorem c8o (l:List Rd):a3b (l.map rdE)=true:=a2w (fun _=>rfl) l
attribute [go_sem] c8o
def a7r (t:List Ch) (a b:Int):Option (List ByteArray):=if 0≤a∧0≤b then (t[a.toNat]?).bind fun c=>c.lines[b.toNat]? else none
def c7o (l:List ByteArray) (w:Int):ByteArray:=l.getD w.toNat ⟨#[]⟩
def b9k (l:List ByteArray) (w:Int) (k:Int) (s:ByteArray):Bool :=
 if k=1 then inB w 0 ((l.length:Int) - 1) && decide (s=⟨#[]⟩)
 else if k=2 then inB w 0 l.length && a1i s
 else if k=3 then inB w 0 ((l.length:Int) - 1) && (a1i s && decide (s≠c7o l w))
 else false
def a2e (t:List Ch) (r:Rd):Bool:=match a7r t r.ch r.ln with
 |none=>false
 |some l=>b9k l r.wd r.kind.toNat r.word
def c8f (a b:Rd):Bool:=if a.ch≠b.ch then decide (a.ch < b.ch) else if a.ln≠b.ln then decide (a.ln < b.ln) else decide (a.wd < b.wd)
def a6z (a b:Rd):Bool:=decide (a.ch=b.ch) && decide (a.ln=b.ln) && decide (a.wd=b.wd)
def b9n (p r:Rd):Bool:=!(c8f r p || a6z r p && decide ((p.kind.toNat:Int)≠2))
def rd0:Rd:=⟨0,0,0,0,⟨#[]⟩⟩
def d1f (t:List Ch) (l:List Rd) (k:Nat):Bool:=a2e t (l.getD k rd0) && (decide (k=0) || b9n (l.getD (k - 1) rd0) (l.getD k rd0))
def c3o (t:List Ch) (l:List Rd):Bool:=(List.range l.length).all (d1f t l)
def e1b (a b:Int):Int:=if a < b then -1 else if b < a then 1 else 0
def or3 (a b c:Int):Int:=if a≠0 then a else if b≠0 then b else c
def g3s (a b:Rd):Int:=or3 (e1b a.ch b.ch) (e1b a.ln b.ln) (e1b a.wd b.wd)
theorem d7u (p r:Rd):b9n p r=!(decide (g3s p r > 0) || decide (g3s p r=0) && decide ((p.kind.toNat:Int)≠2)):=by
 unfold b9n c8f a6z g3s or3 e1b
 congr 1
 rw [Bool.eq_iff_iff]
 simp only [Bool.or_eq_true,Bool.and_eq_true,decide_eq_true_eq]
 by_cases h1:r.ch=p.ch
 ·by_cases h2:r.ln=p.ln
  ·simp [h1,h2]
   by_cases h3:p.wd < r.wd
   ·simp [h3];omega
   ·by_cases h4:r.wd < p.wd
    ·simp [h3,h4]
    ·have:r.wd=p.wd:=by omega
     simp [this]
  ·simp [h1,h2]
   by_cases h3:p.ln < r.ln
   ·simp [h3];omega
   ·have h4:r.ln < p.ln:=by omega
    simp [h3,h4]
 ·simp [h1]
  by_cases h3:p.ch < r.ch
  ·simp [h3];omega
  ·have h4:r.ch < p.ch:=by omega
   simp [h3,h4]
def atW (k n w:Int) (r:Rd):Bool:=decide (r.ch=k) && decide (r.ln=n) && decide (r.wd=w)
def b4s (k n w:Int) (s:List ByteArray×ByteArray) (r:Rd):List ByteArray×ByteArray :=
 if atW k n w r then (if (r.kind.toNat:Int)=2 then (s.1++[r.word],s.2) else (s.1,r.word)) else s
def g0p (s:List ByteArray×ByteArray):List ByteArray:=if s.2=⟨#[]⟩ then s.1 else s.1++[s.2]
def g7i (rs:List Rd) (k n:Int) (l:List ByteArray) (w:Nat):List ByteArray:=g0p (rs.foldl (b4s k n w) ([],c7o l w))
def e7y (rs:List Rd) (k n:Int) (l:List ByteArray):List ByteArray:=(List.range (l.length+1)).flatMap (g7i rs k n l)
def b3v (k:Int) (own put:ByteArray):List ByteArray:=if k=2 then [put,own] else if k=3 then [put] else []
def a9y (s:List ByteArray) (r:Rd):List ByteArray:=s.take (s.length - 1)++b3v r.kind.toNat (s.getD (s.length - 1) ⟨#[]⟩) r.word
def b1l (rs:List Rd) (k n:Int) (l:List ByteArray) (w:Nat):List ByteArray:=(rs.filter (atW k n w)).foldl a9y [c7o l w]
def neB (s:ByteArray):Bool:=!decide (s=⟨#[]⟩)
def e5t (rs:List Rd) (k n:Int) (l:List ByteArray):List ByteArray:=((List.range (l.length+1)).flatMap (b1l rs k n l)).filter neB
def b5s (r:Rd):Prop:=((r.kind.toNat:Int)=1∧r.word=⟨#[]⟩)∨((r.kind.toNat:Int)=2∧a1i r.word=true)∨((r.kind.toNat:Int)=3∧a1i r.word=true)
open Go Pm
def InP (r:Rd):Prop:=(0≤r.ch∧r.ch≤99)∧(0≤r.ln∧r.ln≤99)∧(0≤r.wd∧r.wd≤99)
def nP (r:Rd):Int:=r.ch * 10000+r.ln * 100+r.wd
def e6z (a b:Rd):Prop:=nP a < nP b∨nP a=nP b∧(a.kind.toNat:Int)=2
theorem b2s {a b:Rd} (ha:InP a) (hb:InP b):a6z a b=true↔nP a=nP b:=by
 obtain ⟨⟨a1,a2⟩,⟨a3,a4⟩,⟨a5,a6⟩⟩:=ha
 obtain ⟨⟨b1,b2⟩,⟨b3,b4⟩,⟨b5,b6⟩⟩:=hb
 unfold a6z nP
 simp only [Bool.and_eq_true,decide_eq_true_eq]
 constructor
 ·rintro ⟨⟨h1,h2⟩,h3⟩;rw [h1,h2,h3]
 ·intro h;refine ⟨⟨?_,?_⟩,?_⟩<;>omega
theorem e7g {a b:Rd} (ha:InP a) (hb:InP b) (h:b9n a b=true):e6z a b:=by
 have hs:=b2s hb ha
 obtain ⟨⟨a1,a2⟩,⟨a3,a4⟩,⟨a5,a6⟩⟩:=ha
 obtain ⟨⟨b1,b2⟩,⟨b3,b4⟩,⟨b5,b6⟩⟩:=hb
 unfold b9n at h
 simp only [Bool.not_eq_true',Bool.or_eq_false_iff,Bool.and_eq_false_iff,decide_eq_false_iff_not,Decidable.not_not] at h
 obtain ⟨h1,h2⟩:=h
 have hle:nP a≤nP b:=by
  unfold c8f at h1
  unfold nP
  by_cases e1:b.ch=a.ch
  ·by_cases e2:b.ln=a.ln
   ·simp [e1,e2] at h1;omega
   ·simp [e1,e2] at h1;omega
  ·simp [e1] at h1;omega
 unfold e6z
 rcases h2 with h2|h2
 ·have:¬ nP a=nP b:=fun e=>by rw [hs.2 e.symm] at h2;cases h2
  left;omega
 ·by_cases e:nP a=nP b
  ·exact .inr ⟨e,h2⟩
  ·left;omega
theorem e6a {a b c:Rd} (h1:e6z a b) (h2:e6z b c):e6z a c:=by
 unfold e6z at *
 rcases h1 with h1|⟨h1,k1⟩<;>rcases h2 with h2|⟨h2,k2⟩
 ·left;omega
 ·left;omega
 ·left;omega
 ·right;exact ⟨by omega,k1⟩
theorem d3l {t:List Ch} (ht:a1z t=true) {r:Rd} (h:a2e t r=true):InP r∧b5s r:=by
 obtain ⟨ht1,ht2⟩:=c0c ht
 unfold a2e at h
 cases hl:a7r t r.ch r.ln with
 |none=>rw [hl] at h;cases h
 |some l =>
  rw [hl] at h
  simp only at h
  unfold a7r at hl
  split at hl
  ·rename_i hab
   obtain ⟨ha,hb⟩:=hab
   simp only [Option.bind_eq_some_iff] at hl
   obtain ⟨c,hc,hl⟩:=hl
   obtain ⟨hat,rfl⟩:=List.getElem?_eq_some_iff.1 hc
   obtain ⟨hbl,rfl⟩:=List.getElem?_eq_some_iff.1 hl
   have hv:=ht2 _ (List.getElem_mem hat)
   have hv1:=hv.len
   have hv2:=hv.ln _ (List.getElem_mem hbl)
   unfold b9k at h
   have hw:0≤r.wd∧r.wd≤99∧b5s r:=by
    unfold b5s
    split at h
    ·rename_i hk
     simp only [Bool.and_eq_true,inB_iff,decide_eq_true_eq] at h
     exact ⟨by omega,by omega,.inl ⟨hk,h.2⟩⟩
    ·split at h
     ·rename_i hk
      simp only [Bool.and_eq_true,inB_iff] at h
      exact ⟨by omega,by omega,.inr (.inl ⟨hk,h.2⟩)⟩
     ·split at h
      ·rename_i hk
       simp only [Bool.and_eq_true,inB_iff] at h
       exact ⟨by omega,by omega,.inr (.inr ⟨hk,h.2.1⟩)⟩
      ·cases h
   refine ⟨⟨⟨ha,by omega⟩,⟨hb,by omega⟩,⟨hw.1,hw.2.1⟩⟩,hw.2.2⟩
  ·cases hl
structure OKR (t:List Ch) (rs:List Rd):Prop where
 n:rs.length≤1000
 i:∀ r ∈ rs,InP r∧b5s r
 s:rs.Pairwise e6z
theorem f2v {t:List Ch} {rs:List Rd} (ht:a1z t=true) (hn:rs.length≤1000) (h:c3o t rs=true):OKR t rs:=by
 have hat:∀ k,k < rs.length→d1f t rs k=true:=fun k hk=>by
  unfold c3o at h
  exact List.all_eq_true.1 h k (by simpa using hk)
 have hin:∀ r ∈ rs,InP r∧b5s r:=fun r hr=>by
  obtain ⟨k,hk,rfl⟩:=List.mem_iff_getElem.1 hr
  have:=hat k hk
  unfold d1f at this
  simp only [Bool.and_eq_true,List.getD_eq_getElem?_getD,List.getElem?_eq_getElem hk,Option.getD_some] at this
  exact d3l ht this.1
 refine ⟨hn,hin,List.pairwise_iff_getElem.2 ?_⟩
 intro i j hi hj hij
 induction j with
 |zero=>omega
 |succ j ih =>
  have hjl:j < rs.length:=by omega
  have h1:=hat (j+1) hj
  unfold d1f at h1
  simp only [Bool.and_eq_true,List.getD_eq_getElem?_getD,List.getElem?_eq_getElem hj,Option.getD_some,Bool.or_eq_true,decide_eq_true_eq,Nat.add_sub_cancel,List.getElem?_eq_getElem hjl] at h1
  have h2:e6z rs[j] rs[j+1]:=e7g (hin _ (List.getElem_mem hjl)).1 (hin _ (List.getElem_mem hj)).1 (by rcases h1.2 with h|h;omega;exact h)
  by_cases e:i=j
  ·subst e;exact h2
  ·exact e6a (ih hjl (by omega)) h2
theorem OKR.take {t:List Ch} {rs:List Rd} (h:OKR t rs) (k:Nat):OKR t (rs.take k) :=
 ⟨by have:=h.n;simp;omega,fun r hr=>h.i r (List.mem_of_mem_take hr),h.s.sublist (List.take_sublist _ _)⟩
theorem e8o {s:ByteArray} (h:a1i s=true):neB s=true:=by
 have:=a3f h
 unfold neB
 simp only [Bool.not_eq_true',decide_eq_false_iff_not]
 rintro rfl
 simp [ByteArray.size] at this
theorem e0a (out:List ByteArray) (own:ByteArray) (ho:∀ s ∈ out,neB s=true):(out++[own]).filter neB=g0p (out,own):=by
 unfold g0p
 rw [List.filter_append,List.filter_eq_self.2 ho]
 by_cases h:own=⟨#[]⟩
 ·subst h;simp [neB]
 ·simp [h,neB]
theorem b4v (k n w:Int):∀ (rs:List Rd) (s:List ByteArray×ByteArray),(∀ r ∈ rs,atW k n w r=false)→rs.foldl (b4s k n w) s=s
 |[],s,_=>rfl
 |r::rs,s,h=>by
  rw [List.foldl_cons,show b4s k n w s r=s by simp [b4s,h r (by simp)]]
  exact b4v k n w rs s fun x hx=>h x (by simp [hx])
theorem g7d {k n w:Int} {a b:Rd} (ha:atW k n w a=true) (hb:atW k n w b=true):nP a=nP b:=by
 simp only [atW,Bool.and_eq_true,decide_eq_true_eq] at ha hb
 unfold nP
 rw [ha.1.1,ha.1.2,ha.2,hb.1.1,hb.1.2,hb.2]
theorem d9x (k n w:Int):∀ (rs:List Rd) (out:List ByteArray) (own:ByteArray),(∀ r ∈ rs,b5s r)→rs.Pairwise e6z→(∀ s ∈ out,neB s=true) →
  ((rs.filter (atW k n w)).foldl a9y (out++[own])).filter neB=g0p (rs.foldl (b4s k n w) (out,own))
 |[],out,own,_,_,ho=>e0a out own ho
 |r::rs,out,own,hg,hs,ho=>by
  have hg':∀ r ∈ rs,b5s r:=fun x hx=>hg x (by simp [hx])
  obtain ⟨hs1,hs2⟩:=List.pairwise_cons.1 hs
  cases hat:atW k n w r with
  |false =>
   rw [List.filter_cons_of_neg (by simp [hat]),List.foldl_cons,show b4s k n w (out,own) r=(out,own) by simp [b4s,hat]]
   exact d9x k n w rs out own hg' hs2 ho
  |true =>
   rw [List.filter_cons_of_pos hat,List.foldl_cons,List.foldl_cons]
   have hlast:(out++[own]).getD ((out++[own]).length - 1) ⟨#[]⟩=own:=by simp
   have htake:(out++[own]).take ((out++[own]).length - 1)=out:=by simp
   have none (hk:¬ (r.kind.toNat:Int)=2):∀ x ∈ rs,atW k n w x=false:=fun x hx=>by
    cases hx':atW k n w x with
    |false=>rfl
    |true =>
     exfalso
     have e:=g7d hat hx'
     rcases hs1 x hx with h|h
     ·omega
     ·exact hk h.2
   have nof (hk:¬ (r.kind.toNat:Int)=2):rs.filter (atW k n w)=[]:=List.filter_eq_nil_iff.2 fun x hx=>by rw [none hk x hx];simp
   rcases hg r (by simp) with ⟨hk,hw⟩|⟨hk,hw⟩|⟨hk,hw⟩
   ·have e1:a9y (out++[own]) r=out:=by unfold a9y b3v;rw [htake,hk];simp
    have e2:b4s k n w (out,own) r=(out,⟨#[]⟩):=by simp [b4s,hat,hk,hw]
    rw [e1,e2,nof (by omega),b4v k n w rs _ (none (by omega))]
    rw [List.foldl_nil,List.filter_eq_self.2 ho]
    simp [g0p]
   ·have e1:a9y (out++[own]) r=(out++[r.word])++[own]:=by unfold a9y b3v;rw [htake,hlast,hk];simp
    have e2:b4s k n w (out,own) r=(out++[r.word],own):=by simp [b4s,hat,hk]
    rw [e1,e2]
    refine d9x k n w rs _ own hg' hs2 fun s hsm=>?_
    rcases List.mem_append.1 hsm with h|h
    ·exact ho s h
    ·simp at h;subst h;exact e8o hw
   ·have e1:a9y (out++[own]) r=out++[r.word]:=by unfold a9y b3v;rw [htake,hlast,hk];simp
    have e2:b4s k n w (out,own) r=(out,r.word):=by simp [b4s,hat,hk]
    rw [e1,e2,nof (by omega),b4v k n w rs _ (none (by omega)),List.foldl_nil]
    exact e0a out r.word ho
theorem f0t {t:List Ch} {rs:List Rd} (h:OKR t rs) (k n:Int) (l:List ByteArray) (w:Nat):(b1l rs k n l w).filter neB=g7i rs k n l w :=
 d9x k n w rs [] _ (fun r hr=>(h.i r hr).2) h.s (by simp)
theorem f7d {t:List Ch} {rs:List Rd} (h:OKR t rs) (k n:Int) (l:List ByteArray):e5t rs k n l=e7y rs k n l:=by
 unfold e5t e7y
 rw [List.filter_flatMap]
 congr 1
 funext w
 exact f0t h k n l w
def g3i (ps:List Rd) (r:Rd):List Rd:=match ps.getLast? with
 |some p=>if a6z p r then ps else ps++[r]
 |none=>[r]
def c0b (rs:List Rd):List Rd:=rs.foldl g3i []
theorem b7m (rs:List Rd) (r:Rd):c0b (rs++[r])=g3i (c0b rs) r:=by simp [c0b]
structure RepOK (rs ps:List Rd):Prop where
 mem:∀ p ∈ ps,p ∈ rs
 all:∀ r ∈ rs,∃ p ∈ ps,nP p=nP r
 lt:ps.Pairwise (fun a b=>nP a < nP b)
 top:∀ p r,ps.getLast? = some p→r ∈ rs→nP r≤nP p
theorem d1d {t:List Ch} {rs:List Rd} (h:OKR t rs):∀ k,k≤rs.length→RepOK (rs.take k) (c0b (rs.take k))
 |0,_=>by
  rw [List.take_zero]
  exact ⟨by simp [c0b],by simp,by simp [c0b],by simp [c0b]⟩
 |k+1,hk=>by
  have ih:=d1d h k (by omega)
  have hkl:k < rs.length:=by omega
  have e:rs.take (k+1)=rs.take k++[rs[k]]:=by rw [List.take_add_one,List.getElem?_eq_getElem hkl];rfl
  have hle:∀ r ∈ rs.take k,nP r≤nP rs[k]:=fun r hr=>by
   obtain ⟨i,hi,rfl⟩:=List.mem_iff_getElem.1 hr
   simp at hi
   have:=List.pairwise_iff_getElem.1 h.s i k (by omega) hkl (by omega)
   rw [List.getElem_take]
   rcases this with h|h<;>omega
  rw [e,b7m]
  unfold g3i
  have hI:=(h.i _ (List.getElem_mem hkl)).1
  cases hp:(c0b (rs.take k)).getLast? with
  |none =>
   have h0:c0b (rs.take k)=[]:=List.getLast?_eq_none_iff.1 hp
   have hall:∀ r,r ∉ rs.take k:=fun r hr=>by obtain ⟨p,h1,_⟩:=ih.all r hr;rw [h0] at h1;cases h1
   simp only
   refine ⟨fun q hq=>by simp at hq;subst hq;exact List.mem_append_right _ (List.mem_singleton.2 rfl),fun r hr=>?_,by simp,fun p r hp hr=>?_⟩
   ·rcases List.mem_append.1 hr with hr|hr
    ·exact absurd hr (hall r)
    ·simp at hr;subst hr;exact ⟨_,by simp,rfl⟩
   ·simp at hp;subst hp
    rcases List.mem_append.1 hr with hr|hr
    ·exact absurd hr (hall r)
    ·simp at hr;subst hr;exact Int.le_refl _
  |some p =>
   have hpm:p ∈ c0b (rs.take k):=List.mem_of_getLast? hp
   have hpi:=(h.i p (List.mem_of_mem_take (ih.mem p hpm))).1
   have hpk:=hle p (ih.mem p hpm)
   simp only
   split
   ·rename_i hs
    have hn:=(b2s hpi hI).1 hs
    refine ⟨fun q hq=>List.mem_append_left _ (ih.mem q hq),fun r hr=>?_,ih.lt,fun q r hq hr=>?_⟩
    ·rcases List.mem_append.1 hr with hr|hr
     ·exact ih.all r hr
     ·simp at hr;subst hr;exact ⟨p,hpm,hn⟩
    ·rw [hp] at hq;cases hq
     rcases List.mem_append.1 hr with hr|hr
     ·exact ih.top p r hp hr
     ·simp at hr;subst hr;omega
   ·rename_i hs
    have hn:¬ nP p=nP rs[k]:=fun e=>hs ((b2s hpi hI).2 e)
    refine ⟨fun q hq=>?_,fun r hr=>?_,List.pairwise_append.2 ⟨ih.lt,by simp,fun a ha b hb=>?_⟩,fun q r hq hr=>?_⟩
    ·rcases List.mem_append.1 hq with hq|hq
     ·exact List.mem_append_left _ (ih.mem q hq)
     ·exact List.mem_append_right _ hq
    ·rcases List.mem_append.1 hr with hr|hr
     ·obtain ⟨q,h1,h2⟩:=ih.all r hr;exact ⟨q,List.mem_append_left _ h1,h2⟩
     ·simp at hr;subst hr;exact ⟨_,by simp,rfl⟩
    ·simp at hb;subst hb
     have:=ih.top p a hp (ih.mem a ha)
     omega
    ·simp at hq;subst hq
     rcases List.mem_append.1 hr with hr|hr
     ·exact hle r hr
     ·simp at hr;subst hr;exact Int.le_refl _
end Go.Proofs.YtmjhfccbbfpppaaGreatDoor
