import Derived.Test.YtmjhfccbbfpppaaGreatDoorQB16
import Derived.Test.YtmjhfccbbfpppaaGreatDoorQB17
import Derived.Test.YtmjhfccbbfpppaaGreatDoorQB22
import Derived.Test.YtmjhfccbbfpppaaGreatDoorQB28
import Derived.Test.YtmjhfccbbfpppaaGreatDoorQB29
import Derived.Test.YtmjhfccbbfpppaaGreatDoorQB42
import Derived.Test.YtmjhfccbbfpppaaGreatDoorQB50
namespace Go.Proofs.YtmjhfccbbfpppaaGreatDoor
open Go Pm
set_option linter.unusedSimpArgs false
set_option linter.unusedVariables false
set_option maxRecDepth 100000
def e5v (d:Dc):V:=.agg (dcC d)
theorem f8w (d:Dc):e5v d=.agg (dcC d):=rfl
def a7n (l:List Dc):List (Value×V):=l.map fun d=>(.int .i64 d.num,e5v d)
def D0:Dc:=⟨0,0,⟨#[]⟩,0,0,0,⟨#[]⟩,0,0⟩
def c6o (l:List Dc) (n:Int):Option Dc:=l.find? fun d=>decide (d.num=n)
theorem a6z:a7n []=[]:=rfl
theorem e7z (l:List Dc):(a7n l).length=l.length:=by simp [a7n]
theorem e3g (l:List Dc) (n:Int):lkM (a7n l) (.int .i64 n)=(c6o l n).map fun d=>.agg (dcC d):=by
 induction l with
 |nil=>rfl
 |cons x r ih =>
  simp only [a7n,List.map_cons,lkM,b3e,c6o,List.find?_cons]
  by_cases h:x.num=n
  ·simp [h,e5v]
  ·simp only [h,decide_false,Bool.false_eq_true,if_false]
   exact ih
theorem f1y (l:List Dc) (n:Int):(lkM (a7n l) (.int .i64 n)).getD (.agg (dcC D0))=.agg (dcC ((c6o l n).getD D0)):=by
 rw [e3g]
 cases c6o l n<;>rfl
theorem f0m (l:List Dc) (n:Int):(lkM (a7n l) (.int .i64 n)).isSome=(c6o l n).isSome:=by
 rw [e3g]
 cases c6o l n<;>rfl
theorem f8d (l:List Dc) (d:Dc) (h:∀ e ∈ l,e.num≠d.num):upM (a7n l) (.int .i64 d.num) (.agg (dcC d))=a7n (l++[d]):=by
 induction l with
 |nil=>rfl
 |cons x r ih =>
  have hx:=h x (by simp)
  simp only [a7n,List.map_cons,upM,b3e,List.cons_append]
  simp only [hx,decide_false,Bool.false_eq_true,if_false,List.cons.injEq,true_and]
  exact ih fun e he=>h e (by simp [he])
def g1i (l:List Dc) (n:Int):List Dc:=l.eraseP fun d=>decide (d.num=n)
theorem e6t (l:List Dc) (n:Int):c9h (a7n l) (.int .i64 n)=a7n (g1i l n):=by
 induction l with
 |nil=>rfl
 |cons x r ih =>
  simp only [a7n,List.map_cons,c9h,b3e,g1i,List.eraseP_cons]
  by_cases h:x.num=n
  ·simp [h]
  ·simp only [h,decide_false,Bool.false_eq_true,if_false,List.map_cons,List.cons.injEq,true_and,cond_false]
   exact ih
theorem f6b (l:List Dc) (n:Int):(g1i l n).Sublist l:=List.eraseP_sublist
theorem f3v (l:List Dc):∀ p ∈ a7n l,exK p.2=true:=by
 intro p hp
 simp only [a7n,List.mem_map] at hp
 obtain ⟨d,_,rfl⟩:=hp
 rfl
theorem e9k (l:List Dc) (i:Nat) (p:Value×V) (h:(a7n l)[i]? = some p):∃ hi:i < l.length,p=(.int .i64 l[i].num,.agg (dcC l[i])):=by
 unfold a7n at h
 rw [List.getElem?_map,Option.map_eq_some_iff] at h
 obtain ⟨d,h1,rfl⟩:=h
 obtain ⟨hi,rfl⟩:=List.getElem?_eq_some_iff.1 h1
 exact ⟨hi,rfl⟩
def leD (a b:Dc):Bool:=decide (b.num≤a.num)
def a8z (l:List Dc):List Dc:=l.mergeSort leD
theorem b0r (l:List Dc):(a8z l).Perm l:=List.mergeSort_perm l leD
theorem b2c (l:List Dc):(a8z l).length=l.length:=(b0r l).length_eq
theorem mem_down {l:List Dc} {d:Dc}:d ∈ a8z l↔d ∈ l:=(b0r l).mem_iff
theorem c3z (l:List Dc):(a8z l).Pairwise fun a b=>leD a b=true :=
 List.pairwise_mergeSort (fun a b c h1 h2=>by simp only [leD,decide_eq_true_eq] at *;omega) (fun a b=>by simp only [leD,Bool.or_eq_true,decide_eq_true_eq];omega) l
def b2j (l:List Dc):List Int:=l.map Dc.num
theorem d1w {l:List Dc} (h:(b2j l).Nodup) {a b:Dc} (ha:a ∈ l) (hb:b ∈ l) (e:a.num=b.num):a=b:=by
 obtain ⟨i,hi,rfl⟩:=List.getElem_of_mem ha
 obtain ⟨j,hj,rfl⟩:=List.getElem_of_mem hb
 have e1:(b2j l)[i]'(by simpa [b2j] using hi)=(b2j l)[j]'(by simpa [b2j] using hj):=by simpa [b2j] using e
 have:=(List.getElem_inj h).1 e1
 subst this
 rfl
theorem b9q {l:List Dc} (h:(b2j l).Nodup):(b2j (a8z l)).Nodup:=((b0r l).map Dc.num).nodup_iff.2 h
theorem f4u {l r:List Dc} (h:(b2j l).Nodup) (hp:r.Perm l) (hs:r.Pairwise fun a b=>b.num≤a.num):r=a8z l:=by
 have hp2:r.Perm (a8z l):=hp.trans (b0r l).symm
 refine List.Perm.eq_of_pairwise (le:=fun a b=>b.num≤a.num) (fun a b ha hb h1 h2=>?_) hs ?_ hp2
 ·exact d1w h (hp.mem_iff.1 ha) (mem_down.1 hb) (by omega)
 ·exact (c3z l).imp fun h=>by simpa [leD] using h
def b4p (L:List Dc) (d:Dc):List Dc:=if (c6o L d.num).isSome=true∧d.kind=4 then g1i L d.of else L
def a9q (L:List Dc):List Dc→List Dc
 |[]=>L
 |d::r=>a9q (b4p L d) r
def a7a (l:List Dc):List Dc:=a9q (a8z l) (a8z l)
theorem e1u (L:List Dc) (d:Dc):(b4p L d).Sublist L:=by
 unfold b4p
 split
 ·exact f6b _ _
 ·exact List.Sublist.refl _
theorem b5s:∀ (r L:List Dc),(a9q L r).Sublist L
 |[],L=>List.Sublist.refl _
 |d::r,L=>(b5s r (b4p L d)).trans (e1u L d)
theorem e3v (L:List Dc):∀ (a b:List Dc),a9q L (a++b)=a9q (a9q L a) b:=by
 intro a
 induction a generalizing L with
 |nil=>intro b;rfl
 |cons d a ih=>intro b;exact ih (b4p L d) b
theorem d5v (L r:List Dc) (k:Nat) (hk:k < r.length):a9q L (r.take (k+1))=b4p (a9q L (r.take k)) r[k]:=by
 rw [List.take_add_one,List.getElem?_eq_getElem hk,Option.toList_some,e3v]
 rfl
theorem c6k {l:List Dc} {d:Dc} (h:d ∈ a7a l):d ∈ l:=mem_down.1 ((b5s _ _).mem h)
theorem c7d {l:List Dc} (h:(b2j l).Nodup):(b2j (a7a l)).Nodup:=((b5s _ _).map Dc.num).nodup (b9q h)
theorem d2o {t:List Ch} {x:Lx} (h:b1s t x=true):(b2j x.decs).Nodup∧∀ d ∈ x.decs,1≤d.num∧d.num≤999:=by
 unfold b1s at h
 simp only [Bool.and_eq_true] at h
 have h4:=h.2
 have go:∀ (l pre:List Dc),a2i (a6p t) pre l=true→(∀ d ∈ l,(1≤d.num∧d.num≤999)∧∀ e ∈ pre,e.num≠d.num)∧(b2j l).Nodup:=by
  intro l
  induction l with
  |nil=>intro pre _;exact ⟨by intro d hd;(cases hd),List.nodup_nil⟩
  |cons a r ih =>
   intro pre hp
   simp only [a2i,Bool.and_eq_true] at hp
   have h5:=hp.1
   unfold a6p c2h at h5
   simp only [Bool.and_eq_true,Bool.not_eq_true',List.any_eq_false,decide_eq_true_eq,inB] at h5
   obtain ⟨i1,i2⟩:=ih _ hp.2
   refine ⟨fun d hd=>?_,?_⟩
   ·rcases List.mem_cons.1 hd with rfl|hd
    ·exact ⟨by omega,fun e he=>h5.1 e he⟩
    ·exact ⟨(i1 d hd).1,fun e he=>(i1 d hd).2 e (by simp [he])⟩
   ·show (a.num::b2j r).Nodup
    rw [List.nodup_cons]
    refine ⟨fun hm=>?_,i2⟩
    simp only [b2j,List.mem_map] at hm
    obtain ⟨d,hd,e⟩:=hm
    exact (i1 d hd).2 a (by simp) e.symm
 obtain ⟨g1,g2⟩:=go _ _ h4
 exact ⟨g2,fun d hd=>(g1 d hd).1⟩
def e5u (a1 a2 a3 b1 b2 b3:Int):Int:=or3 (c2s a1 b1) (c2s a2 b2) (c2s a3 b3)
def e1d (a b:Dc):Int:=if a.kind≠b.kind then (a.kind.toNat:Int) - b.kind.toNat else if a.kind=2∧¬ (a.ch=b.ch∧a.ln=b.ln∧a.wd=b.wd) then e5u a.ch a.ln a.wd b.ch b.ln b.wd else a.num - b.num
structure WtD (d:Dc):Prop where
 num:1≤d.num∧d.num≤999
 pl:in9 d.ch∧in9 d.ln∧in9 d.wd
def kD (d:Dc):Int:=(d.kind.toNat:Int) * 10000000000000000+(if d.kind=2 then (d.ch * 10000+d.ln) * 10000+d.wd else 0) * 1000+d.num
theorem d9b {a b:UInt8} (h:a≠b):(a.toNat:Int)≠b.toNat:=fun e=>h (UInt8.toNat_inj.1 (by omega))
theorem f5z {a b:Dc} (ha:WtD a) (hb:WtD b):0 < e1d a b↔kD b < kD a:=by
 obtain ⟨⟨n1,n2⟩,⟨p1,p2⟩,⟨p3,p4⟩,⟨p5,p6⟩⟩:=ha
 obtain ⟨⟨m1,m2⟩,⟨q1,q2⟩,⟨q3,q4⟩,⟨q5,q6⟩⟩:=hb
 unfold e1d kD
 by_cases hk:a.kind=b.kind
 ·rw [if_neg (by simpa using hk)]
  by_cases h2:a.kind=2
  ·have hb2:b.kind=2:=hk ▸ h2
   rw [if_pos h2,if_pos hb2,hk]
   by_cases hp:a.ch=b.ch∧a.ln=b.ln∧a.wd=b.wd
   ·obtain ⟨e1,e2,e3⟩:=hp
    rw [if_neg (by simp [e1,e2,e3]),e1,e2,e3]
    omega
   ·rw [if_pos ⟨hb2,hp⟩]
    unfold e5u or3 c2s
    by_cases e1:a.ch=b.ch
    ·by_cases e2:a.ln=b.ln
     ·have e3:a.wd≠b.wd:=fun e=>hp ⟨e1,e2,e⟩
      rw [e1,e2]
      simp only [Int.lt_irrefl,if_false,ne_eq,not_true_eq_false]
      split
      ·omega
      ·split<;>omega
     ·rw [e1]
      simp only [Int.lt_irrefl,if_false,ne_eq,not_true_eq_false]
      by_cases l1:a.ln < b.ln
      ·simp only [if_pos l1]
       simp
       omega
      ·have l2:b.ln < a.ln:=by omega
       simp only [if_neg l1,if_pos l2]
       simp
       omega
    ·by_cases l1:a.ch < b.ch
     ·simp only [if_pos l1]
      simp
      omega
     ·have l2:b.ch < a.ch:=by omega
      simp only [if_neg l1,if_pos l2]
      simp
      omega
  ·have hb2:¬ b.kind=2:=hk ▸ h2
   rw [if_neg (fun h=>h2 h.1),if_neg h2,if_neg hb2,hk]
   omega
 ·rw [if_pos (by simpa using hk)]
  have hne:=d9b hk
  have r1:∀ d:Dc,in9 d.ch→in9 d.ln→in9 d.wd→0≤(if d.kind=2 then (d.ch * 10000+d.ln) * 10000+d.wd else 0)∧(if d.kind=2 then (d.ch * 10000+d.ln) * 10000+d.wd else 0) < 1000000000000:=by
   rintro d ⟨_,_⟩ ⟨_,_⟩ ⟨_,_⟩
   split<;>omega
  have ra:=r1 a ⟨p1,p2⟩ ⟨p3,p4⟩ ⟨p5,p6⟩
  have rb:=r1 b ⟨q1,q2⟩ ⟨q3,q4⟩ ⟨q5,q6⟩
  generalize (if a.kind=2 then (a.ch * 10000+a.ln) * 10000+a.wd else 0)=u at ra ⊢
  generalize (if b.kind=2 then (b.ch * 10000+b.ln) * 10000+b.wd else 0)=v at rb ⊢
  omega
theorem g3e {a b:Dc} (ha:WtD a) (hb:WtD b) (h:kD a=kD b):a.num=b.num:=by
 obtain ⟨⟨n1,n2⟩,_⟩:=ha
 obtain ⟨⟨m1,m2⟩,_⟩:=hb
 unfold kD at h
 generalize (if a.kind=2 then (a.ch * 10000+a.ln) * 10000+a.wd else 0)=u at h
 generalize (if b.kind=2 then (b.ch * 10000+b.ln) * 10000+b.wd else 0)=v at h
 omega
def IsBest (C:Dc→Prop) (b:Dc):Prop:=((∀ d,¬ C d)∧b=D0)∨(C b∧∀ d,C d→kD d≤kD b)
theorem IsBest.num {C:Dc→Prop} {b:Dc} (h:IsBest C b) (hw:∀ d,C d→WtD d):b.num=0↔∀ d,¬ C d:=by
 rcases h with ⟨h1,rfl⟩|⟨h1,h2⟩
 ·exact ⟨fun _=>h1,fun _=>rfl⟩
 ·have:=(hw b h1).num
  exact ⟨fun e=>by omega,fun e=>(e b h1).elim⟩
theorem IsBest.step {C:Dc→Prop} {b d:Dc} (h:IsBest C b) (hw:∀ d,C d→WtD d) (hd:WtD d):IsBest (fun e=>C e∨e=d) (if b.num=0∨0 < e1d d b then d else b):=by
 rcases h with ⟨h1,rfl⟩|⟨h1,h2⟩
 ·rw [if_pos (.inl rfl)]
  refine .inr ⟨.inr rfl,?_⟩
  rintro e (he|rfl)
  ·exact (h1 e he).elim
  ·exact Int.le_refl _
 ·have hb:=(hw b h1).num
  have hf:=f5z hd (hw b h1)
  by_cases c:0 < e1d d b
  ·rw [if_pos (.inr c)]
   have:=hf.1 c
   refine .inr ⟨.inr rfl,?_⟩
   rintro e (he|rfl)
   ·have:=h2 e he;omega
   ·exact Int.le_refl _
  ·rw [if_neg (by rintro (e|e);omega;exact c e)]
   have:¬ kD b < kD d:=fun e=>c (hf.2 e)
   refine .inr ⟨.inl h1,?_⟩
   rintro e (he|rfl)
   ·exact h2 e he
   ·omega
theorem IsBest.congr {C C':Dc→Prop} {b:Dc} (h:IsBest C b) (e:∀ d,C d↔C' d):IsBest C' b:=by
 rcases h with ⟨h1,rfl⟩|⟨h1,h2⟩
 ·exact .inl ⟨fun d hd=>h1 d ((e d).2 hd),rfl⟩
 ·exact .inr ⟨(e b).1 h1,fun d hd=>h2 d ((e d).2 hd)⟩
theorem IsBest.uniq {C:Dc→Prop} {b b':Dc} (h:IsBest C b) (h':IsBest C b') (hw:∀ d,C d→WtD d) (hi:∀ a b,C a→C b→a.num=b.num→a=b):b=b':=by
 rcases h with ⟨h1,rfl⟩|⟨h1,h2⟩
 ·rcases h' with ⟨_,rfl⟩|⟨g1,_⟩
  ·rfl
  ·exact (h1 _ g1).elim
 ·rcases h' with ⟨g1,rfl⟩|⟨g1,g2⟩
  ·exact (g1 _ h1).elim
  ·have a1:=h2 _ g1
   have a2:=g2 _ h1
   exact hi _ _ h1 g1 (g3e (hw _ h1) (hw _ g1) (by omega))
def c1e (b:Dc):List Dc→Dc
 |[]=>b
 |d::r=>c1e (if b.num=0∨0 < e1d d b then d else b) r
def e2m (l:List Dc):Dc:=c1e D0 l
theorem b6u:∀ (l:List Dc) (C:Dc→Prop) (b:Dc),IsBest C b→(∀ d,C d→WtD d)→(∀ d ∈ l,WtD d)→IsBest (fun e=>C e∨e ∈ l) (c1e b l)
 |[],C,b,h,_,_=>h.congr (by simp)
 |d::r,C,b,h,hw,hl=>by
  have h1:=h.step hw (hl d (by simp))
  have h2:=b6u r _ _ h1 (by rintro e (he|rfl);exact hw e he;exact hl e (by simp)) (fun e he=>hl e (by simp [he]))
  exact h2.congr (fun e=>by simp [or_assoc])
theorem d0r {l:List Dc} (hl:∀ d ∈ l,WtD d):IsBest (fun e=>e ∈ l) (e2m l):=by
 have:=b6u l (fun _=>False) D0 (.inl ⟨fun _ h=>h,rfl⟩) (fun _ h=>h.elim) hl
 exact this.congr (by simp)
def a9a (a1 a2 a3:Int) (word:ByteArray) (d:Dc):Bool :=
 if d.kind=1 then decide (d.form=word) else if d.kind=2 then decide (d.form=word) && decide (e5u d.ch d.ln d.wd a1 a2 a3≤0) else if d.kind=3 then decide (d.ch=a1∧d.ln=a2∧d.wd=a3) else false
def d6l (s c:ByteArray):Bool:=decide (c.size≤s.size) && decide (s.extract (s.size - c.size) s.size=c)
def b4w (s c:ByteArray):ByteArray:=s.extract 0 (s.size - c.size)
def a8v (r:Rl) (s:ByteArray):Bool:=d6l s r.cut && !decide (((b4w s r.cut).size:Int) < r.least) && !decide ((12:Int) < (b4w s r.cut).size+r.put.size)
def b5w (l:List Rl) (s:ByteArray):Option ByteArray:=(l.find? fun r=>a8v r s).map fun r=>b4w s r.cut++r.put
def b0i (l:List Rl):Nat→ByteArray→List ByteArray
 |0,_=>[]
 |n+1,s=>match b5w l s with
  |some u=>u::b0i l n u
  |none=>[]
def a6x (l:List Rl) (s:ByteArray):List ByteArray:=s::b0i l 4 s
theorem b9p (l:List Rl):∀ n s,(b0i l n s).length≤n
 |0,_=>by simp [b0i]
 |n+1,s=>by
  unfold b0i
  split
  ·have:=b9p l n;simp only [List.length_cons];rename_i u _;have:=this u;omega
  ·simp
def f7u (l:List Rl) (s:ByteArray):ByteArray:=((a6x l s)[(a6x l s).length - 1]?).getD ⟨#[]⟩
theorem b9a {l:List Rl} {s u:ByteArray} (h:b5w l s=some u):u.size≤12:=by
 unfold b5w at h
 rw [Option.map_eq_some_iff] at h
 obtain ⟨r,h1,rfl⟩:=h
 have:=List.find?_some h1
 unfold a8v at this
 simp only [Bool.and_eq_true,Bool.not_eq_true',decide_eq_false_iff_not] at this
 rw [ByteArray.size_append]
 omega
open Go Pm
set_option maxHeartbeats 4000000
theorem e5y (a1 a2 a3 b1 b2 b3:Int):a0l Tryz.prog 280 [.lst 0 1 [[i64 a1],[i64 a2],[i64 a3]],.lst 0 1 [[i64 b1],[i64 b2],[i64 b3]]] (fun _=>i64 (e5u a1 a2 a3 b1 b2 b3)):=by
 have p1:=a4b a1 b1
 have p2:=a4b a2 b2
 have p3:=a4b a3 b3
 unfold e5u
 generalize c2s a1 b1=x1 at p1 ⊢
 generalize c2s a2 b2=x2 at p2 ⊢
 generalize c2s a3 b3=x3 at p3 ⊢
 refine a0b (ow:=fun _=>false) Tryz.func280 Tryz.ntmps280 rfl rfl fun G hG hOw hNm hB=>?_;simp only [go_sem,hG,hOw]
 (repeat' with_reducible first|apply And.intro|refine exP ?_ ?_|intro);all_goals try omega
 refine a0k (fun k:Nat=>St.of [(0,.lst 0 1 [[i64 a1],[i64 a2],[i64 a3]]),(1,.lst 0 1 [[i64 b1],[i64 b2],[i64 b3]]),(9,.lst 0 1 [[i64 a1],[i64 a2],[i64 a3]]),(10,i64 3),(11,i64 k)] []) (fun k=>k≤3∧(0 < k→x1=0)∧(1 < k→x2=0)∧(2 < k→x3=0)) (fun k=>3 - k) 0 (by simp) (a0y (by (simp only [go_sem])<;>simp) hNm) ?_
 rintro k ⟨hk,h1,h2,h3⟩
 have c0:((0:Nat):Int)=0:=rfl
 have c1:((1:Nat):Int)=1:=rfl
 have c2:((2:Nat):Int)=2:=rfl
 have c3:((3:Nat):Int)=3:=rfl
 have i1:Int.toNat 1=1:=rfl
 have i2:Int.toNat 2=2:=rfl
 have hk3:k=0∨k=1∨k=2∨k=3:=by omega
 rcases hk3 with rfl|rfl|rfl|rfl
 ·refine a0d _ _ _ ?_
  simp (maxSteps:=2000000) only [go_sem,hG,hOw,c0,c1,c2,c3,i1,i2,List.getElem_cons_zero,List.getElem_cons_succ]
  (repeat' with_reducible first|apply And.intro|refine exP ?_ ?_|intro);all_goals try omega
  refine a0a p1 ?_
  simp only [go_sem,hG,hOw]
  (repeat' with_reducible first|apply And.intro|refine exP ?_ ?_|intro);all_goals try omega
  ·rename_i h;simp [or3,h]
  ·rename_i h
   exact ⟨1,⟨by omega,fun _=>by omega,fun h=>by omega,fun h=>by omega⟩,by omega,a0y (by (simp only [go_sem])<;>simp) hNm⟩
 ·have ha:=h1 (by omega)
  refine a0d _ _ _ ?_
  simp (maxSteps:=2000000) only [go_sem,hG,hOw,c0,c1,c2,c3,i1,i2,List.getElem_cons_zero,List.getElem_cons_succ]
  (repeat' with_reducible first|apply And.intro|refine exP ?_ ?_|intro);all_goals try omega
  refine a0a p2 ?_
  simp only [go_sem,hG,hOw]
  (repeat' with_reducible first|apply And.intro|refine exP ?_ ?_|intro);all_goals try omega
  ·rename_i h;simp [or3,ha,h]
  ·rename_i h
   exact ⟨2,⟨by omega,fun _=>ha,fun _=>by omega,fun h=>by omega⟩,by omega,a0y (by (simp only [go_sem])<;>simp) hNm⟩
 ·have ha:=h1 (by omega)
  have hb:=h2 (by omega)
  refine a0d _ _ _ ?_
  simp (maxSteps:=2000000) only [go_sem,hG,hOw,c0,c1,c2,c3,i1,i2,List.getElem_cons_zero,List.getElem_cons_succ]
  (repeat' with_reducible first|apply And.intro|refine exP ?_ ?_|intro);all_goals try omega
  refine a0a p3 ?_
  simp only [go_sem,hG,hOw]
  (repeat' with_reducible first|apply And.intro|refine exP ?_ ?_|intro);all_goals try omega
  ·rename_i h;simp [or3,ha,hb]
  ·rename_i h
   exact ⟨3,⟨by omega,fun _=>ha,fun _=>hb,fun _=>by omega⟩,by omega,a0y (by (simp only [go_sem])<;>simp) hNm⟩
 ·have ha:=h1 (by omega)
  have hb:=h2 (by omega)
  have hc:=h3 (by omega)
  refine a0d _ _ _ ?_
  simp (maxSteps:=2000000) only [go_sem,hG,hOw,c0,c1,c2,c3,i1,i2,List.getElem_cons_zero,List.getElem_cons_succ]
  (repeat' with_reducible first|apply And.intro|refine exP ?_ ?_|intro);all_goals try omega
  all_goals simp [or3,ha,hb,hc]
theorem b8w (a1 a2 a3 b1 b2 b3:Int):a0l Tryz.prog 260 [.agg [i64 a1,i64 a2,i64 a3],.agg [i64 b1,i64 b2,i64 b3]] (fun _=>i64 (e5u a1 a2 a3 b1 b2 b3)):=by
 have hC:=e5y a1 a2 a3 b1 b2 b3
 generalize e5u a1 a2 a3 b1 b2 b3=r at hC ⊢
 refine a0b (ow:=fun _=>false) Tryz.func260 Tryz.ntmps260 rfl rfl fun G hG hOw hNm hB=>?_;simp only [go_sem,hG,hOw]
 refine a0s mixed (by kernel_rfl) ?_
 simp only [go_sem,hG,hOw]
 refine e9i (fun i=>[5,6].contains i) ?_
 refine a0s mixed (by kernel_rfl) ?_
 simp only [go_sem,hG,hOw]
 try (repeat' with_reducible first|apply And.intro|refine exP ?_ ?_|intro);all_goals try omega
 refine ⟨_,a0f hC,?_⟩
 simp only [go_sem,hG,hOw]
theorem b3c (a b:Dc) (ha:WtD a) (hb:WtD b):a0l Tryz.prog 225 [.agg (dcC a),.agg (dcC b)] (fun _=>i64 (e1d a b)):=by
 obtain ⟨n1,n2⟩:=ha.num
 obtain ⟨m1,m2⟩:=hb.num
 have hO:=b8w a.ch a.ln a.wd b.ch b.ln b.wd
 have ka:(a.kind.toNat:Int) < 256:=by have:=a.kind.toNat_lt;omega
 have kb:(b.kind.toNat:Int) < 256:=by have:=b.kind.toNat_lt;omega
 have e2:∀ d:Dc,((d.kind.toNat:Int)=2)↔d.kind=2:=fun d=>⟨fun h=>UInt8.toNat_inj.1 (by show _=2;omega),fun h=>by rw [h];rfl⟩
 unfold e1d
 by_cases hk:a.kind=b.kind
 ·have hk2:((a.kind.toNat:Int)=b.kind.toNat):=by rw [hk]
  rw [if_neg (by simpa using hk)]
  by_cases h2:a.kind=2
  ·have h3:=(e2 a).2 h2
   by_cases hp:a.ch=b.ch∧a.ln=b.ln∧a.wd=b.wd
   ·rw [if_neg (fun h=>h.2 hp)]
    refine a0b (ow:=fun _=>false) Tryz.func225 Tryz.ntmps225 rfl rfl fun G hG hOw hNm hB=>?_;simp only [go_sem,hG,hOw]
    try (repeat' with_reducible first|apply And.intro|refine exP ?_ ?_|intro);all_goals try omega
    rename_i h
    simp [hp.1,hp.2.1,hp.2.2] at h
   ·rw [if_pos ⟨h2,hp⟩]
    refine a0b (ow:=fun _=>false) Tryz.func225 Tryz.ntmps225 rfl rfl fun G hG hOw hNm hB=>?_;simp only [go_sem,hG,hOw]
    try (repeat' with_reducible first|apply And.intro|refine exP ?_ ?_|intro);all_goals try omega
    ·refine a0a hO ?_
     simp only [go_sem,hG,hOw]
    ·rename_i h
     refine absurd ?_ hp
     simpa using h
  ·have h3:¬ (a.kind.toNat:Int)=2:=fun h=>h2 ((e2 a).1 h)
   rw [if_neg (fun h=>h2 h.1)]
   refine a0b (ow:=fun _=>false) Tryz.func225 Tryz.ntmps225 rfl rfl fun G hG hOw hNm hB=>?_;simp only [go_sem,hG,hOw]
   try (repeat' with_reducible first|apply And.intro|refine exP ?_ ?_|intro);all_goals try omega
 ·have hk2:=d9b hk
  rw [if_pos (by simpa using hk)]
  refine a0b (ow:=fun _=>false) Tryz.func225 Tryz.ntmps225 rfl rfl fun G hG hOw hNm hB=>?_;simp only [go_sem,hG,hOw]
  try (repeat' with_reducible first|apply And.intro|refine exP ?_ ?_|intro);all_goals try omega
theorem e3d (s c:ByteArray) (hs:s.size≤100000):a0l Tryz.prog 302 [str s,str c] (fun _=>bl (d6l s c)):=by
 unfold d6l
 by_cases h:c.size≤s.size
 ·have hI:(c.size:Int)≤s.size:=by omega
  have e1:((s.size:Int) - c.size).toNat=s.size - c.size:=by omega
  rw [decide_eq_true h,Bool.true_and]
  refine a0b (ow:=fun _=>false) Tryz.func302 Tryz.ntmps302 rfl rfl fun G hG hOw hNm hB=>?_;simp only [go_sem,hG,hOw]
  (repeat' with_reducible first|apply And.intro|refine exP ?_ ?_|intro);all_goals try omega
  rw [e1]
 ·have hI:¬ (c.size:Int)≤s.size:=by omega
  rw [decide_eq_false h,Bool.false_and]
  refine a0b (ow:=fun _=>false) Tryz.func302 Tryz.ntmps302 rfl rfl fun G hG hOw hNm hB=>?_;simp only [go_sem,hG,hOw]
  (repeat' with_reducible first|apply And.intro|refine exP ?_ ?_|intro);all_goals try omega
theorem d4x (s c:ByteArray) (hs:s.size≤100000):a0l Tryz.prog 298 [str s,str c] (fun _=>.tup [str (if d6l s c then b4w s c else s),bl (d6l s c)]):=by
 have hH:=e3d s c hs
 cases h:d6l s c with
 |false =>
  rw [h] at hH
  refine a0b (ow:=fun _=>false) Tryz.func298 Tryz.ntmps298 rfl rfl fun G hG hOw hNm hB=>?_;simp only [go_sem,hG,hOw]
  refine a0a hH ?_
  simp only [go_sem,hG,hOw]
  try (repeat' with_reducible first|apply And.intro|refine exP ?_ ?_|intro);all_goals try omega
 |true =>
  rw [h] at hH
  have hc:c.size≤s.size:=by
   unfold d6l at h
   rw [Bool.and_eq_true,decide_eq_true_eq] at h
   exact h.1
  have e1:((s.size:Int) - c.size).toNat=s.size - c.size:=by omega
  unfold b4w
  refine a0b (ow:=fun _=>false) Tryz.func298 Tryz.ntmps298 rfl rfl fun G hG hOw hNm hB=>?_;simp only [go_sem,hG,hOw]
  refine a0a hH ?_
  simp only [go_sem,hG,hOw]
  try (repeat' with_reducible first|apply And.intro|refine exP ?_ ?_|intro);all_goals try omega
  rw [e1]
  exact Sub.refl _
theorem e1w (s c:ByteArray) (hs:s.size≤100000):a0l Tryz.prog 282 [str s,str c] (fun _=>.tup [str (if d6l s c then b4w s c else s),bl (d6l s c)]):=by
 have h0:=d4x s c hs
 generalize (if d6l s c=true then b4w s c else s)=r at h0 ⊢
 generalize d6l s c=b at h0 ⊢
 refine a0b (ow:=fun _=>false) Tryz.func282 Tryz.ntmps282 rfl rfl fun G hG hOw hNm hB=>?_;simp only [go_sem,hG,hOw]
 refine a0a h0 ?_
 simp only [go_sem,hG,hOw]
open Go Pm Go.RowKit Go.Sort
structure NDc where
 d:Dc
 h:1≤d.num∧d.num≤999
def nD0:NDc:=⟨⟨1,0,⟨#[]⟩,0,0,0,⟨#[]⟩,0,0⟩,by decide⟩
instance:Inhabited NDc:=⟨nD0⟩
def dvC (d:Dc):List Value:=[.int .i64 d.num,.int .u8 d.kind.toNat,.string d.form,.int .i64 d.ch,.int .i64 d.ln,.int .i64 d.wd,.string d.stem,.int .u8 d.mark.toNat,.int .i64 d.of]
theorem f9w (d:Dc):dcC d=(dvC d).map .v:=rfl
def c2v (x:NDc):List Value:=dvC x.d
def cfD (a b:NDc):Int:=b.d.num - a.d.num
theorem ltD (a b:NDc):ltOf cfD a b=decide (b.d.num < a.d.num):=by
 unfold ltOf cfD
 congr 1
 rw [eq_iff_iff]
 omega
theorem g9b:SWO (ltOf cfD):=by
 refine ⟨fun x=>?_,fun x y z h1 h2=>?_,fun x y z h1 h2=>?_⟩
 ·rw [ltD];simp
 ·rw [ltD] at *;simp at *;omega
 ·rw [ltD] at *;simp at *;omega
theorem c9a (x y:NDc) (W:World):Calls Tryz.prog 258 #[.agg (c2v x).toArray,.agg (c2v y).toArray] W fun e w'=>e=.returned (.int .i64 (cfD x y))∧∃ q os',w'=grow (W.drewN q) os':=by
 obtain ⟨x,hx⟩:=x
 obtain ⟨y,hy⟩:=y
 have e:IntKind.i64.wrap (y.num - x.num)=y.num - x.num:=a5n (by rw [b0g];omega)
 obtain ⟨n1,k1,f1,c1,l1,w1,s1,m1,o1⟩:=x
 obtain ⟨n2,k2,f2,c2,l2,w2,s2,m2,o2⟩:=y
 simp only at e
 unfold c2v dvC cfD
 simp only
 go_enter Tryz.func258,Tryz.ntmps258
 go_wp2
 go_ret
 exact ⟨rfl,0,_,by rw [alloc_eq_grow,alloc_eq_grow,grow_grow];rfl⟩
theorem g8t (blk off size:Nat) (w:World):CmpLays Tryz.prog 258 #[] c2v 9 cfD blk off size w :=
 fun _ _ _ _ x y=>by simpa using c9a x y _
theorem f1r {w:World} {b:Nat} {ys:Array Value} {t:TypeId} {F:Array Value} (n:Nat) (h:w.heap[b]? = some (.cells ys t (0,0))) :
  (putRow _root_.id (Go.Sort.ahead w n) b 0 F).heap[b]? = some (.cells (Go.Sort.putCells _root_.id 0 F ys) t (0,0))∧∀ k,k≠b→(putRow _root_.id (Go.Sort.ahead w n) b 0 F).heap[k]? = w.heap[k]?:=by
 unfold putRow mapBlock Go.Sort.ahead
 refine ⟨?_,fun k hk=>?_⟩
 ·simp only [Array.getElem?_modify,if_true,h,Option.map_some,onCells]
 ·simp only [Array.getElem?_modify]
  rw [if_neg (fun e=>hk e.symm)]
theorem c3y (F ys:Array Value) (j:Nat) (hj:j < F.size) (hy:j < ys.size):(Go.Sort.putCells _root_.id 0 F ys)[j]? = some F[j]!:=by
 unfold Go.Sort.putCells
 rw [Array.getElem?_mapIdx,Array.getElem?_eq_getElem hy,Option.map_some,if_pos ⟨Nat.zero_le _,by omega⟩]
 simp
theorem c2a (F ys:Array Value):(Go.Sort.putCells _root_.id 0 F ys).size=ys.size:=by simp [Go.Sort.putCells]
theorem c2i (d:Array NDc) (i j:Nat) (hi:i < d.size) (hj:j < 9):(flatK c2v 9 d)[i * 9+j]! = (dvC d[i].d)[j]!:=by
 rw [get_flatK c2v 9 d (i * 9+j) (by omega),show (i * 9+j) / 9=i by omega,show (i * 9+j) % 9=j by omega,getElem!_pos d i hi]
 rfl
def ndL (l:List Dc) (h:∀ d ∈ l,1≤d.num∧d.num≤999):Array NDc:=(l.pmap NDc.mk h).toArray
theorem g2j (l:List Dc) (h:∀ d ∈ l,1≤d.num∧d.num≤999):(ndL l h).toList.map NDc.d=l:=by
 unfold ndL
 rw [List.map_pmap]
 simp
theorem e7a (l:List Dc) (h:∀ d ∈ l,1≤d.num∧d.num≤999):(ndL l h).size=l.length:=by simp [ndL]
theorem e5f {l:List Dc} (h:∀ d ∈ l,1≤d.num∧d.num≤999) (hn:(b2j l).Nodup) {d':Array NDc} (hp:PermIn 0 (ndL l h).size (ndL l h) d') (hs:SortedIn (ltOf cfD) 0 (ndL l h).size d'):d'.toList.map NDc.d=a8z l:=by
 obtain ⟨h1,_,h3⟩:=hp
 rw [Array.extract_size,← h1,Array.extract_size] at h3
 refine f4u hn ?_ ?_
 ·have:=h3.map NDc.d
  rw [g2j] at this
  exact this
 ·rw [List.pairwise_map,List.pairwise_iff_getElem]
  intro i j hi hj hij
  have hi':i < d'.size:=by simpa using hi
  have hj':j < d'.size:=by simpa using hj
  have:=hs i j (Nat.zero_le _) hij (by rw [← h1];exact hj')
  rw [ltD,getElem!_pos d' i hi',getElem!_pos d' j hj',decide_eq_false_iff_not] at this
  simp only [Array.getElem_toList]
  omega
theorem c6e {G:Gh} {o:Oper} {s:St} {Q:Exit→St→Prop} {rest:St→Prop} (id:Nat) (l:List Dc) (hb:s.hget id=some (.arr 178 9 (l.map dcC))) (hn:(b2j l).Nodup) (hbd:∀ d ∈ l,1≤d.num∧d.num≤999) (hpos:0 < l.length) (hl:l.length≤1000) (hc:chk G.n o.dst)
  (h:rest (a3z (s.hset id (some (.arr 178 9 ((a8z l).map dcC)))) o.dst (.tup []))):a3k Tryz.prog G o s Q rest (.fn (.func 257) []) [.own id 0 l.length 9,.fn (.func 258) []]:=by
 rintro xo os0 ts ho hx has a w ⟨E,hE⟩
 obtain ⟨ys,hy,hsz,hr⟩:=R.fn_inv (a1t hE hx.symm)
 have hl2:os0.length=2:=by have:=congrArg List.length has;simpa using this.symm
 match os0,hl2,has with
 |[o1,o2],_,has =>
  simp only [List.map_cons,List.map_nil,List.cons.injEq,and_true] at has
  obtain ⟨e1,e2⟩:=has
  obtain ⟨zs2,hy2,hsz2,_⟩:=R.fn_inv (a1t hE e2.symm)
  obtain ⟨b,K,C,hEi,hle,hKC,hv⟩:=R.own_inv (a1t hE e1.symm)
  obtain ⟨b1,K1,C1,h1,hB⟩:=hE.hp id _ hb
  rw [hEi] at h1
  cases h1
  obtain ⟨g1,g2,g3,g4,g5⟩:=hB
  cases b with
  |none=>rw [List.length_map] at g4;omega
  |some b =>
   obtain ⟨cs,q1,q2,q3,q4,q5⟩:=g5
   obtain ⟨o',ho',hy1⟩:=hv
   have ho0:o'=0:=by rw [ho' (.inr rfl)]
   subst ho0
   rw [List.length_map] at g3 g4
   have hlt:b < w.heap.size:=by
    false_or_by_contra
    rename_i hge
    have:w.heap[b]? = none:=by simp;omega
    rw [this] at q1;cases q1
   obtain ⟨d,hd⟩:∃ d,d=ndL l hbd:=⟨_,rfl⟩
   have hds:d.size=l.length:=by rw [hd];exact e7a l hbd
   have hdl:d.toList.map NDc.d=l:=by rw [hd];exact g2j l hbd
   have hcs:l.length * 9≤cs.size:=by rw [q2];omega
   have hdi:∀ i (hi:i < d.size),d[i].d=l[i]'(by omega):=fun i hi=>by
    have:=congrArg (fun x=>x[i]?) hdl
    simp only [List.getElem?_map,Array.getElem?_toList,Array.getElem?_eq_getElem hi,Option.map_some] at this
    rw [List.getElem?_eq_getElem (by omega)] at this
    exact Option.some.inj this
   have hcell:∀ i j,i < l.length→j < 9→cs[i * 9+j]? = some ((flatK c2v 9 d)[i * 9+j]!):=fun i j hi hj=>by
    have hi2:i < d.size:=by omega
    rw [c2i d i j hi2 hj,hdi i hi2]
    have hjl:j < (dvC l[i]).length:=hj
    have hcj:i * 9+j < cs.size:=by omega
    have hR:=q5 i (dcC l[i]) j (.v (dvC l[i])[j]) cs[i * 9+j] (by rw [List.getElem?_map,List.getElem?_eq_getElem hi];rfl) (by rw [f9w,List.getElem?_map,List.getElem?_eq_getElem hjl];rfl) (Array.getElem?_eq_getElem hcj)
    rw [Array.getElem?_eq_getElem hcj,getElem!_pos (dvC l[i]) j hjl]
    generalize cs[i * 9+j]=z at hR ⊢
    generalize (dvC l[i])[j]=v at hR ⊢
    cases hR
    rfl
   have hH:HoldsK c2v 9 w b 0 d:=by
    unfold HoldsK Holds
    intro j hj
    rw [size_flatK,hds] at hj
    have hcj:=hcell (j / 9) (j % 9) (by omega) (by omega)
    rw [show j / 9 * 9+j % 9=j by omega] at hcj
    rw [Nat.zero_add]
    refine ⟨?_,by simp [World.frozen?,q1]⟩
    rw [cell_of_row _ _ _ _ _ _ q1,hcj]
    rfl
   have eg:∀ args w,(callFunc 258 args).run Tryz.prog w=.ok (.enter 258 args) w:=enters_of Tryz.func258 (by kernel_rfl) rfl
   obtain ⟨dd,ii,i1,i2,i3,i4⟩:=a1u c5x
   have aE:∀ w,(isAgg (Tryz.laysSort_ren.t 24)).run Tryz.prog w=.ok true w:=fun w=>by rw [← i3];exact a2q _ w i1
   have zE:∀ w,(Go.sizeOf (Tryz.laysSort_ren.t 24)).run Tryz.prog w=.ok 9 w:=fun w=>by rw [← i4];exact a1n _ w i2
   have hcon:=AnyQ.slices_SortFunc Tryz.laysSort 9 aE zE c2v (fun _=>rfl) (fun x v hv=>by
     obtain ⟨⟨_,_,_,_,_,_,_,_,_⟩,_⟩:=x
     simp only [c2v,dvC,List.mem_cons,List.not_mem_nil,or_false] at hv
     rcases hv with rfl|rfl|rfl|rfl|rfl|rfl|rfl|rfl|rfl<;>rfl) cfD g9b 258 #[] b 0 (C - 0) d w eg (g8t b 0 d.size w) hH hlt (by omega)
   change Calls Tryz.prog 257 _ _ _ at hcon
   have hys0:ys=#[]:=by
    apply Array.eq_empty_of_size_eq_zero
    simpa using hsz
   have hzs0:zs2=#[]:=by
    apply Array.eq_empty_of_size_eq_zero
    simpa using hsz2
   have hargs:([o1,o2].map a.eval).toArray++ys=#[.slice (some ⟨b,0,none⟩) d.size (C - 0),.func (.func 258) #[] #[]]:=by
    rw [hys0,hds]
    simp [hy1,hy2,hzs0,e0a]
   refine b7r ho ⟨_,Tryz.func257,by decide,by kernel_rfl⟩ hy (by rw [hargs];exact hcon) ?_
   rintro e w' ⟨rfl,d',n,os,hp,hs,rfl⟩
   have hd's:d'.size=d.size:=hp.1
   have hsort:d'.toList.map NDc.d=a8z l:=by rw [hd] at hp hs;exact e5f hbd hn hp hs
   obtain ⟨u1,u2⟩:=f1r (F:=flatK c2v 9 d') n q1
   have u3:(putRow _root_.id (Go.Sort.ahead w n) b 0 (flatK c2v 9 d')).heap.size=w.heap.size:=by simp
   have hS:SimE G (s.hset id (some (.arr 178 9 ((a8z l).map dcC)))) a (putRow _root_.id (Go.Sort.ahead w n) b 0 (flatK c2v 9 d')) E:=by
    refine hE.write hb hEi rfl rfl rfl u3 u2 fun O1 hO1=>⟨fun x hx=>?_,g2,by rw [List.length_map,b2c];exact g3,by rw [List.length_map,b2c];exact g4,_,u1,by rw [c2a];exact q2,q3,q4,fun i x j u y r1 r2 r3=>?_⟩
    ·simp only [List.mem_map] at hx
     obtain ⟨c,_,rfl⟩:=hx
     rfl
    ·rw [List.getElem?_map,Option.map_eq_some_iff] at r1
     obtain ⟨c,hc1,rfl⟩:=r1
     have hil:i < (a8z l).length:=(List.getElem?_eq_some_iff.1 hc1).1
     have hil2:i < d'.size:=by rw [b2c] at hil;omega
     have hcd:d'[i].d=c:=by
      have:=congrArg (fun x=>x[i]?) hsort
      simp only [List.getElem?_map,Array.getElem?_toList,Array.getElem?_eq_getElem hil2,Option.map_some] at this
      rw [hc1] at this
      exact Option.some.inj this
     have hj9:j < 9:=(List.getElem?_eq_some_iff.1 r2).1
     rw [c3y _ _ _ (by rw [size_flatK];omega) (by omega),c2i d' i j hil2 hj9,hcd] at r3
     rw [f9w,List.getElem?_map,Option.map_eq_some_iff] at r2
     obtain ⟨v,hv1,rfl⟩:=r2
     obtain ⟨hjl,rfl⟩:=List.getElem?_eq_some_iff.1 hv1
     rw [getElem!_pos (dvC c) j hjl] at r3
     cases r3
     exact .v _
   have hW:sortWorldK c2v 9 w b 0 n d' os=grow (putRow _root_.id (Go.Sort.ahead w n) b 0 (flatK c2v 9 d')) os:=rfl
   rw [hW]
   have hBl:RowKit.Below (putRow _root_.id (Go.Sort.ahead w n) b 0 (flatK c2v 9 d')).heap.size (putRow _root_.id (Go.Sort.ahead w n) b 0 (flatK c2v 9 d')) (grow (putRow _root_.id (Go.Sort.ahead w n) b 0 (flatK c2v 9 d')) os):=⟨rfl,rfl,rfl,by rw [size_grow];omega,fun k hk=>heap_grow_old _ _ hk⟩
   refine ⟨_,rfl,_,h,E,(hS.below hBl).put (a2s hc) (.r0 _ _ (.tup _ _ rfl fun j u y h1 h2=>by simp at h1))⟩
theorem c3b {P:Program} {lo:Nat} {s:St}:a1z P lo [] (.tup []) .normal s:=by
 show (∀ x,x ∈ ([]:List ResultVar)→a6e P s x)∧Pm.Sub (.tup []) (.tup [])
 exact ⟨(fun x hx=>by cases hx),Sub.refl _⟩
theorem d7v {P:Program} {lo:Nat} {s:St}:a1z P lo [] (.tup []) .ret s:=by
 show (∀ x,x ∈ ([]:List ResultVar)→a6e P s x)∧Pm.Sub (.tup []) (.tup [])
 exact ⟨(fun x hx=>by cases hx),Sub.refl _⟩
theorem d4d:a0l Tryz.prog 290 [dcs 0 [],i64 0,i64 0,.fn (.func 258) []] (fun _=>.tup []):=by
 refine a0b (ow:=fun _=>false) Tryz.func290 Tryz.ntmps290 rfl rfl fun G hG hOw hNm hB=>?_;simp only [go_sem,hG,hOw]
 try (repeat' with_reducible first|apply And.intro|refine exP ?_ ?_|intro);all_goals try omega
 refine a0k (fun _:Unit=>St.of [(1,i64 0),(2,i64 0),(8,i64 1)] []) (fun _=>True) (fun _=>0) () trivial (a0y (by (simp only [go_sem])<;>simp) hNm) ?_
 rintro ⟨⟩ -
 refine a0d _ _ _ ?_;simp only [go_sem,hG,hOw]
 try (repeat' with_reducible first|apply And.intro|refine exP ?_ ?_|intro);all_goals try omega
 all_goals exact c3b
theorem d3z (k:Int):a0l Tryz.prog 279 [dcs 0 [],i64 0,i64 0,i64 k,.fn (.func 258) []] (fun _=>.tup []):=by
 refine a0b (ow:=fun _=>false) Tryz.func279 Tryz.ntmps279 rfl rfl fun G hG hOw hNm hB=>?_;simp only [go_sem,hG,hOw]
 refine a0k (fun _:Unit=>St.of [(0,dcs 0 []),(1,i64 0),(2,i64 0),(4,.fn (.func 258) [])] []) (fun _=>True) (fun _=>0) () trivial (a0y (by (simp only [go_sem])<;>simp) hNm) ?_
 rintro ⟨⟩ -
 refine a0d _ _ _ ?_;simp only [go_sem,hG,hOw]
 try (repeat' with_reducible first|apply And.intro|refine exP ?_ ?_|intro);all_goals try omega
 refine a0a d4d ?_
 simp only [go_sem,hG,hOw]
 try (repeat' with_reducible first|apply And.intro|refine exP ?_ ?_|intro);all_goals try omega
 all_goals exact d7v
theorem d7a:a0l Tryz.prog 217 [.v (.int .u64 0)] (fun _=>i64 0):=by
 refine a0b (ow:=fun _=>false) Tryz.func217 Tryz.ntmps217 rfl rfl fun G hG hOw hNm hB=>?_;simp only [go_sem,hG,hOw]
 try (repeat' with_reducible first|apply And.intro|refine exP ?_ ?_|intro);all_goals try omega
 all_goals try decide +kernel
theorem f7z:a0l Tryz.prog 169 [.v (.int .u64 0)] (fun _=>i64 0):=by
 refine a0b (ow:=fun _=>false) Tryz.func169 Tryz.ntmps169 rfl rfl fun G hG hOw hNm hB=>?_;simp only [go_sem,hG,hOw]
 refine a0a d7a ?_
 simp only [go_sem,hG,hOw]
theorem c8u:a0l Tryz.prog 257 [dcs 0 [],.fn (.func 258) []] (fun _=>.tup []):=by
 refine a0b (ow:=fun _=>false) Tryz.func257 Tryz.ntmps257 rfl rfl fun G hG hOw hNm hB=>?_;simp only [go_sem,hG,hOw]
 try (repeat' with_reducible first|apply And.intro|refine exP ?_ ?_|intro);all_goals try omega
 simp only [show IntKind.u64.wrap 0=0 from by decide]
 refine a0a f7z ?_
 simp only [go_sem,hG,hOw]
 refine a0a (d3z 0) ?_
 simp only [go_sem,hG,hOw]
 exact c3b
open Go Pm
theorem c4h (l:List Dc) (hl:l.length≤1000):Tri Tryz.prog 256 [dcs 0 l] [] (fun _=>.ret (.own 0 0 l.length 9) [(0,.arr 178 9 (l.map dcC))]):=by
 refine a0e (fun i=>[5].contains i) Tryz.func256 Tryz.ntmps256 rfl rfl fun G hG hOw hNm=>?_;simp only [go_sem,hG,hOw]
 try (repeat' with_reducible first|apply And.intro|refine exP ?_ ?_|intro);all_goals try omega
 ·rename_i b h1 h2
  have:l=[]:=by simpa using h1 h2
  subst this
  exact (a2o [(0,none)])
 ·exact (a2o [(0,some 7)])
theorem e2o {f:V→V→Prop} (h:∀ d:Dc,f (e5v d) (e5v d)):∀ l:List Dc,okL f (l.map e5v) (l.map e5v)
 |[]=>trivial
 |d::r=>⟨h d,e2o h r⟩
theorem f8x (ρ:Ren) (d:Dc):okN ρ 4 (e5v d) (e5v d):=by
 simp only [go_sem,f8w]
theorem f0l (ρ:Ren) (l:List Dc):okL (okN ρ 4) ((a7n l).map fun q=>q.2) ((a7n l).map fun q=>q.2)=True:=by
 have e:(a7n l).map (fun q=>q.2)=l.map e5v:=by simp [a7n]
 rw [e]
 exact eq_true (e2o (f8x ρ) l)
theorem e8r (ρ:Ren) (l:List Dc):((a7n l).map fun q=>(q.1,b8b ρ 4 q.2))=a7n l:=by
 unfold a7n
 rw [List.map_map]
 rfl
theorem e6v (p:Nat→Bool) (lo:Nat) (s:St) (l:List Dc):((a7n l).map fun q=>(q.1,vwF p lo s 4 q.2))=a7n l:=by
 unfold a7n
 rw [List.map_map]
 rfl
attribute [go_sem ↓] f0l e8r e6v
def b6b (t:List Ch) (x:Lx) (m:Nat):OB:=.box [rls 0 x.rules,dcs 0 x.decs,chs 0 t,.mp m]
def b8a (L:List Dc):OB:=.map (.int .i64) (a7n L)
attribute [go_sem] b6b b8a
theorem d6z {l:List Dc} (h:(b2j l).Nodup) (k:Nat) (hk:k < l.length):∀ e ∈ l.take k,e.num≠l[k].num:=by
 intro e he hn
 obtain ⟨j,hj,rfl⟩:=List.getElem_of_mem he
 rw [List.length_take] at hj
 rw [List.getElem_take] at hn
 have e1:(b2j l)[j]'(by simp [b2j];omega)=(b2j l)[k]'(by simpa [b2j] using hk):=by simpa [b2j] using hn
 have:=(List.getElem_inj h).1 e1
 omega
def tkD (l:List Dc) (k:Nat):List Dc:=l.take k
theorem b5a (l:List Dc):tkD l 0=[]:=rfl
theorem e1e (l:List Dc) (h:(b2j l).Nodup) (k:Nat) (hk:k < l.length):upM (a7n (tkD l k)) (.int .i64 l[k].num) (.agg (dcC l[k]))=a7n (tkD l (k+1)):=by
 unfold tkD
 rw [f8d _ _ (d6z h k hk),List.take_add_one,List.getElem?_eq_getElem hk]
 rfl
theorem e6h:dcC D0=[.v (.int .i64 0),.v (.int .u8 0),.v (.string ByteArray.empty),.v (.int .i64 0),.v (.int .i64 0),.v (.int .i64 0),.v (.string ByteArray.empty),.v (.int .u8 0),.v (.int .i64 0)]:=rfl
theorem c8g (t:List Ch) (x:Lx) (he:x.decs=[]) :
  Tri Tryz.prog 223 [txE 0 t,lxE 0 x] [] (fun _=>.ret (.ptr 0 0) [(0,b6b t x 1),(1,b8a (a7a x.decs))]):=by
 obtain ⟨rules,decs⟩:=x
 simp only at he
 subst he
 have hsub:∀ (n:Nat) (r:List (List V)),Pm.Sub (V.lst n 9 r) (V.lst 0 9 r):=fun n r=>Sub.lo (Nat.zero_le _)
 have hs:a7a []=[]:=by simp [a7a,a8z,a9q]
 simp only [hs]
 refine a0e (fun _=>false) Tryz.func223 Tryz.ntmps223 rfl rfl fun G hG hOw hNm=>?_;simp only [go_sem,hG,hOw]
 try (repeat' with_reducible first|apply And.intro|refine exP ?_ ?_|intro);all_goals try omega
 refine a0c [] [(0,80)] (c4h [] (by simp)) ?_
 simp only [go_sem,hG,hOw]
 try (repeat' with_reducible first|apply And.intro|refine exP ?_ ?_|intro);all_goals try omega
 refine a2x (fun i=>i == 80) ?_
 simp only [go_sem,hG,hOw]
 refine a0a c8u ?_
 simp only [go_sem,hG,hOw]
 try (repeat' with_reducible first|apply And.intro|refine exP ?_ ?_|intro);all_goals try omega
 refine a2h (fun _:Unit=>St.of [(5,.ptr 17 0),(6,dcs 0 [])] [(17,.box [rls 0 rules,dcs 0 [],chs 0 t,.mp 15]),(15,.map (.int .i64) (a7n []))]) (fun _=>True) ?_ ?_
 ·refine a0k (fun _:Unit=>St.of [(5,.ptr 17 0),(6,dcs 0 []),(24,i64 0),(25,i64 0)] [(17,.box [rls 0 rules,dcs 0 [],chs 0 t,.mp 15]),(15,.map (.int .i64) (a7n []))]) (fun _=>True) (fun _=>0) () trivial (a1e [(17,some 17),(15,some 15)] (by (simp only [hsub,or_true,List.map_nil,a6z,go_sem])<;>simp [hsub,or_true,List.map_nil,a6z]) (by (simp only [hsub,or_true,List.map_nil,a6z,go_sem,a1d,a0r,a0i,a1l])<;>simp [hsub,or_true,List.map_nil,a6z]) (by simp [a2m,apart]) (by simp [a0n,usH]) (by simp [hNm,lkR,a0x])) ?_
  rintro ⟨⟩ -
  refine a0d _ _ _ ?_;simp only [go_sem,hG,hOw]
  try (repeat' with_reducible first|apply And.intro|refine exP ?_ ?_|intro);all_goals try omega
  exact ⟨(),a1m [(17,some 17),(15,some 15)]⟩
 rintro ⟨⟩ -
 simp only [go_sem,hG,hOw]
 try (repeat' with_reducible first|apply And.intro|refine exP ?_ ?_|intro);all_goals try omega
 refine a2h (fun _:Unit=>St.of [(5,.ptr 17 0)] [(17,.box [rls 0 rules,dcs 0 [],chs 0 t,.mp 15]),(15,.map (.int .i64) (a7n []))]) (fun _=>True) ?_ ?_
 ·refine a0k (fun _:Unit=>St.of [(5,.ptr 17 0),(38,i64 0),(39,i64 0)] [(17,.box [rls 0 rules,dcs 0 [],chs 0 t,.mp 15]),(15,.map (.int .i64) (a7n []))]) (fun _=>True) (fun _=>0) () trivial (a1m [(17,some 17),(15,some 15)]) ?_
  rintro ⟨⟩ -
  refine a0d _ _ _ ?_;simp only [go_sem,hG,hOw]
  try (repeat' with_reducible first|apply And.intro|refine exP ?_ ?_|intro);all_goals try omega
  exact ⟨(),a1m [(17,some 17),(15,some 15)]⟩
 rintro ⟨⟩ -
 simp only [go_sem,hG,hOw]
 try (repeat' with_reducible first|apply And.intro|refine exP ?_ ?_|intro);all_goals try omega
 exact (a2o [(0,some 17),(1,some 15)])
theorem c9r (t:List Ch) (x:Lx) (hn:(b2j x.decs).Nodup) (hb:∀ d ∈ x.decs,1≤d.num∧d.num≤999) (hpos:0 < x.decs.length) (hl:x.decs.length≤1000) :
  Tri Tryz.prog 223 [txE 0 t,lxE 0 x] [] (fun _=>.ret (.ptr 0 0) [(0,b6b t x 1),(1,b8a (a7a x.decs))]):=by
 have hdn:=b9q hn
 have hdl:=b2c x.decs
 have hst:a7a x.decs=a9q (a8z x.decs) (a8z x.decs):=rfl
 refine a0e (fun _=>false) Tryz.func223 Tryz.ntmps223 rfl rfl fun G hG hOw hNm=>?_;simp only [go_sem,hG,hOw]
 try (repeat' with_reducible first|apply And.intro|refine exP ?_ ?_|intro);all_goals try omega
 refine a0c [] [(0,80)] (c4h x.decs hl) ?_
 simp only [go_sem,hG,hOw]
 try (repeat' with_reducible first|apply And.intro|refine exP ?_ ?_|intro);all_goals try omega
 refine c6e 80 x.decs (by simp [go_sem]) hn hb hpos hl (by simp [chk,hG]) ?_
 obtain ⟨D,hD⟩:∃ D,D=a8z x.decs:=⟨_,rfl⟩
 rw [← hD] at hdn hdl hst ⊢
 have hDl:(x.decs.length:Int)=D.length:=by omega
 have htk0:List.take x.decs.length (List.map dcC D)=List.map dcC D:=List.take_of_length_le (by rw [List.length_map];omega)
 simp (maxSteps:=2000000) only [go_sem,hG,hOw,hDl]
 try (repeat' with_reducible first|apply And.intro|refine exP ?_ ?_|intro);all_goals try omega
 have hsub:∀ (n:Nat) (r:List (List V)),Pm.Sub (V.lst n 9 r) (V.lst 0 9 r):=fun n r=>Sub.lo (Nat.zero_le _)
 refine a2h (fun _:Unit=>St.of [(5,.ptr 17 0),(6,dcs 0 D)] [(17,.box [rls 0 x.rules,dcs 0 x.decs,chs 0 t,.mp 15]),(15,.map (.int .i64) (a7n D))]) (fun _=>True) ?_ ?_
 ·refine a0k (fun k:Nat=>St.of [(5,.ptr 17 0),(6,dcs 0 D),(23,dcs 0 D),(24,i64 D.length),(25,i64 k)] [(17,.box [rls 0 x.rules,dcs 0 x.decs,chs 0 t,.mp 15]),(15,.map (.int .i64) (a7n (tkD D k)))]) (fun k=>k≤D.length) (fun k=>D.length - k) 0 (by simp) (b1q (fun i=>i == 80) (a1e [(17,some 17),(15,some 15)] (by (simp only [htk0,hsub,or_true,b5a,a6z,go_sem])<;>simp [htk0,hsub,or_true,b5a,a6z]) (by (simp only [htk0,hsub,or_true,b5a,a6z,go_sem,a1d,a0r,a0i,a1l])<;>simp [htk0,hsub,or_true,b5a,a6z]) (by simp [a2m,apart]) (by simp [a0n,usH]) (by simp [hNm,lkR,a0x]))) ?_
  rintro k hk
  by_cases hkl:k < D.length
  ·have hlt:(k:Int) < D.length:=by omega
   have hup:=e1e D hdn k hkl
   refine a0d _ _ _ ?_
   simp (maxSteps:=2000000) only [go_sem,hG,hOw,hlt]
   try (repeat' with_reducible first|apply And.intro|refine exP ?_ ?_|intro);all_goals try omega
   refine a5q [(32,[17]),(34,[8]),(35,[8])] mixed (by kernel_rfl) ?_
   obtain ⟨d,hd⟩:∃ d,d=D[k]:=⟨_,rfl⟩
   rw [← hd] at hup ⊢
   obtain ⟨T,hT⟩:∃ T,T=a7n (tkD D k):=⟨_,rfl⟩
   rw [← hT] at hup ⊢
   simp only [dcC,i64,u8,str] at hup
   simp only [go_sem,hG,hOw]
   try (repeat' with_reducible first|apply And.intro|refine exP ?_ ?_|intro);all_goals try omega
   rw [hup]
   exact ⟨k+1,by omega,by omega,a1m [(17,some 17),(15,some 15)]⟩
  ·have hlt:¬ (k:Int) < D.length:=by omega
   have hkk:k=D.length:=by omega
   have htk:tkD D k=D:=by rw [hkk];exact List.take_length
   refine a0d _ _ _ ?_
   simp (maxSteps:=2000000) only [go_sem,hG,hOw,hlt]
   try (repeat' with_reducible first|apply And.intro|refine exP ?_ ?_|intro);all_goals try omega
   rw [htk]
   exact ⟨(),a1m [(17,some 17),(15,some 15)]⟩
 rintro ⟨⟩ -
 simp only [go_sem,hG,hOw]
 try (repeat' with_reducible first|apply And.intro|refine exP ?_ ?_|intro);all_goals try omega
 refine a2h (fun _:Unit=>St.of [(5,.ptr 17 0)] [(17,.box [rls 0 x.rules,dcs 0 x.decs,chs 0 t,.mp 15]),(15,.map (.int .i64) (a7n (a9q D D)))]) (fun _=>True) ?_ ?_
 ·refine a0k (fun k:Nat=>St.of [(5,.ptr 17 0),(37,dcs 0 D),(38,i64 D.length),(39,i64 k)] [(17,.box [rls 0 x.rules,dcs 0 x.decs,chs 0 t,.mp 15]),(15,.map (.int .i64) (a7n (a9q D (D.take k))))]) (fun k=>k≤D.length) (fun k=>D.length - k) 0 (by simp) (a1e [(17,some 17),(15,some 15)] (by (simp only [List.take_zero,a9q,go_sem])<;>simp [List.take_zero,a9q]) (by (simp only [List.take_zero,a9q,go_sem,a1d,a0r,a0i,a1l])<;>simp [List.take_zero,a9q]) (by simp [a2m,apart]) (by simp [a0n,usH]) (by simp [hNm,lkR,a0x])) ?_
  rintro k hk
  by_cases hkl:k < D.length
  ·have hlt:(k:Int) < D.length:=by omega
   have hnx:=d5v D D k hkl
   obtain ⟨d,hd⟩:∃ d,d=D[k]:=⟨_,rfl⟩
   obtain ⟨L,hL⟩:∃ L,L=a9q D (D.take k):=⟨_,rfl⟩
   rw [← hd,← hL] at hnx
   rw [← hL]
   have hlk:=f1y L d.num
   have hls:=f0m L d.num
   have hdl2:=e6t L d.of
   simp only [e6h] at hlk
   have k4:((d.kind.toNat:Int)=4)↔d.kind=4:=⟨fun h=>UInt8.toNat_inj.1 (by show _=4;omega),fun h=>by rw [h];rfl⟩
   refine a0d _ _ _ ?_
   simp (maxSteps:=2000000) only [go_sem,hG,hOw,hlt]
   try (repeat' with_reducible first|apply And.intro|refine exP ?_ ?_|intro);all_goals try omega
   rw [← hd]
   refine a5q [(47,[17]),(49,[10]),(50,[15])] mixed (by kernel_rfl) ?_
   cases c1:(c6o L d.num).isSome with
   |false =>
    simp (maxSteps:=2000000) only [go_sem,hG,hOw,hlk,hls,c1]
    try (repeat' with_reducible first|apply And.intro|refine exP ?_ ?_|intro);all_goals try omega
    have e:b4p L d=L:=by unfold b4p;rw [if_neg (by rw [c1];simp)]
    refine ⟨k+1,by omega,by omega,?_⟩
    rw [hnx,e]
    exact a1m [(17,some 17),(15,some 15)]
   |true =>
    by_cases c2:(d.kind.toNat:Int)=4
    ·simp (maxSteps:=2000000) only [go_sem,hG,hOw,hlk,hls,c1,c2,decide_true]
     try (repeat' with_reducible first|apply And.intro|refine exP ?_ ?_|intro);all_goals try omega
     refine a5q [(62,[17]),(64,[10])] mixed (by kernel_rfl) ?_
     simp (maxSteps:=2000000) only [go_sem,hG,hOw,hdl2]
     try (repeat' with_reducible first|apply And.intro|refine exP ?_ ?_|intro);all_goals try omega
     have e:b4p L d=g1i L d.of:=by unfold b4p;rw [if_pos ⟨c1,k4.1 c2⟩]
     refine ⟨k+1,by omega,by omega,?_⟩
     rw [hnx,e]
     exact a1m [(17,some 17),(15,some 15)]
    ·simp (maxSteps:=2000000) only [go_sem,hG,hOw,hlk,hls,c1,c2,decide_false]
     try (repeat' with_reducible first|apply And.intro|refine exP ?_ ?_|intro);all_goals try omega
     have e:b4p L d=L:=by unfold b4p;rw [if_neg (fun h=>c2 (k4.2 h.2))]
     refine ⟨k+1,by omega,by omega,?_⟩
     rw [hnx,e]
     exact a1m [(17,some 17),(15,some 15)]
  ·have hlt:¬ (k:Int) < D.length:=by omega
   have hkk:k=D.length:=by omega
   have htk:D.take k=D:=by rw [hkk,List.take_length]
   refine a0d _ _ _ ?_
   simp (maxSteps:=2000000) only [go_sem,hG,hOw,hlt]
   try (repeat' with_reducible first|apply And.intro|refine exP ?_ ?_|intro);all_goals try omega
   rw [htk]
   exact ⟨(),a1m [(17,some 17),(15,some 15)]⟩
 rintro ⟨⟩ -
 simp only [go_sem,hG,hOw]
 try (repeat' with_reducible first|apply And.intro|refine exP ?_ ?_|intro);all_goals try omega
 rw [hst]
 exact (a2o [(0,some 17),(1,some 15)])
theorem e1c (t:List Ch) (x:Lx) (hn:(b2j x.decs).Nodup) (hb:∀ d ∈ x.decs,1≤d.num∧d.num≤999) (hl:x.decs.length≤1000) :
  Tri Tryz.prog 223 [txE 0 t,lxE 0 x] [] (fun _=>.ret (.ptr 0 0) [(0,b6b t x 1),(1,b8a (a7a x.decs))]):=by
 by_cases h:x.decs=[]
 ·exact c8g t x h
 ·exact c9r t x hn hb (List.length_pos_iff.2 h) hl
theorem e4d (t:List Ch) (x:Lx) (ht:a1s t=true) (hx:b1s t x=true) (hbd:bdX x) :
  Tri Tryz.prog 175 [txE 0 t,lxE 0 x] [] (fun _=>.ret (.tup [.ptr 0 0,i64 0]) [(0,b6b t x 1),(1,b8a (a7a x.decs))]):=by
 have hC:=b3b t x hbd
 have he:a4w t x=0:=by unfold a4w;rw [ht,hx];rfl
 rw [he] at hC
 obtain ⟨hn,hb⟩:=d2o hx
 have hl:x.decs.length≤1000:=by
  unfold b1s at hx
  simp only [Bool.and_eq_true,decide_eq_true_eq] at hx
  omega
 have hO:=e1c t x hn hb hl
 refine a0e (fun _=>false) Tryz.func175 Tryz.ntmps175 rfl rfl fun G hG hOw hNm=>?_;simp only [go_sem,hG,hOw]
 try (repeat' with_reducible first|apply And.intro|refine exP ?_ ?_|intro);all_goals try omega
 refine a0a hC ?_
 simp only [go_sem,hG,hOw]
 try (repeat' with_reducible first|apply And.intro|refine exP ?_ ?_|intro);all_goals try omega
 refine a0c [] [(0,80),(1,81)] (hO) ?_
 simp only [go_sem,hG,hOw]
 try (repeat' with_reducible first|apply And.intro|refine exP ?_ ?_|intro);all_goals try omega
 exact (a2o [(0,some 80),(1,some 81)])
open Go Pm
def a6c (l:List Rl) (n:Nat) (s:ByteArray):ByteArray×Bool:=match n with
 |0=>(s,false)
 |_+1=>match b5w l s with
  |some u=>(u,true)
  |none=>(s,false)
theorem d7t {l:List Rl} {p:Rl→Bool} {k:Nat} (hk:k < l.length) (hall:∀ j (h:j < k),p (l[j]'(by omega))=false) (hp:p l[k]=true):l.find? p=some l[k]:=by
 rw [List.find?_eq_some_iff_getElem]
 exact ⟨hp,k,hk,rfl,fun j hj=>by rw [hall j hj];rfl⟩
theorem c5g (t:List Ch) (x:Lx) (L:List Dc) (n:Nat) (hn:n≤4) (s:ByteArray) (hs:s.size≤12) (hb:∀ r ∈ x.rules,r.cut.size≤1000∧r.put.size≤1000∧0≤r.least∧r.least≤1000) (hl:x.rules.length≤1000) :
  Tri Tryz.prog 281 [.ptr 0 0,.ptr 1 0,.ptr 2 0] [(0,.box [i64 n]),(1,.box [str s]),(2,.box [.ptr 3 0]),(3,b6b t x 4),(4,b8a L)]
   (fun _=>.ret (.tup [str (a6c x.rules n s).1,bl (a6c x.rules n s).2]) [(0,.box [i64 (n - 1:Nat)]),(1,.box [str (a6c x.rules n s).1]),(2,.box [.ptr 3 0]),(3,b6b t x 4),(4,b8a L)]):=by
 cases n with
 |zero =>
  have e:a6c x.rules 0 s=(s,false):=rfl
  rw [e]
  have c0:((0:Nat):Int)=0:=rfl
  have h01:((0 - 1:Nat):Int)=0:=rfl
  refine a0e (fun _=>false) Tryz.func281 Tryz.ntmps281 rfl rfl fun G hG hOw hNm=>?_;simp only [go_sem,hG,hOw]
  try (repeat' with_reducible first|apply And.intro|refine exP ?_ ?_|intro);all_goals try omega
  exact ⟨[(0,some 0),(1,some 1),(2,some 2),(3,some 3),(4,some 4)],by (simp only [b3x,go_sem,a1d,a0r,a0i,a1l,apart,a2m,a0n])<;>simp [h01]⟩
 |succ n =>
  have hn1:¬ (((n+1:Nat):Int)=0):=by omega
  have hn2:(((n+1:Nat):Int) - 1)=(n:Int):=by omega
  have hn3:((n+1 - 1:Nat):Int)=(n:Int):=by omega
  rw [hn3]
  have hno:(∀ j (h:j < x.rules.length),a8v x.rules[j] s=false)→a6c x.rules (n+1) s=(s,false):=fun h=>by
   have e:b5w x.rules s=none:=by
    unfold b5w
    rw [List.find?_eq_none.2 fun r hr=>?_];rfl
    obtain ⟨j,hj,rfl⟩:=List.getElem_of_mem hr
    rw [h j hj];simp
   simp only [a6c,e]
  have hyes:∀ k (hk:k < x.rules.length),(∀ j (h:j < k),a8v (x.rules[j]'(by omega)) s=false)→a8v x.rules[k] s=true→a6c x.rules (n+1) s=(b4w s x.rules[k].cut++x.rules[k].put,true):=fun k hk h h2=>by
   have e:b5w x.rules s=some (b4w s x.rules[k].cut++x.rules[k].put):=by
    unfold b5w
    rw [d7t hk h h2];rfl
   simp only [a6c,e]
  obtain ⟨R,hR⟩:∃ R,R=a6c x.rules (n+1) s:=⟨_,rfl⟩
  rw [← hR] at hno hyes ⊢
  refine a0e (fun _=>false) Tryz.func281 Tryz.ntmps281 rfl rfl fun G hG hOw hNm=>?_;simp only [go_sem,hG,hOw]
  try (repeat' with_reducible first|apply And.intro|refine exP ?_ ?_|intro);all_goals try omega
  refine a2h (fun _:Unit=>St.of [(0,.ptr 0 0),(1,.ptr 1 0),(2,.ptr 2 0)] [(0,.box [i64 n]),(1,.box [str s]),(2,.box [.ptr 3 0]),(3,b6b t x 4),(4,b8a L)]) (fun _=>R=(s,false)) ?_ ?_
  ·refine a0k (fun k:Nat=>St.of [(0,.ptr 0 0),(1,.ptr 1 0),(2,.ptr 2 0),(18,rls 0 x.rules),(19,i64 x.rules.length),(20,i64 k)] [(0,.box [i64 n]),(1,.box [str s]),(2,.box [.ptr 3 0]),(3,b6b t x 4),(4,b8a L)]) (fun k=>k≤x.rules.length∧∀ j (h:j < k) (hl:j < x.rules.length),a8v x.rules[j] s=false) (fun k=>x.rules.length - k) 0 ⟨by simp,fun j h=>by omega⟩ (a1m [(0,some 0),(1,some 1),(2,some 2),(3,some 3),(4,some 4)] (by (simp only [go_sem])<;>simp [hn2]) (by (simp only [go_sem,a1d,a0r,a0i,a1l])<;>simp [hn2])) ?_
   rintro k ⟨hk,hall⟩
   by_cases hkl:k < x.rules.length
   ·have hlt:(k:Int) < x.rules.length:=by omega
    have hrb:=hb _ (List.getElem_mem hkl)
    have hy:=hyes k hkl (fun j h=>hall j h (by omega))
    have hnext:a8v x.rules[k] s=false→∀ j (h:j < k+1) (hl:j < x.rules.length),a8v x.rules[j] s=false:=fun h0 j hj hl=>by
     by_cases e:j=k
     ·subst e;exact h0
     ·exact hall j (by omega) hl
    obtain ⟨r,hr⟩:∃ r,r=x.rules[k]:=⟨_,rfl⟩
    rw [← hr] at hrb hy hnext
    have hC:=e1w s r.cut (by omega)
    have hus:(b4w s r.cut).size≤12:=by unfold b4w;rw [ByteArray.size_extract];omega
    refine a0d _ _ _ ?_
    simp (maxSteps:=2000000) only [go_sem,hG,hOw,hlt]
    try (repeat' with_reducible first|apply And.intro|refine exP ?_ ?_|intro);all_goals try omega
    rw [← hr]
    refine a0a hC ?_
    cases hsuf:d6l s r.cut with
    |false =>
     have hap:a8v r s=false:=by unfold a8v;rw [hsuf];rfl
     simp (maxSteps:=2000000) only [go_sem,hG,hOw,hsuf,Bool.false_eq_true]
     try (repeat' with_reducible first|apply And.intro|refine exP ?_ ?_|intro);all_goals try omega
     exact ⟨k+1,⟨by omega,hnext hap⟩,by omega,a1m [(0,some 0),(1,some 1),(2,some 2),(3,some 3),(4,some 4)]⟩
    |true =>
     obtain ⟨u,hu⟩:∃ u,u=b4w s r.cut:=⟨_,rfl⟩
     have hap:a8v r s=(!decide ((u.size:Int) < r.least) && !decide ((12:Int) < u.size+r.put.size)):=by unfold a8v;rw [hsuf,Bool.true_and,← hu]
     rw [← hu] at hus hy
     by_cases c1:(u.size:Int) < r.least
     ·rw [decide_eq_true c1,Bool.not_true,Bool.false_and] at hap
      simp (maxSteps:=2000000) only [go_sem,hG,hOw,hsuf,← hu,c1,decide_true]
      try (repeat' with_reducible first|apply And.intro|refine exP ?_ ?_|intro);all_goals try omega
      exact ⟨k+1,⟨by omega,hnext hap⟩,by omega,a1m [(0,some 0),(1,some 1),(2,some 2),(3,some 3),(4,some 4)]⟩
     ·by_cases c2:(12:Int) < u.size+r.put.size
      ·rw [decide_eq_true c2,Bool.not_true,Bool.and_false] at hap
       simp (maxSteps:=2000000) only [go_sem,hG,hOw,hsuf,← hu,c1,c2,decide_true,decide_false]
       try (repeat' with_reducible first|apply And.intro|refine exP ?_ ?_|intro);all_goals try omega
       exact ⟨k+1,⟨by omega,hnext hap⟩,by omega,a1m [(0,some 0),(1,some 1),(2,some 2),(3,some 3),(4,some 4)]⟩
      ·rw [decide_eq_false c1,decide_eq_false c2] at hap
       have hR2:=hy hap
       simp (maxSteps:=2000000) only [go_sem,hG,hOw,hsuf,← hu,c1,c2,decide_true,decide_false]
       try (repeat' with_reducible first|apply And.intro|refine exP ?_ ?_|intro);all_goals try omega
       rw [hR2]
       exact (a2o [(0,some 0),(1,some 1),(2,some 2),(3,some 3),(4,some 4)])
   ·have hlt:¬ (k:Int) < x.rules.length:=by omega
    refine a0d _ _ _ ?_
    simp (maxSteps:=2000000) only [go_sem,hG,hOw,hlt]
    try (repeat' with_reducible first|apply And.intro|refine exP ?_ ?_|intro);all_goals try omega
    exact ⟨(),hno fun j hj=>hall j (by omega) hj,a1m [(0,some 0),(1,some 1),(2,some 2),(3,some 3),(4,some 4)]⟩
  rintro ⟨⟩ hRn
  subst hRn
  simp only [go_sem,hG,hOw]
  try (repeat' with_reducible first|apply And.intro|refine exP ?_ ?_|intro);all_goals try omega
  exact (a2o [(0,some 0),(1,some 1),(2,some 2),(3,some 3),(4,some 4)])
theorem f1l (t:List Ch) (x:Lx) (L:List Dc) (s:ByteArray):Tri Tryz.prog 261 [.ptr 0 0,str s] [(0,b6b t x 1),(1,b8a L)]
  (fun _=>.ret (.fn (.func 281) [.ptr 2 0,.ptr 3 0,.ptr 4 0]) [(0,b6b t x 1),(1,b8a L),(2,.box [i64 (4:Nat)]),(3,.box [str s]),(4,.box [.ptr 0 0])]):=by
 have e4:((4:Nat):Int)=4:=rfl
 refine a0e (fun _=>false) Tryz.func261 Tryz.ntmps261 rfl rfl fun G hG hOw hNm=>?_;simp only [go_sem,hG,hOw]
 try (repeat' with_reducible first|apply And.intro|refine exP ?_ ?_|intro);all_goals try omega
 exact ⟨[(0,some 0),(1,some 1),(2,some 5),(3,some 3),(4,some 2)],by (simp only [b3x,go_sem,a1d,a0r,a0i,a1l,apart,a2m,a0n])<;>simp [e4]⟩
theorem d6t {l:List Rl} {n:Nat} {s:ByteArray} (h:(a6c l n s).2=false):b0i l n s=[]:=by
 cases n with
 |zero=>rfl
 |succ n =>
  unfold a6c at h
  unfold b0i
  cases e:b5w l s with
  |none=>rfl
  |some u=>rw [e] at h;simp at h
theorem c0f {l:List Rl} {n:Nat} {s:ByteArray} (h:(a6c l n s).2=true):∃ m,n=m+1∧b5w l s=some (a6c l n s).1∧b0i l n s=(a6c l n s).1::b0i l m (a6c l n s).1:=by
 cases n with
 |zero=>simp [a6c] at h
 |succ n =>
  refine ⟨n,rfl,?_⟩
  unfold a6c at h ⊢
  conv=>rhs;lhs;unfold b0i
  cases e:b5w l s with
  |none=>rw [e] at h;simp at h
  |some u=>exact ⟨rfl,rfl⟩
theorem e6n (t:List Ch) (x:Lx) (L:List Dc) (s:ByteArray) (hs:s.size≤12) (hb:∀ r ∈ x.rules,r.cut.size≤1000∧r.put.size≤1000∧0≤r.least∧r.least≤1000) (hl:x.rules.length≤1000) :
  Tri Tryz.prog 226 [.ptr 0 0,str s] [(0,b6b t x 1),(1,b8a L)] (fun n=>.ret (a0q n (a6x x.rules s)) [(0,b6b t x 1),(1,b8a L)]):=by
 have hT4:=c5g t x L 4 (Nat.le_refl _) s hs hb hl
 refine a0e (fun i=>[10].contains i) Tryz.func226 Tryz.ntmps226 rfl rfl fun G hG hOw hNm=>?_;simp only [go_sem,hG,hOw]
 try (repeat' with_reducible first|apply And.intro|refine exP ?_ ?_|intro);all_goals try omega
 refine a0c [(0,0),(1,1)] [(2,72),(3,73),(4,74)] (f1l t x L s) ?_
 simp only [go_sem,hG,hOw]
 try (repeat' with_reducible first|apply And.intro|refine exP ?_ ?_|intro);all_goals try omega
 refine a0c [(0,72),(1,73),(2,74),(3,0),(4,1)] [] (hT4) ?_
 simp only [go_sem,hG,hOw]
 try (repeat' with_reducible first|apply And.intro|refine exP ?_ ?_|intro);all_goals try omega
 have hst:∀ n w,(a6c x.rules n w).1.size≤12∨(a6c x.rules n w).2=false:=fun n w=>by
  cases h:(a6c x.rules n w).2 with
  |false=>exact .inr rfl
  |true =>
   obtain ⟨m,_,e,_⟩:=c0f h
   exact .inl (b9a e)
 refine a2h (fun _:Unit=>St.of [(5,a0q G.lo (a6x x.rules s))] [(0,b6b t x 1),(1,b8a L)]) (fun _=>True) ?_ ?_
 ·refine a0k (fun q:Nat×ByteArray×List ByteArray=>St.of [(5,.own 30 0 q.2.2.length 1),(6,.fn (.func 281) [.ptr 72 0,.ptr 73 0,.ptr 74 0]),(7,str (a6c x.rules q.1 q.2.1).1),(8,bl (a6c x.rules q.1 q.2.1).2)] [(0,b6b t x 1),(1,b8a L),(72,.box [i64 (q.1 - 1:Nat)]),(73,.box [str (a6c x.rules q.1 q.2.1).1]),(74,.box [.ptr 0 0]),(30,.arr 9 1 (q.2.2.map a2c))]) (fun q=>q.1≤4∧q.2.2.length+q.1≤5∧q.2.2++b0i x.rules q.1 q.2.1=a6x x.rules s) (fun q=>q.1) (4,s,[s]) ⟨Nat.le_refl _,by simp,rfl⟩ (a1m [(0,some 0),(1,some 1),(72,some 72),(73,some 73),(74,some 74),(30,some 10)] (by (simp only [go_sem])<;>simp [a2c]) (by (simp only [go_sem,a1d,a0r,a0i,a1l])<;>simp [a2c])) ?_
  rintro ⟨n,w,A⟩ ⟨h4,h5,hA⟩
  simp only at h4 h5 hA
  cases hb2:(a6c x.rules n w).2 with
  |false =>
   rw [d6t hb2,List.append_nil] at hA
   subst hA
   refine a0d _ _ _ ?_
   simp (maxSteps:=2000000) only [go_sem,hG,hOw,hb2,Bool.false_eq_true]
   try (repeat' with_reducible first|apply And.intro|refine exP ?_ ?_|intro);all_goals try omega
   exact ⟨(),b1q (fun i=>i == 30) (a1m [(0,some 0),(1,some 1)])⟩
  |true =>
   obtain ⟨m,hm,e1,e2⟩:=c0f hb2
   obtain ⟨u,hu⟩:∃ u,u=(a6c x.rules n w).1:=⟨_,rfl⟩
   have hus:u.size≤12:=by rw [hu];exact b9a e1
   rw [← hu] at e1 e2
   rw [e2] at hA
   subst hm
   have hT:=c5g t x L m (by omega) u hus hb hl
   have hmm:((m+1 - 1:Nat):Int)=(m:Int):=by omega
   refine a0d _ _ _ ?_
   simp (maxSteps:=2000000) only [go_sem,hG,hOw,hb2,← hu,hmm]
   try (repeat' with_reducible first|apply And.intro|refine exP ?_ ?_|intro);all_goals try omega
   refine a0c [(0,72),(1,73),(2,74),(3,0),(4,1)] [] (hT) ?_
   simp only [go_sem,hG,hOw]
   try (repeat' with_reducible first|apply And.intro|refine exP ?_ ?_|intro);all_goals try omega
   refine ⟨(m,u,A++[u]),⟨by simp only;omega,by simp only [List.length_append,List.length_cons,List.length_nil];omega,by simpa using hA⟩,by simp only;omega,?_⟩
   exact a1m [(0,some 0),(1,some 1),(72,some 72),(73,some 73),(74,some 74),(30,some 28)] (by (simp only [go_sem])<;>simp [a2c]) (by (simp only [go_sem,a1d,a0r,a0i,a1l])<;>simp [a2c])
 rintro ⟨⟩ -
 simp only [go_sem,hG,hOw]
 try (repeat' with_reducible first|apply And.intro|refine exP ?_ ?_|intro);all_goals try omega
 exact (a2o [(0,some 0),(1,some 1)])
open Go Pm
theorem g8u:D0.num=0:=rfl
theorem g8x:((D0.kind.toNat:Nat):Int)=0:=rfl
theorem g9c:D0.form=ByteArray.empty:=rfl
theorem g8y:D0.ch=0:=rfl
theorem g8w:D0.ln=0:=rfl
theorem g8m:D0.wd=0:=rfl
theorem g8p:D0.stem=ByteArray.empty:=rfl
theorem g8o:((D0.mark.toNat:Nat):Int)=0:=rfl
theorem g8s:D0.of=0:=rfl
attribute [go_sem] g8u g8x g9c g8y g8w g8m g8p g8o g8s
theorem f5j (d:Dc) (a1 a2 a3:Int) (w:ByteArray):a0l Tryz.prog 343 [.agg (dcC d),.agg [i64 a1,i64 a2,i64 a3],str w] (fun _=>bl (decide (d.form=w))):=by
 refine a0b (ow:=fun _=>false) Tryz.func343 Tryz.ntmps343 rfl rfl fun G hG hOw hNm hB=>?_;simp only [go_sem,hG,hOw]
theorem f7q (d:Dc) (a1 a2 a3:Int) (w:ByteArray):a0l Tryz.prog 344 [.agg (dcC d),.agg [i64 a1,i64 a2,i64 a3],str w] (fun _=>bl (decide (d.form=w) && decide (e5u d.ch d.ln d.wd a1 a2 a3≤0))):=by
 have hO:=b8w d.ch d.ln d.wd a1 a2 a3
 generalize e5u d.ch d.ln d.wd a1 a2 a3=r at hO ⊢
 refine a0b (ow:=fun _=>false) Tryz.func344 Tryz.ntmps344 rfl rfl fun G hG hOw hNm hB=>?_;simp only [go_sem,hG,hOw]
 (repeat' with_reducible first|apply And.intro|refine exP ?_ ?_|intro);all_goals try omega
 ·rename_i h
  refine a0a hO ?_
  rw [decide_eq_true h,Bool.true_and]
  simp only [go_sem,hG,hOw]
 ·rename_i h
  rw [decide_eq_false h,Bool.false_and]
theorem f6i (d:Dc) (a1 a2 a3:Int) (w:ByteArray):a0l Tryz.prog 345 [.agg (dcC d),.agg [i64 a1,i64 a2,i64 a3],str w] (fun _=>bl (decide (d.ch=a1∧d.ln=a2∧d.wd=a3))):=by
 have e:decide (d.ch=a1∧d.ln=a2∧d.wd=a3)=(decide (d.ch=a1) && (decide (d.ln=a2) && decide (d.wd=a3))):=by rw [Bool.eq_iff_iff];simp
 rw [e]
 refine a0b (ow:=fun _=>false) Tryz.func345 Tryz.ntmps345 rfl rfl fun G hG hOw hNm hB=>?_;simp only [go_sem,hG,hOw]
theorem f4k (d:Dc) (a1 a2 a3:Int) (w:ByteArray):a0l Tryz.prog 346 [.agg (dcC d),.agg [i64 a1,i64 a2,i64 a3],str w] (fun _=>bl false):=by
 refine a0b (ow:=fun _=>false) Tryz.func346 Tryz.ntmps346 rfl rfl fun G hG hOw hNm hB=>?_;simp only [go_sem,hG,hOw]
theorem c0u (t:List Ch) (x:Lx) (L:List Dc) (a1 a2 a3:Int) (w:ByteArray):Tri Tryz.prog 224 [.ptr 0 0,.agg [i64 a1,i64 a2,i64 a3],str w] [(0,b6b t x 1),(1,b8a L)]
  (fun _=>.ret (.fn (.func 259) [.ptr 2 0,.ptr 3 0,.ptr 4 0]) [(0,b6b t x 1),(1,b8a L),(2,.box [.ptr 0 0]),(3,.box [i64 a1,i64 a2,i64 a3]),(4,.box [str w])]):=by
 refine a0e (fun _=>false) Tryz.func224 Tryz.ntmps224 rfl rfl fun G hG hOw hNm=>?_;simp only [go_sem,hG,hOw]
 try (repeat' with_reducible first|apply And.intro|refine exP ?_ ?_|intro);all_goals try omega
 exact (a2o [(0,some 0),(1,some 1),(2,some 3),(3,some 4),(4,some 5)])
def g4y (rules:List Rl) (L:List Dc) (a1 a2 a3:Int) (word:ByteArray):Dc :=
 if (e2m (L.filter (a9a a1 a2 a3 word))).num=0 then { D0 with stem:=f7u rules word } else e2m (L.filter (a9a a1 a2 a3 word))
structure OkD (d:Dc):Prop where
 wt:WtD d
 kd:(d.kind.toNat:Int)=1∨(d.kind.toNat:Int)=2∨(d.kind.toNat:Int)=3∨(d.kind.toNat:Int)=4
def b5u (L:List Dc) (c:Dc→Bool) (S:List Nat) (d:Dc):Prop:=(∃ i,i ∈ S∧L[i]? = some d)∧c d=true
theorem e8p (L:List Dc) (c:Dc→Bool):IsBest (b5u L c []) D0:=.inl ⟨fun d h=>by obtain ⟨⟨i,hi,_⟩,_⟩:=h;(cases hi),rfl⟩
theorem e9q {L:List Dc} {c:Dc→Bool} {S:List Nat} {i:Nat} {b d:Dc} (h:IsBest (b5u L c S) b) (hi:L[i]? = some d) (hc:c d=true) (hL:∀ d ∈ L,OkD d):IsBest (b5u L c (S++[i])) (if b.num=0∨0 < e1d d b then d else b):=by
 have h1:=h.step (d:=d) (fun e he=>by
  obtain ⟨⟨j,_,hj⟩,_⟩:=he
  exact (hL e (List.mem_of_getElem? hj)).wt) (hL d (List.mem_of_getElem? hi)).wt
 refine h1.congr fun e=>?_
 unfold b5u
 constructor
 ·rintro (⟨⟨j,hj,he⟩,hce⟩|rfl)
  ·exact ⟨⟨j,by simp [hj],he⟩,hce⟩
  ·exact ⟨⟨i,by simp,hi⟩,hc⟩
 ·rintro ⟨⟨j,hj,he⟩,hce⟩
  rcases List.mem_append.1 hj with hj|hj
  ·exact .inl ⟨⟨j,hj,he⟩,hce⟩
  ·simp only [List.mem_singleton] at hj
   subst hj
   rw [hi] at he
   exact .inr (Option.some.inj he).symm
theorem f4l {L:List Dc} {c:Dc→Bool} {S:List Nat} {i:Nat} {b d:Dc} (h:IsBest (b5u L c S) b) (hi:L[i]? = some d) (hc:c d=false):IsBest (b5u L c (S++[i])) b:=by
 refine h.congr fun e=>?_
 unfold b5u
 constructor
 ·rintro ⟨⟨j,hj,he⟩,hce⟩
  exact ⟨⟨j,by simp [hj],he⟩,hce⟩
 ·rintro ⟨⟨j,hj,he⟩,hce⟩
  rcases List.mem_append.1 hj with hj|hj
  ·exact ⟨⟨j,hj,he⟩,hce⟩
  ·simp only [List.mem_singleton] at hj
   subst hj
   rw [hi] at he
   rw [← Option.some.inj he,hc] at hce
   cases hce
theorem f1q {L:List Dc} {c:Dc→Bool} {S:List Nat} {b:Dc} (h:IsBest (b5u L c S) b) (hall:∀ i,i < L.length→i ∈ S) (hL:∀ d ∈ L,OkD d) (hn:(b2j L).Nodup):b=e2m (L.filter c):=by
 have e:∀ d,b5u L c S d↔d ∈ L.filter c:=fun d=>by
  unfold b5u
  rw [List.mem_filter]
  constructor
  ·rintro ⟨⟨i,_,hi⟩,hc⟩
   exact ⟨List.mem_of_getElem? hi,hc⟩
  ·rintro ⟨hd,hc⟩
   obtain ⟨i,hi,rfl⟩:=List.getElem_of_mem hd
   exact ⟨⟨i,hall i hi,List.getElem?_eq_getElem hi⟩,hc⟩
 have hw:∀ d ∈ L.filter c,WtD d:=fun d hd=>(hL d (List.mem_filter.1 hd).1).wt
 exact (h.congr e).uniq (d0r hw) hw fun a b ha hb he=>d1w hn (List.mem_filter.1 ha).1 (List.mem_filter.1 hb).1 he
theorem c1l:∀ (n:Nat) {S:List Nat},S.Nodup→(∀ i ∈ S,i < n)→S.length≤n
 |0,S,_,h=>by
  cases S with
  |nil=>simp
  |cons a S=>exact absurd (h a (by simp)) (by omega)
 |n+1,S,hS,h=>by
  by_cases hm:n ∈ S
  ·have h1:=c1l n (hS.erase n) (fun i hi=>by
    rw [hS.mem_erase_iff] at hi
    have:=h i hi.2
    omega)
   rw [List.length_erase_of_mem hm] at h1
   omega
  ·have h1:=c1l n hS (fun i hi=>by
    have:=h i hi
    have:i≠n:=fun e=>hm (e ▸ hi)
    omega)
   omega
theorem f6h {nm:List Nat} {s:St} {x:Nat} (h:(s.hget x).isSome=true) (id:Nat) (hid:id ∈ nm++[x]):id ∈ nm∨(s.hget id).isSome=true:=by
 rcases List.mem_append.1 hid with h1|h1
 ·exact .inl h1
 ·rw [List.mem_singleton.1 h1];exact .inr h
theorem f6x (t:List Ch) (x:Lx) (L:List Dc) (hL:∀ d ∈ L,OkD d) (hnd:(b2j L).Nodup) (k n w:Nat) (hk:k < t.length) (hn:n < t[k].lines.length) (hw:w < t[k].lines[n].length) (hs:(t[k].lines[n][w]).size≤12) (hb:∀ r ∈ x.rules,r.cut.size≤1000∧r.put.size≤1000∧0≤r.least∧r.least≤1000) (hl:x.rules.length≤1000) :
  Tri Tryz.prog 176 [.ptr 0 0,.agg [i64 k,i64 n,i64 w]] [(0,b6b t x 1),(1,b8a L)] (fun _=>.ret (.agg (dcC (g4y x.rules L k n w (t[k].lines[n][w])))) [(0,b6b t x 1),(1,b8a L)]):=by
 obtain ⟨word,hword⟩:∃ s,s=t[k].lines[n][w]:=⟨_,rfl⟩
 have hkI:(k:Int) < t.length:=by omega
 have hnI:(n:Int) < t[k].lines.length:=by omega
 have hwI:(w:Int) < t[k].lines[n].length:=by omega
 rw [← hword] at hs ⊢
 have hCo:=c0u t x L k n w word
 refine b9d (fun _=>false) Tryz.func176 Tryz.ntmps176 rfl (by kernel_rfl) (by simp) rfl (by decide) fun G hG hOw hNm hrd=>?_;simp only [go_sem,hG,hOw]
 try (repeat' with_reducible first|apply And.intro|refine exP ?_ ?_|intro);all_goals try omega
 refine a0s mixed (by kernel_rfl) ?_
 simp only [go_sem,hG,hOw]
 try (repeat' with_reducible first|apply And.intro|refine exP ?_ ?_|intro);all_goals try omega
 rw [← hword]
 refine a0c [(0,0),(1,1)] [(2,72),(3,73),(4,74)] (hCo) ?_
 simp only [go_sem,hG,hOw]
 try (repeat' with_reducible first|apply And.intro|refine exP ?_ ?_|intro);all_goals try omega
 obtain ⟨B,hB⟩:∃ B,B=e2m (L.filter (a9a k n w word)):=⟨_,rfl⟩
 refine a2h (fun _:Unit=>St.of [(0,.ptr 0 0),(4,.ptr 64 0),(5,str word),(6,.ptr 66 0)] [(0,b6b t x 1),(1,b8a L),(64,.box (dcC D0)),(66,.box (dcC B))]) (fun _=>True) ?_ ?_
 ·refine a4m (s':=St.of [(0,.ptr 0 0),(4,.ptr 64 0),(5,str word),(6,.ptr 66 0),(30,.fn (.func 259) [.ptr 60 0,.fp [i64 k,i64 n,i64 w],.fp [str word]])] [(0,b6b t x 1),(1,b8a L),(64,.box (dcC D0)),(66,.box (dcC D0)),(60,.box [.ptr 0 0])]) (b1q (fun i=>i == 73 || i == 74) (a1m [(0,some 0),(1,some 1),(64,some 4),(66,some 6),(60,some 72)])) ?_
  refine a6r [0,1,60,64,66] 99 (fun _=>false) hrd rfl Tryz.func259 Tryz.ntmps259 rfl (by kernel_rfl) rfl (by simp) (by rw [hG];decide) rfl (by rw [hNm];simp [a0x]) rfl rfl fun G1 l Lr k1 k2 k3 k4 k5 hYJ=>?_
  have hY:=hYJ.law (fun _=>false)
  have hG0:=hG
  have hNm0:=hNm
  have hOw0:=hOw
  have hG:=k1
  have hOw:=k2
  have hNm:=k3
  simp only [go_sem,hG,hOw]
  try (repeat' with_reducible first|apply And.intro|refine exP ?_ ?_|intro);all_goals try omega
  refine c8w (mid:=1) (m:=a7n L) rfl (by simp [go_sem]) c9n (by simp [go_sem]) (by rw [hNm];simp) (f3v L) rfl (by rw [hG];decide) (by simp [go_sem]) fun mb es clock hX=>?_
  simp only [go_sem,hG,hOw]
  try (repeat' with_reducible first|apply And.intro|refine exP ?_ ?_|intro);all_goals try omega
  refine a2h (fun _:Unit=>St.of [] [(99,.obj (.loop (Lp Lr none))),(0,b6b t x 1),(1,b8a L),(64,.box (dcC D0)),(66,.box (dcC B)),(60,.box [.ptr 0 0])]) (fun _=>True) ?_ ?_
  ·refine a0k (fun q:List Nat×Dc=>St.of [(0,.v (.func (.yield l) #[] #[])),(1,.ptr 60 0),(2,.fp [i64 k,i64 n,i64 w]),(3,.fp [str word]),(11,.ptr 11 0)] [(99,.obj (.loop (Lp Lr none))),(0,b6b t x 1),(1,.obj (.map es clock)),(64,.box (dcC D0)),(66,.box (dcC q.2)),(60,.box [.ptr 0 0]),(11,.obj (.mapIter (some mb) clock (a5h es q.1) clock))]) (fun q=>q.1.Nodup∧(∀ i ∈ q.1,i < L.length)∧IsBest (b5u L (a9a k n w word) q.1) q.2) (fun q=>L.length - q.1.length) ([],D0) ⟨List.nodup_nil,by simp,e8p _ _⟩ (a1m [(99,some 99),(0,some 0),(1,some 1),(64,some 64),(66,some 66),(60,some 60),(11,some 11)] (by (simp only [go_sem])<;>simp [a5h]) (by (simp only [go_sem,a1d,a0r,a0i,a1l])<;>simp [a5h])) ?_
   rintro ⟨S,b⟩ ⟨hS,hlt,hbest⟩
   simp only at hS hlt hbest
   have hml:(a7n L).length=L.length:=e7z L
   refine a0d _ _ _ ?_
   simp only [go_sem,hG,hOw]
   try (repeat' with_reducible first|apply And.intro|refine exP ?_ ?_|intro);all_goals try omega
   refine d4t (k:=11) (mid:=1) (S:=S) rfl rfl hX (by simp [go_sem]) (by simp [go_sem]) (fun i hi=>by rw [hml];exact hlt i hi) rfl (by rw [hG];decide) (fun hall=>?_) (fun i p hp hni=>?_)
   ·have hB2:b=B:=by rw [hB];exact f1q hbest (fun i hi=>hall i (by rw [hml];exact hi)) hL hnd
    subst hB2
    simp only [go_sem,hG,hOw]
    try (repeat' with_reducible first|apply And.intro|refine exP ?_ ?_|intro);all_goals try omega
    refine ⟨(),fun a0 w0 h0=>(?_:Ent G1 _ _) a0 w0 (c7v hX (by simp [go_sem]) a0 w0 h0)⟩
    exact a1m [(99,some 99),(0,some 0),(1,some 1),(64,some 64),(66,some 66),(60,some 60)]
   ·obtain ⟨hi,rfl⟩:=e9k L i p hp
    simp only [go_sem,hG,hOw]
    try (repeat' with_reducible first|apply And.intro|refine exP ?_ ?_|intro);all_goals try omega
    refine d0h (k:=11) (mid:=1) (i:=i) (S:=S) rfl rfl hX (by simp [go_sem]) (by simp [go_sem]) hp rfl (by rw [hG];decide) ?_
    have hid:L[i]? = some L[i]:=List.getElem?_eq_getElem hi
    have hmem:=List.getElem_mem hi
    obtain ⟨d,hd⟩:∃ d,d=L[i]:=⟨_,rfl⟩
    rw [← hd] at hid hmem ⊢
    have hok:=hL d hmem
    have hS2:(S++[i]).Nodup:=by rw [List.nodup_append];exact ⟨hS,by simp,by intro a ha c hc e;simp only [List.mem_singleton] at hc;subst hc;subst e;exact hni ha⟩
    have hlt2:∀ j ∈ S++[i],j < L.length:=fun j hj=>by
     rcases List.mem_append.1 hj with h|h
     ·exact hlt j h
     ·simp only [List.mem_singleton] at h;omega
    have hms:=c1l L.length hS2 hlt2
    rw [List.length_append,List.length_singleton] at hms
    have i1:Int.toNat 1=1:=rfl
    have i2:Int.toNat 2=2:=rfl
    have i3:Int.toNat 3=3:=rfl
    have i4:Int.toNat 4=4:=rfl
    have hyes:=fun h=>e9q (c:=a9a k n w word) hbest hid h hL
    have hno:=fun h=>f4l (c:=a9a k n w word) hbest hid h
    have hkk:∀ m:UInt8,(d.kind.toNat:Int)=m.toNat→d.kind=m:=fun m h=>UInt8.toNat_inj.1 (by omega)
    have hwb:b.num≠0→WtD b:=fun h0=>by
     rcases hbest with ⟨_,rfl⟩|⟨⟨⟨j,_,hj⟩,_⟩,_⟩
     ·exact (h0 rfl).elim
     ·exact (hL b (List.mem_of_getElem? hj)).wt
    simp only [go_sem,hG,hOw]
    try (repeat' with_reducible first|apply And.intro|refine exP ?_ ?_|intro);all_goals try omega
    rcases hok.kd with h|h|h|h
    ·have hV:a9a k n w word d=decide (d.form=word):=by unfold a9a;rw [hkk 1 h];rfl
     have hC:=f5j d k n w word
     rw [← hV] at hC
     simp only [dcC,u8,i64,str,h] at hC
     refine a2g ⟨[],[],[]⟩ [(0,false),(1,false),(2,false),(3,false),(4,false),(5,false),(6,false),(7,false),(8,false),(9,false),(10,false),(11,false),(12,true),(13,false),(14,false)] mixed (by kernel_rfl) ?_
     simp only [a3s,List.getElem?_cons_zero,List.getElem?_cons_succ]
     simp (maxSteps:=2000000) only [go_sem,hG,hOw,h,i1,i2,i3,i4,Nat.reduceMul]
     try (repeat' with_reducible first|apply And.intro|refine exP ?_ ?_|intro);all_goals try omega
     refine ⟨_,a0f hC,?_⟩
     cases hc:a9a k n w word d with
     |false =>
      simp (maxSteps:=2000000) only [go_sem,hG,hOw,h]
      try (repeat' with_reducible first|apply And.intro|refine exP ?_ ?_|intro);all_goals try omega
      exact ⟨(S++[i],b),⟨hS2,hlt2,hno hc⟩,by simp only [List.length_append,List.length_singleton];omega,a1m [(99,some 99),(0,some 0),(1,some 1),(64,some 64),(66,some 66),(60,some 60),(11,some 11)] (by (simp only [go_sem])<;>simp [h]) (by (simp only [go_sem,a1d,a0r,a0i,a1l])<;>simp [h])⟩
     |true =>
      simp (maxSteps:=2000000) only [go_sem,hG,hOw,h]
      try (repeat' with_reducible first|apply And.intro|refine exP ?_ ?_|intro);all_goals try omega
      refine hY [99,0,1,60,64,66,11] _ _ _ _ _ (by simp (config:={ maxSteps:=4000000 }) only [go_sem,reduceIte,Nat.reduceEqDiff]) rfl (by simp [chk,k1]) (by rw [k3];simp) (by rw [k3];exact fun id hid=>f6h (nm:=[99,0,1,60,64,66]) (x:=11) (by simp [go_sem]) id hid) fun G2 m1 m2 m3 m4 m5=>?_
      have hG2:=m1.trans hG0
      have hy:=hyes hc
      simp (maxSteps:=2000000) only [go_sem,hG,hOw,hG2,m2]
      refine a0d _ _ _ ?_
      by_cases c0:b.num=0
      ·rw [if_pos (.inl c0)] at hy
       simp (maxSteps:=2000000) only [go_sem,hG,hOw,hG2,m2,c0,decide_true]
       try (repeat' with_reducible first|apply And.intro|refine exP ?_ ?_|intro);all_goals try omega
       exact ⟨(S++[i],d),⟨hS2,hlt2,hy⟩,by simp only [List.length_append,List.length_singleton];omega,a1m [(99,some 99),(0,some 0),(1,some 1),(64,some 64),(66,some 66),(60,some 60),(11,some 11)] (by (simp only [go_sem])<;>simp [h]) (by (simp only [go_sem,a1d,a0r,a0i,a1l])<;>simp [h])⟩
      ·have hF:=b3c d b hok.wt (hwb c0)
       simp only [dcC,u8,i64,str,h] at hF
       simp (maxSteps:=2000000) only [go_sem,hG,hOw,hG2,m2,c0,decide_false]
       try (repeat' with_reducible first|apply And.intro|refine exP ?_ ?_|intro);all_goals try omega
       refine a1p hF (by first|exact Subs.refl _|(repeat' (first|exact Subs.nil|exact Sub.refl _|exact Sub.lo (Nat.zero_le _)|refine Subs.cons ?_ ?_|refine Subs.agg ?_|refine Subs.fp ?_|refine Subs.tup ?_|refine Sub.map (Nat.zero_le _) (fun _=>?_)))) (by first|rfl|simp [b0t,b3o,pureV,pure0, *]) (by simp [chk,hG2]) ?_
       by_cases c1:0 < e1d d b
       ·rw [if_pos (.inr c1)] at hy
        simp (maxSteps:=2000000) only [go_sem,hG,hOw,hG2,m2,c1,gt_iff_lt,decide_true]
        try (repeat' with_reducible first|apply And.intro|refine exP ?_ ?_|intro);all_goals try omega
        exact ⟨(S++[i],d),⟨hS2,hlt2,hy⟩,by simp only [List.length_append,List.length_singleton];omega,a1m [(99,some 99),(0,some 0),(1,some 1),(64,some 64),(66,some 66),(60,some 60),(11,some 11)] (by (simp only [go_sem])<;>simp [h]) (by (simp only [go_sem,a1d,a0r,a0i,a1l])<;>simp [h])⟩
       ·rw [if_neg (by rintro (e|e);exact c0 e;exact c1 e)] at hy
        simp (maxSteps:=2000000) only [go_sem,hG,hOw,hG2,m2,c1,gt_iff_lt,decide_false]
        try (repeat' with_reducible first|apply And.intro|refine exP ?_ ?_|intro);all_goals try omega
        exact ⟨(S++[i],b),⟨hS2,hlt2,hy⟩,by simp only [List.length_append,List.length_singleton];omega,a1m [(99,some 99),(0,some 0),(1,some 1),(64,some 64),(66,some 66),(60,some 60),(11,some 11)] (by (simp only [go_sem])<;>simp [h]) (by (simp only [go_sem,a1d,a0r,a0i,a1l])<;>simp [h])⟩
    ·have hV:a9a k n w word d=(decide (d.form=word) && decide (e5u d.ch d.ln d.wd k n w≤0)):=by unfold a9a;rw [hkk 2 h];rfl
     have hC:=f7q d k n w word
     rw [← hV] at hC
     simp only [dcC,u8,i64,str,h] at hC
     refine a2g ⟨[],[],[]⟩ [(0,false),(1,false),(2,false),(3,false),(4,false),(5,false),(6,false),(7,false),(8,false),(9,false),(10,false),(11,false),(12,true),(13,false),(14,false)] mixed (by kernel_rfl) ?_
     simp only [a3s,List.getElem?_cons_zero,List.getElem?_cons_succ]
     simp (maxSteps:=2000000) only [go_sem,hG,hOw,h,i1,i2,i3,i4,Nat.reduceMul]
     try (repeat' with_reducible first|apply And.intro|refine exP ?_ ?_|intro);all_goals try omega
     refine ⟨_,a0f hC,?_⟩
     cases hc:a9a k n w word d with
     |false =>
      simp (maxSteps:=2000000) only [go_sem,hG,hOw,h]
      try (repeat' with_reducible first|apply And.intro|refine exP ?_ ?_|intro);all_goals try omega
      exact ⟨(S++[i],b),⟨hS2,hlt2,hno hc⟩,by simp only [List.length_append,List.length_singleton];omega,a1m [(99,some 99),(0,some 0),(1,some 1),(64,some 64),(66,some 66),(60,some 60),(11,some 11)] (by (simp only [go_sem])<;>simp [h]) (by (simp only [go_sem,a1d,a0r,a0i,a1l])<;>simp [h])⟩
     |true =>
      simp (maxSteps:=2000000) only [go_sem,hG,hOw,h]
      try (repeat' with_reducible first|apply And.intro|refine exP ?_ ?_|intro);all_goals try omega
      refine hY [99,0,1,60,64,66,11] _ _ _ _ _ (by simp (config:={ maxSteps:=4000000 }) only [go_sem,reduceIte,Nat.reduceEqDiff]) rfl (by simp [chk,k1]) (by rw [k3];simp) (by rw [k3];exact fun id hid=>f6h (nm:=[99,0,1,60,64,66]) (x:=11) (by simp [go_sem]) id hid) fun G2 m1 m2 m3 m4 m5=>?_
      have hG2:=m1.trans hG0
      have hy:=hyes hc
      simp (maxSteps:=2000000) only [go_sem,hG,hOw,hG2,m2]
      refine a0d _ _ _ ?_
      by_cases c0:b.num=0
      ·rw [if_pos (.inl c0)] at hy
       simp (maxSteps:=2000000) only [go_sem,hG,hOw,hG2,m2,c0,decide_true]
       try (repeat' with_reducible first|apply And.intro|refine exP ?_ ?_|intro);all_goals try omega
       exact ⟨(S++[i],d),⟨hS2,hlt2,hy⟩,by simp only [List.length_append,List.length_singleton];omega,a1m [(99,some 99),(0,some 0),(1,some 1),(64,some 64),(66,some 66),(60,some 60),(11,some 11)] (by (simp only [go_sem])<;>simp [h]) (by (simp only [go_sem,a1d,a0r,a0i,a1l])<;>simp [h])⟩
      ·have hF:=b3c d b hok.wt (hwb c0)
       simp only [dcC,u8,i64,str,h] at hF
       simp (maxSteps:=2000000) only [go_sem,hG,hOw,hG2,m2,c0,decide_false]
       try (repeat' with_reducible first|apply And.intro|refine exP ?_ ?_|intro);all_goals try omega
       refine a1p hF (by first|exact Subs.refl _|(repeat' (first|exact Subs.nil|exact Sub.refl _|exact Sub.lo (Nat.zero_le _)|refine Subs.cons ?_ ?_|refine Subs.agg ?_|refine Subs.fp ?_|refine Subs.tup ?_|refine Sub.map (Nat.zero_le _) (fun _=>?_)))) (by first|rfl|simp [b0t,b3o,pureV,pure0, *]) (by simp [chk,hG2]) ?_
       by_cases c1:0 < e1d d b
       ·rw [if_pos (.inr c1)] at hy
        simp (maxSteps:=2000000) only [go_sem,hG,hOw,hG2,m2,c1,gt_iff_lt,decide_true]
        try (repeat' with_reducible first|apply And.intro|refine exP ?_ ?_|intro);all_goals try omega
        exact ⟨(S++[i],d),⟨hS2,hlt2,hy⟩,by simp only [List.length_append,List.length_singleton];omega,a1m [(99,some 99),(0,some 0),(1,some 1),(64,some 64),(66,some 66),(60,some 60),(11,some 11)] (by (simp only [go_sem])<;>simp [h]) (by (simp only [go_sem,a1d,a0r,a0i,a1l])<;>simp [h])⟩
       ·rw [if_neg (by rintro (e|e);exact c0 e;exact c1 e)] at hy
        simp (maxSteps:=2000000) only [go_sem,hG,hOw,hG2,m2,c1,gt_iff_lt,decide_false]
        try (repeat' with_reducible first|apply And.intro|refine exP ?_ ?_|intro);all_goals try omega
        exact ⟨(S++[i],b),⟨hS2,hlt2,hy⟩,by simp only [List.length_append,List.length_singleton];omega,a1m [(99,some 99),(0,some 0),(1,some 1),(64,some 64),(66,some 66),(60,some 60),(11,some 11)] (by (simp only [go_sem])<;>simp [h]) (by (simp only [go_sem,a1d,a0r,a0i,a1l])<;>simp [h])⟩
    ·have hV:a9a k n w word d=decide (d.ch=k∧d.ln=n∧d.wd=w):=by unfold a9a;rw [hkk 3 h];rfl
     have hC:=f6i d k n w word
     rw [← hV] at hC
     simp only [dcC,u8,i64,str,h] at hC
     refine a2g ⟨[],[],[]⟩ [(0,false),(1,false),(2,false),(3,false),(4,false),(5,false),(6,false),(7,false),(8,false),(9,false),(10,false),(11,false),(12,true),(13,false),(14,false)] mixed (by kernel_rfl) ?_
     simp only [a3s,List.getElem?_cons_zero,List.getElem?_cons_succ]
     simp (maxSteps:=2000000) only [go_sem,hG,hOw,h,i1,i2,i3,i4,Nat.reduceMul]
     try (repeat' with_reducible first|apply And.intro|refine exP ?_ ?_|intro);all_goals try omega
     refine ⟨_,a0f hC,?_⟩
     cases hc:a9a k n w word d with
     |false =>
      simp (maxSteps:=2000000) only [go_sem,hG,hOw,h]
      try (repeat' with_reducible first|apply And.intro|refine exP ?_ ?_|intro);all_goals try omega
      exact ⟨(S++[i],b),⟨hS2,hlt2,hno hc⟩,by simp only [List.length_append,List.length_singleton];omega,a1m [(99,some 99),(0,some 0),(1,some 1),(64,some 64),(66,some 66),(60,some 60),(11,some 11)] (by (simp only [go_sem])<;>simp [h]) (by (simp only [go_sem,a1d,a0r,a0i,a1l])<;>simp [h])⟩
     |true =>
      simp (maxSteps:=2000000) only [go_sem,hG,hOw,h]
      try (repeat' with_reducible first|apply And.intro|refine exP ?_ ?_|intro);all_goals try omega
      refine hY [99,0,1,60,64,66,11] _ _ _ _ _ (by simp (config:={ maxSteps:=4000000 }) only [go_sem,reduceIte,Nat.reduceEqDiff]) rfl (by simp [chk,k1]) (by rw [k3];simp) (by rw [k3];exact fun id hid=>f6h (nm:=[99,0,1,60,64,66]) (x:=11) (by simp [go_sem]) id hid) fun G2 m1 m2 m3 m4 m5=>?_
      have hG2:=m1.trans hG0
      have hy:=hyes hc
      simp (maxSteps:=2000000) only [go_sem,hG,hOw,hG2,m2]
      refine a0d _ _ _ ?_
      by_cases c0:b.num=0
      ·rw [if_pos (.inl c0)] at hy
       simp (maxSteps:=2000000) only [go_sem,hG,hOw,hG2,m2,c0,decide_true]
       try (repeat' with_reducible first|apply And.intro|refine exP ?_ ?_|intro);all_goals try omega
       exact ⟨(S++[i],d),⟨hS2,hlt2,hy⟩,by simp only [List.length_append,List.length_singleton];omega,a1m [(99,some 99),(0,some 0),(1,some 1),(64,some 64),(66,some 66),(60,some 60),(11,some 11)] (by (simp only [go_sem])<;>simp [h]) (by (simp only [go_sem,a1d,a0r,a0i,a1l])<;>simp [h])⟩
      ·have hF:=b3c d b hok.wt (hwb c0)
       simp only [dcC,u8,i64,str,h] at hF
       simp (maxSteps:=2000000) only [go_sem,hG,hOw,hG2,m2,c0,decide_false]
       try (repeat' with_reducible first|apply And.intro|refine exP ?_ ?_|intro);all_goals try omega
       refine a1p hF (by first|exact Subs.refl _|(repeat' (first|exact Subs.nil|exact Sub.refl _|exact Sub.lo (Nat.zero_le _)|refine Subs.cons ?_ ?_|refine Subs.agg ?_|refine Subs.fp ?_|refine Subs.tup ?_|refine Sub.map (Nat.zero_le _) (fun _=>?_)))) (by first|rfl|simp [b0t,b3o,pureV,pure0, *]) (by simp [chk,hG2]) ?_
       by_cases c1:0 < e1d d b
       ·rw [if_pos (.inr c1)] at hy
        simp (maxSteps:=2000000) only [go_sem,hG,hOw,hG2,m2,c1,gt_iff_lt,decide_true]
        try (repeat' with_reducible first|apply And.intro|refine exP ?_ ?_|intro);all_goals try omega
        exact ⟨(S++[i],d),⟨hS2,hlt2,hy⟩,by simp only [List.length_append,List.length_singleton];omega,a1m [(99,some 99),(0,some 0),(1,some 1),(64,some 64),(66,some 66),(60,some 60),(11,some 11)] (by (simp only [go_sem])<;>simp [h]) (by (simp only [go_sem,a1d,a0r,a0i,a1l])<;>simp [h])⟩
       ·rw [if_neg (by rintro (e|e);exact c0 e;exact c1 e)] at hy
        simp (maxSteps:=2000000) only [go_sem,hG,hOw,hG2,m2,c1,gt_iff_lt,decide_false]
        try (repeat' with_reducible first|apply And.intro|refine exP ?_ ?_|intro);all_goals try omega
        exact ⟨(S++[i],b),⟨hS2,hlt2,hy⟩,by simp only [List.length_append,List.length_singleton];omega,a1m [(99,some 99),(0,some 0),(1,some 1),(64,some 64),(66,some 66),(60,some 60),(11,some 11)] (by (simp only [go_sem])<;>simp [h]) (by (simp only [go_sem,a1d,a0r,a0i,a1l])<;>simp [h])⟩
    ·have hV:a9a k n w word d=false:=by unfold a9a;rw [hkk 4 h];rfl
     have hC:=f4k d k n w word
     simp only [dcC,u8,i64,str,h] at hC
     refine a2g ⟨[],[],[]⟩ [(0,false),(1,false),(2,false),(3,false),(4,false),(5,false),(6,false),(7,false),(8,false),(9,false),(10,false),(11,false),(12,true),(13,false),(14,false)] mixed (by kernel_rfl) ?_
     simp only [a3s,List.getElem?_cons_zero,List.getElem?_cons_succ]
     simp (maxSteps:=2000000) only [go_sem,hG,hOw,h,i1,i2,i3,i4,Nat.reduceMul]
     try (repeat' with_reducible first|apply And.intro|refine exP ?_ ?_|intro);all_goals try omega
     refine ⟨_,a0f hC,?_⟩
     simp (maxSteps:=2000000) only [go_sem,hG,hOw,h]
     try (repeat' with_reducible first|apply And.intro|refine exP ?_ ?_|intro);all_goals try omega
     exact ⟨(S++[i],b),⟨hS2,hlt2,hno hV⟩,by simp only [List.length_append,List.length_singleton];omega,a1m [(99,some 99),(0,some 0),(1,some 1),(64,some 64),(66,some 66),(60,some 60),(11,some 11)] (by (simp only [go_sem])<;>simp [h]) (by (simp only [go_sem,a1d,a0r,a0i,a1l])<;>simp [h])⟩
  rintro ⟨⟩ -
  refine ⟨none,by simp (config:={ maxSteps:=4000000 }) only [go_sem,reduceIte,Nat.reduceEqDiff],?_⟩
  have hG:=hG0
  have hOw:=hOw0
  have hNm:=hNm0
  exact ⟨(),trivial,a1m [(0,some 0),(1,some 1),(64,some 64),(66,some 66)]⟩
 rintro ⟨⟩ -
 have hBi:=d0r (l:=L.filter (a9a k n w word)) (fun d hd=>(hL d (List.mem_filter.1 hd).1).wt)
 rw [← hB] at hBi
 unfold g4y
 rw [← hB]
 by_cases hB0:B.num=0
 ·have hBD:B=D0:=by
   rcases hBi with ⟨_,e⟩|⟨hm,_⟩
   ·exact e
   ·have:=(hL B (List.mem_filter.1 hm).1).wt.num;omega
  rw [if_pos hB0]
  subst hBD
  have hSt:=e6n t x L word hs hb hl
  have hlast:f7u x.rules word=(a6x x.rules word)[(a6x x.rules word).length - 1]'(by simp [a6x]):=by
   unfold f7u
   rw [List.getElem?_eq_getElem (by simp [a6x])]
   rfl
  have hpos:1≤(a6x x.rules word).length:=by simp [a6x]
  have hle5:(a6x x.rules word).length≤5:=by
   have:=b9p x.rules 4 word
   simp only [a6x,List.length_cons]
   omega
  obtain ⟨A,hA⟩:∃ A,A=a6x x.rules word:=⟨_,rfl⟩
  simp only [← hA] at hSt hlast hpos hle5
  have hAi:((A.length:Int) - 1).toNat=A.length - 1:=by omega
  rw [hlast]
  simp only [go_sem,hG,hOw]
  try (repeat' with_reducible first|apply And.intro|refine exP ?_ ?_|intro);all_goals try omega
  refine a0c [(0,0),(1,1)] [] (hSt) ?_
  simp only [go_sem,hG,hOw]
  try (repeat' with_reducible first|apply And.intro|refine exP ?_ ?_|intro);all_goals try omega
  exact ⟨[(0,some 0),(1,some 1)],by (simp only [b3x,go_sem,a1d,a0r,a0i,a1l,apart,a2m,a0n])<;>simp [hAi]⟩
 ·rw [if_neg hB0]
  simp (maxSteps:=2000000) only [go_sem,hG,hOw,hB0]
  try (repeat' with_reducible first|apply And.intro|refine exP ?_ ?_|intro);all_goals try omega
  exact (a2o [(0,some 0),(1,some 1)])
open Go Pm
theorem g0x {d:Dc} (hq:QDc d) (hn:1≤d.num∧d.num≤999):OkD d:=by
 refine ⟨⟨hn,hq.pl⟩,?_⟩
 rcases hq.is with ⟨h,_⟩|⟨h,_⟩|⟨h,_⟩|⟨h,_⟩
 ·exact .inl h
 ·exact .inr (.inl h)
 ·exact .inr (.inr (.inl h))
 ·exact .inr (.inr (.inr h))
theorem e3p {t:List Ch} {x:Lx} (ht:a1s t=true) (hx:b1s t x=true):(∀ d ∈ a7a x.decs,OkD d)∧(b2j (a7a x.decs)).Nodup:=by
 obtain ⟨h1,h2⟩:=d2o hx
 obtain ⟨_,_,_,h4⟩:=d8x ht hx
 exact ⟨fun d hd=>g0x (h4 d (c6k hd)) (h2 d (c6k hd)),c7d h1⟩
theorem f1h {t:List Ch} {x:Lx} (ht:a1s t=true) (hx:b1s t x=true):(∀ r ∈ x.rules,r.cut.size≤1000∧r.put.size≤1000∧0≤r.least∧r.least≤1000)∧x.rules.length≤1000:=by
 have hx2:=hx
 unfold b1s at hx2
 simp only [Bool.and_eq_true,decide_eq_true_eq,List.all_eq_true] at hx2
 obtain ⟨⟨⟨h1,_⟩,h3⟩,_⟩:=hx2
 refine ⟨fun r hr=>?_,by omega⟩
 have:=h3 r hr
 unfold a8a a2r at this
 simp only [Bool.and_eq_true,inB,decide_eq_true_eq] at this
 omega
def headD (t:List Ch) (x:Lx) (k n w:Nat) (word:ByteArray):Dc:=g4y x.rules (a7a x.decs) k n w word
theorem f0f (t:List Ch) (x:Lx) (ht:a1s t=true) (hx:b1s t x=true) (hbd:bdX x) (k n w:Nat) (hk:k < t.length) (hn:n < t[k].lines.length) (hw:w < t[k].lines[n].length) :
  a0l Tryz.prog 122 [txE 0 t,lxE 0 x,.agg [i64 k,i64 n,i64 w]] (fun _=>.tup [.agg (dcC (headD t x k n w (t[k].lines[n][w]))),i64 0]):=by
 obtain ⟨hL,hnd⟩:=e3p ht hx
 obtain ⟨hr,hrl⟩:=f1h ht hx
 obtain ⟨hv1,hv2⟩:=b0f ht
 have hws:(t[k].lines[n][w]).size≤12:=(a2u (((hv2 _ (List.getElem_mem hk)).ln _ (List.getElem_mem hn)).2 _ (List.getElem_mem hw))).2
 have hW:=f6x t x (a7a x.decs) hL hnd k n w hk hn hw hws hr hrl
 have hO:=e4d t x ht hx hbd
 have hA:=c3h t ht k n w
 have hp:a2z t k n w=true:=by
  have e:a4x t k n=some t[k].lines[n]:=by
   unfold a4x
   simp [hk,hn]
  unfold a2z
  rw [e]
  simp only [inB,Bool.and_eq_true,decide_eq_true_eq]
  omega
 rw [hp] at hA
 simp only [if_true] at hA
 unfold headD
 generalize g4y x.rules (a7a x.decs) k n w (t[k].lines[n][w])=D at hW ⊢
 generalize d1f t k n w=W at hA
 refine a0b (ow:=fun _=>false) Tryz.func122 Tryz.ntmps122 rfl rfl fun G hG hOw hNm hB=>?_;simp only [go_sem,hG,hOw]
 try (repeat' with_reducible first|apply And.intro|refine exP ?_ ?_|intro);all_goals try omega
 refine a0c [] [(0,80),(1,81)] (hO) ?_
 simp only [go_sem,hG,hOw]
 try (repeat' with_reducible first|apply And.intro|refine exP ?_ ?_|intro);all_goals try omega
 refine a0a hA ?_
 simp only [go_sem,hG,hOw]
 try (repeat' with_reducible first|apply And.intro|refine exP ?_ ?_|intro);all_goals try omega
 refine a0c [(0,80),(1,81)] [] (hW) ?_
 simp only [go_sem,hG,hOw]
 try (repeat' with_reducible first|apply And.intro|refine exP ?_ ?_|intro);all_goals try omega
theorem d6v (t:List Ch) (x:Lx) (ht:a1s t=true) (hx:b1s t x=true) (hbd:bdX x) (k n w:Nat) (hk:k < t.length) (hn:n < t[k].lines.length) (hw:w < t[k].lines[n].length) :
  a0l Tryz.prog 49 [txE 0 t,lxE 0 x,.agg [i64 k,i64 n,i64 w]] (fun _=>.tup [.agg [str (headD t x k n w (t[k].lines[n][w])).stem,u8 (headD t x k n w (t[k].lines[n][w])).mark],i64 0]):=by
 have hA:=f0f t x ht hx hbd k n w hk hn hw
 generalize headD t x k n w (t[k].lines[n][w])=D at hA ⊢
 refine a0b (ow:=fun _=>false) Tryz.func49 Tryz.ntmps49 rfl rfl fun G hG hOw hNm hB=>?_;simp only [go_sem,hG,hOw]
 try (repeat' with_reducible first|apply And.intro|refine exP ?_ ?_|intro);all_goals try omega
 refine a0a hA ?_
 simp only [go_sem,hG,hOw]
 try (repeat' with_reducible first|apply And.intro|refine exP ?_ ?_|intro);all_goals try omega
end Go.Proofs.YtmjhfccbbfpppaaGreatDoor
