import Derived.Test.YtmjhfccbbfpppaaGreatDoorQA38
import Derived.Test.YtmjhfccbbfpppaaGreatDoorQA51
import Derived.Test.YtmjhfccbbfpppaaGreatDoorQA52
import Derived.Test.YtmjhfccbbfpppaaGreatDoorQA53
namespace Go.Proofs.YtmjhfccbbfpppaaGreatDoor
set_option linter.unusedSimpArgs false
set_option linter.unusedVariables false
open Go Pm
set_option maxHeartbeats 4000000
set_option maxRecDepth 100000
def b5f (t:List Ch) (pre:List Dc) (d:Dc):Bool:=!(pre.any fun e=>decide (e.num=d.num)) && d3t t d
def f9t (t:List Ch) (x:Lx):Bool:=decide (x.rules.length≤12) && decide (x.decs.length≤20) && x.rules.all b6w && a3g (b5f t) [] x.decs
def b7u (t:List Ch) (x:Lx):Int:=if a1r t then (if f9t t x then 0 else 40) else 10
def a9a (p:Nat→Bool) (n:Nat):Int:=match (List.range n).find? p with
 |some k=>(k:Int)
 |none=>-1
theorem d8i {p:Nat→Bool} {n k:Nat} (hk:k < n) (hp:p k=true) (h:∀ j,j < k→p j=false):a9a p n=k:=by
 unfold a9a
 cases hf:(List.range n).find? p with
 |none =>
  have:=List.find?_eq_none.1 hf k (by simpa using hk)
  exact absurd hp this
 |some j =>
  obtain ⟨hj,xs,ys,e,hall⟩:=List.find?_eq_some_iff_append.1 hf
  have hjk:¬ j < k:=fun h'=>by rw [h j h'] at hj;cases hj
  have hlen:xs.length=j∧∀ i,i < j→i ∈ xs:=by
   have h1:(List.range n)[xs.length]? = some j:=by rw [e];simp
   obtain ⟨h2,h3⟩:=List.getElem?_eq_some_iff.1 h1
   have h3:xs.length=j:=by simpa using h3
   refine ⟨h3,fun i hi=>?_⟩
   have h5:xs.length < n:=by simpa using h2
   have h4:(List.range n)[i]? = some i:=List.getElem?_range (by omega)
   rw [e,List.getElem?_append_left (by omega)] at h4
   exact List.mem_of_getElem? h4
  have hkj:¬ k < j:=fun h'=>by
   have:=hall k (hlen.2 k h')
   rw [hp] at this
   cases this
  simp only
  omega
theorem e0i {p:Nat→Bool} {n:Nat} (h:∀ j,j < n→p j=false):a9a p n=-1:=by
 unfold a9a
 rw [List.find?_eq_none.2 fun x hx=>by rw [h x (by simpa using hx)];simp]
theorem d2t {p:Nat→Bool} {n:Nat}:0≤a9a p n↔∃ k,k < n∧p k=true:=by
 unfold a9a
 cases hf:(List.range n).find? p with
 |none =>
  simp only
  refine ⟨fun h=>absurd h (by decide),fun ⟨k,hk,hp⟩=>?_⟩
  exact absurd hp (List.find?_eq_none.1 hf k (by simpa using hk))
 |some j =>
  simp only
  exact ⟨fun _=>⟨j,by simpa using List.mem_of_find?_eq_some hf,List.find?_some hf⟩,fun _=>by omega⟩
def dc0:Dc:=⟨0,0,⟨#[]⟩,0,0,0,⟨#[]⟩,0,0⟩
def e5b (t:List Ch) (l:List Dc) (k:Nat):Bool:=!b5f t (l.take k) (l.getD k dc0)
theorem c7x (t:List Ch) (l:List Dc) (k:Nat) (hk:k < l.length):e5b t l k=!b5f t (l.take k) l[k]:=by
 unfold e5b
 rw [List.getD_eq_getElem?_getD,List.getElem?_eq_getElem hk];rfl
theorem d3k (t:List Ch) (l:List Dc):a3g (b5f t) [] l=!decide (0≤a9a (e5b t l) l.length):=by
 have key:∀ k,k≤l.length→(a3g (b5f t) [] (l.take k)=true↔∀ j,j < k→e5b t l j=false):=by
  intro k
  induction k with
  |zero=>intro _;simp [a3g]
  |succ k ih =>
   intro hk
   have h1:=a7x (b5f t) l k (by omega)
   rw [h1,Bool.and_eq_true,ih (by omega)]
   constructor
   ·rintro ⟨a,b⟩ j hj
    by_cases hjk:j < k
    ·exact a j hjk
    ·obtain rfl:j=k:=by omega
     rw [c7x t l j (by omega),b];rfl
   ·intro a
    refine ⟨fun j hj=>a j (by omega),?_⟩
    have:=a k (by omega)
    rw [c7x t l k (by omega)] at this
    simpa using this
 have hl:=key l.length (Nat.le_refl _)
 rw [List.take_length] at hl
 rw [Bool.eq_iff_iff,hl]
 simp only [Bool.not_eq_true',decide_eq_false_iff_not,d2t,not_exists,not_and,Bool.not_eq_true]
theorem d4g (t:List Ch) (ht:a1r t=true) (d:Dc) (hd:bdD d):a0l Tryz.prog 106 [txE 0 t,.agg (dcC d)] (fun _=>bl (d3t t d)):=by
 obtain ⟨num,kind,form,ch,ln,wd,stem,mark,of⟩:=d
 obtain ⟨h1,h2⟩:=hd
 simp only at h1 h2
 unfold d3t
 simp only [dcC,u8]
 by_cases k1:(kind.toNat:Int)=1
 ·rw [k1];exact g4q t ht num form ch ln wd stem mark of h1 h2
 by_cases k2:(kind.toNat:Int)=2
 ·rw [k2];exact g3m t ht num form ch ln wd stem mark of h1 h2
 by_cases k3:(kind.toNat:Int)=3
 ·rw [k3];exact g2i t ht num form ch ln wd stem mark of h1 h2
 by_cases k4:(kind.toNat:Int)=4
 ·rw [k4];exact g2z t ht num form ch ln wd stem mark of h1 h2
 have hf:c5v t kind.toNat num form ch ln wd stem mark of=false:=by unfold c5v;rw [if_neg k1,if_neg k2,if_neg k3,if_neg k4]
 rw [hf,Bool.and_false]
 have hk:inB kind.toNat 1 4=false:=by simp [inB];omega
 have hK:=a4n 1 4 kind.toNat
 rw [hk] at hK
 have hlt:kind.toNat < 256:=kind.toNat_lt
 refine a0b (ow:=fun _=>false) Tryz.func106 Tryz.ntmps106 rfl rfl fun G hG hOw hNm hB=>?_;simp only [go_sem,hG,hOw]
 try (repeat' with_reducible first|refine And.intro ?_ ?_|intro _|refine exP ?_ ?_);all_goals try omega
 refine a0a hK ?_
 simp only [go_sem,hG,hOw]
 try (repeat' with_reducible first|refine And.intro ?_ ?_|intro _|refine exP ?_ ?_);all_goals try omega
def f6q (L:List Int) (n:Int):List Int:=if (L.any fun x=>decide (x=n))=true then L else L++[n]
theorem f6d (L:List Int) (n:Int):upM (b3g L) (.int .i64 n) (.v (.bool true))=b3g (f6q L n):=by
 unfold f6q
 split
 ·rename_i h
  induction L with
  |nil=>simp at h
  |cons x r ih =>
   simp only [b3g,List.map_cons,upM,b4e]
   by_cases hx:x=n
   ·simp [hx]
   ·simp only [hx,decide_false,Bool.false_eq_true,if_false,List.cons.injEq,true_and]
    simp only [List.any_cons,hx,decide_false,Bool.false_or] at h
    exact ih h
 ·rename_i h
  exact d9c L n ((Bool.not_eq_true _).mp h)
theorem d0y (L:List Int) (ρ:Ren):(b3g L).map (fun e=>(e.1,b7e ρ 4 e.2))=b3g L:=by
 unfold b3g
 rw [List.map_map]
 rfl
theorem f0g (t:List Ch) (ht:a1r t=true) (d:Dc) (hd:bdD d) (L:List Int) (b:Bool) (hb:(L.any fun x=>decide (x=d.num))=b) :
  Tri Tryz.prog 105 [.agg (dcC d),.ptr 0 0,.ptr 1 0] [(0,.box [.mp 2]),(1,.box [chs 0 t]),(2,.map (.int .i64) (b3g L))]
   (fun _=>.ret (bl (!b && d3t t d)) [(0,.box [.mp 2]),(1,.box [chs 0 t]),(2,.map (.int .i64) (b3g (f6q L d.num)))]):=by
 have hD:=d4g t ht d hd
 have hl:=e2z L d.num
 have hu:=f6d L d.num
 rw [hb] at hl
 cases b with
 |true =>
  refine a0k (fun _=>false) Tryz.func105 Tryz.ntmps105 rfl rfl fun G hG hOw hNm=>?_;simp only [go_sem,hG,hOw]
  simp (maxSteps:=2000000) only [go_sem,hG,hOw,hl,hu]
  (repeat' with_reducible first|refine And.intro ?_ ?_|intro _|refine exP ?_ ?_);all_goals try omega
  exact (a3t [(0,some 0),(1,some 1),(2,some 2)])
 |false =>
  rw [show (!false && d3t t d)=d3t t d by simp]
  refine a0k (fun _=>false) Tryz.func105 Tryz.ntmps105 rfl rfl fun G hG hOw hNm=>?_;simp only [go_sem,hG,hOw]
  simp (maxSteps:=2000000) only [go_sem,hG,hOw,hl,hu]
  (repeat' with_reducible first|refine And.intro ?_ ?_|intro _|refine exP ?_ ?_);all_goals try omega
  refine a0a hD ?_
  simp only [go_sem,hG,hOw]
  (repeat' with_reducible first|refine And.intro ?_ ?_|intro _|refine exP ?_ ?_);all_goals try omega
  exact (a3t [(0,some 0),(1,some 1),(2,some 2)])
theorem g3y (t:List Ch) (ht:a1r t=true) (d:Dc) (hd:bdD d) (L:List Int) (b:Bool) (hb:(L.any fun x=>decide (x=d.num))=b) :
  Tri Tryz.prog 162 [.agg (dcC d),.ptr 53 0] [(50,.box [.mp 52]),(51,.box [chs 0 t]),(52,.map (.int .i64) (b3g L)),(53,.box [.fn (.func 105) [.ptr 50 0,.ptr 51 0]])]
   (fun _=>.ret (bl (!(!b && d3t t d))) [(50,.box [.mp 52]),(51,.box [chs 0 t]),(52,.map (.int .i64) (b3g (f6q L d.num))),(53,.box [.fn (.func 105) [.ptr 50 0,.ptr 51 0]])]):=by
 have hC:=f0g t ht d hd L b hb
 refine a0k (fun _=>false) Tryz.func162 Tryz.ntmps162 rfl rfl fun G hG hOw hNm=>?_;simp only [go_sem,hG,hOw]
 (repeat' with_reducible first|refine And.intro ?_ ?_|intro _|refine exP ?_ ?_);all_goals try omega
 refine a0c [(0,50),(1,51),(2,52)] [] (hC) ?_
 simp (maxSteps:=2000000) only [go_sem,hG,hOw,↓d0y]
 (repeat' with_reducible first|refine And.intro ?_ ?_|intro _|refine exP ?_ ?_);all_goals try omega
 exact (a3t [(50,some 50),(51,some 51),(52,some 52),(53,some 53)])
theorem f7o (t:List Ch) (ht:a1r t=true) (l:List Dc) (hl:l.length≤1000) (hb:∀ d ∈ l,bdD d) :
  Tri Tryz.prog 206 [dcs 0 l,.fn (.func 162) [.ptr 53 0]] [(50,.box [.mp 52]),(51,.box [chs 0 t]),(52,.map (.int .i64) []),(53,.box [.fn (.func 105) [.ptr 50 0,.ptr 51 0]])]
   (fun _=>.ret (i64 (a9a (e5b t l) l.length)) []):=by
 refine a0k (fun _=>false) Tryz.func206 Tryz.ntmps206 rfl rfl fun G hG hOw hNm=>?_;simp only [go_sem,hG,hOw]
 refine a0i (fun k:Nat=>St.of [(0,dcs 0 l),(1,.fn (.func 162) [.ptr 53 0]),(7,i64 l.length),(8,i64 k)] [(50,.box [.mp 52]),(51,.box [chs 0 t]),(52,.map (.int .i64) (b3g (a8r Dc.num l k))),(53,.box [.fn (.func 105) [.ptr 50 0,.ptr 51 0]])]) (fun k=>k≤l.length∧∀ j,j < k→e5b t l j=false) (fun k=>l.length - k) 0 ⟨by simp,fun j h=>by omega⟩ (a1m [(50,some 50),(51,some 51),(52,some 52),(53,some 53)]) ?_
 rintro k ⟨hk,hall⟩
 by_cases hkl:k < l.length
 ·have hlt:(k:Int) < l.length:=by omega
  obtain ⟨d,hd⟩:∃ d,d=l[k]:=⟨_,rfl⟩
  have hbd:bdD d:=by rw [hd];exact hb _ (List.getElem_mem hkl)
  obtain ⟨tw,htw⟩:∃ tw,tw=(l.take k).any fun e=>decide (e.num=d.num):=⟨_,rfl⟩
  have hA:=g3y t ht d hbd (a8r Dc.num l k) tw (by rw [b2m,← htw])
  have hbad:e5b t l k=!(!tw && d3t t d):=by rw [c7x t l k hkl,← hd,b5f,htw]
  refine a0d _ _ _ ?_
  simp (maxSteps:=2000000) only [go_sem,hG,hOw,hlt,← hd]
  (repeat' with_reducible first|refine And.intro ?_ ?_|intro _|refine exP ?_ ?_);all_goals try omega
  refine a0c [(50,50),(51,51),(52,52),(53,53)] [] (hA) ?_
  cases hr:(!tw && d3t t d) with
  |false =>
   have hz:a9a (e5b t l) l.length=k:=d8i hkl (by rw [hbad,hr];rfl) hall
   rw [hz]
   simp only [go_sem,hG,hOw]
   (repeat' with_reducible first|refine And.intro ?_ ?_|intro _|refine exP ?_ ?_);all_goals try omega
   exact (a3t [])
  |true =>
   have htf:tw=false:=by cases tw<;>simp_all
   have hup:f6q (a8r Dc.num l k) d.num=a8r Dc.num l (k+1):=by
    unfold f6q
    rw [if_neg (by rw [b2m,← htw,htf];simp),a8r,a8r,a2l Dc.num l k hkl,hd]
   simp (maxSteps:=2000000) only [go_sem,hG,hOw,↓d0y,hup]
   (repeat' with_reducible first|refine And.intro ?_ ?_|intro _|refine exP ?_ ?_);all_goals try omega
   exact ⟨k+1,⟨by omega,fun j hj=>by
    by_cases hjk:j < k
    ·exact hall j hjk
    ·obtain rfl:j=k:=by omega
     rw [hbad,hr];rfl⟩,by omega,a1m [(50,some 50),(51,some 51),(52,some 52),(53,some 53)]⟩
 ·have hlt:¬ (k:Int) < l.length:=by omega
  have hke:k=l.length:=by omega
  subst hke
  have hz:a9a (e5b t l) l.length=-1:=e0i hall
  rw [hz]
  refine a0d _ _ _ ?_
  simp (maxSteps:=2000000) only [go_sem,hG,hOw,hlt]
  try (repeat' with_reducible first|refine And.intro ?_ ?_|intro _|refine exP ?_ ?_);all_goals try omega
  exact (a3t [])
theorem g5o (t:List Ch) (ht:a1r t=true) (l:List Dc) (hl:l.length≤1000) (hb:∀ d ∈ l,bdD d) :
  Tri Tryz.prog 104 [dcs 0 l,.fn (.func 105) [.ptr 50 0,.ptr 51 0]] [(50,.box [.mp 52]),(51,.box [chs 0 t]),(52,.map (.int .i64) [])]
   (fun _=>.ret (bl (a3g (b5f t) [] l)) []):=by
 have hI:=f7o t ht l hl hb
 have hC:Tri Tryz.prog 161 [dcs 0 l,.fn (.func 162) [.ptr 53 0]] [(50,.box [.mp 52]),(51,.box [chs 0 t]),(52,.map (.int .i64) []),(53,.box [.fn (.func 105) [.ptr 50 0,.ptr 51 0]])]
   (fun _=>.ret (bl (decide (0≤a9a (e5b t l) l.length))) []):=by
  refine a0k (fun _=>false) Tryz.func161 Tryz.ntmps161 rfl rfl fun G hG hOw hNm=>?_;simp only [go_sem,hG,hOw]
  (repeat' with_reducible first|refine And.intro ?_ ?_|intro _|refine exP ?_ ?_);all_goals try omega
  refine a0c [(50,50),(51,51),(52,52),(53,53)] [] (hI) ?_
  simp only [go_sem,hG,hOw]
  (repeat' with_reducible first|refine And.intro ?_ ?_|intro _|refine exP ?_ ?_);all_goals try omega
  exact (a3t [])
 rw [d3k]
 refine a0k (fun _=>false) Tryz.func104 Tryz.ntmps104 rfl rfl fun G hG hOw hNm=>?_;simp only [go_sem,hG,hOw]
 (repeat' with_reducible first|refine And.intro ?_ ?_|intro _|refine exP ?_ ?_);all_goals try omega
 refine a0c [(50,50),(51,51),(52,52),(53,3)] [] (hC) ?_
 simp only [go_sem,hG,hOw]
 (repeat' with_reducible first|refine And.intro ?_ ?_|intro _|refine exP ?_ ?_);all_goals try omega
 exact (a3t [])
def bdX (x:Lx):Prop:=(∀ r ∈ x.rules,bdR r)∧(∀ d ∈ x.decs,bdD d)∧x.rules.length≤1000∧x.decs.length≤1000
theorem d2k (t:List Ch) (x:Lx) (hb:bdX x):a0l Tryz.prog 32 [txE 0 t,lxE 0 x] (fun _=>i64 (b7u t x)):=by
 obtain ⟨h1,h2,h3,h4⟩:=hb
 cases ht:a1r t with
 |false =>
  have e:b7u t x=10:=by unfold b7u;rw [ht];rfl
  rw [e]
  refine a0b (ow:=fun _=>false) Tryz.func32 Tryz.ntmps32 rfl rfl fun G hG hOw hNm hB=>?_;simp only [go_sem,hG,hOw]
  refine a0a (a7o t) ?_
  simp (maxSteps:=2000000) only [go_sem,hG,hOw,ht]
  try (repeat' with_reducible first|refine And.intro ?_ ?_|intro _|refine exP ?_ ?_);all_goals try omega
 |true =>
  have e:b7u t x=if f9t t x then 0 else 40:=by unfold b7u;rw [ht];rfl
  have hD:=g5o t ht x.decs h4 h2
  have hR:=f6m x.rules h1
  rw [e]
  unfold f9t
  refine a0b (ow:=fun _=>false) Tryz.func32 Tryz.ntmps32 rfl rfl fun G hG hOw hNm hB=>?_;simp only [go_sem,hG,hOw]
  refine a0a (a7o t) ?_
  simp (maxSteps:=2000000) only [go_sem,hG,hOw,ht]
  (repeat' with_reducible first|refine And.intro ?_ ?_|intro _|refine exP ?_ ?_);all_goals try omega
  refine a0a hR ?_
  simp only [go_sem,hG,hOw]
  (repeat' with_reducible first|refine And.intro ?_ ?_|intro _|refine exP ?_ ?_);all_goals try omega
  refine a0c [(50,6),(51,2),(52,14)] [] (hD) ?_
  cases x.rules.all b6w with
  |false =>
   rw [Bool.and_false,Bool.false_and]
   simp only [go_sem,hG,hOw]
   try (repeat' with_reducible first|refine And.intro ?_ ?_|intro _|refine exP ?_ ?_);all_goals try omega
  |true =>
   cases a3g (b5f t) [] x.decs with
   |false =>
    rw [Bool.and_false]
    simp only [go_sem,hG,hOw]
    try (repeat' with_reducible first|refine And.intro ?_ ?_|intro _|refine exP ?_ ?_);all_goals try omega
   |true =>
    rw [Bool.and_true,Bool.and_true]
    by_cases q1:x.rules.length≤12
    ·have q1':¬ (12:Int) < x.rules.length:=by omega
     rw [decide_eq_true q1,Bool.true_and]
     by_cases q2:x.decs.length≤20
     ·have q2':¬ (20:Int) < x.decs.length:=by omega
      rw [decide_eq_true q2,if_pos rfl]
      simp (maxSteps:=2000000) only [go_sem,hG,hOw,decide_false,cond_false,cond_true,q1',q2',decide_eq_false q1',decide_eq_false q2']
      try (repeat' with_reducible first|refine And.intro ?_ ?_|intro _|refine exP ?_ ?_);all_goals try omega
     ·have q2':(20:Int) < x.decs.length:=by omega
      rw [decide_eq_false q2,if_neg (by decide)]
      simp (maxSteps:=2000000) only [go_sem,hG,hOw,decide_false,cond_false,cond_true,q1',q2',decide_eq_false q1',decide_eq_true q2']
      try (repeat' with_reducible first|refine And.intro ?_ ?_|intro _|refine exP ?_ ?_);all_goals try omega
    ·have q1':(12:Int) < x.rules.length:=by omega
     rw [decide_eq_false q1,Bool.false_and,if_neg (by decide)]
     simp (maxSteps:=2000000) only [go_sem,hG,hOw,q1',decide_eq_true q1']
     try (repeat' with_reducible first|refine And.intro ?_ ?_|intro _|refine exP ?_ ?_);all_goals try omega
end Go.Proofs.YtmjhfccbbfpppaaGreatDoor
