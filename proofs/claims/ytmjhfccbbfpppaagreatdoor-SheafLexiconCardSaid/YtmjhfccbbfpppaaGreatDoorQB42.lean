import Derived.Test.YtmjhfccbbfpppaaGreatDoorQB19
import Derived.Test.YtmjhfccbbfpppaaGreatDoorQB33
import Derived.Test.YtmjhfccbbfpppaaGreatDoorQB38
import Derived.Test.YtmjhfccbbfpppaaGreatDoorQB39
import Derived.Test.YtmjhfccbbfpppaaGreatDoorQB40
import Derived.Test.YtmjhfccbbfpppaaGreatDoorQB41
namespace Go.Proofs.YtmjhfccbbfpppaaGreatDoor
open Go Pm
set_option linter.unusedSimpArgs false
set_option linter.unusedVariables false
set_option maxHeartbeats 4000000
set_option maxRecDepth 100000
def a6p (t:List Ch) (pre:List Dc) (d:Dc):Bool:=!(pre.any fun e=>decide (e.num=d.num)) && c2h t d
def b1s (t:List Ch) (x:Lx):Bool:=decide (x.rules.length≤12) && decide (x.decs.length≤20) && x.rules.all a8a && a2i (a6p t) [] x.decs
def a4w (t:List Ch) (x:Lx):Int:=if a1s t then (if b1s t x then 0 else 40) else 10
def a9r (p:Nat→Bool) (n:Nat):Int:=match (List.range n).find? p with
 |some k=>(k:Int)
 |none=>-1
theorem e1m {p:Nat→Bool} {n k:Nat} (hk:k < n) (hp:p k=true) (h:∀ j,j < k→p j=false):a9r p n=k:=by
 unfold a9r
 cases hf:(List.range n).find? p with
 |none =>
  have:=List.find?_eq_none.1 hf k (by simpa using hk)
  exact absurd hp this
 |some j =>
  obtain ⟨hj,xs,ys,e,hall⟩:=List.find?_eq_some_iff_append.1 hf
  have hjk:¬ j < k:=fun h'=>by rw [h j h'] at hj;cases hj
  have hlen:xs.length=j∧∀ i,i < j→i ∈ xs:=by
   have h1:(List.range n)[xs.length]? = some j:=by rw [e];simp
   obtain ⟨h2,h3⟩:=List.getElem?_eq_some_iff.1 h1
   have h3:xs.length=j:=by simpa using h3
   refine ⟨h3,fun i hi=>?_⟩
   have h5:xs.length < n:=by simpa using h2
   have h4:(List.range n)[i]? = some i:=List.getElem?_range (by omega)
   rw [e,List.getElem?_append_left (by omega)] at h4
   exact List.mem_of_getElem? h4
  have hkj:¬ k < j:=fun h'=>by
   have:=hall k (hlen.2 k h')
   rw [hp] at this
   cases this
  simp only
  omega
theorem d8u {p:Nat→Bool} {n:Nat} (h:∀ j,j < n→p j=false):a9r p n=-1:=by
 unfold a9r
 rw [List.find?_eq_none.2 fun x hx=>by rw [h x (by simpa using hx)];simp]
theorem d3o {p:Nat→Bool} {n:Nat}:0≤a9r p n↔∃ k,k < n∧p k=true:=by
 unfold a9r
 cases hf:(List.range n).find? p with
 |none =>
  simp only
  refine ⟨fun h=>absurd h (by decide),fun ⟨k,hk,hp⟩=>?_⟩
  exact absurd hp (List.find?_eq_none.1 hf k (by simpa using hk))
 |some j =>
  simp only
  exact ⟨fun _=>⟨j,by simpa using List.mem_of_find?_eq_some hf,List.find?_some hf⟩,fun _=>by omega⟩
def dc0:Dc:=⟨0,0,⟨#[]⟩,0,0,0,⟨#[]⟩,0,0⟩
def e5w (t:List Ch) (l:List Dc) (k:Nat):Bool:=!a6p t (l.take k) (l.getD k dc0)
theorem c9g (t:List Ch) (l:List Dc) (k:Nat) (hk:k < l.length):e5w t l k=!a6p t (l.take k) l[k]:=by
 unfold e5w
 rw [List.getD_eq_getElem?_getD,List.getElem?_eq_getElem hk];rfl
theorem d4z (t:List Ch) (l:List Dc):a2i (a6p t) [] l=!decide (0≤a9r (e5w t l) l.length):=by
 have key:∀ k,k≤l.length→(a2i (a6p t) [] (l.take k)=true↔∀ j,j < k→e5w t l j=false):=by
  intro k
  induction k with
  |zero=>intro _;simp [a2i]
  |succ k ih =>
   intro hk
   have h1:=a6m (a6p t) l k (by omega)
   rw [h1,Bool.and_eq_true,ih (by omega)]
   constructor
   ·rintro ⟨a,b⟩ j hj
    by_cases hjk:j < k
    ·exact a j hjk
    ·obtain rfl:j=k:=by omega
     rw [c9g t l j (by omega),b];rfl
   ·intro a
    refine ⟨fun j hj=>a j (by omega),?_⟩
    have:=a k (by omega)
    rw [c9g t l k (by omega)] at this
    simpa using this
 have hl:=key l.length (Nat.le_refl _)
 rw [List.take_length] at hl
 rw [Bool.eq_iff_iff,hl]
 simp only [Bool.not_eq_true',decide_eq_false_iff_not,d3o,not_exists,not_and,Bool.not_eq_true]
theorem d3a (t:List Ch) (ht:a1s t=true) (d:Dc) (hd:bdD d):a0l Tryz.prog 106 [txE 0 t,.agg (dcC d)] (fun _=>bl (c2h t d)):=by
 obtain ⟨num,kind,form,ch,ln,wd,stem,mark,of⟩:=d
 obtain ⟨h1,h2⟩:=hd
 simp only at h1 h2
 unfold c2h
 simp only [dcC,u8]
 by_cases k1:(kind.toNat:Int)=1
 ·rw [k1];exact g6d t ht num form ch ln wd stem mark of h1 h2
 by_cases k2:(kind.toNat:Int)=2
 ·rw [k2];exact g7q t ht num form ch ln wd stem mark of h1 h2
 by_cases k3:(kind.toNat:Int)=3
 ·rw [k3];exact g7c t ht num form ch ln wd stem mark of h1 h2
 by_cases k4:(kind.toNat:Int)=4
 ·rw [k4];exact g5i t ht num form ch ln wd stem mark of h1 h2
 have hf:b1p t kind.toNat num form ch ln wd stem mark of=false:=by unfold b1p;rw [if_neg k1,if_neg k2,if_neg k3,if_neg k4]
 rw [hf,Bool.and_false]
 have hk:inB kind.toNat 1 4=false:=by simp [inB];omega
 have hK:=a4q 1 4 kind.toNat
 rw [hk] at hK
 have hlt:kind.toNat < 256:=kind.toNat_lt
 refine a0b (ow:=fun _=>false) Tryz.func106 Tryz.ntmps106 rfl rfl fun G hG hOw hNm hB=>?_;simp only [go_sem,hG,hOw]
 try (repeat' with_reducible first|apply And.intro|refine exP ?_ ?_|intro);all_goals try omega
 refine a0a hK ?_
 simp only [go_sem,hG,hOw]
 try (repeat' with_reducible first|apply And.intro|refine exP ?_ ?_|intro);all_goals try omega
def f9s (L:List Int) (n:Int):List Int:=if (L.any fun x=>decide (x=n))=true then L else L++[n]
theorem f5r (L:List Int) (n:Int):upM (b3u L) (.int .i64 n) (.v (.bool true))=b3u (f9s L n):=by
 unfold f9s
 split
 ·rename_i h
  induction L with
  |nil=>simp at h
  |cons x r ih =>
   simp only [b3u,List.map_cons,upM,b3e]
   by_cases hx:x=n
   ·simp [hx]
   ·simp only [hx,decide_false,Bool.false_eq_true,if_false,List.cons.injEq,true_and]
    simp only [List.any_cons,hx,decide_false,Bool.false_or] at h
    exact ih h
 ·rename_i h
  exact d7b L n ((Bool.not_eq_true _).mp h)
theorem d2u (L:List Int) (ρ:Ren):(b3u L).map (fun e=>(e.1,b8b ρ 4 e.2))=b3u L:=by
 unfold b3u
 rw [List.map_map]
 rfl
theorem e6f (t:List Ch) (ht:a1s t=true) (d:Dc) (hd:bdD d) (L:List Int) (b:Bool) (hb:(L.any fun x=>decide (x=d.num))=b) :
  Tri Tryz.prog 105 [.agg (dcC d),.ptr 0 0,.ptr 1 0] [(0,.box [.mp 2]),(1,.box [chs 0 t]),(2,.map (.int .i64) (b3u L))]
   (fun _=>.ret (bl (!b && c2h t d)) [(0,.box [.mp 2]),(1,.box [chs 0 t]),(2,.map (.int .i64) (b3u (f9s L d.num)))]):=by
 have hD:=d3a t ht d hd
 have hl:=d7h L d.num
 have hu:=f5r L d.num
 rw [hb] at hl
 cases b with
 |true =>
  refine a0e (fun _=>false) Tryz.func105 Tryz.ntmps105 rfl rfl fun G hG hOw hNm=>?_;simp only [go_sem,hG,hOw]
  simp (maxSteps:=2000000) only [go_sem,hG,hOw,hl,hu]
  (repeat' with_reducible first|apply And.intro|refine exP ?_ ?_|intro);all_goals try omega
  exact (a2o [(0,some 0),(1,some 1),(2,some 2)])
 |false =>
  rw [show (!false && c2h t d)=c2h t d by simp]
  refine a0e (fun _=>false) Tryz.func105 Tryz.ntmps105 rfl rfl fun G hG hOw hNm=>?_;simp only [go_sem,hG,hOw]
  simp (maxSteps:=2000000) only [go_sem,hG,hOw,hl,hu]
  (repeat' with_reducible first|apply And.intro|refine exP ?_ ?_|intro);all_goals try omega
  refine a0a hD ?_
  simp only [go_sem,hG,hOw]
  (repeat' with_reducible first|apply And.intro|refine exP ?_ ?_|intro);all_goals try omega
  exact (a2o [(0,some 0),(1,some 1),(2,some 2)])
theorem g6i (t:List Ch) (ht:a1s t=true) (d:Dc) (hd:bdD d) (L:List Int) (b:Bool) (hb:(L.any fun x=>decide (x=d.num))=b) :
  Tri Tryz.prog 162 [.agg (dcC d),.ptr 53 0] [(50,.box [.mp 52]),(51,.box [chs 0 t]),(52,.map (.int .i64) (b3u L)),(53,.box [.fn (.func 105) [.ptr 50 0,.ptr 51 0]])]
   (fun _=>.ret (bl (!(!b && c2h t d))) [(50,.box [.mp 52]),(51,.box [chs 0 t]),(52,.map (.int .i64) (b3u (f9s L d.num))),(53,.box [.fn (.func 105) [.ptr 50 0,.ptr 51 0]])]):=by
 have hC:=e6f t ht d hd L b hb
 refine a0e (fun _=>false) Tryz.func162 Tryz.ntmps162 rfl rfl fun G hG hOw hNm=>?_;simp only [go_sem,hG,hOw]
 (repeat' with_reducible first|apply And.intro|refine exP ?_ ?_|intro);all_goals try omega
 refine a0c [(0,50),(1,51),(2,52)] [] (hC) ?_
 simp (maxSteps:=2000000) only [go_sem,hG,hOw,↓d2u]
 (repeat' with_reducible first|apply And.intro|refine exP ?_ ?_|intro);all_goals try omega
 exact (a2o [(50,some 50),(51,some 51),(52,some 52),(53,some 53)])
theorem g1t (t:List Ch) (ht:a1s t=true) (l:List Dc) (hl:l.length≤1000) (hb:∀ d ∈ l,bdD d) :
  Tri Tryz.prog 206 [dcs 0 l,.fn (.func 162) [.ptr 53 0]] [(50,.box [.mp 52]),(51,.box [chs 0 t]),(52,.map (.int .i64) []),(53,.box [.fn (.func 105) [.ptr 50 0,.ptr 51 0]])]
   (fun _=>.ret (i64 (a9r (e5w t l) l.length)) []):=by
 refine a0e (fun _=>false) Tryz.func206 Tryz.ntmps206 rfl rfl fun G hG hOw hNm=>?_;simp only [go_sem,hG,hOw]
 refine a0k (fun k:Nat=>St.of [(0,dcs 0 l),(1,.fn (.func 162) [.ptr 53 0]),(7,i64 l.length),(8,i64 k)] [(50,.box [.mp 52]),(51,.box [chs 0 t]),(52,.map (.int .i64) (b3u (a9i Dc.num l k))),(53,.box [.fn (.func 105) [.ptr 50 0,.ptr 51 0]])]) (fun k=>k≤l.length∧∀ j,j < k→e5w t l j=false) (fun k=>l.length - k) 0 ⟨by simp,fun j h=>by omega⟩ (a1m [(50,some 50),(51,some 51),(52,some 52),(53,some 53)]) ?_
 rintro k ⟨hk,hall⟩
 by_cases hkl:k < l.length
 ·have hlt:(k:Int) < l.length:=by omega
  obtain ⟨d,hd⟩:∃ d,d=l[k]:=⟨_,rfl⟩
  have hbd:bdD d:=by rw [hd];exact hb _ (List.getElem_mem hkl)
  obtain ⟨tw,htw⟩:∃ tw,tw=(l.take k).any fun e=>decide (e.num=d.num):=⟨_,rfl⟩
  have hA:=g6i t ht d hbd (a9i Dc.num l k) tw (by rw [b2r,← htw])
  have hbad:e5w t l k=!(!tw && c2h t d):=by rw [c9g t l k hkl,← hd,a6p,htw]
  refine a0d _ _ _ ?_
  simp (maxSteps:=2000000) only [go_sem,hG,hOw,hlt,← hd]
  (repeat' with_reducible first|apply And.intro|refine exP ?_ ?_|intro);all_goals try omega
  refine a0c [(50,50),(51,51),(52,52),(53,53)] [] (hA) ?_
  cases hr:(!tw && c2h t d) with
  |false =>
   have hz:a9r (e5w t l) l.length=k:=e1m hkl (by rw [hbad,hr];rfl) hall
   rw [hz]
   simp only [go_sem,hG,hOw]
   (repeat' with_reducible first|apply And.intro|refine exP ?_ ?_|intro);all_goals try omega
   exact (a2o [])
  |true =>
   have htf:tw=false:=by cases tw<;>simp_all
   have hup:f9s (a9i Dc.num l k) d.num=a9i Dc.num l (k+1):=by
    unfold f9s
    rw [if_neg (by rw [b2r,← htw,htf];simp),a9i,a9i,a3d Dc.num l k hkl,hd]
   simp (maxSteps:=2000000) only [go_sem,hG,hOw,↓d2u,hup]
   (repeat' with_reducible first|apply And.intro|refine exP ?_ ?_|intro);all_goals try omega
   exact ⟨k+1,⟨by omega,fun j hj=>by
    by_cases hjk:j < k
    ·exact hall j hjk
    ·obtain rfl:j=k:=by omega
     rw [hbad,hr];rfl⟩,by omega,a1m [(50,some 50),(51,some 51),(52,some 52),(53,some 53)]⟩
 ·have hlt:¬ (k:Int) < l.length:=by omega
  have hke:k=l.length:=by omega
  subst hke
  have hz:a9r (e5w t l) l.length=-1:=d8u hall
  rw [hz]
  refine a0d _ _ _ ?_
  simp (maxSteps:=2000000) only [go_sem,hG,hOw,hlt]
  try (repeat' with_reducible first|apply And.intro|refine exP ?_ ?_|intro);all_goals try omega
  exact (a2o [])
theorem g8z (t:List Ch) (ht:a1s t=true) (l:List Dc) (hl:l.length≤1000) (hb:∀ d ∈ l,bdD d) :
  Tri Tryz.prog 104 [dcs 0 l,.fn (.func 105) [.ptr 50 0,.ptr 51 0]] [(50,.box [.mp 52]),(51,.box [chs 0 t]),(52,.map (.int .i64) [])]
   (fun _=>.ret (bl (a2i (a6p t) [] l)) []):=by
 have hI:=g1t t ht l hl hb
 have hC:Tri Tryz.prog 161 [dcs 0 l,.fn (.func 162) [.ptr 53 0]] [(50,.box [.mp 52]),(51,.box [chs 0 t]),(52,.map (.int .i64) []),(53,.box [.fn (.func 105) [.ptr 50 0,.ptr 51 0]])]
   (fun _=>.ret (bl (decide (0≤a9r (e5w t l) l.length))) []):=by
  refine a0e (fun _=>false) Tryz.func161 Tryz.ntmps161 rfl rfl fun G hG hOw hNm=>?_;simp only [go_sem,hG,hOw]
  (repeat' with_reducible first|apply And.intro|refine exP ?_ ?_|intro);all_goals try omega
  refine a0c [(50,50),(51,51),(52,52),(53,53)] [] (hI) ?_
  simp only [go_sem,hG,hOw]
  (repeat' with_reducible first|apply And.intro|refine exP ?_ ?_|intro);all_goals try omega
  exact (a2o [])
 rw [d4z]
 refine a0e (fun _=>false) Tryz.func104 Tryz.ntmps104 rfl rfl fun G hG hOw hNm=>?_;simp only [go_sem,hG,hOw]
 (repeat' with_reducible first|apply And.intro|refine exP ?_ ?_|intro);all_goals try omega
 refine a0c [(50,50),(51,51),(52,52),(53,3)] [] (hC) ?_
 simp only [go_sem,hG,hOw]
 (repeat' with_reducible first|apply And.intro|refine exP ?_ ?_|intro);all_goals try omega
 exact (a2o [])
def bdX (x:Lx):Prop:=(∀ r ∈ x.rules,bdR r)∧(∀ d ∈ x.decs,bdD d)∧x.rules.length≤1000∧x.decs.length≤1000
theorem b3b (t:List Ch) (x:Lx) (hb:bdX x):a0l Tryz.prog 32 [txE 0 t,lxE 0 x] (fun _=>i64 (a4w t x)):=by
 obtain ⟨h1,h2,h3,h4⟩:=hb
 cases ht:a1s t with
 |false =>
  have e:a4w t x=10:=by unfold a4w;rw [ht];rfl
  rw [e]
  refine a0b (ow:=fun _=>false) Tryz.func32 Tryz.ntmps32 rfl rfl fun G hG hOw hNm hB=>?_;simp only [go_sem,hG,hOw]
  refine a0a (a5x t) ?_
  simp (maxSteps:=2000000) only [go_sem,hG,hOw,ht]
  try (repeat' with_reducible first|apply And.intro|refine exP ?_ ?_|intro);all_goals try omega
 |true =>
  have e:a4w t x=if b1s t x then 0 else 40:=by unfold a4w;rw [ht];rfl
  have hD:=g8z t ht x.decs h4 h2
  have hR:=f9d x.rules h1
  rw [e]
  unfold b1s
  refine a0b (ow:=fun _=>false) Tryz.func32 Tryz.ntmps32 rfl rfl fun G hG hOw hNm hB=>?_;simp only [go_sem,hG,hOw]
  refine a0a (a5x t) ?_
  simp (maxSteps:=2000000) only [go_sem,hG,hOw,ht]
  (repeat' with_reducible first|apply And.intro|refine exP ?_ ?_|intro);all_goals try omega
  refine a0a hR ?_
  simp only [go_sem,hG,hOw]
  (repeat' with_reducible first|apply And.intro|refine exP ?_ ?_|intro);all_goals try omega
  refine a0c [(50,6),(51,2),(52,14)] [] (hD) ?_
  cases x.rules.all a8a with
  |false =>
   rw [Bool.and_false,Bool.false_and]
   simp only [go_sem,hG,hOw]
   try (repeat' with_reducible first|apply And.intro|refine exP ?_ ?_|intro);all_goals try omega
  |true =>
   cases a2i (a6p t) [] x.decs with
   |false =>
    rw [Bool.and_false]
    simp only [go_sem,hG,hOw]
    try (repeat' with_reducible first|apply And.intro|refine exP ?_ ?_|intro);all_goals try omega
   |true =>
    rw [Bool.and_true,Bool.and_true]
    by_cases q1:x.rules.length≤12
    ·have q1':¬ (12:Int) < x.rules.length:=by omega
     rw [decide_eq_true q1,Bool.true_and]
     by_cases q2:x.decs.length≤20
     ·have q2':¬ (20:Int) < x.decs.length:=by omega
      rw [decide_eq_true q2,if_pos rfl]
      simp (maxSteps:=2000000) only [go_sem,hG,hOw,decide_false,cond_false,cond_true,q1',q2',decide_eq_false q1',decide_eq_false q2']
      try (repeat' with_reducible first|apply And.intro|refine exP ?_ ?_|intro);all_goals try omega
     ·have q2':(20:Int) < x.decs.length:=by omega
      rw [decide_eq_false q2,if_neg (by decide)]
      simp (maxSteps:=2000000) only [go_sem,hG,hOw,decide_false,cond_false,cond_true,q1',q2',decide_eq_false q1',decide_eq_true q2']
      try (repeat' with_reducible first|apply And.intro|refine exP ?_ ?_|intro);all_goals try omega
    ·have q1':(12:Int) < x.rules.length:=by omega
     rw [decide_eq_false q1,Bool.false_and,if_neg (by decide)]
     simp (maxSteps:=2000000) only [go_sem,hG,hOw,q1',decide_eq_true q1']
     try (repeat' with_reducible first|apply And.intro|refine exP ?_ ?_|intro);all_goals try omega
open Go Pm
theorem a8y (n lo hi:Int):a0l Tryz.prog 220 [i64 n,i64 lo,i64 hi] (fun _=>bl (inB n lo hi)):=by
 refine a0b (ow:=fun _=>false) Tryz.func220 Tryz.ntmps220 rfl rfl fun G hG hOw hNm hB=>?_;simp only [go_sem,hG,hOw]
 (repeat' with_reducible first|apply And.intro|refine exP ?_ ?_|intro);all_goals try omega
 all_goals (rename_i h;simp [inB,h])
theorem b7u (s:ByteArray) (lo:Int) (hs:s.size≤100000):a0l Tryz.prog 219 [str s,i64 lo] (fun _=>bl (a2r s lo)):=by
 refine a0b (ow:=fun _=>false) Tryz.func219 Tryz.ntmps219 rfl rfl fun G hG hOw hNm hB=>?_;simp only [go_sem,hG,hOw]
 have bad:∀ j (h:j < s.size),a1i s[j]=false→false=a2r s lo:=fun j h h'=>by
  unfold a2r
  rw [a4k (l:=s.data.toList) (k:=j) (by simpa using h) (by rw [b7i _ _ h];exact h'),Bool.and_false]
 refine a0k (fun j:Nat=>St.of [(0,.v (.string s)),(1,i64 lo),(5,i64 j)] []) (fun j=>j≤s.size∧(s.data.toList.take j).all a1i=true) (fun j=>s.size - j) 0 (by simp) (a0y (by (simp only [go_sem])<;>simp) hNm) ?_
 rintro j ⟨hj,hall⟩
 refine a0d _ _ _ ?_;simp only [go_sem,hG,hOw]
 (repeat' with_reducible first|apply And.intro|refine exP ?_ ?_|intro);all_goals try omega
 ·exact bad j (by omega) (by simp [a1i];omega)
 ·refine ⟨j+1,⟨by omega,a0u (by simp;omega) hall ?_⟩,by omega,a0y (by (simp only [go_sem])<;>simp) hNm⟩
  rw [b7i _ _ (by omega)]
  simp [a1i];omega
 ·exact bad j (by omega) (by simp [a1i];omega)
 ·rename_i hge
  refine a0a (a8y _ _ _) ?_
  simp only [go_sem,hG,hOw]
  rw [a1k (by simpa using hj) (by simpa using hge)] at hall
  unfold a2r
  rw [hall,Bool.and_true]
theorem e8q (r:Rl) (h:bdR r):a0l Tryz.prog 172 [.agg (rlC r)] (fun _=>bl (a8a r)):=by
 obtain ⟨h1,h2⟩:=h
 have c1:=b7u r.cut 1 (by omega)
 have c2:=b7u r.put 0 (by omega)
 have c3:=a8y r.least 1 12
 unfold a8a
 refine a0b (ow:=fun _=>false) Tryz.func172 Tryz.ntmps172 rfl rfl fun G hG hOw hNm hB=>?_;simp only [go_sem,hG,hOw]
 refine a0a c1 ?_
 cases a2r r.cut 1 with
 |false =>
  simp only [go_sem,hG,hOw]
  try (repeat' with_reducible first|apply And.intro|refine exP ?_ ?_|intro);all_goals try omega
 |true =>
  simp only [go_sem,hG,hOw]
  (repeat' with_reducible first|apply And.intro|refine exP ?_ ?_|intro);all_goals try omega
  refine a0a c2 ?_
  cases a2r r.put 0 with
  |false =>
   simp only [go_sem,hG,hOw]
   try (repeat' with_reducible first|apply And.intro|refine exP ?_ ?_|intro);all_goals try omega
  |true =>
   by_cases he:r.cut=r.put
   ·rw [decide_eq_true he]
    simp (maxSteps:=2000000) only [go_sem,hG,hOw,decide_eq_true he]
    try (repeat' with_reducible first|apply And.intro|refine exP ?_ ?_|intro);all_goals try omega
   ·rw [decide_eq_false he]
    simp (maxSteps:=2000000) only [go_sem,hG,hOw,decide_eq_false he]
    (repeat' with_reducible first|apply And.intro|refine exP ?_ ?_|intro);all_goals try omega
    refine a0a c3 ?_
    simp only [go_sem,hG,hOw]
    try (repeat' with_reducible first|apply And.intro|refine exP ?_ ?_|intro);all_goals try omega
theorem b5e (stem:ByteArray) (mark:UInt8) (hs:stem.size≤100000):a0l Tryz.prog 222 [.agg [str stem,u8 mark]] (fun _=>bl (a5l stem mark)):=by
 have hm:inB mark.toNat 0 3=decide ((mark.toNat:Int)≤3):=by
  unfold inB
  rw [decide_eq_true (by omega:(0:Int)≤mark.toNat),Bool.true_and]
 have hlt:mark.toNat < 256:=mark.toNat_lt
 have c2:=a8y mark.toNat 0 3
 rw [hm] at c2
 unfold a5l
 refine a0b (ow:=fun _=>false) Tryz.func222 Tryz.ntmps222 rfl rfl fun G hG hOw hNm hB=>?_;simp only [go_sem,hG,hOw]
 refine a0a (b3z stem (by omega)) ?_
 cases a1f stem with
 |false =>
  simp only [go_sem,hG,hOw]
  try (repeat' with_reducible first|apply And.intro|refine exP ?_ ?_|intro);all_goals try omega
 |true =>
  simp only [go_sem,hG,hOw]
  (repeat' with_reducible first|apply And.intro|refine exP ?_ ?_|intro);all_goals try omega
  refine a0a c2 ?_
  simp only [go_sem,hG,hOw]
  try (repeat' with_reducible first|apply And.intro|refine exP ?_ ?_|intro);all_goals try omega
theorem b0e (t:List Ch) (ht:c1w t) (a b w:Int):a0l Tryz.prog 221 [txE 0 t,plV a b w] (fun _=>bl (a2z t a b w)):=by
 unfold a2z
 cases h:a4x t a b with
 |some l =>
  have hl:=b6w ht h
  refine a0b (ow:=fun _=>false) Tryz.func221 Tryz.ntmps221 rfl rfl fun G hG hOw hNm hB=>?_;simp only [go_sem,hG,hOw]
  refine a0a (e0h t ht a b w l h) ?_
  simp only [go_sem,hG,hOw]
  (repeat' with_reducible first|apply And.intro|refine exP ?_ ?_|intro);all_goals try omega
  refine a0a (a3a w 0 ((l.length:Int) - 1)) ?_
  simp only [go_sem,hG,hOw]
  try (repeat' with_reducible first|apply And.intro|refine exP ?_ ?_|intro);all_goals try omega
 |none =>
  refine a0b (ow:=fun _=>false) Tryz.func221 Tryz.ntmps221 rfl rfl fun G hG hOw hNm hB=>?_;simp only [go_sem,hG,hOw]
  refine a0a (e8y t ht a b w h) ?_
  simp only [go_sem,hG,hOw]
  try (repeat' with_reducible first|apply And.intro|refine exP ?_ ?_|intro);all_goals try omega
end Go.Proofs.YtmjhfccbbfpppaaGreatDoor
