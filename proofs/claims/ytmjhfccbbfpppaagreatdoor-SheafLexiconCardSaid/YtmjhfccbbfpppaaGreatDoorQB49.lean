import Derived.Test.YtmjhfccbbfpppaaGreatDoorQB45
import Derived.Test.YtmjhfccbbfpppaaGreatDoorQB46
import Derived.Test.YtmjhfccbbfpppaaGreatDoorQB47
import Derived.Test.YtmjhfccbbfpppaaGreatDoorQB48
namespace Go.Proofs.YtmjhfccbbfpppaaGreatDoor
open Go Pm
set_option linter.unusedSimpArgs false
set_option linter.unusedVariables false
set_option maxHeartbeats 4000000
set_option maxRecDepth 100000
theorem f4a (t:List Ch) (ht:c1w t) (d:Dc) (hd:bdD d):a0l Tryz.prog 173 [txE 0 t,.agg (dcC d)] (fun _=>bl (c2h t d)):=by
 obtain ⟨num,kind,form,ch,ln,wd,stem,mark,of⟩:=d
 obtain ⟨h1,h2⟩:=hd
 simp only at h1 h2
 unfold c2h
 simp only [dcC,u8]
 by_cases k1:(kind.toNat:Int)=1
 ·rw [k1];exact g2g t ht num form ch ln wd stem mark of h1 h2
 by_cases k2:(kind.toNat:Int)=2
 ·rw [k2];exact g1v t ht num form ch ln wd stem mark of h1 h2
 by_cases k3:(kind.toNat:Int)=3
 ·rw [k3];exact g2x t ht num form ch ln wd stem mark of h1 h2
 by_cases k4:(kind.toNat:Int)=4
 ·rw [k4];exact g3p t ht num form ch ln wd stem mark of h1 h2
 have hf:b1p t kind.toNat num form ch ln wd stem mark of=false:=by unfold b1p;rw [if_neg k1,if_neg k2,if_neg k3,if_neg k4]
 rw [hf,Bool.and_false]
 have hN:=a8y num 1 999
 have hP:=b0e t ht ch ln wd
 cases hn:inB num 1 999 with
 |false =>
  rw [hn] at hN
  refine a0b (ow:=fun _=>false) Tryz.func173 Tryz.ntmps173 rfl rfl fun G hG hOw hNm hB=>?_;simp only [go_sem,hG,hOw]
  refine a0a hN ?_
  simp only [go_sem,hG,hOw]
  try (repeat' with_reducible first|apply And.intro|refine exP ?_ ?_|intro);all_goals try omega
 |true =>
  rw [hn] at hN
  refine a0b (ow:=fun _=>false) Tryz.func173 Tryz.ntmps173 rfl rfl fun G hG hOw hNm hB=>?_;simp only [go_sem,hG,hOw]
  refine a0a hN ?_
  simp only [go_sem,hG,hOw]
  (repeat' with_reducible first|apply And.intro|refine exP ?_ ?_|intro);all_goals try omega
  refine a0a hP ?_
  simp (maxSteps:=2000000) only [go_sem,hG,hOw,decide_eq_false k1,decide_eq_false k2,decide_eq_false k3,decide_eq_false k4]
  try (repeat' with_reducible first|apply And.intro|refine exP ?_ ?_|intro);all_goals try omega
theorem f8i (t:List Ch) (ht:c1w t) (x:Lx) (hb:bdX x):a0l Tryz.prog 119 [txE 0 t,lxE 0 x] (fun _=>bl (b1s t x)):=by
 obtain ⟨h1,h2,h3,h4⟩:=hb
 by_cases q1:x.rules.length≤12
 ·have q1':¬ (12:Int) < x.rules.length:=by omega
  by_cases q2:x.decs.length≤20
  ·have q2':¬ (20:Int) < x.decs.length:=by omega
   have eL:b1s t x=(x.rules.all a8a && a2i (a6p t) [] x.decs):=by unfold b1s;rw [decide_eq_true q1,decide_eq_true q2];rfl
   rw [eL]
   refine a0b (ow:=fun _=>false) Tryz.func119 Tryz.ntmps119 rfl rfl fun G hG hOw hNm hB=>?_;simp only [go_sem,hG,hOw]
   simp (maxSteps:=2000000) only [go_sem,hG,hOw,decide_false,cond_false,cond_true,q1',q2',decide_eq_false q1',decide_eq_false q2']
   try (repeat' with_reducible first|apply And.intro|refine exP ?_ ?_|intro);all_goals try omega
   refine a0k (fun k:Nat=>St.of [(2,.ptr 2 0),(3,.ptr 3 0),(5,i64 k)] [(2,.box [chs 0 t]),(3,.box (lxC 0 x))]) (fun k=>k≤x.rules.length∧(x.rules.take k).all a8a=true) (fun k=>x.rules.length - k) 0 (by simp) (a1m [(2,some 2),(3,some 3)]) ?_
   rintro k ⟨hk,hall⟩
   by_cases hkl:k < x.rules.length
   ·have hlt:(k:Int) < x.rules.length:=by omega
    obtain ⟨r,hr⟩:∃ r,r=x.rules[k]:=⟨_,rfl⟩
    have hR:=e8q r (h1 r (by rw [hr];exact List.getElem_mem hkl))
    refine a0d _ _ _ ?_
    simp (maxSteps:=2000000) only [go_sem,hG,hOw,hlt,← hr]
    (repeat' with_reducible first|apply And.intro|refine exP ?_ ?_|intro);all_goals try omega
    refine a0a hR ?_
    cases hb:a8a r with
    |false =>
     have e:(x.rules.all a8a && a2i (a6p t) [] x.decs)=false:=by rw [a4k hkl (by rw [← hr];exact hb),Bool.false_and]
     rw [e]
     simp only [go_sem,hG,hOw]
     try (repeat' with_reducible first|apply And.intro|refine exP ?_ ?_|intro);all_goals try omega
    |true =>
     simp only [go_sem,hG,hOw]
     (repeat' with_reducible first|apply And.intro|refine exP ?_ ?_|intro);all_goals try omega
     exact ⟨k+1,⟨by omega,a0u hkl hall (by rw [← hr];exact hb)⟩,by omega,a1m [(2,some 2),(3,some 3)]⟩
   ·have hlt:¬ (k:Int) < x.rules.length:=by omega
    rw [a1k hk hlt] at hall
    rw [hall,Bool.true_and]
    have hke:k=x.rules.length:=by omega
    subst hke
    refine a0d _ _ _ ?_
    simp (maxSteps:=2000000) only [go_sem,hG,hOw,hlt]
    try (repeat' with_reducible first|apply And.intro|refine exP ?_ ?_|intro);all_goals try omega
    refine a0k (fun k:Nat=>St.of [(2,.ptr 2 0),(3,.ptr 3 0),(6,i64 k)] [(2,.box [chs 0 t]),(3,.box (lxC 0 x))]) (fun k=>k≤x.decs.length∧a2i (a6p t) [] (x.decs.take k)=true) (fun k=>x.decs.length - k) 0 (by simp [a2i]) (a1m [(2,some 2),(3,some 3)]) ?_
    rintro k ⟨hk,hall⟩
    by_cases hkl:k < x.decs.length
    ·have hlt:(k:Int) < x.decs.length:=by omega
     obtain ⟨d,hd⟩:∃ d,d=x.decs[k]:=⟨_,rfl⟩
     have hD:=f4a t ht d (h2 d (by rw [hd];exact List.getElem_mem hkl))
     refine a0d _ _ _ ?_
     simp (maxSteps:=2000000) only [go_sem,hG,hOw,hlt]
     (repeat' with_reducible first|apply And.intro|refine exP ?_ ?_|intro);all_goals try omega
     refine a0s mixed (by kernel_rfl) ?_
     simp (maxSteps:=2000000) only [go_sem,hG,hOw,← hd]
     (repeat' with_reducible first|apply And.intro|refine exP ?_ ?_|intro);all_goals try omega
     refine ⟨_,a0f hD,?_⟩
     cases hb:c2h t d with
     |false =>
      have e:a2i (a6p t) [] x.decs=false:=a7s hkl (by unfold a6p;rw [← hd,hb,Bool.and_false])
      rw [e]
      simp only [go_sem,hG,hOw]
      try (repeat' with_reducible first|apply And.intro|refine exP ?_ ?_|intro);all_goals try omega
     |true =>
      simp only [go_sem,hG,hOw]
      (repeat' with_reducible first|apply And.intro|refine exP ?_ ?_|intro);all_goals try omega
      refine a0k (fun j:Nat=>St.of [(2,.ptr 2 0),(3,.ptr 3 0),(6,i64 k),(7,i64 j)] [(2,.box [chs 0 t]),(3,.box (lxC 0 x))]) (fun j=>j≤k∧∀ (i:Nat) (hi:i < x.decs.length),i < j→x.decs[i].num≠d.num) (fun j=>k - j) 0 ⟨by omega,fun i hi h=>by omega⟩ (a1m [(2,some 2),(3,some 3)]) ?_
      rintro j ⟨hj,hnot⟩
      by_cases hjk:j < k
      ·have hjt:(j:Int) < k:=by omega
       have hjl:j < x.decs.length:=by omega
       have hjl':(j:Int) < x.decs.length:=by omega
       refine a0d _ _ _ ?_
       simp (maxSteps:=2000000) only [go_sem,hG,hOw,hjt]
       (repeat' with_reducible first|apply And.intro|refine exP ?_ ?_|intro);all_goals try omega
       refine a0s mixed (by kernel_rfl) ?_
       by_cases hn:x.decs[j].num=d.num
       ·have e:a2i (a6p t) [] x.decs=false:=a7s hkl (by
         unfold a6p
         rw [← hd]
         have:((x.decs.take k).any fun e=>decide (e.num=d.num))=true:=List.any_eq_true.2 ⟨x.decs[j],by rw [List.mem_take_iff_getElem];exact ⟨j,by omega,rfl⟩,by simpa using hn⟩
         rw [this];rfl)
        rw [e]
        simp (maxSteps:=2000000) only [go_sem,hG,hOw,hlt,hjl',← hd,hn,decide_eq_true hn]
        try (repeat' with_reducible first|apply And.intro|refine exP ?_ ?_|intro);all_goals try omega
       ·simp (maxSteps:=2000000) only [go_sem,hG,hOw,hlt,hjl',← hd,decide_eq_false hn]
        try (repeat' with_reducible first|apply And.intro|refine exP ?_ ?_|intro);all_goals try omega
        exact ⟨j+1,⟨by omega,fun i hi hij=>by
         by_cases hij':i < j
         ·exact hnot i hi hij'
         ·obtain rfl:i=j:=by omega
          exact hn⟩,by omega,a1m [(2,some 2),(3,some 3)]⟩
      ·have hjt:¬ (j:Int) < k:=by omega
       refine a0d _ _ _ ?_
       simp (maxSteps:=2000000) only [go_sem,hG,hOw,hjt]
       try (repeat' with_reducible first|apply And.intro|refine exP ?_ ?_|intro);all_goals try omega
       exact ⟨k+1,⟨by omega,by
        rw [a6m _ _ _ hkl,hall,Bool.true_and]
        unfold a6p
        rw [← hd,hb,Bool.and_true,Bool.not_eq_true',List.any_eq_false]
        intro e he
        obtain ⟨i,hi,rfl⟩:=List.mem_iff_getElem.1 he
        rw [List.getElem_take]
        have:=hnot i (by simp at hi;omega) (by simp at hi;omega)
        simpa using this⟩,by omega,a1m [(2,some 2),(3,some 3)]⟩
    ·have hlt:¬ (k:Int) < x.decs.length:=by omega
     rw [a1k hk hlt] at hall
     rw [hall]
     refine a0d _ _ _ ?_
     simp (maxSteps:=2000000) only [go_sem,hG,hOw,hlt]
     try (repeat' with_reducible first|apply And.intro|refine exP ?_ ?_|intro);all_goals try omega
  ·have q2':(20:Int) < x.decs.length:=by omega
   have eL:b1s t x=false:=by unfold b1s;rw [decide_eq_false q2];simp
   rw [eL]
   refine a0b (ow:=fun _=>false) Tryz.func119 Tryz.ntmps119 rfl rfl fun G hG hOw hNm hB=>?_;simp only [go_sem,hG,hOw]
   simp (maxSteps:=2000000) only [go_sem,hG,hOw,decide_false,cond_false,cond_true,q1',q2',decide_eq_false q1',decide_eq_true q2']
   try (repeat' with_reducible first|apply And.intro|refine exP ?_ ?_|intro);all_goals try omega
 ·have q1':(12:Int) < x.rules.length:=by omega
  have eL:b1s t x=false:=by unfold b1s;rw [decide_eq_false q1];simp
  rw [eL]
  refine a0b (ow:=fun _=>false) Tryz.func119 Tryz.ntmps119 rfl rfl fun G hG hOw hNm hB=>?_;simp only [go_sem,hG,hOw]
  simp (maxSteps:=2000000) only [go_sem,hG,hOw,q1',decide_eq_true q1']
  try (repeat' with_reducible first|apply And.intro|refine exP ?_ ?_|intro);all_goals try omega
open Go Pm
def d6j (r:Rl):Bool:=decide ((100:Int) < r.cut.size) || decide ((100:Int) < r.put.size)
def d6k (d:Dc):Bool:=decide ((100:Int) < d.form.size) || decide ((100:Int) < d.stem.size)
def gtX (x:Lx):Bool:=decide ((20:Int) < x.rules.length) || decide ((25:Int) < x.decs.length) || x.rules.any d6j || x.decs.any d6k
theorem g0i {x:Lx} (h:gtX x=false):bdX x∧x.rules.length≤20∧x.decs.length≤25:=by
 unfold gtX at h
 simp only [Bool.or_eq_false_iff,decide_eq_false_iff_not,List.any_eq_false] at h
 obtain ⟨⟨⟨h1,h2⟩,h3⟩,h4⟩:=h
 refine ⟨⟨fun r hr=>?_,fun d hd=>?_,by omega,by omega⟩,by omega,by omega⟩
 ·have:=h3 r hr
  simp [d6j] at this
  exact ⟨by omega,by omega⟩
 ·have:=h4 d hd
  simp [d6k] at this
  exact ⟨by omega,by omega⟩
theorem d5c (x:Lx):a0l Tryz.prog 44 [lxE 0 x] (fun _=>bl (gtX x)):=by
 by_cases q1:(20:Int) < x.rules.length
 ·have e:gtX x=true:=by unfold gtX;rw [decide_eq_true q1];rfl
  rw [e]
  refine a0b (ow:=fun _=>false) Tryz.func44 Tryz.ntmps44 rfl rfl fun G hG hOw hNm hB=>?_;simp only [go_sem,hG,hOw]
  simp (maxSteps:=2000000) only [go_sem,hG,hOw,q1,decide_eq_true q1]
  try (repeat' with_reducible first|apply And.intro|refine exP ?_ ?_|intro);all_goals try omega
 by_cases q2:(25:Int) < x.decs.length
 ·have e:gtX x=true:=by unfold gtX;rw [decide_eq_false q1,decide_eq_true q2];rfl
  rw [e]
  refine a0b (ow:=fun _=>false) Tryz.func44 Tryz.ntmps44 rfl rfl fun G hG hOw hNm hB=>?_;simp only [go_sem,hG,hOw]
  simp (maxSteps:=2000000) only [go_sem,hG,hOw,decide_false,cond_false,cond_true,q1,q2,decide_eq_false q1,decide_eq_true q2]
  try (repeat' with_reducible first|apply And.intro|refine exP ?_ ?_|intro);all_goals try omega
 have eX:gtX x=(x.rules.any d6j || x.decs.any d6k):=by unfold gtX;rw [decide_eq_false q1,decide_eq_false q2];rfl
 rw [eX]
 refine a0b (ow:=fun _=>false) Tryz.func44 Tryz.ntmps44 rfl rfl fun G hG hOw hNm hB=>?_;simp only [go_sem,hG,hOw]
 simp (maxSteps:=2000000) only [go_sem,hG,hOw,decide_false,cond_false,cond_true,q1,q2,decide_eq_false q1,decide_eq_false q2]
 try (repeat' with_reducible first|apply And.intro|refine exP ?_ ?_|intro);all_goals try omega
 refine a0k (fun k:Nat=>St.of [(1,.ptr 1 0),(3,i64 k)] [(1,.box (lxC 0 x))]) (fun k=>k≤x.rules.length∧(x.rules.take k).all (fun r=>!d6j r)=true) (fun k=>x.rules.length - k) 0 (by simp) (a1m [(1,some 1)]) ?_
 rintro k ⟨hk,hall⟩
 by_cases hkl:k < x.rules.length
 ·have hlt:(k:Int) < x.rules.length:=by omega
  obtain ⟨r,hr⟩:∃ r,r=x.rules[k]:=⟨_,rfl⟩
  have yes:d6j r=true→(x.rules.any d6j || x.decs.any d6k)=true:=fun h=>by rw [a8b hkl (by rw [← hr];exact h)];rfl
  have ne:d6j r=false→∀ P:Prop,P→P:=fun _ _ h=>h
  refine a0d _ _ _ ?_
  by_cases z1:(100:Int) < r.cut.size
  ·rw [yes (by unfold d6j;rw [decide_eq_true z1];rfl)]
   simp (maxSteps:=2000000) only [go_sem,hG,hOw,hlt,← hr,z1,decide_eq_true z1]
   try (repeat' with_reducible first|apply And.intro|refine exP ?_ ?_|intro);all_goals try omega
  by_cases z2:(100:Int) < r.put.size
  ·rw [yes (by unfold d6j;rw [decide_eq_false z1,decide_eq_true z2];rfl)]
   simp (maxSteps:=2000000) only [go_sem,hG,hOw,hlt,← hr,z1,z2,decide_false,cond_false,cond_true,decide_eq_false z1,decide_eq_true z2]
   try (repeat' with_reducible first|apply And.intro|refine exP ?_ ?_|intro);all_goals try omega
  have hg:d6j r=false:=by unfold d6j;rw [decide_eq_false z1,decide_eq_false z2];rfl
  simp (maxSteps:=2000000) only [go_sem,hG,hOw,hlt,← hr,z1,z2,decide_false,cond_false,cond_true,decide_eq_false z1,decide_eq_false z2]
  (repeat' with_reducible first|apply And.intro|refine exP ?_ ?_|intro);all_goals try omega
  exact ⟨k+1,⟨by omega,a0u hkl hall (by rw [← hr,hg];rfl)⟩,by omega,a1m [(1,some 1)]⟩
 ·have hlt:¬ (k:Int) < x.rules.length:=by omega
  rw [a1k hk hlt] at hall
  have hno:x.rules.any d6j=false:=by
   rw [List.any_eq_false]
   intro r hr
   have:=List.all_eq_true.1 hall r hr
   simpa using this
  rw [hno,Bool.false_or]
  have hke:k=x.rules.length:=by omega
  subst hke
  refine a0d _ _ _ ?_
  simp (maxSteps:=2000000) only [go_sem,hG,hOw,hlt]
  try (repeat' with_reducible first|apply And.intro|refine exP ?_ ?_|intro);all_goals try omega
  refine a0k (fun k:Nat=>St.of [(1,.ptr 1 0),(4,i64 k)] [(1,.box (lxC 0 x))]) (fun k=>k≤x.decs.length∧(x.decs.take k).all (fun r=>!d6k r)=true) (fun k=>x.decs.length - k) 0 (by simp) (a1m [(1,some 1)]) ?_
  rintro k ⟨hk,hall⟩
  by_cases hkl:k < x.decs.length
  ·have hlt:(k:Int) < x.decs.length:=by omega
   obtain ⟨d,hd⟩:∃ d,d=x.decs[k]:=⟨_,rfl⟩
   have yes:d6k d=true→x.decs.any d6k=true:=fun h=>a8b hkl (by rw [← hd];exact h)
   refine a0d _ _ _ ?_
   by_cases z1:(100:Int) < d.form.size
   ·rw [yes (by unfold d6k;rw [decide_eq_true z1];rfl)]
    simp (maxSteps:=2000000) only [go_sem,hG,hOw,hlt,← hd,z1,decide_eq_true z1]
    try (repeat' with_reducible first|apply And.intro|refine exP ?_ ?_|intro);all_goals try omega
   by_cases z2:(100:Int) < d.stem.size
   ·rw [yes (by unfold d6k;rw [decide_eq_false z1,decide_eq_true z2];rfl)]
    simp (maxSteps:=2000000) only [go_sem,hG,hOw,hlt,← hd,z1,z2,decide_false,cond_false,cond_true,decide_eq_false z1,decide_eq_true z2]
    try (repeat' with_reducible first|apply And.intro|refine exP ?_ ?_|intro);all_goals try omega
   have hg:d6k d=false:=by unfold d6k;rw [decide_eq_false z1,decide_eq_false z2];rfl
   simp (maxSteps:=2000000) only [go_sem,hG,hOw,hlt,← hd,z1,z2,decide_false,cond_false,cond_true,decide_eq_false z1,decide_eq_false z2]
   (repeat' with_reducible first|apply And.intro|refine exP ?_ ?_|intro);all_goals try omega
   exact ⟨k+1,⟨by omega,a0u hkl hall (by rw [← hd,hg];rfl)⟩,by omega,a1m [(1,some 1)]⟩
  ·have hlt:¬ (k:Int) < x.decs.length:=by omega
   rw [a1k hk hlt] at hall
   have hno:x.decs.any d6k=false:=by
    rw [List.any_eq_false]
    intro r hr
    have:=List.all_eq_true.1 hall r hr
    simpa using this
   rw [hno]
   refine a0d _ _ _ ?_
   simp (maxSteps:=2000000) only [go_sem,hG,hOw,hlt]
   try (repeat' with_reducible first|apply And.intro|refine exP ?_ ?_|intro);all_goals try omega
theorem e1i (x:Lx) (hb:bdX x):a0l Tryz.prog 47 [lxE 0 x,lxE 0 x] (fun _=>bl true):=by
 obtain ⟨h1,h2,h3,h4⟩:=hb
 refine a0b (ow:=fun _=>false) Tryz.func47 Tryz.ntmps47 rfl rfl fun G hG hOw hNm hB=>?_;simp only [go_sem,hG,hOw]
 try (repeat' with_reducible first|apply And.intro|refine exP ?_ ?_|intro);all_goals try omega
 refine a0k (fun k:Nat=>St.of [(2,.ptr 2 0),(3,.ptr 3 0),(5,i64 k)] [(2,.box (lxC 0 x)),(3,.box (lxC 0 x))]) (fun k=>k≤x.rules.length) (fun k=>x.rules.length - k) 0 (by simp) (a1m [(2,some 2),(3,some 3)]) ?_
 rintro k hk
 by_cases hkl:k < x.rules.length
 ·have hlt:(k:Int) < x.rules.length:=by omega
  refine a0d _ _ _ ?_
  simp (maxSteps:=2000000) only [go_sem,hG,hOw,hlt]
  try (repeat' with_reducible first|apply And.intro|refine exP ?_ ?_|intro);all_goals try omega
  refine a0s mixed (by kernel_rfl) ?_
  simp (maxSteps:=2000000) only [go_sem,hG,hOw,hlt]
  try (repeat' with_reducible first|apply And.intro|refine exP ?_ ?_|intro);all_goals try omega
  exact ⟨k+1,by omega,by omega,a1m [(2,some 2),(3,some 3)]⟩
 ·have hlt:¬ (k:Int) < x.rules.length:=by omega
  refine a0d _ _ _ ?_
  simp (maxSteps:=2000000) only [go_sem,hG,hOw,hlt]
  try (repeat' with_reducible first|apply And.intro|refine exP ?_ ?_|intro);all_goals try omega
  refine a0k (fun k:Nat=>St.of [(2,.ptr 2 0),(3,.ptr 3 0),(6,i64 k)] [(2,.box (lxC 0 x)),(3,.box (lxC 0 x))]) (fun k=>k≤x.decs.length) (fun k=>x.decs.length - k) 0 (by simp) (a1m [(2,some 2),(3,some 3)]) ?_
  rintro k hk
  by_cases hkl:k < x.decs.length
  ·have hlt:(k:Int) < x.decs.length:=by omega
   refine a0d _ _ _ ?_
   simp (maxSteps:=2000000) only [go_sem,hG,hOw,hlt]
   try (repeat' with_reducible first|apply And.intro|refine exP ?_ ?_|intro);all_goals try omega
   refine a0s mixed (by kernel_rfl) ?_
   simp (maxSteps:=2000000) only [go_sem,hG,hOw,hlt]
   try (repeat' with_reducible first|apply And.intro|refine exP ?_ ?_|intro);all_goals try omega
   exact ⟨k+1,by omega,by omega,a1m [(2,some 2),(3,some 3)]⟩
  ·have hlt:¬ (k:Int) < x.decs.length:=by omega
   refine a0d _ _ _ ?_
   simp (maxSteps:=2000000) only [go_sem,hG,hOw,hlt]
   try (repeat' with_reducible first|apply And.intro|refine exP ?_ ?_|intro);all_goals try omega
theorem c4q (t:List Ch) (ht:OKt t) (x:Lx) (hb:bdX x):a0l Tryz.prog 45 [txE 0 t,lxE 0 x] (fun _=>i64 (a4w t x)):=by
 have hT:=d2v t ht.big
 have hL:=f8i t ht.big x hb
 cases h1:a1s t with
 |false =>
  have e:a4w t x=10:=by unfold a4w;rw [h1];rfl
  rw [h1] at hT
  rw [e]
  refine a0b (ow:=fun _=>false) Tryz.func45 Tryz.ntmps45 rfl rfl fun G hG hOw hNm hB=>?_;simp only [go_sem,hG,hOw]
  refine a0a hT ?_
  simp only [go_sem,hG,hOw]
  try (repeat' with_reducible first|apply And.intro|refine exP ?_ ?_|intro);all_goals try omega
 |true =>
  rw [h1] at hT
  cases h2:b1s t x with
  |false =>
   have e:a4w t x=40:=by unfold a4w;rw [h1,h2];rfl
   rw [h2] at hL
   rw [e]
   refine a0b (ow:=fun _=>false) Tryz.func45 Tryz.ntmps45 rfl rfl fun G hG hOw hNm hB=>?_;simp only [go_sem,hG,hOw]
   refine a0a hT ?_
   simp only [go_sem,hG,hOw]
   try (repeat' with_reducible first|apply And.intro|refine exP ?_ ?_|intro);all_goals try omega
   refine a0a hL ?_
   simp only [go_sem,hG,hOw]
   try (repeat' with_reducible first|apply And.intro|refine exP ?_ ?_|intro);all_goals try omega
  |true =>
   have e:a4w t x=0:=by unfold a4w;rw [h1,h2];rfl
   rw [h2] at hL
   rw [e]
   refine a0b (ow:=fun _=>false) Tryz.func45 Tryz.ntmps45 rfl rfl fun G hG hOw hNm hB=>?_;simp only [go_sem,hG,hOw]
   refine a0a hT ?_
   simp only [go_sem,hG,hOw]
   try (repeat' with_reducible first|apply And.intro|refine exP ?_ ?_|intro);all_goals try omega
   refine a0a hL ?_
   simp only [go_sem,hG,hOw]
   try (repeat' with_reducible first|apply And.intro|refine exP ?_ ?_|intro);all_goals try omega
end Go.Proofs.YtmjhfccbbfpppaaGreatDoor
