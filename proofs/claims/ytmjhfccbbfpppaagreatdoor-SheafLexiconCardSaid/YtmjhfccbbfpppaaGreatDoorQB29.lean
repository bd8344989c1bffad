import Derived.Test.YtmjhfccbbfpppaaGreatDoorQB13
import Derived.Test.YtmjhfccbbfpppaaGreatDoorQB14
import Derived.Test.YtmjhfccbbfpppaaGreatDoorQB16
import Derived.Test.YtmjhfccbbfpppaaGreatDoorQB22
import Derived.Test.YtmjhfccbbfpppaaGreatDoorQB28
namespace Go.Proofs.YtmjhfccbbfpppaaGreatDoor
open Go Pm
set_option linter.unusedSimpArgs false
set_option linter.unusedVariables false
set_option maxHeartbeats 4000000
set_option maxRecDepth 100000
theorem d2f (a:Int):a0l Tryz.prog 231 [i64 a] (fun _=>bl false):=by
 refine a0b (ow:=fun _=>false) Tryz.func231 Tryz.ntmps231 rfl rfl fun G hG hOw hNm hB=>?_;simp only [go_sem,hG,hOw]
 all_goals simp [bl]
theorem a4b (a b:Int):a0l Tryz.prog 182 [i64 a,i64 b] (fun _=>i64 (c2s a b)):=by
 refine a0b (ow:=fun _=>false) Tryz.func182 Tryz.ntmps182 rfl rfl fun G hG hOw hNm hB=>?_;simp only [go_sem,hG,hOw]
 refine a0a (d2f a) ?_
 simp only [go_sem,hG,hOw]
 refine a0a (d2f b) ?_
 simp only [go_sem,hG,hOw]
 unfold c2s
 (repeat' with_reducible first|apply And.intro|refine exP ?_ ?_|intro);all_goals try omega
 all_goals (first|(rename_i h1 h2;simp [h1,h2])|(rename_i h1;simp [h1])|skip)
theorem g2s (a b c:Int):a0l Tryz.prog 153 [.lst 0 1 [[i64 a],[i64 b],[i64 c]]] (fun _=>i64 (or3 a b c)):=by
 refine a0b (ow:=fun _=>false) Tryz.func153 Tryz.ntmps153 rfl rfl fun G hG hOw hNm hB=>?_;simp only [go_sem,hG,hOw]
 (repeat' with_reducible first|apply And.intro|refine exP ?_ ?_|intro);all_goals try omega
 refine a0k (fun k:Nat=>St.of [(3,i64 0),(6,.lst 0 1 [[i64 a],[i64 b],[i64 c]]),(7,i64 3),(8,i64 k)] []) (fun k=>k≤3∧(0 < k→a=0)∧(1 < k→b=0)∧(2 < k→c=0)) (fun k=>3 - k) 0 (by simp) (a0y (by (simp only [go_sem])<;>simp) hNm) ?_
 rintro k ⟨hk,h1,h2,h3⟩
 have c0:((0:Nat):Int)=0:=rfl
 have c1:((1:Nat):Int)=1:=rfl
 have c2:((2:Nat):Int)=2:=rfl
 have c3:((3:Nat):Int)=3:=rfl
 have i1:Int.toNat 1=1:=rfl
 have i2:Int.toNat 2=2:=rfl
 have hk3:k=0∨k=1∨k=2∨k=3:=by omega
 rcases hk3 with rfl|rfl|rfl|rfl
 ·refine a0d _ _ _ ?_
  simp (maxSteps:=2000000) only [go_sem,hG,hOw,c0,c1,c2,c3,i1,i2,List.getElem_cons_zero,List.getElem_cons_succ]
  (repeat' with_reducible first|apply And.intro|refine exP ?_ ?_|intro);all_goals try omega
  ·rename_i h;simp [or3,h]
  ·rename_i h
   exact ⟨1,⟨by omega,fun _=>h,fun h=>by omega,fun h=>by omega⟩,by omega,a0y (by (simp only [go_sem])<;>simp) hNm⟩
 ·have ha:=h1 (by omega)
  refine a0d _ _ _ ?_
  simp (maxSteps:=2000000) only [go_sem,hG,hOw,c0,c1,c2,c3,i1,i2,List.getElem_cons_zero,List.getElem_cons_succ]
  (repeat' with_reducible first|apply And.intro|refine exP ?_ ?_|intro);all_goals try omega
  ·rename_i h;simp [or3,ha,h]
  ·rename_i h
   exact ⟨2,⟨by omega,fun _=>ha,fun _=>h,fun h=>by omega⟩,by omega,a0y (by (simp only [go_sem])<;>simp) hNm⟩
 ·have ha:=h1 (by omega)
  have hb:=h2 (by omega)
  refine a0d _ _ _ ?_
  simp (maxSteps:=2000000) only [go_sem,hG,hOw,c0,c1,c2,c3,i1,i2,List.getElem_cons_zero,List.getElem_cons_succ]
  (repeat' with_reducible first|apply And.intro|refine exP ?_ ?_|intro);all_goals try omega
  ·rename_i h;simp [or3,ha,hb]
  ·rename_i h
   exact ⟨3,⟨by omega,fun _=>ha,fun _=>hb,fun _=>h⟩,by omega,a0y (by (simp only [go_sem])<;>simp) hNm⟩
 ·have ha:=h1 (by omega)
  have hb:=h2 (by omega)
  have hc:=h3 (by omega)
  refine a0d _ _ _ ?_
  simp (maxSteps:=2000000) only [go_sem,hG,hOw,c0,c1,c2,c3,i1,i2,List.getElem_cons_zero,List.getElem_cons_succ]
  (repeat' with_reducible first|apply And.intro|refine exP ?_ ?_|intro);all_goals try omega
  all_goals simp [or3,ha,hb,hc]
theorem f1k (a b:Rd):a0l Tryz.prog 200 [.agg [i64 a.ch,i64 a.ln,i64 a.wd],.agg [i64 b.ch,i64 b.ln,i64 b.wd]] (fun _=>i64 (g5e a b)):=by
 refine a0b (ow:=fun _=>false) Tryz.func200 Tryz.ntmps200 rfl rfl fun G hG hOw hNm hB=>?_;simp only [go_sem,hG,hOw]
 refine a0s mixed (by kernel_rfl) ?_
 simp only [go_sem,hG,hOw]
 refine ⟨_,a0f (a4b a.ch b.ch),?_⟩
 simp only [go_sem,hG,hOw]
 refine ⟨_,a0f (a4b a.ln b.ln),?_⟩
 simp only [go_sem,hG,hOw]
 refine ⟨_,a0f (a4b a.wd b.wd),?_⟩
 simp only [go_sem,hG,hOw]
 (repeat' with_reducible first|apply And.intro|refine exP ?_ ?_|intro);all_goals try omega
 refine ⟨_,a0f (g2s (c2s a.ch b.ch) (c2s a.ln b.ln) (c2s a.wd b.wd)),?_⟩
 simp only [go_sem,hG,hOw]
 rfl
theorem d2m (l:List ByteArray) (w:Int) (h:0≤w∧w≤l.length):a0l Tryz.prog 149 [a0q 0 l,i64 w] (fun _=>str (c4b l w)):=by
 obtain ⟨w,rfl⟩:=Int.eq_ofNat_of_zero_le h.1
 obtain ⟨_,h⟩:=h
 refine a0b (ow:=fun _=>false) Tryz.func149 Tryz.ntmps149 rfl rfl fun G hG hOw hNm hB=>?_;simp only [go_sem,hG,hOw]
 unfold c4b
 (repeat' with_reducible first|apply And.intro|refine exP ?_ ?_|intro);all_goals try omega
 ·rename_i hw
  have:w=l.length:=by omega
  subst this
  simp
 ·rename_i hw
  have hl:w < l.length:=by omega
  simp [hl]
theorem d9h (o p:ByteArray):a0l Tryz.prog 337 [str o,str p] (fun _=>bl (decide (p=⟨#[]⟩))):=by
 refine a0b (ow:=fun _=>false) Tryz.func337 Tryz.ntmps337 rfl rfl fun G hG hOw hNm hB=>?_;simp only [go_sem,hG,hOw]
 (repeat' with_reducible first|apply And.intro|refine exP ?_ ?_|intro);all_goals try omega
 all_goals (rename_i h;simp [h,bl])
theorem d8s (o p:ByteArray):a0l Tryz.prog 338 [str o,str p] (fun n=>a0q n []):=by
 refine a0b (ow:=fun _=>false) Tryz.func338 Tryz.ntmps338 rfl rfl fun G hG hOw hNm hB=>?_;simp only [go_sem,hG,hOw]
 exact .nil _ _
theorem d9j (o p:ByteArray):a0l Tryz.prog 339 [str o,str p] (fun _=>bl (a1f p)):=by
 refine a0b (ow:=fun _=>false) Tryz.func339 Tryz.ntmps339 rfl rfl fun G hG hOw hNm hB=>?_;simp only [go_sem,hG,hOw]
 refine a0a (d0g p) ?_
 simp only [go_sem,hG,hOw]
theorem e0m (o p:ByteArray):a0l Tryz.prog 340 [str o,str p] (fun n=>a0q n [p,o]):=by
 refine a0b (ow:=fun _=>false) Tryz.func340 Tryz.ntmps340 rfl rfl fun G hG hOw hNm hB=>?_;simp only [go_sem,hG,hOw]
theorem d9k (o p:ByteArray):a0l Tryz.prog 341 [str o,str p] (fun _=>bl (a1f p && decide (p≠o))):=by
 refine a0b (ow:=fun _=>false) Tryz.func341 Tryz.ntmps341 rfl rfl fun G hG hOw hNm hB=>?_;simp only [go_sem,hG,hOw]
 refine a0a (d0g p) ?_
 simp only [go_sem,hG,hOw]
 (repeat' with_reducible first|apply And.intro|refine exP ?_ ?_|intro);all_goals try omega
 all_goals (first|(rename_i h1 h2;simp [h1,h2,bl])|(rename_i h1;simp [h1,bl])|skip)
theorem d7r (o p:ByteArray):a0l Tryz.prog 342 [str o,str p] (fun n=>a0q n [p]):=by
 refine a0b (ow:=fun _=>false) Tryz.func342 Tryz.ntmps342 rfl rfl fun G hG hOw hNm hB=>?_;simp only [go_sem,hG,hOw]
open Go Pm
theorem c2l (s:ByteArray):a0l Tryz.prog 151 [str s] (fun _=>bl (!neB s)):=by
 refine a0b (ow:=fun _=>false) Tryz.func151 Tryz.ntmps151 rfl rfl fun G hG hOw hNm hB=>?_;simp only [go_sem,hG,hOw]
 unfold neB
 rw [Bool.not_not]
theorem e4t (l:List ByteArray):(a9b (fun s=>!neB s) l=-1∧l.filter neB=l)∨∃ i:Nat,a9b (fun s=>!neB s) l=(i:Int)∧i < l.length∧l.take i=(l.take (i+1)).filter neB:=by
 cases h:l.findIdx? (fun s=>!neB s) with
 |none =>
  refine .inl ⟨by simp [a9b,h],List.filter_eq_self.2 fun s hs=>?_⟩
  have:=List.findIdx?_eq_none_iff.1 h s hs
  simpa using this
 |some i =>
  obtain ⟨hi,hp,hb⟩:=List.findIdx?_eq_some_iff_getElem.1 h
  refine .inr ⟨i,by simp [a9b,h],hi,?_⟩
  rw [List.take_add_one,List.getElem?_eq_getElem hi,List.filter_append]
  have h1:(l.take i).filter neB=l.take i:=List.filter_eq_self.2 fun s hs=>by
   obtain ⟨j,hj,rfl⟩:=List.mem_iff_getElem.1 hs
   simp at hj
   have:=hb j (by omega)
   simpa using this
  have h2:neB l[i]=false:=by simpa using hp
  simp [h1,h2]
theorem c1t (l:List ByteArray) (hl:l.length≤1000):Tri Tryz.prog 150 [.own 0 0 l.length 1,.fn (.func 151) []] [(0,.arr 9 1 (l.map a2c))] (fun n=>.ret (a0q n (l.filter neB)) []):=by
 refine a0e (fun i=>[41].contains i) Tryz.func150 Tryz.ntmps150 rfl rfl fun G hG hOw hNm=>?_;simp only [go_sem,hG,hOw]
 rcases e4t l with ⟨hi0,hall⟩|⟨i0,hi0,hil,hf0⟩
 ·refine a2x (fun i=>i == 0) ?_
  simp only [go_sem,hG,hOw]
  refine a0a (a8g (151) [] (fun s=>!neB s) l rfl (fun s _=>c2l s)) ?_
  rw [hi0]
  simp only [go_sem,hG,hOw]
  rw [hall]
  exact (a2o [])
 ·refine e5e (fun i=>i == 0) (a8g (151) [] (fun s=>!neB s) l rfl (fun s _=>c2l s)) (g2a (.int .i64 _)) (by simp only [go_sem];first|exact Subs.refl _|(repeat' (first|exact Subs.nil|exact Sub.refl _|exact Sub.lo (Nat.zero_le _)|refine Subs.cons ?_ ?_|refine Subs.agg ?_|refine Subs.fp ?_|refine Subs.tup ?_|refine Sub.map (Nat.zero_le _) (fun _=>?_)))) (by simp only [go_sem]<;>first|rfl|simp [b0t,b3o,pureV,pure0, *]) (by simp [chk,hG]) ?_
  rw [hi0]
  have hbig:(i0:Int)+1≤1000:=by omega
  simp only [go_sem,hG,hOw]
  (repeat' with_reducible first|apply And.intro|refine exP ?_ ?_|intro);all_goals try omega
  refine a3e (fun q:Nat×List ByteArray=>St.of [(0,.own 0 0 l.length 1),(5,i64 q.1)] [(0,.arr 9 1 (q.2.map a2c))]) (fun q=>q.2.length=l.length∧q.1≤l.length∧q.2.take q.1=l.filter neB) ?_ ?_
  ·refine a0k (fun q:Nat×Nat×List ByteArray=>St.of [(0,.own 0 0 l.length 1),(1,.fn (.func 151) []),(5,i64 q.2.1),(6,i64 q.1)] [(0,.arr 9 1 (q.2.2.map a2c))]) (fun q=>q.1≤l.length∧q.2.1 < q.1∧q.2.2.length=l.length∧q.2.2.take q.2.1=(l.take q.1).filter neB∧q.2.2.drop q.1=l.drop q.1) (fun q=>l.length - q.1) (i0+1,i0,l) ⟨by show i0+1≤_;omega,by show i0 < i0+1;omega,rfl,hf0,rfl⟩ (a1m [(0,some 0)]) ?_
   rintro ⟨j,i,A⟩ ⟨hj,hij,hA,ht,hd⟩
   simp only at hj hij hA ht hd
   refine a0d _ _ _ ?_;simp only [go_sem,hG,hOw]
   (repeat' with_reducible first|apply And.intro|refine exP ?_ ?_|intro);all_goals try omega
   ·rename_i hlt
    have hjl:j < l.length:=by omega
    have hAj:A[j]'(by omega)=l[j]:=by
     have h1:=congrArg (fun x=>x[0]?) hd
     simp only [List.getElem?_drop,Nat.add_zero] at h1
     rw [List.getElem?_eq_getElem (by omega),List.getElem?_eq_getElem hjl] at h1
     exact Option.some.inj h1
    have hd1:A.drop (j+1)=l.drop (j+1):=by
     have h1:=congrArg (List.drop 1) hd
     simpa [List.drop_drop] using h1
    refine a1p (c2l l[j]) (by rw [hAj];exact Subs.refl _) (by simp [b0t,pureV,pure0]) (by simp [chk,hG]) ?_
    simp only [go_sem,hG,hOw]
    (repeat' with_reducible first|apply And.intro|refine exP ?_ ?_|intro);all_goals try omega
    ·rename_i hne
     have hset:(List.map a2c A).set i [V.v (.string A[j])]=(A.set i A[j]).map a2c:=by rw [List.map_set];rfl
     refine ⟨(j+1,i+1,A.set i A[j]),⟨by show j+1≤_;omega,by show i+1 < j+1;omega,by simpa using hA,?_,?_⟩,by show l.length - (j+1) < l.length - j;omega,a1m [(0,some 0)] (by (simp only [go_sem])<;>simp [hset]) (by (simp only [go_sem,a1d,a0r,a0i,a1l])<;>simp [hset])⟩
     ·rw [List.take_add_one,List.take_set_of_le (by omega),ht,List.getElem?_set_self (by omega),List.take_add_one,List.getElem?_eq_getElem hjl,List.filter_append,hAj]
      simp [hne]
     ·rw [List.drop_set_of_lt (by omega)];exact hd1
    ·rename_i hne
     refine ⟨(j+1,i,A),⟨by show j+1≤_;omega,by show i < j+1;omega,hA,?_,hd1⟩,by show l.length - (j+1) < l.length - j;omega,a1m [(0,some 0)]⟩
     rw [ht,List.take_add_one,List.getElem?_eq_getElem hjl,List.filter_append]
     simp [hne]
   ·rename_i hge
    have:j=l.length:=by omega
    subst this
    rw [List.take_length] at ht
    exact ⟨(i,A),⟨hA,by show i≤_;omega,ht⟩,a1m [(0,some 0)]⟩
  ·rintro ⟨i,A⟩ ⟨hA,hi,ht⟩
   simp only at hA hi ht
   simp only [go_sem,hG,hOw]
   (repeat' with_reducible first|apply And.intro|refine exP ?_ ?_|intro);all_goals try omega
   refine d3k (id:=0) (off:=i) (len:=l.length - i) (el:=9) (z:=.string ⟨#[]⟩) (l:=A.map a2c) rfl rfl (by simp [go_sem]) (by simp [go_sem]) (by simp;omega) b6k d4o rfl ?_
   simp only [go_sem,hG,hOw]
   refine d8n (fun i=>i == 0) ?_
   simp only [go_sem,hG,hOw]
   (repeat' with_reducible first|apply And.intro|refine exP ?_ ?_|intro);all_goals try omega
   have hT:List.take i (List.take l.length (List.map a2c (List.take i A)++List.replicate (l.length - i) [V.v (Value.string ⟨#[]⟩)]))=(l.filter neB).map a2c:=by
    rw [List.take_take,Nat.min_eq_left hi,List.take_append_of_le_length (by simp;omega),List.take_of_length_le (by simp;omega),ht]
   rw [hT]
   exact (a2o [])
open Go Pm
theorem d5x (l:List ByteArray):a0l Tryz.prog 202 [a0q 0 l] (fun _=>bl (!inB l.length 1 10)):=by
 refine a0b (ow:=fun _=>false) Tryz.func202 Tryz.ntmps202 rfl rfl fun G hG hOw hNm hB=>?_;simp only [go_sem,hG,hOw]
 (repeat' with_reducible first|apply And.intro|refine exP ?_ ?_|intro);all_goals try omega
 refine a0a (a3x 1 10 l.length) ?_
 simp only [go_sem,hG,hOw]
theorem c2k (t:List Ch) (ht:c1w t) (a b:Int) (w:Int) (l:List ByteArray) (h:a4x t a b=some l):a0l Tryz.prog 199 [.fp [chs 0 t],.agg [i64 a,i64 b,i64 w]] (fun _=>a0q 0 l):=by
 obtain ⟨ht1,ht2⟩:=ht
 unfold a4x at h
 split at h
 ·rename_i hab
  obtain ⟨ha,hb⟩:=hab
  obtain ⟨a,rfl⟩:=Int.eq_ofNat_of_zero_le ha
  obtain ⟨b,rfl⟩:=Int.eq_ofNat_of_zero_le hb
  simp only [Int.toNat_natCast,Option.bind_eq_some_iff] at h
  obtain ⟨c,hc,hl⟩:=h
  obtain ⟨hat,rfl⟩:=List.getElem?_eq_some_iff.1 hc
  obtain ⟨hbl,rfl⟩:=List.getElem?_eq_some_iff.1 hl
  have ht3:=(ht2 _ (List.getElem_mem hat)).1
  have e1:inB (a:Int) 0 ((t.length:Int) - 1)=true:=by simp [inB];omega
  have e2:inB (b:Int) 0 ((t[a].lines.length:Int) - 1)=true:=by simp [inB];omega
  refine a0b (ow:=fun _=>false) Tryz.func199 Tryz.ntmps199 rfl rfl fun G hG hOw hNm hB=>?_;simp only [go_sem,hG,hOw]
  refine a0s mixed (by kernel_rfl) ?_
  simp only [go_sem,hG,hOw]
  (repeat' with_reducible first|apply And.intro|refine exP ?_ ?_|intro);all_goals try omega
  refine ⟨_,a0f (a3x 0 ((t.length:Int) - 1) a),?_⟩
  simp (maxSteps:=2000000) only [go_sem,hG,hOw,e1]
  (repeat' with_reducible first|apply And.intro|refine exP ?_ ?_|intro);all_goals try omega
  refine ⟨_,a0f (a3x 0 ((t[a].lines.length:Int) - 1) b),?_⟩
  simp (maxSteps:=2000000) only [go_sem,hG,hOw,e2]
  (repeat' with_reducible first|apply And.intro|refine exP ?_ ?_|intro);all_goals try omega
  refine a0s mixed (by kernel_rfl) ?_
  simp only [go_sem,hG,hOw]
  (repeat' with_reducible first|apply And.intro|refine exP ?_ ?_|intro);all_goals try omega
 ·cases h
theorem d6u (t:List Ch) (ht:c1w t) (a b:Int) (w:Int) (h:a4x t a b=none):a0l Tryz.prog 199 [.fp [chs 0 t],.agg [i64 a,i64 b,i64 w]] (fun _=>a0q 0 []):=by
 obtain ⟨ht1,ht2⟩:=ht
 refine a0b (ow:=fun _=>false) Tryz.func199 Tryz.ntmps199 rfl rfl fun G hG hOw hNm hB=>?_;simp only [go_sem,hG,hOw]
 refine a0s mixed (by kernel_rfl) ?_
 simp only [go_sem,hG,hOw]
 (repeat' with_reducible first|apply And.intro|refine exP ?_ ?_|intro);all_goals try omega
 refine ⟨_,a0f (a3x 0 ((t.length:Int) - 1) a),?_⟩
 cases e1:inB a 0 ((t.length:Int) - 1) with
 |false =>
  simp only [go_sem,hG,hOw]
  (repeat' with_reducible first|apply And.intro|refine exP ?_ ?_|intro);all_goals try omega
  exact .nil _ _
 |true =>
  have ha:0≤a∧a≤(t.length:Int) - 1:=by simpa [inB] using e1
  obtain ⟨ha0,ha1⟩:=ha
  obtain ⟨a,rfl⟩:=Int.eq_ofNat_of_zero_le ha0
  have hat:a < t.length:=by omega
  have ht3:=(ht2 _ (List.getElem_mem hat)).1
  have e2:inB b 0 ((t[a].lines.length:Int) - 1)=false:=by
   cases e2:inB b 0 ((t[a].lines.length:Int) - 1) with
   |false=>rfl
   |true =>
    exfalso
    have hb:0≤b∧b≤(t[a].lines.length:Int) - 1:=by simpa [inB] using e2
    obtain ⟨b,rfl⟩:=Int.eq_ofNat_of_zero_le hb.1
    have hbl:b < t[a].lines.length:=by omega
    simp [a4x,hat,hbl] at h
  simp only [go_sem,hG,hOw]
  (repeat' with_reducible first|apply And.intro|refine exP ?_ ?_|intro);all_goals try omega
  refine ⟨_,a0f (a3x 0 ((t[a].lines.length:Int) - 1) b),?_⟩
  simp (maxSteps:=2000000) only [go_sem,hG,hOw,e2]
  (repeat' with_reducible first|apply And.intro|refine exP ?_ ?_|intro);all_goals try omega
  exact .nil _ _
open Go Pm
structure FM where
 m:List (Value×V)
 h:∀ q ∈ m,∃ lo l,q.2=.lst lo 5 l
theorem FM.frz (A:FM) (p:Nat→Bool) (lo:Nat) (s:St):(A.m.map fun q=>(q.1,vwF p lo s 4 q.2))=A.m:=by
 conv=>rhs;rw [← List.map_id A.m]
 refine List.map_congr_left fun q hq=>?_
 obtain ⟨lo',l,h⟩:=A.h q hq
 obtain ⟨q1,q2⟩:=q
 simp only at h
 subst h
 rfl
theorem FM.frz2 (A:FM) (p:Nat→Bool) (lo:Nat) (s:St) (R:List (Value×V)):((A.m++R).map fun q=>(q.1,vwF p lo s 4 q.2))=A.m++R.map fun q=>(q.1,vwF p lo s 4 q.2):=by
 rw [List.map_append,A.frz]
theorem FM.frz3 (A:FM) (p:Nat→Bool) (lo:Nat) (s:St) (R R':List (Value×V)):((A.m++R++R').map fun q=>(q.1,vwF p lo s 4 q.2))=A.m++(R.map fun q=>(q.1,vwF p lo s 4 q.2))++R'.map fun q=>(q.1,vwF p lo s 4 q.2):=by
 rw [List.map_append,List.map_append,A.frz]
theorem FM.ren (A:FM) (ρ:Ren):(A.m.map fun q=>(q.1,b8b ρ 4 q.2))=A.m:=by
 conv=>rhs;rw [← List.map_id A.m]
 refine List.map_congr_left fun q hq=>?_
 obtain ⟨lo',l,h⟩:=A.h q hq
 obtain ⟨q1,q2⟩:=q
 simp only at h
 subst h
 rfl
theorem FM.ok1 (ρ:Ren):∀ (m:List (Value×V)),(∀ q ∈ m,∃ lo l,q.2=.lst lo 5 l)→okL (okN ρ 4) (m.map (·.2)) (m.map (·.2))
 |[],_=>trivial
 |q::m,h=>by
  refine ⟨?_,FM.ok1 ρ m fun x hx=>h x (by simp [hx])⟩
  obtain ⟨lo,l,e⟩:=h q (by simp)
  show okN ρ 4 q.2 q.2
  rw [e]
  exact .inl rfl
theorem FM.r1 (A:FM) (ρ:Ren):okL (okN ρ 4) (A.m.map (·.2)) (A.m.map (·.2))=True:=eq_true (FM.ok1 ρ A.m A.h)
theorem FM.r2' (ρ:Ren) (R R':List V):∀ (m:List (Value×V)),(∀ q ∈ m,∃ lo l,q.2=.lst lo 5 l)→okL (okN ρ 4) (m.map (·.2)++R) (m.map (·.2)++R')=okL (okN ρ 4) R R'
 |[],_=>rfl
 |q::m,h=>by
  have ih:=FM.r2' ρ R R' m fun x hx=>h x (by simp [hx])
  obtain ⟨lo,l,e⟩:=h q (by simp)
  have h1:okN ρ 4 q.2 q.2:=by rw [e];exact .inl rfl
  show (okN ρ 4 q.2 q.2∧okL (okN ρ 4) (m.map (·.2)++R) (m.map (·.2)++R'))=_
  rw [ih]
  exact propext ⟨fun h=>h.2,fun h=>⟨h1,h⟩⟩
theorem FM.r2 (A:FM) (ρ:Ren) (R R':List (Value×V)):okL (okN ρ 4) ((A.m++R).map (·.2)) ((A.m++R').map (·.2))=okL (okN ρ 4) (R.map (·.2)) (R'.map (·.2)):=by
 rw [List.map_append,List.map_append]
 exact FM.r2' ρ _ _ A.m A.h
theorem FM.r3 (A:FM) (ρ:Ren) (R R' S S':List (Value×V)):okL (okN ρ 4) ((A.m++R++S).map (·.2)) ((A.m++R'++S').map (·.2))=okL (okN ρ 4) ((R++S).map (·.2)) ((R'++S').map (·.2)):=by
 rw [List.append_assoc,List.append_assoc]
 exact A.r2 ρ _ _
attribute [go_sem ↓] FM.frz FM.frz2 FM.frz3 FM.ren FM.r1 FM.r2 FM.r3
theorem c6g (A:List (Value×V)) (x:Value×V) (v:V):f9o (A++[x]) A.length v=A++[(x.1,v)]:=by
 unfold f9o
 simp
def c2w (a b c:Int):Value:=.agg #[.int .i64 a,.int .i64 b,.int .i64 c]
def b1e (r:Rd):Value:=c2w r.ch r.ln r.wd
def kdP:KD:=.agg [.int .i64,.int .i64,.int .i64]
theorem c5z (a b c:Int):a8t kdP (c2w a b c)=true:=rfl
theorem f5u (a b c a' b' c':Int):b3e (c2w a b c) (c2w a' b' c')=true↔a=a'∧b=b'∧c=c':=by
 rw [b1w (a3w (c5z a b c)) (a3w (c5z a' b' c'))]
 unfold c2w
 simp
theorem b5f (a b:Rd):b1e a=b1e b↔a6d a b=true:=by
 unfold b1e c2w a6d
 simp [and_assoc]
theorem e1t (k:Value) (d:KD) (hk:a8t d k=true):∀ (m:List (Value×V)) (q:Value×V),q ∈ m→q.1=k→lkM m k≠none
 |[],q,h,_=>by cases h
 |p::m,q,h,e=>by
  unfold lkM
  split
  ·simp
  ·rename_i hne
   rcases List.mem_cons.1 h with rfl|h
   ·exact absurd ((b1w (a3w (e ▸ hk)) (a3w hk)).2 e) hne
   ·exact e1t k d hk m q h e
def d1n (lo:Nat) (rs:List Rd) (p:Rd):Value×V:=(b1e p,.lst lo 5 ((rs.filter (a6d p)).map rdE))
theorem d0t (lo:Nat) (rs ps:List Rd):∀ q ∈ ps.map (d1n lo rs),∃ lo l,q.2=.lst lo 5 l:=fun q hq=>by
 obtain ⟨p,_,rfl⟩:=List.mem_map.1 hq
 exact ⟨_,_,rfl⟩
theorem d1a (lo:Nat) (rs:List Rd) (k n w:Int):∀ ps:List Rd,lkM (ps.map (d1n lo rs)) (c2w k n w)=match ps.find? (atW k n w) with
  |some p=>some (.lst lo 5 ((rs.filter (a6d p)).map rdE))
  |none=>none
 |[]=>rfl
 |p::ps=>by
  rw [List.map_cons,lkM,List.find?_cons]
  have h:=f5u p.ch p.ln p.wd k n w
  have hk:(d1n lo rs p).1=c2w p.ch p.ln p.wd:=rfl
  rw [hk]
  cases ha:atW k n w p with
  |true =>
   simp only [atW,Bool.and_eq_true,decide_eq_true_eq] at ha
   rw [if_pos (h.2 ⟨ha.1.1,ha.1.2,ha.2⟩)]
   rfl
  |false =>
   have:¬ b3e (c2w p.ch p.ln p.wd) (c2w k n w)=true:=fun e=>by
    obtain ⟨h1,h2,h3⟩:=h.1 e
    simp [atW,h1,h2,h3] at ha
   rw [if_neg this]
   exact d1a lo rs k n w ps
def f8c (lo:Nat) (l:List Rd):Option V:=if l=[] then none else some (.lst lo 5 (l.map rdE))
theorem f6p {t:List Ch} {rs:List Rd} (h:OKR t rs) (lo:Nat) (k n w:Int):lkM ((b9b rs).map (d1n lo rs)) (c2w k n w)=f8c lo (rs.filter (atW k n w)):=by
 have hR:=d2r h rs.length (Nat.le_refl _)
 rw [List.take_length] at hR
 rw [d1a]
 unfold f8c
 cases hf:(b9b rs).find? (atW k n w) with
 |some p =>
  have hp:=List.find?_some hf
  have hm:=hR.mem p (List.mem_of_find?_eq_some hf)
  have e:rs.filter (a6d p)=rs.filter (atW k n w):=List.filter_congr fun r hr=>by
   simp only [atW,Bool.and_eq_true,decide_eq_true_eq] at hp
   unfold a6d atW
   rw [hp.1.1,hp.1.2,hp.2]
   rw [Bool.eq_iff_iff]
   simp only [Bool.and_eq_true,decide_eq_true_eq]
   constructor<;>rintro ⟨⟨h1,h2⟩,h3⟩<;>exact ⟨⟨h1.symm,h2.symm⟩,h3.symm⟩
  show some (V.lst lo 5 (List.map rdE (List.filter (a6d p) rs)))=_
  rw [e,if_neg]
  intro h0
  have:p ∈ rs.filter (atW k n w):=List.mem_filter.2 ⟨hm,hp⟩
  rw [h0] at this
  cases this
 |none =>
  rw [if_pos]
  refine List.filter_eq_nil_iff.2 fun r hr hat=>?_
  obtain ⟨p,hp,hn⟩:=hR.all r hr
  have hs:=(b2p (h.i p (hR.mem p hp)).1 (h.i r hr).1).2 hn
  have:=List.find?_eq_none.1 hf p hp
  apply this
  simp only [a6d,atW,Bool.and_eq_true,decide_eq_true_eq] at hs hat ⊢
  rw [hs.1.1,hs.1.2,hs.2]
  exact hat
open Go Pm
def f2k (lo:Nat) (rs:List Rd) (A:FM) (l:Option (Value×List Rd)):Prop:=match l with
 |none=>rs=[]∧A.m=[]
 |some (kp,g)=>∃ ps p,b9b rs=ps++[p]∧kp=b1e p∧A.m=ps.map (d1n lo rs)∧g=rs.filter (a6d p)
def tlM:Option (Value×List Rd)→List (Value×V)
 |none=>[]
 |some (kp,g)=>[(kp,.own 500 0 g.length 5)]
def tlG:Option (Value×List Rd)→List Rd
 |none=>[]
 |some (_,g)=>g
theorem e7j:tlM none=[]:=rfl
theorem e9m (kp:Value) (g:List Rd):tlM (some (kp,g))=[(kp,.own 500 0 g.length 5)]:=rfl
theorem e8j:tlG none=[]:=rfl
theorem f1v (kp:Value) (g:List Rd):tlG (some (kp,g))=g:=rfl
attribute [go_sem] e7j e9m e8j f1v
theorem d8g {m:List (Value×V)} {x p:Value×V} {k:Value} {j:Nat} (h:(m++[x])[j]? = some p) (hp:p.1=k) (hk:∀ q ∈ m,q.1≠k):j=m.length∧p=x:=by
 by_cases hj:j < m.length
 ·rw [List.getElem?_append_left hj] at h
  exact absurd hp (hk p (List.mem_of_getElem? h))
 ·rw [List.getElem?_append_right (by omega)] at h
  have:j - m.length=0:=by
   have:=(List.getElem?_eq_some_iff.1 h).1
   simp at this
   omega
  rw [this] at h
  exact ⟨by omega,by simpa using h.symm⟩
theorem d3s (lo:Nat) (r:Rd):f2k lo [r] ⟨[],by simp⟩ (some (b1e r,[r])) :=
 ⟨[],r,rfl,rfl,rfl,by simp [a6d]⟩
theorem e4z {t:List Ch} {rs:List Rd} (h:OKR t rs) (k:Nat) (hk:k < rs.length) (ps:List Rd) (p:Rd) (hr:b9b (rs.take k)=ps++[p]) :
  InP p∧(∀ q ∈ ps,InP q∧nP q < nP p)∧nP p≤nP rs[k]:=by
 have ih:=d2r h k (by omega)
 have hpi:∀ q ∈ b9b (rs.take k),InP q:=fun q hq=>(h.i q (List.mem_of_mem_take (ih.mem q hq))).1
 rw [hr] at hpi
 have hlt:=ih.lt
 rw [hr] at hlt
 refine ⟨hpi p (by simp),fun q hq=>⟨hpi q (by simp [hq]),(List.pairwise_append.1 hlt).2.2 q hq p (by simp)⟩,?_⟩
 have hm:p ∈ rs.take k:=ih.mem p (by rw [hr];simp)
 obtain ⟨i,hi,rfl⟩:=List.mem_iff_getElem.1 hm
 simp at hi
 have:=List.pairwise_iff_getElem.1 h.s i k (by omega) hk (by omega)
 rw [List.getElem_take]
 rcases this with h|h<;>omega
theorem c6i (lo:Nat) (rs:List Rd) (r:Rd) (ps:List Rd) (h:∀ q ∈ ps,a6d q r=false):ps.map (d1n lo (rs++[r]))=ps.map (d1n lo rs) :=
 List.map_congr_left fun q hq=>by simp [d1n,h q hq]
theorem e4v {t:List Ch} {rs:List Rd} (h:OKR t rs) {lo k:Nat} (hk:k < rs.length) {A:FM} {kp:Value} {g:List Rd} (hI:f2k lo (rs.take k) A (some (kp,g))) (hs:kp=b1e rs[k]) :
  f2k lo (rs.take (k+1)) A (some (b1e rs[k],g++[rs[k]]))∧∀ q ∈ A.m,q.1≠b1e rs[k]:=by
 obtain ⟨ps,p,h1,h2,h3,h4⟩:=hI
 obtain ⟨g1,g2,g3⟩:=e4z h k hk ps p h1
 have hkI:=(h.i _ (List.getElem_mem hk)).1
 have e:rs.take (k+1)=rs.take k++[rs[k]]:=by rw [List.take_add_one,List.getElem?_eq_getElem hk];rfl
 have hsp:a6d p rs[k]=true:=(b5f _ _).1 (h2.symm.trans hs)
 have hn:=(b2p g1 hkI).1 hsp
 have hno:∀ q ∈ ps,a6d q rs[k]=false:=fun q hq=>by
  cases hq':a6d q rs[k] with
  |false=>rfl
  |true =>
   exfalso
   have:=(b2p (g2 q hq).1 hkI).1 hq'
   have:=(g2 q hq).2
   omega
 refine ⟨⟨ps,p,?_,by rw [← hs,h2],?_,?_⟩,fun q hq e=>?_⟩
 ·rw [e,b6n,h1]
  unfold g0v
  rw [List.getLast?_concat]
  simp only
  rw [if_pos hsp]
 ·rw [e,c6i lo _ _ ps hno];exact h3
 ·rw [e,List.filter_append,h4];simp [hsp]
 ·rw [h3] at hq
  obtain ⟨x,hx,rfl⟩:=List.mem_map.1 hq
  have:=(b5f x rs[k]).1 e
  rw [hno x hx] at this;cases this
theorem d1c {t:List Ch} {rs:List Rd} (h:OKR t rs) {lo k:Nat} (hk:k < rs.length) {A:FM} {kp:Value} {g:List Rd} (hI:f2k lo (rs.take k) A (some (kp,g))) (hs:¬ kp=b1e rs[k]) :
  (∃ B:FM,B.m=A.m++[(kp,.lst lo 5 (g.map rdE))]∧f2k lo (rs.take (k+1)) B (some (b1e rs[k],[rs[k]])))∧∀ q ∈ A.m,q.1≠b1e rs[k]:=by
 obtain ⟨ps,p,h1,h2,h3,h4⟩:=hI
 obtain ⟨g1,g2,g3⟩:=e4z h k hk ps p h1
 have hkI:=(h.i _ (List.getElem_mem hk)).1
 have e:rs.take (k+1)=rs.take k++[rs[k]]:=by rw [List.take_add_one,List.getElem?_eq_getElem hk];rfl
 have hsp:¬ a6d p rs[k]=true:=fun e=>hs (h2.trans ((b5f _ _).2 e))
 have hn:¬ nP p=nP rs[k]:=fun e=>hsp ((b2p g1 hkI).2 e)
 have hlt:∀ q ∈ ps++[p],nP q < nP rs[k]∧InP q:=fun q hq=>by
  rcases List.mem_append.1 hq with hq|hq
  ·have:=g2 q hq;exact ⟨by omega,this.1⟩
  ·simp at hq;subst hq;exact ⟨by omega,g1⟩
 have hno:∀ q ∈ ps++[p],a6d q rs[k]=false:=fun q hq=>by
  cases hq':a6d q rs[k] with
  |false=>rfl
  |true =>
   exfalso
   have:=(b2p (hlt q hq).2 hkI).1 hq'
   have:=(hlt q hq).1
   omega
 have hB:A.m++[(kp,V.lst lo 5 (g.map rdE))]=(ps++[p]).map (d1n lo (rs.take (k+1))):=by
  rw [e,c6i lo _ _ (ps++[p]) hno,List.map_append,h3]
  congr 1
  simp [d1n,h2,h4]
 refine ⟨⟨⟨A.m++[(kp,V.lst lo 5 (g.map rdE))],by rw [hB];exact d0t lo _ _⟩,rfl,ps++[p],rs[k],?_,rfl,hB,?_⟩,fun q hq e=>?_⟩
 ·rw [e,b6n,h1]
  unfold g0v
  rw [List.getLast?_concat]
  simp only
  rw [if_neg hsp]
 ·rw [e,List.filter_append]
  have hnil:(rs.take k).filter (a6d rs[k])=[]:=List.filter_eq_nil_iff.2 fun r hr hs=>by
   have ih:=d2r h k (by omega)
   have hri:=(h.i r (List.mem_of_mem_take hr)).1
   have h5:=(b2p hkI hri).1 hs
   have h6:=ih.top p r (by rw [h1];simp) hr
   omega
  rw [hnil]
  simp [a6d]
 ·rw [h3] at hq
  obtain ⟨x,hx,rfl⟩:=List.mem_map.1 hq
  have:=(b5f x rs[k]).1 e
  rw [hno x (by simp [hx])] at this;cases this
theorem f0n {rs:List Rd} {lo:Nat} {A:FM} {l:Option (Value×List Rd)} (hI:f2k lo rs A l):∃ B:FM,B.m=(b9b rs).map (d1n lo rs)∧B.m=A.m++(match l with
  |none=>[]
  |some (kp,g)=>[(kp,V.lst lo 5 (g.map rdE))]):=by
 refine ⟨⟨(b9b rs).map (d1n lo rs),d0t lo _ _⟩,rfl,?_⟩
 cases l with
 |none=>obtain ⟨rfl,h⟩:=hI;simp [h,b9b]
 |some q =>
  obtain ⟨kp,g⟩:=q
  obtain ⟨ps,p,h1,h2,h3,h4⟩:=hI
  simp only
  rw [h1,List.map_append,h3,h2,h4]
  rfl
open Go Pm
def e4s (t:List Ch) (rs:List Rd) (k:Nat) (c:Ch):Ch:=⟨c.id,(List.range c.lines.length).map fun (n:Nat)=>e1a rs k n (c.lines.getD n [])⟩
def b9h (t:List Ch) (rs:List Rd):List Ch:=(List.range t.length).map fun k=>e4s t rs k (t.getD k ⟨0,[]⟩)
def wF (rs:List Rd) (k n:Int) (l:List ByteArray) (w:Nat):List ByteArray:=(List.range w).flatMap (b0x rs k n l)
def lF (rs:List Rd) (k:Nat) (c:Ch) (j:Nat):List (List ByteArray):=(List.range j).map fun (n:Nat)=>e1a rs k n (c.lines.getD n [])
def cF (t:List Ch) (rs:List Rd) (k:Nat):List Ch:=(List.range k).map fun k=>e4s t rs k (t.getD k ⟨0,[]⟩)
def chG (lo:Nat) (c:Ch):List V:=[i64 c.id,.lst lo 1 (c.lines.map (lnE 0))]
theorem c8r (rs:List Rd) (k n:Int) (l:List ByteArray) (w:Nat):wF rs k n l (w+1)=wF rs k n l w++b0x rs k n l w:=by
 unfold wF;rw [List.range_succ,List.flatMap_append];simp
theorem f4n (rs:List Rd) (k:Nat) (c:Ch) (j:Nat) (hj:j < c.lines.length):lF rs k c (j+1)=lF rs k c j++[(wF rs k j c.lines[j] (c.lines[j].length+1)).filter neB]:=by
 unfold lF;rw [List.range_succ,List.map_append];simp [e1a,wF,hj]
theorem f7h (t:List Ch) (rs:List Rd) (k:Nat) (hk:k < t.length):cF t rs (k+1)=cF t rs k++[⟨t[k].id,lF rs k t[k] t[k].lines.length⟩]:=by
 unfold cF;rw [List.range_succ,List.map_append];simp [e4s,lF,hk]
theorem f3o (rs:List Rd) (k n:Int) (l:List ByteArray):wF rs k n l 0=[]:=rfl
theorem f5n (rs:List Rd) (k:Nat) (c:Ch):lF rs k c 0=[]:=rfl
theorem f6s (t:List Ch) (rs:List Rd):cF t rs 0=[]:=rfl
attribute [go_sem] f3o f5n f6s
def pF (F:List Rd) (o:ByteArray) (i:Nat):List ByteArray:=(F.take i).foldl a9e [o]
theorem c2j (F:List Rd) (o:ByteArray):pF F o 0=[o]:=rfl
theorem e5a (F:List Rd) (o:ByteArray) (i:Nat) (hi:i < F.length):pF F o (i+1)=a9e (pF F o i) F[i]:=by
 unfold pF
 rw [List.take_add_one,List.getElem?_eq_getElem hi,List.foldl_append]
 rfl
theorem f2g (F:List Rd) (o:ByteArray) (hs:F.Pairwise fun a b=>(a.kind.toNat:Int)=2):∀ i,i < F.length→∃ ws,pF F o i=ws++[o]
 |0,_=>⟨[],rfl⟩
 |i+1,hi=>by
  obtain ⟨ws,h⟩:=f2g F o hs i (by omega)
  have hk:((F[i]'(by omega)).kind.toNat:Int)=2:=List.pairwise_iff_getElem.1 hs i (i+1) (by omega) hi (by omega)
  rw [e5a F o i (by omega),h]
  refine ⟨ws++[(F[i]'(by omega)).word],?_⟩
  unfold a9e b2m
  rw [hk]
  simp
theorem g2o {t:List Ch} {rs:List Rd} (h:OKR t rs) (k n w:Int):(rs.filter (atW k n w)).Pairwise fun a b=>(a.kind.toNat:Int)=2:=by
 have h1:=h.s.sublist (List.filter_sublist (p:=atW k n w))
 refine List.Pairwise.imp_of_mem (fun {a b} ha hb hab=>?_) h1
 have e:=g8k (List.mem_filter.1 ha).2 (List.mem_filter.1 hb).2
 rcases hab with h|h
 ·omega
 ·exact h.2
theorem f3h (rs:List Rd) (k:Nat) (c:Ch) (j:Nat):(lF rs k c j).length=j:=by simp [lF]
theorem f2w (t:List Ch) (rs:List Rd) (k:Nat):(cF t rs k).length=k:=by simp [cF]
theorem c4e (rs:List Rd):∀ s:List ByteArray,(rs.foldl a9e s).length≤s.length+2 * rs.length:=by
 induction rs with
 |nil=>intro s;simp
 |cons r rs ih =>
  intro s
  rw [List.foldl_cons]
  have h1:=ih (a9e s r)
  have h2:(a9e s r).length≤s.length+2:=by
   unfold a9e b2m
   rw [List.length_append,List.length_take]
   split
   ·simp only [List.length_cons,List.length_nil];omega
   ·split<;>simp only [List.length_cons,List.length_nil]<;>omega
  simp
  omega
theorem c6q (rs:List Rd) (k n:Int) (l:List ByteArray) (w:Nat):(b0x rs k n l w).length≤1+2 * rs.length:=by
 unfold b0x
 have h1:=c4e (rs.filter (atW k n w)) [c4b l w]
 have h2:=List.length_filter_le (atW k n w) rs
 simp at h1
 omega
theorem e4l (rs:List Rd) (k n:Int) (l:List ByteArray) (hn:rs.length≤20):∀ w,(wF rs k n l w).length≤w * 41
 |0=>by simp [wF]
 |w+1=>by
  rw [c8r,List.length_append]
  have h1:=e4l rs k n l hn w
  have h2:=c6q rs k n l w
  omega
theorem e7m (t:List Ch) (c:Cp) (hc:OKR t c.rds) (hn:c.rds.length≤20) {G:Gh} {Q:Exit→St→Prop} (hG:G.n=121) (hOw:G.ow=fun i=>[69].contains i) (hNm:G.nm=[]) :
  SemC Tryz.prog G (b4c 0 Tryz.f90.body) (St.of [(0,.fp [chs 0 t]),(4,.ptr 4 0),(5,.mp 20),(22,rds 0 c.rds),(23,i64 c.rds.length),(24,i64 0)] [(4,.box [.v (.slice none 0 0)]),(20,.map kdP [])])
   (d2b G 0 (fun M:FM=>St.of [(0,.fp [chs 0 t]),(4,.ptr 4 0),(5,.mp 20)] [(4,.box [.v (.slice none 0 0)]),(20,.map kdP M.m)]) (fun M=>M.m=(b9b c.rds).map (d1n G.lo c.rds)) Q):=by
 unfold Tryz.f90
 simp only [d6i,b4c,rgO,bkO,a5j,Option.bind_some,Option.getD_some,reduceIte,Nat.reduceEqDiff,reduceCtorEq]
 have e0:((⟨[],by simp⟩:FM).m++tlM none)=[]:=rfl
 refine a0k (fun q:Nat×FM×Option (Value×List Rd)=>St.of [(0,.fp [chs 0 t]),(4,.ptr 4 0),(5,.mp 20),(22,rds 0 c.rds),(23,i64 c.rds.length),(24,i64 q.1)] [(4,.box [.v (.slice none 0 0)]),(20,.map kdP (q.2.1.m++tlM q.2.2)),(500,.arr 148 5 ((tlG q.2.2).map rdE))]) (fun q=>q.1≤c.rds.length∧f2k G.lo (c.rds.take q.1) q.2.1 q.2.2) (fun q=>c.rds.length - q.1) (0,⟨[],by simp⟩,none) ⟨Nat.zero_le _,rfl,rfl⟩ (a1e [(4,some 4),(20,some 20),(500,none)] (by (simp only [e0,kdP,go_sem])<;>simp [e0,kdP]) (by (simp only [e0,kdP,go_sem,a1d,a0r,a0i,a1l])<;>simp [e0,kdP]) (by simp [a2m,apart]) (by simp [a0n,usH]) (by simp [hNm,lkR,a0x])) ?_
 rintro ⟨k,A,l⟩ ⟨hk,hI⟩
 simp only at hk hI
 cases l with
 |none =>
  obtain ⟨h1,h2⟩:=hI
  have hk0:k=0:=by
   rcases List.take_eq_nil_iff.1 h1 with h|h
   ·exact h
   ·rw [h] at hk;simp at hk;exact hk
  subst hk0
  have h2':A.m++[]=[]:=by rw [h2];rfl
  refine a0d _ _ _ ?_
  simp (maxSteps:=2000000) only [go_sem,hG,hOw,h2']
  (repeat' with_reducible first|apply And.intro|refine exP ?_ ?_|intro);all_goals try omega
  ·rename_i hlt
   have hkl:0 < c.rds.length:=by omega
   refine b1z (d:=34) (id:=20) (kd:=kdP) (z:=.v (.slice none 0 0)) (kv:=b1e c.rds[0]) (m:=[]) rfl (by simp [go_sem]) (by simp [go_sem,b1e,c2w]) b7f (by simp [go_sem]) (c5z _ _ _) rfl (by rw [hG];decide) ?_ (fun j p hj=>by simp at hj)
   intro _ bo
   simp only [go_sem,hG,hOw]
   (repeat' with_reducible first|apply And.intro|refine exP ?_ ?_|intro);all_goals try omega
   refine a6n (id:=20) (j:=0) (bo:=bo) (kd:=kdP) (m:=[(b1e c.rds[0],.v (.slice none 0 0))]) rfl rfl (by simp [go_sem]) (by simp [go_sem]) (by simp [go_sem]) ?_
   have es:∀ v:V,f9o [(b1e c.rds[0],V.v (.slice none 0 0))] 0 v=[(b1e c.rds[0],v)]:=fun _=>rfl
   have hI1:f2k G.lo (c.rds.take (0+1)) ⟨[],by simp⟩ (some (b1e c.rds[0],[c.rds[0]])):=by
    rw [List.take_add_one,List.getElem?_eq_getElem hkl]
    exact d3s G.lo c.rds[0]
   have e1:((⟨[],by simp⟩:FM).m++tlM (some (b1e c.rds[0],[c.rds[0]])))=[(b1e c.rds[0],.own 500 0 1 5)]:=rfl
   simp (maxSteps:=2000000) only [go_sem,hG,hOw,es]
   (repeat' with_reducible first|apply And.intro|refine exP ?_ ?_|intro);all_goals try omega
   refine ⟨(0+1,⟨[],by simp⟩,some (b1e c.rds[0],[c.rds[0]])),⟨by show 0+1≤_;omega,hI1⟩,by show c.rds.length - (0+1) < c.rds.length - 0;omega,a1e [(4,some 4),(20,some 20),(500,some 35)] (by (simp only [e1,kdP,go_sem])<;>simp [e1,kdP]) (by (simp only [e1,kdP,go_sem,a1d,a0r,a0i,a1l])<;>simp [e1,kdP]) (by simp [a2m,apart]) (by simp [a0n,usH]) (by simp [hNm,lkR,a0x])⟩
  ·rename_i hge
   have hnil:c.rds=[]:=List.eq_nil_of_length_eq_zero (by omega)
   refine ⟨A,by rw [h2,hnil];rfl,?_⟩
   exact a1e [(4,some 4),(20,some 20)] (by (simp only [h2,kdP,go_sem])<;>simp [h2,kdP]) (by (simp only [h2,kdP,go_sem,a1d,a0r,a0i,a1l])<;>simp [h2,kdP]) (by simp [a2m,apart]) (by simp [a0n,usH]) (by simp [hNm,lkR,a0x])
 |some q =>
  obtain ⟨kp,g⟩:=q
  refine a0d _ _ _ ?_
  simp only [go_sem,hG,hOw]
  (repeat' with_reducible first|apply And.intro|refine exP ?_ ?_|intro);all_goals try omega
  ·rename_i hlt
   have hkl:k < c.rds.length:=by omega
   refine b1z (d:=34) (id:=20) (kd:=kdP) (z:=.v (.slice none 0 0)) (kv:=b1e c.rds[k]) (m:=A.m++[(kp,.own 500 0 g.length 5)]) rfl (by simp [go_sem]) (by simp [go_sem,b1e,c2w]) b7f (by simp [go_sem]) (c5z _ _ _) rfl (by rw [hG];decide) ?_ ?_
   ·intro hl bo
    have hne:¬ kp=b1e c.rds[k]:=fun e=>e1t (b1e c.rds[k]) kdP (c5z _ _ _) _ (kp,.own 500 0 g.length 5) (by simp) e hl
    obtain ⟨⟨B,hB,hI1⟩,hno⟩:=d1c hc hkl hI hne
    simp only [go_sem,hG,hOw]
    (repeat' with_reducible first|apply And.intro|refine exP ?_ ?_|intro);all_goals try omega
    refine a6n (id:=20) (j:=(A.m++[(kp,V.own 500 0 g.length 5)]).length) (bo:=bo) (kd:=kdP) (m:=(A.m++[(kp,V.own 500 0 g.length 5)])++[(b1e c.rds[k],.v (.slice none 0 0))]) rfl rfl (by simp [go_sem]) (by simp [go_sem]) (by simp [go_sem]) ?_
    rw [c6g]
    simp only [go_sem,hG,hOw]
    (repeat' with_reducible first|apply And.intro|refine exP ?_ ?_|intro);all_goals try omega
    have e1:B.m++tlM (some (b1e c.rds[k],[c.rds[k]]))=A.m++[(kp,V.lst G.lo 5 (g.map rdE)),(b1e c.rds[k],.own 500 0 1 5)]:=by rw [hB];simp [tlM]
    refine ⟨(k+1,B,some (b1e c.rds[k],[c.rds[k]])),⟨by show k+1≤_;omega,hI1⟩,by show c.rds.length - (k+1) < c.rds.length - k;omega,b1q (fun i=>i == 500) ?_⟩
    exact a1e [(4,some 4),(20,some 20),(500,some 35)] (by (simp only [hB,kdP,go_sem])<;>simp [hB,kdP]) (by (simp only [hB,kdP,go_sem,a1d,a0r,a0i,a1l])<;>simp [hB,kdP]) (by simp [a2m,apart]) (by simp [a0n,usH]) (by simp [hNm,lkR,a0x])
   ·intro j p hj hp hl bo
    by_cases hs:kp=b1e c.rds[k]
    ·obtain ⟨hI1,hno⟩:=e4v hc hkl hI hs
     obtain ⟨rfl,rfl⟩:=d8g hj hp hno
     have hgl:g.length≤20:=by
      obtain ⟨_,_,_,_,_,hg⟩:=hI
      rw [hg]
      have:=List.length_filter_le (a6d ‹_›) (c.rds.take k)
      simp at this ⊢
      omega
     simp only [go_sem,hG,hOw]
     (repeat' with_reducible first|apply And.intro|refine exP ?_ ?_|intro);all_goals try omega
     refine a6n (id:=20) (j:=A.m.length) (bo:=bo) (kd:=kdP) (m:=A.m++[(kp,V.own 500 0 g.length 5)]) rfl rfl (by simp [go_sem]) (by simp [go_sem]) (by simp [go_sem]) ?_
     rw [c6g]
     simp only [go_sem,hG,hOw]
     (repeat' with_reducible first|apply And.intro|refine exP ?_ ?_|intro);all_goals try omega
     have e1:A.m++tlM (some (b1e c.rds[k],g++[c.rds[k]]))=A.m++[(kp,V.own 500 0 (g.length+1) 5)]:=by rw [hs];simp [tlM]
     refine ⟨(k+1,A,some (b1e c.rds[k],g++[c.rds[k]])),⟨by show k+1≤_;omega,hI1⟩,by show c.rds.length - (k+1) < c.rds.length - k;omega,?_⟩
     exact a1e [(4,some 4),(20,some 20),(500,some 35)] (by (simp only [hs,rdE,i64,str,kdP,go_sem])<;>simp [hs,rdE,i64,str,kdP]) (by (simp only [hs,rdE,i64,str,kdP,go_sem,a1d,a0r,a0i,a1l])<;>simp [hs,rdE,i64,str,kdP]) (by simp [a2m,apart]) (by simp [a0n,usH]) (by simp [hNm,lkR,a0x])
    ·obtain ⟨_,hno⟩:=d1c hc hkl hI hs
     obtain ⟨rfl,rfl⟩:=d8g hj hp hno
     exact absurd hp hs
  ·rename_i hge
   have hk':k=c.rds.length:=by omega
   subst hk'
   rw [List.take_length] at hI
   obtain ⟨B,hB1,hB2⟩:=f0n hI
   refine ⟨B,hB1,b1q (fun i=>i == 500) ?_⟩
   exact a1e [(4,some 4),(20,some 20)] (by (simp only [hB2,kdP,go_sem])<;>simp [hB2,kdP]) (by (simp only [hB2,kdP,go_sem,a1d,a0r,a0i,a1l])<;>simp [hB2,kdP]) (by simp [a2m,apart]) (by simp [a0n,usH]) (by simp [hNm,lkR,a0x])
open Go Pm
theorem f0k (t:List Ch) (k j w:Nat) (L:List (List ByteArray)) (l U:List ByteArray) (d:Int) (X Y:List (List V)) (M:FM) (F:List Rd) (o:ByteArray) (hF2:F.Pairwise fun a b=>(a.kind.toNat:Int)=2) (hFl:F.length≤20) (hFg:∀ r ∈ F,b4s r)
  {G:Gh} {Q:Exit→St→Prop} (hG:G.n=121) (hOw:G.ow=fun i=>[69].contains i) (hNm:G.nm=[]) :
  SemC Tryz.prog G (b4c 8 Tryz.f90.body) (St.of [(4,.ptr 4 0),(5,.mp 20),(8,.ptr 8 0),(42,chs 0 t),(43,i64 t.length),(44,i64 k),(9,i64 k),(11,.ptr 11 0),(53,lns 0 L),(54,i64 L.length),(55,i64 j),(12,i64 j),(13,a0q 0 l),(62,i64 ((l.length:Int)+1)),(63,i64 w),(14,.own 701 0 U.length 1),(16,.own 601 0 1 1),(75,rds G.lo F),(76,i64 F.length),(77,i64 0)] [(4,.box [.v (.slice none 0 0)]),(20,.map kdP M.m),(8,.box [.own 901 0 k 2]),(901,.arr 115 2 X),(11,.box [i64 d,.own 801 0 j 1]),(801,.arr 32 1 Y),(701,.arr 9 1 (U.map a2c)),(601,.arr 9 1 [[str o]])])
   (d2b G 8 (fun _:Unit=>St.of [(4,.ptr 4 0),(5,.mp 20),(8,.ptr 8 0),(42,chs 0 t),(43,i64 t.length),(44,i64 k),(9,i64 k),(11,.ptr 11 0),(53,lns 0 L),(54,i64 L.length),(55,i64 j),(12,i64 j),(13,a0q 0 l),(62,i64 ((l.length:Int)+1)),(63,i64 w),(14,.own 701 0 U.length 1),(16,.own 601 0 (pF F o F.length).length 1)] [(4,.box [.v (.slice none 0 0)]),(20,.map kdP M.m),(8,.box [.own 901 0 k 2]),(901,.arr 115 2 X),(11,.box [i64 d,.own 801 0 j 1]),(801,.arr 32 1 Y),(701,.arr 9 1 (U.map a2c)),(601,.arr 9 1 ((pF F o F.length).map a2c))]) (fun _=>True) Q):=by
 unfold Tryz.f90
 simp only [d6i,b4c,rgO,bkO,a5j,Option.bind_some,Option.getD_some,reduceIte,Nat.reduceEqDiff,reduceCtorEq]
 refine a0k (fun i:Nat=>St.of [(4,.ptr 4 0),(5,.mp 20),(8,.ptr 8 0),(42,chs 0 t),(43,i64 t.length),(44,i64 k),(9,i64 k),(11,.ptr 11 0),(53,lns 0 L),(54,i64 L.length),(55,i64 j),(12,i64 j),(13,a0q 0 l),(62,i64 ((l.length:Int)+1)),(63,i64 w),(14,.own 701 0 U.length 1),(16,.own 601 0 (pF F o i).length 1),(75,rds G.lo F),(76,i64 F.length),(77,i64 i)] [(4,.box [.v (.slice none 0 0)]),(20,.map kdP M.m),(8,.box [.own 901 0 k 2]),(901,.arr 115 2 X),(11,.box [i64 d,.own 801 0 j 1]),(801,.arr 32 1 Y),(701,.arr 9 1 (U.map a2c)),(601,.arr 9 1 ((pF F o i).map a2c))]) (fun i=>i≤F.length) (fun i=>F.length - i) 0 (by simp) (a1e [(4,some 4),(20,some 20),(8,some 8),(901,some 901),(11,some 11),(801,some 801),(701,some 701),(601,some 601)] (by (simp only [kdP,c2j,go_sem])<;>simp [kdP,c2j]) (by (simp only [kdP,c2j,go_sem,a1d,a0r,a0i,a1l])<;>simp [kdP,c2j]) (by simp [a2m,apart]) (by simp [a0n,usH]) (by simp [hNm,lkR,a0x])) ?_
 rintro i hi
 have hpl:(pF F o i).length≤100:=by
  have h1:=c4e (F.take i) [o]
  simp at h1
  unfold pF
  omega
 have i1:Int.toNat 1=1:=rfl
 have i2:Int.toNat 2=2:=rfl
 have i3:Int.toNat 3=3:=rfl
 by_cases hil:i < F.length
 ·obtain ⟨ws,hws⟩:=f2g F o hF2 i hil
  obtain ⟨P,hP⟩:∃ P,P=pF F o i:=⟨_,rfl⟩
  have hsucc:=e5a F o i hil
  rw [← hP] at hpl hws hsucc
  rw [← hP]
  have hPl:P.length=ws.length+1:=by rw [hws];simp
  have hm1:(P.length:Int) - 1=(ws.length:Int):=by omega
  have hPm:P[ws.length]'(by omega)=o:=by simp [hws]
  have hlt:ws.length < P.length:=by omega
  have hP1:P.length - 1=ws.length:=by omega
  have hmin:min ws.length P.length=ws.length:=by omega
  refine a0d _ _ _ ?_;simp (maxSteps:=2000000) only [go_sem,hG,hOw,hm1]
  (repeat' with_reducible first|apply And.intro|refine exP ?_ ?_|intro);all_goals try omega
  refine d4w ⟨[98,99],[],[]⟩ [0,1,2,3,4,5,6,7,8,9,10,11,12,13,14] 15 [(16,false)] (by rfl) (by rfl) mixed (by kernel_rfl) ?_
  simp only [a3s,List.map_cons,List.map_nil,List.getElem?_cons_zero,List.getElem?_cons_succ]
  rcases hFg F[i] (List.getElem_mem hil) with ⟨hk,hw⟩|⟨hk,hw⟩|⟨hk,hw⟩
  ·have hq:pF F o (i+1)=P.take ws.length++[]:=by
    rw [hsucc]
    unfold a9e b2m
    rw [hk,hP1]
    simp [List.getD_eq_getElem?_getD,hlt,hPm]
   simp (maxSteps:=2000000) only [go_sem,hG,hOw,hk,hm1,i1,i2,i3,Nat.reduceMul,List.drop_succ_cons,List.drop_zero,hPm]
   (repeat' with_reducible first|apply And.intro|refine exP ?_ ?_|intro);all_goals try omega
   refine ⟨_,a0f (d8s o F[i].word),?_⟩
   simp only [go_sem,hG,hOw]
   (repeat' with_reducible first|apply And.intro|refine exP ?_ ?_|intro);all_goals try omega
   refine c0p 86 601 86 ws.length 9 1 (l:=P.map a2c) (by simp [go_sem]) (by simp [go_sem]) (by simp;omega) (by simp [go_sem]) ?_
   refine a8k ?_
   simp only [go_sem,hG,hOw]
   (repeat' with_reducible first|apply And.intro|refine exP ?_ ?_|intro);all_goals try omega
   refine ⟨i+1,by omega,by omega,?_⟩
   exact a1e [(4,some 4),(20,some 20),(8,some 8),(901,some 901),(11,some 11),(801,some 801),(701,some 701),(601,some 99)] (by (simp only [kdP,hq,hmin,a2c,go_sem])<;>simp [kdP,hq,hmin,a2c]) (by (simp only [kdP,hq,hmin,a2c,go_sem,a1d,a0r,a0i,a1l])<;>simp [kdP,hq,hmin,a2c]) (by simp [a2m,apart]) (by simp [a0n,usH]) (by simp [hNm,lkR,a0x])
  ·have hq:pF F o (i+1)=P.take ws.length++[F[i].word,o]:=by
    rw [hsucc]
    unfold a9e b2m
    rw [hk,hP1]
    simp [List.getD_eq_getElem?_getD,hlt,hPm]
   simp (maxSteps:=2000000) only [go_sem,hG,hOw,hk,hm1,i1,i2,i3,Nat.reduceMul,List.drop_succ_cons,List.drop_zero,hPm]
   (repeat' with_reducible first|apply And.intro|refine exP ?_ ?_|intro);all_goals try omega
   refine ⟨_,a0f (e0m o F[i].word),?_⟩
   simp only [go_sem,hG,hOw]
   (repeat' with_reducible first|apply And.intro|refine exP ?_ ?_|intro);all_goals try omega
   refine c0p 86 601 86 ws.length 9 1 (l:=P.map a2c) (by simp [go_sem]) (by simp [go_sem]) (by simp;omega) (by simp [go_sem]) ?_
   refine a8k ?_
   simp only [go_sem,hG,hOw]
   (repeat' with_reducible first|apply And.intro|refine exP ?_ ?_|intro);all_goals try omega
   refine ⟨i+1,by omega,by omega,?_⟩
   exact a1e [(4,some 4),(20,some 20),(8,some 8),(901,some 901),(11,some 11),(801,some 801),(701,some 701),(601,some 99)] (by (simp only [kdP,hq,hmin,a2c,go_sem])<;>simp [kdP,hq,hmin,a2c]) (by (simp only [kdP,hq,hmin,a2c,go_sem,a1d,a0r,a0i,a1l])<;>simp [kdP,hq,hmin,a2c]) (by simp [a2m,apart]) (by simp [a0n,usH]) (by simp [hNm,lkR,a0x])
  ·have hq:pF F o (i+1)=P.take ws.length++[F[i].word]:=by
    rw [hsucc]
    unfold a9e b2m
    rw [hk,hP1]
    simp [List.getD_eq_getElem?_getD,hlt,hPm]
   simp (maxSteps:=2000000) only [go_sem,hG,hOw,hk,hm1,i1,i2,i3,Nat.reduceMul,List.drop_succ_cons,List.drop_zero,hPm]
   (repeat' with_reducible first|apply And.intro|refine exP ?_ ?_|intro);all_goals try omega
   refine ⟨_,a0f (d7r o F[i].word),?_⟩
   simp only [go_sem,hG,hOw]
   (repeat' with_reducible first|apply And.intro|refine exP ?_ ?_|intro);all_goals try omega
   refine c0p 86 601 86 ws.length 9 1 (l:=P.map a2c) (by simp [go_sem]) (by simp [go_sem]) (by simp;omega) (by simp [go_sem]) ?_
   refine a8k ?_
   simp only [go_sem,hG,hOw]
   (repeat' with_reducible first|apply And.intro|refine exP ?_ ?_|intro);all_goals try omega
   refine ⟨i+1,by omega,by omega,?_⟩
   exact a1e [(4,some 4),(20,some 20),(8,some 8),(901,some 901),(11,some 11),(801,some 801),(701,some 701),(601,some 99)] (by (simp only [kdP,hq,hmin,a2c,go_sem])<;>simp [kdP,hq,hmin,a2c]) (by (simp only [kdP,hq,hmin,a2c,go_sem,a1d,a0r,a0i,a1l])<;>simp [kdP,hq,hmin,a2c]) (by simp [a2m,apart]) (by simp [a0n,usH]) (by simp [hNm,lkR,a0x])
 ·have hi2:i=F.length:=by omega
  subst hi2
  refine a0d _ _ _ ?_;simp only [go_sem,hG,hOw]
  (repeat' with_reducible first|apply And.intro|refine exP ?_ ?_|intro);all_goals try omega
  exact ⟨(),a1e [(4,some 4),(20,some 20),(8,some 8),(901,some 901),(11,some 11),(801,some 801),(701,some 701),(601,some 601)] (by (simp only [kdP,go_sem])<;>simp [kdP]) (by (simp only [kdP,go_sem,a1d,a0r,a0i,a1l])<;>simp [kdP]) (by simp [a2m,apart]) (by simp [a0n,usH]) (by simp [hNm,lkR,a0x])⟩
open Go Pm
theorem d2z (t:List Ch) (c:Cp) (hc:OKR t c.rds) (hn:c.rds.length≤20) (k j:Nat) (L:List (List ByteArray)) (l:List ByteArray) (hl1:l.length≤10) (d:Int) (X Y:List (List V)) (M:FM)
  {G:Gh} {Q:Exit→St→Prop} (hlk:∀ k n w:Int,lkM M.m (c2w k n w)=f8c G.lo (c.rds.filter (atW k n w))) (hG:G.n=121) (hOw:G.ow=fun i=>[69].contains i) (hNm:G.nm=[]) :
  SemC Tryz.prog G (b4c 6 Tryz.f90.body) (St.of [(4,.ptr 4 0),(5,.mp 20),(8,.ptr 8 0),(42,chs 0 t),(43,i64 t.length),(44,i64 k),(9,i64 k),(11,.ptr 11 0),(53,lns 0 L),(54,i64 L.length),(55,i64 j),(12,i64 j),(13,a0q 0 l),(62,i64 ((l.length:Int)+1)),(63,i64 0),(14,.v (.slice none 0 0))] [(4,.box [.v (.slice none 0 0)]),(20,.map kdP M.m),(8,.box [.own 901 0 k 2]),(901,.arr 115 2 X),(11,.box [i64 d,.own 801 0 j 1]),(801,.arr 32 1 Y)])
   (d2b G 6 (fun _:Unit=>St.of [(4,.ptr 4 0),(5,.mp 20),(8,.ptr 8 0),(42,chs 0 t),(43,i64 t.length),(44,i64 k),(9,i64 k),(11,.ptr 11 0),(53,lns 0 L),(54,i64 L.length),(55,i64 j),(14,.own 701 0 (wF c.rds k j l (l.length+1)).length 1)] [(4,.box [.v (.slice none 0 0)]),(20,.map kdP M.m),(8,.box [.own 901 0 k 2]),(901,.arr 115 2 X),(11,.box [i64 d,.own 801 0 j 1]),(801,.arr 32 1 Y),(701,.arr 9 1 ((wF c.rds k j l (l.length+1)).map a2c))]) (fun _=>True) Q):=by
 unfold Tryz.f90
 simp only [d6i,b4c,rgO,bkO,a5j,Option.bind_some,Option.getD_some,reduceIte,Nat.reduceEqDiff,reduceCtorEq]
 refine a0k (fun w:Nat=>St.of [(4,.ptr 4 0),(5,.mp 20),(8,.ptr 8 0),(42,chs 0 t),(43,i64 t.length),(44,i64 k),(9,i64 k),(11,.ptr 11 0),(53,lns 0 L),(54,i64 L.length),(55,i64 j),(12,i64 j),(13,a0q 0 l),(62,i64 ((l.length:Int)+1)),(63,i64 w),(14,.own 701 0 (wF c.rds k j l w).length 1)] [(4,.box [.v (.slice none 0 0)]),(20,.map kdP M.m),(8,.box [.own 901 0 k 2]),(901,.arr 115 2 X),(11,.box [i64 d,.own 801 0 j 1]),(801,.arr 32 1 Y),(701,.arr 9 1 ((wF c.rds k j l w).map a2c))]) (fun w=>w≤l.length+1) (fun w=>l.length+1 - w) 0 (by simp) (a1e [(4,some 4),(20,some 20),(8,some 8),(901,some 901),(11,some 11),(801,some 801),(701,none)] (by (simp only [kdP,go_sem])<;>simp [kdP]) (by (simp only [kdP,go_sem,a1d,a0r,a0i,a1l])<;>simp [kdP]) (by simp [a2m,apart]) (by simp [a0n,usH]) (by simp [hNm,lkR,a0x])) ?_
 rintro w hw
 have hwl:=e4l c.rds k j l hn w
 have hsl:=c6q c.rds k j l w
 have hw11:w * 41≤451:=by omega
 refine a0d _ _ _ ?_;simp only [go_sem,hG,hOw]
 (repeat' with_reducible first|apply And.intro|refine exP ?_ ?_|intro);all_goals try omega
 ·rename_i hlt3
  have hwl2:w≤l.length:=by omega
  refine a0a (d2m l w ⟨by omega,by omega⟩) ?_
  have hlk':=hlk k j w
  unfold c2w f8c at hlk'
  cases hf:c.rds.filter (atW k j w) with
  |nil =>
   rw [if_pos hf] at hlk'
   have hsw:b0x c.rds k j l w=[c4b l w]:=by unfold b0x;rw [hf];rfl
   simp (maxSteps:=2000000) only [go_sem,hG,hOw,hlk',kdP,Option.getD_none]
   (repeat' with_reducible first|apply And.intro|refine exP ?_ ?_|intro);all_goals try omega
   refine a3e (fun _:Unit=>St.of [(4,.ptr 4 0),(5,.mp 20),(8,.ptr 8 0),(42,chs 0 t),(43,i64 t.length),(44,i64 k),(9,i64 k),(11,.ptr 11 0),(53,lns 0 L),(54,i64 L.length),(55,i64 j),(12,i64 j),(13,a0q 0 l),(62,i64 ((l.length:Int)+1)),(63,i64 w),(14,.own 701 0 (wF c.rds k j l w).length 1),(16,.own 601 0 (b0x c.rds k j l w).length 1)] [(4,.box [.v (.slice none 0 0)]),(20,.map kdP M.m),(8,.box [.own 901 0 k 2]),(901,.arr 115 2 X),(11,.box [i64 d,.own 801 0 j 1]),(801,.arr 32 1 Y),(701,.arr 9 1 ((wF c.rds k j l w).map a2c)),(601,.arr 9 1 ((b0x c.rds k j l w).map a2c))]) (fun _=>True) ?_ ?_
   ·refine a0k (fun _:Unit=>St.of [(4,.ptr 4 0),(5,.mp 20),(8,.ptr 8 0),(42,chs 0 t),(43,i64 t.length),(44,i64 k),(9,i64 k),(11,.ptr 11 0),(53,lns 0 L),(54,i64 L.length),(55,i64 j),(12,i64 j),(13,a0q 0 l),(62,i64 ((l.length:Int)+1)),(63,i64 w),(14,.own 701 0 (wF c.rds k j l w).length 1),(16,.own 601 0 (b0x c.rds k j l w).length 1),(76,i64 0),(77,i64 0)] [(4,.box [.v (.slice none 0 0)]),(20,.map kdP M.m),(8,.box [.own 901 0 k 2]),(901,.arr 115 2 X),(11,.box [i64 d,.own 801 0 j 1]),(801,.arr 32 1 Y),(701,.arr 9 1 ((wF c.rds k j l w).map a2c)),(601,.arr 9 1 ((b0x c.rds k j l w).map a2c))]) (fun _=>True) (fun _=>0) () trivial (a1e [(4,some 4),(20,some 20),(8,some 8),(901,some 901),(11,some 11),(801,some 801),(701,some 701),(601,some 69)] (by (simp only [kdP,hsw,go_sem])<;>simp [kdP,hsw]) (by (simp only [kdP,hsw,go_sem,a1d,a0r,a0i,a1l])<;>simp [kdP,hsw]) (by simp [a2m,apart]) (by simp [a0n,usH]) (by simp [hNm,lkR,a0x])) ?_
    rintro _ _
    refine a0d _ _ _ ?_;simp only [go_sem,hG,hOw]
    (repeat' with_reducible first|apply And.intro|refine exP ?_ ?_|intro);all_goals try omega
    exact ⟨(),a1e [(4,some 4),(20,some 20),(8,some 8),(901,some 901),(11,some 11),(801,some 801),(701,some 701),(601,some 601)] (by (simp only [kdP,go_sem])<;>simp [kdP]) (by (simp only [kdP,go_sem,a1d,a0r,a0i,a1l])<;>simp [kdP]) (by simp [a2m,apart]) (by simp [a0n,usH]) (by simp [hNm,lkR,a0x])⟩
   rintro _ _
   simp only [go_sem,hG,hOw]
   (repeat' with_reducible first|apply And.intro|refine exP ?_ ?_|intro);all_goals try omega
   have hws:(wF c.rds k j l (w+1))=wF c.rds k j l w++b0x c.rds k j l w:=c8r c.rds k j l w
   refine ⟨w+1,by omega,by omega,?_⟩
   exact a1e [(4,some 4),(20,some 20),(8,some 8),(901,some 901),(11,some 11),(801,some 801),(701,some 103)] (by (simp only [kdP,hws,go_sem])<;>simp [kdP,hws]) (by (simp only [kdP,hws,go_sem,a1d,a0r,a0i,a1l])<;>simp [kdP,hws]) (by simp [a2m,apart]) (by simp [a0n,usH]) (by simp [hNm,lkR,a0x])
  |cons r0 rr =>
   obtain ⟨F,hF⟩:∃ F,F=c.rds.filter (atW k j w):=⟨_,rfl⟩
   have hFn:¬ F=[]:=by rw [hF,hf];simp
   rw [← hF,if_neg hFn] at hlk'
   have hF2:=g2o hc k j w
   rw [← hF] at hF2
   have hFl:F.length≤20:=by rw [hF];have:=List.length_filter_le (atW k j w) c.rds;omega
   have hFg:∀ r ∈ F,b4s r:=fun r hr=>by rw [hF] at hr;exact (hc.i r (List.mem_filter.1 hr).1).2
   have hsw:b0x c.rds k j l w=pF F (c4b l w) F.length:=by unfold b0x pF;rw [← hF,List.take_length]
   simp (maxSteps:=2000000) only [go_sem,hG,hOw,hlk',kdP,Option.getD_some]
   (repeat' with_reducible first|apply And.intro|refine exP ?_ ?_|intro);all_goals try omega
   rw [hsw] at hsl
   refine a3e (fun _:Unit=>St.of [(4,.ptr 4 0),(5,.mp 20),(8,.ptr 8 0),(42,chs 0 t),(43,i64 t.length),(44,i64 k),(9,i64 k),(11,.ptr 11 0),(53,lns 0 L),(54,i64 L.length),(55,i64 j),(12,i64 j),(13,a0q 0 l),(62,i64 ((l.length:Int)+1)),(63,i64 w),(14,.own 701 0 (wF c.rds k j l w).length 1),(16,.own 601 0 (pF F (c4b l w) F.length).length 1)] [(4,.box [.v (.slice none 0 0)]),(20,.map kdP M.m),(8,.box [.own 901 0 k 2]),(901,.arr 115 2 X),(11,.box [i64 d,.own 801 0 j 1]),(801,.arr 32 1 Y),(701,.arr 9 1 ((wF c.rds k j l w).map a2c)),(601,.arr 9 1 ((pF F (c4b l w) F.length).map a2c))]) (fun _=>True) ?_ ?_
   ·refine a4m (s':=St.of [(4,.ptr 4 0),(5,.mp 20),(8,.ptr 8 0),(42,chs 0 t),(43,i64 t.length),(44,i64 k),(9,i64 k),(11,.ptr 11 0),(53,lns 0 L),(54,i64 L.length),(55,i64 j),(12,i64 j),(13,a0q 0 l),(62,i64 ((l.length:Int)+1)),(63,i64 w),(14,.own 701 0 (wF c.rds k j l w).length 1),(16,.own 601 0 1 1),(75,rds G.lo F),(76,i64 F.length),(77,i64 0)] [(4,.box [.v (.slice none 0 0)]),(20,.map kdP M.m),(8,.box [.own 901 0 k 2]),(901,.arr 115 2 X),(11,.box [i64 d,.own 801 0 j 1]),(801,.arr 32 1 Y),(701,.arr 9 1 ((wF c.rds k j l w).map a2c)),(601,.arr 9 1 [[str (c4b l w)]])]) (a1e [(4,some 4),(20,some 20),(8,some 8),(901,some 901),(11,some 11),(801,some 801),(701,some 701),(601,some 69)] (by (simp only [kdP,go_sem])<;>simp [kdP]) (by (simp only [kdP,go_sem,a1d,a0r,a0i,a1l])<;>simp [kdP]) (by simp [a2m,apart]) (by simp [a0n,usH]) (by simp [hNm,lkR,a0x])) ?_
    exact a6l (by kernel_rfl) (f0k t k j w L l (wF c.rds k j l w) d X Y M F (c4b l w) hF2 hFl hFg hG hOw hNm)
   rintro _ _
   simp only [go_sem,hG,hOw]
   (repeat' with_reducible first|apply And.intro|refine exP ?_ ?_|intro);all_goals try omega
   have hws:(wF c.rds k j l (w+1))=wF c.rds k j l w++b0x c.rds k j l w:=c8r c.rds k j l w
   refine ⟨w+1,by omega,by omega,?_⟩
   exact a1e [(4,some 4),(20,some 20),(8,some 8),(901,some 901),(11,some 11),(801,some 801),(701,some 103)] (by (simp only [kdP,hws,hsw,go_sem])<;>simp [kdP,hws,hsw]) (by (simp only [kdP,hws,hsw,go_sem,a1d,a0r,a0i,a1l])<;>simp [kdP,hws,hsw]) (by simp [a2m,apart]) (by simp [a0n,usH]) (by simp [hNm,lkR,a0x])
 ·rename_i hge3
  have hw2:w=l.length+1:=by omega
  subst hw2
  exact ⟨(),a1e [(4,some 4),(20,some 20),(8,some 8),(901,some 901),(11,some 11),(801,some 801),(701,some 701)] (by (simp only [kdP,go_sem])<;>simp [kdP]) (by (simp only [kdP,go_sem,a1d,a0r,a0i,a1l])<;>simp [kdP]) (by simp [a2m,apart]) (by simp [a0n,usH]) (by simp [hNm,lkR,a0x])⟩
open Go Pm
theorem d3q (t:List Ch) (c:Cp) (hc:OKR t c.rds) (hn:c.rds.length≤20) (k:Nat) (cc:Ch) (hv:VCh cc) (M:FM) {G:Gh} {Q:Exit→St→Prop} (hlk:∀ k n w:Int,lkM M.m (c2w k n w)=f8c G.lo (c.rds.filter (atW k n w))) (hG:G.n=121) (hOw:G.ow=fun i=>[69].contains i) (hNm:G.nm=[]) :
  SemC Tryz.prog G (b4c 4 Tryz.f90.body) (St.of [(4,.ptr 4 0),(5,.mp 20),(8,.ptr 8 0),(42,chs 0 t),(43,i64 t.length),(44,i64 k),(9,i64 k),(11,.ptr 11 0),(53,lns 0 cc.lines),(54,i64 cc.lines.length),(55,i64 0)] [(4,.box [.v (.slice none 0 0)]),(20,.map kdP M.m),(8,.box [.own 901 0 k 2]),(901,.arr 115 2 ((cF t c.rds k).map (chG G.lo))),(11,.box [i64 cc.id,.v (.slice none 0 0)])])
   (d2b G 4 (fun _:Unit=>St.of [(4,.ptr 4 0),(5,.mp 20),(8,.ptr 8 0),(42,chs 0 t),(43,i64 t.length),(44,i64 k),(11,.ptr 11 0)] [(4,.box [.v (.slice none 0 0)]),(20,.map kdP M.m),(8,.box [.own 901 0 k 2]),(901,.arr 115 2 ((cF t c.rds k).map (chG G.lo))),(11,.box (chG G.lo ⟨cc.id,lF c.rds k cc cc.lines.length⟩))]) (fun _=>True) Q):=by
 unfold Tryz.f90
 simp only [d6i,b4c,rgO,bkO,a5j,Option.bind_some,Option.getD_some,reduceIte,Nat.reduceEqDiff,reduceCtorEq]
 have hv1:=hv.len
 refine a0k (fun j:Nat=>St.of [(4,.ptr 4 0),(5,.mp 20),(8,.ptr 8 0),(42,chs 0 t),(43,i64 t.length),(44,i64 k),(9,i64 k),(11,.ptr 11 0),(53,lns 0 cc.lines),(54,i64 cc.lines.length),(55,i64 j)] [(4,.box [.v (.slice none 0 0)]),(20,.map kdP M.m),(8,.box [.own 901 0 k 2]),(901,.arr 115 2 ((cF t c.rds k).map (chG G.lo))),(11,.box [i64 cc.id,.own 801 0 j 1]),(801,.arr 32 1 ((lF c.rds k cc j).map (lnE 0)))]) (fun j=>j≤cc.lines.length) (fun j=>cc.lines.length - j) 0 (by simp) (a1e [(4,some 4),(20,some 20),(8,some 8),(901,some 901),(11,some 11),(801,none)] (by (simp only [kdP,go_sem])<;>simp [kdP]) (by (simp only [kdP,go_sem,a1d,a0r,a0i,a1l])<;>simp [kdP]) (by simp [a2m,apart]) (by simp [a0n,usH]) (by simp [hNm,lkR,a0x])) ?_
 rintro j hj
 by_cases hjl:j < cc.lines.length
 ·have hv2:=hv.ln _ (List.getElem_mem hjl)
  obtain ⟨hv3,hv4⟩:=hv2
  refine a0d _ _ _ ?_;simp only [go_sem,hG,hOw]
  (repeat' with_reducible first|apply And.intro|refine exP ?_ ?_|intro);all_goals try omega
  obtain ⟨l,hl⟩:∃ l,l=cc.lines[j]:=⟨_,rfl⟩
  have hl1:l.length≤10:=by rw [hl];exact hv3.2
  rw [← hl]
  refine a3e (fun _:Unit=>St.of [(4,.ptr 4 0),(5,.mp 20),(8,.ptr 8 0),(42,chs 0 t),(43,i64 t.length),(44,i64 k),(9,i64 k),(11,.ptr 11 0),(53,lns 0 cc.lines),(54,i64 cc.lines.length),(55,i64 j),(14,.own 701 0 (wF c.rds k j l (l.length+1)).length 1)] [(4,.box [.v (.slice none 0 0)]),(20,.map kdP M.m),(8,.box [.own 901 0 k 2]),(901,.arr 115 2 ((cF t c.rds k).map (chG G.lo))),(11,.box [i64 cc.id,.own 801 0 j 1]),(801,.arr 32 1 ((lF c.rds k cc j).map (lnE 0))),(701,.arr 9 1 ((wF c.rds k j l (l.length+1)).map a2c))]) (fun _=>True) ?_ ?_
  ·refine a4m (s':=St.of [(4,.ptr 4 0),(5,.mp 20),(8,.ptr 8 0),(42,chs 0 t),(43,i64 t.length),(44,i64 k),(9,i64 k),(11,.ptr 11 0),(53,lns 0 cc.lines),(54,i64 cc.lines.length),(55,i64 j),(12,i64 j),(13,a0q 0 l),(62,i64 ((l.length:Int)+1)),(63,i64 0),(14,.v (.slice none 0 0))] [(4,.box [.v (.slice none 0 0)]),(20,.map kdP M.m),(8,.box [.own 901 0 k 2]),(901,.arr 115 2 ((cF t c.rds k).map (chG G.lo))),(11,.box [i64 cc.id,.own 801 0 j 1]),(801,.arr 32 1 ((lF c.rds k cc j).map (lnE 0)))]) (a1e [(4,some 4),(20,some 20),(8,some 8),(901,some 901),(11,some 11),(801,some 801)] (by (simp only [kdP,go_sem])<;>simp [kdP]) (by (simp only [kdP,go_sem,a1d,a0r,a0i,a1l])<;>simp [kdP]) (by simp [a2m,apart]) (by simp [a0n,usH]) (by simp [hNm,lkR,a0x])) ?_
   exact a6l (by kernel_rfl) (d2z t c hc hn k j cc.lines l hl1 cc.id _ _ M hlk hG hOw hNm)
  rintro _ _
  have hwl:=e4l c.rds k j l hn (l.length+1)
  have hU:=c1t (wF c.rds k j l (l.length+1)) (by omega)
  have h0:(lF c.rds k cc (j+1)).map (lnE 0)=(lF c.rds k cc j).map (lnE 0)++[[a0q 0 ((wF c.rds k j l (l.length+1)).filter neB)]]:=by
   rw [f4n c.rds k cc j hjl,List.map_append,← hl];rfl
  simp only [go_sem,hG,hOw]
  (repeat' with_reducible first|apply And.intro|refine exP ?_ ?_|intro);all_goals try omega
  refine a2g ⟨[701,109,110],[(108,[701])],[108]⟩ [(0,false),(1,false),(2,false),(3,false),(4,false),(5,false),(6,false),(7,false)] mixed (by kernel_rfl) ?_
  simp only [a3s,List.getElem?_cons_zero,List.getElem?_cons_succ]
  simp only [go_sem,hG,hOw]
  (repeat' with_reducible first|apply And.intro|refine exP ?_ ?_|intro);all_goals try omega
  refine ⟨_,a7b [(0,701)] [] (hU) (by (simp only [go_sem])<;>simp) (by (simp only [go_sem,a1d,a0r,a0i,a1l])<;>simp) (by simp [a2m,apart,toR]) (by simp [a0n,usH,toR]) (by simp [a7f,lkR,toR]) rfl (by simp [tgt,a2d]) (by simp [tgt,a2d]) (by simp [upT,a3q,a6j,a1r,usH,lkR,toR,a2d]) (by simp [b4n,usH,tgt,go_sem]) (by simp [a3o,a1r,usH,lkR,toR]) (by simp [a5t,usH]),?_⟩
  simp (maxSteps:=2000000) only [go_sem,hG,hOw,f3h]
  (repeat' with_reducible first|apply And.intro|refine exP ?_ ?_|intro);all_goals try omega
  refine ⟨j+1,by omega,by omega,?_⟩
  exact a1e [(4,some 4),(20,some 20),(8,some 8),(901,some 901),(11,some 11),(801,some 110)] (by (simp only [kdP,h0,a0q,go_sem])<;>simp [kdP,h0,a0q]) (by (simp only [kdP,h0,a0q,go_sem,a1d,a0r,a0i,a1l])<;>simp [kdP,h0,a0q]) (by simp [a2m,apart]) (by simp [a0n,usH]) (by simp [hNm,lkR,a0x])
 ·have hj2:j=cc.lines.length:=by omega
  subst hj2
  have hT:List.take cc.lines.length (List.map (lnE 0) (lF c.rds k cc cc.lines.length))=List.map (lnE 0) (lF c.rds k cc cc.lines.length):=List.take_of_length_le (by rw [List.length_map,f3h];exact Nat.le_refl _)
  refine a0d _ _ _ ?_;simp only [go_sem,hG,hOw]
  (repeat' with_reducible first|apply And.intro|refine exP ?_ ?_|intro);all_goals try omega
  refine ⟨(),b1q (fun i=>i == 801) ?_⟩
  exact a1e [(4,some 4),(20,some 20),(8,some 8),(901,some 901),(11,some 11)] (by (simp only [kdP,chG,hT,go_sem])<;>simp [kdP,chG,hT]) (by (simp only [kdP,chG,hT,go_sem,a1d,a0r,a0i,a1l])<;>simp [kdP,chG,hT]) (by simp [a2m,apart]) (by simp [a0n,usH]) (by simp [hNm,lkR,a0x])
theorem e8t (t:List Ch) (ht:a1s t=true) (c:Cp) (hc:OKR t c.rds) (hn:c.rds.length≤20) (M:FM) {G:Gh} {Q:Exit→St→Prop} (hlk:∀ k n w:Int,lkM M.m (c2w k n w)=f8c G.lo (c.rds.filter (atW k n w))) (hG:G.n=121) (hOw:G.ow=fun i=>[69].contains i) (hNm:G.nm=[]) :
  SemC Tryz.prog G (b4c 2 Tryz.f90.body) (St.of [(4,.ptr 4 0),(5,.mp 20),(8,.ptr 8 0),(42,chs 0 t),(43,i64 t.length),(44,i64 0)] [(4,.box [.v (.slice none 0 0)]),(20,.map kdP M.m),(8,.box [.v (.slice none 0 0)])])
   (d2b G 2 (fun _:Unit=>St.of [(4,.ptr 4 0),(8,.ptr 8 0)] [(4,.box [.v (.slice none 0 0)]),(8,.box [.own 901 0 t.length 2]),(901,.arr 115 2 ((cF t c.rds t.length).map (chG G.lo)))]) (fun _=>True) Q):=by
 unfold Tryz.f90
 simp only [d6i,b4c,rgO,bkO,a5j,Option.bind_some,Option.getD_some,reduceIte,Nat.reduceEqDiff,reduceCtorEq]
 obtain ⟨ht1,ht2⟩:=b0f ht
 refine a0k (fun k:Nat=>St.of [(4,.ptr 4 0),(5,.mp 20),(8,.ptr 8 0),(42,chs 0 t),(43,i64 t.length),(44,i64 k)] [(4,.box [.v (.slice none 0 0)]),(20,.map kdP M.m),(8,.box [.own 901 0 k 2]),(901,.arr 115 2 ((cF t c.rds k).map (chG G.lo)))]) (fun k=>k≤t.length) (fun k=>t.length - k) 0 (by simp) (a1e [(4,some 4),(20,some 20),(8,some 8),(901,none)] (by (simp only [kdP,go_sem])<;>simp [kdP]) (by (simp only [kdP,go_sem,a1d,a0r,a0i,a1l])<;>simp [kdP]) (by simp [a2m,apart]) (by simp [a0n,usH]) (by simp [hNm,lkR,a0x])) ?_
 rintro k hk
 refine a0d _ _ _ ?_;simp only [go_sem,hG,hOw]
 (repeat' with_reducible first|apply And.intro|refine exP ?_ ?_|intro);all_goals try omega
 ·rename_i hlt
  have hkl:k < t.length:=by omega
  have hv:=ht2 _ (List.getElem_mem hkl)
  refine a3e (fun _:Unit=>St.of [(4,.ptr 4 0),(5,.mp 20),(8,.ptr 8 0),(42,chs 0 t),(43,i64 t.length),(44,i64 k),(11,.ptr 11 0)] [(4,.box [.v (.slice none 0 0)]),(20,.map kdP M.m),(8,.box [.own 901 0 k 2]),(901,.arr 115 2 ((cF t c.rds k).map (chG G.lo))),(11,.box (chG G.lo ⟨t[k].id,lF c.rds k t[k] t[k].lines.length⟩))]) (fun _=>True) ?_ ?_
  ·refine a4m (s':=St.of [(4,.ptr 4 0),(5,.mp 20),(8,.ptr 8 0),(42,chs 0 t),(43,i64 t.length),(44,i64 k),(9,i64 k),(11,.ptr 11 0),(53,lns 0 t[k].lines),(54,i64 t[k].lines.length),(55,i64 0)] [(4,.box [.v (.slice none 0 0)]),(20,.map kdP M.m),(8,.box [.own 901 0 k 2]),(901,.arr 115 2 ((cF t c.rds k).map (chG G.lo))),(11,.box [i64 t[k].id,.v (.slice none 0 0)])]) (a1e [(4,some 4),(20,some 20),(8,some 8),(901,some 901),(11,some 11)] (by (simp only [kdP,go_sem])<;>simp [kdP]) (by (simp only [kdP,go_sem,a1d,a0r,a0i,a1l])<;>simp [kdP]) (by simp [a2m,apart]) (by simp [a0n,usH]) (by simp [hNm,lkR,a0x])) ?_
   exact a6l (by kernel_rfl) (d3q t c hc hn k t[k] hv M hlk hG hOw hNm)
  rintro _ _
  have h0:(cF t c.rds (k+1)).map (chG G.lo)=(cF t c.rds k).map (chG G.lo)++[chG G.lo ⟨t[k].id,lF c.rds k t[k] t[k].lines.length⟩]:=by rw [f7h t c.rds k hkl,List.map_append];rfl
  simp (maxSteps:=2000000) only [go_sem,hG,hOw,f2w,chG]
  (repeat' with_reducible first|apply And.intro|refine exP ?_ ?_|intro);all_goals try omega
  refine ⟨k+1,by omega,by omega,?_⟩
  exact a1e [(4,some 4),(20,some 20),(8,some 8),(901,some 117)] (by (simp only [kdP,h0,chG,go_sem])<;>simp [kdP,h0,chG]) (by (simp only [kdP,h0,chG,go_sem,a1d,a0r,a0i,a1l])<;>simp [kdP,h0,chG]) (by simp [a2m,apart]) (by simp [a0n,usH]) (by simp [hNm,lkR,a0x])
 ·rename_i hge
  have hk2:k=t.length:=by omega
  subst hk2
  exact ⟨(),a1e [(4,some 4),(8,some 8),(901,some 901)] (by (simp only [kdP,go_sem])<;>simp [kdP]) (by (simp only [kdP,go_sem,a1d,a0r,a0i,a1l])<;>simp [kdP]) (by simp [a2m,apart]) (by simp [a0n,usH]) (by simp [hNm,lkR,a0x])⟩
theorem e6b (t:List Ch) (ht:a1s t=true) (c:Cp) (hc:OKR t c.rds) (hn:c.rds.length≤20):a0l Tryz.prog 90 [.fp [chs 0 t],cpE 0 c] (fun _=>txE 0 (b9h t c.rds)):=by
 refine a0b (ow:=fun i=>[69].contains i) Tryz.func90 Tryz.ntmps90 rfl rfl fun G hG hOw hNm hB=>?_;simp only [go_sem,hG,hOw]
 refine a3e (fun M:FM=>St.of [(0,.fp [chs 0 t]),(4,.ptr 4 0),(5,.mp 20)] [(4,.box [.v (.slice none 0 0)]),(20,.map kdP M.m)]) (fun M=>M.m=(b9b c.rds).map (d1n G.lo c.rds)) ?_ ?_
 ·refine a4m (s':=St.of [(0,.fp [chs 0 t]),(4,.ptr 4 0),(5,.mp 20),(22,rds 0 c.rds),(23,i64 c.rds.length),(24,i64 0)] [(4,.box [.v (.slice none 0 0)]),(20,.map kdP [])]) (a1e [(4,some 4),(20,some 20)] (by (simp only [kdP,go_sem])<;>simp [kdP]) (by (simp only [kdP,go_sem,a1d,a0r,a0i,a1l])<;>simp [kdP]) (by simp [a2m,apart]) (by simp [a0n,usH]) (by simp [hNm,lkR,a0x])) ?_
  exact a6l (by kernel_rfl) (e7m t c hc hn hG hOw hNm)
 rintro M hM
 have hlk:∀ k n w:Int,lkM M.m (c2w k n w)=f8c G.lo (c.rds.filter (atW k n w)):=fun k n w=>by rw [hM];exact f6p hc G.lo k n w
 obtain ⟨ht1,ht2⟩:=b0f ht
 simp only [go_sem,hG,hOw]
 (repeat' with_reducible first|apply And.intro|refine exP ?_ ?_|intro);all_goals try omega
 refine a3e (fun _:Unit=>St.of [(4,.ptr 4 0),(8,.ptr 8 0)] [(4,.box [.v (.slice none 0 0)]),(8,.box [.own 901 0 t.length 2]),(901,.arr 115 2 ((cF t c.rds t.length).map (chG G.lo)))]) (fun _=>True) ?_ ?_
 ·refine a4m (s':=St.of [(4,.ptr 4 0),(5,.mp 20),(8,.ptr 8 0),(42,chs 0 t),(43,i64 t.length),(44,i64 0)] [(4,.box [.v (.slice none 0 0)]),(20,.map kdP M.m),(8,.box [.v (.slice none 0 0)])]) (a1e [(4,some 4),(20,some 20),(8,some 8)] (by (simp only [kdP,go_sem])<;>simp [kdP]) (by (simp only [kdP,go_sem,a1d,a0r,a0i,a1l])<;>simp [kdP]) (by simp [a2m,apart]) (by simp [a0n,usH]) (by simp [hNm,lkR,a0x])) ?_
  exact a6l (by kernel_rfl) (e8t t ht c hc hn M hlk hG hOw hNm)
 rintro _ _
 simp only [go_sem,hG,hOw]
 rw [List.take_of_length_le (by rw [f2w];exact Nat.le_refl _)]
 exact Subs.agg (.cons (Sub.map (Nat.zero_le _) fun c=>.cons (.refl _) (.cons (Sub.lo (Nat.zero_le _)) .nil)) .nil)
open Go Pm
def a7y (t:List Ch) (c:Cp):Bool:=inB c.id 0 9999 && decide (c.rds.length≤20) && c2r t c.rds && (List.range t.length).all fun k=>(List.range (t.getD k ⟨0,[]⟩).lines.length).all fun n=>inB ((e9o c.rds (k:Nat) (n:Nat) ((t.getD k ⟨0,[]⟩).lines.getD n [])).length) 1 10
theorem e0r (t:List Ch) (rs:List Rd):(b9h t rs).length=t.length:=by simp [b9h]
theorem d0m {t:List Ch} {c:Cp} (hc:OKR t c.rds) (k:Nat) (h:k < t.length):(e4s t c.rds k t[k]).lines.any (fun l=>!inB l.length 1 10)=!((List.range t[k].lines.length).all fun n=>inB ((e9o c.rds (k:Nat) (n:Nat) (t[k].lines.getD n [])).length) 1 10):=by
 unfold e4s
 simp only [List.any_map,List.not_all_eq_any_not]
 congr 1
 funext n
 simp only [Function.comp,f5p hc]
theorem c1f (t:List Ch) (l:List Rd) (k:Nat) (hk:k < l.length):d1m t l k=(a1w t l[k] && (decide (k=0) || b8d (l.getD (k - 1) rd0) l[k])):=by
 unfold d1m
 simp [hk]
theorem d1k {t:List Ch} {l:List Rd} {k:Nat} (hk:k < l.length) (h:d1m t l k=false):c2r t l=false:=by
 unfold c2r
 cases hx:(List.range l.length).all (d1m t l) with
 |false=>rfl
 |true=>have:=List.all_eq_true.1 hx k (by simpa using hk);rw [h] at this;cases this
theorem e6j {t:List Ch} {l:List Rd} (h:∀ k,k < l.length→d1m t l k=true):c2r t l=true:=List.all_eq_true.2 fun k hk=>h k (by simpa using hk)
theorem a5y {t:List Ch} {l:List Rd} {k:Nat} (hk:k < l.length) (h:a1w t l[k]=false):c2r t l=false:=d1k hk (by rw [c1f t l k hk,h];rfl)
theorem d6q {t:List Ch} {l:List Rd} {k:Nat} (hk:k < l.length) (h0:¬ k=0) (h:b8d (l.getD (k - 1) rd0) l[k]=false):c2r t l=false:=d1k hk (by rw [c1f t l k hk,h];simp [h0])
open Go Pm
theorem rA (t:List Ch) (ht:a1s t=true) (htB:c1w t) (c:Cp) (hl:c.rds.length≤20) (k:Nat) (hkl:k < c.rds.length) {G:Gh} {Q:Exit→St→Prop} (hG:G.n=114) (hOw:G.ow=fun _=>false) (hNm:G.nm=[]) (hbad:c2r t c.rds=false→∀ s',s'.get 4=bl false→Q .ret s')
  (hQ:∀ s l,(1≤l.length∧l.length≤10)→a4x t c.rds[k].ch c.rds[k].ln=some l→((c.rds[k].kind.toNat:Int)=1∨(c.rds[k].kind.toNat:Int)=2∨(c.rds[k].kind.toNat:Int)=3)→Ent G s (St.of [(0,.fp [chs 0 t]),(3,.ptr 3 0),(25,rds 0 c.rds),(26,i64 c.rds.length),(27,i64 k),(5,i64 k),(6,.ptr 6 0),(7,a0q 0 l)] [(3,.box (cpC 0 c)),(6,.box (rdE c.rds[k]))])→Q .normal s) :
  SemL Tryz.prog G ((a5k (b4c 1 Tryz.f148.body)).take 4) (St.of [(0,.fp [chs 0 t]),(3,.ptr 3 0),(25,rds 0 c.rds),(26,i64 c.rds.length),(27,i64 k)] [(3,.box (cpC 0 c))]) Q:=by
 unfold Tryz.f148
 simp only [d6i,b4c,rgO,bkO,a5j,Option.bind_some,Option.getD_some,reduceIte,Nat.reduceEqDiff,reduceCtorEq]
 simp only [a5k,List.cons_append,List.nil_append,List.append_assoc,List.take_succ_cons,List.take_zero,List.take_nil,List.drop_succ_cons,List.drop_zero]
 obtain ⟨ht1,ht2⟩:=b0f ht
 cases hL:a4x t c.rds[k].ch c.rds[k].ln with
 |none =>
  have hb:=hbad (a5y hkl (by unfold a1w;rw [hL]))
  refine a1j 5 _ _ ?_
  simp only [go_sem,hG,hOw]
  (repeat' with_reducible first|apply And.intro|refine exP ?_ ?_|intro);all_goals try omega
  refine a0a (d6u t htB c.rds[k].ch c.rds[k].ln c.rds[k].wd hL) ?_
  simp only [go_sem,hG,hOw]
  (repeat' with_reducible first|apply And.intro|refine exP ?_ ?_|intro);all_goals try omega
  exact hb _ (by simp [go_sem])
 |some l =>
  have hll:1≤l.length∧l.length≤10:=by
   unfold a4x at hL
   split at hL
   ·simp only [Option.bind_eq_some_iff] at hL
    obtain ⟨cc,hc,hl⟩:=hL
    obtain ⟨hat,rfl⟩:=List.getElem?_eq_some_iff.1 hc
    obtain ⟨hbl,rfl⟩:=List.getElem?_eq_some_iff.1 hl
    exact ((ht2 _ (List.getElem_mem hat)).ln _ (List.getElem_mem hbl)).1
   ·cases hL
  have hR:a1w t c.rds[k]=b8k l c.rds[k].wd c.rds[k].kind.toNat c.rds[k].word:=by unfold a1w;rw [hL]
  have hn0:decide ((l.length:Int)=0)=false:=decide_eq_false (by omega)
  have hk256:=UInt8.toNat_lt c.rds[k].kind
  refine a1j 5 _ _ ?_
  simp only [go_sem,hG,hOw]
  (repeat' with_reducible first|apply And.intro|refine exP ?_ ?_|intro);all_goals try omega
  refine a0a (c2k t htB c.rds[k].ch c.rds[k].ln c.rds[k].wd l hL) ?_
  simp (maxSteps:=2000000) only [go_sem,hG,hOw,hn0]
  (repeat' with_reducible first|apply And.intro|refine exP ?_ ?_|intro);all_goals try omega
  refine a0a (a3x 1 3 c.rds[k].kind.toNat) ?_
  cases hin3:inB (c.rds[k].kind.toNat:Int) 1 3 with
  |false =>
   simp only [go_sem,hG,hOw]
   (repeat' with_reducible first|apply And.intro|refine exP ?_ ?_|intro);all_goals try omega
   refine hbad (a5y hkl ?_) _ (by simp [go_sem])
   rw [hR]
   unfold b8k
   simp only [inB,Bool.and_eq_false_iff,decide_eq_false_iff_not] at hin3
   rw [if_neg (by omega),if_neg (by omega),if_neg (by omega)]
  |true =>
   have hkd:(c.rds[k].kind.toNat:Int)=1∨(c.rds[k].kind.toNat:Int)=2∨(c.rds[k].kind.toNat:Int)=3:=by
    simp only [inB,Bool.and_eq_true,decide_eq_true_eq] at hin3
    omega
   simp only [go_sem,hG,hOw]
   (repeat' with_reducible first|apply And.intro|refine exP ?_ ?_|intro);all_goals try omega
   exact hQ _ l hll hL hkd (a1m [(3,some 3),(6,some 6)])
theorem rB1 (t:List Ch) (c:Cp) (hl:c.rds.length≤20) (k:Nat) (hkl:k < c.rds.length) (l:List ByteArray) (hll:1≤l.length∧l.length≤10) (hL:a4x t c.rds[k].ch c.rds[k].ln=some l) (hkd:(c.rds[k].kind.toNat:Int)=1) {G:Gh} {Q:Exit→St→Prop} (hG:G.n=114) (hOw:G.ow=fun _=>false) (hNm:G.nm=[]) (hbad:c2r t c.rds=false→∀ s',s'.get 4=bl false→Q .ret s')
  (hQ:∀ s,a1w t c.rds[k]=true→Ent G s (St.of [(0,.fp [chs 0 t]),(3,.ptr 3 0),(25,rds 0 c.rds),(26,i64 c.rds.length),(27,i64 k),(5,i64 k),(6,.ptr 6 0)] [(3,.box (cpC 0 c)),(6,.box (rdE c.rds[k]))])→Q .normal s) :
  SemL Tryz.prog G (((a5k (b4c 1 Tryz.f148.body)).drop 4).take 3) (St.of [(0,.fp [chs 0 t]),(3,.ptr 3 0),(25,rds 0 c.rds),(26,i64 c.rds.length),(27,i64 k),(5,i64 k),(6,.ptr 6 0),(7,a0q 0 l)] [(3,.box (cpC 0 c)),(6,.box (rdE c.rds[k]))]) Q:=by
 unfold Tryz.f148
 simp only [d6i,b4c,rgO,bkO,a5j,Option.bind_some,Option.getD_some,reduceIte,Nat.reduceEqDiff,reduceCtorEq]
 simp only [a5k,List.cons_append,List.nil_append,List.append_assoc,List.take_succ_cons,List.take_zero,List.take_nil,List.drop_succ_cons,List.drop_zero]
 have i1:Int.toNat 1=1:=rfl
 have i2:Int.toNat 2=2:=rfl
 have i3:Int.toNat 3=3:=rfl
 have hR:a1w t c.rds[k]=b8k l c.rds[k].wd c.rds[k].kind.toNat c.rds[k].word:=by unfold a1w;rw [hL]
 have hR2:a1w t c.rds[k]=(inB c.rds[k].wd 0 ((l.length:Int) - 1) && decide (c.rds[k].word=⟨#[]⟩)):=by rw [hR,hkd];simp [b8k]
 have e1:(l.length:Int) - 1+0=((l.length:Int) - 1):=by omega
 refine a1j 4 _ _ ?_
 simp (maxSteps:=2000000) only [go_sem,hG,hOw,hkd,i1,i2,i3,Nat.reduceMul,List.drop_succ_cons,List.drop_zero]
 (repeat' with_reducible first|apply And.intro|refine exP ?_ ?_|intro);all_goals try omega
 refine a0s mixed (by kernel_rfl) ?_
 simp (maxSteps:=2000000) only [go_sem,hG,hOw,e1]
 (repeat' with_reducible first|apply And.intro|refine exP ?_ ?_|intro);all_goals try omega
 refine ⟨_,a0f (a3x 0 ((l.length:Int) - 1) c.rds[k].wd),?_⟩
 cases hin:inB c.rds[k].wd 0 ((l.length:Int) - 1) with
 |false =>
  simp only [go_sem,hG,hOw]
  (repeat' with_reducible first|apply And.intro|refine exP ?_ ?_|intro);all_goals try omega
  exact hbad (a5y hkl (by rw [hR2,hin];rfl)) _ (by simp [go_sem])
 |true =>
  have hin2:0≤c.rds[k].wd∧c.rds[k].wd≤((l.length:Int) - 1):=by simpa [inB] using hin
  simp only [go_sem,hG,hOw]
  (repeat' with_reducible first|apply And.intro|refine exP ?_ ?_|intro);all_goals try omega
  refine ⟨_,a0f (d2m l c.rds[k].wd ⟨by omega,by omega⟩),?_⟩
  simp only [go_sem,hG,hOw]
  (repeat' with_reducible first|apply And.intro|refine exP ?_ ?_|intro);all_goals try omega
  refine ⟨_,a0f (d9h (c4b l c.rds[k].wd) c.rds[k].word),?_⟩
  cases hX:decide (c.rds[k].word=⟨#[]⟩) with
  |false =>
   simp only [go_sem,hG,hOw]
   (repeat' with_reducible first|apply And.intro|refine exP ?_ ?_|intro);all_goals try omega
   exact hbad (a5y hkl (by rw [hR2,hin,hX];rfl)) _ (by simp [go_sem])
  |true =>
   have hRt:a1w t c.rds[k]=true:=by rw [hR2,hin,hX];rfl
   simp only [go_sem,hG,hOw]
   (repeat' with_reducible first|apply And.intro|refine exP ?_ ?_|intro);all_goals try omega
   exact hQ _ hRt (a1m [(3,some 3),(6,some 6)] (by (simp only [go_sem])<;>simp [hkd]) (by (simp only [go_sem,a1d,a0r,a0i,a1l])<;>simp [hkd]))
theorem rB2 (t:List Ch) (c:Cp) (hl:c.rds.length≤20) (k:Nat) (hkl:k < c.rds.length) (l:List ByteArray) (hll:1≤l.length∧l.length≤10) (hL:a4x t c.rds[k].ch c.rds[k].ln=some l) (hkd:(c.rds[k].kind.toNat:Int)=2) {G:Gh} {Q:Exit→St→Prop} (hG:G.n=114) (hOw:G.ow=fun _=>false) (hNm:G.nm=[]) (hbad:c2r t c.rds=false→∀ s',s'.get 4=bl false→Q .ret s')
  (hQ:∀ s,a1w t c.rds[k]=true→Ent G s (St.of [(0,.fp [chs 0 t]),(3,.ptr 3 0),(25,rds 0 c.rds),(26,i64 c.rds.length),(27,i64 k),(5,i64 k),(6,.ptr 6 0)] [(3,.box (cpC 0 c)),(6,.box (rdE c.rds[k]))])→Q .normal s) :
  SemL Tryz.prog G (((a5k (b4c 1 Tryz.f148.body)).drop 4).take 3) (St.of [(0,.fp [chs 0 t]),(3,.ptr 3 0),(25,rds 0 c.rds),(26,i64 c.rds.length),(27,i64 k),(5,i64 k),(6,.ptr 6 0),(7,a0q 0 l)] [(3,.box (cpC 0 c)),(6,.box (rdE c.rds[k]))]) Q:=by
 unfold Tryz.f148
 simp only [d6i,b4c,rgO,bkO,a5j,Option.bind_some,Option.getD_some,reduceIte,Nat.reduceEqDiff,reduceCtorEq]
 simp only [a5k,List.cons_append,List.nil_append,List.append_assoc,List.take_succ_cons,List.take_zero,List.take_nil,List.drop_succ_cons,List.drop_zero]
 have i1:Int.toNat 1=1:=rfl
 have i2:Int.toNat 2=2:=rfl
 have i3:Int.toNat 3=3:=rfl
 have hR:a1w t c.rds[k]=b8k l c.rds[k].wd c.rds[k].kind.toNat c.rds[k].word:=by unfold a1w;rw [hL]
 have hR2:a1w t c.rds[k]=(inB c.rds[k].wd 0 (l.length:Int) && a1f c.rds[k].word):=by rw [hR,hkd];simp [b8k]
 have e1:(l.length:Int) - 1+1=(l.length:Int):=by omega
 refine a1j 4 _ _ ?_
 simp (maxSteps:=2000000) only [go_sem,hG,hOw,hkd,i1,i2,i3,Nat.reduceMul,List.drop_succ_cons,List.drop_zero]
 (repeat' with_reducible first|apply And.intro|refine exP ?_ ?_|intro);all_goals try omega
 refine a0s mixed (by kernel_rfl) ?_
 simp (maxSteps:=2000000) only [go_sem,hG,hOw,e1]
 (repeat' with_reducible first|apply And.intro|refine exP ?_ ?_|intro);all_goals try omega
 refine ⟨_,a0f (a3x 0 (l.length:Int) c.rds[k].wd),?_⟩
 cases hin:inB c.rds[k].wd 0 (l.length:Int) with
 |false =>
  simp only [go_sem,hG,hOw]
  (repeat' with_reducible first|apply And.intro|refine exP ?_ ?_|intro);all_goals try omega
  exact hbad (a5y hkl (by rw [hR2,hin];rfl)) _ (by simp [go_sem])
 |true =>
  have hin2:0≤c.rds[k].wd∧c.rds[k].wd≤(l.length:Int):=by simpa [inB] using hin
  simp only [go_sem,hG,hOw]
  (repeat' with_reducible first|apply And.intro|refine exP ?_ ?_|intro);all_goals try omega
  refine ⟨_,a0f (d2m l c.rds[k].wd ⟨by omega,by omega⟩),?_⟩
  simp only [go_sem,hG,hOw]
  (repeat' with_reducible first|apply And.intro|refine exP ?_ ?_|intro);all_goals try omega
  refine ⟨_,a0f (d9j (c4b l c.rds[k].wd) c.rds[k].word),?_⟩
  cases hX:a1f c.rds[k].word with
  |false =>
   simp only [go_sem,hG,hOw]
   (repeat' with_reducible first|apply And.intro|refine exP ?_ ?_|intro);all_goals try omega
   exact hbad (a5y hkl (by rw [hR2,hin,hX];rfl)) _ (by simp [go_sem])
  |true =>
   have hRt:a1w t c.rds[k]=true:=by rw [hR2,hin,hX];rfl
   simp only [go_sem,hG,hOw]
   (repeat' with_reducible first|apply And.intro|refine exP ?_ ?_|intro);all_goals try omega
   exact hQ _ hRt (a1m [(3,some 3),(6,some 6)] (by (simp only [go_sem])<;>simp [hkd]) (by (simp only [go_sem,a1d,a0r,a0i,a1l])<;>simp [hkd]))
theorem rB3 (t:List Ch) (c:Cp) (hl:c.rds.length≤20) (k:Nat) (hkl:k < c.rds.length) (l:List ByteArray) (hll:1≤l.length∧l.length≤10) (hL:a4x t c.rds[k].ch c.rds[k].ln=some l) (hkd:(c.rds[k].kind.toNat:Int)=3) {G:Gh} {Q:Exit→St→Prop} (hG:G.n=114) (hOw:G.ow=fun _=>false) (hNm:G.nm=[]) (hbad:c2r t c.rds=false→∀ s',s'.get 4=bl false→Q .ret s')
  (hQ:∀ s,a1w t c.rds[k]=true→Ent G s (St.of [(0,.fp [chs 0 t]),(3,.ptr 3 0),(25,rds 0 c.rds),(26,i64 c.rds.length),(27,i64 k),(5,i64 k),(6,.ptr 6 0)] [(3,.box (cpC 0 c)),(6,.box (rdE c.rds[k]))])→Q .normal s) :
  SemL Tryz.prog G (((a5k (b4c 1 Tryz.f148.body)).drop 4).take 3) (St.of [(0,.fp [chs 0 t]),(3,.ptr 3 0),(25,rds 0 c.rds),(26,i64 c.rds.length),(27,i64 k),(5,i64 k),(6,.ptr 6 0),(7,a0q 0 l)] [(3,.box (cpC 0 c)),(6,.box (rdE c.rds[k]))]) Q:=by
 unfold Tryz.f148
 simp only [d6i,b4c,rgO,bkO,a5j,Option.bind_some,Option.getD_some,reduceIte,Nat.reduceEqDiff,reduceCtorEq]
 simp only [a5k,List.cons_append,List.nil_append,List.append_assoc,List.take_succ_cons,List.take_zero,List.take_nil,List.drop_succ_cons,List.drop_zero]
 have i1:Int.toNat 1=1:=rfl
 have i2:Int.toNat 2=2:=rfl
 have i3:Int.toNat 3=3:=rfl
 have hR:a1w t c.rds[k]=b8k l c.rds[k].wd c.rds[k].kind.toNat c.rds[k].word:=by unfold a1w;rw [hL]
 have hR2:a1w t c.rds[k]=(inB c.rds[k].wd 0 ((l.length:Int) - 1) && (a1f c.rds[k].word && decide (c.rds[k].word≠c4b l c.rds[k].wd))):=by rw [hR,hkd];simp [b8k]
 have e1:(l.length:Int) - 1+0=((l.length:Int) - 1):=by omega
 refine a1j 4 _ _ ?_
 simp (maxSteps:=2000000) only [go_sem,hG,hOw,hkd,i1,i2,i3,Nat.reduceMul,List.drop_succ_cons,List.drop_zero]
 (repeat' with_reducible first|apply And.intro|refine exP ?_ ?_|intro);all_goals try omega
 refine a0s mixed (by kernel_rfl) ?_
 simp (maxSteps:=2000000) only [go_sem,hG,hOw,e1]
 (repeat' with_reducible first|apply And.intro|refine exP ?_ ?_|intro);all_goals try omega
 refine ⟨_,a0f (a3x 0 ((l.length:Int) - 1) c.rds[k].wd),?_⟩
 cases hin:inB c.rds[k].wd 0 ((l.length:Int) - 1) with
 |false =>
  simp only [go_sem,hG,hOw]
  (repeat' with_reducible first|apply And.intro|refine exP ?_ ?_|intro);all_goals try omega
  exact hbad (a5y hkl (by rw [hR2,hin];rfl)) _ (by simp [go_sem])
 |true =>
  have hin2:0≤c.rds[k].wd∧c.rds[k].wd≤((l.length:Int) - 1):=by simpa [inB] using hin
  simp only [go_sem,hG,hOw]
  (repeat' with_reducible first|apply And.intro|refine exP ?_ ?_|intro);all_goals try omega
  refine ⟨_,a0f (d2m l c.rds[k].wd ⟨by omega,by omega⟩),?_⟩
  simp only [go_sem,hG,hOw]
  (repeat' with_reducible first|apply And.intro|refine exP ?_ ?_|intro);all_goals try omega
  refine ⟨_,a0f (d9k (c4b l c.rds[k].wd) c.rds[k].word),?_⟩
  cases hX:(a1f c.rds[k].word && decide (c.rds[k].word≠c4b l c.rds[k].wd)) with
  |false =>
   simp only [go_sem,hG,hOw]
   (repeat' with_reducible first|apply And.intro|refine exP ?_ ?_|intro);all_goals try omega
   exact hbad (a5y hkl (by rw [hR2,hin,hX];rfl)) _ (by simp [go_sem])
  |true =>
   have hRt:a1w t c.rds[k]=true:=by rw [hR2,hin,hX];rfl
   simp only [go_sem,hG,hOw]
   (repeat' with_reducible first|apply And.intro|refine exP ?_ ?_|intro);all_goals try omega
   exact hQ _ hRt (a1m [(3,some 3),(6,some 6)] (by (simp only [go_sem])<;>simp [hkd]) (by (simp only [go_sem,a1d,a0r,a0i,a1l])<;>simp [hkd]))
theorem rC (t:List Ch) (c:Cp) (hl:c.rds.length≤20) (k:Nat) (hkl:k < c.rds.length) (hRt:a1w t c.rds[k]=true) {G:Gh} {Q:Exit→St→Prop} (hG:G.n=114) (hOw:G.ow=fun _=>false) (hNm:G.nm=[]) (hbad:c2r t c.rds=false→∀ s',s'.get 4=bl false→Q .ret s')
  (hQ:∀ s e,(e=.normal∨e=.exit 1)→d1m t c.rds k=true→Ent G s (St.of [(0,.fp [chs 0 t]),(3,.ptr 3 0),(25,rds 0 c.rds),(26,i64 c.rds.length),(27,i64 k)] [(3,.box (cpC 0 c))])→Q e s) :
  SemL Tryz.prog G ((a5k (b4c 1 Tryz.f148.body)).drop 7) (St.of [(0,.fp [chs 0 t]),(3,.ptr 3 0),(25,rds 0 c.rds),(26,i64 c.rds.length),(27,i64 k),(5,i64 k),(6,.ptr 6 0)] [(3,.box (cpC 0 c)),(6,.box (rdE c.rds[k]))]) Q:=by
 unfold Tryz.f148
 simp only [d6i,b4c,rgO,bkO,a5j,Option.bind_some,Option.getD_some,reduceIte,Nat.reduceEqDiff,reduceCtorEq]
 simp only [a5k,List.cons_append,List.nil_append,List.append_assoc,List.take_succ_cons,List.take_zero,List.take_nil,List.drop_succ_cons,List.drop_zero]
 by_cases hk0:k=0
 ·have hz:d1m t c.rds k=true:=by rw [c1f t c.rds k hkl,hRt,decide_eq_true hk0];rfl
  have hk0':((k:Nat):Int)=0:=by omega
  refine a1j 7 _ _ ?_
  simp (maxSteps:=2000000) only [go_sem,hG,hOw,decide_eq_true hk0']
  (repeat' with_reducible first|apply And.intro|refine exP ?_ ?_|intro);all_goals try omega
  exact hQ _ _ (.inr rfl) hz (a1m [(3,some 3)])
 ·have hk0':¬ ((k:Nat):Int)=0:=by omega
  have hk1:((k:Int) - 1).toNat=k - 1:=by omega
  have hP:=d7u c.rds[k - 1] c.rds[k]
  have hgood:b8d c.rds[k - 1] c.rds[k]=true→d1m t c.rds k=true:=fun h=>by
   rw [c1f t c.rds k hkl,hRt,show c.rds.getD (k - 1) rd0=c.rds[k - 1] by simp [show k - 1 < c.rds.length by omega],h]
   simp
  have hpe:b8d c.rds[k - 1] c.rds[k]=false→b8d (c.rds.getD (k - 1) rd0) c.rds[k]=false:=fun h=>by
   rw [show c.rds.getD (k - 1) rd0=c.rds[k - 1] by simp [show k - 1 < c.rds.length by omega]];exact h
  refine a1j 7 _ _ ?_
  simp (maxSteps:=2000000) only [go_sem,hG,hOw,decide_eq_false hk0',hk1]
  (repeat' with_reducible first|apply And.intro|refine exP ?_ ?_|intro);all_goals try omega
  refine a0a (f1k c.rds[k - 1] c.rds[k]) ?_
  simp only [go_sem,hG,hOw]
  (repeat' with_reducible first|apply And.intro|refine exP ?_ ?_|intro);all_goals try omega
  all_goals first
   |exact hbad (d6q hkl hk0 (hpe (by rw [hP];simp;omega))) _ (by simp [go_sem])
   |exact hQ _ _ (.inl rfl) (hgood (by rw [hP];simp;omega)) (a1m [(3,some 3)])
theorem e2p (t:List Ch) (ht:a1s t=true) (htB:c1w t) (c:Cp) (hl:c.rds.length≤20) {G:Gh} {Q:Exit→St→Prop} (hG:G.n=114) (hOw:G.ow=fun _=>false) (hNm:G.nm=[]) (hbad:c2r t c.rds=false→∀ s',s'.get 4=bl false→Q .ret s') :
  SemC Tryz.prog G (b4c 0 Tryz.f148.body) (St.of [(0,.fp [chs 0 t]),(3,.ptr 3 0),(25,rds 0 c.rds),(26,i64 c.rds.length),(27,i64 0)] [(3,.box (cpC 0 c))])
   (d2b G 0 (fun _:Unit=>St.of [(0,.fp [chs 0 t]),(3,.ptr 3 0)] [(3,.box (cpC 0 c))]) (fun _=>c2r t c.rds=true) Q):=by
 unfold Tryz.f148
 simp only [d6i,b4c,rgO,bkO,a5j,Option.bind_some,Option.getD_some,reduceIte,Nat.reduceEqDiff,reduceCtorEq]
 refine a0k (fun k:Nat=>St.of [(0,.fp [chs 0 t]),(3,.ptr 3 0),(25,rds 0 c.rds),(26,i64 c.rds.length),(27,i64 k)] [(3,.box (cpC 0 c))]) (fun k=>k≤c.rds.length∧∀ i,i < k→d1m t c.rds i=true) (fun k=>c.rds.length - k) 0 (by simp) (a1m [(3,some 3)]) ?_
 rintro k ⟨hk,hall⟩
 by_cases hkl:k < c.rds.length
 ·have hlt:(k:Int) < c.rds.length:=by omega
  refine SemL.semC ?_
  simp only [a5k,List.cons_append,List.nil_append,List.append_assoc,List.take_succ_cons,List.take_zero,List.take_nil,List.drop_succ_cons,List.drop_zero]
  refine a1j 2 _ _ ?_
  simp (maxSteps:=2000000) only [go_sem,hG,hOw,hlt]
  (repeat' with_reducible first|apply And.intro|refine exP ?_ ?_|intro);all_goals try omega
  refine e6x ?_
  refine c3v 4 (fun l:List ByteArray=>St.of [(0,.fp [chs 0 t]),(3,.ptr 3 0),(25,rds 0 c.rds),(26,i64 c.rds.length),(27,i64 k),(5,i64 k),(6,.ptr 6 0),(7,a0q 0 l)] [(3,.box (cpC 0 c)),(6,.box (rdE c.rds[k]))]) (fun l=>(1≤l.length∧l.length≤10)∧a4x t c.rds[k].ch c.rds[k].ln=some l∧((c.rds[k].kind.toNat:Int)=1∨(c.rds[k].kind.toNat:Int)=2∨(c.rds[k].kind.toNat:Int)=3)) ?_ ?_
  ·refine a2v (s':=St.of [(0,.fp [chs 0 t]),(3,.ptr 3 0),(25,rds 0 c.rds),(26,i64 c.rds.length),(27,i64 k)] [(3,.box (cpC 0 c))]) (a1m [(3,some 3)]) ?_
   refine b7c (l':=(a5k (b4c 1 Tryz.f148.body)).take 4) (by kernel_rfl) ?_
   exact rA t ht htB c hl k hkl hG hOw hNm hbad fun s l h1 h2 h3 h4=>⟨l,⟨h1,h2,h3⟩,h4⟩
  rintro l ⟨hll,hL,hkd⟩
  refine c3v 3 (fun _:Unit=>St.of [(0,.fp [chs 0 t]),(3,.ptr 3 0),(25,rds 0 c.rds),(26,i64 c.rds.length),(27,i64 k),(5,i64 k),(6,.ptr 6 0)] [(3,.box (cpC 0 c)),(6,.box (rdE c.rds[k]))]) (fun _=>a1w t c.rds[k]=true) ?_ ?_
  ·refine b7c (l':=((a5k (b4c 1 Tryz.f148.body)).drop 4).take 3) (by kernel_rfl) ?_
   rcases hkd with hkd|hkd|hkd
   ·exact rB1 t c hl k hkl l hll hL hkd hG hOw hNm hbad fun s h1 h2=>⟨(),h1,h2⟩
   ·exact rB2 t c hl k hkl l hll hL hkd hG hOw hNm hbad fun s h1 h2=>⟨(),h1,h2⟩
   ·exact rB3 t c hl k hkl l hll hL hkd hG hOw hNm hbad fun s h1 h2=>⟨(),h1,h2⟩
  rintro _ hRt
  refine b7c (l':=(a5k (b4c 1 Tryz.f148.body)).drop 7) (by kernel_rfl) ?_
  refine rC t c hl k hkl hRt hG hOw hNm hbad ?_
  rintro s e he hz hs
  have hz2:∀ i,i < k+1→d1m t c.rds i=true:=fun i hi=>by
   by_cases e:i=k
   ·exact e ▸ hz
   ·exact hall i (by omega)
  rcases he with rfl|rfl
  ·show SemL _ _ _ _ _
   refine a2v hs ?_
   refine a1j 2 _ _ ?_
   simp only [go_sem,hG,hOw]
   (repeat' with_reducible first|apply And.intro|refine exP ?_ ?_|intro);all_goals try omega
   exact ⟨k+1,⟨by omega,hz2⟩,by omega,a1m [(3,some 3)]⟩
  ·show SemL _ _ _ _ _
   refine a2v hs ?_
   refine a1j 2 _ _ ?_
   simp only [go_sem,hG,hOw]
   (repeat' with_reducible first|apply And.intro|refine exP ?_ ?_|intro);all_goals try omega
   exact ⟨k+1,⟨by omega,hz2⟩,by omega,a1m [(3,some 3)]⟩
 ·have hk2:k=c.rds.length:=by omega
  subst hk2
  refine a0d _ _ _ ?_;simp only [go_sem,hG,hOw]
  (repeat' with_reducible first|apply And.intro|refine exP ?_ ?_|intro);all_goals try omega
  exact ⟨(),e6j hall,a1m [(3,some 3)]⟩
open Go Pm
theorem c5i {t:List Ch} (ht:a1s t=true):c1w t:=by
 obtain ⟨ht1,ht2⟩:=b0f ht
 exact ⟨by omega,fun c hc=>by
  have hv:=ht2 c hc
  exact ⟨by have:=hv.len;omega,fun r hr=>⟨by have:=(hv.ln r hr).1;omega,fun s hs=>by have:=a2u ((hv.ln r hr).2 s hs);omega⟩⟩⟩
theorem e4u (t:List Ch) (c:Cp) (h1:inB c.id 0 9999=true) (h2:c.rds.length≤20) (h3:c2r t c.rds=true) (hc:OKR t c.rds):a7y t c=(b9h t c.rds).all fun x=>!(x.lines.any fun l=>!inB l.length 1 10):=by
 unfold a7y
 rw [h1,h3,decide_eq_true h2]
 simp only [Bool.true_and]
 unfold b9h
 rw [List.all_map]
 rw [Bool.eq_iff_iff,List.all_eq_true,List.all_eq_true]
 refine ⟨fun h k hk=>?_,fun h k hk=>?_⟩
 ·have hkl:k < t.length:=by simpa using hk
  have:=h k hk
  simp only [Function.comp,List.getD_eq_getElem?_getD,List.getElem?_eq_getElem hkl,Option.getD_some] at this ⊢
  rw [d0m hc k hkl,Bool.not_not]
  simpa [List.getD_eq_getElem?_getD] using this
 ·have hkl:k < t.length:=by simpa using hk
  have:=h k hk
  simp only [Function.comp,List.getD_eq_getElem?_getD,List.getElem?_eq_getElem hkl,Option.getD_some] at this ⊢
  rw [d0m hc k hkl,Bool.not_not] at this
  simpa [List.getD_eq_getElem?_getD] using this
theorem c4s (t:List Ch) (ht:a1s t=true) (c:Cp):a0l Tryz.prog 148 [.fp [chs 0 t],cpE 0 c] (fun _=>bl (a7y t c)):=by
 have htB:=c5i ht
 have bad:c2r t c.rds=false→a7y t c=false:=fun h=>by unfold a7y;rw [h];simp
 have bad1:inB c.id 0 9999=false→a7y t c=false:=fun h=>by unfold a7y;rw [h];simp
 have bad2:¬ c.rds.length≤20→a7y t c=false:=fun h=>by unfold a7y;rw [decide_eq_false h];simp
 refine a0b (ow:=fun _=>false) Tryz.func148 Tryz.ntmps148 rfl rfl fun G hG hOw hNm hB=>?_;simp only [go_sem,hG,hOw]
 refine a0a (a3x 0 9999 c.id) ?_
 cases h1:inB c.id 0 9999 with
 |false =>
  simp (maxSteps:=2000000) only [go_sem,hG,hOw,bad1 h1]
 |true =>
  by_cases h2:c.rds.length≤20
  ·have h2':decide (20 < (c.rds.length:Int))=false:=decide_eq_false (by omega)
   simp (maxSteps:=2000000) only [go_sem,hG,hOw,h2']
   (repeat' with_reducible first|apply And.intro|refine exP ?_ ?_|intro);all_goals try omega
   refine a3e (fun _:Unit=>St.of [(0,.fp [chs 0 t]),(3,.ptr 3 0)] [(3,.box (cpC 0 c))]) (fun _=>c2r t c.rds=true) ?_ ?_
   ·refine a4m (s':=St.of [(0,.fp [chs 0 t]),(3,.ptr 3 0),(25,rds 0 c.rds),(26,i64 c.rds.length),(27,i64 0)] [(3,.box (cpC 0 c))]) (a1m [(3,some 3)]) ?_
    exact a6l (by kernel_rfl) (e2p t ht htB c h2 hG hOw hNm fun h s' hs'=>by
     refine ⟨trivial,?_⟩
     simp only [d4a,hs',vw,bad h]
     exact Sub.refl _)
   rintro _ h3
   have hc:=f2x ht (by omega) h3
   have hall:=e4u t c h1 h2 h3 hc
   obtain ⟨R,hR⟩:∃ R,R=b9h t c.rds:=⟨_,rfl⟩
   have hRl:R.length≤1000:=by rw [hR,e0r];exact htB.1
   simp only [go_sem,hG,hOw]
   refine a0a (e6b t ht c hc h2) ?_
   rw [← hR] at hall ⊢
   simp only [go_sem,hG,hOw]
   (repeat' with_reducible first|apply And.intro|refine exP ?_ ?_|intro);all_goals try omega
   refine a3e (fun _:Unit=>St.of [] []) (fun _=>a7y t c=true) ?_ ?_
   ·refine a0k (fun k:Nat=>St.of [(104,chs 0 R),(105,i64 R.length),(106,i64 k)] []) (fun k=>k≤R.length∧(R.take k).all (fun x=>!(x.lines.any fun l=>!inB l.length 1 10))=true) (fun k=>R.length - k) 0 (by simp) (a0y (by (simp only [go_sem])<;>simp) hNm) ?_
    rintro k ⟨hk,hak⟩
    refine a0d _ _ _ ?_;simp only [go_sem,hG,hOw]
    (repeat' with_reducible first|apply And.intro|refine exP ?_ ?_|intro);all_goals try omega
    ·rename_i hlt
     have hkl:k < R.length:=by omega
     refine a0a (b5p (202) [] (fun l=>!inB l.length 1 10) R[k].lines rfl (fun l _=>d5x l)) ?_
     cases hx:R[k].lines.any (fun l=>!inB l.length 1 10) with
     |false =>
      simp only [go_sem,hG,hOw]
      (repeat' with_reducible first|apply And.intro|refine exP ?_ ?_|intro);all_goals try omega
      exact ⟨k+1,⟨by omega,a0u hkl hak (by rw [hx];rfl)⟩,by omega,a0y (by (simp only [go_sem])<;>simp) hNm⟩
     |true =>
      have hcb:a7y t c=false:=by rw [hall];exact a4k hkl (by rw [hx];rfl)
      simp (maxSteps:=2000000) only [go_sem,hG,hOw,hcb]
    ·rename_i hge
     rw [a1k hk hge] at hak
     exact ⟨(),by rw [hall];exact hak,a0y (by (simp only [go_sem])<;>simp) hNm⟩
   rintro _ hfull
   simp (maxSteps:=2000000) only [go_sem,hG,hOw,hfull]
  ·have h2':decide (20 < (c.rds.length:Int))=true:=decide_eq_true (by omega)
   simp (maxSteps:=2000000) only [go_sem,hG,hOw,h2',bad2 h2]
theorem b0u (t:List Ch) (ht:a1s t=true):a0l Tryz.prog 120 [txE 0 t] (fun n=>.tup [.fp [chs 0 t],i64 0]):=by
 refine a0b (ow:=fun _=>false) Tryz.func120 Tryz.ntmps120 rfl rfl fun G hG hOw hNm hB=>?_;simp only [go_sem,hG,hOw]
 refine a0a (a5x t) ?_
 simp (maxSteps:=2000000) only [go_sem,hG,hOw,ht]
theorem f8n (t:List Ch) (ht:a1s t=false):a0l Tryz.prog 120 [txE 0 t] (fun _=>.tup [.v (.pointer none),i64 10]):=by
 refine a0b (ow:=fun _=>false) Tryz.func120 Tryz.ntmps120 rfl rfl fun G hG hOw hNm hB=>?_;simp only [go_sem,hG,hOw]
 refine a0a (a5x t) ?_
 simp (maxSteps:=2000000) only [go_sem,hG,hOw,ht]
 (repeat' with_reducible first|apply And.intro|refine exP ?_ ?_|intro);all_goals try omega
def b0d (t:List Ch) (c:Cp):Int:=if a1s t then (if a7y t c then 0 else 11) else 10
theorem d2y (t:List Ch) (c:Cp) (ht:a1s t=true) (hc:a7y t c=true):a0l Tryz.prog 89 [txE 0 t,cpE 0 c] (fun n=>.tup [.fp [chs 0 t],i64 0]):=by
 refine a0b (ow:=fun _=>false) Tryz.func89 Tryz.ntmps89 rfl rfl fun G hG hOw hNm hB=>?_;simp only [go_sem,hG,hOw]
 refine a0a (b0u t ht) ?_
 simp only [go_sem,hG,hOw]
 refine a0a (c4s t ht c) ?_
 simp (maxSteps:=2000000) only [go_sem,hG,hOw,hc]
theorem e2s (t:List Ch) (c:Cp) (h:¬ b0d t c=0):a0l Tryz.prog 89 [txE 0 t,cpE 0 c] (fun _=>.tup [.v (.pointer none),i64 (b0d t c)]):=by
 refine a0b (ow:=fun _=>false) Tryz.func89 Tryz.ntmps89 rfl rfl fun G hG hOw hNm hB=>?_;simp only [go_sem,hG,hOw]
 cases ht:a1s t with
 |false =>
  refine a0a (f8n t ht) ?_
  have e:b0d t c=10:=by simp [b0d,ht]
  simp (maxSteps:=2000000) only [go_sem,hG,hOw,e]
  (repeat' with_reducible first|apply And.intro|refine exP ?_ ?_|intro);all_goals try omega
 |true =>
  refine a0a (b0u t ht) ?_
  simp only [go_sem,hG,hOw]
  refine a0a (c4s t ht c) ?_
  cases hc:a7y t c with
  |false =>
   have e:b0d t c=11:=by simp [b0d,ht,hc]
   simp (maxSteps:=2000000) only [go_sem,hG,hOw,e]
  |true=>exact absurd (by simp [b0d,ht,hc]) h
theorem c4r (t:List Ch) (c:Cp):a0l Tryz.prog 27 [txE 0 t,cpE 0 c] (fun _=>i64 (b0d t c)):=by
 refine a0b (ow:=fun _=>false) Tryz.func27 Tryz.ntmps27 rfl rfl fun G hG hOw hNm hB=>?_;simp only [go_sem,hG,hOw]
 by_cases h:b0d t c=0
 ·have ht:a1s t=true:=by
   cases ht:a1s t with
   |true=>rfl
   |false=>simp [b0d,ht] at h
  have hc:a7y t c=true:=by
   cases hc:a7y t c with
   |true=>rfl
   |false=>simp [b0d,ht,hc] at h
  refine a0a (d2y t c ht hc) ?_
  simp (maxSteps:=2000000) only [go_sem,hG,hOw,h]
 ·refine a0a (e2s t c h) ?_
  simp only [go_sem,hG,hOw]
end Go.Proofs.YtmjhfccbbfpppaaGreatDoor
