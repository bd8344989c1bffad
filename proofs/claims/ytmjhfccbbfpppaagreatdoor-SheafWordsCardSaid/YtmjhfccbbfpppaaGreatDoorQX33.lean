import Derived.Test.YtmjhfccbbfpppaaGreatDoorQX14
import Derived.Test.YtmjhfccbbfpppaaGreatDoorQX15
import Derived.Test.YtmjhfccbbfpppaaGreatDoorQX21
import Derived.Test.YtmjhfccbbfpppaaGreatDoorQX32
namespace Go.Proofs.YtmjhfccbbfpppaaGreatDoor
open Go Pm
set_option linter.unusedSimpArgs false
set_option linter.unusedVariables false
set_option maxHeartbeats 4000000
set_option maxRecDepth 100000
theorem d0u (a:Int):a0o Tryz.prog 231 [i64 a] (fun _=>bl false):=by
 refine a0b (ow:=fun _=>false) Tryz.func231 Tryz.ntmps231 rfl rfl fun G hG hOw hNm hB=>?_;simp only [go_sem,hG,hOw]
 all_goals simp [bl]
theorem a6k (a b:Int):a0o Tryz.prog 182 [i64 a,i64 b] (fun _=>i64 (e0z a b)):=by
 refine a0b (ow:=fun _=>false) Tryz.func182 Tryz.ntmps182 rfl rfl fun G hG hOw hNm hB=>?_;simp only [go_sem,hG,hOw]
 refine a0a (d0u a) ?_
 simp only [go_sem,hG,hOw]
 refine a0a (d0u b) ?_
 simp only [go_sem,hG,hOw]
 unfold e0z
 (repeat' with_reducible first|refine And.intro ?_ ?_|intro _|refine exP ?_ ?_);all_goals try omega
 all_goals (first|(rename_i h1 h2;simp [h1,h2])|(rename_i h1;simp [h1])|skip)
theorem f6l (a b c:Int):a0o Tryz.prog 153 [.lst 0 1 [[i64 a],[i64 b],[i64 c]]] (fun _=>i64 (or3 a b c)):=by
 refine a0b (ow:=fun _=>false) Tryz.func153 Tryz.ntmps153 rfl rfl fun G hG hOw hNm hB=>?_;simp only [go_sem,hG,hOw]
 (repeat' with_reducible first|refine And.intro ?_ ?_|intro _|refine exP ?_ ?_);all_goals try omega
 refine a0l (fun k:Nat=>St.of [(3,i64 0),(6,.lst 0 1 [[i64 a],[i64 b],[i64 c]]),(7,i64 3),(8,i64 k)] []) (fun k=>k≤3∧(0 < k→a=0)∧(1 < k→b=0)∧(2 < k→c=0)) (fun k=>3 - k) 0 (by simp) (a1j (by (simp only [go_sem])<;>simp) hNm) ?_
 rintro k ⟨hk,h1,h2,h3⟩
 have c0:((0:Nat):Int)=0:=rfl
 have c1:((1:Nat):Int)=1:=rfl
 have c2:((2:Nat):Int)=2:=rfl
 have c3:((3:Nat):Int)=3:=rfl
 have i1:Int.toNat 1=1:=rfl
 have i2:Int.toNat 2=2:=rfl
 have hk3:k=0∨k=1∨k=2∨k=3:=by omega
 rcases hk3 with rfl|rfl|rfl|rfl
 ·refine a0e _ _ _ ?_
  simp (maxSteps:=2000000) only [go_sem,hG,hOw,c0,c1,c2,c3,i1,i2,List.getElem_cons_zero,List.getElem_cons_succ]
  (repeat' with_reducible first|refine And.intro ?_ ?_|intro _|refine exP ?_ ?_);all_goals try omega
  ·rename_i h;simp [or3,h]
  ·rename_i h
   exact ⟨1,⟨by omega,fun _=>h,fun h=>by omega,fun h=>by omega⟩,by omega,a1j (by (simp only [go_sem])<;>simp) hNm⟩
 ·have ha:=h1 (by omega)
  refine a0e _ _ _ ?_
  simp (maxSteps:=2000000) only [go_sem,hG,hOw,c0,c1,c2,c3,i1,i2,List.getElem_cons_zero,List.getElem_cons_succ]
  (repeat' with_reducible first|refine And.intro ?_ ?_|intro _|refine exP ?_ ?_);all_goals try omega
  ·rename_i h;simp [or3,ha,h]
  ·rename_i h
   exact ⟨2,⟨by omega,fun _=>ha,fun _=>h,fun h=>by omega⟩,by omega,a1j (by (simp only [go_sem])<;>simp) hNm⟩
 ·have ha:=h1 (by omega)
  have hb:=h2 (by omega)
  refine a0e _ _ _ ?_
  simp (maxSteps:=2000000) only [go_sem,hG,hOw,c0,c1,c2,c3,i1,i2,List.getElem_cons_zero,List.getElem_cons_succ]
  (repeat' with_reducible first|refine And.intro ?_ ?_|intro _|refine exP ?_ ?_);all_goals try omega
  ·rename_i h;simp [or3,ha,hb]
  ·rename_i h
   exact ⟨3,⟨by omega,fun _=>ha,fun _=>hb,fun _=>h⟩,by omega,a1j (by (simp only [go_sem])<;>simp) hNm⟩
 ·have ha:=h1 (by omega)
  have hb:=h2 (by omega)
  have hc:=h3 (by omega)
  refine a0e _ _ _ ?_
  simp (maxSteps:=2000000) only [go_sem,hG,hOw,c0,c1,c2,c3,i1,i2,List.getElem_cons_zero,List.getElem_cons_succ]
  (repeat' with_reducible first|refine And.intro ?_ ?_|intro _|refine exP ?_ ?_);all_goals try omega
  all_goals simp [or3,ha,hb,hc]
theorem e9b (a b:Rd):a0o Tryz.prog 200 [.agg [i64 a.ch,i64 a.ln,i64 a.wd],.agg [i64 b.ch,i64 b.ln,i64 b.wd]] (fun _=>i64 (f9y a b)):=by
 refine a0b (ow:=fun _=>false) Tryz.func200 Tryz.ntmps200 rfl rfl fun G hG hOw hNm hB=>?_;simp only [go_sem,hG,hOw]
 refine a0s mixed (by kernel_rfl) ?_
 simp only [go_sem,hG,hOw]
 refine ⟨_,a0d (a6k a.ch b.ch),?_⟩
 simp only [go_sem,hG,hOw]
 refine ⟨_,a0d (a6k a.ln b.ln),?_⟩
 simp only [go_sem,hG,hOw]
 refine ⟨_,a0d (a6k a.wd b.wd),?_⟩
 simp only [go_sem,hG,hOw]
 (repeat' with_reducible first|refine And.intro ?_ ?_|intro _|refine exP ?_ ?_);all_goals try omega
 refine ⟨_,a0d (f6l (e0z a.ch b.ch) (e0z a.ln b.ln) (e0z a.wd b.wd)),?_⟩
 simp only [go_sem,hG,hOw]
 rfl
theorem d0b (l:List ByteArray) (w:Int) (h:0≤w∧w≤l.length):a0o Tryz.prog 149 [a0n 0 l,i64 w] (fun _=>str (a6w l w)):=by
 obtain ⟨w,rfl⟩:=Int.eq_ofNat_of_zero_le h.1
 obtain ⟨_,h⟩:=h
 refine a0b (ow:=fun _=>false) Tryz.func149 Tryz.ntmps149 rfl rfl fun G hG hOw hNm hB=>?_;simp only [go_sem,hG,hOw]
 unfold a6w
 (repeat' with_reducible first|refine And.intro ?_ ?_|intro _|refine exP ?_ ?_);all_goals try omega
 ·rename_i hw
  have:w=l.length:=by omega
  subst this
  simp
 ·rename_i hw
  have hl:w < l.length:=by omega
  simp [hl]
theorem e3r (o p:ByteArray):a0o Tryz.prog 337 [str o,str p] (fun _=>bl (decide (p=⟨#[]⟩))):=by
 refine a0b (ow:=fun _=>false) Tryz.func337 Tryz.ntmps337 rfl rfl fun G hG hOw hNm hB=>?_;simp only [go_sem,hG,hOw]
 (repeat' with_reducible first|refine And.intro ?_ ?_|intro _|refine exP ?_ ?_);all_goals try omega
 all_goals (rename_i h;simp [h,bl])
theorem d8r (o p:ByteArray):a0o Tryz.prog 338 [str o,str p] (fun n=>a0n n []):=by
 refine a0b (ow:=fun _=>false) Tryz.func338 Tryz.ntmps338 rfl rfl fun G hG hOw hNm hB=>?_;simp only [go_sem,hG,hOw]
 exact .nil _ _
theorem d5l (o p:ByteArray):a0o Tryz.prog 339 [str o,str p] (fun _=>bl (a1h p)):=by
 refine a0b (ow:=fun _=>false) Tryz.func339 Tryz.ntmps339 rfl rfl fun G hG hOw hNm hB=>?_;simp only [go_sem,hG,hOw]
 refine a0a (c6j p) ?_
 simp only [go_sem,hG,hOw]
theorem d5j (o p:ByteArray):a0o Tryz.prog 340 [str o,str p] (fun n=>a0n n [p,o]):=by
 refine a0b (ow:=fun _=>false) Tryz.func340 Tryz.ntmps340 rfl rfl fun G hG hOw hNm hB=>?_;simp only [go_sem,hG,hOw]
theorem d7x (o p:ByteArray):a0o Tryz.prog 341 [str o,str p] (fun _=>bl (a1h p && decide (p≠o))):=by
 refine a0b (ow:=fun _=>false) Tryz.func341 Tryz.ntmps341 rfl rfl fun G hG hOw hNm hB=>?_;simp only [go_sem,hG,hOw]
 refine a0a (c6j p) ?_
 simp only [go_sem,hG,hOw]
 (repeat' with_reducible first|refine And.intro ?_ ?_|intro _|refine exP ?_ ?_);all_goals try omega
 all_goals (first|(rename_i h1 h2;simp [h1,h2,bl])|(rename_i h1;simp [h1,bl])|skip)
theorem d6v (o p:ByteArray):a0o Tryz.prog 342 [str o,str p] (fun n=>a0n n [p]):=by
 refine a0b (ow:=fun _=>false) Tryz.func342 Tryz.ntmps342 rfl rfl fun G hG hOw hNm hB=>?_;simp only [go_sem,hG,hOw]
open Go Pm
set_option maxHeartbeats 4000000
set_option maxRecDepth 100000
theorem c1n (s:ByteArray):a0o Tryz.prog 151 [str s] (fun _=>bl (!neB s)):=by
 refine a0b (ow:=fun _=>false) Tryz.func151 Tryz.ntmps151 rfl rfl fun G hG hOw hNm hB=>?_;simp only [go_sem,hG,hOw]
 unfold neB
 rw [Bool.not_not]
theorem e1h (l:List ByteArray):(a3t (fun s=>!neB s) l=-1∧l.filter neB=l)∨∃ i:Nat,a3t (fun s=>!neB s) l=(i:Int)∧i < l.length∧l.take i=(l.take (i+1)).filter neB:=by
 cases h:l.findIdx? (fun s=>!neB s) with
 |none =>
  refine .inl ⟨by simp [a3t,h],List.filter_eq_self.2 fun s hs=>?_⟩
  have:=List.findIdx?_eq_none_iff.1 h s hs
  simpa using this
 |some i =>
  obtain ⟨hi,hp,hb⟩:=List.findIdx?_eq_some_iff_getElem.1 h
  refine .inr ⟨i,by simp [a3t,h],hi,?_⟩
  rw [List.take_add_one,List.getElem?_eq_getElem hi,List.filter_append]
  have h1:(l.take i).filter neB=l.take i:=List.filter_eq_self.2 fun s hs=>by
   obtain ⟨j,hj,rfl⟩:=List.mem_iff_getElem.1 hs
   simp at hj
   have:=hb j (by omega)
   simpa using this
  have h2:neB l[i]=false:=by simpa using hp
  simp [h1,h2]
theorem c0y (l:List ByteArray) (hl:l.length≤1000):Tri Tryz.prog 150 [.own 0 0 l.length 1,.fn (.func 151) []] [(0,.arr 9 1 (l.map a1t))] (fun n=>.ret (a0n n (l.filter neB)) []):=by
 refine a0i (fun i=>[41].contains i) Tryz.func150 Tryz.ntmps150 rfl rfl fun G hG hOw hNm=>?_;simp only [go_sem,hG,hOw]
 rcases e1h l with ⟨hi0,hall⟩|⟨i0,hi0,hil,hf0⟩
 ·refine a9p (fun i=>i == 0) ?_
  simp only [go_sem,hG,hOw]
  refine a0a (a8e (151) [] (fun s=>!neB s) l rfl (fun s _=>c1n s)) ?_
  rw [hi0]
  simp only [go_sem,hG,hOw]
  rw [hall]
  exact (a3j [])
 ·refine e2r (fun i=>i == 0) (a8e (151) [] (fun s=>!neB s) l rfl (fun s _=>c1n s)) (f9b (.int .i64 _)) (by simp only [go_sem];first|exact Subs.refl _|(repeat' (first|exact Subs.nil|exact Sub.refl _|exact Sub.lo (Nat.zero_le _)|refine Subs.cons ?_ ?_|refine Subs.agg ?_|refine Subs.fp ?_|refine Subs.tup ?_|refine Sub.map (Nat.zero_le _) (fun _=>?_)))) (by simp only [go_sem]<;>first|rfl|simp [b0t,b4l,pureV,pure0, *]) (by simp [chk,hG]) ?_
  rw [hi0]
  have hbig:(i0:Int)+1≤1000:=by omega
  simp only [go_sem,hG,hOw]
  (repeat' with_reducible first|refine And.intro ?_ ?_|intro _|refine exP ?_ ?_);all_goals try omega
  refine a2o (fun q:Nat×List ByteArray=>St.of [(0,.own 0 0 l.length 1),(5,i64 q.1)] [(0,.arr 9 1 (q.2.map a1t))]) (fun q=>q.2.length=l.length∧q.1≤l.length∧q.2.take q.1=l.filter neB) ?_ ?_
  ·refine a0l (fun q:Nat×Nat×List ByteArray=>St.of [(0,.own 0 0 l.length 1),(1,.fn (.func 151) []),(5,i64 q.2.1),(6,i64 q.1)] [(0,.arr 9 1 (q.2.2.map a1t))]) (fun q=>q.1≤l.length∧q.2.1 < q.1∧q.2.2.length=l.length∧q.2.2.take q.2.1=(l.take q.1).filter neB∧q.2.2.drop q.1=l.drop q.1) (fun q=>l.length - q.1) (i0+1,i0,l) ⟨by show i0+1≤_;omega,by show i0 < i0+1;omega,rfl,hf0,rfl⟩ (a2a [(0,some 0)]) ?_
   rintro ⟨j,i,A⟩ ⟨hj,hij,hA,ht,hd⟩
   simp only at hj hij hA ht hd
   refine a0e _ _ _ ?_;simp only [go_sem,hG,hOw]
   (repeat' with_reducible first|refine And.intro ?_ ?_|intro _|refine exP ?_ ?_);all_goals try omega
   ·rename_i hlt
    have hjl:j < l.length:=by omega
    have hAj:A[j]'(by omega)=l[j]:=by
     have h1:=congrArg (fun x=>x[0]?) hd
     simp only [List.getElem?_drop,Nat.add_zero] at h1
     rw [List.getElem?_eq_getElem (by omega),List.getElem?_eq_getElem hjl] at h1
     exact Option.some.inj h1
    have hd1:A.drop (j+1)=l.drop (j+1):=by
     have h1:=congrArg (List.drop 1) hd
     simpa [List.drop_drop] using h1
    refine a1u (c1n l[j]) (by rw [hAj];exact Subs.refl _) (by simp [b0t,pureV,pure0]) (by simp [chk,hG]) ?_
    simp only [go_sem,hG,hOw]
    (repeat' with_reducible first|refine And.intro ?_ ?_|intro _|refine exP ?_ ?_);all_goals try omega
    ·rename_i hne
     have hset:(List.map a1t A).set i [V.v (.string A[j])]=(A.set i A[j]).map a1t:=by rw [List.map_set];rfl
     refine ⟨(j+1,i+1,A.set i A[j]),⟨by show j+1≤_;omega,by show i+1 < j+1;omega,by simpa using hA,?_,?_⟩,by show l.length - (j+1) < l.length - j;omega,a2a [(0,some 0)] (by (simp only [go_sem])<;>simp [hset]) (by (simp only [go_sem,a1f,a0q,a0f,a1l])<;>simp [hset])⟩
     ·rw [List.take_add_one,List.take_set_of_le (by omega),ht,List.getElem?_set_self (by omega),List.take_add_one,List.getElem?_eq_getElem hjl,List.filter_append,hAj]
      simp [hne]
     ·rw [List.drop_set_of_lt (by omega)];exact hd1
    ·rename_i hne
     refine ⟨(j+1,i,A),⟨by show j+1≤_;omega,by show i < j+1;omega,hA,?_,hd1⟩,by show l.length - (j+1) < l.length - j;omega,a2a [(0,some 0)]⟩
     rw [ht,List.take_add_one,List.getElem?_eq_getElem hjl,List.filter_append]
     simp [hne]
   ·rename_i hge
    have:j=l.length:=by omega
    subst this
    rw [List.take_length] at ht
    exact ⟨(i,A),⟨hA,by show i≤_;omega,ht⟩,a2a [(0,some 0)]⟩
  ·rintro ⟨i,A⟩ ⟨hA,hi,ht⟩
   simp only at hA hi ht
   simp only [go_sem,hG,hOw]
   (repeat' with_reducible first|refine And.intro ?_ ?_|intro _|refine exP ?_ ?_);all_goals try omega
   refine d2b (id:=0) (off:=i) (len:=l.length - i) (el:=9) (z:=.string ⟨#[]⟩) (l:=A.map a1t) rfl rfl (by simp [go_sem]) (by simp [go_sem]) (by simp;omega) b6j d3e rfl ?_
   simp only [go_sem,hG,hOw]
   refine d8m (fun i=>i == 0) ?_
   simp only [go_sem,hG,hOw]
   (repeat' with_reducible first|refine And.intro ?_ ?_|intro _|refine exP ?_ ?_);all_goals try omega
   have hT:List.take i (List.take l.length (List.map a1t (List.take i A)++List.replicate (l.length - i) [V.v (Value.string ⟨#[]⟩)]))=(l.filter neB).map a1t:=by
    rw [List.take_take,Nat.min_eq_left hi,List.take_append_of_le_length (by simp;omega),List.take_of_length_le (by simp;omega),ht]
   rw [hT]
   exact (a3j [])
open Go Pm
set_option maxHeartbeats 4000000
set_option maxRecDepth 100000
theorem d1t (l:List ByteArray):a0o Tryz.prog 202 [a0n 0 l] (fun _=>bl (!inB l.length 1 10)):=by
 refine a0b (ow:=fun _=>false) Tryz.func202 Tryz.ntmps202 rfl rfl fun G hG hOw hNm hB=>?_;simp only [go_sem,hG,hOw]
 (repeat' with_reducible first|refine And.intro ?_ ?_|intro _|refine exP ?_ ?_);all_goals try omega
 refine a0a (a4a 1 10 l.length) ?_
 simp only [go_sem,hG,hOw]
theorem c1e (t:List Ch) (ht:d4j t) (a b:Int) (w:Int) (l:List ByteArray) (h:a4z t a b=some l):a0o Tryz.prog 199 [.fp [chs 0 t],.agg [i64 a,i64 b,i64 w]] (fun _=>a0n 0 l):=by
 obtain ⟨ht1,ht2⟩:=ht
 unfold a4z at h
 split at h
 ·rename_i hab
  obtain ⟨ha,hb⟩:=hab
  obtain ⟨a,rfl⟩:=Int.eq_ofNat_of_zero_le ha
  obtain ⟨b,rfl⟩:=Int.eq_ofNat_of_zero_le hb
  simp only [Int.toNat_natCast,Option.bind_eq_some_iff] at h
  obtain ⟨c,hc,hl⟩:=h
  obtain ⟨hat,rfl⟩:=List.getElem?_eq_some_iff.1 hc
  obtain ⟨hbl,rfl⟩:=List.getElem?_eq_some_iff.1 hl
  have ht3:=(ht2 _ (List.getElem_mem hat)).1
  have e1:inB (a:Int) 0 ((t.length:Int) - 1)=true:=by simp [inB];omega
  have e2:inB (b:Int) 0 ((t[a].lines.length:Int) - 1)=true:=by simp [inB];omega
  refine a0b (ow:=fun _=>false) Tryz.func199 Tryz.ntmps199 rfl rfl fun G hG hOw hNm hB=>?_;simp only [go_sem,hG,hOw]
  refine a0s mixed (by kernel_rfl) ?_
  simp only [go_sem,hG,hOw]
  (repeat' with_reducible first|refine And.intro ?_ ?_|intro _|refine exP ?_ ?_);all_goals try omega
  refine ⟨_,a0d (a4a 0 ((t.length:Int) - 1) a),?_⟩
  simp (maxSteps:=2000000) only [go_sem,hG,hOw,e1]
  (repeat' with_reducible first|refine And.intro ?_ ?_|intro _|refine exP ?_ ?_);all_goals try omega
  refine ⟨_,a0d (a4a 0 ((t[a].lines.length:Int) - 1) b),?_⟩
  simp (maxSteps:=2000000) only [go_sem,hG,hOw,e2]
  (repeat' with_reducible first|refine And.intro ?_ ?_|intro _|refine exP ?_ ?_);all_goals try omega
  refine a0s mixed (by kernel_rfl) ?_
  simp only [go_sem,hG,hOw]
  (repeat' with_reducible first|refine And.intro ?_ ?_|intro _|refine exP ?_ ?_);all_goals try omega
 ·cases h
theorem e2b (t:List Ch) (ht:d4j t) (a b:Int) (w:Int) (h:a4z t a b=none):a0o Tryz.prog 199 [.fp [chs 0 t],.agg [i64 a,i64 b,i64 w]] (fun _=>a0n 0 []):=by
 obtain ⟨ht1,ht2⟩:=ht
 refine a0b (ow:=fun _=>false) Tryz.func199 Tryz.ntmps199 rfl rfl fun G hG hOw hNm hB=>?_;simp only [go_sem,hG,hOw]
 refine a0s mixed (by kernel_rfl) ?_
 simp only [go_sem,hG,hOw]
 (repeat' with_reducible first|refine And.intro ?_ ?_|intro _|refine exP ?_ ?_);all_goals try omega
 refine ⟨_,a0d (a4a 0 ((t.length:Int) - 1) a),?_⟩
 cases e1:inB a 0 ((t.length:Int) - 1) with
 |false =>
  simp only [go_sem,hG,hOw]
  (repeat' with_reducible first|refine And.intro ?_ ?_|intro _|refine exP ?_ ?_);all_goals try omega
  exact .nil _ _
 |true =>
  have ha:0≤a∧a≤(t.length:Int) - 1:=by simpa [inB] using e1
  obtain ⟨ha0,ha1⟩:=ha
  obtain ⟨a,rfl⟩:=Int.eq_ofNat_of_zero_le ha0
  have hat:a < t.length:=by omega
  have ht3:=(ht2 _ (List.getElem_mem hat)).1
  have e2:inB b 0 ((t[a].lines.length:Int) - 1)=false:=by
   cases e2:inB b 0 ((t[a].lines.length:Int) - 1) with
   |false=>rfl
   |true =>
    exfalso
    have hb:0≤b∧b≤(t[a].lines.length:Int) - 1:=by simpa [inB] using e2
    obtain ⟨b,rfl⟩:=Int.eq_ofNat_of_zero_le hb.1
    have hbl:b < t[a].lines.length:=by omega
    simp [a4z,hat,hbl] at h
  simp only [go_sem,hG,hOw]
  (repeat' with_reducible first|refine And.intro ?_ ?_|intro _|refine exP ?_ ?_);all_goals try omega
  refine ⟨_,a0d (a4a 0 ((t[a].lines.length:Int) - 1) b),?_⟩
  simp (maxSteps:=2000000) only [go_sem,hG,hOw,e2]
  (repeat' with_reducible first|refine And.intro ?_ ?_|intro _|refine exP ?_ ?_);all_goals try omega
  exact .nil _ _
end Go.Proofs.YtmjhfccbbfpppaaGreatDoor
