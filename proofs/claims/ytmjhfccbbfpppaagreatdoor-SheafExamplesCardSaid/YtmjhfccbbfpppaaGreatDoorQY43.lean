import Derived.Test.YtmjhfccbbfpppaaGreatDoorQY29
import Derived.Test.YtmjhfccbbfpppaaGreatDoorQY37
import Derived.Test.YtmjhfccbbfpppaaGreatDoorQY41
import Derived.Test.YtmjhfccbbfpppaaGreatDoorQY54
namespace Go.Proofs.YtmjhfccbbfpppaaGreatDoor
open Go Pm
set_option linter.unusedSimpArgs false
set_option linter.unusedVariables false
set_option maxHeartbeats 4000000
set_option maxRecDepth 100000
def formS:ByteArray:=⟨#[102,111,114,109]⟩
def fromS:ByteArray:=⟨#[102,114,111,109]⟩
def plcS:ByteArray:=⟨#[112,108,97,99,101]⟩
def voidS:ByteArray:=⟨#[118,111,105,100]⟩
def cutS:ByteArray:=⟨#[99,117,116]⟩
def c6i (stem:ByteArray) (mark:UInt8):ByteArray:=a1o [stem,a3u mark.toNat]
def a8y (r:Rl):ByteArray:=a1o [(if r.put=⟨#[]⟩ then a1o [cutS,r.cut] else a1o [a1o [cutS,r.cut],r.put]),a3u r.least]
def fmN (k:Int):ByteArray:=if k=1 then formS else if k=2 then fromS else if k=3 then plcS else if k=4 then voidS else ⟨#[]⟩
def fmP (d:Dc):List ByteArray:=if (d.kind.toNat:Int)=1 then [d.form,c6i d.stem d.mark] else if (d.kind.toNat:Int)=2 then [atS d.ch d.ln d.wd,d.form,c6i d.stem d.mark]
 else if (d.kind.toNat:Int)=3 then [atS d.ch d.ln d.wd,c6i d.stem d.mark] else [a3u d.of]
def b1p (d:Dc):ByteArray:=a1o (a1o [fmN d.kind.toNat,a3u d.num]::fmP d)
def b9k (x:Lx):List ByteArray:=x.rules.map a8y++x.decs.map b1p
theorem c0q (stem:ByteArray) (mark:UInt8) (hs:stem.size≤1000):a0o Tryz.prog 328 [.agg [str stem,u8 mark]] (fun _=>str (c6i stem mark)):=by
 have hm:mark.toNat < 256:=mark.toNat_lt
 have hI:=a4z mark.toNat (by omega) (by omega)
 have hsz:=a3i (n:=mark.toNat) (by omega) (by omega)
 have hW:=a1q stem [a3u mark.toNat] (by simp) (by simp) (by omega) (by simp;omega)
 refine a0c (ow:=fun i=>[9,1000009].contains i) Tryz.func328 Tryz.ntmps328 rfl rfl fun G hG hOw hNm hB=>?_;simp only [go_sem,hG,hOw]
 refine a1w ⟨[9],[],[]⟩ [(0,false),(1,false),(2,false),(3,false),(4,false),(5,false),(6,false),(7,true),(8,false)] mixed (by kernel_rfl) ?_
 simp only [a2r,List.getElem?_cons_zero,List.getElem?_cons_succ]
 simp only [go_sem,hG,hOw]
 refine ⟨by omega,?_⟩
 refine ⟨_,a0i hI,?_⟩
 simp only [go_sem,hG,hOw]
 refine a0b [(0,9)] [] (hW) ?_
 simp only [go_sem,hG,hOw]
 try (repeat' with_reducible first|refine And.intro ?_ ?_|intro _|refine exP ?_ ?_);all_goals try omega
 rfl
theorem d8u (d:Dc) (hs:d.stem.size≤1000):Tri Tryz.prog 327 [.agg (dcC d)] [] (fun _=>.ret (.own 5 0 2 1) [(5,.box (c6g [d.form,c6i d.stem d.mark]))]):=by
 refine a0d (fun i=>[8,1000008].contains i) Tryz.func327 Tryz.ntmps327 rfl rfl fun G hG hOw hNm=>?_;simp only [go_sem,hG,hOw]
 refine a0z mixed (by kernel_rfl) ?_
 simp only [go_sem,hG,hOw]
 refine ⟨_,a0i (c0q d.stem d.mark hs),?_⟩
 simp only [go_sem,hG,hOw]
 try (repeat' with_reducible first|refine And.intro ?_ ?_|intro _|refine exP ?_ ?_);all_goals try omega
 exact ⟨[(5,some 8)],by (simp only [b1z,go_sem,a1g,a0q,a0f,a1m,apart,a2m,a0h])<;>simp [c6g,a2h,str]⟩
theorem e0t (d:Dc) (hs:d.stem.size≤1000) (h1:in9 d.ch) (h2:in9 d.ln) (h3:in9 d.wd):Tri Tryz.prog 331 [.agg (dcC d)] [] (fun _=>.ret (.own 5 0 3 1) [(5,.box (c6g [atS d.ch d.ln d.wd,d.form,c6i d.stem d.mark]))]):=by
 refine a0d (fun i=>[11,1000011].contains i) Tryz.func331 Tryz.ntmps331 rfl rfl fun G hG hOw hNm=>?_;simp only [go_sem,hG,hOw]
 refine a0z mixed (by kernel_rfl) ?_
 simp only [go_sem,hG,hOw]
 refine ⟨_,a0i (d3r d.ch d.ln d.wd h1 h2 h3),?_⟩
 simp only [go_sem,hG,hOw]
 refine ⟨_,a0i (c0q d.stem d.mark hs),?_⟩
 simp only [go_sem,hG,hOw]
 try (repeat' with_reducible first|refine And.intro ?_ ?_|intro _|refine exP ?_ ?_);all_goals try omega
 exact ⟨[(5,some 11)],by (simp only [b1z,go_sem,a1g,a0q,a0f,a1m,apart,a2m,a0h])<;>simp [c6g,a2h,str]⟩
theorem d9f (d:Dc) (hs:d.stem.size≤1000) (h1:in9 d.ch) (h2:in9 d.ln) (h3:in9 d.wd):Tri Tryz.prog 333 [.agg (dcC d)] [] (fun _=>.ret (.own 5 0 2 1) [(5,.box (c6g [atS d.ch d.ln d.wd,c6i d.stem d.mark]))]):=by
 refine a0d (fun i=>[9,1000009].contains i) Tryz.func333 Tryz.ntmps333 rfl rfl fun G hG hOw hNm=>?_;simp only [go_sem,hG,hOw]
 refine a0z mixed (by kernel_rfl) ?_
 simp only [go_sem,hG,hOw]
 refine ⟨_,a0i (d3r d.ch d.ln d.wd h1 h2 h3),?_⟩
 simp only [go_sem,hG,hOw]
 refine ⟨_,a0i (c0q d.stem d.mark hs),?_⟩
 simp only [go_sem,hG,hOw]
 try (repeat' with_reducible first|refine And.intro ?_ ?_|intro _|refine exP ?_ ?_);all_goals try omega
 exact ⟨[(5,some 9)],by (simp only [b1z,go_sem,a1g,a0q,a0f,a1m,apart,a2m,a0h])<;>simp [c6g,a2h,str]⟩
theorem e1c (d:Dc) (h:in9 d.of):Tri Tryz.prog 335 [.agg (dcC d)] [] (fun _=>.ret (.own 5 0 1 1) [(5,.box (c6g [a3u d.of]))]):=by
 refine a0d (fun i=>[6,1000006].contains i) Tryz.func335 Tryz.ntmps335 rfl rfl fun G hG hOw hNm=>?_;simp only [go_sem,hG,hOw]
 refine a0a (a4z d.of h.1 h.2) ?_
 simp only [go_sem,hG,hOw]
 try (repeat' with_reducible first|refine And.intro ?_ ?_|intro _|refine exP ?_ ?_);all_goals try omega
 exact ⟨[(5,some 6)],by (simp only [b1z,go_sem,a1g,a0q,a0f,a1m,apart,a2m,a0h])<;>simp [c6g,a2h,str]⟩
open Go Pm
set_option maxHeartbeats 4000000
set_option maxRecDepth 100000
structure VRl (r:Rl):Prop where
 cut:r.cut.size≤12
 put:r.put.size≤12
 least:in9 r.least
theorem f7t {r:Rl} (h:b5o r=true):VRl r:=by
 simp only [b5o,a6v,inB,Bool.and_eq_true,decide_eq_true_eq] at h
 obtain ⟨⟨⟨h1,h2⟩,_⟩,h3⟩:=h
 exact ⟨by omega,by omega,by omega,by omega⟩
structure VDc (d:Dc):Prop where
 kind:(d.kind.toNat:Int)=1∨(d.kind.toNat:Int)=2∨(d.kind.toNat:Int)=3∨(d.kind.toNat:Int)=4
 num:in9 d.num
 form:d.form.size≤12
 stem:d.stem.size≤12
 pl:in9 d.ch∧in9 d.ln∧in9 d.wd
 of:in9 d.of
theorem a5v (a b:ByteArray):(a1o [a,b]).size=a.size+(1+b.size):=by
 rw [e4q,ByteArray.size_append,ByteArray.size_append];rfl
theorem c4x {t:List Ch} (ht:a2l t=true) {a b w:Int} (h:a4q t a b w=true):in9 a∧in9 b∧in9 w:=by
 have hok:=c5s ht
 unfold a4q at h
 cases hl:a7e t a b with
 |none=>rw [hl] at h;cases h
 |some l =>
  rw [hl] at h
  simp only at h
  have h3:=inB_iff.1 h
  have h4:=c4b hok hl
  unfold a7e at hl
  split at hl
  ·rename_i hab
   obtain ⟨ha,hb⟩:=hab
   simp only [Option.bind_eq_some_iff] at hl
   obtain ⟨c,h1,h2⟩:=hl
   obtain ⟨q1,e1⟩:=List.getElem?_eq_some_iff.1 h1
   obtain ⟨q2,_⟩:=List.getElem?_eq_some_iff.1 h2
   have hc:=(hok.2 c (List.mem_of_getElem? h1)).1
   have ht1:=hok.1
   exact ⟨⟨ha,by omega⟩,⟨hb,by omega⟩,by omega,by omega⟩
  ·cases hl
theorem g2f {t:List Ch} (ht:a2l t=true) {d:Dc} (h:d3q t d=true):VDc d:=by
 unfold d3q at h
 rw [Bool.and_eq_true] at h
 obtain ⟨h1,h2⟩:=h
 have hn:=inB_iff.1 h1
 have hw:∀ s:ByteArray,a1p s=true→s.size≤12:=fun s hs=>(a3t hs).2
 have hh:b0v d.stem d.mark=true→d.stem.size≤12:=fun hs=>by
  unfold b0v at hs
  rw [Bool.and_eq_true] at hs
  exact hw _ hs.1
 have z9:in9 0:=⟨by omega,by omega⟩
 have e0:∀ s:ByteArray,s=⟨#[]⟩→s.size≤12:=by rintro s rfl;decide
 unfold c6j at h2
 split at h2
 ·rename_i hk
  simp only [Bool.and_eq_true,e4b,decide_eq_true_eq] at h2
  obtain ⟨a,⟨b1,b2,b3⟩,c,e⟩:=h2
  exact ⟨Or.inl hk,⟨by omega,by omega⟩,hw _ a,hh c,by rw [b1,b2,b3];exact ⟨z9,z9,z9⟩,by rw [e];exact z9⟩
 split at h2
 ·rename_i hk
  simp only [Bool.and_eq_true,e4b,decide_eq_true_eq] at h2
  obtain ⟨a,b,c,e⟩:=h2
  exact ⟨Or.inr (Or.inl hk),⟨by omega,by omega⟩,hw _ a,hh c,c4x ht b,by rw [e];exact z9⟩
 split at h2
 ·rename_i hk
  simp only [Bool.and_eq_true,e4b,decide_eq_true_eq] at h2
  obtain ⟨a,b,c,e⟩:=h2
  exact ⟨Or.inr (Or.inr (Or.inl hk)),⟨by omega,by omega⟩,e0 _ a,hh c,c4x ht b,by rw [e];exact z9⟩
 split at h2
 ·rename_i hk
  simp only [Bool.and_eq_true,e4b,g0y,decide_eq_true_eq] at h2
  obtain ⟨a,⟨b1,b2,b3⟩,⟨c,c'⟩,e⟩:=h2
  have he:=inB_iff.1 e
  exact ⟨Or.inr (Or.inr (Or.inr hk)),⟨by omega,by omega⟩,e0 _ a,e0 _ c,by rw [b1,b2,b3];exact ⟨z9,z9,z9⟩,⟨by omega,by omega⟩⟩
 ·cases h2
def a8m (x:Lx) (k:Nat):List ByteArray:=x.rules.map a8y++(x.decs.take k).map b1p
theorem c8s (x:Lx) (k:Nat) (hk:k < x.decs.length):a8m x (k+1)=a8m x k++[b1p x.decs[k]]:=by
 unfold a8m
 rw [a2u b1p x.decs k hk,List.append_assoc]
theorem e9q {t:List Ch} {l:List Dc} (h:a4m (b6r t) [] l=true):∀ d ∈ l,d3q t d=true:=by
 intro d hd
 cases hb:d3q t d with
 |true=>rfl
 |false =>
  obtain ⟨k,hk,rfl⟩:=List.mem_iff_getElem.1 hd
  rw [b8x hk (by unfold b6r;rw [hb,Bool.and_false])] at h
  cases h
theorem c4c (t:List Ch) (x:Lx) (hb:(∀ r ∈ x.rules,bdR r)∧(∀ d ∈ x.decs,bdD d)∧x.rules.length≤1000∧x.decs.length≤1000):a0o Tryz.prog 31 [txE 0 t,lxE 0 x] (fun n=>.tup [a0e n (if b1f t x=0 then b9k x else []),i64 (b1f t x)]):=by
 have hC:=c0g t x hb
 by_cases he:b1f t x=0
 ·rw [he] at hC
  rw [he,if_pos rfl]
  have hv:a2l t=true∧f9d t x=true:=by
   unfold b1f at he
   split at he
   ·split at he
    ·exact ⟨by assumption,by assumption⟩
    ·cases he
   ·cases he
  obtain ⟨ht,hlx⟩:=hv
  have hx:=hlx
  unfold f9d at hx
  simp only [Bool.and_eq_true,decide_eq_true_eq] at hx
  obtain ⟨⟨⟨hr12,hd20⟩,hrs⟩,hds⟩:=hx
  have hRv:∀ r ∈ x.rules,VRl r:=fun r hr=>f7t (List.all_eq_true.1 hrs r hr)
  refine a0c (ow:=fun i=>[28,36,43,64,1000028,1000036,1000043,1000064].contains i) Tryz.func31 Tryz.ntmps31 rfl rfl fun G hG hOw hNm hB=>?_;simp only [go_sem,hG,hOw]
  refine a0a hC ?_
  simp only [go_sem,hG,hOw]
  (repeat' with_reducible first|refine And.intro ?_ ?_|intro _|refine exP ?_ ?_);all_goals try omega
  refine a3g (fun _:Unit=>St.of [(3,.ptr 3 0),(7,.own 100 0 (x.rules.map a8y).length 1)] [(3,.box (lxC 0 x)),(100,.arr 9 1 ((x.rules.map a8y).map a2h))]) (fun _=>True) ?_ ?_
  ·refine a0r (fun k:Nat=>St.of [(3,.ptr 3 0),(7,.own 100 0 ((x.rules.take k).map a8y).length 1),(20,rls 0 x.rules),(21,i64 x.rules.length),(22,i64 k)] [(3,.box (lxC 0 x)),(100,.arr 9 1 (((x.rules.take k).map a8y).map a2h))]) (fun k=>k≤x.rules.length) (fun k=>x.rules.length - k) 0 (by simp) (a1l [(3,some 3),(100,none)] (by (simp only [List.take_zero,List.map_nil,List.length_nil,go_sem])<;>simp [List.take_zero,List.map_nil,List.length_nil]) (by (simp only [List.take_zero,List.map_nil,List.length_nil,go_sem,a1g,a0q,a0f,a1m])<;>simp [List.take_zero,List.map_nil,List.length_nil]) (by simp [a2m,apart]) (by simp [a0h,usH]) (by simp [hNm,lkR,a1c])) ?_
   rintro k hk
   by_cases hkl:k < x.rules.length
   ·have hlt:(k:Int) < x.rules.length:=by omega
    obtain ⟨r,hr⟩:∃ r,r=x.rules[k]:=⟨_,rfl⟩
    obtain ⟨v1,v2,v3⟩:=hRv r (by rw [hr];exact List.getElem_mem hkl)
    have hstep:(x.rules.take (k+1)).map a8y=(x.rules.take k).map a8y++[a8y r]:=by rw [a2u a8y x.rules k hkl,hr]
    obtain ⟨U,hU⟩:∃ U,U=(x.rules.take k).map a8y:=⟨_,rfl⟩
    have hUl:U.length≤1000:=by rw [hU];simp;omega
    rw [← hU] at hstep ⊢
    have hstep2:List.map a2h (List.map a8y (x.rules.take (k+1)))=List.map a2h U++[[.v (.string (a8y r))]]:=by rw [hstep,List.map_append];rfl
    have hlen2:(List.map a8y (x.rules.take (k+1))).length=U.length+1:=by rw [hstep];simp
    have hW1:=a1q cutS [r.cut] (by simp) (by simp) (by decide) (by simp;omega)
    have hc3:cutS.size=3:=rfl
    have hj1:(a1o [cutS,r.cut]).size≤100:=by rw [a5v];omega
    have hj2:(a1o [a1o [cutS,r.cut],r.put]).size≤200:=by rw [a5v];omega
    have hmin:min (k+1) x.rules.length=U.length+1:=by rw [hU];simp;omega
    have hW2:=a1q (a1o [cutS,r.cut]) [r.put] (by simp) (by simp) (by omega) (by simp;omega)
    have hns:=a3i v3.1 v3.2
    refine a0l _ _ _ ?_
    simp (maxSteps:=2000000) only [go_sem,hG,hOw,hlt,← hr]
    (repeat' with_reducible first|refine And.intro ?_ ?_|intro _|refine exP ?_ ?_);all_goals try omega
    refine a0b [(0,28)] [] (hW1) ?_ (by (simp only [go_sem])<;>simp [cutS]) (by (simp only [go_sem,a1g,a0q,a0f,a1m])<;>simp [cutS]) (by simp [a0h,usH,toR,cutS])
    by_cases hp:r.put=⟨#[]⟩
    ·have hW3:=a1q (a1o [cutS,r.cut]) [a3u r.least] (by simp) (by simp) (by omega) (by simp;omega)
     have hrow:a8y r=a1o [a1o [cutS,r.cut],a3u r.least]:=by unfold a8y;rw [if_pos hp]
     simp (maxSteps:=2000000) only [go_sem,hG,hOw,decide_eq_true hp,hp]
     (repeat' with_reducible first|refine And.intro ?_ ?_|intro _|refine exP ?_ ?_);all_goals try omega
     refine a0a (a4z r.least v3.1 v3.2) ?_
     simp only [go_sem,hG,hOw]
     (repeat' with_reducible first|refine And.intro ?_ ?_|intro _|refine exP ?_ ?_);all_goals try omega
     refine a0b [(0,43)] [] (hW3) ?_
     simp only [go_sem,hG,hOw]
     (repeat' with_reducible first|refine And.intro ?_ ?_|intro _|refine exP ?_ ?_);all_goals try omega
     exact ⟨k+1,by omega,by omega,a1l [(3,some 3),(100,some 46)] (by (simp only [hstep2,hlen2,hmin,hrow,go_sem])<;>simp [hstep2,hlen2,hmin,hrow]) (by (simp only [hstep2,hlen2,hmin,hrow,go_sem,a1g,a0q,a0f,a1m])<;>simp [hstep2,hlen2,hmin,hrow]) (by simp [a2m,apart]) (by simp [a0h,usH]) (by simp [hNm,lkR,a1c])⟩
    ·have hW3:=a1q (a1o [a1o [cutS,r.cut],r.put]) [a3u r.least] (by simp) (by simp) (by omega) (by simp;omega)
     have hrow:a8y r=a1o [a1o [a1o [cutS,r.cut],r.put],a3u r.least]:=by unfold a8y;rw [if_neg hp]
     simp (maxSteps:=2000000) only [go_sem,hG,hOw,decide_eq_false hp,Bool.not_false]
     (repeat' with_reducible first|refine And.intro ?_ ?_|intro _|refine exP ?_ ?_);all_goals try omega
     refine a0b [(0,36)] [] (hW2) ?_
     simp only [go_sem,hG,hOw]
     (repeat' with_reducible first|refine And.intro ?_ ?_|intro _|refine exP ?_ ?_);all_goals try omega
     refine a0a (a4z r.least v3.1 v3.2) ?_
     simp only [go_sem,hG,hOw]
     (repeat' with_reducible first|refine And.intro ?_ ?_|intro _|refine exP ?_ ?_);all_goals try omega
     refine a0b [(0,43)] [] (hW3) ?_
     simp only [go_sem,hG,hOw]
     (repeat' with_reducible first|refine And.intro ?_ ?_|intro _|refine exP ?_ ?_);all_goals try omega
     exact ⟨k+1,by omega,by omega,a1l [(3,some 3),(100,some 46)] (by (simp only [hstep2,hlen2,hmin,hrow,go_sem])<;>simp [hstep2,hlen2,hmin,hrow]) (by (simp only [hstep2,hlen2,hmin,hrow,go_sem,a1g,a0q,a0f,a1m])<;>simp [hstep2,hlen2,hmin,hrow]) (by simp [a2m,apart]) (by simp [a0h,usH]) (by simp [hNm,lkR,a1c])⟩
   ·have hlt:¬ (k:Int) < x.rules.length:=by omega
    have hke:k=x.rules.length:=by omega
    subst hke
    rw [List.take_length]
    refine a0l _ _ _ ?_
    simp (maxSteps:=2000000) only [go_sem,hG,hOw,hlt]
    try (repeat' with_reducible first|refine And.intro ?_ ?_|intro _|refine exP ?_ ?_);all_goals try omega
    exact ⟨(),a2o [(3,some 3),(100,some 100)]⟩
  ·rintro _ _
   have hDv:∀ d ∈ x.decs,VDc d:=fun d hd=>g2f ht (e9q hds d hd)
   simp only [go_sem,hG,hOw]
   (repeat' with_reducible first|refine And.intro ?_ ?_|intro _|refine exP ?_ ?_);all_goals try omega
   refine a0r (fun k:Nat=>St.of [(3,.ptr 3 0),(7,.own 100 0 (a8m x k).length 1),(49,dcs 0 x.decs),(50,i64 x.decs.length),(51,i64 k)] [(3,.box (lxC 0 x)),(100,.arr 9 1 ((a8m x k).map a2h))]) (fun k=>k≤x.decs.length) (fun k=>x.decs.length - k) 0 (by simp) (by unfold a8m;exact a2o [(3,some 3),(100,some 100)] (by (simp only [go_sem])<;>simp [List.take_zero,List.map_nil,List.append_nil]) (by (simp only [go_sem,a1g,a0q,a0f,a1m])<;>simp [List.take_zero,List.map_nil,List.append_nil])) ?_
   rintro k hk
   by_cases hkl:k < x.decs.length
   ·have hlt:(k:Int) < x.decs.length:=by omega
    obtain ⟨d,hd⟩:∃ d,d=x.decs[k]:=⟨_,rfl⟩
    obtain ⟨v1,v2,v3,v4,⟨v5,v6,v7⟩,v8⟩:=hDv d (by rw [hd];exact List.getElem_mem hkl)
    have hstep:=c8s x k hkl
    rw [← hd] at hstep
    have hUl0:(a8m x k).length=x.rules.length+k:=by unfold a8m;simp;omega
    obtain ⟨U,hU⟩:∃ U,U=a8m x k:=⟨_,rfl⟩
    rw [← hU] at hstep hUl0 ⊢
    have hstep2:List.map a2h (a8m x (k+1))=List.map a2h U++[[.v (.string (b1p d))]]:=by rw [hstep,List.map_append];rfl
    have hlen2:(a8m x (k+1)).length=U.length+1:=by rw [hstep];simp
    have hns:=a3i v2.1 v2.2
    refine a0l _ _ _ ?_
    simp (maxSteps:=2000000) only [go_sem,hG,hOw,hlt,← hd]
    (repeat' with_reducible first|refine And.intro ?_ ?_|intro _|refine exP ?_ ?_);all_goals try omega
    have hu:(c6i d.stem d.mark).size≤1000:=by
     have hm:d.mark.toNat < 256:=d.mark.toNat_lt
     have:=a3i (n:=d.mark.toNat) (by omega) (by omega)
     unfold c6i;rw [a5v];omega
    have hats:=c8x _ _ _ v5 v6 v7
    have hof:=a3i v8.1 v8.2
    rcases v1 with hk1|hk1|hk1|hk1
    ·have hrow:b1p d=a1o (a1o [formS,a3u d.num]::[d.form,c6i d.stem d.mark]):=by unfold b1p fmP fmN;rw [if_pos hk1,if_pos hk1]
     have hj:(a1o [formS,a3u d.num]).size≤1000:=by rw [a5v];have:formS.size=4:=rfl;omega
     have hW1:=a1q formS [a3u d.num] (by simp) (by simp) (by decide) (by simp;omega)
     have hW2:=a1q (a1o [formS,a3u d.num]) [d.form,c6i d.stem d.mark] (by simp) (by simp) (by omega) (by simp;omega)
     have hF:=d8u d (by omega)
     have i1:Int.toNat 1=1:=rfl
     refine a1w ⟨[64,74,75],[(65,[64]),(72,[572]),(73,[572])],[65,72,73]⟩ [(0,false),(1,false),(2,false),(3,false),(4,false),(5,false),(6,false),(7,false),(8,false),(9,false),(10,false),(11,false),(12,false),(13,false),(14,false),(15,false),(16,false),(17,false),(18,false),(19,false),(20,false),(21,false)] mixed (by kernel_rfl) ?_
     simp only [a2r,List.getElem?_cons_zero,List.getElem?_cons_succ]
     simp (maxSteps:=2000000) only [go_sem,hG,hOw,hk1,i1,Nat.reduceMul,List.drop_succ_cons,List.drop_zero]
     refine ⟨by omega,?_⟩
     refine ⟨_,a0i (a4z d.num v2.1 v2.2),?_⟩
     simp only [go_sem,hG,hOw]
     (repeat' with_reducible first|refine And.intro ?_ ?_|intro _|refine exP ?_ ?_);all_goals try omega
     refine ⟨_,a5x [(0,64)] [] (hW1) (by (simp only [go_sem])<;>simp [formS]) (by (simp only [go_sem,a1g,a0q,a0f,a1m])<;>simp [formS]) (by simp [a2m,apart,toR]) (by simp [a0h,usH,toR,formS]) (by simp [a5z,lkR,toR]) rfl (by simp [tgt,a1z]) (by simp [tgt,a1z]) (by simp [upT,a3k,a5w,a1u,usH,lkR,toR,a1z,formS]) (by simp [b2k,usH,tgt,go_sem]) (by simp [a3l,a1u,usH,lkR,toR,formS]) (by simp [a5d,usH,formS]),?_⟩
     simp (maxSteps:=2000000) only [go_sem,hG,hOw,hk1,i1,Nat.reduceMul,List.drop_succ_cons,List.drop_zero]
     refine ⟨by omega,?_⟩
     refine ⟨_,c1q [(5,572)] (hF) (by (simp only [go_sem])<;>simp [hk1]) rfl (by simp [tgt,a1z]) (by simp [upT,a3k,a5w,a1u,usH,lkR,toR,a1z,hk1]) (by simp [b2k,usH,tgt,go_sem]) (by simp [a3l,a1u,usH,lkR,toR,hk1]) (by simp [a5d,usH,hk1]),?_⟩
     simp only [go_sem,hG,hOw]
     (repeat' with_reducible first|refine And.intro ?_ ?_|intro _|refine exP ?_ ?_);all_goals try omega
     refine ⟨_,a5x [(0,572)] [] (hW2) (by (simp only [go_sem])<;>simp) (by (simp only [go_sem,a1g,a0q,a0f,a1m])<;>simp) (by simp [a2m,apart,toR]) (by simp [a0h,usH,toR]) (by simp [a5z,lkR,toR]) rfl (by simp [tgt,a1z]) (by simp [tgt,a1z]) (by simp [upT,a3k,a5w,a1u,usH,lkR,toR,a1z]) (by simp [b2k,usH,tgt,go_sem]) (by simp [a3l,a1u,usH,lkR,toR]) (by simp [a5d,usH]),?_⟩
     simp only [go_sem,hG,hOw]
     (repeat' with_reducible first|refine And.intro ?_ ?_|intro _|refine exP ?_ ?_);all_goals try omega
     exact ⟨k+1,by omega,by omega,a1l [(3,some 3),(100,some 75)] (by (simp only [hstep2,hlen2,hrow,go_sem])<;>simp [hstep2,hlen2,hrow]) (by (simp only [hstep2,hlen2,hrow,go_sem,a1g,a0q,a0f,a1m])<;>simp [hstep2,hlen2,hrow]) (by simp [a2m,apart]) (by simp [a0h,usH]) (by simp [hNm,lkR,a1c])⟩
    ·have hrow:b1p d=a1o (a1o [fromS,a3u d.num]::[atS d.ch d.ln d.wd,d.form,c6i d.stem d.mark]):=by unfold b1p fmP fmN;rw [hk1];rfl
     have hj:(a1o [fromS,a3u d.num]).size≤1000:=by rw [a5v];have:fromS.size=4:=rfl;omega
     have hW1:=a1q fromS [a3u d.num] (by simp) (by simp) (by decide) (by simp;omega)
     have hW2:=a1q (a1o [fromS,a3u d.num]) [atS d.ch d.ln d.wd,d.form,c6i d.stem d.mark] (by simp) (by simp) (by omega) (by simp;omega)
     have hF:=e0t d (by omega) v5 v6 v7
     have i1:Int.toNat 2=2:=rfl
     refine a1w ⟨[64,74,75],[(65,[64]),(72,[572]),(73,[572])],[65,72,73]⟩ [(0,false),(1,false),(2,false),(3,false),(4,false),(5,false),(6,false),(7,false),(8,false),(9,false),(10,false),(11,false),(12,false),(13,false),(14,false),(15,false),(16,false),(17,false),(18,false),(19,false),(20,false),(21,false)] mixed (by kernel_rfl) ?_
     simp only [a2r,List.getElem?_cons_zero,List.getElem?_cons_succ]
     simp (maxSteps:=2000000) only [go_sem,hG,hOw,hk1,i1,Nat.reduceMul,List.drop_succ_cons,List.drop_zero]
     refine ⟨by omega,?_⟩
     refine ⟨_,a0i (a4z d.num v2.1 v2.2),?_⟩
     simp only [go_sem,hG,hOw]
     (repeat' with_reducible first|refine And.intro ?_ ?_|intro _|refine exP ?_ ?_);all_goals try omega
     refine ⟨_,a5x [(0,64)] [] (hW1) (by (simp only [go_sem])<;>simp [fromS]) (by (simp only [go_sem,a1g,a0q,a0f,a1m])<;>simp [fromS]) (by simp [a2m,apart,toR]) (by simp [a0h,usH,toR,fromS]) (by simp [a5z,lkR,toR]) rfl (by simp [tgt,a1z]) (by simp [tgt,a1z]) (by simp [upT,a3k,a5w,a1u,usH,lkR,toR,a1z,fromS]) (by simp [b2k,usH,tgt,go_sem]) (by simp [a3l,a1u,usH,lkR,toR,fromS]) (by simp [a5d,usH,fromS]),?_⟩
     simp (maxSteps:=2000000) only [go_sem,hG,hOw,hk1,i1,Nat.reduceMul,List.drop_succ_cons,List.drop_zero]
     refine ⟨by omega,?_⟩
     refine ⟨_,c1q [(5,572)] (hF) (by (simp only [go_sem])<;>simp [hk1]) rfl (by simp [tgt,a1z]) (by simp [upT,a3k,a5w,a1u,usH,lkR,toR,a1z,hk1]) (by simp [b2k,usH,tgt,go_sem]) (by simp [a3l,a1u,usH,lkR,toR,hk1]) (by simp [a5d,usH,hk1]),?_⟩
     simp only [go_sem,hG,hOw]
     (repeat' with_reducible first|refine And.intro ?_ ?_|intro _|refine exP ?_ ?_);all_goals try omega
     refine ⟨_,a5x [(0,572)] [] (hW2) (by (simp only [go_sem])<;>simp) (by (simp only [go_sem,a1g,a0q,a0f,a1m])<;>simp) (by simp [a2m,apart,toR]) (by simp [a0h,usH,toR]) (by simp [a5z,lkR,toR]) rfl (by simp [tgt,a1z]) (by simp [tgt,a1z]) (by simp [upT,a3k,a5w,a1u,usH,lkR,toR,a1z]) (by simp [b2k,usH,tgt,go_sem]) (by simp [a3l,a1u,usH,lkR,toR]) (by simp [a5d,usH]),?_⟩
     simp only [go_sem,hG,hOw]
     (repeat' with_reducible first|refine And.intro ?_ ?_|intro _|refine exP ?_ ?_);all_goals try omega
     exact ⟨k+1,by omega,by omega,a1l [(3,some 3),(100,some 75)] (by (simp only [hstep2,hlen2,hrow,go_sem])<;>simp [hstep2,hlen2,hrow]) (by (simp only [hstep2,hlen2,hrow,go_sem,a1g,a0q,a0f,a1m])<;>simp [hstep2,hlen2,hrow]) (by simp [a2m,apart]) (by simp [a0h,usH]) (by simp [hNm,lkR,a1c])⟩
    ·have hrow:b1p d=a1o (a1o [plcS,a3u d.num]::[atS d.ch d.ln d.wd,c6i d.stem d.mark]):=by unfold b1p fmP fmN;rw [hk1];rfl
     have hj:(a1o [plcS,a3u d.num]).size≤1000:=by rw [a5v];have:plcS.size=5:=rfl;omega
     have hW1:=a1q plcS [a3u d.num] (by simp) (by simp) (by decide) (by simp;omega)
     have hW2:=a1q (a1o [plcS,a3u d.num]) [atS d.ch d.ln d.wd,c6i d.stem d.mark] (by simp) (by simp) (by omega) (by simp;omega)
     have hF:=d9f d (by omega) v5 v6 v7
     have i1:Int.toNat 3=3:=rfl
     refine a1w ⟨[64,74,75],[(65,[64]),(72,[572]),(73,[572])],[65,72,73]⟩ [(0,false),(1,false),(2,false),(3,false),(4,false),(5,false),(6,false),(7,false),(8,false),(9,false),(10,false),(11,false),(12,false),(13,false),(14,false),(15,false),(16,false),(17,false),(18,false),(19,false),(20,false),(21,false)] mixed (by kernel_rfl) ?_
     simp only [a2r,List.getElem?_cons_zero,List.getElem?_cons_succ]
     simp (maxSteps:=2000000) only [go_sem,hG,hOw,hk1,i1,Nat.reduceMul,List.drop_succ_cons,List.drop_zero]
     refine ⟨by omega,?_⟩
     refine ⟨_,a0i (a4z d.num v2.1 v2.2),?_⟩
     simp only [go_sem,hG,hOw]
     (repeat' with_reducible first|refine And.intro ?_ ?_|intro _|refine exP ?_ ?_);all_goals try omega
     refine ⟨_,a5x [(0,64)] [] (hW1) (by (simp only [go_sem])<;>simp [plcS]) (by (simp only [go_sem,a1g,a0q,a0f,a1m])<;>simp [plcS]) (by simp [a2m,apart,toR]) (by simp [a0h,usH,toR,plcS]) (by simp [a5z,lkR,toR]) rfl (by simp [tgt,a1z]) (by simp [tgt,a1z]) (by simp [upT,a3k,a5w,a1u,usH,lkR,toR,a1z,plcS]) (by simp [b2k,usH,tgt,go_sem]) (by simp [a3l,a1u,usH,lkR,toR,plcS]) (by simp [a5d,usH,plcS]),?_⟩
     simp (maxSteps:=2000000) only [go_sem,hG,hOw,hk1,i1,Nat.reduceMul,List.drop_succ_cons,List.drop_zero]
     refine ⟨by omega,?_⟩
     refine ⟨_,c1q [(5,572)] (hF) (by (simp only [go_sem])<;>simp [hk1]) rfl (by simp [tgt,a1z]) (by simp [upT,a3k,a5w,a1u,usH,lkR,toR,a1z,hk1]) (by simp [b2k,usH,tgt,go_sem]) (by simp [a3l,a1u,usH,lkR,toR,hk1]) (by simp [a5d,usH,hk1]),?_⟩
     simp only [go_sem,hG,hOw]
     (repeat' with_reducible first|refine And.intro ?_ ?_|intro _|refine exP ?_ ?_);all_goals try omega
     refine ⟨_,a5x [(0,572)] [] (hW2) (by (simp only [go_sem])<;>simp) (by (simp only [go_sem,a1g,a0q,a0f,a1m])<;>simp) (by simp [a2m,apart,toR]) (by simp [a0h,usH,toR]) (by simp [a5z,lkR,toR]) rfl (by simp [tgt,a1z]) (by simp [tgt,a1z]) (by simp [upT,a3k,a5w,a1u,usH,lkR,toR,a1z]) (by simp [b2k,usH,tgt,go_sem]) (by simp [a3l,a1u,usH,lkR,toR]) (by simp [a5d,usH]),?_⟩
     simp only [go_sem,hG,hOw]
     (repeat' with_reducible first|refine And.intro ?_ ?_|intro _|refine exP ?_ ?_);all_goals try omega
     exact ⟨k+1,by omega,by omega,a1l [(3,some 3),(100,some 75)] (by (simp only [hstep2,hlen2,hrow,go_sem])<;>simp [hstep2,hlen2,hrow]) (by (simp only [hstep2,hlen2,hrow,go_sem,a1g,a0q,a0f,a1m])<;>simp [hstep2,hlen2,hrow]) (by simp [a2m,apart]) (by simp [a0h,usH]) (by simp [hNm,lkR,a1c])⟩
    ·have hrow:b1p d=a1o (a1o [voidS,a3u d.num]::[a3u d.of]):=by unfold b1p fmP fmN;rw [hk1];rfl
     have hj:(a1o [voidS,a3u d.num]).size≤1000:=by rw [a5v];have:voidS.size=4:=rfl;omega
     have hW1:=a1q voidS [a3u d.num] (by simp) (by simp) (by decide) (by simp;omega)
     have hW2:=a1q (a1o [voidS,a3u d.num]) [a3u d.of] (by simp) (by simp) (by omega) (by simp;omega)
     have hF:=e1c d v8
     have i1:Int.toNat 4=4:=rfl
     refine a1w ⟨[64,74,75],[(65,[64]),(72,[572]),(73,[572])],[65,72,73]⟩ [(0,false),(1,false),(2,false),(3,false),(4,false),(5,false),(6,false),(7,false),(8,false),(9,false),(10,false),(11,false),(12,false),(13,false),(14,false),(15,false),(16,false),(17,false),(18,false),(19,false),(20,false),(21,false)] mixed (by kernel_rfl) ?_
     simp only [a2r,List.getElem?_cons_zero,List.getElem?_cons_succ]
     simp (maxSteps:=2000000) only [go_sem,hG,hOw,hk1,i1,Nat.reduceMul,List.drop_succ_cons,List.drop_zero]
     refine ⟨by omega,?_⟩
     refine ⟨_,a0i (a4z d.num v2.1 v2.2),?_⟩
     simp only [go_sem,hG,hOw]
     (repeat' with_reducible first|refine And.intro ?_ ?_|intro _|refine exP ?_ ?_);all_goals try omega
     refine ⟨_,a5x [(0,64)] [] (hW1) (by (simp only [go_sem])<;>simp [voidS]) (by (simp only [go_sem,a1g,a0q,a0f,a1m])<;>simp [voidS]) (by simp [a2m,apart,toR]) (by simp [a0h,usH,toR,voidS]) (by simp [a5z,lkR,toR]) rfl (by simp [tgt,a1z]) (by simp [tgt,a1z]) (by simp [upT,a3k,a5w,a1u,usH,lkR,toR,a1z,voidS]) (by simp [b2k,usH,tgt,go_sem]) (by simp [a3l,a1u,usH,lkR,toR,voidS]) (by simp [a5d,usH,voidS]),?_⟩
     simp (maxSteps:=2000000) only [go_sem,hG,hOw,hk1,i1,Nat.reduceMul,List.drop_succ_cons,List.drop_zero]
     refine ⟨by omega,?_⟩
     refine ⟨_,c1q [(5,572)] (hF) (by (simp only [go_sem])<;>simp [hk1]) rfl (by simp [tgt,a1z]) (by simp [upT,a3k,a5w,a1u,usH,lkR,toR,a1z,hk1]) (by simp [b2k,usH,tgt,go_sem]) (by simp [a3l,a1u,usH,lkR,toR,hk1]) (by simp [a5d,usH,hk1]),?_⟩
     simp only [go_sem,hG,hOw]
     (repeat' with_reducible first|refine And.intro ?_ ?_|intro _|refine exP ?_ ?_);all_goals try omega
     refine ⟨_,a5x [(0,572)] [] (hW2) (by (simp only [go_sem])<;>simp) (by (simp only [go_sem,a1g,a0q,a0f,a1m])<;>simp) (by simp [a2m,apart,toR]) (by simp [a0h,usH,toR]) (by simp [a5z,lkR,toR]) rfl (by simp [tgt,a1z]) (by simp [tgt,a1z]) (by simp [upT,a3k,a5w,a1u,usH,lkR,toR,a1z]) (by simp [b2k,usH,tgt,go_sem]) (by simp [a3l,a1u,usH,lkR,toR]) (by simp [a5d,usH]),?_⟩
     simp only [go_sem,hG,hOw]
     (repeat' with_reducible first|refine And.intro ?_ ?_|intro _|refine exP ?_ ?_);all_goals try omega
     exact ⟨k+1,by omega,by omega,a1l [(3,some 3),(100,some 75)] (by (simp only [hstep2,hlen2,hrow,go_sem])<;>simp [hstep2,hlen2,hrow]) (by (simp only [hstep2,hlen2,hrow,go_sem,a1g,a0q,a0f,a1m])<;>simp [hstep2,hlen2,hrow]) (by simp [a2m,apart]) (by simp [a0h,usH]) (by simp [hNm,lkR,a1c])⟩
   ·have hlt:¬ (k:Int) < x.decs.length:=by omega
    have hke:k=x.decs.length:=by omega
    subst hke
    refine a0l _ _ _ ?_
    simp (maxSteps:=2000000) only [go_sem,hG,hOw,hlt]
    try (repeat' with_reducible first|refine And.intro ?_ ?_|intro _|refine exP ?_ ?_);all_goals try omega
    have e:a8m x x.decs.length=b9k x:=by unfold a8m b9k;rw [List.take_length]
    rw [e]
    exact Sub.refl _
 ·rw [if_neg he]
  refine a0c (ow:=fun _=>false) Tryz.func31 Tryz.ntmps31 rfl rfl fun G hG hOw hNm hB=>?_;simp only [go_sem,hG,hOw]
  refine a0a hC ?_
  simp (maxSteps:=2000000) only [go_sem,hG,hOw,he]
  (repeat' with_reducible first|refine And.intro ?_ ?_|intro _|refine exP ?_ ?_);all_goals try omega
  exact Subs.tup (.cons (.nil _ _) (.cons (.refl _) .nil))
open Go Pm
set_option maxHeartbeats 4000000
set_option maxRecDepth 100000
abbrev Rws:=List ByteArray
def a7t:Rws→Option (ByteArray×Rws)
 |w::r=>if a1p w=true then some (w,r) else none
 |[]=>none
def b1o:Rws→Option (Int×Rws)
 |s::r=>(a3z s).map fun v=>(v,r)
 |[]=>none
def b7l (l:Rws):Option ((ByteArray×UInt8)×Rws):=match a7t l with
 |none=>none
 |some (w,r)=>match b1o r with
  |none=>none
  |some (n,r')=>if n≤255 then some ((w,UInt8.ofNat n.toNat),r') else none
def b4b (l:Rws):Option ((Int×Int×Int)×Rws):=if a2q l=true then some ((nvS l 0,nvS l 1,nvS l 2),l.drop 3) else none
def SubR (r l:Rws):Prop:=(∀ x ∈ r,x ∈ l)∧r.length≤l.length
theorem SubR.refl (l:Rws):SubR l l:=⟨fun _ h=>h,Nat.le_refl _⟩
theorem SubR.trans {a b c:Rws} (h1:SubR a b) (h2:SubR b c):SubR a c:=⟨fun x hx=>h2.1 x (h1.1 x hx),Nat.le_trans h1.2 h2.2⟩
theorem SubR.size {r l:Rws} (h:SubR r l) (hl:∀ s ∈ l,s.size≤100000):∀ s ∈ r,s.size≤100000:=fun s hs=>hl s (h.1 s hs)
theorem c3k {l:Rws} {w:ByteArray} {r:Rws} (h:a7t l=some (w,r)):l=w::r∧a1p w=true:=by
 unfold a7t at h
 split at h
 ·split at h
  ·cases h;exact ⟨rfl,by assumption⟩
  ·cases h
 ·cases h
theorem a5o {l:Rws} {w:ByteArray} {r:Rws} (h:a7t l=some (w,r)):SubR r l:=by
 obtain ⟨rfl,_⟩:=c3k h
 exact ⟨fun x hx=>List.mem_cons_of_mem _ hx,by simp⟩
theorem b0p {l:Rws} {w:ByteArray} {r:Rws} (h:a7t l=some (w,r)):w.size≤12:=(a3t (c3k h).2).2
theorem d0p {l:Rws} {v:Int} {r:Rws} (h:b1o l=some (v,r)):∃ s,l=s::r∧a3z s=some v:=by
 unfold b1o at h
 split at h
 ·simp only [Option.map_eq_some_iff,Prod.mk.injEq] at h
  obtain ⟨_,h1,rfl,rfl⟩:=h
  exact ⟨_,rfl,h1⟩
 ·cases h
theorem a4v {l:Rws} {v:Int} {r:Rws} (h:b1o l=some (v,r)):SubR r l:=by
 obtain ⟨s,rfl,_⟩:=d0p h
 exact ⟨fun x hx=>List.mem_cons_of_mem _ hx,by simp⟩
theorem e9g {l:Rws} {v:Int} {r:Rws} (h:b1o l=some (v,r)):in9 v:=by
 obtain ⟨s,rfl,hv⟩:=d0p h
 obtain ⟨h1,h2,h3,h4⟩:=b3b hv
 exact ⟨h2,h3⟩
theorem c3t {l r:Rws} {w:ByteArray} {m:UInt8} (h:b7l l=some ((w,m),r)):∃ r1 n,a7t l=some (w,r1)∧b1o r1=some (n,r)∧n≤255∧m=UInt8.ofNat n.toNat:=by
 unfold b7l at h
 split at h
 ·cases h
 ·rename_i w' r' h1
  split at h
  ·cases h
  ·rename_i n r'' h2
   split at h
   ·rename_i h3
    cases h
    exact ⟨r',n,h1,h2,h3,rfl⟩
   ·cases h
theorem c3b {l r:Rws} {q:ByteArray×UInt8} (h:b7l l=some (q,r)):SubR r l:=by
 obtain ⟨r1,n,h1,h2,_,_⟩:=c3t (w:=q.1) (m:=q.2) h
 exact (a4v h2).trans (a5o h1)
theorem b9n {l r:Rws} {q:ByteArray×UInt8} (h:b7l l=some (q,r)):q.1.size≤12:=by
 obtain ⟨r1,n,h1,h2,_,_⟩:=c3t (w:=q.1) (m:=q.2) h
 exact b0p h1
theorem b0f {l r:Rws} {q:Int×Int×Int} (h:b4b l=some (q,r)):SubR r l:=by
 unfold b4b at h
 split at h
 ·cases h;exact ⟨fun x hx=>List.mem_of_mem_drop hx,by simp⟩
 ·cases h
theorem b8b (lo:Nat) (l:Rws):Tri Tryz.prog 86 [.ptr 0 0] [(0,.box [a0e lo l])] (fun _=>match a7t l with
  |some q=>.ret (.v (.string q.1)) [(0,.box [a0e lo q.2])]
  |none=>.pan (wrV 111) []):=by
 cases l with
 |nil=>exact b7a lo
 |cons w r =>
  cases h:a1p w with
  |true =>
   have e:a7t (w::r)=some (w,r):=if_pos h
   rw [e];exact a6s lo w r h
  |false =>
   have e:a7t (w::r)=none:=if_neg (by rw [h];decide)
   rw [e];exact b0h lo w r h
theorem d2f (lo:Nat) (l:Rws) (hl:∀ s ∈ l,s.size≤100000):Tri Tryz.prog 75 [.ptr 0 0] [(0,.box [a0e lo l])] (fun _=>match b1o l with
  |some q=>.ret (i64 q.1) [(0,.box [a0e lo q.2])]
  |none=>.pan (wrV 111) []):=by
 cases l with
 |nil=>exact b9u lo
 |cons w r =>
  cases h:a3z w with
  |none =>
   have e:b1o (w::r)=none:=by show (a3z w).map _=_;rw [h];rfl
   rw [e];exact b9z lo w r (hl w (by simp)) h
  |some v =>
   have e:b1o (w::r)=some (v,r):=by show (a3z w).map _=_;rw [h];rfl
   rw [e];exact a8h lo w r v (hl w (by simp)) h
theorem e9u (lo:Nat) (l:Rws) (hl:∀ s ∈ l,s.size≤100000):Tri Tryz.prog 85 [.ptr 0 0] [(0,.box [a0e lo l])] (fun _=>match b4b l with
  |some q=>.ret (.agg [i64 q.1.1,i64 q.1.2.1,i64 q.1.2.2]) [(0,.box [a0e lo q.2])]
  |none=>.pan (wrV 111) []):=by
 have h:=a2k lo l hl
 unfold b4b
 cases hp:a2q l with
 |true=>rw [hp] at h;exact h
 |false=>rw [hp] at h;exact h
theorem f1y (lo:Nat) (l:Rws) (hl:∀ s ∈ l,s.size≤100000):Tri Tryz.prog 330 [.ptr 0 0] [(0,.box [a0e lo l])] (fun _=>match b7l l with
  |some q=>.ret (.agg [str q.1.1,u8 q.1.2]) [(0,.box [a0e lo q.2])]
  |none=>.pan (wrV 111) []):=by
 have hW:=b8b lo l
 unfold b7l
 cases h1:a7t l with
 |none =>
  rw [h1] at hW
  simp only at hW ⊢
  refine a0d (fun _=>false) Tryz.func330 Tryz.ntmps330 rfl rfl fun G hG hOw hNm=>?_;simp only [go_sem,hG,hOw]
  refine a0b [(0,0)] [] (hW) ?_
  simp only [go_sem,hG,hOw]
  exact ⟨rfl,(a1x [])⟩
 |some q =>
  obtain ⟨w,r⟩:=q
  rw [h1] at hW
  simp only at hW ⊢
  have hN:=d2f lo r ((a5o h1).size hl)
  cases h2:b1o r with
  |none =>
   rw [h2] at hN
   simp only at hN ⊢
   refine a0d (fun _=>false) Tryz.func330 Tryz.ntmps330 rfl rfl fun G hG hOw hNm=>?_;simp only [go_sem,hG,hOw]
   refine a0b [(0,0)] [] (hW) ?_
   simp only [go_sem,hG,hOw]
   (repeat' with_reducible first|refine And.intro ?_ ?_|intro _|refine exP ?_ ?_);all_goals try omega
   refine a0b [(0,0)] [] (hN) ?_
   simp only [go_sem,hG,hOw]
   exact ⟨rfl,(a1x [])⟩
  |some q2 =>
   obtain ⟨n,r'⟩:=q2
   rw [h2] at hN
   simp only at hN ⊢
   obtain ⟨n0,n1⟩:=e9g h2
   by_cases h3:n≤255
   ·rw [if_pos h3]
    have hu:((UInt8.ofNat n.toNat).toNat:Int)=n:=by
     rw [UInt8.toNat_ofNat'];omega
    have hwr:IntKind.u8.wrap n=n:=by have:IntKind.u8.wrap n=n % 256:=rfl;omega
    simp only
    refine a0d (fun _=>false) Tryz.func330 Tryz.ntmps330 rfl rfl fun G hG hOw hNm=>?_;simp only [go_sem,hG,hOw]
    refine a0b [(0,0)] [] (hW) ?_
    simp only [go_sem,hG,hOw]
    (repeat' with_reducible first|refine And.intro ?_ ?_|intro _|refine exP ?_ ?_);all_goals try omega
    refine a0b [(0,0)] [] (hN) ?_
    simp (maxSteps:=2000000) only [go_sem,hG,hOw,decide_eq_true h3]
    (repeat' with_reducible first|refine And.intro ?_ ?_|intro _|refine exP ?_ ?_);all_goals try omega
    refine a0b [] [] (a0s 111) ?_
    simp (maxSteps:=2000000) only [go_sem,hG,hOw,hu,hwr]
    (repeat' with_reducible first|refine And.intro ?_ ?_|intro _|refine exP ?_ ?_);all_goals try omega
    exact ⟨[(0,some 0)],by (simp only [b1z,go_sem,a1g,a0q,a0f,a1m,apart,a2m,a0h])<;>simp [hu,hwr]⟩
   ·rw [if_neg h3]
    simp only
    refine a0d (fun _=>false) Tryz.func330 Tryz.ntmps330 rfl rfl fun G hG hOw hNm=>?_;simp only [go_sem,hG,hOw]
    refine a0b [(0,0)] [] (hW) ?_
    simp only [go_sem,hG,hOw]
    (repeat' with_reducible first|refine And.intro ?_ ?_|intro _|refine exP ?_ ?_);all_goals try omega
    refine a0b [(0,0)] [] (hN) ?_
    simp (maxSteps:=2000000) only [go_sem,hG,hOw,decide_eq_false h3]
    (repeat' with_reducible first|refine And.intro ?_ ?_|intro _|refine exP ?_ ?_);all_goals try omega
    refine a0b [] [] (a3v 111) ?_
    simp only [go_sem,hG,hOw]
    exact ⟨rfl,(a1x [])⟩
open Go Pm
set_option maxHeartbeats 4000000
set_option maxRecDepth 100000
def d9w (d:Dc) (q:ByteArray×UInt8):Dc:={ d with stem:=q.1,mark:=q.2 }
def f5o (d:Dc) (q:Int×Int×Int):Dc:={ d with ch:=q.1,ln:=q.2.1,wd:=q.2.2 }
def f2 (d:Dc) (l:Rws):Option (Dc×Rws):=match a7t l with
 |none=>none
 |some (w,r)=>match b7l r with
  |none=>none
  |some (q,r')=>some (d9w { d with form:=w } q,r')
def f4 (d:Dc) (l:Rws):Option (Dc×Rws):=match b4b l with
 |none=>none
 |some (p,r)=>f2 (f5o d p) r
def f6 (d:Dc) (l:Rws):Option (Dc×Rws):=match b4b l with
 |none=>none
 |some (p,r)=>match b7l r with
  |none=>none
  |some (q,r')=>some (d9w (f5o d p) q,r')
def f8 (d:Dc) (l:Rws):Option (Dc×Rws):=match b1o l with
 |none=>none
 |some (n,r)=>some ({ d with of:=n },r)
theorem f0v {d d':Dc} {l r:Rws} (h:f2 d l=some (d',r)) (hb:bdD d):SubR r l∧bdD d':=by
 unfold f2 at h
 split at h
 ·cases h
 ·rename_i w r1 h1
  split at h
  ·cases h
  ·rename_i q r2 h2
   cases h
   have:=b0p h1
   have:=b9n h2
   exact ⟨(c3b h2).trans (a5o h1),by simp only [d9w];omega,by simp only [d9w];omega⟩
theorem f7d {d d':Dc} {l r:Rws} (h:f4 d l=some (d',r)) (hb:bdD d):SubR r l∧bdD d':=by
 unfold f4 at h
 split at h
 ·cases h
 ·rename_i p r1 h1
  obtain ⟨a,b⟩:=f0v h (by exact hb)
  exact ⟨a.trans (b0f h1),b⟩
theorem f8q {d d':Dc} {l r:Rws} (h:f6 d l=some (d',r)) (hb:bdD d):SubR r l∧bdD d':=by
 unfold f6 at h
 split at h
 ·cases h
 ·rename_i p r1 h1
  split at h
  ·cases h
  ·rename_i q r2 h2
   cases h
   have:=b9n h2
   exact ⟨(c3b h2).trans (b0f h1),hb.1,by simp only [d9w];omega⟩
theorem f8r {d d':Dc} {l r:Rws} (h:f8 d l=some (d',r)) (hb:bdD d):SubR r l∧bdD d':=by
 unfold f8 at h
 split at h
 ·cases h
 ·rename_i n r1 h1
  cases h
  exact ⟨a4v h1,hb⟩
theorem e2g (lo:Nat) (d:Dc) (l:Rws) (hl:∀ s ∈ l,s.size≤100000):Tri Tryz.prog 329 [.ptr 50 0,.ptr 51 0] [(50,.box [a0e lo l]),(51,.box (dcC d))] (fun _=>match f2 d l with
  |some q=>.ret (.tup []) [(50,.box [a0e lo q.2]),(51,.box (dcC q.1))]
  |none=>.pan (wrV 111) []):=by
 have hW:=b8b lo l
 cases h1:a7t l with
 |none =>
  rw [h1] at hW
  have e:f2 d l=none:=by unfold f2;simp only [h1]
  rw [e]
  simp only at hW ⊢
  refine a0d (fun _=>false) Tryz.func329 Tryz.ntmps329 rfl rfl fun G hG hOw hNm=>?_;simp only [go_sem,hG,hOw]
  refine a0b [(0,50)] [] (hW) ?_
  simp only [go_sem,hG,hOw]
  first|exact ⟨rfl,(a1x [])⟩|exact (a1x [])
 |some q =>
  obtain ⟨w,r⟩:=q
  rw [h1] at hW
  have hH:=f1y lo r ((a5o h1).size hl)
  cases h2:b7l r with
  |none =>
   rw [h2] at hH
   have e:f2 d l=none:=by unfold f2;simp only [h1,h2]
   rw [e]
   simp only at hW hH ⊢
   refine a0d (fun _=>false) Tryz.func329 Tryz.ntmps329 rfl rfl fun G hG hOw hNm=>?_;simp only [go_sem,hG,hOw]
   refine a0b [(0,50)] [] (hW) ?_
   simp only [go_sem,hG,hOw]
   (repeat' with_reducible first|refine And.intro ?_ ?_|intro _|refine exP ?_ ?_);all_goals try omega
   refine a0b [(0,50)] [] (hH) ?_
   simp only [go_sem,hG,hOw]
   first|exact ⟨rfl,(a1x [])⟩|exact (a1x [])
  |some q2 =>
   obtain ⟨⟨st,mk⟩,r'⟩:=q2
   rw [h2] at hH
   have e:f2 d l=some (d9w { d with form:=w } (st,mk),r'):=by unfold f2;simp only [h1,h2]
   rw [e]
   simp only at hW hH ⊢
   refine a0d (fun _=>false) Tryz.func329 Tryz.ntmps329 rfl rfl fun G hG hOw hNm=>?_;simp only [go_sem,hG,hOw]
   refine a0b [(0,50)] [] (hW) ?_
   simp only [go_sem,hG,hOw]
   (repeat' with_reducible first|refine And.intro ?_ ?_|intro _|refine exP ?_ ?_);all_goals try omega
   refine a0b [(0,50)] [] (hH) ?_
   simp only [go_sem,hG,hOw]
   (repeat' with_reducible first|refine And.intro ?_ ?_|intro _|refine exP ?_ ?_);all_goals try omega
   exact ⟨[(50,some 50),(51,some 51)],by (simp only [b1z,go_sem,a1g,a0q,a0f,a1m,apart,a2m,a0h])<;>simp [d9w]⟩
theorem e3q (lo:Nat) (d:Dc) (l:Rws) (hl:∀ s ∈ l,s.size≤100000):Tri Tryz.prog 336 [.ptr 50 0,.ptr 51 0] [(50,.box [a0e lo l]),(51,.box (dcC d))] (fun _=>match f8 d l with
  |some q=>.ret (.tup []) [(50,.box [a0e lo q.2]),(51,.box (dcC q.1))]
  |none=>.pan (wrV 111) []):=by
 have hN:=d2f lo l hl
 cases h1:b1o l with
 |none =>
  rw [h1] at hN
  have e:f8 d l=none:=by unfold f8;simp only [h1]
  rw [e]
  simp only at hN ⊢
  refine a0d (fun _=>false) Tryz.func336 Tryz.ntmps336 rfl rfl fun G hG hOw hNm=>?_;simp only [go_sem,hG,hOw]
  refine a0b [(0,50)] [] (hN) ?_
  simp only [go_sem,hG,hOw]
  first|exact ⟨rfl,(a1x [])⟩|exact (a1x [])
 |some q =>
  obtain ⟨n,r⟩:=q
  rw [h1] at hN
  have e:f8 d l=some ({ d with of:=n },r):=by unfold f8;simp only [h1]
  rw [e]
  simp only at hN ⊢
  refine a0d (fun _=>false) Tryz.func336 Tryz.ntmps336 rfl rfl fun G hG hOw hNm=>?_;simp only [go_sem,hG,hOw]
  refine a0b [(0,50)] [] (hN) ?_
  simp only [go_sem,hG,hOw]
  (repeat' with_reducible first|refine And.intro ?_ ?_|intro _|refine exP ?_ ?_);all_goals try omega
  exact (a1x [(50,some 50),(51,some 51)])
theorem e3h (lo:Nat) (d:Dc) (l:Rws) (hl:∀ s ∈ l,s.size≤100000):Tri Tryz.prog 334 [.ptr 50 0,.ptr 51 0] [(50,.box [a0e lo l]),(51,.box (dcC d))] (fun _=>match f6 d l with
  |some q=>.ret (.tup []) [(50,.box [a0e lo q.2]),(51,.box (dcC q.1))]
  |none=>.pan (wrV 111) []):=by
 have hP:=e9u lo l hl
 cases h1:b4b l with
 |none =>
  rw [h1] at hP
  have e:f6 d l=none:=by unfold f6;simp only [h1]
  rw [e]
  simp only at hP ⊢
  refine a0d (fun _=>false) Tryz.func334 Tryz.ntmps334 rfl rfl fun G hG hOw hNm=>?_;simp only [go_sem,hG,hOw]
  refine a0b [(0,50)] [] (hP) ?_
  simp only [go_sem,hG,hOw]
  first|exact ⟨rfl,(a1x [])⟩|exact (a1x [])
 |some q =>
  obtain ⟨⟨a,b,c⟩,r⟩:=q
  rw [h1] at hP
  have hH:=f1y lo r ((b0f h1).size hl)
  cases h2:b7l r with
  |none =>
   rw [h2] at hH
   have e:f6 d l=none:=by unfold f6;simp only [h1,h2]
   rw [e]
   simp only at hP hH ⊢
   refine a0d (fun _=>false) Tryz.func334 Tryz.ntmps334 rfl rfl fun G hG hOw hNm=>?_;simp only [go_sem,hG,hOw]
   refine a0b [(0,50)] [] (hP) ?_
   simp only [go_sem,hG,hOw]
   (repeat' with_reducible first|refine And.intro ?_ ?_|intro _|refine exP ?_ ?_);all_goals try omega
   refine a0b [(0,50)] [] (hH) ?_
   simp only [go_sem,hG,hOw]
   first|exact ⟨rfl,(a1x [])⟩|exact (a1x [])
  |some q2 =>
   obtain ⟨⟨st,mk⟩,r'⟩:=q2
   rw [h2] at hH
   have e:f6 d l=some (d9w (f5o d (a,b,c)) (st,mk),r'):=by unfold f6;simp only [h1,h2]
   rw [e]
   simp only at hP hH ⊢
   refine a0d (fun _=>false) Tryz.func334 Tryz.ntmps334 rfl rfl fun G hG hOw hNm=>?_;simp only [go_sem,hG,hOw]
   refine a0b [(0,50)] [] (hP) ?_
   simp only [go_sem,hG,hOw]
   (repeat' with_reducible first|refine And.intro ?_ ?_|intro _|refine exP ?_ ?_);all_goals try omega
   refine a0b [(0,50)] [] (hH) ?_
   simp only [go_sem,hG,hOw]
   (repeat' with_reducible first|refine And.intro ?_ ?_|intro _|refine exP ?_ ?_);all_goals try omega
   exact ⟨[(50,some 50),(51,some 51)],by (simp only [b1z,go_sem,a1g,a0q,a0f,a1m,apart,a2m,a0h])<;>simp [d9w,f5o]⟩
theorem e2k (lo:Nat) (d:Dc) (l:Rws) (hl:∀ s ∈ l,s.size≤100000):Tri Tryz.prog 332 [.ptr 50 0,.ptr 51 0] [(50,.box [a0e lo l]),(51,.box (dcC d))] (fun _=>match f4 d l with
  |some q=>.ret (.tup []) [(50,.box [a0e lo q.2]),(51,.box (dcC q.1))]
  |none=>.pan (wrV 111) []):=by
 have hP:=e9u lo l hl
 cases h1:b4b l with
 |none =>
  rw [h1] at hP
  have e:f4 d l=none:=by unfold f4 f2;simp only [h1]
  rw [e]
  simp only at hP ⊢
  refine a0d (fun _=>false) Tryz.func332 Tryz.ntmps332 rfl rfl fun G hG hOw hNm=>?_;simp only [go_sem,hG,hOw]
  refine a0b [(0,50)] [] (hP) ?_
  simp only [go_sem,hG,hOw]
  first|exact ⟨rfl,(a1x [])⟩|exact (a1x [])
 |some q =>
  obtain ⟨⟨a,b,c⟩,r⟩:=q
  rw [h1] at hP
  have hr:=(b0f h1).size hl
  have hW:=b8b lo r
  cases h2:a7t r with
  |none =>
   rw [h2] at hW
   have e:f4 d l=none:=by unfold f4 f2;simp only [h1,h2]
   rw [e]
   simp only at hP hW ⊢
   refine a0d (fun _=>false) Tryz.func332 Tryz.ntmps332 rfl rfl fun G hG hOw hNm=>?_;simp only [go_sem,hG,hOw]
   refine a0b [(0,50)] [] (hP) ?_
   simp only [go_sem,hG,hOw]
   (repeat' with_reducible first|refine And.intro ?_ ?_|intro _|refine exP ?_ ?_);all_goals try omega
   refine a0b [(0,50)] [] (hW) ?_
   simp only [go_sem,hG,hOw]
   first|exact ⟨rfl,(a1x [])⟩|exact (a1x [])
  |some q2 =>
   obtain ⟨w,r2⟩:=q2
   rw [h2] at hW
   have hH:=f1y lo r2 ((a5o h2).size hr)
   cases h3:b7l r2 with
   |none =>
    rw [h3] at hH
    have e:f4 d l=none:=by unfold f4 f2;simp only [h1,h2,h3]
    rw [e]
    simp only at hP hW hH ⊢
    refine a0d (fun _=>false) Tryz.func332 Tryz.ntmps332 rfl rfl fun G hG hOw hNm=>?_;simp only [go_sem,hG,hOw]
    refine a0b [(0,50)] [] (hP) ?_
    simp only [go_sem,hG,hOw]
    (repeat' with_reducible first|refine And.intro ?_ ?_|intro _|refine exP ?_ ?_);all_goals try omega
    refine a0b [(0,50)] [] (hW) ?_
    simp only [go_sem,hG,hOw]
    (repeat' with_reducible first|refine And.intro ?_ ?_|intro _|refine exP ?_ ?_);all_goals try omega
    refine a0b [(0,50)] [] (hH) ?_
    simp only [go_sem,hG,hOw]
    first|exact ⟨rfl,(a1x [])⟩|exact (a1x [])
   |some q3 =>
    obtain ⟨⟨st,mk⟩,r3⟩:=q3
    rw [h3] at hH
    have e:f4 d l=some (d9w { f5o d (a,b,c) with form:=w } (st,mk),r3):=by unfold f4 f2;simp only [h1,h2,h3]
    rw [e]
    simp only at hP hW hH ⊢
    refine a0d (fun _=>false) Tryz.func332 Tryz.ntmps332 rfl rfl fun G hG hOw hNm=>?_;simp only [go_sem,hG,hOw]
    refine a0b [(0,50)] [] (hP) ?_
    simp only [go_sem,hG,hOw]
    (repeat' with_reducible first|refine And.intro ?_ ?_|intro _|refine exP ?_ ?_);all_goals try omega
    refine a0b [(0,50)] [] (hW) ?_
    simp only [go_sem,hG,hOw]
    (repeat' with_reducible first|refine And.intro ?_ ?_|intro _|refine exP ?_ ?_);all_goals try omega
    refine a0b [(0,50)] [] (hH) ?_
    simp only [go_sem,hG,hOw]
    (repeat' with_reducible first|refine And.intro ?_ ?_|intro _|refine exP ?_ ?_);all_goals try omega
    exact ⟨[(50,some 50),(51,some 51)],by (simp only [b1z,go_sem,a1g,a0q,a0f,a1m,apart,a2m,a0h])<;>simp [d9w,f5o]⟩
end Go.Proofs.YtmjhfccbbfpppaaGreatDoor
