import Derived.Test.YtmjhfccbbfpppaaGreatDoorQB25
import Derived.Test.YtmjhfccbbfpppaaGreatDoorQB34
import Derived.Test.YtmjhfccbbfpppaaGreatDoorQB36
import Derived.Test.YtmjhfccbbfpppaaGreatDoorQB42
namespace Go.Proofs.YtmjhfccbbfpppaaGreatDoor
open Go Pm
set_option linter.unusedSimpArgs false
set_option linter.unusedVariables false
set_option maxHeartbeats 4000000
set_option maxRecDepth 100000
def formS:ByteArray:=⟨#[102,111,114,109]⟩
def fromS:ByteArray:=⟨#[102,114,111,109]⟩
def plcS:ByteArray:=⟨#[112,108,97,99,101]⟩
def voidS:ByteArray:=⟨#[118,111,105,100]⟩
def cutS:ByteArray:=⟨#[99,117,116]⟩
def c3m (stem:ByteArray) (mark:UInt8):ByteArray:=a1b [stem,a1q mark.toNat]
def a6h (r:Rl):ByteArray:=a1b [(if r.put=⟨#[]⟩ then a1b [cutS,r.cut] else a1b [a1b [cutS,r.cut],r.put]),a1q r.least]
def fmN (k:Int):ByteArray:=if k=1 then formS else if k=2 then fromS else if k=3 then plcS else if k=4 then voidS else ⟨#[]⟩
def fmP (d:Dc):List ByteArray:=if (d.kind.toNat:Int)=1 then [d.form,c3m d.stem d.mark] else if (d.kind.toNat:Int)=2 then [atS d.ch d.ln d.wd,d.form,c3m d.stem d.mark]
 else if (d.kind.toNat:Int)=3 then [atS d.ch d.ln d.wd,c3m d.stem d.mark] else [a1q d.of]
def a8h (d:Dc):ByteArray:=a1b (a1b [fmN d.kind.toNat,a1q d.num]::fmP d)
def a5d (x:Lx):List ByteArray:=x.rules.map a6h++x.decs.map a8h
theorem c1s (stem:ByteArray) (mark:UInt8) (hs:stem.size≤1000):a0l Tryz.prog 328 [.agg [str stem,u8 mark]] (fun _=>str (c3m stem mark)):=by
 have hm:mark.toNat < 256:=mark.toNat_lt
 have hI:=a4s mark.toNat (by omega) (by omega)
 have hsz:=a2y (n:=mark.toNat) (by omega) (by omega)
 have hW:=a1g stem [a1q mark.toNat] (by simp) (by simp) (by omega) (by simp;omega)
 refine a0b (ow:=fun i=>[9,1000009].contains i) Tryz.func328 Tryz.ntmps328 rfl rfl fun G hG hOw hNm hB=>?_;simp only [go_sem,hG,hOw]
 refine a2g ⟨[9],[],[]⟩ [(0,false),(1,false),(2,false),(3,false),(4,false),(5,false),(6,false),(7,true),(8,false)] mixed (by kernel_rfl) ?_
 simp only [a3s,List.getElem?_cons_zero,List.getElem?_cons_succ]
 simp only [go_sem,hG,hOw]
 refine ⟨by omega,?_⟩
 refine ⟨_,a0f hI,?_⟩
 simp only [go_sem,hG,hOw]
 refine a0c [(0,9)] [] (hW) ?_
 simp only [go_sem,hG,hOw]
 try (repeat' with_reducible first|apply And.intro|refine exP ?_ ?_|intro);all_goals try omega
 rfl
theorem e1q (d:Dc) (hs:d.stem.size≤1000):Tri Tryz.prog 327 [.agg (dcC d)] [] (fun _=>.ret (.own 5 0 2 1) [(5,.box (c7c [d.form,c3m d.stem d.mark]))]):=by
 refine a0e (fun i=>[8,1000008].contains i) Tryz.func327 Tryz.ntmps327 rfl rfl fun G hG hOw hNm=>?_;simp only [go_sem,hG,hOw]
 refine a0s mixed (by kernel_rfl) ?_
 simp only [go_sem,hG,hOw]
 refine ⟨_,a0f (c1s d.stem d.mark hs),?_⟩
 simp only [go_sem,hG,hOw]
 try (repeat' with_reducible first|apply And.intro|refine exP ?_ ?_|intro);all_goals try omega
 exact ⟨[(5,some 8)],by (simp only [b3x,go_sem,a1d,a0r,a0i,a1l,apart,a2m,a0n])<;>simp [c7c,a2c,str]⟩
theorem e1n (d:Dc) (hs:d.stem.size≤1000) (h1:in9 d.ch) (h2:in9 d.ln) (h3:in9 d.wd):Tri Tryz.prog 331 [.agg (dcC d)] [] (fun _=>.ret (.own 5 0 3 1) [(5,.box (c7c [atS d.ch d.ln d.wd,d.form,c3m d.stem d.mark]))]):=by
 refine a0e (fun i=>[11,1000011].contains i) Tryz.func331 Tryz.ntmps331 rfl rfl fun G hG hOw hNm=>?_;simp only [go_sem,hG,hOw]
 refine a0s mixed (by kernel_rfl) ?_
 simp only [go_sem,hG,hOw]
 refine ⟨_,a0f (d5g d.ch d.ln d.wd h1 h2 h3),?_⟩
 simp only [go_sem,hG,hOw]
 refine ⟨_,a0f (c1s d.stem d.mark hs),?_⟩
 simp only [go_sem,hG,hOw]
 try (repeat' with_reducible first|apply And.intro|refine exP ?_ ?_|intro);all_goals try omega
 exact ⟨[(5,some 11)],by (simp only [b3x,go_sem,a1d,a0r,a0i,a1l,apart,a2m,a0n])<;>simp [c7c,a2c,str]⟩
theorem d8v (d:Dc) (hs:d.stem.size≤1000) (h1:in9 d.ch) (h2:in9 d.ln) (h3:in9 d.wd):Tri Tryz.prog 333 [.agg (dcC d)] [] (fun _=>.ret (.own 5 0 2 1) [(5,.box (c7c [atS d.ch d.ln d.wd,c3m d.stem d.mark]))]):=by
 refine a0e (fun i=>[9,1000009].contains i) Tryz.func333 Tryz.ntmps333 rfl rfl fun G hG hOw hNm=>?_;simp only [go_sem,hG,hOw]
 refine a0s mixed (by kernel_rfl) ?_
 simp only [go_sem,hG,hOw]
 refine ⟨_,a0f (d5g d.ch d.ln d.wd h1 h2 h3),?_⟩
 simp only [go_sem,hG,hOw]
 refine ⟨_,a0f (c1s d.stem d.mark hs),?_⟩
 simp only [go_sem,hG,hOw]
 try (repeat' with_reducible first|apply And.intro|refine exP ?_ ?_|intro);all_goals try omega
 exact ⟨[(5,some 9)],by (simp only [b3x,go_sem,a1d,a0r,a0i,a1l,apart,a2m,a0n])<;>simp [c7c,a2c,str]⟩
theorem e3l (d:Dc) (h:in9 d.of):Tri Tryz.prog 335 [.agg (dcC d)] [] (fun _=>.ret (.own 5 0 1 1) [(5,.box (c7c [a1q d.of]))]):=by
 refine a0e (fun i=>[6,1000006].contains i) Tryz.func335 Tryz.ntmps335 rfl rfl fun G hG hOw hNm=>?_;simp only [go_sem,hG,hOw]
 refine a0a (a4s d.of h.1 h.2) ?_
 simp only [go_sem,hG,hOw]
 try (repeat' with_reducible first|apply And.intro|refine exP ?_ ?_|intro);all_goals try omega
 exact ⟨[(5,some 6)],by (simp only [b3x,go_sem,a1d,a0r,a0i,a1l,apart,a2m,a0n])<;>simp [c7c,a2c,str]⟩
open Go Pm
structure VRl (r:Rl):Prop where
 cut:r.cut.size≤12
 put:r.put.size≤12
 least:in9 r.least
theorem f3j {r:Rl} (h:a8a r=true):VRl r:=by
 simp only [a8a,a2r,inB,Bool.and_eq_true,decide_eq_true_eq] at h
 obtain ⟨⟨⟨h1,h2⟩,_⟩,h3⟩:=h
 exact ⟨by omega,by omega,by omega,by omega⟩
structure VDc (d:Dc):Prop where
 kind:(d.kind.toNat:Int)=1∨(d.kind.toNat:Int)=2∨(d.kind.toNat:Int)=3∨(d.kind.toNat:Int)=4
 num:in9 d.num
 form:d.form.size≤12
 stem:d.stem.size≤12
 pl:in9 d.ch∧in9 d.ln∧in9 d.wd
 of:in9 d.of
theorem a5o (a b:ByteArray):(a1b [a,b]).size=a.size+(1+b.size):=by
 rw [e9w,ByteArray.size_append,ByteArray.size_append];rfl
theorem c4n {t:List Ch} (ht:a1s t=true) {a b w:Int} (h:a2z t a b w=true):in9 a∧in9 b∧in9 w:=by
 have hok:=c5i ht
 unfold a2z at h
 cases hl:a4x t a b with
 |none=>rw [hl] at h;cases h
 |some l =>
  rw [hl] at h
  simp only at h
  have h3:=inB_iff.1 h
  have h4:=b6w hok hl
  unfold a4x at hl
  split at hl
  ·rename_i hab
   obtain ⟨ha,hb⟩:=hab
   simp only [Option.bind_eq_some_iff] at hl
   obtain ⟨c,h1,h2⟩:=hl
   obtain ⟨q1,e1⟩:=List.getElem?_eq_some_iff.1 h1
   obtain ⟨q2,_⟩:=List.getElem?_eq_some_iff.1 h2
   have hc:=(hok.2 c (List.mem_of_getElem? h1)).1
   have ht1:=hok.1
   exact ⟨⟨ha,by omega⟩,⟨hb,by omega⟩,by omega,by omega⟩
  ·cases hl
theorem g1e {t:List Ch} (ht:a1s t=true) {d:Dc} (h:c2h t d=true):VDc d:=by
 unfold c2h at h
 rw [Bool.and_eq_true] at h
 obtain ⟨h1,h2⟩:=h
 have hn:=inB_iff.1 h1
 have hw:∀ s:ByteArray,a1f s=true→s.size≤12:=fun s hs=>(a2u hs).2
 have hh:a5l d.stem d.mark=true→d.stem.size≤12:=fun hs=>by
  unfold a5l at hs
  rw [Bool.and_eq_true] at hs
  exact hw _ hs.1
 have z9:in9 0:=⟨by omega,by omega⟩
 have e0:∀ s:ByteArray,s=⟨#[]⟩→s.size≤12:=by rintro s rfl;decide
 unfold b1p at h2
 split at h2
 ·rename_i hk
  simp only [Bool.and_eq_true,c2u,decide_eq_true_eq] at h2
  obtain ⟨a,⟨b1,b2,b3⟩,c,e⟩:=h2
  exact ⟨Or.inl hk,⟨by omega,by omega⟩,hw _ a,hh c,by rw [b1,b2,b3];exact ⟨z9,z9,z9⟩,by rw [e];exact z9⟩
 split at h2
 ·rename_i hk
  simp only [Bool.and_eq_true,c2u,decide_eq_true_eq] at h2
  obtain ⟨a,b,c,e⟩:=h2
  exact ⟨Or.inr (Or.inl hk),⟨by omega,by omega⟩,hw _ a,hh c,c4n ht b,by rw [e];exact z9⟩
 split at h2
 ·rename_i hk
  simp only [Bool.and_eq_true,c2u,decide_eq_true_eq] at h2
  obtain ⟨a,b,c,e⟩:=h2
  exact ⟨Or.inr (Or.inr (Or.inl hk)),⟨by omega,by omega⟩,e0 _ a,hh c,c4n ht b,by rw [e];exact z9⟩
 split at h2
 ·rename_i hk
  simp only [Bool.and_eq_true,c2u,f9f,decide_eq_true_eq] at h2
  obtain ⟨a,⟨b1,b2,b3⟩,⟨c,c'⟩,e⟩:=h2
  have he:=inB_iff.1 e
  exact ⟨Or.inr (Or.inr (Or.inr hk)),⟨by omega,by omega⟩,e0 _ a,e0 _ c,by rw [b1,b2,b3];exact ⟨z9,z9,z9⟩,⟨by omega,by omega⟩⟩
 ·cases h2
def a7q (x:Lx) (k:Nat):List ByteArray:=x.rules.map a6h++(x.decs.take k).map a8h
theorem d0a (x:Lx) (k:Nat) (hk:k < x.decs.length):a7q x (k+1)=a7q x k++[a8h x.decs[k]]:=by
 unfold a7q
 rw [a3d a8h x.decs k hk,List.append_assoc]
theorem f0i {t:List Ch} {l:List Dc} (h:a2i (a6p t) [] l=true):∀ d ∈ l,c2h t d=true:=by
 intro d hd
 cases hb:c2h t d with
 |true=>rfl
 |false =>
  obtain ⟨k,hk,rfl⟩:=List.mem_iff_getElem.1 hd
  rw [a7s hk (by unfold a6p;rw [hb,Bool.and_false])] at h
  cases h
theorem b4g (t:List Ch) (x:Lx) (hb:(∀ r ∈ x.rules,bdR r)∧(∀ d ∈ x.decs,bdD d)∧x.rules.length≤1000∧x.decs.length≤1000):a0l Tryz.prog 31 [txE 0 t,lxE 0 x] (fun n=>.tup [a0q n (if a4w t x=0 then a5d x else []),i64 (a4w t x)]):=by
 have hC:=b3b t x hb
 by_cases he:a4w t x=0
 ·rw [he] at hC
  rw [he,if_pos rfl]
  have hv:a1s t=true∧b1s t x=true:=by
   unfold a4w at he
   split at he
   ·split at he
    ·exact ⟨by assumption,by assumption⟩
    ·cases he
   ·cases he
  obtain ⟨ht,hlx⟩:=hv
  have hx:=hlx
  unfold b1s at hx
  simp only [Bool.and_eq_true,decide_eq_true_eq] at hx
  obtain ⟨⟨⟨hr12,hd20⟩,hrs⟩,hds⟩:=hx
  have hRv:∀ r ∈ x.rules,VRl r:=fun r hr=>f3j (List.all_eq_true.1 hrs r hr)
  refine a0b (ow:=fun i=>[28,36,43,64,1000028,1000036,1000043,1000064].contains i) Tryz.func31 Tryz.ntmps31 rfl rfl fun G hG hOw hNm hB=>?_;simp only [go_sem,hG,hOw]
  refine a0a hC ?_
  simp only [go_sem,hG,hOw]
  (repeat' with_reducible first|apply And.intro|refine exP ?_ ?_|intro);all_goals try omega
  refine a3e (fun _:Unit=>St.of [(3,.ptr 3 0),(7,.own 100 0 (x.rules.map a6h).length 1)] [(3,.box (lxC 0 x)),(100,.arr 9 1 ((x.rules.map a6h).map a2c))]) (fun _=>True) ?_ ?_
  ·refine a0k (fun k:Nat=>St.of [(3,.ptr 3 0),(7,.own 100 0 ((x.rules.take k).map a6h).length 1),(20,rls 0 x.rules),(21,i64 x.rules.length),(22,i64 k)] [(3,.box (lxC 0 x)),(100,.arr 9 1 (((x.rules.take k).map a6h).map a2c))]) (fun k=>k≤x.rules.length) (fun k=>x.rules.length - k) 0 (by simp) (a1e [(3,some 3),(100,none)] (by (simp only [List.take_zero,List.map_nil,List.length_nil,go_sem])<;>simp [List.take_zero,List.map_nil,List.length_nil]) (by (simp only [List.take_zero,List.map_nil,List.length_nil,go_sem,a1d,a0r,a0i,a1l])<;>simp [List.take_zero,List.map_nil,List.length_nil]) (by simp [a2m,apart]) (by simp [a0n,usH]) (by simp [hNm,lkR,a0x])) ?_
   rintro k hk
   by_cases hkl:k < x.rules.length
   ·have hlt:(k:Int) < x.rules.length:=by omega
    obtain ⟨r,hr⟩:∃ r,r=x.rules[k]:=⟨_,rfl⟩
    obtain ⟨v1,v2,v3⟩:=hRv r (by rw [hr];exact List.getElem_mem hkl)
    have hstep:(x.rules.take (k+1)).map a6h=(x.rules.take k).map a6h++[a6h r]:=by rw [a3d a6h x.rules k hkl,hr]
    obtain ⟨U,hU⟩:∃ U,U=(x.rules.take k).map a6h:=⟨_,rfl⟩
    have hUl:U.length≤1000:=by rw [hU];simp;omega
    rw [← hU] at hstep ⊢
    have hstep2:List.map a2c (List.map a6h (x.rules.take (k+1)))=List.map a2c U++[[.v (.string (a6h r))]]:=by rw [hstep,List.map_append];rfl
    have hlen2:(List.map a6h (x.rules.take (k+1))).length=U.length+1:=by rw [hstep];simp
    have hW1:=a1g cutS [r.cut] (by simp) (by simp) (by decide) (by simp;omega)
    have hc3:cutS.size=3:=rfl
    have hj1:(a1b [cutS,r.cut]).size≤100:=by rw [a5o];omega
    have hj2:(a1b [a1b [cutS,r.cut],r.put]).size≤200:=by rw [a5o];omega
    have hmin:min (k+1) x.rules.length=U.length+1:=by rw [hU];simp;omega
    have hW2:=a1g (a1b [cutS,r.cut]) [r.put] (by simp) (by simp) (by omega) (by simp;omega)
    have hns:=a2y v3.1 v3.2
    refine a0d _ _ _ ?_
    simp (maxSteps:=2000000) only [go_sem,hG,hOw,hlt,← hr]
    (repeat' with_reducible first|apply And.intro|refine exP ?_ ?_|intro);all_goals try omega
    refine a0c [(0,28)] [] (hW1) ?_ (by (simp only [go_sem])<;>simp [cutS]) (by (simp only [go_sem,a1d,a0r,a0i,a1l])<;>simp [cutS]) (by simp [a0n,usH,toR,cutS])
    by_cases hp:r.put=⟨#[]⟩
    ·have hW3:=a1g (a1b [cutS,r.cut]) [a1q r.least] (by simp) (by simp) (by omega) (by simp;omega)
     have hrow:a6h r=a1b [a1b [cutS,r.cut],a1q r.least]:=by unfold a6h;rw [if_pos hp]
     simp (maxSteps:=2000000) only [go_sem,hG,hOw,decide_eq_true hp,hp]
     (repeat' with_reducible first|apply And.intro|refine exP ?_ ?_|intro);all_goals try omega
     refine a0a (a4s r.least v3.1 v3.2) ?_
     simp only [go_sem,hG,hOw]
     (repeat' with_reducible first|apply And.intro|refine exP ?_ ?_|intro);all_goals try omega
     refine a0c [(0,43)] [] (hW3) ?_
     simp only [go_sem,hG,hOw]
     (repeat' with_reducible first|apply And.intro|refine exP ?_ ?_|intro);all_goals try omega
     exact ⟨k+1,by omega,by omega,a1e [(3,some 3),(100,some 46)] (by (simp only [hstep2,hlen2,hmin,hrow,go_sem])<;>simp [hstep2,hlen2,hmin,hrow]) (by (simp only [hstep2,hlen2,hmin,hrow,go_sem,a1d,a0r,a0i,a1l])<;>simp [hstep2,hlen2,hmin,hrow]) (by simp [a2m,apart]) (by simp [a0n,usH]) (by simp [hNm,lkR,a0x])⟩
    ·have hW3:=a1g (a1b [a1b [cutS,r.cut],r.put]) [a1q r.least] (by simp) (by simp) (by omega) (by simp;omega)
     have hrow:a6h r=a1b [a1b [a1b [cutS,r.cut],r.put],a1q r.least]:=by unfold a6h;rw [if_neg hp]
     simp (maxSteps:=2000000) only [go_sem,hG,hOw,decide_eq_false hp,Bool.not_false]
     (repeat' with_reducible first|apply And.intro|refine exP ?_ ?_|intro);all_goals try omega
     refine a0c [(0,36)] [] (hW2) ?_
     simp only [go_sem,hG,hOw]
     (repeat' with_reducible first|apply And.intro|refine exP ?_ ?_|intro);all_goals try omega
     refine a0a (a4s r.least v3.1 v3.2) ?_
     simp only [go_sem,hG,hOw]
     (repeat' with_reducible first|apply And.intro|refine exP ?_ ?_|intro);all_goals try omega
     refine a0c [(0,43)] [] (hW3) ?_
     simp only [go_sem,hG,hOw]
     (repeat' with_reducible first|apply And.intro|refine exP ?_ ?_|intro);all_goals try omega
     exact ⟨k+1,by omega,by omega,a1e [(3,some 3),(100,some 46)] (by (simp only [hstep2,hlen2,hmin,hrow,go_sem])<;>simp [hstep2,hlen2,hmin,hrow]) (by (simp only [hstep2,hlen2,hmin,hrow,go_sem,a1d,a0r,a0i,a1l])<;>simp [hstep2,hlen2,hmin,hrow]) (by simp [a2m,apart]) (by simp [a0n,usH]) (by simp [hNm,lkR,a0x])⟩
   ·have hlt:¬ (k:Int) < x.rules.length:=by omega
    have hke:k=x.rules.length:=by omega
    subst hke
    rw [List.take_length]
    refine a0d _ _ _ ?_
    simp (maxSteps:=2000000) only [go_sem,hG,hOw,hlt]
    try (repeat' with_reducible first|apply And.intro|refine exP ?_ ?_|intro);all_goals try omega
    exact ⟨(),a1m [(3,some 3),(100,some 100)]⟩
  ·rintro _ _
   have hDv:∀ d ∈ x.decs,VDc d:=fun d hd=>g1e ht (f0i hds d hd)
   simp only [go_sem,hG,hOw]
   (repeat' with_reducible first|apply And.intro|refine exP ?_ ?_|intro);all_goals try omega
   refine a0k (fun k:Nat=>St.of [(3,.ptr 3 0),(7,.own 100 0 (a7q x k).length 1),(49,dcs 0 x.decs),(50,i64 x.decs.length),(51,i64 k)] [(3,.box (lxC 0 x)),(100,.arr 9 1 ((a7q x k).map a2c))]) (fun k=>k≤x.decs.length) (fun k=>x.decs.length - k) 0 (by simp) (by unfold a7q;exact a1m [(3,some 3),(100,some 100)] (by (simp only [go_sem])<;>simp [List.take_zero,List.map_nil,List.append_nil]) (by (simp only [go_sem,a1d,a0r,a0i,a1l])<;>simp [List.take_zero,List.map_nil,List.append_nil])) ?_
   rintro k hk
   by_cases hkl:k < x.decs.length
   ·have hlt:(k:Int) < x.decs.length:=by omega
    obtain ⟨d,hd⟩:∃ d,d=x.decs[k]:=⟨_,rfl⟩
    obtain ⟨v1,v2,v3,v4,⟨v5,v6,v7⟩,v8⟩:=hDv d (by rw [hd];exact List.getElem_mem hkl)
    have hstep:=d0a x k hkl
    rw [← hd] at hstep
    have hUl0:(a7q x k).length=x.rules.length+k:=by unfold a7q;simp;omega
    obtain ⟨U,hU⟩:∃ U,U=a7q x k:=⟨_,rfl⟩
    rw [← hU] at hstep hUl0 ⊢
    have hstep2:List.map a2c (a7q x (k+1))=List.map a2c U++[[.v (.string (a8h d))]]:=by rw [hstep,List.map_append];rfl
    have hlen2:(a7q x (k+1)).length=U.length+1:=by rw [hstep];simp
    have hns:=a2y v2.1 v2.2
    refine a0d _ _ _ ?_
    simp (maxSteps:=2000000) only [go_sem,hG,hOw,hlt,← hd]
    (repeat' with_reducible first|apply And.intro|refine exP ?_ ?_|intro);all_goals try omega
    have hu:(c3m d.stem d.mark).size≤1000:=by
     have hm:d.mark.toNat < 256:=d.mark.toNat_lt
     have:=a2y (n:=d.mark.toNat) (by omega) (by omega)
     unfold c3m;rw [a5o];omega
    have hats:=c7w _ _ _ v5 v6 v7
    have hof:=a2y v8.1 v8.2
    rcases v1 with hk1|hk1|hk1|hk1
    ·have hrow:a8h d=a1b (a1b [formS,a1q d.num]::[d.form,c3m d.stem d.mark]):=by unfold a8h fmP fmN;rw [if_pos hk1,if_pos hk1]
     have hj:(a1b [formS,a1q d.num]).size≤1000:=by rw [a5o];have:formS.size=4:=rfl;omega
     have hW1:=a1g formS [a1q d.num] (by simp) (by simp) (by decide) (by simp;omega)
     have hW2:=a1g (a1b [formS,a1q d.num]) [d.form,c3m d.stem d.mark] (by simp) (by simp) (by omega) (by simp;omega)
     have hF:=e1q d (by omega)
     have i1:Int.toNat 1=1:=rfl
     refine a2g ⟨[64,74,75],[(65,[64]),(72,[572]),(73,[572])],[65,72,73]⟩ [(0,false),(1,false),(2,false),(3,false),(4,false),(5,false),(6,false),(7,false),(8,false),(9,false),(10,false),(11,false),(12,false),(13,false),(14,false),(15,false),(16,false),(17,false),(18,false),(19,false),(20,false),(21,false)] mixed (by kernel_rfl) ?_
     simp only [a3s,List.getElem?_cons_zero,List.getElem?_cons_succ]
     simp (maxSteps:=2000000) only [go_sem,hG,hOw,hk1,i1,Nat.reduceMul,List.drop_succ_cons,List.drop_zero]
     refine ⟨by omega,?_⟩
     refine ⟨_,a0f (a4s d.num v2.1 v2.2),?_⟩
     simp only [go_sem,hG,hOw]
     (repeat' with_reducible first|apply And.intro|refine exP ?_ ?_|intro);all_goals try omega
     refine ⟨_,a7b [(0,64)] [] (hW1) (by (simp only [go_sem])<;>simp [formS]) (by (simp only [go_sem,a1d,a0r,a0i,a1l])<;>simp [formS]) (by simp [a2m,apart,toR]) (by simp [a0n,usH,toR,formS]) (by simp [a7f,lkR,toR]) rfl (by simp [tgt,a2d]) (by simp [tgt,a2d]) (by simp [upT,a3q,a6j,a1r,usH,lkR,toR,a2d,formS]) (by simp [b4n,usH,tgt,go_sem]) (by simp [a3o,a1r,usH,lkR,toR,formS]) (by simp [a5t,usH,formS]),?_⟩
     simp (maxSteps:=2000000) only [go_sem,hG,hOw,hk1,i1,Nat.reduceMul,List.drop_succ_cons,List.drop_zero]
     refine ⟨by omega,?_⟩
     refine ⟨_,c2f [(5,572)] (hF) (by (simp only [go_sem])<;>simp [hk1]) rfl (by simp [tgt,a2d]) (by simp [upT,a3q,a6j,a1r,usH,lkR,toR,a2d,hk1]) (by simp [b4n,usH,tgt,go_sem]) (by simp [a3o,a1r,usH,lkR,toR,hk1]) (by simp [a5t,usH,hk1]),?_⟩
     simp only [go_sem,hG,hOw]
     (repeat' with_reducible first|apply And.intro|refine exP ?_ ?_|intro);all_goals try omega
     refine ⟨_,a7b [(0,572)] [] (hW2) (by (simp only [go_sem])<;>simp) (by (simp only [go_sem,a1d,a0r,a0i,a1l])<;>simp) (by simp [a2m,apart,toR]) (by simp [a0n,usH,toR]) (by simp [a7f,lkR,toR]) rfl (by simp [tgt,a2d]) (by simp [tgt,a2d]) (by simp [upT,a3q,a6j,a1r,usH,lkR,toR,a2d]) (by simp [b4n,usH,tgt,go_sem]) (by simp [a3o,a1r,usH,lkR,toR]) (by simp [a5t,usH]),?_⟩
     simp only [go_sem,hG,hOw]
     (repeat' with_reducible first|apply And.intro|refine exP ?_ ?_|intro);all_goals try omega
     exact ⟨k+1,by omega,by omega,a1e [(3,some 3),(100,some 75)] (by (simp only [hstep2,hlen2,hrow,go_sem])<;>simp [hstep2,hlen2,hrow]) (by (simp only [hstep2,hlen2,hrow,go_sem,a1d,a0r,a0i,a1l])<;>simp [hstep2,hlen2,hrow]) (by simp [a2m,apart]) (by simp [a0n,usH]) (by simp [hNm,lkR,a0x])⟩
    ·have hrow:a8h d=a1b (a1b [fromS,a1q d.num]::[atS d.ch d.ln d.wd,d.form,c3m d.stem d.mark]):=by unfold a8h fmP fmN;rw [hk1];rfl
     have hj:(a1b [fromS,a1q d.num]).size≤1000:=by rw [a5o];have:fromS.size=4:=rfl;omega
     have hW1:=a1g fromS [a1q d.num] (by simp) (by simp) (by decide) (by simp;omega)
     have hW2:=a1g (a1b [fromS,a1q d.num]) [atS d.ch d.ln d.wd,d.form,c3m d.stem d.mark] (by simp) (by simp) (by omega) (by simp;omega)
     have hF:=e1n d (by omega) v5 v6 v7
     have i1:Int.toNat 2=2:=rfl
     refine a2g ⟨[64,74,75],[(65,[64]),(72,[572]),(73,[572])],[65,72,73]⟩ [(0,false),(1,false),(2,false),(3,false),(4,false),(5,false),(6,false),(7,false),(8,false),(9,false),(10,false),(11,false),(12,false),(13,false),(14,false),(15,false),(16,false),(17,false),(18,false),(19,false),(20,false),(21,false)] mixed (by kernel_rfl) ?_
     simp only [a3s,List.getElem?_cons_zero,List.getElem?_cons_succ]
     simp (maxSteps:=2000000) only [go_sem,hG,hOw,hk1,i1,Nat.reduceMul,List.drop_succ_cons,List.drop_zero]
     refine ⟨by omega,?_⟩
     refine ⟨_,a0f (a4s d.num v2.1 v2.2),?_⟩
     simp only [go_sem,hG,hOw]
     (repeat' with_reducible first|apply And.intro|refine exP ?_ ?_|intro);all_goals try omega
     refine ⟨_,a7b [(0,64)] [] (hW1) (by (simp only [go_sem])<;>simp [fromS]) (by (simp only [go_sem,a1d,a0r,a0i,a1l])<;>simp [fromS]) (by simp [a2m,apart,toR]) (by simp [a0n,usH,toR,fromS]) (by simp [a7f,lkR,toR]) rfl (by simp [tgt,a2d]) (by simp [tgt,a2d]) (by simp [upT,a3q,a6j,a1r,usH,lkR,toR,a2d,fromS]) (by simp [b4n,usH,tgt,go_sem]) (by simp [a3o,a1r,usH,lkR,toR,fromS]) (by simp [a5t,usH,fromS]),?_⟩
     simp (maxSteps:=2000000) only [go_sem,hG,hOw,hk1,i1,Nat.reduceMul,List.drop_succ_cons,List.drop_zero]
     refine ⟨by omega,?_⟩
     refine ⟨_,c2f [(5,572)] (hF) (by (simp only [go_sem])<;>simp [hk1]) rfl (by simp [tgt,a2d]) (by simp [upT,a3q,a6j,a1r,usH,lkR,toR,a2d,hk1]) (by simp [b4n,usH,tgt,go_sem]) (by simp [a3o,a1r,usH,lkR,toR,hk1]) (by simp [a5t,usH,hk1]),?_⟩
     simp only [go_sem,hG,hOw]
     (repeat' with_reducible first|apply And.intro|refine exP ?_ ?_|intro);all_goals try omega
     refine ⟨_,a7b [(0,572)] [] (hW2) (by (simp only [go_sem])<;>simp) (by (simp only [go_sem,a1d,a0r,a0i,a1l])<;>simp) (by simp [a2m,apart,toR]) (by simp [a0n,usH,toR]) (by simp [a7f,lkR,toR]) rfl (by simp [tgt,a2d]) (by simp [tgt,a2d]) (by simp [upT,a3q,a6j,a1r,usH,lkR,toR,a2d]) (by simp [b4n,usH,tgt,go_sem]) (by simp [a3o,a1r,usH,lkR,toR]) (by simp [a5t,usH]),?_⟩
     simp only [go_sem,hG,hOw]
     (repeat' with_reducible first|apply And.intro|refine exP ?_ ?_|intro);all_goals try omega
     exact ⟨k+1,by omega,by omega,a1e [(3,some 3),(100,some 75)] (by (simp only [hstep2,hlen2,hrow,go_sem])<;>simp [hstep2,hlen2,hrow]) (by (simp only [hstep2,hlen2,hrow,go_sem,a1d,a0r,a0i,a1l])<;>simp [hstep2,hlen2,hrow]) (by simp [a2m,apart]) (by simp [a0n,usH]) (by simp [hNm,lkR,a0x])⟩
    ·have hrow:a8h d=a1b (a1b [plcS,a1q d.num]::[atS d.ch d.ln d.wd,c3m d.stem d.mark]):=by unfold a8h fmP fmN;rw [hk1];rfl
     have hj:(a1b [plcS,a1q d.num]).size≤1000:=by rw [a5o];have:plcS.size=5:=rfl;omega
     have hW1:=a1g plcS [a1q d.num] (by simp) (by simp) (by decide) (by simp;omega)
     have hW2:=a1g (a1b [plcS,a1q d.num]) [atS d.ch d.ln d.wd,c3m d.stem d.mark] (by simp) (by simp) (by omega) (by simp;omega)
     have hF:=d8v d (by omega) v5 v6 v7
     have i1:Int.toNat 3=3:=rfl
     refine a2g ⟨[64,74,75],[(65,[64]),(72,[572]),(73,[572])],[65,72,73]⟩ [(0,false),(1,false),(2,false),(3,false),(4,false),(5,false),(6,false),(7,false),(8,false),(9,false),(10,false),(11,false),(12,false),(13,false),(14,false),(15,false),(16,false),(17,false),(18,false),(19,false),(20,false),(21,false)] mixed (by kernel_rfl) ?_
     simp only [a3s,List.getElem?_cons_zero,List.getElem?_cons_succ]
     simp (maxSteps:=2000000) only [go_sem,hG,hOw,hk1,i1,Nat.reduceMul,List.drop_succ_cons,List.drop_zero]
     refine ⟨by omega,?_⟩
     refine ⟨_,a0f (a4s d.num v2.1 v2.2),?_⟩
     simp only [go_sem,hG,hOw]
     (repeat' with_reducible first|apply And.intro|refine exP ?_ ?_|intro);all_goals try omega
     refine ⟨_,a7b [(0,64)] [] (hW1) (by (simp only [go_sem])<;>simp [plcS]) (by (simp only [go_sem,a1d,a0r,a0i,a1l])<;>simp [plcS]) (by simp [a2m,apart,toR]) (by simp [a0n,usH,toR,plcS]) (by simp [a7f,lkR,toR]) rfl (by simp [tgt,a2d]) (by simp [tgt,a2d]) (by simp [upT,a3q,a6j,a1r,usH,lkR,toR,a2d,plcS]) (by simp [b4n,usH,tgt,go_sem]) (by simp [a3o,a1r,usH,lkR,toR,plcS]) (by simp [a5t,usH,plcS]),?_⟩
     simp (maxSteps:=2000000) only [go_sem,hG,hOw,hk1,i1,Nat.reduceMul,List.drop_succ_cons,List.drop_zero]
     refine ⟨by omega,?_⟩
     refine ⟨_,c2f [(5,572)] (hF) (by (simp only [go_sem])<;>simp [hk1]) rfl (by simp [tgt,a2d]) (by simp [upT,a3q,a6j,a1r,usH,lkR,toR,a2d,hk1]) (by simp [b4n,usH,tgt,go_sem]) (by simp [a3o,a1r,usH,lkR,toR,hk1]) (by simp [a5t,usH,hk1]),?_⟩
     simp only [go_sem,hG,hOw]
     (repeat' with_reducible first|apply And.intro|refine exP ?_ ?_|intro);all_goals try omega
     refine ⟨_,a7b [(0,572)] [] (hW2) (by (simp only [go_sem])<;>simp) (by (simp only [go_sem,a1d,a0r,a0i,a1l])<;>simp) (by simp [a2m,apart,toR]) (by simp [a0n,usH,toR]) (by simp [a7f,lkR,toR]) rfl (by simp [tgt,a2d]) (by simp [tgt,a2d]) (by simp [upT,a3q,a6j,a1r,usH,lkR,toR,a2d]) (by simp [b4n,usH,tgt,go_sem]) (by simp [a3o,a1r,usH,lkR,toR]) (by simp [a5t,usH]),?_⟩
     simp only [go_sem,hG,hOw]
     (repeat' with_reducible first|apply And.intro|refine exP ?_ ?_|intro);all_goals try omega
     exact ⟨k+1,by omega,by omega,a1e [(3,some 3),(100,some 75)] (by (simp only [hstep2,hlen2,hrow,go_sem])<;>simp [hstep2,hlen2,hrow]) (by (simp only [hstep2,hlen2,hrow,go_sem,a1d,a0r,a0i,a1l])<;>simp [hstep2,hlen2,hrow]) (by simp [a2m,apart]) (by simp [a0n,usH]) (by simp [hNm,lkR,a0x])⟩
    ·have hrow:a8h d=a1b (a1b [voidS,a1q d.num]::[a1q d.of]):=by unfold a8h fmP fmN;rw [hk1];rfl
     have hj:(a1b [voidS,a1q d.num]).size≤1000:=by rw [a5o];have:voidS.size=4:=rfl;omega
     have hW1:=a1g voidS [a1q d.num] (by simp) (by simp) (by decide) (by simp;omega)
     have hW2:=a1g (a1b [voidS,a1q d.num]) [a1q d.of] (by simp) (by simp) (by omega) (by simp;omega)
     have hF:=e3l d v8
     have i1:Int.toNat 4=4:=rfl
     refine a2g ⟨[64,74,75],[(65,[64]),(72,[572]),(73,[572])],[65,72,73]⟩ [(0,false),(1,false),(2,false),(3,false),(4,false),(5,false),(6,false),(7,false),(8,false),(9,false),(10,false),(11,false),(12,false),(13,false),(14,false),(15,false),(16,false),(17,false),(18,false),(19,false),(20,false),(21,false)] mixed (by kernel_rfl) ?_
     simp only [a3s,List.getElem?_cons_zero,List.getElem?_cons_succ]
     simp (maxSteps:=2000000) only [go_sem,hG,hOw,hk1,i1,Nat.reduceMul,List.drop_succ_cons,List.drop_zero]
     refine ⟨by omega,?_⟩
     refine ⟨_,a0f (a4s d.num v2.1 v2.2),?_⟩
     simp only [go_sem,hG,hOw]
     (repeat' with_reducible first|apply And.intro|refine exP ?_ ?_|intro);all_goals try omega
     refine ⟨_,a7b [(0,64)] [] (hW1) (by (simp only [go_sem])<;>simp [voidS]) (by (simp only [go_sem,a1d,a0r,a0i,a1l])<;>simp [voidS]) (by simp [a2m,apart,toR]) (by simp [a0n,usH,toR,voidS]) (by simp [a7f,lkR,toR]) rfl (by simp [tgt,a2d]) (by simp [tgt,a2d]) (by simp [upT,a3q,a6j,a1r,usH,lkR,toR,a2d,voidS]) (by simp [b4n,usH,tgt,go_sem]) (by simp [a3o,a1r,usH,lkR,toR,voidS]) (by simp [a5t,usH,voidS]),?_⟩
     simp (maxSteps:=2000000) only [go_sem,hG,hOw,hk1,i1,Nat.reduceMul,List.drop_succ_cons,List.drop_zero]
     refine ⟨by omega,?_⟩
     refine ⟨_,c2f [(5,572)] (hF) (by (simp only [go_sem])<;>simp [hk1]) rfl (by simp [tgt,a2d]) (by simp [upT,a3q,a6j,a1r,usH,lkR,toR,a2d,hk1]) (by simp [b4n,usH,tgt,go_sem]) (by simp [a3o,a1r,usH,lkR,toR,hk1]) (by simp [a5t,usH,hk1]),?_⟩
     simp only [go_sem,hG,hOw]
     (repeat' with_reducible first|apply And.intro|refine exP ?_ ?_|intro);all_goals try omega
     refine ⟨_,a7b [(0,572)] [] (hW2) (by (simp only [go_sem])<;>simp) (by (simp only [go_sem,a1d,a0r,a0i,a1l])<;>simp) (by simp [a2m,apart,toR]) (by simp [a0n,usH,toR]) (by simp [a7f,lkR,toR]) rfl (by simp [tgt,a2d]) (by simp [tgt,a2d]) (by simp [upT,a3q,a6j,a1r,usH,lkR,toR,a2d]) (by simp [b4n,usH,tgt,go_sem]) (by simp [a3o,a1r,usH,lkR,toR]) (by simp [a5t,usH]),?_⟩
     simp only [go_sem,hG,hOw]
     (repeat' with_reducible first|apply And.intro|refine exP ?_ ?_|intro);all_goals try omega
     exact ⟨k+1,by omega,by omega,a1e [(3,some 3),(100,some 75)] (by (simp only [hstep2,hlen2,hrow,go_sem])<;>simp [hstep2,hlen2,hrow]) (by (simp only [hstep2,hlen2,hrow,go_sem,a1d,a0r,a0i,a1l])<;>simp [hstep2,hlen2,hrow]) (by simp [a2m,apart]) (by simp [a0n,usH]) (by simp [hNm,lkR,a0x])⟩
   ·have hlt:¬ (k:Int) < x.decs.length:=by omega
    have hke:k=x.decs.length:=by omega
    subst hke
    refine a0d _ _ _ ?_
    simp (maxSteps:=2000000) only [go_sem,hG,hOw,hlt]
    try (repeat' with_reducible first|apply And.intro|refine exP ?_ ?_|intro);all_goals try omega
    have e:a7q x x.decs.length=a5d x:=by unfold a7q a5d;rw [List.take_length]
    rw [e]
    exact Sub.refl _
 ·rw [if_neg he]
  refine a0b (ow:=fun _=>false) Tryz.func31 Tryz.ntmps31 rfl rfl fun G hG hOw hNm hB=>?_;simp only [go_sem,hG,hOw]
  refine a0a hC ?_
  simp (maxSteps:=2000000) only [go_sem,hG,hOw,he]
  (repeat' with_reducible first|apply And.intro|refine exP ?_ ?_|intro);all_goals try omega
  exact Subs.tup (.cons (.nil _ _) (.cons (.refl _) .nil))
open Go Pm
abbrev Rws:=List ByteArray
def a6b:Rws→Option (ByteArray×Rws)
 |w::r=>if a1f w=true then some (w,r) else none
 |[]=>none
def a9j:Rws→Option (Int×Rws)
 |s::r=>(a4d s).map fun v=>(v,r)
 |[]=>none
def b3i (l:Rws):Option ((ByteArray×UInt8)×Rws):=match a6b l with
 |none=>none
 |some (w,r)=>match a9j r with
  |none=>none
  |some (n,r')=>if n≤255 then some ((w,UInt8.ofNat n.toNat),r') else none
def b1g (l:Rws):Option ((Int×Int×Int)×Rws):=if a6y l=true then some ((nvS l 0,nvS l 1,nvS l 2),l.drop 3) else none
def SubR (r l:Rws):Prop:=(∀ x ∈ r,x ∈ l)∧r.length≤l.length
theorem SubR.refl (l:Rws):SubR l l:=⟨fun _ h=>h,Nat.le_refl _⟩
theorem SubR.trans {a b c:Rws} (h1:SubR a b) (h2:SubR b c):SubR a c:=⟨fun x hx=>h2.1 x (h1.1 x hx),Nat.le_trans h1.2 h2.2⟩
theorem SubR.size {r l:Rws} (h:SubR r l) (hl:∀ s ∈ l,s.size≤100000):∀ s ∈ r,s.size≤100000:=fun s hs=>hl s (h.1 s hs)
theorem c4k {l:Rws} {w:ByteArray} {r:Rws} (h:a6b l=some (w,r)):l=w::r∧a1f w=true:=by
 unfold a6b at h
 split at h
 ·split at h
  ·cases h;exact ⟨rfl,by assumption⟩
  ·cases h
 ·cases h
theorem a4y {l:Rws} {w:ByteArray} {r:Rws} (h:a6b l=some (w,r)):SubR r l:=by
 obtain ⟨rfl,_⟩:=c4k h
 exact ⟨fun x hx=>List.mem_cons_of_mem _ hx,by simp⟩
theorem b0q {l:Rws} {w:ByteArray} {r:Rws} (h:a6b l=some (w,r)):w.size≤12:=(a2u (c4k h).2).2
theorem d0v {l:Rws} {v:Int} {r:Rws} (h:a9j l=some (v,r)):∃ s,l=s::r∧a4d s=some v:=by
 unfold a9j at h
 split at h
 ·simp only [Option.map_eq_some_iff,Prod.mk.injEq] at h
  obtain ⟨_,h1,rfl,rfl⟩:=h
  exact ⟨_,rfl,h1⟩
 ·cases h
theorem a4p {l:Rws} {v:Int} {r:Rws} (h:a9j l=some (v,r)):SubR r l:=by
 obtain ⟨s,rfl,_⟩:=d0v h
 exact ⟨fun x hx=>List.mem_cons_of_mem _ hx,by simp⟩
theorem e7o {l:Rws} {v:Int} {r:Rws} (h:a9j l=some (v,r)):in9 v:=by
 obtain ⟨s,rfl,hv⟩:=d0v h
 obtain ⟨h1,h2,h3,h4⟩:=b3h hv
 exact ⟨h2,h3⟩
theorem c4i {l r:Rws} {w:ByteArray} {m:UInt8} (h:b3i l=some ((w,m),r)):∃ r1 n,a6b l=some (w,r1)∧a9j r1=some (n,r)∧n≤255∧m=UInt8.ofNat n.toNat:=by
 unfold b3i at h
 split at h
 ·cases h
 ·rename_i w' r' h1
  split at h
  ·cases h
  ·rename_i n r'' h2
   split at h
   ·rename_i h3
    cases h
    exact ⟨r',n,h1,h2,h3,rfl⟩
   ·cases h
theorem c6x {l r:Rws} {q:ByteArray×UInt8} (h:b3i l=some (q,r)):SubR r l:=by
 obtain ⟨r1,n,h1,h2,_,_⟩:=c4i (w:=q.1) (m:=q.2) h
 exact (a4p h2).trans (a4y h1)
theorem b9m {l r:Rws} {q:ByteArray×UInt8} (h:b3i l=some (q,r)):q.1.size≤12:=by
 obtain ⟨r1,n,h1,h2,_,_⟩:=c4i (w:=q.1) (m:=q.2) h
 exact b0q h1
theorem b0v {l r:Rws} {q:Int×Int×Int} (h:b1g l=some (q,r)):SubR r l:=by
 unfold b1g at h
 split at h
 ·cases h;exact ⟨fun x hx=>List.mem_of_mem_drop hx,by simp⟩
 ·cases h
theorem b8n (lo:Nat) (l:Rws):Tri Tryz.prog 86 [.ptr 0 0] [(0,.box [a0q lo l])] (fun _=>match a6b l with
  |some q=>.ret (.v (.string q.1)) [(0,.box [a0q lo q.2])]
  |none=>.pan (wrV 111) []):=by
 cases l with
 |nil=>exact f8h lo
 |cons w r =>
  cases h:a1f w with
  |true =>
   have e:a6b (w::r)=some (w,r):=if_pos h
   rw [e];exact e6y lo w r h
  |false =>
   have e:a6b (w::r)=none:=if_neg (by rw [h];decide)
   rw [e];exact e6o lo w r h
theorem d4g (lo:Nat) (l:Rws) (hl:∀ s ∈ l,s.size≤100000):Tri Tryz.prog 75 [.ptr 0 0] [(0,.box [a0q lo l])] (fun _=>match a9j l with
  |some q=>.ret (i64 q.1) [(0,.box [a0q lo q.2])]
  |none=>.pan (wrV 111) []):=by
 cases l with
 |nil=>exact b9z lo
 |cons w r =>
  cases h:a4d w with
  |none =>
   have e:a9j (w::r)=none:=by show (a4d w).map _=_;rw [h];rfl
   rw [e];exact b8t lo w r (hl w (by simp)) h
  |some v =>
   have e:a9j (w::r)=some (v,r):=by show (a4d w).map _=_;rw [h];rfl
   rw [e];exact b9n lo w r v (hl w (by simp)) h
theorem f2c (lo:Nat) (l:Rws) (hl:∀ s ∈ l,s.size≤100000):Tri Tryz.prog 85 [.ptr 0 0] [(0,.box [a0q lo l])] (fun _=>match b1g l with
  |some q=>.ret (.agg [i64 q.1.1,i64 q.1.2.1,i64 q.1.2.2]) [(0,.box [a0q lo q.2])]
  |none=>.pan (wrV 111) []):=by
 have h:=d7i lo l hl
 unfold b1g
 cases hp:a6y l with
 |true=>rw [hp] at h;exact h
 |false=>rw [hp] at h;exact h
theorem f4g (lo:Nat) (l:Rws) (hl:∀ s ∈ l,s.size≤100000):Tri Tryz.prog 330 [.ptr 0 0] [(0,.box [a0q lo l])] (fun _=>match b3i l with
  |some q=>.ret (.agg [str q.1.1,u8 q.1.2]) [(0,.box [a0q lo q.2])]
  |none=>.pan (wrV 111) []):=by
 have hW:=b8n lo l
 unfold b3i
 cases h1:a6b l with
 |none =>
  rw [h1] at hW
  simp only at hW ⊢
  refine a0e (fun _=>false) Tryz.func330 Tryz.ntmps330 rfl rfl fun G hG hOw hNm=>?_;simp only [go_sem,hG,hOw]
  refine a0c [(0,0)] [] (hW) ?_
  simp only [go_sem,hG,hOw]
  exact ⟨rfl,(a2o [])⟩
 |some q =>
  obtain ⟨w,r⟩:=q
  rw [h1] at hW
  simp only at hW ⊢
  have hN:=d4g lo r ((a4y h1).size hl)
  cases h2:a9j r with
  |none =>
   rw [h2] at hN
   simp only at hN ⊢
   refine a0e (fun _=>false) Tryz.func330 Tryz.ntmps330 rfl rfl fun G hG hOw hNm=>?_;simp only [go_sem,hG,hOw]
   refine a0c [(0,0)] [] (hW) ?_
   simp only [go_sem,hG,hOw]
   (repeat' with_reducible first|apply And.intro|refine exP ?_ ?_|intro);all_goals try omega
   refine a0c [(0,0)] [] (hN) ?_
   simp only [go_sem,hG,hOw]
   exact ⟨rfl,(a2o [])⟩
  |some q2 =>
   obtain ⟨n,r'⟩:=q2
   rw [h2] at hN
   simp only at hN ⊢
   obtain ⟨n0,n1⟩:=e7o h2
   by_cases h3:n≤255
   ·rw [if_pos h3]
    have hu:((UInt8.ofNat n.toNat).toNat:Int)=n:=by
     rw [UInt8.toNat_ofNat'];omega
    have hwr:IntKind.u8.wrap n=n:=by have:IntKind.u8.wrap n=n % 256:=rfl;omega
    simp only
    refine a0e (fun _=>false) Tryz.func330 Tryz.ntmps330 rfl rfl fun G hG hOw hNm=>?_;simp only [go_sem,hG,hOw]
    refine a0c [(0,0)] [] (hW) ?_
    simp only [go_sem,hG,hOw]
    (repeat' with_reducible first|apply And.intro|refine exP ?_ ?_|intro);all_goals try omega
    refine a0c [(0,0)] [] (hN) ?_
    simp (maxSteps:=2000000) only [go_sem,hG,hOw,decide_eq_true h3]
    (repeat' with_reducible first|apply And.intro|refine exP ?_ ?_|intro);all_goals try omega
    refine a0c [] [] (a2j 111) ?_
    simp (maxSteps:=2000000) only [go_sem,hG,hOw,hu,hwr]
    (repeat' with_reducible first|apply And.intro|refine exP ?_ ?_|intro);all_goals try omega
    exact ⟨[(0,some 0)],by (simp only [b3x,go_sem,a1d,a0r,a0i,a1l,apart,a2m,a0n])<;>simp [hu,hwr]⟩
   ·rw [if_neg h3]
    simp only
    refine a0e (fun _=>false) Tryz.func330 Tryz.ntmps330 rfl rfl fun G hG hOw hNm=>?_;simp only [go_sem,hG,hOw]
    refine a0c [(0,0)] [] (hW) ?_
    simp only [go_sem,hG,hOw]
    (repeat' with_reducible first|apply And.intro|refine exP ?_ ?_|intro);all_goals try omega
    refine a0c [(0,0)] [] (hN) ?_
    simp (maxSteps:=2000000) only [go_sem,hG,hOw,decide_eq_false h3]
    (repeat' with_reducible first|apply And.intro|refine exP ?_ ?_|intro);all_goals try omega
    refine a0c [] [] (a7h 111) ?_
    simp only [go_sem,hG,hOw]
    exact ⟨rfl,(a2o [])⟩
open Go Pm
def d1q (d:Dc) (q:ByteArray×UInt8):Dc:={ d with stem:=q.1,mark:=q.2 }
def f2n (d:Dc) (q:Int×Int×Int):Dc:={ d with ch:=q.1,ln:=q.2.1,wd:=q.2.2 }
def f2 (d:Dc) (l:Rws):Option (Dc×Rws):=match a6b l with
 |none=>none
 |some (w,r)=>match b3i r with
  |none=>none
  |some (q,r')=>some (d1q { d with form:=w } q,r')
def f4 (d:Dc) (l:Rws):Option (Dc×Rws):=match b1g l with
 |none=>none
 |some (p,r)=>f2 (f2n d p) r
def f6 (d:Dc) (l:Rws):Option (Dc×Rws):=match b1g l with
 |none=>none
 |some (p,r)=>match b3i r with
  |none=>none
  |some (q,r')=>some (d1q (f2n d p) q,r')
def f8 (d:Dc) (l:Rws):Option (Dc×Rws):=match a9j l with
 |none=>none
 |some (n,r)=>some ({ d with of:=n },r)
theorem f3m {d d':Dc} {l r:Rws} (h:f2 d l=some (d',r)) (hb:bdD d):SubR r l∧bdD d':=by
 unfold f2 at h
 split at h
 ·cases h
 ·rename_i w r1 h1
  split at h
  ·cases h
  ·rename_i q r2 h2
   cases h
   have:=b0q h1
   have:=b9m h2
   exact ⟨(c6x h2).trans (a4y h1),by simp only [d1q];omega,by simp only [d1q];omega⟩
theorem g3v {d d':Dc} {l r:Rws} (h:f4 d l=some (d',r)) (hb:bdD d):SubR r l∧bdD d':=by
 unfold f4 at h
 split at h
 ·cases h
 ·rename_i p r1 h1
  obtain ⟨a,b⟩:=f3m h (by exact hb)
  exact ⟨a.trans (b0v h1),b⟩
theorem f9z {d d':Dc} {l r:Rws} (h:f6 d l=some (d',r)) (hb:bdD d):SubR r l∧bdD d':=by
 unfold f6 at h
 split at h
 ·cases h
 ·rename_i p r1 h1
  split at h
  ·cases h
  ·rename_i q r2 h2
   cases h
   have:=b9m h2
   exact ⟨(c6x h2).trans (b0v h1),hb.1,by simp only [d1q];omega⟩
theorem g0l {d d':Dc} {l r:Rws} (h:f8 d l=some (d',r)) (hb:bdD d):SubR r l∧bdD d':=by
 unfold f8 at h
 split at h
 ·cases h
 ·rename_i n r1 h1
  cases h
  exact ⟨a4p h1,hb⟩
theorem e3y (lo:Nat) (d:Dc) (l:Rws) (hl:∀ s ∈ l,s.size≤100000):Tri Tryz.prog 329 [.ptr 50 0,.ptr 51 0] [(50,.box [a0q lo l]),(51,.box (dcC d))] (fun _=>match f2 d l with
  |some q=>.ret (.tup []) [(50,.box [a0q lo q.2]),(51,.box (dcC q.1))]
  |none=>.pan (wrV 111) []):=by
 have hW:=b8n lo l
 cases h1:a6b l with
 |none =>
  rw [h1] at hW
  have e:f2 d l=none:=by unfold f2;simp only [h1]
  rw [e]
  simp only at hW ⊢
  refine a0e (fun _=>false) Tryz.func329 Tryz.ntmps329 rfl rfl fun G hG hOw hNm=>?_;simp only [go_sem,hG,hOw]
  refine a0c [(0,50)] [] (hW) ?_
  simp only [go_sem,hG,hOw]
  first|exact ⟨rfl,(a2o [])⟩|exact (a2o [])
 |some q =>
  obtain ⟨w,r⟩:=q
  rw [h1] at hW
  have hH:=f4g lo r ((a4y h1).size hl)
  cases h2:b3i r with
  |none =>
   rw [h2] at hH
   have e:f2 d l=none:=by unfold f2;simp only [h1,h2]
   rw [e]
   simp only at hW hH ⊢
   refine a0e (fun _=>false) Tryz.func329 Tryz.ntmps329 rfl rfl fun G hG hOw hNm=>?_;simp only [go_sem,hG,hOw]
   refine a0c [(0,50)] [] (hW) ?_
   simp only [go_sem,hG,hOw]
   (repeat' with_reducible first|apply And.intro|refine exP ?_ ?_|intro);all_goals try omega
   refine a0c [(0,50)] [] (hH) ?_
   simp only [go_sem,hG,hOw]
   first|exact ⟨rfl,(a2o [])⟩|exact (a2o [])
  |some q2 =>
   obtain ⟨⟨st,mk⟩,r'⟩:=q2
   rw [h2] at hH
   have e:f2 d l=some (d1q { d with form:=w } (st,mk),r'):=by unfold f2;simp only [h1,h2]
   rw [e]
   simp only at hW hH ⊢
   refine a0e (fun _=>false) Tryz.func329 Tryz.ntmps329 rfl rfl fun G hG hOw hNm=>?_;simp only [go_sem,hG,hOw]
   refine a0c [(0,50)] [] (hW) ?_
   simp only [go_sem,hG,hOw]
   (repeat' with_reducible first|apply And.intro|refine exP ?_ ?_|intro);all_goals try omega
   refine a0c [(0,50)] [] (hH) ?_
   simp only [go_sem,hG,hOw]
   (repeat' with_reducible first|apply And.intro|refine exP ?_ ?_|intro);all_goals try omega
   exact ⟨[(50,some 50),(51,some 51)],by (simp only [b3x,go_sem,a1d,a0r,a0i,a1l,apart,a2m,a0n])<;>simp [d1q]⟩
theorem e1b (lo:Nat) (d:Dc) (l:Rws) (hl:∀ s ∈ l,s.size≤100000):Tri Tryz.prog 336 [.ptr 50 0,.ptr 51 0] [(50,.box [a0q lo l]),(51,.box (dcC d))] (fun _=>match f8 d l with
  |some q=>.ret (.tup []) [(50,.box [a0q lo q.2]),(51,.box (dcC q.1))]
  |none=>.pan (wrV 111) []):=by
 have hN:=d4g lo l hl
 cases h1:a9j l with
 |none =>
  rw [h1] at hN
  have e:f8 d l=none:=by unfold f8;simp only [h1]
  rw [e]
  simp only at hN ⊢
  refine a0e (fun _=>false) Tryz.func336 Tryz.ntmps336 rfl rfl fun G hG hOw hNm=>?_;simp only [go_sem,hG,hOw]
  refine a0c [(0,50)] [] (hN) ?_
  simp only [go_sem,hG,hOw]
  first|exact ⟨rfl,(a2o [])⟩|exact (a2o [])
 |some q =>
  obtain ⟨n,r⟩:=q
  rw [h1] at hN
  have e:f8 d l=some ({ d with of:=n },r):=by unfold f8;simp only [h1]
  rw [e]
  simp only at hN ⊢
  refine a0e (fun _=>false) Tryz.func336 Tryz.ntmps336 rfl rfl fun G hG hOw hNm=>?_;simp only [go_sem,hG,hOw]
  refine a0c [(0,50)] [] (hN) ?_
  simp only [go_sem,hG,hOw]
  (repeat' with_reducible first|apply And.intro|refine exP ?_ ?_|intro);all_goals try omega
  exact (a2o [(50,some 50),(51,some 51)])
theorem e4r (lo:Nat) (d:Dc) (l:Rws) (hl:∀ s ∈ l,s.size≤100000):Tri Tryz.prog 334 [.ptr 50 0,.ptr 51 0] [(50,.box [a0q lo l]),(51,.box (dcC d))] (fun _=>match f6 d l with
  |some q=>.ret (.tup []) [(50,.box [a0q lo q.2]),(51,.box (dcC q.1))]
  |none=>.pan (wrV 111) []):=by
 have hP:=f2c lo l hl
 cases h1:b1g l with
 |none =>
  rw [h1] at hP
  have e:f6 d l=none:=by unfold f6;simp only [h1]
  rw [e]
  simp only at hP ⊢
  refine a0e (fun _=>false) Tryz.func334 Tryz.ntmps334 rfl rfl fun G hG hOw hNm=>?_;simp only [go_sem,hG,hOw]
  refine a0c [(0,50)] [] (hP) ?_
  simp only [go_sem,hG,hOw]
  first|exact ⟨rfl,(a2o [])⟩|exact (a2o [])
 |some q =>
  obtain ⟨⟨a,b,c⟩,r⟩:=q
  rw [h1] at hP
  have hH:=f4g lo r ((b0v h1).size hl)
  cases h2:b3i r with
  |none =>
   rw [h2] at hH
   have e:f6 d l=none:=by unfold f6;simp only [h1,h2]
   rw [e]
   simp only at hP hH ⊢
   refine a0e (fun _=>false) Tryz.func334 Tryz.ntmps334 rfl rfl fun G hG hOw hNm=>?_;simp only [go_sem,hG,hOw]
   refine a0c [(0,50)] [] (hP) ?_
   simp only [go_sem,hG,hOw]
   (repeat' with_reducible first|apply And.intro|refine exP ?_ ?_|intro);all_goals try omega
   refine a0c [(0,50)] [] (hH) ?_
   simp only [go_sem,hG,hOw]
   first|exact ⟨rfl,(a2o [])⟩|exact (a2o [])
  |some q2 =>
   obtain ⟨⟨st,mk⟩,r'⟩:=q2
   rw [h2] at hH
   have e:f6 d l=some (d1q (f2n d (a,b,c)) (st,mk),r'):=by unfold f6;simp only [h1,h2]
   rw [e]
   simp only at hP hH ⊢
   refine a0e (fun _=>false) Tryz.func334 Tryz.ntmps334 rfl rfl fun G hG hOw hNm=>?_;simp only [go_sem,hG,hOw]
   refine a0c [(0,50)] [] (hP) ?_
   simp only [go_sem,hG,hOw]
   (repeat' with_reducible first|apply And.intro|refine exP ?_ ?_|intro);all_goals try omega
   refine a0c [(0,50)] [] (hH) ?_
   simp only [go_sem,hG,hOw]
   (repeat' with_reducible first|apply And.intro|refine exP ?_ ?_|intro);all_goals try omega
   exact ⟨[(50,some 50),(51,some 51)],by (simp only [b3x,go_sem,a1d,a0r,a0i,a1l,apart,a2m,a0n])<;>simp [d1q,f2n]⟩
theorem d7n (lo:Nat) (d:Dc) (l:Rws) (hl:∀ s ∈ l,s.size≤100000):Tri Tryz.prog 332 [.ptr 50 0,.ptr 51 0] [(50,.box [a0q lo l]),(51,.box (dcC d))] (fun _=>match f4 d l with
  |some q=>.ret (.tup []) [(50,.box [a0q lo q.2]),(51,.box (dcC q.1))]
  |none=>.pan (wrV 111) []):=by
 have hP:=f2c lo l hl
 cases h1:b1g l with
 |none =>
  rw [h1] at hP
  have e:f4 d l=none:=by unfold f4 f2;simp only [h1]
  rw [e]
  simp only at hP ⊢
  refine a0e (fun _=>false) Tryz.func332 Tryz.ntmps332 rfl rfl fun G hG hOw hNm=>?_;simp only [go_sem,hG,hOw]
  refine a0c [(0,50)] [] (hP) ?_
  simp only [go_sem,hG,hOw]
  first|exact ⟨rfl,(a2o [])⟩|exact (a2o [])
 |some q =>
  obtain ⟨⟨a,b,c⟩,r⟩:=q
  rw [h1] at hP
  have hr:=(b0v h1).size hl
  have hW:=b8n lo r
  cases h2:a6b r with
  |none =>
   rw [h2] at hW
   have e:f4 d l=none:=by unfold f4 f2;simp only [h1,h2]
   rw [e]
   simp only at hP hW ⊢
   refine a0e (fun _=>false) Tryz.func332 Tryz.ntmps332 rfl rfl fun G hG hOw hNm=>?_;simp only [go_sem,hG,hOw]
   refine a0c [(0,50)] [] (hP) ?_
   simp only [go_sem,hG,hOw]
   (repeat' with_reducible first|apply And.intro|refine exP ?_ ?_|intro);all_goals try omega
   refine a0c [(0,50)] [] (hW) ?_
   simp only [go_sem,hG,hOw]
   first|exact ⟨rfl,(a2o [])⟩|exact (a2o [])
  |some q2 =>
   obtain ⟨w,r2⟩:=q2
   rw [h2] at hW
   have hH:=f4g lo r2 ((a4y h2).size hr)
   cases h3:b3i r2 with
   |none =>
    rw [h3] at hH
    have e:f4 d l=none:=by unfold f4 f2;simp only [h1,h2,h3]
    rw [e]
    simp only at hP hW hH ⊢
    refine a0e (fun _=>false) Tryz.func332 Tryz.ntmps332 rfl rfl fun G hG hOw hNm=>?_;simp only [go_sem,hG,hOw]
    refine a0c [(0,50)] [] (hP) ?_
    simp only [go_sem,hG,hOw]
    (repeat' with_reducible first|apply And.intro|refine exP ?_ ?_|intro);all_goals try omega
    refine a0c [(0,50)] [] (hW) ?_
    simp only [go_sem,hG,hOw]
    (repeat' with_reducible first|apply And.intro|refine exP ?_ ?_|intro);all_goals try omega
    refine a0c [(0,50)] [] (hH) ?_
    simp only [go_sem,hG,hOw]
    first|exact ⟨rfl,(a2o [])⟩|exact (a2o [])
   |some q3 =>
    obtain ⟨⟨st,mk⟩,r3⟩:=q3
    rw [h3] at hH
    have e:f4 d l=some (d1q { f2n d (a,b,c) with form:=w } (st,mk),r3):=by unfold f4 f2;simp only [h1,h2,h3]
    rw [e]
    simp only at hP hW hH ⊢
    refine a0e (fun _=>false) Tryz.func332 Tryz.ntmps332 rfl rfl fun G hG hOw hNm=>?_;simp only [go_sem,hG,hOw]
    refine a0c [(0,50)] [] (hP) ?_
    simp only [go_sem,hG,hOw]
    (repeat' with_reducible first|apply And.intro|refine exP ?_ ?_|intro);all_goals try omega
    refine a0c [(0,50)] [] (hW) ?_
    simp only [go_sem,hG,hOw]
    (repeat' with_reducible first|apply And.intro|refine exP ?_ ?_|intro);all_goals try omega
    refine a0c [(0,50)] [] (hH) ?_
    simp only [go_sem,hG,hOw]
    (repeat' with_reducible first|apply And.intro|refine exP ?_ ?_|intro);all_goals try omega
    exact ⟨[(50,some 50),(51,some 51)],by (simp only [b3x,go_sem,a1d,a0r,a0i,a1l,apart,a2m,a0n])<;>simp [d1q,f2n]⟩
end Go.Proofs.YtmjhfccbbfpppaaGreatDoor
