import Derived.Test.YtmjhfccbbfpppaaGreatDoorQZ30
import Derived.Test.YtmjhfccbbfpppaaGreatDoorQZ37
import Derived.Test.YtmjhfccbbfpppaaGreatDoorQZ40
import Derived.Test.YtmjhfccbbfpppaaGreatDoorQZ54
namespace Go.Proofs.YtmjhfccbbfpppaaGreatDoor
open Go Pm
set_option linter.unusedSimpArgs false
set_option linter.unusedVariables false
set_option maxHeartbeats 4000000
set_option maxRecDepth 100000
def formS:ByteArray:=⟨#[102,111,114,109]⟩
def fromS:ByteArray:=⟨#[102,114,111,109]⟩
def plcS:ByteArray:=⟨#[112,108,97,99,101]⟩
def voidS:ByteArray:=⟨#[118,111,105,100]⟩
def cutS:ByteArray:=⟨#[99,117,116]⟩
def c4v (stem:ByteArray) (mark:UInt8):ByteArray:=a0z [stem,a2a mark.toNat]
def a7u (r:Rl):ByteArray:=a0z [(if r.put=⟨#[]⟩ then a0z [cutS,r.cut] else a0z [a0z [cutS,r.cut],r.put]),a2a r.least]
def fmN (k:Int):ByteArray:=if k=1 then formS else if k=2 then fromS else if k=3 then plcS else if k=4 then voidS else ⟨#[]⟩
def fmP (d:Dc):List ByteArray:=if (d.kind.toNat:Int)=1 then [d.form,c4v d.stem d.mark] else if (d.kind.toNat:Int)=2 then [atS d.ch d.ln d.wd,d.form,c4v d.stem d.mark]
 else if (d.kind.toNat:Int)=3 then [atS d.ch d.ln d.wd,c4v d.stem d.mark] else [a2a d.of]
def b1n (d:Dc):ByteArray:=a0z (a0z [fmN d.kind.toNat,a2a d.num]::fmP d)
def b7k (x:Lx):List ByteArray:=x.rules.map a7u++x.decs.map b1n
theorem b9u (stem:ByteArray) (mark:UInt8) (hs:stem.size≤1000):a0n Tryz.prog 328 [.agg [str stem,u8 mark]] (fun _=>str (c4v stem mark)):=by
 have hm:mark.toNat < 256:=mark.toNat_lt
 have hI:=a4l mark.toNat (by omega) (by omega)
 have hsz:=a2w (n:=mark.toNat) (by omega) (by omega)
 have hW:=a1f stem [a2a mark.toNat] (by simp) (by simp) (by omega) (by simp;omega)
 refine a0b (ow:=fun i=>[9,1000009].contains i) Tryz.func328 Tryz.ntmps328 rfl rfl fun G hG hOw hNm hB=>?_;simp only [go_sem,hG,hOw]
 refine a3c ⟨[9],[],[]⟩ [(0,false),(1,false),(2,false),(3,false),(4,false),(5,false),(6,false),(7,true),(8,false)] mixed (by kernel_rfl) ?_
 simp only [a4f,List.getElem?_cons_zero,List.getElem?_cons_succ]
 simp only [go_sem,hG,hOw]
 refine ⟨by omega,?_⟩
 refine ⟨_,a0e hI,?_⟩
 simp only [go_sem,hG,hOw]
 refine a0c [(0,9)] [] (hW) ?_
 simp only [go_sem,hG,hOw]
 try (repeat' with_reducible first|refine And.intro ?_ ?_|intro _|refine exP ?_ ?_);all_goals try omega
 rfl
theorem e0j (d:Dc) (hs:d.stem.size≤1000):Tri Tryz.prog 327 [.agg (dcC d)] [] (fun _=>.ret (.own 5 0 2 1) [(5,.box (c4s [d.form,c4v d.stem d.mark]))]):=by
 refine a0j (fun i=>[8,1000008].contains i) Tryz.func327 Tryz.ntmps327 rfl rfl fun G hG hOw hNm=>?_;simp only [go_sem,hG,hOw]
 refine a0s mixed (by kernel_rfl) ?_
 simp only [go_sem,hG,hOw]
 refine ⟨_,a0e (b9u d.stem d.mark hs),?_⟩
 simp only [go_sem,hG,hOw]
 try (repeat' with_reducible first|refine And.intro ?_ ?_|intro _|refine exP ?_ ?_);all_goals try omega
 exact ⟨[(5,some 8)],by (simp only [b6w,go_sem,a1k,a0r,a0i,a1p,apart,a2p,a0k])<;>simp [c4s,a2e,str]⟩
theorem d5b (d:Dc) (hs:d.stem.size≤1000) (h1:in9 d.ch) (h2:in9 d.ln) (h3:in9 d.wd):Tri Tryz.prog 331 [.agg (dcC d)] [] (fun _=>.ret (.own 5 0 3 1) [(5,.box (c4s [atS d.ch d.ln d.wd,d.form,c4v d.stem d.mark]))]):=by
 refine a0j (fun i=>[11,1000011].contains i) Tryz.func331 Tryz.ntmps331 rfl rfl fun G hG hOw hNm=>?_;simp only [go_sem,hG,hOw]
 refine a0s mixed (by kernel_rfl) ?_
 simp only [go_sem,hG,hOw]
 refine ⟨_,a0e (d1i d.ch d.ln d.wd h1 h2 h3),?_⟩
 simp only [go_sem,hG,hOw]
 refine ⟨_,a0e (b9u d.stem d.mark hs),?_⟩
 simp only [go_sem,hG,hOw]
 try (repeat' with_reducible first|refine And.intro ?_ ?_|intro _|refine exP ?_ ?_);all_goals try omega
 exact ⟨[(5,some 11)],by (simp only [b6w,go_sem,a1k,a0r,a0i,a1p,apart,a2p,a0k])<;>simp [c4s,a2e,str]⟩
theorem d8h (d:Dc) (hs:d.stem.size≤1000) (h1:in9 d.ch) (h2:in9 d.ln) (h3:in9 d.wd):Tri Tryz.prog 333 [.agg (dcC d)] [] (fun _=>.ret (.own 5 0 2 1) [(5,.box (c4s [atS d.ch d.ln d.wd,c4v d.stem d.mark]))]):=by
 refine a0j (fun i=>[9,1000009].contains i) Tryz.func333 Tryz.ntmps333 rfl rfl fun G hG hOw hNm=>?_;simp only [go_sem,hG,hOw]
 refine a0s mixed (by kernel_rfl) ?_
 simp only [go_sem,hG,hOw]
 refine ⟨_,a0e (d1i d.ch d.ln d.wd h1 h2 h3),?_⟩
 simp only [go_sem,hG,hOw]
 refine ⟨_,a0e (b9u d.stem d.mark hs),?_⟩
 simp only [go_sem,hG,hOw]
 try (repeat' with_reducible first|refine And.intro ?_ ?_|intro _|refine exP ?_ ?_);all_goals try omega
 exact ⟨[(5,some 9)],by (simp only [b6w,go_sem,a1k,a0r,a0i,a1p,apart,a2p,a0k])<;>simp [c4s,a2e,str]⟩
theorem d5a (d:Dc) (h:in9 d.of):Tri Tryz.prog 335 [.agg (dcC d)] [] (fun _=>.ret (.own 5 0 1 1) [(5,.box (c4s [a2a d.of]))]):=by
 refine a0j (fun i=>[6,1000006].contains i) Tryz.func335 Tryz.ntmps335 rfl rfl fun G hG hOw hNm=>?_;simp only [go_sem,hG,hOw]
 refine a0a (a4l d.of h.1 h.2) ?_
 simp only [go_sem,hG,hOw]
 try (repeat' with_reducible first|refine And.intro ?_ ?_|intro _|refine exP ?_ ?_);all_goals try omega
 exact ⟨[(5,some 6)],by (simp only [b6w,go_sem,a1k,a0r,a0i,a1p,apart,a2p,a0k])<;>simp [c4s,a2e,str]⟩
open Go Pm
set_option maxHeartbeats 4000000
set_option maxRecDepth 100000
structure VRl (r:Rl):Prop where
 cut:r.cut.size≤12
 put:r.put.size≤12
 least:in9 r.least
theorem f8m {r:Rl} (h:b6c r=true):VRl r:=by
 simp only [b6c,a6a,inB,Bool.and_eq_true,decide_eq_true_eq] at h
 obtain ⟨⟨⟨h1,h2⟩,_⟩,h3⟩:=h
 exact ⟨by omega,by omega,by omega,by omega⟩
structure VDc (d:Dc):Prop where
 kind:(d.kind.toNat:Int)=1∨(d.kind.toNat:Int)=2∨(d.kind.toNat:Int)=3∨(d.kind.toNat:Int)=4
 num:in9 d.num
 form:d.form.size≤12
 stem:d.stem.size≤12
 pl:in9 d.ch∧in9 d.ln∧in9 d.wd
 of:in9 d.of
theorem a5j (a b:ByteArray):(a0z [a,b]).size=a.size+(1+b.size):=by
 rw [e7y,ByteArray.size_append,ByteArray.size_append];rfl
theorem c2l {t:List Ch} (ht:a1l t=true) {a b w:Int} (h:a4c t a b w=true):in9 a∧in9 b∧in9 w:=by
 have hok:=c3s ht
 unfold a4c at h
 cases hl:a5v t a b with
 |none=>rw [hl] at h;cases h
 |some l =>
  rw [hl] at h
  simp only at h
  have h3:=inB_iff.1 h
  have h4:=c4h hok hl
  unfold a5v at hl
  split at hl
  ·rename_i hab
   obtain ⟨ha,hb⟩:=hab
   simp only [Option.bind_eq_some_iff] at hl
   obtain ⟨c,h1,h2⟩:=hl
   obtain ⟨q1,e1⟩:=List.getElem?_eq_some_iff.1 h1
   obtain ⟨q2,_⟩:=List.getElem?_eq_some_iff.1 h2
   have hc:=(hok.2 c (List.mem_of_getElem? h1)).1
   have ht1:=hok.1
   exact ⟨⟨ha,by omega⟩,⟨hb,by omega⟩,by omega,by omega⟩
  ·cases hl
theorem g1b {t:List Ch} (ht:a1l t=true) {d:Dc} (h:d1a t d=true):VDc d:=by
 unfold d1a at h
 rw [Bool.and_eq_true] at h
 obtain ⟨h1,h2⟩:=h
 have hn:=inB_iff.1 h1
 have hw:∀ s:ByteArray,a1h s=true→s.size≤12:=fun s hs=>(a2k hs).2
 have hh:a9s d.stem d.mark=true→d.stem.size≤12:=fun hs=>by
  unfold a9s at hs
  rw [Bool.and_eq_true] at hs
  exact hw _ hs.1
 have z9:in9 0:=⟨by omega,by omega⟩
 have e0:∀ s:ByteArray,s=⟨#[]⟩→s.size≤12:=by rintro s rfl;decide
 unfold c4u at h2
 split at h2
 ·rename_i hk
  simp only [Bool.and_eq_true,e3b,decide_eq_true_eq] at h2
  obtain ⟨a,⟨b1,b2,b3⟩,c,e⟩:=h2
  exact ⟨Or.inl hk,⟨by omega,by omega⟩,hw _ a,hh c,by rw [b1,b2,b3];exact ⟨z9,z9,z9⟩,by rw [e];exact z9⟩
 split at h2
 ·rename_i hk
  simp only [Bool.and_eq_true,e3b,decide_eq_true_eq] at h2
  obtain ⟨a,b,c,e⟩:=h2
  exact ⟨Or.inr (Or.inl hk),⟨by omega,by omega⟩,hw _ a,hh c,c2l ht b,by rw [e];exact z9⟩
 split at h2
 ·rename_i hk
  simp only [Bool.and_eq_true,e3b,decide_eq_true_eq] at h2
  obtain ⟨a,b,c,e⟩:=h2
  exact ⟨Or.inr (Or.inr (Or.inl hk)),⟨by omega,by omega⟩,e0 _ a,hh c,c2l ht b,by rw [e];exact z9⟩
 split at h2
 ·rename_i hk
  simp only [Bool.and_eq_true,e3b,f9o,decide_eq_true_eq] at h2
  obtain ⟨a,⟨b1,b2,b3⟩,⟨c,c'⟩,e⟩:=h2
  have he:=inB_iff.1 e
  exact ⟨Or.inr (Or.inr (Or.inr hk)),⟨by omega,by omega⟩,e0 _ a,e0 _ c,by rw [b1,b2,b3];exact ⟨z9,z9,z9⟩,⟨by omega,by omega⟩⟩
 ·cases h2
def a7m (x:Lx) (k:Nat):List ByteArray:=x.rules.map a7u++(x.decs.take k).map b1n
theorem c5e (x:Lx) (k:Nat) (hk:k < x.decs.length):a7m x (k+1)=a7m x k++[b1n x.decs[k]]:=by
 unfold a7m
 rw [a3g b1n x.decs k hk,List.append_assoc]
theorem e5y {t:List Ch} {l:List Dc} (h:a3m (b4j t) [] l=true):∀ d ∈ l,d1a t d=true:=by
 intro d hd
 cases hb:d1a t d with
 |true=>rfl
 |false =>
  obtain ⟨k,hk,rfl⟩:=List.mem_iff_getElem.1 hd
  rw [b1r hk (by unfold b4j;rw [hb,Bool.and_false])] at h
  cases h
theorem c4a (t:List Ch) (x:Lx) (hb:(∀ r ∈ x.rules,bdR r)∧(∀ d ∈ x.decs,bdD d)∧x.rules.length≤1000∧x.decs.length≤1000):a0n Tryz.prog 31 [txE 0 t,lxE 0 x] (fun n=>.tup [a0p n (if b6o t x=0 then b7k x else []),i64 (b6o t x)]):=by
 have hC:=d2r t x hb
 by_cases he:b6o t x=0
 ·rw [he] at hC
  rw [he,if_pos rfl]
  have hv:a1l t=true∧f5l t x=true:=by
   unfold b6o at he
   split at he
   ·split at he
    ·exact ⟨by assumption,by assumption⟩
    ·cases he
   ·cases he
  obtain ⟨ht,hlx⟩:=hv
  have hx:=hlx
  unfold f5l at hx
  simp only [Bool.and_eq_true,decide_eq_true_eq] at hx
  obtain ⟨⟨⟨hr12,hd20⟩,hrs⟩,hds⟩:=hx
  have hRv:∀ r ∈ x.rules,VRl r:=fun r hr=>f8m (List.all_eq_true.1 hrs r hr)
  refine a0b (ow:=fun i=>[28,36,43,64,1000028,1000036,1000043,1000064].contains i) Tryz.func31 Tryz.ntmps31 rfl rfl fun G hG hOw hNm hB=>?_;simp only [go_sem,hG,hOw]
  refine a0a hC ?_
  simp only [go_sem,hG,hOw]
  (repeat' with_reducible first|refine And.intro ?_ ?_|intro _|refine exP ?_ ?_);all_goals try omega
  refine a3e (fun _:Unit=>St.of [(3,.ptr 3 0),(7,.own 100 0 (x.rules.map a7u).length 1)] [(3,.box (lxC 0 x)),(100,.arr 9 1 ((x.rules.map a7u).map a2e))]) (fun _=>True) ?_ ?_
  ·refine a0m (fun k:Nat=>St.of [(3,.ptr 3 0),(7,.own 100 0 ((x.rules.take k).map a7u).length 1),(20,rls 0 x.rules),(21,i64 x.rules.length),(22,i64 k)] [(3,.box (lxC 0 x)),(100,.arr 9 1 (((x.rules.take k).map a7u).map a2e))]) (fun k=>k≤x.rules.length) (fun k=>x.rules.length - k) 0 (by simp) (a1g [(3,some 3),(100,none)] (by (simp only [List.take_zero,List.map_nil,List.length_nil,go_sem])<;>simp [List.take_zero,List.map_nil,List.length_nil]) (by (simp only [List.take_zero,List.map_nil,List.length_nil,go_sem,a1k,a0r,a0i,a1p])<;>simp [List.take_zero,List.map_nil,List.length_nil]) (by simp [a2p,apart]) (by simp [a0k,usH]) (by simp [hNm,lkR,a0x])) ?_
   rintro k hk
   by_cases hkl:k < x.rules.length
   ·have hlt:(k:Int) < x.rules.length:=by omega
    obtain ⟨r,hr⟩:∃ r,r=x.rules[k]:=⟨_,rfl⟩
    obtain ⟨v1,v2,v3⟩:=hRv r (by rw [hr];exact List.getElem_mem hkl)
    have hstep:(x.rules.take (k+1)).map a7u=(x.rules.take k).map a7u++[a7u r]:=by rw [a3g a7u x.rules k hkl,hr]
    obtain ⟨U,hU⟩:∃ U,U=(x.rules.take k).map a7u:=⟨_,rfl⟩
    have hUl:U.length≤1000:=by rw [hU];simp;omega
    rw [← hU] at hstep ⊢
    have hstep2:List.map a2e (List.map a7u (x.rules.take (k+1)))=List.map a2e U++[[.v (.string (a7u r))]]:=by rw [hstep,List.map_append];rfl
    have hlen2:(List.map a7u (x.rules.take (k+1))).length=U.length+1:=by rw [hstep];simp
    have hW1:=a1f cutS [r.cut] (by simp) (by simp) (by decide) (by simp;omega)
    have hc3:cutS.size=3:=rfl
    have hj1:(a0z [cutS,r.cut]).size≤100:=by rw [a5j];omega
    have hj2:(a0z [a0z [cutS,r.cut],r.put]).size≤200:=by rw [a5j];omega
    have hmin:min (k+1) x.rules.length=U.length+1:=by rw [hU];simp;omega
    have hW2:=a1f (a0z [cutS,r.cut]) [r.put] (by simp) (by simp) (by omega) (by simp;omega)
    have hns:=a2w v3.1 v3.2
    refine a0d _ _ _ ?_
    simp (maxSteps:=2000000) only [go_sem,hG,hOw,hlt,← hr]
    (repeat' with_reducible first|refine And.intro ?_ ?_|intro _|refine exP ?_ ?_);all_goals try omega
    refine a0c [(0,28)] [] (hW1) ?_ (by (simp only [go_sem])<;>simp [cutS]) (by (simp only [go_sem,a1k,a0r,a0i,a1p])<;>simp [cutS]) (by simp [a0k,usH,toR,cutS])
    by_cases hp:r.put=⟨#[]⟩
    ·have hW3:=a1f (a0z [cutS,r.cut]) [a2a r.least] (by simp) (by simp) (by omega) (by simp;omega)
     have hrow:a7u r=a0z [a0z [cutS,r.cut],a2a r.least]:=by unfold a7u;rw [if_pos hp]
     simp (maxSteps:=2000000) only [go_sem,hG,hOw,decide_eq_true hp,hp]
     (repeat' with_reducible first|refine And.intro ?_ ?_|intro _|refine exP ?_ ?_);all_goals try omega
     refine a0a (a4l r.least v3.1 v3.2) ?_
     simp only [go_sem,hG,hOw]
     (repeat' with_reducible first|refine And.intro ?_ ?_|intro _|refine exP ?_ ?_);all_goals try omega
     refine a0c [(0,43)] [] (hW3) ?_
     simp only [go_sem,hG,hOw]
     (repeat' with_reducible first|refine And.intro ?_ ?_|intro _|refine exP ?_ ?_);all_goals try omega
     exact ⟨k+1,by omega,by omega,a1g [(3,some 3),(100,some 46)] (by (simp only [hstep2,hlen2,hmin,hrow,go_sem])<;>simp [hstep2,hlen2,hmin,hrow]) (by (simp only [hstep2,hlen2,hmin,hrow,go_sem,a1k,a0r,a0i,a1p])<;>simp [hstep2,hlen2,hmin,hrow]) (by simp [a2p,apart]) (by simp [a0k,usH]) (by simp [hNm,lkR,a0x])⟩
    ·have hW3:=a1f (a0z [a0z [cutS,r.cut],r.put]) [a2a r.least] (by simp) (by simp) (by omega) (by simp;omega)
     have hrow:a7u r=a0z [a0z [a0z [cutS,r.cut],r.put],a2a r.least]:=by unfold a7u;rw [if_neg hp]
     simp (maxSteps:=2000000) only [go_sem,hG,hOw,decide_eq_false hp,Bool.not_false]
     (repeat' with_reducible first|refine And.intro ?_ ?_|intro _|refine exP ?_ ?_);all_goals try omega
     refine a0c [(0,36)] [] (hW2) ?_
     simp only [go_sem,hG,hOw]
     (repeat' with_reducible first|refine And.intro ?_ ?_|intro _|refine exP ?_ ?_);all_goals try omega
     refine a0a (a4l r.least v3.1 v3.2) ?_
     simp only [go_sem,hG,hOw]
     (repeat' with_reducible first|refine And.intro ?_ ?_|intro _|refine exP ?_ ?_);all_goals try omega
     refine a0c [(0,43)] [] (hW3) ?_
     simp only [go_sem,hG,hOw]
     (repeat' with_reducible first|refine And.intro ?_ ?_|intro _|refine exP ?_ ?_);all_goals try omega
     exact ⟨k+1,by omega,by omega,a1g [(3,some 3),(100,some 46)] (by (simp only [hstep2,hlen2,hmin,hrow,go_sem])<;>simp [hstep2,hlen2,hmin,hrow]) (by (simp only [hstep2,hlen2,hmin,hrow,go_sem,a1k,a0r,a0i,a1p])<;>simp [hstep2,hlen2,hmin,hrow]) (by simp [a2p,apart]) (by simp [a0k,usH]) (by simp [hNm,lkR,a0x])⟩
   ·have hlt:¬ (k:Int) < x.rules.length:=by omega
    have hke:k=x.rules.length:=by omega
    subst hke
    rw [List.take_length]
    refine a0d _ _ _ ?_
    simp (maxSteps:=2000000) only [go_sem,hG,hOw,hlt]
    try (repeat' with_reducible first|refine And.intro ?_ ?_|intro _|refine exP ?_ ?_);all_goals try omega
    exact ⟨(),a2d [(3,some 3),(100,some 100)]⟩
  ·rintro _ _
   have hDv:∀ d ∈ x.decs,VDc d:=fun d hd=>g1b ht (e5y hds d hd)
   simp only [go_sem,hG,hOw]
   (repeat' with_reducible first|refine And.intro ?_ ?_|intro _|refine exP ?_ ?_);all_goals try omega
   refine a0m (fun k:Nat=>St.of [(3,.ptr 3 0),(7,.own 100 0 (a7m x k).length 1),(49,dcs 0 x.decs),(50,i64 x.decs.length),(51,i64 k)] [(3,.box (lxC 0 x)),(100,.arr 9 1 ((a7m x k).map a2e))]) (fun k=>k≤x.decs.length) (fun k=>x.decs.length - k) 0 (by simp) (by unfold a7m;exact a2d [(3,some 3),(100,some 100)] (by (simp only [go_sem])<;>simp [List.take_zero,List.map_nil,List.append_nil]) (by (simp only [go_sem,a1k,a0r,a0i,a1p])<;>simp [List.take_zero,List.map_nil,List.append_nil])) ?_
   rintro k hk
   by_cases hkl:k < x.decs.length
   ·have hlt:(k:Int) < x.decs.length:=by omega
    obtain ⟨d,hd⟩:∃ d,d=x.decs[k]:=⟨_,rfl⟩
    obtain ⟨v1,v2,v3,v4,⟨v5,v6,v7⟩,v8⟩:=hDv d (by rw [hd];exact List.getElem_mem hkl)
    have hstep:=c5e x k hkl
    rw [← hd] at hstep
    have hUl0:(a7m x k).length=x.rules.length+k:=by unfold a7m;simp;omega
    obtain ⟨U,hU⟩:∃ U,U=a7m x k:=⟨_,rfl⟩
    rw [← hU] at hstep hUl0 ⊢
    have hstep2:List.map a2e (a7m x (k+1))=List.map a2e U++[[.v (.string (b1n d))]]:=by rw [hstep,List.map_append];rfl
    have hlen2:(a7m x (k+1)).length=U.length+1:=by rw [hstep];simp
    have hns:=a2w v2.1 v2.2
    refine a0d _ _ _ ?_
    simp (maxSteps:=2000000) only [go_sem,hG,hOw,hlt,← hd]
    (repeat' with_reducible first|refine And.intro ?_ ?_|intro _|refine exP ?_ ?_);all_goals try omega
    have hu:(c4v d.stem d.mark).size≤1000:=by
     have hm:d.mark.toNat < 256:=d.mark.toNat_lt
     have:=a2w (n:=d.mark.toNat) (by omega) (by omega)
     unfold c4v;rw [a5j];omega
    have hats:=c6j _ _ _ v5 v6 v7
    have hof:=a2w v8.1 v8.2
    rcases v1 with hk1|hk1|hk1|hk1
    ·have hrow:b1n d=a0z (a0z [formS,a2a d.num]::[d.form,c4v d.stem d.mark]):=by unfold b1n fmP fmN;rw [if_pos hk1,if_pos hk1]
     have hj:(a0z [formS,a2a d.num]).size≤1000:=by rw [a5j];have:formS.size=4:=rfl;omega
     have hW1:=a1f formS [a2a d.num] (by simp) (by simp) (by decide) (by simp;omega)
     have hW2:=a1f (a0z [formS,a2a d.num]) [d.form,c4v d.stem d.mark] (by simp) (by simp) (by omega) (by simp;omega)
     have hF:=e0j d (by omega)
     have i1:Int.toNat 1=1:=rfl
     refine a3c ⟨[64,74,75],[(65,[64]),(72,[572]),(73,[572])],[65,72,73]⟩ [(0,false),(1,false),(2,false),(3,false),(4,false),(5,false),(6,false),(7,false),(8,false),(9,false),(10,false),(11,false),(12,false),(13,false),(14,false),(15,false),(16,false),(17,false),(18,false),(19,false),(20,false),(21,false)] mixed (by kernel_rfl) ?_
     simp only [a4f,List.getElem?_cons_zero,List.getElem?_cons_succ]
     simp (maxSteps:=2000000) only [go_sem,hG,hOw,hk1,i1,Nat.reduceMul,List.drop_succ_cons,List.drop_zero]
     refine ⟨by omega,?_⟩
     refine ⟨_,a0e (a4l d.num v2.1 v2.2),?_⟩
     simp only [go_sem,hG,hOw]
     (repeat' with_reducible first|refine And.intro ?_ ?_|intro _|refine exP ?_ ?_);all_goals try omega
     refine ⟨_,a6t [(0,64)] [] (hW1) (by (simp only [go_sem])<;>simp [formS]) (by (simp only [go_sem,a1k,a0r,a0i,a1p])<;>simp [formS]) (by simp [a2p,apart,toR]) (by simp [a0k,usH,toR,formS]) (by simp [a7b,lkR,toR]) rfl (by simp [tgt,a2g]) (by simp [tgt,a2g]) (by simp [upT,a3l,a6c,a1o,usH,lkR,toR,a2g,formS]) (by simp [b2v,usH,tgt,go_sem]) (by simp [a3o,a1o,usH,lkR,toR,formS]) (by simp [a5f,usH,formS]),?_⟩
     simp (maxSteps:=2000000) only [go_sem,hG,hOw,hk1,i1,Nat.reduceMul,List.drop_succ_cons,List.drop_zero]
     refine ⟨by omega,?_⟩
     refine ⟨_,c0f [(5,572)] (hF) (by (simp only [go_sem])<;>simp [hk1]) rfl (by simp [tgt,a2g]) (by simp [upT,a3l,a6c,a1o,usH,lkR,toR,a2g,hk1]) (by simp [b2v,usH,tgt,go_sem]) (by simp [a3o,a1o,usH,lkR,toR,hk1]) (by simp [a5f,usH,hk1]),?_⟩
     simp only [go_sem,hG,hOw]
     (repeat' with_reducible first|refine And.intro ?_ ?_|intro _|refine exP ?_ ?_);all_goals try omega
     refine ⟨_,a6t [(0,572)] [] (hW2) (by (simp only [go_sem])<;>simp) (by (simp only [go_sem,a1k,a0r,a0i,a1p])<;>simp) (by simp [a2p,apart,toR]) (by simp [a0k,usH,toR]) (by simp [a7b,lkR,toR]) rfl (by simp [tgt,a2g]) (by simp [tgt,a2g]) (by simp [upT,a3l,a6c,a1o,usH,lkR,toR,a2g]) (by simp [b2v,usH,tgt,go_sem]) (by simp [a3o,a1o,usH,lkR,toR]) (by simp [a5f,usH]),?_⟩
     simp only [go_sem,hG,hOw]
     (repeat' with_reducible first|refine And.intro ?_ ?_|intro _|refine exP ?_ ?_);all_goals try omega
     exact ⟨k+1,by omega,by omega,a1g [(3,some 3),(100,some 75)] (by (simp only [hstep2,hlen2,hrow,go_sem])<;>simp [hstep2,hlen2,hrow]) (by (simp only [hstep2,hlen2,hrow,go_sem,a1k,a0r,a0i,a1p])<;>simp [hstep2,hlen2,hrow]) (by simp [a2p,apart]) (by simp [a0k,usH]) (by simp [hNm,lkR,a0x])⟩
    ·have hrow:b1n d=a0z (a0z [fromS,a2a d.num]::[atS d.ch d.ln d.wd,d.form,c4v d.stem d.mark]):=by unfold b1n fmP fmN;rw [hk1];rfl
     have hj:(a0z [fromS,a2a d.num]).size≤1000:=by rw [a5j];have:fromS.size=4:=rfl;omega
     have hW1:=a1f fromS [a2a d.num] (by simp) (by simp) (by decide) (by simp;omega)
     have hW2:=a1f (a0z [fromS,a2a d.num]) [atS d.ch d.ln d.wd,d.form,c4v d.stem d.mark] (by simp) (by simp) (by omega) (by simp;omega)
     have hF:=d5b d (by omega) v5 v6 v7
     have i1:Int.toNat 2=2:=rfl
     refine a3c ⟨[64,74,75],[(65,[64]),(72,[572]),(73,[572])],[65,72,73]⟩ [(0,false),(1,false),(2,false),(3,false),(4,false),(5,false),(6,false),(7,false),(8,false),(9,false),(10,false),(11,false),(12,false),(13,false),(14,false),(15,false),(16,false),(17,false),(18,false),(19,false),(20,false),(21,false)] mixed (by kernel_rfl) ?_
     simp only [a4f,List.getElem?_cons_zero,List.getElem?_cons_succ]
     simp (maxSteps:=2000000) only [go_sem,hG,hOw,hk1,i1,Nat.reduceMul,List.drop_succ_cons,List.drop_zero]
     refine ⟨by omega,?_⟩
     refine ⟨_,a0e (a4l d.num v2.1 v2.2),?_⟩
     simp only [go_sem,hG,hOw]
     (repeat' with_reducible first|refine And.intro ?_ ?_|intro _|refine exP ?_ ?_);all_goals try omega
     refine ⟨_,a6t [(0,64)] [] (hW1) (by (simp only [go_sem])<;>simp [fromS]) (by (simp only [go_sem,a1k,a0r,a0i,a1p])<;>simp [fromS]) (by simp [a2p,apart,toR]) (by simp [a0k,usH,toR,fromS]) (by simp [a7b,lkR,toR]) rfl (by simp [tgt,a2g]) (by simp [tgt,a2g]) (by simp [upT,a3l,a6c,a1o,usH,lkR,toR,a2g,fromS]) (by simp [b2v,usH,tgt,go_sem]) (by simp [a3o,a1o,usH,lkR,toR,fromS]) (by simp [a5f,usH,fromS]),?_⟩
     simp (maxSteps:=2000000) only [go_sem,hG,hOw,hk1,i1,Nat.reduceMul,List.drop_succ_cons,List.drop_zero]
     refine ⟨by omega,?_⟩
     refine ⟨_,c0f [(5,572)] (hF) (by (simp only [go_sem])<;>simp [hk1]) rfl (by simp [tgt,a2g]) (by simp [upT,a3l,a6c,a1o,usH,lkR,toR,a2g,hk1]) (by simp [b2v,usH,tgt,go_sem]) (by simp [a3o,a1o,usH,lkR,toR,hk1]) (by simp [a5f,usH,hk1]),?_⟩
     simp only [go_sem,hG,hOw]
     (repeat' with_reducible first|refine And.intro ?_ ?_|intro _|refine exP ?_ ?_);all_goals try omega
     refine ⟨_,a6t [(0,572)] [] (hW2) (by (simp only [go_sem])<;>simp) (by (simp only [go_sem,a1k,a0r,a0i,a1p])<;>simp) (by simp [a2p,apart,toR]) (by simp [a0k,usH,toR]) (by simp [a7b,lkR,toR]) rfl (by simp [tgt,a2g]) (by simp [tgt,a2g]) (by simp [upT,a3l,a6c,a1o,usH,lkR,toR,a2g]) (by simp [b2v,usH,tgt,go_sem]) (by simp [a3o,a1o,usH,lkR,toR]) (by simp [a5f,usH]),?_⟩
     simp only [go_sem,hG,hOw]
     (repeat' with_reducible first|refine And.intro ?_ ?_|intro _|refine exP ?_ ?_);all_goals try omega
     exact ⟨k+1,by omega,by omega,a1g [(3,some 3),(100,some 75)] (by (simp only [hstep2,hlen2,hrow,go_sem])<;>simp [hstep2,hlen2,hrow]) (by (simp only [hstep2,hlen2,hrow,go_sem,a1k,a0r,a0i,a1p])<;>simp [hstep2,hlen2,hrow]) (by simp [a2p,apart]) (by simp [a0k,usH]) (by simp [hNm,lkR,a0x])⟩
    ·have hrow:b1n d=a0z (a0z [plcS,a2a d.num]::[atS d.ch d.ln d.wd,c4v d.stem d.mark]):=by unfold b1n fmP fmN;rw [hk1];rfl
     have hj:(a0z [plcS,a2a d.num]).size≤1000:=by rw [a5j];have:plcS.size=5:=rfl;omega
     have hW1:=a1f plcS [a2a d.num] (by simp) (by simp) (by decide) (by simp;omega)
     have hW2:=a1f (a0z [plcS,a2a d.num]) [atS d.ch d.ln d.wd,c4v d.stem d.mark] (by simp) (by simp) (by omega) (by simp;omega)
     have hF:=d8h d (by omega) v5 v6 v7
     have i1:Int.toNat 3=3:=rfl
     refine a3c ⟨[64,74,75],[(65,[64]),(72,[572]),(73,[572])],[65,72,73]⟩ [(0,false),(1,false),(2,false),(3,false),(4,false),(5,false),(6,false),(7,false),(8,false),(9,false),(10,false),(11,false),(12,false),(13,false),(14,false),(15,false),(16,false),(17,false),(18,false),(19,false),(20,false),(21,false)] mixed (by kernel_rfl) ?_
     simp only [a4f,List.getElem?_cons_zero,List.getElem?_cons_succ]
     simp (maxSteps:=2000000) only [go_sem,hG,hOw,hk1,i1,Nat.reduceMul,List.drop_succ_cons,List.drop_zero]
     refine ⟨by omega,?_⟩
     refine ⟨_,a0e (a4l d.num v2.1 v2.2),?_⟩
     simp only [go_sem,hG,hOw]
     (repeat' with_reducible first|refine And.intro ?_ ?_|intro _|refine exP ?_ ?_);all_goals try omega
     refine ⟨_,a6t [(0,64)] [] (hW1) (by (simp only [go_sem])<;>simp [plcS]) (by (simp only [go_sem,a1k,a0r,a0i,a1p])<;>simp [plcS]) (by simp [a2p,apart,toR]) (by simp [a0k,usH,toR,plcS]) (by simp [a7b,lkR,toR]) rfl (by simp [tgt,a2g]) (by simp [tgt,a2g]) (by simp [upT,a3l,a6c,a1o,usH,lkR,toR,a2g,plcS]) (by simp [b2v,usH,tgt,go_sem]) (by simp [a3o,a1o,usH,lkR,toR,plcS]) (by simp [a5f,usH,plcS]),?_⟩
     simp (maxSteps:=2000000) only [go_sem,hG,hOw,hk1,i1,Nat.reduceMul,List.drop_succ_cons,List.drop_zero]
     refine ⟨by omega,?_⟩
     refine ⟨_,c0f [(5,572)] (hF) (by (simp only [go_sem])<;>simp [hk1]) rfl (by simp [tgt,a2g]) (by simp [upT,a3l,a6c,a1o,usH,lkR,toR,a2g,hk1]) (by simp [b2v,usH,tgt,go_sem]) (by simp [a3o,a1o,usH,lkR,toR,hk1]) (by simp [a5f,usH,hk1]),?_⟩
     simp only [go_sem,hG,hOw]
     (repeat' with_reducible first|refine And.intro ?_ ?_|intro _|refine exP ?_ ?_);all_goals try omega
     refine ⟨_,a6t [(0,572)] [] (hW2) (by (simp only [go_sem])<;>simp) (by (simp only [go_sem,a1k,a0r,a0i,a1p])<;>simp) (by simp [a2p,apart,toR]) (by simp [a0k,usH,toR]) (by simp [a7b,lkR,toR]) rfl (by simp [tgt,a2g]) (by simp [tgt,a2g]) (by simp [upT,a3l,a6c,a1o,usH,lkR,toR,a2g]) (by simp [b2v,usH,tgt,go_sem]) (by simp [a3o,a1o,usH,lkR,toR]) (by simp [a5f,usH]),?_⟩
     simp only [go_sem,hG,hOw]
     (repeat' with_reducible first|refine And.intro ?_ ?_|intro _|refine exP ?_ ?_);all_goals try omega
     exact ⟨k+1,by omega,by omega,a1g [(3,some 3),(100,some 75)] (by (simp only [hstep2,hlen2,hrow,go_sem])<;>simp [hstep2,hlen2,hrow]) (by (simp only [hstep2,hlen2,hrow,go_sem,a1k,a0r,a0i,a1p])<;>simp [hstep2,hlen2,hrow]) (by simp [a2p,apart]) (by simp [a0k,usH]) (by simp [hNm,lkR,a0x])⟩
    ·have hrow:b1n d=a0z (a0z [voidS,a2a d.num]::[a2a d.of]):=by unfold b1n fmP fmN;rw [hk1];rfl
     have hj:(a0z [voidS,a2a d.num]).size≤1000:=by rw [a5j];have:voidS.size=4:=rfl;omega
     have hW1:=a1f voidS [a2a d.num] (by simp) (by simp) (by decide) (by simp;omega)
     have hW2:=a1f (a0z [voidS,a2a d.num]) [a2a d.of] (by simp) (by simp) (by omega) (by simp;omega)
     have hF:=d5a d v8
     have i1:Int.toNat 4=4:=rfl
     refine a3c ⟨[64,74,75],[(65,[64]),(72,[572]),(73,[572])],[65,72,73]⟩ [(0,false),(1,false),(2,false),(3,false),(4,false),(5,false),(6,false),(7,false),(8,false),(9,false),(10,false),(11,false),(12,false),(13,false),(14,false),(15,false),(16,false),(17,false),(18,false),(19,false),(20,false),(21,false)] mixed (by kernel_rfl) ?_
     simp only [a4f,List.getElem?_cons_zero,List.getElem?_cons_succ]
     simp (maxSteps:=2000000) only [go_sem,hG,hOw,hk1,i1,Nat.reduceMul,List.drop_succ_cons,List.drop_zero]
     refine ⟨by omega,?_⟩
     refine ⟨_,a0e (a4l d.num v2.1 v2.2),?_⟩
     simp only [go_sem,hG,hOw]
     (repeat' with_reducible first|refine And.intro ?_ ?_|intro _|refine exP ?_ ?_);all_goals try omega
     refine ⟨_,a6t [(0,64)] [] (hW1) (by (simp only [go_sem])<;>simp [voidS]) (by (simp only [go_sem,a1k,a0r,a0i,a1p])<;>simp [voidS]) (by simp [a2p,apart,toR]) (by simp [a0k,usH,toR,voidS]) (by simp [a7b,lkR,toR]) rfl (by simp [tgt,a2g]) (by simp [tgt,a2g]) (by simp [upT,a3l,a6c,a1o,usH,lkR,toR,a2g,voidS]) (by simp [b2v,usH,tgt,go_sem]) (by simp [a3o,a1o,usH,lkR,toR,voidS]) (by simp [a5f,usH,voidS]),?_⟩
     simp (maxSteps:=2000000) only [go_sem,hG,hOw,hk1,i1,Nat.reduceMul,List.drop_succ_cons,List.drop_zero]
     refine ⟨by omega,?_⟩
     refine ⟨_,c0f [(5,572)] (hF) (by (simp only [go_sem])<;>simp [hk1]) rfl (by simp [tgt,a2g]) (by simp [upT,a3l,a6c,a1o,usH,lkR,toR,a2g,hk1]) (by simp [b2v,usH,tgt,go_sem]) (by simp [a3o,a1o,usH,lkR,toR,hk1]) (by simp [a5f,usH,hk1]),?_⟩
     simp only [go_sem,hG,hOw]
     (repeat' with_reducible first|refine And.intro ?_ ?_|intro _|refine exP ?_ ?_);all_goals try omega
     refine ⟨_,a6t [(0,572)] [] (hW2) (by (simp only [go_sem])<;>simp) (by (simp only [go_sem,a1k,a0r,a0i,a1p])<;>simp) (by simp [a2p,apart,toR]) (by simp [a0k,usH,toR]) (by simp [a7b,lkR,toR]) rfl (by simp [tgt,a2g]) (by simp [tgt,a2g]) (by simp [upT,a3l,a6c,a1o,usH,lkR,toR,a2g]) (by simp [b2v,usH,tgt,go_sem]) (by simp [a3o,a1o,usH,lkR,toR]) (by simp [a5f,usH]),?_⟩
     simp only [go_sem,hG,hOw]
     (repeat' with_reducible first|refine And.intro ?_ ?_|intro _|refine exP ?_ ?_);all_goals try omega
     exact ⟨k+1,by omega,by omega,a1g [(3,some 3),(100,some 75)] (by (simp only [hstep2,hlen2,hrow,go_sem])<;>simp [hstep2,hlen2,hrow]) (by (simp only [hstep2,hlen2,hrow,go_sem,a1k,a0r,a0i,a1p])<;>simp [hstep2,hlen2,hrow]) (by simp [a2p,apart]) (by simp [a0k,usH]) (by simp [hNm,lkR,a0x])⟩
   ·have hlt:¬ (k:Int) < x.decs.length:=by omega
    have hke:k=x.decs.length:=by omega
    subst hke
    refine a0d _ _ _ ?_
    simp (maxSteps:=2000000) only [go_sem,hG,hOw,hlt]
    try (repeat' with_reducible first|refine And.intro ?_ ?_|intro _|refine exP ?_ ?_);all_goals try omega
    have e:a7m x x.decs.length=b7k x:=by unfold a7m b7k;rw [List.take_length]
    rw [e]
    exact Sub.refl _
 ·rw [if_neg he]
  refine a0b (ow:=fun _=>false) Tryz.func31 Tryz.ntmps31 rfl rfl fun G hG hOw hNm hB=>?_;simp only [go_sem,hG,hOw]
  refine a0a hC ?_
  simp (maxSteps:=2000000) only [go_sem,hG,hOw,he]
  (repeat' with_reducible first|refine And.intro ?_ ?_|intro _|refine exP ?_ ?_);all_goals try omega
  exact Subs.tup (.cons (.nil _ _) (.cons (.refl _) .nil))
open Go Pm
set_option maxHeartbeats 4000000
set_option maxRecDepth 100000
abbrev Rws:=List ByteArray
def f5t:Rws→Option (ByteArray×Rws)
 |w::r=>if a1h w=true then some (w,r) else none
 |[]=>none
def g3d:Rws→Option (Int×Rws)
 |s::r=>(a4o s).map fun v=>(v,r)
 |[]=>none
def g2g (l:Rws):Option ((ByteArray×UInt8)×Rws):=match f5t l with
 |none=>none
 |some (w,r)=>match g3d r with
  |none=>none
  |some (n,r')=>if n≤255 then some ((w,UInt8.ofNat n.toNat),r') else none
def f7d (l:Rws):Option ((Int×Int×Int)×Rws):=if a3d l=true then some ((nvS l 0,nvS l 1,nvS l 2),l.drop 3) else none
def SubR (r l:Rws):Prop:=(∀ x ∈ r,x ∈ l)∧r.length≤l.length
theorem SubR.refl (l:Rws):SubR l l:=⟨fun _ h=>h,Nat.le_refl _⟩
theorem SubR.trans {a b c:Rws} (h1:SubR a b) (h2:SubR b c):SubR a c:=⟨fun x hx=>h2.1 x (h1.1 x hx),Nat.le_trans h1.2 h2.2⟩
theorem SubR.size {r l:Rws} (h:SubR r l) (hl:∀ s ∈ l,s.size≤100000):∀ s ∈ r,s.size≤100000:=fun s hs=>hl s (h.1 s hs)
open Go Pm
set_option maxHeartbeats 4000000
set_option maxRecDepth 100000
def g3c (d:Dc) (q:ByteArray×UInt8):Dc:={ d with stem:=q.1,mark:=q.2 }
def g3b (d:Dc) (q:Int×Int×Int):Dc:={ d with ch:=q.1,ln:=q.2.1,wd:=q.2.2 }
def f2 (d:Dc) (l:Rws):Option (Dc×Rws):=match f5t l with
 |none=>none
 |some (w,r)=>match g2g r with
  |none=>none
  |some (q,r')=>some (g3c { d with form:=w } q,r')
def f4 (d:Dc) (l:Rws):Option (Dc×Rws):=match f7d l with
 |none=>none
 |some (p,r)=>f2 (g3b d p) r
end Go.Proofs.YtmjhfccbbfpppaaGreatDoor
