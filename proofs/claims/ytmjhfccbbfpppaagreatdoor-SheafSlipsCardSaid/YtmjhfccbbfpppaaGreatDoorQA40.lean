import Derived.Test.YtmjhfccbbfpppaaGreatDoorQA24
import Derived.Test.YtmjhfccbbfpppaaGreatDoorQA36
import Derived.Test.YtmjhfccbbfpppaaGreatDoorQA38
import Derived.Test.YtmjhfccbbfpppaaGreatDoorQA54
namespace Go.Proofs.YtmjhfccbbfpppaaGreatDoor
open Go Pm
set_option linter.unusedSimpArgs false
set_option linter.unusedVariables false
set_option maxHeartbeats 4000000
set_option maxRecDepth 100000
def formS:ByteArray:=⟨#[102,111,114,109]⟩
def fromS:ByteArray:=⟨#[102,114,111,109]⟩
def plcS:ByteArray:=⟨#[112,108,97,99,101]⟩
def voidS:ByteArray:=⟨#[118,111,105,100]⟩
def cutS:ByteArray:=⟨#[99,117,116]⟩
def c5y (stem:ByteArray) (mark:UInt8):ByteArray:=a0w [stem,a2h mark.toNat]
def a8d (r:Rl):ByteArray:=a0w [(if r.put=⟨#[]⟩ then a0w [cutS,r.cut] else a0w [a0w [cutS,r.cut],r.put]),a2h r.least]
def fmN (k:Int):ByteArray:=if k=1 then formS else if k=2 then fromS else if k=3 then plcS else if k=4 then voidS else ⟨#[]⟩
def fmP (d:Dc):List ByteArray:=if (d.kind.toNat:Int)=1 then [d.form,c5y d.stem d.mark] else if (d.kind.toNat:Int)=2 then [atS d.ch d.ln d.wd,d.form,c5y d.stem d.mark]
 else if (d.kind.toNat:Int)=3 then [atS d.ch d.ln d.wd,c5y d.stem d.mark] else [a2h d.of]
def b1r (d:Dc):ByteArray:=a0w (a0w [fmN d.kind.toNat,a2h d.num]::fmP d)
def b9b (x:Lx):List ByteArray:=x.rules.map a8d++x.decs.map b1r
theorem c0b (stem:ByteArray) (mark:UInt8) (hs:stem.size≤1000):a0l Tryz.prog 328 [.agg [str stem,u8 mark]] (fun _=>str (c5y stem mark)):=by
 have hm:mark.toNat < 256:=mark.toNat_lt
 have hI:=a4q mark.toNat (by omega) (by omega)
 have hsz:=a2t (n:=mark.toNat) (by omega) (by omega)
 have hW:=a1f stem [a2h mark.toNat] (by simp) (by simp) (by omega) (by simp;omega)
 refine a0b (ow:=fun i=>[9,1000009].contains i) Tryz.func328 Tryz.ntmps328 rfl rfl fun G hG hOw hNm hB=>?_;simp only [go_sem,hG,hOw]
 refine a2o ⟨[9],[],[]⟩ [(0,false),(1,false),(2,false),(3,false),(4,false),(5,false),(6,false),(7,true),(8,false)] mixed (by kernel_rfl) ?_
 simp only [a4b,List.getElem?_cons_zero,List.getElem?_cons_succ]
 simp only [go_sem,hG,hOw]
 refine ⟨by omega,?_⟩
 refine ⟨_,a0e hI,?_⟩
 simp only [go_sem,hG,hOw]
 refine a0c [(0,9)] [] (hW) ?_
 simp only [go_sem,hG,hOw]
 try (repeat' with_reducible first|refine And.intro ?_ ?_|intro _|refine exP ?_ ?_);all_goals try omega
 rfl
theorem e1t (d:Dc) (hs:d.stem.size≤1000):Tri Tryz.prog 327 [.agg (dcC d)] [] (fun _=>.ret (.own 5 0 2 1) [(5,.box (c5z [d.form,c5y d.stem d.mark]))]):=by
 refine a0k (fun i=>[8,1000008].contains i) Tryz.func327 Tryz.ntmps327 rfl rfl fun G hG hOw hNm=>?_;simp only [go_sem,hG,hOw]
 refine a0r mixed (by kernel_rfl) ?_
 simp only [go_sem,hG,hOw]
 refine ⟨_,a0e (c0b d.stem d.mark hs),?_⟩
 simp only [go_sem,hG,hOw]
 try (repeat' with_reducible first|refine And.intro ?_ ?_|intro _|refine exP ?_ ?_);all_goals try omega
 exact ⟨[(5,some 8)],by (simp only [b8m,go_sem,a1k,a0s,a0j,a1q,apart,a2r,a0q])<;>simp [c5z,a1z,str]⟩
theorem d8c (d:Dc) (hs:d.stem.size≤1000) (h1:in9 d.ch) (h2:in9 d.ln) (h3:in9 d.wd):Tri Tryz.prog 331 [.agg (dcC d)] [] (fun _=>.ret (.own 5 0 3 1) [(5,.box (c5z [atS d.ch d.ln d.wd,d.form,c5y d.stem d.mark]))]):=by
 refine a0k (fun i=>[11,1000011].contains i) Tryz.func331 Tryz.ntmps331 rfl rfl fun G hG hOw hNm=>?_;simp only [go_sem,hG,hOw]
 refine a0r mixed (by kernel_rfl) ?_
 simp only [go_sem,hG,hOw]
 refine ⟨_,a0e (d3v d.ch d.ln d.wd h1 h2 h3),?_⟩
 simp only [go_sem,hG,hOw]
 refine ⟨_,a0e (c0b d.stem d.mark hs),?_⟩
 simp only [go_sem,hG,hOw]
 try (repeat' with_reducible first|refine And.intro ?_ ?_|intro _|refine exP ?_ ?_);all_goals try omega
 exact ⟨[(5,some 11)],by (simp only [b8m,go_sem,a1k,a0s,a0j,a1q,apart,a2r,a0q])<;>simp [c5z,a1z,str]⟩
theorem d6t (d:Dc) (hs:d.stem.size≤1000) (h1:in9 d.ch) (h2:in9 d.ln) (h3:in9 d.wd):Tri Tryz.prog 333 [.agg (dcC d)] [] (fun _=>.ret (.own 5 0 2 1) [(5,.box (c5z [atS d.ch d.ln d.wd,c5y d.stem d.mark]))]):=by
 refine a0k (fun i=>[9,1000009].contains i) Tryz.func333 Tryz.ntmps333 rfl rfl fun G hG hOw hNm=>?_;simp only [go_sem,hG,hOw]
 refine a0r mixed (by kernel_rfl) ?_
 simp only [go_sem,hG,hOw]
 refine ⟨_,a0e (d3v d.ch d.ln d.wd h1 h2 h3),?_⟩
 simp only [go_sem,hG,hOw]
 refine ⟨_,a0e (c0b d.stem d.mark hs),?_⟩
 simp only [go_sem,hG,hOw]
 try (repeat' with_reducible first|refine And.intro ?_ ?_|intro _|refine exP ?_ ?_);all_goals try omega
 exact ⟨[(5,some 9)],by (simp only [b8m,go_sem,a1k,a0s,a0j,a1q,apart,a2r,a0q])<;>simp [c5z,a1z,str]⟩
theorem d7v (d:Dc) (h:in9 d.of):Tri Tryz.prog 335 [.agg (dcC d)] [] (fun _=>.ret (.own 5 0 1 1) [(5,.box (c5z [a2h d.of]))]):=by
 refine a0k (fun i=>[6,1000006].contains i) Tryz.func335 Tryz.ntmps335 rfl rfl fun G hG hOw hNm=>?_;simp only [go_sem,hG,hOw]
 refine a0a (a4q d.of h.1 h.2) ?_
 simp only [go_sem,hG,hOw]
 try (repeat' with_reducible first|refine And.intro ?_ ?_|intro _|refine exP ?_ ?_);all_goals try omega
 exact ⟨[(5,some 6)],by (simp only [b8m,go_sem,a1k,a0s,a0j,a1q,apart,a2r,a0q])<;>simp [c5z,a1z,str]⟩
open Go Pm
set_option maxHeartbeats 4000000
set_option maxRecDepth 100000
structure VRl (r:Rl):Prop where
 cut:r.cut.size≤12
 put:r.put.size≤12
 least:in9 r.least
theorem g0f {r:Rl} (h:b6w r=true):VRl r:=by
 simp only [b6w,a6a,inB,Bool.and_eq_true,decide_eq_true_eq] at h
 obtain ⟨⟨⟨h1,h2⟩,_⟩,h3⟩:=h
 exact ⟨by omega,by omega,by omega,by omega⟩
structure VDc (d:Dc):Prop where
 kind:(d.kind.toNat:Int)=1∨(d.kind.toNat:Int)=2∨(d.kind.toNat:Int)=3∨(d.kind.toNat:Int)=4
 num:in9 d.num
 form:d.form.size≤12
 stem:d.stem.size≤12
 pl:in9 d.ch∧in9 d.ln∧in9 d.wd
 of:in9 d.of
theorem a4u (a b:ByteArray):(a0w [a,b]).size=a.size+(1+b.size):=by
 rw [e7a,ByteArray.size_append,ByteArray.size_append];rfl
theorem c2z {t:List Ch} (ht:a1r t=true) {a b w:Int} (h:a4j t a b w=true):in9 a∧in9 b∧in9 w:=by
 have hok:=c2r ht
 unfold a4j at h
 cases hl:a6q t a b with
 |none=>rw [hl] at h;cases h
 |some l =>
  rw [hl] at h
  simp only at h
  have h3:=inB_iff.1 h
  have h4:=c4o hok hl
  unfold a6q at hl
  split at hl
  ·rename_i hab
   obtain ⟨ha,hb⟩:=hab
   simp only [Option.bind_eq_some_iff] at hl
   obtain ⟨c,h1,h2⟩:=hl
   obtain ⟨q1,e1⟩:=List.getElem?_eq_some_iff.1 h1
   obtain ⟨q2,_⟩:=List.getElem?_eq_some_iff.1 h2
   have hc:=(hok.2 c (List.mem_of_getElem? h1)).1
   have ht1:=hok.1
   exact ⟨⟨ha,by omega⟩,⟨hb,by omega⟩,by omega,by omega⟩
  ·cases hl
theorem g4x {t:List Ch} (ht:a1r t=true) {d:Dc} (h:d3t t d=true):VDc d:=by
 unfold d3t at h
 rw [Bool.and_eq_true] at h
 obtain ⟨h1,h2⟩:=h
 have hn:=inB_iff.1 h1
 have hw:∀ s:ByteArray,a1b s=true→s.size≤12:=fun s hs=>(a2n hs).2
 have hh:b0h d.stem d.mark=true→d.stem.size≤12:=fun hs=>by
  unfold b0h at hs
  rw [Bool.and_eq_true] at hs
  exact hw _ hs.1
 have z9:in9 0:=⟨by omega,by omega⟩
 have e0:∀ s:ByteArray,s=⟨#[]⟩→s.size≤12:=by rintro s rfl;decide
 unfold c5v at h2
 split at h2
 ·rename_i hk
  simp only [Bool.and_eq_true,e4z,decide_eq_true_eq] at h2
  obtain ⟨a,⟨b1,b2,b3⟩,c,e⟩:=h2
  exact ⟨Or.inl hk,⟨by omega,by omega⟩,hw _ a,hh c,by rw [b1,b2,b3];exact ⟨z9,z9,z9⟩,by rw [e];exact z9⟩
 split at h2
 ·rename_i hk
  simp only [Bool.and_eq_true,e4z,decide_eq_true_eq] at h2
  obtain ⟨a,b,c,e⟩:=h2
  exact ⟨Or.inr (Or.inl hk),⟨by omega,by omega⟩,hw _ a,hh c,c2z ht b,by rw [e];exact z9⟩
 split at h2
 ·rename_i hk
  simp only [Bool.and_eq_true,e4z,decide_eq_true_eq] at h2
  obtain ⟨a,b,c,e⟩:=h2
  exact ⟨Or.inr (Or.inr (Or.inl hk)),⟨by omega,by omega⟩,e0 _ a,hh c,c2z ht b,by rw [e];exact z9⟩
 split at h2
 ·rename_i hk
  simp only [Bool.and_eq_true,e4z,g1j,decide_eq_true_eq] at h2
  obtain ⟨a,⟨b1,b2,b3⟩,⟨c,c'⟩,e⟩:=h2
  have he:=inB_iff.1 e
  exact ⟨Or.inr (Or.inr (Or.inr hk)),⟨by omega,by omega⟩,e0 _ a,e0 _ c,by rw [b1,b2,b3];exact ⟨z9,z9,z9⟩,⟨by omega,by omega⟩⟩
 ·cases h2
def a7j (x:Lx) (k:Nat):List ByteArray:=x.rules.map a8d++(x.decs.take k).map b1r
theorem c7u (x:Lx) (k:Nat) (hk:k < x.decs.length):a7j x (k+1)=a7j x k++[b1r x.decs[k]]:=by
 unfold a7j
 rw [a2l b1r x.decs k hk,List.append_assoc]
theorem e7o {t:List Ch} {l:List Dc} (h:a3g (b5f t) [] l=true):∀ d ∈ l,d3t t d=true:=by
 intro d hd
 cases hb:d3t t d with
 |true=>rfl
 |false =>
  obtain ⟨k,hk,rfl⟩:=List.mem_iff_getElem.1 hd
  rw [a9u hk (by unfold b5f;rw [hb,Bool.and_false])] at h
  cases h
theorem c3s (t:List Ch) (x:Lx) (hb:(∀ r ∈ x.rules,bdR r)∧(∀ d ∈ x.decs,bdD d)∧x.rules.length≤1000∧x.decs.length≤1000):a0l Tryz.prog 31 [txE 0 t,lxE 0 x] (fun n=>.tup [a0o n (if b7u t x=0 then b9b x else []),i64 (b7u t x)]):=by
 have hC:=d2k t x hb
 by_cases he:b7u t x=0
 ·rw [he] at hC
  rw [he,if_pos rfl]
  have hv:a1r t=true∧f9t t x=true:=by
   unfold b7u at he
   split at he
   ·split at he
    ·exact ⟨by assumption,by assumption⟩
    ·cases he
   ·cases he
  obtain ⟨ht,hlx⟩:=hv
  have hx:=hlx
  unfold f9t at hx
  simp only [Bool.and_eq_true,decide_eq_true_eq] at hx
  obtain ⟨⟨⟨hr12,hd20⟩,hrs⟩,hds⟩:=hx
  have hRv:∀ r ∈ x.rules,VRl r:=fun r hr=>g0f (List.all_eq_true.1 hrs r hr)
  refine a0b (ow:=fun i=>[28,36,43,64,1000028,1000036,1000043,1000064].contains i) Tryz.func31 Tryz.ntmps31 rfl rfl fun G hG hOw hNm hB=>?_;simp only [go_sem,hG,hOw]
  refine a0a hC ?_
  simp only [go_sem,hG,hOw]
  (repeat' with_reducible first|refine And.intro ?_ ?_|intro _|refine exP ?_ ?_);all_goals try omega
  refine a2z (fun _:Unit=>St.of [(3,.ptr 3 0),(7,.own 100 0 (x.rules.map a8d).length 1)] [(3,.box (lxC 0 x)),(100,.arr 9 1 ((x.rules.map a8d).map a1z))]) (fun _=>True) ?_ ?_
  ·refine a0i (fun k:Nat=>St.of [(3,.ptr 3 0),(7,.own 100 0 ((x.rules.take k).map a8d).length 1),(20,rls 0 x.rules),(21,i64 x.rules.length),(22,i64 k)] [(3,.box (lxC 0 x)),(100,.arr 9 1 (((x.rules.take k).map a8d).map a1z))]) (fun k=>k≤x.rules.length) (fun k=>x.rules.length - k) 0 (by simp) (a1i [(3,some 3),(100,none)] (by (simp only [List.take_zero,List.map_nil,List.length_nil,go_sem])<;>simp [List.take_zero,List.map_nil,List.length_nil]) (by (simp only [List.take_zero,List.map_nil,List.length_nil,go_sem,a1k,a0s,a0j,a1q])<;>simp [List.take_zero,List.map_nil,List.length_nil]) (by simp [a2r,apart]) (by simp [a0q,usH]) (by simp [hNm,lkR,a0z])) ?_
   rintro k hk
   by_cases hkl:k < x.rules.length
   ·have hlt:(k:Int) < x.rules.length:=by omega
    obtain ⟨r,hr⟩:∃ r,r=x.rules[k]:=⟨_,rfl⟩
    obtain ⟨v1,v2,v3⟩:=hRv r (by rw [hr];exact List.getElem_mem hkl)
    have hstep:(x.rules.take (k+1)).map a8d=(x.rules.take k).map a8d++[a8d r]:=by rw [a2l a8d x.rules k hkl,hr]
    obtain ⟨U,hU⟩:∃ U,U=(x.rules.take k).map a8d:=⟨_,rfl⟩
    have hUl:U.length≤1000:=by rw [hU];simp;omega
    rw [← hU] at hstep ⊢
    have hstep2:List.map a1z (List.map a8d (x.rules.take (k+1)))=List.map a1z U++[[.v (.string (a8d r))]]:=by rw [hstep,List.map_append];rfl
    have hlen2:(List.map a8d (x.rules.take (k+1))).length=U.length+1:=by rw [hstep];simp
    have hW1:=a1f cutS [r.cut] (by simp) (by simp) (by decide) (by simp;omega)
    have hc3:cutS.size=3:=rfl
    have hj1:(a0w [cutS,r.cut]).size≤100:=by rw [a4u];omega
    have hj2:(a0w [a0w [cutS,r.cut],r.put]).size≤200:=by rw [a4u];omega
    have hmin:min (k+1) x.rules.length=U.length+1:=by rw [hU];simp;omega
    have hW2:=a1f (a0w [cutS,r.cut]) [r.put] (by simp) (by simp) (by omega) (by simp;omega)
    have hns:=a2t v3.1 v3.2
    refine a0d _ _ _ ?_
    simp (maxSteps:=2000000) only [go_sem,hG,hOw,hlt,← hr]
    (repeat' with_reducible first|refine And.intro ?_ ?_|intro _|refine exP ?_ ?_);all_goals try omega
    refine a0c [(0,28)] [] (hW1) ?_ (by (simp only [go_sem])<;>simp [cutS]) (by (simp only [go_sem,a1k,a0s,a0j,a1q])<;>simp [cutS]) (by simp [a0q,usH,toR,cutS])
    by_cases hp:r.put=⟨#[]⟩
    ·have hW3:=a1f (a0w [cutS,r.cut]) [a2h r.least] (by simp) (by simp) (by omega) (by simp;omega)
     have hrow:a8d r=a0w [a0w [cutS,r.cut],a2h r.least]:=by unfold a8d;rw [if_pos hp]
     simp (maxSteps:=2000000) only [go_sem,hG,hOw,decide_eq_true hp,hp]
     (repeat' with_reducible first|refine And.intro ?_ ?_|intro _|refine exP ?_ ?_);all_goals try omega
     refine a0a (a4q r.least v3.1 v3.2) ?_
     simp only [go_sem,hG,hOw]
     (repeat' with_reducible first|refine And.intro ?_ ?_|intro _|refine exP ?_ ?_);all_goals try omega
     refine a0c [(0,43)] [] (hW3) ?_
     simp only [go_sem,hG,hOw]
     (repeat' with_reducible first|refine And.intro ?_ ?_|intro _|refine exP ?_ ?_);all_goals try omega
     exact ⟨k+1,by omega,by omega,a1i [(3,some 3),(100,some 46)] (by (simp only [hstep2,hlen2,hmin,hrow,go_sem])<;>simp [hstep2,hlen2,hmin,hrow]) (by (simp only [hstep2,hlen2,hmin,hrow,go_sem,a1k,a0s,a0j,a1q])<;>simp [hstep2,hlen2,hmin,hrow]) (by simp [a2r,apart]) (by simp [a0q,usH]) (by simp [hNm,lkR,a0z])⟩
    ·have hW3:=a1f (a0w [a0w [cutS,r.cut],r.put]) [a2h r.least] (by simp) (by simp) (by omega) (by simp;omega)
     have hrow:a8d r=a0w [a0w [a0w [cutS,r.cut],r.put],a2h r.least]:=by unfold a8d;rw [if_neg hp]
     simp (maxSteps:=2000000) only [go_sem,hG,hOw,decide_eq_false hp,Bool.not_false]
     (repeat' with_reducible first|refine And.intro ?_ ?_|intro _|refine exP ?_ ?_);all_goals try omega
     refine a0c [(0,36)] [] (hW2) ?_
     simp only [go_sem,hG,hOw]
     (repeat' with_reducible first|refine And.intro ?_ ?_|intro _|refine exP ?_ ?_);all_goals try omega
     refine a0a (a4q r.least v3.1 v3.2) ?_
     simp only [go_sem,hG,hOw]
     (repeat' with_reducible first|refine And.intro ?_ ?_|intro _|refine exP ?_ ?_);all_goals try omega
     refine a0c [(0,43)] [] (hW3) ?_
     simp only [go_sem,hG,hOw]
     (repeat' with_reducible first|refine And.intro ?_ ?_|intro _|refine exP ?_ ?_);all_goals try omega
     exact ⟨k+1,by omega,by omega,a1i [(3,some 3),(100,some 46)] (by (simp only [hstep2,hlen2,hmin,hrow,go_sem])<;>simp [hstep2,hlen2,hmin,hrow]) (by (simp only [hstep2,hlen2,hmin,hrow,go_sem,a1k,a0s,a0j,a1q])<;>simp [hstep2,hlen2,hmin,hrow]) (by simp [a2r,apart]) (by simp [a0q,usH]) (by simp [hNm,lkR,a0z])⟩
   ·have hlt:¬ (k:Int) < x.rules.length:=by omega
    have hke:k=x.rules.length:=by omega
    subst hke
    rw [List.take_length]
    refine a0d _ _ _ ?_
    simp (maxSteps:=2000000) only [go_sem,hG,hOw,hlt]
    try (repeat' with_reducible first|refine And.intro ?_ ?_|intro _|refine exP ?_ ?_);all_goals try omega
    exact ⟨(),a1m [(3,some 3),(100,some 100)]⟩
  ·rintro _ _
   have hDv:∀ d ∈ x.decs,VDc d:=fun d hd=>g4x ht (e7o hds d hd)
   simp only [go_sem,hG,hOw]
   (repeat' with_reducible first|refine And.intro ?_ ?_|intro _|refine exP ?_ ?_);all_goals try omega
   refine a0i (fun k:Nat=>St.of [(3,.ptr 3 0),(7,.own 100 0 (a7j x k).length 1),(49,dcs 0 x.decs),(50,i64 x.decs.length),(51,i64 k)] [(3,.box (lxC 0 x)),(100,.arr 9 1 ((a7j x k).map a1z))]) (fun k=>k≤x.decs.length) (fun k=>x.decs.length - k) 0 (by simp) (by unfold a7j;exact a1m [(3,some 3),(100,some 100)] (by (simp only [go_sem])<;>simp [List.take_zero,List.map_nil,List.append_nil]) (by (simp only [go_sem,a1k,a0s,a0j,a1q])<;>simp [List.take_zero,List.map_nil,List.append_nil])) ?_
   rintro k hk
   by_cases hkl:k < x.decs.length
   ·have hlt:(k:Int) < x.decs.length:=by omega
    obtain ⟨d,hd⟩:∃ d,d=x.decs[k]:=⟨_,rfl⟩
    obtain ⟨v1,v2,v3,v4,⟨v5,v6,v7⟩,v8⟩:=hDv d (by rw [hd];exact List.getElem_mem hkl)
    have hstep:=c7u x k hkl
    rw [← hd] at hstep
    have hUl0:(a7j x k).length=x.rules.length+k:=by unfold a7j;simp;omega
    obtain ⟨U,hU⟩:∃ U,U=a7j x k:=⟨_,rfl⟩
    rw [← hU] at hstep hUl0 ⊢
    have hstep2:List.map a1z (a7j x (k+1))=List.map a1z U++[[.v (.string (b1r d))]]:=by rw [hstep,List.map_append];rfl
    have hlen2:(a7j x (k+1)).length=U.length+1:=by rw [hstep];simp
    have hns:=a2t v2.1 v2.2
    refine a0d _ _ _ ?_
    simp (maxSteps:=2000000) only [go_sem,hG,hOw,hlt,← hd]
    (repeat' with_reducible first|refine And.intro ?_ ?_|intro _|refine exP ?_ ?_);all_goals try omega
    have hu:(c5y d.stem d.mark).size≤1000:=by
     have hm:d.mark.toNat < 256:=d.mark.toNat_lt
     have:=a2t (n:=d.mark.toNat) (by omega) (by omega)
     unfold c5y;rw [a4u];omega
    have hats:=c9f _ _ _ v5 v6 v7
    have hof:=a2t v8.1 v8.2
    rcases v1 with hk1|hk1|hk1|hk1
    ·have hrow:b1r d=a0w (a0w [formS,a2h d.num]::[d.form,c5y d.stem d.mark]):=by unfold b1r fmP fmN;rw [if_pos hk1,if_pos hk1]
     have hj:(a0w [formS,a2h d.num]).size≤1000:=by rw [a4u];have:formS.size=4:=rfl;omega
     have hW1:=a1f formS [a2h d.num] (by simp) (by simp) (by decide) (by simp;omega)
     have hW2:=a1f (a0w [formS,a2h d.num]) [d.form,c5y d.stem d.mark] (by simp) (by simp) (by omega) (by simp;omega)
     have hF:=e1t d (by omega)
     have i1:Int.toNat 1=1:=rfl
     refine a2o ⟨[64,74,75],[(65,[64]),(72,[572]),(73,[572])],[65,72,73]⟩ [(0,false),(1,false),(2,false),(3,false),(4,false),(5,false),(6,false),(7,false),(8,false),(9,false),(10,false),(11,false),(12,false),(13,false),(14,false),(15,false),(16,false),(17,false),(18,false),(19,false),(20,false),(21,false)] mixed (by kernel_rfl) ?_
     simp only [a4b,List.getElem?_cons_zero,List.getElem?_cons_succ]
     simp (maxSteps:=2000000) only [go_sem,hG,hOw,hk1,i1,Nat.reduceMul,List.drop_succ_cons,List.drop_zero]
     refine ⟨by omega,?_⟩
     refine ⟨_,a0e (a4q d.num v2.1 v2.2),?_⟩
     simp only [go_sem,hG,hOw]
     (repeat' with_reducible first|refine And.intro ?_ ?_|intro _|refine exP ?_ ?_);all_goals try omega
     refine ⟨_,a7f [(0,64)] [] (hW1) (by (simp only [go_sem])<;>simp [formS]) (by (simp only [go_sem,a1k,a0s,a0j,a1q])<;>simp [formS]) (by simp [a2r,apart,toR]) (by simp [a0q,usH,toR,formS]) (by simp [a7c,lkR,toR]) rfl (by simp [tgt,a2i]) (by simp [tgt,a2i]) (by simp [upT,a3m,a6b,a1o,usH,lkR,toR,a2i,formS]) (by simp [b3x,usH,tgt,go_sem]) (by simp [a3p,a1o,usH,lkR,toR,formS]) (by simp [a5n,usH,formS]),?_⟩
     simp (maxSteps:=2000000) only [go_sem,hG,hOw,hk1,i1,Nat.reduceMul,List.drop_succ_cons,List.drop_zero]
     refine ⟨by omega,?_⟩
     refine ⟨_,c1d [(5,572)] (hF) (by (simp only [go_sem])<;>simp [hk1]) rfl (by simp [tgt,a2i]) (by simp [upT,a3m,a6b,a1o,usH,lkR,toR,a2i,hk1]) (by simp [b3x,usH,tgt,go_sem]) (by simp [a3p,a1o,usH,lkR,toR,hk1]) (by simp [a5n,usH,hk1]),?_⟩
     simp only [go_sem,hG,hOw]
     (repeat' with_reducible first|refine And.intro ?_ ?_|intro _|refine exP ?_ ?_);all_goals try omega
     refine ⟨_,a7f [(0,572)] [] (hW2) (by (simp only [go_sem])<;>simp) (by (simp only [go_sem,a1k,a0s,a0j,a1q])<;>simp) (by simp [a2r,apart,toR]) (by simp [a0q,usH,toR]) (by simp [a7c,lkR,toR]) rfl (by simp [tgt,a2i]) (by simp [tgt,a2i]) (by simp [upT,a3m,a6b,a1o,usH,lkR,toR,a2i]) (by simp [b3x,usH,tgt,go_sem]) (by simp [a3p,a1o,usH,lkR,toR]) (by simp [a5n,usH]),?_⟩
     simp only [go_sem,hG,hOw]
     (repeat' with_reducible first|refine And.intro ?_ ?_|intro _|refine exP ?_ ?_);all_goals try omega
     exact ⟨k+1,by omega,by omega,a1i [(3,some 3),(100,some 75)] (by (simp only [hstep2,hlen2,hrow,go_sem])<;>simp [hstep2,hlen2,hrow]) (by (simp only [hstep2,hlen2,hrow,go_sem,a1k,a0s,a0j,a1q])<;>simp [hstep2,hlen2,hrow]) (by simp [a2r,apart]) (by simp [a0q,usH]) (by simp [hNm,lkR,a0z])⟩
    ·have hrow:b1r d=a0w (a0w [fromS,a2h d.num]::[atS d.ch d.ln d.wd,d.form,c5y d.stem d.mark]):=by unfold b1r fmP fmN;rw [hk1];rfl
     have hj:(a0w [fromS,a2h d.num]).size≤1000:=by rw [a4u];have:fromS.size=4:=rfl;omega
     have hW1:=a1f fromS [a2h d.num] (by simp) (by simp) (by decide) (by simp;omega)
     have hW2:=a1f (a0w [fromS,a2h d.num]) [atS d.ch d.ln d.wd,d.form,c5y d.stem d.mark] (by simp) (by simp) (by omega) (by simp;omega)
     have hF:=d8c d (by omega) v5 v6 v7
     have i1:Int.toNat 2=2:=rfl
     refine a2o ⟨[64,74,75],[(65,[64]),(72,[572]),(73,[572])],[65,72,73]⟩ [(0,false),(1,false),(2,false),(3,false),(4,false),(5,false),(6,false),(7,false),(8,false),(9,false),(10,false),(11,false),(12,false),(13,false),(14,false),(15,false),(16,false),(17,false),(18,false),(19,false),(20,false),(21,false)] mixed (by kernel_rfl) ?_
     simp only [a4b,List.getElem?_cons_zero,List.getElem?_cons_succ]
     simp (maxSteps:=2000000) only [go_sem,hG,hOw,hk1,i1,Nat.reduceMul,List.drop_succ_cons,List.drop_zero]
     refine ⟨by omega,?_⟩
     refine ⟨_,a0e (a4q d.num v2.1 v2.2),?_⟩
     simp only [go_sem,hG,hOw]
     (repeat' with_reducible first|refine And.intro ?_ ?_|intro _|refine exP ?_ ?_);all_goals try omega
     refine ⟨_,a7f [(0,64)] [] (hW1) (by (simp only [go_sem])<;>simp [fromS]) (by (simp only [go_sem,a1k,a0s,a0j,a1q])<;>simp [fromS]) (by simp [a2r,apart,toR]) (by simp [a0q,usH,toR,fromS]) (by simp [a7c,lkR,toR]) rfl (by simp [tgt,a2i]) (by simp [tgt,a2i]) (by simp [upT,a3m,a6b,a1o,usH,lkR,toR,a2i,fromS]) (by simp [b3x,usH,tgt,go_sem]) (by simp [a3p,a1o,usH,lkR,toR,fromS]) (by simp [a5n,usH,fromS]),?_⟩
     simp (maxSteps:=2000000) only [go_sem,hG,hOw,hk1,i1,Nat.reduceMul,List.drop_succ_cons,List.drop_zero]
     refine ⟨by omega,?_⟩
     refine ⟨_,c1d [(5,572)] (hF) (by (simp only [go_sem])<;>simp [hk1]) rfl (by simp [tgt,a2i]) (by simp [upT,a3m,a6b,a1o,usH,lkR,toR,a2i,hk1]) (by simp [b3x,usH,tgt,go_sem]) (by simp [a3p,a1o,usH,lkR,toR,hk1]) (by simp [a5n,usH,hk1]),?_⟩
     simp only [go_sem,hG,hOw]
     (repeat' with_reducible first|refine And.intro ?_ ?_|intro _|refine exP ?_ ?_);all_goals try omega
     refine ⟨_,a7f [(0,572)] [] (hW2) (by (simp only [go_sem])<;>simp) (by (simp only [go_sem,a1k,a0s,a0j,a1q])<;>simp) (by simp [a2r,apart,toR]) (by simp [a0q,usH,toR]) (by simp [a7c,lkR,toR]) rfl (by simp [tgt,a2i]) (by simp [tgt,a2i]) (by simp [upT,a3m,a6b,a1o,usH,lkR,toR,a2i]) (by simp [b3x,usH,tgt,go_sem]) (by simp [a3p,a1o,usH,lkR,toR]) (by simp [a5n,usH]),?_⟩
     simp only [go_sem,hG,hOw]
     (repeat' with_reducible first|refine And.intro ?_ ?_|intro _|refine exP ?_ ?_);all_goals try omega
     exact ⟨k+1,by omega,by omega,a1i [(3,some 3),(100,some 75)] (by (simp only [hstep2,hlen2,hrow,go_sem])<;>simp [hstep2,hlen2,hrow]) (by (simp only [hstep2,hlen2,hrow,go_sem,a1k,a0s,a0j,a1q])<;>simp [hstep2,hlen2,hrow]) (by simp [a2r,apart]) (by simp [a0q,usH]) (by simp [hNm,lkR,a0z])⟩
    ·have hrow:b1r d=a0w (a0w [plcS,a2h d.num]::[atS d.ch d.ln d.wd,c5y d.stem d.mark]):=by unfold b1r fmP fmN;rw [hk1];rfl
     have hj:(a0w [plcS,a2h d.num]).size≤1000:=by rw [a4u];have:plcS.size=5:=rfl;omega
     have hW1:=a1f plcS [a2h d.num] (by simp) (by simp) (by decide) (by simp;omega)
     have hW2:=a1f (a0w [plcS,a2h d.num]) [atS d.ch d.ln d.wd,c5y d.stem d.mark] (by simp) (by simp) (by omega) (by simp;omega)
     have hF:=d6t d (by omega) v5 v6 v7
     have i1:Int.toNat 3=3:=rfl
     refine a2o ⟨[64,74,75],[(65,[64]),(72,[572]),(73,[572])],[65,72,73]⟩ [(0,false),(1,false),(2,false),(3,false),(4,false),(5,false),(6,false),(7,false),(8,false),(9,false),(10,false),(11,false),(12,false),(13,false),(14,false),(15,false),(16,false),(17,false),(18,false),(19,false),(20,false),(21,false)] mixed (by kernel_rfl) ?_
     simp only [a4b,List.getElem?_cons_zero,List.getElem?_cons_succ]
     simp (maxSteps:=2000000) only [go_sem,hG,hOw,hk1,i1,Nat.reduceMul,List.drop_succ_cons,List.drop_zero]
     refine ⟨by omega,?_⟩
     refine ⟨_,a0e (a4q d.num v2.1 v2.2),?_⟩
     simp only [go_sem,hG,hOw]
     (repeat' with_reducible first|refine And.intro ?_ ?_|intro _|refine exP ?_ ?_);all_goals try omega
     refine ⟨_,a7f [(0,64)] [] (hW1) (by (simp only [go_sem])<;>simp [plcS]) (by (simp only [go_sem,a1k,a0s,a0j,a1q])<;>simp [plcS]) (by simp [a2r,apart,toR]) (by simp [a0q,usH,toR,plcS]) (by simp [a7c,lkR,toR]) rfl (by simp [tgt,a2i]) (by simp [tgt,a2i]) (by simp [upT,a3m,a6b,a1o,usH,lkR,toR,a2i,plcS]) (by simp [b3x,usH,tgt,go_sem]) (by simp [a3p,a1o,usH,lkR,toR,plcS]) (by simp [a5n,usH,plcS]),?_⟩
     simp (maxSteps:=2000000) only [go_sem,hG,hOw,hk1,i1,Nat.reduceMul,List.drop_succ_cons,List.drop_zero]
     refine ⟨by omega,?_⟩
     refine ⟨_,c1d [(5,572)] (hF) (by (simp only [go_sem])<;>simp [hk1]) rfl (by simp [tgt,a2i]) (by simp [upT,a3m,a6b,a1o,usH,lkR,toR,a2i,hk1]) (by simp [b3x,usH,tgt,go_sem]) (by simp [a3p,a1o,usH,lkR,toR,hk1]) (by simp [a5n,usH,hk1]),?_⟩
     simp only [go_sem,hG,hOw]
     (repeat' with_reducible first|refine And.intro ?_ ?_|intro _|refine exP ?_ ?_);all_goals try omega
     refine ⟨_,a7f [(0,572)] [] (hW2) (by (simp only [go_sem])<;>simp) (by (simp only [go_sem,a1k,a0s,a0j,a1q])<;>simp) (by simp [a2r,apart,toR]) (by simp [a0q,usH,toR]) (by simp [a7c,lkR,toR]) rfl (by simp [tgt,a2i]) (by simp [tgt,a2i]) (by simp [upT,a3m,a6b,a1o,usH,lkR,toR,a2i]) (by simp [b3x,usH,tgt,go_sem]) (by simp [a3p,a1o,usH,lkR,toR]) (by simp [a5n,usH]),?_⟩
     simp only [go_sem,hG,hOw]
     (repeat' with_reducible first|refine And.intro ?_ ?_|intro _|refine exP ?_ ?_);all_goals try omega
     exact ⟨k+1,by omega,by omega,a1i [(3,some 3),(100,some 75)] (by (simp only [hstep2,hlen2,hrow,go_sem])<;>simp [hstep2,hlen2,hrow]) (by (simp only [hstep2,hlen2,hrow,go_sem,a1k,a0s,a0j,a1q])<;>simp [hstep2,hlen2,hrow]) (by simp [a2r,apart]) (by simp [a0q,usH]) (by simp [hNm,lkR,a0z])⟩
    ·have hrow:b1r d=a0w (a0w [voidS,a2h d.num]::[a2h d.of]):=by unfold b1r fmP fmN;rw [hk1];rfl
     have hj:(a0w [voidS,a2h d.num]).size≤1000:=by rw [a4u];have:voidS.size=4:=rfl;omega
     have hW1:=a1f voidS [a2h d.num] (by simp) (by simp) (by decide) (by simp;omega)
     have hW2:=a1f (a0w [voidS,a2h d.num]) [a2h d.of] (by simp) (by simp) (by omega) (by simp;omega)
     have hF:=d7v d v8
     have i1:Int.toNat 4=4:=rfl
     refine a2o ⟨[64,74,75],[(65,[64]),(72,[572]),(73,[572])],[65,72,73]⟩ [(0,false),(1,false),(2,false),(3,false),(4,false),(5,false),(6,false),(7,false),(8,false),(9,false),(10,false),(11,false),(12,false),(13,false),(14,false),(15,false),(16,false),(17,false),(18,false),(19,false),(20,false),(21,false)] mixed (by kernel_rfl) ?_
     simp only [a4b,List.getElem?_cons_zero,List.getElem?_cons_succ]
     simp (maxSteps:=2000000) only [go_sem,hG,hOw,hk1,i1,Nat.reduceMul,List.drop_succ_cons,List.drop_zero]
     refine ⟨by omega,?_⟩
     refine ⟨_,a0e (a4q d.num v2.1 v2.2),?_⟩
     simp only [go_sem,hG,hOw]
     (repeat' with_reducible first|refine And.intro ?_ ?_|intro _|refine exP ?_ ?_);all_goals try omega
     refine ⟨_,a7f [(0,64)] [] (hW1) (by (simp only [go_sem])<;>simp [voidS]) (by (simp only [go_sem,a1k,a0s,a0j,a1q])<;>simp [voidS]) (by simp [a2r,apart,toR]) (by simp [a0q,usH,toR,voidS]) (by simp [a7c,lkR,toR]) rfl (by simp [tgt,a2i]) (by simp [tgt,a2i]) (by simp [upT,a3m,a6b,a1o,usH,lkR,toR,a2i,voidS]) (by simp [b3x,usH,tgt,go_sem]) (by simp [a3p,a1o,usH,lkR,toR,voidS]) (by simp [a5n,usH,voidS]),?_⟩
     simp (maxSteps:=2000000) only [go_sem,hG,hOw,hk1,i1,Nat.reduceMul,List.drop_succ_cons,List.drop_zero]
     refine ⟨by omega,?_⟩
     refine ⟨_,c1d [(5,572)] (hF) (by (simp only [go_sem])<;>simp [hk1]) rfl (by simp [tgt,a2i]) (by simp [upT,a3m,a6b,a1o,usH,lkR,toR,a2i,hk1]) (by simp [b3x,usH,tgt,go_sem]) (by simp [a3p,a1o,usH,lkR,toR,hk1]) (by simp [a5n,usH,hk1]),?_⟩
     simp only [go_sem,hG,hOw]
     (repeat' with_reducible first|refine And.intro ?_ ?_|intro _|refine exP ?_ ?_);all_goals try omega
     refine ⟨_,a7f [(0,572)] [] (hW2) (by (simp only [go_sem])<;>simp) (by (simp only [go_sem,a1k,a0s,a0j,a1q])<;>simp) (by simp [a2r,apart,toR]) (by simp [a0q,usH,toR]) (by simp [a7c,lkR,toR]) rfl (by simp [tgt,a2i]) (by simp [tgt,a2i]) (by simp [upT,a3m,a6b,a1o,usH,lkR,toR,a2i]) (by simp [b3x,usH,tgt,go_sem]) (by simp [a3p,a1o,usH,lkR,toR]) (by simp [a5n,usH]),?_⟩
     simp only [go_sem,hG,hOw]
     (repeat' with_reducible first|refine And.intro ?_ ?_|intro _|refine exP ?_ ?_);all_goals try omega
     exact ⟨k+1,by omega,by omega,a1i [(3,some 3),(100,some 75)] (by (simp only [hstep2,hlen2,hrow,go_sem])<;>simp [hstep2,hlen2,hrow]) (by (simp only [hstep2,hlen2,hrow,go_sem,a1k,a0s,a0j,a1q])<;>simp [hstep2,hlen2,hrow]) (by simp [a2r,apart]) (by simp [a0q,usH]) (by simp [hNm,lkR,a0z])⟩
   ·have hlt:¬ (k:Int) < x.decs.length:=by omega
    have hke:k=x.decs.length:=by omega
    subst hke
    refine a0d _ _ _ ?_
    simp (maxSteps:=2000000) only [go_sem,hG,hOw,hlt]
    try (repeat' with_reducible first|refine And.intro ?_ ?_|intro _|refine exP ?_ ?_);all_goals try omega
    have e:a7j x x.decs.length=b9b x:=by unfold a7j b9b;rw [List.take_length]
    rw [e]
    exact Sub.refl _
 ·rw [if_neg he]
  refine a0b (ow:=fun _=>false) Tryz.func31 Tryz.ntmps31 rfl rfl fun G hG hOw hNm hB=>?_;simp only [go_sem,hG,hOw]
  refine a0a hC ?_
  simp (maxSteps:=2000000) only [go_sem,hG,hOw,he]
  (repeat' with_reducible first|refine And.intro ?_ ?_|intro _|refine exP ?_ ?_);all_goals try omega
  exact Subs.tup (.cons (.nil _ _) (.cons (.refl _) .nil))
open Go Pm
set_option maxHeartbeats 4000000
set_option maxRecDepth 100000
abbrev Rws:=List ByteArray
def f7z:Rws→Option (ByteArray×Rws)
 |w::r=>if a1b w=true then some (w,r) else none
 |[]=>none
def g5d:Rws→Option (Int×Rws)
 |s::r=>(a5j s).map fun v=>(v,r)
 |[]=>none
def g4c (l:Rws):Option ((ByteArray×UInt8)×Rws):=match f7z l with
 |none=>none
 |some (w,r)=>match g5d r with
  |none=>none
  |some (n,r')=>if n≤255 then some ((w,UInt8.ofNat n.toNat),r') else none
def g0g (l:Rws):Option ((Int×Int×Int)×Rws):=if a4d l=true then some ((nvS l 0,nvS l 1,nvS l 2),l.drop 3) else none
def SubR (r l:Rws):Prop:=(∀ x ∈ r,x ∈ l)∧r.length≤l.length
theorem SubR.refl (l:Rws):SubR l l:=⟨fun _ h=>h,Nat.le_refl _⟩
theorem SubR.trans {a b c:Rws} (h1:SubR a b) (h2:SubR b c):SubR a c:=⟨fun x hx=>h2.1 x (h1.1 x hx),Nat.le_trans h1.2 h2.2⟩
theorem SubR.size {r l:Rws} (h:SubR r l) (hl:∀ s ∈ l,s.size≤100000):∀ s ∈ r,s.size≤100000:=fun s hs=>hl s (h.1 s hs)
open Go Pm
set_option maxHeartbeats 4000000
set_option maxRecDepth 100000
def g5n (d:Dc) (q:ByteArray×UInt8):Dc:={ d with stem:=q.1,mark:=q.2 }
def g5q (d:Dc) (q:Int×Int×Int):Dc:={ d with ch:=q.1,ln:=q.2.1,wd:=q.2.2 }
def f2 (d:Dc) (l:Rws):Option (Dc×Rws):=match f7z l with
 |none=>none
 |some (w,r)=>match g4c r with
  |none=>none
  |some (q,r')=>some (g5n { d with form:=w } q,r')
def f4 (d:Dc) (l:Rws):Option (Dc×Rws):=match g0g l with
 |none=>none
 |some (p,r)=>f2 (g5q d p) r
def f8 (d:Dc) (l:Rws):Option (Dc×Rws):=match g5d l with
 |none=>none
 |some (n,r)=>some ({ d with of:=n },r)
end Go.Proofs.YtmjhfccbbfpppaaGreatDoor
