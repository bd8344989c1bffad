import Derived.Test.YtmjhfccbbfpppaaGreatDoorQZ31
import Derived.Test.YtmjhfccbbfpppaaGreatDoorQZ33
import Derived.Test.YtmjhfccbbfpppaaGreatDoorQZ36
namespace Go.Proofs.YtmjhfccbbfpppaaGreatDoor
open Go Pm
set_option linter.unusedSimpArgs false
set_option linter.unusedVariables false
set_option maxHeartbeats 4000000
set_option maxRecDepth 100000
def kdS (k:Int):ByteArray:=if k=1 then a2q else if k=2 then a5n else if k=3 then a1i else ⟨#[]⟩
def b6l (r:Rd):ByteArray:=if r.word=⟨#[]⟩ then a0z [kdS r.kind.toNat,atS r.ch r.ln r.wd] else a0z [kdS r.kind.toNat,atS r.ch r.ln r.wd]++(⟨#[32]⟩++r.word)
def a2o (c:Cp):List ByteArray:=a0z [a5h,a2a c.id]::c.rds.map b6l
theorem c6v (c:Cp) (i:Nat) (hi:i < c.rds.length):a0z [a5h,a2a c.id]::(c.rds.take (i+1)).map b6l=(a0z [a5h,a2a c.id]::(c.rds.take i).map b6l)++[b6l c.rds[i]]:=by
 rw [List.take_add_one,List.getElem?_eq_getElem hi,List.map_append];rfl
theorem c6j (a b c:Int) (ha:in9 a) (hb:in9 b) (hc:in9 c):(atS a b c).size≤15:=by
 have h:=b0f 4 [a2a a,a2a b,a2a c] fun s hs=>by
  simp only [List.mem_cons,List.not_mem_nil,or_false] at hs
  rcases hs with rfl|rfl|rfl
  ·exact a2w ha.1 ha.2
  ·exact a2w hb.1 hb.2
  ·exact a2w hc.1 hc.2
 unfold atS
 rw [a7g]
 simpa using h
theorem f3i (k:Int):(kdS k).size≤5:=by
 unfold kdS
 split
 ·decide
 ·split
  ·decide
  ·split<;>decide
theorem c4r {t:List Ch} {c:Cp} (ht:a1l t=true) (h:a5e t c=true):in9 c.id∧c.rds.length≤20∧OKR t c.rds:=by
 unfold a5e at h
 simp only [Bool.and_eq_true,decide_eq_true_eq,inB_iff] at h
 obtain ⟨⟨⟨h1,h2⟩,h3⟩,_⟩:=h
 exact ⟨h1,h2,e9k ht (by omega) h3⟩
theorem g2v {r:Rd} (h:InP r):in9 r.ch∧in9 r.ln∧in9 r.wd:=by
 obtain ⟨⟨a1,a2⟩,⟨a3,a4⟩,⟨a5,a6⟩⟩:=h
 exact ⟨⟨a1,by omega⟩,⟨a3,by omega⟩,⟨a5,by omega⟩⟩
theorem b0k {r:Rd} (h:b0c r):(r.kind.toNat:Int)=1∨(r.kind.toNat:Int)=2∨(r.kind.toNat:Int)=3:=by
 rcases h with ⟨h,_⟩|⟨h,_⟩|⟨h,_⟩<;>simp [h]
theorem e2v {r:Rd} (h:b0c r):r.word.size≤12:=by
 rcases h with ⟨_,h⟩|⟨_,h⟩|⟨_,h⟩
 ·rw [h];decide
 ·exact (a2k h).2
 ·exact (a2k h).2
theorem c3i (t:List Ch) (c:Cp):a0n Tryz.prog 20 [txE 0 t,cpE 0 c] (fun n=>.tup [a0p n (if a5q t c=0 then a2o c else []),i64 (a5q t c)]):=by
 refine a0b (ow:=fun i=>[20,22,37,1000020,1000037].contains i) Tryz.func20 Tryz.ntmps20 rfl rfl fun G hG hOw hNm hB=>?_;simp only [go_sem,hG,hOw]
 refine a0a (b2q t c) ?_
 by_cases h:a5q t c=0
 ·have ht:a1l t=true:=by
   cases ht:a1l t with
   |true=>rfl
   |false=>simp [a5q,ht] at h
  have hc:a5e t c=true:=by
   cases hc:a5e t c with
   |true=>rfl
   |false=>simp [a5q,ht,hc] at h
  obtain ⟨hid,hn,hO⟩:=c4r ht hc
  have hsz:=a2w hid.1 hid.2
  rw [h,if_pos rfl]
  simp only [go_sem,hG,hOw]
  (repeat' with_reducible first|refine And.intro ?_ ?_|intro _|refine exP ?_ ?_);all_goals try omega
  refine a0a (a4l c.id hid.1 hid.2) ?_
  simp only [go_sem,hG,hOw]
  (repeat' with_reducible first|refine And.intro ?_ ?_|intro _|refine exP ?_ ?_);all_goals try omega
  refine a0c [(0,20)] [] (a1f a5h [a2a c.id] (by simp) (by simp) (by decide) (by simp;omega)) ?_ (by (simp only [go_sem])<;>simp [a5h]) (by (simp only [go_sem,a1k,a0r,a0i,a1p])<;>simp [a5h]) (by simp [a0k,usH,toR,a5h])
  simp only [go_sem,hG,hOw]
  (repeat' with_reducible first|refine And.intro ?_ ?_|intro _|refine exP ?_ ?_);all_goals try omega
  refine a3e (fun _:Unit=>St.of [(7,.own 100 0 (a2o c).length 1)] [(100,.arr 9 1 ((a2o c).map a2e))]) (fun _=>True) ?_ ?_
  ·refine a0m (fun i:Nat=>St.of [(7,.own 100 0 (a0z [a5h,a2a c.id]::(c.rds.take i).map b6l).length 1),(24,rds 0 c.rds),(25,i64 c.rds.length),(26,i64 i)] [(100,.arr 9 1 ((a0z [a5h,a2a c.id]::(c.rds.take i).map b6l).map a2e))]) (fun i=>i≤c.rds.length) (fun i=>c.rds.length - i) 0 (by simp) (a1g [(100,some 22)] (by (simp only [List.take_zero,List.map_nil,a2e,go_sem])<;>simp [List.take_zero,List.map_nil,a2e]) (by (simp only [List.take_zero,List.map_nil,a2e,go_sem,a1k,a0r,a0i,a1p])<;>simp [List.take_zero,List.map_nil,a2e]) (by simp [a2p,apart]) (by simp [a0k,usH]) (by simp [hNm,lkR,a0x])) ?_
   rintro i hi
   by_cases hil:i < c.rds.length
   ·have hlt:(i:Int) < c.rds.length:=by omega
    obtain ⟨hI,hG2⟩:=hO.i _ (List.getElem_mem hil)
    obtain ⟨ha,hb,hd⟩:=g2v hI
    have hws:=e2v hG2
    have hats:=c6j _ _ _ ha hb hd
    have hkds:=f3i (c.rds[i].kind.toNat)
    have hstep:=c6v c i hil
    obtain ⟨U,hU⟩:∃ U,U=(a0z [a5h,a2a c.id]::(c.rds.take i).map b6l):=⟨_,rfl⟩
    rw [← hU] at hstep ⊢
    have hUl:U.length≤30:=by rw [hU];simp;omega
    have i1:Int.toNat 1=1:=rfl
    have i2:Int.toNat 2=2:=rfl
    have i3:Int.toNat 3=3:=rfl
    refine a0d _ _ _ ?_;simp (maxSteps:=2000000) only [go_sem,hG,hOw,decide_eq_true hlt]
    (repeat' with_reducible first|refine And.intro ?_ ?_|intro _|refine exP ?_ ?_);all_goals try omega
    refine a3c ⟨[37],[],[]⟩ [(0,false),(1,false),(2,false),(3,false),(4,false),(5,false),(6,false),(7,false),(8,true),(9,false)] mixed (by kernel_rfl) ?_
    simp only [a4f,List.getElem?_cons_zero,List.getElem?_cons_succ]
    have hUi:U.length=i+1:=by rw [hU];simp;omega
    have hmin:min (i+1) c.rds.length=U.length:=by omega
    have hs1:(#[32]:Array UInt8).size=1:=rfl
    have hq:[V.v (Value.string (a0z [a5h,a2a c.id]))]::List.map a2e (List.map b6l (List.take (i+1) c.rds))=List.map a2e U++[[V.v (Value.string (b6l c.rds[i]))]]:=by
     have:=congrArg (List.map a2e) hstep
     rw [List.map_append] at this
     exact this
    rcases b0k hG2 with hk|hk|hk
    ·have hrow:b6l c.rds[i]=if c.rds[i].word=⟨#[]⟩ then a0z [a2q,atS c.rds[i].ch c.rds[i].ln c.rds[i].wd] else a0z [a2q,atS c.rds[i].ch c.rds[i].ln c.rds[i].wd]++(⟨#[32]⟩++c.rds[i].word):=by
      unfold b6l;rw [hk];rfl
     have hjs:(a0z [a2q,atS c.rds[i].ch c.rds[i].ln c.rds[i].wd]).size≤40:=by
      rw [a7g]
      have h:=b0f 15 [a2q,atS c.rds[i].ch c.rds[i].ln c.rds[i].wd] fun s hs=>by
       simp only [List.mem_cons,List.not_mem_nil,or_false] at hs
       rcases hs with rfl|rfl
       ·decide
       ·exact hats
      simp at h
      simp
      omega
     simp (maxSteps:=2000000) only [go_sem,hG,hOw,hk,i1,i2,i3,Nat.reduceMul,List.drop_succ_cons,List.drop_zero]
     (repeat' with_reducible first|refine And.intro ?_ ?_|intro _|refine exP ?_ ?_);all_goals try omega
     refine ⟨_,a0e (d1i c.rds[i].ch c.rds[i].ln c.rds[i].wd ha hb hd),?_⟩
     simp only [go_sem,hG,hOw]
     (repeat' with_reducible first|refine And.intro ?_ ?_|intro _|refine exP ?_ ?_);all_goals try omega
     refine a0c [(0,37)] [] (a1f a2q [atS c.rds[i].ch c.rds[i].ln c.rds[i].wd] (by simp) (by simp) (by decide) (by simp;omega)) ?_ (by (simp only [go_sem])<;>simp [a2q]) (by (simp only [go_sem,a1k,a0r,a0i,a1p])<;>simp [a2q]) (by simp [a0k,usH,toR,a2q])
     simp only [go_sem,hG,hOw]
     (repeat' with_reducible first|refine And.intro ?_ ?_|intro _|refine exP ?_ ?_);all_goals try omega
     ·rename_i hz
      rw [if_neg hz] at hrow
      refine ⟨i+1,by omega,by omega,?_⟩
      exact a1g [(100,some 50)] (by (simp only [hq,hmin,hrow,go_sem])<;>simp [hq,hmin,hrow]) (by (simp only [hq,hmin,hrow,go_sem,a1k,a0r,a0i,a1p])<;>simp [hq,hmin,hrow]) (by simp [a2p,apart]) (by simp [a0k,usH]) (by simp [hNm,lkR,a0x])
     ·rename_i hz
      rw [if_pos hz] at hrow
      refine ⟨i+1,by omega,by omega,?_⟩
      exact a1g [(100,some 50)] (by (simp only [hq,hmin,hrow,go_sem])<;>simp [hq,hmin,hrow]) (by (simp only [hq,hmin,hrow,go_sem,a1k,a0r,a0i,a1p])<;>simp [hq,hmin,hrow]) (by simp [a2p,apart]) (by simp [a0k,usH]) (by simp [hNm,lkR,a0x])
    ·have hrow:b6l c.rds[i]=if c.rds[i].word=⟨#[]⟩ then a0z [a5n,atS c.rds[i].ch c.rds[i].ln c.rds[i].wd] else a0z [a5n,atS c.rds[i].ch c.rds[i].ln c.rds[i].wd]++(⟨#[32]⟩++c.rds[i].word):=by
      unfold b6l;rw [hk];rfl
     have hjs:(a0z [a5n,atS c.rds[i].ch c.rds[i].ln c.rds[i].wd]).size≤40:=by
      rw [a7g]
      have h:=b0f 15 [a5n,atS c.rds[i].ch c.rds[i].ln c.rds[i].wd] fun s hs=>by
       simp only [List.mem_cons,List.not_mem_nil,or_false] at hs
       rcases hs with rfl|rfl
       ·decide
       ·exact hats
      simp at h
      simp
      omega
     simp (maxSteps:=2000000) only [go_sem,hG,hOw,hk,i1,i2,i3,Nat.reduceMul,List.drop_succ_cons,List.drop_zero]
     (repeat' with_reducible first|refine And.intro ?_ ?_|intro _|refine exP ?_ ?_);all_goals try omega
     refine ⟨_,a0e (d1i c.rds[i].ch c.rds[i].ln c.rds[i].wd ha hb hd),?_⟩
     simp only [go_sem,hG,hOw]
     (repeat' with_reducible first|refine And.intro ?_ ?_|intro _|refine exP ?_ ?_);all_goals try omega
     refine a0c [(0,37)] [] (a1f a5n [atS c.rds[i].ch c.rds[i].ln c.rds[i].wd] (by simp) (by simp) (by decide) (by simp;omega)) ?_ (by (simp only [go_sem])<;>simp [a5n]) (by (simp only [go_sem,a1k,a0r,a0i,a1p])<;>simp [a5n]) (by simp [a0k,usH,toR,a5n])
     simp only [go_sem,hG,hOw]
     (repeat' with_reducible first|refine And.intro ?_ ?_|intro _|refine exP ?_ ?_);all_goals try omega
     ·rename_i hz
      rw [if_neg hz] at hrow
      refine ⟨i+1,by omega,by omega,?_⟩
      exact a1g [(100,some 50)] (by (simp only [hq,hmin,hrow,go_sem])<;>simp [hq,hmin,hrow]) (by (simp only [hq,hmin,hrow,go_sem,a1k,a0r,a0i,a1p])<;>simp [hq,hmin,hrow]) (by simp [a2p,apart]) (by simp [a0k,usH]) (by simp [hNm,lkR,a0x])
     ·rename_i hz
      rw [if_pos hz] at hrow
      refine ⟨i+1,by omega,by omega,?_⟩
      exact a1g [(100,some 50)] (by (simp only [hq,hmin,hrow,go_sem])<;>simp [hq,hmin,hrow]) (by (simp only [hq,hmin,hrow,go_sem,a1k,a0r,a0i,a1p])<;>simp [hq,hmin,hrow]) (by simp [a2p,apart]) (by simp [a0k,usH]) (by simp [hNm,lkR,a0x])
    ·have hrow:b6l c.rds[i]=if c.rds[i].word=⟨#[]⟩ then a0z [a1i,atS c.rds[i].ch c.rds[i].ln c.rds[i].wd] else a0z [a1i,atS c.rds[i].ch c.rds[i].ln c.rds[i].wd]++(⟨#[32]⟩++c.rds[i].word):=by
      unfold b6l;rw [hk];rfl
     have hjs:(a0z [a1i,atS c.rds[i].ch c.rds[i].ln c.rds[i].wd]).size≤40:=by
      rw [a7g]
      have h:=b0f 15 [a1i,atS c.rds[i].ch c.rds[i].ln c.rds[i].wd] fun s hs=>by
       simp only [List.mem_cons,List.not_mem_nil,or_false] at hs
       rcases hs with rfl|rfl
       ·decide
       ·exact hats
      simp at h
      simp
      omega
     simp (maxSteps:=2000000) only [go_sem,hG,hOw,hk,i1,i2,i3,Nat.reduceMul,List.drop_succ_cons,List.drop_zero]
     (repeat' with_reducible first|refine And.intro ?_ ?_|intro _|refine exP ?_ ?_);all_goals try omega
     refine ⟨_,a0e (d1i c.rds[i].ch c.rds[i].ln c.rds[i].wd ha hb hd),?_⟩
     simp only [go_sem,hG,hOw]
     (repeat' with_reducible first|refine And.intro ?_ ?_|intro _|refine exP ?_ ?_);all_goals try omega
     refine a0c [(0,37)] [] (a1f a1i [atS c.rds[i].ch c.rds[i].ln c.rds[i].wd] (by simp) (by simp) (by decide) (by simp;omega)) ?_ (by (simp only [go_sem])<;>simp [a1i]) (by (simp only [go_sem,a1k,a0r,a0i,a1p])<;>simp [a1i]) (by simp [a0k,usH,toR,a1i])
     simp only [go_sem,hG,hOw]
     (repeat' with_reducible first|refine And.intro ?_ ?_|intro _|refine exP ?_ ?_);all_goals try omega
     ·rename_i hz
      rw [if_neg hz] at hrow
      refine ⟨i+1,by omega,by omega,?_⟩
      exact a1g [(100,some 50)] (by (simp only [hq,hmin,hrow,go_sem])<;>simp [hq,hmin,hrow]) (by (simp only [hq,hmin,hrow,go_sem,a1k,a0r,a0i,a1p])<;>simp [hq,hmin,hrow]) (by simp [a2p,apart]) (by simp [a0k,usH]) (by simp [hNm,lkR,a0x])
     ·rename_i hz
      rw [if_pos hz] at hrow
      refine ⟨i+1,by omega,by omega,?_⟩
      exact a1g [(100,some 50)] (by (simp only [hq,hmin,hrow,go_sem])<;>simp [hq,hmin,hrow]) (by (simp only [hq,hmin,hrow,go_sem,a1k,a0r,a0i,a1p])<;>simp [hq,hmin,hrow]) (by simp [a2p,apart]) (by simp [a0k,usH]) (by simp [hNm,lkR,a0x])
   ·have hi2:i=c.rds.length:=by omega
    subst hi2
    refine a0d _ _ _ ?_;simp only [go_sem,hG,hOw]
    (repeat' with_reducible first|refine And.intro ?_ ?_|intro _|refine exP ?_ ?_);all_goals try omega
    exact ⟨(),a1g [(100,some 100)] (by (simp only [a2o,go_sem])<;>simp [a2o]) (by (simp only [a2o,go_sem,a1k,a0r,a0i,a1p])<;>simp [a2o]) (by simp [a2p,apart]) (by simp [a0k,usH]) (by simp [hNm,lkR,a0x])⟩
  rintro _ _
  simp only [go_sem,hG,hOw]
 ·simp only [go_sem,hG,hOw]
  (repeat' with_reducible first|refine And.intro ?_ ?_|intro _|refine exP ?_ ?_);all_goals try omega
  rw [if_neg h]
  exact Subs.tup (.cons (.nil _ _) (.cons (.refl _) .nil))
open Go Pm
set_option maxHeartbeats 4000000
set_option maxRecDepth 100000
end Go.Proofs.YtmjhfccbbfpppaaGreatDoor
