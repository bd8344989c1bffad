import Derived.Test.YtmjhfccbbfpppaaGreatDoorQX31
import Derived.Test.YtmjhfccbbfpppaaGreatDoorQX35
import Derived.Test.YtmjhfccbbfpppaaGreatDoorQX37
namespace Go.Proofs.YtmjhfccbbfpppaaGreatDoor
open Go Pm
set_option linter.unusedSimpArgs false
set_option linter.unusedVariables false
set_option maxHeartbeats 4000000
set_option maxRecDepth 100000
def kdS (k:Int):ByteArray:=if k=1 then a2w else if k=2 then a5u else if k=3 then a1m else ⟨#[]⟩
def b8c (r:Rd):ByteArray:=if r.word=⟨#[]⟩ then a1d [kdS r.kind.toNat,atS r.ch r.ln r.wd] else a1d [kdS r.kind.toNat,atS r.ch r.ln r.wd]++(⟨#[32]⟩++r.word)
def a3g (c:Cp):List ByteArray:=a1d [a5s,a2d c.id]::c.rds.map b8c
theorem c6k (c:Cp) (i:Nat) (hi:i < c.rds.length):a1d [a5s,a2d c.id]::(c.rds.take (i+1)).map b8c=(a1d [a5s,a2d c.id]::(c.rds.take i).map b8c)++[b8c c.rds[i]]:=by
 rw [List.take_add_one,List.getElem?_eq_getElem hi,List.map_append];rfl
theorem c6g (a b c:Int) (ha:in9 a) (hb:in9 b) (hc:in9 c):(atS a b c).size≤15:=by
 have h:=b0v 4 [a2d a,a2d b,a2d c] fun s hs=>by
  simp only [List.mem_cons,List.not_mem_nil,or_false] at hs
  rcases hs with rfl|rfl|rfl
  ·exact a2z ha.1 ha.2
  ·exact a2z hb.1 hb.2
  ·exact a2z hc.1 hc.2
 unfold atS
 rw [a7l]
 simpa using h
theorem f2a (k:Int):(kdS k).size≤5:=by
 unfold kdS
 split
 ·decide
 ·split
  ·decide
  ·split<;>decide
theorem c4p {t:List Ch} {c:Cp} (ht:a1r t=true) (h:a3u t c=true):in9 c.id∧c.rds.length≤20∧OKR t c.rds:=by
 unfold a3u at h
 simp only [Bool.and_eq_true,decide_eq_true_eq,inB_iff] at h
 obtain ⟨⟨⟨h1,h2⟩,h3⟩,_⟩:=h
 exact ⟨h1,h2,f0g ht (by omega) h3⟩
theorem g3g {r:Rd} (h:InP r):in9 r.ch∧in9 r.ln∧in9 r.wd:=by
 obtain ⟨⟨a1,a2⟩,⟨a3,a4⟩,⟨a5,a6⟩⟩:=h
 exact ⟨⟨a1,by omega⟩,⟨a3,by omega⟩,⟨a5,by omega⟩⟩
theorem b1c {r:Rd} (h:b2e r):(r.kind.toNat:Int)=1∨(r.kind.toNat:Int)=2∨(r.kind.toNat:Int)=3:=by
 rcases h with ⟨h,_⟩|⟨h,_⟩|⟨h,_⟩<;>simp [h]
theorem d5p {r:Rd} (h:b2e r):r.word.size≤12:=by
 rcases h with ⟨_,h⟩|⟨_,h⟩|⟨_,h⟩
 ·rw [h];decide
 ·exact (a3o h).2
 ·exact (a3o h).2
theorem c3y (t:List Ch) (c:Cp):a0o Tryz.prog 20 [txE 0 t,cpE 0 c] (fun n=>.tup [a0n n (if a6a t c=0 then a3g c else []),i64 (a6a t c)]):=by
 refine a0b (ow:=fun i=>[20,22,37,1000020,1000037].contains i) Tryz.func20 Tryz.ntmps20 rfl rfl fun G hG hOw hNm hB=>?_;simp only [go_sem,hG,hOw]
 refine a0a (b3r t c) ?_
 by_cases h:a6a t c=0
 ·have ht:a1r t=true:=by
   cases ht:a1r t with
   |true=>rfl
   |false=>simp [a6a,ht] at h
  have hc:a3u t c=true:=by
   cases hc:a3u t c with
   |true=>rfl
   |false=>simp [a6a,ht,hc] at h
  obtain ⟨hid,hn,hO⟩:=c4p ht hc
  have hsz:=a2z hid.1 hid.2
  rw [h,if_pos rfl]
  simp only [go_sem,hG,hOw]
  (repeat' with_reducible first|refine And.intro ?_ ?_|intro _|refine exP ?_ ?_);all_goals try omega
  refine a0a (a4q c.id hid.1 hid.2) ?_
  simp only [go_sem,hG,hOw]
  (repeat' with_reducible first|refine And.intro ?_ ?_|intro _|refine exP ?_ ?_);all_goals try omega
  refine a0c [(0,20)] [] (a1k a5s [a2d c.id] (by simp) (by simp) (by decide) (by simp;omega)) ?_ (by (simp only [go_sem])<;>simp [a5s]) (by (simp only [go_sem,a1f,a0q,a0f,a1l])<;>simp [a5s]) (by simp [a0h,usH,toR,a5s])
  simp only [go_sem,hG,hOw]
  (repeat' with_reducible first|refine And.intro ?_ ?_|intro _|refine exP ?_ ?_);all_goals try omega
  refine a2o (fun _:Unit=>St.of [(7,.own 100 0 (a3g c).length 1)] [(100,.arr 9 1 ((a3g c).map a1t))]) (fun _=>True) ?_ ?_
  ·refine a0l (fun i:Nat=>St.of [(7,.own 100 0 (a1d [a5s,a2d c.id]::(c.rds.take i).map b8c).length 1),(24,rds 0 c.rds),(25,i64 c.rds.length),(26,i64 i)] [(100,.arr 9 1 ((a1d [a5s,a2d c.id]::(c.rds.take i).map b8c).map a1t))]) (fun i=>i≤c.rds.length) (fun i=>c.rds.length - i) 0 (by simp) (a0y [(100,some 22)] (by (simp only [List.take_zero,List.map_nil,a1t,go_sem])<;>simp [List.take_zero,List.map_nil,a1t]) (by (simp only [List.take_zero,List.map_nil,a1t,go_sem,a1f,a0q,a0f,a1l])<;>simp [List.take_zero,List.map_nil,a1t]) (by simp [a2l,apart]) (by simp [a0h,usH]) (by simp [hNm,lkR,a0w])) ?_
   rintro i hi
   by_cases hil:i < c.rds.length
   ·have hlt:(i:Int) < c.rds.length:=by omega
    obtain ⟨hI,hG2⟩:=hO.i _ (List.getElem_mem hil)
    obtain ⟨ha,hb,hd⟩:=g3g hI
    have hws:=d5p hG2
    have hats:=c6g _ _ _ ha hb hd
    have hkds:=f2a (c.rds[i].kind.toNat)
    have hstep:=c6k c i hil
    obtain ⟨U,hU⟩:∃ U,U=(a1d [a5s,a2d c.id]::(c.rds.take i).map b8c):=⟨_,rfl⟩
    rw [← hU] at hstep ⊢
    have hUl:U.length≤30:=by rw [hU];simp;omega
    have i1:Int.toNat 1=1:=rfl
    have i2:Int.toNat 2=2:=rfl
    have i3:Int.toNat 3=3:=rfl
    refine a0e _ _ _ ?_;simp (maxSteps:=2000000) only [go_sem,hG,hOw,decide_eq_true hlt]
    (repeat' with_reducible first|refine And.intro ?_ ?_|intro _|refine exP ?_ ?_);all_goals try omega
    refine a2k ⟨[37],[],[]⟩ [(0,false),(1,false),(2,false),(3,false),(4,false),(5,false),(6,false),(7,false),(8,true),(9,false)] mixed (by kernel_rfl) ?_
    simp only [a2y,List.getElem?_cons_zero,List.getElem?_cons_succ]
    have hUi:U.length=i+1:=by rw [hU];simp;omega
    have hmin:min (i+1) c.rds.length=U.length:=by omega
    have hs1:(#[32]:Array UInt8).size=1:=rfl
    have hq:[V.v (Value.string (a1d [a5s,a2d c.id]))]::List.map a1t (List.map b8c (List.take (i+1) c.rds))=List.map a1t U++[[V.v (Value.string (b8c c.rds[i]))]]:=by
     have:=congrArg (List.map a1t) hstep
     rw [List.map_append] at this
     exact this
    rcases b1c hG2 with hk|hk|hk
    ·have hrow:b8c c.rds[i]=if c.rds[i].word=⟨#[]⟩ then a1d [a2w,atS c.rds[i].ch c.rds[i].ln c.rds[i].wd] else a1d [a2w,atS c.rds[i].ch c.rds[i].ln c.rds[i].wd]++(⟨#[32]⟩++c.rds[i].word):=by
      unfold b8c;rw [hk];rfl
     have hjs:(a1d [a2w,atS c.rds[i].ch c.rds[i].ln c.rds[i].wd]).size≤40:=by
      rw [a7l]
      have h:=b0v 15 [a2w,atS c.rds[i].ch c.rds[i].ln c.rds[i].wd] fun s hs=>by
       simp only [List.mem_cons,List.not_mem_nil,or_false] at hs
       rcases hs with rfl|rfl
       ·decide
       ·exact hats
      simp at h
      simp
      omega
     simp (maxSteps:=2000000) only [go_sem,hG,hOw,hk,i1,i2,i3,Nat.reduceMul,List.drop_succ_cons,List.drop_zero]
     (repeat' with_reducible first|refine And.intro ?_ ?_|intro _|refine exP ?_ ?_);all_goals try omega
     refine ⟨_,a0d (d2u c.rds[i].ch c.rds[i].ln c.rds[i].wd ha hb hd),?_⟩
     simp only [go_sem,hG,hOw]
     (repeat' with_reducible first|refine And.intro ?_ ?_|intro _|refine exP ?_ ?_);all_goals try omega
     refine a0c [(0,37)] [] (a1k a2w [atS c.rds[i].ch c.rds[i].ln c.rds[i].wd] (by simp) (by simp) (by decide) (by simp;omega)) ?_ (by (simp only [go_sem])<;>simp [a2w]) (by (simp only [go_sem,a1f,a0q,a0f,a1l])<;>simp [a2w]) (by simp [a0h,usH,toR,a2w])
     simp only [go_sem,hG,hOw]
     (repeat' with_reducible first|refine And.intro ?_ ?_|intro _|refine exP ?_ ?_);all_goals try omega
     ·rename_i hz
      rw [if_neg hz] at hrow
      refine ⟨i+1,by omega,by omega,?_⟩
      exact a0y [(100,some 50)] (by (simp only [hq,hmin,hrow,go_sem])<;>simp [hq,hmin,hrow]) (by (simp only [hq,hmin,hrow,go_sem,a1f,a0q,a0f,a1l])<;>simp [hq,hmin,hrow]) (by simp [a2l,apart]) (by simp [a0h,usH]) (by simp [hNm,lkR,a0w])
     ·rename_i hz
      rw [if_pos hz] at hrow
      refine ⟨i+1,by omega,by omega,?_⟩
      exact a0y [(100,some 50)] (by (simp only [hq,hmin,hrow,go_sem])<;>simp [hq,hmin,hrow]) (by (simp only [hq,hmin,hrow,go_sem,a1f,a0q,a0f,a1l])<;>simp [hq,hmin,hrow]) (by simp [a2l,apart]) (by simp [a0h,usH]) (by simp [hNm,lkR,a0w])
    ·have hrow:b8c c.rds[i]=if c.rds[i].word=⟨#[]⟩ then a1d [a5u,atS c.rds[i].ch c.rds[i].ln c.rds[i].wd] else a1d [a5u,atS c.rds[i].ch c.rds[i].ln c.rds[i].wd]++(⟨#[32]⟩++c.rds[i].word):=by
      unfold b8c;rw [hk];rfl
     have hjs:(a1d [a5u,atS c.rds[i].ch c.rds[i].ln c.rds[i].wd]).size≤40:=by
      rw [a7l]
      have h:=b0v 15 [a5u,atS c.rds[i].ch c.rds[i].ln c.rds[i].wd] fun s hs=>by
       simp only [List.mem_cons,List.not_mem_nil,or_false] at hs
       rcases hs with rfl|rfl
       ·decide
       ·exact hats
      simp at h
      simp
      omega
     simp (maxSteps:=2000000) only [go_sem,hG,hOw,hk,i1,i2,i3,Nat.reduceMul,List.drop_succ_cons,List.drop_zero]
     (repeat' with_reducible first|refine And.intro ?_ ?_|intro _|refine exP ?_ ?_);all_goals try omega
     refine ⟨_,a0d (d2u c.rds[i].ch c.rds[i].ln c.rds[i].wd ha hb hd),?_⟩
     simp only [go_sem,hG,hOw]
     (repeat' with_reducible first|refine And.intro ?_ ?_|intro _|refine exP ?_ ?_);all_goals try omega
     refine a0c [(0,37)] [] (a1k a5u [atS c.rds[i].ch c.rds[i].ln c.rds[i].wd] (by simp) (by simp) (by decide) (by simp;omega)) ?_ (by (simp only [go_sem])<;>simp [a5u]) (by (simp only [go_sem,a1f,a0q,a0f,a1l])<;>simp [a5u]) (by simp [a0h,usH,toR,a5u])
     simp only [go_sem,hG,hOw]
     (repeat' with_reducible first|refine And.intro ?_ ?_|intro _|refine exP ?_ ?_);all_goals try omega
     ·rename_i hz
      rw [if_neg hz] at hrow
      refine ⟨i+1,by omega,by omega,?_⟩
      exact a0y [(100,some 50)] (by (simp only [hq,hmin,hrow,go_sem])<;>simp [hq,hmin,hrow]) (by (simp only [hq,hmin,hrow,go_sem,a1f,a0q,a0f,a1l])<;>simp [hq,hmin,hrow]) (by simp [a2l,apart]) (by simp [a0h,usH]) (by simp [hNm,lkR,a0w])
     ·rename_i hz
      rw [if_pos hz] at hrow
      refine ⟨i+1,by omega,by omega,?_⟩
      exact a0y [(100,some 50)] (by (simp only [hq,hmin,hrow,go_sem])<;>simp [hq,hmin,hrow]) (by (simp only [hq,hmin,hrow,go_sem,a1f,a0q,a0f,a1l])<;>simp [hq,hmin,hrow]) (by simp [a2l,apart]) (by simp [a0h,usH]) (by simp [hNm,lkR,a0w])
    ·have hrow:b8c c.rds[i]=if c.rds[i].word=⟨#[]⟩ then a1d [a1m,atS c.rds[i].ch c.rds[i].ln c.rds[i].wd] else a1d [a1m,atS c.rds[i].ch c.rds[i].ln c.rds[i].wd]++(⟨#[32]⟩++c.rds[i].word):=by
      unfold b8c;rw [hk];rfl
     have hjs:(a1d [a1m,atS c.rds[i].ch c.rds[i].ln c.rds[i].wd]).size≤40:=by
      rw [a7l]
      have h:=b0v 15 [a1m,atS c.rds[i].ch c.rds[i].ln c.rds[i].wd] fun s hs=>by
       simp only [List.mem_cons,List.not_mem_nil,or_false] at hs
       rcases hs with rfl|rfl
       ·decide
       ·exact hats
      simp at h
      simp
      omega
     simp (maxSteps:=2000000) only [go_sem,hG,hOw,hk,i1,i2,i3,Nat.reduceMul,List.drop_succ_cons,List.drop_zero]
     (repeat' with_reducible first|refine And.intro ?_ ?_|intro _|refine exP ?_ ?_);all_goals try omega
     refine ⟨_,a0d (d2u c.rds[i].ch c.rds[i].ln c.rds[i].wd ha hb hd),?_⟩
     simp only [go_sem,hG,hOw]
     (repeat' with_reducible first|refine And.intro ?_ ?_|intro _|refine exP ?_ ?_);all_goals try omega
     refine a0c [(0,37)] [] (a1k a1m [atS c.rds[i].ch c.rds[i].ln c.rds[i].wd] (by simp) (by simp) (by decide) (by simp;omega)) ?_ (by (simp only [go_sem])<;>simp [a1m]) (by (simp only [go_sem,a1f,a0q,a0f,a1l])<;>simp [a1m]) (by simp [a0h,usH,toR,a1m])
     simp only [go_sem,hG,hOw]
     (repeat' with_reducible first|refine And.intro ?_ ?_|intro _|refine exP ?_ ?_);all_goals try omega
     ·rename_i hz
      rw [if_neg hz] at hrow
      refine ⟨i+1,by omega,by omega,?_⟩
      exact a0y [(100,some 50)] (by (simp only [hq,hmin,hrow,go_sem])<;>simp [hq,hmin,hrow]) (by (simp only [hq,hmin,hrow,go_sem,a1f,a0q,a0f,a1l])<;>simp [hq,hmin,hrow]) (by simp [a2l,apart]) (by simp [a0h,usH]) (by simp [hNm,lkR,a0w])
     ·rename_i hz
      rw [if_pos hz] at hrow
      refine ⟨i+1,by omega,by omega,?_⟩
      exact a0y [(100,some 50)] (by (simp only [hq,hmin,hrow,go_sem])<;>simp [hq,hmin,hrow]) (by (simp only [hq,hmin,hrow,go_sem,a1f,a0q,a0f,a1l])<;>simp [hq,hmin,hrow]) (by simp [a2l,apart]) (by simp [a0h,usH]) (by simp [hNm,lkR,a0w])
   ·have hi2:i=c.rds.length:=by omega
    subst hi2
    refine a0e _ _ _ ?_;simp only [go_sem,hG,hOw]
    (repeat' with_reducible first|refine And.intro ?_ ?_|intro _|refine exP ?_ ?_);all_goals try omega
    exact ⟨(),a0y [(100,some 100)] (by (simp only [a3g,go_sem])<;>simp [a3g]) (by (simp only [a3g,go_sem,a1f,a0q,a0f,a1l])<;>simp [a3g]) (by simp [a2l,apart]) (by simp [a0h,usH]) (by simp [hNm,lkR,a0w])⟩
  rintro _ _
  simp only [go_sem,hG,hOw]
 ·simp only [go_sem,hG,hOw]
  (repeat' with_reducible first|refine And.intro ?_ ?_|intro _|refine exP ?_ ?_);all_goals try omega
  rw [if_neg h]
  exact Subs.tup (.cons (.nil _ _) (.cons (.refl _) .nil))
open Go Pm
set_option maxHeartbeats 4000000
set_option maxRecDepth 100000
end Go.Proofs.YtmjhfccbbfpppaaGreatDoor
