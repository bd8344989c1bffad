import Derived.Test.YtmjhfccbbfpppaaGreatDoorQY31
import Derived.Test.YtmjhfccbbfpppaaGreatDoorQY33
import Derived.Test.YtmjhfccbbfpppaaGreatDoorQY36
namespace Go.Proofs.YtmjhfccbbfpppaaGreatDoor
open Go Pm
set_option linter.unusedSimpArgs false
set_option linter.unusedVariables false
set_option maxHeartbeats 4000000
set_option maxRecDepth 100000
def kdS (k:Int):ByteArray:=if k=1 then a3e else if k=2 then a6i else if k=3 then a1v else ⟨#[]⟩
def c6e (r:Rd):ByteArray:=if r.word=⟨#[]⟩ then a1o [kdS r.kind.toNat,atS r.ch r.ln r.wd] else a1o [kdS r.kind.toNat,atS r.ch r.ln r.wd]++(⟨#[32]⟩++r.word)
def a7u (c:Cp):List ByteArray:=a1o [a7v,a3u c.id]::c.rds.map c6e
theorem c9l (c:Cp) (i:Nat) (hi:i < c.rds.length):a1o [a7v,a3u c.id]::(c.rds.take (i+1)).map c6e=(a1o [a7v,a3u c.id]::(c.rds.take i).map c6e)++[c6e c.rds[i]]:=by
 rw [List.take_add_one,List.getElem?_eq_getElem hi,List.map_append];rfl
theorem c8x (a b c:Int) (ha:in9 a) (hb:in9 b) (hc:in9 c):(atS a b c).size≤15:=by
 have h:=b1i 4 [a3u a,a3u b,a3u c] fun s hs=>by
  simp only [List.mem_cons,List.not_mem_nil,or_false] at hs
  rcases hs with rfl|rfl|rfl
  ·exact a3i ha.1 ha.2
  ·exact a3i hb.1 hb.2
  ·exact a3i hc.1 hc.2
 unfold atS
 rw [a8d]
 simpa using h
theorem f3r (k:Int):(kdS k).size≤5:=by
 unfold kdS
 split
 ·decide
 ·split
  ·decide
  ·split<;>decide
theorem e0y {t:List Ch} {c:Cp} (ht:a2l t=true) (h:a8j t c=true):in9 c.id∧c.rds.length≤20∧OKR t c.rds:=by
 unfold a8j at h
 simp only [Bool.and_eq_true,decide_eq_true_eq,inB_iff] at h
 obtain ⟨⟨⟨h1,h2⟩,h3⟩,_⟩:=h
 exact ⟨h1,h2,f0g ht (by omega) h3⟩
theorem g5h {r:Rd} (h:InP r):in9 r.ch∧in9 r.ln∧in9 r.wd:=by
 obtain ⟨⟨a1,a2⟩,⟨a3,a4⟩,⟨a5,a6⟩⟩:=h
 exact ⟨⟨a1,by omega⟩,⟨a3,by omega⟩,⟨a5,by omega⟩⟩
theorem e0g {r:Rd} (h:b4p r):(r.kind.toNat:Int)=1∨(r.kind.toNat:Int)=2∨(r.kind.toNat:Int)=3:=by
 rcases h with ⟨h,_⟩|⟨h,_⟩|⟨h,_⟩<;>simp [h]
theorem d6q {r:Rd} (h:b4p r):r.word.size≤12:=by
 rcases h with ⟨_,h⟩|⟨_,h⟩|⟨_,h⟩
 ·rw [h];decide
 ·exact (a3t h).2
 ·exact (a3t h).2
theorem d8h (t:List Ch) (c:Cp):a0o Tryz.prog 20 [txE 0 t,cpE 0 c] (fun n=>.tup [a0e n (if a7l t c=0 then a7u c else []),i64 (a7l t c)]):=by
 refine a0c (ow:=fun i=>[20,22,37,1000020,1000037].contains i) Tryz.func20 Tryz.ntmps20 rfl rfl fun G hG hOw hNm hB=>?_;simp only [go_sem,hG,hOw]
 refine a0a (b4h t c) ?_
 by_cases h:a7l t c=0
 ·have ht:a2l t=true:=by
   cases ht:a2l t with
   |true=>rfl
   |false=>simp [a7l,ht] at h
  have hc:a8j t c=true:=by
   cases hc:a8j t c with
   |true=>rfl
   |false=>simp [a7l,ht,hc] at h
  obtain ⟨hid,hn,hO⟩:=e0y ht hc
  have hsz:=a3i hid.1 hid.2
  rw [h,if_pos rfl]
  simp only [go_sem,hG,hOw]
  (repeat' with_reducible first|refine And.intro ?_ ?_|intro _|refine exP ?_ ?_);all_goals try omega
  refine a0a (a4z c.id hid.1 hid.2) ?_
  simp only [go_sem,hG,hOw]
  (repeat' with_reducible first|refine And.intro ?_ ?_|intro _|refine exP ?_ ?_);all_goals try omega
  refine a0b [(0,20)] [] (a1q a7v [a3u c.id] (by simp) (by simp) (by decide) (by simp;omega)) ?_ (by (simp only [go_sem])<;>simp [a7v]) (by (simp only [go_sem,a1g,a0q,a0f,a1m])<;>simp [a7v]) (by simp [a0h,usH,toR,a7v])
  simp only [go_sem,hG,hOw]
  (repeat' with_reducible first|refine And.intro ?_ ?_|intro _|refine exP ?_ ?_);all_goals try omega
  refine a3g (fun _:Unit=>St.of [(7,.own 100 0 (a7u c).length 1)] [(100,.arr 9 1 ((a7u c).map a2h))]) (fun _=>True) ?_ ?_
  ·refine a0r (fun i:Nat=>St.of [(7,.own 100 0 (a1o [a7v,a3u c.id]::(c.rds.take i).map c6e).length 1),(24,rds 0 c.rds),(25,i64 c.rds.length),(26,i64 i)] [(100,.arr 9 1 ((a1o [a7v,a3u c.id]::(c.rds.take i).map c6e).map a2h))]) (fun i=>i≤c.rds.length) (fun i=>c.rds.length - i) 0 (by simp) (a1l [(100,some 22)] (by (simp only [List.take_zero,List.map_nil,a2h,go_sem])<;>simp [List.take_zero,List.map_nil,a2h]) (by (simp only [List.take_zero,List.map_nil,a2h,go_sem,a1g,a0q,a0f,a1m])<;>simp [List.take_zero,List.map_nil,a2h]) (by simp [a2m,apart]) (by simp [a0h,usH]) (by simp [hNm,lkR,a1c])) ?_
   rintro i hi
   by_cases hil:i < c.rds.length
   ·have hlt:(i:Int) < c.rds.length:=by omega
    obtain ⟨hI,hG2⟩:=hO.i _ (List.getElem_mem hil)
    obtain ⟨ha,hb,hd⟩:=g5h hI
    have hws:=d6q hG2
    have hats:=c8x _ _ _ ha hb hd
    have hkds:=f3r (c.rds[i].kind.toNat)
    have hstep:=c9l c i hil
    obtain ⟨U,hU⟩:∃ U,U=(a1o [a7v,a3u c.id]::(c.rds.take i).map c6e):=⟨_,rfl⟩
    rw [← hU] at hstep ⊢
    have hUl:U.length≤30:=by rw [hU];simp;omega
    have i1:Int.toNat 1=1:=rfl
    have i2:Int.toNat 2=2:=rfl
    have i3:Int.toNat 3=3:=rfl
    refine a0l _ _ _ ?_;simp (maxSteps:=2000000) only [go_sem,hG,hOw,decide_eq_true hlt]
    (repeat' with_reducible first|refine And.intro ?_ ?_|intro _|refine exP ?_ ?_);all_goals try omega
    refine a1w ⟨[37],[],[]⟩ [(0,false),(1,false),(2,false),(3,false),(4,false),(5,false),(6,false),(7,false),(8,true),(9,false)] mixed (by kernel_rfl) ?_
    simp only [a2r,List.getElem?_cons_zero,List.getElem?_cons_succ]
    have hUi:U.length=i+1:=by rw [hU];simp;omega
    have hmin:min (i+1) c.rds.length=U.length:=by omega
    have hs1:(#[32]:Array UInt8).size=1:=rfl
    have hq:[V.v (Value.string (a1o [a7v,a3u c.id]))]::List.map a2h (List.map c6e (List.take (i+1) c.rds))=List.map a2h U++[[V.v (Value.string (c6e c.rds[i]))]]:=by
     have:=congrArg (List.map a2h) hstep
     rw [List.map_append] at this
     exact this
    rcases e0g hG2 with hk|hk|hk
    ·have hrow:c6e c.rds[i]=if c.rds[i].word=⟨#[]⟩ then a1o [a3e,atS c.rds[i].ch c.rds[i].ln c.rds[i].wd] else a1o [a3e,atS c.rds[i].ch c.rds[i].ln c.rds[i].wd]++(⟨#[32]⟩++c.rds[i].word):=by
      unfold c6e;rw [hk];rfl
     have hjs:(a1o [a3e,atS c.rds[i].ch c.rds[i].ln c.rds[i].wd]).size≤40:=by
      rw [a8d]
      have h:=b1i 15 [a3e,atS c.rds[i].ch c.rds[i].ln c.rds[i].wd] fun s hs=>by
       simp only [List.mem_cons,List.not_mem_nil,or_false] at hs
       rcases hs with rfl|rfl
       ·decide
       ·exact hats
      simp at h
      simp
      omega
     simp (maxSteps:=2000000) only [go_sem,hG,hOw,hk,i1,i2,i3,Nat.reduceMul,List.drop_succ_cons,List.drop_zero]
     (repeat' with_reducible first|refine And.intro ?_ ?_|intro _|refine exP ?_ ?_);all_goals try omega
     refine ⟨_,a0i (d3r c.rds[i].ch c.rds[i].ln c.rds[i].wd ha hb hd),?_⟩
     simp only [go_sem,hG,hOw]
     (repeat' with_reducible first|refine And.intro ?_ ?_|intro _|refine exP ?_ ?_);all_goals try omega
     refine a0b [(0,37)] [] (a1q a3e [atS c.rds[i].ch c.rds[i].ln c.rds[i].wd] (by simp) (by simp) (by decide) (by simp;omega)) ?_ (by (simp only [go_sem])<;>simp [a3e]) (by (simp only [go_sem,a1g,a0q,a0f,a1m])<;>simp [a3e]) (by simp [a0h,usH,toR,a3e])
     simp only [go_sem,hG,hOw]
     (repeat' with_reducible first|refine And.intro ?_ ?_|intro _|refine exP ?_ ?_);all_goals try omega
     ·rename_i hz
      rw [if_neg hz] at hrow
      refine ⟨i+1,by omega,by omega,?_⟩
      exact a1l [(100,some 50)] (by (simp only [hq,hmin,hrow,go_sem])<;>simp [hq,hmin,hrow]) (by (simp only [hq,hmin,hrow,go_sem,a1g,a0q,a0f,a1m])<;>simp [hq,hmin,hrow]) (by simp [a2m,apart]) (by simp [a0h,usH]) (by simp [hNm,lkR,a1c])
     ·rename_i hz
      rw [if_pos hz] at hrow
      refine ⟨i+1,by omega,by omega,?_⟩
      exact a1l [(100,some 50)] (by (simp only [hq,hmin,hrow,go_sem])<;>simp [hq,hmin,hrow]) (by (simp only [hq,hmin,hrow,go_sem,a1g,a0q,a0f,a1m])<;>simp [hq,hmin,hrow]) (by simp [a2m,apart]) (by simp [a0h,usH]) (by simp [hNm,lkR,a1c])
    ·have hrow:c6e c.rds[i]=if c.rds[i].word=⟨#[]⟩ then a1o [a6i,atS c.rds[i].ch c.rds[i].ln c.rds[i].wd] else a1o [a6i,atS c.rds[i].ch c.rds[i].ln c.rds[i].wd]++(⟨#[32]⟩++c.rds[i].word):=by
      unfold c6e;rw [hk];rfl
     have hjs:(a1o [a6i,atS c.rds[i].ch c.rds[i].ln c.rds[i].wd]).size≤40:=by
      rw [a8d]
      have h:=b1i 15 [a6i,atS c.rds[i].ch c.rds[i].ln c.rds[i].wd] fun s hs=>by
       simp only [List.mem_cons,List.not_mem_nil,or_false] at hs
       rcases hs with rfl|rfl
       ·decide
       ·exact hats
      simp at h
      simp
      omega
     simp (maxSteps:=2000000) only [go_sem,hG,hOw,hk,i1,i2,i3,Nat.reduceMul,List.drop_succ_cons,List.drop_zero]
     (repeat' with_reducible first|refine And.intro ?_ ?_|intro _|refine exP ?_ ?_);all_goals try omega
     refine ⟨_,a0i (d3r c.rds[i].ch c.rds[i].ln c.rds[i].wd ha hb hd),?_⟩
     simp only [go_sem,hG,hOw]
     (repeat' with_reducible first|refine And.intro ?_ ?_|intro _|refine exP ?_ ?_);all_goals try omega
     refine a0b [(0,37)] [] (a1q a6i [atS c.rds[i].ch c.rds[i].ln c.rds[i].wd] (by simp) (by simp) (by decide) (by simp;omega)) ?_ (by (simp only [go_sem])<;>simp [a6i]) (by (simp only [go_sem,a1g,a0q,a0f,a1m])<;>simp [a6i]) (by simp [a0h,usH,toR,a6i])
     simp only [go_sem,hG,hOw]
     (repeat' with_reducible first|refine And.intro ?_ ?_|intro _|refine exP ?_ ?_);all_goals try omega
     ·rename_i hz
      rw [if_neg hz] at hrow
      refine ⟨i+1,by omega,by omega,?_⟩
      exact a1l [(100,some 50)] (by (simp only [hq,hmin,hrow,go_sem])<;>simp [hq,hmin,hrow]) (by (simp only [hq,hmin,hrow,go_sem,a1g,a0q,a0f,a1m])<;>simp [hq,hmin,hrow]) (by simp [a2m,apart]) (by simp [a0h,usH]) (by simp [hNm,lkR,a1c])
     ·rename_i hz
      rw [if_pos hz] at hrow
      refine ⟨i+1,by omega,by omega,?_⟩
      exact a1l [(100,some 50)] (by (simp only [hq,hmin,hrow,go_sem])<;>simp [hq,hmin,hrow]) (by (simp only [hq,hmin,hrow,go_sem,a1g,a0q,a0f,a1m])<;>simp [hq,hmin,hrow]) (by simp [a2m,apart]) (by simp [a0h,usH]) (by simp [hNm,lkR,a1c])
    ·have hrow:c6e c.rds[i]=if c.rds[i].word=⟨#[]⟩ then a1o [a1v,atS c.rds[i].ch c.rds[i].ln c.rds[i].wd] else a1o [a1v,atS c.rds[i].ch c.rds[i].ln c.rds[i].wd]++(⟨#[32]⟩++c.rds[i].word):=by
      unfold c6e;rw [hk];rfl
     have hjs:(a1o [a1v,atS c.rds[i].ch c.rds[i].ln c.rds[i].wd]).size≤40:=by
      rw [a8d]
      have h:=b1i 15 [a1v,atS c.rds[i].ch c.rds[i].ln c.rds[i].wd] fun s hs=>by
       simp only [List.mem_cons,List.not_mem_nil,or_false] at hs
       rcases hs with rfl|rfl
       ·decide
       ·exact hats
      simp at h
      simp
      omega
     simp (maxSteps:=2000000) only [go_sem,hG,hOw,hk,i1,i2,i3,Nat.reduceMul,List.drop_succ_cons,List.drop_zero]
     (repeat' with_reducible first|refine And.intro ?_ ?_|intro _|refine exP ?_ ?_);all_goals try omega
     refine ⟨_,a0i (d3r c.rds[i].ch c.rds[i].ln c.rds[i].wd ha hb hd),?_⟩
     simp only [go_sem,hG,hOw]
     (repeat' with_reducible first|refine And.intro ?_ ?_|intro _|refine exP ?_ ?_);all_goals try omega
     refine a0b [(0,37)] [] (a1q a1v [atS c.rds[i].ch c.rds[i].ln c.rds[i].wd] (by simp) (by simp) (by decide) (by simp;omega)) ?_ (by (simp only [go_sem])<;>simp [a1v]) (by (simp only [go_sem,a1g,a0q,a0f,a1m])<;>simp [a1v]) (by simp [a0h,usH,toR,a1v])
     simp only [go_sem,hG,hOw]
     (repeat' with_reducible first|refine And.intro ?_ ?_|intro _|refine exP ?_ ?_);all_goals try omega
     ·rename_i hz
      rw [if_neg hz] at hrow
      refine ⟨i+1,by omega,by omega,?_⟩
      exact a1l [(100,some 50)] (by (simp only [hq,hmin,hrow,go_sem])<;>simp [hq,hmin,hrow]) (by (simp only [hq,hmin,hrow,go_sem,a1g,a0q,a0f,a1m])<;>simp [hq,hmin,hrow]) (by simp [a2m,apart]) (by simp [a0h,usH]) (by simp [hNm,lkR,a1c])
     ·rename_i hz
      rw [if_pos hz] at hrow
      refine ⟨i+1,by omega,by omega,?_⟩
      exact a1l [(100,some 50)] (by (simp only [hq,hmin,hrow,go_sem])<;>simp [hq,hmin,hrow]) (by (simp only [hq,hmin,hrow,go_sem,a1g,a0q,a0f,a1m])<;>simp [hq,hmin,hrow]) (by simp [a2m,apart]) (by simp [a0h,usH]) (by simp [hNm,lkR,a1c])
   ·have hi2:i=c.rds.length:=by omega
    subst hi2
    refine a0l _ _ _ ?_;simp only [go_sem,hG,hOw]
    (repeat' with_reducible first|refine And.intro ?_ ?_|intro _|refine exP ?_ ?_);all_goals try omega
    exact ⟨(),a1l [(100,some 100)] (by (simp only [a7u,go_sem])<;>simp [a7u]) (by (simp only [a7u,go_sem,a1g,a0q,a0f,a1m])<;>simp [a7u]) (by simp [a2m,apart]) (by simp [a0h,usH]) (by simp [hNm,lkR,a1c])⟩
  rintro _ _
  simp only [go_sem,hG,hOw]
 ·simp only [go_sem,hG,hOw]
  (repeat' with_reducible first|refine And.intro ?_ ?_|intro _|refine exP ?_ ?_);all_goals try omega
  rw [if_neg h]
  exact Subs.tup (.cons (.nil _ _) (.cons (.refl _) .nil))
open Go Pm
set_option maxHeartbeats 4000000
set_option maxRecDepth 100000
end Go.Proofs.YtmjhfccbbfpppaaGreatDoor
