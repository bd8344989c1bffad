import Derived.Test.YtmjhfccbbfpppaaGreatDoorQA29
import Derived.Test.YtmjhfccbbfpppaaGreatDoorQA31
import Derived.Test.YtmjhfccbbfpppaaGreatDoorQA35
namespace Go.Proofs.YtmjhfccbbfpppaaGreatDoor
open Go Pm
set_option linter.unusedSimpArgs false
set_option linter.unusedVariables false
set_option maxHeartbeats 4000000
set_option maxRecDepth 100000
def kdS (k:Int):ByteArray:=if k=1 then b7t else if k=2 then e4x else if k=3 then b0r else ⟨#[]⟩
def c5w (r:Rd):ByteArray:=if r.word=⟨#[]⟩ then a0w [kdS r.kind.toNat,atS r.ch r.ln r.wd] else a0w [kdS r.kind.toNat,atS r.ch r.ln r.wd]++(⟨#[32]⟩++r.word)
def a7d (c:Cp):List ByteArray:=a0w [b3k,a2h c.id]::c.rds.map c5w
theorem c6f (c:Cp) (i:Nat) (hi:i < c.rds.length):a0w [b3k,a2h c.id]::(c.rds.take (i+1)).map c5w=(a0w [b3k,a2h c.id]::(c.rds.take i).map c5w)++[c5w c.rds[i]]:=by
 rw [List.take_add_one,List.getElem?_eq_getElem hi,List.map_append];rfl
theorem c9f (a b c:Int) (ha:in9 a) (hb:in9 b) (hc:in9 c):(atS a b c).size≤15:=by
 have h:=a9n 4 [a2h a,a2h b,a2h c] fun s hs=>by
  simp only [List.mem_cons,List.not_mem_nil,or_false] at hs
  rcases hs with rfl|rfl|rfl
  ·exact a2t ha.1 ha.2
  ·exact a2t hb.1 hb.2
  ·exact a2t hc.1 hc.2
 unfold atS
 rw [a6o]
 simpa using h
theorem f5o (k:Int):(kdS k).size≤5:=by
 unfold kdS
 split
 ·decide
 ·split
  ·decide
  ·split<;>decide
theorem e1j {t:List Ch} {c:Cp} (ht:a1r t=true) (h:a7s t c=true):in9 c.id∧c.rds.length≤20∧OKR t c.rds:=by
 unfold a7s at h
 simp only [Bool.and_eq_true,decide_eq_true_eq,inB_iff] at h
 obtain ⟨⟨⟨h1,h2⟩,h3⟩,_⟩:=h
 exact ⟨h1,h2,f1o ht (by omega) h3⟩
theorem g5k {r:Rd} (h:InP r):in9 r.ch∧in9 r.ln∧in9 r.wd:=by
 obtain ⟨⟨a1,a2⟩,⟨a3,a4⟩,⟨a5,a6⟩⟩:=h
 exact ⟨⟨a1,by omega⟩,⟨a3,by omega⟩,⟨a5,by omega⟩⟩
theorem d9j {r:Rd} (h:b4f r):(r.kind.toNat:Int)=1∨(r.kind.toNat:Int)=2∨(r.kind.toNat:Int)=3:=by
 rcases h with ⟨h,_⟩|⟨h,_⟩|⟨h,_⟩<;>simp [h]
theorem d6h {r:Rd} (h:b4f r):r.word.size≤12:=by
 rcases h with ⟨_,h⟩|⟨_,h⟩|⟨_,h⟩
 ·rw [h];decide
 ·exact (a2n h).2
 ·exact (a2n h).2
theorem d7a (t:List Ch) (c:Cp):a0l Tryz.prog 20 [txE 0 t,cpE 0 c] (fun n=>.tup [a0o n (if a8w t c=0 then a7d c else []),i64 (a8w t c)]):=by
 refine a0b (ow:=fun i=>[20,22,37,1000020,1000037].contains i) Tryz.func20 Tryz.ntmps20 rfl rfl fun G hG hOw hNm hB=>?_;simp only [go_sem,hG,hOw]
 refine a0a (c4u t c) ?_
 by_cases h:a8w t c=0
 ·have ht:a1r t=true:=by
   cases ht:a1r t with
   |true=>rfl
   |false=>simp [a8w,ht] at h
  have hc:a7s t c=true:=by
   cases hc:a7s t c with
   |true=>rfl
   |false=>simp [a8w,ht,hc] at h
  obtain ⟨hid,hn,hO⟩:=e1j ht hc
  have hsz:=a2t hid.1 hid.2
  rw [h,if_pos rfl]
  simp only [go_sem,hG,hOw]
  (repeat' with_reducible first|refine And.intro ?_ ?_|intro _|refine exP ?_ ?_);all_goals try omega
  refine a0a (a4q c.id hid.1 hid.2) ?_
  simp only [go_sem,hG,hOw]
  (repeat' with_reducible first|refine And.intro ?_ ?_|intro _|refine exP ?_ ?_);all_goals try omega
  refine a0c [(0,20)] [] (a1f b3k [a2h c.id] (by simp) (by simp) (by decide) (by simp;omega)) ?_ (by (simp only [go_sem])<;>simp [b3k]) (by (simp only [go_sem,a1k,a0s,a0j,a1q])<;>simp [b3k]) (by simp [a0q,usH,toR,b3k])
  simp only [go_sem,hG,hOw]
  (repeat' with_reducible first|refine And.intro ?_ ?_|intro _|refine exP ?_ ?_);all_goals try omega
  refine a2z (fun _:Unit=>St.of [(7,.own 100 0 (a7d c).length 1)] [(100,.arr 9 1 ((a7d c).map a1z))]) (fun _=>True) ?_ ?_
  ·refine a0i (fun i:Nat=>St.of [(7,.own 100 0 (a0w [b3k,a2h c.id]::(c.rds.take i).map c5w).length 1),(24,rds 0 c.rds),(25,i64 c.rds.length),(26,i64 i)] [(100,.arr 9 1 ((a0w [b3k,a2h c.id]::(c.rds.take i).map c5w).map a1z))]) (fun i=>i≤c.rds.length) (fun i=>c.rds.length - i) 0 (by simp) (a1i [(100,some 22)] (by (simp only [List.take_zero,List.map_nil,a1z,go_sem])<;>simp [List.take_zero,List.map_nil,a1z]) (by (simp only [List.take_zero,List.map_nil,a1z,go_sem,a1k,a0s,a0j,a1q])<;>simp [List.take_zero,List.map_nil,a1z]) (by simp [a2r,apart]) (by simp [a0q,usH]) (by simp [hNm,lkR,a0z])) ?_
   rintro i hi
   by_cases hil:i < c.rds.length
   ·have hlt:(i:Int) < c.rds.length:=by omega
    obtain ⟨hI,hG2⟩:=hO.i _ (List.getElem_mem hil)
    obtain ⟨ha,hb,hd⟩:=g5k hI
    have hws:=d6h hG2
    have hats:=c9f _ _ _ ha hb hd
    have hkds:=f5o (c.rds[i].kind.toNat)
    have hstep:=c6f c i hil
    obtain ⟨U,hU⟩:∃ U,U=(a0w [b3k,a2h c.id]::(c.rds.take i).map c5w):=⟨_,rfl⟩
    rw [← hU] at hstep ⊢
    have hUl:U.length≤30:=by rw [hU];simp;omega
    have i1:Int.toNat 1=1:=rfl
    have i2:Int.toNat 2=2:=rfl
    have i3:Int.toNat 3=3:=rfl
    refine a0d _ _ _ ?_;simp (maxSteps:=2000000) only [go_sem,hG,hOw,decide_eq_true hlt]
    (repeat' with_reducible first|refine And.intro ?_ ?_|intro _|refine exP ?_ ?_);all_goals try omega
    refine a2o ⟨[37],[],[]⟩ [(0,false),(1,false),(2,false),(3,false),(4,false),(5,false),(6,false),(7,false),(8,true),(9,false)] mixed (by kernel_rfl) ?_
    simp only [a4b,List.getElem?_cons_zero,List.getElem?_cons_succ]
    have hUi:U.length=i+1:=by rw [hU];simp;omega
    have hmin:min (i+1) c.rds.length=U.length:=by omega
    have hs1:(#[32]:Array UInt8).size=1:=rfl
    have hq:[V.v (Value.string (a0w [b3k,a2h c.id]))]::List.map a1z (List.map c5w (List.take (i+1) c.rds))=List.map a1z U++[[V.v (Value.string (c5w c.rds[i]))]]:=by
     have:=congrArg (List.map a1z) hstep
     rw [List.map_append] at this
     exact this
    rcases d9j hG2 with hk|hk|hk
    ·have hrow:c5w c.rds[i]=if c.rds[i].word=⟨#[]⟩ then a0w [b7t,atS c.rds[i].ch c.rds[i].ln c.rds[i].wd] else a0w [b7t,atS c.rds[i].ch c.rds[i].ln c.rds[i].wd]++(⟨#[32]⟩++c.rds[i].word):=by
      unfold c5w;rw [hk];rfl
     have hjs:(a0w [b7t,atS c.rds[i].ch c.rds[i].ln c.rds[i].wd]).size≤40:=by
      rw [a6o]
      have h:=a9n 15 [b7t,atS c.rds[i].ch c.rds[i].ln c.rds[i].wd] fun s hs=>by
       simp only [List.mem_cons,List.not_mem_nil,or_false] at hs
       rcases hs with rfl|rfl
       ·decide
       ·exact hats
      simp at h
      simp
      omega
     simp (maxSteps:=2000000) only [go_sem,hG,hOw,hk,i1,i2,i3,Nat.reduceMul,List.drop_succ_cons,List.drop_zero]
     (repeat' with_reducible first|refine And.intro ?_ ?_|intro _|refine exP ?_ ?_);all_goals try omega
     refine ⟨_,a0e (d3v c.rds[i].ch c.rds[i].ln c.rds[i].wd ha hb hd),?_⟩
     simp only [go_sem,hG,hOw]
     (repeat' with_reducible first|refine And.intro ?_ ?_|intro _|refine exP ?_ ?_);all_goals try omega
     refine a0c [(0,37)] [] (a1f b7t [atS c.rds[i].ch c.rds[i].ln c.rds[i].wd] (by simp) (by simp) (by decide) (by simp;omega)) ?_ (by (simp only [go_sem])<;>simp [b7t]) (by (simp only [go_sem,a1k,a0s,a0j,a1q])<;>simp [b7t]) (by simp [a0q,usH,toR,b7t])
     simp only [go_sem,hG,hOw]
     (repeat' with_reducible first|refine And.intro ?_ ?_|intro _|refine exP ?_ ?_);all_goals try omega
     ·rename_i hz
      rw [if_neg hz] at hrow
      refine ⟨i+1,by omega,by omega,?_⟩
      exact a1i [(100,some 50)] (by (simp only [hq,hmin,hrow,go_sem])<;>simp [hq,hmin,hrow]) (by (simp only [hq,hmin,hrow,go_sem,a1k,a0s,a0j,a1q])<;>simp [hq,hmin,hrow]) (by simp [a2r,apart]) (by simp [a0q,usH]) (by simp [hNm,lkR,a0z])
     ·rename_i hz
      rw [if_pos hz] at hrow
      refine ⟨i+1,by omega,by omega,?_⟩
      exact a1i [(100,some 50)] (by (simp only [hq,hmin,hrow,go_sem])<;>simp [hq,hmin,hrow]) (by (simp only [hq,hmin,hrow,go_sem,a1k,a0s,a0j,a1q])<;>simp [hq,hmin,hrow]) (by simp [a2r,apart]) (by simp [a0q,usH]) (by simp [hNm,lkR,a0z])
    ·have hrow:c5w c.rds[i]=if c.rds[i].word=⟨#[]⟩ then a0w [e4x,atS c.rds[i].ch c.rds[i].ln c.rds[i].wd] else a0w [e4x,atS c.rds[i].ch c.rds[i].ln c.rds[i].wd]++(⟨#[32]⟩++c.rds[i].word):=by
      unfold c5w;rw [hk];rfl
     have hjs:(a0w [e4x,atS c.rds[i].ch c.rds[i].ln c.rds[i].wd]).size≤40:=by
      rw [a6o]
      have h:=a9n 15 [e4x,atS c.rds[i].ch c.rds[i].ln c.rds[i].wd] fun s hs=>by
       simp only [List.mem_cons,List.not_mem_nil,or_false] at hs
       rcases hs with rfl|rfl
       ·decide
       ·exact hats
      simp at h
      simp
      omega
     simp (maxSteps:=2000000) only [go_sem,hG,hOw,hk,i1,i2,i3,Nat.reduceMul,List.drop_succ_cons,List.drop_zero]
     (repeat' with_reducible first|refine And.intro ?_ ?_|intro _|refine exP ?_ ?_);all_goals try omega
     refine ⟨_,a0e (d3v c.rds[i].ch c.rds[i].ln c.rds[i].wd ha hb hd),?_⟩
     simp only [go_sem,hG,hOw]
     (repeat' with_reducible first|refine And.intro ?_ ?_|intro _|refine exP ?_ ?_);all_goals try omega
     refine a0c [(0,37)] [] (a1f e4x [atS c.rds[i].ch c.rds[i].ln c.rds[i].wd] (by simp) (by simp) (by decide) (by simp;omega)) ?_ (by (simp only [go_sem])<;>simp [e4x]) (by (simp only [go_sem,a1k,a0s,a0j,a1q])<;>simp [e4x]) (by simp [a0q,usH,toR,e4x])
     simp only [go_sem,hG,hOw]
     (repeat' with_reducible first|refine And.intro ?_ ?_|intro _|refine exP ?_ ?_);all_goals try omega
     ·rename_i hz
      rw [if_neg hz] at hrow
      refine ⟨i+1,by omega,by omega,?_⟩
      exact a1i [(100,some 50)] (by (simp only [hq,hmin,hrow,go_sem])<;>simp [hq,hmin,hrow]) (by (simp only [hq,hmin,hrow,go_sem,a1k,a0s,a0j,a1q])<;>simp [hq,hmin,hrow]) (by simp [a2r,apart]) (by simp [a0q,usH]) (by simp [hNm,lkR,a0z])
     ·rename_i hz
      rw [if_pos hz] at hrow
      refine ⟨i+1,by omega,by omega,?_⟩
      exact a1i [(100,some 50)] (by (simp only [hq,hmin,hrow,go_sem])<;>simp [hq,hmin,hrow]) (by (simp only [hq,hmin,hrow,go_sem,a1k,a0s,a0j,a1q])<;>simp [hq,hmin,hrow]) (by simp [a2r,apart]) (by simp [a0q,usH]) (by simp [hNm,lkR,a0z])
    ·have hrow:c5w c.rds[i]=if c.rds[i].word=⟨#[]⟩ then a0w [b0r,atS c.rds[i].ch c.rds[i].ln c.rds[i].wd] else a0w [b0r,atS c.rds[i].ch c.rds[i].ln c.rds[i].wd]++(⟨#[32]⟩++c.rds[i].word):=by
      unfold c5w;rw [hk];rfl
     have hjs:(a0w [b0r,atS c.rds[i].ch c.rds[i].ln c.rds[i].wd]).size≤40:=by
      rw [a6o]
      have h:=a9n 15 [b0r,atS c.rds[i].ch c.rds[i].ln c.rds[i].wd] fun s hs=>by
       simp only [List.mem_cons,List.not_mem_nil,or_false] at hs
       rcases hs with rfl|rfl
       ·decide
       ·exact hats
      simp at h
      simp
      omega
     simp (maxSteps:=2000000) only [go_sem,hG,hOw,hk,i1,i2,i3,Nat.reduceMul,List.drop_succ_cons,List.drop_zero]
     (repeat' with_reducible first|refine And.intro ?_ ?_|intro _|refine exP ?_ ?_);all_goals try omega
     refine ⟨_,a0e (d3v c.rds[i].ch c.rds[i].ln c.rds[i].wd ha hb hd),?_⟩
     simp only [go_sem,hG,hOw]
     (repeat' with_reducible first|refine And.intro ?_ ?_|intro _|refine exP ?_ ?_);all_goals try omega
     refine a0c [(0,37)] [] (a1f b0r [atS c.rds[i].ch c.rds[i].ln c.rds[i].wd] (by simp) (by simp) (by decide) (by simp;omega)) ?_ (by (simp only [go_sem])<;>simp [b0r]) (by (simp only [go_sem,a1k,a0s,a0j,a1q])<;>simp [b0r]) (by simp [a0q,usH,toR,b0r])
     simp only [go_sem,hG,hOw]
     (repeat' with_reducible first|refine And.intro ?_ ?_|intro _|refine exP ?_ ?_);all_goals try omega
     ·rename_i hz
      rw [if_neg hz] at hrow
      refine ⟨i+1,by omega,by omega,?_⟩
      exact a1i [(100,some 50)] (by (simp only [hq,hmin,hrow,go_sem])<;>simp [hq,hmin,hrow]) (by (simp only [hq,hmin,hrow,go_sem,a1k,a0s,a0j,a1q])<;>simp [hq,hmin,hrow]) (by simp [a2r,apart]) (by simp [a0q,usH]) (by simp [hNm,lkR,a0z])
     ·rename_i hz
      rw [if_pos hz] at hrow
      refine ⟨i+1,by omega,by omega,?_⟩
      exact a1i [(100,some 50)] (by (simp only [hq,hmin,hrow,go_sem])<;>simp [hq,hmin,hrow]) (by (simp only [hq,hmin,hrow,go_sem,a1k,a0s,a0j,a1q])<;>simp [hq,hmin,hrow]) (by simp [a2r,apart]) (by simp [a0q,usH]) (by simp [hNm,lkR,a0z])
   ·have hi2:i=c.rds.length:=by omega
    subst hi2
    refine a0d _ _ _ ?_;simp only [go_sem,hG,hOw]
    (repeat' with_reducible first|refine And.intro ?_ ?_|intro _|refine exP ?_ ?_);all_goals try omega
    exact ⟨(),a1i [(100,some 100)] (by (simp only [a7d,go_sem])<;>simp [a7d]) (by (simp only [a7d,go_sem,a1k,a0s,a0j,a1q])<;>simp [a7d]) (by simp [a2r,apart]) (by simp [a0q,usH]) (by simp [hNm,lkR,a0z])⟩
  rintro _ _
  simp only [go_sem,hG,hOw]
 ·simp only [go_sem,hG,hOw]
  (repeat' with_reducible first|refine And.intro ?_ ?_|intro _|refine exP ?_ ?_);all_goals try omega
  rw [if_neg h]
  exact Subs.tup (.cons (.nil _ _) (.cons (.refl _) .nil))
open Go Pm
set_option maxHeartbeats 4000000
set_option maxRecDepth 100000
end Go.Proofs.YtmjhfccbbfpppaaGreatDoor
