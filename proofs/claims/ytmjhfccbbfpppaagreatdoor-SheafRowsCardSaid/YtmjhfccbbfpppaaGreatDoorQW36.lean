import Derived.Test.YtmjhfccbbfpppaaGreatDoorQW30
import Derived.Test.YtmjhfccbbfpppaaGreatDoorQW32
import Derived.Test.YtmjhfccbbfpppaaGreatDoorQW35
namespace Go.Proofs.YtmjhfccbbfpppaaGreatDoor
open Go Pm
set_option linter.unusedSimpArgs false
set_option linter.unusedVariables false
set_option maxHeartbeats 4000000
set_option maxRecDepth 100000
def kdS (k:Int):ByteArray:=if k=1 then a3d else if k=2 then a6q else if k=3 then a1p else ⟨#[]⟩
def c0s (r:Rd):ByteArray:=if r.word=⟨#[]⟩ then a1b [kdS r.kind.toNat,atS r.ch r.ln r.wd] else a1b [kdS r.kind.toNat,atS r.ch r.ln r.wd]++(⟨#[32]⟩++r.word)
def a4j (c:Cp):List ByteArray:=a1b [a6y,a1v c.id]::c.rds.map c0s
theorem c8k (c:Cp) (i:Nat) (hi:i < c.rds.length):a1b [a6y,a1v c.id]::(c.rds.take (i+1)).map c0s=(a1b [a6y,a1v c.id]::(c.rds.take i).map c0s)++[c0s c.rds[i]]:=by
 rw [List.take_add_one,List.getElem?_eq_getElem hi,List.map_append];rfl
theorem c8a (a b c:Int) (ha:in9 a) (hb:in9 b) (hc:in9 c):(atS a b c).size≤15:=by
 have h:=b2n 4 [a1v a,a1v b,a1v c] fun s hs=>by
  simp only [List.mem_cons,List.not_mem_nil,or_false] at hs
  rcases hs with rfl|rfl|rfl
  ·exact a3m ha.1 ha.2
  ·exact a3m hb.1 hb.2
  ·exact a3m hc.1 hc.2
 unfold atS
 rw [a8q]
 simpa using h
theorem f7a (k:Int):(kdS k).size≤5:=by
 unfold kdS
 split
 ·decide
 ·split
  ·decide
  ·split<;>decide
theorem e2n {t:List Ch} {c:Cp} (ht:a1z t=true) (h:a8y t c=true):in9 c.id∧c.rds.length≤20∧OKR t c.rds:=by
 unfold a8y at h
 simp only [Bool.and_eq_true,decide_eq_true_eq,inB_iff] at h
 obtain ⟨⟨⟨h1,h2⟩,h3⟩,_⟩:=h
 exact ⟨h1,h2,f2v ht (by omega) h3⟩
theorem g7k {r:Rd} (h:InP r):in9 r.ch∧in9 r.ln∧in9 r.wd:=by
 obtain ⟨⟨a1,a2⟩,⟨a3,a4⟩,⟨a5,a6⟩⟩:=h
 exact ⟨⟨a1,by omega⟩,⟨a3,by omega⟩,⟨a5,by omega⟩⟩
theorem e6f {r:Rd} (h:b5s r):(r.kind.toNat:Int)=1∨(r.kind.toNat:Int)=2∨(r.kind.toNat:Int)=3:=by
 rcases h with ⟨h,_⟩|⟨h,_⟩|⟨h,_⟩<;>simp [h]
theorem d7o {r:Rd} (h:b5s r):r.word.size≤12:=by
 rcases h with ⟨_,h⟩|⟨_,h⟩|⟨_,h⟩
 ·rw [h];decide
 ·exact (a3f h).2
 ·exact (a3f h).2
theorem c4p (t:List Ch) (c:Cp):a0p Tryz.prog 20 [txE 0 t,cpE 0 c] (fun n=>.tup [a0h n (if a7t t c=0 then a4j c else []),i64 (a7t t c)]):=by
 refine a0c (ow:=fun i=>[20,22,37,1000020,1000037].contains i) Tryz.func20 Tryz.ntmps20 rfl rfl fun G hG hOw hNm hB=>?_;simp only [go_sem,hG,hOw]
 refine a0a (b0r t c) ?_
 by_cases h:a7t t c=0
 ·have ht:a1z t=true:=by
   cases ht:a1z t with
   |true=>rfl
   |false=>simp [a7t,ht] at h
  have hc:a8y t c=true:=by
   cases hc:a8y t c with
   |true=>rfl
   |false=>simp [a7t,ht,hc] at h
  obtain ⟨hid,hn,hO⟩:=e2n ht hc
  have hsz:=a3m hid.1 hid.2
  rw [h,if_pos rfl]
  simp only [go_sem,hG,hOw]
  (repeat' with_reducible first|refine And.intro ?_ ?_|intro _|refine exP ?_ ?_);all_goals try omega
  refine a0a (a5g c.id hid.1 hid.2) ?_
  simp only [go_sem,hG,hOw]
  (repeat' with_reducible first|refine And.intro ?_ ?_|intro _|refine exP ?_ ?_);all_goals try omega
  refine a0b [(0,20)] [] (a1n a6y [a1v c.id] (by simp) (by simp) (by decide) (by simp;omega)) ?_ (by (simp only [go_sem])<;>simp [a6y]) (by (simp only [go_sem,a1f,a0q,a0e,a1l])<;>simp [a6y]) (by simp [a0f,usH,toR,a6y])
  simp only [go_sem,hG,hOw]
  (repeat' with_reducible first|refine And.intro ?_ ?_|intro _|refine exP ?_ ?_);all_goals try omega
  refine a3l (fun _:Unit=>St.of [(7,.own 100 0 (a4j c).length 1)] [(100,.arr 9 1 ((a4j c).map a2j))]) (fun _=>True) ?_ ?_
  ·refine a0n (fun i:Nat=>St.of [(7,.own 100 0 (a1b [a6y,a1v c.id]::(c.rds.take i).map c0s).length 1),(24,rds 0 c.rds),(25,i64 c.rds.length),(26,i64 i)] [(100,.arr 9 1 ((a1b [a6y,a1v c.id]::(c.rds.take i).map c0s).map a2j))]) (fun i=>i≤c.rds.length) (fun i=>c.rds.length - i) 0 (by simp) (a1k [(100,some 22)] (by (simp only [List.take_zero,List.map_nil,a2j,go_sem])<;>simp [List.take_zero,List.map_nil,a2j]) (by (simp only [List.take_zero,List.map_nil,a2j,go_sem,a1f,a0q,a0e,a1l])<;>simp [List.take_zero,List.map_nil,a2j]) (by simp [a2s,apart]) (by simp [a0f,usH]) (by simp [hNm,lkR,a0z])) ?_
   rintro i hi
   by_cases hil:i < c.rds.length
   ·have hlt:(i:Int) < c.rds.length:=by omega
    obtain ⟨hI,hG2⟩:=hO.i _ (List.getElem_mem hil)
    obtain ⟨ha,hb,hd⟩:=g7k hI
    have hws:=d7o hG2
    have hats:=c8a _ _ _ ha hb hd
    have hkds:=f7a (c.rds[i].kind.toNat)
    have hstep:=c8k c i hil
    obtain ⟨U,hU⟩:∃ U,U=(a1b [a6y,a1v c.id]::(c.rds.take i).map c0s):=⟨_,rfl⟩
    rw [← hU] at hstep ⊢
    have hUl:U.length≤30:=by rw [hU];simp;omega
    have i1:Int.toNat 1=1:=rfl
    have i2:Int.toNat 2=2:=rfl
    have i3:Int.toNat 3=3:=rfl
    refine a0g _ _ _ ?_;simp (maxSteps:=2000000) only [go_sem,hG,hOw,decide_eq_true hlt]
    (repeat' with_reducible first|refine And.intro ?_ ?_|intro _|refine exP ?_ ?_);all_goals try omega
    refine a1s ⟨[37],[],[]⟩ [(0,false),(1,false),(2,false),(3,false),(4,false),(5,false),(6,false),(7,false),(8,true),(9,false)] mixed (by kernel_rfl) ?_
    simp only [a2v,List.getElem?_cons_zero,List.getElem?_cons_succ]
    have hUi:U.length=i+1:=by rw [hU];simp;omega
    have hmin:min (i+1) c.rds.length=U.length:=by omega
    have hs1:(#[32]:Array UInt8).size=1:=rfl
    have hq:[V.v (Value.string (a1b [a6y,a1v c.id]))]::List.map a2j (List.map c0s (List.take (i+1) c.rds))=List.map a2j U++[[V.v (Value.string (c0s c.rds[i]))]]:=by
     have:=congrArg (List.map a2j) hstep
     rw [List.map_append] at this
     exact this
    rcases e6f hG2 with hk|hk|hk
    ·have hrow:c0s c.rds[i]=if c.rds[i].word=⟨#[]⟩ then a1b [a3d,atS c.rds[i].ch c.rds[i].ln c.rds[i].wd] else a1b [a3d,atS c.rds[i].ch c.rds[i].ln c.rds[i].wd]++(⟨#[32]⟩++c.rds[i].word):=by
      unfold c0s;rw [hk];rfl
     have hjs:(a1b [a3d,atS c.rds[i].ch c.rds[i].ln c.rds[i].wd]).size≤40:=by
      rw [a8q]
      have h:=b2n 15 [a3d,atS c.rds[i].ch c.rds[i].ln c.rds[i].wd] fun s hs=>by
       simp only [List.mem_cons,List.not_mem_nil,or_false] at hs
       rcases hs with rfl|rfl
       ·decide
       ·exact hats
      simp at h
      simp
      omega
     simp (maxSteps:=2000000) only [go_sem,hG,hOw,hk,i1,i2,i3,Nat.reduceMul,List.drop_succ_cons,List.drop_zero]
     (repeat' with_reducible first|refine And.intro ?_ ?_|intro _|refine exP ?_ ?_);all_goals try omega
     refine ⟨_,a0j (d5z c.rds[i].ch c.rds[i].ln c.rds[i].wd ha hb hd),?_⟩
     simp only [go_sem,hG,hOw]
     (repeat' with_reducible first|refine And.intro ?_ ?_|intro _|refine exP ?_ ?_);all_goals try omega
     refine a0b [(0,37)] [] (a1n a3d [atS c.rds[i].ch c.rds[i].ln c.rds[i].wd] (by simp) (by simp) (by decide) (by simp;omega)) ?_ (by (simp only [go_sem])<;>simp [a3d]) (by (simp only [go_sem,a1f,a0q,a0e,a1l])<;>simp [a3d]) (by simp [a0f,usH,toR,a3d])
     simp only [go_sem,hG,hOw]
     (repeat' with_reducible first|refine And.intro ?_ ?_|intro _|refine exP ?_ ?_);all_goals try omega
     ·rename_i hz
      rw [if_neg hz] at hrow
      refine ⟨i+1,by omega,by omega,?_⟩
      exact a1k [(100,some 50)] (by (simp only [hq,hmin,hrow,go_sem])<;>simp [hq,hmin,hrow]) (by (simp only [hq,hmin,hrow,go_sem,a1f,a0q,a0e,a1l])<;>simp [hq,hmin,hrow]) (by simp [a2s,apart]) (by simp [a0f,usH]) (by simp [hNm,lkR,a0z])
     ·rename_i hz
      rw [if_pos hz] at hrow
      refine ⟨i+1,by omega,by omega,?_⟩
      exact a1k [(100,some 50)] (by (simp only [hq,hmin,hrow,go_sem])<;>simp [hq,hmin,hrow]) (by (simp only [hq,hmin,hrow,go_sem,a1f,a0q,a0e,a1l])<;>simp [hq,hmin,hrow]) (by simp [a2s,apart]) (by simp [a0f,usH]) (by simp [hNm,lkR,a0z])
    ·have hrow:c0s c.rds[i]=if c.rds[i].word=⟨#[]⟩ then a1b [a6q,atS c.rds[i].ch c.rds[i].ln c.rds[i].wd] else a1b [a6q,atS c.rds[i].ch c.rds[i].ln c.rds[i].wd]++(⟨#[32]⟩++c.rds[i].word):=by
      unfold c0s;rw [hk];rfl
     have hjs:(a1b [a6q,atS c.rds[i].ch c.rds[i].ln c.rds[i].wd]).size≤40:=by
      rw [a8q]
      have h:=b2n 15 [a6q,atS c.rds[i].ch c.rds[i].ln c.rds[i].wd] fun s hs=>by
       simp only [List.mem_cons,List.not_mem_nil,or_false] at hs
       rcases hs with rfl|rfl
       ·decide
       ·exact hats
      simp at h
      simp
      omega
     simp (maxSteps:=2000000) only [go_sem,hG,hOw,hk,i1,i2,i3,Nat.reduceMul,List.drop_succ_cons,List.drop_zero]
     (repeat' with_reducible first|refine And.intro ?_ ?_|intro _|refine exP ?_ ?_);all_goals try omega
     refine ⟨_,a0j (d5z c.rds[i].ch c.rds[i].ln c.rds[i].wd ha hb hd),?_⟩
     simp only [go_sem,hG,hOw]
     (repeat' with_reducible first|refine And.intro ?_ ?_|intro _|refine exP ?_ ?_);all_goals try omega
     refine a0b [(0,37)] [] (a1n a6q [atS c.rds[i].ch c.rds[i].ln c.rds[i].wd] (by simp) (by simp) (by decide) (by simp;omega)) ?_ (by (simp only [go_sem])<;>simp [a6q]) (by (simp only [go_sem,a1f,a0q,a0e,a1l])<;>simp [a6q]) (by simp [a0f,usH,toR,a6q])
     simp only [go_sem,hG,hOw]
     (repeat' with_reducible first|refine And.intro ?_ ?_|intro _|refine exP ?_ ?_);all_goals try omega
     ·rename_i hz
      rw [if_neg hz] at hrow
      refine ⟨i+1,by omega,by omega,?_⟩
      exact a1k [(100,some 50)] (by (simp only [hq,hmin,hrow,go_sem])<;>simp [hq,hmin,hrow]) (by (simp only [hq,hmin,hrow,go_sem,a1f,a0q,a0e,a1l])<;>simp [hq,hmin,hrow]) (by simp [a2s,apart]) (by simp [a0f,usH]) (by simp [hNm,lkR,a0z])
     ·rename_i hz
      rw [if_pos hz] at hrow
      refine ⟨i+1,by omega,by omega,?_⟩
      exact a1k [(100,some 50)] (by (simp only [hq,hmin,hrow,go_sem])<;>simp [hq,hmin,hrow]) (by (simp only [hq,hmin,hrow,go_sem,a1f,a0q,a0e,a1l])<;>simp [hq,hmin,hrow]) (by simp [a2s,apart]) (by simp [a0f,usH]) (by simp [hNm,lkR,a0z])
    ·have hrow:c0s c.rds[i]=if c.rds[i].word=⟨#[]⟩ then a1b [a1p,atS c.rds[i].ch c.rds[i].ln c.rds[i].wd] else a1b [a1p,atS c.rds[i].ch c.rds[i].ln c.rds[i].wd]++(⟨#[32]⟩++c.rds[i].word):=by
      unfold c0s;rw [hk];rfl
     have hjs:(a1b [a1p,atS c.rds[i].ch c.rds[i].ln c.rds[i].wd]).size≤40:=by
      rw [a8q]
      have h:=b2n 15 [a1p,atS c.rds[i].ch c.rds[i].ln c.rds[i].wd] fun s hs=>by
       simp only [List.mem_cons,List.not_mem_nil,or_false] at hs
       rcases hs with rfl|rfl
       ·decide
       ·exact hats
      simp at h
      simp
      omega
     simp (maxSteps:=2000000) only [go_sem,hG,hOw,hk,i1,i2,i3,Nat.reduceMul,List.drop_succ_cons,List.drop_zero]
     (repeat' with_reducible first|refine And.intro ?_ ?_|intro _|refine exP ?_ ?_);all_goals try omega
     refine ⟨_,a0j (d5z c.rds[i].ch c.rds[i].ln c.rds[i].wd ha hb hd),?_⟩
     simp only [go_sem,hG,hOw]
     (repeat' with_reducible first|refine And.intro ?_ ?_|intro _|refine exP ?_ ?_);all_goals try omega
     refine a0b [(0,37)] [] (a1n a1p [atS c.rds[i].ch c.rds[i].ln c.rds[i].wd] (by simp) (by simp) (by decide) (by simp;omega)) ?_ (by (simp only [go_sem])<;>simp [a1p]) (by (simp only [go_sem,a1f,a0q,a0e,a1l])<;>simp [a1p]) (by simp [a0f,usH,toR,a1p])
     simp only [go_sem,hG,hOw]
     (repeat' with_reducible first|refine And.intro ?_ ?_|intro _|refine exP ?_ ?_);all_goals try omega
     ·rename_i hz
      rw [if_neg hz] at hrow
      refine ⟨i+1,by omega,by omega,?_⟩
      exact a1k [(100,some 50)] (by (simp only [hq,hmin,hrow,go_sem])<;>simp [hq,hmin,hrow]) (by (simp only [hq,hmin,hrow,go_sem,a1f,a0q,a0e,a1l])<;>simp [hq,hmin,hrow]) (by simp [a2s,apart]) (by simp [a0f,usH]) (by simp [hNm,lkR,a0z])
     ·rename_i hz
      rw [if_pos hz] at hrow
      refine ⟨i+1,by omega,by omega,?_⟩
      exact a1k [(100,some 50)] (by (simp only [hq,hmin,hrow,go_sem])<;>simp [hq,hmin,hrow]) (by (simp only [hq,hmin,hrow,go_sem,a1f,a0q,a0e,a1l])<;>simp [hq,hmin,hrow]) (by simp [a2s,apart]) (by simp [a0f,usH]) (by simp [hNm,lkR,a0z])
   ·have hi2:i=c.rds.length:=by omega
    subst hi2
    refine a0g _ _ _ ?_;simp only [go_sem,hG,hOw]
    (repeat' with_reducible first|refine And.intro ?_ ?_|intro _|refine exP ?_ ?_);all_goals try omega
    exact ⟨(),a1k [(100,some 100)] (by (simp only [a4j,go_sem])<;>simp [a4j]) (by (simp only [a4j,go_sem,a1f,a0q,a0e,a1l])<;>simp [a4j]) (by simp [a2s,apart]) (by simp [a0f,usH]) (by simp [hNm,lkR,a0z])⟩
  rintro _ _
  simp only [go_sem,hG,hOw]
 ·simp only [go_sem,hG,hOw]
  (repeat' with_reducible first|refine And.intro ?_ ?_|intro _|refine exP ?_ ?_);all_goals try omega
  rw [if_neg h]
  exact Subs.tup (.cons (.nil _ _) (.cons (.refl _) .nil))
open Go Pm
set_option maxHeartbeats 4000000
set_option maxRecDepth 100000
end Go.Proofs.YtmjhfccbbfpppaaGreatDoor
