import Derived.Test.YtmjhfccbbfpppaaGreatDoorQB27
import Derived.Test.YtmjhfccbbfpppaaGreatDoorQB29
import Derived.Test.YtmjhfccbbfpppaaGreatDoorQB33
namespace Go.Proofs.YtmjhfccbbfpppaaGreatDoor
open Go Pm
set_option linter.unusedSimpArgs false
set_option linter.unusedVariables false
set_option maxHeartbeats 4000000
set_option maxRecDepth 100000
def kdS (k:Int):ByteArray:=if k=1 then b8o else if k=2 then e5t else if k=3 then b1j else ⟨#[]⟩
def c7a (r:Rd):ByteArray:=if r.word=⟨#[]⟩ then a1b [kdS r.kind.toNat,atS r.ch r.ln r.wd] else a1b [kdS r.kind.toNat,atS r.ch r.ln r.wd]++(⟨#[32]⟩++r.word)
def a7k (c:Cp):List ByteArray:=a1b [b3k,a1q c.id]::c.rds.map c7a
theorem c7n (c:Cp) (i:Nat) (hi:i < c.rds.length):a1b [b3k,a1q c.id]::(c.rds.take (i+1)).map c7a=(a1b [b3k,a1q c.id]::(c.rds.take i).map c7a)++[c7a c.rds[i]]:=by
 rw [List.take_add_one,List.getElem?_eq_getElem hi,List.map_append];rfl
theorem c7w (a b c:Int) (ha:in9 a) (hb:in9 b) (hc:in9 c):(atS a b c).size≤15:=by
 have h:=b1l 4 [a1q a,a1q b,a1q c] fun s hs=>by
  simp only [List.mem_cons,List.not_mem_nil,or_false] at hs
  rcases hs with rfl|rfl|rfl
  ·exact a2y ha.1 ha.2
  ·exact a2y hb.1 hb.2
  ·exact a2y hc.1 hc.2
 unfold atS
 rw [a7z]
 simpa using h
theorem f6z (k:Int):(kdS k).size≤5:=by
 unfold kdS
 split
 ·decide
 ·split
  ·decide
  ·split<;>decide
theorem e2j {t:List Ch} {c:Cp} (ht:a1s t=true) (h:a7y t c=true):in9 c.id∧c.rds.length≤20∧OKR t c.rds:=by
 unfold a7y at h
 simp only [Bool.and_eq_true,decide_eq_true_eq,inB_iff] at h
 obtain ⟨⟨⟨h1,h2⟩,h3⟩,_⟩:=h
 exact ⟨h1,h2,f2x ht (by omega) h3⟩
theorem g8n {r:Rd} (h:InP r):in9 r.ch∧in9 r.ln∧in9 r.wd:=by
 obtain ⟨⟨a1,a2⟩,⟨a3,a4⟩,⟨a5,a6⟩⟩:=h
 exact ⟨⟨a1,by omega⟩,⟨a3,by omega⟩,⟨a5,by omega⟩⟩
theorem e4w {r:Rd} (h:b4s r):(r.kind.toNat:Int)=1∨(r.kind.toNat:Int)=2∨(r.kind.toNat:Int)=3:=by
 rcases h with ⟨h,_⟩|⟨h,_⟩|⟨h,_⟩<;>simp [h]
theorem e3c {r:Rd} (h:b4s r):r.word.size≤12:=by
 rcases h with ⟨_,h⟩|⟨_,h⟩|⟨_,h⟩
 ·rw [h];decide
 ·exact (a2u h).2
 ·exact (a2u h).2
theorem e4x (t:List Ch) (c:Cp):a0l Tryz.prog 20 [txE 0 t,cpE 0 c] (fun n=>.tup [a0q n (if b0d t c=0 then a7k c else []),i64 (b0d t c)]):=by
 refine a0b (ow:=fun i=>[20,22,37,1000020,1000037].contains i) Tryz.func20 Tryz.ntmps20 rfl rfl fun G hG hOw hNm hB=>?_;simp only [go_sem,hG,hOw]
 refine a0a (c4r t c) ?_
 by_cases h:b0d t c=0
 ·have ht:a1s t=true:=by
   cases ht:a1s t with
   |true=>rfl
   |false=>simp [b0d,ht] at h
  have hc:a7y t c=true:=by
   cases hc:a7y t c with
   |true=>rfl
   |false=>simp [b0d,ht,hc] at h
  obtain ⟨hid,hn,hO⟩:=e2j ht hc
  have hsz:=a2y hid.1 hid.2
  rw [h,if_pos rfl]
  simp only [go_sem,hG,hOw]
  (repeat' with_reducible first|apply And.intro|refine exP ?_ ?_|intro);all_goals try omega
  refine a0a (a4s c.id hid.1 hid.2) ?_
  simp only [go_sem,hG,hOw]
  (repeat' with_reducible first|apply And.intro|refine exP ?_ ?_|intro);all_goals try omega
  refine a0c [(0,20)] [] (a1g b3k [a1q c.id] (by simp) (by simp) (by decide) (by simp;omega)) ?_ (by (simp only [go_sem])<;>simp [b3k]) (by (simp only [go_sem,a1d,a0r,a0i,a1l])<;>simp [b3k]) (by simp [a0n,usH,toR,b3k])
  simp only [go_sem,hG,hOw]
  (repeat' with_reducible first|apply And.intro|refine exP ?_ ?_|intro);all_goals try omega
  refine a3e (fun _:Unit=>St.of [(7,.own 100 0 (a7k c).length 1)] [(100,.arr 9 1 ((a7k c).map a2c))]) (fun _=>True) ?_ ?_
  ·refine a0k (fun i:Nat=>St.of [(7,.own 100 0 (a1b [b3k,a1q c.id]::(c.rds.take i).map c7a).length 1),(24,rds 0 c.rds),(25,i64 c.rds.length),(26,i64 i)] [(100,.arr 9 1 ((a1b [b3k,a1q c.id]::(c.rds.take i).map c7a).map a2c))]) (fun i=>i≤c.rds.length) (fun i=>c.rds.length - i) 0 (by simp) (a1e [(100,some 22)] (by (simp only [List.take_zero,List.map_nil,a2c,go_sem])<;>simp [List.take_zero,List.map_nil,a2c]) (by (simp only [List.take_zero,List.map_nil,a2c,go_sem,a1d,a0r,a0i,a1l])<;>simp [List.take_zero,List.map_nil,a2c]) (by simp [a2m,apart]) (by simp [a0n,usH]) (by simp [hNm,lkR,a0x])) ?_
   rintro i hi
   by_cases hil:i < c.rds.length
   ·have hlt:(i:Int) < c.rds.length:=by omega
    obtain ⟨hI,hG2⟩:=hO.i _ (List.getElem_mem hil)
    obtain ⟨ha,hb,hd⟩:=g8n hI
    have hws:=e3c hG2
    have hats:=c7w _ _ _ ha hb hd
    have hkds:=f6z (c.rds[i].kind.toNat)
    have hstep:=c7n c i hil
    obtain ⟨U,hU⟩:∃ U,U=(a1b [b3k,a1q c.id]::(c.rds.take i).map c7a):=⟨_,rfl⟩
    rw [← hU] at hstep ⊢
    have hUl:U.length≤30:=by rw [hU];simp;omega
    have i1:Int.toNat 1=1:=rfl
    have i2:Int.toNat 2=2:=rfl
    have i3:Int.toNat 3=3:=rfl
    refine a0d _ _ _ ?_;simp (maxSteps:=2000000) only [go_sem,hG,hOw,decide_eq_true hlt]
    (repeat' with_reducible first|apply And.intro|refine exP ?_ ?_|intro);all_goals try omega
    refine a2g ⟨[37],[],[]⟩ [(0,false),(1,false),(2,false),(3,false),(4,false),(5,false),(6,false),(7,false),(8,true),(9,false)] mixed (by kernel_rfl) ?_
    simp only [a3s,List.getElem?_cons_zero,List.getElem?_cons_succ]
    have hUi:U.length=i+1:=by rw [hU];simp;omega
    have hmin:min (i+1) c.rds.length=U.length:=by omega
    have hs1:(#[32]:Array UInt8).size=1:=rfl
    have hq:[V.v (Value.string (a1b [b3k,a1q c.id]))]::List.map a2c (List.map c7a (List.take (i+1) c.rds))=List.map a2c U++[[V.v (Value.string (c7a c.rds[i]))]]:=by
     have:=congrArg (List.map a2c) hstep
     rw [List.map_append] at this
     exact this
    rcases e4w hG2 with hk|hk|hk
    ·have hrow:c7a c.rds[i]=if c.rds[i].word=⟨#[]⟩ then a1b [b8o,atS c.rds[i].ch c.rds[i].ln c.rds[i].wd] else a1b [b8o,atS c.rds[i].ch c.rds[i].ln c.rds[i].wd]++(⟨#[32]⟩++c.rds[i].word):=by
      unfold c7a;rw [hk];rfl
     have hjs:(a1b [b8o,atS c.rds[i].ch c.rds[i].ln c.rds[i].wd]).size≤40:=by
      rw [a7z]
      have h:=b1l 15 [b8o,atS c.rds[i].ch c.rds[i].ln c.rds[i].wd] fun s hs=>by
       simp only [List.mem_cons,List.not_mem_nil,or_false] at hs
       rcases hs with rfl|rfl
       ·decide
       ·exact hats
      simp at h
      simp
      omega
     simp (maxSteps:=2000000) only [go_sem,hG,hOw,hk,i1,i2,i3,Nat.reduceMul,List.drop_succ_cons,List.drop_zero]
     (repeat' with_reducible first|apply And.intro|refine exP ?_ ?_|intro);all_goals try omega
     refine ⟨_,a0f (d5g c.rds[i].ch c.rds[i].ln c.rds[i].wd ha hb hd),?_⟩
     simp only [go_sem,hG,hOw]
     (repeat' with_reducible first|apply And.intro|refine exP ?_ ?_|intro);all_goals try omega
     refine a0c [(0,37)] [] (a1g b8o [atS c.rds[i].ch c.rds[i].ln c.rds[i].wd] (by simp) (by simp) (by decide) (by simp;omega)) ?_ (by (simp only [go_sem])<;>simp [b8o]) (by (simp only [go_sem,a1d,a0r,a0i,a1l])<;>simp [b8o]) (by simp [a0n,usH,toR,b8o])
     simp only [go_sem,hG,hOw]
     (repeat' with_reducible first|apply And.intro|refine exP ?_ ?_|intro);all_goals try omega
     ·rename_i hz
      rw [if_neg hz] at hrow
      refine ⟨i+1,by omega,by omega,?_⟩
      exact a1e [(100,some 50)] (by (simp only [hq,hmin,hrow,go_sem])<;>simp [hq,hmin,hrow]) (by (simp only [hq,hmin,hrow,go_sem,a1d,a0r,a0i,a1l])<;>simp [hq,hmin,hrow]) (by simp [a2m,apart]) (by simp [a0n,usH]) (by simp [hNm,lkR,a0x])
     ·rename_i hz
      rw [if_pos hz] at hrow
      refine ⟨i+1,by omega,by omega,?_⟩
      exact a1e [(100,some 50)] (by (simp only [hq,hmin,hrow,go_sem])<;>simp [hq,hmin,hrow]) (by (simp only [hq,hmin,hrow,go_sem,a1d,a0r,a0i,a1l])<;>simp [hq,hmin,hrow]) (by simp [a2m,apart]) (by simp [a0n,usH]) (by simp [hNm,lkR,a0x])
    ·have hrow:c7a c.rds[i]=if c.rds[i].word=⟨#[]⟩ then a1b [e5t,atS c.rds[i].ch c.rds[i].ln c.rds[i].wd] else a1b [e5t,atS c.rds[i].ch c.rds[i].ln c.rds[i].wd]++(⟨#[32]⟩++c.rds[i].word):=by
      unfold c7a;rw [hk];rfl
     have hjs:(a1b [e5t,atS c.rds[i].ch c.rds[i].ln c.rds[i].wd]).size≤40:=by
      rw [a7z]
      have h:=b1l 15 [e5t,atS c.rds[i].ch c.rds[i].ln c.rds[i].wd] fun s hs=>by
       simp only [List.mem_cons,List.not_mem_nil,or_false] at hs
       rcases hs with rfl|rfl
       ·decide
       ·exact hats
      simp at h
      simp
      omega
     simp (maxSteps:=2000000) only [go_sem,hG,hOw,hk,i1,i2,i3,Nat.reduceMul,List.drop_succ_cons,List.drop_zero]
     (repeat' with_reducible first|apply And.intro|refine exP ?_ ?_|intro);all_goals try omega
     refine ⟨_,a0f (d5g c.rds[i].ch c.rds[i].ln c.rds[i].wd ha hb hd),?_⟩
     simp only [go_sem,hG,hOw]
     (repeat' with_reducible first|apply And.intro|refine exP ?_ ?_|intro);all_goals try omega
     refine a0c [(0,37)] [] (a1g e5t [atS c.rds[i].ch c.rds[i].ln c.rds[i].wd] (by simp) (by simp) (by decide) (by simp;omega)) ?_ (by (simp only [go_sem])<;>simp [e5t]) (by (simp only [go_sem,a1d,a0r,a0i,a1l])<;>simp [e5t]) (by simp [a0n,usH,toR,e5t])
     simp only [go_sem,hG,hOw]
     (repeat' with_reducible first|apply And.intro|refine exP ?_ ?_|intro);all_goals try omega
     ·rename_i hz
      rw [if_neg hz] at hrow
      refine ⟨i+1,by omega,by omega,?_⟩
      exact a1e [(100,some 50)] (by (simp only [hq,hmin,hrow,go_sem])<;>simp [hq,hmin,hrow]) (by (simp only [hq,hmin,hrow,go_sem,a1d,a0r,a0i,a1l])<;>simp [hq,hmin,hrow]) (by simp [a2m,apart]) (by simp [a0n,usH]) (by simp [hNm,lkR,a0x])
     ·rename_i hz
      rw [if_pos hz] at hrow
      refine ⟨i+1,by omega,by omega,?_⟩
      exact a1e [(100,some 50)] (by (simp only [hq,hmin,hrow,go_sem])<;>simp [hq,hmin,hrow]) (by (simp only [hq,hmin,hrow,go_sem,a1d,a0r,a0i,a1l])<;>simp [hq,hmin,hrow]) (by simp [a2m,apart]) (by simp [a0n,usH]) (by simp [hNm,lkR,a0x])
    ·have hrow:c7a c.rds[i]=if c.rds[i].word=⟨#[]⟩ then a1b [b1j,atS c.rds[i].ch c.rds[i].ln c.rds[i].wd] else a1b [b1j,atS c.rds[i].ch c.rds[i].ln c.rds[i].wd]++(⟨#[32]⟩++c.rds[i].word):=by
      unfold c7a;rw [hk];rfl
     have hjs:(a1b [b1j,atS c.rds[i].ch c.rds[i].ln c.rds[i].wd]).size≤40:=by
      rw [a7z]
      have h:=b1l 15 [b1j,atS c.rds[i].ch c.rds[i].ln c.rds[i].wd] fun s hs=>by
       simp only [List.mem_cons,List.not_mem_nil,or_false] at hs
       rcases hs with rfl|rfl
       ·decide
       ·exact hats
      simp at h
      simp
      omega
     simp (maxSteps:=2000000) only [go_sem,hG,hOw,hk,i1,i2,i3,Nat.reduceMul,List.drop_succ_cons,List.drop_zero]
     (repeat' with_reducible first|apply And.intro|refine exP ?_ ?_|intro);all_goals try omega
     refine ⟨_,a0f (d5g c.rds[i].ch c.rds[i].ln c.rds[i].wd ha hb hd),?_⟩
     simp only [go_sem,hG,hOw]
     (repeat' with_reducible first|apply And.intro|refine exP ?_ ?_|intro);all_goals try omega
     refine a0c [(0,37)] [] (a1g b1j [atS c.rds[i].ch c.rds[i].ln c.rds[i].wd] (by simp) (by simp) (by decide) (by simp;omega)) ?_ (by (simp only [go_sem])<;>simp [b1j]) (by (simp only [go_sem,a1d,a0r,a0i,a1l])<;>simp [b1j]) (by simp [a0n,usH,toR,b1j])
     simp only [go_sem,hG,hOw]
     (repeat' with_reducible first|apply And.intro|refine exP ?_ ?_|intro);all_goals try omega
     ·rename_i hz
      rw [if_neg hz] at hrow
      refine ⟨i+1,by omega,by omega,?_⟩
      exact a1e [(100,some 50)] (by (simp only [hq,hmin,hrow,go_sem])<;>simp [hq,hmin,hrow]) (by (simp only [hq,hmin,hrow,go_sem,a1d,a0r,a0i,a1l])<;>simp [hq,hmin,hrow]) (by simp [a2m,apart]) (by simp [a0n,usH]) (by simp [hNm,lkR,a0x])
     ·rename_i hz
      rw [if_pos hz] at hrow
      refine ⟨i+1,by omega,by omega,?_⟩
      exact a1e [(100,some 50)] (by (simp only [hq,hmin,hrow,go_sem])<;>simp [hq,hmin,hrow]) (by (simp only [hq,hmin,hrow,go_sem,a1d,a0r,a0i,a1l])<;>simp [hq,hmin,hrow]) (by simp [a2m,apart]) (by simp [a0n,usH]) (by simp [hNm,lkR,a0x])
   ·have hi2:i=c.rds.length:=by omega
    subst hi2
    refine a0d _ _ _ ?_;simp only [go_sem,hG,hOw]
    (repeat' with_reducible first|apply And.intro|refine exP ?_ ?_|intro);all_goals try omega
    exact ⟨(),a1e [(100,some 100)] (by (simp only [a7k,go_sem])<;>simp [a7k]) (by (simp only [a7k,go_sem,a1d,a0r,a0i,a1l])<;>simp [a7k]) (by simp [a2m,apart]) (by simp [a0n,usH]) (by simp [hNm,lkR,a0x])⟩
  rintro _ _
  simp only [go_sem,hG,hOw]
 ·simp only [go_sem,hG,hOw]
  (repeat' with_reducible first|apply And.intro|refine exP ?_ ?_|intro);all_goals try omega
  rw [if_neg h]
  exact Subs.tup (.cons (.nil _ _) (.cons (.refl _) .nil))
open Go Pm
end Go.Proofs.YtmjhfccbbfpppaaGreatDoor
