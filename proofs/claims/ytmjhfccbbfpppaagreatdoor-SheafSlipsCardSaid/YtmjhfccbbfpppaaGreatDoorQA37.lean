import Derived.Test.YtmjhfccbbfpppaaGreatDoorQA29
import Derived.Test.YtmjhfccbbfpppaaGreatDoorQA34
import Derived.Test.YtmjhfccbbfpppaaGreatDoorQA36
namespace Go.Proofs.YtmjhfccbbfpppaaGreatDoor
open Go Pm
set_option linter.unusedSimpArgs false
set_option linter.unusedVariables false
set_option maxHeartbeats 4000000
set_option maxRecDepth 100000
def a4p:ByteArray:=⟨#[115,108,105,112]⟩
def a1w:ByteArray:=⟨#[98,101,102,111,114,101]⟩
def a2f:ByteArray:=⟨#[97,102,116,101,114]⟩
def a6w (s:Si):Bool:=b1b s && (inB s.ch 0 9999 && inB s.ln 0 9999 && inB s.wd 0 9999)
def e4y (s:Si):List ByteArray:=if s.bef=⟨#[]⟩ then [] else [a0w [a1w,s.bef]]
def d5j (s:Si):List ByteArray:=if s.aft=⟨#[]⟩ then [] else [a0w [a2f,s.aft]]
def b1u (s:Si):List ByteArray:=a0w [a4p,atS s.ch s.ln s.wd,s.word]::(e4y s++d5j s)
def a1a (l:List Si):List ByteArray:=l.flatMap b1u
def a3z (l:List Si):List ByteArray×Int:=if l.all a6w then (if (a1a l).length≤200 then (a1a l,0) else ([],110)) else ([],31)
theorem d9h (s:Si):(b1u s).length≤3:=by
 unfold b1u e4y d5j
 split<;>split<;>simp
theorem b3y (l:List Si) (k:Nat) (h:k < l.length):a1a (l.take (k+1))=a1a (l.take k)++b1u l[k]:=by
 unfold a1a
 rw [List.take_add_one,List.getElem?_eq_getElem h,List.flatMap_append]
 simp
theorem c6h (l:List Si):(a1a l).length≤3 * l.length:=by
 induction l with
 |nil=>simp [a1a]
 |cons s r ih =>
  have:=d9h s
  simp only [a1a,List.flatMap_cons,List.length_append,List.length_cons] at ih ⊢
  omega
theorem d8j {s:Si} (h:a6w s=true):in9 s.ch∧in9 s.ln∧in9 s.wd:=by
 simp only [a6w,Bool.and_eq_true,inB_iff] at h
 exact ⟨h.2.1.1,h.2.1.2,h.2.2⟩
theorem e5e (a b c:Int):a0l Tryz.prog 95 [i64 0,i64 9999,.lst 0 1 [[i64 a],[i64 b],[i64 c]]] (fun _=>bl (inB a 0 9999 && inB b 0 9999 && inB c 0 9999)):=by
 have h:=f4n 0 9999 [a,b,c]
 have e:([a,b,c].all fun n=>decide ((0:Int)≤n) && decide (n≤9999))=(inB a 0 9999 && inB b 0 9999 && inB c 0 9999):=by simp [inB,Bool.and_assoc]
 rw [e] at h
 exact h
theorem b8v (l:List Si) (hl:l.length≤1000) (hb:∀ s ∈ l,bdS s):a0l Tryz.prog 29 [sis 0 l] (fun n=>.tup [a0o n (a3z l).1,i64 (a3z l).2]):=by
 refine a0b (ow:=fun i=>[43,53,63,1000043,1000053,1000063].contains i) Tryz.func29 Tryz.ntmps29 rfl rfl fun G hG hOw hNm hB=>?_;simp only [go_sem,hG,hOw]
 (repeat' with_reducible first|refine And.intro ?_ ?_|intro _|refine exP ?_ ?_);all_goals try omega
 refine a2s (fun _:Unit=>St.of [(4,.own 100 0 (a1a l).length 1)] [(100,.arr 9 1 ((a1a l).map a1z))]) (fun _=>l.all a6w=true) ?_ ?_
 ·refine a0i (fun k:Nat=>St.of [(4,.own 100 0 (a1a (l.take k)).length 1),(9,sis 0 l),(10,i64 l.length),(11,i64 k)] [(100,.arr 9 1 ((a1a (l.take k)).map a1z))]) (fun k=>k≤l.length∧(l.take k).all a6w=true) (fun k=>l.length - k) 0 (by simp) (by simp only [List.take_zero,a1a,List.flatMap_nil];exact a1m [(100,none)]) ?_
  rintro k ⟨hk,hall⟩
  by_cases hkl:k < l.length
  ·have hlt:(k:Int) < l.length:=by omega
   have hln:=c6h (l.take k)
   rw [List.length_take] at hln
   have hstep:=b3y l k hkl
   obtain ⟨s,hs⟩:∃ s,s=l[k]:=⟨_,rfl⟩
   have hbs:bdS s:=by rw [hs];exact hb _ (List.getElem_mem hkl)
   have hO:=b9s s hbs
   refine a0d _ _ _ ?_
   simp (maxSteps:=2000000) only [go_sem,hG,hOw,hlt,← hs]
   (repeat' with_reducible first|refine And.intro ?_ ?_|intro _|refine exP ?_ ?_);all_goals try omega
   refine a0a hO ?_
   cases hg:b1b s with
   |false =>
    have hbad:l.all a6w=false:=a4x hkl (by rw [← hs];unfold a6w;rw [hg];rfl)
    have e:a3z l=([],31):=by unfold a3z;rw [hbad];rfl
    rw [e]
    simp (maxSteps:=2000000) only [go_sem,hG,hOw,hg]
    (repeat' with_reducible first|refine And.intro ?_ ?_|intro _|refine exP ?_ ?_);all_goals try omega
    exact Subs.tup (.cons (.nil _ _) (.cons (.refl _) .nil))
   |true =>
    simp (maxSteps:=2000000) only [go_sem,hG,hOw,hg]
    (repeat' with_reducible first|refine And.intro ?_ ?_|intro _|refine exP ?_ ?_);all_goals try omega
    refine a0a (e5e s.ch s.ln s.wd) ?_
    cases h9:(inB s.ch 0 9999 && inB s.ln 0 9999 && inB s.wd 0 9999) with
    |false =>
     have hbad:l.all a6w=false:=a4x hkl (by rw [← hs];unfold a6w;rw [h9,Bool.and_false])
     have e:a3z l=([],31):=by unfold a3z;rw [hbad];rfl
     rw [e]
     simp only [go_sem,hG,hOw]
     (repeat' with_reducible first|refine And.intro ?_ ?_|intro _|refine exP ?_ ?_);all_goals try omega
     exact Subs.tup (.cons (.nil _ _) (.cons (.refl _) .nil))
    |true =>
     have hgs:a6w s=true:=by unfold a6w;rw [hg,h9];rfl
     obtain ⟨i1,i2,i3⟩:=d8j hgs
     simp only [go_sem,hG,hOw]
     (repeat' with_reducible first|refine And.intro ?_ ?_|intro _|refine exP ?_ ?_);all_goals try omega
     have hats:=c9f _ _ _ i1 i2 i3
     have hws:s.word.size≤12:=by
      have:a1b s.word=true:=by unfold b1b at hg;simp only [Bool.and_eq_true] at hg;exact hg.2
      exact (a2n this).2
     have hW1:=a1f a4p [atS s.ch s.ln s.wd,s.word] (by simp) (by simp) (by decide) (by simp;omega)
     have hW2:=a1f a1w [s.bef] (by simp) (by simp) (by decide) (by have:=hbs.2.1;simp;omega)
     have hW3:=a1f a2f [s.aft] (by simp) (by simp) (by decide) (by have:=hbs.2.2;simp;omega)
     obtain ⟨U,hU⟩:∃ U,U=a1a (l.take k):=⟨_,rfl⟩
     rw [← hU] at hstep hln ⊢
     have hstep2:(a1a (l.take (k+1))).map a1z=U.map a1z++([V.v (Value.string (a0w [a4p,atS s.ch s.ln s.wd,s.word]))]::((e4y s).map a1z++(d5j s).map a1z)):=by
      rw [hstep,← hs,List.map_append,b1u,List.map_cons,List.map_append];rfl
     have hlen2:(a1a (l.take (k+1))).length=U.length+(1+((e4y s).length+(d5j s).length)):=by
      rw [hstep,← hs,List.length_append,b1u,List.length_cons,List.length_append];omega
     refine a2o ⟨[43,45,46],[(44,[43])],[44]⟩ [(0,false),(1,false),(2,false),(3,false),(4,false),(5,false),(6,false),(7,false),(8,false),(9,false),(10,false)] mixed (by kernel_rfl) ?_
     simp only [a4b,List.getElem?_cons_zero,List.getElem?_cons_succ]
     simp only [go_sem,hG,hOw]
     (repeat' with_reducible first|refine And.intro ?_ ?_|intro _|refine exP ?_ ?_);all_goals try omega
     refine ⟨_,a0e (d3v s.ch s.ln s.wd i1 i2 i3),?_⟩
     simp only [go_sem,hG,hOw]
     (repeat' with_reducible first|refine And.intro ?_ ?_|intro _|refine exP ?_ ?_);all_goals try omega
     refine ⟨_,a7f [(0,43)] [] (hW1) (by (simp only [go_sem])<;>simp [a4p]) (by (simp only [go_sem,a1k,a0s,a0j,a1q])<;>simp [a4p]) (by simp [a2r,apart,toR]) (by simp [a0q,usH,toR,a4p]) (by simp [a7c,lkR,toR]) rfl (by simp [tgt,a2i]) (by simp [tgt,a2i]) (by simp [upT,a3m,a6b,a1o,usH,lkR,toR,a2i,a4p]) (by simp [b3x,usH,tgt,go_sem]) (by simp [a3p,a1o,usH,lkR,toR,a4p]) (by simp [a5n,usH,a4p]),?_⟩
     by_cases hbe:s.bef=⟨#[]⟩
     ·have hb0:e4y s=[]:=if_pos hbe
      rw [hb0] at hstep2 hlen2
      by_cases haf:s.aft=⟨#[]⟩
      ·have ha0:d5j s=[]:=if_pos haf
       rw [ha0] at hstep2 hlen2
       simp (maxSteps:=2000000) only [go_sem,hG,hOw,hbe,haf]
       (repeat' with_reducible first|refine And.intro ?_ ?_|intro _|refine exP ?_ ?_);all_goals try omega
       exact ⟨k+1,⟨by omega,a0v hkl hall (by rw [← hs];exact hgs)⟩,by omega,a1i [(100,some 46)] (by (simp only [hstep2,hlen2,a1z,List.map_cons,List.map_nil,List.append_nil,List.nil_append,List.append_assoc,List.cons_append,List.length_cons,List.length_nil,go_sem])<;>simp [hstep2,hlen2,a1z,List.map_cons,List.map_nil,List.append_nil,List.nil_append,List.append_assoc,List.cons_append,List.length_cons,List.length_nil]) (by (simp only [hstep2,hlen2,a1z,List.map_cons,List.map_nil,List.append_nil,List.nil_append,List.append_assoc,List.cons_append,List.length_cons,List.length_nil,go_sem,a1k,a0s,a0j,a1q])<;>simp [hstep2,hlen2,a1z,List.map_cons,List.map_nil,List.append_nil,List.nil_append,List.append_assoc,List.cons_append,List.length_cons,List.length_nil]) (by simp [a2r,apart]) (by simp [a0q,usH]) (by simp [hNm,lkR,a0z])⟩
      ·have ha0:d5j s=[a0w [a2f,s.aft]]:=if_neg haf
       have da:=decide_eq_false haf
       rw [ha0] at hstep2 hlen2
       simp (maxSteps:=2000000) only [go_sem,hG,hOw,hbe,da,Bool.not_false]
       (repeat' with_reducible first|refine And.intro ?_ ?_|intro _|refine exP ?_ ?_);all_goals try omega
       refine a0c [(0,63)] [] (hW3) ?_ (by (simp only [go_sem])<;>simp [a2f]) (by (simp only [go_sem,a1k,a0s,a0j,a1q])<;>simp [a2f]) (by simp [a0q,usH,toR,a2f])
       simp (maxSteps:=2000000) only [go_sem,hG,hOw,hbe,da,Bool.not_false]
       (repeat' with_reducible first|refine And.intro ?_ ?_|intro _|refine exP ?_ ?_);all_goals try omega
       exact ⟨k+1,⟨by omega,a0v hkl hall (by rw [← hs];exact hgs)⟩,by omega,a1i [(100,some 66)] (by (simp only [hstep2,hlen2,a1z,List.map_cons,List.map_nil,List.append_nil,List.nil_append,List.append_assoc,List.cons_append,List.length_cons,List.length_nil,go_sem])<;>simp [hstep2,hlen2,a1z,List.map_cons,List.map_nil,List.append_nil,List.nil_append,List.append_assoc,List.cons_append,List.length_cons,List.length_nil]) (by (simp only [hstep2,hlen2,a1z,List.map_cons,List.map_nil,List.append_nil,List.nil_append,List.append_assoc,List.cons_append,List.length_cons,List.length_nil,go_sem,a1k,a0s,a0j,a1q])<;>simp [hstep2,hlen2,a1z,List.map_cons,List.map_nil,List.append_nil,List.nil_append,List.append_assoc,List.cons_append,List.length_cons,List.length_nil]) (by simp [a2r,apart]) (by simp [a0q,usH]) (by simp [hNm,lkR,a0z])⟩
     ·have hb0:e4y s=[a0w [a1w,s.bef]]:=if_neg hbe
      have db:=decide_eq_false hbe
      rw [hb0] at hstep2 hlen2
      by_cases haf:s.aft=⟨#[]⟩
      ·have ha0:d5j s=[]:=if_pos haf
       rw [ha0] at hstep2 hlen2
       simp (maxSteps:=2000000) only [go_sem,hG,hOw,db,Bool.not_false,haf]
       (repeat' with_reducible first|refine And.intro ?_ ?_|intro _|refine exP ?_ ?_);all_goals try omega
       refine a0c [(0,53)] [] (hW2) ?_ (by (simp only [go_sem])<;>simp [a1w]) (by (simp only [go_sem,a1k,a0s,a0j,a1q])<;>simp [a1w]) (by simp [a0q,usH,toR,a1w])
       simp (maxSteps:=2000000) only [go_sem,hG,hOw,db,Bool.not_false,haf]
       (repeat' with_reducible first|refine And.intro ?_ ?_|intro _|refine exP ?_ ?_);all_goals try omega
       exact ⟨k+1,⟨by omega,a0v hkl hall (by rw [← hs];exact hgs)⟩,by omega,a1i [(100,some 56)] (by (simp only [hstep2,hlen2,a1z,List.map_cons,List.map_nil,List.append_nil,List.nil_append,List.append_assoc,List.cons_append,List.length_cons,List.length_nil,go_sem])<;>simp [hstep2,hlen2,a1z,List.map_cons,List.map_nil,List.append_nil,List.nil_append,List.append_assoc,List.cons_append,List.length_cons,List.length_nil]) (by (simp only [hstep2,hlen2,a1z,List.map_cons,List.map_nil,List.append_nil,List.nil_append,List.append_assoc,List.cons_append,List.length_cons,List.length_nil,go_sem,a1k,a0s,a0j,a1q])<;>simp [hstep2,hlen2,a1z,List.map_cons,List.map_nil,List.append_nil,List.nil_append,List.append_assoc,List.cons_append,List.length_cons,List.length_nil]) (by simp [a2r,apart]) (by simp [a0q,usH]) (by simp [hNm,lkR,a0z])⟩
      ·have ha0:d5j s=[a0w [a2f,s.aft]]:=if_neg haf
       have da:=decide_eq_false haf
       rw [ha0] at hstep2 hlen2
       simp (maxSteps:=2000000) only [go_sem,hG,hOw,db,Bool.not_false,da,Bool.not_false]
       (repeat' with_reducible first|refine And.intro ?_ ?_|intro _|refine exP ?_ ?_);all_goals try omega
       refine a0c [(0,53)] [] (hW2) ?_ (by (simp only [go_sem])<;>simp [a1w]) (by (simp only [go_sem,a1k,a0s,a0j,a1q])<;>simp [a1w]) (by simp [a0q,usH,toR,a1w])
       simp (maxSteps:=2000000) only [go_sem,hG,hOw,db,Bool.not_false,da,Bool.not_false]
       (repeat' with_reducible first|refine And.intro ?_ ?_|intro _|refine exP ?_ ?_);all_goals try omega
       refine a0c [(0,63)] [] (hW3) ?_ (by (simp only [go_sem])<;>simp [a2f]) (by (simp only [go_sem,a1k,a0s,a0j,a1q])<;>simp [a2f]) (by simp [a0q,usH,toR,a2f])
       simp (maxSteps:=2000000) only [go_sem,hG,hOw,db,Bool.not_false,da,Bool.not_false]
       (repeat' with_reducible first|refine And.intro ?_ ?_|intro _|refine exP ?_ ?_);all_goals try omega
       exact ⟨k+1,⟨by omega,a0v hkl hall (by rw [← hs];exact hgs)⟩,by omega,a1i [(100,some 66)] (by (simp only [hstep2,hlen2,a1z,List.map_cons,List.map_nil,List.append_nil,List.nil_append,List.append_assoc,List.cons_append,List.length_cons,List.length_nil,go_sem])<;>simp [hstep2,hlen2,a1z,List.map_cons,List.map_nil,List.append_nil,List.nil_append,List.append_assoc,List.cons_append,List.length_cons,List.length_nil]) (by (simp only [hstep2,hlen2,a1z,List.map_cons,List.map_nil,List.append_nil,List.nil_append,List.append_assoc,List.cons_append,List.length_cons,List.length_nil,go_sem,a1k,a0s,a0j,a1q])<;>simp [hstep2,hlen2,a1z,List.map_cons,List.map_nil,List.append_nil,List.nil_append,List.append_assoc,List.cons_append,List.length_cons,List.length_nil]) (by simp [a2r,apart]) (by simp [a0q,usH]) (by simp [hNm,lkR,a0z])⟩
  ·have hlt:¬ (k:Int) < l.length:=by omega
   have hkl:k=l.length:=by omega
   subst hkl
   rw [List.take_length] at hall
   refine a0d _ _ _ ?_
   rw [List.take_length]
   simp (maxSteps:=2000000) only [go_sem,hG,hOw,hlt]
   try (repeat' with_reducible first|refine And.intro ?_ ?_|intro _|refine exP ?_ ?_);all_goals try omega
   exact ⟨(),hall,a1m [(100,some 100)]⟩
 ·rintro _ hall
  have e:a3z l=if (a1a l).length≤200 then (a1a l,0) else ([],110):=by unfold a3z;rw [hall];rfl
  rw [e]
  simp only [go_sem,hG,hOw]
  (repeat' with_reducible first|refine And.intro ?_ ?_|intro _|refine exP ?_ ?_);all_goals try omega
  ·rename_i h
   rw [if_neg (by omega)]
   exact Subs.tup (.cons (.nil _ _) (.cons (.refl _) .nil))
  ·rename_i h
   rw [if_pos (by omega)]
   exact .refl _
open Go Pm
set_option maxHeartbeats 4000000
set_option maxRecDepth 100000
end Go.Proofs.YtmjhfccbbfpppaaGreatDoor
