import Derived.Test.YtmjhfccbbfpppaaGreatDoorQW30
import Derived.Test.YtmjhfccbbfpppaaGreatDoorQW34
import Derived.Test.YtmjhfccbbfpppaaGreatDoorQW36
namespace Go.Proofs.YtmjhfccbbfpppaaGreatDoor
open Go Pm
set_option linter.unusedSimpArgs false
set_option linter.unusedVariables false
set_option maxHeartbeats 4000000
set_option maxRecDepth 100000
def a6c:ByteArray:=⟨#[115,108,105,112]⟩
def a2m:ByteArray:=⟨#[98,101,102,111,114,101]⟩
def a2u:ByteArray:=⟨#[97,102,116,101,114]⟩
def b1m (s:Si):Bool:=b5q s && (inB s.ch 0 9999 && inB s.ln 0 9999 && inB s.wd 0 9999)
def e6h (s:Si):List ByteArray:=if s.bef=⟨#[]⟩ then [] else [a1b [a2m,s.bef]]
def d6s (s:Si):List ByteArray:=if s.aft=⟨#[]⟩ then [] else [a1b [a2u,s.aft]]
def b4h (s:Si):List ByteArray:=a1b [a6c,atS s.ch s.ln s.wd,s.word]::(e6h s++d6s s)
def a1m (l:List Si):List ByteArray:=l.flatMap b4h
def a4c (l:List Si):List ByteArray×Int:=if l.all b1m then (if (a1m l).length≤200 then (a1m l,0) else ([],110)) else ([],31)
theorem e4v (s:Si):(b4h s).length≤3:=by
 unfold b4h e6h d6s
 split<;>split<;>simp
theorem c4t (l:List Si) (k:Nat) (h:k < l.length):a1m (l.take (k+1))=a1m (l.take k)++b4h l[k]:=by
 unfold a1m
 rw [List.take_add_one,List.getElem?_eq_getElem h,List.flatMap_append]
 simp
theorem c8i (l:List Si):(a1m l).length≤3 * l.length:=by
 induction l with
 |nil=>simp [a1m]
 |cons s r ih =>
  have:=e4v s
  simp only [a1m,List.flatMap_cons,List.length_append,List.length_cons] at ih ⊢
  omega
theorem e3d {s:Si} (h:b1m s=true):in9 s.ch∧in9 s.ln∧in9 s.wd:=by
 simp only [b1m,Bool.and_eq_true,inB_iff] at h
 exact ⟨h.2.1.1,h.2.1.2,h.2.2⟩
theorem e8u (a b c:Int):a0p Tryz.prog 95 [i64 0,i64 9999,.lst 0 1 [[i64 a],[i64 b],[i64 c]]] (fun _=>bl (inB a 0 9999 && inB b 0 9999 && inB c 0 9999)):=by
 have h:=f7n 0 9999 [a,b,c]
 have e:([a,b,c].all fun n=>decide ((0:Int)≤n) && decide (n≤9999))=(inB a 0 9999 && inB b 0 9999 && inB c 0 9999):=by simp [inB,Bool.and_assoc]
 rw [e] at h
 exact h
theorem c0e (l:List Si) (hl:l.length≤1000) (hb:∀ s ∈ l,bdS s):a0p Tryz.prog 29 [sis 0 l] (fun n=>.tup [a0h n (a4c l).1,i64 (a4c l).2]):=by
 refine a0c (ow:=fun i=>[43,53,63,1000043,1000053,1000063].contains i) Tryz.func29 Tryz.ntmps29 rfl rfl fun G hG hOw hNm hB=>?_;simp only [go_sem,hG,hOw]
 (repeat' with_reducible first|refine And.intro ?_ ?_|intro _|refine exP ?_ ?_);all_goals try omega
 refine a6v (fun _:Unit=>St.of [(4,.own 100 0 (a1m l).length 1)] [(100,.arr 9 1 ((a1m l).map a2j))]) (fun _=>l.all b1m=true) ?_ ?_
 ·refine a0n (fun k:Nat=>St.of [(4,.own 100 0 (a1m (l.take k)).length 1),(9,sis 0 l),(10,i64 l.length),(11,i64 k)] [(100,.arr 9 1 ((a1m (l.take k)).map a2j))]) (fun k=>k≤l.length∧(l.take k).all b1m=true) (fun k=>l.length - k) 0 (by simp) (by simp only [List.take_zero,a1m,List.flatMap_nil];exact a2r [(100,none)]) ?_
  rintro k ⟨hk,hall⟩
  by_cases hkl:k < l.length
  ·have hlt:(k:Int) < l.length:=by omega
   have hln:=c8i (l.take k)
   rw [List.length_take] at hln
   have hstep:=c4t l k hkl
   obtain ⟨s,hs⟩:∃ s,s=l[k]:=⟨_,rfl⟩
   have hbs:bdS s:=by rw [hs];exact hb _ (List.getElem_mem hkl)
   have hO:=c1n s hbs
   refine a0g _ _ _ ?_
   simp (maxSteps:=2000000) only [go_sem,hG,hOw,hlt,← hs]
   (repeat' with_reducible first|refine And.intro ?_ ?_|intro _|refine exP ?_ ?_);all_goals try omega
   refine a0a hO ?_
   cases hg:b5q s with
   |false =>
    have hbad:l.all b1m=false:=a4l hkl (by rw [← hs];unfold b1m;rw [hg];rfl)
    have e:a4c l=([],31):=by unfold a4c;rw [hbad];rfl
    rw [e]
    simp (maxSteps:=2000000) only [go_sem,hG,hOw,hg]
    (repeat' with_reducible first|refine And.intro ?_ ?_|intro _|refine exP ?_ ?_);all_goals try omega
    exact Subs.tup (.cons (.nil _ _) (.cons (.refl _) .nil))
   |true =>
    simp (maxSteps:=2000000) only [go_sem,hG,hOw,hg]
    (repeat' with_reducible first|refine And.intro ?_ ?_|intro _|refine exP ?_ ?_);all_goals try omega
    refine a0a (e8u s.ch s.ln s.wd) ?_
    cases h9:(inB s.ch 0 9999 && inB s.ln 0 9999 && inB s.wd 0 9999) with
    |false =>
     have hbad:l.all b1m=false:=a4l hkl (by rw [← hs];unfold b1m;rw [h9,Bool.and_false])
     have e:a4c l=([],31):=by unfold a4c;rw [hbad];rfl
     rw [e]
     simp only [go_sem,hG,hOw]
     (repeat' with_reducible first|refine And.intro ?_ ?_|intro _|refine exP ?_ ?_);all_goals try omega
     exact Subs.tup (.cons (.nil _ _) (.cons (.refl _) .nil))
    |true =>
     have hgs:b1m s=true:=by unfold b1m;rw [hg,h9];rfl
     obtain ⟨i1,i2,i3⟩:=e3d hgs
     simp only [go_sem,hG,hOw]
     (repeat' with_reducible first|refine And.intro ?_ ?_|intro _|refine exP ?_ ?_);all_goals try omega
     have hats:=c8a _ _ _ i1 i2 i3
     have hws:s.word.size≤12:=by
      have:a1i s.word=true:=by unfold b5q at hg;simp only [Bool.and_eq_true] at hg;exact hg.2
      exact (a3f this).2
     have hW1:=a1n a6c [atS s.ch s.ln s.wd,s.word] (by simp) (by simp) (by decide) (by simp;omega)
     have hW2:=a1n a2m [s.bef] (by simp) (by simp) (by decide) (by have:=hbs.2.1;simp;omega)
     have hW3:=a1n a2u [s.aft] (by simp) (by simp) (by decide) (by have:=hbs.2.2;simp;omega)
     obtain ⟨U,hU⟩:∃ U,U=a1m (l.take k):=⟨_,rfl⟩
     rw [← hU] at hstep hln ⊢
     have hstep2:(a1m (l.take (k+1))).map a2j=U.map a2j++([V.v (Value.string (a1b [a6c,atS s.ch s.ln s.wd,s.word]))]::((e6h s).map a2j++(d6s s).map a2j)):=by
      rw [hstep,← hs,List.map_append,b4h,List.map_cons,List.map_append];rfl
     have hlen2:(a1m (l.take (k+1))).length=U.length+(1+((e6h s).length+(d6s s).length)):=by
      rw [hstep,← hs,List.length_append,b4h,List.length_cons,List.length_append];omega
     refine a1s ⟨[43,45,46],[(44,[43])],[44]⟩ [(0,false),(1,false),(2,false),(3,false),(4,false),(5,false),(6,false),(7,false),(8,false),(9,false),(10,false)] mixed (by kernel_rfl) ?_
     simp only [a2v,List.getElem?_cons_zero,List.getElem?_cons_succ]
     simp only [go_sem,hG,hOw]
     (repeat' with_reducible first|refine And.intro ?_ ?_|intro _|refine exP ?_ ?_);all_goals try omega
     refine ⟨_,a0j (d5z s.ch s.ln s.wd i1 i2 i3),?_⟩
     simp only [go_sem,hG,hOw]
     (repeat' with_reducible first|refine And.intro ?_ ?_|intro _|refine exP ?_ ?_);all_goals try omega
     refine ⟨_,a6l [(0,43)] [] (hW1) (by (simp only [go_sem])<;>simp [a6c]) (by (simp only [go_sem,a1f,a0q,a0e,a1l])<;>simp [a6c]) (by simp [a2s,apart,toR]) (by simp [a0f,usH,toR,a6c]) (by simp [a6i,lkR,toR]) rfl (by simp [tgt,a2a]) (by simp [tgt,a2a]) (by simp [upT,a3r,a6h,a1r,usH,lkR,toR,a2a,a6c]) (by simp [b3n,usH,tgt,go_sem]) (by simp [a3n,a1r,usH,lkR,toR,a6c]) (by simp [a5l,usH,a6c]),?_⟩
     by_cases hbe:s.bef=⟨#[]⟩
     ·have hb0:e6h s=[]:=if_pos hbe
      rw [hb0] at hstep2 hlen2
      by_cases haf:s.aft=⟨#[]⟩
      ·have ha0:d6s s=[]:=if_pos haf
       rw [ha0] at hstep2 hlen2
       simp (maxSteps:=2000000) only [go_sem,hG,hOw,hbe,haf]
       (repeat' with_reducible first|refine And.intro ?_ ?_|intro _|refine exP ?_ ?_);all_goals try omega
       exact ⟨k+1,⟨by omega,a0u hkl hall (by rw [← hs];exact hgs)⟩,by omega,a1k [(100,some 46)] (by (simp only [hstep2,hlen2,a2j,List.map_cons,List.map_nil,List.append_nil,List.nil_append,List.append_assoc,List.cons_append,List.length_cons,List.length_nil,go_sem])<;>simp [hstep2,hlen2,a2j,List.map_cons,List.map_nil,List.append_nil,List.nil_append,List.append_assoc,List.cons_append,List.length_cons,List.length_nil]) (by (simp only [hstep2,hlen2,a2j,List.map_cons,List.map_nil,List.append_nil,List.nil_append,List.append_assoc,List.cons_append,List.length_cons,List.length_nil,go_sem,a1f,a0q,a0e,a1l])<;>simp [hstep2,hlen2,a2j,List.map_cons,List.map_nil,List.append_nil,List.nil_append,List.append_assoc,List.cons_append,List.length_cons,List.length_nil]) (by simp [a2s,apart]) (by simp [a0f,usH]) (by simp [hNm,lkR,a0z])⟩
      ·have ha0:d6s s=[a1b [a2u,s.aft]]:=if_neg haf
       have da:=decide_eq_false haf
       rw [ha0] at hstep2 hlen2
       simp (maxSteps:=2000000) only [go_sem,hG,hOw,hbe,da,Bool.not_false]
       (repeat' with_reducible first|refine And.intro ?_ ?_|intro _|refine exP ?_ ?_);all_goals try omega
       refine a0b [(0,63)] [] (hW3) ?_ (by (simp only [go_sem])<;>simp [a2u]) (by (simp only [go_sem,a1f,a0q,a0e,a1l])<;>simp [a2u]) (by simp [a0f,usH,toR,a2u])
       simp (maxSteps:=2000000) only [go_sem,hG,hOw,hbe,da,Bool.not_false]
       (repeat' with_reducible first|refine And.intro ?_ ?_|intro _|refine exP ?_ ?_);all_goals try omega
       exact ⟨k+1,⟨by omega,a0u hkl hall (by rw [← hs];exact hgs)⟩,by omega,a1k [(100,some 66)] (by (simp only [hstep2,hlen2,a2j,List.map_cons,List.map_nil,List.append_nil,List.nil_append,List.append_assoc,List.cons_append,List.length_cons,List.length_nil,go_sem])<;>simp [hstep2,hlen2,a2j,List.map_cons,List.map_nil,List.append_nil,List.nil_append,List.append_assoc,List.cons_append,List.length_cons,List.length_nil]) (by (simp only [hstep2,hlen2,a2j,List.map_cons,List.map_nil,List.append_nil,List.nil_append,List.append_assoc,List.cons_append,List.length_cons,List.length_nil,go_sem,a1f,a0q,a0e,a1l])<;>simp [hstep2,hlen2,a2j,List.map_cons,List.map_nil,List.append_nil,List.nil_append,List.append_assoc,List.cons_append,List.length_cons,List.length_nil]) (by simp [a2s,apart]) (by simp [a0f,usH]) (by simp [hNm,lkR,a0z])⟩
     ·have hb0:e6h s=[a1b [a2m,s.bef]]:=if_neg hbe
      have db:=decide_eq_false hbe
      rw [hb0] at hstep2 hlen2
      by_cases haf:s.aft=⟨#[]⟩
      ·have ha0:d6s s=[]:=if_pos haf
       rw [ha0] at hstep2 hlen2
       simp (maxSteps:=2000000) only [go_sem,hG,hOw,db,Bool.not_false,haf]
       (repeat' with_reducible first|refine And.intro ?_ ?_|intro _|refine exP ?_ ?_);all_goals try omega
       refine a0b [(0,53)] [] (hW2) ?_ (by (simp only [go_sem])<;>simp [a2m]) (by (simp only [go_sem,a1f,a0q,a0e,a1l])<;>simp [a2m]) (by simp [a0f,usH,toR,a2m])
       simp (maxSteps:=2000000) only [go_sem,hG,hOw,db,Bool.not_false,haf]
       (repeat' with_reducible first|refine And.intro ?_ ?_|intro _|refine exP ?_ ?_);all_goals try omega
       exact ⟨k+1,⟨by omega,a0u hkl hall (by rw [← hs];exact hgs)⟩,by omega,a1k [(100,some 56)] (by (simp only [hstep2,hlen2,a2j,List.map_cons,List.map_nil,List.append_nil,List.nil_append,List.append_assoc,List.cons_append,List.length_cons,List.length_nil,go_sem])<;>simp [hstep2,hlen2,a2j,List.map_cons,List.map_nil,List.append_nil,List.nil_append,List.append_assoc,List.cons_append,List.length_cons,List.length_nil]) (by (simp only [hstep2,hlen2,a2j,List.map_cons,List.map_nil,List.append_nil,List.nil_append,List.append_assoc,List.cons_append,List.length_cons,List.length_nil,go_sem,a1f,a0q,a0e,a1l])<;>simp [hstep2,hlen2,a2j,List.map_cons,List.map_nil,List.append_nil,List.nil_append,List.append_assoc,List.cons_append,List.length_cons,List.length_nil]) (by simp [a2s,apart]) (by simp [a0f,usH]) (by simp [hNm,lkR,a0z])⟩
      ·have ha0:d6s s=[a1b [a2u,s.aft]]:=if_neg haf
       have da:=decide_eq_false haf
       rw [ha0] at hstep2 hlen2
       simp (maxSteps:=2000000) only [go_sem,hG,hOw,db,Bool.not_false,da,Bool.not_false]
       (repeat' with_reducible first|refine And.intro ?_ ?_|intro _|refine exP ?_ ?_);all_goals try omega
       refine a0b [(0,53)] [] (hW2) ?_ (by (simp only [go_sem])<;>simp [a2m]) (by (simp only [go_sem,a1f,a0q,a0e,a1l])<;>simp [a2m]) (by simp [a0f,usH,toR,a2m])
       simp (maxSteps:=2000000) only [go_sem,hG,hOw,db,Bool.not_false,da,Bool.not_false]
       (repeat' with_reducible first|refine And.intro ?_ ?_|intro _|refine exP ?_ ?_);all_goals try omega
       refine a0b [(0,63)] [] (hW3) ?_ (by (simp only [go_sem])<;>simp [a2u]) (by (simp only [go_sem,a1f,a0q,a0e,a1l])<;>simp [a2u]) (by simp [a0f,usH,toR,a2u])
       simp (maxSteps:=2000000) only [go_sem,hG,hOw,db,Bool.not_false,da,Bool.not_false]
       (repeat' with_reducible first|refine And.intro ?_ ?_|intro _|refine exP ?_ ?_);all_goals try omega
       exact ⟨k+1,⟨by omega,a0u hkl hall (by rw [← hs];exact hgs)⟩,by omega,a1k [(100,some 66)] (by (simp only [hstep2,hlen2,a2j,List.map_cons,List.map_nil,List.append_nil,List.nil_append,List.append_assoc,List.cons_append,List.length_cons,List.length_nil,go_sem])<;>simp [hstep2,hlen2,a2j,List.map_cons,List.map_nil,List.append_nil,List.nil_append,List.append_assoc,List.cons_append,List.length_cons,List.length_nil]) (by (simp only [hstep2,hlen2,a2j,List.map_cons,List.map_nil,List.append_nil,List.nil_append,List.append_assoc,List.cons_append,List.length_cons,List.length_nil,go_sem,a1f,a0q,a0e,a1l])<;>simp [hstep2,hlen2,a2j,List.map_cons,List.map_nil,List.append_nil,List.nil_append,List.append_assoc,List.cons_append,List.length_cons,List.length_nil]) (by simp [a2s,apart]) (by simp [a0f,usH]) (by simp [hNm,lkR,a0z])⟩
  ·have hlt:¬ (k:Int) < l.length:=by omega
   have hkl:k=l.length:=by omega
   subst hkl
   rw [List.take_length] at hall
   refine a0g _ _ _ ?_
   rw [List.take_length]
   simp (maxSteps:=2000000) only [go_sem,hG,hOw,hlt]
   try (repeat' with_reducible first|refine And.intro ?_ ?_|intro _|refine exP ?_ ?_);all_goals try omega
   exact ⟨(),hall,a2r [(100,some 100)]⟩
 ·rintro _ hall
  have e:a4c l=if (a1m l).length≤200 then (a1m l,0) else ([],110):=by unfold a4c;rw [hall];rfl
  rw [e]
  simp only [go_sem,hG,hOw]
  (repeat' with_reducible first|refine And.intro ?_ ?_|intro _|refine exP ?_ ?_);all_goals try omega
  ·rename_i h
   rw [if_neg (by omega)]
   exact Subs.tup (.cons (.nil _ _) (.cons (.refl _) .nil))
  ·rename_i h
   rw [if_pos (by omega)]
   exact .refl _
open Go Pm
set_option maxHeartbeats 4000000
set_option maxRecDepth 100000
end Go.Proofs.YtmjhfccbbfpppaaGreatDoor
