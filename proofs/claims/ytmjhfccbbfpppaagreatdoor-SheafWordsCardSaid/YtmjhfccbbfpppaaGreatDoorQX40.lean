import Derived.Test.YtmjhfccbbfpppaaGreatDoorQX31
import Derived.Test.YtmjhfccbbfpppaaGreatDoorQX36
import Derived.Test.YtmjhfccbbfpppaaGreatDoorQX39
namespace Go.Proofs.YtmjhfccbbfpppaaGreatDoor
open Go Pm
set_option linter.unusedSimpArgs false
set_option linter.unusedVariables false
set_option maxHeartbeats 4000000
set_option maxRecDepth 100000
def c0o:ByteArray:=⟨#[115,108,105,112]⟩
def a7p:ByteArray:=⟨#[98,101,102,111,114,101]⟩
def b0p:ByteArray:=⟨#[97,102,116,101,114]⟩
def b3x (s:Si):Bool:=c6s s && (inB s.ch 0 9999 && inB s.ln 0 9999 && inB s.wd 0 9999)
def f4x (s:Si):List ByteArray:=if s.bef=⟨#[]⟩ then [] else [a1d [a7p,s.bef]]
def e5q (s:Si):List ByteArray:=if s.aft=⟨#[]⟩ then [] else [a1d [b0p,s.aft]]
def c9h (s:Si):List ByteArray:=a1d [c0o,atS s.ch s.ln s.wd,s.word]::(f4x s++e5q s)
def a2m (l:List Si):List ByteArray:=l.flatMap c9h
def a5e (l:List Si):List ByteArray×Int:=if l.all b3x then (if (a2m l).length≤200 then (a2m l,0) else ([],110)) else ([],31)
theorem d9o (s:Si):(c9h s).length≤3:=by
 unfold c9h f4x e5q
 split<;>split<;>simp
theorem c2t (l:List Si) (k:Nat) (h:k < l.length):a2m (l.take (k+1))=a2m (l.take k)++c9h l[k]:=by
 unfold a2m
 rw [List.take_add_one,List.getElem?_eq_getElem h,List.flatMap_append]
 simp
theorem c8w (l:List Si):(a2m l).length≤3 * l.length:=by
 induction l with
 |nil=>simp [a2m]
 |cons s r ih =>
  have:=d9o s
  simp only [a2m,List.flatMap_cons,List.length_append,List.length_cons] at ih ⊢
  omega
theorem f2m {s:Si} (h:b3x s=true):in9 s.ch∧in9 s.ln∧in9 s.wd:=by
 simp only [b3x,Bool.and_eq_true,inB_iff] at h
 exact ⟨h.2.1.1,h.2.1.2,h.2.2⟩
theorem e4u (a b c:Int):a0o Tryz.prog 95 [i64 0,i64 9999,.lst 0 1 [[i64 a],[i64 b],[i64 c]]] (fun _=>bl (inB a 0 9999 && inB b 0 9999 && inB c 0 9999)):=by
 have h:=f3e 0 9999 [a,b,c]
 have e:([a,b,c].all fun n=>decide ((0:Int)≤n) && decide (n≤9999))=(inB a 0 9999 && inB b 0 9999 && inB c 0 9999):=by simp [inB,Bool.and_assoc]
 rw [e] at h
 exact h
theorem d3y (l:List Si) (hl:l.length≤1000) (hb:∀ s ∈ l,bdS s):a0o Tryz.prog 29 [sis 0 l] (fun n=>.tup [a0n n (a5e l).1,i64 (a5e l).2]):=by
 refine a0b (ow:=fun i=>[43,53,63,1000043,1000053,1000063].contains i) Tryz.func29 Tryz.ntmps29 rfl rfl fun G hG hOw hNm hB=>?_;simp only [go_sem,hG,hOw]
 (repeat' with_reducible first|refine And.intro ?_ ?_|intro _|refine exP ?_ ?_);all_goals try omega
 refine a6o (fun _:Unit=>St.of [(4,.own 100 0 (a2m l).length 1)] [(100,.arr 9 1 ((a2m l).map a1t))]) (fun _=>l.all b3x=true) ?_ ?_
 ·refine a0l (fun k:Nat=>St.of [(4,.own 100 0 (a2m (l.take k)).length 1),(9,sis 0 l),(10,i64 l.length),(11,i64 k)] [(100,.arr 9 1 ((a2m (l.take k)).map a1t))]) (fun k=>k≤l.length∧(l.take k).all b3x=true) (fun k=>l.length - k) 0 (by simp) (by simp only [List.take_zero,a2m,List.flatMap_nil];exact a2a [(100,none)]) ?_
  rintro k ⟨hk,hall⟩
  by_cases hkl:k < l.length
  ·have hlt:(k:Int) < l.length:=by omega
   have hln:=c8w (l.take k)
   rw [List.length_take] at hln
   have hstep:=c2t l k hkl
   obtain ⟨s,hs⟩:∃ s,s=l[k]:=⟨_,rfl⟩
   have hbs:bdS s:=by rw [hs];exact hb _ (List.getElem_mem hkl)
   have hO:=d1x s hbs
   refine a0e _ _ _ ?_
   simp (maxSteps:=2000000) only [go_sem,hG,hOw,hlt,← hs]
   (repeat' with_reducible first|refine And.intro ?_ ?_|intro _|refine exP ?_ ?_);all_goals try omega
   refine a0a hO ?_
   cases hg:c6s s with
   |false =>
    have hbad:l.all b3x=false:=a5z hkl (by rw [← hs];unfold b3x;rw [hg];rfl)
    have e:a5e l=([],31):=by unfold a5e;rw [hbad];rfl
    rw [e]
    simp (maxSteps:=2000000) only [go_sem,hG,hOw,hg]
    (repeat' with_reducible first|refine And.intro ?_ ?_|intro _|refine exP ?_ ?_);all_goals try omega
    exact Subs.tup (.cons (.nil _ _) (.cons (.refl _) .nil))
   |true =>
    simp (maxSteps:=2000000) only [go_sem,hG,hOw,hg]
    (repeat' with_reducible first|refine And.intro ?_ ?_|intro _|refine exP ?_ ?_);all_goals try omega
    refine a0a (e4u s.ch s.ln s.wd) ?_
    cases h9:(inB s.ch 0 9999 && inB s.ln 0 9999 && inB s.wd 0 9999) with
    |false =>
     have hbad:l.all b3x=false:=a5z hkl (by rw [← hs];unfold b3x;rw [h9,Bool.and_false])
     have e:a5e l=([],31):=by unfold a5e;rw [hbad];rfl
     rw [e]
     simp only [go_sem,hG,hOw]
     (repeat' with_reducible first|refine And.intro ?_ ?_|intro _|refine exP ?_ ?_);all_goals try omega
     exact Subs.tup (.cons (.nil _ _) (.cons (.refl _) .nil))
    |true =>
     have hgs:b3x s=true:=by unfold b3x;rw [hg,h9];rfl
     obtain ⟨i1,i2,i3⟩:=f2m hgs
     simp only [go_sem,hG,hOw]
     (repeat' with_reducible first|refine And.intro ?_ ?_|intro _|refine exP ?_ ?_);all_goals try omega
     have hats:=c6g _ _ _ i1 i2 i3
     have hws:s.word.size≤12:=by
      have:a1h s.word=true:=by unfold c6s at hg;simp only [Bool.and_eq_true] at hg;exact hg.2
      exact (a3o this).2
     have hW1:=a1k c0o [atS s.ch s.ln s.wd,s.word] (by simp) (by simp) (by decide) (by simp;omega)
     have hW2:=a1k a7p [s.bef] (by simp) (by simp) (by decide) (by have:=hbs.2.1;simp;omega)
     have hW3:=a1k b0p [s.aft] (by simp) (by simp) (by decide) (by have:=hbs.2.2;simp;omega)
     obtain ⟨U,hU⟩:∃ U,U=a2m (l.take k):=⟨_,rfl⟩
     rw [← hU] at hstep hln ⊢
     have hstep2:(a2m (l.take (k+1))).map a1t=U.map a1t++([V.v (Value.string (a1d [c0o,atS s.ch s.ln s.wd,s.word]))]::((f4x s).map a1t++(e5q s).map a1t)):=by
      rw [hstep,← hs,List.map_append,c9h,List.map_cons,List.map_append];rfl
     have hlen2:(a2m (l.take (k+1))).length=U.length+(1+((f4x s).length+(e5q s).length)):=by
      rw [hstep,← hs,List.length_append,c9h,List.length_cons,List.length_append];omega
     refine a2k ⟨[43,45,46],[(44,[43])],[44]⟩ [(0,false),(1,false),(2,false),(3,false),(4,false),(5,false),(6,false),(7,false),(8,false),(9,false),(10,false)] mixed (by kernel_rfl) ?_
     simp only [a2y,List.getElem?_cons_zero,List.getElem?_cons_succ]
     simp only [go_sem,hG,hOw]
     (repeat' with_reducible first|refine And.intro ?_ ?_|intro _|refine exP ?_ ?_);all_goals try omega
     refine ⟨_,a0d (d2u s.ch s.ln s.wd i1 i2 i3),?_⟩
     simp only [go_sem,hG,hOw]
     (repeat' with_reducible first|refine And.intro ?_ ?_|intro _|refine exP ?_ ?_);all_goals try omega
     refine ⟨_,a5q [(0,43)] [] (hW1) (by (simp only [go_sem])<;>simp [c0o]) (by (simp only [go_sem,a1f,a0q,a0f,a1l])<;>simp [c0o]) (by simp [a2l,apart,toR]) (by simp [a0h,usH,toR,c0o]) (by simp [a5o,lkR,toR]) rfl (by simp [tgt,a1v]) (by simp [tgt,a1v]) (by simp [upT,a3h,a5m,a1q,usH,lkR,toR,a1v,c0o]) (by simp [b1e,usH,tgt,go_sem]) (by simp [a3i,a1q,usH,lkR,toR,c0o]) (by simp [a4w,usH,c0o]),?_⟩
     by_cases hbe:s.bef=⟨#[]⟩
     ·have hb0:f4x s=[]:=if_pos hbe
      rw [hb0] at hstep2 hlen2
      by_cases haf:s.aft=⟨#[]⟩
      ·have ha0:e5q s=[]:=if_pos haf
       rw [ha0] at hstep2 hlen2
       simp (maxSteps:=2000000) only [go_sem,hG,hOw,hbe,haf]
       (repeat' with_reducible first|refine And.intro ?_ ?_|intro _|refine exP ?_ ?_);all_goals try omega
       exact ⟨k+1,⟨by omega,a0u hkl hall (by rw [← hs];exact hgs)⟩,by omega,a0y [(100,some 46)] (by (simp only [hstep2,hlen2,a1t,List.map_cons,List.map_nil,List.append_nil,List.nil_append,List.append_assoc,List.cons_append,List.length_cons,List.length_nil,go_sem])<;>simp [hstep2,hlen2,a1t,List.map_cons,List.map_nil,List.append_nil,List.nil_append,List.append_assoc,List.cons_append,List.length_cons,List.length_nil]) (by (simp only [hstep2,hlen2,a1t,List.map_cons,List.map_nil,List.append_nil,List.nil_append,List.append_assoc,List.cons_append,List.length_cons,List.length_nil,go_sem,a1f,a0q,a0f,a1l])<;>simp [hstep2,hlen2,a1t,List.map_cons,List.map_nil,List.append_nil,List.nil_append,List.append_assoc,List.cons_append,List.length_cons,List.length_nil]) (by simp [a2l,apart]) (by simp [a0h,usH]) (by simp [hNm,lkR,a0w])⟩
      ·have ha0:e5q s=[a1d [b0p,s.aft]]:=if_neg haf
       have da:=decide_eq_false haf
       rw [ha0] at hstep2 hlen2
       simp (maxSteps:=2000000) only [go_sem,hG,hOw,hbe,da,Bool.not_false]
       (repeat' with_reducible first|refine And.intro ?_ ?_|intro _|refine exP ?_ ?_);all_goals try omega
       refine a0c [(0,63)] [] (hW3) ?_ (by (simp only [go_sem])<;>simp [b0p]) (by (simp only [go_sem,a1f,a0q,a0f,a1l])<;>simp [b0p]) (by simp [a0h,usH,toR,b0p])
       simp (maxSteps:=2000000) only [go_sem,hG,hOw,hbe,da,Bool.not_false]
       (repeat' with_reducible first|refine And.intro ?_ ?_|intro _|refine exP ?_ ?_);all_goals try omega
       exact ⟨k+1,⟨by omega,a0u hkl hall (by rw [← hs];exact hgs)⟩,by omega,a0y [(100,some 66)] (by (simp only [hstep2,hlen2,a1t,List.map_cons,List.map_nil,List.append_nil,List.nil_append,List.append_assoc,List.cons_append,List.length_cons,List.length_nil,go_sem])<;>simp [hstep2,hlen2,a1t,List.map_cons,List.map_nil,List.append_nil,List.nil_append,List.append_assoc,List.cons_append,List.length_cons,List.length_nil]) (by (simp only [hstep2,hlen2,a1t,List.map_cons,List.map_nil,List.append_nil,List.nil_append,List.append_assoc,List.cons_append,List.length_cons,List.length_nil,go_sem,a1f,a0q,a0f,a1l])<;>simp [hstep2,hlen2,a1t,List.map_cons,List.map_nil,List.append_nil,List.nil_append,List.append_assoc,List.cons_append,List.length_cons,List.length_nil]) (by simp [a2l,apart]) (by simp [a0h,usH]) (by simp [hNm,lkR,a0w])⟩
     ·have hb0:f4x s=[a1d [a7p,s.bef]]:=if_neg hbe
      have db:=decide_eq_false hbe
      rw [hb0] at hstep2 hlen2
      by_cases haf:s.aft=⟨#[]⟩
      ·have ha0:e5q s=[]:=if_pos haf
       rw [ha0] at hstep2 hlen2
       simp (maxSteps:=2000000) only [go_sem,hG,hOw,db,Bool.not_false,haf]
       (repeat' with_reducible first|refine And.intro ?_ ?_|intro _|refine exP ?_ ?_);all_goals try omega
       refine a0c [(0,53)] [] (hW2) ?_ (by (simp only [go_sem])<;>simp [a7p]) (by (simp only [go_sem,a1f,a0q,a0f,a1l])<;>simp [a7p]) (by simp [a0h,usH,toR,a7p])
       simp (maxSteps:=2000000) only [go_sem,hG,hOw,db,Bool.not_false,haf]
       (repeat' with_reducible first|refine And.intro ?_ ?_|intro _|refine exP ?_ ?_);all_goals try omega
       exact ⟨k+1,⟨by omega,a0u hkl hall (by rw [← hs];exact hgs)⟩,by omega,a0y [(100,some 56)] (by (simp only [hstep2,hlen2,a1t,List.map_cons,List.map_nil,List.append_nil,List.nil_append,List.append_assoc,List.cons_append,List.length_cons,List.length_nil,go_sem])<;>simp [hstep2,hlen2,a1t,List.map_cons,List.map_nil,List.append_nil,List.nil_append,List.append_assoc,List.cons_append,List.length_cons,List.length_nil]) (by (simp only [hstep2,hlen2,a1t,List.map_cons,List.map_nil,List.append_nil,List.nil_append,List.append_assoc,List.cons_append,List.length_cons,List.length_nil,go_sem,a1f,a0q,a0f,a1l])<;>simp [hstep2,hlen2,a1t,List.map_cons,List.map_nil,List.append_nil,List.nil_append,List.append_assoc,List.cons_append,List.length_cons,List.length_nil]) (by simp [a2l,apart]) (by simp [a0h,usH]) (by simp [hNm,lkR,a0w])⟩
      ·have ha0:e5q s=[a1d [b0p,s.aft]]:=if_neg haf
       have da:=decide_eq_false haf
       rw [ha0] at hstep2 hlen2
       simp (maxSteps:=2000000) only [go_sem,hG,hOw,db,Bool.not_false,da,Bool.not_false]
       (repeat' with_reducible first|refine And.intro ?_ ?_|intro _|refine exP ?_ ?_);all_goals try omega
       refine a0c [(0,53)] [] (hW2) ?_ (by (simp only [go_sem])<;>simp [a7p]) (by (simp only [go_sem,a1f,a0q,a0f,a1l])<;>simp [a7p]) (by simp [a0h,usH,toR,a7p])
       simp (maxSteps:=2000000) only [go_sem,hG,hOw,db,Bool.not_false,da,Bool.not_false]
       (repeat' with_reducible first|refine And.intro ?_ ?_|intro _|refine exP ?_ ?_);all_goals try omega
       refine a0c [(0,63)] [] (hW3) ?_ (by (simp only [go_sem])<;>simp [b0p]) (by (simp only [go_sem,a1f,a0q,a0f,a1l])<;>simp [b0p]) (by simp [a0h,usH,toR,b0p])
       simp (maxSteps:=2000000) only [go_sem,hG,hOw,db,Bool.not_false,da,Bool.not_false]
       (repeat' with_reducible first|refine And.intro ?_ ?_|intro _|refine exP ?_ ?_);all_goals try omega
       exact ⟨k+1,⟨by omega,a0u hkl hall (by rw [← hs];exact hgs)⟩,by omega,a0y [(100,some 66)] (by (simp only [hstep2,hlen2,a1t,List.map_cons,List.map_nil,List.append_nil,List.nil_append,List.append_assoc,List.cons_append,List.length_cons,List.length_nil,go_sem])<;>simp [hstep2,hlen2,a1t,List.map_cons,List.map_nil,List.append_nil,List.nil_append,List.append_assoc,List.cons_append,List.length_cons,List.length_nil]) (by (simp only [hstep2,hlen2,a1t,List.map_cons,List.map_nil,List.append_nil,List.nil_append,List.append_assoc,List.cons_append,List.length_cons,List.length_nil,go_sem,a1f,a0q,a0f,a1l])<;>simp [hstep2,hlen2,a1t,List.map_cons,List.map_nil,List.append_nil,List.nil_append,List.append_assoc,List.cons_append,List.length_cons,List.length_nil]) (by simp [a2l,apart]) (by simp [a0h,usH]) (by simp [hNm,lkR,a0w])⟩
  ·have hlt:¬ (k:Int) < l.length:=by omega
   have hkl:k=l.length:=by omega
   subst hkl
   rw [List.take_length] at hall
   refine a0e _ _ _ ?_
   rw [List.take_length]
   simp (maxSteps:=2000000) only [go_sem,hG,hOw,hlt]
   try (repeat' with_reducible first|refine And.intro ?_ ?_|intro _|refine exP ?_ ?_);all_goals try omega
   exact ⟨(),hall,a2a [(100,some 100)]⟩
 ·rintro _ hall
  have e:a5e l=if (a2m l).length≤200 then (a2m l,0) else ([],110):=by unfold a5e;rw [hall];rfl
  rw [e]
  simp only [go_sem,hG,hOw]
  (repeat' with_reducible first|refine And.intro ?_ ?_|intro _|refine exP ?_ ?_);all_goals try omega
  ·rename_i h
   rw [if_neg (by omega)]
   exact Subs.tup (.cons (.nil _ _) (.cons (.refl _) .nil))
  ·rename_i h
   rw [if_pos (by omega)]
   exact .refl _
open Go Pm
set_option maxHeartbeats 4000000
set_option maxRecDepth 100000
end Go.Proofs.YtmjhfccbbfpppaaGreatDoor
