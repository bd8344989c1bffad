import Derived.Test.YtmjhfccbbfpppaaGreatDoorQY31
import Derived.Test.YtmjhfccbbfpppaaGreatDoorQY35
import Derived.Test.YtmjhfccbbfpppaaGreatDoorQY37
namespace Go.Proofs.YtmjhfccbbfpppaaGreatDoor
open Go Pm
set_option linter.unusedSimpArgs false
set_option linter.unusedVariables false
set_option maxHeartbeats 4000000
set_option maxRecDepth 100000
def a7h:ByteArray:=⟨#[115,108,105,112]⟩
def a2s:ByteArray:=⟨#[98,101,102,111,114,101]⟩
def a2w:ByteArray:=⟨#[97,102,116,101,114]⟩
def b4t (s:Si):Bool:=b7b s && (inB s.ch 0 9999 && inB s.ln 0 9999 && inB s.wd 0 9999)
def f3c (s:Si):List ByteArray:=if s.bef=⟨#[]⟩ then [] else [a1o [a2s,s.bef]]
def e7x (s:Si):List ByteArray:=if s.aft=⟨#[]⟩ then [] else [a1o [a2w,s.aft]]
def c6t (s:Si):List ByteArray:=a1o [a7h,atS s.ch s.ln s.wd,s.word]::(f3c s++e7x s)
def a2p (l:List Si):List ByteArray:=l.flatMap c6t
def a4t (l:List Si):List ByteArray×Int:=if l.all b4t then (if (a2p l).length≤200 then (a2p l,0) else ([],110)) else ([],31)
theorem d7t (s:Si):(c6t s).length≤3:=by
 unfold c6t f3c e7x
 split<;>split<;>simp
theorem c4i (l:List Si) (k:Nat) (h:k < l.length):a2p (l.take (k+1))=a2p (l.take k)++c6t l[k]:=by
 unfold a2p
 rw [List.take_add_one,List.getElem?_eq_getElem h,List.flatMap_append]
 simp
theorem c9k (l:List Si):(a2p l).length≤3 * l.length:=by
 induction l with
 |nil=>simp [a2p]
 |cons s r ih =>
  have:=d7t s
  simp only [a2p,List.flatMap_cons,List.length_append,List.length_cons] at ih ⊢
  omega
theorem f3j {s:Si} (h:b4t s=true):in9 s.ch∧in9 s.ln∧in9 s.wd:=by
 simp only [b4t,Bool.and_eq_true,inB_iff] at h
 exact ⟨h.2.1.1,h.2.1.2,h.2.2⟩
theorem e5o (a b c:Int):a0o Tryz.prog 95 [i64 0,i64 9999,.lst 0 1 [[i64 a],[i64 b],[i64 c]]] (fun _=>bl (inB a 0 9999 && inB b 0 9999 && inB c 0 9999)):=by
 have h:=f2q 0 9999 [a,b,c]
 have e:([a,b,c].all fun n=>decide ((0:Int)≤n) && decide (n≤9999))=(inB a 0 9999 && inB b 0 9999 && inB c 0 9999):=by simp [inB,Bool.and_assoc]
 rw [e] at h
 exact h
theorem b9l (l:List Si) (hl:l.length≤1000) (hb:∀ s ∈ l,bdS s):a0o Tryz.prog 29 [sis 0 l] (fun n=>.tup [a0e n (a4t l).1,i64 (a4t l).2]):=by
 refine a0c (ow:=fun i=>[43,53,63,1000043,1000053,1000063].contains i) Tryz.func29 Tryz.ntmps29 rfl rfl fun G hG hOw hNm hB=>?_;simp only [go_sem,hG,hOw]
 (repeat' with_reducible first|refine And.intro ?_ ?_|intro _|refine exP ?_ ?_);all_goals try omega
 refine a6h (fun _:Unit=>St.of [(4,.own 100 0 (a2p l).length 1)] [(100,.arr 9 1 ((a2p l).map a2h))]) (fun _=>l.all b4t=true) ?_ ?_
 ·refine a0r (fun k:Nat=>St.of [(4,.own 100 0 (a2p (l.take k)).length 1),(9,sis 0 l),(10,i64 l.length),(11,i64 k)] [(100,.arr 9 1 ((a2p (l.take k)).map a2h))]) (fun k=>k≤l.length∧(l.take k).all b4t=true) (fun k=>l.length - k) 0 (by simp) (by simp only [List.take_zero,a2p,List.flatMap_nil];exact a2o [(100,none)]) ?_
  rintro k ⟨hk,hall⟩
  by_cases hkl:k < l.length
  ·have hlt:(k:Int) < l.length:=by omega
   have hln:=c9k (l.take k)
   rw [List.length_take] at hln
   have hstep:=c4i l k hkl
   obtain ⟨s,hs⟩:∃ s,s=l[k]:=⟨_,rfl⟩
   have hbs:bdS s:=by rw [hs];exact hb _ (List.getElem_mem hkl)
   have hO:=b8o s hbs
   refine a0l _ _ _ ?_
   simp (maxSteps:=2000000) only [go_sem,hG,hOw,hlt,← hs]
   (repeat' with_reducible first|refine And.intro ?_ ?_|intro _|refine exP ?_ ?_);all_goals try omega
   refine a0a hO ?_
   cases hg:b7b s with
   |false =>
    have hbad:l.all b4t=false:=a8g hkl (by rw [← hs];unfold b4t;rw [hg];rfl)
    have e:a4t l=([],31):=by unfold a4t;rw [hbad];rfl
    rw [e]
    simp (maxSteps:=2000000) only [go_sem,hG,hOw,hg]
    (repeat' with_reducible first|refine And.intro ?_ ?_|intro _|refine exP ?_ ?_);all_goals try omega
    exact Subs.tup (.cons (.nil _ _) (.cons (.refl _) .nil))
   |true =>
    simp (maxSteps:=2000000) only [go_sem,hG,hOw,hg]
    (repeat' with_reducible first|refine And.intro ?_ ?_|intro _|refine exP ?_ ?_);all_goals try omega
    refine a0a (e5o s.ch s.ln s.wd) ?_
    cases h9:(inB s.ch 0 9999 && inB s.ln 0 9999 && inB s.wd 0 9999) with
    |false =>
     have hbad:l.all b4t=false:=a8g hkl (by rw [← hs];unfold b4t;rw [h9,Bool.and_false])
     have e:a4t l=([],31):=by unfold a4t;rw [hbad];rfl
     rw [e]
     simp only [go_sem,hG,hOw]
     (repeat' with_reducible first|refine And.intro ?_ ?_|intro _|refine exP ?_ ?_);all_goals try omega
     exact Subs.tup (.cons (.nil _ _) (.cons (.refl _) .nil))
    |true =>
     have hgs:b4t s=true:=by unfold b4t;rw [hg,h9];rfl
     obtain ⟨i1,i2,i3⟩:=f3j hgs
     simp only [go_sem,hG,hOw]
     (repeat' with_reducible first|refine And.intro ?_ ?_|intro _|refine exP ?_ ?_);all_goals try omega
     have hats:=c8x _ _ _ i1 i2 i3
     have hws:s.word.size≤12:=by
      have:a1p s.word=true:=by unfold b7b at hg;simp only [Bool.and_eq_true] at hg;exact hg.2
      exact (a3t this).2
     have hW1:=a1q a7h [atS s.ch s.ln s.wd,s.word] (by simp) (by simp) (by decide) (by simp;omega)
     have hW2:=a1q a2s [s.bef] (by simp) (by simp) (by decide) (by have:=hbs.2.1;simp;omega)
     have hW3:=a1q a2w [s.aft] (by simp) (by simp) (by decide) (by have:=hbs.2.2;simp;omega)
     obtain ⟨U,hU⟩:∃ U,U=a2p (l.take k):=⟨_,rfl⟩
     rw [← hU] at hstep hln ⊢
     have hstep2:(a2p (l.take (k+1))).map a2h=U.map a2h++([V.v (Value.string (a1o [a7h,atS s.ch s.ln s.wd,s.word]))]::((f3c s).map a2h++(e7x s).map a2h)):=by
      rw [hstep,← hs,List.map_append,c6t,List.map_cons,List.map_append];rfl
     have hlen2:(a2p (l.take (k+1))).length=U.length+(1+((f3c s).length+(e7x s).length)):=by
      rw [hstep,← hs,List.length_append,c6t,List.length_cons,List.length_append];omega
     refine a1w ⟨[43,45,46],[(44,[43])],[44]⟩ [(0,false),(1,false),(2,false),(3,false),(4,false),(5,false),(6,false),(7,false),(8,false),(9,false),(10,false)] mixed (by kernel_rfl) ?_
     simp only [a2r,List.getElem?_cons_zero,List.getElem?_cons_succ]
     simp only [go_sem,hG,hOw]
     (repeat' with_reducible first|refine And.intro ?_ ?_|intro _|refine exP ?_ ?_);all_goals try omega
     refine ⟨_,a0i (d3r s.ch s.ln s.wd i1 i2 i3),?_⟩
     simp only [go_sem,hG,hOw]
     (repeat' with_reducible first|refine And.intro ?_ ?_|intro _|refine exP ?_ ?_);all_goals try omega
     refine ⟨_,a5x [(0,43)] [] (hW1) (by (simp only [go_sem])<;>simp [a7h]) (by (simp only [go_sem,a1g,a0q,a0f,a1m])<;>simp [a7h]) (by simp [a2m,apart,toR]) (by simp [a0h,usH,toR,a7h]) (by simp [a5z,lkR,toR]) rfl (by simp [tgt,a1z]) (by simp [tgt,a1z]) (by simp [upT,a3k,a5w,a1u,usH,lkR,toR,a1z,a7h]) (by simp [b2k,usH,tgt,go_sem]) (by simp [a3l,a1u,usH,lkR,toR,a7h]) (by simp [a5d,usH,a7h]),?_⟩
     by_cases hbe:s.bef=⟨#[]⟩
     ·have hb0:f3c s=[]:=if_pos hbe
      rw [hb0] at hstep2 hlen2
      by_cases haf:s.aft=⟨#[]⟩
      ·have ha0:e7x s=[]:=if_pos haf
       rw [ha0] at hstep2 hlen2
       simp (maxSteps:=2000000) only [go_sem,hG,hOw,hbe,haf]
       (repeat' with_reducible first|refine And.intro ?_ ?_|intro _|refine exP ?_ ?_);all_goals try omega
       exact ⟨k+1,⟨by omega,a1k hkl hall (by rw [← hs];exact hgs)⟩,by omega,a1l [(100,some 46)] (by (simp only [hstep2,hlen2,a2h,List.map_cons,List.map_nil,List.append_nil,List.nil_append,List.append_assoc,List.cons_append,List.length_cons,List.length_nil,go_sem])<;>simp [hstep2,hlen2,a2h,List.map_cons,List.map_nil,List.append_nil,List.nil_append,List.append_assoc,List.cons_append,List.length_cons,List.length_nil]) (by (simp only [hstep2,hlen2,a2h,List.map_cons,List.map_nil,List.append_nil,List.nil_append,List.append_assoc,List.cons_append,List.length_cons,List.length_nil,go_sem,a1g,a0q,a0f,a1m])<;>simp [hstep2,hlen2,a2h,List.map_cons,List.map_nil,List.append_nil,List.nil_append,List.append_assoc,List.cons_append,List.length_cons,List.length_nil]) (by simp [a2m,apart]) (by simp [a0h,usH]) (by simp [hNm,lkR,a1c])⟩
      ·have ha0:e7x s=[a1o [a2w,s.aft]]:=if_neg haf
       have da:=decide_eq_false haf
       rw [ha0] at hstep2 hlen2
       simp (maxSteps:=2000000) only [go_sem,hG,hOw,hbe,da,Bool.not_false]
       (repeat' with_reducible first|refine And.intro ?_ ?_|intro _|refine exP ?_ ?_);all_goals try omega
       refine a0b [(0,63)] [] (hW3) ?_ (by (simp only [go_sem])<;>simp [a2w]) (by (simp only [go_sem,a1g,a0q,a0f,a1m])<;>simp [a2w]) (by simp [a0h,usH,toR,a2w])
       simp (maxSteps:=2000000) only [go_sem,hG,hOw,hbe,da,Bool.not_false]
       (repeat' with_reducible first|refine And.intro ?_ ?_|intro _|refine exP ?_ ?_);all_goals try omega
       exact ⟨k+1,⟨by omega,a1k hkl hall (by rw [← hs];exact hgs)⟩,by omega,a1l [(100,some 66)] (by (simp only [hstep2,hlen2,a2h,List.map_cons,List.map_nil,List.append_nil,List.nil_append,List.append_assoc,List.cons_append,List.length_cons,List.length_nil,go_sem])<;>simp [hstep2,hlen2,a2h,List.map_cons,List.map_nil,List.append_nil,List.nil_append,List.append_assoc,List.cons_append,List.length_cons,List.length_nil]) (by (simp only [hstep2,hlen2,a2h,List.map_cons,List.map_nil,List.append_nil,List.nil_append,List.append_assoc,List.cons_append,List.length_cons,List.length_nil,go_sem,a1g,a0q,a0f,a1m])<;>simp [hstep2,hlen2,a2h,List.map_cons,List.map_nil,List.append_nil,List.nil_append,List.append_assoc,List.cons_append,List.length_cons,List.length_nil]) (by simp [a2m,apart]) (by simp [a0h,usH]) (by simp [hNm,lkR,a1c])⟩
     ·have hb0:f3c s=[a1o [a2s,s.bef]]:=if_neg hbe
      have db:=decide_eq_false hbe
      rw [hb0] at hstep2 hlen2
      by_cases haf:s.aft=⟨#[]⟩
      ·have ha0:e7x s=[]:=if_pos haf
       rw [ha0] at hstep2 hlen2
       simp (maxSteps:=2000000) only [go_sem,hG,hOw,db,Bool.not_false,haf]
       (repeat' with_reducible first|refine And.intro ?_ ?_|intro _|refine exP ?_ ?_);all_goals try omega
       refine a0b [(0,53)] [] (hW2) ?_ (by (simp only [go_sem])<;>simp [a2s]) (by (simp only [go_sem,a1g,a0q,a0f,a1m])<;>simp [a2s]) (by simp [a0h,usH,toR,a2s])
       simp (maxSteps:=2000000) only [go_sem,hG,hOw,db,Bool.not_false,haf]
       (repeat' with_reducible first|refine And.intro ?_ ?_|intro _|refine exP ?_ ?_);all_goals try omega
       exact ⟨k+1,⟨by omega,a1k hkl hall (by rw [← hs];exact hgs)⟩,by omega,a1l [(100,some 56)] (by (simp only [hstep2,hlen2,a2h,List.map_cons,List.map_nil,List.append_nil,List.nil_append,List.append_assoc,List.cons_append,List.length_cons,List.length_nil,go_sem])<;>simp [hstep2,hlen2,a2h,List.map_cons,List.map_nil,List.append_nil,List.nil_append,List.append_assoc,List.cons_append,List.length_cons,List.length_nil]) (by (simp only [hstep2,hlen2,a2h,List.map_cons,List.map_nil,List.append_nil,List.nil_append,List.append_assoc,List.cons_append,List.length_cons,List.length_nil,go_sem,a1g,a0q,a0f,a1m])<;>simp [hstep2,hlen2,a2h,List.map_cons,List.map_nil,List.append_nil,List.nil_append,List.append_assoc,List.cons_append,List.length_cons,List.length_nil]) (by simp [a2m,apart]) (by simp [a0h,usH]) (by simp [hNm,lkR,a1c])⟩
      ·have ha0:e7x s=[a1o [a2w,s.aft]]:=if_neg haf
       have da:=decide_eq_false haf
       rw [ha0] at hstep2 hlen2
       simp (maxSteps:=2000000) only [go_sem,hG,hOw,db,Bool.not_false,da,Bool.not_false]
       (repeat' with_reducible first|refine And.intro ?_ ?_|intro _|refine exP ?_ ?_);all_goals try omega
       refine a0b [(0,53)] [] (hW2) ?_ (by (simp only [go_sem])<;>simp [a2s]) (by (simp only [go_sem,a1g,a0q,a0f,a1m])<;>simp [a2s]) (by simp [a0h,usH,toR,a2s])
       simp (maxSteps:=2000000) only [go_sem,hG,hOw,db,Bool.not_false,da,Bool.not_false]
       (repeat' with_reducible first|refine And.intro ?_ ?_|intro _|refine exP ?_ ?_);all_goals try omega
       refine a0b [(0,63)] [] (hW3) ?_ (by (simp only [go_sem])<;>simp [a2w]) (by (simp only [go_sem,a1g,a0q,a0f,a1m])<;>simp [a2w]) (by simp [a0h,usH,toR,a2w])
       simp (maxSteps:=2000000) only [go_sem,hG,hOw,db,Bool.not_false,da,Bool.not_false]
       (repeat' with_reducible first|refine And.intro ?_ ?_|intro _|refine exP ?_ ?_);all_goals try omega
       exact ⟨k+1,⟨by omega,a1k hkl hall (by rw [← hs];exact hgs)⟩,by omega,a1l [(100,some 66)] (by (simp only [hstep2,hlen2,a2h,List.map_cons,List.map_nil,List.append_nil,List.nil_append,List.append_assoc,List.cons_append,List.length_cons,List.length_nil,go_sem])<;>simp [hstep2,hlen2,a2h,List.map_cons,List.map_nil,List.append_nil,List.nil_append,List.append_assoc,List.cons_append,List.length_cons,List.length_nil]) (by (simp only [hstep2,hlen2,a2h,List.map_cons,List.map_nil,List.append_nil,List.nil_append,List.append_assoc,List.cons_append,List.length_cons,List.length_nil,go_sem,a1g,a0q,a0f,a1m])<;>simp [hstep2,hlen2,a2h,List.map_cons,List.map_nil,List.append_nil,List.nil_append,List.append_assoc,List.cons_append,List.length_cons,List.length_nil]) (by simp [a2m,apart]) (by simp [a0h,usH]) (by simp [hNm,lkR,a1c])⟩
  ·have hlt:¬ (k:Int) < l.length:=by omega
   have hkl:k=l.length:=by omega
   subst hkl
   rw [List.take_length] at hall
   refine a0l _ _ _ ?_
   rw [List.take_length]
   simp (maxSteps:=2000000) only [go_sem,hG,hOw,hlt]
   try (repeat' with_reducible first|refine And.intro ?_ ?_|intro _|refine exP ?_ ?_);all_goals try omega
   exact ⟨(),hall,a2o [(100,some 100)]⟩
 ·rintro _ hall
  have e:a4t l=if (a2p l).length≤200 then (a2p l,0) else ([],110):=by unfold a4t;rw [hall];rfl
  rw [e]
  simp only [go_sem,hG,hOw]
  (repeat' with_reducible first|refine And.intro ?_ ?_|intro _|refine exP ?_ ?_);all_goals try omega
  ·rename_i h
   rw [if_neg (by omega)]
   exact Subs.tup (.cons (.nil _ _) (.cons (.refl _) .nil))
  ·rename_i h
   rw [if_pos (by omega)]
   exact .refl _
open Go Pm
set_option maxHeartbeats 4000000
set_option maxRecDepth 100000
end Go.Proofs.YtmjhfccbbfpppaaGreatDoor
