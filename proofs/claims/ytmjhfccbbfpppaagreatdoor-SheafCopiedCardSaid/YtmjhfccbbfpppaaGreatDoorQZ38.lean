import Derived.Test.YtmjhfccbbfpppaaGreatDoorQZ31
import Derived.Test.YtmjhfccbbfpppaaGreatDoorQZ35
import Derived.Test.YtmjhfccbbfpppaaGreatDoorQZ37
namespace Go.Proofs.YtmjhfccbbfpppaaGreatDoor
open Go Pm
set_option linter.unusedSimpArgs false
set_option linter.unusedVariables false
set_option maxHeartbeats 4000000
set_option maxRecDepth 100000
def c1a:ByteArray:=⟨#[115,108,105,112]⟩
def a7v:ByteArray:=⟨#[98,101,102,111,114,101]⟩
def a9w:ByteArray:=⟨#[97,102,116,101,114]⟩
def b3d (s:Si):Bool:=c6b s && (inB s.ch 0 9999 && inB s.ln 0 9999 && inB s.wd 0 9999)
def f1z (s:Si):List ByteArray:=if s.bef=⟨#[]⟩ then [] else [a0z [a7v,s.bef]]
def e7s (s:Si):List ByteArray:=if s.aft=⟨#[]⟩ then [] else [a0z [a9w,s.aft]]
def c5b (s:Si):List ByteArray:=a0z [c1a,atS s.ch s.ln s.wd,s.word]::(f1z s++e7s s)
def a2j (l:List Si):List ByteArray:=l.flatMap c5b
def a4s (l:List Si):List ByteArray×Int:=if l.all b3d then (if (a2j l).length≤200 then (a2j l,0) else ([],110)) else ([],31)
theorem e2b (s:Si):(c5b s).length≤3:=by
 unfold c5b f1z e7s
 split<;>split<;>simp
theorem c1v (l:List Si) (k:Nat) (h:k < l.length):a2j (l.take (k+1))=a2j (l.take k)++c5b l[k]:=by
 unfold a2j
 rw [List.take_add_one,List.getElem?_eq_getElem h,List.flatMap_append]
 simp
theorem c6c (l:List Si):(a2j l).length≤3 * l.length:=by
 induction l with
 |nil=>simp [a2j]
 |cons s r ih =>
  have:=e2b s
  simp only [a2j,List.flatMap_cons,List.length_append,List.length_cons] at ih ⊢
  omega
theorem e9w {s:Si} (h:b3d s=true):in9 s.ch∧in9 s.ln∧in9 s.wd:=by
 simp only [b3d,Bool.and_eq_true,inB_iff] at h
 exact ⟨h.2.1.1,h.2.1.2,h.2.2⟩
theorem e4p (a b c:Int):a0n Tryz.prog 95 [i64 0,i64 9999,.lst 0 1 [[i64 a],[i64 b],[i64 c]]] (fun _=>bl (inB a 0 9999 && inB b 0 9999 && inB c 0 9999)):=by
 have h:=f3u 0 9999 [a,b,c]
 have e:([a,b,c].all fun n=>decide ((0:Int)≤n) && decide (n≤9999))=(inB a 0 9999 && inB b 0 9999 && inB c 0 9999):=by simp [inB,Bool.and_assoc]
 rw [e] at h
 exact h
theorem d2j (l:List Si) (hl:l.length≤1000) (hb:∀ s ∈ l,bdS s):a0n Tryz.prog 29 [sis 0 l] (fun n=>.tup [a0p n (a4s l).1,i64 (a4s l).2]):=by
 refine a0b (ow:=fun i=>[43,53,63,1000043,1000053,1000063].contains i) Tryz.func29 Tryz.ntmps29 rfl rfl fun G hG hOw hNm hB=>?_;simp only [go_sem,hG,hOw]
 (repeat' with_reducible first|refine And.intro ?_ ?_|intro _|refine exP ?_ ?_);all_goals try omega
 refine a7k (fun _:Unit=>St.of [(4,.own 100 0 (a2j l).length 1)] [(100,.arr 9 1 ((a2j l).map a2e))]) (fun _=>l.all b3d=true) ?_ ?_
 ·refine a0m (fun k:Nat=>St.of [(4,.own 100 0 (a2j (l.take k)).length 1),(9,sis 0 l),(10,i64 l.length),(11,i64 k)] [(100,.arr 9 1 ((a2j (l.take k)).map a2e))]) (fun k=>k≤l.length∧(l.take k).all b3d=true) (fun k=>l.length - k) 0 (by simp) (by simp only [List.take_zero,a2j,List.flatMap_nil];exact a2d [(100,none)]) ?_
  rintro k ⟨hk,hall⟩
  by_cases hkl:k < l.length
  ·have hlt:(k:Int) < l.length:=by omega
   have hln:=c6c (l.take k)
   rw [List.length_take] at hln
   have hstep:=c1v l k hkl
   obtain ⟨s,hs⟩:∃ s,s=l[k]:=⟨_,rfl⟩
   have hbs:bdS s:=by rw [hs];exact hb _ (List.getElem_mem hkl)
   have hO:=d0s s hbs
   refine a0d _ _ _ ?_
   simp (maxSteps:=2000000) only [go_sem,hG,hOw,hlt,← hs]
   (repeat' with_reducible first|refine And.intro ?_ ?_|intro _|refine exP ?_ ?_);all_goals try omega
   refine a0a hO ?_
   cases hg:c6b s with
   |false =>
    have hbad:l.all b3d=false:=a5t hkl (by rw [← hs];unfold b3d;rw [hg];rfl)
    have e:a4s l=([],31):=by unfold a4s;rw [hbad];rfl
    rw [e]
    simp (maxSteps:=2000000) only [go_sem,hG,hOw,hg]
    (repeat' with_reducible first|refine And.intro ?_ ?_|intro _|refine exP ?_ ?_);all_goals try omega
    exact Subs.tup (.cons (.nil _ _) (.cons (.refl _) .nil))
   |true =>
    simp (maxSteps:=2000000) only [go_sem,hG,hOw,hg]
    (repeat' with_reducible first|refine And.intro ?_ ?_|intro _|refine exP ?_ ?_);all_goals try omega
    refine a0a (e4p s.ch s.ln s.wd) ?_
    cases h9:(inB s.ch 0 9999 && inB s.ln 0 9999 && inB s.wd 0 9999) with
    |false =>
     have hbad:l.all b3d=false:=a5t hkl (by rw [← hs];unfold b3d;rw [h9,Bool.and_false])
     have e:a4s l=([],31):=by unfold a4s;rw [hbad];rfl
     rw [e]
     simp only [go_sem,hG,hOw]
     (repeat' with_reducible first|refine And.intro ?_ ?_|intro _|refine exP ?_ ?_);all_goals try omega
     exact Subs.tup (.cons (.nil _ _) (.cons (.refl _) .nil))
    |true =>
     have hgs:b3d s=true:=by unfold b3d;rw [hg,h9];rfl
     obtain ⟨i1,i2,i3⟩:=e9w hgs
     simp only [go_sem,hG,hOw]
     (repeat' with_reducible first|refine And.intro ?_ ?_|intro _|refine exP ?_ ?_);all_goals try omega
     have hats:=c6j _ _ _ i1 i2 i3
     have hws:s.word.size≤12:=by
      have:a1h s.word=true:=by unfold c6b at hg;simp only [Bool.and_eq_true] at hg;exact hg.2
      exact (a2k this).2
     have hW1:=a1f c1a [atS s.ch s.ln s.wd,s.word] (by simp) (by simp) (by decide) (by simp;omega)
     have hW2:=a1f a7v [s.bef] (by simp) (by simp) (by decide) (by have:=hbs.2.1;simp;omega)
     have hW3:=a1f a9w [s.aft] (by simp) (by simp) (by decide) (by have:=hbs.2.2;simp;omega)
     obtain ⟨U,hU⟩:∃ U,U=a2j (l.take k):=⟨_,rfl⟩
     rw [← hU] at hstep hln ⊢
     have hstep2:(a2j (l.take (k+1))).map a2e=U.map a2e++([V.v (Value.string (a0z [c1a,atS s.ch s.ln s.wd,s.word]))]::((f1z s).map a2e++(e7s s).map a2e)):=by
      rw [hstep,← hs,List.map_append,c5b,List.map_cons,List.map_append];rfl
     have hlen2:(a2j (l.take (k+1))).length=U.length+(1+((f1z s).length+(e7s s).length)):=by
      rw [hstep,← hs,List.length_append,c5b,List.length_cons,List.length_append];omega
     refine a3c ⟨[43,45,46],[(44,[43])],[44]⟩ [(0,false),(1,false),(2,false),(3,false),(4,false),(5,false),(6,false),(7,false),(8,false),(9,false),(10,false)] mixed (by kernel_rfl) ?_
     simp only [a4f,List.getElem?_cons_zero,List.getElem?_cons_succ]
     simp only [go_sem,hG,hOw]
     (repeat' with_reducible first|refine And.intro ?_ ?_|intro _|refine exP ?_ ?_);all_goals try omega
     refine ⟨_,a0e (d1i s.ch s.ln s.wd i1 i2 i3),?_⟩
     simp only [go_sem,hG,hOw]
     (repeat' with_reducible first|refine And.intro ?_ ?_|intro _|refine exP ?_ ?_);all_goals try omega
     refine ⟨_,a6t [(0,43)] [] (hW1) (by (simp only [go_sem])<;>simp [c1a]) (by (simp only [go_sem,a1k,a0r,a0i,a1p])<;>simp [c1a]) (by simp [a2p,apart,toR]) (by simp [a0k,usH,toR,c1a]) (by simp [a7b,lkR,toR]) rfl (by simp [tgt,a2g]) (by simp [tgt,a2g]) (by simp [upT,a3l,a6c,a1o,usH,lkR,toR,a2g,c1a]) (by simp [b2v,usH,tgt,go_sem]) (by simp [a3o,a1o,usH,lkR,toR,c1a]) (by simp [a5f,usH,c1a]),?_⟩
     by_cases hbe:s.bef=⟨#[]⟩
     ·have hb0:f1z s=[]:=if_pos hbe
      rw [hb0] at hstep2 hlen2
      by_cases haf:s.aft=⟨#[]⟩
      ·have ha0:e7s s=[]:=if_pos haf
       rw [ha0] at hstep2 hlen2
       simp (maxSteps:=2000000) only [go_sem,hG,hOw,hbe,haf]
       (repeat' with_reducible first|refine And.intro ?_ ?_|intro _|refine exP ?_ ?_);all_goals try omega
       exact ⟨k+1,⟨by omega,a0v hkl hall (by rw [← hs];exact hgs)⟩,by omega,a1g [(100,some 46)] (by (simp only [hstep2,hlen2,a2e,List.map_cons,List.map_nil,List.append_nil,List.nil_append,List.append_assoc,List.cons_append,List.length_cons,List.length_nil,go_sem])<;>simp [hstep2,hlen2,a2e,List.map_cons,List.map_nil,List.append_nil,List.nil_append,List.append_assoc,List.cons_append,List.length_cons,List.length_nil]) (by (simp only [hstep2,hlen2,a2e,List.map_cons,List.map_nil,List.append_nil,List.nil_append,List.append_assoc,List.cons_append,List.length_cons,List.length_nil,go_sem,a1k,a0r,a0i,a1p])<;>simp [hstep2,hlen2,a2e,List.map_cons,List.map_nil,List.append_nil,List.nil_append,List.append_assoc,List.cons_append,List.length_cons,List.length_nil]) (by simp [a2p,apart]) (by simp [a0k,usH]) (by simp [hNm,lkR,a0x])⟩
      ·have ha0:e7s s=[a0z [a9w,s.aft]]:=if_neg haf
       have da:=decide_eq_false haf
       rw [ha0] at hstep2 hlen2
       simp (maxSteps:=2000000) only [go_sem,hG,hOw,hbe,da,Bool.not_false]
       (repeat' with_reducible first|refine And.intro ?_ ?_|intro _|refine exP ?_ ?_);all_goals try omega
       refine a0c [(0,63)] [] (hW3) ?_ (by (simp only [go_sem])<;>simp [a9w]) (by (simp only [go_sem,a1k,a0r,a0i,a1p])<;>simp [a9w]) (by simp [a0k,usH,toR,a9w])
       simp (maxSteps:=2000000) only [go_sem,hG,hOw,hbe,da,Bool.not_false]
       (repeat' with_reducible first|refine And.intro ?_ ?_|intro _|refine exP ?_ ?_);all_goals try omega
       exact ⟨k+1,⟨by omega,a0v hkl hall (by rw [← hs];exact hgs)⟩,by omega,a1g [(100,some 66)] (by (simp only [hstep2,hlen2,a2e,List.map_cons,List.map_nil,List.append_nil,List.nil_append,List.append_assoc,List.cons_append,List.length_cons,List.length_nil,go_sem])<;>simp [hstep2,hlen2,a2e,List.map_cons,List.map_nil,List.append_nil,List.nil_append,List.append_assoc,List.cons_append,List.length_cons,List.length_nil]) (by (simp only [hstep2,hlen2,a2e,List.map_cons,List.map_nil,List.append_nil,List.nil_append,List.append_assoc,List.cons_append,List.length_cons,List.length_nil,go_sem,a1k,a0r,a0i,a1p])<;>simp [hstep2,hlen2,a2e,List.map_cons,List.map_nil,List.append_nil,List.nil_append,List.append_assoc,List.cons_append,List.length_cons,List.length_nil]) (by simp [a2p,apart]) (by simp [a0k,usH]) (by simp [hNm,lkR,a0x])⟩
     ·have hb0:f1z s=[a0z [a7v,s.bef]]:=if_neg hbe
      have db:=decide_eq_false hbe
      rw [hb0] at hstep2 hlen2
      by_cases haf:s.aft=⟨#[]⟩
      ·have ha0:e7s s=[]:=if_pos haf
       rw [ha0] at hstep2 hlen2
       simp (maxSteps:=2000000) only [go_sem,hG,hOw,db,Bool.not_false,haf]
       (repeat' with_reducible first|refine And.intro ?_ ?_|intro _|refine exP ?_ ?_);all_goals try omega
       refine a0c [(0,53)] [] (hW2) ?_ (by (simp only [go_sem])<;>simp [a7v]) (by (simp only [go_sem,a1k,a0r,a0i,a1p])<;>simp [a7v]) (by simp [a0k,usH,toR,a7v])
       simp (maxSteps:=2000000) only [go_sem,hG,hOw,db,Bool.not_false,haf]
       (repeat' with_reducible first|refine And.intro ?_ ?_|intro _|refine exP ?_ ?_);all_goals try omega
       exact ⟨k+1,⟨by omega,a0v hkl hall (by rw [← hs];exact hgs)⟩,by omega,a1g [(100,some 56)] (by (simp only [hstep2,hlen2,a2e,List.map_cons,List.map_nil,List.append_nil,List.nil_append,List.append_assoc,List.cons_append,List.length_cons,List.length_nil,go_sem])<;>simp [hstep2,hlen2,a2e,List.map_cons,List.map_nil,List.append_nil,List.nil_append,List.append_assoc,List.cons_append,List.length_cons,List.length_nil]) (by (simp only [hstep2,hlen2,a2e,List.map_cons,List.map_nil,List.append_nil,List.nil_append,List.append_assoc,List.cons_append,List.length_cons,List.length_nil,go_sem,a1k,a0r,a0i,a1p])<;>simp [hstep2,hlen2,a2e,List.map_cons,List.map_nil,List.append_nil,List.nil_append,List.append_assoc,List.cons_append,List.length_cons,List.length_nil]) (by simp [a2p,apart]) (by simp [a0k,usH]) (by simp [hNm,lkR,a0x])⟩
      ·have ha0:e7s s=[a0z [a9w,s.aft]]:=if_neg haf
       have da:=decide_eq_false haf
       rw [ha0] at hstep2 hlen2
       simp (maxSteps:=2000000) only [go_sem,hG,hOw,db,Bool.not_false,da,Bool.not_false]
       (repeat' with_reducible first|refine And.intro ?_ ?_|intro _|refine exP ?_ ?_);all_goals try omega
       refine a0c [(0,53)] [] (hW2) ?_ (by (simp only [go_sem])<;>simp [a7v]) (by (simp only [go_sem,a1k,a0r,a0i,a1p])<;>simp [a7v]) (by simp [a0k,usH,toR,a7v])
       simp (maxSteps:=2000000) only [go_sem,hG,hOw,db,Bool.not_false,da,Bool.not_false]
       (repeat' with_reducible first|refine And.intro ?_ ?_|intro _|refine exP ?_ ?_);all_goals try omega
       refine a0c [(0,63)] [] (hW3) ?_ (by (simp only [go_sem])<;>simp [a9w]) (by (simp only [go_sem,a1k,a0r,a0i,a1p])<;>simp [a9w]) (by simp [a0k,usH,toR,a9w])
       simp (maxSteps:=2000000) only [go_sem,hG,hOw,db,Bool.not_false,da,Bool.not_false]
       (repeat' with_reducible first|refine And.intro ?_ ?_|intro _|refine exP ?_ ?_);all_goals try omega
       exact ⟨k+1,⟨by omega,a0v hkl hall (by rw [← hs];exact hgs)⟩,by omega,a1g [(100,some 66)] (by (simp only [hstep2,hlen2,a2e,List.map_cons,List.map_nil,List.append_nil,List.nil_append,List.append_assoc,List.cons_append,List.length_cons,List.length_nil,go_sem])<;>simp [hstep2,hlen2,a2e,List.map_cons,List.map_nil,List.append_nil,List.nil_append,List.append_assoc,List.cons_append,List.length_cons,List.length_nil]) (by (simp only [hstep2,hlen2,a2e,List.map_cons,List.map_nil,List.append_nil,List.nil_append,List.append_assoc,List.cons_append,List.length_cons,List.length_nil,go_sem,a1k,a0r,a0i,a1p])<;>simp [hstep2,hlen2,a2e,List.map_cons,List.map_nil,List.append_nil,List.nil_append,List.append_assoc,List.cons_append,List.length_cons,List.length_nil]) (by simp [a2p,apart]) (by simp [a0k,usH]) (by simp [hNm,lkR,a0x])⟩
  ·have hlt:¬ (k:Int) < l.length:=by omega
   have hkl:k=l.length:=by omega
   subst hkl
   rw [List.take_length] at hall
   refine a0d _ _ _ ?_
   rw [List.take_length]
   simp (maxSteps:=2000000) only [go_sem,hG,hOw,hlt]
   try (repeat' with_reducible first|refine And.intro ?_ ?_|intro _|refine exP ?_ ?_);all_goals try omega
   exact ⟨(),hall,a2d [(100,some 100)]⟩
 ·rintro _ hall
  have e:a4s l=if (a2j l).length≤200 then (a2j l,0) else ([],110):=by unfold a4s;rw [hall];rfl
  rw [e]
  simp only [go_sem,hG,hOw]
  (repeat' with_reducible first|refine And.intro ?_ ?_|intro _|refine exP ?_ ?_);all_goals try omega
  ·rename_i h
   rw [if_neg (by omega)]
   exact Subs.tup (.cons (.nil _ _) (.cons (.refl _) .nil))
  ·rename_i h
   rw [if_pos (by omega)]
   exact .refl _
open Go Pm
set_option maxHeartbeats 4000000
set_option maxRecDepth 100000
end Go.Proofs.YtmjhfccbbfpppaaGreatDoor
