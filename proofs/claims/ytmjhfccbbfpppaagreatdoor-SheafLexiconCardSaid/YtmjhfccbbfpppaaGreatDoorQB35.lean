import Derived.Test.YtmjhfccbbfpppaaGreatDoorQB27
import Derived.Test.YtmjhfccbbfpppaaGreatDoorQB31
import Derived.Test.YtmjhfccbbfpppaaGreatDoorQB34
namespace Go.Proofs.YtmjhfccbbfpppaaGreatDoor
open Go Pm
set_option linter.unusedSimpArgs false
set_option linter.unusedVariables false
set_option maxHeartbeats 4000000
set_option maxRecDepth 100000
def c1h:ByteArray:=⟨#[115,108,105,112]⟩
def a8f:ByteArray:=⟨#[98,101,102,111,114,101]⟩
def b1k:ByteArray:=⟨#[97,102,116,101,114]⟩
def b4v (s:Si):Bool:=c8h s && (inB s.ch 0 9999 && inB s.ln 0 9999 && inB s.wd 0 9999)
def f6d (s:Si):List ByteArray:=if s.bef=⟨#[]⟩ then [] else [a1b [a8f,s.bef]]
def e9r (s:Si):List ByteArray:=if s.aft=⟨#[]⟩ then [] else [a1b [b1k,s.aft]]
def c8i (s:Si):List ByteArray:=a1b [c1h,atS s.ch s.ln s.wd,s.word]::(f6d s++e9r s)
def a2k (l:List Si):List ByteArray:=l.flatMap c8i
def a5a (l:List Si):List ByteArray×Int:=if l.all b4v then (if (a2k l).length≤200 then (a2k l,0) else ([],110)) else ([],31)
theorem e1y (s:Si):(c8i s).length≤3:=by
 unfold c8i f6d e9r
 split<;>split<;>simp
theorem c6r (l:List Si) (k:Nat) (h:k < l.length):a2k (l.take (k+1))=a2k (l.take k)++c8i l[k]:=by
 unfold a2k
 rw [List.take_add_one,List.getElem?_eq_getElem h,List.flatMap_append]
 simp
theorem c8j (l:List Si):(a2k l).length≤3 * l.length:=by
 induction l with
 |nil=>simp [a2k]
 |cons s r ih =>
  have:=e1y s
  simp only [a2k,List.flatMap_cons,List.length_append,List.length_cons] at ih ⊢
  omega
theorem f5t {s:Si} (h:b4v s=true):in9 s.ch∧in9 s.ln∧in9 s.wd:=by
 simp only [b4v,Bool.and_eq_true,inB_iff] at h
 exact ⟨h.2.1.1,h.2.1.2,h.2.2⟩
theorem e8f (a b c:Int):a0l Tryz.prog 95 [i64 0,i64 9999,.lst 0 1 [[i64 a],[i64 b],[i64 c]]] (fun _=>bl (inB a 0 9999 && inB b 0 9999 && inB c 0 9999)):=by
 have h:=f5i 0 9999 [a,b,c]
 have e:([a,b,c].all fun n=>decide ((0:Int)≤n) && decide (n≤9999))=(inB a 0 9999 && inB b 0 9999 && inB c 0 9999):=by simp [inB,Bool.and_assoc]
 rw [e] at h
 exact h
theorem d4s (l:List Si) (hl:l.length≤1000) (hb:∀ s ∈ l,bdS s):a0l Tryz.prog 29 [sis 0 l] (fun n=>.tup [a0q n (a5a l).1,i64 (a5a l).2]):=by
 refine a0b (ow:=fun i=>[43,53,63,1000043,1000053,1000063].contains i) Tryz.func29 Tryz.ntmps29 rfl rfl fun G hG hOw hNm hB=>?_;simp only [go_sem,hG,hOw]
 (repeat' with_reducible first|apply And.intro|refine exP ?_ ?_|intro);all_goals try omega
 refine a2h (fun _:Unit=>St.of [(4,.own 100 0 (a2k l).length 1)] [(100,.arr 9 1 ((a2k l).map a2c))]) (fun _=>l.all b4v=true) ?_ ?_
 ·refine a0k (fun k:Nat=>St.of [(4,.own 100 0 (a2k (l.take k)).length 1),(9,sis 0 l),(10,i64 l.length),(11,i64 k)] [(100,.arr 9 1 ((a2k (l.take k)).map a2c))]) (fun k=>k≤l.length∧(l.take k).all b4v=true) (fun k=>l.length - k) 0 (by simp) (by simp only [List.take_zero,a2k,List.flatMap_nil];exact a1m [(100,none)]) ?_
  rintro k ⟨hk,hall⟩
  by_cases hkl:k < l.length
  ·have hlt:(k:Int) < l.length:=by omega
   have hln:=c8j (l.take k)
   rw [List.length_take] at hln
   have hstep:=c6r l k hkl
   obtain ⟨s,hs⟩:∃ s,s=l[k]:=⟨_,rfl⟩
   have hbs:bdS s:=by rw [hs];exact hb _ (List.getElem_mem hkl)
   have hO:=d3i s hbs
   refine a0d _ _ _ ?_
   simp (maxSteps:=2000000) only [go_sem,hG,hOw,hlt,← hs]
   (repeat' with_reducible first|apply And.intro|refine exP ?_ ?_|intro);all_goals try omega
   refine a0a hO ?_
   cases hg:c8h s with
   |false =>
    have hbad:l.all b4v=false:=a4k hkl (by rw [← hs];unfold b4v;rw [hg];rfl)
    have e:a5a l=([],31):=by unfold a5a;rw [hbad];rfl
    rw [e]
    simp (maxSteps:=2000000) only [go_sem,hG,hOw,hg]
    (repeat' with_reducible first|apply And.intro|refine exP ?_ ?_|intro);all_goals try omega
    exact Subs.tup (.cons (.nil _ _) (.cons (.refl _) .nil))
   |true =>
    simp (maxSteps:=2000000) only [go_sem,hG,hOw,hg]
    (repeat' with_reducible first|apply And.intro|refine exP ?_ ?_|intro);all_goals try omega
    refine a0a (e8f s.ch s.ln s.wd) ?_
    cases h9:(inB s.ch 0 9999 && inB s.ln 0 9999 && inB s.wd 0 9999) with
    |false =>
     have hbad:l.all b4v=false:=a4k hkl (by rw [← hs];unfold b4v;rw [h9,Bool.and_false])
     have e:a5a l=([],31):=by unfold a5a;rw [hbad];rfl
     rw [e]
     simp only [go_sem,hG,hOw]
     (repeat' with_reducible first|apply And.intro|refine exP ?_ ?_|intro);all_goals try omega
     exact Subs.tup (.cons (.nil _ _) (.cons (.refl _) .nil))
    |true =>
     have hgs:b4v s=true:=by unfold b4v;rw [hg,h9];rfl
     obtain ⟨i1,i2,i3⟩:=f5t hgs
     simp only [go_sem,hG,hOw]
     (repeat' with_reducible first|apply And.intro|refine exP ?_ ?_|intro);all_goals try omega
     have hats:=c7w _ _ _ i1 i2 i3
     have hws:s.word.size≤12:=by
      have:a1f s.word=true:=by unfold c8h at hg;simp only [Bool.and_eq_true] at hg;exact hg.2
      exact (a2u this).2
     have hW1:=a1g c1h [atS s.ch s.ln s.wd,s.word] (by simp) (by simp) (by decide) (by simp;omega)
     have hW2:=a1g a8f [s.bef] (by simp) (by simp) (by decide) (by have:=hbs.2.1;simp;omega)
     have hW3:=a1g b1k [s.aft] (by simp) (by simp) (by decide) (by have:=hbs.2.2;simp;omega)
     obtain ⟨U,hU⟩:∃ U,U=a2k (l.take k):=⟨_,rfl⟩
     rw [← hU] at hstep hln ⊢
     have hstep2:(a2k (l.take (k+1))).map a2c=U.map a2c++([V.v (Value.string (a1b [c1h,atS s.ch s.ln s.wd,s.word]))]::((f6d s).map a2c++(e9r s).map a2c)):=by
      rw [hstep,← hs,List.map_append,c8i,List.map_cons,List.map_append];rfl
     have hlen2:(a2k (l.take (k+1))).length=U.length+(1+((f6d s).length+(e9r s).length)):=by
      rw [hstep,← hs,List.length_append,c8i,List.length_cons,List.length_append];omega
     refine a2g ⟨[43,45,46],[(44,[43])],[44]⟩ [(0,false),(1,false),(2,false),(3,false),(4,false),(5,false),(6,false),(7,false),(8,false),(9,false),(10,false)] mixed (by kernel_rfl) ?_
     simp only [a3s,List.getElem?_cons_zero,List.getElem?_cons_succ]
     simp only [go_sem,hG,hOw]
     (repeat' with_reducible first|apply And.intro|refine exP ?_ ?_|intro);all_goals try omega
     refine ⟨_,a0f (d5g s.ch s.ln s.wd i1 i2 i3),?_⟩
     simp only [go_sem,hG,hOw]
     (repeat' with_reducible first|apply And.intro|refine exP ?_ ?_|intro);all_goals try omega
     refine ⟨_,a7b [(0,43)] [] (hW1) (by (simp only [go_sem])<;>simp [c1h]) (by (simp only [go_sem,a1d,a0r,a0i,a1l])<;>simp [c1h]) (by simp [a2m,apart,toR]) (by simp [a0n,usH,toR,c1h]) (by simp [a7f,lkR,toR]) rfl (by simp [tgt,a2d]) (by simp [tgt,a2d]) (by simp [upT,a3q,a6j,a1r,usH,lkR,toR,a2d,c1h]) (by simp [b4n,usH,tgt,go_sem]) (by simp [a3o,a1r,usH,lkR,toR,c1h]) (by simp [a5t,usH,c1h]),?_⟩
     by_cases hbe:s.bef=⟨#[]⟩
     ·have hb0:f6d s=[]:=if_pos hbe
      rw [hb0] at hstep2 hlen2
      by_cases haf:s.aft=⟨#[]⟩
      ·have ha0:e9r s=[]:=if_pos haf
       rw [ha0] at hstep2 hlen2
       simp (maxSteps:=2000000) only [go_sem,hG,hOw,hbe,haf]
       (repeat' with_reducible first|apply And.intro|refine exP ?_ ?_|intro);all_goals try omega
       exact ⟨k+1,⟨by omega,a0u hkl hall (by rw [← hs];exact hgs)⟩,by omega,a1e [(100,some 46)] (by (simp only [hstep2,hlen2,a2c,List.map_cons,List.map_nil,List.append_nil,List.nil_append,List.append_assoc,List.cons_append,List.length_cons,List.length_nil,go_sem])<;>simp [hstep2,hlen2,a2c,List.map_cons,List.map_nil,List.append_nil,List.nil_append,List.append_assoc,List.cons_append,List.length_cons,List.length_nil]) (by (simp only [hstep2,hlen2,a2c,List.map_cons,List.map_nil,List.append_nil,List.nil_append,List.append_assoc,List.cons_append,List.length_cons,List.length_nil,go_sem,a1d,a0r,a0i,a1l])<;>simp [hstep2,hlen2,a2c,List.map_cons,List.map_nil,List.append_nil,List.nil_append,List.append_assoc,List.cons_append,List.length_cons,List.length_nil]) (by simp [a2m,apart]) (by simp [a0n,usH]) (by simp [hNm,lkR,a0x])⟩
      ·have ha0:e9r s=[a1b [b1k,s.aft]]:=if_neg haf
       have da:=decide_eq_false haf
       rw [ha0] at hstep2 hlen2
       simp (maxSteps:=2000000) only [go_sem,hG,hOw,hbe,da,Bool.not_false]
       (repeat' with_reducible first|apply And.intro|refine exP ?_ ?_|intro);all_goals try omega
       refine a0c [(0,63)] [] (hW3) ?_ (by (simp only [go_sem])<;>simp [b1k]) (by (simp only [go_sem,a1d,a0r,a0i,a1l])<;>simp [b1k]) (by simp [a0n,usH,toR,b1k])
       simp (maxSteps:=2000000) only [go_sem,hG,hOw,hbe,da,Bool.not_false]
       (repeat' with_reducible first|apply And.intro|refine exP ?_ ?_|intro);all_goals try omega
       exact ⟨k+1,⟨by omega,a0u hkl hall (by rw [← hs];exact hgs)⟩,by omega,a1e [(100,some 66)] (by (simp only [hstep2,hlen2,a2c,List.map_cons,List.map_nil,List.append_nil,List.nil_append,List.append_assoc,List.cons_append,List.length_cons,List.length_nil,go_sem])<;>simp [hstep2,hlen2,a2c,List.map_cons,List.map_nil,List.append_nil,List.nil_append,List.append_assoc,List.cons_append,List.length_cons,List.length_nil]) (by (simp only [hstep2,hlen2,a2c,List.map_cons,List.map_nil,List.append_nil,List.nil_append,List.append_assoc,List.cons_append,List.length_cons,List.length_nil,go_sem,a1d,a0r,a0i,a1l])<;>simp [hstep2,hlen2,a2c,List.map_cons,List.map_nil,List.append_nil,List.nil_append,List.append_assoc,List.cons_append,List.length_cons,List.length_nil]) (by simp [a2m,apart]) (by simp [a0n,usH]) (by simp [hNm,lkR,a0x])⟩
     ·have hb0:f6d s=[a1b [a8f,s.bef]]:=if_neg hbe
      have db:=decide_eq_false hbe
      rw [hb0] at hstep2 hlen2
      by_cases haf:s.aft=⟨#[]⟩
      ·have ha0:e9r s=[]:=if_pos haf
       rw [ha0] at hstep2 hlen2
       simp (maxSteps:=2000000) only [go_sem,hG,hOw,db,Bool.not_false,haf]
       (repeat' with_reducible first|apply And.intro|refine exP ?_ ?_|intro);all_goals try omega
       refine a0c [(0,53)] [] (hW2) ?_ (by (simp only [go_sem])<;>simp [a8f]) (by (simp only [go_sem,a1d,a0r,a0i,a1l])<;>simp [a8f]) (by simp [a0n,usH,toR,a8f])
       simp (maxSteps:=2000000) only [go_sem,hG,hOw,db,Bool.not_false,haf]
       (repeat' with_reducible first|apply And.intro|refine exP ?_ ?_|intro);all_goals try omega
       exact ⟨k+1,⟨by omega,a0u hkl hall (by rw [← hs];exact hgs)⟩,by omega,a1e [(100,some 56)] (by (simp only [hstep2,hlen2,a2c,List.map_cons,List.map_nil,List.append_nil,List.nil_append,List.append_assoc,List.cons_append,List.length_cons,List.length_nil,go_sem])<;>simp [hstep2,hlen2,a2c,List.map_cons,List.map_nil,List.append_nil,List.nil_append,List.append_assoc,List.cons_append,List.length_cons,List.length_nil]) (by (simp only [hstep2,hlen2,a2c,List.map_cons,List.map_nil,List.append_nil,List.nil_append,List.append_assoc,List.cons_append,List.length_cons,List.length_nil,go_sem,a1d,a0r,a0i,a1l])<;>simp [hstep2,hlen2,a2c,List.map_cons,List.map_nil,List.append_nil,List.nil_append,List.append_assoc,List.cons_append,List.length_cons,List.length_nil]) (by simp [a2m,apart]) (by simp [a0n,usH]) (by simp [hNm,lkR,a0x])⟩
      ·have ha0:e9r s=[a1b [b1k,s.aft]]:=if_neg haf
       have da:=decide_eq_false haf
       rw [ha0] at hstep2 hlen2
       simp (maxSteps:=2000000) only [go_sem,hG,hOw,db,Bool.not_false,da,Bool.not_false]
       (repeat' with_reducible first|apply And.intro|refine exP ?_ ?_|intro);all_goals try omega
       refine a0c [(0,53)] [] (hW2) ?_ (by (simp only [go_sem])<;>simp [a8f]) (by (simp only [go_sem,a1d,a0r,a0i,a1l])<;>simp [a8f]) (by simp [a0n,usH,toR,a8f])
       simp (maxSteps:=2000000) only [go_sem,hG,hOw,db,Bool.not_false,da,Bool.not_false]
       (repeat' with_reducible first|apply And.intro|refine exP ?_ ?_|intro);all_goals try omega
       refine a0c [(0,63)] [] (hW3) ?_ (by (simp only [go_sem])<;>simp [b1k]) (by (simp only [go_sem,a1d,a0r,a0i,a1l])<;>simp [b1k]) (by simp [a0n,usH,toR,b1k])
       simp (maxSteps:=2000000) only [go_sem,hG,hOw,db,Bool.not_false,da,Bool.not_false]
       (repeat' with_reducible first|apply And.intro|refine exP ?_ ?_|intro);all_goals try omega
       exact ⟨k+1,⟨by omega,a0u hkl hall (by rw [← hs];exact hgs)⟩,by omega,a1e [(100,some 66)] (by (simp only [hstep2,hlen2,a2c,List.map_cons,List.map_nil,List.append_nil,List.nil_append,List.append_assoc,List.cons_append,List.length_cons,List.length_nil,go_sem])<;>simp [hstep2,hlen2,a2c,List.map_cons,List.map_nil,List.append_nil,List.nil_append,List.append_assoc,List.cons_append,List.length_cons,List.length_nil]) (by (simp only [hstep2,hlen2,a2c,List.map_cons,List.map_nil,List.append_nil,List.nil_append,List.append_assoc,List.cons_append,List.length_cons,List.length_nil,go_sem,a1d,a0r,a0i,a1l])<;>simp [hstep2,hlen2,a2c,List.map_cons,List.map_nil,List.append_nil,List.nil_append,List.append_assoc,List.cons_append,List.length_cons,List.length_nil]) (by simp [a2m,apart]) (by simp [a0n,usH]) (by simp [hNm,lkR,a0x])⟩
  ·have hlt:¬ (k:Int) < l.length:=by omega
   have hkl:k=l.length:=by omega
   subst hkl
   rw [List.take_length] at hall
   refine a0d _ _ _ ?_
   rw [List.take_length]
   simp (maxSteps:=2000000) only [go_sem,hG,hOw,hlt]
   try (repeat' with_reducible first|apply And.intro|refine exP ?_ ?_|intro);all_goals try omega
   exact ⟨(),hall,a1m [(100,some 100)]⟩
 ·rintro _ hall
  have e:a5a l=if (a2k l).length≤200 then (a2k l,0) else ([],110):=by unfold a5a;rw [hall];rfl
  rw [e]
  simp only [go_sem,hG,hOw]
  (repeat' with_reducible first|apply And.intro|refine exP ?_ ?_|intro);all_goals try omega
  ·rename_i h
   rw [if_neg (by omega)]
   exact Subs.tup (.cons (.nil _ _) (.cons (.refl _) .nil))
  ·rename_i h
   rw [if_pos (by omega)]
   exact .refl _
open Go Pm
end Go.Proofs.YtmjhfccbbfpppaaGreatDoor
