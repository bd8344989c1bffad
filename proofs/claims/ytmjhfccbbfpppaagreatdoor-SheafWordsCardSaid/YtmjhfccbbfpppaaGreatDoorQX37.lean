import Derived.Test.YtmjhfccbbfpppaaGreatDoorQX18
import Derived.Test.YtmjhfccbbfpppaaGreatDoorQX28
import Derived.Test.YtmjhfccbbfpppaaGreatDoorQX35
namespace Go.Proofs.YtmjhfccbbfpppaaGreatDoor
open Go Pm
set_option linter.unusedSimpArgs false
set_option linter.unusedVariables false
set_option maxHeartbeats 4000000
set_option maxRecDepth 100000
instance:DecidableEq Rd:=fun a b=>by cases a;cases b;simp only [Rd.mk.injEq];infer_instance
instance:DecidableEq Cp:=fun a b=>by cases a;cases b;simp only [Cp.mk.injEq];infer_instance
def b5w (c:Cp):Bool:=decide (30 < (c.rds.length:Int)) || c.rds.any fun r=>decide (40 < (r.word.size:Int))
theorem c2k (c:Cp):a0o Tryz.prog 18 [cpE 0 c] (fun _=>bl (b5w c)):=by
 refine a0b (ow:=fun _=>false) Tryz.func18 Tryz.ntmps18 rfl rfl fun G hG hOw hNm hB=>?_;simp only [go_sem,hG,hOw]
 have hb:c.rds.length≤140737488355328:=by
  have:=b6b (e2l (hB (cpE 0 c) (by simp))) (lo:=0) (sz:=5) (l:=c.rds.map rdE) (by simp [cpC,rds]);simpa using this
 (repeat' with_reducible first|refine And.intro ?_ ?_|intro _|refine exP ?_ ?_);all_goals try omega
 ·rename_i h;simp [b5w];omega
 ·rename_i h0
  refine a0l (fun k:Nat=>St.of [(1,.ptr 1 0),(3,i64 k)] [(1,.box (cpC 0 c))]) (fun k=>k≤c.rds.length∧(c.rds.take k).all (fun r=>!decide (40 < (r.word.size:Int)))=true) (fun k=>c.rds.length - k) 0 (by simp) (a2a [(1,some 1)]) ?_
  rintro k ⟨hk,hall⟩
  refine a0e _ _ _ ?_;simp only [go_sem,hG,hOw]
  (repeat' with_reducible first|refine And.intro ?_ ?_|intro _|refine exP ?_ ?_);all_goals try omega
  ·rename_i hlt h1
   have hkl:k < c.rds.length:=by omega
   rw [b5w,a9u hkl (by simp;omega)];simp
  ·rename_i hlt h1
   have hkl:k < c.rds.length:=by omega
   exact ⟨k+1,⟨by omega,a0u hkl hall (by simp;omega)⟩,by omega,a2a [(1,some 1)]⟩
  ·rename_i hge
   rw [a1c hk hge] at hall
   rw [b5w,decide_eq_false h0,Bool.false_or]
   rw [Bool.eq_iff_iff]
   simp only [Bool.false_eq_true,false_iff,Bool.not_eq_true]
   rw [List.any_eq_false]
   intro r hr
   have:=List.all_eq_true.1 hall r hr
   simpa using this
theorem f8x {x y:Rd} (h1:x.ch=y.ch) (h2:x.ln=y.ln) (h3:x.wd=y.wd) (h4:(x.kind.toNat:Int)=y.kind.toNat) (h5:x.word=y.word):x=y:=by
 have h6:x.kind=y.kind:=UInt8.toNat_inj.1 (by omega)
 cases x;cases y
 simp_all
theorem c7t (a b:Cp) (ha:a.rds.length≤1000):a0o Tryz.prog 22 [cpE 0 a,cpE 0 b] (fun _=>bl (decide (a=b))):=by
 have no:a≠b→false=decide (a=b):=fun h=>by rw [decide_eq_false h]
 refine a0b (ow:=fun _=>false) Tryz.func22 Tryz.ntmps22 rfl rfl fun G hG hOw hNm hB=>?_;simp only [go_sem,hG,hOw]
 (repeat' with_reducible first|refine And.intro ?_ ?_|intro _|refine exP ?_ ?_);all_goals try omega
 ·rename_i h1 h2
  exact no (by rintro rfl;exact h2 rfl)
 ·rename_i h1 h2
  have hlen:a.rds.length=b.rds.length:=by omega
  refine a0l (fun k:Nat=>St.of [(2,.ptr 2 0),(3,.ptr 3 0),(5,i64 k)] [(2,.box (cpC 0 a)),(3,.box (cpC 0 b))]) (fun k=>k≤a.rds.length∧a.rds.take k=b.rds.take k) (fun k=>a.rds.length - k) 0 (by simp) (a2a [(2,some 2),(3,some 3)]) ?_
  rintro k ⟨hk,hall⟩
  refine a0e _ _ _ ?_;simp only [go_sem,hG,hOw]
  (repeat' with_reducible first|refine And.intro ?_ ?_|intro _|refine exP ?_ ?_);all_goals try omega
  ·rename_i hlt
   have hkl:k < a.rds.length:=by omega
   have hkm:k < b.rds.length:=by omega
   refine a0s mixed (by kernel_rfl) ?_
   simp only [go_sem,hG,hOw]
   (repeat' with_reducible first|refine And.intro ?_ ?_|intro _|refine exP ?_ ?_);all_goals try omega
   ·rename_i h
    exact no (by rintro rfl;simp at h)
   ·rename_i h
    have e:a.rds[k]=b.rds[k]:=by
     simp only [Bool.and_eq_true,decide_eq_true_eq] at h
     exact f8x h.1 h.2.1 h.2.2.1 h.2.2.2.1 (by first|exact h.2.2.2.2|exact h.2.2.2.2.1)
    exact ⟨k+1,⟨by omega,a9k hall hkl hkm e⟩,by omega,a2a [(2,some 2),(3,some 3)]⟩
  ·rename_i hge
   rw [a1c hk hge,a1c (by omega) (by omega)] at hall
   have:a=b:=by cases a;cases b;simp_all
   rw [decide_eq_true this]
 ·rename_i h1
  exact no (by rintro rfl;exact h1 rfl)
theorem d8a (a b:Rd):a0o Tryz.prog 79 [.agg [i64 a.ch,i64 a.ln,i64 a.wd],.agg [i64 b.ch,i64 b.ln,i64 b.wd]] (fun _=>bl (b3e a b)):=by
 refine a0b (ow:=fun _=>false) Tryz.func79 Tryz.ntmps79 rfl rfl fun G hG hOw hNm hB=>?_;simp only [go_sem,hG,hOw]
 unfold b3e
 (repeat' with_reducible first|refine And.intro ?_ ?_|intro _|refine exP ?_ ?_);all_goals try omega
 all_goals simp_all [bl]
theorem e3i (t:List Ch) (ht:d4j t) (a b:Int) (w:Int) (l:List ByteArray) (h:a4z t a b=some l):a0o Tryz.prog 143 [txE 0 t,.agg [i64 a,i64 b,i64 w]] (fun _=>.tup [a0n 0 l,bl true]):=by
 obtain ⟨ht1,ht2⟩:=ht
 unfold a4z at h
 split at h
 ·rename_i hab
  obtain ⟨ha,hb⟩:=hab
  obtain ⟨a,rfl⟩:=Int.eq_ofNat_of_zero_le ha
  obtain ⟨b,rfl⟩:=Int.eq_ofNat_of_zero_le hb
  simp only [Int.toNat_natCast,Option.bind_eq_some_iff] at h
  obtain ⟨c,hc,hl⟩:=h
  obtain ⟨hat,rfl⟩:=List.getElem?_eq_some_iff.1 hc
  obtain ⟨hbl,rfl⟩:=List.getElem?_eq_some_iff.1 hl
  have ht3:=(ht2 _ (List.getElem_mem hat)).1
  have e1:inB (a:Int) 0 ((t.length:Int) - 1)=true:=by simp [inB];omega
  have e2:inB (b:Int) 0 ((t[a].lines.length:Int) - 1)=true:=by simp [inB];omega
  refine a0b (ow:=fun _=>false) Tryz.func143 Tryz.ntmps143 rfl rfl fun G hG hOw hNm hB=>?_;simp only [go_sem,hG,hOw]
  refine a0s mixed (by kernel_rfl) ?_
  simp only [go_sem,hG,hOw]
  (repeat' with_reducible first|refine And.intro ?_ ?_|intro _|refine exP ?_ ?_);all_goals try omega
  refine ⟨_,a0d (a2f a 0 ((t.length:Int) - 1)),?_⟩
  simp (maxSteps:=2000000) only [go_sem,hG,hOw,e1]
  (repeat' with_reducible first|refine And.intro ?_ ?_|intro _|refine exP ?_ ?_);all_goals try omega
  refine ⟨_,a0d (a2f b 0 ((t[a].lines.length:Int) - 1)),?_⟩
  simp (maxSteps:=2000000) only [go_sem,hG,hOw,e2]
  (repeat' with_reducible first|refine And.intro ?_ ?_|intro _|refine exP ?_ ?_);all_goals try omega
  refine a0s mixed (by kernel_rfl) ?_
  simp only [go_sem,hG,hOw]
  (repeat' with_reducible first|refine And.intro ?_ ?_|intro _|refine exP ?_ ?_);all_goals try omega
 ·cases h
theorem e4m (t:List Ch) (ht:d4j t) (a b:Int) (w:Int) (h:a4z t a b=none):a0o Tryz.prog 143 [txE 0 t,.agg [i64 a,i64 b,i64 w]] (fun _=>.tup [a0n 0 [],bl false]):=by
 obtain ⟨ht1,ht2⟩:=ht
 refine a0b (ow:=fun _=>false) Tryz.func143 Tryz.ntmps143 rfl rfl fun G hG hOw hNm hB=>?_;simp only [go_sem,hG,hOw]
 refine a0s mixed (by kernel_rfl) ?_
 simp only [go_sem,hG,hOw]
 (repeat' with_reducible first|refine And.intro ?_ ?_|intro _|refine exP ?_ ?_);all_goals try omega
 refine ⟨_,a0d (a2f a 0 ((t.length:Int) - 1)),?_⟩
 cases e1:inB a 0 ((t.length:Int) - 1) with
 |false =>
  simp only [go_sem,hG,hOw]
  (repeat' with_reducible first|refine And.intro ?_ ?_|intro _|refine exP ?_ ?_);all_goals try omega
  exact Subs.tup (.cons (.nil _ _) (.cons (.refl _) .nil))
 |true =>
  have ha:0≤a∧a≤(t.length:Int) - 1:=by simpa [inB] using e1
  obtain ⟨ha0,ha1⟩:=ha
  obtain ⟨a,rfl⟩:=Int.eq_ofNat_of_zero_le ha0
  have hat:a < t.length:=by omega
  have ht3:=(ht2 _ (List.getElem_mem hat)).1
  have e2:inB b 0 ((t[a].lines.length:Int) - 1)=false:=by
   cases e2:inB b 0 ((t[a].lines.length:Int) - 1) with
   |false=>rfl
   |true =>
    exfalso
    have hb:0≤b∧b≤(t[a].lines.length:Int) - 1:=by simpa [inB] using e2
    obtain ⟨b,rfl⟩:=Int.eq_ofNat_of_zero_le hb.1
    have hbl:b < t[a].lines.length:=by omega
    simp [a4z,hat,hbl] at h
  simp only [go_sem,hG,hOw]
  (repeat' with_reducible first|refine And.intro ?_ ?_|intro _|refine exP ?_ ?_);all_goals try omega
  refine ⟨_,a0d (a2f b 0 ((t[a].lines.length:Int) - 1)),?_⟩
  simp (maxSteps:=2000000) only [go_sem,hG,hOw,e2]
  (repeat' with_reducible first|refine And.intro ?_ ?_|intro _|refine exP ?_ ?_);all_goals try omega
  exact Subs.tup (.cons (.nil _ _) (.cons (.refl _) .nil))
theorem d2z (t:List Ch) (ht:a1r t=true) (htB:d4j t) (r:Rd) (hr:r.word.size≤100000):a0o Tryz.prog 78 [txE 0 t,.agg (rdE r)] (fun _=>bl (a1i t r)):=by
 obtain ⟨ht1,ht2⟩:=b0q ht
 cases hL:a4z t r.ch r.ln with
 |none =>
  have e:a1i t r=false:=by unfold a1i;rw [hL]
  refine a0b (ow:=fun _=>false) Tryz.func78 Tryz.ntmps78 rfl rfl fun G hG hOw hNm hB=>?_;simp only [go_sem,hG,hOw]
  refine a0a (e4m t htB r.ch r.ln r.wd hL) ?_
  simp (maxSteps:=2000000) only [go_sem,hG,hOw,e]
 |some l =>
  have hll:1≤l.length∧l.length≤10:=by
   unfold a4z at hL
   split at hL
   ·simp only [Option.bind_eq_some_iff] at hL
    obtain ⟨cc,hc,hl⟩:=hL
    obtain ⟨hat,rfl⟩:=List.getElem?_eq_some_iff.1 hc
    obtain ⟨hbl,rfl⟩:=List.getElem?_eq_some_iff.1 hl
    exact ((ht2 _ (List.getElem_mem hat)).ln _ (List.getElem_mem hbl)).1
   ·cases hL
  have hR:a1i t r=b3y l r.wd r.kind.toNat r.word:=by unfold a1i;rw [hL]
  rw [hR]
  unfold b3y
  refine a0b (ow:=fun _=>false) Tryz.func78 Tryz.ntmps78 rfl rfl fun G hG hOw hNm hB=>?_;simp only [go_sem,hG,hOw]
  refine a0a (e3i t htB r.ch r.ln r.wd l hL) ?_
  simp only [go_sem,hG,hOw]
  (repeat' with_reducible first|refine And.intro ?_ ?_|intro _|refine exP ?_ ?_);all_goals try omega
  ·rename_i h1
   rw [if_pos h1]
   refine a0a (a2f r.wd 0 ((l.length:Int) - 1)) ?_
   cases hin:inB r.wd 0 ((l.length:Int) - 1) with
   |false=>simp only [go_sem,hG,hOw]
   |true=>simp only [go_sem,hG,hOw]
  ·rename_i h1 h2
   rw [if_neg h1,if_pos h2]
   refine a0a (a2f r.wd 0 l.length) ?_
   cases hin:inB r.wd 0 l.length with
   |false=>simp only [go_sem,hG,hOw]
   |true =>
    simp only [go_sem,hG,hOw]
    (repeat' with_reducible first|refine And.intro ?_ ?_|intro _|refine exP ?_ ?_);all_goals try omega
    refine a0a (c7p r.word (by omega)) ?_
    simp only [go_sem,hG,hOw]
  ·rename_i h1 h2 h3
   rw [if_neg h1,if_neg h2,if_pos h3]
   refine a0s mixed (by kernel_rfl) ?_
   simp only [go_sem,hG,hOw]
   (repeat' with_reducible first|refine And.intro ?_ ?_|intro _|refine exP ?_ ?_);all_goals try omega
   refine ⟨_,a0d (a2f r.wd 0 ((l.length:Int) - 1)),?_⟩
   cases hin:inB r.wd 0 ((l.length:Int) - 1) with
   |false =>
    simp only [go_sem,hG,hOw]
   |true =>
    have hin2:0≤r.wd∧r.wd≤(l.length:Int) - 1:=by simpa [inB] using hin
    obtain ⟨w,hw⟩:=Int.eq_ofNat_of_zero_le hin2.1
    have hwl:w < l.length:=by omega
    have ho:a6w l (w:Int)=l[w]:=by unfold a6w;simp [hwl]
    simp only [go_sem,hG,hOw]
    (repeat' with_reducible first|refine And.intro ?_ ?_|intro _|refine exP ?_ ?_);all_goals try omega
    refine ⟨_,a0d (c7p r.word (by omega)),?_⟩
    cases hX:a1h r.word with
    |false=>simp only [go_sem,hG,hOw]
    |true =>
     simp (maxSteps:=2000000) only [go_sem,hG,hOw,hw]
     (repeat' with_reducible first|refine And.intro ?_ ?_|intro _|refine exP ?_ ?_);all_goals try omega
     rw [ho]
     simp
  ·rename_i h1 h2 h3
   rw [if_neg h1,if_neg h2,if_neg h3]
open Go Pm
set_option maxHeartbeats 4000000
set_option maxRecDepth 100000
def foD (rs:List Rd) (k n w:Int) (o:ByteArray) (i:Nat):List ByteArray×ByteArray:=(rs.take i).foldl (a8f k n w) ([],o)
theorem e8a (rs:List Rd) (k n w:Int) (o:ByteArray):foD rs k n w o 0=([],o):=rfl
theorem d0y (rs:List Rd) (k n w:Int) (o:ByteArray) (i:Nat) (hi:i < rs.length):foD rs k n w o (i+1)=a8f k n w (foD rs k n w o i) rs[i]:=by
 unfold foD
 rw [List.take_add_one,List.getElem?_eq_getElem hi,List.foldl_append]
 rfl
theorem b4z (rs:List Rd) (k n w:Int) (o:ByteArray):∀ i,(foD rs k n w o i).1.length≤i
 |0=>by simp [foD]
 |i+1=>by
  by_cases hi:i < rs.length
  ·rw [d0y rs k n w o i hi]
   have:=b4z rs k n w o i
   unfold a8f
   split
   ·split
    ·simp;omega
    ·simp only;omega
   ·omega
  ·have e:foD rs k n w o (i+1)=foD rs k n w o i:=by
    unfold foD;rw [List.take_of_length_le (by omega),List.take_of_length_le (by omega)]
   rw [e]
   have:=b4z rs k n w o i
   omega
def dF (rs:List Rd) (k n:Int) (l:List ByteArray) (w:Nat):List ByteArray:=(List.range w).flatMap (e3z rs k n l)
theorem f4i (rs:List Rd) (k n:Int) (l:List ByteArray):dF rs k n l 0=[]:=rfl
theorem b6z (rs:List Rd) (k n:Int) (l:List ByteArray) (w:Nat):dF rs k n l (w+1)=dF rs k n l w++e3z rs k n l w:=by
 unfold dF;rw [List.range_succ,List.flatMap_append];simp
theorem e5l (rs:List Rd) (k n:Int) (l:List ByteArray) (w:Nat):(e3z rs k n l w).length≤rs.length+1:=by
 have:=b4z rs k n w (a6w l w) rs.length
 unfold foD at this
 rw [List.take_length] at this
 unfold e3z e3x
 split
 ·omega
 ·simp;omega
theorem d5u (rs:List Rd) (k n:Int) (l:List ByteArray) (hn:rs.length≤1000):∀ w,(dF rs k n l w).length≤w * 1001
 |0=>by simp [dF]
 |w+1=>by
  rw [b6z,List.length_append]
  have h1:=d5u rs k n l hn w
  have h2:=e5l rs k n l w
  omega
attribute [go_sem] f4i e8a
theorem c5a (c:Cp) (hn:c.rds.length≤1000) (k j w:Nat) (l U:List ByteArray) (hU:U.length≤1100000) (o:ByteArray) {G:Gh} {Q:Exit→St→Prop} (hG:G.n=86) (hOw:G.ow=fun _=>false) (hNm:G.nm=[]) :
  SemC Tryz.prog G (a9x 2 Tryz.f80.body) (St.of [(2,i64 k),(3,i64 j),(5,.ptr 5 0),(10,a0n 0 l),(11,i64 w),(12,str o),(9,.own 9 0 U.length 1),(13,i64 0)] [(5,.box (cpC 0 c)),(9,.arr 9 1 (U.map a1t))])
   (c6a G 2 (fun _:Unit=>St.of [(2,i64 k),(3,i64 j),(5,.ptr 5 0),(10,a0n 0 l),(11,i64 w),(12,str (foD c.rds k j w o c.rds.length).2),(9,.own 9 0 (U++(foD c.rds k j w o c.rds.length).1).length 1)] [(5,.box (cpC 0 c)),(9,.arr 9 1 ((U++(foD c.rds k j w o c.rds.length).1).map a1t))]) (fun _=>True) Q):=by
 unfold Tryz.f80
 simp only [c6d,a9x,rgO,bkO,a4k,Option.bind_some,Option.getD_some,reduceIte,Nat.reduceEqDiff,reduceCtorEq]
 have e0:U++([]:List ByteArray)=U:=List.append_nil U
 refine a0l (fun i:Nat=>St.of [(2,i64 k),(3,i64 j),(5,.ptr 5 0),(10,a0n 0 l),(11,i64 w),(12,str (foD c.rds k j w o i).2),(9,.own 9 0 (U++(foD c.rds k j w o i).1).length 1),(13,i64 i)] [(5,.box (cpC 0 c)),(9,.arr 9 1 ((U++(foD c.rds k j w o i).1).map a1t))]) (fun i=>i≤c.rds.length) (fun i=>c.rds.length - i) 0 (by simp) (a0y [(5,some 5),(9,some 9)] (by (simp only [e0,go_sem])<;>simp [e0]) (by (simp only [e0,go_sem,a1f,a0q,a0f,a1l])<;>simp [e0]) (by simp [a2l,apart]) (by simp [a0h,usH]) (by simp [hNm,lkR,a0w])) ?_
 rintro i hi
 have hfl:=b4z c.rds k j w o i
 have hUl:(U++(foD c.rds k j w o i).1).length≤1102000:=by rw [List.length_append];omega
 by_cases hil:i < c.rds.length
 ·have hlt:decide ((i:Int) < c.rds.length)=true:=decide_eq_true (by omega)
  have hsu:=d0y c.rds k j w o i hil
  obtain ⟨V0,hV⟩:∃ V0,V0=U++(foD c.rds k j w o i).1:=⟨_,rfl⟩
  rw [← hV] at hUl ⊢
  cases hat:atW k j w c.rds[i] with
  |false =>
   have hq:foD c.rds k j w o (i+1)=foD c.rds k j w o i:=by rw [hsu];simp [a8f,hat]
   have hq:U++(foD c.rds k j w o (i+1)).1=V0∧(foD c.rds k j w o (i+1)).2=(foD c.rds k j w o i).2:=by rw [hq,hV];exact ⟨rfl,rfl⟩
   obtain ⟨hq1,hq2⟩:=hq
   have hq3:V0.length=U.length+(foD c.rds k j w o (i+1)).1.length:=by rw [← hq1,List.length_append]
   simp only [atW,Bool.and_eq_false_iff,decide_eq_false_iff_not] at hat
   by_cases h1:c.rds[i].ch=k
   ·by_cases h2:c.rds[i].ln=j
    ·have h3:¬ c.rds[i].wd=w:=fun h=>by rcases hat with (h'|h')|h'<;>exact h' (by assumption)
     refine a0e _ _ _ ?_;simp (maxSteps:=2000000) only [go_sem,hG,hOw,hlt,decide_eq_true h1,decide_eq_true h2,decide_eq_false h3]
     (repeat' with_reducible first|refine And.intro ?_ ?_|intro _|refine exP ?_ ?_);all_goals try omega
     refine ⟨i+1,by omega,by omega,?_⟩
     exact a0y [(5,some 5),(9,some 9)] (by (simp only [hq1,hq2,hq3,go_sem])<;>simp [hq1,hq2,hq3]) (by (simp only [hq1,hq2,hq3,go_sem,a1f,a0q,a0f,a1l])<;>simp [hq1,hq2,hq3]) (by simp [a2l,apart]) (by simp [a0h,usH]) (by simp [hNm,lkR,a0w])
    ·refine a0e _ _ _ ?_;simp (maxSteps:=2000000) only [go_sem,hG,hOw,hlt,decide_eq_true h1,decide_eq_false h2]
     (repeat' with_reducible first|refine And.intro ?_ ?_|intro _|refine exP ?_ ?_);all_goals try omega
     refine ⟨i+1,by omega,by omega,?_⟩
     exact a0y [(5,some 5),(9,some 9)] (by (simp only [hq1,hq2,hq3,go_sem])<;>simp [hq1,hq2,hq3]) (by (simp only [hq1,hq2,hq3,go_sem,a1f,a0q,a0f,a1l])<;>simp [hq1,hq2,hq3]) (by simp [a2l,apart]) (by simp [a0h,usH]) (by simp [hNm,lkR,a0w])
   ·refine a0e _ _ _ ?_;simp (maxSteps:=2000000) only [go_sem,hG,hOw,hlt,decide_eq_false h1]
    (repeat' with_reducible first|refine And.intro ?_ ?_|intro _|refine exP ?_ ?_);all_goals try omega
    refine ⟨i+1,by omega,by omega,?_⟩
    exact a0y [(5,some 5),(9,some 9)] (by (simp only [hq1,hq2,hq3,go_sem])<;>simp [hq1,hq2,hq3]) (by (simp only [hq1,hq2,hq3,go_sem,a1f,a0q,a0f,a1l])<;>simp [hq1,hq2,hq3]) (by simp [a2l,apart]) (by simp [a0h,usH]) (by simp [hNm,lkR,a0w])
  |true =>
   have hat':=hat
   simp only [atW,Bool.and_eq_true,decide_eq_true_eq] at hat'
   obtain ⟨⟨h1,h2⟩,h3⟩:=hat'
   by_cases h4:(c.rds[i].kind.toNat:Int)=2
   ·have hq:U++(foD c.rds k j w o (i+1)).1=V0++[c.rds[i].word]∧(foD c.rds k j w o (i+1)).2=(foD c.rds k j w o i).2:=by
     rw [hsu,hV]
     unfold a8f
     rw [if_pos hat,if_pos h4]
     exact ⟨by simp,rfl⟩
    obtain ⟨hq1,hq2⟩:=hq
    have hq3:V0.length+1=U.length+(foD c.rds k j w o (i+1)).1.length:=by
     have:=congrArg List.length hq1
     simp only [List.length_append,List.length_cons,List.length_nil] at this
     omega
    refine a0e _ _ _ ?_;simp (maxSteps:=2000000) only [go_sem,hG,hOw,hlt,decide_eq_true h1,decide_eq_true h2,decide_eq_true h3,decide_eq_true h4]
    (repeat' with_reducible first|refine And.intro ?_ ?_|intro _|refine exP ?_ ?_);all_goals try omega
    refine ⟨i+1,by omega,by omega,?_⟩
    exact a0y [(5,some 5),(9,some 76)] (by (simp only [hq1,hq2,hq3,a1t,go_sem])<;>simp [hq1,hq2,hq3,a1t]) (by (simp only [hq1,hq2,hq3,a1t,go_sem,a1f,a0q,a0f,a1l])<;>simp [hq1,hq2,hq3,a1t]) (by simp [a2l,apart]) (by simp [a0h,usH]) (by simp [hNm,lkR,a0w])
   ·have hq:U++(foD c.rds k j w o (i+1)).1=V0∧(foD c.rds k j w o (i+1)).2=c.rds[i].word:=by
     rw [hsu,hV]
     unfold a8f
     rw [if_pos hat,if_neg h4]
     exact ⟨rfl,rfl⟩
    obtain ⟨hq1,hq2⟩:=hq
    have hq3:V0.length=U.length+(foD c.rds k j w o (i+1)).1.length:=by rw [← hq1,List.length_append]
    refine a0e _ _ _ ?_;simp (maxSteps:=2000000) only [go_sem,hG,hOw,hlt,decide_eq_true h1,decide_eq_true h2,decide_eq_true h3,decide_eq_false h4]
    (repeat' with_reducible first|refine And.intro ?_ ?_|intro _|refine exP ?_ ?_);all_goals try omega
    refine ⟨i+1,by omega,by omega,?_⟩
    exact a0y [(5,some 5),(9,some 9)] (by (simp only [hq1,hq2,hq3,go_sem])<;>simp [hq1,hq2,hq3]) (by (simp only [hq1,hq2,hq3,go_sem,a1f,a0q,a0f,a1l])<;>simp [hq1,hq2,hq3]) (by simp [a2l,apart]) (by simp [a0h,usH]) (by simp [hNm,lkR,a0w])
 ·have hi2:i=c.rds.length:=by omega
  subst hi2
  refine a0e _ _ _ ?_;simp only [go_sem,hG,hOw]
  (repeat' with_reducible first|refine And.intro ?_ ?_|intro _|refine exP ?_ ?_);all_goals try omega
  exact ⟨(),a2a [(5,some 5),(9,some 9)]⟩
theorem e7l (t:List Ch) (c:Cp) (hn:c.rds.length≤1000) (k j:Nat) (hk:k < t.length) (hj:j < t[k].lines.length) (hl:t[k].lines[j].length≤1000):a0o Tryz.prog 80 [txE 0 t,cpE 0 c,i64 k,i64 j] (fun n=>a0n n (b8a c.rds k j t[k].lines[j])):=by
 refine a0b (ow:=fun _=>false) Tryz.func80 Tryz.ntmps80 rfl rfl fun G hG hOw hNm hB=>?_;simp only [go_sem,hG,hOw]
 obtain ⟨l,hl'⟩:∃ l,l=t[k].lines[j]:=⟨_,rfl⟩
 rw [← hl'] at hl ⊢
 have hR:b8a c.rds k j l=dF c.rds k j l (l.length+1):=rfl
 rw [hR]
 (repeat' with_reducible first|refine And.intro ?_ ?_|intro _|refine exP ?_ ?_);all_goals try omega
 refine a0l (fun w:Nat=>St.of [(2,i64 k),(3,i64 j),(5,.ptr 5 0),(10,a0n 0 l),(9,.own 9 0 (dF c.rds k j l w).length 1),(11,i64 w)] [(5,.box (cpC 0 c)),(9,.arr 9 1 ((dF c.rds k j l w).map a1t))]) (fun w=>w≤l.length+1) (fun w=>l.length+1 - w) 0 (by simp) (a0y [(5,some 5),(9,none)] (by (simp only [hl',go_sem])<;>simp [hl']) (by (simp only [hl',go_sem,a1f,a0q,a0f,a1l])<;>simp [hl']) (by simp [a2l,apart]) (by simp [a0h,usH]) (by simp [hNm,lkR,a0w])) ?_
 rintro w hw
 have hdl:=d5u c.rds k j l hn w
 have hdl2:w * 1001≤1001 * 1001:=Nat.mul_le_mul (by omega) (Nat.le_refl _)
 by_cases hwl:w≤l.length
 ·have hle:(w:Int)≤l.length:=by omega
  have hfl:=b4z c.rds k j w (a6w l w) c.rds.length
  have hUl:(dF c.rds k j l w++(foD c.rds k j w (a6w l w) c.rds.length).1).length≤1102000:=by rw [List.length_append];omega
  by_cases hw3:w < l.length
  ·have hlt:(w:Int) < l.length:=by omega
   have ho:a6w l w=l[w]:=by unfold a6w;simp [hw3]
   refine a0e _ _ _ ?_;simp (maxSteps:=2000000) only [go_sem,hG,hOw,decide_eq_true hle,decide_eq_true hlt]
   (repeat' with_reducible first|refine And.intro ?_ ?_|intro _|refine exP ?_ ?_);all_goals try omega
   refine a2o (fun _:Unit=>St.of [(2,i64 k),(3,i64 j),(5,.ptr 5 0),(10,a0n 0 l),(11,i64 w),(12,str (foD c.rds k j w (a6w l w) c.rds.length).2),(9,.own 9 0 ((dF c.rds k j l w)++(foD c.rds k j w (a6w l w) c.rds.length).1).length 1)] [(5,.box (cpC 0 c)),(9,.arr 9 1 (((dF c.rds k j l w)++(foD c.rds k j w (a6w l w) c.rds.length).1).map a1t))]) (fun _=>True) ?_ ?_
   ·refine a4l (s':=St.of [(2,i64 k),(3,i64 j),(5,.ptr 5 0),(10,a0n 0 l),(11,i64 w),(12,str (a6w l w)),(9,.own 9 0 (dF c.rds k j l w).length 1),(13,i64 0)] [(5,.box (cpC 0 c)),(9,.arr 9 1 ((dF c.rds k j l w).map a1t))]) (a0y [(5,some 5),(9,some 9)] (by (simp only [ho,go_sem])<;>simp [ho]) (by (simp only [ho,go_sem,a1f,a0q,a0f,a1l])<;>simp [ho]) (by simp [a2l,apart]) (by simp [a0h,usH]) (by simp [hNm,lkR,a0w])) ?_
    exact a4f (by kernel_rfl) (c5a c hn k j w l (dF c.rds k j l w) (by omega) (a6w l w) hG hOw hNm)
   rintro _ _
   by_cases hz:(foD c.rds k j w (a6w l w) c.rds.length).2=⟨#[]⟩
   ·have hq:dF c.rds k j l (w+1)=dF c.rds k j l w++(foD c.rds k j w (a6w l w) c.rds.length).1:=by
     rw [b6z];unfold e3z e3x;unfold foD at hz ⊢;rw [List.take_length] at hz ⊢;rw [if_pos hz]
    simp (maxSteps:=2000000) only [go_sem,hG,hOw,hz]
    (repeat' with_reducible first|refine And.intro ?_ ?_|intro _|refine exP ?_ ?_);all_goals try omega
    refine ⟨w+1,by omega,by omega,?_⟩
    exact a0y [(5,some 5),(9,some 9)] (by (simp only [hq,go_sem])<;>simp [hq]) (by (simp only [hq,go_sem,a1f,a0q,a0f,a1l])<;>simp [hq]) (by simp [a2l,apart]) (by simp [a0h,usH]) (by simp [hNm,lkR,a0w])
   ·have hq:dF c.rds k j l (w+1)=(dF c.rds k j l w++(foD c.rds k j w (a6w l w) c.rds.length).1)++[(foD c.rds k j w (a6w l w) c.rds.length).2]:=by
     rw [b6z,List.append_assoc];unfold e3z e3x;unfold foD at hz ⊢;rw [List.take_length] at hz ⊢;rw [if_neg hz]
    simp (maxSteps:=2000000) only [go_sem,hG,hOw,decide_eq_false hz]
    (repeat' with_reducible first|refine And.intro ?_ ?_|intro _|refine exP ?_ ?_);all_goals try omega
    refine ⟨w+1,by omega,by omega,?_⟩
    exact a0y [(5,some 5),(9,some 84)] (by (simp only [hq,a1t,go_sem])<;>simp [hq,a1t]) (by (simp only [hq,a1t,go_sem,a1f,a0q,a0f,a1l])<;>simp [hq,a1t]) (by simp [a2l,apart]) (by simp [a0h,usH]) (by simp [hNm,lkR,a0w])
  ·have hlt:¬ (w:Int) < l.length:=by omega
   have ho:a6w l w=⟨#[]⟩:=by
    have:w=l.length:=by omega
    subst this
    unfold a6w;simp
   refine a0e _ _ _ ?_;simp (maxSteps:=2000000) only [go_sem,hG,hOw,decide_eq_true hle,decide_eq_false hlt]
   (repeat' with_reducible first|refine And.intro ?_ ?_|intro _|refine exP ?_ ?_);all_goals try omega
   refine a2o (fun _:Unit=>St.of [(2,i64 k),(3,i64 j),(5,.ptr 5 0),(10,a0n 0 l),(11,i64 w),(12,str (foD c.rds k j w (a6w l w) c.rds.length).2),(9,.own 9 0 ((dF c.rds k j l w)++(foD c.rds k j w (a6w l w) c.rds.length).1).length 1)] [(5,.box (cpC 0 c)),(9,.arr 9 1 (((dF c.rds k j l w)++(foD c.rds k j w (a6w l w) c.rds.length).1).map a1t))]) (fun _=>True) ?_ ?_
   ·refine a4l (s':=St.of [(2,i64 k),(3,i64 j),(5,.ptr 5 0),(10,a0n 0 l),(11,i64 w),(12,str (a6w l w)),(9,.own 9 0 (dF c.rds k j l w).length 1),(13,i64 0)] [(5,.box (cpC 0 c)),(9,.arr 9 1 ((dF c.rds k j l w).map a1t))]) (a0y [(5,some 5),(9,some 9)] (by (simp only [ho,go_sem])<;>simp [ho]) (by (simp only [ho,go_sem,a1f,a0q,a0f,a1l])<;>simp [ho]) (by simp [a2l,apart]) (by simp [a0h,usH]) (by simp [hNm,lkR,a0w])) ?_
    exact a4f (by kernel_rfl) (c5a c hn k j w l (dF c.rds k j l w) (by omega) (a6w l w) hG hOw hNm)
   rintro _ _
   by_cases hz:(foD c.rds k j w (a6w l w) c.rds.length).2=⟨#[]⟩
   ·have hq:dF c.rds k j l (w+1)=dF c.rds k j l w++(foD c.rds k j w (a6w l w) c.rds.length).1:=by
     rw [b6z];unfold e3z e3x;unfold foD at hz ⊢;rw [List.take_length] at hz ⊢;rw [if_pos hz]
    simp (maxSteps:=2000000) only [go_sem,hG,hOw,hz]
    (repeat' with_reducible first|refine And.intro ?_ ?_|intro _|refine exP ?_ ?_);all_goals try omega
    refine ⟨w+1,by omega,by omega,?_⟩
    exact a0y [(5,some 5),(9,some 9)] (by (simp only [hq,go_sem])<;>simp [hq]) (by (simp only [hq,go_sem,a1f,a0q,a0f,a1l])<;>simp [hq]) (by simp [a2l,apart]) (by simp [a0h,usH]) (by simp [hNm,lkR,a0w])
   ·have hq:dF c.rds k j l (w+1)=(dF c.rds k j l w++(foD c.rds k j w (a6w l w) c.rds.length).1)++[(foD c.rds k j w (a6w l w) c.rds.length).2]:=by
     rw [b6z,List.append_assoc];unfold e3z e3x;unfold foD at hz ⊢;rw [List.take_length] at hz ⊢;rw [if_neg hz]
    simp (maxSteps:=2000000) only [go_sem,hG,hOw,decide_eq_false hz]
    (repeat' with_reducible first|refine And.intro ?_ ?_|intro _|refine exP ?_ ?_);all_goals try omega
    refine ⟨w+1,by omega,by omega,?_⟩
    exact a0y [(5,some 5),(9,some 84)] (by (simp only [hq,a1t,go_sem])<;>simp [hq,a1t]) (by (simp only [hq,a1t,go_sem,a1f,a0q,a0f,a1l])<;>simp [hq,a1t]) (by simp [a2l,apart]) (by simp [a0h,usH]) (by simp [hNm,lkR,a0w])
 ·have hw2:w=l.length+1:=by omega
  subst hw2
  have hle:¬ ((l.length+1:Nat):Int)≤l.length:=by omega
  refine a0e _ _ _ ?_;simp (maxSteps:=2000000) only [go_sem,hG,hOw,decide_eq_false hle]
open Go Pm
set_option maxHeartbeats 4000000
set_option maxRecDepth 100000
theorem f1n (t:List Ch) (c:Cp) (hl:c.rds.length≤20) (k:Nat) (hkl:k < c.rds.length) (hRt:a1i t c.rds[k]=true) {G:Gh} {Q:Exit→St→Prop} (hG:G.n=97) (hOw:G.ow=fun _=>false) (hNm:G.nm=[]) (hbad:b4s t c.rds=false→∀ s',s'.get 4=bl false→Q .ret s')
  (hQ:∀ s,c0q t c.rds k=true→Ent G s (St.of [(2,.ptr 2 0),(3,.ptr 3 0),(5,i64 k)] [(2,.box [chs 0 t]),(3,.box (cpC 0 c))])→Q .normal s) :
  SemL Tryz.prog G ((a4x (a9x 1 Tryz.f19.body)).drop 3) (St.of [(2,.ptr 2 0),(3,.ptr 3 0),(5,i64 k),(6,.ptr 6 0)] [(2,.box [chs 0 t]),(3,.box (cpC 0 c)),(6,.box (rdE c.rds[k]))]) Q:=by
 unfold Tryz.f19
 simp only [c6d,a9x,rgO,bkO,a4k,Option.bind_some,Option.getD_some,reduceIte,Nat.reduceEqDiff,reduceCtorEq]
 simp only [a4x,List.cons_append,List.nil_append,List.append_assoc,List.take_succ_cons,List.take_zero,List.take_nil,List.drop_succ_cons,List.drop_zero]
 by_cases hk0:k=0
 ·have hz:c0q t c.rds k=true:=by rw [b2q t c.rds k hkl,hRt,decide_eq_true hk0];rfl
  have hk0':¬ (0:Int) < ((k:Nat):Int):=by omega
  refine a1a 3 _ _ ?_
  simp only [go_sem,hG,hOw]
  refine a0s mixed (by kernel_rfl) ?_
  simp (maxSteps:=2000000) only [go_sem,hG,hOw,decide_eq_false hk0']
  (repeat' with_reducible first|refine And.intro ?_ ?_|intro _|refine exP ?_ ?_);all_goals try omega
  exact hQ _ hz (a2a [(2,some 2),(3,some 3)])
 ·have hk0':(0:Int) < ((k:Nat):Int):=by omega
  have hk1:((k:Int) - 1).toNat=k - 1:=by omega
  have hgood:b0g c.rds[k - 1] c.rds[k]=true→c0q t c.rds k=true:=fun h=>by
   rw [b2q t c.rds k hkl,hRt,show c.rds.getD (k - 1) rd0=c.rds[k - 1] by simp [show k - 1 < c.rds.length by omega],h]
   simp
  have hpe:b0g c.rds[k - 1] c.rds[k]=false→b0g (c.rds.getD (k - 1) rd0) c.rds[k]=false:=fun h=>by
   rw [show c.rds.getD (k - 1) rd0=c.rds[k - 1] by simp [show k - 1 < c.rds.length by omega]];exact h
  refine a1a 3 _ _ ?_
  simp only [go_sem,hG,hOw]
  refine a0s mixed (by kernel_rfl) ?_
  simp (maxSteps:=2000000) only [go_sem,hG,hOw,decide_eq_true hk0',hk1]
  (repeat' with_reducible first|refine And.intro ?_ ?_|intro _|refine exP ?_ ?_);all_goals try omega
  refine ⟨_,a0d (d8a c.rds[k] c.rds[k - 1]),?_⟩
  cases hb:b3e c.rds[k] c.rds[k - 1] with
  |true =>
   simp (maxSteps:=2000000) only [go_sem,hG,hOw,hk1]
   (repeat' with_reducible first|refine And.intro ?_ ?_|intro _|refine exP ?_ ?_);all_goals try omega
   exact hbad (b6h hkl hk0 (hpe (by unfold b0g;rw [hb];rfl))) _ (by simp [go_sem])
  |false =>
   have hpr:b0g c.rds[k - 1] c.rds[k]=!((decide (c.rds[k].ch=c.rds[k - 1].ch) && (decide (c.rds[k].ln=c.rds[k - 1].ln) && decide (c.rds[k].wd=c.rds[k - 1].wd))) && decide ((c.rds[k - 1].kind.toNat:Int)≠2)):=by
    unfold b0g a5x
    rw [hb,Bool.and_assoc (decide (c.rds[k].ch=c.rds[k - 1].ch))]
    rfl
   simp (maxSteps:=2000000) only [go_sem,hG,hOw,hk1]
   (repeat' with_reducible first|refine And.intro ?_ ?_|intro _|refine exP ?_ ?_);all_goals try omega
   ·rename_i e h2
    exact hbad (b6h hkl hk0 (hpe (by rw [hpr,e,decide_eq_true h2];rfl))) _ (by simp [go_sem])
   ·rename_i e h2
    exact hQ _ (hgood (by rw [hpr,e,decide_eq_false (by omega:¬ ((c.rds[k - 1].kind.toNat:Int)≠2))];rfl)) (a2a [(2,some 2),(3,some 3)])
   ·rename_i e
    exact hQ _ (hgood (by rw [hpr,e];rfl)) (a2a [(2,some 2),(3,some 3)])
theorem f6e (t:List Ch) (ht:a1r t=true) (htB:d4j t) (c:Cp) (hl:c.rds.length≤20) (hw:∀ r ∈ c.rds,r.word.size≤100000) {G:Gh} {Q:Exit→St→Prop} (hG:G.n=97) (hOw:G.ow=fun _=>false) (hNm:G.nm=[]) (hbad:b4s t c.rds=false→∀ s',s'.get 4=bl false→Q .ret s') :
  SemC Tryz.prog G (a9x 0 Tryz.f19.body) (St.of [(2,.ptr 2 0),(3,.ptr 3 0),(5,i64 0)] [(2,.box [chs 0 t]),(3,.box (cpC 0 c))])
   (c6a G 0 (fun _:Unit=>St.of [(2,.ptr 2 0),(3,.ptr 3 0)] [(2,.box [chs 0 t]),(3,.box (cpC 0 c))]) (fun _=>b4s t c.rds=true) Q):=by
 unfold Tryz.f19
 simp only [c6d,a9x,rgO,bkO,a4k,Option.bind_some,Option.getD_some,reduceIte,Nat.reduceEqDiff,reduceCtorEq]
 refine a0l (fun k:Nat=>St.of [(2,.ptr 2 0),(3,.ptr 3 0),(5,i64 k)] [(2,.box [chs 0 t]),(3,.box (cpC 0 c))]) (fun k=>k≤c.rds.length∧∀ i,i < k→c0q t c.rds i=true) (fun k=>c.rds.length - k) 0 (by simp) (a2a [(2,some 2),(3,some 3)]) ?_
 rintro k ⟨hk,hall⟩
 by_cases hkl:k < c.rds.length
 ·have hlt:(k:Int) < c.rds.length:=by omega
  refine SemL.semC ?_
  simp only [a4x,List.cons_append,List.nil_append,List.append_assoc,List.take_succ_cons,List.take_zero,List.take_nil,List.drop_succ_cons,List.drop_zero]
  refine a1a 2 _ _ ?_
  simp (maxSteps:=2000000) only [go_sem,hG,hOw,hlt]
  (repeat' with_reducible first|refine And.intro ?_ ?_|intro _|refine exP ?_ ?_);all_goals try omega
  refine c9n ?_
  refine b5g 3 (fun _:Unit=>St.of [(2,.ptr 2 0),(3,.ptr 3 0),(5,i64 k),(6,.ptr 6 0)] [(2,.box [chs 0 t]),(3,.box (cpC 0 c)),(6,.box (rdE c.rds[k]))]) (fun _=>a1i t c.rds[k]=true) ?_ ?_
  ·refine a1a 4 _ _ ?_
   simp only [go_sem,hG,hOw]
   (repeat' with_reducible first|refine And.intro ?_ ?_|intro _|refine exP ?_ ?_);all_goals try omega
   refine a0a (d2z t ht htB c.rds[k] (hw _ (List.getElem_mem hkl))) ?_
   cases hR:a1i t c.rds[k] with
   |false =>
    simp only [go_sem,hG,hOw]
    (repeat' with_reducible first|refine And.intro ?_ ?_|intro _|refine exP ?_ ?_);all_goals try omega
    exact hbad (a5b hkl hR) _ (by simp [go_sem])
   |true =>
    simp only [go_sem,hG,hOw]
    (repeat' with_reducible first|refine And.intro ?_ ?_|intro _|refine exP ?_ ?_);all_goals try omega
    exact ⟨(),a2a [(2,some 2),(3,some 3),(6,some 6)]⟩
  rintro _ hRt
  refine b0z (l':=(a4x (a9x 1 Tryz.f19.body)).drop 3) (by kernel_rfl) ?_
  refine f1n t c hl k hkl hRt hG hOw hNm hbad ?_
  intro s hz hs
  have hz2:∀ i,i < k+1→c0q t c.rds i=true:=fun i hi=>by
   by_cases e:i=k
   ·exact e ▸ hz
   ·exact hall i (by omega)
  show SemL _ _ _ _ _
  refine a2r hs ?_
  refine a1a 2 _ _ ?_
  simp only [go_sem,hG,hOw]
  (repeat' with_reducible first|refine And.intro ?_ ?_|intro _|refine exP ?_ ?_);all_goals try omega
  exact ⟨k+1,⟨by omega,hz2⟩,by omega,a2a [(2,some 2),(3,some 3)]⟩
 ·have hk2:k=c.rds.length:=by omega
  subst hk2
  refine a0e _ _ _ ?_;simp only [go_sem,hG,hOw]
  (repeat' with_reducible first|refine And.intro ?_ ?_|intro _|refine exP ?_ ?_);all_goals try omega
  exact ⟨(),d0c hall,a2a [(2,some 2),(3,some 3)]⟩
open Go Pm
set_option maxHeartbeats 4000000
set_option maxRecDepth 100000
def lnB (rs:List Rd) (k n:Nat) (l:List ByteArray):Bool:=inB ((b8a rs k n l).length) 1 10
def f9z (c:Cp) (k:Nat) (x:Ch):Bool:=(List.range x.lines.length).all fun n=>lnB c.rds k n (x.lines.getD n [])
theorem e4x (t:List Ch) (c:Cp):a3u t c=(inB c.id 0 9999 && decide (c.rds.length≤20) && b4s t c.rds && (List.range t.length).all fun k=>f9z c k (t.getD k ⟨0,[]⟩)):=rfl
theorem d1e {n:Nat} {p:Nat→Bool} (h:∀ i,i < n→p i=true):(List.range n).all p=true:=List.all_eq_true.2 fun i hi=>h i (by simpa using hi)
theorem e9o {n i:Nat} {p:Nat→Bool} (hi:i < n) (h:p i=false):(List.range n).all p=false:=by
 cases hx:(List.range n).all p with
 |false=>rfl
 |true=>have:=List.all_eq_true.1 hx i (by simpa using hi);rw [h] at this;cases this
theorem dl (rs:List Rd) (k n:Int) (l:List ByteArray) (hn:rs.length≤1000) (hl:l.length≤10):(b8a rs k n l).length≤100000:=by
 have:=d5u rs k n l hn (l.length+1)
 have h2:(l.length+1) * 1001≤11 * 1001:=Nat.mul_le_mul (by omega) (Nat.le_refl _)
 show (dF rs k n l (l.length+1)).length≤_
 omega
theorem e7p (t:List Ch) (ht:a1r t=true) (c:Cp) (hn:c.rds.length≤1000) (hw:∀ r ∈ c.rds,r.word.size≤100000):a0o Tryz.prog 19 [txE 0 t,cpE 0 c] (fun _=>bl (a3u t c)):=by
 have htB:=b8n ht
 obtain ⟨ht1,ht2⟩:=b0q ht
 have bad:b4s t c.rds=false→a3u t c=false:=fun h=>by unfold a3u;rw [h];simp
 have bad1:inB c.id 0 9999=false→a3u t c=false:=fun h=>by unfold a3u;rw [h];simp
 have bad2:¬ c.rds.length≤20→a3u t c=false:=fun h=>by unfold a3u;rw [decide_eq_false h];simp
 refine a0b (ow:=fun _=>false) Tryz.func19 Tryz.ntmps19 rfl rfl fun G hG hOw hNm hB=>?_;simp only [go_sem,hG,hOw]
 refine a0a (a2f c.id 0 9999) ?_
 cases h1:inB c.id 0 9999 with
 |false =>
  simp (maxSteps:=2000000) only [go_sem,hG,hOw,bad1 h1]
 |true =>
  by_cases h2:c.rds.length≤20
  ·have h2':decide (20 < (c.rds.length:Int))=false:=decide_eq_false (by omega)
   simp (maxSteps:=2000000) only [go_sem,hG,hOw,h2']
   (repeat' with_reducible first|refine And.intro ?_ ?_|intro _|refine exP ?_ ?_);all_goals try omega
   refine a2o (fun _:Unit=>St.of [(2,.ptr 2 0),(3,.ptr 3 0)] [(2,.box [chs 0 t]),(3,.box (cpC 0 c))]) (fun _=>b4s t c.rds=true) ?_ ?_
   ·refine a4l (s':=St.of [(2,.ptr 2 0),(3,.ptr 3 0),(5,i64 0)] [(2,.box [chs 0 t]),(3,.box (cpC 0 c))]) (a2a [(2,some 2),(3,some 3)]) ?_
    exact a4f (by kernel_rfl) (f6e t ht htB c h2 hw hG hOw hNm fun h s' hs'=>by
     refine ⟨trivial,?_⟩
     simp only [d1h,hs',vw,bad h]
     exact Sub.refl _)
   rintro _ h3
   have hce:a3u t c=(List.range t.length).all fun k=>f9z c k (t.getD k ⟨0,[]⟩):=by rw [e4x,h1,h3,decide_eq_true h2];rfl
   simp only [go_sem,hG,hOw]
   refine a2o (fun _:Unit=>St.of [] []) (fun _=>a3u t c=true) ?_ ?_
   ·refine a0l (fun k:Nat=>St.of [(2,.ptr 2 0),(3,.ptr 3 0),(7,i64 k)] [(2,.box [chs 0 t]),(3,.box (cpC 0 c))]) (fun k=>k≤t.length∧∀ i,i < k→f9z c i (t.getD i ⟨0,[]⟩)=true) (fun k=>t.length - k) 0 (by simp) (a2a [(2,some 2),(3,some 3)]) ?_
    rintro k ⟨hk,hak⟩
    by_cases hkl:k < t.length
    ·have hlt:(k:Int) < t.length:=by omega
     have hv:=ht2 _ (List.getElem_mem hkl)
     have hv1:=hv.len
     have hgk:t.getD k ⟨0,[]⟩=t[k]:=by simp [hkl]
     refine a0e _ _ _ ?_;simp (maxSteps:=2000000) only [go_sem,hG,hOw,decide_eq_true hlt]
     refine a6o (fun _:Unit=>St.of [(2,.ptr 2 0),(3,.ptr 3 0),(7,i64 k)] [(2,.box [chs 0 t]),(3,.box (cpC 0 c))]) (fun _=>f9z c k t[k]=true) ?_ ?_
     ·refine a0l (fun j:Nat=>St.of [(2,.ptr 2 0),(3,.ptr 3 0),(7,i64 k),(8,i64 j)] [(2,.box [chs 0 t]),(3,.box (cpC 0 c))]) (fun j=>j≤t[k].lines.length∧∀ i,i < j→lnB c.rds k i (t[k].lines.getD i [])=true) (fun j=>t[k].lines.length - j) 0 (by simp) (a2a [(2,some 2),(3,some 3)]) ?_
      rintro j ⟨hj,haj⟩
      by_cases hjl:j < t[k].lines.length
      ·have hlt2:(j:Int) < t[k].lines.length:=by omega
       have hv2:=(hv.ln _ (List.getElem_mem hjl)).1
       have hgj:t[k].lines.getD j []=t[k].lines[j]:=by simp [hjl]
       have hdl:=dl c.rds k j t[k].lines[j] hn hv2.2
       refine a0e _ _ _ ?_;simp (maxSteps:=2000000) only [go_sem,hG,hOw,decide_eq_true hlt2]
       (repeat' with_reducible first|refine And.intro ?_ ?_|intro _|refine exP ?_ ?_);all_goals try omega
       refine a0a (e7l t c hn k j hkl hjl (by omega)) ?_
       simp only [go_sem,hG,hOw]
       refine a0a (a2f ((b8a c.rds k j t[k].lines[j]).length) 1 10) ?_
       cases hx:inB ((b8a c.rds k j t[k].lines[j]).length) 1 10 with
       |false =>
        have hcb:a3u t c=false:=by
         rw [hce]
         exact e9o hkl (by rw [hgk];exact e9o hjl (by unfold lnB;rw [hgj];exact hx))
        simp (maxSteps:=2000000) only [go_sem,hG,hOw,hcb]
       |true =>
        simp only [go_sem,hG,hOw]
        (repeat' with_reducible first|refine And.intro ?_ ?_|intro _|refine exP ?_ ?_);all_goals try omega
        refine ⟨j+1,⟨by omega,fun i hi=>?_⟩,by omega,a2a [(2,some 2),(3,some 3)]⟩
        by_cases e:i=j
        ·subst e;unfold lnB;rw [hgj];exact hx
        ·exact haj i (by omega)
      ·have hj2:j=t[k].lines.length:=by omega
       subst hj2
       refine a0e _ _ _ ?_;simp only [go_sem,hG,hOw]
       (repeat' with_reducible first|refine And.intro ?_ ?_|intro _|refine exP ?_ ?_);all_goals try omega
       exact ⟨(),d1e haj,a2a [(2,some 2),(3,some 3)]⟩
     rintro _ hrow
     simp only [go_sem,hG,hOw]
     (repeat' with_reducible first|refine And.intro ?_ ?_|intro _|refine exP ?_ ?_);all_goals try omega
     refine ⟨k+1,⟨by omega,fun i hi=>?_⟩,by omega,a2a [(2,some 2),(3,some 3)]⟩
     by_cases e:i=k
     ·subst e;rw [hgk];exact hrow
     ·exact hak i (by omega)
    ·have hk2:k=t.length:=by omega
     subst hk2
     refine a0e _ _ _ ?_;simp only [go_sem,hG,hOw]
     (repeat' with_reducible first|refine And.intro ?_ ?_|intro _|refine exP ?_ ?_);all_goals try omega
     exact ⟨(),by rw [hce];exact d1e hak,a1j (by (simp only [go_sem])<;>simp) hNm⟩
   rintro _ hfull
   simp (maxSteps:=2000000) only [go_sem,hG,hOw,hfull]
  ·have h2':decide (20 < (c.rds.length:Int))=true:=decide_eq_true (by omega)
   simp (maxSteps:=2000000) only [go_sem,hG,hOw,h2',bad2 h2]
end Go.Proofs.YtmjhfccbbfpppaaGreatDoor
