import Derived.Test.YtmjhfccbbfpppaaGreatDoorQW23
namespace Go.Proofs.YtmjhfccbbfpppaaGreatDoor
open Go Pm
set_option linter.unusedSimpArgs false
set_option linter.unusedVariables false
set_option maxHeartbeats 4000000
set_option maxRecDepth 100000
def b3t (a:Nat) (fi:List ByteArray) (cs:List Hk) (ls:List (List ByteArray)):List (Nat×OB) :=
 [(0,.box [a0h a fi,.own 2 0 cs.length 3,.own 1 0 ls.length 1]),(1,.arr 32 1 (ls.map (d6q a))),(2,.arr 77 3 (cs.map (hkE a)))]
attribute [go_sem] b3t
theorem e2m (a:Nat) (fi:List ByteArray) (cs:List Hk) (ls:List (List ByteArray)) (h:0 < ls.length) (hl:ls.length≤1000) :
  Tri Tryz.prog 109 [.ptr 0 0] (b3t a fi cs ls) (fun _=>.ret (a0h a (ls[ls.length - 1]'(by omega))) (b3t a fi cs ls)):=by
 refine a0d (fun _=>false) Tryz.func109 Tryz.ntmps109 rfl rfl fun G hG hOw hNm=>?_;simp only [go_sem,hG,hOw]
 refine a1a mixed (by kernel_rfl) ?_
 simp only [go_sem,hG,hOw]
 (repeat' with_reducible first|refine And.intro ?_ ?_|intro _|refine exP ?_ ?_);all_goals try omega
 have e:((ls.length:Int) - 1).toNat=ls.length - 1:=by omega
 simp only [e]
 exact (a1u [(0,some 0),(1,some 1),(2,some 2)])
theorem c1z (s:Sh) (h1:s.first.length≤1000) (h3:∀ c ∈ s.chg,c.put.length≤1000):Tri Tryz.prog 107 [shE 0 s] []
  (fun n=>if gb s=true then .ret (.tup [.ptr 0 0,i64 0]) (b3t n s.first s.chg (gl s)) else .ret (.tup [.v (.pointer none),i64 112]) []):=by
 refine a0d (fun i=>[25].contains i) Tryz.func107 Tryz.ntmps107 rfl rfl fun G hG hOw hNm=>?_;simp only [go_sem,hG,hOw]
 have g11:∀ {P:Prop},gb s=true→(12≤(s.chg.length:Int))→P:=fun h h'=>by have:=c6l h;omega
 (repeat' with_reducible first|refine And.intro ?_ ?_|intro _|refine exP ?_ ?_);all_goals try omega
 ·rename_i h2
  refine a0a (a4a s.first) ?_
  simp only [go_sem,hG,hOw]
  (repeat' with_reducible first|refine And.intro ?_ ?_|intro _|refine exP ?_ ?_);all_goals try omega
  ·rename_i h4
   have hg:gb s=false:=by
    cases h:a0v s.first with
    |true=>rw [h] at h4;simp at h4
    |false=>simp [gb,h]
   simp only [hg,Bool.false_eq_true,if_false]
   simp only [go_sem,hG,hOw]
   (repeat' with_reducible first|refine And.intro ?_ ?_|intro _|refine exP ?_ ?_);all_goals try omega
   exact (a1u [])
  ·rename_i h4
   have hr:a0v s.first=true:=by
    cases h:a0v s.first with
    |true=>rfl
    |false=>rw [h] at h4;simp at h4
   refine a1a mixed (by kernel_rfl) ?_
   simp only [go_sem,hG,hOw]
   refine ⟨_,a0j (a9g s.first h1),?_⟩
   simp only [go_sem,hG,hOw]
   refine ⟨_,a0j (a9g s.first h1),?_⟩
   simp only [go_sem,hG,hOw]
   (repeat' with_reducible first|refine And.intro ?_ ?_|intro _|refine exP ?_ ?_);all_goals try omega
   refine a0n (fun k:Nat=>St.of [(4,.ptr 27 0),(29,hks 0 s.chg),(30,i64 s.chg.length),(31,i64 k)] [(27,.box [a0h G.lo s.first,.own 90 0 k 3,.own 91 0 (k+1) 1]),(90,.arr 77 3 ((s.chg.take k).map (hkE G.lo))),(91,.arr 32 1 ((b5l s.first (s.chg.take k)).map (d6q G.lo)))])
    (fun k=>k≤s.chg.length∧d5n s.first (s.chg.take k)=true) (fun k=>s.chg.length - k) 0 ⟨Nat.zero_le _,rfl⟩ (a2r [(27,some 27),(90,none),(91,some 25)] (by (simp only [go_sem])<;>simp [b5l,d6q,a0h]) (by (simp only [go_sem,a1f,a0q,a0e,a1l])<;>simp [b5l,d6q,a0h])) ?_
   rintro k ⟨hk,hgk⟩
   have hlen:(b5l s.first (s.chg.take k)).length=k+1:=by rw [d2s,List.length_take];omega
   have hlk:(s.chg.take k).length=k:=by rw [List.length_take];omega
   have hmin:min k s.chg.length=k:=Nat.min_eq_left hk
   have hcur:(b5l s.first (s.chg.take k))[(b5l s.first (s.chg.take k)).length - 1]'(by omega)=(s.chg.take k).foldl a3w s.first:=c6e _ _ _ _ (by omega)
   have hrow:=b0e (c6x _ _ hr hgk _ (List.getElem_mem (show (b5l s.first (s.chg.take k)).length - 1 < (b5l s.first (s.chg.take k)).length by omega)))
   rw [hcur] at hrow
   have hl11:s.chg.length≤11:=by omega
   refine a0g _ _ _ ?_;simp only [go_sem,hG,hOw]
   (repeat' with_reducible first|refine And.intro ?_ ?_|intro _|refine exP ?_ ?_);all_goals try omega
   ·rename_i hlt
    have hkl:k < s.chg.length:=by omega
    have hbk:d5n s.first (s.chg.take (k+1))=(a9x ((s.chg.take k).foldl a3w s.first) s.chg[k] && a0v (a3w ((s.chg.take k).foldl a3w s.first) s.chg[k])):=by
     rw [List.take_add_one,List.getElem?_eq_getElem hkl,d0z,hgk];simp [d5n]
    have hlk1:b5l s.first (s.chg.take (k+1))=b5l s.first (s.chg.take k)++[a3w ((s.chg.take k).foldl a3w s.first) s.chg[k]]:=by
     rw [List.take_add_one,List.getElem?_eq_getElem hkl];exact e2v _ _ _
    have bad:d5n s.first (s.chg.take (k+1))=false→gb s=false:=fun h=>by
     have:=d0z (s.chg.take (k+1)) (s.chg.drop (k+1)) s.first
     rw [List.take_append_drop,h] at this
     simp [gb,this]
    refine a0b [(0,27),(1,91),(2,90)] [] (e2m G.lo s.first (s.chg.take k) (b5l s.first (s.chg.take k)) (by omega) (by omega)) ?_ (by (simp only [go_sem])<;>simp [b3t,hlen,hmin]) (by (simp only [go_sem,a1f,a0q,a0e,a1l])<;>simp [b3t,hlen,hmin]) (by simp [a0f,usH,toR,b3t,hlen,hmin])
    simp only [hcur]
    simp only [go_sem,hG,hOw]
    (repeat' with_reducible first|refine And.intro ?_ ?_|intro _|refine exP ?_ ?_);all_goals try omega
    refine a0a (d2o 0 ((s.chg.take k).foldl a3w s.first).length s.chg[k].lo) ?_
    simp only [go_sem,hG,hOw]
    have nomade:a9x ((s.chg.take k).foldl a3w s.first) s.chg[k]=false→gb s=false:=fun h=>bad (by rw [hbk,h];rfl)
    have hput:=h3 _ (List.getElem_mem hkl)
    (repeat' with_reducible first|refine And.intro ?_ ?_|intro _|refine exP ?_ ?_);all_goals try omega
    ·rename_i h5;simp only [Bool.and_eq_true,decide_eq_true_eq] at h5;omega
    ·rename_i h5;simp only [Bool.and_eq_true,decide_eq_true_eq] at h5;omega
    ·rename_i h5
     refine a0a (d2o 0 (((s.chg.take k).foldl a3w s.first).length - s.chg[k].lo) s.chg[k].drop) ?_
     simp only [go_sem,hG,hOw]
     (repeat' with_reducible first|refine And.intro ?_ ?_|intro _|refine exP ?_ ?_);all_goals try omega
     ·rename_i h6
      have hg:gb s=false:=nomade (by simp only [a9x];rw [h5,h6];rfl)
      simp only [hg,Bool.false_eq_true,if_false]
      simp only [go_sem,hG,hOw]
      (repeat' with_reducible first|refine And.intro ?_ ?_|intro _|refine exP ?_ ?_);all_goals try omega
      exact (a1u [])
     ·rename_i h6
      have hm:a9x ((s.chg.take k).foldl a3w s.first) s.chg[k]=true:=by simp only [a9x];rw [h5,h6];rfl
      refine a0a (d0k ((s.chg.take k).foldl a3w s.first) s.chg[k] (by omega) hput hm) ?_
      simp only [go_sem,hG,hOw]
      refine a0a (a4a (a3w ((s.chg.take k).foldl a3w s.first) s.chg[k])) ?_
      simp only [go_sem,hG,hOw]
      (repeat' with_reducible first|refine And.intro ?_ ?_|intro _|refine exP ?_ ?_);all_goals try omega
      ·rename_i h7
       have hg:gb s=false:=bad (by
        rw [hbk,hm]
        cases h:a0v (a3w ((s.chg.take k).foldl a3w s.first) s.chg[k]) with
        |true=>rw [h] at h7;simp at h7
        |false=>rfl)
       simp only [hg,Bool.false_eq_true,if_false]
       simp only [go_sem,hG,hOw]
       (repeat' with_reducible first|refine And.intro ?_ ?_|intro _|refine exP ?_ ?_);all_goals try omega
       exact (a1u [])
      ·rename_i h7
       have hr2:a0v (a3w ((s.chg.take k).foldl a3w s.first) s.chg[k])=true:=by
        cases h:a0v (a3w ((s.chg.take k).foldl a3w s.first) s.chg[k]) with
        |true=>rfl
        |false=>rw [h] at h7;simp at h7
       refine a0a (a9g s.chg[k].put hput) ?_
       simp only [go_sem,hG,hOw]
       refine b1g [(79,[27]),(75,[75,90]),(82,[82,91])] mixed (by kernel_rfl) ?_
       simp only [go_sem,hG,hOw]
       (repeat' with_reducible first|refine And.intro ?_ ?_|intro _|refine exP ?_ ?_);all_goals try omega
       refine ⟨k+1,⟨by omega,by rw [hbk,hm,hr2];rfl⟩,by omega,?_⟩
       exact a2r [(27,some 27),(90,some 75),(91,some 82)] (by (simp only [go_sem])<;>simp [hlk1,a2x _ _ _ hkl,hlen,hmin,hkE,d6q,i64,a0h]) (by (simp only [go_sem,a1f,a0q,a0e,a1l])<;>simp [hlk1,a2x _ _ _ hkl,hlen,hmin,hkE,d6q,i64,a0h])
    ·rename_i h5
     have hg:gb s=false:=nomade (by simp only [a9x];rw [h5];rfl)
     simp only [hg,Bool.false_eq_true,if_false]
     simp only [go_sem,hG,hOw]
     (repeat' with_reducible first|refine And.intro ?_ ?_|intro _|refine exP ?_ ?_);all_goals try omega
     exact (a1u [])
   ·rename_i hge
    obtain rfl:k=s.chg.length:=by omega
    rw [List.take_length] at hgk hlen ⊢
    have hg:gb s=true:=by simp only [gb,hr,hgk];rw [decide_eq_true (by omega)];rfl
    simp only [hg,if_true]
    simp only [go_sem,hG,hOw]
    (repeat' with_reducible first|refine And.intro ?_ ?_|intro _|refine exP ?_ ?_);all_goals try omega
    exact ⟨[(0,some 27),(1,some 91),(2,some 90)],by (simp only [b3z,go_sem,a1f,a0q,a0e,a1l,apart,a2s,a0f])<;>simp [gl,hg,hlen]⟩
 ·rename_i h2
  have hg:gb s=false:=by simp only [gb];rw [decide_eq_false (by omega)];rfl
  simp only [hg,Bool.false_eq_true,if_false]
  simp only [go_sem,hG,hOw]
  (repeat' with_reducible first|refine And.intro ?_ ?_|intro _|refine exP ?_ ?_);all_goals try omega
  exact (a1u [])
open Go Pm
set_option maxHeartbeats 4000000
set_option maxRecDepth 100000
theorem a7b (s:Sh) (n:Int) (h1:s.first.length≤1000) (h3:∀ c ∈ s.chg,c.put.length≤1000):Tri Tryz.prog 115 [shE 0 s,i64 n] []
  (fun lo=>if gb s=true then .ret (.tup [.ptr 0 0,i64 (a7u s n)]) (b3t lo s.first s.chg (gl s)) else .ret (.tup [.v (.pointer none),i64 (a7u s n)]) []):=by
 refine a0d (fun _=>false) Tryz.func115 Tryz.ntmps115 rfl rfl fun G hG hOw hNm=>?_;simp only [go_sem,hG,hOw]
 by_cases hg:gb s=true
 ·have hl:=d1s hg
  have hb:=c6l hg
  refine a0b [] [(0,50),(1,51),(2,52)] (c1z s h1 h3) ?_ (by (simp only [go_sem])<;>simp [hg]) (by (simp only [go_sem,a1f,a0q,a0e,a1l])<;>simp [hg]) (by simp [a0f,usH,toR,hg])
  simp only [hg,if_true]
  simp only [go_sem,hG,hOw]
  (repeat' with_reducible first|refine And.intro ?_ ?_|intro _|refine exP ?_ ?_);all_goals try omega
  refine a0a (d2o 0 ((gl s).length - 1) n) ?_
  simp only [go_sem,hG,hOw]
  (repeat' with_reducible first|refine And.intro ?_ ?_|intro _|refine exP ?_ ?_);all_goals try omega
  ·rename_i h2
   have e:a7u s n=2:=by
    simp at h2
    simp only [a7u,hg]
    rw [if_neg (by decide),if_neg (by omega)]
   rw [e]
   exact ⟨[(0,some 50),(1,some 51),(2,some 52)],by (simp only [b3z,go_sem,a1f,a0q,a0e,a1l,apart,a2s,a0f])<;>simp [hg]⟩
  ·rename_i h2
   have e:a7u s n=0:=by
    simp at h2
    simp only [a7u,hg]
    rw [if_neg (by decide),if_pos (by omega)]
   rw [e]
   exact ⟨[(0,some 50),(1,some 51),(2,some 52)],by (simp only [b3z,go_sem,a1f,a0q,a0e,a1l,apart,a2s,a0f])<;>simp [hg]⟩
 ·refine a0b [] [] (c1z s h1 h3) ?_ (by (simp only [go_sem])<;>simp [hg]) (by (simp only [go_sem,a1f,a0q,a0e,a1l])<;>simp [hg]) (by simp [a0f,usH,toR,hg])
  have e:a7u s n=112:=by simp [a7u,hg]
  simp only [hg,if_false,e]
  simp only [go_sem,hG,hOw]
  (repeat' with_reducible first|refine And.intro ?_ ?_|intro _|refine exP ?_ ?_);all_goals try omega
  exact (a1u [])
theorem f7c (s:Sh) (n:Int) (h1:s.first.length≤1000) (h3:∀ c ∈ s.chg,c.put.length≤1000):a0p Tryz.prog 39 [shE 0 s,i64 n] (fun lo=>.tup [a0h lo (b6x s n),i64 (a7u s n)]):=by
 refine a0c (ow:=fun _=>false) Tryz.func39 Tryz.ntmps39 rfl rfl fun G hG hOw hNm hB=>?_;simp only [go_sem,hG,hOw]
 by_cases hg:gb s=true
 ·have hl:=d1s hg
  have hb:=c6l hg
  have hE:a7u s n=0→0≤n∧n≤s.chg.length:=fun h=>by
   simp only [a7u,hg] at h
   split at h
   ·cases h
   ·split at h
    ·assumption
    ·cases h
  refine a0b [] [(0,50),(1,51),(2,52)] (a7b s n h1 h3) ?_ (by (simp only [go_sem])<;>simp [hg]) (by (simp only [go_sem,a1f,a0q,a0e,a1l])<;>simp [hg]) (by simp [a0f,usH,toR,hg])
  simp only [hg,if_true]
  simp only [go_sem,hG,hOw]
  (repeat' with_reducible first|refine And.intro ?_ ?_|intro _|refine exP ?_ ?_);all_goals try omega
  ·rename_i h
   rw [show b6x s n=[] by simp [b6x,h]]
   exact Subs.tup (.cons (.nil _ _) (.cons (.refl _) .nil))
  ·rename_i h
   have:=hE h
   rw [show b6x s n=(gl s)[n.toNat]'(by omega) by simp [b6x,h];rw [List.getElem?_eq_getElem (by omega)];rfl,h]
   exact .refl _
 ·refine a0b [] [] (a7b s n h1 h3) ?_ (by (simp only [go_sem])<;>simp [hg]) (by (simp only [go_sem,a1f,a0q,a0e,a1l])<;>simp [hg]) (by simp [a0f,usH,toR,hg])
  have e:a7u s n=112:=by simp [a7u,hg]
  simp only [hg,if_false,e]
  simp only [go_sem,hG,hOw]
  (repeat' with_reducible first|refine And.intro ?_ ?_|intro _|refine exP ?_ ?_);all_goals try omega
  rw [show b6x s n=[] by simp [b6x,e]]
  exact Subs.tup (.cons (.nil _ _) (.cons (.refl _) .nil))
theorem f0x (s:Sh) (n:Int) (h1:s.first.length≤1000) (h3:∀ c ∈ s.chg,c.put.length≤1000):a0p Tryz.prog 40 [shE 0 s,i64 n] (fun lo=>.tup [shE lo (b6o s n),i64 (a7u s n)]):=by
 refine a0c (ow:=fun _=>false) Tryz.func40 Tryz.ntmps40 rfl rfl fun G hG hOw hNm hB=>?_;simp only [go_sem,hG,hOw]
 by_cases hg:gb s=true
 ·have hl:=d1s hg
  have hb:=c6l hg
  have hE:a7u s n=0→0≤n∧n≤s.chg.length:=fun h=>by
   simp only [a7u,hg] at h
   split at h
   ·cases h
   ·split at h
    ·assumption
    ·cases h
  refine a0b [] [(0,50),(1,51),(2,52)] (a7b s n h1 h3) ?_ (by (simp only [go_sem])<;>simp [hg]) (by (simp only [go_sem,a1f,a0q,a0e,a1l])<;>simp [hg]) (by simp [a0f,usH,toR,hg])
  simp only [hg,if_true]
  simp only [go_sem,hG,hOw]
  (repeat' with_reducible first|refine And.intro ?_ ?_|intro _|refine exP ?_ ?_);all_goals try omega
  ·rename_i h
   exact b3a _ _ _ (by simp [b6o,h])
  ·rename_i h
   refine a1a mixed (by kernel_rfl) ?_
   simp only [go_sem,hG,hOw]
   have:=hE h
   (repeat' with_reducible first|refine And.intro ?_ ?_|intro _|refine exP ?_ ?_);all_goals try omega
   rw [List.take_of_length_le (by simp),show b6o s n=⟨(gl s)[n.toNat]'(by omega),s.chg.drop n.toNat⟩ by simp [b6o,b6x,h];rw [List.getElem?_eq_getElem (by omega)];rfl,h]
   exact .refl _
 ·refine a0b [] [] (a7b s n h1 h3) ?_ (by (simp only [go_sem])<;>simp [hg]) (by (simp only [go_sem,a1f,a0q,a0e,a1l])<;>simp [hg]) (by simp [a0f,usH,toR,hg])
  have e:a7u s n=112:=by simp [a7u,hg]
  simp only [hg,if_false,e]
  simp only [go_sem,hG,hOw]
  (repeat' with_reducible first|refine And.intro ?_ ?_|intro _|refine exP ?_ ?_);all_goals try omega
  exact b3a _ _ _ (by simp [b6o,e])
theorem f5t (s:Sh) (l:List ByteArray) (h1:s.first.length≤1000) (h3:∀ c ∈ s.chg,c.put.length≤1000) (h4:l.length≤1000):a0p Tryz.prog 33 [shE 0 s,a0h 0 l] (fun lo=>.tup [shE lo (c6h s l),i64 (b5o s l)]):=by
 refine a0c (ow:=fun _=>false) Tryz.func33 Tryz.ntmps33 rfl rfl fun G hG hOw hNm hB=>?_;simp only [go_sem,hG,hOw]
 by_cases hg:gb s=true
 ·have hl:=d1s hg
  have hb:=c6l hg
  refine a0b [] [(0,50),(1,51),(2,52)] (c1z s h1 h3) ?_ (by (simp only [go_sem])<;>simp [hg]) (by (simp only [go_sem,a1f,a0q,a0e,a1l])<;>simp [hg]) (by simp [a0f,usH,toR,hg])
  simp only [hg,if_true]
  simp only [go_sem,hG,hOw]
  refine a0a (a4a l) ?_
  simp only [go_sem,hG,hOw]
  (repeat' with_reducible first|refine And.intro ?_ ?_|intro _|refine exP ?_ ?_);all_goals try omega
  ·rename_i h2
   have e:b5o s l=110:=by
    cases h:a0v l with
    |true=>rw [h] at h2;simp at h2
    |false=>simp [b5o,hg,h]
   rw [e]
   exact b3a _ _ _ (by simp [c6h,e])
  ·rename_i h2 h3
   have h2':a0v l=true:=by
    cases h:a0v l with
    |true=>rfl
    |false=>rw [h] at h2;simp at h2
   have e:b5o s l=9:=by simp [b5o,hg,h2'];omega
   rw [e]
   exact b3a _ _ _ (by simp [c6h,e])
  ·rename_i h2 h3'
   have h2':a0v l=true:=by
    cases h:a0v l with
    |true=>rfl
    |false=>rw [h] at h2;simp at h2
   have e0:b5o s l=0:=by simp [b5o,hg,h2'];omega
   have hlast:=f3z hg ((gl s).length - 1) (by omega) (by omega)
   have hr:=b0e (f6n hg _ (List.getElem_mem (show (gl s).length - 1 < (gl s).length by omega)))
   rw [hlast] at hr
   refine b1g [(38,[50,51,52]),(36,[50]),(42,[42,52])] mixed (by kernel_rfl) ?_
   simp only [go_sem,hG,hOw]
   refine ⟨_,d9p [(0,50),(1,51),(2,52)] (e2m G.lo s.first s.chg (gl s) (by omega) (by omega)) (by (simp only [go_sem])<;>simp [b3t]) (by (simp only [go_sem,a1f,a0q,a0e,a1l])<;>simp [b3t]) (by simp [a2s,apart,toR]) (by simp [a0f,usH,toR,b3t]) (by simp [a6i,lkR,toR]) (by simp [a3n,a1r,usH,lkR,toR,b3t]) (by simp [a5l,usH,b3t]) (by simp [tgt,a2a]) (by simp [upT,a3r,a6h,a1r,usH,lkR,toR,e7j,a2a,b3t,go_sem]),?_⟩
   simp only [hlast]
   simp only [go_sem,hG,hOw]
   refine ⟨_,a0j (c8d (e7n s) l (by omega) h4),?_⟩
   simp only [go_sem,hG,hOw]
   (repeat' with_reducible first|refine And.intro ?_ ?_|intro _|refine exP ?_ ?_);all_goals try omega
   rw [e0,show c6h s l=⟨s.first,s.chg++[a4d (e7n s) l]⟩ by simp [c6h,e0]]
   rw [List.take_of_length_le (by simp)]
   simp only [List.map_append]
   exact .refl _
 ·refine a0b [] [] (c1z s h1 h3) ?_ (by (simp only [go_sem])<;>simp [hg]) (by (simp only [go_sem,a1f,a0q,a0e,a1l])<;>simp [hg]) (by simp [a0f,usH,toR,hg])
  have e:b5o s l=112:=by simp [b5o,hg]
  simp only [hg,if_false,e]
  simp only [go_sem,hG,hOw]
  (repeat' with_reducible first|refine And.intro ?_ ?_|intro _|refine exP ?_ ?_);all_goals try omega
  exact b3a _ _ _ (by simp [c6h,e])
end Go.Proofs.YtmjhfccbbfpppaaGreatDoor
