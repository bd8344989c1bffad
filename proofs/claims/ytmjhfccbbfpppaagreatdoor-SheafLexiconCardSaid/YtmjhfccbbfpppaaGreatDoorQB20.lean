import Derived.Test.YtmjhfccbbfpppaaGreatDoorQB18
namespace Go.Proofs.YtmjhfccbbfpppaaGreatDoor
open Go Pm
set_option linter.unusedSimpArgs false
set_option linter.unusedVariables false
set_option maxHeartbeats 4000000
set_option maxRecDepth 100000
def b2e (a:Nat) (fi:List ByteArray) (cs:List Hk) (ls:List (List ByteArray)):List (Nat×OB) :=
 [(0,.box [a0q a fi,.own 2 0 cs.length 3,.own 1 0 ls.length 1]),(1,.arr 32 1 (ls.map (d6m a))),(2,.arr 77 3 (cs.map (hkE a)))]
attribute [go_sem] b2e
theorem d9e (a:Nat) (fi:List ByteArray) (cs:List Hk) (ls:List (List ByteArray)) (h:0 < ls.length) (hl:ls.length≤1000) :
  Tri Tryz.prog 109 [.ptr 0 0] (b2e a fi cs ls) (fun _=>.ret (a0q a (ls[ls.length - 1]'(by omega))) (b2e a fi cs ls)):=by
 refine a0e (fun _=>false) Tryz.func109 Tryz.ntmps109 rfl rfl fun G hG hOw hNm=>?_;simp only [go_sem,hG,hOw]
 refine a0s mixed (by kernel_rfl) ?_
 simp only [go_sem,hG,hOw]
 (repeat' with_reducible first|apply And.intro|refine exP ?_ ?_|intro);all_goals try omega
 have e:((ls.length:Int) - 1).toNat=ls.length - 1:=by omega
 simp only [e]
 exact (a2o [(0,some 0),(1,some 1),(2,some 2)])
theorem c2o (s:Sh) (h1:s.first.length≤1000) (h3:∀ c ∈ s.chg,c.put.length≤1000):Tri Tryz.prog 107 [shE 0 s] []
  (fun n=>if gb s=true then .ret (.tup [.ptr 0 0,i64 0]) (b2e n s.first s.chg (gl s)) else .ret (.tup [.v (.pointer none),i64 112]) []):=by
 refine a0e (fun i=>[25].contains i) Tryz.func107 Tryz.ntmps107 rfl rfl fun G hG hOw hNm=>?_;simp only [go_sem,hG,hOw]
 have g11:∀ {P:Prop},gb s=true→(12≤(s.chg.length:Int))→P:=fun h h'=>by have:=c5p h;omega
 (repeat' with_reducible first|apply And.intro|refine exP ?_ ?_|intro);all_goals try omega
 ·rename_i h2
  refine a0a (a6v s.first) ?_
  simp only [go_sem,hG,hOw]
  (repeat' with_reducible first|apply And.intro|refine exP ?_ ?_|intro);all_goals try omega
  ·rename_i h4
   have hg:gb s=false:=by
    cases h:a1c s.first with
    |true=>rw [h] at h4;simp at h4
    |false=>simp [gb,h]
   simp only [hg,Bool.false_eq_true,if_false]
   simp only [go_sem,hG,hOw]
   (repeat' with_reducible first|apply And.intro|refine exP ?_ ?_|intro);all_goals try omega
   exact (a2o [])
  ·rename_i h4
   have hr:a1c s.first=true:=by
    cases h:a1c s.first with
    |true=>rfl
    |false=>rw [h] at h4;simp at h4
   refine a0s mixed (by kernel_rfl) ?_
   simp only [go_sem,hG,hOw]
   refine ⟨_,a0f (a8e s.first h1),?_⟩
   simp only [go_sem,hG,hOw]
   refine ⟨_,a0f (a8e s.first h1),?_⟩
   simp only [go_sem,hG,hOw]
   (repeat' with_reducible first|apply And.intro|refine exP ?_ ?_|intro);all_goals try omega
   refine a0k (fun k:Nat=>St.of [(4,.ptr 27 0),(29,hks 0 s.chg),(30,i64 s.chg.length),(31,i64 k)] [(27,.box [a0q G.lo s.first,.own 90 0 k 3,.own 91 0 (k+1) 1]),(90,.arr 77 3 ((s.chg.take k).map (hkE G.lo))),(91,.arr 32 1 ((b4m s.first (s.chg.take k)).map (d6m G.lo)))])
    (fun k=>k≤s.chg.length∧d3e s.first (s.chg.take k)=true) (fun k=>s.chg.length - k) 0 ⟨Nat.zero_le _,rfl⟩ (a1m [(27,some 27),(90,none),(91,some 25)] (by (simp only [go_sem])<;>simp [b4m,d6m,a0q]) (by (simp only [go_sem,a1d,a0r,a0i,a1l])<;>simp [b4m,d6m,a0q])) ?_
   rintro k ⟨hk,hgk⟩
   have hlen:(b4m s.first (s.chg.take k)).length=k+1:=by rw [d1o,List.length_take];omega
   have hlk:(s.chg.take k).length=k:=by rw [List.length_take];omega
   have hmin:min k s.chg.length=k:=Nat.min_eq_left hk
   have hcur:(b4m s.first (s.chg.take k))[(b4m s.first (s.chg.take k)).length - 1]'(by omega)=(s.chg.take k).foldl a3m s.first:=c3t _ _ _ _ (by omega)
   have hrow:=b0c (c3c _ _ hr hgk _ (List.getElem_mem (show (b4m s.first (s.chg.take k)).length - 1 < (b4m s.first (s.chg.take k)).length by omega)))
   rw [hcur] at hrow
   have hl11:s.chg.length≤11:=by omega
   refine a0d _ _ _ ?_;simp only [go_sem,hG,hOw]
   (repeat' with_reducible first|apply And.intro|refine exP ?_ ?_|intro);all_goals try omega
   ·rename_i hlt
    have hkl:k < s.chg.length:=by omega
    have hbk:d3e s.first (s.chg.take (k+1))=(a9h ((s.chg.take k).foldl a3m s.first) s.chg[k] && a1c (a3m ((s.chg.take k).foldl a3m s.first) s.chg[k])):=by
     rw [List.take_add_one,List.getElem?_eq_getElem hkl,d0o,hgk];simp [d3e]
    have hlk1:b4m s.first (s.chg.take (k+1))=b4m s.first (s.chg.take k)++[a3m ((s.chg.take k).foldl a3m s.first) s.chg[k]]:=by
     rw [List.take_add_one,List.getElem?_eq_getElem hkl];exact e2i _ _ _
    have bad:d3e s.first (s.chg.take (k+1))=false→gb s=false:=fun h=>by
     have:=d0o (s.chg.take (k+1)) (s.chg.drop (k+1)) s.first
     rw [List.take_append_drop,h] at this
     simp [gb,this]
    refine a0c [(0,27),(1,91),(2,90)] [] (d9e G.lo s.first (s.chg.take k) (b4m s.first (s.chg.take k)) (by omega) (by omega)) ?_ (by (simp only [go_sem])<;>simp [b2e,hlen,hmin]) (by (simp only [go_sem,a1d,a0r,a0i,a1l])<;>simp [b2e,hlen,hmin]) (by simp [a0n,usH,toR,b2e,hlen,hmin])
    simp only [hcur]
    simp only [go_sem,hG,hOw]
    (repeat' with_reducible first|apply And.intro|refine exP ?_ ?_|intro);all_goals try omega
    refine a0a (d1r 0 ((s.chg.take k).foldl a3m s.first).length s.chg[k].lo) ?_
    simp only [go_sem,hG,hOw]
    have nomade:a9h ((s.chg.take k).foldl a3m s.first) s.chg[k]=false→gb s=false:=fun h=>bad (by rw [hbk,h];rfl)
    have hput:=h3 _ (List.getElem_mem hkl)
    (repeat' with_reducible first|apply And.intro|refine exP ?_ ?_|intro);all_goals try omega
    ·rename_i h5;simp only [Bool.and_eq_true,decide_eq_true_eq] at h5;omega
    ·rename_i h5;simp only [Bool.and_eq_true,decide_eq_true_eq] at h5;omega
    ·rename_i h5
     refine a0a (d1r 0 (((s.chg.take k).foldl a3m s.first).length - s.chg[k].lo) s.chg[k].drop) ?_
     simp only [go_sem,hG,hOw]
     (repeat' with_reducible first|apply And.intro|refine exP ?_ ?_|intro);all_goals try omega
     ·rename_i h6
      have hg:gb s=false:=nomade (by simp only [a9h];rw [h5,h6];rfl)
      simp only [hg,Bool.false_eq_true,if_false]
      simp only [go_sem,hG,hOw]
      (repeat' with_reducible first|apply And.intro|refine exP ?_ ?_|intro);all_goals try omega
      exact (a2o [])
     ·rename_i h6
      have hm:a9h ((s.chg.take k).foldl a3m s.first) s.chg[k]=true:=by simp only [a9h];rw [h5,h6];rfl
      refine a0a (c7z ((s.chg.take k).foldl a3m s.first) s.chg[k] (by omega) hput hm) ?_
      simp only [go_sem,hG,hOw]
      refine a0a (a6v (a3m ((s.chg.take k).foldl a3m s.first) s.chg[k])) ?_
      simp only [go_sem,hG,hOw]
      (repeat' with_reducible first|apply And.intro|refine exP ?_ ?_|intro);all_goals try omega
      ·rename_i h7
       have hg:gb s=false:=bad (by
        rw [hbk,hm]
        cases h:a1c (a3m ((s.chg.take k).foldl a3m s.first) s.chg[k]) with
        |true=>rw [h] at h7;simp at h7
        |false=>rfl)
       simp only [hg,Bool.false_eq_true,if_false]
       simp only [go_sem,hG,hOw]
       (repeat' with_reducible first|apply And.intro|refine exP ?_ ?_|intro);all_goals try omega
       exact (a2o [])
      ·rename_i h7
       have hr2:a1c (a3m ((s.chg.take k).foldl a3m s.first) s.chg[k])=true:=by
        cases h:a1c (a3m ((s.chg.take k).foldl a3m s.first) s.chg[k]) with
        |true=>rfl
        |false=>rw [h] at h7;simp at h7
       refine a0a (a8e s.chg[k].put hput) ?_
       simp only [go_sem,hG,hOw]
       refine a5q [(79,[27]),(75,[75,90]),(82,[82,91])] mixed (by kernel_rfl) ?_
       simp only [go_sem,hG,hOw]
       (repeat' with_reducible first|apply And.intro|refine exP ?_ ?_|intro);all_goals try omega
       refine ⟨k+1,⟨by omega,by rw [hbk,hm,hr2];rfl⟩,by omega,?_⟩
       exact a1m [(27,some 27),(90,some 75),(91,some 82)] (by (simp only [go_sem])<;>simp [hlk1,a3d _ _ _ hkl,hlen,hmin,hkE,d6m,i64,a0q]) (by (simp only [go_sem,a1d,a0r,a0i,a1l])<;>simp [hlk1,a3d _ _ _ hkl,hlen,hmin,hkE,d6m,i64,a0q])
    ·rename_i h5
     have hg:gb s=false:=nomade (by simp only [a9h];rw [h5];rfl)
     simp only [hg,Bool.false_eq_true,if_false]
     simp only [go_sem,hG,hOw]
     (repeat' with_reducible first|apply And.intro|refine exP ?_ ?_|intro);all_goals try omega
     exact (a2o [])
   ·rename_i hge
    obtain rfl:k=s.chg.length:=by omega
    rw [List.take_length] at hgk hlen ⊢
    have hg:gb s=true:=by simp only [gb,hr,hgk];rw [decide_eq_true (by omega)];rfl
    simp only [hg,if_true]
    simp only [go_sem,hG,hOw]
    (repeat' with_reducible first|apply And.intro|refine exP ?_ ?_|intro);all_goals try omega
    exact ⟨[(0,some 27),(1,some 91),(2,some 90)],by (simp only [b3x,go_sem,a1d,a0r,a0i,a1l,apart,a2m,a0n])<;>simp [gl,hg,hlen]⟩
 ·rename_i h2
  have hg:gb s=false:=by simp only [gb];rw [decide_eq_false (by omega)];rfl
  simp only [hg,Bool.false_eq_true,if_false]
  simp only [go_sem,hG,hOw]
  (repeat' with_reducible first|apply And.intro|refine exP ?_ ?_|intro);all_goals try omega
  exact (a2o [])
open Go Pm
theorem a6k (s:Sh) (n:Int) (h1:s.first.length≤1000) (h3:∀ c ∈ s.chg,c.put.length≤1000):Tri Tryz.prog 115 [shE 0 s,i64 n] []
  (fun lo=>if gb s=true then .ret (.tup [.ptr 0 0,i64 (a6q s n)]) (b2e lo s.first s.chg (gl s)) else .ret (.tup [.v (.pointer none),i64 (a6q s n)]) []):=by
 refine a0e (fun _=>false) Tryz.func115 Tryz.ntmps115 rfl rfl fun G hG hOw hNm=>?_;simp only [go_sem,hG,hOw]
 by_cases hg:gb s=true
 ·have hl:=d0l hg
  have hb:=c5p hg
  refine a0c [] [(0,50),(1,51),(2,52)] (c2o s h1 h3) ?_ (by (simp only [go_sem])<;>simp [hg]) (by (simp only [go_sem,a1d,a0r,a0i,a1l])<;>simp [hg]) (by simp [a0n,usH,toR,hg])
  simp only [hg,if_true]
  simp only [go_sem,hG,hOw]
  (repeat' with_reducible first|apply And.intro|refine exP ?_ ?_|intro);all_goals try omega
  refine a0a (d1r 0 ((gl s).length - 1) n) ?_
  simp only [go_sem,hG,hOw]
  (repeat' with_reducible first|apply And.intro|refine exP ?_ ?_|intro);all_goals try omega
  ·rename_i h2
   have e:a6q s n=2:=by
    simp at h2
    simp only [a6q,hg]
    rw [if_neg (by decide),if_neg (by omega)]
   rw [e]
   exact ⟨[(0,some 50),(1,some 51),(2,some 52)],by (simp only [b3x,go_sem,a1d,a0r,a0i,a1l,apart,a2m,a0n])<;>simp [hg]⟩
  ·rename_i h2
   have e:a6q s n=0:=by
    simp at h2
    simp only [a6q,hg]
    rw [if_neg (by decide),if_pos (by omega)]
   rw [e]
   exact ⟨[(0,some 50),(1,some 51),(2,some 52)],by (simp only [b3x,go_sem,a1d,a0r,a0i,a1l,apart,a2m,a0n])<;>simp [hg]⟩
 ·refine a0c [] [] (c2o s h1 h3) ?_ (by (simp only [go_sem])<;>simp [hg]) (by (simp only [go_sem,a1d,a0r,a0i,a1l])<;>simp [hg]) (by simp [a0n,usH,toR,hg])
  have e:a6q s n=112:=by simp [a6q,hg]
  simp only [hg,if_false,e]
  simp only [go_sem,hG,hOw]
  (repeat' with_reducible first|apply And.intro|refine exP ?_ ?_|intro);all_goals try omega
  exact (a2o [])
theorem f4s (s:Sh) (n:Int) (h1:s.first.length≤1000) (h3:∀ c ∈ s.chg,c.put.length≤1000):a0l Tryz.prog 39 [shE 0 s,i64 n] (fun lo=>.tup [a0q lo (b7j s n),i64 (a6q s n)]):=by
 refine a0b (ow:=fun _=>false) Tryz.func39 Tryz.ntmps39 rfl rfl fun G hG hOw hNm hB=>?_;simp only [go_sem,hG,hOw]
 by_cases hg:gb s=true
 ·have hl:=d0l hg
  have hb:=c5p hg
  have hE:a6q s n=0→0≤n∧n≤s.chg.length:=fun h=>by
   simp only [a6q,hg] at h
   split at h
   ·cases h
   ·split at h
    ·assumption
    ·cases h
  refine a0c [] [(0,50),(1,51),(2,52)] (a6k s n h1 h3) ?_ (by (simp only [go_sem])<;>simp [hg]) (by (simp only [go_sem,a1d,a0r,a0i,a1l])<;>simp [hg]) (by simp [a0n,usH,toR,hg])
  simp only [hg,if_true]
  simp only [go_sem,hG,hOw]
  (repeat' with_reducible first|apply And.intro|refine exP ?_ ?_|intro);all_goals try omega
  ·rename_i h
   rw [show b7j s n=[] by simp [b7j,h]]
   exact Subs.tup (.cons (.nil _ _) (.cons (.refl _) .nil))
  ·rename_i h
   have:=hE h
   rw [show b7j s n=(gl s)[n.toNat]'(by omega) by simp [b7j,h];rw [List.getElem?_eq_getElem (by omega)];rfl,h]
   exact .refl _
 ·refine a0c [] [] (a6k s n h1 h3) ?_ (by (simp only [go_sem])<;>simp [hg]) (by (simp only [go_sem,a1d,a0r,a0i,a1l])<;>simp [hg]) (by simp [a0n,usH,toR,hg])
  have e:a6q s n=112:=by simp [a6q,hg]
  simp only [hg,if_false,e]
  simp only [go_sem,hG,hOw]
  (repeat' with_reducible first|apply And.intro|refine exP ?_ ?_|intro);all_goals try omega
  rw [show b7j s n=[] by simp [b7j,e]]
  exact Subs.tup (.cons (.nil _ _) (.cons (.refl _) .nil))
theorem e8n (s:Sh) (n:Int) (h1:s.first.length≤1000) (h3:∀ c ∈ s.chg,c.put.length≤1000):a0l Tryz.prog 40 [shE 0 s,i64 n] (fun lo=>.tup [shE lo (b5t s n),i64 (a6q s n)]):=by
 refine a0b (ow:=fun _=>false) Tryz.func40 Tryz.ntmps40 rfl rfl fun G hG hOw hNm hB=>?_;simp only [go_sem,hG,hOw]
 by_cases hg:gb s=true
 ·have hl:=d0l hg
  have hb:=c5p hg
  have hE:a6q s n=0→0≤n∧n≤s.chg.length:=fun h=>by
   simp only [a6q,hg] at h
   split at h
   ·cases h
   ·split at h
    ·assumption
    ·cases h
  refine a0c [] [(0,50),(1,51),(2,52)] (a6k s n h1 h3) ?_ (by (simp only [go_sem])<;>simp [hg]) (by (simp only [go_sem,a1d,a0r,a0i,a1l])<;>simp [hg]) (by simp [a0n,usH,toR,hg])
  simp only [hg,if_true]
  simp only [go_sem,hG,hOw]
  (repeat' with_reducible first|apply And.intro|refine exP ?_ ?_|intro);all_goals try omega
  ·rename_i h
   exact b2q _ _ _ (by simp [b5t,h])
  ·rename_i h
   refine a0s mixed (by kernel_rfl) ?_
   simp only [go_sem,hG,hOw]
   have:=hE h
   (repeat' with_reducible first|apply And.intro|refine exP ?_ ?_|intro);all_goals try omega
   rw [List.take_of_length_le (by simp),show b5t s n=⟨(gl s)[n.toNat]'(by omega),s.chg.drop n.toNat⟩ by simp [b5t,b7j,h];rw [List.getElem?_eq_getElem (by omega)];rfl,h]
   exact .refl _
 ·refine a0c [] [] (a6k s n h1 h3) ?_ (by (simp only [go_sem])<;>simp [hg]) (by (simp only [go_sem,a1d,a0r,a0i,a1l])<;>simp [hg]) (by simp [a0n,usH,toR,hg])
  have e:a6q s n=112:=by simp [a6q,hg]
  simp only [hg,if_false,e]
  simp only [go_sem,hG,hOw]
  (repeat' with_reducible first|apply And.intro|refine exP ?_ ?_|intro);all_goals try omega
  exact b2q _ _ _ (by simp [b5t,e])
theorem f6w (s:Sh) (l:List ByteArray) (h1:s.first.length≤1000) (h3:∀ c ∈ s.chg,c.put.length≤1000) (h4:l.length≤1000):a0l Tryz.prog 33 [shE 0 s,a0q 0 l] (fun lo=>.tup [shE lo (c5t s l),i64 (b4t s l)]):=by
 refine a0b (ow:=fun _=>false) Tryz.func33 Tryz.ntmps33 rfl rfl fun G hG hOw hNm hB=>?_;simp only [go_sem,hG,hOw]
 by_cases hg:gb s=true
 ·have hl:=d0l hg
  have hb:=c5p hg
  refine a0c [] [(0,50),(1,51),(2,52)] (c2o s h1 h3) ?_ (by (simp only [go_sem])<;>simp [hg]) (by (simp only [go_sem,a1d,a0r,a0i,a1l])<;>simp [hg]) (by simp [a0n,usH,toR,hg])
  simp only [hg,if_true]
  simp only [go_sem,hG,hOw]
  refine a0a (a6v l) ?_
  simp only [go_sem,hG,hOw]
  (repeat' with_reducible first|apply And.intro|refine exP ?_ ?_|intro);all_goals try omega
  ·rename_i h2
   have e:b4t s l=110:=by
    cases h:a1c l with
    |true=>rw [h] at h2;simp at h2
    |false=>simp [b4t,hg,h]
   rw [e]
   exact b2q _ _ _ (by simp [c5t,e])
  ·rename_i h2 h3
   have h2':a1c l=true:=by
    cases h:a1c l with
    |true=>rfl
    |false=>rw [h] at h2;simp at h2
   have e:b4t s l=9:=by simp [b4t,hg,h2'];omega
   rw [e]
   exact b2q _ _ _ (by simp [c5t,e])
  ·rename_i h2 h3'
   have h2':a1c l=true:=by
    cases h:a1c l with
    |true=>rfl
    |false=>rw [h] at h2;simp at h2
   have e0:b4t s l=0:=by simp [b4t,hg,h2'];omega
   have hlast:=f7m hg ((gl s).length - 1) (by omega) (by omega)
   have hr:=b0c (f5g hg _ (List.getElem_mem (show (gl s).length - 1 < (gl s).length by omega)))
   rw [hlast] at hr
   refine a5q [(38,[50,51,52]),(36,[50]),(42,[42,52])] mixed (by kernel_rfl) ?_
   simp only [go_sem,hG,hOw]
   refine ⟨_,e5h [(0,50),(1,51),(2,52)] (d9e G.lo s.first s.chg (gl s) (by omega) (by omega)) (by (simp only [go_sem])<;>simp [b2e]) (by (simp only [go_sem,a1d,a0r,a0i,a1l])<;>simp [b2e]) (by simp [a2m,apart,toR]) (by simp [a0n,usH,toR,b2e]) (by simp [a7f,lkR,toR]) (by simp [a3o,a1r,usH,lkR,toR,b2e]) (by simp [a5t,usH,b2e]) (by simp [tgt,a2d]) (by simp [upT,a3q,a6j,a1r,usH,lkR,toR,f0r,a2d,b2e,go_sem]),?_⟩
   simp only [hlast]
   simp only [go_sem,hG,hOw]
   refine ⟨_,a0f (d0e (e6s s) l (by omega) h4),?_⟩
   simp only [go_sem,hG,hOw]
   (repeat' with_reducible first|apply And.intro|refine exP ?_ ?_|intro);all_goals try omega
   rw [e0,show c5t s l=⟨s.first,s.chg++[a3p (e6s s) l]⟩ by simp [c5t,e0]]
   rw [List.take_of_length_le (by simp)]
   simp only [List.map_append]
   exact .refl _
 ·refine a0c [] [] (c2o s h1 h3) ?_ (by (simp only [go_sem])<;>simp [hg]) (by (simp only [go_sem,a1d,a0r,a0i,a1l])<;>simp [hg]) (by simp [a0n,usH,toR,hg])
  have e:b4t s l=112:=by simp [b4t,hg]
  simp only [hg,if_false,e]
  simp only [go_sem,hG,hOw]
  (repeat' with_reducible first|apply And.intro|refine exP ?_ ?_|intro);all_goals try omega
  exact b2q _ _ _ (by simp [c5t,e])
end Go.Proofs.YtmjhfccbbfpppaaGreatDoor
