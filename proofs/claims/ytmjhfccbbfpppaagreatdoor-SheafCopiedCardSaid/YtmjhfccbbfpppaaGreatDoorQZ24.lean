import Derived.Test.YtmjhfccbbfpppaaGreatDoorQZ22
namespace Go.Proofs.YtmjhfccbbfpppaaGreatDoor
open Go Pm
set_option linter.unusedSimpArgs false
set_option linter.unusedVariables false
set_option maxHeartbeats 4000000
set_option maxRecDepth 100000
def b0x (a:Nat) (fi:List ByteArray) (cs:List Hk) (ls:List (List ByteArray)):List (Nat×OB) :=
 [(0,.box [a0p a fi,.own 2 0 cs.length 3,.own 1 0 ls.length 1]),(1,.arr 32 1 (ls.map (d3y a))),(2,.arr 77 3 (cs.map (hkE a)))]
attribute [go_sem] b0x
theorem e0u (a:Nat) (fi:List ByteArray) (cs:List Hk) (ls:List (List ByteArray)) (h:0 < ls.length) (hl:ls.length≤1000) :
  Tri Tryz.prog 109 [.ptr 0 0] (b0x a fi cs ls) (fun _=>.ret (a0p a (ls[ls.length - 1]'(by omega))) (b0x a fi cs ls)):=by
 refine a0j (fun _=>false) Tryz.func109 Tryz.ntmps109 rfl rfl fun G hG hOw hNm=>?_;simp only [go_sem,hG,hOw]
 refine a0s mixed (by kernel_rfl) ?_
 simp only [go_sem,hG,hOw]
 (repeat' with_reducible first|refine And.intro ?_ ?_|intro _|refine exP ?_ ?_);all_goals try omega
 have e:((ls.length:Int) - 1).toNat=ls.length - 1:=by omega
 simp only [e]
 exact (a3x [(0,some 0),(1,some 1),(2,some 2)])
theorem b9w (s:Sh) (h1:s.first.length≤1000) (h3:∀ c ∈ s.chg,c.put.length≤1000):Tri Tryz.prog 107 [shE 0 s] []
  (fun n=>if gb s=true then .ret (.tup [.ptr 0 0,i64 0]) (b0x n s.first s.chg (gl s)) else .ret (.tup [.v (.pointer none),i64 112]) []):=by
 refine a0j (fun i=>[25].contains i) Tryz.func107 Tryz.ntmps107 rfl rfl fun G hG hOw hNm=>?_;simp only [go_sem,hG,hOw]
 have g11:∀ {P:Prop},gb s=true→(12≤(s.chg.length:Int))→P:=fun h h'=>by have:=c3t h;omega
 (repeat' with_reducible first|refine And.intro ?_ ?_|intro _|refine exP ?_ ?_);all_goals try omega
 ·rename_i h2
  refine a0a (a6o s.first) ?_
  simp only [go_sem,hG,hOw]
  (repeat' with_reducible first|refine And.intro ?_ ?_|intro _|refine exP ?_ ?_);all_goals try omega
  ·rename_i h4
   have hg:gb s=false:=by
    cases h:a1a s.first with
    |true=>rw [h] at h4;simp at h4
    |false=>simp [gb,h]
   simp only [hg,Bool.false_eq_true,if_false]
   simp only [go_sem,hG,hOw]
   (repeat' with_reducible first|refine And.intro ?_ ?_|intro _|refine exP ?_ ?_);all_goals try omega
   exact (a3x [])
  ·rename_i h4
   have hr:a1a s.first=true:=by
    cases h:a1a s.first with
    |true=>rfl
    |false=>rw [h] at h4;simp at h4
   refine a0s mixed (by kernel_rfl) ?_
   simp only [go_sem,hG,hOw]
   refine ⟨_,a0e (a7r s.first h1),?_⟩
   simp only [go_sem,hG,hOw]
   refine ⟨_,a0e (a7r s.first h1),?_⟩
   simp only [go_sem,hG,hOw]
   (repeat' with_reducible first|refine And.intro ?_ ?_|intro _|refine exP ?_ ?_);all_goals try omega
   refine a0m (fun k:Nat=>St.of [(4,.ptr 27 0),(29,hks 0 s.chg),(30,i64 s.chg.length),(31,i64 k)] [(27,.box [a0p G.lo s.first,.own 90 0 k 3,.own 91 0 (k+1) 1]),(90,.arr 77 3 ((s.chg.take k).map (hkE G.lo))),(91,.arr 32 1 ((b2x s.first (s.chg.take k)).map (d3y G.lo)))])
    (fun k=>k≤s.chg.length∧d3x s.first (s.chg.take k)=true) (fun k=>s.chg.length - k) 0 ⟨Nat.zero_le _,rfl⟩ (a2d [(27,some 27),(90,none),(91,some 25)] (by (simp only [go_sem])<;>simp [b2x,d3y,a0p]) (by (simp only [go_sem,a1k,a0r,a0i,a1p])<;>simp [b2x,d3y,a0p])) ?_
   rintro k ⟨hk,hgk⟩
   have hlen:(b2x s.first (s.chg.take k)).length=k+1:=by rw [d0e,List.length_take];omega
   have hlk:(s.chg.take k).length=k:=by rw [List.length_take];omega
   have hmin:min k s.chg.length=k:=Nat.min_eq_left hk
   have hcur:(b2x s.first (s.chg.take k))[(b2x s.first (s.chg.take k)).length - 1]'(by omega)=(s.chg.take k).foldl a3h s.first:=c3c _ _ _ _ (by omega)
   have hrow:=a8z (c3j _ _ hr hgk _ (List.getElem_mem (show (b2x s.first (s.chg.take k)).length - 1 < (b2x s.first (s.chg.take k)).length by omega)))
   rw [hcur] at hrow
   have hl11:s.chg.length≤11:=by omega
   refine a0d _ _ _ ?_;simp only [go_sem,hG,hOw]
   (repeat' with_reducible first|refine And.intro ?_ ?_|intro _|refine exP ?_ ?_);all_goals try omega
   ·rename_i hlt
    have hkl:k < s.chg.length:=by omega
    have hbk:d3x s.first (s.chg.take (k+1))=(a8m ((s.chg.take k).foldl a3h s.first) s.chg[k] && a1a (a3h ((s.chg.take k).foldl a3h s.first) s.chg[k])):=by
     rw [List.take_add_one,List.getElem?_eq_getElem hkl,c9o,hgk];simp [d3x]
    have hlk1:b2x s.first (s.chg.take (k+1))=b2x s.first (s.chg.take k)++[a3h ((s.chg.take k).foldl a3h s.first) s.chg[k]]:=by
     rw [List.take_add_one,List.getElem?_eq_getElem hkl];exact d9k _ _ _
    have bad:d3x s.first (s.chg.take (k+1))=false→gb s=false:=fun h=>by
     have:=c9o (s.chg.take (k+1)) (s.chg.drop (k+1)) s.first
     rw [List.take_append_drop,h] at this
     simp [gb,this]
    refine a0c [(0,27),(1,91),(2,90)] [] (e0u G.lo s.first (s.chg.take k) (b2x s.first (s.chg.take k)) (by omega) (by omega)) ?_ (by (simp only [go_sem])<;>simp [b0x,hlen,hmin]) (by (simp only [go_sem,a1k,a0r,a0i,a1p])<;>simp [b0x,hlen,hmin]) (by simp [a0k,usH,toR,b0x,hlen,hmin])
    simp only [hcur]
    simp only [go_sem,hG,hOw]
    (repeat' with_reducible first|refine And.intro ?_ ?_|intro _|refine exP ?_ ?_);all_goals try omega
    refine a0a (c8a 0 ((s.chg.take k).foldl a3h s.first).length s.chg[k].lo) ?_
    simp only [go_sem,hG,hOw]
    have nomade:a8m ((s.chg.take k).foldl a3h s.first) s.chg[k]=false→gb s=false:=fun h=>bad (by rw [hbk,h];rfl)
    have hput:=h3 _ (List.getElem_mem hkl)
    (repeat' with_reducible first|refine And.intro ?_ ?_|intro _|refine exP ?_ ?_);all_goals try omega
    ·rename_i h5;simp only [Bool.and_eq_true,decide_eq_true_eq] at h5;omega
    ·rename_i h5;simp only [Bool.and_eq_true,decide_eq_true_eq] at h5;omega
    ·rename_i h5
     refine a0a (c8a 0 (((s.chg.take k).foldl a3h s.first).length - s.chg[k].lo) s.chg[k].drop) ?_
     simp only [go_sem,hG,hOw]
     (repeat' with_reducible first|refine And.intro ?_ ?_|intro _|refine exP ?_ ?_);all_goals try omega
     ·rename_i h6
      have hg:gb s=false:=nomade (by simp only [a8m];rw [h5,h6];rfl)
      simp only [hg,Bool.false_eq_true,if_false]
      simp only [go_sem,hG,hOw]
      (repeat' with_reducible first|refine And.intro ?_ ?_|intro _|refine exP ?_ ?_);all_goals try omega
      exact (a3x [])
     ·rename_i h6
      have hm:a8m ((s.chg.take k).foldl a3h s.first) s.chg[k]=true:=by simp only [a8m];rw [h5,h6];rfl
      refine a0a (c4y ((s.chg.take k).foldl a3h s.first) s.chg[k] (by omega) hput hm) ?_
      simp only [go_sem,hG,hOw]
      refine a0a (a6o (a3h ((s.chg.take k).foldl a3h s.first) s.chg[k])) ?_
      simp only [go_sem,hG,hOw]
      (repeat' with_reducible first|refine And.intro ?_ ?_|intro _|refine exP ?_ ?_);all_goals try omega
      ·rename_i h7
       have hg:gb s=false:=bad (by
        rw [hbk,hm]
        cases h:a1a (a3h ((s.chg.take k).foldl a3h s.first) s.chg[k]) with
        |true=>rw [h] at h7;simp at h7
        |false=>rfl)
       simp only [hg,Bool.false_eq_true,if_false]
       simp only [go_sem,hG,hOw]
       (repeat' with_reducible first|refine And.intro ?_ ?_|intro _|refine exP ?_ ?_);all_goals try omega
       exact (a3x [])
      ·rename_i h7
       have hr2:a1a (a3h ((s.chg.take k).foldl a3h s.first) s.chg[k])=true:=by
        cases h:a1a (a3h ((s.chg.take k).foldl a3h s.first) s.chg[k]) with
        |true=>rfl
        |false=>rw [h] at h7;simp at h7
       refine a0a (a7r s.chg[k].put hput) ?_
       simp only [go_sem,hG,hOw]
       refine a9n [(79,[27]),(75,[75,90]),(82,[82,91])] mixed (by kernel_rfl) ?_
       simp only [go_sem,hG,hOw]
       (repeat' with_reducible first|refine And.intro ?_ ?_|intro _|refine exP ?_ ?_);all_goals try omega
       refine ⟨k+1,⟨by omega,by rw [hbk,hm,hr2];rfl⟩,by omega,?_⟩
       exact a2d [(27,some 27),(90,some 75),(91,some 82)] (by (simp only [go_sem])<;>simp [hlk1,a3g _ _ _ hkl,hlen,hmin,hkE,d3y,i64,a0p]) (by (simp only [go_sem,a1k,a0r,a0i,a1p])<;>simp [hlk1,a3g _ _ _ hkl,hlen,hmin,hkE,d3y,i64,a0p])
    ·rename_i h5
     have hg:gb s=false:=nomade (by simp only [a8m];rw [h5];rfl)
     simp only [hg,Bool.false_eq_true,if_false]
     simp only [go_sem,hG,hOw]
     (repeat' with_reducible first|refine And.intro ?_ ?_|intro _|refine exP ?_ ?_);all_goals try omega
     exact (a3x [])
   ·rename_i hge
    obtain rfl:k=s.chg.length:=by omega
    rw [List.take_length] at hgk hlen ⊢
    have hg:gb s=true:=by simp only [gb,hr,hgk];rw [decide_eq_true (by omega)];rfl
    simp only [hg,if_true]
    simp only [go_sem,hG,hOw]
    (repeat' with_reducible first|refine And.intro ?_ ?_|intro _|refine exP ?_ ?_);all_goals try omega
    exact ⟨[(0,some 27),(1,some 91),(2,some 90)],by (simp only [b6w,go_sem,a1k,a0r,a0i,a1p,apart,a2p,a0k])<;>simp [gl,hg,hlen]⟩
 ·rename_i h2
  have hg:gb s=false:=by simp only [gb];rw [decide_eq_false (by omega)];rfl
  simp only [hg,Bool.false_eq_true,if_false]
  simp only [go_sem,hG,hOw]
  (repeat' with_reducible first|refine And.intro ?_ ?_|intro _|refine exP ?_ ?_);all_goals try omega
  exact (a3x [])
open Go Pm
set_option maxHeartbeats 4000000
set_option maxRecDepth 100000
theorem a6b (s:Sh) (n:Int) (h1:s.first.length≤1000) (h3:∀ c ∈ s.chg,c.put.length≤1000):Tri Tryz.prog 115 [shE 0 s,i64 n] []
  (fun lo=>if gb s=true then .ret (.tup [.ptr 0 0,i64 (a6l s n)]) (b0x lo s.first s.chg (gl s)) else .ret (.tup [.v (.pointer none),i64 (a6l s n)]) []):=by
 refine a0j (fun _=>false) Tryz.func115 Tryz.ntmps115 rfl rfl fun G hG hOw hNm=>?_;simp only [go_sem,hG,hOw]
 by_cases hg:gb s=true
 ·have hl:=c8q hg
  have hb:=c3t hg
  refine a0c [] [(0,50),(1,51),(2,52)] (b9w s h1 h3) ?_ (by (simp only [go_sem])<;>simp [hg]) (by (simp only [go_sem,a1k,a0r,a0i,a1p])<;>simp [hg]) (by simp [a0k,usH,toR,hg])
  simp only [hg,if_true]
  simp only [go_sem,hG,hOw]
  (repeat' with_reducible first|refine And.intro ?_ ?_|intro _|refine exP ?_ ?_);all_goals try omega
  refine a0a (c8a 0 ((gl s).length - 1) n) ?_
  simp only [go_sem,hG,hOw]
  (repeat' with_reducible first|refine And.intro ?_ ?_|intro _|refine exP ?_ ?_);all_goals try omega
  ·rename_i h2
   have e:a6l s n=2:=by
    simp at h2
    simp only [a6l,hg]
    rw [if_neg (by decide),if_neg (by omega)]
   rw [e]
   exact ⟨[(0,some 50),(1,some 51),(2,some 52)],by (simp only [b6w,go_sem,a1k,a0r,a0i,a1p,apart,a2p,a0k])<;>simp [hg]⟩
  ·rename_i h2
   have e:a6l s n=0:=by
    simp at h2
    simp only [a6l,hg]
    rw [if_neg (by decide),if_pos (by omega)]
   rw [e]
   exact ⟨[(0,some 50),(1,some 51),(2,some 52)],by (simp only [b6w,go_sem,a1k,a0r,a0i,a1p,apart,a2p,a0k])<;>simp [hg]⟩
 ·refine a0c [] [] (b9w s h1 h3) ?_ (by (simp only [go_sem])<;>simp [hg]) (by (simp only [go_sem,a1k,a0r,a0i,a1p])<;>simp [hg]) (by simp [a0k,usH,toR,hg])
  have e:a6l s n=112:=by simp [a6l,hg]
  simp only [hg,if_false,e]
  simp only [go_sem,hG,hOw]
  (repeat' with_reducible first|refine And.intro ?_ ?_|intro _|refine exP ?_ ?_);all_goals try omega
  exact (a3x [])
theorem f1t (s:Sh) (n:Int) (h1:s.first.length≤1000) (h3:∀ c ∈ s.chg,c.put.length≤1000):a0n Tryz.prog 39 [shE 0 s,i64 n] (fun lo=>.tup [a0p lo (b6g s n),i64 (a6l s n)]):=by
 refine a0b (ow:=fun _=>false) Tryz.func39 Tryz.ntmps39 rfl rfl fun G hG hOw hNm hB=>?_;simp only [go_sem,hG,hOw]
 by_cases hg:gb s=true
 ·have hl:=c8q hg
  have hb:=c3t hg
  have hE:a6l s n=0→0≤n∧n≤s.chg.length:=fun h=>by
   simp only [a6l,hg] at h
   split at h
   ·cases h
   ·split at h
    ·assumption
    ·cases h
  refine a0c [] [(0,50),(1,51),(2,52)] (a6b s n h1 h3) ?_ (by (simp only [go_sem])<;>simp [hg]) (by (simp only [go_sem,a1k,a0r,a0i,a1p])<;>simp [hg]) (by simp [a0k,usH,toR,hg])
  simp only [hg,if_true]
  simp only [go_sem,hG,hOw]
  (repeat' with_reducible first|refine And.intro ?_ ?_|intro _|refine exP ?_ ?_);all_goals try omega
  ·rename_i h
   rw [show b6g s n=[] by simp [b6g,h]]
   exact Subs.tup (.cons (.nil _ _) (.cons (.refl _) .nil))
  ·rename_i h
   have:=hE h
   rw [show b6g s n=(gl s)[n.toNat]'(by omega) by simp [b6g,h];rw [List.getElem?_eq_getElem (by omega)];rfl,h]
   exact .refl _
 ·refine a0c [] [] (a6b s n h1 h3) ?_ (by (simp only [go_sem])<;>simp [hg]) (by (simp only [go_sem,a1k,a0r,a0i,a1p])<;>simp [hg]) (by simp [a0k,usH,toR,hg])
  have e:a6l s n=112:=by simp [a6l,hg]
  simp only [hg,if_false,e]
  simp only [go_sem,hG,hOw]
  (repeat' with_reducible first|refine And.intro ?_ ?_|intro _|refine exP ?_ ?_);all_goals try omega
  rw [show b6g s n=[] by simp [b6g,e]]
  exact Subs.tup (.cons (.nil _ _) (.cons (.refl _) .nil))
theorem e5k (s:Sh) (n:Int) (h1:s.first.length≤1000) (h3:∀ c ∈ s.chg,c.put.length≤1000):a0n Tryz.prog 40 [shE 0 s,i64 n] (fun lo=>.tup [shE lo (b5s s n),i64 (a6l s n)]):=by
 refine a0b (ow:=fun _=>false) Tryz.func40 Tryz.ntmps40 rfl rfl fun G hG hOw hNm hB=>?_;simp only [go_sem,hG,hOw]
 by_cases hg:gb s=true
 ·have hl:=c8q hg
  have hb:=c3t hg
  have hE:a6l s n=0→0≤n∧n≤s.chg.length:=fun h=>by
   simp only [a6l,hg] at h
   split at h
   ·cases h
   ·split at h
    ·assumption
    ·cases h
  refine a0c [] [(0,50),(1,51),(2,52)] (a6b s n h1 h3) ?_ (by (simp only [go_sem])<;>simp [hg]) (by (simp only [go_sem,a1k,a0r,a0i,a1p])<;>simp [hg]) (by simp [a0k,usH,toR,hg])
  simp only [hg,if_true]
  simp only [go_sem,hG,hOw]
  (repeat' with_reducible first|refine And.intro ?_ ?_|intro _|refine exP ?_ ?_);all_goals try omega
  ·rename_i h
   exact b0u _ _ _ (by simp [b5s,h])
  ·rename_i h
   refine a0s mixed (by kernel_rfl) ?_
   simp only [go_sem,hG,hOw]
   have:=hE h
   (repeat' with_reducible first|refine And.intro ?_ ?_|intro _|refine exP ?_ ?_);all_goals try omega
   rw [List.take_of_length_le (by simp),show b5s s n=⟨(gl s)[n.toNat]'(by omega),s.chg.drop n.toNat⟩ by simp [b5s,b6g,h];rw [List.getElem?_eq_getElem (by omega)];rfl,h]
   exact .refl _
 ·refine a0c [] [] (a6b s n h1 h3) ?_ (by (simp only [go_sem])<;>simp [hg]) (by (simp only [go_sem,a1k,a0r,a0i,a1p])<;>simp [hg]) (by simp [a0k,usH,toR,hg])
  have e:a6l s n=112:=by simp [a6l,hg]
  simp only [hg,if_false,e]
  simp only [go_sem,hG,hOw]
  (repeat' with_reducible first|refine And.intro ?_ ?_|intro _|refine exP ?_ ?_);all_goals try omega
  exact b0u _ _ _ (by simp [b5s,e])
theorem f2m (s:Sh) (l:List ByteArray) (h1:s.first.length≤1000) (h3:∀ c ∈ s.chg,c.put.length≤1000) (h4:l.length≤1000):a0n Tryz.prog 33 [shE 0 s,a0p 0 l] (fun lo=>.tup [shE lo (c2f s l),i64 (b3h s l)]):=by
 refine a0b (ow:=fun _=>false) Tryz.func33 Tryz.ntmps33 rfl rfl fun G hG hOw hNm hB=>?_;simp only [go_sem,hG,hOw]
 by_cases hg:gb s=true
 ·have hl:=c8q hg
  have hb:=c3t hg
  refine a0c [] [(0,50),(1,51),(2,52)] (b9w s h1 h3) ?_ (by (simp only [go_sem])<;>simp [hg]) (by (simp only [go_sem,a1k,a0r,a0i,a1p])<;>simp [hg]) (by simp [a0k,usH,toR,hg])
  simp only [hg,if_true]
  simp only [go_sem,hG,hOw]
  refine a0a (a6o l) ?_
  simp only [go_sem,hG,hOw]
  (repeat' with_reducible first|refine And.intro ?_ ?_|intro _|refine exP ?_ ?_);all_goals try omega
  ·rename_i h2
   have e:b3h s l=110:=by
    cases h:a1a l with
    |true=>rw [h] at h2;simp at h2
    |false=>simp [b3h,hg,h]
   rw [e]
   exact b0u _ _ _ (by simp [c2f,e])
  ·rename_i h2 h3
   have h2':a1a l=true:=by
    cases h:a1a l with
    |true=>rfl
    |false=>rw [h] at h2;simp at h2
   have e:b3h s l=9:=by simp [b3h,hg,h2'];omega
   rw [e]
   exact b0u _ _ _ (by simp [c2f,e])
  ·rename_i h2 h3'
   have h2':a1a l=true:=by
    cases h:a1a l with
    |true=>rfl
    |false=>rw [h] at h2;simp at h2
   have e0:b3h s l=0:=by simp [b3h,hg,h2'];omega
   have hlast:=f1y hg ((gl s).length - 1) (by omega) (by omega)
   have hr:=a8z (f0b hg _ (List.getElem_mem (show (gl s).length - 1 < (gl s).length by omega)))
   rw [hlast] at hr
   refine a9n [(38,[50,51,52]),(36,[50]),(42,[42,52])] mixed (by kernel_rfl) ?_
   simp only [go_sem,hG,hOw]
   refine ⟨_,d7b [(0,50),(1,51),(2,52)] (e0u G.lo s.first s.chg (gl s) (by omega) (by omega)) (by (simp only [go_sem])<;>simp [b0x]) (by (simp only [go_sem,a1k,a0r,a0i,a1p])<;>simp [b0x]) (by simp [a2p,apart,toR]) (by simp [a0k,usH,toR,b0x]) (by simp [a7b,lkR,toR]) (by simp [a3o,a1o,usH,lkR,toR,b0x]) (by simp [a5f,usH,b0x]) (by simp [tgt,a2g]) (by simp [upT,a3l,a6c,a1o,usH,lkR,toR,e5j,a2g,b0x,go_sem]),?_⟩
   simp only [hlast]
   simp only [go_sem,hG,hOw]
   refine ⟨_,a0e (c7n (e7j s) l (by omega) h4),?_⟩
   simp only [go_sem,hG,hOw]
   (repeat' with_reducible first|refine And.intro ?_ ?_|intro _|refine exP ?_ ?_);all_goals try omega
   rw [e0,show c2f s l=⟨s.first,s.chg++[a3k (e7j s) l]⟩ by simp [c2f,e0]]
   rw [List.take_of_length_le (by simp)]
   simp only [List.map_append]
   exact .refl _
 ·refine a0c [] [] (b9w s h1 h3) ?_ (by (simp only [go_sem])<;>simp [hg]) (by (simp only [go_sem,a1k,a0r,a0i,a1p])<;>simp [hg]) (by simp [a0k,usH,toR,hg])
  have e:b3h s l=112:=by simp [b3h,hg]
  simp only [hg,if_false,e]
  simp only [go_sem,hG,hOw]
  (repeat' with_reducible first|refine And.intro ?_ ?_|intro _|refine exP ?_ ?_);all_goals try omega
  exact b0u _ _ _ (by simp [c2f,e])
end Go.Proofs.YtmjhfccbbfpppaaGreatDoor
