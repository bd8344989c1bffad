import Derived.Test.YtmjhfccbbfpppaaGreatDoorQA19
namespace Go.Proofs.YtmjhfccbbfpppaaGreatDoor
open Go Pm
set_option linter.unusedSimpArgs false
set_option linter.unusedVariables false
set_option maxHeartbeats 4000000
set_option maxRecDepth 100000
def b1y (a:Nat) (fi:List ByteArray) (cs:List Hk) (ls:List (List ByteArray)):List (Nat×OB) :=
 [(0,.box [a0o a fi,.own 2 0 cs.length 3,.own 1 0 ls.length 1]),(1,.arr 32 1 (ls.map (d5n a))),(2,.arr 77 3 (cs.map (hkE a)))]
attribute [go_sem] b1y
theorem d5y (a:Nat) (fi:List ByteArray) (cs:List Hk) (ls:List (List ByteArray)) (h:0 < ls.length) (hl:ls.length≤1000) :
  Tri Tryz.prog 109 [.ptr 0 0] (b1y a fi cs ls) (fun _=>.ret (a0o a (ls[ls.length - 1]'(by omega))) (b1y a fi cs ls)):=by
 refine a0k (fun _=>false) Tryz.func109 Tryz.ntmps109 rfl rfl fun G hG hOw hNm=>?_;simp only [go_sem,hG,hOw]
 refine a0r mixed (by kernel_rfl) ?_
 simp only [go_sem,hG,hOw]
 (repeat' with_reducible first|refine And.intro ?_ ?_|intro _|refine exP ?_ ?_);all_goals try omega
 have e:((ls.length:Int) - 1).toNat=ls.length - 1:=by omega
 simp only [e]
 exact (a3t [(0,some 0),(1,some 1),(2,some 2)])
theorem c1k (s:Sh) (h1:s.first.length≤1000) (h3:∀ c ∈ s.chg,c.put.length≤1000):Tri Tryz.prog 107 [shE 0 s] []
  (fun n=>if gb s=true then .ret (.tup [.ptr 0 0,i64 0]) (b1y n s.first s.chg (gl s)) else .ret (.tup [.v (.pointer none),i64 112]) []):=by
 refine a0k (fun i=>[25].contains i) Tryz.func107 Tryz.ntmps107 rfl rfl fun G hG hOw hNm=>?_;simp only [go_sem,hG,hOw]
 have g11:∀ {P:Prop},gb s=true→(12≤(s.chg.length:Int))→P:=fun h h'=>by have:=c2f h;omega
 (repeat' with_reducible first|refine And.intro ?_ ?_|intro _|refine exP ?_ ?_);all_goals try omega
 ·rename_i h2
  refine a0a (a6z s.first) ?_
  simp only [go_sem,hG,hOw]
  (repeat' with_reducible first|refine And.intro ?_ ?_|intro _|refine exP ?_ ?_);all_goals try omega
  ·rename_i h4
   have hg:gb s=false:=by
    cases h:a1d s.first with
    |true=>rw [h] at h4;simp at h4
    |false=>simp [gb,h]
   simp only [hg,Bool.false_eq_true,if_false]
   simp only [go_sem,hG,hOw]
   (repeat' with_reducible first|refine And.intro ?_ ?_|intro _|refine exP ?_ ?_);all_goals try omega
   exact (a3t [])
  ·rename_i h4
   have hr:a1d s.first=true:=by
    cases h:a1d s.first with
    |true=>rfl
    |false=>rw [h] at h4;simp at h4
   refine a0r mixed (by kernel_rfl) ?_
   simp only [go_sem,hG,hOw]
   refine ⟨_,a0e (a8g s.first h1),?_⟩
   simp only [go_sem,hG,hOw]
   refine ⟨_,a0e (a8g s.first h1),?_⟩
   simp only [go_sem,hG,hOw]
   (repeat' with_reducible first|refine And.intro ?_ ?_|intro _|refine exP ?_ ?_);all_goals try omega
   refine a0i (fun k:Nat=>St.of [(4,.ptr 27 0),(29,hks 0 s.chg),(30,i64 s.chg.length),(31,i64 k)] [(27,.box [a0o G.lo s.first,.own 90 0 k 3,.own 91 0 (k+1) 1]),(90,.arr 77 3 ((s.chg.take k).map (hkE G.lo))),(91,.arr 32 1 ((b3p s.first (s.chg.take k)).map (d5n G.lo)))])
    (fun k=>k≤s.chg.length∧d2p s.first (s.chg.take k)=true) (fun k=>s.chg.length - k) 0 ⟨Nat.zero_le _,rfl⟩ (a1m [(27,some 27),(90,none),(91,some 25)] (by (simp only [go_sem])<;>simp [b3p,d5n,a0o]) (by (simp only [go_sem,a1k,a0s,a0j,a1q])<;>simp [b3p,d5n,a0o])) ?_
   rintro k ⟨hk,hgk⟩
   have hlen:(b3p s.first (s.chg.take k)).length=k+1:=by rw [d0g,List.length_take];omega
   have hlk:(s.chg.take k).length=k:=by rw [List.length_take];omega
   have hmin:min k s.chg.length=k:=Nat.min_eq_left hk
   have hcur:(b3p s.first (s.chg.take k))[(b3p s.first (s.chg.take k)).length - 1]'(by omega)=(s.chg.take k).foldl a3f s.first:=c5f _ _ _ _ (by omega)
   have hrow:=a8z (c2k _ _ hr hgk _ (List.getElem_mem (show (b3p s.first (s.chg.take k)).length - 1 < (b3p s.first (s.chg.take k)).length by omega)))
   rw [hcur] at hrow
   have hl11:s.chg.length≤11:=by omega
   refine a0d _ _ _ ?_;simp only [go_sem,hG,hOw]
   (repeat' with_reducible first|refine And.intro ?_ ?_|intro _|refine exP ?_ ?_);all_goals try omega
   ·rename_i hlt
    have hkl:k < s.chg.length:=by omega
    have hbk:d2p s.first (s.chg.take (k+1))=(a8p ((s.chg.take k).foldl a3f s.first) s.chg[k] && a1d (a3f ((s.chg.take k).foldl a3f s.first) s.chg[k])):=by
     rw [List.take_add_one,List.getElem?_eq_getElem hkl,d1r,hgk];simp [d2p]
    have hlk1:b3p s.first (s.chg.take (k+1))=b3p s.first (s.chg.take k)++[a3f ((s.chg.take k).foldl a3f s.first) s.chg[k]]:=by
     rw [List.take_add_one,List.getElem?_eq_getElem hkl];exact d7c _ _ _
    have bad:d2p s.first (s.chg.take (k+1))=false→gb s=false:=fun h=>by
     have:=d1r (s.chg.take (k+1)) (s.chg.drop (k+1)) s.first
     rw [List.take_append_drop,h] at this
     simp [gb,this]
    refine a0c [(0,27),(1,91),(2,90)] [] (d5y G.lo s.first (s.chg.take k) (b3p s.first (s.chg.take k)) (by omega) (by omega)) ?_ (by (simp only [go_sem])<;>simp [b1y,hlen,hmin]) (by (simp only [go_sem,a1k,a0s,a0j,a1q])<;>simp [b1y,hlen,hmin]) (by simp [a0q,usH,toR,b1y,hlen,hmin])
    simp only [hcur]
    simp only [go_sem,hG,hOw]
    (repeat' with_reducible first|refine And.intro ?_ ?_|intro _|refine exP ?_ ?_);all_goals try omega
    refine a0a (d1a 0 ((s.chg.take k).foldl a3f s.first).length s.chg[k].lo) ?_
    simp only [go_sem,hG,hOw]
    have nomade:a8p ((s.chg.take k).foldl a3f s.first) s.chg[k]=false→gb s=false:=fun h=>bad (by rw [hbk,h];rfl)
    have hput:=h3 _ (List.getElem_mem hkl)
    (repeat' with_reducible first|refine And.intro ?_ ?_|intro _|refine exP ?_ ?_);all_goals try omega
    ·rename_i h5;simp only [Bool.and_eq_true,decide_eq_true_eq] at h5;omega
    ·rename_i h5;simp only [Bool.and_eq_true,decide_eq_true_eq] at h5;omega
    ·rename_i h5
     refine a0a (d1a 0 (((s.chg.take k).foldl a3f s.first).length - s.chg[k].lo) s.chg[k].drop) ?_
     simp only [go_sem,hG,hOw]
     (repeat' with_reducible first|refine And.intro ?_ ?_|intro _|refine exP ?_ ?_);all_goals try omega
     ·rename_i h6
      have hg:gb s=false:=nomade (by simp only [a8p];rw [h5,h6];rfl)
      simp only [hg,Bool.false_eq_true,if_false]
      simp only [go_sem,hG,hOw]
      (repeat' with_reducible first|refine And.intro ?_ ?_|intro _|refine exP ?_ ?_);all_goals try omega
      exact (a3t [])
     ·rename_i h6
      have hm:a8p ((s.chg.take k).foldl a3f s.first) s.chg[k]=true:=by simp only [a8p];rw [h5,h6];rfl
      refine a0a (c8b ((s.chg.take k).foldl a3f s.first) s.chg[k] (by omega) hput hm) ?_
      simp only [go_sem,hG,hOw]
      refine a0a (a6z (a3f ((s.chg.take k).foldl a3f s.first) s.chg[k])) ?_
      simp only [go_sem,hG,hOw]
      (repeat' with_reducible first|refine And.intro ?_ ?_|intro _|refine exP ?_ ?_);all_goals try omega
      ·rename_i h7
       have hg:gb s=false:=bad (by
        rw [hbk,hm]
        cases h:a1d (a3f ((s.chg.take k).foldl a3f s.first) s.chg[k]) with
        |true=>rw [h] at h7;simp at h7
        |false=>rfl)
       simp only [hg,Bool.false_eq_true,if_false]
       simp only [go_sem,hG,hOw]
       (repeat' with_reducible first|refine And.intro ?_ ?_|intro _|refine exP ?_ ?_);all_goals try omega
       exact (a3t [])
      ·rename_i h7
       have hr2:a1d (a3f ((s.chg.take k).foldl a3f s.first) s.chg[k])=true:=by
        cases h:a1d (a3f ((s.chg.take k).foldl a3f s.first) s.chg[k]) with
        |true=>rfl
        |false=>rw [h] at h7;simp at h7
       refine a0a (a8g s.chg[k].put hput) ?_
       simp only [go_sem,hG,hOw]
       refine a9s [(79,[27]),(75,[75,90]),(82,[82,91])] mixed (by kernel_rfl) ?_
       simp only [go_sem,hG,hOw]
       (repeat' with_reducible first|refine And.intro ?_ ?_|intro _|refine exP ?_ ?_);all_goals try omega
       refine ⟨k+1,⟨by omega,by rw [hbk,hm,hr2];rfl⟩,by omega,?_⟩
       exact a1m [(27,some 27),(90,some 75),(91,some 82)] (by (simp only [go_sem])<;>simp [hlk1,a2l _ _ _ hkl,hlen,hmin,hkE,d5n,i64,a0o]) (by (simp only [go_sem,a1k,a0s,a0j,a1q])<;>simp [hlk1,a2l _ _ _ hkl,hlen,hmin,hkE,d5n,i64,a0o])
    ·rename_i h5
     have hg:gb s=false:=nomade (by simp only [a8p];rw [h5];rfl)
     simp only [hg,Bool.false_eq_true,if_false]
     simp only [go_sem,hG,hOw]
     (repeat' with_reducible first|refine And.intro ?_ ?_|intro _|refine exP ?_ ?_);all_goals try omega
     exact (a3t [])
   ·rename_i hge
    obtain rfl:k=s.chg.length:=by omega
    rw [List.take_length] at hgk hlen ⊢
    have hg:gb s=true:=by simp only [gb,hr,hgk];rw [decide_eq_true (by omega)];rfl
    simp only [hg,if_true]
    simp only [go_sem,hG,hOw]
    (repeat' with_reducible first|refine And.intro ?_ ?_|intro _|refine exP ?_ ?_);all_goals try omega
    exact ⟨[(0,some 27),(1,some 91),(2,some 90)],by (simp only [b8m,go_sem,a1k,a0s,a0j,a1q,apart,a2r,a0q])<;>simp [gl,hg,hlen]⟩
 ·rename_i h2
  have hg:gb s=false:=by simp only [gb];rw [decide_eq_false (by omega)];rfl
  simp only [hg,Bool.false_eq_true,if_false]
  simp only [go_sem,hG,hOw]
  (repeat' with_reducible first|refine And.intro ?_ ?_|intro _|refine exP ?_ ?_);all_goals try omega
  exact (a3t [])
open Go Pm
set_option maxHeartbeats 4000000
set_option maxRecDepth 100000
theorem a6d (s:Sh) (n:Int) (h1:s.first.length≤1000) (h3:∀ c ∈ s.chg,c.put.length≤1000):Tri Tryz.prog 115 [shE 0 s,i64 n] []
  (fun lo=>if gb s=true then .ret (.tup [.ptr 0 0,i64 (a6l s n)]) (b1y lo s.first s.chg (gl s)) else .ret (.tup [.v (.pointer none),i64 (a6l s n)]) []):=by
 refine a0k (fun _=>false) Tryz.func115 Tryz.ntmps115 rfl rfl fun G hG hOw hNm=>?_;simp only [go_sem,hG,hOw]
 by_cases hg:gb s=true
 ·have hl:=d1e hg
  have hb:=c2f hg
  refine a0c [] [(0,50),(1,51),(2,52)] (c1k s h1 h3) ?_ (by (simp only [go_sem])<;>simp [hg]) (by (simp only [go_sem,a1k,a0s,a0j,a1q])<;>simp [hg]) (by simp [a0q,usH,toR,hg])
  simp only [hg,if_true]
  simp only [go_sem,hG,hOw]
  (repeat' with_reducible first|refine And.intro ?_ ?_|intro _|refine exP ?_ ?_);all_goals try omega
  refine a0a (d1a 0 ((gl s).length - 1) n) ?_
  simp only [go_sem,hG,hOw]
  (repeat' with_reducible first|refine And.intro ?_ ?_|intro _|refine exP ?_ ?_);all_goals try omega
  ·rename_i h2
   have e:a6l s n=2:=by
    simp at h2
    simp only [a6l,hg]
    rw [if_neg (by decide),if_neg (by omega)]
   rw [e]
   exact ⟨[(0,some 50),(1,some 51),(2,some 52)],by (simp only [b8m,go_sem,a1k,a0s,a0j,a1q,apart,a2r,a0q])<;>simp [hg]⟩
  ·rename_i h2
   have e:a6l s n=0:=by
    simp at h2
    simp only [a6l,hg]
    rw [if_neg (by decide),if_pos (by omega)]
   rw [e]
   exact ⟨[(0,some 50),(1,some 51),(2,some 52)],by (simp only [b8m,go_sem,a1k,a0s,a0j,a1q,apart,a2r,a0q])<;>simp [hg]⟩
 ·refine a0c [] [] (c1k s h1 h3) ?_ (by (simp only [go_sem])<;>simp [hg]) (by (simp only [go_sem,a1k,a0s,a0j,a1q])<;>simp [hg]) (by simp [a0q,usH,toR,hg])
  have e:a6l s n=112:=by simp [a6l,hg]
  simp only [hg,if_false,e]
  simp only [go_sem,hG,hOw]
  (repeat' with_reducible first|refine And.intro ?_ ?_|intro _|refine exP ?_ ?_);all_goals try omega
  exact (a3t [])
theorem f2j (s:Sh) (n:Int) (h1:s.first.length≤1000) (h3:∀ c ∈ s.chg,c.put.length≤1000):a0l Tryz.prog 39 [shE 0 s,i64 n] (fun lo=>.tup [a0o lo (b4t s n),i64 (a6l s n)]):=by
 refine a0b (ow:=fun _=>false) Tryz.func39 Tryz.ntmps39 rfl rfl fun G hG hOw hNm hB=>?_;simp only [go_sem,hG,hOw]
 by_cases hg:gb s=true
 ·have hl:=d1e hg
  have hb:=c2f hg
  have hE:a6l s n=0→0≤n∧n≤s.chg.length:=fun h=>by
   simp only [a6l,hg] at h
   split at h
   ·cases h
   ·split at h
    ·assumption
    ·cases h
  refine a0c [] [(0,50),(1,51),(2,52)] (a6d s n h1 h3) ?_ (by (simp only [go_sem])<;>simp [hg]) (by (simp only [go_sem,a1k,a0s,a0j,a1q])<;>simp [hg]) (by simp [a0q,usH,toR,hg])
  simp only [hg,if_true]
  simp only [go_sem,hG,hOw]
  (repeat' with_reducible first|refine And.intro ?_ ?_|intro _|refine exP ?_ ?_);all_goals try omega
  ·rename_i h
   rw [show b4t s n=[] by simp [b4t,h]]
   exact Subs.tup (.cons (.nil _ _) (.cons (.refl _) .nil))
  ·rename_i h
   have:=hE h
   rw [show b4t s n=(gl s)[n.toNat]'(by omega) by simp [b4t,h];rw [List.getElem?_eq_getElem (by omega)];rfl,h]
   exact .refl _
 ·refine a0c [] [] (a6d s n h1 h3) ?_ (by (simp only [go_sem])<;>simp [hg]) (by (simp only [go_sem,a1k,a0s,a0j,a1q])<;>simp [hg]) (by simp [a0q,usH,toR,hg])
  have e:a6l s n=112:=by simp [a6l,hg]
  simp only [hg,if_false,e]
  simp only [go_sem,hG,hOw]
  (repeat' with_reducible first|refine And.intro ?_ ?_|intro _|refine exP ?_ ?_);all_goals try omega
  rw [show b4t s n=[] by simp [b4t,e]]
  exact Subs.tup (.cons (.nil _ _) (.cons (.refl _) .nil))
theorem f0k (s:Sh) (n:Int) (h1:s.first.length≤1000) (h3:∀ c ∈ s.chg,c.put.length≤1000):a0l Tryz.prog 40 [shE 0 s,i64 n] (fun lo=>.tup [shE lo (b6z s n),i64 (a6l s n)]):=by
 refine a0b (ow:=fun _=>false) Tryz.func40 Tryz.ntmps40 rfl rfl fun G hG hOw hNm hB=>?_;simp only [go_sem,hG,hOw]
 by_cases hg:gb s=true
 ·have hl:=d1e hg
  have hb:=c2f hg
  have hE:a6l s n=0→0≤n∧n≤s.chg.length:=fun h=>by
   simp only [a6l,hg] at h
   split at h
   ·cases h
   ·split at h
    ·assumption
    ·cases h
  refine a0c [] [(0,50),(1,51),(2,52)] (a6d s n h1 h3) ?_ (by (simp only [go_sem])<;>simp [hg]) (by (simp only [go_sem,a1k,a0s,a0j,a1q])<;>simp [hg]) (by simp [a0q,usH,toR,hg])
  simp only [hg,if_true]
  simp only [go_sem,hG,hOw]
  (repeat' with_reducible first|refine And.intro ?_ ?_|intro _|refine exP ?_ ?_);all_goals try omega
  ·rename_i h
   exact b2k _ _ _ (by simp [b6z,h])
  ·rename_i h
   refine a0r mixed (by kernel_rfl) ?_
   simp only [go_sem,hG,hOw]
   have:=hE h
   (repeat' with_reducible first|refine And.intro ?_ ?_|intro _|refine exP ?_ ?_);all_goals try omega
   rw [List.take_of_length_le (by simp),show b6z s n=⟨(gl s)[n.toNat]'(by omega),s.chg.drop n.toNat⟩ by simp [b6z,b4t,h];rw [List.getElem?_eq_getElem (by omega)];rfl,h]
   exact .refl _
 ·refine a0c [] [] (a6d s n h1 h3) ?_ (by (simp only [go_sem])<;>simp [hg]) (by (simp only [go_sem,a1k,a0s,a0j,a1q])<;>simp [hg]) (by simp [a0q,usH,toR,hg])
  have e:a6l s n=112:=by simp [a6l,hg]
  simp only [hg,if_false,e]
  simp only [go_sem,hG,hOw]
  (repeat' with_reducible first|refine And.intro ?_ ?_|intro _|refine exP ?_ ?_);all_goals try omega
  exact b2k _ _ _ (by simp [b6z,e])
theorem f2u (s:Sh) (l:List ByteArray) (h1:s.first.length≤1000) (h3:∀ c ∈ s.chg,c.put.length≤1000) (h4:l.length≤1000):a0l Tryz.prog 33 [shE 0 s,a0o 0 l] (fun lo=>.tup [shE lo (c4m s l),i64 (b4g s l)]):=by
 refine a0b (ow:=fun _=>false) Tryz.func33 Tryz.ntmps33 rfl rfl fun G hG hOw hNm hB=>?_;simp only [go_sem,hG,hOw]
 by_cases hg:gb s=true
 ·have hl:=d1e hg
  have hb:=c2f hg
  refine a0c [] [(0,50),(1,51),(2,52)] (c1k s h1 h3) ?_ (by (simp only [go_sem])<;>simp [hg]) (by (simp only [go_sem,a1k,a0s,a0j,a1q])<;>simp [hg]) (by simp [a0q,usH,toR,hg])
  simp only [hg,if_true]
  simp only [go_sem,hG,hOw]
  refine a0a (a6z l) ?_
  simp only [go_sem,hG,hOw]
  (repeat' with_reducible first|refine And.intro ?_ ?_|intro _|refine exP ?_ ?_);all_goals try omega
  ·rename_i h2
   have e:b4g s l=110:=by
    cases h:a1d l with
    |true=>rw [h] at h2;simp at h2
    |false=>simp [b4g,hg,h]
   rw [e]
   exact b2k _ _ _ (by simp [c4m,e])
  ·rename_i h2 h3
   have h2':a1d l=true:=by
    cases h:a1d l with
    |true=>rfl
    |false=>rw [h] at h2;simp at h2
   have e:b4g s l=9:=by simp [b4g,hg,h2'];omega
   rw [e]
   exact b2k _ _ _ (by simp [c4m,e])
  ·rename_i h2 h3'
   have h2':a1d l=true:=by
    cases h:a1d l with
    |true=>rfl
    |false=>rw [h] at h2;simp at h2
   have e0:b4g s l=0:=by simp [b4g,hg,h2'];omega
   have hlast:=f2w hg ((gl s).length - 1) (by omega) (by omega)
   have hr:=a8z (f5n hg _ (List.getElem_mem (show (gl s).length - 1 < (gl s).length by omega)))
   rw [hlast] at hr
   refine a9s [(38,[50,51,52]),(36,[50]),(42,[42,52])] mixed (by kernel_rfl) ?_
   simp only [go_sem,hG,hOw]
   refine ⟨_,d9o [(0,50),(1,51),(2,52)] (d5y G.lo s.first s.chg (gl s) (by omega) (by omega)) (by (simp only [go_sem])<;>simp [b1y]) (by (simp only [go_sem,a1k,a0s,a0j,a1q])<;>simp [b1y]) (by simp [a2r,apart,toR]) (by simp [a0q,usH,toR,b1y]) (by simp [a7c,lkR,toR]) (by simp [a3p,a1o,usH,lkR,toR,b1y]) (by simp [a5n,usH,b1y]) (by simp [tgt,a2i]) (by simp [upT,a3m,a6b,a1o,usH,lkR,toR,f0o,a2i,b1y,go_sem]),?_⟩
   simp only [hlast]
   simp only [go_sem,hG,hOw]
   refine ⟨_,a0e (c6g (e7y s) l (by omega) h4),?_⟩
   simp only [go_sem,hG,hOw]
   (repeat' with_reducible first|refine And.intro ?_ ?_|intro _|refine exP ?_ ?_);all_goals try omega
   rw [e0,show c4m s l=⟨s.first,s.chg++[a3r (e7y s) l]⟩ by simp [c4m,e0]]
   rw [List.take_of_length_le (by simp)]
   simp only [List.map_append]
   exact .refl _
 ·refine a0c [] [] (c1k s h1 h3) ?_ (by (simp only [go_sem])<;>simp [hg]) (by (simp only [go_sem,a1k,a0s,a0j,a1q])<;>simp [hg]) (by simp [a0q,usH,toR,hg])
  have e:b4g s l=112:=by simp [b4g,hg]
  simp only [hg,if_false,e]
  simp only [go_sem,hG,hOw]
  (repeat' with_reducible first|refine And.intro ?_ ?_|intro _|refine exP ?_ ?_);all_goals try omega
  exact b2k _ _ _ (by simp [c4m,e])
end Go.Proofs.YtmjhfccbbfpppaaGreatDoor
