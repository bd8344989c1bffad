import Derived.Test.YtmjhfccbbfpppaaGreatDoorQY24
namespace Go.Proofs.YtmjhfccbbfpppaaGreatDoor
open Go Pm
set_option linter.unusedSimpArgs false
set_option linter.unusedVariables false
set_option maxHeartbeats 4000000
set_option maxRecDepth 100000
def b2q (a:Nat) (fi:List ByteArray) (cs:List Hk) (ls:List (List ByteArray)):List (Nat×OB) :=
 [(0,.box [a0e a fi,.own 2 0 cs.length 3,.own 1 0 ls.length 1]),(1,.arr 32 1 (ls.map (d5g a))),(2,.arr 77 3 (cs.map (hkE a)))]
attribute [go_sem] b2q
theorem d5k (a:Nat) (fi:List ByteArray) (cs:List Hk) (ls:List (List ByteArray)) (h:0 < ls.length) (hl:ls.length≤1000) :
  Tri Tryz.prog 109 [.ptr 0 0] (b2q a fi cs ls) (fun _=>.ret (a0e a (ls[ls.length - 1]'(by omega))) (b2q a fi cs ls)):=by
 refine a0d (fun _=>false) Tryz.func109 Tryz.ntmps109 rfl rfl fun G hG hOw hNm=>?_;simp only [go_sem,hG,hOw]
 refine a0z mixed (by kernel_rfl) ?_
 simp only [go_sem,hG,hOw]
 (repeat' with_reducible first|refine And.intro ?_ ?_|intro _|refine exP ?_ ?_);all_goals try omega
 have e:((ls.length:Int) - 1).toNat=ls.length - 1:=by omega
 simp only [e]
 exact (a1x [(0,some 0),(1,some 1),(2,some 2)])
theorem b3n (s:Sh) (h1:s.first.length≤1000) (h3:∀ c ∈ s.chg,c.put.length≤1000):Tri Tryz.prog 107 [shE 0 s] []
  (fun n=>if gb s=true then .ret (.tup [.ptr 0 0,i64 0]) (b2q n s.first s.chg (gl s)) else .ret (.tup [.v (.pointer none),i64 112]) []):=by
 refine a0d (fun i=>[25].contains i) Tryz.func107 Tryz.ntmps107 rfl rfl fun G hG hOw hNm=>?_;simp only [go_sem,hG,hOw]
 have g11:∀ {P:Prop},gb s=true→(12≤(s.chg.length:Int))→P:=fun h h'=>by have:=c5e h;omega
 (repeat' with_reducible first|refine And.intro ?_ ?_|intro _|refine exP ?_ ?_);all_goals try omega
 ·rename_i h2
  refine a0a (a3p s.first) ?_
  simp only [go_sem,hG,hOw]
  (repeat' with_reducible first|refine And.intro ?_ ?_|intro _|refine exP ?_ ?_);all_goals try omega
  ·rename_i h4
   have hg:gb s=false:=by
    cases h:a1b s.first with
    |true=>rw [h] at h4;simp at h4
    |false=>simp [gb,h]
   simp only [hg,Bool.false_eq_true,if_false]
   simp only [go_sem,hG,hOw]
   (repeat' with_reducible first|refine And.intro ?_ ?_|intro _|refine exP ?_ ?_);all_goals try omega
   exact (a1x [])
  ·rename_i h4
   have hr:a1b s.first=true:=by
    cases h:a1b s.first with
    |true=>rfl
    |false=>rw [h] at h4;simp at h4
   refine a0z mixed (by kernel_rfl) ?_
   simp only [go_sem,hG,hOw]
   refine ⟨_,a0i (a8z s.first h1),?_⟩
   simp only [go_sem,hG,hOw]
   refine ⟨_,a0i (a8z s.first h1),?_⟩
   simp only [go_sem,hG,hOw]
   (repeat' with_reducible first|refine And.intro ?_ ?_|intro _|refine exP ?_ ?_);all_goals try omega
   refine a0r (fun k:Nat=>St.of [(4,.ptr 27 0),(29,hks 0 s.chg),(30,i64 s.chg.length),(31,i64 k)] [(27,.box [a0e G.lo s.first,.own 90 0 k 3,.own 91 0 (k+1) 1]),(90,.arr 77 3 ((s.chg.take k).map (hkE G.lo))),(91,.arr 32 1 ((b4i s.first (s.chg.take k)).map (d5g G.lo)))])
    (fun k=>k≤s.chg.length∧d4l s.first (s.chg.take k)=true) (fun k=>s.chg.length - k) 0 ⟨Nat.zero_le _,rfl⟩ (a2o [(27,some 27),(90,none),(91,some 25)] (by (simp only [go_sem])<;>simp [b4i,d5g,a0e]) (by (simp only [go_sem,a1g,a0q,a0f,a1m])<;>simp [b4i,d5g,a0e])) ?_
   rintro k ⟨hk,hgk⟩
   have hlen:(b4i s.first (s.chg.take k)).length=k+1:=by rw [d1a,List.length_take];omega
   have hlk:(s.chg.take k).length=k:=by rw [List.length_take];omega
   have hmin:min k s.chg.length=k:=Nat.min_eq_left hk
   have hcur:(b4i s.first (s.chg.take k))[(b4i s.first (s.chg.take k)).length - 1]'(by omega)=(s.chg.take k).foldl a3r s.first:=c4u _ _ _ _ (by omega)
   have hrow:=b0a (c5o _ _ hr hgk _ (List.getElem_mem (show (b4i s.first (s.chg.take k)).length - 1 < (b4i s.first (s.chg.take k)).length by omega)))
   rw [hcur] at hrow
   have hl11:s.chg.length≤11:=by omega
   refine a0l _ _ _ ?_;simp only [go_sem,hG,hOw]
   (repeat' with_reducible first|refine And.intro ?_ ?_|intro _|refine exP ?_ ?_);all_goals try omega
   ·rename_i hlt
    have hkl:k < s.chg.length:=by omega
    have hbk:d4l s.first (s.chg.take (k+1))=(a9l ((s.chg.take k).foldl a3r s.first) s.chg[k] && a1b (a3r ((s.chg.take k).foldl a3r s.first) s.chg[k])):=by
     rw [List.take_add_one,List.getElem?_eq_getElem hkl,d1l,hgk];simp [d4l]
    have hlk1:b4i s.first (s.chg.take (k+1))=b4i s.first (s.chg.take k)++[a3r ((s.chg.take k).foldl a3r s.first) s.chg[k]]:=by
     rw [List.take_add_one,List.getElem?_eq_getElem hkl];exact d8m _ _ _
    have bad:d4l s.first (s.chg.take (k+1))=false→gb s=false:=fun h=>by
     have:=d1l (s.chg.take (k+1)) (s.chg.drop (k+1)) s.first
     rw [List.take_append_drop,h] at this
     simp [gb,this]
    refine a0b [(0,27),(1,91),(2,90)] [] (d5k G.lo s.first (s.chg.take k) (b4i s.first (s.chg.take k)) (by omega) (by omega)) ?_ (by (simp only [go_sem])<;>simp [b2q,hlen,hmin]) (by (simp only [go_sem,a1g,a0q,a0f,a1m])<;>simp [b2q,hlen,hmin]) (by simp [a0h,usH,toR,b2q,hlen,hmin])
    simp only [hcur]
    simp only [go_sem,hG,hOw]
    (repeat' with_reducible first|refine And.intro ?_ ?_|intro _|refine exP ?_ ?_);all_goals try omega
    refine a0a (d1g 0 ((s.chg.take k).foldl a3r s.first).length s.chg[k].lo) ?_
    simp only [go_sem,hG,hOw]
    have nomade:a9l ((s.chg.take k).foldl a3r s.first) s.chg[k]=false→gb s=false:=fun h=>bad (by rw [hbk,h];rfl)
    have hput:=h3 _ (List.getElem_mem hkl)
    (repeat' with_reducible first|refine And.intro ?_ ?_|intro _|refine exP ?_ ?_);all_goals try omega
    ·rename_i h5;simp only [Bool.and_eq_true,decide_eq_true_eq] at h5;omega
    ·rename_i h5;simp only [Bool.and_eq_true,decide_eq_true_eq] at h5;omega
    ·rename_i h5
     refine a0a (d1g 0 (((s.chg.take k).foldl a3r s.first).length - s.chg[k].lo) s.chg[k].drop) ?_
     simp only [go_sem,hG,hOw]
     (repeat' with_reducible first|refine And.intro ?_ ?_|intro _|refine exP ?_ ?_);all_goals try omega
     ·rename_i h6
      have hg:gb s=false:=nomade (by simp only [a9l];rw [h5,h6];rfl)
      simp only [hg,Bool.false_eq_true,if_false]
      simp only [go_sem,hG,hOw]
      (repeat' with_reducible first|refine And.intro ?_ ?_|intro _|refine exP ?_ ?_);all_goals try omega
      exact (a1x [])
     ·rename_i h6
      have hm:a9l ((s.chg.take k).foldl a3r s.first) s.chg[k]=true:=by simp only [a9l];rw [h5,h6];rfl
      refine a0a (c9c ((s.chg.take k).foldl a3r s.first) s.chg[k] (by omega) hput hm) ?_
      simp only [go_sem,hG,hOw]
      refine a0a (a3p (a3r ((s.chg.take k).foldl a3r s.first) s.chg[k])) ?_
      simp only [go_sem,hG,hOw]
      (repeat' with_reducible first|refine And.intro ?_ ?_|intro _|refine exP ?_ ?_);all_goals try omega
      ·rename_i h7
       have hg:gb s=false:=bad (by
        rw [hbk,hm]
        cases h:a1b (a3r ((s.chg.take k).foldl a3r s.first) s.chg[k]) with
        |true=>rw [h] at h7;simp at h7
        |false=>rfl)
       simp only [hg,Bool.false_eq_true,if_false]
       simp only [go_sem,hG,hOw]
       (repeat' with_reducible first|refine And.intro ?_ ?_|intro _|refine exP ?_ ?_);all_goals try omega
       exact (a1x [])
      ·rename_i h7
       have hr2:a1b (a3r ((s.chg.take k).foldl a3r s.first) s.chg[k])=true:=by
        cases h:a1b (a3r ((s.chg.take k).foldl a3r s.first) s.chg[k]) with
        |true=>rfl
        |false=>rw [h] at h7;simp at h7
       refine a0a (a8z s.chg[k].put hput) ?_
       simp only [go_sem,hG,hOw]
       refine b0n [(79,[27]),(75,[75,90]),(82,[82,91])] mixed (by kernel_rfl) ?_
       simp only [go_sem,hG,hOw]
       (repeat' with_reducible first|refine And.intro ?_ ?_|intro _|refine exP ?_ ?_);all_goals try omega
       refine ⟨k+1,⟨by omega,by rw [hbk,hm,hr2];rfl⟩,by omega,?_⟩
       exact a2o [(27,some 27),(90,some 75),(91,some 82)] (by (simp only [go_sem])<;>simp [hlk1,a2u _ _ _ hkl,hlen,hmin,hkE,d5g,i64,a0e]) (by (simp only [go_sem,a1g,a0q,a0f,a1m])<;>simp [hlk1,a2u _ _ _ hkl,hlen,hmin,hkE,d5g,i64,a0e])
    ·rename_i h5
     have hg:gb s=false:=nomade (by simp only [a9l];rw [h5];rfl)
     simp only [hg,Bool.false_eq_true,if_false]
     simp only [go_sem,hG,hOw]
     (repeat' with_reducible first|refine And.intro ?_ ?_|intro _|refine exP ?_ ?_);all_goals try omega
     exact (a1x [])
   ·rename_i hge
    obtain rfl:k=s.chg.length:=by omega
    rw [List.take_length] at hgk hlen ⊢
    have hg:gb s=true:=by simp only [gb,hr,hgk];rw [decide_eq_true (by omega)];rfl
    simp only [hg,if_true]
    simp only [go_sem,hG,hOw]
    (repeat' with_reducible first|refine And.intro ?_ ?_|intro _|refine exP ?_ ?_);all_goals try omega
    exact ⟨[(0,some 27),(1,some 91),(2,some 90)],by (simp only [b1z,go_sem,a1g,a0q,a0f,a1m,apart,a2m,a0h])<;>simp [gl,hg,hlen]⟩
 ·rename_i h2
  have hg:gb s=false:=by simp only [gb];rw [decide_eq_false (by omega)];rfl
  simp only [hg,Bool.false_eq_true,if_false]
  simp only [go_sem,hG,hOw]
  (repeat' with_reducible first|refine And.intro ?_ ?_|intro _|refine exP ?_ ?_);all_goals try omega
  exact (a1x [])
open Go Pm
set_option maxHeartbeats 4000000
set_option maxRecDepth 100000
theorem c1p (s:Sh) (h1:s.first.length≤1000) (h3:∀ c ∈ s.chg,c.put.length≤1000):a0o Tryz.prog 42 [shE 0 s] (fun _=>i64 (if gb s=true then 0 else 112)):=by
 refine a0c (ow:=fun _=>false) Tryz.func42 Tryz.ntmps42 rfl rfl fun G hG hOw hNm hB=>?_;simp only [go_sem,hG,hOw]
 by_cases hg:gb s=true
 ·refine a0b [] [(0,50),(1,51),(2,52)] (b3n s h1 h3) ?_ (by (simp only [go_sem])<;>simp [hg]) (by (simp only [go_sem,a1g,a0q,a0f,a1m])<;>simp [hg]) (by simp [a0h,usH,toR,hg])
  simp only [hg,if_true]
  simp only [go_sem,hG,hOw]
 ·refine a0b [] [] (b3n s h1 h3) ?_ (by (simp only [go_sem])<;>simp [hg]) (by (simp only [go_sem,a1g,a0q,a0f,a1m])<;>simp [hg]) (by simp [a0h,usH,toR,hg])
  simp only [hg,if_false]
  simp only [go_sem,hG,hOw]
theorem a6r (s:Sh) (n:Int) (h1:s.first.length≤1000) (h3:∀ c ∈ s.chg,c.put.length≤1000):Tri Tryz.prog 115 [shE 0 s,i64 n] []
  (fun lo=>if gb s=true then .ret (.tup [.ptr 0 0,i64 (a6d s n)]) (b2q lo s.first s.chg (gl s)) else .ret (.tup [.v (.pointer none),i64 (a6d s n)]) []):=by
 refine a0d (fun _=>false) Tryz.func115 Tryz.ntmps115 rfl rfl fun G hG hOw hNm=>?_;simp only [go_sem,hG,hOw]
 by_cases hg:gb s=true
 ·have hl:=d0q hg
  have hb:=c5e hg
  refine a0b [] [(0,50),(1,51),(2,52)] (b3n s h1 h3) ?_ (by (simp only [go_sem])<;>simp [hg]) (by (simp only [go_sem,a1g,a0q,a0f,a1m])<;>simp [hg]) (by simp [a0h,usH,toR,hg])
  simp only [hg,if_true]
  simp only [go_sem,hG,hOw]
  (repeat' with_reducible first|refine And.intro ?_ ?_|intro _|refine exP ?_ ?_);all_goals try omega
  refine a0a (d1g 0 ((gl s).length - 1) n) ?_
  simp only [go_sem,hG,hOw]
  (repeat' with_reducible first|refine And.intro ?_ ?_|intro _|refine exP ?_ ?_);all_goals try omega
  ·rename_i h2
   have e:a6d s n=2:=by
    simp at h2
    simp only [a6d,hg]
    rw [if_neg (by decide),if_neg (by omega)]
   rw [e]
   exact ⟨[(0,some 50),(1,some 51),(2,some 52)],by (simp only [b1z,go_sem,a1g,a0q,a0f,a1m,apart,a2m,a0h])<;>simp [hg]⟩
  ·rename_i h2
   have e:a6d s n=0:=by
    simp at h2
    simp only [a6d,hg]
    rw [if_neg (by decide),if_pos (by omega)]
   rw [e]
   exact ⟨[(0,some 50),(1,some 51),(2,some 52)],by (simp only [b1z,go_sem,a1g,a0q,a0f,a1m,apart,a2m,a0h])<;>simp [hg]⟩
 ·refine a0b [] [] (b3n s h1 h3) ?_ (by (simp only [go_sem])<;>simp [hg]) (by (simp only [go_sem,a1g,a0q,a0f,a1m])<;>simp [hg]) (by simp [a0h,usH,toR,hg])
  have e:a6d s n=112:=by simp [a6d,hg]
  simp only [hg,if_false,e]
  simp only [go_sem,hG,hOw]
  (repeat' with_reducible first|refine And.intro ?_ ?_|intro _|refine exP ?_ ?_);all_goals try omega
  exact (a1x [])
theorem c8a (s:Sh) (n:Int) (h1:s.first.length≤1000) (h3:∀ c ∈ s.chg,c.put.length≤1000):a0o Tryz.prog 39 [shE 0 s,i64 n] (fun lo=>.tup [a0e lo (b2z s n),i64 (a6d s n)]):=by
 refine a0c (ow:=fun _=>false) Tryz.func39 Tryz.ntmps39 rfl rfl fun G hG hOw hNm hB=>?_;simp only [go_sem,hG,hOw]
 by_cases hg:gb s=true
 ·have hl:=d0q hg
  have hb:=c5e hg
  have hE:a6d s n=0→0≤n∧n≤s.chg.length:=fun h=>by
   simp only [a6d,hg] at h
   split at h
   ·cases h
   ·split at h
    ·assumption
    ·cases h
  refine a0b [] [(0,50),(1,51),(2,52)] (a6r s n h1 h3) ?_ (by (simp only [go_sem])<;>simp [hg]) (by (simp only [go_sem,a1g,a0q,a0f,a1m])<;>simp [hg]) (by simp [a0h,usH,toR,hg])
  simp only [hg,if_true]
  simp only [go_sem,hG,hOw]
  (repeat' with_reducible first|refine And.intro ?_ ?_|intro _|refine exP ?_ ?_);all_goals try omega
  ·rename_i h
   rw [show b2z s n=[] by simp [b2z,h]]
   exact Subs.tup (.cons (.nil _ _) (.cons (.refl _) .nil))
  ·rename_i h
   have:=hE h
   rw [show b2z s n=(gl s)[n.toNat]'(by omega) by simp [b2z,h];rw [List.getElem?_eq_getElem (by omega)];rfl,h]
   exact .refl _
 ·refine a0b [] [] (a6r s n h1 h3) ?_ (by (simp only [go_sem])<;>simp [hg]) (by (simp only [go_sem,a1g,a0q,a0f,a1m])<;>simp [hg]) (by simp [a0h,usH,toR,hg])
  have e:a6d s n=112:=by simp [a6d,hg]
  simp only [hg,if_false,e]
  simp only [go_sem,hG,hOw]
  (repeat' with_reducible first|refine And.intro ?_ ?_|intro _|refine exP ?_ ?_);all_goals try omega
  rw [show b2z s n=[] by simp [b2z,e]]
  exact Subs.tup (.cons (.nil _ _) (.cons (.refl _) .nil))
theorem d1b (s:Sh) (n:Int) (h1:s.first.length≤1000) (h3:∀ c ∈ s.chg,c.put.length≤1000):a0o Tryz.prog 40 [shE 0 s,i64 n] (fun lo=>.tup [shE lo (b4a s n),i64 (a6d s n)]):=by
 refine a0c (ow:=fun _=>false) Tryz.func40 Tryz.ntmps40 rfl rfl fun G hG hOw hNm hB=>?_;simp only [go_sem,hG,hOw]
 by_cases hg:gb s=true
 ·have hl:=d0q hg
  have hb:=c5e hg
  have hE:a6d s n=0→0≤n∧n≤s.chg.length:=fun h=>by
   simp only [a6d,hg] at h
   split at h
   ·cases h
   ·split at h
    ·assumption
    ·cases h
  refine a0b [] [(0,50),(1,51),(2,52)] (a6r s n h1 h3) ?_ (by (simp only [go_sem])<;>simp [hg]) (by (simp only [go_sem,a1g,a0q,a0f,a1m])<;>simp [hg]) (by simp [a0h,usH,toR,hg])
  simp only [hg,if_true]
  simp only [go_sem,hG,hOw]
  (repeat' with_reducible first|refine And.intro ?_ ?_|intro _|refine exP ?_ ?_);all_goals try omega
  ·rename_i h
   exact b2p _ _ _ (by simp [b4a,h])
  ·rename_i h
   refine a0z mixed (by kernel_rfl) ?_
   simp only [go_sem,hG,hOw]
   have:=hE h
   (repeat' with_reducible first|refine And.intro ?_ ?_|intro _|refine exP ?_ ?_);all_goals try omega
   rw [List.take_of_length_le (by simp),show b4a s n=⟨(gl s)[n.toNat]'(by omega),s.chg.drop n.toNat⟩ by simp [b4a,b2z,h];rw [List.getElem?_eq_getElem (by omega)];rfl,h]
   exact .refl _
 ·refine a0b [] [] (a6r s n h1 h3) ?_ (by (simp only [go_sem])<;>simp [hg]) (by (simp only [go_sem,a1g,a0q,a0f,a1m])<;>simp [hg]) (by simp [a0h,usH,toR,hg])
  have e:a6d s n=112:=by simp [a6d,hg]
  simp only [hg,if_false,e]
  simp only [go_sem,hG,hOw]
  (repeat' with_reducible first|refine And.intro ?_ ?_|intro _|refine exP ?_ ?_);all_goals try omega
  exact b2p _ _ _ (by simp [b4a,e])
theorem c7h (s:Sh) (l:List ByteArray) (h1:s.first.length≤1000) (h3:∀ c ∈ s.chg,c.put.length≤1000) (h4:l.length≤1000):a0o Tryz.prog 33 [shE 0 s,a0e 0 l] (fun lo=>.tup [shE lo (b7s s l),i64 (b1m s l)]):=by
 refine a0c (ow:=fun _=>false) Tryz.func33 Tryz.ntmps33 rfl rfl fun G hG hOw hNm hB=>?_;simp only [go_sem,hG,hOw]
 by_cases hg:gb s=true
 ·have hl:=d0q hg
  have hb:=c5e hg
  refine a0b [] [(0,50),(1,51),(2,52)] (b3n s h1 h3) ?_ (by (simp only [go_sem])<;>simp [hg]) (by (simp only [go_sem,a1g,a0q,a0f,a1m])<;>simp [hg]) (by simp [a0h,usH,toR,hg])
  simp only [hg,if_true]
  simp only [go_sem,hG,hOw]
  refine a0a (a3p l) ?_
  simp only [go_sem,hG,hOw]
  (repeat' with_reducible first|refine And.intro ?_ ?_|intro _|refine exP ?_ ?_);all_goals try omega
  ·rename_i h2
   have e:b1m s l=110:=by
    cases h:a1b l with
    |true=>rw [h] at h2;simp at h2
    |false=>simp [b1m,hg,h]
   rw [e]
   exact b2p _ _ _ (by simp [b7s,e])
  ·rename_i h2 h3
   have h2':a1b l=true:=by
    cases h:a1b l with
    |true=>rfl
    |false=>rw [h] at h2;simp at h2
   have e:b1m s l=9:=by simp [b1m,hg,h2'];omega
   rw [e]
   exact b2p _ _ _ (by simp [b7s,e])
  ·rename_i h2 h3'
   have h2':a1b l=true:=by
    cases h:a1b l with
    |true=>rfl
    |false=>rw [h] at h2;simp at h2
   have e0:b1m s l=0:=by simp [b1m,hg,h2'];omega
   have hlast:=f1e hg ((gl s).length - 1) (by omega) (by omega)
   have hr:=b0a (f3k hg _ (List.getElem_mem (show (gl s).length - 1 < (gl s).length by omega)))
   rw [hlast] at hr
   refine b0n [(38,[50,51,52]),(36,[50]),(42,[42,52])] mixed (by kernel_rfl) ?_
   simp only [go_sem,hG,hOw]
   refine ⟨_,e2b [(0,50),(1,51),(2,52)] (d5k G.lo s.first s.chg (gl s) (by omega) (by omega)) (by (simp only [go_sem])<;>simp [b2q]) (by (simp only [go_sem,a1g,a0q,a0f,a1m])<;>simp [b2q]) (by simp [a2m,apart,toR]) (by simp [a0h,usH,toR,b2q]) (by simp [a5z,lkR,toR]) (by simp [a3l,a1u,usH,lkR,toR,b2q]) (by simp [a5d,usH,b2q]) (by simp [tgt,a1z]) (by simp [upT,a3k,a5w,a1u,usH,lkR,toR,e6s,a1z,b2q,go_sem]),?_⟩
   simp only [hlast]
   simp only [go_sem,hG,hOw]
   refine ⟨_,a0i (c7g (e6p s) l (by omega) h4),?_⟩
   simp only [go_sem,hG,hOw]
   (repeat' with_reducible first|refine And.intro ?_ ?_|intro _|refine exP ?_ ?_);all_goals try omega
   rw [e0,show b7s s l=⟨s.first,s.chg++[a3y (e6p s) l]⟩ by simp [b7s,e0]]
   rw [List.take_of_length_le (by simp)]
   simp only [List.map_append]
   exact .refl _
 ·refine a0b [] [] (b3n s h1 h3) ?_ (by (simp only [go_sem])<;>simp [hg]) (by (simp only [go_sem,a1g,a0q,a0f,a1m])<;>simp [hg]) (by simp [a0h,usH,toR,hg])
  have e:b1m s l=112:=by simp [b1m,hg]
  simp only [hg,if_false,e]
  simp only [go_sem,hG,hOw]
  (repeat' with_reducible first|refine And.intro ?_ ?_|intro _|refine exP ?_ ?_);all_goals try omega
  exact b2p _ _ _ (by simp [b7s,e])
end Go.Proofs.YtmjhfccbbfpppaaGreatDoor
