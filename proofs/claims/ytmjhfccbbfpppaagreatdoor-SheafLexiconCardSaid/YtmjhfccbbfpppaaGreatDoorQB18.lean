import Derived.Test.YtmjhfccbbfpppaaGreatDoorQB11
import Derived.Test.YtmjhfccbbfpppaaGreatDoorQB15
namespace Go.Proofs.YtmjhfccbbfpppaaGreatDoor
open Go Pm
set_option linter.unusedSimpArgs false
set_option linter.unusedVariables false
set_option maxHeartbeats 4000000
set_option maxRecDepth 100000
theorem g4f (n lo hi:Int):a0l Tryz.prog 155 [i64 n,.fp [i64 lo],.fp [i64 hi]] (fun _=>bl (decide (n < lo) || decide (hi < n))):=by
 refine a0b (ow:=fun _=>false) Tryz.func155 Tryz.ntmps155 rfl rfl fun G hG hOw hNm hB=>?_;simp only [go_sem,hG,hOw]
 (repeat' with_reducible first|apply And.intro|refine exP ?_ ?_|intro);all_goals try omega
 ·rename_i h;rw [decide_eq_false h];rfl
 ·rename_i h;rw [decide_eq_true h];rfl
theorem f5i (lo hi:Int) (l:List Int):a0l Tryz.prog 95 [i64 lo,i64 hi,.lst 0 1 (l.map c3r)] (fun _=>bl (l.all fun n=>decide (lo≤n) && decide (n≤hi))):=by
 refine a0b (ow:=fun _=>false) Tryz.func95 Tryz.ntmps95 rfl rfl fun G hG hOw hNm hB=>?_;simp only [go_sem,hG,hOw]
 refine a2x (fun i=>[3,4].contains i) ?_
 simp only [go_sem,hG,hOw]
 refine a0a (a4o _ [.fp [i64 lo],.fp [i64 hi]] (fun n=>decide (n < lo) || decide (hi < n)) l rfl (fun x _=>g4f x lo hi)) ?_
 simp only [go_sem,hG,hOw]
 rw [List.not_any_eq_all_not]
 congr 1
 funext n
 rw [Bool.eq_iff_iff];simp
theorem f6u (b:UInt8):a0l Tryz.prog 171 [.v (.int .u8 b.toNat)] (fun _=>bl (!b4o b)):=by
 refine a0b (ow:=fun _=>false) Tryz.func171 Tryz.ntmps171 rfl rfl fun G hG hOw hNm hB=>?_;simp only [go_sem,hG,hOw]
 (repeat' with_reducible first|apply And.intro|refine exP ?_ ?_|intro);all_goals try omega
 ·rename_i h;simp [b4o];intro;omega
 ·rename_i h;simp [b4o];omega
theorem d1r (lo hi n:Int):a0l Tryz.prog 95 [i64 lo,i64 hi,.lst 0 1 [[i64 n]]] (fun _=>bl (decide (lo≤n) && decide (n≤hi))):=by
 have:=f5i lo hi [n]
 simpa [c3r] using this
theorem f3c (s:ByteArray):a0l Tryz.prog 117 [.v (.string s)] (fun _=>bl (b4y s)):=by
 refine a0b (ow:=fun _=>false) Tryz.func117 Tryz.ntmps117 rfl rfl fun G hG hOw hNm hB=>?_;simp only [go_sem,hG,hOw]
 refine a0a (d1r 1 160 s.size) ?_
 simp only [go_sem,hG,hOw]
 (repeat' with_reducible first|apply And.intro|refine exP ?_ ?_|intro);all_goals try omega
 ·rename_i h
  simp at h
  omega
 ·rename_i h
  refine a0a (a3c _ [] (fun b=>!b4o b) s.data.toList rfl (fun b _=>f6u b)) ?_
  simp only [go_sem,hG,hOw]
  unfold b4y
  rw [h,List.not_any_eq_all_not]
  simp
 ·rename_i h
  unfold b4y
  rw [h];rfl
theorem d7q (s:ByteArray):a0l Tryz.prog 116 [.v (.string s)] (fun _=>bl (!b4y s)):=by
 refine a0b (ow:=fun _=>false) Tryz.func116 Tryz.ntmps116 rfl rfl fun G hG hOw hNm hB=>?_;simp only [go_sem,hG,hOw]
 refine a0a (f3c s) ?_
 simp only [go_sem,hG,hOw]
theorem a6v (l:List ByteArray):a0l Tryz.prog 43 [a0q 0 l] (fun _=>i64 (if a1c l=true then 0 else 110)):=by
 refine a0b (ow:=fun _=>false) Tryz.func43 Tryz.ntmps43 rfl rfl fun G hG hOw hNm hB=>?_;simp only [go_sem,hG,hOw]
 (repeat' with_reducible first|apply And.intro|refine exP ?_ ?_|intro);all_goals try omega
 ·rename_i h
  refine a0a (a8u _ [] (fun s=>!b4y s) l rfl (fun s _=>d7q s)) ?_
  simp only [go_sem,hG,hOw]
  have e:a1c l=!(l.any fun s=>!b4y s):=by
   unfold a1c
   rw [List.not_any_eq_all_not,decide_eq_true (by omega),Bool.and_true]
   simp
  (repeat' with_reducible first|apply And.intro|refine exP ?_ ?_|intro);all_goals try omega
  ·rename_i h2;rw [e,h2];rfl
  ·rename_i h2;rw [e,h2];rfl
 ·rename_i h
  unfold a1c
  rw [decide_eq_false (by omega),Bool.and_false];rfl
theorem a8e (l:List ByteArray) (hl:l.length≤1000):a0l Tryz.prog 111 [a0q 0 l] (fun n=>a0q n l):=by
 refine a0b (ow:=fun _=>false) Tryz.func111 Tryz.ntmps111 rfl rfl fun G hG hOw hNm hB=>?_;simp only [go_sem,hG,hOw]
 (repeat' with_reducible first|apply And.intro|refine exP ?_ ?_|intro);all_goals try omega
 ·rename_i b h1 h2
  rw [show l=[] by simpa using h1 h2]
  exact .nil _ _
theorem f6q (n:Int) (h0:0≤n) (hn:n≤100000):Tri Tryz.prog 218 [.v (.slice none 0 0),i64 n] [] (fun _=>.ret (.own 0 0 0 1) [(0,.arr 9 1 [])]):=by
 refine a0e (fun i=>[25].contains i) Tryz.func218 Tryz.ntmps218 rfl rfl fun G hG hOw hNm=>?_;simp only [go_sem,hG,hOw]
 (repeat' with_reducible first|apply And.intro|refine exP ?_ ?_|intro);all_goals try omega
 ·refine c3j (d:=22) (el:=9) (sz:=1) (k:=.i64) (n:=n) (z:=[.string ByteArray.empty]) (bytes:=16) rfl (by simp only [go_sem]) (by simp only [go_sem]) rfl (by simp [hG]) (by simp only [go_sem]) (by simp only [go_sem]) (by simp only [go_sem]) (by simp only [go_sem]) rfl (by simp only [go_sem]) (by decide) (by omega) (by omega) (by omega) ?_
  simp only [go_sem,hG,hOw]
  refine d5m (d:=25) (id:=22) (el:=9) (sz:=1) (len:=n.toNat) (k:=.i64) (n:=0) (l:=List.replicate n.toNat [.v (.string ByteArray.empty)]) rfl (by simp only [go_sem]) (by simp only [go_sem]) (by simp only [go_sem]) rfl (by simp [hG]) (by simp only [go_sem]) (by simp only [go_sem]) (by simp only [go_sem]) (by omega) (by omega) (by simp) ?_
  simp only [go_sem,hG,hOw]
  exact (a2o [(0,some 25)])
 ·exact (a2o [(0,none)])
theorem e0u (ls:List (List ByteArray)) (h:ls.length≤100) (hl:∀ l ∈ ls,l.length≤1000):a0l Tryz.prog 170 [f9h 0 ls] (fun n=>a0q n ls.flatten):=by
 refine a0b (ow:=fun _=>false) Tryz.func170 Tryz.ntmps170 rfl rfl fun G hG hOw hNm hB=>?_;simp only [go_sem,hG,hOw]
 refine a3e (fun _:Unit=>St.of [(0,f9h 0 ls),(3,i64 ls.flatten.length)] []) (fun _=>True) ?_ ?_
 ·refine a0k (fun k:Nat=>St.of [(0,f9h 0 ls),(3,i64 (ls.take k).flatten.length),(9,f9h 0 ls),(10,i64 ls.length),(11,i64 k)] []) (fun k=>k≤ls.length) (fun k=>ls.length - k) 0 (by simp) (a0y (by (simp only [go_sem])<;>simp) hNm) ?_
  intro k hk
  refine a0d _ _ _ ?_;simp only [go_sem,hG,hOw]
  have:=d0f ls 1000 hl k hk
  (repeat' with_reducible first|apply And.intro|refine exP ?_ ?_|intro);all_goals try omega
  ·have:=hl _ (List.getElem_mem (show k < ls.length by omega));omega
  ·rename_i h1 h2
   refine ⟨k+1,by omega,by omega,?_⟩
   rw [a8m ls k (by omega)]
   exact a0y (by (simp only [go_sem])<;>simp) hNm
  ·rename_i h1
   obtain rfl:k=ls.length:=by omega
   rw [List.take_length]
   exact ⟨(),a0y (by (simp only [go_sem])<;>simp) hNm⟩
 ·rintro ⟨⟩ -
  have hfl:=d0f ls 1000 hl ls.length (Nat.le_refl _)
  rw [List.take_length] at hfl
  simp only [go_sem,hG,hOw]
  refine a0c [] [(0,100)] (f6q ls.flatten.length (by omega) (by omega)) ?_
  simp only [go_sem,hG,hOw]
  (repeat' with_reducible first|apply And.intro|refine exP ?_ ?_|intro);all_goals try omega
  refine a0k (fun k:Nat=>St.of [(6,.own 100 0 (ls.take k).flatten.length 1),(25,f9h 0 ls),(26,i64 ls.length),(27,i64 k)] [(100,.arr 9 1 ((ls.take k).flatten.map a2c))]) (fun k=>k≤ls.length) (fun k=>ls.length - k) 0 (by simp) (a1m [(100,some 100)]) ?_
  intro k hk
  refine a0d _ _ _ ?_;simp only [go_sem,hG,hOw]
  have:=d0f ls 1000 hl k hk
  (repeat' with_reducible first|apply And.intro|refine exP ?_ ?_|intro);all_goals try omega
  ·have:=hl _ (List.getElem_mem (show k < ls.length by omega));omega
  ·have:=hl _ (List.getElem_mem (show k < ls.length by omega));omega
  ·rename_i h1
   refine ⟨k+1,by omega,by omega,?_⟩
   rw [a8m ls k (by omega),c5l ls k (by omega)]
   exact a1m [(100,some 33)]
  ·rename_i h1
   obtain rfl:k=ls.length:=by omega
   rw [List.take_length]
   exact .refl _
theorem c7z (l:List ByteArray) (h:Hk) (hl:l.length≤1000) (hp:h.put.length≤1000) (hb:a9h l h=true):a0l Tryz.prog 114 [a0q 0 l,.agg (hkE 0 h)] (fun n=>a0q n (a3m l h)):=by
 refine a0b (ow:=fun _=>false) Tryz.func114 Tryz.ntmps114 rfl rfl fun G hG hOw hNm hB=>?_;simp only [go_sem,hG,hOw]
 refine a0s mixed (by kernel_rfl) ?_
 simp only [go_sem,hG,hOw]
 have hb':(0≤h.lo∧h.lo≤l.length)∧0≤h.drop∧h.drop≤l.length - h.lo:=by simpa [a9h] using hb
 (repeat' with_reducible first|apply And.intro|refine exP ?_ ?_|intro);all_goals try omega
 refine ⟨_,a0f (e0u [l.take h.lo.toNat,h.put,l.drop (h.lo+h.drop).toNat] (by simp) (by simp;omega)),?_⟩
 simp only [go_sem,hG,hOw]
 rw [show a3m l h=[l.take h.lo.toNat,h.put,l.drop (h.lo+h.drop).toNat].flatten by simp [a3m,hb]]
 exact .refl _
theorem d1y (l:List ByteArray) (n:Nat) (h:n < l.length):a0l Tryz.prog 166 [a0q 0 l,i64 n] (fun _=>.v (.string l[n])):=by
 refine a0b (ow:=fun _=>false) Tryz.func166 Tryz.ntmps166 rfl rfl fun G hG hOw hNm hB=>?_;simp only [go_sem,hG,hOw]
 (repeat' with_reducible first|apply And.intro|refine exP ?_ ?_|intro);all_goals try omega
theorem d1d (l:List ByteArray) (n:Nat) (h:n < l.length):a0l Tryz.prog 167 [a0q 0 l,i64 n] (fun _=>.v (.string (l[l.length - 1 - n]'(by omega)))):=by
 refine a0b (ow:=fun _=>false) Tryz.func167 Tryz.ntmps167 rfl rfl fun G hG hOw hNm hB=>?_;simp only [go_sem,hG,hOw]
 have hl:=b5z (lo:=0) (l:=l) hB (by simp)
 (repeat' with_reducible first|apply And.intro|refine exP ?_ ?_|intro);all_goals try omega
 congr 2;omega
theorem c3x (k:FuncId) (a b:List ByteArray) (ra rb:List ByteArray) (ha:ra.length=a.length) (hb:rb.length=b.length)
  (hfa:∀ (n:Nat) (h:n < a.length),a0l Tryz.prog k [a0q 0 a,i64 n] (fun _=>.v (.string (ra[n]'(by omega))))) (hfb:∀ (n:Nat) (h:n < b.length),a0l Tryz.prog k [a0q 0 b,i64 n] (fun _=>.v (.string (rb[n]'(by omega))))) :
  a0l Tryz.prog 165 [a0q 0 a,a0q 0 b,.fn (.func k) []] (fun _=>i64 (cpl ra rb)):=by
 refine a0b (ow:=fun _=>false) Tryz.func165 Tryz.ntmps165 rfl rfl fun G hG hOw hNm hB=>?_;simp only [go_sem,hG,hOw]
 have hla:=b5z (lo:=0) (l:=a) hB (by simp)
 have hlb:=b5z (lo:=0) (l:=b) hB (by simp)
 refine a0k (fun n:Nat=>St.of [(0,a0q 0 a),(1,a0q 0 b),(2,.fn (.func k) []),(7,i64 n)] []) (fun n=>n≤a.length∧n≤b.length∧ra.take n=rb.take n) (fun n=>a.length - n) 0 (by simp) (a0y (by (simp only [go_sem])<;>simp) hNm) ?_
 rintro n ⟨hna,hnb,hall⟩
 refine a0d _ _ _ ?_;simp only [go_sem,hG,hOw]
 (repeat' with_reducible first|apply And.intro|refine exP ?_ ?_|intro);all_goals try omega
 ·rename_i h1
  have h1':n < a.length∧n < b.length:=by split at h1<;>omega
  refine a0a (hfa n h1'.1) ?_
  simp only [go_sem,hG,hOw]
  refine a0a (hfb n h1'.2) ?_
  simp only [go_sem,hG,hOw]
  (repeat' with_reducible first|apply And.intro|refine exP ?_ ?_|intro);all_goals try omega
  ·rename_i h2
   refine ⟨n+1,⟨by omega,by omega,?_⟩,by omega,a0y (by (simp only [go_sem])<;>simp) hNm⟩
   rw [List.take_add_one,List.take_add_one,hall,List.getElem?_eq_getElem (by omega),List.getElem?_eq_getElem (by omega),h2]
  ·rename_i h2
   rw [f2q ra rb n (by omega) (by omega) hall (fun _ _=>h2)]
 ·rename_i h1
  rw [f2q ra rb n (by omega) (by omega) hall (fun h h'=>by split at h1<;>omega)]
theorem d0e (a b:List ByteArray) (hla:a.length≤1000) (hlb:b.length≤1000):a0l Tryz.prog 108 [a0q 0 a,a0q 0 b] (fun n=>.agg (hkE n (a3p a b))):=by
 refine a0b (ow:=fun _=>false) Tryz.func108 Tryz.ntmps108 rfl rfl fun G hG hOw hNm hB=>?_;simp only [go_sem,hG,hOw]
 refine a0a (c3x _ a b a b rfl rfl (fun n h=>d1y a n h) (fun n h=>d1y b n h)) ?_
 simp only [go_sem,hG,hOw]
 (repeat' with_reducible first|apply And.intro|refine exP ?_ ?_|intro);all_goals try omega
 obtain ⟨hna,hnb⟩:=d2c a b
 refine a0s mixed (by kernel_rfl) ?_
 simp only [go_sem,hG,hOw]
 (repeat' with_reducible first|apply And.intro|refine exP ?_ ?_|intro);all_goals try omega
 refine a1p (c3x _ (a.drop (cpl a b)) (b.drop (cpl a b)) (a.drop (cpl a b)).reverse (b.drop (cpl a b)).reverse (by simp) (by simp)
  (fun n h=>by have:=d1d (a.drop (cpl a b)) n h;rw [List.getElem_reverse];exact this) (fun n h=>by have:=d1d (b.drop (cpl a b)) n h;rw [List.getElem_reverse];exact this)) (by first|exact Subs.refl _|(repeat' (first|exact Subs.nil|exact Sub.refl _|exact Sub.lo (Nat.zero_le _)|refine Subs.cons ?_ ?_|refine Subs.agg ?_|refine Subs.fp ?_|refine Subs.tup ?_|refine Sub.map (Nat.zero_le _) (fun _=>?_)))) (by first|rfl|simp [b0t,b3o,pureV,pure0, *]) (by simp [chk,hG]) ?_
 simp only [go_sem,hG,hOw]
 have he:=d2c (a.drop (cpl a b)).reverse (b.drop (cpl a b)).reverse
 simp only [List.length_reverse,List.length_drop] at he
 have e2:((b.length - cpl a b:Nat) - (cpl (a.drop (cpl a b)).reverse (b.drop (cpl a b)).reverse:Nat):Int).toNat=b.length - cpl a b - cpl (a.drop (cpl a b)).reverse (b.drop (cpl a b)).reverse:=by omega
 simp only [e2]
 (repeat' with_reducible first|apply And.intro|refine exP ?_ ?_|intro);all_goals try omega
 refine a0a (a8e ((b.drop (cpl a b)).take (b.length - cpl a b - cpl (a.drop (cpl a b)).reverse (b.drop (cpl a b)).reverse)) (by simp;omega)) ?_
 simp only [go_sem,hG,hOw]
 have e3:(a3p a b).put=(b.drop (cpl a b)).take (b.length - cpl a b - cpl (a.drop (cpl a b)).reverse (b.drop (cpl a b)).reverse):=by
  unfold a3p
  simp only [List.drop_take]
  congr 1;omega
 rw [e3,show (a3p a b).lo=cpl a b from rfl,show (a3p a b).drop=((a.length - cpl a b:Nat):Int) - (cpl (a.drop (cpl a b)).reverse (b.drop (cpl a b)).reverse:Nat) by unfold a3p;simp only;omega]
 exact .refl _
end Go.Proofs.YtmjhfccbbfpppaaGreatDoor
