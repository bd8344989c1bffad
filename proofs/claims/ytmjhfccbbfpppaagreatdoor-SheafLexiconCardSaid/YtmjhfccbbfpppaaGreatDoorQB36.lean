import Derived.Test.YtmjhfccbbfpppaaGreatDoorQB14
import Derived.Test.YtmjhfccbbfpppaaGreatDoorQB22
import Derived.Test.YtmjhfccbbfpppaaGreatDoorQB23
import Derived.Test.YtmjhfccbbfpppaaGreatDoorQB29
namespace Go.Proofs.YtmjhfccbbfpppaaGreatDoor
open Go Pm
set_option linter.unusedSimpArgs false
set_option linter.unusedVariables false
set_option maxHeartbeats 4000000
set_option maxRecDepth 100000
structure Rl where
 cut:ByteArray
 put:ByteArray
 least:Int
structure Dc where
 num:Int
 kind:UInt8
 form:ByteArray
 ch:Int
 ln:Int
 wd:Int
 stem:ByteArray
 mark:UInt8
 of:Int
structure Lx where
 rules:List Rl
 decs:List Dc
def u8 (k:UInt8):V:=.v (.int .u8 k.toNat)
def rlC (r:Rl):List V:=[str r.cut,str r.put,i64 r.least]
def rls (lo:Nat) (l:List Rl):V:=.lst lo 3 (l.map rlC)
def dcC (d:Dc):List V:=[i64 d.num,u8 d.kind,str d.form,i64 d.ch,i64 d.ln,i64 d.wd,str d.stem,u8 d.mark,i64 d.of]
def dcs (lo:Nat) (l:List Dc):V:=.lst lo 9 (l.map dcC)
def lxC (lo:Nat) (x:Lx):List V:=[rls lo x.rules,dcs lo x.decs]
def lxE (lo:Nat) (x:Lx):V:=.agg (lxC lo x)
attribute [go_sem] u8 rlC rls dcC dcs lxC lxE
theorem c9v (l:List Rl):a3b (l.map rlC)=true:=a2l (fun _=>rfl) l
theorem d0c (l:List Dc):a3b (l.map dcC)=true:=a2l (fun _=>rfl) l
attribute [go_sem] c9v d0c
def a2r (s:ByteArray) (least:Int):Bool:=inB s.size least 12 && s.data.toList.all a1i
theorem a3y (s:ByteArray):a2r s 1=a1f s:=by unfold a2r a1f;rw [Bool.and_comm]
theorem b5n (r:Int):a0l Tryz.prog 159 [.v (.int .i32 r)] (fun _=>bl (decide (r < 97) || decide (122 < r))):=by
 refine a0b (ow:=fun _=>false) Tryz.func159 Tryz.ntmps159 rfl rfl fun G hG hOw hNm hB=>?_;simp only [go_sem,hG,hOw]
 (repeat' with_reducible first|apply And.intro|refine exP ?_ ?_|intro);all_goals try omega
 ·rename_i h;rw [decide_eq_false h];rfl
 ·rename_i h;rw [decide_eq_true h];rfl
theorem e8i (n lo hi:Int):a0l Tryz.prog 160 [i64 n,.fp [i64 lo],.fp [i64 hi]] (fun _=>bl (decide (n < lo) || decide (hi < n))):=by
 refine a0b (ow:=fun _=>false) Tryz.func160 Tryz.ntmps160 rfl rfl fun G hG hOw hNm hB=>?_;simp only [go_sem,hG,hOw]
 (repeat' with_reducible first|apply And.intro|refine exP ?_ ?_|intro);all_goals try omega
 ·rename_i h;rw [decide_eq_false h];rfl
 ·rename_i h;rw [decide_eq_true h];rfl
theorem f7l (lo hi:Int) (l:List Int):a0l Tryz.prog 103 [i64 lo,i64 hi,.lst 0 1 (l.map c3r)] (fun _=>bl (l.all fun n=>inB n lo hi)):=by
 refine a0b (ow:=fun _=>false) Tryz.func103 Tryz.ntmps103 rfl rfl fun G hG hOw hNm hB=>?_;simp only [go_sem,hG,hOw]
 refine a2x (fun i=>[3,4].contains i) ?_
 simp only [go_sem,hG,hOw]
 refine a0a (a4o _ [.fp [i64 lo],.fp [i64 hi]] (fun n=>decide (n < lo) || decide (hi < n)) l rfl (fun x _=>e8i x lo hi)) ?_
 simp only [go_sem,hG,hOw]
 rw [List.not_any_eq_all_not]
 congr 1
 funext n
 rw [Bool.eq_iff_iff];simp [inB]
theorem a4q (lo hi n:Int):a0l Tryz.prog 103 [i64 lo,i64 hi,.lst 0 1 [[i64 n]]] (fun _=>bl (inB n lo hi)):=by
 have:=f7l lo hi [n]
 simpa [c3r] using this
theorem e3s (s:ByteArray) (hs:s.size≤140737488355328):a0l Tryz.prog 249 [str s,.fn (.func 159) [],bl true] (fun _=>i64 (a9b (fun b=>!a1i b) s.data.toList)):=by
 have qF:(false == true)=false:=rfl
 have qT:(true == true)=true:=rfl
 refine a0b (ow:=fun _=>false) Tryz.func249 Tryz.ntmps249 rfl rfl fun G hG hOw hNm hB=>?_;simp only [go_sem,hG,hOw]
 refine c7s (str:=s) rfl rfl (by kernel_rfl) rfl (by rw [hG];decide) (by simp [go_sem]) ?_
 simp only [go_sem,hG,hOw]
 refine a0k (fun i:Nat=>St.of [(1,.fn (.func 159) []),(2,bl true),(10,.ptr 10 0)] [(10,.obj (.stringIter s i))]) (fun i=>i≤s.size∧(s.data.toList.take i).all a1i=true) (fun i=>s.size - i) 0 (by simp) (a1m [(10,some 10)]) ?_
 rintro i ⟨hi,hall⟩
 by_cases hil:i < s.size
 ·refine a0d _ _ _ ?_;simp only [go_sem,hG,hOw]
  refine d5t (str:=s) (k:=10) (pos:=i) rfl (by simp [go_sem]) (by simp [go_sem]) rfl (by rw [hG];decide) hil ?_
  have hbt:=b7i s i hil
  have hlen:i < s.data.toList.length:=by simpa using hil
  have hall2:(s.data.toList.take i).all (fun b=>!(fun b=>!a1i b) b)=true:=by simpa using hall
  have hbad:a1i s[i]=false→(i:Int)=a9b (fun b=>!a1i b) s.data.toList:=fun hb=>(b0p hlen hall2 (by simp only [hbt,hb];rfl)).symm
  by_cases ha:(s[i]'hil).toNat < 128
  ·rw [decode_ascii s i hil ha]
   simp only [go_sem,hG,hOw]
   refine a0a (b5n (s[i]'hil).toNat) ?_
   cases hb:a1i s[i] with
   |false =>
    have hd:(decide (((s[i]'hil).toNat:Int) < 97) || decide ((122:Int) < (s[i]'hil).toNat))=true:=by unfold a1i at hb;simp at hb ⊢;omega
    rw [hd]
    simp (maxSteps:=2000000) only [go_sem,hG,hOw,qF,qT]
    try (repeat' with_reducible first|apply And.intro|refine exP ?_ ?_|intro);all_goals try omega
    rw [hbad hb]
   |true =>
    have hd:(decide (((s[i]'hil).toNat:Int) < 97) || decide ((122:Int) < (s[i]'hil).toNat))=false:=by unfold a1i at hb;simp at hb ⊢;omega
    rw [hd]
    simp (maxSteps:=2000000) only [go_sem,hG,hOw,qF,qT]
    try (repeat' with_reducible first|apply And.intro|refine exP ?_ ?_|intro);all_goals try omega
    exact ⟨i+1,⟨by omega,a0u hlen hall (by rw [hbt];exact hb)⟩,by omega,a1m [(10,some 10)]⟩
  ·have hge:=c0y s i hil ha
   obtain ⟨r,hr⟩:∃ r,r=(Utf8.decode s i).1:=⟨_,rfl⟩
   rw [← hr] at hge ⊢
   have hb:a1i s[i]=false:=by simp [a1i];omega
   have hd:(decide ((r:Int) < 97) || decide ((122:Int) < r))=true:=by simp;omega
   simp only [go_sem,hG,hOw]
   refine a0a (b5n r) ?_
   rw [hd]
   simp (maxSteps:=2000000) only [go_sem,hG,hOw,qF,qT]
   try (repeat' with_reducible first|apply And.intro|refine exP ?_ ?_|intro);all_goals try omega
   rw [hbad hb]
 ·obtain rfl:i=s.size:=by omega
  refine a0d _ _ _ ?_;simp only [go_sem,hG,hOw]
  refine e5m (str:=s) (k:=10) (pos:=s.size) rfl (by simp [go_sem]) (by simp [go_sem]) rfl (by rw [hG];decide) hil ?_
  simp only [go_sem,hG,hOw]
  rw [List.take_of_length_le (by simp)] at hall
  exact (a8o (by simpa using hall)).symm
theorem c3a (s:ByteArray) (hs:s.size≤140737488355328):a0l Tryz.prog 158 [str s,.fn (.func 159) []] (fun _=>bl (s.data.toList.any fun b=>!a1i b)):=by
 have hI:a0l Tryz.prog 205 [str s,.fn (.func 159) []] (fun _=>i64 (a9b (fun b=>!a1i b) s.data.toList)):=by
  refine a0b (ow:=fun _=>false) Tryz.func205 Tryz.ntmps205 rfl rfl fun G hG hOw hNm hB=>?_;simp only [go_sem,hG,hOw]
  refine a0a (e3s s hs) ?_
  simp only [go_sem,hG,hOw]
 refine a0b (ow:=fun _=>false) Tryz.func158 Tryz.ntmps158 rfl rfl fun G hG hOw hNm hB=>?_;simp only [go_sem,hG,hOw]
 refine a0a hI ?_
 simp only [go_sem,hG,hOw]
 rw [a7v]
theorem a5r (s:ByteArray) (least:Int) (hs:s.size≤140737488355328):a0l Tryz.prog 102 [str s,i64 least] (fun _=>bl (a2r s least)):=by
 refine a0b (ow:=fun _=>false) Tryz.func102 Tryz.ntmps102 rfl rfl fun G hG hOw hNm hB=>?_;simp only [go_sem,hG,hOw]
 refine a0a (a4q least 12 s.size) ?_
 unfold a2r
 cases h:inB s.size least 12 with
 |true =>
  simp only [go_sem,hG,hOw]
  (repeat' with_reducible first|apply And.intro|refine exP ?_ ?_|intro);all_goals try omega
  refine a0a (c3a s hs) ?_
  simp only [go_sem,hG,hOw]
  rw [List.not_any_eq_all_not];simp
 |false =>
  simp only [go_sem,hG,hOw]
  try (repeat' with_reducible first|apply And.intro|refine exP ?_ ?_|intro);all_goals try omega
def a5l (stem:ByteArray) (mark:UInt8):Bool:=a1f stem && decide ((mark.toNat:Int)≤3)
theorem b0o (stem:ByteArray) (mark:UInt8) (hs:stem.size≤140737488355328):a0l Tryz.prog 164 [.agg [str stem,u8 mark]] (fun _=>bl (a5l stem mark)):=by
 refine a0b (ow:=fun _=>false) Tryz.func164 Tryz.ntmps164 rfl rfl fun G hG hOw hNm hB=>?_;simp only [go_sem,hG,hOw]
 have h:=a5r stem 1 hs
 rw [a3y] at h
 refine a0a h ?_
 simp only [go_sem,hG,hOw]
 unfold a5l
 cases a1f stem<;>simp only [go_sem,hG,hOw]
def a8a (r:Rl):Bool:=a2r r.cut 1 && a2r r.put 0 && !decide (r.cut=r.put) && inB r.least 1 12
def bdR (r:Rl):Prop:=r.cut.size≤1000∧r.put.size≤1000
theorem c7m (r:Rl) (h:bdR r):a0l Tryz.prog 101 [.agg (rlC r)] (fun _=>bl (a8a r)):=by
 obtain ⟨h1,h2⟩:=h
 refine a0b (ow:=fun _=>false) Tryz.func101 Tryz.ntmps101 rfl rfl fun G hG hOw hNm hB=>?_;simp only [go_sem,hG,hOw]
 have c1:=a5r r.cut 1 (by omega)
 have c2:=a5r r.put 0 (by omega)
 have c3:=a4q 1 12 r.least
 unfold a8a
 refine a0a c1 ?_
 cases a2r r.cut 1 with
 |false =>
  simp only [go_sem,hG,hOw]
  try (repeat' with_reducible first|apply And.intro|refine exP ?_ ?_|intro);all_goals try omega
 |true =>
  simp only [go_sem,hG,hOw]
  (repeat' with_reducible first|apply And.intro|refine exP ?_ ?_|intro);all_goals try omega
  refine a0a c2 ?_
  cases a2r r.put 0 with
  |false =>
   simp only [go_sem,hG,hOw]
   try (repeat' with_reducible first|apply And.intro|refine exP ?_ ?_|intro);all_goals try omega
  |true =>
   by_cases he:r.cut=r.put
   ·rw [decide_eq_true he]
    simp (maxSteps:=2000000) only [go_sem,hG,hOw,decide_eq_true he]
    try (repeat' with_reducible first|apply And.intro|refine exP ?_ ?_|intro);all_goals try omega
   ·rw [decide_eq_false he]
    simp (maxSteps:=2000000) only [go_sem,hG,hOw,decide_eq_false he]
    (repeat' with_reducible first|apply And.intro|refine exP ?_ ?_|intro);all_goals try omega
    refine a0a c3 ?_
    simp only [go_sem,hG,hOw]
    try (repeat' with_reducible first|apply And.intro|refine exP ?_ ?_|intro);all_goals try omega
open Go Pm
theorem f1i (r:Rl) (h:bdR r):a0l Tryz.prog 157 [.agg (rlC r),.fp [.fn (.func 101) []]] (fun _=>bl (!a8a r)):=by
 refine a0b (ow:=fun _=>false) Tryz.func157 Tryz.ntmps157 rfl rfl fun G hG hOw hNm hB=>?_;simp only [go_sem,hG,hOw]
 refine a0a (c7m r h) ?_
 simp only [go_sem,hG,hOw]
theorem e5g (l:List Rl) (hb:∀ r ∈ l,bdR r):a0l Tryz.prog 204 [rls 0 l,.fn (.func 157) [.fp [.fn (.func 101) []]]] (fun _=>i64 (a9b (fun r=>!a8a r) l)):=by
 refine a0b (ow:=fun _=>false) Tryz.func204 Tryz.ntmps204 rfl rfl fun G hG hOw hNm hB=>?_;simp only [go_sem,hG,hOw]
 have hl:=c5c hB (List.mem_cons_self ..)
 simp only [List.length_map] at hl
 refine a0k (fun i:Nat=>St.of [(0,rls 0 l),(1,.fn (.func 157) [.fp [.fn (.func 101) []]]),(7,i64 l.length),(8,i64 i)] []) (fun i=>i≤l.length∧(l.take i).all (fun x=>!(fun r=>!a8a r) x)=true) (fun i=>l.length - i) 0 (by simp) (a0y (by (simp only [go_sem])<;>simp) hNm) ?_
 rintro i ⟨hi,hall⟩
 refine a0d _ _ _ ?_;simp only [go_sem,hG,hOw]
 (repeat' with_reducible first|apply And.intro|refine exP ?_ ?_|intro);all_goals try omega
 ·rename_i hlt
  have hil:i < l.length:=by omega
  refine a0a (f1i l[i] (hb _ (List.getElem_mem hil))) ?_
  simp only [go_sem,hG,hOw]
  (repeat' with_reducible first|apply And.intro|refine exP ?_ ?_|intro);all_goals try omega
  ·rename_i hp
   exact (b0p hil hall (by simpa using hp)).symm
  ·rename_i hp
   exact ⟨i+1,⟨by omega,a0u hil hall (by simpa using hp)⟩,by omega,a0y (by (simp only [go_sem])<;>simp) hNm⟩
 ·rename_i hge
  rw [a1k hi hge] at hall
  exact (a8o hall).symm
theorem f9d (l:List Rl) (hb:∀ r ∈ l,bdR r):a0l Tryz.prog 100 [rls 0 l,.fn (.func 101) []] (fun _=>bl (l.all a8a)):=by
 have hC:a0l Tryz.prog 156 [rls 0 l,.fn (.func 157) [.fp [.fn (.func 101) []]]] (fun _=>bl (l.any fun r=>!a8a r)):=by
  refine a0b (ow:=fun _=>false) Tryz.func156 Tryz.ntmps156 rfl rfl fun G hG hOw hNm hB=>?_;simp only [go_sem,hG,hOw]
  refine a0a (e5g l hb) ?_
  simp only [go_sem,hG,hOw]
  rw [a7v]
 refine a0b (ow:=fun _=>false) Tryz.func100 Tryz.ntmps100 rfl rfl fun G hG hOw hNm hB=>?_;simp only [go_sem,hG,hOw]
 refine a2x (fun i=>i == 3) ?_
 simp only [go_sem,hG,hOw]
 refine a0a hC ?_
 simp only [go_sem,hG,hOw]
 rw [List.not_any_eq_all_not];simp
open Go Pm
def a2z (t:List Ch) (a b w:Int):Bool:=match a4x t a b with
 |some l=>inB w 0 ((l.length:Int) - 1)
 |none=>false
def plV (a b w:Int):V:=.agg [i64 a,i64 b,i64 w]
attribute [go_sem] plV
def d1f (t:List Ch) (a b w:Int):ByteArray:=match a4x t a b with
 |some l=>l.getD w.toNat ⟨#[]⟩
 |none=>⟨#[]⟩
theorem b6w {t:List Ch} (ht:c1w t) {a b:Int} {l:List ByteArray} (h:a4x t a b=some l):l.length≤1000:=by
 unfold a4x at h
 split at h
 ·simp only [Option.bind_eq_some_iff] at h
  obtain ⟨c,h1,h2⟩:=h
  exact ((ht.2 c (List.mem_of_getElem? h1)).2 l (List.mem_of_getElem? h2)).1
 ·cases h
theorem f2p (t:List Ch) (ht:c1w t) (a b w:Int):a0l Tryz.prog 250 [.fp [chs 0 t],plV a b w] (fun _=>bl (a2z t a b w)):=by
 unfold a2z
 cases h:a4x t a b with
 |some l =>
  have hl:=b6w ht h
  refine a0b (ow:=fun _=>false) Tryz.func250 Tryz.ntmps250 rfl rfl fun G hG hOw hNm hB=>?_;simp only [go_sem,hG,hOw]
  refine a0s mixed (by kernel_rfl) ?_
  simp only [go_sem,hG,hOw]
  refine ⟨_,a0f (c2k t ht a b w l h),?_⟩
  simp only [go_sem,hG,hOw]
  refine ⟨by omega,?_⟩
  refine ⟨_,a0f (a3x 0 ((l.length:Int) - 1) w),?_⟩
  simp only [go_sem,hG,hOw]
 |none =>
  have hz:inB w 0 (((0:Nat):Int) - 1)=false:=by simp [inB];omega
  have hI:=a3x 0 (((0:Nat):Int) - 1) w
  rw [hz] at hI
  refine a0b (ow:=fun _=>false) Tryz.func250 Tryz.ntmps250 rfl rfl fun G hG hOw hNm hB=>?_;simp only [go_sem,hG,hOw]
  refine a0s mixed (by kernel_rfl) ?_
  simp only [go_sem,hG,hOw]
  refine ⟨_,a0f (d6u t ht a b w h),?_⟩
  simp only [go_sem,hG,hOw]
  try refine ⟨by omega,?_⟩
  refine ⟨_,a0f hI,?_⟩
  simp only [go_sem,hG,hOw]
theorem d5z (t:List Ch) (ht:a1s t=true) (a b w:Int) (h:a2z t a b w=true):a0l Tryz.prog 207 [txE 0 t,plV a b w] (fun _=>.tup [.fp [chs 0 t],i64 0]):=by
 have hH:=f2p t (c5i ht) a b w
 rw [h] at hH
 refine a0b (ow:=fun _=>false) Tryz.func207 Tryz.ntmps207 rfl rfl fun G hG hOw hNm hB=>?_;simp only [go_sem,hG,hOw]
 refine a0a (b0u t ht) ?_
 simp only [go_sem,hG,hOw]
 (repeat' with_reducible first|apply And.intro|refine exP ?_ ?_|intro);all_goals try omega
 refine a0a hH ?_
 simp only [go_sem,hG,hOw]
 try (repeat' with_reducible first|apply And.intro|refine exP ?_ ?_|intro);all_goals try omega
theorem e0w (t:List Ch) (ht:a1s t=true) (a b w:Int) (h:a2z t a b w=false):a0l Tryz.prog 207 [txE 0 t,plV a b w] (fun _=>.tup [.v (.pointer none),i64 12]):=by
 have hH:=f2p t (c5i ht) a b w
 rw [h] at hH
 refine a0b (ow:=fun _=>false) Tryz.func207 Tryz.ntmps207 rfl rfl fun G hG hOw hNm hB=>?_;simp only [go_sem,hG,hOw]
 refine a0a (b0u t ht) ?_
 simp only [go_sem,hG,hOw]
 (repeat' with_reducible first|apply And.intro|refine exP ?_ ?_|intro);all_goals try omega
 refine a0a hH ?_
 simp only [go_sem,hG,hOw]
 try (repeat' with_reducible first|apply And.intro|refine exP ?_ ?_|intro);all_goals try omega
theorem c3h (t:List Ch) (ht:a1s t=true) (a b w:Int):a0l Tryz.prog 163 [txE 0 t,plV a b w] (fun _=>.tup [str (if a2z t a b w then d1f t a b w else ⟨#[]⟩),i64 (if a2z t a b w then 0 else 12)]):=by
 cases h:a2z t a b w with
 |false =>
  refine a0b (ow:=fun _=>false) Tryz.func163 Tryz.ntmps163 rfl rfl fun G hG hOw hNm hB=>?_;simp only [go_sem,hG,hOw]
  refine a0a (e0w t ht a b w h) ?_
  simp only [go_sem,hG,hOw]
  try (repeat' with_reducible first|apply And.intro|refine exP ?_ ?_|intro);all_goals try omega
 |true =>
  obtain ⟨l,hl⟩:∃ l,a4x t a b=some l:=by
   unfold a2z at h
   cases hl:a4x t a b with
   |none=>rw [hl] at h;cases h
   |some l=>exact ⟨l,rfl⟩
  have hw:0≤w∧w≤(l.length:Int) - 1:=by
   unfold a2z at h
   rw [hl] at h
   simpa [inB] using h
  have hW:d1f t a b w=l.getD w.toNat ⟨#[]⟩:=by unfold d1f;rw [hl]
  rw [hW]
  have hwl:w.toNat < l.length:=by omega
  have hg:l.getD w.toNat ⟨#[]⟩=l[w.toNat]:=by simp [List.getD_eq_getElem?_getD,hwl]
  rw [hg]
  refine a0b (ow:=fun _=>false) Tryz.func163 Tryz.ntmps163 rfl rfl fun G hG hOw hNm hB=>?_;simp only [go_sem,hG,hOw]
  refine a0a (d5z t ht a b w h) ?_
  simp only [go_sem,hG,hOw]
  (repeat' with_reducible first|apply And.intro|refine exP ?_ ?_|intro);all_goals try omega
  refine a0s mixed (by kernel_rfl) ?_
  simp only [go_sem,hG,hOw]
  refine ⟨_,a0f (c2k t (c5i ht) a b w l hl),?_⟩
  simp only [go_sem,hG,hOw]
  (repeat' with_reducible first|apply And.intro|refine exP ?_ ?_|intro);all_goals try omega
open Go Pm
def c2u (a b c:Int):Bool:=decide (a=0) && (decide (b=0) && decide (c=0))
def f9f (stem:ByteArray) (mark:UInt8):Bool:=decide (stem=⟨#[]⟩) && decide (mark=0)
def b1p (t:List Ch) (k:Int) (num:Int) (form:ByteArray) (ch ln wd:Int) (stem:ByteArray) (mark:UInt8) (of:Int):Bool :=
 if k=1 then a1f form && (c2u ch ln wd && (a5l stem mark && decide (of=0)))
 else if k=2 then a1f form && (a2z t ch ln wd && (a5l stem mark && decide (of=0)))
 else if k=3 then decide (form=⟨#[]⟩) && (a2z t ch ln wd && (a5l stem mark && decide (of=0)))
 else if k=4 then decide (form=⟨#[]⟩) && (c2u ch ln wd && (f9f stem mark && inB of 1 (num - 1)))
 else false
def c2h (t:List Ch) (d:Dc):Bool:=inB d.num 1 999 && b1p t d.kind.toNat d.num d.form d.ch d.ln d.wd d.stem d.mark d.of
def bdD (d:Dc):Prop:=d.form.size≤100000∧d.stem.size≤100000
theorem d7s (mark:UInt8):(mark.toNat:Int)=0↔mark=0:=by
 constructor
 ·intro h
  exact UInt8.toNat_inj.1 (by show _=0;omega)
 ·rintro rfl;rfl
theorem a5i (b:Bool):decide ((if b=true then (0:Int) else 12)=0)=b:=by cases b<;>rfl
theorem g0s (t:List Ch) (num:Int) (form:ByteArray) (ch ln wd:Int) (stem:ByteArray) (mark:UInt8) (of:Int):b1p t 1 num form ch ln wd stem mark of=((decide (ch=0) && (decide (ln=0) && (decide (wd=0) && decide (of=0)))) && (a1f form && a5l stem mark)):=by
 have h1:b1p t 1 num form ch ln wd stem mark of=(a1f form && (c2u ch ln wd && (a5l stem mark && decide (of=0)))):=rfl
 rw [h1]
 unfold c2u
 generalize a1f form=a
 generalize a5l stem mark=b
 generalize decide (ch=0)=c
 generalize decide (ln=0)=d
 generalize decide (wd=0)=e
 generalize decide (of=0)=f
 revert a b c d e f
 decide
theorem g0o (t:List Ch) (num:Int) (form:ByteArray) (ch ln wd:Int) (stem:ByteArray) (mark:UInt8) (of:Int):b1p t 2 num form ch ln wd stem mark of=(decide (of=0) && (a1f form && (a2z t ch ln wd && a5l stem mark))):=by
 have h2:b1p t 2 num form ch ln wd stem mark of=(a1f form && (a2z t ch ln wd && (a5l stem mark && decide (of=0)))):=rfl
 rw [h2]
 generalize a1f form=a
 generalize a5l stem mark=b
 generalize a2z t ch ln wd=c
 generalize decide (of=0)=f
 revert a b c f
 decide
theorem g3n (t:List Ch) (num:Int) (form:ByteArray) (ch ln wd:Int) (stem:ByteArray) (mark:UInt8) (of:Int):b1p t 3 num form ch ln wd stem mark of=((decide (form=⟨#[]⟩) && decide (of=0)) && (a2z t ch ln wd && a5l stem mark)):=by
 have h3:b1p t 3 num form ch ln wd stem mark of=(decide (form=⟨#[]⟩) && (a2z t ch ln wd && (a5l stem mark && decide (of=0)))):=rfl
 rw [h3]
 generalize decide (form=⟨#[]⟩)=a
 generalize a5l stem mark=b
 generalize a2z t ch ln wd=c
 generalize decide (of=0)=f
 revert a b c f
 decide
theorem g3r (t:List Ch) (num:Int) (form:ByteArray) (ch ln wd:Int) (stem:ByteArray) (mark:UInt8) (of:Int):b1p t 4 num form ch ln wd stem mark of=((decide (form=⟨#[]⟩) && (decide (ch=0) && (decide (ln=0) && (decide (wd=0) && (decide (stem=⟨#[]⟩) && decide ((mark.toNat:Int)=0)))))) && inB of 1 (num - 1)):=by
 have h4:b1p t 4 num form ch ln wd stem mark of=(decide (form=⟨#[]⟩) && (c2u ch ln wd && (f9f stem mark && inB of 1 (num - 1)))):=rfl
 rw [h4]
 unfold c2u f9f
 have hm:decide (mark=0)=decide ((mark.toNat:Int)=0):=decide_eq_decide.2 (d7s mark).symm
 rw [hm]
 simp only [Bool.and_assoc]
end Go.Proofs.YtmjhfccbbfpppaaGreatDoor
