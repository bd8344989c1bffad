import Derived.Test.YtmjhfccbbfpppaaGreatDoorQA15
import Derived.Test.YtmjhfccbbfpppaaGreatDoorQA17
import Derived.Test.YtmjhfccbbfpppaaGreatDoorQA18
import Derived.Test.YtmjhfccbbfpppaaGreatDoorQA31
namespace Go.Proofs.YtmjhfccbbfpppaaGreatDoor
set_option linter.unusedSimpArgs false
set_option linter.unusedVariables false
open Go Pm
set_option maxHeartbeats 4000000
set_option maxRecDepth 100000
structure Rl where
 cut:ByteArray
 put:ByteArray
 least:Int
structure Dc where
 num:Int
 kind:UInt8
 form:ByteArray
 ch:Int
 ln:Int
 wd:Int
 stem:ByteArray
 mark:UInt8
 of:Int
structure Lx where
 rules:List Rl
 decs:List Dc
def u8 (k:UInt8):V:=.v (.int .u8 k.toNat)
def rlC (r:Rl):List V:=[str r.cut,str r.put,i64 r.least]
def rls (lo:Nat) (l:List Rl):V:=.lst lo 3 (l.map rlC)
def dcC (d:Dc):List V:=[i64 d.num,u8 d.kind,str d.form,i64 d.ch,i64 d.ln,i64 d.wd,str d.stem,u8 d.mark,i64 d.of]
def dcs (lo:Nat) (l:List Dc):V:=.lst lo 9 (l.map dcC)
def lxC (lo:Nat) (x:Lx):List V:=[rls lo x.rules,dcs lo x.decs]
def lxE (lo:Nat) (x:Lx):V:=.agg (lxC lo x)
attribute [go_sem] u8 rlC rls dcC dcs lxC lxE
theorem c7l (l:List Rl):a2p (l.map rlC)=true:=a2b (fun _=>rfl) l
theorem c6v (l:List Dc):a2p (l.map dcC)=true:=a2b (fun _=>rfl) l
attribute [go_sem] c7l c6v
def a6a (s:ByteArray) (least:Int):Bool:=inB s.size least 12 && s.data.toList.all a1p
theorem a5u (s:ByteArray):a6a s 1=a1b s:=by unfold a6a a1b;rw [Bool.and_comm]
theorem b5w (r:Int):a0l Tryz.prog 159 [.v (.int .i32 r)] (fun _=>bl (decide (r < 97) || decide (122 < r))):=by
 refine a0b (ow:=fun _=>false) Tryz.func159 Tryz.ntmps159 rfl rfl fun G hG hOw hNm hB=>?_;simp only [go_sem,hG,hOw]
 (repeat' with_reducible first|refine And.intro ?_ ?_|intro _|refine exP ?_ ?_);all_goals try omega
 ·rename_i h;rw [decide_eq_false h];rfl
 ·rename_i h;rw [decide_eq_true h];rfl
theorem e5g (n lo hi:Int):a0l Tryz.prog 160 [i64 n,.fp [i64 lo],.fp [i64 hi]] (fun _=>bl (decide (n < lo) || decide (hi < n))):=by
 refine a0b (ow:=fun _=>false) Tryz.func160 Tryz.ntmps160 rfl rfl fun G hG hOw hNm hB=>?_;simp only [go_sem,hG,hOw]
 (repeat' with_reducible first|refine And.intro ?_ ?_|intro _|refine exP ?_ ?_);all_goals try omega
 ·rename_i h;rw [decide_eq_false h];rfl
 ·rename_i h;rw [decide_eq_true h];rfl
theorem f5u (lo hi:Int) (l:List Int):a0l Tryz.prog 103 [i64 lo,i64 hi,.lst 0 1 (l.map c0t)] (fun _=>bl (l.all fun n=>inB n lo hi)):=by
 refine a0b (ow:=fun _=>false) Tryz.func103 Tryz.ntmps103 rfl rfl fun G hG hOw hNm hB=>?_;simp only [go_sem,hG,hOw]
 refine a6x (fun i=>[3,4].contains i) ?_
 simp only [go_sem,hG,hOw]
 refine a0a (a3i _ [.fp [i64 lo],.fp [i64 hi]] (fun n=>decide (n < lo) || decide (hi < n)) l rfl (fun x _=>e5g x lo hi)) ?_
 simp only [go_sem,hG,hOw]
 rw [List.not_any_eq_all_not]
 congr 1
 funext n
 rw [Bool.eq_iff_iff];simp [inB]
theorem a4n (lo hi n:Int):a0l Tryz.prog 103 [i64 lo,i64 hi,.lst 0 1 [[i64 n]]] (fun _=>bl (inB n lo hi)):=by
 have:=f5u lo hi [n]
 simpa [c0t] using this
theorem e0u (s:ByteArray) (hs:s.size≤140737488355328):a0l Tryz.prog 249 [str s,.fn (.func 159) [],bl true] (fun _=>i64 (a8u (fun b=>!a1p b) s.data.toList)):=by
 have qF:(false == true)=false:=rfl
 have qT:(true == true)=true:=rfl
 refine a0b (ow:=fun _=>false) Tryz.func249 Tryz.ntmps249 rfl rfl fun G hG hOw hNm hB=>?_;simp only [go_sem,hG,hOw]
 refine c6l (str:=s) rfl rfl (by kernel_rfl) rfl (by rw [hG];decide) (by simp [go_sem]) ?_
 simp only [go_sem,hG,hOw]
 refine a0i (fun i:Nat=>St.of [(1,.fn (.func 159) []),(2,bl true),(10,.ptr 10 0)] [(10,.obj (.stringIter s i))]) (fun i=>i≤s.size∧(s.data.toList.take i).all a1p=true) (fun i=>s.size - i) 0 (by simp) (a1m [(10,some 10)]) ?_
 rintro i ⟨hi,hall⟩
 by_cases hil:i < s.size
 ·refine a0d _ _ _ ?_;simp only [go_sem,hG,hOw]
  refine d4w (str:=s) (k:=10) (pos:=i) rfl (by simp [go_sem]) (by simp [go_sem]) rfl (by rw [hG];decide) hil ?_
  have hbt:=c6d s i hil
  have hlen:i < s.data.toList.length:=by simpa using hil
  have hall2:(s.data.toList.take i).all (fun b=>!(fun b=>!a1p b) b)=true:=by simpa using hall
  have hbad:a1p s[i]=false→(i:Int)=a8u (fun b=>!a1p b) s.data.toList:=fun hb=>(b0e hlen hall2 (by simp only [hbt,hb];rfl)).symm
  by_cases ha:(s[i]'hil).toNat < 128
  ·rw [decode_ascii s i hil ha]
   simp only [go_sem,hG,hOw]
   refine a0a (b5w (s[i]'hil).toNat) ?_
   cases hb:a1p s[i] with
   |false =>
    have hd:(decide (((s[i]'hil).toNat:Int) < 97) || decide ((122:Int) < (s[i]'hil).toNat))=true:=by unfold a1p at hb;simp at hb ⊢;omega
    rw [hd]
    simp (maxSteps:=2000000) only [go_sem,hG,hOw,qF,qT]
    try (repeat' with_reducible first|refine And.intro ?_ ?_|intro _|refine exP ?_ ?_);all_goals try omega
    rw [hbad hb]
   |true =>
    have hd:(decide (((s[i]'hil).toNat:Int) < 97) || decide ((122:Int) < (s[i]'hil).toNat))=false:=by unfold a1p at hb;simp at hb ⊢;omega
    rw [hd]
    simp (maxSteps:=2000000) only [go_sem,hG,hOw,qF,qT]
    try (repeat' with_reducible first|refine And.intro ?_ ?_|intro _|refine exP ?_ ?_);all_goals try omega
    exact ⟨i+1,⟨by omega,a0v hlen hall (by rw [hbt];exact hb)⟩,by omega,a1m [(10,some 10)]⟩
  ·have hge:=c0a s i hil ha
   obtain ⟨r,hr⟩:∃ r,r=(Utf8.decode s i).1:=⟨_,rfl⟩
   rw [← hr] at hge ⊢
   have hb:a1p s[i]=false:=by simp [a1p];omega
   have hd:(decide ((r:Int) < 97) || decide ((122:Int) < r))=true:=by simp;omega
   simp only [go_sem,hG,hOw]
   refine a0a (b5w r) ?_
   rw [hd]
   simp (maxSteps:=2000000) only [go_sem,hG,hOw,qF,qT]
   try (repeat' with_reducible first|refine And.intro ?_ ?_|intro _|refine exP ?_ ?_);all_goals try omega
   rw [hbad hb]
 ·obtain rfl:i=s.size:=by omega
  refine a0d _ _ _ ?_;simp only [go_sem,hG,hOw]
  refine d8l (str:=s) (k:=10) (pos:=s.size) rfl (by simp [go_sem]) (by simp [go_sem]) rfl (by rw [hG];decide) hil ?_
  simp only [go_sem,hG,hOw]
  rw [List.take_of_length_le (by simp)] at hall
  exact (a7u (by simpa using hall)).symm
theorem c3p (s:ByteArray) (hs:s.size≤140737488355328):a0l Tryz.prog 158 [str s,.fn (.func 159) []] (fun _=>bl (s.data.toList.any fun b=>!a1p b)):=by
 have hI:a0l Tryz.prog 205 [str s,.fn (.func 159) []] (fun _=>i64 (a8u (fun b=>!a1p b) s.data.toList)):=by
  refine a0b (ow:=fun _=>false) Tryz.func205 Tryz.ntmps205 rfl rfl fun G hG hOw hNm hB=>?_;simp only [go_sem,hG,hOw]
  refine a0a (e0u s hs) ?_
  simp only [go_sem,hG,hOw]
 refine a0b (ow:=fun _=>false) Tryz.func158 Tryz.ntmps158 rfl rfl fun G hG hOw hNm hB=>?_;simp only [go_sem,hG,hOw]
 refine a0a hI ?_
 simp only [go_sem,hG,hOw]
 rw [a7k]
theorem a5m (s:ByteArray) (least:Int) (hs:s.size≤140737488355328):a0l Tryz.prog 102 [str s,i64 least] (fun _=>bl (a6a s least)):=by
 refine a0b (ow:=fun _=>false) Tryz.func102 Tryz.ntmps102 rfl rfl fun G hG hOw hNm hB=>?_;simp only [go_sem,hG,hOw]
 refine a0a (a4n least 12 s.size) ?_
 unfold a6a
 cases h:inB s.size least 12 with
 |true =>
  simp only [go_sem,hG,hOw]
  (repeat' with_reducible first|refine And.intro ?_ ?_|intro _|refine exP ?_ ?_);all_goals try omega
  refine a0a (c3p s hs) ?_
  simp only [go_sem,hG,hOw]
  rw [List.not_any_eq_all_not];simp
 |false =>
  simp only [go_sem,hG,hOw]
  try (repeat' with_reducible first|refine And.intro ?_ ?_|intro _|refine exP ?_ ?_);all_goals try omega
def b0h (stem:ByteArray) (mark:UInt8):Bool:=a1b stem && decide ((mark.toNat:Int)≤3)
theorem b0c (stem:ByteArray) (mark:UInt8) (hs:stem.size≤140737488355328):a0l Tryz.prog 164 [.agg [str stem,u8 mark]] (fun _=>bl (b0h stem mark)):=by
 refine a0b (ow:=fun _=>false) Tryz.func164 Tryz.ntmps164 rfl rfl fun G hG hOw hNm hB=>?_;simp only [go_sem,hG,hOw]
 have h:=a5m stem 1 hs
 rw [a5u] at h
 refine a0a h ?_
 simp only [go_sem,hG,hOw]
 unfold b0h
 cases a1b stem<;>simp only [go_sem,hG,hOw]
def b6w (r:Rl):Bool:=a6a r.cut 1 && a6a r.put 0 && !decide (r.cut=r.put) && inB r.least 1 12
def bdR (r:Rl):Prop:=r.cut.size≤1000∧r.put.size≤1000
theorem c6j (r:Rl) (h:bdR r):a0l Tryz.prog 101 [.agg (rlC r)] (fun _=>bl (b6w r)):=by
 obtain ⟨h1,h2⟩:=h
 refine a0b (ow:=fun _=>false) Tryz.func101 Tryz.ntmps101 rfl rfl fun G hG hOw hNm hB=>?_;simp only [go_sem,hG,hOw]
 have c1:=a5m r.cut 1 (by omega)
 have c2:=a5m r.put 0 (by omega)
 have c3:=a4n 1 12 r.least
 unfold b6w
 refine a0a c1 ?_
 cases a6a r.cut 1 with
 |false =>
  simp only [go_sem,hG,hOw]
  try (repeat' with_reducible first|refine And.intro ?_ ?_|intro _|refine exP ?_ ?_);all_goals try omega
 |true =>
  simp only [go_sem,hG,hOw]
  (repeat' with_reducible first|refine And.intro ?_ ?_|intro _|refine exP ?_ ?_);all_goals try omega
  refine a0a c2 ?_
  cases a6a r.put 0 with
  |false =>
   simp only [go_sem,hG,hOw]
   try (repeat' with_reducible first|refine And.intro ?_ ?_|intro _|refine exP ?_ ?_);all_goals try omega
  |true =>
   by_cases he:r.cut=r.put
   ·rw [decide_eq_true he]
    simp (maxSteps:=2000000) only [go_sem,hG,hOw,decide_eq_true he]
    try (repeat' with_reducible first|refine And.intro ?_ ?_|intro _|refine exP ?_ ?_);all_goals try omega
   ·rw [decide_eq_false he]
    simp (maxSteps:=2000000) only [go_sem,hG,hOw,decide_eq_false he]
    (repeat' with_reducible first|refine And.intro ?_ ?_|intro _|refine exP ?_ ?_);all_goals try omega
    refine a0a c3 ?_
    simp only [go_sem,hG,hOw]
    try (repeat' with_reducible first|refine And.intro ?_ ?_|intro _|refine exP ?_ ?_);all_goals try omega
open Go Pm
set_option maxHeartbeats 4000000
set_option maxRecDepth 100000
theorem e9e (r:Rl) (h:bdR r):a0l Tryz.prog 157 [.agg (rlC r),.fp [.fn (.func 101) []]] (fun _=>bl (!b6w r)):=by
 refine a0b (ow:=fun _=>false) Tryz.func157 Tryz.ntmps157 rfl rfl fun G hG hOw hNm hB=>?_;simp only [go_sem,hG,hOw]
 refine a0a (c6j r h) ?_
 simp only [go_sem,hG,hOw]
theorem d5r (l:List Rl) (hb:∀ r ∈ l,bdR r):a0l Tryz.prog 204 [rls 0 l,.fn (.func 157) [.fp [.fn (.func 101) []]]] (fun _=>i64 (a8u (fun r=>!b6w r) l)):=by
 refine a0b (ow:=fun _=>false) Tryz.func204 Tryz.ntmps204 rfl rfl fun G hG hOw hNm hB=>?_;simp only [go_sem,hG,hOw]
 have hl:=b8n hB (List.mem_cons_self ..)
 simp only [List.length_map] at hl
 refine a0i (fun i:Nat=>St.of [(0,rls 0 l),(1,.fn (.func 157) [.fp [.fn (.func 101) []]]),(7,i64 l.length),(8,i64 i)] []) (fun i=>i≤l.length∧(l.take i).all (fun x=>!(fun r=>!b6w r) x)=true) (fun i=>l.length - i) 0 (by simp) (a1e (by (simp only [go_sem])<;>simp) hNm) ?_
 rintro i ⟨hi,hall⟩
 refine a0d _ _ _ ?_;simp only [go_sem,hG,hOw]
 (repeat' with_reducible first|refine And.intro ?_ ?_|intro _|refine exP ?_ ?_);all_goals try omega
 ·rename_i hlt
  have hil:i < l.length:=by omega
  refine a0a (e9e l[i] (hb _ (List.getElem_mem hil))) ?_
  simp only [go_sem,hG,hOw]
  (repeat' with_reducible first|refine And.intro ?_ ?_|intro _|refine exP ?_ ?_);all_goals try omega
  ·rename_i hp
   exact (b0e hil hall (by simpa using hp)).symm
  ·rename_i hp
   exact ⟨i+1,⟨by omega,a0v hil hall (by simpa using hp)⟩,by omega,a1e (by (simp only [go_sem])<;>simp) hNm⟩
 ·rename_i hge
  rw [a1t hi hge] at hall
  exact (a7u hall).symm
theorem f6m (l:List Rl) (hb:∀ r ∈ l,bdR r):a0l Tryz.prog 100 [rls 0 l,.fn (.func 101) []] (fun _=>bl (l.all b6w)):=by
 have hC:a0l Tryz.prog 156 [rls 0 l,.fn (.func 157) [.fp [.fn (.func 101) []]]] (fun _=>bl (l.any fun r=>!b6w r)):=by
  refine a0b (ow:=fun _=>false) Tryz.func156 Tryz.ntmps156 rfl rfl fun G hG hOw hNm hB=>?_;simp only [go_sem,hG,hOw]
  refine a0a (d5r l hb) ?_
  simp only [go_sem,hG,hOw]
  rw [a7k]
 refine a0b (ow:=fun _=>false) Tryz.func100 Tryz.ntmps100 rfl rfl fun G hG hOw hNm hB=>?_;simp only [go_sem,hG,hOw]
 refine a6x (fun i=>i == 3) ?_
 simp only [go_sem,hG,hOw]
 refine a0a hC ?_
 simp only [go_sem,hG,hOw]
 rw [List.not_any_eq_all_not];simp
open Go Pm
set_option maxHeartbeats 4000000
set_option maxRecDepth 100000
def a4j (t:List Ch) (a b w:Int):Bool:=match a6q t a b with
 |some l=>inB w 0 ((l.length:Int) - 1)
 |none=>false
def plV (a b w:Int):V:=.agg [i64 a,i64 b,i64 w]
attribute [go_sem] plV
def d5z (t:List Ch) (a b w:Int):ByteArray:=match a6q t a b with
 |some l=>l.getD w.toNat ⟨#[]⟩
 |none=>⟨#[]⟩
theorem c4o {t:List Ch} (ht:e5h t) {a b:Int} {l:List ByteArray} (h:a6q t a b=some l):l.length≤1000:=by
 unfold a6q at h
 split at h
 ·simp only [Option.bind_eq_some_iff] at h
  obtain ⟨c,h1,h2⟩:=h
  exact ((ht.2 c (List.mem_of_getElem? h1)).2 l (List.mem_of_getElem? h2)).1
 ·cases h
theorem f1k (t:List Ch) (ht:e5h t) (a b w:Int):a0l Tryz.prog 250 [.fp [chs 0 t],plV a b w] (fun _=>bl (a4j t a b w)):=by
 unfold a4j
 cases h:a6q t a b with
 |some l =>
  have hl:=c4o ht h
  refine a0b (ow:=fun _=>false) Tryz.func250 Tryz.ntmps250 rfl rfl fun G hG hOw hNm hB=>?_;simp only [go_sem,hG,hOw]
  refine a0r mixed (by kernel_rfl) ?_
  simp only [go_sem,hG,hOw]
  refine ⟨_,a0e (c1i t ht a b w l h),?_⟩
  simp only [go_sem,hG,hOw]
  refine ⟨by omega,?_⟩
  refine ⟨_,a0e (a3v 0 ((l.length:Int) - 1) w),?_⟩
  simp only [go_sem,hG,hOw]
 |none =>
  have hz:inB w 0 (((0:Nat):Int) - 1)=false:=by simp [inB];omega
  have hI:=a3v 0 (((0:Nat):Int) - 1) w
  rw [hz] at hI
  refine a0b (ow:=fun _=>false) Tryz.func250 Tryz.ntmps250 rfl rfl fun G hG hOw hNm hB=>?_;simp only [go_sem,hG,hOw]
  refine a0r mixed (by kernel_rfl) ?_
  simp only [go_sem,hG,hOw]
  refine ⟨_,a0e (d8y t ht a b w h),?_⟩
  simp only [go_sem,hG,hOw]
  try refine ⟨by omega,?_⟩
  refine ⟨_,a0e hI,?_⟩
  simp only [go_sem,hG,hOw]
theorem d4x (t:List Ch) (ht:a1r t=true) (a b w:Int) (h:a4j t a b w=true):a0l Tryz.prog 207 [txE 0 t,plV a b w] (fun _=>.tup [.fp [chs 0 t],i64 0]):=by
 have hH:=f1k t (c2r ht) a b w
 rw [h] at hH
 refine a0b (ow:=fun _=>false) Tryz.func207 Tryz.ntmps207 rfl rfl fun G hG hOw hNm hB=>?_;simp only [go_sem,hG,hOw]
 refine a0a (a9z t ht) ?_
 simp only [go_sem,hG,hOw]
 (repeat' with_reducible first|refine And.intro ?_ ?_|intro _|refine exP ?_ ?_);all_goals try omega
 refine a0a hH ?_
 simp only [go_sem,hG,hOw]
 try (repeat' with_reducible first|refine And.intro ?_ ?_|intro _|refine exP ?_ ?_);all_goals try omega
theorem d9g (t:List Ch) (ht:a1r t=true) (a b w:Int) (h:a4j t a b w=false):a0l Tryz.prog 207 [txE 0 t,plV a b w] (fun _=>.tup [.v (.pointer none),i64 12]):=by
 have hH:=f1k t (c2r ht) a b w
 rw [h] at hH
 refine a0b (ow:=fun _=>false) Tryz.func207 Tryz.ntmps207 rfl rfl fun G hG hOw hNm hB=>?_;simp only [go_sem,hG,hOw]
 refine a0a (a9z t ht) ?_
 simp only [go_sem,hG,hOw]
 (repeat' with_reducible first|refine And.intro ?_ ?_|intro _|refine exP ?_ ?_);all_goals try omega
 refine a0a hH ?_
 simp only [go_sem,hG,hOw]
 try (repeat' with_reducible first|refine And.intro ?_ ?_|intro _|refine exP ?_ ?_);all_goals try omega
theorem d0p (t:List Ch) (ht:a1r t=true) (a b w:Int):a0l Tryz.prog 163 [txE 0 t,plV a b w] (fun _=>.tup [str (if a4j t a b w then d5z t a b w else ⟨#[]⟩),i64 (if a4j t a b w then 0 else 12)]):=by
 cases h:a4j t a b w with
 |false =>
  refine a0b (ow:=fun _=>false) Tryz.func163 Tryz.ntmps163 rfl rfl fun G hG hOw hNm hB=>?_;simp only [go_sem,hG,hOw]
  refine a0a (d9g t ht a b w h) ?_
  simp only [go_sem,hG,hOw]
  try (repeat' with_reducible first|refine And.intro ?_ ?_|intro _|refine exP ?_ ?_);all_goals try omega
 |true =>
  obtain ⟨l,hl⟩:∃ l,a6q t a b=some l:=by
   unfold a4j at h
   cases hl:a6q t a b with
   |none=>rw [hl] at h;cases h
   |some l=>exact ⟨l,rfl⟩
  have hw:0≤w∧w≤(l.length:Int) - 1:=by
   unfold a4j at h
   rw [hl] at h
   simpa [inB] using h
  have hW:d5z t a b w=l.getD w.toNat ⟨#[]⟩:=by unfold d5z;rw [hl]
  rw [hW]
  have hwl:w.toNat < l.length:=by omega
  have hg:l.getD w.toNat ⟨#[]⟩=l[w.toNat]:=by simp [List.getD_eq_getElem?_getD,hwl]
  rw [hg]
  refine a0b (ow:=fun _=>false) Tryz.func163 Tryz.ntmps163 rfl rfl fun G hG hOw hNm hB=>?_;simp only [go_sem,hG,hOw]
  refine a0a (d4x t ht a b w h) ?_
  simp only [go_sem,hG,hOw]
  (repeat' with_reducible first|refine And.intro ?_ ?_|intro _|refine exP ?_ ?_);all_goals try omega
  refine a0r mixed (by kernel_rfl) ?_
  simp only [go_sem,hG,hOw]
  refine ⟨_,a0e (c1i t (c2r ht) a b w l hl),?_⟩
  simp only [go_sem,hG,hOw]
  (repeat' with_reducible first|refine And.intro ?_ ?_|intro _|refine exP ?_ ?_);all_goals try omega
open Go Pm
set_option maxHeartbeats 4000000
set_option maxRecDepth 100000
def e4z (a b c:Int):Bool:=decide (a=0) && (decide (b=0) && decide (c=0))
def g1j (stem:ByteArray) (mark:UInt8):Bool:=decide (stem=⟨#[]⟩) && decide (mark=0)
def c5v (t:List Ch) (k:Int) (num:Int) (form:ByteArray) (ch ln wd:Int) (stem:ByteArray) (mark:UInt8) (of:Int):Bool :=
 if k=1 then a1b form && (e4z ch ln wd && (b0h stem mark && decide (of=0)))
 else if k=2 then a1b form && (a4j t ch ln wd && (b0h stem mark && decide (of=0)))
 else if k=3 then decide (form=⟨#[]⟩) && (a4j t ch ln wd && (b0h stem mark && decide (of=0)))
 else if k=4 then decide (form=⟨#[]⟩) && (e4z ch ln wd && (g1j stem mark && inB of 1 (num - 1)))
 else false
def d3t (t:List Ch) (d:Dc):Bool:=inB d.num 1 999 && c5v t d.kind.toNat d.num d.form d.ch d.ln d.wd d.stem d.mark d.of
def bdD (d:Dc):Prop:=d.form.size≤100000∧d.stem.size≤100000
theorem g2q (mark:UInt8):(mark.toNat:Int)=0↔mark=0:=by
 constructor
 ·intro h
  exact UInt8.toNat_inj.1 (by show _=0;omega)
 ·rintro rfl;rfl
theorem a5i (b:Bool):decide ((if b=true then (0:Int) else 12)=0)=b:=by cases b<;>rfl
theorem f7j (t:List Ch) (num:Int) (form:ByteArray) (ch ln wd:Int) (stem:ByteArray) (mark:UInt8) (of:Int):c5v t 1 num form ch ln wd stem mark of=((decide (ch=0) && (decide (ln=0) && (decide (wd=0) && decide (of=0)))) && (a1b form && b0h stem mark)):=by
 have h1:c5v t 1 num form ch ln wd stem mark of=(a1b form && (e4z ch ln wd && (b0h stem mark && decide (of=0)))):=rfl
 rw [h1]
 unfold e4z
 generalize a1b form=a
 generalize b0h stem mark=b
 generalize decide (ch=0)=c
 generalize decide (ln=0)=d
 generalize decide (wd=0)=e
 generalize decide (of=0)=f
 revert a b c d e f
 decide
theorem f9j (t:List Ch) (num:Int) (form:ByteArray) (ch ln wd:Int) (stem:ByteArray) (mark:UInt8) (of:Int):c5v t 2 num form ch ln wd stem mark of=(decide (of=0) && (a1b form && (a4j t ch ln wd && b0h stem mark))):=by
 have h2:c5v t 2 num form ch ln wd stem mark of=(a1b form && (a4j t ch ln wd && (b0h stem mark && decide (of=0)))):=rfl
 rw [h2]
 generalize a1b form=a
 generalize b0h stem mark=b
 generalize a4j t ch ln wd=c
 generalize decide (of=0)=f
 revert a b c f
 decide
theorem f8a (t:List Ch) (num:Int) (form:ByteArray) (ch ln wd:Int) (stem:ByteArray) (mark:UInt8) (of:Int):c5v t 3 num form ch ln wd stem mark of=((decide (form=⟨#[]⟩) && decide (of=0)) && (a4j t ch ln wd && b0h stem mark)):=by
 have h3:c5v t 3 num form ch ln wd stem mark of=(decide (form=⟨#[]⟩) && (a4j t ch ln wd && (b0h stem mark && decide (of=0)))):=rfl
 rw [h3]
 generalize decide (form=⟨#[]⟩)=a
 generalize b0h stem mark=b
 generalize a4j t ch ln wd=c
 generalize decide (of=0)=f
 revert a b c f
 decide
theorem f9n (t:List Ch) (num:Int) (form:ByteArray) (ch ln wd:Int) (stem:ByteArray) (mark:UInt8) (of:Int):c5v t 4 num form ch ln wd stem mark of=((decide (form=⟨#[]⟩) && (decide (ch=0) && (decide (ln=0) && (decide (wd=0) && (decide (stem=⟨#[]⟩) && decide ((mark.toNat:Int)=0)))))) && inB of 1 (num - 1)):=by
 have h4:c5v t 4 num form ch ln wd stem mark of=(decide (form=⟨#[]⟩) && (e4z ch ln wd && (g1j stem mark && inB of 1 (num - 1)))):=rfl
 rw [h4]
 unfold e4z g1j
 have hm:decide (mark=0)=decide ((mark.toNat:Int)=0):=decide_eq_decide.2 (g2q mark).symm
 rw [hm]
 simp only [Bool.and_assoc]
open Go Pm
set_option maxHeartbeats 4000000
set_option maxRecDepth 100000
theorem g4q (t:List Ch) (ht:a1r t=true) (num:Int) (form:ByteArray) (ch ln wd:Int) (stem:ByteArray) (mark:UInt8) (of:Int) (hf:form.size≤100000) (hst:stem.size≤100000) :
  a0l Tryz.prog 106 [txE 0 t,.agg [i64 num,.v (.int .u8 1),str form,i64 ch,i64 ln,i64 wd,str stem,u8 mark,i64 of]] (fun _=>bl (inB num 1 999 && c5v t 1 num form ch ln wd stem mark of)):=by
 have hk1:inB 1 1 4=true:=by decide
 have i1:Int.toNat 1=1:=rfl
 have hK:=a4n 1 4 1
 rw [hk1] at hK
 have hbe:ByteArray.empty=⟨#[]⟩:=rfl
 have hN:=a4n 1 999 num
 have hA:=d0p t ht ch ln wd
 have hL:=a5m form 1 (by omega)
 rw [a5u] at hL
 have hR:=b0c stem mark (by omega)
 rw [f7j]
 cases hn:inB num 1 999 with
 |false =>
  rw [hn] at hN
  refine a0b (ow:=fun _=>false) Tryz.func106 Tryz.ntmps106 rfl rfl fun G hG hOw hNm hB=>?_;simp only [go_sem,hG,hOw]
  try (repeat' with_reducible first|refine And.intro ?_ ?_|intro _|refine exP ?_ ?_);all_goals try omega
  refine a0a hK ?_
  simp only [go_sem,hG,hOw]
  (repeat' with_reducible first|refine And.intro ?_ ?_|intro _|refine exP ?_ ?_);all_goals try omega
  refine a0a hN ?_
  simp only [go_sem,hG,hOw]
  try (repeat' with_reducible first|refine And.intro ?_ ?_|intro _|refine exP ?_ ?_);all_goals try omega
 |true =>
  rw [hn] at hN
  rw [Bool.true_and]
  refine a0b (ow:=fun _=>false) Tryz.func106 Tryz.ntmps106 rfl rfl fun G hG hOw hNm hB=>?_;simp only [go_sem,hG,hOw]
  try (repeat' with_reducible first|refine And.intro ?_ ?_|intro _|refine exP ?_ ?_);all_goals try omega
  refine a0a hK ?_
  simp only [go_sem,hG,hOw]
  (repeat' with_reducible first|refine And.intro ?_ ?_|intro _|refine exP ?_ ?_);all_goals try omega
  refine a0a hN ?_
  simp (maxSteps:=2000000) only [go_sem,hG,hOw,i1,Nat.reduceMul,List.drop_succ_cons,List.drop_zero,List.take_succ_cons,List.take_zero]
  (repeat' with_reducible first|refine And.intro ?_ ?_|intro _|refine exP ?_ ?_);all_goals try omega
  refine a0a hA ?_
  cases hE:(decide (ch=0) && (decide (ln=0) && (decide (wd=0) && decide (of=0)))) with
  |false =>
   simp (maxSteps:=2000000) only [go_sem,hG,hOw,hbe,hE,a5i]
   try (repeat' with_reducible first|refine And.intro ?_ ?_|intro _|refine exP ?_ ?_);all_goals try omega
  |true =>
   simp (maxSteps:=2000000) only [go_sem,hG,hOw,hbe,hE,a5i]
   (repeat' with_reducible first|refine And.intro ?_ ?_|intro _|refine exP ?_ ?_);all_goals try omega
   refine a0a hL ?_
   cases a1b form with
   |false =>
    simp (maxSteps:=2000000) only [go_sem,hG,hOw,hbe,hE,a5i]
    try (repeat' with_reducible first|refine And.intro ?_ ?_|intro _|refine exP ?_ ?_);all_goals try omega
   |true =>
    simp (maxSteps:=2000000) only [go_sem,hG,hOw,hbe,hE,a5i]
    (repeat' with_reducible first|refine And.intro ?_ ?_|intro _|refine exP ?_ ?_);all_goals try omega
    refine a0a hR ?_
    simp (maxSteps:=2000000) only [go_sem,hG,hOw,hbe,hE,a5i]
    try (repeat' with_reducible first|refine And.intro ?_ ?_|intro _|refine exP ?_ ?_);all_goals try omega
    all_goals (rename_i h;rw [h];try rfl)
end Go.Proofs.YtmjhfccbbfpppaaGreatDoor
