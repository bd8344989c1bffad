import Derived.Test.YtmjhfccbbfpppaaGreatDoorQA08
import Derived.Test.YtmjhfccbbfpppaaGreatDoorQA11
import Derived.Test.YtmjhfccbbfpppaaGreatDoorQA15
import Derived.Test.YtmjhfccbbfpppaaGreatDoorQA17
import Derived.Test.YtmjhfccbbfpppaaGreatDoorQA18
namespace Go.Proofs.YtmjhfccbbfpppaaGreatDoor
open Go Pm
set_option linter.unusedSimpArgs false
set_option linter.unusedVariables false
set_option maxHeartbeats 4000000
set_option maxRecDepth 100000
theorem f2d (n lo hi:Int):a0l Tryz.prog 227 [i64 n,.fp [i64 lo],.fp [i64 hi]] (fun _=>bl (decide (n < lo) || decide (hi < n))):=by
 refine a0b (ow:=fun _=>false) Tryz.func227 Tryz.ntmps227 rfl rfl fun G hG hOw hNm hB=>?_;simp only [go_sem,hG,hOw]
 (repeat' with_reducible first|refine And.intro ?_ ?_|intro _|refine exP ?_ ?_);all_goals try omega
 ·rename_i h;rw [decide_eq_false h];rfl
 ·rename_i h;rw [decide_eq_true h];rfl
theorem g0t (lo hi:Int) (l:List Int):a0l Tryz.prog 178 [i64 lo,i64 hi,.lst 0 1 (l.map c0t)] (fun _=>bl (l.all fun n=>inB n lo hi)):=by
 refine a0b (ow:=fun _=>false) Tryz.func178 Tryz.ntmps178 rfl rfl fun G hG hOw hNm hB=>?_;simp only [go_sem,hG,hOw]
 refine a6x (fun i=>[3,4].contains i) ?_
 simp only [go_sem,hG,hOw]
 refine a0a (a3i _ [.fp [i64 lo],.fp [i64 hi]] (fun n=>decide (n < lo) || decide (hi < n)) l rfl (fun x _=>f2d x lo hi)) ?_
 simp only [go_sem,hG,hOw]
 rw [List.not_any_eq_all_not]
 congr 1
 funext n
 rw [Bool.eq_iff_iff];simp [inB]
theorem c7s (lo hi n:Int):a0l Tryz.prog 178 [i64 lo,i64 hi,.lst 0 1 [[i64 n]]] (fun _=>bl (inB n lo hi)):=by
 have:=g0t lo hi [n]
 simpa [c0t] using this
structure Cu where
 w:Int
 s:Int
def cuC (c:Cu):List V:=[i64 c.w,.v (.int .u8 c.s)]
attribute [go_sem] cuC
def b7z (c:Cu):Bool:=inB c.w 12 80 && inB c.s 1 3
theorem d5s (c:Cu) (hs:0≤c.s∧c.s≤255):a0l Tryz.prog 177 [.agg (cuC c)] (fun _=>i64 (if b7z c then 0 else 30)):=by
 refine a0b (ow:=fun _=>false) Tryz.func177 Tryz.ntmps177 rfl rfl fun G hG hOw hNm hB=>?_;simp only [go_sem,hG,hOw]
 refine a0a (c7s 12 80 c.w) ?_
 simp only [go_sem,hG,hOw]
 (repeat' with_reducible first|refine And.intro ?_ ?_|intro _|refine exP ?_ ?_);all_goals try omega
 ·rename_i h
  refine a0a (c7s 1 3 c.s) ?_
  simp only [go_sem,hG,hOw]
  (repeat' with_reducible first|refine And.intro ?_ ?_|intro _|refine exP ?_ ?_);all_goals try omega
  ·rename_i h2;simp [b7z,h,h2]
  ·rename_i h2;simp [b7z,h,h2]
 ·rename_i h;simp [b7z,h]
def d2l (t:List Ch) (c:Cu):Int:=if a1r t then if b7z c then 0 else 30 else 10
theorem d0c (t:List Ch) (c:Cu) (hs:0≤c.s∧c.s≤255):a0l Tryz.prog 124 [txE 0 t,.agg (cuC c)] (fun _=>i64 (d2l t c)):=by
 refine a0b (ow:=fun _=>false) Tryz.func124 Tryz.ntmps124 rfl rfl fun G hG hOw hNm hB=>?_;simp only [go_sem,hG,hOw]
 refine a0a (a7o t) ?_
 unfold d2l
 cases ht:a1r t with
 |false =>
  simp only [Bool.false_eq_true,if_false]
  simp only [go_sem,hG,hOw]
  (repeat' with_reducible first|refine And.intro ?_ ?_|intro _|refine exP ?_ ?_);all_goals try omega
 |true =>
  simp only [if_true]
  simp only [go_sem,hG,hOw]
  refine a0a (d5s c hs) ?_
  simp only [go_sem,hG,hOw]
def pl3 (p:Nat×Nat×Nat):List V:=[i64 p.1,i64 p.2.1,i64 p.2.2]
attribute [go_sem] pl3
theorem c6u (l:List (Nat×Nat×Nat)):a2p (l.map pl3)=true:=a2b (fun _=>rfl) l
attribute [go_sem] c6u
def atF (k:Nat):Nat→List (List ByteArray)→List (Nat×Nat×Nat)
 |_,[]=>[]
 |n,l::r=>(List.range l.length).map (fun w=>(k,n,w))++atF k (n+1) r
theorem f4j (k:Nat):∀ (l m:List (List ByteArray)) (n:Nat),atF k n (l++m)=atF k n l++atF k (n+l.length) m:=by
 intro l
 induction l with
 |nil=>intro m n;simp [atF]
 |cons x r ih =>
  intro m n
  simp only [List.cons_append,atF,ih,List.append_assoc,List.length_cons]
  rw [show n+1+r.length=n+(r.length+1) by omega]
theorem c7o (k:Nat):∀ (l:List (List ByteArray)) (n:Nat),(atF k n l).length=l.flatten.length:=by
 intro l
 induction l with
 |nil=>intro n;rfl
 |cons x r ih=>intro n;simp only [atF,List.length_append,List.length_map,List.length_range,ih,List.flatten_cons]
def c2e (ls:List (List ByteArray)) (n j:Nat):List ByteArray:=(ls.take n).flatten++((ls[n]?).getD []).take j
def atN (k:Nat) (ls:List (List ByteArray)) (n j:Nat):List (Nat×Nat×Nat):=atF k 0 (ls.take n)++(List.range j).map (fun w=>(k,n,w))
theorem c2y (ls:List (List ByteArray)):c2e ls 0 0=[]:=by simp [c2e]
theorem d0x (k:Nat) (ls:List (List ByteArray)):atN k ls 0 0=[]:=by simp [atN,atF]
theorem d9x (ls:List (List ByteArray)) (n j:Nat) (hn:n < ls.length) (hj:j < ls[n].length):c2e ls n (j+1)=c2e ls n j++[ls[n][j]]:=by
 unfold c2e
 rw [List.getElem?_eq_getElem hn,Option.getD_some,List.take_add_one,List.getElem?_eq_getElem hj,List.append_assoc];rfl
theorem e6d (k:Nat) (ls:List (List ByteArray)) (n j:Nat):atN k ls n (j+1)=atN k ls n j++[(k,n,j)]:=by
 unfold atN
 rw [List.range_succ,List.map_append,List.append_assoc];rfl
theorem e3g (ls:List (List ByteArray)) (n:Nat) (hn:n < ls.length):c2e ls n ls[n].length=c2e ls (n+1) 0:=by
 unfold c2e
 rw [List.getElem?_eq_getElem hn,Option.getD_some,List.take_length,List.take_zero,List.append_nil,List.take_add_one,List.getElem?_eq_getElem hn,List.flatten_append]
 simp
theorem e8f (k:Nat) (ls:List (List ByteArray)) (n:Nat) (hn:n < ls.length):atN k ls n ls[n].length=atN k ls (n+1) 0:=by
 unfold atN
 rw [List.range_zero,List.map_nil,List.append_nil,List.take_add_one,List.getElem?_eq_getElem hn,Option.toList_some,f4j,List.length_take,Nat.zero_add,Nat.min_eq_left (by omega)]
 simp [atF]
theorem e4c (ls:List (List ByteArray)):c2e ls ls.length 0=ls.flatten:=by simp [c2e]
theorem e8v (k:Nat) (ls:List (List ByteArray)):atN k ls ls.length 0=atF k 0 ls:=by simp [atN]
theorem a6h (ls:List (List ByteArray)) (hl:ls.length≤40) (hr:∀ r ∈ ls,r.length≤15):ls.flatten.length≤600:=by
 have:∀ ls:List (List ByteArray),(∀ r ∈ ls,r.length≤15)→ls.flatten.length≤15 * ls.length:=by
  intro ls
  induction ls with
  |nil=>simp
  |cons x r ih =>
   intro h
   have h1:=h x (by simp)
   have h2:=ih fun y hy=>h y (by simp [hy])
   simp only [List.flatten_cons,List.length_append,List.length_cons]
   omega
 have:=this ls hr
 omega
def e5a (lo:Nat) (c:Cu) (k:Nat) (ls:List (List ByteArray)):List V:=[i64 c.w,.v (.int .u8 c.s),a0o lo ls.flatten,.lst lo 3 ((atF k 0 ls).map pl3)]
attribute [go_sem] e5a
theorem e4j (t:List Ch) (c:Cu) (k:Nat) (hk:k < t.length) (hl:t[k].lines.length≤40) (hr:∀ r ∈ t[k].lines,r.length≤15) :
  a0l Tryz.prog 179 [txE 0 t,.agg (cuC c),i64 k] (fun n=>.agg (e5a n c k t[k].lines)):=by
 obtain ⟨ls,hls⟩:∃ ls,ls=t[k].lines:=⟨_,rfl⟩
 have htl:=fun (h:t.length≤140737488355328)=>h
 refine a0b (ow:=fun _=>false) Tryz.func179 Tryz.ntmps179 rfl rfl fun G hG hOw hNm hB=>?_;simp only [go_sem,hG,hOw]
 obtain ⟨hb1,hb2⟩:=e3h (e2m (hB (txE 0 t) (by simp)) (chs 0 t) (by simp))
 rw [← hls] at hl hr ⊢
 have hfl:=a6h ls hl hr
 have wl:∀ n j,n < ls.length→j≤15→(c2e ls n j).length≤700:=fun n j hn hj=>by
  unfold c2e
  have h1:=a6h (ls.take n) (by rw [List.length_take];omega) (fun r hr'=>hr r (List.mem_of_mem_take hr'))
  rw [List.length_append,List.length_take]
  omega
 have al:∀ n j,n < ls.length→j≤15→(atN k ls n j).length≤700:=fun n j hn hj=>by
  unfold atN
  have h1:=a6h (ls.take n) (by rw [List.length_take];omega) (fun r hr'=>hr r (List.mem_of_mem_take hr'))
  rw [List.length_append,c7o,List.length_map,List.length_range]
  omega
 (repeat' with_reducible first|refine And.intro ?_ ?_|intro _|refine exP ?_ ?_);all_goals try omega
 refine a0i (fun n:Nat=>St.of [(2,i64 k),(6,.ptr 6 0),(7,.ptr 7 0),(18,lns 0 ls),(19,i64 ls.length),(20,i64 n)] [(6,.box [i64 0,.v (.int .u8 0),.v (.slice none 0 0),.v (.slice none 0 0)]),(7,.box [i64 c.w,.v (.int .u8 c.s),.own 30 0 (c2e ls n 0).length 1,.own 31 0 (atN k ls n 0).length 3]),(30,.arr 9 1 ((c2e ls n 0).map a1z)),(31,.arr 84 3 ((atN k ls n 0).map pl3))]) (fun n=>n≤ls.length) (fun n=>ls.length - n) 0 (by simp) (a1m [(6,some 6),(7,some 7),(30,none),(31,none)] (by (simp only [go_sem])<;>simp [c2y,d0x,hls]) (by (simp only [go_sem,a1k,a0s,a0j,a1q])<;>simp [c2y,d0x,hls])) ?_
 rintro n hn
 refine a0d _ _ _ ?_;simp only [go_sem,hG,hOw]
 (repeat' with_reducible first|refine And.intro ?_ ?_|intro _|refine exP ?_ ?_);all_goals try omega
 ·rename_i hlt
  have hnl:n < ls.length:=by omega
  have hr15:=hr _ (List.getElem_mem hnl)
  refine a2s (fun _:Unit=>St.of [(2,i64 k),(6,.ptr 6 0),(7,.ptr 7 0),(18,lns 0 ls),(19,i64 ls.length),(20,i64 n)] [(6,.box [i64 0,.v (.int .u8 0),.v (.slice none 0 0),.v (.slice none 0 0)]),(7,.box [i64 c.w,.v (.int .u8 c.s),.own 30 0 (c2e ls (n+1) 0).length 1,.own 31 0 (atN k ls (n+1) 0).length 3]),(30,.arr 9 1 ((c2e ls (n+1) 0).map a1z)),(31,.arr 84 3 ((atN k ls (n+1) 0).map pl3))]) (fun _=>True) ?_ ?_
  ·refine a0i (fun j:Nat=>St.of [(2,i64 k),(6,.ptr 6 0),(7,.ptr 7 0),(8,i64 n),(9,a0o 0 ls[n]),(18,lns 0 ls),(19,i64 ls.length),(20,i64 n),(26,i64 ls[n].length),(27,i64 j)] [(6,.box [i64 0,.v (.int .u8 0),.v (.slice none 0 0),.v (.slice none 0 0)]),(7,.box [i64 c.w,.v (.int .u8 c.s),.own 30 0 (c2e ls n j).length 1,.own 31 0 (atN k ls n j).length 3]),(30,.arr 9 1 ((c2e ls n j).map a1z)),(31,.arr 84 3 ((atN k ls n j).map pl3))]) (fun j=>j≤ls[n].length) (fun j=>ls[n].length - j) 0 (by simp) (a1m [(6,some 6),(7,some 7),(30,some 30),(31,some 31)]) ?_
   rintro j hj
   have h1:=wl n j hnl (by omega)
   have h2:=al n j hnl (by omega)
   refine a0d _ _ _ ?_;simp only [go_sem,hG,hOw]
   (repeat' with_reducible first|refine And.intro ?_ ?_|intro _|refine exP ?_ ?_);all_goals try omega
   ·rename_i hjl
    have hjl':j < ls[n].length:=by omega
    have e1:=d9x ls n j hnl hjl'
    have e2:=e6d k ls n j
    refine a0r mixed (by kernel_rfl) ?_
    simp only [go_sem,hG,hOw]
    (repeat' with_reducible first|refine And.intro ?_ ?_|intro _|refine exP ?_ ?_);all_goals try omega
    refine ⟨j+1,by omega,by omega,?_⟩
    rw [e1,e2]
    exact a1m [(6,some 6),(7,some 7),(30,some 37),(31,some 46)] (by (simp only [go_sem])<;>simp [a1z,pl3,i64]) (by (simp only [go_sem,a1k,a0s,a0j,a1q])<;>simp [a1z,pl3,i64])
   ·rename_i hge
    obtain rfl:j=ls[n].length:=by omega
    have e1:=e3g ls n hnl
    have e2:=e8f k ls n hnl
    rw [e1,e2]
    exact ⟨(),a1m [(6,some 6),(7,some 7),(30,some 30),(31,some 31)]⟩
  rintro ⟨⟩ -
  simp only [go_sem,hG,hOw]
  (repeat' with_reducible first|refine And.intro ?_ ?_|intro _|refine exP ?_ ?_);all_goals try omega
  exact ⟨n+1,by omega,by omega,a1m [(6,some 6),(7,some 7),(30,some 30),(31,some 31)]⟩
 ·rename_i hge
  obtain rfl:n=ls.length:=by omega
  rw [e4c,e8v]
  exact .refl _
open Go Pm
set_option maxHeartbeats 4000000
set_option maxRecDepth 100000
def cor (a b:Int):Int:=if a≠0 then a else b
theorem e5n (a b:Int):a0l Tryz.prog 153 [.lst 0 1 [[i64 a],[i64 b]]] (fun _=>i64 (cor a b)):=by
 refine a0b (ow:=fun _=>false) Tryz.func153 Tryz.ntmps153 rfl rfl fun G hG hOw hNm hB=>?_;simp only [go_sem,hG,hOw]
 (repeat' with_reducible first|refine And.intro ?_ ?_|intro _|refine exP ?_ ?_);all_goals try omega
 refine a0i (fun k:Nat=>St.of [(3,i64 0),(6,.lst 0 1 [[i64 a],[i64 b]]),(7,i64 2),(8,i64 k)] []) (fun k=>k≤2∧(0 < k→a=0)∧(1 < k→b=0)) (fun k=>2 - k) 0 (by simp) (a1e (by (simp only [go_sem])<;>simp) hNm) ?_
 rintro k ⟨hk,h1,h2⟩
 have c0:((0:Nat):Int)=0:=rfl
 have c1:((1:Nat):Int)=1:=rfl
 have c2:((2:Nat):Int)=2:=rfl
 have i1:Int.toNat 1=1:=rfl
 have hk3:k=0∨k=1∨k=2:=by omega
 rcases hk3 with rfl|rfl|rfl
 ·refine a0d _ _ _ ?_
  simp (maxSteps:=2000000) only [go_sem,hG,hOw,c0,c1,c2,i1,List.getElem_cons_zero,List.getElem_cons_succ]
  (repeat' with_reducible first|refine And.intro ?_ ?_|intro _|refine exP ?_ ?_);all_goals try omega
  ·rename_i h;simp [cor,h]
  ·rename_i h
   exact ⟨1,⟨by omega,fun _=>h,fun h=>by omega⟩,by omega,a1e (by (simp only [go_sem])<;>simp) hNm⟩
 ·have ha:=h1 (by omega)
  refine a0d _ _ _ ?_
  simp (maxSteps:=2000000) only [go_sem,hG,hOw,c0,c1,c2,i1,List.getElem_cons_zero,List.getElem_cons_succ]
  (repeat' with_reducible first|refine And.intro ?_ ?_|intro _|refine exP ?_ ?_);all_goals try omega
  ·rename_i h;simp [cor,ha]
  ·rename_i h
   exact ⟨2,⟨by omega,fun _=>ha,fun _=>h⟩,by omega,a1e (by (simp only [go_sem])<;>simp) hNm⟩
 ·have ha:=h1 (by omega)
  have hb:=h2 (by omega)
  refine a0d _ _ _ ?_
  simp (maxSteps:=2000000) only [go_sem,hG,hOw,c0,c1,c2,i1,List.getElem_cons_zero,List.getElem_cons_succ]
  (repeat' with_reducible first|refine And.intro ?_ ?_|intro _|refine exP ?_ ?_);all_goals try omega
  all_goals simp [cor,ha,hb]
structure Cx where
 fr:Int
 wd:Int
 to:Int
 ln:Int
def cxC (x:Cx):List V:=[i64 x.fr,i64 x.wd,i64 x.to,i64 x.ln]
attribute [go_sem] cxC
def d7k (x:Cx):Prop:=(-1000≤x.fr∧x.fr≤1000)∧(-1000≤x.wd∧x.wd≤1000)∧(-1000≤x.to∧x.to≤1000)∧(-100000≤x.ln∧x.ln≤100000)
def a9r (x:Cx):Int:=max (x.wd - x.fr - (x.to - x.wd)) (-(x.wd - x.fr - (x.to - x.wd)))
theorem c2i (x:Cx) (hx:d7k x):a0l Tryz.prog 322 [.agg (cxC x)] (fun _=>i64 (a9r x)):=by
 obtain ⟨h1,h2,h3,h4⟩:=hx
 refine a0b (ow:=fun _=>false) Tryz.func322 Tryz.ntmps322 rfl rfl fun G hG hOw hNm hB=>?_;simp only [go_sem,hG,hOw]
 (repeat' with_reducible first|refine And.intro ?_ ?_|intro _|refine exP ?_ ?_);all_goals try omega
 unfold a9r
 split<;>omega
def e2a (s:Int) (a b:Cx):Int:=if s=1 then a.fr - b.fr else if s=2 then b.fr - a.fr else cor (a9r a - a9r b) (b.fr - a.fr)
theorem e6a (a b:Cx) (ha:d7k a) (hb:d7k b):a0l Tryz.prog 347 [.agg (cxC a),.agg (cxC b)] (fun _=>i64 (e2a 1 a b)):=by
 obtain ⟨h1,h2,h3,h4⟩:=ha
 obtain ⟨g1,g2,g3,g4⟩:=hb
 refine a0b (ow:=fun _=>false) Tryz.func347 Tryz.ntmps347 rfl rfl fun G hG hOw hNm hB=>?_;simp only [go_sem,hG,hOw]
 (repeat' with_reducible first|refine And.intro ?_ ?_|intro _|refine exP ?_ ?_);all_goals try omega
 rfl
theorem e7l (a b:Cx) (ha:d7k a) (hb:d7k b):a0l Tryz.prog 348 [.agg (cxC a),.agg (cxC b)] (fun _=>i64 (e2a 2 a b)):=by
 obtain ⟨h1,h2,h3,h4⟩:=ha
 obtain ⟨g1,g2,g3,g4⟩:=hb
 refine a0b (ow:=fun _=>false) Tryz.func348 Tryz.ntmps348 rfl rfl fun G hG hOw hNm hB=>?_;simp only [go_sem,hG,hOw]
 (repeat' with_reducible first|refine And.intro ?_ ?_|intro _|refine exP ?_ ?_);all_goals try omega
 rfl
theorem c3q (x:Cx) (hx:d7k x):0≤a9r x∧a9r x≤4000:=by
 obtain ⟨h1,h2,h3,h4⟩:=hx
 unfold a9r
 omega
theorem e9z (a b:Cx) (ha:d7k a) (hb:d7k b):a0l Tryz.prog 349 [.agg (cxC a),.agg (cxC b)] (fun _=>i64 (e2a 3 a b)):=by
 have u1:=c3q a ha
 have u2:=c3q b hb
 have ua:=c2i a ha
 have ub:=c2i b hb
 have eq:e2a 3 a b=cor (a9r a - a9r b) (b.fr - a.fr):=rfl
 rw [eq]
 obtain ⟨ua',hua⟩:∃ u,u=a9r a:=⟨_,rfl⟩
 obtain ⟨ub',hub⟩:∃ u,u=a9r b:=⟨_,rfl⟩
 rw [← hua] at ua u1 ⊢
 rw [← hub] at ub u2 ⊢
 obtain ⟨h1,h2,h3,h4⟩:=ha
 obtain ⟨g1,g2,g3,g4⟩:=hb
 refine a0b (ow:=fun _=>false) Tryz.func349 Tryz.ntmps349 rfl rfl fun G hG hOw hNm hB=>?_;simp only [go_sem,hG,hOw]
 (repeat' with_reducible first|refine And.intro ?_ ?_|intro _|refine exP ?_ ?_);all_goals try omega
 refine a0r mixed (by kernel_rfl) ?_
 simp only [go_sem,hG,hOw]
 (repeat' with_reducible first|refine And.intro ?_ ?_|intro _|refine exP ?_ ?_);all_goals try omega
 refine ⟨_,a0e ua,?_⟩
 simp only [go_sem,hG,hOw]
 (repeat' with_reducible first|refine And.intro ?_ ?_|intro _|refine exP ?_ ?_);all_goals try omega
 refine ⟨_,a0e ub,?_⟩
 simp only [go_sem,hG,hOw]
 (repeat' with_reducible first|refine And.intro ?_ ?_|intro _|refine exP ?_ ?_);all_goals try omega
 refine ⟨_,a0e (e5n (ua' - ub') (b.fr - a.fr)),?_⟩
 simp only [go_sem,hG,hOw]
def g0l (s:Int) (a b:Cx):Int:=cor (b.ln - a.ln) (e2a s a b)
theorem e6g (c:Cu) (k:Nat) (ls:List (List ByteArray)) (hs:inB c.s 1 3=true) (a b:Cx) (ha:d7k a) (hb:d7k b):a0l Tryz.prog 230 [.agg (cxC a),.agg (cxC b),.fp (e5a 0 c k ls)] (fun _=>i64 (g0l c.s a b)):=by
 have hs3:c.s=1∨c.s=2∨c.s=3:=by simp only [inB,Bool.and_eq_true,decide_eq_true_eq] at hs;omega
 have s1:=e6a a b ha hb
 have s2:=e7l a b ha hb
 have s3:=e9z a b ha hb
 have h1:=ha.2.2.2
 have h2:=hb.2.2.2
 have i1:Int.toNat 1=1:=rfl
 have i2:Int.toNat 2=2:=rfl
 have i3:Int.toNat 3=3:=rfl
 refine a0b (ow:=fun _=>false) Tryz.func230 Tryz.ntmps230 rfl rfl fun G hG hOw hNm hB=>?_;simp only [go_sem,hG,hOw]
 (repeat' with_reducible first|refine And.intro ?_ ?_|intro _|refine exP ?_ ?_);all_goals try omega
 refine a0r mixed (by kernel_rfl) ?_
 rcases hs3 with h|h|h
 ·unfold g0l
  rw [h]
  simp (maxSteps:=2000000) only [go_sem,hG,hOw,h,i1,i2,i3,Nat.reduceMul]
  (repeat' with_reducible first|refine And.intro ?_ ?_|intro _|refine exP ?_ ?_);all_goals try omega
  refine ⟨_,a0e s1,?_⟩
  simp only [go_sem,hG,hOw]
  (repeat' with_reducible first|refine And.intro ?_ ?_|intro _|refine exP ?_ ?_);all_goals try omega
  refine ⟨_,a0e (e5n (b.ln - a.ln) _),?_⟩
  simp only [go_sem,hG,hOw]
 ·unfold g0l
  rw [h]
  simp (maxSteps:=2000000) only [go_sem,hG,hOw,h,i1,i2,i3,Nat.reduceMul]
  (repeat' with_reducible first|refine And.intro ?_ ?_|intro _|refine exP ?_ ?_);all_goals try omega
  refine ⟨_,a0e s2,?_⟩
  simp only [go_sem,hG,hOw]
  (repeat' with_reducible first|refine And.intro ?_ ?_|intro _|refine exP ?_ ?_);all_goals try omega
  refine ⟨_,a0e (e5n (b.ln - a.ln) _),?_⟩
  simp only [go_sem,hG,hOw]
 ·unfold g0l
  rw [h]
  simp (maxSteps:=2000000) only [go_sem,hG,hOw,h,i1,i2,i3,Nat.reduceMul]
  (repeat' with_reducible first|refine And.intro ?_ ?_|intro _|refine exP ?_ ?_);all_goals try omega
  refine ⟨_,a0e s3,?_⟩
  simp only [go_sem,hG,hOw]
  (repeat' with_reducible first|refine And.intro ?_ ?_|intro _|refine exP ?_ ?_);all_goals try omega
  refine ⟨_,a0e (e5n (b.ln - a.ln) _),?_⟩
  simp only [go_sem,hG,hOw]
open Go Pm
set_option maxHeartbeats 4000000
set_option maxRecDepth 100000
def pre (ws:List ByteArray):Nat→Int
 |0=>0
 |n+1=>pre ws n+((((ws[n]?).getD ByteArray.empty).size:Int)+1)
def a3j (ws:List ByteArray) (f n:Nat):Int:=pre ws n - pre ws f - 1
theorem c3t (ws:List ByteArray) (h:∀ s ∈ ws,s.size≤40):∀ n,0≤pre ws n∧pre ws n≤41 * n:=by
 intro n
 induction n with
 |zero=>simp [pre]
 |succ n ih =>
  have:(((ws[n]?).getD ByteArray.empty).size:Int)≤40:=by
   cases e:ws[n]? with
   |none=>simp
   |some s=>have:=h s (List.mem_of_getElem? e);simp;omega
  simp only [pre]
  omega
theorem b1o (ws:List ByteArray) (n:Nat) (h:n < ws.length):pre ws (n+1)=pre ws n+((ws[n].size:Int)+1):=by simp [pre,h]
def a4e (s:Int) (a:Bool×Cx) (x:Cx):Bool×Cx:=if (!a.1 || decide (g0l s x a.2 < 0))=true then (true,x) else a
def a4l (ws:List ByteArray) (W s:Int) (i f:Nat):Nat→Nat→Bool×Cx→Bool×Cx
 |0,_,a=>a
 |n+1,to,a=>if to < ws.length∧a3j ws f (to+1)≤W then a4l ws W s i f n (to+1) (a4e s a ⟨f,i,to,a3j ws f (to+1)⟩) else a
def a5y (ws:List ByteArray) (W s:Int) (i:Nat):Nat→Bool×Cx→Bool×Cx
 |0,a=>a
 |m+1,a=>if W < a3j ws m (i+1) then a else a5y ws W s i m (a4l ws W s i m (ws.length - i) i a)
def b7k:Cx:=⟨0,0,0,0⟩
def b2x (ws:List ByteArray) (W s:Int) (i:Nat):Cx:=(a5y ws W s i (i+1) (false,b7k)).2
def goodCx (ws:List ByteArray) (i:Nat) (x:Cx):Prop:=0≤x.fr∧x.fr≤i∧x.wd=i∧i≤x.to∧x.to < ws.length∧0≤x.ln+100000∧x.ln≤100000
theorem c8i (ws:List ByteArray) (W s:Int) (i f to:Nat) (a:Bool×Cx):a4l ws W s i f 0 to a=a:=rfl
theorem b1e (ws:List ByteArray) (W s:Int) (i f n to:Nat) (a:Bool×Cx):a4l ws W s i f (n+1) to a=if to < ws.length∧a3j ws f (to+1)≤W then a4l ws W s i f n (to+1) (a4e s a ⟨f,i,to,a3j ws f (to+1)⟩) else a:=rfl
theorem a9w {ws:List ByteArray} {i:Nat} {s:Int} {a:Bool×Cx} {x:Cx} (ha:a.1=true→goodCx ws i a.2) (hx:goodCx ws i x):(a4e s a x).1=true∧goodCx ws i (a4e s a x).2:=by
 unfold a4e
 split
 ·exact ⟨rfl,hx⟩
 ·rename_i h
  have:a.1=true:=by simp only [Bool.or_eq_true,Bool.not_eq_true',not_or,Bool.not_eq_false] at h;exact h.1
  exact ⟨this,ha this⟩
theorem b0v {ws:List ByteArray} {W s:Int} {i f:Nat} (hw:∀ s ∈ ws,s.size≤40) (hl:ws.length≤1000) (hf:f≤i):∀ n to a,i≤to→to+n≤ws.length→(a.1=true→goodCx ws i a.2)→((a4l ws W s i f n to a).1=true→goodCx ws i (a4l ws W s i f n to a).2)∧(a.1=true→(a4l ws W s i f n to a).1=true):=by
 intro n
 induction n with
 |zero=>intro to a _ _ h;exact ⟨h,id⟩
 |succ n ih =>
  intro to a h1 h2 h3
  unfold a4l
  split
  ·have b1:=c3t ws hw (to+1)
   have b2:=c3t ws hw f
   obtain ⟨g1,g2⟩:=a9w (s:=s) (x:=⟨f,i,to,a3j ws f (to+1)⟩) h3 ⟨by simp,by simp;omega,rfl,by simp;omega,by simp;omega,by simp only [a3j];omega,by simp only [a3j];omega⟩
   obtain ⟨q1,q2⟩:=ih (to+1) _ (by omega) (by omega) (fun _=>g2)
   exact ⟨q1,fun _=>q2 g1⟩
  ·exact ⟨h3,id⟩
theorem b0y {ws:List ByteArray} {W s:Int} {i:Nat} (hw:∀ s ∈ ws,s.size≤40) (hl:ws.length≤1000) (hi:i < ws.length):∀ m a,m≤i+1→(a.1=true→goodCx ws i a.2)→((a5y ws W s i m a).1=true→goodCx ws i (a5y ws W s i m a).2)∧(a.1=true→(a5y ws W s i m a).1=true):=by
 intro m
 induction m with
 |zero=>intro a _ h;exact ⟨h,id⟩
 |succ m ih =>
  intro a h1 h3
  unfold a5y
  split
  ·exact ⟨h3,id⟩
  ·obtain ⟨g1,g2⟩:=b0v (W:=W) (s:=s) (f:=m) hw hl (by omega) (ws.length - i) i a (Nat.le_refl _) (by omega) h3
   obtain ⟨q1,q2⟩:=ih _ (by omega) g1
   exact ⟨q1,fun h=>q2 (g2 h)⟩
theorem d3p {ws:List ByteArray} {W s:Int} {i:Nat} (hw:∀ s ∈ ws,s.size≤40) (hl:ws.length≤1000) (hi:i < ws.length) (hW:(ws[i].size:Int)≤W):goodCx ws i (b2x ws W s i):=by
 have h:=b0y (W:=W) (s:=s) hw hl hi (i+1) (false,b7k) (Nat.le_refl _) (fun h=>by cases h)
 refine h.1 ?_
 have hs:a3j ws i (i+1)=ws[i].size:=by unfold a3j;rw [b1o ws i hi];omega
 unfold a5y
 rw [if_neg (by omega)]
 obtain ⟨n,hn⟩:∃ n,ws.length - i=n+1:=⟨ws.length - i - 1,by omega⟩
 have b1:=c3t ws hw (i+1)
 have b2:=c3t ws hw i
 have hx:goodCx ws i ⟨i,i,i,a3j ws i (i+1)⟩:=⟨by simp,by simp,rfl,by simp,by simp;omega,by simp only [a3j];omega,by simp only [a3j];omega⟩
 obtain ⟨g1,g2⟩:=a9w (ws:=ws) (i:=i) (s:=s) (a:=(false,b7k)) (fun h=>by cases h) hx
 have e:a4l ws W s i i (n+1) i (false,b7k)=a4l ws W s i i n (i+1) (a4e s (false,b7k) ⟨i,i,i,a3j ws i (i+1)⟩):=by
  conv=>lhs;unfold a4l
  rw [if_pos ⟨hi,by omega⟩]
 rw [hn,e]
 obtain ⟨q1,q2⟩:=b0v (W:=W) (s:=s) (f:=i) hw hl (Nat.le_refl _) n (i+1) _ (by omega) (by omega) (fun _=>g2)
 exact (b0y hw hl hi i _ (by omega) q1).2 (q2 g1)
theorem goodCx.ok {ws:List ByteArray} {i:Nat} {x:Cx} (h:goodCx ws i x) (hl:ws.length≤1000):d7k x:=by
 obtain ⟨h1,h2,h3,h4,h5,h6,h7⟩:=h
 exact ⟨⟨by omega,by omega⟩,⟨by omega,by omega⟩,⟨by omega,by omega⟩,by omega,by omega⟩
theorem c8f (c:Cu) (k:Nat) (ls:List (List ByteArray)) (i:Nat):a0l Tryz.prog 229 [.agg (e5a 0 c k ls),i64 i] (fun _=>.fn (.func 262) [.fp [i64 i],.fp (e5a 0 c k ls)]):=by
 refine a0b (ow:=fun _=>false) Tryz.func229 Tryz.ntmps229 rfl rfl fun G hG hOw hNm hB=>?_;simp only [go_sem,hG,hOw]
theorem e8y (c:Cu) (k:Nat) (ls:List (List ByteArray)) (hs:inB c.s 1 3=true) (hW:0≤c.w∧c.w≤1000) (hw:∀ s ∈ ls.flatten,s.size≤40) (hl:ls.flatten.length≤1000) (i:Nat) (hi:i < ls.flatten.length) :
  a0l Tryz.prog 228 [.fn (.func 262) [.fp [i64 i],.fp (e5a 0 c k ls)],.fn (.func 230) [.fp (e5a 0 c k ls)]] (fun _=>.agg (cxC (b2x ls.flatten c.w c.s i))):=by
 obtain ⟨T,hT⟩:∃ T,T=a5y ls.flatten c.w c.s i (i+1) (false,b7k):=⟨_,rfl⟩
 have e:b2x ls.flatten c.w c.s i=T.2:=by rw [hT];rfl
 rw [e]
 obtain ⟨ws,hws⟩:∃ ws,ws=ls.flatten:=⟨_,rfl⟩
 rw [← hws] at hw hl hi hT
 obtain ⟨D,hD⟩:∃ D,D=e5a 0 c k ls:=⟨_,rfl⟩
 have hord:=fun a b ha hb=>e6g c k ls hs a b ha hb
 have hDe:D=[i64 c.w,.v (.int .u8 c.s),a0o 0 ws,.lst 0 3 ((atF k 0 ls).map pl3)]:=by rw [hD,hws];rfl
 rw [← hD] at hord ⊢
 obtain ⟨pl,hpl⟩:∃ pl,pl=V.lst 0 3 ((atF k 0 ls).map pl3):=⟨_,rfl⟩
 rw [← hpl] at hDe
 have hp0:∃ a b l,pl=.lst a b l:=⟨_,_,_,hpl⟩
 obtain ⟨pa,pb,pl',hpl'⟩:=hp0
 subst hpl'
 subst hDe
 clear hpl hD
 refine a5o (ow:=fun _=>false) Tryz.func228 Tryz.ntmps228 rfl (by kernel_rfl) (by simp) rfl (by decide) fun G hG hOw hNm hrd hB=>?_;simp only [go_sem,hG,hOw]
 (repeat' with_reducible first|refine And.intro ?_ ?_|intro _|refine exP ?_ ?_);all_goals try omega
 refine a4c (s':=St.of [(3,.ptr 3 0),(4,.ptr 4 0),(5,.ptr 5 0),(6,.ptr 6 0),(8,.fn (.func 262) [.fp [i64 i],.fp [i64 c.w,.v (.int .u8 c.s),a0o 0 ws,.lst pa pb pl']])] [(3,.box [.fn (.func 230) [.fp [i64 c.w,.v (.int .u8 c.s),a0o 0 ws,.lst pa pb pl']]]),(4,.box (cxC b7k)),(5,.box (cxC b7k)),(6,.box [bl false])]) (a1m [(3,some 3),(4,some 4),(5,some 5),(6,some 6)] (by (simp only [go_sem])<;>simp [b7k]) (by (simp only [go_sem,a1k,a0s,a0j,a1q])<;>simp [b7k])) ?_
 refine a5b [3,4,5,6] 99 (fun _=>false) hrd rfl Tryz.func262 Tryz.ntmps262 rfl (by kernel_rfl) rfl (by simp) (by rw [hG];decide) rfl (by rw [hNm];simp [a0z]) rfl rfl fun G1 l L k1 k2 k3 k4 k5 hYJ=>?_
 have hY:=hYJ.law (fun _=>false)
 have hG0:=hG
 have hNm0:=hNm
 have hOw0:=hOw
 have hG:=k1
 have hOw:=k2
 have hNm:=k3
 simp only [go_sem,hG,hOw]
 (repeat' with_reducible first|refine And.intro ?_ ?_|intro _|refine exP ?_ ?_);all_goals try omega
 have ppb:=c3t ws hw
 have z0:a3j ws (i+1) (i+1)=-1:=by unfold a3j;omega
 have hT0:(T.1=true→goodCx ws i T.2):=by rw [hT];exact (b0y hw hl hi (i+1) (false,b7k) (Nat.le_refl _) (fun h=>by cases h)).1
 refine a0i (fun x:Nat×(Bool×Cx)=>St.of [(0,.v (.func (.yield l) #[] #[])),(1,.fp [i64 i]),(2,.fp [i64 c.w,.v (.int .u8 c.s),a0o 0 ws,.lst pa pb pl']),(4,i64 (a3j ws x.1 (i+1))),(5,i64 ((x.1:Int) - 1))] [(99,.obj (.loop (Lp L none))),(3,.box [.fn (.func 230) [.fp [i64 c.w,.v (.int .u8 c.s),a0o 0 ws,.lst pa pb pl']]]),(4,.box (cxC b7k)),(5,.box (cxC x.2.2)),(6,.box [bl x.2.1])]) (fun x=>x.1≤i+1∧a5y ws c.w c.s i x.1 x.2=T∧(x.2.1=true→goodCx ws i x.2.2)) (fun x=>x.1) (i+1,(false,b7k)) ⟨Nat.le_refl _,hT.symm,(fun h=>by cases h)⟩ (a1m [(99,some 99),(3,some 3),(4,some 4),(5,some 5),(6,some 6)] (by (simp only [go_sem])<;>simp [b7k,z0]) (by (simp only [go_sem,a1k,a0s,a0j,a1q])<;>simp [b7k,z0])) ?_
 rintro ⟨m,a⟩ ⟨hm,hTa,hga⟩
 simp only at hm hTa hga
 have hb1:=ppb m
 have hb2:=ppb (i+1)
 refine a0d _ _ _ ?_
 cases m with
 |zero =>
  simp only [a5y] at hTa
  subst hTa
  simp only [go_sem,hG,hOw]
  (repeat' with_reducible first|refine And.intro ?_ ?_|intro _|refine exP ?_ ?_);all_goals try omega
  refine ⟨none,by simp (config:={ maxSteps:=4000000 }) only [go_sem,reduceIte,Nat.reduceEqDiff],?_⟩
  have hG:=hG0
  have hOw:=hOw0
  have hNm:=hNm0
  simp only [go_sem,hG,hOw]
 |succ f =>
  have hfw:f < ws.length:=by omega
  have hps:=b1o ws f hfw
  have hb3:=ppb f
  have e1:a3j ws (f+1) (i+1)+((ws[f].size:Int)+1)=a3j ws f (i+1):=by unfold a3j;omega
  have hsz:=hw _ (List.getElem_mem hfw)
  have hfi:((f+1:Nat):Int) - 1=f:=by omega
  have hsb:-100000≤a3j ws (f+1) (i+1)∧a3j ws (f+1) (i+1)≤100000:=by unfold a3j;omega
  have hsb2:-100000≤a3j ws f (i+1)∧a3j ws f (i+1)≤100000:=by unfold a3j;omega
  unfold a5y at hTa
  simp (maxSteps:=2000000) only [go_sem,hG,hOw,hfi,e1]
  (repeat' with_reducible first|refine And.intro ?_ ?_|intro _|refine exP ?_ ?_);all_goals try omega
  ·rename_i hlt
   rw [if_pos hlt] at hTa
   subst hTa
   refine ⟨none,by simp (config:={ maxSteps:=4000000 }) only [go_sem,reduceIte,Nat.reduceEqDiff],?_⟩
   have hG:=hG0
   have hOw:=hOw0
   have hNm:=hNm0
   simp only [go_sem,hG,hOw]
  ·rename_i hlt
   rw [if_neg hlt] at hTa
   obtain ⟨A,hA⟩:∃ A,A=a4l ws c.w c.s i f (ws.length - i) i a:=⟨_,rfl⟩
   rw [← hA] at hTa
   have hgA:A.1=true→goodCx ws i A.2:=by rw [hA];exact (b0v hw hl (by omega) (ws.length - i) i a (Nat.le_refl _) (by omega) hga).1
   refine a2s (fun _:Unit=>St.of [(0,.v (.func (.yield l) #[] #[])),(1,.fp [i64 i]),(2,.fp [i64 c.w,.v (.int .u8 c.s),a0o 0 ws,.lst pa pb pl']),(4,i64 (a3j ws f (i+1))),(5,i64 f)] [(99,.obj (.loop (Lp L none))),(3,.box [.fn (.func 230) [.fp [i64 c.w,.v (.int .u8 c.s),a0o 0 ws,.lst pa pb pl']]]),(4,.box (cxC b7k)),(5,.box (cxC A.2)),(6,.box [bl A.1])]) (fun _=>True) ?_ ?_
   ·refine a0i (fun y:Nat×(Bool×Cx)=>St.of [(0,.v (.func (.yield l) #[] #[])),(1,.fp [i64 i]),(2,.fp [i64 c.w,.v (.int .u8 c.s),a0o 0 ws,.lst pa pb pl']),(4,i64 (a3j ws f (i+1))),(5,i64 f),(6,i64 (if y.1=i then a3j ws f (i+1) else a3j ws f y.1)),(7,i64 y.1)] [(99,.obj (.loop (Lp L none))),(3,.box [.fn (.func 230) [.fp [i64 c.w,.v (.int .u8 c.s),a0o 0 ws,.lst pa pb pl']]]),(4,.box (cxC b7k)),(5,.box (cxC y.2.2)),(6,.box [bl y.2.1])]) (fun y=>i≤y.1∧y.1≤ws.length∧a4l ws c.w c.s i f (ws.length - y.1) y.1 y.2=A∧(y.2.1=true→goodCx ws i y.2.2)) (fun y=>ws.length - y.1) (i,a) ⟨Nat.le_refl _,by simp only;omega,hA.symm,hga⟩ (a1m [(99,some 99),(3,some 3),(4,some 4),(5,some 5),(6,some 6)]) ?_
    rintro ⟨to,b⟩ ⟨h1,h2,hAb,hgb⟩
    simp only at h1 h2 hAb hgb
    have hb4:=ppb to
    refine a0d _ _ _ ?_
    by_cases hti:to=i
    ·have hti':=hti.symm
     subst hti'
     simp only [if_true]
     have hle:a3j ws f (i+1)≤c.w:=by omega
     have hto:i < ws.length:=hi
     obtain ⟨to,hto2⟩:∃ to,to=i:=⟨_,rfl⟩
     simp only [go_sem,hG,hOw]
     (repeat' with_reducible first|refine And.intro ?_ ?_|intro _|refine exP ?_ ?_);all_goals try omega
     have hx:goodCx ws i ⟨f,i,i,a3j ws f (i+1)⟩:=⟨by simp,by simp<;>omega,rfl,by simp<;>omega,by simp<;>omega,by simp only [a3j];omega,by simp only [a3j];omega⟩
     have hst:=a9w (s:=c.s) hgb hx
     obtain ⟨n,hn⟩:∃ n,ws.length - i=n+1:=⟨ws.length - i - 1,by omega⟩
     rw [hn,b1e,if_pos ⟨hto,hle⟩] at hAb
     have hn2:ws.length - (i+1)=n:=by omega
     have hne:¬ (i+1=i):=by omega
     refine hY [99,3,4,5,6] _ _ _ _ _ (by simp (config:={ maxSteps:=4000000 }) only [go_sem,reduceIte,Nat.reduceEqDiff]) rfl (by simp [chk,k1]) (by rw [k3];simp) (by intro id hid;left;rw [k3];exact hid) fun G2 m1 m2 m3 m4 m5=>?_
     have hG2:=m1.trans hG0
     simp (maxSteps:=2000000) only [go_sem,hG,hOw,hG2,m2]
     refine a0d _ _ _ ?_
     obtain ⟨bb,bx⟩:=b
     cases bb with
     |false =>
      have s0:a4e c.s (false,bx) ⟨f,i,i,a3j ws f (i+1)⟩=(true,⟨f,i,i,a3j ws f (i+1)⟩):=by simp [a4e]
      rw [s0] at hst hAb
      simp (maxSteps:=2000000) only [go_sem,hG,hOw,hG2,m2]
      (repeat' with_reducible first|refine And.intro ?_ ?_|intro _|refine exP ?_ ?_);all_goals try omega
      refine ⟨(i+1,(true,⟨f,i,i,a3j ws f (i+1)⟩)),⟨by simp only;omega,by simp only;omega,by simp only;rw [hn2];exact hAb,fun _=>hst.2⟩,by simp only;omega,?_⟩
      exact a1m [(99,some 99),(3,some 3),(4,some 4),(5,some 5),(6,some 6)] (by (simp only [go_sem])<;>simp [hne]) (by (simp only [go_sem,a1k,a0s,a0j,a1q])<;>simp [hne])
     |true =>
      simp (maxSteps:=2000000) only [go_sem,hG,hOw,hG2,m2]
      (repeat' with_reducible first|refine And.intro ?_ ?_|intro _|refine exP ?_ ?_);all_goals try omega
      refine a1j (hord ⟨f,i,i,a3j ws f (i+1)⟩ bx (hx.ok hl) ((hgb rfl).ok hl)) (by first|exact Subs.refl _|(repeat' (first|exact Subs.nil|exact Sub.refl _|exact Sub.lo (Nat.zero_le _)|refine Subs.cons ?_ ?_|refine Subs.agg ?_|refine Subs.fp ?_|refine Subs.tup ?_|refine Sub.map (Nat.zero_le _) (fun _=>?_)))) (by first|rfl|simp [a9b,b2q,pureV,pure0, *]) (by simp [chk,hG2]) ?_
      simp (maxSteps:=2000000) only [go_sem,hG,hOw,hG2,m2]
      (repeat' with_reducible first|refine And.intro ?_ ?_|intro _|refine exP ?_ ?_);all_goals try omega
      ·rename_i hord0
       have s0:a4e c.s (true,bx) ⟨f,i,i,a3j ws f (i+1)⟩=(true,⟨f,i,i,a3j ws f (i+1)⟩):=by simp [a4e,hord0]
       rw [s0] at hst hAb
       refine ⟨(i+1,(true,⟨f,i,i,a3j ws f (i+1)⟩)),⟨by simp only;omega,by simp only;omega,by simp only;rw [hn2];exact hAb,fun _=>hst.2⟩,by simp only;omega,?_⟩
       exact a1m [(99,some 99),(3,some 3),(4,some 4),(5,some 5),(6,some 6)] (by (simp only [go_sem])<;>simp [hne]) (by (simp only [go_sem,a1k,a0s,a0j,a1q])<;>simp [hne])
      ·rename_i hord0
       have s0:a4e c.s (true,bx) ⟨f,i,i,a3j ws f (i+1)⟩=(true,bx):=by simp [a4e,hord0]
       rw [s0] at hst hAb
       refine ⟨(i+1,(true,bx)),⟨by simp only;omega,by simp only;omega,by simp only;rw [hn2];exact hAb,fun _=>hst.2⟩,by simp only;omega,?_⟩
       exact a1m [(99,some 99),(3,some 3),(4,some 4),(5,some 5),(6,some 6)] (by (simp only [go_sem])<;>simp [hne]) (by (simp only [go_sem,a1k,a0s,a0j,a1q])<;>simp [hne])
    ·simp only [if_neg hti]
     have hto':to < ws.length→a3j ws f to+(((ws[to]?).getD ByteArray.empty).size+1:Int)=a3j ws f (to+1):=fun h=>by unfold a3j;rw [b1o ws to h,List.getElem?_eq_getElem h,Option.getD_some];omega
     by_cases hto:to < ws.length
     ·have hsz2:=hw _ (List.getElem_mem hto)
      have hb5:=ppb (to+1)
      have e2:a3j ws f to+((ws[to].size:Int)+1)=a3j ws f (to+1):=by have:=hto' hto;rw [List.getElem?_eq_getElem hto,Option.getD_some] at this;exact this
      have hsb3:-100000≤a3j ws f to∧a3j ws f to≤100000:=by unfold a3j;omega
      have hsb4:-100000≤a3j ws f (to+1)∧a3j ws f (to+1)≤100000:=by unfold a3j;omega
      simp (maxSteps:=2000000) only [go_sem,hG,hOw,e2]
      (repeat' with_reducible first|refine And.intro ?_ ?_|intro _|refine exP ?_ ?_);all_goals try omega
      ·rename_i hgt
       obtain ⟨n,hn⟩:∃ n,ws.length - to=n+1:=⟨ws.length - to - 1,by omega⟩
       rw [hn,b1e,if_neg (by omega)] at hAb
       subst hAb
       exact ⟨(),a1m [(99,some 99),(3,some 3),(4,some 4),(5,some 5),(6,some 6)]⟩
      ·rename_i hgt
       have hle:a3j ws f (to+1)≤c.w:=by omega
       have hx:goodCx ws i ⟨f,i,to,a3j ws f (to+1)⟩:=⟨by simp,by simp<;>omega,rfl,by simp<;>omega,by simp<;>omega,by simp only [a3j];omega,by simp only [a3j];omega⟩
       have hst:=a9w (s:=c.s) hgb hx
       obtain ⟨n,hn⟩:∃ n,ws.length - to=n+1:=⟨ws.length - to - 1,by omega⟩
       rw [hn,b1e,if_pos ⟨hto,hle⟩] at hAb
       have hn2:ws.length - (to+1)=n:=by omega
       have hne:¬ (to+1=i):=by omega
       refine hY [99,3,4,5,6] _ _ _ _ _ (by simp (config:={ maxSteps:=4000000 }) only [go_sem,reduceIte,Nat.reduceEqDiff]) rfl (by simp [chk,k1]) (by rw [k3];simp) (by intro id hid;left;rw [k3];exact hid) fun G2 m1 m2 m3 m4 m5=>?_
       have hG2:=m1.trans hG0
       simp (maxSteps:=2000000) only [go_sem,hG,hOw,hG2,m2]
       refine a0d _ _ _ ?_
       obtain ⟨bb,bx⟩:=b
       cases bb with
       |false =>
        have s0:a4e c.s (false,bx) ⟨f,i,to,a3j ws f (to+1)⟩=(true,⟨f,i,to,a3j ws f (to+1)⟩):=by simp [a4e]
        rw [s0] at hst hAb
        simp (maxSteps:=2000000) only [go_sem,hG,hOw,hG2,m2]
        (repeat' with_reducible first|refine And.intro ?_ ?_|intro _|refine exP ?_ ?_);all_goals try omega
        refine ⟨(to+1,(true,⟨f,i,to,a3j ws f (to+1)⟩)),⟨by simp only;omega,by simp only;omega,by simp only;rw [hn2];exact hAb,fun _=>hst.2⟩,by simp only;omega,?_⟩
        exact a1m [(99,some 99),(3,some 3),(4,some 4),(5,some 5),(6,some 6)] (by (simp only [go_sem])<;>simp [hne]) (by (simp only [go_sem,a1k,a0s,a0j,a1q])<;>simp [hne])
       |true =>
        simp (maxSteps:=2000000) only [go_sem,hG,hOw,hG2,m2]
        (repeat' with_reducible first|refine And.intro ?_ ?_|intro _|refine exP ?_ ?_);all_goals try omega
        refine a1j (hord ⟨f,i,to,a3j ws f (to+1)⟩ bx (hx.ok hl) ((hgb rfl).ok hl)) (by first|exact Subs.refl _|(repeat' (first|exact Subs.nil|exact Sub.refl _|exact Sub.lo (Nat.zero_le _)|refine Subs.cons ?_ ?_|refine Subs.agg ?_|refine Subs.fp ?_|refine Subs.tup ?_|refine Sub.map (Nat.zero_le _) (fun _=>?_)))) (by first|rfl|simp [a9b,b2q,pureV,pure0, *]) (by simp [chk,hG2]) ?_
        simp (maxSteps:=2000000) only [go_sem,hG,hOw,hG2,m2]
        (repeat' with_reducible first|refine And.intro ?_ ?_|intro _|refine exP ?_ ?_);all_goals try omega
        ·rename_i hord0
         have s0:a4e c.s (true,bx) ⟨f,i,to,a3j ws f (to+1)⟩=(true,⟨f,i,to,a3j ws f (to+1)⟩):=by simp [a4e,hord0]
         rw [s0] at hst hAb
         refine ⟨(to+1,(true,⟨f,i,to,a3j ws f (to+1)⟩)),⟨by simp only;omega,by simp only;omega,by simp only;rw [hn2];exact hAb,fun _=>hst.2⟩,by simp only;omega,?_⟩
         exact a1m [(99,some 99),(3,some 3),(4,some 4),(5,some 5),(6,some 6)] (by (simp only [go_sem])<;>simp [hne]) (by (simp only [go_sem,a1k,a0s,a0j,a1q])<;>simp [hne])
        ·rename_i hord0
         have s0:a4e c.s (true,bx) ⟨f,i,to,a3j ws f (to+1)⟩=(true,bx):=by simp [a4e,hord0]
         rw [s0] at hst hAb
         refine ⟨(to+1,(true,bx)),⟨by simp only;omega,by simp only;omega,by simp only;rw [hn2];exact hAb,fun _=>hst.2⟩,by simp only;omega,?_⟩
         exact a1m [(99,some 99),(3,some 3),(4,some 4),(5,some 5),(6,some 6)] (by (simp only [go_sem])<;>simp [hne]) (by (simp only [go_sem,a1k,a0s,a0j,a1q])<;>simp [hne])
     ·rw [show ws.length - to=0 by omega,c8i] at hAb
      subst hAb
      simp only [go_sem,hG,hOw]
      (repeat' with_reducible first|refine And.intro ?_ ?_|intro _|refine exP ?_ ?_);all_goals try omega
      exact ⟨(),a1m [(99,some 99),(3,some 3),(4,some 4),(5,some 5),(6,some 6)]⟩
   ·rintro ⟨⟩ -
    simp only [go_sem,hG,hOw]
    (repeat' with_reducible first|refine And.intro ?_ ?_|intro _|refine exP ?_ ?_);all_goals try omega
    exact ⟨(f,A),⟨by simp only;omega,hTa,hgA⟩,by simp only;omega,a1m [(99,some 99),(3,some 3),(4,some 4),(5,some 5),(6,some 6)]⟩
open Go Pm Go.RowKit
set_option maxHeartbeats 4000000
set_option maxRecDepth 100000
def c6m (l:List ByteArray) (sep:ByteArray):ByteArray:=⟨(Lib.join (l.map (·.data.toList)) sep.data.toList).toArray⟩
theorem e5w (sep:ByteArray) (hs:sep.size≤40):∀ l:List ByteArray,(∀ s ∈ l,s.size≤40)→(Lib.join (l.map (·.data.toList)) sep.data.toList).length≤80 * l.length:=by
 intro l hl
 cases l with
 |nil=>simp [Lib.join_nil]
 |cons x r =>
  have h1:∀ r:List ByteArray,(∀ s ∈ r,s.size≤40)→Lib.lens (r.map (·.data.toList))≤40 * r.length:=by
   intro r
   induction r with
   |nil=>intro _;simp [Lib.lens]
   |cons y r ih =>
    intro h
    have a1:=ih fun s hs=>h s (List.mem_cons_of_mem _ hs)
    have a2:=h y (List.mem_cons_self ..)
    simp only [Lib.lens,List.map_cons,List.sum_cons,List.length_cons] at a1 ⊢
    have a3:y.data.toList.length=y.size:=by simp
    omega
  have h2:=h1 r fun s hs=>hl s (List.mem_cons_of_mem _ hs)
  have h3:=hl x (List.mem_cons_self ..)
  have h4:x.data.toList.length=x.size:=by simp
  have h5:sep.data.toList.length=sep.size:=by simp
  rw [List.map_cons,Lib.join_cons,List.length_append,Lib.joinTail_length,List.length_map,List.length_cons,h4,h5]
  have h6:sep.size * r.length≤40 * r.length:=Nat.mul_le_mul_right _ hs
  omega
theorem c9x (l:List ByteArray) (sep:ByteArray) (hs:sep.size≤40) (hl:l.length≤1000) (hw:∀ s ∈ l,s.size≤40) :
  a0l Tryz.prog 65 [a0o 0 l,.v (.string sep)] (fun _=>.v (.string (c6m l sep))):=by
 refine ⟨⟨_,Tryz.func65,by decide,by kernel_rfl⟩,fun n w O ys _ hO ha=>?_⟩
 obtain ⟨hn,hr⟩:=ha
 obtain ⟨ys⟩:=ys
 match ys,hn with
 |[y0,y1],_ =>
  have h0:=hr 0 _ y0 rfl rfl
  have h1:=hr 1 _ y1 rfl rfl
  cases h1 with
  |v =>
   cases h0 with
   |lst lo sz l' a k cap b o g hlo hk hc hll ha hs' hz hr' =>
    simp only [List.length_map] at hk hc hll
    subst hk
    match l,hl,hw,ha,hs',hr',hc with
    |[],_,_,_,_,_,_ =>
     refine (Tryz.strings_Join_none a cap sep w).mono fun e w' ⟨he,hw'⟩=>?_
     subst hw'
     exact ⟨_,he,.v _,Below.refl _ _⟩
    |x::r,hl,hw,ha,hs',hr',hc =>
     obtain ⟨rfl,hnO,hb⟩:=ha (by simp)
     refine (Tryz.strings_Join b o cap (x::r) sep w (fun j s hj=>?_) hb (by omega) hc ?_).mono fun e w' ⟨he,hw'⟩=>⟨_,he,.v _,hw'⟩
     ·have e1:((x::r).map a1z)[j]? = some [.v (.string s)]:=by rw [List.getElem?_map,hj];rfl
      have c1:=(hs' j _ 0 _ e1 rfl).1
      have c2:=hr' j _ 0 _ e1 rfl
      have e2:g j 0=.string s:=by
       generalize g j 0=z at c2
       cases c2;rfl
      rw [e2] at c1
      simpa using c1
     ·have:=e5w sep hs (x::r) hw
      omega
theorem e3e (l:List (Nat×Nat×Nat)) (hl:l.length≤1000) (i:Nat) (hi:i < l.length) (hd:∀ j (h:j < l.length),j < i→l[j]≠l[i]):a0l Tryz.prog 180 [.lst 0 3 (l.map pl3),.agg (pl3 l[i])] (fun _=>i64 i):=by
 refine a0b (ow:=fun _=>false) Tryz.func180 Tryz.ntmps180 rfl rfl fun G hG hOw hNm hB=>?_;simp only [go_sem,hG,hOw]
 obtain ⟨p,hp⟩:∃ p,p=l[i]:=⟨_,rfl⟩
 rw [← hp]
 (repeat' with_reducible first|refine And.intro ?_ ?_|intro _|refine exP ?_ ?_);all_goals try omega
 refine a0i (fun k:Nat=>St.of [(0,.lst 0 3 (l.map pl3)),(3,.ptr 3 0),(6,.lst 0 3 (l.map pl3)),(7,i64 l.length),(8,i64 k)] [(3,.box (pl3 p))]) (fun k=>k≤i) (fun k=>l.length - k) 0 (by simp) (a1m [(3,some 3)]) ?_
 rintro k hk
 have hkl:k < l.length:=by omega
 refine a0d _ _ _ ?_
 simp only [go_sem,hG,hOw]
 (repeat' with_reducible first|refine And.intro ?_ ?_|intro _|refine exP ?_ ?_);all_goals try omega
 refine a0r mixed (by kernel_rfl) ?_
 simp only [go_sem,hG,hOw]
 (repeat' with_reducible first|refine And.intro ?_ ?_|intro _|refine exP ?_ ?_);all_goals try omega
 ·rename_i h
  simp only [Bool.and_eq_true,decide_eq_true_eq] at h
  false_or_by_contra
  rename_i hne
  refine hd k hkl (by omega) ?_
  rw [← hp]
  exact Prod.ext (by omega) (Prod.ext (by omega) (by omega))
 ·rename_i h
  refine ⟨k+1,?_,by omega,a1m [(3,some 3)]⟩
  false_or_by_contra
  obtain rfl:k=i:=by omega
  rw [hp] at h
  simp at h
structure Sl where
 p:Nat×Nat×Nat
 word:ByteArray
 bef:ByteArray
 aft:ByteArray
def slC (s:Sl):List V:=[i64 s.p.1,i64 s.p.2.1,i64 s.p.2.2,.v (.string s.word),.v (.string s.bef),.v (.string s.aft)]
def sls (lo:Nat) (l:List Sl):V:=.lst lo 6 (l.map slC)
attribute [go_sem] slC sls
theorem c9a (l:List Sl):a2p (l.map slC)=true:=a2b (fun _=>rfl) l
attribute [go_sem] c9a
def spc:ByteArray:=⟨#[32]⟩
def d5o (c:Cu) (k:Nat) (ls:List (List ByteArray)) (i:Nat):Sl :=
 let x:=b2x ls.flatten c.w c.s i
 ⟨((atF k 0 ls)[i]?).getD (0,0,0),(ls.flatten[i]?).getD ByteArray.empty,c6m ((ls.flatten.take i).drop x.fr.toNat) spc,c6m ((ls.flatten.take (x.to.toNat+1)).drop (i+1)) spc⟩
theorem d8p (c:Cu) (k:Nat) (ls:List (List ByteArray)) (hs:inB c.s 1 3=true) (hW:12≤c.w∧c.w≤1000) (hw:∀ s ∈ ls.flatten,s.size≤12) (hl:ls.flatten.length≤900) (i:Nat) (hi:i < ls.flatten.length) :
  a0l Tryz.prog 181 [.agg (e5a 0 c k ls),i64 i] (fun _=>.agg (slC (d5o c k ls i))):=by
 have hC:=c8f c k ls i
 have hF:=e8y c k ls hs (by omega) (fun s h=>by have:=hw s h;omega) (by omega) i hi
 have hg:=d3p (W:=c.w) (s:=c.s) (i:=i) (fun s h=>by have:=hw s h;omega) (by omega) hi (by have:=hw _ (List.getElem_mem hi);omega)
 obtain ⟨x,hx⟩:∃ x,x=b2x ls.flatten c.w c.s i:=⟨_,rfl⟩
 have hal:(atF k 0 ls).length=ls.flatten.length:=c7o k ls 0
 have hia:i < (atF k 0 ls).length:=by omega
 have eS:d5o c k ls i=⟨(atF k 0 ls)[i],ls.flatten[i],c6m ((ls.flatten.take i).drop x.fr.toNat) spc,c6m ((ls.flatten.take (x.to.toNat+1)).drop (i+1)) spc⟩:=by
  unfold d5o
  rw [← hx,List.getElem?_eq_getElem hia,List.getElem?_eq_getElem hi];rfl
 rw [eS]
 rw [← hx] at hF hg
 obtain ⟨g1,g2,g3,g4,g5,g6,g7⟩:=hg
 refine a0b (ow:=fun _=>false) Tryz.func181 Tryz.ntmps181 rfl rfl fun G hG hOw hNm hB=>?_;simp only [go_sem,hG,hOw]
 (repeat' with_reducible first|refine And.intro ?_ ?_|intro _|refine exP ?_ ?_);all_goals try omega
 refine a0a hC ?_
 simp only [go_sem,hG,hOw]
 (repeat' with_reducible first|refine And.intro ?_ ?_|intro _|refine exP ?_ ?_);all_goals try omega
 refine a6x (fun i=>[2].contains i) ?_
 simp only [go_sem,hG,hOw]
 refine a0a hF ?_
 simp only [go_sem,hG,hOw]
 (repeat' with_reducible first|refine And.intro ?_ ?_|intro _|refine exP ?_ ?_);all_goals try omega
 refine e5m (fun i=>[2,5].contains i) ?_
 refine a0r mixed (by kernel_rfl) ?_
 have t1:((i:Int)+1).toNat=i+1:=by omega
 have t2:(x.to+1).toNat=x.to.toNat+1:=by omega
 have sub:∀ a b,∀ s ∈ (ls.flatten.take a).drop b,s.size≤40:=fun a b s hs=>by have:=hw s (List.mem_of_mem_take (List.mem_of_mem_drop hs));omega
 have sub2:∀ a b,((ls.flatten.take a).drop b).length≤1000:=fun a b=>by rw [List.length_drop,List.length_take];omega
 simp (maxSteps:=2000000) only [go_sem,hG,hOw,t1,t2]
 (repeat' with_reducible first|refine And.intro ?_ ?_|intro _|refine exP ?_ ?_);all_goals try omega
 refine ⟨_,a0e (c9x ((ls.flatten.take i).drop x.fr.toNat) spc (by decide) (sub2 _ _) (sub _ _)),?_⟩
 simp (maxSteps:=2000000) only [go_sem,hG,hOw,t1,t2]
 (repeat' with_reducible first|refine And.intro ?_ ?_|intro _|refine exP ?_ ?_);all_goals try omega
 refine ⟨_,a0e (c9x ((ls.flatten.take (x.to.toNat+1)).drop (i+1)) spc (by decide) (sub2 _ _) (sub _ _)),?_⟩
 simp (maxSteps:=2000000) only [go_sem,hG,hOw,t1,t2]
 (repeat' with_reducible first|refine And.intro ?_ ?_|intro _|refine exP ?_ ?_);all_goals try omega
open Go Pm
set_option maxHeartbeats 4000000
set_option maxRecDepth 100000
def c9b (ls:List (List ByteArray)) (n:Nat):Nat:=(ls.take n).flatten.length
theorem c8z (ls:List (List ByteArray)) (n w:Nat) (hn:n < ls.length) (hw:w < ls[n].length):c9b ls n+w < ls.flatten.length:=by
 have e:ls.flatten=(ls.take n).flatten++(ls[n]++(ls.drop (n+1)).flatten):=by
  conv=>lhs;rw [← List.take_append_drop n ls,List.drop_eq_getElem_cons hn]
  rw [List.flatten_append,List.flatten_cons]
 rw [e,List.length_append,List.length_append]
 unfold c9b
 omega
theorem f1w (k:Nat):∀ (ls:List (List ByteArray)) (m n w:Nat) (hn:n < ls.length) (hw:w < ls[n].length),(atF k m ls)[c9b ls n+w]? = some (k,m+n,w):=by
 intro ls
 induction ls with
 |nil=>intro m n w hn;simp at hn
 |cons l r ih =>
  intro m n w hn hw
  cases n with
  |zero =>
   simp only [List.getElem_cons_zero] at hw
   simp only [atF,c9b,List.take_zero,List.flatten_nil,List.length_nil,Nat.zero_add,Nat.add_zero]
   rw [List.getElem?_append_left (by simpa using hw),List.getElem?_map,List.getElem?_range hw];rfl
  |succ n =>
   simp only [List.getElem_cons_succ] at hw
   have h:=ih (m+1) n w (by simpa using hn) hw
   simp only [atF]
   have e:c9b (l::r) (n+1)=l.length+c9b r n:=by simp [c9b]
   rw [e,List.getElem?_append_right (by simp;omega)]
   simp only [List.length_map,List.length_range]
   rw [show l.length+c9b r n+w - l.length=c9b r n+w by omega,h]
   rw [show m+1+n=m+(n+1) by omega]
theorem f2g (k:Nat):∀ (ls:List (List ByteArray)) (m:Nat) (p:Nat×Nat×Nat),p ∈ atF k m ls→m≤p.2.1:=by
 intro ls
 induction ls with
 |nil=>intro m p h;cases h
 |cons l r ih =>
  intro m p h
  rcases List.mem_append.1 h with h|h
  ·simp only [List.mem_map] at h
   obtain ⟨w,_,rfl⟩:=h
   exact Nat.le_refl _
  ·have:=ih (m+1) p h;omega
theorem d8k (k:Nat):∀ (ls:List (List ByteArray)) (m:Nat),(atF k m ls).Nodup:=by
 intro ls
 induction ls with
 |nil=>intro m;exact List.nodup_nil
 |cons l r ih =>
  intro m
  rw [atF,List.nodup_append]
  refine ⟨?_,ih (m+1),fun a ha b hb=>?_⟩
  ·unfold List.Nodup
   rw [List.pairwise_map]
   exact List.Pairwise.imp (fun h e=>h (by simpa using e)) List.nodup_range
  ·simp only [List.mem_map] at ha
   obtain ⟨w,_,rfl⟩:=ha
   have:=f2g k r (m+1) b hb
   rintro rfl
   simp at this
   omega
def d5e (c:Cu) (k:Nat) (ls:List (List ByteArray)) (n w:Nat):Sl:=d5o c k ls (c9b ls n+w)
theorem c0k {t:List Ch} (ht:a1r t=true):t.length≤6∧∀ ch ∈ t,(ch.lines.length≤10∧1≤ch.lines.length)∧∀ r ∈ ch.lines,a8f r=true:=by
 unfold a1r at ht
 simp only [Bool.and_eq_true,inB,decide_eq_true_eq] at ht
 refine ⟨by omega,fun ch hc=>?_⟩
 obtain ⟨k,hk,rfl⟩:=List.getElem_of_mem hc
 have:=d6q ht.2 hk
 unfold a8n at this
 simp only [Bool.and_eq_true,inB,decide_eq_true_eq] at this
 exact ⟨by omega,fun r hr=>List.all_eq_true.1 this.2 r hr⟩
theorem b1d {r:List ByteArray} (h:a8f r=true):r.length≤10∧1≤r.length∧∀ s ∈ r,s.size≤12∧1≤s.size:=by
 unfold a8f at h
 simp only [Bool.and_eq_true,inB,decide_eq_true_eq] at h
 refine ⟨by omega,by omega,fun s hs=>?_⟩
 have:=List.all_eq_true.1 h.2 s hs
 unfold a1b at this
 simp only [Bool.and_eq_true,inB,decide_eq_true_eq] at this
 omega
theorem b3l {t:List Ch} (ht:a1r t=true) (k:Nat) (hk:k < t.length):t[k].lines.length≤10∧(∀ r ∈ t[k].lines,r.length≤10)∧(∀ s ∈ t[k].lines.flatten,s.size≤12)∧t[k].lines.flatten.length≤600:=by
 obtain ⟨_,h⟩:=c0k ht
 obtain ⟨h1,h2⟩:=h _ (List.getElem_mem hk)
 refine ⟨h1.1,fun r hr=>(b1d (h2 r hr)).1,fun s hs=>?_,a6h _ (by omega) fun r hr=>by have:=(b1d (h2 r hr)).1;omega⟩
 obtain ⟨r,hr,hs⟩:=List.mem_flatten.1 hs
 exact ((b1d (h2 r hr)).2.2 s hs).1
theorem c1v (t:List Ch) (ht:a1r t=true) (c:Cu) (hc:b7z c=true) (k:Nat) (hk:k < t.length) (n w:Nat) (hn:n < t[k].lines.length) (hw:w < t[k].lines[n].length) :
  a0l Tryz.prog 125 [txE 0 t,.agg (cuC c),.agg (pl3 (k,n,w))] (fun _=>.tup [.agg (slC (d5e c k t[k].lines n w)),bl true]):=by
 obtain ⟨b1,b2,b3,b4⟩:=b3l ht k hk
 have ht6:=(c0k ht).1
 have hc2:=hc
 simp only [b7z,Bool.and_eq_true] at hc2
 have hcw:12≤c.w∧c.w≤80:=by simp only [inB,Bool.and_eq_true,decide_eq_true_eq] at hc2;omega
 have hR:=e4j t c k hk (by omega) (fun r hr=>by have:=b2 r hr;omega)
 have hi:=c8z t[k].lines n w hn hw
 have hal:=c7o k t[k].lines 0
 have hat:=f1w k t[k].lines 0 n w hn hw
 have hS:=d8p c k t[k].lines hc2.2 (by omega) b3 (by omega) _ hi
 have hia:c9b t[k].lines n+w < (atF k 0 t[k].lines).length:=by omega
 rw [List.getElem?_eq_getElem hia,Option.some.injEq,Nat.zero_add] at hat
 have hI:=e3e (atF k 0 t[k].lines) (by omega) (c9b t[k].lines n+w) hia (fun j hj hlt e=>by
  have:=(List.getElem_inj (d8k k t[k].lines 0)).1 e
  omega)
 rw [hat] at hI
 unfold d5e
 obtain ⟨ls,hls⟩:∃ ls,ls=t[k].lines:=⟨_,rfl⟩
 rw [← hls] at hR hI hS ⊢
 refine a0b (ow:=fun _=>false) Tryz.func125 Tryz.ntmps125 rfl rfl fun G hG hOw hNm hB=>?_;simp only [go_sem,hG,hOw]
 (repeat' with_reducible first|refine And.intro ?_ ?_|intro _|refine exP ?_ ?_);all_goals try omega
 refine a0a (c7s 0 (t.length - 1) k) ?_
 have e1:inB k 0 (t.length - 1)=true:=by simp [inB];omega
 simp (maxSteps:=2000000) only [go_sem,hG,hOw,e1]
 (repeat' with_reducible first|refine And.intro ?_ ?_|intro _|refine exP ?_ ?_);all_goals try omega
 refine a0a hR ?_
 simp only [go_sem,hG,hOw]
 (repeat' with_reducible first|refine And.intro ?_ ?_|intro _|refine exP ?_ ?_);all_goals try omega
 refine a0a hI ?_
 simp only [go_sem,hG,hOw]
 (repeat' with_reducible first|refine And.intro ?_ ?_|intro _|refine exP ?_ ?_);all_goals try omega
 refine a0a hS ?_
 simp only [go_sem,hG,hOw]
 (repeat' with_reducible first|refine And.intro ?_ ?_|intro _|refine exP ?_ ?_);all_goals try omega
open Go Pm
set_option maxHeartbeats 4000000
set_option maxRecDepth 100000
def b7d (c:Cu) (k:Nat) (ls:List (List ByteArray)) (n:Nat):List Sl:=(List.range n).map (d5o c k ls)
theorem d9e (c:Cu) (k:Nat) (ls:List (List ByteArray)) (n:Nat):b7d c k ls (n+1)=b7d c k ls n++[d5o c k ls n]:=by
 unfold b7d
 rw [List.range_succ,List.map_append];rfl
def a7w (c:Cu) (t:List Ch):Nat→List Sl
 |0=>[]
 |k+1=>a7w c t k++match t[k]? with
  |some ch=>b7d c k ch.lines ch.lines.flatten.length
  |none=>[]
theorem a7q (c:Cu) (t:List Ch) (k:Nat) (hk:k < t.length):a7w c t (k+1)=a7w c t k++b7d c k t[k].lines t[k].lines.flatten.length:=by simp [a7w,hk]
theorem c5a (c:Cu) (t:List Ch) (ht:a1r t=true):∀ k,k≤t.length→(a7w c t k).length≤600 * k
 |0,_=>by simp [a7w]
 |k+1,hk=>by
  have ih:=c5a c t ht k (by omega)
  rw [a7q c t k (by omega),List.length_append]
  obtain ⟨h1,h2,h3⟩:=b3l ht k (by omega)
  have:=a6h t[k].lines (by omega) (fun r hr=>by have:=h2 r hr;omega)
  simp only [b7d,List.length_map,List.length_range]
  omega
theorem e7e (t:List Ch) (c:Cu):a0l Tryz.prog 127 [txE 0 t,.agg (cuC c)] (fun _=>.fn (.func 183) [.fp [chs 0 t],.fp (cuC c)]):=by
 refine a0b (ow:=fun _=>false) Tryz.func127 Tryz.ntmps127 rfl rfl fun G hG hOw hNm hB=>?_;simp only [go_sem,hG,hOw]
open Go Pm
def b3t (r:List ByteArray):Bool:=decide (15 < (r.length:Int)) || r.any fun s=>decide (40 < (s.size:Int))
def b3w (c:Ch):Bool:=decide (15 < (c.lines.length:Int)) || c.lines.any b3t
def b2c (t:List Ch):Bool:=decide (10 < (t.length:Int)) || t.any b3w
theorem d9v {r:List ByteArray} (h:b3t r=false):r.length≤15∧∀ s ∈ r,s.size≤40:=by
 simp only [b3t,Bool.or_eq_false_iff,decide_eq_false_iff_not,List.any_eq_false,decide_eq_true_eq] at h
 exact ⟨by omega,fun s hs=>by have:=h.2 s hs;omega⟩
theorem d6f {t:List Ch} (h:b2c t=false):OKt t:=by
 simp only [b2c,b3w,Bool.or_eq_false_iff,decide_eq_false_iff_not,List.any_eq_false,Bool.or_eq_true,not_or,decide_eq_true_eq,Bool.not_eq_true] at h
 refine ⟨by omega,fun c hc=>?_⟩
 obtain ⟨h1,h2⟩:=h.2 c hc
 have h3:∀ r ∈ c.lines,b3t r=false:=by simpa using h2
 exact ⟨by omega,fun r hr=>d9v (h3 r hr)⟩
end Go.Proofs.YtmjhfccbbfpppaaGreatDoor
