import Derived.Test.YtmjhfccbbfpppaaGreatDoorQB08
import Derived.Test.YtmjhfccbbfpppaaGreatDoorQB10
import Derived.Test.YtmjhfccbbfpppaaGreatDoorQB15
import Derived.Test.YtmjhfccbbfpppaaGreatDoorQB18
import Derived.Test.YtmjhfccbbfpppaaGreatDoorQB21
import Derived.Test.YtmjhfccbbfpppaaGreatDoorQB22
namespace Go.Proofs.YtmjhfccbbfpppaaGreatDoor
open Go Pm
set_option linter.unusedSimpArgs false
set_option linter.unusedVariables false
set_option maxHeartbeats 1000000
theorem a8i (l m:List ByteArray):a0l Tryz.prog 26 [a0q 0 l,a0q 0 m] (fun _=>bl (decide (l=m))):=by
 refine a0b (ow:=fun _=>false) Tryz.func26 Tryz.ntmps26 rfl rfl fun G hG hOw hNm hB=>?_;simp only [go_sem,hG,hOw]
 have hl:=b5z (lo:=0) (l:=l) hB (by simp)
 refine ⟨fun h=>?_,fun h=>?_⟩
 ·rw [decide_eq_false]
  rintro rfl
  simp at h
 have hlen:l.length=m.length:=by omega
 refine a0k (fun k:Nat=>St.of [(0,a0q 0 l),(1,a0q 0 m),(5,i64 k)] []) (fun k=>k≤l.length∧l.take k=m.take k) (fun k=>l.length - k) 0 (by simp) (a0y (by (simp only [go_sem])<;>simp) hNm) ?_
 rintro k ⟨hk,hall⟩
 refine a0d _ _ _ ?_;simp only [go_sem,hG,hOw]
 refine ⟨fun hlt=>?_,fun hge=>?_⟩
 ·refine a0s mixed (by kernel_rfl) ?_
  simp only [go_sem,hG,hOw]
  refine ⟨by omega,by omega,fun h1=>?_,fun h1=>⟨(by first|omega|(simp;omega)),k+1,⟨by omega,?_⟩,by omega,a0y (by (simp only [go_sem])<;>simp) hNm⟩⟩
  ·rw [decide_eq_false]
   rintro rfl
   simp at h1
  ·have e:l[k]=m[k]:=by simpa using h1
   rw [List.take_add_one,List.take_add_one,hall,List.getElem?_eq_getElem (by omega),List.getElem?_eq_getElem (by omega),e]
 ·rw [a1k hk hge,a1k (by omega) (by omega)] at hall
  rw [hall];simp
open Go Pm
set_option maxHeartbeats 4000000
set_option maxRecDepth 100000
def byI (s:ByteArray) (k:Nat):Int:=if h:k < s.size then (s[k]'h).toNat else 0
theorem g1f {s:ByteArray} {k:Nat} (h:k < s.size):byI s k=((s[k]'h).toNat:Int):=by simp [byI,h]
theorem g0d (s:ByteArray) (k:Nat):0≤byI s k∧byI s k≤255:=by
 unfold byI
 split
 ·rename_i h
  have:=(s[k]'h).toNat_lt
  omega
 ·omega
def d1g (s:ByteArray) (i:Int):Nat→Int
 |0=>(17 * i+5) % 676
 |k+1=>(31 * d1g s i k+byI s k) % 676
theorem e3j (s:ByteArray) (i:Int) (k:Nat):0≤d1g s i k∧d1g s i k < 676:=by
 cases k with
 |zero=>simp only [d1g];omega
 |succ k=>simp only [d1g];omega
theorem d6x (s:ByteArray) (i:Int):d1g s i 0=(17 * i+5) % 676:=rfl
attribute [go_sem] d6x
def f5x (s:ByteArray) (i:Int):ByteArray:=⟨#[UInt8.ofNat (97+(d1g s i s.size / 26).toNat),UInt8.ofNat (97+(d1g s i s.size % 26).toNat)]⟩
def c2x (s:ByteArray) (i:Int):ByteArray:=s++⟨#[32]⟩++f5x s i++⟨#[10]⟩
theorem a4i (s:ByteArray) (i:Int):(c2x s i).size=s.size+4:=by
 unfold c2x f5x
 simp only [ByteArray.size_append]
 rfl
def a5g (l:List ByteArray):Nat→ByteArray
 |0=>⟨#[]⟩
 |k+1=>match l[k]? with
  |some s=>a5g l k++c2x s k
  |none=>a5g l k
theorem d8a (l:List ByteArray):a5g l 0=⟨#[]⟩:=rfl
theorem a7u (l:List ByteArray) {k:Nat} (h:k < l.length):a5g l (k+1)=a5g l k++c2x l[k] k:=by
 simp [a5g,h]
theorem c3i {s:ByteArray} (h:b4y s=true):s.size≤160:=by
 unfold b4y at h
 simp at h
 omega
theorem b0a {l:List ByteArray} (h:∀ s ∈ l,s.size≤160):∀ k,k≤l.length→(a5g l k).size≤164 * k
 |0,_=>by simp [a5g,ByteArray.size]
 |k+1,hk=>by
  rw [a7u l (by omega),ByteArray.size_append,a4i]
  have:=b0a h k (by omega)
  have:=h _ (List.getElem_mem (show k < l.length by omega))
  omega
def wrS (l:List ByteArray):ByteArray:=if a1c l=true then (if (a5g l l.length).size≤30000 then a5g l l.length else ⟨#[]⟩) else ⟨#[]⟩
def wrE (l:List ByteArray):Int:=if a1c l=true then (if (a5g l l.length).size≤30000 then 0 else 9) else 110
open Go Pm
def ixL:List UInt8→Nat
 |[]=>0
 |b::r=>if b=10 then 0 else ixL r+1
def nlS (s:ByteArray) (a:Nat):Nat:=a+ixL (s.data.toList.drop a)
theorem e4i:∀ l,ixL l≤l.length
 |[]=>Nat.le_refl _
 |b::r=>by
  unfold ixL
  have:=e4i r
  split<;>simp<;>omega
theorem d7l {s:ByteArray} {a:Nat} (h:a≤s.size):a≤nlS s a∧nlS s a≤s.size:=by
 unfold nlS
 have:=e4i (s.data.toList.drop a)
 rw [List.length_drop] at this
 have h2:s.data.toList.length=s.size:=by rw [Array.length_toList];rfl
 omega
theorem c6w (s:ByteArray) {a:Nat} (h:a < s.size):s.data.toList.drop a=s[a]::s.data.toList.drop (a+1):=by
 have h2:s.data.toList.length=s.size:=by rw [Array.length_toList];rfl
 rw [List.drop_eq_getElem_cons (by omega)]
 rfl
theorem e7u {s:ByteArray} {a:Nat} (h:a < s.size) (hb:s[a]≠10):nlS s (a+1)=nlS s a:=by
 unfold nlS
 rw [c6w s h]
 simp only [ixL,if_neg hb]
 omega
theorem g3q {s:ByteArray} {a:Nat} (h:a < s.size) (hb:s[a]=10):nlS s a=a:=by
 unfold nlS
 rw [c6w s h]
 simp only [ixL,if_pos hb]
 omega
theorem f3x {s:ByteArray} {a:Nat} (h:a=s.size):nlS s a=a:=by
 unfold nlS
 have h2:s.data.toList.length=s.size:=by rw [Array.length_toList];rfl
 rw [List.drop_of_length_le (by omega)]
 rfl
theorem f2m {s:ByteArray}:∀ (n:Nat) {a:Nat},s.size - a=n→(h:nlS s a < s.size)→s[nlS s a]=10
 |0,a,hn,h=>by
  have:=d7l (s:=s) (a:=a)
  unfold nlS at h
  omega
 |n+1,a,hn,h=>by
  by_cases hb:s[a]'(by omega)=10
  ·have:=g3q (by omega) hb
   simp only [this]
   exact hb
  ·have:=e7u (s:=s) (a:=a) (by omega) hb
   have ih:=f2m (s:=s) n (a:=a+1) (by omega) (by omega)
   simp only [this] at ih
   exact ih
def b4q (s:ByteArray) (a i:Nat):Bool:=decide (nlS s a < s.size∧a+4≤nlS s a) && (b4y (s.extract a (nlS s a - 3)) && decide (c2x (s.extract a (nlS s a - 3)) i=s.extract a (nlS s a+1)))
def b3v (s:ByteArray):Nat→Nat→List ByteArray→List ByteArray×Nat
 |0,a,out=>(out,a)
 |n+1,a,out=>if b4q s a out.length=true then b3v s n (nlS s a+1) (out++[s.extract a (nlS s a - 3)]) else (out,a)
theorem d6f (s:ByteArray) (a:Nat) (out:List ByteArray):b3v s 0 a out=(out,a):=rfl
theorem b0h {s:ByteArray} {n a:Nat} {out:List ByteArray} (h:b4q s a out.length=false):b3v s n a out=(out,a):=by
 cases n with
 |zero=>rfl
 |succ n=>simp [b3v,h]
theorem b8x {s:ByteArray} {n a:Nat} {out:List ByteArray} (h:b4q s a out.length=true):b3v s (n+1) a out=b3v s n (nlS s a+1) (out++[s.extract a (nlS s a - 3)]):=by
 simp [b3v,h]
def rdL (s:ByteArray):List ByteArray:=if s.size≤30000 then (b3v s 200 0 []).1 else []
def rdN (s:ByteArray):Int:=if s.size≤30000 then ((b3v s 200 0 []).2:Nat) else 0
def c9s (s:ByteArray):Int:=if s.size≤30000 then 0 else 9
theorem b5b (s:ByteArray) {a b:Nat} (h:b≤s.size):(s.extract a b).size=b - a:=by
 rw [ByteArray.size_extract];omega
open Go Pm
theorem c1q (n:Nat) (e:Int):Pm.Sub (.tup [.v (.slice none 0 0),.v (.int .i64 e)]) (.tup [.lst n 1 (List.map a2c []),.v (.int .i64 e)]):=Subs.tup (.cons (.nil _ _) (.cons (.refl _) .nil))
theorem c1i (l m:List ByteArray):a0l Tryz.prog 110 [a0q 0 l,a0q 0 m] (fun _=>bl (decide (l=m))):=by
 refine a0b (ow:=fun _=>false) Tryz.func110 Tryz.ntmps110 rfl rfl fun G hG hOw hNm hB=>?_;simp only [go_sem,hG,hOw]
 have hl:=b5z (lo:=0) (l:=l) hB (by simp)
 refine ⟨fun h=>?_,fun h=>?_⟩
 ·rw [decide_eq_false]
  rintro rfl
  simp at h
 have hlen:l.length=m.length:=by omega
 refine a0k (fun k:Nat=>St.of [(0,a0q 0 l),(1,a0q 0 m),(12,i64 l.length),(13,i64 k)] []) (fun k=>k≤l.length∧l.take k=m.take k) (fun k=>l.length - k) 0 (by simp) (a0y (by (simp only [go_sem])<;>simp) hNm) ?_
 rintro k ⟨hk,hall⟩
 refine a0d _ _ _ ?_;simp only [go_sem,hG,hOw]
 refine ⟨fun hlt=>?_,fun hge=>?_⟩
 ·refine a0s mixed (by kernel_rfl) ?_
  simp only [go_sem,hG,hOw]
  refine ⟨by omega,by omega,fun h1=>?_,fun h1=>⟨(by first|omega|(simp;omega)),k+1,⟨by omega,?_⟩,by omega,a0y (by (simp only [go_sem])<;>simp) hNm⟩⟩
  ·rw [decide_eq_false]
   rintro rfl
   simp at h1
  ·have e:l[k]=m[k]:=by simpa using h1
   rw [List.take_add_one,List.take_add_one,hall,List.getElem?_eq_getElem (by omega),List.getElem?_eq_getElem (by omega),e]
 ·rw [a1k hk hge,a1k (by omega) (by omega)] at hall
  rw [hall];simp
theorem d7o (x y:Hk) (hx:0≤x.lo∧x.lo≤1000) (hy:0≤y.lo∧y.lo≤1000):a0l Tryz.prog 113 [.agg (hkE 0 x),.agg (hkE 0 y)] (fun _=>i64 (x.lo - y.lo)):=by
 refine a0b (ow:=fun _=>false) Tryz.func113 Tryz.ntmps113 rfl rfl fun G hG hOw hNm hB=>?_;simp only [go_sem,hG,hOw]
 (repeat' with_reducible first|apply And.intro|refine exP ?_ ?_|intro);all_goals try omega
theorem c3s (a:Nat) (x y:Hk) (hx:0≤x.lo∧x.lo≤1000) (hy:0≤y.lo∧y.lo≤1000) :
  Tri Tryz.prog 208 [.own 0 0 2 3,i64 0,i64 2,.fn (.func 113) []] [(0,.arr 77 3 [hkE a x,hkE a y])]
   (fun _=>.ret (.tup []) [(0,.arr 77 3 ((srt x y).map (hkE a)))]):=by
 refine a0e (fun _=>false) Tryz.func208 Tryz.ntmps208 rfl rfl fun G hG hOw hNm=>?_;simp only [go_sem,hG,hOw]
 (repeat' with_reducible first|apply And.intro|refine exP ?_ ?_|intro);all_goals try omega
 refine a0k (fun b:Bool=>St.of [(0,.own 0 0 2 3),(1,i64 0),(2,i64 2),(3,.fn (.func 113) []),(8,i64 (if b=true then 1 else 2))] [(0,.arr 77 3 (if b=true then [hkE a x,hkE a y] else (srt x y).map (hkE a)))]) (fun _=>True) (fun b=>if b=true then 1 else 0) true trivial (a1m [(0,some 0)]) ?_
 rintro b -
 cases b
 ·refine a0d _ _ _ ?_;simp only [go_sem,hG,hOw]
  (repeat' with_reducible first|apply And.intro|refine exP ?_ ?_|intro);all_goals try omega
  exact (a2o [(0,some 0)])
 ·refine a0d _ _ _ ?_;simp only [go_sem,hG,hOw]
  (repeat' with_reducible first|apply And.intro|refine exP ?_ ?_|intro);all_goals try omega
  refine a0k (fun c:Bool=>St.of [(0,.own 0 0 2 3),(1,i64 0),(2,i64 2),(3,.fn (.func 113) []),(8,i64 1),(9,i64 (if c=true then 1 else 0))] [(0,.arr 77 3 (if c=true then [hkE a x,hkE a y] else [hkE a y,hkE a x]))]) (fun c=>c=false→y.lo < x.lo) (fun c=>if c=true then 1 else 0) true (by simp) (a1m [(0,some 0)]) ?_
  rintro c hc
  cases c
  ·have hc':=hc rfl
   refine a0d _ _ _ ?_;simp only [go_sem,hG,hOw]
   refine a0s mixed (by kernel_rfl) ?_
   simp only [go_sem,hG,hOw]
   (repeat' with_reducible first|apply And.intro|refine exP ?_ ?_|intro);all_goals try omega
   exact ⟨false,by simp,a1m [(0,some 0)] (by (simp only [go_sem])<;>simp [srt,hc',hkE,i64,a0q]) (by (simp only [go_sem,a1d,a0r,a0i,a1l])<;>simp [srt,hc',hkE,i64,a0q])⟩
  ·refine a0d _ _ _ ?_;simp only [go_sem,hG,hOw]
   refine a0s mixed (by kernel_rfl) ?_
   simp (maxSteps:=2000000) only [go_sem,hG,hOw,Int.reduceToNat,Int.reduceSub,List.getElem_cons_succ,List.getElem_cons_zero,List.take_succ_cons,List.take_zero]
   (repeat' with_reducible first|apply And.intro|refine exP ?_ ?_|intro);all_goals try omega
   refine ⟨_,a0f (d7o y x hy hx),?_⟩
   simp only [go_sem,hG,hOw]
   (repeat' with_reducible first|apply And.intro|refine exP ?_ ?_|intro);all_goals try omega
   ·rename_i hlt
    refine a5q [(46,[0]),(50,[0]),(51,[0]),(52,[0])] mixed (by kernel_rfl) ?_
    simp (maxSteps:=2000000) only [go_sem,hG,hOw,Int.reduceToNat,Int.reduceSub,List.getElem_cons_succ,List.getElem_cons_zero,List.take_succ_cons,List.take_zero,putCells,List.set_cons_zero,List.set_cons_succ]
    (repeat' with_reducible first|apply And.intro|refine exP ?_ ?_|intro);all_goals try omega
    exact ⟨false,by simp;omega,by simp,a1m [(0,some 0)]⟩
   ·rename_i hlt
    have hc':¬ y.lo < x.lo:=by omega
    exact ⟨false,by simp,a1m [(0,some 0)] (by (simp only [go_sem])<;>simp [srt,hc',hkE,i64,a0q]) (by (simp only [go_sem,a1d,a0r,a0i,a1l])<;>simp [srt,hc',hkE,i64,a0q])⟩
theorem g3u (a:Nat) (k:Int) (x y:Hk) (hx:0≤x.lo∧x.lo≤1000) (hy:0≤y.lo∧y.lo≤1000) :
  Tri Tryz.prog 168 [.own 0 0 2 3,i64 0,i64 2,i64 k,.fn (.func 113) []] [(0,.arr 77 3 [hkE a x,hkE a y])]
   (fun _=>.ret (.tup []) [(0,.arr 77 3 ((srt x y).map (hkE a)))]):=by
 refine a0e (fun _=>false) Tryz.func168 Tryz.ntmps168 rfl rfl fun G hG hOw hNm=>?_;simp only [go_sem,hG,hOw]
 refine a0k (fun _:Unit=>St.of [(0,.own 0 0 2 3),(1,i64 0),(2,i64 2),(4,.fn (.func 113) [])] [(0,.arr 77 3 [hkE a x,hkE a y])]) (fun _=>True) (fun _=>0) () trivial (a1m [(0,some 0)]) ?_
 rintro ⟨⟩ -
 refine a0d _ _ _ ?_;simp only [go_sem,hG,hOw]
 (repeat' with_reducible first|apply And.intro|refine exP ?_ ?_|intro);all_goals try omega
 refine a0c [(0,0)] [] (c3s a x y hx hy) ?_
 simp only [go_sem,hG,hOw]
 (repeat' with_reducible first|apply And.intro|refine exP ?_ ?_|intro);all_goals try omega
 exact (a2o [(0,some 0)])
theorem f1x:a0l Tryz.prog 217 [.v (.int .u64 2)] (fun _=>i64 2):=by
 refine a0b (ow:=fun _=>false) Tryz.func217 Tryz.ntmps217 rfl rfl fun G hG hOw hNm hB=>?_;simp only [go_sem,hG,hOw]
 (repeat' with_reducible first|apply And.intro|refine exP ?_ ?_|intro);all_goals try omega
 all_goals decide +kernel
theorem g4h:a0l Tryz.prog 169 [.v (.int .u64 2)] (fun _=>i64 2):=by
 refine a0b (ow:=fun _=>false) Tryz.func169 Tryz.ntmps169 rfl rfl fun G hG hOw hNm hB=>?_;simp only [go_sem,hG,hOw]
 refine a0a f1x ?_
 simp only [go_sem,hG,hOw]
theorem c8l (a:Nat) (x y:Hk) (hx:0≤x.lo∧x.lo≤1000) (hy:0≤y.lo∧y.lo≤1000) :
  Tri Tryz.prog 112 [.own 0 0 2 3,.fn (.func 113) []] [(0,.arr 77 3 [hkE a x,hkE a y])]
   (fun _=>.ret (.tup []) [(0,.arr 77 3 ((srt x y).map (hkE a)))]):=by
 refine a0e (fun _=>false) Tryz.func112 Tryz.ntmps112 rfl rfl fun G hG hOw hNm=>?_;simp only [go_sem,hG,hOw]
 (repeat' with_reducible first|apply And.intro|refine exP ?_ ?_|intro);all_goals try omega
 simp only [show IntKind.u64.wrap 2=2 from by decide]
 refine a0a g4h ?_
 simp only [go_sem,hG,hOw]
 refine a0c [(0,0)] [] (g3u a 2 x y hx hy) ?_
 simp only [go_sem,hG,hOw]
 (repeat' with_reducible first|apply And.intro|refine exP ?_ ?_|intro);all_goals try omega
 exact (a2o [(0,some 0)])
open Go Pm
theorem f1a (o a b:List ByteArray) (ho:o.length≤1000) (ha:a.length≤1000) (hb:b.length≤1000) :
  a0l Tryz.prog 37 [a0q 0 o,a0q 0 a,a0q 0 b] (fun n=>.tup [a0q n (a5f o a b),i64 (a3l o a b)]):=by
 refine a0b (ow:=fun i=>[46].contains i) Tryz.func37 Tryz.ntmps37 rfl rfl fun G hG hOw hNm hB=>?_;simp only [go_sem,hG,hOw]
 have bad:∀ n,¬ (a1c o=true∧a1c a=true∧a1c b=true)→Pm.Sub (V.tup [V.v (Value.slice none 0 0),V.v (Value.int IntKind.i64 110)]) (V.tup [V.lst n 1 (List.map a2c (a5f o a b)),V.v (Value.int IntKind.i64 (a3l o a b))]):=fun n h=>by
  rw [(c6a h).1,(c6a h).2];exact c1q _ _
 obtain ⟨ls,hls⟩:∃ ls,ls=[o,a,b]:=⟨_,rfl⟩
 have hln:ls.length=3:=by rw [hls];rfl
 have hal:ls.all a1c=true↔a1c o=true∧a1c a=true∧a1c b=true:=by rw [hls];simp
 refine a3e (fun _:Unit=>St.of [(0,a0q 0 o),(1,a0q 0 a),(2,a0q 0 b)] []) (fun _=>a1c o=true∧a1c a=true∧a1c b=true) ?_ ?_
 ·refine a0k (fun k:Nat=>St.of [(0,a0q 0 o),(1,a0q 0 a),(2,a0q 0 b),(15,.lst G.lo 1 (ls.map (d6m 0))),(16,i64 3),(17,i64 k)] []) (fun k=>k≤3∧(ls.take k).all a1c=true) (fun k=>3 - k) 0 (by simp) (a1m [] (by (simp only [go_sem])<;>simp [d6m,hls,a0q]) (by (simp only [go_sem,a1d,a0r,a0i,a1l])<;>simp [d6m,hls,a0q])) ?_
  rintro k ⟨hk,hall⟩
  refine a0d _ _ _ ?_;simp only [go_sem,hG,hOw]
  (repeat' with_reducible first|apply And.intro|refine exP ?_ ?_|intro);all_goals try omega
  ·rename_i hlt
   have hkl:k < ls.length:=by omega
   refine a0a (a6v (ls[k]'hkl)) ?_
   simp only [go_sem,hG,hOw]
   (repeat' with_reducible first|apply And.intro|refine exP ?_ ?_|intro);all_goals try omega
   ·rename_i h1
    refine bad _ (fun ⟨q1,q2,q3⟩=>?_)
    have:a1c (ls[k]'hkl)=true:=List.all_eq_true.1 (hal.2 ⟨q1,q2,q3⟩) _ (List.getElem_mem hkl)
    rw [this] at h1
    simp at h1
   ·rename_i h1
    have:a1c (ls[k]'hkl)=true:=by
     cases h:a1c (ls[k]'hkl) with
     |true=>rfl
     |false=>rw [h] at h1;simp at h1
    exact ⟨k+1,⟨by omega,a0u hkl hall this⟩,by omega,a0y (by (simp only [go_sem])<;>simp) hNm⟩
  ·rename_i hge
   rw [List.take_of_length_le (by omega)] at hall
   exact ⟨(),hal.1 hall,a0y (by (simp only [go_sem])<;>simp) hNm⟩
 rintro ⟨⟩ ⟨r1,r2,r3⟩
 have l1:=b0c r1
 have l2:=b0c r2
 have l3:=b0c r3
 obtain ⟨⟨xa,xb,xc,xd⟩,ya,yb,yc,yd⟩:=And.intro (b2w o a) (b2w o b)
 have fin1:a3l o a b=0→∀ n L,a5f o a b=L→Pm.Sub (V.tup [V.lst n 1 (List.map a2c L),V.v (Value.int IntKind.i64 0)]) (V.tup [V.lst n 1 (List.map a2c (a5f o a b)),V.v (Value.int IntKind.i64 (a3l o a b))]):=fun h n L hL=>by
  rw [h,hL];exact .refl _
 simp only [go_sem,hG,hOw]
 refine a0a (c1i o a) ?_
 simp only [go_sem,hG,hOw]
 refine ⟨fun e1=>?_,fun e1=>?_⟩
 ·refine a0a (a8e b hb) ?_
  simp only [go_sem,hG,hOw]
  exact fin1 (d8h ⟨r1,r2,r3⟩ e1).1 _ _ (d8h ⟨r1,r2,r3⟩ e1).2
 ·refine a0a (c1i o b) ?_
  simp only [go_sem,hG,hOw]
  refine ⟨fun e2=>⟨fun _=>?_,fun h=>absurd e2 h⟩,fun e2=>?_⟩
  ·refine a0a (a8e a ha) ?_
   simp only [go_sem,hG,hOw]
   have:=e4q ⟨r1,r2,r3⟩ e1 (.inl e2)
   exact fin1 this.1 _ _ this.2
  ·refine a0a (c1i a b) ?_
   simp only [go_sem,hG,hOw]
   refine ⟨fun e3=>?_,fun e3=>?_⟩
   ·refine a0a (a8e a ha) ?_
    simp only [go_sem,hG,hOw]
    have:=e4q ⟨r1,r2,r3⟩ e1 (.inr e3)
    exact fin1 this.1 _ _ this.2
   ·have ne2:¬ (o=b∨a=b):=fun h=>h.elim e2 e3
    refine a0a (d0e o a ho ha) ?_
    simp only [go_sem,hG,hOw]
    refine a0a (d0e o b ho hb) ?_
    simp only [go_sem,hG,hOw]
    (repeat' with_reducible first|apply And.intro|refine exP ?_ ?_|intro);all_goals try omega
    refine a0c [(0,46)] [] (c8l G.lo (a3p o a) (a3p o b) (by omega) (by omega)) ?_
    obtain ⟨hq1,hq2⟩:=e4y o a b
    have f3:=f4d ⟨r1,r2,r3⟩ e1 ne2
    have f4:=f6o ⟨r1,r2,r3⟩ e1 ne2
    have f5:=f7f ⟨r1,r2,r3⟩ e1 ne2
    simp only [d4f,List.map_cons,List.map_nil]
    revert hq1 hq2 f3 f4 f5
    generalize a2n o a b=pq
    obtain ⟨p,q⟩:=pq
    intro hq1 hq2 f3 f4 f5
    simp only at hq1 hq2 f3 f4 f5
    have hm1:a9h o q=true:=d2g (by omega) (by omega) (by omega)
    have hg1:=d2q hm1
    simp (maxSteps:=2000000) only [go_sem,hG,hOw,Int.reduceToNat,Int.reduceSub,List.getElem_cons_succ,List.getElem_cons_zero,List.take_succ_cons,List.take_zero]
    refine a0s mixed (by kernel_rfl) ?_
    simp (maxSteps:=2000000) only [go_sem,hG,hOw,Int.reduceToNat,Int.reduceSub,List.getElem_cons_succ,List.getElem_cons_zero,List.take_succ_cons,List.take_zero]
    (repeat' with_reducible first|apply And.intro|refine exP ?_ ?_|intro);all_goals try omega
    ·rename_i k1
     rw [(f3 k1).1,(f3 k1).2]
     exact c1q _ _
    ·rename_i k1
     have hm2:a9h (a3m o q) p=true:=g5o (p:=(p,q)) ⟨hq1.1,hq1.2.1⟩ hm1 (by show p.lo+p.drop < q.lo;omega)
     refine a0s mixed (by kernel_rfl) ?_
     simp (maxSteps:=2000000) only [go_sem,hG,hOw,Int.reduceToNat,Int.reduceSub,List.getElem_cons_succ,List.getElem_cons_zero,List.take_succ_cons,List.take_zero]
     (repeat' with_reducible first|apply And.intro|refine exP ?_ ?_|intro);all_goals try omega
     refine ⟨_,a0f (c7z o q (by omega) (by omega) hm1),?_⟩
     simp (maxSteps:=2000000) only [go_sem,hG,hOw,Int.reduceToNat,Int.reduceSub,List.getElem_cons_succ,List.getElem_cons_zero,List.take_succ_cons,List.take_zero]
     (repeat' with_reducible first|apply And.intro|refine exP ?_ ?_|intro);all_goals try omega
     refine ⟨_,a0f (c7z (a3m o q) p (by omega) (by omega) hm2),?_⟩
     simp only [go_sem,hG,hOw]
     refine a0a (a6v (c5h o (p,q))) ?_
     simp only [go_sem,hG,hOw]
     (repeat' with_reducible first|apply And.intro|refine exP ?_ ?_|intro);all_goals try omega
     ·rename_i k2
      have h4:=f4 k1 (by
       cases h:a1c (c5h o (p,q)) with
       |true=>rw [h] at k2;simp at k2
       |false=>rfl)
      rw [h4.1,h4.2]
      exact c1q _ _
     ·rename_i k2
      have h5:=f5 k1 (by
       cases h:a1c (c5h o (p,q)) with
       |true=>rfl
       |false=>rw [h] at k2;simp at k2)
      exact fin1 h5.1 _ _ h5.2
open Go Pm
theorem c1v (s:ByteArray) (hs:s.size≤100000) (i:Int) (hi:0≤i∧i≤1000):a0l Tryz.prog 67 [.v (.string s),i64 i] (fun _=>.v (.string (f5x s i))):=by
 refine a0b (ow:=fun _=>false) Tryz.func67 Tryz.ntmps67 rfl rfl fun G hG hOw hNm hB=>?_;simp only [go_sem,hG,hOw]
 (repeat' with_reducible first|apply And.intro|refine exP ?_ ?_|intro);all_goals try omega
 refine a0k (fun k:Nat=>St.of [(0,.v (.string s)),(5,i64 (d1g s i k)),(12,i64 s.size),(13,i64 k)] []) (fun k=>k≤s.size) (fun k=>s.size - k) 0 (by simp) (a0y (by (simp only [go_sem])<;>simp) hNm) ?_
 rintro k hk
 have h1:=e3j s i k
 have h3:=g0d s k
 by_cases hlt:k < s.size
 ·have h2:=g1f hlt
  have e1:d1g s i (k+1)=(31 * d1g s i k+byI s k) % 676:=rfl
  refine a0d _ _ _ ?_
  simp (maxSteps:=2000000) only [go_sem,hG,hOw,← h2]
  (repeat' with_reducible first|apply And.intro|refine exP ?_ ?_|intro);all_goals try omega
  refine ⟨k+1,by omega,by omega,?_⟩
  rw [e1]
  exact a0y (by (simp only [go_sem])<;>simp) hNm
 ·obtain rfl:k=s.size:=by omega
  have hf:d3w .i64 (d1g s i s.size / 26):=b0g _ ▸ (by omega)
  refine a0d _ _ _ ?_
  simp only [go_sem,hG,hOw]
  (repeat' with_reducible first|apply And.intro|refine exP ?_ ?_|intro);all_goals try omega
  all_goals first|exact hf|skip
  have hw:∀ x:Int,0≤x∧x < 26→(IntKind.u8.wrap (97+x)).toNat=97+x.toNat:=fun x hx=>by
   have:IntKind.u8.wrap (97+x)=(97+x) % 256:=rfl
   rw [this];omega
  rw [hw _ (by omega),hw _ (by omega)]
  rfl
theorem d8z:∀ l:List UInt8,Lib.indexByte l 10=if ixL l < l.length then (ixL l:Int) else -1
 |[]=>rfl
 |b::r=>by
  have ih:=d8z r
  have hle:=e4i r
  simp only [Lib.indexByte,ixL,ih,List.length_cons]
  by_cases hb:b=10
  ·subst hb;simp
  ·by_cases h:ixL r < r.length
   ·have:¬ (ixL r:Int)=-1:=by omega
    simp [hb,h,this]
   ·simp [hb,h]
def f9i (s:ByteArray):Bool:=decide (ixL s.data.toList < s.data.toList.length)
def f9l (s:ByteArray):ByteArray:=if ixL s.data.toList < s.data.toList.length then s.extract 0 (ixL s.data.toList) else s
def d5y (s:ByteArray):ByteArray:=if ixL s.data.toList < s.data.toList.length then s.extract (ixL s.data.toList+1) s.size else ⟨#[]⟩
theorem c3g (s:ByteArray):a0l Tryz.prog 268 [.v (.string s),.v (.int .u8 10)] (fun _=>i64 (Lib.indexByte s.data.toList 10)):=by
 refine a0b (ow:=fun _=>false) Tryz.func268 Tryz.ntmps268 rfl rfl fun G hG hOw hNm hB=>?_;simp only [go_sem,hG,hOw]
 refine e9v Tryz.func285 (by kernel_rfl) (by kernel_rfl) (by kernel_rfl) (by kernel_rfl) rfl (by rw [hG];decide) s 10 ?_
 simp only [go_sem,hG,hOw]
 rfl
theorem e4p (s:ByteArray):a0l Tryz.prog 239 [.v (.string s),.v (.string ⟨#[10]⟩)] (fun _=>i64 (Lib.indexByte s.data.toList 10)):=by
 refine a0b (ow:=fun _=>false) Tryz.func239 Tryz.ntmps239 rfl rfl fun G hG hOw hNm hB=>?_;simp only [go_sem,hG,hOw]
 (repeat' with_reducible first|apply And.intro|refine exP ?_ ?_|intro);all_goals try omega
 ·rename_i h1 h2
  subst h2
  rfl
 ·refine a0a (c3g s) ?_
  simp only [go_sem,hG,hOw]
 ·rename_i h1 h2 h3 h4
  exact absurd rfl h3
 ·rename_i h1 h2 h3 h4
  exact absurd rfl h3
 ·rename_i h1
  exact absurd h1 (by decide)
theorem f7n (s:ByteArray) (hs:s.size≤100000):a0l Tryz.prog 193 [.v (.string s),.v (.string ⟨#[10]⟩)] (fun _=>.tup [.v (.string (f9l s)),.v (.string (d5y s)),bl (f9i s)]):=by
 refine a0b (ow:=fun _=>false) Tryz.func193 Tryz.ntmps193 rfl rfl fun G hG hOw hNm hB=>?_;simp only [go_sem,hG,hOw]
 refine a0a (e4p s) ?_
 rw [d8z]
 by_cases hi:ixL s.data.toList < s.data.toList.length
 ·rw [if_pos hi]
  have h1:(#[10]:Array UInt8).size=1:=rfl
  have h2:s.data.toList.length=s.size:=by rw [Array.length_toList];rfl
  obtain ⟨k,hk⟩:∃ k,k=ixL s.data.toList:=⟨_,rfl⟩
  simp only [f9l,d5y,f9i,if_pos hi,decide_eq_true hi]
  rw [← hk] at hi ⊢
  simp only [go_sem,hG,hOw]
  (repeat' with_reducible first|apply And.intro|refine exP ?_ ?_|intro);all_goals try omega
  have x1:((k:Int)+1).toNat=k+1:=by omega
  refine a0s mixed (by kernel_rfl) ?_
  simp (maxSteps:=2000000) only [go_sem,hG,hOw,h1,x1,Int.natCast_one]
  (repeat' with_reducible first|apply And.intro|refine exP ?_ ?_|intro);all_goals try omega
 ·rw [if_neg hi]
  simp only [go_sem,hG,hOw]
  (repeat' with_reducible first|apply And.intro|refine exP ?_ ?_|intro);all_goals try omega
  simp only [f9l,d5y,f9i,if_neg hi,decide_eq_false hi]
  exact Sub.refl _
theorem g1z (s:ByteArray) (hs:s.size≤100000):a0l Tryz.prog 139 [.v (.string s),.v (.string ⟨#[10]⟩)] (fun _=>.tup [.v (.string (f9l s)),.v (.string (d5y s)),bl (f9i s)]):=by
 refine a0b (ow:=fun _=>false) Tryz.func139 Tryz.ntmps139 rfl rfl fun G hG hOw hNm hB=>?_;simp only [go_sem,hG,hOw]
 refine a0a (f7n s hs) ?_
 simp only [go_sem,hG,hOw]
open Go Pm
theorem b0k (s:ByteArray) (i:Int):(f5x s i).size=2:=rfl
theorem f8y (x:ByteArray):(⟨#[]⟩:ByteArray)++x=x:=by
 apply ByteArray.ext
 simp [ByteArray.data_append]
def byL (l:List ByteArray) (k:Nat):List UInt8:=(a5g l k).data.toList
theorem d0i (l:List ByteArray) (k:Nat):(byL l k).length=(a5g l k).size:=by unfold byL;rw [Array.length_toList];rfl
theorem f4e (l:List ByteArray) (h:0 < l.length):(c2x l[0] (0:Nat)).data.toList=byL l (0+1):=by
 unfold byL
 rw [a7u l h,d8a,f8y]
theorem f0g (l:List ByteArray) {k:Nat} (h:k < l.length):byL l k++(c2x l[k] k).data.toList=byL l (k+1):=by
 unfold byL
 rw [a7u l h,ByteArray.data_append,Array.toList_append]
def wrF (l:List ByteArray):Nat→St
 |0=>St.of [(5,.ptr 5 0),(13,a0q 0 l),(14,i64 l.length),(15,i64 (0:Nat))] [(5,.obj a6g)]
 |k+1=>St.of [(5,.ptr 5 0),(13,a0q 0 l),(14,i64 l.length),(15,i64 (k+1:Nat))] [(5,.box [.ptr 5 0,.own 9 0 (byL l (k+1)).length 1]),(9,.arr 5 1 ((byL l (k+1)).map a4v))]
theorem d1l (l:List ByteArray):a0l Tryz.prog 14 [a0q 0 l] (fun _=>.tup [.v (.string (wrS l)),i64 (wrE l)]):=by
 refine a0b (ow:=fun _=>false) Tryz.func14 Tryz.ntmps14 rfl rfl fun G hG hOw hNm hB=>?_;simp only [go_sem,hG,hOw]
 refine a0a (a6v l) ?_
 by_cases h':a1c l=true
 ·rw [if_pos h']
  have hln:l.length≤200:=by unfold a1c at h';simp at h';omega
  have hsz:∀ s ∈ l,s.size≤160:=fun s hs=>by
   unfold a1c at h'
   simp only [Bool.and_eq_true,List.all_eq_true] at h'
   exact c3i (h'.1 s hs)
  simp only [go_sem,hG,hOw]
  refine e4g rfl rfl (by rw [hG];decide) (by simp [go_sem]) (by kernel_rfl) ?_
  simp only [go_sem,hG,hOw]
  (repeat' with_reducible first|apply And.intro|refine exP ?_ ?_|intro);all_goals try omega
  refine a0k (wrF l) (fun k=>k≤l.length) (fun k=>l.length - k) 0 (by simp) (by unfold wrF;exact a1m [(5,some 5)] (by (simp only [go_sem])<;>simp [a6g]) (by (simp only [go_sem,a1d,a0r,a0i,a1l])<;>simp [a6g])) ?_
  rintro k hk
  have ho:=b0a hsz k hk
  have step:∀ hkl:k < l.length,(c2x l[k] k).size≤164:=fun hkl=>by
   have:=hsz _ (List.getElem_mem hkl)
   rw [a4i];omega
  rcases k with _|k
  ·unfold wrF
   dsimp only
   refine a0d _ _ _ ?_;simp only [go_sem,hG,hOw]
   (repeat' with_reducible first|apply And.intro|refine exP ?_ ?_|intro);all_goals try omega
   ·rename_i hlt
    have hkl:0 < l.length:=by omega
    have:=step hkl
    rw [a4i] at this
    simp only [List.size_toArray,List.length_cons,List.length_nil]
    omega
   ·rename_i hlt
    have hkl:0 < l.length:=by omega
    have hst:=step hkl
    have hst':=hst
    rw [a4i] at hst'
    refine a0a (c1v l[0] (by omega) 0 (by omega)) ?_
    simp only [go_sem,hG,hOw]
    have hz:(l[0]++⟨#[32]⟩++f5x l[0] 0++⟨#[10]⟩:ByteArray)=c2x l[0] 0:=rfl
    rw [hz]
    (repeat' with_reducible first|apply And.intro|refine exP ?_ ?_|intro);all_goals try omega
    ·rw [b0k];simp only [List.size_toArray,List.length_cons,List.length_nil];omega
    ·rw [b0k];simp only [List.size_toArray,List.length_cons,List.length_nil];omega
    ·have W:=b3p (c2x l[0] (0:Nat)) (by rw [a4i];omega)
     rw [f4e l hkl] at W
     unfold d4e at W
     refine a0c [(0,5)] [(1,27)] (W) ?_
     simp only [go_sem,hG,hOw]
     (repeat' with_reducible first|apply And.intro|refine exP ?_ ?_|intro);all_goals try omega
     refine ⟨1,by omega,by omega,?_⟩
     dsimp only
     exact a1m [(5,some 5),(9,some 27)]
   ·rename_i hge
    have h0:l.length=0:=by omega
    refine a0c [(0,5)] [] (e1v) ?_
    simp only [go_sem,hG,hOw]
    (repeat' with_reducible first|apply And.intro|refine exP ?_ ?_|intro);all_goals try omega
    refine a0c [(0,5)] [] (c4p) ?_
    simp only [go_sem,hG,hOw]
    have hsz0:(a5g l l.length).size≤30000:=by have:=b0a hsz l.length (Nat.le_refl _);omega
    simp only [wrS,wrE,h',if_true,hsz0]
    rw [h0]
    exact Sub.refl _
  ·unfold wrF
   dsimp only
   have hby:∀ x:ByteArray,x.data.toList.length=x.size:=fun x=>by rw [Array.length_toList];rfl
   refine a0d _ _ _ ?_;simp only [go_sem,hG,hOw]
   (repeat' with_reducible first|apply And.intro|refine exP ?_ ?_|intro);all_goals try omega
   ·rename_i hlt
    have hkl:k+1 < l.length:=by omega
    have:=step hkl
    rw [a4i] at this
    simp only [List.size_toArray,List.length_cons,List.length_nil]
    omega
   ·rename_i hlt
    have hkl:k+1 < l.length:=by omega
    have hst:=step hkl
    have hst':=hst
    rw [a4i] at hst'
    refine a0a (c1v l[k+1] (by omega) (k+1:Nat) (by omega)) ?_
    simp only [go_sem,hG,hOw]
    have hz:(l[k+1]++⟨#[32]⟩++f5x l[k+1] (k+1:Nat)++⟨#[10]⟩:ByteArray)=c2x l[k+1] (k+1:Nat):=rfl
    rw [hz]
    (repeat' with_reducible first|apply And.intro|refine exP ?_ ?_|intro);all_goals try omega
    ·rw [b0k];simp only [List.size_toArray,List.length_cons,List.length_nil];omega
    ·rw [b0k];simp only [List.size_toArray,List.length_cons,List.length_nil];omega
    ·have W:=b4x (byL l (k+1)) (c2x l[k+1] (k+1:Nat)) (by rw [d0i,a4i];omega)
     rw [f0g l hkl] at W
     unfold d4e at W
     refine a0c [(0,5),(1,9)] [(2,27)] (W) ?_
     simp only [go_sem,hG,hOw]
     (repeat' with_reducible first|apply And.intro|refine exP ?_ ?_|intro);all_goals try omega
     refine ⟨k+1+1,by omega,by omega,?_⟩
     dsimp only
     exact a1m [(5,some 5),(9,some 27)]
   ·rename_i hge
    have h0:k+1=l.length:=by omega
    have hle:=b0a hsz l.length (Nat.le_refl _)
    have hpos:byL l (k+1)≠[]:=by
     intro h
     have:=d0i l (k+1)
     rw [h,a7u l (by omega),ByteArray.size_append,a4i] at this
     simp at this
    have W1:=f1w (byL l (k+1))
    have W2:=c7h (byL l (k+1)) hpos
    unfold d4e at W1 W2
    have hlen:=d0i l (k+1)
    rw [h0] at hlen
    refine a0c [(0,5),(1,9)] [] (W1) ?_
    simp only [go_sem,hG,hOw]
    (repeat' with_reducible first|apply And.intro|refine exP ?_ ?_|intro);all_goals try omega
    ·rename_i hgt
     rw [h0] at hgt
     have:¬ (a5g l l.length).size≤30000:=by omega
     simp only [wrS,wrE,h',if_true,this,if_false]
     exact Sub.refl _
    ·rename_i hgt
     rw [h0] at hgt
     have:(a5g l l.length).size≤30000:=by omega
     refine a0c [(0,5),(1,9)] [] (W2) ?_
     simp only [go_sem,hG,hOw]
     simp only [wrS,wrE,h',if_true,this]
     rw [h0,show (⟨(byL l l.length).toArray⟩:ByteArray)=a5g l l.length by unfold byL;rw [Array.toArray_toList]]
     exact Sub.refl _
 ·rw [if_neg h']
  simp only [go_sem,hG,hOw]
  (repeat' with_reducible first|apply And.intro|refine exP ?_ ?_|intro);all_goals try omega
  simp only [wrS,wrE,if_neg h']
  exact .refl _
open Go Pm
theorem f6v (s:ByteArray):s.extract 0 s.size=s:=by simp
theorem b0w (s:ByteArray) (a b:Nat):(s.extract a b).data.toList=(s.data.toList.drop a).take (b - a):=by
 rw [ByteArray.data_extract,Array.toList_extract,List.extract_eq_take_drop]
theorem c8d {x y:ByteArray} (h:x.data.toList=y.data.toList):x=y:=ByteArray.ext (Array.ext' h)
theorem c8f (s:ByteArray) (a b i j:Nat) (hj:a+j≤b):(s.extract a b).extract i j=s.extract (a+i) (a+j):=by
 apply c8d
 rw [b0w,b0w,b0w,List.drop_take,List.drop_drop,List.take_take]
 congr 1
 omega
theorem d1p (s:ByteArray) {a n:Nat} (h1:a≤n) (h:n < s.size):s.extract a (n+1)=s.extract a n++⟨#[s[n]]⟩:=by
 have h2:s.data.toList.length=s.size:=by rw [Array.length_toList];rfl
 apply c8d
 rw [ByteArray.data_append,Array.toList_append,b0w,b0w,show n+1 - a=(n - a)+1 by omega,List.take_add_one,List.getElem?_drop,show a+(n - a)=n by omega,List.getElem?_eq_getElem (by omega)]
 rfl
theorem f4p {x y z:ByteArray} (h:x++z=y++z):x=y:=by
 have h1:=congrArg (fun b:ByteArray=>b.data.toList) h
 simp only [ByteArray.data_append,Array.toList_append] at h1
 exact c8d (List.append_cancel_right h1)
theorem d7z (s:ByteArray) {a:Nat} (ha:a≤s.size):f9i (s.extract a s.size)=decide (nlS s a < s.size)∧(nlS s a < s.size→f9l (s.extract a s.size)=s.extract a (nlS s a)∧d5y (s.extract a s.size)=s.extract (nlS s a+1) s.size):=by
 have h2:s.data.toList.length=s.size:=by rw [Array.length_toList];rfl
 have hl:=d7l ha
 have e1:(s.extract a s.size).data.toList=s.data.toList.drop a:=by rw [b0w,List.take_of_length_le (by rw [List.length_drop];omega)]
 have e2:ixL (s.data.toList.drop a)=nlS s a - a:=by unfold nlS;omega
 have e3:(s.extract a s.size).size=s.size - a:=b5b _ (Nat.le_refl _)
 unfold f9i f9l d5y
 rw [e1,e2,List.length_drop,h2]
 refine ⟨by rw [decide_eq_decide];omega,fun h=>?_⟩
 rw [if_pos (by omega),if_pos (by omega),e3]
 exact ⟨by rw [c8f _ _ _ _ _ (by omega),Nat.add_zero,show a+(nlS s a - a)=nlS s a by omega],by rw [c8f _ _ _ _ _ (by omega)];congr 1<;>omega⟩
theorem f8o (s:ByteArray):Tri Tryz.prog 70 [.v (.string s)] [] (fun _=>.ret (.fn (.func 138) [.ptr 0 0]) [(0,.box [.v (.string s)])]):=by
 refine a0e (fun _=>false) Tryz.func70 Tryz.ntmps70 rfl rfl fun G hG hOw hNm=>?_;simp only [go_sem,hG,hOw]
 exact (a2o [(0,some 1)])
theorem e0f (s:ByteArray):a0l Tryz.prog 15 [.v (.string s)] (fun n=>.tup [a0q n (rdL s),i64 (rdN s),i64 (c9s s)]):=by
 refine a8j (ow:=fun _=>false) Tryz.func15 Tryz.ntmps15 rfl (by kernel_rfl) (by simp) rfl (by decide) fun G hG hOw hNm hrd hB=>?_;simp only [go_sem,hG,hOw]
 (repeat' with_reducible first|apply And.intro|refine exP ?_ ?_|intro);all_goals try omega
 ·rename_i h
  have:¬ s.size≤30000:=by omega
  simp only [rdL,rdN,c9s,this,if_false]
  exact Subs.tup (.cons (.nil _ _) (.cons (.refl _) (.cons (.refl _) .nil)))
 ·rename_i h
  have hsz:s.size≤30000:=by omega
  simp only [rdL,rdN,c9s,hsz,if_true]
  obtain ⟨R,hR⟩:∃ R,R=b3v s 200 0 []:=⟨_,rfl⟩
  rw [← hR]
  refine a0c [] [(0,10)] (f8o s) ?_
  simp only [go_sem,hG,hOw]
  show SemC _ _ _ _ _
  refine a2h (fun _:Unit=>St.of [(2,.ptr 2 0),(3,.ptr 3 0)] [(2,.box [.own 9 0 R.1.length 1]),(9,.arr 9 1 (R.1.map a2c)),(3,.box [i64 R.2])]) (fun _=>True) ?_ ?_
  ·refine a4m (s':=St.of [(2,.ptr 2 0),(3,.ptr 3 0),(11,.fn (.func 138) [.ptr 10 0])] [(2,.box [.own 9 0 0 1]),(9,.arr 9 1 []),(3,.box [i64 (0:Nat)]),(10,.box [.v (.string (s.extract 0 s.size))])]) (by rw [f6v];exact a1m [(2,some 2),(3,some 3),(10,some 10),(9,none)]) ?_
   refine b8f [(5,12),(6,13)] [2,3,10] 99 (fun _=>false) hrd rfl Tryz.func138 Tryz.ntmps138 rfl (by kernel_rfl) rfl (by simp) (by rw [hG];decide) rfl (by rw [hNm];simp [a0x]) (by simp only [List.all_cons,List.all_nil];rfl) rfl rfl (by rw [hG];decide) fun G1 l L k1 k2 k3 k4 k5 hY=>?_
   have hG0:=hG
   have hNm0:=hNm
   have hOw0:=hOw
   have hG:=k1
   have hOw:=k2
   have hNm:=k3
   simp only [go_sem,hG,hOw]
   refine a0k (fun x:List ByteArray×Nat=>St.of [(0,.v (.func (.yield l) #[] #[])),(1,.ptr 10 0),(8,i64 x.1.length)] [(99,.obj (.loop (Lp L none))),(2,.box [.own 9 0 x.1.length 1]),(9,.arr 9 1 (x.1.map a2c)),(3,.box [i64 x.2]),(10,.box [.v (.string (s.extract x.2 s.size))])]) (fun x=>x.1.length≤200∧x.2≤s.size∧b3v s (200 - x.1.length) x.2 x.1=R) (fun x=>200 - x.1.length) ([],0) ⟨by simp,by simp,hR.symm⟩ (a1m [(99,some 99),(2,some 2),(9,some 9),(3,some 3),(10,some 10)]) ?_
   rintro ⟨out,a⟩ ⟨hl,ha,hr⟩
   dsimp only at hl ha hr ⊢
   obtain ⟨T,hT⟩:∃ T,T=s.extract a s.size:=⟨_,rfl⟩
   rw [← hT]
   have hTs:T.size=s.size - a:=by rw [hT,b5b _ (Nat.le_refl _)]
   have hle:=d7l ha
   obtain ⟨c1,c2⟩:=d7z s ha
   rw [← hT] at c1 c2
   obtain ⟨e,he⟩:∃ e,e=nlS s a:=⟨_,rfl⟩
   have bad:¬ (e < s.size∧a+4≤e)→b4q s a out.length=false:=fun h=>by
    unfold b4q
    rw [← he,decide_eq_false h,Bool.false_and]
   refine a0d _ _ _ ?_;simp only [go_sem,hG,hOw]
   (repeat' with_reducible first|apply And.intro|refine exP ?_ ?_|intro);all_goals try omega
   ·rename_i hlt
    have hlt':out.length < 200:=by omega
    refine a0a (g1z T (by omega)) ?_
    by_cases hn:e < s.size
    ·obtain ⟨c3,c4⟩:=c2 (by omega)
     rw [c1,c3,c4,← he,decide_eq_true hn]
     have hc:s[e]=10:=by have:=f2m (s:=s) _ (a:=a) rfl (by omega);simp only [← he] at this;exact this
     obtain ⟨ln,hln⟩:∃ ln,ln=s.extract a e:=⟨_,rfl⟩
     rw [← hln]
     have hls:ln.size=e - a:=by rw [hln];exact b5b _ (by omega)
     simp only [go_sem,hG,hOw]
     (repeat' with_reducible first|apply And.intro|refine exP ?_ ?_|intro);all_goals try omega
     ·rename_i h4
      rw [b0h (bad (by omega))] at hr
      subst hr
      refine ⟨none,by simp [go_sem],?_⟩
      have hNm:=hNm0
      simp (maxSteps:=2000000) only [go_sem,hG,hOw,hG0]
      exact ⟨(),a1m [(2,some 2),(9,some 9),(3,some 3)]⟩
     ·rename_i h4
      obtain ⟨r,hrr⟩:∃ r,r=s.extract a (e - 3):=⟨_,rfl⟩
      have hlr:ln.extract 0 ((ln.size:Int) - 3).toNat=r:=by
       rw [hln,c8f _ _ _ _ _ (by rw [← hln];omega),← hln,hrr];congr 1;omega
      have hrs:r.size=e - 3 - a:=by rw [hrr];exact b5b _ (by omega)
      rw [hlr]
      have hg:b4q s a out.length=(b4y r && decide (c2x r out.length=s.extract a (e+1))):=by
       simp only [b4q,← he,← hrr]
       rw [decide_eq_true (by omega),Bool.true_and]
      refine a0a (f3c r) ?_
      simp only [go_sem,hG,hOw]
      have hone:(#[32]:Array UInt8).size=1:=rfl
      refine ⟨fun g1=>⟨by rw [hone];omega,?_⟩,fun g1=>?_⟩
      ·refine a0a (c1v r (by omega) out.length (by omega)) ?_
       simp only [go_sem,hG,hOw]
       refine ⟨by rw [hone,b0k];omega,fun g2=>?_,fun g2=>?_⟩
       ·have hgd:b4q s a out.length=true:=by
         rw [hg,g1,Bool.true_and,decide_eq_true_eq,d1p s (by omega) hn,← hln,hc,g2]
         rfl
        refine ⟨by omega,hY [99,2,3,10] _ _ _ _ _ (by simp [go_sem]) rfl (by simp [chk,k1]) (by rw [k3];simp) (by intro id hid;left;rw [k3];exact hid) fun G2 m1 m2 m3 m4 m5=>?_⟩
        have hG2:=m1.trans hG0
        have hOw2:=m2.trans hOw0
        refine a0d _ _ _ ?_
        simp (maxSteps:=2000000) only [go_sem,hG,hOw,hG2,hOw2]
        (repeat' with_reducible first|apply And.intro|refine exP ?_ ?_|intro);all_goals try omega
        have hz:(a:Int)+((ln.size:Int)+1)=((e+1:Nat):Int):=by omega
        rw [hz]
        refine ⟨(out++[r],e+1),⟨by simp;omega,by dsimp only;omega,?_⟩,by simp;omega,?_⟩
        ·dsimp only
         rw [List.length_append,List.length_singleton]
         rw [show 200 - out.length=(200 - (out.length+1))+1 by omega,b8x hgd,← he,← hrr] at hr
         exact hr
        ·dsimp only
         rw [List.map_append,List.length_append,List.length_singleton]
         have hz1:((out.length+1:Nat):Int)=(out.length:Int)+1:=by omega
         rw [hz1]
         exact a1m [(99,some 99),(2,some 2),(9,some 17),(3,some 3),(10,some 10)]
       ·have hb:b4q s a out.length=false:=by
         rw [hg,g1,Bool.true_and,decide_eq_false_iff_not,d1p s (by omega) hn,← hln,hc]
         exact fun h=>g2 (f4p h).symm
        rw [b0h hb] at hr
        subst hr
        refine ⟨none,by simp [go_sem],?_⟩
        have hNm:=hNm0
        simp (maxSteps:=2000000) only [go_sem,hG,hOw,hG0]
        exact ⟨(),a1m [(2,some 2),(9,some 9),(3,some 3)]⟩
      ·rw [b0h (by rw [hg,g1];rfl)] at hr
       subst hr
       refine ⟨none,by simp [go_sem],?_⟩
       have hNm:=hNm0
       simp (maxSteps:=2000000) only [go_sem,hG,hOw,hG0]
       exact ⟨(),a1m [(2,some 2),(9,some 9),(3,some 3)]⟩
    ·rw [c1,← he,decide_eq_false hn]
     simp only [go_sem,hG,hOw]
     rw [b0h (bad (by omega))] at hr
     subst hr
     refine ⟨none,by simp [go_sem],?_⟩
     have hNm:=hNm0
     simp (maxSteps:=2000000) only [go_sem,hG,hOw,hG0]
     exact ⟨(),a1m [(2,some 2),(9,some 9),(3,some 3)]⟩
   ·rename_i hge
    have e:200 - out.length=0:=by omega
    rw [e,d6f] at hr
    subst hr
    refine ⟨none,by simp [go_sem],?_⟩
    have hNm:=hNm0
    simp (maxSteps:=2000000) only [go_sem,hG,hOw,hG0]
    exact ⟨(),a1m [(2,some 2),(9,some 9),(3,some 3)]⟩
  ·rintro ⟨⟩ -
   simp only [go_sem,hG,hOw]
   refine a5q [(21,[2]),(22,[3]),(2,[2]),(3,[3])] mixed (by kernel_rfl) ?_
   simp only [go_sem,hG,hOw]
end Go.Proofs.YtmjhfccbbfpppaaGreatDoor
