import Derived.Test.YtmjhfccbbfpppaaGreatDoorQA08
import Derived.Test.YtmjhfccbbfpppaaGreatDoorQA11
import Derived.Test.YtmjhfccbbfpppaaGreatDoorQA16
import Derived.Test.YtmjhfccbbfpppaaGreatDoorQA17
import Derived.Test.YtmjhfccbbfpppaaGreatDoorQA19
import Derived.Test.YtmjhfccbbfpppaaGreatDoorQA22
namespace Go.Proofs.YtmjhfccbbfpppaaGreatDoor
open Go Pm
set_option linter.unusedSimpArgs false
set_option linter.unusedVariables false
set_option maxHeartbeats 1000000
theorem a8c (l m:List ByteArray):a0l Tryz.prog 26 [a0o 0 l,a0o 0 m] (fun _=>bl (decide (l=m))):=by
 refine a0b (ow:=fun _=>false) Tryz.func26 Tryz.ntmps26 rfl rfl fun G hG hOw hNm hB=>?_;simp only [go_sem,hG,hOw]
 have hl:=b6a (lo:=0) (l:=l) hB (by simp)
 refine ⟨fun h=>?_,fun h=>?_⟩
 ·rw [decide_eq_false]
  rintro rfl
  simp at h
 have hlen:l.length=m.length:=by omega
 refine a0i (fun k:Nat=>St.of [(0,a0o 0 l),(1,a0o 0 m),(5,i64 k)] []) (fun k=>k≤l.length∧l.take k=m.take k) (fun k=>l.length - k) 0 (by simp) (a1e (by (simp only [go_sem])<;>simp) hNm) ?_
 rintro k ⟨hk,hall⟩
 refine a0d _ _ _ ?_;simp only [go_sem,hG,hOw]
 refine ⟨fun hlt=>?_,fun hge=>?_⟩
 ·refine a0r mixed (by kernel_rfl) ?_
  simp only [go_sem,hG,hOw]
  refine ⟨by omega,by omega,fun h1=>?_,fun h1=>⟨(by first|omega|(simp;omega)),k+1,⟨by omega,?_⟩,by omega,a1e (by (simp only [go_sem])<;>simp) hNm⟩⟩
  ·rw [decide_eq_false]
   rintro rfl
   simp at h1
  ·have e:l[k]=m[k]:=by simpa using h1
   rw [List.take_add_one,List.take_add_one,hall,List.getElem?_eq_getElem (by omega),List.getElem?_eq_getElem (by omega),e]
 ·rw [a1t hk hge,a1t (by omega) (by omega)] at hall
  rw [hall];simp
open Go Pm
set_option maxHeartbeats 4000000
set_option maxRecDepth 100000
def byI (s:ByteArray) (k:Nat):Int:=if h:k < s.size then (s[k]'h).toNat else 0
theorem g0j {s:ByteArray} {k:Nat} (h:k < s.size):byI s k=((s[k]'h).toNat:Int):=by simp [byI,h]
theorem f7u (s:ByteArray) (k:Nat):0≤byI s k∧byI s k≤255:=by
 unfold byI
 split
 ·rename_i h
  have:=(s[k]'h).toNat_lt
  omega
 ·omega
def d1l (s:ByteArray) (i:Int):Nat→Int
 |0=>(17 * i+5) % 676
 |k+1=>(31 * d1l s i k+byI s k) % 676
theorem f5m (s:ByteArray) (i:Int) (k:Nat):0≤d1l s i k∧d1l s i k < 676:=by
 cases k with
 |zero=>simp only [d1l];omega
 |succ k=>simp only [d1l];omega
theorem d7s (s:ByteArray) (i:Int):d1l s i 0=(17 * i+5) % 676:=rfl
attribute [go_sem] d7s
def f6v (s:ByteArray) (i:Int):ByteArray:=⟨#[UInt8.ofNat (97+(d1l s i s.size / 26).toNat),UInt8.ofNat (97+(d1l s i s.size % 26).toNat)]⟩
def d5f (s:ByteArray) (i:Int):ByteArray:=s++⟨#[32]⟩++f6v s i++⟨#[10]⟩
theorem a5d (s:ByteArray) (i:Int):(d5f s i).size=s.size+4:=by
 unfold d5f f6v
 simp only [ByteArray.size_append]
 rfl
def c4n (l:List ByteArray):Nat→ByteArray
 |0=>⟨#[]⟩
 |k+1=>match l[k]? with
  |some s=>c4n l k++d5f s k
  |none=>c4n l k
theorem e1p (l:List ByteArray):c4n l 0=⟨#[]⟩:=rfl
theorem b1k (l:List ByteArray) {k:Nat} (h:k < l.length):c4n l (k+1)=c4n l k++d5f l[k] k:=by
 simp [c4n,h]
theorem d6o {s:ByteArray} (h:c1c s=true):s.size≤160:=by
 unfold c1c at h
 simp at h
 omega
theorem b1v {l:List ByteArray} (h:∀ s ∈ l,s.size≤160):∀ k,k≤l.length→(c4n l k).size≤164 * k
 |0,_=>by simp [c4n,ByteArray.size]
 |k+1,hk=>by
  rw [b1k l (by omega),ByteArray.size_append,a5d]
  have:=b1v h k (by omega)
  have:=h _ (List.getElem_mem (show k < l.length by omega))
  omega
def wrS (l:List ByteArray):ByteArray:=if a1d l=true then (if (c4n l l.length).size≤30000 then c4n l l.length else ⟨#[]⟩) else ⟨#[]⟩
def wrE (l:List ByteArray):Int:=if a1d l=true then (if (c4n l l.length).size≤30000 then 0 else 9) else 110
open Go Pm
set_option maxHeartbeats 4000000
set_option maxRecDepth 100000
def ixL:List UInt8→Nat
 |[]=>0
 |b::r=>if b=10 then 0 else ixL r+1
def nlS (s:ByteArray) (a:Nat):Nat:=a+ixL (s.data.toList.drop a)
theorem d8n:∀ l,ixL l≤l.length
 |[]=>Nat.le_refl _
 |b::r=>by
  unfold ixL
  have:=d8n r
  split<;>simp<;>omega
theorem e3v {s:ByteArray} {a:Nat} (h:a≤s.size):a≤nlS s a∧nlS s a≤s.size:=by
 unfold nlS
 have:=d8n (s.data.toList.drop a)
 rw [List.length_drop] at this
 have h2:s.data.toList.length=s.size:=by rw [Array.length_toList];rfl
 omega
theorem c2v (s:ByteArray) {a:Nat} (h:a < s.size):s.data.toList.drop a=s[a]::s.data.toList.drop (a+1):=by
 have h2:s.data.toList.length=s.size:=by rw [Array.length_toList];rfl
 rw [List.drop_eq_getElem_cons (by omega)]
 rfl
theorem f0s {s:ByteArray} {a:Nat} (h:a < s.size) (hb:s[a]≠10):nlS s (a+1)=nlS s a:=by
 unfold nlS
 rw [c2v s h]
 simp only [ixL,if_neg hb]
 omega
theorem g0p {s:ByteArray} {a:Nat} (h:a < s.size) (hb:s[a]=10):nlS s a=a:=by
 unfold nlS
 rw [c2v s h]
 simp only [ixL,if_pos hb]
 omega
theorem f2a {s:ByteArray}:∀ (n:Nat) {a:Nat},s.size - a=n→(h:nlS s a < s.size)→s[nlS s a]=10
 |0,a,hn,h=>by
  have:=e3v (s:=s) (a:=a)
  unfold nlS at h
  omega
 |n+1,a,hn,h=>by
  by_cases hb:s[a]'(by omega)=10
  ·have:=g0p (by omega) hb
   simp only [this]
   exact hb
  ·have:=f0s (s:=s) (a:=a) (by omega) hb
   have ih:=f2a (s:=s) n (a:=a+1) (by omega) (by omega)
   simp only [this] at ih
   exact ih
def c1l (s:ByteArray) (a i:Nat):Bool:=decide (nlS s a < s.size∧a+4≤nlS s a) && (c1c (s.extract a (nlS s a - 3)) && decide (d5f (s.extract a (nlS s a - 3)) i=s.extract a (nlS s a+1)))
def b6j (s:ByteArray):Nat→Nat→List ByteArray→List ByteArray×Nat
 |0,a,out=>(out,a)
 |n+1,a,out=>if c1l s a out.length=true then b6j s n (nlS s a+1) (out++[s.extract a (nlS s a - 3)]) else (out,a)
theorem d2m (s:ByteArray) (a:Nat) (out:List ByteArray):b6j s 0 a out=(out,a):=rfl
theorem b1j {s:ByteArray} {n a:Nat} {out:List ByteArray} (h:c1l s a out.length=false):b6j s n a out=(out,a):=by
 cases n with
 |zero=>rfl
 |succ n=>simp [b6j,h]
theorem d2q {s:ByteArray} {n a:Nat} {out:List ByteArray} (h:c1l s a out.length=true):b6j s (n+1) a out=b6j s n (nlS s a+1) (out++[s.extract a (nlS s a - 3)]):=by
 simp [b6j,h]
def rdL (s:ByteArray):List ByteArray:=if s.size≤30000 then (b6j s 200 0 []).1 else []
def rdN (s:ByteArray):Int:=if s.size≤30000 then ((b6j s 200 0 []).2:Nat) else 0
def e4m (s:ByteArray):Int:=if s.size≤30000 then 0 else 9
theorem b4p (s:ByteArray) {a b:Nat} (h:b≤s.size):(s.extract a b).size=b - a:=by
 rw [ByteArray.size_extract];omega
open Go Pm
set_option maxHeartbeats 4000000
set_option maxRecDepth 100000
theorem c0c (n:Nat) (e:Int):Pm.Sub (.tup [.v (.slice none 0 0),.v (.int .i64 e)]) (.tup [.lst n 1 (List.map a1z []),.v (.int .i64 e)]):=Subs.tup (.cons (.nil _ _) (.cons (.refl _) .nil))
theorem c0s (l m:List ByteArray):a0l Tryz.prog 110 [a0o 0 l,a0o 0 m] (fun _=>bl (decide (l=m))):=by
 refine a0b (ow:=fun _=>false) Tryz.func110 Tryz.ntmps110 rfl rfl fun G hG hOw hNm hB=>?_;simp only [go_sem,hG,hOw]
 have hl:=b6a (lo:=0) (l:=l) hB (by simp)
 refine ⟨fun h=>?_,fun h=>?_⟩
 ·rw [decide_eq_false]
  rintro rfl
  simp at h
 have hlen:l.length=m.length:=by omega
 refine a0i (fun k:Nat=>St.of [(0,a0o 0 l),(1,a0o 0 m),(12,i64 l.length),(13,i64 k)] []) (fun k=>k≤l.length∧l.take k=m.take k) (fun k=>l.length - k) 0 (by simp) (a1e (by (simp only [go_sem])<;>simp) hNm) ?_
 rintro k ⟨hk,hall⟩
 refine a0d _ _ _ ?_;simp only [go_sem,hG,hOw]
 refine ⟨fun hlt=>?_,fun hge=>?_⟩
 ·refine a0r mixed (by kernel_rfl) ?_
  simp only [go_sem,hG,hOw]
  refine ⟨by omega,by omega,fun h1=>?_,fun h1=>⟨(by first|omega|(simp;omega)),k+1,⟨by omega,?_⟩,by omega,a1e (by (simp only [go_sem])<;>simp) hNm⟩⟩
  ·rw [decide_eq_false]
   rintro rfl
   simp at h1
  ·have e:l[k]=m[k]:=by simpa using h1
   rw [List.take_add_one,List.take_add_one,hall,List.getElem?_eq_getElem (by omega),List.getElem?_eq_getElem (by omega),e]
 ·rw [a1t hk hge,a1t (by omega) (by omega)] at hall
  rw [hall];simp
theorem e0p (x y:Hk) (hx:0≤x.lo∧x.lo≤1000) (hy:0≤y.lo∧y.lo≤1000):a0l Tryz.prog 113 [.agg (hkE 0 x),.agg (hkE 0 y)] (fun _=>i64 (x.lo - y.lo)):=by
 refine a0b (ow:=fun _=>false) Tryz.func113 Tryz.ntmps113 rfl rfl fun G hG hOw hNm hB=>?_;simp only [go_sem,hG,hOw]
 (repeat' with_reducible first|refine And.intro ?_ ?_|intro _|refine exP ?_ ?_);all_goals try omega
theorem c3e (a:Nat) (x y:Hk) (hx:0≤x.lo∧x.lo≤1000) (hy:0≤y.lo∧y.lo≤1000) :
  Tri Tryz.prog 208 [.own 0 0 2 3,i64 0,i64 2,.fn (.func 113) []] [(0,.arr 77 3 [hkE a x,hkE a y])]
   (fun _=>.ret (.tup []) [(0,.arr 77 3 ((srt x y).map (hkE a)))]):=by
 refine a0k (fun _=>false) Tryz.func208 Tryz.ntmps208 rfl rfl fun G hG hOw hNm=>?_;simp only [go_sem,hG,hOw]
 (repeat' with_reducible first|refine And.intro ?_ ?_|intro _|refine exP ?_ ?_);all_goals try omega
 refine a0i (fun b:Bool=>St.of [(0,.own 0 0 2 3),(1,i64 0),(2,i64 2),(3,.fn (.func 113) []),(8,i64 (if b=true then 1 else 2))] [(0,.arr 77 3 (if b=true then [hkE a x,hkE a y] else (srt x y).map (hkE a)))]) (fun _=>True) (fun b=>if b=true then 1 else 0) true trivial (a1m [(0,some 0)]) ?_
 rintro b -
 cases b
 ·refine a0d _ _ _ ?_;simp only [go_sem,hG,hOw]
  (repeat' with_reducible first|refine And.intro ?_ ?_|intro _|refine exP ?_ ?_);all_goals try omega
  exact (a3t [(0,some 0)])
 ·refine a0d _ _ _ ?_;simp only [go_sem,hG,hOw]
  (repeat' with_reducible first|refine And.intro ?_ ?_|intro _|refine exP ?_ ?_);all_goals try omega
  refine a0i (fun c:Bool=>St.of [(0,.own 0 0 2 3),(1,i64 0),(2,i64 2),(3,.fn (.func 113) []),(8,i64 1),(9,i64 (if c=true then 1 else 0))] [(0,.arr 77 3 (if c=true then [hkE a x,hkE a y] else [hkE a y,hkE a x]))]) (fun c=>c=false→y.lo < x.lo) (fun c=>if c=true then 1 else 0) true (by simp) (a1m [(0,some 0)]) ?_
  rintro c hc
  cases c
  ·have hc':=hc rfl
   refine a0d _ _ _ ?_;simp only [go_sem,hG,hOw]
   refine a0r mixed (by kernel_rfl) ?_
   simp only [go_sem,hG,hOw]
   (repeat' with_reducible first|refine And.intro ?_ ?_|intro _|refine exP ?_ ?_);all_goals try omega
   exact ⟨false,by simp,a1m [(0,some 0)] (by (simp only [go_sem])<;>simp [srt,hc',hkE,i64,a0o]) (by (simp only [go_sem,a1k,a0s,a0j,a1q])<;>simp [srt,hc',hkE,i64,a0o])⟩
  ·refine a0d _ _ _ ?_;simp only [go_sem,hG,hOw]
   refine a0r mixed (by kernel_rfl) ?_
   simp (maxSteps:=2000000) only [go_sem,hG,hOw,Int.reduceToNat,Int.reduceSub,List.getElem_cons_succ,List.getElem_cons_zero,List.take_succ_cons,List.take_zero]
   (repeat' with_reducible first|refine And.intro ?_ ?_|intro _|refine exP ?_ ?_);all_goals try omega
   refine ⟨_,a0e (e0p y x hy hx),?_⟩
   simp only [go_sem,hG,hOw]
   (repeat' with_reducible first|refine And.intro ?_ ?_|intro _|refine exP ?_ ?_);all_goals try omega
   ·rename_i hlt
    refine a9s [(46,[0]),(50,[0]),(51,[0]),(52,[0])] mixed (by kernel_rfl) ?_
    simp (maxSteps:=2000000) only [go_sem,hG,hOw,Int.reduceToNat,Int.reduceSub,List.getElem_cons_succ,List.getElem_cons_zero,List.take_succ_cons,List.take_zero,a4m,List.set_cons_zero,List.set_cons_succ]
    (repeat' with_reducible first|refine And.intro ?_ ?_|intro _|refine exP ?_ ?_);all_goals try omega
    exact ⟨false,by simp;omega,by simp,a1m [(0,some 0)]⟩
   ·rename_i hlt
    have hc':¬ y.lo < x.lo:=by omega
    exact ⟨false,by simp,a1m [(0,some 0)] (by (simp only [go_sem])<;>simp [srt,hc',hkE,i64,a0o]) (by (simp only [go_sem,a1k,a0s,a0j,a1q])<;>simp [srt,hc',hkE,i64,a0o])⟩
theorem f8m (a:Nat) (k:Int) (x y:Hk) (hx:0≤x.lo∧x.lo≤1000) (hy:0≤y.lo∧y.lo≤1000) :
  Tri Tryz.prog 168 [.own 0 0 2 3,i64 0,i64 2,i64 k,.fn (.func 113) []] [(0,.arr 77 3 [hkE a x,hkE a y])]
   (fun _=>.ret (.tup []) [(0,.arr 77 3 ((srt x y).map (hkE a)))]):=by
 refine a0k (fun _=>false) Tryz.func168 Tryz.ntmps168 rfl rfl fun G hG hOw hNm=>?_;simp only [go_sem,hG,hOw]
 refine a0i (fun _:Unit=>St.of [(0,.own 0 0 2 3),(1,i64 0),(2,i64 2),(4,.fn (.func 113) [])] [(0,.arr 77 3 [hkE a x,hkE a y])]) (fun _=>True) (fun _=>0) () trivial (a1m [(0,some 0)]) ?_
 rintro ⟨⟩ -
 refine a0d _ _ _ ?_;simp only [go_sem,hG,hOw]
 (repeat' with_reducible first|refine And.intro ?_ ?_|intro _|refine exP ?_ ?_);all_goals try omega
 refine a0c [(0,0)] [] (c3e a x y hx hy) ?_
 simp only [go_sem,hG,hOw]
 (repeat' with_reducible first|refine And.intro ?_ ?_|intro _|refine exP ?_ ?_);all_goals try omega
 exact (a3t [(0,some 0)])
theorem e8o:a0l Tryz.prog 217 [.v (.int .u64 2)] (fun _=>i64 2):=by
 refine a0b (ow:=fun _=>false) Tryz.func217 Tryz.ntmps217 rfl rfl fun G hG hOw hNm hB=>?_;simp only [go_sem,hG,hOw]
 (repeat' with_reducible first|refine And.intro ?_ ?_|intro _|refine exP ?_ ?_);all_goals try omega
 all_goals decide +kernel
theorem f9v:a0l Tryz.prog 169 [.v (.int .u64 2)] (fun _=>i64 2):=by
 refine a0b (ow:=fun _=>false) Tryz.func169 Tryz.ntmps169 rfl rfl fun G hG hOw hNm hB=>?_;simp only [go_sem,hG,hOw]
 refine a0a e8o ?_
 simp only [go_sem,hG,hOw]
theorem c9i (a:Nat) (x y:Hk) (hx:0≤x.lo∧x.lo≤1000) (hy:0≤y.lo∧y.lo≤1000) :
  Tri Tryz.prog 112 [.own 0 0 2 3,.fn (.func 113) []] [(0,.arr 77 3 [hkE a x,hkE a y])]
   (fun _=>.ret (.tup []) [(0,.arr 77 3 ((srt x y).map (hkE a)))]):=by
 refine a0k (fun _=>false) Tryz.func112 Tryz.ntmps112 rfl rfl fun G hG hOw hNm=>?_;simp only [go_sem,hG,hOw]
 (repeat' with_reducible first|refine And.intro ?_ ?_|intro _|refine exP ?_ ?_);all_goals try omega
 simp only [show IntKind.u64.wrap 2=2 from by decide]
 refine a0a f9v ?_
 simp only [go_sem,hG,hOw]
 refine a0c [(0,0)] [] (f8m a 2 x y hx hy) ?_
 simp only [go_sem,hG,hOw]
 (repeat' with_reducible first|refine And.intro ?_ ?_|intro _|refine exP ?_ ?_);all_goals try omega
 exact (a3t [(0,some 0)])
open Go Pm
set_option maxHeartbeats 4000000
set_option maxRecDepth 100000
theorem e6l (o a b:List ByteArray) (ho:o.length≤1000) (ha:a.length≤1000) (hb:b.length≤1000) :
  a0l Tryz.prog 37 [a0o 0 o,a0o 0 a,a0o 0 b] (fun n=>.tup [a0o n (a5f o a b),i64 (a3h o a b)]):=by
 refine a0b (ow:=fun i=>[46].contains i) Tryz.func37 Tryz.ntmps37 rfl rfl fun G hG hOw hNm hB=>?_;simp only [go_sem,hG,hOw]
 have bad:∀ n,¬ (a1d o=true∧a1d a=true∧a1d b=true)→Pm.Sub (V.tup [V.v (Value.slice none 0 0),V.v (Value.int IntKind.i64 110)]) (V.tup [V.lst n 1 (List.map a1z (a5f o a b)),V.v (Value.int IntKind.i64 (a3h o a b))]):=fun n h=>by
  rw [(c4x h).1,(c4x h).2];exact c0c _ _
 obtain ⟨ls,hls⟩:∃ ls,ls=[o,a,b]:=⟨_,rfl⟩
 have hln:ls.length=3:=by rw [hls];rfl
 have hal:ls.all a1d=true↔a1d o=true∧a1d a=true∧a1d b=true:=by rw [hls];simp
 refine a2z (fun _:Unit=>St.of [(0,a0o 0 o),(1,a0o 0 a),(2,a0o 0 b)] []) (fun _=>a1d o=true∧a1d a=true∧a1d b=true) ?_ ?_
 ·refine a0i (fun k:Nat=>St.of [(0,a0o 0 o),(1,a0o 0 a),(2,a0o 0 b),(15,.lst G.lo 1 (ls.map (d5n 0))),(16,i64 3),(17,i64 k)] []) (fun k=>k≤3∧(ls.take k).all a1d=true) (fun k=>3 - k) 0 (by simp) (a1m [] (by (simp only [go_sem])<;>simp [d5n,hls,a0o]) (by (simp only [go_sem,a1k,a0s,a0j,a1q])<;>simp [d5n,hls,a0o])) ?_
  rintro k ⟨hk,hall⟩
  refine a0d _ _ _ ?_;simp only [go_sem,hG,hOw]
  (repeat' with_reducible first|refine And.intro ?_ ?_|intro _|refine exP ?_ ?_);all_goals try omega
  ·rename_i hlt
   have hkl:k < ls.length:=by omega
   refine a0a (a6z (ls[k]'hkl)) ?_
   simp only [go_sem,hG,hOw]
   (repeat' with_reducible first|refine And.intro ?_ ?_|intro _|refine exP ?_ ?_);all_goals try omega
   ·rename_i h1
    refine bad _ (fun ⟨q1,q2,q3⟩=>?_)
    have:a1d (ls[k]'hkl)=true:=List.all_eq_true.1 (hal.2 ⟨q1,q2,q3⟩) _ (List.getElem_mem hkl)
    rw [this] at h1
    simp at h1
   ·rename_i h1
    have:a1d (ls[k]'hkl)=true:=by
     cases h:a1d (ls[k]'hkl) with
     |true=>rfl
     |false=>rw [h] at h1;simp at h1
    exact ⟨k+1,⟨by omega,a0v hkl hall this⟩,by omega,a1e (by (simp only [go_sem])<;>simp) hNm⟩
  ·rename_i hge
   rw [List.take_of_length_le (by omega)] at hall
   exact ⟨(),hal.1 hall,a1e (by (simp only [go_sem])<;>simp) hNm⟩
 rintro ⟨⟩ ⟨r1,r2,r3⟩
 have l1:=a8z r1
 have l2:=a8z r2
 have l3:=a8z r3
 obtain ⟨⟨xa,xb,xc,xd⟩,ya,yb,yc,yd⟩:=And.intro (b1i o a) (b1i o b)
 have fin1:a3h o a b=0→∀ n L,a5f o a b=L→Pm.Sub (V.tup [V.lst n 1 (List.map a1z L),V.v (Value.int IntKind.i64 0)]) (V.tup [V.lst n 1 (List.map a1z (a5f o a b)),V.v (Value.int IntKind.i64 (a3h o a b))]):=fun h n L hL=>by
  rw [h,hL];exact .refl _
 simp only [go_sem,hG,hOw]
 refine a0a (c0s o a) ?_
 simp only [go_sem,hG,hOw]
 refine ⟨fun e1=>?_,fun e1=>?_⟩
 ·refine a0a (a8g b hb) ?_
  simp only [go_sem,hG,hOw]
  exact fin1 (d8t ⟨r1,r2,r3⟩ e1).1 _ _ (d8t ⟨r1,r2,r3⟩ e1).2
 ·refine a0a (c0s o b) ?_
  simp only [go_sem,hG,hOw]
  refine ⟨fun e2=>⟨fun _=>?_,fun h=>absurd e2 h⟩,fun e2=>?_⟩
  ·refine a0a (a8g a ha) ?_
   simp only [go_sem,hG,hOw]
   have:=e0h ⟨r1,r2,r3⟩ e1 (.inl e2)
   exact fin1 this.1 _ _ this.2
  ·refine a0a (c0s a b) ?_
   simp only [go_sem,hG,hOw]
   refine ⟨fun e3=>?_,fun e3=>?_⟩
   ·refine a0a (a8g a ha) ?_
    simp only [go_sem,hG,hOw]
    have:=e0h ⟨r1,r2,r3⟩ e1 (.inr e3)
    exact fin1 this.1 _ _ this.2
   ·have ne2:¬ (o=b∨a=b):=fun h=>h.elim e2 e3
    refine a0a (c6g o a ho ha) ?_
    simp only [go_sem,hG,hOw]
    refine a0a (c6g o b ho hb) ?_
    simp only [go_sem,hG,hOw]
    (repeat' with_reducible first|refine And.intro ?_ ?_|intro _|refine exP ?_ ?_);all_goals try omega
    refine a0c [(0,46)] [] (c9i G.lo (a3r o a) (a3r o b) (by omega) (by omega)) ?_
    obtain ⟨hq1,hq2⟩:=e4d o a b
    have f3:=f2s ⟨r1,r2,r3⟩ e1 ne2
    have f4:=f3v ⟨r1,r2,r3⟩ e1 ne2
    have f5:=f6o ⟨r1,r2,r3⟩ e1 ne2
    simp only [d4i,List.map_cons,List.map_nil]
    revert hq1 hq2 f3 f4 f5
    generalize a2m o a b=pq
    obtain ⟨p,q⟩:=pq
    intro hq1 hq2 f3 f4 f5
    simp only at hq1 hq2 f3 f4 f5
    have hm1:a8p o q=true:=d0k (by omega) (by omega) (by omega)
    have hg1:=c9u hm1
    simp (maxSteps:=2000000) only [go_sem,hG,hOw,Int.reduceToNat,Int.reduceSub,List.getElem_cons_succ,List.getElem_cons_zero,List.take_succ_cons,List.take_zero]
    refine a0r mixed (by kernel_rfl) ?_
    simp (maxSteps:=2000000) only [go_sem,hG,hOw,Int.reduceToNat,Int.reduceSub,List.getElem_cons_succ,List.getElem_cons_zero,List.take_succ_cons,List.take_zero]
    (repeat' with_reducible first|refine And.intro ?_ ?_|intro _|refine exP ?_ ?_);all_goals try omega
    ·rename_i k1
     rw [(f3 k1).1,(f3 k1).2]
     exact c0c _ _
    ·rename_i k1
     have hm2:a8p (a3f o q) p=true:=g4t (p:=(p,q)) ⟨hq1.1,hq1.2.1⟩ hm1 (by show p.lo+p.drop < q.lo;omega)
     refine a0r mixed (by kernel_rfl) ?_
     simp (maxSteps:=2000000) only [go_sem,hG,hOw,Int.reduceToNat,Int.reduceSub,List.getElem_cons_succ,List.getElem_cons_zero,List.take_succ_cons,List.take_zero]
     (repeat' with_reducible first|refine And.intro ?_ ?_|intro _|refine exP ?_ ?_);all_goals try omega
     refine ⟨_,a0e (c8b o q (by omega) (by omega) hm1),?_⟩
     simp (maxSteps:=2000000) only [go_sem,hG,hOw,Int.reduceToNat,Int.reduceSub,List.getElem_cons_succ,List.getElem_cons_zero,List.take_succ_cons,List.take_zero]
     (repeat' with_reducible first|refine And.intro ?_ ?_|intro _|refine exP ?_ ?_);all_goals try omega
     refine ⟨_,a0e (c8b (a3f o q) p (by omega) (by omega) hm2),?_⟩
     simp only [go_sem,hG,hOw]
     refine a0a (a6z (c4y o (p,q))) ?_
     simp only [go_sem,hG,hOw]
     (repeat' with_reducible first|refine And.intro ?_ ?_|intro _|refine exP ?_ ?_);all_goals try omega
     ·rename_i k2
      have h4:=f4 k1 (by
       cases h:a1d (c4y o (p,q)) with
       |true=>rw [h] at k2;simp at k2
       |false=>rfl)
      rw [h4.1,h4.2]
      exact c0c _ _
     ·rename_i k2
      have h5:=f5 k1 (by
       cases h:a1d (c4y o (p,q)) with
       |true=>rfl
       |false=>rw [h] at k2;simp at k2)
      exact fin1 h5.1 _ _ h5.2
open Go Pm
set_option maxHeartbeats 4000000
set_option maxRecDepth 100000
theorem c1t (s:ByteArray) (hs:s.size≤100000) (i:Int) (hi:0≤i∧i≤1000):a0l Tryz.prog 67 [.v (.string s),i64 i] (fun _=>.v (.string (f6v s i))):=by
 refine a0b (ow:=fun _=>false) Tryz.func67 Tryz.ntmps67 rfl rfl fun G hG hOw hNm hB=>?_;simp only [go_sem,hG,hOw]
 (repeat' with_reducible first|refine And.intro ?_ ?_|intro _|refine exP ?_ ?_);all_goals try omega
 refine a0i (fun k:Nat=>St.of [(0,.v (.string s)),(5,i64 (d1l s i k)),(12,i64 s.size),(13,i64 k)] []) (fun k=>k≤s.size) (fun k=>s.size - k) 0 (by simp) (a1e (by (simp only [go_sem])<;>simp) hNm) ?_
 rintro k hk
 have h1:=f5m s i k
 have h3:=f7u s k
 by_cases hlt:k < s.size
 ·have h2:=g0j hlt
  have e1:d1l s i (k+1)=(31 * d1l s i k+byI s k) % 676:=rfl
  refine a0d _ _ _ ?_
  simp (maxSteps:=2000000) only [go_sem,hG,hOw,← h2]
  (repeat' with_reducible first|refine And.intro ?_ ?_|intro _|refine exP ?_ ?_);all_goals try omega
  refine ⟨k+1,by omega,by omega,?_⟩
  rw [e1]
  exact a1e (by (simp only [go_sem])<;>simp) hNm
 ·obtain rfl:k=s.size:=by omega
  have hf:d5h .i64 (d1l s i s.size / 26):=b2f _ ▸ (by omega)
  refine a0d _ _ _ ?_
  simp only [go_sem,hG,hOw]
  (repeat' with_reducible first|refine And.intro ?_ ?_|intro _|refine exP ?_ ?_);all_goals try omega
  all_goals first|exact hf|skip
  have hw:∀ x:Int,0≤x∧x < 26→(IntKind.u8.wrap (97+x)).toNat=97+x.toNat:=fun x hx=>by
   have:IntKind.u8.wrap (97+x)=(97+x) % 256:=rfl
   rw [this];omega
  rw [hw _ (by omega),hw _ (by omega)]
  rfl
theorem d8x:∀ l:List UInt8,Lib.indexByte l 10=if ixL l < l.length then (ixL l:Int) else -1
 |[]=>rfl
 |b::r=>by
  have ih:=d8x r
  have hle:=d8n r
  simp only [Lib.indexByte,ixL,ih,List.length_cons]
  by_cases hb:b=10
  ·subst hb;simp
  ·by_cases h:ixL r < r.length
   ·have:¬ (ixL r:Int)=-1:=by omega
    simp [hb,h,this]
   ·simp [hb,h]
def f7a (s:ByteArray):Bool:=decide (ixL s.data.toList < s.data.toList.length)
def f6r (s:ByteArray):ByteArray:=if ixL s.data.toList < s.data.toList.length then s.extract 0 (ixL s.data.toList) else s
def d4d (s:ByteArray):ByteArray:=if ixL s.data.toList < s.data.toList.length then s.extract (ixL s.data.toList+1) s.size else ⟨#[]⟩
theorem c5d (s:ByteArray):a0l Tryz.prog 268 [.v (.string s),.v (.int .u8 10)] (fun _=>i64 (Lib.indexByte s.data.toList 10)):=by
 refine a0b (ow:=fun _=>false) Tryz.func268 Tryz.ntmps268 rfl rfl fun G hG hOw hNm hB=>?_;simp only [go_sem,hG,hOw]
 refine e8r Tryz.func285 (by kernel_rfl) (by kernel_rfl) (by kernel_rfl) (by kernel_rfl) rfl (by rw [hG];decide) s 10 ?_
 simp only [go_sem,hG,hOw]
 rfl
theorem e3l (s:ByteArray):a0l Tryz.prog 239 [.v (.string s),.v (.string ⟨#[10]⟩)] (fun _=>i64 (Lib.indexByte s.data.toList 10)):=by
 refine a0b (ow:=fun _=>false) Tryz.func239 Tryz.ntmps239 rfl rfl fun G hG hOw hNm hB=>?_;simp only [go_sem,hG,hOw]
 (repeat' with_reducible first|refine And.intro ?_ ?_|intro _|refine exP ?_ ?_);all_goals try omega
 ·rename_i h1 h2
  subst h2
  rfl
 ·refine a0a (c5d s) ?_
  simp only [go_sem,hG,hOw]
 ·rename_i h1 h2 h3 h4
  exact absurd rfl h3
 ·rename_i h1 h2 h3 h4
  exact absurd rfl h3
 ·rename_i h1
  exact absurd h1 (by decide)
theorem f2r (s:ByteArray) (hs:s.size≤100000):a0l Tryz.prog 193 [.v (.string s),.v (.string ⟨#[10]⟩)] (fun _=>.tup [.v (.string (f6r s)),.v (.string (d4d s)),bl (f7a s)]):=by
 refine a0b (ow:=fun _=>false) Tryz.func193 Tryz.ntmps193 rfl rfl fun G hG hOw hNm hB=>?_;simp only [go_sem,hG,hOw]
 refine a0a (e3l s) ?_
 rw [d8x]
 by_cases hi:ixL s.data.toList < s.data.toList.length
 ·rw [if_pos hi]
  have h1:(#[10]:Array UInt8).size=1:=rfl
  have h2:s.data.toList.length=s.size:=by rw [Array.length_toList];rfl
  obtain ⟨k,hk⟩:∃ k,k=ixL s.data.toList:=⟨_,rfl⟩
  simp only [f6r,d4d,f7a,if_pos hi,decide_eq_true hi]
  rw [← hk] at hi ⊢
  simp only [go_sem,hG,hOw]
  (repeat' with_reducible first|refine And.intro ?_ ?_|intro _|refine exP ?_ ?_);all_goals try omega
  have x1:((k:Int)+1).toNat=k+1:=by omega
  refine a0r mixed (by kernel_rfl) ?_
  simp (maxSteps:=2000000) only [go_sem,hG,hOw,h1,x1,Int.natCast_one]
  (repeat' with_reducible first|refine And.intro ?_ ?_|intro _|refine exP ?_ ?_);all_goals try omega
 ·rw [if_neg hi]
  simp only [go_sem,hG,hOw]
  (repeat' with_reducible first|refine And.intro ?_ ?_|intro _|refine exP ?_ ?_);all_goals try omega
  simp only [f6r,d4d,f7a,if_neg hi,decide_eq_false hi]
  exact Sub.refl _
theorem g0n (s:ByteArray) (hs:s.size≤100000):a0l Tryz.prog 139 [.v (.string s),.v (.string ⟨#[10]⟩)] (fun _=>.tup [.v (.string (f6r s)),.v (.string (d4d s)),bl (f7a s)]):=by
 refine a0b (ow:=fun _=>false) Tryz.func139 Tryz.ntmps139 rfl rfl fun G hG hOw hNm hB=>?_;simp only [go_sem,hG,hOw]
 refine a0a (f2r s hs) ?_
 simp only [go_sem,hG,hOw]
open Go Pm
set_option maxHeartbeats 4000000
set_option maxRecDepth 100000
theorem a9o (s:ByteArray) (i:Int):(f6v s i).size=2:=rfl
theorem f2x (x:ByteArray):(⟨#[]⟩:ByteArray)++x=x:=by
 apply ByteArray.ext
 simp [ByteArray.data_append]
def byL (l:List ByteArray) (k:Nat):List UInt8:=(c4n l k).data.toList
theorem c7z (l:List ByteArray) (k:Nat):(byL l k).length=(c4n l k).size:=by unfold byL;rw [Array.length_toList];rfl
theorem f2z (l:List ByteArray) (h:0 < l.length):(d5f l[0] (0:Nat)).data.toList=byL l (0+1):=by
 unfold byL
 rw [b1k l h,e1p,f2x]
theorem e7c (l:List ByteArray) {k:Nat} (h:k < l.length):byL l k++(d5f l[k] k).data.toList=byL l (k+1):=by
 unfold byL
 rw [b1k l h,ByteArray.data_append,Array.toList_append]
def wrF (l:List ByteArray):Nat→St
 |0=>St.of [(5,.ptr 5 0),(13,a0o 0 l),(14,i64 l.length),(15,i64 (0:Nat))] [(5,.obj a5z)]
 |k+1=>St.of [(5,.ptr 5 0),(13,a0o 0 l),(14,i64 l.length),(15,i64 (k+1:Nat))] [(5,.box [.ptr 5 0,.own 9 0 (byL l (k+1)).length 1]),(9,.arr 5 1 ((byL l (k+1)).map a4w))]
theorem e5t (l:List ByteArray):a0l Tryz.prog 14 [a0o 0 l] (fun _=>.tup [.v (.string (wrS l)),i64 (wrE l)]):=by
 refine a0b (ow:=fun _=>false) Tryz.func14 Tryz.ntmps14 rfl rfl fun G hG hOw hNm hB=>?_;simp only [go_sem,hG,hOw]
 refine a0a (a6z l) ?_
 by_cases h':a1d l=true
 ·rw [if_pos h']
  have hln:l.length≤200:=by unfold a1d at h';simp at h';omega
  have hsz:∀ s ∈ l,s.size≤160:=fun s hs=>by
   unfold a1d at h'
   simp only [Bool.and_eq_true,List.all_eq_true] at h'
   exact d6o (h'.1 s hs)
  simp only [go_sem,hG,hOw]
  refine d6r rfl rfl (by rw [hG];decide) (by simp [go_sem]) (by kernel_rfl) ?_
  simp only [go_sem,hG,hOw]
  (repeat' with_reducible first|refine And.intro ?_ ?_|intro _|refine exP ?_ ?_);all_goals try omega
  refine a0i (wrF l) (fun k=>k≤l.length) (fun k=>l.length - k) 0 (by simp) (by unfold wrF;exact a1m [(5,some 5)] (by (simp only [go_sem])<;>simp [a5z]) (by (simp only [go_sem,a1k,a0s,a0j,a1q])<;>simp [a5z])) ?_
  rintro k hk
  have ho:=b1v hsz k hk
  have step:∀ hkl:k < l.length,(d5f l[k] k).size≤164:=fun hkl=>by
   have:=hsz _ (List.getElem_mem hkl)
   rw [a5d];omega
  rcases k with _|k
  ·unfold wrF
   dsimp only
   refine a0d _ _ _ ?_;simp only [go_sem,hG,hOw]
   (repeat' with_reducible first|refine And.intro ?_ ?_|intro _|refine exP ?_ ?_);all_goals try omega
   ·rename_i hlt
    have hkl:0 < l.length:=by omega
    have:=step hkl
    rw [a5d] at this
    simp only [List.size_toArray,List.length_cons,List.length_nil]
    omega
   ·rename_i hlt
    have hkl:0 < l.length:=by omega
    have hst:=step hkl
    have hst':=hst
    rw [a5d] at hst'
    refine a0a (c1t l[0] (by omega) 0 (by omega)) ?_
    simp only [go_sem,hG,hOw]
    have hz:(l[0]++⟨#[32]⟩++f6v l[0] 0++⟨#[10]⟩:ByteArray)=d5f l[0] 0:=rfl
    rw [hz]
    (repeat' with_reducible first|refine And.intro ?_ ?_|intro _|refine exP ?_ ?_);all_goals try omega
    ·rw [a9o];simp only [List.size_toArray,List.length_cons,List.length_nil];omega
    ·rw [a9o];simp only [List.size_toArray,List.length_cons,List.length_nil];omega
    ·have W:=b2v (d5f l[0] (0:Nat)) (by rw [a5d];omega)
     rw [f2z l hkl] at W
     unfold d4t at W
     refine a0c [(0,5)] [(1,27)] (W) ?_
     simp only [go_sem,hG,hOw]
     (repeat' with_reducible first|refine And.intro ?_ ?_|intro _|refine exP ?_ ?_);all_goals try omega
     refine ⟨1,by omega,by omega,?_⟩
     dsimp only
     exact a1m [(5,some 5),(9,some 27)]
   ·rename_i hge
    have h0:l.length=0:=by omega
    refine a0c [(0,5)] [] (d6e) ?_
    simp only [go_sem,hG,hOw]
    (repeat' with_reducible first|refine And.intro ?_ ?_|intro _|refine exP ?_ ?_);all_goals try omega
    refine a0c [(0,5)] [] (c5l) ?_
    simp only [go_sem,hG,hOw]
    have hsz0:(c4n l l.length).size≤30000:=by have:=b1v hsz l.length (Nat.le_refl _);omega
    simp only [wrS,wrE,h',if_true,hsz0]
    rw [h0]
    exact Sub.refl _
  ·unfold wrF
   dsimp only
   have hby:∀ x:ByteArray,x.data.toList.length=x.size:=fun x=>by rw [Array.length_toList];rfl
   refine a0d _ _ _ ?_;simp only [go_sem,hG,hOw]
   (repeat' with_reducible first|refine And.intro ?_ ?_|intro _|refine exP ?_ ?_);all_goals try omega
   ·rename_i hlt
    have hkl:k+1 < l.length:=by omega
    have:=step hkl
    rw [a5d] at this
    simp only [List.size_toArray,List.length_cons,List.length_nil]
    omega
   ·rename_i hlt
    have hkl:k+1 < l.length:=by omega
    have hst:=step hkl
    have hst':=hst
    rw [a5d] at hst'
    refine a0a (c1t l[k+1] (by omega) (k+1:Nat) (by omega)) ?_
    simp only [go_sem,hG,hOw]
    have hz:(l[k+1]++⟨#[32]⟩++f6v l[k+1] (k+1:Nat)++⟨#[10]⟩:ByteArray)=d5f l[k+1] (k+1:Nat):=rfl
    rw [hz]
    (repeat' with_reducible first|refine And.intro ?_ ?_|intro _|refine exP ?_ ?_);all_goals try omega
    ·rw [a9o];simp only [List.size_toArray,List.length_cons,List.length_nil];omega
    ·rw [a9o];simp only [List.size_toArray,List.length_cons,List.length_nil];omega
    ·have W:=b4a (byL l (k+1)) (d5f l[k+1] (k+1:Nat)) (by rw [c7z,a5d];omega)
     rw [e7c l hkl] at W
     unfold d4t at W
     refine a0c [(0,5),(1,9)] [(2,27)] (W) ?_
     simp only [go_sem,hG,hOw]
     (repeat' with_reducible first|refine And.intro ?_ ?_|intro _|refine exP ?_ ?_);all_goals try omega
     refine ⟨k+1+1,by omega,by omega,?_⟩
     dsimp only
     exact a1m [(5,some 5),(9,some 27)]
   ·rename_i hge
    have h0:k+1=l.length:=by omega
    have hle:=b1v hsz l.length (Nat.le_refl _)
    have hpos:byL l (k+1)≠[]:=by
     intro h
     have:=c7z l (k+1)
     rw [h,b1k l (by omega),ByteArray.size_append,a5d] at this
     simp at this
    have W1:=e8a (byL l (k+1))
    have W2:=c6y (byL l (k+1)) hpos
    unfold d4t at W1 W2
    have hlen:=c7z l (k+1)
    rw [h0] at hlen
    refine a0c [(0,5),(1,9)] [] (W1) ?_
    simp only [go_sem,hG,hOw]
    (repeat' with_reducible first|refine And.intro ?_ ?_|intro _|refine exP ?_ ?_);all_goals try omega
    ·rename_i hgt
     rw [h0] at hgt
     have:¬ (c4n l l.length).size≤30000:=by omega
     simp only [wrS,wrE,h',if_true,this,if_false]
     exact Sub.refl _
    ·rename_i hgt
     rw [h0] at hgt
     have:(c4n l l.length).size≤30000:=by omega
     refine a0c [(0,5),(1,9)] [] (W2) ?_
     simp only [go_sem,hG,hOw]
     simp only [wrS,wrE,h',if_true,this]
     rw [h0,show (⟨(byL l l.length).toArray⟩:ByteArray)=c4n l l.length by unfold byL;rw [Array.toArray_toList]]
     exact Sub.refl _
 ·rw [if_neg h']
  simp only [go_sem,hG,hOw]
  (repeat' with_reducible first|refine And.intro ?_ ?_|intro _|refine exP ?_ ?_);all_goals try omega
  simp only [wrS,wrE,if_neg h']
  exact .refl _
open Go Pm
set_option maxHeartbeats 4000000
set_option maxRecDepth 100000
theorem f3q (s:ByteArray):s.extract 0 s.size=s:=by simp
theorem a9y (s:ByteArray) (a b:Nat):(s.extract a b).data.toList=(s.data.toList.drop a).take (b - a):=by
 rw [ByteArray.data_extract,Array.toList_extract,List.extract_eq_take_drop]
theorem c8h {x y:ByteArray} (h:x.data.toList=y.data.toList):x=y:=ByteArray.ext (Array.ext' h)
theorem c7e (s:ByteArray) (a b i j:Nat) (hj:a+j≤b):(s.extract a b).extract i j=s.extract (a+i) (a+j):=by
 apply c8h
 rw [a9y,a9y,a9y,List.drop_take,List.drop_drop,List.take_take]
 congr 1
 omega
theorem d0t (s:ByteArray) {a n:Nat} (h1:a≤n) (h:n < s.size):s.extract a (n+1)=s.extract a n++⟨#[s[n]]⟩:=by
 have h2:s.data.toList.length=s.size:=by rw [Array.length_toList];rfl
 apply c8h
 rw [ByteArray.data_append,Array.toList_append,a9y,a9y,show n+1 - a=(n - a)+1 by omega,List.take_add_one,List.getElem?_drop,show a+(n - a)=n by omega,List.getElem?_eq_getElem (by omega)]
 rfl
theorem f6b {x y z:ByteArray} (h:x++z=y++z):x=y:=by
 have h1:=congrArg (fun b:ByteArray=>b.data.toList) h
 simp only [ByteArray.data_append,Array.toList_append] at h1
 exact c8h (List.append_cancel_right h1)
theorem e3n (s:ByteArray) {a:Nat} (ha:a≤s.size):f7a (s.extract a s.size)=decide (nlS s a < s.size)∧(nlS s a < s.size→f6r (s.extract a s.size)=s.extract a (nlS s a)∧d4d (s.extract a s.size)=s.extract (nlS s a+1) s.size):=by
 have h2:s.data.toList.length=s.size:=by rw [Array.length_toList];rfl
 have hl:=e3v ha
 have e1:(s.extract a s.size).data.toList=s.data.toList.drop a:=by rw [a9y,List.take_of_length_le (by rw [List.length_drop];omega)]
 have e2:ixL (s.data.toList.drop a)=nlS s a - a:=by unfold nlS;omega
 have e3:(s.extract a s.size).size=s.size - a:=b4p _ (Nat.le_refl _)
 unfold f7a f6r d4d
 rw [e1,e2,List.length_drop,h2]
 refine ⟨by rw [decide_eq_decide];omega,fun h=>?_⟩
 rw [if_pos (by omega),if_pos (by omega),e3]
 exact ⟨by rw [c7e _ _ _ _ _ (by omega),Nat.add_zero,show a+(nlS s a - a)=nlS s a by omega],by rw [c7e _ _ _ _ _ (by omega)];congr 1<;>omega⟩
theorem f2y (s:ByteArray):Tri Tryz.prog 70 [.v (.string s)] [] (fun _=>.ret (.fn (.func 138) [.ptr 0 0]) [(0,.box [.v (.string s)])]):=by
 refine a0k (fun _=>false) Tryz.func70 Tryz.ntmps70 rfl rfl fun G hG hOw hNm=>?_;simp only [go_sem,hG,hOw]
 exact (a3t [(0,some 1)])
theorem f4x (s:ByteArray):a0l Tryz.prog 15 [.v (.string s)] (fun n=>.tup [a0o n (rdL s),i64 (rdN s),i64 (e4m s)]):=by
 refine a5o (ow:=fun _=>false) Tryz.func15 Tryz.ntmps15 rfl (by kernel_rfl) (by simp) rfl (by decide) fun G hG hOw hNm hrd hB=>?_;simp only [go_sem,hG,hOw]
 (repeat' with_reducible first|refine And.intro ?_ ?_|intro _|refine exP ?_ ?_);all_goals try omega
 ·rename_i h
  have:¬ s.size≤30000:=by omega
  simp only [rdL,rdN,e4m,this,if_false]
  exact Subs.tup (.cons (.nil _ _) (.cons (.refl _) (.cons (.refl _) .nil)))
 ·rename_i h
  have hsz:s.size≤30000:=by omega
  simp only [rdL,rdN,e4m,hsz,if_true]
  obtain ⟨R,hR⟩:∃ R,R=b6j s 200 0 []:=⟨_,rfl⟩
  rw [← hR]
  refine a0c [] [(0,10)] (f2y s) ?_
  simp only [go_sem,hG,hOw]
  show SemC _ _ _ _ _
  refine a2s (fun _:Unit=>St.of [(2,.ptr 2 0),(3,.ptr 3 0)] [(2,.box [.own 9 0 R.1.length 1]),(9,.arr 9 1 (R.1.map a1z)),(3,.box [i64 R.2])]) (fun _=>True) ?_ ?_
  ·refine a4c (s':=St.of [(2,.ptr 2 0),(3,.ptr 3 0),(11,.fn (.func 138) [.ptr 10 0])] [(2,.box [.own 9 0 0 1]),(9,.arr 9 1 []),(3,.box [i64 (0:Nat)]),(10,.box [.v (.string (s.extract 0 s.size))])]) (by rw [f3q];exact a1m [(2,some 2),(3,some 3),(10,some 10),(9,none)]) ?_
   refine b7l [(5,12),(6,13)] [2,3,10] 99 (fun _=>false) hrd rfl Tryz.func138 Tryz.ntmps138 rfl (by kernel_rfl) rfl (by simp) (by rw [hG];decide) rfl (by rw [hNm];simp [a0z]) (by simp only [List.all_cons,List.all_nil];rfl) rfl rfl (by rw [hG];decide) fun G1 l L k1 k2 k3 k4 k5 hY=>?_
   have hG0:=hG
   have hNm0:=hNm
   have hOw0:=hOw
   have hG:=k1
   have hOw:=k2
   have hNm:=k3
   simp only [go_sem,hG,hOw]
   refine a0i (fun x:List ByteArray×Nat=>St.of [(0,.v (.func (.yield l) #[] #[])),(1,.ptr 10 0),(8,i64 x.1.length)] [(99,.obj (.loop (Lp L none))),(2,.box [.own 9 0 x.1.length 1]),(9,.arr 9 1 (x.1.map a1z)),(3,.box [i64 x.2]),(10,.box [.v (.string (s.extract x.2 s.size))])]) (fun x=>x.1.length≤200∧x.2≤s.size∧b6j s (200 - x.1.length) x.2 x.1=R) (fun x=>200 - x.1.length) ([],0) ⟨by simp,by simp,hR.symm⟩ (a1m [(99,some 99),(2,some 2),(9,some 9),(3,some 3),(10,some 10)]) ?_
   rintro ⟨out,a⟩ ⟨hl,ha,hr⟩
   dsimp only at hl ha hr ⊢
   obtain ⟨T,hT⟩:∃ T,T=s.extract a s.size:=⟨_,rfl⟩
   rw [← hT]
   have hTs:T.size=s.size - a:=by rw [hT,b4p _ (Nat.le_refl _)]
   have hle:=e3v ha
   obtain ⟨c1,c2⟩:=e3n s ha
   rw [← hT] at c1 c2
   obtain ⟨e,he⟩:∃ e,e=nlS s a:=⟨_,rfl⟩
   have bad:¬ (e < s.size∧a+4≤e)→c1l s a out.length=false:=fun h=>by
    unfold c1l
    rw [← he,decide_eq_false h,Bool.false_and]
   refine a0d _ _ _ ?_;simp only [go_sem,hG,hOw]
   (repeat' with_reducible first|refine And.intro ?_ ?_|intro _|refine exP ?_ ?_);all_goals try omega
   ·rename_i hlt
    have hlt':out.length < 200:=by omega
    refine a0a (g0n T (by omega)) ?_
    by_cases hn:e < s.size
    ·obtain ⟨c3,c4⟩:=c2 (by omega)
     rw [c1,c3,c4,← he,decide_eq_true hn]
     have hc:s[e]=10:=by have:=f2a (s:=s) _ (a:=a) rfl (by omega);simp only [← he] at this;exact this
     obtain ⟨ln,hln⟩:∃ ln,ln=s.extract a e:=⟨_,rfl⟩
     rw [← hln]
     have hls:ln.size=e - a:=by rw [hln];exact b4p _ (by omega)
     simp only [go_sem,hG,hOw]
     (repeat' with_reducible first|refine And.intro ?_ ?_|intro _|refine exP ?_ ?_);all_goals try omega
     ·rename_i h4
      rw [b1j (bad (by omega))] at hr
      subst hr
      refine ⟨none,by simp [go_sem],?_⟩
      have hNm:=hNm0
      simp (maxSteps:=2000000) only [go_sem,hG,hOw,hG0]
      exact ⟨(),a1m [(2,some 2),(9,some 9),(3,some 3)]⟩
     ·rename_i h4
      obtain ⟨r,hrr⟩:∃ r,r=s.extract a (e - 3):=⟨_,rfl⟩
      have hlr:ln.extract 0 ((ln.size:Int) - 3).toNat=r:=by
       rw [hln,c7e _ _ _ _ _ (by rw [← hln];omega),← hln,hrr];congr 1;omega
      have hrs:r.size=e - 3 - a:=by rw [hrr];exact b4p _ (by omega)
      rw [hlr]
      have hg:c1l s a out.length=(c1c r && decide (d5f r out.length=s.extract a (e+1))):=by
       simp only [c1l,← he,← hrr]
       rw [decide_eq_true (by omega),Bool.true_and]
      refine a0a (f1q r) ?_
      simp only [go_sem,hG,hOw]
      have hone:(#[32]:Array UInt8).size=1:=rfl
      refine ⟨fun g1=>⟨by rw [hone];omega,?_⟩,fun g1=>?_⟩
      ·refine a0a (c1t r (by omega) out.length (by omega)) ?_
       simp only [go_sem,hG,hOw]
       refine ⟨by rw [hone,a9o];omega,fun g2=>?_,fun g2=>?_⟩
       ·have hgd:c1l s a out.length=true:=by
         rw [hg,g1,Bool.true_and,decide_eq_true_eq,d0t s (by omega) hn,← hln,hc,g2]
         rfl
        refine ⟨by omega,hY [99,2,3,10] _ _ _ _ _ (by simp [go_sem]) rfl (by simp [chk,k1]) (by rw [k3];simp) (by intro id hid;left;rw [k3];exact hid) fun G2 m1 m2 m3 m4 m5=>?_⟩
        have hG2:=m1.trans hG0
        have hOw2:=m2.trans hOw0
        refine a0d _ _ _ ?_
        simp (maxSteps:=2000000) only [go_sem,hG,hOw,hG2,hOw2]
        (repeat' with_reducible first|refine And.intro ?_ ?_|intro _|refine exP ?_ ?_);all_goals try omega
        have hz:(a:Int)+((ln.size:Int)+1)=((e+1:Nat):Int):=by omega
        rw [hz]
        refine ⟨(out++[r],e+1),⟨by simp;omega,by dsimp only;omega,?_⟩,by simp;omega,?_⟩
        ·dsimp only
         rw [List.length_append,List.length_singleton]
         rw [show 200 - out.length=(200 - (out.length+1))+1 by omega,d2q hgd,← he,← hrr] at hr
         exact hr
        ·dsimp only
         rw [List.map_append,List.length_append,List.length_singleton]
         have hz1:((out.length+1:Nat):Int)=(out.length:Int)+1:=by omega
         rw [hz1]
         exact a1m [(99,some 99),(2,some 2),(9,some 17),(3,some 3),(10,some 10)]
       ·have hb:c1l s a out.length=false:=by
         rw [hg,g1,Bool.true_and,decide_eq_false_iff_not,d0t s (by omega) hn,← hln,hc]
         exact fun h=>g2 (f6b h).symm
        rw [b1j hb] at hr
        subst hr
        refine ⟨none,by simp [go_sem],?_⟩
        have hNm:=hNm0
        simp (maxSteps:=2000000) only [go_sem,hG,hOw,hG0]
        exact ⟨(),a1m [(2,some 2),(9,some 9),(3,some 3)]⟩
      ·rw [b1j (by rw [hg,g1];rfl)] at hr
       subst hr
       refine ⟨none,by simp [go_sem],?_⟩
       have hNm:=hNm0
       simp (maxSteps:=2000000) only [go_sem,hG,hOw,hG0]
       exact ⟨(),a1m [(2,some 2),(9,some 9),(3,some 3)]⟩
    ·rw [c1,← he,decide_eq_false hn]
     simp only [go_sem,hG,hOw]
     rw [b1j (bad (by omega))] at hr
     subst hr
     refine ⟨none,by simp [go_sem],?_⟩
     have hNm:=hNm0
     simp (maxSteps:=2000000) only [go_sem,hG,hOw,hG0]
     exact ⟨(),a1m [(2,some 2),(9,some 9),(3,some 3)]⟩
   ·rename_i hge
    have e:200 - out.length=0:=by omega
    rw [e,d2m] at hr
    subst hr
    refine ⟨none,by simp [go_sem],?_⟩
    have hNm:=hNm0
    simp (maxSteps:=2000000) only [go_sem,hG,hOw,hG0]
    exact ⟨(),a1m [(2,some 2),(9,some 9),(3,some 3)]⟩
  ·rintro ⟨⟩ -
   simp only [go_sem,hG,hOw]
   refine a9s [(21,[2]),(22,[3]),(2,[2]),(3,[3])] mixed (by kernel_rfl) ?_
   simp only [go_sem,hG,hOw]
end Go.Proofs.YtmjhfccbbfpppaaGreatDoor
