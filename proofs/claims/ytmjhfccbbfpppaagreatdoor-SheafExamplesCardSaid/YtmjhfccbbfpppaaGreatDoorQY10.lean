import Derived.Lib.ItoaNum
import Derived.Lib.AtoiAllCases
import Derived.Lib.SplitLaws
import Derived.Test.YtmjhfccbbfpppaaGreatDoorQY09
namespace Go.Proofs.YtmjhfccbbfpppaaGreatDoor
open Go Pm
set_option linter.unusedSimpArgs false
set_option linter.unusedVariables false
theorem d8v {a b:ByteArray} (h:a.data.toList=b.data.toList):a=b:=by
 cases a with
 |mk a=>cases b with
  |mk b=>congr 1;exact Array.toList_inj.1 h
def bA (l:List UInt8):ByteArray:=⟨l.toArray⟩
theorem c0m (l:List UInt8):(bA l).data.toList=l:=by simp [bA]
theorem c6v (l:List UInt8):(bA l).size=l.length:=by simp [bA,ByteArray.size]
theorem c9p (s:ByteArray):bA s.data.toList=s:=d8v (c0m _)
def a6b:List UInt8→List (List UInt8)
 |[]=>[[]]
 |b::r=>if b=32 then []::a6b r else match a6b r with
  |[]=>[[b]]
  |x::l=>(b::x)::l
theorem d7w:∀ l,a6b l≠[]
 |[]=>by simp [a6b]
 |b::r=>by
  unfold a6b
  split
  ·simp
  ·split<;>simp
def a2e (s:ByteArray):List ByteArray:=(a6b s.data.toList).map bA
theorem a9x (s:ByteArray):a2e s≠[]:=by simp [a2e,d7w]
theorem d4k (s:ByteArray):0 < (a2e s).length:=List.length_pos_iff.2 (a9x s)
theorem b9j:∀ l,(a6b l).length≤l.length+1
 |[]=>by simp [a6b]
 |b::r=>by
  have:=b9j r
  unfold a6b
  split
  ·simp;omega
  ·split
   ·simp
   ·rename_i e;rw [e] at this;simp at this ⊢;omega
theorem a8k (s:ByteArray):(a2e s).length≤s.size+1:=by
 have:=b9j s.data.toList
 simpa [a2e] using this
theorem b5v:∀ l,∀ x ∈ a6b l,x.length≤l.length
 |[]=>by simp [a6b]
 |b::r=>by
  have ih:=b5v r
  unfold a6b
  split
  ·intro x hx
   rcases List.mem_cons.1 hx with rfl|hx
   ·simp
   ·have:=ih x hx;simp;omega
  ·split
   ·simp
   ·rename_i y l e
    intro x hx
    rcases List.mem_cons.1 hx with rfl|hx
    ·have:=ih y (by rw [e];simp);simp;omega
    ·have:=ih x (by rw [e];simp [hx]);simp;omega
theorem a7f (s:ByteArray):∀ x ∈ a2e s,x.size≤s.size:=by
 intro x hx
 simp only [a2e,List.mem_map] at hx
 obtain ⟨y,hy,rfl⟩:=hx
 have:=b5v _ y hy
 rw [c6v];simpa using this
def a3u (n:Int):ByteArray:=bA (Lib.itoa n)
def f2l (b:UInt8):Bool:=decide (48≤(b.toNat:Int)) && decide ((b.toNat:Int)≤57)
def d4h (l:List UInt8):Int:=l.foldl (fun n b=>10 * n+((b.toNat:Int) - 48)) 0
def b1r (l:List UInt8):Option Int:=if 1≤l.length∧l.length≤4∧¬ (1 < l.length∧l.head? = some 48)∧l.all f2l=true then some (d4h l) else none
def a3z (s:ByteArray):Option Int:=b1r s.data.toList
theorem f0a {b:UInt8} (h:f2l b=true):48≤b.toNat∧b.toNat≤57:=by simp [f2l] at h;omega
theorem a7z {b:UInt8} {n:Nat} (h:b.toNat=n):UInt8.ofNat n=b:=by rw [← h];exact UInt8.ofNat_toNat
theorem a2b (n:Nat) (h:¬ n < 10):Lib.decDigits n=Lib.decDigits (n / 10)++[UInt8.ofNat (48+n % 10)]:=by rw [Lib.decDigits,dif_neg h]
theorem pu {acc n:Nat} {b:UInt8} {r:List UInt8} (hb:b.toNat=48+n) (hn:n≤9) (ha:acc≤1000):Lib.parseUint10 acc (b::r)=Lib.parseUint10 (acc * 10+n) r:=by
 rw [Lib.parseUint10,if_pos (by omega),if_neg (by omega),if_neg (by omega)]
 congr 1;omega
theorem a4s (n:Nat):Lib.itoa (n:Int)=Lib.decDigits n:=by unfold Lib.itoa;rw [if_neg (by omega),Int.toNat_natCast]
theorem b4w {a:UInt8} {r:List UInt8} (h:f2l a=true):Lib.atoiAll (a::r)=Lib.signless (Lib.parseUint10 0 (a::r)):=by
 have:=f0a h
 rw [Lib.atoiAll_plain _ _ (by omega) (by omega)]
 simp [Lib.parseMag]
theorem e9e {n:Nat} (h:n≤9999):Lib.signless (.ok n)=.ok (n:Int):=by simp [Lib.signless];omega
theorem b8m {b:UInt8} (h:f2l b=true):∃ n,b.toNat=48+n∧n≤9:=⟨b.toNat - 48,by have:=f0a h;omega⟩
theorem b3b {l:List UInt8} {v:Int} (h:b1r l=some v):Lib.itoa v=l∧0≤v∧v≤9999∧Lib.atoiAll l=.ok v:=by
 unfold b1r at h
 split at h
 ·rename_i hh
  obtain ⟨h1,h2,h3,h4⟩:=hh
  cases h
  match l,h1,h2,h3,h4 with
  |[a],_,_,h3,h4 =>
   simp at h4
   obtain ⟨n,hn,n9⟩:=b8m h4
   have hv:d4h [a]=(n:Int):=by simp [d4h];omega
   have e:Lib.decDigits n=[a]:=by rw [Lib.decDigits_one (by omega),a7z hn]
   rw [hv,a4s,e,b4w h4,pu hn n9 (by omega)]
   refine ⟨rfl,by omega,by omega,?_⟩
   rw [Lib.parseUint10,e9e (by omega)]
   congr 1;omega
  |[a,b],_,_,h3,h4 =>
   simp at h4 h3
   obtain ⟨n,hn,n9⟩:=b8m h4.1
   obtain ⟨m,hm,m9⟩:=b8m h4.2
   have h0:a.toNat≠48:=fun e=>h3 (UInt8.toNat_inj.1 e)
   have hv:d4h [a,b]=((10 * n+m:Nat):Int):=by simp [d4h];omega
   have e:Lib.decDigits (10 * n+m)=[a,b]:=by
    rw [a2b _ (by omega),show (10 * n+m) / 10=n by omega,show (10 * n+m) % 10=m by omega,Lib.decDigits_one (by omega),a7z hn,a7z hm];rfl
   rw [hv,a4s,e,b4w h4.1,pu hn n9 (by omega),pu hm m9 (by omega)]
   refine ⟨rfl,by omega,by omega,?_⟩
   rw [Lib.parseUint10,e9e (by omega)]
   congr 1;omega
  |[a,b,c],_,_,h3,h4 =>
   simp at h4 h3
   obtain ⟨n,hn,n9⟩:=b8m h4.1
   obtain ⟨m,hm,m9⟩:=b8m h4.2.1
   obtain ⟨k,hk,k9⟩:=b8m h4.2.2
   have h0:a.toNat≠48:=fun e=>h3 (UInt8.toNat_inj.1 e)
   have hv:d4h [a,b,c]=((10 * (10 * n+m)+k:Nat):Int):=by simp [d4h];omega
   have e:Lib.decDigits (10 * (10 * n+m)+k)=[a,b,c]:=by
    rw [a2b _ (by omega),show (10 * (10 * n+m)+k) / 10=10 * n+m by omega,show (10 * (10 * n+m)+k) % 10=k by omega,a2b _ (by omega),show (10 * n+m) / 10=n by omega,show (10 * n+m) % 10=m by omega,Lib.decDigits_one (by omega),a7z hn,a7z hm,a7z hk];rfl
   rw [hv,a4s,e,b4w h4.1,pu hn n9 (by omega),pu hm m9 (by omega),pu hk k9 (by omega)]
   refine ⟨rfl,by omega,by omega,?_⟩
   rw [Lib.parseUint10,e9e (by omega)]
   congr 1;omega
  |[a,b,c,d],_,_,h3,h4 =>
   simp at h4 h3
   obtain ⟨n,hn,n9⟩:=b8m h4.1
   obtain ⟨m,hm,m9⟩:=b8m h4.2.1
   obtain ⟨k,hk,k9⟩:=b8m h4.2.2.1
   obtain ⟨j,hj,j9⟩:=b8m h4.2.2.2
   have h0:a.toNat≠48:=fun e=>h3 (UInt8.toNat_inj.1 e)
   have hv:d4h [a,b,c,d]=((10 * (10 * (10 * n+m)+k)+j:Nat):Int):=by simp [d4h];omega
   have e:Lib.decDigits (10 * (10 * (10 * n+m)+k)+j)=[a,b,c,d]:=by
    rw [a2b _ (by omega),show (10 * (10 * (10 * n+m)+k)+j) / 10=10 * (10 * n+m)+k by omega,show (10 * (10 * (10 * n+m)+k)+j) % 10=j by omega,a2b _ (by omega),show (10 * (10 * n+m)+k) / 10=10 * n+m by omega,show (10 * (10 * n+m)+k) % 10=k by omega,a2b _ (by omega),show (10 * n+m) / 10=n by omega,show (10 * n+m) % 10=m by omega,Lib.decDigits_one (by omega),a7z hn,a7z hm,a7z hk,a7z hj];rfl
   rw [hv,a4s,e,b4w h4.1,pu hn n9 (by omega),pu hm m9 (by omega),pu hk k9 (by omega),pu hj j9 (by omega)]
   refine ⟨rfl,by omega,by omega,?_⟩
   rw [Lib.parseUint10,e9e (by omega)]
   congr 1;omega
 ·cases h
theorem b0y (n:Nat) (h:n < 10):f2l (UInt8.ofNat (48+n))=true∧((UInt8.ofNat (48+n)).toNat:Int) - 48=n:=by
 have:(UInt8.ofNat (48+n)).toNat=48+n:=by simp;omega
 unfold f2l
 rw [this]
 simp
 omega
theorem e0i (n:Nat) (h:n < 10) (h0:n≠0):UInt8.ofNat (48+n)≠48:=fun e=>by
 have h2:(UInt8.ofNat (48+n)).toNat=48+n:=by simp;omega
 rw [e] at h2
 have:(48:UInt8).toNat=48:=rfl
 omega
theorem b5m (v:Int) (h0:0≤v) (h1:v≤9999):b1r (Lib.itoa v)=some v:=by
 obtain ⟨n,rfl⟩:=Int.eq_ofNat_of_zero_le h0
 have hi:Lib.itoa ((n:Nat):Int)=Lib.decDigits n:=by unfold Lib.itoa;rw [if_neg (by omega),Int.toNat_natCast]
 rw [hi]
 have hn:n≤9999:=by omega
 by_cases c1:n < 10
 ·rw [Lib.decDigits_one c1]
  obtain ⟨a1,a2⟩:=b0y n c1
  unfold b1r
  rw [if_pos ⟨by simp,by simp,by simp,by simp [-UInt8.ofNat_add,a1]⟩]
  simp only [d4h,List.foldl,Option.some.injEq]
  omega
 by_cases c2:n < 100
 ·rw [a2b _ c1,Lib.decDigits_one (by omega)]
  obtain ⟨a1,a2⟩:=b0y (n / 10) (by omega)
  obtain ⟨b1,b2⟩:=b0y (n % 10) (by omega)
  have hne:=e0i (n / 10) (by omega) (by omega)
  unfold b1r
  rw [if_pos ⟨by simp,by simp,by simp [-UInt8.ofNat_add,hne],by simp [-UInt8.ofNat_add,a1,b1]⟩]
  simp only [d4h,List.foldl,Option.some.injEq,List.cons_append,List.nil_append]
  omega
 by_cases c3:n < 1000
 ·rw [a2b _ c1,a2b (n / 10) (by omega),Lib.decDigits_one (by omega)]
  obtain ⟨a1,a2⟩:=b0y (n / 10 / 10) (by omega)
  obtain ⟨b1,b2⟩:=b0y (n / 10 % 10) (by omega)
  obtain ⟨d1,d2⟩:=b0y (n % 10) (by omega)
  have hne:=e0i (n / 10 / 10) (by omega) (by omega)
  unfold b1r
  rw [if_pos ⟨by simp,by simp,by simp [-UInt8.ofNat_add,hne],by simp [-UInt8.ofNat_add,a1,b1,d1]⟩]
  simp only [d4h,List.foldl,Option.some.injEq,List.cons_append,List.nil_append]
  omega
 ·rw [a2b _ c1,a2b (n / 10) (by omega),a2b (n / 10 / 10) (by omega),Lib.decDigits_one (by omega)]
  obtain ⟨a1,a2⟩:=b0y (n / 10 / 10 / 10) (by omega)
  obtain ⟨b1,b2⟩:=b0y (n / 10 / 10 % 10) (by omega)
  obtain ⟨d1,d2⟩:=b0y (n / 10 % 10) (by omega)
  obtain ⟨e1,e2⟩:=b0y (n % 10) (by omega)
  have hne:=e0i (n / 10 / 10 / 10) (by omega) (by omega)
  unfold b1r
  rw [if_pos ⟨by simp,by simp,by simp [-UInt8.ofNat_add,hne],by simp [-UInt8.ofNat_add,a1,b1,d1,e1]⟩]
  simp only [d4h,List.foldl,Option.some.injEq,List.cons_append,List.nil_append]
  omega
theorem d8r (s:ByteArray) (v:Int) (h:Lib.atoiAll s.data.toList=.ok v):(inB v 0 9999=true∧a3u v=s)∧a3z s=some v∨¬ (inB v 0 9999=true∧a3u v=s)∧a3z s=none:=by
 by_cases c:inB v 0 9999=true∧a3u v=s
 ·refine .inl ⟨c,?_⟩
  have hh:=c.1
  simp [inB] at hh
  have e:Lib.itoa v=s.data.toList:=by rw [← c.2,a3u,c0m]
  rw [a3z,← e]
  exact b5m v hh.1 hh.2
 ·refine .inr ⟨c,?_⟩
  cases hv:a3z s with
  |none=>rfl
  |some u =>
   obtain ⟨h1,h2,h3,h4⟩:=b3b hv
   rw [h4] at h
   injection h with h
   subst h
   exact (c ⟨by simp [inB,h2,h3],by rw [a3u,h1,c9p]⟩).elim
def a1o (l:List ByteArray):ByteArray:=bA ([32].intercalate (l.map (·.data.toList)))
def a4c (l:List ByteArray):Bool:=decide (0 < l.length) && l.all a1p
def a4i:ByteArray:=⟨#[99,104,97,112,116,101,114]⟩
def b1w:ByteArray:=⟨#[108,105,110,101]⟩
def a7v:ByteArray:=⟨#[99,111,112,121]⟩
def a3e:ByteArray:=⟨#[111,109,105,116]⟩
def a6i:ByteArray:=⟨#[112,117,116]⟩
def a1v:ByteArray:=⟨#[111,116,104,101,114]⟩
end Go.Proofs.YtmjhfccbbfpppaaGreatDoor
