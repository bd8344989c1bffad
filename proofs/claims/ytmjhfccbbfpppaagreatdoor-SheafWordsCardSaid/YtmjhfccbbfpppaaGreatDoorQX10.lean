import Derived.Lib.ItoaNum
import Derived.Lib.AtoiAllCases
import Derived.Lib.SplitLaws
import Derived.Test.YtmjhfccbbfpppaaGreatDoorQX09
namespace Go.Proofs.YtmjhfccbbfpppaaGreatDoor
open Go Pm
set_option linter.unusedSimpArgs false
set_option linter.unusedVariables false
theorem b5r {a b:ByteArray} (h:a.data.toList=b.data.toList):a=b:=by
 cases a with
 |mk a=>cases b with
  |mk b=>congr 1;exact Array.toList_inj.1 h
def bA (l:List UInt8):ByteArray:=⟨l.toArray⟩
theorem a7e (l:List UInt8):(bA l).data.toList=l:=by simp [bA]
theorem c8e (l:List UInt8):(bA l).size=l.length:=by simp [bA,ByteArray.size]
theorem c0i (s:ByteArray):bA s.data.toList=s:=b5r (a7e _)
def a2x:List UInt8→List (List UInt8)
 |[]=>[[]]
 |b::r=>if b=32 then []::a2x r else match a2x r with
  |[]=>[[b]]
  |x::l=>(b::x)::l
theorem b7j:∀ l,a2x l≠[]
 |[]=>by simp [a2x]
 |b::r=>by
  unfold a2x
  split
  ·simp
  ·split<;>simp
def a1n (s:ByteArray):List ByteArray:=(a2x s.data.toList).map bA
theorem b6k (s:ByteArray):a1n s≠[]:=by simp [a1n,b7j]
theorem d2k (s:ByteArray):0 < (a1n s).length:=List.length_pos_iff.2 (b6k s)
theorem b9g:∀ l,(a2x l).length≤l.length+1
 |[]=>by simp [a2x]
 |b::r=>by
  have:=b9g r
  unfold a2x
  split
  ·simp;omega
  ·split
   ·simp
   ·rename_i e;rw [e] at this;simp at this ⊢;omega
theorem b2y (s:ByteArray):(a1n s).length≤s.size+1:=by
 have:=b9g s.data.toList
 simpa [a1n] using this
theorem b6p:∀ l,∀ x ∈ a2x l,x.length≤l.length
 |[]=>by simp [a2x]
 |b::r=>by
  have ih:=b6p r
  unfold a2x
  split
  ·intro x hx
   rcases List.mem_cons.1 hx with rfl|hx
   ·simp
   ·have:=ih x hx;simp;omega
  ·split
   ·simp
   ·rename_i y l e
    intro x hx
    rcases List.mem_cons.1 hx with rfl|hx
    ·have:=ih y (by rw [e];simp);simp;omega
    ·have:=ih x (by rw [e];simp [hx]);simp;omega
theorem b7k (s:ByteArray):∀ x ∈ a1n s,x.size≤s.size:=by
 intro x hx
 simp only [a1n,List.mem_map] at hx
 obtain ⟨y,hy,rfl⟩:=hx
 have:=b6p _ y hy
 rw [c8e];simpa using this
theorem b7f:∀ l:List UInt8,(∀ b ∈ l,b≠32)→a2x l=[l]
 |[],_=>rfl
 |b::r,h=>by
  rw [a2x,if_neg (h b (by simp)),b7f r (fun x hx=>h x (by simp [hx]))]
def a2d (n:Int):ByteArray:=bA (Lib.itoa n)
def e9n (b:UInt8):Bool:=decide (48≤(b.toNat:Int)) && decide ((b.toNat:Int)≤57)
def d3g (l:List UInt8):Int:=l.foldl (fun n b=>10 * n+((b.toNat:Int) - 48)) 0
def b0k (l:List UInt8):Option Int:=if 1≤l.length∧l.length≤4∧¬ (1 < l.length∧l.head? = some 48)∧l.all e9n=true then some (d3g l) else none
def a4c (s:ByteArray):Option Int:=b0k s.data.toList
theorem d8z {b:UInt8} (h:e9n b=true):48≤b.toNat∧b.toNat≤57:=by simp [e9n] at h;omega
theorem a7b {b:UInt8} {n:Nat} (h:b.toNat=n):UInt8.ofNat n=b:=by rw [← h];exact UInt8.ofNat_toNat
theorem a1y (n:Nat) (h:¬ n < 10):Lib.decDigits n=Lib.decDigits (n / 10)++[UInt8.ofNat (48+n % 10)]:=by rw [Lib.decDigits,dif_neg h]
theorem pu {acc n:Nat} {b:UInt8} {r:List UInt8} (hb:b.toNat=48+n) (hn:n≤9) (ha:acc≤1000):Lib.parseUint10 acc (b::r)=Lib.parseUint10 (acc * 10+n) r:=by
 rw [Lib.parseUint10,if_pos (by omega),if_neg (by omega),if_neg (by omega)]
 congr 1;omega
theorem a4m (n:Nat):Lib.itoa (n:Int)=Lib.decDigits n:=by unfold Lib.itoa;rw [if_neg (by omega),Int.toNat_natCast]
theorem b4k {a:UInt8} {r:List UInt8} (h:e9n a=true):Lib.atoiAll (a::r)=Lib.signless (Lib.parseUint10 0 (a::r)):=by
 have:=d8z h
 rw [Lib.atoiAll_plain _ _ (by omega) (by omega)]
 simp [Lib.parseMag]
theorem e5v {n:Nat} (h:n≤9999):Lib.signless (.ok n)=.ok (n:Int):=by simp [Lib.signless];omega
theorem b7s {b:UInt8} (h:e9n b=true):∃ n,b.toNat=48+n∧n≤9:=⟨b.toNat - 48,by have:=d8z h;omega⟩
theorem b8i {l:List UInt8} {v:Int} (h:b0k l=some v):Lib.itoa v=l∧0≤v∧v≤9999∧Lib.atoiAll l=.ok v:=by
 unfold b0k at h
 split at h
 ·rename_i hh
  obtain ⟨h1,h2,h3,h4⟩:=hh
  cases h
  match l,h1,h2,h3,h4 with
  |[a],_,_,h3,h4 =>
   simp at h4
   obtain ⟨n,hn,n9⟩:=b7s h4
   have hv:d3g [a]=(n:Int):=by simp [d3g];omega
   have e:Lib.decDigits n=[a]:=by rw [Lib.decDigits_one (by omega),a7b hn]
   rw [hv,a4m,e,b4k h4,pu hn n9 (by omega)]
   refine ⟨rfl,by omega,by omega,?_⟩
   rw [Lib.parseUint10,e5v (by omega)]
   congr 1;omega
  |[a,b],_,_,h3,h4 =>
   simp at h4 h3
   obtain ⟨n,hn,n9⟩:=b7s h4.1
   obtain ⟨m,hm,m9⟩:=b7s h4.2
   have h0:a.toNat≠48:=fun e=>h3 (UInt8.toNat_inj.1 e)
   have hv:d3g [a,b]=((10 * n+m:Nat):Int):=by simp [d3g];omega
   have e:Lib.decDigits (10 * n+m)=[a,b]:=by
    rw [a1y _ (by omega),show (10 * n+m) / 10=n by omega,show (10 * n+m) % 10=m by omega,Lib.decDigits_one (by omega),a7b hn,a7b hm];rfl
   rw [hv,a4m,e,b4k h4.1,pu hn n9 (by omega),pu hm m9 (by omega)]
   refine ⟨rfl,by omega,by omega,?_⟩
   rw [Lib.parseUint10,e5v (by omega)]
   congr 1;omega
  |[a,b,c],_,_,h3,h4 =>
   simp at h4 h3
   obtain ⟨n,hn,n9⟩:=b7s h4.1
   obtain ⟨m,hm,m9⟩:=b7s h4.2.1
   obtain ⟨k,hk,k9⟩:=b7s h4.2.2
   have h0:a.toNat≠48:=fun e=>h3 (UInt8.toNat_inj.1 e)
   have hv:d3g [a,b,c]=((10 * (10 * n+m)+k:Nat):Int):=by simp [d3g];omega
   have e:Lib.decDigits (10 * (10 * n+m)+k)=[a,b,c]:=by
    rw [a1y _ (by omega),show (10 * (10 * n+m)+k) / 10=10 * n+m by omega,show (10 * (10 * n+m)+k) % 10=k by omega,a1y _ (by omega),show (10 * n+m) / 10=n by omega,show (10 * n+m) % 10=m by omega,Lib.decDigits_one (by omega),a7b hn,a7b hm,a7b hk];rfl
   rw [hv,a4m,e,b4k h4.1,pu hn n9 (by omega),pu hm m9 (by omega),pu hk k9 (by omega)]
   refine ⟨rfl,by omega,by omega,?_⟩
   rw [Lib.parseUint10,e5v (by omega)]
   congr 1;omega
  |[a,b,c,d],_,_,h3,h4 =>
   simp at h4 h3
   obtain ⟨n,hn,n9⟩:=b7s h4.1
   obtain ⟨m,hm,m9⟩:=b7s h4.2.1
   obtain ⟨k,hk,k9⟩:=b7s h4.2.2.1
   obtain ⟨j,hj,j9⟩:=b7s h4.2.2.2
   have h0:a.toNat≠48:=fun e=>h3 (UInt8.toNat_inj.1 e)
   have hv:d3g [a,b,c,d]=((10 * (10 * (10 * n+m)+k)+j:Nat):Int):=by simp [d3g];omega
   have e:Lib.decDigits (10 * (10 * (10 * n+m)+k)+j)=[a,b,c,d]:=by
    rw [a1y _ (by omega),show (10 * (10 * (10 * n+m)+k)+j) / 10=10 * (10 * n+m)+k by omega,show (10 * (10 * (10 * n+m)+k)+j) % 10=j by omega,a1y _ (by omega),show (10 * (10 * n+m)+k) / 10=10 * n+m by omega,show (10 * (10 * n+m)+k) % 10=k by omega,a1y _ (by omega),show (10 * n+m) / 10=n by omega,show (10 * n+m) % 10=m by omega,Lib.decDigits_one (by omega),a7b hn,a7b hm,a7b hk,a7b hj];rfl
   rw [hv,a4m,e,b4k h4.1,pu hn n9 (by omega),pu hm m9 (by omega),pu hk k9 (by omega),pu hj j9 (by omega)]
   refine ⟨rfl,by omega,by omega,?_⟩
   rw [Lib.parseUint10,e5v (by omega)]
   congr 1;omega
 ·cases h
theorem b0o (n:Nat) (h:n < 10):e9n (UInt8.ofNat (48+n))=true∧((UInt8.ofNat (48+n)).toNat:Int) - 48=n:=by
 have:(UInt8.ofNat (48+n)).toNat=48+n:=by simp;omega
 unfold e9n
 rw [this]
 simp
 omega
theorem d9w (n:Nat) (h:n < 10) (h0:n≠0):UInt8.ofNat (48+n)≠48:=fun e=>by
 have h2:(UInt8.ofNat (48+n)).toNat=48+n:=by simp;omega
 rw [e] at h2
 have:(48:UInt8).toNat=48:=rfl
 omega
theorem a7r (v:Int) (h0:0≤v) (h1:v≤9999):b0k (Lib.itoa v)=some v:=by
 obtain ⟨n,rfl⟩:=Int.eq_ofNat_of_zero_le h0
 have hi:Lib.itoa ((n:Nat):Int)=Lib.decDigits n:=by unfold Lib.itoa;rw [if_neg (by omega),Int.toNat_natCast]
 rw [hi]
 have hn:n≤9999:=by omega
 by_cases c1:n < 10
 ·rw [Lib.decDigits_one c1]
  obtain ⟨a1,a2⟩:=b0o n c1
  unfold b0k
  rw [if_pos ⟨by simp,by simp,by simp,by simp [-UInt8.ofNat_add,a1]⟩]
  simp only [d3g,List.foldl,Option.some.injEq]
  omega
 by_cases c2:n < 100
 ·rw [a1y _ c1,Lib.decDigits_one (by omega)]
  obtain ⟨a1,a2⟩:=b0o (n / 10) (by omega)
  obtain ⟨b1,b2⟩:=b0o (n % 10) (by omega)
  have hne:=d9w (n / 10) (by omega) (by omega)
  unfold b0k
  rw [if_pos ⟨by simp,by simp,by simp [-UInt8.ofNat_add,hne],by simp [-UInt8.ofNat_add,a1,b1]⟩]
  simp only [d3g,List.foldl,Option.some.injEq,List.cons_append,List.nil_append]
  omega
 by_cases c3:n < 1000
 ·rw [a1y _ c1,a1y (n / 10) (by omega),Lib.decDigits_one (by omega)]
  obtain ⟨a1,a2⟩:=b0o (n / 10 / 10) (by omega)
  obtain ⟨b1,b2⟩:=b0o (n / 10 % 10) (by omega)
  obtain ⟨d1,d2⟩:=b0o (n % 10) (by omega)
  have hne:=d9w (n / 10 / 10) (by omega) (by omega)
  unfold b0k
  rw [if_pos ⟨by simp,by simp,by simp [-UInt8.ofNat_add,hne],by simp [-UInt8.ofNat_add,a1,b1,d1]⟩]
  simp only [d3g,List.foldl,Option.some.injEq,List.cons_append,List.nil_append]
  omega
 ·rw [a1y _ c1,a1y (n / 10) (by omega),a1y (n / 10 / 10) (by omega),Lib.decDigits_one (by omega)]
  obtain ⟨a1,a2⟩:=b0o (n / 10 / 10 / 10) (by omega)
  obtain ⟨b1,b2⟩:=b0o (n / 10 / 10 % 10) (by omega)
  obtain ⟨d1,d2⟩:=b0o (n / 10 % 10) (by omega)
  obtain ⟨e1,e2⟩:=b0o (n % 10) (by omega)
  have hne:=d9w (n / 10 / 10 / 10) (by omega) (by omega)
  unfold b0k
  rw [if_pos ⟨by simp,by simp,by simp [-UInt8.ofNat_add,hne],by simp [-UInt8.ofNat_add,a1,b1,d1,e1]⟩]
  simp only [d3g,List.foldl,Option.some.injEq,List.cons_append,List.nil_append]
  omega
theorem d9v (s:ByteArray) (v:Int) (h:Lib.atoiAll s.data.toList=.ok v):(inB v 0 9999=true∧a2d v=s)∧a4c s=some v∨¬ (inB v 0 9999=true∧a2d v=s)∧a4c s=none:=by
 by_cases c:inB v 0 9999=true∧a2d v=s
 ·refine .inl ⟨c,?_⟩
  have hh:=c.1
  simp [inB] at hh
  have e:Lib.itoa v=s.data.toList:=by rw [← c.2,a2d,a7e]
  rw [a4c,← e]
  exact a7r v hh.1 hh.2
 ·refine .inr ⟨c,?_⟩
  cases hv:a4c s with
  |none=>rfl
  |some u =>
   obtain ⟨h1,h2,h3,h4⟩:=b8i hv
   rw [h4] at h
   injection h with h
   subst h
   exact (c ⟨by simp [inB,h2,h3],by rw [a2d,h1,c0i]⟩).elim
def a1d (l:List ByteArray):ByteArray:=bA ([32].intercalate (l.map (·.data.toList)))
def a6f (l:List ByteArray):Bool:=decide (0 < l.length) && l.all a1h
def a2n:ByteArray:=⟨#[99,104,97,112,116,101,114]⟩
def a7y:ByteArray:=⟨#[108,105,110,101]⟩
def a5s:ByteArray:=⟨#[99,111,112,121]⟩
def a2w:ByteArray:=⟨#[111,109,105,116]⟩
def a5u:ByteArray:=⟨#[112,117,116]⟩
def a1m:ByteArray:=⟨#[111,116,104,101,114]⟩
end Go.Proofs.YtmjhfccbbfpppaaGreatDoor
