import Derived.Lib.ItoaNum
import Derived.Lib.AtoiAllCases
import Derived.Lib.SplitLaws
import Derived.Test.YtmjhfccbbfpppaaGreatDoorQB08
namespace Go.Proofs.YtmjhfccbbfpppaaGreatDoor
open Go Pm
set_option linter.unusedSimpArgs false
set_option linter.unusedVariables false
theorem b6j {a b:ByteArray} (h:a.data.toList=b.data.toList):a=b:=by
 cases a with
 |mk a=>cases b with
  |mk b=>congr 1;exact Array.toList_inj.1 h
def bA (l:List UInt8):ByteArray:=⟨l.toArray⟩
theorem a7l (l:List UInt8):(bA l).data.toList=l:=by simp [bA]
theorem d0b (l:List UInt8):(bA l).size=l.length:=by simp [bA,ByteArray.size]
theorem c0v (s:ByteArray):bA s.data.toList=s:=b6j (a7l _)
def a2t:List UInt8→List (List UInt8)
 |[]=>[[]]
 |b::r=>if b=32 then []::a2t r else match a2t r with
  |[]=>[[b]]
  |x::l=>(b::x)::l
theorem b6l:∀ l,a2t l≠[]
 |[]=>by simp [a2t]
 |b::r=>by
  unfold a2t
  split
  ·simp
  ·split<;>simp
def a1o (s:ByteArray):List ByteArray:=(a2t s.data.toList).map bA
theorem c4o (s:ByteArray):a1o s≠[]:=by simp [a1o,b6l]
theorem d3n (s:ByteArray):0 < (a1o s).length:=List.length_pos_iff.2 (c4o s)
theorem c0n:∀ l,(a2t l).length≤l.length+1
 |[]=>by simp [a2t]
 |b::r=>by
  have:=c0n r
  unfold a2t
  split
  ·simp;omega
  ·split
   ·simp
   ·rename_i e;rw [e] at this;simp at this ⊢;omega
theorem c0a (s:ByteArray):(a1o s).length≤s.size+1:=by
 have:=c0n s.data.toList
 simpa [a1o] using this
theorem b7e:∀ l,∀ x ∈ a2t l,x.length≤l.length
 |[]=>by simp [a2t]
 |b::r=>by
  have ih:=b7e r
  unfold a2t
  split
  ·intro x hx
   rcases List.mem_cons.1 hx with rfl|hx
   ·simp
   ·have:=ih x hx;simp;omega
  ·split
   ·simp
   ·rename_i y l e
    intro x hx
    rcases List.mem_cons.1 hx with rfl|hx
    ·have:=ih y (by rw [e];simp);simp;omega
    ·have:=ih x (by rw [e];simp [hx]);simp;omega
theorem c8z (s:ByteArray):∀ x ∈ a1o s,x.size≤s.size:=by
 intro x hx
 simp only [a1o,List.mem_map] at hx
 obtain ⟨y,hy,rfl⟩:=hx
 have:=b7e _ y hy
 rw [d0b];simpa using this
theorem b6m:∀ l:List UInt8,(∀ b ∈ l,b≠32)→a2t l=[l]
 |[],_=>rfl
 |b::r,h=>by
  rw [a2t,if_neg (h b (by simp)),b6m r (fun x hx=>h x (by simp [hx]))]
def a1q (n:Int):ByteArray:=bA (Lib.itoa n)
def f2s (b:UInt8):Bool:=decide (48≤(b.toNat:Int)) && decide ((b.toNat:Int)≤57)
def d3p (l:List UInt8):Int:=l.foldl (fun n b=>10 * n+((b.toNat:Int) - 48)) 0
def b1c (l:List UInt8):Option Int:=if 1≤l.length∧l.length≤4∧¬ (1 < l.length∧l.head? = some 48)∧l.all f2s=true then some (d3p l) else none
def a4d (s:ByteArray):Option Int:=b1c s.data.toList
theorem d9s {b:UInt8} (h:f2s b=true):48≤b.toNat∧b.toNat≤57:=by simp [f2s] at h;omega
theorem a7i {b:UInt8} {n:Nat} (h:b.toNat=n):UInt8.ofNat n=b:=by rw [← h];exact UInt8.ofNat_toNat
theorem a1v (n:Nat) (h:¬ n < 10):Lib.decDigits n=Lib.decDigits (n / 10)++[UInt8.ofNat (48+n % 10)]:=by rw [Lib.decDigits,dif_neg h]
theorem pu {acc n:Nat} {b:UInt8} {r:List UInt8} (hb:b.toNat=48+n) (hn:n≤9) (ha:acc≤1000):Lib.parseUint10 acc (b::r)=Lib.parseUint10 (acc * 10+n) r:=by
 rw [Lib.parseUint10,if_pos (by omega),if_neg (by omega),if_neg (by omega)]
 congr 1;omega
theorem a4n (n:Nat):Lib.itoa (n:Int)=Lib.decDigits n:=by unfold Lib.itoa;rw [if_neg (by omega),Int.toNat_natCast]
theorem b5g {a:UInt8} {r:List UInt8} (h:f2s a=true):Lib.atoiAll (a::r)=Lib.signless (Lib.parseUint10 0 (a::r)):=by
 have:=d9s h
 rw [Lib.atoiAll_plain _ _ (by omega) (by omega)]
 simp [Lib.parseMag]
theorem e8z {n:Nat} (h:n≤9999):Lib.signless (.ok n)=.ok (n:Int):=by simp [Lib.signless];omega
theorem b8c {b:UInt8} (h:f2s b=true):∃ n,b.toNat=48+n∧n≤9:=⟨b.toNat - 48,by have:=d9s h;omega⟩
theorem b3h {l:List UInt8} {v:Int} (h:b1c l=some v):Lib.itoa v=l∧0≤v∧v≤9999∧Lib.atoiAll l=.ok v:=by
 unfold b1c at h
 split at h
 ·rename_i hh
  obtain ⟨h1,h2,h3,h4⟩:=hh
  cases h
  match l,h1,h2,h3,h4 with
  |[a],_,_,h3,h4 =>
   simp at h4
   obtain ⟨n,hn,n9⟩:=b8c h4
   have hv:d3p [a]=(n:Int):=by simp [d3p];omega
   have e:Lib.decDigits n=[a]:=by rw [Lib.decDigits_one (by omega),a7i hn]
   rw [hv,a4n,e,b5g h4,pu hn n9 (by omega)]
   refine ⟨rfl,by omega,by omega,?_⟩
   rw [Lib.parseUint10,e8z (by omega)]
   congr 1;omega
  |[a,b],_,_,h3,h4 =>
   simp at h4 h3
   obtain ⟨n,hn,n9⟩:=b8c h4.1
   obtain ⟨m,hm,m9⟩:=b8c h4.2
   have h0:a.toNat≠48:=fun e=>h3 (UInt8.toNat_inj.1 e)
   have hv:d3p [a,b]=((10 * n+m:Nat):Int):=by simp [d3p];omega
   have e:Lib.decDigits (10 * n+m)=[a,b]:=by
    rw [a1v _ (by omega),show (10 * n+m) / 10=n by omega,show (10 * n+m) % 10=m by omega,Lib.decDigits_one (by omega),a7i hn,a7i hm];rfl
   rw [hv,a4n,e,b5g h4.1,pu hn n9 (by omega),pu hm m9 (by omega)]
   refine ⟨rfl,by omega,by omega,?_⟩
   rw [Lib.parseUint10,e8z (by omega)]
   congr 1;omega
  |[a,b,c],_,_,h3,h4 =>
   simp at h4 h3
   obtain ⟨n,hn,n9⟩:=b8c h4.1
   obtain ⟨m,hm,m9⟩:=b8c h4.2.1
   obtain ⟨k,hk,k9⟩:=b8c h4.2.2
   have h0:a.toNat≠48:=fun e=>h3 (UInt8.toNat_inj.1 e)
   have hv:d3p [a,b,c]=((10 * (10 * n+m)+k:Nat):Int):=by simp [d3p];omega
   have e:Lib.decDigits (10 * (10 * n+m)+k)=[a,b,c]:=by
    rw [a1v _ (by omega),show (10 * (10 * n+m)+k) / 10=10 * n+m by omega,show (10 * (10 * n+m)+k) % 10=k by omega,a1v _ (by omega),show (10 * n+m) / 10=n by omega,show (10 * n+m) % 10=m by omega,Lib.decDigits_one (by omega),a7i hn,a7i hm,a7i hk];rfl
   rw [hv,a4n,e,b5g h4.1,pu hn n9 (by omega),pu hm m9 (by omega),pu hk k9 (by omega)]
   refine ⟨rfl,by omega,by omega,?_⟩
   rw [Lib.parseUint10,e8z (by omega)]
   congr 1;omega
  |[a,b,c,d],_,_,h3,h4 =>
   simp at h4 h3
   obtain ⟨n,hn,n9⟩:=b8c h4.1
   obtain ⟨m,hm,m9⟩:=b8c h4.2.1
   obtain ⟨k,hk,k9⟩:=b8c h4.2.2.1
   obtain ⟨j,hj,j9⟩:=b8c h4.2.2.2
   have h0:a.toNat≠48:=fun e=>h3 (UInt8.toNat_inj.1 e)
   have hv:d3p [a,b,c,d]=((10 * (10 * (10 * n+m)+k)+j:Nat):Int):=by simp [d3p];omega
   have e:Lib.decDigits (10 * (10 * (10 * n+m)+k)+j)=[a,b,c,d]:=by
    rw [a1v _ (by omega),show (10 * (10 * (10 * n+m)+k)+j) / 10=10 * (10 * n+m)+k by omega,show (10 * (10 * (10 * n+m)+k)+j) % 10=j by omega,a1v _ (by omega),show (10 * (10 * n+m)+k) / 10=10 * n+m by omega,show (10 * (10 * n+m)+k) % 10=k by omega,a1v _ (by omega),show (10 * n+m) / 10=n by omega,show (10 * n+m) % 10=m by omega,Lib.decDigits_one (by omega),a7i hn,a7i hm,a7i hk,a7i hj];rfl
   rw [hv,a4n,e,b5g h4.1,pu hn n9 (by omega),pu hm m9 (by omega),pu hk k9 (by omega),pu hj j9 (by omega)]
   refine ⟨rfl,by omega,by omega,?_⟩
   rw [Lib.parseUint10,e8z (by omega)]
   congr 1;omega
 ·cases h
theorem b1a (n:Nat) (h:n < 10):f2s (UInt8.ofNat (48+n))=true∧((UInt8.ofNat (48+n)).toNat:Int) - 48=n:=by
 have:(UInt8.ofNat (48+n)).toNat=48+n:=by simp;omega
 unfold f2s
 rw [this]
 simp
 omega
theorem d8d (n:Nat) (h:n < 10) (h0:n≠0):UInt8.ofNat (48+n)≠48:=fun e=>by
 have h2:(UInt8.ofNat (48+n)).toNat=48+n:=by simp;omega
 rw [e] at h2
 have:(48:UInt8).toNat=48:=rfl
 omega
theorem a8n (v:Int) (h0:0≤v) (h1:v≤9999):b1c (Lib.itoa v)=some v:=by
 obtain ⟨n,rfl⟩:=Int.eq_ofNat_of_zero_le h0
 have hi:Lib.itoa ((n:Nat):Int)=Lib.decDigits n:=by unfold Lib.itoa;rw [if_neg (by omega),Int.toNat_natCast]
 rw [hi]
 have hn:n≤9999:=by omega
 by_cases c1:n < 10
 ·rw [Lib.decDigits_one c1]
  obtain ⟨a1,a2⟩:=b1a n c1
  unfold b1c
  rw [if_pos ⟨by simp,by simp,by simp,by simp [-UInt8.ofNat_add,a1]⟩]
  simp only [d3p,List.foldl,Option.some.injEq]
  omega
 by_cases c2:n < 100
 ·rw [a1v _ c1,Lib.decDigits_one (by omega)]
  obtain ⟨a1,a2⟩:=b1a (n / 10) (by omega)
  obtain ⟨b1,b2⟩:=b1a (n % 10) (by omega)
  have hne:=d8d (n / 10) (by omega) (by omega)
  unfold b1c
  rw [if_pos ⟨by simp,by simp,by simp [-UInt8.ofNat_add,hne],by simp [-UInt8.ofNat_add,a1,b1]⟩]
  simp only [d3p,List.foldl,Option.some.injEq,List.cons_append,List.nil_append]
  omega
 by_cases c3:n < 1000
 ·rw [a1v _ c1,a1v (n / 10) (by omega),Lib.decDigits_one (by omega)]
  obtain ⟨a1,a2⟩:=b1a (n / 10 / 10) (by omega)
  obtain ⟨b1,b2⟩:=b1a (n / 10 % 10) (by omega)
  obtain ⟨d1,d2⟩:=b1a (n % 10) (by omega)
  have hne:=d8d (n / 10 / 10) (by omega) (by omega)
  unfold b1c
  rw [if_pos ⟨by simp,by simp,by simp [-UInt8.ofNat_add,hne],by simp [-UInt8.ofNat_add,a1,b1,d1]⟩]
  simp only [d3p,List.foldl,Option.some.injEq,List.cons_append,List.nil_append]
  omega
 ·rw [a1v _ c1,a1v (n / 10) (by omega),a1v (n / 10 / 10) (by omega),Lib.decDigits_one (by omega)]
  obtain ⟨a1,a2⟩:=b1a (n / 10 / 10 / 10) (by omega)
  obtain ⟨b1,b2⟩:=b1a (n / 10 / 10 % 10) (by omega)
  obtain ⟨d1,d2⟩:=b1a (n / 10 % 10) (by omega)
  obtain ⟨e1,e2⟩:=b1a (n % 10) (by omega)
  have hne:=d8d (n / 10 / 10 / 10) (by omega) (by omega)
  unfold b1c
  rw [if_pos ⟨by simp,by simp,by simp [-UInt8.ofNat_add,hne],by simp [-UInt8.ofNat_add,a1,b1,d1,e1]⟩]
  simp only [d3p,List.foldl,Option.some.injEq,List.cons_append,List.nil_append]
  omega
theorem e0y (s:ByteArray) (v:Int) (h:Lib.atoiAll s.data.toList=.ok v):(inB v 0 9999=true∧a1q v=s)∧a4d s=some v∨¬ (inB v 0 9999=true∧a1q v=s)∧a4d s=none:=by
 by_cases c:inB v 0 9999=true∧a1q v=s
 ·refine .inl ⟨c,?_⟩
  have hh:=c.1
  simp [inB] at hh
  have e:Lib.itoa v=s.data.toList:=by rw [← c.2,a1q,a7l]
  rw [a4d,← e]
  exact a8n v hh.1 hh.2
 ·refine .inr ⟨c,?_⟩
  cases hv:a4d s with
  |none=>rfl
  |some u =>
   obtain ⟨h1,h2,h3,h4⟩:=b3h hv
   rw [h4] at h
   injection h with h
   subst h
   exact (c ⟨by simp [inB,h2,h3],by rw [a1q,h1,c0v]⟩).elim
def a1b (l:List ByteArray):ByteArray:=bA ([32].intercalate (l.map (·.data.toList)))
def f3i (l:List ByteArray):Bool:=decide (0 < l.length) && l.all a1f
def a8c:ByteArray:=⟨#[99,104,97,112,116,101,114]⟩
def d4j:ByteArray:=⟨#[108,105,110,101]⟩
def b3k:ByteArray:=⟨#[99,111,112,121]⟩
def b8o:ByteArray:=⟨#[111,109,105,116]⟩
def e5t:ByteArray:=⟨#[112,117,116]⟩
def b1j:ByteArray:=⟨#[111,116,104,101,114]⟩
end Go.Proofs.YtmjhfccbbfpppaaGreatDoor
