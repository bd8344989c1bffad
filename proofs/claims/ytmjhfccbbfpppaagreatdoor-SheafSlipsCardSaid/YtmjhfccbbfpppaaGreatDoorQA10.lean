import Derived.Lib.ItoaNum
import Derived.Lib.AtoiAllCases
import Derived.Lib.SplitLaws
import Derived.Test.YtmjhfccbbfpppaaGreatDoorQA08
namespace Go.Proofs.YtmjhfccbbfpppaaGreatDoor
open Go Pm
set_option linter.unusedSimpArgs false
set_option linter.unusedVariables false
theorem b9y {a b:ByteArray} (h:a.data.toList=b.data.toList):a=b:=by
 cases a with
 |mk a=>cases b with
  |mk b=>congr 1;exact Array.toList_inj.1 h
def bA (l:List UInt8):ByteArray:=⟨l.toArray⟩
theorem a6k (l:List UInt8):(bA l).data.toList=l:=by simp [bA]
theorem c7w (l:List UInt8):(bA l).size=l.length:=by simp [bA,ByteArray.size]
theorem c0y (s:ByteArray):bA s.data.toList=s:=b9y (a6k _)
def a2q:List UInt8→List (List UInt8)
 |[]=>[[]]
 |b::r=>if b=32 then []::a2q r else match a2q r with
  |[]=>[[b]]
  |x::l=>(b::x)::l
theorem b5x:∀ l,a2q l≠[]
 |[]=>by simp [a2q]
 |b::r=>by
  unfold a2q
  split
  ·simp
  ·split<;>simp
def a1l (s:ByteArray):List ByteArray:=(a2q s.data.toList).map bA
theorem c5m (s:ByteArray):a1l s≠[]:=by simp [a1l,b5x]
theorem b9u (s:ByteArray):0 < (a1l s).length:=List.length_pos_iff.2 (c5m s)
theorem b8j:∀ l,(a2q l).length≤l.length+1
 |[]=>by simp [a2q]
 |b::r=>by
  have:=b8j r
  unfold a2q
  split
  ·simp;omega
  ·split
   ·simp
   ·rename_i e;rw [e] at this;simp at this ⊢;omega
theorem b0a (s:ByteArray):(a1l s).length≤s.size+1:=by
 have:=b8j s.data.toList
 simpa [a1l] using this
theorem b5m:∀ l,∀ x ∈ a2q l,x.length≤l.length
 |[]=>by simp [a2q]
 |b::r=>by
  have ih:=b5m r
  unfold a2q
  split
  ·intro x hx
   rcases List.mem_cons.1 hx with rfl|hx
   ·simp
   ·have:=ih x hx;simp;omega
  ·split
   ·simp
   ·rename_i y l e
    intro x hx
    rcases List.mem_cons.1 hx with rfl|hx
    ·have:=ih y (by rw [e];simp);simp;omega
    ·have:=ih x (by rw [e];simp [hx]);simp;omega
theorem b5q (s:ByteArray):∀ x ∈ a1l s,x.size≤s.size:=by
 intro x hx
 simp only [a1l,List.mem_map] at hx
 obtain ⟨y,hy,rfl⟩:=hx
 have:=b5m _ y hy
 rw [c7w];simpa using this
theorem b6k:∀ l:List UInt8,(∀ b ∈ l,b≠32)→a2q l=[l]
 |[],_=>rfl
 |b::r,h=>by
  rw [a2q,if_neg (h b (by simp)),b6k r (fun x hx=>h x (by simp [hx]))]
def a2h (n:Int):ByteArray:=bA (Lib.itoa n)
def f1x (b:UInt8):Bool:=decide (48≤(b.toNat:Int)) && decide ((b.toNat:Int)≤57)
def d1z (l:List UInt8):Int:=l.foldl (fun n b=>10 * n+((b.toNat:Int) - 48)) 0
def b0p (l:List UInt8):Option Int:=if 1≤l.length∧l.length≤4∧¬ (1 < l.length∧l.head? = some 48)∧l.all f1x=true then some (d1z l) else none
def a5j (s:ByteArray):Option Int:=b0p s.data.toList
theorem e1l {b:UInt8} (h:f1x b=true):48≤b.toNat∧b.toNat≤57:=by simp [f1x] at h;omega
theorem a7e {b:UInt8} {n:Nat} (h:b.toNat=n):UInt8.ofNat n=b:=by rw [← h];exact UInt8.ofNat_toNat
theorem a1u (n:Nat) (h:¬ n < 10):Lib.decDigits n=Lib.decDigits (n / 10)++[UInt8.ofNat (48+n % 10)]:=by rw [Lib.decDigits,dif_neg h]
theorem pu {acc n:Nat} {b:UInt8} {r:List UInt8} (hb:b.toNat=48+n) (hn:n≤9) (ha:acc≤1000):Lib.parseUint10 acc (b::r)=Lib.parseUint10 (acc * 10+n) r:=by
 rw [Lib.parseUint10,if_pos (by omega),if_neg (by omega),if_neg (by omega)]
 congr 1;omega
theorem a4o (n:Nat):Lib.itoa (n:Int)=Lib.decDigits n:=by unfold Lib.itoa;rw [if_neg (by omega),Int.toNat_natCast]
theorem b4k {a:UInt8} {r:List UInt8} (h:f1x a=true):Lib.atoiAll (a::r)=Lib.signless (Lib.parseUint10 0 (a::r)):=by
 have:=e1l h
 rw [Lib.atoiAll_plain _ _ (by omega) (by omega)]
 simp [Lib.parseMag]
theorem e5r {n:Nat} (h:n≤9999):Lib.signless (.ok n)=.ok (n:Int):=by simp [Lib.signless];omega
theorem b7n {b:UInt8} (h:f1x b=true):∃ n,b.toNat=48+n∧n≤9:=⟨b.toNat - 48,by have:=e1l h;omega⟩
theorem b9r {l:List UInt8} {v:Int} (h:b0p l=some v):Lib.itoa v=l∧0≤v∧v≤9999∧Lib.atoiAll l=.ok v:=by
 unfold b0p at h
 split at h
 ·rename_i hh
  obtain ⟨h1,h2,h3,h4⟩:=hh
  cases h
  match l,h1,h2,h3,h4 with
  |[a],_,_,h3,h4 =>
   simp at h4
   obtain ⟨n,hn,n9⟩:=b7n h4
   have hv:d1z [a]=(n:Int):=by simp [d1z];omega
   have e:Lib.decDigits n=[a]:=by rw [Lib.decDigits_one (by omega),a7e hn]
   rw [hv,a4o,e,b4k h4,pu hn n9 (by omega)]
   refine ⟨rfl,by omega,by omega,?_⟩
   rw [Lib.parseUint10,e5r (by omega)]
   congr 1;omega
  |[a,b],_,_,h3,h4 =>
   simp at h4 h3
   obtain ⟨n,hn,n9⟩:=b7n h4.1
   obtain ⟨m,hm,m9⟩:=b7n h4.2
   have h0:a.toNat≠48:=fun e=>h3 (UInt8.toNat_inj.1 e)
   have hv:d1z [a,b]=((10 * n+m:Nat):Int):=by simp [d1z];omega
   have e:Lib.decDigits (10 * n+m)=[a,b]:=by
    rw [a1u _ (by omega),show (10 * n+m) / 10=n by omega,show (10 * n+m) % 10=m by omega,Lib.decDigits_one (by omega),a7e hn,a7e hm];rfl
   rw [hv,a4o,e,b4k h4.1,pu hn n9 (by omega),pu hm m9 (by omega)]
   refine ⟨rfl,by omega,by omega,?_⟩
   rw [Lib.parseUint10,e5r (by omega)]
   congr 1;omega
  |[a,b,c],_,_,h3,h4 =>
   simp at h4 h3
   obtain ⟨n,hn,n9⟩:=b7n h4.1
   obtain ⟨m,hm,m9⟩:=b7n h4.2.1
   obtain ⟨k,hk,k9⟩:=b7n h4.2.2
   have h0:a.toNat≠48:=fun e=>h3 (UInt8.toNat_inj.1 e)
   have hv:d1z [a,b,c]=((10 * (10 * n+m)+k:Nat):Int):=by simp [d1z];omega
   have e:Lib.decDigits (10 * (10 * n+m)+k)=[a,b,c]:=by
    rw [a1u _ (by omega),show (10 * (10 * n+m)+k) / 10=10 * n+m by omega,show (10 * (10 * n+m)+k) % 10=k by omega,a1u _ (by omega),show (10 * n+m) / 10=n by omega,show (10 * n+m) % 10=m by omega,Lib.decDigits_one (by omega),a7e hn,a7e hm,a7e hk];rfl
   rw [hv,a4o,e,b4k h4.1,pu hn n9 (by omega),pu hm m9 (by omega),pu hk k9 (by omega)]
   refine ⟨rfl,by omega,by omega,?_⟩
   rw [Lib.parseUint10,e5r (by omega)]
   congr 1;omega
  |[a,b,c,d],_,_,h3,h4 =>
   simp at h4 h3
   obtain ⟨n,hn,n9⟩:=b7n h4.1
   obtain ⟨m,hm,m9⟩:=b7n h4.2.1
   obtain ⟨k,hk,k9⟩:=b7n h4.2.2.1
   obtain ⟨j,hj,j9⟩:=b7n h4.2.2.2
   have h0:a.toNat≠48:=fun e=>h3 (UInt8.toNat_inj.1 e)
   have hv:d1z [a,b,c,d]=((10 * (10 * (10 * n+m)+k)+j:Nat):Int):=by simp [d1z];omega
   have e:Lib.decDigits (10 * (10 * (10 * n+m)+k)+j)=[a,b,c,d]:=by
    rw [a1u _ (by omega),show (10 * (10 * (10 * n+m)+k)+j) / 10=10 * (10 * n+m)+k by omega,show (10 * (10 * (10 * n+m)+k)+j) % 10=j by omega,a1u _ (by omega),show (10 * (10 * n+m)+k) / 10=10 * n+m by omega,show (10 * (10 * n+m)+k) % 10=k by omega,a1u _ (by omega),show (10 * n+m) / 10=n by omega,show (10 * n+m) % 10=m by omega,Lib.decDigits_one (by omega),a7e hn,a7e hm,a7e hk,a7e hj];rfl
   rw [hv,a4o,e,b4k h4.1,pu hn n9 (by omega),pu hm m9 (by omega),pu hk k9 (by omega),pu hj j9 (by omega)]
   refine ⟨rfl,by omega,by omega,?_⟩
   rw [Lib.parseUint10,e5r (by omega)]
   congr 1;omega
 ·cases h
theorem b0o (n:Nat) (h:n < 10):f1x (UInt8.ofNat (48+n))=true∧((UInt8.ofNat (48+n)).toNat:Int) - 48=n:=by
 have:(UInt8.ofNat (48+n)).toNat=48+n:=by simp;omega
 unfold f1x
 rw [this]
 simp
 omega
theorem d7r (n:Nat) (h:n < 10) (h0:n≠0):UInt8.ofNat (48+n)≠48:=fun e=>by
 have h2:(UInt8.ofNat (48+n)).toNat=48+n:=by simp;omega
 rw [e] at h2
 have:(48:UInt8).toNat=48:=rfl
 omega
theorem a7y (v:Int) (h0:0≤v) (h1:v≤9999):b0p (Lib.itoa v)=some v:=by
 obtain ⟨n,rfl⟩:=Int.eq_ofNat_of_zero_le h0
 have hi:Lib.itoa ((n:Nat):Int)=Lib.decDigits n:=by unfold Lib.itoa;rw [if_neg (by omega),Int.toNat_natCast]
 rw [hi]
 have hn:n≤9999:=by omega
 by_cases c1:n < 10
 ·rw [Lib.decDigits_one c1]
  obtain ⟨a1,a2⟩:=b0o n c1
  unfold b0p
  rw [if_pos ⟨by simp,by simp,by simp,by simp [-UInt8.ofNat_add,a1]⟩]
  simp only [d1z,List.foldl,Option.some.injEq]
  omega
 by_cases c2:n < 100
 ·rw [a1u _ c1,Lib.decDigits_one (by omega)]
  obtain ⟨a1,a2⟩:=b0o (n / 10) (by omega)
  obtain ⟨b1,b2⟩:=b0o (n % 10) (by omega)
  have hne:=d7r (n / 10) (by omega) (by omega)
  unfold b0p
  rw [if_pos ⟨by simp,by simp,by simp [-UInt8.ofNat_add,hne],by simp [-UInt8.ofNat_add,a1,b1]⟩]
  simp only [d1z,List.foldl,Option.some.injEq,List.cons_append,List.nil_append]
  omega
 by_cases c3:n < 1000
 ·rw [a1u _ c1,a1u (n / 10) (by omega),Lib.decDigits_one (by omega)]
  obtain ⟨a1,a2⟩:=b0o (n / 10 / 10) (by omega)
  obtain ⟨b1,b2⟩:=b0o (n / 10 % 10) (by omega)
  obtain ⟨d1,d2⟩:=b0o (n % 10) (by omega)
  have hne:=d7r (n / 10 / 10) (by omega) (by omega)
  unfold b0p
  rw [if_pos ⟨by simp,by simp,by simp [-UInt8.ofNat_add,hne],by simp [-UInt8.ofNat_add,a1,b1,d1]⟩]
  simp only [d1z,List.foldl,Option.some.injEq,List.cons_append,List.nil_append]
  omega
 ·rw [a1u _ c1,a1u (n / 10) (by omega),a1u (n / 10 / 10) (by omega),Lib.decDigits_one (by omega)]
  obtain ⟨a1,a2⟩:=b0o (n / 10 / 10 / 10) (by omega)
  obtain ⟨b1,b2⟩:=b0o (n / 10 / 10 % 10) (by omega)
  obtain ⟨d1,d2⟩:=b0o (n / 10 % 10) (by omega)
  obtain ⟨e1,e2⟩:=b0o (n % 10) (by omega)
  have hne:=d7r (n / 10 / 10 / 10) (by omega) (by omega)
  unfold b0p
  rw [if_pos ⟨by simp,by simp,by simp [-UInt8.ofNat_add,hne],by simp [-UInt8.ofNat_add,a1,b1,d1,e1]⟩]
  simp only [d1z,List.foldl,Option.some.injEq,List.cons_append,List.nil_append]
  omega
theorem e3y (s:ByteArray) (v:Int) (h:Lib.atoiAll s.data.toList=.ok v):(inB v 0 9999=true∧a2h v=s)∧a5j s=some v∨¬ (inB v 0 9999=true∧a2h v=s)∧a5j s=none:=by
 by_cases c:inB v 0 9999=true∧a2h v=s
 ·refine .inl ⟨c,?_⟩
  have hh:=c.1
  simp [inB] at hh
  have e:Lib.itoa v=s.data.toList:=by rw [← c.2,a2h,a6k]
  rw [a5j,← e]
  exact a7y v hh.1 hh.2
 ·refine .inr ⟨c,?_⟩
  cases hv:a5j s with
  |none=>rfl
  |some u =>
   obtain ⟨h1,h2,h3,h4⟩:=b9r hv
   rw [h4] at h
   injection h with h
   subst h
   exact (c ⟨by simp [inB,h2,h3],by rw [a2h,h1,c0y]⟩).elim
def a0w (l:List ByteArray):ByteArray:=bA ([32].intercalate (l.map (·.data.toList)))
def a3q (l:List ByteArray):Bool:=decide (0 < l.length) && l.all a1b
def a7z:ByteArray:=⟨#[99,104,97,112,116,101,114]⟩
def d3o:ByteArray:=⟨#[108,105,110,101]⟩
def b3k:ByteArray:=⟨#[99,111,112,121]⟩
def b7t:ByteArray:=⟨#[111,109,105,116]⟩
def e4x:ByteArray:=⟨#[112,117,116]⟩
def b0r:ByteArray:=⟨#[111,116,104,101,114]⟩
end Go.Proofs.YtmjhfccbbfpppaaGreatDoor
