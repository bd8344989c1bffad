import Derived.Lib.ItoaNum
import Derived.Lib.AtoiAllCases
import Derived.Lib.SplitLaws
import Derived.Test.YtmjhfccbbfpppaaGreatDoorQW08
namespace Go.Proofs.YtmjhfccbbfpppaaGreatDoor
open Go Pm
set_option linter.unusedSimpArgs false
set_option linter.unusedVariables false
theorem c7l {a b:ByteArray} (h:a.data.toList=b.data.toList):a=b:=by
 cases a with
 |mk a=>cases b with
  |mk b=>congr 1;exact Array.toList_inj.1 h
def bA (l:List UInt8):ByteArray:=⟨l.toArray⟩
theorem b0d (l:List UInt8):(bA l).data.toList=l:=by simp [bA]
theorem d0q (l:List UInt8):(bA l).size=l.length:=by simp [bA,ByteArray.size]
theorem b7t (s:ByteArray):bA s.data.toList=s:=c7l (b0d _)
def a3a:List UInt8→List (List UInt8)
 |[]=>[[]]
 |b::r=>if b=32 then []::a3a r else match a3a r with
  |[]=>[[b]]
  |x::l=>(b::x)::l
theorem b6v:∀ l,a3a l≠[]
 |[]=>by simp [a3a]
 |b::r=>by
  unfold a3a
  split
  ·simp
  ·split<;>simp
def a0y (s:ByteArray):List ByteArray:=(a3a s.data.toList).map bA
theorem a5m (s:ByteArray):a0y s≠[]:=by simp [a0y,b6v]
theorem c0x (s:ByteArray):0 < (a0y s).length:=List.length_pos_iff.2 (a5m s)
theorem c0f:∀ l,(a3a l).length≤l.length+1
 |[]=>by simp [a3a]
 |b::r=>by
  have:=c0f r
  unfold a3a
  split
  ·simp;omega
  ·split
   ·simp
   ·rename_i e;rw [e] at this;simp at this ⊢;omega
theorem a8u (s:ByteArray):(a0y s).length≤s.size+1:=by
 have:=c0f s.data.toList
 simpa [a0y] using this
theorem b7v:∀ l,∀ x ∈ a3a l,x.length≤l.length
 |[]=>by simp [a3a]
 |b::r=>by
  have ih:=b7v r
  unfold a3a
  split
  ·intro x hx
   rcases List.mem_cons.1 hx with rfl|hx
   ·simp
   ·have:=ih x hx;simp;omega
  ·split
   ·simp
   ·rename_i y l e
    intro x hx
    rcases List.mem_cons.1 hx with rfl|hx
    ·have:=ih y (by rw [e];simp);simp;omega
    ·have:=ih x (by rw [e];simp [hx]);simp;omega
theorem a7v (s:ByteArray):∀ x ∈ a0y s,x.size≤s.size:=by
 intro x hx
 simp only [a0y,List.mem_map] at hx
 obtain ⟨y,hy,rfl⟩:=hx
 have:=b7v _ y hy
 rw [d0q];simpa using this
theorem b7s:∀ l:List UInt8,(∀ b ∈ l,b≠32)→a3a l=[l]
 |[],_=>rfl
 |b::r,h=>by
  rw [a3a,if_neg (h b (by simp)),b7s r (fun x hx=>h x (by simp [hx]))]
def a1v (n:Int):ByteArray:=bA (Lib.itoa n)
def f3r (b:UInt8):Bool:=decide (48≤(b.toNat:Int)) && decide ((b.toNat:Int)≤57)
def d4f (l:List UInt8):Int:=l.foldl (fun n b=>10 * n+((b.toNat:Int) - 48)) 0
def b2b (l:List UInt8):Option Int:=if 1≤l.length∧l.length≤4∧¬ (1 < l.length∧l.head? = some 48)∧l.all f3r=true then some (d4f l) else none
def a3q (s:ByteArray):Option Int:=b2b s.data.toList
theorem f2x {b:UInt8} (h:f3r b=true):48≤b.toNat∧b.toNat≤57:=by simp [f3r] at h;omega
theorem a8m {b:UInt8} {n:Nat} (h:b.toNat=n):UInt8.ofNat n=b:=by rw [← h];exact UInt8.ofNat_toNat
theorem a2d (n:Nat) (h:¬ n < 10):Lib.decDigits n=Lib.decDigits (n / 10)++[UInt8.ofNat (48+n % 10)]:=by rw [Lib.decDigits,dif_neg h]
theorem pu {acc n:Nat} {b:UInt8} {r:List UInt8} (hb:b.toNat=48+n) (hn:n≤9) (ha:acc≤1000):Lib.parseUint10 acc (b::r)=Lib.parseUint10 (acc * 10+n) r:=by
 rw [Lib.parseUint10,if_pos (by omega),if_neg (by omega),if_neg (by omega)]
 congr 1;omega
theorem a5b (n:Nat):Lib.itoa (n:Int)=Lib.decDigits n:=by unfold Lib.itoa;rw [if_neg (by omega),Int.toNat_natCast]
theorem b5z {a:UInt8} {r:List UInt8} (h:f3r a=true):Lib.atoiAll (a::r)=Lib.signless (Lib.parseUint10 0 (a::r)):=by
 have:=f2x h
 rw [Lib.atoiAll_plain _ _ (by omega) (by omega)]
 simp [Lib.parseMag]
theorem f2b {n:Nat} (h:n≤9999):Lib.signless (.ok n)=.ok (n:Int):=by simp [Lib.signless];omega
theorem b9m {b:UInt8} (h:f3r b=true):∃ n,b.toNat=48+n∧n≤9:=⟨b.toNat - 48,by have:=f2x h;omega⟩
theorem b0w {l:List UInt8} {v:Int} (h:b2b l=some v):Lib.itoa v=l∧0≤v∧v≤9999∧Lib.atoiAll l=.ok v:=by
 unfold b2b at h
 split at h
 ·rename_i hh
  obtain ⟨h1,h2,h3,h4⟩:=hh
  cases h
  match l,h1,h2,h3,h4 with
  |[a],_,_,h3,h4 =>
   simp at h4
   obtain ⟨n,hn,n9⟩:=b9m h4
   have hv:d4f [a]=(n:Int):=by simp [d4f];omega
   have e:Lib.decDigits n=[a]:=by rw [Lib.decDigits_one (by omega),a8m hn]
   rw [hv,a5b,e,b5z h4,pu hn n9 (by omega)]
   refine ⟨rfl,by omega,by omega,?_⟩
   rw [Lib.parseUint10,f2b (by omega)]
   congr 1;omega
  |[a,b],_,_,h3,h4 =>
   simp at h4 h3
   obtain ⟨n,hn,n9⟩:=b9m h4.1
   obtain ⟨m,hm,m9⟩:=b9m h4.2
   have h0:a.toNat≠48:=fun e=>h3 (UInt8.toNat_inj.1 e)
   have hv:d4f [a,b]=((10 * n+m:Nat):Int):=by simp [d4f];omega
   have e:Lib.decDigits (10 * n+m)=[a,b]:=by
    rw [a2d _ (by omega),show (10 * n+m) / 10=n by omega,show (10 * n+m) % 10=m by omega,Lib.decDigits_one (by omega),a8m hn,a8m hm];rfl
   rw [hv,a5b,e,b5z h4.1,pu hn n9 (by omega),pu hm m9 (by omega)]
   refine ⟨rfl,by omega,by omega,?_⟩
   rw [Lib.parseUint10,f2b (by omega)]
   congr 1;omega
  |[a,b,c],_,_,h3,h4 =>
   simp at h4 h3
   obtain ⟨n,hn,n9⟩:=b9m h4.1
   obtain ⟨m,hm,m9⟩:=b9m h4.2.1
   obtain ⟨k,hk,k9⟩:=b9m h4.2.2
   have h0:a.toNat≠48:=fun e=>h3 (UInt8.toNat_inj.1 e)
   have hv:d4f [a,b,c]=((10 * (10 * n+m)+k:Nat):Int):=by simp [d4f];omega
   have e:Lib.decDigits (10 * (10 * n+m)+k)=[a,b,c]:=by
    rw [a2d _ (by omega),show (10 * (10 * n+m)+k) / 10=10 * n+m by omega,show (10 * (10 * n+m)+k) % 10=k by omega,a2d _ (by omega),show (10 * n+m) / 10=n by omega,show (10 * n+m) % 10=m by omega,Lib.decDigits_one (by omega),a8m hn,a8m hm,a8m hk];rfl
   rw [hv,a5b,e,b5z h4.1,pu hn n9 (by omega),pu hm m9 (by omega),pu hk k9 (by omega)]
   refine ⟨rfl,by omega,by omega,?_⟩
   rw [Lib.parseUint10,f2b (by omega)]
   congr 1;omega
  |[a,b,c,d],_,_,h3,h4 =>
   simp at h4 h3
   obtain ⟨n,hn,n9⟩:=b9m h4.1
   obtain ⟨m,hm,m9⟩:=b9m h4.2.1
   obtain ⟨k,hk,k9⟩:=b9m h4.2.2.1
   obtain ⟨j,hj,j9⟩:=b9m h4.2.2.2
   have h0:a.toNat≠48:=fun e=>h3 (UInt8.toNat_inj.1 e)
   have hv:d4f [a,b,c,d]=((10 * (10 * (10 * n+m)+k)+j:Nat):Int):=by simp [d4f];omega
   have e:Lib.decDigits (10 * (10 * (10 * n+m)+k)+j)=[a,b,c,d]:=by
    rw [a2d _ (by omega),show (10 * (10 * (10 * n+m)+k)+j) / 10=10 * (10 * n+m)+k by omega,show (10 * (10 * (10 * n+m)+k)+j) % 10=j by omega,a2d _ (by omega),show (10 * (10 * n+m)+k) / 10=10 * n+m by omega,show (10 * (10 * n+m)+k) % 10=k by omega,a2d _ (by omega),show (10 * n+m) / 10=n by omega,show (10 * n+m) % 10=m by omega,Lib.decDigits_one (by omega),a8m hn,a8m hm,a8m hk,a8m hj];rfl
   rw [hv,a5b,e,b5z h4.1,pu hn n9 (by omega),pu hm m9 (by omega),pu hk k9 (by omega),pu hj j9 (by omega)]
   refine ⟨rfl,by omega,by omega,?_⟩
   rw [Lib.parseUint10,f2b (by omega)]
   congr 1;omega
 ·cases h
theorem b1x (n:Nat) (h:n < 10):f3r (UInt8.ofNat (48+n))=true∧((UInt8.ofNat (48+n)).toNat:Int) - 48=n:=by
 have:(UInt8.ofNat (48+n)).toNat=48+n:=by simp;omega
 unfold f3r
 rw [this]
 simp
 omega
theorem e1z (n:Nat) (h:n < 10) (h0:n≠0):UInt8.ofNat (48+n)≠48:=fun e=>by
 have h2:(UInt8.ofNat (48+n)).toNat=48+n:=by simp;omega
 rw [e] at h2
 have:(48:UInt8).toNat=48:=rfl
 omega
theorem b2e (v:Int) (h0:0≤v) (h1:v≤9999):b2b (Lib.itoa v)=some v:=by
 obtain ⟨n,rfl⟩:=Int.eq_ofNat_of_zero_le h0
 have hi:Lib.itoa ((n:Nat):Int)=Lib.decDigits n:=by unfold Lib.itoa;rw [if_neg (by omega),Int.toNat_natCast]
 rw [hi]
 have hn:n≤9999:=by omega
 by_cases c1:n < 10
 ·rw [Lib.decDigits_one c1]
  obtain ⟨a1,a2⟩:=b1x n c1
  unfold b2b
  rw [if_pos ⟨by simp,by simp,by simp,by simp [-UInt8.ofNat_add,a1]⟩]
  simp only [d4f,List.foldl,Option.some.injEq]
  omega
 by_cases c2:n < 100
 ·rw [a2d _ c1,Lib.decDigits_one (by omega)]
  obtain ⟨a1,a2⟩:=b1x (n / 10) (by omega)
  obtain ⟨b1,b2⟩:=b1x (n % 10) (by omega)
  have hne:=e1z (n / 10) (by omega) (by omega)
  unfold b2b
  rw [if_pos ⟨by simp,by simp,by simp [-UInt8.ofNat_add,hne],by simp [-UInt8.ofNat_add,a1,b1]⟩]
  simp only [d4f,List.foldl,Option.some.injEq,List.cons_append,List.nil_append]
  omega
 by_cases c3:n < 1000
 ·rw [a2d _ c1,a2d (n / 10) (by omega),Lib.decDigits_one (by omega)]
  obtain ⟨a1,a2⟩:=b1x (n / 10 / 10) (by omega)
  obtain ⟨b1,b2⟩:=b1x (n / 10 % 10) (by omega)
  obtain ⟨d1,d2⟩:=b1x (n % 10) (by omega)
  have hne:=e1z (n / 10 / 10) (by omega) (by omega)
  unfold b2b
  rw [if_pos ⟨by simp,by simp,by simp [-UInt8.ofNat_add,hne],by simp [-UInt8.ofNat_add,a1,b1,d1]⟩]
  simp only [d4f,List.foldl,Option.some.injEq,List.cons_append,List.nil_append]
  omega
 ·rw [a2d _ c1,a2d (n / 10) (by omega),a2d (n / 10 / 10) (by omega),Lib.decDigits_one (by omega)]
  obtain ⟨a1,a2⟩:=b1x (n / 10 / 10 / 10) (by omega)
  obtain ⟨b1,b2⟩:=b1x (n / 10 / 10 % 10) (by omega)
  obtain ⟨d1,d2⟩:=b1x (n / 10 % 10) (by omega)
  obtain ⟨e1,e2⟩:=b1x (n % 10) (by omega)
  have hne:=e1z (n / 10 / 10 / 10) (by omega) (by omega)
  unfold b2b
  rw [if_pos ⟨by simp,by simp,by simp [-UInt8.ofNat_add,hne],by simp [-UInt8.ofNat_add,a1,b1,d1,e1]⟩]
  simp only [d4f,List.foldl,Option.some.injEq,List.cons_append,List.nil_append]
  omega
theorem e5o (s:ByteArray) (v:Int) (h:Lib.atoiAll s.data.toList=.ok v):(inB v 0 9999=true∧a1v v=s)∧a3q s=some v∨¬ (inB v 0 9999=true∧a1v v=s)∧a3q s=none:=by
 by_cases c:inB v 0 9999=true∧a1v v=s
 ·refine .inl ⟨c,?_⟩
  have hh:=c.1
  simp [inB] at hh
  have e:Lib.itoa v=s.data.toList:=by rw [← c.2,a1v,b0d]
  rw [a3q,← e]
  exact b2e v hh.1 hh.2
 ·refine .inr ⟨c,?_⟩
  cases hv:a3q s with
  |none=>rfl
  |some u =>
   obtain ⟨h1,h2,h3,h4⟩:=b0w hv
   rw [h4] at h
   injection h with h
   subst h
   exact (c ⟨by simp [inB,h2,h3],by rw [a1v,h1,b7t]⟩).elim
def a1b (l:List ByteArray):ByteArray:=bA ([32].intercalate (l.map (·.data.toList)))
def a3e (l:List ByteArray):Bool:=decide (0 < l.length) && l.all a1i
def a3c:ByteArray:=⟨#[99,104,97,112,116,101,114]⟩
def b0g:ByteArray:=⟨#[108,105,110,101]⟩
def a6y:ByteArray:=⟨#[99,111,112,121]⟩
def a3d:ByteArray:=⟨#[111,109,105,116]⟩
def a6q:ByteArray:=⟨#[112,117,116]⟩
def a1p:ByteArray:=⟨#[111,116,104,101,114]⟩
end Go.Proofs.YtmjhfccbbfpppaaGreatDoor
