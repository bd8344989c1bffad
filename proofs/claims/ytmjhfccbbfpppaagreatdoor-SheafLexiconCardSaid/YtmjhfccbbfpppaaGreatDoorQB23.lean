import Derived.Laws.IdiomCopy
import Derived.Test.YtmjhfccbbfpppaaGreatDoorQB01
import Derived.Test.YtmjhfccbbfpppaaGreatDoorQB09
import Derived.Test.YtmjhfccbbfpppaaGreatDoorQB10
import Derived.Test.YtmjhfccbbfpppaaGreatDoorQB22
namespace Go.Proofs.YtmjhfccbbfpppaaGreatDoor
open Go Pm Go.RowKit Go.Sort
set_option linter.unusedSimpArgs false
set_option linter.unusedVariables false
set_option maxRecDepth 100000
set_option maxHeartbeats 4000000
def str (s:ByteArray):V:=.v (.string s)
attribute [go_sem] str
theorem f4x {w:World} {O:Nat→Prop} (h:GlobOK w O):Lib.TabIs Tryz.prog w "internal/strconv.uint64pow10" .u64 Lib.pow10Tab:=by
 obtain ⟨ys,t,f,h1,h2⟩:=(h.2 _ (List.mem_append_left _ (List.mem_append_right _ (List.mem_singleton.2 rfl)):(5,f5h _) ∈ (f3l++g2z)++g4e)).val
 unfold Lib.TabIs World.var?
 rw [show Tryz.prog.globalNamed "internal/strconv.uint64pow10"=some 5 by kernel_rfl]
 simp only [Option.bind_some,h1]
 rw [h2]
 rfl
theorem f3b {w:World} {O:Nat→Prop} (h:GlobOK w O) (g:Nat) (hg:(g,c7k) ∈ f3l):∃ ev,w.cell? ⟨g,0,none⟩=some ev∧(ev=.nilIface∨∃ te pe,ev=.iface te pe):=by
 obtain ⟨ys,t,f,h1,y,h2,h3⟩:=(h.2 _ (List.mem_append_left _ (List.mem_append_left _ hg):(g,c7k) ∈ (f3l++g2z)++g4e)).val
 exact ⟨y,by rw [cell_of_row w g 0 ys t f h1];exact h2,h3⟩
theorem g2d {w:World} {O:Nat→Prop} (h:GlobOK w O):∃ m,w.cell? ⟨6,0,none⟩=some (.int .i64 m):=by
 obtain ⟨ys,t,f,h1,m,h2⟩:=(h.2 _ (List.mem_append_right _ (List.mem_singleton.2 rfl):(6,e6m) ∈ (f3l++g2z)++g4e)).val
 exact ⟨m,by rw [cell_of_row w _ 0 ys t f h1];exact h2⟩
theorem g6o {w:World} {O:Nat→Prop} {x:Value} {ys:Array Value} (h:ArgsR w O [.v x] ys):ys=#[x]:=by
 obtain ⟨hn,hr⟩:=h
 obtain ⟨l⟩:=ys
 match l,hn with
 |[y],_=>have h0:=hr 0 _ y rfl rfl;cases h0;rfl
theorem g9a {w:World} {O:Nat→Prop} {x x':Value} {ys:Array Value} (h:ArgsR w O [.v x,.v x'] ys):ys=#[x,x']:=by
 obtain ⟨hn,hr⟩:=h
 obtain ⟨l⟩:=ys
 match l,hn with
 |[y,y'],_=>have h0:=hr 0 _ y rfl rfl;have h1:=hr 1 _ y' rfl rfl;cases h0;cases h1;rfl
theorem d3l (w:World) (k:Nat) (os:Array Obj):Below w.heap.size w (grow (w.drewN k) os) :=
 ⟨rfl,rfl,rfl,by show w.heap.size≤(w.heap++os).size;simp,fun i hi=>by show (w.heap++os)[i]? = _;rw [Array.getElem?_append_left hi]⟩
theorem a4s (n:Int) (h0:0≤n) (h1:n≤9999):a0l Tryz.prog 64 [i64 n] (fun _=>str (a1q n)):=by
 refine ⟨⟨_,Tryz.func64,by decide,by kernel_rfl⟩,fun lo w O ys _ hO ha=>?_⟩
 rw [g6o ha]
 refine (Tryz.strconv_Itoa n (by omega) (by omega) w (f4x hO.gl)).mono fun e w' ⟨he,k,os,hw⟩=>?_
 subst hw
 exact ⟨_,he,.v _,d3l w k os⟩
theorem d2j (s:ByteArray) (hs:s.size≤100000) (v:Int) (h:Lib.atoiAll s.data.toList=.ok v):a0l Tryz.prog 142 [str s] (fun _=>.tup [i64 v,.v .nilIface]):=by
 refine ⟨⟨_,Tryz.func142,by decide,by kernel_rfl⟩,fun lo w O ys _ hO ha=>?_⟩
 rw [g6o ha]
 refine (Tryz.strconv_Atoi_ok s (by omega) v h w).mono fun e w' ⟨he,hw⟩=>?_
 refine ⟨_,he,.tup _ _ rfl fun j u y h1 h2=>?_,?_⟩
 ·match j with
  |0=>simp at h1 h2;subst h1;subst h2;exact .v _
  |1=>simp at h1 h2;subst h1;subst h2;exact .v _
  |j+2=>simp at h1
 ·rcases hw with rfl|⟨t,rfl⟩
  ·exact Below.refl _ _
  ·exact b7p w _ t
theorem f6c (s:ByteArray) (hs:s.size≤100000) (h:∀ v,Lib.atoiAll s.data.toList≠.ok v):f2y Tryz.prog 142 [str s] (fun _ v=>∃ n t p,v=.tup [i64 n,.v (.iface t p)]):=by
 refine ⟨⟨_,Tryz.func142,by decide,by kernel_rfl⟩,fun lo w O ys _ hO ha=>?_⟩
 rw [g6o ha]
 have fin:∀ (n:Int) (t:TypeId) (p:Value),R0 w O (.tup [i64 n,.v (.iface t p)]) (.tuple #[.int .i64 n,.iface t p]):=fun n t p=>.tup _ _ rfl fun j u y h1 h2=>by
  match j with
  |0=>simp at h1 h2;subst h1;subst h2;exact .v _
  |1=>simp at h1 h2;subst h1;subst h2;exact .v _
  |j+2=>simp at h1
 have fin':∀ (w':World) (n:Int) (t:TypeId) (p:Value),R0 w' O (.tup [i64 n,.v (.iface t p)]) (.tuple #[.int .i64 n,.iface t p]):=fun w' n t p=>.tup _ _ rfl fun j u y h1 h2=>by
  match j with
  |0=>simp at h1 h2;subst h1;subst h2;exact .v _
  |1=>simp at h1 h2;subst h1;subst h2;exact .v _
  |j+2=>simp at h1
 match hc:Lib.atoiAll s.data.toList with
 |.ok v=>exact (h v hc).elim
 |.syntax =>
  obtain ⟨ev,e1,e2⟩:=f3b hO.gl 7 (by simp [f3l])
  refine (Tryz.strconv_Atoi_syntax s (by omega) hc ev w e1 e2).mono ?_
  rintro e w' ⟨N,he,_,_,hb⟩
  exact ⟨_,_,he,⟨_,_,_,rfl⟩,fin' _ _ _ _,hb⟩
 |.range =>
  obtain ⟨ev,e1,e2⟩:=f3b hO.gl 8 (by simp [f3l])
  refine (Tryz.strconv_Atoi_range s (by omega) hc ev w e1 e2).mono ?_
  rintro e w' ⟨N,he,_,_,hb⟩
  exact ⟨_,_,he,⟨_,_,_,rfl⟩,fin' _ _ _ _,hb⟩
theorem f6r (b:UInt8) (l:List UInt8) (h:b≠32):Lib.index (b::l) [32]=if Lib.index l [32] == -1 then -1 else Lib.index l [32]+1:=by
 rw [Lib.index,if_neg (by simp;exact fun e=>h e.symm)]
theorem f3n (l:List UInt8):Lib.index (32::l) [32]=0:=by rw [Lib.index,if_pos (by simp)]
theorem e9e (b:UInt8) (l:List UInt8) (h:b≠32):∀ k,Lib.splitK [32] 0 k (b::l)=match Lib.splitK [32] 0 k l with
  |[]=>[[b]]
  |x::q=>(b::x)::q
 |0=>rfl
 |k+1=>by
  have hge:=Lib.index_ge l [32]
  unfold Lib.splitK
  rw [f6r b l h]
  by_cases hi:Lib.index l [32]=-1
  ·rw [hi];rfl
  ·have e1:(Lib.index l [32] == -1)=false:=by simpa using hi
   obtain ⟨i,hi'⟩:=Int.eq_ofNat_of_zero_le (show 0≤Lib.index l [32] by omega)
   have e2:(Lib.index l [32]+1 == -1)=false:=by rw [beq_eq_false_iff_ne];omega
   rw [e1]
   simp only [Bool.false_eq_true,if_false,e2]
   rw [hi',show ((i:Int)+1).toNat=i+1 by omega,Int.toNat_natCast]
   rfl
theorem b6z:∀ l:List UInt8,Lib.splitK [32] 0 (Lib.count l [32]) l=a2t l
 |[]=>rfl
 |b::l=>by
  have ih:=b6z l
  by_cases h:b=32
  ·subst h
   rw [Lib.count_cons_eq,Nat.add_comm,Lib.splitK,f3n,a2t,if_pos rfl,← ih]
   rfl
  ·rw [Lib.count_cons_ne b 32 l h,e9e b l h,ih,a2t,if_neg h]
   cases a2t l<;>rfl
theorem c5y (s:ByteArray):Lib.splitB ⟨#[32]⟩ 0 (Lib.countB s ⟨#[32]⟩) s=a1o s:=by
 have h:=Lib.splitB_data ⟨#[32]⟩ 0 (Lib.countB s ⟨#[32]⟩) s
 have h2:=b6z s.data.toList
 have h3:(Lib.splitB ⟨#[32]⟩ 0 (Lib.countB s ⟨#[32]⟩) s).map (·.data.toList)=a2t s.data.toList:=h.trans h2
 unfold a1o
 rw [← h3,List.map_map]
 have:(bA ∘ fun x:ByteArray=>x.data.toList)=id:=by funext x;exact c0v x
 rw [this,List.map_id]
theorem d4p {w:World} {xs:Array Value} {t:TypeId} {i:Nat} {v:Value} (h:xs[i]? = some v):b6f (w.alloc (.cells xs t)) ⟨w.heap.size,i,none⟩ v :=
 a3t (a4l w _) (by rw [cell_of_row _ _ _ _ _ _ (a4l w _)];exact h)
theorem d4n (w:World) (o:Obj):(w.alloc o).heap.size=w.heap.size+1:=by show (w.heap.push o).size=_;rw [Array.size_push]
theorem d1h (s:ByteArray) (hs:s.size≤100000):a0l Tryz.prog 140 [str s,.v (.string ⟨#[32]⟩)] (fun n=>a0q n (a1o s)):=by
 refine ⟨⟨_,Tryz.func140,by decide,by kernel_rfl⟩,fun lo w O ys hlo hO ha=>?_⟩
 rw [g9a ha]
 obtain ⟨m,hm⟩:=g2d hO.gl
 refine (Tryz.strings_Split s ⟨#[32]⟩ m w (by omega) hm (Nat.le_refl 1)).mono fun e w' ⟨he,hw⟩=>?_
 have hl:=Lib.splitB_all ⟨#[32]⟩ (Nat.le_refl 1) 0 _ s rfl
 rw [c5y] at hw hl
 subst hw
 refine ⟨_,he,?_,(Below.refl _ w).alloc (Nat.le_refl _) _⟩
 have hb:=c0a s
 refine .lst lo 1 _ _ _ _ w.heap.size 0 (fun i j=>.string ((a1o s).getD i ByteArray.empty)) (fun _=>hlo) (by simp [hl]) (by simp [hl]) (by simp;omega)
  (fun _=>⟨rfl,fun hc=>Nat.lt_irrefl _ (hO.lt _ hc),by rw [d4n];omega⟩) (fun i x j u h1 h2=>?_) (fun x hx=>?_) fun i x j u h1 h2=>?_
 ·simp only [List.getElem?_map,Option.map_eq_some_iff] at h1
  obtain ⟨y,hy,rfl⟩:=h1
  match j with
  |0 =>
   refine d4p ?_
   simp only [Nat.zero_add,Nat.mul_one,Nat.add_zero]
   simp [List.getD,hy]
  |j+1=>simp [a2c] at h2
 ·simp only [List.mem_map] at hx
  obtain ⟨y,_,rfl⟩:=hx
  rfl
 ·simp only [List.getElem?_map,Option.map_eq_some_iff] at h1
  obtain ⟨y,hy,rfl⟩:=h1
  match j with
  |0 =>
   simp [a2c] at h2
   subst h2
   simp only [List.getD,hy,Option.getD_some]
   exact .v _
  |j+1=>simp [a2c] at h2
theorem a7z (l:List ByteArray):(a1b l).size=(Lib.join (l.map (·.data.toList)) [32]).length:=by rw [a1b,d0b];rfl
theorem e4o (b:Nat):∀ l:List ByteArray,(∀ s ∈ l,s.size≤b)→Lib.lens (l.map (·.data.toList))≤b * l.length
 |[],_=>by simp [Lib.lens]
 |x::r,h=>by
  have ih:=e4o b r fun s hs=>h s (by simp [hs])
  have h1:=h x (by simp)
  have h2:x.data.toList.length=x.size:=by simp
  simp only [Lib.lens,List.map_cons,List.sum_cons,List.length_cons] at ih ⊢
  rw [Nat.mul_succ]
  omega
theorem b1l (b:Nat) (l:List ByteArray) (h:∀ s ∈ l,s.size≤b):(Lib.join (l.map (·.data.toList)) [32]).length≤(b+1) * l.length:=by
 cases l with
 |nil=>simp [Lib.join]
 |cons x r =>
  have h1:=h x (by simp)
  have h2:x.data.toList.length=x.size:=by simp
  have h3:=e4o b r fun s hs=>h s (by simp [hs])
  rw [List.map_cons,Lib.join_cons,List.length_append,Lib.joinTail_length,List.length_map,h2,List.length_singleton,Nat.one_mul,List.length_cons,Nat.add_mul,Nat.mul_succ]
  omega
theorem e4c (l:List ByteArray) (hl:l.length≤1000) (hw:∀ s ∈ l,s.size≤100000) :
  a0l Tryz.prog 65 [a0q 0 l,.v (.string ⟨#[32]⟩)] (fun _=>str (a1b l)):=by
 refine ⟨⟨_,Tryz.func65,by decide,by kernel_rfl⟩,fun n w O ys _ hO ha=>?_⟩
 obtain ⟨hn,hr⟩:=ha
 obtain ⟨ys⟩:=ys
 match ys,hn with
 |[y0,y1],_ =>
  have h0:=hr 0 _ y0 rfl rfl
  have h1:=hr 1 _ y1 rfl rfl
  cases h1 with
  |v =>
   cases h0 with
   |lst lo sz l' a k cap b o g hlo hk hc hll ha hs' hz hr' =>
    simp only [List.length_map] at hk hc hll
    subst hk
    match l,hl,hw,ha,hs',hr',hc with
    |[],_,_,_,_,_,_ =>
     refine (Tryz.strings_Join_none a cap ⟨#[32]⟩ w).mono fun e w' ⟨he,hw'⟩=>?_
     subst hw'
     exact ⟨_,he,.v _,Below.refl _ _⟩
    |x::r,hl,hw,ha,hs',hr',hc =>
     obtain ⟨rfl,hnO,hb⟩:=ha (by simp)
     refine (Tryz.strings_Join b o cap (x::r) ⟨#[32]⟩ w (fun j s hj=>?_) hb (by omega) hc ?_).mono fun e w' ⟨he,hw'⟩=>⟨_,he,.v _,hw'⟩
     ·have e1:((x::r).map a2c)[j]? = some [.v (.string s)]:=by rw [List.getElem?_map,hj];rfl
      have c1:=(hs' j _ 0 _ e1 rfl).1
      have c2:=hr' j _ 0 _ e1 rfl
      have e2:g j 0=.string s:=by
       generalize g j 0=z at c2
       cases c2;rfl
      rw [e2] at c1
      simpa using c1
     ·have:=b1l 100000 (x::r) hw
      have h5:(100000+1) * (x::r).length≤(100000+1) * 1000:=Nat.mul_le_mul_left _ hl
      show (Lib.join _ [32]).length≤_
      omega
end Go.Proofs.YtmjhfccbbfpppaaGreatDoor
