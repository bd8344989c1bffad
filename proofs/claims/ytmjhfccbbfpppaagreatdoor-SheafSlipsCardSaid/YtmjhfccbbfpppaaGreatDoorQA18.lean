import Derived.Laws.IdiomCopy
import Derived.Test.YtmjhfccbbfpppaaGreatDoorQA01
import Derived.Test.YtmjhfccbbfpppaaGreatDoorQA10
import Derived.Test.YtmjhfccbbfpppaaGreatDoorQA11
import Derived.Test.YtmjhfccbbfpppaaGreatDoorQA17
namespace Go.Proofs.YtmjhfccbbfpppaaGreatDoor
open Go Pm Go.RowKit Go.Sort
set_option linter.unusedSimpArgs false
set_option linter.unusedVariables false
set_option maxRecDepth 100000
set_option maxHeartbeats 4000000
def str (s:ByteArray):V:=.v (.string s)
attribute [go_sem] str
theorem f2b {w:World} {O:Nat→Prop} (h:GlobOK w O):Lib.TabIs Tryz.prog w "internal/strconv.uint64pow10" .u64 Lib.pow10Tab:=by
 obtain ⟨ys,t,f,h1,h2⟩:=(h.2 _ (List.mem_append_left _ (List.mem_append_right _ (List.mem_singleton.2 rfl)):(5,f4u _) ∈ (f1a++g0y)++f8b)).val
 unfold Lib.TabIs World.var?
 rw [show Tryz.prog.globalNamed "internal/strconv.uint64pow10"=some 5 by kernel_rfl]
 simp only [Option.bind_some,h1]
 rw [h2]
 rfl
theorem f0x {w:World} {O:Nat→Prop} (h:GlobOK w O) (g:Nat) (hg:(g,c9j) ∈ f1a):∃ ev,w.cell? ⟨g,0,none⟩=some ev∧(ev=.nilIface∨∃ te pe,ev=.iface te pe):=by
 obtain ⟨ys,t,f,h1,y,h2,h3⟩:=(h.2 _ (List.mem_append_left _ (List.mem_append_left _ hg):(g,c9j) ∈ (f1a++g0y)++f8b)).val
 exact ⟨y,by rw [cell_of_row w g 0 ys t f h1];exact h2,h3⟩
theorem g0h {w:World} {O:Nat→Prop} (h:GlobOK w O):∃ m,w.cell? ⟨6,0,none⟩=some (.int .i64 m):=by
 obtain ⟨ys,t,f,h1,m,h2⟩:=(h.2 _ (List.mem_append_right _ (List.mem_singleton.2 rfl):(6,e7p) ∈ (f1a++g0y)++f8b)).val
 exact ⟨m,by rw [cell_of_row w _ 0 ys t f h1];exact h2⟩
theorem g2w {w:World} {O:Nat→Prop} {x:Value} {ys:Array Value} (h:ArgsR w O [.v x] ys):ys=#[x]:=by
 obtain ⟨hn,hr⟩:=h
 obtain ⟨l⟩:=ys
 match l,hn with
 |[y],_=>have h0:=hr 0 _ y rfl rfl;cases h0;rfl
theorem g5p {w:World} {O:Nat→Prop} {x x':Value} {ys:Array Value} (h:ArgsR w O [.v x,.v x'] ys):ys=#[x,x']:=by
 obtain ⟨hn,hr⟩:=h
 obtain ⟨l⟩:=ys
 match l,hn with
 |[y,y'],_=>have h0:=hr 0 _ y rfl rfl;have h1:=hr 1 _ y' rfl rfl;cases h0;cases h1;rfl
theorem d3h (w:World) (k:Nat) (os:Array Obj):Below w.heap.size w (grow (w.drewN k) os) :=
 ⟨rfl,rfl,rfl,by show w.heap.size≤(w.heap++os).size;simp,fun i hi=>by show (w.heap++os)[i]? = _;rw [Array.getElem?_append_left hi]⟩
theorem a4q (n:Int) (h0:0≤n) (h1:n≤9999):a0l Tryz.prog 64 [i64 n] (fun _=>str (a2h n)):=by
 refine ⟨⟨_,Tryz.func64,by decide,by kernel_rfl⟩,fun lo w O ys _ hO ha=>?_⟩
 rw [g2w ha]
 refine (Tryz.strconv_Itoa n (by omega) (by omega) w (f2b hO.gl)).mono fun e w' ⟨he,k,os,hw⟩=>?_
 subst hw
 exact ⟨_,he,.v _,d3h w k os⟩
theorem c9p (s:ByteArray) (hs:s.size≤100000) (v:Int) (h:Lib.atoiAll s.data.toList=.ok v):a0l Tryz.prog 142 [str s] (fun _=>.tup [i64 v,.v .nilIface]):=by
 refine ⟨⟨_,Tryz.func142,by decide,by kernel_rfl⟩,fun lo w O ys _ hO ha=>?_⟩
 rw [g2w ha]
 refine (Tryz.strconv_Atoi_ok s (by omega) v h w).mono fun e w' ⟨he,hw⟩=>?_
 refine ⟨_,he,.tup _ _ rfl fun j u y h1 h2=>?_,?_⟩
 ·match j with
  |0=>simp at h1 h2;subst h1;subst h2;exact .v _
  |1=>simp at h1 h2;subst h1;subst h2;exact .v _
  |j+2=>simp at h1
 ·rcases hw with rfl|⟨t,rfl⟩
  ·exact Below.refl _ _
  ·exact b6q w _ t
theorem f3r (s:ByteArray) (hs:s.size≤100000) (h:∀ v,Lib.atoiAll s.data.toList≠.ok v):f1f Tryz.prog 142 [str s] (fun _ v=>∃ n t p,v=.tup [i64 n,.v (.iface t p)]):=by
 refine ⟨⟨_,Tryz.func142,by decide,by kernel_rfl⟩,fun lo w O ys _ hO ha=>?_⟩
 rw [g2w ha]
 have fin:∀ (n:Int) (t:TypeId) (p:Value),R0 w O (.tup [i64 n,.v (.iface t p)]) (.tuple #[.int .i64 n,.iface t p]):=fun n t p=>.tup _ _ rfl fun j u y h1 h2=>by
  match j with
  |0=>simp at h1 h2;subst h1;subst h2;exact .v _
  |1=>simp at h1 h2;subst h1;subst h2;exact .v _
  |j+2=>simp at h1
 have fin':∀ (w':World) (n:Int) (t:TypeId) (p:Value),R0 w' O (.tup [i64 n,.v (.iface t p)]) (.tuple #[.int .i64 n,.iface t p]):=fun w' n t p=>.tup _ _ rfl fun j u y h1 h2=>by
  match j with
  |0=>simp at h1 h2;subst h1;subst h2;exact .v _
  |1=>simp at h1 h2;subst h1;subst h2;exact .v _
  |j+2=>simp at h1
 match hc:Lib.atoiAll s.data.toList with
 |.ok v=>exact (h v hc).elim
 |.syntax =>
  obtain ⟨ev,e1,e2⟩:=f0x hO.gl 7 (by simp [f1a])
  refine (Tryz.strconv_Atoi_syntax s (by omega) hc ev w e1 e2).mono ?_
  rintro e w' ⟨N,he,_,_,hb⟩
  exact ⟨_,_,he,⟨_,_,_,rfl⟩,fin' _ _ _ _,hb⟩
 |.range =>
  obtain ⟨ev,e1,e2⟩:=f0x hO.gl 8 (by simp [f1a])
  refine (Tryz.strconv_Atoi_range s (by omega) hc ev w e1 e2).mono ?_
  rintro e w' ⟨N,he,_,_,hb⟩
  exact ⟨_,_,he,⟨_,_,_,rfl⟩,fin' _ _ _ _,hb⟩
theorem f6e (b:UInt8) (l:List UInt8) (h:b≠32):Lib.index (b::l) [32]=if Lib.index l [32] == -1 then -1 else Lib.index l [32]+1:=by
 rw [Lib.index,if_neg (by simp;exact fun e=>h e.symm)]
theorem f3z (l:List UInt8):Lib.index (32::l) [32]=0:=by rw [Lib.index,if_pos (by simp)]
theorem f0r (b:UInt8) (l:List UInt8) (h:b≠32):∀ k,Lib.splitK [32] 0 k (b::l)=match Lib.splitK [32] 0 k l with
  |[]=>[[b]]
  |x::q=>(b::x)::q
 |0=>rfl
 |k+1=>by
  have hge:=Lib.index_ge l [32]
  unfold Lib.splitK
  rw [f6e b l h]
  by_cases hi:Lib.index l [32]=-1
  ·rw [hi];rfl
  ·have e1:(Lib.index l [32] == -1)=false:=by simpa using hi
   obtain ⟨i,hi'⟩:=Int.eq_ofNat_of_zero_le (show 0≤Lib.index l [32] by omega)
   have e2:(Lib.index l [32]+1 == -1)=false:=by rw [beq_eq_false_iff_ne];omega
   rw [e1]
   simp only [Bool.false_eq_true,if_false,e2]
   rw [hi',show ((i:Int)+1).toNat=i+1 by omega,Int.toNat_natCast]
   rfl
theorem b6v:∀ l:List UInt8,Lib.splitK [32] 0 (Lib.count l [32]) l=a2q l
 |[]=>rfl
 |b::l=>by
  have ih:=b6v l
  by_cases h:b=32
  ·subst h
   rw [Lib.count_cons_eq,Nat.add_comm,Lib.splitK,f3z,a2q,if_pos rfl,← ih]
   rfl
  ·rw [Lib.count_cons_ne b 32 l h,f0r b l h,ih,a2q,if_neg h]
   cases a2q l<;>rfl
theorem c4b (s:ByteArray):Lib.splitB ⟨#[32]⟩ 0 (Lib.countB s ⟨#[32]⟩) s=a1l s:=by
 have h:=Lib.splitB_data ⟨#[32]⟩ 0 (Lib.countB s ⟨#[32]⟩) s
 have h2:=b6v s.data.toList
 have h3:(Lib.splitB ⟨#[32]⟩ 0 (Lib.countB s ⟨#[32]⟩) s).map (·.data.toList)=a2q s.data.toList:=h.trans h2
 unfold a1l
 rw [← h3,List.map_map]
 have:(bA ∘ fun x:ByteArray=>x.data.toList)=id:=by funext x;exact c0y x
 rw [this,List.map_id]
theorem d2w {w:World} {xs:Array Value} {t:TypeId} {i:Nat} {v:Value} (h:xs[i]? = some v):b5k (w.alloc (.cells xs t)) ⟨w.heap.size,i,none⟩ v :=
 a3x (a5c w _) (by rw [cell_of_row _ _ _ _ _ _ (a5c w _)];exact h)
theorem d3i (w:World) (o:Obj):(w.alloc o).heap.size=w.heap.size+1:=by show (w.heap.push o).size=_;rw [Array.size_push]
theorem d1t (s:ByteArray) (hs:s.size≤100000):a0l Tryz.prog 140 [str s,.v (.string ⟨#[32]⟩)] (fun n=>a0o n (a1l s)):=by
 refine ⟨⟨_,Tryz.func140,by decide,by kernel_rfl⟩,fun lo w O ys hlo hO ha=>?_⟩
 rw [g5p ha]
 obtain ⟨m,hm⟩:=g0h hO.gl
 refine (Tryz.strings_Split s ⟨#[32]⟩ m w (by omega) hm (Nat.le_refl 1)).mono fun e w' ⟨he,hw⟩=>?_
 have hl:=Lib.splitB_all ⟨#[32]⟩ (Nat.le_refl 1) 0 _ s rfl
 rw [c4b] at hw hl
 subst hw
 refine ⟨_,he,?_,(Below.refl _ w).alloc (Nat.le_refl _) _⟩
 have hb:=b0a s
 refine .lst lo 1 _ _ _ _ w.heap.size 0 (fun i j=>.string ((a1l s).getD i ByteArray.empty)) (fun _=>hlo) (by simp [hl]) (by simp [hl]) (by simp;omega)
  (fun _=>⟨rfl,fun hc=>Nat.lt_irrefl _ (hO.lt _ hc),by rw [d3i];omega⟩) (fun i x j u h1 h2=>?_) (fun x hx=>?_) fun i x j u h1 h2=>?_
 ·simp only [List.getElem?_map,Option.map_eq_some_iff] at h1
  obtain ⟨y,hy,rfl⟩:=h1
  match j with
  |0 =>
   refine d2w ?_
   simp only [Nat.zero_add,Nat.mul_one,Nat.add_zero]
   simp [List.getD,hy]
  |j+1=>simp [a1z] at h2
 ·simp only [List.mem_map] at hx
  obtain ⟨y,_,rfl⟩:=hx
  rfl
 ·simp only [List.getElem?_map,Option.map_eq_some_iff] at h1
  obtain ⟨y,hy,rfl⟩:=h1
  match j with
  |0 =>
   simp [a1z] at h2
   subst h2
   simp only [List.getD,hy,Option.getD_some]
   exact .v _
  |j+1=>simp [a1z] at h2
theorem a6o (l:List ByteArray):(a0w l).size=(Lib.join (l.map (·.data.toList)) [32]).length:=by rw [a0w,c7w];rfl
theorem d8f (b:Nat):∀ l:List ByteArray,(∀ s ∈ l,s.size≤b)→Lib.lens (l.map (·.data.toList))≤b * l.length
 |[],_=>by simp [Lib.lens]
 |x::r,h=>by
  have ih:=d8f b r fun s hs=>h s (by simp [hs])
  have h1:=h x (by simp)
  have h2:x.data.toList.length=x.size:=by simp
  simp only [Lib.lens,List.map_cons,List.sum_cons,List.length_cons] at ih ⊢
  rw [Nat.mul_succ]
  omega
theorem a9n (b:Nat) (l:List ByteArray) (h:∀ s ∈ l,s.size≤b):(Lib.join (l.map (·.data.toList)) [32]).length≤(b+1) * l.length:=by
 cases l with
 |nil=>simp [Lib.join]
 |cons x r =>
  have h1:=h x (by simp)
  have h2:x.data.toList.length=x.size:=by simp
  have h3:=d8f b r fun s hs=>h s (by simp [hs])
  rw [List.map_cons,Lib.join_cons,List.length_append,Lib.joinTail_length,List.length_map,h2,List.length_singleton,Nat.one_mul,List.length_cons,Nat.add_mul,Nat.mul_succ]
  omega
theorem b0u (l:List ByteArray) (hl:l.length≤1000) (hw:∀ s ∈ l,s.size≤100000) :
  a0l Tryz.prog 65 [a0o 0 l,.v (.string ⟨#[32]⟩)] (fun _=>str (a0w l)):=by
 refine ⟨⟨_,Tryz.func65,by decide,by kernel_rfl⟩,fun n w O ys _ hO ha=>?_⟩
 obtain ⟨hn,hr⟩:=ha
 obtain ⟨ys⟩:=ys
 match ys,hn with
 |[y0,y1],_ =>
  have h0:=hr 0 _ y0 rfl rfl
  have h1:=hr 1 _ y1 rfl rfl
  cases h1 with
  |v =>
   cases h0 with
   |lst lo sz l' a k cap b o g hlo hk hc hll ha hs' hz hr' =>
    simp only [List.length_map] at hk hc hll
    subst hk
    match l,hl,hw,ha,hs',hr',hc with
    |[],_,_,_,_,_,_ =>
     refine (Tryz.strings_Join_none a cap ⟨#[32]⟩ w).mono fun e w' ⟨he,hw'⟩=>?_
     subst hw'
     exact ⟨_,he,.v _,Below.refl _ _⟩
    |x::r,hl,hw,ha,hs',hr',hc =>
     obtain ⟨rfl,hnO,hb⟩:=ha (by simp)
     refine (Tryz.strings_Join b o cap (x::r) ⟨#[32]⟩ w (fun j s hj=>?_) hb (by omega) hc ?_).mono fun e w' ⟨he,hw'⟩=>⟨_,he,.v _,hw'⟩
     ·have e1:((x::r).map a1z)[j]? = some [.v (.string s)]:=by rw [List.getElem?_map,hj];rfl
      have c1:=(hs' j _ 0 _ e1 rfl).1
      have c2:=hr' j _ 0 _ e1 rfl
      have e2:g j 0=.string s:=by
       generalize g j 0=z at c2
       cases c2;rfl
      rw [e2] at c1
      simpa using c1
     ·have:=a9n 100000 (x::r) hw
      have h5:(100000+1) * (x::r).length≤(100000+1) * 1000:=Nat.mul_le_mul_left _ hl
      show (Lib.join _ [32]).length≤_
      omega
end Go.Proofs.YtmjhfccbbfpppaaGreatDoor
