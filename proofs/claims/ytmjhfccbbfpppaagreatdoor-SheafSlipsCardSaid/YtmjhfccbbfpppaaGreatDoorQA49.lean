import Derived.Test.YtmjhfccbbfpppaaGreatDoorQA25
import Derived.Test.YtmjhfccbbfpppaaGreatDoorQA33
import Derived.Test.YtmjhfccbbfpppaaGreatDoorQA34
import Derived.Test.YtmjhfccbbfpppaaGreatDoorQA44
import Derived.Test.YtmjhfccbbfpppaaGreatDoorQA46
import Derived.Test.YtmjhfccbbfpppaaGreatDoorQA47
import Derived.Test.YtmjhfccbbfpppaaGreatDoorQA48
namespace Go.Proofs.YtmjhfccbbfpppaaGreatDoor
open Go Pm
set_option linter.unusedSimpArgs false
set_option linter.unusedVariables false
set_option maxRecDepth 100000
theorem b8x {Q:Cx→Prop} {s:Int} {a:Bool×Cx} {x:Cx} (ha:a.1=true→Q a.2) (hx:Q x):(a4e s a x).1=true∧Q (a4e s a x).2:=by
 unfold a4e
 split
 ·exact ⟨rfl,hx⟩
 ·rename_i h
  have:a.1=true:=by simp only [Bool.or_eq_true,Bool.not_eq_true',not_or,Bool.not_eq_false] at h;exact h.1
  exact ⟨this,ha this⟩
theorem b8b {Q:Cx→Prop} {ws:List ByteArray} {W s:Int} {i f:Nat} (hQ:∀ to,i≤to→to < ws.length→a3j ws f (to+1)≤W→Q ⟨f,i,to,a3j ws f (to+1)⟩):∀ n to a,i≤to→(a.1=true→Q a.2)→((a4l ws W s i f n to a).1=true→Q (a4l ws W s i f n to a).2)∧(a.1=true→(a4l ws W s i f n to a).1=true):=by
 intro n
 induction n with
 |zero=>intro to a _ h;exact ⟨h,id⟩
 |succ n ih =>
  intro to a h1 h3
  unfold a4l
  split
  ·rename_i hc
   obtain ⟨g1,g2⟩:=b8x (s:=s) h3 (hQ to h1 hc.1 hc.2)
   obtain ⟨q1,q2⟩:=ih (to+1) _ (by omega) (fun _=>g2)
   exact ⟨q1,fun _=>q2 g1⟩
  ·exact ⟨h3,id⟩
theorem b8p {Q:Cx→Prop} {ws:List ByteArray} {W s:Int} {i:Nat} (hQ:∀ f to,f≤i→i≤to→to < ws.length→a3j ws f (to+1)≤W→Q ⟨f,i,to,a3j ws f (to+1)⟩):∀ m a,m≤i+1→(a.1=true→Q a.2)→((a5y ws W s i m a).1=true→Q (a5y ws W s i m a).2)∧(a.1=true→(a5y ws W s i m a).1=true):=by
 intro m
 induction m with
 |zero=>intro a _ h;exact ⟨h,id⟩
 |succ m ih =>
  intro a h1 h3
  unfold a5y
  split
  ·exact ⟨h3,id⟩
  ·obtain ⟨g1,g2⟩:=b8b (W:=W) (s:=s) (hQ m · (by omega)) (ws.length - i) i a (Nat.le_refl _) h3
   obtain ⟨q1,q2⟩:=ih _ (by omega) g1
   exact ⟨q1,fun h=>q2 (g2 h)⟩
theorem d9z {Q:Cx→Prop} {ws:List ByteArray} {W s:Int} {i:Nat} (hi:i < ws.length) (hW:(ws[i].size:Int)≤W) (hQ:∀ f to,f≤i→i≤to→to < ws.length→a3j ws f (to+1)≤W→Q ⟨f,i,to,a3j ws f (to+1)⟩):Q (b2x ws W s i):=by
 have h:=b8p (s:=s) hQ (i+1) (false,b7k) (Nat.le_refl _) (fun h=>by cases h)
 refine h.1 ?_
 have hs:a3j ws i (i+1)=ws[i].size:=by unfold a3j;rw [b1o ws i hi];omega
 unfold a5y
 rw [if_neg (by omega)]
 obtain ⟨n,hn⟩:∃ n,ws.length - i=n+1:=⟨ws.length - i - 1,by omega⟩
 obtain ⟨g1,g2⟩:=b8x (s:=s) (a:=(false,b7k)) (fun h=>by cases h) (hQ i i (Nat.le_refl _) (Nat.le_refl _) hi (by omega))
 have e:a4l ws W s i i (n+1) i (false,b7k)=a4l ws W s i i n (i+1) (a4e s (false,b7k) ⟨i,i,i,a3j ws i (i+1)⟩):=by
  conv=>lhs;unfold a4l
  rw [if_pos ⟨hi,by omega⟩]
 rw [hn,e]
 obtain ⟨q1,q2⟩:=b8b (W:=W) (s:=s) (hQ i · (Nat.le_refl _)) n (i+1) _ (by omega) (fun _=>g2)
 exact (b8p hQ i _ (by omega) q1).2 (q2 g1)
def c8d (l:List ByteArray):Int:=(l.map fun s=>(s.size:Int)+1).sum
theorem b5j (a:ByteArray) (l:List ByteArray):c8d (a::l)=(a.size:Int)+1+c8d l:=by simp [c8d]
theorem e5x (l:List ByteArray):0≤c8d l:=by
 induction l with
 |nil=>simp [c8d]
 |cons a l ih=>rw [b5j];omega
theorem c9m (a b:List ByteArray):c8d (a++b)=c8d a+c8d b:=by simp [c8d]
theorem b5b:∀ l:List ByteArray,l≠[]→((a0w l).size:Int)+1=c8d l
 |[],h=>(h rfl).elim
 |[a],_=>by rw [b2a,b5j];simp [c8d]
 |a::b::l,_=>by
  have ih:=b5b (b::l) (by simp)
  rw [join_cons,ByteArray.size_append,ByteArray.size_append,b5j,← ih]
  have:(⟨#[32]⟩:ByteArray).size=1:=rfl
  omega
theorem c8k (ws:List ByteArray):∀ n,n≤ws.length→pre ws n=c8d (ws.take n)
 |0,_=>by simp [pre,c8d]
 |n+1,h=>by
  rw [b1o ws n (by omega),c8k ws n (by omega),List.take_add_one,List.getElem?_eq_getElem (by omega),c9m]
  simp [c8d]
theorem c8t (ws:List ByteArray) (f n:Nat) (h:f≤n) (hn:n≤ws.length):pre ws f+c8d ((ws.take n).drop f)=pre ws n:=by
 rw [c8k ws f (by omega),c8k ws n hn,← c9m]
 congr 1
 have e:ws.take f=(ws.take n).take f:=by rw [List.take_take,Nat.min_eq_left h]
 rw [e,List.take_append_drop]
theorem e0z (ws:List ByteArray) (f n:Nat) (h:f≤n) (hn:n≤ws.length):pre ws f≤pre ws n:=by
 have:=c8t ws f n h hn
 have:=e5x ((ws.take n).drop f)
 omega
theorem d1o (l:List ByteArray):c6m l spc=a0w l:=by
 refine b9y ?_
 rw [a0w,a6k]
 simp only [c6m]
 rfl
theorem c9z {l:List ByteArray} (hw:∀ s ∈ l,a1b s=true) (hs:(a0w l).size≤80):b7j (a0w l)=true:=by
 unfold b7j
 by_cases hl:l=[]
 ·subst hl;rfl
 ·rw [Bool.or_eq_true,Bool.and_eq_true]
  right
  refine ⟨by rw [decide_eq_true_eq];omega,?_⟩
  rw [d1j hl fun s h=>b4y (hw s h),List.all_eq_true]
  exact hw
def b4b (s:Sl):Si:=⟨s.p.1,s.p.2.1,s.p.2.2,s.word,s.bef,s.aft⟩
theorem e3o (n:Nat) (l:List Sl):sls n l=sis n (l.map b4b):=by
 unfold sls sis
 rw [List.map_map]
 rfl
theorem e0g {c:Cu} {k:Nat} {ls:List (List ByteArray)} {i:Nat} (hc:b7z c=true) (hw:∀ s ∈ ls.flatten,a1b s=true) (hi:i < ls.flatten.length):(b7j (d5o c k ls i).bef=true∧b7j (d5o c k ls i).aft=true)∧a1b (d5o c k ls i).word=true:=by
 simp only [b7z,inB,Bool.and_eq_true,decide_eq_true_eq] at hc
 have hQ:0≤(b2x ls.flatten c.w c.s i).fr∧(b2x ls.flatten c.w c.s i).fr.toNat≤i∧i≤(b2x ls.flatten c.w c.s i).to.toNat∧(b2x ls.flatten c.w c.s i).to.toNat < ls.flatten.length∧a3j ls.flatten (b2x ls.flatten c.w c.s i).fr.toNat ((b2x ls.flatten c.w c.s i).to.toNat+1)≤c.w:=by
  refine d9z (Q:=fun x=>0≤x.fr∧x.fr.toNat≤i∧i≤x.to.toNat∧x.to.toNat < ls.flatten.length∧a3j ls.flatten x.fr.toNat (x.to.toNat+1)≤c.w) hi ?_ ?_
  ·have:=(a2n (hw _ (List.getElem_mem hi))).2
   omega
  ·intro f to h1 h2 h3 h4
   simp only [Int.toNat_natCast]
   exact ⟨by omega,h1,h2,h3,h4⟩
 unfold d5o
 obtain ⟨x,hx⟩:∃ x,x=b2x ls.flatten c.w c.s i:=⟨_,rfl⟩
 obtain ⟨ws,hws⟩:∃ ws,ws=ls.flatten:=⟨_,rfl⟩
 rw [← hws] at hw hx
 simp only [← hws] at hi hQ ⊢
 simp only [← hx] at hQ ⊢
 obtain ⟨q0,q1,q2,q3,q4⟩:=hQ
 have sub:∀ a b,∀ s ∈ (ws.take a).drop b,a1b s=true:=fun a b s hs=>hw s (List.mem_of_mem_take (List.mem_of_mem_drop hs))
 have p1:=e0z ws x.fr.toNat i q1 (by omega)
 have p2:=e0z ws i (i+1) (by omega) (by omega)
 have p3:=e0z ws (i+1) (x.to.toNat+1) (by omega) (by omega)
 unfold a3j at q4
 refine ⟨⟨?_,?_⟩,?_⟩
 ·rw [d1o]
  by_cases hl:(ws.take i).drop x.fr.toNat=[]
  ·rw [hl];rfl
  ·refine c9z (sub _ _) ?_
   have h1:=b5b _ hl
   have h2:=c8t ws x.fr.toNat i q1 (by omega)
   omega
 ·rw [d1o]
  by_cases hl:(ws.take (x.to.toNat+1)).drop (i+1)=[]
  ·rw [hl];rfl
  ·refine c9z (sub _ _) ?_
   have h1:=b5b _ hl
   have h2:=c8t ws (i+1) (x.to.toNat+1) (by omega) (by omega)
   omega
 ·rw [List.getElem?_eq_getElem hi,Option.getD_some]
  exact hw _ (List.getElem_mem hi)
theorem c0u (ls:List (List ByteArray)):∀ n,n≤ls.length→c9b ls n=a7t ls n
 |0,_=>rfl
 |n+1,h=>by
  have ih:=c0u ls n (by omega)
  rw [a5e (by omega),← ih]
  unfold c9b
  rw [List.take_add_one,List.getElem?_eq_getElem (by omega),List.flatten_append,List.length_append]
  simp
theorem d6n (ls:List (List ByteArray)):a7t ls ls.length=ls.flatten.length:=by
 rw [← c0u ls _ (Nat.le_refl _)]
 simp [c9b]
structure AtS (t:List Ch) (c:Cu) (s:Sl) (k n w:Nat):Prop where
 hk:k < t.length
 hn:n < t[k].lines.length
 hw:w < t[k].lines[n].length
 is:s=d5e c k t[k].lines n w
 p:s.p=(k,n,w)
theorem f1e (c:Cu) (k:Nat) (ls:List (List ByteArray)) (n w:Nat) (hn:n < ls.length) (hw:w < ls[n].length):(d5e c k ls n w).p=(k,n,w):=by
 have h:=f1w k ls 0 n w hn hw
 unfold d5e d5o
 simp only [h,Option.getD_some,Nat.zero_add]
theorem e4e {t:List Ch} {c:Cu} {s:Sl}:∀ m,m≤t.length→s ∈ a7w c t m→∃ k n w,AtS t c s k n w
 |0,_,h=>by simp [a7w] at h
 |m+1,hm,h=>by
  rw [a7q c t m (by omega)] at h
  rcases List.mem_append.1 h with h|h
  ·exact e4e m (by omega) h
  ·unfold b7d at h
   rw [List.mem_map] at h
   obtain ⟨i,hi,rfl⟩:=h
   rw [List.mem_range,← d6n] at hi
   obtain ⟨n,hn,w,hw,e⟩:=c7y _ (Nat.le_refl _) hi
   refine ⟨m,n,w,by omega,hn,hw,?_,?_⟩
   ·unfold d5e
    rw [c0u _ _ (by omega),← e]
   ·have:=f1e c m t[m].lines n w hn hw
    unfold d5e at this
    rw [c0u _ _ (by omega),← e] at this
    exact this
theorem c2o (c:Cu) (t:List Ch):∀ k,k≤t.length→(a7w c t k).length=a8h t k
 |0,_=>rfl
 |k+1,h=>by
  rw [a7q c t k (by omega),a6j (by omega),List.length_append,c2o c t k (by omega),d6n]
  simp [b7d]
theorem f5d {t:List Ch} {c:Cu} {k n w:Nat} (hk:k < t.length) (hn:n < t[k].lines.length) (hw:w < t[k].lines[n].length):d5e c k t[k].lines n w ∈ a7w c t t.length:=by
 have h:∀ m,m≤t.length→k < m→d5e c k t[k].lines n w ∈ a7w c t m:=by
  intro m
  induction m with
  |zero=>intro _ h;omega
  |succ m ih =>
   intro hm h
   rw [a7q c t m (by omega),List.mem_append]
   by_cases e:k=m
   ·subst e
    right
    unfold b7d
    rw [List.mem_map]
    exact ⟨_,List.mem_range.2 (c8z t[k].lines n w hn hw),rfl⟩
   ·exact Or.inl (ih (by omega) (by omega))
 exact h _ (Nat.le_refl _) hk
theorem AtS.good {t:List Ch} {c:Cu} {s:Sl} {k n w:Nat} (ht:a1r t=true) (hc:b7z c=true) (h:AtS t c s k n w):a6w (b4b s)=true:=by
 obtain ⟨hv1,hv2⟩:=b0n ht
 have hk:=h.hk
 have hv:=hv2 _ (List.getElem_mem hk)
 have hn:=h.hn
 have hl:=hv.ln _ (List.getElem_mem hn)
 have hw:∀ s ∈ t[k].lines.flatten,a1b s=true:=fun s hs=>by
  obtain ⟨r,hr,hs⟩:=List.mem_flatten.1 hs
  exact (hv.ln r hr).2 s hs
 obtain ⟨⟨g1,g2⟩,g3⟩:=e0g (k:=k) hc hw (c8z t[k].lines n w hn h.hw)
 have e:=h.is
 unfold d5e at e
 rw [← e] at g1 g2 g3
 have hw2:=h.hw
 unfold a6w b1b b4b
 simp only [h.p,g1,g2,g3,inB,Bool.and_eq_true,decide_eq_true_eq,Bool.and_self]
 have:=hv.len.2
 have:=hl.1.2
 exact ⟨trivial,⟨⟨by omega,by omega⟩,by omega,by omega⟩,by omega,by omega⟩
def c1y (a b:Nat×Nat×Nat):Int:=or3 (b7s a.1 b.1) (b7s a.2.1 b.2.1) (b7s a.2.2 b.2.2)
def inP (p q:Nat×Nat×Nat) (s:Sl):Bool:=decide (0≤c1y s.p p) && decide (c1y s.p q≤0)
theorem e2g (p:Nat×Nat×Nat):c1y p p=0:=by simp [c1y,b7s,or3]
theorem e9l {t:List Ch} {M N:Nat} {a b:Nat×Nat×Nat} (ha:PlN t M a.1 a.2.1 a.2.2) (hb:PlN t N b.1 b.2.1 b.2.2) (h:M≤N):c1y a b≤0∧0≤c1y b a:=by
 obtain ⟨k,n,w⟩:=a
 obtain ⟨k',n',w'⟩:=b
 have nk:¬ k' < k:=by
  intro hlt
  have h1:=a9g t (a:=k'+1) (b:=k) hlt
  have hk:=hb.hk
  have hn:=hb.hn
  rw [a6j hb.hk] at h1
  have h2:=a6r t[k'].lines (a:=n'+1) (b:=t[k'].lines.length) hb.hn
  rw [a5e hb.hn] at h2
  have:=hb.hw
  have:=ha.is
  have:=hb.is
  simp only at *
  omega
 by_cases ek:k=k'
 ·subst ek
  have nn:¬ n' < n:=by
   intro hlt
   have hk:=hb.hk
   have hn:=hb.hn
   have h2:=a6r t[k].lines (a:=n'+1) (b:=n) hlt
   rw [a5e hb.hn] at h2
   have:=hb.hw
   have:=ha.is
   have:=hb.is
   simp only at *
   omega
  by_cases en:n=n'
  ·subst en
   have:=ha.is
   have:=hb.is
   simp only [c1y,b7s,or3] at *
   simp only [Int.lt_irrefl,if_false]
   constructor<;>(repeat' split)<;>omega
  ·simp only [c1y,b7s,or3]
   constructor<;>(repeat' split)<;>omega
 ·simp only [c1y,b7s,or3]
  constructor<;>(repeat' split)<;>omega
theorem g5m {l:List Sl} (hg:∀ s ∈ l,a6w (b4b s)=true):(l.map b4b).all a6w=true:=by
 rw [List.all_eq_true]
 intro x hx
 rw [List.mem_map] at hx
 obtain ⟨s,hs,rfl⟩:=hx
 exact hg s hs
def b7q (l:List Sl):Nat→Nat
 |0=>0
 |n+1=>b7q l n+(b1u (b4b (l.getD n ⟨(0,0,0),⟨#[]⟩,⟨#[]⟩,⟨#[]⟩⟩))).length
theorem c3d (l:List Sl):∀ n,n≤l.length→b7q l n=(a1a ((l.map b4b).take n)).length
 |0,_=>rfl
 |n+1,h=>by
  have e:l.getD n ⟨(0,0,0),⟨#[]⟩,⟨#[]⟩,⟨#[]⟩⟩=l[n]:=by simp [List.getD,show n < l.length by omega]
  rw [b3y _ _ (by rw [List.length_map];omega),List.length_append,← c3d l n (by omega),b7q,e]
  simp
theorem c3z (l:List Sl) (n:Nat) (h:n < l.length):b7q l (n+1)=b7q l n+1+(if l[n].bef=⟨#[]⟩ then 0 else 1)+(if l[n].aft=⟨#[]⟩ then 0 else 1):=by
 have e:l.getD n ⟨(0,0,0),⟨#[]⟩,⟨#[]⟩,⟨#[]⟩⟩=l[n]:=by simp [List.getD,h]
 rw [b7q,e]
 unfold b1u e4y d5j b4b
 simp only [List.length_cons,List.length_append]
 split<;>split<;>simp<;>omega
theorem e4n (l:List Sl):∀ n,n≤l.length→b7q l n≤3 * n
 |0,_=>by simp [b7q]
 |n+1,h=>by
  have:=e4n l n (by omega)
  rw [c3z l n (by omega)]
  split<;>split<;>omega
theorem e7i (l:List Sl):b7q l l.length=(a1a (l.map b4b)).length:=by
 rw [c3d l _ (Nat.le_refl _),List.take_of_length_le (by simp)]
open Go Pm
set_option maxHeartbeats 4000000
set_option maxRecDepth 100000
theorem b5a (a b:Nat×Nat×Nat):a0l Tryz.prog 126 [.agg (pl3 a),.agg (pl3 b)] (fun _=>i64 (c1y a b)):=by
 refine a0b (ow:=fun _=>false) Tryz.func126 Tryz.ntmps126 rfl rfl fun G hG hOw hNm hB=>?_;simp only [go_sem,hG,hOw]
 refine a0r mixed (by kernel_rfl) ?_
 simp only [go_sem,hG,hOw]
 refine ⟨_,a0e (a4a a.1 b.1),?_⟩
 simp only [go_sem,hG,hOw]
 refine ⟨_,a0e (a4a a.2.1 b.2.1),?_⟩
 simp only [go_sem,hG,hOw]
 refine ⟨_,a0e (a4a a.2.2 b.2.2),?_⟩
 simp only [go_sem,hG,hOw]
 (repeat' with_reducible first|refine And.intro ?_ ?_|intro _|refine exP ?_ ?_);all_goals try omega
 refine ⟨_,a0e (f1z (b7s a.1 b.1) (b7s a.2.1 b.2.1) (b7s a.2.2 b.2.2)),?_⟩
 simp only [go_sem,hG,hOw]
 rfl
def c2d (p q:Nat×Nat×Nat) (l:List Sl):List Sl:=l.filter (inP p q)
theorem d0h (p q:Nat×Nat×Nat) (l:List Sl):(c2d p q l).length≤l.length:=List.length_filter_le _ _
theorem e9q {p q:Nat×Nat×Nat} {s:Sl} (l:List Sl) (h1:0≤c1y s.p p) (h2:c1y s.p q≤0):c2d p q (l++[s])=c2d p q l++[s]:=by
 simp [c2d,inP,h1,h2]
theorem e4p {p q:Nat×Nat×Nat} {s:Sl} (l:List Sl) (h:¬ (0≤c1y s.p p∧c1y s.p q≤0)):c2d p q (l++[s])=c2d p q l:=by
 have:inP p q s=false:=by
  cases e:inP p q s with
  |false=>rfl
  |true=>simp only [inP,Bool.and_eq_true,decide_eq_true_eq] at e;exact (h e).elim
 simp [c2d,this]
theorem c9y (p q:Nat×Nat×Nat):c2d p q []=[]:=rfl
theorem f4i (t:List Ch) (ht:a1r t=true) (c:Cu) (hcb:b7z c=true) (p q:Nat×Nat×Nat) (hpk:p.1 < t.length) (hpn:p.2.1 < t[p.1].lines.length) (hpw:p.2.2 < t[p.1].lines[p.2.1].length) (hqk:q.1 < t.length) (hqn:q.2.1 < t[q.1].lines.length) (hqw:q.2.2 < t[q.1].lines[q.2.1].length) (hpq:0≤c1y q p) :
  a0l Tryz.prog 51 [txE 0 t,.agg (cuC c),.agg (pl3 p),.agg (pl3 q)] (fun n=>.tup [sls n (c2d p q (a7w c t t.length)),i64 0]):=by
 obtain ⟨bt1,bt2⟩:=c0k ht
 have hc2:=hcb
 simp only [b7z,inB,Bool.and_eq_true,decide_eq_true_eq] at hc2
 have hO:=d0c t c (by omega)
 rw [show d2l t c=0 by simp [d2l,ht,hcb]] at hO
 have hM1:=c1v t ht c hcb p.1 hpk p.2.1 p.2.2 hpn hpw
 have hM2:=c1v t ht c hcb q.1 hqk q.2.1 q.2.2 hqn hqw
 generalize d5e c p.1 t[p.1].lines p.2.1 p.2.2=S1 at hM1
 generalize d5e c q.1 t[q.1].lines q.2.1 q.2.2=S2 at hM2
 refine a5o (ow:=fun _=>false) Tryz.func51 Tryz.ntmps51 rfl (by kernel_rfl) (by simp) rfl (by decide) fun G hG hOw hNm hrd hB=>?_;simp only [go_sem,hG,hOw]
 (repeat' with_reducible first|refine And.intro ?_ ?_|intro _|refine exP ?_ ?_);all_goals try omega
 refine a0a hO ?_
 simp only [go_sem,hG,hOw]
 (repeat' with_reducible first|refine And.intro ?_ ?_|intro _|refine exP ?_ ?_);all_goals try omega
 refine a0a hM1 ?_
 simp only [go_sem,hG,hOw]
 (repeat' with_reducible first|refine And.intro ?_ ?_|intro _|refine exP ?_ ?_);all_goals try omega
 refine a0a hM2 ?_
 simp only [go_sem,hG,hOw]
 (repeat' with_reducible first|refine And.intro ?_ ?_|intro _|refine exP ?_ ?_);all_goals try omega
 refine a0a (b5a q p) ?_
 have hnl:¬ c1y q p < 0:=by omega
 simp (maxSteps:=2000000) only [go_sem,hG,hOw,hnl]
 (repeat' with_reducible first|refine And.intro ?_ ?_|intro _|refine exP ?_ ?_);all_goals try omega
 refine a0a (e7e t c) ?_
 simp only [go_sem,hG,hOw]
 refine a4c (s':=St.of [(6,.ptr 56 0),(7,.ptr 57 0),(15,.ptr 55 0),(51,.fn (.func 183) [.fp [chs 0 t],.fp (cuC c)])] [(55,.box [.own 58 0 0 6]),(58,.arr 87 6 []),(56,.box (pl3 p)),(57,.box (pl3 q))]) (a1m [(55,some 15),(58,none),(56,some 6),(57,some 7)]) ?_
 refine a5b [55,56,57] 99 (fun _=>false) hrd rfl Tryz.func183 Tryz.ntmps183 rfl (by kernel_rfl) rfl (by simp) (by rw [hG];decide) rfl (by rw [hNm];simp [a0z]) rfl rfl fun G1 l L k1 k2 k3 k4 k5 hYJ=>?_
 have hY:=hYJ.law (fun _=>false)
 have hG0:=hG
 have hNm0:=hNm
 have hOw0:=hOw
 have hG:=k1
 have hOw:=k2
 have hNm:=k3
 simp only [go_sem,hG,hOw]
 (repeat' with_reducible first|refine And.intro ?_ ?_|intro _|refine exP ?_ ?_);all_goals try omega
 refine a0i (fun k:Nat=>St.of [(0,.v (.func (.yield l) #[] #[])),(1,.fp [chs 0 t]),(2,.fp (cuC c)),(9,i64 t.length),(10,i64 k)] [(99,.obj (.loop (Lp L none))),(55,.box [.own 58 0 (c2d p q (a7w c t k)).length 6]),(58,.arr 87 6 ((c2d p q (a7w c t k)).map slC)),(56,.box (pl3 p)),(57,.box (pl3 q))]) (fun k=>k≤t.length) (fun k=>t.length - k) 0 (by simp) (a1m [(99,some 99),(55,some 55),(58,some 58),(56,some 56),(57,some 57)] (by (simp only [go_sem])<;>simp [a7w,c9y]) (by (simp only [go_sem,a1k,a0s,a0j,a1q])<;>simp [a7w,c9y])) ?_
 rintro k hk
 have hlen:=c5a c t ht k hk
 refine a0d _ _ _ ?_
 simp only [go_sem,hG,hOw]
 (repeat' with_reducible first|refine And.intro ?_ ?_|intro _|refine exP ?_ ?_);all_goals try omega
 ·rename_i hlt
  have hkl:k < t.length:=by omega
  obtain ⟨h1,h2,h3⟩:=b3l ht k hkl
  have hfl:=a6h t[k].lines (by omega) (fun r hr=>by have:=h2 r hr;omega)
  refine a0a (e4j t c k hkl (by omega) (fun r hr=>by have:=h2 r hr;omega)) ?_
  simp only [go_sem,hG,hOw]
  (repeat' with_reducible first|refine And.intro ?_ ?_|intro _|refine exP ?_ ?_);all_goals try omega
  obtain ⟨P,hP⟩:∃ P,P=a7w c t k:=⟨_,rfl⟩
  obtain ⟨ls,hls⟩:∃ ls,ls=t[k].lines:=⟨_,rfl⟩
  have hnx:=a7q c t k hkl
  rw [← hP,← hls] at hnx
  rw [← hls] at hfl h3
  rw [← hP] at hlen ⊢
  have hls':=hls.symm
  have hcs:inB c.s 1 3=true∧12≤c.w∧c.w≤1000:=by
   simp only [b7z,Bool.and_eq_true] at hcb
   have h12:=hcb.1
   simp only [inB,Bool.and_eq_true,decide_eq_true_eq] at h12
   exact ⟨hcb.2,by omega,by omega⟩
  refine a2s (fun _:Unit=>St.of [(0,.v (.func (.yield l) #[] #[])),(1,.fp [chs 0 t]),(2,.fp (cuC c)),(9,i64 t.length),(10,i64 k)] [(99,.obj (.loop (Lp L none))),(55,.box [.own 58 0 (c2d p q (P++b7d c k ls ls.flatten.length)).length 6]),(58,.arr 87 6 ((c2d p q (P++b7d c k ls ls.flatten.length)).map slC)),(56,.box (pl3 p)),(57,.box (pl3 q))]) (fun _=>True) ?_ ?_
  ·refine a0i (fun i:Nat=>St.of [(0,.v (.func (.yield l) #[] #[])),(1,.fp [chs 0 t]),(2,.fp (cuC c)),(5,.fp (e5a G1.lo c k ls)),(9,i64 t.length),(10,i64 k),(19,i64 ls.flatten.length),(20,i64 i)] [(99,.obj (.loop (Lp L none))),(55,.box [.own 58 0 (c2d p q (P++b7d c k ls i)).length 6]),(58,.arr 87 6 ((c2d p q (P++b7d c k ls i)).map slC)),(56,.box (pl3 p)),(57,.box (pl3 q))]) (fun i=>i≤ls.flatten.length) (fun i=>ls.flatten.length - i) 0 (by simp) (b5h (fun i=>i == 5) (a1m [(99,some 99),(55,some 55),(58,some 58),(56,some 56),(57,some 57)] (by (simp only [go_sem])<;>simp [b7d,hls']) (by (simp only [go_sem,a1k,a0s,a0j,a1q])<;>simp [b7d,hls']))) ?_
   rintro i hi
   have hcl:(b7d c k ls i).length=i:=by simp [b7d]
   have hpl:=d0h p q (P++b7d c k ls i)
   rw [List.length_append,hcl] at hpl
   obtain ⟨D,hD⟩:∃ D,D=c2d p q (P++b7d c k ls i):=⟨_,rfl⟩
   rw [← hD] at hpl ⊢
   refine a0d _ _ _ ?_
   simp only [go_sem,hG,hOw]
   (repeat' with_reducible first|refine And.intro ?_ ?_|intro _|refine exP ?_ ?_);all_goals try omega
   ·rename_i hlt2
    have hil:i < ls.flatten.length:=by omega
    refine a0a (d8p c k ls hcs.1 hcs.2 h3.1 (by omega) i hil) ?_
    obtain ⟨s,hs⟩:∃ s,s=d5o c k ls i:=⟨_,rfl⟩
    have e1:=d9e c k ls i
    rw [← hs] at e1 ⊢
    simp only [go_sem,hG,hOw]
    (repeat' with_reducible first|refine And.intro ?_ ?_|intro _|refine exP ?_ ?_);all_goals try omega
    refine hY [99,55,56,57] _ _ _ _ _ (by simp (config:={ maxSteps:=4000000 }) only [go_sem,reduceIte,Nat.reduceEqDiff]) rfl (by simp [chk,k1]) (by rw [k3];simp) (by intro id hid;left;rw [k3];exact hid) fun G2 m1 m2 m3 m4 m5=>?_
    have hG2:=m1.trans hG0
    simp (maxSteps:=2000000) only [go_sem,hG,hOw,hG2,m2]
    refine a0d _ _ _ ?_
    simp (maxSteps:=2000000) only [go_sem,hG,hOw,hG2,m2]
    try (repeat' with_reducible first|refine And.intro ?_ ?_|intro _|refine exP ?_ ?_);all_goals try omega
    refine a1j (b5a s.p p) (by first|exact Subs.refl _|(repeat' (first|exact Subs.nil|exact Sub.refl _|exact Sub.lo (Nat.zero_le _)|refine Subs.cons ?_ ?_|refine Subs.agg ?_|refine Subs.fp ?_|refine Subs.tup ?_|refine Sub.map (Nat.zero_le _) (fun _=>?_)))) (by first|rfl|simp [a9b,b2q,pureV,pure0, *]) (by simp [chk,hG2]) ?_
    by_cases c1:0≤c1y s.p p
    ·simp (maxSteps:=2000000) only [go_sem,hG,hOw,hG2,m2,c1,ge_iff_le,decide_false,decide_true]
     try (repeat' with_reducible first|refine And.intro ?_ ?_|intro _|refine exP ?_ ?_);all_goals try omega
     refine a1j (b5a s.p q) (by first|exact Subs.refl _|(repeat' (first|exact Subs.nil|exact Sub.refl _|exact Sub.lo (Nat.zero_le _)|refine Subs.cons ?_ ?_|refine Subs.agg ?_|refine Subs.fp ?_|refine Subs.tup ?_|refine Sub.map (Nat.zero_le _) (fun _=>?_)))) (by first|rfl|simp [a9b,b2q,pureV,pure0, *]) (by simp [chk,hG2]) ?_
     by_cases c2:c1y s.p q≤0
     ·have e2:=e9q (P++b7d c k ls i) c1 c2
      rw [← hD,List.append_assoc,← e1] at e2
      simp (maxSteps:=2000000) only [go_sem,hG,hOw,hG2,m2,c2,decide_false,decide_true]
      try (repeat' with_reducible first|refine And.intro ?_ ?_|intro _|refine exP ?_ ?_);all_goals try omega
      refine ⟨i+1,by omega,by omega,?_⟩
      rw [e2]
      exact a1m [(99,some 99),(55,some 55),(58,some 68),(56,some 56),(57,some 57)] (by (simp only [go_sem])<;>simp [slC,i64,Nat.add_assoc]) (by (simp only [go_sem,a1k,a0s,a0j,a1q])<;>simp [slC,i64,Nat.add_assoc])
     ·have e2:=e4p (P++b7d c k ls i) (s:=s) (p:=p) (q:=q) (fun h=>c2 h.2)
      rw [← hD,List.append_assoc,← e1] at e2
      simp (maxSteps:=2000000) only [go_sem,hG,hOw,hG2,m2,c2,decide_false,decide_true]
      try (repeat' with_reducible first|refine And.intro ?_ ?_|intro _|refine exP ?_ ?_);all_goals try omega
      refine ⟨i+1,by omega,by omega,?_⟩
      rw [e2]
      exact a1m [(99,some 99),(55,some 55),(58,some 58),(56,some 56),(57,some 57)]
    ·have e2:=e4p (P++b7d c k ls i) (s:=s) (p:=p) (q:=q) (fun h=>c1 h.1)
     rw [← hD,List.append_assoc,← e1] at e2
     simp (maxSteps:=2000000) only [go_sem,hG,hOw,hG2,m2,c1,ge_iff_le,decide_false,decide_true]
     try (repeat' with_reducible first|refine And.intro ?_ ?_|intro _|refine exP ?_ ?_);all_goals try omega
     refine ⟨i+1,by omega,by omega,?_⟩
     rw [e2]
     exact a1m [(99,some 99),(55,some 55),(58,some 58),(56,some 56),(57,some 57)]
   ·obtain rfl:i=ls.flatten.length:=by omega
    rw [hD]
    exact ⟨(),a1m [(99,some 99),(55,some 55),(58,some 58),(56,some 56),(57,some 57)]⟩
  rintro ⟨⟩ -
  simp only [go_sem,hG,hOw]
  (repeat' with_reducible first|refine And.intro ?_ ?_|intro _|refine exP ?_ ?_);all_goals try omega
  refine ⟨k+1,by omega,by omega,?_⟩
  rw [hnx]
  exact a1m [(99,some 99),(55,some 55),(58,some 58),(56,some 56),(57,some 57)]
 ·obtain rfl:k=t.length:=by omega
  refine ⟨none,by simp (config:={ maxSteps:=4000000 }) only [go_sem,reduceIte,Nat.reduceEqDiff],?_⟩
  have hG:=hG0
  have hOw:=hOw0
  have hNm:=hNm0
  simp only [go_sem,hG,hOw]
  all_goals try exact .refl _
theorem e7g (t:List Ch) (ht:a1r t=true) (c:Cu) (hcb:b7z c=true) (s:Sl) (k n w:Nat) (h:AtS t c s k n w):a0l Tryz.prog 53 [txE 0 t,.agg (cuC c),.agg (siC (b4b s))] (fun _=>.tup [.v (.int .u8 0),i64 0]):=by
 have hc2:=hcb
 simp only [b7z,inB,Bool.and_eq_true,decide_eq_true_eq] at hc2
 have hO:=d0c t c (by omega)
 rw [show d2l t c=0 by simp [d2l,ht,hcb]] at hO
 have hM:=c1v t ht c hcb k h.hk n w h.hn h.hw
 rw [← h.is,← h.p] at hM
 have hg:=h.good ht hcb
 unfold a6w at hg
 rw [Bool.and_eq_true] at hg
 have hb:bdS (b4b s):=by
  have h1:=hg.1
  unfold b1b b7j at h1
  simp only [Bool.and_eq_true,Bool.or_eq_true,decide_eq_true_eq] at h1
  have hw:=a2n h1.2
  refine ⟨by omega,?_,?_⟩
  ·rcases h1.1.1 with e|e
   ·rw [e];decide
   ·omega
  ·rcases h1.1.2 with e|e
   ·rw [e];decide
   ·omega
 have hR:=c5r (b4b s) hb
 rw [hg.1] at hR
 unfold b4b at hR ⊢
 refine a0b (ow:=fun _=>false) Tryz.func53 Tryz.ntmps53 rfl rfl fun G hG hOw hNm hB=>?_;simp only [go_sem,hG,hOw]
 (repeat' with_reducible first|refine And.intro ?_ ?_|intro _|refine exP ?_ ?_);all_goals try omega
 refine a0a hO ?_
 simp only [go_sem,hG,hOw]
 (repeat' with_reducible first|refine And.intro ?_ ?_|intro _|refine exP ?_ ?_);all_goals try omega
 refine a0a hR ?_
 simp only [go_sem,hG,hOw]
 (repeat' with_reducible first|refine And.intro ?_ ?_|intro _|refine exP ?_ ?_);all_goals try omega
 refine a0a hM ?_
 simp only [go_sem,hG,hOw]
 try (repeat' with_reducible first|refine And.intro ?_ ?_|intro _|refine exP ?_ ?_);all_goals try omega
open Go Pm
set_option maxHeartbeats 4000000
set_option maxRecDepth 100000
theorem d8u (n lo hi:Int):a0l Tryz.prog 123 [i64 n,i64 lo,i64 hi] (fun _=>bl (inB n lo hi)):=by
 refine a0b (ow:=fun _=>false) Tryz.func123 Tryz.ntmps123 rfl rfl fun G hG hOw hNm hB=>?_;simp only [go_sem,hG,hOw]
 (repeat' with_reducible first|refine And.intro ?_ ?_|intro _|refine exP ?_ ?_);all_goals try omega
 all_goals unfold inB
 ·rename_i h;rw [decide_eq_true h,Bool.true_and]
 ·rename_i h;rw [decide_eq_false h,Bool.false_and]
theorem f2v (c:Cu) (hs:0≤c.s∧c.s≤255):a0l Tryz.prog 50 [.agg (cuC c)] (fun _=>bl (b7z c)):=by
 refine a0b (ow:=fun _=>false) Tryz.func50 Tryz.ntmps50 rfl rfl fun G hG hOw hNm hB=>?_;simp only [go_sem,hG,hOw]
 (repeat' with_reducible first|refine And.intro ?_ ?_|intro _|refine exP ?_ ?_);all_goals try omega
 refine a0a (d8u c.w 12 80) ?_
 unfold b7z
 cases h1:inB c.w 12 80 with
 |false =>
  simp only [go_sem,hG,hOw]
  (repeat' with_reducible first|refine And.intro ?_ ?_|intro _|refine exP ?_ ?_);all_goals try omega
 |true =>
  simp only [go_sem,hG,hOw]
  (repeat' with_reducible first|refine And.intro ?_ ?_|intro _|refine exP ?_ ?_);all_goals try omega
  refine a0a (d8u c.s 1 3) ?_
  simp only [go_sem,hG,hOw]
  try (repeat' with_reducible first|refine And.intro ?_ ?_|intro _|refine exP ?_ ?_);all_goals try omega
theorem g4s (t:List Ch) (c:Cu) (ht:a1r t=true) (hcb:b7z c=true) (l:List Sl) (hl:l.length≤700) (hat:∀ s ∈ l,∃ k n w,AtS t c s k n w) {G:Gh} {lo:Nat} (hG:G.n=182) (hOw:G.ow=fun _=>false) (hNm:G.nm=[]) :
  SemL Tryz.prog G ((a5p (Tryz.f8.body.getD .skip)).drop 16) (St.of [(4,.ptr 4 0),(5,.ptr 5 0),(9,bl true),(18,sls 0 l),(20,i64 (b7q l l.length))] [(4,.box [chs 0 t]),(5,.box (cuC c))]) (a2g Tryz.prog lo [.tmp 8] (bl true)):=by
 have hg:∀ s ∈ l,a6w (b4b s)=true:=fun s hs=>by
  obtain ⟨k,n,w,h⟩:=hat s hs
  exact h.good ht hcb
 have hga:=g5m hg
 have hbd:∀ s ∈ l.map b4b,bdS s:=fun s hs=>by
  rw [List.all_eq_true] at hga
  have h1:=(f1i (hga s hs))
  have hw:=a2n h1.word
  have one:∀ b,b7j b=true→b.size≤100000:=fun b hb=>by
   by_cases e:b=⟨#[]⟩
   ·rw [e];decide
   ·have:=(a7n hb e).2;omega
  exact ⟨by omega,one _ h1.bef,one _ h1.aft⟩
 have cO:=b8v (l.map b4b) (by rw [List.length_map];omega) hbd
 have hcnt:=e7i l
 have cS:=c6e (l.map b4b)
 rw [← e3o] at cO cS
 have eP:a3z (l.map b4b)=if (a1a (l.map b4b)).length≤200 then (a1a (l.map b4b),0) else ([],110):=by unfold a3z;rw [if_pos hga]
 by_cases hn:(a1a (l.map b4b)).length≤200
 ·rw [if_pos hn] at eP
  rw [eP] at cO
  have cT:=d1v (a1a (l.map b4b))
  rw [d3f hga hn,← e3o] at cT
  rw [hcnt]
  generalize a1a (l.map b4b)=R at *
  refine a1g 10 _ _ ?_
  simp only [Tryz.f8,Option.getD_some,a2y,a1s,a2k,a2e,a3a,List.singleton_append,List.cons_append,List.nil_append,List.drop_succ_cons,List.drop_zero]
  simp only [go_sem,hG,hOw]
  refine a0a cO ?_
  simp only [go_sem,hG,hOw]
  refine a0a cT ?_
  simp only [go_sem,hG,hOw]
  refine a0a cS ?_
  simp only [go_sem,hG,hOw]
  try (repeat' with_reducible first|refine And.intro ?_ ?_|intro _|refine exP ?_ ?_);all_goals try omega
  have hlen:(l.length:Int)≤700:=by omega
  refine a2s (fun _:Unit=>St.of [(9,bl true)] []) (fun _=>True) ?_ ?_
  ·refine a0i (fun k:Nat=>St.of [(4,.ptr 4 0),(5,.ptr 5 0),(9,bl true),(161,sls 0 l),(162,i64 l.length),(163,i64 k)] [(4,.box [chs 0 t]),(5,.box (cuC c))]) (fun k=>k≤l.length) (fun k=>l.length - k) 0 (by simp) (a1m [(4,some 4),(5,some 5)]) ?_
   rintro k hk
   by_cases hkl:k < l.length
   ·have hlt:(k:Int) < l.length:=by omega
    obtain ⟨a,b,d,hA⟩:=hat _ (List.getElem_mem hkl)
    have hW:=e7g t ht c hcb _ a b d hA
    refine a0d _ _ _ ?_
    simp (maxSteps:=2000000) only [go_sem,hG,hOw,hlt]
    try (repeat' with_reducible first|refine And.intro ?_ ?_|intro _|refine exP ?_ ?_);all_goals try omega
    refine a0a hW ?_
    simp only [go_sem,hG,hOw]
    try (repeat' with_reducible first|refine And.intro ?_ ?_|intro _|refine exP ?_ ?_);all_goals try omega
    exact ⟨k+1,by omega,by omega,a1m [(4,some 4),(5,some 5)]⟩
   ·have hlt:¬ (k:Int) < l.length:=by omega
    refine a0d _ _ _ ?_
    simp (maxSteps:=2000000) only [go_sem,hG,hOw,hlt]
    try (repeat' with_reducible first|refine And.intro ?_ ?_|intro _|refine exP ?_ ?_);all_goals try omega
    exact ⟨(),a1m []⟩
  rintro ⟨⟩ -
  simp only [go_sem,hG,hOw]
 ·rw [if_neg hn] at eP
  rw [eP] at cO
  rw [hcnt]
  have hn2:(200:Int) < ((a1a (l.map b4b)).length:Int):=by omega
  generalize a1a (l.map b4b)=R at *
  refine a1g 3 _ _ ?_
  simp only [Tryz.f8,Option.getD_some,a2y,a1s,a2k,a2e,a3a,List.singleton_append,List.cons_append,List.nil_append,List.drop_succ_cons,List.drop_zero]
  simp only [go_sem,hG,hOw]
  refine a0a cO ?_
  simp (maxSteps:=2000000) only [go_sem,hG,hOw,hn2]
  try (repeat' with_reducible first|refine And.intro ?_ ?_|intro _|refine exP ?_ ?_);all_goals try omega
theorem g3k (t:List Ch) (c:Cu) (d1 d2:Nat) (h1:d1 < 65536) (h2:d2 < 65536) (ht:a1r t=true) (hcb:b7z c=true) {G:Gh} {lo:Nat} (hG:G.n=182) (hOw:G.ow=fun _=>false) (hNm:G.nm=[]) :
  SemL Tryz.prog G ((a5p (Tryz.f8.body.getD .skip)).drop 4) (St.of [(2,.v (.int .u16 d1)),(3,.v (.int .u16 d2)),(4,.ptr 4 0),(5,.ptr 5 0),(9,bl true)] [(4,.box [chs 0 t]),(5,.box (cuC c))]) (a2g Tryz.prog lo [.tmp 8] (bl true)):=by
 obtain ⟨hv1,hv2⟩:=b0n ht
 have hb:=c0l (t:=t) (fun c hc=>⟨(hv2 c hc).len.2,fun r hr=>((hv2 c hc).ln r hr).1.2⟩) t.length (Nat.le_refl _)
 have hW1:1≤a8h t t.length:=by
  have h0:0 < t.length:=by omega
  have hc:=hv2 _ (List.getElem_mem h0)
  have h0l:0 < t[0].lines.length:=by have:=hc.len;omega
  have hr:=hc.ln _ (List.getElem_mem h0l)
  have a1:=a9g t (a:=1) (b:=t.length) h0
  rw [show (1:Nat)=0+1 from rfl,a6j h0] at a1
  have a2:=a6r t[0].lines (a:=1) (b:=t[0].lines.length) h0l
  rw [show (1:Nat)=0+1 from rfl,a5e h0l] at a2
  omega
 have cW:=f0i t ht
 have hcnt:=c2o c t t.length (Nat.le_refl _)
 have hpf:=c7v (t:=t) t.length (Nat.le_refl _) (N:=min (d1 % a8h t t.length) (d2 % a8h t t.length)) (by have:=Nat.mod_lt d1 hW1;omega)
 have hqf:=c7v (t:=t) t.length (Nat.le_refl _) (N:=max (d1 % a8h t t.length) (d2 % a8h t t.length)) (by have:=Nat.mod_lt d1 hW1;have:=Nat.mod_lt d2 hW1;omega)
 obtain ⟨W,hW⟩:∃ W,W=a8h t t.length:=⟨_,rfl⟩
 rw [← hW] at hb hW1 cW hcnt hpf hqf
 obtain ⟨k,n,w,hp⟩:=hpf
 obtain ⟨k',n',w',hq⟩:=hqf
 have hord:=e9l (a:=(k,n,w)) (b:=(k',n',w')) hp hq (by omega)
 have cP:=b9a t ht _ k n w hp
 have cQ:=b9a t ht _ k' n' w' hq
 have cL:=f4i t ht c hcb (k,n,w) (k',n',w') hp.hk hp.hn hp.hw hq.hk hq.hn hq.hw hord.2
 obtain ⟨l,hl⟩:∃ l,l=c2d (k,n,w) (k',n',w') (a7w c t t.length):=⟨_,rfl⟩
 have hlen:l.length≤700:=by
  have:=d0h (k,n,w) (k',n',w') (a7w c t t.length)
  have:t.length≤6:=hv1.2
  rw [hl];omega
 have hat:∀ s ∈ l,∃ k n w,AtS t c s k n w:=fun s hs=>by
  rw [hl] at hs
  exact e4e t.length (Nat.le_refl _) (List.mem_filter.1 hs).1
 have hpos:1≤l.length:=by
  have hkk:=hp.hk
  have hm:d5e c k t[k].lines n w ∈ l:=by
   rw [hl]
   unfold c2d
   rw [List.mem_filter]
   refine ⟨f5d hp.hk hp.hn hp.hw,?_⟩
   unfold inP
   rw [f1e c k _ n w hp.hn hp.hw,e2g]
   simp only [Bool.and_eq_true,decide_eq_true_eq]
   exact ⟨Int.le_refl _,hord.1⟩
  exact List.length_pos_of_mem hm
 rw [← hl] at cL
 clear hl
 have m1:((min (d1 % W) (d2 % W):Nat):Int)=if (d2:Int) % W < (d1:Int) % W then (d2:Int) % W else (d1:Int) % W:=by
  rw [← Int.natCast_emod,← Int.natCast_emod]
  split<;>omega
 have m2:((max (d1 % W) (d2 % W):Nat):Int)=if (d1:Int) % W < (d2:Int) % W then (d2:Int) % W else (d1:Int) % W:=by
  rw [← Int.natCast_emod,← Int.natCast_emod]
  split<;>omega
 rw [m1] at cP
 rw [m2] at cQ
 have hWI:(1:Int)≤W:=by omega
 refine a1g 12 _ _ ?_
 simp only [Tryz.f8,Option.getD_some,a2y,a1s,a2k,a2e,a3a,List.singleton_append,List.cons_append,List.nil_append,List.drop_succ_cons,List.drop_zero]
 simp only [go_sem,hG,hOw]
 refine a0a cW ?_
 simp only [go_sem,hG,hOw]
 try (repeat' with_reducible first|refine And.intro ?_ ?_|intro _|refine exP ?_ ?_);all_goals try omega
 refine a0r mixed (by kernel_rfl) ?_
 simp only [go_sem,hG,hOw]
 try (repeat' with_reducible first|refine And.intro ?_ ?_|intro _|refine exP ?_ ?_);all_goals try omega
 refine a0a cP ?_
 simp only [go_sem,hG,hOw]
 try (repeat' with_reducible first|refine And.intro ?_ ?_|intro _|refine exP ?_ ?_);all_goals try omega
 refine a0a cQ ?_
 simp only [go_sem,hG,hOw]
 try (repeat' with_reducible first|refine And.intro ?_ ?_|intro _|refine exP ?_ ?_);all_goals try omega
 refine a0a cL ?_
 have hposI:(1:Int)≤l.length:=by omega
 have hlenI:(l.length:Int)≤700:=by omega
 have hsub:Pm.Sub (V.lst G.lo 6 (List.map slC l)) (V.lst 0 6 (List.map slC l)):=Sub.lo (Nat.zero_le _)
 simp only [go_sem,hG,hOw]
 try (repeat' with_reducible first|refine And.intro ?_ ?_|intro _|refine exP ?_ ?_);all_goals try omega
 refine a2s (fun _:Unit=>St.of [(4,.ptr 4 0),(5,.ptr 5 0),(9,bl true),(18,sls 0 l),(20,i64 (b7q l l.length))] [(4,.box [chs 0 t]),(5,.box (cuC c))]) (fun _=>True) ?_ ?_
 ·refine a0i (fun k:Nat=>St.of [(4,.ptr 4 0),(5,.ptr 5 0),(9,bl true),(18,sls 0 l),(20,i64 (b7q l k)),(107,sls 0 l),(108,i64 l.length),(109,i64 k)] [(4,.box [chs 0 t]),(5,.box (cuC c))]) (fun k=>k≤l.length) (fun k=>l.length - k) 0 (by simp) (a1i [(4,some 4),(5,some 5)] (by (simp only [hsub,or_true,b7q,go_sem])<;>simp [hsub,or_true,b7q]) (by (simp only [hsub,or_true,b7q,go_sem,a1k,a0s,a0j,a1q])<;>simp [hsub,or_true,b7q]) (by simp [a2r,apart]) (by simp [a0q,usH]) (by simp [hNm,lkR,a0z])) ?_
  rintro k hk
  by_cases hkl:k < l.length
  ·have hlt:(k:Int) < l.length:=by omega
   have hcs:=c3z l k hkl
   have hcl:=e4n l k hk
   obtain ⟨q,hq0⟩:∃ q,q=b7q l k:=⟨_,rfl⟩
   rw [← hq0] at hcs hcl ⊢
   refine a0d _ _ _ ?_
   simp (maxSteps:=2000000) only [go_sem,hG,hOw,hlt]
   (repeat' with_reducible first|refine And.intro ?_ ?_|intro _|refine exP ?_ ?_);all_goals try omega
   ·rename_i e1 e2
    rw [if_neg e1,if_neg e2] at hcs
    have hc3:((b7q l (k+1):Nat):Int)=(q:Int)+1+1+1:=by omega
    refine ⟨k+1,by omega,by omega,?_⟩
    rw [hc3]
    exact a1m [(4,some 4),(5,some 5)]
   ·rename_i e1 e2
    rw [if_neg e1,if_pos e2] at hcs
    have hc3:((b7q l (k+1):Nat):Int)=(q:Int)+1+1:=by omega
    refine ⟨k+1,by omega,by omega,?_⟩
    rw [hc3]
    exact a1m [(4,some 4),(5,some 5)]
   ·rename_i e1 e2
    rw [if_pos e1,if_neg e2] at hcs
    have hc3:((b7q l (k+1):Nat):Int)=(q:Int)+1+1:=by omega
    refine ⟨k+1,by omega,by omega,?_⟩
    rw [hc3]
    exact a1m [(4,some 4),(5,some 5)]
   ·rename_i e1 e2
    rw [if_pos e1,if_pos e2] at hcs
    have hc3:((b7q l (k+1):Nat):Int)=(q:Int)+1:=by omega
    refine ⟨k+1,by omega,by omega,?_⟩
    rw [hc3]
    exact a1m [(4,some 4),(5,some 5)]
  ·have hlt:¬ (k:Int) < l.length:=by omega
   obtain rfl:k=l.length:=by omega
   refine a0d _ _ _ ?_
   simp (maxSteps:=2000000) only [go_sem,hG,hOw,hlt]
   try (repeat' with_reducible first|refine And.intro ?_ ?_|intro _|refine exP ?_ ?_);all_goals try omega
   exact ⟨(),a1m [(4,some 4),(5,some 5)]⟩
 rintro ⟨⟩ -
 simp only [go_sem,hG,hOw]
 exact g4s t c ht hcb l hlen hat hG hOw hNm
theorem c1s (t:List Ch) (c:Cu) (d1 d2:Nat) (hs:0≤c.s∧c.s≤255) (h1:d1 < 65536) (h2:d2 < 65536):a0l Tryz.prog 8 [txE 0 t,.agg (cuC c),.v (.int .u16 d1),.v (.int .u16 d2)] (fun _=>bl true):=by
 refine b6t (fun _=>false) Tryz.func8 Tryz.ntmps8 rfl (by kernel_rfl) (by simp) rfl (by decide) fun G hG hOw hNm hZ hB=>?_
 refine a1g 4 _ _ ?_
 simp only [go_sem,hG,hOw]
 refine a0a e9g ?_
 simp only [go_sem,hG,hOw]
 refine a0a (d4k t) ?_
 cases hT:b2c t with
 |true =>
  simp (maxSteps:=2000000) only [go_sem,hG,hOw,hT]
  try (repeat' with_reducible first|refine And.intro ?_ ?_|intro _|refine exP ?_ ?_);all_goals try omega
 |false =>
 have hok:=d6f hT
 simp (maxSteps:=2000000) only [go_sem,hG,hOw,hT]
 try (repeat' with_reducible first|refine And.intro ?_ ?_|intro _|refine exP ?_ ?_);all_goals try omega
 refine a0a (f5z t hok) ?_
 cases ht:a1r t with
 |false =>
  simp (maxSteps:=2000000) only [go_sem,hG,hOw,ht]
  try (repeat' with_reducible first|refine And.intro ?_ ?_|intro _|refine exP ?_ ?_);all_goals try omega
 |true =>
 simp (maxSteps:=2000000) only [go_sem,hG,hOw,ht]
 try (repeat' with_reducible first|refine And.intro ?_ ?_|intro _|refine exP ?_ ?_);all_goals try omega
 refine a0a (f2v c hs) ?_
 cases hc:b7z c with
 |false =>
  simp (maxSteps:=2000000) only [go_sem,hG,hOw,hc]
  try (repeat' with_reducible first|refine And.intro ?_ ?_|intro _|refine exP ?_ ?_);all_goals try omega
 |true =>
 simp (maxSteps:=2000000) only [go_sem,hG,hOw,hc]
 try (repeat' with_reducible first|refine And.intro ?_ ?_|intro _|refine exP ?_ ?_);all_goals try omega
 refine a2x (s':=(St.of [(2,.v (.int .u16 d1)),(3,.v (.int .u16 d2)),(4,.ptr 4 0),(5,.ptr 5 0),(9,bl true)] [(4,.box [chs 0 t]),(5,.box (cuC c))])) (a1m [(4,some 4),(5,some 5)]) ?_
 exact g3k t c d1 d2 h1 h2 ht hc hG hOw hNm
end Go.Proofs.YtmjhfccbbfpppaaGreatDoor
