import Derived.Test.YtmjhfccbbfpppaaGreatDoorQX09
namespace Go.Proofs.YtmjhfccbbfpppaaGreatDoor
open Go Pm
set_option linter.unusedSimpArgs false
set_option linter.unusedVariables false
def d5f (n:Nat) (r:List ByteArray):List V:=[a0n n r]
def f4y (n:Nat) (l:List (List ByteArray)):V:=.lst n 1 (l.map (d5f n))
attribute [go_sem] d5f f4y
theorem c5g (n:Nat) (l:List (List ByteArray)):a2v (l.map (d5f n))=true:=a2p (fun _=>rfl) l
attribute [go_sem] c5g
def b3i:List ByteArray→List Hk→List (List ByteArray)
 |cur,[]=>[cur]
 |cur,c::r=>cur::b3i (a3m cur c) r
def d3k:List ByteArray→List Hk→Bool
 |_,[]=>true
 |cur,c::r=>(a8p cur c && a0z (a3m cur c)) && d3k (a3m cur c) r
theorem d7b:∀ (l:List Hk) (cur:List ByteArray) (c:Hk),b3i cur (l++[c])=b3i cur l++[a3m (l.foldl a3m cur) c]:=by
 intro l
 induction l with
 |nil=>intro cur c;rfl
 |cons x r ih=>intro cur c;simp [b3i,ih]
theorem d0o:∀ (l m:List Hk) (cur:List ByteArray),d3k cur (l++m)=(d3k cur l && d3k (l.foldl a3m cur) m):=by
 intro l
 induction l with
 |nil=>intro m cur;simp [d3k]
 |cons x r ih=>intro m cur;simp [d3k,ih,Bool.and_assoc]
theorem d0m:∀ (l:List Hk) (cur:List ByteArray),(b3i cur l).length=l.length+1:=by
 intro l
 induction l with
 |nil=>intro cur;rfl
 |cons x r ih=>intro cur;simp [b3i,ih]
theorem c4q:∀ (l:List Hk) (cur:List ByteArray) (k:Nat) (h:k < (b3i cur l).length),k=l.length→(b3i cur l)[k]=l.foldl a3m cur:=by
 intro l
 induction l with
 |nil=>intro cur k h e;subst e;rfl
 |cons x r ih=>intro cur k h e;subst e;simp [b3i];exact ih _ _ _ rfl
theorem c4k:∀ (l:List Hk) (cur:List ByteArray),a0z cur=true→d3k cur l=true→∀ r ∈ b3i cur l,a0z r=true:=by
 intro l
 induction l with
 |nil=>intro cur h _ r hr;simp [b3i] at hr;subst hr;exact h
 |cons x t ih =>
  intro cur h hb r hr
  simp only [d3k,Bool.and_eq_true] at hb
  simp only [b3i,List.mem_cons] at hr
  rcases hr with rfl|hr
  ·exact h
  ·exact ih _ hb.1.2 hb.2 r hr
theorem a9c {l:List ByteArray} (h:a0z l=true):l.length≤200:=by
 simp only [a0z,Bool.and_eq_true,decide_eq_true_eq] at h;omega
def gb (s:Sh):Bool:=(decide (s.chg.length≤11) && a0z s.first) && d3k s.first s.chg
def gl (s:Sh):List (List ByteArray):=if gb s=true then b3i s.first s.chg else []
def g1u:Sh:=⟨[],[]⟩
def e5x (s:Sh):List ByteArray:=s.chg.foldl a3m s.first
def b3u (s:Sh) (l:List ByteArray):Int:=if gb s=false then 112 else if a0z l=false then 110 else if s.chg.length=11 then 9 else 0
def c2j (s:Sh) (l:List ByteArray):Sh:=if b3u s l=0 then ⟨s.first,s.chg++[a3s (e5x s) l]⟩ else g1u
def a6r (s:Sh) (n:Int):Int:=if gb s=false then 112 else if 0≤n∧n≤s.chg.length then 0 else 2
def b7h (s:Sh) (n:Int):List ByteArray:=if a6r s n=0 then (gl s).getD n.toNat [] else []
def b6i (s:Sh) (n:Int):Sh:=if a6r s n=0 then ⟨b7h s n,s.chg.drop n.toNat⟩ else g1u
theorem d0g {s:Sh} (h:gb s=true):(gl s).length=s.chg.length+1:=by simp [gl,h,d0m]
theorem f2r {s:Sh} (h:gb s=true) (k:Nat) (hk:k < (gl s).length) (e:k=s.chg.length):(gl s)[k]=e5x s:=by
 have:gl s=b3i s.first s.chg:=by simp [gl,h]
 simp only [this]
 exact c4q _ _ _ _ e
theorem c5j {s:Sh} (h:gb s=true):s.chg.length≤11:=by simp only [gb,Bool.and_eq_true,decide_eq_true_eq] at h;exact h.1.1
theorem f4o {s:Sh} (h:gb s=true):∀ r ∈ gl s,a0z r=true:=by
 have e:gl s=b3i s.first s.chg:=by simp [gl,h]
 simp only [gb,Bool.and_eq_true] at h
 rw [e]
 exact c4k _ _ h.1.2 h.2
theorem b2b (n:Nat) (e:Int) (s:Sh) (hs:s=g1u):Pm.Sub (.tup [.agg [.v (.slice none 0 0),.v (.slice none 0 0)],.v (.int .i64 e)]) (.tup [.agg [.lst n 1 (s.first.map a1t),.lst n 3 (s.chg.map (hkE n))],.v (.int .i64 e)]):=by
 subst hs
 exact Subs.tup (.cons (Subs.agg (.cons (.nil _ _) (.cons (.nil _ _) .nil))) (.cons (.refl _) .nil))
theorem c4u {α:Type} (ls:List (List α)) (k:Nat) (h:k < ls.length):(ls.take (k+1)).flatten=(ls.take k).flatten++ls[k]:=by
 rw [List.take_add_one,List.getElem?_eq_getElem h,List.flatten_append];simp
theorem a7v {α:Type} (ls:List (List α)) (k:Nat) (h:k < ls.length):(ls.take (k+1)).flatten.length=(ls.take k).flatten.length+ls[k].length:=by
 rw [c4u ls k h,List.length_append]
theorem c8n {α:Type} (ls:List (List α)) (n:Nat) (hl:∀ l ∈ ls,l.length≤n):∀ k,k≤ls.length→(ls.take k).flatten.length≤k * n:=fun k=>by
 induction k with
 |zero=>simp
 |succ k ih =>
  intro hk
  rw [a7v ls k (by omega),Nat.succ_mul]
  have:=ih (by omega);have:=hl _ (List.getElem_mem (show k < ls.length by omega));omega
open Go Pm
theorem b1d (a b:List ByteArray):0≤(a3s a b).lo∧0≤(a3s a b).drop∧(a3s a b).lo+(a3s a b).drop≤a.length∧(a3s a b).put.length≤b.length:=by
 have h1:=c9z a b
 have h2:=c9z (a.drop (cpl a b)).reverse (b.drop (cpl a b)).reverse
 simp only [List.length_reverse,List.length_drop] at h2
 unfold a3s
 simp only [List.length_drop,List.length_take]
 omega
def a2t (o a b:List ByteArray):Hk×Hk:=if (a3s o b).lo < (a3s o a).lo then (a3s o b,a3s o a) else (a3s o a,a3s o b)
theorem d9q (o a b:List ByteArray):(0≤(a2t o a b).1.lo∧0≤(a2t o a b).1.drop∧(a2t o a b).1.lo+(a2t o a b).1.drop≤o.length∧(a2t o a b).1.put.length≤max a.length b.length) ∧
  (0≤(a2t o a b).2.lo∧0≤(a2t o a b).2.drop∧(a2t o a b).2.lo+(a2t o a b).2.drop≤o.length∧(a2t o a b).2.put.length≤max a.length b.length):=by
 have h1:=b1d o a
 have h2:=b1d o b
 unfold a2t
 split<;>simp only<;>omega
def c2x (o:List ByteArray) (p:Hk×Hk):List ByteArray:=a3m (a3m o p.2) p.1
theorem d1i {o:List ByteArray} {h:Hk} (h1:0≤h.lo) (h2:0≤h.drop) (h3:h.lo+h.drop≤o.length):a8p o h=true:=by
 unfold a8p
 simp only [Bool.and_eq_true,decide_eq_true_eq]
 omega
theorem d0p {o:List ByteArray} {h:Hk} (hb:a8p o h=true):h.lo≤(a3m o h).length∧(a3m o h).length≤o.length+h.put.length:=by
 have hb':=hb
 simp only [a8p,Bool.and_eq_true,decide_eq_true_eq] at hb'
 simp only [a3m,hb,if_true,List.length_append,List.length_take,List.length_drop]
 omega
theorem g0l {o:List ByteArray} {p:Hk×Hk} (h1:0≤p.1.lo∧0≤p.1.drop) (h2:a8p o p.2=true) (h:p.1.lo+p.1.drop < p.2.lo):a8p (a3m o p.2) p.1=true:=by
 have:=d0p h2
 exact d1i h1.1 h1.2 (by omega)
def a3n (o a b:List ByteArray):Int :=
 if a0z o=true∧a0z a=true∧a0z b=true then
  if o=a∨o=b∨a=b then 0
  else if (a2t o a b).2.lo≤(a2t o a b).1.lo+(a2t o a b).1.drop then 113
  else if a0z (c2x o (a2t o a b))=true then 0 else 110
 else 110
def a5l (o a b:List ByteArray):List ByteArray :=
 if a3n o a b=0 then if o=a then b else if o=b∨a=b then a else c2x o (a2t o a b) else []
theorem c4i {o a b:List ByteArray} (h:¬ (a0z o=true∧a0z a=true∧a0z b=true)):a3n o a b=110∧a5l o a b=[]:=by
 have:a3n o a b=110:=by unfold a3n;rw [if_neg h]
 exact ⟨this,by simp [a5l,this]⟩
theorem e2y {o a b:List ByteArray} (h:a0z o=true∧a0z a=true∧a0z b=true) (he:o=a):a3n o a b=0∧a5l o a b=b:=by
 have:a3n o a b=0:=by unfold a3n;rw [if_pos h,if_pos (.inl he)]
 exact ⟨this,by unfold a5l;rw [if_pos this,if_pos he]⟩
theorem e1e {o a b:List ByteArray} (h:a0z o=true∧a0z a=true∧a0z b=true) (hn:¬ o=a) (he:o=b∨a=b):a3n o a b=0∧a5l o a b=a:=by
 have:a3n o a b=0:=by unfold a3n;rw [if_pos h,if_pos (.inr he)]
 exact ⟨this,by simp [a5l,this,he,hn]⟩
theorem f3b {o a b:List ByteArray} (h:a0z o=true∧a0z a=true∧a0z b=true) (hn:¬ o=a) (hn':¬ (o=b∨a=b)) (he:(a2t o a b).2.lo≤(a2t o a b).1.lo+(a2t o a b).1.drop):a3n o a b=113∧a5l o a b=[]:=by
 have:a3n o a b=113:=by unfold a3n;rw [if_pos h,if_neg (fun h=>h.elim hn hn'),if_pos he]
 exact ⟨this,by simp [a5l,this]⟩
theorem f4b {o a b:List ByteArray} (h:a0z o=true∧a0z a=true∧a0z b=true) (hn:¬ o=a) (hn':¬ (o=b∨a=b)) (he:¬ (a2t o a b).2.lo≤(a2t o a b).1.lo+(a2t o a b).1.drop) (hr:a0z (c2x o (a2t o a b))=false):a3n o a b=110∧a5l o a b=[]:=by
 have:a3n o a b=110:=by unfold a3n;rw [if_pos h,if_neg (fun h=>h.elim hn hn'),if_neg he,if_neg (by rw [hr];decide)]
 exact ⟨this,by simp [a5l,this]⟩
theorem f4r {o a b:List ByteArray} (h:a0z o=true∧a0z a=true∧a0z b=true) (hn:¬ o=a) (hn':¬ (o=b∨a=b)) (he:¬ (a2t o a b).2.lo≤(a2t o a b).1.lo+(a2t o a b).1.drop) (hr:a0z (c2x o (a2t o a b))=true):a3n o a b=0∧a5l o a b=c2x o (a2t o a b):=by
 have:a3n o a b=0:=by unfold a3n;rw [if_pos h,if_neg (fun h=>h.elim hn hn'),if_neg he,if_pos hr]
 exact ⟨this,by simp [a5l,this,hn,hn']⟩
def srt (x y:Hk):List Hk:=if y.lo < x.lo then [y,x] else [x,y]
theorem d2g (o a b:List ByteArray):srt (a3s o a) (a3s o b)=[(a2t o a b).1,(a2t o a b).2]:=by
 unfold srt a2t;split<;>rfl
end Go.Proofs.YtmjhfccbbfpppaaGreatDoor
