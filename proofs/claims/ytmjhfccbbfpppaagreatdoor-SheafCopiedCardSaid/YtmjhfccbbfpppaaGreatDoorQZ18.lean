import Derived.Test.YtmjhfccbbfpppaaGreatDoorQZ08
namespace Go.Proofs.YtmjhfccbbfpppaaGreatDoor
open Go Pm
set_option linter.unusedSimpArgs false
set_option linter.unusedVariables false
def d3y (n:Nat) (r:List ByteArray):List V:=[a0p n r]
def f4l (n:Nat) (l:List (List ByteArray)):V:=.lst n 1 (l.map (d3y n))
attribute [go_sem] d3y f4l
theorem c2n (n:Nat) (l:List (List ByteArray)):a2z (l.map (d3y n))=true:=a2l (fun _=>rfl) l
attribute [go_sem] c2n
def b2x:List ByteArray→List Hk→List (List ByteArray)
 |cur,[]=>[cur]
 |cur,c::r=>cur::b2x (a3h cur c) r
def d3x:List ByteArray→List Hk→Bool
 |_,[]=>true
 |cur,c::r=>(a8m cur c && a1a (a3h cur c)) && d3x (a3h cur c) r
theorem d9k:∀ (l:List Hk) (cur:List ByteArray) (c:Hk),b2x cur (l++[c])=b2x cur l++[a3h (l.foldl a3h cur) c]:=by
 intro l
 induction l with
 |nil=>intro cur c;rfl
 |cons x r ih=>intro cur c;simp [b2x,ih]
theorem c9o:∀ (l m:List Hk) (cur:List ByteArray),d3x cur (l++m)=(d3x cur l && d3x (l.foldl a3h cur) m):=by
 intro l
 induction l with
 |nil=>intro m cur;simp [d3x]
 |cons x r ih=>intro m cur;simp [d3x,ih,Bool.and_assoc]
theorem d0e:∀ (l:List Hk) (cur:List ByteArray),(b2x cur l).length=l.length+1:=by
 intro l
 induction l with
 |nil=>intro cur;rfl
 |cons x r ih=>intro cur;simp [b2x,ih]
theorem c3c:∀ (l:List Hk) (cur:List ByteArray) (k:Nat) (h:k < (b2x cur l).length),k=l.length→(b2x cur l)[k]=l.foldl a3h cur:=by
 intro l
 induction l with
 |nil=>intro cur k h e;subst e;rfl
 |cons x r ih=>intro cur k h e;subst e;simp [b2x];exact ih _ _ _ rfl
theorem c3j:∀ (l:List Hk) (cur:List ByteArray),a1a cur=true→d3x cur l=true→∀ r ∈ b2x cur l,a1a r=true:=by
 intro l
 induction l with
 |nil=>intro cur h _ r hr;simp [b2x] at hr;subst hr;exact h
 |cons x t ih =>
  intro cur h hb r hr
  simp only [d3x,Bool.and_eq_true] at hb
  simp only [b2x,List.mem_cons] at hr
  rcases hr with rfl|hr
  ·exact h
  ·exact ih _ hb.1.2 hb.2 r hr
theorem a8z {l:List ByteArray} (h:a1a l=true):l.length≤200:=by
 simp only [a1a,Bool.and_eq_true,decide_eq_true_eq] at h;omega
def gb (s:Sh):Bool:=(decide (s.chg.length≤11) && a1a s.first) && d3x s.first s.chg
def gl (s:Sh):List (List ByteArray):=if gb s=true then b2x s.first s.chg else []
def g1e:Sh:=⟨[],[]⟩
def e7j (s:Sh):List ByteArray:=s.chg.foldl a3h s.first
def b3h (s:Sh) (l:List ByteArray):Int:=if gb s=false then 112 else if a1a l=false then 110 else if s.chg.length=11 then 9 else 0
def c2f (s:Sh) (l:List ByteArray):Sh:=if b3h s l=0 then ⟨s.first,s.chg++[a3k (e7j s) l]⟩ else g1e
def a6l (s:Sh) (n:Int):Int:=if gb s=false then 112 else if 0≤n∧n≤s.chg.length then 0 else 2
def b6g (s:Sh) (n:Int):List ByteArray:=if a6l s n=0 then (gl s).getD n.toNat [] else []
def b5s (s:Sh) (n:Int):Sh:=if a6l s n=0 then ⟨b6g s n,s.chg.drop n.toNat⟩ else g1e
theorem c8q {s:Sh} (h:gb s=true):(gl s).length=s.chg.length+1:=by simp [gl,h,d0e]
theorem f1y {s:Sh} (h:gb s=true) (k:Nat) (hk:k < (gl s).length) (e:k=s.chg.length):(gl s)[k]=e7j s:=by
 have:gl s=b2x s.first s.chg:=by simp [gl,h]
 simp only [this]
 exact c3c _ _ _ _ e
theorem c3t {s:Sh} (h:gb s=true):s.chg.length≤11:=by simp only [gb,Bool.and_eq_true,decide_eq_true_eq] at h;exact h.1.1
theorem f0b {s:Sh} (h:gb s=true):∀ r ∈ gl s,a1a r=true:=by
 have e:gl s=b2x s.first s.chg:=by simp [gl,h]
 simp only [gb,Bool.and_eq_true] at h
 rw [e]
 exact c3j _ _ h.1.2 h.2
theorem b0u (n:Nat) (e:Int) (s:Sh) (hs:s=g1e):Pm.Sub (.tup [.agg [.v (.slice none 0 0),.v (.slice none 0 0)],.v (.int .i64 e)]) (.tup [.agg [.lst n 1 (s.first.map a2e),.lst n 3 (s.chg.map (hkE n))],.v (.int .i64 e)]):=by
 subst hs
 exact Subs.tup (.cons (Subs.agg (.cons (.nil _ _) (.cons (.nil _ _) .nil))) (.cons (.refl _) .nil))
theorem c2v {α:Type} (ls:List (List α)) (k:Nat) (h:k < ls.length):(ls.take (k+1)).flatten=(ls.take k).flatten++ls[k]:=by
 rw [List.take_add_one,List.getElem?_eq_getElem h,List.flatten_append];simp
theorem a7s {α:Type} (ls:List (List α)) (k:Nat) (h:k < ls.length):(ls.take (k+1)).flatten.length=(ls.take k).flatten.length+ls[k].length:=by
 rw [c2v ls k h,List.length_append]
theorem c7f {α:Type} (ls:List (List α)) (n:Nat) (hl:∀ l ∈ ls,l.length≤n):∀ k,k≤ls.length→(ls.take k).flatten.length≤k * n:=fun k=>by
 induction k with
 |zero=>simp
 |succ k ih =>
  intro hk
  rw [a7s ls k (by omega),Nat.succ_mul]
  have:=ih (by omega);have:=hl _ (List.getElem_mem (show k < ls.length by omega));omega
open Go Pm
theorem b0l (a b:List ByteArray):0≤(a3k a b).lo∧0≤(a3k a b).drop∧(a3k a b).lo+(a3k a b).drop≤a.length∧(a3k a b).put.length≤b.length:=by
 have h1:=c9l a b
 have h2:=c9l (a.drop (cpl a b)).reverse (b.drop (cpl a b)).reverse
 simp only [List.length_reverse,List.length_drop] at h2
 unfold a3k
 simp only [List.length_drop,List.length_take]
 omega
def a2m (o a b:List ByteArray):Hk×Hk:=if (a3k o b).lo < (a3k o a).lo then (a3k o b,a3k o a) else (a3k o a,a3k o b)
theorem e0d (o a b:List ByteArray):(0≤(a2m o a b).1.lo∧0≤(a2m o a b).1.drop∧(a2m o a b).1.lo+(a2m o a b).1.drop≤o.length∧(a2m o a b).1.put.length≤max a.length b.length) ∧
  (0≤(a2m o a b).2.lo∧0≤(a2m o a b).2.drop∧(a2m o a b).2.lo+(a2m o a b).2.drop≤o.length∧(a2m o a b).2.put.length≤max a.length b.length):=by
 have h1:=b0l o a
 have h2:=b0l o b
 unfold a2m
 split<;>simp only<;>omega
def c2s (o:List ByteArray) (p:Hk×Hk):List ByteArray:=a3h (a3h o p.2) p.1
theorem d0k {o:List ByteArray} {h:Hk} (h1:0≤h.lo) (h2:0≤h.drop) (h3:h.lo+h.drop≤o.length):a8m o h=true:=by
 unfold a8m
 simp only [Bool.and_eq_true,decide_eq_true_eq]
 omega
theorem c8v {o:List ByteArray} {h:Hk} (hb:a8m o h=true):h.lo≤(a3h o h).length∧(a3h o h).length≤o.length+h.put.length:=by
 have hb':=hb
 simp only [a8m,Bool.and_eq_true,decide_eq_true_eq] at hb'
 simp only [a3h,hb,if_true,List.length_append,List.length_take,List.length_drop]
 omega
theorem g0e {o:List ByteArray} {p:Hk×Hk} (h1:0≤p.1.lo∧0≤p.1.drop) (h2:a8m o p.2=true) (h:p.1.lo+p.1.drop < p.2.lo):a8m (a3h o p.2) p.1=true:=by
 have:=c8v h2
 exact d0k h1.1 h1.2 (by omega)
def a3j (o a b:List ByteArray):Int :=
 if a1a o=true∧a1a a=true∧a1a b=true then
  if o=a∨o=b∨a=b then 0
  else if (a2m o a b).2.lo≤(a2m o a b).1.lo+(a2m o a b).1.drop then 113
  else if a1a (c2s o (a2m o a b))=true then 0 else 110
 else 110
def a5b (o a b:List ByteArray):List ByteArray :=
 if a3j o a b=0 then if o=a then b else if o=b∨a=b then a else c2s o (a2m o a b) else []
theorem c3r {o a b:List ByteArray} (h:¬ (a1a o=true∧a1a a=true∧a1a b=true)):a3j o a b=110∧a5b o a b=[]:=by
 have:a3j o a b=110:=by unfold a3j;rw [if_neg h]
 exact ⟨this,by simp [a5b,this]⟩
theorem e1m {o a b:List ByteArray} (h:a1a o=true∧a1a a=true∧a1a b=true) (he:o=a):a3j o a b=0∧a5b o a b=b:=by
 have:a3j o a b=0:=by unfold a3j;rw [if_pos h,if_pos (.inl he)]
 exact ⟨this,by unfold a5b;rw [if_pos this,if_pos he]⟩
theorem d7j {o a b:List ByteArray} (h:a1a o=true∧a1a a=true∧a1a b=true) (hn:¬ o=a) (he:o=b∨a=b):a3j o a b=0∧a5b o a b=a:=by
 have:a3j o a b=0:=by unfold a3j;rw [if_pos h,if_pos (.inr he)]
 exact ⟨this,by simp [a5b,this,he,hn]⟩
theorem f0d {o a b:List ByteArray} (h:a1a o=true∧a1a a=true∧a1a b=true) (hn:¬ o=a) (hn':¬ (o=b∨a=b)) (he:(a2m o a b).2.lo≤(a2m o a b).1.lo+(a2m o a b).1.drop):a3j o a b=113∧a5b o a b=[]:=by
 have:a3j o a b=113:=by unfold a3j;rw [if_pos h,if_neg (fun h=>h.elim hn hn'),if_pos he]
 exact ⟨this,by simp [a5b,this]⟩
theorem f0i {o a b:List ByteArray} (h:a1a o=true∧a1a a=true∧a1a b=true) (hn:¬ o=a) (hn':¬ (o=b∨a=b)) (he:¬ (a2m o a b).2.lo≤(a2m o a b).1.lo+(a2m o a b).1.drop) (hr:a1a (c2s o (a2m o a b))=false):a3j o a b=110∧a5b o a b=[]:=by
 have:a3j o a b=110:=by unfold a3j;rw [if_pos h,if_neg (fun h=>h.elim hn hn'),if_neg he,if_neg (by rw [hr];decide)]
 exact ⟨this,by simp [a5b,this]⟩
theorem f2d {o a b:List ByteArray} (h:a1a o=true∧a1a a=true∧a1a b=true) (hn:¬ o=a) (hn':¬ (o=b∨a=b)) (he:¬ (a2m o a b).2.lo≤(a2m o a b).1.lo+(a2m o a b).1.drop) (hr:a1a (c2s o (a2m o a b))=true):a3j o a b=0∧a5b o a b=c2s o (a2m o a b):=by
 have:a3j o a b=0:=by unfold a3j;rw [if_pos h,if_neg (fun h=>h.elim hn hn'),if_neg he,if_pos hr]
 exact ⟨this,by simp [a5b,this,hn,hn']⟩
def srt (x y:Hk):List Hk:=if y.lo < x.lo then [y,x] else [x,y]
theorem d3p (o a b:List ByteArray):srt (a3k o a) (a3k o b)=[(a2m o a b).1,(a2m o a b).2]:=by
 unfold srt a2m;split<;>rfl
end Go.Proofs.YtmjhfccbbfpppaaGreatDoor
