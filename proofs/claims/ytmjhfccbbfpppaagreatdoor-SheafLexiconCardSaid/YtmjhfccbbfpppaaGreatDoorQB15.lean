import Derived.Test.YtmjhfccbbfpppaaGreatDoorQB08
namespace Go.Proofs.YtmjhfccbbfpppaaGreatDoor
open Go Pm
set_option linter.unusedSimpArgs false
set_option linter.unusedVariables false
def d6m (n:Nat) (r:List ByteArray):List V:=[a0q n r]
def f9h (n:Nat) (l:List (List ByteArray)):V:=.lst n 1 (l.map (d6m n))
attribute [go_sem] d6m f9h
theorem c5q (n:Nat) (l:List (List ByteArray)):a3b (l.map (d6m n))=true:=a2l (fun _=>rfl) l
attribute [go_sem] c5q
def b4m:List ByteArray→List Hk→List (List ByteArray)
 |cur,[]=>[cur]
 |cur,c::r=>cur::b4m (a3m cur c) r
def d3e:List ByteArray→List Hk→Bool
 |_,[]=>true
 |cur,c::r=>(a9h cur c && a1c (a3m cur c)) && d3e (a3m cur c) r
theorem e2i:∀ (l:List Hk) (cur:List ByteArray) (c:Hk),b4m cur (l++[c])=b4m cur l++[a3m (l.foldl a3m cur) c]:=by
 intro l
 induction l with
 |nil=>intro cur c;rfl
 |cons x r ih=>intro cur c;simp [b4m,ih]
theorem d0o:∀ (l m:List Hk) (cur:List ByteArray),d3e cur (l++m)=(d3e cur l && d3e (l.foldl a3m cur) m):=by
 intro l
 induction l with
 |nil=>intro m cur;simp [d3e]
 |cons x r ih=>intro m cur;simp [d3e,ih,Bool.and_assoc]
theorem d1o:∀ (l:List Hk) (cur:List ByteArray),(b4m cur l).length=l.length+1:=by
 intro l
 induction l with
 |nil=>intro cur;rfl
 |cons x r ih=>intro cur;simp [b4m,ih]
theorem c3t:∀ (l:List Hk) (cur:List ByteArray) (k:Nat) (h:k < (b4m cur l).length),k=l.length→(b4m cur l)[k]=l.foldl a3m cur:=by
 intro l
 induction l with
 |nil=>intro cur k h e;subst e;rfl
 |cons x r ih=>intro cur k h e;subst e;simp [b4m];exact ih _ _ _ rfl
theorem c3c:∀ (l:List Hk) (cur:List ByteArray),a1c cur=true→d3e cur l=true→∀ r ∈ b4m cur l,a1c r=true:=by
 intro l
 induction l with
 |nil=>intro cur h _ r hr;simp [b4m] at hr;subst hr;exact h
 |cons x t ih =>
  intro cur h hb r hr
  simp only [d3e,Bool.and_eq_true] at hb
  simp only [b4m,List.mem_cons] at hr
  rcases hr with rfl|hr
  ·exact h
  ·exact ih _ hb.1.2 hb.2 r hr
theorem b0c {l:List ByteArray} (h:a1c l=true):l.length≤200:=by
 simp only [a1c,Bool.and_eq_true,decide_eq_true_eq] at h;omega
def gb (s:Sh):Bool:=(decide (s.chg.length≤11) && a1c s.first) && d3e s.first s.chg
def gl (s:Sh):List (List ByteArray):=if gb s=true then b4m s.first s.chg else []
def g5r:Sh:=⟨[],[]⟩
def e6s (s:Sh):List ByteArray:=s.chg.foldl a3m s.first
def b4t (s:Sh) (l:List ByteArray):Int:=if gb s=false then 112 else if a1c l=false then 110 else if s.chg.length=11 then 9 else 0
def c5t (s:Sh) (l:List ByteArray):Sh:=if b4t s l=0 then ⟨s.first,s.chg++[a3p (e6s s) l]⟩ else g5r
def a6q (s:Sh) (n:Int):Int:=if gb s=false then 112 else if 0≤n∧n≤s.chg.length then 0 else 2
def b7j (s:Sh) (n:Int):List ByteArray:=if a6q s n=0 then (gl s).getD n.toNat [] else []
def b5t (s:Sh) (n:Int):Sh:=if a6q s n=0 then ⟨b7j s n,s.chg.drop n.toNat⟩ else g5r
theorem d0l {s:Sh} (h:gb s=true):(gl s).length=s.chg.length+1:=by simp [gl,h,d1o]
theorem f7m {s:Sh} (h:gb s=true) (k:Nat) (hk:k < (gl s).length) (e:k=s.chg.length):(gl s)[k]=e6s s:=by
 have:gl s=b4m s.first s.chg:=by simp [gl,h]
 simp only [this]
 exact c3t _ _ _ _ e
theorem c5p {s:Sh} (h:gb s=true):s.chg.length≤11:=by simp only [gb,Bool.and_eq_true,decide_eq_true_eq] at h;exact h.1.1
theorem f5g {s:Sh} (h:gb s=true):∀ r ∈ gl s,a1c r=true:=by
 have e:gl s=b4m s.first s.chg:=by simp [gl,h]
 simp only [gb,Bool.and_eq_true] at h
 rw [e]
 exact c3c _ _ h.1.2 h.2
theorem b2q (n:Nat) (e:Int) (s:Sh) (hs:s=g5r):Pm.Sub (.tup [.agg [.v (.slice none 0 0),.v (.slice none 0 0)],.v (.int .i64 e)]) (.tup [.agg [.lst n 1 (s.first.map a2c),.lst n 3 (s.chg.map (hkE n))],.v (.int .i64 e)]):=by
 subst hs
 exact Subs.tup (.cons (Subs.agg (.cons (.nil _ _) (.cons (.nil _ _) .nil))) (.cons (.refl _) .nil))
theorem c5l {α:Type} (ls:List (List α)) (k:Nat) (h:k < ls.length):(ls.take (k+1)).flatten=(ls.take k).flatten++ls[k]:=by
 rw [List.take_add_one,List.getElem?_eq_getElem h,List.flatten_append];simp
theorem a8m {α:Type} (ls:List (List α)) (k:Nat) (h:k < ls.length):(ls.take (k+1)).flatten.length=(ls.take k).flatten.length+ls[k].length:=by
 rw [c5l ls k h,List.length_append]
theorem d0f {α:Type} (ls:List (List α)) (n:Nat) (hl:∀ l ∈ ls,l.length≤n):∀ k,k≤ls.length→(ls.take k).flatten.length≤k * n:=fun k=>by
 induction k with
 |zero=>simp
 |succ k ih =>
  intro hk
  rw [a8m ls k (by omega),Nat.succ_mul]
  have:=ih (by omega);have:=hl _ (List.getElem_mem (show k < ls.length by omega));omega
open Go Pm
theorem b2w (a b:List ByteArray):0≤(a3p a b).lo∧0≤(a3p a b).drop∧(a3p a b).lo+(a3p a b).drop≤a.length∧(a3p a b).put.length≤b.length:=by
 have h1:=d2c a b
 have h2:=d2c (a.drop (cpl a b)).reverse (b.drop (cpl a b)).reverse
 simp only [List.length_reverse,List.length_drop] at h2
 unfold a3p
 simp only [List.length_drop,List.length_take]
 omega
def a2n (o a b:List ByteArray):Hk×Hk:=if (a3p o b).lo < (a3p o a).lo then (a3p o b,a3p o a) else (a3p o a,a3p o b)
theorem e4y (o a b:List ByteArray):(0≤(a2n o a b).1.lo∧0≤(a2n o a b).1.drop∧(a2n o a b).1.lo+(a2n o a b).1.drop≤o.length∧(a2n o a b).1.put.length≤max a.length b.length) ∧
  (0≤(a2n o a b).2.lo∧0≤(a2n o a b).2.drop∧(a2n o a b).2.lo+(a2n o a b).2.drop≤o.length∧(a2n o a b).2.put.length≤max a.length b.length):=by
 have h1:=b2w o a
 have h2:=b2w o b
 unfold a2n
 split<;>simp only<;>omega
def c5h (o:List ByteArray) (p:Hk×Hk):List ByteArray:=a3m (a3m o p.2) p.1
theorem d2g {o:List ByteArray} {h:Hk} (h1:0≤h.lo) (h2:0≤h.drop) (h3:h.lo+h.drop≤o.length):a9h o h=true:=by
 unfold a9h
 simp only [Bool.and_eq_true,decide_eq_true_eq]
 omega
theorem d2q {o:List ByteArray} {h:Hk} (hb:a9h o h=true):h.lo≤(a3m o h).length∧(a3m o h).length≤o.length+h.put.length:=by
 have hb':=hb
 simp only [a9h,Bool.and_eq_true,decide_eq_true_eq] at hb'
 simp only [a3m,hb,if_true,List.length_append,List.length_take,List.length_drop]
 omega
theorem g5o {o:List ByteArray} {p:Hk×Hk} (h1:0≤p.1.lo∧0≤p.1.drop) (h2:a9h o p.2=true) (h:p.1.lo+p.1.drop < p.2.lo):a9h (a3m o p.2) p.1=true:=by
 have:=d2q h2
 exact d2g h1.1 h1.2 (by omega)
def a3l (o a b:List ByteArray):Int :=
 if a1c o=true∧a1c a=true∧a1c b=true then
  if o=a∨o=b∨a=b then 0
  else if (a2n o a b).2.lo≤(a2n o a b).1.lo+(a2n o a b).1.drop then 113
  else if a1c (c5h o (a2n o a b))=true then 0 else 110
 else 110
def a5f (o a b:List ByteArray):List ByteArray :=
 if a3l o a b=0 then if o=a then b else if o=b∨a=b then a else c5h o (a2n o a b) else []
theorem c6a {o a b:List ByteArray} (h:¬ (a1c o=true∧a1c a=true∧a1c b=true)):a3l o a b=110∧a5f o a b=[]:=by
 have:a3l o a b=110:=by unfold a3l;rw [if_neg h]
 exact ⟨this,by simp [a5f,this]⟩
theorem d8h {o a b:List ByteArray} (h:a1c o=true∧a1c a=true∧a1c b=true) (he:o=a):a3l o a b=0∧a5f o a b=b:=by
 have:a3l o a b=0:=by unfold a3l;rw [if_pos h,if_pos (.inl he)]
 exact ⟨this,by unfold a5f;rw [if_pos this,if_pos he]⟩
theorem e4q {o a b:List ByteArray} (h:a1c o=true∧a1c a=true∧a1c b=true) (hn:¬ o=a) (he:o=b∨a=b):a3l o a b=0∧a5f o a b=a:=by
 have:a3l o a b=0:=by unfold a3l;rw [if_pos h,if_pos (.inr he)]
 exact ⟨this,by simp [a5f,this,he,hn]⟩
theorem f4d {o a b:List ByteArray} (h:a1c o=true∧a1c a=true∧a1c b=true) (hn:¬ o=a) (hn':¬ (o=b∨a=b)) (he:(a2n o a b).2.lo≤(a2n o a b).1.lo+(a2n o a b).1.drop):a3l o a b=113∧a5f o a b=[]:=by
 have:a3l o a b=113:=by unfold a3l;rw [if_pos h,if_neg (fun h=>h.elim hn hn'),if_pos he]
 exact ⟨this,by simp [a5f,this]⟩
theorem f6o {o a b:List ByteArray} (h:a1c o=true∧a1c a=true∧a1c b=true) (hn:¬ o=a) (hn':¬ (o=b∨a=b)) (he:¬ (a2n o a b).2.lo≤(a2n o a b).1.lo+(a2n o a b).1.drop) (hr:a1c (c5h o (a2n o a b))=false):a3l o a b=110∧a5f o a b=[]:=by
 have:a3l o a b=110:=by unfold a3l;rw [if_pos h,if_neg (fun h=>h.elim hn hn'),if_neg he,if_neg (by rw [hr];decide)]
 exact ⟨this,by simp [a5f,this]⟩
theorem f7f {o a b:List ByteArray} (h:a1c o=true∧a1c a=true∧a1c b=true) (hn:¬ o=a) (hn':¬ (o=b∨a=b)) (he:¬ (a2n o a b).2.lo≤(a2n o a b).1.lo+(a2n o a b).1.drop) (hr:a1c (c5h o (a2n o a b))=true):a3l o a b=0∧a5f o a b=c5h o (a2n o a b):=by
 have:a3l o a b=0:=by unfold a3l;rw [if_pos h,if_neg (fun h=>h.elim hn hn'),if_neg he,if_pos hr]
 exact ⟨this,by simp [a5f,this,hn,hn']⟩
def srt (x y:Hk):List Hk:=if y.lo < x.lo then [y,x] else [x,y]
theorem d4f (o a b:List ByteArray):srt (a3p o a) (a3p o b)=[(a2n o a b).1,(a2n o a b).2]:=by
 unfold srt a2n;split<;>rfl
end Go.Proofs.YtmjhfccbbfpppaaGreatDoor
