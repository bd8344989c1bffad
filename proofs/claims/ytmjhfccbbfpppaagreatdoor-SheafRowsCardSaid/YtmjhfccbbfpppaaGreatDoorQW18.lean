import Derived.Test.YtmjhfccbbfpppaaGreatDoorQW08
namespace Go.Proofs.YtmjhfccbbfpppaaGreatDoor
open Go Pm
set_option linter.unusedSimpArgs false
set_option linter.unusedVariables false
def d6q (n:Nat) (r:List ByteArray):List V:=[a0h n r]
def f8t (n:Nat) (l:List (List ByteArray)):V:=.lst n 1 (l.map (d6q n))
attribute [go_sem] d6q f8t
theorem c5w (n:Nat) (l:List (List ByteArray)):a3b (l.map (d6q n))=true:=a2w (fun _=>rfl) l
attribute [go_sem] c5w
def b5l:List ByteArray→List Hk→List (List ByteArray)
 |cur,[]=>[cur]
 |cur,c::r=>cur::b5l (a3w cur c) r
def d5n:List ByteArray→List Hk→Bool
 |_,[]=>true
 |cur,c::r=>(a9x cur c && a0v (a3w cur c)) && d5n (a3w cur c) r
theorem e2v:∀ (l:List Hk) (cur:List ByteArray) (c:Hk),b5l cur (l++[c])=b5l cur l++[a3w (l.foldl a3w cur) c]:=by
 intro l
 induction l with
 |nil=>intro cur c;rfl
 |cons x r ih=>intro cur c;simp [b5l,ih]
theorem d0z:∀ (l m:List Hk) (cur:List ByteArray),d5n cur (l++m)=(d5n cur l && d5n (l.foldl a3w cur) m):=by
 intro l
 induction l with
 |nil=>intro m cur;simp [d5n]
 |cons x r ih=>intro m cur;simp [d5n,ih,Bool.and_assoc]
theorem d2s:∀ (l:List Hk) (cur:List ByteArray),(b5l cur l).length=l.length+1:=by
 intro l
 induction l with
 |nil=>intro cur;rfl
 |cons x r ih=>intro cur;simp [b5l,ih]
theorem c6e:∀ (l:List Hk) (cur:List ByteArray) (k:Nat) (h:k < (b5l cur l).length),k=l.length→(b5l cur l)[k]=l.foldl a3w cur:=by
 intro l
 induction l with
 |nil=>intro cur k h e;subst e;rfl
 |cons x r ih=>intro cur k h e;subst e;simp [b5l];exact ih _ _ _ rfl
theorem c6x:∀ (l:List Hk) (cur:List ByteArray),a0v cur=true→d5n cur l=true→∀ r ∈ b5l cur l,a0v r=true:=by
 intro l
 induction l with
 |nil=>intro cur h _ r hr;simp [b5l] at hr;subst hr;exact h
 |cons x t ih =>
  intro cur h hb r hr
  simp only [d5n,Bool.and_eq_true] at hb
  simp only [b5l,List.mem_cons] at hr
  rcases hr with rfl|hr
  ·exact h
  ·exact ih _ hb.1.2 hb.2 r hr
theorem b0e {l:List ByteArray} (h:a0v l=true):l.length≤200:=by
 simp only [a0v,Bool.and_eq_true,decide_eq_true_eq] at h;omega
def gb (s:Sh):Bool:=(decide (s.chg.length≤11) && a0v s.first) && d5n s.first s.chg
def gl (s:Sh):List (List ByteArray):=if gb s=true then b5l s.first s.chg else []
def g5s:Sh:=⟨[],[]⟩
def e7n (s:Sh):List ByteArray:=s.chg.foldl a3w s.first
def b5o (s:Sh) (l:List ByteArray):Int:=if gb s=false then 112 else if a0v l=false then 110 else if s.chg.length=11 then 9 else 0
def c6h (s:Sh) (l:List ByteArray):Sh:=if b5o s l=0 then ⟨s.first,s.chg++[a4d (e7n s) l]⟩ else g5s
def a7u (s:Sh) (n:Int):Int:=if gb s=false then 112 else if 0≤n∧n≤s.chg.length then 0 else 2
def b6x (s:Sh) (n:Int):List ByteArray:=if a7u s n=0 then (gl s).getD n.toNat [] else []
def b6o (s:Sh) (n:Int):Sh:=if a7u s n=0 then ⟨b6x s n,s.chg.drop n.toNat⟩ else g5s
theorem d1s {s:Sh} (h:gb s=true):(gl s).length=s.chg.length+1:=by simp [gl,h,d2s]
theorem f3z {s:Sh} (h:gb s=true) (k:Nat) (hk:k < (gl s).length) (e:k=s.chg.length):(gl s)[k]=e7n s:=by
 have:gl s=b5l s.first s.chg:=by simp [gl,h]
 simp only [this]
 exact c6e _ _ _ _ e
theorem c6l {s:Sh} (h:gb s=true):s.chg.length≤11:=by simp only [gb,Bool.and_eq_true,decide_eq_true_eq] at h;exact h.1.1
theorem f6n {s:Sh} (h:gb s=true):∀ r ∈ gl s,a0v r=true:=by
 have e:gl s=b5l s.first s.chg:=by simp [gl,h]
 simp only [gb,Bool.and_eq_true] at h
 rw [e]
 exact c6x _ _ h.1.2 h.2
theorem b3a (n:Nat) (e:Int) (s:Sh) (hs:s=g5s):Pm.Sub (.tup [.agg [.v (.slice none 0 0),.v (.slice none 0 0)],.v (.int .i64 e)]) (.tup [.agg [.lst n 1 (s.first.map a2j),.lst n 3 (s.chg.map (hkE n))],.v (.int .i64 e)]):=by
 subst hs
 exact Subs.tup (.cons (Subs.agg (.cons (.nil _ _) (.cons (.nil _ _) .nil))) (.cons (.refl _) .nil))
theorem c6n {α:Type} (ls:List (List α)) (k:Nat) (h:k < ls.length):(ls.take (k+1)).flatten=(ls.take k).flatten++ls[k]:=by
 rw [List.take_add_one,List.getElem?_eq_getElem h,List.flatten_append];simp
theorem a9b {α:Type} (ls:List (List α)) (k:Nat) (h:k < ls.length):(ls.take (k+1)).flatten.length=(ls.take k).flatten.length+ls[k].length:=by
 rw [c6n ls k h,List.length_append]
theorem d0l {α:Type} (ls:List (List α)) (n:Nat) (hl:∀ l ∈ ls,l.length≤n):∀ k,k≤ls.length→(ls.take k).flatten.length≤k * n:=fun k=>by
 induction k with
 |zero=>simp
 |succ k ih =>
  intro hk
  rw [a9b ls k (by omega),Nat.succ_mul]
  have:=ih (by omega);have:=hl _ (List.getElem_mem (show k < ls.length by omega));omega
open Go Pm
theorem b3w (a b:List ByteArray):0≤(a4d a b).lo∧0≤(a4d a b).drop∧(a4d a b).lo+(a4d a b).drop≤a.length∧(a4d a b).put.length≤b.length:=by
 have h1:=d2h a b
 have h2:=d2h (a.drop (cpl a b)).reverse (b.drop (cpl a b)).reverse
 simp only [List.length_reverse,List.length_drop] at h2
 unfold a4d
 simp only [List.length_drop,List.length_take]
 omega
def a2y (o a b:List ByteArray):Hk×Hk:=if (a4d o b).lo < (a4d o a).lo then (a4d o b,a4d o a) else (a4d o a,a4d o b)
theorem e3j (o a b:List ByteArray):(0≤(a2y o a b).1.lo∧0≤(a2y o a b).1.drop∧(a2y o a b).1.lo+(a2y o a b).1.drop≤o.length∧(a2y o a b).1.put.length≤max a.length b.length) ∧
  (0≤(a2y o a b).2.lo∧0≤(a2y o a b).2.drop∧(a2y o a b).2.lo+(a2y o a b).2.drop≤o.length∧(a2y o a b).2.put.length≤max a.length b.length):=by
 have h1:=b3w o a
 have h2:=b3w o b
 unfold a2y
 split<;>simp only<;>omega
def c5p (o:List ByteArray) (p:Hk×Hk):List ByteArray:=a3w (a3w o p.2) p.1
theorem d1r {o:List ByteArray} {h:Hk} (h1:0≤h.lo) (h2:0≤h.drop) (h3:h.lo+h.drop≤o.length):a9x o h=true:=by
 unfold a9x
 simp only [Bool.and_eq_true,decide_eq_true_eq]
 omega
theorem d2z {o:List ByteArray} {h:Hk} (hb:a9x o h=true):h.lo≤(a3w o h).length∧(a3w o h).length≤o.length+h.put.length:=by
 have hb':=hb
 simp only [a9x,Bool.and_eq_true,decide_eq_true_eq] at hb'
 simp only [a3w,hb,if_true,List.length_append,List.length_take,List.length_drop]
 omega
theorem g5i {o:List ByteArray} {p:Hk×Hk} (h1:0≤p.1.lo∧0≤p.1.drop) (h2:a9x o p.2=true) (h:p.1.lo+p.1.drop < p.2.lo):a9x (a3w o p.2) p.1=true:=by
 have:=d2z h2
 exact d1r h1.1 h1.2 (by omega)
def a3u (o a b:List ByteArray):Int :=
 if a0v o=true∧a0v a=true∧a0v b=true then
  if o=a∨o=b∨a=b then 0
  else if (a2y o a b).2.lo≤(a2y o a b).1.lo+(a2y o a b).1.drop then 113
  else if a0v (c5p o (a2y o a b))=true then 0 else 110
 else 110
def a6g (o a b:List ByteArray):List ByteArray :=
 if a3u o a b=0 then if o=a then b else if o=b∨a=b then a else c5p o (a2y o a b) else []
theorem c7h {o a b:List ByteArray} (h:¬ (a0v o=true∧a0v a=true∧a0v b=true)):a3u o a b=110∧a6g o a b=[]:=by
 have:a3u o a b=110:=by unfold a3u;rw [if_neg h]
 exact ⟨this,by simp [a6g,this]⟩
theorem e3y {o a b:List ByteArray} (h:a0v o=true∧a0v a=true∧a0v b=true) (he:o=a):a3u o a b=0∧a6g o a b=b:=by
 have:a3u o a b=0:=by unfold a3u;rw [if_pos h,if_pos (.inl he)]
 exact ⟨this,by unfold a6g;rw [if_pos this,if_pos he]⟩
theorem e0c {o a b:List ByteArray} (h:a0v o=true∧a0v a=true∧a0v b=true) (hn:¬ o=a) (he:o=b∨a=b):a3u o a b=0∧a6g o a b=a:=by
 have:a3u o a b=0:=by unfold a3u;rw [if_pos h,if_pos (.inr he)]
 exact ⟨this,by simp [a6g,this,he,hn]⟩
theorem f8k {o a b:List ByteArray} (h:a0v o=true∧a0v a=true∧a0v b=true) (hn:¬ o=a) (hn':¬ (o=b∨a=b)) (he:(a2y o a b).2.lo≤(a2y o a b).1.lo+(a2y o a b).1.drop):a3u o a b=113∧a6g o a b=[]:=by
 have:a3u o a b=113:=by unfold a3u;rw [if_pos h,if_neg (fun h=>h.elim hn hn'),if_pos he]
 exact ⟨this,by simp [a6g,this]⟩
theorem f5j {o a b:List ByteArray} (h:a0v o=true∧a0v a=true∧a0v b=true) (hn:¬ o=a) (hn':¬ (o=b∨a=b)) (he:¬ (a2y o a b).2.lo≤(a2y o a b).1.lo+(a2y o a b).1.drop) (hr:a0v (c5p o (a2y o a b))=false):a3u o a b=110∧a6g o a b=[]:=by
 have:a3u o a b=110:=by unfold a3u;rw [if_pos h,if_neg (fun h=>h.elim hn hn'),if_neg he,if_neg (by rw [hr];decide)]
 exact ⟨this,by simp [a6g,this]⟩
theorem f5d {o a b:List ByteArray} (h:a0v o=true∧a0v a=true∧a0v b=true) (hn:¬ o=a) (hn':¬ (o=b∨a=b)) (he:¬ (a2y o a b).2.lo≤(a2y o a b).1.lo+(a2y o a b).1.drop) (hr:a0v (c5p o (a2y o a b))=true):a3u o a b=0∧a6g o a b=c5p o (a2y o a b):=by
 have:a3u o a b=0:=by unfold a3u;rw [if_pos h,if_neg (fun h=>h.elim hn hn'),if_neg he,if_pos hr]
 exact ⟨this,by simp [a6g,this,hn,hn']⟩
def srt (x y:Hk):List Hk:=if y.lo < x.lo then [y,x] else [x,y]
theorem d3j (o a b:List ByteArray):srt (a4d o a) (a4d o b)=[(a2y o a b).1,(a2y o a b).2]:=by
 unfold srt a2y;split<;>rfl
end Go.Proofs.YtmjhfccbbfpppaaGreatDoor
