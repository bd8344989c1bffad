import Derived.Test.YtmjhfccbbfpppaaGreatDoorQY09
namespace Go.Proofs.YtmjhfccbbfpppaaGreatDoor
open Go Pm
set_option linter.unusedSimpArgs false
set_option linter.unusedVariables false
def d5g (n:Nat) (r:List ByteArray):List V:=[a0e n r]
def f5x (n:Nat) (l:List (List ByteArray)):V:=.lst n 1 (l.map (d5g n))
attribute [go_sem] d5g f5x
theorem c5y (n:Nat) (l:List (List ByteArray)):a2y (l.map (d5g n))=true:=a2t (fun _=>rfl) l
attribute [go_sem] c5y
def b4i:List ByteArray→List Hk→List (List ByteArray)
 |cur,[]=>[cur]
 |cur,c::r=>cur::b4i (a3r cur c) r
def d4l:List ByteArray→List Hk→Bool
 |_,[]=>true
 |cur,c::r=>(a9l cur c && a1b (a3r cur c)) && d4l (a3r cur c) r
theorem d8m:∀ (l:List Hk) (cur:List ByteArray) (c:Hk),b4i cur (l++[c])=b4i cur l++[a3r (l.foldl a3r cur) c]:=by
 intro l
 induction l with
 |nil=>intro cur c;rfl
 |cons x r ih=>intro cur c;simp [b4i,ih]
theorem d1l:∀ (l m:List Hk) (cur:List ByteArray),d4l cur (l++m)=(d4l cur l && d4l (l.foldl a3r cur) m):=by
 intro l
 induction l with
 |nil=>intro m cur;simp [d4l]
 |cons x r ih=>intro m cur;simp [d4l,ih,Bool.and_assoc]
theorem d1a:∀ (l:List Hk) (cur:List ByteArray),(b4i cur l).length=l.length+1:=by
 intro l
 induction l with
 |nil=>intro cur;rfl
 |cons x r ih=>intro cur;simp [b4i,ih]
theorem c4u:∀ (l:List Hk) (cur:List ByteArray) (k:Nat) (h:k < (b4i cur l).length),k=l.length→(b4i cur l)[k]=l.foldl a3r cur:=by
 intro l
 induction l with
 |nil=>intro cur k h e;subst e;rfl
 |cons x r ih=>intro cur k h e;subst e;simp [b4i];exact ih _ _ _ rfl
theorem c5o:∀ (l:List Hk) (cur:List ByteArray),a1b cur=true→d4l cur l=true→∀ r ∈ b4i cur l,a1b r=true:=by
 intro l
 induction l with
 |nil=>intro cur h _ r hr;simp [b4i] at hr;subst hr;exact h
 |cons x t ih =>
  intro cur h hb r hr
  simp only [d4l,Bool.and_eq_true] at hb
  simp only [b4i,List.mem_cons] at hr
  rcases hr with rfl|hr
  ·exact h
  ·exact ih _ hb.1.2 hb.2 r hr
theorem b0a {l:List ByteArray} (h:a1b l=true):l.length≤200:=by
 simp only [a1b,Bool.and_eq_true,decide_eq_true_eq] at h;omega
def gb (s:Sh):Bool:=(decide (s.chg.length≤11) && a1b s.first) && d4l s.first s.chg
def gl (s:Sh):List (List ByteArray):=if gb s=true then b4i s.first s.chg else []
def g3z:Sh:=⟨[],[]⟩
def e6p (s:Sh):List ByteArray:=s.chg.foldl a3r s.first
def b1m (s:Sh) (l:List ByteArray):Int:=if gb s=false then 112 else if a1b l=false then 110 else if s.chg.length=11 then 9 else 0
def b7s (s:Sh) (l:List ByteArray):Sh:=if b1m s l=0 then ⟨s.first,s.chg++[a3y (e6p s) l]⟩ else g3z
def a6d (s:Sh) (n:Int):Int:=if gb s=false then 112 else if 0≤n∧n≤s.chg.length then 0 else 2
def b2z (s:Sh) (n:Int):List ByteArray:=if a6d s n=0 then (gl s).getD n.toNat [] else []
def b4a (s:Sh) (n:Int):Sh:=if a6d s n=0 then ⟨b2z s n,s.chg.drop n.toNat⟩ else g3z
theorem d0q {s:Sh} (h:gb s=true):(gl s).length=s.chg.length+1:=by simp [gl,h,d1a]
theorem f1e {s:Sh} (h:gb s=true) (k:Nat) (hk:k < (gl s).length) (e:k=s.chg.length):(gl s)[k]=e6p s:=by
 have:gl s=b4i s.first s.chg:=by simp [gl,h]
 simp only [this]
 exact c4u _ _ _ _ e
theorem c5e {s:Sh} (h:gb s=true):s.chg.length≤11:=by simp only [gb,Bool.and_eq_true,decide_eq_true_eq] at h;exact h.1.1
theorem f3k {s:Sh} (h:gb s=true):∀ r ∈ gl s,a1b r=true:=by
 have e:gl s=b4i s.first s.chg:=by simp [gl,h]
 simp only [gb,Bool.and_eq_true] at h
 rw [e]
 exact c5o _ _ h.1.2 h.2
theorem b2p (n:Nat) (e:Int) (s:Sh) (hs:s=g3z):Pm.Sub (.tup [.agg [.v (.slice none 0 0),.v (.slice none 0 0)],.v (.int .i64 e)]) (.tup [.agg [.lst n 1 (s.first.map a2h),.lst n 3 (s.chg.map (hkE n))],.v (.int .i64 e)]):=by
 subst hs
 exact Subs.tup (.cons (Subs.agg (.cons (.nil _ _) (.cons (.nil _ _) .nil))) (.cons (.refl _) .nil))
theorem c5v {α:Type} (ls:List (List α)) (k:Nat) (h:k < ls.length):(ls.take (k+1)).flatten=(ls.take k).flatten++ls[k]:=by
 rw [List.take_add_one,List.getElem?_eq_getElem h,List.flatten_append];simp
theorem a8x {α:Type} (ls:List (List α)) (k:Nat) (h:k < ls.length):(ls.take (k+1)).flatten.length=(ls.take k).flatten.length+ls[k].length:=by
 rw [c5v ls k h,List.length_append]
theorem c7w {α:Type} (ls:List (List α)) (n:Nat) (hl:∀ l ∈ ls,l.length≤n):∀ k,k≤ls.length→(ls.take k).flatten.length≤k * n:=fun k=>by
 induction k with
 |zero=>simp
 |succ k ih =>
  intro hk
  rw [a8x ls k (by omega),Nat.succ_mul]
  have:=ih (by omega);have:=hl _ (List.getElem_mem (show k < ls.length by omega));omega
open Go Pm
theorem b1x (a b:List ByteArray):0≤(a3y a b).lo∧0≤(a3y a b).drop∧(a3y a b).lo+(a3y a b).drop≤a.length∧(a3y a b).put.length≤b.length:=by
 have h1:=c9u a b
 have h2:=c9u (a.drop (cpl a b)).reverse (b.drop (cpl a b)).reverse
 simp only [List.length_reverse,List.length_drop] at h2
 unfold a3y
 simp only [List.length_drop,List.length_take]
 omega
def a2v (o a b:List ByteArray):Hk×Hk:=if (a3y o b).lo < (a3y o a).lo then (a3y o b,a3y o a) else (a3y o a,a3y o b)
theorem d6h (o a b:List ByteArray):(0≤(a2v o a b).1.lo∧0≤(a2v o a b).1.drop∧(a2v o a b).1.lo+(a2v o a b).1.drop≤o.length∧(a2v o a b).1.put.length≤max a.length b.length) ∧
  (0≤(a2v o a b).2.lo∧0≤(a2v o a b).2.drop∧(a2v o a b).2.lo+(a2v o a b).2.drop≤o.length∧(a2v o a b).2.put.length≤max a.length b.length):=by
 have h1:=b1x o a
 have h2:=b1x o b
 unfold a2v
 split<;>simp only<;>omega
def c4w (o:List ByteArray) (p:Hk×Hk):List ByteArray:=a3r (a3r o p.2) p.1
theorem d1e {o:List ByteArray} {h:Hk} (h1:0≤h.lo) (h2:0≤h.drop) (h3:h.lo+h.drop≤o.length):a9l o h=true:=by
 unfold a9l
 simp only [Bool.and_eq_true,decide_eq_true_eq]
 omega
theorem d1j {o:List ByteArray} {h:Hk} (hb:a9l o h=true):h.lo≤(a3r o h).length∧(a3r o h).length≤o.length+h.put.length:=by
 have hb':=hb
 simp only [a9l,Bool.and_eq_true,decide_eq_true_eq] at hb'
 simp only [a3r,hb,if_true,List.length_append,List.length_take,List.length_drop]
 omega
theorem g4q {o:List ByteArray} {p:Hk×Hk} (h1:0≤p.1.lo∧0≤p.1.drop) (h2:a9l o p.2=true) (h:p.1.lo+p.1.drop < p.2.lo):a9l (a3r o p.2) p.1=true:=by
 have:=d1j h2
 exact d1e h1.1 h1.2 (by omega)
def a3m (o a b:List ByteArray):Int :=
 if a1b o=true∧a1b a=true∧a1b b=true then
  if o=a∨o=b∨a=b then 0
  else if (a2v o a b).2.lo≤(a2v o a b).1.lo+(a2v o a b).1.drop then 113
  else if a1b (c4w o (a2v o a b))=true then 0 else 110
 else 110
def a5n (o a b:List ByteArray):List ByteArray :=
 if a3m o a b=0 then if o=a then b else if o=b∨a=b then a else c4w o (a2v o a b) else []
theorem c5f {o a b:List ByteArray} (h:¬ (a1b o=true∧a1b a=true∧a1b b=true)):a3m o a b=110∧a5n o a b=[]:=by
 have:a3m o a b=110:=by unfold a3m;rw [if_neg h]
 exact ⟨this,by simp [a5n,this]⟩
theorem d8d {o a b:List ByteArray} (h:a1b o=true∧a1b a=true∧a1b b=true) (he:o=a):a3m o a b=0∧a5n o a b=b:=by
 have:a3m o a b=0:=by unfold a3m;rw [if_pos h,if_pos (.inl he)]
 exact ⟨this,by unfold a5n;rw [if_pos this,if_pos he]⟩
theorem e0b {o a b:List ByteArray} (h:a1b o=true∧a1b a=true∧a1b b=true) (hn:¬ o=a) (he:o=b∨a=b):a3m o a b=0∧a5n o a b=a:=by
 have:a3m o a b=0:=by unfold a3m;rw [if_pos h,if_pos (.inr he)]
 exact ⟨this,by simp [a5n,this,he,hn]⟩
theorem f3h {o a b:List ByteArray} (h:a1b o=true∧a1b a=true∧a1b b=true) (hn:¬ o=a) (hn':¬ (o=b∨a=b)) (he:(a2v o a b).2.lo≤(a2v o a b).1.lo+(a2v o a b).1.drop):a3m o a b=113∧a5n o a b=[]:=by
 have:a3m o a b=113:=by unfold a3m;rw [if_pos h,if_neg (fun h=>h.elim hn hn'),if_pos he]
 exact ⟨this,by simp [a5n,this]⟩
theorem f0y {o a b:List ByteArray} (h:a1b o=true∧a1b a=true∧a1b b=true) (hn:¬ o=a) (hn':¬ (o=b∨a=b)) (he:¬ (a2v o a b).2.lo≤(a2v o a b).1.lo+(a2v o a b).1.drop) (hr:a1b (c4w o (a2v o a b))=false):a3m o a b=110∧a5n o a b=[]:=by
 have:a3m o a b=110:=by unfold a3m;rw [if_pos h,if_neg (fun h=>h.elim hn hn'),if_neg he,if_neg (by rw [hr];decide)]
 exact ⟨this,by simp [a5n,this]⟩
theorem f4w {o a b:List ByteArray} (h:a1b o=true∧a1b a=true∧a1b b=true) (hn:¬ o=a) (hn':¬ (o=b∨a=b)) (he:¬ (a2v o a b).2.lo≤(a2v o a b).1.lo+(a2v o a b).1.drop) (hr:a1b (c4w o (a2v o a b))=true):a3m o a b=0∧a5n o a b=c4w o (a2v o a b):=by
 have:a3m o a b=0:=by unfold a3m;rw [if_pos h,if_neg (fun h=>h.elim hn hn'),if_neg he,if_pos hr]
 exact ⟨this,by simp [a5n,this,hn,hn']⟩
def srt (x y:Hk):List Hk:=if y.lo < x.lo then [y,x] else [x,y]
theorem d3t (o a b:List ByteArray):srt (a3y o a) (a3y o b)=[(a2v o a b).1,(a2v o a b).2]:=by
 unfold srt a2v;split<;>rfl
end Go.Proofs.YtmjhfccbbfpppaaGreatDoor
