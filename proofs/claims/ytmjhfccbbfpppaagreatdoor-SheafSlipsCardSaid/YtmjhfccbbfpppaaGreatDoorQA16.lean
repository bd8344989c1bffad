import Derived.Test.YtmjhfccbbfpppaaGreatDoorQA08
namespace Go.Proofs.YtmjhfccbbfpppaaGreatDoor
open Go Pm
set_option linter.unusedSimpArgs false
set_option linter.unusedVariables false
def d5n (n:Nat) (r:List ByteArray):List V:=[a0o n r]
def f6t (n:Nat) (l:List (List ByteArray)):V:=.lst n 1 (l.map (d5n n))
attribute [go_sem] d5n f6t
theorem c5c (n:Nat) (l:List (List ByteArray)):a2p (l.map (d5n n))=true:=a2b (fun _=>rfl) l
attribute [go_sem] c5c
def b3p:List ByteArray→List Hk→List (List ByteArray)
 |cur,[]=>[cur]
 |cur,c::r=>cur::b3p (a3f cur c) r
def d2p:List ByteArray→List Hk→Bool
 |_,[]=>true
 |cur,c::r=>(a8p cur c && a1d (a3f cur c)) && d2p (a3f cur c) r
theorem d7c:∀ (l:List Hk) (cur:List ByteArray) (c:Hk),b3p cur (l++[c])=b3p cur l++[a3f (l.foldl a3f cur) c]:=by
 intro l
 induction l with
 |nil=>intro cur c;rfl
 |cons x r ih=>intro cur c;simp [b3p,ih]
theorem d1r:∀ (l m:List Hk) (cur:List ByteArray),d2p cur (l++m)=(d2p cur l && d2p (l.foldl a3f cur) m):=by
 intro l
 induction l with
 |nil=>intro m cur;simp [d2p]
 |cons x r ih=>intro m cur;simp [d2p,ih,Bool.and_assoc]
theorem d0g:∀ (l:List Hk) (cur:List ByteArray),(b3p cur l).length=l.length+1:=by
 intro l
 induction l with
 |nil=>intro cur;rfl
 |cons x r ih=>intro cur;simp [b3p,ih]
theorem c5f:∀ (l:List Hk) (cur:List ByteArray) (k:Nat) (h:k < (b3p cur l).length),k=l.length→(b3p cur l)[k]=l.foldl a3f cur:=by
 intro l
 induction l with
 |nil=>intro cur k h e;subst e;rfl
 |cons x r ih=>intro cur k h e;subst e;simp [b3p];exact ih _ _ _ rfl
theorem c2k:∀ (l:List Hk) (cur:List ByteArray),a1d cur=true→d2p cur l=true→∀ r ∈ b3p cur l,a1d r=true:=by
 intro l
 induction l with
 |nil=>intro cur h _ r hr;simp [b3p] at hr;subst hr;exact h
 |cons x t ih =>
  intro cur h hb r hr
  simp only [d2p,Bool.and_eq_true] at hb
  simp only [b3p,List.mem_cons] at hr
  rcases hr with rfl|hr
  ·exact h
  ·exact ih _ hb.1.2 hb.2 r hr
theorem a8z {l:List ByteArray} (h:a1d l=true):l.length≤200:=by
 simp only [a1d,Bool.and_eq_true,decide_eq_true_eq] at h;omega
def gb (s:Sh):Bool:=(decide (s.chg.length≤11) && a1d s.first) && d2p s.first s.chg
def gl (s:Sh):List (List ByteArray):=if gb s=true then b3p s.first s.chg else []
def g4w:Sh:=⟨[],[]⟩
def e7y (s:Sh):List ByteArray:=s.chg.foldl a3f s.first
def b4g (s:Sh) (l:List ByteArray):Int:=if gb s=false then 112 else if a1d l=false then 110 else if s.chg.length=11 then 9 else 0
def c4m (s:Sh) (l:List ByteArray):Sh:=if b4g s l=0 then ⟨s.first,s.chg++[a3r (e7y s) l]⟩ else g4w
def a6l (s:Sh) (n:Int):Int:=if gb s=false then 112 else if 0≤n∧n≤s.chg.length then 0 else 2
def b4t (s:Sh) (n:Int):List ByteArray:=if a6l s n=0 then (gl s).getD n.toNat [] else []
def b6z (s:Sh) (n:Int):Sh:=if a6l s n=0 then ⟨b4t s n,s.chg.drop n.toNat⟩ else g4w
theorem d1e {s:Sh} (h:gb s=true):(gl s).length=s.chg.length+1:=by simp [gl,h,d0g]
theorem f2w {s:Sh} (h:gb s=true) (k:Nat) (hk:k < (gl s).length) (e:k=s.chg.length):(gl s)[k]=e7y s:=by
 have:gl s=b3p s.first s.chg:=by simp [gl,h]
 simp only [this]
 exact c5f _ _ _ _ e
theorem c2f {s:Sh} (h:gb s=true):s.chg.length≤11:=by simp only [gb,Bool.and_eq_true,decide_eq_true_eq] at h;exact h.1.1
theorem f5n {s:Sh} (h:gb s=true):∀ r ∈ gl s,a1d r=true:=by
 have e:gl s=b3p s.first s.chg:=by simp [gl,h]
 simp only [gb,Bool.and_eq_true] at h
 rw [e]
 exact c2k _ _ h.1.2 h.2
theorem b2k (n:Nat) (e:Int) (s:Sh) (hs:s=g4w):Pm.Sub (.tup [.agg [.v (.slice none 0 0),.v (.slice none 0 0)],.v (.int .i64 e)]) (.tup [.agg [.lst n 1 (s.first.map a1z),.lst n 3 (s.chg.map (hkE n))],.v (.int .i64 e)]):=by
 subst hs
 exact Subs.tup (.cons (Subs.agg (.cons (.nil _ _) (.cons (.nil _ _) .nil))) (.cons (.refl _) .nil))
theorem c2l {α:Type} (ls:List (List α)) (k:Nat) (h:k < ls.length):(ls.take (k+1)).flatten=(ls.take k).flatten++ls[k]:=by
 rw [List.take_add_one,List.getElem?_eq_getElem h,List.flatten_append];simp
theorem a8a {α:Type} (ls:List (List α)) (k:Nat) (h:k < ls.length):(ls.take (k+1)).flatten.length=(ls.take k).flatten.length+ls[k].length:=by
 rw [c2l ls k h,List.length_append]
theorem c8x {α:Type} (ls:List (List α)) (n:Nat) (hl:∀ l ∈ ls,l.length≤n):∀ k,k≤ls.length→(ls.take k).flatten.length≤k * n:=fun k=>by
 induction k with
 |zero=>simp
 |succ k ih =>
  intro hk
  rw [a8a ls k (by omega),Nat.succ_mul]
  have:=ih (by omega);have:=hl _ (List.getElem_mem (show k < ls.length by omega));omega
open Go Pm
theorem b1i (a b:List ByteArray):0≤(a3r a b).lo∧0≤(a3r a b).drop∧(a3r a b).lo+(a3r a b).drop≤a.length∧(a3r a b).put.length≤b.length:=by
 have h1:=d0i a b
 have h2:=d0i (a.drop (cpl a b)).reverse (b.drop (cpl a b)).reverse
 simp only [List.length_reverse,List.length_drop] at h2
 unfold a3r
 simp only [List.length_drop,List.length_take]
 omega
def a2m (o a b:List ByteArray):Hk×Hk:=if (a3r o b).lo < (a3r o a).lo then (a3r o b,a3r o a) else (a3r o a,a3r o b)
theorem e4d (o a b:List ByteArray):(0≤(a2m o a b).1.lo∧0≤(a2m o a b).1.drop∧(a2m o a b).1.lo+(a2m o a b).1.drop≤o.length∧(a2m o a b).1.put.length≤max a.length b.length) ∧
  (0≤(a2m o a b).2.lo∧0≤(a2m o a b).2.drop∧(a2m o a b).2.lo+(a2m o a b).2.drop≤o.length∧(a2m o a b).2.put.length≤max a.length b.length):=by
 have h1:=b1i o a
 have h2:=b1i o b
 unfold a2m
 split<;>simp only<;>omega
def c4y (o:List ByteArray) (p:Hk×Hk):List ByteArray:=a3f (a3f o p.2) p.1
theorem d0k {o:List ByteArray} {h:Hk} (h1:0≤h.lo) (h2:0≤h.drop) (h3:h.lo+h.drop≤o.length):a8p o h=true:=by
 unfold a8p
 simp only [Bool.and_eq_true,decide_eq_true_eq]
 omega
theorem c9u {o:List ByteArray} {h:Hk} (hb:a8p o h=true):h.lo≤(a3f o h).length∧(a3f o h).length≤o.length+h.put.length:=by
 have hb':=hb
 simp only [a8p,Bool.and_eq_true,decide_eq_true_eq] at hb'
 simp only [a3f,hb,if_true,List.length_append,List.length_take,List.length_drop]
 omega
theorem g4t {o:List ByteArray} {p:Hk×Hk} (h1:0≤p.1.lo∧0≤p.1.drop) (h2:a8p o p.2=true) (h:p.1.lo+p.1.drop < p.2.lo):a8p (a3f o p.2) p.1=true:=by
 have:=c9u h2
 exact d0k h1.1 h1.2 (by omega)
def a3h (o a b:List ByteArray):Int :=
 if a1d o=true∧a1d a=true∧a1d b=true then
  if o=a∨o=b∨a=b then 0
  else if (a2m o a b).2.lo≤(a2m o a b).1.lo+(a2m o a b).1.drop then 113
  else if a1d (c4y o (a2m o a b))=true then 0 else 110
 else 110
def a5f (o a b:List ByteArray):List ByteArray :=
 if a3h o a b=0 then if o=a then b else if o=b∨a=b then a else c4y o (a2m o a b) else []
theorem c4x {o a b:List ByteArray} (h:¬ (a1d o=true∧a1d a=true∧a1d b=true)):a3h o a b=110∧a5f o a b=[]:=by
 have:a3h o a b=110:=by unfold a3h;rw [if_neg h]
 exact ⟨this,by simp [a5f,this]⟩
theorem d8t {o a b:List ByteArray} (h:a1d o=true∧a1d a=true∧a1d b=true) (he:o=a):a3h o a b=0∧a5f o a b=b:=by
 have:a3h o a b=0:=by unfold a3h;rw [if_pos h,if_pos (.inl he)]
 exact ⟨this,by unfold a5f;rw [if_pos this,if_pos he]⟩
theorem e0h {o a b:List ByteArray} (h:a1d o=true∧a1d a=true∧a1d b=true) (hn:¬ o=a) (he:o=b∨a=b):a3h o a b=0∧a5f o a b=a:=by
 have:a3h o a b=0:=by unfold a3h;rw [if_pos h,if_pos (.inr he)]
 exact ⟨this,by simp [a5f,this,he,hn]⟩
theorem f2s {o a b:List ByteArray} (h:a1d o=true∧a1d a=true∧a1d b=true) (hn:¬ o=a) (hn':¬ (o=b∨a=b)) (he:(a2m o a b).2.lo≤(a2m o a b).1.lo+(a2m o a b).1.drop):a3h o a b=113∧a5f o a b=[]:=by
 have:a3h o a b=113:=by unfold a3h;rw [if_pos h,if_neg (fun h=>h.elim hn hn'),if_pos he]
 exact ⟨this,by simp [a5f,this]⟩
theorem f3v {o a b:List ByteArray} (h:a1d o=true∧a1d a=true∧a1d b=true) (hn:¬ o=a) (hn':¬ (o=b∨a=b)) (he:¬ (a2m o a b).2.lo≤(a2m o a b).1.lo+(a2m o a b).1.drop) (hr:a1d (c4y o (a2m o a b))=false):a3h o a b=110∧a5f o a b=[]:=by
 have:a3h o a b=110:=by unfold a3h;rw [if_pos h,if_neg (fun h=>h.elim hn hn'),if_neg he,if_neg (by rw [hr];decide)]
 exact ⟨this,by simp [a5f,this]⟩
theorem f6o {o a b:List ByteArray} (h:a1d o=true∧a1d a=true∧a1d b=true) (hn:¬ o=a) (hn':¬ (o=b∨a=b)) (he:¬ (a2m o a b).2.lo≤(a2m o a b).1.lo+(a2m o a b).1.drop) (hr:a1d (c4y o (a2m o a b))=true):a3h o a b=0∧a5f o a b=c4y o (a2m o a b):=by
 have:a3h o a b=0:=by unfold a3h;rw [if_pos h,if_neg (fun h=>h.elim hn hn'),if_neg he,if_pos hr]
 exact ⟨this,by simp [a5f,this,hn,hn']⟩
def srt (x y:Hk):List Hk:=if y.lo < x.lo then [y,x] else [x,y]
theorem d4i (o a b:List ByteArray):srt (a3r o a) (a3r o b)=[(a2m o a b).1,(a2m o a b).2]:=by
 unfold srt a2m;split<;>rfl
end Go.Proofs.YtmjhfccbbfpppaaGreatDoor
