import Derived.Test.YtmjhfccbbfpppaaGreatDoorQY11
import Derived.Test.YtmjhfccbbfpppaaGreatDoorQY13
namespace Go.Proofs.YtmjhfccbbfpppaaGreatDoor
open Go Pm
set_option linter.unusedSimpArgs false
set_option linter.unusedVariables false
set_option maxHeartbeats 4000000
set_option maxRecDepth 100000
def b2w (l:List Int):List (Value×V):=l.map fun n=>(.int .i64 n,.v (.bool true))
theorem d7r (l:List Int) (n:Int):(lkM (b2w l) (.int .i64 n)).getD (.v (.bool false))=.v (.bool (l.any fun x=>decide (x=n))):=by
 induction l with
 |nil=>rfl
 |cons x r ih =>
  simp only [b2w,List.map_cons,lkM,b4o,List.any_cons]
  by_cases h:x=n
  ·simp [h]
  ·simp only [h,decide_false,Bool.false_eq_true,if_false,Bool.false_or]
   exact ih
theorem e1i (l:List Int) (n:Int) (h:(l.any fun x=>decide (x=n))=false):upM (b2w l) (.int .i64 n) (.v (.bool true))=b2w (l++[n]):=by
 induction l with
 |nil=>rfl
 |cons x r ih =>
  simp only [List.any_cons,Bool.or_eq_false_iff,decide_eq_false_iff_not] at h
  simp only [b2w,List.map_cons,upM,b4o,List.cons_append]
  simp only [h.1,decide_false,Bool.false_eq_true,if_false,List.cons.injEq,true_and]
  exact ih h.2
theorem e7w (l:List Int):(b2w l).map (fun q=>q.2)=List.replicate l.length (.v (.bool true)):=by
 induction l with
 |nil=>rfl
 |cons x r ih=>simp only [b2w,List.map_cons,List.length_cons,List.replicate_succ] at ih ⊢;rw [ih]
theorem b1c {f:V→V→Prop} {x:V} {n:Nat} (h:f x x):okL f (List.replicate n x) (List.replicate n x)=True:=by
 induction n with
 |zero=>exact eq_true trivial
 |succ n ih=>exact eq_true ⟨h,by rw [ih];trivial⟩
theorem c1z:b2w []=[]:=rfl
attribute [go_sem] c1z e7w b1c
theorem f2p {α:Type} (f:α→Int) (l:List α) (n:Int):((l.map f).any fun x=>decide (x=n))=l.any fun d=>decide (f d=n):=by
 induction l with
 |nil=>rfl
 |cons x r ih=>simp [ih]
def a9g {α:Type} (f:α→Int) (l:List α) (k:Nat):List Int:=(l.take k).map f
theorem b3m {α:Type} (f:α→Int) (l:List α):a9g f l 0=[]:=by simp [a9g]
theorem b2m {α:Type} (f:α→Int) (l:List α) (k:Nat) (n:Int):((a9g f l k).any fun x=>decide (x=n))=(l.take k).any fun d=>decide (f d=n):=f2p f _ n
theorem e6a {α:Type} (f:α→Int) (l:List α) (k:Nat) (hk:k < l.length) (h:((l.take k).any fun d=>decide (f d=f l[k]))=false):upM (b2w (a9g f l k)) (.int .i64 (f l[k])) (.v (.bool true))=b2w (a9g f l (k+1)):=by
 rw [e1i _ _ (by rw [b2m];exact h)]
 unfold a9g
 rw [a2u f l k hk]
attribute [go_sem] b3m
theorem d3h (s:ByteArray):a0o Tryz.prog 59 [.v (.string s)] (fun _=>bl (!a1p s)):=by
 refine a0c (ow:=fun _=>false) Tryz.func59 Tryz.ntmps59 rfl rfl fun G hG hOw hNm hB=>?_;simp only [go_sem,hG,hOw]
 refine a0a (c9m s) ?_
 simp only [go_sem,hG,hOw]
theorem c4v (t:List Ch) (k:Nat) {G:Gh} {Q:Exit→St→Prop} (hG:G.n=64) (hOw:G.ow=fun _=>false) (hNm:G.nm=[]) (l:List (List ByteArray)) (hl:l.length≤140737488355328) (hbad:l.all b6b=false→∀ s',s'.get 3=i64 10→Q (.exit 0) s') :
  SemC Tryz.prog G (b3x 2 Tryz.f11.body) (St.of [(1,.ptr 1 0),(3,i64 0),(4,.mp 15),(17,chs 0 t),(18,i64 t.length),(19,i64 k),(46,lns 0 l),(47,i64 l.length),(48,i64 0)] [(1,.box [chs 0 t]),(15,.map (.int .i64) (b2w (a9g Ch.id t (k+1))))])
   (d1n G 2 (fun _:Unit=>St.of [(1,.ptr 1 0),(3,i64 0),(4,.mp 15),(17,chs 0 t),(18,i64 t.length),(19,i64 k)] [(1,.box [chs 0 t]),(15,.map (.int .i64) (b2w (a9g Ch.id t (k+1))))]) (fun _=>l.all b6b=true) Q):=by
 unfold Tryz.f11
 simp only [d5d,b3x,rgO,bkO,a5q,Option.bind_some,Option.getD_some,reduceIte,Nat.reduceEqDiff,reduceCtorEq]
 refine a0r (fun j:Nat=>St.of [(1,.ptr 1 0),(3,i64 0),(4,.mp 15),(17,chs 0 t),(18,i64 t.length),(19,i64 k),(46,lns 0 l),(47,i64 l.length),(48,i64 j)] [(1,.box [chs 0 t]),(15,.map (.int .i64) (b2w (a9g Ch.id t (k+1))))]) (fun j=>j≤l.length∧(l.take j).all b6b=true) (fun j=>l.length - j) 0 (by simp) (a2o [(1,some 1),(15,some 15)]) ?_
 rintro j ⟨hj,hallj⟩
 refine a0l _ _ _ ?_;simp only [go_sem,hG,hOw]
 (repeat' with_reducible first|refine And.intro ?_ ?_|intro _|refine exP ?_ ?_);all_goals try omega
 ·rename_i hlt2
  have hjl:j < l.length:=by omega
  have badj:b6b l[j]=false→l.all b6b=false:=fun h=>a8g hjl h
  refine a0a (a4e 1 10 l[j].length) ?_
  simp only [go_sem,hG,hOw]
  (repeat' with_reducible first|refine And.intro ?_ ?_|intro _|refine exP ?_ ?_);all_goals try omega
  ·rename_i h5
   refine a0a (a9a _ [] (fun s=>!a1p s) l[j] rfl (fun s _=>d3h s)) ?_
   simp only [go_sem,hG,hOw]
   have hL:b6b l[j]=!(l[j].any fun s=>!a1p s):=by
    unfold b6b;rw [h5,List.not_any_eq_all_not];simp
   (repeat' with_reducible first|refine And.intro ?_ ?_|intro _|refine exP ?_ ?_);all_goals try omega
   ·rename_i h6
    exact hbad (badj (by rw [hL,h6];rfl)) _ (by simp [go_sem])
   ·rename_i h6
    exact ⟨j+1,⟨by omega,a1k hjl hallj (by rw [hL,h6];rfl)⟩,by omega,a2o [(1,some 1),(15,some 15)]⟩
  ·rename_i h5
   exact hbad (badj (by unfold b6b;rw [h5];rfl)) _ (by simp [go_sem])
 ·rename_i hge2
  rw [a2x hj hge2] at hallj
  exact ⟨(),hallj,a2o [(1,some 1),(15,some 15)]⟩
theorem a3q (t:List Ch):a0o Tryz.prog 11 [txE 0 t] (fun _=>i64 (if a2l t then 0 else 10)):=by
 refine a0c (ow:=fun _=>false) Tryz.func11 Tryz.ntmps11 rfl rfl fun G hG hOw hNm hB=>?_;simp only [go_sem,hG,hOw]
 obtain ⟨hb1,hb2⟩:=f7y (f7k (hB (txE 0 t) (by simp)) (chs 0 t) (by simp))
 refine a0a (a4e 1 6 t.length) ?_
 simp only [go_sem,hG,hOw]
 (repeat' with_reducible first|refine And.intro ?_ ?_|intro _|refine exP ?_ ?_);all_goals try omega
 ·rename_i h1
  unfold a2l
  rw [h1];rfl
 ·rename_i h1
  have bad:∀ k (h:k < t.length),b8d (t.take k) t[k]=false→a2l t=false:=fun k h h'=>by
   unfold a2l
   rw [b8x h h',Bool.and_false]
  refine a3g (fun c:Int=>St.of [(3,i64 c)] []) (fun c=>c=if a2l t then 0 else 10) ?_ ?_
  ·refine a0r (fun k:Nat=>St.of [(1,.ptr 1 0),(3,i64 0),(4,.mp 15),(17,chs 0 t),(18,i64 t.length),(19,i64 k)] [(1,.box [chs 0 t]),(15,.map (.int .i64) (b2w (a9g Ch.id t k)))]) (fun k=>k≤t.length∧a4m b8d [] (t.take k)=true) (fun k=>t.length - k) 0 (by simp [a4m]) (a2o [(1,some 1),(15,some 15)] (by (simp only [go_sem])<;>simp [b3m,c1z]) (by (simp only [go_sem,a1g,a0q,a0f,a1m])<;>simp [b3m,c1z])) ?_
   rintro k ⟨hk,hall⟩
   refine a0l _ _ _ ?_;simp only [go_sem,hG,hOw]
   (repeat' with_reducible first|refine And.intro ?_ ?_|intro _|refine exP ?_ ?_);all_goals try omega
   ·rename_i hlt
    have hkl:k < t.length:=by omega
    obtain ⟨hc1,hc2⟩:=hb2 _ (List.getElem_mem hkl)
    refine a0a (a4e 0 9999 t[k].id) ?_
    simp (maxSteps:=2000000) only [go_sem,hG,hOw,d7r,b2m]
    (repeat' with_reducible first|refine And.intro ?_ ?_|intro _|refine exP ?_ ?_);all_goals try omega
    ·rename_i h2 h3
     refine a0a (a4e 1 10 t[k].lines.length) ?_
     have hup:=e6a Ch.id t k hkl h3
     simp (maxSteps:=2000000) only [go_sem,hG,hOw,hup]
     (repeat' with_reducible first|refine And.intro ?_ ?_|intro _|refine exP ?_ ?_);all_goals try omega
     ·rename_i h4
      rw [bad k hkl (by unfold b8d;rw [h4,Bool.and_false];rfl)];rfl
     ·rename_i h4
      refine a6h (fun _:Unit=>St.of [(1,.ptr 1 0),(3,i64 0),(4,.mp 15),(17,chs 0 t),(18,i64 t.length),(19,i64 k)] [(1,.box [chs 0 t]),(15,.map (.int .i64) (b2w (a9g Ch.id t (k+1))))]) (fun _=>t[k].lines.all b6b=true) ?_ ?_
      ·refine a6w (s':=St.of [(1,.ptr 1 0),(3,i64 0),(4,.mp 15),(17,chs 0 t),(18,i64 t.length),(19,i64 k),(46,lns 0 t[k].lines),(47,i64 t[k].lines.length),(48,i64 0)] [(1,.box [chs 0 t]),(15,.map (.int .i64) (b2w (a9g Ch.id t (k+1))))]) (a2o [(1,some 1),(15,some 15)]) ?_
       refine a7g (by kernel_rfl) (c4v t k hG hOw hNm t[k].lines hc1 fun hb s' hs'=>⟨10,?_,?_⟩)
       ·rw [bad k hkl (by unfold b8d;rw [hb];simp)];rfl
       ·exact a1j (by simp [f4a,okN,hs',i64]) hNm
      rintro ⟨⟩ hallj
      simp only [go_sem,hG,hOw]
      (repeat' with_reducible first|refine And.intro ?_ ?_|intro _|refine exP ?_ ?_);all_goals try omega
      refine ⟨k+1,⟨by omega,?_⟩,by omega,a2o [(1,some 1),(15,some 15)]⟩
      rw [b1h _ _ _ hkl,hall]
      unfold b8d
      rw [h2,h3,h4,hallj];rfl
    ·rename_i h2 h3
     rw [bad k hkl (by unfold b8d;rw [h3];simp)];rfl
    ·rename_i h2
     rw [bad k hkl (by unfold b8d;rw [h2];rfl)];rfl
   ·rename_i hge
    rw [a2x hk hge] at hall
    refine ⟨0,?_,a1j (by (simp only [go_sem])<;>simp) hNm⟩
    unfold a2l
    rw [h1,hall];rfl
  ·rintro c rfl
   simp only [go_sem,hG,hOw]
   (repeat' with_reducible first|refine And.intro ?_ ?_|intro _|refine exP ?_ ?_);all_goals try omega
end Go.Proofs.YtmjhfccbbfpppaaGreatDoor
