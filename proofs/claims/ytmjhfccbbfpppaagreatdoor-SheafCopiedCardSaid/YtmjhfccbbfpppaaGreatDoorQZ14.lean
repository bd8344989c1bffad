import Derived.Test.YtmjhfccbbfpppaaGreatDoorQZ10
import Derived.Test.YtmjhfccbbfpppaaGreatDoorQZ12
namespace Go.Proofs.YtmjhfccbbfpppaaGreatDoor
open Go Pm
set_option linter.unusedSimpArgs false
set_option linter.unusedVariables false
set_option maxHeartbeats 4000000
set_option maxRecDepth 100000
def b1p (l:List Int):List (Value×V):=l.map fun n=>(.int .i64 n,.v (.bool true))
theorem e1j (l:List Int) (n:Int):(lkM (b1p l) (.int .i64 n)).getD (.v (.bool false))=.v (.bool (l.any fun x=>decide (x=n))):=by
 induction l with
 |nil=>rfl
 |cons x r ih =>
  simp only [b1p,List.map_cons,lkM,b2u,List.any_cons]
  by_cases h:x=n
  ·simp [h]
  ·simp only [h,decide_false,Bool.false_eq_true,if_false,Bool.false_or]
   exact ih
theorem d4e (l:List Int) (n:Int) (h:(l.any fun x=>decide (x=n))=false):upM (b1p l) (.int .i64 n) (.v (.bool true))=b1p (l++[n]):=by
 induction l with
 |nil=>rfl
 |cons x r ih =>
  simp only [List.any_cons,Bool.or_eq_false_iff,decide_eq_false_iff_not] at h
  simp only [b1p,List.map_cons,upM,b2u,List.cons_append]
  simp only [h.1,decide_false,Bool.false_eq_true,if_false,List.cons.injEq,true_and]
  exact ih h.2
theorem e8f (l:List Int):(b1p l).map (fun q=>q.2)=List.replicate l.length (.v (.bool true)):=by
 induction l with
 |nil=>rfl
 |cons x r ih=>simp only [b1p,List.map_cons,List.length_cons,List.replicate_succ] at ih ⊢;rw [ih]
theorem f3x {f:V→V→Prop} {x:V} {n:Nat} (h:f x x):okL f (List.replicate n x) (List.replicate n x)=True:=by
 induction n with
 |zero=>exact eq_true trivial
 |succ n ih=>exact eq_true ⟨h,by rw [ih];trivial⟩
theorem c0u:b1p []=[]:=rfl
attribute [go_sem] c0u e8f f3x
theorem e9q {α:Type} (f:α→Int) (l:List α) (n:Int):((l.map f).any fun x=>decide (x=n))=l.any fun d=>decide (f d=n):=by
 induction l with
 |nil=>rfl
 |cons x r ih=>simp [ih]
def a8g {α:Type} (f:α→Int) (l:List α) (k:Nat):List Int:=(l.take k).map f
theorem b1x {α:Type} (f:α→Int) (l:List α):a8g f l 0=[]:=by simp [a8g]
theorem b1h {α:Type} (f:α→Int) (l:List α) (k:Nat) (n:Int):((a8g f l k).any fun x=>decide (x=n))=(l.take k).any fun d=>decide (f d=n):=e9q f _ n
theorem e4z {α:Type} (f:α→Int) (l:List α) (k:Nat) (hk:k < l.length) (h:((l.take k).any fun d=>decide (f d=f l[k]))=false):upM (b1p (a8g f l k)) (.int .i64 (f l[k])) (.v (.bool true))=b1p (a8g f l (k+1)):=by
 rw [d4e _ _ (by rw [b1h];exact h)]
 unfold a8g
 rw [a3g f l k hk]
attribute [go_sem] b1x
theorem d1p (s:ByteArray):a0n Tryz.prog 59 [.v (.string s)] (fun _=>bl (!a1h s)):=by
 refine a0b (ow:=fun _=>false) Tryz.func59 Tryz.ntmps59 rfl rfl fun G hG hOw hNm hB=>?_;simp only [go_sem,hG,hOw]
 refine a0a (c6r s) ?_
 simp only [go_sem,hG,hOw]
theorem c3f (t:List Ch) (k:Nat) {G:Gh} {Q:Exit→St→Prop} (hG:G.n=64) (hOw:G.ow=fun _=>false) (hNm:G.nm=[]) (l:List (List ByteArray)) (hl:l.length≤140737488355328) (hbad:l.all a9q=false→∀ s',s'.get 3=i64 10→Q (.exit 0) s') :
  SemC Tryz.prog G (b1w 2 Tryz.f11.body) (St.of [(1,.ptr 1 0),(3,i64 0),(4,.mp 15),(17,chs 0 t),(18,i64 t.length),(19,i64 k),(46,lns 0 l),(47,i64 l.length),(48,i64 0)] [(1,.box [chs 0 t]),(15,.map (.int .i64) (b1p (a8g Ch.id t (k+1))))])
   (d0f G 2 (fun _:Unit=>St.of [(1,.ptr 1 0),(3,i64 0),(4,.mp 15),(17,chs 0 t),(18,i64 t.length),(19,i64 k)] [(1,.box [chs 0 t]),(15,.map (.int .i64) (b1p (a8g Ch.id t (k+1))))]) (fun _=>l.all a9q=true) Q):=by
 unfold Tryz.f11
 simp only [d4b,b1w,rgO,bkO,a5a,Option.bind_some,Option.getD_some,reduceIte,Nat.reduceEqDiff,reduceCtorEq]
 refine a0m (fun j:Nat=>St.of [(1,.ptr 1 0),(3,i64 0),(4,.mp 15),(17,chs 0 t),(18,i64 t.length),(19,i64 k),(46,lns 0 l),(47,i64 l.length),(48,i64 j)] [(1,.box [chs 0 t]),(15,.map (.int .i64) (b1p (a8g Ch.id t (k+1))))]) (fun j=>j≤l.length∧(l.take j).all a9q=true) (fun j=>l.length - j) 0 (by simp) (a2d [(1,some 1),(15,some 15)]) ?_
 rintro j ⟨hj,hallj⟩
 refine a0d _ _ _ ?_;simp only [go_sem,hG,hOw]
 (repeat' with_reducible first|refine And.intro ?_ ?_|intro _|refine exP ?_ ?_);all_goals try omega
 ·rename_i hlt2
  have hjl:j < l.length:=by omega
  have badj:a9q l[j]=false→l.all a9q=false:=fun h=>a5t hjl h
  refine a0a (a3s 1 10 l[j].length) ?_
  simp only [go_sem,hG,hOw]
  (repeat' with_reducible first|refine And.intro ?_ ?_|intro _|refine exP ?_ ?_);all_goals try omega
  ·rename_i h5
   refine a0a (a8b _ [] (fun s=>!a1h s) l[j] rfl (fun s _=>d1p s)) ?_
   simp only [go_sem,hG,hOw]
   have hL:a9q l[j]=!(l[j].any fun s=>!a1h s):=by
    unfold a9q;rw [h5,List.not_any_eq_all_not];simp
   (repeat' with_reducible first|refine And.intro ?_ ?_|intro _|refine exP ?_ ?_);all_goals try omega
   ·rename_i h6
    exact hbad (badj (by rw [hL,h6];rfl)) _ (by simp [go_sem])
   ·rename_i h6
    exact ⟨j+1,⟨by omega,a0v hjl hallj (by rw [hL,h6];rfl)⟩,by omega,a2d [(1,some 1),(15,some 15)]⟩
  ·rename_i h5
   exact hbad (badj (by unfold a9q;rw [h5];rfl)) _ (by simp [go_sem])
 ·rename_i hge2
  rw [a1c hj hge2] at hallj
  exact ⟨(),hallj,a2d [(1,some 1),(15,some 15)]⟩
theorem a4g (t:List Ch):a0n Tryz.prog 11 [txE 0 t] (fun _=>i64 (if a1l t then 0 else 10)):=by
 refine a0b (ow:=fun _=>false) Tryz.func11 Tryz.ntmps11 rfl rfl fun G hG hOw hNm hB=>?_;simp only [go_sem,hG,hOw]
 obtain ⟨hb1,hb2⟩:=e8i (e9f (hB (txE 0 t) (by simp)) (chs 0 t) (by simp))
 refine a0a (a3s 1 6 t.length) ?_
 simp only [go_sem,hG,hOw]
 (repeat' with_reducible first|refine And.intro ?_ ?_|intro _|refine exP ?_ ?_);all_goals try omega
 ·rename_i h1
  unfold a1l
  rw [h1];rfl
 ·rename_i h1
  have bad:∀ k (h:k < t.length),a8x (t.take k) t[k]=false→a1l t=false:=fun k h h'=>by
   unfold a1l
   rw [b1r h h',Bool.and_false]
  refine a3e (fun c:Int=>St.of [(3,i64 c)] []) (fun c=>c=if a1l t then 0 else 10) ?_ ?_
  ·refine a0m (fun k:Nat=>St.of [(1,.ptr 1 0),(3,i64 0),(4,.mp 15),(17,chs 0 t),(18,i64 t.length),(19,i64 k)] [(1,.box [chs 0 t]),(15,.map (.int .i64) (b1p (a8g Ch.id t k)))]) (fun k=>k≤t.length∧a3m a8x [] (t.take k)=true) (fun k=>t.length - k) 0 (by simp [a3m]) (a2d [(1,some 1),(15,some 15)] (by (simp only [go_sem])<;>simp [b1x,c0u]) (by (simp only [go_sem,a1k,a0r,a0i,a1p])<;>simp [b1x,c0u])) ?_
   rintro k ⟨hk,hall⟩
   refine a0d _ _ _ ?_;simp only [go_sem,hG,hOw]
   (repeat' with_reducible first|refine And.intro ?_ ?_|intro _|refine exP ?_ ?_);all_goals try omega
   ·rename_i hlt
    have hkl:k < t.length:=by omega
    obtain ⟨hc1,hc2⟩:=hb2 _ (List.getElem_mem hkl)
    refine a0a (a3s 0 9999 t[k].id) ?_
    simp (maxSteps:=2000000) only [go_sem,hG,hOw,e1j,b1h]
    (repeat' with_reducible first|refine And.intro ?_ ?_|intro _|refine exP ?_ ?_);all_goals try omega
    ·rename_i h2 h3
     refine a0a (a3s 1 10 t[k].lines.length) ?_
     have hup:=e4z Ch.id t k hkl h3
     simp (maxSteps:=2000000) only [go_sem,hG,hOw,hup]
     (repeat' with_reducible first|refine And.intro ?_ ?_|intro _|refine exP ?_ ?_);all_goals try omega
     ·rename_i h4
      rw [bad k hkl (by unfold a8x;rw [h4,Bool.and_false];rfl)];rfl
     ·rename_i h4
      refine a7k (fun _:Unit=>St.of [(1,.ptr 1 0),(3,i64 0),(4,.mp 15),(17,chs 0 t),(18,i64 t.length),(19,i64 k)] [(1,.box [chs 0 t]),(15,.map (.int .i64) (b1p (a8g Ch.id t (k+1))))]) (fun _=>t[k].lines.all a9q=true) ?_ ?_
      ·refine a6s (s':=St.of [(1,.ptr 1 0),(3,i64 0),(4,.mp 15),(17,chs 0 t),(18,i64 t.length),(19,i64 k),(46,lns 0 t[k].lines),(47,i64 t[k].lines.length),(48,i64 0)] [(1,.box [chs 0 t]),(15,.map (.int .i64) (b1p (a8g Ch.id t (k+1))))]) (a2d [(1,some 1),(15,some 15)]) ?_
       refine a6h (by kernel_rfl) (c3f t k hG hOw hNm t[k].lines hc1 fun hb s' hs'=>⟨10,?_,?_⟩)
       ·rw [bad k hkl (by unfold a8x;rw [hb];simp)];rfl
       ·exact a1e (by simp [f1e,okN,hs',i64]) hNm
      rintro ⟨⟩ hallj
      simp only [go_sem,hG,hOw]
      (repeat' with_reducible first|refine And.intro ?_ ?_|intro _|refine exP ?_ ?_);all_goals try omega
      refine ⟨k+1,⟨by omega,?_⟩,by omega,a2d [(1,some 1),(15,some 15)]⟩
      rw [a7w _ _ _ hkl,hall]
      unfold a8x
      rw [h2,h3,h4,hallj];rfl
    ·rename_i h2 h3
     rw [bad k hkl (by unfold a8x;rw [h3];simp)];rfl
    ·rename_i h2
     rw [bad k hkl (by unfold a8x;rw [h2];rfl)];rfl
   ·rename_i hge
    rw [a1c hk hge] at hall
    refine ⟨0,?_,a1e (by (simp only [go_sem])<;>simp) hNm⟩
    unfold a1l
    rw [h1,hall];rfl
  ·rintro c rfl
   simp only [go_sem,hG,hOw]
   (repeat' with_reducible first|refine And.intro ?_ ?_|intro _|refine exP ?_ ?_);all_goals try omega
end Go.Proofs.YtmjhfccbbfpppaaGreatDoor
