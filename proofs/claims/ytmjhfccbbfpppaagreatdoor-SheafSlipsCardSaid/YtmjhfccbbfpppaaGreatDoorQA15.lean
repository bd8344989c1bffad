import Derived.Test.YtmjhfccbbfpppaaGreatDoorQA11
import Derived.Test.YtmjhfccbbfpppaaGreatDoorQA13
namespace Go.Proofs.YtmjhfccbbfpppaaGreatDoor
open Go Pm
set_option linter.unusedSimpArgs false
set_option linter.unusedVariables false
set_option maxHeartbeats 4000000
set_option maxRecDepth 100000
def b3g (l:List Int):List (Value×V):=l.map fun n=>(.int .i64 n,.v (.bool true))
theorem e2z (l:List Int) (n:Int):(lkM (b3g l) (.int .i64 n)).getD (.v (.bool false))=.v (.bool (l.any fun x=>decide (x=n))):=by
 induction l with
 |nil=>rfl
 |cons x r ih =>
  simp only [b3g,List.map_cons,lkM,b4e,List.any_cons]
  by_cases h:x=n
  ·simp [h]
  ·simp only [h,decide_false,Bool.false_eq_true,if_false,Bool.false_or]
   exact ih
theorem d9c (l:List Int) (n:Int) (h:(l.any fun x=>decide (x=n))=false):upM (b3g l) (.int .i64 n) (.v (.bool true))=b3g (l++[n]):=by
 induction l with
 |nil=>rfl
 |cons x r ih =>
  simp only [List.any_cons,Bool.or_eq_false_iff,decide_eq_false_iff_not] at h
  simp only [b3g,List.map_cons,upM,b4e,List.cons_append]
  simp only [h.1,decide_false,Bool.false_eq_true,if_false,List.cons.injEq,true_and]
  exact ih h.2
theorem e9p (l:List Int):(b3g l).map (fun q=>q.2)=List.replicate l.length (.v (.bool true)):=by
 induction l with
 |nil=>rfl
 |cons x r ih=>simp only [b3g,List.map_cons,List.length_cons,List.replicate_succ] at ih ⊢;rw [ih]
theorem b0t {f:V→V→Prop} {x:V} {n:Nat} (h:f x x):okL f (List.replicate n x) (List.replicate n x)=True:=by
 induction n with
 |zero=>exact eq_true trivial
 |succ n ih=>exact eq_true ⟨h,by rw [ih];trivial⟩
theorem c1p:b3g []=[]:=rfl
attribute [go_sem] c1p e9p b0t
theorem f3l {α:Type} (f:α→Int) (l:List α) (n:Int):((l.map f).any fun x=>decide (x=n))=l.any fun d=>decide (f d=n):=by
 induction l with
 |nil=>rfl
 |cons x r ih=>simp [ih]
def a8r {α:Type} (f:α→Int) (l:List α) (k:Nat):List Int:=(l.take k).map f
theorem b2u {α:Type} (f:α→Int) (l:List α):a8r f l 0=[]:=by simp [a8r]
theorem b2m {α:Type} (f:α→Int) (l:List α) (k:Nat) (n:Int):((a8r f l k).any fun x=>decide (x=n))=(l.take k).any fun d=>decide (f d=n):=f3l f _ n
theorem e5j {α:Type} (f:α→Int) (l:List α) (k:Nat) (hk:k < l.length) (h:((l.take k).any fun d=>decide (f d=f l[k]))=false):upM (b3g (a8r f l k)) (.int .i64 (f l[k])) (.v (.bool true))=b3g (a8r f l (k+1)):=by
 rw [d9c _ _ (by rw [b2m];exact h)]
 unfold a8r
 rw [a2l f l k hk]
attribute [go_sem] b2u
theorem d2x (s:ByteArray):a0l Tryz.prog 59 [.v (.string s)] (fun _=>bl (!a1b s)):=by
 refine a0b (ow:=fun _=>false) Tryz.func59 Tryz.ntmps59 rfl rfl fun G hG hOw hNm hB=>?_;simp only [go_sem,hG,hOw]
 refine a0a (c6s s) ?_
 simp only [go_sem,hG,hOw]
theorem c5k (t:List Ch) (k:Nat) {G:Gh} {Q:Exit→St→Prop} (hG:G.n=64) (hOw:G.ow=fun _=>false) (hNm:G.nm=[]) (l:List (List ByteArray)) (hl:l.length≤140737488355328) (hbad:l.all a8f=false→∀ s',s'.get 3=i64 10→Q (.exit 0) s') :
  SemC Tryz.prog G (b3i 2 Tryz.f11.body) (St.of [(1,.ptr 1 0),(3,i64 0),(4,.mp 15),(17,chs 0 t),(18,i64 t.length),(19,i64 k),(46,lns 0 l),(47,i64 l.length),(48,i64 0)] [(1,.box [chs 0 t]),(15,.map (.int .i64) (b3g (a8r Ch.id t (k+1))))])
   (c9v G 2 (fun _:Unit=>St.of [(1,.ptr 1 0),(3,i64 0),(4,.mp 15),(17,chs 0 t),(18,i64 t.length),(19,i64 k)] [(1,.box [chs 0 t]),(15,.map (.int .i64) (b3g (a8r Ch.id t (k+1))))]) (fun _=>l.all a8f=true) Q):=by
 unfold Tryz.f11
 simp only [d5l,b3i,rgO,bkO,a5g,Option.bind_some,Option.getD_some,reduceIte,Nat.reduceEqDiff,reduceCtorEq]
 refine a0i (fun j:Nat=>St.of [(1,.ptr 1 0),(3,i64 0),(4,.mp 15),(17,chs 0 t),(18,i64 t.length),(19,i64 k),(46,lns 0 l),(47,i64 l.length),(48,i64 j)] [(1,.box [chs 0 t]),(15,.map (.int .i64) (b3g (a8r Ch.id t (k+1))))]) (fun j=>j≤l.length∧(l.take j).all a8f=true) (fun j=>l.length - j) 0 (by simp) (a1m [(1,some 1),(15,some 15)]) ?_
 rintro j ⟨hj,hallj⟩
 refine a0d _ _ _ ?_;simp only [go_sem,hG,hOw]
 (repeat' with_reducible first|refine And.intro ?_ ?_|intro _|refine exP ?_ ?_);all_goals try omega
 ·rename_i hlt2
  have hjl:j < l.length:=by omega
  have badj:a8f l[j]=false→l.all a8f=false:=fun h=>a4x hjl h
  refine a0a (a3v 1 10 l[j].length) ?_
  simp only [go_sem,hG,hOw]
  (repeat' with_reducible first|refine And.intro ?_ ?_|intro _|refine exP ?_ ?_);all_goals try omega
  ·rename_i h5
   refine a0a (a8k _ [] (fun s=>!a1b s) l[j] rfl (fun s _=>d2x s)) ?_
   simp only [go_sem,hG,hOw]
   have hL:a8f l[j]=!(l[j].any fun s=>!a1b s):=by
    unfold a8f;rw [h5,List.not_any_eq_all_not];simp
   (repeat' with_reducible first|refine And.intro ?_ ?_|intro _|refine exP ?_ ?_);all_goals try omega
   ·rename_i h6
    exact hbad (badj (by rw [hL,h6];rfl)) _ (by simp [go_sem])
   ·rename_i h6
    exact ⟨j+1,⟨by omega,a0v hjl hallj (by rw [hL,h6];rfl)⟩,by omega,a1m [(1,some 1),(15,some 15)]⟩
  ·rename_i h5
   exact hbad (badj (by unfold a8f;rw [h5];rfl)) _ (by simp [go_sem])
 ·rename_i hge2
  rw [a1t hj hge2] at hallj
  exact ⟨(),hallj,a1m [(1,some 1),(15,some 15)]⟩
theorem a7o (t:List Ch):a0l Tryz.prog 11 [txE 0 t] (fun _=>i64 (if a1r t then 0 else 10)):=by
 refine a0b (ow:=fun _=>false) Tryz.func11 Tryz.ntmps11 rfl rfl fun G hG hOw hNm hB=>?_;simp only [go_sem,hG,hOw]
 obtain ⟨hb1,hb2⟩:=e3h (e2m (hB (txE 0 t) (by simp)) (chs 0 t) (by simp))
 refine a0a (a3v 1 6 t.length) ?_
 simp only [go_sem,hG,hOw]
 (repeat' with_reducible first|refine And.intro ?_ ?_|intro _|refine exP ?_ ?_);all_goals try omega
 ·rename_i h1
  unfold a1r
  rw [h1];rfl
 ·rename_i h1
  have bad:∀ k (h:k < t.length),a8n (t.take k) t[k]=false→a1r t=false:=fun k h h'=>by
   unfold a1r
   rw [a9u h h',Bool.and_false]
  refine a2z (fun c:Int=>St.of [(3,i64 c)] []) (fun c=>c=if a1r t then 0 else 10) ?_ ?_
  ·refine a0i (fun k:Nat=>St.of [(1,.ptr 1 0),(3,i64 0),(4,.mp 15),(17,chs 0 t),(18,i64 t.length),(19,i64 k)] [(1,.box [chs 0 t]),(15,.map (.int .i64) (b3g (a8r Ch.id t k)))]) (fun k=>k≤t.length∧a3g a8n [] (t.take k)=true) (fun k=>t.length - k) 0 (by simp [a3g]) (a1m [(1,some 1),(15,some 15)] (by (simp only [go_sem])<;>simp [b2u,c1p]) (by (simp only [go_sem,a1k,a0s,a0j,a1q])<;>simp [b2u,c1p])) ?_
   rintro k ⟨hk,hall⟩
   refine a0d _ _ _ ?_;simp only [go_sem,hG,hOw]
   (repeat' with_reducible first|refine And.intro ?_ ?_|intro _|refine exP ?_ ?_);all_goals try omega
   ·rename_i hlt
    have hkl:k < t.length:=by omega
    obtain ⟨hc1,hc2⟩:=hb2 _ (List.getElem_mem hkl)
    refine a0a (a3v 0 9999 t[k].id) ?_
    simp (maxSteps:=2000000) only [go_sem,hG,hOw,e2z,b2m]
    (repeat' with_reducible first|refine And.intro ?_ ?_|intro _|refine exP ?_ ?_);all_goals try omega
    ·rename_i h2 h3
     refine a0a (a3v 1 10 t[k].lines.length) ?_
     have hup:=e5j Ch.id t k hkl h3
     simp (maxSteps:=2000000) only [go_sem,hG,hOw,hup]
     (repeat' with_reducible first|refine And.intro ?_ ?_|intro _|refine exP ?_ ?_);all_goals try omega
     ·rename_i h4
      rw [bad k hkl (by unfold a8n;rw [h4,Bool.and_false];rfl)];rfl
     ·rename_i h4
      refine a2s (fun _:Unit=>St.of [(1,.ptr 1 0),(3,i64 0),(4,.mp 15),(17,chs 0 t),(18,i64 t.length),(19,i64 k)] [(1,.box [chs 0 t]),(15,.map (.int .i64) (b3g (a8r Ch.id t (k+1))))]) (fun _=>t[k].lines.all a8f=true) ?_ ?_
      ·refine a4c (s':=St.of [(1,.ptr 1 0),(3,i64 0),(4,.mp 15),(17,chs 0 t),(18,i64 t.length),(19,i64 k),(46,lns 0 t[k].lines),(47,i64 t[k].lines.length),(48,i64 0)] [(1,.box [chs 0 t]),(15,.map (.int .i64) (b3g (a8r Ch.id t (k+1))))]) (a1m [(1,some 1),(15,some 15)]) ?_
       refine a6n (by kernel_rfl) (c5k t k hG hOw hNm t[k].lines hc1 fun hb s' hs'=>⟨10,?_,?_⟩)
       ·rw [bad k hkl (by unfold a8n;rw [hb];simp)];rfl
       ·exact a1e (by simp [f6h,okN,hs',i64]) hNm
      rintro ⟨⟩ hallj
      simp only [go_sem,hG,hOw]
      (repeat' with_reducible first|refine And.intro ?_ ?_|intro _|refine exP ?_ ?_);all_goals try omega
      refine ⟨k+1,⟨by omega,?_⟩,by omega,a1m [(1,some 1),(15,some 15)]⟩
      rw [a7x _ _ _ hkl,hall]
      unfold a8n
      rw [h2,h3,h4,hallj];rfl
    ·rename_i h2 h3
     rw [bad k hkl (by unfold a8n;rw [h3];simp)];rfl
    ·rename_i h2
     rw [bad k hkl (by unfold a8n;rw [h2];rfl)];rfl
   ·rename_i hge
    rw [a1t hk hge] at hall
    refine ⟨0,?_,a1e (by (simp only [go_sem])<;>simp) hNm⟩
    unfold a1r
    rw [h1,hall];rfl
  ·rintro c rfl
   simp only [go_sem,hG,hOw]
   (repeat' with_reducible first|refine And.intro ?_ ?_|intro _|refine exP ?_ ?_);all_goals try omega
end Go.Proofs.YtmjhfccbbfpppaaGreatDoor
