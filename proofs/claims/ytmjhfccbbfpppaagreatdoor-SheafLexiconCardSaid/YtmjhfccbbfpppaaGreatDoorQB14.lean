import Derived.Test.YtmjhfccbbfpppaaGreatDoorQB10
import Derived.Test.YtmjhfccbbfpppaaGreatDoorQB12
namespace Go.Proofs.YtmjhfccbbfpppaaGreatDoor
open Go Pm
set_option linter.unusedSimpArgs false
set_option linter.unusedVariables false
set_option maxHeartbeats 4000000
set_option maxRecDepth 100000
def b3u (l:List Int):List (Value×V):=l.map fun n=>(.int .i64 n,.v (.bool true))
theorem d7h (l:List Int) (n:Int):(lkM (b3u l) (.int .i64 n)).getD (.v (.bool false))=.v (.bool (l.any fun x=>decide (x=n))):=by
 induction l with
 |nil=>rfl
 |cons x r ih =>
  simp only [b3u,List.map_cons,lkM,b3e,List.any_cons]
  by_cases h:x=n
  ·simp [h]
  ·simp only [h,decide_false,Bool.false_eq_true,if_false,Bool.false_or]
   exact ih
theorem d7b (l:List Int) (n:Int) (h:(l.any fun x=>decide (x=n))=false):upM (b3u l) (.int .i64 n) (.v (.bool true))=b3u (l++[n]):=by
 induction l with
 |nil=>rfl
 |cons x r ih =>
  simp only [List.any_cons,Bool.or_eq_false_iff,decide_eq_false_iff_not] at h
  simp only [b3u,List.map_cons,upM,b3e,List.cons_append]
  simp only [h.1,decide_false,Bool.false_eq_true,if_false,List.cons.injEq,true_and]
  exact ih h.2
theorem e8k (l:List Int):(b3u l).map (fun q=>q.2)=List.replicate l.length (.v (.bool true)):=by
 induction l with
 |nil=>rfl
 |cons x r ih=>simp only [b3u,List.map_cons,List.length_cons,List.replicate_succ] at ih ⊢;rw [ih]
theorem f4h {f:V→V→Prop} {x:V} {n:Nat} (h:f x x):okL f (List.replicate n x) (List.replicate n x)=True:=by
 induction n with
 |zero=>exact eq_true trivial
 |succ n ih=>exact eq_true ⟨h,by rw [ih];trivial⟩
theorem c1a:b3u []=[]:=rfl
attribute [go_sem] c1a e8k f4h
theorem f4b {α:Type} (f:α→Int) (l:List α) (n:Int):((l.map f).any fun x=>decide (x=n))=l.any fun d=>decide (f d=n):=by
 induction l with
 |nil=>rfl
 |cons x r ih=>simp [ih]
def a9i {α:Type} (f:α→Int) (l:List α) (k:Nat):List Int:=(l.take k).map f
theorem b4b {α:Type} (f:α→Int) (l:List α):a9i f l 0=[]:=by simp [a9i]
theorem b2r {α:Type} (f:α→Int) (l:List α) (k:Nat) (n:Int):((a9i f l k).any fun x=>decide (x=n))=(l.take k).any fun d=>decide (f d=n):=f4b f _ n
theorem f2b {α:Type} (f:α→Int) (l:List α) (k:Nat) (hk:k < l.length) (h:((l.take k).any fun d=>decide (f d=f l[k]))=false):upM (b3u (a9i f l k)) (.int .i64 (f l[k])) (.v (.bool true))=b3u (a9i f l (k+1)):=by
 rw [d7b _ _ (by rw [b2r];exact h)]
 unfold a9i
 rw [a3d f l k hk]
attribute [go_sem] b4b
theorem d5b (s:ByteArray):a0l Tryz.prog 59 [.v (.string s)] (fun _=>bl (!a1f s)):=by
 refine a0b (ow:=fun _=>false) Tryz.func59 Tryz.ntmps59 rfl rfl fun G hG hOw hNm hB=>?_;simp only [go_sem,hG,hOw]
 refine a0a (d0g s) ?_
 simp only [go_sem,hG,hOw]
theorem c5j (t:List Ch) (k:Nat) {G:Gh} {Q:Exit→St→Prop} (hG:G.n=64) (hOw:G.ow=fun _=>false) (hNm:G.nm=[]) (l:List (List ByteArray)) (hl:l.length≤140737488355328) (hbad:l.all b0y=false→∀ s',s'.get 3=i64 10→Q (.exit 0) s') :
  SemC Tryz.prog G (b4c 2 Tryz.f11.body) (St.of [(1,.ptr 1 0),(3,i64 0),(4,.mp 15),(17,chs 0 t),(18,i64 t.length),(19,i64 k),(46,lns 0 l),(47,i64 l.length),(48,i64 0)] [(1,.box [chs 0 t]),(15,.map (.int .i64) (b3u (a9i Ch.id t (k+1))))])
   (d2b G 2 (fun _:Unit=>St.of [(1,.ptr 1 0),(3,i64 0),(4,.mp 15),(17,chs 0 t),(18,i64 t.length),(19,i64 k)] [(1,.box [chs 0 t]),(15,.map (.int .i64) (b3u (a9i Ch.id t (k+1))))]) (fun _=>l.all b0y=true) Q):=by
 unfold Tryz.f11
 simp only [d6i,b4c,rgO,bkO,a5j,Option.bind_some,Option.getD_some,reduceIte,Nat.reduceEqDiff,reduceCtorEq]
 refine a0k (fun j:Nat=>St.of [(1,.ptr 1 0),(3,i64 0),(4,.mp 15),(17,chs 0 t),(18,i64 t.length),(19,i64 k),(46,lns 0 l),(47,i64 l.length),(48,i64 j)] [(1,.box [chs 0 t]),(15,.map (.int .i64) (b3u (a9i Ch.id t (k+1))))]) (fun j=>j≤l.length∧(l.take j).all b0y=true) (fun j=>l.length - j) 0 (by simp) (a1m [(1,some 1),(15,some 15)]) ?_
 rintro j ⟨hj,hallj⟩
 refine a0d _ _ _ ?_;simp only [go_sem,hG,hOw]
 (repeat' with_reducible first|apply And.intro|refine exP ?_ ?_|intro);all_goals try omega
 ·rename_i hlt2
  have hjl:j < l.length:=by omega
  have badj:b0y l[j]=false→l.all b0y=false:=fun h=>a4k hjl h
  refine a0a (a3x 1 10 l[j].length) ?_
  simp only [go_sem,hG,hOw]
  (repeat' with_reducible first|apply And.intro|refine exP ?_ ?_|intro);all_goals try omega
  ·rename_i h5
   refine a0a (a8u _ [] (fun s=>!a1f s) l[j] rfl (fun s _=>d5b s)) ?_
   simp only [go_sem,hG,hOw]
   have hL:b0y l[j]=!(l[j].any fun s=>!a1f s):=by
    unfold b0y;rw [h5,List.not_any_eq_all_not];simp
   (repeat' with_reducible first|apply And.intro|refine exP ?_ ?_|intro);all_goals try omega
   ·rename_i h6
    exact hbad (badj (by rw [hL,h6];rfl)) _ (by simp [go_sem])
   ·rename_i h6
    exact ⟨j+1,⟨by omega,a0u hjl hallj (by rw [hL,h6];rfl)⟩,by omega,a1m [(1,some 1),(15,some 15)]⟩
  ·rename_i h5
   exact hbad (badj (by unfold b0y;rw [h5];rfl)) _ (by simp [go_sem])
 ·rename_i hge2
  rw [a1k hj hge2] at hallj
  exact ⟨(),hallj,a1m [(1,some 1),(15,some 15)]⟩
theorem a5x (t:List Ch):a0l Tryz.prog 11 [txE 0 t] (fun _=>i64 (if a1s t then 0 else 10)):=by
 refine a0b (ow:=fun _=>false) Tryz.func11 Tryz.ntmps11 rfl rfl fun G hG hOw hNm hB=>?_;simp only [go_sem,hG,hOw]
 obtain ⟨hb1,hb2⟩:=f3a (f3f (hB (txE 0 t) (by simp)) (chs 0 t) (by simp))
 refine a0a (a3x 1 6 t.length) ?_
 simp only [go_sem,hG,hOw]
 (repeat' with_reducible first|apply And.intro|refine exP ?_ ?_|intro);all_goals try omega
 ·rename_i h1
  unfold a1s
  rw [h1];rfl
 ·rename_i h1
  have bad:∀ k (h:k < t.length),a9z (t.take k) t[k]=false→a1s t=false:=fun k h h'=>by
   unfold a1s
   rw [a7s h h',Bool.and_false]
  refine a3e (fun c:Int=>St.of [(3,i64 c)] []) (fun c=>c=if a1s t then 0 else 10) ?_ ?_
  ·refine a0k (fun k:Nat=>St.of [(1,.ptr 1 0),(3,i64 0),(4,.mp 15),(17,chs 0 t),(18,i64 t.length),(19,i64 k)] [(1,.box [chs 0 t]),(15,.map (.int .i64) (b3u (a9i Ch.id t k)))]) (fun k=>k≤t.length∧a2i a9z [] (t.take k)=true) (fun k=>t.length - k) 0 (by simp [a2i]) (a1m [(1,some 1),(15,some 15)] (by (simp only [go_sem])<;>simp [b4b,c1a]) (by (simp only [go_sem,a1d,a0r,a0i,a1l])<;>simp [b4b,c1a])) ?_
   rintro k ⟨hk,hall⟩
   refine a0d _ _ _ ?_;simp only [go_sem,hG,hOw]
   (repeat' with_reducible first|apply And.intro|refine exP ?_ ?_|intro);all_goals try omega
   ·rename_i hlt
    have hkl:k < t.length:=by omega
    obtain ⟨hc1,hc2⟩:=hb2 _ (List.getElem_mem hkl)
    refine a0a (a3x 0 9999 t[k].id) ?_
    simp (maxSteps:=2000000) only [go_sem,hG,hOw,d7h,b2r]
    (repeat' with_reducible first|apply And.intro|refine exP ?_ ?_|intro);all_goals try omega
    ·rename_i h2 h3
     refine a0a (a3x 1 10 t[k].lines.length) ?_
     have hup:=f2b Ch.id t k hkl h3
     simp (maxSteps:=2000000) only [go_sem,hG,hOw,hup]
     (repeat' with_reducible first|apply And.intro|refine exP ?_ ?_|intro);all_goals try omega
     ·rename_i h4
      rw [bad k hkl (by unfold a9z;rw [h4,Bool.and_false];rfl)];rfl
     ·rename_i h4
      refine a2h (fun _:Unit=>St.of [(1,.ptr 1 0),(3,i64 0),(4,.mp 15),(17,chs 0 t),(18,i64 t.length),(19,i64 k)] [(1,.box [chs 0 t]),(15,.map (.int .i64) (b3u (a9i Ch.id t (k+1))))]) (fun _=>t[k].lines.all b0y=true) ?_ ?_
      ·refine a4m (s':=St.of [(1,.ptr 1 0),(3,i64 0),(4,.mp 15),(17,chs 0 t),(18,i64 t.length),(19,i64 k),(46,lns 0 t[k].lines),(47,i64 t[k].lines.length),(48,i64 0)] [(1,.box [chs 0 t]),(15,.map (.int .i64) (b3u (a9i Ch.id t (k+1))))]) (a1m [(1,some 1),(15,some 15)]) ?_
       refine a6l (by kernel_rfl) (c5j t k hG hOw hNm t[k].lines hc1 fun hb s' hs'=>⟨10,?_,?_⟩)
       ·rw [bad k hkl (by unfold a9z;rw [hb];simp)];rfl
       ·exact a0y (by simp [f6a,okN,hs',i64]) hNm
      rintro ⟨⟩ hallj
      simp only [go_sem,hG,hOw]
      (repeat' with_reducible first|apply And.intro|refine exP ?_ ?_|intro);all_goals try omega
      refine ⟨k+1,⟨by omega,?_⟩,by omega,a1m [(1,some 1),(15,some 15)]⟩
      rw [a6m _ _ _ hkl,hall]
      unfold a9z
      rw [h2,h3,h4,hallj];rfl
    ·rename_i h2 h3
     rw [bad k hkl (by unfold a9z;rw [h3];simp)];rfl
    ·rename_i h2
     rw [bad k hkl (by unfold a9z;rw [h2];rfl)];rfl
   ·rename_i hge
    rw [a1k hk hge] at hall
    refine ⟨0,?_,a0y (by (simp only [go_sem])<;>simp) hNm⟩
    unfold a1s
    rw [h1,hall];rfl
  ·rintro c rfl
   simp only [go_sem,hG,hOw]
   (repeat' with_reducible first|apply And.intro|refine exP ?_ ?_|intro);all_goals try omega
end Go.Proofs.YtmjhfccbbfpppaaGreatDoor
