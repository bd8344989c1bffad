import Derived.Test.YtmjhfccbbfpppaaGreatDoorQW10
import Derived.Test.YtmjhfccbbfpppaaGreatDoorQW12
namespace Go.Proofs.YtmjhfccbbfpppaaGreatDoor
open Go Pm
set_option linter.unusedSimpArgs false
set_option linter.unusedVariables false
set_option maxHeartbeats 4000000
set_option maxRecDepth 100000
def b4y (l:List Int):List (Value×V):=l.map fun n=>(.int .i64 n,.v (.bool true))
theorem e1d (l:List Int) (n:Int):(lkM (b4y l) (.int .i64 n)).getD (.v (.bool false))=.v (.bool (l.any fun x=>decide (x=n))):=by
 induction l with
 |nil=>rfl
 |cons x r ih =>
  simp only [b4y,List.map_cons,lkM,b5t,List.any_cons]
  by_cases h:x=n
  ·simp [h]
  ·simp only [h,decide_false,Bool.false_eq_true,if_false,Bool.false_or]
   exact ih
theorem e2f (l:List Int) (n:Int) (h:(l.any fun x=>decide (x=n))=false):upM (b4y l) (.int .i64 n) (.v (.bool true))=b4y (l++[n]):=by
 induction l with
 |nil=>rfl
 |cons x r ih =>
  simp only [List.any_cons,Bool.or_eq_false_iff,decide_eq_false_iff_not] at h
  simp only [b4y,List.map_cons,upM,b5t,List.cons_append]
  simp only [h.1,decide_false,Bool.false_eq_true,if_false,List.cons.injEq,true_and]
  exact ih h.2
theorem e8y (l:List Int):(b4y l).map (fun q=>q.2)=List.replicate l.length (.v (.bool true)):=by
 induction l with
 |nil=>rfl
 |cons x r ih=>simp only [b4y,List.map_cons,List.length_cons,List.replicate_succ] at ih ⊢;rw [ih]
theorem b2h {f:V→V→Prop} {x:V} {n:Nat} (h:f x x):okL f (List.replicate n x) (List.replicate n x)=True:=by
 induction n with
 |zero=>exact eq_true trivial
 |succ n ih=>exact eq_true ⟨h,by rw [ih];trivial⟩
theorem c1r:b4y []=[]:=rfl
attribute [go_sem] c1r e8y b2h
theorem f4i {α:Type} (f:α→Int) (l:List α) (n:Int):((l.map f).any fun x=>decide (x=n))=l.any fun d=>decide (f d=n):=by
 induction l with
 |nil=>rfl
 |cons x r ih=>simp [ih]
def a9t {α:Type} (f:α→Int) (l:List α) (k:Nat):List Int:=(l.take k).map f
theorem b4w {α:Type} (f:α→Int) (l:List α):a9t f l 0=[]:=by simp [a9t]
theorem b3o {α:Type} (f:α→Int) (l:List α) (k:Nat) (n:Int):((a9t f l k).any fun x=>decide (x=n))=(l.take k).any fun d=>decide (f d=n):=f4i f _ n
theorem f1j {α:Type} (f:α→Int) (l:List α) (k:Nat) (hk:k < l.length) (h:((l.take k).any fun d=>decide (f d=f l[k]))=false):upM (b4y (a9t f l k)) (.int .i64 (f l[k])) (.v (.bool true))=b4y (a9t f l (k+1)):=by
 rw [e2f _ _ (by rw [b3o];exact h)]
 unfold a9t
 rw [a2x f l k hk]
attribute [go_sem] b4w
theorem d3u (s:ByteArray):a0p Tryz.prog 59 [.v (.string s)] (fun _=>bl (!a1i s)):=by
 refine a0c (ow:=fun _=>false) Tryz.func59 Tryz.ntmps59 rfl rfl fun G hG hOw hNm hB=>?_;simp only [go_sem,hG,hOw]
 refine a0a (d0v s) ?_
 simp only [go_sem,hG,hOw]
theorem c7m (t:List Ch) (k:Nat) {G:Gh} {Q:Exit→St→Prop} (hG:G.n=64) (hOw:G.ow=fun _=>false) (hNm:G.nm=[]) (l:List (List ByteArray)) (hl:l.length≤140737488355328) (hbad:l.all b1o=false→∀ s',s'.get 3=i64 10→Q (.exit 0) s') :
  SemC Tryz.prog G (b4r 2 Tryz.f11.body) (St.of [(1,.ptr 1 0),(3,i64 0),(4,.mp 15),(17,chs 0 t),(18,i64 t.length),(19,i64 k),(46,lns 0 l),(47,i64 l.length),(48,i64 0)] [(1,.box [chs 0 t]),(15,.map (.int .i64) (b4y (a9t Ch.id t (k+1))))])
   (d2w G 2 (fun _:Unit=>St.of [(1,.ptr 1 0),(3,i64 0),(4,.mp 15),(17,chs 0 t),(18,i64 t.length),(19,i64 k)] [(1,.box [chs 0 t]),(15,.map (.int .i64) (b4y (a9t Ch.id t (k+1))))]) (fun _=>l.all b1o=true) Q):=by
 unfold Tryz.f11
 simp only [d6r,b4r,rgO,bkO,a6e,Option.bind_some,Option.getD_some,reduceIte,Nat.reduceEqDiff,reduceCtorEq]
 refine a0n (fun j:Nat=>St.of [(1,.ptr 1 0),(3,i64 0),(4,.mp 15),(17,chs 0 t),(18,i64 t.length),(19,i64 k),(46,lns 0 l),(47,i64 l.length),(48,i64 j)] [(1,.box [chs 0 t]),(15,.map (.int .i64) (b4y (a9t Ch.id t (k+1))))]) (fun j=>j≤l.length∧(l.take j).all b1o=true) (fun j=>l.length - j) 0 (by simp) (a2r [(1,some 1),(15,some 15)]) ?_
 rintro j ⟨hj,hallj⟩
 refine a0g _ _ _ ?_;simp only [go_sem,hG,hOw]
 (repeat' with_reducible first|refine And.intro ?_ ?_|intro _|refine exP ?_ ?_);all_goals try omega
 ·rename_i hlt2
  have hjl:j < l.length:=by omega
  have badj:b1o l[j]=false→l.all b1o=false:=fun h=>a4l hjl h
  refine a0a (a4g 1 10 l[j].length) ?_
  simp only [go_sem,hG,hOw]
  (repeat' with_reducible first|refine And.intro ?_ ?_|intro _|refine exP ?_ ?_);all_goals try omega
  ·rename_i h5
   refine a0a (a9m _ [] (fun s=>!a1i s) l[j] rfl (fun s _=>d3u s)) ?_
   simp only [go_sem,hG,hOw]
   have hL:b1o l[j]=!(l[j].any fun s=>!a1i s):=by
    unfold b1o;rw [h5,List.not_any_eq_all_not];simp
   (repeat' with_reducible first|refine And.intro ?_ ?_|intro _|refine exP ?_ ?_);all_goals try omega
   ·rename_i h6
    exact hbad (badj (by rw [hL,h6];rfl)) _ (by simp [go_sem])
   ·rename_i h6
    exact ⟨j+1,⟨by omega,a0u hjl hallj (by rw [hL,h6];rfl)⟩,by omega,a2r [(1,some 1),(15,some 15)]⟩
  ·rename_i h5
   exact hbad (badj (by unfold b1o;rw [h5];rfl)) _ (by simp [go_sem])
 ·rename_i hge2
  rw [a1t hj hge2] at hallj
  exact ⟨(),hallj,a2r [(1,some 1),(15,some 15)]⟩
theorem a3p (t:List Ch):a0p Tryz.prog 11 [txE 0 t] (fun _=>i64 (if a1z t then 0 else 10)):=by
 refine a0c (ow:=fun _=>false) Tryz.func11 Tryz.ntmps11 rfl rfl fun G hG hOw hNm hB=>?_;simp only [go_sem,hG,hOw]
 obtain ⟨hb1,hb2⟩:=f3d (f3o (hB (txE 0 t) (by simp)) (chs 0 t) (by simp))
 refine a0a (a4g 1 6 t.length) ?_
 simp only [go_sem,hG,hOw]
 (repeat' with_reducible first|refine And.intro ?_ ?_|intro _|refine exP ?_ ?_);all_goals try omega
 ·rename_i h1
  unfold a1z
  rw [h1];rfl
 ·rename_i h1
  have bad:∀ k (h:k < t.length),b0f (t.take k) t[k]=false→a1z t=false:=fun k h h'=>by
   unfold a1z
   rw [b4z h h',Bool.and_false]
  refine a3l (fun c:Int=>St.of [(3,i64 c)] []) (fun c=>c=if a1z t then 0 else 10) ?_ ?_
  ·refine a0n (fun k:Nat=>St.of [(1,.ptr 1 0),(3,i64 0),(4,.mp 15),(17,chs 0 t),(18,i64 t.length),(19,i64 k)] [(1,.box [chs 0 t]),(15,.map (.int .i64) (b4y (a9t Ch.id t k)))]) (fun k=>k≤t.length∧a4b b0f [] (t.take k)=true) (fun k=>t.length - k) 0 (by simp [a4b]) (a2r [(1,some 1),(15,some 15)] (by (simp only [go_sem])<;>simp [b4w,c1r]) (by (simp only [go_sem,a1f,a0q,a0e,a1l])<;>simp [b4w,c1r])) ?_
   rintro k ⟨hk,hall⟩
   refine a0g _ _ _ ?_;simp only [go_sem,hG,hOw]
   (repeat' with_reducible first|refine And.intro ?_ ?_|intro _|refine exP ?_ ?_);all_goals try omega
   ·rename_i hlt
    have hkl:k < t.length:=by omega
    obtain ⟨hc1,hc2⟩:=hb2 _ (List.getElem_mem hkl)
    refine a0a (a4g 0 9999 t[k].id) ?_
    simp (maxSteps:=2000000) only [go_sem,hG,hOw,e1d,b3o]
    (repeat' with_reducible first|refine And.intro ?_ ?_|intro _|refine exP ?_ ?_);all_goals try omega
    ·rename_i h2 h3
     refine a0a (a4g 1 10 t[k].lines.length) ?_
     have hup:=f1j Ch.id t k hkl h3
     simp (maxSteps:=2000000) only [go_sem,hG,hOw,hup]
     (repeat' with_reducible first|refine And.intro ?_ ?_|intro _|refine exP ?_ ?_);all_goals try omega
     ·rename_i h4
      rw [bad k hkl (by unfold b0f;rw [h4,Bool.and_false];rfl)];rfl
     ·rename_i h4
      refine a6v (fun _:Unit=>St.of [(1,.ptr 1 0),(3,i64 0),(4,.mp 15),(17,chs 0 t),(18,i64 t.length),(19,i64 k)] [(1,.box [chs 0 t]),(15,.map (.int .i64) (b4y (a9t Ch.id t (k+1))))]) (fun _=>t[k].lines.all b1o=true) ?_ ?_
      ·refine a7e (s':=St.of [(1,.ptr 1 0),(3,i64 0),(4,.mp 15),(17,chs 0 t),(18,i64 t.length),(19,i64 k),(46,lns 0 t[k].lines),(47,i64 t[k].lines.length),(48,i64 0)] [(1,.box [chs 0 t]),(15,.map (.int .i64) (b4y (a9t Ch.id t (k+1))))]) (a2r [(1,some 1),(15,some 15)]) ?_
       refine a7x (by kernel_rfl) (c7m t k hG hOw hNm t[k].lines hc1 fun hb s' hs'=>⟨10,?_,?_⟩)
       ·rw [bad k hkl (by unfold b0f;rw [hb];simp)];rfl
       ·exact a1d (by simp [f4p,okN,hs',i64]) hNm
      rintro ⟨⟩ hallj
      simp only [go_sem,hG,hOw]
      (repeat' with_reducible first|refine And.intro ?_ ?_|intro _|refine exP ?_ ?_);all_goals try omega
      refine ⟨k+1,⟨by omega,?_⟩,by omega,a2r [(1,some 1),(15,some 15)]⟩
      rw [a9f _ _ _ hkl,hall]
      unfold b0f
      rw [h2,h3,h4,hallj];rfl
    ·rename_i h2 h3
     rw [bad k hkl (by unfold b0f;rw [h3];simp)];rfl
    ·rename_i h2
     rw [bad k hkl (by unfold b0f;rw [h2];rfl)];rfl
   ·rename_i hge
    rw [a1t hk hge] at hall
    refine ⟨0,?_,a1d (by (simp only [go_sem])<;>simp) hNm⟩
    unfold a1z
    rw [h1,hall];rfl
  ·rintro c rfl
   simp only [go_sem,hG,hOw]
   (repeat' with_reducible first|refine And.intro ?_ ?_|intro _|refine exP ?_ ?_);all_goals try omega
end Go.Proofs.YtmjhfccbbfpppaaGreatDoor
