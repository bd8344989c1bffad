import Derived.Test.YtmjhfccbbfpppaaGreatDoorQA08
import Derived.Test.YtmjhfccbbfpppaaGreatDoorQA11
namespace Go.Proofs.YtmjhfccbbfpppaaGreatDoor
open Go Pm
set_option linter.unusedSimpArgs false
set_option linter.unusedVariables false
set_option maxHeartbeats 4000000
set_option maxRecDepth 100000
theorem a6i (n lo hi:Int):a0l Tryz.prog 61 [i64 n,i64 lo,i64 hi] (fun _=>bl (inB n lo hi)):=by
 unfold inB
 refine a0b (ow:=fun _=>false) Tryz.func61 Tryz.ntmps61 rfl rfl fun G hG hOw hNm hB=>?_;simp only [go_sem,hG,hOw]
 exact ⟨fun h=>by simp [h],fun h=>by simp [h]⟩
theorem f3u (s:ByteArray) (hs:s.size≤140737488355328):a0l Tryz.prog 62 [.v (.string s)] (fun _=>bl (a1b s)):=by
 refine a0b (ow:=fun _=>false) Tryz.func62 Tryz.ntmps62 rfl rfl fun G hG hOw hNm hB=>?_;simp only [go_sem,hG,hOw]
 have bad:∀ j (h:j < s.size),a1p s[j]=false→false=a1b s:=fun j h h'=>by
  unfold a1b
  rw [a4x (l:=s.data.toList) (k:=j) (by simpa using h) (by rw [c6d _ _ h];exact h')];rfl
 refine a0i (fun j:Nat=>St.of [(0,.v (.string s)),(3,i64 j)] []) (fun j=>j≤s.size∧(s.data.toList.take j).all a1p=true) (fun j=>s.size - j) 0 (by simp) (a1e (by (simp only [go_sem])<;>simp) hNm) ?_
 rintro j ⟨hj,hall⟩
 refine a0d _ _ _ ?_;simp only [go_sem,hG,hOw]
 (repeat' with_reducible first|refine And.intro ?_ ?_|intro _|refine exP ?_ ?_);all_goals try omega
 ·exact bad j (by omega) (by simp [a1p];omega)
 ·refine ⟨j+1,⟨by omega,a0v (by simp;omega) hall ?_⟩,by omega,a1e (by (simp only [go_sem])<;>simp) hNm⟩
  rw [c6d _ _ (by omega)]
  simp [a1p];omega
 ·exact bad j (by omega) (by simp [a1p];omega)
 ·rename_i hge
  refine a0a (a6i _ _ _) ?_
  simp only [go_sem,hG,hOw]
  rw [a1t (by simpa using hj) (by simpa using hge)] at hall
  unfold a1b
  rw [hall];rfl
def g5r (l:List (List ByteArray)):Prop:=l.length≤1000∧∀ r ∈ l,r.length≤1000∧∀ s ∈ r,s.size≤100000
def e5h (t:List Ch):Prop:=t.length≤1000∧∀ c ∈ t,g5r c.lines
theorem OKt.big {t:List Ch} (h:OKt t):e5h t:=⟨by have:=h.1;omega,fun c hc=>⟨by have:=(h.2 c hc).1;omega,fun r hr=>⟨by have:=((h.2 c hc).2 r hr).1;omega,fun s hs=>by have:=((h.2 c hc).2 r hr).2 s hs;omega⟩⟩⟩
theorem e6w (t:List Ch) (ht:e5h t):a0l Tryz.prog 12 [txE 0 t] (fun _=>bl (a1r t)):=by
 refine a0b (ow:=fun _=>false) Tryz.func12 Tryz.ntmps12 rfl rfl fun G hG hOw hNm hB=>?_;simp only [go_sem,hG,hOw]
 obtain ⟨ht1,ht2⟩:=ht
 refine a0a (a6i t.length 1 6) ?_
 simp only [go_sem,hG,hOw]
 (repeat' with_reducible first|refine And.intro ?_ ?_|intro _|refine exP ?_ ?_);all_goals try omega
 ·rename_i h1
  unfold a1r
  rw [h1];rfl
 ·rename_i h1
  have bad:∀ k (h:k < t.length),a8n (t.take k) t[k]=false→false=a1r t:=fun k h h'=>by
   unfold a1r
   rw [a9u h h',Bool.and_false]
  refine a0i (fun k:Nat=>St.of [(1,.ptr 1 0),(3,i64 k)] [(1,.box [chs 0 t])]) (fun k=>k≤t.length∧a3g a8n [] (t.take k)=true) (fun k=>t.length - k) 0 (by simp [a3g]) (a1m [(1,some 1)]) ?_
  rintro k ⟨hk,hall⟩
  refine a0d _ _ _ ?_;simp only [go_sem,hG,hOw]
  (repeat' with_reducible first|refine And.intro ?_ ?_|intro _|refine exP ?_ ?_);all_goals try omega
  ·rename_i hlt
   have hkl:k < t.length:=by omega
   obtain ⟨hc1,hc2⟩:=ht2 _ (List.getElem_mem hkl)
   refine a0a (a6i t[k].id 0 9999) ?_
   simp only [go_sem,hG,hOw]
   (repeat' with_reducible first|refine And.intro ?_ ?_|intro _|refine exP ?_ ?_);all_goals try omega
   ·rename_i h2
    refine a0a (a6i t[k].lines.length 1 10) ?_
    simp only [go_sem,hG,hOw]
    (repeat' with_reducible first|refine And.intro ?_ ?_|intro _|refine exP ?_ ?_);all_goals try omega
    ·rename_i h3
     exact bad k hkl (by unfold a8n;rw [h3,Bool.and_false];rfl)
    ·rename_i h3
     refine a0i (fun j:Nat=>St.of [(1,.ptr 1 0),(3,i64 k),(4,.ptr 4 0),(5,i64 j)] [(1,.box [chs 0 t]),(4,.box [i64 t[k].id,lns 0 t[k].lines])]) (fun j=>j≤k∧(t.take j).all (fun d=>!decide (d.id=t[k].id))=true) (fun j=>k - j) 0 (by simp) (a1m [(1,some 1),(4,some 4)]) ?_
     rintro j ⟨hj,hallj⟩
     refine a0d _ _ _ ?_;simp only [go_sem,hG,hOw]
     (repeat' with_reducible first|refine And.intro ?_ ?_|intro _|refine exP ?_ ?_);all_goals try omega
     ·refine a0r mixed (by kernel_rfl) ?_
      simp only [go_sem,hG,hOw]
      (repeat' with_reducible first|refine And.intro ?_ ?_|intro _|refine exP ?_ ?_);all_goals try omega
      ·rename_i hjk he
       refine bad k hkl ?_
       have:((t.take k).any fun d=>decide (d.id=t[k].id))=true:=List.any_eq_true.2 ⟨t[j],List.mem_take_iff_getElem.2 ⟨j,by omega,rfl⟩,by simp [he]⟩
       unfold a8n;rw [this];simp
      ·rename_i hjk he
       exact ⟨j+1,⟨by omega,a0v (by omega) hallj (by simp [he])⟩,by omega,a1m [(1,some 1),(4,some 4)]⟩
     ·rename_i hjk
      have hjk:j=k:=by omega
      subst hjk
      have hany:((t.take j).any fun d=>decide (d.id=t[j].id))=false:=by
       rw [List.any_eq_false]
       intro x hx
       simpa using List.all_eq_true.1 hallj x hx
      refine a0i (fun i:Nat=>St.of [(1,.ptr 1 0),(3,i64 j),(4,.ptr 4 0),(6,i64 i)] [(1,.box [chs 0 t]),(4,.box [i64 t[j].id,lns 0 t[j].lines])]) (fun i=>i≤t[j].lines.length∧(t[j].lines.take i).all a8f=true) (fun i=>t[j].lines.length - i) 0 (by simp) (a1m [(1,some 1),(4,some 4)]) ?_
      rintro i ⟨hi,halli⟩
      have badi:∀ i (h:i < t[j].lines.length),a8f t[j].lines[i]=false→false=a1r t:=fun i h h'=>bad j hkl (by unfold a8n;rw [a4x h h'];simp)
      refine a0d _ _ _ ?_;simp only [go_sem,hG,hOw]
      (repeat' with_reducible first|refine And.intro ?_ ?_|intro _|refine exP ?_ ?_);all_goals try omega
      ·rename_i hlt2
       have hil:i < t[j].lines.length:=by omega
       obtain ⟨hr1,hr2⟩:=hc2 _ (List.getElem_mem hil)
       refine a0a (a6i t[j].lines[i].length 1 10) ?_
       simp only [go_sem,hG,hOw]
       (repeat' with_reducible first|refine And.intro ?_ ?_|intro _|refine exP ?_ ?_);all_goals try omega
       ·rename_i h5
        exact badi i hil (by unfold a8f;rw [h5];rfl)
       ·rename_i h5
        refine a0i (fun w:Nat=>St.of [(1,.ptr 1 0),(3,i64 j),(4,.ptr 4 0),(6,i64 i),(7,i64 w)] [(1,.box [chs 0 t]),(4,.box [i64 t[j].id,lns 0 t[j].lines])]) (fun w=>w≤t[j].lines[i].length∧(t[j].lines[i].take w).all a1b=true) (fun w=>t[j].lines[i].length - w) 0 (by simp) (a1m [(1,some 1),(4,some 4)]) ?_
        rintro w ⟨hw,hallw⟩
        refine a0d _ _ _ ?_;simp only [go_sem,hG,hOw]
        (repeat' with_reducible first|refine And.intro ?_ ?_|intro _|refine exP ?_ ?_);all_goals try omega
        ·rename_i hlt3
         have hwl:w < t[j].lines[i].length:=by omega
         refine a0a (f3u t[j].lines[i][w] (by have:=hr2 _ (List.getElem_mem hwl);omega)) ?_
         simp only [go_sem,hG,hOw]
         (repeat' with_reducible first|refine And.intro ?_ ?_|intro _|refine exP ?_ ?_);all_goals try omega
         ·rename_i h6
          exact badi i hil (by unfold a8f;rw [a4x hwl h6,Bool.and_false])
         ·rename_i h6
          exact ⟨w+1,⟨by omega,a0v hwl hallw h6⟩,by omega,a1m [(1,some 1),(4,some 4)]⟩
        ·rename_i hge3
         rw [a1t hw hge3] at hallw
         exact ⟨i+1,⟨by omega,a0v hil halli (by unfold a8f;rw [h5,hallw];rfl)⟩,by omega,a1m [(1,some 1),(4,some 4)]⟩
      ·rename_i hge2
       rw [a1t hi hge2] at halli
       refine ⟨j+1,⟨by omega,?_⟩,by omega,a1m [(1,some 1)]⟩
       rw [a7x _ _ _ hkl,hall]
       unfold a8n
       rw [h2,h3,hany,halli];rfl
   ·rename_i h2
    exact bad k hkl (by unfold a8n;rw [h2];rfl)
  ·rename_i hge
   rw [a1t hk hge] at hall
   unfold a1r
   rw [h1,hall];rfl
theorem f5z (t:List Ch) (ht:OKt t):a0l Tryz.prog 12 [txE 0 t] (fun _=>bl (a1r t)):=e6w t ht.big
end Go.Proofs.YtmjhfccbbfpppaaGreatDoor
