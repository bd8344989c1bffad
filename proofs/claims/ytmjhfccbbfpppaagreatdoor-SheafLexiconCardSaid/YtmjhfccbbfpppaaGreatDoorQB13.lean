import Derived.Test.YtmjhfccbbfpppaaGreatDoorQB08
import Derived.Test.YtmjhfccbbfpppaaGreatDoorQB10
namespace Go.Proofs.YtmjhfccbbfpppaaGreatDoor
open Go Pm
set_option linter.unusedSimpArgs false
set_option linter.unusedVariables false
set_option maxHeartbeats 4000000
set_option maxRecDepth 100000
theorem a3a (n lo hi:Int):a0l Tryz.prog 61 [i64 n,i64 lo,i64 hi] (fun _=>bl (inB n lo hi)):=by
 unfold inB
 refine a0b (ow:=fun _=>false) Tryz.func61 Tryz.ntmps61 rfl rfl fun G hG hOw hNm hB=>?_;simp only [go_sem,hG,hOw]
 exact ⟨fun h=>by simp [h],fun h=>by simp [h]⟩
theorem b3z (s:ByteArray) (hs:s.size≤140737488355328):a0l Tryz.prog 62 [.v (.string s)] (fun _=>bl (a1f s)):=by
 refine a0b (ow:=fun _=>false) Tryz.func62 Tryz.ntmps62 rfl rfl fun G hG hOw hNm hB=>?_;simp only [go_sem,hG,hOw]
 have bad:∀ j (h:j < s.size),a1i s[j]=false→false=a1f s:=fun j h h'=>by
  unfold a1f
  rw [a4k (l:=s.data.toList) (k:=j) (by simpa using h) (by rw [b7i _ _ h];exact h')];rfl
 refine a0k (fun j:Nat=>St.of [(0,.v (.string s)),(3,i64 j)] []) (fun j=>j≤s.size∧(s.data.toList.take j).all a1i=true) (fun j=>s.size - j) 0 (by simp) (a0y (by (simp only [go_sem])<;>simp) hNm) ?_
 rintro j ⟨hj,hall⟩
 refine a0d _ _ _ ?_;simp only [go_sem,hG,hOw]
 (repeat' with_reducible first|apply And.intro|refine exP ?_ ?_|intro);all_goals try omega
 ·exact bad j (by omega) (by simp [a1i];omega)
 ·refine ⟨j+1,⟨by omega,a0u (by simp;omega) hall ?_⟩,by omega,a0y (by (simp only [go_sem])<;>simp) hNm⟩
  rw [b7i _ _ (by omega)]
  simp [a1i];omega
 ·exact bad j (by omega) (by simp [a1i];omega)
 ·rename_i hge
  refine a0a (a3a _ _ _) ?_
  simp only [go_sem,hG,hOw]
  rw [a1k (by simpa using hj) (by simpa using hge)] at hall
  unfold a1f
  rw [hall];rfl
def g8q (l:List (List ByteArray)):Prop:=l.length≤1000∧∀ r ∈ l,r.length≤1000∧∀ s ∈ r,s.size≤100000
def c1w (t:List Ch):Prop:=t.length≤1000∧∀ c ∈ t,g8q c.lines
theorem OKt.big {t:List Ch} (h:OKt t):c1w t:=⟨by have:=h.1;omega,fun c hc=>⟨by have:=(h.2 c hc).1;omega,fun r hr=>⟨by have:=((h.2 c hc).2 r hr).1;omega,fun s hs=>by have:=((h.2 c hc).2 r hr).2 s hs;omega⟩⟩⟩
theorem e7l (t:List Ch) (ht:c1w t):a0l Tryz.prog 12 [txE 0 t] (fun _=>bl (a1s t)):=by
 refine a0b (ow:=fun _=>false) Tryz.func12 Tryz.ntmps12 rfl rfl fun G hG hOw hNm hB=>?_;simp only [go_sem,hG,hOw]
 obtain ⟨ht1,ht2⟩:=ht
 refine a0a (a3a t.length 1 6) ?_
 simp only [go_sem,hG,hOw]
 (repeat' with_reducible first|apply And.intro|refine exP ?_ ?_|intro);all_goals try omega
 ·rename_i h1
  unfold a1s
  rw [h1];rfl
 ·rename_i h1
  have bad:∀ k (h:k < t.length),a9z (t.take k) t[k]=false→false=a1s t:=fun k h h'=>by
   unfold a1s
   rw [a7s h h',Bool.and_false]
  refine a0k (fun k:Nat=>St.of [(1,.ptr 1 0),(3,i64 k)] [(1,.box [chs 0 t])]) (fun k=>k≤t.length∧a2i a9z [] (t.take k)=true) (fun k=>t.length - k) 0 (by simp [a2i]) (a1m [(1,some 1)]) ?_
  rintro k ⟨hk,hall⟩
  refine a0d _ _ _ ?_;simp only [go_sem,hG,hOw]
  (repeat' with_reducible first|apply And.intro|refine exP ?_ ?_|intro);all_goals try omega
  ·rename_i hlt
   have hkl:k < t.length:=by omega
   obtain ⟨hc1,hc2⟩:=ht2 _ (List.getElem_mem hkl)
   refine a0a (a3a t[k].id 0 9999) ?_
   simp only [go_sem,hG,hOw]
   (repeat' with_reducible first|apply And.intro|refine exP ?_ ?_|intro);all_goals try omega
   ·rename_i h2
    refine a0a (a3a t[k].lines.length 1 10) ?_
    simp only [go_sem,hG,hOw]
    (repeat' with_reducible first|apply And.intro|refine exP ?_ ?_|intro);all_goals try omega
    ·rename_i h3
     exact bad k hkl (by unfold a9z;rw [h3,Bool.and_false];rfl)
    ·rename_i h3
     refine a0k (fun j:Nat=>St.of [(1,.ptr 1 0),(3,i64 k),(4,.ptr 4 0),(5,i64 j)] [(1,.box [chs 0 t]),(4,.box [i64 t[k].id,lns 0 t[k].lines])]) (fun j=>j≤k∧(t.take j).all (fun d=>!decide (d.id=t[k].id))=true) (fun j=>k - j) 0 (by simp) (a1m [(1,some 1),(4,some 4)]) ?_
     rintro j ⟨hj,hallj⟩
     refine a0d _ _ _ ?_;simp only [go_sem,hG,hOw]
     (repeat' with_reducible first|apply And.intro|refine exP ?_ ?_|intro);all_goals try omega
     ·refine a0s mixed (by kernel_rfl) ?_
      simp only [go_sem,hG,hOw]
      (repeat' with_reducible first|apply And.intro|refine exP ?_ ?_|intro);all_goals try omega
      ·rename_i hjk he
       refine bad k hkl ?_
       have:((t.take k).any fun d=>decide (d.id=t[k].id))=true:=List.any_eq_true.2 ⟨t[j],List.mem_take_iff_getElem.2 ⟨j,by omega,rfl⟩,by simp [he]⟩
       unfold a9z;rw [this];simp
      ·rename_i hjk he
       exact ⟨j+1,⟨by omega,a0u (by omega) hallj (by simp [he])⟩,by omega,a1m [(1,some 1),(4,some 4)]⟩
     ·rename_i hjk
      have hjk:j=k:=by omega
      subst hjk
      have hany:((t.take j).any fun d=>decide (d.id=t[j].id))=false:=by
       rw [List.any_eq_false]
       intro x hx
       simpa using List.all_eq_true.1 hallj x hx
      refine a0k (fun i:Nat=>St.of [(1,.ptr 1 0),(3,i64 j),(4,.ptr 4 0),(6,i64 i)] [(1,.box [chs 0 t]),(4,.box [i64 t[j].id,lns 0 t[j].lines])]) (fun i=>i≤t[j].lines.length∧(t[j].lines.take i).all b0y=true) (fun i=>t[j].lines.length - i) 0 (by simp) (a1m [(1,some 1),(4,some 4)]) ?_
      rintro i ⟨hi,halli⟩
      have badi:∀ i (h:i < t[j].lines.length),b0y t[j].lines[i]=false→false=a1s t:=fun i h h'=>bad j hkl (by unfold a9z;rw [a4k h h'];simp)
      refine a0d _ _ _ ?_;simp only [go_sem,hG,hOw]
      (repeat' with_reducible first|apply And.intro|refine exP ?_ ?_|intro);all_goals try omega
      ·rename_i hlt2
       have hil:i < t[j].lines.length:=by omega
       obtain ⟨hr1,hr2⟩:=hc2 _ (List.getElem_mem hil)
       refine a0a (a3a t[j].lines[i].length 1 10) ?_
       simp only [go_sem,hG,hOw]
       (repeat' with_reducible first|apply And.intro|refine exP ?_ ?_|intro);all_goals try omega
       ·rename_i h5
        exact badi i hil (by unfold b0y;rw [h5];rfl)
       ·rename_i h5
        refine a0k (fun w:Nat=>St.of [(1,.ptr 1 0),(3,i64 j),(4,.ptr 4 0),(6,i64 i),(7,i64 w)] [(1,.box [chs 0 t]),(4,.box [i64 t[j].id,lns 0 t[j].lines])]) (fun w=>w≤t[j].lines[i].length∧(t[j].lines[i].take w).all a1f=true) (fun w=>t[j].lines[i].length - w) 0 (by simp) (a1m [(1,some 1),(4,some 4)]) ?_
        rintro w ⟨hw,hallw⟩
        refine a0d _ _ _ ?_;simp only [go_sem,hG,hOw]
        (repeat' with_reducible first|apply And.intro|refine exP ?_ ?_|intro);all_goals try omega
        ·rename_i hlt3
         have hwl:w < t[j].lines[i].length:=by omega
         refine a0a (b3z t[j].lines[i][w] (by have:=hr2 _ (List.getElem_mem hwl);omega)) ?_
         simp only [go_sem,hG,hOw]
         (repeat' with_reducible first|apply And.intro|refine exP ?_ ?_|intro);all_goals try omega
         ·rename_i h6
          exact badi i hil (by unfold b0y;rw [a4k hwl h6,Bool.and_false])
         ·rename_i h6
          exact ⟨w+1,⟨by omega,a0u hwl hallw h6⟩,by omega,a1m [(1,some 1),(4,some 4)]⟩
        ·rename_i hge3
         rw [a1k hw hge3] at hallw
         exact ⟨i+1,⟨by omega,a0u hil halli (by unfold b0y;rw [h5,hallw];rfl)⟩,by omega,a1m [(1,some 1),(4,some 4)]⟩
      ·rename_i hge2
       rw [a1k hi hge2] at halli
       refine ⟨j+1,⟨by omega,?_⟩,by omega,a1m [(1,some 1)]⟩
       rw [a6m _ _ _ hkl,hall]
       unfold a9z
       rw [h2,h3,hany,halli];rfl
   ·rename_i h2
    exact bad k hkl (by unfold a9z;rw [h2];rfl)
  ·rename_i hge
   rw [a1k hk hge] at hall
   unfold a1s
   rw [h1,hall];rfl
theorem d2v (t:List Ch) (ht:c1w t):a0l Tryz.prog 118 [txE 0 t] (fun _=>i64 (if a1s t then 0 else 10)):=by
 refine a0b (ow:=fun _=>false) Tryz.func118 Tryz.ntmps118 rfl rfl fun G hG hOw hNm hB=>?_;simp only [go_sem,hG,hOw]
 refine a0a (e7l t ht) ?_
 simp only [go_sem,hG,hOw]
 (repeat' with_reducible first|apply And.intro|refine exP ?_ ?_|intro);all_goals try omega
 ·rename_i h;rw [h];rfl
 ·rename_i h;rw [h];rfl
end Go.Proofs.YtmjhfccbbfpppaaGreatDoor
