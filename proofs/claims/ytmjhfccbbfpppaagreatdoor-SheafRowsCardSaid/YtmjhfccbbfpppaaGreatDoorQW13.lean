import Derived.Test.YtmjhfccbbfpppaaGreatDoorQW08
import Derived.Test.YtmjhfccbbfpppaaGreatDoorQW10
namespace Go.Proofs.YtmjhfccbbfpppaaGreatDoor
open Go Pm
set_option linter.unusedSimpArgs false
set_option linter.unusedVariables false
set_option maxHeartbeats 4000000
set_option maxRecDepth 100000
theorem a7s (n lo hi:Int):a0p Tryz.prog 61 [i64 n,i64 lo,i64 hi] (fun _=>bl (inB n lo hi)):=by
 unfold inB
 refine a0c (ow:=fun _=>false) Tryz.func61 Tryz.ntmps61 rfl rfl fun G hG hOw hNm hB=>?_;simp only [go_sem,hG,hOw]
 exact ⟨fun h=>by simp [h],fun h=>by simp [h]⟩
theorem f4t (s:ByteArray) (hs:s.size≤140737488355328):a0p Tryz.prog 62 [.v (.string s)] (fun _=>bl (a1i s)):=by
 refine a0c (ow:=fun _=>false) Tryz.func62 Tryz.ntmps62 rfl rfl fun G hG hOw hNm hB=>?_;simp only [go_sem,hG,hOw]
 have bad:∀ j (h:j < s.size),a1x s[j]=false→false=a1i s:=fun j h h'=>by
  unfold a1i
  rw [a4l (l:=s.data.toList) (k:=j) (by simpa using h) (by rw [b8o _ _ h];exact h')];rfl
 refine a0n (fun j:Nat=>St.of [(0,.v (.string s)),(3,i64 j)] []) (fun j=>j≤s.size∧(s.data.toList.take j).all a1x=true) (fun j=>s.size - j) 0 (by simp) (a1d (by (simp only [go_sem])<;>simp) hNm) ?_
 rintro j ⟨hj,hall⟩
 refine a0g _ _ _ ?_;simp only [go_sem,hG,hOw]
 (repeat' with_reducible first|refine And.intro ?_ ?_|intro _|refine exP ?_ ?_);all_goals try omega
 ·exact bad j (by omega) (by simp [a1x];omega)
 ·refine ⟨j+1,⟨by omega,a0u (by simp;omega) hall ?_⟩,by omega,a1d (by (simp only [go_sem])<;>simp) hNm⟩
  rw [b8o _ _ (by omega)]
  simp [a1x];omega
 ·exact bad j (by omega) (by simp [a1x];omega)
 ·rename_i hge
  refine a0a (a7s _ _ _) ?_
  simp only [go_sem,hG,hOw]
  rw [a1t (by simpa using hj) (by simpa using hge)] at hall
  unfold a1i
  rw [hall];rfl
def g7l (l:List (List ByteArray)):Prop:=l.length≤1000∧∀ r ∈ l,r.length≤1000∧∀ s ∈ r,s.size≤100000
def e8z (t:List Ch):Prop:=t.length≤1000∧∀ c ∈ t,g7l c.lines
theorem OKt.big {t:List Ch} (h:OKt t):e8z t:=⟨by have:=h.1;omega,fun c hc=>⟨by have:=(h.2 c hc).1;omega,fun r hr=>⟨by have:=((h.2 c hc).2 r hr).1;omega,fun s hs=>by have:=((h.2 c hc).2 r hr).2 s hs;omega⟩⟩⟩
theorem e6m (t:List Ch) (ht:e8z t):a0p Tryz.prog 12 [txE 0 t] (fun _=>bl (a1z t)):=by
 refine a0c (ow:=fun _=>false) Tryz.func12 Tryz.ntmps12 rfl rfl fun G hG hOw hNm hB=>?_;simp only [go_sem,hG,hOw]
 obtain ⟨ht1,ht2⟩:=ht
 refine a0a (a7s t.length 1 6) ?_
 simp only [go_sem,hG,hOw]
 (repeat' with_reducible first|refine And.intro ?_ ?_|intro _|refine exP ?_ ?_);all_goals try omega
 ·rename_i h1
  unfold a1z
  rw [h1];rfl
 ·rename_i h1
  have bad:∀ k (h:k < t.length),b0f (t.take k) t[k]=false→false=a1z t:=fun k h h'=>by
   unfold a1z
   rw [b4z h h',Bool.and_false]
  refine a0n (fun k:Nat=>St.of [(1,.ptr 1 0),(3,i64 k)] [(1,.box [chs 0 t])]) (fun k=>k≤t.length∧a4b b0f [] (t.take k)=true) (fun k=>t.length - k) 0 (by simp [a4b]) (a2r [(1,some 1)]) ?_
  rintro k ⟨hk,hall⟩
  refine a0g _ _ _ ?_;simp only [go_sem,hG,hOw]
  (repeat' with_reducible first|refine And.intro ?_ ?_|intro _|refine exP ?_ ?_);all_goals try omega
  ·rename_i hlt
   have hkl:k < t.length:=by omega
   obtain ⟨hc1,hc2⟩:=ht2 _ (List.getElem_mem hkl)
   refine a0a (a7s t[k].id 0 9999) ?_
   simp only [go_sem,hG,hOw]
   (repeat' with_reducible first|refine And.intro ?_ ?_|intro _|refine exP ?_ ?_);all_goals try omega
   ·rename_i h2
    refine a0a (a7s t[k].lines.length 1 10) ?_
    simp only [go_sem,hG,hOw]
    (repeat' with_reducible first|refine And.intro ?_ ?_|intro _|refine exP ?_ ?_);all_goals try omega
    ·rename_i h3
     exact bad k hkl (by unfold b0f;rw [h3,Bool.and_false];rfl)
    ·rename_i h3
     refine a0n (fun j:Nat=>St.of [(1,.ptr 1 0),(3,i64 k),(4,.ptr 4 0),(5,i64 j)] [(1,.box [chs 0 t]),(4,.box [i64 t[k].id,lns 0 t[k].lines])]) (fun j=>j≤k∧(t.take j).all (fun d=>!decide (d.id=t[k].id))=true) (fun j=>k - j) 0 (by simp) (a2r [(1,some 1),(4,some 4)]) ?_
     rintro j ⟨hj,hallj⟩
     refine a0g _ _ _ ?_;simp only [go_sem,hG,hOw]
     (repeat' with_reducible first|refine And.intro ?_ ?_|intro _|refine exP ?_ ?_);all_goals try omega
     ·refine a1a mixed (by kernel_rfl) ?_
      simp only [go_sem,hG,hOw]
      (repeat' with_reducible first|refine And.intro ?_ ?_|intro _|refine exP ?_ ?_);all_goals try omega
      ·rename_i hjk he
       refine bad k hkl ?_
       have:((t.take k).any fun d=>decide (d.id=t[k].id))=true:=List.any_eq_true.2 ⟨t[j],List.mem_take_iff_getElem.2 ⟨j,by omega,rfl⟩,by simp [he]⟩
       unfold b0f;rw [this];simp
      ·rename_i hjk he
       exact ⟨j+1,⟨by omega,a0u (by omega) hallj (by simp [he])⟩,by omega,a2r [(1,some 1),(4,some 4)]⟩
     ·rename_i hjk
      have hjk:j=k:=by omega
      subst hjk
      have hany:((t.take j).any fun d=>decide (d.id=t[j].id))=false:=by
       rw [List.any_eq_false]
       intro x hx
       simpa using List.all_eq_true.1 hallj x hx
      refine a0n (fun i:Nat=>St.of [(1,.ptr 1 0),(3,i64 j),(4,.ptr 4 0),(6,i64 i)] [(1,.box [chs 0 t]),(4,.box [i64 t[j].id,lns 0 t[j].lines])]) (fun i=>i≤t[j].lines.length∧(t[j].lines.take i).all b1o=true) (fun i=>t[j].lines.length - i) 0 (by simp) (a2r [(1,some 1),(4,some 4)]) ?_
      rintro i ⟨hi,halli⟩
      have badi:∀ i (h:i < t[j].lines.length),b1o t[j].lines[i]=false→false=a1z t:=fun i h h'=>bad j hkl (by unfold b0f;rw [a4l h h'];simp)
      refine a0g _ _ _ ?_;simp only [go_sem,hG,hOw]
      (repeat' with_reducible first|refine And.intro ?_ ?_|intro _|refine exP ?_ ?_);all_goals try omega
      ·rename_i hlt2
       have hil:i < t[j].lines.length:=by omega
       obtain ⟨hr1,hr2⟩:=hc2 _ (List.getElem_mem hil)
       refine a0a (a7s t[j].lines[i].length 1 10) ?_
       simp only [go_sem,hG,hOw]
       (repeat' with_reducible first|refine And.intro ?_ ?_|intro _|refine exP ?_ ?_);all_goals try omega
       ·rename_i h5
        exact badi i hil (by unfold b1o;rw [h5];rfl)
       ·rename_i h5
        refine a0n (fun w:Nat=>St.of [(1,.ptr 1 0),(3,i64 j),(4,.ptr 4 0),(6,i64 i),(7,i64 w)] [(1,.box [chs 0 t]),(4,.box [i64 t[j].id,lns 0 t[j].lines])]) (fun w=>w≤t[j].lines[i].length∧(t[j].lines[i].take w).all a1i=true) (fun w=>t[j].lines[i].length - w) 0 (by simp) (a2r [(1,some 1),(4,some 4)]) ?_
        rintro w ⟨hw,hallw⟩
        refine a0g _ _ _ ?_;simp only [go_sem,hG,hOw]
        (repeat' with_reducible first|refine And.intro ?_ ?_|intro _|refine exP ?_ ?_);all_goals try omega
        ·rename_i hlt3
         have hwl:w < t[j].lines[i].length:=by omega
         refine a0a (f4t t[j].lines[i][w] (by have:=hr2 _ (List.getElem_mem hwl);omega)) ?_
         simp only [go_sem,hG,hOw]
         (repeat' with_reducible first|refine And.intro ?_ ?_|intro _|refine exP ?_ ?_);all_goals try omega
         ·rename_i h6
          exact badi i hil (by unfold b1o;rw [a4l hwl h6,Bool.and_false])
         ·rename_i h6
          exact ⟨w+1,⟨by omega,a0u hwl hallw h6⟩,by omega,a2r [(1,some 1),(4,some 4)]⟩
        ·rename_i hge3
         rw [a1t hw hge3] at hallw
         exact ⟨i+1,⟨by omega,a0u hil halli (by unfold b1o;rw [h5,hallw];rfl)⟩,by omega,a2r [(1,some 1),(4,some 4)]⟩
      ·rename_i hge2
       rw [a1t hi hge2] at halli
       refine ⟨j+1,⟨by omega,?_⟩,by omega,a2r [(1,some 1)]⟩
       rw [a9f _ _ _ hkl,hall]
       unfold b0f
       rw [h2,h3,hany,halli];rfl
   ·rename_i h2
    exact bad k hkl (by unfold b0f;rw [h2];rfl)
  ·rename_i hge
   rw [a1t hk hge] at hall
   unfold a1z
   rw [h1,hall];rfl
theorem f4x (t:List Ch) (ht:OKt t):a0p Tryz.prog 12 [txE 0 t] (fun _=>bl (a1z t)):=e6m t ht.big
end Go.Proofs.YtmjhfccbbfpppaaGreatDoor
