import Derived.Test.YtmjhfccbbfpppaaGreatDoorQZ10
import Derived.Test.YtmjhfccbbfpppaaGreatDoorQZ15
namespace Go.Proofs.YtmjhfccbbfpppaaGreatDoor
open Go Pm
set_option linter.unusedSimpArgs false
set_option linter.unusedVariables false
set_option maxHeartbeats 4000000
set_option maxRecDepth 100000
theorem b0r {α:Type} {p:α→Bool} {l:List α} {k:Nat} (hk:k < l.length) (h:p l[k]=true):l.any p=true:=List.any_eq_true.2 ⟨l[k],List.getElem_mem hk,h⟩
theorem b0e {α:Type} {p:α→Bool} {l:List α} (h:l.all (fun x=>!p x)=true):l.any p=false:=List.any_eq_false.2 fun x hx=>by simpa using List.all_eq_true.1 h x hx
theorem b8g (t:List Ch):a0n Tryz.prog 10 [txE 0 t] (fun _=>bl (a9t t)):=by
 refine a0b (ow:=fun _=>false) Tryz.func10 Tryz.ntmps10 rfl rfl fun G hG hOw hNm hB=>?_;simp only [go_sem,hG,hOw]
 have hb:t.length≤140737488355328∧∀ c ∈ t,c.lines.length≤140737488355328∧∀ r ∈ c.lines,r.length≤140737488355328:=e8i (e9f (hB (txE 0 t) (by simp)) (chs 0 t) (by simp))
 obtain ⟨hb1,hb2⟩:=hb
 (repeat' with_reducible first|refine And.intro ?_ ?_|intro _|refine exP ?_ ?_);all_goals try omega
 ·rename_i h;simp [a9t];omega
 ·rename_i h0
  refine a0m (fun k:Nat=>St.of [(1,.ptr 1 0),(3,i64 k)] [(1,.box [chs 0 t])]) (fun k=>k≤t.length∧(t.take k).all (fun x=>!b3a x)=true) (fun k=>t.length - k) 0 (by simp) (a2d [(1,some 1)]) ?_
  rintro k ⟨hk,hall⟩
  refine a0d _ _ _ ?_;simp only [go_sem,hG,hOw]
  (repeat' with_reducible first|refine And.intro ?_ ?_|intro _|refine exP ?_ ?_);all_goals try omega
  ·rename_i hlt h1
   have hkl:k < t.length:=by omega
   rw [a9t,b0r hkl (by simp [b3a];omega)];simp
  ·rename_i hlt h1
   have hkl:k < t.length:=by omega
   obtain ⟨hc1,hc2⟩:=hb2 _ (List.getElem_mem hkl)
   have bad:b3a t[k]=true→true=a9t t:=fun h=>by rw [a9t,b0r hkl h];simp
   refine a0m (fun j:Nat=>St.of [(1,.ptr 1 0),(3,i64 k),(4,i64 j)] [(1,.box [chs 0 t])]) (fun j=>j≤t[k].lines.length∧(t[k].lines.take j).all (fun x=>!b2r x)=true) (fun j=>t[k].lines.length - j) 0 (by simp) (a2d [(1,some 1)]) ?_
   rintro j ⟨hj,hallj⟩
   refine a0d _ _ _ ?_;simp only [go_sem,hG,hOw]
   (repeat' with_reducible first|refine And.intro ?_ ?_|intro _|refine exP ?_ ?_);all_goals try omega
   ·rename_i hlt2 h2
    have hjl:j < t[k].lines.length:=by omega
    exact bad (by rw [b3a,b0r hjl (by simp [b2r];omega)];simp)
   ·rename_i hlt2 h2
    have hjl:j < t[k].lines.length:=by omega
    have hr1:=hc2 _ (List.getElem_mem hjl)
    refine a0m (fun w:Nat=>St.of [(1,.ptr 1 0),(3,i64 k),(4,i64 j),(5,i64 w)] [(1,.box [chs 0 t])]) (fun w=>w≤t[k].lines[j].length∧(t[k].lines[j].take w).all (fun s=>!decide (40 < (s.size:Int)))=true) (fun w=>t[k].lines[j].length - w) 0 (by simp) (a2d [(1,some 1)]) ?_
    rintro w ⟨hw,hallw⟩
    refine a0d _ _ _ ?_;simp only [go_sem,hG,hOw]
    (repeat' with_reducible first|refine And.intro ?_ ?_|intro _|refine exP ?_ ?_);all_goals try omega
    ·rename_i hlt3 h3
     have hwl:w < t[k].lines[j].length:=by omega
     exact bad (by rw [b3a,b0r hjl (by rw [b2r,b0r hwl (by simp;omega)];simp)];simp)
    ·rename_i hlt3 h3
     exact ⟨w+1,⟨by omega,a0v (by omega) hallw (by simp;omega)⟩,by omega,a2d [(1,some 1)]⟩
    ·rename_i hge3
     rw [a1c hw hge3] at hallw
     exact ⟨j+1,⟨by omega,a0v hjl hallj (by rw [b2r,b0e hallw];simp;omega)⟩,by omega,a2d [(1,some 1)]⟩
   ·rename_i hge2
    rw [a1c hj hge2] at hallj
    exact ⟨k+1,⟨by omega,a0v hkl hall (by rw [b3a,b0e hallj];simp;omega)⟩,by omega,a2d [(1,some 1)]⟩
  ·rename_i hge
   rw [a1c hk hge] at hall
   rw [a9t,b0e hall];simp;omega
theorem c2k (l m:List ByteArray):a0n Tryz.prog 26 [a0p 0 l,a0p 0 m] (fun _=>bl (decide (l=m))):=by
 refine a0b (ow:=fun _=>false) Tryz.func26 Tryz.ntmps26 rfl rfl fun G hG hOw hNm hB=>?_;simp only [go_sem,hG,hOw]
 have hl:=b2l (lo:=0) (l:=l) hB (by simp)
 refine ⟨fun h=>?_,fun h=>?_⟩
 ·rw [decide_eq_false]
  rintro rfl
  simp at h
 have hlen:l.length=m.length:=by omega
 refine a0m (fun k:Nat=>St.of [(0,a0p 0 l),(1,a0p 0 m),(5,i64 k)] []) (fun k=>k≤l.length∧l.take k=m.take k) (fun k=>l.length - k) 0 (by simp) (a1e (by (simp only [go_sem])<;>simp) hNm) ?_
 rintro k ⟨hk,hall⟩
 refine a0d _ _ _ ?_;simp only [go_sem,hG,hOw]
 refine ⟨fun hlt=>?_,fun hge=>?_⟩
 ·refine a0s mixed (by kernel_rfl) ?_
  simp only [go_sem,hG,hOw]
  refine ⟨by omega,by omega,fun h1=>?_,fun h1=>⟨(by first|omega|(simp;omega)),k+1,⟨by omega,?_⟩,by omega,a1e (by (simp only [go_sem])<;>simp) hNm⟩⟩
  ·rw [decide_eq_false]
   rintro rfl
   simp at h1
  ·have e:l[k]=m[k]:=by simpa using h1
   rw [List.take_add_one,List.take_add_one,hall,List.getElem?_eq_getElem (by omega),List.getElem?_eq_getElem (by omega),e]
 ·rw [a1c hk hge,a1c (by omega) (by omega)] at hall
  rw [hall];simp
end Go.Proofs.YtmjhfccbbfpppaaGreatDoor
