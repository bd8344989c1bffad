import Derived.Test.YtmjhfccbbfpppaaGreatDoorQW10
import Derived.Test.YtmjhfccbbfpppaaGreatDoorQW15
namespace Go.Proofs.YtmjhfccbbfpppaaGreatDoor
open Go Pm
set_option linter.unusedSimpArgs false
set_option linter.unusedVariables false
set_option maxHeartbeats 4000000
set_option maxRecDepth 100000
theorem b2v {α:Type} {p:α→Bool} {l:List α} {k:Nat} (hk:k < l.length) (h:p l[k]=true):l.any p=true:=List.any_eq_true.2 ⟨l[k],List.getElem_mem hk,h⟩
theorem b2o {α:Type} {p:α→Bool} {l:List α} (h:l.all (fun x=>!p x)=true):l.any p=false:=List.any_eq_false.2 fun x hx=>by simpa using List.all_eq_true.1 h x hx
theorem d5f (t:List Ch):a0p Tryz.prog 10 [txE 0 t] (fun _=>bl (b3q t)):=by
 refine a0c (ow:=fun _=>false) Tryz.func10 Tryz.ntmps10 rfl rfl fun G hG hOw hNm hB=>?_;simp only [go_sem,hG,hOw]
 have hb:t.length≤140737488355328∧∀ c ∈ t,c.lines.length≤140737488355328∧∀ r ∈ c.lines,r.length≤140737488355328:=f3d (f3o (hB (txE 0 t) (by simp)) (chs 0 t) (by simp))
 obtain ⟨hb1,hb2⟩:=hb
 (repeat' with_reducible first|refine And.intro ?_ ?_|intro _|refine exP ?_ ?_);all_goals try omega
 ·rename_i h;simp [b3q];omega
 ·rename_i h0
  refine a0n (fun k:Nat=>St.of [(1,.ptr 1 0),(3,i64 k)] [(1,.box [chs 0 t])]) (fun k=>k≤t.length∧(t.take k).all (fun x=>!b5i x)=true) (fun k=>t.length - k) 0 (by simp) (a2r [(1,some 1)]) ?_
  rintro k ⟨hk,hall⟩
  refine a0g _ _ _ ?_;simp only [go_sem,hG,hOw]
  (repeat' with_reducible first|refine And.intro ?_ ?_|intro _|refine exP ?_ ?_);all_goals try omega
  ·rename_i hlt h1
   have hkl:k < t.length:=by omega
   rw [b3q,b2v hkl (by simp [b5i];omega)];simp
  ·rename_i hlt h1
   have hkl:k < t.length:=by omega
   obtain ⟨hc1,hc2⟩:=hb2 _ (List.getElem_mem hkl)
   have bad:b5i t[k]=true→true=b3q t:=fun h=>by rw [b3q,b2v hkl h];simp
   refine a0n (fun j:Nat=>St.of [(1,.ptr 1 0),(3,i64 k),(4,i64 j)] [(1,.box [chs 0 t])]) (fun j=>j≤t[k].lines.length∧(t[k].lines.take j).all (fun x=>!b5h x)=true) (fun j=>t[k].lines.length - j) 0 (by simp) (a2r [(1,some 1)]) ?_
   rintro j ⟨hj,hallj⟩
   refine a0g _ _ _ ?_;simp only [go_sem,hG,hOw]
   (repeat' with_reducible first|refine And.intro ?_ ?_|intro _|refine exP ?_ ?_);all_goals try omega
   ·rename_i hlt2 h2
    have hjl:j < t[k].lines.length:=by omega
    exact bad (by rw [b5i,b2v hjl (by simp [b5h];omega)];simp)
   ·rename_i hlt2 h2
    have hjl:j < t[k].lines.length:=by omega
    have hr1:=hc2 _ (List.getElem_mem hjl)
    refine a0n (fun w:Nat=>St.of [(1,.ptr 1 0),(3,i64 k),(4,i64 j),(5,i64 w)] [(1,.box [chs 0 t])]) (fun w=>w≤t[k].lines[j].length∧(t[k].lines[j].take w).all (fun s=>!decide (40 < (s.size:Int)))=true) (fun w=>t[k].lines[j].length - w) 0 (by simp) (a2r [(1,some 1)]) ?_
    rintro w ⟨hw,hallw⟩
    refine a0g _ _ _ ?_;simp only [go_sem,hG,hOw]
    (repeat' with_reducible first|refine And.intro ?_ ?_|intro _|refine exP ?_ ?_);all_goals try omega
    ·rename_i hlt3 h3
     have hwl:w < t[k].lines[j].length:=by omega
     exact bad (by rw [b5i,b2v hjl (by rw [b5h,b2v hwl (by simp;omega)];simp)];simp)
    ·rename_i hlt3 h3
     exact ⟨w+1,⟨by omega,a0u (by omega) hallw (by simp;omega)⟩,by omega,a2r [(1,some 1)]⟩
    ·rename_i hge3
     rw [a1t hw hge3] at hallw
     exact ⟨j+1,⟨by omega,a0u hjl hallj (by rw [b5h,b2o hallw];simp;omega)⟩,by omega,a2r [(1,some 1)]⟩
   ·rename_i hge2
    rw [a1t hj hge2] at hallj
    exact ⟨k+1,⟨by omega,a0u hkl hall (by rw [b5i,b2o hallj];simp;omega)⟩,by omega,a2r [(1,some 1)]⟩
  ·rename_i hge
   rw [a1t hk hge] at hall
   rw [b3q,b2o hall];simp;omega
end Go.Proofs.YtmjhfccbbfpppaaGreatDoor
