import Derived.Test.YtmjhfccbbfpppaaGreatDoorQB10
import Derived.Test.YtmjhfccbbfpppaaGreatDoorQB17
namespace Go.Proofs.YtmjhfccbbfpppaaGreatDoor
open Go Pm
set_option linter.unusedSimpArgs false
set_option linter.unusedVariables false
set_option maxHeartbeats 4000000
set_option maxRecDepth 100000
theorem a8b {α:Type} {p:α→Bool} {l:List α} {k:Nat} (hk:k < l.length) (h:p l[k]=true):l.any p=true:=List.any_eq_true.2 ⟨l[k],List.getElem_mem hk,h⟩
theorem b1n {α:Type} {p:α→Bool} {l:List α} (h:l.all (fun x=>!p x)=true):l.any p=false:=List.any_eq_false.2 fun x hx=>by simpa using List.all_eq_true.1 h x hx
theorem d5k (t:List Ch):a0l Tryz.prog 10 [txE 0 t] (fun _=>bl (b2b t)):=by
 refine a0b (ow:=fun _=>false) Tryz.func10 Tryz.ntmps10 rfl rfl fun G hG hOw hNm hB=>?_;simp only [go_sem,hG,hOw]
 have hb:t.length≤140737488355328∧∀ c ∈ t,c.lines.length≤140737488355328∧∀ r ∈ c.lines,r.length≤140737488355328:=f3a (f3f (hB (txE 0 t) (by simp)) (chs 0 t) (by simp))
 obtain ⟨hb1,hb2⟩:=hb
 (repeat' with_reducible first|apply And.intro|refine exP ?_ ?_|intro);all_goals try omega
 ·rename_i h;simp [b2b];omega
 ·rename_i h0
  refine a0k (fun k:Nat=>St.of [(1,.ptr 1 0),(3,i64 k)] [(1,.box [chs 0 t])]) (fun k=>k≤t.length∧(t.take k).all (fun x=>!b4h x)=true) (fun k=>t.length - k) 0 (by simp) (a1m [(1,some 1)]) ?_
  rintro k ⟨hk,hall⟩
  refine a0d _ _ _ ?_;simp only [go_sem,hG,hOw]
  (repeat' with_reducible first|apply And.intro|refine exP ?_ ?_|intro);all_goals try omega
  ·rename_i hlt h1
   have hkl:k < t.length:=by omega
   rw [b2b,a8b hkl (by simp [b4h];omega)];simp
  ·rename_i hlt h1
   have hkl:k < t.length:=by omega
   obtain ⟨hc1,hc2⟩:=hb2 _ (List.getElem_mem hkl)
   have bad:b4h t[k]=true→true=b2b t:=fun h=>by rw [b2b,a8b hkl h];simp
   refine a0k (fun j:Nat=>St.of [(1,.ptr 1 0),(3,i64 k),(4,i64 j)] [(1,.box [chs 0 t])]) (fun j=>j≤t[k].lines.length∧(t[k].lines.take j).all (fun x=>!b4f x)=true) (fun j=>t[k].lines.length - j) 0 (by simp) (a1m [(1,some 1)]) ?_
   rintro j ⟨hj,hallj⟩
   refine a0d _ _ _ ?_;simp only [go_sem,hG,hOw]
   (repeat' with_reducible first|apply And.intro|refine exP ?_ ?_|intro);all_goals try omega
   ·rename_i hlt2 h2
    have hjl:j < t[k].lines.length:=by omega
    exact bad (by rw [b4h,a8b hjl (by simp [b4f];omega)];simp)
   ·rename_i hlt2 h2
    have hjl:j < t[k].lines.length:=by omega
    have hr1:=hc2 _ (List.getElem_mem hjl)
    refine a0k (fun w:Nat=>St.of [(1,.ptr 1 0),(3,i64 k),(4,i64 j),(5,i64 w)] [(1,.box [chs 0 t])]) (fun w=>w≤t[k].lines[j].length∧(t[k].lines[j].take w).all (fun s=>!decide (40 < (s.size:Int)))=true) (fun w=>t[k].lines[j].length - w) 0 (by simp) (a1m [(1,some 1)]) ?_
    rintro w ⟨hw,hallw⟩
    refine a0d _ _ _ ?_;simp only [go_sem,hG,hOw]
    (repeat' with_reducible first|apply And.intro|refine exP ?_ ?_|intro);all_goals try omega
    ·rename_i hlt3 h3
     have hwl:w < t[k].lines[j].length:=by omega
     exact bad (by rw [b4h,a8b hjl (by rw [b4f,a8b hwl (by simp;omega)];simp)];simp)
    ·rename_i hlt3 h3
     exact ⟨w+1,⟨by omega,a0u (by omega) hallw (by simp;omega)⟩,by omega,a1m [(1,some 1)]⟩
    ·rename_i hge3
     rw [a1k hw hge3] at hallw
     exact ⟨j+1,⟨by omega,a0u hjl hallj (by rw [b4f,b1n hallw];simp;omega)⟩,by omega,a1m [(1,some 1)]⟩
   ·rename_i hge2
    rw [a1k hj hge2] at hallj
    exact ⟨k+1,⟨by omega,a0u hkl hall (by rw [b4h,b1n hallj];simp;omega)⟩,by omega,a1m [(1,some 1)]⟩
  ·rename_i hge
   rw [a1k hk hge] at hall
   rw [b2b,b1n hall];simp;omega
end Go.Proofs.YtmjhfccbbfpppaaGreatDoor
