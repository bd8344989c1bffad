import Derived.Test.YtmjhfccbbfpppaaGreatDoorQA34
import Derived.Test.YtmjhfccbbfpppaaGreatDoorQA43
import Derived.Test.YtmjhfccbbfpppaaGreatDoorQA45
namespace Go.Proofs.YtmjhfccbbfpppaaGreatDoor
open Go Pm
set_option linter.unusedSimpArgs false
set_option linter.unusedVariables false
set_option maxHeartbeats 4000000
set_option maxRecDepth 100000
theorem c6e (l:List Si):a0l Tryz.prog 52 [sis 0 l,sis 0 l] (fun _=>bl true):=by
 refine a0b (ow:=fun _=>false) Tryz.func52 Tryz.ntmps52 rfl rfl fun G hG hOw hNm hB=>?_;simp only [go_sem,hG,hOw]
 have hl:=b8n hB (List.mem_cons_self ..)
 simp only [List.length_map] at hl
 (repeat' with_reducible first|refine And.intro ?_ ?_|intro _|refine exP ?_ ?_);all_goals try omega
 refine a0i (fun k:Nat=>St.of [(0,sis 0 l),(1,sis 0 l),(5,i64 k)] []) (fun k=>k≤l.length) (fun k=>l.length - k) 0 (by simp) (a1e (by (simp only [go_sem])<;>simp) hNm) ?_
 rintro k hk
 by_cases hkl:k < l.length
 ·have hlt:(k:Int) < l.length:=by omega
  refine a0d _ _ _ ?_
  simp (maxSteps:=2000000) only [go_sem,hG,hOw,hlt]
  refine a0r mixed (by kernel_rfl) ?_
  simp (maxSteps:=2000000) only [go_sem,hG,hOw,decide_true,Bool.and_self,Bool.not_true]
  (repeat' with_reducible first|refine And.intro ?_ ?_|intro _|refine exP ?_ ?_);all_goals try omega
  exact ⟨k+1,by omega,by omega,a1e (by (simp only [go_sem])<;>simp) hNm⟩
 ·have hlt:¬ (k:Int) < l.length:=by omega
  refine a0d _ _ _ ?_
  simp (maxSteps:=2000000) only [go_sem,hG,hOw,hlt]
  try (repeat' with_reducible first|refine And.intro ?_ ?_|intro _|refine exP ?_ ?_);all_goals try omega
end Go.Proofs.YtmjhfccbbfpppaaGreatDoor
