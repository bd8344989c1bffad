import Derived.Test.YtmjhfccbbfpppaaGreatDoorQZ13
import Derived.Test.YtmjhfccbbfpppaaGreatDoorQZ16
import Derived.Test.YtmjhfccbbfpppaaGreatDoorQZ27
import Derived.Test.YtmjhfccbbfpppaaGreatDoorQZ34
namespace Go.Proofs.YtmjhfccbbfpppaaGreatDoor
open Go Pm
set_option linter.unusedSimpArgs false
set_option linter.unusedVariables false
set_option maxHeartbeats 4000000
set_option maxRecDepth 100000
theorem d5g (s:Si) (h:bdS s):a0n Tryz.prog 128 [.agg (siC s)] (fun _=>bl (c6b s)):=by
 obtain ⟨h1,h2,h3⟩:=h
 unfold c6b
 refine a0b (ow:=fun _=>false) Tryz.func128 Tryz.ntmps128 rfl rfl fun G hG hOw hNm hB=>?_;simp only [go_sem,hG,hOw]
 refine a0a (c4c s.bef (by omega)) ?_
 simp only [go_sem,hG,hOw]
 refine a0a (c4c s.aft (by omega)) ?_
 cases e2x s.bef with
 |false =>
  simp only [go_sem,hG,hOw]
  try (repeat' with_reducible first|refine And.intro ?_ ?_|intro _|refine exP ?_ ?_);all_goals try omega
 |true =>
  cases e2x s.aft with
  |false =>
   simp only [go_sem,hG,hOw]
   try (repeat' with_reducible first|refine And.intro ?_ ?_|intro _|refine exP ?_ ?_);all_goals try omega
  |true =>
   simp only [go_sem,hG,hOw]
   (repeat' with_reducible first|refine And.intro ?_ ?_|intro _|refine exP ?_ ?_);all_goals try omega
   refine a0a (c8p s.word) ?_
   simp only [go_sem,hG,hOw]
   try (repeat' with_reducible first|refine And.intro ?_ ?_|intro _|refine exP ?_ ?_);all_goals try omega
theorem c6x (a b c:Int):a0n Tryz.prog 126 [.agg [i64 a,i64 b,i64 c],.agg [i64 a,i64 b,i64 c]] (fun _=>i64 0):=by
 have hc:∀ a:Int,d9y a a=0:=fun a=>by simp [d9y]
 refine a0b (ow:=fun _=>false) Tryz.func126 Tryz.ntmps126 rfl rfl fun G hG hOw hNm hB=>?_;simp only [go_sem,hG,hOw]
 refine a0s mixed (by kernel_rfl) ?_
 simp only [go_sem,hG,hOw]
 refine ⟨_,a0e (a6d a a),?_⟩
 simp (maxSteps:=2000000) only [go_sem,hG,hOw,hc]
 refine ⟨_,a0e (a6d b b),?_⟩
 simp (maxSteps:=2000000) only [go_sem,hG,hOw,hc]
 refine ⟨_,a0e (a6d c c),?_⟩
 simp (maxSteps:=2000000) only [go_sem,hG,hOw,hc]
 refine ⟨_,a0e (c9x [0,0,0] (by decide) (by decide)),?_⟩
 simp only [go_sem,hG,hOw]
theorem d0s (s:Si) (h:bdS s):a0n Tryz.prog 94 [.agg (siC s),.agg (siC s)] (fun _=>.tup [i64 0,i64 (if c6b s then 0 else 31)]):=by
 have hr:=d5g s h
 cases hg:c6b s with
 |false =>
  rw [hg] at hr
  refine a0b (ow:=fun _=>false) Tryz.func94 Tryz.ntmps94 rfl rfl fun G hG hOw hNm hB=>?_;simp only [go_sem,hG,hOw]
  refine a0a hr ?_
  simp only [go_sem,hG,hOw]
  try (repeat' with_reducible first|refine And.intro ?_ ?_|intro _|refine exP ?_ ?_);all_goals try omega
 |true =>
  rw [hg] at hr
  refine a0b (ow:=fun _=>false) Tryz.func94 Tryz.ntmps94 rfl rfl fun G hG hOw hNm hB=>?_;simp only [go_sem,hG,hOw]
  refine a0a hr ?_
  simp only [go_sem,hG,hOw]
  (repeat' with_reducible first|refine And.intro ?_ ?_|intro _|refine exP ?_ ?_);all_goals try omega
  refine a0a hr ?_
  simp only [go_sem,hG,hOw]
  (repeat' with_reducible first|refine And.intro ?_ ?_|intro _|refine exP ?_ ?_);all_goals try omega
  refine a0s mixed (by kernel_rfl) ?_
  simp only [go_sem,hG,hOw]
  refine ⟨_,a0e (b2g s.word),?_⟩
  simp only [go_sem,hG,hOw]
  refine ⟨_,a0e (c6x s.ch s.ln s.wd),?_⟩
  simp only [go_sem,hG,hOw]
  refine ⟨_,a0e (b2g s.aft),?_⟩
  simp only [go_sem,hG,hOw]
  refine ⟨_,a0e (b2g s.bef),?_⟩
  simp only [go_sem,hG,hOw]
  refine ⟨_,a0e (c9x [0,0,0,0] (by decide) (by decide)),?_⟩
  simp only [go_sem,hG,hOw]
end Go.Proofs.YtmjhfccbbfpppaaGreatDoor
