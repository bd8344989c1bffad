import Derived.Test.YtmjhfccbbfpppaaGreatDoorQB13
import Derived.Test.YtmjhfccbbfpppaaGreatDoorQB19
import Derived.Test.YtmjhfccbbfpppaaGreatDoorQB26
import Derived.Test.YtmjhfccbbfpppaaGreatDoorQB30
namespace Go.Proofs.YtmjhfccbbfpppaaGreatDoor
open Go Pm
set_option linter.unusedSimpArgs false
set_option linter.unusedVariables false
set_option maxHeartbeats 4000000
set_option maxRecDepth 100000
theorem e5p (s:Si) (h:bdS s):a0l Tryz.prog 128 [.agg (siC s)] (fun _=>bl (c8h s)):=by
 obtain ⟨h1,h2,h3⟩:=h
 unfold c8h
 refine a0b (ow:=fun _=>false) Tryz.func128 Tryz.ntmps128 rfl rfl fun G hG hOw hNm hB=>?_;simp only [go_sem,hG,hOw]
 refine a0a (c6h s.bef (by omega)) ?_
 simp only [go_sem,hG,hOw]
 refine a0a (c6h s.aft (by omega)) ?_
 cases e5s s.bef with
 |false =>
  simp only [go_sem,hG,hOw]
  try (repeat' with_reducible first|apply And.intro|refine exP ?_ ?_|intro);all_goals try omega
 |true =>
  cases e5s s.aft with
  |false =>
   simp only [go_sem,hG,hOw]
   try (repeat' with_reducible first|apply And.intro|refine exP ?_ ?_|intro);all_goals try omega
  |true =>
   simp only [go_sem,hG,hOw]
   (repeat' with_reducible first|apply And.intro|refine exP ?_ ?_|intro);all_goals try omega
   refine a0a (d2e s.word) ?_
   simp only [go_sem,hG,hOw]
   try (repeat' with_reducible first|apply And.intro|refine exP ?_ ?_|intro);all_goals try omega
theorem c7u (a b c:Int):a0l Tryz.prog 126 [.agg [i64 a,i64 b,i64 c],.agg [i64 a,i64 b,i64 c]] (fun _=>i64 0):=by
 have hc:∀ a:Int,c2s a a=0:=fun a=>by simp [c2s]
 refine a0b (ow:=fun _=>false) Tryz.func126 Tryz.ntmps126 rfl rfl fun G hG hOw hNm hB=>?_;simp only [go_sem,hG,hOw]
 refine a0s mixed (by kernel_rfl) ?_
 simp only [go_sem,hG,hOw]
 refine ⟨_,a0f (a4b a a),?_⟩
 simp (maxSteps:=2000000) only [go_sem,hG,hOw,hc]
 refine ⟨_,a0f (a4b b b),?_⟩
 simp (maxSteps:=2000000) only [go_sem,hG,hOw,hc]
 refine ⟨_,a0f (a4b c c),?_⟩
 simp (maxSteps:=2000000) only [go_sem,hG,hOw,hc]
 refine ⟨_,a0f (d0q [0,0,0] (by decide) (by decide)),?_⟩
 simp only [go_sem,hG,hOw]
theorem d3i (s:Si) (h:bdS s):a0l Tryz.prog 94 [.agg (siC s),.agg (siC s)] (fun _=>.tup [i64 0,i64 (if c8h s then 0 else 31)]):=by
 have hr:=e5p s h
 cases hg:c8h s with
 |false =>
  rw [hg] at hr
  refine a0b (ow:=fun _=>false) Tryz.func94 Tryz.ntmps94 rfl rfl fun G hG hOw hNm hB=>?_;simp only [go_sem,hG,hOw]
  refine a0a hr ?_
  simp only [go_sem,hG,hOw]
  try (repeat' with_reducible first|apply And.intro|refine exP ?_ ?_|intro);all_goals try omega
 |true =>
  rw [hg] at hr
  refine a0b (ow:=fun _=>false) Tryz.func94 Tryz.ntmps94 rfl rfl fun G hG hOw hNm hB=>?_;simp only [go_sem,hG,hOw]
  refine a0a hr ?_
  simp only [go_sem,hG,hOw]
  (repeat' with_reducible first|apply And.intro|refine exP ?_ ?_|intro);all_goals try omega
  refine a0a hr ?_
  simp only [go_sem,hG,hOw]
  (repeat' with_reducible first|apply And.intro|refine exP ?_ ?_|intro);all_goals try omega
  refine a0s mixed (by kernel_rfl) ?_
  simp only [go_sem,hG,hOw]
  refine ⟨_,a0f (b4a s.word),?_⟩
  simp only [go_sem,hG,hOw]
  refine ⟨_,a0f (c7u s.ch s.ln s.wd),?_⟩
  simp only [go_sem,hG,hOw]
  refine ⟨_,a0f (b4a s.aft),?_⟩
  simp only [go_sem,hG,hOw]
  refine ⟨_,a0f (b4a s.bef),?_⟩
  simp only [go_sem,hG,hOw]
  refine ⟨_,a0f (d0q [0,0,0,0] (by decide) (by decide)),?_⟩
  simp only [go_sem,hG,hOw]
end Go.Proofs.YtmjhfccbbfpppaaGreatDoor
