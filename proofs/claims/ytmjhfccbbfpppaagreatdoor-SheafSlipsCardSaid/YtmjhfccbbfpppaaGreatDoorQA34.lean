import Derived.Test.YtmjhfccbbfpppaaGreatDoorQA14
import Derived.Test.YtmjhfccbbfpppaaGreatDoorQA23
import Derived.Test.YtmjhfccbbfpppaaGreatDoorQA26
import Derived.Test.YtmjhfccbbfpppaaGreatDoorQA32
namespace Go.Proofs.YtmjhfccbbfpppaaGreatDoor
open Go Pm
set_option linter.unusedSimpArgs false
set_option linter.unusedVariables false
set_option maxHeartbeats 4000000
set_option maxRecDepth 100000
theorem c5r (s:Si) (h:bdS s):a0l Tryz.prog 128 [.agg (siC s)] (fun _=>bl (b1b s)):=by
 obtain ⟨h1,h2,h3⟩:=h
 unfold b1b
 refine a0b (ow:=fun _=>false) Tryz.func128 Tryz.ntmps128 rfl rfl fun G hG hOw hNm hB=>?_;simp only [go_sem,hG,hOw]
 refine a0a (c3u s.bef (by omega)) ?_
 simp only [go_sem,hG,hOw]
 refine a0a (c3u s.aft (by omega)) ?_
 cases b7j s.bef with
 |false =>
  simp only [go_sem,hG,hOw]
  try (repeat' with_reducible first|refine And.intro ?_ ?_|intro _|refine exP ?_ ?_);all_goals try omega
 |true =>
  cases b7j s.aft with
  |false =>
   simp only [go_sem,hG,hOw]
   try (repeat' with_reducible first|refine And.intro ?_ ?_|intro _|refine exP ?_ ?_);all_goals try omega
  |true =>
   simp only [go_sem,hG,hOw]
   (repeat' with_reducible first|refine And.intro ?_ ?_|intro _|refine exP ?_ ?_);all_goals try omega
   refine a0a (d0f s.word) ?_
   simp only [go_sem,hG,hOw]
   try (repeat' with_reducible first|refine And.intro ?_ ?_|intro _|refine exP ?_ ?_);all_goals try omega
theorem c9k (a b c:Int):a0l Tryz.prog 126 [.agg [i64 a,i64 b,i64 c],.agg [i64 a,i64 b,i64 c]] (fun _=>i64 0):=by
 have hc:∀ a:Int,b7s a a=0:=fun a=>by simp [b7s]
 refine a0b (ow:=fun _=>false) Tryz.func126 Tryz.ntmps126 rfl rfl fun G hG hOw hNm hB=>?_;simp only [go_sem,hG,hOw]
 refine a0r mixed (by kernel_rfl) ?_
 simp only [go_sem,hG,hOw]
 refine ⟨_,a0e (a4a a a),?_⟩
 simp (maxSteps:=2000000) only [go_sem,hG,hOw,hc]
 refine ⟨_,a0e (a4a b b),?_⟩
 simp (maxSteps:=2000000) only [go_sem,hG,hOw,hc]
 refine ⟨_,a0e (a4a c c),?_⟩
 simp (maxSteps:=2000000) only [go_sem,hG,hOw,hc]
 refine ⟨_,a0e (d1g [0,0,0] (by decide) (by decide)),?_⟩
 simp only [go_sem,hG,hOw]
theorem b9s (s:Si) (h:bdS s):a0l Tryz.prog 94 [.agg (siC s),.agg (siC s)] (fun _=>.tup [i64 0,i64 (if b1b s then 0 else 31)]):=by
 have hr:=c5r s h
 cases hg:b1b s with
 |false =>
  rw [hg] at hr
  refine a0b (ow:=fun _=>false) Tryz.func94 Tryz.ntmps94 rfl rfl fun G hG hOw hNm hB=>?_;simp only [go_sem,hG,hOw]
  refine a0a hr ?_
  simp only [go_sem,hG,hOw]
  try (repeat' with_reducible first|refine And.intro ?_ ?_|intro _|refine exP ?_ ?_);all_goals try omega
 |true =>
  rw [hg] at hr
  refine a0b (ow:=fun _=>false) Tryz.func94 Tryz.ntmps94 rfl rfl fun G hG hOw hNm hB=>?_;simp only [go_sem,hG,hOw]
  refine a0a hr ?_
  simp only [go_sem,hG,hOw]
  (repeat' with_reducible first|refine And.intro ?_ ?_|intro _|refine exP ?_ ?_);all_goals try omega
  refine a0a hr ?_
  simp only [go_sem,hG,hOw]
  (repeat' with_reducible first|refine And.intro ?_ ?_|intro _|refine exP ?_ ?_);all_goals try omega
  refine a0r mixed (by kernel_rfl) ?_
  simp only [go_sem,hG,hOw]
  refine ⟨_,a0e (b3c s.word),?_⟩
  simp only [go_sem,hG,hOw]
  refine ⟨_,a0e (c9k s.ch s.ln s.wd),?_⟩
  simp only [go_sem,hG,hOw]
  refine ⟨_,a0e (b3c s.aft),?_⟩
  simp only [go_sem,hG,hOw]
  refine ⟨_,a0e (b3c s.bef),?_⟩
  simp only [go_sem,hG,hOw]
  refine ⟨_,a0e (d1g [0,0,0,0] (by decide) (by decide)),?_⟩
  simp only [go_sem,hG,hOw]
end Go.Proofs.YtmjhfccbbfpppaaGreatDoor
