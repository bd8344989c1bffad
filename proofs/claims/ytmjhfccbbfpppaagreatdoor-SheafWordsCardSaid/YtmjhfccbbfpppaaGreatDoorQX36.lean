import Derived.Test.YtmjhfccbbfpppaaGreatDoorQX14
import Derived.Test.YtmjhfccbbfpppaaGreatDoorQX17
import Derived.Test.YtmjhfccbbfpppaaGreatDoorQX28
import Derived.Test.YtmjhfccbbfpppaaGreatDoorQX34
namespace Go.Proofs.YtmjhfccbbfpppaaGreatDoor
open Go Pm
set_option linter.unusedSimpArgs false
set_option linter.unusedVariables false
set_option maxHeartbeats 4000000
set_option maxRecDepth 100000
theorem e1u (s:Si) (h:bdS s):a0o Tryz.prog 128 [.agg (siC s)] (fun _=>bl (c6s s)):=by
 obtain ⟨h1,h2,h3⟩:=h
 unfold c6s
 refine a0b (ow:=fun _=>false) Tryz.func128 Tryz.ntmps128 rfl rfl fun G hG hOw hNm hB=>?_;simp only [go_sem,hG,hOw]
 refine a0a (c2s s.bef (by omega)) ?_
 simp only [go_sem,hG,hOw]
 refine a0a (c2s s.aft (by omega)) ?_
 cases e3y s.bef with
 |false =>
  simp only [go_sem,hG,hOw]
  try (repeat' with_reducible first|refine And.intro ?_ ?_|intro _|refine exP ?_ ?_);all_goals try omega
 |true =>
  cases e3y s.aft with
  |false =>
   simp only [go_sem,hG,hOw]
   try (repeat' with_reducible first|refine And.intro ?_ ?_|intro _|refine exP ?_ ?_);all_goals try omega
  |true =>
   simp only [go_sem,hG,hOw]
   (repeat' with_reducible first|refine And.intro ?_ ?_|intro _|refine exP ?_ ?_);all_goals try omega
   refine a0a (d0f s.word) ?_
   simp only [go_sem,hG,hOw]
   try (repeat' with_reducible first|refine And.intro ?_ ?_|intro _|refine exP ?_ ?_);all_goals try omega
theorem c9f (a b c:Int):a0o Tryz.prog 126 [.agg [i64 a,i64 b,i64 c],.agg [i64 a,i64 b,i64 c]] (fun _=>i64 0):=by
 have hc:∀ a:Int,e0z a a=0:=fun a=>by simp [e0z]
 refine a0b (ow:=fun _=>false) Tryz.func126 Tryz.ntmps126 rfl rfl fun G hG hOw hNm hB=>?_;simp only [go_sem,hG,hOw]
 refine a0s mixed (by kernel_rfl) ?_
 simp only [go_sem,hG,hOw]
 refine ⟨_,a0d (a6k a a),?_⟩
 simp (maxSteps:=2000000) only [go_sem,hG,hOw,hc]
 refine ⟨_,a0d (a6k b b),?_⟩
 simp (maxSteps:=2000000) only [go_sem,hG,hOw,hc]
 refine ⟨_,a0d (a6k c c),?_⟩
 simp (maxSteps:=2000000) only [go_sem,hG,hOw,hc]
 refine ⟨_,a0d (d1a [0,0,0] (by decide) (by decide)),?_⟩
 simp only [go_sem,hG,hOw]
theorem d1x (s:Si) (h:bdS s):a0o Tryz.prog 94 [.agg (siC s),.agg (siC s)] (fun _=>.tup [i64 0,i64 (if c6s s then 0 else 31)]):=by
 have hr:=e1u s h
 cases hg:c6s s with
 |false =>
  rw [hg] at hr
  refine a0b (ow:=fun _=>false) Tryz.func94 Tryz.ntmps94 rfl rfl fun G hG hOw hNm hB=>?_;simp only [go_sem,hG,hOw]
  refine a0a hr ?_
  simp only [go_sem,hG,hOw]
  try (repeat' with_reducible first|refine And.intro ?_ ?_|intro _|refine exP ?_ ?_);all_goals try omega
 |true =>
  rw [hg] at hr
  refine a0b (ow:=fun _=>false) Tryz.func94 Tryz.ntmps94 rfl rfl fun G hG hOw hNm hB=>?_;simp only [go_sem,hG,hOw]
  refine a0a hr ?_
  simp only [go_sem,hG,hOw]
  (repeat' with_reducible first|refine And.intro ?_ ?_|intro _|refine exP ?_ ?_);all_goals try omega
  refine a0a hr ?_
  simp only [go_sem,hG,hOw]
  (repeat' with_reducible first|refine And.intro ?_ ?_|intro _|refine exP ?_ ?_);all_goals try omega
  refine a0s mixed (by kernel_rfl) ?_
  simp only [go_sem,hG,hOw]
  refine ⟨_,a0d (b2o s.word),?_⟩
  simp only [go_sem,hG,hOw]
  refine ⟨_,a0d (c9f s.ch s.ln s.wd),?_⟩
  simp only [go_sem,hG,hOw]
  refine ⟨_,a0d (b2o s.aft),?_⟩
  simp only [go_sem,hG,hOw]
  refine ⟨_,a0d (b2o s.bef),?_⟩
  simp only [go_sem,hG,hOw]
  refine ⟨_,a0d (d1a [0,0,0,0] (by decide) (by decide)),?_⟩
  simp only [go_sem,hG,hOw]
end Go.Proofs.YtmjhfccbbfpppaaGreatDoor
