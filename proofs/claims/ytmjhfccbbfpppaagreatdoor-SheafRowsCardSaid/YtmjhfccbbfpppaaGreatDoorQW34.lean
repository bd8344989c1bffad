import Derived.Test.YtmjhfccbbfpppaaGreatDoorQW13
import Derived.Test.YtmjhfccbbfpppaaGreatDoorQW16
import Derived.Test.YtmjhfccbbfpppaaGreatDoorQW27
import Derived.Test.YtmjhfccbbfpppaaGreatDoorQW33
namespace Go.Proofs.YtmjhfccbbfpppaaGreatDoor
open Go Pm
set_option linter.unusedSimpArgs false
set_option linter.unusedVariables false
set_option maxHeartbeats 4000000
set_option maxRecDepth 100000
theorem d9z (s:Si) (h:bdS s):a0p Tryz.prog 128 [.agg (siC s)] (fun _=>bl (b5q s)):=by
 obtain ⟨h1,h2,h3⟩:=h
 unfold b5q
 refine a0c (ow:=fun _=>false) Tryz.func128 Tryz.ntmps128 rfl rfl fun G hG hOw hNm hB=>?_;simp only [go_sem,hG,hOw]
 refine a0a (c4s s.bef (by omega)) ?_
 simp only [go_sem,hG,hOw]
 refine a0a (c4s s.aft (by omega)) ?_
 cases d6d s.bef with
 |false =>
  simp only [go_sem,hG,hOw]
  try (repeat' with_reducible first|refine And.intro ?_ ?_|intro _|refine exP ?_ ?_);all_goals try omega
 |true =>
  cases d6d s.aft with
  |false =>
   simp only [go_sem,hG,hOw]
   try (repeat' with_reducible first|refine And.intro ?_ ?_|intro _|refine exP ?_ ?_);all_goals try omega
  |true =>
   simp only [go_sem,hG,hOw]
   (repeat' with_reducible first|refine And.intro ?_ ?_|intro _|refine exP ?_ ?_);all_goals try omega
   refine a0a (d1q s.word) ?_
   simp only [go_sem,hG,hOw]
   try (repeat' with_reducible first|refine And.intro ?_ ?_|intro _|refine exP ?_ ?_);all_goals try omega
theorem c9m (a b c:Int):a0p Tryz.prog 126 [.agg [i64 a,i64 b,i64 c],.agg [i64 a,i64 b,i64 c]] (fun _=>i64 0):=by
 have hc:∀ a:Int,e1b a a=0:=fun a=>by simp [e1b]
 refine a0c (ow:=fun _=>false) Tryz.func126 Tryz.ntmps126 rfl rfl fun G hG hOw hNm hB=>?_;simp only [go_sem,hG,hOw]
 refine a1a mixed (by kernel_rfl) ?_
 simp only [go_sem,hG,hOw]
 refine ⟨_,a0j (a7l a a),?_⟩
 simp (maxSteps:=2000000) only [go_sem,hG,hOw,hc]
 refine ⟨_,a0j (a7l b b),?_⟩
 simp (maxSteps:=2000000) only [go_sem,hG,hOw,hc]
 refine ⟨_,a0j (a7l c c),?_⟩
 simp (maxSteps:=2000000) only [go_sem,hG,hOw,hc]
 refine ⟨_,a0j (d1m [0,0,0] (by decide) (by decide)),?_⟩
 simp only [go_sem,hG,hOw]
theorem c1n (s:Si) (h:bdS s):a0p Tryz.prog 94 [.agg (siC s),.agg (siC s)] (fun _=>.tup [i64 0,i64 (if b5q s then 0 else 31)]):=by
 have hr:=d9z s h
 cases hg:b5q s with
 |false =>
  rw [hg] at hr
  refine a0c (ow:=fun _=>false) Tryz.func94 Tryz.ntmps94 rfl rfl fun G hG hOw hNm hB=>?_;simp only [go_sem,hG,hOw]
  refine a0a hr ?_
  simp only [go_sem,hG,hOw]
  try (repeat' with_reducible first|refine And.intro ?_ ?_|intro _|refine exP ?_ ?_);all_goals try omega
 |true =>
  rw [hg] at hr
  refine a0c (ow:=fun _=>false) Tryz.func94 Tryz.ntmps94 rfl rfl fun G hG hOw hNm hB=>?_;simp only [go_sem,hG,hOw]
  refine a0a hr ?_
  simp only [go_sem,hG,hOw]
  (repeat' with_reducible first|refine And.intro ?_ ?_|intro _|refine exP ?_ ?_);all_goals try omega
  refine a0a hr ?_
  simp only [go_sem,hG,hOw]
  (repeat' with_reducible first|refine And.intro ?_ ?_|intro _|refine exP ?_ ?_);all_goals try omega
  refine a1a mixed (by kernel_rfl) ?_
  simp only [go_sem,hG,hOw]
  refine ⟨_,a0j (b5c s.word),?_⟩
  simp only [go_sem,hG,hOw]
  refine ⟨_,a0j (c9m s.ch s.ln s.wd),?_⟩
  simp only [go_sem,hG,hOw]
  refine ⟨_,a0j (b5c s.aft),?_⟩
  simp only [go_sem,hG,hOw]
  refine ⟨_,a0j (b5c s.bef),?_⟩
  simp only [go_sem,hG,hOw]
  refine ⟨_,a0j (d1m [0,0,0,0] (by decide) (by decide)),?_⟩
  simp only [go_sem,hG,hOw]
end Go.Proofs.YtmjhfccbbfpppaaGreatDoor
