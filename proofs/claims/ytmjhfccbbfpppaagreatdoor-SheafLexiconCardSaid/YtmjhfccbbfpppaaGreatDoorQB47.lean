import Derived.Test.YtmjhfccbbfpppaaGreatDoorQB42
namespace Go.Proofs.YtmjhfccbbfpppaaGreatDoor
open Go Pm
set_option linter.unusedSimpArgs false
set_option linter.unusedVariables false
set_option maxHeartbeats 4000000
set_option maxRecDepth 100000
theorem g2x (t:List Ch) (ht:c1w t) (num:Int) (form:ByteArray) (ch ln wd:Int) (stem:ByteArray) (mark:UInt8) (of:Int) (hf:form.size≤100000) (hst:stem.size≤100000) :
  a0l Tryz.prog 173 [txE 0 t,.agg [i64 num,.v (.int .u8 3),str form,i64 ch,i64 ln,i64 wd,str stem,u8 mark,i64 of]] (fun _=>bl (inB num 1 999 && b1p t 3 num form ch ln wd stem mark of)):=by
 have hbe:ByteArray.empty=⟨#[]⟩:=rfl
 have hN:=a8y num 1 999
 have hP:=b0e t ht ch ln wd
 have hH:=b5e stem mark hst
 have hW:=b3z form (by omega)
 have hI:=a8y of 1 (num - 1)
 have hm:decide (mark=0)=decide ((mark.toNat:Int)=0):=decide_eq_decide.2 (d7s mark).symm
 have hd:b1p t 3 num form ch ln wd stem mark of=(decide (form=⟨#[]⟩) && (a2z t ch ln wd && (a5l stem mark && decide (of=0)))):=by
  unfold b1p c2u
  simp
 rw [hd]
 cases hn:inB num 1 999 with
 |false =>
  rw [hn] at hN
  refine a0b (ow:=fun _=>false) Tryz.func173 Tryz.ntmps173 rfl rfl fun G hG hOw hNm hB=>?_;simp only [go_sem,hG,hOw]
  refine a0a hN ?_
  simp only [go_sem,hG,hOw]
  try (repeat' with_reducible first|apply And.intro|refine exP ?_ ?_|intro);all_goals try omega
 |true =>
  rw [hn] at hN
  rw [Bool.true_and]
  have hn2:1≤num∧num≤999:=by simpa [inB] using hn
  refine a0b (ow:=fun _=>false) Tryz.func173 Tryz.ntmps173 rfl rfl fun G hG hOw hNm hB=>?_;simp only [go_sem,hG,hOw]
  refine a0a hN ?_
  simp only [go_sem,hG,hOw]
  (repeat' with_reducible first|apply And.intro|refine exP ?_ ?_|intro);all_goals try omega
  refine a0a hP ?_
  cases hE1:decide (form=⟨#[]⟩) with
  |false =>
   simp (maxSteps:=2000000) only [go_sem,hG,hOw,hbe,hE1]
   try (repeat' with_reducible first|apply And.intro|refine exP ?_ ?_|intro);all_goals try omega
  |true =>
   cases hE2:a2z t ch ln wd with
   |false =>
    simp (maxSteps:=2000000) only [go_sem,hG,hOw,hbe,hE1,hE2]
    try (repeat' with_reducible first|apply And.intro|refine exP ?_ ?_|intro);all_goals try omega
   |true =>
    simp (maxSteps:=2000000) only [go_sem,hG,hOw,hbe,hE1,hE2]
    (repeat' with_reducible first|apply And.intro|refine exP ?_ ?_|intro);all_goals try omega
    refine a0a hH ?_
    cases hE3:a5l stem mark with
    |false =>
     simp (maxSteps:=2000000) only [go_sem,hG,hOw,hbe,hE1,hE2,hE3]
     try (repeat' with_reducible first|apply And.intro|refine exP ?_ ?_|intro);all_goals try omega
    |true =>
     cases hE4:decide (of=0) with
     |false =>
      simp (maxSteps:=2000000) only [go_sem,hG,hOw,hbe,hE1,hE2,hE3,hE4]
      try (repeat' with_reducible first|apply And.intro|refine exP ?_ ?_|intro);all_goals try omega
     |true =>
      simp (maxSteps:=2000000) only [go_sem,hG,hOw,hbe,hE1,hE2,hE3,hE4]
      try (repeat' with_reducible first|apply And.intro|refine exP ?_ ?_|intro);all_goals try omega
end Go.Proofs.YtmjhfccbbfpppaaGreatDoor
