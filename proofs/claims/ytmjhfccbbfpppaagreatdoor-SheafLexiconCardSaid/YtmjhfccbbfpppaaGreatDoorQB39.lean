import Derived.Test.YtmjhfccbbfpppaaGreatDoorQB36
namespace Go.Proofs.YtmjhfccbbfpppaaGreatDoor
open Go Pm
set_option linter.unusedSimpArgs false
set_option linter.unusedVariables false
set_option maxHeartbeats 4000000
set_option maxRecDepth 100000
theorem g7q (t:List Ch) (ht:a1s t=true) (num:Int) (form:ByteArray) (ch ln wd:Int) (stem:ByteArray) (mark:UInt8) (of:Int) (hf:form.size≤100000) (hst:stem.size≤100000) :
  a0l Tryz.prog 106 [txE 0 t,.agg [i64 num,.v (.int .u8 2),str form,i64 ch,i64 ln,i64 wd,str stem,u8 mark,i64 of]] (fun _=>bl (inB num 1 999 && b1p t 2 num form ch ln wd stem mark of)):=by
 have hk1:inB 2 1 4=true:=by decide
 have i1:Int.toNat 2=2:=rfl
 have hK:=a4q 1 4 2
 rw [hk1] at hK
 have hbe:ByteArray.empty=⟨#[]⟩:=rfl
 have hN:=a4q 1 999 num
 have hA:=c3h t ht ch ln wd
 have hL:=a5r form 1 (by omega)
 rw [a3y] at hL
 have hR:=b0o stem mark (by omega)
 rw [g0o]
 cases hn:inB num 1 999 with
 |false =>
  rw [hn] at hN
  refine a0b (ow:=fun _=>false) Tryz.func106 Tryz.ntmps106 rfl rfl fun G hG hOw hNm hB=>?_;simp only [go_sem,hG,hOw]
  try (repeat' with_reducible first|apply And.intro|refine exP ?_ ?_|intro);all_goals try omega
  refine a0a hK ?_
  simp only [go_sem,hG,hOw]
  (repeat' with_reducible first|apply And.intro|refine exP ?_ ?_|intro);all_goals try omega
  refine a0a hN ?_
  simp only [go_sem,hG,hOw]
  try (repeat' with_reducible first|apply And.intro|refine exP ?_ ?_|intro);all_goals try omega
 |true =>
  rw [hn] at hN
  rw [Bool.true_and]
  refine a0b (ow:=fun _=>false) Tryz.func106 Tryz.ntmps106 rfl rfl fun G hG hOw hNm hB=>?_;simp only [go_sem,hG,hOw]
  try (repeat' with_reducible first|apply And.intro|refine exP ?_ ?_|intro);all_goals try omega
  refine a0a hK ?_
  simp only [go_sem,hG,hOw]
  (repeat' with_reducible first|apply And.intro|refine exP ?_ ?_|intro);all_goals try omega
  refine a0a hN ?_
  simp (maxSteps:=2000000) only [go_sem,hG,hOw,i1,Nat.reduceMul,List.drop_succ_cons,List.drop_zero,List.take_succ_cons,List.take_zero]
  (repeat' with_reducible first|apply And.intro|refine exP ?_ ?_|intro);all_goals try omega
  refine a0a hA ?_
  cases hE:decide (of=0) with
  |false =>
   simp (maxSteps:=2000000) only [go_sem,hG,hOw,hbe,hE,a5i]
   try (repeat' with_reducible first|apply And.intro|refine exP ?_ ?_|intro);all_goals try omega
  |true =>
   simp (maxSteps:=2000000) only [go_sem,hG,hOw,hbe,hE,a5i]
   (repeat' with_reducible first|apply And.intro|refine exP ?_ ?_|intro);all_goals try omega
   refine a0a hL ?_
   cases a1f form with
   |false =>
    simp (maxSteps:=2000000) only [go_sem,hG,hOw,hbe,hE,a5i]
    try (repeat' with_reducible first|apply And.intro|refine exP ?_ ?_|intro);all_goals try omega
   |true =>
    cases a2z t ch ln wd with
    |false =>
     simp (maxSteps:=2000000) only [go_sem,hG,hOw,hbe,hE,a5i]
     try (repeat' with_reducible first|apply And.intro|refine exP ?_ ?_|intro);all_goals try omega
    |true =>
     simp (maxSteps:=2000000) only [go_sem,hG,hOw,hbe,hE,a5i]
     (repeat' with_reducible first|apply And.intro|refine exP ?_ ?_|intro);all_goals try omega
     refine a0a hR ?_
     simp (maxSteps:=2000000) only [go_sem,hG,hOw,hbe,hE,a5i]
     try (repeat' with_reducible first|apply And.intro|refine exP ?_ ?_|intro);all_goals try omega
     all_goals (rename_i h;rw [h];try rfl)
end Go.Proofs.YtmjhfccbbfpppaaGreatDoor
