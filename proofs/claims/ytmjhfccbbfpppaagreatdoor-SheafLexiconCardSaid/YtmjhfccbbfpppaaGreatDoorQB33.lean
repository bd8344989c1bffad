import Derived.Test.YtmjhfccbbfpppaaGreatDoorQB26
import Derived.Test.YtmjhfccbbfpppaaGreatDoorQB27
import Derived.Test.YtmjhfccbbfpppaaGreatDoorQB29
namespace Go.Proofs.YtmjhfccbbfpppaaGreatDoor
open Go Pm
set_option linter.unusedSimpArgs false
set_option linter.unusedVariables false
set_option maxHeartbeats 4000000
set_option maxRecDepth 100000
instance:DecidableEq Rd:=fun a b=>by cases a;cases b;simp only [Rd.mk.injEq];infer_instance
instance:DecidableEq Cp:=fun a b=>by cases a;cases b;simp only [Cp.mk.injEq];infer_instance
theorem e0h (t:List Ch) (ht:c1w t) (a b:Int) (w:Int) (l:List ByteArray) (h:a4x t a b=some l):a0l Tryz.prog 143 [txE 0 t,.agg [i64 a,i64 b,i64 w]] (fun _=>.tup [a0q 0 l,bl true]):=by
 obtain ⟨ht1,ht2⟩:=ht
 unfold a4x at h
 split at h
 ·rename_i hab
  obtain ⟨ha,hb⟩:=hab
  obtain ⟨a,rfl⟩:=Int.eq_ofNat_of_zero_le ha
  obtain ⟨b,rfl⟩:=Int.eq_ofNat_of_zero_le hb
  simp only [Int.toNat_natCast,Option.bind_eq_some_iff] at h
  obtain ⟨c,hc,hl⟩:=h
  obtain ⟨hat,rfl⟩:=List.getElem?_eq_some_iff.1 hc
  obtain ⟨hbl,rfl⟩:=List.getElem?_eq_some_iff.1 hl
  have ht3:=(ht2 _ (List.getElem_mem hat)).1
  have e1:inB (a:Int) 0 ((t.length:Int) - 1)=true:=by simp [inB];omega
  have e2:inB (b:Int) 0 ((t[a].lines.length:Int) - 1)=true:=by simp [inB];omega
  refine a0b (ow:=fun _=>false) Tryz.func143 Tryz.ntmps143 rfl rfl fun G hG hOw hNm hB=>?_;simp only [go_sem,hG,hOw]
  refine a0s mixed (by kernel_rfl) ?_
  simp only [go_sem,hG,hOw]
  (repeat' with_reducible first|apply And.intro|refine exP ?_ ?_|intro);all_goals try omega
  refine ⟨_,a0f (a3a a 0 ((t.length:Int) - 1)),?_⟩
  simp (maxSteps:=2000000) only [go_sem,hG,hOw,e1]
  (repeat' with_reducible first|apply And.intro|refine exP ?_ ?_|intro);all_goals try omega
  refine ⟨_,a0f (a3a b 0 ((t[a].lines.length:Int) - 1)),?_⟩
  simp (maxSteps:=2000000) only [go_sem,hG,hOw,e2]
  (repeat' with_reducible first|apply And.intro|refine exP ?_ ?_|intro);all_goals try omega
  refine a0s mixed (by kernel_rfl) ?_
  simp only [go_sem,hG,hOw]
  (repeat' with_reducible first|apply And.intro|refine exP ?_ ?_|intro);all_goals try omega
 ·cases h
theorem e8y (t:List Ch) (ht:c1w t) (a b:Int) (w:Int) (h:a4x t a b=none):a0l Tryz.prog 143 [txE 0 t,.agg [i64 a,i64 b,i64 w]] (fun _=>.tup [a0q 0 [],bl false]):=by
 obtain ⟨ht1,ht2⟩:=ht
 refine a0b (ow:=fun _=>false) Tryz.func143 Tryz.ntmps143 rfl rfl fun G hG hOw hNm hB=>?_;simp only [go_sem,hG,hOw]
 refine a0s mixed (by kernel_rfl) ?_
 simp only [go_sem,hG,hOw]
 (repeat' with_reducible first|apply And.intro|refine exP ?_ ?_|intro);all_goals try omega
 refine ⟨_,a0f (a3a a 0 ((t.length:Int) - 1)),?_⟩
 cases e1:inB a 0 ((t.length:Int) - 1) with
 |false =>
  simp only [go_sem,hG,hOw]
  (repeat' with_reducible first|apply And.intro|refine exP ?_ ?_|intro);all_goals try omega
  exact Subs.tup (.cons (.nil _ _) (.cons (.refl _) .nil))
 |true =>
  have ha:0≤a∧a≤(t.length:Int) - 1:=by simpa [inB] using e1
  obtain ⟨ha0,ha1⟩:=ha
  obtain ⟨a,rfl⟩:=Int.eq_ofNat_of_zero_le ha0
  have hat:a < t.length:=by omega
  have ht3:=(ht2 _ (List.getElem_mem hat)).1
  have e2:inB b 0 ((t[a].lines.length:Int) - 1)=false:=by
   cases e2:inB b 0 ((t[a].lines.length:Int) - 1) with
   |false=>rfl
   |true =>
    exfalso
    have hb:0≤b∧b≤(t[a].lines.length:Int) - 1:=by simpa [inB] using e2
    obtain ⟨b,rfl⟩:=Int.eq_ofNat_of_zero_le hb.1
    have hbl:b < t[a].lines.length:=by omega
    simp [a4x,hat,hbl] at h
  simp only [go_sem,hG,hOw]
  (repeat' with_reducible first|apply And.intro|refine exP ?_ ?_|intro);all_goals try omega
  refine ⟨_,a0f (a3a b 0 ((t[a].lines.length:Int) - 1)),?_⟩
  simp (maxSteps:=2000000) only [go_sem,hG,hOw,e2]
  (repeat' with_reducible first|apply And.intro|refine exP ?_ ?_|intro);all_goals try omega
  exact Subs.tup (.cons (.nil _ _) (.cons (.refl _) .nil))
open Go Pm
open Go Pm
open Go Pm
end Go.Proofs.YtmjhfccbbfpppaaGreatDoor
