import Derived.Test.YtmjhfccbbfpppaaGreatDoorQY09
import Derived.Test.YtmjhfccbbfpppaaGreatDoorQY12
namespace Go.Proofs.YtmjhfccbbfpppaaGreatDoor
open Go Pm
set_option linter.unusedSimpArgs false
set_option linter.unusedVariables false
set_option maxHeartbeats 4000000
set_option maxRecDepth 100000
theorem c2l (k:FuncId) (cap:List V) (p:List ByteArray→Bool) (l:List (List ByteArray)) (hcap:b1n cap=true) (hf:∀ x ∈ l,a0o Tryz.prog k ((lnE 0) x++cap) (fun _=>bl (p x))) :
  a0o Tryz.prog 248 [.lst 0 1 (l.map (lnE 0)),.fn (.func k) cap] (fun _=>i64 (a4a p l)):=by
 refine a0c (ow:=fun _=>false) Tryz.func248 Tryz.ntmps248 rfl rfl fun G hG hOw hNm hB=>?_;simp only [go_sem,hG,hOw]
 have hl:=c0e hB (List.mem_cons_self ..)
 simp only [List.length_map] at hl
 refine a0r (fun i:Nat=>St.of [(0,.lst 0 1 (l.map (lnE 0))),(1,.fn (.func k) cap),(7,i64 l.length),(8,i64 i)] []) (fun i=>i≤l.length∧(l.take i).all (fun x=>!p x)=true) (fun i=>l.length - i) 0 (by simp) (a2o [] (by (simp only [go_sem])<;>simp [hcap]) (by (simp only [go_sem,a1g,a0q,a0f,a1m])<;>simp [hcap])) ?_
 rintro i ⟨hi,hall⟩
 refine a0l _ _ _ ?_;simp only [go_sem,hG,hOw]
 (repeat' with_reducible first|refine And.intro ?_ ?_|intro _|refine exP ?_ ?_);all_goals try omega
 ·rename_i hlt
  have hil:i < l.length:=by omega
  refine a0w (hf l[i] (List.getElem_mem hil)) (Subs.refl _) (by simp [a9i,pureV,pure0,b2e hcap]) (by simp [chk,hG]) ?_
  simp only [go_sem,hG,hOw]
  (repeat' with_reducible first|refine And.intro ?_ ?_|intro _|refine exP ?_ ?_);all_goals try omega
  ·rename_i hp
   exact (a8u hil hall hp).symm
  ·rename_i hp
   exact ⟨i+1,⟨by omega,a1k hil hall (by rw [hp];rfl)⟩,by omega,a2o [] (by (simp only [go_sem])<;>simp [hcap]) (by (simp only [go_sem,a1g,a0q,a0f,a1m])<;>simp [hcap])⟩
 ·rename_i hge
  rw [a2x hi hge] at hall
  exact (a7o hall).symm
theorem b5y (k:FuncId) (cap:List V) (p:List ByteArray→Bool) (l:List (List ByteArray)) (hcap:b1n cap=true) (hf:∀ x ∈ l,a0o Tryz.prog k ((lnE 0) x++cap) (fun _=>bl (p x))) :
  a0o Tryz.prog 201 [.lst 0 1 (l.map (lnE 0)),.fn (.func k) cap] (fun _=>bl (l.any p)):=by
 refine a0c (ow:=fun _=>false) Tryz.func201 Tryz.ntmps201 rfl rfl fun G hG hOw hNm hB=>?_;simp only [go_sem,hG,hOw]
 refine a0a (c2l k cap p l hcap hf) ?_
 simp only [go_sem,hG,hOw]
 rw [a8l]
theorem f2d (n lo hi:Int):a0o Tryz.prog 130 [i64 n,.fp [i64 lo],.fp [i64 hi]] (fun _=>bl (decide (n < lo) || decide (hi < n))):=by
 refine a0c (ow:=fun _=>false) Tryz.func130 Tryz.ntmps130 rfl rfl fun G hG hOw hNm hB=>?_;simp only [go_sem,hG,hOw]
 (repeat' with_reducible first|refine And.intro ?_ ?_|intro _|refine exP ?_ ?_);all_goals try omega
 ·rename_i h;rw [decide_eq_false h];rfl
 ·rename_i h;rw [decide_eq_true h];rfl
theorem f7l (lo hi:Int) (l:List Int):a0o Tryz.prog 57 [i64 lo,i64 hi,.lst 0 1 (l.map c4m)] (fun _=>bl (l.all fun n=>inB n lo hi)):=by
 refine a0c (ow:=fun _=>false) Tryz.func57 Tryz.ntmps57 rfl rfl fun G hG hOw hNm hB=>?_;simp only [go_sem,hG,hOw]
 refine a3h (fun i=>[3,4].contains i) ?_
 simp only [go_sem,hG,hOw]
 refine a0a (a4w _ [.fp [i64 lo],.fp [i64 hi]] (fun n=>decide (n < lo) || decide (hi < n)) l rfl (fun x _=>f2d x lo hi)) ?_
 simp only [go_sem,hG,hOw]
 rw [List.not_any_eq_all_not]
 congr 1
 funext n
 rw [Bool.eq_iff_iff];simp [inB]
theorem a4e (lo hi n:Int):a0o Tryz.prog 57 [i64 lo,i64 hi,.lst 0 1 [[i64 n]]] (fun _=>bl (inB n lo hi)):=by
 have:=f7l lo hi [n]
 simpa [c4m] using this
theorem e5z (b:UInt8):a0o Tryz.prog 133 [.v (.int .u8 b.toNat)] (fun _=>bl (!a2j b)):=by
 refine a0c (ow:=fun _=>false) Tryz.func133 Tryz.ntmps133 rfl rfl fun G hG hOw hNm hB=>?_;simp only [go_sem,hG,hOw]
 (repeat' with_reducible first|refine And.intro ?_ ?_|intro _|refine exP ?_ ?_);all_goals try omega
 ·rename_i h;simp [a2j];intro;omega
 ·rename_i h;simp [a2j];omega
theorem c9m (s:ByteArray):a0o Tryz.prog 60 [.v (.string s)] (fun _=>bl (a1p s)):=by
 refine a0c (ow:=fun _=>false) Tryz.func60 Tryz.ntmps60 rfl rfl fun G hG hOw hNm hB=>?_;simp only [go_sem,hG,hOw]
 refine a0a (a4e 1 12 s.size) ?_
 simp only [go_sem,hG,hOw]
 (repeat' with_reducible first|refine And.intro ?_ ?_|intro _|refine exP ?_ ?_);all_goals try omega
 ·rename_i h;simp [inB] at h;omega
 ·rename_i h
  refine a0a (a3j _ [] (fun b=>!a2j b) s.data.toList rfl (fun b _=>e5z b)) ?_
  simp only [go_sem,hG,hOw]
  unfold a1p;rw [h,Bool.and_true,List.not_any_eq_all_not];simp
 ·rename_i h;unfold a1p;rw [h,Bool.and_false]
end Go.Proofs.YtmjhfccbbfpppaaGreatDoor
