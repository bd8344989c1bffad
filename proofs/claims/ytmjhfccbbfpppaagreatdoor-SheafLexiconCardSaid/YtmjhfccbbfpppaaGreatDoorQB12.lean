import Derived.Test.YtmjhfccbbfpppaaGreatDoorQB08
import Derived.Test.YtmjhfccbbfpppaaGreatDoorQB11
namespace Go.Proofs.YtmjhfccbbfpppaaGreatDoor
open Go Pm
set_option linter.unusedSimpArgs false
set_option linter.unusedVariables false
set_option maxHeartbeats 4000000
set_option maxRecDepth 100000
theorem c6t (k:FuncId) (cap:List V) (p:List ByteArray→Bool) (l:List (List ByteArray)) (hcap:b3o cap=true) (hf:∀ x ∈ l,a0l Tryz.prog k ((lnE 0) x++cap) (fun _=>bl (p x))) :
  a0l Tryz.prog 248 [.lst 0 1 (l.map (lnE 0)),.fn (.func k) cap] (fun _=>i64 (a9b p l)):=by
 refine a0b (ow:=fun _=>false) Tryz.func248 Tryz.ntmps248 rfl rfl fun G hG hOw hNm hB=>?_;simp only [go_sem,hG,hOw]
 have hl:=c5c hB (List.mem_cons_self ..)
 simp only [List.length_map] at hl
 refine a0k (fun i:Nat=>St.of [(0,.lst 0 1 (l.map (lnE 0))),(1,.fn (.func k) cap),(7,i64 l.length),(8,i64 i)] []) (fun i=>i≤l.length∧(l.take i).all (fun x=>!p x)=true) (fun i=>l.length - i) 0 (by simp) (a1m [] (by (simp only [go_sem])<;>simp [hcap]) (by (simp only [go_sem,a1d,a0r,a0i,a1l])<;>simp [hcap])) ?_
 rintro i ⟨hi,hall⟩
 refine a0d _ _ _ ?_;simp only [go_sem,hG,hOw]
 (repeat' with_reducible first|apply And.intro|refine exP ?_ ?_|intro);all_goals try omega
 ·rename_i hlt
  have hil:i < l.length:=by omega
  refine a1p (hf l[i] (List.getElem_mem hil)) (Subs.refl _) (by simp [b0t,pureV,pure0,b2o hcap]) (by simp [chk,hG]) ?_
  simp only [go_sem,hG,hOw]
  (repeat' with_reducible first|apply And.intro|refine exP ?_ ?_|intro);all_goals try omega
  ·rename_i hp
   exact (b0p hil hall hp).symm
  ·rename_i hp
   exact ⟨i+1,⟨by omega,a0u hil hall (by rw [hp];rfl)⟩,by omega,a1m [] (by (simp only [go_sem])<;>simp [hcap]) (by (simp only [go_sem,a1d,a0r,a0i,a1l])<;>simp [hcap])⟩
 ·rename_i hge
  rw [a1k hi hge] at hall
  exact (a8o hall).symm
theorem b5p (k:FuncId) (cap:List V) (p:List ByteArray→Bool) (l:List (List ByteArray)) (hcap:b3o cap=true) (hf:∀ x ∈ l,a0l Tryz.prog k ((lnE 0) x++cap) (fun _=>bl (p x))) :
  a0l Tryz.prog 201 [.lst 0 1 (l.map (lnE 0)),.fn (.func k) cap] (fun _=>bl (l.any p)):=by
 refine a0b (ow:=fun _=>false) Tryz.func201 Tryz.ntmps201 rfl rfl fun G hG hOw hNm hB=>?_;simp only [go_sem,hG,hOw]
 refine a0a (c6t k cap p l hcap hf) ?_
 simp only [go_sem,hG,hOw]
 rw [a7v]
theorem f7r (n lo hi:Int):a0l Tryz.prog 130 [i64 n,.fp [i64 lo],.fp [i64 hi]] (fun _=>bl (decide (n < lo) || decide (hi < n))):=by
 refine a0b (ow:=fun _=>false) Tryz.func130 Tryz.ntmps130 rfl rfl fun G hG hOw hNm hB=>?_;simp only [go_sem,hG,hOw]
 (repeat' with_reducible first|apply And.intro|refine exP ?_ ?_|intro);all_goals try omega
 ·rename_i h;rw [decide_eq_false h];rfl
 ·rename_i h;rw [decide_eq_true h];rfl
theorem g2b (lo hi:Int) (l:List Int):a0l Tryz.prog 57 [i64 lo,i64 hi,.lst 0 1 (l.map c3r)] (fun _=>bl (l.all fun n=>inB n lo hi)):=by
 refine a0b (ow:=fun _=>false) Tryz.func57 Tryz.ntmps57 rfl rfl fun G hG hOw hNm hB=>?_;simp only [go_sem,hG,hOw]
 refine a2x (fun i=>[3,4].contains i) ?_
 simp only [go_sem,hG,hOw]
 refine a0a (a4o _ [.fp [i64 lo],.fp [i64 hi]] (fun n=>decide (n < lo) || decide (hi < n)) l rfl (fun x _=>f7r x lo hi)) ?_
 simp only [go_sem,hG,hOw]
 rw [List.not_any_eq_all_not]
 congr 1
 funext n
 rw [Bool.eq_iff_iff];simp [inB]
theorem a3x (lo hi n:Int):a0l Tryz.prog 57 [i64 lo,i64 hi,.lst 0 1 [[i64 n]]] (fun _=>bl (inB n lo hi)):=by
 have:=g2b lo hi [n]
 simpa [c3r] using this
theorem e6p (b:UInt8):a0l Tryz.prog 133 [.v (.int .u8 b.toNat)] (fun _=>bl (!a1i b)):=by
 refine a0b (ow:=fun _=>false) Tryz.func133 Tryz.ntmps133 rfl rfl fun G hG hOw hNm hB=>?_;simp only [go_sem,hG,hOw]
 (repeat' with_reducible first|apply And.intro|refine exP ?_ ?_|intro);all_goals try omega
 ·rename_i h;simp [a1i];intro;omega
 ·rename_i h;simp [a1i];omega
theorem d0g (s:ByteArray):a0l Tryz.prog 60 [.v (.string s)] (fun _=>bl (a1f s)):=by
 refine a0b (ow:=fun _=>false) Tryz.func60 Tryz.ntmps60 rfl rfl fun G hG hOw hNm hB=>?_;simp only [go_sem,hG,hOw]
 refine a0a (a3x 1 12 s.size) ?_
 simp only [go_sem,hG,hOw]
 (repeat' with_reducible first|apply And.intro|refine exP ?_ ?_|intro);all_goals try omega
 ·rename_i h;simp [inB] at h;omega
 ·rename_i h
  refine a0a (a3c _ [] (fun b=>!a1i b) s.data.toList rfl (fun b _=>e6p b)) ?_
  simp only [go_sem,hG,hOw]
  unfold a1f;rw [h,Bool.and_true,List.not_any_eq_all_not];simp
 ·rename_i h;unfold a1f;rw [h,Bool.and_false]
end Go.Proofs.YtmjhfccbbfpppaaGreatDoor
