import Derived.Test.YtmjhfccbbfpppaaGreatDoorQW08
import Derived.Test.YtmjhfccbbfpppaaGreatDoorQW11
namespace Go.Proofs.YtmjhfccbbfpppaaGreatDoor
open Go Pm
set_option linter.unusedSimpArgs false
set_option linter.unusedVariables false
set_option maxHeartbeats 4000000
set_option maxRecDepth 100000
theorem c4b (k:FuncId) (cap:List V) (p:List ByteArray→Bool) (l:List (List ByteArray)) (hcap:b5r cap=true) (hf:∀ x ∈ l,a0p Tryz.prog k ((lnE 0) x++cap) (fun _=>bl (p x))) :
  a0p Tryz.prog 248 [.lst 0 1 (l.map (lnE 0)),.fn (.func k) cap] (fun _=>i64 (a4e p l)):=by
 refine a0c (ow:=fun _=>false) Tryz.func248 Tryz.ntmps248 rfl rfl fun G hG hOw hNm hB=>?_;simp only [go_sem,hG,hOw]
 have hl:=b9t hB (List.mem_cons_self ..)
 simp only [List.length_map] at hl
 refine a0n (fun i:Nat=>St.of [(0,.lst 0 1 (l.map (lnE 0))),(1,.fn (.func k) cap),(7,i64 l.length),(8,i64 i)] []) (fun i=>i≤l.length∧(l.take i).all (fun x=>!p x)=true) (fun i=>l.length - i) 0 (by simp) (a2r [] (by (simp only [go_sem])<;>simp [hcap]) (by (simp only [go_sem,a1f,a0q,a0e,a1l])<;>simp [hcap])) ?_
 rintro i ⟨hi,hall⟩
 refine a0g _ _ _ ?_;simp only [go_sem,hG,hOw]
 (repeat' with_reducible first|refine And.intro ?_ ?_|intro _|refine exP ?_ ?_);all_goals try omega
 ·rename_i hlt
  have hil:i < l.length:=by omega
  refine a1w (hf l[i] (List.getElem_mem hil)) (Subs.refl _) (by simp [b2c,pureV,pure0,b3g hcap]) (by simp [chk,hG]) ?_
  simp only [go_sem,hG,hOw]
  (repeat' with_reducible first|refine And.intro ?_ ?_|intro _|refine exP ?_ ?_);all_goals try omega
  ·rename_i hp
   exact (a9e hil hall hp).symm
  ·rename_i hp
   exact ⟨i+1,⟨by omega,a0u hil hall (by rw [hp];rfl)⟩,by omega,a2r [] (by (simp only [go_sem])<;>simp [hcap]) (by (simp only [go_sem,a1f,a0q,a0e,a1l])<;>simp [hcap])⟩
 ·rename_i hge
  rw [a1t hi hge] at hall
  exact (a8e hall).symm
theorem b7z (k:FuncId) (cap:List V) (p:List ByteArray→Bool) (l:List (List ByteArray)) (hcap:b5r cap=true) (hf:∀ x ∈ l,a0p Tryz.prog k ((lnE 0) x++cap) (fun _=>bl (p x))) :
  a0p Tryz.prog 201 [.lst 0 1 (l.map (lnE 0)),.fn (.func k) cap] (fun _=>bl (l.any p)):=by
 refine a0c (ow:=fun _=>false) Tryz.func201 Tryz.ntmps201 rfl rfl fun G hG hOw hNm hB=>?_;simp only [go_sem,hG,hOw]
 refine a0a (c4b k cap p l hcap hf) ?_
 simp only [go_sem,hG,hOw]
 rw [a8w]
theorem f4y (n lo hi:Int):a0p Tryz.prog 130 [i64 n,.fp [i64 lo],.fp [i64 hi]] (fun _=>bl (decide (n < lo) || decide (hi < n))):=by
 refine a0c (ow:=fun _=>false) Tryz.func130 Tryz.ntmps130 rfl rfl fun G hG hOw hNm hB=>?_;simp only [go_sem,hG,hOw]
 (repeat' with_reducible first|refine And.intro ?_ ?_|intro _|refine exP ?_ ?_);all_goals try omega
 ·rename_i h;rw [decide_eq_false h];rfl
 ·rename_i h;rw [decide_eq_true h];rfl
theorem g1a (lo hi:Int) (l:List Int):a0p Tryz.prog 57 [i64 lo,i64 hi,.lst 0 1 (l.map c4g)] (fun _=>bl (l.all fun n=>inB n lo hi)):=by
 refine a0c (ow:=fun _=>false) Tryz.func57 Tryz.ntmps57 rfl rfl fun G hG hOw hNm hB=>?_;simp only [go_sem,hG,hOw]
 refine a3k (fun i=>[3,4].contains i) ?_
 simp only [go_sem,hG,hOw]
 refine a0a (a5a _ [.fp [i64 lo],.fp [i64 hi]] (fun n=>decide (n < lo) || decide (hi < n)) l rfl (fun x _=>f4y x lo hi)) ?_
 simp only [go_sem,hG,hOw]
 rw [List.not_any_eq_all_not]
 congr 1
 funext n
 rw [Bool.eq_iff_iff];simp [inB]
theorem a4g (lo hi n:Int):a0p Tryz.prog 57 [i64 lo,i64 hi,.lst 0 1 [[i64 n]]] (fun _=>bl (inB n lo hi)):=by
 have:=g1a lo hi [n]
 simpa [c4g] using this
theorem f0o (b:UInt8):a0p Tryz.prog 133 [.v (.int .u8 b.toNat)] (fun _=>bl (!a1x b)):=by
 refine a0c (ow:=fun _=>false) Tryz.func133 Tryz.ntmps133 rfl rfl fun G hG hOw hNm hB=>?_;simp only [go_sem,hG,hOw]
 (repeat' with_reducible first|refine And.intro ?_ ?_|intro _|refine exP ?_ ?_);all_goals try omega
 ·rename_i h;simp [a1x];intro;omega
 ·rename_i h;simp [a1x];omega
theorem d0v (s:ByteArray):a0p Tryz.prog 60 [.v (.string s)] (fun _=>bl (a1i s)):=by
 refine a0c (ow:=fun _=>false) Tryz.func60 Tryz.ntmps60 rfl rfl fun G hG hOw hNm hB=>?_;simp only [go_sem,hG,hOw]
 refine a0a (a4g 1 12 s.size) ?_
 simp only [go_sem,hG,hOw]
 (repeat' with_reducible first|refine And.intro ?_ ?_|intro _|refine exP ?_ ?_);all_goals try omega
 ·rename_i h;simp [inB] at h;omega
 ·rename_i h
  refine a0a (a3o _ [] (fun b=>!a1x b) s.data.toList rfl (fun b _=>f0o b)) ?_
  simp only [go_sem,hG,hOw]
  unfold a1i;rw [h,Bool.and_true,List.not_any_eq_all_not];simp
 ·rename_i h;unfold a1i;rw [h,Bool.and_false]
end Go.Proofs.YtmjhfccbbfpppaaGreatDoor
