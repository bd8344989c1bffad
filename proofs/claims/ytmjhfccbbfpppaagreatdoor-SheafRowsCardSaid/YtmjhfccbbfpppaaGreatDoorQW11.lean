import Derived.Test.YtmjhfccbbfpppaaGreatDoorQW08
import Derived.Test.YtmjhfccbbfpppaaGreatDoorQW10
namespace Go.Proofs.YtmjhfccbbfpppaaGreatDoor
open Go Pm
set_option linter.unusedSimpArgs false
set_option linter.unusedVariables false
set_option maxHeartbeats 4000000
set_option maxRecDepth 100000
def c4g (n:Int):List V:=[i64 n]
attribute [go_sem] c4g a5j
theorem c2h (l:List UInt8):a3b (l.map a5j)=true:=a2w (fun _=>rfl) l
theorem c4h (l:List Int):a3b (l.map c4g)=true:=a2w (fun _=>rfl) l
attribute [go_sem] c2h c4h
theorem b9t {lo sz:Nat} {l:List (List V)} {xs:List V} (h:∀ x ∈ xs,Bd x) (hm:V.lst lo sz l ∈ xs):l.length≤140737488355328:=by
 cases h _ hm with
 |lst _ _ _ hl _=>exact hl
def a4e {α:Type} (p:α→Bool) (l:List α):Int:=match l.findIdx? p with
 |some i=>i
 |none=>-1
theorem a9e {α:Type} {p:α→Bool} {l:List α} {k:Nat} (hk:k < l.length) (h:(l.take k).all (fun x=>!p x)=true) (hp:p l[k]=true):a4e p l=k:=by
 have:l.findIdx? p=some k:=by
  rw [List.findIdx?_eq_some_iff_getElem]
  refine ⟨hk,hp,fun j hj=>?_⟩
  have:=List.all_eq_true.1 h l[j] (List.mem_take_iff_getElem.2 ⟨j,by omega,rfl⟩)
  simpa using this
 simp [a4e,this]
theorem a8e {α:Type} {p:α→Bool} {l:List α} (h:l.all (fun x=>!p x)=true):a4e p l=-1:=by
 have:l.findIdx? p=none:=by
  rw [List.findIdx?_eq_none_iff]
  intro x hx
  simpa using List.all_eq_true.1 h x hx
 simp [a4e,this]
theorem a8w {α:Type} (p:α→Bool) (l:List α):decide (0≤a4e p l)=l.any p:=by
 cases h:l.any p with
 |false =>
  rw [a8e (by simpa using h)];rfl
 |true =>
  have:∃ i,l.findIdx? p=some i:=by
   cases e:l.findIdx? p with
   |some i=>exact ⟨i,rfl⟩
   |none=>rw [List.findIdx?_eq_none_iff] at e;simp at h;obtain ⟨x,hx,hp⟩:=h;rw [e x hx] at hp;cases hp
  obtain ⟨i,hi⟩:=this
  simp [a4e,hi]
theorem c2v (k:FuncId) (cap:List V) (p:Int→Bool) (l:List Int) (hcap:b5r cap=true) (hf:∀ x ∈ l,a0p Tryz.prog k (c4g x++cap) (fun _=>bl (p x))) :
  a0p Tryz.prog 186 [.lst 0 1 (l.map c4g),.fn (.func k) cap] (fun _=>i64 (a4e p l)):=by
 refine a0c (ow:=fun _=>false) Tryz.func186 Tryz.ntmps186 rfl rfl fun G hG hOw hNm hB=>?_;simp only [go_sem,hG,hOw]
 have hl:=b9t hB (List.mem_cons_self ..)
 simp only [List.length_map] at hl
 refine a0n (fun i:Nat=>St.of [(0,.lst 0 1 (l.map c4g)),(1,.fn (.func k) cap),(7,i64 l.length),(8,i64 i)] []) (fun i=>i≤l.length∧(l.take i).all (fun x=>!p x)=true) (fun i=>l.length - i) 0 (by simp) (a2r [] (by (simp only [go_sem])<;>simp [hcap]) (by (simp only [go_sem,a1f,a0q,a0e,a1l])<;>simp [hcap])) ?_
 rintro i ⟨hi,hall⟩
 refine a0g _ _ _ ?_;simp only [go_sem,hG,hOw]
 (repeat' with_reducible first|refine And.intro ?_ ?_|intro _|refine exP ?_ ?_);all_goals try omega
 ·rename_i hlt
  have hil:i < l.length:=by omega
  refine a1w (hf l[i] (List.getElem_mem hil)) (Subs.refl _) (by simp [b2c,pureV,pure0,b3g hcap]) (by simp [chk,hG]) ?_
  simp only [go_sem,hG,hOw]
  (repeat' with_reducible first|refine And.intro ?_ ?_|intro _|refine exP ?_ ?_);all_goals try omega
  ·rename_i hp
   exact (a9e hil hall hp).symm
  ·rename_i hp
   exact ⟨i+1,⟨by omega,a0u hil hall (by rw [hp];rfl)⟩,by omega,a2r [] (by (simp only [go_sem])<;>simp [hcap]) (by (simp only [go_sem,a1f,a0q,a0e,a1l])<;>simp [hcap])⟩
 ·rename_i hge
  rw [a1t hi hge] at hall
  exact (a8e hall).symm
theorem a5a (k:FuncId) (cap:List V) (p:Int→Bool) (l:List Int) (hcap:b5r cap=true) (hf:∀ x ∈ l,a0p Tryz.prog k (c4g x++cap) (fun _=>bl (p x))) :
  a0p Tryz.prog 129 [.lst 0 1 (l.map c4g),.fn (.func k) cap] (fun _=>bl (l.any p)):=by
 refine a0c (ow:=fun _=>false) Tryz.func129 Tryz.ntmps129 rfl rfl fun G hG hOw hNm hB=>?_;simp only [go_sem,hG,hOw]
 refine a0a (c2v k cap p l hcap hf) ?_
 simp only [go_sem,hG,hOw]
 rw [a8w]
theorem b9f (k:FuncId) (cap:List V) (p:UInt8→Bool) (l:List UInt8) (hcap:b5r cap=true) (hf:∀ x ∈ l,a0p Tryz.prog k (a5j x++cap) (fun _=>bl (p x))) :
  a0p Tryz.prog 187 [.lst 0 1 (l.map a5j),.fn (.func k) cap] (fun _=>i64 (a4e p l)):=by
 refine a0c (ow:=fun _=>false) Tryz.func187 Tryz.ntmps187 rfl rfl fun G hG hOw hNm hB=>?_;simp only [go_sem,hG,hOw]
 have hl:=b9t hB (List.mem_cons_self ..)
 simp only [List.length_map] at hl
 refine a0n (fun i:Nat=>St.of [(0,.lst 0 1 (l.map a5j)),(1,.fn (.func k) cap),(7,i64 l.length),(8,i64 i)] []) (fun i=>i≤l.length∧(l.take i).all (fun x=>!p x)=true) (fun i=>l.length - i) 0 (by simp) (a2r [] (by (simp only [go_sem])<;>simp [hcap]) (by (simp only [go_sem,a1f,a0q,a0e,a1l])<;>simp [hcap])) ?_
 rintro i ⟨hi,hall⟩
 refine a0g _ _ _ ?_;simp only [go_sem,hG,hOw]
 (repeat' with_reducible first|refine And.intro ?_ ?_|intro _|refine exP ?_ ?_);all_goals try omega
 ·rename_i hlt
  have hil:i < l.length:=by omega
  refine a1w (hf l[i] (List.getElem_mem hil)) (Subs.refl _) (by simp [b2c,pureV,pure0,b3g hcap]) (by simp [chk,hG]) ?_
  simp only [go_sem,hG,hOw]
  (repeat' with_reducible first|refine And.intro ?_ ?_|intro _|refine exP ?_ ?_);all_goals try omega
  ·rename_i hp
   exact (a9e hil hall hp).symm
  ·rename_i hp
   exact ⟨i+1,⟨by omega,a0u hil hall (by rw [hp];rfl)⟩,by omega,a2r [] (by (simp only [go_sem])<;>simp [hcap]) (by (simp only [go_sem,a1f,a0q,a0e,a1l])<;>simp [hcap])⟩
 ·rename_i hge
  rw [a1t hi hge] at hall
  exact (a8e hall).symm
theorem a3o (k:FuncId) (cap:List V) (p:UInt8→Bool) (l:List UInt8) (hcap:b5r cap=true) (hf:∀ x ∈ l,a0p Tryz.prog k (a5j x++cap) (fun _=>bl (p x))) :
  a0p Tryz.prog 132 [.lst 0 1 (l.map a5j),.fn (.func k) cap] (fun _=>bl (l.any p)):=by
 refine a0c (ow:=fun _=>false) Tryz.func132 Tryz.ntmps132 rfl rfl fun G hG hOw hNm hB=>?_;simp only [go_sem,hG,hOw]
 refine a0a (b9f k cap p l hcap hf) ?_
 simp only [go_sem,hG,hOw]
 rw [a8w]
theorem a9a (k:FuncId) (cap:List V) (p:ByteArray→Bool) (l:List ByteArray) (hcap:b5r cap=true) (hf:∀ x ∈ l,a0p Tryz.prog k (a2j x++cap) (fun _=>bl (p x))) :
  a0p Tryz.prog 131 [.lst 0 1 (l.map a2j),.fn (.func k) cap] (fun _=>i64 (a4e p l)):=by
 refine a0c (ow:=fun _=>false) Tryz.func131 Tryz.ntmps131 rfl rfl fun G hG hOw hNm hB=>?_;simp only [go_sem,hG,hOw]
 have hl:=b9t hB (List.mem_cons_self ..)
 simp only [List.length_map] at hl
 refine a0n (fun i:Nat=>St.of [(0,.lst 0 1 (l.map a2j)),(1,.fn (.func k) cap),(7,i64 l.length),(8,i64 i)] []) (fun i=>i≤l.length∧(l.take i).all (fun x=>!p x)=true) (fun i=>l.length - i) 0 (by simp) (a2r [] (by (simp only [go_sem])<;>simp [hcap]) (by (simp only [go_sem,a1f,a0q,a0e,a1l])<;>simp [hcap])) ?_
 rintro i ⟨hi,hall⟩
 refine a0g _ _ _ ?_;simp only [go_sem,hG,hOw]
 (repeat' with_reducible first|refine And.intro ?_ ?_|intro _|refine exP ?_ ?_);all_goals try omega
 ·rename_i hlt
  have hil:i < l.length:=by omega
  refine a1w (hf l[i] (List.getElem_mem hil)) (Subs.refl _) (by simp [b2c,pureV,pure0,b3g hcap]) (by simp [chk,hG]) ?_
  simp only [go_sem,hG,hOw]
  (repeat' with_reducible first|refine And.intro ?_ ?_|intro _|refine exP ?_ ?_);all_goals try omega
  ·rename_i hp
   exact (a9e hil hall hp).symm
  ·rename_i hp
   exact ⟨i+1,⟨by omega,a0u hil hall (by rw [hp];rfl)⟩,by omega,a2r [] (by (simp only [go_sem])<;>simp [hcap]) (by (simp only [go_sem,a1f,a0q,a0e,a1l])<;>simp [hcap])⟩
 ·rename_i hge
  rw [a1t hi hge] at hall
  exact (a8e hall).symm
theorem a9m (k:FuncId) (cap:List V) (p:ByteArray→Bool) (l:List ByteArray) (hcap:b5r cap=true) (hf:∀ x ∈ l,a0p Tryz.prog k (a2j x++cap) (fun _=>bl (p x))) :
  a0p Tryz.prog 58 [.lst 0 1 (l.map a2j),.fn (.func k) cap] (fun _=>bl (l.any p)):=by
 refine a0c (ow:=fun _=>false) Tryz.func58 Tryz.ntmps58 rfl rfl fun G hG hOw hNm hB=>?_;simp only [go_sem,hG,hOw]
 refine a0a (a9a k cap p l hcap hf) ?_
 simp only [go_sem,hG,hOw]
 rw [a8w]
end Go.Proofs.YtmjhfccbbfpppaaGreatDoor
