import Derived.Test.YtmjhfccbbfpppaaGreatDoorQA08
import Derived.Test.YtmjhfccbbfpppaaGreatDoorQA11
namespace Go.Proofs.YtmjhfccbbfpppaaGreatDoor
open Go Pm
set_option linter.unusedSimpArgs false
set_option linter.unusedVariables false
set_option maxHeartbeats 4000000
set_option maxRecDepth 100000
def c0t (n:Int):List V:=[i64 n]
attribute [go_sem] c0t a4w
theorem c1n (l:List UInt8):a2p (l.map a4w)=true:=a2b (fun _=>rfl) l
theorem c4t (l:List Int):a2p (l.map c0t)=true:=a2b (fun _=>rfl) l
attribute [go_sem] c1n c4t
theorem b8n {lo sz:Nat} {l:List (List V)} {xs:List V} (h:∀ x ∈ xs,Bd x) (hm:V.lst lo sz l ∈ xs):l.length≤140737488355328:=by
 cases h _ hm with
 |lst _ _ _ hl _=>exact hl
def a8u {α:Type} (p:α→Bool) (l:List α):Int:=match l.findIdx? p with
 |some i=>i
 |none=>-1
theorem b0e {α:Type} {p:α→Bool} {l:List α} {k:Nat} (hk:k < l.length) (h:(l.take k).all (fun x=>!p x)=true) (hp:p l[k]=true):a8u p l=k:=by
 have:l.findIdx? p=some k:=by
  rw [List.findIdx?_eq_some_iff_getElem]
  refine ⟨hk,hp,fun j hj=>?_⟩
  have:=List.all_eq_true.1 h l[j] (List.mem_take_iff_getElem.2 ⟨j,by omega,rfl⟩)
  simpa using this
 simp [a8u,this]
theorem a7u {α:Type} {p:α→Bool} {l:List α} (h:l.all (fun x=>!p x)=true):a8u p l=-1:=by
 have:l.findIdx? p=none:=by
  rw [List.findIdx?_eq_none_iff]
  intro x hx
  simpa using List.all_eq_true.1 h x hx
 simp [a8u,this]
theorem a7k {α:Type} (p:α→Bool) (l:List α):decide (0≤a8u p l)=l.any p:=by
 cases h:l.any p with
 |false =>
  rw [a7u (by simpa using h)];rfl
 |true =>
  have:∃ i,l.findIdx? p=some i:=by
   cases e:l.findIdx? p with
   |some i=>exact ⟨i,rfl⟩
   |none=>rw [List.findIdx?_eq_none_iff] at e;simp at h;obtain ⟨x,hx,hp⟩:=h;rw [e x hx] at hp;cases hp
  obtain ⟨i,hi⟩:=this
  simp [a8u,hi]
theorem c1f (k:FuncId) (cap:List V) (p:Int→Bool) (l:List Int) (hcap:b2q cap=true) (hf:∀ x ∈ l,a0l Tryz.prog k (c0t x++cap) (fun _=>bl (p x))) :
  a0l Tryz.prog 186 [.lst 0 1 (l.map c0t),.fn (.func k) cap] (fun _=>i64 (a8u p l)):=by
 refine a0b (ow:=fun _=>false) Tryz.func186 Tryz.ntmps186 rfl rfl fun G hG hOw hNm hB=>?_;simp only [go_sem,hG,hOw]
 have hl:=b8n hB (List.mem_cons_self ..)
 simp only [List.length_map] at hl
 refine a0i (fun i:Nat=>St.of [(0,.lst 0 1 (l.map c0t)),(1,.fn (.func k) cap),(7,i64 l.length),(8,i64 i)] []) (fun i=>i≤l.length∧(l.take i).all (fun x=>!p x)=true) (fun i=>l.length - i) 0 (by simp) (a1m [] (by (simp only [go_sem])<;>simp [hcap]) (by (simp only [go_sem,a1k,a0s,a0j,a1q])<;>simp [hcap])) ?_
 rintro i ⟨hi,hall⟩
 refine a0d _ _ _ ?_;simp only [go_sem,hG,hOw]
 (repeat' with_reducible first|refine And.intro ?_ ?_|intro _|refine exP ?_ ?_);all_goals try omega
 ·rename_i hlt
  have hil:i < l.length:=by omega
  refine a1j (hf l[i] (List.getElem_mem hil)) (Subs.refl _) (by simp [a9b,pureV,pure0,b2b hcap]) (by simp [chk,hG]) ?_
  simp only [go_sem,hG,hOw]
  (repeat' with_reducible first|refine And.intro ?_ ?_|intro _|refine exP ?_ ?_);all_goals try omega
  ·rename_i hp
   exact (b0e hil hall hp).symm
  ·rename_i hp
   exact ⟨i+1,⟨by omega,a0v hil hall (by rw [hp];rfl)⟩,by omega,a1m [] (by (simp only [go_sem])<;>simp [hcap]) (by (simp only [go_sem,a1k,a0s,a0j,a1q])<;>simp [hcap])⟩
 ·rename_i hge
  rw [a1t hi hge] at hall
  exact (a7u hall).symm
theorem a3i (k:FuncId) (cap:List V) (p:Int→Bool) (l:List Int) (hcap:b2q cap=true) (hf:∀ x ∈ l,a0l Tryz.prog k (c0t x++cap) (fun _=>bl (p x))) :
  a0l Tryz.prog 129 [.lst 0 1 (l.map c0t),.fn (.func k) cap] (fun _=>bl (l.any p)):=by
 refine a0b (ow:=fun _=>false) Tryz.func129 Tryz.ntmps129 rfl rfl fun G hG hOw hNm hB=>?_;simp only [go_sem,hG,hOw]
 refine a0a (c1f k cap p l hcap hf) ?_
 simp only [go_sem,hG,hOw]
 rw [a7k]
theorem b7i (k:FuncId) (cap:List V) (p:UInt8→Bool) (l:List UInt8) (hcap:b2q cap=true) (hf:∀ x ∈ l,a0l Tryz.prog k (a4w x++cap) (fun _=>bl (p x))) :
  a0l Tryz.prog 187 [.lst 0 1 (l.map a4w),.fn (.func k) cap] (fun _=>i64 (a8u p l)):=by
 refine a0b (ow:=fun _=>false) Tryz.func187 Tryz.ntmps187 rfl rfl fun G hG hOw hNm hB=>?_;simp only [go_sem,hG,hOw]
 have hl:=b8n hB (List.mem_cons_self ..)
 simp only [List.length_map] at hl
 refine a0i (fun i:Nat=>St.of [(0,.lst 0 1 (l.map a4w)),(1,.fn (.func k) cap),(7,i64 l.length),(8,i64 i)] []) (fun i=>i≤l.length∧(l.take i).all (fun x=>!p x)=true) (fun i=>l.length - i) 0 (by simp) (a1m [] (by (simp only [go_sem])<;>simp [hcap]) (by (simp only [go_sem,a1k,a0s,a0j,a1q])<;>simp [hcap])) ?_
 rintro i ⟨hi,hall⟩
 refine a0d _ _ _ ?_;simp only [go_sem,hG,hOw]
 (repeat' with_reducible first|refine And.intro ?_ ?_|intro _|refine exP ?_ ?_);all_goals try omega
 ·rename_i hlt
  have hil:i < l.length:=by omega
  refine a1j (hf l[i] (List.getElem_mem hil)) (Subs.refl _) (by simp [a9b,pureV,pure0,b2b hcap]) (by simp [chk,hG]) ?_
  simp only [go_sem,hG,hOw]
  (repeat' with_reducible first|refine And.intro ?_ ?_|intro _|refine exP ?_ ?_);all_goals try omega
  ·rename_i hp
   exact (b0e hil hall hp).symm
  ·rename_i hp
   exact ⟨i+1,⟨by omega,a0v hil hall (by rw [hp];rfl)⟩,by omega,a1m [] (by (simp only [go_sem])<;>simp [hcap]) (by (simp only [go_sem,a1k,a0s,a0j,a1q])<;>simp [hcap])⟩
 ·rename_i hge
  rw [a1t hi hge] at hall
  exact (a7u hall).symm
theorem a3b (k:FuncId) (cap:List V) (p:UInt8→Bool) (l:List UInt8) (hcap:b2q cap=true) (hf:∀ x ∈ l,a0l Tryz.prog k (a4w x++cap) (fun _=>bl (p x))) :
  a0l Tryz.prog 132 [.lst 0 1 (l.map a4w),.fn (.func k) cap] (fun _=>bl (l.any p)):=by
 refine a0b (ow:=fun _=>false) Tryz.func132 Tryz.ntmps132 rfl rfl fun G hG hOw hNm hB=>?_;simp only [go_sem,hG,hOw]
 refine a0a (b7i k cap p l hcap hf) ?_
 simp only [go_sem,hG,hOw]
 rw [a7k]
theorem a8b (k:FuncId) (cap:List V) (p:ByteArray→Bool) (l:List ByteArray) (hcap:b2q cap=true) (hf:∀ x ∈ l,a0l Tryz.prog k (a1z x++cap) (fun _=>bl (p x))) :
  a0l Tryz.prog 131 [.lst 0 1 (l.map a1z),.fn (.func k) cap] (fun _=>i64 (a8u p l)):=by
 refine a0b (ow:=fun _=>false) Tryz.func131 Tryz.ntmps131 rfl rfl fun G hG hOw hNm hB=>?_;simp only [go_sem,hG,hOw]
 have hl:=b8n hB (List.mem_cons_self ..)
 simp only [List.length_map] at hl
 refine a0i (fun i:Nat=>St.of [(0,.lst 0 1 (l.map a1z)),(1,.fn (.func k) cap),(7,i64 l.length),(8,i64 i)] []) (fun i=>i≤l.length∧(l.take i).all (fun x=>!p x)=true) (fun i=>l.length - i) 0 (by simp) (a1m [] (by (simp only [go_sem])<;>simp [hcap]) (by (simp only [go_sem,a1k,a0s,a0j,a1q])<;>simp [hcap])) ?_
 rintro i ⟨hi,hall⟩
 refine a0d _ _ _ ?_;simp only [go_sem,hG,hOw]
 (repeat' with_reducible first|refine And.intro ?_ ?_|intro _|refine exP ?_ ?_);all_goals try omega
 ·rename_i hlt
  have hil:i < l.length:=by omega
  refine a1j (hf l[i] (List.getElem_mem hil)) (Subs.refl _) (by simp [a9b,pureV,pure0,b2b hcap]) (by simp [chk,hG]) ?_
  simp only [go_sem,hG,hOw]
  (repeat' with_reducible first|refine And.intro ?_ ?_|intro _|refine exP ?_ ?_);all_goals try omega
  ·rename_i hp
   exact (b0e hil hall hp).symm
  ·rename_i hp
   exact ⟨i+1,⟨by omega,a0v hil hall (by rw [hp];rfl)⟩,by omega,a1m [] (by (simp only [go_sem])<;>simp [hcap]) (by (simp only [go_sem,a1k,a0s,a0j,a1q])<;>simp [hcap])⟩
 ·rename_i hge
  rw [a1t hi hge] at hall
  exact (a7u hall).symm
theorem a8k (k:FuncId) (cap:List V) (p:ByteArray→Bool) (l:List ByteArray) (hcap:b2q cap=true) (hf:∀ x ∈ l,a0l Tryz.prog k (a1z x++cap) (fun _=>bl (p x))) :
  a0l Tryz.prog 58 [.lst 0 1 (l.map a1z),.fn (.func k) cap] (fun _=>bl (l.any p)):=by
 refine a0b (ow:=fun _=>false) Tryz.func58 Tryz.ntmps58 rfl rfl fun G hG hOw hNm hB=>?_;simp only [go_sem,hG,hOw]
 refine a0a (a8b k cap p l hcap hf) ?_
 simp only [go_sem,hG,hOw]
 rw [a7k]
end Go.Proofs.YtmjhfccbbfpppaaGreatDoor
