import Derived.Test.YtmjhfccbbfpppaaGreatDoorQB08
import Derived.Test.YtmjhfccbbfpppaaGreatDoorQB10
namespace Go.Proofs.YtmjhfccbbfpppaaGreatDoor
open Go Pm
set_option linter.unusedSimpArgs false
set_option linter.unusedVariables false
set_option maxHeartbeats 4000000
set_option maxRecDepth 100000
def c3r (n:Int):List V:=[i64 n]
attribute [go_sem] c3r a4v
theorem c2p (l:List UInt8):a3b (l.map a4v)=true:=a2l (fun _=>rfl) l
theorem c6j (l:List Int):a3b (l.map c3r)=true:=a2l (fun _=>rfl) l
attribute [go_sem] c2p c6j
theorem c5c {lo sz:Nat} {l:List (List V)} {xs:List V} (h:∀ x ∈ xs,Bd x) (hm:V.lst lo sz l ∈ xs):l.length≤140737488355328:=by
 cases h _ hm with
 |lst _ _ _ hl _=>exact hl
def a9b {α:Type} (p:α→Bool) (l:List α):Int:=match l.findIdx? p with
 |some i=>i
 |none=>-1
theorem b0p {α:Type} {p:α→Bool} {l:List α} {k:Nat} (hk:k < l.length) (h:(l.take k).all (fun x=>!p x)=true) (hp:p l[k]=true):a9b p l=k:=by
 have:l.findIdx? p=some k:=by
  rw [List.findIdx?_eq_some_iff_getElem]
  refine ⟨hk,hp,fun j hj=>?_⟩
  have:=List.all_eq_true.1 h l[j] (List.mem_take_iff_getElem.2 ⟨j,by omega,rfl⟩)
  simpa using this
 simp [a9b,this]
theorem a8o {α:Type} {p:α→Bool} {l:List α} (h:l.all (fun x=>!p x)=true):a9b p l=-1:=by
 have:l.findIdx? p=none:=by
  rw [List.findIdx?_eq_none_iff]
  intro x hx
  simpa using List.all_eq_true.1 h x hx
 simp [a9b,this]
theorem a7v {α:Type} (p:α→Bool) (l:List α):decide (0≤a9b p l)=l.any p:=by
 cases h:l.any p with
 |false =>
  rw [a8o (by simpa using h)];rfl
 |true =>
  have:∃ i,l.findIdx? p=some i:=by
   cases e:l.findIdx? p with
   |some i=>exact ⟨i,rfl⟩
   |none=>rw [List.findIdx?_eq_none_iff] at e;simp at h;obtain ⟨x,hx,hp⟩:=h;rw [e x hx] at hp;cases hp
  obtain ⟨i,hi⟩:=this
  simp [a9b,hi]
theorem c2m (k:FuncId) (cap:List V) (p:Int→Bool) (l:List Int) (hcap:b3o cap=true) (hf:∀ x ∈ l,a0l Tryz.prog k (c3r x++cap) (fun _=>bl (p x))) :
  a0l Tryz.prog 186 [.lst 0 1 (l.map c3r),.fn (.func k) cap] (fun _=>i64 (a9b p l)):=by
 refine a0b (ow:=fun _=>false) Tryz.func186 Tryz.ntmps186 rfl rfl fun G hG hOw hNm hB=>?_;simp only [go_sem,hG,hOw]
 have hl:=c5c hB (List.mem_cons_self ..)
 simp only [List.length_map] at hl
 refine a0k (fun i:Nat=>St.of [(0,.lst 0 1 (l.map c3r)),(1,.fn (.func k) cap),(7,i64 l.length),(8,i64 i)] []) (fun i=>i≤l.length∧(l.take i).all (fun x=>!p x)=true) (fun i=>l.length - i) 0 (by simp) (a1m [] (by (simp only [go_sem])<;>simp [hcap]) (by (simp only [go_sem,a1d,a0r,a0i,a1l])<;>simp [hcap])) ?_
 rintro i ⟨hi,hall⟩
 refine a0d _ _ _ ?_;simp only [go_sem,hG,hOw]
 (repeat' with_reducible first|apply And.intro|refine exP ?_ ?_|intro);all_goals try omega
 ·rename_i hlt
  have hil:i < l.length:=by omega
  refine a1p (hf l[i] (List.getElem_mem hil)) (Subs.refl _) (by simp [b0t,pureV,pure0,b2o hcap]) (by simp [chk,hG]) ?_
  simp only [go_sem,hG,hOw]
  (repeat' with_reducible first|apply And.intro|refine exP ?_ ?_|intro);all_goals try omega
  ·rename_i hp
   exact (b0p hil hall hp).symm
  ·rename_i hp
   exact ⟨i+1,⟨by omega,a0u hil hall (by rw [hp];rfl)⟩,by omega,a1m [] (by (simp only [go_sem])<;>simp [hcap]) (by (simp only [go_sem,a1d,a0r,a0i,a1l])<;>simp [hcap])⟩
 ·rename_i hge
  rw [a1k hi hge] at hall
  exact (a8o hall).symm
theorem a4o (k:FuncId) (cap:List V) (p:Int→Bool) (l:List Int) (hcap:b3o cap=true) (hf:∀ x ∈ l,a0l Tryz.prog k (c3r x++cap) (fun _=>bl (p x))) :
  a0l Tryz.prog 129 [.lst 0 1 (l.map c3r),.fn (.func k) cap] (fun _=>bl (l.any p)):=by
 refine a0b (ow:=fun _=>false) Tryz.func129 Tryz.ntmps129 rfl rfl fun G hG hOw hNm hB=>?_;simp only [go_sem,hG,hOw]
 refine a0a (c2m k cap p l hcap hf) ?_
 simp only [go_sem,hG,hOw]
 rw [a7v]
theorem b8m (k:FuncId) (cap:List V) (p:UInt8→Bool) (l:List UInt8) (hcap:b3o cap=true) (hf:∀ x ∈ l,a0l Tryz.prog k (a4v x++cap) (fun _=>bl (p x))) :
  a0l Tryz.prog 187 [.lst 0 1 (l.map a4v),.fn (.func k) cap] (fun _=>i64 (a9b p l)):=by
 refine a0b (ow:=fun _=>false) Tryz.func187 Tryz.ntmps187 rfl rfl fun G hG hOw hNm hB=>?_;simp only [go_sem,hG,hOw]
 have hl:=c5c hB (List.mem_cons_self ..)
 simp only [List.length_map] at hl
 refine a0k (fun i:Nat=>St.of [(0,.lst 0 1 (l.map a4v)),(1,.fn (.func k) cap),(7,i64 l.length),(8,i64 i)] []) (fun i=>i≤l.length∧(l.take i).all (fun x=>!p x)=true) (fun i=>l.length - i) 0 (by simp) (a1m [] (by (simp only [go_sem])<;>simp [hcap]) (by (simp only [go_sem,a1d,a0r,a0i,a1l])<;>simp [hcap])) ?_
 rintro i ⟨hi,hall⟩
 refine a0d _ _ _ ?_;simp only [go_sem,hG,hOw]
 (repeat' with_reducible first|apply And.intro|refine exP ?_ ?_|intro);all_goals try omega
 ·rename_i hlt
  have hil:i < l.length:=by omega
  refine a1p (hf l[i] (List.getElem_mem hil)) (Subs.refl _) (by simp [b0t,pureV,pure0,b2o hcap]) (by simp [chk,hG]) ?_
  simp only [go_sem,hG,hOw]
  (repeat' with_reducible first|apply And.intro|refine exP ?_ ?_|intro);all_goals try omega
  ·rename_i hp
   exact (b0p hil hall hp).symm
  ·rename_i hp
   exact ⟨i+1,⟨by omega,a0u hil hall (by rw [hp];rfl)⟩,by omega,a1m [] (by (simp only [go_sem])<;>simp [hcap]) (by (simp only [go_sem,a1d,a0r,a0i,a1l])<;>simp [hcap])⟩
 ·rename_i hge
  rw [a1k hi hge] at hall
  exact (a8o hall).symm
theorem a3c (k:FuncId) (cap:List V) (p:UInt8→Bool) (l:List UInt8) (hcap:b3o cap=true) (hf:∀ x ∈ l,a0l Tryz.prog k (a4v x++cap) (fun _=>bl (p x))) :
  a0l Tryz.prog 132 [.lst 0 1 (l.map a4v),.fn (.func k) cap] (fun _=>bl (l.any p)):=by
 refine a0b (ow:=fun _=>false) Tryz.func132 Tryz.ntmps132 rfl rfl fun G hG hOw hNm hB=>?_;simp only [go_sem,hG,hOw]
 refine a0a (b8m k cap p l hcap hf) ?_
 simp only [go_sem,hG,hOw]
 rw [a7v]
theorem a8g (k:FuncId) (cap:List V) (p:ByteArray→Bool) (l:List ByteArray) (hcap:b3o cap=true) (hf:∀ x ∈ l,a0l Tryz.prog k (a2c x++cap) (fun _=>bl (p x))) :
  a0l Tryz.prog 131 [.lst 0 1 (l.map a2c),.fn (.func k) cap] (fun _=>i64 (a9b p l)):=by
 refine a0b (ow:=fun _=>false) Tryz.func131 Tryz.ntmps131 rfl rfl fun G hG hOw hNm hB=>?_;simp only [go_sem,hG,hOw]
 have hl:=c5c hB (List.mem_cons_self ..)
 simp only [List.length_map] at hl
 refine a0k (fun i:Nat=>St.of [(0,.lst 0 1 (l.map a2c)),(1,.fn (.func k) cap),(7,i64 l.length),(8,i64 i)] []) (fun i=>i≤l.length∧(l.take i).all (fun x=>!p x)=true) (fun i=>l.length - i) 0 (by simp) (a1m [] (by (simp only [go_sem])<;>simp [hcap]) (by (simp only [go_sem,a1d,a0r,a0i,a1l])<;>simp [hcap])) ?_
 rintro i ⟨hi,hall⟩
 refine a0d _ _ _ ?_;simp only [go_sem,hG,hOw]
 (repeat' with_reducible first|apply And.intro|refine exP ?_ ?_|intro);all_goals try omega
 ·rename_i hlt
  have hil:i < l.length:=by omega
  refine a1p (hf l[i] (List.getElem_mem hil)) (Subs.refl _) (by simp [b0t,pureV,pure0,b2o hcap]) (by simp [chk,hG]) ?_
  simp only [go_sem,hG,hOw]
  (repeat' with_reducible first|apply And.intro|refine exP ?_ ?_|intro);all_goals try omega
  ·rename_i hp
   exact (b0p hil hall hp).symm
  ·rename_i hp
   exact ⟨i+1,⟨by omega,a0u hil hall (by rw [hp];rfl)⟩,by omega,a1m [] (by (simp only [go_sem])<;>simp [hcap]) (by (simp only [go_sem,a1d,a0r,a0i,a1l])<;>simp [hcap])⟩
 ·rename_i hge
  rw [a1k hi hge] at hall
  exact (a8o hall).symm
theorem a8u (k:FuncId) (cap:List V) (p:ByteArray→Bool) (l:List ByteArray) (hcap:b3o cap=true) (hf:∀ x ∈ l,a0l Tryz.prog k (a2c x++cap) (fun _=>bl (p x))) :
  a0l Tryz.prog 58 [.lst 0 1 (l.map a2c),.fn (.func k) cap] (fun _=>bl (l.any p)):=by
 refine a0b (ow:=fun _=>false) Tryz.func58 Tryz.ntmps58 rfl rfl fun G hG hOw hNm hB=>?_;simp only [go_sem,hG,hOw]
 refine a0a (a8g k cap p l hcap hf) ?_
 simp only [go_sem,hG,hOw]
 rw [a7v]
end Go.Proofs.YtmjhfccbbfpppaaGreatDoor
