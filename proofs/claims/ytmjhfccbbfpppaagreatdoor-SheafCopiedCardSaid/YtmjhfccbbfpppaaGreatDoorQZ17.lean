import Derived.Test.YtmjhfccbbfpppaaGreatDoorQZ16
namespace Go.Proofs.YtmjhfccbbfpppaaGreatDoor
open Go Pm
set_option linter.unusedSimpArgs false
set_option linter.unusedVariables false
set_option maxHeartbeats 4000000
set_option maxRecDepth 100000
instance:DecidableEq Ch:=fun a b=>by cases a;cases b;simp only [Ch.mk.injEq];infer_instance
instance:DecidableEq Hp:=fun a b=>by cases a;cases b;simp only [Hp.mk.injEq];infer_instance
instance:DecidableEq Sr:=fun a b=>by cases a;cases b;simp only [Sr.mk.injEq];infer_instance
instance:DecidableEq Se:=fun a b=>by cases a;cases b;simp only [Se.mk.injEq];infer_instance
instance:DecidableEq Ro:=fun a b=>by cases a;cases b;simp only [Ro.mk.injEq];infer_instance
theorem b2y {α:Type} {l m:List α} {k:Nat} (h:l.take k=m.take k) (hl:k < l.length) (hm:k < m.length) (e:l[k]=m[k]):l.take (k+1)=m.take (k+1):=by
 rw [List.take_add_one,List.take_add_one,h,List.getElem?_eq_getElem hl,List.getElem?_eq_getElem hm,e]
theorem e1u (a b:List Ch) (ha:OKt a):a0n Tryz.prog 17 [txE 0 a,txE 0 b] (fun _=>bl (decide (a=b))):=by
 refine a0b (ow:=fun _=>false) Tryz.func17 Tryz.ntmps17 rfl rfl fun G hG hOw hNm hB=>?_;simp only [go_sem,hG,hOw]
 obtain ⟨ha1,ha2⟩:=ha
 have no:a≠b→false=decide (a=b):=fun h=>by rw [decide_eq_false h]
 (repeat' with_reducible first|refine And.intro ?_ ?_|intro _|refine exP ?_ ?_);all_goals try omega
 ·rename_i h
  exact no (by rintro rfl;simp at h)
 ·rename_i h
  have hlen:a.length=b.length:=by omega
  refine a0m (fun k:Nat=>St.of [(2,.ptr 2 0),(3,.ptr 3 0),(5,i64 k)] [(2,.box [chs 0 a]),(3,.box [chs 0 b])]) (fun k=>k≤a.length∧a.take k=b.take k) (fun k=>a.length - k) 0 (by simp) (a2d [(2,some 2),(3,some 3)]) ?_
  rintro k ⟨hk,hall⟩
  refine a0d _ _ _ ?_;simp only [go_sem,hG,hOw]
  (repeat' with_reducible first|refine And.intro ?_ ?_|intro _|refine exP ?_ ?_);all_goals try omega
  ·rename_i hlt
   have hkl:k < a.length:=by omega
   have hkm:k < b.length:=by omega
   obtain ⟨hc,_⟩:=ha2 _ (List.getElem_mem hkl)
   have nok:a[k]≠b[k]→a≠b:=fun h e=>h (by subst e;rfl)
   refine a0s mixed (by kernel_rfl) ?_
   simp only [go_sem,hG,hOw]
   (repeat' with_reducible first|refine And.intro ?_ ?_|intro _|refine exP ?_ ?_);all_goals try omega
   ·rename_i h0 h1
    exact no (nok (fun e=>by rw [e] at h1;simp at h1))
   ·rename_i h1 h2
    have hlen2:a[k].lines.length=b[k].lines.length:=by omega
    refine a0m (fun j:Nat=>St.of [(2,.ptr 2 0),(3,.ptr 3 0),(5,i64 k),(6,.ptr 6 0),(7,.ptr 7 0),(8,i64 j)] [(2,.box [chs 0 a]),(3,.box [chs 0 b]),(6,.box (chE 0 a[k])),(7,.box (chE 0 b[k]))]) (fun j=>j≤a[k].lines.length∧a[k].lines.take j=b[k].lines.take j) (fun j=>a[k].lines.length - j) 0 (by simp) (a2d [(2,some 2),(3,some 3),(6,some 6),(7,some 7)]) ?_
    rintro j ⟨hj,hallj⟩
    refine a0d _ _ _ ?_;simp only [go_sem,hG,hOw]
    (repeat' with_reducible first|refine And.intro ?_ ?_|intro _|refine exP ?_ ?_);all_goals try omega
    ·rename_i hlt2
     refine a0s mixed (by kernel_rfl) ?_
     simp only [go_sem,hG,hOw]
     (repeat' with_reducible first|refine And.intro ?_ ?_|intro _|refine exP ?_ ?_);all_goals try omega
     refine ⟨_,a0e (c2k a[k].lines[j] b[k].lines[j]),?_⟩
     simp only [go_sem,hG,hOw]
     (repeat' with_reducible first|refine And.intro ?_ ?_|intro _|refine exP ?_ ?_);all_goals try omega
     ·rename_i h3
      exact no (nok (fun e=>h3 (by simp [e])))
     ·rename_i h3
      exact ⟨j+1,⟨by omega,b2y hallj (by omega) (by omega) h3⟩,by omega,a2d [(2,some 2),(3,some 3),(6,some 6),(7,some 7)]⟩
    ·rename_i hge2
     rw [a1c hj hge2,a1c (by omega) (by omega)] at hallj
     refine ⟨k+1,⟨by omega,b2y hall hkl hkm ?_⟩,by omega,a2d [(2,some 2),(3,some 3)]⟩
     revert h1 hallj
     cases a[k];cases b[k]
     rintro rfl rfl;rfl
   ·rename_i h1
    exact no (nok (fun e=>h1 (by rw [e])))
  ·rename_i hge
   rw [a1c hk hge,a1c (by omega) (by omega)] at hall
   simp [hall]
open Go Pm
set_option maxHeartbeats 4000000
set_option maxRecDepth 100000
end Go.Proofs.YtmjhfccbbfpppaaGreatDoor
