import Derived.Test.YtmjhfccbbfpppaaGreatDoorQB16
import Derived.Test.YtmjhfccbbfpppaaGreatDoorQB29
namespace Go.Proofs.YtmjhfccbbfpppaaGreatDoor
open Go Pm
set_option linter.unusedSimpArgs false
set_option linter.unusedVariables false
set_option maxHeartbeats 4000000
set_option maxRecDepth 100000
def a8w (ls:List (List ByteArray)):Nat→Nat
 |0=>0
 |n+1=>a8w ls n+(ls.getD n []).length
def a8x (t:List Ch):Nat→Nat
 |0=>0
 |k+1=>a8x t k+a8w (t.getD k ⟨0,[]⟩).lines (t.getD k ⟨0,[]⟩).lines.length
theorem c1y {ls:List (List ByteArray)} (h:∀ r ∈ ls,r.length≤10):∀ n,n≤ls.length→a8w ls n≤10 * n
 |0,_=>by simp [a8w]
 |n+1,hn=>by
  have ih:=c1y h n (by omega)
  have:=h _ (List.getElem_mem (show n < ls.length by omega))
  have e:ls.getD n []=ls[n]:=by simp [List.getD,show n < ls.length by omega]
  simp only [a8w,e]
  omega
theorem b6v {t:List Ch} (h:∀ c ∈ t,c.lines.length≤10∧∀ r ∈ c.lines,r.length≤10):∀ k,k≤t.length→a8x t k≤100 * k
 |0,_=>by simp [a8x]
 |k+1,hk=>by
  have ih:=b6v h k (by omega)
  have hc:=h _ (List.getElem_mem (show k < t.length by omega))
  have e:t.getD k ⟨0,[]⟩=t[k]:=by simp [List.getD,show k < t.length by omega]
  have:=c1y hc.2 t[k].lines.length (Nat.le_refl _)
  simp only [a8x,e]
  omega
theorem f3k (t:List Ch):a0l Tryz.prog 121 [.fp [chs 0 t]] (fun _=>.fn (.func 174) [.fp [.fp [chs 0 t]]]):=by
 refine a0b (ow:=fun _=>false) Tryz.func121 Tryz.ntmps121 rfl rfl fun G hG hOw hNm hB=>?_;simp only [go_sem,hG,hOw]
theorem e6l (t:List Ch) (ht:a1s t=true):a0l Tryz.prog 46 [txE 0 t] (fun _=>.tup [i64 (a8x t t.length),i64 0]):=by
 obtain ⟨hv1,hv2⟩:=b0f ht
 have hb:=b6v (t:=t) (fun c hc=>⟨(hv2 c hc).len.2,fun r hr=>((hv2 c hc).ln r hr).1.2⟩)
 refine a8j (ow:=fun _=>false) Tryz.func46 Tryz.ntmps46 rfl (by kernel_rfl) (by simp) rfl (by decide) fun G hG hOw hNm hrd hB=>?_;simp only [go_sem,hG,hOw]
 refine a0a (b0u t ht) ?_
 simp only [go_sem,hG,hOw]
 try (repeat' with_reducible first|apply And.intro|refine exP ?_ ?_|intro);all_goals try omega
 refine a0a (f3k t) ?_
 simp only [go_sem,hG,hOw]
 try (repeat' with_reducible first|apply And.intro|refine exP ?_ ?_|intro);all_goals try omega
 refine a4m (s':=St.of [(6,.ptr 6 0),(16,.fn (.func 174) [.fp [.fp [chs 0 t]]])] [(6,.box [i64 0])]) (a1m [(6,some 6)]) ?_
 refine a6r [6] 99 (fun _=>false) hrd rfl Tryz.func174 Tryz.ntmps174 rfl (by kernel_rfl) rfl (by simp) (by rw [hG];decide) rfl (by rw [hNm];simp [a0x]) rfl rfl fun G1 l L k1 k2 k3 k4 k5 hYJ=>?_
 have hY:=hYJ.law (fun _=>false)
 have hG0:=hG
 have hNm0:=hNm
 have hOw0:=hOw
 have hG:=k1
 have hOw:=k2
 have hNm:=k3
 simp only [go_sem,hG,hOw]
 try (repeat' with_reducible first|apply And.intro|refine exP ?_ ?_|intro);all_goals try omega
 refine a0k (fun k:Nat=>St.of [(0,.v (.func (.yield l) #[] #[])),(1,.fp [.fp [chs 0 t]]),(13,chs 0 t),(14,i64 t.length),(15,i64 k)] [(99,.obj (.loop (Lp L none))),(6,.box [i64 (((a8x t k:Nat):Int))])]) (fun k=>k≤t.length) (fun k=>t.length - k) 0 (by simp) (a1m [(99,some 99),(6,some 6)] (by (simp only [go_sem])<;>simp [a8x]) (by (simp only [go_sem,a1d,a0r,a0i,a1l])<;>simp [a8x])) ?_
 rintro k hk
 by_cases hkl:k < t.length
 ·have hlt:(k:Int) < t.length:=by omega
  have hv:=hv2 _ (List.getElem_mem hkl)
  have hnx:a8x t (k+1)=a8x t k+a8w t[k].lines t[k].lines.length:=by
   have e:t.getD k ⟨0,[]⟩=t[k]:=by simp [List.getD,hkl]
   simp only [a8x,e]
  obtain ⟨P,hP⟩:∃ P,P=a8x t k:=⟨_,rfl⟩
  obtain ⟨ls,hls⟩:∃ ls,ls=t[k].lines:=⟨_,rfl⟩
  have hPb:P≤100 * k:=by rw [hP];exact hb k hk
  have ht6:=hv1.2
  rw [← hP,← hls] at hnx
  rw [← hP]
  have hln:=hv.len
  have hlr:∀ r ∈ ls,r.length≤10:=fun r hr=>(hv.ln r (by rw [← hls];exact hr)).1.2
  rw [← hls] at hln
  refine a0d _ _ _ ?_
  simp (maxSteps:=2000000) only [go_sem,hG,hOw,hlt,← hls]
  (repeat' with_reducible first|apply And.intro|refine exP ?_ ?_|intro);all_goals try omega
  refine a2h (fun _:Unit=>St.of [(0,.v (.func (.yield l) #[] #[])),(1,.fp [.fp [chs 0 t]]),(13,chs 0 t),(14,i64 t.length),(15,i64 k)] [(99,.obj (.loop (Lp L none))),(6,.box [i64 (((P+a8w ls ls.length:Nat):Int))])]) (fun _=>True) ?_ ?_
  ·refine a0k (fun n:Nat=>St.of [(0,.v (.func (.yield l) #[] #[])),(1,.fp [.fp [chs 0 t]]),(3,i64 k),(13,chs 0 t),(14,i64 t.length),(15,i64 k),(21,lns 0 ls),(22,i64 ls.length),(23,i64 n)] [(99,.obj (.loop (Lp L none))),(6,.box [i64 (((P+a8w ls n:Nat):Int))])]) (fun n=>n≤ls.length) (fun n=>ls.length - n) 0 (by simp) (a1m [(99,some 99),(6,some 6)] (by (simp only [go_sem])<;>simp [a8w]) (by (simp only [go_sem,a1d,a0r,a0i,a1l])<;>simp [a8w])) ?_
   rintro n hn
   by_cases hnl:n < ls.length
   ·have hlt2:(n:Int) < ls.length:=by omega
    have hnx2:a8w ls (n+1)=a8w ls n+ls[n].length:=by
     have e:ls.getD n []=ls[n]:=by simp [List.getD,hnl]
     simp only [a8w,e]
    have hrl:=hlr _ (List.getElem_mem hnl)
    obtain ⟨q,hq⟩:∃ q,q=P+a8w ls n:=⟨_,rfl⟩
    obtain ⟨r,hr⟩:∃ r,r=ls[n]:=⟨_,rfl⟩
    have hqb:=c1y hlr n (by omega)
    rw [← hr] at hnx2 hrl
    rw [← hq]
    refine a0d _ _ _ ?_
    simp (maxSteps:=2000000) only [go_sem,hG,hOw,hlt2,← hr]
    (repeat' with_reducible first|apply And.intro|refine exP ?_ ?_|intro);all_goals try omega
    refine a2h (fun _:Unit=>St.of [(0,.v (.func (.yield l) #[] #[])),(1,.fp [.fp [chs 0 t]]),(3,i64 k),(13,chs 0 t),(14,i64 t.length),(15,i64 k),(21,lns 0 ls),(22,i64 ls.length),(23,i64 n)] [(99,.obj (.loop (Lp L none))),(6,.box [i64 (((q+r.length:Nat):Int))])]) (fun _=>True) ?_ ?_
    ·refine a0k (fun w:Nat=>St.of [(0,.v (.func (.yield l) #[] #[])),(1,.fp [.fp [chs 0 t]]),(3,i64 k),(5,i64 n),(13,chs 0 t),(14,i64 t.length),(15,i64 k),(21,lns 0 ls),(22,i64 ls.length),(23,i64 n),(28,a0q 0 r),(29,i64 r.length),(30,i64 w)] [(99,.obj (.loop (Lp L none))),(6,.box [i64 (((q+w:Nat):Int))])]) (fun w=>w≤r.length) (fun w=>r.length - w) 0 (by simp) (a1m [(99,some 99),(6,some 6)]) ?_
     rintro w hw
     by_cases hwl:w < r.length
     ·have hlt3:(w:Int) < r.length:=by omega
      refine a0d _ _ _ ?_
      simp (maxSteps:=2000000) only [go_sem,hG,hOw,hlt3]
      (repeat' with_reducible first|apply And.intro|refine exP ?_ ?_|intro);all_goals try omega
      refine hY [99,6] _ _ _ _ _ (by simp (config:={ maxSteps:=4000000 }) only [go_sem,reduceIte,Nat.reduceEqDiff]) rfl (by simp [chk,k1]) (by rw [k3];simp) (by intro id hid;left;rw [k3];exact hid) fun G2 m1 m2 m3 m4 m5=>?_
      have hG2:=m1.trans hG0
      simp (maxSteps:=2000000) only [go_sem,hG,hOw,hG2,m2]
      refine a0d _ _ _ ?_
      simp (maxSteps:=2000000) only [go_sem,hG,hOw,hG2,m2]
      (repeat' with_reducible first|apply And.intro|refine exP ?_ ?_|intro);all_goals try omega
      have hz:((q+(w+1):Nat):Int)=((q+w:Nat):Int)+1:=by omega
      refine ⟨w+1,by omega,by omega,?_⟩
      rw [hz]
      exact a1m [(99,some 99),(6,some 6)]
     ·have hlt3:¬ (w:Int) < r.length:=by omega
      obtain rfl:w=r.length:=by omega
      refine a0d _ _ _ ?_
      simp (maxSteps:=2000000) only [go_sem,hG,hOw,hlt3]
      (repeat' with_reducible first|apply And.intro|refine exP ?_ ?_|intro);all_goals try omega
      exact ⟨(),a1m [(99,some 99),(6,some 6)]⟩
    rintro ⟨⟩ -
    simp only [go_sem,hG,hOw]
    (repeat' with_reducible first|apply And.intro|refine exP ?_ ?_|intro);all_goals try omega
    refine ⟨n+1,by omega,by omega,?_⟩
    rw [hnx2,show P+(a8w ls n+r.length)=q+r.length by omega]
    exact a1m [(99,some 99),(6,some 6)]
   ·have hlt2:¬ (n:Int) < ls.length:=by omega
    obtain rfl:n=ls.length:=by omega
    refine a0d _ _ _ ?_
    simp (maxSteps:=2000000) only [go_sem,hG,hOw,hlt2]
    (repeat' with_reducible first|apply And.intro|refine exP ?_ ?_|intro);all_goals try omega
    exact ⟨(),a1m [(99,some 99),(6,some 6)]⟩
  rintro ⟨⟩ -
  simp only [go_sem,hG,hOw]
  (repeat' with_reducible first|apply And.intro|refine exP ?_ ?_|intro);all_goals try omega
  refine ⟨k+1,by omega,by omega,?_⟩
  rw [hnx]
  exact a1m [(99,some 99),(6,some 6)]
 ·have hlt:¬ (k:Int) < t.length:=by omega
  obtain rfl:k=t.length:=by omega
  refine a0d _ _ _ ?_
  simp (maxSteps:=2000000) only [go_sem,hG,hOw,hlt]
  try (repeat' with_reducible first|apply And.intro|refine exP ?_ ?_|intro);all_goals try omega
  refine ⟨none,by simp (config:={ maxSteps:=4000000 }) only [go_sem,reduceIte,Nat.reduceEqDiff],?_⟩
  have hG:=hG0
  have hOw:=hOw0
  have hNm:=hNm0
  simp only [go_sem,hG,hOw]
  try (repeat' with_reducible first|apply And.intro|refine exP ?_ ?_|intro);all_goals try omega
open Go Pm
theorem a9n (ls:List (List ByteArray)) {a:Nat}:∀ {b:Nat},a≤b→a8w ls a≤a8w ls b
 |0,h=>by rw [show a=0 by omega];exact Nat.le_refl _
 |b+1,h=>by
  by_cases e:a=b+1
  ·rw [e];exact Nat.le_refl _
  ·have:=a9n ls (a:=a) (b:=b) (by omega)
   simp only [a8w];omega
theorem b2t (t:List Ch) {a:Nat}:∀ {b:Nat},a≤b→a8x t a≤a8x t b
 |0,h=>by rw [show a=0 by omega];exact Nat.le_refl _
 |b+1,h=>by
  by_cases e:a=b+1
  ·rw [e];exact Nat.le_refl _
  ·have:=b2t t (a:=a) (b:=b) (by omega)
   simp only [a8x];omega
theorem a7o {ls:List (List ByteArray)} {n:Nat} (h:n < ls.length):a8w ls (n+1)=a8w ls n+ls[n].length:=by
 have e:ls.getD n []=ls[n]:=by simp [List.getD,h]
 simp only [a8w,e]
theorem a9u {t:List Ch} {k:Nat} (h:k < t.length):a8x t (k+1)=a8x t k+a8w t[k].lines t[k].lines.length:=by
 have e:t.getD k ⟨0,[]⟩=t[k]:=by simp [List.getD,h]
 simp only [a8x,e]
structure PlN (t:List Ch) (N k n w:Nat):Prop where
 hk:k < t.length
 hn:n < t[k].lines.length
 hw:w < t[k].lines[n].length
 is:N=a8x t k+a8w t[k].lines n+w
theorem e5j {ls:List (List ByteArray)} {N:Nat}:∀ m,m≤ls.length→N < a8w ls m→∃ n,∃ h:n < ls.length,∃ w,w < ls[n].length∧N=a8w ls n+w
 |0,_,h=>by simp [a8w] at h
 |m+1,hm,h=>by
  by_cases c:N < a8w ls m
  ·exact e5j m (by omega) c
  ·rw [a7o (by omega)] at h
   exact ⟨m,by omega,N - a8w ls m,by omega,by omega⟩
theorem e2y {t:List Ch} {N:Nat}:∀ m,m≤t.length→N < a8x t m→∃ k n w,PlN t N k n w
 |0,_,h=>by simp [a8x] at h
 |m+1,hm,h=>by
  by_cases c:N < a8x t m
  ·exact e2y m (by omega) c
  ·rw [a9u (by omega)] at h
   obtain ⟨n,hn,w,hw,e⟩:=e5j (ls:=t[m].lines) (N:=N - a8x t m) _ (Nat.le_refl _) (by omega)
   exact ⟨m,n,w,by omega,hn,hw,by omega⟩
theorem g2q {t:List Ch} {N k n w k' n' w':Nat} (a:PlN t N k n w) (b:PlN t N k' n' w'):k=k'∧n=n'∧w=w':=by
 have lt:∀ {k n w k' n' w':Nat},PlN t N k n w→PlN t N k' n' w'→¬ k < k':=by
  intro k n w k' n' w' a b h
  have hka:=a.hk
  have hna:=a.hn
  have h1:=b2t t (a:=k+1) (b:=k') h
  rw [a9u a.hk] at h1
  have h2:=a9n t[k].lines (a:=n+1) (b:=t[k].lines.length) a.hn
  rw [a7o a.hn] at h2
  have:=a.hw
  have:=a.is
  have:=b.is
  omega
 have ek:k=k':=by
  have h1:=lt a b
  have h2:=lt b a
  omega
 subst ek
 have lt2:∀ {n w n' w':Nat},PlN t N k n w→PlN t N k n' w'→¬ n < n':=by
  intro n w n' w' a b h
  have hka:=a.hk
  have hna:=a.hn
  have h1:=a9n t[k].lines (a:=n+1) (b:=n') h
  rw [a7o a.hn] at h1
  have:=a.hw
  have:=a.is
  have:=b.is
  omega
 have en:n=n':=by
  have h1:=lt2 a b
  have h2:=lt2 b a
  omega
 subst en
 have:=a.is
 have:=b.is
 exact ⟨rfl,rfl,by omega⟩
theorem d5o (t:List Ch) (ht:a1s t=true) (N:Nat) (k0 n0 w0:Nat) (hp:PlN t N k0 n0 w0):a0l Tryz.prog 48 [txE 0 t,i64 N] (fun _=>.tup [.agg [i64 k0,i64 n0,i64 w0],i64 0]):=by
 obtain ⟨hv1,hv2⟩:=b0f ht
 have hb:=b6v (t:=t) (fun c hc=>⟨(hv2 c hc).len.2,fun r hr=>((hv2 c hc).ln r hr).1.2⟩)
 have hNlt:N < a8x t t.length:=by
  have hka:=hp.hk
  have hna:=hp.hn
  have h1:=b2t t (a:=k0+1) (b:=t.length) hp.hk
  rw [a9u hp.hk] at h1
  have h2:=a9n t[k0].lines (a:=n0+1) (b:=t[k0].lines.length) hp.hn
  rw [a7o hp.hn] at h2
  have:=hp.hw
  have:=hp.is
  omega
 have hN6:N≤600:=by have:=hb t.length (Nat.le_refl _);omega
 refine a8j (ow:=fun _=>false) Tryz.func48 Tryz.ntmps48 rfl (by kernel_rfl) (by simp) rfl (by decide) fun G hG hOw hNm hrd hB=>?_;simp only [go_sem,hG,hOw]
 try (repeat' with_reducible first|apply And.intro|refine exP ?_ ?_|intro);all_goals try omega
 refine a0a (b0u t ht) ?_
 simp only [go_sem,hG,hOw]
 try (repeat' with_reducible first|apply And.intro|refine exP ?_ ?_|intro);all_goals try omega
 refine a0a (f3k t) ?_
 simp only [go_sem,hG,hOw]
 try (repeat' with_reducible first|apply And.intro|refine exP ?_ ?_|intro);all_goals try omega
 refine a4m (s':=St.of [(3,.ptr 53 0),(4,.ptr 54 0),(5,.ptr 55 0),(19,.fn (.func 174) [.fp [.fp [chs 0 t]]])] [(53,.box [i64 N]),(54,.box [i64 0,i64 0,i64 0]),(55,.box [i64 0])]) (a1m [(53,some 3),(54,some 4),(55,some 5)]) ?_
 refine a6r [53,54,55] 99 (fun _=>false) hrd rfl Tryz.func174 Tryz.ntmps174 rfl (by kernel_rfl) rfl (by simp) (by rw [hG];decide) rfl (by rw [hNm];simp [a0x]) rfl rfl fun G1 l L k1 k2 k3 k4 k5 hYJ=>?_
 have hY:=hYJ.law (fun _=>false)
 have hG0:=hG
 have hNm0:=hNm
 have hOw0:=hOw
 have hG:=k1
 have hOw:=k2
 have hNm:=k3
 simp only [go_sem,hG,hOw]
 try (repeat' with_reducible first|apply And.intro|refine exP ?_ ?_|intro);all_goals try omega
 have hN0:(N:Int)=(N:Int) - ((a8x t 0:Nat):Int):=by simp [a8x]
 refine a0k (fun k:Nat=>St.of [(0,.v (.func (.yield l) #[] #[])),(1,.fp [.fp [chs 0 t]]),(13,chs 0 t),(14,i64 t.length),(15,i64 k)] [(99,.obj (.loop (Lp L none))),(53,.box [i64 ((N:Int) - ((a8x t k:Nat):Int))]),(54,.box [i64 0,i64 0,i64 0]),(55,.box [i64 0])]) (fun k=>k≤t.length∧a8x t k≤N) (fun k=>t.length - k) 0 (by simp [a8x]) (by rw [← hN0];exact a1m [(99,some 99),(53,some 53),(54,some 54),(55,some 55)]) ?_
 rintro k ⟨hk,hkN⟩
 by_cases hkl:k < t.length
 ·have hlt:(k:Int) < t.length:=by omega
  have hv:=hv2 _ (List.getElem_mem hkl)
  have hnx:=a9u hkl
  have hpl:∀ n w,(h1:n < t[k].lines.length)→w < t[k].lines[n].length→N=a8x t k+a8w t[k].lines n+w→k0=k∧n0=n∧w0=w:=fun n w h1 h2 h3=>g2q hp ⟨hkl,h1,h2,h3⟩
  obtain ⟨P,hP⟩:∃ P,P=a8x t k:=⟨_,rfl⟩
  obtain ⟨ls,hls⟩:∃ ls,ls=t[k].lines:=⟨_,rfl⟩
  have hPb:P≤100 * k:=by rw [hP];exact hb k hk
  have ht6:=hv1.2
  rw [← hP,← hls] at hnx
  rw [← hP] at hkN ⊢
  have hln:=hv.len
  have hlr:∀ r ∈ ls,r.length≤10:=fun r hr=>(hv.ln r (by rw [← hls];exact hr)).1.2
  rw [← hls] at hln
  simp only [← hP,← hls] at hpl
  refine a0d _ _ _ ?_
  simp (maxSteps:=2000000) only [go_sem,hG,hOw,hlt,← hls]
  (repeat' with_reducible first|apply And.intro|refine exP ?_ ?_|intro);all_goals try omega
  have hn0:(N:Int) - ((P:Nat):Int)=(N:Int) - ((P+a8w ls 0:Nat):Int):=by simp [a8w]
  refine a2h (fun _:Unit=>St.of [(0,.v (.func (.yield l) #[] #[])),(1,.fp [.fp [chs 0 t]]),(13,chs 0 t),(14,i64 t.length),(15,i64 k)] [(99,.obj (.loop (Lp L none))),(53,.box [i64 ((N:Int) - ((P+a8w ls ls.length:Nat):Int))]),(54,.box [i64 0,i64 0,i64 0]),(55,.box [i64 0])]) (fun _=>P+a8w ls ls.length≤N) ?_ ?_
  ·refine a0k (fun n:Nat=>St.of [(0,.v (.func (.yield l) #[] #[])),(1,.fp [.fp [chs 0 t]]),(3,i64 k),(13,chs 0 t),(14,i64 t.length),(15,i64 k),(21,lns 0 ls),(22,i64 ls.length),(23,i64 n)] [(99,.obj (.loop (Lp L none))),(53,.box [i64 ((N:Int) - ((P+a8w ls n:Nat):Int))]),(54,.box [i64 0,i64 0,i64 0]),(55,.box [i64 0])]) (fun n=>n≤ls.length∧P+a8w ls n≤N) (fun n=>ls.length - n) 0 ⟨by simp,by simpa [a8w] using hkN⟩ (by rw [← hn0];exact a1m [(99,some 99),(53,some 53),(54,some 54),(55,some 55)]) ?_
   rintro n ⟨hn,hnN⟩
   by_cases hnl:n < ls.length
   ·have hlt2:(n:Int) < ls.length:=by omega
    have hnx2:=a7o hnl
    have hrl:=hlr _ (List.getElem_mem hnl)
    have hpl2:=hpl n
    obtain ⟨q,hq⟩:∃ q,q=P+a8w ls n:=⟨_,rfl⟩
    obtain ⟨r,hr⟩:∃ r,r=ls[n]:=⟨_,rfl⟩
    have hqb:=c1y hlr n (by omega)
    rw [← hr] at hnx2 hrl
    rw [← hq] at hnN ⊢
    simp only [← hq,← hr] at hpl2
    refine a0d _ _ _ ?_
    simp (maxSteps:=2000000) only [go_sem,hG,hOw,hlt2,← hr]
    (repeat' with_reducible first|apply And.intro|refine exP ?_ ?_|intro);all_goals try omega
    have hw0:(N:Int) - ((q:Nat):Int)=(N:Int) - ((q+0:Nat):Int):=by simp
    refine a2h (fun _:Unit=>St.of [(0,.v (.func (.yield l) #[] #[])),(1,.fp [.fp [chs 0 t]]),(3,i64 k),(13,chs 0 t),(14,i64 t.length),(15,i64 k),(21,lns 0 ls),(22,i64 ls.length),(23,i64 n)] [(99,.obj (.loop (Lp L none))),(53,.box [i64 ((N:Int) - ((q+r.length:Nat):Int))]),(54,.box [i64 0,i64 0,i64 0]),(55,.box [i64 0])]) (fun _=>q+r.length≤N) ?_ ?_
    ·refine a0k (fun w:Nat=>St.of [(0,.v (.func (.yield l) #[] #[])),(1,.fp [.fp [chs 0 t]]),(3,i64 k),(5,i64 n),(13,chs 0 t),(14,i64 t.length),(15,i64 k),(21,lns 0 ls),(22,i64 ls.length),(23,i64 n),(28,a0q 0 r),(29,i64 r.length),(30,i64 w)] [(99,.obj (.loop (Lp L none))),(53,.box [i64 ((N:Int) - ((q+w:Nat):Int))]),(54,.box [i64 0,i64 0,i64 0]),(55,.box [i64 0])]) (fun w=>w≤r.length∧q+w≤N) (fun w=>r.length - w) 0 ⟨by simp,by simpa using hnN⟩ (by rw [← hw0];exact a1m [(99,some 99),(53,some 53),(54,some 54),(55,some 55)]) ?_
     rintro w ⟨hw,hwN⟩
     by_cases hwl:w < r.length
     ·have hlt3:(w:Int) < r.length:=by omega
      refine a0d _ _ _ ?_
      simp (maxSteps:=2000000) only [go_sem,hG,hOw,hlt3]
      (repeat' with_reducible first|apply And.intro|refine exP ?_ ?_|intro);all_goals try omega
      refine hY [99,53,54,55] _ _ _ _ _ (by simp (config:={ maxSteps:=4000000 }) only [go_sem,reduceIte,Nat.reduceEqDiff]) rfl (by simp [chk,k1]) (by rw [k3];simp) (by intro id hid;left;rw [k3];exact hid) fun G2 m1 m2 m3 m4 m5=>?_
      have hG2:=m1.trans hG0
      by_cases hit:N=q+w
      ·obtain ⟨rfl,rfl,rfl⟩:=hpl2 w hnl hwl hit
       have hz0:(N:Int) - ((q+w0:Nat):Int)=0:=by omega
       simp (maxSteps:=2000000) only [go_sem,hG,hOw,hG2,m2]
       try (repeat' with_reducible first|apply And.intro|refine exP ?_ ?_|intro);all_goals try omega
       refine a0d _ _ _ ?_
       simp (maxSteps:=2000000) only [go_sem,hG,hOw,hG2,m2,hz0]
       try (repeat' with_reducible first|apply And.intro|refine exP ?_ ?_|intro);all_goals try omega
       refine ⟨some .ret,by simp (config:={ maxSteps:=4000000 }) only [go_sem,reduceIte,Nat.reduceEqDiff],?_⟩
       have hG:=hG0
       have hOw:=hOw0
       have hNm:=hNm0
       simp only [go_sem,hG,hOw]
       try (repeat' with_reducible first|apply And.intro|refine exP ?_ ?_|intro);all_goals try omega
      ·have hz0:¬ (N:Int) - ((q+w:Nat):Int)=0:=by omega
       simp (maxSteps:=2000000) only [go_sem,hG,hOw,hG2,m2]
       try (repeat' with_reducible first|apply And.intro|refine exP ?_ ?_|intro);all_goals try omega
       refine a0d _ _ _ ?_
       simp (maxSteps:=2000000) only [go_sem,hG,hOw,hG2,m2,hz0,decide_eq_false hz0]
       (repeat' with_reducible first|apply And.intro|refine exP ?_ ?_|intro);all_goals try omega
       have hz:(N:Int) - ((q+(w+1):Nat):Int)=(N:Int) - ((q+w:Nat):Int) - 1:=by omega
       refine ⟨w+1,⟨by omega,by omega⟩,by omega,?_⟩
       rw [hz]
       exact a1m [(99,some 99),(53,some 53),(54,some 54),(55,some 55)]
     ·have hlt3:¬ (w:Int) < r.length:=by omega
      obtain rfl:w=r.length:=by omega
      refine a0d _ _ _ ?_
      simp (maxSteps:=2000000) only [go_sem,hG,hOw,hlt3]
      (repeat' with_reducible first|apply And.intro|refine exP ?_ ?_|intro);all_goals try omega
      exact ⟨(),hwN,a1m [(99,some 99),(53,some 53),(54,some 54),(55,some 55)]⟩
    rintro ⟨⟩ hrN
    simp only [go_sem,hG,hOw]
    (repeat' with_reducible first|apply And.intro|refine exP ?_ ?_|intro);all_goals try omega
    refine ⟨n+1,⟨by omega,by omega⟩,by omega,?_⟩
    rw [hnx2,show P+(a8w ls n+r.length)=q+r.length by omega]
    exact a1m [(99,some 99),(53,some 53),(54,some 54),(55,some 55)]
   ·have hlt2:¬ (n:Int) < ls.length:=by omega
    obtain rfl:n=ls.length:=by omega
    refine a0d _ _ _ ?_
    simp (maxSteps:=2000000) only [go_sem,hG,hOw,hlt2]
    (repeat' with_reducible first|apply And.intro|refine exP ?_ ?_|intro);all_goals try omega
    exact ⟨(),hnN,a1m [(99,some 99),(53,some 53),(54,some 54),(55,some 55)]⟩
  rintro ⟨⟩ hlN
  simp only [go_sem,hG,hOw]
  (repeat' with_reducible first|apply And.intro|refine exP ?_ ?_|intro);all_goals try omega
  refine ⟨k+1,⟨by omega,by omega⟩,by omega,?_⟩
  rw [hnx]
  exact a1m [(99,some 99),(53,some 53),(54,some 54),(55,some 55)]
 ·exfalso
  obtain rfl:k=t.length:=by omega
  omega
end Go.Proofs.YtmjhfccbbfpppaaGreatDoor
