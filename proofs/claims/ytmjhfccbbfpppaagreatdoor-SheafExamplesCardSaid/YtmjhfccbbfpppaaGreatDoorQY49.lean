import Derived.Test.YtmjhfccbbfpppaaGreatDoorQY21
import Derived.Test.YtmjhfccbbfpppaaGreatDoorQY29
import Derived.Test.YtmjhfccbbfpppaaGreatDoorQY39
import Derived.Test.YtmjhfccbbfpppaaGreatDoorQY45
import Derived.Test.YtmjhfccbbfpppaaGreatDoorQY46
import Derived.Test.YtmjhfccbbfpppaaGreatDoorQY48
namespace Go.Proofs.YtmjhfccbbfpppaaGreatDoor
open Go Pm
set_option linter.unusedSimpArgs false
set_option linter.unusedVariables false
set_option maxRecDepth 100000
def xCB:List ByteArray:=[⟨#[99]⟩,⟨#[98]⟩]
def xAB:List ByteArray:=[⟨#[97]⟩,⟨#[98]⟩]
def xXB:List ByteArray:=[⟨#[120]⟩,⟨#[98]⟩]
def xAY:List ByteArray:=[⟨#[97]⟩,⟨#[121]⟩]
def xNl:List ByteArray:=[⟨#[97,10]⟩]
def xLs:List ByteArray:=[⟨#[108,105,110,101,32,115,101,97]⟩]
def xOm:List ByteArray:=[⟨#[111,109,105,116,32,48,32,48,32,48]⟩]
def xC4:List ByteArray:=[⟨#[99,111,112,121,32,52]⟩,⟨#[111,109,105,116,32,48,32,48,32,52]⟩]
def xSl:List ByteArray:=[⟨#[115,108,105,112,32,48,32,48,32,48,32,115,101,97]⟩,⟨#[97,102,116,101,114,32,97]⟩,⟨#[98,101,102,111,114,101,32,98]⟩]
def xV5:List ByteArray:=[⟨#[118,111,105,100,32,53,32,53]⟩]
def g4x:List ByteArray:=[⟨#[118,111,105,100,32,48,53,32,53]⟩]
def xE:List ByteArray:=[⟨#[]⟩]
def xT:List ByteArray:=[⟨#[126,32]⟩]
def b4q:Sh:=⟨[⟨#[97,98]⟩,⟨#[98]⟩],[⟨1,0,[⟨#[99]⟩]⟩,⟨0,4,[]⟩]⟩
def xSi:List Si:=[⟨0,0,10000,⟨#[97]⟩,⟨#[]⟩,⟨#[]⟩⟩]
theorem xf_save:b7s ⟨[⟨#[97,98]⟩,⟨#[98]⟩],[⟨1,0,[⟨#[99]⟩]⟩]⟩ xCB=shelfS∧b1m ⟨[⟨#[97,98]⟩,⟨#[98]⟩],[⟨1,0,[⟨#[99]⟩]⟩]⟩ xCB=0:=⟨by kernel_rfl,by kernel_rfl⟩
theorem e5b:a3m xAB xXB xAY=113:=by kernel_rfl
theorem g2s:wrE xNl=110:=by kernel_rfl
theorem f1u:a8q xLs=([],111):=by kernel_rfl
theorem g4c:a6j b4m xOm=(d5c,111):=by kernel_rfl
theorem g2a:a6j b4m xC4=(d5c,11):=by kernel_rfl
theorem e5d:a7r xSl=([],111):=by kernel_rfl
theorem g1y:a9n b4m xV5=(X0,40):=by kernel_rfl
theorem f7j:a9n b4m g4x=(X0,111):=by kernel_rfl
theorem xf_odd:gb b4q=false∧a6d b4q 0=112:=⟨by kernel_rfl,by kernel_rfl⟩
theorem xf_back:a6d shelfS 3=2∧a6d shelfS (-1)=2:=⟨by kernel_rfl,by kernel_rfl⟩
theorem e4o:b1m shelfS xE=110:=by kernel_rfl
theorem g0d:a4t xSi=([],31):=by kernel_rfl
theorem xf_t0:a2l []=false∧a8q []=([],10):=⟨by kernel_rfl,by kernel_rfl⟩
theorem f1c:a1b xT=true:=by kernel_rfl
theorem g1z:∀ s:ByteArray,¬ s.size≤30000→c6q s=9:=fun s h=>by unfold c6q;rw [if_neg h]
open Go Pm
set_option maxHeartbeats 4000000
set_option maxRecDepth 100000
theorem e4e:∀ c ∈ shSave.chg,c.put.length≤1000:=by
 intro c hc
 simp only [shSave,List.mem_cons,List.not_mem_nil,or_false] at hc
 subst hc
 decide
theorem g4r:a0o Tryz.prog 33 [shE 0 shSave,a0e 0 xCB] (fun n=>.tup [shE n shelfS,i64 0]):=by
 have h:=c7h shSave xCB (by decide) e4e (by decide)
 rw [show b7s shSave xCB=shelfS from xf_save.1] at h
 rw [show b1m shSave xCB=0 from xf_save.2] at h
 exact h
theorem f7q:a0o Tryz.prog 37 [a0e 0 xAB,a0e 0 xXB,a0e 0 xAY] (fun n=>.tup [a0e n (a5n xAB xXB xAY),i64 113]):=by
 have h:=c9t xAB xXB xAY (by decide) (by decide) (by decide)
 rw [e5b] at h
 exact h
theorem xWr:a0o Tryz.prog 14 [a0e 0 xNl] (fun n=>.tup [str (wrS xNl),i64 110]):=by
 have h:=d0k xNl
 rw [g2s] at h
 exact h
theorem xRd (s:ByteArray) (hs:¬ s.size≤30000):a0o Tryz.prog 15 [.v (.string s)] (fun n=>.tup [a0e n (rdL s),i64 (rdN s),i64 9]):=by
 have h:=d5m s
 rw [g1z s hs] at h
 exact h
theorem g3s:a0o Tryz.prog 16 [a0e 0 xLs] (fun n=>.tup [txE 0 [],i64 111]):=by
 have h:=c4s xLs
 rw [f1u] at h
 exact h
theorem xC1:a0o Tryz.prog 21 [txE 0 b4m,a0e 0 xOm] (fun n=>.tup [cpE 0 d5c,i64 111]):=by
 have h:=c3e b4m xOm
 rw [g4c] at h
 exact h
theorem xC2:a0o Tryz.prog 21 [txE 0 b4m,a0e 0 xC4] (fun n=>.tup [cpE 0 d5c,i64 11]):=by
 have h:=c3e b4m xC4
 rw [g2a] at h
 exact h
theorem f7b:a0o Tryz.prog 28 [a0e 0 xSl] (fun n=>.tup [sis 0 [],i64 111]):=by
 have h:=d1x xSl
 rw [e5d] at h
 exact h
theorem g5n:a0o Tryz.prog 30 [txE 0 b4m,a0e 0 xV5] (fun n=>.tup [lxE 0 X0,i64 40]):=by
 have h:=b4c b4m xV5
 rw [g1y] at h
 exact h
theorem g1x:a0o Tryz.prog 30 [txE 0 b4m,a0e 0 g4x] (fun n=>.tup [lxE 0 X0,i64 111]):=by
 have h:=b4c b4m g4x
 rw [f7j] at h
 exact h
theorem g5m:a0o Tryz.prog 39 [shE 0 b4q,i64 0] (fun n=>.tup [a0e n (b2z b4q 0),i64 112]):=by
 have h:=c8a b4q 0 (by decide) (by intro c hc;simp only [b4q,List.mem_cons,List.not_mem_nil,or_false] at hc;rcases hc with rfl|rfl<;>decide)
 rw [xf_odd.2] at h
 exact h
theorem xBk:a0o Tryz.prog 39 [shE 0 shelfS,i64 3] (fun n=>.tup [a0e n (b2z shelfS 3),i64 2]):=by
 have h:=c8a shelfS 3 (by decide) (by intro c hc;simp only [shelfS,List.mem_cons,List.not_mem_nil,or_false] at hc;rcases hc with rfl|rfl<;>decide)
 rw [xf_back.1] at h
 exact h
theorem xPr:a0o Tryz.prog 40 [shE 0 shelfS,i64 (-1)] (fun n=>.tup [shE n (b4a shelfS (-1)),i64 2]):=by
 have h:=d1b shelfS (-1) (by decide) (by intro c hc;simp only [shelfS,List.mem_cons,List.not_mem_nil,or_false] at hc;rcases hc with rfl|rfl<;>decide)
 rw [xf_back.2] at h
 exact h
theorem g5r:a0o Tryz.prog 33 [shE 0 shelfS,a0e 0 xE] (fun n=>.tup [shE n (b7s shelfS xE),i64 110]):=by
 have h:=c7h shelfS xE (by decide) (by intro c hc;simp only [shelfS,List.mem_cons,List.not_mem_nil,or_false] at hc;rcases hc with rfl|rfl<;>decide) (by decide)
 rw [e4o] at h
 exact h
theorem g5i:a0o Tryz.prog 29 [sis 0 xSi] (fun n=>.tup [a0e n [],i64 31]):=by
 have h:=b9l xSi (by decide) (by intro r hr;simp only [xSi,List.mem_cons,List.not_mem_nil,or_false] at hr;subst hr;exact ⟨by decide,by decide,by decide⟩)
 rw [g0d] at h
 exact h
theorem g5q:a0o Tryz.prog 13 [txE 0 []] (fun n=>.tup [a0e n [],i64 10]):=by
 have h:=c4d []
 rw [xf_t0.1] at h
 exact h
theorem g5l:a0o Tryz.prog 16 [a0e 0 []] (fun n=>.tup [txE 0 [],i64 10]):=by
 have h:=c4s []
 rw [xf_t0.2] at h
 exact h
theorem xCk:a0o Tryz.prog 43 [a0e 0 xT] (fun n=>i64 0):=by
 have h:=a3p xT
 rw [f1c,if_pos rfl] at h
 exact h
theorem xCs:a0o Tryz.prog 42 [shE 0 b4q] (fun n=>i64 112):=by
 have h:=c1p b4q (by decide) (by intro c hc;simp only [b4q,List.mem_cons,List.not_mem_nil,or_false] at hc;rcases hc with rfl|rfl<;>decide)
 rw [xf_odd.1] at h
 exact h
open Go Pm
set_option maxHeartbeats 4000000
set_option maxRecDepth 100000
theorem d7z:Tri Tryz.prog 35 [] [] (fun lo=>.ret (.agg [a0e lo a5e,.own 0 0 2 3]) [(0,.arr 77 3 [[i64 1,i64 0,a0e lo lC],[i64 0,i64 1,.v (.slice none 0 0)]])]):=by
 refine a0d (fun i=>[7].contains i) Tryz.func35 Tryz.ntmps35 rfl rfl fun G hG hOw hNm=>?_;simp only [go_sem,hG,hOw]
 try (repeat' with_reducible first|refine And.intro ?_ ?_|intro _|refine exP ?_ ?_);all_goals try omega
 refine a0w (a2n _ _ _) (Subs.refl _) rfl (by simp [chk,hG]) ?_
 simp (maxSteps:=2000000) only [go_sem,hG,hOw,Nat.reduceMul]
 try (repeat' with_reducible first|refine And.intro ?_ ?_|intro _|refine exP ?_ ?_);all_goals try omega
 refine a0w (a2n _ _ _) (Subs.refl _) rfl (by simp [chk,hG]) ?_
 simp (maxSteps:=2000000) only [go_sem,hG,hOw,Nat.reduceMul]
 try (repeat' with_reducible first|refine And.intro ?_ ?_|intro _|refine exP ?_ ?_);all_goals try omega
 exact ⟨[(0,some 7)],by (simp only [b1z,go_sem,a1g,a0q,a0f,a1m,apart,a2m,a0h])<;>simp [a5e,lC,a2h,a0e,i64]⟩
theorem d8b (lo:Nat):Pm.Sub (.agg [a0e lo a5e,.lst lo 3 [[i64 1,i64 0,a0e lo lC],[i64 0,i64 4,.v (.slice none 0 0)]]]) (shE 0 b4q):=by
 refine Subs.agg (.cons (.lo (Nat.zero_le _)) (.cons (Sub.lst (Nat.zero_le _) rfl fun i x x' h1 h2=>?_) .nil))
 match i with
 |0=>simp at h1;subst h1;simp [b4q] at h2;subst h2;exact .cons (.refl _) (.cons (.refl _) (.cons (.lo (Nat.zero_le _)) .nil))
 |1=>simp at h1;subst h1;simp [b4q] at h2;subst h2;exact .cons (.refl _) (.cons (.refl _) (.cons (.nil _ _) .nil))
 |i+2=>simp at h1
def g0z:Nat:=30001
theorem f2i:(30001:Int).toNat=g0z:=rfl
def sBig:ByteArray:=⟨(List.replicate g0z (0:UInt8)).toArray⟩
theorem e5l:¬ sBig.size≤30000:=by
 have:sBig.size=g0z:=by simp [sBig,ByteArray.size]
 rw [this];decide
theorem e5m {α:Type} (n:Nat) (x:α):List.take n (List.replicate n x)=List.replicate n x:=by simp
theorem d6x (n:Nat):bytesOf (List.replicate n [V.v (.int .u8 0)])=some (List.replicate n 0):=by
 induction n with
 |zero=>rfl
 |succ n ih=>rw [List.replicate_succ,List.replicate_succ,bytesOf,ih];rfl
theorem g2r {G:Gh} {lo:Nat} (hG:G.n=238) (hOw:G.ow=fun _=>false) (hNm:G.nm=[]) (h:SemL Tryz.prog G ((a3a (Tryz.f6.body.getD .skip)).drop 6) (St.of [] []) (a1d Tryz.prog lo [.tmp 0] (bl true))) :
  SemL Tryz.prog G ((a3a (Tryz.f6.body.getD .skip)).drop 3) (St.of [] []) (a1d Tryz.prog lo [.tmp 0] (bl true)):=by
 have hln:shelfS.chg.length=2:=rfl
 refine a0u 3 _ _ ?_
 simp only [Tryz.f6,Option.getD_some,a1s,a0v,a1e,a0y,a1t,List.singleton_append,List.cons_append,List.nil_append,List.drop_succ_cons,List.drop_zero,List.append_eq]
 simp only [go_sem,hG,hOw]
 try (repeat' with_reducible first|refine And.intro ?_ ?_|intro _|refine exP ?_ ?_);all_goals try omega
 refine a0z mixed (by kernel_rfl) ?_
 simp (maxSteps:=2000000) only [go_sem,hG,hOw,Nat.reduceMul,hln]
 try (repeat' with_reducible first|refine And.intro ?_ ?_|intro _|refine exP ?_ ?_);all_goals try omega
 refine ⟨_,a0i (a2n _ _ _),?_⟩
 simp (maxSteps:=2000000) only [go_sem,hG,hOw,Nat.reduceMul,hln]
 try (repeat' with_reducible first|refine And.intro ?_ ?_|intro _|refine exP ?_ ?_);all_goals try omega
 refine ⟨_,a0i a6q,?_⟩
 simp (maxSteps:=2000000) only [go_sem,hG,hOw,Nat.reduceMul,hln]
 try (repeat' with_reducible first|refine And.intro ?_ ?_|intro _|refine exP ?_ ?_);all_goals try omega
 refine ⟨_,a0i (a2n _ _ _),?_⟩
 simp (maxSteps:=2000000) only [go_sem,hG,hOw,Nat.reduceMul,hln]
 try (repeat' with_reducible first|refine And.intro ?_ ?_|intro _|refine exP ?_ ?_);all_goals try omega
 refine ⟨_,a9w g4r (.cons (b6y _ shSave) (.cons (.lo (Nat.zero_le _)) .nil)) (by first|rfl|simp [a9i,b1n,pureV,pure0, *]),?_⟩
 simp (maxSteps:=2000000) only [go_sem,hG,hOw,Nat.reduceMul,hln]
 try (repeat' with_reducible first|refine And.intro ?_ ?_|intro _|refine exP ?_ ?_);all_goals try omega
 refine a0z mixed (by kernel_rfl) ?_
 simp (maxSteps:=2000000) only [go_sem,hG,hOw,Nat.reduceMul,hln]
 try (repeat' with_reducible first|refine And.intro ?_ ?_|intro _|refine exP ?_ ?_);all_goals try omega
 refine ⟨_,a0i a6q,?_⟩
 simp (maxSteps:=2000000) only [go_sem,hG,hOw,Nat.reduceMul,hln]
 try (repeat' with_reducible first|refine And.intro ?_ ?_|intro _|refine exP ?_ ?_);all_goals try omega
 refine ⟨_,a9w (d8j shelfS) (.cons (b6y _ shelfS) (.cons (b6y _ shelfS) .nil)) (by first|rfl|simp [a9i,b1n,pureV,pure0, *]),?_⟩
 simp (maxSteps:=2000000) only [go_sem,hG,hOw,Nat.reduceMul,hln]
 try (repeat' with_reducible first|refine And.intro ?_ ?_|intro _|refine exP ?_ ?_);all_goals try omega
 refine a1n (s':=St.of [] []) (a1j (by (simp only [go_sem])<;>simp) hNm) ?_
 exact h
theorem g3q {G:Gh} {lo:Nat} (hG:G.n=238) (hOw:G.ow=fun _=>false) (hNm:G.nm=[]) (h:SemL Tryz.prog G ((a3a (Tryz.f6.body.getD .skip)).drop 8) (St.of [(3,.ptr 3 0)] [(3,.box [a0e G.lo a5e,.lst G.lo 3 [[i64 1,i64 0,a0e G.lo lC],[i64 0,i64 4,.v (.slice none 0 0)]]])]) (a1d Tryz.prog lo [.tmp 0] (bl true))) :
  SemL Tryz.prog G ((a3a (Tryz.f6.body.getD .skip)).drop 6) (St.of [] []) (a1d Tryz.prog lo [.tmp 0] (bl true)):=by
 refine a0u 2 _ _ ?_
 simp only [Tryz.f6,Option.getD_some,a1s,a0v,a1e,a0y,a1t,List.singleton_append,List.cons_append,List.nil_append,List.drop_succ_cons,List.drop_zero,List.append_eq]
 simp only [go_sem,hG,hOw]
 try (repeat' with_reducible first|refine And.intro ?_ ?_|intro _|refine exP ?_ ?_);all_goals try omega
 refine a0b [] [(0,60)] (d7z) ?_
 simp (maxSteps:=2000000) only [go_sem,hG,hOw,Nat.reduceMul]
 try (repeat' with_reducible first|refine And.intro ?_ ?_|intro _|refine exP ?_ ?_);all_goals try omega
 refine a1n (s':=St.of [(3,.ptr 3 0)] [(3,.box [a0e G.lo a5e,.lst G.lo 3 [[i64 1,i64 0,a0e G.lo lC],[i64 0,i64 4,.v (.slice none 0 0)]]])]) (a9s (fun i=>[60].contains i) (a2o [(3,some 3)])) ?_
 exact h
theorem g3m {G:Gh} {lo:Nat} (hG:G.n=238) (hOw:G.ow=fun _=>false) (hNm:G.nm=[]) (h:SemL Tryz.prog G ((a3a (Tryz.f6.body.getD .skip)).drop 9) (St.of [(3,.ptr 3 0),(2,i64 113)] [(3,.box [a0e G.lo a5e,.lst G.lo 3 [[i64 1,i64 0,a0e G.lo lC],[i64 0,i64 4,.v (.slice none 0 0)]]])]) (a1d Tryz.prog lo [.tmp 0] (bl true))) :
  SemL Tryz.prog G ((a3a (Tryz.f6.body.getD .skip)).drop 8) (St.of [(3,.ptr 3 0)] [(3,.box [a0e G.lo a5e,.lst G.lo 3 [[i64 1,i64 0,a0e G.lo lC],[i64 0,i64 4,.v (.slice none 0 0)]]])]) (a1d Tryz.prog lo [.tmp 0] (bl true)):=by
 refine a0u 1 _ _ ?_
 simp only [Tryz.f6,Option.getD_some,a1s,a0v,a1e,a0y,a1t,List.singleton_append,List.cons_append,List.nil_append,List.drop_succ_cons,List.drop_zero,List.append_eq]
 simp only [go_sem,hG,hOw]
 try (repeat' with_reducible first|refine And.intro ?_ ?_|intro _|refine exP ?_ ?_);all_goals try omega
 refine a0w (a2n _ _ _) (Subs.refl _) rfl (by simp [chk,hG]) ?_
 simp (maxSteps:=2000000) only [go_sem,hG,hOw,Nat.reduceMul]
 try (repeat' with_reducible first|refine And.intro ?_ ?_|intro _|refine exP ?_ ?_);all_goals try omega
 refine a0w (a2n _ _ _) (Subs.refl _) rfl (by simp [chk,hG]) ?_
 simp (maxSteps:=2000000) only [go_sem,hG,hOw,Nat.reduceMul]
 try (repeat' with_reducible first|refine And.intro ?_ ?_|intro _|refine exP ?_ ?_);all_goals try omega
 refine a0w (a2n _ _ _) (Subs.refl _) rfl (by simp [chk,hG]) ?_
 simp (maxSteps:=2000000) only [go_sem,hG,hOw,Nat.reduceMul]
 try (repeat' with_reducible first|refine And.intro ?_ ?_|intro _|refine exP ?_ ?_);all_goals try omega
 refine a0a f7q ?_
 simp (maxSteps:=2000000) only [go_sem,hG,hOw,Nat.reduceMul]
 try (repeat' with_reducible first|refine And.intro ?_ ?_|intro _|refine exP ?_ ?_);all_goals try omega
 refine a1n (s':=St.of [(3,.ptr 3 0),(2,i64 113)] [(3,.box [a0e G.lo a5e,.lst G.lo 3 [[i64 1,i64 0,a0e G.lo lC],[i64 0,i64 4,.v (.slice none 0 0)]]])]) (a2o [(3,some 3)]) ?_
 exact h
theorem g4l {G:Gh} {lo:Nat} (hG:G.n=238) (hOw:G.ow=fun _=>false) (hNm:G.nm=[]) (h:SemL Tryz.prog G ((a3a (Tryz.f6.body.getD .skip)).drop 10) (St.of [(3,.ptr 3 0),(2,i64 113),(5,i64 110)] [(3,.box [a0e G.lo a5e,.lst G.lo 3 [[i64 1,i64 0,a0e G.lo lC],[i64 0,i64 4,.v (.slice none 0 0)]]])]) (a1d Tryz.prog lo [.tmp 0] (bl true))) :
  SemL Tryz.prog G ((a3a (Tryz.f6.body.getD .skip)).drop 9) (St.of [(3,.ptr 3 0),(2,i64 113)] [(3,.box [a0e G.lo a5e,.lst G.lo 3 [[i64 1,i64 0,a0e G.lo lC],[i64 0,i64 4,.v (.slice none 0 0)]]])]) (a1d Tryz.prog lo [.tmp 0] (bl true)):=by
 refine a0u 1 _ _ ?_
 simp only [Tryz.f6,Option.getD_some,a1s,a0v,a1e,a0y,a1t,List.singleton_append,List.cons_append,List.nil_append,List.drop_succ_cons,List.drop_zero,List.append_eq]
 simp only [go_sem,hG,hOw]
 try (repeat' with_reducible first|refine And.intro ?_ ?_|intro _|refine exP ?_ ?_);all_goals try omega
 refine a0w (a2n _ _ _) (Subs.refl _) rfl (by simp [chk,hG]) ?_
 simp (maxSteps:=2000000) only [go_sem,hG,hOw,Nat.reduceMul]
 try (repeat' with_reducible first|refine And.intro ?_ ?_|intro _|refine exP ?_ ?_);all_goals try omega
 refine a0a xWr ?_
 simp (maxSteps:=2000000) only [go_sem,hG,hOw,Nat.reduceMul]
 try (repeat' with_reducible first|refine And.intro ?_ ?_|intro _|refine exP ?_ ?_);all_goals try omega
 refine a1n (s':=St.of [(3,.ptr 3 0),(2,i64 113),(5,i64 110)] [(3,.box [a0e G.lo a5e,.lst G.lo 3 [[i64 1,i64 0,a0e G.lo lC],[i64 0,i64 4,.v (.slice none 0 0)]]])]) (a2o [(3,some 3)]) ?_
 exact h
theorem f6p {G:Gh} {lo:Nat} (hG:G.n=238) (hOw:G.ow=fun _=>false) (hNm:G.nm=[]) (h:SemL Tryz.prog G ((a3a (Tryz.f6.body.getD .skip)).drop 11) (St.of [(3,.ptr 3 0),(2,i64 113),(5,i64 110),(8,i64 9)] [(3,.box [a0e G.lo a5e,.lst G.lo 3 [[i64 1,i64 0,a0e G.lo lC],[i64 0,i64 4,.v (.slice none 0 0)]]])]) (a1d Tryz.prog lo [.tmp 0] (bl true))) :
  SemL Tryz.prog G ((a3a (Tryz.f6.body.getD .skip)).drop 10) (St.of [(3,.ptr 3 0),(2,i64 113),(5,i64 110)] [(3,.box [a0e G.lo a5e,.lst G.lo 3 [[i64 1,i64 0,a0e G.lo lC],[i64 0,i64 4,.v (.slice none 0 0)]]])]) (a1d Tryz.prog lo [.tmp 0] (bl true)):=by
 refine a0u 1 _ _ ?_
 simp only [Tryz.f6,Option.getD_some,a1s,a0v,a1e,a0y,a1t,List.singleton_append,List.cons_append,List.nil_append,List.drop_succ_cons,List.drop_zero,List.append_eq]
 simp only [go_sem,hG,hOw]
 try (repeat' with_reducible first|refine And.intro ?_ ?_|intro _|refine exP ?_ ?_);all_goals try omega
 refine e2h rfl rfl rfl rfl (by rw [hG];decide) (by simp [go_sem]) a7c d4m rfl c8z (by decide) (by omega) (by omega) (by omega) ?_
 rw [f2i]
 generalize hb:g0z=m
 simp only [go_sem,hG,hOw]
 refine c3q (fun i=>i == 81) ?_
 simp (maxSteps:=2000000) only [go_sem,hG,hOw,List.map_replicate,e5m,d6x]
 try (repeat' with_reducible first|refine And.intro ?_ ?_|intro _|refine exP ?_ ?_);all_goals try omega
 refine a0a (xRd ⟨(List.replicate m (0:UInt8)).toArray⟩ (by rw [← hb];exact e5l)) ?_
 simp (maxSteps:=2000000) only [go_sem,hG,hOw,Nat.reduceMul]
 try (repeat' with_reducible first|refine And.intro ?_ ?_|intro _|refine exP ?_ ?_);all_goals try omega
 refine a1n (s':=St.of [(3,.ptr 3 0),(2,i64 113),(5,i64 110),(8,i64 9)] [(3,.box [a0e G.lo a5e,.lst G.lo 3 [[i64 1,i64 0,a0e G.lo lC],[i64 0,i64 4,.v (.slice none 0 0)]]])]) (a2o [(3,some 3)]) ?_
 exact h
theorem f9p {G:Gh} {lo:Nat} (hG:G.n=238) (hOw:G.ow=fun _=>false) (hNm:G.nm=[]) (h:SemL Tryz.prog G ((a3a (Tryz.f6.body.getD .skip)).drop 12) (St.of [(3,.ptr 3 0),(2,i64 113),(5,i64 110),(8,i64 9),(10,i64 111)] [(3,.box [a0e G.lo a5e,.lst G.lo 3 [[i64 1,i64 0,a0e G.lo lC],[i64 0,i64 4,.v (.slice none 0 0)]]])]) (a1d Tryz.prog lo [.tmp 0] (bl true))) :
  SemL Tryz.prog G ((a3a (Tryz.f6.body.getD .skip)).drop 11) (St.of [(3,.ptr 3 0),(2,i64 113),(5,i64 110),(8,i64 9)] [(3,.box [a0e G.lo a5e,.lst G.lo 3 [[i64 1,i64 0,a0e G.lo lC],[i64 0,i64 4,.v (.slice none 0 0)]]])]) (a1d Tryz.prog lo [.tmp 0] (bl true)):=by
 refine a0u 1 _ _ ?_
 simp only [Tryz.f6,Option.getD_some,a1s,a0v,a1e,a0y,a1t,List.singleton_append,List.cons_append,List.nil_append,List.drop_succ_cons,List.drop_zero,List.append_eq]
 simp only [go_sem,hG,hOw]
 try (repeat' with_reducible first|refine And.intro ?_ ?_|intro _|refine exP ?_ ?_);all_goals try omega
 refine a0w (a2n _ _ _) (Subs.refl _) rfl (by simp [chk,hG]) ?_
 simp (maxSteps:=2000000) only [go_sem,hG,hOw,Nat.reduceMul]
 try (repeat' with_reducible first|refine And.intro ?_ ?_|intro _|refine exP ?_ ?_);all_goals try omega
 refine a0a g3s ?_
 simp (maxSteps:=2000000) only [go_sem,hG,hOw,Nat.reduceMul]
 try (repeat' with_reducible first|refine And.intro ?_ ?_|intro _|refine exP ?_ ?_);all_goals try omega
 refine a1n (s':=St.of [(3,.ptr 3 0),(2,i64 113),(5,i64 110),(8,i64 9),(10,i64 111)] [(3,.box [a0e G.lo a5e,.lst G.lo 3 [[i64 1,i64 0,a0e G.lo lC],[i64 0,i64 4,.v (.slice none 0 0)]]])]) (a2o [(3,some 3)]) ?_
 exact h
theorem f7a {G:Gh} {lo:Nat} (hG:G.n=238) (hOw:G.ow=fun _=>false) (hNm:G.nm=[]) (h:SemL Tryz.prog G ((a3a (Tryz.f6.body.getD .skip)).drop 13) (St.of [(3,.ptr 3 0),(2,i64 113),(5,i64 110),(8,i64 9),(10,i64 111),(12,i64 111)] [(3,.box [a0e G.lo a5e,.lst G.lo 3 [[i64 1,i64 0,a0e G.lo lC],[i64 0,i64 4,.v (.slice none 0 0)]]])]) (a1d Tryz.prog lo [.tmp 0] (bl true))) :
  SemL Tryz.prog G ((a3a (Tryz.f6.body.getD .skip)).drop 12) (St.of [(3,.ptr 3 0),(2,i64 113),(5,i64 110),(8,i64 9),(10,i64 111)] [(3,.box [a0e G.lo a5e,.lst G.lo 3 [[i64 1,i64 0,a0e G.lo lC],[i64 0,i64 4,.v (.slice none 0 0)]]])]) (a1d Tryz.prog lo [.tmp 0] (bl true)):=by
 refine a0u 1 _ _ ?_
 simp only [Tryz.f6,Option.getD_some,a1s,a0v,a1e,a0y,a1t,List.singleton_append,List.cons_append,List.nil_append,List.drop_succ_cons,List.drop_zero,List.append_eq]
 simp only [go_sem,hG,hOw]
 try (repeat' with_reducible first|refine And.intro ?_ ?_|intro _|refine exP ?_ ?_);all_goals try omega
 refine a0a b7m ?_
 simp (maxSteps:=2000000) only [go_sem,hG,hOw,Nat.reduceMul]
 try (repeat' with_reducible first|refine And.intro ?_ ?_|intro _|refine exP ?_ ?_);all_goals try omega
 refine a0w (a2n _ _ _) (Subs.refl _) rfl (by simp [chk,hG]) ?_
 simp (maxSteps:=2000000) only [go_sem,hG,hOw,Nat.reduceMul]
 try (repeat' with_reducible first|refine And.intro ?_ ?_|intro _|refine exP ?_ ?_);all_goals try omega
 refine a0a xC1 ?_
 simp (maxSteps:=2000000) only [go_sem,hG,hOw,Nat.reduceMul]
 try (repeat' with_reducible first|refine And.intro ?_ ?_|intro _|refine exP ?_ ?_);all_goals try omega
 refine a1n (s':=St.of [(3,.ptr 3 0),(2,i64 113),(5,i64 110),(8,i64 9),(10,i64 111),(12,i64 111)] [(3,.box [a0e G.lo a5e,.lst G.lo 3 [[i64 1,i64 0,a0e G.lo lC],[i64 0,i64 4,.v (.slice none 0 0)]]])]) (a2o [(3,some 3)]) ?_
 exact h
theorem f8n {G:Gh} {lo:Nat} (hG:G.n=238) (hOw:G.ow=fun _=>false) (hNm:G.nm=[]) (h:SemL Tryz.prog G ((a3a (Tryz.f6.body.getD .skip)).drop 14) (St.of [(3,.ptr 3 0),(2,i64 113),(5,i64 110),(8,i64 9),(10,i64 111),(12,i64 111),(14,i64 11)] [(3,.box [a0e G.lo a5e,.lst G.lo 3 [[i64 1,i64 0,a0e G.lo lC],[i64 0,i64 4,.v (.slice none 0 0)]]])]) (a1d Tryz.prog lo [.tmp 0] (bl true))) :
  SemL Tryz.prog G ((a3a (Tryz.f6.body.getD .skip)).drop 13) (St.of [(3,.ptr 3 0),(2,i64 113),(5,i64 110),(8,i64 9),(10,i64 111),(12,i64 111)] [(3,.box [a0e G.lo a5e,.lst G.lo 3 [[i64 1,i64 0,a0e G.lo lC],[i64 0,i64 4,.v (.slice none 0 0)]]])]) (a1d Tryz.prog lo [.tmp 0] (bl true)):=by
 refine a0u 1 _ _ ?_
 simp only [Tryz.f6,Option.getD_some,a1s,a0v,a1e,a0y,a1t,List.singleton_append,List.cons_append,List.nil_append,List.drop_succ_cons,List.drop_zero,List.append_eq]
 simp only [go_sem,hG,hOw]
 try (repeat' with_reducible first|refine And.intro ?_ ?_|intro _|refine exP ?_ ?_);all_goals try omega
 refine a0a b7m ?_
 simp (maxSteps:=2000000) only [go_sem,hG,hOw,Nat.reduceMul]
 try (repeat' with_reducible first|refine And.intro ?_ ?_|intro _|refine exP ?_ ?_);all_goals try omega
 refine a0w (a2n _ _ _) (Subs.refl _) rfl (by simp [chk,hG]) ?_
 simp (maxSteps:=2000000) only [go_sem,hG,hOw,Nat.reduceMul]
 try (repeat' with_reducible first|refine And.intro ?_ ?_|intro _|refine exP ?_ ?_);all_goals try omega
 refine a0a xC2 ?_
 simp (maxSteps:=2000000) only [go_sem,hG,hOw,Nat.reduceMul]
 try (repeat' with_reducible first|refine And.intro ?_ ?_|intro _|refine exP ?_ ?_);all_goals try omega
 refine a1n (s':=St.of [(3,.ptr 3 0),(2,i64 113),(5,i64 110),(8,i64 9),(10,i64 111),(12,i64 111),(14,i64 11)] [(3,.box [a0e G.lo a5e,.lst G.lo 3 [[i64 1,i64 0,a0e G.lo lC],[i64 0,i64 4,.v (.slice none 0 0)]]])]) (a2o [(3,some 3)]) ?_
 exact h
theorem g0t {G:Gh} {lo:Nat} (hG:G.n=238) (hOw:G.ow=fun _=>false) (hNm:G.nm=[]) (h:SemL Tryz.prog G ((a3a (Tryz.f6.body.getD .skip)).drop 15) (St.of [(3,.ptr 3 0),(2,i64 113),(5,i64 110),(8,i64 9),(10,i64 111),(12,i64 111),(14,i64 11),(16,i64 111)] [(3,.box [a0e G.lo a5e,.lst G.lo 3 [[i64 1,i64 0,a0e G.lo lC],[i64 0,i64 4,.v (.slice none 0 0)]]])]) (a1d Tryz.prog lo [.tmp 0] (bl true))) :
  SemL Tryz.prog G ((a3a (Tryz.f6.body.getD .skip)).drop 14) (St.of [(3,.ptr 3 0),(2,i64 113),(5,i64 110),(8,i64 9),(10,i64 111),(12,i64 111),(14,i64 11)] [(3,.box [a0e G.lo a5e,.lst G.lo 3 [[i64 1,i64 0,a0e G.lo lC],[i64 0,i64 4,.v (.slice none 0 0)]]])]) (a1d Tryz.prog lo [.tmp 0] (bl true)):=by
 refine a0u 1 _ _ ?_
 simp only [Tryz.f6,Option.getD_some,a1s,a0v,a1e,a0y,a1t,List.singleton_append,List.cons_append,List.nil_append,List.drop_succ_cons,List.drop_zero,List.append_eq]
 simp only [go_sem,hG,hOw]
 try (repeat' with_reducible first|refine And.intro ?_ ?_|intro _|refine exP ?_ ?_);all_goals try omega
 refine a0w (a2n _ _ _) (Subs.refl _) rfl (by simp [chk,hG]) ?_
 simp (maxSteps:=2000000) only [go_sem,hG,hOw,Nat.reduceMul]
 try (repeat' with_reducible first|refine And.intro ?_ ?_|intro _|refine exP ?_ ?_);all_goals try omega
 refine a0a f7b ?_
 simp (maxSteps:=2000000) only [go_sem,hG,hOw,Nat.reduceMul]
 try (repeat' with_reducible first|refine And.intro ?_ ?_|intro _|refine exP ?_ ?_);all_goals try omega
 refine a1n (s':=St.of [(3,.ptr 3 0),(2,i64 113),(5,i64 110),(8,i64 9),(10,i64 111),(12,i64 111),(14,i64 11),(16,i64 111)] [(3,.box [a0e G.lo a5e,.lst G.lo 3 [[i64 1,i64 0,a0e G.lo lC],[i64 0,i64 4,.v (.slice none 0 0)]]])]) (a2o [(3,some 3)]) ?_
 exact h
theorem f8i {G:Gh} {lo:Nat} (hG:G.n=238) (hOw:G.ow=fun _=>false) (hNm:G.nm=[]) (h:SemL Tryz.prog G ((a3a (Tryz.f6.body.getD .skip)).drop 16) (St.of [(3,.ptr 3 0),(2,i64 113),(5,i64 110),(8,i64 9),(10,i64 111),(12,i64 111),(14,i64 11),(16,i64 111),(18,i64 40)] [(3,.box [a0e G.lo a5e,.lst G.lo 3 [[i64 1,i64 0,a0e G.lo lC],[i64 0,i64 4,.v (.slice none 0 0)]]])]) (a1d Tryz.prog lo [.tmp 0] (bl true))) :
  SemL Tryz.prog G ((a3a (Tryz.f6.body.getD .skip)).drop 15) (St.of [(3,.ptr 3 0),(2,i64 113),(5,i64 110),(8,i64 9),(10,i64 111),(12,i64 111),(14,i64 11),(16,i64 111)] [(3,.box [a0e G.lo a5e,.lst G.lo 3 [[i64 1,i64 0,a0e G.lo lC],[i64 0,i64 4,.v (.slice none 0 0)]]])]) (a1d Tryz.prog lo [.tmp 0] (bl true)):=by
 refine a0u 1 _ _ ?_
 simp only [Tryz.f6,Option.getD_some,a1s,a0v,a1e,a0y,a1t,List.singleton_append,List.cons_append,List.nil_append,List.drop_succ_cons,List.drop_zero,List.append_eq]
 simp only [go_sem,hG,hOw]
 try (repeat' with_reducible first|refine And.intro ?_ ?_|intro _|refine exP ?_ ?_);all_goals try omega
 refine a0a b7m ?_
 simp (maxSteps:=2000000) only [go_sem,hG,hOw,Nat.reduceMul]
 try (repeat' with_reducible first|refine And.intro ?_ ?_|intro _|refine exP ?_ ?_);all_goals try omega
 refine a0w (a2n _ _ _) (Subs.refl _) rfl (by simp [chk,hG]) ?_
 simp (maxSteps:=2000000) only [go_sem,hG,hOw,Nat.reduceMul]
 try (repeat' with_reducible first|refine And.intro ?_ ?_|intro _|refine exP ?_ ?_);all_goals try omega
 refine a0a g5n ?_
 simp (maxSteps:=2000000) only [go_sem,hG,hOw,Nat.reduceMul]
 try (repeat' with_reducible first|refine And.intro ?_ ?_|intro _|refine exP ?_ ?_);all_goals try omega
 refine a1n (s':=St.of [(3,.ptr 3 0),(2,i64 113),(5,i64 110),(8,i64 9),(10,i64 111),(12,i64 111),(14,i64 11),(16,i64 111),(18,i64 40)] [(3,.box [a0e G.lo a5e,.lst G.lo 3 [[i64 1,i64 0,a0e G.lo lC],[i64 0,i64 4,.v (.slice none 0 0)]]])]) (a2o [(3,some 3)]) ?_
 exact h
theorem f6k {G:Gh} {lo:Nat} (hG:G.n=238) (hOw:G.ow=fun _=>false) (hNm:G.nm=[]) (h:SemL Tryz.prog G ((a3a (Tryz.f6.body.getD .skip)).drop 17) (St.of [(3,.ptr 3 0),(2,i64 113),(5,i64 110),(8,i64 9),(10,i64 111),(12,i64 111),(14,i64 11),(16,i64 111),(18,i64 40),(20,i64 111)] [(3,.box [a0e G.lo a5e,.lst G.lo 3 [[i64 1,i64 0,a0e G.lo lC],[i64 0,i64 4,.v (.slice none 0 0)]]])]) (a1d Tryz.prog lo [.tmp 0] (bl true))) :
  SemL Tryz.prog G ((a3a (Tryz.f6.body.getD .skip)).drop 16) (St.of [(3,.ptr 3 0),(2,i64 113),(5,i64 110),(8,i64 9),(10,i64 111),(12,i64 111),(14,i64 11),(16,i64 111),(18,i64 40)] [(3,.box [a0e G.lo a5e,.lst G.lo 3 [[i64 1,i64 0,a0e G.lo lC],[i64 0,i64 4,.v (.slice none 0 0)]]])]) (a1d Tryz.prog lo [.tmp 0] (bl true)):=by
 refine a0u 1 _ _ ?_
 simp only [Tryz.f6,Option.getD_some,a1s,a0v,a1e,a0y,a1t,List.singleton_append,List.cons_append,List.nil_append,List.drop_succ_cons,List.drop_zero,List.append_eq]
 simp only [go_sem,hG,hOw]
 try (repeat' with_reducible first|refine And.intro ?_ ?_|intro _|refine exP ?_ ?_);all_goals try omega
 refine a0a b7m ?_
 simp (maxSteps:=2000000) only [go_sem,hG,hOw,Nat.reduceMul]
 try (repeat' with_reducible first|refine And.intro ?_ ?_|intro _|refine exP ?_ ?_);all_goals try omega
 refine a0w (a2n _ _ _) (Subs.refl _) rfl (by simp [chk,hG]) ?_
 simp (maxSteps:=2000000) only [go_sem,hG,hOw,Nat.reduceMul]
 try (repeat' with_reducible first|refine And.intro ?_ ?_|intro _|refine exP ?_ ?_);all_goals try omega
 refine a0a g1x ?_
 simp (maxSteps:=2000000) only [go_sem,hG,hOw,Nat.reduceMul]
 try (repeat' with_reducible first|refine And.intro ?_ ?_|intro _|refine exP ?_ ?_);all_goals try omega
 refine a1n (s':=St.of [(3,.ptr 3 0),(2,i64 113),(5,i64 110),(8,i64 9),(10,i64 111),(12,i64 111),(14,i64 11),(16,i64 111),(18,i64 40),(20,i64 111)] [(3,.box [a0e G.lo a5e,.lst G.lo 3 [[i64 1,i64 0,a0e G.lo lC],[i64 0,i64 4,.v (.slice none 0 0)]]])]) (a2o [(3,some 3)]) ?_
 exact h
theorem f9r {G:Gh} {lo:Nat} (hG:G.n=238) (hOw:G.ow=fun _=>false) (hNm:G.nm=[]) (h:SemL Tryz.prog G ((a3a (Tryz.f6.body.getD .skip)).drop 18) (St.of [(3,.ptr 3 0),(2,i64 113),(5,i64 110),(8,i64 9),(10,i64 111),(12,i64 111),(14,i64 11),(16,i64 111),(18,i64 40),(20,i64 111),(22,i64 112)] [(3,.box [a0e G.lo a5e,.lst G.lo 3 [[i64 1,i64 0,a0e G.lo lC],[i64 0,i64 4,.v (.slice none 0 0)]]])]) (a1d Tryz.prog lo [.tmp 0] (bl true))) :
  SemL Tryz.prog G ((a3a (Tryz.f6.body.getD .skip)).drop 17) (St.of [(3,.ptr 3 0),(2,i64 113),(5,i64 110),(8,i64 9),(10,i64 111),(12,i64 111),(14,i64 11),(16,i64 111),(18,i64 40),(20,i64 111)] [(3,.box [a0e G.lo a5e,.lst G.lo 3 [[i64 1,i64 0,a0e G.lo lC],[i64 0,i64 4,.v (.slice none 0 0)]]])]) (a1d Tryz.prog lo [.tmp 0] (bl true)):=by
 refine a0u 1 _ _ ?_
 simp only [Tryz.f6,Option.getD_some,a1s,a0v,a1e,a0y,a1t,List.singleton_append,List.cons_append,List.nil_append,List.drop_succ_cons,List.drop_zero,List.append_eq]
 simp only [go_sem,hG,hOw]
 try (repeat' with_reducible first|refine And.intro ?_ ?_|intro _|refine exP ?_ ?_);all_goals try omega
 refine a0w g5m (.cons (d8b _) (.cons (.refl _) .nil)) (by first|rfl|simp [a9i,b1n,pureV,pure0, *]) (by simp [chk,hG]) ?_
 simp (maxSteps:=2000000) only [go_sem,hG,hOw,Nat.reduceMul]
 try (repeat' with_reducible first|refine And.intro ?_ ?_|intro _|refine exP ?_ ?_);all_goals try omega
 refine a1n (s':=St.of [(3,.ptr 3 0),(2,i64 113),(5,i64 110),(8,i64 9),(10,i64 111),(12,i64 111),(14,i64 11),(16,i64 111),(18,i64 40),(20,i64 111),(22,i64 112)] [(3,.box [a0e G.lo a5e,.lst G.lo 3 [[i64 1,i64 0,a0e G.lo lC],[i64 0,i64 4,.v (.slice none 0 0)]]])]) (a2o [(3,some 3)]) ?_
 exact h
theorem f6y {G:Gh} {lo:Nat} (hG:G.n=238) (hOw:G.ow=fun _=>false) (hNm:G.nm=[]) (h:SemL Tryz.prog G ((a3a (Tryz.f6.body.getD .skip)).drop 19) (St.of [(3,.ptr 3 0),(2,i64 113),(5,i64 110),(8,i64 9),(10,i64 111),(12,i64 111),(14,i64 11),(16,i64 111),(18,i64 40),(20,i64 111),(22,i64 112),(24,i64 2)] [(3,.box [a0e G.lo a5e,.lst G.lo 3 [[i64 1,i64 0,a0e G.lo lC],[i64 0,i64 4,.v (.slice none 0 0)]]])]) (a1d Tryz.prog lo [.tmp 0] (bl true))) :
  SemL Tryz.prog G ((a3a (Tryz.f6.body.getD .skip)).drop 18) (St.of [(3,.ptr 3 0),(2,i64 113),(5,i64 110),(8,i64 9),(10,i64 111),(12,i64 111),(14,i64 11),(16,i64 111),(18,i64 40),(20,i64 111),(22,i64 112)] [(3,.box [a0e G.lo a5e,.lst G.lo 3 [[i64 1,i64 0,a0e G.lo lC],[i64 0,i64 4,.v (.slice none 0 0)]]])]) (a1d Tryz.prog lo [.tmp 0] (bl true)):=by
 refine a0u 1 _ _ ?_
 simp only [Tryz.f6,Option.getD_some,a1s,a0v,a1e,a0y,a1t,List.singleton_append,List.cons_append,List.nil_append,List.drop_succ_cons,List.drop_zero,List.append_eq]
 simp only [go_sem,hG,hOw]
 try (repeat' with_reducible first|refine And.intro ?_ ?_|intro _|refine exP ?_ ?_);all_goals try omega
 refine a0a a6q ?_
 simp (maxSteps:=2000000) only [go_sem,hG,hOw,Nat.reduceMul]
 try (repeat' with_reducible first|refine And.intro ?_ ?_|intro _|refine exP ?_ ?_);all_goals try omega
 refine a0a xBk ?_
 simp (maxSteps:=2000000) only [go_sem,hG,hOw,Nat.reduceMul]
 try (repeat' with_reducible first|refine And.intro ?_ ?_|intro _|refine exP ?_ ?_);all_goals try omega
 refine a1n (s':=St.of [(3,.ptr 3 0),(2,i64 113),(5,i64 110),(8,i64 9),(10,i64 111),(12,i64 111),(14,i64 11),(16,i64 111),(18,i64 40),(20,i64 111),(22,i64 112),(24,i64 2)] [(3,.box [a0e G.lo a5e,.lst G.lo 3 [[i64 1,i64 0,a0e G.lo lC],[i64 0,i64 4,.v (.slice none 0 0)]]])]) (a2o [(3,some 3)]) ?_
 exact h
theorem f8x {G:Gh} {lo:Nat} (hG:G.n=238) (hOw:G.ow=fun _=>false) (hNm:G.nm=[]) (h:SemL Tryz.prog G ((a3a (Tryz.f6.body.getD .skip)).drop 20) (St.of [(3,.ptr 3 0),(2,i64 113),(5,i64 110),(8,i64 9),(10,i64 111),(12,i64 111),(14,i64 11),(16,i64 111),(18,i64 40),(20,i64 111),(22,i64 112),(24,i64 2),(26,i64 2)] [(3,.box [a0e G.lo a5e,.lst G.lo 3 [[i64 1,i64 0,a0e G.lo lC],[i64 0,i64 4,.v (.slice none 0 0)]]])]) (a1d Tryz.prog lo [.tmp 0] (bl true))) :
  SemL Tryz.prog G ((a3a (Tryz.f6.body.getD .skip)).drop 19) (St.of [(3,.ptr 3 0),(2,i64 113),(5,i64 110),(8,i64 9),(10,i64 111),(12,i64 111),(14,i64 11),(16,i64 111),(18,i64 40),(20,i64 111),(22,i64 112),(24,i64 2)] [(3,.box [a0e G.lo a5e,.lst G.lo 3 [[i64 1,i64 0,a0e G.lo lC],[i64 0,i64 4,.v (.slice none 0 0)]]])]) (a1d Tryz.prog lo [.tmp 0] (bl true)):=by
 refine a0u 1 _ _ ?_
 simp only [Tryz.f6,Option.getD_some,a1s,a0v,a1e,a0y,a1t,List.singleton_append,List.cons_append,List.nil_append,List.drop_succ_cons,List.drop_zero,List.append_eq]
 simp only [go_sem,hG,hOw]
 try (repeat' with_reducible first|refine And.intro ?_ ?_|intro _|refine exP ?_ ?_);all_goals try omega
 refine a0a a6q ?_
 simp (maxSteps:=2000000) only [go_sem,hG,hOw,Nat.reduceMul]
 try (repeat' with_reducible first|refine And.intro ?_ ?_|intro _|refine exP ?_ ?_);all_goals try omega
 refine a0a xPr ?_
 simp (maxSteps:=2000000) only [go_sem,hG,hOw,Nat.reduceMul]
 try (repeat' with_reducible first|refine And.intro ?_ ?_|intro _|refine exP ?_ ?_);all_goals try omega
 refine a1n (s':=St.of [(3,.ptr 3 0),(2,i64 113),(5,i64 110),(8,i64 9),(10,i64 111),(12,i64 111),(14,i64 11),(16,i64 111),(18,i64 40),(20,i64 111),(22,i64 112),(24,i64 2),(26,i64 2)] [(3,.box [a0e G.lo a5e,.lst G.lo 3 [[i64 1,i64 0,a0e G.lo lC],[i64 0,i64 4,.v (.slice none 0 0)]]])]) (a2o [(3,some 3)]) ?_
 exact h
theorem f6m {G:Gh} {lo:Nat} (hG:G.n=238) (hOw:G.ow=fun _=>false) (hNm:G.nm=[]) (h:SemL Tryz.prog G ((a3a (Tryz.f6.body.getD .skip)).drop 21) (St.of [(3,.ptr 3 0),(2,i64 113),(5,i64 110),(8,i64 9),(10,i64 111),(12,i64 111),(14,i64 11),(16,i64 111),(18,i64 40),(20,i64 111),(22,i64 112),(24,i64 2),(26,i64 2),(28,i64 110)] [(3,.box [a0e G.lo a5e,.lst G.lo 3 [[i64 1,i64 0,a0e G.lo lC],[i64 0,i64 4,.v (.slice none 0 0)]]])]) (a1d Tryz.prog lo [.tmp 0] (bl true))) :
  SemL Tryz.prog G ((a3a (Tryz.f6.body.getD .skip)).drop 20) (St.of [(3,.ptr 3 0),(2,i64 113),(5,i64 110),(8,i64 9),(10,i64 111),(12,i64 111),(14,i64 11),(16,i64 111),(18,i64 40),(20,i64 111),(22,i64 112),(24,i64 2),(26,i64 2)] [(3,.box [a0e G.lo a5e,.lst G.lo 3 [[i64 1,i64 0,a0e G.lo lC],[i64 0,i64 4,.v (.slice none 0 0)]]])]) (a1d Tryz.prog lo [.tmp 0] (bl true)):=by
 refine a0u 1 _ _ ?_
 simp only [Tryz.f6,Option.getD_some,a1s,a0v,a1e,a0y,a1t,List.singleton_append,List.cons_append,List.nil_append,List.drop_succ_cons,List.drop_zero,List.append_eq]
 simp only [go_sem,hG,hOw]
 try (repeat' with_reducible first|refine And.intro ?_ ?_|intro _|refine exP ?_ ?_);all_goals try omega
 refine a0a a6q ?_
 simp (maxSteps:=2000000) only [go_sem,hG,hOw,Nat.reduceMul]
 try (repeat' with_reducible first|refine And.intro ?_ ?_|intro _|refine exP ?_ ?_);all_goals try omega
 refine a0w (a2n _ _ _) (Subs.refl _) rfl (by simp [chk,hG]) ?_
 simp (maxSteps:=2000000) only [go_sem,hG,hOw,Nat.reduceMul]
 try (repeat' with_reducible first|refine And.intro ?_ ?_|intro _|refine exP ?_ ?_);all_goals try omega
 refine a0a g5r ?_
 simp (maxSteps:=2000000) only [go_sem,hG,hOw,Nat.reduceMul]
 try (repeat' with_reducible first|refine And.intro ?_ ?_|intro _|refine exP ?_ ?_);all_goals try omega
 refine a1n (s':=St.of [(3,.ptr 3 0),(2,i64 113),(5,i64 110),(8,i64 9),(10,i64 111),(12,i64 111),(14,i64 11),(16,i64 111),(18,i64 40),(20,i64 111),(22,i64 112),(24,i64 2),(26,i64 2),(28,i64 110)] [(3,.box [a0e G.lo a5e,.lst G.lo 3 [[i64 1,i64 0,a0e G.lo lC],[i64 0,i64 4,.v (.slice none 0 0)]]])]) (a2o [(3,some 3)]) ?_
 exact h
theorem f8m {G:Gh} {lo:Nat} (hG:G.n=238) (hOw:G.ow=fun _=>false) (hNm:G.nm=[]) (h:SemL Tryz.prog G ((a3a (Tryz.f6.body.getD .skip)).drop 22) (St.of [(3,.ptr 3 0),(2,i64 113),(5,i64 110),(8,i64 9),(10,i64 111),(12,i64 111),(14,i64 11),(16,i64 111),(18,i64 40),(20,i64 111),(22,i64 112),(24,i64 2),(26,i64 2),(28,i64 110),(30,i64 31)] [(3,.box [a0e G.lo a5e,.lst G.lo 3 [[i64 1,i64 0,a0e G.lo lC],[i64 0,i64 4,.v (.slice none 0 0)]]])]) (a1d Tryz.prog lo [.tmp 0] (bl true))) :
  SemL Tryz.prog G ((a3a (Tryz.f6.body.getD .skip)).drop 21) (St.of [(3,.ptr 3 0),(2,i64 113),(5,i64 110),(8,i64 9),(10,i64 111),(12,i64 111),(14,i64 11),(16,i64 111),(18,i64 40),(20,i64 111),(22,i64 112),(24,i64 2),(26,i64 2),(28,i64 110)] [(3,.box [a0e G.lo a5e,.lst G.lo 3 [[i64 1,i64 0,a0e G.lo lC],[i64 0,i64 4,.v (.slice none 0 0)]]])]) (a1d Tryz.prog lo [.tmp 0] (bl true)):=by
 refine a0u 1 _ _ ?_
 simp only [Tryz.f6,Option.getD_some,a1s,a0v,a1e,a0y,a1t,List.singleton_append,List.cons_append,List.nil_append,List.drop_succ_cons,List.drop_zero,List.append_eq]
 simp only [go_sem,hG,hOw]
 try (repeat' with_reducible first|refine And.intro ?_ ?_|intro _|refine exP ?_ ?_);all_goals try omega
 refine a0a (b7h _ _ _) ?_
 simp (maxSteps:=2000000) only [go_sem,hG,hOw,Nat.reduceMul]
 try (repeat' with_reducible first|refine And.intro ?_ ?_|intro _|refine exP ?_ ?_);all_goals try omega
 refine a0a g5i ?_
 simp (maxSteps:=2000000) only [go_sem,hG,hOw,Nat.reduceMul]
 try (repeat' with_reducible first|refine And.intro ?_ ?_|intro _|refine exP ?_ ?_);all_goals try omega
 refine a1n (s':=St.of [(3,.ptr 3 0),(2,i64 113),(5,i64 110),(8,i64 9),(10,i64 111),(12,i64 111),(14,i64 11),(16,i64 111),(18,i64 40),(20,i64 111),(22,i64 112),(24,i64 2),(26,i64 2),(28,i64 110),(30,i64 31)] [(3,.box [a0e G.lo a5e,.lst G.lo 3 [[i64 1,i64 0,a0e G.lo lC],[i64 0,i64 4,.v (.slice none 0 0)]]])]) (a2o [(3,some 3)]) ?_
 exact h
theorem f8z {G:Gh} {lo:Nat} (hG:G.n=238) (hOw:G.ow=fun _=>false) (hNm:G.nm=[]) (h:SemL Tryz.prog G ((a3a (Tryz.f6.body.getD .skip)).drop 23) (St.of [(3,.ptr 3 0),(2,i64 113),(5,i64 110),(8,i64 9),(10,i64 111),(12,i64 111),(14,i64 11),(16,i64 111),(18,i64 40),(20,i64 111),(22,i64 112),(24,i64 2),(26,i64 2),(28,i64 110),(30,i64 31),(32,i64 10)] [(3,.box [a0e G.lo a5e,.lst G.lo 3 [[i64 1,i64 0,a0e G.lo lC],[i64 0,i64 4,.v (.slice none 0 0)]]])]) (a1d Tryz.prog lo [.tmp 0] (bl true))) :
  SemL Tryz.prog G ((a3a (Tryz.f6.body.getD .skip)).drop 22) (St.of [(3,.ptr 3 0),(2,i64 113),(5,i64 110),(8,i64 9),(10,i64 111),(12,i64 111),(14,i64 11),(16,i64 111),(18,i64 40),(20,i64 111),(22,i64 112),(24,i64 2),(26,i64 2),(28,i64 110),(30,i64 31)] [(3,.box [a0e G.lo a5e,.lst G.lo 3 [[i64 1,i64 0,a0e G.lo lC],[i64 0,i64 4,.v (.slice none 0 0)]]])]) (a1d Tryz.prog lo [.tmp 0] (bl true)):=by
 refine a0u 1 _ _ ?_
 simp only [Tryz.f6,Option.getD_some,a1s,a0v,a1e,a0y,a1t,List.singleton_append,List.cons_append,List.nil_append,List.drop_succ_cons,List.drop_zero,List.append_eq]
 simp only [go_sem,hG,hOw]
 try (repeat' with_reducible first|refine And.intro ?_ ?_|intro _|refine exP ?_ ?_);all_goals try omega
 refine a0w g5q (.cons (Subs.agg (.cons (.nil _ _) .nil)) .nil) (by first|rfl|simp [a9i,b1n,pureV,pure0, *]) (by simp [chk,hG]) ?_
 simp (maxSteps:=2000000) only [go_sem,hG,hOw,Nat.reduceMul]
 try (repeat' with_reducible first|refine And.intro ?_ ?_|intro _|refine exP ?_ ?_);all_goals try omega
 refine a1n (s':=St.of [(3,.ptr 3 0),(2,i64 113),(5,i64 110),(8,i64 9),(10,i64 111),(12,i64 111),(14,i64 11),(16,i64 111),(18,i64 40),(20,i64 111),(22,i64 112),(24,i64 2),(26,i64 2),(28,i64 110),(30,i64 31),(32,i64 10)] [(3,.box [a0e G.lo a5e,.lst G.lo 3 [[i64 1,i64 0,a0e G.lo lC],[i64 0,i64 4,.v (.slice none 0 0)]]])]) (a2o [(3,some 3)]) ?_
 exact h
theorem f6e {G:Gh} {lo:Nat} (hG:G.n=238) (hOw:G.ow=fun _=>false) (hNm:G.nm=[]) (h:SemL Tryz.prog G ((a3a (Tryz.f6.body.getD .skip)).drop 24) (St.of [(3,.ptr 3 0),(2,i64 113),(5,i64 110),(8,i64 9),(10,i64 111),(12,i64 111),(14,i64 11),(16,i64 111),(18,i64 40),(20,i64 111),(22,i64 112),(24,i64 2),(26,i64 2),(28,i64 110),(30,i64 31),(32,i64 10),(34,i64 10)] [(3,.box [a0e G.lo a5e,.lst G.lo 3 [[i64 1,i64 0,a0e G.lo lC],[i64 0,i64 4,.v (.slice none 0 0)]]])]) (a1d Tryz.prog lo [.tmp 0] (bl true))) :
  SemL Tryz.prog G ((a3a (Tryz.f6.body.getD .skip)).drop 23) (St.of [(3,.ptr 3 0),(2,i64 113),(5,i64 110),(8,i64 9),(10,i64 111),(12,i64 111),(14,i64 11),(16,i64 111),(18,i64 40),(20,i64 111),(22,i64 112),(24,i64 2),(26,i64 2),(28,i64 110),(30,i64 31),(32,i64 10)] [(3,.box [a0e G.lo a5e,.lst G.lo 3 [[i64 1,i64 0,a0e G.lo lC],[i64 0,i64 4,.v (.slice none 0 0)]]])]) (a1d Tryz.prog lo [.tmp 0] (bl true)):=by
 refine a0u 1 _ _ ?_
 simp only [Tryz.f6,Option.getD_some,a1s,a0v,a1e,a0y,a1t,List.singleton_append,List.cons_append,List.nil_append,List.drop_succ_cons,List.drop_zero,List.append_eq]
 simp only [go_sem,hG,hOw]
 try (repeat' with_reducible first|refine And.intro ?_ ?_|intro _|refine exP ?_ ?_);all_goals try omega
 refine a0w g5l (.cons (.nil _ _) .nil) (by first|rfl|simp [a9i,b1n,pureV,pure0, *]) (by simp [chk,hG]) ?_
 simp (maxSteps:=2000000) only [go_sem,hG,hOw,Nat.reduceMul]
 try (repeat' with_reducible first|refine And.intro ?_ ?_|intro _|refine exP ?_ ?_);all_goals try omega
 refine a1n (s':=St.of [(3,.ptr 3 0),(2,i64 113),(5,i64 110),(8,i64 9),(10,i64 111),(12,i64 111),(14,i64 11),(16,i64 111),(18,i64 40),(20,i64 111),(22,i64 112),(24,i64 2),(26,i64 2),(28,i64 110),(30,i64 31),(32,i64 10),(34,i64 10)] [(3,.box [a0e G.lo a5e,.lst G.lo 3 [[i64 1,i64 0,a0e G.lo lC],[i64 0,i64 4,.v (.slice none 0 0)]]])]) (a2o [(3,some 3)]) ?_
 exact h
theorem f9f {G:Gh} {lo:Nat} (hG:G.n=238) (hOw:G.ow=fun _=>false) (hNm:G.nm=[]) :
  SemL Tryz.prog G ((a3a (Tryz.f6.body.getD .skip)).drop 24) (St.of [(3,.ptr 3 0),(2,i64 113),(5,i64 110),(8,i64 9),(10,i64 111),(12,i64 111),(14,i64 11),(16,i64 111),(18,i64 40),(20,i64 111),(22,i64 112),(24,i64 2),(26,i64 2),(28,i64 110),(30,i64 31),(32,i64 10),(34,i64 10)] [(3,.box [a0e G.lo a5e,.lst G.lo 3 [[i64 1,i64 0,a0e G.lo lC],[i64 0,i64 4,.v (.slice none 0 0)]]])]) (a1d Tryz.prog lo [.tmp 0] (bl true)):=by
 refine a0u 2 _ _ ?_
 simp only [Tryz.f6,Option.getD_some,a1s,a0v,a1e,a0y,a1t,List.singleton_append,List.cons_append,List.nil_append,List.drop_succ_cons,List.drop_zero,List.append_eq]
 simp only [go_sem,hG,hOw]
 try (repeat' with_reducible first|refine And.intro ?_ ?_|intro _|refine exP ?_ ?_);all_goals try omega
 refine a0w xCs (.cons (d8b _) .nil) (by first|rfl|simp [a9i,b1n,pureV,pure0, *]) (by simp [chk,hG]) ?_
 simp (maxSteps:=2000000) only [go_sem,hG,hOw,Nat.reduceMul]
 try (repeat' with_reducible first|refine And.intro ?_ ?_|intro _|refine exP ?_ ?_);all_goals try omega
 refine a0w (a2n _ _ _) (Subs.refl _) rfl (by simp [chk,hG]) ?_
 simp (maxSteps:=2000000) only [go_sem,hG,hOw,Nat.reduceMul]
 try (repeat' with_reducible first|refine And.intro ?_ ?_|intro _|refine exP ?_ ?_);all_goals try omega
 refine a0a xCk ?_
 simp (maxSteps:=2000000) only [go_sem,hG,hOw,Nat.reduceMul]
 try (repeat' with_reducible first|refine And.intro ?_ ?_|intro _|refine exP ?_ ?_);all_goals try omega
theorem b4s:a0o Tryz.prog 6 [] (fun _=>bl true):=by
 refine b7c (fun _=>false) Tryz.func6 Tryz.ntmps6 rfl (by kernel_rfl) (by simp) rfl (by decide) fun G hG hOw hNm hZ hB=>?_
 refine a0u 3 _ _ ?_
 simp only [go_sem,hG,hOw]
 refine a0a e6r ?_
 simp only [go_sem,hG,hOw]
 try (repeat' with_reducible first|refine And.intro ?_ ?_|intro _|refine exP ?_ ?_);all_goals try omega
 refine a1n (s':=St.of [] []) (a1j (by (simp only [go_sem])<;>simp) hNm) ?_
 refine g2r hG hOw hNm ?_
 refine g3q hG hOw hNm ?_
 refine g3m hG hOw hNm ?_
 refine g4l hG hOw hNm ?_
 refine f6p hG hOw hNm ?_
 refine f9p hG hOw hNm ?_
 refine f7a hG hOw hNm ?_
 refine f8n hG hOw hNm ?_
 refine g0t hG hOw hNm ?_
 refine f8i hG hOw hNm ?_
 refine f6k hG hOw hNm ?_
 refine f9r hG hOw hNm ?_
 refine f6y hG hOw hNm ?_
 refine f8x hG hOw hNm ?_
 refine f6m hG hOw hNm ?_
 refine f8m hG hOw hNm ?_
 refine f8z hG hOw hNm ?_
 refine f6e hG hOw hNm ?_
 exact f9f hG hOw hNm
end Go.Proofs.YtmjhfccbbfpppaaGreatDoor
