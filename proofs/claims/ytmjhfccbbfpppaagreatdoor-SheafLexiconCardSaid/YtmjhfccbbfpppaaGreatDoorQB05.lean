import Derived.Deep.LoopGhost
import Derived.RangeFuncLeaves
import Derived.RangeFuncRecord
import Derived.OrdersIn
import Derived.TacticsInMore
import Derived.Test.YtmjhfccbbfpppaaGreatDoorQB04
namespace Go.Proofs.YtmjhfccbbfpppaaGreatDoor
open Go
set_option linter.unusedSimpArgs false
set_option linter.unusedVariables false
namespace Pm
def e7y (s:St) (el sz:Nat):V→Option (List (List V)×Option Nat×Prop)
 |.own id off len sz'=>match s.hget id with
  |some (.arr el' sz'' l)=>some (l,some id,off=0∧len=l.length∧sz'=sz∧sz''=sz∧el'=el)
  |_=>none
 |.v (.slice none 0 0)=>some ([],none,True)
 |_=>none
def f6t (s:St) (sz:Nat):V→Option (List (List V)×Prop)
 |.lst _ sz' l=>some (l,sz'=sz)
 |.own id off len sz'=>match s.hget id with
  |some (.arr _ sz'' l)=>some ((l.drop off).take len,sz'=sz∧sz''=sz)
  |_=>none
 |.v (.slice none 0 0)=>some ([],True)
 |_=>none
def d2k (own:Bool) (lo d el sz:Nat) (l new:List (List V)) (io:Option Nat):V×List (Nat×Option OB):=match own with
 |true=>(.own d 0 (l.length+new.length) sz,a4r io++[(d,some (.arr el sz (l++new)))])
 |false=>(.lst lo sz (l++new),a4r io++[(d,some (.arr el sz (l++new))),(d,none)])
def d9q (P:Program) (own:Bool) (lo:Nat) (s:St) (d t t' el sz:Nat):Option (List (List V)×Option Nat×Prop)→Option (List (List V)×Prop)→Res
 |some (l,io,C1),some (new,C2)=>.heap (C1∧C2∧t'=t∧s.used d=false∧0 < sz∧(a0p P el).map List.length=some sz∧(a0g P el).isSome=true∧a3b new=true∧(l.length+new.length) * (a0g P el).getD 0≤140737488355328∧l.length+new.length≤140737488355328)
   fun _=>d2k own lo d el sz l new io
 |_,_=>.stuck
def b6h (P:Program) (own:Bool) (lo:Nat) (s:St) (t t':TypeId) (x y:V):Option Nat→Option (TypeId×Nat)→Res
 |some d,some (el,sz)=>d9q P own lo s d t t' el sz (e7y s el sz x) (f6t s sz y)
 |_,_=>.stuck
theorem e3h {s:St} {el sz:Nat} {x:V} {l:List (List V)} {io:Option Nat} {C:Prop} (h:e7y s el sz x=some (l,io,C)) (hC:C):IsArr s el sz x l io:=by
 unfold e7y at h
 split at h
 ·split at h
  ·rename_i h'
   simp only [Option.some.injEq,Prod.mk.injEq] at h
   obtain ⟨rfl,rfl,rfl⟩:=h
   obtain ⟨rfl,rfl,rfl,rfl,rfl⟩:=hC
   exact .own _ _ h'
  ·cases h
 ·simp only [Option.some.injEq,Prod.mk.injEq] at h
  obtain ⟨rfl,rfl,rfl⟩:=h
  exact .nil
 ·cases h
theorem d7x {s:St} {sz:Nat} {y:V} {l:List (List V)} {C:Prop} (h:f6t s sz y=some (l,C)) (hC:C):IsSrc s sz y l:=by
 unfold f6t at h
 split at h
 ·simp only [Option.some.injEq,Prod.mk.injEq] at h
  obtain ⟨rfl,rfl⟩:=h
  subst hC
  exact .lst _ _
 ·split at h
  ·rename_i h'
   simp only [Option.some.injEq,Prod.mk.injEq] at h
   obtain ⟨rfl,rfl⟩:=h
   obtain ⟨rfl,rfl⟩:=hC
   exact .own _ _ _ _ _ h'
  ·cases h
 ·simp only [Option.some.injEq,Prod.mk.injEq] at h
  obtain ⟨rfl,rfl⟩:=h
  exact .nil
 ·cases h
theorem g2f (P:Program) (G:Gh) (own:Bool) (s:St) (o:Oper) (hd:∀ d,o.dst=some d→d < G.n) (x y:Operand) (t t':TypeId) (ho:o.op=.call ⟨.builtin .append,⟨[x,y]⟩,⟨[t,t']⟩⟩) :
  a2w P G s o (b6h P own G.lo s t t' (ev s x) (ev s y) o.dst (a0t P t)):=by
 unfold b6h
 split
 ·rename_i d el sz hd' hse
  unfold d9q
  split
  ·rename_i l io C1 new C2 h1 h2
   rintro ⟨g1,g2,rfl,g3,g4,g5,g6,g7,g8,g9⟩
   obtain ⟨bytes,hby⟩:=Option.isSome_iff_exists.1 g6
   rw [hby] at g8
   have:=c9x (own:=own) ho rfl rfl hd g3 (e3h h1 g1) (d7x h2 g2) hse g5 hby g4 g7 g8 g9
   unfold d2k
   cases own<;>exact this
  ·trivial
 ·trivial
def b8r:Option (Nat×Nat)→V→Option V→Option V→Res→Res
 |some (n,1),.fp cs,none,none,_=>.go (cs.length=n∧0 < n∧n≤1000) fun _=>.lst 0 1 (cs.map fun c=>[c])
 |_,_,_,_,r=>r
theorem g1b (P:Program) (G:Gh) (s:St) (o:Oper) (hd:∀ d,o.dst=some d→d < G.n) (t:TypeId) (x:Operand) (lo hi:Option Operand) (r:Res) (ho:o.op=.slice t x lo hi none) (h:a2w P G s o r) :
  a2w P G s o (b8r (a1x P t) (ev s x) (lo.map (ev s)) (hi.map (ev s)) r):=by
 unfold b8r
 split
 ·rename_i n cs hae hx hlo hhi
  rintro ⟨h1,h2,h3⟩
  refine a0j hd fun a w E hs=>?_
  obtain ⟨e,hu,inf,hinf,hsz⟩:=a8d hae
  obtain ⟨b,of',g,hy,hO,hb,hcell,hr⟩:=R.fp_inv (a1t hs hx)
  obtain rfl:lo=none:=by cases lo<;>simp_all
  obtain rfl:hi=none:=by cases hi<;>simp_all
  have hbd:=a4a (P:=P) (w:=w) false n n none none 0 n (.inl ⟨rfl,rfl⟩) (.inl ⟨rfl,rfl⟩) (by omega) (by omega) (by omega)
  have e0:((0:Int)).toNat=0:=rfl
  have en:((n:Int)).toNat=n:=Int.toNat_natCast n
  rw [e0,en] at hbd
  refine ⟨.slice (some ⟨b,of',none⟩) n n,?_,.r0 _ _ (.lst 0 1 _ _ _ _ b of' (fun i _=>g i) (fun _=>Nat.zero_le _) (by simp [h1]) (by simp [h1]) (by simp;omega) (fun _=>⟨rfl,hO,hb⟩) (fun i x j u h5 h6=>?_) (fun x hx=>?_) (fun i x j u h5 h6=>?_))⟩
  ·have:¬ n=0:=by omega
   simp [execOp,ho,Instr.sliceAt,a0o P w hu,a1n P w hinf,hsz,hy,hbd,Instr.sureAddr,this,a3f]
  ·simp only [List.getElem?_map,Option.map_eq_some_iff] at h5
   obtain ⟨c,h7,rfl⟩:=h5
   have hj:j=0:=by
    rcases j with _|j
    ·rfl
    ·simp at h6
   subst hj
   simp at h6
   subst h6
   simpa using hcell i c h7
  ·simp at hx;obtain ⟨c,_,rfl⟩:=hx;rfl
  ·simp only [List.getElem?_map,Option.map_eq_some_iff] at h5
   obtain ⟨c,h7,rfl⟩:=h5
   have hj:j=0:=by
    rcases j with _|j
    ·rfl
    ·simp at h6
   subst hj
   simp at h6
   subst h6
   exact hr i c h7
 ·exact h
def g4u:Bool→Res→Res
 |true,_=>.stuck
 |false,r=>r
def a3r (P:Program) (ow:Nat→Bool) (lo:Nat) (s:St) (d:Option Nat):Op→Res
 |.move x=>.go True fun _=>ev s x
 |.assign x=>.go True fun _=>ev s x
 |.pick c x y=>b3s (ev s c) (ev s x) (ev s y)
 |.nilCheck x=>c0g (ev s x)
 |.load t x=>b7s s (a0m P t) (ev s x)
 |.fieldAddr t x k=>b3n (a0v P t k) (ev s x)
 |.field t x k=>c0h (a0v P t k) (ev s x)
 |.extract x k=>b9w k (ev s x)
 |.call ⟨.builtin .len,⟨[x]⟩,⟨[t]⟩⟩=>b9s (tk P t) (ev s x)
 |.call ⟨.builtin .append,⟨[x,y]⟩,⟨[t,t']⟩⟩=>b6h P (!d.any ow) lo s t t' (ev s x) (ev s y) d (a0t P t)
 |.call ⟨.builtin .delete,⟨[x,y]⟩,⟨[t,_]⟩⟩=>b7h s (c1r P t) (ev s x) (d3r (ev s y))
 |.call ⟨.builtin b,⟨[x,y]⟩,⟨[t,t']⟩⟩=>d4m b (ev s x) (ev s y)
 |.call ⟨.builtin .cap,⟨[x]⟩,⟨[t]⟩⟩=>c0i (tk P t) (ev s x)
 |.indexAddr t x i=>c0o (a0t P t) (a1x P t) (ev s x) (ev s i)
 |.index t x i=>c0k (a3g P t) (ev s x) (ev s i) (d5s (tk P t) (ev s x) (ev s i))
 |.makeFunc f ⟨[]⟩ ⟨cap⟩=>b8s f (cap.map (ev s))
 |.makeFunc f ⟨b::bs⟩ ⟨[]⟩=>c0d f ((b::bs).map (ev s))
 |.binOp op t x y _=>c0j op (a4f P t) (ev s x) (ev s y) (b6s op (tk P t) (ev s x) (ev s y))
 |.unOp op _ x=>d5l op (ev s x)
 |.convert t t' x=>b9g lo (tk P t) (tk P t') (a0h P t) (a0h P t') (ev s x)
 |.slice t x l h none=>g4u (d.any ow) (b8r (a1x P t) (ev s x) (l.map (ev s)) (h.map (ev s)) (b9t (tk P t) (a0t P t) (ev s x) (l.map (ev s)) (h.map (ev s))))
 |.build t ⟨parts⟩=>b9f (a0p P t) (a1a P t) (parts.map fun p=>(p.1,ev s p.2))
 |.buildSlice t n ⟨parts⟩=>b7a P (d.any ow || n == 0) (d.any fun i=>ow (i+1000000)) lo s n d (a0t P t) (parts.map fun p=>(p.1,ev s p.2))
 |.box _ x=>a8q s d (a7w (ev s x))
 |.alloc t=>a8q s d ((e4h P t).map fun z=>z.map .v)
 |.store t p x=>match d with
  |none=>c9q s (a0m P t) (ev s p) (a7w (ev s x))
  |some _=>.stuck
 |.lookup t x k ok=>b7b s (c1r P t) ok (ev s x) (d3r (ev s k))
 |.makeMap t none=>b6r s d (c1r P t)
 |.mapUpdate t x k v=>match d with
  |none=>b6o s (c1r P t) (ev s x) (d3r (ev s k)) (ev s v)
  |some _=>.stuck
 |.call ⟨.value f,⟨as⟩,_⟩=>.call (ev s f) (as.map (ev s))
 |_=>.stuck
theorem a6w (P:Program) (G:Gh) (ow:Nat→Bool) (s:St) (o:Oper) (hd:∀ d,o.dst=some d→d < G.n):a2w P G s o (a3r P ow G.lo s o.dst o.op):=by
 obtain ⟨dst,op,ty,pos,after,guard⟩:=o
 dsimp only at *
 unfold a3r
 split
 ·exact e2e P G s _ hd _ (.inl rfl)
 ·exact e2e P G s _ hd _ (.inr rfl)
 ·exact f4m P G s _ hd _ _ _ rfl
 ·exact c7t P G s _ hd _ rfl
 ·exact d4l P G s _ hd _ _ rfl
 ·exact c6f P G s _ hd _ _ _ rfl
 ·exact e8u P G s _ hd _ _ _ rfl
 ·exact d4h P G s _ hd _ _ rfl
 ·exact g1o P G s _ hd _ _ rfl
 ·exact g2f P G _ s _ hd _ _ _ _ rfl
 ·exact e0g P G s _ hd _ _ _ _ rfl
 ·exact g7e P G s _ hd _ _ _ _ _ rfl
 ·exact g3t P G s _ hd _ _ rfl
 ·exact g1d P G s _ hd _ _ _ rfl
 ·exact g0c P G s _ hd _ _ _ rfl _ (e8m P G s _ hd _ _ _ rfl)
 ·exact c9u P G s _ hd _ _ rfl
 ·exact c3o P G s _ hd _ _ rfl
 ·exact d9c hd rfl
 ·exact g5g P G s _ hd _ _ _ rfl
 ·exact c9t P G s _ hd _ _ _ rfl
 ·unfold g4u
  split
  ·trivial
  ·exact g1b P G s _ hd _ _ _ _ _ rfl (f1u P G s _ hd _ _ _ _ rfl)
 ·exact e9a P G s _ hd _ _ rfl
 ·exact c1d P G _ _ s _ hd _ _ _ rfl
 ·exact f9u P G s _ hd _ _ rfl
 ·exact e9f P G s _ hd _ rfl
 ·split
  ·exact e7p P G s _ _ _ _ rfl rfl
  ·trivial
 ·exact e2r P G s _ hd _ _ _ _ rfl
 ·exact d4u P G s _ hd _ rfl
 ·split
  ·exact c3d P G s _ _ _ _ _ rfl rfl
  ·trivial
 ·exact ⟨_,_,_,rfl,rfl,rfl⟩
 ·trivial
def Gh.F (G:Gh):Fence:={ Fence.wide with round:=match G.nomk with|true=>none|false=>G.rd }
theorem Gh.fn (G:Gh) (f:FuncId):G.F.fn f:=trivial
theorem Gh.depth (G:Gh):G.F.depth.isSome=true→1≤0:=fun h=>by cases h
theorem e0v {G:Gh} {n:Nat} {P:Program} {f:FuncId} {args:Array Value} {w:World} {R:Ending→World→Prop} (h:Calls P f args w R):CallsIn G.F n P f args w R:=(callsIn_wide (n:=n)).2 h
theorem e6q {G:Gh} {n:Nat} {P:Program} {r:String} {args:Array Value} {w:World} {R:Value→World→Prop} (h:Rows P r args w R):RowsIn G.F n P r args w R :=
 fun c cs _=>let ⟨v,w',h1,h2⟩:=h c cs;⟨v,w',h1,(stepsIn_wide (P:=P)).2 h2⟩
theorem a0z {G:Gh} {P:Program} {o:Oper} {a:Act} {w:World} {K:Act→World→Prop} {Q:Exit→Act→World→Prop} (hnd:∀ c,o.op≠.defer c) (h:o.wp P a w K Q):o.wpIn G.F 0 P a w K Q:=by
 refine ⟨fun _ _=>trivial,?_⟩
 rw [Oper.semAt_eq _ _ _ hnd]
 unfold Oper.wp at h
 revert h
 generalize (execOp a.eval o).run P w=r
 intro h
 unfold Oper.upon at h
 split at h
 ·exact h
 ·exact h
 ·exact h
 ·exact ⟨G.depth,e0v h⟩
 ·exact ⟨G.depth,e6q h⟩
 ·exact h
 ·exact h.elim
def b7z (G:Gh) (Q:Exit→St→Prop):Exit→Act→World→Prop:=fun e a w=>∃ s,Q e s∧Sim G s a w
def a9t (P:Program) (G:Gh) (all os:List Oper) (s:St) (Q:Exit→St→Prop):Prop:=∀ a w,Sim G s a w→wpListIn G.F 0 P all.toArray (b7z G Q) os a w
def SemC (P:Program) (G:Gh) (c:Code) (s:St) (Q:Exit→St→Prop):Prop:=∀ a w,Sim G s a w→c.wpIn G.F 0 P (b7z G Q) a w
def SemStep (P:Program) (G:Gh) (o:Oper) (s:St) (Q:Exit→St→Prop) (rest:St→Prop):Prop :=
 ∀ a w,Sim G s a w→o.wpIn G.F 0 P a w (fun a' w'=>∃ s',rest s'∧Sim G s' a' w') (b7z G Q)
def a3k (P:Program) (G:Gh) (o:Oper) (s:St) (Q:Exit→St→Prop) (rest:St→Prop) (f:V) (as:List V):Prop :=
 ∀ (x:Operand) (l:List Operand) (ts:Array TypeId),o.op=.call ⟨.value x,l.toArray,ts⟩→f=ev s x→as=l.map (ev s)→SemStep P G o s Q rest
def a9d (all:List Oper) (j:Nat):Option Nat:=match all[j]? with
 |some o=>o.dst
 |none=>none
def chk (n:Nat):Option Nat→Prop
 |some d=>d < n
 |none=>True
def fin (P:Program) (G:Gh) (o:Oper) (s:St) (Q:Exit→St→Prop) (rest:St→Prop):Res→Prop
 |.go C k=>chk G.n o.dst∧∃ h:C,rest (a3z s o.dst (k h))
 |.heap C k=>chk G.n o.dst∧∃ h:C,rest (app s o.dst (k h))
 |.call f as=>a3k P G o s Q rest f as
 |.br C=>chk G.n o.dst∧∀ b,C b→rest (a3z s o.dst (.v (.bool b)))
 |.stuck=>SemStep P G o s Q rest
abbrev skV:V:=.v (.tuple ⟨[]⟩)
def a4h (P:Program) (G:Gh) (all:List Oper) (Q:Exit→St→Prop):List Oper→St→Prop
 |[],s=>Q .normal s
 |o::os,s=>match o.guard with
  |none=>fin P G o s Q (a4h P G all Q os) (a3r P G.ow G.lo s o.dst o.op)
  |some (j,w)=>match a9d all j with
   |none=>a9t P G all (o::os) s Q
   |some g=>match s.get g with
    |.v (.bool b)=>(b=w→fin P G { o with guard:=none } (s.set g (.v (.bool w))) Q (a4h P G all Q os) (a3r P G.ow G.lo (s.set g (.v (.bool w))) o.dst o.op)) ∧
      (b=!w→chk G.n o.dst∧a4h P G all Q os (a3z (s.set g (.v (.bool !w))) o.dst skV))
    |.v (.tuple ⟨[]⟩)=>chk G.n o.dst∧a4h P G all Q os (a3z s o.dst skV)
    |_=>a9t P G all (o::os) s Q
theorem e4e {G:Gh} {Q Q':Exit→St→Prop} (h:∀ e s,Q e s→Q' e s) (e:Exit) (a:Act) (w:World) (hq:b7z G Q e a w):b7z G Q' e a w :=
 let ⟨s,h1,h2⟩:=hq;⟨s,h e s h1,h2⟩
theorem SemC.mono {P:Program} {G:Gh} {c:Code} {s:St} {Q Q':Exit→St→Prop} (h:SemC P G c s Q) (hq:∀ e s,Q e s→Q' e s):SemC P G c s Q' :=
 fun a w hs=>wpIn_mono (h a w hs) (e4e hq)
theorem a2s {n:Nat} {dst:Option Nat} (h:chk n dst):∀ d,dst=some d→d < n:=by
 rintro d rfl;exact h
theorem e8d {G:Gh} {s:St} {a:Act} {w:World} {E:Env} (hs:SimE G s a w E) {g:Nat} {b:Bool} (h:s.get g=.v (.bool b)):a.tmps[g]? = some (.bool b):=by
 have hR:=hs.fr g
 have h':s.fr g=.v (.bool b):=h
 rw [h'] at hR
 have hy:=R.v_inv hR
 rw [Array.getD_eq_getD_getElem?] at hy
 cases hg:a.tmps[g]? with
 |none=>rw [hg] at hy;simp [undef] at hy
 |some y=>rw [hg] at hy;simp at hy;rw [hy]
theorem b9y {G:Gh} {s:St} {a:Act} {w:World} {E:Env} (hs:SimE G s a w E) {all:List Oper} {j g:Nat} {b:Bool} (hg:a9d all j=some g) (h:s.get g=.v (.bool b)) :
  yielded all.toArray a.tmps j=some b:=by
 have:=e8d hs h
 unfold a9d at hg
 split at hg
 ·rename_i o ho
  simp [yielded,ho,hg,this]
 ·cases hg
theorem a9l {s:St} {g:Nat} {x:V} (h:s.get g=x):s.set g x=s:=by
 cases s with
 |mk fr hp us =>
  simp only [St.set,St.mk.injEq,and_true]
  funext j
  by_cases e:g=j
  ·subst e;rw [if_pos rfl];exact h.symm
  ·rw [if_neg e]
theorem b6p {P:Program} {ow:Nat→Bool} {lo:Nat} {s:St} {d:Option Nat} (c:Call):a3r P ow lo s d (.defer c)=.stuck:=rfl
theorem a8k {P:Program} {G:Gh} {o:Oper} {s:St} {Q:Exit→St→Prop} {rest:St→Prop} (h:fin P G o s Q rest (a3r P G.ow G.lo s o.dst o.op)):SemStep P G o s Q rest:=by
 by_cases hnd:∃ c,o.op=.defer c
 ·obtain ⟨c,hc⟩:=hnd
  rw [hc,b6p] at h
  exact h
 have hnd:∀ c,o.op≠.defer c:=fun c hc=>hnd ⟨c,hc⟩
 cases hr:a3r P G.ow G.lo s o.dst o.op with
 |stuck=>rw [hr] at h;exact h
 |call f as =>
  rw [hr] at h
  have hok:=a6w P { G with n:=o.dst.getD 0+1 } G.ow s o (by rintro d hd;simp [hd])
  rw [hr] at hok
  obtain ⟨x,l,ts,h1,h2,h3⟩:=hok
  exact h x l ts h1 h2 h3
 |br C =>
  rw [hr] at h
  obtain ⟨hc,h⟩:=h
  have hok:=a6w P G G.ow s o (a2s hc)
  rw [hr] at hok
  intro a w hs
  exact a0z hnd (hok a w hs _ _ fun b hb a' w' hs'=>⟨_,h b hb,hs'⟩)
 |heap C k =>
  rw [hr] at h
  obtain ⟨hc,hC,h⟩:=h
  have hok:=a6w P G G.ow s o (a2s hc)
  rw [hr] at hok
  intro a w hs
  exact a0z hnd (hok hC a w hs _ _ fun a' w' hs'=>⟨_,h,hs'⟩)
 |go C k =>
  rw [hr] at h
  obtain ⟨hc,hC,h⟩:=h
  have hok:=a6w P G G.ow s o (a2s hc)
  rw [hr] at hok
  intro a w hs
  exact a0z hnd (hok hC a w hs _ _ fun a' w' hs'=>⟨_,h,hs'⟩)
theorem f2t {P:Program} {G:Gh} {all:List Oper} {o:Oper} {os:List Oper} {s:St} {Q:Exit→St→Prop} {rest:St→Prop} (hn:o.guard=none)
  (hrest:∀ s',rest s'→a9t P G all os s' Q) (h:fin P G o s Q rest (a3r P G.ow G.lo s o.dst o.op)):a9t P G all (o::os) s Q:=by
 intro a w hs
 refine wpListIn_plain hn fun K hK=>?_
 refine Oper.wpIn_mono ?_ (a8k h a w hs)
 rintro a' w' ⟨s',h1,h2⟩
 exact hK _ _ (hrest s' h1 a' w' h2)
theorem c4f {P:Program} {G:Gh} {all:List Oper} {o:Oper} {os:List Oper} {s:St} {Q:Exit→St→Prop} {j g:Nat} {w b:Bool}
  (hgd:o.guard=some (j,w)) (hg:a9d all j=some g) (hb:s.get g=.v (.bool b))
  (h1:b=w→a9t P G all ({ o with guard:=none }::os) s Q) (h2:b=!w→chk G.n o.dst∧a9t P G all os (a3z s o.dst skV) Q):a9t P G all (o::os) s Q:=by
 intro a wd hs
 obtain ⟨E,hE⟩:=hs
 have hy:=b9y hE hg hb
 have hw:Region.wanted o (yielded all.toArray a.tmps)=(b == w):=by
  simp [Region.wanted,hgd,hy]
 by_cases hbw:b=w
 ·have:=h1 hbw a wd ⟨E,hE⟩
  unfold wpListIn at this ⊢
  rw [hw]
  simp only [hbw,beq_self_eq_true,if_true]
  have h3:Oper.wpIn G.F 0 P { o with guard:=none } a wd (wpListIn G.F 0 P all.toArray (b7z G Q) os) (b7z G Q):=by simpa [Region.wanted] using this
  exact h3
 ·have hn:b=!w:=by cases b<;>cases w<;>simp_all
  obtain ⟨hc,h2⟩:=h2 hn
  unfold wpListIn
  rw [hw]
  simp only [hn,Bool.not_beq_self,Bool.false_eq_true,if_false]
  exact ⟨fun _ _=>trivial,h2 _ _ ⟨E,hE.put (a2s hc) (.r0 _ _ (.v _))⟩⟩
theorem b5v {G:Gh} {s:St} {a:Act} {w:World} {E:Env} (hs:SimE G s a w E) {all:List Oper} {j g:Nat} (hg:a9d all j=some g) (h:s.get g=skV) :
  yielded all.toArray a.tmps j=none:=by
 have hR:=hs.fr g
 have h':s.fr g=skV:=h
 rw [h'] at hR
 have hy:=R.v_inv hR
 unfold a9d at hg
 unfold yielded
 have e:(all.toArray[j]?).bind (·.dst)=some g:=by
  cases ho:all[j]? with
  |none=>simp [ho] at hg
  |some o=>simp [ho] at hg;simp [ho,hg]
 rw [e]
 simp only [Option.bind_some]
 rw [Array.getD_eq_getD_getElem?] at hy
 cases hg':a.tmps[g]? with
 |none=>rfl
 |some y=>rw [hg'] at hy;simp at hy;rw [hy]
theorem c2g {P:Program} {G:Gh} {all:List Oper} {o:Oper} {os:List Oper} {s:St} {Q:Exit→St→Prop} {j g:Nat} {w:Bool}
  (hgd:o.guard=some (j,w)) (hg:a9d all j=some g) (hb:s.get g=skV) (hc:chk G.n o.dst) (h2:a9t P G all os (a3z s o.dst skV) Q):a9t P G all (o::os) s Q:=by
 intro a wd hs
 obtain ⟨E,hE⟩:=hs
 have hy:=b5v hE hg hb
 have hw:Region.wanted o (yielded all.toArray a.tmps)=false:=by
  simp [Region.wanted,hgd,hy]
 unfold wpListIn
 rw [hw]
 exact ⟨fun _ _=>trivial,h2 _ _ ⟨E,hE.put (a2s hc) (.r0 _ _ (.v _))⟩⟩
theorem c9p {P:Program} {G:Gh} {all:List Oper} {Q:Exit→St→Prop}:∀ (os:List Oper) (s:St),a4h P G all Q os s→a9t P G all os s Q:=by
 intro os
 induction os with
 |nil=>intro s h a w hs;exact wpListIn_nil ⟨s,h,hs⟩
 |cons o os ih =>
  intro s h
  unfold a4h at h
  split at h
  ·rename_i hn
   exact f2t hn ih h
  ·rename_i j w hgd
   split at h
   ·exact h
   ·rename_i g hg
    split at h
    ·rename_i b hb
     obtain ⟨h1,h2⟩:=h
     refine c4f hgd hg hb (fun hbw=>?_) (fun hbw=>?_)
     ·subst hbw
      rw [a9l hb] at h1
      exact f2t rfl ih (h1 rfl)
     ·subst hbw
      obtain ⟨hc,h2⟩:=h2 rfl
      refine ⟨hc,?_⟩
      rw [a9l hb] at h2
      exact ih _ h2
    ·rename_i hb
     exact c2g hgd hg hb h.1 (ih _ h.2)
    ·exact h
theorem c3j {P:Program} {G:Gh} {s:St} {o:Oper} {Q:Exit→St→Prop} {rest:St→Prop} {d t t2 el sz bytes:Nat} {xo yo:Operand} {k:IntKind} {n:Int} {z:List Value}
  (ho:o.op=.call ⟨.builtin .append,#[xo,yo],#[t,t2]⟩) (hx:ev s xo=.v (.slice none 0 0)) (hy:ev s yo=.v (.int k n)) (hd:o.dst=some d) (hdn:d < G.n)
  (hu:s.used d=false) (hse:a0t P t=some (el,sz)) (ht2:tk P t2=.int k) (hz:a0p P el=some z) (hzl:z.length=sz) (hby:a0g P el=some bytes)
  (h0:0 < sz) (hn:0 < n) (hlen:n * bytes≤140737488355328) (hlen':n≤140737488355328)
  (hr:rest (app s o.dst (.own d 0 n.toNat sz,[(d,some (.arr el sz (List.replicate n.toNat (z.map .v))))]))):SemStep P G o s Q rest:=by
 intro a w hs
 refine a0z (fun c hc=>by rw [ho] at hc;cases hc) ?_
 refine a2f (x:=.own d 0 n.toNat sz) (l:=[(d,some (.arr el sz (List.replicate n.toNat (z.map .v))))]) (fun d' h=>by rw [hd] at h;cases h;exact hdn) (fun a w E hs=>?_) a w hs _ _ fun a' w' hs'=>⟨_,hr,hs'⟩
 obtain ⟨hU,inf,hinf,hsz⟩:=a2b hse
 obtain ⟨zv,hzv,hzc⟩:∃ zv,inf.zero=some zv∧zv.cells.toList=z:=by
  unfold a0p at hz
  simp only [hinf,Option.bind_some,Option.map_eq_some_iff] at hz
  exact hz
 have hzs:zv.cells.size=sz:=by rw [← hzl,← hzc,Array.length_toList]
 have hb:inf.bytes=bytes:=by unfold a0g at hby;rw [hinf] at hby;simpa using hby
 have hxv:=R.v_inv (a1t hs hx)
 have hyv:=R.v_inv (a1t hs hy)
 obtain ⟨m,rfl⟩:∃ m:Nat,n=m:=⟨n.toNat,by omega⟩
 have hwrap:IntKind.i64.wrap (m:Int)=m:=by rw [IntKind.wrap_i64];omega
 have hm0:0 < m:=by omega
 have hlm:m * bytes≤140737488355328:=by have h:=hlen;rw [← Int.natCast_mul] at h;omega
 have e1:¬ ((m:Int) < 0):=by omega
 have e2:¬ (281474976710656 < (m:Int) * (bytes:Int)):=by
  omega
 have e3:m≠0:=by omega
 have e4:¬ (9223372036854775807 < (m:Int)):=by omega
 have e5:¬ (281474976710656 < Builtin.nextslicecap m 0 * bytes):=by rw [nextslicecap_zero hm0];omega
 have e6:m * sz≠0:=by have:=Nat.mul_pos hm0 h0;omega
 have hcap:=grownCap_ge w m 0 el
 have hrun:(execOp a.eval o).run P w=.ok (.value (.slice (some ⟨w.heap.size,0,none⟩) m (grownCap w m 0 el)))
   (w.drew.alloc (.cells (Builtin.zeroCells zv.cells m++Builtin.zeroCells zv.cells (grownCap w m 0 el - m)) el)):=by
  simp [execOp,ho,resolve,invoke,builtin,Builtin.append_,a0o P w hU,a0o P w (c6n ht2),sizeOf,typeInfo,hinf,hxv,hyv,asInt,asIntOf,hwrap,e1,e2,e3,e4,e5,e6,hb,hsz,zeroValue,hzv,Question.forced,run_firstCells_none,newRow,grownCap]
 have hzn:∀ k,(Builtin.zeroCells zv.cells k).size=k * sz:=fun k=>by simp [Builtin.zeroCells,hzs]
 have hdrew:SimE G s a w.drew E:=hs.below ⟨rfl,rfl,rfl,Nat.le_refl _,fun _ _=>rfl⟩
 obtain ⟨E',h1,h2,h3,h4⟩:=hdrew.new (id:=d) hu (o:=.cells (Builtin.zeroCells zv.cells m++Builtin.zeroCells zv.cells (grownCap w m 0 el - m)) el) (ob:=.arr el sz (List.replicate m (z.map .v))) (K:=m) (C:=grownCap w m 0 el) (fun O' E' hO hE=>by
  refine ⟨fun x hx=>by rw [List.eq_of_mem_replicate hx];simpa using hzl,h0,by simp;omega,by simp,_,a4l _ _,?_,hcap,?_,fun i x j u y h1 h2 h3=>?_⟩
  ·rw [Array.size_append,hzn,hzn,← Nat.add_mul]
   congr 1
   show m+(grownCap w m 0 el - m)=grownCap w m 0 el
   omega
  ·exact grownCap_le_maxLen w m 0 el (by simp only [maxLen];omega)
  ·have hi:i < m:=by have:=(List.getElem?_eq_some_iff.1 h1).1;simpa using this
   have hxe:x=z.map .v:=by
    rw [List.getElem?_replicate,if_pos hi] at h1
    cases h1;rfl
   subst hxe
   simp only [List.getElem?_map,Option.map_eq_some_iff] at h2
   obtain ⟨v,hv,rfl⟩:=h2
   have hj:j < sz:=by rw [← hzl];exact (List.getElem?_eq_some_iff.1 hv).1
   have hlt:i * sz+j < m * sz:=by
    have:(i+1) * sz≤m * sz:=Nat.mul_le_mul_right _ (by omega)
    rw [Nat.succ_mul] at this
    omega
   rw [Array.getElem?_append_left (by rw [hzn];exact hlt)] at h3
   have hmod:(i * sz+j) % sz=j:=by rw [Nat.mul_comm,Nat.mul_add_mod,Nat.mod_eq_of_lt hj]
   have hv':zv.cells[j]? = some v:=by rw [← hzc] at hv;simpa using hv
   simp only [Builtin.zeroCells,Array.getElem?_map,Array.getElem?_range,hzs] at h3
   rw [if_pos hlt] at h3
   simp only [Option.map_some,Option.some.injEq] at h3
   rw [hmod] at h3
   have:zv.cells[j]! = v:=by simp [Array.getElem!_eq_getD,hv']
   rw [this] at h3
   subst h3
   exact .v _)
 refine ⟨_,_,E',hrun,h1,?_⟩
 exact .own d 0 m sz _ _ _ _ h2 ⟨by simp,hcap,0,by simp,rfl⟩
theorem d5m {P:Program} {G:Gh} {s:St} {o:Oper} {Q:Exit→St→Prop} {rest:St→Prop} {d id t el sz len:Nat} {xo yo:Operand} {k:IntKind} {n:Int} {l:List (List V)}
  (ho:o.op=.slice t xo none (some yo) none) (hx:ev s xo=.own id 0 len sz) (hy:ev s yo=.v (.int k n)) (hob:s.hget id=some (.arr el sz l)) (hd:o.dst=some d) (hdn:d < G.n) (hu:s.used d=false)
  (htk:tk P t=.slc) (hse:a0t P t=some (el,sz)) (h0:0≤n) (hn:n≤len) (hle:len≤l.length)
  (hr:rest (app s o.dst (.own d 0 n.toNat sz,[(id,none),(d,some (.arr el sz (l.take n.toNat)))]))):SemStep P G o s Q rest:=by
 intro a w hs
 refine a0z (fun c hc=>by rw [ho] at hc;cases hc) ?_
 refine a2f (x:=.own d 0 n.toNat sz) (l:=[(id,none),(d,some (.arr el sz (l.take n.toNat)))]) (fun d' h=>by rw [hd] at h;cases h;exact hdn) (fun a w E hs=>?_) a w hs _ _ fun a' w' hs'=>⟨_,hr,hs'⟩
 obtain ⟨hU,inf,hinf,hsz⟩:=a2b hse
 obtain ⟨b,K,C,hE,hle',hKC,hv⟩:=R.own_inv (a1t hs hx)
 obtain ⟨b1,K1,C1,hE1,hHB⟩:=hs.hp id _ hob
 rw [hE] at hE1
 cases hE1
 have hE0:E d=none:=by
  cases he:E d with
  |none=>rfl
  |some r=>have:=hs.us d (by rw [he];simp);rw [show s.us d=false from hu] at this;cases this
 have hne:id≠d:=by rintro rfl;rw [hE0] at hE;cases hE
 let E':Env:=fun i=>if i=d then some (b,n.toNat,C) else E i
 have hE'd:E' d=some (b,n.toNat,C):=if_pos rfl
 have hEE:∀ i r,E i=some r→E' i=some r:=fun i r hi=>by
  show (if i=d then _ else E i)=_
  rw [if_neg (by rintro rfl;rw [hE0] at hi;cases hi)];exact hi
 obtain ⟨hz,hs0,h48,hlK,hbb⟩:=hHB
 have hnK:n.toNat≤l.length:=by omega
 have hHB':∀ O',(∀ b,¬ OT G s E b→b < w.heap.size→¬ O' b)→HB w O' E' b n.toNat C (.arr el sz (l.take n.toNat)):=fun O' hO'=>by
  refine ⟨fun x hx=>hz x (List.mem_of_mem_take hx),hs0,by simp;omega,by simp;omega,?_⟩
  cases b with
  |none=>obtain ⟨q1,q2⟩:=hbb;exact ⟨by omega,q2⟩
  |some b =>
   obtain ⟨ys,q1,q2,q3,q4,q5⟩:=hbb
   exact ⟨ys,q1,q2,by omega,q4,fun i x j u y h1 h2 h3=>(q5 i x j u y (a0w _ _ _ _ h1).1 h2 h3).mono (Nat.le_refl _) hO' fun _ _ _=>rfl⟩
 have hhp:∀ i,(a1h s [(id,none),(d,some (.arr el sz (l.take n.toNat)))]).hp i=if d=i then some (.arr el sz (l.take n.toNat)) else if id=i then none else s.hp i:=fun i=>rfl
 have own:∀ i o',(i=d∨i=id)→(a1h s [(id,none),(d,some (.arr el sz (l.take n.toNat)))]).hp i=some o'→i=d∧o'=.arr el sz (l.take n.toNat):=fun i o' hi ho'=>by
  rw [hhp] at ho'
  split at ho'
  ·rename_i e;cases ho';exact ⟨e.symm,rfl⟩
  ·rename_i e
   rcases hi with rfl|rfl
   ·exact (e rfl).elim
   ·rw [if_pos rfl] at ho';cases ho'
 obtain ⟨h1,h2⟩:=hs.upd (s':=a1h s [(id,none),(d,some (.arr el sz (l.take n.toNat)))]) (w':=w) (E':=E') (fun i=>i=d∨i=id) rfl (Nat.le_refl _) rfl rfl rfl (fun _ _ _=>rfl)
  (fun i hi=>⟨by rw [hhp,if_neg fun e=>hi (.inl e.symm),if_neg fun e=>hi (.inr e.symm)],if_neg fun e=>hi (.inl e)⟩) hEE (fun i hi=>by simp [a1h,St.hset,hi]) (fun i hi _=>by rcases hi with rfl|rfl<;>simp [a1h,St.hset])
  (fun i o' hi ho'=>by obtain ⟨rfl,rfl⟩:=own i o' hi ho';exact ⟨_,_,_,hE'd,fun hO=>hHB' _ hO⟩)
  (fun i o' b' K' C' hi ho' he=>by
   obtain ⟨rfl,rfl⟩:=own i o' hi ho'
   rw [hE'd] at he;cases he
   exact .inr ⟨id,_,K,_,.inr rfl,hob,hE⟩)
  (fun i i' o1 o2 b x x' hi hi' ho1 ho2 _ _=>by rw [(own i o1 hi ho1).1,(own i' o2 hi' ho2).1])
 have hyv:=R.v_inv (a1t hs hy)
 cases b with
 |none =>
  obtain ⟨_,rfl,hv⟩:=hv
  have hn0:n=0:=by omega
  subst hn0
  have hb:=a4a (P:=P) (w:=w) true 0 0 none (some (a.eval yo)) 0 0 (.inl ⟨rfl,rfl⟩) (.inr ⟨k,by rw [hyv]⟩) (by omega) (by omega) (by omega)
  refine ⟨.slice none 0 0,w,E',?_,h1,.own d 0 0 sz none 0 C _ hE'd ⟨by simp,by omega,rfl,rfl,rfl⟩⟩
  simp [execOp,ho,Instr.sliceAt,Instr.slice,a0o P w hU,a1n P w hinf,hv,hb]
 |some b =>
  obtain ⟨o',ho',hv⟩:=hv
  have e0:o'=0:=by rw [ho' (.inr rfl)];simp
  subst e0
  have hb:=a4a (P:=P) (w:=w) true len (C - 0) none (some (a.eval yo)) 0 n (.inl ⟨rfl,rfl⟩) (.inr ⟨k,by rw [hyv]⟩) (by omega) (by omega) (by omega)
  refine ⟨.slice (some ⟨b,0,none⟩) n.toNat C,w,E',?_,h1,.own d 0 n.toNat sz (some b) n.toNat C _ hE'd ⟨by simp,by omega,0,by simp,by simp⟩⟩
  simp at hb
  simp [execOp,ho,Instr.sliceAt,Instr.slice,a0o P w hU,a1n P w hinf,hsz,hv,hb,a3f]
section
variable (P:Program) (G:Gh) (all:List Oper) (Q:Exit→St→Prop)
theorem g3g (s:St):a4h P G all Q [] s=Q .normal s:=rfl
theorem f9e (d:Option Tmp) (op:Op) (t:TypeId) (p:String) (e:Array Edge) (os:List Oper) (s:St) :
  a4h P G all Q (⟨d,op,t,p,e,none⟩::os) s=fin P G ⟨d,op,t,p,e,none⟩ s Q (a4h P G all Q os) (a3r P G.ow G.lo s d op):=rfl
theorem g2u (d:Option Tmp) (op:Op) (t:TypeId) (p:String) (e:Array Edge) (gd:Option (Nat×Bool)) (s:St) (rest:St→Prop) (C:Prop) (k:C→V) :
  fin P G ⟨d,op,t,p,e,gd⟩ s Q rest (.go C k)=(chk G.n d∧∃ h:C,rest (a3z s d (k h))):=rfl
theorem e7c (d:Option Tmp) (op:Op) (t:TypeId) (p:String) (e:Array Edge) (gd:Option (Nat×Bool)) (s:St) (rest:St→Prop) (C:Prop) (k:C→V×List (Nat×Option OB)) :
  fin P G ⟨d,op,t,p,e,gd⟩ s Q rest (.heap C k)=(chk G.n d∧∃ h:C,rest (app s d (k h))):=rfl
theorem f1d (o:Oper) (s:St) (rest:St→Prop) (f:V) (as:List V):fin P G o s Q rest (.call f as)=a3k P G o s Q rest f as:=rfl
theorem g1j (d:Option Tmp) (op:Op) (t:TypeId) (p:String) (e:Array Edge) (gd:Option (Nat×Bool)) (s:St) (rest:St→Prop) (C:Bool→Prop) :
  fin P G ⟨d,op,t,p,e,gd⟩ s Q rest (.br C)=(chk G.n d∧∀ b,C b→rest (a3z s d (.v (.bool b)))):=rfl
theorem e0t (o:Oper) (s:St) (rest:St→Prop):fin P G o s Q rest .stuck=SemStep P G o s Q rest:=rfl
end
end Pm
open Go
namespace Pm
def d5d (k:St→(Exit→St→Prop)→Prop) (Q:Exit→St→Prop):Exit→St→Prop
 |.normal,s=>k s Q
 |e,s=>Q e s
def c7b (id:Nat) (Q:Exit→St→Prop):Exit→St→Prop
 |.exit i,s=>if i=id then Q .normal s else Q (.exit i) s
 |e,s=>Q e s
def f9j (Q:Exit→St→Prop):Exit→St→Prop
 |.goto _,_=>False
 |e,s=>Q e s
section
variable {F:Fence} {n:Nat} {P:Program} {b:Frame} {a:Act} {k:List Item} {cs:List Frame} {w:World} {Q:Exit→Act→World→Prop}
theorem a5m {c:Code}:step P (lone (b.atR a (.code (.scope c)::k)) cs w)=.next (lone (b.atR a (.code c::.inScope c::k)) cs w) :=
 step_lone_go (by simp [stepG,stepG.exec,Frame.atR])
theorem c1n {c:Code}:step P (lone (b.atR a (.inScope c::k)) cs w)=.next (lone (b.atR a k) cs w) :=
 step_lone_go (by simp [stepG,stepG.exec,Frame.atR])
def g8d (Q:Exit→Act→World→Prop):Exit→Act→World→Prop
 |.goto _,_,_=>False
 |e,a,w=>Q e a w
theorem d5j {c:Code} (h:c.wpIn F n P (g8d Q) a w):(Code.scope c).wpIn F n P Q a w:=by
 intro b k cs hro hb hr
 have h0:(lone (b.atR a (.code (.scope c)::k)) cs w).fenced P F:=fenced_calm hb hr rfl
 obtain ⟨e,a₁,w₁,hq,harr⟩:=h b (.inScope c::k) cs hro hb hr
 cases e with
 |normal=>exact ⟨.normal,a₁,w₁,hq,.head h0 a5m (StepsIn.trans harr (.one (fenced_calm hb hr rfl) c1n))⟩
 |exit id =>
  have hx:exitTo id (.inScope c::k)=exitTo id k:=by simp [exitTo]
  exact ⟨_,a₁,w₁,hq,fun k' hk=>.head h0 a5m (harr.1 k' (by rw [hx];exact hk)),
   fun hr' hk=>let ⟨k₁,h1,h2⟩:=harr.2 hr' (by rw [hx];exact hk);⟨k₁,h1,.head h0 a5m h2⟩⟩
 |goto l=>exact hq.elim
 |ret=>exact ⟨_,a₁,w₁,hq,.of_steps (.one h0 a5m) harr⟩
 |panic ch=>exact ⟨_,a₁,w₁,hq,.of_steps (.one h0 a5m) harr⟩
 |outgrown=>exact ⟨_,a₁,w₁,hq,.of_steps (.one h0 a5m) harr⟩
end
def vc (P:Program) (G:Gh):Code→St→(Exit→St→Prop)→Prop
 |.skip,s,Q=>Q .normal s
 |.region id ops draw,s,Q=>match draw with
  |false=>a4h P G ops.toList Q ops.toList s
  |true=>SemC P G (.region id ops true) s Q
 |.seq a b,s,Q=>vc P G a s (d5d (vc P G b) Q)
 |.cond c x y,s,Q=>match ev s c with
  |.v (.bool b)=>(b=true→vc P G x s Q)∧(b=false→vc P G y s Q)
  |_=>SemC P G (.cond c x y) s Q
 |.block id c,s,Q=>vc P G c s (c7b id Q)
 |.exit id,s,Q=>Q (.exit id) s
 |.ret,s,Q=>Q .ret s
 |.label _,s,Q=>Q .normal s
 |.scope c,s,Q=>vc P G c s (f9j Q)
 |c,s,Q=>SemC P G c s Q
theorem d9t {P:Program} {G:Gh} {b:Code} {Q:Exit→St→Prop} (hb:∀ s,vc P G b s Q→SemC P G b s Q) (e:Exit) (a:Act) (w:World)
  (h:b7z G (d5d (vc P G b) Q) e a w):Exit.then (b.wpIn G.F 0 P (b7z G Q)) (b7z G Q) e a w:=by
 obtain ⟨s,hq,hs⟩:=h
 cases e with
 |normal=>exact hb s hq a w hs
 |_=>exact ⟨s,hq,hs⟩
theorem e4b {G:Gh} {id:Nat} {Q:Exit→St→Prop} (e:Exit) (a:Act) (w:World) (h:b7z G (c7b id Q) e a w):Exit.inBlock id (b7z G Q) e a w:=by
 obtain ⟨s,hq,hs⟩:=h
 cases e with
 |exit i =>
  simp only [c7b] at hq
  simp only [Exit.inBlock]
  split at hq<;>rename_i h
  ·rw [if_pos h];exact ⟨s,hq,hs⟩
  ·rw [if_neg h];exact ⟨s,hq,hs⟩
 |_=>exact ⟨s,hq,hs⟩
theorem e0s {G:Gh} {Q:Exit→St→Prop} (e:Exit) (a:Act) (w:World) (h:b7z G (f9j Q) e a w):g8d (b7z G Q) e a w:=by
 obtain ⟨s,hq,hs⟩:=h
 cases e with
 |goto=>exact hq.elim
 |_=>exact ⟨s,hq,hs⟩
theorem a0d {P:Program} {G:Gh}:∀ (c:Code) (s:St) (Q:Exit→St→Prop),vc P G c s Q→SemC P G c s Q:=by
 intro c
 induction c with
 |skip=>intro s Q h a w hs;exact wpIn_skip ⟨s,h,hs⟩
 |region id ops draw =>
  intro s Q h
  cases draw with
  |false =>
   intro a w hs
   have:=c9p _ _ h a w hs
   exact wpIn_region_list (by simpa using this)
  |true=>exact h
 |seq x y ihx ihy =>
  intro s Q h a w hs
  exact wpIn_seq (wpIn_mono (ihx s _ h a w hs) (d9t (fun s=>ihy s Q)))
 |cond c x y ihx ihy =>
  intro s Q h
  unfold vc at h
  split at h
  ·rename_i b hb
   rintro a w ⟨E,hE⟩
   refine wpIn_cond_split (t:=b) (R.v_inv (a1t hE hb)) (fun ht=>ihx s Q (h.1 ht) a w ⟨E,hE⟩) (fun hf=>ihy s Q (h.2 hf) a w ⟨E,hE⟩)
  ·exact h
 |block id c ih =>
  intro s Q h a w hs
  exact wpIn_block (wpIn_mono (ih s _ h a w hs) e4b)
 |exit id=>intro s Q h a w hs;exact wpIn_exit ⟨s,h,hs⟩
 |ret=>intro s Q h a w hs;exact wpIn_ret ⟨s,h,hs⟩
 |label l=>intro s Q h a w hs;exact wpIn_label ⟨s,h,hs⟩
 |scope c ih=>intro s Q h a w hs;exact d5j (wpIn_mono (ih s _ h a w hs) e0s)
 |_=>intro s Q h;exact h
def Ent (G:Gh) (s s':St):Prop:=∀ a w,Sim G s a w→Sim G s' a w
theorem b7t {F:Fence} {m:Nat} {P:Program} {Q:Exit→Act→World→Prop} {a:Act} {w:World} {c:Code} (I:Nat→Act→World→Prop) (n₀:Nat) (h₀:I n₀ a w)
  (round:∀ n a w,I n a w→c.wpIn F m P (Exit.then (fun a' w'=>∃ n',n' < n∧I n' a' w') Q) a w):(Code.loop c).wpIn F m P Q a w:=by
 refine wpIn_loop (fun a w=>∃ n,I n a w) (fun a w=>leastOf (fun n=>I n a w)) ⟨n₀,h₀⟩ ?_
 intro a w hI
 refine wpIn_mono (round _ a w (leastOf_spec hI).1) ?_
 intro e a' w' hq
 cases e with
 |normal =>
  obtain ⟨n',hlt,hI'⟩:=hq
  exact show (∃ n,I n a' w')∧leastOf (fun n=>I n a' w') < leastOf (fun n=>I n a w) from ⟨⟨n',hI'⟩,Nat.lt_of_le_of_lt ((leastOf_spec ⟨n',hI'⟩).2 n' hI') hlt⟩
 |_=>exact hq
theorem a0k {P:Program} {G:Gh} {c:Code} {s:St} {Q:Exit→St→Prop} {α:Type} (F:α→St) (I:α→Prop) (μ:α→Nat) (x0:α) (h0:I x0) (he:Ent G s (F x0))
  (body:∀ x,I x→SemC P G c (F x) (fun e s'=>match e with|.normal=>∃ y,I y∧μ y < μ x∧Ent G s' (F y)|e=>Q e s')):SemC P G (.loop c) s Q:=by
 intro a w hs
 refine b7t (fun n a w=>∃ x,I x∧μ x=n∧Sim G (F x) a w) (μ x0) ⟨x0,h0,rfl,he _ _ hs⟩ ?_
 rintro n a w ⟨x,hI,rfl,hs⟩
 refine wpIn_mono (body x hI a w hs) ?_
 rintro e a' w' ⟨s',hq,hs'⟩
 cases e with
 |normal =>
  obtain ⟨y,hy,hlt,hent⟩:=hq
  exact ⟨μ y,hlt,y,hy,rfl,hent _ _ hs'⟩
 |_=>exact ⟨s',hq,hs'⟩
def d2b (G:Gh) (i:Nat) {α:Type} (F:α→St) (I:α→Prop) (Q:Exit→St→Prop):Exit→St→Prop
 |.exit j,s=>if j=i then ∃ x,I x∧Ent G s (F x) else Q (.exit j) s
 |.normal,s=>∃ x,I x∧Ent G s (F x)
 |e,s=>Q e s
theorem a3e {P:Program} {G:Gh} {c b:Code} {s:St} {Q:Exit→St→Prop} {i:Nat} {α:Type} (F:α→St) (I:α→Prop) (h1:SemC P G c s (d2b G i F I Q)) (h2:∀ x,I x→vc P G b (F x) Q) :
  SemC P G c s (c7b i (d5d (vc P G b) Q)):=by
 intro a w hs
 refine wpIn_mono (h1 a w hs) ?_
 rintro e a' w' ⟨s',hq,hs'⟩
 have fin:(∃ x,I x∧Ent G s' (F x))→b7z G (d5d (vc P G b) Q) .normal a' w':=fun ⟨x,hI,he⟩=>⟨F x,h2 x hI,he _ _ hs'⟩
 cases e with
 |normal =>
  obtain ⟨s2,h3,h4⟩:=fin hq
  exact ⟨s2,h3,h4⟩
 |exit j =>
  simp only [d2b] at hq
  split at hq
  ·rename_i hj
   obtain ⟨s2,h3,h4⟩:=fin hq
   exact ⟨s2,by simp only [c7b];rw [if_pos hj];exact h3,h4⟩
  ·rename_i hj
   exact ⟨s',by simp only [c7b];rw [if_neg hj];exact hq,hs'⟩
 |ret=>exact ⟨s',hq,hs'⟩
 |goto=>exact ⟨s',hq,hs'⟩
 |panic=>exact ⟨s',hq,hs'⟩
 |outgrown=>exact ⟨s',hq,hs'⟩
theorem R.weak {w:World} {O O':Nat→Prop} {E E':Env} {x:V} {y:Value} (h:R w O E x y) (hO:∀ b,¬ O b→¬ O' b) (hE:∀ id r,E id=some r→E' id=some r):R w O' E' x y :=
 h.mono (Nat.le_refl _) (fun b hb _=>hO b hb) (fun _ _ _=>rfl) hE
abbrev Ren:=List (Nat×Option Nat)
def lkR:Ren→Nat→Option (Option Nat)
 |[],_=>none
 |(i,x)::r,j=>if i=j then some x else lkR r j
def Sub (x x':V):Prop:=∀ w O y,R0 w O x y→R0 w O x' y
def okL (f:V→V→Prop):List V→List V→Prop
 |[],[]=>True
 |u::us,x::xs=>f u x∧okL f us xs
 |_,_=>False
def okN (ρ:Ren):Nat→V→V→Prop
 |0,_,_=>False
 |n+1,u,x=>match u with
  |.any=>True
  |.v a=>x=.v a
  |.lst lo sz l=>x=.lst lo sz l∨(pure0 x=true∧Sub x (.lst lo sz l))
  |.fp cs=>x=.fp cs∨(pure0 x=true∧Sub x (.fp cs))
  |.ptr id off=>match lkR ρ id with
   |some (some j)=>x=.ptr j off
   |_=>False
  |.eptr id i k sz=>match lkR ρ id with
   |some (some j)=>x=.eptr j i k sz
   |_=>False
  |.mp id=>match lkR ρ id with
   |some (some j)=>x=.mp j
   |_=>False
  |.own id off len sz=>match lkR ρ id with
   |some (some j)=>x=.own j off len sz
   |some none=>x=.v (.slice none 0 0)∧off=0∧len=0
   |none=>False
  |.agg us=>match x with
   |.agg xs=>okL (okN ρ n) us xs
   |_=>False
  |.tup us=>match x with
   |.tup xs=>okL (okN ρ n) us xs
   |_=>False
  |.fn f us=>(x=.fn f us∧b3o us=true)∨match x with
   |.fn f' xs=>f=f'∧okL (okN ρ n) us xs
   |_=>False
def g5a (ρ:Ren):List (List V)→List (List V)→Prop
 |[],[]=>True
 |x::r,x'::r'=>okL (okN ρ 4) x x'∧g5a ρ r r'
 |_,_=>False
theorem c6s {ρ:Ren}:∀ {l l':List (List V)},g5a ρ l l'→l.length=l'.length∧∀ (i:Nat) x,l[i]? = some x→∃ x',l'[i]? = some x'∧okL (okN ρ 4) x x'
 |[],[],_=>⟨rfl,fun i x h=>by simp at h⟩
 |x::r,x'::r',h=>by
  obtain ⟨h1,h2⟩:=c6s h.2
  refine ⟨by simp [h1],fun i y hy=>?_⟩
  cases i with
  |zero=>simp at hy;subst hy;exact ⟨x',rfl,h.1⟩
  |succ i=>simp at hy;obtain ⟨y',q1,q2⟩:=h2 i y hy;exact ⟨y',by simpa using q1,q2⟩
 |[],_::_,h=>h.elim
 |_::_,[],h=>h.elim
def a1l (ρ:Ren):OB→Option OB→Prop
 |.arx t sz l,some (.arx t' sz' l')=>t=t'∧sz=sz'∧g5a ρ l l'
 |.arx t sz l,some (.arr t' sz' l')=>t=t'∧sz=sz'∧l=l'
 |.box us,some (.box xs)=>okL (okN ρ 4) us xs
 |.arr t sz l,some (.arr t' sz' l')=>t=t'∧sz=sz'∧l=l'
 |.map kk m,some (.map kk' m')=>kk=kk'∧m.map (·.1)=m'.map (·.1)∧okL (okN ρ 4) (m.map (·.2)) (m'.map (·.2))
 |.obj o,some (.obj o')=>o=o'
 |_,_=>False
def f6a (ρ:Ren) (s:St):List (Nat×V)→Prop
 |[]=>True
 |(i,x)::r=>okN ρ 4 x (s.get i)∧f6a ρ s r
def a0i:OB→Prop
 |.arr _ sz l=>0 < sz∧l=[]
 |.arx _ sz l=>0 < sz∧l=[]
 |_=>False
def a0r (ρ:Ren) (s:St) (ob:OB):Option (Option Nat)→Prop
 |some (some j)=>a1l ρ ob (s.hget j)
 |some none=>a0i ob
 |none=>False
def a1d (ρ:Ren) (s:St):List (Nat×OB)→Prop
 |[]=>True
 |(id,ob)::r=>a0r ρ s ob (lkR ρ id)∧a1d ρ s r
def apart (j:Nat):Ren→Prop
 |[]=>True
 |(_,some k)::r=>j≠k∧apart j r
 |(_,none)::r=>apart j r
def a2m:Ren→Prop
 |[]=>True
 |(_,some j)::r=>apart j r∧a2m r
 |(_,none)::r=>a2m r
def a0n (hl:List (Nat×OB)):Ren→Prop
 |[]=>True
 |(i,_)::r=>usH hl i=true∧a0n hl r
def a6t (ρ:Ren) (E:Env):Env:=fun id=>match lkR ρ id with
 |some (some j)=>E j
 |some none=>some (none,0,0)
 |none=>none
theorem b2o:∀ {l:List V},b3o l=true→b0t l=true:=by
 intro l
 induction l with
 |nil=>intro _;rfl
 |cons x r ih =>
  intro h
  simp only [b3o,Bool.and_eq_true] at h
  simp only [b0t,ih h.2,Bool.and_true]
  cases x<;>first|rfl|exact h.1|cases h.1
theorem b0m {f:V→V→Prop}:∀ {us xs:List V},okL f us xs→us.length=xs.length∧∀ (j:Nat) (u:V),us[j]? = some u→∃ x,xs[j]? = some x∧f u x:=by
 intro us
 induction us with
 |nil =>
  intro xs h
  cases xs with
  |nil=>exact ⟨rfl,by simp⟩
  |cons=>exact h.elim
 |cons u us ih =>
  intro xs h
  cases xs with
  |nil=>exact h.elim
  |cons x xs =>
   obtain ⟨h1,h2⟩:=h
   obtain ⟨h3,h4⟩:=ih h2
   refine ⟨by simp [h3],fun j u' hj=>?_⟩
   cases j with
   |zero=>simp at hj;subst hj;exact ⟨x,rfl,h1⟩
   |succ j=>simp at hj;simpa using h4 j u' hj
theorem e2h {w:World} {O:Nat→Prop} {E E':Env} {x u:V} {y:Value} (hp:pure0 x=true) (hs:Sub x u) (h:R w O E x y):R w O E' u y:=.r0 _ _ (hs _ _ _ (R.pure0 hp h))
theorem ren {w:World} {O:Nat→Prop} {E:Env} {ρ:Ren}:∀ (n:Nat) {u x:V} {y:Value},okN ρ n u x→R w O E x y→R w O (a6t ρ E) u y:=by
 intro n
 induction n with
 |zero=>intro u x y h;exact h.elim
 |succ n ih =>
  intro u x y hu h
  have arr:∀ {us xs:List V} {ys:Array Value},okL (okN ρ n) us xs→ys.size=xs.length→(∀ (j:Nat) (u:V) (y:Value),xs[j]? = some u→ys[j]? = some y→R w O E u y) →
    ys.size=us.length∧∀ (j:Nat) (u:V) (y:Value),us[j]? = some u→ys[j]? = some y→R w O (a6t ρ E) u y:=fun hl hn hr=>by
   obtain ⟨h1,h2⟩:=b0m hl
   refine ⟨by omega,fun j u y h3 h4=>?_⟩
   obtain ⟨x,h5,h6⟩:=h2 j u h3
   exact ih h6 (hr j x y h5 h4)
  unfold okN at hu
  cases u with
  |any=>exact .r0 _ _ (.any _)
  |v a=>subst hu;rw [R.v_inv h];exact .r0 _ _ (.v a)
  |lst lo sz l =>
   rcases hu with rfl|⟨hp,hs⟩
   ·exact e2h rfl (fun _ _ _ h=>h) h
   ·exact e2h hp hs h
  |fp cs =>
   rcases hu with rfl|⟨hp,hs⟩
   ·exact e2h rfl (fun _ _ _ h=>h) h
   ·exact e2h hp hs h
  |ptr id off =>
   simp only at hu
   split at hu
   ·rename_i j hj
    subst hu
    obtain ⟨b,K,C,hE,rfl⟩:=R.ptr_inv h
    exact .ptr id off b K C (by simp [a6t,hj,hE])
   ·exact hu.elim
  |eptr id i k sz =>
   simp only at hu
   split at hu
   ·rename_i j hj
    subst hu
    obtain ⟨b,K,C,hE,hi,rfl⟩:=R.eptr_inv h
    exact .eptr id i k sz b K C (by simp [a6t,hj,hE]) hi
   ·exact hu.elim
  |mp id =>
   simp only at hu
   split at hu
   ·rename_i j hj
    subst hu
    obtain ⟨b,K,C,hE,rfl⟩:=R.mp_inv h
    exact .mp id b K C (by simp [a6t,hj,hE])
   ·exact hu.elim
  |own id off len sz =>
   simp only at hu
   split at hu
   ·rename_i j hj
    subst hu
    obtain ⟨b,K,C,hE,hv⟩:=R.own_inv h
    exact .own id off len sz b K C y (by simp [a6t,hj,hE]) hv
   ·rename_i hj
    obtain ⟨rfl,rfl,rfl⟩:=hu
    rw [R.v_inv h]
    exact .own id 0 0 sz none 0 0 _ (by simp [a6t,hj]) ⟨by omega,by omega,rfl,rfl,rfl⟩
   ·exact hu.elim
  |agg us =>
   simp only at hu
   split at hu
   ·obtain ⟨ys,rfl,hsz,hr⟩:=R.agg_inv h
    obtain ⟨h1,h2⟩:=arr hu hsz hr
    exact .agg _ _ h1 h2
   ·exact hu.elim
  |tup us =>
   simp only at hu
   split at hu
   ·obtain ⟨ys,rfl,hsz,hr⟩:=R.tup_inv h
    obtain ⟨h1,h2⟩:=arr hu hsz hr
    exact .tup _ _ h1 h2
   ·exact hu.elim
  |fn f us =>
   simp only at hu
   rcases hu with ⟨rfl,h0⟩|hu
   ·obtain ⟨ys,rfl,hsz,hr⟩:=R.fn_inv h
    exact .fn _ _ _ hsz fun j u y h1 h2=>e2h (b3a h0 j u h1) (fun _ _ _ h=>h) (hr j u y h1 h2)
   split at hu
   ·obtain ⟨rfl,hu⟩:=hu
    obtain ⟨ys,rfl,hsz,hr⟩:=R.fn_inv h
    obtain ⟨h1,h2⟩:=arr hu hsz hr
    exact .fn _ _ _ h1 h2
   ·exact hu.elim
theorem g3a {w:World} {O:Nat→Prop} {E:Env} {ρ:Ren} {ob ob':OB} {b:Option Nat} {K C:Nat} (hu:a1l ρ ob (some ob')) (h:HB w O E b K C ob'):HB w O (a6t ρ E) b K C ob:=by
 cases ob with
 |arr t sz l =>
  cases ob' with
  |arr t' sz' l' =>
   obtain ⟨rfl,rfl,rfl⟩:=hu
   exact h
  |_=>exact hu.elim
 |mpe kk m j bo=>cases ob'<;>exact hu.elim
 |obj o =>
  cases ob' with
  |obj o'=>cases hu;exact h
  |_=>exact hu.elim
 |arx t sz l =>
  cases ob' with
  |arx t' sz' l' =>
   obtain ⟨rfl,rfl,hl⟩:=hu
   obtain ⟨hlen,hspec⟩:=c6s hl
   obtain ⟨g1,g2,g3,g4,g5⟩:=h
   refine ⟨fun x hx=>?_,g2,by omega,by omega,?_⟩
   ·obtain ⟨i,hi⟩:=List.getElem?_of_mem hx
    obtain ⟨x',h1,h2⟩:=hspec i x hi
    rw [(b0m h2).1]
    exact g1 _ (List.mem_of_getElem? h1)
   ·cases b with
    |none=>exact g5
    |some b =>
     obtain ⟨ys,q1,q2,q3,q4,q5⟩:=g5
     refine ⟨ys,q1,q2,q3,q4,fun i x j u y h1 h2 h3=>?_⟩
     obtain ⟨x',h4,h5⟩:=hspec i x h1
     obtain ⟨u',h6,h7⟩:=(b0m h5).2 j u h2
     exact ren 4 h7 (q5 i x' j u' y h4 h6 h3)
  |arr t' sz' l' =>
   obtain ⟨rfl,rfl,rfl⟩:=hu
   obtain ⟨g1,g2,g3,g4,g5⟩:=h
   refine ⟨g1,g2,g3,g4,?_⟩
   cases b with
   |none=>exact g5
   |some b =>
    obtain ⟨ys,q1,q2,q3,q4,q5⟩:=g5
    exact ⟨ys,q1,q2,q3,q4,fun i x j u y h1 h2 h3=>.r0 _ _ (q5 i x j u y h1 h2 h3)⟩
  |_=>exact hu.elim
 |map kk m =>
  cases ob' with
  |map kk' m' =>
   obtain ⟨rfl,hk,hv⟩:=hu
   obtain ⟨hlen,hspec⟩:=b0m hv
   obtain ⟨b',es,clock,rfl,g2,g3,g4,g5,g6,g7⟩:=h
   simp only [List.length_map] at hlen
   refine ⟨b',es,clock,rfl,g2,g3,g4,by omega,fun i e p h1 h2=>?_,g7⟩
   obtain ⟨x,h3,h4⟩:=hspec i p.2 (by simp [h2])
   simp only [List.getElem?_map,Option.map_eq_some_iff] at h3
   obtain ⟨p',h5,rfl⟩:=h3
   obtain ⟨q1,q2,q3⟩:=g6 i e p' h1 h5
   have e1:p.1=p'.1:=by
    have:=congrArg (·[i]?) hk
    simp only [List.getElem?_map,h2,h5,Option.map_some,Option.some.injEq] at this
    exact this
   rw [e1]
   exact ⟨q1,q2,ren 4 h4 q3⟩
  |_=>exact hu.elim
 |box us =>
  cases ob' with
  |box xs =>
   obtain ⟨hlen,hspec⟩:=b0m hu
   obtain ⟨b',ys,t,g1,g2,g3,g3',g3'',g4⟩:=h
   refine ⟨b',ys,t,g1,g2,by omega,⟨by omega,by omega⟩,g3'',fun j u y h1 h2=>?_⟩
   obtain ⟨x,h3,h4⟩:=hspec j u h1
   exact ren 4 h4 (g4 j x y h3 h2)
  |_=>exact hu.elim
theorem e1o {ρ:Ren} {s:St}:∀ {l:List (Nat×V)},f6a ρ s l→∀ i,lkV l i=.any∨okN ρ 4 (lkV l i) (s.get i):=by
 intro l
 induction l with
 |nil=>intro _ i;exact .inl rfl
 |cons p r ih =>
  obtain ⟨i,x⟩:=p
  intro h j
  simp only [lkV]
  split
  ·subst_vars;exact .inr h.1
  ·exact ih h.2 j
theorem b6y {ρ:Ren} {s:St}:∀ {l:List (Nat×OB)},a1d ρ s l→∀ id ob,lkH l id=some ob→a0r ρ s ob (lkR ρ id):=by
 intro l
 induction l with
 |nil=>intro _ id ob h;cases h
 |cons p r ih =>
  obtain ⟨i,x⟩:=p
  intro h id ob hob
  simp only [lkH] at hob
  split at hob
  ·cases hob;subst_vars;exact h.1
  ·exact ih h.2 id ob hob
theorem apart_spec {j:Nat}:∀ {ρ:Ren} {id:Nat},apart j ρ→lkR ρ id≠some (some j):=by
 intro ρ
 induction ρ with
 |nil=>intro id _ h;cases h
 |cons p r ih =>
  obtain ⟨i,x⟩:=p
  intro id h
  cases x with
  |none =>
   simp only [lkR]
   split
   ·simp
   ·exact ih h
  |some k =>
   simp only [lkR]
   split
   ·intro e;simp at e;exact h.1 e.symm
   ·exact ih h.2
theorem d9v:∀ {ρ:Ren} {id id' j:Nat},a2m ρ→lkR ρ id=some (some j)→lkR ρ id'=some (some j)→id=id':=by
 intro ρ
 induction ρ with
 |nil=>intro id id' j _ h;cases h
 |cons p r ih =>
  obtain ⟨i,x⟩:=p
  intro id id' j h h1 h2
  simp only [lkR] at h1 h2
  split at h1<;>split at h2
  ·omega
  ·simp at h1;subst h1;exact (apart_spec h.1 h2).elim
  ·simp at h2;subst h2;exact (apart_spec h.1 h1).elim
  ·cases x with
   |none=>exact ih h h1 h2
   |some k=>exact ih h.2 h1 h2
theorem a3u {hl:List (Nat×OB)}:∀ {ρ:Ren} {id:Nat} {x},a0n hl ρ→lkR ρ id=some x→usH hl id=true:=by
 intro ρ
 induction ρ with
 |nil=>intro id x _ h;cases h
 |cons p r ih =>
  obtain ⟨i,z⟩:=p
  intro id x h h1
  simp only [lkR] at h1
  split at h1
  ·subst_vars;exact h.1
  ·exact ih h.2 h1
theorem a3v {ρ:Ren} {s:St} {hl:List (Nat×OB)} (hH:a1d ρ s hl) {id:Nat} {ob:OB} {E:Env} {b:Nat} {x:Nat×Nat} (h1:lkH hl id=some ob) (h2:a6t ρ E id=some (some b,x)) :
  ∃ j ob',lkR ρ id=some (some j)∧s.hp j=some ob'∧E j=some (some b,x)∧a1l ρ ob (some ob'):=by
 have h3:=b6y hH id ob h1
 simp only [a6t] at h2
 split at h2
 ·rename_i j hj
  rw [hj] at h3
  have h3':a1l ρ ob (s.hp j):=h3
  cases ho:s.hp j with
  |none=>rw [ho] at h3';cases ob<;>exact h3'.elim
  |some ob'=>rw [ho] at h3';exact ⟨j,ob',hj,ho,h2,h3'⟩
 ·cases h2
 ·cases h2
theorem c0t {ρ:Ren} {G:Gh} {s:St} {a:Act} {w:World} {E:Env} (hE:SimE G s a w E) {hl:List (Nat×OB)} (hH:a1d ρ s hl) {id:Nat} {ob:OB} (h1:lkH hl id=some ob) {O':Nat→Prop} (hO:∀ b,¬ OT G s E b→¬ O' b) :
  ∃ b K C,a6t ρ E id=some (b,K,C)∧HB w O' (a6t ρ E) b K C ob:=by
 have h3:=b6y hH id ob h1
 unfold a0r at h3
 split at h3
 ·rename_i j hj
  have h3':a1l ρ ob (s.hp j):=h3
  cases ho:s.hp j with
  |none=>rw [ho] at h3';cases ob<;>exact h3'.elim
  |some ob' =>
   rw [ho] at h3'
   obtain ⟨b,K,C,hEj,hb⟩:=hE.hp j ob' ho
   exact ⟨b,K,C,by simp [a6t,hj,hEj],(g3a h3' hb).mono (Nat.le_refl _) (fun b hb _=>hO b hb) (fun _ _ _=>rfl) (fun _ _ h=>h) (fun _ _=>rfl)⟩
 ·rename_i hj
  refine ⟨none,0,0,by simp [a6t,hj],?_⟩
  cases ob with
  |arr t sz l =>
   obtain ⟨h0,rfl⟩:=h3
   exact ⟨by simp,h0,by simp,rfl,rfl,rfl⟩
  |arx t sz l =>
   obtain ⟨h0,rfl⟩:=h3
   exact ⟨by simp,h0,by simp,rfl,rfl,rfl⟩
  |_=>exact h3.elim
 ·exact h3.elim
theorem c2q {ρ:Ren} {G:Gh} {s:St} {a:Act} {w:World} {E:Env} (hE:SimE G s a w E) {hl:List (Nat×OB)} (hH:a1d ρ s hl) (hi:a2m ρ) {id id':Nat} {ob ob':OB} {b:Nat} {x x':Nat×Nat}
  (h1:lkH hl id=some ob) (h2:lkH hl id'=some ob') (h3:a6t ρ E id=some (some b,x)) (h4:a6t ρ E id'=some (some b,x')):id=id':=by
 obtain ⟨j,o1,g1,g2,g3,_⟩:=a3v hH h1 h3
 obtain ⟨j',o2,q1,q2,q3,_⟩:=a3v hH h2 h4
 have:=hE.inj j j' o1 o2 b x x' g2 q2 g3 q3
 subst this
 exact d9v hi g1 q1
theorem a1e {s:St} {fl:List (Nat×V)} {hl:List (Nat×OB)} (ρ:Ren) (hS:f6a ρ s fl) (hH:a1d ρ s hl) (hi:a2m ρ) (hc:a0n hl ρ) {G:Gh} (hb:∀ id,id ∈ G.nm→lkR ρ id=some (some id)):Ent G s (St.of fl hl):=by
 rintro a w ⟨E,hE⟩
 have hO:∀ b,¬ OT G s E b→¬ OT G (St.of fl hl) (a6t ρ E) b:=by
  rintro b hb (h|⟨id,ob,K,C,hid,hid'⟩)
  ·exact hb (.inl h)
  ·obtain ⟨j,ob',_,h2,h3,_⟩:=a3v hH hid hid'
   exact hb (.inr ⟨j,ob',K,C,h2,h3⟩)
 have hL:∀ b,¬ a5v s E b→¬ a5v (St.of fl hl) (a6t ρ E) b:=by
  rintro b hb ⟨id,ob,K,C,hid,hid'⟩
  obtain ⟨j,ob',_,h2,h3,_⟩:=a3v hH hid hid'
  exact hb ⟨j,ob',K,C,h2,h3⟩
 refine ⟨a6t ρ E,⟨fun i=>?_,hE.defers.mono rfl fun b hb _ _=>⟨rfl,hL b hb⟩,hE.size,fun id ob hob=>c0t hE hH hob hO,fun id hid=>?_,fun id id' ob ob' b K K' h1 h2 h3 h4=>c2q hE hH hi h1 h2 h3 h4,fun id ob b K h1 h2=>?_,hE.old,hE.grow,hE.os,hE.tape,hE.output,hE.keep,fun id hid=>?_,hE.zi⟩⟩
 ·rcases e1o hS i with h|h
  ·show R w _ _ (lkV fl i) _
   rw [h];exact .r0 _ _ (.any _)
  ·exact (ren 4 h (hE.fr i)).weak hO fun _ _ h=>h
 ·unfold a6t at hid
  split at hid
  ·rename_i j hj;exact a3u hc hj
  ·rename_i hj;exact a3u hc hj
  ·exact (hid rfl).elim
 ·obtain ⟨j,ob',_,g2,g3,_⟩:=a3v hH h1 h2
  exact hE.fresh j ob' b K g2 g3
 ·obtain ⟨r,h1,h2⟩:=hE.base id hid
  exact ⟨r,h1,by simp only [a6t,hb id hid];exact h2⟩
theorem a0y {s:St} {fl:List (Nat×V)} (hS:f6a [] s fl) {G:Gh} (hb:G.nm=[]):Ent G s (St.of fl []) :=
 a1e (hl:=[]) [] hS trivial trivial trivial (by rw [hb];simp)
end Pm
namespace Pm
open Go Go.RowKit
theorem a1m {s:St} {fl:List (Nat×V)} {hl:List (Nat×OB)} (ρ:Ren) {G:Gh} (hS:f6a ρ s fl:=by (simp only [go_sem])<;>simp) (hH:a1d ρ s hl:=by (simp only [go_sem,a1d,a0r,a0i,a1l])<;>simp) (hi:a2m ρ:=by simp [a2m,apart]) (hc:a0n hl ρ:=by simp [a0n,usH]) (hb:∀ id,id ∈ G.nm→lkR ρ id=some (some id):=by simp [hNm,lkR,a0x]):Ent G s (St.of fl hl):=a1e ρ hS hH hi hc hb
end Pm
open Go Go.RowKit
namespace Pm
def vwS (p:Nat→Bool) (lo:Nat) (s:St):Nat→V→V
 |0,_=>.any
 |n+1,x=>match x with
  |.own id off len sz=>match p id,s.hget id with
   |true,some (.arr _ sz' l)=>if sz=sz' then .lst lo sz ((l.drop off).take len) else .any
   |true,some (.arx _ sz' l)=>if sz=sz' then .lst lo sz (((l.map (List.map (vwS p lo s n))).drop off).take len) else .any
   |true,some (.box cs)=>if sz=1 then .lst lo 1 ((((cs.map (vwS p lo s n)).drop off).take len).map fun c=>[c]) else if 0 < sz∧(off+len) * sz≤cs.length then .lst lo sz ((List.range len).map fun i=>c6z sz (cs.map (vwS p lo s n)) (off+i)) else .any
   |_,_=>.any
  |.ptr id off=>match p id,s.hget id with
   |true,some (.box cs)=>.fp ((cs.map (vwS p lo s n)).drop off)
   |_,_=>.any
  |.eptr _ _ _ _=>.any
  |.mp _=>.any
  |.agg cs=>.agg (cs.map (vwS p lo s n))
  |.tup cs=>.tup (cs.map (vwS p lo s n))
  |.fn f cap=>.fn f (cap.map (vwS p lo s n))
  |.v x=>.v x
  |.lst lo sz l=>.lst lo sz l
  |.fp cs=>.fp cs
  |.any=>.any
def vw (lo:Nat) (s:St) (n:Nat) (x:V):V:=vwS (fun _=>true) lo s n x
def vwF (p:Nat→Bool) (lo:Nat) (s:St):Nat→V→V
 |0,_=>.any
 |n+1,x=>match x with
  |.own id off len sz=>match p id with
   |true=>vwS p lo s (n+1) (.own id off len sz)
   |false=>.own id off len sz
  |.ptr id off=>match p id with
   |true=>vwS p lo s (n+1) (.ptr id off)
   |false=>.ptr id off
  |.eptr id i k sz=>match p id with
   |true=>.any
   |false=>.eptr id i k sz
  |.mp id=>match p id with
   |true=>.any
   |false=>.mp id
  |.agg cs=>.agg (cs.map (vwF p lo s n))
  |.tup cs=>.tup (cs.map (vwF p lo s n))
  |.fn f cap=>.fn f (cap.map (vwF p lo s n))
  |.v x=>.v x
  |.lst lo sz l=>.lst lo sz l
  |.fp cs=>.fp cs
  |.any=>.any
theorem e0k {G:Gh} {s:St} {a:Act} {w:World} {E:Env} (hE:SimE G s a w E) {p:Nat→Bool} {O':Nat→Prop} (hO:∀ b,¬ OT G s E b→b < w.heap.size→¬ O' b)
  (hp:∀ id ob b x,p id=true→s.hp id=some ob→E id=some (some b,x)→¬ O' b):∀ (n:Nat) {x:V} {y:Value},R w (OT G s E) E x y→R0 w O' (vwS p G.lo s n x) y:=by
 have hlo:∀ id ob b x,s.hp id=some ob→E id=some (some b,x)→G.lo≤b:=fun id ob b x h1 h2=>hE.lo_le h1 h2
 have up:∀ {x:V} {y:Value},R0 w (OT G s E) x y→R0 w O' x y:=fun h=>h.mono (Nat.le_refl _) hO fun _ _ _=>rfl
 intro n
 induction n with
 |zero=>intro x y _;exact .any _
 |succ n ih =>
  intro x y h
  unfold vwS
  cases x with
  |any=>exact .any _
  |v x=>rw [R.v_inv h];exact .v x
  |lst lo' sz l =>
   cases h with
   |r0 _ _ h=>exact up h
  |fp cs =>
   cases h with
   |r0 _ _ h=>exact up h
  |eptr=>exact .any _
  |mp=>exact .any _
  |agg cs =>
   obtain ⟨ys,rfl,hsz,hr⟩:=R.agg_inv h
   refine .agg _ _ (by simpa using hsz) fun j u y h1 h2=>?_
   simp only [List.getElem?_map,Option.map_eq_some_iff] at h1
   obtain ⟨u',h1,rfl⟩:=h1
   exact ih (hr j u' y h1 h2)
  |tup cs =>
   obtain ⟨ys,rfl,hsz,hr⟩:=R.tup_inv h
   refine .tup _ _ (by simpa using hsz) fun j u y h1 h2=>?_
   simp only [List.getElem?_map,Option.map_eq_some_iff] at h1
   obtain ⟨u',h1,rfl⟩:=h1
   exact ih (hr j u' y h1 h2)
  |fn f cs =>
   obtain ⟨ys,rfl,hsz,hr⟩:=R.fn_inv h
   refine .fn _ _ _ (by simpa using hsz) fun j u y h1 h2=>?_
   simp only [List.getElem?_map,Option.map_eq_some_iff] at h1
   obtain ⟨u',h1,rfl⟩:=h1
   exact ih (hr j u' y h1 h2)
  |ptr id off =>
   obtain ⟨b,K,C,hid,rfl⟩:=R.ptr_inv h
   dsimp only
   split
   ·rename_i cs hpi hcs
    obtain ⟨b',K',C',hid',b'',ys,t,hb,hh,hsz,_,_,hr⟩:=hE.hp id _ hcs
    rw [hid] at hid'
    cases hid'
    cases hb
    obtain ⟨_,_,hlt⟩:=hE.fresh id _ _ _ hcs hid
    have hnf:=hp id _ _ _ hpi hcs hid
    have hsz':∀ j u,(List.map (vwS p G.lo s n) cs)[j]? = some u→j < ys.size:=fun j u h=>by
     have:=(List.getElem?_eq_some_iff.1 h).1
     simp at this;omega
    refine .fp _ b off (fun j=>ys.getD (off+j) undef) hnf hlt (fun j u h1=>?_) (fun j u h1=>?_)
    ·rw [List.getElem?_drop] at h1
     have:=hsz' _ _ h1
     refine a3t hh ?_
     rw [cell_of_row w b (off+j) ys t (0,0) hh]
     simp [this]
    ·rw [List.getElem?_drop] at h1
     have hlt':=hsz' _ _ h1
     simp only [List.getElem?_map,Option.map_eq_some_iff] at h1
     obtain ⟨u',h1,rfl⟩:=h1
     refine ih (hr (off+j) u' _ h1 ?_)
     simp [hlt']
   ·exact .any _
  |own id off len sz =>
   obtain ⟨b,K,C,hid,hov⟩:=R.own_inv h
   dsimp only
   split
   ·rename_i t sz' l hpi hob
    split
    ·rename_i hszz
     subst hszz
     obtain ⟨b',K',C',hid',hHB⟩:=hE.hp id _ hob
     rw [hid] at hid'
     cases hid'
     refine d6y (hHB.mono (O':=O') (Nat.le_refl _) hO (fun _ _ _=>rfl) (fun _ _ h=>h) (fun _ _=>rfl)) hov fun b' hb'=>?_
     subst hb'
     exact ⟨hlo id _ _ _ hob hid,hp id _ _ _ hpi hob hid,(hE.fresh id _ _ _ hob hid).2.2⟩
    ·exact .any _
   ·rename_i t sz' l hpi hob
    split
    ·rename_i hszz
     subst hszz
     obtain ⟨b',K',C',hid',hHB⟩:=hE.hp id _ hob
     rw [hid] at hid'
     cases hid'
     have hHB':HB w O' E b K C (.arr t sz (l.map (List.map (vwS p G.lo s n)))):=by
      obtain ⟨g1,g2,g3,g4,g5⟩:=hHB
      refine ⟨fun x hx=>?_,g2,by simpa using g3,by simpa using g4,?_⟩
      ·obtain ⟨x',hx',rfl⟩:=List.mem_map.1 hx
       rw [List.length_map];exact g1 _ hx'
      ·cases b with
       |none=>exact g5
       |some b =>
        obtain ⟨ys,q1,q2,q3,q4,q5⟩:=g5
        refine ⟨ys,q1,q2,q3,q4,fun i x j u y h1 h2 h3=>?_⟩
        simp only [List.getElem?_map,Option.map_eq_some_iff] at h1
        obtain ⟨x',h4,rfl⟩:=h1
        simp only [List.getElem?_map,Option.map_eq_some_iff] at h2
        obtain ⟨u',h5,rfl⟩:=h2
        exact ih (q5 i x' j u' y h4 h5 h3)
     refine d6y hHB' hov fun b' hb'=>?_
     subst hb'
     exact ⟨hlo id _ _ _ hob hid,hp id _ _ _ hpi hob hid,(hE.fresh id _ _ _ hob hid).2.2⟩
    ·exact .any _
   ·rename_i cs hpi hob
    split
    ·rename_i hsz1
     subst hsz1
     obtain ⟨hle,hKC,hv⟩:=hov
     obtain ⟨b',K',C',hid',b'',ys,t,hb,hh,hsz,hK,hKC',hr⟩:=hE.hp id _ hob
     rw [hid] at hid'
     cases hid'
     cases hb
     obtain ⟨o,ho,rfl⟩:=hv
     obtain ⟨_,_,hlt⟩:=hE.fresh id _ _ _ hob hid
     have hnf:=hp id _ _ _ hpi hob hid
     have hlen:((((cs.map (vwS p G.lo s n)).drop off).take len).map fun c=>[c]).length=len:=by simp;omega
     have idx:∀ (i:Nat) (x:List V),((((cs.map (vwS p G.lo s n)).drop off).take len).map fun c=>[c])[i]? = some x→∃ (u':V) (hi:off+i < ys.size),x=[vwS p G.lo s n u']∧i < len∧R0 w O' (vwS p G.lo s n u') ys[off+i]:=fun i x h=>by
      simp only [List.getElem?_map,Option.map_eq_some_iff] at h
      obtain ⟨c,h1,rfl⟩:=h
      obtain ⟨h2,hi⟩:=a0w _ _ _ _ h1
      rw [List.getElem?_drop] at h2
      simp only [List.getElem?_map,Option.map_eq_some_iff] at h2
      obtain ⟨u',h3,rfl⟩:=h2
      have hlt:off+i < ys.size:=by rw [hsz];exact (List.getElem?_eq_some_iff.1 h3).1
      exact ⟨u',hlt,rfl,hi,ih (hr _ _ _ h3 (Array.getElem?_eq_getElem hlt))⟩
     refine .lst G.lo 1 _ _ len _ b'' (off * 1) (fun i j=>ys.getD (off+i) undef) (fun _=>hlo id _ _ _ hob hid) hlen.symm (by rw [hlen];omega) (by rw [hlen];omega) (fun hne=>?_) (fun i x j u h1 h2=>?_) (fun x hx=>?_) (fun i x j u h1 h2=>?_)
     ·have:0 < len:=by rw [← hlen];exact List.length_pos_iff.2 hne
      refine ⟨?_,hnf,hlt⟩
      rw [ho (.inl (by omega))]
     ·obtain ⟨u',hi,rfl,hil,h3⟩:=idx i x h1
      have hj:j=0:=by have:=(List.getElem?_eq_some_iff.1 h2).1;simp at this;exact this
      subst hj
      have e1:off * 1+(i * 1+0)=off+i:=by omega
      refine a3t hh ?_
      rw [e1,cell_of_row w b'' _ ys t (0,0) hh]
      simp [hi]
     ·simp only [List.mem_map] at hx
      obtain ⟨c,_,rfl⟩:=hx
      rfl
     ·obtain ⟨u',hi,rfl,hil,h3⟩:=idx i x h1
      have hj:j=0:=by have:=(List.getElem?_eq_some_iff.1 h2).1;simp at this;exact this
      subst hj
      simp at h2
      subst h2
      have e2:ys.getD (off+i) undef=ys[off+i]:=by simp [hi]
      rw [e2]
      exact h3
    ·split
     ·rename_i hszn
      obtain ⟨hs0,hsl⟩:=hszn
      obtain ⟨hle,hKC,hv⟩:=hov
      obtain ⟨b',K',C',hid',b'',ys,t,hb,hh,hsz,hK,hKC',hr⟩:=hE.hp id _ hob
      rw [hid] at hid'
      cases hid'
      cases hb
      obtain ⟨o,ho,rfl⟩:=hv
      obtain ⟨_,_,hlt⟩:=hE.fresh id _ _ _ hob hid
      have hnf:=hp id _ _ _ hpi hob hid
      have hlen:((List.range len).map fun i=>c6z sz (cs.map (vwS p G.lo s n)) (off+i)).length=len:=by simp
      have hrow:∀ i,i < len→(off+i) * sz+sz≤cs.length:=fun i hi=>by
       have:(off+i+1) * sz≤(off+len) * sz:=Nat.mul_le_mul_right _ (by omega)
       rw [Nat.add_one_mul] at this
       omega
      have idx:∀ (i:Nat) (x:List V),((List.range len).map fun i=>c6z sz (cs.map (vwS p G.lo s n)) (off+i))[i]? = some x→i < len∧x=c6z sz (cs.map (vwS p G.lo s n)) (off+i):=fun i x h=>by
       simp only [List.getElem?_map,Option.map_eq_some_iff] at h
       obtain ⟨c,h1,rfl⟩:=h
       obtain ⟨h2,h3⟩:=List.getElem?_eq_some_iff.1 h1
       simp at h2 h3
       subst h3
       exact ⟨h2,rfl⟩
      have cel:∀ (i j:Nat) (u:V),i < len→(c6z sz (cs.map (vwS p G.lo s n)) (off+i))[j]? = some u→∃ (u':V) (hi:(off+i) * sz+j < ys.size),u=vwS p G.lo s n u'∧R0 w O' u ys[(off+i) * sz+j]:=fun i j u hi h=>by
       unfold c6z at h
       obtain ⟨h2,hj⟩:=a0w _ _ _ _ h
       rw [List.getElem?_drop] at h2
       simp only [List.getElem?_map,Option.map_eq_some_iff] at h2
       obtain ⟨u',h3,rfl⟩:=h2
       have hlt:(off+i) * sz+j < ys.size:=by rw [hsz];exact (List.getElem?_eq_some_iff.1 h3).1
       exact ⟨u',hlt,rfl,ih (hr _ _ _ h3 (Array.getElem?_eq_getElem hlt))⟩
      refine .lst G.lo sz _ _ len _ b'' (off * sz) (fun i j=>ys.getD ((off+i) * sz+j) undef) (fun _=>hlo id _ _ _ hob hid) hlen.symm (by rw [hlen];omega) (by rw [hlen];omega) (fun hne=>?_) (fun i x j u h1 h2=>?_) (fun x hx=>?_) (fun i x j u h1 h2=>?_)
      ·have:0 < len:=by rw [← hlen];exact List.length_pos_iff.2 hne
       refine ⟨?_,hnf,hlt⟩
       rw [ho (.inl (by omega))]
      ·obtain ⟨hil,rfl⟩:=idx i x h1
       obtain ⟨u',hi,_,_⟩:=cel i j u hil h2
       have e1:off * sz+(i * sz+j)=(off+i) * sz+j:=by rw [Nat.add_mul];omega
       refine a3t hh ?_
       rw [e1,cell_of_row w b'' _ ys t (0,0) hh]
       simp [hi]
      ·obtain ⟨i,hi⟩:=List.getElem?_of_mem hx
       obtain ⟨hil,rfl⟩:=idx i x hi
       have:=hrow i hil
       unfold c6z
       rw [List.length_take,List.length_drop,List.length_map]
       omega
      ·obtain ⟨hil,rfl⟩:=idx i x h1
       obtain ⟨u',hi,_,h3⟩:=cel i j u hil h2
       have e2:ys.getD ((off+i) * sz+j) undef=ys[(off+i) * sz+j]:=by simp [hi]
       rw [e2]
       exact h3
     ·exact .any _
   ·exact .any _
theorem f6e {G:Gh} {s:St} {a:Act} {w:World} {E:Env} (hE:SimE G s a w E) (n:Nat) {x:V} {y:Value} (h:R w (OT G s E) E x y):R0 w G.Of (vw G.lo s n x) y :=
 e0k hE (fun _ h _ h'=>h (.inl h')) (fun id ob b x _ h1 h2=>(hE.fresh id ob b x h1 h2).2.1) n h
def g4z (p:Nat→Bool) (lo:Nat) (s:St):OB→OB
 |.box cs=>.box (cs.map (vwF p lo s 4))
 |.arr t sz l=>.arr t sz l
 |.arx t sz l=>.arx t sz (l.map (List.map (vwF p lo s 4)))
 |.map kk m=>.map kk (m.map fun q=>(q.1,vwF p lo s 4 q.2))
 |.obj o=>.obj o
 |.mpe kk m j bo=>.mpe kk (m.map fun q=>(q.1,vwF p lo s 4 q.2)) j bo
def frz (p:Nat→Bool) (lo:Nat) (s:St):St:=⟨fun i=>vwF p lo s 4 (s.fr i),fun i=>match p i with
 |true=>none
 |false=>(s.hp i).map (g4z p lo s),s.us⟩
theorem c8x {G:Gh} {s:St} {a:Act} {w:World} {E:Env} (hE:SimE G s a w E) {p:Nat→Bool} {O':Nat→Prop} (hO:∀ b,¬ OT G s E b→b < w.heap.size→¬ O' b)
  (hp:∀ id ob b x,p id=true→s.hp id=some ob→E id=some (some b,x)→¬ O' b):∀ (n:Nat) {x:V} {y:Value},R w (OT G s E) E x y→R w O' E (vwF p G.lo s n x) y:=by
 have up:∀ {x:V} {y:Value},R w (OT G s E) E x y→R w O' E x y:=fun h=>h.mono (Nat.le_refl _) hO (fun _ _ _=>rfl) fun _ _ h=>h
 intro n
 induction n with
 |zero=>intro x y _;exact .r0 _ _ (.any _)
 |succ n ih =>
  intro x y h
  unfold vwF
  cases x with
  |own id off len sz =>
   dsimp only
   split
   ·exact .r0 _ _ (e0k hE hO hp (n+1) h)
   ·exact up h
  |ptr id off =>
   dsimp only
   split
   ·exact .r0 _ _ (e0k hE hO hp (n+1) h)
   ·exact up h
  |eptr id =>
   dsimp only
   split
   ·exact .r0 _ _ (.any _)
   ·exact up h
  |mp id =>
   dsimp only
   split
   ·exact .r0 _ _ (.any _)
   ·exact up h
  |agg cs =>
   obtain ⟨ys,rfl,hsz,hr⟩:=R.agg_inv h
   refine .agg _ _ (by simpa using hsz) fun j u y h1 h2=>?_
   simp only [List.getElem?_map,Option.map_eq_some_iff] at h1
   obtain ⟨u',h1,rfl⟩:=h1
   exact ih (hr j u' y h1 h2)
  |tup cs =>
   obtain ⟨ys,rfl,hsz,hr⟩:=R.tup_inv h
   refine .tup _ _ (by simpa using hsz) fun j u y h1 h2=>?_
   simp only [List.getElem?_map,Option.map_eq_some_iff] at h1
   obtain ⟨u',h1,rfl⟩:=h1
   exact ih (hr j u' y h1 h2)
  |fn f cs =>
   obtain ⟨ys,rfl,hsz,hr⟩:=R.fn_inv h
   refine .fn _ _ _ (by simpa using hsz) fun j u y h1 h2=>?_
   simp only [List.getElem?_map,Option.map_eq_some_iff] at h1
   obtain ⟨u',h1,rfl⟩:=h1
   exact ih (hr j u' y h1 h2)
  |_=>exact up h
theorem c1j {G:Gh} {s:St} (p:Nat→Bool):Ent G s (frz p G.lo s):=by
 rintro a w ⟨E,hE⟩
 have back:∀ i o,(frz p G.lo s).hp i=some o→p i=false∧∃ o',s.hp i=some o'∧o=g4z p G.lo s o':=fun i o h=>by
  simp only [frz] at h
  split at h
  ·cases h
  ·rename_i hpi
   simp only [Option.map_eq_some_iff] at h
   obtain ⟨o',h1,h2⟩:=h
   exact ⟨hpi,o',h1,h2.symm⟩
 have hO:∀ b,¬ OT G s E b→b < w.heap.size→¬ OT G (frz p G.lo s) E b:=by
  rintro b hb _ (h|⟨i,o,K,C,h1,h2⟩)
  ·exact hb (.inl h)
  ·obtain ⟨_,o',h3,_⟩:=back i o h1
   exact hb (.inr ⟨i,o',K,C,h3,h2⟩)
 have hp:∀ id ob b x,p id=true→s.hp id=some ob→E id=some (some b,x)→¬ OT G (frz p G.lo s) E b:=by
  rintro id ob b x hpi h1 h2 (h|⟨i,o,K,C,h3,h4⟩)
  ·exact (hE.fresh id ob b x h1 h2).2.1 h
  ·obtain ⟨hpi',o',h5,_⟩:=back i o h3
   have:=hE.inj i id o' ob b _ _ h5 h1 h4 h2
   subst this
   rw [hpi] at hpi';cases hpi'
 have hL:∀ b,¬ a5v s E b→¬ a5v (frz p G.lo s) E b:=by
  rintro b hb ⟨i,o,K,C,h1,h2⟩
  obtain ⟨_,o',h3,_⟩:=back i o h1
  exact hb ⟨i,o',K,C,h3,h2⟩
 refine ⟨E,⟨fun i=>c8x hE hO hp 4 (hE.fr i),hE.defers.mono rfl fun b hb _ _=>⟨rfl,hL b hb⟩,hE.size,fun i o h=>?_,hE.us,fun i i' o o' b x x' h1 h2 h3 h4=>?_,fun i o b x h1 h2=>?_,hE.old,hE.grow,hE.os,hE.tape,hE.output,hE.keep,hE.base,hE.zi⟩⟩
 ·obtain ⟨_,o',h1,rfl⟩:=back i o h
  obtain ⟨b,K,C,g1,g2⟩:=hE.hp i o' h1
  refine ⟨b,K,C,g1,?_⟩
  cases o' with
  |arr t sz l=>exact g2.mono (Nat.le_refl _) hO (fun _ _ _=>rfl) (fun _ _ h=>h) (fun _ _=>rfl)
  |obj x=>exact g2
  |arx t sz l =>
   obtain ⟨g1,g2,g3,g4,g5⟩:=g2
   refine ⟨fun x hx=>?_,g2,by simpa using g3,by simpa using g4,?_⟩
   ·obtain ⟨x',hx',rfl⟩:=List.mem_map.1 hx
    rw [List.length_map];exact g1 _ hx'
   ·cases b with
    |none=>exact g5
    |some b =>
     obtain ⟨ys,q1,q2,q3,q4,q5⟩:=g5
     refine ⟨ys,q1,q2,q3,q4,fun i x j u y h1 h2 h3=>?_⟩
     simp only [List.getElem?_map,Option.map_eq_some_iff] at h1
     obtain ⟨x',h4,rfl⟩:=h1
     simp only [List.getElem?_map,Option.map_eq_some_iff] at h2
     obtain ⟨u',h5,rfl⟩:=h2
     exact c8x hE hO hp 4 (q5 i x' j u' y h4 h5 h3)
  |mpe kk m j bo =>
   obtain ⟨b',es,clock,rfl,q2,q3,q4,q5,q6,q7⟩:=g2
   refine ⟨b',es,clock,rfl,q2,q3,q4,by simpa using q5,fun i e p' h3 h4=>?_,q7⟩
   simp only [List.getElem?_map,Option.map_eq_some_iff] at h4
   obtain ⟨p2,h4,rfl⟩:=h4
   obtain ⟨k1,k2,k3⟩:=q6 i e p2 h3 h4
   exact ⟨k1,k2,c8x hE hO hp 4 k3⟩
  |map kk m =>
   obtain ⟨b',es,clock,rfl,q2,q3,q4,q5,q6,q7⟩:=g2
   refine ⟨b',es,clock,rfl,q2,q3,q4,by simpa using q5,fun i e p' h3 h4=>?_,q7⟩
   simp only [List.getElem?_map,Option.map_eq_some_iff] at h4
   obtain ⟨p2,h4,rfl⟩:=h4
   obtain ⟨k1,k2,k3⟩:=q6 i e p2 h3 h4
   exact ⟨k1,k2,c8x hE hO hp 4 k3⟩
  |box cs =>
   obtain ⟨b',ys,t,rfl,q2,q3,q4,q5,q6⟩:=g2
   refine ⟨b',ys,t,rfl,q2,by simpa using q3,by simpa using q4,q5,fun j u y h3 h4=>?_⟩
   simp only [List.getElem?_map,Option.map_eq_some_iff] at h3
   obtain ⟨u',h3,rfl⟩:=h3
   exact c8x hE hO hp 4 (q6 j u' y h3 h4)
 ·obtain ⟨_,o1,g1,_⟩:=back i o h1
  obtain ⟨_,o2,g2,_⟩:=back i' o' h2
  exact hE.inj i i' o1 o2 b x x' g1 g2 h3 h4
 ·obtain ⟨_,o1,g1,_⟩:=back i o h1
  exact hE.fresh i o1 b x g1 h2
def b9j (P:Program) (f:FuncId):Prop:=∃ fn,P.funcs[f]? = some fn∧(fn.name == "runtime.NumGoroutine")=false∧fn.body.isNone=false
def ArgsR (w:World) (O:Nat→Prop) (as:List V) (ys:Array Value):Prop:=ys.size=as.length∧∀ (j:Nat) (u:V) (y:Value),as[j]? = some u→ys[j]? = some y→R0 w O u y
def a0l (P:Program) (f:FuncId) (as:List V) (r:Nat→V):Prop :=
 b9j P f∧∀ (n:Nat) (w:World) (O:Nat→Prop) (ys:Array Value),n≤w.heap.size→OKO w O→ArgsR w O as ys →
  Calls P f ys w fun e w'=>∃ y,e=.returned y∧R0 w' O (r n) y∧Below w.heap.size w w'
inductive Bd:V→Prop
 |any:Bd .any
 |v (x:Value):Bd (.v x)
 |lst (lo sz:Nat) (l:List (List V)) (hl:l.length≤140737488355328) (hr:∀ r ∈ l,∀ u ∈ r,Bd u):Bd (.lst lo sz l)
 |fp (cs:List V) (hr:∀ u ∈ cs,Bd u):Bd (.fp cs)
 |agg (cs:List V) (hr:∀ u ∈ cs,Bd u):Bd (.agg cs)
 |tup (cs:List V) (hr:∀ u ∈ cs,Bd u):Bd (.tup cs)
 |fn (f:Fn) (cs:List V) (hr:∀ u ∈ cs,Bd u):Bd (.fn f cs)
theorem R0.bd {w:World} {O:Nat→Prop} {x:V} {y:Value} (h:R0 w O x y):Bd x:=by
 have arr:∀ (cs:List V) (ys:Array Value),ys.size=cs.length→(∀ (j:Nat) (u:V) (y:Value),cs[j]? = some u→ys[j]? = some y→Bd u)→∀ u ∈ cs,Bd u:=fun cs ys hn ih u hu=>by
  obtain ⟨j,hj,rfl⟩:=List.getElem_of_mem hu
  exact ih j _ (ys[j]'(by omega)) (List.getElem?_eq_getElem hj) (by simp [hn,hj])
 induction h with
 |any=>exact .any
 |v x=>exact .v x
 |lst lo sz l a n cap b o g hlo hn hc hl ha hs hz hr ih =>
  refine .lst _ _ _ hl fun r hr' u hu=>?_
  obtain ⟨i,hi,rfl⟩:=List.getElem_of_mem hr'
  obtain ⟨j,hj,rfl⟩:=List.getElem_of_mem hu
  exact ih i _ j _ (List.getElem?_eq_getElem hi) (List.getElem?_eq_getElem hj)
 |fp cs b o g hO hb hs hr ih =>
  refine .fp _ fun u hu=>?_
  obtain ⟨j,hj,rfl⟩:=List.getElem_of_mem hu
  exact ih j _ (List.getElem?_eq_getElem hj)
 |agg cs ys hn hr ih=>exact .agg _ (arr cs ys hn ih)
 |tup cs ys hn hr ih=>exact .tup _ (arr cs ys hn ih)
 |fn f cap ys hn hr ih=>exact .fn _ _ (arr cap ys hn ih)
theorem ArgsR.bd {w:World} {O:Nat→Prop} {as:List V} {ys:Array Value} (h:ArgsR w O as ys):∀ x ∈ as,Bd x:=by
 intro x hx
 obtain ⟨j,hj,rfl⟩:=List.getElem_of_mem hx
 exact (h.2 j _ (ys[j]'(by have:=h.1;omega)) (List.getElem?_eq_getElem hj) (by simp [h.1,hj])).bd
theorem Sub.refl (x:V):Sub x x:=fun _ _ _ h=>h
theorem Sub.nil (lo sz:Nat):Sub (.v (.slice none 0 0)) (.lst lo sz []):=by
 intro w O y h
 cases h with
 |v=>exact .lst _ sz [] none 0 0 0 0 (fun _ _=>undef) (fun h=>(h rfl).elim) rfl (by simp) (by simp) (fun h=>(h rfl).elim) (by simp) (by simp) (by simp)
theorem Sub.any (x:V):Sub x .any:=fun _ _ y _=>.any y
inductive Subs:List V→List V→Prop
 |nil:Subs [] []
 |cons {x x':V} {l l':List V} (h:Sub x x') (t:Subs l l'):Subs (x::l) (x'::l')
theorem Subs.refl:∀ l:List V,Subs l l
 |[]=>.nil
 |x::l=>.cons (.refl x) (Subs.refl l)
theorem Subs.spec {l l':List V} (h:Subs l l'):l.length=l'.length∧∀ (j:Nat) (u':V),l'[j]? = some u'→∃ u,l[j]? = some u∧Sub u u':=by
 induction h with
 |nil=>exact ⟨rfl,by simp⟩
 |cons h t ih =>
  refine ⟨by simp [ih.1],fun j u' hj=>?_⟩
  cases j with
  |zero=>simp at hj;subst hj;exact ⟨_,rfl,h⟩
  |succ j=>simp at hj;simpa using ih.2 j u' hj
theorem Subs.tup {l l':List V} (h:Subs l l'):Sub (.tup l) (.tup l'):=by
 intro w O y hy
 cases hy with
 |tup _ ys hn hr =>
  obtain ⟨h1,h2⟩:=h.spec
  refine .tup _ _ (by omega) fun j u y h3 h4=>?_
  obtain ⟨u0,h5,h6⟩:=h2 j u h3
  exact h6 _ _ _ (hr j u0 y h5 h4)
theorem Subs.agg {l l':List V} (h:Subs l l'):Sub (.agg l) (.agg l'):=by
 intro w O y hy
 cases hy with
 |agg _ ys hn hr =>
  obtain ⟨h1,h2⟩:=h.spec
  refine .agg _ _ (by omega) fun j u y h3 h4=>?_
  obtain ⟨u0,h5,h6⟩:=h2 j u h3
  exact h6 _ _ _ (hr j u0 y h5 h4)
def d4a (P:Program) (lo:Nat) (s:St):ResultVar→V
 |.tmp t=>vw lo s 4 (s.get t)
 |.cell a t=>match s.get a,a0m P t with
  |.ptr id off,some (ag,n)=>match s.hget id with
   |some (.box cs)=>match ag with
    |true=>.agg (((cs.map (vw lo s 3)).drop off).take n)
    |false=>((cs.map (vw lo s 3))[off]?).getD .any
   |_=>.any
  |_,_=>.any
def a6e (P:Program) (s:St):ResultVar→Prop
 |.tmp _=>True
 |.cell a t=>match s.get a,a0m P t with
  |.ptr id off,some (ag,n)=>match s.hget id with
   |some (.box cs)=>match ag with
    |true=>off+n≤cs.length
    |false=>off < cs.length
   |_=>False
  |_,_=>False
def a1z (P:Program) (lo:Nat) (rs:List ResultVar) (r:V):Exit→St→Prop
 |.normal,s|.ret,s=>match rs with
  |[x]=>a6e P s x∧Sub (d4a P lo s x) r
  |rs=>(∀ x,x ∈ rs→a6e P s x)∧Sub (.tup (rs.map (d4a P lo s))) r
 |_,_=>False
def b6c (tmps:Array Value):ResultVar→Sem Value
 |.tmp t=>pure (tmps.getD t undef)
 |.cell ad t=>do loadVar t (← asAddr (tmps.getD ad undef))
theorem a4t (fn:Func) (tmps:Array Value):results fn tmps=(do
  let vs ← fn.results.mapM (b6c tmps)
  pure (if h:vs.size=1 then vs[0] else .tuple vs)):=by
 unfold results
 congr 1
theorem b0s {P:Program} {G:Gh} {s:St} {a:Act} {w:World} {E:Env} (hE:SimE G s a w E) (x:ResultVar) (hx:a6e P s x) :
  ∃ y,(b6c a.tmps x).run P w=.ok y w∧R0 w G.Of (d4a P G.lo s x) y:=by
 cases x with
 |tmp t=>exact ⟨_,rfl,f6e hE 4 (hE.fr t)⟩
 |cell ad t =>
  simp only [a6e,d4a] at *
  split at hx
  ·rename_i id off ag n hp hl
   split at hx
   ·rename_i cs hcs
    obtain ⟨d,i,hu,hi,hag,hsz⟩:=a1u hl
    have hR:=hE.fr ad
    have hp':s.fr ad=.ptr id off:=hp
    rw [hp'] at hR
    obtain ⟨b,K,C,hid,hy⟩:=R.ptr_inv hR
    obtain ⟨b',K',C',hid',b'',ys,t',hb,hh,hys,_,_,hr⟩:=hE.hp id _ hcs
    rw [hid] at hid'
    cases hid'
    cases hb
    have cell:∀ j,off+j < ys.size→w.cell? ⟨b,off+j,none⟩=some (ys.getD (off+j) undef):=fun j hj=>by
     rw [cell_of_row w b _ ys t' (0,0) hh];simp [hj]
    cases ag with
    |true =>
     have hrun:=a5p (P:=P) (w:=w) (b:=b) (o:=off) (n:=n) (f:=fun j=>ys.getD (off+j) undef) (fun j hj=>cell j (by simp at hx;omega))
     refine ⟨.agg ((List.range n).map fun j=>ys.getD (off+j) undef).toArray,?_,?_⟩
     ·simp [b6c,hy,asAddr,loadVar,a2q P w hu,hag,a1n P w hi,hsz,hrun]
     ·refine .agg _ _ (by simp;simp at hx;omega) fun j u y h1 h2=>?_
      obtain ⟨h3,hj⟩:=a0w _ _ _ _ h1
      rw [List.getElem?_drop] at h3
      simp only [List.getElem?_map,Option.map_eq_some_iff] at h3
      obtain ⟨u',h4,rfl⟩:=h3
      simp [hj] at h2
      subst h2
      have hlt:off+j < ys.size:=by rw [hys];exact (List.getElem?_eq_some_iff.1 h4).1
      exact f6e hE 3 (hr _ _ _ h4 (by simp [hlt]))
    |false =>
     have hlt:off < ys.size:=by simp at hx;omega
     have h0:=cell 0 (by omega)
     simp only [Nat.add_zero] at h0
     refine ⟨ys.getD off undef,?_,?_⟩
     ·simp [b6c,hy,asAddr,loadVar,a2q P w hu,hag,h0]
     ·have h1:cs[off]? = some (cs[off]'(by omega)):=List.getElem?_eq_getElem _
      simp only [List.getElem?_map,h1,Option.map_some,Option.getD_some]
      exact f6e hE 3 (hr _ _ _ h1 (by simp [hlt]))
   ·exact hx.elim
  ·exact hx.elim
theorem c8m {P:Program} {G:Gh} {s:St} {a:Act} {w:World} (hs:Sim G s a w) {fn:Func} {rs:List ResultVar} (hrs:fn.results=rs.toArray) (hl:rs.length≤3) {r:V}
  (h:a1z P G.lo rs r .ret s):∃ y,(results fn a.tmps).run P w=.ok y w∧R0 w G.Of r y:=by
 obtain ⟨E,hE⟩:=hs
 match rs,hl with
 |[],_ =>
  refine ⟨.tuple #[],by simp [a4t,hrs],h.2 _ _ _ (.tup _ _ rfl (by simp))⟩
 |[x],_ =>
  obtain ⟨y,hy,hr⟩:=b0s hE x h.1
  refine ⟨y,?_,h.2 _ _ _ hr⟩
  simp [a4t,hrs,hy]
 |[x,x'],_ =>
  obtain ⟨y,hy,hr⟩:=b0s hE x (h.1 x (by simp))
  obtain ⟨y',hy',hr'⟩:=b0s hE x' (h.1 x' (by simp))
  refine ⟨.tuple #[y,y'],?_,h.2 _ _ _ (.tup _ _ (by simp) fun j u z h1 h2=>?_)⟩
  ·simp [a4t,hrs,hy,hy']
  ·match j with
   |0=>simp at h1 h2;subst h1;subst h2;exact hr
   |1=>simp at h1 h2;subst h1;subst h2;exact hr'
   |j+2=>simp at h2
 |[x,x',x''],_ =>
  obtain ⟨y,hy,hr⟩:=b0s hE x (h.1 x (by simp))
  obtain ⟨y',hy',hr'⟩:=b0s hE x' (h.1 x' (by simp))
  obtain ⟨y'',hy'',hr''⟩:=b0s hE x'' (h.1 x'' (by simp))
  refine ⟨.tuple #[y,y',y''],?_,h.2 _ _ _ (.tup _ _ (by simp) fun j u z h1 h2=>?_)⟩
  ·simp [a4t,hrs,hy,hy',hy'']
  ·match j with
   |0=>simp at h1 h2;subst h1;subst h2;exact hr
   |1=>simp at h1 h2;subst h1;subst h2;exact hr'
   |2=>simp at h1 h2;subst h1;subst h2;exact hr''
   |j+3=>simp at h2
 |_::_::_::_::_,h=>simp at h
def a3n:Nat→List V→List (Nat×V)
 |_,[]=>[]
 |i,x::r=>(i,x)::a3n (i+1) r
theorem b1t:∀ (l:List V) (k i:Nat),lkV (a3n k l) i=if k≤i then (l[i - k]?).getD .any else .any:=by
 intro l
 induction l with
 |nil=>intro k i;simp [a3n,lkV]
 |cons x r ih =>
  intro k i
  simp only [a3n,lkV,ih]
  by_cases h1:k=i
  ·subst h1;simp
  ·rw [if_neg h1]
   by_cases h2:k≤i
   ·have e:i - k=(i - (k+1))+1:=by omega
    rw [if_pos (by omega),if_pos h2,e];simp
   ·rw [if_neg (by omega),if_neg h2]
theorem b2k (ys:Array Value) (n i:Nat):(ys++Array.replicate n undef).getD i undef=ys.getD i undef:=by
 simp only [Array.getD_eq_getD_getElem?]
 by_cases h:i < ys.size
 ·rw [Array.getElem?_append_left h]
 ·rw [Array.getElem?_append_right (by omega),Array.getElem?_eq_none (by omega:ys.size≤i)]
  simp only [Array.getElem?_replicate]
  split<;>rfl
def c8p (ow:Nat→Bool) (w:World) (O:Nat→Prop) (n lo:Nat) (hlo:lo≤w.heap.size) (hO:OKO w O):Gh :=
 { w0:=w,Of:=O,n:=n,M:=fun _=>False,ow:=ow,lo:=lo,hlo:=hlo,hM:=fun _ h=>h.elim,hgl:=hO.gl.weak fun _ h=>h.elim id False.elim }
theorem c5v (ow:Nat→Bool) {fn:Func} {as:List V} {ys:Array Value} {w:World} {O:Nat→Prop} {lo:Nat} (hlo:lo≤w.heap.size) (hO:OKO w O) (ha:ArgsR w O as ys) (hn:as.length≤fn.ntmps) :
  Sim (c8p ow w O fn.ntmps lo hlo hO) (St.of (a3n 0 as) []) { tmps:=ys++Array.replicate (fn.ntmps - ys.size) undef,defers:=[] } w:=by
 have hsz:=ha.1
 refine ⟨fun _=>none,⟨fun i=>?_,DefOK.nil,by simp [c8p];omega,fun id ob h=>(by cases h),fun id h=>(h rfl).elim,fun id id' ob ob' b x x' h=>(by cases h),fun id ob b x h=>(by cases h),hO.lt,Nat.le_refl _,rfl,rfl,rfl,fun _ _ _=>rfl,fun id h=>(by cases h),trivial⟩⟩
 show R w _ _ (lkV (a3n 0 as) i) _
 rw [b1t,b2k]
 simp only [Nat.zero_le,if_true,Nat.sub_zero]
 cases h:as[i]? with
 |none=>exact .r0 _ _ (.any _)
 |some u =>
  have hlt:i < ys.size:=by rw [hsz];exact (List.getElem?_eq_some_iff.1 h).1
  have hy:ys.getD i undef=ys[i]:=by simp [hlt]
  rw [hy]
  refine .r0 _ _ ((ha.2 i u ys[i] h (by simp [hlt])).mono (Nat.le_refl _) (fun b hb _ hb'=>?_) fun _ _ _=>rfl)
  rcases hb' with hb'|⟨id,ob,K,C,hid,_⟩
  ·exact hb hb'
  ·cases hid
def b1r (w:World):List Nat→World
 |[]=>w
 |r::rs=>b1r (w.putObj r (.deferred none)) rs
theorem c4v:∀ (rs:List Nat) (w:World),(b1r w rs).heap.size=w.heap.size∧(b1r w rs).os=w.os∧(b1r w rs).tape=w.tape∧(b1r w rs).output=w.output∧∀ b,b ∉ rs→(b1r w rs).heap[b]? = w.heap[b]?:=by
 intro rs
 induction rs with
 |nil=>intro w;exact ⟨rfl,rfl,rfl,rfl,fun _ _=>rfl⟩
 |cons r rs ih =>
  intro w
  obtain ⟨h1,h2,h3,h4,h5⟩:=ih (w.putObj r (.deferred none))
  refine ⟨h1.trans World.putObj_size,h2,h3,h4,fun b hb=>?_⟩
  simp only [List.mem_cons,not_or] at hb
  exact (h5 b hb.2).trans (World.putObj_heap_other hb.1)
theorem d3c {P:Program} {fn:Func} {tmps:Array Value} {R:Ending→World→Prop} {u:FrameMode} (hu:u≠.run):∀ (rs:List Nat) (w:World),rs.Nodup→(∀ r ∈ rs,w.heap[r]? = some (.deferred (some []))) →
  ∀ {ds:List Deferred},LeavesInM Fence.wide 0 P fn tmps R ds u (b1r w rs)→LeavesInM Fence.wide 0 P fn tmps R (rs.map mark++ds) u w:=by
 intro rs
 induction rs with
 |nil=>intro w _ _ ds h;exact h
 |cons r rs ih =>
  intro w hn h ds hl
  rw [List.nodup_cons] at hn
  refine ⟨hu,.inl ⟨r,_,rfl,run_takeDeferred (h r (by simp)),ih _ hn.2 (fun r' hr'=>?_) hl⟩⟩
  rw [World.putObj_heap_other (fun e:r'=r=>hn.1 (by rw [← e];exact hr'))]
  exact h r' (by simp [hr'])
theorem b9u {P:Program} {G:Gh} {s:St} {a:Act} {w:World} {fn:Func} {R:Ending→World→Prop} {u:FrameMode} {E:Env} (hu:u≠.run) (hs:SimE G s a w E) (hOf:∀ b,G.Of b→b < G.w0.heap.size)
  (h:∀ w'',SimE G s { tmps:=a.tmps,defers:=G.df } w'' E→LeavesInM Fence.wide 0 P fn a.tmps R G.df u w''):LeavesInM Fence.wide 0 P fn a.tmps R a.defers u w:=by
 obtain ⟨rs,e,hn,hrs⟩:=hs.defers
 rw [e]
 refine d3c hu rs w hn (fun r hr=>(hrs r hr).1) (h _ ?_)
 obtain ⟨h1,h2,h3,h4,h5⟩:=c4v rs w
 have hc:∀ b,a4g w b→b ∉ rs:=by
  rintro b ⟨cs,t,f,hb⟩ hr
  rw [(hrs b hr).1] at hb;cases hb
 refine ⟨fun i=>(hs.fr i).monoC (by omega) (fun _ h _=>h) (fun b _ _ hb=>h5 b (hc b hb)) fun _ _ h=>h,⟨[],rfl,.nil,by simp⟩,hs.size,fun id ob hob=>?_,hs.us,hs.inj,fun id ob b x k1 k2=>?_,fun b hb=>by rw [h1];exact hs.old b hb,by rw [h1];exact hs.grow,
  h2.trans hs.os,h3.trans hs.tape,h4.trans hs.output,fun b k1 k2=>(h5 b fun hr=>by have:=(hrs b hr).2.1;omega).trans (hs.keep b k1 k2),hs.base,G.hZi _ _ (by omega) (fun b hb=>h5 b fun hr=>by have:=(hrs b hr).2.1;have:=hOf b hb;omega) hs.zi⟩
 ·obtain ⟨b,K,C,k1,k2⟩:=hs.hp id ob hob
  refine ⟨b,K,C,k1,k2.monoC (by omega) (fun _ h _=>h) (fun b _ _ hb=>h5 b (hc b hb)) (fun _ _ h=>h) fun b' hb'=>h5 b' fun hr=>?_⟩
  subst hb'
  exact (hrs b' hr).2.2.1 ⟨id,ob,K,C,hob,k1⟩
 ·obtain ⟨q1,q2,q3⟩:=hs.fresh id ob b x k1 k2
  exact ⟨q1,q2,by rw [h1];exact q3⟩
theorem b0l {P:Program} {G:Gh} {s:St} {a:Act} {w:World} {fn:Func} {R:Ending→World→Prop} {u:FrameMode} {E:Env} (hu:u≠.run) (hs:SimE G s a w E) (hOf:∀ b,G.Of b→b < G.w0.heap.size)
  (h:∀ w'',SimE G s { tmps:=a.tmps,defers:=[] } w'' E→LeavesIn Fence.wide 0 P fn a.tmps R [] u w'') (hd:G.df=[]:=by rfl):LeavesInM Fence.wide 0 P fn a.tmps R a.defers u w :=
 b9u hu hs hOf (by rw [hd];exact h)
theorem a6i {P:Program} {f:FuncId} {fn:Func} {c:Code} {args:Array Value} {w:World} {R:Ending→World→Prop} {G:Gh} (hG:G.rd=none) (hf:P.funcs[f]? = some fn) (hb:fn.body=some c)
  (h:c.wpIn G.F 0 P (bodyPostM Fence.wide 0 P fn R) { tmps:=args++Array.replicate (fn.ntmps - args.size) undef,defers:=[] } w):Calls P f args w R:=by
 have e:G.F=Fence.wide:=by unfold Gh.F;rw [hG];cases G.nomk<;>rfl
 rw [e] at h
 exact (callsIn_wide (n:=0)).1 (callsIn_of_wp_marks hf hb trivial h)
theorem d0n {ow:Nat→Bool} {P:Program} {fn:Func} {w w':World} {O:Nat→Prop} {lo m:Nat} (hlo:lo≤w.heap.size) (hO:OKO w O) {rs:List ResultVar} (hrs:fn.results=rs.toArray) (hl:rs.length≤3) {r:V} {s:St} {a:Act}
  (hs:Sim (c8p ow w O m lo hlo hO) s a w') (hq:a1z P lo rs r .ret s) :
  LeavesInM Fence.wide 0 P fn a.tmps (fun e w'=>∃ y,e=.returned y∧R0 w' O r y∧Below w.heap.size w w') a.defers .returning w':=by
 obtain ⟨E,hE⟩:=hs
 refine b0l (by simp) hE hO.lt fun w'' hs=>?_
 obtain ⟨y,hy,hr⟩:=c8m ⟨E,hs⟩ hrs hl hq
 exact ⟨y,hy,y,rfl,hr,⟨hs.os,hs.tape,hs.output,hs.grow,fun k hk=>hs.keep k hk (fun h=>h)⟩⟩
theorem a8j (ow:Nat→Bool) {P:Program} {f:FuncId} {fn:Func} {c:Code} {as:List V} {r:Nat→V} {rs:List ResultVar} {m:Nat} (hf:P.funcs[f]? = some fn) (hm:fn.ntmps=m) (hb:fn.body=some c) (hname:(fn.name == "runtime.NumGoroutine")=false)
  (hn:as.length≤m) (hrs:fn.results=rs.toArray) (hl:rs.length≤3)
  (h:∀ (G:Gh),G.n=m→G.ow=ow→G.nm=[]→G.rd=none→(∀ x ∈ as,Bd x)→vc P G c (St.of (a3n 0 as) []) (a1z P G.lo rs (r G.lo))):a0l P f as r:=by
 subst hm
 refine ⟨⟨fn,hf,hname,by simp [hb]⟩,fun lo w O ys hlo hO ha=>?_⟩
 refine a6i (G:=(c8p ow w O fn.ntmps lo hlo hO)) rfl hf hb ?_
 refine wpIn_mono (a0d c _ _ (h (c8p ow w O fn.ntmps lo hlo hO) rfl rfl rfl rfl ha.bd) _ w (c5v ow hlo hO ha hn)) ?_
 rintro e a w' ⟨s,hq,hs⟩
 have fin:=d0n (P:=P) (ow:=ow) (m:=fn.ntmps) hlo hO hrs hl (r:=r lo) hs
 cases e with
 |normal=>exact fin hq
 |ret=>exact fin hq
 |exit=>exact hq.elim
 |goto=>exact hq.elim
 |panic=>exact hq.elim
 |outgrown=>exact hq.elim
theorem d5q (ow:Nat→Bool) {P:Program} {f:FuncId} {fn:Func} {c:Code} {as:List V} {r:Nat→V} {rs:List ResultVar} {m:Nat} (hf:P.funcs[f]? = some fn) (hm:fn.ntmps=m) (hb:fn.body=some c) (hname:(fn.name == "runtime.NumGoroutine")=false)
  (hn:as.length≤m) (hrs:fn.results=rs.toArray) (hl:rs.length≤3)
  (h:∀ (G:Gh),G.n=m→G.ow=ow→G.nm=[]→(∀ x ∈ as,Bd x)→vc P G c (St.of (a3n 0 as) []) (a1z P G.lo rs (r G.lo))):a0l P f as r:=by
 exact a8j ow hf hm hb hname hn hrs hl fun G h1 h2 h3 _ h4=>h G h1 h2 h3 h4
theorem b7r {P:Program} {a:Act} {w:World} {o:Oper} {x:Operand} {l:List Operand} {ts:Array TypeId} (ho:o.op=.call ⟨.value x,l.toArray,ts⟩) {k:FuncId} (hk:b9j P k) {cap:Array Value} (hx:a.eval x=.func (.func k) #[] cap)
  {K:Act→World→Prop} {Q:Exit→Act→World→Prop} {R:Ending→World→Prop} (hc:Calls P k ((l.map a.eval).toArray++cap) w R)
  (h:∀ e w',R e w'→∃ y,e=.returned y∧K (a.put o.dst y) w') {G:Gh}:o.wpIn G.F 0 P a w K Q:=by
 refine a0z (fun c hc=>by rw [ho] at hc;cases hc) ?_
 obtain ⟨fn,hf,hn,hb⟩:=hk
 unfold Oper.wp
 have hrun:(execOp a.eval o).run P w=.ok (.enter k ((l.map a.eval).toArray++cap)) w:=by
  have hn':fn.name≠"runtime.NumGoroutine":=by simpa using hn
  have hb':fn.body≠none:=by intro h;simp [h] at hb
  simp [execOp,ho,resolve,Deferred.ofValue,hx,invoke,callFunc,hf,hb',hn']
 rw [hrun,Oper.upon_enter]
 refine hc.mono fun e w' hr=>?_
 obtain ⟨y,rfl,hK⟩:=h e w' hr
 exact hK
def c3l (P:Program) (G:Gh) (f:V) (as:List V) (r:V):Prop:=∃ (k:FuncId) (cap as':List V) (r':Nat→V),f=.fn (.func k) cap∧r=r' G.lo∧a0l P k as' r'∧Subs (as++cap) as'∧b0t (as++cap)=true
theorem c5f {P:Program} {G:Gh} {o:Oper} {s:St} {Q:Exit→St→Prop} {rest:St→Prop} {f:V} {as:List V} {r:V} (hg:c3l P G f as r)
  (hc:chk G.n o.dst) (h:rest (a3z s o.dst r)):a3k P G o s Q rest f as:=by
 obtain ⟨k,cap,as',r',rfl,rfl,hp,hs,hpure⟩:=hg
 rintro x l ts ho hx rfl a w ⟨E,hE⟩
 obtain ⟨ys,hy,hsz,hr⟩:=R.fn_inv (a1t hE hx.symm)
 obtain ⟨hlen,hsub⟩:=hs.spec
 refine b7r ho hp.1 hy (hp.2 G.lo w (OT G s E) _ (Nat.le_trans G.hlo hE.grow) (f8f hE) ⟨?_,fun j u y h1 h2=>?_⟩) ?_
 ·simp at hlen ⊢;omega
 ·obtain ⟨u0,h3,h4⟩:=hsub j u h1
  refine h4 _ _ _ ?_
  have hp0:=a7x hpure j u0 h3
  by_cases hj:j < l.length
  ·rw [List.getElem?_append_left (by simpa using hj)] at h3
   rw [Array.getElem?_append_left (by simpa using hj)] at h2
   simp only [List.getElem?_map,Option.map_eq_some_iff] at h3
   obtain ⟨z,hz,rfl⟩:=h3
   simp [hz] at h2
   subst h2
   exact (b6t hE z).pureV hp0
  ·rw [List.getElem?_append_right (by simpa using hj)] at h3
   rw [Array.getElem?_append_right (by simpa using hj)] at h2
   simp at h3 h2
   exact (hr _ _ _ h3 h2).pureV hp0
 ·rintro e w' ⟨y,rfl,hry,hb⟩
  exact ⟨y,rfl,_,h,E,(hE.below hb).put (a2s hc) (.r0 _ _ hry)⟩
theorem d5r {P:Program} {G:Gh} {k:FuncId} {cap as as':List V} {r:Nat→V} (hp:a0l P k as' r) (hs:Subs (as++cap) as') (hpure:b0t (as++cap)=true):c3l P G (.fn (.func k) cap) as (r G.lo) :=
 ⟨k,cap,as',r,rfl,rfl,hp,hs,hpure⟩
theorem a1p {P:Program} {G:Gh} {o:Oper} {s:St} {Q:Exit→St→Prop} {rest:St→Prop} {k:FuncId} {cap as:List V} {as':List V} {r:Nat→V} (hp:a0l P k as' r)
  (hs:Subs (as++cap) as') (hpure:b0t (as++cap)=true) (hc:chk G.n o.dst) (h:rest (a3z s o.dst (r G.lo))) :
  a3k P G o s Q rest (.fn (.func k) cap) as:=c5f ⟨k,cap,as',r,rfl,rfl,hp,hs,hpure⟩ hc h
theorem Subs.fp {l l':List V} (h:Subs l l'):Sub (.fp l) (.fp l'):=by
 intro w O y hy
 obtain ⟨hlen,hsub⟩:=h.spec
 cases hy with
 |fp _ b o g hO hb hs hr =>
  refine .fp _ b o g hO hb (fun j u' hj=>?_) (fun j u' hj=>?_)
  ·obtain ⟨u,h1,_⟩:=hsub j u' hj
   exact hs j u h1
  ·obtain ⟨u,h1,h2⟩:=hsub j u' hj
   exact h2 _ _ _ (hr j u h1)
theorem b1q {G:Gh} {s s':St} (p:Nat→Bool) (h:Ent G (frz p G.lo s) s'):Ent G s s':=fun a w hs=>h a w (c1j p a w hs)
theorem g4b (l:List (Nat×List V)) (g:Nat):lkG l g=.any∨∃ cs,lkG l g=.fp cs:=by
 induction l with
 |nil=>exact .inl rfl
 |cons p r ih =>
  unfold lkG
  split
  ·exact .inr ⟨_,rfl⟩
  ·exact ih
theorem f2e {p:Nat→Bool} {lo:Nat} {s:St} (x:Operand):ev (frz p lo s) x=vwF p lo s 4 (ev s x):=by
 cases x with
 |global g =>
  show lkG c2n g=vwF p lo s 4 (lkG c2n g)
  rcases g4b c2n g with h|⟨cs,h⟩<;>rw [h]<;>rfl
 |_=>rfl
theorem a2x {P:Program} {G:Gh} {o:Oper} {s:St} {Q:Exit→St→Prop} {rest:St→Prop} {f:V} {as:List V} (p:Nat→Bool)
  (h:a3k P G o (frz p G.lo s) Q rest (vwF p G.lo s 4 f) (as.map (vwF p G.lo s 4))):a3k P G o s Q rest f as:=by
 rintro x l ts ho rfl rfl a w hs
 exact h x l ts ho (f2e x).symm (by rw [List.map_map];exact List.map_congr_left fun y _=>(f2e y).symm) a w (c1j p _ _ hs)
theorem a4m {P:Program} {G:Gh} {c:Code} {s s':St} {Q:Exit→St→Prop} (he:Ent G s s') (h:SemC P G c s' Q):SemC P G c s Q:=fun a w hs=>h a w (he a w hs)
theorem e9i {P:Program} {G:Gh} {c:Code} {s:St} {Q:Exit→St→Prop} (p:Nat→Bool) (h:SemC P G c (frz p G.lo s) Q):SemC P G c s Q:=a4m (c1j p) h
theorem Sub.trans {x y z:V} (h:Sub x y) (h':Sub y z):Sub x z:=fun w O v hv=>h' w O v (h w O v hv)
theorem Sub.lst {lo lo' sz:Nat} {l l':List (List V)} (hlo:lo'≤lo) (hn:l'.length=l.length) (h:∀ (i:Nat) (x x':List V),l[i]? = some x→l'[i]? = some x'→Subs x x'):Sub (.lst lo sz l) (.lst lo' sz l'):=by
 intro w O y hy
 have get:∀ (i:Nat) (x':List V),l'[i]? = some x'→∃ x,l[i]? = some x∧Subs x x':=fun i x' hi=>by
  have hlt:i < l.length:=by have:=(List.getElem?_eq_some_iff.1 hi).1;omega
  exact ⟨l[i],List.getElem?_eq_getElem hlt,h i _ x' (List.getElem?_eq_getElem hlt) hi⟩
 cases hy with
 |lst _ _ _ a n cap b o g hlo' hn' hc hl ha hs hz hr =>
  have ne:l'≠[]→l≠[]:=fun h1 h2=>h1 (by subst h2;simp at hn;exact hn)
  refine .lst _ _ _ a n cap b o g (fun h=>Nat.le_trans hlo (hlo' (ne h))) (by omega) (by omega) (by omega) (fun h=>ha (ne h)) (fun i x' j u h1 h2=>?_) (fun x' hx'=>?_) (fun i x' j u h1 h2=>?_)
  ·obtain ⟨x,h3,h4⟩:=get i x' h1
   obtain ⟨u0,h5,_⟩:=h4.spec.2 j u h2
   exact hs i x j u0 h3 h5
  ·obtain ⟨i,hi,rfl⟩:=List.getElem_of_mem hx'
   obtain ⟨x,h3,h4⟩:=get i _ (List.getElem?_eq_getElem hi)
   rw [← h4.spec.1]
   exact hz x (List.mem_of_getElem? h3)
  ·obtain ⟨x,h3,h4⟩:=get i x' h1
   obtain ⟨u0,h5,h6⟩:=h4.spec.2 j u h2
   exact h6 _ _ _ (hr i x j u0 h3 h5)
theorem Sub.lo {lo lo' sz:Nat} {l:List (List V)} (hlo:lo'≤lo):Sub (.lst lo sz l) (.lst lo' sz l) :=
 .lst hlo rfl fun i x x' h1 h2=>by rw [h1] at h2;cases h2;exact .refl _
end Pm
namespace Pm
open Go Go.RowKit
theorem a0a {P:Program} {G:Gh} {o:Oper} {s:St} {Q:Exit→St→Prop} {rest:St→Prop} {k:FuncId} {cap as as':List V} {r:Nat→V} (hp:a0l P k as' r) (h:rest (a3z s o.dst (r G.lo)))
  (hs:Subs (as++cap) as':=by first|exact Subs.refl _|(repeat' (first|exact Subs.nil|exact Sub.refl _|exact Sub.lo (Nat.zero_le _)|refine Subs.cons ?_ ?_|refine Subs.agg ?_|refine Subs.fp ?_|refine Subs.tup ?_|refine Sub.map (Nat.zero_le _) (fun _=>?_)))) (hpure:b0t (as++cap)=true:=by first|rfl|simp [b0t,b3o,pureV,pure0, *]) (hc:chk G.n o.dst:=by simp [chk,hG]):a3k P G o s Q rest (.fn (.func k) cap) as:=a1p hp hs hpure hc h
end Pm
namespace Pm
open Go Go.RowKit
theorem a0b (ow:Nat→Bool) {P:Program} {f:FuncId} {fn:Func} {c:Code} {as:List V} {r:Nat→V} {rs:List ResultVar} {m:Nat} (hf:P.funcs[f]? = some fn) (hm:fn.ntmps=m) (hb:fn.body=some c) (hrs:fn.results=rs.toArray)
  (h:∀ (G:Gh),G.n=m→G.ow=ow→G.nm=[]→(∀ x ∈ as,Bd x)→vc P G c (St.of (a3n 0 as) []) (a1z P G.lo rs (r G.lo))) (hname:(fn.name == "runtime.NumGoroutine")=false:=by kernel_rfl) (hn:as.length≤m:=by simp) (hl:rs.length≤3:=by decide):a0l P f as r:=d5q ow hf hm hb hname hn hrs hl h
end Pm
end Go.Proofs.YtmjhfccbbfpppaaGreatDoor
