import Derived.RecoverIn
import Derived.Laws.RangeString
import Derived.LaidSub
import Derived.Maps.RangeRun
import Derived.Lib.Bytealg
import Derived.Test.YtmjhfccbbfpppaaGreatDoorQB07
import Derived.Test.YtmjhfccbbfpppaaGreatDoorQB08
import Derived.Test.YtmjhfccbbfpppaaGreatDoorQB16
namespace Go.Proofs.YtmjhfccbbfpppaaGreatDoor
open Go Go.RowKit
set_option linter.unusedSimpArgs false
set_option linter.unusedVariables false
namespace Pm
def g4m (P:Program) (t:TypeId):Bool:=match P.underlying t with
 |some (.interface _)=>false
 |some _=>true
 |none=>false
theorem d2i {P:Program} {t:TypeId} (h:g4m P t=true):∃ d,P.underlying t=some d∧∀ m,d≠.interface m:=by
 unfold g4m at h
 split at h
 ·cases h
 ·rename_i d hn hu;exact ⟨d,hu,fun m e=>hn m e⟩
 ·cases h
theorem b8y {P:Program} {G:Gh} {s:St} {o:Oper} {Q:Exit→St→Prop} {rest:St→Prop} {x:Operand} {t:TypeId} {v:Value} (ho:o.op=.panic x) (hx:ev s x=.v (.iface t v))
  (h:Q (.panic [{ v:=.iface t v,recovered:=false }]) s):SemStep P G o s Q rest:=by
 rintro a w ⟨E,hE⟩
 refine a0z (fun c hc=>by rw [ho] at hc;cases hc) ?_
 have hv:=R.v_inv (a1t hE hx)
 unfold Oper.wp
 have hrun:(execOp a.eval o).run P w=.halt (.panic (.iface t v)) w:=by rw [show (execOp a.eval o)=(Functor.map Next.value (Instr.panic (a.eval x))) from by simp only [execOp,ho];rfl,hv];rfl
 rw [hrun]
 exact ⟨s,h,E,hE⟩
theorem e2b {w:World} {O:Nat→Prop} {E:Env} {ys:List Value} {y:Value} (h:R w O E (.agg (ys.map .v)) y):y=.agg ys.toArray:=by
 obtain ⟨zs,rfl,hsz,hr⟩:=R.agg_inv h
 congr 1
 apply Array.ext
 ·simpa using hsz
 ·intro i h1 h2
  have hi:i < ys.length:=by simpa using h2
  have:=R.v_inv (hr i (.v ys[i]) zs[i] (by simp [hi]) (by simp [h1]))
  simpa using this
theorem d2t {P:Program} {G:Gh} {s:St} {o:Oper} {Q:Exit→St→Prop} {rest:St→Prop} {x:Operand} {t:TypeId} (ys:List Value) (ho:o.op=.makeInterface t x) (hx:ev s x=.agg (ys.map .v)) (hu:g4m P t=true) (hc:chk G.n o.dst)
  (h:rest (a3z s o.dst (.v (.iface t (.agg ys.toArray))))):SemStep P G o s Q rest:=by
 intro a w hs
 refine a0z (fun c hc=>by rw [ho] at hc;cases hc) ?_
 refine a0j (a2s hc) (fun a w E hE=>?_) a w hs _ _ fun a' w' hs'=>⟨_,h,hs'⟩
 have hv:=e2b (a1t hE hx)
 obtain ⟨d,hd,hn⟩:=d2i hu
 refine ⟨.iface t (.agg ys.toArray),?_,.r0 _ _ (.v _)⟩
 cases d<;>first|(simp [execOp,ho,hv,Instr.makeInterface,a0o P w hd];done)|exact (hn _ rfl).elim
theorem e0i {P:Program} {G:Gh} {s:St} {o:Oper} {Q:Exit→St→Prop} {rest:St→Prop} {x:Operand} {t xt:TypeId} (ys:List Value) (ho:o.op=.typeAssert x xt t true) (hx:ev s x=.v (.iface t (.agg ys.toArray))) (hu:g4m P t=true) (hc:chk G.n o.dst)
  (h:rest (a3z s o.dst (.tup [.agg (ys.map .v),.v (.bool true)]))):SemStep P G o s Q rest:=by
 intro a w hs
 refine a0z (fun c hc=>by rw [ho] at hc;cases hc) ?_
 refine a0j (a2s hc) (fun a w E hE=>?_) a w hs _ _ fun a' w' hs'=>⟨_,h,hs'⟩
 have hv:=R.v_inv (a1t hE hx)
 obtain ⟨d,hd,hn⟩:=d2i hu
 refine ⟨.tuple #[.agg ys.toArray,.bool true],?_,.tup _ _ rfl fun j u y h1 h2=>?_⟩
 ·cases d<;>first|(simp [execOp,ho,hv,Instr.typeAssert,a0o P w hd];done)|exact (hn _ rfl).elim
 ·match j with
  |0 =>
   simp at h1 h2;subst h1;subst h2
   refine .agg _ _ (by simp) fun j u y h1 h2=>?_
   simp only [List.getElem?_map,Option.map_eq_some_iff] at h1
   obtain ⟨z,hz,rfl⟩:=h1
   simp [hz] at h2
   subst h2
   exact .r0 _ _ (.v _)
  |1=>simp at h1 h2;subst h1;subst h2;exact .r0 _ _ (.v _)
  |j+2=>simp at h1
def g7l (P:Program) (t:TypeId):Bool:=match P.underlying t with
 |some (.interface _)=>true
 |_=>false
theorem e9h {P:Program} {t:TypeId} (h:g7l P t=true):∃ m,P.underlying t=some (.interface m):=by
 unfold g7l at h
 split at h
 ·rename_i m hm;exact ⟨m,hm⟩
 ·cases h
theorem a7m {P:Program} {G:Gh} {s:St} {o:Oper} {Q:Exit→St→Prop} {rest:St→Prop} {x:Operand} {t t':TypeId} (u:Value) (b:Bool) (op:BinOp) (hop:op=.eql∧b=(match u with|.nilIface=>true|_=>false)∨op=.neq∧b=(match u with|.nilIface=>false|_=>true))
  (ho:o.op=.binOp op t x (.const .nilIface) t') (hx:ev s x=.v u) (hif:u=.nilIface∨∃ tt z,u=.iface tt z) (hu:g7l P t=true) (hc:chk G.n o.dst)
  (h:rest (a3z s o.dst (.v (.bool b)))):SemStep P G o s Q rest:=by
 intro a w hs
 refine a0z (fun c hc=>by rw [ho] at hc;cases hc) ?_
 refine a0j (a2s hc) (fun a w E hE=>?_) a w hs _ _ fun a' w' hs'=>⟨_,h,hs'⟩
 have hv:=R.v_inv (a1t hE hx)
 obtain ⟨m,hm⟩:=e9h hu
 have e1:a.eval (.const .nilIface)=.nilIface:=rfl
 have h2:(Op.equal t u .nilIface).run P w=.ok (match u with|.nilIface=>true|_=>false) w:=a5b fun d=>by rcases hif with rfl|⟨tt,z,rfl⟩<;>simp [Op.equalIn,a0o P w hm]
 refine ⟨.bool b,?_,.r0 _ _ (.v _)⟩
 rcases hop with ⟨rfl,hb⟩|⟨rfl,hb⟩<;>rcases hif with rfl|⟨tt,z,rfl⟩<;>subst hb
 ·have h1:(eqGuard .eql t x (.const .nilIface) .nilIface .nilIface).run P w=.ok () w:=by unfold eqGuard;simp
  have h3:binOp .eql t .nilIface .nilIface=(do pure (.bool (← Op.equal t .nilIface .nilIface))):=rfl
  simp [execOp,ho,hv,e1,h1,h2,h3]
 ·have h1:(eqGuard .eql t x (.const .nilIface) (.iface tt z) .nilIface).run P w=.ok () w:=by unfold eqGuard;simp
  have h3:binOp .eql t (.iface tt z) .nilIface=(do pure (.bool (← Op.equal t (.iface tt z) .nilIface))):=rfl
  simp [execOp,ho,hv,e1,h1,h2,h3]
 ·have h1:(eqGuard .neq t x (.const .nilIface) .nilIface .nilIface).run P w=.ok () w:=by unfold eqGuard;simp
  have h3:binOp .neq t .nilIface .nilIface=(do pure (.bool (!(← Op.equal t .nilIface .nilIface)))):=rfl
  simp [execOp,ho,hv,e1,h1,h2,h3]
 ·have h1:(eqGuard .neq t x (.const .nilIface) (.iface tt z) .nilIface).run P w=.ok () w:=by unfold eqGuard;simp
  have h3:binOp .neq t (.iface tt z) .nilIface=(do pure (.bool (!(← Op.equal t (.iface tt z) .nilIface)))):=rfl
  simp [execOp,ho,hv,e1,h1,h2,h3]
end Pm
open Go
namespace Pm
theorem YI.now {P:Program} {G:Gh} {l lam:Nat} {L:Loop} {fl:List (Nat×V)} {ps:List Nat} {mv:List (Nat×Nat)} {asg body:Code} {n:Nat} (h:YI P G l lam L fl ps mv asg body n)
  {s:St} {a:Act} {w:World} {E:Env} (hE:SimE G s a w E) (i:Nat):R w (OT G s E) E (lkV fl i) (L.tmps.getD i undef):=by
 obtain ⟨O1,hO1,hfl⟩:=h.fr
 obtain ⟨g1,g2⟩:=hfl i
 refine g2.nms hE.grow (fun b hb hlt hot=>?_) (fun b hb hlt hc=>hE.keep b hlt (hO1 b hb).2) (fun id hid r hr=>?_) 4 g1
 ·obtain ⟨q1,q2⟩:=hO1 b hb
  rcases hot with hot|⟨id,ob,K,C,k1,k2⟩
  ·exact q1 hot
  ·rcases (hE.fresh id ob b _ k1 k2).1 with k3|k3
   ·omega
   ·exact q2 k3
 ·obtain ⟨r',k1,k2⟩:=hE.base id hid
  rw [hr] at k1;cases k1;exact k2
theorem b3q {s s':St} {h:List (Nat×OB)} {N:Nat→Bool} (e:∀ id,N id=true→s'.hp id=s.hp id∧s'.us id=s.us id):∀ {ν:List (Nat×Nat)},(tgt ν).all N=true→b4n s h ν→b4n s' h ν
 |[],_,_=>trivial
 |(i,j)::r,hh,⟨h1,h2,h3,h4⟩=>by
  have h':N j=true∧(tgt r).all N=true:=by simpa [tgt,List.all_cons] using hh
  exact ⟨h1,(e j h'.1).2.trans h2,h3,b3q e h'.2 h4⟩
theorem c2f {P:Program} {G:Gh} {N:Nat→Bool} {M:Bool} {s:St} {k:FuncId} {cap as as':List V} {r:Nat→V} {h':Nat→List (Nat×OB)} (ν:List (Nat×Nat)) (hp:Tri P k as' [] (fun lo=>.ret (r lo) (h' lo)))
  (hA:okL (okN (toR []) 4) as' (as++cap)) (hM:M=true) (hN:(tgt ν).all N=true) (hN2:((upT [] ν (h' G.lo)).map (·.1)).all N=true) (hnew:b4n s [] ν) (hall:a3o (toR (a1r (h' G.lo) []++ν)) (h' G.lo)) (hu:a5t (h' G.lo)) :
  CallE P G N M (.fn (.func k) cap) as s (b8b (toR (a1r (h' G.lo) []++ν)) 4 (r G.lo),upT [] ν (h' G.lo)):=by
 refine ⟨fun h=>(by rw [hM] at h;cases h),fun p hp=>List.all_eq_true.1 hN2 _ (List.mem_map_of_mem hp),?_⟩
 intro s' e o Q rest hc hr
 refine b5j [] ν hp hA trivial ?_ ?_ trivial hc ⟨b3q e hN hnew,hall,hu,hr⟩
 ·simp [a2m,toR]
 ·simp [a0n,toR]
theorem YI.code {P:Program} {G:Gh} {l lam:Nat} {L:Loop} {fl:List (Nat×V)} {ps:List Nat} {mv:List (Nat×Nat)} {asg body body':Code} {n:Nat} (h:YI P G l lam L fl ps mv asg body n) (e:body=body'):YI P G l lam L fl ps mv asg body' n:=e ▸ h
end Pm
open Go Go.RowKit
namespace Pm
def f2y (P:Program) (f:FuncId) (as:List V) (r:Nat→V→Prop):Prop:=b9j P f∧∀ (lo:Nat) (w:World) (O:Nat→Prop) (ys:Array Value),lo≤w.heap.size→OKO w O→ArgsR w O as ys →
 Calls P f ys w fun e w'=>∃ y v,e=.returned y∧r lo v∧R0 w' O v y∧Below w.heap.size w w'
theorem d9i {P:Program} {G:Gh} {o:Oper} {s:St} {Q:Exit→St→Prop} {rest:St→Prop} {k:FuncId} {cap as as':List V} {r:Nat→V→Prop} (hp:f2y P k as' r)
  (hs:Subs (as++cap) as') (hpure:b0t (as++cap)=true) (hc:chk G.n o.dst) (h:∀ v,r G.lo v→rest (a3z s o.dst v)):a3k P G o s Q rest (.fn (.func k) cap) as:=by
 rintro x l ts ho hx rfl a w ⟨E,hE⟩
 obtain ⟨ys,hy,hsz,hr⟩:=R.fn_inv (a1t hE hx.symm)
 obtain ⟨hlen,hsub⟩:=hs.spec
 refine b7r ho hp.1 hy (hp.2 G.lo w (OT G s E) _ (Nat.le_trans G.hlo hE.grow) (f8f hE) ⟨?_,fun j u y h1 h2=>?_⟩) ?_
 ·simp at hlen ⊢;omega
 ·obtain ⟨u0,h3,h4⟩:=hsub j u h1
  refine h4 _ _ _ ?_
  have hp0:=a7x hpure j u0 h3
  by_cases hj:j < l.length
  ·rw [List.getElem?_append_left (by simpa using hj)] at h3
   rw [Array.getElem?_append_left (by simpa using hj)] at h2
   simp only [List.getElem?_map,Option.map_eq_some_iff] at h3
   obtain ⟨z,hz,rfl⟩:=h3
   simp [hz] at h2
   subst h2
   exact (b6t hE z).pureV hp0
  ·rw [List.getElem?_append_right (by simpa using hj)] at h3
   rw [Array.getElem?_append_right (by simpa using hj)] at h2
   simp at h3 h2
   exact (hr _ _ _ h3 h2).pureV hp0
 ·rintro e w' ⟨y,v,rfl,hv,hry,hb⟩
  exact ⟨y,rfl,_,h v hv,E,(hE.below hb).put (a2s hc) (.r0 _ _ hry)⟩
theorem f5y {ρ:List (Nat×Nat)} {i j:Nat} (hm:(i,j) ∈ ρ):j ∈ tgt ρ:=by
 induction ρ with
 |nil=>cases hm
 |cons q t ih =>
  obtain ⟨u,v⟩:=q
  rcases List.mem_cons.1 hm with h1|h1
  ·cases h1;exact List.mem_cons_self ..
  ·exact List.mem_cons_of_mem _ (ih h1)
theorem d4q {ρ:List (Nat×Nat)} {s s':St} {h:List (Nat×OB)} {N:Nat→Bool} (hN:(tgt ρ).all N=true) (e:∀ id,N id=true→s'.hp id=s.hp id∧s'.us id=s.us id) (hH:a1d (toR ρ) s h):a1d (toR ρ) s' h :=
 b8q (fun i j hj=>by
  obtain ⟨j',e1,hm⟩:=a6f hj
  cases e1
  exact (e j (List.all_eq_true.1 hN j (f5y hm))).1) hH
theorem a7b {P:Program} {G:Gh} {N:Nat→Bool} {M:Bool} {s:St} {k:FuncId} {cap as as':List V} {h:List (Nat×OB)} {r:Nat→V} {h':Nat→List (Nat×OB)} (ρ ν:List (Nat×Nat)) (hp:Tri P k as' h (fun lo=>.ret (r lo) (h' lo)))
  (hA:okL (okN (toR ρ) 4) as' (as++cap)) (hH:a1d (toR ρ) s h) (hi:a2m (toR ρ)) (hcv:a0n h (toR ρ)) (hq:a7f ρ) (hM:M=true) (hNρ:(tgt ρ).all N=true) (hN:(tgt ν).all N=true) (hN2:((upT ρ ν (h' (loT h G.lo))).map (·.1)).all N=true)
  (hnew:b4n s h ν) (hall:a3o (toR (a1r (h' (loT h G.lo)) ρ++ν)) (h' (loT h G.lo))) (hu:a5t (h' (loT h G.lo))) :
  CallE P G N M (.fn (.func k) cap) as s (b8b (toR (a1r (h' (loT h G.lo)) ρ++ν)) 4 (r (loT h G.lo)),upT ρ ν (h' (loT h G.lo))):=by
 refine ⟨fun h=>(by rw [hM] at h;cases h),fun p hp=>List.all_eq_true.1 hN2 _ (List.mem_map_of_mem hp),?_⟩
 intro s' e o Q rest hc hr
 exact b5j ρ ν hp hA (d4q hNρ e hH) hi hcv hq hc ⟨b3q e hN hnew,hall,hu,hr⟩
def f9p (P:Program) (f:FuncId) (as:List V) (h:List (Nat×OB)) (u u':FrameMode) (h':List (Nat×OB)):Prop :=
 b9j P f∧∀ (lo:Nat) (w:World) (O:Nat→Prop) (E:Env) (ys:Array Value) (hlo:LoOK w (fun b=>O b∨d1v h E b) lo),ys.size=as.length →
  SimE (b0z d6o w O ys.size h E (a0x h) lo hlo) (St.of (a3n 0 as) h) ⟨ys,[]⟩ w E→CallsDIn Fence.wide 0 P f ys u w fun e u2 w'=>u2=u'∧Left w O h E lo hlo (.ret (.tup []) h') e w'
theorem bare {ow:Nat→Bool} {w:World} {O:Nat→Prop} {n:Nat} {h:List (Nat×OB)} {E0:Env} {nm:List Nat} {lo:Nat} {hlo:LoOK w (fun b=>O b∨d1v h E0 b) lo} {df:List Deferred} {nomk:Bool} {rd:Option Nat} {hnk}
  {s:St} {a:Act} {w':World} {E:Env} (hs:SimE { b0z ow w O n h E0 nm lo hlo with df:=df,nomk:=nomk,rd:=rd,hnk:=hnk } s a w' E):SimE (b0z ow w O n h E0 nm lo hlo) s ⟨a.tmps,[]⟩ w' E :=
 ⟨hs.fr,DefOK.nil,hs.size,hs.hp,hs.us,hs.inj,hs.fresh,hs.old,hs.grow,hs.os,hs.tape,hs.output,hs.keep,hs.base,hs.zi⟩
theorem g8e {ow:Nat→Bool} {w:World} {O:Nat→Prop} {n:Nat} {h:List (Nat×OB)} {E0:Env} {nm:List Nat} {lo:Nat} {hlo:LoOK w (fun b=>O b∨d1v h E0 b) lo} {df:List Deferred} {nomk:Bool} {rd:Option Nat} {hnk}
  {s:St} {a:Act} {w':World} {E:Env} (hs:SimE (b0z ow w O n h E0 nm lo hlo) s ⟨a.tmps,[]⟩ w' E) (hd:a.defers=df):SimE { b0z ow w O n h E0 nm lo hlo with df:=df,nomk:=nomk,rd:=rd,hnk:=hnk } s a w' E :=
 ⟨hs.fr,⟨[],by rw [hd];rfl,.nil,by simp⟩,hs.size,hs.hp,hs.us,hs.inj,hs.fresh,hs.old,hs.grow,hs.os,hs.tape,hs.output,hs.keep,hs.base,hs.zi⟩
theorem e5k {w:World} {O:Nat→Prop} {h0:List (Nat×OB)} {E:Env} {lo:Nat} {hlo:LoOK w (fun b=>O b∨d1v h0 E b) lo} {ys:Array Value} {as:List V} {m:Nat} (hm:ys.size≤m) (hE:SimE (b0z d6o w O ys.size h0 E (a0x h0) lo hlo) (St.of (a3n 0 as) h0) ⟨ys,[]⟩ w E) (ow:Nat→Bool) :
  SimE (b0z ow w O m h0 E (a0x h0) lo hlo) (St.of (a3n 0 as) h0) ⟨ys++Array.replicate (m - ys.size) undef,[]⟩ w E :=
 ⟨fun i=>by rw [b2k];exact hE.fr i,DefOK.nil,by simp [b0z];omega,hE.hp,hE.us,hE.inj,hE.fresh,hE.old,hE.grow,hE.os,hE.tape,hE.output,hE.keep,hE.base,trivial⟩
theorem c0e (u u':FrameMode) (val:Value) {P:Program} {f:FuncId} {fn:Func} {c2:Code} {id d:Nat} {o:Oper} {as:List V} {h0 h':List (Nat×OB)} {m:Nat} (hf:P.funcs[f]? = some fn) (hm:fn.ntmps=m) (hb:fn.body=some (.seq (.region id #[o] false) c2)) (hname:(fn.name == "runtime.NumGoroutine")=false)
  (hn:as.length≤m) (hrs:fn.results=#[]) (ho:o.op=.call ⟨.builtin .recover,#[],#[]⟩) (hod:o.dst=some d) (hog:o.guard=none) (hdm:d < m)
  (hrec:∀ (c₀:Frame) (cs:List Frame),c₀.mode=u→match recoverD (c₀::cs) with|some (v,cs')=>v=val∧cs'={ c₀ with mode:=u' }::cs|none=>val=.nilIface∧u'=u)
  (h:∀ (G:Gh),G.n=m→G.ow=(fun _=>false)→G.nm=a0x h0→vc P G c2 ((St.of (a3n 0 as) h0).set d (.v val)) (a6a P h0 [] (.ret (.tup []) h'))):f9p P f as h0 u u' h':=by
 subst hm
 refine ⟨⟨fn,hf,hname,by simp [hb]⟩,fun lo w O E ys hlo hsz hE=>?_⟩
 refine callsDIn_of_wpSIn hf hb trivial fun c₀ cs hu=>?_
 refine wpSIn_seq (wpSIn_region ?_)
 have hS:=e5k (m:=fn.ntmps) (by omega) hE (fun _=>false)
 generalize ha:({ tmps:=ys++Array.replicate (fn.ntmps - ys.size) undef,defers:=[] }:Act)=a at hS
 have had:a.defers=[]:=by rw [← ha]
 have hrun:(execOp a.eval o).run P w=.ok .recover w:=by simp [execOp,ho,resolve,invoke,builtin]
 have hab:∀ g,o.about P w a.eval=some g→Fence.wide.fn g:=fun _ _=>trivial
 have hwant:Region.wanted o (yielded #[o] a.tmps)=true:=by simp [Region.wanted,hog]
 have key:∀ cs',cs'={ c₀ with mode:=u' }::cs→c2.wpSIn Fence.wide 0 P (bodyPostS P fn c₀ cs fun e u2 w'=>u2=u'∧Left w O h0 E lo hlo (.ret (.tup []) h') e w') (a.put o.dst val) cs' w:=by
  rintro _ rfl
  refine wpSIn_of_wpIn rfl ?_
  let G:Gh:={ b0z (fun _=>false) w O fn.ntmps h0 E (a0x h0) lo hlo with nomk:=true,rd:=some 0,hnk:=fun _=>by simp }
  have hG:G.F=Fence.wide:=rfl
  have hs:Sim G ((St.of (a3n 0 as) h0).set d (.v val)) (a.put o.dst val) w:=by
   have h1:SimE G (St.of (a3n 0 as) h0) a w E:=g8e (a:=a) (by rw [← had];exact hS) had
   have:=h1.put (dst:=o.dst) (x:=.v val) (y:=val) (fun d' hd'=>by rw [hod] at hd';cases hd';exact hdm) (.r0 _ _ (.v _))
   rw [hod] at this ⊢
   exact ⟨E,this⟩
  have hw:=a0d c2 _ _ (h G rfl rfl rfl) _ w hs
  rw [hG] at hw
  refine wpIn_mono hw ?_
  rintro e a1 w1 ⟨s,hq,E1,hE1⟩
  have hd1:a1.defers=[]:=by
   obtain ⟨rs,e1,_,e3⟩:=hE1.defers
   cases rs with
   |nil=>exact e1
   |cons r rs=>have:=(e3 r (by simp)).2.2.2;cases this
  have fin:a6a P h0 [] (.ret (.tup []) h') .ret s→bodyPostS P fn c₀ cs (fun e u2 w'=>u2=u'∧Left w O h0 E lo hlo (.ret (.tup []) h') e w') .ret a1 ({ c₀ with mode:=u' }::cs) w1:=fun hq=>by
   obtain ⟨hres,ρ,h1,h2,h3,h4,h5⟩:=hq
   have hE2:=bare hE1
   obtain ⟨y,hy,hr⟩:=c0z hE2 hrs (by simp) hres
   refine ⟨hd1,u',rfl,y,hy,rfl,y,a6t ρ E1,rfl,c2d (ys:=#[y]) rfl hE2 h2 h3 h4 h5 fun i=>?_⟩
   cases i with
   |zero=>exact ren 4 h1 hr
   |succ i=>exact .r0 _ _ (.any _)
  cases e with
  |normal=>exact fin hq
  |ret=>exact fin hq
  |exit=>exact hq.elim
  |goto=>exact hq.elim
  |panic ch=>exact hq.elim
  |outgrown=>exact hq.elim
 have hr:=hrec c₀ cs hu
 show wpOpsSIn Fence.wide 0 P #[o] _ [0] a (c₀::cs) w
 have hl:#[o][0]? = some o:=rfl
 simp only [wpOpsSIn,hl,hwant,if_true,hrun]
 refine ⟨hab,?_⟩
 cases hx:recoverD (c₀::cs) with
 |some p =>
  obtain ⟨v,cs'⟩:=p
  rw [hx] at hr
  obtain ⟨rfl,hcs⟩:=hr
  exact key cs' hcs
 |none =>
  rw [hx] at hr
  obtain ⟨rfl,rfl⟩:=hr
  exact key _ (by rw [← hu])
def e9j (P:Program) (h0:List (Nat×OB)) (p:Nat) (x:Value) (wV:Int→Value) (K:Int→Prop) (out:Out):Exit→St→Prop
 |.normal,s|.ret,s=>s.hget p=some (.box [.v x])∧a6a P h0 [] out .ret (s.hset p (some (.box [.v x])))
 |.panic ch,s=>∃ k,K k∧ch=[{ v:=wV k,recovered:=false }]∧s.hget p=some (.box [.v x])∧a6a P h0 [] out .ret (s.hset p (some (.box [.v (.int .i64 k)])))
 |_,_=>False
theorem f9a {P:Program} {h0:List (Nat×OB)} {p:Nat} {x:Value} {wV:Int→Value} {K:Int→Prop} {out:Out} (s:St):e9j P h0 p x wV K out .normal s=(s.hget p=some (.box [.v x])∧a6a P h0 [] out .ret (s.hset p (some (.box [.v x])))):=rfl
theorem f8q {P:Program} {h0:List (Nat×OB)} {p:Nat} {x:Value} {wV:Int→Value} {K:Int→Prop} {out:Out} (s:St):e9j P h0 p x wV K out .ret s=(s.hget p=some (.box [.v x])∧a6a P h0 [] out .ret (s.hset p (some (.box [.v x])))):=rfl
theorem f7v {P:Program} {h0:List (Nat×OB)} {p:Nat} {x:Value} {wV:Int→Value} {K:Int→Prop} {out:Out} (ch:List PanicEntry) (s:St):e9j P h0 p x wV K out (.panic ch) s=(∃ k,K k∧ch=[{ v:=wV k,recovered:=false }]∧s.hget p=some (.box [.v x])∧a6a P h0 [] out .ret (s.hset p (some (.box [.v (.int .i64 k)])))):=rfl
theorem b9v (ow:Nat→Bool) {P:Program} {f told:FuncId} {fn:Func} {c2:Code} {id p:Nat} {o:Oper} {ts:Array TypeId} {x:Value} {as:List V} {h0:List (Nat×OB)} {post:Nat→Out} {m:Nat} (wV:Int→Value) (K:Int→Prop) (hf:P.funcs[f]? = some fn) (hm:fn.ntmps=m) (hb:fn.body=some (.seq (.region id #[o] false) c2)) (hname:(fn.name == "runtime.NumGoroutine")=false)
  (hn:as.length≤m) (hrs:fn.results=#[]) (ho:o.op=.defer ⟨.value (.func told),#[.tmp 0],ts⟩) (hod:o.dst=none) (hog:o.guard=none) (has:as[0]? = some (.ptr p 0)) (hp0:p ∈ a0x h0)
  (hret:f9p P told [.ptr 0 0] [(0,.box [.v x])] .returning .returning [(0,.box [.v x])])
  (hpan:∀ k,K k→f9p P told [.ptr 0 0] [(0,.box [.v x])] (.panicking [{ v:=wV k,recovered:=false }]) (.panicking [{ v:=wV k,recovered:=true }]) [(0,.box [.v (.int .i64 k)])])
  (h:∀ (G:Gh),G.n=m→G.ow=ow→G.nm=a0x h0→G.rd=none→vc P G c2 (St.of (a3n 0 as) h0) (e9j P h0 p x wV K (post G.lo))):Tri P f as h0 post:=by
 subst hm
 refine ⟨⟨fn,hf,hname,by simp [hb]⟩,fun lo w O E ys hlo hsz hE=>?_⟩
 have hS:=e5k (m:=fn.ntmps) (by omega) hE ow
 generalize ha:({ tmps:=ys++Array.replicate (fn.ntmps - ys.size) undef,defers:=[] }:Act)=a at hS
 have had:a.defers=[]:=by rw [← ha]
 obtain ⟨y0,hy0⟩:∃ y0,y0=a.eval (.tmp 0):=⟨_,rfl⟩
 have hnk0:false=true→(none:Option Nat)≠none:=fun h=>nomatch h
 let d:Deferred:={ target:=.fn (.func told) #[],args:=#[y0] }
 let G:Gh:={ b0z ow w O fn.ntmps h0 E (a0x h0) lo hlo with df:=[d] }
 have hGF:G.F=Fence.wide:=rfl
 refine a6i (G:=G) rfl hf hb ?_
 rw [ha]
 have hy0R:∃ b K0 C0,E p=some (some b,K0,C0)∧y0=.pointer (some ⟨b,0,none⟩):=by
  have h1:R w (OT (b0z ow w O fn.ntmps h0 E (a0x h0) lo hlo) (St.of (a3n 0 as) h0) E) E (.ptr p 0) y0:=by
   have:=b6t hS (.tmp 0)
   rw [← hy0] at this
   have e:ev (St.of (a3n 0 as) h0) (.tmp 0)=.ptr p 0:=by
    show lkV (a3n 0 as) 0=_
    rw [b1t];simp [has]
   rwa [e] at this
  exact R.ptr_inv h1
 have hrun:(execOp a.eval o).run P w=.ok (.defer d) w:=by
  have e1:a.eval (.func told)=.func (.func told) #[] #[]:=rfl
  simp [execOp,ho,resolve,Deferred.ofValue,e1,d,hy0]
 have hOf:∀ b,G.Of b→b < G.w0.heap.size:=fun b hb=>hE.old b hb
 have tail:∀ (u u':FrameMode) (x':Value) (s:St) (a1:Act) (w1:World) (E1:Env),u≠.run→settle u'=.returning→SimE G s a1 w1 E1→s.hget p=some (.box [.v x])→f9p P told [.ptr 0 0] [(0,.box [.v x])] u u' [(0,.box [.v x'])] →
   a6a P h0 [] (post (loT h0 lo)) .ret (s.hset p (some (.box [.v x'])))→LeavesInM Fence.wide 0 P fn a1.tmps (Left w O h0 E lo hlo (post (loT h0 lo))) a1.defers u w1:=by
  intro u u' x' s a1 w1 E1 hu hset hE1 hx ht hq
  refine b9u hu hE1 hOf fun w2 hE2=>?_
  have hB:SimE (b0z ow w O fn.ntmps h0 E (a0x h0) lo hlo) s ⟨a1.tmps,[]⟩ w2 E1:=⟨hE2.fr,DefOK.nil,hE2.size,hE2.hp,hE2.us,hE2.inj,hE2.fresh,hE2.old,hE2.grow,hE2.os,hE2.tape,hE2.output,hE2.keep,hE2.base,hE2.zi⟩
  obtain ⟨b0,K0,C0,hEp,hy⟩:=hy0R
  obtain ⟨r,hr1,hr2⟩:=hB.base p hp0
  rw [show (b0z ow w O fn.ntmps h0 E (a0x h0) lo hlo).E0=E from rfl,hEp] at hr1
  cases hr1
  have hx':s.hp p=some (.box [.v x]):=hx
  have hH:a1d (toR [(0,p)]) s [(0,.box [.v x])]:=by simp [a1d,a0r,toR,lkR,a1l,St.hget,hx',okL,okN]
  have hi:a2m (toR [(0,p)]):=by simp [a2m,toR,apart]
  have hc:a0n [(0,OB.box [.v x])] (toR [(0,p)]):=by simp [a0n,toR,usH]
  have hen:=c5d hB hH hi hc (as:=[.ptr 0 0]) (ys:=#[y0]) (fun j u hj=>by
   match j with
   |0=>simp at hj;subst hj;rw [hy];exact .ptr 0 0 b0 K0 C0 (by simp [a6t,toR,lkR,hr2])
   |j+1=>simp at hj) (e3t hB hH)
  have hcall:=ht.2 _ w2 _ _ #[y0] (e3t hB hH) rfl hen
  refine ⟨hu,.inr ⟨(fun h=>by cases h),.func told,#[],told,#[y0],rfl,?_,fun _ _=>trivial,hcall.mono ?_⟩⟩
  ·obtain ⟨fnT,hfT,hnT,hbT⟩:=ht.1
   have hn':fnT.name≠"runtime.NumGoroutine":=by simpa using hnT
   have hb':fnT.body≠none:=by intro h;simp [h] at hbT
   simp [d,invoke,callFunc,hfT,hb',hn']
  ·rintro e u2 w3 ⟨rfl,y,E3,rfl,h1⟩
   show LeavesInM Fence.wide 0 P fn a1.tmps _ [] (settle u2) w3
   rw [hset]
   obtain ⟨E4,b1,_⟩:=b6d hB hH hc h1 (by simp [a7f,lkR,toR]) (ν:=[]) trivial (by simp [a5t,usH])
   have e:a1h s (upT [(0,p)] [] [(0,.box [.v x'])])=s.hset p (some (.box [.v x'])):=by simp [upT,a3q,a6j,a1r,usH,toR,lkR,e9p,b8b,a1h]
   rw [e] at b1
   cases hp:post (loT h0 lo) with
   |pan x h'=>rw [hp] at hq;exact hq.elim
   |ret r h' =>
    rw [hp] at hq
    obtain ⟨hres,ρ,h1,h2,h3,h4,h5⟩:=hq
    obtain ⟨y,hy,hr⟩:=c0z b1 hrs (by simp) hres
    refine ⟨y,hy,y,a6t ρ E4,rfl,c2d (ys:=#[y]) rfl b1 h2 h3 h4 h5 fun i=>?_⟩
    cases i with
    |zero=>exact ren 4 h1 hr
    |succ i=>exact .r0 _ _ (.any _)
 refine wpIn_seq (wpIn_region_list ?_)
 have hS2:SimE G (St.of (a3n 0 as) h0) ({ a with defers:=d::a.defers }.put o.dst undef) w E:=by
  rw [hod]
  exact g8e (df:=[d]) (nomk:=false) (rd:=none) (hnk:=hnk0) (a:={ a with defers:=d::a.defers }) (by rw [← had];exact hS) (by show d::a.defers=_;rw [had])
 have hw:=a0d c2 _ _ (h G rfl rfl rfl rfl) _ w ⟨E,hS2⟩
 show wpListIn G.F 0 P #[o] _ [o] a w
 refine wpListIn_plain hog fun K' hK'=>?_
 refine ⟨fun _ _=>trivial,?_⟩
 have hsem:o.semAt G.F.round a.eval=execOp a.eval o:=by rw [hGF];exact Oper.semAt_none _ _
 rw [hsem,hrun,Oper.uponIn_defer]
 refine hK' _ _ ?_
 show Exit.then _ _ .normal _ _
 refine wpIn_mono hw ?_
 rintro e a1 w1 ⟨s,hq,E1,hE1⟩
 cases e with
 |normal=>exact tail .returning .returning x s a1 w1 E1 (by simp) rfl hE1 hq.1 hret hq.2
 |ret=>exact tail .returning .returning x s a1 w1 E1 (by simp) rfl hE1 hq.1 hret hq.2
 |exit=>exact hq.elim
 |goto=>exact hq.elim
 |panic ch =>
  obtain ⟨k,hk,rfl,q1,q2⟩:=hq
  exact tail _ _ (.int .i64 k) s a1 w1 E1 (by simp) rfl hE1 q1 (hpan k hk) q2
 |outgrown=>exact hq.elim
end Pm
open Go Go.RowKit
namespace Pm
theorem c7s {P:Program} {G:Gh} {s:St} {o:Oper} {Q:Exit→St→Prop} {rest:St→Prop} {d t:Nat} {x:Operand} {str:ByteArray}
  (ho:o.op=.range t x) (hx:ev s x=.v (.string str)) (ht:tk P t=.str) (hd:o.dst=some d) (hdn:d < G.n) (hu:s.used d=false)
  (hr:rest (app s o.dst (.ptr d 0,[(d,some (.obj (.stringIter str 0)))]))):SemStep P G o s Q rest:=by
 intro a w hs
 refine a0z (fun c hc=>by rw [ho] at hc;cases hc) ?_
 refine a2f (x:=.ptr d 0) (l:=[(d,some (.obj (.stringIter str 0)))]) (fun d' h=>by rw [hd] at h;cases h;exact hdn) (fun a w E hs=>?_) a w hs _ _ fun a' w' hs'=>⟨_,hr,hs'⟩
 have hxv:=R.v_inv (a1t hs hx)
 obtain ⟨E',h1,h2,h3,h4⟩:=hs.new (id:=d) hu (o:=.stringIter str 0) (ob:=.obj (.stringIter str 0)) (K:=0) (C:=0) (fun O' E' hO hE=>⟨w.heap.size,rfl,a4l w _,rfl,rfl⟩)
 refine ⟨.pointer (some ⟨w.heap.size,0,none⟩),_,E',?_,h1,.ptr d 0 _ _ _ h2⟩
 simp [execOp,ho,hxv,Instr.range,a0o P w (b1v ht)]
theorem e1r {P:Program} {w:World} {b pos:Nat} {str:ByteArray} {ty:TypeId} (hb:w.heap[b]? = some (.stringIter str pos)) (h:pos < str.size) :
  (Instr.next (.pointer (some ⟨b,0,none⟩)) true ty).run P w=.ok (.tuple #[.bool true,.int .i64 pos,.int .i32 (Utf8.decode str pos).1]) { w with heap:=w.heap.setIfInBounds b (.stringIter str (pos+(Utf8.decode str pos).2)) }:=by
 simp only [Instr.next,getObj,setObj,Sem.run_bind,Sem.run,hb,Result.andThen,h,if_true]
 simp [goInt,Sem.run,hb]
theorem d5t {P:Program} {G:Gh} {s:St} {o:Oper} {Q:Exit→St→Prop} {rest:St→Prop} {d k pos:Nat} {x:Operand} {str:ByteArray}
  (ho:o.op=.next x true) (hx:ev s x=.ptr k 0) (hob:s.hget k=some (.obj (.stringIter str pos))) (hd:o.dst=some d) (hdn:d < G.n) (hp:pos < str.size)
  (hr:rest (app s o.dst (.tup [.v (.bool true),.v (.int .i64 pos),.v (.int .i32 (Utf8.decode str pos).1)],[(k,some (.obj (.stringIter str (pos+(Utf8.decode str pos).2))))]))):SemStep P G o s Q rest:=by
 intro a w hs
 refine a0z (fun c hc=>by rw [ho] at hc;cases hc) ?_
 refine a2f (x:=.tup [.v (.bool true),.v (.int .i64 pos),.v (.int .i32 (Utf8.decode str pos).1)]) (l:=[(k,some (.obj (.stringIter str (pos+(Utf8.decode str pos).2))))]) (fun d' h=>by rw [hd] at h;cases h;exact hdn) (fun a w E hs=>?_) a w hs _ _ fun a' w' hs'=>⟨_,hr,hs'⟩
 obtain ⟨b,K,C,hE,hxv⟩:=R.ptr_inv (a1t hs hx)
 obtain ⟨b1,K1,C1,hE1,hh⟩:=hs.hp k _ hob
 rw [hE] at hE1
 cases hE1
 obtain ⟨b2,e2,hbk,rfl,rfl⟩:=hh
 cases e2
 obtain ⟨f1,f2,f3⟩:=a5z (o':=.stringIter str (pos+(Utf8.decode str pos).2)) hbk
 refine ⟨.tuple #[.bool true,.int .i64 pos,.int .i32 (Utf8.decode str pos).1],{ w with heap:=w.heap.setIfInBounds b (.stringIter str (pos+(Utf8.decode str pos).2)) },E,?_,hs.write hob hE rfl rfl rfl f2 f3 fun O1 hO1=>⟨b,rfl,f1,rfl,rfl⟩,.r0 _ _ (.tup _ _ rfl fun j u y h1 h2=>?_)⟩
 ·simp only [execOp,ho,hxv,Sem.run_bind,e1r hbk hp,Result.andThen];rfl
 ·match j with
  |0=>simp at h1 h2;subst h1;subst h2;exact .v _
  |1=>simp at h1 h2;subst h1;subst h2;exact .v _
  |2=>simp at h1 h2;subst h1;subst h2;exact .v _
  |j+3=>simp at h1
theorem c0y (str:ByteArray) (pos:Nat) (h:pos < str.size) (ha:¬ (str[pos]'h).toNat < 128):128≤(Utf8.decode str pos).1:=by
 have e:str.get! (pos+0)=str[pos]'h:=by
  show str.get! pos=_
  simp [ByteArray.get!,getElem!_pos,h]
  rfl
 unfold Utf8.decode
 simp only [e,if_neg ha]
 split
 ·split<;>simp_all [Utf8.runeError]
 ·split
  ·split<;>simp_all [Utf8.runeError]<;>omega
  ·split
   ·split<;>simp_all [Utf8.runeError]<;>omega
   ·simp [Utf8.runeError]
theorem d8k {P:Program} {w:World} {b pos:Nat} {str:ByteArray} {ty:TypeId} (hb:w.heap[b]? = some (.stringIter str pos)) (h:¬ pos < str.size) :
  (Instr.next (.pointer (some ⟨b,0,none⟩)) true ty).run P w=.ok (.tuple #[.bool false]) w:=by
 simp [Instr.next,getObj,Sem.run,hb,h]
theorem e5m {P:Program} {G:Gh} {s:St} {o:Oper} {Q:Exit→St→Prop} {rest:St→Prop} {d k pos:Nat} {x:Operand} {str:ByteArray}
  (ho:o.op=.next x true) (hx:ev s x=.ptr k 0) (hob:s.hget k=some (.obj (.stringIter str pos))) (hd:o.dst=some d) (hdn:d < G.n) (hp:¬ pos < str.size)
  (hr:rest (a3z s o.dst (.tup [.v (.bool false)]))):SemStep P G o s Q rest:=by
 intro a w hs
 refine a0z (fun c hc=>by rw [ho] at hc;cases hc) ?_
 refine a0j (x:=.tup [.v (.bool false)]) (fun d' h=>by rw [hd] at h;cases h;exact hdn) (fun a w E hs=>⟨.tuple #[.bool false],?_,.r0 _ _ (.tup _ _ rfl fun j u y h1 h2=>?_)⟩) a w hs _ _ fun a' w' hs'=>⟨_,hr,hs'⟩
 ·obtain ⟨b,K,C,hE,hxv⟩:=R.ptr_inv (a1t hs hx)
  obtain ⟨b1,K1,C1,hE1,hh⟩:=hs.hp k _ hob
  rw [hE] at hE1
  cases hE1
  obtain ⟨b2,e2,hbk,rfl,rfl⟩:=hh
  cases e2
  simp only [execOp,ho,hxv,Sem.run_bind,d8k hbk hp,Result.andThen];rfl
 ·match j with
  |0=>simp at h1 h2;subst h1;subst h2;exact .v _
  |j+1=>simp at h1
end Pm
open Go Go.RowKit Go.ChangeShapes Go.WideShapes Go.ChangeAt
namespace Pm
theorem b4e {P:Program} {w:World} {n:String} {d:DataW Unit}:∀ {l:List (String×DataW Unit)} {ps:List MemPlace},DataW.LaidVars P w l ps→(n,d) ∈ l →
  ∃ g t cs fuel p,P.globalNamed n=some g∧(P.globals[g]?).map (·.type)=some t∧w.var? P n=some cs∧DataW.trod (fun _=>()) P w 0 (fun _=>true) false fuel t cs.toList=some (d,p)
 |[],ps,h,hm=>by cases hm
 |(n',d')::r,ps,h,hm=>by
  obtain ⟨g,t,cs,fuel,p,q,h1,h2,h3,h4,h5,_⟩:=h
  rcases List.mem_cons.1 hm with e|hm
  ·cases e
   exact ⟨g,t,cs,fuel,p,h1,h2,h3,h4⟩
  ·exact b4e h5 hm
theorem b5l {P:Program} {w:World} {l:List (String×DataW Unit)} {n:String} {d:DataW Unit} (h:laidMetH P l w) (hm:(n,d) ∈ l) (hn:d.handleName?.isNone=true) :
  ∃ g t cs fuel p,P.globalNamed n=some g∧(P.globals[g]?).map (·.type)=some t∧w.var? P n=some cs∧DataW.trod (fun _=>()) P w 0 (fun _=>true) false fuel t cs.toList=some (d,p):=by
 obtain ⟨⟨ps,h1,_⟩,_⟩:=laidMetH_iff.1 h
 exact b4e h1 (List.mem_filter.2 ⟨hm,hn⟩)
section
variable {H:Type} {enc:TypeId×Value→H} {P:Program} {w:World} {base:Nat} {spare:Nat→Bool} {held:Bool} {fuel:Nat} {t:TypeId} {cs:List Value} {x:DataW H×List MemPlace}
theorem f3y {n:Nat} {e:TypeId} (ht:P.underlying t=some (.array n e)) (hc:P.cellsOf e=1) (hct:P.cellsOf t=n) (h:DataW.trod enc P w base spare held fuel t cs=some x) :
  ∃ (xs:List (DataW H×List MemPlace)) (m:Nat),x.1=.agg (xs.map (·.1))∧cs.length=n∧xs.length=n∧∀ (i:Nat) (v:Value),cs[i]? = some v→∃ y,xs[i]? = some y∧DataW.trod enc P w base spare held m e [v]=some y:=by
 obtain ⟨xs,m,_,rfl,hl,hn,hel⟩:=DataW.trod_array ht h
 rw [hct] at hl
 refine ⟨xs,m,rfl,hl,hn,fun i v hi=>?_⟩
 obtain ⟨hlt,hv⟩:=List.getElem?_eq_some_iff.1 hi
 have:=hel i (by omega)
 rw [hc,Nat.mul_one,List.drop_eq_getElem_cons hlt,List.take_succ_cons,List.take_zero,hv] at this
 rw [List.getElem?_eq_getElem (by omega)] at this ⊢
 exact ⟨_,rfl,this⟩
theorem c6d {n:Nat} {e:TypeId} {α:Type} {f:α→Value} {g:α→DataW H} {zs:List α} (ht:P.underlying t=some (.array n e)) (hc:P.cellsOf e=1) (hct:P.cellsOf t=n) (h:DataW.trod enc P w base spare held fuel t cs=some x)
  (hx:x.1=.agg (zs.map g)) (hinv:∀ m v y a,DataW.trod enc P w base spare held m e [v]=some y→y.1=g a→v=f a):cs=zs.map f:=by
 obtain ⟨xs,m,e1,hl,hn,hel⟩:=f3y ht hc hct h
 rw [e1] at hx
 injection hx with hx
 refine List.ext_getElem? fun i=>?_
 have hq:=congrArg (fun l:List (DataW H)=>l[i]?) hx
 simp only [List.getElem?_map] at hq ⊢
 cases hi:cs[i]? with
 |none =>
  have h1:n≤i:=by have:=List.getElem?_eq_none_iff.1 hi;omega
  rw [List.getElem?_eq_none (by omega:xs.length≤i)] at hq
  cases hz:zs[i]? with
  |none=>rfl
  |some a=>rw [hz] at hq;cases hq
 |some v =>
  obtain ⟨y,hy,hv⟩:=hel i v hi
  rw [hy] at hq
  cases hz:zs[i]? with
  |none=>rw [hz] at hq;cases hq
  |some a =>
   rw [hz] at hq
   simp only [Option.map_some,Option.some.injEq] at hq ⊢
   exact hinv m v y a hv hq
theorem e6i {n:Nat} {e:TypeId} {k:IntKind} {zs:List Int} (ht:P.underlying t=some (.array n e)) (he:P.underlying e=some (.int k)) (hc:P.cellsOf e=1) (hct:P.cellsOf t=n) (h:DataW.trod enc P w base spare held fuel t cs=some x)
  (hx:x.1=.agg (zs.map fun z=>.lit (.int k z))):cs=zs.map (Value.int k) :=
 c6d ht hc hct h hx fun m v y a hv hy=>by
  obtain ⟨n',e1,e2,_⟩:=DataW.trod_int he hv
  rw [e2] at hy
  simp only [DataW.lit.injEq,Lit.int.injEq,true_and] at hy
  simp only [List.cons.injEq,and_true] at e1
  rw [e1,hy]
theorem e7f {n:Nat} {e:TypeId} {zs:List ByteArray} (ht:P.underlying t=some (.array n e)) (he:P.underlying e=some .string) (hc:P.cellsOf e=1) (hct:P.cellsOf t=n) (h:DataW.trod enc P w base spare held fuel t cs=some x)
  (hx:x.1=.agg (zs.map fun z=>.lit (.string z.data.toList))):cs=zs.map Value.string :=
 c6d ht hc hct h hx fun m v y a hv hy=>by
  obtain ⟨s,e1,e2,_⟩:=DataW.trod_string he hv
  rw [e2] at hy
  simp only [DataW.lit.injEq,Lit.string.injEq] at hy
  simp only [List.cons.injEq,and_true] at e1
  have hd:s.data=a.data:=Array.toList_inj.1 hy
  obtain ⟨ds⟩:=s
  obtain ⟨da⟩:=a
  simp only at hd
  rw [e1,hd]
end
theorem c1m {P:Program} {W:World} {g:Nat} {n:String} {cs:Array Value} {z:Array Value} {t0:TypeId} {φ:Array Value→Prop} (hs:W.ShapedOpen P) (hg:g < P.globals.size) (h0:(((begin P (fun _ _=>0) default).world.heap[g]?).bind Obj.row?)=some (z,t0))
  (hn:P.globalNamed n=some g) (hv:W.var? P n=some cs) (hl:1≤cs.size) (hφ:φ cs):KnAt W (fun _=>False) g φ:=by
 refine ⟨b7q hs hg h0 hn hv (by simpa using hl) (fun j u y h1 _=>?_),?_⟩
 ·cases j with
  |zero=>simp at h1;subst h1;exact .any _
  |succ j=>simp at h1
 ·obtain ⟨xs,hx,_⟩:=hs.1 g z t0 hg h0
  have hx':=hx
  simp only [World.var?,hn,Option.bind_some] at hv
  rw [hx'] at hv
  simp only [Option.some.injEq] at hv
  subst hv
  exact ⟨_,_,_,hx,hφ⟩
theorem f0w {P:Program} {W:World} {g:Nat} {n:String} {z:Array Value} {t0:TypeId} (hs:W.ShapedOpen P) (hg:g < P.globals.size) (h0:(((begin P (fun _ _=>0) default).world.heap[g]?).bind Obj.row?)=some (z,t0))
  (hn:P.globalNamed n=some g) (hz:z.size=1) (hb:P.buildable t0=true) (hct:P.cellTypes P.depth t0=some [t0]) (ht:P.underlying t0=some (.int .i64)):KnAt W (fun _=>False) g e6m:=by
 obtain ⟨xs,hx,hsz,hr⟩:=hs.1 g z t0 hg h0
 obtain ⟨ts,h1,h2,h3⟩:=hr hb
 rw [hct] at h1
 cases h1
 have hv:W.var? P n=some xs:=by
  simp only [World.var?,hn,Option.bind_some]
  rw [hx]
 refine c1m hs hg h0 hn hv (by omega) ?_
 obtain ⟨u,e1,e2⟩:=h3 0 (xs[0]'(by omega)) (by rw [Array.getElem?_eq_getElem])
 simp at e1
 subst e1
 unfold Cell.ok at e2
 rw [ht] at e2
 cases hc:xs[0]'(by omega)<;>rw [hc] at e2<;>simp only at e2
 rename_i k' n'
 obtain ⟨rfl,_⟩:=e2
 exact ⟨_,by rw [Array.getElem?_eq_getElem (by omega),hc]⟩
end Pm
open Go Go.RowKit Go.MapKept
namespace Pm
def f9o (m:List (Value×V)) (j:Nat) (v:V):List (Value×V):=match m[j]? with
 |some p=>m.set j (p.1,v)
 |none=>m
theorem SimE.mapSetO {G:Gh} {s:St} {a:Act} {w:World} {E:Env} (hs:SimE G s a w E) {id b:Nat} {ob ob':OB} {o o':Obj} (hob:s.hget id=some ob) (hE:E id=some (some b,0,0))
  (hh:w.heap[b]? = some o) (hHB:∀ (w':World) (O1:Nat→Prop),w'.heap.size=w.heap.size→(∀ k,k≠b→w'.heap[k]? = w.heap[k]?)→w'.heap[b]? = some o'→(∀ k,¬ OT G s E k→k < w.heap.size→¬ O1 k)→HB w' O1 E (some b) 0 0 ob') :
  SimE G (s.hset id (some ob')) a { w with heap:=w.heap.setIfInBounds b o' } E:=by
 obtain ⟨f1,f2,f3⟩:=a5z (o':=o') hh
 exact hs.write hob hE rfl rfl rfl f2 f3 fun O1 hO1=>hHB _ O1 f2 f3 f1 hO1
theorem b1z {P:Program} {G:Gh} {s:St} {o:Oper} {Q:Exit→St→Prop} {rest:St→Prop} {t d id:Nat} {x k:Operand} {kd:KD} {z:V} {kv:Value} {m:List (Value×V)}
  (ho:o.op=.mapEntry t x k) (hx:ev s x=.mp id) (hk:d3r (ev s k)=some kv) (hm:c1r P t=some (kd,z)) (hob:s.hget id=some (.map kd m)) (hkb:a8t kd kv=true) (hd:o.dst=some d) (hdn:d < G.n)
  (h0:lkM m kv=none→∀ bo:Int,rest (app s o.dst (.tup [z,.v (.int .i64 bo)],[(id,some (.mpe kd (m++[(kv,z)]) m.length bo))])))
  (h1:∀ (j:Nat) (p:Value×V),m[j]? = some p→p.1=kv→lkM m kv=some p.2→∀ bo:Int,rest (app s o.dst (.tup [p.2,.v (.int .i64 bo)],[(id,some (.mpe kd m j bo))]))):SemStep P G o s Q rest:=by
 intro a w hs
 obtain ⟨E,hs⟩:=hs
 refine a0z (fun c hc=>by rw [ho] at hc;cases hc) ?_
 obtain ⟨b,es,clock,hy,hE,hh,hsz,hrel,hst⟩:=c2z hs hob (a1t hs hx)
 obtain ⟨kt,et,zv,g1,g2,g3,rfl⟩:=b1x hm w
 have hkv:=d1i hk (b6t hs k)
 have hik:=a3w hkb
 unfold Oper.wp
 rcases b5h (w:=w) g2 hik es.toList m (by simpa using hsz) (fun i e p q1 q2=>⟨(hrel i e p (by simpa using q1) q2).1,(hrel i e p (by simpa using q1) q2).2.1⟩) with ⟨q1,q2,_,_,q5⟩|⟨j,e,p,q1,q2,q3,q4,q5,_,_⟩
 ·have hrun:(execOp a.eval o).run P w=.ok (.value (.tuple #[zv,goInt clock])) { w with heap:=w.heap.setIfInBounds b (.map (es.push { key:=kv,val:=zv,born:=clock }) (clock+1)) }:=by
   simp [execOp,ho,Instr.mapEntry,run_underlying g1,hy,hkv,MapKept.run_getObj_map hh,a4u g2 hik,q1,g3,MapKept.run_setObj_map _ hh,Result.andThen]
  rw [hrun]
  have hS:SimE G (s.hset id (some (.mpe kd (m++[(kv,vOf zv)]) m.length (clock:Int)))) a { w with heap:=w.heap.setIfInBounds b (.map (es.push { key:=kv,val:=zv,born:=clock }) (clock+1)) } E:=by
   refine hs.mapSetO hob hE hh fun w' O1 f2 f3 f1 hO1=>⟨b,_,_,rfl,f1,rfl,rfl,by simp [hsz],fun i e p r1 r2=>?_,stamped_push hst q5,⟨{ key:=kv,val:=zv,born:=clock },by rw [← hsz];simp,rfl⟩⟩
   rw [Array.getElem?_push] at r1
   by_cases hi:i=es.size
   ·rw [if_pos hi] at r1
    cases r1
    rw [hi,hsz] at r2
    simp at r2
    subst r2
    exact ⟨rfl,hik,f5s _ _ _ _⟩
   ·rw [if_neg hi] at r1
    have:i < m.length:=by have:=(Array.getElem?_eq_some_iff.1 r1).1;omega
    rw [List.getElem?_append_left this] at r2
    obtain ⟨u1,u2,u3⟩:=hrel i e p r1 r2
    exact ⟨u1,u2,u3.mono (by rw [f2];exact Nat.le_refl _) hO1 (fun k hk _=>f3 k (by rintro rfl;exact hk (.inr ⟨id,_,_,_,hob,hE⟩))) (fun _ _ h=>h)⟩
  refine ⟨_,h0 q2 (clock:Int),E,?_⟩
  refine SimE.put hS (fun d' h=>by rw [hd] at h;cases h;exact hdn) (.tup _ _ rfl fun i u y r1 r2=>?_)
  match i with
  |0=>simp at r1 r2;subst r1;subst r2;exact f5s _ _ _ _
  |1=>simp [goInt] at r1 r2;subst r1;subst r2;exact .r0 _ _ (.v _)
  |i+2=>simp at r1
 ·have hj:es[j]? = some e:=by simpa using q2
  have hpk:p.1=kv:=by rw [← (hrel j e p hj q3).1];exact q4
  have hrun:(execOp a.eval o).run P w=.ok (.value (.tuple #[e.val,goInt e.born])) { w with heap:=w.heap.setIfInBounds b (.map (es.modify j fun e=>{ e with key:=kv }) clock) }:=by
   simp [execOp,ho,Instr.mapEntry,run_underlying g1,hy,hkv,MapKept.run_getObj_map hh,a4u g2 hik,q1,hj,q4,b4j hik,MapKept.run_setObj_map _ hh,Result.andThen]
  rw [hrun]
  have hS:SimE G (s.hset id (some (.mpe kd m j (e.born:Int)))) a { w with heap:=w.heap.setIfInBounds b (.map (es.modify j fun e=>{ e with key:=kv }) clock) } E:=by
   refine hs.mapSetO hob hE hh fun w' O1 f2 f3 f1 hO1=>⟨b,_,_,rfl,f1,rfl,rfl,by simp [hsz],fun i e' p' r1 r2=>?_,stamped_modify hst _ _ (fun _ _=>rfl) (fun e' _ he'=>by rw [hj] at he';cases he';exact q4.symm),⟨{ e with key:=kv },by rw [Array.getElem?_modify,if_pos rfl,hj];rfl,rfl⟩⟩
   rw [Array.getElem?_modify] at r1
   have up:∀ {u:V} {y:Value},R w (OT G s E) E u y→R w' O1 E u y:=fun h=>h.mono (by rw [f2];exact Nat.le_refl _) hO1 (fun k hk _=>f3 k (by rintro rfl;exact hk (.inr ⟨id,_,_,_,hob,hE⟩))) (fun _ _ h=>h)
   by_cases hi:j=i
   ·subst hi
    rw [if_pos rfl,hj] at r1
    cases r1
    rw [q3] at r2
    cases r2
    obtain ⟨u1,u2,u3⟩:=hrel j e p hj q3
    exact ⟨hpk.symm,u2,up u3⟩
   ·rw [if_neg hi] at r1
    obtain ⟨u1,u2,u3⟩:=hrel i e' p' r1 r2
    exact ⟨u1,u2,up u3⟩
  refine ⟨_,h1 j p q3 hpk q5 (e.born:Int),E,?_⟩
  refine SimE.put hS (fun d' h=>by rw [hd] at h;cases h;exact hdn) (.tup _ _ rfl fun i u y r1 r2=>?_)
  obtain ⟨f1,f2,f3⟩:=a5z (o':=.map (es.modify j fun e=>{ e with key:=kv }) clock) hh
  have up:∀ {u:V} {y:Value},R w (OT G s E) E u y→R { w with heap:=w.heap.setIfInBounds b (.map (es.modify j fun e=>{ e with key:=kv }) clock) } (OT G (s.hset id (some (.mpe kd m j (e.born:Int)))) E) E u y:=fun h=>by
   refine h.mono (by rw [f2];exact Nat.le_refl _) (fun k hk _ hq=>hk ?_) (fun k hk _=>f3 k (by rintro rfl;exact hk (.inr ⟨id,_,_,_,hob,hE⟩))) (fun _ _ h=>h)
   rcases hq with hq|⟨i,ob,K,C,t1,t2⟩
   ·exact .inl hq
   ·by_cases hii:id=i
    ·subst hii;exact .inr ⟨id,_,K,C,hob,t2⟩
    ·rw [show (s.hset id (some (.mpe kd m j (e.born:Int)))).hp i=s.hp i from if_neg hii] at t1
     exact .inr ⟨i,ob,K,C,t1,t2⟩
  match i with
  |0=>simp at r1 r2;subst r1;subst r2;exact up (hrel j e p hj q3).2.2
  |1=>simp [goInt] at r1 r2;subst r1;subst r2;exact .r0 _ _ (.v _)
  |i+2=>simp at r1
theorem c4j:∀ (l:List MapEntry) (j:Nat) (e:MapEntry),(l.map (·.born)).Nodup→l[j]? = some e→l.findIdx? (fun x=>(x.born:Int) == (e.born:Int))=some j
 |[],j,e,_,h=>by simp at h
 |x::r,0,e,_,h=>by
  simp at h;subst h
  simp [List.findIdx?_cons]
 |x::r,j+1,e,hn,h=>by
  simp only [List.map_cons,List.nodup_cons] at hn
  simp at h
  have hne:((x.born:Int) == (e.born:Int))=false:=by
   rw [beq_eq_false_iff_ne]
   intro q
   exact hn.1 (List.mem_map.2 ⟨e,List.mem_of_getElem? h,by omega⟩)
  rw [List.findIdx?_cons,hne]
  simp [c4j r j e hn.2 h]
theorem a6n {P:Program} {G:Gh} {s:St} {o:Oper} {Q:Exit→St→Prop} {rest:St→Prop} {t id j:Nat} {bo:Int} {x st v:Operand} {kd:KD} {m:List (Value×V)}
  (ho:o.op=.entryStore t x st v) (hdst:o.dst=none) (hx:ev s x=.mp id) (hs':ev s st=.v (.int .i64 bo)) (hob:s.hget id=some (.mpe kd m j bo))
  (h:rest (s.hset id (some (.map kd (f9o m j (ev s v)))))):SemStep P G o s Q rest:=by
 intro a w hs
 obtain ⟨E,hs⟩:=hs
 refine a0z (fun c hc=>by rw [ho] at hc;cases hc) ?_
 obtain ⟨b,K,C,hE,hy⟩:=R.mp_inv (a1t hs hx)
 obtain ⟨b1,K1,C1,h1,b',es,clock,rfl,hh,rfl,rfl,hsz,hrel,hst,e,hj,hbo⟩:=hs.hp id _ hob
 rw [hE] at h1
 cases h1
 have hsv:=R.v_inv (a1t hs hs')
 have hv:=b6t hs v
 have hfi:es.findIdx? (fun x=>(x.born:Int) == bo)=some j:=by
  have ht:es.findIdx? (fun x=>(x.born:Int) == bo)=es.toList.findIdx? (fun x=>(x.born:Int) == bo):=by
   conv=>lhs;rw [← Array.toArray_toList (xs:=es)]
   rw [List.findIdx?_toArray]
  rw [ht,← hbo]
  exact c4j es.toList j e hst.2.1 (by simpa using hj)
 unfold Oper.wp
 have hrun:(execOp a.eval o).run P w=.ok .skip { w with heap:=w.heap.setIfInBounds b (.map (es.modify j fun e=>{ e with val:=a.eval v }) clock) }:=by
  simp [execOp,ho,Instr.entryStore,hy,hsv,MapKept.run_getObj_map hh,asInt,asIntOf,hfi,MapKept.run_setObj_map _ hh,Result.andThen]
 rw [hrun]
 refine ⟨_,h,E,?_⟩
 rw [hdst]
 have hjl:j < m.length:=by have:=(Array.getElem?_eq_some_iff.1 hj).1;omega
 have hmj:m[j]? = some m[j]:=List.getElem?_eq_getElem hjl
 have hset:f9o m j (ev s v)=m.set j (m[j].1,ev s v):=by unfold f9o;rw [hmj]
 rw [hset]
 refine hs.mapSetO hob hE hh fun w' O1 f2 f3 f1 hO1=>⟨b,_,_,rfl,f1,rfl,rfl,by simp [hsz],fun i e' p' r1 r2=>?_,stamped_modify hst _ _ (fun _ _=>rfl) (fun e' _ he'=>rfl)⟩
 have up:∀ {u:V} {y:Value},R w (OT G s E) E u y→R w' O1 E u y:=fun h=>h.mono (by rw [f2];exact Nat.le_refl _) hO1 (fun k hk _=>f3 k (by rintro rfl;exact hk (.inr ⟨id,_,_,_,hob,hE⟩))) (fun _ _ h=>h)
 rw [Array.getElem?_modify] at r1
 rw [List.getElem?_set] at r2
 by_cases hi:j=i
 ·subst hi
  rw [if_pos rfl,hj] at r1
  rw [if_pos rfl,if_pos hjl] at r2
  cases r1;cases r2
  obtain ⟨u1,u2,u3⟩:=hrel j e m[j] hj hmj
  exact ⟨u1,u2,up hv⟩
 ·rw [if_neg hi] at r1 r2
  obtain ⟨u1,u2,u3⟩:=hrel i e' p' r1 r2
  exact ⟨u1,u2,up u3⟩
theorem d3k {P:Program} {G:Gh} {s:St} {o:Oper} {Q:Exit→St→Prop} {rest:St→Prop} {t id off len el:Nat} {x:Operand} {z:Value} {l:List (List V)}
  (ho:o.op=.call ⟨.builtin .clear,#[x],#[t]⟩) (hdst:o.dst=none) (hx:ev s x=.own id off len 1) (hob:s.hget id=some (.arr el 1 l)) (hol:off+len=l.length)
  (hse:a0t P t=some (el,1)) (hz:a0p P el=some [z]) (hone:z.oneCell'=true)
  (h:rest (s.hset id (some (.arr el 1 (l.take off++List.replicate len [.v z]))))):SemStep P G o s Q rest:=by
 intro a w hs
 obtain ⟨E,hs⟩:=hs
 refine a0z (fun c hc=>by rw [ho] at hc;cases hc) ?_
 obtain ⟨hU,inf,hinf,hsz⟩:=a2b hse
 obtain ⟨zv,hzv,hzc⟩:∃ zv,inf.zero=some zv∧zv.cells.toList=[z]:=by
  unfold a0p at hz
  simp only [hinf,Option.bind_some,Option.map_eq_some_iff] at hz
  exact hz
 obtain ⟨b,K,C,hE,hle,hKC,hv⟩:=R.own_inv (a1t hs hx)
 obtain ⟨b1,K1,C1,h1,g1,g2,g3,g4,g5⟩:=hs.hp id _ hob
 rw [hE] at h1
 cases h1
 unfold Oper.wp
 have hzcs:∀ n,(Builtin.zeroCells zv.cells n).toList=List.replicate n z:=by
  intro n
  have hc1:zv.cells=#[z]:=by apply Array.toList_inj.1;rw [hzc]
  simp [Builtin.zeroCells,hc1,Nat.mod_one]
  try simp [List.map_const']
 cases b with
 |none =>
  obtain ⟨rfl,rfl,hy⟩:=hv
  have hrun:(execOp a.eval o).run P w=.ok (.value (.tuple #[])) w:=by
   simp [execOp,ho,resolve,invoke,builtin,Builtin.clear_,a0o P w hU,hy]
  rw [hrun]
  refine ⟨_,h,E,?_⟩
  rw [hdst]
  obtain ⟨rfl,rfl⟩:=g5
  have hl:l=[]:=List.eq_nil_of_length_eq_zero (by omega)
  subst hl
  simp only [List.take_nil,List.replicate_zero,List.append_nil]
  show SimE G (s.hset id (some (.arr el 1 []))) a w E
  refine (hs.upd (s':=s.hset id (some (.arr el 1 []))) (E':=E) (fun i=>i=id) rfl (Nat.le_refl _) rfl rfl rfl (fun _ _ _=>rfl)
   (fun i hi=>⟨by show (if id=i then _ else s.hp i)=_;rw [if_neg fun e=>hi e.symm],rfl⟩) (fun _ _ h=>h) (fun i hi=>by simp [St.hset,hi]) (fun i hi _=>by subst hi;simp [St.hset])
   (fun i o hi ho=>by subst hi;simp only [St.hset,if_true,Option.some.injEq] at ho;subst ho;exact ⟨_,_,_,hE,fun hO1=>⟨g1,g2,g3,g4,rfl,rfl⟩⟩)
   (fun i o b' K' C' hi _ he=>by subst hi;rw [hE] at he;cases he) (fun i i' _ _ _ _ _ hi hi' _ _ _ _=>by rw [hi,hi'])).1
 |some b =>
  obtain ⟨ys,hh,hys,hKC',hCm,hr⟩:=g5
  obtain ⟨o',ho',hy⟩:=hv
  simp only [Nat.mul_one] at hys ho'
  by_cases hlen:len=0
  ·subst hlen
   have hrun:(execOp a.eval o).run P w=.ok (.value (.tuple #[])) w:=by
    simp [execOp,ho,resolve,invoke,builtin,Builtin.clear_,a0o P w hU,hy]
   rw [hrun]
   refine ⟨_,h,E,?_⟩
   rw [hdst]
   have hl:l.take off=l:=List.take_of_length_le (by omega)
   simp only [hl,List.replicate_zero,List.append_nil]
   exact hs.write hob hE rfl rfl rfl rfl (fun _ _=>rfl) fun O1 hO1=>⟨g1,g2,g3,g4,ys,hh,by simpa using hys,hKC',hCm,fun i x j u y q1 q2 q3=>(hr i x j u y q1 q2 q3).mono (Nat.le_refl _) hO1 fun _ _ _=>rfl⟩
  ·have hoff:o'=off:=ho' (.inl (by omega))
   subst hoff
   have hst:=run_storeCells_at P b o' el (List.replicate len z) 0 ys w hh (by simp;omega) (fun v hv=>by rw [List.eq_of_mem_replicate hv];exact hone)
   have hrun:(execOp a.eval o).run P w=.ok (.value (.tuple #[])) (w.setRow b (ys.toList.take (o'+0)++List.replicate len z++ys.toList.drop (o'+0+(List.replicate len z).length)).toArray):=by
    obtain ⟨n,hn⟩:∃ n,len=n+1:=⟨len - 1,by omega⟩
    subst hn
    simp only [execOp,ho,resolve,invoke,builtin]
    simp [Builtin.clear_,a0o P w hU,hy,zeroValue,typeInfo,hinf,hzv,hzcs,hst]
   rw [hrun]
   refine ⟨_,h,E,?_⟩
   rw [hdst]
   have hrow:=setRow_heap w b ys (ys.toList.take (o'+0)++List.replicate len z++ys.toList.drop (o'+0+(List.replicate len z).length)).toArray el (0,0) hh
   have hoth:∀ k,k≠b→(w.setRow b (ys.toList.take (o'+0)++List.replicate len z++ys.toList.drop (o'+0+(List.replicate len z).length)).toArray).heap[k]? = w.heap[k]?:=fun k hk=>by
    simp [World.setRow,Array.getElem?_modify,Ne.symm hk]
   refine hs.write hob hE rfl rfl rfl (by simp [World.setRow]) hoth fun O1 hO1=>⟨fun x hx=>?_,g2,by simp;omega,by simp;omega,_,hrow,?_,hKC',hCm,fun i x j u y q1 q2 q3=>?_⟩
   ·rcases List.mem_append.1 hx with hx|hx
    ·exact g1 x (List.mem_of_mem_take hx)
    ·rw [List.eq_of_mem_replicate hx];rfl
   ·simp;omega
   ·have hmono:∀ {u:V} {y:Value},R0 w (OT G s E) u y→R0 (w.setRow b (ys.toList.take (o'+0)++List.replicate len z++ys.toList.drop (o'+0+(List.replicate len z).length)).toArray) O1 u y:=fun h=>h.mono (by simp [World.setRow]) hO1 fun k hk _=>hoth k (by rintro rfl;exact hk (.inr ⟨id,_,_,_,hob,hE⟩))
    have hi:i < o'+len:=by have:=(List.getElem?_eq_some_iff.1 q1).1;simp at this;omega
    have hj:j=0:=by
     have:j < x.length:=(List.getElem?_eq_some_iff.1 q2).1
     have hx1:x.length=1:=by
      rcases List.mem_append.1 (List.mem_of_getElem? q1) with hx|hx
      ·exact g1 x (List.mem_of_mem_take hx)
      ·rw [List.eq_of_mem_replicate hx];rfl
     omega
    subst hj
    simp only [Nat.mul_one,Nat.add_zero] at q3
    by_cases hio:i < o'
    ·rw [List.getElem?_append_left (by simp;omega),List.getElem?_take,if_pos hio] at q1
     have q3':ys[i]? = some y:=by
      rw [List.getElem?_toArray,List.append_assoc,List.getElem?_append_left (by simp;omega),List.getElem?_take,if_pos (by omega)] at q3
      simpa using q3
     exact hmono (hr i x 0 u y q1 q2 (by simpa using q3'))
    ·rw [List.getElem?_append_right (by simp;omega)] at q1
     have hx':x=[.v z]:=List.eq_of_mem_replicate (List.mem_of_getElem? q1)
     subst hx'
     simp at q2
     subst q2
     have q3':y=z:=by
      rw [List.getElem?_toArray,List.append_assoc,List.getElem?_append_right (by simp;omega),List.getElem?_append_left (by simp;omega)] at q3
      exact List.eq_of_mem_replicate (List.mem_of_getElem? q3)
     subst q3'
     exact .v _
theorem e1p {P:Program} {G:Gh} (ow:Nat→Bool) {o:Oper} {s:St} {Q:Exit→St→Prop} {rest:St→Prop} (h:fin P G o s Q rest (a3r P ow G.lo s o.dst o.op)):SemStep P G o s Q rest:=by
 by_cases hnd:∃ c,o.op=.defer c
 ·obtain ⟨c,hc⟩:=hnd
  rw [hc,b6p] at h
  exact h
 have hnd:∀ c,o.op≠.defer c:=fun c hc=>hnd ⟨c,hc⟩
 cases hr:a3r P ow G.lo s o.dst o.op with
 |stuck=>rw [hr] at h;exact h
 |call f as =>
  rw [hr] at h
  have hok:=a6w P { G with n:=o.dst.getD 0+1 } ow s o (by rintro d hd;simp [hd])
  rw [hr] at hok
  obtain ⟨x,l,ts,h1,h2,h3⟩:=hok
  exact h x l ts h1 h2 h3
 |br C =>
  rw [hr] at h
  obtain ⟨hc,h⟩:=h
  have hok:=a6w P G ow s o (a2s hc)
  rw [hr] at hok
  intro a w hs
  exact a0z hnd (hok a w hs _ _ fun b hb a' w' hs'=>⟨_,h b hb,hs'⟩)
 |heap C k =>
  rw [hr] at h
  obtain ⟨hc,hC,h⟩:=h
  have hok:=a6w P G ow s o (a2s hc)
  rw [hr] at hok
  intro a w hs
  exact a0z hnd (hok hC a w hs _ _ fun a' w' hs'=>⟨_,h,hs'⟩)
 |go C k =>
  rw [hr] at h
  obtain ⟨hc,hC,h⟩:=h
  have hok:=a6w P G ow s o (a2s hc)
  rw [hr] at hok
  intro a w hs
  exact a0z hnd (hok hC a w hs _ _ fun a' w' hs'=>⟨_,h,hs'⟩)
theorem d8n {P:Program} {G:Gh} {o:Oper} {s:St} {Q:Exit→St→Prop} {rest:St→Prop} (p:Nat→Bool) (h:fin P G o (frz p G.lo s) Q rest (a3r P (fun _=>false) G.lo (frz p G.lo s) o.dst o.op)):SemStep P G o s Q rest :=
 fun a w hs=>e1p (fun _=>false) h a w (c1j p a w hs)
theorem SimE.cut {G:Gh} {s:St} {a:Act} {w:World} {E:Env} (hs:SimE G s a w E) {id d k el sz:Nat} {l:List (List V)} (hob:s.hget id=some (.arr el sz l)) (hk:k≤l.length) (hu:s.used d=false) :
  ∃ E',SimE G (a1h s [(id,none),(d,some (.arr el sz (l.take k)))]) a w E'∧∀ y,R w (OT G s E) E (.own id 0 k sz) y→R w (OT G (a1h s [(id,none),(d,some (.arr el sz (l.take k)))]) E') E' (.own d 0 k sz) y:=by
 obtain ⟨b,K,C,hE,hHB⟩:=hs.hp id _ hob
 have hE0:E d=none:=by
  cases he:E d with
  |none=>rfl
  |some r=>have:=hs.us d (by rw [he];simp);rw [show s.us d=false from hu] at this;cases this
 have hne:id≠d:=by rintro rfl;rw [hE0] at hE;cases hE
 let E':Env:=fun i=>if i=d then some (b,k,C) else E i
 have hE'd:E' d=some (b,k,C):=if_pos rfl
 have hEE:∀ i r,E i=some r→E' i=some r:=fun i r hi=>by
  show (if i=d then _ else E i)=_
  rw [if_neg (by rintro rfl;rw [hE0] at hi;cases hi)];exact hi
 obtain ⟨hz,hs0,h48,hlK,hbb⟩:=hHB
 have hHB':∀ O',(∀ b,¬ OT G s E b→b < w.heap.size→¬ O' b)→HB w O' E' b k C (.arr el sz (l.take k)):=fun O' hO'=>by
  refine ⟨fun x hx=>hz x (List.mem_of_mem_take hx),hs0,by simp;omega,by simp;omega,?_⟩
  cases b with
  |none=>obtain ⟨q1,q2⟩:=hbb;exact ⟨by omega,q2⟩
  |some b =>
   obtain ⟨ys,q1,q2,q3,q4,q5⟩:=hbb
   exact ⟨ys,q1,q2,by omega,q4,fun i x j u y h1 h2 h3=>(q5 i x j u y (a0w _ _ _ _ h1).1 h2 h3).mono (Nat.le_refl _) hO' fun _ _ _=>rfl⟩
 have hhp:∀ i,(a1h s [(id,none),(d,some (.arr el sz (l.take k)))]).hp i=if d=i then some (.arr el sz (l.take k)) else if id=i then none else s.hp i:=fun i=>rfl
 have own:∀ i o',(i=d∨i=id)→(a1h s [(id,none),(d,some (.arr el sz (l.take k)))]).hp i=some o'→i=d∧o'=.arr el sz (l.take k):=fun i o' hi ho'=>by
  rw [hhp] at ho'
  split at ho'
  ·rename_i e;cases ho';exact ⟨e.symm,rfl⟩
  ·rename_i e
   rcases hi with rfl|rfl
   ·exact (e rfl).elim
   ·rw [if_pos rfl] at ho';cases ho'
 obtain ⟨h1,h2⟩:=hs.upd (s':=a1h s [(id,none),(d,some (.arr el sz (l.take k)))]) (w':=w) (E':=E') (fun i=>i=d∨i=id) rfl (Nat.le_refl _) rfl rfl rfl (fun _ _ _=>rfl)
  (fun i hi=>⟨by rw [hhp,if_neg fun e=>hi (.inl e.symm),if_neg fun e=>hi (.inr e.symm)],if_neg fun e=>hi (.inl e)⟩) hEE (fun i hi=>by simp [a1h,St.hset,hi]) (fun i hi _=>by rcases hi with rfl|rfl<;>simp [a1h,St.hset])
  (fun i o' hi ho'=>by obtain ⟨rfl,rfl⟩:=own i o' hi ho';exact ⟨_,_,_,hE'd,fun hO=>hHB' _ hO⟩)
  (fun i o' b' K' C' hi ho' he=>by
   obtain ⟨rfl,rfl⟩:=own i o' hi ho'
   rw [hE'd] at he;cases he
   exact .inr ⟨id,_,K,_,.inr rfl,hob,hE⟩)
  (fun i i' o1 o2 b x x' hi hi' ho1 ho2 _ _=>by rw [(own i o1 hi ho1).1,(own i' o2 hi' ho2).1])
 refine ⟨E',h1,fun y hy=>?_⟩
 obtain ⟨b1,K1,C1,g1,g2,g3,hv⟩:=R.own_inv hy
 rw [hE] at g1
 cases g1
 refine .own d 0 k sz b k C _ hE'd ?_
 cases b with
 |none =>
  obtain ⟨q1,q2,hv⟩:=hv
  exact ⟨by simp,by omega,by omega,q2,hv⟩
 |some b =>
  obtain ⟨o',ho',hv⟩:=hv
  exact ⟨by simp,by omega,o',ho',hv⟩
theorem c0p {P:Program} {G:Gh} {s:St} {o:Oper} {Q:Exit→St→Prop} {rest:St→Prop} (t id d k el sz:Nat) {l:List (List V)} (ht:s.get t=.own id 0 k sz) (hob:s.hget id=some (.arr el sz l)) (hk:k≤l.length) (hu:s.used d=false)
  (h:SemStep P G o ((a1h s [(id,none),(d,some (.arr el sz (l.take k)))]).set t (.own d 0 k sz)) Q rest):SemStep P G o s Q rest:=by
 rintro a w ⟨E,hs⟩
 obtain ⟨E',h1,h2⟩:=hs.cut hob hk hu
 refine h a w ⟨E',{ h1 with fr:=fun i=>?_ }⟩
 show R w (OT G (a1h s [(id,none),(d,some (.arr el sz (l.take k)))]) E') E' (if t=i then .own d 0 k sz else (a1h s [(id,none),(d,some (.arr el sz (l.take k)))]).fr i) _
 by_cases hi:t=i
 ·subst hi
  rw [if_pos rfl]
  exact h2 _ (by have:=hs.fr t;rw [show s.fr t=_ from ht] at this;exact this)
 ·rw [if_neg hi]
  exact h1.fr i
end Pm
open Go Go.RowKit Go.MapKept
namespace Pm
def isV:V→Bool
 |.v _=>true
 |_=>false
def exK:V→Bool
 |.v _=>true
 |.agg cs=>cs.all isV
 |_=>false
theorem R.exK {w w':World} {O O':Nat→Prop} {E E':Env} {x:V} {y:Value} (hx:exK x=true) (h:R w O E x y):R w' O' E' x y:=by
 have one:∀ {u:V} {y:Value},isV u=true→R w O E u y→R w' O' E' u y:=by
  intro u y hu hy
  cases u with
  |v z=>have:=R.v_inv hy;subst this;exact .r0 _ _ (.v _)
  |_=>cases hu
 have one0:∀ {u:V} {y:Value},isV u=true→R0 w O u y→R w' O' E' u y:=fun hu hy=>one hu (.r0 _ _ hy)
 cases x with
 |v z=>exact one rfl h
 |agg cs =>
  simp only [Pm.exK,List.all_eq_true] at hx
  cases h with
  |r0 _ _ h =>
   cases h with
   |agg _ ys hn hr=>exact .agg _ _ hn fun j u y h1 h2=>one0 (hx u (List.mem_of_getElem? h1)) (hr j u y h1 h2)
  |agg _ ys hn hr=>exact .agg _ _ hn fun j u y h1 h2=>one (hx u (List.mem_of_getElem? h1)) (hr j u y h1 h2)
 |_=>cases hx
structure MapEx (G:Gh) (mid mb:Nat) (kd:KD) (m:List (Value×V)) (es:Array MapEntry) (clock:Nat):Prop where
 nm:mid ∈ G.nm
 base:G.E0 mid=some (some mb,0,0)
 sz:es.size=m.length
 ent:∀ (i:Nat) (e:MapEntry) (p:Value×V),es[i]? = some e→m[i]? = some p→e.key=p.1∧IsK kd p.1∧∀ w O E,R w O E p.2 e.val
 st:Stamped es clock
def a5h (es:Array MapEntry) (S:List Nat):Array Nat:=(S.map fun i=>(es[i]?.map (·.born)).getD 0).toArray
theorem b7d (es:Array MapEntry) (S:List Nat) (i:Nat) (e:MapEntry) (h:es[i]? = some e):(a5h es S).push e.born=a5h es (S++[i]):=by
 unfold a5h
 rw [List.push_toArray,List.map_append]
 simp [h]
theorem c8w {P:Program} {G:Gh} {s:St} {o:Oper} {Q:Exit→St→Prop} {rest:St→Prop} {d t mid:Nat} {x:Operand} {kd:KD} {z:V} {m:List (Value×V)}
  (ho:o.op=.range t x) (hx:ev s x=.mp mid) (hm:c1r P t=some (kd,z)) (hob:s.hget mid=some (.map kd m)) (hnm:mid ∈ G.nm) (hex:∀ p ∈ m,exK p.2=true) (hd:o.dst=some d) (hdn:d < G.n) (hu:s.used d=false)
  (hr:∀ mb es clock,MapEx G mid mb kd m es clock→rest (app s o.dst (.ptr d 0,[(mid,some (.obj (.map es clock))),(d,some (.obj (.mapIter (some mb) clock #[] clock)))]))):SemStep P G o s Q rest:=by
 intro a w hs
 refine a0z (fun c hc=>by rw [ho] at hc;cases hc) ?_
 obtain ⟨E,hs⟩:=hs
 obtain ⟨b,es,clock,hy,hE,hh,hsz,hrel,hst⟩:=c2z hs hob (a1t hs hx)
 obtain ⟨kt,et,zv,g1,g2,g3,rfl⟩:=b1x hm w
 have hX:MapEx G mid b kd m es clock:=by
  refine ⟨hnm,?_,hsz,fun i e p h1 h2=>⟨(hrel i e p h1 h2).1,(hrel i e p h1 h2).2.1,fun w' O' E'=>(hrel i e p h1 h2).2.2.exK (hex p (List.mem_of_getElem? h2))⟩,hst⟩
  obtain ⟨r,h1,h2⟩:=hs.base mid hnm
  rw [hE] at h2
  cases h2
  exact h1
 have hs1:SimE G (s.hset mid (some (.obj (.map es clock)))) a w E:=hs.write hob hE rfl rfl rfl rfl (fun _ _=>rfl) fun O1 hO1=>⟨b,rfl,hh,rfl,rfl⟩
 have hmd:mid≠d:=by
  rintro rfl
  have:=hs.us mid (by rw [hE];simp)
  rw [show s.us mid=s.used mid from rfl,hu] at this
  cases this
 have hu1:(s.hset mid (some (.obj (.map es clock)))).used d=false:=by
  rw [c4d,hu,Bool.or_false,beq_eq_false_iff_ne]
  exact hmd
 unfold Oper.wp
 have hrun:(execOp a.eval o).run P w=.ok (.value (.pointer (some ⟨w.heap.size,0,none⟩))) (w.alloc (.mapIter (some b) clock #[] clock)):=by
  simp only [execOp,ho,hy,Sem.run_bind,run_range_map w t kt et b es clock g1 hh,Result.andThen];rfl
 rw [hrun]
 obtain ⟨E',h1,h2,h3,h4⟩:=hs1.new (id:=d) hu1 (o:=.mapIter (some b) clock #[] clock) (ob:=.obj (.mapIter (some b) clock #[] clock)) (K:=0) (C:=0) (fun O' E' hO hE=>⟨w.heap.size,rfl,a4l w _,rfl,rfl⟩)
 exact ⟨_,hr b es clock hX,E',h1.put (fun d' h=>by rw [hd] at h;cases h;exact hdn) (.ptr d 0 _ _ _ h2)⟩
theorem d4t {P:Program} {G:Gh} {s:St} {o:Oper} {Q:Exit→St→Prop} {rest:St→Prop} {d k mid mb clock:Nat} {x:Operand} {kd:KD} {m:List (Value×V)} {es:Array MapEntry} {S:List Nat}
  (ho:o.op=.next x false) (hx:ev s x=.ptr k 0) (hX:MapEx G mid mb kd m es clock) (hob:s.hget k=some (.obj (.mapIter (some mb) clock (a5h es S) clock))) (hom:s.hget mid=some (.obj (.map es clock)))
  (hS:∀ i ∈ S,i < m.length) (hd:o.dst=some d) (hdn:d < G.n)
  (hr0:(∀ i,i < m.length→i ∈ S)→rest (a3z s o.dst (.tup [.v (.bool false)])))
  (hr1:∀ (i:Nat) (p:Value×V),m[i]? = some p→i ∉ S→rest (app s o.dst (.tup [.v (.bool true),.v p.1,p.2],[(k,some (.obj (.mapIter (some mb) clock (a5h es (S++[i])) clock)))]))):SemStep P G o s Q rest:=by
 intro a w hs
 refine a0z (fun c hc=>by rw [ho] at hc;cases hc) ?_
 obtain ⟨E,hs⟩:=hs
 obtain ⟨b,K,C,hE,hxv⟩:=R.ptr_inv (a1t hs hx)
 obtain ⟨b1,K1,C1,hE1,hh⟩:=hs.hp k _ hob
 rw [hE] at hE1
 cases hE1
 obtain ⟨b2,e2,hbk,rfl,rfl⟩:=hh
 cases e2
 obtain ⟨bm,Km,Cm,hEm,hhm⟩:=hs.hp mid _ hom
 obtain ⟨r,q1,q2⟩:=hs.base mid hX.nm
 rw [hX.base] at q1
 cases q1
 rw [hEm] at q2
 cases q2
 obtain ⟨b3,e3,hbm,_,_⟩:=hhm
 cases e3
 have hdd:∀ d',o.dst=some d'→d' < G.n:=fun d' h=>by rw [hd] at h;cases h;exact hdn
 unfold Oper.wp
 rcases run_next_at (P:=P) w 0 b mb clock clock (a5h es S) es clock hbk hbm hX.st.1 (Nat.le_refl _) with ⟨h0,hrun⟩|⟨e,he,w1,hw1,hrun⟩
 ·have hr:(execOp a.eval o).run P w=.ok (.value (.tuple #[.bool false])) w:=by
   obtain ⟨ty,hty⟩:∃ ty,ty=(0:TypeId):=⟨_,rfl⟩
   simp only [execOp,ho,hxv,Sem.run_bind]
   simp only [Instr.next] at hrun ⊢
   rw [hrun]
   rfl
  rw [hr]
  refine ⟨_,hr0 fun i hi=>?_,E,hs.put hdd (.r0 _ _ (.tup _ _ rfl fun j u y h1 h2=>?_))⟩
  ·have hie:i < es.size:=by rw [hX.sz];exact hi
   false_or_by_contra
   rename_i hni
   have hm:es[i] ∈ leftOf es (a5h es S):=by
    unfold leftOf
    rw [Array.mem_filter]
    refine ⟨by simp,?_⟩
    rw [Bool.not_eq_true',Bool.eq_false_iff]
    intro hc
    unfold a5h at hc
    simp only [List.contains_toArray,List.contains_iff_mem,List.mem_map] at hc
    obtain ⟨j,hj,hjb⟩:=hc
    have hjm:=hS j hj
    have hje:j < es.size:=by rw [hX.sz];exact hjm
    rw [Array.getElem?_eq_getElem hje] at hjb
    simp only [Option.map_some,Option.getD_some] at hjb
    have hnd:=hX.st.2.1
    have hij:j=i:=by
     have e1:(es.toList.map (·.born))[j]'(by simpa using hje)=(es.toList.map (·.born))[i]'(by simpa using hie):=by simpa using hjb
     exact (List.getElem_inj hnd).1 e1
    exact hni (hij ▸ hj)
   have:=Array.size_pos_of_mem hm
   omega
  ·match j with
   |0=>simp at h1 h2;subst h1;subst h2;exact .v _
   |j+1=>simp at h1
 ·have hr:(execOp a.eval o).run P w=.ok (.value (.tuple #[.bool true,e.key,e.val])) (Go.ChangeMaps.setBlock w1 b (.mapIter (some mb) clock ((a5h es S).push e.born) clock)):=by
   simp only [execOp,ho,hxv,Sem.run_bind]
   simp only [Instr.next] at hrun ⊢
   rw [hrun]
   rfl
  rw [hr]
  unfold leftOf at he
  rw [Array.toList_filter,List.mem_filter] at he
  obtain ⟨he1,he2⟩:=he
  obtain ⟨i,hi,hie⟩:=List.getElem_of_mem he1
  have hi1:es[i]? = some e:=by rw [Array.getElem?_eq_getElem (by simpa using hi)];simpa using hie
  have hil:i < m.length:=by rw [← hX.sz];simpa using hi
  have hmi:m[i]? = some m[i]:=List.getElem?_eq_getElem hil
  obtain ⟨t1,t2,t3⟩:=hX.ent i e _ hi1 hmi
  have hni:i ∉ S:=by
   intro hiS
   rw [Bool.not_eq_true',Bool.eq_false_iff] at he2
   refine he2 ?_
   unfold a5h
   simp only [List.contains_toArray,List.contains_iff_mem,List.mem_map]
   exact ⟨i,hiS,by rw [hi1];rfl⟩
  rw [b7d es S i e hi1]
  have hw1f:w1.heap=w.heap∧w1.os=w.os∧w1.tape=w.tape∧w1.output=w.output:=by rcases hw1 with rfl|rfl<;>exact ⟨rfl,rfl,rfl,rfl⟩
  have hs2:SimE G (s.hset k (some (.obj (.mapIter (some mb) clock (a5h es (S++[i])) clock)))) a (Go.ChangeMaps.setBlock w1 b (.mapIter (some mb) clock (a5h es (S++[i])) clock)) E:=by
   obtain ⟨f1,f2,f3⟩:=a5z (w:=w1) (o':=.mapIter (some mb) clock (a5h es (S++[i])) clock) (by rw [hw1f.1];exact hbk)
   refine hs.write hob hE hw1f.2.1 hw1f.2.2.1 hw1f.2.2.2 (f2.trans (by rw [hw1f.1])) (fun q hq=>(f3 q hq).trans (by rw [hw1f.1])) fun O1 hO1=>⟨b,rfl,f1,rfl,rfl⟩
  refine ⟨_,hr1 i m[i] hmi hni,E,hs2.put hdd (.tup _ _ rfl fun j u y h1 h2=>?_)⟩
  match j with
  |0=>simp at h1 h2;subst h1;subst h2;exact .r0 _ _ (.v _)
  |1=>simp at h1 h2;subst h1;subst h2;rw [t1];exact .r0 _ _ (.v _)
  |2=>simp at h1 h2;subst h1;subst h2;exact t3 _ _ _
  |j+3=>simp at h1
theorem d0h {P:Program} {G:Gh} {s:St} {o:Oper} {Q:Exit→St→Prop} {rest:St→Prop} {d k mid mb clock i:Nat} {x:Operand} {kd:KD} {m:List (Value×V)} {es:Array MapEntry} {S:List Nat} {p:Value×V}
  (ho:o.op=.entry x) (hx:ev s x=.ptr k 0) (hX:MapEx G mid mb kd m es clock) (hob:s.hget k=some (.obj (.mapIter (some mb) clock (a5h es (S++[i])) clock))) (hom:s.hget mid=some (.obj (.map es clock)))
  (hp:m[i]? = some p) (hd:o.dst=some d) (hdn:d < G.n)
  (hr:rest (a3z s o.dst (.tup [.v p.1,p.2]))):SemStep P G o s Q rest:=by
 intro a w hs
 refine a0z (fun c hc=>by rw [ho] at hc;cases hc) ?_
 obtain ⟨E,hs⟩:=hs
 obtain ⟨b,K,C,hE,hxv⟩:=R.ptr_inv (a1t hs hx)
 obtain ⟨b1,K1,C1,hE1,hh⟩:=hs.hp k _ hob
 rw [hE] at hE1
 cases hE1
 obtain ⟨b2,e2,hbk,rfl,rfl⟩:=hh
 cases e2
 obtain ⟨bm,Km,Cm,hEm,hhm⟩:=hs.hp mid _ hom
 obtain ⟨r,q1,q2⟩:=hs.base mid hX.nm
 rw [hX.base] at q1
 cases q1
 rw [hEm] at q2
 cases q2
 obtain ⟨b3,e3,hbm,_,_⟩:=hhm
 cases e3
 have hil:i < es.size:=by rw [hX.sz];exact (List.getElem?_eq_some_iff.1 hp).1
 have hi1:es[i]? = some es[i]:=Array.getElem?_eq_getElem hil
 obtain ⟨t1,t2,t3⟩:=hX.ent i _ _ hi1 hp
 rw [← b7d es S i _ hi1] at hbk
 unfold Oper.wp
 have hrun:(execOp a.eval o).run P w=.ok (.value (.tuple #[es[i].key,es[i].val])) w:=by
  simp only [execOp,ho,hxv,Sem.run_bind,run_entry_at w b mb clock (a5h es S) es clock es[i] hbk hbm (by simp) hX.st.2.1,Result.andThen];rfl
 rw [hrun]
 refine ⟨_,hr,E,hs.put (fun d' h=>by rw [hd] at h;cases h;exact hdn) (.tup _ _ rfl fun j u y h1 h2=>?_)⟩
 match j with
 |0=>simp at h1 h2;subst h1;subst h2;rw [t1];exact .r0 _ _ (.v _)
 |1=>simp at h1 h2;subst h1;subst h2;exact t3 _ _ _
 |j+2=>simp at h1
theorem c7v {G:Gh} {s:St} {mid mb clock:Nat} {kd:KD} {m:List (Value×V)} {es:Array MapEntry} (hX:MapEx G mid mb kd m es clock) (hom:s.hget mid=some (.obj (.map es clock))):Ent G s (s.hset mid (some (.map kd m))):=by
 rintro a w ⟨E,hs⟩
 obtain ⟨bm,Km,Cm,hEm,hhm⟩:=hs.hp mid _ hom
 obtain ⟨b3,rfl,hbm,rfl,rfl⟩:=hhm
 exact ⟨E,hs.write hom hEm rfl rfl rfl rfl (fun _ _=>rfl) fun O1 hO1=>⟨b3,es,clock,rfl,hbm,rfl,rfl,hX.sz,fun i e p h1 h2=>⟨(hX.ent i e p h1 h2).1,(hX.ent i e p h1 h2).2.1,(hX.ent i e p h1 h2).2.2 _ _ _⟩,hX.st⟩⟩
end Pm
open Go Go.RowKit
namespace Pm
end Pm
open Go Go.RowKit
namespace Pm
theorem e1l {α:Type} {sz:Nat}:∀ (rows:List (List α)) (hl:∀ r ∈ rows,r.length=sz) (i j:Nat) (x:List α) (u:α),rows[i]? = some x→x[j]? = some u→rows.flatten[i * sz+j]? = some u
 |[],_,i,j,x,u,h,_=>by simp at h
 |r::rows,hl,0,j,x,u,h,h2=>by
  simp at h;subst h
  rw [List.flatten_cons,Nat.zero_mul,Nat.zero_add,List.getElem?_append_left (List.getElem?_eq_some_iff.1 h2).1]
  exact h2
 |r::rows,hl,i+1,j,x,u,h,h2=>by
  have hr:=hl r (by simp)
  rw [List.getElem?_cons_succ] at h
  have ih:=e1l rows (fun q hq=>hl q (by simp [hq])) i j x u h h2
  rw [List.flatten_cons,List.getElem?_append_right (by rw [hr,Nat.succ_mul];omega),hr]
  have:(i+1) * sz+j - sz=i * sz+j:=by rw [Nat.succ_mul];omega
  rw [this];exact ih
def wkL:List V→List V→Prop
 |[],[]=>True
 |x::xs,y::ys=>(x=.any∨x=y)∧wkL xs ys
 |_,_=>False
theorem f2o:∀ {l m:List V},wkL l m→∀ (j:Nat) (u:V),l[j]? = some u→∃ u',m[j]? = some u'∧(u=.any∨u=u')
 |[],_,_,j,u,h=>by simp at h
 |x::xs,[],h,_,_,_=>h.elim
 |x::xs,y::ys,h,0,u,hj=>by
  simp at hj;subst hj
  exact ⟨y,rfl,h.1⟩
 |x::xs,y::ys,h,j+1,u,hj=>by
  rw [List.getElem?_cons_succ] at hj ⊢
  exact f2o h.2 j u hj
theorem a5u {P:Program} {G:Gh} {s:St} {o:Oper} {Q:Exit→St→Prop} {rest:St→Prop} {d t n sz:Nat} {x:Operand} {cs:List V} (rows:List (List V))
  (ho:o.op=.slice t x none none none) (hx:ev s x=.fp cs) (hd:o.dst=some d) (hdn:d < G.n) (hae:a1x P t=some (n,sz))
  (hf:wkL rows.flatten cs) (hl:∀ r ∈ rows,r.length=sz) (hn:rows.length=n) (h0:0 < n∧n≤1000) (h1:0 < sz)
  (hr:rest (a3z s o.dst (.lst 0 sz rows))):SemStep P G o s Q rest:=by
 intro a w hs
 refine a0z (fun c hc=>by rw [ho] at hc;cases hc) ?_
 refine a0j (x:=.lst 0 sz rows) (fun d' h=>by rw [hd] at h;cases h;exact hdn) (fun a w E hs=>?_) a w hs _ _ fun a' w' hs'=>⟨_,hr,hs'⟩
 obtain ⟨e,hu,inf,hinf,hsz⟩:=a8d hae
 obtain ⟨b,of',g,hy,hO,hb,hcell,hrr⟩:=R.fp_inv (a1t hs hx)
 have hbd:=a4a (P:=P) (w:=w) false n n none none 0 n (.inl ⟨rfl,rfl⟩) (.inl ⟨rfl,rfl⟩) (by omega) (by omega) (by omega)
 have e0:((0:Int)).toNat=0:=rfl
 have en:((n:Int)).toNat=n:=Int.toNat_natCast n
 rw [e0,en] at hbd
 have key:∀ (i:Nat) (x:List V) (j:Nat) (u:V),rows[i]? = some x→x[j]? = some u→∃ u',cs[i * sz+j]? = some u'∧(u=.any∨u=u'):=fun i x j u h5 h6=>f2o hf _ u (e1l rows hl i j x u h5 h6)
 refine ⟨.slice (some ⟨b,of',none⟩) n n,?_,.r0 _ _ (.lst 0 sz _ _ _ _ b of' (fun i j=>g (i * sz+j)) (fun _=>Nat.zero_le _) hn.symm (by omega) (by omega) (fun _=>⟨rfl,hO,hb⟩) (fun i x j u h5 h6=>by obtain ⟨u',q1,_⟩:=key i x j u h5 h6;exact hcell _ u' q1) hl (fun i x j u h5 h6=>by
  obtain ⟨u',q1,q2⟩:=key i x j u h5 h6
  rcases q2 with rfl|rfl
  ·exact .any _
  ·exact hrr _ u q1))⟩
 have:¬ n * sz=0:=by
  intro h
  rcases Nat.mul_eq_zero.1 h with h|h<;>omega
 simp [execOp,ho,Instr.sliceAt,a0o P w hu,a1n P w hinf,hsz,hy,hbd,Instr.sureAddr,this,a3f]
end Pm
open Go
namespace Pm
theorem e9v {P:Program} {G:Gh} {o:Oper} {s:St} {Q:Exit→St→Prop} {rest:St→Prop} {k:FuncId} {fn:Func} (hf:P.funcs[k]? = some fn) (hname:(fn.name == "runtime.NumGoroutine")=false)
  (hb:fn.body.isNone=true) (hn:Extern.findNext fn=none) (he:Extern.find fn=some Extern.BytealgIndexByte.indexByte) {d:Nat} (hd:o.dst=some d) (hdn:d < G.n) (S:ByteArray) (c:Int)
  (h:rest (a3z s o.dst (.v (.int .i64 (Lib.indexByte S.data.toList c.toNat.toUInt8))))):a3k P G o s Q rest (.fn (.func k) []) [.v (.string S),.v (.int .u8 c)]:=by
 rintro x l ts ho hx has a w hs
 refine a0z (fun c hc=>by rw [ho] at hc;cases hc) ?_
 refine a0j (x:=.v (.int .i64 (Lib.indexByte S.data.toList c.toNat.toUInt8))) (fun d' h=>by rw [hd] at h;cases h;exact hdn) (fun a w E hs=>⟨_,?_,.r0 _ _ (.v _)⟩) a w hs _ _ fun a' w' hs'=>⟨_,h,hs'⟩
 obtain ⟨ys,hy,hsz,hr⟩:=R.fn_inv (a1t hs hx.symm)
 obtain rfl:ys=#[]:=by
  apply Array.eq_empty_of_size_eq_zero
  simpa using hsz
 have hl:l.length=2:=by simpa using (congrArg List.length has).symm
 obtain ⟨p,q,rfl⟩:∃ p q,l=[p,q]:=by
  rcases l with _|⟨p,_|⟨q,_|⟨z,r⟩⟩⟩
  ·cases hl
  ·cases hl
  ·exact ⟨p,q,rfl⟩
  ·simp at hl
 ·simp only [List.map_cons,List.map_nil,List.cons.injEq,and_true] at has
  have h1:=R.v_inv (a1t hs has.1.symm)
  have h2:=R.v_inv (a1t hs has.2.symm)
  have hrun:=run_callFunc_extern hf hname hb hn he #[a.eval p,a.eval q] w
  rw [h1,h2,Lib.run_indexByteString] at hrun
  have hy':a.eval x=.func (.func k) #[] #[]:=hy
  simp only [execOp,ho,resolve,Deferred.ofValue,hy',invoke]
  simp [h1,h2,hrun]
end Pm
end Go.Proofs.YtmjhfccbbfpppaaGreatDoor
