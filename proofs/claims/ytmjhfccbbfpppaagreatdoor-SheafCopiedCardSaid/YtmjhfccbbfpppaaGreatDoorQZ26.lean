import Derived.Test.YtmjhfccbbfpppaaGreatDoorQZ20
namespace Go.Proofs.YtmjhfccbbfpppaaGreatDoor
open Go Go.RowKit
set_option linter.unusedSimpArgs false
set_option linter.unusedVariables false
namespace Pm
def e9b (P:Program) (f:FuncId) (as:List V) (r:Nat→V→Prop):Prop:=b7e P f∧∀ (lo:Nat) (w:World) (O:Nat→Prop) (ys:Array Value),lo≤w.heap.size→OKO w O→ArgsR w O as ys →
 Calls P f ys w fun e w'=>∃ y v,e=.returned y∧r lo v∧R0 w' O v y∧Below w.heap.size w w'
theorem d5n {P:Program} {G:Gh} {o:Oper} {s:St} {Q:Exit→St→Prop} {rest:St→Prop} {k:FuncId} {cap as as':List V} {r:Nat→V→Prop} (hp:e9b P k as' r)
  (hs:Subs (as++cap) as') (hpure:b0j (as++cap)=true) (hc:chk G.n o.dst) (h:∀ v,r G.lo v→rest (a4b s o.dst v)):a3t P G o s Q rest (.fn (.func k) cap) as:=by
 rintro x l ts ho hx rfl a w ⟨E,hE⟩
 obtain ⟨ys,hy,hsz,hr⟩:=R.fn_inv (a1y hE hx.symm)
 obtain ⟨hlen,hsub⟩:=hs.spec
 refine b9o ho hp.1 hy (hp.2 G.lo w (OT G s E) _ (Nat.le_trans G.hlo hE.grow) (f3l hE) ⟨?_,fun j u y h1 h2=>?_⟩) ?_
 ·simp at hlen ⊢;omega
 ·obtain ⟨u0,h3,h4⟩:=hsub j u h1
  refine h4 _ _ _ ?_
  have hp0:=a7i hpure j u0 h3
  by_cases hj:j < l.length
  ·rw [List.getElem?_append_left (by simpa using hj)] at h3
   rw [Array.getElem?_append_left (by simpa using hj)] at h2
   simp only [List.getElem?_map,Option.map_eq_some_iff] at h3
   obtain ⟨z,hz,rfl⟩:=h3
   simp [hz] at h2
   subst h2
   exact (b6k hE z).pureV hp0
  ·rw [List.getElem?_append_right (by simpa using hj)] at h3
   rw [Array.getElem?_append_right (by simpa using hj)] at h2
   simp at h3 h2
   exact (hr _ _ _ h3 h2).pureV hp0
 ·rintro e w' ⟨y,v,rfl,hv,hry,hb⟩
  exact ⟨y,rfl,_,h v hv,E,(hE.below hb).put (a2u hc) (.r0 _ _ hry)⟩
theorem f3f {ρ:List (Nat×Nat)} {i j:Nat} (hm:(i,j) ∈ ρ):j ∈ tgt ρ:=by
 induction ρ with
 |nil=>cases hm
 |cons q t ih =>
  obtain ⟨u,v⟩:=q
  rcases List.mem_cons.1 hm with h1|h1
  ·cases h1;exact List.mem_cons_self ..
  ·exact List.mem_cons_of_mem _ (ih h1)
theorem d1u {ρ:List (Nat×Nat)} {s s':St} {h:List (Nat×OB)} {N:Nat→Bool} (hN:(tgt ρ).all N=true) (e:∀ id,N id=true→s'.hp id=s.hp id∧s'.us id=s.us id) (hH:a1k (toR ρ) s h):a1k (toR ρ) s' h :=
 b7o (fun i j hj=>by
  obtain ⟨j',e1,hm⟩:=a5w hj
  cases e1
  exact (e j (List.all_eq_true.1 hN j (f3f hm))).1) hH
theorem a6t {P:Program} {G:Gh} {N:Nat→Bool} {M:Bool} {s:St} {k:FuncId} {cap as as':List V} {h:List (Nat×OB)} {r:Nat→V} {h':Nat→List (Nat×OB)} (ρ ν:List (Nat×Nat)) (hp:Tri P k as' h (fun lo=>.ret (r lo) (h' lo)))
  (hA:okL (okN (toR ρ) 4) as' (as++cap)) (hH:a1k (toR ρ) s h) (hi:a2p (toR ρ)) (hcv:a0k h (toR ρ)) (hq:a7b ρ) (hM:M=true) (hNρ:(tgt ρ).all N=true) (hN:(tgt ν).all N=true) (hN2:((upT ρ ν (h' (loT h G.lo))).map (·.1)).all N=true)
  (hnew:b2v s h ν) (hall:a3o (toR (a1o (h' (loT h G.lo)) ρ++ν)) (h' (loT h G.lo))) (hu:a5f (h' (loT h G.lo))) :
  CallE P G N M (.fn (.func k) cap) as s (b7a (toR (a1o (h' (loT h G.lo)) ρ++ν)) 4 (r (loT h G.lo)),upT ρ ν (h' (loT h G.lo))):=by
 refine ⟨fun h=>(by rw [hM] at h;cases h),fun p hp=>List.all_eq_true.1 hN2 _ (List.mem_map_of_mem hp),?_⟩
 intro s' e o Q rest hc hr
 exact b3w ρ ν hp hA (d1u hNρ e hH) hi hcv hq hc ⟨b1q e hN hnew,hall,hu,hr⟩
def f4t (P:Program) (f:FuncId) (as:List V) (h:List (Nat×OB)) (u u':FrameMode) (h':List (Nat×OB)):Prop :=
 b7e P f∧∀ (lo:Nat) (w:World) (O:Nat→Prop) (E:Env) (ys:Array Value) (hlo:LoOK w (fun b=>O b∨c9r h E b) lo),ys.size=as.length →
  SimE (a9p d3z w O ys.size h E (a0x h) lo hlo) (St.of (a3y 0 as) h) ⟨ys,[]⟩ w E→CallsDIn Fence.wide 0 P f ys u w fun e u2 w'=>u2=u'∧Left w O h E lo hlo (.ret (.tup []) h') e w'
theorem bare {ow:Nat→Bool} {w:World} {O:Nat→Prop} {n:Nat} {h:List (Nat×OB)} {E0:Env} {nm:List Nat} {lo:Nat} {hlo:LoOK w (fun b=>O b∨c9r h E0 b) lo} {df:List Deferred} {nomk:Bool} {rd:Option Nat} {hnk}
  {s:St} {a:Act} {w':World} {E:Env} (hs:SimE { a9p ow w O n h E0 nm lo hlo with df:=df,nomk:=nomk,rd:=rd,hnk:=hnk } s a w' E):SimE (a9p ow w O n h E0 nm lo hlo) s ⟨a.tmps,[]⟩ w' E :=
 ⟨hs.fr,DefOK.nil,hs.size,hs.hp,hs.us,hs.inj,hs.fresh,hs.old,hs.grow,hs.os,hs.tape,hs.output,hs.keep,hs.base,hs.zi⟩
theorem g2w {ow:Nat→Bool} {w:World} {O:Nat→Prop} {n:Nat} {h:List (Nat×OB)} {E0:Env} {nm:List Nat} {lo:Nat} {hlo:LoOK w (fun b=>O b∨c9r h E0 b) lo} {df:List Deferred} {nomk:Bool} {rd:Option Nat} {hnk}
  {s:St} {a:Act} {w':World} {E:Env} (hs:SimE (a9p ow w O n h E0 nm lo hlo) s ⟨a.tmps,[]⟩ w' E) (hd:a.defers=df):SimE { a9p ow w O n h E0 nm lo hlo with df:=df,nomk:=nomk,rd:=rd,hnk:=hnk } s a w' E :=
 ⟨hs.fr,⟨[],by rw [hd];rfl,.nil,by simp⟩,hs.size,hs.hp,hs.us,hs.inj,hs.fresh,hs.old,hs.grow,hs.os,hs.tape,hs.output,hs.keep,hs.base,hs.zi⟩
theorem d5c {w:World} {O:Nat→Prop} {h0:List (Nat×OB)} {E:Env} {lo:Nat} {hlo:LoOK w (fun b=>O b∨c9r h0 E b) lo} {ys:Array Value} {as:List V} {m:Nat} (hm:ys.size≤m) (hE:SimE (a9p d3z w O ys.size h0 E (a0x h0) lo hlo) (St.of (a3y 0 as) h0) ⟨ys,[]⟩ w E) (ow:Nat→Bool) :
  SimE (a9p ow w O m h0 E (a0x h0) lo hlo) (St.of (a3y 0 as) h0) ⟨ys++Array.replicate (m - ys.size) undef,[]⟩ w E :=
 ⟨fun i=>by rw [b3i];exact hE.fr i,DefOK.nil,by simp [a9p];omega,hE.hp,hE.us,hE.inj,hE.fresh,hE.old,hE.grow,hE.os,hE.tape,hE.output,hE.keep,hE.base,trivial⟩
theorem b8q (u u':FrameMode) (val:Value) {P:Program} {f:FuncId} {fn:Func} {c2:Code} {id d:Nat} {o:Oper} {as:List V} {h0 h':List (Nat×OB)} {m:Nat} (hf:P.funcs[f]? = some fn) (hm:fn.ntmps=m) (hb:fn.body=some (.seq (.region id #[o] false) c2)) (hname:(fn.name == "runtime.NumGoroutine")=false)
  (hn:as.length≤m) (hrs:fn.results=#[]) (ho:o.op=.call ⟨.builtin .recover,#[],#[]⟩) (hod:o.dst=some d) (hog:o.guard=none) (hdm:d < m)
  (hrec:∀ (c₀:Frame) (cs:List Frame),c₀.mode=u→match recoverD (c₀::cs) with|some (v,cs')=>v=val∧cs'={ c₀ with mode:=u' }::cs|none=>val=.nilIface∧u'=u)
  (h:∀ (G:Gh),G.n=m→G.ow=(fun _=>false)→G.nm=a0x h0→vc P G c2 ((St.of (a3y 0 as) h0).set d (.v val)) (a5r P h0 [] (.ret (.tup []) h'))):f4t P f as h0 u u' h':=by
 subst hm
 refine ⟨⟨fn,hf,hname,by simp [hb]⟩,fun lo w O E ys hlo hsz hE=>?_⟩
 refine callsDIn_of_wpSIn hf hb trivial fun c₀ cs hu=>?_
 refine wpSIn_seq (wpSIn_region ?_)
 have hS:=d5c (m:=fn.ntmps) (by omega) hE (fun _=>false)
 generalize ha:({ tmps:=ys++Array.replicate (fn.ntmps - ys.size) undef,defers:=[] }:Act)=a at hS
 have had:a.defers=[]:=by rw [← ha]
 have hrun:(execOp a.eval o).run P w=.ok .recover w:=by simp [execOp,ho,resolve,invoke,builtin]
 have hab:∀ g,o.about P w a.eval=some g→Fence.wide.fn g:=fun _ _=>trivial
 have hwant:Region.wanted o (yielded #[o] a.tmps)=true:=by simp [Region.wanted,hog]
 have key:∀ cs',cs'={ c₀ with mode:=u' }::cs→c2.wpSIn Fence.wide 0 P (bodyPostS P fn c₀ cs fun e u2 w'=>u2=u'∧Left w O h0 E lo hlo (.ret (.tup []) h') e w') (a.put o.dst val) cs' w:=by
  rintro _ rfl
  refine wpSIn_of_wpIn rfl ?_
  let G:Gh:={ a9p (fun _=>false) w O fn.ntmps h0 E (a0x h0) lo hlo with nomk:=true,rd:=some 0,hnk:=fun _=>by simp }
  have hG:G.F=Fence.wide:=rfl
  have hs:Sim G ((St.of (a3y 0 as) h0).set d (.v val)) (a.put o.dst val) w:=by
   have h1:SimE G (St.of (a3y 0 as) h0) a w E:=g2w (a:=a) (by rw [← had];exact hS) had
   have:=h1.put (dst:=o.dst) (x:=.v val) (y:=val) (fun d' hd'=>by rw [hod] at hd';cases hd';exact hdm) (.r0 _ _ (.v _))
   rw [hod] at this ⊢
   exact ⟨E,this⟩
  have hw:=a0d c2 _ _ (h G rfl rfl rfl) _ w hs
  rw [hG] at hw
  refine wpIn_mono hw ?_
  rintro e a1 w1 ⟨s,hq,E1,hE1⟩
  have hd1:a1.defers=[]:=by
   obtain ⟨rs,e1,_,e3⟩:=hE1.defers
   cases rs with
   |nil=>exact e1
   |cons r rs=>have:=(e3 r (by simp)).2.2.2;cases this
  have fin:a5r P h0 [] (.ret (.tup []) h') .ret s→bodyPostS P fn c₀ cs (fun e u2 w'=>u2=u'∧Left w O h0 E lo hlo (.ret (.tup []) h') e w') .ret a1 ({ c₀ with mode:=u' }::cs) w1:=fun hq=>by
   obtain ⟨hres,ρ,h1,h2,h3,h4,h5⟩:=hq
   have hE2:=bare hE1
   obtain ⟨y,hy,hr⟩:=c0n hE2 hrs (by simp) hres
   refine ⟨hd1,u',rfl,y,hy,rfl,y,a6m ρ E1,rfl,c0c (ys:=#[y]) rfl hE2 h2 h3 h4 h5 fun i=>?_⟩
   cases i with
   |zero=>exact ren 4 h1 hr
   |succ i=>exact .r0 _ _ (.any _)
  cases e with
  |normal=>exact fin hq
  |ret=>exact fin hq
  |exit=>exact hq.elim
  |goto=>exact hq.elim
  |panic ch=>exact hq.elim
  |outgrown=>exact hq.elim
 have hr:=hrec c₀ cs hu
 show wpOpsSIn Fence.wide 0 P #[o] _ [0] a (c₀::cs) w
 have hl:#[o][0]? = some o:=rfl
 simp only [wpOpsSIn,hl,hwant,if_true,hrun]
 refine ⟨hab,?_⟩
 cases hx:recoverD (c₀::cs) with
 |some p =>
  obtain ⟨v,cs'⟩:=p
  rw [hx] at hr
  obtain ⟨rfl,hcs⟩:=hr
  exact key cs' hcs
 |none =>
  rw [hx] at hr
  obtain ⟨rfl,rfl⟩:=hr
  exact key _ (by rw [← hu])
def e7t (P:Program) (h0:List (Nat×OB)) (p:Nat) (x:Value) (wV:Int→Value) (K:Int→Prop) (out:Out):Exit→St→Prop
 |.normal,s|.ret,s=>s.hget p=some (.box [.v x])∧a5r P h0 [] out .ret (s.hset p (some (.box [.v x])))
 |.panic ch,s=>∃ k,K k∧ch=[{ v:=wV k,recovered:=false }]∧s.hget p=some (.box [.v x])∧a5r P h0 [] out .ret (s.hset p (some (.box [.v (.int .i64 k)])))
 |_,_=>False
theorem f0r {P:Program} {h0:List (Nat×OB)} {p:Nat} {x:Value} {wV:Int→Value} {K:Int→Prop} {out:Out} (s:St):e7t P h0 p x wV K out .normal s=(s.hget p=some (.box [.v x])∧a5r P h0 [] out .ret (s.hset p (some (.box [.v x])))):=rfl
theorem f2n {P:Program} {h0:List (Nat×OB)} {p:Nat} {x:Value} {wV:Int→Value} {K:Int→Prop} {out:Out} (s:St):e7t P h0 p x wV K out .ret s=(s.hget p=some (.box [.v x])∧a5r P h0 [] out .ret (s.hset p (some (.box [.v x])))):=rfl
theorem e2o {P:Program} {h0:List (Nat×OB)} {p:Nat} {x:Value} {wV:Int→Value} {K:Int→Prop} {out:Out} (ch:List PanicEntry) (s:St):e7t P h0 p x wV K out (.panic ch) s=(∃ k,K k∧ch=[{ v:=wV k,recovered:=false }]∧s.hget p=some (.box [.v x])∧a5r P h0 [] out .ret (s.hset p (some (.box [.v (.int .i64 k)])))):=rfl
theorem b1t (ow:Nat→Bool) {P:Program} {f told:FuncId} {fn:Func} {c2:Code} {id p:Nat} {o:Oper} {ts:Array TypeId} {x:Value} {as:List V} {h0:List (Nat×OB)} {post:Nat→Out} {m:Nat} (wV:Int→Value) (K:Int→Prop) (hf:P.funcs[f]? = some fn) (hm:fn.ntmps=m) (hb:fn.body=some (.seq (.region id #[o] false) c2)) (hname:(fn.name == "runtime.NumGoroutine")=false)
  (hn:as.length≤m) (hrs:fn.results=#[]) (ho:o.op=.defer ⟨.value (.func told),#[.tmp 0],ts⟩) (hod:o.dst=none) (hog:o.guard=none) (has:as[0]? = some (.ptr p 0)) (hp0:p ∈ a0x h0)
  (hret:f4t P told [.ptr 0 0] [(0,.box [.v x])] .returning .returning [(0,.box [.v x])])
  (hpan:∀ k,K k→f4t P told [.ptr 0 0] [(0,.box [.v x])] (.panicking [{ v:=wV k,recovered:=false }]) (.panicking [{ v:=wV k,recovered:=true }]) [(0,.box [.v (.int .i64 k)])])
  (h:∀ (G:Gh),G.n=m→G.ow=ow→G.nm=a0x h0→G.rd=none→vc P G c2 (St.of (a3y 0 as) h0) (e7t P h0 p x wV K (post G.lo))):Tri P f as h0 post:=by
 subst hm
 refine ⟨⟨fn,hf,hname,by simp [hb]⟩,fun lo w O E ys hlo hsz hE=>?_⟩
 have hS:=d5c (m:=fn.ntmps) (by omega) hE ow
 generalize ha:({ tmps:=ys++Array.replicate (fn.ntmps - ys.size) undef,defers:=[] }:Act)=a at hS
 have had:a.defers=[]:=by rw [← ha]
 obtain ⟨y0,hy0⟩:∃ y0,y0=a.eval (.tmp 0):=⟨_,rfl⟩
 have hnk0:false=true→(none:Option Nat)≠none:=fun h=>nomatch h
 let d:Deferred:={ target:=.fn (.func told) #[],args:=#[y0] }
 let G:Gh:={ a9p ow w O fn.ntmps h0 E (a0x h0) lo hlo with df:=[d] }
 have hGF:G.F=Fence.wide:=rfl
 refine a5z (G:=G) rfl hf hb ?_
 rw [ha]
 have hy0R:∃ b K0 C0,E p=some (some b,K0,C0)∧y0=.pointer (some ⟨b,0,none⟩):=by
  have h1:R w (OT (a9p ow w O fn.ntmps h0 E (a0x h0) lo hlo) (St.of (a3y 0 as) h0) E) E (.ptr p 0) y0:=by
   have:=b6k hS (.tmp 0)
   rw [← hy0] at this
   have e:ev (St.of (a3y 0 as) h0) (.tmp 0)=.ptr p 0:=by
    show lkV (a3y 0 as) 0=_
    rw [b3j];simp [has]
   rwa [e] at this
  exact R.ptr_inv h1
 have hrun:(execOp a.eval o).run P w=.ok (.defer d) w:=by
  have e1:a.eval (.func told)=.func (.func told) #[] #[]:=rfl
  simp [execOp,ho,resolve,Deferred.ofValue,e1,d,hy0]
 have hOf:∀ b,G.Of b→b < G.w0.heap.size:=fun b hb=>hE.old b hb
 have tail:∀ (u u':FrameMode) (x':Value) (s:St) (a1:Act) (w1:World) (E1:Env),u≠.run→settle u'=.returning→SimE G s a1 w1 E1→s.hget p=some (.box [.v x])→f4t P told [.ptr 0 0] [(0,.box [.v x])] u u' [(0,.box [.v x'])] →
   a5r P h0 [] (post (loT h0 lo)) .ret (s.hset p (some (.box [.v x'])))→LeavesInM Fence.wide 0 P fn a1.tmps (Left w O h0 E lo hlo (post (loT h0 lo))) a1.defers u w1:=by
  intro u u' x' s a1 w1 E1 hu hset hE1 hx ht hq
  refine b8y hu hE1 hOf fun w2 hE2=>?_
  have hB:SimE (a9p ow w O fn.ntmps h0 E (a0x h0) lo hlo) s ⟨a1.tmps,[]⟩ w2 E1:=⟨hE2.fr,DefOK.nil,hE2.size,hE2.hp,hE2.us,hE2.inj,hE2.fresh,hE2.old,hE2.grow,hE2.os,hE2.tape,hE2.output,hE2.keep,hE2.base,hE2.zi⟩
  obtain ⟨b0,K0,C0,hEp,hy⟩:=hy0R
  obtain ⟨r,hr1,hr2⟩:=hB.base p hp0
  rw [show (a9p ow w O fn.ntmps h0 E (a0x h0) lo hlo).E0=E from rfl,hEp] at hr1
  cases hr1
  have hx':s.hp p=some (.box [.v x]):=hx
  have hH:a1k (toR [(0,p)]) s [(0,.box [.v x])]:=by simp [a1k,a0r,toR,lkR,a1p,St.hget,hx',okL,okN]
  have hi:a2p (toR [(0,p)]):=by simp [a2p,toR,apart]
  have hc:a0k [(0,OB.box [.v x])] (toR [(0,p)]):=by simp [a0k,toR,usH]
  have hen:=c1x hB hH hi hc (as:=[.ptr 0 0]) (ys:=#[y0]) (fun j u hj=>by
   match j with
   |0=>simp at hj;subst hj;rw [hy];exact .ptr 0 0 b0 K0 C0 (by simp [a6m,toR,lkR,hr2])
   |j+1=>simp at hj) (d6b hB hH)
  have hcall:=ht.2 _ w2 _ _ #[y0] (d6b hB hH) rfl hen
  refine ⟨hu,.inr ⟨(fun h=>by cases h),.func told,#[],told,#[y0],rfl,?_,fun _ _=>trivial,hcall.mono ?_⟩⟩
  ·obtain ⟨fnT,hfT,hnT,hbT⟩:=ht.1
   have hn':fnT.name≠"runtime.NumGoroutine":=by simpa using hnT
   have hb':fnT.body≠none:=by intro h;simp [h] at hbT
   simp [d,invoke,callFunc,hfT,hb',hn']
  ·rintro e u2 w3 ⟨rfl,y,E3,rfl,h1⟩
   show LeavesInM Fence.wide 0 P fn a1.tmps _ [] (settle u2) w3
   rw [hset]
   obtain ⟨E4,b1,_⟩:=b5b hB hH hc h1 (by simp [a7b,lkR,toR]) (ν:=[]) trivial (by simp [a5f,usH])
   have e:a1j s (upT [(0,p)] [] [(0,.box [.v x'])])=s.hset p (some (.box [.v x'])):=by simp [upT,a3l,a6c,a1o,usH,toR,lkR,e5m,b7a,a1j]
   rw [e] at b1
   cases hp:post (loT h0 lo) with
   |pan x h'=>rw [hp] at hq;exact hq.elim
   |ret r h' =>
    rw [hp] at hq
    obtain ⟨hres,ρ,h1,h2,h3,h4,h5⟩:=hq
    obtain ⟨y,hy,hr⟩:=c0n b1 hrs (by simp) hres
    refine ⟨y,hy,y,a6m ρ E4,rfl,c0c (ys:=#[y]) rfl b1 h2 h3 h4 h5 fun i=>?_⟩
    cases i with
    |zero=>exact ren 4 h1 hr
    |succ i=>exact .r0 _ _ (.any _)
 refine wpIn_seq (wpIn_region_list ?_)
 have hS2:SimE G (St.of (a3y 0 as) h0) ({ a with defers:=d::a.defers }.put o.dst undef) w E:=by
  rw [hod]
  exact g2w (df:=[d]) (nomk:=false) (rd:=none) (hnk:=hnk0) (a:={ a with defers:=d::a.defers }) (by rw [← had];exact hS) (by show d::a.defers=_;rw [had])
 have hw:=a0d c2 _ _ (h G rfl rfl rfl rfl) _ w ⟨E,hS2⟩
 show wpListIn G.F 0 P #[o] _ [o] a w
 refine wpListIn_plain hog fun K' hK'=>?_
 refine ⟨fun _ _=>trivial,?_⟩
 have hsem:o.semAt G.F.round a.eval=execOp a.eval o:=by rw [hGF];exact Oper.semAt_none _ _
 rw [hsem,hrun,Oper.uponIn_defer]
 refine hK' _ _ ?_
 show Exit.then _ _ .normal _ _
 refine wpIn_mono hw ?_
 rintro e a1 w1 ⟨s,hq,E1,hE1⟩
 cases e with
 |normal=>exact tail .returning .returning x s a1 w1 E1 (by simp) rfl hE1 hq.1 hret hq.2
 |ret=>exact tail .returning .returning x s a1 w1 E1 (by simp) rfl hE1 hq.1 hret hq.2
 |exit=>exact hq.elim
 |goto=>exact hq.elim
 |panic ch =>
  obtain ⟨k,hk,rfl,q1,q2⟩:=hq
  exact tail _ _ (.int .i64 k) s a1 w1 E1 (by simp) rfl hE1 q1 (hpan k hk) q2
 |outgrown=>exact hq.elim
end Pm
open Go Go.RowKit Go.MapKept
namespace Pm
def f4r (m:List (Value×V)) (j:Nat) (v:V):List (Value×V):=match m[j]? with
 |some p=>m.set j (p.1,v)
 |none=>m
theorem SimE.mapSetO {G:Gh} {s:St} {a:Act} {w:World} {E:Env} (hs:SimE G s a w E) {id b:Nat} {ob ob':OB} {o o':Obj} (hob:s.hget id=some ob) (hE:E id=some (some b,0,0))
  (hh:w.heap[b]? = some o) (hHB:∀ (w':World) (O1:Nat→Prop),w'.heap.size=w.heap.size→(∀ k,k≠b→w'.heap[k]? = w.heap[k]?)→w'.heap[b]? = some o'→(∀ k,¬ OT G s E k→k < w.heap.size→¬ O1 k)→HB w' O1 E (some b) 0 0 ob') :
  SimE G (s.hset id (some ob')) a { w with heap:=w.heap.setIfInBounds b o' } E:=by
 obtain ⟨f1,f2,f3⟩:=a6q (o':=o') hh
 exact hs.write hob hE rfl rfl rfl f2 f3 fun O1 hO1=>hHB _ O1 f2 f3 f1 hO1
theorem b1m {P:Program} {G:Gh} {s:St} {o:Oper} {Q:Exit→St→Prop} {rest:St→Prop} {t d id:Nat} {x k:Operand} {kd:KD} {z:V} {kv:Value} {m:List (Value×V)}
  (ho:o.op=.mapEntry t x k) (hx:ev s x=.mp id) (hk:d0t (ev s k)=some kv) (hm:c1d P t=some (kd,z)) (hob:s.hget id=some (.map kd m)) (hkb:a8e kd kv=true) (hd:o.dst=some d) (hdn:d < G.n)
  (h0:lkM m kv=none→∀ bo:Int,rest (app s o.dst (.tup [z,.v (.int .i64 bo)],[(id,some (.mpe kd (m++[(kv,z)]) m.length bo))])))
  (h1:∀ (j:Nat) (p:Value×V),m[j]? = some p→p.1=kv→lkM m kv=some p.2→∀ bo:Int,rest (app s o.dst (.tup [p.2,.v (.int .i64 bo)],[(id,some (.mpe kd m j bo))]))):SemStep P G o s Q rest:=by
 intro a w hs
 obtain ⟨E,hs⟩:=hs
 refine a1b (fun c hc=>by rw [ho] at hc;cases hc) ?_
 obtain ⟨b,es,clock,hy,hE,hh,hsz,hrel,hst⟩:=c9u hs hob (a1y hs hx)
 obtain ⟨kt,et,zv,g1,g2,g3,rfl⟩:=b3r hm w
 have hkv:=d0g hk (b6k hs k)
 have hik:=a3r hkb
 unfold Oper.wp
 rcases b3t (w:=w) g2 hik es.toList m (by simpa using hsz) (fun i e p q1 q2=>⟨(hrel i e p (by simpa using q1) q2).1,(hrel i e p (by simpa using q1) q2).2.1⟩) with ⟨q1,q2,_,_,q5⟩|⟨j,e,p,q1,q2,q3,q4,q5,_,_⟩
 ·have hrun:(execOp a.eval o).run P w=.ok (.value (.tuple #[zv,goInt clock])) { w with heap:=w.heap.setIfInBounds b (.map (es.push { key:=kv,val:=zv,born:=clock }) (clock+1)) }:=by
   simp [execOp,ho,Instr.mapEntry,run_underlying g1,hy,hkv,MapKept.run_getObj_map hh,a4n g2 hik,q1,g3,MapKept.run_setObj_map _ hh,Result.andThen]
  rw [hrun]
  have hS:SimE G (s.hset id (some (.mpe kd (m++[(kv,vOf zv)]) m.length (clock:Int)))) a { w with heap:=w.heap.setIfInBounds b (.map (es.push { key:=kv,val:=zv,born:=clock }) (clock+1)) } E:=by
   refine hs.mapSetO hob hE hh fun w' O1 f2 f3 f1 hO1=>⟨b,_,_,rfl,f1,rfl,rfl,by simp [hsz],fun i e p r1 r2=>?_,stamped_push hst q5,⟨{ key:=kv,val:=zv,born:=clock },by rw [← hsz];simp,rfl⟩⟩
   rw [Array.getElem?_push] at r1
   by_cases hi:i=es.size
   ·rw [if_pos hi] at r1
    cases r1
    rw [hi,hsz] at r2
    simp at r2
    subst r2
    exact ⟨rfl,hik,f3g _ _ _ _⟩
   ·rw [if_neg hi] at r1
    have:i < m.length:=by have:=(Array.getElem?_eq_some_iff.1 r1).1;omega
    rw [List.getElem?_append_left this] at r2
    obtain ⟨u1,u2,u3⟩:=hrel i e p r1 r2
    exact ⟨u1,u2,u3.mono (by rw [f2];exact Nat.le_refl _) hO1 (fun k hk _=>f3 k (by rintro rfl;exact hk (.inr ⟨id,_,_,_,hob,hE⟩))) (fun _ _ h=>h)⟩
  refine ⟨_,h0 q2 (clock:Int),E,?_⟩
  refine SimE.put hS (fun d' h=>by rw [hd] at h;cases h;exact hdn) (.tup _ _ rfl fun i u y r1 r2=>?_)
  match i with
  |0=>simp at r1 r2;subst r1;subst r2;exact f3g _ _ _ _
  |1=>simp [goInt] at r1 r2;subst r1;subst r2;exact .r0 _ _ (.v _)
  |i+2=>simp at r1
 ·have hj:es[j]? = some e:=by simpa using q2
  have hpk:p.1=kv:=by rw [← (hrel j e p hj q3).1];exact q4
  have hrun:(execOp a.eval o).run P w=.ok (.value (.tuple #[e.val,goInt e.born])) { w with heap:=w.heap.setIfInBounds b (.map (es.modify j fun e=>{ e with key:=kv }) clock) }:=by
   simp [execOp,ho,Instr.mapEntry,run_underlying g1,hy,hkv,MapKept.run_getObj_map hh,a4n g2 hik,q1,hj,q4,b2o hik,MapKept.run_setObj_map _ hh,Result.andThen]
  rw [hrun]
  have hS:SimE G (s.hset id (some (.mpe kd m j (e.born:Int)))) a { w with heap:=w.heap.setIfInBounds b (.map (es.modify j fun e=>{ e with key:=kv }) clock) } E:=by
   refine hs.mapSetO hob hE hh fun w' O1 f2 f3 f1 hO1=>⟨b,_,_,rfl,f1,rfl,rfl,by simp [hsz],fun i e' p' r1 r2=>?_,stamped_modify hst _ _ (fun _ _=>rfl) (fun e' _ he'=>by rw [hj] at he';cases he';exact q4.symm),⟨{ e with key:=kv },by rw [Array.getElem?_modify,if_pos rfl,hj];rfl,rfl⟩⟩
   rw [Array.getElem?_modify] at r1
   have up:∀ {u:V} {y:Value},R w (OT G s E) E u y→R w' O1 E u y:=fun h=>h.mono (by rw [f2];exact Nat.le_refl _) hO1 (fun k hk _=>f3 k (by rintro rfl;exact hk (.inr ⟨id,_,_,_,hob,hE⟩))) (fun _ _ h=>h)
   by_cases hi:j=i
   ·subst hi
    rw [if_pos rfl,hj] at r1
    cases r1
    rw [q3] at r2
    cases r2
    obtain ⟨u1,u2,u3⟩:=hrel j e p hj q3
    exact ⟨hpk.symm,u2,up u3⟩
   ·rw [if_neg hi] at r1
    obtain ⟨u1,u2,u3⟩:=hrel i e' p' r1 r2
    exact ⟨u1,u2,up u3⟩
  refine ⟨_,h1 j p q3 hpk q5 (e.born:Int),E,?_⟩
  refine SimE.put hS (fun d' h=>by rw [hd] at h;cases h;exact hdn) (.tup _ _ rfl fun i u y r1 r2=>?_)
  obtain ⟨f1,f2,f3⟩:=a6q (o':=.map (es.modify j fun e=>{ e with key:=kv }) clock) hh
  have up:∀ {u:V} {y:Value},R w (OT G s E) E u y→R { w with heap:=w.heap.setIfInBounds b (.map (es.modify j fun e=>{ e with key:=kv }) clock) } (OT G (s.hset id (some (.mpe kd m j (e.born:Int)))) E) E u y:=fun h=>by
   refine h.mono (by rw [f2];exact Nat.le_refl _) (fun k hk _ hq=>hk ?_) (fun k hk _=>f3 k (by rintro rfl;exact hk (.inr ⟨id,_,_,_,hob,hE⟩))) (fun _ _ h=>h)
   rcases hq with hq|⟨i,ob,K,C,t1,t2⟩
   ·exact .inl hq
   ·by_cases hii:id=i
    ·subst hii;exact .inr ⟨id,_,K,C,hob,t2⟩
    ·rw [show (s.hset id (some (.mpe kd m j (e.born:Int)))).hp i=s.hp i from if_neg hii] at t1
     exact .inr ⟨i,ob,K,C,t1,t2⟩
  match i with
  |0=>simp at r1 r2;subst r1;subst r2;exact up (hrel j e p hj q3).2.2
  |1=>simp [goInt] at r1 r2;subst r1;subst r2;exact .r0 _ _ (.v _)
  |i+2=>simp at r1
theorem c2c:∀ (l:List MapEntry) (j:Nat) (e:MapEntry),(l.map (·.born)).Nodup→l[j]? = some e→l.findIdx? (fun x=>(x.born:Int) == (e.born:Int))=some j
 |[],j,e,_,h=>by simp at h
 |x::r,0,e,_,h=>by
  simp at h;subst h
  simp [List.findIdx?_cons]
 |x::r,j+1,e,hn,h=>by
  simp only [List.map_cons,List.nodup_cons] at hn
  simp at h
  have hne:((x.born:Int) == (e.born:Int))=false:=by
   rw [beq_eq_false_iff_ne]
   intro q
   exact hn.1 (List.mem_map.2 ⟨e,List.mem_of_getElem? h,by omega⟩)
  rw [List.findIdx?_cons,hne]
  simp [c2c r j e hn.2 h]
theorem a6k {P:Program} {G:Gh} {s:St} {o:Oper} {Q:Exit→St→Prop} {rest:St→Prop} {t id j:Nat} {bo:Int} {x st v:Operand} {kd:KD} {m:List (Value×V)}
  (ho:o.op=.entryStore t x st v) (hdst:o.dst=none) (hx:ev s x=.mp id) (hs':ev s st=.v (.int .i64 bo)) (hob:s.hget id=some (.mpe kd m j bo))
  (h:rest (s.hset id (some (.map kd (f4r m j (ev s v)))))):SemStep P G o s Q rest:=by
 intro a w hs
 obtain ⟨E,hs⟩:=hs
 refine a1b (fun c hc=>by rw [ho] at hc;cases hc) ?_
 obtain ⟨b,K,C,hE,hy⟩:=R.mp_inv (a1y hs hx)
 obtain ⟨b1,K1,C1,h1,b',es,clock,rfl,hh,rfl,rfl,hsz,hrel,hst,e,hj,hbo⟩:=hs.hp id _ hob
 rw [hE] at h1
 cases h1
 have hsv:=R.v_inv (a1y hs hs')
 have hv:=b6k hs v
 have hfi:es.findIdx? (fun x=>(x.born:Int) == bo)=some j:=by
  have ht:es.findIdx? (fun x=>(x.born:Int) == bo)=es.toList.findIdx? (fun x=>(x.born:Int) == bo):=by
   conv=>lhs;rw [← Array.toArray_toList (xs:=es)]
   rw [List.findIdx?_toArray]
  rw [ht,← hbo]
  exact c2c es.toList j e hst.2.1 (by simpa using hj)
 unfold Oper.wp
 have hrun:(execOp a.eval o).run P w=.ok .skip { w with heap:=w.heap.setIfInBounds b (.map (es.modify j fun e=>{ e with val:=a.eval v }) clock) }:=by
  simp [execOp,ho,Instr.entryStore,hy,hsv,MapKept.run_getObj_map hh,asInt,asIntOf,hfi,MapKept.run_setObj_map _ hh,Result.andThen]
 rw [hrun]
 refine ⟨_,h,E,?_⟩
 rw [hdst]
 have hjl:j < m.length:=by have:=(Array.getElem?_eq_some_iff.1 hj).1;omega
 have hmj:m[j]? = some m[j]:=List.getElem?_eq_getElem hjl
 have hset:f4r m j (ev s v)=m.set j (m[j].1,ev s v):=by unfold f4r;rw [hmj]
 rw [hset]
 refine hs.mapSetO hob hE hh fun w' O1 f2 f3 f1 hO1=>⟨b,_,_,rfl,f1,rfl,rfl,by simp [hsz],fun i e' p' r1 r2=>?_,stamped_modify hst _ _ (fun _ _=>rfl) (fun e' _ he'=>rfl)⟩
 have up:∀ {u:V} {y:Value},R w (OT G s E) E u y→R w' O1 E u y:=fun h=>h.mono (by rw [f2];exact Nat.le_refl _) hO1 (fun k hk _=>f3 k (by rintro rfl;exact hk (.inr ⟨id,_,_,_,hob,hE⟩))) (fun _ _ h=>h)
 rw [Array.getElem?_modify] at r1
 rw [List.getElem?_set] at r2
 by_cases hi:j=i
 ·subst hi
  rw [if_pos rfl,hj] at r1
  rw [if_pos rfl,if_pos hjl] at r2
  cases r1;cases r2
  obtain ⟨u1,u2,u3⟩:=hrel j e m[j] hj hmj
  exact ⟨u1,u2,up hv⟩
 ·rw [if_neg hi] at r1 r2
  obtain ⟨u1,u2,u3⟩:=hrel i e' p' r1 r2
  exact ⟨u1,u2,up u3⟩
theorem d3o {P:Program} {G:Gh} {s:St} {o:Oper} {Q:Exit→St→Prop} {rest:St→Prop} {t id off len el:Nat} {x:Operand} {z:Value} {l:List (List V)}
  (ho:o.op=.call ⟨.builtin .clear,#[x],#[t]⟩) (hdst:o.dst=none) (hx:ev s x=.own id off len 1) (hob:s.hget id=some (.arr el 1 l)) (hol:off+len=l.length)
  (hse:a0t P t=some (el,1)) (hz:a0q P el=some [z]) (hone:z.oneCell'=true)
  (h:rest (s.hset id (some (.arr el 1 (l.take off++List.replicate len [.v z]))))):SemStep P G o s Q rest:=by
 intro a w hs
 obtain ⟨E,hs⟩:=hs
 refine a1b (fun c hc=>by rw [ho] at hc;cases hc) ?_
 obtain ⟨hU,inf,hinf,hsz⟩:=a2c hse
 obtain ⟨zv,hzv,hzc⟩:∃ zv,inf.zero=some zv∧zv.cells.toList=[z]:=by
  unfold a0q at hz
  simp only [hinf,Option.bind_some,Option.map_eq_some_iff] at hz
  exact hz
 obtain ⟨b,K,C,hE,hle,hKC,hv⟩:=R.own_inv (a1y hs hx)
 obtain ⟨b1,K1,C1,h1,g1,g2,g3,g4,g5⟩:=hs.hp id _ hob
 rw [hE] at h1
 cases h1
 unfold Oper.wp
 have hzcs:∀ n,(Builtin.zeroCells zv.cells n).toList=List.replicate n z:=by
  intro n
  have hc1:zv.cells=#[z]:=by apply Array.toList_inj.1;rw [hzc]
  simp [Builtin.zeroCells,hc1,Nat.mod_one]
  try simp [List.map_const']
 cases b with
 |none =>
  obtain ⟨rfl,rfl,hy⟩:=hv
  have hrun:(execOp a.eval o).run P w=.ok (.value (.tuple #[])) w:=by
   simp [execOp,ho,resolve,invoke,builtin,Builtin.clear_,a0l P w hU,hy]
  rw [hrun]
  refine ⟨_,h,E,?_⟩
  rw [hdst]
  obtain ⟨rfl,rfl⟩:=g5
  have hl:l=[]:=List.eq_nil_of_length_eq_zero (by omega)
  subst hl
  simp only [List.take_nil,List.replicate_zero,List.append_nil]
  show SimE G (s.hset id (some (.arr el 1 []))) a w E
  refine (hs.upd (s':=s.hset id (some (.arr el 1 []))) (E':=E) (fun i=>i=id) rfl (Nat.le_refl _) rfl rfl rfl (fun _ _ _=>rfl)
   (fun i hi=>⟨by show (if id=i then _ else s.hp i)=_;rw [if_neg fun e=>hi e.symm],rfl⟩) (fun _ _ h=>h) (fun i hi=>by simp [St.hset,hi]) (fun i hi _=>by subst hi;simp [St.hset])
   (fun i o hi ho=>by subst hi;simp only [St.hset,if_true,Option.some.injEq] at ho;subst ho;exact ⟨_,_,_,hE,fun hO1=>⟨g1,g2,g3,g4,rfl,rfl⟩⟩)
   (fun i o b' K' C' hi _ he=>by subst hi;rw [hE] at he;cases he) (fun i i' _ _ _ _ _ hi hi' _ _ _ _=>by rw [hi,hi'])).1
 |some b =>
  obtain ⟨ys,hh,hys,hKC',hCm,hr⟩:=g5
  obtain ⟨o',ho',hy⟩:=hv
  simp only [Nat.mul_one] at hys ho'
  by_cases hlen:len=0
  ·subst hlen
   have hrun:(execOp a.eval o).run P w=.ok (.value (.tuple #[])) w:=by
    simp [execOp,ho,resolve,invoke,builtin,Builtin.clear_,a0l P w hU,hy]
   rw [hrun]
   refine ⟨_,h,E,?_⟩
   rw [hdst]
   have hl:l.take off=l:=List.take_of_length_le (by omega)
   simp only [hl,List.replicate_zero,List.append_nil]
   exact hs.write hob hE rfl rfl rfl rfl (fun _ _=>rfl) fun O1 hO1=>⟨g1,g2,g3,g4,ys,hh,by simpa using hys,hKC',hCm,fun i x j u y q1 q2 q3=>(hr i x j u y q1 q2 q3).mono (Nat.le_refl _) hO1 fun _ _ _=>rfl⟩
  ·have hoff:o'=off:=ho' (.inl (by omega))
   subst hoff
   have hst:=run_storeCells_at P b o' el (List.replicate len z) 0 ys w hh (by simp;omega) (fun v hv=>by rw [List.eq_of_mem_replicate hv];exact hone)
   have hrun:(execOp a.eval o).run P w=.ok (.value (.tuple #[])) (w.setRow b (ys.toList.take (o'+0)++List.replicate len z++ys.toList.drop (o'+0+(List.replicate len z).length)).toArray):=by
    obtain ⟨n,hn⟩:∃ n,len=n+1:=⟨len - 1,by omega⟩
    subst hn
    simp only [execOp,ho,resolve,invoke,builtin]
    simp [Builtin.clear_,a0l P w hU,hy,zeroValue,typeInfo,hinf,hzv,hzcs,hst]
   rw [hrun]
   refine ⟨_,h,E,?_⟩
   rw [hdst]
   have hrow:=setRow_heap w b ys (ys.toList.take (o'+0)++List.replicate len z++ys.toList.drop (o'+0+(List.replicate len z).length)).toArray el (0,0) hh
   have hoth:∀ k,k≠b→(w.setRow b (ys.toList.take (o'+0)++List.replicate len z++ys.toList.drop (o'+0+(List.replicate len z).length)).toArray).heap[k]? = w.heap[k]?:=fun k hk=>by
    simp [World.setRow,Array.getElem?_modify,Ne.symm hk]
   refine hs.write hob hE rfl rfl rfl (by simp [World.setRow]) hoth fun O1 hO1=>⟨fun x hx=>?_,g2,by simp;omega,by simp;omega,_,hrow,?_,hKC',hCm,fun i x j u y q1 q2 q3=>?_⟩
   ·rcases List.mem_append.1 hx with hx|hx
    ·exact g1 x (List.mem_of_mem_take hx)
    ·rw [List.eq_of_mem_replicate hx];rfl
   ·simp;omega
   ·have hmono:∀ {u:V} {y:Value},R0 w (OT G s E) u y→R0 (w.setRow b (ys.toList.take (o'+0)++List.replicate len z++ys.toList.drop (o'+0+(List.replicate len z).length)).toArray) O1 u y:=fun h=>h.mono (by simp [World.setRow]) hO1 fun k hk _=>hoth k (by rintro rfl;exact hk (.inr ⟨id,_,_,_,hob,hE⟩))
    have hi:i < o'+len:=by have:=(List.getElem?_eq_some_iff.1 q1).1;simp at this;omega
    have hj:j=0:=by
     have:j < x.length:=(List.getElem?_eq_some_iff.1 q2).1
     have hx1:x.length=1:=by
      rcases List.mem_append.1 (List.mem_of_getElem? q1) with hx|hx
      ·exact g1 x (List.mem_of_mem_take hx)
      ·rw [List.eq_of_mem_replicate hx];rfl
     omega
    subst hj
    simp only [Nat.mul_one,Nat.add_zero] at q3
    by_cases hio:i < o'
    ·rw [List.getElem?_append_left (by simp;omega),List.getElem?_take,if_pos hio] at q1
     have q3':ys[i]? = some y:=by
      rw [List.getElem?_toArray,List.append_assoc,List.getElem?_append_left (by simp;omega),List.getElem?_take,if_pos (by omega)] at q3
      simpa using q3
     exact hmono (hr i x 0 u y q1 q2 (by simpa using q3'))
    ·rw [List.getElem?_append_right (by simp;omega)] at q1
     have hx':x=[.v z]:=List.eq_of_mem_replicate (List.mem_of_getElem? q1)
     subst hx'
     simp at q2
     subst q2
     have q3':y=z:=by
      rw [List.getElem?_toArray,List.append_assoc,List.getElem?_append_right (by simp;omega),List.getElem?_append_left (by simp;omega)] at q3
      exact List.eq_of_mem_replicate (List.mem_of_getElem? q3)
     subst q3'
     exact .v _
theorem e1o {P:Program} {G:Gh} (ow:Nat→Bool) {o:Oper} {s:St} {Q:Exit→St→Prop} {rest:St→Prop} (h:fin P G o s Q rest (a3p P ow G.lo s o.dst o.op)):SemStep P G o s Q rest:=by
 by_cases hnd:∃ c,o.op=.defer c
 ·obtain ⟨c,hc⟩:=hnd
  rw [hc,b4z] at h
  exact h
 have hnd:∀ c,o.op≠.defer c:=fun c hc=>hnd ⟨c,hc⟩
 cases hr:a3p P ow G.lo s o.dst o.op with
 |stuck=>rw [hr] at h;exact h
 |call f as =>
  rw [hr] at h
  have hok:=a6r P { G with n:=o.dst.getD 0+1 } ow s o (by rintro d hd;simp [hd])
  rw [hr] at hok
  obtain ⟨x,l,ts,h1,h2,h3⟩:=hok
  exact h x l ts h1 h2 h3
 |br C =>
  rw [hr] at h
  obtain ⟨hc,h⟩:=h
  have hok:=a6r P G ow s o (a2u hc)
  rw [hr] at hok
  intro a w hs
  exact a1b hnd (hok a w hs _ _ fun b hb a' w' hs'=>⟨_,h b hb,hs'⟩)
 |heap C k =>
  rw [hr] at h
  obtain ⟨hc,hC,h⟩:=h
  have hok:=a6r P G ow s o (a2u hc)
  rw [hr] at hok
  intro a w hs
  exact a1b hnd (hok hC a w hs _ _ fun a' w' hs'=>⟨_,h,hs'⟩)
 |go C k =>
  rw [hr] at h
  obtain ⟨hc,hC,h⟩:=h
  have hok:=a6r P G ow s o (a2u hc)
  rw [hr] at hok
  intro a w hs
  exact a1b hnd (hok hC a w hs _ _ fun a' w' hs'=>⟨_,h,hs'⟩)
theorem e0c {P:Program} {G:Gh} {o:Oper} {s:St} {Q:Exit→St→Prop} {rest:St→Prop} (p:Nat→Bool) (h:fin P G o (frz p G.lo s) Q rest (a3p P (fun _=>false) G.lo (frz p G.lo s) o.dst o.op)):SemStep P G o s Q rest :=
 fun a w hs=>e1o (fun _=>false) h a w (c6u p a w hs)
theorem SimE.cut {G:Gh} {s:St} {a:Act} {w:World} {E:Env} (hs:SimE G s a w E) {id d k el sz:Nat} {l:List (List V)} (hob:s.hget id=some (.arr el sz l)) (hk:k≤l.length) (hu:s.used d=false) :
  ∃ E',SimE G (a1j s [(id,none),(d,some (.arr el sz (l.take k)))]) a w E'∧∀ y,R w (OT G s E) E (.own id 0 k sz) y→R w (OT G (a1j s [(id,none),(d,some (.arr el sz (l.take k)))]) E') E' (.own d 0 k sz) y:=by
 obtain ⟨b,K,C,hE,hHB⟩:=hs.hp id _ hob
 have hE0:E d=none:=by
  cases he:E d with
  |none=>rfl
  |some r=>have:=hs.us d (by rw [he];simp);rw [show s.us d=false from hu] at this;cases this
 have hne:id≠d:=by rintro rfl;rw [hE0] at hE;cases hE
 let E':Env:=fun i=>if i=d then some (b,k,C) else E i
 have hE'd:E' d=some (b,k,C):=if_pos rfl
 have hEE:∀ i r,E i=some r→E' i=some r:=fun i r hi=>by
  show (if i=d then _ else E i)=_
  rw [if_neg (by rintro rfl;rw [hE0] at hi;cases hi)];exact hi
 obtain ⟨hz,hs0,h48,hlK,hbb⟩:=hHB
 have hHB':∀ O',(∀ b,¬ OT G s E b→b < w.heap.size→¬ O' b)→HB w O' E' b k C (.arr el sz (l.take k)):=fun O' hO'=>by
  refine ⟨fun x hx=>hz x (List.mem_of_mem_take hx),hs0,by simp;omega,by simp;omega,?_⟩
  cases b with
  |none=>obtain ⟨q1,q2⟩:=hbb;exact ⟨by omega,q2⟩
  |some b =>
   obtain ⟨ys,q1,q2,q3,q4,q5⟩:=hbb
   exact ⟨ys,q1,q2,by omega,q4,fun i x j u y h1 h2 h3=>(q5 i x j u y (a0w _ _ _ _ h1).1 h2 h3).mono (Nat.le_refl _) hO' fun _ _ _=>rfl⟩
 have hhp:∀ i,(a1j s [(id,none),(d,some (.arr el sz (l.take k)))]).hp i=if d=i then some (.arr el sz (l.take k)) else if id=i then none else s.hp i:=fun i=>rfl
 have own:∀ i o',(i=d∨i=id)→(a1j s [(id,none),(d,some (.arr el sz (l.take k)))]).hp i=some o'→i=d∧o'=.arr el sz (l.take k):=fun i o' hi ho'=>by
  rw [hhp] at ho'
  split at ho'
  ·rename_i e;cases ho';exact ⟨e.symm,rfl⟩
  ·rename_i e
   rcases hi with rfl|rfl
   ·exact (e rfl).elim
   ·rw [if_pos rfl] at ho';cases ho'
 obtain ⟨h1,h2⟩:=hs.upd (s':=a1j s [(id,none),(d,some (.arr el sz (l.take k)))]) (w':=w) (E':=E') (fun i=>i=d∨i=id) rfl (Nat.le_refl _) rfl rfl rfl (fun _ _ _=>rfl)
  (fun i hi=>⟨by rw [hhp,if_neg fun e=>hi (.inl e.symm),if_neg fun e=>hi (.inr e.symm)],if_neg fun e=>hi (.inl e)⟩) hEE (fun i hi=>by simp [a1j,St.hset,hi]) (fun i hi _=>by rcases hi with rfl|rfl<;>simp [a1j,St.hset])
  (fun i o' hi ho'=>by obtain ⟨rfl,rfl⟩:=own i o' hi ho';exact ⟨_,_,_,hE'd,fun hO=>hHB' _ hO⟩)
  (fun i o' b' K' C' hi ho' he=>by
   obtain ⟨rfl,rfl⟩:=own i o' hi ho'
   rw [hE'd] at he;cases he
   exact .inr ⟨id,_,K,_,.inr rfl,hob,hE⟩)
  (fun i i' o1 o2 b x x' hi hi' ho1 ho2 _ _=>by rw [(own i o1 hi ho1).1,(own i' o2 hi' ho2).1])
 refine ⟨E',h1,fun y hy=>?_⟩
 obtain ⟨b1,K1,C1,g1,g2,g3,hv⟩:=R.own_inv hy
 rw [hE] at g1
 cases g1
 refine .own d 0 k sz b k C _ hE'd ?_
 cases b with
 |none =>
  obtain ⟨q1,q2,hv⟩:=hv
  exact ⟨by simp,by omega,by omega,q2,hv⟩
 |some b =>
  obtain ⟨o',ho',hv⟩:=hv
  exact ⟨by simp,by omega,o',ho',hv⟩
theorem c0o {P:Program} {G:Gh} {s:St} {o:Oper} {Q:Exit→St→Prop} {rest:St→Prop} (t id d k el sz:Nat) {l:List (List V)} (ht:s.get t=.own id 0 k sz) (hob:s.hget id=some (.arr el sz l)) (hk:k≤l.length) (hu:s.used d=false)
  (h:SemStep P G o ((a1j s [(id,none),(d,some (.arr el sz (l.take k)))]).set t (.own d 0 k sz)) Q rest):SemStep P G o s Q rest:=by
 rintro a w ⟨E,hs⟩
 obtain ⟨E',h1,h2⟩:=hs.cut hob hk hu
 refine h a w ⟨E',{ h1 with fr:=fun i=>?_ }⟩
 show R w (OT G (a1j s [(id,none),(d,some (.arr el sz (l.take k)))]) E') E' (if t=i then .own d 0 k sz else (a1j s [(id,none),(d,some (.arr el sz (l.take k)))]).fr i) _
 by_cases hi:t=i
 ·subst hi
  rw [if_pos rfl]
  exact h2 _ (by have:=hs.fr t;rw [show s.fr t=_ from ht] at this;exact this)
 ·rw [if_neg hi]
  exact h1.fr i
end Pm
end Go.Proofs.YtmjhfccbbfpppaaGreatDoor
