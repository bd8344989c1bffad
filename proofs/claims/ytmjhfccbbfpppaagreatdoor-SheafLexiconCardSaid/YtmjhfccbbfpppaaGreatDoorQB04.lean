import Derived.Maps.AppendAt
import Derived.Lib.ConvBytes
import Derived.Laws.BytesString
import Derived.Laws.AppendOwn
import Derived.Laws.StructEq
import Derived.ChangeKeysEq
import Derived.Test.YtmjhfccbbfpppaaGreatDoorQB03
namespace Go.Proofs.YtmjhfccbbfpppaaGreatDoor
open Go Go.RowKit
set_option linter.unusedSimpArgs false
set_option linter.unusedVariables false
namespace Pm
theorem a4l (w:World) (o:Obj):(w.alloc o).heap[w.heap.size]? = some o:=heap_alloc_new w o
theorem a5w (w:World) (o:Obj) (b:Nat) (h:b < w.heap.size):(w.alloc o).heap[b]? = w.heap[b]?:=Below.heap_alloc w o b h
theorem SimE.new {G:Gh} {s:St} {a:Act} {w:World} {E:Env} (h:SimE G s a w E) {id:Nat} (hid:s.us id=false) {ob:OB} {o:Obj} {K C:Nat}
  (hb:∀ (O':Nat→Prop) (E':Env),(∀ b,¬ OT G s E b→b < w.heap.size→¬ O' b)→(∀ i r,E i=some r→E' i=some r)→HB (w.alloc o) O' E' (some w.heap.size) K C ob) :
  ∃ E',SimE G (s.hset id (some ob)) a (w.alloc o) E'∧E' id=some (some w.heap.size,K,C)∧(∀ i r,E i=some r→E' i=some r)∧(∀ b,¬ OT G s E b→b < w.heap.size→¬ OT G (s.hset id (some ob)) E' b):=by
 have hE0:E id=none:=by
  cases he:E id with
  |none=>rfl
  |some r=>have:=h.us id (by rw [he];simp);rw [hid] at this;cases this
 let E':Env:=fun i=>if i=id then some (some w.heap.size,K,C) else E i
 have hEE:∀ i r,E i=some r→E' i=some r:=fun i r hi=>by
  show (if i=id then _ else E i)=_
  rw [if_neg (by rintro rfl;rw [hE0] at hi;cases hi)]
  exact hi
 have hE'id:E' id=some (some w.heap.size,K,C):=if_pos rfl
 obtain ⟨h1,h2⟩:=h.upd (s':=s.hset id (some ob)) (w':=w.alloc o) (E':=E') (fun i=>i=id) rfl (by simp) rfl rfl rfl (fun b hlt _=>a5w w _ b hlt)
  (fun i hi=>⟨by show (if id=i then _ else s.hp i)=_;rw [if_neg fun e=>hi e.symm],if_neg hi⟩) hEE (fun i hi=>by simp [St.hset,hi]) (fun i hi _=>by subst hi;simp [St.hset])
  (fun i o hi ho=>by subst hi;simp only [St.hset,if_true,Option.some.injEq] at ho;subst ho;exact ⟨_,_,_,hE'id,fun hO1=>hb _ _ hO1 hEE⟩)
  (fun i o b' K' C' hi _ he=>by subst hi;rw [hE'id] at he;cases he;exact .inl ⟨Nat.le_refl _,by simp⟩) (fun i i' _ _ _ _ _ hi hi' _ _ _ _=>by rw [hi,hi'])
 exact ⟨E',h1,hE'id,hEE,h2⟩
theorem SimE.junk {G:Gh} {s:St} {a:Act} {w:World} {E:Env} (h:SimE G s a w E) (o:Obj):SimE G s a (w.alloc o) E :=
 h.below ((Below.refl _ _).alloc (Nat.le_refl _) o)
theorem a2f {P:Program} {G:Gh} {s:St} {o:Oper} (hd:∀ d,o.dst=some d→d < G.n) {x:V} {l:List (Nat×Option OB)}
  (h:∀ a w E,SimE G s a w E→∃ y w' E',(execOp a.eval o).run P w=.ok (.value y) w'∧SimE G (a1h s l) a w' E'∧R w' (OT G (a1h s l) E') E' x y):b2z P G s o (app s o.dst (x,l)):=by
 rintro a w ⟨E,hs⟩ K Q hK
 obtain ⟨y,w',E',hy,hs',hR⟩:=h a w E hs
 unfold Oper.wp
 rw [hy]
 exact hK _ _ ⟨E',hs'.put hd hR⟩
def a8q (s:St):Option Nat→Option (List V)→Res
 |some d,some cs=>.heap (s.used d=false∧cs.length≤140737488355328) fun _=>(.ptr d 0,[(d,some (.box cs))])
 |_,_=>.stuck
theorem e0o {G:Gh} {s:St} {w:World} {E:Env} {cs:List V} {ys:Array Value} {t:TypeId} (hc:CellsR w (OT G s E) E cs ys) (hl:cs.length≤140737488355328) (K:Nat) (hK:K≤cs.length)
  (O':Nat→Prop) (E':Env) (hO:∀ b,¬ OT G s E b→b < w.heap.size→¬ O' b) (hE:∀ i r,E i=some r→E' i=some r):HB (w.alloc (.cells ys t)) O' E' (some w.heap.size) K K (.box cs) :=
 ⟨w.heap.size,ys,t,rfl,a4l w _,hc.1,⟨hK,hl⟩,rfl,fun j u y h1 h2=>(hc.2 j u y h1 h2).mono (by simp) hO (fun b _ hlt=>a5w w _ b hlt) hE⟩
theorem f9u (P:Program) (G:Gh) (s:St) (o:Oper) (hd:∀ d,o.dst=some d→d < G.n) (t:TypeId) (x:Operand) (ho:o.op=.box t x) :
  a2w P G s o (a8q s o.dst (a7w (ev s x))):=by
 unfold a8q
 split
 ·rename_i d cs hdd hcs
  rintro ⟨hu,hl⟩
  refine a2f hd fun a w E hs=>?_
  have hc:=c1g (b6t hs x) hcs
  obtain ⟨E',h1,h2,h3,h4⟩:=hs.new (id:=d) hu (o:=.cells (a.eval x).cells t) (K:=0) (C:=0) (e0o hc hl 0 (Nat.zero_le _))
  refine ⟨.pointer (some ⟨w.heap.size,0,none⟩),_,E',?_,h1,.ptr d 0 _ _ _ h2⟩
  simp [execOp,ho,Instr.box,newVar,newRow]
 ·trivial
def e4h (P:Program) (t:TypeId):Option (List Value):=match a0p P t with
 |some [.pointer none,.slice none 0 0]=>none
 |z=>z
theorem d5e {P:Program} {t:TypeId} {z:List Value} (h:e4h P t=some z):a0p P t=some z:=by
 unfold e4h at h
 split at h
 ·cases h
 ·exact h
theorem e9f (P:Program) (G:Gh) (s:St) (o:Oper) (hd:∀ d,o.dst=some d→d < G.n) (t:TypeId) (ho:o.op=.alloc t) :
  a2w P G s o (a8q s o.dst ((e4h P t).map fun z=>z.map .v)):=by
 unfold a8q
 split
 ·rename_i d cs hdd hcs
  rintro ⟨hu,hl⟩
  simp only [Option.map_eq_some_iff] at hcs
  obtain ⟨z,hz,rfl⟩:=hcs
  have hz:=d5e hz
  refine a2f hd fun a w E hs=>?_
  obtain ⟨zv,hzr,hzc⟩:=b1y hz w
  obtain ⟨E',h1,h2,h3,h4⟩:=hs.new (id:=d) hu (o:=.cells zv.cells t) (K:=0) (C:=0) (e0o (b3g hzc) hl 0 (Nat.zero_le _))
  refine ⟨.pointer (some ⟨w.heap.size,0,none⟩),_,E',?_,h1,.ptr d 0 _ _ _ h2⟩
  simp [execOp,ho,Instr.alloc,newVar,newRow,hzr]
 ·trivial
def c9w (ag:Bool) (n off:Nat) (cs:List V):Res:=match ag with
 |false=>.go (off < cs.length) fun _=>(cs[off]?).getD .any
 |true=>.go (off+n≤cs.length) fun _=>.agg ((cs.drop off).take n)
def b7s (s:St):Option (Bool×Nat)→V→Res
 |some (ag,n),.ptr id off=>match s.hget id with
  |some (.box cs)=>c9w ag n off cs
  |_=>.stuck
 |some (ag,n),.eptr id i k sz=>match s.hget id with
  |some (.arr _ sz' l)=>match ag with
   |false=>.go (sz'=sz∧k < sz∧i < l.length) fun h=>((l[i]'h.2.2)[k]?).getD .any
   |true=>.go (sz'=sz∧k+n≤sz∧i < l.length) fun h=>.agg (((l[i]'h.2.2).drop k).take n)
  |some (.box cs)=>c9w ag n (i * sz+k) cs
  |some (.arx _ sz' l)=>match ag with
   |false=>.go (sz'=sz∧k < sz∧i < l.length) fun h=>((l[i]'h.2.2)[k]?).getD .any
   |true=>.go (sz'=sz∧k+n≤sz∧i < l.length) fun h=>.agg (((l[i]'h.2.2).drop k).take n)
  |_=>.stuck
 |lk,x=>d3j lk x
theorem d0p (P:Program) (G:Gh) (s:St) (o:Oper) (hd:∀ d,o.dst=some d→d < G.n) (t:TypeId) (x:Operand) (ho:o.op=.load t x) {id off n:Nat} {cs:List V} {ag:Bool} (hl:a0m P t=some (ag,n)) (hob:s.hget id=some (.box cs))
  (hp:∀ a w E,SimE G s a w E→∃ b K C,E id=some (some b,K,C)∧a.eval x=.pointer (some ⟨b,off,none⟩)) :
  a2w P G s o (c9w ag n off cs):=by
 unfold c9w
 have core:∀ a w E,SimE G s a w E→∃ b ys t',a.eval x=.pointer (some ⟨b,off,none⟩)∧w.heap[b]? = some (.cells ys t' (0,0))∧CellsR w (OT G s E) E cs ys:=fun a w E hs=>by
  obtain ⟨b,K,C,hE,hy⟩:=hp a w E hs
  obtain ⟨b1,K1,C1,h1,b',ys,t',rfl,hh,hsz,_,_,hr⟩:=hs.hp id _ hob
  rw [hE] at h1
  cases h1
  exact ⟨b,ys,t',hy,hh,hsz,hr⟩
 split
 ·intro hlt
  refine a0j hd fun a w E hs=>?_
  obtain ⟨d,i,hu,hi,hag,hsz⟩:=a1u hl
  obtain ⟨b,ys,t',hy,hh,hc⟩:=core a w E hs
  have hlt':off < ys.size:=by rw [hc.1];exact hlt
  have hcell:w.cell? ⟨b,off,none⟩=some ys[off]:=by rw [cell_of_row w b off ys t' (0,0) hh];simp [hlt']
  refine ⟨ys[off],?_,?_⟩
  ·simp [execOp,ho,hy,Instr.loadAt,Instr.sureAddr,loadVar,a2q P w hu,hag,hcell]
  ·have h1:cs[off]? = some cs[off]:=List.getElem?_eq_getElem hlt
   simp only [h1,Option.getD_some]
   exact hc.2 off _ _ h1 (by simp [hlt'])
 ·intro hle
  refine a0j hd fun a w E hs=>?_
  obtain ⟨d,i,hu,hi,hag,hsz⟩:=a1u hl
  obtain ⟨b,ys,t',hy,hh,hc⟩:=core a w E hs
  have hrun:=a5p (P:=P) (w:=w) (b:=b) (o:=off) (n:=n) (f:=fun j=>ys.getD (off+j) undef) (fun j hj=>by
   rw [cell_of_row w b (off+j) ys t' (0,0) hh]
   have:off+j < ys.size:=by rw [hc.1];omega
   simp [this])
  refine ⟨.agg ((List.range n).map fun j=>ys.getD (off+j) undef).toArray,?_,.agg _ _ (by simp;omega) (fun j u y h1 h2=>?_)⟩
  ·simp [execOp,ho,hy,Instr.loadAt,Instr.sureAddr,loadVar,a2q P w hu,hag,a1n P w hi,hsz,hrun]
  ·obtain ⟨h3,hj⟩:=a0w _ _ _ _ h1
   rw [List.getElem?_drop] at h3
   have:off+j < ys.size:=by rw [hc.1];omega
   simp [hj] at h2
   subst h2
   exact hc.2 _ u _ h3 (by simp [this])
theorem d4l (P:Program) (G:Gh) (s:St) (o:Oper) (hd:∀ d,o.dst=some d→d < G.n) (t:TypeId) (x:Operand) (ho:o.op=.load t x) :
  a2w P G s o (b7s s (a0m P t) (ev s x)):=by
 unfold b7s
 split
 ·rename_i ag n id off hl hx
  split
  ·rename_i cs hob
   exact d0p P G s o hd t x ho hl hob fun a w E hs=>R.ptr_inv (a1t hs hx)
  ·trivial
 ·rename_i ag n id i k sz hl hx
  split
  ·rename_i t0 sz' l hob
   have core:∀ a w E,SimE G s a w E→sz'=sz→∀ hi:i < l.length,∃ b ys t',a.eval x=.pointer (some ⟨b,i * sz+k,none⟩)∧w.heap[b]? = some (.cells ys t' (0,0))∧(l[i]).length=sz∧i * sz+sz≤ys.size ∧
     ∀ (j:Nat) (u:V) (y:Value),(l[i])[j]? = some u→ys[i * sz+j]? = some y→R0 w (OT G s E) u y:=fun a w E hs hszz hi=>by
    obtain ⟨b,K,C,hE,_,hy⟩:=R.eptr_inv (a1t hs hx)
    obtain ⟨b1,K1,C1,h1,hz,h0,_,hK,hb⟩:=hs.hp id _ hob
    rw [hE] at h1
    cases h1
    subst hszz
    obtain ⟨ys,hh,hys,hKC,_,hr⟩:=hb
    refine ⟨b,ys,t0,hy,hh,hz _ (List.getElem_mem hi),?_,fun j u y h1 h2=>hr i _ j u y (List.getElem?_eq_getElem hi) h1 h2⟩
    have:(i+1) * sz'≤C * sz':=Nat.mul_le_mul_right _ (by omega)
    rw [hys]
    rw [Nat.succ_mul] at this
    omega
   split
   ·rintro ⟨hszz,hk,hi⟩
    refine a0j hd fun a w E hs=>?_
    obtain ⟨d,i',hu,hi',hag,hsz⟩:=a1u hl
    obtain ⟨b,ys,t',hy,hh,hel,hle,hr⟩:=core a w E hs hszz hi
    have hlt':i * sz+k < ys.size:=by omega
    have hcell:w.cell? ⟨b,i * sz+k,none⟩=some ys[i * sz+k]:=by rw [cell_of_row w b _ ys t' (0,0) hh];simp [hlt']
    refine ⟨ys[i * sz+k],?_,?_⟩
    ·simp [execOp,ho,hy,Instr.loadAt,Instr.sureAddr,loadVar,a2q P w hu,hag,hcell]
    ·have h1:(l[i])[k]? = some ((l[i])[k]'(by omega)):=List.getElem?_eq_getElem _
     simp only [h1,Option.getD_some]
     exact .r0 _ _ (hr k _ _ h1 (by simp [hlt']))
   ·rintro ⟨hszz,hk,hi⟩
    refine a0j hd fun a w E hs=>?_
    obtain ⟨d,i',hu,hi',hag,hsz⟩:=a1u hl
    obtain ⟨b,ys,t',hy,hh,hel,hle,hr⟩:=core a w E hs hszz hi
    have hrun:=a5p (P:=P) (w:=w) (b:=b) (o:=i * sz+k) (n:=n) (f:=fun j=>ys.getD (i * sz+k+j) undef) (fun j hj=>by
     rw [cell_of_row w b _ ys t' (0,0) hh]
     have:i * sz+k+j < ys.size:=by omega
     simp [this])
    refine ⟨.agg ((List.range n).map fun j=>ys.getD (i * sz+k+j) undef).toArray,?_,.agg _ _ (by simp;omega) (fun j u y h1 h2=>?_)⟩
    ·simp [execOp,ho,hy,Instr.loadAt,Instr.sureAddr,loadVar,a2q P w hu,hag,a1n P w hi',hsz,hrun]
    ·obtain ⟨h3,hj⟩:=a0w _ _ _ _ h1
     rw [List.getElem?_drop] at h3
     have:i * sz+k+j < ys.size:=by omega
     simp [hj] at h2
     subst h2
     refine .r0 _ _ (hr _ u _ h3 ?_)
     rw [← Nat.add_assoc]
     simp [this]
  ·rename_i cs hob
   exact d0p P G s o hd t x ho hl hob fun a w E hs=>let ⟨b,K,C,h1,_,h2⟩:=R.eptr_inv (a1t hs hx);⟨b,K,C,h1,h2⟩
  ·rename_i t0 sz' l hob
   have core:∀ a w E,SimE G s a w E→sz'=sz→∀ hi:i < l.length,∃ b ys t',a.eval x=.pointer (some ⟨b,i * sz+k,none⟩)∧w.heap[b]? = some (.cells ys t' (0,0))∧(l[i]).length=sz∧i * sz+sz≤ys.size ∧
     ∀ (j:Nat) (u:V) (y:Value),(l[i])[j]? = some u→ys[i * sz+j]? = some y→R w (OT G s E) E u y:=fun a w E hs hszz hi=>by
    obtain ⟨b,K,C,hE,_,hy⟩:=R.eptr_inv (a1t hs hx)
    obtain ⟨b1,K1,C1,h1,hz,h0,_,hK,hb⟩:=hs.hp id _ hob
    rw [hE] at h1
    cases h1
    subst hszz
    obtain ⟨ys,hh,hys,hKC,_,hr⟩:=hb
    refine ⟨b,ys,t0,hy,hh,hz _ (List.getElem_mem hi),?_,fun j u y h1 h2=>hr i _ j u y (List.getElem?_eq_getElem hi) h1 h2⟩
    have:(i+1) * sz'≤C * sz':=Nat.mul_le_mul_right _ (by omega)
    rw [hys]
    rw [Nat.succ_mul] at this
    omega
   split
   ·rintro ⟨hszz,hk,hi⟩
    refine a0j hd fun a w E hs=>?_
    obtain ⟨d,i',hu,hi',hag,hsz⟩:=a1u hl
    obtain ⟨b,ys,t',hy,hh,hel,hle,hr⟩:=core a w E hs hszz hi
    have hlt':i * sz+k < ys.size:=by omega
    have hcell:w.cell? ⟨b,i * sz+k,none⟩=some ys[i * sz+k]:=by rw [cell_of_row w b _ ys t' (0,0) hh];simp [hlt']
    refine ⟨ys[i * sz+k],?_,?_⟩
    ·simp [execOp,ho,hy,Instr.loadAt,Instr.sureAddr,loadVar,a2q P w hu,hag,hcell]
    ·have h1:(l[i])[k]? = some ((l[i])[k]'(by omega)):=List.getElem?_eq_getElem _
     simp only [h1,Option.getD_some]
     exact hr k _ _ h1 (by simp [hlt'])
   ·rintro ⟨hszz,hk,hi⟩
    refine a0j hd fun a w E hs=>?_
    obtain ⟨d,i',hu,hi',hag,hsz⟩:=a1u hl
    obtain ⟨b,ys,t',hy,hh,hel,hle,hr⟩:=core a w E hs hszz hi
    have hrun:=a5p (P:=P) (w:=w) (b:=b) (o:=i * sz+k) (n:=n) (f:=fun j=>ys.getD (i * sz+k+j) undef) (fun j hj=>by
     rw [cell_of_row w b _ ys t' (0,0) hh]
     have:i * sz+k+j < ys.size:=by omega
     simp [this])
    refine ⟨.agg ((List.range n).map fun j=>ys.getD (i * sz+k+j) undef).toArray,?_,.agg _ _ (by simp;omega) (fun j u y h1 h2=>?_)⟩
    ·simp [execOp,ho,hy,Instr.loadAt,Instr.sureAddr,loadVar,a2q P w hu,hag,a1n P w hi',hsz,hrun]
    ·obtain ⟨h3,hj⟩:=a0w _ _ _ _ h1
     rw [List.getElem?_drop] at h3
     have:i * sz+k+j < ys.size:=by omega
     simp [hj] at h2
     subst h2
     refine hr _ u _ h3 ?_
     rw [← Nat.add_assoc]
     simp [this]
  ·trivial
 ·exact f5m P G s o hd t x ho
end Pm
open Go Go.RowKit
namespace Pm
theorem SimE.write {G:Gh} {s:St} {a:Act} {w w':World} {E:Env} (h:SimE G s a w E) {id:Nat} {ob ob':OB} {b K C:Nat} (hob:s.hp id=some ob) (hEid:E id=some (some b,K,C))
  (hos:w'.os=w.os) (htape:w'.tape=w.tape) (hout:w'.output=w.output) (hsize:w'.heap.size=w.heap.size) (hkeep:∀ k,k≠b→w'.heap[k]? = w.heap[k]?)
  (hb:∀ O1,(∀ b,¬ OT G s E b→b < w.heap.size→¬ O1 b)→HB w' O1 E (some b) K C ob'):SimE G (s.hset id (some ob')) a w' E:=by
 refine (h.upd (s':=s.hset id (some ob')) (E':=E) (fun i=>i=id) rfl (Nat.le_of_eq hsize.symm) hos htape hout (fun k hk hne=>hkeep k fun e=>hne id ob K C rfl hob (by rw [hEid,e]))
  (fun i hi=>⟨by show (if id=i then _ else s.hp i)=_;rw [if_neg fun e=>hi e.symm],rfl⟩) (fun _ _ h=>h) (fun i hi=>by simp [St.hset,hi]) (fun i hi _=>by subst hi;simp [St.hset])
  (fun i o hi ho=>by subst hi;simp only [St.hset,if_true,Option.some.injEq] at ho;subst ho;exact ⟨_,_,_,hEid,fun hO1=>hb _ hO1⟩)
  (fun i o b' K' C' hi _ he=>by subst hi;exact .inr ⟨i,ob,K',C',rfl,hob,he⟩) (fun i i' _ _ _ _ _ hi hi' _ _ _ _=>by rw [hi,hi'])).1
def g4r:V→Bool
 |.v (.agg _)|.v (.tuple _)=>false
 |.v _|.lst _ _ _|.fp _|.ptr _ _|.eptr _ _ _ _|.own _ _ _ _|.mp _|.fn _ _=>true
 |_=>false
def a9v:List V→Bool
 |[]=>true
 |x::r=>g4r x && a9v r
theorem c5w {w:World} {O:Nat→Prop} {E:Env} {x:V} {y:Value} (hx:g4r x=true) (h:R w O E x y):y.oneCell'=true:=by
 cases x with
 |v z=>rw [R.v_inv h];cases z<;>first|rfl|cases hx
 |lst lo sz l=>obtain ⟨_,_,_,_,_,hy,_⟩:=R.lst_inv h;rw [hy];rfl
 |fp cs=>obtain ⟨_,_,_,hy,_⟩:=R.fp_inv h;rw [hy];rfl
 |ptr id off=>obtain ⟨_,_,_,_,hy⟩:=R.ptr_inv h;rw [hy];rfl
 |eptr id i k sz=>obtain ⟨_,_,_,_,_,hy⟩:=R.eptr_inv h;rw [hy];rfl
 |own id off len sz =>
  obtain ⟨b,K,C,hE,_,_,hv⟩:=R.own_inv h
  cases b with
  |none=>obtain ⟨_,_,hy⟩:=hv;rw [hy];rfl
  |some b=>obtain ⟨_,_,hy⟩:=hv;rw [hy];rfl
 |mp id=>obtain ⟨_,_,_,_,hy⟩:=R.mp_inv h;rw [hy];rfl
 |fn f cap=>obtain ⟨_,hy,_⟩:=R.fn_inv h;rw [hy];cases f<;>rfl
 |any=>cases hx
 |agg=>cases hx
 |tup=>cases hx
theorem b5o:∀ {l:List V},a9v l=true→∀ (j:Nat) (u:V),l[j]? = some u→g4r u=true:=by
 intro l
 induction l with
 |nil=>simp
 |cons x r ih =>
  intro h j u hj
  simp only [a9v,Bool.and_eq_true] at h
  cases j with
  |zero=>simp at hj;subst hj;exact h.1
  |succ j=>simp at hj;exact ih h.2 j u hj
theorem b8e {P:Program} {t:TypeId} {b o:Nat}:∀ (vs:List Value) (i:Nat) (w:World) (ys:Array Value),w.heap[b]? = some (.cells ys t (0,0))→o+i+vs.length≤ys.size→(∀ v ∈ vs,v.oneCell'=true) →
  ∃ w' ys',(storeCells ⟨b,o,none⟩ vs i).run P w=.ok () w'∧w'.heap[b]? = some (.cells ys' t (0,0))∧ys'.size=ys.size∧(∀ k,ys'[k]? = if o+i≤k∧k < o+i+vs.length then vs[k - (o+i)]? else ys[k]?) ∧
   w'.os=w.os∧w'.tape=w.tape∧w'.output=w.output∧w'.heap.size=w.heap.size∧∀ k,k≠b→w'.heap[k]? = w.heap[k]?:=by
 intro vs
 induction vs with
 |nil =>
  intro i w ys h _ _
  refine ⟨w,ys,rfl,h,rfl,fun k=>?_,rfl,rfl,rfl,rfl,fun _ _=>rfl⟩
  rw [if_neg (by simp)]
 |cons v r ih =>
  intro i w ys h hle hone
  simp only [List.length_cons] at hle
  have hcell:w.cell? ⟨b,o+i,none⟩=some (ys[o+i]'(by omega)):=by
   rw [cell_of_row w b (o+i) ys t (0,0) h];simp
  have hfr:w.frozen? ⟨b,o+i,none⟩=false:=by simp [World.frozen?,h]
  have hb:(w.setCell ⟨b,o+i,none⟩ v).heap[b]? = some (.cells (ys.setIfInBounds (o+i) v) t (0,0)):=by
   simp [World.setCell,Array.getElem?_modify,h]
  obtain ⟨w',ys',h1,h2,h3,h4,h5,h6,h7,h8,h9⟩:=ih (i+1) (w.setCell ⟨b,o+i,none⟩ v) (ys.setIfInBounds (o+i) v) hb (by simp only [Array.size_setIfInBounds];omega) (fun v hv=>hone v (List.mem_cons_of_mem _ hv))
  refine ⟨w',ys',?_,h2,by simpa using h3,fun k=>?_,h5,h6,h7,by simpa using h8,fun k hk=>(h9 k hk).trans (Below.heap_setCell w _ v k hk)⟩
  ·simp only [storeCells,Sem.run_bind,a3f,run_store P w _ v _ (hone v (List.mem_cons_self ..)),hcell,hfr]
   simpa using h1
  ·rw [h4 k]
   simp only [List.length_cons]
   by_cases hk:o+i=k
   ·subst hk
    rw [if_neg (by omega),if_pos (by omega)]
    have:o+i < ys.size:=by omega
    simp [this]
   ·by_cases hc:o+(i+1)≤k∧k < o+(i+1)+r.length
    ·rw [if_pos hc,if_pos (by omega)]
     have:k - (o+i)=(k - (o+(i+1)))+1:=by omega
     rw [this];rfl
    ·rw [if_neg hc,if_neg (by omega),Array.getElem?_setIfInBounds_ne hk]
def g5c (id off n:Nat) (cs xs:List V):Res :=
 .heap (xs.length=n∧off+n≤cs.length∧a9v xs=true) fun _=>(.any,[(id,some (.box (putCells cs off xs)))])
def f5k (id i k n sz sz' t:Nat) (l:List (List V)) (xs:List V):Res :=
 .heap (xs.length=n∧sz'=sz∧k+n≤sz∧a9v xs=true∧b0t xs=true∧i < l.length) fun h=>(.any,[(id,some (.arr t sz (l.set i (putCells (l[i]'h.2.2.2.2.2) k xs))))])
def f4t (id i k n sz sz' t:Nat) (l:List (List V)) (xs:List V):Res :=
 .heap (xs.length=n∧sz'=sz∧k+n≤sz∧a9v xs=true∧i < l.length) fun h=>(.any,[(id,some (.arx t sz (l.set i (putCells (l[i]'h.2.2.2.2) k xs))))])
def c9q (s:St):Option (Bool×Nat)→V→Option (List V)→Res
 |some (_,n),.ptr id off,some xs=>match s.hget id with
  |some (.box cs)=>g5c id off n cs xs
  |_=>.stuck
 |some (_,n),.eptr id i k sz,some xs=>match s.hget id with
  |some (.box cs)=>g5c id (i * sz+k) n cs xs
  |some (.arr t sz' l)=>f5k id i k n sz sz' t l xs
  |some (.arx t sz' l)=>f4t id i k n sz sz' t l xs
  |_=>.stuck
 |_,_,_=>.stuck
theorem c4g {P:Program} {w:World} {t n:Nat} {ag:Bool} (h:a0m P t=some (ag,n)) (a:Addr) (v:Value) (hv:v.cells.size=n):(storeVar t a v).run P w=(storeCells a v.cells.toList 0).run P w:=by
 obtain ⟨d,i,hu,hi,hag,hsz⟩:=a1u h
 simp [storeVar,a1n P w hi,hsz,hv]
theorem f4r {P:Program} {G:Gh} {s:St} {o:Oper} {t:TypeId} {p x:Operand} (ho:o.op=.store t p x) (hdst:o.dst=none) {b off n:Nat} {xs:List V} {ag:Bool} (hl:a0m P t=some (ag,n)) (hxs:a7w (ev s x)=some xs)
  (hn:xs.length=n) (hone:a9v xs=true) {a:Act} {w:World} {E:Env} (hs:SimE G s a w E) (hy:a.eval p=.pointer (some ⟨b,off,none⟩)) {ys:Array Value} {t':TypeId} (hh:w.heap[b]? = some (.cells ys t' (0,0))) (hle:off+n≤ys.size) :
  ∃ w' ys' vs,(execOp a.eval o).run P w=.ok .skip w'∧CellsR w (OT G s E) E xs vs∧w'.heap[b]? = some (.cells ys' t' (0,0))∧ys'.size=ys.size∧(∀ k,ys'[k]? = if off≤k∧k < off+n then vs[k - off]? else ys[k]?) ∧
   w'.os=w.os∧w'.tape=w.tape∧w'.output=w.output∧w'.heap.size=w.heap.size∧∀ k,k≠b→w'.heap[k]? = w.heap[k]?:=by
 obtain ⟨hx1,hx2⟩:=c1g (b6t hs x) hxs
 have hcell:∀ v ∈ (a.eval x).cells.toList,v.oneCell'=true:=fun v hv=>by
  obtain ⟨j,hj,rfl⟩:=List.getElem_of_mem hv
  have hj':j < xs.length:=by rw [← hx1];simpa using hj
  exact c5w (b5o hone j _ (List.getElem?_eq_getElem hj')) (hx2 j _ _ (List.getElem?_eq_getElem hj') (by simp))
 have hlen:(a.eval x).cells.toList.length=n:=by simpa [hn] using hx1
 obtain ⟨w',ys',g1,g2,g3,g4,g5,g6,g7,g8,g9⟩:=b8e (P:=P) (o:=off) (a.eval x).cells.toList 0 w ys hh (by omega) hcell
 refine ⟨w',ys',(a.eval x).cells,?_,⟨hx1,hx2⟩,g2,g3,fun k=>?_,g5,g6,g7,g8,g9⟩
 ·simp [execOp,ho,Instr.storeAt,Instr.sureAddr,hy,c4g hl _ _ (by omega:(a.eval x).cells.size=n),g1]
 ·rw [g4 k,hlen];simp
theorem d8c (P:Program) (G:Gh) (s:St) (o:Oper) (t:TypeId) (p x:Operand) (ho:o.op=.store t p x) (hdst:o.dst=none) {id off n:Nat} {cs xs:List V} {ag:Bool}
  (hl:a0m P t=some (ag,n)) (hob:s.hget id=some (.box cs)) (hxs:a7w (ev s x)=some xs)
  (hp:∀ a w E,SimE G s a w E→∃ b K C,E id=some (some b,K,C)∧a.eval p=.pointer (some ⟨b,off,none⟩)):a2w P G s o (g5c id off n cs xs):=by
 rintro ⟨hn,hle,hone⟩ a w ⟨E,hs⟩ K Q hK
 obtain ⟨b,K',C',hE,hy⟩:=hp a w E hs
 obtain ⟨b1,K1,C1,h1,b',ys,t',rfl,hh,hsz,hk1,hk2,hr⟩:=hs.hp id _ hob
 rw [hE] at h1
 cases h1
 obtain ⟨w',ys',vs,hrun,⟨hx1,hx2⟩,g2,g3,g4,g5,g6,g7,g8,g9⟩:=f4r ho hdst hl hxs hn hone hs hy hh (by omega)
 unfold Oper.wp
 rw [hrun]
 refine hK _ _ ⟨E,?_⟩
 rw [hdst]
 have hs':SimE G s a w E:=hs
 refine hs'.write hob hE g5 g6 g7 g8 g9 fun O1 hO1=>⟨b,ys',t',rfl,g2,by rw [(a2a xs cs off 0).1,g3,hsz],⟨by rw [(a2a xs cs off 0).1];exact hk1.1,by rw [(a2a xs cs off 0).1];exact hk1.2⟩,hk2,fun j u y h1 h2=>?_⟩
 have hkeepR:∀ {u:V} {y:Value},R w (OT G s E) E u y→R w' O1 E u y:=fun hx=>hx.mono (by omega) hO1
  (fun k hk _=>g9 k (by rintro rfl;exact hk (.inr ⟨id,_,_,_,hob,hE⟩))) (fun _ _ h=>h)
 rw [(a2a xs cs off j).2] at h1
 rw [g4 j] at h2
 split at h1
 ·rename_i hin
  rw [if_pos (by omega)] at h2
  exact hkeepR (hx2 _ u y h1 h2)
 ·rename_i hin
  rw [if_neg (by omega)] at h2
  exact hkeepR (hr j u y h1 h2)
theorem e9z (P:Program) (G:Gh) (s:St) (o:Oper) (t:TypeId) (p x:Operand) (ho:o.op=.store t p x) (hdst:o.dst=none) {id i k n sz sz' t':Nat} {l:List (List V)} {xs:List V} {ag:Bool}
  (hl:a0m P t=some (ag,n)) (hob:s.hget id=some (.arr t' sz' l)) (hxs:a7w (ev s x)=some xs) (hp:ev s p=.eptr id i k sz):a2w P G s o (f5k id i k n sz sz' t' l xs):=by
 rintro ⟨hn,rfl,hkn,hone,hpu,hi⟩ a w ⟨E,hs⟩ K Q hK
 obtain ⟨b,K',C',hE,hiK,hy⟩:=R.eptr_inv (a1t hs hp)
 obtain ⟨b1,K1,C1,h1,hz,h0,h48,hlK,hb⟩:=hs.hp id _ hob
 rw [hE] at h1
 cases h1
 obtain ⟨ys,hh,hys,hKC,hCm,hr⟩:=hb
 have hel:(l[i]).length=sz':=hz _ (List.getElem_mem hi)
 have hle:i * sz'+sz'≤ys.size:=by
  have:(i+1) * sz'≤C' * sz':=Nat.mul_le_mul_right _ (by omega)
  rw [Nat.succ_mul] at this
  omega
 obtain ⟨w',ys',vs,hrun,⟨hx1,hx2⟩,g2,g3,g4,g5,g6,g7,g8,g9⟩:=f4r ho hdst hl hxs hn hone hs hy hh (by omega)
 unfold Oper.wp
 rw [hrun]
 refine hK _ _ ⟨E,?_⟩
 rw [hdst]
 have hs':SimE G s a w E:=hs
 refine hs'.write hob hE g5 g6 g7 g8 g9 fun O1 hO1=>⟨fun r hr=>?_,h0,by simpa using h48,by simpa using hlK,ys',g2,by rw [g3,hys],hKC,hCm,fun i' r j u y h1 h2 h3=>?_⟩
 ·rcases List.mem_or_eq_of_mem_set hr with hr|rfl
  ·exact hz r hr
  ·rw [(a2a xs _ k 0).1,hel]
 have hkeepR:∀ {u:V} {y:Value},R0 w (OT G s E) u y→R0 w' O1 u y:=fun hx=>hx.mono (by omega) hO1
  (fun k hk _=>g9 k (by rintro rfl;exact hk (.inr ⟨id,_,_,_,hob,hE⟩)))
 rw [g4 _] at h3
 rw [List.getElem?_set] at h1
 by_cases hii:i=i'
 ·subst hii
  rw [if_pos rfl,if_pos hi] at h1
  cases h1
  rw [(a2a xs _ k j).2] at h2
  split at h2
  ·rename_i hin
   rw [if_pos (by omega)] at h3
   have e:i * sz'+j - (i * sz'+k)=j - k:=by omega
   rw [e] at h3
   exact hkeepR ((hx2 _ u y h2 h3).pureV (a7x hpu _ u h2))
  ·rename_i hin
   have hj:j < sz':=by have:=(List.getElem?_eq_some_iff.1 h2).1;omega
   rw [if_neg (by omega)] at h3
   exact hkeepR (hr i _ j u y (List.getElem?_eq_getElem hi) h2 h3)
 ·rw [if_neg hii] at h1
  have hj:j < sz':=by rw [← hz r (List.mem_of_getElem? h1)];exact (List.getElem?_eq_some_iff.1 h2).1
  rw [if_neg (by
   rintro ⟨q1,q2⟩
   rcases Nat.lt_or_gt_of_ne hii with h|h
   ·have:(i+1) * sz'≤i' * sz':=Nat.mul_le_mul_right _ h
    rw [Nat.succ_mul] at this;omega
   ·have:(i'+1) * sz'≤i * sz':=Nat.mul_le_mul_right _ h
    rw [Nat.succ_mul] at this;omega)] at h3
  exact hkeepR (hr i' r j u y h1 h2 h3)
theorem e8g (P:Program) (G:Gh) (s:St) (o:Oper) (t:TypeId) (p x:Operand) (ho:o.op=.store t p x) (hdst:o.dst=none) {id i k n sz sz' t':Nat} {l:List (List V)} {xs:List V} {ag:Bool}
  (hl:a0m P t=some (ag,n)) (hob:s.hget id=some (.arx t' sz' l)) (hxs:a7w (ev s x)=some xs) (hp:ev s p=.eptr id i k sz):a2w P G s o (f4t id i k n sz sz' t' l xs):=by
 rintro ⟨hn,rfl,hkn,hone,hi⟩ a w ⟨E,hs⟩ K Q hK
 obtain ⟨b,K',C',hE,hiK,hy⟩:=R.eptr_inv (a1t hs hp)
 obtain ⟨b1,K1,C1,h1,hz,h0,h48,hlK,hb⟩:=hs.hp id _ hob
 rw [hE] at h1
 cases h1
 obtain ⟨ys,hh,hys,hKC,hCm,hr⟩:=hb
 have hel:(l[i]).length=sz':=hz _ (List.getElem_mem hi)
 have hle:i * sz'+sz'≤ys.size:=by
  have:(i+1) * sz'≤C' * sz':=Nat.mul_le_mul_right _ (by omega)
  rw [Nat.succ_mul] at this
  omega
 obtain ⟨w',ys',vs,hrun,⟨hx1,hx2⟩,g2,g3,g4,g5,g6,g7,g8,g9⟩:=f4r ho hdst hl hxs hn hone hs hy hh (by omega)
 unfold Oper.wp
 rw [hrun]
 refine hK _ _ ⟨E,?_⟩
 rw [hdst]
 have hs':SimE G s a w E:=hs
 refine hs'.write hob hE g5 g6 g7 g8 g9 fun O1 hO1=>⟨fun r hr=>?_,h0,by simpa using h48,by simpa using hlK,ys',g2,by rw [g3,hys],hKC,hCm,fun i' r j u y h1 h2 h3=>?_⟩
 ·rcases List.mem_or_eq_of_mem_set hr with hr|rfl
  ·exact hz r hr
  ·rw [(a2a xs _ k 0).1,hel]
 have hkeepR:∀ {u:V} {y:Value},R w (OT G s E) E u y→R w' O1 E u y:=fun hx=>hx.mono (by omega) hO1
  (fun k hk _=>g9 k (by rintro rfl;exact hk (.inr ⟨id,_,_,_,hob,hE⟩))) (fun _ _ h=>h)
 rw [g4 _] at h3
 rw [List.getElem?_set] at h1
 by_cases hii:i=i'
 ·subst hii
  rw [if_pos rfl,if_pos hi] at h1
  cases h1
  rw [(a2a xs _ k j).2] at h2
  split at h2
  ·rename_i hin
   rw [if_pos (by omega)] at h3
   have e:i * sz'+j - (i * sz'+k)=j - k:=by omega
   rw [e] at h3
   exact hkeepR (hx2 _ u y h2 h3)
  ·rename_i hin
   have hj:j < sz':=by have:=(List.getElem?_eq_some_iff.1 h2).1;omega
   rw [if_neg (by omega)] at h3
   exact hkeepR (hr i _ j u y (List.getElem?_eq_getElem hi) h2 h3)
 ·rw [if_neg hii] at h1
  have hj:j < sz':=by rw [← hz r (List.mem_of_getElem? h1)];exact (List.getElem?_eq_some_iff.1 h2).1
  rw [if_neg (by
   rintro ⟨q1,q2⟩
   rcases Nat.lt_or_gt_of_ne hii with h|h
   ·have:(i+1) * sz'≤i' * sz':=Nat.mul_le_mul_right _ h
    rw [Nat.succ_mul] at this;omega
   ·have:(i'+1) * sz'≤i * sz':=Nat.mul_le_mul_right _ h
    rw [Nat.succ_mul] at this;omega)] at h3
  exact hkeepR (hr i' r j u y h1 h2 h3)
theorem e7p (P:Program) (G:Gh) (s:St) (o:Oper) (t:TypeId) (p x:Operand) (ho:o.op=.store t p x) (hdst:o.dst=none) :
  a2w P G s o (c9q s (a0m P t) (ev s p) (a7w (ev s x))):=by
 unfold c9q
 split
 ·rename_i ag n id off xs hl hp hxs
  split
  ·rename_i cs hob
   exact d8c P G s o t p x ho hdst hl hob hxs fun a w E hs=>R.ptr_inv (a1t hs hp)
  ·trivial
 ·rename_i ag n id i k sz xs hl hp hxs
  split
  ·rename_i cs hob
   refine d8c P G s o t p x ho hdst hl hob hxs fun a w E hs=>?_
   obtain ⟨b,K,C,h1,_,h2⟩:=R.eptr_inv (a1t hs hp)
   exact ⟨b,K,C,h1,h2⟩
  ·rename_i t' sz' l hob
   exact e9z P G s o t p x ho hdst hl hob hxs hp
  ·rename_i t' sz' l hob
   exact e8g P G s o t p x ho hdst hl hob hxs hp
  ·trivial
 ·trivial
def c6z (sz:Nat) (cs:List V) (i:Nat):List V:=(cs.drop (i * sz)).take sz
def g6f (lo sz n:Nat) (cs:List V):V:=.lst lo sz ((List.range n).map (c6z sz cs))
def e8e (bx:Bool) (el sz n:Nat) (cs:List V):OB:=if (b0t cs && !bx)=true then .arr el sz ((List.range n).map (c6z sz cs)) else .box cs
def b7a (P:Program) (own bx:Bool) (lo:Nat) (s:St) (n:Nat):Option Nat→Option (TypeId×Nat)→List (Nat×V)→Res
 |d,some (el,sz),parts=>match b4r (fun i=>some (i * sz,sz)) (List.replicate (n * sz) .any) parts with
  |some cs=>match own,d with
   |false,_=>.go (b0t cs=true∧0 < sz∧n * sz≤16777216∧(a0p P el).map List.length=some sz) fun _=>g6f lo sz n cs
   |true,some d=>.heap (s.used d=false∧0 < sz∧n * sz≤16777216∧(a0p P el).map List.length=some sz) fun _=>(.own d 0 n sz,[(d,some (e8e bx el sz n cs))])
   |true,none=>.stuck
  |_=>.stuck
 |_,_,_=>.stuck
theorem CellsR.any (w:World) (O:Nat→Prop) (E:Env) (ys:Array Value) (n:Nat) (h:ys.size=n):CellsR w O E (List.replicate n .any) ys:=by
 refine ⟨by simp [h],fun j u y h1 _=>?_⟩
 rw [List.getElem?_replicate] at h1
 split at h1
 ·cases h1;exact .r0 _ _ (.any _)
 ·cases h1
theorem e0j {P:Program} {G:Gh} {s:St} {a:Act} {w:World} {E:Env} (hs:SimE G s a w E) {o:Oper} {t n el sz:Nat} {parts:List (Nat×Operand)} (ho:o.op=.buildSlice t n parts.toArray)
  (hse:a0t P t=some (el,sz)) (hz:0 < sz→∃ z,a0p P el=some z∧z.length=sz) (h0:0 < sz) (h24:n * sz≤16777216) {cs:List V} (hcs:b4r (fun i=>some (i * sz,sz)) (List.replicate (n * sz) .any) (parts.map fun p=>(p.1,ev s p.2))=some cs) :
  ∃ ys:Array Value,(execOp a.eval o).run P w=.ok (.value (.slice (some ⟨w.heap.size,0,none⟩) n n)) (w.alloc (.cells ys el))∧CellsR w (OT G s E) E cs ys∧cs.length=n * sz:=by
 obtain ⟨hu,inf,hinf,hsz⟩:=a2b hse
 obtain ⟨z,hzk,hzl⟩:=hz h0
 obtain ⟨zv,hzr,hzc⟩:=b1y hzk w
 have hzs:zv.cells.size=sz:=by rw [← hzl,← hzc];simp
 let init:Array Value:=(Array.range (n * sz)).map fun i=>zv.cells[i % zv.cells.size]!
 have hinit:init.size=n * sz:=by simp [init]
 obtain ⟨ys,hfill,hc⟩:=c7y (w:=w) (O:=OT G s E) (E:=E) (fun i=>some (i * sz,sz)) _ (parts.map fun p=>(p.1,a.eval p.2)) (List.replicate (n * sz) .any) init cs (CellsR.any _ _ _ _ _ hinit) (by simp) (fun j i x hj=>by
  simp only [List.getElem?_map,Option.map_eq_some_iff] at hj
  obtain ⟨q,hq,he⟩:=hj
  simp only [Prod.mk.injEq] at he
  obtain ⟨rfl,rfl⟩:=he
  exact ⟨a.eval q.2,by simp [hq],b6t hs q.2⟩) hcs
 have hlen:∀ (ps:List (Nat×V)) (c c':List V),b4r (fun i=>some (i * sz,sz)) c ps=some c'→c'.length=c.length:=by
  intro ps
  induction ps with
  |nil=>intro c c' h;cases h;rfl
  |cons p r ih =>
   obtain ⟨i,x⟩:=p
   intro c c' h
   simp only [b4r] at h
   split at h
   ·split at h
    ·rw [ih _ _ h,(a2a _ _ _ 0).1]
    ·cases h
   ·cases h
 refine ⟨ys,?_,hc,by rw [hlen _ _ _ hcs];simp⟩
 have hn:¬ 16777216 < n * sz:=by omega
 by_cases hnz:n * sz=0
 ·have hinit0:init=#[]:=by apply Array.eq_empty_of_size_eq_zero;omega
  rw [hinit0] at hfill
  have er:Array.range 0=#[]:=rfl
  simp [execOp,ho,Instr.buildSlice,a0o P w hu,a1n P w hinf,hsz,hnz,newRow,er,hfill]
 ·have hpow:¬ 2 ^ 24 < n * sz:=by simpa using hn
  simp only [execOp,ho,Instr.buildSlice,Sem.run_bind,a0o P w hu,Result.andThen_ok,a1n P w hinf,hsz,gt_iff_lt,hpow,if_false,hnz,hzr,Sem.run_pure]
  have e:(List.map (fun p=>(p.1,a.eval p.2)) parts)=((parts.toArray.map fun x=>match x with|(i,x)=>(i,a.eval x)).toList):=by simp
  rw [e] at hfill
  simp only [init] at hfill
  rw [hfill]
  rfl
theorem c7j {P:Program} {G:Gh} {s:St} {o:Oper} {x:V} (hd:∀ d,o.dst=some d→d < G.n)
  (h:∀ a w E,SimE G s a w E→∃ y ob,(execOp a.eval o).run P w=.ok (.value y) (w.alloc ob)∧R (w.alloc ob) (OT G s E) E x y):b2z P G s o (a3z s o.dst x):=by
 rintro a w ⟨E,hs⟩ K Q hK
 obtain ⟨y,ob,hy,hR⟩:=h a w E hs
 unfold Oper.wp
 rw [hy]
 exact hK _ _ ⟨E,(hs.junk ob).put hd hR⟩
theorem c1d (P:Program) (G:Gh) (own bx:Bool) (s:St) (o:Oper) (hd:∀ d,o.dst=some d→d < G.n) (t n:Nat) (parts:List (Nat×Operand)) (ho:o.op=.buildSlice t n parts.toArray) :
  a2w P G s o (b7a P own bx G.lo s n o.dst (a0t P t) (parts.map fun p=>(p.1,ev s p.2))):=by
 have hz:∀ {el sz:Nat},(a0p P el).map List.length=some sz→(0 < sz→∃ z,a0p P el=some z∧z.length=sz):=fun h _=>by
  simpa using h
 unfold b7a
 split
 ·rename_i el sz hse
  split
  ·rename_i cs hcs
   split
   ·rintro ⟨hp,h0,h24,hzl⟩
    refine c7j hd fun a w E hs=>?_
    obtain ⟨ys,hrun,hc,hlen⟩:=e0j hs ho hse (hz hzl) h0 h24 hcs
    refine ⟨_,_,hrun,?_⟩
    have hO:∀ b,OT G s E b→b < w.heap.size:=e5z hs
    have hnew:¬ OT G s E w.heap.size:=fun h=>by have:=hO _ h;omega
    have hcell:∀ j (hj:j < ys.size),(w.alloc (.cells ys el)).cell? ⟨w.heap.size,j,none⟩=some ys[j]:=fun j hj=>by
     rw [cell_of_row _ _ j ys el (0,0) (a4l w _)];simp [hj]
    have up:∀ {x:V} {y:Value},R0 w (OT G s E) x y→R0 (w.alloc (.cells ys el)) (OT G s E) x y:=fun hx=>hx.mono (by simp) (fun _ h _=>h) fun b _ hlt=>a5w w _ b hlt
    have rows:R (w.alloc (.cells ys el)) (OT G s E) E (g6f G.lo sz n cs) (.slice (some ⟨w.heap.size,0,none⟩) n n):=by
     have idx:∀ (i x:Nat),(List.range n)[i]? = some x→i < n∧x=i:=fun i x h=>by
      have hi:i < n:=by simpa using (List.getElem?_eq_some_iff.1 h).1
      rw [List.getElem?_range hi] at h
      exact ⟨hi,by simpa using h.symm⟩
     have idx:∀ (i:Nat) (x:List V),((List.range n).map (c6z sz cs))[i]? = some x→i < n∧x=c6z sz cs i:=fun i x h=>by
      simp only [List.getElem?_map,Option.map_eq_some_iff] at h
      obtain ⟨k,hk,rfl⟩:=h
      have hi:i < n:=by simpa using (List.getElem?_eq_some_iff.1 hk).1
      rw [List.getElem?_range hi] at hk
      cases hk
      exact ⟨hi,rfl⟩
     refine .r0 _ _ (.lst G.lo sz _ _ n n w.heap.size 0 (fun i j=>ys.getD (i * sz+j) undef) (fun _=>Nat.le_trans G.hlo hs.grow) (by simp) (by simp) (by simp;exact Nat.le_trans (Nat.le_mul_of_pos_right n h0) (by omega)) (fun _=>⟨rfl,hnew,by simp⟩) (fun i x j u h1 h2=>?_) (fun x hx=>?_) (fun i x j u h1 h2=>?_))
     ·obtain ⟨hi,rfl⟩:=idx i x h1
      obtain ⟨h3,hj⟩:=a0w _ _ _ _ h2
      rw [List.getElem?_drop] at h3
      have hlt:i * sz+j < ys.size:=by rw [hc.1];exact (List.getElem?_eq_some_iff.1 h3).1
      have:=hcell _ hlt
      refine a3t (a4l w _) ?_
      simp only [Nat.zero_add,this,Array.getD_eq_getD_getElem?,Array.getElem?_eq_getElem hlt,Option.getD_some]
     ·simp only [List.mem_map,List.mem_range] at hx
      obtain ⟨k,hk,rfl⟩:=hx
      have:(k+1) * sz≤n * sz:=Nat.mul_le_mul_right _ (by omega)
      rw [Nat.succ_mul] at this
      simp [c6z]
      omega
     ·obtain ⟨hi,rfl⟩:=idx i x h1
      obtain ⟨h3,hj⟩:=a0w _ _ _ _ h2
      rw [List.getElem?_drop] at h3
      have hlt:i * sz+j < ys.size:=by rw [hc.1];exact (List.getElem?_eq_some_iff.1 h3).1
      simp only [Array.getD_eq_getD_getElem?,Array.getElem?_eq_getElem hlt,Option.getD_some]
      exact up ((hc.2 _ u _ h3 (Array.getElem?_eq_getElem hlt)).pureV (a7x hp _ u h3))
    exact rows
   ·rename_i d hdd
    rintro ⟨hu,h0,h24,hzl⟩
    refine a2f hd fun a w E hs=>?_
    obtain ⟨ys,hrun,hc,hlen⟩:=e0j hs ho hse (hz hzl) h0 h24 hcs
    have hn:n≤cs.length:=by rw [hlen];exact Nat.le_mul_of_pos_right n h0
    have hsz0:ys.size=n * sz:=by rw [hc.1,hlen]
    have hb:∀ (O':Nat→Prop) (E':Env),(∀ b,¬ OT G s E b→b < w.heap.size→¬ O' b)→(∀ i r,E i=some r→E' i=some r)→HB (w.alloc (.cells ys el)) O' E' (some w.heap.size) n n (e8e bx el sz n cs):=by
     intro O' E' hO hE
     unfold e8e
     split
     ·rename_i hp
      have hp:b0t cs=true:=by simp only [Bool.and_eq_true] at hp;exact hp.1
      have idx:∀ (i:Nat) (x:List V),((List.range n).map (c6z sz cs))[i]? = some x→i < n∧x=c6z sz cs i:=fun i x h=>by
       simp only [List.getElem?_map,Option.map_eq_some_iff] at h
       obtain ⟨k,hk,rfl⟩:=h
       have hi:i < n:=by simpa using (List.getElem?_eq_some_iff.1 hk).1
       rw [List.getElem?_range hi] at hk
       cases hk
       exact ⟨hi,rfl⟩
      refine ⟨fun x hx=>?_,h0,by simp;omega,by simp,ys,a4l w _,hsz0,Nat.le_refl _,by simp only [maxLen];omega,fun i x j u y h1 h2 h3=>?_⟩
      ·simp only [List.mem_map,List.mem_range] at hx
       obtain ⟨k,hk,rfl⟩:=hx
       have:(k+1) * sz≤n * sz:=Nat.mul_le_mul_right _ (by omega)
       rw [Nat.succ_mul] at this
       simp [c6z]
       omega
      ·obtain ⟨hi,rfl⟩:=idx i x h1
       obtain ⟨h4,hj⟩:=a0w _ _ _ _ h2
       rw [List.getElem?_drop] at h4
       exact ((hc.2 _ u _ h4 h3).pureV (a7x hp _ u h4)).mono (by simp) hO fun b _ hlt=>a5w w _ b hlt
     ·exact e0o hc (by omega) _ hn O' E' hO hE
    obtain ⟨E',h1,h2,h3,h4⟩:=hs.new (id:=d) hu (o:=.cells ys el) (K:=n) (C:=n) hb
    exact ⟨_,_,E',hrun,h1,.own d 0 n sz _ _ _ _ h2 ⟨by omega,Nat.le_refl _,0,by simp,by simp⟩⟩
   ·trivial
  ·trivial
 ·trivial
def a4v (b:UInt8):List V:=[.v (.int .u8 b.toNat)]
def a0h (P:Program) (t:TypeId):Bool:=match P.underlying t with
 |some (.slice e)=>(match P.underlying e with
  |some (.int .u8)=>true
  |_=>false)
 |_=>false
theorem c0c {P:Program} {t:TypeId} (h:a0h P t=true):∃ e,P.underlying t=some (.slice e)∧P.underlying e=some (.int .u8):=by
 unfold a0h at h
 split at h
 ·rename_i e he
  split at h
  ·rename_i he'
   exact ⟨e,he,he'⟩
  ·cases h
 ·cases h
def bytesOf:List (List V)→Option (List UInt8)
 |[]=>some []
 |[.v (.int .u8 n)]::r=>(bytesOf r).map (UInt8.ofNat n.toNat::·)
 |_::_=>none
theorem c7o (l:List UInt8):bytesOf (l.map a4v)=some l:=by
 induction l with
 |nil=>rfl
 |cons a r ih=>simp [bytesOf,a4v,ih]
def b9g (lo:Nat):TK→TK→Bool→Bool→V→Res
 |.str,.slc,_,true,.v (.string s)=>.go (s.size≤140737488355328) fun _=>.lst lo 1 (s.data.toList.map a4v)
 |.slc,.str,true,_,.lst _ 1 l=>match bytesOf l with
  |some bs=>.go True fun _=>.v (.string ⟨bs.toArray⟩)
  |_=>.stuck
 |a,b,_,_,x=>d5w a b x
theorem c5n {P:Program} {G:Gh} {s:St} {o:Oper} {x:V} (hd:∀ d,o.dst=some d→d < G.n)
  (h:∀ a w E,SimE G s a w E→∃ y w',(execOp a.eval o).run P w=.ok (.value y) w'∧Below w.heap.size w w'∧R w' (OT G s E) E x y):b2z P G s o (a3z s o.dst x):=by
 rintro a w ⟨E,hs⟩ K Q hK
 obtain ⟨y,w',hy,hb,hR⟩:=h a w E hs
 unfold Oper.wp
 rw [hy]
 exact hK _ _ ⟨E,(hs.below hb).put hd hR⟩
theorem b7p (w:World) (e:TypeId) (s:ByteArray):Below w.heap.size w (Lib.bytesWorld w e s):=by
 refine ⟨?_,?_,?_,by rw [Lib.bytesWorld_size];omega,fun k hk=>Lib.bytesWorld_at_old w e s k hk⟩ <;>
 ·unfold Lib.bytesWorld World.freeze
  split<;>rfl
theorem d5i:∀ (ns:List Int) (s:ByteArray),ns.foldl (fun r n=>r.push (UInt8.ofNat n.toNat)) s=⟨s.data++(ns.map fun n:Int=>UInt8.ofNat n.toNat).toArray⟩:=by
 intro ns
 induction ns with
 |nil=>intro s;simp
 |cons n r ih =>
  intro s
  rw [List.foldl_cons,ih]
  congr 1
  simp [ByteArray.push]
theorem c9t (P:Program) (G:Gh) (s:St) (o:Oper) (hd:∀ d,o.dst=some d→d < G.n) (t t':TypeId) (x:Operand) (ho:o.op=.convert t t' x) :
  a2w P G s o (b9g G.lo (tk P t) (tk P t') (a0h P t) (a0h P t') (ev s x)):=by
 unfold b9g
 split
 ·rename_i st h1 h2 hbe hx
  intro hle
  refine c5n hd fun a w E hs=>?_
  obtain ⟨e,hu,he⟩:=c0c hbe
  refine ⟨.slice (some ⟨w.heap.size,0,none⟩) st.size (grownCap w st.size 0 e),Lib.bytesWorld w e st,?_,b7p w e st,?_⟩
  ·simp [execOp,ho,R.v_inv (a1t hs hx),Lib.run_convert_string_bytes w t t' e st (b1v h1) hu he]
  have hO:¬ OT G s E w.heap.size:=fun h=>by have:=e5z hs _ h;omega
  have hcap:st.size≤grownCap w st.size 0 e:=by exact grownCap_ge _ _ _ _
  refine .r0 _ _ (.lst G.lo 1 _ _ st.size _ w.heap.size 0 (fun i _=>.int .u8 (st.data.toList.getD i 0).toNat) (fun _=>Nat.le_trans G.hlo hs.grow) (by simp) (by simpa using hcap) (by simpa using hle) (fun _=>⟨rfl,hO,by rw [Lib.bytesWorld_size];omega⟩) (fun i x j u h3 h4=>?_) (fun x hx=>?_) (fun i x j u h3 h4=>?_))
  ·simp only [List.getElem?_map,Option.map_eq_some_iff] at h3
   obtain ⟨b,hb,rfl⟩:=h3
   have hi:i < st.size:=by have:=(List.getElem?_eq_some_iff.1 hb).1;simpa using this
   have hj:j=0:=by have:=(List.getElem?_eq_some_iff.1 h4).1;simp [a4v] at this;exact this
   subst hj
   rw [show 0+(i * 1+0)=i by omega]
   exact ⟨Lib.bytesWorld_cell w e st i hi,fun h=>by cases h⟩
  ·simp only [List.mem_map] at hx
   obtain ⟨b,_,rfl⟩:=hx
   rfl
  ·simp only [List.getElem?_map,Option.map_eq_some_iff] at h3
   obtain ⟨b,hb,rfl⟩:=h3
   have hj:j=0:=by have:=(List.getElem?_eq_some_iff.1 h4).1;simp [a4v] at this;exact this
   subst hj
   simp [a4v] at h4
   subst h4
   have:st.data.toList.getD i 0=b:=by rw [List.getD_eq_getElem?_getD,hb];rfl
   rw [this]
   exact .v _
 ·rename_i lo l h1 h2 hbe hx
  split
  ·rename_i bs hbs
   intro _
   refine a0j hd fun a w E hs=>⟨.string ⟨bs.toArray⟩,?_,.r0 _ _ (.v _)⟩
   obtain ⟨e,hu,he⟩:=c0c hbe
   obtain ⟨ad,cap,b,o',g,hy,hc,hl,ha,hcell,hz,hr⟩:=R.lst_inv (a1t hs hx)
   have key:∀ (l:List (List V)) (bs:List UInt8),bytesOf l=some bs→∃ ns:List Int,l=ns.map (fun n=>[V.v (.int .u8 n)])∧bs=ns.map fun n:Int=>UInt8.ofNat n.toNat:=by
    intro l
    induction l with
    |nil=>intro bs h;cases h;exact ⟨[],rfl,rfl⟩
    |cons r rs ih =>
     intro bs h
     unfold bytesOf at h
     split at h
     ·rename_i e1;cases e1
     ·rename_i n r' e1
      cases e1
      simp only [Option.map_eq_some_iff] at h
      obtain ⟨bs',h,rfl⟩:=h
      obtain ⟨ns,rfl,rfl⟩:=ih bs' h
      exact ⟨n::ns,rfl,rfl⟩
     ·cases h
   obtain ⟨ns,rfl,rfl⟩:=key l bs hbs
   have hrun:(Conv.bytesToString (a.eval x)).run P w=.ok (.string ⟨(ns.map fun n:Int=>UInt8.ofNat n.toNat).toArray⟩) w:=by
    rw [hy]
    by_cases hne:ns=[]
    ·subst hne
     cases ad with
     |none=>rfl
     |some A=>simp [Conv.bytesToString,loadCells,loadCellsFrom];rfl
    ·have hne':ns.map (fun n=>[V.v (.int .u8 n)])≠[]:=by simpa using hne
     obtain ⟨rfl,_,_⟩:=ha hne'
     have hld:=a5p (P:=P) (w:=w) (b:=b) (o:=o') (n:=ns.length) (f:=fun j=>.int .u8 (ns.getD j 0)) (fun j hj=>by
      have h3:(ns.map fun n=>[V.v (.int .u8 n)])[j]? = some [V.v (.int .u8 ns[j])]:=by simp [hj]
      have h4:([V.v (.int .u8 ns[j])]:List V)[0]? = some (.v (.int .u8 ns[j])):=rfl
      have hc1:=hcell j _ 0 _ h3 h4
      have hr1:=hr j _ 0 _ h3 h4
      have e1:g j 0=Value.int .u8 ns[j]:=by
       revert hr1
       generalize g j 0=z
       intro hr1
       cases hr1;rfl
      rw [show o'+(j * 1+0)=o'+j by omega,e1] at hc1
      rw [hc1];simp [hj])
     have harr:((List.range ns.length).map fun j=>Value.int .u8 (ns.getD j 0)).toArray=(ns.map (Value.int .u8)).toArray:=by
      congr 1
      apply List.ext_getElem
      ·simp
      ·intro i h1 h2
       simp at h1 ⊢
       simp [h1]
     rw [harr] at hld
     simp only [List.length_map]
     rw [run_bytesToString w _ _ _ ns hld,d5i]
     simp
   simp [execOp,ho]
   rw [hy] at hrun ⊢
   rw [run_convert_bytes_string w t t' e _ _ _ hu he (b1v h2),hrun]
   rfl
  ·trivial
 ·exact d3b P G s o hd t t' x ho
end Pm
open Go Go.RowKit
namespace Pm
def a0g (P:Program) (t:TypeId):Option Nat:=(P.info? t).map (·.bytes)
inductive IsArr (s:St) (el sz:Nat):V→List (List V)→Option Nat→Prop
 |own (id:Nat) (l:List (List V)) (h:s.hget id=some (.arr el sz l)):IsArr s el sz (.own id 0 l.length sz) l (some id)
 |nil:IsArr s el sz (.v (.slice none 0 0)) [] none
inductive IsSrc (s:St) (sz:Nat):V→List (List V)→Prop
 |lst (lo:Nat) (l':List (List V)):IsSrc s sz (.lst lo sz l') l'
 |own (id off len el:Nat) (l:List (List V)) (h:s.hget id=some (.arr el sz l)):IsSrc s sz (.own id off len sz) ((l.drop off).take len)
 |nil:IsSrc s sz (.v (.slice none 0 0)) []
def a4r:Option Nat→List (Nat×Option OB)
 |some id=>[(id,none)]
 |none=>[]
theorem c2i {sz:Nat}:∀ (rows:List (List V)) (i:Nat) (r:List V) (j:Nat),(∀ r ∈ rows,r.length=sz)→rows[i]? = some r→j < sz→rows.flatten[i * sz+j]? = r[j]?:=by
 intro rows
 induction rows with
 |nil=>intro i r j _ h;simp at h
 |cons r0 rest ih =>
  intro i r j hl h hj
  have h0:r0.length=sz:=hl r0 (List.mem_cons_self ..)
  cases i with
  |zero =>
   simp at h;subst h
   simp only [Nat.zero_mul,Nat.zero_add,List.flatten_cons]
   rw [List.getElem?_append_left (by omega)]
  |succ i =>
   simp at h
   simp only [List.flatten_cons]
   rw [List.getElem?_append_right (by rw [Nat.succ_mul];omega),Nat.succ_mul,h0]
   rw [show i * sz+sz+j - sz=i * sz+j by omega]
   exact ih i r j (fun r hr=>hl r (List.mem_cons_of_mem _ hr)) h hj
theorem d9u {G:Gh} {s:St} {a:Act} {w:World} {E:Env} (hs:SimE G s a w E) {sz:Nat} {y:V} {rows:List (List V)} (hsrc:IsSrc s sz y rows) {yv:Value} (hR:R w (OT G s E) E y yv) :
  ∃ ad c,yv=.slice ad rows.length c∧(rows≠[]→∃ A:Addr,ad=some A∧∃ news:List Value,news.length=rows.length * sz∧(∀ j u,news[j]? = some u→w.cell? (A.add j)=some u) ∧
   (∀ r ∈ rows,r.length=sz)∧∀ (i:Nat) (r:List V) (j:Nat) (u:V) (z:Value),rows[i]? = some r→r[j]? = some u→news[i * sz+j]? = some z→R0 w (OT G s E) u z):=by
 cases hsrc with
 |lst =>
  obtain ⟨ad,cap,b,o,g,rfl,hc,hl,ha,hcell,hz,hr⟩:=R.lst_inv hR
  refine ⟨ad,cap,by simp,fun hne=>?_⟩
  have hne':rows≠[]:=by rintro rfl;exact hne rfl
  obtain ⟨rfl,hO,hlt⟩:=ha hne'
  have hrl:∀ r ∈ rows,r.length=sz:=hz
  by_cases hsz0:sz=0
  ·subst hsz0
   refine ⟨_,rfl,[],by simp,by simp,hrl,fun i r j u z h1 h2 h3=>by simp at h3⟩
  ·have hpos:0 < sz:=by omega
   have hdm:∀ k,k < rows.length * sz→k / sz < rows.length:=fun k hk=>Nat.div_lt_of_lt_mul (by rw [Nat.mul_comm];exact hk)
   refine ⟨_,rfl,(List.range (rows.length * sz)).map fun k=>g (k / sz) (k % sz),by simp,fun k u hk=>?_,hrl,fun i r j u z h1 h2 h3=>?_⟩
   ·simp only [List.getElem?_map,Option.map_eq_some_iff] at hk
    obtain ⟨k',hk',rfl⟩:=hk
    have hkl:k < rows.length * sz:=by have:=(List.getElem?_eq_some_iff.1 hk').1;simpa using this
    rw [List.getElem?_range hkl] at hk'
    cases hk'
    have hi:=hdm k hkl
    have hj:k % sz < sz:=Nat.mod_lt _ hpos
    have hx:rows[k / sz]? = some rows[k / sz]:=List.getElem?_eq_getElem hi
    have hel:=hz _ (List.getElem_mem hi)
    have hu:(rows[k / sz])[k % sz]? = some ((rows[k / sz])[k % sz]'(by omega)):=List.getElem?_eq_getElem _
    have:=hcell _ _ _ _ hx hu
    rw [a3f]
    rw [show k / sz * sz+k % sz=k from by rw [Nat.mul_comm];exact Nat.div_add_mod k sz] at this
    exact this
   ·simp only [List.getElem?_map,Option.map_eq_some_iff] at h3
    obtain ⟨k',hk',rfl⟩:=h3
    have hkl:i * sz+j < rows.length * sz:=by have:=(List.getElem?_eq_some_iff.1 hk').1;simpa using this
    rw [List.getElem?_range hkl] at hk'
    cases hk'
    have hj:j < sz:=by rw [← hz r (List.mem_of_getElem? h1)];exact (List.getElem?_eq_some_iff.1 h2).1
    have e1:(i * sz+j) / sz=i:=by rw [Nat.mul_comm,Nat.mul_add_div hpos,Nat.div_eq_of_lt hj];rfl
    have e2:(i * sz+j) % sz=j:=by rw [Nat.mul_comm,Nat.mul_add_mod,Nat.mod_eq_of_lt hj]
    rw [e1,e2]
    exact hr i r j u h1 h2
 |own id off len el l hob =>
  obtain ⟨b,K,C,hE,hle,hKC,hv⟩:=R.own_inv hR
  obtain ⟨b1,K1,C1,h1,hz,h0,hl48,hlK,hb⟩:=hs.hp id _ hob
  rw [hE] at h1
  cases h1
  have hlen:((l.drop off).take len).length=len:=by simp;omega
  cases b with
  |none =>
   obtain ⟨rfl,rfl,rfl⟩:=hv
   exact ⟨none,0,by simp,fun h=>by simp at h⟩
  |some b =>
   obtain ⟨o,ho,rfl⟩:=hv
   obtain ⟨ys,hh,hys,_,hCm,hr⟩:=hb
   refine ⟨_,_,by rw [hlen],fun hne=>⟨_,rfl,(ys.toList.drop (off * sz)).take (len * sz),?_,fun j u hj=>?_,fun r hr'=>hz r (List.mem_of_mem_drop (List.mem_of_mem_take hr')),fun i r j u z h1 h2 h3=>?_⟩⟩
   ·have hm:(off+len) * sz≤C * sz:=Nat.mul_le_mul_right _ (by omega)
    rw [Nat.add_mul] at hm
    rw [hlen,List.length_take,List.length_drop,Array.length_toList,hys];omega
   ·have hl0:0 < len:=by rw [← hlen];exact List.length_pos_iff.2 hne
    have ho':o=off * sz:=ho (.inl (by omega))
    obtain ⟨h3,hj'⟩:=a0w _ _ _ _ hj
    rw [List.getElem?_drop,Array.getElem?_toList] at h3
    rw [a3f,cell_of_row w b _ ys el (0,0) hh,ho',h3]
   ·obtain ⟨h1,hi⟩:=a0w _ _ _ _ h1
    rw [List.getElem?_drop] at h1
    obtain ⟨h3,hj'⟩:=a0w _ _ _ _ h3
    rw [List.getElem?_drop,Array.getElem?_toList] at h3
    exact hr (off+i) r j u z h1 h2 (by rw [Nat.add_mul,Nat.add_assoc];exact h3)
 |nil=>exact ⟨none,0,R.v_inv hR,fun h=>(h rfl).elim⟩
theorem d8e {G:Gh} {s:St} {a:Act} {w:World} {E:Env} (hs:SimE G s a w E) {el sz:Nat} {x:V} {l:List (List V)} {io:Option Nat} (ha:IsArr s el sz x l io) {xv:Value} (hR:R w (OT G s E) E x xv) :
  ∃ xs:List Value,w.ownsRow 0 el sz xv l.length xs∧(∀ b,xv.ownBlock=some b→∃ id C ob,io=some id∧s.hp id=some ob∧E id=some (some b,l.length,C)) ∧
   ∀ (i:Nat) (x:List V) (j:Nat) (u:V) (z:Value),l[i]? = some x→x[j]? = some u→xs[i * sz+j]? = some z→R0 w (OT G s E) u z:=by
 cases ha with
 |nil =>
  rw [R.v_inv hR]
  exact ⟨[],World.ownsRow_nil w 0 el sz,fun b h=>by simp [Value.ownBlock] at h,fun i x j u z h=>by simp at h⟩
 |own id l hob =>
  obtain ⟨b,K,C,hE,hle,hKC,hv⟩:=R.own_inv hR
  obtain ⟨b1,K1,C1,h1,hz,h0,hl48,hlK,hb⟩:=hs.hp id _ hob
  rw [hE] at h1
  cases h1
  cases b with
  |none =>
   obtain ⟨_,hl0,rfl⟩:=hv
   have hnil:l=[]:=List.eq_nil_of_length_eq_zero hl0
   subst hnil
   exact ⟨[],World.ownsRow_nil w 0 el sz,fun b h=>by simp [Value.ownBlock] at h,fun i x j u z h=>by simp at h⟩
  |some b =>
   obtain ⟨o,ho,rfl⟩:=hv
   obtain ⟨ys,hh,hys,_,hCm,hr⟩:=hb
   obtain rfl:o=0:=by rw [ho (.inr rfl)];simp
   have hle':l.length * sz≤C * sz:=Nat.mul_le_mul_right _ (by omega)
   have hyl:ys.toList.length=C * sz:=by simpa using hys
   refine ⟨ys.toList.take (l.length * sz),⟨by rw [List.length_take,hyl,Nat.min_eq_left hle'],.inr ⟨b,C,ys,by simp,Nat.zero_le _,hh,by omega,hCm,hys,rfl⟩⟩,fun b' h=>?_,fun i x j u z h1 h2 h3=>?_⟩
   ·simp [Value.ownBlock] at h;subst h;exact ⟨id,C,_,rfl,hob,by rw [hE,← hlK]⟩
   ·obtain ⟨h3,_⟩:=a0w _ _ _ _ h3
    exact hr i x j u z h1 h2 (by simpa using h3)
theorem SimE.grown {G:Gh} {s:St} {a:Act} {w w':World} {E:Env} (h:SimE G s a w E) {io:Option Nat} {d:Nat} (hd:s.us d=false) {ob:OB} {bo:Option Nat} {K C:Nat} {row:Option Nat}
  (hg:w.grownBy w' row) (hrow:∀ b,row=some b→∃ id ob' K' C',io=some id∧s.hp id=some ob'∧E id=some (some b,K',C')) (hb:∀ b,bo=some b→row=some b∨b=w.heap.size) (hlt:∀ b,bo=some b→b < w'.heap.size)
  (hHB:∀ (O':Nat→Prop) (E':Env),(∀ b,¬ OT G s E b→b < w.heap.size→¬ O' b)→HB w' O' E' bo K C ob) :
  ∃ E',SimE G (a1h s (a4r io++[(d,some ob)])) a w' E'∧E' d=some (bo,K,C):=by
 have hE0:E d=none:=by
  cases he:E d with
  |none=>rfl
  |some r=>have:=h.us d (by rw [he];simp);rw [hd] at this;cases this
 let E':Env:=fun i=>if i=d then some (bo,K,C) else E i
 have hE'd:E' d=some (bo,K,C):=if_pos rfl
 have hhp:∀ i,(a1h s (a4r io++[(d,some ob)])).hp i=if d=i then some ob else if io=some i then none else s.hp i:=fun i=>by
  cases io with
  |none=>simp [a4r,a1h,St.hset]
  |some id=>simp [a4r,a1h,St.hset]
 have hus:∀ i,s.us i=true→(a1h s (a4r io++[(d,some ob)])).us i=true:=fun i hi=>by cases io<;>simp [a4r,a1h,St.hset,hi]
 have husd:(a1h s (a4r io++[(d,some ob)])).us d=true:=by cases io<;>simp [a4r,a1h,St.hset]
 have husi:∀ i,io=some i→(a1h s (a4r io++[(d,some ob)])).us i=true:=fun i hi=>by subst hi;simp [a4r,a1h,St.hset]
 have hfr:(a1h s (a4r io++[(d,some ob)])).fr=s.fr:=by cases io<;>rfl
 have own:∀ i o,(i=d∨io=some i)→(a1h s (a4r io++[(d,some ob)])).hp i=some o→i=d∧o=ob:=fun i o hi ho=>by
  rw [hhp] at ho
  split at ho
  ·rename_i e;cases ho;exact ⟨e.symm,rfl⟩
  ·rename_i e
   rcases hi with hi|hi
   ·exact (e hi.symm).elim
   ·rw [if_pos hi] at ho;cases ho
 refine ⟨E',(h.upd (s':=a1h s (a4r io++[(d,some ob)])) (E':=E') (fun i=>i=d∨io=some i) hfr hg.size hg.os hg.tape hg.output (fun b hlt hne=>hg.block b hlt fun e=>?_)
  (fun i hi=>⟨by rw [hhp,if_neg fun e=>hi (.inl e.symm),if_neg fun e=>hi (.inr e)],if_neg fun e=>hi (.inl e)⟩)
  (fun i r hi=>?_) hus (fun i hi _=>?_) (fun i o hi ho=>?_) (fun i o b' K' C' hi ho he=>?_) (fun i i' o o' b x x' hi hi' ho ho' _ _=>?_)).1,hE'd⟩
 ·obtain ⟨id,ob',K',C',h1,h2,h3⟩:=hrow b e.symm
  exact hne id ob' K' C' (.inr h1) h2 h3
 ·show (if i=d then _ else E i)=_
  rw [if_neg (by rintro rfl;rw [hE0] at hi;cases hi)]
  exact hi
 ·rcases hi with rfl|hi
  ·exact husd
  ·exact husi i hi
 ·obtain ⟨rfl,rfl⟩:=own i o hi ho
  exact ⟨_,_,_,hE'd,fun hO1=>hHB _ _ hO1⟩
 ·obtain ⟨rfl,rfl⟩:=own i o hi ho
  rw [hE'd] at he
  cases he
  rcases hb b' rfl with hr|rfl
  ·obtain ⟨id,ob',K'',C'',q1,q2,q3⟩:=hrow b' hr
   exact .inr ⟨id,ob',K'',C'',.inr q1,q2,q3⟩
  ·exact .inl ⟨Nat.le_refl _,hlt _ rfl⟩
 ·rw [(own i o hi ho).1,(own i' o' hi' ho').1]
theorem SimE.drop {G:Gh} {s:St} {a:Act} {w:World} {E:Env} (h:SimE G s a w E) (id:Nat):SimE G (s.hset id none) a w E∧(∀ b,¬ OT G s E b→b < w.heap.size→¬ OT G (s.hset id none) E b) :=
 h.upd (s':=s.hset id none) (E':=E) (fun i=>i=id) rfl (Nat.le_refl _) rfl rfl rfl (fun _ _ _=>rfl) (fun i hi=>⟨by show (if id=i then _ else s.hp i)=_;rw [if_neg fun e=>hi e.symm],rfl⟩) (fun _ _ h=>h)
  (fun i hi=>by simp [St.hset,hi]) (fun i hi _=>by subst hi;simp [St.hset]) (fun i o hi ho=>by subst hi;simp [St.hset] at ho) (fun i o b' K' C' hi ho _=>by subst hi;simp [St.hset] at ho) (fun i i' o _ _ _ _ hi _ ho _ _ _=>by subst hi;simp [St.hset] at ho)
theorem d6y {w:World} {O:Nat→Prop} {E:Env} {b:Option Nat} {K C t sz lo off len:Nat} {l:List (List V)} {y:Value} (hb:HB w O E b K C (.arr t sz l)) (hv:e2k b K C off len sz y)
  (hO:∀ b',b=some b'→lo≤b'∧¬ O b'∧b' < w.heap.size):R0 w O (.lst lo sz ((l.drop off).take len)) y:=by
 obtain ⟨hle,hKC,hv⟩:=hv
 obtain ⟨hz,h0,hl,hK,hb⟩:=hb
 have hlen:((l.drop off).take len).length=len:=by simp;omega
 cases b with
 |none =>
  obtain ⟨rfl,rfl,rfl⟩:=hv
  have:(l.drop 0).take 0=[]:=by simp
  rw [this]
  exact .lst _ sz [] none 0 0 0 0 (fun _ _=>undef) (fun h=>(h rfl).elim) rfl (by simp) (by simp) (fun h=>(h rfl).elim) (by simp) (by simp) (by simp)
 |some b =>
  obtain ⟨o,ho,rfl⟩:=hv
  obtain ⟨ys,hh,hys,hKC',hC,hr⟩:=hb
  obtain ⟨hlo,hnf,hlt⟩:=hO b rfl
  have idx:∀ (i:Nat) x,((l.drop off).take len)[i]? = some x→l[off+i]? = some x∧i < len:=fun i x h=>by
   obtain ⟨h,hi⟩:=a0w _ _ _ _ h
   rw [List.getElem?_drop] at h
   exact ⟨h,hi⟩
  have bd:∀ (i:Nat) x (j:Nat) u,((l.drop off).take len)[i]? = some x→x[j]? = some u→(off+i) * sz+j < ys.size:=fun i x j u h1 h2=>by
   obtain ⟨h1,hi⟩:=idx i x h1
   have hx:x ∈ l:=List.mem_of_getElem? h1
   have hj:j < sz:=by rw [← hz x hx];exact (List.getElem?_eq_some_iff.1 h2).1
   have:(off+i+1) * sz≤C * sz:=Nat.mul_le_mul_right _ (by omega)
   rw [hys]
   rw [Nat.succ_mul] at this
   omega
  refine .lst lo sz _ _ len _ b (off * sz) (fun i j=>ys.getD ((off+i) * sz+j) undef) (fun _=>hlo) hlen.symm (by rw [hlen];omega) (by rw [hlen];omega) (fun hne=>?_) (fun i x j u h1 h2=>?_) (fun x hx=>hz x ?_) (fun i x j u h1 h2=>?_)
  ·have:0 < len:=by rw [← hlen];exact List.length_pos_iff.2 hne
   refine ⟨?_,hnf,hlt⟩
   rw [ho (.inl (by omega))]
  ·have hb:=bd i x j u h1 h2
   have e1:off * sz+(i * sz+j)=(off+i) * sz+j:=by rw [Nat.add_mul,Nat.add_assoc]
   refine a3t hh ?_
   rw [e1,cell_of_row w b _ ys t (0,0) hh]
   simp [hb]
  ·exact List.mem_of_mem_drop (List.mem_of_mem_take hx)
  ·have hb:=bd i x j u h1 h2
   obtain ⟨h1,hi⟩:=idx i x h1
   exact hr (off+i) x j u _ h1 h2 (by simp [hb])
def a3b:List (List V)→Bool
 |[]=>true
 |r::rs=>a9v r && a3b rs
theorem c6p:∀ {rs:List (List V)},a3b rs=true→∀ r ∈ rs,a9v r=true:=by
 intro rs
 induction rs with
 |nil=>simp
 |cons r rs ih =>
  intro h r' hr
  simp only [a3b,Bool.and_eq_true] at h
  rcases List.mem_cons.1 hr with rfl|hr
  ·exact h.1
  ·exact ih h.2 r' hr
theorem d5p {P:Program} {G:Gh} {s:St} {o:Oper} {d t el sz bytes:Nat} {xo yo:Operand} {x y:V} {l new:List (List V)} {io:Option Nat}
  (ho:o.op=.call ⟨.builtin .append,#[xo,yo],#[t,t]⟩) (hx:ev s xo=x) (hy:ev s yo=y)
  (hu:s.used d=false) (ha:IsArr s el sz x l io) (hsrc:IsSrc s sz y new) (hse:a0t P t=some (el,sz)) (hz:(a0p P el).map List.length=some sz) (hby:a0g P el=some bytes)
  (h0:0 < sz) (hone:a3b new=true) (hlen:(l.length+new.length) * bytes≤140737488355328) (hlen':l.length+new.length≤140737488355328) :
  ∀ a w E,SimE G s a w E→∃ v' w' E',(execOp a.eval o).run P w=.ok (.value v') w'∧SimE G (a1h s (a4r io++[(d,some (.arr el sz (l++new)))])) a w' E'∧R w' (OT G (a1h s (a4r io++[(d,some (.arr el sz (l++new)))])) E') E' (.own d 0 (l.length+new.length) sz) v':=by
 intro a w E hs
 obtain ⟨hU,inf,hinf,hsz⟩:=a2b hse
 obtain ⟨z,hzk,hzl⟩:∃ z,a0p P el=some z∧z.length=sz:=by simpa using hz
 obtain ⟨zv,hzv,hzc⟩:∃ zv,inf.zero=some zv∧zv.cells.toList=z:=by
  unfold a0p at hzk
  simp only [hinf,Option.bind_some,Option.map_eq_some_iff] at hzk
  exact hzk
 have hzs:zv.cells.size=sz:=by rw [← hzl,← hzc];simp
 have hb:inf.bytes=bytes:=by simpa [a0g,hinf] using hby
 have hRx:=a1t hs hx
 have hRy:=a1t hs hy
 obtain ⟨xs,hown,hob1,hxs⟩:=d8e hs ha hRx
 obtain ⟨ad,c,hyv,hsrc'⟩:=d9u hs hsrc hRy
 -- both ways,nil or not
 have run:∃ v' w' news,(Builtin.append_ #[t,t] o.type #[a.eval xo,a.eval yo]).run P w=.ok v' w'∧w'.ownsRow 0 el sz v' (l.length+new.length) (xs++news)∧w.grownBy w' (a.eval xo).ownBlock ∧
   (v'.ownBlock=(a.eval xo).ownBlock∨v'.ownBlock=some w.heap.size)∧news.length=new.length * sz∧(∀ r ∈ new,r.length=sz) ∧
   ∀ (i:Nat) (r:List V) (j:Nat) (u:V) (z:Value),new[i]? = some r→r[j]? = some u→news[i * sz+j]? = some z→R0 w (OT G s E) u z:=by
  by_cases hne:new=[]
  ·have hnil:new=[]:=by simpa using hne
   subst hnil
   simp only [List.length_nil,Nat.add_zero] at *
   have hrun:(Builtin.append_ #[t,t] o.type #[a.eval xo,a.eval yo]).run P w=.ok (a.eval xo) w:=by
    rw [hyv]
    rcases hown.2 with ⟨hv,h0'⟩|⟨g,cap,cur,hv,_,_,hnc,_⟩
    ·rw [hv]
     cases ad<;>simp [Builtin.append_,a0o P w hU,a1n P w hinf,Builtin.lenOf,Builtin.firstCells,loadCells,loadCellsFrom]
    ·rw [hv]
     cases ad<;>simp [Builtin.append_,a0o P w hU,a1n P w hinf,Builtin.lenOf,Builtin.firstCells,hnc,storeCells,loadCells,loadCellsFrom]
   exact ⟨a.eval xo,w,[],hrun,by simpa using hown,World.grownBy.refl w _,.inl rfl,by simp,by simp,fun i r j u z h=>by simp at h⟩
  ·obtain ⟨A,rfl,news,hnl,hnc,hrl,hnr⟩:=hsrc' hne
   have hone':∀ u ∈ news,u.oneCell'=true:=fun u hu=>by
    obtain ⟨k,hk,rfl⟩:=List.getElem_of_mem hu
    have hkl:k < new.length * sz:=by omega
    have hi:k / sz < new.length:=Nat.div_lt_of_lt_mul (by rw [Nat.mul_comm];exact hkl)
    have hj:k % sz < sz:=Nat.mod_lt _ h0
    have hi':k / sz < new.length:=hi
    have hr1:new[k / sz]? = some (new[k / sz]'hi'):=List.getElem?_eq_getElem _
    have hel:=hrl _ (List.getElem_mem hi')
    have hu1:(new[k / sz]'hi')[k % sz]? = some ((new[k / sz]'hi')[k % sz]'(by omega)):=List.getElem?_eq_getElem _
    have hk':news[k / sz * sz+k % sz]? = some news[k]:=by
     rw [show k / sz * sz+k % sz=k from by rw [Nat.mul_comm];exact Nat.div_add_mod k sz]
     exact List.getElem?_eq_getElem hk
    exact c5w (E:=E) (b5o (c6p hone _ (List.getElem_mem hi')) _ _ hu1) (.r0 _ _ (hnr _ _ _ _ _ hr1 hu1 hk'))
   obtain ⟨v',w',h1,h2,h3,_,h5⟩:=run_append_own_at (P:=P) w 0 t o.type el inf zv sz bytes hU hinf hzv hsz hb hzs h0 (a.eval xo) l.length xs hown A new.length c news hnl hnc hone' (by simp only [maxLen];omega) hlen (Nat.zero_le _)
   rw [hyv]
   exact ⟨v',w',news,h1,h2,h3,h5,hnl,hrl,hnr⟩
 obtain ⟨v',w',news,hrun,hown',hgrow,hblk,hnl,hrl,hnr⟩:=run
 have hexec:(execOp a.eval o).run P w=.ok (.value v') w':=by
  have:=hrun
  simp [execOp,ho,resolve,invoke,builtin,this]
 obtain ⟨hxl,_⟩:=hown
 have hlive:∀ b,(a.eval xo).ownBlock=some b→OT G s E b:=fun b hb=>by
  obtain ⟨id,C,ob,_,h2,h3⟩:=hob1 b hb
  exact .inr ⟨id,ob,_,C,h2,h3⟩
 have hkeep:∀ b,¬ OT G s E b→b < w.heap.size→w'.heap[b]? = w.heap[b]?:=fun b hnb hlt=>hgrow.block b hlt (fun e=>hnb (hlive b e.symm))
 have hrow:∀ b,(a.eval xo).ownBlock=some b→∃ id ob' K' C',io=some id∧s.hp id=some ob'∧E id=some (some b,K',C'):=fun b hb=>by
  obtain ⟨id,C,ob,h1,h2,h3⟩:=hob1 b hb
  exact ⟨id,ob,_,C,h1,h2,h3⟩
 have hel:∀ q,q ∈ l++new→q.length=sz:=fun q hq=>by
  rcases List.mem_append.1 hq with hq|hq
  ·cases ha with
   |nil=>simp at hq
   |own id _ hob =>
    obtain ⟨b,K,C,h1,h2,_⟩:=hs.hp id _ hob
    exact h2 q hq
  ·exact hrl _ hq
 have hall:l.length+new.length≤140737488355328:=hlen'
 rcases hown'.2 with ⟨hv,hzero⟩|⟨g,cap,cur,hv,_,hcur,hle,hcap,hcs,htake⟩
 ·obtain ⟨E',h1,h2⟩:=hs.grown (io:=io) (d:=d) hu (ob:=.arr el sz (l++new)) (bo:=none) (K:=0) (C:=0) hgrow hrow (by simp) (by simp) (fun O' E' _=>⟨hel,h0,by rw [List.length_append];omega,by rw [List.length_append];omega,rfl,rfl⟩)
  refine ⟨v',w',E',hexec,h1,.own d 0 _ sz none 0 0 _ h2 ⟨by omega,Nat.le_refl _,rfl,hzero,hv⟩⟩
 ·have hgb:(a.eval xo).ownBlock=some g∨g=w.heap.size:=by
   rw [hv] at hblk
   rcases hblk with hb|hb
   ·exact .inl hb.symm
   ·right;simpa [Value.ownBlock] using hb
  have hxsz:xs.length=l.length * sz:=hxl
  have hHB:∀ (O':Nat→Prop) (E':Env),(∀ b,¬ OT G s E b→b < w.heap.size→¬ O' b)→HB w' O' E' (some g) (l.length+new.length) cap (.arr el sz (l++new)):=fun O' E' hO'=>by
   refine ⟨hel,h0,by rw [List.length_append];omega,by rw [List.length_append],cur,hcur,hcs,hle,hcap,fun i x j u y h3 h4 h5=>?_⟩
   have hj:j < sz:=by rw [← hel x (List.mem_of_getElem? h3)];exact (List.getElem?_eq_some_iff.1 h4).1
   have hi:i < l.length+new.length:=by have:=(List.getElem?_eq_some_iff.1 h3).1;simpa using this
   have hlt:i * sz+j < (l.length+new.length) * sz:=by
    have:(i+1) * sz≤(l.length+new.length) * sz:=Nat.mul_le_mul_right _ (by omega)
    rw [Nat.succ_mul] at this
    omega
   have h5':(xs++news)[i * sz+j]? = some y:=by
    rw [← htake,List.getElem?_take,if_pos hlt];simpa using h5
   have mono:∀ {u:V} {y:Value},R0 w (OT G s E) u y→R0 w' O' u y:=fun h=>h.mono hgrow.size hO' hkeep
   by_cases hil:i < l.length
   ·rw [List.getElem?_append_left hil] at h3
    have hlt2:i * sz+j < l.length * sz:=by
     have:(i+1) * sz≤l.length * sz:=Nat.mul_le_mul_right _ (by omega)
     rw [Nat.succ_mul] at this
     omega
    rw [List.getElem?_append_left (by omega)] at h5'
    exact mono (hxs i x j u y h3 h4 h5')
   ·rw [List.getElem?_append_right (by omega)] at h3
    have hge:l.length * sz≤i * sz:=Nat.mul_le_mul_right _ (by omega)
    rw [List.getElem?_append_right (by omega),hxsz] at h5'
    have e1:i * sz+j - l.length * sz=(i - l.length) * sz+j:=by rw [Nat.mul_sub_right_distrib];omega
    rw [e1] at h5'
    exact mono (hnr (i - l.length) x j u y h3 h4 h5')
  obtain ⟨E',h1,h2⟩:=hs.grown (io:=io) (d:=d) hu (ob:=.arr el sz (l++new)) (bo:=some g) (K:=l.length+new.length) (C:=cap) hgrow hrow (fun b hb=>by cases hb;exact hgb)
   (fun b hb=>by cases hb;exact (Array.getElem?_eq_some_iff.1 hcur).1) hHB
  exact ⟨v',w',E',hexec,h1,.own d 0 _ sz (some g) _ cap _ h2 ⟨by omega,hle,0,by simp,by rw [hv];simp⟩⟩
theorem c9x {P:Program} {G:Gh} {own:Bool} {s:St} {o:Oper} {d t el sz bytes:Nat} {xo yo:Operand} {x y:V} {l new:List (List V)} {io:Option Nat}
  (ho:o.op=.call ⟨.builtin .append,#[xo,yo],#[t,t]⟩) (hx:ev s xo=x) (hy:ev s yo=y) (hd:∀ d,o.dst=some d→d < G.n)
  (hu:s.used d=false) (ha:IsArr s el sz x l io) (hsrc:IsSrc s sz y new) (hse:a0t P t=some (el,sz)) (hz:(a0p P el).map List.length=some sz) (hby:a0g P el=some bytes)
  (h0:0 < sz) (hone:a3b new=true) (hlen:(l.length+new.length) * bytes≤140737488355328) (hlen':l.length+new.length≤140737488355328) :
  b2z P G s o (app s o.dst (match own with
   |true=>(.own d 0 (l.length+new.length) sz,a4r io++[(d,some (.arr el sz (l++new)))])
   |false=>(.lst G.lo sz (l++new),a4r io++[(d,some (.arr el sz (l++new))),(d,none)]))):=by
 have run:=d5p (G:=G) ho hx hy hu ha hsrc hse hz hby h0 hone hlen hlen'
 cases own with
 |true=>exact a2f hd run
 |false =>
  refine a2f hd fun a w E hs=>?_
  obtain ⟨v',w',E',h1,h2,h3⟩:=run a w E hs
  have e:a1h s (a4r io++[(d,some (.arr el sz (l++new))),(d,none)])=(a1h s (a4r io++[(d,some (.arr el sz (l++new)))])).hset d none:=by cases io<;>rfl
  obtain ⟨h4,h5⟩:=h2.drop d
  refine ⟨v',w',E',h1,by rw [e];exact h4,?_⟩
  rw [e]
  have hob:(a1h s (a4r io++[(d,some (.arr el sz (l++new)))])).hp d=some (.arr el sz (l++new)):=by cases io<;>simp [a4r,a1h,St.hset]
  obtain ⟨b,K,C,hE,hv⟩:=R.own_inv h3
  obtain ⟨b1,K1,C1,hE1,hHB⟩:=h2.hp d _ hob
  rw [hE] at hE1
  cases hE1
  have hHB':=hHB.mono (w':=w') (O':=OT G ((a1h s (a4r io++[(d,some (.arr el sz (l++new)))])).hset d none) E') (Nat.le_refl _) h5 (fun _ _ _=>rfl) (fun _ _ h=>h) (fun _ _=>rfl)
  have:=d6y (lo:=G.lo) hHB' hv fun b' hb'=>by
   subst hb'
   refine ⟨h2.lo_le hob hE,?_,(h2.fresh d _ b' _ hob hE).2.2⟩
   rintro (hof|⟨i,o',K',C',g1,g2⟩)
   ·exact (h2.fresh d _ b' _ hob hE).2.1 hof
   ·simp only [St.hset] at g1
    split at g1
    ·cases g1
    ·rename_i hne
     exact hne (h2.inj d i _ _ b' _ _ hob g1 hE g2)
  rw [List.drop_zero,List.take_of_length_le (by simp)] at this
  exact .r0 _ _ this
end Pm
open Go
namespace Pm
def d9r (l:List TypeDesc):Nat→List TypeDesc
 |0=>[]
 |n+1=>l++d9r l n
def c7f (P:Program) (g:TypeId→Option (List TypeDesc)):List Field→Nat→Option (List TypeDesc)
 |[],_=>some []
 |f::r,off=>match g f.type with
  |some l=>if f.name≠"_"∧f.offset=off∧(a0m P f.type).map (·.2)=some l.length then (c7f P g r (off+l.length)).map (l++·) else none
  |none=>none
def a9c (P:Program):Nat→TypeId→Option (List TypeDesc)
 |0,_=>none
 |d+1,t=>match P.underlying t with
  |some .bool=>some [.bool]
  |some (.int k)=>some [.int k]
  |some .string=>some [.string]
  |some (.struct fs)=>if P.stoodInHeld t=true then none else c7f P (a9c P d) fs.toList 0
  |some (.array n e)=>match a9c P d e with
   |some l=>if (a0m P e).map (·.2)=some l.length then some (d9r l n) else none
   |none=>none
  |_=>none
def a4f (P:Program) (t:TypeId):Option (List TypeDesc):=if P.eqGuardType P.depth t=true∨(a0m P t).map (·.1)≠some true then none else a9c P 6 t
def eqX:Value→Value→Bool
 |.bool a,.bool b=>a == b
 |.int _ a,.int _ b=>decide (a=b)
 |.string a,.string b=>decide (a=b)
 |_,_=>false
def b7y:List Value→List Value→Bool
 |[],[]=>true
 |x::xs,y::ys=>eqX x y && b7y xs ys
 |_,_=>false
theorem Fits.len {ts:List TypeDesc} {xs:List Value} (h:Fits ts xs):xs.length=ts.length:=by
 induction h with
 |nil=>rfl
 |cons _ _ ih=>simp [ih]
theorem Fits.split {a b:List TypeDesc}:∀ {xs:List Value},Fits (a++b) xs→∃ u v,xs=u++v∧Fits a u∧Fits b v:=by
 induction a with
 |nil=>intro xs h;exact ⟨[],xs,rfl,.nil,h⟩
 |cons t ts ih =>
  intro xs h
  cases h with
  |cons h r =>
   obtain ⟨u,v,rfl,h1,h2⟩:=ih r
   exact ⟨_::u,v,rfl,.cons h h1,h2⟩
theorem c0w:∀ {a b c d:List Value},a.length=b.length→b7y (a++c) (b++d)=(b7y a b && b7y c d)
 |[],[],_,_,_=>by simp [b7y]
 |x::a,y::b,c,d,h=>by
  have:=c0w (a:=a) (b:=b) (c:=c) (d:=d) (by simpa using h)
  simp [b7y,this,Bool.and_assoc]
 |[],_::_,_,_,h=>by simp at h
 |_::_,[],_,_,h=>by simp at h
def mkX (P:Program) (t:TypeId) (xs:List Value):Value:=match P.underlying t with
 |some d=>if a5e d=true then .agg xs.toArray else xs.headD undef
 |none=>undef
section
variable {P:Program}
theorem b4d {w:World} {t:TypeId} {n:Nat} (hl:(a0m P t).map (·.2)=some n) (pre xs post:List Value) (hx:xs.length=n) (h1:(a0m P t).map (·.1)=some false→n=1) :
  (part t (pre++xs++post).toArray pre.length).run P w=.ok (mkX P t xs) w:=by
 cases hk:a0m P t with
 |none=>simp [hk] at hl
 |some q =>
  obtain ⟨ag,m⟩:=q
  simp only [hk,Option.map_some,Option.some.injEq] at hl h1
  subst hl
  obtain ⟨d,i,hu,hi,hag,hsz⟩:=a1u hk
  cases ag with
  |false =>
   have hn1:=h1 rfl
   match xs,hx with
   |[x],_ =>
    rw [a9x hk _ _ x (by simp)]
    simp [mkX,hu,hag]
   |[],hx=>simp at hx;omega
   |_::_::_,hx=>simp at hx;omega
  |true =>
   rw [a9w hk]
   have:(pre++xs++post).toArray.extract pre.length (pre.length+m)=xs.toArray:=by
    apply Array.ext'
    simp [List.extract,← hx]
   rw [this]
   simp [mkX,hu,hag]
def EqT (P:Program) (d:Nat) (t:TypeId) (ts:List TypeDesc):Prop:=∀ (w:World) (xs ys:List Value),Fits ts xs→Fits ts ys→(Op.equalIn d t (mkX P t xs) (mkX P t ys)).run P w=.ok (b7y xs ys) w
theorem b2i:∀ {D:Nat} {t:TypeId} {l:List TypeDesc},a9c P D t=some l→(a0m P t).map (·.1)=some false→l.length=1:=by
 intro D t l h hk
 cases D with
 |zero=>simp [a9c] at h
 |succ D =>
  cases hl:a0m P t with
  |none=>simp [hl] at hk
  |some q =>
   obtain ⟨ag,m⟩:=q
   simp only [hl,Option.map_some,Option.some.injEq] at hk
   subst hk
   obtain ⟨d,i,hu,hi,hag,hsz⟩:=a1u hl
   unfold a9c at h
   rw [hu] at h
   cases d<;>simp [a5e] at hag h<;>subst h<;>rfl
theorem b2x {D d:Nat} (IH:∀ t l,a9c P D t=some l→EqT P d t l):∀ (fs:List Field) (off:Nat) (ts:List TypeDesc),c7f P (a9c P D) fs off=some ts→∀ (w:World) (px py xs ys:List Value),px.length=off→py.length=off→Fits ts xs→Fits ts ys →
  (Op.eqFields d (px++xs).toArray (py++ys).toArray fs).run P w=.ok (b7y xs ys) w
 |[],off,ts,h,w,px,py,xs,ys,h1,h2,h3,h4=>by
  simp only [c7f,Option.some.injEq] at h
  subst h
  cases h3;cases h4
  simp [Op.eqFields,b7y]
 |f::fs,off,ts,h,w,px,py,xs,ys,h1,h2,h3,h4=>by
  unfold c7f at h
  split at h
  ·rename_i l hl
   split at h
   ·rename_i hc
    obtain ⟨c1,c2,c3⟩:=hc
    simp only [Option.map_eq_some_iff] at h
    obtain ⟨r,hr,rfl⟩:=h
    obtain ⟨ux,vx,rfl,fx1,fx2⟩:=h3.split
    obtain ⟨uy,vy,rfl,fy1,fy2⟩:=h4.split
    have o1:=b2i hl
    have p1:=b4d (w:=w) c3 px ux vx fx1.len o1
    have p2:=b4d (w:=w) c3 py uy vy fy1.len o1
    have p3:=IH _ _ hl w ux uy fx1 fy1
    have ih:=b2x IH fs _ r hr w (px++ux) (py++uy) vx vy (by simp [h1,fx1.len]) (by simp [h2,fy1.len]) fx2 fy2
    simp only [Op.eqFields,c1,ne_eq,not_false_eq_true,if_true,Sem.run_bind]
    rw [c2,← h1,← List.append_assoc,p1]
    simp only [Result.andThen_ok]
    rw [h1,← h2,← List.append_assoc,p2]
    simp only [Result.andThen_ok,p3]
    rw [c0w (by rw [fx1.len,fy1.len])]
    cases b7y ux uy
    ·simp
    ·simpa using ih
   ·cases h
  ·cases h
theorem b4l {d e:Nat} {l:List TypeDesc} (hl:(a0m P e).map (·.2)=some l.length) (h1:(a0m P e).map (·.1)=some false→l.length=1) (IH:EqT P d e l):∀ (n k:Nat) (w:World) (px py xs ys:List Value),px.length=k * l.length→py.length=k * l.length→Fits (d9r l n) xs→Fits (d9r l n) ys →
  (Op.eqItems d e l.length (px++xs).toArray (py++ys).toArray (List.range' k n)).run P w=.ok (b7y xs ys) w
 |0,k,w,px,py,xs,ys,_,_,h3,h4=>by
  cases h3;cases h4
  simp [Op.eqItems,b7y]
 |n+1,k,w,px,py,xs,ys,q1,q2,h3,h4=>by
  obtain ⟨ux,vx,rfl,fx1,fx2⟩:=h3.split
  obtain ⟨uy,vy,rfl,fy1,fy2⟩:=h4.split
  have p1:=b4d (w:=w) hl px ux vx fx1.len h1
  have p2:=b4d (w:=w) hl py uy vy fy1.len h1
  have p3:=IH w ux uy fx1 fy1
  have ih:=b4l hl h1 IH n (k+1) w (px++ux) (py++uy) vx vy (by simp [q1,fx1.len,Nat.succ_mul]) (by simp [q2,fy1.len,Nat.succ_mul]) fx2 fy2
  rw [List.range'_succ]
  simp only [Op.eqItems,Sem.run_bind]
  rw [← q1,← List.append_assoc,p1]
  simp only [Result.andThen_ok]
  rw [q1,← q2,← List.append_assoc,p2]
  simp only [Result.andThen_ok,p3]
  rw [c0w (by rw [fx1.len,fy1.len])]
  cases b7y ux uy
  ·simp
  ·simpa using ih
theorem c0x:∀ (D m:Nat) (t:TypeId) (ts:List TypeDesc),a9c P D t=some ts→EqT P (D+m) t ts
 |0,_,_,_,h=>by simp [a9c] at h
 |D+1,m,t,ts,h=>by
  intro w xs ys hx hy
  unfold a9c at h
  cases hu:P.underlying t with
  |none=>simp [hu] at h
  |some d =>
   rw [show D+1+m=(D+m)+1 by omega]
   rw [hu] at h
   cases d with
   |bool =>
    simp only [Option.some.injEq] at h;subst h
    cases hx with
    |cons a r =>
     cases r
     cases hy with
     |cons b r =>
      cases r
      rename_i x y
      cases x<;>simp only [Fit] at a
      cases y<;>simp only [Fit] at b
      simp [mkX,hu,a5e,b7y,eqX,run_equalIn_bool' w _ _ _ _ hu]
   |int k =>
    simp only [Option.some.injEq] at h;subst h
    cases hx with
    |cons a r =>
     cases r
     cases hy with
     |cons b r =>
      cases r
      rename_i x y
      cases x<;>simp only [Fit] at a
      cases y<;>simp only [Fit] at b
      subst a;subst b
      simp [mkX,hu,a5e,b7y,eqX,run_equalIn_int w _ _ _ _ _ _ hu,d8o]
   |string =>
    simp only [Option.some.injEq] at h;subst h
    cases hx with
    |cons a r =>
     cases r
     cases hy with
     |cons b r =>
      cases r
      rename_i x y
      cases x<;>simp only [Fit] at a
      cases y<;>simp only [Fit] at b
      simp [mkX,hu,a5e,b7y,eqX,run_equalIn_string w _ _ _ _ hu,f2r]
   |struct fs =>
    simp only at h
    split at h
    ·cases h
    ·rename_i hst
     have hfs:P.fieldsOf t=fs:=by simp [Program.fieldsOf,hu]
     have:=b2x (d:=D+m) (fun t l h=>c0x D m t l h) fs.toList 0 ts h w [] [] xs ys rfl rfl hx hy
     simp only [mkX,hu,a5e,if_true]
     rw [run_equalIn_struct w (D+m) t _ _ (by rw [hfs];exact hu) (by simpa using hst),hfs]
     simpa using this
   |array n e =>
    simp only at h
    split at h
    ·rename_i l hl
     split at h
     ·rename_i hc
      simp only [Option.some.injEq] at h
      subst h
      have:=b4l hc (b2i hl) (c0x D m e l hl) n 0 w [] [] xs ys (by simp) (by simp) hx hy
      have hi:∃ i,P.info? e=some i∧i.size=l.length:=by
       cases hk:a0m P e with
       |none=>simp [hk] at hc
       |some q =>
        obtain ⟨ag,z⟩:=q
        obtain ⟨_,i,_,hi,_,hs⟩:=a1u hk
        simp only [hk,Option.map_some,Option.some.injEq] at hc
        exact ⟨i,hi,hs.trans hc⟩
      obtain ⟨i,hi,his⟩:=hi
      have hce:P.cellsOf e=l.length:=by simp [Program.cellsOf,hi,his]
      simp only [mkX,hu,a5e,if_true]
      rw [run_equalIn_array w (D+m) _ _ hu hi,hce,List.range_eq_range']
      simpa using this
     ·cases h
    ·cases h
   |_=>simp at h
def g5w:TypeDesc→V→Bool
 |.bool,.v (.bool _)=>true
 |.int k,.v (.int k' _)=>decide (k'=k)
 |.string,.v (.string _)=>true
 |_,_=>false
def b8l:List TypeDesc→List V→Bool
 |[],[]=>true
 |t::ts,x::xs=>g5w t x && b8l ts xs
 |_,_=>false
def eqV:V→V→Bool
 |.v x,.v y=>eqX x y
 |_,_=>false
def f9g:List V→List V→Bool
 |[],[]=>true
 |x::xs,y::ys=>eqV x y && f9g xs ys
 |_,_=>false
theorem b3d:∀ {ts:List TypeDesc} {cs:List V},b8l ts cs=true→∃ xs,cs=xs.map .v∧Fits ts xs
 |[],[],_=>⟨[],rfl,.nil⟩
 |t::ts,x::cs,h=>by
  simp only [b8l,Bool.and_eq_true] at h
  obtain ⟨xs,rfl,h2⟩:=b3d h.2
  have h1:=h.1
  unfold g5w at h1
  split at h1
  ·exact ⟨_::xs,rfl,.cons trivial h2⟩
  ·exact ⟨_::xs,rfl,.cons (by simp only [decide_eq_true_eq] at h1;exact h1) h2⟩
  ·exact ⟨_::xs,rfl,.cons trivial h2⟩
  ·cases h1
 |[],_::_,h=>by simp [b8l] at h
 |_::_,[],h=>by simp [b8l] at h
theorem d2d:∀ (xs ys:List Value),f9g (xs.map .v) (ys.map .v)=b7y xs ys
 |[],[]=>rfl
 |x::xs,y::ys=>by simp [f9g,b7y,eqV,d2d xs ys]
 |[],_::_=>rfl
 |_::_,[]=>rfl
def e7n (op:BinOp) (C:Prop) (b:Bool):Res:=match op with
 |.eql=>.go C fun _=>.v (.bool b)
 |.neq=>.go C fun _=>.v (.bool (!b))
 |_=>.stuck
def c0j (op:BinOp) (fk:Option (List TypeDesc)):V→V→Res→Res
 |.agg cs,.agg ds,_=>match fk with
  |some ts=>e7n op (b8l ts cs=true∧b8l ts ds=true) (f9g cs ds)
  |none=>.stuck
 |_,_,r=>r
theorem e1g {w:World} {O:Nat→Prop} {E:Env} {xs:List Value} {y:Value} (h:R w O E (.agg (xs.map .v)) y):y=.agg xs.toArray:=by
 obtain ⟨ys,rfl,hsz,hr⟩:=R.agg_inv h
 congr 1
 apply Array.ext'
 apply List.ext_getElem?
 intro j
 by_cases hj:j < xs.length
 ·have hj':j < ys.size:=by simpa [hsz] using hj
  have:=R.v_inv (hr j (.v xs[j]) ys[j] (by simp [hj]) (by simp [hj']))
  simp [hj,hj',this]
 ·have hj':¬ j < ys.size:=by simpa [hsz] using hj
  simp [hj,hj']
theorem d9c {G:Gh} {s:St} {o:Oper} (hd:∀ d,o.dst=some d→d < G.n) {op:BinOp} {t t':TypeId} {x y:Operand} (ho:o.op=.binOp op t x y t'):a2w P G s o (c0j op (a4f P t) (ev s x) (ev s y) (b6s op (tk P t) (ev s x) (ev s y))):=by
 unfold c0j
 split
 ·rename_i _ cs ds hx hy
  split
  ·rename_i ts hts
   unfold a4f at hts
   split at hts
   ·cases hts
   ·rename_i hg
    obtain ⟨hg,hag⟩:=not_or.1 hg
    have key:∀ a w E,SimE G s a w E→b8l ts cs=true∧b8l ts ds=true→(Op.equal t (a.eval x) (a.eval y)).run P w=.ok (f9g cs ds) w∧(eqGuard op t x y (a.eval x) (a.eval y)).run P w=.ok () w∧∃ xs ys,a.eval x=.agg xs∧a.eval y=.agg ys:=by
     intro a w E hs ⟨h1,h2⟩
     obtain ⟨xs,rfl,f1⟩:=b3d h1
     obtain ⟨ys,rfl,f2⟩:=b3d h2
     have e1:=e1g (a1t hs hx)
     have e2:=e1g (a1t hs hy)
     have hag:∃ d,P.underlying t=some d∧a5e d=true:=by
      cases hk:a0m P t with
      |none=>simp [hk] at hag
      |some q =>
       obtain ⟨ag,z⟩:=q
       simp [hk] at hag
       subst hag
       obtain ⟨d,_,hu,_,h,_⟩:=a1u hk
       exact ⟨d,hu,h⟩
     obtain ⟨d,hu,hag⟩:=hag
     refine ⟨?_,?_,_,_,e1,e2⟩
     ·have:=c0x 6 9994 t ts hts w xs ys f1 f2
      simp only [mkX,hu,hag,if_true] at this
      rw [e1,e2,d2d]
      exact this
     ·rw [e1,e2]
      exact run_eqGuard_agg w op t x y _ _ (by simpa using hg)
    unfold e7n
    split
    ·intro hC
     refine a0j hd fun a w E hs=>⟨_,?_,.r0 _ _ (.v _)⟩
     obtain ⟨k1,k2,xs,ys,e1,e2⟩:=key a w E hs hC
     rw [e1,e2] at k1 k2
     simp [execOp,ho,k2,e1,e2,binOp,k1]
    ·intro hC
     refine a0j hd fun a w E hs=>⟨_,?_,.r0 _ _ (.v _)⟩
     obtain ⟨k1,k2,xs,ys,e1,e2⟩:=key a w E hs hC
     rw [e1,e2] at k1 k2
     simp [execOp,ho,k2,e1,e2,binOp,k1]
    ·trivial
  ·trivial
 ·exact g2t hd ho
end
end Pm
open Go Go.RowKit Go.MapKept
namespace Pm
def b3e:Value→Value→Bool
 |.int _ a,.int _ b=>decide (a=b)
 |.string a,.string b=>decide (a=b)
 |.bool a,.bool b=>a == b
 |.agg a,.agg b=>b7y a.toList b.toList
 |_,_=>false
theorem f3p {t:TypeDesc} {a b:Value} (ha:Fit t a) (hb:Fit t b):eqX a b=true↔a=b:=by
 cases t<;>cases a<;>cases b<;>simp_all [Fit,eqX]
theorem d0s:∀ {ts:List TypeDesc} {xs ys:List Value},Fits ts xs→Fits ts ys→(b7y xs ys=true↔xs=ys)
 |[],_,_,.nil,.nil=>by simp [b7y]
 |_::_,_,_,.cons h1 r1,.cons h2 r2=>by simp [b7y,f3p h1 h2,d0s r1 r2]
theorem b1w {d:KD} {a b:Value} (ha:IsK d a) (hb:IsK d b):b3e a b=true↔a=b:=by
 cases d with
 |agg ts =>
  cases a<;>cases b<;>simp_all [IsK,b3e]
  rename_i x y
  rw [d0s ha hb]
  cases x;cases y;simp
 |_=>cases a<;>cases b<;>simp_all [IsK,b3e]
def g4l:TypeDesc→Value→Bool
 |.bool,.bool _=>true
 |.int k,.int k' _=>decide (k'=k)
 |.string,.string _=>true
 |_,_=>false
def d0j:List TypeDesc→List Value→Bool
 |[],[]=>true
 |t::ts,x::xs=>g4l t x && d0j ts xs
 |_,_=>false
theorem d9l {t:TypeDesc} {x:Value} (h:g4l t x=true):Fit t x:=by
 cases t<;>cases x<;>simp_all [Fit,g4l]
theorem c0b:∀ {ts:List TypeDesc} {xs:List Value},d0j ts xs=true→Fits ts xs
 |[],[],_=>.nil
 |t::ts,x::xs,h=>by
  simp only [d0j,Bool.and_eq_true] at h
  exact .cons (d9l h.1) (c0b h.2)
 |[],_::_,h=>by simp [d0j] at h
 |_::_,[],h=>by simp [d0j] at h
def a8t:KD→Value→Bool
 |.bool,.bool _=>true
 |.int k,.int k' _=>decide (k'=k)
 |.string,.string _=>true
 |.agg ts,.agg ys=>d0j ts ys.toList
 |_,_=>false
theorem a3w {d:KD} {v:Value} (h:a8t d v=true):IsK d v:=by
 cases d with
 |agg ts=>cases v<;>simp_all [IsK,a8t,c0b]
 |_=>cases v<;>simp_all [IsK,a8t]
def f9m (P:Program) (k:TypeId):Option KD:=match P.underlying k with
 |some .bool=>some .bool
 |some (.int q)=>some (.int q)
 |some .string=>some .string
 |some (.struct _)=>(a4f P k).map .agg
 |some (.array _ _)=>(a4f P k).map .agg
 |_=>none
def lkM:List (Value×V)→Value→Option V
 |[],_=>none
 |p::r,k=>if b3e p.1 k=true then some p.2 else lkM r k
def upM:List (Value×V)→Value→V→List (Value×V)
 |[],k,v=>[(k,v)]
 |p::r,k,v=>if b3e p.1 k=true then (k,v)::r else p::upM r k v
def c9h:List (Value×V)→Value→List (Value×V)
 |[],_=>[]
 |p::r,k=>if b3e p.1 k=true then r else p::c9h r k
inductive KdK (P:Program) (kt:TypeId):KD→Prop
 |one (kd:KD) (d:TypeDesc) (hu:P.underlying kt=some d) (hd:∀ v,IsK kd v→IsKey d v) (hd2:∀ v w,IsK kd v→IsK kd w→∃ r,Instr.sameNow d v w=some r∧(r=true↔v=w)):KdK P kt kd
 |wide (ts:List TypeDesc) (hf:a9c P 6 kt=some ts) (ha:∀ xs:List Value,mkX P kt xs=.agg xs.toArray) (hw:(match P.underlying kt with|some (.array _ _)|some (.struct _)=>true|_=>false)=true):KdK P kt (.agg ts)
theorem c4y {P:Program} {kt:TypeId} {kd:KD} (h:f9m P kt=some kd):KdK P kt kd:=by
 unfold f9m at h
 have wide:∀ ts,a4f P kt=some ts→(match P.underlying kt with|some (.array _ _)|some (.struct _)=>true|_=>false)=true→KdK P kt (.agg ts):=fun ts h hw=>by
  unfold a4f at h
  split at h
  ·cases h
  ·refine .wide ts h (fun xs=>?_) hw
   cases hu:P.underlying kt with
   |none=>simp [hu] at hw
   |some d=>cases d<;>simp [hu] at hw<;>simp [mkX,hu,a5e]
 cases hu:P.underlying kt with
 |none=>simp [hu] at h
 |some d =>
  rw [hu] at h
  have one:∀ kd:KD,(∀ v,IsK kd v→IsKey d v)→KdK P kt kd:=fun kd hk=>.one kd d hu hk fun v w h1 h2=>sameNow_of_keys (hk v h1) (hk w h2)
  cases d<;>simp at h
  case bool=>subst h;exact one _ fun v hv=>by cases v<;>simp_all [IsK,IsKey]
  case int q=>subst h;exact one _ fun v hv=>by cases v<;>simp_all [IsK,IsKey]
  case string=>subst h;exact one _ fun v hv=>by cases v<;>simp_all [IsK,IsKey]
  case struct fs=>obtain ⟨ts,h1,rfl⟩:=h;exact wide ts h1 (by simp [hu])
  case array n e=>obtain ⟨ts,h1,rfl⟩:=h;exact wide ts h1 (by simp [hu])
theorem a8r {P:Program} {em:Bool} {D d:Nat} (IH:∀ t l,a9c P D t=some l→∀ (w:World) (xs:List Value),Fits l xs→(Instr.checkKey em d t (mkX P t xs)).run P w=.ok () w) :
  ∀ (fs:List Field) (off:Nat) (ts:List TypeDesc),c7f P (a9c P D) fs off=some ts→∀ (w:World) (px xs:List Value),px.length=off→Fits ts xs →
  (forIn fs PUnit.unit (fun f _=>do if f.name≠"_" then do { let x ← part f.type (px++xs).toArray f.offset;Instr.checkKey em d f.type x;pure (ForInStep.yield PUnit.unit) } else pure (ForInStep.yield PUnit.unit)):Sem PUnit).run P w=.ok PUnit.unit w
 |[],off,ts,h,w,px,xs,h1,h3=>by simp
 |f::fs,off,ts,h,w,px,xs,h1,h3=>by
  unfold c7f at h
  split at h
  ·rename_i l hl
   split at h
   ·rename_i hc
    obtain ⟨c1,c2,c3⟩:=hc
    simp only [Option.map_eq_some_iff] at h
    obtain ⟨r,hr,rfl⟩:=h
    obtain ⟨ux,vx,rfl,fx1,fx2⟩:=h3.split
    have o1:=b2i hl
    have p1:=b4d (w:=w) c3 px ux vx fx1.len o1
    have p3:=IH _ _ hl w ux fx1
    have ih:=a8r IH fs _ r hr w (px++ux) vx (by simp [h1,fx1.len]) fx2
    simp only [List.forIn_cons,c1,ne_eq,not_false_eq_true,if_true,Sem.run_bind]
    rw [c2,← h1,← List.append_assoc,p1]
    simp only [Result.andThen_ok,p3,Sem.run_pure]
    simpa using ih
   ·cases h
  ·cases h
theorem a9y {P:Program} {em:Bool} {d e:Nat} {i:TypeInfo} (hi:P.info? e=some i) {l:List TypeDesc} (his:i.size=l.length) (hl:(a0m P e).map (·.2)=some l.length) (h1:(a0m P e).map (·.1)=some false→l.length=1) (IH:∀ (w:World) (xs:List Value),Fits l xs→(Instr.checkKey em d e (mkX P e xs)).run P w=.ok () w):∀ (n k:Nat) (w:World) (px xs:List Value),px.length=k * l.length→Fits (d9r l n) xs →
  (forIn (List.range' k n) PUnit.unit (fun j _=>do { let z ← sizeOf e;let x ← part e (px++xs).toArray (j * z);Instr.checkKey em d e x;pure (ForInStep.yield PUnit.unit) }):Sem PUnit).run P w=.ok PUnit.unit w
 |0,k,w,px,xs,_,h3=>by simp
 |n+1,k,w,px,xs,q1,h3=>by
  obtain ⟨ux,vx,rfl,fx1,fx2⟩:=h3.split
  have p1:=b4d (w:=w) hl px ux vx fx1.len h1
  have p3:=IH w ux fx1
  have ih:=a9y hi his hl h1 IH n (k+1) w (px++ux) vx (by simp [q1,fx1.len,Nat.succ_mul]) fx2
  rw [List.range'_succ]
  simp only [List.forIn_cons,Sem.run_bind,run_sizeOf w hi,Result.andThen_ok,his]
  have hce:P.cellsOf e=l.length:=by simp [Program.cellsOf,hi,his]
  rw [hce,← q1,← List.append_assoc,p1]
  simp only [Result.andThen_ok,p3,Sem.run_pure]
  simpa using ih
theorem b3r {P:Program} (em:Bool):∀ (D m:Nat) (t:TypeId) (ts:List TypeDesc),a9c P D t=some ts→∀ (w:World) (xs:List Value),Fits ts xs→(Instr.checkKey em (D+m) t (mkX P t xs)).run P w=.ok () w
 |0,_,_,_,h,_,_,_=>by simp [a9c] at h
 |D+1,m,t,ts,h,w,xs,hx=>by
  unfold a9c at h
  cases hu:P.underlying t with
  |none=>simp [hu] at h
  |some d =>
   rw [show D+1+m=(D+m)+1 by omega]
   rw [hu] at h
   cases d with
   |bool=>simp [mkX,hu,a5e,Instr.checkKey,a0o P w hu]
   |int k=>simp [mkX,hu,a5e,Instr.checkKey,a0o P w hu]
   |string=>simp [mkX,hu,a5e,Instr.checkKey,a0o P w hu]
   |struct fs =>
    simp only at h
    split at h
    ·cases h
    ·have:=a8r (em:=em) (d:=D+m) (fun t l h w xs hx=>b3r em D m t l h w xs hx) fs.toList 0 ts h w [] xs rfl hx
     simp only [mkX,hu,a5e,if_true,Instr.checkKey,Sem.run_bind,a0o P w hu,Result.andThen_ok]
     rw [← Array.forIn_toList]
     simp at this
     simp [this]
   |array n e =>
    simp only at h
    split at h
    ·rename_i l hl
     split at h
     ·rename_i hc
      simp only [Option.some.injEq] at h
      subst h
      have hi:∃ i,P.info? e=some i∧i.size=l.length:=by
       cases hk:a0m P e with
       |none=>simp [hk] at hc
       |some q =>
        obtain ⟨ag,z⟩:=q
        obtain ⟨_,i,_,hi,_,hs⟩:=a1u hk
        simp only [hk,Option.map_some,Option.some.injEq] at hc
        exact ⟨i,hi,hs.trans hc⟩
      obtain ⟨i,hi,his⟩:=hi
      have:=a9y (em:=em) (d:=D+m) hi his hc (b2i hl) (fun w xs hx=>b3r em D m e l hl w xs hx) n 0 w [] xs (by simp) hx
      simp only [mkX,hu,a5e,if_true,Instr.checkKey,Sem.run_bind,a0o P w hu,Result.andThen_ok]
      simp only [Std.Legacy.Range.forIn_eq_forIn_range',Std.Legacy.Range.size,Nat.sub_zero,Nat.add_one_sub_one,Nat.div_one]
      simp at this
      simp [this]
     ·cases h
    ·cases h
   |_=>simp at h
theorem a4u {P:Program} {w:World} {kt:TypeId} {kd:KD} {k:Value} (h:f9m P kt=some kd) (hk:IsK kd k) (e:Bool):(Instr.checkKey e 10000 kt k).run P w=.ok () w:=by
 cases c4y h with
 |one _ d hu hd _=>exact MapKept.run_checkKey hu (hd k hk) e 9999
 |wide ts hf ha hw =>
  cases k<;>simp only [IsK] at hk
  rename_i ys
  have:=b3r e 6 9994 kt ts hf w ys.toList hk
  rw [ha] at this
  simpa using this
theorem b1h (n:Nat):∀ {ts:List TypeDesc} {xs:List Value},Fits ts xs→(xs.zip xs).all (fun (x,y)=>Instr.sameBits n x y)=true
 |[],_,.nil=>rfl
 |t::ts,_,.cons (x:=x) h r=>by
  have hx:Instr.sameBits n x x=true:=by
   cases t<;>cases x<;>simp_all [Fit]<;>cases n<;>simp [Instr.sameBits,bytes_beq]
  simp [hx,b1h n r]
theorem b4j {P:Program} {w:World} {kd:KD} {k:Value} (hk:IsK kd k):(Instr.keyThatStays k k).run P w=.ok k w:=by
 have:Instr.sameBits 10000 k k=true:=by
  cases kd with
  |agg ts =>
   cases k<;>simp only [IsK] at hk
   rename_i ys
   have:=b1h 9999 hk
   simp [Instr.sameBits,this]
  |_=>cases k<;>simp_all [IsK,Instr.sameBits,bytes_beq]
 simp [Instr.keyThatStays,this]
def d8r (P:Program) (w:World) (kt:TypeId) (k:Value) (es:List MapEntry) (m:List (Value×V)) (n:Nat) (run:Sem (Option (Nat×Value))):Prop :=
  (run.run P w=.ok none w∧lkM m k=none∧(∀ v,upM m k v=m++[(k,v)])∧c9h m k=m∧∀ x ∈ es,x.key≠k) ∨
  ∃ j e p,run.run P w=.ok (some (n+j,e.val)) w∧es[j]? = some e∧m[j]? = some p∧e.key=k∧lkM m k=some p.2∧(∀ v,upM m k v=m.set j (k,v))∧c9h m k=m.eraseIdx j
theorem d7f {P:Program} {w:World} {kt:TypeId} {ts:List TypeDesc} (hf:a9c P 6 kt=some ts) (ha:∀ xs:List Value,mkX P kt xs=.agg xs.toArray) {k:Value} (hk:IsK (.agg ts) k):∀ (es:List MapEntry) (m:List (Value×V)) (n:Nat),es.length=m.length →
  (∀ (i:Nat) (e:MapEntry) (p:Value×V),es[i]? = some e→m[i]? = some p→e.key=p.1∧IsK (.agg ts) p.1)→d8r P w kt k es m n (Instr.findAsking kt k es n):=by
 have eqk:∀ x y:Value,IsK (.agg ts) x→IsK (.agg ts) y→(Op.equal kt x y).run P w=.ok (b3e x y) w:=fun x y hx hy=>by
  cases x<;>simp only [IsK] at hx
  cases y<;>simp only [IsK] at hy
  rename_i a b
  have:=c0x 6 9994 kt ts hf w a.toList b.toList hx hy
  rw [ha,ha] at this
  simpa [Op.equal,Op.maxDepth,b3e] using this
 intro es
 induction es with
 |nil =>
  intro m n hl _
  have:m=[]:=List.length_eq_zero_iff.1 hl.symm
  subst this
  exact .inl ⟨by simp [Instr.findAsking],rfl,fun _=>rfl,rfl,by simp⟩
 |cons e es ih =>
  intro m n hl h
  match m,hl with
  |p::m,hl =>
   obtain ⟨h1,h2⟩:=h 0 e p rfl rfl
   have hek:IsK (.agg ts) e.key:=by rw [h1];exact h2
   have hr:=eqk k e.key hk hek
   have hb:b3e p.1 k=true↔p.1=k:=b1w h2 hk
   have hiff:=b1w hk hek
   cases hq:b3e k e.key with
   |true =>
    have e1:k=e.key:=hiff.1 hq
    have e2:b3e p.1 k=true:=hb.2 (by rw [e1,h1])
    exact .inr ⟨0,e,p,by simp [Instr.findAsking,hr,hq],rfl,rfl,e1.symm,by simp [lkM,e2],fun v=>by simp [upM,e2],by simp [c9h,e2]⟩
   |false =>
    have hne:e.key≠k:=fun q=>by have:=hiff.2 q.symm;rw [hq] at this;cases this
    have e2:¬ b3e p.1 k=true:=fun q=>hne (by rw [h1];exact hb.1 q)
    rcases ih m (n+1) (by simpa using hl) (fun i e' p' g1 g2=>h (i+1) e' p' (by simpa using g1) (by simpa using g2)) with ⟨g1,g2,g3,g4,g5⟩|⟨j,e',p',g1,g2,g3,g4,g5,g6,g7⟩
    ·exact .inl ⟨by simp [Instr.findAsking,hr,hq,g1],by simp [lkM,e2,g2],fun v=>by simp [upM,e2,g3],by simp [c9h,e2,g4],fun x hx=>by
      rcases List.mem_cons.1 hx with rfl|hx
      ·exact hne
      ·exact g5 x hx⟩
    ·exact .inr ⟨j+1,e',p',by simp [Instr.findAsking,hr,hq,g1];omega,by simpa using g2,by simpa using g3,g4,by simp [lkM,e2,g5],fun v=>by simp [upM,e2,g6],by simp [c9h,e2,g7]⟩
theorem f0o {kd:KD} {d:TypeDesc} (hd2:∀ v w,IsK kd v→IsK kd w→∃ r,Instr.sameNow d v w=some r∧(r=true↔v=w)) {k:Value} (hk:IsK kd k):∀ (es:List MapEntry) (m:List (Value×V)) (n:Nat),es.length=m.length →
  (∀ (i:Nat) (e:MapEntry) (p:Value×V),es[i]? = some e→m[i]? = some p→e.key=p.1∧IsK kd p.1) →
  (Instr.findNow d k es n=some none∧lkM m k=none∧(∀ v,upM m k v=m++[(k,v)])∧c9h m k=m∧∀ x ∈ es,x.key≠k) ∨
  ∃ j e p,Instr.findNow d k es n=some (some (n+j,e.val))∧es[j]? = some e∧m[j]? = some p∧e.key=k∧lkM m k=some p.2∧(∀ v,upM m k v=m.set j (k,v))∧c9h m k=m.eraseIdx j:=by
 intro es
 induction es with
 |nil =>
  intro m n hl _
  have:m=[]:=List.length_eq_zero_iff.1 hl.symm
  subst this
  exact .inl ⟨rfl,rfl,fun _=>rfl,rfl,by simp⟩
 |cons e es ih =>
  intro m n hl h
  match m,hl with
  |p::m,hl =>
   obtain ⟨h1,h2⟩:=h 0 e p rfl rfl
   have hek:IsK kd e.key:=by rw [h1];exact h2
   obtain ⟨r,hr,hiff⟩:=hd2 _ _ hk hek
   have hb:b3e p.1 k=true↔p.1=k:=b1w h2 hk
   cases r with
   |true =>
    have e1:k=e.key:=hiff.1 rfl
    have e2:b3e p.1 k=true:=hb.2 (by rw [e1,h1])
    exact .inr ⟨0,e,p,by simp [Instr.findNow,hr],rfl,rfl,e1.symm,by simp [lkM,e2],fun v=>by simp [upM,e2],by simp [c9h,e2]⟩
   |false =>
    have hne:e.key≠k:=fun q=>by have:=hiff.2 q.symm;cases this
    have e2:¬ b3e p.1 k=true:=fun q=>hne (by rw [h1];exact hb.1 q)
    rcases ih m (n+1) (by simpa using hl) (fun i e' p' g1 g2=>h (i+1) e' p' (by simpa using g1) (by simpa using g2)) with ⟨g1,g2,g3,g4,g5⟩|⟨j,e',p',g1,g2,g3,g4,g5,g6,g7⟩
    ·exact .inl ⟨by simp [Instr.findNow,hr,g1],by simp [lkM,e2,g2],fun v=>by simp [upM,e2,g3],by simp [c9h,e2,g4],fun x hx=>by
      rcases List.mem_cons.1 hx with rfl|hx
      ·exact hne
      ·exact g5 x hx⟩
    ·exact .inr ⟨j+1,e',p',by simp [Instr.findNow,hr,g1];omega,by simpa using g2,by simpa using g3,g4,by simp [lkM,e2,g5],fun v=>by simp [upM,e2,g6],by simp [c9h,e2,g7]⟩
theorem b5h {P:Program} {w:World} {kt:TypeId} {kd:KD} (hkd:f9m P kt=some kd) {k:Value} (hk:IsK kd k) (es:List MapEntry) (m:List (Value×V)) (hl:es.length=m.length)
  (h:∀ (i:Nat) (e:MapEntry) (p:Value×V),es[i]? = some e→m[i]? = some p→e.key=p.1∧IsK kd p.1):d8r P w kt k es m 0 (Instr.findKey kt k es):=by
 cases c4y hkd with
 |one _ d hu hd hd2 =>
  rcases f0o hd2 hk es m 0 hl h with ⟨g1,g2⟩|⟨j,e,p,g1,g2⟩
  ·exact .inl ⟨MapKept.run_findKey hu g1,g2⟩
  ·exact .inr ⟨j,e,p,MapKept.run_findKey hu g1,g2⟩
 |wide ts hf ha hw =>
  have:=d7f (w:=w) hf ha hk es m 0 hl h
  unfold d8r at this ⊢
  rw [run_findKey_eq w hw]
  exact this
def vOf:Value→V
 |.agg ys=>.agg (ys.toList.map .v)
 |x=>.v x
theorem f5s (w:World) (O:Nat→Prop) (E:Env) (x:Value):R w O E (vOf x) x:=by
 unfold vOf
 split
 ·refine .agg _ _ (by simp) fun j u y h1 h2=>?_
  simp only [List.getElem?_map,Array.getElem?_toList,h2,Option.map_some,Option.some.injEq] at h1
  subst h1
  exact .r0 _ _ (.v _)
 ·exact .r0 _ _ (.v _)
def c1r (P:Program) (t:TypeId):Option (KD×V):=match P.underlying t with
 |some (.map k e)=>(f9m P k).bind fun kd=>(P.info? e).bind fun i=>i.zero.map fun z=>(kd,vOf z)
 |_=>none
theorem b1x {P:Program} {t:TypeId} {kd:KD} {z:V} (h:c1r P t=some (kd,z)) (w:World) :
  ∃ k e zv,P.underlying t=some (.map k e)∧f9m P k=some kd∧(zeroValue e).run P w=.ok zv w∧z=vOf zv:=by
 unfold c1r at h
 split at h
 ·rename_i k e ht
  simp only [Option.bind_eq_some_iff,Option.map_eq_some_iff,Prod.mk.injEq] at h
  obtain ⟨kd',h1,i,h2,zv,h3,rfl,rfl⟩:=h
  exact ⟨k,e,zv,ht,h1,by simp [zeroValue,typeInfo,h2,h3],rfl⟩
 ·cases h
def d3r:V→Option Value
 |.v k=>some k
 |.agg cs=>(g2n cs).map fun xs=>.agg ⟨xs⟩
 |_=>none
theorem d1i {w:World} {O:Nat→Prop} {E:Env} {u:V} {k y:Value} (h:d3r u=some k) (hr:R w O E u y):y=k:=by
 unfold d3r at h
 split at h
 ·cases h;exact R.v_inv hr
 ·simp only [Option.map_eq_some_iff] at h
  obtain ⟨xs,h1,rfl⟩:=h
  have:=e3f h1
  subst this
  exact e1g hr
 ·cases h
def b7b (s:St):Option (KD×V)→Bool→V→Option Value→Res
 |some (kd,z),ok,.mp id,some k=>match s.hget id with
  |some (.map kd' m)=>match ok with
   |false=>.go (kd'=kd∧a8t kd k=true) fun _=>(lkM m k).getD z
   |true=>.go (kd'=kd∧a8t kd k=true) fun _=>.tup [(lkM m k).getD z,.v (.bool (lkM m k).isSome)]
  |_=>.stuck
 |_,_,_,_=>.stuck
theorem c2z {G:Gh} {s:St} {a:Act} {w:World} {E:Env} (hs:SimE G s a w E) {id:Nat} {kd:KD} {m:List (Value×V)} (hob:s.hget id=some (.map kd m)) {y:Value} (hy:R w (OT G s E) E (.mp id) y) :
  ∃ b es clock,y=.map (some b)∧E id=some (some b,0,0)∧w.heap[b]? = some (.map es clock)∧es.size=m.length ∧
   (∀ (i:Nat) (e:MapEntry) (p:Value×V),es[i]? = some e→m[i]? = some p→e.key=p.1∧IsK kd p.1∧R w (OT G s E) E p.2 e.val)∧Stamped es clock:=by
 obtain ⟨b,K,C,hE,rfl⟩:=R.mp_inv hy
 obtain ⟨b1,K1,C1,h1,b',es,clock,rfl,g2,rfl,rfl,g5,g6,g7⟩:=hs.hp id _ hob
 rw [hE] at h1
 cases h1
 exact ⟨b,es,clock,rfl,hE,g2,g5,g6,g7⟩
theorem e2r (P:Program) (G:Gh) (s:St) (o:Oper) (hd:∀ d,o.dst=some d→d < G.n) (t:TypeId) (x k:Operand) (ok:Bool) (ho:o.op=.lookup t x k ok) :
  a2w P G s o (b7b s (c1r P t) ok (ev s x) (d3r (ev s k))):=by
 have core:∀ {kd z id kv m},c1r P t=some (kd,z)→ev s x=.mp id→d3r (ev s k)=some kv→s.hget id=some (.map kd m)→a8t kd kv=true→∀ a w E,SimE G s a w E →
   ∃ y,R w (OT G s E) E ((lkM m kv).getD z) y∧(execOp a.eval o).run P w=.ok (.value (if ok then .tuple #[y,.bool (lkM m kv).isSome] else y)) w:=by
  intro kd z id kv m hm hx hk hob hkb a w E hs
  obtain ⟨b,es,clock,hy,hE,hh,hsz,hrel,hst⟩:=c2z hs hob (a1t hs hx)
  obtain ⟨kt,et,zv,h1,h2,h3,rfl⟩:=b1x hm w
  have hkv:=d1i hk (b6t hs k)
  have hik:=a3w hkb
  rcases b5h (w:=w) h2 hik es.toList m (by simpa using hsz) (fun i e p g1 g2=>⟨(hrel i e p (by simpa using g1) g2).1,(hrel i e p (by simpa using g1) g2).2.1⟩) with ⟨g1,g2,_,_,_⟩|⟨j,e,p,g1,g2,g3,g4,g5,_,_⟩
  ·refine ⟨zv,by rw [g2];exact f5s _ _ _ _,?_⟩
   rw [g2]
   simp [execOp,ho,Instr.lookup,run_underlying h1,hy,hkv,MapKept.run_getObj_map hh,a4u h2 hik,g1,h3,Result.andThen]
  ·refine ⟨e.val,by rw [g5];exact (hrel j e p (by simpa using g2) g3).2.2,?_⟩
   rw [g5]
   simp [execOp,ho,Instr.lookup,run_underlying h1,hy,hkv,MapKept.run_getObj_map hh,a4u h2 hik,g1,h3,Result.andThen]
 unfold b7b
 split
 ·rename_i kd z ok' id kv hm hx hk
  split
  ·rename_i kd' m hob
   split
   ·rintro ⟨rfl,hkb⟩
    refine a0j hd fun a w E hs=>?_
    obtain ⟨y,g1,g2⟩:=core hm hx hk hob hkb a w E hs
    exact ⟨y,by simpa using g2,g1⟩
   ·rintro ⟨rfl,hkb⟩
    refine a0j hd fun a w E hs=>?_
    obtain ⟨y,g1,g2⟩:=core hm hx hk hob hkb a w E hs
    refine ⟨_,g2,.tup _ _ rfl fun j u y' q1 q2=>?_⟩
    match j with
    |0=>simp at q1 q2;subst q1;subst q2;exact g1
    |1=>simp at q1 q2;subst q1;subst q2;exact .r0 _ _ (.v _)
    |j+2=>simp at q1
  ·trivial
 ·trivial
def b6r (s:St):Option Nat→Option (KD×V)→Res
 |some d,some (kd,_)=>.heap (s.used d=false) fun _=>(.mp d,[(d,some (.map kd []))])
 |_,_=>.stuck
theorem d4u (P:Program) (G:Gh) (s:St) (o:Oper) (hd:∀ d,o.dst=some d→d < G.n) (t:TypeId) (ho:o.op=.makeMap t none):a2w P G s o (b6r s o.dst (c1r P t)):=by
 unfold b6r
 split
 ·rename_i d kd z hdd hm
  intro hu
  refine a2f hd fun a w E hs=>?_
  obtain ⟨E',h1,h2,h3,h4⟩:=hs.new (id:=d) hu (ob:=.map kd []) (o:=.map #[] 0) (K:=0) (C:=0) (fun O' E' _ _=>⟨w.heap.size,#[],0,rfl,a4l w _,rfl,rfl,rfl,by simp,stamped_empty 0⟩)
  refine ⟨.map (some w.heap.size),_,E',?_,h1,.mp d _ _ _ h2⟩
  simp [execOp,ho,Instr.makeMap]
 ·trivial
theorem a5z {w:World} {b:Nat} {o o':Obj} (h:w.heap[b]? = some o):({ w with heap:=w.heap.setIfInBounds b o' }:World).heap[b]? = some o'∧({ w with heap:=w.heap.setIfInBounds b o' }:World).heap.size=w.heap.size ∧
  ∀ k,k≠b→({ w with heap:=w.heap.setIfInBounds b o' }:World).heap[k]? = w.heap[k]? :=
 ⟨(heap_set h).1,by simp,fun k hk=>(heap_set h).2 k hk⟩
theorem SimE.mapSet {G:Gh} {s:St} {a:Act} {w:World} {E:Env} (hs:SimE G s a w E) {id b:Nat} {kd:KD} {m m':List (Value×V)} {es es':Array MapEntry} {clock clock':Nat} (hob:s.hget id=some (.map kd m)) (hE:E id=some (some b,0,0))
  (hh:w.heap[b]? = some (.map es clock)) (hsz:es'.size=m'.length)
  (hrel:∀ (i:Nat) (e:MapEntry) (p:Value×V),es'[i]? = some e→m'[i]? = some p→e.key=p.1∧IsK kd p.1∧R w (OT G s E) E p.2 e.val) (hst:Stamped es' clock') :
  SimE G (s.hset id (some (.map kd m'))) a { w with heap:=w.heap.setIfInBounds b (.map es' clock') } E:=by
 obtain ⟨f1,f2,f3⟩:=a5z (o':=.map es' clock') hh
 refine hs.write hob hE rfl rfl rfl f2 f3 fun O1 hO1=>⟨b,es',clock',rfl,f1,rfl,rfl,hsz,fun i e p g1 g2=>?_,hst⟩
 obtain ⟨q1,q2,q3⟩:=hrel i e p g1 g2
 exact ⟨q1,q2,q3.mono (by rw [f2];exact Nat.le_refl _) hO1 (fun k hk _=>f3 k (by rintro rfl;exact hk (.inr ⟨id,_,_,_,hob,hE⟩))) (fun _ _ h=>h)⟩
def b6o (s:St):Option (KD×V)→V→Option Value→V→Res
 |some (kd,_),.mp id,some k,v=>match s.hget id with
  |some (.map kd' m)=>.heap (kd'=kd∧a8t kd k=true) fun _=>(.any,[(id,some (.map kd (upM m k v)))])
  |_=>.stuck
 |_,_,_,_=>.stuck
theorem c3d (P:Program) (G:Gh) (s:St) (o:Oper) (t:TypeId) (x k v:Operand) (ho:o.op=.mapUpdate t x k v) (hdst:o.dst=none):a2w P G s o (b6o s (c1r P t) (ev s x) (d3r (ev s k)) (ev s v)):=by
 unfold b6o
 split
 ·rename_i kd z id kv hm hx hk
  split
  ·rename_i kd' m hob
   rintro ⟨rfl,hkb⟩ a w ⟨E,hs⟩ K Q hK
   obtain ⟨b,es,clock,hy,hE,hh,hsz,hrel,hst⟩:=c2z hs hob (a1t hs hx)
   obtain ⟨kt,et,zv,h1,h2,h3,rfl⟩:=b1x hm w
   have hkv:=d1i hk (b6t hs k)
   have hik:=a3w hkb
   have hv:=b6t hs v
   unfold Oper.wp
   rcases b5h (w:=w) h2 hik es.toList m (by simpa using hsz) (fun i e p g1 g2=>⟨(hrel i e p (by simpa using g1) g2).1,(hrel i e p (by simpa using g1) g2).2.1⟩) with ⟨g1,_,g3,_,g5⟩|⟨j,e,p,g1,g2,g3,g4,_,g6,_⟩
   ·have hrun:(execOp a.eval o).run P w=.ok .skip { w with heap:=w.heap.setIfInBounds b (.map (es.push { key:=kv,val:=a.eval v,born:=clock }) (clock+1)) }:=by
     simp [execOp,ho,Instr.mapUpdate,run_underlying h1,hy,hkv,MapKept.run_getObj_map hh,a4u h2 hik,g1,MapKept.run_setObj_map _ hh,Result.andThen]
    rw [hrun]
    refine hK _ _ ⟨E,?_⟩
    rw [hdst,g3]
    refine hs.mapSet hob hE hh (by simp [hsz]) (fun i e p q1 q2=>?_) (stamped_push hst g5)
    rw [Array.getElem?_push] at q1
    by_cases hi:i=es.size
    ·rw [if_pos hi] at q1
     cases q1
     rw [hi,hsz] at q2
     simp at q2
     subst q2
     exact ⟨rfl,hik,hv⟩
    ·rw [if_neg hi] at q1
     have:i < m.length:=by have:=(Array.getElem?_eq_some_iff.1 q1).1;omega
     rw [List.getElem?_append_left this] at q2
     exact hrel i e p q1 q2
   ·have hj:es[j]? = some e:=by simpa using g2
    have hrun:(execOp a.eval o).run P w=.ok .skip { w with heap:=w.heap.setIfInBounds b (.map (es.modify j fun e=>{ e with key:=kv,val:=a.eval v }) clock) }:=by
     simp [execOp,ho,Instr.mapUpdate,run_underlying h1,hy,hkv,MapKept.run_getObj_map hh,a4u h2 hik,g1,hj,g4,b4j hik,MapKept.run_setObj_map _ hh,Result.andThen]
    rw [hrun]
    refine hK _ _ ⟨E,?_⟩
    rw [hdst,g6]
    refine hs.mapSet hob hE hh (by simp [hsz]) (fun i e' p' q1 q2=>?_) (stamped_modify hst _ _ (fun _ _=>rfl) (fun e' _ he'=>by rw [hj] at he';cases he';exact g4.symm))
    rw [Array.getElem?_modify] at q1
    rw [List.getElem?_set] at q2
    by_cases hi:j=i
    ·subst hi
     rw [if_pos rfl,hj] at q1
     rw [if_pos rfl,if_pos (by have:=(Array.getElem?_eq_some_iff.1 hj).1;omega)] at q2
     cases q1;cases q2
     exact ⟨rfl,hik,hv⟩
    ·rw [if_neg hi] at q1 q2
     exact hrel i e' p' q1 q2
  ·trivial
 ·trivial
def b7h (s:St):Option (KD×V)→V→Option Value→Res
 |some (kd,_),.mp id,some k=>match s.hget id with
  |some (.map kd' m)=>.heap (kd'=kd∧a8t kd k=true) fun _=>(.any,[(id,some (.map kd (c9h m k)))])
  |_=>.stuck
 |_,_,_=>.stuck
theorem e0g (P:Program) (G:Gh) (s:St) (o:Oper) (hd:∀ d,o.dst=some d→d < G.n) (t t':TypeId) (x k:Operand) (ho:o.op=.call ⟨.builtin .delete,⟨[x,k]⟩,⟨[t,t']⟩⟩):a2w P G s o (b7h s (c1r P t) (ev s x) (d3r (ev s k))):=by
 unfold b7h
 split
 ·rename_i kd z id kv hm hx hk
  split
  ·rename_i kd' m hob
   rintro ⟨rfl,hkb⟩
   refine a2f hd fun a w E hs=>?_
   obtain ⟨b,es,clock,hy,hE,hh,hsz,hrel,hst⟩:=c2z hs hob (a1t hs hx)
   obtain ⟨kt,et,zv,h1,h2,h3,rfl⟩:=b1x hm w
   have hkv:=d1i hk (b6t hs k)
   have hik:=a3w hkb
   rcases b5h (w:=w) h2 hik es.toList m (by simpa using hsz) (fun i e p g1 g2=>⟨(hrel i e p (by simpa using g1) g2).1,(hrel i e p (by simpa using g1) g2).2.1⟩) with ⟨g1,_,_,g4,g5⟩|⟨j,e,p,g1,g2,g3,g4,_,_,g7⟩
   ·refine ⟨.tuple #[],{ w with heap:=w.heap.setIfInBounds b (.map es clock) },E,?_,?_,.r0 _ _ (.any _)⟩
    ·simp [execOp,ho,resolve,invoke,builtin,Builtin.delete_,run_underlying h1,hy,hkv,MapKept.run_getObj_map hh,a4u h2 hik,g1,MapKept.run_setObj_map _ hh,Result.andThen]
    ·show SimE G (s.hset id _) a _ E
     rw [g4]
     exact hs.mapSet hob hE hh hsz hrel hst
   ·have hj:es[j]? = some e:=by simpa using g2
    refine ⟨.tuple #[],{ w with heap:=w.heap.setIfInBounds b (.map (es.eraseIdxIfInBounds j) clock) },E,?_,?_,.r0 _ _ (.any _)⟩
    ·simp [execOp,ho,resolve,invoke,builtin,Builtin.delete_,run_underlying h1,hy,hkv,MapKept.run_getObj_map hh,a4u h2 hik,g1,MapKept.run_setObj_map _ hh,Result.andThen]
    ·show SimE G (s.hset id _) a _ E
     rw [g7]
     have hlt:j < es.size:=(Array.getElem?_eq_some_iff.1 hj).1
     have hlist:(es.eraseIdxIfInBounds j).toList=es.toList.eraseIdx j:=by simp [Array.eraseIdxIfInBounds,hlt]
     refine hs.mapSet hob hE hh (by have:=congrArg List.length hlist;rw [List.length_eraseIdx,Array.length_toList,Array.length_toList,hsz] at this;rw [List.length_eraseIdx];exact this) (fun i e' p' q1 q2=>?_) (stamped_erase hst j)
     have q1':(es.toList.eraseIdx j)[i]? = some e':=by rw [← hlist,Array.getElem?_toList];exact q1
     rw [List.getElem?_eraseIdx] at q1' q2
     by_cases hi:i < j
     ·rw [if_pos hi] at q1' q2
      exact hrel i e' p' (by simpa using q1') q2
     ·rw [if_neg hi] at q1' q2
      exact hrel (i+1) e' p' (by simpa using q1') q2
  ·trivial
 ·trivial
end Pm
end Go.Proofs.YtmjhfccbbfpppaaGreatDoor
