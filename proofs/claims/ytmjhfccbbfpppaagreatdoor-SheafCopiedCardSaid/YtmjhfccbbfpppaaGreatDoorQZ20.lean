import Derived.ProofKit
import Derived.WideKeyArgs
import Derived.Below
import Derived.ChangeSame
import Derived.SizedLaws
import Derived.RecoverIn
import Derived.Lib.AppendStr
import Derived.Laws.RangeString
import Derived.Handed
import Derived.LaidMore
import Derived.LaidHandle
import Derived.Stop.Joined
import Derived.OpenShut
import Derived.LaidSub
import Derived.Lib.Bytealg
import Derived.Test.YtmjhfccbbfpppaaGreatDoorQZ05
import Derived.Test.YtmjhfccbbfpppaaGreatDoorQZ07
import Derived.Test.YtmjhfccbbfpppaaGreatDoorQZ08
namespace Go.Proofs.YtmjhfccbbfpppaaGreatDoor
open Go Go.RowKit Go.WideShapes Go.ChangeShapes Go.ChangeAt
set_option linter.unusedSimpArgs false
set_option linter.unusedVariables false
namespace Pm
def CellsF (w:World) (cs:List V) (ys:List Value):Prop:=ys.length=cs.length∧∀ (j:Nat) (u:V) (y:Value),cs[j]? = some u→ys[j]? = some y→R0 w (fun _=>False) u y
theorem CellsF.one {w:World} {u:V} {y:Value} (h:R0 w (fun _=>False) u y):CellsF w [u] [y]:=⟨rfl,fun j u' y' h1 h2=>by
 cases j with
 |zero=>simp at h1 h2;subst h1;subst h2;exact h
 |succ j=>simp at h1⟩
theorem CellsF.one_inv {w:World} {u:V} {y:Value} (h:CellsF w [u] [y]):R0 w (fun _=>False) u y:=h.2 0 u y rfl rfl
def Rd (P:Program) (t:TypeId) {α:Type} (f:α→List V) (p:α→Prop):Prop :=
 ∀ (H:Type) (enc:TypeId×Value→H) (w:World) (fuel:Nat) (cs:List Value) (d:DataW H) (ps:List MemPlace),DataW.trod enc P w 0 (fun _=>true) true fuel t cs=some (d,ps)→(∀ n ∈ d.weights P t,n≤140737488355328)→w.noneFrozen ps→∃ x:α,p x∧CellsF w (f x) cs
theorem Rd.int {P:Program} {t:TypeId} {k:IntKind} (ht:P.underlying t=some (.int k)):Rd P t (fun n:Int=>[.v (.int k n)]) (fun n=>(Lit.int k n).wf=true):=by
 intro H enc w fuel cs d ps h _ _
 obtain ⟨n,rfl,_,hw⟩:=DataW.trod_int ht h
 exact ⟨n,hw,.one (.v _)⟩
theorem Rd.bool {P:Program} {t:TypeId} (ht:P.underlying t=some .bool):Rd P t (fun b:Bool=>[.v (.bool b)]) (fun _=>True):=by
 intro H enc w fuel cs d ps h _ _
 obtain ⟨b,rfl,_⟩:=DataW.trod_bool ht h
 exact ⟨b,trivial,.one (.v _)⟩
theorem Rd.string {P:Program} {t:TypeId} (ht:P.underlying t=some .string):Rd P t (fun s:ByteArray=>[.v (.string s)]) (fun s=>s.size≤140737488355328):=by
 intro H enc w fuel cs d ps h hw _
 obtain ⟨s,rfl,hx,hs⟩:=DataW.trod_string ht h
 simp only [Prod.mk.injEq] at hx
 obtain ⟨rfl,_⟩:=hx
 exact ⟨s,by simpa using hw s.data.toList.length (by simp [DataW.weights]),.one (.v _)⟩
theorem b6r {β:Type} {g:Nat→Option β} {n:Nat} {l:List β} (h:(List.range n).mapM g=some l):l.length=n∧∀ i,i < n→g i=l[i]? :=
 ⟨by simpa using mapM_some_length h,fun i hi=>mapM_some_get h i i (by simp [hi])⟩
theorem c7w {α β:Type} {R:Nat→β→α→Prop}:∀ (n:Nat) (l:List β),l.length=n→(∀ i y,l[i]? = some y→∃ x,R i y x)→∃ m:List α,m.length=n∧∀ i y x,l[i]? = some y→m[i]? = some x→R i y x:=by
 intro n
 induction n with
 |zero =>
  intro l hl _
  exact ⟨[],rfl,fun i y x _ h=>by simp at h⟩
 |succ n ih =>
  intro l hl h
  have hne:l≠[]:=by rintro rfl;simp at hl
  obtain ⟨m,hm,hR⟩:=ih l.dropLast (by simp [hl]) (fun i y hy=>by
   obtain ⟨hi,e⟩:=List.getElem?_eq_some_iff.1 hy
   simp at hi
   exact h i y (by rw [← e];simp))
  have hlast:l[n]? = some (l.getLast hne):=by rw [List.getLast_eq_getElem,List.getElem?_eq_getElem (by omega)];simp [hl]
  obtain ⟨x,hx⟩:=h n _ hlast
  refine ⟨m++[x],by simp [hm],fun i y x' h1 h2=>?_⟩
  by_cases hi:i < n
  ·rw [List.getElem?_append_left (by omega)] at h2
   refine hR i y x' ?_ h2
   rw [← h1]
   simp [hl,hi]
  ·obtain ⟨hi',_⟩:=List.getElem?_eq_some_iff.1 h2
   have:i=n:=by simp at hi';omega
   subst this
   rw [List.getElem?_append_right (by omega)] at h2
   simp [hm] at h2
   subst h2
   rw [hlast] at h1
   cases h1
   exact hx
theorem Rd.slice {P:Program} {t e sz:TypeId} {α:Type} {f:α→List V} {p:α→Prop} (ht:P.underlying t=some (.slice e)) (hsz:P.cellsOf e=sz) (h0:0 < sz) (hb0:Nat.ble 1 (P.bytesOf e)=true) (hf:∀ x,(f x).length=sz) (he:Rd P e f p) :
  Rd P t (fun l:List α=>[.lst 0 sz (l.map f)]) (fun l=>l.length≤140737488355328∧∀ x ∈ l,p x):=by
 subst hsz
 intro H enc w fuel cs d ps h hwt hnf
 rcases DataW.trod_slice ht h with ⟨rfl,_⟩|⟨a,len,cap,elems,rest,n,rfl,rfl,hx,_,hlc,hcap,hel,hget,hrest,_⟩
 ·exact ⟨[],⟨by simp,by simp⟩,.one (.lst 0 _ [] none 0 0 0 0 (fun _ _=>undef) (by simp) rfl (by simp) (by simp) (by simp) (by simp) (by simp) (by simp))⟩
 ·simp only [Prod.mk.injEq] at hx
  obtain ⟨rfl,rfl⟩:=hx
  obtain ⟨hr1,_⟩:=hrest rfl
  have hw1:len≤140737488355328:=by
   have:=hwt ((elems.length+rest.length) * P.bytesOf e) (by simp [DataW.weights,ht])
   have h2:(elems.length+rest.length) * 1≤(elems.length+rest.length) * P.bytesOf e:=Nat.mul_le_mul_left _ (Nat.le_of_ble_eq_true hb0)
   omega
  have hw2:∀ x ∈ elems,∀ n ∈ x.1.weights P e,n≤140737488355328:=fun x hx n hn=>hwt n (by
   have:∀ {l:List (DataW H)} {d:DataW H},d ∈ l→∀ n ∈ d.weights P e,n ∈ DataW.weightsAll P e l:=by
    intro l
    induction l with
    |nil=>intro d h;cases h
    |cons a r ih =>
     intro d h n hn
     simp only [DataW.weightsAll,List.mem_append]
     rcases List.mem_cons.1 h with rfl|h
     ·exact .inl hn
     ·exact .inr (ih h n hn)
   have hm:=this (List.mem_map_of_mem (f:=(·.1)) hx) n hn
   simp [DataW.weights,ht,hm])
  -- every element's cells
  have key:∀ i y,(List.range len)[i]? = some y→∃ z:α×List Value,p z.1∧CellsF w (f z.1) z.2∧w.cells? 0 (a.add (i * P.cellsOf e)) (P.cellsOf e)=some z.2:=by
   intro i y hy
   obtain ⟨hi,_⟩:=List.getElem?_eq_some_iff.1 hy
   simp at hi
   have hg:=hget i hi
   rw [List.getElem?_eq_getElem (by omega)] at hg
   simp only [Option.bind_eq_some_iff] at hg
   obtain ⟨cs',h1,h2⟩:=hg
   have hsub:w.noneFrozen (elems[i]'(by omega)).2:=fun b off hp=>hnf b off (by
    simp only [List.mem_append,List.mem_flatMap]
    exact .inr ⟨_,.inl (List.getElem_mem _),hp⟩)
   obtain ⟨x,hp,hc⟩:=he H enc w n cs' _ _ h2 (hw2 _ (List.getElem_mem _)) hsub
   exact ⟨(x,cs'),hp,hc,h1⟩
  obtain ⟨m,hm,hR⟩:=c7w (R:=fun i _ (z:α×List Value)=>p z.1∧CellsF w (f z.1) z.2∧w.cells? 0 (a.add (i * P.cellsOf e)) (P.cellsOf e)=some z.2) len (List.range len) (by simp) key
  have hM:∀ i (hi:i < m.length),p m[i].1∧CellsF w (f m[i].1) m[i].2∧w.cells? 0 (a.add (i * P.cellsOf e)) (P.cellsOf e)=some m[i].2:=fun i hi=>hR i i m[i] (by rw [List.getElem?_range (by omega)]) (List.getElem?_eq_getElem hi)
  obtain ⟨b,o,sp⟩:=a
  have hcell:∀ i (hi:i < m.length) j (y:Value),m[i].2[j]? = some y→w.cell? (((⟨b,o,sp⟩:Addr).add (i * P.cellsOf e)).add j)=some y∧j < P.cellsOf e:=by
   intro i hi j y hy
   obtain ⟨_,_,hc⟩:=hM i hi
   unfold World.cells? at hc
   rw [if_pos (Nat.zero_le _)] at hc
   obtain ⟨h1,h2⟩:=b6r hc
   obtain ⟨hj,_⟩:=List.getElem?_eq_some_iff.1 hy
   rw [h1] at hj
   exact ⟨(h2 j hj).trans hy,hj⟩
  have hlen:∀ i (hi:i < m.length),m[i].2.length=P.cellsOf e:=by
   intro i hi
   obtain ⟨_,h2,_⟩:=hM i hi
   rw [h2.1,hf]
  refine ⟨m.map (·.1),⟨by simp;omega,?_⟩,.one ?_⟩
  ·intro x hx
   simp only [List.mem_map] at hx
   obtain ⟨z,hz,rfl⟩:=hx
   obtain ⟨i,hi,rfl⟩:=List.getElem_of_mem hz
   exact (hM i hi).1
  ·have hsp:0 < m.length→sp=none:=by
    intro hpos
    have:=hcell 0 hpos 0 (m[0].2[0]'(by rw [hlen 0 hpos];exact h0)) (List.getElem?_eq_getElem _)
    simpa [Addr.add] using World.cell?_spot this.1
   by_cases hpos:m.length=0
   ·have:m=[]:=List.length_eq_zero_iff.1 hpos
    subst this
    simp at hm
    subst hm
    exact .lst 0 _ [] _ _ _ 0 0 (fun _ _=>undef) (by simp) rfl (by simp) (by simp) (by simp) (by simp) (by simp) (by simp)
   ·have hs0:=hsp (by omega)
    subst hs0
    have hblt:b < w.heap.size:=by
     have:=hcell 0 (by omega) 0 (m[0].2[0]'(by rw [hlen 0 (by omega)];exact h0)) (List.getElem?_eq_getElem _)
     have h1:=this.1
     simp only [Addr.add] at h1
     unfold World.cell? at h1
     false_or_by_contra
     rename_i hge
     have:w.heap[b]? = none:=by simp;omega
     simp [this] at h1
    refine .lst 0 _ _ (some ⟨b,o,none⟩) len cap b o (fun i j=>((m[i]?.map (·.2)).getD [])[j]?.getD undef) (fun _=>Nat.zero_le _) (by simp;omega) (by simp;omega) (by simp;omega) (fun _=>⟨rfl,fun h=>h,hblt⟩) ?_ ?_ ?_
    ·intro i x j u h1 h2
     simp only [List.getElem?_map,List.map_map] at h1
     obtain ⟨z,hz,rfl⟩:=Option.map_eq_some_iff.1 h1
     obtain ⟨hi,rfl⟩:=List.getElem?_eq_some_iff.1 hz
     obtain ⟨hj,_⟩:=List.getElem?_eq_some_iff.1 h2
     have hj':j < m[i].2.length:=by rw [hlen i hi,← hf m[i].1];exact hj
     have hc:=hcell i hi j (m[i].2[j]) (List.getElem?_eq_getElem hj')
     simp only [a3n] at hc
     have e1:(((m[i]?.map (·.2)).getD [])[j]?).getD undef=m[i].2[j]:=by simp [List.getElem?_eq_getElem hi,List.getElem?_eq_getElem hj']
     rw [e1,show o+(i * P.cellsOf e+j)=o+i * P.cellsOf e+j by omega]
     refine ⟨hc.1,fun _=>hnf b _ ?_⟩
     simp only [List.mem_append]
     left
     unfold MemPlace.row
     simp only [List.mem_map,List.mem_range]
     refine ⟨i * P.cellsOf e+j,?_,by simp;omega⟩
     have:(i+1) * P.cellsOf e≤(elems.length+rest.length) * P.cellsOf e:=Nat.mul_le_mul_right _ (by omega)
     rw [Nat.add_mul] at this
     omega
    ·intro x hx
     simp only [List.map_map,List.mem_map] at hx
     obtain ⟨z,_,rfl⟩:=hx
     exact hf _
    ·intro i x j u h1 h2
     simp only [List.getElem?_map,List.map_map] at h1
     obtain ⟨z,hz,rfl⟩:=Option.map_eq_some_iff.1 h1
     obtain ⟨hi,rfl⟩:=List.getElem?_eq_some_iff.1 hz
     obtain ⟨hj,_⟩:=List.getElem?_eq_some_iff.1 h2
     have hj':j < m[i].2.length:=by rw [hlen i hi,← hf m[i].1];exact hj
     have e1:(((m[i]?.map (·.2)).getD [])[j]?).getD undef=m[i].2[j]:=by simp [List.getElem?_eq_getElem hi,List.getElem?_eq_getElem hj']
     rw [e1]
     exact (hM i hi).2.1.2 j u _ h2 (List.getElem?_eq_getElem hj')
def RdF (P:Program):List TypeId→{α:Type}→(α→List V)→(α→Prop)→Prop:=fun ts {α} f p =>
 ∀ (H:Type) (enc:TypeId×Value→H) (w:World) (fuel:Nat) (cs:List Value) (xs:List (DataW H×List MemPlace)),cs.length=(ts.map P.cellsOf).sum→xs.length=ts.length →
  (∀ (i:Nat) (t:TypeId),ts[i]? = some t→DataW.trod enc P w 0 (fun _=>true) true fuel t ((cs.drop ((ts.take i).map P.cellsOf).sum).take (P.cellsOf t))=xs[i]?)→(∀ (i:Nat) (t:TypeId) (x:DataW H×List MemPlace),ts[i]? = some t→xs[i]? = some x→∀ n ∈ x.1.weights P t,n≤140737488355328)→w.noneFrozen (xs.flatMap (·.2))→∃ x:α,p x∧CellsF w (f x) cs
theorem RdF.nil {P:Program}:RdF P [] (fun _:Unit=>[]) (fun _=>True):=by
 intro H enc w fuel cs xs h1 _ _ _ _
 simp at h1
 subst h1
 exact ⟨(),trivial,rfl,by simp⟩
theorem CellsF.append {w:World} {a b:List V} {x y:List Value} (h1:CellsF w a x) (h2:CellsF w b y):CellsF w (a++b) (x++y):=by
 refine ⟨by simp [h1.1,h2.1],fun j u z hu hz=>?_⟩
 by_cases hj:j < a.length
 ·rw [List.getElem?_append_left hj] at hu
  rw [List.getElem?_append_left (by rw [h1.1];exact hj)] at hz
  exact h1.2 j u z hu hz
 ·rw [List.getElem?_append_right (by omega)] at hu
  rw [List.getElem?_append_right (by rw [h1.1];omega),h1.1] at hz
  exact h2.2 _ u z hu hz
theorem RdF.cons {P:Program} {t:TypeId} {ts:List TypeId} {α β:Type} {f:α→List V} {g:β→List V} {p:α→Prop} {q:β→Prop} (h1:Rd P t f p) (h2:RdF P ts g q):RdF P (t::ts) (fun x:α×β=>f x.1++g x.2) (fun x=>p x.1∧q x.2):=by
 intro H enc w fuel cs xs hl hx hg hwt hn
 match xs,hx with
 |x0::xr,hx =>
  have h0:=hg 0 t rfl
  simp only [List.take_zero,List.map_nil,List.sum_nil,List.drop_zero,List.getElem?_cons_zero] at h0
  simp only [List.map_cons,List.sum_cons] at hl
  obtain ⟨a,ha,hca⟩:=h1 H enc w fuel _ x0.1 x0.2 h0 (hwt 0 t x0 rfl rfl) (fun b off hp=>hn b off (by simp [hp]))
  obtain ⟨b,hb,hcb⟩:=h2 H enc w fuel (cs.drop (P.cellsOf t)) xr (by simp;omega) (by simpa using hx) (fun i t' hi=>by
   have:=hg (i+1) t' (by simpa using hi)
   simp only [List.take_succ_cons,List.map_cons,List.sum_cons,List.getElem?_cons_succ] at this
   rw [List.drop_drop]
   exact this) (fun i t' x h3 h4=>hwt (i+1) t' x (by simpa using h3) (by simpa using h4)) (fun b off hp=>hn b off (by simp only [List.flatMap_cons,List.mem_append];exact .inr hp))
  refine ⟨(a,b),⟨ha,hb⟩,?_⟩
  have:=hca.append hcb
  rw [List.take_append_drop] at this
  exact this
theorem Rd.struct {P:Program} {t:TypeId} {fs:Array Field} {α:Type} {f:α→List V} {p:α→Prop} (ht:P.underlying t=some (.struct fs)) (hc:P.cellsOf t=((fs.toList.map (·.type)).map P.cellsOf).sum)
  (ho:(List.range fs.size).map (fun i=>(fs.toList[i]?).map (·.offset))=(List.range fs.size).map (fun i=>some (((fs.toList.map (·.type)).take i).map P.cellsOf).sum))
  (h:RdF P (fs.toList.map (·.type)) f p):Rd P t f p:=by
 intro H enc w fuel cs d ps hd hwt hn
 obtain ⟨xs,n,_,hx,hl,hxl,hg⟩:=DataW.trod_struct ht hd
 simp only [Prod.mk.injEq] at hx
 obtain ⟨rfl,rfl⟩:=hx
 refine h H enc w n cs xs (hl.trans hc) (by simpa using hxl) (fun i t' hi=>?_) (fun i t' x h3 h4 n hn=>hwt n ?_) hn
 rotate_left
 ·simp only [DataW.weights,ht]
  exact DataW.weights_mem_each h3 (by simp [h4]) n hn
 simp only [List.getElem?_map] at hi
 obtain ⟨fd,hfd,rfl⟩:=Option.map_eq_some_iff.1 hi
 have hi':i < fs.size:=by obtain ⟨h,_⟩:=List.getElem?_eq_some_iff.1 hfd;simpa using h
 have e:=congrArg (·[i]?) ho
 simp only [List.getElem?_map,List.getElem?_range hi',Option.map_some,hfd] at e
 rw [← hg i fd (by simpa using hfd)]
 injection e with e
 injection e with e
 rw [e]
theorem Rd.map {P:Program} {t:TypeId} {α β:Type} {f:α→List V} {g:β→List V} {p:α→Prop} {q:β→Prop} (h:Rd P t f p) (k:∀ x,p x→∃ y,q y∧g y=f x):Rd P t g q:=by
 intro H enc w fuel cs d ps hd hwt hn
 obtain ⟨x,hp,hc⟩:=h H enc w fuel cs d ps hd hwt hn
 obtain ⟨y,hq,e⟩:=k x hp
 exact ⟨y,hq,e ▸ hc⟩
def RdV (P:Program) (t:TypeId) {α:Type} (g:α→V) (p:α→Prop):Prop :=
 ∀ (H:Type) (enc:TypeId×Value→H) (w:World) (base:Nat) (v:Value) (d:DataW H) (ps:List MemPlace),Value.okWide P w .any base t v→DataW.Trod enc P w 0 (fun _=>true) true t v d ps→(∀ n ∈ d.weights P t,n≤140737488355328)→w.noneFrozen ps→∃ x:α,p x∧R0 w (fun _=>False) (g x) v
theorem RdV.struct {P:Program} {t:TypeId} {fs:Array Field} {α:Type} {f:α→List V} {p:α→Prop} (ht:P.underlying t=some (.struct fs)) (h:Rd P t f p):RdV P t (fun x=>.agg (f x)) p:=by
 intro H enc w base v d ps hok hd hwt hn
 unfold Value.okWide at hok
 rw [ht] at hok
 obtain ⟨cs,rfl,_,_⟩:=hok
 obtain ⟨n,hd⟩:=hd
 obtain ⟨x,hp,hc⟩:=h H enc w n _ d ps hd hwt hn
 refine ⟨x,hp,.agg _ _ (by simpa [Value.cells] using hc.1) fun j u y h1 h2=>hc.2 j u y h1 (by simpa [Value.cells] using h2)⟩
theorem RdV.one {P:Program} {t:TypeId} {α:Type} {g:α→V} {p:α→Prop} (ht:∀ w base v,Value.okWide P w .any base t v→v.cells=#[v]) (h:Rd P t (fun x=>[g x]) p):RdV P t g p:=by
 intro H enc w base v d ps hok hd hwt hn
 have e:=ht w base v hok
 obtain ⟨n,hd⟩:=hd
 rw [e] at hd
 obtain ⟨x,hp,hc⟩:=h H enc w n _ d ps hd hwt hn
 exact ⟨x,hp,hc.one_inv⟩
theorem e1b {P:Program} {t:TypeId} {k:IntKind} (ht:P.underlying t=some (.int k)) (w:World) (base:Nat) (v:Value) (h:Value.okWide P w .any base t v):v.cells=#[v]:=by
 unfold Value.okWide Cell.okWide Cell.ok at h
 simp only [ht] at h
 cases v<;>first|rfl|exact h.elim
def RdA (P:Program) (ts:List TypeId) {α:Type} (g:α→List V) (p:α→Prop):Prop :=
 ∀ (H:Type) (enc:TypeId×Value→H) (w:World) (base:Nat) (vs:List Value) (ds:List (DataW H)) (ps:List MemPlace),(∀ (j:Nat) (t:TypeId) (v:Value),ts[j]? = some t→vs[j]? = some v→Value.okWide P w .any base t v) →
  DataW.TrodAll enc P w 0 (fun _=>true) true ts vs ds ps→(∀ n ∈ DataW.weightsEach P ts ds,n≤140737488355328)→w.noneFrozen ps→∃ x:α,p x∧CellsF w (g x) vs
theorem RdA.nil {P:Program}:RdA P [] (fun _:Unit=>[]) (fun _=>True):=by
 intro H enc w base vs ds ps _ h _ _
 obtain ⟨rfl,_,_⟩:=trodAll_nil h
 exact ⟨(),trivial,rfl,by simp⟩
theorem RdA.cons {P:Program} {t:TypeId} {ts:List TypeId} {α β:Type} {f:α→V} {g:β→List V} {p:α→Prop} {q:β→Prop} (h1:RdV P t f p) (h2:RdA P ts g q):RdA P (t::ts) (fun x:α×β=>f x.1::g x.2) (fun x=>p x.1∧q x.2):=by
 intro H enc w base vs ds ps hok h hwt hn
 obtain ⟨v,vs',d,ds',a,b,rfl,rfl,rfl,g1,g2⟩:=trodAll_cons h
 obtain ⟨x,hp,hx⟩:=h1 H enc w base v d a (hok 0 t v rfl rfl) g1 (fun n hn=>hwt n (by simp [DataW.weightsEach,hn])) (fun b off h=>hn b off (by simp [h]))
 obtain ⟨y,hq,hy⟩:=h2 H enc w base vs' ds' b (fun j t v h3 h4=>hok (j+1) t v (by simpa using h3) (by simpa using h4)) g2 (fun n hn=>hwt n (by simp [DataW.weightsEach,hn])) (fun b off h=>hn b off (by simp [h]))
 exact ⟨(x,y),⟨hp,hq⟩,(CellsF.one hx).append hy⟩
section
variable {H:Type} {enc:TypeId×Value→H} {P:Program}
theorem d3e {f:Func} {s:ChangeSpec} {apart fresh handsOn again:Bool} {W W':World} {args:Array Value} {v:Value} {ds gs:List (DataW H)} {before pa pv:List MemPlace}
  (hW:DataW.Whole enc P f.params.toList s.vars apart W args.toList ds gs before)
  (hres:∀ (b:Nat) (sp:Nat→Bool) (hd:Bool),DataW.TrodAll enc P W' b sp hd f.resultTypes.toList (v.resultList f.resultTypes.size) (s.fn H (ds++gs)).results [])
  (hargs:∀ sp:Nat→Bool,(∀ p ∈ before,sp p.block=true)→DataW.TrodAll enc P W' 0 sp true f.params.toList args.toList (s.fn H (ds++gs)).args pa)
  (hvars:∀ sp:Nat→Bool,(∀ p ∈ before,sp p.block=true)→DataW.TrodVars enc P W' sp s.vars (s.fn H (ds++gs)).vars pv)
  (hps:before=pa++pv) (hb:Below W.heap.size W W')
  (hok:∀ (j:Nat) (t:TypeId) (r:Value),f.resultTypes[j]? = some t→(v.resultList f.resultTypes.size)[j]? = some r→Value.okWide P W' .any 0 t r) :
  s.post enc P f apart fresh handsOn again W args v W':=by
 have hlt:∀ p ∈ before,p.block < W.heap.size:=fun p hp=>hW.lt p hp
 have hold:∀ p ∈ before,(fun b=>decide (b < W.heap.size)) p.block=true:=fun p hp=>by simpa using hlt p hp
 refine ⟨ds,gs,before,[],pa,pv,hW,hres _ _ _,hargs _ hold,hvars _ hold,World.keptBut_mono (fun p hp=>⟨hp,?_⟩) (hb.frame (· ∈ before)),fun _=>?_⟩
 ·rw [hps,List.mem_append] at hp
  exact Or.inr hp
 ·obtain ⟨_,_,_,_,_,hz,hn⟩:=hW
  refine ⟨hok,_,_,([]++pa)++pv,⟨[]++pa,pv,trodAll_append (hargs _ (fun _ _=>rfl)) (hres _ _ _),hvars _ (fun _ _=>rfl),rfl,?_,?_⟩,?_⟩
  ·intro b off hp
   have hin:MemPlace.cell b off ∈ before:=by rw [hps];simpa using hp
   rw [hb.frozen (hlt _ hin)]
   exact hz b off hin
  ·intro ha
   have:=hn ha
   rw [hps] at this
   simpa using this
  ·intro p hp _
   rw [hps]
   simpa using hp
theorem b0n (hl:laidOutB P=true) {W W':World} {sp:Nat→Bool}:∀ {ts:List TypeId} {vs:List Value} {ds:List (DataW H)} {ps:List MemPlace},(∀ t ∈ ts,P.readableRec t=true∧t < P.types.size) →
  DataW.TrodAll enc P W 0 (fun _=>true) true ts vs ds ps→(∀ p ∈ ps,W.sameAt W' p)→(∀ p ∈ ps,sp p.block=true)→DataW.TrodAll enc P W' 0 sp true ts vs ds ps
 |[],vs,ds,ps,_,h,_,_=>by
  obtain ⟨rfl,rfl,rfl⟩:=trodAll_nil h
  exact rfl
 |t::ts,vs,ds,ps,ht,h,hs,hp=>by
  obtain ⟨v,vs',d,ds',a,b,rfl,rfl,rfl,g1,g2⟩:=trodAll_cons h
  exact ⟨a,b,WideElems.Trod_stays hl (ht t (by simp)).1 (ht t (by simp)).2 g1 (fun p h=>hs p (by simp [h])) (fun p h=>hp p (by simp [h])),
   b0n hl (fun t h=>ht t (by simp [h])) g2 (fun p h=>hs p (by simp [h])) (fun p h=>hp p (by simp [h])),rfl⟩
end
end Pm
open Go Go.RowKit
namespace Pm
def f9n (P:Program) (t:TypeId):Bool:=match P.underlying t with
 |some (.interface _)=>false
 |some _=>true
 |none=>false
theorem c9b {P:Program} {t:TypeId} (h:f9n P t=true):∃ d,P.underlying t=some d∧∀ m,d≠.interface m:=by
 unfold f9n at h
 split at h
 ·cases h
 ·rename_i d hn hu;exact ⟨d,hu,fun m e=>hn m e⟩
 ·cases h
theorem b8x {P:Program} {G:Gh} {s:St} {o:Oper} {Q:Exit→St→Prop} {rest:St→Prop} {x:Operand} {t:TypeId} {v:Value} (ho:o.op=.panic x) (hx:ev s x=.v (.iface t v))
  (h:Q (.panic [{ v:=.iface t v,recovered:=false }]) s):SemStep P G o s Q rest:=by
 rintro a w ⟨E,hE⟩
 refine a1b (fun c hc=>by rw [ho] at hc;cases hc) ?_
 have hv:=R.v_inv (a1y hE hx)
 unfold Oper.wp
 have hrun:(execOp a.eval o).run P w=.halt (.panic (.iface t v)) w:=by rw [show (execOp a.eval o)=(Functor.map Next.value (Instr.panic (a.eval x))) from by simp only [execOp,ho];rfl,hv];rfl
 rw [hrun]
 exact ⟨s,h,E,hE⟩
theorem d9u {w:World} {O:Nat→Prop} {E:Env} {ys:List Value} {y:Value} (h:R w O E (.agg (ys.map .v)) y):y=.agg ys.toArray:=by
 obtain ⟨zs,rfl,hsz,hr⟩:=R.agg_inv h
 congr 1
 apply Array.ext
 ·simpa using hsz
 ·intro i h1 h2
  have hi:i < ys.length:=by simpa using h2
  have:=R.v_inv (hr i (.v ys[i]) zs[i] (by simp [hi]) (by simp [h1]))
  simpa using this
theorem d0b {P:Program} {G:Gh} {s:St} {o:Oper} {Q:Exit→St→Prop} {rest:St→Prop} {x:Operand} {t:TypeId} (ys:List Value) (ho:o.op=.makeInterface t x) (hx:ev s x=.agg (ys.map .v)) (hu:f9n P t=true) (hc:chk G.n o.dst)
  (h:rest (a4b s o.dst (.v (.iface t (.agg ys.toArray))))):SemStep P G o s Q rest:=by
 intro a w hs
 refine a1b (fun c hc=>by rw [ho] at hc;cases hc) ?_
 refine a0f (a2u hc) (fun a w E hE=>?_) a w hs _ _ fun a' w' hs'=>⟨_,h,hs'⟩
 have hv:=d9u (a1y hE hx)
 obtain ⟨d,hd,hn⟩:=c9b hu
 refine ⟨.iface t (.agg ys.toArray),?_,.r0 _ _ (.v _)⟩
 cases d<;>first|(simp [execOp,ho,hv,Instr.makeInterface,a0l P w hd];done)|exact (hn _ rfl).elim
theorem d5w {P:Program} {G:Gh} {s:St} {o:Oper} {Q:Exit→St→Prop} {rest:St→Prop} {x:Operand} {t xt:TypeId} (ys:List Value) (ho:o.op=.typeAssert x xt t true) (hx:ev s x=.v (.iface t (.agg ys.toArray))) (hu:f9n P t=true) (hc:chk G.n o.dst)
  (h:rest (a4b s o.dst (.tup [.agg (ys.map .v),.v (.bool true)]))):SemStep P G o s Q rest:=by
 intro a w hs
 refine a1b (fun c hc=>by rw [ho] at hc;cases hc) ?_
 refine a0f (a2u hc) (fun a w E hE=>?_) a w hs _ _ fun a' w' hs'=>⟨_,h,hs'⟩
 have hv:=R.v_inv (a1y hE hx)
 obtain ⟨d,hd,hn⟩:=c9b hu
 refine ⟨.tuple #[.agg ys.toArray,.bool true],?_,.tup _ _ rfl fun j u y h1 h2=>?_⟩
 ·cases d<;>first|(simp [execOp,ho,hv,Instr.typeAssert,a0l P w hd];done)|exact (hn _ rfl).elim
 ·match j with
  |0 =>
   simp at h1 h2;subst h1;subst h2
   refine .agg _ _ (by simp) fun j u y h1 h2=>?_
   simp only [List.getElem?_map,Option.map_eq_some_iff] at h1
   obtain ⟨z,hz,rfl⟩:=h1
   simp [hz] at h2
   subst h2
   exact .r0 _ _ (.v _)
  |1=>simp at h1 h2;subst h1;subst h2;exact .r0 _ _ (.v _)
  |j+2=>simp at h1
def g0b (P:Program) (t:TypeId):Bool:=match P.underlying t with
 |some (.interface _)=>true
 |_=>false
theorem e3o {P:Program} {t:TypeId} (h:g0b P t=true):∃ m,P.underlying t=some (.interface m):=by
 unfold g0b at h
 split at h
 ·rename_i m hm;exact ⟨m,hm⟩
 ·cases h
theorem a7l {P:Program} {G:Gh} {s:St} {o:Oper} {Q:Exit→St→Prop} {rest:St→Prop} {x:Operand} {t t':TypeId} (u:Value) (b:Bool) (op:BinOp) (hop:op=.eql∧b=(match u with|.nilIface=>true|_=>false)∨op=.neq∧b=(match u with|.nilIface=>false|_=>true))
  (ho:o.op=.binOp op t x (.const .nilIface) t') (hx:ev s x=.v u) (hif:u=.nilIface∨∃ tt z,u=.iface tt z) (hu:g0b P t=true) (hc:chk G.n o.dst)
  (h:rest (a4b s o.dst (.v (.bool b)))):SemStep P G o s Q rest:=by
 intro a w hs
 refine a1b (fun c hc=>by rw [ho] at hc;cases hc) ?_
 refine a0f (a2u hc) (fun a w E hE=>?_) a w hs _ _ fun a' w' hs'=>⟨_,h,hs'⟩
 have hv:=R.v_inv (a1y hE hx)
 obtain ⟨m,hm⟩:=e3o hu
 have e1:a.eval (.const .nilIface)=.nilIface:=rfl
 have h2:(Op.equal t u .nilIface).run P w=.ok (match u with|.nilIface=>true|_=>false) w:=a4x fun d=>by rcases hif with rfl|⟨tt,z,rfl⟩<;>simp [Op.equalIn,a0l P w hm]
 refine ⟨.bool b,?_,.r0 _ _ (.v _)⟩
 rcases hop with ⟨rfl,hb⟩|⟨rfl,hb⟩<;>rcases hif with rfl|⟨tt,z,rfl⟩<;>subst hb
 ·have h1:(eqGuard .eql t x (.const .nilIface) .nilIface .nilIface).run P w=.ok () w:=by unfold eqGuard;simp
  have h3:binOp .eql t .nilIface .nilIface=(do pure (.bool (← Op.equal t .nilIface .nilIface))):=rfl
  simp [execOp,ho,hv,e1,h1,h2,h3]
 ·have h1:(eqGuard .eql t x (.const .nilIface) (.iface tt z) .nilIface).run P w=.ok () w:=by unfold eqGuard;simp
  have h3:binOp .eql t (.iface tt z) .nilIface=(do pure (.bool (← Op.equal t (.iface tt z) .nilIface))):=rfl
  simp [execOp,ho,hv,e1,h1,h2,h3]
 ·have h1:(eqGuard .neq t x (.const .nilIface) .nilIface .nilIface).run P w=.ok () w:=by unfold eqGuard;simp
  have h3:binOp .neq t .nilIface .nilIface=(do pure (.bool (!(← Op.equal t .nilIface .nilIface)))):=rfl
  simp [execOp,ho,hv,e1,h1,h2,h3]
 ·have h1:(eqGuard .neq t x (.const .nilIface) (.iface tt z) .nilIface).run P w=.ok () w:=by unfold eqGuard;simp
  have h3:binOp .neq t (.iface tt z) .nilIface=(do pure (.bool (!(← Op.equal t (.iface tt z) .nilIface)))):=rfl
  simp [execOp,ho,hv,e1,h1,h2,h3]
end Pm
open Go
namespace Pm
theorem YI.now {P:Program} {G:Gh} {l lam:Nat} {L:Loop} {fl:List (Nat×V)} {ps:List Nat} {mv:List (Nat×Nat)} {asg body:Code} {n:Nat} (h:YI P G l lam L fl ps mv asg body n)
  {s:St} {a:Act} {w:World} {E:Env} (hE:SimE G s a w E) (i:Nat):R w (OT G s E) E (lkV fl i) (L.tmps.getD i undef):=by
 obtain ⟨O1,hO1,hfl⟩:=h.fr
 obtain ⟨g1,g2⟩:=hfl i
 refine g2.nms hE.grow (fun b hb hlt hot=>?_) (fun b hb hlt hc=>hE.keep b hlt (hO1 b hb).2) (fun id hid r hr=>?_) 4 g1
 ·obtain ⟨q1,q2⟩:=hO1 b hb
  rcases hot with hot|⟨id,ob,K,C,k1,k2⟩
  ·exact q1 hot
  ·rcases (hE.fresh id ob b _ k1 k2).1 with k3|k3
   ·omega
   ·exact q2 k3
 ·obtain ⟨r',k1,k2⟩:=hE.base id hid
  rw [hr] at k1;cases k1;exact k2
theorem b1q {s s':St} {h:List (Nat×OB)} {N:Nat→Bool} (e:∀ id,N id=true→s'.hp id=s.hp id∧s'.us id=s.us id):∀ {ν:List (Nat×Nat)},(tgt ν).all N=true→b2v s h ν→b2v s' h ν
 |[],_,_=>trivial
 |(i,j)::r,hh,⟨h1,h2,h3,h4⟩=>by
  have h':N j=true∧(tgt r).all N=true:=by simpa [tgt,List.all_cons] using hh
  exact ⟨h1,(e j h'.1).2.trans h2,h3,b1q e h'.2 h4⟩
theorem c0f {P:Program} {G:Gh} {N:Nat→Bool} {M:Bool} {s:St} {k:FuncId} {cap as as':List V} {r:Nat→V} {h':Nat→List (Nat×OB)} (ν:List (Nat×Nat)) (hp:Tri P k as' [] (fun lo=>.ret (r lo) (h' lo)))
  (hA:okL (okN (toR []) 4) as' (as++cap)) (hM:M=true) (hN:(tgt ν).all N=true) (hN2:((upT [] ν (h' G.lo)).map (·.1)).all N=true) (hnew:b2v s [] ν) (hall:a3o (toR (a1o (h' G.lo) []++ν)) (h' G.lo)) (hu:a5f (h' G.lo)) :
  CallE P G N M (.fn (.func k) cap) as s (b7a (toR (a1o (h' G.lo) []++ν)) 4 (r G.lo),upT [] ν (h' G.lo)):=by
 refine ⟨fun h=>(by rw [hM] at h;cases h),fun p hp=>List.all_eq_true.1 hN2 _ (List.mem_map_of_mem hp),?_⟩
 intro s' e o Q rest hc hr
 refine b3w [] ν hp hA trivial ?_ ?_ trivial hc ⟨b1q e hN hnew,hall,hu,hr⟩
 ·simp [a2p,toR]
 ·simp [a0k,toR]
theorem YI.code {P:Program} {G:Gh} {l lam:Nat} {L:Loop} {fl:List (Nat×V)} {ps:List Nat} {mv:List (Nat×Nat)} {asg body body':Code} {n:Nat} (h:YI P G l lam L fl ps mv asg body n) (e:body=body'):YI P G l lam L fl ps mv asg body' n:=e ▸ h
end Pm
open Go Go.RowKit
namespace Pm
def a5i:Code→List Code
 |.seq a b=>a5i a++a5i b
 |c=>[c]
def wpL (F:Fence) (P:Program) (Q:Exit→Act→World→Prop):List Code→Act→World→Prop
 |[]=>Q .normal
 |c::r=>c.wpIn F 0 P (Exit.then (wpL F P Q r) Q)
theorem f4g {F:Fence} {P:Program} {Q:Exit→Act→World→Prop} (c:Code):∀ (r:List Code) {a:Act} {w:World},wpL F P Q (a5i c++r) a w→c.wpIn F 0 P (Exit.then (wpL F P Q r) Q) a w:=by
 have one:∀ (c:Code) (r:List Code) (a:Act) (w:World),wpL F P Q ([c]++r) a w→c.wpIn F 0 P (Exit.then (wpL F P Q r) Q) a w:=fun c r a w h=>h
 induction c with
 |seq x y ihx ihy =>
  intro r a w h
  simp only [a5i,List.append_assoc] at h
  refine wpIn_seq (wpIn_mono (ihx _ h) fun e a w h=>?_)
  cases e with
  |normal=>exact ihy r h
  |_=>exact h
 |_=>intro r a w h;exact one _ r a w h
def SemL (P:Program) (G:Gh) (l:List Code) (s:St) (Q:Exit→St→Prop):Prop:=∀ a w,Sim G s a w→wpL G.F P (b6u G Q) l a w
theorem SemL.semC {P:Program} {G:Gh} {c:Code} {s:St} {Q:Exit→St→Prop} (h:SemL P G (a5i c) s Q):SemC P G c s Q:=fun a w hs=>by
 have:=f4g c [] (by simpa using h a w hs)
 refine wpIn_mono this fun e a w h=>?_
 cases e<;>exact h
def vcN (P:Program) (G:Gh) (Q:Exit→St→Prop):Nat→List Code→St→Prop
 |0,l,s=>SemL P G l s Q
 |_+1,[],s=>Q .normal s
 |n+1,c::r,s=>vc P G c s (d1r (fun s _=>vcN P G Q n r s) Q)
theorem a1d {P:Program} {G:Gh} {Q:Exit→St→Prop}:∀ (n:Nat) (l:List Code) (s:St),vcN P G Q n l s→SemL P G l s Q:=by
 intro n
 induction n with
 |zero=>intro l s h;exact h
 |succ n ih =>
  intro l s h
  cases l with
  |nil=>intro a w hs;exact ⟨s,h,hs⟩
  |cons c r =>
   intro a w hs
   refine wpIn_mono (a0d c _ _ h a w hs) fun e a w h=>?_
   obtain ⟨s',h1,h2⟩:=h
   cases e with
   |normal=>exact ih r s' h1 a w h2
   |_=>exact ⟨s',h1,h2⟩
def XOK (G:Gh) (N:Nat) (Fx:V→Value→Prop):Prop:=∀ s a w E,SimE G s a w E→N≤w.heap.size ∧
 ∃ O':Nat→Prop,(∀ b,O' b→OT G s E b)∧(∀ b,N≤b→OT G s E b→O' b)∧∀ x y,Fx x y→R0 w O' x y
theorem XOK.of {G:Gh} {w1:World} {O1:Nat→Prop} {Fx:V→Value→Prop} (hF:∀ x y,Fx x y→R0 w1 O1 x y)
  (h:∀ w,G.Zi w→w1.heap.size≤w.heap.size∧∀ b,b < w1.heap.size→¬ O1 b→w.heap[b]? = w1.heap[b]?):XOK G w1.heap.size Fx:=by
 intro s a w E hE
 obtain ⟨h1,h2⟩:=h w hE.zi
 refine ⟨h1,fun b=>OT G s E b∧¬ (b < w1.heap.size∧¬ O1 b),fun b hb=>hb.1,fun b hN hb=>⟨hb,fun g=>by omega⟩,fun x y hxy=>?_⟩
 exact (hF x y hxy).mono h1 (fun b hb hlt g=>g.2 ⟨hlt,hb⟩) fun b hb hlt=>h2 b hlt hb
inductive AX (Fx:V→Value→Prop):V→V→Prop
 |pure (u u':V) (hp:pureV u=true) (hs:Sub u u'):AX Fx u u'
 |ex (y:Value) (u':V) (h:Fx u' y):AX Fx (.v y) u'
 |agg2 (c d c' d':V) (h1:AX Fx c c') (h2:AX Fx d d'):AX Fx (.agg [c,d]) (.agg [c',d'])
 |agg4 (a b c d a' b' c' d':V) (h1:AX Fx a a') (h2:AX Fx b b') (h3:AX Fx c c') (h4:AX Fx d d'):AX Fx (.agg [a,b,c,d]) (.agg [a',b',c',d'])
theorem AX.spec {Fx:V→Value→Prop} {w:World} {O O':Nat→Prop} {E:Env} (hF:∀ x y,Fx x y→R0 w O' x y) (hO:∀ b,O' b→O b) {u u':V} (h:AX Fx u u'):∀ {y:Value},R w O E u y→R0 w O' u' y:=by
 induction h with
 |pure u u' hp hs=>intro y hy;exact hs _ _ _ ((hy.pureV hp).mono (Nat.le_refl _) (fun b hb _ hb'=>hb (hO b hb')) fun _ _ _=>rfl)
 |ex y u' h=>intro y' hy;rw [R.v_inv hy];exact hF _ _ h
 |agg2 c d c' d' h1 h2 i1 i2 =>
  intro y hy
  obtain ⟨ys,rfl,hn,hr⟩:=R.agg_inv hy
  refine .agg _ _ hn fun j u y hj hy=>?_
  match j with
  |0=>simp at hj;subst hj;exact i1 (hr 0 c y rfl hy)
  |1=>simp at hj;subst hj;exact i2 (hr 1 d y rfl hy)
  |j+2=>simp at hj
 |agg4 a b c d a' b' c' d' h1 h2 h3 h4 i1 i2 i3 i4 =>
  intro y hy
  obtain ⟨ys,rfl,hn,hr⟩:=R.agg_inv hy
  refine .agg _ _ hn fun j u y hj hy=>?_
  match j with
  |0=>simp at hj;subst hj;exact i1 (hr 0 a y rfl hy)
  |1=>simp at hj;subst hj;exact i2 (hr 1 b y rfl hy)
  |2=>simp at hj;subst hj;exact i3 (hr 2 c y rfl hy)
  |3=>simp at hj;subst hj;exact i4 (hr 3 d y rfl hy)
  |j+4=>simp at hj
inductive AXs (Fx:V→Value→Prop):List V→List V→Prop
 |nil:AXs Fx [] []
 |cons {x x':V} {l l':List V} (h:AX Fx x x') (t:AXs Fx l l'):AXs Fx (x::l) (x'::l')
theorem AXs.spec {Fx:V→Value→Prop} {l l':List V} (h:AXs Fx l l'):l.length=l'.length∧∀ (j:Nat) (u':V),l'[j]? = some u'→∃ u,l[j]? = some u∧AX Fx u u':=by
 induction h with
 |nil=>exact ⟨rfl,by simp⟩
 |cons h t ih =>
  refine ⟨by simp [ih.1],fun j u' hj=>?_⟩
  cases j with
  |zero=>simp at hj;subst hj;exact ⟨_,rfl,h⟩
  |succ j=>simp at hj;simpa using ih.2 j u' hj
inductive Hi (N:Nat):V→Prop
 |any:Hi N .any
 |v (x:Value):Hi N (.v x)
 |lst (lo sz:Nat) (l:List (List V)) (h:N≤lo) (hr:∀ (i:Nat) (x:List V) (j:Nat) (u:V),l[i]? = some x→x[j]? = some u→Hi N u):Hi N (.lst lo sz l)
 |agg (cs:List V) (hr:∀ (j:Nat) (u:V),cs[j]? = some u→Hi N u):Hi N (.agg cs)
 |tup (cs:List V) (hr:∀ (j:Nat) (u:V),cs[j]? = some u→Hi N u):Hi N (.tup cs)
theorem Hi.spec {N:Nat} {w:World} {O O':Nat→Prop} {x:V} {y:Value} (h:R0 w O' x y):Hi N x→(∀ b,N≤b→O b→O' b)→R0 w O x y:=by
 induction h with
 |any y=>intro _ _;exact .any y
 |v x=>intro _ _;exact .v x
 |lst lo sz l a n cap b o g hlo hn hc hl ha hs hz hr ih =>
  intro h hO
  cases h with
  |lst _ _ _ h1 h2=>exact .lst lo sz l a n cap b o g hlo hn hc hl (fun h=>⟨(ha h).1,fun hb=>(ha h).2.1 (hO b (Nat.le_trans h1 (hlo h)) hb),(ha h).2.2⟩) hs hz fun i x j u q1 q2=>ih i x j u q1 q2 (h2 i x j u q1 q2) hO
 |fp cs b o g h1 hb hs hr ih=>intro h;cases h
 |agg cs ys hn hr ih =>
  intro h hO
  cases h with
  |agg _ h2=>exact .agg cs ys hn fun j u y q1 q2=>ih j u y q1 q2 (h2 j u q1) hO
 |tup cs ys hn hr ih =>
  intro h hO
  cases h with
  |tup _ h2=>exact .tup cs ys hn fun j u y q1 q2=>ih j u y q1 q2 (h2 j u q1) hO
 |fn f cap ys hn hr ih=>intro h;cases h
theorem Hi.agg2 {N:Nat} {x y:V} (h1:Hi N x) (h2:Hi N y):Hi N (.agg [x,y]):=.agg _ fun j u h=>by
 match j with
 |0=>simp at h;subst h;exact h1
 |1=>simp at h;subst h;exact h2
 |j+2=>simp at h
theorem Hi.map {α:Type} {N lo sz:Nat} {l:List α} {f:α→List V} (h:N≤lo) (hf:∀ (x:α) (j:Nat) (u:V),(f x)[j]? = some u→Hi N u):Hi N (.lst lo sz (l.map f)):=.lst _ _ _ h fun i x j u h1 h2=>by
 simp only [List.getElem?_map,Option.map_eq_some_iff] at h1
 obtain ⟨z,_,rfl⟩:=h1
 exact hf z j u h2
def isS:Value→Bool
 |.string _=>true
 |_=>false
def loose (wz w:World) (b:Nat):Prop:=∀ (ys:Array Value) (t:TypeId) (fz:Nat×Nat),wz.heap[b]? = some (.cells ys t fz) →
 ∃ ys':Array Value,w.heap[b]? = some (.cells ys' t fz)∧ys'.size=ys.size∧∀ (j:Nat) (v:Value),ys[j]? = some v→∃ v',ys'[j]? = some v'∧(v'=v∨(isS v=true∧isS v'=true))
theorem loose.same {wz w:World} {b:Nat} (h:w.heap[b]? = wz.heap[b]?):loose wz w b:=fun ys t fz hz=>⟨ys,h.trans hz,rfl,fun j v hj=>⟨v,hj,.inl rfl⟩⟩
theorem loose.next {wz w w':World} {b:Nat} (h:loose wz w b) (e:w'.heap[b]? = w.heap[b]?):loose wz w' b:=fun ys t fz hz=>by
 obtain ⟨ys',h1,h2,h3⟩:=h ys t fz hz
 exact ⟨ys',e.trans h1,h2,h3⟩
theorem c8o {w:World} {b o:Nat} {v:Value} (h:w.cell? ⟨b,o,none⟩=some v):∃ ys t fz,w.heap[b]? = some (.cells ys t fz)∧ys[o]? = some v:=by
 unfold World.cell? at h
 split at h
 ·rename_i c t fz hc
  exact ⟨c,t,fz,hc,by simpa using h⟩
 ·cases h
theorem loose.cell {wz w:World} {b o:Nat} {v:Value} (h:loose wz w b) (hc:b5p wz ⟨b,o,none⟩ v):∃ v',b5p w ⟨b,o,none⟩ v'∧(v'=v∨(isS v=true∧isS v'=true)):=by
 obtain ⟨ys,t,fz,h1,h2⟩:=c8o hc.1
 obtain ⟨ys',h3,h4,h5⟩:=h ys t fz h1
 obtain ⟨v',h6,h7⟩:=h5 o v h2
 refine ⟨v',⟨by simp [World.cell?,h3,h6],fun hw=>?_⟩,h7⟩
 have hw':wrV v=true:=by
  rcases h7 with rfl|⟨h8,_⟩
  ·exact hw
  ·cases v<;>first|rfl|cases h8
 have:=hc.2 hw'
 simpa [World.frozen?,h1,h3] using this
theorem loose.set {wz w:World} {b o:Nat} {v:Value} (h:loose wz w b) (hc:wz.cell? ⟨b,o,none⟩=some v) (hv:isS v=true) (x:ByteArray):loose wz (w.setCell ⟨b,o,none⟩ (.string x)) b:=fun ys t fz hz=>by
 obtain ⟨ys0,t0,fz0,h1,h2⟩:=c8o hc
 rw [hz] at h1
 cases h1
 obtain ⟨ys',h3,h4,h5⟩:=h ys t fz hz
 refine ⟨ys'.setIfInBounds o (.string x),by simp [World.setCell,Array.getElem?_modify,h3],by simpa using h4,fun j u hj=>?_⟩
 by_cases e:o=j
 ·subst e
  rw [h2] at hj
  cases hj
  have:o < ys'.size:=by rw [h4];exact (Array.getElem?_eq_some_iff.1 h2).1
  exact ⟨.string x,by simp [this],.inr ⟨hv,rfl⟩⟩
 ·obtain ⟨v',h6,h7⟩:=h5 j u hj
  exact ⟨v',by rw [Array.getElem?_setIfInBounds_ne e];exact h6,h7⟩
theorem a2s (a b:Code):a5i (.seq a b)=a5i a++a5i b:=rfl
theorem a1t (id:Nat) (l:Array Oper) (d:Bool):a5i (.region id l d)=[.region id l d]:=rfl
theorem a2i (c:Operand) (a b:Code):a5i (.cond c a b)=[.cond c a b]:=rfl
theorem a1w (id:Nat) (c:Code):a5i (.block id c)=[.block id c]:=rfl
theorem e0g (c:Code):a5i (.loop c)=[.loop c]:=rfl
theorem a2y:a5i .ret=[.ret]:=rfl
theorem e2s:a5i .skip=[.skip]:=rfl
theorem g1z {P:Program} {G:Gh} {Q:Exit→St→Prop} (l:List Code) (s:St):vcN P G Q 0 l s=SemL P G l s Q:=rfl
theorem g2l {P:Program} {G:Gh} {Q:Exit→St→Prop} (n:Nat) (s:St):vcN P G Q (n+1) [] s=Q .normal s:=rfl
theorem g1d {P:Program} {G:Gh} {Q:Exit→St→Prop} (n:Nat) (c:Code) (r:List Code) (s:St):vcN P G Q (n+1) (c::r) s=vc P G c s (d1r (fun s _=>vcN P G Q n r s) Q):=rfl
attribute [go_sem] a2s a1t a2i a1w e0g a2y e2s List.singleton_append g1z g2l g1d
theorem a2x {P:Program} {G:Gh} {l:List Code} {s s':St} {Q:Exit→St→Prop} (he:Ent G s s') (h:SemL P G l s' Q):SemL P G l s Q:=fun a w hs=>h a w (he a w hs)
theorem b5u (ow:Nat→Bool) {P:Program} {f:FuncId} {fn:Func} {c:Code} {as:List V} {r:Nat→V} {rs:List ResultVar} {m:Nat} (hf:P.funcs[f]? = some fn) (hm:fn.ntmps=m) (hb:fn.body=some c) (hname:(fn.name == "runtime.NumGoroutine")=false)
  (hn:as.length≤m) (hrs:fn.results=rs.toArray) (hl:rs.length≤3)
  (h:∀ (G:Gh),G.n=m→G.ow=ow→G.nm=[]→(∀ w,G.Zi w)→(∀ x ∈ as,Bd x)→SemL P G (a5i c) (St.of (a3y 0 as) []) (a2f P G.lo rs (r G.lo))):a0n P f as r:=by
 subst hm
 refine ⟨⟨fn,hf,hname,by simp [hb]⟩,fun lo w O ys hlo hO ha=>?_⟩
 refine a5z (G:=(c5o ow w O fn.ntmps lo hlo hO)) rfl hf hb ?_
 refine wpIn_mono (SemL.semC (h (c5o ow w O fn.ntmps lo hlo hO) rfl rfl rfl (fun _=>trivial) ha.bd) _ w (c4e ow hlo hO ha hn)) ?_
 rintro e a w' ⟨s,hq,hs⟩
 have fin:=c8t (P:=P) (ow:=ow) (m:=fn.ntmps) hlo hO hrs hl (r:=r lo) hs
 cases e with
 |normal=>exact fin hq
 |ret=>exact fin hq
 |exit=>exact hq.elim
 |goto=>exact hq.elim
 |panic=>exact hq.elim
 |outgrown=>exact hq.elim
def f7z (y:Value):V→V
 |.lst _ _ _|.fp _=>.v y
 |x=>x
def e8q (z:Nat→Value):Nat→List V→List V
 |_,[]=>[]
 |j,x::r=>f7z (z j) x::e8q z (j+1) r
def f9t (z:Nat→Value):OB→OB
 |.box cs=>.box (e8q z 0 cs)
 |o=>o
def exF (ys:Nat→Value):List (Nat×V)→List (Nat×V)
 |[]=>[]
 |(i,x)::r=>(i,f7z (ys i) x)::exF ys r
def exH (zs:Nat→Nat→Value):List (Nat×OB)→List (Nat×OB)
 |[]=>[]
 |(i,o)::r=>(i,f9t (zs i) o)::exH zs r
theorem f6h (ys:Nat→Value):∀ (fl:List (Nat×V)) (i:Nat),lkV (exF ys fl) i=f7z (ys i) (lkV fl i):=by
 intro fl
 induction fl with
 |nil=>intro i;rfl
 |cons p r ih =>
  obtain ⟨j,x⟩:=p
  intro i
  simp only [exF,lkV]
  split
  ·rename_i e;subst e;rfl
  ·exact ih i
theorem d9j (zs:Nat→Nat→Value):∀ (hl:List (Nat×OB)) (i:Nat),lkH (exH zs hl) i=(lkH hl i).map (f9t (zs i)):=by
 intro hl
 induction hl with
 |nil=>intro i;rfl
 |cons p r ih =>
  obtain ⟨j,x⟩:=p
  intro i
  simp only [exH,lkH]
  split
  ·rename_i e;subst e;rfl
  ·exact ih i
theorem f7m (zs:Nat→Nat→Value):∀ (hl:List (Nat×OB)) (i:Nat),usH (exH zs hl) i=usH hl i:=by
 intro hl
 induction hl with
 |nil=>intro i;rfl
 |cons p r ih=>intro i;simp only [exH,usH,ih]
theorem e7a (z:Nat→Value):∀ (cs:List V) (k j:Nat),(e8q z k cs)[j]? = (cs[j]?).map (f7z (z (k+j))):=by
 intro cs
 induction cs with
 |nil=>intro k j;simp [e8q]
 |cons x r ih =>
  intro k j
  cases j with
  |zero=>simp [e8q]
  |succ j=>simp only [e8q,List.getElem?_cons_succ,ih];rw [show k+1+j=k+(j+1) by omega]
theorem c8w (z:Nat→Value):∀ (cs:List V) (k:Nat),(e8q z k cs).length=cs.length:=by
 intro cs
 induction cs with
 |nil=>intro k;rfl
 |cons x r ih=>intro k;simp [e8q,ih]
theorem e8y {w:World} {O:Nat→Prop} {E:Env} {x:V} {y:Value} (h:R w O E x y):R w O E (f7z y x) y:=by
 cases x<;>first|exact h|exact .r0 _ _ (.v _)
def cellsOf (w:World) (E:Env) (id j:Nat):Value:=match E id with
 |some (some b,_,_)=>match w.heap[b]? with
  |some (.cells ys _ _)=>ys.getD j undef
  |_=>undef
 |_=>undef
theorem SimE.exact {G:Gh} {fl:List (Nat×V)} {hl:List (Nat×OB)} {a:Act} {w:World} {E:Env} (h:SimE G (St.of fl hl) a w E):∃ (ys:Nat→Value) (zs:Nat→Nat→Value),
  (∀ i,R w (OT G (St.of fl hl) E) E (lkV fl i) (ys i))∧(∀ id cs j u,lkH hl id=some (.box cs)→cs[j]? = some u→R w (OT G (St.of fl hl) E) E u (zs id j)) ∧
  (∀ b,OT G (St.of (exF ys fl) (exH zs hl)) E b↔OT G (St.of fl hl) E b)∧SimE G (St.of (exF ys fl) (exH zs hl)) a w E:=by
 have hz:∀ id cs j u,lkH hl id=some (.box cs)→cs[j]? = some u→R w (OT G (St.of fl hl) E) E u (cellsOf w E id j):=fun id cs j u h1 h2=>by
  obtain ⟨b,K,C,k1,b',ys,t,rfl,g2,g3,g4,g5,g6⟩:=h.hp id _ h1
  have hj:j < ys.size:=by rw [g3];exact (List.getElem?_eq_some_iff.1 h2).1
  simp only [cellsOf,k1,g2]
  exact g6 j u _ h2 (by simp [hj])
 have hlive:∀ b,a9k (St.of (exF (fun i=>a.tmps.getD i undef) fl) (exH (cellsOf w E) hl)) E b↔a9k (St.of fl hl) E b:=fun b=>by
  constructor
  ·rintro ⟨id,ob,K,C,h1,h2⟩
   have h1':lkH (exH (cellsOf w E) hl) id=some ob:=h1
   rw [d9j] at h1'
   simp only [Option.map_eq_some_iff] at h1'
   obtain ⟨o,h3,_⟩:=h1'
   exact ⟨id,o,K,C,h3,h2⟩
  ·rintro ⟨id,ob,K,C,h1,h2⟩
   have h1':lkH hl id=some ob:=h1
   refine ⟨id,f9t (cellsOf w E id) ob,K,C,?_,h2⟩
   show lkH (exH (cellsOf w E) hl) id=_
   rw [d9j,h1'];rfl
 have hOT:∀ b,OT G (St.of (exF (fun i=>a.tmps.getD i undef) fl) (exH (cellsOf w E) hl)) E b↔OT G (St.of fl hl) E b:=fun b=>or_congr Iff.rfl (hlive b)
 have hO':∀ b,¬ OT G (St.of fl hl) E b→¬ OT G (St.of (exF (fun i=>a.tmps.getD i undef) fl) (exH (cellsOf w E) hl)) E b:=fun b hb hb'=>hb ((hOT b).1 hb')
 have back:∀ {id ob},lkH (exH (cellsOf w E) hl) id=some ob→∃ o,lkH hl id=some o∧ob=f9t (cellsOf w E id) o:=fun {id ob} h1=>by
  rw [d9j] at h1
  simp only [Option.map_eq_some_iff] at h1
  obtain ⟨o,h3,h4⟩:=h1
  exact ⟨o,h3,h4.symm⟩
 refine ⟨fun i=>a.tmps.getD i undef,cellsOf w E,h.fr,hz,hOT,⟨fun i=>?_,h.defers.mono rfl fun b hb _ _=>⟨rfl,fun hl=>hb ((hlive b).1 hl)⟩,h.size,fun id ob hob=>?_,fun id hid=>?_,fun i i' o o' b x x' k1 k2 k3 k4=>?_,fun i o b x k1 k2=>?_,h.old,h.grow,h.os,h.tape,h.output,h.keep,h.base,h.zi⟩⟩
 ·show R w _ E (lkV (exF _ fl) i) _
  rw [f6h]
  exact (e8y (h.fr i)).weak hO' fun _ _ h=>h
 ·obtain ⟨o,h1,rfl⟩:=back hob
  obtain ⟨b,K,C,k1,k2⟩:=h.hp id o h1
  refine ⟨b,K,C,k1,?_⟩
  cases o with
  |arr t sz l=>exact k2.mono (Nat.le_refl _) (fun b hb _=>hO' b hb) (fun _ _ _=>rfl) (fun _ _ h=>h) fun _ _=>rfl
  |map kk m=>exact k2.mono (Nat.le_refl _) (fun b hb _=>hO' b hb) (fun _ _ _=>rfl) (fun _ _ h=>h) fun _ _=>rfl
  |mpe kk m j bo=>exact k2.mono (Nat.le_refl _) (fun b hb _=>hO' b hb) (fun _ _ _=>rfl) (fun _ _ h=>h) fun _ _=>rfl
  |obj x=>exact k2.mono (Nat.le_refl _) (fun b hb _=>hO' b hb) (fun _ _ _=>rfl) (fun _ _ h=>h) fun _ _=>rfl
  |arx t sz l=>exact k2.mono (Nat.le_refl _) (fun b hb _=>hO' b hb) (fun _ _ _=>rfl) (fun _ _ h=>h) fun _ _=>rfl
  |box cs =>
   obtain ⟨b',ys,t,rfl,g2,g3,g4,g5,g6⟩:=k2
   refine ⟨b',ys,t,rfl,g2,by rw [c8w];exact g3,by rw [c8w];exact g4,g5,fun j u y q1 q2=>?_⟩
   rw [e7a] at q1
   simp only [Option.map_eq_some_iff,Nat.zero_add] at q1
   obtain ⟨u',q3,rfl⟩:=q1
   have e:cellsOf w E id j=y:=by simp only [cellsOf,k1,g2];rw [Array.getD_eq_getD_getElem?,q2];rfl
   rw [e]
   exact (e8y (g6 j u' y q3 q2)).weak hO' fun _ _ h=>h
 ·show usH (exH _ hl) id=true
  rw [f7m];exact h.us id hid
 ·obtain ⟨_,f1,_⟩:=back k1
  obtain ⟨_,f2,_⟩:=back k2
  exact h.inj i i' _ _ b x x' f1 f2 k3 k4
 ·obtain ⟨_,f1,_⟩:=back k1
  exact h.fresh i _ b x f1 k2
end Pm
open Go Go.RowKit
namespace Pm
theorem c7c {P:Program} (w:World) (t u ty e:TypeId) (i:TypeInfo) (ht:P.underlying t=some (.slice e)) (hu:P.underlying u=some .string) (hi:P.info? e=some i) (hz:i.zero=some (.int .u8 0))
  (hsize:i.size=1) (hby:i.bytes=1) (v:Value) (n:Nat) (xs:List Value) (hown:w.ownsRow 0 e 1 v n xs) (s:ByteArray) (h63:n+s.size≤maxLen) (hbytes:n+s.size≤140737488355328) :
  ∃ v' w',(Builtin.append_ #[t,u] ty #[v,.string s]).run P w=.ok v' w'∧w'.ownsRow 0 e 1 v' (n+s.size) (xs++Lib.strCells s)∧w.grownBy w' v.ownBlock∧(v'.ownBlock=v.ownBlock∨v'.ownBlock=some w.heap.size):=by
 obtain ⟨v',w',h1,h2,h3,h4⟩:=Lib.run_append_own_string (P:=P) w 0 t u ty e i ht hu hi hz hsize hby v n xs hown s h63 hbytes (Nat.zero_le _)
 refine ⟨v',w',h1,h2,h3,?_⟩
 have hsmall:n+s.size≤9223372036854775807:=by simp only [maxLen] at h63;omega
 rcases hown.2 with ⟨rfl,rfl⟩|⟨g,cap,cur,rfl,hbg,hg,hnc,hcm,hcs,htake⟩
 ·by_cases hm:s.size=0
  ·left
   rw [h4.2 ⟨rfl,hm⟩]
  ·right
   have hr:=run_append_nil_string (P:=P) w t u ty e i (.int .u8 0) ht hu hi hz s (by omega) (by omega) (by rw [hby];omega)
   rw [h1] at hr
   simp only [Result.ok.injEq] at hr
   rw [hr.1];rfl
 ·have hcs':cur.size=cap:=by simpa using hcs
  by_cases hroom:n+s.size≤cap
  ·left
   have hr:=Lib.run_append_room_string (P:=P) w t u ty e i ht hu hi hsize g n cap cur hg s hroom (by omega)
   rw [h1] at hr
   simp only [Result.ok.injEq] at hr
   rw [hr.1];rfl
  ·right
   have holds:∀ j u,xs[j]? = some u→w.cell? ((⟨g,0,none⟩:Addr).add j)=some u:=hown.cells (g:=g) rfl
   have hr:=Lib.run_append_grow_string (P:=P) w t u ty e i (.int .u8 0) ht hu hi hz ⟨g,0,none⟩ n cap xs (by rw [hsize];simpa using hown.1) holds s (by omega) (by omega) (by rw [hby];exact growslice_fits (by omega) (by omega))
   rw [h1] at hr
   simp only [Result.ok.injEq] at hr
   rw [hr.1];rfl
def c1h (P:Program) (el:TypeId):Prop:=(P.info? el).map (fun i=>(i.zero,i.size,i.bytes))=some (some (.int .u8 0),1,1)
theorem d6h (l:List UInt8):∀ r ∈ l.map a4q,r.length=1:=fun r hr=>by
 obtain ⟨b,_,rfl⟩:=List.mem_map.1 hr;rfl
theorem c6y {P:Program} {G:Gh} {s:St} {o:Oper} {d t u el:Nat} {xo yo:Operand} {x:V} {l:List (List V)} {io:Option Nat} {str:ByteArray}
  (ho:o.op=.call ⟨.builtin .append,#[xo,yo],#[t,u]⟩) (hx:ev s xo=x) (hy:ev s yo=.v (.string str))
  (hu:s.used d=false) (ha:IsArr s el 1 x l io) (hse:a0t P t=some (el,1)) (hus:tk P u=.str) (hb:c1h P el)
  (hlen:l.length+str.size≤140737488355328) :
  ∀ a w E,SimE G s a w E→∃ v' w' E',(execOp a.eval o).run P w=.ok (.value v') w'∧SimE G (a1j s (a4k io++[(d,some (.arr el 1 (l++str.data.toList.map a4q)))])) a w' E'∧R w' (OT G (a1j s (a4k io++[(d,some (.arr el 1 (l++str.data.toList.map a4q)))])) E') E' (.own d 0 (l.length+str.size) 1) v':=by
 intro a w E hs
 obtain ⟨hU,inf,hinf,hsz⟩:=a2c hse
 have hb':=hb
 unfold c1h at hb'
 rw [hinf] at hb'
 simp only [Option.map_some,Option.some.injEq,Prod.mk.injEq] at hb'
 obtain ⟨hz0,hz1,hz2⟩:=hb'
 have hRx:=a1y hs hx
 have hyv:=R.v_inv (a1y hs hy)
 obtain ⟨xs,hown,hob1,hxs⟩:=d8p hs ha hRx
 have hall:l.length+str.size≤maxLen:=by simp only [maxLen];omega
 obtain ⟨v',w',hrun,hown',hgrow,hblk⟩:=c7c (P:=P) w t u o.type el inf hU (b1i hus) hinf hz0 hz1 hz2 (a.eval xo) l.length xs hown str hall hlen
 have hexec:(execOp a.eval o).run P w=.ok (.value v') w':=by
  have:=hrun
  simp [execOp,ho,resolve,invoke,builtin,hyv,this]
 obtain ⟨hxl,_⟩:=hown
 have hxl':xs.length=l.length:=by simpa using hxl
 have hsl:str.data.toList.length=str.size:=by rw [Array.length_toList];rfl
 obtain ⟨new,hnew⟩:∃ new,new=str.data.toList.map a4q:=⟨_,rfl⟩
 have hnl:new.length=str.size:=by rw [hnew,List.length_map,hsl]
 rw [← hnew]
 have hlive:∀ b,(a.eval xo).ownBlock=some b→OT G s E b:=fun b hb=>by
  obtain ⟨id,C,ob,_,h2,h3⟩:=hob1 b hb
  exact .inr ⟨id,ob,_,C,h2,h3⟩
 have hkeep:∀ b,¬ OT G s E b→b < w.heap.size→w'.heap[b]? = w.heap[b]?:=fun b hnb hlt=>hgrow.block b hlt (fun e=>hnb (hlive b e.symm))
 have hrow:∀ b,(a.eval xo).ownBlock=some b→∃ id ob' K' C',io=some id∧s.hp id=some ob'∧E id=some (some b,K',C'):=fun b hb=>by
  obtain ⟨id,C,ob,h1,h2,h3⟩:=hob1 b hb
  exact ⟨id,ob,_,C,h1,h2,h3⟩
 have hel:∀ q,q ∈ l++new→q.length=1:=fun q hq=>by
  rcases List.mem_append.1 hq with hq|hq
  ·cases ha with
   |nil=>simp at hq
   |own id _ hob =>
    obtain ⟨b,K,C,h1,h2,_⟩:=hs.hp id _ hob
    exact h2 q hq
  ·rw [hnew] at hq
   exact d6h _ q hq
 rcases hown'.2 with ⟨hv,hzero⟩|⟨g,cap,cur,hv,_,hcur,hle,hcap,hcs,htake⟩
 ·obtain ⟨E',h1,h2⟩:=hs.grown (io:=io) (d:=d) hu (ob:=.arr el 1 (l++new)) (bo:=none) (K:=0) (C:=0) hgrow hrow (by simp) (by simp) (fun O' E' _=>⟨hel,by decide,by rw [List.length_append];omega,by rw [List.length_append];omega,rfl,rfl⟩)
  refine ⟨v',w',E',hexec,h1,.own d 0 _ 1 none 0 0 _ h2 ⟨by omega,Nat.le_refl _,rfl,hzero,hv⟩⟩
 ·have hgb:(a.eval xo).ownBlock=some g∨g=w.heap.size:=by
   rw [hv] at hblk
   rcases hblk with hb|hb
   ·exact .inl hb.symm
   ·right;simpa [Value.ownBlock] using hb
  have hHB:∀ (O':Nat→Prop) (E':Env),(∀ b,¬ OT G s E b→b < w.heap.size→¬ O' b)→HB w' O' E' (some g) (l.length+str.size) cap (.arr el 1 (l++new)):=fun O' E' hO'=>by
   refine ⟨hel,by decide,by rw [List.length_append];omega,by rw [List.length_append,hnl],cur,hcur,hcs,hle,hcap,fun i x j u y h3 h4 h5=>?_⟩
   have hj:j < 1:=by rw [← hel x (List.mem_of_getElem? h3)];exact (List.getElem?_eq_some_iff.1 h4).1
   have hi:i < l.length+str.size:=by have:=(List.getElem?_eq_some_iff.1 h3).1;rw [List.length_append,hnl] at this;exact this
   have h5':(xs++Lib.strCells str)[i * 1+j]? = some y:=by
    rw [← htake,List.getElem?_take,if_pos (by omega)];simpa using h5
   have mono:∀ {u:V} {y:Value},R0 w (OT G s E) u y→R0 w' O' u y:=fun h=>h.mono hgrow.size hO' hkeep
   by_cases hil:i < l.length
   ·rw [List.getElem?_append_left hil] at h3
    rw [List.getElem?_append_left (by omega)] at h5'
    exact mono (hxs i x j u y h3 h4 h5')
   ·rw [List.getElem?_append_right (by omega),hnew,List.getElem?_map] at h3
    rw [List.getElem?_append_right (by omega)] at h5'
    have e1:i * 1+j - xs.length=i - l.length:=by omega
    rw [e1] at h5'
    unfold Lib.strCells at h5'
    rw [List.getElem?_map] at h5'
    obtain ⟨b,hb1,rfl⟩:=Option.map_eq_some_iff.1 h3
    rw [hb1] at h5'
    have hj0:j=0:=by omega
    subst hj0
    simp only [a4q,List.getElem?_cons_zero,Option.some.injEq] at h4
    subst h4
    simp only [Option.map_some,Option.some.injEq] at h5'
    subst h5'
    exact .v _
  obtain ⟨E',h1,h2⟩:=hs.grown (io:=io) (d:=d) hu (ob:=.arr el 1 (l++new)) (bo:=some g) (K:=l.length+str.size) (C:=cap) hgrow hrow (fun b hb=>by cases hb;exact hgb)
   (fun b hb=>by cases hb;exact (Array.getElem?_eq_some_iff.1 hcur).1) hHB
  exact ⟨v',w',E',hexec,h1,.own d 0 _ 1 (some g) _ cap _ h2 ⟨by omega,hle,0,by simp,by rw [hv];simp⟩⟩
theorem b2m {P:Program} {G:Gh} {s:St} {o:Oper} {Q:Exit→St→Prop} {rest:St→Prop} {d t u el:Nat} {xo yo:Operand} {x:V} {l:List (List V)} {io:Option Nat} {str:ByteArray}
  (ho:o.op=.call ⟨.builtin .append,#[xo,yo],#[t,u]⟩) (hx:ev s xo=x) (hy:ev s yo=.v (.string str)) (hd:o.dst=some d) (hdn:d < G.n)
  (hu:s.used d=false) (ha:IsArr s el 1 x l io) (hse:a0t P t=some (el,1)) (hus:tk P u=.str) (hb:c1h P el)
  (hlen:l.length+str.size≤140737488355328)
  (hr:rest (app s o.dst (.own d 0 (l.length+str.size) 1,a4k io++[(d,some (.arr el 1 (l++str.data.toList.map a4q)))]))):SemStep P G o s Q rest:=by
 intro a w hs
 refine a1b (fun c hc=>by rw [ho] at hc;cases hc) ?_
 exact a2h (fun d' h=>by rw [hd] at h;cases h;exact hdn) (c6y ho hx hy hu ha hse hus hb hlen) a w hs _ _ fun a' w' hs'=>⟨_,hr,hs'⟩
theorem c3o {P:Program} {G:Gh} {s:St} {o:Oper} {Q:Exit→St→Prop} {rest:St→Prop} {d t t' i k:Nat} {xo yo:Operand}
  (ho:o.op=.binOp .neq t xo yo t') (hx:ev s xo=.ptr i k) (hy:ev s yo=.ptr i k) (hd:o.dst=some d) (hdn:d < G.n) {e:TypeId} (hu:P.underlying t=some (.pointer e)) (hi:(P.info? e).isSome=true)
  (hr:rest (a4b s o.dst (.v (.bool false)))):SemStep P G o s Q rest:=by
 intro a w hs
 refine a1b (fun c hc=>by rw [ho] at hc;cases hc) ?_
 obtain ⟨inf,hinf⟩:=Option.isSome_iff_exists.1 hi
 refine a0f (x:=.v (.bool false)) (fun d' h=>by rw [hd] at h;cases h;exact hdn) (fun a w E hs=>⟨_,?_,.r0 _ _ (.v _)⟩) a w hs _ _ fun a' w' hs'=>⟨_,hr,hs'⟩
 obtain ⟨b,K,C,hE,hxv⟩:=R.ptr_inv (a1y hs hx)
 obtain ⟨b',K',C',hE',hyv⟩:=R.ptr_inv (a1y hs hy)
 rw [hE] at hE'
 cases hE'
 have hq:(Op.equal t (a.eval xo) (a.eval yo)).run P w=.ok true w:=by
  rw [hxv,hyv]
  exact a4x fun d=>by by_cases h0:inf.size=0<;>simp [Op.equalIn,a0l P w hu,a1m P w hinf,h0,sameAddr]
 have hg:(eqGuard .neq t xo yo (a.eval xo) (a.eval yo)).run P w=.ok () w:=by rw [hxv,hyv];unfold eqGuard;split<;>simp
 have hb:binOp .neq t (a.eval xo) (a.eval yo)=(do pure (.bool (!(← Op.equal t (a.eval xo) (a.eval yo))))):=by rw [hxv,hyv];rfl
 simp [execOp,ho,hg,hb,hq]
theorem d7x {P:Program} {G:Gh} {s:St} {o:Oper} {Q:Exit→St→Prop} {rest:St→Prop} {d t:Nat}
  (ho:o.op=.alloc t) (hd:o.dst=some d) (hdn:d < G.n) (hu:s.used d=false) (hz:a0q P t=some [.pointer none,.slice none 0 0])
  (hr:rest (app s o.dst (.ptr d 0,[(d,some (.obj (.cells #[.pointer none,.slice none 0 0] t (0,0))))]))):SemStep P G o s Q rest:=by
 intro a w hs
 refine a1b (fun c hc=>by rw [ho] at hc;cases hc) ?_
 refine a2h (x:=.ptr d 0) (l:=[(d,some (.obj (.cells #[.pointer none,.slice none 0 0] t (0,0))))]) (fun d' h=>by rw [hd] at h;cases h;exact hdn) (fun a w E hs=>?_) a w hs _ _ fun a' w' hs'=>⟨_,hr,hs'⟩
 obtain ⟨zv,hzr,hzc⟩:=b0o hz w
 have hzc':zv.cells=#[.pointer none,.slice none 0 0]:=by apply Array.ext';simpa using hzc
 obtain ⟨E',h1,h2,h3,h4⟩:=hs.new (id:=d) hu (o:=.cells zv.cells t) (ob:=.obj (.cells #[.pointer none,.slice none 0 0] t (0,0))) (K:=0) (C:=0) (fun O' E' hO hE=>⟨w.heap.size,rfl,by rw [a4u,hzc'],rfl,rfl⟩)
 refine ⟨.pointer (some ⟨w.heap.size,0,none⟩),_,E',?_,h1,.ptr d 0 _ _ _ h2⟩
 simp [execOp,ho,Instr.alloc,newVar,newRow,hzr]
end Pm
open Go Go.RowKit
namespace Pm
attribute [go_sem] f9s
inductive IsArrX (s:St) (el sz:Nat):V→List (List V)→Option Nat→Prop
 |own (id:Nat) (l:List (List V)) (h:s.hget id=some (.arx el sz l)):IsArrX s el sz (.own id 0 l.length sz) l (some id)
 |arr (id:Nat) (l:List (List V)) (h:s.hget id=some (.arr el sz l)):IsArrX s el sz (.own id 0 l.length sz) l (some id)
 |nil:IsArrX s el sz (.v (.slice none 0 0)) [] none
inductive IsSrcX (s:St) (sz:Nat):V→List (List V)→Prop
 |box (id:Nat) (r:List V) (h:s.hget id=some (.box r)) (hr:r.length=sz):IsSrcX s sz (.own id 0 1 sz) [r]
 |src (y:V) (l:List (List V)) (h:IsSrc s sz y l):IsSrcX s sz y l
end Pm
open Go Go.RowKit
namespace Pm
theorem c5x {P:Program} {G:Gh} {s:St} {o:Oper} {Q:Exit→St→Prop} {rest:St→Prop} {d t:Nat} {x:Operand} {str:ByteArray}
  (ho:o.op=.range t x) (hx:ev s x=.v (.string str)) (ht:tk P t=.str) (hd:o.dst=some d) (hdn:d < G.n) (hu:s.used d=false)
  (hr:rest (app s o.dst (.ptr d 0,[(d,some (.obj (.stringIter str 0)))]))):SemStep P G o s Q rest:=by
 intro a w hs
 refine a1b (fun c hc=>by rw [ho] at hc;cases hc) ?_
 refine a2h (x:=.ptr d 0) (l:=[(d,some (.obj (.stringIter str 0)))]) (fun d' h=>by rw [hd] at h;cases h;exact hdn) (fun a w E hs=>?_) a w hs _ _ fun a' w' hs'=>⟨_,hr,hs'⟩
 have hxv:=R.v_inv (a1y hs hx)
 obtain ⟨E',h1,h2,h3,h4⟩:=hs.new (id:=d) hu (o:=.stringIter str 0) (ob:=.obj (.stringIter str 0)) (K:=0) (C:=0) (fun O' E' hO hE=>⟨w.heap.size,rfl,a4u w _,rfl,rfl⟩)
 refine ⟨.pointer (some ⟨w.heap.size,0,none⟩),_,E',?_,h1,.ptr d 0 _ _ _ h2⟩
 simp [execOp,ho,hxv,Instr.range,a0l P w (b1i ht)]
theorem e1h {P:Program} {w:World} {b pos:Nat} {str:ByteArray} {ty:TypeId} (hb:w.heap[b]? = some (.stringIter str pos)) (h:pos < str.size) :
  (Instr.next (.pointer (some ⟨b,0,none⟩)) true ty).run P w=.ok (.tuple #[.bool true,.int .i64 pos,.int .i32 (Utf8.decode str pos).1]) { w with heap:=w.heap.setIfInBounds b (.stringIter str (pos+(Utf8.decode str pos).2)) }:=by
 simp only [Instr.next,getObj,setObj,Sem.run_bind,Sem.run,hb,Result.andThen,h,if_true]
 simp [goInt,Sem.run,hb]
theorem d2t {P:Program} {G:Gh} {s:St} {o:Oper} {Q:Exit→St→Prop} {rest:St→Prop} {d k pos:Nat} {x:Operand} {str:ByteArray}
  (ho:o.op=.next x true) (hx:ev s x=.ptr k 0) (hob:s.hget k=some (.obj (.stringIter str pos))) (hd:o.dst=some d) (hdn:d < G.n) (hp:pos < str.size)
  (hr:rest (app s o.dst (.tup [.v (.bool true),.v (.int .i64 pos),.v (.int .i32 (Utf8.decode str pos).1)],[(k,some (.obj (.stringIter str (pos+(Utf8.decode str pos).2))))]))):SemStep P G o s Q rest:=by
 intro a w hs
 refine a1b (fun c hc=>by rw [ho] at hc;cases hc) ?_
 refine a2h (x:=.tup [.v (.bool true),.v (.int .i64 pos),.v (.int .i32 (Utf8.decode str pos).1)]) (l:=[(k,some (.obj (.stringIter str (pos+(Utf8.decode str pos).2))))]) (fun d' h=>by rw [hd] at h;cases h;exact hdn) (fun a w E hs=>?_) a w hs _ _ fun a' w' hs'=>⟨_,hr,hs'⟩
 obtain ⟨b,K,C,hE,hxv⟩:=R.ptr_inv (a1y hs hx)
 obtain ⟨b1,K1,C1,hE1,hh⟩:=hs.hp k _ hob
 rw [hE] at hE1
 cases hE1
 obtain ⟨b2,e2,hbk,rfl,rfl⟩:=hh
 cases e2
 obtain ⟨f1,f2,f3⟩:=a6q (o':=.stringIter str (pos+(Utf8.decode str pos).2)) hbk
 refine ⟨.tuple #[.bool true,.int .i64 pos,.int .i32 (Utf8.decode str pos).1],{ w with heap:=w.heap.setIfInBounds b (.stringIter str (pos+(Utf8.decode str pos).2)) },E,?_,hs.write hob hE rfl rfl rfl f2 f3 fun O1 hO1=>⟨b,rfl,f1,rfl,rfl⟩,.r0 _ _ (.tup _ _ rfl fun j u y h1 h2=>?_)⟩
 ·simp only [execOp,ho,hxv,Sem.run_bind,e1h hbk hp,Result.andThen];rfl
 ·match j with
  |0=>simp at h1 h2;subst h1;subst h2;exact .v _
  |1=>simp at h1 h2;subst h1;subst h2;exact .v _
  |2=>simp at h1 h2;subst h1;subst h2;exact .v _
  |j+3=>simp at h1
theorem b9g (str:ByteArray) (pos:Nat) (h:pos < str.size) (ha:¬ (str[pos]'h).toNat < 128):128≤(Utf8.decode str pos).1:=by
 have e:str.get! (pos+0)=str[pos]'h:=by
  show str.get! pos=_
  simp [ByteArray.get!,getElem!_pos,h]
  rfl
 unfold Utf8.decode
 simp only [e,if_neg ha]
 split
 ·split<;>simp_all [Utf8.runeError]
 ·split
  ·split<;>simp_all [Utf8.runeError]<;>omega
  ·split
   ·split<;>simp_all [Utf8.runeError]<;>omega
   ·simp [Utf8.runeError]
theorem d6l {P:Program} {w:World} {b pos:Nat} {str:ByteArray} {ty:TypeId} (hb:w.heap[b]? = some (.stringIter str pos)) (h:¬ pos < str.size) :
  (Instr.next (.pointer (some ⟨b,0,none⟩)) true ty).run P w=.ok (.tuple #[.bool false]) w:=by
 simp [Instr.next,getObj,Sem.run,hb,h]
theorem d6o {P:Program} {G:Gh} {s:St} {o:Oper} {Q:Exit→St→Prop} {rest:St→Prop} {d k pos:Nat} {x:Operand} {str:ByteArray}
  (ho:o.op=.next x true) (hx:ev s x=.ptr k 0) (hob:s.hget k=some (.obj (.stringIter str pos))) (hd:o.dst=some d) (hdn:d < G.n) (hp:¬ pos < str.size)
  (hr:rest (a4b s o.dst (.tup [.v (.bool false)]))):SemStep P G o s Q rest:=by
 intro a w hs
 refine a1b (fun c hc=>by rw [ho] at hc;cases hc) ?_
 refine a0f (x:=.tup [.v (.bool false)]) (fun d' h=>by rw [hd] at h;cases h;exact hdn) (fun a w E hs=>⟨.tuple #[.bool false],?_,.r0 _ _ (.tup _ _ rfl fun j u y h1 h2=>?_)⟩) a w hs _ _ fun a' w' hs'=>⟨_,hr,hs'⟩
 ·obtain ⟨b,K,C,hE,hxv⟩:=R.ptr_inv (a1y hs hx)
  obtain ⟨b1,K1,C1,hE1,hh⟩:=hs.hp k _ hob
  rw [hE] at hE1
  cases hE1
  obtain ⟨b2,e2,hbk,rfl,rfl⟩:=hh
  cases e2
  simp only [execOp,ho,hxv,Sem.run_bind,d6l hbk hp,Result.andThen];rfl
 ·match j with
  |0=>simp at h1 h2;subst h1;subst h2;exact .v _
  |j+1=>simp at h1
end Pm
open Go Go.RowKit Go.ChangeShapes Go.WideShapes Go.ChangeAt
namespace Pm
theorem e3z {C:Checked} {f:FuncId} {fn:Func} {s:ChangeSpec} {ts:List TypeId} {tb:TypeId} {α:Type} {g:α→List V} {p:α→Prop} {apart fresh handsOn again:Bool} {laid:List (String×DataW Unit)}
  (hglob:∀ W:World,W.ShapedOpen C.prog→laidMetH C.prog laid W→GlobOK W (fun _=>False))
  (hfn:C.prog.funcs[f]? = some fn) (hts:fn.params.toList=ts) (hres:fn.resultTypes=#[tb]) (htb:C.prog.underlying tb=some .bool) (hsv:s.vars=[])
  (own:ownKnob C.prog.godebug=none) (noInit:C.prog.inits.idxOf? f=none) (hl:laidOutB C.prog=true) (hread:∀ t ∈ ts,C.prog.readableRec t=true∧t < C.prog.types.size)
  (hsp:∀ (H:Type) (ds:List (DataW H)),ds.length=ts.length→(s.fn H ds).results=[.lit (.bool true)]∧(s.fn H ds).args=ds∧(s.fn H ds).vars=[])
  (hargs:RdA C.prog ts g p) (hlaw:∀ x,p x→a0n C.prog f (g x) (fun _=>.v (.bool true)))
  (os:Os) (started:os.Started) (H:Type) (enc:TypeId×Value→H)
  (witness:∃ (w:World) (tape:Tape) (i:Input),w.os=os∧(w.forCall tape i).Shaped C.prog∧i.vars=[]∧Input.okWide C.prog (w.forCall tape i) .any w.heap.size f i ∧
   ((s.pre enc C.prog fn [] apart (w.forCall tape i).memory i.args∧laidMetH C.prog laid (w.forCall tape i).memory)∧sizedMet enc C.prog fn (OpenSpec.ofChange s) apart (w.forCall tape i).memory i.args)∧({}:Assume).holds C.prog (lone (Frame.enter C.prog f i.args .normal) [] (w.forCall tape i))) :
  ReturnsInHanded {} C os f .any (fun w args=>(s.pre enc C.prog fn [] apart w args∧laidMetH C.prog laid w)∧sizedMet enc C.prog fn (OpenSpec.ofChange s) apart w args) (s.post enc C.prog fn apart fresh handsOn again):=by
 refine returnsInHanded_of_calls own started noInit witness ?_
 intro w tape i _ hshape _ hok hpre hholds
 obtain ⟨_,_,_,fn',hfn',_,_,_,_,hval⟩:=hok
 have e:fn'=fn:=Option.some.inj (hfn'.symm.trans hfn)
 subst e
 obtain ⟨⟨⟨ds,gs,before,hw,_⟩,hx⟩,hz⟩:=hpre
 have hW:=DataW.Whole.of_heap (w':=w.forCall tape i) (by rfl) hw
 have hsz:(DataW.weightsEach C.prog (fn'.params.toList++s.plain.varTypes C.prog) (ds++gs)).all (·≤reachBytes)=true:=hz.weights hw
 have hgl:=hglob _ hshape (hx.of_heap (by rfl))
 have main:Calls C.prog f i.args (w.forCall tape i) fun e W'=>∃ v,e=.returned v∧s.post enc C.prog fn' apart fresh handsOn again (w.forCall tape i) i.args v W':=by
  generalize (w.forCall tape i)=W at hW hgl hval
  generalize i.args=args at hW hval
  have hW':=hW
  obtain ⟨pp,q,hA,hV,rfl,hfz,_⟩:=hW
  rw [hsv] at hV
  have hV':gs=[]∧q=[]:=by
   cases gs with
   |nil=>exact ⟨rfl,hV⟩
   |cons=>exact hV.elim
  obtain ⟨rfl,rfl⟩:=hV'
  rw [hts] at hA
  have hlen:ds.length=ts.length:=by
   clear hfz hW' hV
   have:∀ {ts:List TypeId} {vs:List Value} {ds:List (DataW H)} {ps:List MemPlace},DataW.TrodAll enc C.prog W 0 (fun _=>true) true ts vs ds ps→ds.length=ts.length:=by
    intro ts
    induction ts with
    |nil=>intro vs ds ps h;obtain ⟨_,rfl,_⟩:=trodAll_nil h;rfl
    |cons t ts ih=>intro vs ds ps h;obtain ⟨_,_,_,_,_,_,_,rfl,_,_,g2⟩:=trodAll_cons h;simp [ih g2]
   exact this hA
  have hvt:s.plain.varTypes C.prog=[]:=by simp [ChangeSpec.plain,DataSpec.varTypes,hsv]
  rw [hvt,hts,List.append_nil,List.append_nil] at hsz
  obtain ⟨x,hp,hx⟩:=hargs H enc W w.heap.size args.toList ds pp (fun j t v h1 h2=>hval j t v (by rw [← hts] at h1;simpa using h1) (by simpa using h2)) hA (fun n hn=>by have:=List.all_eq_true.1 hsz n hn;have h2:=reachBytes_lt;simp at this;omega) (fun b off h=>hfz b off (by simp [h]))
  obtain ⟨_,hcall⟩:=hlaw x hp
  refine (hcall 0 W (fun _=>False) args (Nat.zero_le _) ⟨fun _ h=>h.elim,hgl⟩ ⟨by simpa using hx.1,fun j u y h1 h2=>hx.2 j u y h1 (by simpa using h2)⟩).mono fun e W' ⟨y,he,hr,hb⟩=>?_
  have hy:y=.bool true:=by cases hr;rfl
  subst hy
  obtain ⟨e1,e2,e3⟩:=hsp H ds hlen
  have hlt:∀ p ∈ pp,p.block < W.heap.size:=fun p hp=>hW'.lt p (by simp [hp])
  refine ⟨_,he,d3e (pa:=pp) (pv:=[]) hW' (fun b sp hd=>?_) (fun sp hsp'=>?_) (fun _ _=>?_) rfl hb ?_⟩
  ·rw [List.append_nil,e1,hres]
   exact trodAll_mk1 (shut_bool htb true)
  ·rw [List.append_nil,e2,hts]
   exact b0n hl hread hA (fun p hp=>hb.same (hlt p hp)) (fun p hp=>hsp' p (by simp [hp]))
  ·rw [List.append_nil,e3,hsv]
   exact rfl
  ·intro j t r h1 h2
   rw [hres] at h1 h2
   cases j with
   |zero =>
    simp at h1
    subst h1
    simp [Value.resultList] at h2
    subst h2
    exact okWide_bool_mk htb true
   |succ j=>simp at h1
 refine main.mono fun e W' ⟨v,he,hp⟩=>?_
 subst he
 exact ChangeSpec.post_blind hp
theorem b4l {P:Program} {W:World} {g:Nat} {n:String} {cs:Array Value} {z:Array Value} {t0:TypeId} {l:List V} (hs:W.ShapedOpen P) (hg:g < P.globals.size) (h0:(((begin P (fun _ _=>0) default).world.heap[g]?).bind Obj.row?)=some (z,t0))
  (hn:P.globalNamed n=some g) (hv:W.var? P n=some cs) (hl:l.length≤cs.size) (hr:∀ (j:Nat) (u:V) (y:Value),l[j]? = some u→cs[j]? = some y→R0 W (fun _=>False) u y) :
  R0 W (fun _=>False) (.fp l) (.pointer (some ⟨g,0,none⟩)):=by
 obtain ⟨xs,hx,_⟩:=hs.1 g z t0 hg h0
 have hc:∀ j,j < cs.size→W.cell? ⟨g,0+j,none⟩=some (cs.getD j undef):=fun j hj=>by
  have:=World.var?_cell hn hv j
  rw [Nat.zero_add,this]
  simp [hj]
 refine .fp l g 0 (fun j=>cs.getD j undef) (fun h=>h) (by have:=(List.getElem?_eq_some_iff.1 (show W.heap.toList[g]? = some (.cells xs t0) by simpa using hx)).1;simpa using this) (fun j u h=>a3u hx (hc j ?_)) (fun j u h=>?_)
 ·have:=(List.getElem?_eq_some_iff.1 h).1;omega
 ·have hj:j < cs.size:=by have:=(List.getElem?_eq_some_iff.1 h).1;omega
  exact hr j u _ h (by simp [hj])
end Pm
open Go Go.RowKit Go.ChangeShapes Go.WideShapes Go.ChangeAt
namespace Pm
theorem b2n {P:Program} {w:World} {n:String} {d:DataW Unit}:∀ {l:List (String×DataW Unit)} {ps:List MemPlace},DataW.LaidVars P w l ps→(n,d) ∈ l →
  ∃ g t cs fuel p,P.globalNamed n=some g∧(P.globals[g]?).map (·.type)=some t∧w.var? P n=some cs∧DataW.trod (fun _=>()) P w 0 (fun _=>true) false fuel t cs.toList=some (d,p)
 |[],ps,h,hm=>by cases hm
 |(n',d')::r,ps,h,hm=>by
  obtain ⟨g,t,cs,fuel,p,q,h1,h2,h3,h4,h5,_⟩:=h
  rcases List.mem_cons.1 hm with e|hm
  ·cases e
   exact ⟨g,t,cs,fuel,p,h1,h2,h3,h4⟩
  ·exact b2n h5 hm
theorem b3o {P:Program} {w:World} {l:List (String×DataW Unit)} {n:String} {d:DataW Unit} (h:laidMetH P l w) (hm:(n,d) ∈ l) (hn:d.handleName?.isNone=true) :
  ∃ g t cs fuel p,P.globalNamed n=some g∧(P.globals[g]?).map (·.type)=some t∧w.var? P n=some cs∧DataW.trod (fun _=>()) P w 0 (fun _=>true) false fuel t cs.toList=some (d,p):=by
 obtain ⟨⟨ps,h1,_⟩,_⟩:=laidMetH_iff.1 h
 exact b2n h1 (List.mem_filter.2 ⟨hm,hn⟩)
section
variable {H:Type} {enc:TypeId×Value→H} {P:Program} {w:World} {base:Nat} {spare:Nat→Bool} {held:Bool} {fuel:Nat} {t:TypeId} {cs:List Value} {x:DataW H×List MemPlace}
theorem f2w {n:Nat} {e:TypeId} (ht:P.underlying t=some (.array n e)) (hc:P.cellsOf e=1) (hct:P.cellsOf t=n) (h:DataW.trod enc P w base spare held fuel t cs=some x) :
  ∃ (xs:List (DataW H×List MemPlace)) (m:Nat),x.1=.agg (xs.map (·.1))∧cs.length=n∧xs.length=n∧∀ (i:Nat) (v:Value),cs[i]? = some v→∃ y,xs[i]? = some y∧DataW.trod enc P w base spare held m e [v]=some y:=by
 obtain ⟨xs,m,_,rfl,hl,hn,hel⟩:=DataW.trod_array ht h
 rw [hct] at hl
 refine ⟨xs,m,rfl,hl,hn,fun i v hi=>?_⟩
 obtain ⟨hlt,hv⟩:=List.getElem?_eq_some_iff.1 hi
 have:=hel i (by omega)
 rw [hc,Nat.mul_one,List.drop_eq_getElem_cons hlt,List.take_succ_cons,List.take_zero,hv] at this
 rw [List.getElem?_eq_getElem (by omega)] at this ⊢
 exact ⟨_,rfl,this⟩
theorem c2r {n:Nat} {e:TypeId} {α:Type} {f:α→Value} {g:α→DataW H} {zs:List α} (ht:P.underlying t=some (.array n e)) (hc:P.cellsOf e=1) (hct:P.cellsOf t=n) (h:DataW.trod enc P w base spare held fuel t cs=some x)
  (hx:x.1=.agg (zs.map g)) (hinv:∀ m v y a,DataW.trod enc P w base spare held m e [v]=some y→y.1=g a→v=f a):cs=zs.map f:=by
 obtain ⟨xs,m,e1,hl,hn,hel⟩:=f2w ht hc hct h
 rw [e1] at hx
 injection hx with hx
 refine List.ext_getElem? fun i=>?_
 have hq:=congrArg (fun l:List (DataW H)=>l[i]?) hx
 simp only [List.getElem?_map] at hq ⊢
 cases hi:cs[i]? with
 |none =>
  have h1:n≤i:=by have:=List.getElem?_eq_none_iff.1 hi;omega
  rw [List.getElem?_eq_none (by omega:xs.length≤i)] at hq
  cases hz:zs[i]? with
  |none=>rfl
  |some a=>rw [hz] at hq;cases hq
 |some v =>
  obtain ⟨y,hy,hv⟩:=hel i v hi
  rw [hy] at hq
  cases hz:zs[i]? with
  |none=>rw [hz] at hq;cases hq
  |some a =>
   rw [hz] at hq
   simp only [Option.map_some,Option.some.injEq] at hq ⊢
   exact hinv m v y a hv hq
theorem e3d {n:Nat} {e:TypeId} {k:IntKind} {zs:List Int} (ht:P.underlying t=some (.array n e)) (he:P.underlying e=some (.int k)) (hc:P.cellsOf e=1) (hct:P.cellsOf t=n) (h:DataW.trod enc P w base spare held fuel t cs=some x)
  (hx:x.1=.agg (zs.map fun z=>.lit (.int k z))):cs=zs.map (Value.int k) :=
 c2r ht hc hct h hx fun m v y a hv hy=>by
  obtain ⟨n',e1,e2,_⟩:=DataW.trod_int he hv
  rw [e2] at hy
  simp only [DataW.lit.injEq,Lit.int.injEq,true_and] at hy
  simp only [List.cons.injEq,and_true] at e1
  rw [e1,hy]
theorem e5e {n:Nat} {e:TypeId} {zs:List ByteArray} (ht:P.underlying t=some (.array n e)) (he:P.underlying e=some .string) (hc:P.cellsOf e=1) (hct:P.cellsOf t=n) (h:DataW.trod enc P w base spare held fuel t cs=some x)
  (hx:x.1=.agg (zs.map fun z=>.lit (.string z.data.toList))):cs=zs.map Value.string :=
 c2r ht hc hct h hx fun m v y a hv hy=>by
  obtain ⟨s,e1,e2,_⟩:=DataW.trod_string he hv
  rw [e2] at hy
  simp only [DataW.lit.injEq,Lit.string.injEq] at hy
  simp only [List.cons.injEq,and_true] at e1
  have hd:s.data=a.data:=Array.toList_inj.1 hy
  obtain ⟨ds⟩:=s
  obtain ⟨da⟩:=a
  simp only at hd
  rw [e1,hd]
end
theorem b9v {P:Program} {W:World} {g:Nat} {n:String} {cs:Array Value} {z:Array Value} {t0:TypeId} {φ:Array Value→Prop} (hs:W.ShapedOpen P) (hg:g < P.globals.size) (h0:(((begin P (fun _ _=>0) default).world.heap[g]?).bind Obj.row?)=some (z,t0))
  (hn:P.globalNamed n=some g) (hv:W.var? P n=some cs) (hl:1≤cs.size) (hφ:φ cs):KnAt W (fun _=>False) g φ:=by
 refine ⟨b4l hs hg h0 hn hv (by simpa using hl) (fun j u y h1 _=>?_),?_⟩
 ·cases j with
  |zero=>simp at h1;subst h1;exact .any _
  |succ j=>simp at h1
 ·obtain ⟨xs,hx,_⟩:=hs.1 g z t0 hg h0
  have hx':=hx
  simp only [World.var?,hn,Option.bind_some] at hv
  rw [hx'] at hv
  simp only [Option.some.injEq] at hv
  subst hv
  exact ⟨_,_,_,hx,hφ⟩
theorem e5f {P:Program} {W:World} {g:Nat} {n:String} {z:Array Value} {t0:TypeId} (hs:W.ShapedOpen P) (hg:g < P.globals.size) (h0:(((begin P (fun _ _=>0) default).world.heap[g]?).bind Obj.row?)=some (z,t0))
  (hn:P.globalNamed n=some g) (hz:z.size=1) (hb:P.buildable t0=true) (hct:P.cellTypes P.depth t0=some [t0]) (ht:P.underlying t0=some (.int .i64)):KnAt W (fun _=>False) g e4t:=by
 obtain ⟨xs,hx,hsz,hr⟩:=hs.1 g z t0 hg h0
 obtain ⟨ts,h1,h2,h3⟩:=hr hb
 rw [hct] at h1
 cases h1
 have hv:W.var? P n=some xs:=by
  simp only [World.var?,hn,Option.bind_some]
  rw [hx]
 refine b9v hs hg h0 hn hv (by omega) ?_
 obtain ⟨u,e1,e2⟩:=h3 0 (xs[0]'(by omega)) (by rw [Array.getElem?_eq_getElem])
 simp at e1
 subst e1
 unfold Cell.ok at e2
 rw [ht] at e2
 cases hc:xs[0]'(by omega)<;>rw [hc] at e2<;>simp only at e2
 rename_i k' n'
 obtain ⟨rfl,_⟩:=e2
 exact ⟨_,by rw [Array.getElem?_eq_getElem (by omega),hc]⟩
end Pm
open Go Go.RowKit
namespace Pm
theorem e4c {P:Program} {G:Gh} {i:Nat} {c:Code} {r:List Code} {s:St} {Q:Exit→St→Prop} (h:SemL P G (a5i c) s (c4t i (d1r (fun s _=>SemL P G r s Q) Q))):SemL P G (.block i c::r) s Q:=by
 intro a w hs
 have:=(SemL.semC h) a w hs
 refine wpIn_block (wpIn_mono this ?_)
 rintro e a' w' ⟨s',hq,hs'⟩
 cases e with
 |normal=>exact hq a' w' hs'
 |exit j =>
  by_cases e:j=i
  ·subst e
   simp only [c4t,if_true,d1r] at hq
   simp only [Exit.inBlock,if_true,Exit.then]
   exact hq a' w' hs'
  ·simp only [c4t,if_neg e,d1r] at hq
   simp only [Exit.inBlock,if_neg e,Exit.then]
   exact ⟨s',hq,hs'⟩
 |_=>exact ⟨s',hq,hs'⟩
theorem b6j {P:Program} {G:Gh} {l l':List Code} {s:St} {Q:Exit→St→Prop} (e:l=l') (h:SemL P G l' s Q):SemL P G l s Q:=e ▸ h
theorem d7l {F:Fence} {P:Program} {Q M:Exit→Act→World→Prop} (hn:∀ e a w,e≠.normal→M e a w→Q e a w):∀ (n:Nat) (l:List Code) {a:Act} {w:World},wpL F P M (l.take n) a w →
  (∀ a w,M .normal a w→wpL F P Q (l.drop n) a w)→wpL F P Q l a w
 |0,l,a,w,h,hd=>hd a w h
 |n+1,[],a,w,h,hd=>hd a w h
 |n+1,c::r,a,w,h,hd=>by
  refine wpIn_mono h ?_
  intro e a' w' h'
  cases e with
  |normal=>exact d7l hn n r h' hd
  |_=>exact hn _ _ _ (by intro h;cases h) h'
theorem c1m {P:Program} {G:Gh} {l:List Code} {s:St} {Q:Exit→St→Prop} {α:Type} (n:Nat) (F:α→St) (I:α→Prop) (h1:SemL P G (l.take n) s (f5p G F I Q)) (h2:∀ x,I x→SemL P G (l.drop n) (F x) Q):SemL P G l s Q:=by
 intro a w hs
 refine d7l (M:=b6u G (f5p G F I Q)) ?_ n l (h1 a w hs) ?_
 ·rintro e a w hne ⟨s',hq,hs'⟩
  cases e with
  |normal=>exact absurd rfl hne
  |_=>exact ⟨s',hq,hs'⟩
 ·rintro a w ⟨s',⟨x,hI,he⟩,hs'⟩
  exact h2 x hI a w (he _ _ hs')
end Pm
open Go Go.RowKit
namespace Pm
inductive NewV (n:Nat):V→Prop
 |any:NewV n .any
 |v (x:Value):NewV n (.v x)
 |lst (lo sz:Nat) (l:List (List V)) (h:l=[]∨n≤lo) (hr:∀ r ∈ l,∀ u ∈ r,NewV n u):NewV n (.lst lo sz l)
 |agg (cs:List V) (hr:∀ u ∈ cs,NewV n u):NewV n (.agg cs)
 |tup (cs:List V) (hr:∀ u ∈ cs,NewV n u):NewV n (.tup cs)
 |fn (f:Fn) (cs:List V) (hr:∀ u ∈ cs,NewV n u):NewV n (.fn f cs)
theorem NewV.R0 {n:Nat} {x:V} {y:Value} {w:World} {O O':Nat→Prop} (hx:NewV n x) (hO:∀ b,n≤b→O b→O' b) (h:R0 w O' x y):R0 w O x y:=by
 induction h with
 |any y=>exact .any y
 |v x=>exact .v x
 |lst lo sz l a k cap b o g hlo hn hc hl ha hs hz hr ih =>
  cases hx with
  |lst _ _ _ h1 h2 =>
   refine .lst lo sz l a k cap b o g hlo hn hc hl (fun hne=>?_) hs hz fun i x j u e1 e2=>ih i x j u e1 e2 (h2 x (List.mem_of_getElem? e1) u (List.mem_of_getElem? e2))
   obtain ⟨q1,q2,q3⟩:=ha hne
   refine ⟨q1,fun hb=>q2 (hO b ?_ hb),q3⟩
   have:=hlo hne
   rcases h1 with h1|h1
   ·exact absurd h1 hne
   ·omega
 |fp cs b o g h1 hb hs hr ih=>cases hx
 |agg cs ys hn hr ih =>
  cases hx with
  |agg _ h2=>exact .agg cs ys hn fun j u y e1 e2=>ih j u y e1 e2 (h2 u (List.mem_of_getElem? e1))
 |tup cs ys hn hr ih =>
  cases hx with
  |tup _ h2=>exact .tup cs ys hn fun j u y e1 e2=>ih j u y e1 e2 (h2 u (List.mem_of_getElem? e1))
 |fn f cap ys hn hr ih =>
  cases hx with
  |fn _ _ h2=>exact .fn f cap ys hn fun j u y e1 e2=>ih j u y e1 e2 (h2 u (List.mem_of_getElem? e1))
structure NewR (r:Nat→V):Prop where
 new:∀ n,NewV n (r n)
 mono:∀ n n',n'≤n→Sub (r n) (r n')
theorem d4t {P:Program} {G:Gh} {o:Oper} {s:St} {Q:Exit→St→Prop} {rest:St→Prop} {k:FuncId} {cap as as':List V} {r:Nat→V} (p:Nat→Bool) (hp:a0n P k as' r) (hr:NewR r)
  (hs:Subs ((as++cap).map (vwF p G.lo s 4)) as') (hpure:b0j ((as++cap).map (vwF p G.lo s 4))=true)
  (hc:chk G.n o.dst) (h:rest (a4b s o.dst (r G.lo))):a3t P G o s Q rest (.fn (.func k) cap) as:=by
 rintro x l ts ho hx rfl a w ⟨E,hE⟩
 obtain ⟨ys,hy,hsz,hry⟩:=R.fn_inv (a1y hE hx.symm)
 obtain ⟨hlen,hsub⟩:=hs.spec
 obtain ⟨O',hO'⟩:∃ O':Nat→Prop,O'=fun b=>OT G s E b∧¬ ∃ id ob x,p id=true∧s.hp id=some ob∧E id=some (some b,x):=⟨_,rfl⟩
 have hsubO:∀ b,O' b→OT G s E b:=fun b hb=>by rw [hO'] at hb;exact hb.1
 have hO1:∀ b,¬ OT G s E b→b < w.heap.size→¬ O' b:=fun b hb _ h=>hb (hsubO b h)
 have hp1:∀ id ob b x,p id=true→s.hp id=some ob→E id=some (some b,x)→¬ O' b:=fun id ob b x h1 h2 h3 h=>by
  rw [hO'] at h;exact h.2 ⟨id,ob,x,h1,h2,h3⟩
 have hok:=f3l hE
 have hokO:OKO w O':=⟨fun b hb=>hok.lt b (hsubO b hb),hok.gl.weak hsubO⟩
 refine b9o ho hp.1 hy (hp.2 w.heap.size w O' _ (Nat.le_refl _) hokO ⟨?_,fun j u y h1 h2=>?_⟩) ?_
 ·simp at hlen ⊢;omega
 ·obtain ⟨u0,h3,h4⟩:=hsub j u h1
  refine h4 _ _ _ ?_
  have hp0:=a7i hpure j u0 h3
  rw [List.getElem?_map] at h3
  by_cases hj:j < l.length
  ·rw [List.getElem?_append_left (by simpa using hj)] at h3
   rw [Array.getElem?_append_left (by simpa using hj)] at h2
   simp only [List.getElem?_map,Option.map_eq_some_iff] at h3
   obtain ⟨z0,⟨z,hz,rfl⟩,rfl⟩:=h3
   simp [hz] at h2
   subst h2
   exact (c6h hE hO1 hp1 4 (b6k hE z)).pureV hp0
  ·rw [List.getElem?_append_right (by simpa using hj)] at h3
   rw [Array.getElem?_append_right (by simpa using hj)] at h2
   simp at h3 h2
   obtain ⟨z0,hz0,rfl⟩:=h3
   exact (c6h hE hO1 hp1 4 (hry _ _ _ hz0 h2)).pureV hp0
 ·rintro e w' ⟨y,rfl,hyy,hb⟩
  refine ⟨y,rfl,_,h,E,(hE.below hb).put (a2u hc) (.r0 _ _ ?_)⟩
  refine hr.mono _ _ (Nat.le_trans G.hlo hE.grow) _ _ _ ((hr.new _).R0 (O:=OT G s E) (fun b hbn hbO=>?_) hyy)
  exact absurd (hok.lt b hbO) (by omega)
theorem f6c (x:Value):NewR (fun _=>.v x):=⟨fun _=>.v x,fun _ _ _=>Sub.refl _⟩
end Pm
open Go Go.RowKit
namespace Pm
end Pm
open Go Go.RowKit
namespace Pm
end Pm
open Go
namespace Pm
theorem e4w {P:Program} {G:Gh} {o:Oper} {s:St} {Q:Exit→St→Prop} {rest:St→Prop} {k:FuncId} {fn:Func} (hf:P.funcs[k]? = some fn) (hname:(fn.name == "runtime.NumGoroutine")=false)
  (hb:fn.body.isNone=true) (hn:Extern.findNext fn=none) (he:Extern.find fn=some Extern.BytealgIndexByte.indexByte) {d:Nat} (hd:o.dst=some d) (hdn:d < G.n) (S:ByteArray) (c:Int)
  (h:rest (a4b s o.dst (.v (.int .i64 (Lib.indexByte S.data.toList c.toNat.toUInt8))))):a3t P G o s Q rest (.fn (.func k) []) [.v (.string S),.v (.int .u8 c)]:=by
 rintro x l ts ho hx has a w hs
 refine a1b (fun c hc=>by rw [ho] at hc;cases hc) ?_
 refine a0f (x:=.v (.int .i64 (Lib.indexByte S.data.toList c.toNat.toUInt8))) (fun d' h=>by rw [hd] at h;cases h;exact hdn) (fun a w E hs=>⟨_,?_,.r0 _ _ (.v _)⟩) a w hs _ _ fun a' w' hs'=>⟨_,h,hs'⟩
 obtain ⟨ys,hy,hsz,hr⟩:=R.fn_inv (a1y hs hx.symm)
 obtain rfl:ys=#[]:=by
  apply Array.eq_empty_of_size_eq_zero
  simpa using hsz
 have hl:l.length=2:=by simpa using (congrArg List.length has).symm
 obtain ⟨p,q,rfl⟩:∃ p q,l=[p,q]:=by
  rcases l with _|⟨p,_|⟨q,_|⟨z,r⟩⟩⟩
  ·cases hl
  ·cases hl
  ·exact ⟨p,q,rfl⟩
  ·simp at hl
 ·simp only [List.map_cons,List.map_nil,List.cons.injEq,and_true] at has
  have h1:=R.v_inv (a1y hs has.1.symm)
  have h2:=R.v_inv (a1y hs has.2.symm)
  have hrun:=run_callFunc_extern hf hname hb hn he #[a.eval p,a.eval q] w
  rw [h1,h2,Lib.run_indexByteString] at hrun
  have hy':a.eval x=.func (.func k) #[] #[]:=hy
  simp only [execOp,ho,resolve,Deferred.ofValue,hy',invoke]
  simp [h1,h2,hrun]
end Pm
end Go.Proofs.YtmjhfccbbfpppaaGreatDoor
