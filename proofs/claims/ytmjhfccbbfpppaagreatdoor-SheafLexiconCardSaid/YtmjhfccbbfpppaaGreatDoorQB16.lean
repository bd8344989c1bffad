import Derived.ProofKit
import Derived.WideKeyArgs
import Derived.Below
import Derived.ChangeSame
import Derived.SizedLaws
import Derived.Lib.AppendStr
import Derived.Handed
import Derived.LaidMore
import Derived.LaidHandle
import Derived.Stop.Joined
import Derived.OpenShut
import Derived.Test.YtmjhfccbbfpppaaGreatDoorQB05
import Derived.Test.YtmjhfccbbfpppaaGreatDoorQB07
import Derived.Test.YtmjhfccbbfpppaaGreatDoorQB08
namespace Go.Proofs.YtmjhfccbbfpppaaGreatDoor
open Go Go.RowKit Go.WideShapes Go.ChangeShapes Go.ChangeAt
set_option linter.unusedSimpArgs false
set_option linter.unusedVariables false
namespace Pm
def CellsF (w:World) (cs:List V) (ys:List Value):Prop:=ys.length=cs.length∧∀ (j:Nat) (u:V) (y:Value),cs[j]? = some u→ys[j]? = some y→R0 w (fun _=>False) u y
theorem CellsF.one {w:World} {u:V} {y:Value} (h:R0 w (fun _=>False) u y):CellsF w [u] [y]:=⟨rfl,fun j u' y' h1 h2=>by
 cases j with
 |zero=>simp at h1 h2;subst h1;subst h2;exact h
 |succ j=>simp at h1⟩
theorem CellsF.one_inv {w:World} {u:V} {y:Value} (h:CellsF w [u] [y]):R0 w (fun _=>False) u y:=h.2 0 u y rfl rfl
def Rd (P:Program) (t:TypeId) {α:Type} (f:α→List V) (p:α→Prop):Prop :=
 ∀ (H:Type) (enc:TypeId×Value→H) (w:World) (fuel:Nat) (cs:List Value) (d:DataW H) (ps:List MemPlace),DataW.trod enc P w 0 (fun _=>true) true fuel t cs=some (d,ps)→(∀ n ∈ d.weights P t,n≤140737488355328)→w.noneFrozen ps→∃ x:α,p x∧CellsF w (f x) cs
theorem Rd.int {P:Program} {t:TypeId} {k:IntKind} (ht:P.underlying t=some (.int k)):Rd P t (fun n:Int=>[.v (.int k n)]) (fun n=>(Lit.int k n).wf=true):=by
 intro H enc w fuel cs d ps h _ _
 obtain ⟨n,rfl,_,hw⟩:=DataW.trod_int ht h
 exact ⟨n,hw,.one (.v _)⟩
theorem Rd.bool {P:Program} {t:TypeId} (ht:P.underlying t=some .bool):Rd P t (fun b:Bool=>[.v (.bool b)]) (fun _=>True):=by
 intro H enc w fuel cs d ps h _ _
 obtain ⟨b,rfl,_⟩:=DataW.trod_bool ht h
 exact ⟨b,trivial,.one (.v _)⟩
theorem Rd.string {P:Program} {t:TypeId} (ht:P.underlying t=some .string):Rd P t (fun s:ByteArray=>[.v (.string s)]) (fun s=>s.size≤140737488355328):=by
 intro H enc w fuel cs d ps h hw _
 obtain ⟨s,rfl,hx,hs⟩:=DataW.trod_string ht h
 simp only [Prod.mk.injEq] at hx
 obtain ⟨rfl,_⟩:=hx
 exact ⟨s,by simpa using hw s.data.toList.length (by simp [DataW.weights]),.one (.v _)⟩
theorem b8h {β:Type} {g:Nat→Option β} {n:Nat} {l:List β} (h:(List.range n).mapM g=some l):l.length=n∧∀ i,i < n→g i=l[i]? :=
 ⟨by simpa using mapM_some_length h,fun i hi=>mapM_some_get h i i (by simp [hi])⟩
theorem c8b {α β:Type} {R:Nat→β→α→Prop}:∀ (n:Nat) (l:List β),l.length=n→(∀ i y,l[i]? = some y→∃ x,R i y x)→∃ m:List α,m.length=n∧∀ i y x,l[i]? = some y→m[i]? = some x→R i y x:=by
 intro n
 induction n with
 |zero =>
  intro l hl _
  exact ⟨[],rfl,fun i y x _ h=>by simp at h⟩
 |succ n ih =>
  intro l hl h
  have hne:l≠[]:=by rintro rfl;simp at hl
  obtain ⟨m,hm,hR⟩:=ih l.dropLast (by simp [hl]) (fun i y hy=>by
   obtain ⟨hi,e⟩:=List.getElem?_eq_some_iff.1 hy
   simp at hi
   exact h i y (by rw [← e];simp))
  have hlast:l[n]? = some (l.getLast hne):=by rw [List.getLast_eq_getElem,List.getElem?_eq_getElem (by omega)];simp [hl]
  obtain ⟨x,hx⟩:=h n _ hlast
  refine ⟨m++[x],by simp [hm],fun i y x' h1 h2=>?_⟩
  by_cases hi:i < n
  ·rw [List.getElem?_append_left (by omega)] at h2
   refine hR i y x' ?_ h2
   rw [← h1]
   simp [hl,hi]
  ·obtain ⟨hi',_⟩:=List.getElem?_eq_some_iff.1 h2
   have:i=n:=by simp at hi';omega
   subst this
   rw [List.getElem?_append_right (by omega)] at h2
   simp [hm] at h2
   subst h2
   rw [hlast] at h1
   cases h1
   exact hx
theorem Rd.slice {P:Program} {t e sz:TypeId} {α:Type} {f:α→List V} {p:α→Prop} (ht:P.underlying t=some (.slice e)) (hsz:P.cellsOf e=sz) (h0:0 < sz) (hb0:Nat.ble 1 (P.bytesOf e)=true) (hf:∀ x,(f x).length=sz) (he:Rd P e f p) :
  Rd P t (fun l:List α=>[.lst 0 sz (l.map f)]) (fun l=>l.length≤140737488355328∧∀ x ∈ l,p x):=by
 subst hsz
 intro H enc w fuel cs d ps h hwt hnf
 rcases DataW.trod_slice ht h with ⟨rfl,_⟩|⟨a,len,cap,elems,rest,n,rfl,rfl,hx,_,hlc,hcap,hel,hget,hrest,_⟩
 ·exact ⟨[],⟨by simp,by simp⟩,.one (.lst 0 _ [] none 0 0 0 0 (fun _ _=>undef) (by simp) rfl (by simp) (by simp) (by simp) (by simp) (by simp) (by simp))⟩
 ·simp only [Prod.mk.injEq] at hx
  obtain ⟨rfl,rfl⟩:=hx
  obtain ⟨hr1,_⟩:=hrest rfl
  have hw1:len≤140737488355328:=by
   have:=hwt ((elems.length+rest.length) * P.bytesOf e) (by simp [DataW.weights,ht])
   have h2:(elems.length+rest.length) * 1≤(elems.length+rest.length) * P.bytesOf e:=Nat.mul_le_mul_left _ (Nat.le_of_ble_eq_true hb0)
   omega
  have hw2:∀ x ∈ elems,∀ n ∈ x.1.weights P e,n≤140737488355328:=fun x hx n hn=>hwt n (by
   have:∀ {l:List (DataW H)} {d:DataW H},d ∈ l→∀ n ∈ d.weights P e,n ∈ DataW.weightsAll P e l:=by
    intro l
    induction l with
    |nil=>intro d h;cases h
    |cons a r ih =>
     intro d h n hn
     simp only [DataW.weightsAll,List.mem_append]
     rcases List.mem_cons.1 h with rfl|h
     ·exact .inl hn
     ·exact .inr (ih h n hn)
   have hm:=this (List.mem_map_of_mem (f:=(·.1)) hx) n hn
   simp [DataW.weights,ht,hm])
  -- every element's cells
  have key:∀ i y,(List.range len)[i]? = some y→∃ z:α×List Value,p z.1∧CellsF w (f z.1) z.2∧w.cells? 0 (a.add (i * P.cellsOf e)) (P.cellsOf e)=some z.2:=by
   intro i y hy
   obtain ⟨hi,_⟩:=List.getElem?_eq_some_iff.1 hy
   simp at hi
   have hg:=hget i hi
   rw [List.getElem?_eq_getElem (by omega)] at hg
   simp only [Option.bind_eq_some_iff] at hg
   obtain ⟨cs',h1,h2⟩:=hg
   have hsub:w.noneFrozen (elems[i]'(by omega)).2:=fun b off hp=>hnf b off (by
    simp only [List.mem_append,List.mem_flatMap]
    exact .inr ⟨_,.inl (List.getElem_mem _),hp⟩)
   obtain ⟨x,hp,hc⟩:=he H enc w n cs' _ _ h2 (hw2 _ (List.getElem_mem _)) hsub
   exact ⟨(x,cs'),hp,hc,h1⟩
  obtain ⟨m,hm,hR⟩:=c8b (R:=fun i _ (z:α×List Value)=>p z.1∧CellsF w (f z.1) z.2∧w.cells? 0 (a.add (i * P.cellsOf e)) (P.cellsOf e)=some z.2) len (List.range len) (by simp) key
  have hM:∀ i (hi:i < m.length),p m[i].1∧CellsF w (f m[i].1) m[i].2∧w.cells? 0 (a.add (i * P.cellsOf e)) (P.cellsOf e)=some m[i].2:=fun i hi=>hR i i m[i] (by rw [List.getElem?_range (by omega)]) (List.getElem?_eq_getElem hi)
  obtain ⟨b,o,sp⟩:=a
  have hcell:∀ i (hi:i < m.length) j (y:Value),m[i].2[j]? = some y→w.cell? (((⟨b,o,sp⟩:Addr).add (i * P.cellsOf e)).add j)=some y∧j < P.cellsOf e:=by
   intro i hi j y hy
   obtain ⟨_,_,hc⟩:=hM i hi
   unfold World.cells? at hc
   rw [if_pos (Nat.zero_le _)] at hc
   obtain ⟨h1,h2⟩:=b8h hc
   obtain ⟨hj,_⟩:=List.getElem?_eq_some_iff.1 hy
   rw [h1] at hj
   exact ⟨(h2 j hj).trans hy,hj⟩
  have hlen:∀ i (hi:i < m.length),m[i].2.length=P.cellsOf e:=by
   intro i hi
   obtain ⟨_,h2,_⟩:=hM i hi
   rw [h2.1,hf]
  refine ⟨m.map (·.1),⟨by simp;omega,?_⟩,.one ?_⟩
  ·intro x hx
   simp only [List.mem_map] at hx
   obtain ⟨z,hz,rfl⟩:=hx
   obtain ⟨i,hi,rfl⟩:=List.getElem_of_mem hz
   exact (hM i hi).1
  ·have hsp:0 < m.length→sp=none:=by
    intro hpos
    have:=hcell 0 hpos 0 (m[0].2[0]'(by rw [hlen 0 hpos];exact h0)) (List.getElem?_eq_getElem _)
    simpa [Addr.add] using World.cell?_spot this.1
   by_cases hpos:m.length=0
   ·have:m=[]:=List.length_eq_zero_iff.1 hpos
    subst this
    simp at hm
    subst hm
    exact .lst 0 _ [] _ _ _ 0 0 (fun _ _=>undef) (by simp) rfl (by simp) (by simp) (by simp) (by simp) (by simp) (by simp)
   ·have hs0:=hsp (by omega)
    subst hs0
    have hblt:b < w.heap.size:=by
     have:=hcell 0 (by omega) 0 (m[0].2[0]'(by rw [hlen 0 (by omega)];exact h0)) (List.getElem?_eq_getElem _)
     have h1:=this.1
     simp only [Addr.add] at h1
     unfold World.cell? at h1
     false_or_by_contra
     rename_i hge
     have:w.heap[b]? = none:=by simp;omega
     simp [this] at h1
    refine .lst 0 _ _ (some ⟨b,o,none⟩) len cap b o (fun i j=>((m[i]?.map (·.2)).getD [])[j]?.getD undef) (fun _=>Nat.zero_le _) (by simp;omega) (by simp;omega) (by simp;omega) (fun _=>⟨rfl,fun h=>h,hblt⟩) ?_ ?_ ?_
    ·intro i x j u h1 h2
     simp only [List.getElem?_map,List.map_map] at h1
     obtain ⟨z,hz,rfl⟩:=Option.map_eq_some_iff.1 h1
     obtain ⟨hi,rfl⟩:=List.getElem?_eq_some_iff.1 hz
     obtain ⟨hj,_⟩:=List.getElem?_eq_some_iff.1 h2
     have hj':j < m[i].2.length:=by rw [hlen i hi,← hf m[i].1];exact hj
     have hc:=hcell i hi j (m[i].2[j]) (List.getElem?_eq_getElem hj')
     simp only [a3f] at hc
     have e1:(((m[i]?.map (·.2)).getD [])[j]?).getD undef=m[i].2[j]:=by simp [List.getElem?_eq_getElem hi,List.getElem?_eq_getElem hj']
     rw [e1,show o+(i * P.cellsOf e+j)=o+i * P.cellsOf e+j by omega]
     refine ⟨hc.1,fun _=>hnf b _ ?_⟩
     simp only [List.mem_append]
     left
     unfold MemPlace.row
     simp only [List.mem_map,List.mem_range]
     refine ⟨i * P.cellsOf e+j,?_,by simp;omega⟩
     have:(i+1) * P.cellsOf e≤(elems.length+rest.length) * P.cellsOf e:=Nat.mul_le_mul_right _ (by omega)
     rw [Nat.add_mul] at this
     omega
    ·intro x hx
     simp only [List.map_map,List.mem_map] at hx
     obtain ⟨z,_,rfl⟩:=hx
     exact hf _
    ·intro i x j u h1 h2
     simp only [List.getElem?_map,List.map_map] at h1
     obtain ⟨z,hz,rfl⟩:=Option.map_eq_some_iff.1 h1
     obtain ⟨hi,rfl⟩:=List.getElem?_eq_some_iff.1 hz
     obtain ⟨hj,_⟩:=List.getElem?_eq_some_iff.1 h2
     have hj':j < m[i].2.length:=by rw [hlen i hi,← hf m[i].1];exact hj
     have e1:(((m[i]?.map (·.2)).getD [])[j]?).getD undef=m[i].2[j]:=by simp [List.getElem?_eq_getElem hi,List.getElem?_eq_getElem hj']
     rw [e1]
     exact (hM i hi).2.1.2 j u _ h2 (List.getElem?_eq_getElem hj')
def RdF (P:Program):List TypeId→{α:Type}→(α→List V)→(α→Prop)→Prop:=fun ts {α} f p =>
 ∀ (H:Type) (enc:TypeId×Value→H) (w:World) (fuel:Nat) (cs:List Value) (xs:List (DataW H×List MemPlace)),cs.length=(ts.map P.cellsOf).sum→xs.length=ts.length →
  (∀ (i:Nat) (t:TypeId),ts[i]? = some t→DataW.trod enc P w 0 (fun _=>true) true fuel t ((cs.drop ((ts.take i).map P.cellsOf).sum).take (P.cellsOf t))=xs[i]?)→(∀ (i:Nat) (t:TypeId) (x:DataW H×List MemPlace),ts[i]? = some t→xs[i]? = some x→∀ n ∈ x.1.weights P t,n≤140737488355328)→w.noneFrozen (xs.flatMap (·.2))→∃ x:α,p x∧CellsF w (f x) cs
theorem RdF.nil {P:Program}:RdF P [] (fun _:Unit=>[]) (fun _=>True):=by
 intro H enc w fuel cs xs h1 _ _ _ _
 simp at h1
 subst h1
 exact ⟨(),trivial,rfl,by simp⟩
theorem CellsF.append {w:World} {a b:List V} {x y:List Value} (h1:CellsF w a x) (h2:CellsF w b y):CellsF w (a++b) (x++y):=by
 refine ⟨by simp [h1.1,h2.1],fun j u z hu hz=>?_⟩
 by_cases hj:j < a.length
 ·rw [List.getElem?_append_left hj] at hu
  rw [List.getElem?_append_left (by rw [h1.1];exact hj)] at hz
  exact h1.2 j u z hu hz
 ·rw [List.getElem?_append_right (by omega)] at hu
  rw [List.getElem?_append_right (by rw [h1.1];omega),h1.1] at hz
  exact h2.2 _ u z hu hz
theorem RdF.cons {P:Program} {t:TypeId} {ts:List TypeId} {α β:Type} {f:α→List V} {g:β→List V} {p:α→Prop} {q:β→Prop} (h1:Rd P t f p) (h2:RdF P ts g q):RdF P (t::ts) (fun x:α×β=>f x.1++g x.2) (fun x=>p x.1∧q x.2):=by
 intro H enc w fuel cs xs hl hx hg hwt hn
 match xs,hx with
 |x0::xr,hx =>
  have h0:=hg 0 t rfl
  simp only [List.take_zero,List.map_nil,List.sum_nil,List.drop_zero,List.getElem?_cons_zero] at h0
  simp only [List.map_cons,List.sum_cons] at hl
  obtain ⟨a,ha,hca⟩:=h1 H enc w fuel _ x0.1 x0.2 h0 (hwt 0 t x0 rfl rfl) (fun b off hp=>hn b off (by simp [hp]))
  obtain ⟨b,hb,hcb⟩:=h2 H enc w fuel (cs.drop (P.cellsOf t)) xr (by simp;omega) (by simpa using hx) (fun i t' hi=>by
   have:=hg (i+1) t' (by simpa using hi)
   simp only [List.take_succ_cons,List.map_cons,List.sum_cons,List.getElem?_cons_succ] at this
   rw [List.drop_drop]
   exact this) (fun i t' x h3 h4=>hwt (i+1) t' x (by simpa using h3) (by simpa using h4)) (fun b off hp=>hn b off (by simp only [List.flatMap_cons,List.mem_append];exact .inr hp))
  refine ⟨(a,b),⟨ha,hb⟩,?_⟩
  have:=hca.append hcb
  rw [List.take_append_drop] at this
  exact this
theorem Rd.struct {P:Program} {t:TypeId} {fs:Array Field} {α:Type} {f:α→List V} {p:α→Prop} (ht:P.underlying t=some (.struct fs)) (hc:P.cellsOf t=((fs.toList.map (·.type)).map P.cellsOf).sum)
  (ho:(List.range fs.size).map (fun i=>(fs.toList[i]?).map (·.offset))=(List.range fs.size).map (fun i=>some (((fs.toList.map (·.type)).take i).map P.cellsOf).sum))
  (h:RdF P (fs.toList.map (·.type)) f p):Rd P t f p:=by
 intro H enc w fuel cs d ps hd hwt hn
 obtain ⟨xs,n,_,hx,hl,hxl,hg⟩:=DataW.trod_struct ht hd
 simp only [Prod.mk.injEq] at hx
 obtain ⟨rfl,rfl⟩:=hx
 refine h H enc w n cs xs (hl.trans hc) (by simpa using hxl) (fun i t' hi=>?_) (fun i t' x h3 h4 n hn=>hwt n ?_) hn
 rotate_left
 ·simp only [DataW.weights,ht]
  exact DataW.weights_mem_each h3 (by simp [h4]) n hn
 simp only [List.getElem?_map] at hi
 obtain ⟨fd,hfd,rfl⟩:=Option.map_eq_some_iff.1 hi
 have hi':i < fs.size:=by obtain ⟨h,_⟩:=List.getElem?_eq_some_iff.1 hfd;simpa using h
 have e:=congrArg (·[i]?) ho
 simp only [List.getElem?_map,List.getElem?_range hi',Option.map_some,hfd] at e
 rw [← hg i fd (by simpa using hfd)]
 injection e with e
 injection e with e
 rw [e]
theorem Rd.map {P:Program} {t:TypeId} {α β:Type} {f:α→List V} {g:β→List V} {p:α→Prop} {q:β→Prop} (h:Rd P t f p) (k:∀ x,p x→∃ y,q y∧g y=f x):Rd P t g q:=by
 intro H enc w fuel cs d ps hd hwt hn
 obtain ⟨x,hp,hc⟩:=h H enc w fuel cs d ps hd hwt hn
 obtain ⟨y,hq,e⟩:=k x hp
 exact ⟨y,hq,e ▸ hc⟩
def RdV (P:Program) (t:TypeId) {α:Type} (g:α→V) (p:α→Prop):Prop :=
 ∀ (H:Type) (enc:TypeId×Value→H) (w:World) (base:Nat) (v:Value) (d:DataW H) (ps:List MemPlace),Value.okWide P w .any base t v→DataW.Trod enc P w 0 (fun _=>true) true t v d ps→(∀ n ∈ d.weights P t,n≤140737488355328)→w.noneFrozen ps→∃ x:α,p x∧R0 w (fun _=>False) (g x) v
theorem RdV.struct {P:Program} {t:TypeId} {fs:Array Field} {α:Type} {f:α→List V} {p:α→Prop} (ht:P.underlying t=some (.struct fs)) (h:Rd P t f p):RdV P t (fun x=>.agg (f x)) p:=by
 intro H enc w base v d ps hok hd hwt hn
 unfold Value.okWide at hok
 rw [ht] at hok
 obtain ⟨cs,rfl,_,_⟩:=hok
 obtain ⟨n,hd⟩:=hd
 obtain ⟨x,hp,hc⟩:=h H enc w n _ d ps hd hwt hn
 refine ⟨x,hp,.agg _ _ (by simpa [Value.cells] using hc.1) fun j u y h1 h2=>hc.2 j u y h1 (by simpa [Value.cells] using h2)⟩
theorem RdV.one {P:Program} {t:TypeId} {α:Type} {g:α→V} {p:α→Prop} (ht:∀ w base v,Value.okWide P w .any base t v→v.cells=#[v]) (h:Rd P t (fun x=>[g x]) p):RdV P t g p:=by
 intro H enc w base v d ps hok hd hwt hn
 have e:=ht w base v hok
 obtain ⟨n,hd⟩:=hd
 rw [e] at hd
 obtain ⟨x,hp,hc⟩:=h H enc w n _ d ps hd hwt hn
 exact ⟨x,hp,hc.one_inv⟩
theorem e3r {P:Program} {t:TypeId} {k:IntKind} (ht:P.underlying t=some (.int k)) (w:World) (base:Nat) (v:Value) (h:Value.okWide P w .any base t v):v.cells=#[v]:=by
 unfold Value.okWide Cell.okWide Cell.ok at h
 simp only [ht] at h
 cases v<;>first|rfl|exact h.elim
def RdA (P:Program) (ts:List TypeId) {α:Type} (g:α→List V) (p:α→Prop):Prop :=
 ∀ (H:Type) (enc:TypeId×Value→H) (w:World) (base:Nat) (vs:List Value) (ds:List (DataW H)) (ps:List MemPlace),(∀ (j:Nat) (t:TypeId) (v:Value),ts[j]? = some t→vs[j]? = some v→Value.okWide P w .any base t v) →
  DataW.TrodAll enc P w 0 (fun _=>true) true ts vs ds ps→(∀ n ∈ DataW.weightsEach P ts ds,n≤140737488355328)→w.noneFrozen ps→∃ x:α,p x∧CellsF w (g x) vs
theorem RdA.nil {P:Program}:RdA P [] (fun _:Unit=>[]) (fun _=>True):=by
 intro H enc w base vs ds ps _ h _ _
 obtain ⟨rfl,_,_⟩:=trodAll_nil h
 exact ⟨(),trivial,rfl,by simp⟩
theorem RdA.cons {P:Program} {t:TypeId} {ts:List TypeId} {α β:Type} {f:α→V} {g:β→List V} {p:α→Prop} {q:β→Prop} (h1:RdV P t f p) (h2:RdA P ts g q):RdA P (t::ts) (fun x:α×β=>f x.1::g x.2) (fun x=>p x.1∧q x.2):=by
 intro H enc w base vs ds ps hok h hwt hn
 obtain ⟨v,vs',d,ds',a,b,rfl,rfl,rfl,g1,g2⟩:=trodAll_cons h
 obtain ⟨x,hp,hx⟩:=h1 H enc w base v d a (hok 0 t v rfl rfl) g1 (fun n hn=>hwt n (by simp [DataW.weightsEach,hn])) (fun b off h=>hn b off (by simp [h]))
 obtain ⟨y,hq,hy⟩:=h2 H enc w base vs' ds' b (fun j t v h3 h4=>hok (j+1) t v (by simpa using h3) (by simpa using h4)) g2 (fun n hn=>hwt n (by simp [DataW.weightsEach,hn])) (fun b off h=>hn b off (by simp [h]))
 exact ⟨(x,y),⟨hp,hq⟩,(CellsF.one hx).append hy⟩
section
variable {H:Type} {enc:TypeId×Value→H} {P:Program}
theorem d3h {f:Func} {s:ChangeSpec} {apart fresh handsOn again:Bool} {W W':World} {args:Array Value} {v:Value} {ds gs:List (DataW H)} {before pa pv:List MemPlace}
  (hW:DataW.Whole enc P f.params.toList s.vars apart W args.toList ds gs before)
  (hres:∀ (b:Nat) (sp:Nat→Bool) (hd:Bool),DataW.TrodAll enc P W' b sp hd f.resultTypes.toList (v.resultList f.resultTypes.size) (s.fn H (ds++gs)).results [])
  (hargs:∀ sp:Nat→Bool,(∀ p ∈ before,sp p.block=true)→DataW.TrodAll enc P W' 0 sp true f.params.toList args.toList (s.fn H (ds++gs)).args pa)
  (hvars:∀ sp:Nat→Bool,(∀ p ∈ before,sp p.block=true)→DataW.TrodVars enc P W' sp s.vars (s.fn H (ds++gs)).vars pv)
  (hps:before=pa++pv) (hb:Below W.heap.size W W')
  (hok:∀ (j:Nat) (t:TypeId) (r:Value),f.resultTypes[j]? = some t→(v.resultList f.resultTypes.size)[j]? = some r→Value.okWide P W' .any 0 t r) :
  s.post enc P f apart fresh handsOn again W args v W':=by
 have hlt:∀ p ∈ before,p.block < W.heap.size:=fun p hp=>hW.lt p hp
 have hold:∀ p ∈ before,(fun b=>decide (b < W.heap.size)) p.block=true:=fun p hp=>by simpa using hlt p hp
 refine ⟨ds,gs,before,[],pa,pv,hW,hres _ _ _,hargs _ hold,hvars _ hold,World.keptBut_mono (fun p hp=>⟨hp,?_⟩) (hb.frame (· ∈ before)),fun _=>?_⟩
 ·rw [hps,List.mem_append] at hp
  exact Or.inr hp
 ·obtain ⟨_,_,_,_,_,hz,hn⟩:=hW
  refine ⟨hok,_,_,([]++pa)++pv,⟨[]++pa,pv,trodAll_append (hargs _ (fun _ _=>rfl)) (hres _ _ _),hvars _ (fun _ _=>rfl),rfl,?_,?_⟩,?_⟩
  ·intro b off hp
   have hin:MemPlace.cell b off ∈ before:=by rw [hps];simpa using hp
   rw [hb.frozen (hlt _ hin)]
   exact hz b off hin
  ·intro ha
   have:=hn ha
   rw [hps] at this
   simpa using this
  ·intro p hp _
   rw [hps]
   simpa using hp
theorem b2g (hl:laidOutB P=true) {W W':World} {sp:Nat→Bool}:∀ {ts:List TypeId} {vs:List Value} {ds:List (DataW H)} {ps:List MemPlace},(∀ t ∈ ts,P.readableRec t=true∧t < P.types.size) →
  DataW.TrodAll enc P W 0 (fun _=>true) true ts vs ds ps→(∀ p ∈ ps,W.sameAt W' p)→(∀ p ∈ ps,sp p.block=true)→DataW.TrodAll enc P W' 0 sp true ts vs ds ps
 |[],vs,ds,ps,_,h,_,_=>by
  obtain ⟨rfl,rfl,rfl⟩:=trodAll_nil h
  exact rfl
 |t::ts,vs,ds,ps,ht,h,hs,hp=>by
  obtain ⟨v,vs',d,ds',a,b,rfl,rfl,rfl,g1,g2⟩:=trodAll_cons h
  exact ⟨a,b,WideElems.Trod_stays hl (ht t (by simp)).1 (ht t (by simp)).2 g1 (fun p h=>hs p (by simp [h])) (fun p h=>hp p (by simp [h])),
   b2g hl (fun t h=>ht t (by simp [h])) g2 (fun p h=>hs p (by simp [h])) (fun p h=>hp p (by simp [h])),rfl⟩
end
end Pm
open Go Go.RowKit
namespace Pm
def a5k:Code→List Code
 |.seq a b=>a5k a++a5k b
 |c=>[c]
def wpL (F:Fence) (P:Program) (Q:Exit→Act→World→Prop):List Code→Act→World→Prop
 |[]=>Q .normal
 |c::r=>c.wpIn F 0 P (Exit.then (wpL F P Q r) Q)
theorem f7c {F:Fence} {P:Program} {Q:Exit→Act→World→Prop} (c:Code):∀ (r:List Code) {a:Act} {w:World},wpL F P Q (a5k c++r) a w→c.wpIn F 0 P (Exit.then (wpL F P Q r) Q) a w:=by
 have one:∀ (c:Code) (r:List Code) (a:Act) (w:World),wpL F P Q ([c]++r) a w→c.wpIn F 0 P (Exit.then (wpL F P Q r) Q) a w:=fun c r a w h=>h
 induction c with
 |seq x y ihx ihy =>
  intro r a w h
  simp only [a5k,List.append_assoc] at h
  refine wpIn_seq (wpIn_mono (ihx _ h) fun e a w h=>?_)
  cases e with
  |normal=>exact ihy r h
  |_=>exact h
 |_=>intro r a w h;exact one _ r a w h
def SemL (P:Program) (G:Gh) (l:List Code) (s:St) (Q:Exit→St→Prop):Prop:=∀ a w,Sim G s a w→wpL G.F P (b7z G Q) l a w
theorem SemL.semC {P:Program} {G:Gh} {c:Code} {s:St} {Q:Exit→St→Prop} (h:SemL P G (a5k c) s Q):SemC P G c s Q:=fun a w hs=>by
 have:=f7c c [] (by simpa using h a w hs)
 refine wpIn_mono this fun e a w h=>?_
 cases e<;>exact h
def vcN (P:Program) (G:Gh) (Q:Exit→St→Prop):Nat→List Code→St→Prop
 |0,l,s=>SemL P G l s Q
 |_+1,[],s=>Q .normal s
 |n+1,c::r,s=>vc P G c s (d5d (fun s _=>vcN P G Q n r s) Q)
theorem a1j {P:Program} {G:Gh} {Q:Exit→St→Prop}:∀ (n:Nat) (l:List Code) (s:St),vcN P G Q n l s→SemL P G l s Q:=by
 intro n
 induction n with
 |zero=>intro l s h;exact h
 |succ n ih =>
  intro l s h
  cases l with
  |nil=>intro a w hs;exact ⟨s,h,hs⟩
  |cons c r =>
   intro a w hs
   refine wpIn_mono (a0d c _ _ h a w hs) fun e a w h=>?_
   obtain ⟨s',h1,h2⟩:=h
   cases e with
   |normal=>exact ih r s' h1 a w h2
   |_=>exact ⟨s',h1,h2⟩
def XOK (G:Gh) (N:Nat) (Fx:V→Value→Prop):Prop:=∀ s a w E,SimE G s a w E→N≤w.heap.size ∧
 ∃ O':Nat→Prop,(∀ b,O' b→OT G s E b)∧(∀ b,N≤b→OT G s E b→O' b)∧∀ x y,Fx x y→R0 w O' x y
theorem XOK.of {G:Gh} {w1:World} {O1:Nat→Prop} {Fx:V→Value→Prop} (hF:∀ x y,Fx x y→R0 w1 O1 x y)
  (h:∀ w,G.Zi w→w1.heap.size≤w.heap.size∧∀ b,b < w1.heap.size→¬ O1 b→w.heap[b]? = w1.heap[b]?):XOK G w1.heap.size Fx:=by
 intro s a w E hE
 obtain ⟨h1,h2⟩:=h w hE.zi
 refine ⟨h1,fun b=>OT G s E b∧¬ (b < w1.heap.size∧¬ O1 b),fun b hb=>hb.1,fun b hN hb=>⟨hb,fun g=>by omega⟩,fun x y hxy=>?_⟩
 exact (hF x y hxy).mono h1 (fun b hb hlt g=>g.2 ⟨hlt,hb⟩) fun b hb hlt=>h2 b hlt hb
inductive AX (Fx:V→Value→Prop):V→V→Prop
 |pure (u u':V) (hp:pureV u=true) (hs:Sub u u'):AX Fx u u'
 |ex (y:Value) (u':V) (h:Fx u' y):AX Fx (.v y) u'
 |agg2 (c d c' d':V) (h1:AX Fx c c') (h2:AX Fx d d'):AX Fx (.agg [c,d]) (.agg [c',d'])
 |agg4 (a b c d a' b' c' d':V) (h1:AX Fx a a') (h2:AX Fx b b') (h3:AX Fx c c') (h4:AX Fx d d'):AX Fx (.agg [a,b,c,d]) (.agg [a',b',c',d'])
theorem AX.spec {Fx:V→Value→Prop} {w:World} {O O':Nat→Prop} {E:Env} (hF:∀ x y,Fx x y→R0 w O' x y) (hO:∀ b,O' b→O b) {u u':V} (h:AX Fx u u'):∀ {y:Value},R w O E u y→R0 w O' u' y:=by
 induction h with
 |pure u u' hp hs=>intro y hy;exact hs _ _ _ ((hy.pureV hp).mono (Nat.le_refl _) (fun b hb _ hb'=>hb (hO b hb')) fun _ _ _=>rfl)
 |ex y u' h=>intro y' hy;rw [R.v_inv hy];exact hF _ _ h
 |agg2 c d c' d' h1 h2 i1 i2 =>
  intro y hy
  obtain ⟨ys,rfl,hn,hr⟩:=R.agg_inv hy
  refine .agg _ _ hn fun j u y hj hy=>?_
  match j with
  |0=>simp at hj;subst hj;exact i1 (hr 0 c y rfl hy)
  |1=>simp at hj;subst hj;exact i2 (hr 1 d y rfl hy)
  |j+2=>simp at hj
 |agg4 a b c d a' b' c' d' h1 h2 h3 h4 i1 i2 i3 i4 =>
  intro y hy
  obtain ⟨ys,rfl,hn,hr⟩:=R.agg_inv hy
  refine .agg _ _ hn fun j u y hj hy=>?_
  match j with
  |0=>simp at hj;subst hj;exact i1 (hr 0 a y rfl hy)
  |1=>simp at hj;subst hj;exact i2 (hr 1 b y rfl hy)
  |2=>simp at hj;subst hj;exact i3 (hr 2 c y rfl hy)
  |3=>simp at hj;subst hj;exact i4 (hr 3 d y rfl hy)
  |j+4=>simp at hj
inductive AXs (Fx:V→Value→Prop):List V→List V→Prop
 |nil:AXs Fx [] []
 |cons {x x':V} {l l':List V} (h:AX Fx x x') (t:AXs Fx l l'):AXs Fx (x::l) (x'::l')
theorem AXs.spec {Fx:V→Value→Prop} {l l':List V} (h:AXs Fx l l'):l.length=l'.length∧∀ (j:Nat) (u':V),l'[j]? = some u'→∃ u,l[j]? = some u∧AX Fx u u':=by
 induction h with
 |nil=>exact ⟨rfl,by simp⟩
 |cons h t ih =>
  refine ⟨by simp [ih.1],fun j u' hj=>?_⟩
  cases j with
  |zero=>simp at hj;subst hj;exact ⟨_,rfl,h⟩
  |succ j=>simp at hj;simpa using ih.2 j u' hj
inductive Hi (N:Nat):V→Prop
 |any:Hi N .any
 |v (x:Value):Hi N (.v x)
 |lst (lo sz:Nat) (l:List (List V)) (h:N≤lo) (hr:∀ (i:Nat) (x:List V) (j:Nat) (u:V),l[i]? = some x→x[j]? = some u→Hi N u):Hi N (.lst lo sz l)
 |agg (cs:List V) (hr:∀ (j:Nat) (u:V),cs[j]? = some u→Hi N u):Hi N (.agg cs)
 |tup (cs:List V) (hr:∀ (j:Nat) (u:V),cs[j]? = some u→Hi N u):Hi N (.tup cs)
theorem Hi.spec {N:Nat} {w:World} {O O':Nat→Prop} {x:V} {y:Value} (h:R0 w O' x y):Hi N x→(∀ b,N≤b→O b→O' b)→R0 w O x y:=by
 induction h with
 |any y=>intro _ _;exact .any y
 |v x=>intro _ _;exact .v x
 |lst lo sz l a n cap b o g hlo hn hc hl ha hs hz hr ih =>
  intro h hO
  cases h with
  |lst _ _ _ h1 h2=>exact .lst lo sz l a n cap b o g hlo hn hc hl (fun h=>⟨(ha h).1,fun hb=>(ha h).2.1 (hO b (Nat.le_trans h1 (hlo h)) hb),(ha h).2.2⟩) hs hz fun i x j u q1 q2=>ih i x j u q1 q2 (h2 i x j u q1 q2) hO
 |fp cs b o g h1 hb hs hr ih=>intro h;cases h
 |agg cs ys hn hr ih =>
  intro h hO
  cases h with
  |agg _ h2=>exact .agg cs ys hn fun j u y q1 q2=>ih j u y q1 q2 (h2 j u q1) hO
 |tup cs ys hn hr ih =>
  intro h hO
  cases h with
  |tup _ h2=>exact .tup cs ys hn fun j u y q1 q2=>ih j u y q1 q2 (h2 j u q1) hO
 |fn f cap ys hn hr ih=>intro h;cases h
theorem Hi.agg2 {N:Nat} {x y:V} (h1:Hi N x) (h2:Hi N y):Hi N (.agg [x,y]):=.agg _ fun j u h=>by
 match j with
 |0=>simp at h;subst h;exact h1
 |1=>simp at h;subst h;exact h2
 |j+2=>simp at h
theorem Hi.map {α:Type} {N lo sz:Nat} {l:List α} {f:α→List V} (h:N≤lo) (hf:∀ (x:α) (j:Nat) (u:V),(f x)[j]? = some u→Hi N u):Hi N (.lst lo sz (l.map f)):=.lst _ _ _ h fun i x j u h1 h2=>by
 simp only [List.getElem?_map,Option.map_eq_some_iff] at h1
 obtain ⟨z,_,rfl⟩:=h1
 exact hf z j u h2
def isS:Value→Bool
 |.string _=>true
 |_=>false
def loose (wz w:World) (b:Nat):Prop:=∀ (ys:Array Value) (t:TypeId) (fz:Nat×Nat),wz.heap[b]? = some (.cells ys t fz) →
 ∃ ys':Array Value,w.heap[b]? = some (.cells ys' t fz)∧ys'.size=ys.size∧∀ (j:Nat) (v:Value),ys[j]? = some v→∃ v',ys'[j]? = some v'∧(v'=v∨(isS v=true∧isS v'=true))
theorem loose.same {wz w:World} {b:Nat} (h:w.heap[b]? = wz.heap[b]?):loose wz w b:=fun ys t fz hz=>⟨ys,h.trans hz,rfl,fun j v hj=>⟨v,hj,.inl rfl⟩⟩
theorem loose.next {wz w w':World} {b:Nat} (h:loose wz w b) (e:w'.heap[b]? = w.heap[b]?):loose wz w' b:=fun ys t fz hz=>by
 obtain ⟨ys',h1,h2,h3⟩:=h ys t fz hz
 exact ⟨ys',e.trans h1,h2,h3⟩
theorem d1z {w:World} {b o:Nat} {v:Value} (h:w.cell? ⟨b,o,none⟩=some v):∃ ys t fz,w.heap[b]? = some (.cells ys t fz)∧ys[o]? = some v:=by
 unfold World.cell? at h
 split at h
 ·rename_i c t fz hc
  exact ⟨c,t,fz,hc,by simpa using h⟩
 ·cases h
theorem loose.cell {wz w:World} {b o:Nat} {v:Value} (h:loose wz w b) (hc:b6f wz ⟨b,o,none⟩ v):∃ v',b6f w ⟨b,o,none⟩ v'∧(v'=v∨(isS v=true∧isS v'=true)):=by
 obtain ⟨ys,t,fz,h1,h2⟩:=d1z hc.1
 obtain ⟨ys',h3,h4,h5⟩:=h ys t fz h1
 obtain ⟨v',h6,h7⟩:=h5 o v h2
 refine ⟨v',⟨by simp [World.cell?,h3,h6],fun hw=>?_⟩,h7⟩
 have hw':wrV v=true:=by
  rcases h7 with rfl|⟨h8,_⟩
  ·exact hw
  ·cases v<;>first|rfl|cases h8
 have:=hc.2 hw'
 simpa [World.frozen?,h1,h3] using this
theorem loose.set {wz w:World} {b o:Nat} {v:Value} (h:loose wz w b) (hc:wz.cell? ⟨b,o,none⟩=some v) (hv:isS v=true) (x:ByteArray):loose wz (w.setCell ⟨b,o,none⟩ (.string x)) b:=fun ys t fz hz=>by
 obtain ⟨ys0,t0,fz0,h1,h2⟩:=d1z hc
 rw [hz] at h1
 cases h1
 obtain ⟨ys',h3,h4,h5⟩:=h ys t fz hz
 refine ⟨ys'.setIfInBounds o (.string x),by simp [World.setCell,Array.getElem?_modify,h3],by simpa using h4,fun j u hj=>?_⟩
 by_cases e:o=j
 ·subst e
  rw [h2] at hj
  cases hj
  have:o < ys'.size:=by rw [h4];exact (Array.getElem?_eq_some_iff.1 h2).1
  exact ⟨.string x,by simp [this],.inr ⟨hv,rfl⟩⟩
 ·obtain ⟨v',h6,h7⟩:=h5 j u hj
  exact ⟨v',by rw [Array.getElem?_setIfInBounds_ne e];exact h6,h7⟩
theorem a3j (a b:Code):a5k (.seq a b)=a5k a++a5k b:=rfl
theorem a1y (id:Nat) (l:Array Oper) (d:Bool):a5k (.region id l d)=[.region id l d]:=rfl
theorem a2p (c:Operand) (a b:Code):a5k (.cond c a b)=[.cond c a b]:=rfl
theorem a2e (id:Nat) (c:Code):a5k (.block id c)=[.block id c]:=rfl
theorem e2x (c:Code):a5k (.loop c)=[.loop c]:=rfl
theorem a3h:a5k .ret=[.ret]:=rfl
theorem e5b:a5k .skip=[.skip]:=rfl
theorem g6p {P:Program} {G:Gh} {Q:Exit→St→Prop} (l:List Code) (s:St):vcN P G Q 0 l s=SemL P G l s Q:=rfl
theorem g6c {P:Program} {G:Gh} {Q:Exit→St→Prop} (n:Nat) (s:St):vcN P G Q (n+1) [] s=Q .normal s:=rfl
theorem g6r {P:Program} {G:Gh} {Q:Exit→St→Prop} (n:Nat) (c:Code) (r:List Code) (s:St):vcN P G Q (n+1) (c::r) s=vc P G c s (d5d (fun s _=>vcN P G Q n r s) Q):=rfl
attribute [go_sem] a3j a1y a2p a2e e2x a3h e5b List.singleton_append g6p g6c g6r
theorem a2v {P:Program} {G:Gh} {l:List Code} {s s':St} {Q:Exit→St→Prop} (he:Ent G s s') (h:SemL P G l s' Q):SemL P G l s Q:=fun a w hs=>h a w (he a w hs)
theorem b6x (ow:Nat→Bool) {P:Program} {f:FuncId} {fn:Func} {c:Code} {as:List V} {r:Nat→V} {rs:List ResultVar} {m:Nat} (hf:P.funcs[f]? = some fn) (hm:fn.ntmps=m) (hb:fn.body=some c) (hname:(fn.name == "runtime.NumGoroutine")=false)
  (hn:as.length≤m) (hrs:fn.results=rs.toArray) (hl:rs.length≤3)
  (h:∀ (G:Gh),G.n=m→G.ow=ow→G.nm=[]→(∀ w,G.Zi w)→(∀ x ∈ as,Bd x)→SemL P G (a5k c) (St.of (a3n 0 as) []) (a1z P G.lo rs (r G.lo))):a0l P f as r:=by
 subst hm
 refine ⟨⟨fn,hf,hname,by simp [hb]⟩,fun lo w O ys hlo hO ha=>?_⟩
 refine a6i (G:=(c8p ow w O fn.ntmps lo hlo hO)) rfl hf hb ?_
 refine wpIn_mono (SemL.semC (h (c8p ow w O fn.ntmps lo hlo hO) rfl rfl rfl (fun _=>trivial) ha.bd) _ w (c5v ow hlo hO ha hn)) ?_
 rintro e a w' ⟨s,hq,hs⟩
 have fin:=d0n (P:=P) (ow:=ow) (m:=fn.ntmps) hlo hO hrs hl (r:=r lo) hs
 cases e with
 |normal=>exact fin hq
 |ret=>exact fin hq
 |exit=>exact hq.elim
 |goto=>exact hq.elim
 |panic=>exact hq.elim
 |outgrown=>exact hq.elim
def g3m (y:Value):V→V
 |.lst _ _ _|.fp _=>.v y
 |x=>x
def f2j (z:Nat→Value):Nat→List V→List V
 |_,[]=>[]
 |j,x::r=>g3m (z j) x::f2j z (j+1) r
def g4j (z:Nat→Value):OB→OB
 |.box cs=>.box (f2j z 0 cs)
 |o=>o
def exF (ys:Nat→Value):List (Nat×V)→List (Nat×V)
 |[]=>[]
 |(i,x)::r=>(i,g3m (ys i) x)::exF ys r
def exH (zs:Nat→Nat→Value):List (Nat×OB)→List (Nat×OB)
 |[]=>[]
 |(i,o)::r=>(i,g4j (zs i) o)::exH zs r
theorem g1k (ys:Nat→Value):∀ (fl:List (Nat×V)) (i:Nat),lkV (exF ys fl) i=g3m (ys i) (lkV fl i):=by
 intro fl
 induction fl with
 |nil=>intro i;rfl
 |cons p r ih =>
  obtain ⟨j,x⟩:=p
  intro i
  simp only [exF,lkV]
  split
  ·rename_i e;subst e;rfl
  ·exact ih i
theorem d7w (zs:Nat→Nat→Value):∀ (hl:List (Nat×OB)) (i:Nat),lkH (exH zs hl) i=(lkH hl i).map (g4j (zs i)):=by
 intro hl
 induction hl with
 |nil=>intro i;rfl
 |cons p r ih =>
  obtain ⟨j,x⟩:=p
  intro i
  simp only [exH,lkH]
  split
  ·rename_i e;subst e;rfl
  ·exact ih i
theorem g3s (zs:Nat→Nat→Value):∀ (hl:List (Nat×OB)) (i:Nat),usH (exH zs hl) i=usH hl i:=by
 intro hl
 induction hl with
 |nil=>intro i;rfl
 |cons p r ih=>intro i;simp only [exH,usH,ih]
theorem e7t (z:Nat→Value):∀ (cs:List V) (k j:Nat),(f2j z k cs)[j]? = (cs[j]?).map (g3m (z (k+j))):=by
 intro cs
 induction cs with
 |nil=>intro k j;simp [f2j]
 |cons x r ih =>
  intro k j
  cases j with
  |zero=>simp [f2j]
  |succ j=>simp only [f2j,List.getElem?_cons_succ,ih];rw [show k+1+j=k+(j+1) by omega]
theorem d1s (z:Nat→Value):∀ (cs:List V) (k:Nat),(f2j z k cs).length=cs.length:=by
 intro cs
 induction cs with
 |nil=>intro k;rfl
 |cons x r ih=>intro k;simp [f2j,ih]
theorem f3d {w:World} {O:Nat→Prop} {E:Env} {x:V} {y:Value} (h:R w O E x y):R w O E (g3m y x) y:=by
 cases x<;>first|exact h|exact .r0 _ _ (.v _)
def cellsOf (w:World) (E:Env) (id j:Nat):Value:=match E id with
 |some (some b,_,_)=>match w.heap[b]? with
  |some (.cells ys _ _)=>ys.getD j undef
  |_=>undef
 |_=>undef
theorem SimE.exact {G:Gh} {fl:List (Nat×V)} {hl:List (Nat×OB)} {a:Act} {w:World} {E:Env} (h:SimE G (St.of fl hl) a w E):∃ (ys:Nat→Value) (zs:Nat→Nat→Value),
  (∀ i,R w (OT G (St.of fl hl) E) E (lkV fl i) (ys i))∧(∀ id cs j u,lkH hl id=some (.box cs)→cs[j]? = some u→R w (OT G (St.of fl hl) E) E u (zs id j)) ∧
  (∀ b,OT G (St.of (exF ys fl) (exH zs hl)) E b↔OT G (St.of fl hl) E b)∧SimE G (St.of (exF ys fl) (exH zs hl)) a w E:=by
 have hz:∀ id cs j u,lkH hl id=some (.box cs)→cs[j]? = some u→R w (OT G (St.of fl hl) E) E u (cellsOf w E id j):=fun id cs j u h1 h2=>by
  obtain ⟨b,K,C,k1,b',ys,t,rfl,g2,g3,g4,g5,g6⟩:=h.hp id _ h1
  have hj:j < ys.size:=by rw [g3];exact (List.getElem?_eq_some_iff.1 h2).1
  simp only [cellsOf,k1,g2]
  exact g6 j u _ h2 (by simp [hj])
 have hlive:∀ b,a5v (St.of (exF (fun i=>a.tmps.getD i undef) fl) (exH (cellsOf w E) hl)) E b↔a5v (St.of fl hl) E b:=fun b=>by
  constructor
  ·rintro ⟨id,ob,K,C,h1,h2⟩
   have h1':lkH (exH (cellsOf w E) hl) id=some ob:=h1
   rw [d7w] at h1'
   simp only [Option.map_eq_some_iff] at h1'
   obtain ⟨o,h3,_⟩:=h1'
   exact ⟨id,o,K,C,h3,h2⟩
  ·rintro ⟨id,ob,K,C,h1,h2⟩
   have h1':lkH hl id=some ob:=h1
   refine ⟨id,g4j (cellsOf w E id) ob,K,C,?_,h2⟩
   show lkH (exH (cellsOf w E) hl) id=_
   rw [d7w,h1'];rfl
 have hOT:∀ b,OT G (St.of (exF (fun i=>a.tmps.getD i undef) fl) (exH (cellsOf w E) hl)) E b↔OT G (St.of fl hl) E b:=fun b=>or_congr Iff.rfl (hlive b)
 have hO':∀ b,¬ OT G (St.of fl hl) E b→¬ OT G (St.of (exF (fun i=>a.tmps.getD i undef) fl) (exH (cellsOf w E) hl)) E b:=fun b hb hb'=>hb ((hOT b).1 hb')
 have back:∀ {id ob},lkH (exH (cellsOf w E) hl) id=some ob→∃ o,lkH hl id=some o∧ob=g4j (cellsOf w E id) o:=fun {id ob} h1=>by
  rw [d7w] at h1
  simp only [Option.map_eq_some_iff] at h1
  obtain ⟨o,h3,h4⟩:=h1
  exact ⟨o,h3,h4.symm⟩
 refine ⟨fun i=>a.tmps.getD i undef,cellsOf w E,h.fr,hz,hOT,⟨fun i=>?_,h.defers.mono rfl fun b hb _ _=>⟨rfl,fun hl=>hb ((hlive b).1 hl)⟩,h.size,fun id ob hob=>?_,fun id hid=>?_,fun i i' o o' b x x' k1 k2 k3 k4=>?_,fun i o b x k1 k2=>?_,h.old,h.grow,h.os,h.tape,h.output,h.keep,h.base,h.zi⟩⟩
 ·show R w _ E (lkV (exF _ fl) i) _
  rw [g1k]
  exact (f3d (h.fr i)).weak hO' fun _ _ h=>h
 ·obtain ⟨o,h1,rfl⟩:=back hob
  obtain ⟨b,K,C,k1,k2⟩:=h.hp id o h1
  refine ⟨b,K,C,k1,?_⟩
  cases o with
  |arr t sz l=>exact k2.mono (Nat.le_refl _) (fun b hb _=>hO' b hb) (fun _ _ _=>rfl) (fun _ _ h=>h) fun _ _=>rfl
  |map kk m=>exact k2.mono (Nat.le_refl _) (fun b hb _=>hO' b hb) (fun _ _ _=>rfl) (fun _ _ h=>h) fun _ _=>rfl
  |mpe kk m j bo=>exact k2.mono (Nat.le_refl _) (fun b hb _=>hO' b hb) (fun _ _ _=>rfl) (fun _ _ h=>h) fun _ _=>rfl
  |obj x=>exact k2.mono (Nat.le_refl _) (fun b hb _=>hO' b hb) (fun _ _ _=>rfl) (fun _ _ h=>h) fun _ _=>rfl
  |arx t sz l=>exact k2.mono (Nat.le_refl _) (fun b hb _=>hO' b hb) (fun _ _ _=>rfl) (fun _ _ h=>h) fun _ _=>rfl
  |box cs =>
   obtain ⟨b',ys,t,rfl,g2,g3,g4,g5,g6⟩:=k2
   refine ⟨b',ys,t,rfl,g2,by rw [d1s];exact g3,by rw [d1s];exact g4,g5,fun j u y q1 q2=>?_⟩
   rw [e7t] at q1
   simp only [Option.map_eq_some_iff,Nat.zero_add] at q1
   obtain ⟨u',q3,rfl⟩:=q1
   have e:cellsOf w E id j=y:=by simp only [cellsOf,k1,g2];rw [Array.getD_eq_getD_getElem?,q2];rfl
   rw [e]
   exact (f3d (g6 j u' y q3 q2)).weak hO' fun _ _ h=>h
 ·show usH (exH _ hl) id=true
  rw [g3s];exact h.us id hid
 ·obtain ⟨_,f1,_⟩:=back k1
  obtain ⟨_,f2,_⟩:=back k2
  exact h.inj i i' _ _ b x x' f1 f2 k3 k4
 ·obtain ⟨_,f1,_⟩:=back k1
  exact h.fresh i _ b x f1 k2
end Pm
open Go Go.RowKit
namespace Pm
theorem c8q {P:Program} (w:World) (t u ty e:TypeId) (i:TypeInfo) (ht:P.underlying t=some (.slice e)) (hu:P.underlying u=some .string) (hi:P.info? e=some i) (hz:i.zero=some (.int .u8 0))
  (hsize:i.size=1) (hby:i.bytes=1) (v:Value) (n:Nat) (xs:List Value) (hown:w.ownsRow 0 e 1 v n xs) (s:ByteArray) (h63:n+s.size≤maxLen) (hbytes:n+s.size≤140737488355328) :
  ∃ v' w',(Builtin.append_ #[t,u] ty #[v,.string s]).run P w=.ok v' w'∧w'.ownsRow 0 e 1 v' (n+s.size) (xs++Lib.strCells s)∧w.grownBy w' v.ownBlock∧(v'.ownBlock=v.ownBlock∨v'.ownBlock=some w.heap.size):=by
 obtain ⟨v',w',h1,h2,h3,h4⟩:=Lib.run_append_own_string (P:=P) w 0 t u ty e i ht hu hi hz hsize hby v n xs hown s h63 hbytes (Nat.zero_le _)
 refine ⟨v',w',h1,h2,h3,?_⟩
 have hsmall:n+s.size≤9223372036854775807:=by simp only [maxLen] at h63;omega
 rcases hown.2 with ⟨rfl,rfl⟩|⟨g,cap,cur,rfl,hbg,hg,hnc,hcm,hcs,htake⟩
 ·by_cases hm:s.size=0
  ·left
   rw [h4.2 ⟨rfl,hm⟩]
  ·right
   have hr:=run_append_nil_string (P:=P) w t u ty e i (.int .u8 0) ht hu hi hz s (by omega) (by omega) (by rw [hby];omega)
   rw [h1] at hr
   simp only [Result.ok.injEq] at hr
   rw [hr.1];rfl
 ·have hcs':cur.size=cap:=by simpa using hcs
  by_cases hroom:n+s.size≤cap
  ·left
   have hr:=Lib.run_append_room_string (P:=P) w t u ty e i ht hu hi hsize g n cap cur hg s hroom (by omega)
   rw [h1] at hr
   simp only [Result.ok.injEq] at hr
   rw [hr.1];rfl
  ·right
   have holds:∀ j u,xs[j]? = some u→w.cell? ((⟨g,0,none⟩:Addr).add j)=some u:=hown.cells (g:=g) rfl
   have hr:=Lib.run_append_grow_string (P:=P) w t u ty e i (.int .u8 0) ht hu hi hz ⟨g,0,none⟩ n cap xs (by rw [hsize];simpa using hown.1) holds s (by omega) (by omega) (by rw [hby];exact growslice_fits (by omega) (by omega))
   rw [h1] at hr
   simp only [Result.ok.injEq] at hr
   rw [hr.1];rfl
def c5o (P:Program) (el:TypeId):Prop:=(P.info? el).map (fun i=>(i.zero,i.size,i.bytes))=some (some (.int .u8 0),1,1)
theorem e3b (l:List UInt8):∀ r ∈ l.map a4v,r.length=1:=fun r hr=>by
 obtain ⟨b,_,rfl⟩:=List.mem_map.1 hr;rfl
theorem c8a {P:Program} {G:Gh} {s:St} {o:Oper} {d t u el:Nat} {xo yo:Operand} {x:V} {l:List (List V)} {io:Option Nat} {str:ByteArray}
  (ho:o.op=.call ⟨.builtin .append,#[xo,yo],#[t,u]⟩) (hx:ev s xo=x) (hy:ev s yo=.v (.string str))
  (hu:s.used d=false) (ha:IsArr s el 1 x l io) (hse:a0t P t=some (el,1)) (hus:tk P u=.str) (hb:c5o P el)
  (hlen:l.length+str.size≤140737488355328) :
  ∀ a w E,SimE G s a w E→∃ v' w' E',(execOp a.eval o).run P w=.ok (.value v') w'∧SimE G (a1h s (a4r io++[(d,some (.arr el 1 (l++str.data.toList.map a4v)))])) a w' E'∧R w' (OT G (a1h s (a4r io++[(d,some (.arr el 1 (l++str.data.toList.map a4v)))])) E') E' (.own d 0 (l.length+str.size) 1) v':=by
 intro a w E hs
 obtain ⟨hU,inf,hinf,hsz⟩:=a2b hse
 have hb':=hb
 unfold c5o at hb'
 rw [hinf] at hb'
 simp only [Option.map_some,Option.some.injEq,Prod.mk.injEq] at hb'
 obtain ⟨hz0,hz1,hz2⟩:=hb'
 have hRx:=a1t hs hx
 have hyv:=R.v_inv (a1t hs hy)
 obtain ⟨xs,hown,hob1,hxs⟩:=d8e hs ha hRx
 have hall:l.length+str.size≤maxLen:=by simp only [maxLen];omega
 obtain ⟨v',w',hrun,hown',hgrow,hblk⟩:=c8q (P:=P) w t u o.type el inf hU (b1v hus) hinf hz0 hz1 hz2 (a.eval xo) l.length xs hown str hall hlen
 have hexec:(execOp a.eval o).run P w=.ok (.value v') w':=by
  have:=hrun
  simp [execOp,ho,resolve,invoke,builtin,hyv,this]
 obtain ⟨hxl,_⟩:=hown
 have hxl':xs.length=l.length:=by simpa using hxl
 have hsl:str.data.toList.length=str.size:=by rw [Array.length_toList];rfl
 obtain ⟨new,hnew⟩:∃ new,new=str.data.toList.map a4v:=⟨_,rfl⟩
 have hnl:new.length=str.size:=by rw [hnew,List.length_map,hsl]
 rw [← hnew]
 have hlive:∀ b,(a.eval xo).ownBlock=some b→OT G s E b:=fun b hb=>by
  obtain ⟨id,C,ob,_,h2,h3⟩:=hob1 b hb
  exact .inr ⟨id,ob,_,C,h2,h3⟩
 have hkeep:∀ b,¬ OT G s E b→b < w.heap.size→w'.heap[b]? = w.heap[b]?:=fun b hnb hlt=>hgrow.block b hlt (fun e=>hnb (hlive b e.symm))
 have hrow:∀ b,(a.eval xo).ownBlock=some b→∃ id ob' K' C',io=some id∧s.hp id=some ob'∧E id=some (some b,K',C'):=fun b hb=>by
  obtain ⟨id,C,ob,h1,h2,h3⟩:=hob1 b hb
  exact ⟨id,ob,_,C,h1,h2,h3⟩
 have hel:∀ q,q ∈ l++new→q.length=1:=fun q hq=>by
  rcases List.mem_append.1 hq with hq|hq
  ·cases ha with
   |nil=>simp at hq
   |own id _ hob =>
    obtain ⟨b,K,C,h1,h2,_⟩:=hs.hp id _ hob
    exact h2 q hq
  ·rw [hnew] at hq
   exact e3b _ q hq
 rcases hown'.2 with ⟨hv,hzero⟩|⟨g,cap,cur,hv,_,hcur,hle,hcap,hcs,htake⟩
 ·obtain ⟨E',h1,h2⟩:=hs.grown (io:=io) (d:=d) hu (ob:=.arr el 1 (l++new)) (bo:=none) (K:=0) (C:=0) hgrow hrow (by simp) (by simp) (fun O' E' _=>⟨hel,by decide,by rw [List.length_append];omega,by rw [List.length_append];omega,rfl,rfl⟩)
  refine ⟨v',w',E',hexec,h1,.own d 0 _ 1 none 0 0 _ h2 ⟨by omega,Nat.le_refl _,rfl,hzero,hv⟩⟩
 ·have hgb:(a.eval xo).ownBlock=some g∨g=w.heap.size:=by
   rw [hv] at hblk
   rcases hblk with hb|hb
   ·exact .inl hb.symm
   ·right;simpa [Value.ownBlock] using hb
  have hHB:∀ (O':Nat→Prop) (E':Env),(∀ b,¬ OT G s E b→b < w.heap.size→¬ O' b)→HB w' O' E' (some g) (l.length+str.size) cap (.arr el 1 (l++new)):=fun O' E' hO'=>by
   refine ⟨hel,by decide,by rw [List.length_append];omega,by rw [List.length_append,hnl],cur,hcur,hcs,hle,hcap,fun i x j u y h3 h4 h5=>?_⟩
   have hj:j < 1:=by rw [← hel x (List.mem_of_getElem? h3)];exact (List.getElem?_eq_some_iff.1 h4).1
   have hi:i < l.length+str.size:=by have:=(List.getElem?_eq_some_iff.1 h3).1;rw [List.length_append,hnl] at this;exact this
   have h5':(xs++Lib.strCells str)[i * 1+j]? = some y:=by
    rw [← htake,List.getElem?_take,if_pos (by omega)];simpa using h5
   have mono:∀ {u:V} {y:Value},R0 w (OT G s E) u y→R0 w' O' u y:=fun h=>h.mono hgrow.size hO' hkeep
   by_cases hil:i < l.length
   ·rw [List.getElem?_append_left hil] at h3
    rw [List.getElem?_append_left (by omega)] at h5'
    exact mono (hxs i x j u y h3 h4 h5')
   ·rw [List.getElem?_append_right (by omega),hnew,List.getElem?_map] at h3
    rw [List.getElem?_append_right (by omega)] at h5'
    have e1:i * 1+j - xs.length=i - l.length:=by omega
    rw [e1] at h5'
    unfold Lib.strCells at h5'
    rw [List.getElem?_map] at h5'
    obtain ⟨b,hb1,rfl⟩:=Option.map_eq_some_iff.1 h3
    rw [hb1] at h5'
    have hj0:j=0:=by omega
    subst hj0
    simp only [a4v,List.getElem?_cons_zero,Option.some.injEq] at h4
    subst h4
    simp only [Option.map_some,Option.some.injEq] at h5'
    subst h5'
    exact .v _
  obtain ⟨E',h1,h2⟩:=hs.grown (io:=io) (d:=d) hu (ob:=.arr el 1 (l++new)) (bo:=some g) (K:=l.length+str.size) (C:=cap) hgrow hrow (fun b hb=>by cases hb;exact hgb)
   (fun b hb=>by cases hb;exact (Array.getElem?_eq_some_iff.1 hcur).1) hHB
  exact ⟨v',w',E',hexec,h1,.own d 0 _ 1 (some g) _ cap _ h2 ⟨by omega,hle,0,by simp,by rw [hv];simp⟩⟩
theorem b4i {P:Program} {G:Gh} {s:St} {o:Oper} {Q:Exit→St→Prop} {rest:St→Prop} {d t u el:Nat} {xo yo:Operand} {x:V} {l:List (List V)} {io:Option Nat} {str:ByteArray}
  (ho:o.op=.call ⟨.builtin .append,#[xo,yo],#[t,u]⟩) (hx:ev s xo=x) (hy:ev s yo=.v (.string str)) (hd:o.dst=some d) (hdn:d < G.n)
  (hu:s.used d=false) (ha:IsArr s el 1 x l io) (hse:a0t P t=some (el,1)) (hus:tk P u=.str) (hb:c5o P el)
  (hlen:l.length+str.size≤140737488355328)
  (hr:rest (app s o.dst (.own d 0 (l.length+str.size) 1,a4r io++[(d,some (.arr el 1 (l++str.data.toList.map a4v)))]))):SemStep P G o s Q rest:=by
 intro a w hs
 refine a0z (fun c hc=>by rw [ho] at hc;cases hc) ?_
 exact a2f (fun d' h=>by rw [hd] at h;cases h;exact hdn) (c8a ho hx hy hu ha hse hus hb hlen) a w hs _ _ fun a' w' hs'=>⟨_,hr,hs'⟩
theorem c6b {P:Program} {G:Gh} {s:St} {o:Oper} {Q:Exit→St→Prop} {rest:St→Prop} {d t t' i k:Nat} {xo yo:Operand}
  (ho:o.op=.binOp .neq t xo yo t') (hx:ev s xo=.ptr i k) (hy:ev s yo=.ptr i k) (hd:o.dst=some d) (hdn:d < G.n) {e:TypeId} (hu:P.underlying t=some (.pointer e)) (hi:(P.info? e).isSome=true)
  (hr:rest (a3z s o.dst (.v (.bool false)))):SemStep P G o s Q rest:=by
 intro a w hs
 refine a0z (fun c hc=>by rw [ho] at hc;cases hc) ?_
 obtain ⟨inf,hinf⟩:=Option.isSome_iff_exists.1 hi
 refine a0j (x:=.v (.bool false)) (fun d' h=>by rw [hd] at h;cases h;exact hdn) (fun a w E hs=>⟨_,?_,.r0 _ _ (.v _)⟩) a w hs _ _ fun a' w' hs'=>⟨_,hr,hs'⟩
 obtain ⟨b,K,C,hE,hxv⟩:=R.ptr_inv (a1t hs hx)
 obtain ⟨b',K',C',hE',hyv⟩:=R.ptr_inv (a1t hs hy)
 rw [hE] at hE'
 cases hE'
 have hq:(Op.equal t (a.eval xo) (a.eval yo)).run P w=.ok true w:=by
  rw [hxv,hyv]
  exact a5b fun d=>by by_cases h0:inf.size=0<;>simp [Op.equalIn,a0o P w hu,a1n P w hinf,h0,sameAddr]
 have hg:(eqGuard .neq t xo yo (a.eval xo) (a.eval yo)).run P w=.ok () w:=by rw [hxv,hyv];unfold eqGuard;split<;>simp
 have hb:binOp .neq t (a.eval xo) (a.eval yo)=(do pure (.bool (!(← Op.equal t (a.eval xo) (a.eval yo))))):=by rw [hxv,hyv];rfl
 simp [execOp,ho,hg,hb,hq]
theorem e4g {P:Program} {G:Gh} {s:St} {o:Oper} {Q:Exit→St→Prop} {rest:St→Prop} {d t:Nat}
  (ho:o.op=.alloc t) (hd:o.dst=some d) (hdn:d < G.n) (hu:s.used d=false) (hz:a0p P t=some [.pointer none,.slice none 0 0])
  (hr:rest (app s o.dst (.ptr d 0,[(d,some (.obj (.cells #[.pointer none,.slice none 0 0] t (0,0))))]))):SemStep P G o s Q rest:=by
 intro a w hs
 refine a0z (fun c hc=>by rw [ho] at hc;cases hc) ?_
 refine a2f (x:=.ptr d 0) (l:=[(d,some (.obj (.cells #[.pointer none,.slice none 0 0] t (0,0))))]) (fun d' h=>by rw [hd] at h;cases h;exact hdn) (fun a w E hs=>?_) a w hs _ _ fun a' w' hs'=>⟨_,hr,hs'⟩
 obtain ⟨zv,hzr,hzc⟩:=b1y hz w
 have hzc':zv.cells=#[.pointer none,.slice none 0 0]:=by apply Array.ext';simpa using hzc
 obtain ⟨E',h1,h2,h3,h4⟩:=hs.new (id:=d) hu (o:=.cells zv.cells t) (ob:=.obj (.cells #[.pointer none,.slice none 0 0] t (0,0))) (K:=0) (C:=0) (fun O' E' hO hE=>⟨w.heap.size,rfl,by rw [a4l,hzc'],rfl,rfl⟩)
 refine ⟨.pointer (some ⟨w.heap.size,0,none⟩),_,E',?_,h1,.ptr d 0 _ _ _ h2⟩
 simp [execOp,ho,Instr.alloc,newVar,newRow,hzr]
end Pm
open Go Go.RowKit
namespace Pm
attribute [go_sem] g5a
inductive IsArrX (s:St) (el sz:Nat):V→List (List V)→Option Nat→Prop
 |own (id:Nat) (l:List (List V)) (h:s.hget id=some (.arx el sz l)):IsArrX s el sz (.own id 0 l.length sz) l (some id)
 |arr (id:Nat) (l:List (List V)) (h:s.hget id=some (.arr el sz l)):IsArrX s el sz (.own id 0 l.length sz) l (some id)
 |nil:IsArrX s el sz (.v (.slice none 0 0)) [] none
inductive IsSrcX (s:St) (sz:Nat):V→List (List V)→Prop
 |box (id:Nat) (r:List V) (h:s.hget id=some (.box r)) (hr:r.length=sz):IsSrcX s sz (.own id 0 1 sz) [r]
 |src (y:V) (l:List (List V)) (h:IsSrc s sz y l):IsSrcX s sz y l
end Pm
open Go Go.RowKit Go.ChangeShapes Go.WideShapes Go.ChangeAt
namespace Pm
theorem f1z {C:Checked} {f:FuncId} {fn:Func} {s:ChangeSpec} {ts:List TypeId} {tb:TypeId} {α:Type} {g:α→List V} {p:α→Prop} {apart fresh handsOn again:Bool} {laid:List (String×DataW Unit)}
  (hglob:∀ W:World,W.ShapedOpen C.prog→laidMetH C.prog laid W→GlobOK W (fun _=>False))
  (hfn:C.prog.funcs[f]? = some fn) (hts:fn.params.toList=ts) (hres:fn.resultTypes=#[tb]) (htb:C.prog.underlying tb=some .bool) (hsv:s.vars=[])
  (own:ownKnob C.prog.godebug=none) (noInit:C.prog.inits.idxOf? f=none) (hl:laidOutB C.prog=true) (hread:∀ t ∈ ts,C.prog.readableRec t=true∧t < C.prog.types.size)
  (hsp:∀ (H:Type) (ds:List (DataW H)),ds.length=ts.length→(s.fn H ds).results=[.lit (.bool true)]∧(s.fn H ds).args=ds∧(s.fn H ds).vars=[])
  (hargs:RdA C.prog ts g p) (hlaw:∀ x,p x→a0l C.prog f (g x) (fun _=>.v (.bool true)))
  (os:Os) (started:os.Started) (H:Type) (enc:TypeId×Value→H)
  (witness:∃ (w:World) (tape:Tape) (i:Input),w.os=os∧(w.forCall tape i).Shaped C.prog∧i.vars=[]∧Input.okWide C.prog (w.forCall tape i) .any w.heap.size f i ∧
   ((s.pre enc C.prog fn [] apart (w.forCall tape i).memory i.args∧laidMetH C.prog laid (w.forCall tape i).memory)∧sizedMet enc C.prog fn (OpenSpec.ofChange s) apart (w.forCall tape i).memory i.args)∧({}:Assume).holds C.prog (lone (Frame.enter C.prog f i.args .normal) [] (w.forCall tape i))) :
  ReturnsInHanded {} C os f .any (fun w args=>(s.pre enc C.prog fn [] apart w args∧laidMetH C.prog laid w)∧sizedMet enc C.prog fn (OpenSpec.ofChange s) apart w args) (s.post enc C.prog fn apart fresh handsOn again):=by
 refine returnsInHanded_of_calls own started noInit witness ?_
 intro w tape i _ hshape _ hok hpre hholds
 obtain ⟨_,_,_,fn',hfn',_,_,_,_,hval⟩:=hok
 have e:fn'=fn:=Option.some.inj (hfn'.symm.trans hfn)
 subst e
 obtain ⟨⟨⟨ds,gs,before,hw,_⟩,hx⟩,hz⟩:=hpre
 have hW:=DataW.Whole.of_heap (w':=w.forCall tape i) (by rfl) hw
 have hsz:(DataW.weightsEach C.prog (fn'.params.toList++s.plain.varTypes C.prog) (ds++gs)).all (·≤reachBytes)=true:=hz.weights hw
 have hgl:=hglob _ hshape (hx.of_heap (by rfl))
 have main:Calls C.prog f i.args (w.forCall tape i) fun e W'=>∃ v,e=.returned v∧s.post enc C.prog fn' apart fresh handsOn again (w.forCall tape i) i.args v W':=by
  generalize (w.forCall tape i)=W at hW hgl hval
  generalize i.args=args at hW hval
  have hW':=hW
  obtain ⟨pp,q,hA,hV,rfl,hfz,_⟩:=hW
  rw [hsv] at hV
  have hV':gs=[]∧q=[]:=by
   cases gs with
   |nil=>exact ⟨rfl,hV⟩
   |cons=>exact hV.elim
  obtain ⟨rfl,rfl⟩:=hV'
  rw [hts] at hA
  have hlen:ds.length=ts.length:=by
   clear hfz hW' hV
   have:∀ {ts:List TypeId} {vs:List Value} {ds:List (DataW H)} {ps:List MemPlace},DataW.TrodAll enc C.prog W 0 (fun _=>true) true ts vs ds ps→ds.length=ts.length:=by
    intro ts
    induction ts with
    |nil=>intro vs ds ps h;obtain ⟨_,rfl,_⟩:=trodAll_nil h;rfl
    |cons t ts ih=>intro vs ds ps h;obtain ⟨_,_,_,_,_,_,_,rfl,_,_,g2⟩:=trodAll_cons h;simp [ih g2]
   exact this hA
  have hvt:s.plain.varTypes C.prog=[]:=by simp [ChangeSpec.plain,DataSpec.varTypes,hsv]
  rw [hvt,hts,List.append_nil,List.append_nil] at hsz
  obtain ⟨x,hp,hx⟩:=hargs H enc W w.heap.size args.toList ds pp (fun j t v h1 h2=>hval j t v (by rw [← hts] at h1;simpa using h1) (by simpa using h2)) hA (fun n hn=>by have:=List.all_eq_true.1 hsz n hn;have h2:=reachBytes_lt;simp at this;omega) (fun b off h=>hfz b off (by simp [h]))
  obtain ⟨_,hcall⟩:=hlaw x hp
  refine (hcall 0 W (fun _=>False) args (Nat.zero_le _) ⟨fun _ h=>h.elim,hgl⟩ ⟨by simpa using hx.1,fun j u y h1 h2=>hx.2 j u y h1 (by simpa using h2)⟩).mono fun e W' ⟨y,he,hr,hb⟩=>?_
  have hy:y=.bool true:=by cases hr;rfl
  subst hy
  obtain ⟨e1,e2,e3⟩:=hsp H ds hlen
  have hlt:∀ p ∈ pp,p.block < W.heap.size:=fun p hp=>hW'.lt p (by simp [hp])
  refine ⟨_,he,d3h (pa:=pp) (pv:=[]) hW' (fun b sp hd=>?_) (fun sp hsp'=>?_) (fun _ _=>?_) rfl hb ?_⟩
  ·rw [List.append_nil,e1,hres]
   exact trodAll_mk1 (shut_bool htb true)
  ·rw [List.append_nil,e2,hts]
   exact b2g hl hread hA (fun p hp=>hb.same (hlt p hp)) (fun p hp=>hsp' p (by simp [hp]))
  ·rw [List.append_nil,e3,hsv]
   exact rfl
  ·intro j t r h1 h2
   rw [hres] at h1 h2
   cases j with
   |zero =>
    simp at h1
    subst h1
    simp [Value.resultList] at h2
    subst h2
    exact okWide_bool_mk htb true
   |succ j=>simp at h1
 refine main.mono fun e W' ⟨v,he,hp⟩=>?_
 subst he
 exact ChangeSpec.post_blind hp
theorem b7q {P:Program} {W:World} {g:Nat} {n:String} {cs:Array Value} {z:Array Value} {t0:TypeId} {l:List V} (hs:W.ShapedOpen P) (hg:g < P.globals.size) (h0:(((begin P (fun _ _=>0) default).world.heap[g]?).bind Obj.row?)=some (z,t0))
  (hn:P.globalNamed n=some g) (hv:W.var? P n=some cs) (hl:l.length≤cs.size) (hr:∀ (j:Nat) (u:V) (y:Value),l[j]? = some u→cs[j]? = some y→R0 W (fun _=>False) u y) :
  R0 W (fun _=>False) (.fp l) (.pointer (some ⟨g,0,none⟩)):=by
 obtain ⟨xs,hx,_⟩:=hs.1 g z t0 hg h0
 have hc:∀ j,j < cs.size→W.cell? ⟨g,0+j,none⟩=some (cs.getD j undef):=fun j hj=>by
  have:=World.var?_cell hn hv j
  rw [Nat.zero_add,this]
  simp [hj]
 refine .fp l g 0 (fun j=>cs.getD j undef) (fun h=>h) (by have:=(List.getElem?_eq_some_iff.1 (show W.heap.toList[g]? = some (.cells xs t0) by simpa using hx)).1;simpa using this) (fun j u h=>a3t hx (hc j ?_)) (fun j u h=>?_)
 ·have:=(List.getElem?_eq_some_iff.1 h).1;omega
 ·have hj:j < cs.size:=by have:=(List.getElem?_eq_some_iff.1 h).1;omega
  exact hr j u _ h (by simp [hj])
end Pm
open Go Go.RowKit
namespace Pm
theorem e6x {P:Program} {G:Gh} {i:Nat} {c:Code} {r:List Code} {s:St} {Q:Exit→St→Prop} (h:SemL P G (a5k c) s (c7b i (d5d (fun s _=>SemL P G r s Q) Q))):SemL P G (.block i c::r) s Q:=by
 intro a w hs
 have:=(SemL.semC h) a w hs
 refine wpIn_block (wpIn_mono this ?_)
 rintro e a' w' ⟨s',hq,hs'⟩
 cases e with
 |normal=>exact hq a' w' hs'
 |exit j =>
  by_cases e:j=i
  ·subst e
   simp only [c7b,if_true,d5d] at hq
   simp only [Exit.inBlock,if_true,Exit.then]
   exact hq a' w' hs'
  ·simp only [c7b,if_neg e,d5d] at hq
   simp only [Exit.inBlock,if_neg e,Exit.then]
   exact ⟨s',hq,hs'⟩
 |_=>exact ⟨s',hq,hs'⟩
theorem b7c {P:Program} {G:Gh} {l l':List Code} {s:St} {Q:Exit→St→Prop} (e:l=l') (h:SemL P G l' s Q):SemL P G l s Q:=e ▸ h
theorem e5n {F:Fence} {P:Program} {Q M:Exit→Act→World→Prop} (hn:∀ e a w,e≠.normal→M e a w→Q e a w):∀ (n:Nat) (l:List Code) {a:Act} {w:World},wpL F P M (l.take n) a w →
  (∀ a w,M .normal a w→wpL F P Q (l.drop n) a w)→wpL F P Q l a w
 |0,l,a,w,h,hd=>hd a w h
 |n+1,[],a,w,h,hd=>hd a w h
 |n+1,c::r,a,w,h,hd=>by
  refine wpIn_mono h ?_
  intro e a' w' h'
  cases e with
  |normal=>exact e5n hn n r h' hd
  |_=>exact hn _ _ _ (by intro h;cases h) h'
theorem c3v {P:Program} {G:Gh} {l:List Code} {s:St} {Q:Exit→St→Prop} {α:Type} (n:Nat) (F:α→St) (I:α→Prop) (h1:SemL P G (l.take n) s (g0h G F I Q)) (h2:∀ x,I x→SemL P G (l.drop n) (F x) Q):SemL P G l s Q:=by
 intro a w hs
 refine e5n (M:=b7z G (g0h G F I Q)) ?_ n l (h1 a w hs) ?_
 ·rintro e a w hne ⟨s',hq,hs'⟩
  cases e with
  |normal=>exact absurd rfl hne
  |_=>exact ⟨s',hq,hs'⟩
 ·rintro a w ⟨s',⟨x,hI,he⟩,hs'⟩
  exact h2 x hI a w (he _ _ hs')
end Pm
open Go Go.RowKit
namespace Pm
inductive NewV (n:Nat):V→Prop
 |any:NewV n .any
 |v (x:Value):NewV n (.v x)
 |lst (lo sz:Nat) (l:List (List V)) (h:l=[]∨n≤lo) (hr:∀ r ∈ l,∀ u ∈ r,NewV n u):NewV n (.lst lo sz l)
 |agg (cs:List V) (hr:∀ u ∈ cs,NewV n u):NewV n (.agg cs)
 |tup (cs:List V) (hr:∀ u ∈ cs,NewV n u):NewV n (.tup cs)
 |fn (f:Fn) (cs:List V) (hr:∀ u ∈ cs,NewV n u):NewV n (.fn f cs)
theorem NewV.R0 {n:Nat} {x:V} {y:Value} {w:World} {O O':Nat→Prop} (hx:NewV n x) (hO:∀ b,n≤b→O b→O' b) (h:R0 w O' x y):R0 w O x y:=by
 induction h with
 |any y=>exact .any y
 |v x=>exact .v x
 |lst lo sz l a k cap b o g hlo hn hc hl ha hs hz hr ih =>
  cases hx with
  |lst _ _ _ h1 h2 =>
   refine .lst lo sz l a k cap b o g hlo hn hc hl (fun hne=>?_) hs hz fun i x j u e1 e2=>ih i x j u e1 e2 (h2 x (List.mem_of_getElem? e1) u (List.mem_of_getElem? e2))
   obtain ⟨q1,q2,q3⟩:=ha hne
   refine ⟨q1,fun hb=>q2 (hO b ?_ hb),q3⟩
   have:=hlo hne
   rcases h1 with h1|h1
   ·exact absurd h1 hne
   ·omega
 |fp cs b o g h1 hb hs hr ih=>cases hx
 |agg cs ys hn hr ih =>
  cases hx with
  |agg _ h2=>exact .agg cs ys hn fun j u y e1 e2=>ih j u y e1 e2 (h2 u (List.mem_of_getElem? e1))
 |tup cs ys hn hr ih =>
  cases hx with
  |tup _ h2=>exact .tup cs ys hn fun j u y e1 e2=>ih j u y e1 e2 (h2 u (List.mem_of_getElem? e1))
 |fn f cap ys hn hr ih =>
  cases hx with
  |fn _ _ h2=>exact .fn f cap ys hn fun j u y e1 e2=>ih j u y e1 e2 (h2 u (List.mem_of_getElem? e1))
structure NewR (r:Nat→V):Prop where
 new:∀ n,NewV n (r n)
 mono:∀ n n',n'≤n→Sub (r n) (r n')
theorem e5e {P:Program} {G:Gh} {o:Oper} {s:St} {Q:Exit→St→Prop} {rest:St→Prop} {k:FuncId} {cap as as':List V} {r:Nat→V} (p:Nat→Bool) (hp:a0l P k as' r) (hr:NewR r)
  (hs:Subs ((as++cap).map (vwF p G.lo s 4)) as') (hpure:b0t ((as++cap).map (vwF p G.lo s 4))=true)
  (hc:chk G.n o.dst) (h:rest (a3z s o.dst (r G.lo))):a3k P G o s Q rest (.fn (.func k) cap) as:=by
 rintro x l ts ho hx rfl a w ⟨E,hE⟩
 obtain ⟨ys,hy,hsz,hry⟩:=R.fn_inv (a1t hE hx.symm)
 obtain ⟨hlen,hsub⟩:=hs.spec
 obtain ⟨O',hO'⟩:∃ O':Nat→Prop,O'=fun b=>OT G s E b∧¬ ∃ id ob x,p id=true∧s.hp id=some ob∧E id=some (some b,x):=⟨_,rfl⟩
 have hsubO:∀ b,O' b→OT G s E b:=fun b hb=>by rw [hO'] at hb;exact hb.1
 have hO1:∀ b,¬ OT G s E b→b < w.heap.size→¬ O' b:=fun b hb _ h=>hb (hsubO b h)
 have hp1:∀ id ob b x,p id=true→s.hp id=some ob→E id=some (some b,x)→¬ O' b:=fun id ob b x h1 h2 h3 h=>by
  rw [hO'] at h;exact h.2 ⟨id,ob,x,h1,h2,h3⟩
 have hok:=f8f hE
 have hokO:OKO w O':=⟨fun b hb=>hok.lt b (hsubO b hb),hok.gl.weak hsubO⟩
 refine b7r ho hp.1 hy (hp.2 w.heap.size w O' _ (Nat.le_refl _) hokO ⟨?_,fun j u y h1 h2=>?_⟩) ?_
 ·simp at hlen ⊢;omega
 ·obtain ⟨u0,h3,h4⟩:=hsub j u h1
  refine h4 _ _ _ ?_
  have hp0:=a7x hpure j u0 h3
  rw [List.getElem?_map] at h3
  by_cases hj:j < l.length
  ·rw [List.getElem?_append_left (by simpa using hj)] at h3
   rw [Array.getElem?_append_left (by simpa using hj)] at h2
   simp only [List.getElem?_map,Option.map_eq_some_iff] at h3
   obtain ⟨z0,⟨z,hz,rfl⟩,rfl⟩:=h3
   simp [hz] at h2
   subst h2
   exact (c8x hE hO1 hp1 4 (b6t hE z)).pureV hp0
  ·rw [List.getElem?_append_right (by simpa using hj)] at h3
   rw [Array.getElem?_append_right (by simpa using hj)] at h2
   simp at h3 h2
   obtain ⟨z0,hz0,rfl⟩:=h3
   exact (c8x hE hO1 hp1 4 (hry _ _ _ hz0 h2)).pureV hp0
 ·rintro e w' ⟨y,rfl,hyy,hb⟩
  refine ⟨y,rfl,_,h,E,(hE.below hb).put (a2s hc) (.r0 _ _ ?_)⟩
  refine hr.mono _ _ (Nat.le_trans G.hlo hE.grow) _ _ _ ((hr.new _).R0 (O:=OT G s E) (fun b hbn hbO=>?_) hyy)
  exact absurd (hok.lt b hbO) (by omega)
theorem g2a (x:Value):NewR (fun _=>.v x):=⟨fun _=>.v x,fun _ _ _=>Sub.refl _⟩
end Pm
open Go Go.RowKit
namespace Pm
def f9r (fl:List (Nat×V)) (s:St):St:=⟨lkV fl,s.hp,s.us⟩
theorem e8s (fl:List (Nat×V)) (s:St) (j:Nat):(f9r fl s).get j=lkV fl j:=rfl
theorem e4k (fl:List (Nat×V)) (s:St) (j:Nat):(f9r fl s).hget j=s.hget j:=rfl
theorem d7k (fl:List (Nat×V)) (s:St) (j:Nat):(f9r fl s).used j=s.used j:=rfl
attribute [go_sem] e8s e4k d7k
def g8g (P:Program) (G:Gh) (lam:Nat) (L:Loop) (body:Code) (Q:Exit→St→Prop):Exit→St→Prop
 |.normal,s=>s.hget lam=some (.obj (.loop (Lp L none)))∧SemC P G body (s.hset lam (some (.obj (.loop (Lb L))))) Q
 |_,_=>False
theorem g2l (P:Program) (G:Gh) (lam:Nat) (L:Loop) (body:Code) (Q:Exit→St→Prop) (s:St):g8g P G lam L body Q .normal s=(s.hget lam=some (.obj (.loop (Lp L none)))∧SemC P G body (s.hset lam (some (.obj (.loop (Lb L))))) Q):=rfl
attribute [go_sem] g2l
def c4z (P:Program) (G1:Gh) (l lam:Nat) (L:Loop) (fl:List (Nat×V)) (ps:List Nat) (asg body:Code) (n:Nat) (ow:Nat→Bool):Prop :=
 ∀ (nm2:List Nat) (s:St) (o:Oper) (Q:Exit→St→Prop) (rest:St→Prop) (as:List V),s.hget lam=some (.obj (.loop (Lp L none)))→as.length=ps.length→chk G1.n o.dst→(∀ id ∈ G1.nm,id ∈ nm2) →
  (∀ id ∈ nm2,id ∈ G1.nm∨(s.hget id).isSome=true) →
  (∀ G2:Gh,G2.n=n→G2.ow=ow→G2.nm=nm2→G2.lo=G1.lo→G2.rd=some l→vc P G2 asg (f9r (c2t ps as++fl) s) (g8g P G2 lam L body (RQ nm2 s o.dst lam L rest))) →
  a3k P G1 o s Q rest (.v (.func (.yield l) #[] #[])) as
theorem b4u {P:Program} {G1:Gh} {l lam:Nat} {L:Loop} {fl:List (Nat×V)} {ps:List Nat} {asg body:Code} {n:Nat} {ow:Nat→Bool} (hrd:G1.rd=none)
  (hL:L.state=.ready∧L.pending=none∧L.params=ps.toArray∧L.assign=asg∧L.body=body∧L.tmps.size=n) (hps:ps.Nodup∧∀ p ∈ ps,p < n)
  (hlam:lam ∈ G1.nm∧G1.E0 lam=some (some l,0,0)) {O1:Nat→Prop} (hO1:∀ b,¬ O1 b→¬ G1.Of b∧¬ G1.M b)
  (hfl:∀ i,a6u G1.nm 4 (lkV fl i)=true∧R G1.w0 O1 G1.E0 (lkV fl i) (L.tmps.getD i undef)):c4z P G1 l lam L fl ps asg body n ow:=by
 intro nm2 s o Q rest as hs has hc hnm hnm2 h x ops ts ho hx hops
 subst hops
 rintro a w ⟨E,hE⟩
 obtain ⟨hl1,hl2⟩:=hlam
 have hLp:Lp L none=L:=rfl
 rw [hLp] at hs
 obtain ⟨hEl,hheap,hlt⟩:=hE.name_lt (b:=l) hs fun b' z hz=>by
  obtain ⟨r,g1,g2⟩:=hE.base lam hl1
  rw [hl2] at g1;cases g1;rw [g2] at hz;cases hz;rfl
 have hyv:=R.v_inv (a1t hE hx.symm)
 have hlen:ops.length=L.params.size:=by rw [hL.2.2.1];simpa using has
 have hrun:=b2s (P:=P) ho hyv hheap hlen G1.F.round
 unfold Oper.wpIn
 refine ⟨fun f _=>G1.fn f,?_⟩
 rw [hrun,Oper.uponIn_round]
 refine ⟨G1.depth,?_⟩
 have hF:G1.F.inRound l={ Fence.wide with round:=some l }:=by unfold Gh.F Fence.inRound;rfl
 rw [hL.2.2.2.1,hL.2.2.2.2.1]
 -- the round's ghost
 have hlive_l:a5v s E l:=⟨lam,_,0,0,hs,hEl⟩
 have hnOf:¬ G1.Of l:=(hE.fresh lam _ l _ hs hEl).2.1
 have hMl:∀ b,a5v s E b→G1.lo≤b:=fun b hb=>by
  obtain ⟨id,ob,K,C,g1,g2⟩:=hb
  exact hE.lo_le g1 g2
 have hlo1:G1.lo≤w.heap.size:=Nat.le_trans G1.hlo hE.grow
 let G2:Gh:={ w0:=w,Of:=G1.Of,n:=n,M:=a5v s E,ow:=ow,lo:=G1.lo,hlo:=hlo1,hM:=hMl,hgl:=hE.glob,nm:=nm2,E0:=E,rd:=some l,Zi:=G1.Zi,hZi:=G1.hZi }
 have hbase:∀ id,id ∈ nm2→∃ r,E id=some r:=fun id hid=>by
  rcases hnm2 id hid with g|g
  ·obtain ⟨r,_,g2⟩:=hE.base id g;exact ⟨r,g2⟩
  ·obtain ⟨ob,hob⟩:=Option.isSome_iff_exists.1 g
   obtain ⟨b,K,C,g1,_⟩:=hE.hp id ob hob
   exact ⟨_,g1⟩
 -- the loop's frame,as it is now
 have hframe:∀ i,R w (OT G1 s E) E (lkV fl i) (L.tmps.getD i undef):=fun i=>by
  obtain ⟨g1,g2⟩:=hfl i
  refine g2.nms hE.grow (fun b hb hlt hot=>?_) (fun b hb hlt hc=>hE.keep b hlt (hO1 b hb).2) (fun id hid r hr=>?_) 4 g1
  ·obtain ⟨q1,q2⟩:=hO1 b hb
   rcases hot with hot|⟨id,ob,K,C,k1,k2⟩
   ·exact q1 hot
   ·rcases (hE.fresh id ob b _ k1 k2).1 with k3|k3
    ·omega
    ·exact q2 k3
  ·obtain ⟨r',k1,k2⟩:=hE.base id hid
   rw [hr] at k1;cases k1;exact k2
 have hargsR:∀ (j:Nat) (u:V) (y:Value),(ops.map (ev s))[j]? = some u→(ops.map a.eval)[j]? = some y→R w (OT G1 s E) E u y:=fun j u y g1 g2=>by
  simp only [List.getElem?_map,Option.map_eq_some_iff] at g1 g2
  obtain ⟨z,h3,rfl⟩:=g1
  obtain ⟨z',h4,rfl⟩:=g2
  rw [h3] at h4;cases h4
  exact b6t hE z
 obtain ⟨z1,z2⟩:=d1x L.tmps ps (ops.map a.eval) (by simpa using has) (fun p hp=>by rw [hL.2.2.2.2.2];exact hps.2 p hp)
 have z2:=z2 (ops.map (ev s)) (R w (OT G1 s E) E) (lkV fl) has hps.1 hargsR hframe fl (fun _=>rfl)
 have hfold:(L.params.zip (ops.map a.eval).toArray).foldl (fun tmps (x:Nat×Value)=>tmps.setIfInBounds x.1 x.2) L.tmps=(ps.zip (ops.map a.eval)).foldl (fun tmps (x:Nat×Value)=>tmps.setIfInBounds x.1 x.2) L.tmps:=by
  rw [hL.2.2.1];simp [List.zip_toArray]
 have hO2:∀ b,¬ OT G1 s E b→¬ OT G2 (f9r (c2t ps (ops.map (ev s))++fl) s) E b:=fun b hb hb'=>hb hb'
 have hE2:SimE G2 (f9r (c2t ps (ops.map (ev s))++fl) s) { tmps:=(L.params.zip (ops.map a.eval).toArray).foldl (fun tmps (x:Nat×Value)=>tmps.setIfInBounds x.1 x.2) L.tmps,defers:=[] } w E:=by
  refine ⟨fun i=>?_,DefOK.nil,by rw [hfold,z1];exact hL.2.2.2.2.2,hE.hp,hE.us,hE.inj,fun id ob b y k1 k2=>?_,hE.old,Nat.le_refl _,rfl,rfl,rfl,fun _ _ _=>rfl,fun id hid=>?_,hE.zi⟩
  ·rw [hfold]
   exact z2 i
  ·obtain ⟨yK,yC⟩:=y
   obtain ⟨q1,q2,q3⟩:=hE.fresh id ob b _ k1 k2
   exact ⟨.inr ⟨id,ob,yK,yC,k1,k2⟩,q2,q3⟩
  ·obtain ⟨r,hr⟩:=hbase id hid
   exact ⟨r,hr,hr⟩
 have hF2:G2.F=G1.F.inRound l:=by rw [hF];rfl
 have hasg:=a0d asg _ _ (h G2 rfl rfl rfl rfl rfl) _ _ ⟨E,hE2⟩
 rw [hF2] at hasg
 refine roundIn_of_wpIn (G1.fn _) (wpIn_mono hasg ?_)
 rintro e a1 w1 ⟨s1,hq1,E1,hE1⟩
 cases e with
 |goto=>exact hq1.elim
 |panic=>exact hq1.elim
 |outgrown=>exact hq1.elim
 |ret=>exact hq1.elim
 |exit=>exact hq1.elim
 |normal =>
 obtain ⟨hl1',hbody'⟩:=hq1
 have hE1l:E1 lam=some (some l,0,0):=by
  obtain ⟨r,k1,k2⟩:=hE1.base lam (hnm lam hl1)
  have:E lam=some r:=k1
  rw [hEl] at this;cases this;exact k2
 obtain ⟨_,hheap1,hlt1⟩:=hE1.name_lt (b:=l) (id:=lam) hl1' fun b' z hz=>by rw [hE1l] at hz;cases hz;rfl
 rw [hLp] at hheap1 hl1'
 refine ⟨_,run_beginRound hheap1 hL.1,?_⟩
 have hEb:SimE G2 (s1.hset lam (some (.obj (.loop (Lb L))))) a1 (w1.putObj l (.loop { L with state:=.busy })) E1 :=
  hE1.write hl1' hE1l rfl rfl rfl World.putObj_size (fun k hk=>World.putObj_heap_other hk) fun O1' _=>⟨l,rfl,World.putObj_heap_same hlt1,rfl,rfl⟩
 have hbody:=hbody' _ _ ⟨E1,hEb⟩
 rw [hF2] at hbody
 refine wpIn_mono hbody ?_
 rintro e a2 w3 ⟨s2,hq,E3,hE3⟩
 -- behind the round
 have hE3l:E3 lam=some (some l,0,0):=by
  obtain ⟨r,k1,k2⟩:=hE3.base lam (hnm lam hl1)
  have:E lam=some r:=k1
  rw [hEl] at this;cases this;exact k2
 have hE3e:∀ id,id ∈ nm2→∀ r,E id=some r→E3 id=some r:=fun id hid r hr=>by
  obtain ⟨r',k1,k2⟩:=hE3.base id hid
  have:E id=some r':=k1
  rw [hr] at this;cases this;exact k2
 have fin:∀ (jump:Option Code) (L':Loop),L'={ Lb L with state:=if jump.isNone then .ready else .done,pending:=jump }→s2.hget lam=some (.obj (.loop (Lb L)))→rest (bck nm2 s s2 o.dst jump.isNone lam L') →
   ∃ v w',(Instr.endRound l jump).run P w3=.ok v w'∧∃ s',rest s'∧Sim G1 s' (a.put o.dst v) w':=by
  intro jump L' hL' hlb hrest
  obtain ⟨_,hh3,hlt3⟩:=hE3.name_lt (b:=l) (id:=lam) hlb fun b' z hz=>by rw [hE3l] at hz;cases hz;rfl
  refine ⟨_,_,run_endRound jump hh3,_,hrest,E3,?_⟩
  have hw4:∀ k,k≠l→(w3.putObj l (.loop { Lb L with state:=if jump.isNone then .ready else .done,pending:=jump })).heap[k]? = w3.heap[k]?:=fun k hk=>World.putObj_heap_other hk
  have hsz4:(w3.putObj l (.loop { Lb L with state:=if jump.isNone then .ready else .done,pending:=jump })).heap.size=w3.heap.size:=World.putObj_size
  rw [← hL'] at hw4 hsz4 ⊢
  have hnl3:∀ b,a4g w3 b→b≠l:=by rintro b ⟨cs,t,f,hb⟩ rfl;rw [hh3] at hb;cases hb
  have hgrow3:w.heap.size≤w3.heap.size:=by have:=hE3.grow;rw [show G2.w0.heap.size=w.heap.size from rfl] at this;exact this
  -- a5v blocks behind the round
  have hlv:∀ b,a5v (bck nm2 s s2 o.dst jump.isNone lam L') E3 b→a5v s2 E3 b:=by
   rintro b ⟨id,ob,K,C,g1,g2⟩
   by_cases e:lam=id
   ·subst e;exact ⟨lam,_,K,C,hlb,g2⟩
   ·refine ⟨id,ob,K,C,?_,g2⟩
    have:(bck nm2 s s2 o.dst jump.isNone lam L').hget id=some ob:=g1
    rw [a8l,if_neg e] at this;exact this
  have hfr3:∀ b,a5v s2 E3 b→(w.heap.size≤b∨a5v s E b)∧¬ G1.Of b∧b < w3.heap.size:=by
   rintro b ⟨id,ob,K,C,g1,g2⟩
   obtain ⟨q1,q2,q3⟩:=hE3.fresh id ob b _ g1 g2
   rw [show G2.w0.heap.size=w.heap.size from rfl] at q1
   exact ⟨q1,q2,q3⟩
  have hO4:∀ b,¬ OT G1 s E b→b < w.heap.size→¬ OT G1 (bck nm2 s s2 o.dst jump.isNone lam L') E3 b:=by
   rintro b hb hlt' (g|g)
   ·exact hb (.inl g)
   ·rcases (hfr3 b (hlv b g)).1 with g|g
    ·omega
    ·exact hb (.inr g)
  have hO5:∀ b,¬ OT G2 s2 E3 b→¬ OT G1 (bck nm2 s s2 o.dst jump.isNone lam L') E3 b:=by
   rintro b hb (g|g)
   ·exact hb (.inl g)
   ·exact hb (.inr (hlv b g))
  have hkeep:∀ b,b < w.heap.size→¬ a5v s E b→(w3.putObj l (.loop L')).heap[b]? = w.heap[b]?:=fun b hlt' hnl'=>by
   have e1:b≠l:=fun e=>hnl' (e ▸ hlive_l)
   rw [hw4 b e1]
   exact hE3.keep b hlt' hnl'
  refine ⟨fun i=>?_,?_,?_,fun id ob hob=>?_,fun id hid=>?_,fun id id' ob ob' b y y' k1 k2 k3 k4=>?_,fun id ob b y k1 k2=>?_,fun b hb=>by rw [hsz4];exact hE3.old b hb,?_,?_,?_,?_,fun b k1 k2=>?_,fun id hid=>?_,?_⟩
  ·have hbase:∀ i,R (w3.putObj l (.loop L')) (OT G1 (bck nm2 s s2 o.dst jump.isNone lam L') E3) E3 (keepV nm2 (s.fr i)) (a.tmps.getD i undef):=fun i=>by
    refine (hE.fr i).keepV (by rw [hsz4];exact hgrow3) hO4 (fun b hb hlt' hc=>?_) hE3e
    exact hkeep b hlt' fun h=>hb (.inr h)
   cases hd:o.dst with
   |none=>rw [hd] at hbase;exact hbase i
   |some d =>
    rw [hd] at hc
    rw [b5c a d i _ (by rw [hE.size];exact hc)]
    show R _ _ _ (if d=i then _ else _) _
    rw [hd] at hbase
    split
    ·exact .r0 _ _ (.v _)
    ·exact hbase i
  ·have:(a.put o.dst (.bool jump.isNone)).defers=a.defers:=by cases o.dst<;>rfl
   rw [this]
   refine hE.defers.mono rfl fun b hb hlt' _=>⟨hkeep b hlt' hb,fun h=>?_⟩
   rcases (hfr3 b (hlv b h)).1 with g|g
   ·omega
   ·exact hb g
  ·have:(a.put o.dst (.bool jump.isNone)).tmps.size=a.tmps.size:=by cases o.dst<;>simp [Act.put]
   rw [this];exact hE.size
  ·have hob':(bck nm2 s s2 o.dst jump.isNone lam L').hget id=some ob:=hob
   rw [a8l] at hob'
   by_cases e:lam=id
   ·subst e
    rw [if_pos rfl] at hob'
    cases hob'
    exact ⟨_,_,_,hE3l,l,rfl,World.putObj_heap_same hlt3,rfl,rfl⟩
   ·rw [if_neg e] at hob'
    obtain ⟨b,K,C,k1,k2⟩:=hE3.hp id ob hob'
    refine ⟨b,K,C,k1,k2.monoC (by rw [hsz4];exact Nat.le_refl _) (fun b hb _=>hO5 b hb) (fun b _ _ hc=>hw4 b (hnl3 b hc)) (fun _ _ h=>h) fun b' hb'=>hw4 b' fun e'=>?_⟩
    subst hb';subst e'
    exact e (hE3.inj lam id _ _ _ _ _ hlb hob' hE3l k1)
  ·have:(bck nm2 s s2 o.dst jump.isNone lam L').used id=s2.used id:=c1p _ _ _ _ _ _ _ _
   exact this.trans (hE3.us id hid)
  ·have g:∀ id ob,(bck nm2 s s2 o.dst jump.isNone lam L').hp id=some ob→∃ ob',s2.hp id=some ob':=fun id ob hob=>by
    have hob':(bck nm2 s s2 o.dst jump.isNone lam L').hget id=some ob:=hob
    rw [a8l] at hob'
    by_cases e:lam=id
    ·subst e;exact ⟨_,hlb⟩
    ·rw [if_neg e] at hob';exact ⟨ob,hob'⟩
   obtain ⟨_,g1⟩:=g id ob k1
   obtain ⟨_,g2⟩:=g id' ob' k2
   exact hE3.inj id id' _ _ b y y' g1 g2 k3 k4
  ·obtain ⟨yK,yC⟩:=y
   obtain ⟨q1,q2,q3⟩:=hfr3 b (hlv b ⟨id,ob,yK,yC,k1,k2⟩)
   refine ⟨?_,q2,by rw [hsz4];exact q3⟩
   rcases q1 with q1|⟨id',ob',K,C,g1,g2⟩
   ·exact .inl (Nat.le_trans hE.grow q1)
   ·exact (hE.fresh id' ob' b _ g1 g2).1
  ·rw [hsz4];exact Nat.le_trans hE.grow hgrow3
  ·exact (hE3.os.trans rfl).trans hE.os
  ·exact (hE3.tape.trans rfl).trans hE.tape
  ·exact (hE3.output.trans rfl).trans hE.output
  ·rw [hkeep b (Nat.lt_of_lt_of_le k1 hE.grow) fun hl=>?_]
   ·exact hE.keep b k1 k2
   ·obtain ⟨id,ob,K,C,g1,g2⟩:=hl
    rcases (hE.fresh id ob b _ g1 g2).1 with q|q
    ·omega
    ·exact k2 q
  ·obtain ⟨r,g1,g2⟩:=hE.base id hid
   exact ⟨r,g1,hE3e id (hnm id hid) r g2⟩
  ·refine G1.hZi w3 _ (by rw [hsz4];exact Nat.le_refl _) (fun b hb=>hw4 b fun e=>hnOf (e ▸ hb)) hE3.zi
 cases e with
 |normal=>exact fin none (Lp L none) (by obtain ⟨h1,h2,_⟩:=hL;cases L;simp_all [Lp,Lb]) hq.1 hq.2
 |ret=>exact fin (some .ret) (Lp L (some .ret)) (by simp [Lp,Lb]) hq.1 hq.2
 |exit id=>exact fin (some (.exit id)) (Lp L (some (.exit id))) (by simp [Lp,Lb]) hq.1 hq.2
 |goto=>exact hq.elim
 |panic=>exact hq.elim
 |outgrown=>exact hq.elim
structure YJ (P:Program) (G:Gh) (l lam:Nat) (L:Loop) (fl:List (Nat×V)) (ps:List Nat) (asg body:Code) (n:Nat):Prop where
 rd:G.rd=none
 hL:L.state=.ready∧L.pending=none∧L.params=ps.toArray∧L.assign=asg∧L.body=body∧L.tmps.size=n
 hps:ps.Nodup∧∀ p ∈ ps,p < n
 lam:lam ∈ G.nm∧G.E0 lam=some (some l,0,0)
 fr:∃ O1:Nat→Prop,(∀ b,¬ O1 b→¬ G.Of b∧¬ G.M b)∧∀ i,a6u G.nm 4 (lkV fl i)=true∧R G.w0 O1 G.E0 (lkV fl i) (L.tmps.getD i undef)
theorem YJ.law {P:Program} {G:Gh} {l lam:Nat} {L:Loop} {fl:List (Nat×V)} {ps:List Nat} {asg body:Code} {n:Nat} (h:YJ P G l lam L fl ps asg body n) (ow:Nat→Bool):c4z P G l lam L fl ps asg body n ow:=by
 obtain ⟨O1,h1,h2⟩:=h.fr
 exact b4u h.rd h.hL h.hps h.lam h1 h2
theorem a6r {P:Program} {G:Gh} {g:Operand} {ps:List Nat} {asg body:Code} {fl:List (Nat×V)} {hl:List (Nat×OB)} {Q:Exit→St→Prop} (nm:List Nat) (lam:Nat) {k:FuncId} {cap:List V} {fn:Func} {ck:Code} {m:Nat} (ow:Nat→Bool)
  (hrd:G.rd=none) (hg:ev (St.of fl hl) g=.fn (.func k) cap) (hf:P.funcs[k]? = some fn) (hm:fn.ntmps=m) (hb:fn.body=some ck) (hname:(fn.name == "runtime.NumGoroutine")=false) (hres:fn.results=#[]) (hn:cap.length+1≤m)
  (hps:ps.Nodup∧∀ p ∈ ps,p < G.n) (hnm:nm.all (usH hl)=true) (hGn:∀ id ∈ G.nm,id ∈ nm) (hfl:fl.all (fun p=>a6u nm 4 p.2)=true) (hlam:usH hl lam=false)
  (h:∀ (G1:Gh) (l:Nat) (L:Loop),G1.n=m→G1.ow=ow→G1.nm=lam::nm→G1.lo=G.lo→G1.rd=none→YJ P G1 l lam L fl ps asg body G.n →
   vc P G1 ck (St.of (a3n 0 (.v (.func (.yield l) #[] #[])::cap)) ((lam,.obj (.loop (Lp L none)))::hl)) (b2f fl lam L Q)) :
  SemC P G (.rangeFunc g ps.toArray asg body) (St.of fl hl) Q:=by
 subst hm
 rintro a w ⟨E,hE⟩
 have hF:G.F=Fence.wide:=by unfold Gh.F;rw [hrd];cases G.nomk<;>rfl
 rw [hF]
 refine wpIn_rangeFunc fun fid _=>?_
 obtain ⟨ys,hy,hsz,hrr⟩:=R.fn_inv (a1t hE hg)
 let L:Loop:={ state:=.ready,pending:=none,fn:=fid,tmps:=a.tmps,params:=ps.toArray,assign:=asg,body:=body,defers:=w.heap.size }
 let w1:World:=(w.alloc (.deferred (some []))).alloc (.loop L)
 have hb':fn.body≠none:=by rw [hb];simp
 have hname':fn.name≠"runtime.NumGoroutine":=by simpa using hname
 refine ⟨w.heap.size+1,[mark w.heap.size],w1,{ target:=.fn (.func k) ys,args:=#[.func (.yield (w.heap.size+1)) #[] #[]] },w1,k,#[.func (.yield (w.heap.size+1)) #[] #[]]++ys,w1,run_enterLoop_outer fid a.tmps ps.toArray asg body,?_,fun _ _=>trivial,?_,(fun h=>by cases h),?_⟩
 ·simp [resolve,rangeCall,Deferred.ofValue,hy]
  rfl
 ·simp [invoke,callFunc,hf,hb',hname']
 -- the world with the record
 have s1:w1.heap.size=w.heap.size+2:=by simp [w1]
 have hl1:w1.heap[w.heap.size+1]? = some (.loop L):=by
  have:=World.alloc_heap_new (w.alloc (.deferred (some []))) (.loop L)
  simpa [w1] using this
 have hd1:w1.heap[w.heap.size]? = some (.deferred (some [])):=by
  have e:w1.heap[w.heap.size]? = (w.alloc (.deferred (some []))).heap[w.heap.size]?:=a5w _ _ _ (by simp)
  rw [e];exact World.alloc_heap_new _ _
 have hold:∀ b,b < w.heap.size→w1.heap[b]? = w.heap[b]?:=fun b hb=>(a5w _ _ b (by simp;omega)).trans (a5w _ _ b hb)
 have hElam:E lam=none:=by
  cases he:E lam with
  |none=>rfl
  |some r=>have:=hE.us lam (by rw [he];simp);rw [show (St.of fl hl).us lam=usH hl lam from rfl,hlam] at this;cases this
 let E1:Env:=fun id=>if id=lam then some (some (w.heap.size+1),0,0) else E id
 have hE1l:E1 lam=some (some (w.heap.size+1),0,0):=if_pos rfl
 have hE1e:∀ id r,E id=some r→E1 id=some r:=fun id r hi=>by
  show (if id=lam then _ else E id)=_
  rw [if_neg (by rintro rfl;rw [hElam] at hi;cases hi)]
  exact hi
 have hE1b:∀ id r,id≠lam→E1 id=some r→E id=some r:=fun id r hne hi=>by
  have:(if id=lam then some (some (w.heap.size+1),0,0) else E id)=some r:=hi
  rw [if_neg hne] at this;exact this
 have hliveLo:∀ b,a5v (St.of fl hl) E b∨b=w.heap.size+1→G.lo≤b:=by
  rintro b (⟨id,ob,K,C,g1,g2⟩|rfl)
  ·exact hE.lo_le g1 g2
  ·have:=hE.grow;have:=G.hlo;omega
 have hlo1:G.lo≤w1.heap.size:=by have:=hE.grow;have:=G.hlo;omega
 have hglb:GlobOK w1 (fun b=>G.Of b∨a5v (St.of fl hl) E b∨b=w.heap.size+1):=hE.glob.monoC (by omega) (fun b hb hlt hb'=>by
  rcases hb' with g|g|g
  ·exact hb (.inl g)
  ·exact hb (.inr g)
  ·omega) (fun b _ hlt _=>hold b hlt)
 let G1:Gh:={ w0:=w1,Of:=G.Of,n:=fn.ntmps,M:=fun b=>a5v (St.of fl hl) E b∨b=w.heap.size+1,ow:=ow,lo:=G.lo,hlo:=hlo1,hM:=hliveLo,hgl:=hglb,nm:=lam::nm,E0:=E1,rd:=none,Zi:=G.Zi,hZi:=G.hZi }
 let s1':St:=St.of (a3n 0 (.v (.func (.yield (w.heap.size+1)) #[] #[])::cap)) ((lam,.obj (.loop (Lp L none)))::hl)
 have hhp:∀ id ob,s1'.hp id=some ob→(id=lam∧ob=.obj (.loop L))∨(id≠lam∧lkH hl id=some ob):=fun id ob hob=>by
  have hob':(if lam=id then some (OB.obj (.loop (Lp L none))) else lkH hl id)=some ob:=hob
  by_cases e:lam=id
  ·rw [if_pos e] at hob';cases hob';exact .inl ⟨e.symm,rfl⟩
  ·rw [if_neg e] at hob';exact .inr ⟨Ne.symm e,hob'⟩
 have hlv1:∀ b,a5v s1' E1 b→a5v (St.of fl hl) E b∨b=w.heap.size+1:=by
  rintro b ⟨id,ob,K,C,g1,g2⟩
  rcases hhp id ob g1 with ⟨rfl,rfl⟩|⟨hne,h2⟩
  ·rw [hE1l] at g2;cases g2;exact .inr rfl
  ·exact .inl ⟨id,ob,K,C,h2,hE1b id _ hne g2⟩
 have hO1:∀ b,¬ OT G (St.of fl hl) E b→b < w.heap.size→¬ OT G1 s1' E1 b:=by
  rintro b hb hlt (g|g)
  ·exact hb (.inl g)
  ·rcases hlv1 b g with g|g
   ·exact hb (.inr g)
   ·omega
 have hltOf:∀ b,G.Of b→b < w.heap.size:=hE.old
 have hnmhl:∀ id ∈ nm,∃ ob,lkH hl id=some ob:=fun id hid=>usH_lk.1 (List.all_eq_true.1 hnm id hid)
 have hsza:(#[Value.func (.yield (w.heap.size+1)) #[] #[]]++ys).size=cap.length+1:=by simp [hsz];omega
 have hE1s:SimE G1 s1' { tmps:=#[Value.func (.yield (w.heap.size+1)) #[] #[]]++ys++Array.replicate (fn.ntmps - (#[Value.func (.yield (w.heap.size+1)) #[] #[]]++ys).size) undef,defers:=[] } w1 E1:=by
  refine ⟨fun i=>?_,DefOK.nil,by rw [Array.size_append,Array.size_replicate,hsza];show _=fn.ntmps;omega,fun id ob hob=>?_,fun id hid=>?_,fun id id' ob ob' b y y' k1 k2 k3 k4=>?_,fun id ob b y k1 k2=>?_,fun b hb=>by rw [s1];have:=hltOf b hb;omega,Nat.le_refl _,rfl,rfl,rfl,fun _ _ _=>rfl,fun id hid=>?_,?_⟩
  ·show R _ _ _ (lkV (a3n 0 (.v (.func (.yield (w.heap.size+1)) #[] #[])::cap)) i) _
   rw [b1t,b2k]
   simp only [Nat.zero_le,if_true,Nat.sub_zero]
   cases i with
   |zero =>
    have e0:(#[Value.func (.yield (w.heap.size+1)) #[] #[]]++ys).getD 0 undef=.func (.yield (w.heap.size+1)) #[] #[]:=by
     rw [Array.getD_eq_getD_getElem?,Array.getElem?_append_left (by simp)];rfl
    rw [e0]
    exact .r0 _ _ (.v _)
   |succ i =>
    simp only [List.getElem?_cons_succ]
    cases hc:cap[i]? with
    |none=>exact .r0 _ _ (.any _)
    |some u =>
     have hlt:i < ys.size:=by rw [hsz];exact (List.getElem?_eq_some_iff.1 hc).1
     have hy':(#[Value.func (.yield (w.heap.size+1)) #[] #[]]++ys).getD (i+1) undef=ys[i]:=by
      rw [Array.getD_eq_getD_getElem?,Array.getElem?_append_right (by simp)]
      simp [hlt]
     rw [hy']
     exact (hrr i u ys[i] hc (by simp [hlt])).mono (by rw [s1];omega) hO1 (fun b _ hb=>hold b hb) hE1e
  ·rcases hhp id ob hob with ⟨rfl,rfl⟩|⟨hne,h2⟩
   ·exact ⟨_,_,_,hE1l,w.heap.size+1,rfl,hl1,rfl,rfl⟩
   ·obtain ⟨b,K,C,g1,g2⟩:=hE.hp id ob h2
    refine ⟨b,K,C,hE1e _ _ g1,g2.mono (by rw [s1];omega) hO1 (fun b _ hb=>hold b hb) hE1e fun b' hb'=>hold b' ?_⟩
    subst hb'
    exact (hE.fresh id ob b' _ h2 g1).2.2
  ·show ((lam == id) || usH hl id)=true
   by_cases e:id=lam
   ·simp [e]
   ·obtain ⟨r,hr⟩:=Option.ne_none_iff_exists'.1 hid
    have:=hE.us id (by rw [hE1b id r e hr];simp)
    rw [show (St.of fl hl).us id=usH hl id from rfl] at this
    simp [this]
  ·obtain ⟨yK,yC⟩:=y
   obtain ⟨yK',yC'⟩:=y'
   rcases hhp id ob k1 with ⟨rfl,rfl⟩|⟨hne,h2⟩<;>rcases hhp id' ob' k2 with ⟨rfl,rfl⟩|⟨hne',h2'⟩
   ·rfl
   ·rw [hE1l] at k3;cases k3
    have:=(hE.fresh id' ob' _ _ h2' (hE1b _ _ hne' k4)).2.2;omega
   ·rw [hE1l] at k4;cases k4
    have:=(hE.fresh id ob _ _ h2 (hE1b _ _ hne k3)).2.2;omega
   ·exact hE.inj id id' ob ob' b _ _ h2 h2' (hE1b _ _ hne k3) (hE1b _ _ hne' k4)
  ·rcases hhp id ob k1 with ⟨rfl,rfl⟩|⟨hne,h2⟩
   ·rw [hE1l] at k2;cases k2
    exact ⟨.inr (.inr rfl),fun hof=>by have:=hltOf _ hof;omega,by rw [s1];omega⟩
   ·obtain ⟨q1,q2,q3⟩:=hE.fresh id ob b y h2 (hE1b _ _ hne k2)
    obtain ⟨yK,yC⟩:=y
    exact ⟨.inr (.inl ⟨id,ob,yK,yC,h2,hE1b _ _ hne k2⟩),q2,by rw [s1];omega⟩
  ·rcases List.mem_cons.1 hid with rfl|hid
   ·exact ⟨_,hE1l,hE1l⟩
   ·obtain ⟨ob,hob⟩:=hnmhl id hid
    obtain ⟨b,K,C,g1,_⟩:=hE.hp id ob hob
    exact ⟨_,hE1e _ _ g1,hE1e _ _ g1⟩
  ·exact G.hZi w w1 (by rw [s1];omega) (fun b hb=>hold b (hltOf b hb)) hE.zi
 have hY:YJ P G1 (w.heap.size+1) lam L fl ps asg body G.n:=by
  refine ⟨rfl,⟨rfl,rfl,rfl,rfl,rfl,hE.size⟩,hps,⟨by simp [G1],hE1l⟩,fun b=>OT G (St.of fl hl) E b∨w.heap.size≤b,fun b hb=>⟨fun g=>hb (.inl (.inl g)),?_⟩,fun i=>⟨c3e (fun id h=>List.mem_cons_of_mem _ h) 4 (c1z hfl i),?_⟩⟩
  ·rintro (g|g)
   ·exact hb (.inl (.inr g))
   ·exact hb (.inr (by omega))
  ·exact (hE.fr i).mono (by show _≤w1.heap.size;rw [s1];omega) (fun b hb hlt h=>by rcases h with h|h;exact hb h;omega) (fun b _ hb=>hold b hb) hE1e
 have hF1:G1.F=Fence.wide:=rfl
 have hwalk:=a0d ck _ _ (h G1 (w.heap.size+1) L rfl rfl rfl rfl rfl hY) _ w1 ⟨E1,hE1s⟩
 rw [hF1] at hwalk
 refine callsIn_of_wp_marks (F:=Fence.wide) (n:=0) hf hb trivial (wpIn_mono hwalk ?_)
 rintro e a2 w2 ⟨s2,hq,E2,hE2⟩
 -- behind the function
 have fin:b2f fl lam L Q .ret s2→LeavesInM Fence.wide 0 P fn a2.tmps (rangePost Fence.wide 0 P (w.heap.size+1) (b7z G Q) { tmps:=a.tmps,defers:=[mark w.heap.size]++a.defers }) a2.defers .returning w2:=by
  rintro ⟨st,hst,hQ⟩
  refine b0l (by simp) hE2 (fun b hb=>by have:=hltOf b hb;show b < w1.heap.size;rw [s1];omega) fun w3 hE3=>?_
  refine ⟨.tuple #[],by simp [results,hres],?_⟩
  have hE2l:E2 lam=some (some (w.heap.size+1),0,0):=by
   obtain ⟨r,k1,k2⟩:=hE3.base lam (by simp [G1])
   have:E1 lam=some r:=k1
   rw [hE1l] at this;cases this;exact k2
  obtain ⟨_,hh3,hlt3⟩:=hE3.name_lt (b:=w.heap.size+1) (id:=lam) hst fun b' z hz=>by rw [hE2l] at hz;cases hz;rfl
  have hstate:(Lp L st).state≠.busy:=by cases st<;>simp [Lp,L]
  have hend:∃ w4,w4=w3.putObj (w.heap.size+1) (.loop { Lp L st with state:=.exhausted }):=⟨_,rfl⟩
  obtain ⟨w4,hw4⟩:=hend
  have hw4:=hw4.symm
  refine ⟨(Lp L st).pending,w4,hw4 ▸ run_endLoop hh3 hstate,?_⟩
  have hpend:(Lp L st).pending=st:=by cases st<;>simp [Lp,L]
  rw [hpend]
  have h4:∀ k,k≠w.heap.size+1→w4.heap[k]? = w3.heap[k]?:=fun k hk=>by rw [← hw4];exact World.putObj_heap_other hk
  have sz4:w4.heap.size=w3.heap.size:=by rw [← hw4];exact World.putObj_size
  have hg3:w.heap.size+2≤w3.heap.size:=by have:=hE3.grow;rw [show G1.w0.heap.size=w.heap.size+2 from s1] at this;exact this
  have hfr3:∀ b,a5v s2 E2 b→(w.heap.size+2≤b∨a5v (St.of fl hl) E b∨b=w.heap.size+1)∧¬ G.Of b∧b < w3.heap.size:=by
   rintro b ⟨id,ob,K,C,g1,g2⟩
   obtain ⟨q1,q2,q3⟩:=hE3.fresh id ob b _ g1 g2
   rw [show G1.w0.heap.size=w.heap.size+2 from s1] at q1
   exact ⟨q1,q2,q3⟩
  have hlvA:∀ b,a5v (aft fl s2 lam) E2 b→a5v s2 E2 b∧b≠w.heap.size+1:=by
   rintro b ⟨id,ob,K,C,g1,g2⟩
   have g1':(if lam=id then none else s2.hp id)=some ob:=g1
   by_cases e:lam=id
   ·rw [if_pos e] at g1';cases g1'
   ·rw [if_neg e] at g1'
    refine ⟨⟨id,ob,K,C,g1',g2⟩,?_⟩
    rintro rfl
    exact e (hE3.inj lam id _ _ _ _ _ hst g1' hE2l g2)
  have hkeep:∀ b,b < w.heap.size→¬ a5v (St.of fl hl) E b→w4.heap[b]? = w.heap[b]?:=fun b hlt hnl=>by
   rw [h4 b (by omega),hE3.keep b (by show b < w1.heap.size;rw [s1];omega) (by rintro (g|g);exact hnl g;omega)]
   exact hold b hlt
  have hOA:∀ b,¬ OT G (St.of fl hl) E b→b < w.heap.size→¬ OT G (aft fl s2 lam) E2 b:=by
   rintro b hb hlt (g|g)
   ·exact hb (.inl g)
   ·rcases (hfr3 b (hlvA b g).1).1 with g|g|g
    ·omega
    ·exact hb (.inr g)
    ·omega
  have hOB:∀ b,¬ OT G1 s2 E2 b→¬ OT G (aft fl s2 lam) E2 b:=by
   rintro b hb (g|g)
   ·exact hb (.inl g)
   ·exact hb (.inr (hlvA b g).1)
  have hnl3:∀ b,a4g w3 b→b≠w.heap.size+1:=by rintro b ⟨cs,t,f,hb⟩ rfl;rw [hh3] at hb;cases hb
  have hbase:∀ id,id ∈ nm→∀ r,E id=some r→E2 id=some r:=fun id hid r hr=>by
   obtain ⟨r',k1,k2⟩:=hE3.base id (by simp [G1,hid])
   have:E1 id=some r':=k1
   rw [hE1e _ _ hr] at this;cases this;exact k2
  have hA:SimE G (aft fl s2 lam) { tmps:=a.tmps,defers:=[mark w.heap.size]++a.defers } w4 E2:=by
   refine ⟨fun i=>?_,?_,hE.size,fun id ob hob=>?_,hE3.us,fun id id' ob ob' b y y' k1 k2 k3 k4=>?_,fun id ob b y k1 k2=>?_,fun b hb=>by have:=hltOf b hb;rw [sz4];omega,by have:=hE.grow;rw [sz4];omega,?_,?_,?_,fun b k1 k2=>?_,fun id hid=>?_,?_⟩
   ·exact (hE.fr i).nms (by rw [sz4];omega) hOA (fun b hb hlt _=>hkeep b hlt fun g=>hb (.inr g)) hbase 4 (c1z hfl i)
   ·obtain ⟨rs,e1,e2,e3⟩:=hE.defers
    refine ⟨w.heap.size::rs,by rw [e1];rfl,List.nodup_cons.2 ⟨fun hm=>?_,e2⟩,fun r hr=>?_⟩
    ·have:=(e3 _ hm).1
     rw [show w.heap[w.heap.size]? = none by simp] at this;cases this
    ·have hnlr:¬ a5v (aft fl s2 lam) E2 r:=by
      intro g
      rcases (hfr3 r (hlvA r g).1).1 with g'|g'|g'
      ·rcases List.mem_cons.1 hr with rfl|hr
       ·omega
       ·have:=(e3 r hr).1
        have:r < w.heap.size:=(Array.getElem?_eq_some_iff.1 this).1
        omega
      ·rcases List.mem_cons.1 hr with rfl|hr
       ·obtain ⟨id,ob,K,C,q1,q2⟩:=g'
        have:=(hE.fresh id ob _ _ q1 q2).2.2;omega
       ·exact (e3 r hr).2.2.1 g'
      ·rcases List.mem_cons.1 hr with rfl|hr
       ·omega
       ·have:=(Array.getElem?_eq_some_iff.1 (e3 r hr).1).1;omega
     rcases List.mem_cons.1 hr with rfl|hr
     ·refine ⟨?_,hE.grow,hnlr,by cases h:G.nomk with|false=>rfl|true=>exact absurd hrd (G.hnk h)⟩
      rw [h4 _ (by omega),hE3.keep _ (by show _ < w1.heap.size;rw [s1];omega) (by
       rintro (g|g)
       ·obtain ⟨id,ob,K,C,q1,q2⟩:=g
        have:=(hE.fresh id ob _ _ q1 q2).2.2;omega
       ·omega)]
      exact hd1
     ·obtain ⟨q1,q2,q3,q4⟩:=e3 r hr
      have hlt:r < w.heap.size:=(Array.getElem?_eq_some_iff.1 q1).1
      exact ⟨(hkeep r hlt q3).trans q1,q2,hnlr,q4⟩
   ·have hob':(if lam=id then none else s2.hp id)=some ob:=hob
    by_cases e:lam=id
    ·rw [if_pos e] at hob';cases hob'
    ·rw [if_neg e] at hob'
     obtain ⟨b,K,C,k1,k2⟩:=hE3.hp id ob hob'
     refine ⟨b,K,C,k1,k2.monoC (by rw [sz4];exact Nat.le_refl _) (fun b hb _=>hOB b hb) (fun b _ _ hc=>h4 b (hnl3 b hc)) (fun _ _ h=>h) fun b' hb'=>h4 b' fun e'=>?_⟩
     subst hb';subst e'
     exact e (hE3.inj lam id _ _ _ _ _ hst hob' hE2l k1)
   ·have g:∀ id ob,(aft fl s2 lam).hp id=some ob→s2.hp id=some ob:=fun id ob hob=>by
     have hob':(if lam=id then none else s2.hp id)=some ob:=hob
     by_cases e:lam=id
     ·rw [if_pos e] at hob';cases hob'
     ·rw [if_neg e] at hob';exact hob'
    exact hE3.inj id id' _ _ b y y' (g _ _ k1) (g _ _ k2) k3 k4
   ·obtain ⟨yK,yC⟩:=y
    obtain ⟨q0,q0'⟩:=hlvA b ⟨id,ob,yK,yC,k1,k2⟩
    obtain ⟨q1,q2,q3⟩:=hfr3 b q0
    refine ⟨?_,q2,by rw [sz4];exact q3⟩
    rcases q1 with q1|⟨id',ob',K,C,g1,g2⟩|q1
    ·exact .inl (by have:=hE.grow;omega)
    ·exact (hE.fresh id' ob' b _ g1 g2).1
    ·exact (q0' q1).elim
   ·rw [← hw4];exact hE3.os.trans hE.os
   ·rw [← hw4];exact hE3.tape.trans hE.tape
   ·rw [← hw4];exact hE3.output.trans hE.output
   ·rw [hkeep b (Nat.lt_of_lt_of_le k1 hE.grow) fun g=>?_]
    ·exact hE.keep b k1 k2
    ·obtain ⟨id,ob,K,C,g1,g2⟩:=g
     rcases (hE.fresh id ob b _ g1 g2).1 with q|q
     ·omega
     ·exact k2 q
   ·obtain ⟨r,g1,g2⟩:=hE.base id hid
    exact ⟨r,g1,hbase id (hGn id hid) r g2⟩
   ·exact G.hZi w3 w4 (by rw [sz4];exact Nat.le_refl _) (fun b hb=>h4 b fun e=>by have:=hltOf b hb;omega) hE3.zi
  cases st with
  |none=>exact ⟨_,hQ,E2,hA⟩
  |some c =>
   cases c with
   |ret=>exact wpIn_ret ⟨_,hQ,E2,hA⟩
   |exit id=>exact wpIn_exit ⟨_,hQ,E2,hA⟩
   |_=>exact hQ.elim
 cases e with
 |normal=>exact fin hq
 |ret=>exact fin hq
 |exit=>exact hq.elim
 |goto=>exact hq.elim
 |panic=>exact hq.elim
 |outgrown=>exact hq.elim
end Pm
end Go.Proofs.YtmjhfccbbfpppaaGreatDoor
