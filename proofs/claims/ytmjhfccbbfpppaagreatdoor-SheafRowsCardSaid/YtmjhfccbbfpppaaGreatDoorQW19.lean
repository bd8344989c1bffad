import Derived.ProofKit
import Derived.WideKeyArgs
import Derived.Below
import Derived.ChangeSame
import Derived.SizedLaws
import Derived.Lib.AppendStr
import Derived.Test.YtmjhfccbbfpppaaGreatDoorQW05
import Derived.Test.YtmjhfccbbfpppaaGreatDoorQW08
namespace Go.Proofs.YtmjhfccbbfpppaaGreatDoor
open Go Go.RowKit Go.WideShapes Go.ChangeShapes Go.ChangeAt
set_option linter.unusedSimpArgs false
set_option linter.unusedVariables false
namespace Pm
def CellsF (w:World) (cs:List V) (ys:List Value):Prop:=ys.length=cs.length∧∀ (j:Nat) (u:V) (y:Value),cs[j]? = some u→ys[j]? = some y→R0 w (fun _=>False) u y
theorem CellsF.one {w:World} {u:V} {y:Value} (h:R0 w (fun _=>False) u y):CellsF w [u] [y]:=⟨rfl,fun j u' y' h1 h2=>by
 cases j with
 |zero=>simp at h1 h2;subst h1;subst h2;exact h
 |succ j=>simp at h1⟩
theorem CellsF.one_inv {w:World} {u:V} {y:Value} (h:CellsF w [u] [y]):R0 w (fun _=>False) u y:=h.2 0 u y rfl rfl
def Rd (P:Program) (t:TypeId) {α:Type} (f:α→List V) (p:α→Prop):Prop :=
 ∀ (H:Type) (enc:TypeId×Value→H) (w:World) (fuel:Nat) (cs:List Value) (d:DataW H) (ps:List MemPlace),DataW.trod enc P w 0 (fun _=>true) true fuel t cs=some (d,ps)→(∀ n ∈ d.weights P t,n≤140737488355328)→w.noneFrozen ps→∃ x:α,p x∧CellsF w (f x) cs
theorem Rd.int {P:Program} {t:TypeId} {k:IntKind} (ht:P.underlying t=some (.int k)):Rd P t (fun n:Int=>[.v (.int k n)]) (fun n=>(Lit.int k n).wf=true):=by
 intro H enc w fuel cs d ps h _ _
 obtain ⟨n,rfl,_,hw⟩:=DataW.trod_int ht h
 exact ⟨n,hw,.one (.v _)⟩
theorem Rd.bool {P:Program} {t:TypeId} (ht:P.underlying t=some .bool):Rd P t (fun b:Bool=>[.v (.bool b)]) (fun _=>True):=by
 intro H enc w fuel cs d ps h _ _
 obtain ⟨b,rfl,_⟩:=DataW.trod_bool ht h
 exact ⟨b,trivial,.one (.v _)⟩
theorem Rd.string {P:Program} {t:TypeId} (ht:P.underlying t=some .string):Rd P t (fun s:ByteArray=>[.v (.string s)]) (fun s=>s.size≤140737488355328):=by
 intro H enc w fuel cs d ps h hw _
 obtain ⟨s,rfl,hx,hs⟩:=DataW.trod_string ht h
 simp only [Prod.mk.injEq] at hx
 obtain ⟨rfl,_⟩:=hx
 exact ⟨s,by simpa using hw s.data.toList.length (by simp [DataW.weights]),.one (.v _)⟩
theorem b9a {β:Type} {g:Nat→Option β} {n:Nat} {l:List β} (h:(List.range n).mapM g=some l):l.length=n∧∀ i,i < n→g i=l[i]? :=
 ⟨by simpa using mapM_some_length h,fun i hi=>mapM_some_get h i i (by simp [hi])⟩
theorem d0f {α β:Type} {R:Nat→β→α→Prop}:∀ (n:Nat) (l:List β),l.length=n→(∀ i y,l[i]? = some y→∃ x,R i y x)→∃ m:List α,m.length=n∧∀ i y x,l[i]? = some y→m[i]? = some x→R i y x:=by
 intro n
 induction n with
 |zero =>
  intro l hl _
  exact ⟨[],rfl,fun i y x _ h=>by simp at h⟩
 |succ n ih =>
  intro l hl h
  have hne:l≠[]:=by rintro rfl;simp at hl
  obtain ⟨m,hm,hR⟩:=ih l.dropLast (by simp [hl]) (fun i y hy=>by
   obtain ⟨hi,e⟩:=List.getElem?_eq_some_iff.1 hy
   simp at hi
   exact h i y (by rw [← e];simp))
  have hlast:l[n]? = some (l.getLast hne):=by rw [List.getLast_eq_getElem,List.getElem?_eq_getElem (by omega)];simp [hl]
  obtain ⟨x,hx⟩:=h n _ hlast
  refine ⟨m++[x],by simp [hm],fun i y x' h1 h2=>?_⟩
  by_cases hi:i < n
  ·rw [List.getElem?_append_left (by omega)] at h2
   refine hR i y x' ?_ h2
   rw [← h1]
   simp [hl,hi]
  ·obtain ⟨hi',_⟩:=List.getElem?_eq_some_iff.1 h2
   have:i=n:=by simp at hi';omega
   subst this
   rw [List.getElem?_append_right (by omega)] at h2
   simp [hm] at h2
   subst h2
   rw [hlast] at h1
   cases h1
   exact hx
theorem Rd.slice {P:Program} {t e sz:TypeId} {α:Type} {f:α→List V} {p:α→Prop} (ht:P.underlying t=some (.slice e)) (hsz:P.cellsOf e=sz) (h0:0 < sz) (hb0:Nat.ble 1 (P.bytesOf e)=true) (hf:∀ x,(f x).length=sz) (he:Rd P e f p) :
  Rd P t (fun l:List α=>[.lst 0 sz (l.map f)]) (fun l=>l.length≤140737488355328∧∀ x ∈ l,p x):=by
 subst hsz
 intro H enc w fuel cs d ps h hwt hnf
 rcases DataW.trod_slice ht h with ⟨rfl,_⟩|⟨a,len,cap,elems,rest,n,rfl,rfl,hx,_,hlc,hcap,hel,hget,hrest,_⟩
 ·exact ⟨[],⟨by simp,by simp⟩,.one (.lst 0 _ [] none 0 0 0 0 (fun _ _=>undef) (by simp) rfl (by simp) (by simp) (by simp) (by simp) (by simp) (by simp))⟩
 ·simp only [Prod.mk.injEq] at hx
  obtain ⟨rfl,rfl⟩:=hx
  obtain ⟨hr1,_⟩:=hrest rfl
  have hw1:len≤140737488355328:=by
   have:=hwt ((elems.length+rest.length) * P.bytesOf e) (by simp [DataW.weights,ht])
   have h2:(elems.length+rest.length) * 1≤(elems.length+rest.length) * P.bytesOf e:=Nat.mul_le_mul_left _ (Nat.le_of_ble_eq_true hb0)
   omega
  have hw2:∀ x ∈ elems,∀ n ∈ x.1.weights P e,n≤140737488355328:=fun x hx n hn=>hwt n (by
   have:∀ {l:List (DataW H)} {d:DataW H},d ∈ l→∀ n ∈ d.weights P e,n ∈ DataW.weightsAll P e l:=by
    intro l
    induction l with
    |nil=>intro d h;cases h
    |cons a r ih =>
     intro d h n hn
     simp only [DataW.weightsAll,List.mem_append]
     rcases List.mem_cons.1 h with rfl|h
     ·exact .inl hn
     ·exact .inr (ih h n hn)
   have hm:=this (List.mem_map_of_mem (f:=(·.1)) hx) n hn
   simp [DataW.weights,ht,hm])
  -- every element's cells
  have key:∀ i y,(List.range len)[i]? = some y→∃ z:α×List Value,p z.1∧CellsF w (f z.1) z.2∧w.cells? 0 (a.add (i * P.cellsOf e)) (P.cellsOf e)=some z.2:=by
   intro i y hy
   obtain ⟨hi,_⟩:=List.getElem?_eq_some_iff.1 hy
   simp at hi
   have hg:=hget i hi
   rw [List.getElem?_eq_getElem (by omega)] at hg
   simp only [Option.bind_eq_some_iff] at hg
   obtain ⟨cs',h1,h2⟩:=hg
   have hsub:w.noneFrozen (elems[i]'(by omega)).2:=fun b off hp=>hnf b off (by
    simp only [List.mem_append,List.mem_flatMap]
    exact .inr ⟨_,.inl (List.getElem_mem _),hp⟩)
   obtain ⟨x,hp,hc⟩:=he H enc w n cs' _ _ h2 (hw2 _ (List.getElem_mem _)) hsub
   exact ⟨(x,cs'),hp,hc,h1⟩
  obtain ⟨m,hm,hR⟩:=d0f (R:=fun i _ (z:α×List Value)=>p z.1∧CellsF w (f z.1) z.2∧w.cells? 0 (a.add (i * P.cellsOf e)) (P.cellsOf e)=some z.2) len (List.range len) (by simp) key
  have hM:∀ i (hi:i < m.length),p m[i].1∧CellsF w (f m[i].1) m[i].2∧w.cells? 0 (a.add (i * P.cellsOf e)) (P.cellsOf e)=some m[i].2:=fun i hi=>hR i i m[i] (by rw [List.getElem?_range (by omega)]) (List.getElem?_eq_getElem hi)
  obtain ⟨b,o,sp⟩:=a
  have hcell:∀ i (hi:i < m.length) j (y:Value),m[i].2[j]? = some y→w.cell? (((⟨b,o,sp⟩:Addr).add (i * P.cellsOf e)).add j)=some y∧j < P.cellsOf e:=by
   intro i hi j y hy
   obtain ⟨_,_,hc⟩:=hM i hi
   unfold World.cells? at hc
   rw [if_pos (Nat.zero_le _)] at hc
   obtain ⟨h1,h2⟩:=b9a hc
   obtain ⟨hj,_⟩:=List.getElem?_eq_some_iff.1 hy
   rw [h1] at hj
   exact ⟨(h2 j hj).trans hy,hj⟩
  have hlen:∀ i (hi:i < m.length),m[i].2.length=P.cellsOf e:=by
   intro i hi
   obtain ⟨_,h2,_⟩:=hM i hi
   rw [h2.1,hf]
  refine ⟨m.map (·.1),⟨by simp;omega,?_⟩,.one ?_⟩
  ·intro x hx
   simp only [List.mem_map] at hx
   obtain ⟨z,hz,rfl⟩:=hx
   obtain ⟨i,hi,rfl⟩:=List.getElem_of_mem hz
   exact (hM i hi).1
  ·have hsp:0 < m.length→sp=none:=by
    intro hpos
    have:=hcell 0 hpos 0 (m[0].2[0]'(by rw [hlen 0 hpos];exact h0)) (List.getElem?_eq_getElem _)
    simpa [Addr.add] using World.cell?_spot this.1
   by_cases hpos:m.length=0
   ·have:m=[]:=List.length_eq_zero_iff.1 hpos
    subst this
    simp at hm
    subst hm
    exact .lst 0 _ [] _ _ _ 0 0 (fun _ _=>undef) (by simp) rfl (by simp) (by simp) (by simp) (by simp) (by simp) (by simp)
   ·have hs0:=hsp (by omega)
    subst hs0
    have hblt:b < w.heap.size:=by
     have:=hcell 0 (by omega) 0 (m[0].2[0]'(by rw [hlen 0 (by omega)];exact h0)) (List.getElem?_eq_getElem _)
     have h1:=this.1
     simp only [Addr.add] at h1
     unfold World.cell? at h1
     false_or_by_contra
     rename_i hge
     have:w.heap[b]? = none:=by simp;omega
     simp [this] at h1
    refine .lst 0 _ _ (some ⟨b,o,none⟩) len cap b o (fun i j=>((m[i]?.map (·.2)).getD [])[j]?.getD undef) (fun _=>Nat.zero_le _) (by simp;omega) (by simp;omega) (by simp;omega) (fun _=>⟨rfl,fun h=>h,hblt⟩) ?_ ?_ ?_
    ·intro i x j u h1 h2
     simp only [List.getElem?_map,List.map_map] at h1
     obtain ⟨z,hz,rfl⟩:=Option.map_eq_some_iff.1 h1
     obtain ⟨hi,rfl⟩:=List.getElem?_eq_some_iff.1 hz
     obtain ⟨hj,_⟩:=List.getElem?_eq_some_iff.1 h2
     have hj':j < m[i].2.length:=by rw [hlen i hi,← hf m[i].1];exact hj
     have hc:=hcell i hi j (m[i].2[j]) (List.getElem?_eq_getElem hj')
     simp only [a3j] at hc
     have e1:(((m[i]?.map (·.2)).getD [])[j]?).getD undef=m[i].2[j]:=by simp [List.getElem?_eq_getElem hi,List.getElem?_eq_getElem hj']
     rw [e1,show o+(i * P.cellsOf e+j)=o+i * P.cellsOf e+j by omega]
     refine ⟨hc.1,fun _=>hnf b _ ?_⟩
     simp only [List.mem_append]
     left
     unfold MemPlace.row
     simp only [List.mem_map,List.mem_range]
     refine ⟨i * P.cellsOf e+j,?_,by simp;omega⟩
     have:(i+1) * P.cellsOf e≤(elems.length+rest.length) * P.cellsOf e:=Nat.mul_le_mul_right _ (by omega)
     rw [Nat.add_mul] at this
     omega
    ·intro x hx
     simp only [List.map_map,List.mem_map] at hx
     obtain ⟨z,_,rfl⟩:=hx
     exact hf _
    ·intro i x j u h1 h2
     simp only [List.getElem?_map,List.map_map] at h1
     obtain ⟨z,hz,rfl⟩:=Option.map_eq_some_iff.1 h1
     obtain ⟨hi,rfl⟩:=List.getElem?_eq_some_iff.1 hz
     obtain ⟨hj,_⟩:=List.getElem?_eq_some_iff.1 h2
     have hj':j < m[i].2.length:=by rw [hlen i hi,← hf m[i].1];exact hj
     have e1:(((m[i]?.map (·.2)).getD [])[j]?).getD undef=m[i].2[j]:=by simp [List.getElem?_eq_getElem hi,List.getElem?_eq_getElem hj']
     rw [e1]
     exact (hM i hi).2.1.2 j u _ h2 (List.getElem?_eq_getElem hj')
def RdF (P:Program):List TypeId→{α:Type}→(α→List V)→(α→Prop)→Prop:=fun ts {α} f p =>
 ∀ (H:Type) (enc:TypeId×Value→H) (w:World) (fuel:Nat) (cs:List Value) (xs:List (DataW H×List MemPlace)),cs.length=(ts.map P.cellsOf).sum→xs.length=ts.length →
  (∀ (i:Nat) (t:TypeId),ts[i]? = some t→DataW.trod enc P w 0 (fun _=>true) true fuel t ((cs.drop ((ts.take i).map P.cellsOf).sum).take (P.cellsOf t))=xs[i]?)→(∀ (i:Nat) (t:TypeId) (x:DataW H×List MemPlace),ts[i]? = some t→xs[i]? = some x→∀ n ∈ x.1.weights P t,n≤140737488355328)→w.noneFrozen (xs.flatMap (·.2))→∃ x:α,p x∧CellsF w (f x) cs
theorem RdF.nil {P:Program}:RdF P [] (fun _:Unit=>[]) (fun _=>True):=by
 intro H enc w fuel cs xs h1 _ _ _ _
 simp at h1
 subst h1
 exact ⟨(),trivial,rfl,by simp⟩
theorem CellsF.append {w:World} {a b:List V} {x y:List Value} (h1:CellsF w a x) (h2:CellsF w b y):CellsF w (a++b) (x++y):=by
 refine ⟨by simp [h1.1,h2.1],fun j u z hu hz=>?_⟩
 by_cases hj:j < a.length
 ·rw [List.getElem?_append_left hj] at hu
  rw [List.getElem?_append_left (by rw [h1.1];exact hj)] at hz
  exact h1.2 j u z hu hz
 ·rw [List.getElem?_append_right (by omega)] at hu
  rw [List.getElem?_append_right (by rw [h1.1];omega),h1.1] at hz
  exact h2.2 _ u z hu hz
theorem RdF.cons {P:Program} {t:TypeId} {ts:List TypeId} {α β:Type} {f:α→List V} {g:β→List V} {p:α→Prop} {q:β→Prop} (h1:Rd P t f p) (h2:RdF P ts g q):RdF P (t::ts) (fun x:α×β=>f x.1++g x.2) (fun x=>p x.1∧q x.2):=by
 intro H enc w fuel cs xs hl hx hg hwt hn
 match xs,hx with
 |x0::xr,hx =>
  have h0:=hg 0 t rfl
  simp only [List.take_zero,List.map_nil,List.sum_nil,List.drop_zero,List.getElem?_cons_zero] at h0
  simp only [List.map_cons,List.sum_cons] at hl
  obtain ⟨a,ha,hca⟩:=h1 H enc w fuel _ x0.1 x0.2 h0 (hwt 0 t x0 rfl rfl) (fun b off hp=>hn b off (by simp [hp]))
  obtain ⟨b,hb,hcb⟩:=h2 H enc w fuel (cs.drop (P.cellsOf t)) xr (by simp;omega) (by simpa using hx) (fun i t' hi=>by
   have:=hg (i+1) t' (by simpa using hi)
   simp only [List.take_succ_cons,List.map_cons,List.sum_cons,List.getElem?_cons_succ] at this
   rw [List.drop_drop]
   exact this) (fun i t' x h3 h4=>hwt (i+1) t' x (by simpa using h3) (by simpa using h4)) (fun b off hp=>hn b off (by simp only [List.flatMap_cons,List.mem_append];exact .inr hp))
  refine ⟨(a,b),⟨ha,hb⟩,?_⟩
  have:=hca.append hcb
  rw [List.take_append_drop] at this
  exact this
theorem Rd.struct {P:Program} {t:TypeId} {fs:Array Field} {α:Type} {f:α→List V} {p:α→Prop} (ht:P.underlying t=some (.struct fs)) (hc:P.cellsOf t=((fs.toList.map (·.type)).map P.cellsOf).sum)
  (ho:(List.range fs.size).map (fun i=>(fs.toList[i]?).map (·.offset))=(List.range fs.size).map (fun i=>some (((fs.toList.map (·.type)).take i).map P.cellsOf).sum))
  (h:RdF P (fs.toList.map (·.type)) f p):Rd P t f p:=by
 intro H enc w fuel cs d ps hd hwt hn
 obtain ⟨xs,n,_,hx,hl,hxl,hg⟩:=DataW.trod_struct ht hd
 simp only [Prod.mk.injEq] at hx
 obtain ⟨rfl,rfl⟩:=hx
 refine h H enc w n cs xs (hl.trans hc) (by simpa using hxl) (fun i t' hi=>?_) (fun i t' x h3 h4 n hn=>hwt n ?_) hn
 rotate_left
 ·simp only [DataW.weights,ht]
  exact DataW.weights_mem_each h3 (by simp [h4]) n hn
 simp only [List.getElem?_map] at hi
 obtain ⟨fd,hfd,rfl⟩:=Option.map_eq_some_iff.1 hi
 have hi':i < fs.size:=by obtain ⟨h,_⟩:=List.getElem?_eq_some_iff.1 hfd;simpa using h
 have e:=congrArg (·[i]?) ho
 simp only [List.getElem?_map,List.getElem?_range hi',Option.map_some,hfd] at e
 rw [← hg i fd (by simpa using hfd)]
 injection e with e
 injection e with e
 rw [e]
theorem Rd.map {P:Program} {t:TypeId} {α β:Type} {f:α→List V} {g:β→List V} {p:α→Prop} {q:β→Prop} (h:Rd P t f p) (k:∀ x,p x→∃ y,q y∧g y=f x):Rd P t g q:=by
 intro H enc w fuel cs d ps hd hwt hn
 obtain ⟨x,hp,hc⟩:=h H enc w fuel cs d ps hd hwt hn
 obtain ⟨y,hq,e⟩:=k x hp
 exact ⟨y,hq,e ▸ hc⟩
def RdV (P:Program) (t:TypeId) {α:Type} (g:α→V) (p:α→Prop):Prop :=
 ∀ (H:Type) (enc:TypeId×Value→H) (w:World) (base:Nat) (v:Value) (d:DataW H) (ps:List MemPlace),Value.okWide P w .any base t v→DataW.Trod enc P w 0 (fun _=>true) true t v d ps→(∀ n ∈ d.weights P t,n≤140737488355328)→w.noneFrozen ps→∃ x:α,p x∧R0 w (fun _=>False) (g x) v
theorem RdV.struct {P:Program} {t:TypeId} {fs:Array Field} {α:Type} {f:α→List V} {p:α→Prop} (ht:P.underlying t=some (.struct fs)) (h:Rd P t f p):RdV P t (fun x=>.agg (f x)) p:=by
 intro H enc w base v d ps hok hd hwt hn
 unfold Value.okWide at hok
 rw [ht] at hok
 obtain ⟨cs,rfl,_,_⟩:=hok
 obtain ⟨n,hd⟩:=hd
 obtain ⟨x,hp,hc⟩:=h H enc w n _ d ps hd hwt hn
 refine ⟨x,hp,.agg _ _ (by simpa [Value.cells] using hc.1) fun j u y h1 h2=>hc.2 j u y h1 (by simpa [Value.cells] using h2)⟩
theorem RdV.one {P:Program} {t:TypeId} {α:Type} {g:α→V} {p:α→Prop} (ht:∀ w base v,Value.okWide P w .any base t v→v.cells=#[v]) (h:Rd P t (fun x=>[g x]) p):RdV P t g p:=by
 intro H enc w base v d ps hok hd hwt hn
 have e:=ht w base v hok
 obtain ⟨n,hd⟩:=hd
 rw [e] at hd
 obtain ⟨x,hp,hc⟩:=h H enc w n _ d ps hd hwt hn
 exact ⟨x,hp,hc.one_inv⟩
theorem d0o {P:Program} {t e:TypeId} (ht:P.underlying t=some (.slice e)) (w:World) (base:Nat) (v:Value) (h:Value.okWide P w .any base t v):v.cells=#[v]:=by
 obtain ⟨a,n,c,rfl⟩:=okWide_slice ht h
 rfl
def RdA (P:Program) (ts:List TypeId) {α:Type} (g:α→List V) (p:α→Prop):Prop :=
 ∀ (H:Type) (enc:TypeId×Value→H) (w:World) (base:Nat) (vs:List Value) (ds:List (DataW H)) (ps:List MemPlace),(∀ (j:Nat) (t:TypeId) (v:Value),ts[j]? = some t→vs[j]? = some v→Value.okWide P w .any base t v) →
  DataW.TrodAll enc P w 0 (fun _=>true) true ts vs ds ps→(∀ n ∈ DataW.weightsEach P ts ds,n≤140737488355328)→w.noneFrozen ps→∃ x:α,p x∧CellsF w (g x) vs
theorem RdA.nil {P:Program}:RdA P [] (fun _:Unit=>[]) (fun _=>True):=by
 intro H enc w base vs ds ps _ h _ _
 obtain ⟨rfl,_,_⟩:=trodAll_nil h
 exact ⟨(),trivial,rfl,by simp⟩
theorem RdA.cons {P:Program} {t:TypeId} {ts:List TypeId} {α β:Type} {f:α→V} {g:β→List V} {p:α→Prop} {q:β→Prop} (h1:RdV P t f p) (h2:RdA P ts g q):RdA P (t::ts) (fun x:α×β=>f x.1::g x.2) (fun x=>p x.1∧q x.2):=by
 intro H enc w base vs ds ps hok h hwt hn
 obtain ⟨v,vs',d,ds',a,b,rfl,rfl,rfl,g1,g2⟩:=trodAll_cons h
 obtain ⟨x,hp,hx⟩:=h1 H enc w base v d a (hok 0 t v rfl rfl) g1 (fun n hn=>hwt n (by simp [DataW.weightsEach,hn])) (fun b off h=>hn b off (by simp [h]))
 obtain ⟨y,hq,hy⟩:=h2 H enc w base vs' ds' b (fun j t v h3 h4=>hok (j+1) t v (by simpa using h3) (by simpa using h4)) g2 (fun n hn=>hwt n (by simp [DataW.weightsEach,hn])) (fun b off h=>hn b off (by simp [h]))
 exact ⟨(x,y),⟨hp,hq⟩,(CellsF.one hx).append hy⟩
section
variable {H:Type} {enc:TypeId×Value→H} {P:Program}
theorem d5s {f:Func} {s:ChangeSpec} {apart fresh handsOn again:Bool} {W W':World} {args:Array Value} {v:Value} {ds gs:List (DataW H)} {before pa pv:List MemPlace}
  (hW:DataW.Whole enc P f.params.toList s.vars apart W args.toList ds gs before)
  (hres:∀ (b:Nat) (sp:Nat→Bool) (hd:Bool),DataW.TrodAll enc P W' b sp hd f.resultTypes.toList (v.resultList f.resultTypes.size) (s.fn H (ds++gs)).results [])
  (hargs:∀ sp:Nat→Bool,(∀ p ∈ before,sp p.block=true)→DataW.TrodAll enc P W' 0 sp true f.params.toList args.toList (s.fn H (ds++gs)).args pa)
  (hvars:∀ sp:Nat→Bool,(∀ p ∈ before,sp p.block=true)→DataW.TrodVars enc P W' sp s.vars (s.fn H (ds++gs)).vars pv)
  (hps:before=pa++pv) (hb:Below W.heap.size W W')
  (hok:∀ (j:Nat) (t:TypeId) (r:Value),f.resultTypes[j]? = some t→(v.resultList f.resultTypes.size)[j]? = some r→Value.okWide P W' .any 0 t r) :
  s.post enc P f apart fresh handsOn again W args v W':=by
 have hlt:∀ p ∈ before,p.block < W.heap.size:=fun p hp=>hW.lt p hp
 have hold:∀ p ∈ before,(fun b=>decide (b < W.heap.size)) p.block=true:=fun p hp=>by simpa using hlt p hp
 refine ⟨ds,gs,before,[],pa,pv,hW,hres _ _ _,hargs _ hold,hvars _ hold,World.keptBut_mono (fun p hp=>⟨hp,?_⟩) (hb.frame (· ∈ before)),fun _=>?_⟩
 ·rw [hps,List.mem_append] at hp
  exact Or.inr hp
 ·obtain ⟨_,_,_,_,_,hz,hn⟩:=hW
  refine ⟨hok,_,_,([]++pa)++pv,⟨[]++pa,pv,trodAll_append (hargs _ (fun _ _=>rfl)) (hres _ _ _),hvars _ (fun _ _=>rfl),rfl,?_,?_⟩,?_⟩
  ·intro b off hp
   have hin:MemPlace.cell b off ∈ before:=by rw [hps];simpa using hp
   rw [hb.frozen (hlt _ hin)]
   exact hz b off hin
  ·intro ha
   have:=hn ha
   rw [hps] at this
   simpa using this
  ·intro p hp _
   rw [hps]
   simpa using hp
theorem b3l (hl:laidOutB P=true) {W W':World} {sp:Nat→Bool}:∀ {ts:List TypeId} {vs:List Value} {ds:List (DataW H)} {ps:List MemPlace},(∀ t ∈ ts,P.readableRec t=true∧t < P.types.size) →
  DataW.TrodAll enc P W 0 (fun _=>true) true ts vs ds ps→(∀ p ∈ ps,W.sameAt W' p)→(∀ p ∈ ps,sp p.block=true)→DataW.TrodAll enc P W' 0 sp true ts vs ds ps
 |[],vs,ds,ps,_,h,_,_=>by
  obtain ⟨rfl,rfl,rfl⟩:=trodAll_nil h
  exact rfl
 |t::ts,vs,ds,ps,ht,h,hs,hp=>by
  obtain ⟨v,vs',d,ds',a,b,rfl,rfl,rfl,g1,g2⟩:=trodAll_cons h
  exact ⟨a,b,WideElems.Trod_stays hl (ht t (by simp)).1 (ht t (by simp)).2 g1 (fun p h=>hs p (by simp [h])) (fun p h=>hp p (by simp [h])),
   b3l hl (fun t h=>ht t (by simp [h])) g2 (fun p h=>hs p (by simp [h])) (fun p h=>hp p (by simp [h])),rfl⟩
end
end Pm
open Go Go.RowKit
namespace Pm
def a5k:Code→List Code
 |.seq a b=>a5k a++a5k b
 |c=>[c]
def wpL (F:Fence) (P:Program) (Q:Exit→Act→World→Prop):List Code→Act→World→Prop
 |[]=>Q .normal
 |c::r=>c.wpIn F 0 P (Exit.then (wpL F P Q r) Q)
theorem f7k {F:Fence} {P:Program} {Q:Exit→Act→World→Prop} (c:Code):∀ (r:List Code) {a:Act} {w:World},wpL F P Q (a5k c++r) a w→c.wpIn F 0 P (Exit.then (wpL F P Q r) Q) a w:=by
 have one:∀ (c:Code) (r:List Code) (a:Act) (w:World),wpL F P Q ([c]++r) a w→c.wpIn F 0 P (Exit.then (wpL F P Q r) Q) a w:=fun c r a w h=>h
 induction c with
 |seq x y ihx ihy =>
  intro r a w h
  simp only [a5k,List.append_assoc] at h
  refine wpIn_seq (wpIn_mono (ihx _ h) fun e a w h=>?_)
  cases e with
  |normal=>exact ihy r h
  |_=>exact h
 |_=>intro r a w h;exact one _ r a w h
def SemL (P:Program) (G:Gh) (l:List Code) (s:St) (Q:Exit→St→Prop):Prop:=∀ a w,Sim G s a w→wpL G.F P (b9h G Q) l a w
theorem SemL.semC {P:Program} {G:Gh} {c:Code} {s:St} {Q:Exit→St→Prop} (h:SemL P G (a5k c) s Q):SemC P G c s Q:=fun a w hs=>by
 have:=f7k c [] (by simpa using h a w hs)
 refine wpIn_mono this fun e a w h=>?_
 cases e<;>exact h
def vcN (P:Program) (G:Gh) (Q:Exit→St→Prop):Nat→List Code→St→Prop
 |0,l,s=>SemL P G l s Q
 |_+1,[],s=>Q .normal s
 |n+1,c::r,s=>vc P G c s (d4h (fun s _=>vcN P G Q n r s) Q)
theorem a1c {P:Program} {G:Gh} {Q:Exit→St→Prop}:∀ (n:Nat) (l:List Code) (s:St),vcN P G Q n l s→SemL P G l s Q:=by
 intro n
 induction n with
 |zero=>intro l s h;exact h
 |succ n ih =>
  intro l s h
  cases l with
  |nil=>intro a w hs;exact ⟨s,h,hs⟩
  |cons c r =>
   intro a w hs
   refine wpIn_mono (a0g c _ _ h a w hs) fun e a w h=>?_
   obtain ⟨s',h1,h2⟩:=h
   cases e with
   |normal=>exact ih r s' h1 a w h2
   |_=>exact ⟨s',h1,h2⟩
def XOK (G:Gh) (N:Nat) (Fx:V→Value→Prop):Prop:=∀ s a w E,SimE G s a w E→N≤w.heap.size ∧
 ∃ O':Nat→Prop,(∀ b,O' b→OT G s E b)∧(∀ b,N≤b→OT G s E b→O' b)∧∀ x y,Fx x y→R0 w O' x y
theorem XOK.of {G:Gh} {w1:World} {O1:Nat→Prop} {Fx:V→Value→Prop} (hF:∀ x y,Fx x y→R0 w1 O1 x y)
  (h:∀ w,G.Zi w→w1.heap.size≤w.heap.size∧∀ b,b < w1.heap.size→¬ O1 b→w.heap[b]? = w1.heap[b]?):XOK G w1.heap.size Fx:=by
 intro s a w E hE
 obtain ⟨h1,h2⟩:=h w hE.zi
 refine ⟨h1,fun b=>OT G s E b∧¬ (b < w1.heap.size∧¬ O1 b),fun b hb=>hb.1,fun b hN hb=>⟨hb,fun g=>by omega⟩,fun x y hxy=>?_⟩
 exact (hF x y hxy).mono h1 (fun b hb hlt g=>g.2 ⟨hlt,hb⟩) fun b hb hlt=>h2 b hlt hb
inductive AX (Fx:V→Value→Prop):V→V→Prop
 |pure (u u':V) (hp:pureV u=true) (hs:Sub u u'):AX Fx u u'
 |ex (y:Value) (u':V) (h:Fx u' y):AX Fx (.v y) u'
 |agg2 (c d c' d':V) (h1:AX Fx c c') (h2:AX Fx d d'):AX Fx (.agg [c,d]) (.agg [c',d'])
 |agg4 (a b c d a' b' c' d':V) (h1:AX Fx a a') (h2:AX Fx b b') (h3:AX Fx c c') (h4:AX Fx d d'):AX Fx (.agg [a,b,c,d]) (.agg [a',b',c',d'])
theorem AX.spec {Fx:V→Value→Prop} {w:World} {O O':Nat→Prop} {E:Env} (hF:∀ x y,Fx x y→R0 w O' x y) (hO:∀ b,O' b→O b) {u u':V} (h:AX Fx u u'):∀ {y:Value},R w O E u y→R0 w O' u' y:=by
 induction h with
 |pure u u' hp hs=>intro y hy;exact hs _ _ _ ((hy.pureV hp).mono (Nat.le_refl _) (fun b hb _ hb'=>hb (hO b hb')) fun _ _ _=>rfl)
 |ex y u' h=>intro y' hy;rw [R.v_inv hy];exact hF _ _ h
 |agg2 c d c' d' h1 h2 i1 i2 =>
  intro y hy
  obtain ⟨ys,rfl,hn,hr⟩:=R.agg_inv hy
  refine .agg _ _ hn fun j u y hj hy=>?_
  match j with
  |0=>simp at hj;subst hj;exact i1 (hr 0 c y rfl hy)
  |1=>simp at hj;subst hj;exact i2 (hr 1 d y rfl hy)
  |j+2=>simp at hj
 |agg4 a b c d a' b' c' d' h1 h2 h3 h4 i1 i2 i3 i4 =>
  intro y hy
  obtain ⟨ys,rfl,hn,hr⟩:=R.agg_inv hy
  refine .agg _ _ hn fun j u y hj hy=>?_
  match j with
  |0=>simp at hj;subst hj;exact i1 (hr 0 a y rfl hy)
  |1=>simp at hj;subst hj;exact i2 (hr 1 b y rfl hy)
  |2=>simp at hj;subst hj;exact i3 (hr 2 c y rfl hy)
  |3=>simp at hj;subst hj;exact i4 (hr 3 d y rfl hy)
  |j+4=>simp at hj
inductive AXs (Fx:V→Value→Prop):List V→List V→Prop
 |nil:AXs Fx [] []
 |cons {x x':V} {l l':List V} (h:AX Fx x x') (t:AXs Fx l l'):AXs Fx (x::l) (x'::l')
theorem AXs.spec {Fx:V→Value→Prop} {l l':List V} (h:AXs Fx l l'):l.length=l'.length∧∀ (j:Nat) (u':V),l'[j]? = some u'→∃ u,l[j]? = some u∧AX Fx u u':=by
 induction h with
 |nil=>exact ⟨rfl,by simp⟩
 |cons h t ih =>
  refine ⟨by simp [ih.1],fun j u' hj=>?_⟩
  cases j with
  |zero=>simp at hj;subst hj;exact ⟨_,rfl,h⟩
  |succ j=>simp at hj;simpa using ih.2 j u' hj
inductive Hi (N:Nat):V→Prop
 |any:Hi N .any
 |v (x:Value):Hi N (.v x)
 |lst (lo sz:Nat) (l:List (List V)) (h:N≤lo) (hr:∀ (i:Nat) (x:List V) (j:Nat) (u:V),l[i]? = some x→x[j]? = some u→Hi N u):Hi N (.lst lo sz l)
 |agg (cs:List V) (hr:∀ (j:Nat) (u:V),cs[j]? = some u→Hi N u):Hi N (.agg cs)
 |tup (cs:List V) (hr:∀ (j:Nat) (u:V),cs[j]? = some u→Hi N u):Hi N (.tup cs)
theorem Hi.spec {N:Nat} {w:World} {O O':Nat→Prop} {x:V} {y:Value} (h:R0 w O' x y):Hi N x→(∀ b,N≤b→O b→O' b)→R0 w O x y:=by
 induction h with
 |any y=>intro _ _;exact .any y
 |v x=>intro _ _;exact .v x
 |lst lo sz l a n cap b o g hlo hn hc hl ha hs hz hr ih =>
  intro h hO
  cases h with
  |lst _ _ _ h1 h2=>exact .lst lo sz l a n cap b o g hlo hn hc hl (fun h=>⟨(ha h).1,fun hb=>(ha h).2.1 (hO b (Nat.le_trans h1 (hlo h)) hb),(ha h).2.2⟩) hs hz fun i x j u q1 q2=>ih i x j u q1 q2 (h2 i x j u q1 q2) hO
 |fp cs b o g h1 hb hs hr ih=>intro h;cases h
 |agg cs ys hn hr ih =>
  intro h hO
  cases h with
  |agg _ h2=>exact .agg cs ys hn fun j u y q1 q2=>ih j u y q1 q2 (h2 j u q1) hO
 |tup cs ys hn hr ih =>
  intro h hO
  cases h with
  |tup _ h2=>exact .tup cs ys hn fun j u y q1 q2=>ih j u y q1 q2 (h2 j u q1) hO
 |fn f cap ys hn hr ih=>intro h;cases h
theorem Hi.agg2 {N:Nat} {x y:V} (h1:Hi N x) (h2:Hi N y):Hi N (.agg [x,y]):=.agg _ fun j u h=>by
 match j with
 |0=>simp at h;subst h;exact h1
 |1=>simp at h;subst h;exact h2
 |j+2=>simp at h
theorem Hi.map {α:Type} {N lo sz:Nat} {l:List α} {f:α→List V} (h:N≤lo) (hf:∀ (x:α) (j:Nat) (u:V),(f x)[j]? = some u→Hi N u):Hi N (.lst lo sz (l.map f)):=.lst _ _ _ h fun i x j u h1 h2=>by
 simp only [List.getElem?_map,Option.map_eq_some_iff] at h1
 obtain ⟨z,_,rfl⟩:=h1
 exact hf z j u h2
def isS:Value→Bool
 |.string _=>true
 |_=>false
def loose (wz w:World) (b:Nat):Prop:=∀ (ys:Array Value) (t:TypeId) (fz:Nat×Nat),wz.heap[b]? = some (.cells ys t fz) →
 ∃ ys':Array Value,w.heap[b]? = some (.cells ys' t fz)∧ys'.size=ys.size∧∀ (j:Nat) (v:Value),ys[j]? = some v→∃ v',ys'[j]? = some v'∧(v'=v∨(isS v=true∧isS v'=true))
theorem loose.same {wz w:World} {b:Nat} (h:w.heap[b]? = wz.heap[b]?):loose wz w b:=fun ys t fz hz=>⟨ys,h.trans hz,rfl,fun j v hj=>⟨v,hj,.inl rfl⟩⟩
theorem loose.next {wz w w':World} {b:Nat} (h:loose wz w b) (e:w'.heap[b]? = w.heap[b]?):loose wz w' b:=fun ys t fz hz=>by
 obtain ⟨ys',h1,h2,h3⟩:=h ys t fz hz
 exact ⟨ys',e.trans h1,h2,h3⟩
theorem d2g {w:World} {b o:Nat} {v:Value} (h:w.cell? ⟨b,o,none⟩=some v):∃ ys t fz,w.heap[b]? = some (.cells ys t fz)∧ys[o]? = some v:=by
 unfold World.cell? at h
 split at h
 ·rename_i c t fz hc
  exact ⟨c,t,fz,hc,by simpa using h⟩
 ·cases h
theorem loose.cell {wz w:World} {b o:Nat} {v:Value} (h:loose wz w b) (hc:b8f wz ⟨b,o,none⟩ v):∃ v',b8f w ⟨b,o,none⟩ v'∧(v'=v∨(isS v=true∧isS v'=true)):=by
 obtain ⟨ys,t,fz,h1,h2⟩:=d2g hc.1
 obtain ⟨ys',h3,h4,h5⟩:=h ys t fz h1
 obtain ⟨v',h6,h7⟩:=h5 o v h2
 refine ⟨v',⟨by simp [World.cell?,h3,h6],fun hw=>?_⟩,h7⟩
 have hw':wrV v=true:=by
  rcases h7 with rfl|⟨h8,_⟩
  ·exact hw
  ·cases v<;>first|rfl|cases h8
 have:=hc.2 hw'
 simpa [World.frozen?,h1,h3] using this
theorem loose.set {wz w:World} {b o:Nat} {v:Value} (h:loose wz w b) (hc:wz.cell? ⟨b,o,none⟩=some v) (hv:isS v=true) (x:ByteArray):loose wz (w.setCell ⟨b,o,none⟩ (.string x)) b:=fun ys t fz hz=>by
 obtain ⟨ys0,t0,fz0,h1,h2⟩:=d2g hc
 rw [hz] at h1
 cases h1
 obtain ⟨ys',h3,h4,h5⟩:=h ys t fz hz
 refine ⟨ys'.setIfInBounds o (.string x),by simp [World.setCell,Array.getElem?_modify,h3],by simpa using h4,fun j u hj=>?_⟩
 by_cases e:o=j
 ·subst e
  rw [h2] at hj
  cases hj
  have:o < ys'.size:=by rw [h4];exact (Array.getElem?_eq_some_iff.1 h2).1
  exact ⟨.string x,by simp [this],.inr ⟨hv,rfl⟩⟩
 ·obtain ⟨v',h6,h7⟩:=h5 j u hj
  exact ⟨v',by rw [Array.getElem?_setIfInBounds_ne e];exact h6,h7⟩
theorem a2n (a b:Code):a5k (.seq a b)=a5k a++a5k b:=rfl
theorem a1j (id:Nat) (l:Array Oper) (d:Bool):a5k (.region id l d)=[.region id l d]:=rfl
theorem a1y (c:Operand) (a b:Code):a5k (.cond c a b)=[.cond c a b]:=rfl
theorem a1q (id:Nat) (c:Code):a5k (.block id c)=[.block id c]:=rfl
theorem e4p (c:Code):a5k (.loop c)=[.loop c]:=rfl
theorem a2o:a5k .ret=[.ret]:=rfl
theorem d9w:a5k .skip=[.skip]:=rfl
theorem g5m {P:Program} {G:Gh} {Q:Exit→St→Prop} (l:List Code) (s:St):vcN P G Q 0 l s=SemL P G l s Q:=rfl
theorem g5c {P:Program} {G:Gh} {Q:Exit→St→Prop} (n:Nat) (s:St):vcN P G Q (n+1) [] s=Q .normal s:=rfl
theorem g4s {P:Program} {G:Gh} {Q:Exit→St→Prop} (n:Nat) (c:Code) (r:List Code) (s:St):vcN P G Q (n+1) (c::r) s=vc P G c s (d4h (fun s _=>vcN P G Q n r s) Q):=rfl
attribute [go_sem] a2n a1j a1y a1q e4p a2o d9w List.singleton_append g5m g5c g4s
theorem a2h {P:Program} {G:Gh} {l:List Code} {s s':St} {Q:Exit→St→Prop} (he:Ent G s s') (h:SemL P G l s' Q):SemL P G l s Q:=fun a w hs=>h a w (he a w hs)
theorem b7c (ow:Nat→Bool) {P:Program} {f:FuncId} {fn:Func} {c:Code} {as:List V} {r:Nat→V} {rs:List ResultVar} {m:Nat} (hf:P.funcs[f]? = some fn) (hm:fn.ntmps=m) (hb:fn.body=some c) (hname:(fn.name == "runtime.NumGoroutine")=false)
  (hn:as.length≤m) (hrs:fn.results=rs.toArray) (hl:rs.length≤3)
  (h:∀ (G:Gh),G.n=m→G.ow=ow→G.nm=[]→(∀ w,G.Zi w)→(∀ x ∈ as,Bd x)→SemL P G (a5k c) (St.of (a4q 0 as) []) (a2b P G.lo rs (r G.lo))):a0p P f as r:=by
 subst hm
 refine ⟨⟨fn,hf,hname,by simp [hb]⟩,fun lo w O ys hlo hO ha=>?_⟩
 refine a7f (G:=(d0t ow w O fn.ntmps lo hlo hO)) rfl hf hb ?_
 refine wpIn_mono (SemL.semC (h (d0t ow w O fn.ntmps lo hlo hO) rfl rfl rfl (fun _=>trivial) ha.bd) _ w (c7i ow hlo hO ha hn)) ?_
 rintro e a w' ⟨s,hq,hs⟩
 have fin:=d1h (P:=P) (ow:=ow) (m:=fn.ntmps) hlo hO hrs hl (r:=r lo) hs
 cases e with
 |normal=>exact fin hq
 |ret=>exact fin hq
 |exit=>exact hq.elim
 |goto=>exact hq.elim
 |panic=>exact hq.elim
 |outgrown=>exact hq.elim
def g2m (y:Value):V→V
 |.lst _ _ _|.fp _=>.v y
 |x=>x
def f2t (z:Nat→Value):Nat→List V→List V
 |_,[]=>[]
 |j,x::r=>g2m (z j) x::f2t z (j+1) r
def g3v (z:Nat→Value):OB→OB
 |.box cs=>.box (f2t z 0 cs)
 |o=>o
def exF (ys:Nat→Value):List (Nat×V)→List (Nat×V)
 |[]=>[]
 |(i,x)::r=>(i,g2m (ys i) x)::exF ys r
def exH (zs:Nat→Nat→Value):List (Nat×OB)→List (Nat×OB)
 |[]=>[]
 |(i,o)::r=>(i,g3v (zs i) o)::exH zs r
theorem f9r (ys:Nat→Value):∀ (fl:List (Nat×V)) (i:Nat),lkV (exF ys fl) i=g2m (ys i) (lkV fl i):=by
 intro fl
 induction fl with
 |nil=>intro i;rfl
 |cons p r ih =>
  obtain ⟨j,x⟩:=p
  intro i
  simp only [exF,lkV]
  split
  ·rename_i e;subst e;rfl
  ·exact ih i
theorem e6g (zs:Nat→Nat→Value):∀ (hl:List (Nat×OB)) (i:Nat),lkH (exH zs hl) i=(lkH hl i).map (g3v (zs i)):=by
 intro hl
 induction hl with
 |nil=>intro i;rfl
 |cons p r ih =>
  obtain ⟨j,x⟩:=p
  intro i
  simp only [exH,lkH]
  split
  ·rename_i e;subst e;rfl
  ·exact ih i
theorem g3k (zs:Nat→Nat→Value):∀ (hl:List (Nat×OB)) (i:Nat),usH (exH zs hl) i=usH hl i:=by
 intro hl
 induction hl with
 |nil=>intro i;rfl
 |cons p r ih=>intro i;simp only [exH,usH,ih]
theorem e9w (z:Nat→Value):∀ (cs:List V) (k j:Nat),(f2t z k cs)[j]? = (cs[j]?).map (g2m (z (k+j))):=by
 intro cs
 induction cs with
 |nil=>intro k j;simp [f2t]
 |cons x r ih =>
  intro k j
  cases j with
  |zero=>simp [f2t]
  |succ j=>simp only [f2t,List.getElem?_cons_succ,ih];rw [show k+1+j=k+(j+1) by omega]
theorem d2j (z:Nat→Value):∀ (cs:List V) (k:Nat),(f2t z k cs).length=cs.length:=by
 intro cs
 induction cs with
 |nil=>intro k;rfl
 |cons x r ih=>intro k;simp [f2t,ih]
theorem f2y {w:World} {O:Nat→Prop} {E:Env} {x:V} {y:Value} (h:R w O E x y):R w O E (g2m y x) y:=by
 cases x<;>first|exact h|exact .r0 _ _ (.v _)
def cellsOf (w:World) (E:Env) (id j:Nat):Value:=match E id with
 |some (some b,_,_)=>match w.heap[b]? with
  |some (.cells ys _ _)=>ys.getD j undef
  |_=>undef
 |_=>undef
theorem SimE.exact {G:Gh} {fl:List (Nat×V)} {hl:List (Nat×OB)} {a:Act} {w:World} {E:Env} (h:SimE G (St.of fl hl) a w E):∃ (ys:Nat→Value) (zs:Nat→Nat→Value),
  (∀ i,R w (OT G (St.of fl hl) E) E (lkV fl i) (ys i))∧(∀ id cs j u,lkH hl id=some (.box cs)→cs[j]? = some u→R w (OT G (St.of fl hl) E) E u (zs id j)) ∧
  (∀ b,OT G (St.of (exF ys fl) (exH zs hl)) E b↔OT G (St.of fl hl) E b)∧SimE G (St.of (exF ys fl) (exH zs hl)) a w E:=by
 have hz:∀ id cs j u,lkH hl id=some (.box cs)→cs[j]? = some u→R w (OT G (St.of fl hl) E) E u (cellsOf w E id j):=fun id cs j u h1 h2=>by
  obtain ⟨b,K,C,k1,b',ys,t,rfl,g2,g3,g4,g5,g6⟩:=h.hp id _ h1
  have hj:j < ys.size:=by rw [g3];exact (List.getElem?_eq_some_iff.1 h2).1
  simp only [cellsOf,k1,g2]
  exact g6 j u _ h2 (by simp [hj])
 have hlive:∀ b,b1f (St.of (exF (fun i=>a.tmps.getD i undef) fl) (exH (cellsOf w E) hl)) E b↔b1f (St.of fl hl) E b:=fun b=>by
  constructor
  ·rintro ⟨id,ob,K,C,h1,h2⟩
   have h1':lkH (exH (cellsOf w E) hl) id=some ob:=h1
   rw [e6g] at h1'
   simp only [Option.map_eq_some_iff] at h1'
   obtain ⟨o,h3,_⟩:=h1'
   exact ⟨id,o,K,C,h3,h2⟩
  ·rintro ⟨id,ob,K,C,h1,h2⟩
   have h1':lkH hl id=some ob:=h1
   refine ⟨id,g3v (cellsOf w E id) ob,K,C,?_,h2⟩
   show lkH (exH (cellsOf w E) hl) id=_
   rw [e6g,h1'];rfl
 have hOT:∀ b,OT G (St.of (exF (fun i=>a.tmps.getD i undef) fl) (exH (cellsOf w E) hl)) E b↔OT G (St.of fl hl) E b:=fun b=>or_congr Iff.rfl (hlive b)
 have hO':∀ b,¬ OT G (St.of fl hl) E b→¬ OT G (St.of (exF (fun i=>a.tmps.getD i undef) fl) (exH (cellsOf w E) hl)) E b:=fun b hb hb'=>hb ((hOT b).1 hb')
 have back:∀ {id ob},lkH (exH (cellsOf w E) hl) id=some ob→∃ o,lkH hl id=some o∧ob=g3v (cellsOf w E id) o:=fun {id ob} h1=>by
  rw [e6g] at h1
  simp only [Option.map_eq_some_iff] at h1
  obtain ⟨o,h3,h4⟩:=h1
  exact ⟨o,h3,h4.symm⟩
 refine ⟨fun i=>a.tmps.getD i undef,cellsOf w E,h.fr,hz,hOT,⟨fun i=>?_,h.defers.mono rfl fun b hb _ _=>⟨rfl,fun hl=>hb ((hlive b).1 hl)⟩,h.size,fun id ob hob=>?_,fun id hid=>?_,fun i i' o o' b x x' k1 k2 k3 k4=>?_,fun i o b x k1 k2=>?_,h.old,h.grow,h.os,h.tape,h.output,h.keep,h.base,h.zi⟩⟩
 ·show R w _ E (lkV (exF _ fl) i) _
  rw [f9r]
  exact (f2y (h.fr i)).weak hO' fun _ _ h=>h
 ·obtain ⟨o,h1,rfl⟩:=back hob
  obtain ⟨b,K,C,k1,k2⟩:=h.hp id o h1
  refine ⟨b,K,C,k1,?_⟩
  cases o with
  |arr t sz l=>exact k2.mono (Nat.le_refl _) (fun b hb _=>hO' b hb) (fun _ _ _=>rfl) (fun _ _ h=>h) fun _ _=>rfl
  |map kk m=>exact k2.mono (Nat.le_refl _) (fun b hb _=>hO' b hb) (fun _ _ _=>rfl) (fun _ _ h=>h) fun _ _=>rfl
  |mpe kk m j bo=>exact k2.mono (Nat.le_refl _) (fun b hb _=>hO' b hb) (fun _ _ _=>rfl) (fun _ _ h=>h) fun _ _=>rfl
  |obj x=>exact k2.mono (Nat.le_refl _) (fun b hb _=>hO' b hb) (fun _ _ _=>rfl) (fun _ _ h=>h) fun _ _=>rfl
  |arx t sz l=>exact k2.mono (Nat.le_refl _) (fun b hb _=>hO' b hb) (fun _ _ _=>rfl) (fun _ _ h=>h) fun _ _=>rfl
  |box cs =>
   obtain ⟨b',ys,t,rfl,g2,g3,g4,g5,g6⟩:=k2
   refine ⟨b',ys,t,rfl,g2,by rw [d2j];exact g3,by rw [d2j];exact g4,g5,fun j u y q1 q2=>?_⟩
   rw [e9w] at q1
   simp only [Option.map_eq_some_iff,Nat.zero_add] at q1
   obtain ⟨u',q3,rfl⟩:=q1
   have e:cellsOf w E id j=y:=by simp only [cellsOf,k1,g2];rw [Array.getD_eq_getD_getElem?,q2];rfl
   rw [e]
   exact (f2y (g6 j u' y q3 q2)).weak hO' fun _ _ h=>h
 ·show usH (exH _ hl) id=true
  rw [g3k];exact h.us id hid
 ·obtain ⟨_,f1,_⟩:=back k1
  obtain ⟨_,f2,_⟩:=back k2
  exact h.inj i i' _ _ b x x' f1 f2 k3 k4
 ·obtain ⟨_,f1,_⟩:=back k1
  exact h.fresh i _ b x f1 k2
end Pm
open Go Go.RowKit
namespace Pm
theorem c9i {P:Program} (w:World) (t u ty e:TypeId) (i:TypeInfo) (ht:P.underlying t=some (.slice e)) (hu:P.underlying u=some .string) (hi:P.info? e=some i) (hz:i.zero=some (.int .u8 0))
  (hsize:i.size=1) (hby:i.bytes=1) (v:Value) (n:Nat) (xs:List Value) (hown:w.ownsRow 0 e 1 v n xs) (s:ByteArray) (h63:n+s.size≤maxLen) (hbytes:n+s.size≤140737488355328) :
  ∃ v' w',(Builtin.append_ #[t,u] ty #[v,.string s]).run P w=.ok v' w'∧w'.ownsRow 0 e 1 v' (n+s.size) (xs++Lib.strCells s)∧w.grownBy w' v.ownBlock∧(v'.ownBlock=v.ownBlock∨v'.ownBlock=some w.heap.size):=by
 obtain ⟨v',w',h1,h2,h3,h4⟩:=Lib.run_append_own_string (P:=P) w 0 t u ty e i ht hu hi hz hsize hby v n xs hown s h63 hbytes (Nat.zero_le _)
 refine ⟨v',w',h1,h2,h3,?_⟩
 have hsmall:n+s.size≤9223372036854775807:=by simp only [maxLen] at h63;omega
 rcases hown.2 with ⟨rfl,rfl⟩|⟨g,cap,cur,rfl,hbg,hg,hnc,hcm,hcs,htake⟩
 ·by_cases hm:s.size=0
  ·left
   rw [h4.2 ⟨rfl,hm⟩]
  ·right
   have hr:=run_append_nil_string (P:=P) w t u ty e i (.int .u8 0) ht hu hi hz s (by omega) (by omega) (by rw [hby];omega)
   rw [h1] at hr
   simp only [Result.ok.injEq] at hr
   rw [hr.1];rfl
 ·have hcs':cur.size=cap:=by simpa using hcs
  by_cases hroom:n+s.size≤cap
  ·left
   have hr:=Lib.run_append_room_string (P:=P) w t u ty e i ht hu hi hsize g n cap cur hg s hroom (by omega)
   rw [h1] at hr
   simp only [Result.ok.injEq] at hr
   rw [hr.1];rfl
  ·right
   have holds:∀ j u,xs[j]? = some u→w.cell? ((⟨g,0,none⟩:Addr).add j)=some u:=hown.cells (g:=g) rfl
   have hr:=Lib.run_append_grow_string (P:=P) w t u ty e i (.int .u8 0) ht hu hi hz ⟨g,0,none⟩ n cap xs (by rw [hsize];simpa using hown.1) holds s (by omega) (by omega) (by rw [hby];exact growslice_fits (by omega) (by omega))
   rw [h1] at hr
   simp only [Result.ok.injEq] at hr
   rw [hr.1];rfl
def c7a (P:Program) (el:TypeId):Prop:=(P.info? el).map (fun i=>(i.zero,i.size,i.bytes))=some (some (.int .u8 0),1,1)
theorem e3u (l:List UInt8):∀ r ∈ l.map a5j,r.length=1:=fun r hr=>by
 obtain ⟨b,_,rfl⟩:=List.mem_map.1 hr;rfl
theorem d0n {P:Program} {G:Gh} {s:St} {o:Oper} {d t u el:Nat} {xo yo:Operand} {x:V} {l:List (List V)} {io:Option Nat} {str:ByteArray}
  (ho:o.op=.call ⟨.builtin .append,#[xo,yo],#[t,u]⟩) (hx:ev s xo=x) (hy:ev s yo=.v (.string str))
  (hu:s.used d=false) (ha:IsArr s el 1 x l io) (hse:a0t P t=some (el,1)) (hus:tk P u=.str) (hb:c7a P el)
  (hlen:l.length+str.size≤140737488355328) :
  ∀ a w E,SimE G s a w E→∃ v' w' E',(execOp a.eval o).run P w=.ok (.value v') w'∧SimE G (a1e s (a2z io++[(d,some (.arr el 1 (l++str.data.toList.map a5j)))])) a w' E'∧R w' (OT G (a1e s (a2z io++[(d,some (.arr el 1 (l++str.data.toList.map a5j)))])) E') E' (.own d 0 (l.length+str.size) 1) v':=by
 intro a w E hs
 obtain ⟨hU,inf,hinf,hsz⟩:=a2c hse
 have hb':=hb
 unfold c7a at hb'
 rw [hinf] at hb'
 simp only [Option.map_some,Option.some.injEq,Prod.mk.injEq] at hb'
 obtain ⟨hz0,hz1,hz2⟩:=hb'
 have hRx:=a2f hs hx
 have hyv:=R.v_inv (a2f hs hy)
 obtain ⟨xs,hown,hob1,hxs⟩:=c8u hs ha hRx
 have hall:l.length+str.size≤maxLen:=by simp only [maxLen];omega
 obtain ⟨v',w',hrun,hown',hgrow,hblk⟩:=c9i (P:=P) w t u o.type el inf hU (b2t hus) hinf hz0 hz1 hz2 (a.eval xo) l.length xs hown str hall hlen
 have hexec:(execOp a.eval o).run P w=.ok (.value v') w':=by
  have:=hrun
  simp [execOp,ho,resolve,invoke,builtin,hyv,this]
 obtain ⟨hxl,_⟩:=hown
 have hxl':xs.length=l.length:=by simpa using hxl
 have hsl:str.data.toList.length=str.size:=by rw [Array.length_toList];rfl
 obtain ⟨new,hnew⟩:∃ new,new=str.data.toList.map a5j:=⟨_,rfl⟩
 have hnl:new.length=str.size:=by rw [hnew,List.length_map,hsl]
 rw [← hnew]
 have hlive:∀ b,(a.eval xo).ownBlock=some b→OT G s E b:=fun b hb=>by
  obtain ⟨id,C,ob,_,h2,h3⟩:=hob1 b hb
  exact .inr ⟨id,ob,_,C,h2,h3⟩
 have hkeep:∀ b,¬ OT G s E b→b < w.heap.size→w'.heap[b]? = w.heap[b]?:=fun b hnb hlt=>hgrow.block b hlt (fun e=>hnb (hlive b e.symm))
 have hrow:∀ b,(a.eval xo).ownBlock=some b→∃ id ob' K' C',io=some id∧s.hp id=some ob'∧E id=some (some b,K',C'):=fun b hb=>by
  obtain ⟨id,C,ob,h1,h2,h3⟩:=hob1 b hb
  exact ⟨id,ob,_,C,h1,h2,h3⟩
 have hel:∀ q,q ∈ l++new→q.length=1:=fun q hq=>by
  rcases List.mem_append.1 hq with hq|hq
  ·cases ha with
   |nil=>simp at hq
   |own id _ hob =>
    obtain ⟨b,K,C,h1,h2,_⟩:=hs.hp id _ hob
    exact h2 q hq
  ·rw [hnew] at hq
   exact e3u _ q hq
 rcases hown'.2 with ⟨hv,hzero⟩|⟨g,cap,cur,hv,_,hcur,hle,hcap,hcs,htake⟩
 ·obtain ⟨E',h1,h2⟩:=hs.grown (io:=io) (d:=d) hu (ob:=.arr el 1 (l++new)) (bo:=none) (K:=0) (C:=0) hgrow hrow (by simp) (by simp) (fun O' E' _=>⟨hel,by decide,by rw [List.length_append];omega,by rw [List.length_append];omega,rfl,rfl⟩)
  refine ⟨v',w',E',hexec,h1,.own d 0 _ 1 none 0 0 _ h2 ⟨by omega,Nat.le_refl _,rfl,hzero,hv⟩⟩
 ·have hgb:(a.eval xo).ownBlock=some g∨g=w.heap.size:=by
   rw [hv] at hblk
   rcases hblk with hb|hb
   ·exact .inl hb.symm
   ·right;simpa [Value.ownBlock] using hb
  have hHB:∀ (O':Nat→Prop) (E':Env),(∀ b,¬ OT G s E b→b < w.heap.size→¬ O' b)→HB w' O' E' (some g) (l.length+str.size) cap (.arr el 1 (l++new)):=fun O' E' hO'=>by
   refine ⟨hel,by decide,by rw [List.length_append];omega,by rw [List.length_append,hnl],cur,hcur,hcs,hle,hcap,fun i x j u y h3 h4 h5=>?_⟩
   have hj:j < 1:=by rw [← hel x (List.mem_of_getElem? h3)];exact (List.getElem?_eq_some_iff.1 h4).1
   have hi:i < l.length+str.size:=by have:=(List.getElem?_eq_some_iff.1 h3).1;rw [List.length_append,hnl] at this;exact this
   have h5':(xs++Lib.strCells str)[i * 1+j]? = some y:=by
    rw [← htake,List.getElem?_take,if_pos (by omega)];simpa using h5
   have mono:∀ {u:V} {y:Value},R0 w (OT G s E) u y→R0 w' O' u y:=fun h=>h.mono hgrow.size hO' hkeep
   by_cases hil:i < l.length
   ·rw [List.getElem?_append_left hil] at h3
    rw [List.getElem?_append_left (by omega)] at h5'
    exact mono (hxs i x j u y h3 h4 h5')
   ·rw [List.getElem?_append_right (by omega),hnew,List.getElem?_map] at h3
    rw [List.getElem?_append_right (by omega)] at h5'
    have e1:i * 1+j - xs.length=i - l.length:=by omega
    rw [e1] at h5'
    unfold Lib.strCells at h5'
    rw [List.getElem?_map] at h5'
    obtain ⟨b,hb1,rfl⟩:=Option.map_eq_some_iff.1 h3
    rw [hb1] at h5'
    have hj0:j=0:=by omega
    subst hj0
    simp only [a5j,List.getElem?_cons_zero,Option.some.injEq] at h4
    subst h4
    simp only [Option.map_some,Option.some.injEq] at h5'
    subst h5'
    exact .v _
  obtain ⟨E',h1,h2⟩:=hs.grown (io:=io) (d:=d) hu (ob:=.arr el 1 (l++new)) (bo:=some g) (K:=l.length+str.size) (C:=cap) hgrow hrow (fun b hb=>by cases hb;exact hgb)
   (fun b hb=>by cases hb;exact (Array.getElem?_eq_some_iff.1 hcur).1) hHB
  exact ⟨v',w',E',hexec,h1,.own d 0 _ 1 (some g) _ cap _ h2 ⟨by omega,hle,0,by simp,by rw [hv];simp⟩⟩
theorem b5n {P:Program} {G:Gh} {s:St} {o:Oper} {Q:Exit→St→Prop} {rest:St→Prop} {d t u el:Nat} {xo yo:Operand} {x:V} {l:List (List V)} {io:Option Nat} {str:ByteArray}
  (ho:o.op=.call ⟨.builtin .append,#[xo,yo],#[t,u]⟩) (hx:ev s xo=x) (hy:ev s yo=.v (.string str)) (hd:o.dst=some d) (hdn:d < G.n)
  (hu:s.used d=false) (ha:IsArr s el 1 x l io) (hse:a0t P t=some (el,1)) (hus:tk P u=.str) (hb:c7a P el)
  (hlen:l.length+str.size≤140737488355328)
  (hr:rest (app s o.dst (.own d 0 (l.length+str.size) 1,a2z io++[(d,some (.arr el 1 (l++str.data.toList.map a5j)))]))):SemStep P G o s Q rest:=by
 intro a w hs
 refine a1g (fun c hc=>by rw [ho] at hc;cases hc) ?_
 exact a2k (fun d' h=>by rw [hd] at h;cases h;exact hdn) (d0n ho hx hy hu ha hse hus hb hlen) a w hs _ _ fun a' w' hs'=>⟨_,hr,hs'⟩
theorem c6q {P:Program} {G:Gh} {s:St} {o:Oper} {Q:Exit→St→Prop} {rest:St→Prop} {d t t' i k:Nat} {xo yo:Operand}
  (ho:o.op=.binOp .neq t xo yo t') (hx:ev s xo=.ptr i k) (hy:ev s yo=.ptr i k) (hd:o.dst=some d) (hdn:d < G.n) {e:TypeId} (hu:P.underlying t=some (.pointer e)) (hi:(P.info? e).isSome=true)
  (hr:rest (a4u s o.dst (.v (.bool false)))):SemStep P G o s Q rest:=by
 intro a w hs
 refine a1g (fun c hc=>by rw [ho] at hc;cases hc) ?_
 obtain ⟨inf,hinf⟩:=Option.isSome_iff_exists.1 hi
 refine a0i (x:=.v (.bool false)) (fun d' h=>by rw [hd] at h;cases h;exact hdn) (fun a w E hs=>⟨_,?_,.r0 _ _ (.v _)⟩) a w hs _ _ fun a' w' hs'=>⟨_,hr,hs'⟩
 obtain ⟨b,K,C,hE,hxv⟩:=R.ptr_inv (a2f hs hx)
 obtain ⟨b',K',C',hE',hyv⟩:=R.ptr_inv (a2f hs hy)
 rw [hE] at hE'
 cases hE'
 have hq:(Op.equal t (a.eval xo) (a.eval yo)).run P w=.ok true w:=by
  rw [hxv,hyv]
  exact a5s fun d=>by by_cases h0:inf.size=0<;>simp [Op.equalIn,a0m P w hu,a1o P w hinf,h0,sameAddr]
 have hg:(eqGuard .neq t xo yo (a.eval xo) (a.eval yo)).run P w=.ok () w:=by rw [hxv,hyv];unfold eqGuard;split<;>simp
 have hb:binOp .neq t (a.eval xo) (a.eval yo)=(do pure (.bool (!(← Op.equal t (a.eval xo) (a.eval yo))))):=by rw [hxv,hyv];rfl
 simp [execOp,ho,hg,hb,hq]
theorem e5n {P:Program} {G:Gh} {s:St} {o:Oper} {Q:Exit→St→Prop} {rest:St→Prop} {d t:Nat}
  (ho:o.op=.alloc t) (hd:o.dst=some d) (hdn:d < G.n) (hu:s.used d=false) (hz:a0r P t=some [.pointer none,.slice none 0 0])
  (hr:rest (app s o.dst (.ptr d 0,[(d,some (.obj (.cells #[.pointer none,.slice none 0 0] t (0,0))))]))):SemStep P G o s Q rest:=by
 intro a w hs
 refine a1g (fun c hc=>by rw [ho] at hc;cases hc) ?_
 refine a2k (x:=.ptr d 0) (l:=[(d,some (.obj (.cells #[.pointer none,.slice none 0 0] t (0,0))))]) (fun d' h=>by rw [hd] at h;cases h;exact hdn) (fun a w E hs=>?_) a w hs _ _ fun a' w' hs'=>⟨_,hr,hs'⟩
 obtain ⟨zv,hzr,hzc⟩:=b3p hz w
 have hzc':zv.cells=#[.pointer none,.slice none 0 0]:=by apply Array.ext';simpa using hzc
 obtain ⟨E',h1,h2,h3,h4⟩:=hs.new (id:=d) hu (o:=.cells zv.cells t) (ob:=.obj (.cells #[.pointer none,.slice none 0 0] t (0,0))) (K:=0) (C:=0) (fun O' E' hO hE=>⟨w.heap.size,rfl,by rw [a5z,hzc'],rfl,rfl⟩)
 refine ⟨.pointer (some ⟨w.heap.size,0,none⟩),_,E',?_,h1,.ptr d 0 _ _ _ h2⟩
 simp [execOp,ho,Instr.alloc,newVar,newRow,hzr]
end Pm
open Go Go.RowKit
namespace Pm
attribute [go_sem] c7v
inductive IsArrX (s:St) (el sz:Nat):V→List (List V)→Option Nat→Prop
 |own (id:Nat) (l:List (List V)) (h:s.hget id=some (.arx el sz l)):IsArrX s el sz (.own id 0 l.length sz) l (some id)
 |arr (id:Nat) (l:List (List V)) (h:s.hget id=some (.arr el sz l)):IsArrX s el sz (.own id 0 l.length sz) l (some id)
 |nil:IsArrX s el sz (.v (.slice none 0 0)) [] none
inductive IsSrcX (s:St) (sz:Nat):V→List (List V)→Prop
 |box (id:Nat) (r:List V) (h:s.hget id=some (.box r)) (hr:r.length=sz):IsSrcX s sz (.own id 0 1 sz) [r]
 |src (y:V) (l:List (List V)) (h:IsSrc s sz y l):IsSrcX s sz y l
theorem d6o {G:Gh} {s:St} {a:Act} {w:World} {E:Env} (hs:SimE G s a w E) {sz:Nat} {y:V} {rows:List (List V)} (hsrc:IsSrcX s sz y rows) {yv:Value} (hR:R w (OT G s E) E y yv) :
  ∃ ad c,yv=.slice ad rows.length c∧(rows≠[]→∃ A:Addr,ad=some A∧∃ news:List Value,news.length=rows.length * sz∧(∀ j u,news[j]? = some u→w.cell? (A.add j)=some u) ∧
   (∀ r ∈ rows,r.length=sz)∧∀ (i:Nat) (r:List V) (j:Nat) (u:V) (z:Value),rows[i]? = some r→r[j]? = some u→news[i * sz+j]? = some z→R w (OT G s E) E u z):=by
 cases hsrc with
 |src _ _ h =>
  obtain ⟨ad,c,h1,h2⟩:=c5c hs h hR
  refine ⟨ad,c,h1,fun hne=>?_⟩
  obtain ⟨A,h3,news,h4,h5,h6,h7⟩:=h2 hne
  exact ⟨A,h3,news,h4,h5,h6,fun i r j u z g1 g2 g3=>.r0 _ _ (h7 i r j u z g1 g2 g3)⟩
 |box id r hob hr =>
  obtain ⟨b,K,C,hE,hle,hKC,hv⟩:=R.own_inv hR
  obtain ⟨b1,K1,C1,h1,b',ys,t,hb,hh,hsz,hK,hKC',hrr⟩:=hs.hp id _ hob
  rw [hE] at h1
  cases h1
  cases hb
  obtain ⟨o,ho,rfl⟩:=hv
  obtain rfl:o=0:=by rw [ho (.inl (by omega))];simp
  refine ⟨_,_,rfl,fun _=>⟨_,rfl,ys.toList,by simp;omega,fun j u hj=>?_,fun x hx=>by simp at hx;subst hx;exact hr,fun i x j u z g1 g2 g3=>?_⟩⟩
  ·rw [a3j,cell_of_row w b' _ ys t (0,0) hh,Nat.zero_add]
   simpa using hj
  ·have hi:i=0:=by have:=(List.getElem?_eq_some_iff.1 g1).1;simp at this;exact this
   subst hi
   simp at g1
   subst g1
   rw [Nat.zero_mul,Nat.zero_add] at g3
   exact hrr j u z g2 (by simpa using g3)
theorem e6r {G:Gh} {s:St} {a:Act} {w:World} {E:Env} (hs:SimE G s a w E) {el sz:Nat} {x:V} {l:List (List V)} {io:Option Nat} (ha:IsArrX s el sz x l io) {xv:Value} (hR:R w (OT G s E) E x xv) :
  ∃ xs:List Value,w.ownsRow 0 el sz xv l.length xs∧(∀ b,xv.ownBlock=some b→∃ id C ob,io=some id∧s.hp id=some ob∧E id=some (some b,l.length,C)) ∧
   ∀ (i:Nat) (x:List V) (j:Nat) (u:V) (z:Value),l[i]? = some x→x[j]? = some u→xs[i * sz+j]? = some z→R w (OT G s E) E u z:=by
 cases ha with
 |nil =>
  rw [R.v_inv hR]
  exact ⟨[],World.ownsRow_nil w 0 el sz,fun b h=>by simp [Value.ownBlock] at h,fun i x j u z h=>by simp at h⟩
 |arr id l hob =>
  obtain ⟨xs,h1,h2,h3⟩:=c8u hs (.own id l hob) hR
  exact ⟨xs,h1,h2,fun i x j u z g1 g2 g3=>.r0 _ _ (h3 i x j u z g1 g2 g3)⟩
 |own id l hob =>
  obtain ⟨b,K,C,hE,hle,hKC,hv⟩:=R.own_inv hR
  obtain ⟨b1,K1,C1,h1,hz,h0,hl48,hlK,hb⟩:=hs.hp id _ hob
  rw [hE] at h1
  cases h1
  cases b with
  |none =>
   obtain ⟨_,hl0,rfl⟩:=hv
   have hnil:l=[]:=List.eq_nil_of_length_eq_zero hl0
   subst hnil
   exact ⟨[],World.ownsRow_nil w 0 el sz,fun b h=>by simp [Value.ownBlock] at h,fun i x j u z h=>by simp at h⟩
  |some b =>
   obtain ⟨o,ho,rfl⟩:=hv
   obtain ⟨ys,hh,hys,_,hCm,hr⟩:=hb
   obtain rfl:o=0:=by rw [ho (.inr rfl)];simp
   have hle':l.length * sz≤C * sz:=Nat.mul_le_mul_right _ (by omega)
   have hyl:ys.toList.length=C * sz:=by simpa using hys
   refine ⟨ys.toList.take (l.length * sz),⟨by rw [List.length_take,hyl,Nat.min_eq_left hle'],.inr ⟨b,C,ys,by simp,Nat.zero_le _,hh,by omega,hCm,hys,rfl⟩⟩,fun b' h=>?_,fun i x j u z h1 h2 h3=>?_⟩
   ·simp [Value.ownBlock] at h;subst h;exact ⟨id,C,_,rfl,hob,by rw [hE,← hlK]⟩
   ·obtain ⟨h3,_⟩:=a0x _ _ _ _ h3
    exact hr i x j u z h1 h2 (by simpa using h3)
theorem SimE.grownX {G:Gh} {s:St} {a:Act} {w w':World} {E:Env} (h:SimE G s a w E) {io:Option Nat} {d:Nat} (hd:s.us d=false) {ob:OB} {bo:Option Nat} {K C:Nat} {row:Option Nat}
  (hg:w.grownBy w' row) (hrow:∀ b,row=some b→∃ id ob' K' C',io=some id∧s.hp id=some ob'∧E id=some (some b,K',C')) (hb:∀ b,bo=some b→row=some b∨b=w.heap.size) (hlt:∀ b,bo=some b→b < w'.heap.size)
  (hHB:∀ (O':Nat→Prop) (E':Env),(∀ b,¬ OT G s E b→b < w.heap.size→¬ O' b)→(∀ id r,E id=some r→E' id=some r)→HB w' O' E' bo K C ob) :
  ∃ E',SimE G (a1e s (a2z io++[(d,some ob)])) a w' E'∧E' d=some (bo,K,C):=by
 have hE0:E d=none:=by
  cases he:E d with
  |none=>rfl
  |some r=>have:=h.us d (by rw [he];simp);rw [hd] at this;cases this
 let E':Env:=fun i=>if i=d then some (bo,K,C) else E i
 have hE'd:E' d=some (bo,K,C):=if_pos rfl
 have hhp:∀ i,(a1e s (a2z io++[(d,some ob)])).hp i=if d=i then some ob else if io=some i then none else s.hp i:=fun i=>by
  cases io with
  |none=>simp [a2z,a1e,St.hset]
  |some id=>simp [a2z,a1e,St.hset]
 have hus:∀ i,s.us i=true→(a1e s (a2z io++[(d,some ob)])).us i=true:=fun i hi=>by cases io<;>simp [a2z,a1e,St.hset,hi]
 have husd:(a1e s (a2z io++[(d,some ob)])).us d=true:=by cases io<;>simp [a2z,a1e,St.hset]
 have husi:∀ i,io=some i→(a1e s (a2z io++[(d,some ob)])).us i=true:=fun i hi=>by subst hi;simp [a2z,a1e,St.hset]
 have hfr:(a1e s (a2z io++[(d,some ob)])).fr=s.fr:=by cases io<;>rfl
 have own:∀ i o,(i=d∨io=some i)→(a1e s (a2z io++[(d,some ob)])).hp i=some o→i=d∧o=ob:=fun i o hi ho=>by
  rw [hhp] at ho
  split at ho
  ·rename_i e;cases ho;exact ⟨e.symm,rfl⟩
  ·rename_i e
   rcases hi with hi|hi
   ·exact (e hi.symm).elim
   ·rw [if_pos hi] at ho;cases ho
 have hEE:∀ i r,E i=some r→E' i=some r:=fun i r hi=>by
  show (if i=d then _ else E i)=_
  rw [if_neg (by rintro rfl;rw [hE0] at hi;cases hi)]
  exact hi
 refine ⟨E',(h.upd (s':=a1e s (a2z io++[(d,some ob)])) (E':=E') (fun i=>i=d∨io=some i) hfr hg.size hg.os hg.tape hg.output (fun b hlt hne=>hg.block b hlt fun e=>?_)
  (fun i hi=>⟨by rw [hhp,if_neg fun e=>hi (.inl e.symm),if_neg fun e=>hi (.inr e)],if_neg fun e=>hi (.inl e)⟩)
  hEE hus (fun i hi _=>?_) (fun i o hi ho=>?_) (fun i o b' K' C' hi ho he=>?_) (fun i i' o o' b x x' hi hi' ho ho' _ _=>?_)).1,hE'd⟩
 ·obtain ⟨id,ob',K',C',h1,h2,h3⟩:=hrow b e.symm
  exact hne id ob' K' C' (.inr h1) h2 h3
 ·rcases hi with rfl|hi
  ·exact husd
  ·exact husi i hi
 ·obtain ⟨rfl,rfl⟩:=own i o hi ho
  exact ⟨_,_,_,hE'd,fun hO1=>hHB _ _ hO1 hEE⟩
 ·obtain ⟨rfl,rfl⟩:=own i o hi ho
  rw [hE'd] at he
  cases he
  rcases hb b' rfl with hr|rfl
  ·obtain ⟨id,ob',K'',C'',q1,q2,q3⟩:=hrow b' hr
   exact .inr ⟨id,ob',K'',C'',.inr q1,q2,q3⟩
  ·exact .inl ⟨Nat.le_refl _,hlt _ rfl⟩
 ·rw [(own i o hi ho).1,(own i' o' hi' ho').1]
theorem c7y {P:Program} {G:Gh} {s:St} {o:Oper} {d t el sz bytes:Nat} {xo yo:Operand} {x y:V} {l new:List (List V)} {io:Option Nat}
  (ho:o.op=.call ⟨.builtin .append,#[xo,yo],#[t,t]⟩) (hx:ev s xo=x) (hy:ev s yo=y)
  (hu:s.used d=false) (ha:IsArrX s el sz x l io) (hsrc:IsSrcX s sz y new) (hse:a0t P t=some (el,sz)) (hz:(a0r P el).map List.length=some sz) (hby:a0k P el=some bytes)
  (h0:0 < sz) (hone:a3b new=true) (hlen:(l.length+new.length) * bytes≤140737488355328) (hlen':l.length+new.length≤140737488355328) :
  ∀ a w E,SimE G s a w E→∃ v' w' E',(execOp a.eval o).run P w=.ok (.value v') w'∧SimE G (a1e s (a2z io++[(d,some (.arx el sz (l++new)))])) a w' E'∧R w' (OT G (a1e s (a2z io++[(d,some (.arx el sz (l++new)))])) E') E' (.own d 0 (l.length+new.length) sz) v':=by
 intro a w E hs
 obtain ⟨hU,inf,hinf,hsz⟩:=a2c hse
 obtain ⟨z,hzk,hzl⟩:∃ z,a0r P el=some z∧z.length=sz:=by simpa using hz
 obtain ⟨zv,hzv,hzc⟩:∃ zv,inf.zero=some zv∧zv.cells.toList=z:=by
  unfold a0r at hzk
  simp only [hinf,Option.bind_some,Option.map_eq_some_iff] at hzk
  exact hzk
 have hzs:zv.cells.size=sz:=by rw [← hzl,← hzc];simp
 have hb:inf.bytes=bytes:=by simpa [a0k,hinf] using hby
 have hRx:=a2f hs hx
 have hRy:=a2f hs hy
 obtain ⟨xs,hown,hob1,hxs⟩:=e6r hs ha hRx
 obtain ⟨ad,c,hyv,hsrc'⟩:=d6o hs hsrc hRy
 -- both ways,nil or not
 have run:∃ v' w' news,(Builtin.append_ #[t,t] o.type #[a.eval xo,a.eval yo]).run P w=.ok v' w'∧w'.ownsRow 0 el sz v' (l.length+new.length) (xs++news)∧w.grownBy w' (a.eval xo).ownBlock ∧
   (v'.ownBlock=(a.eval xo).ownBlock∨v'.ownBlock=some w.heap.size)∧news.length=new.length * sz∧(∀ r ∈ new,r.length=sz) ∧
   ∀ (i:Nat) (r:List V) (j:Nat) (u:V) (z:Value),new[i]? = some r→r[j]? = some u→news[i * sz+j]? = some z→R w (OT G s E) E u z:=by
  by_cases hne:new=[]
  ·have hnil:new=[]:=by simpa using hne
   subst hnil
   simp only [List.length_nil,Nat.add_zero] at *
   have hrun:(Builtin.append_ #[t,t] o.type #[a.eval xo,a.eval yo]).run P w=.ok (a.eval xo) w:=by
    rw [hyv]
    rcases hown.2 with ⟨hv,h0'⟩|⟨g,cap,cur,hv,_,_,hnc,_⟩
    ·rw [hv]
     cases ad<;>simp [Builtin.append_,a0m P w hU,a1o P w hinf,Builtin.lenOf,Builtin.firstCells,loadCells,loadCellsFrom]
    ·rw [hv]
     cases ad<;>simp [Builtin.append_,a0m P w hU,a1o P w hinf,Builtin.lenOf,Builtin.firstCells,hnc,storeCells,loadCells,loadCellsFrom]
   exact ⟨a.eval xo,w,[],hrun,by simpa using hown,World.grownBy.refl w _,.inl rfl,by simp,by simp,fun i r j u z h=>by simp at h⟩
  ·obtain ⟨A,rfl,news,hnl,hnc,hrl,hnr⟩:=hsrc' hne
   have hone':∀ u ∈ news,u.oneCell'=true:=fun u hu=>by
    obtain ⟨k,hk,rfl⟩:=List.getElem_of_mem hu
    have hkl:k < new.length * sz:=by omega
    have hi:k / sz < new.length:=Nat.div_lt_of_lt_mul (by rw [Nat.mul_comm];exact hkl)
    have hj:k % sz < sz:=Nat.mod_lt _ h0
    have hi':k / sz < new.length:=hi
    have hr1:new[k / sz]? = some (new[k / sz]'hi'):=List.getElem?_eq_getElem _
    have hel:=hrl _ (List.getElem_mem hi')
    have hu1:(new[k / sz]'hi')[k % sz]? = some ((new[k / sz]'hi')[k % sz]'(by omega)):=List.getElem?_eq_getElem _
    have hk':news[k / sz * sz+k % sz]? = some news[k]:=by
     rw [show k / sz * sz+k % sz=k from by rw [Nat.mul_comm];exact Nat.div_add_mod k sz]
     exact List.getElem?_eq_getElem hk
    exact b8t (E:=E) (b2p (b5k hone _ (List.getElem_mem hi')) _ _ hu1) (hnr _ _ _ _ _ hr1 hu1 hk')
   obtain ⟨v',w',h1,h2,h3,_,h5⟩:=run_append_own_at (P:=P) w 0 t o.type el inf zv sz bytes hU hinf hzv hsz hb hzs h0 (a.eval xo) l.length xs hown A new.length c news hnl hnc hone' (by simp only [maxLen];omega) hlen (Nat.zero_le _)
   rw [hyv]
   exact ⟨v',w',news,h1,h2,h3,h5,hnl,hrl,hnr⟩
 obtain ⟨v',w',news,hrun,hown',hgrow,hblk,hnl,hrl,hnr⟩:=run
 have hexec:(execOp a.eval o).run P w=.ok (.value v') w':=by
  have:=hrun
  simp [execOp,ho,resolve,invoke,builtin,this]
 obtain ⟨hxl,_⟩:=hown
 have hlive:∀ b,(a.eval xo).ownBlock=some b→OT G s E b:=fun b hb=>by
  obtain ⟨id,C,ob,_,h2,h3⟩:=hob1 b hb
  exact .inr ⟨id,ob,_,C,h2,h3⟩
 have hkeep:∀ b,¬ OT G s E b→b < w.heap.size→w'.heap[b]? = w.heap[b]?:=fun b hnb hlt=>hgrow.block b hlt (fun e=>hnb (hlive b e.symm))
 have hrow:∀ b,(a.eval xo).ownBlock=some b→∃ id ob' K' C',io=some id∧s.hp id=some ob'∧E id=some (some b,K',C'):=fun b hb=>by
  obtain ⟨id,C,ob,h1,h2,h3⟩:=hob1 b hb
  exact ⟨id,ob,_,C,h1,h2,h3⟩
 have hel:∀ q,q ∈ l++new→q.length=sz:=fun q hq=>by
  rcases List.mem_append.1 hq with hq|hq
  ·cases ha with
   |nil=>simp at hq
   |own id _ hob =>
    obtain ⟨b,K,C,h1,h2,_⟩:=hs.hp id _ hob
    exact h2 q hq
   |arr id _ hob =>
    obtain ⟨b,K,C,h1,h2,_⟩:=hs.hp id _ hob
    exact h2 q hq
  ·exact hrl _ hq
 have hall:l.length+new.length≤140737488355328:=hlen'
 rcases hown'.2 with ⟨hv,hzero⟩|⟨g,cap,cur,hv,_,hcur,hle,hcap,hcs,htake⟩
 ·obtain ⟨E',h1,h2⟩:=hs.grownX (io:=io) (d:=d) hu (ob:=.arx el sz (l++new)) (bo:=none) (K:=0) (C:=0) hgrow hrow (by simp) (by simp) (fun O' E' _ _=>⟨hel,h0,by rw [List.length_append];omega,by rw [List.length_append];omega,rfl,rfl⟩)
  refine ⟨v',w',E',hexec,h1,.own d 0 _ sz none 0 0 _ h2 ⟨by omega,Nat.le_refl _,rfl,hzero,hv⟩⟩
 ·have hgb:(a.eval xo).ownBlock=some g∨g=w.heap.size:=by
   rw [hv] at hblk
   rcases hblk with hb|hb
   ·exact .inl hb.symm
   ·right;simpa [Value.ownBlock] using hb
  have hxsz:xs.length=l.length * sz:=hxl
  have hHB:∀ (O':Nat→Prop) (E':Env),(∀ b,¬ OT G s E b→b < w.heap.size→¬ O' b)→(∀ id r,E id=some r→E' id=some r)→HB w' O' E' (some g) (l.length+new.length) cap (.arx el sz (l++new)):=fun O' E' hO' hEE=>by
   refine ⟨hel,h0,by rw [List.length_append];omega,by rw [List.length_append],cur,hcur,hcs,hle,hcap,fun i x j u y h3 h4 h5=>?_⟩
   have hj:j < sz:=by rw [← hel x (List.mem_of_getElem? h3)];exact (List.getElem?_eq_some_iff.1 h4).1
   have hi:i < l.length+new.length:=by have:=(List.getElem?_eq_some_iff.1 h3).1;simpa using this
   have hlt:i * sz+j < (l.length+new.length) * sz:=by
    have:(i+1) * sz≤(l.length+new.length) * sz:=Nat.mul_le_mul_right _ (by omega)
    rw [Nat.succ_mul] at this
    omega
   have h5':(xs++news)[i * sz+j]? = some y:=by
    rw [← htake,List.getElem?_take,if_pos hlt];simpa using h5
   have mono:∀ {u:V} {y:Value},R w (OT G s E) E u y→R w' O' E' u y:=fun h=>h.monoC hgrow.size hO' (fun b h1 h2 _=>hkeep b h1 h2) hEE
   by_cases hil:i < l.length
   ·rw [List.getElem?_append_left hil] at h3
    have hlt2:i * sz+j < l.length * sz:=by
     have:(i+1) * sz≤l.length * sz:=Nat.mul_le_mul_right _ (by omega)
     rw [Nat.succ_mul] at this
     omega
    rw [List.getElem?_append_left (by omega)] at h5'
    exact mono (hxs i x j u y h3 h4 h5')
   ·rw [List.getElem?_append_right (by omega)] at h3
    have hge:l.length * sz≤i * sz:=Nat.mul_le_mul_right _ (by omega)
    rw [List.getElem?_append_right (by omega),hxsz] at h5'
    have e1:i * sz+j - l.length * sz=(i - l.length) * sz+j:=by rw [Nat.mul_sub_right_distrib];omega
    rw [e1] at h5'
    exact mono (hnr (i - l.length) x j u y h3 h4 h5')
  obtain ⟨E',h1,h2⟩:=hs.grownX (io:=io) (d:=d) hu (ob:=.arx el sz (l++new)) (bo:=some g) (K:=l.length+new.length) (C:=cap) hgrow hrow (fun b hb=>by cases hb;exact hgb)
   (fun b hb=>by cases hb;exact (Array.getElem?_eq_some_iff.1 hcur).1) hHB
  exact ⟨v',w',E',hexec,h1,.own d 0 _ sz (some g) _ cap _ h2 ⟨by omega,hle,0,by simp,by rw [hv];simp⟩⟩
theorem c3y {P:Program} {G:Gh} {s:St} {o:Oper} {Q:Exit→St→Prop} {rest:St→Prop} {d t el sz bytes:Nat} {xo yo:Operand} {x y:V} {l new:List (List V)} {io:Option Nat}
  (ho:o.op=.call ⟨.builtin .append,#[xo,yo],#[t,t]⟩) (hx:ev s xo=x) (hy:ev s yo=y) (hd:o.dst=some d) (hdn:d < G.n)
  (hu:s.used d=false) (ha:IsArrX s el sz x l io) (hsrc:IsSrcX s sz y new) (hse:a0t P t=some (el,sz)) (hz:(a0r P el).map List.length=some sz) (hby:a0k P el=some bytes)
  (h0:0 < sz) (hone:a3b new=true) (hlen:(l.length+new.length) * bytes≤140737488355328) (hlen':l.length+new.length≤140737488355328)
  (hr:rest (app s o.dst (.own d 0 (l.length+new.length) sz,a2z io++[(d,some (.arx el sz (l++new)))]))):SemStep P G o s Q rest:=by
 intro a w hs
 refine a1g (fun c hc=>by rw [ho] at hc;cases hc) ?_
 exact a2k (fun d' h=>by rw [hd] at h;cases h;exact hdn) (c7y ho hx hy hu ha hsrc hse hz hby h0 hone hlen hlen') a w hs _ _ fun a' w' hs'=>⟨_,hr,hs'⟩
end Pm
end Go.Proofs.YtmjhfccbbfpppaaGreatDoor
