import Derived.Test.YtmjhfccbbfpppaaGreatDoorQX05
namespace Go.Proofs.YtmjhfccbbfpppaaGreatDoor
open Go Go.RowKit Go.MapKept
set_option linter.unusedSimpArgs false
set_option linter.unusedVariables false
namespace Pm
def b4a:Value→Value→Bool
 |.int _ a,.int _ b=>decide (a=b)
 |.string a,.string b=>decide (a=b)
 |.bool a,.bool b=>a == b
 |.agg a,.agg b=>b7m a.toList b.toList
 |_,_=>false
theorem f0s {t:TypeDesc} {a b:Value} (ha:Fit t a) (hb:Fit t b):eqX a b=true↔a=b:=by
 cases t<;>cases a<;>cases b<;>simp_all [Fit,eqX]
theorem c9p:∀ {ts:List TypeDesc} {xs ys:List Value},Fits ts xs→Fits ts ys→(b7m xs ys=true↔xs=ys)
 |[],_,_,.nil,.nil=>by simp [b7m]
 |_::_,_,_,.cons h1 r1,.cons h2 r2=>by simp [b7m,f0s h1 h2,c9p r1 r2]
theorem b1h {d:KD} {a b:Value} (ha:IsK d a) (hb:IsK d b):b4a a b=true↔a=b:=by
 cases d with
 |agg ts =>
  cases a<;>cases b<;>simp_all [IsK,b4a]
  rename_i x y
  rw [c9p ha hb]
  cases x;cases y;simp
 |_=>cases a<;>cases b<;>simp_all [IsK,b4a]
def f9n:TypeDesc→Value→Bool
 |.bool,.bool _=>true
 |.int k,.int k' _=>decide (k'=k)
 |.string,.string _=>true
 |_,_=>false
def c8b:List TypeDesc→List Value→Bool
 |[],[]=>true
 |t::ts,x::xs=>f9n t x && c8b ts xs
 |_,_=>false
theorem d8l {t:TypeDesc} {x:Value} (h:f9n t x=true):Fit t x:=by
 cases t<;>cases x<;>simp_all [Fit,f9n]
theorem b8w:∀ {ts:List TypeDesc} {xs:List Value},c8b ts xs=true→Fits ts xs
 |[],[],_=>.nil
 |t::ts,x::xs,h=>by
  simp only [c8b,Bool.and_eq_true] at h
  exact .cons (d8l h.1) (b8w h.2)
 |[],_::_,h=>by simp [c8b] at h
 |_::_,[],h=>by simp [c8b] at h
def a8h:KD→Value→Bool
 |.bool,.bool _=>true
 |.int k,.int k' _=>decide (k'=k)
 |.string,.string _=>true
 |.agg ts,.agg ys=>c8b ts ys.toList
 |_,_=>false
theorem a3x {d:KD} {v:Value} (h:a8h d v=true):IsK d v:=by
 cases d with
 |agg ts=>cases v<;>simp_all [IsK,a8h,b8w]
 |_=>cases v<;>simp_all [IsK,a8h]
def f5b (P:Program) (k:TypeId):Option KD:=match P.underlying k with
 |some .bool=>some .bool
 |some (.int q)=>some (.int q)
 |some .string=>some .string
 |some (.struct _)=>(a6n P k).map .agg
 |some (.array _ _)=>(a6n P k).map .agg
 |_=>none
def lkM:List (Value×V)→Value→Option V
 |[],_=>none
 |p::r,k=>if b4a p.1 k=true then some p.2 else lkM r k
def upM:List (Value×V)→Value→V→List (Value×V)
 |[],k,v=>[(k,v)]
 |p::r,k,v=>if b4a p.1 k=true then (k,v)::r else p::upM r k v
def d2w:List (Value×V)→Value→List (Value×V)
 |[],_=>[]
 |p::r,k=>if b4a p.1 k=true then r else p::d2w r k
inductive KdK (P:Program) (kt:TypeId):KD→Prop
 |one (kd:KD) (d:TypeDesc) (hu:P.underlying kt=some d) (hd:∀ v,IsK kd v→IsKey d v) (hd2:∀ v w,IsK kd v→IsK kd w→∃ r,Instr.sameNow d v w=some r∧(r=true↔v=w)):KdK P kt kd
 |wide (ts:List TypeDesc) (hf:a8m P 6 kt=some ts) (ha:∀ xs:List Value,mkX P kt xs=.agg xs.toArray) (hw:(match P.underlying kt with|some (.array _ _)|some (.struct _)=>true|_=>false)=true):KdK P kt (.agg ts)
theorem c4r {P:Program} {kt:TypeId} {kd:KD} (h:f5b P kt=some kd):KdK P kt kd:=by
 unfold f5b at h
 have wide:∀ ts,a6n P kt=some ts→(match P.underlying kt with|some (.array _ _)|some (.struct _)=>true|_=>false)=true→KdK P kt (.agg ts):=fun ts h hw=>by
  unfold a6n at h
  split at h
  ·cases h
  ·refine .wide ts h (fun xs=>?_) hw
   cases hu:P.underlying kt with
   |none=>simp [hu] at hw
   |some d=>cases d<;>simp [hu] at hw<;>simp [mkX,hu,a5k]
 cases hu:P.underlying kt with
 |none=>simp [hu] at h
 |some d =>
  rw [hu] at h
  have one:∀ kd:KD,(∀ v,IsK kd v→IsKey d v)→KdK P kt kd:=fun kd hk=>.one kd d hu hk fun v w h1 h2=>sameNow_of_keys (hk v h1) (hk w h2)
  cases d<;>simp at h
  case bool=>subst h;exact one _ fun v hv=>by cases v<;>simp_all [IsK,IsKey]
  case int q=>subst h;exact one _ fun v hv=>by cases v<;>simp_all [IsK,IsKey]
  case string=>subst h;exact one _ fun v hv=>by cases v<;>simp_all [IsK,IsKey]
  case struct fs=>obtain ⟨ts,h1,rfl⟩:=h;exact wide ts h1 (by simp [hu])
  case array n e=>obtain ⟨ts,h1,rfl⟩:=h;exact wide ts h1 (by simp [hu])
theorem a8j {P:Program} {em:Bool} {D d:Nat} (IH:∀ t l,a8m P D t=some l→∀ (w:World) (xs:List Value),Fits l xs→(Instr.checkKey em d t (mkX P t xs)).run P w=.ok () w) :
  ∀ (fs:List Field) (off:Nat) (ts:List TypeDesc),c8f P (a8m P D) fs off=some ts→∀ (w:World) (px xs:List Value),px.length=off→Fits ts xs →
  (forIn fs PUnit.unit (fun f _=>do if f.name≠"_" then do { let x ← part f.type (px++xs).toArray f.offset;Instr.checkKey em d f.type x;pure (ForInStep.yield PUnit.unit) } else pure (ForInStep.yield PUnit.unit)):Sem PUnit).run P w=.ok PUnit.unit w
 |[],off,ts,h,w,px,xs,h1,h3=>by simp
 |f::fs,off,ts,h,w,px,xs,h1,h3=>by
  unfold c8f at h
  split at h
  ·rename_i l hl
   split at h
   ·rename_i hc
    obtain ⟨c1,c2,c3⟩:=hc
    simp only [Option.map_eq_some_iff] at h
    obtain ⟨r,hr,rfl⟩:=h
    obtain ⟨ux,vx,rfl,fx1,fx2⟩:=h3.split
    have o1:=b1m hl
    have p1:=b2u (w:=w) c3 px ux vx fx1.len o1
    have p3:=IH _ _ hl w ux fx1
    have ih:=a8j IH fs _ r hr w (px++ux) vx (by simp [h1,fx1.len]) fx2
    simp only [List.forIn_cons,c1,ne_eq,not_false_eq_true,if_true,Sem.run_bind]
    rw [c2,← h1,← List.append_assoc,p1]
    simp only [Result.andThen_ok,p3,Sem.run_pure]
    simpa using ih
   ·cases h
  ·cases h
theorem a8v {P:Program} {em:Bool} {d e:Nat} {i:TypeInfo} (hi:P.info? e=some i) {l:List TypeDesc} (his:i.size=l.length) (hl:(a0p P e).map (·.2)=some l.length) (h1:(a0p P e).map (·.1)=some false→l.length=1) (IH:∀ (w:World) (xs:List Value),Fits l xs→(Instr.checkKey em d e (mkX P e xs)).run P w=.ok () w):∀ (n k:Nat) (w:World) (px xs:List Value),px.length=k * l.length→Fits (e1o l n) xs →
  (forIn (List.range' k n) PUnit.unit (fun j _=>do { let z ← sizeOf e;let x ← part e (px++xs).toArray (j * z);Instr.checkKey em d e x;pure (ForInStep.yield PUnit.unit) }):Sem PUnit).run P w=.ok PUnit.unit w
 |0,k,w,px,xs,_,h3=>by simp
 |n+1,k,w,px,xs,q1,h3=>by
  obtain ⟨ux,vx,rfl,fx1,fx2⟩:=h3.split
  have p1:=b2u (w:=w) hl px ux vx fx1.len h1
  have p3:=IH w ux fx1
  have ih:=a8v hi his hl h1 IH n (k+1) w (px++ux) vx (by simp [q1,fx1.len,Nat.succ_mul]) fx2
  rw [List.range'_succ]
  simp only [List.forIn_cons,Sem.run_bind,run_sizeOf w hi,Result.andThen_ok,his]
  have hce:P.cellsOf e=l.length:=by simp [Program.cellsOf,hi,his]
  rw [hce,← q1,← List.append_assoc,p1]
  simp only [Result.andThen_ok,p3,Sem.run_pure]
  simpa using ih
theorem b2n {P:Program} (em:Bool):∀ (D m:Nat) (t:TypeId) (ts:List TypeDesc),a8m P D t=some ts→∀ (w:World) (xs:List Value),Fits ts xs→(Instr.checkKey em (D+m) t (mkX P t xs)).run P w=.ok () w
 |0,_,_,_,h,_,_,_=>by simp [a8m] at h
 |D+1,m,t,ts,h,w,xs,hx=>by
  unfold a8m at h
  cases hu:P.underlying t with
  |none=>simp [hu] at h
  |some d =>
   rw [show D+1+m=(D+m)+1 by omega]
   rw [hu] at h
   cases d with
   |bool=>simp [mkX,hu,a5k,Instr.checkKey,a0m P w hu]
   |int k=>simp [mkX,hu,a5k,Instr.checkKey,a0m P w hu]
   |string=>simp [mkX,hu,a5k,Instr.checkKey,a0m P w hu]
   |struct fs =>
    simp only at h
    split at h
    ·cases h
    ·have:=a8j (em:=em) (d:=D+m) (fun t l h w xs hx=>b2n em D m t l h w xs hx) fs.toList 0 ts h w [] xs rfl hx
     simp only [mkX,hu,a5k,if_true,Instr.checkKey,Sem.run_bind,a0m P w hu,Result.andThen_ok]
     rw [← Array.forIn_toList]
     simp at this
     simp [this]
   |array n e =>
    simp only at h
    split at h
    ·rename_i l hl
     split at h
     ·rename_i hc
      simp only [Option.some.injEq] at h
      subst h
      have hi:∃ i,P.info? e=some i∧i.size=l.length:=by
       cases hk:a0p P e with
       |none=>simp [hk] at hc
       |some q =>
        obtain ⟨ag,z⟩:=q
        obtain ⟨_,i,_,hi,_,hs⟩:=a2b hk
        simp only [hk,Option.map_some,Option.some.injEq] at hc
        exact ⟨i,hi,hs.trans hc⟩
      obtain ⟨i,hi,his⟩:=hi
      have:=a8v (em:=em) (d:=D+m) hi his hc (b1m hl) (fun w xs hx=>b2n em D m e l hl w xs hx) n 0 w [] xs (by simp) hx
      simp only [mkX,hu,a5k,if_true,Instr.checkKey,Sem.run_bind,a0m P w hu,Result.andThen_ok]
      simp only [Std.Legacy.Range.forIn_eq_forIn_range',Std.Legacy.Range.size,Nat.sub_zero,Nat.add_one_sub_one,Nat.div_one]
      simp at this
      simp [this]
     ·cases h
    ·cases h
   |_=>simp at h
theorem a4s {P:Program} {w:World} {kt:TypeId} {kd:KD} {k:Value} (h:f5b P kt=some kd) (hk:IsK kd k) (e:Bool):(Instr.checkKey e 10000 kt k).run P w=.ok () w:=by
 cases c4r h with
 |one _ d hu hd _=>exact MapKept.run_checkKey hu (hd k hk) e 9999
 |wide ts hf ha hw =>
  cases k<;>simp only [IsK] at hk
  rename_i ys
  have:=b2n e 6 9994 kt ts hf w ys.toList hk
  rw [ha] at this
  simpa using this
theorem b0n (n:Nat):∀ {ts:List TypeDesc} {xs:List Value},Fits ts xs→(xs.zip xs).all (fun (x,y)=>Instr.sameBits n x y)=true
 |[],_,.nil=>rfl
 |t::ts,_,.cons (x:=x) h r=>by
  have hx:Instr.sameBits n x x=true:=by
   cases t<;>cases x<;>simp_all [Fit]<;>cases n<;>simp [Instr.sameBits,bytes_beq]
  simp [hx,b0n n r]
theorem b3n {P:Program} {w:World} {kd:KD} {k:Value} (hk:IsK kd k):(Instr.keyThatStays k k).run P w=.ok k w:=by
 have:Instr.sameBits 10000 k k=true:=by
  cases kd with
  |agg ts =>
   cases k<;>simp only [IsK] at hk
   rename_i ys
   have:=b0n 9999 hk
   simp [Instr.sameBits,this]
  |_=>cases k<;>simp_all [IsK,Instr.sameBits,bytes_beq]
 simp [Instr.keyThatStays,this]
def d7h (P:Program) (w:World) (kt:TypeId) (k:Value) (es:List MapEntry) (m:List (Value×V)) (n:Nat) (run:Sem (Option (Nat×Value))):Prop :=
  (run.run P w=.ok none w∧lkM m k=none∧(∀ v,upM m k v=m++[(k,v)])∧d2w m k=m∧∀ x ∈ es,x.key≠k) ∨
  ∃ j e p,run.run P w=.ok (some (n+j,e.val)) w∧es[j]? = some e∧m[j]? = some p∧e.key=k∧lkM m k=some p.2∧(∀ v,upM m k v=m.set j (k,v))∧d2w m k=m.eraseIdx j
theorem e0y {P:Program} {w:World} {kt:TypeId} {ts:List TypeDesc} (hf:a8m P 6 kt=some ts) (ha:∀ xs:List Value,mkX P kt xs=.agg xs.toArray) {k:Value} (hk:IsK (.agg ts) k):∀ (es:List MapEntry) (m:List (Value×V)) (n:Nat),es.length=m.length →
  (∀ (i:Nat) (e:MapEntry) (p:Value×V),es[i]? = some e→m[i]? = some p→e.key=p.1∧IsK (.agg ts) p.1)→d7h P w kt k es m n (Instr.findAsking kt k es n):=by
 have eqk:∀ x y:Value,IsK (.agg ts) x→IsK (.agg ts) y→(Op.equal kt x y).run P w=.ok (b4a x y) w:=fun x y hx hy=>by
  cases x<;>simp only [IsK] at hx
  cases y<;>simp only [IsK] at hy
  rename_i a b
  have:=c0t 6 9994 kt ts hf w a.toList b.toList hx hy
  rw [ha,ha] at this
  simpa [Op.equal,Op.maxDepth,b4a] using this
 intro es
 induction es with
 |nil =>
  intro m n hl _
  have:m=[]:=List.length_eq_zero_iff.1 hl.symm
  subst this
  exact .inl ⟨by simp [Instr.findAsking],rfl,fun _=>rfl,rfl,by simp⟩
 |cons e es ih =>
  intro m n hl h
  match m,hl with
  |p::m,hl =>
   obtain ⟨h1,h2⟩:=h 0 e p rfl rfl
   have hek:IsK (.agg ts) e.key:=by rw [h1];exact h2
   have hr:=eqk k e.key hk hek
   have hb:b4a p.1 k=true↔p.1=k:=b1h h2 hk
   have hiff:=b1h hk hek
   cases hq:b4a k e.key with
   |true =>
    have e1:k=e.key:=hiff.1 hq
    have e2:b4a p.1 k=true:=hb.2 (by rw [e1,h1])
    exact .inr ⟨0,e,p,by simp [Instr.findAsking,hr,hq],rfl,rfl,e1.symm,by simp [lkM,e2],fun v=>by simp [upM,e2],by simp [d2w,e2]⟩
   |false =>
    have hne:e.key≠k:=fun q=>by have:=hiff.2 q.symm;rw [hq] at this;cases this
    have e2:¬ b4a p.1 k=true:=fun q=>hne (by rw [h1];exact hb.1 q)
    rcases ih m (n+1) (by simpa using hl) (fun i e' p' g1 g2=>h (i+1) e' p' (by simpa using g1) (by simpa using g2)) with ⟨g1,g2,g3,g4,g5⟩|⟨j,e',p',g1,g2,g3,g4,g5,g6,g7⟩
    ·exact .inl ⟨by simp [Instr.findAsking,hr,hq,g1],by simp [lkM,e2,g2],fun v=>by simp [upM,e2,g3],by simp [d2w,e2,g4],fun x hx=>by
      rcases List.mem_cons.1 hx with rfl|hx
      ·exact hne
      ·exact g5 x hx⟩
    ·exact .inr ⟨j+1,e',p',by simp [Instr.findAsking,hr,hq,g1];omega,by simpa using g2,by simpa using g3,g4,by simp [lkM,e2,g5],fun v=>by simp [upM,e2,g6],by simp [d2w,e2,g7]⟩
theorem e8r {kd:KD} {d:TypeDesc} (hd2:∀ v w,IsK kd v→IsK kd w→∃ r,Instr.sameNow d v w=some r∧(r=true↔v=w)) {k:Value} (hk:IsK kd k):∀ (es:List MapEntry) (m:List (Value×V)) (n:Nat),es.length=m.length →
  (∀ (i:Nat) (e:MapEntry) (p:Value×V),es[i]? = some e→m[i]? = some p→e.key=p.1∧IsK kd p.1) →
  (Instr.findNow d k es n=some none∧lkM m k=none∧(∀ v,upM m k v=m++[(k,v)])∧d2w m k=m∧∀ x ∈ es,x.key≠k) ∨
  ∃ j e p,Instr.findNow d k es n=some (some (n+j,e.val))∧es[j]? = some e∧m[j]? = some p∧e.key=k∧lkM m k=some p.2∧(∀ v,upM m k v=m.set j (k,v))∧d2w m k=m.eraseIdx j:=by
 intro es
 induction es with
 |nil =>
  intro m n hl _
  have:m=[]:=List.length_eq_zero_iff.1 hl.symm
  subst this
  exact .inl ⟨rfl,rfl,fun _=>rfl,rfl,by simp⟩
 |cons e es ih =>
  intro m n hl h
  match m,hl with
  |p::m,hl =>
   obtain ⟨h1,h2⟩:=h 0 e p rfl rfl
   have hek:IsK kd e.key:=by rw [h1];exact h2
   obtain ⟨r,hr,hiff⟩:=hd2 _ _ hk hek
   have hb:b4a p.1 k=true↔p.1=k:=b1h h2 hk
   cases r with
   |true =>
    have e1:k=e.key:=hiff.1 rfl
    have e2:b4a p.1 k=true:=hb.2 (by rw [e1,h1])
    exact .inr ⟨0,e,p,by simp [Instr.findNow,hr],rfl,rfl,e1.symm,by simp [lkM,e2],fun v=>by simp [upM,e2],by simp [d2w,e2]⟩
   |false =>
    have hne:e.key≠k:=fun q=>by have:=hiff.2 q.symm;cases this
    have e2:¬ b4a p.1 k=true:=fun q=>hne (by rw [h1];exact hb.1 q)
    rcases ih m (n+1) (by simpa using hl) (fun i e' p' g1 g2=>h (i+1) e' p' (by simpa using g1) (by simpa using g2)) with ⟨g1,g2,g3,g4,g5⟩|⟨j,e',p',g1,g2,g3,g4,g5,g6,g7⟩
    ·exact .inl ⟨by simp [Instr.findNow,hr,g1],by simp [lkM,e2,g2],fun v=>by simp [upM,e2,g3],by simp [d2w,e2,g4],fun x hx=>by
      rcases List.mem_cons.1 hx with rfl|hx
      ·exact hne
      ·exact g5 x hx⟩
    ·exact .inr ⟨j+1,e',p',by simp [Instr.findNow,hr,g1];omega,by simpa using g2,by simpa using g3,g4,by simp [lkM,e2,g5],fun v=>by simp [upM,e2,g6],by simp [d2w,e2,g7]⟩
theorem b4p {P:Program} {w:World} {kt:TypeId} {kd:KD} (hkd:f5b P kt=some kd) {k:Value} (hk:IsK kd k) (es:List MapEntry) (m:List (Value×V)) (hl:es.length=m.length)
  (h:∀ (i:Nat) (e:MapEntry) (p:Value×V),es[i]? = some e→m[i]? = some p→e.key=p.1∧IsK kd p.1):d7h P w kt k es m 0 (Instr.findKey kt k es):=by
 cases c4r hkd with
 |one _ d hu hd hd2 =>
  rcases e8r hd2 hk es m 0 hl h with ⟨g1,g2⟩|⟨j,e,p,g1,g2⟩
  ·exact .inl ⟨MapKept.run_findKey hu g1,g2⟩
  ·exact .inr ⟨j,e,p,MapKept.run_findKey hu g1,g2⟩
 |wide ts hf ha hw =>
  have:=e0y (w:=w) hf ha hk es m 0 hl h
  unfold d7h at this ⊢
  rw [run_findKey_eq w hw]
  exact this
def vOf:Value→V
 |.agg ys=>.agg (ys.toList.map .v)
 |x=>.v x
theorem f3t (w:World) (O:Nat→Prop) (E:Env) (x:Value):R w O E (vOf x) x:=by
 unfold vOf
 split
 ·refine .agg _ _ (by simp) fun j u y h1 h2=>?_
  simp only [List.getElem?_map,Array.getElem?_toList,h2,Option.map_some,Option.some.injEq] at h1
  subst h1
  exact .r0 _ _ (.v _)
 ·exact .r0 _ _ (.v _)
def c2r (P:Program) (t:TypeId):Option (KD×V):=match P.underlying t with
 |some (.map k e)=>(f5b P k).bind fun kd=>(P.info? e).bind fun i=>i.zero.map fun z=>(kd,vOf z)
 |_=>none
theorem b4i {P:Program} {t:TypeId} {kd:KD} {z:V} (h:c2r P t=some (kd,z)) (w:World) :
  ∃ k e zv,P.underlying t=some (.map k e)∧f5b P k=some kd∧(zeroValue e).run P w=.ok zv w∧z=vOf zv:=by
 unfold c2r at h
 split at h
 ·rename_i k e ht
  simp only [Option.bind_eq_some_iff,Option.map_eq_some_iff,Prod.mk.injEq] at h
  obtain ⟨kd',h1,i,h2,zv,h3,rfl,rfl⟩:=h
  exact ⟨k,e,zv,ht,h1,by simp [zeroValue,typeInfo,h2,h3],rfl⟩
 ·cases h
def d4l:V→Option Value
 |.v k=>some k
 |.agg cs=>(f5r cs).map fun xs=>.agg ⟨xs⟩
 |_=>none
theorem d1c {w:World} {O:Nat→Prop} {E:Env} {u:V} {k y:Value} (h:d4l u=some k) (hr:R w O E u y):y=k:=by
 unfold d4l at h
 split at h
 ·cases h;exact R.v_inv hr
 ·simp only [Option.map_eq_some_iff] at h
  obtain ⟨xs,h1,rfl⟩:=h
  have:=d6a h1
  subst this
  exact e2a hr
 ·cases h
def b6a (s:St):Option (KD×V)→Bool→V→Option Value→Res
 |some (kd,z),ok,.mp id,some k=>match s.hget id with
  |some (.map kd' m)=>match ok with
   |false=>.go (kd'=kd∧a8h kd k=true) fun _=>(lkM m k).getD z
   |true=>.go (kd'=kd∧a8h kd k=true) fun _=>.tup [(lkM m k).getD z,.v (.bool (lkM m k).isSome)]
  |_=>.stuck
 |_,_,_,_=>.stuck
theorem c9s {G:Gh} {s:St} {a:Act} {w:World} {E:Env} (hs:SimE G s a w E) {id:Nat} {kd:KD} {m:List (Value×V)} (hob:s.hget id=some (.map kd m)) {y:Value} (hy:R w (OT G s E) E (.mp id) y) :
  ∃ b es clock,y=.map (some b)∧E id=some (some b,0,0)∧w.heap[b]? = some (.map es clock)∧es.size=m.length ∧
   (∀ (i:Nat) (e:MapEntry) (p:Value×V),es[i]? = some e→m[i]? = some p→e.key=p.1∧IsK kd p.1∧R w (OT G s E) E p.2 e.val)∧Stamped es clock:=by
 obtain ⟨b,K,C,hE,rfl⟩:=R.mp_inv hy
 obtain ⟨b1,K1,C1,h1,b',es,clock,rfl,g2,rfl,rfl,g5,g6,g7⟩:=hs.hp id _ hob
 rw [hE] at h1
 cases h1
 exact ⟨b,es,clock,rfl,hE,g2,g5,g6,g7⟩
theorem e2i (P:Program) (G:Gh) (s:St) (o:Oper) (hd:∀ d,o.dst=some d→d < G.n) (t:TypeId) (x k:Operand) (ok:Bool) (ho:o.op=.lookup t x k ok) :
  a3b P G s o (b6a s (c2r P t) ok (ev s x) (d4l (ev s k))):=by
 have core:∀ {kd z id kv m},c2r P t=some (kd,z)→ev s x=.mp id→d4l (ev s k)=some kv→s.hget id=some (.map kd m)→a8h kd kv=true→∀ a w E,SimE G s a w E →
   ∃ y,R w (OT G s E) E ((lkM m kv).getD z) y∧(execOp a.eval o).run P w=.ok (.value (if ok then .tuple #[y,.bool (lkM m kv).isSome] else y)) w:=by
  intro kd z id kv m hm hx hk hob hkb a w E hs
  obtain ⟨b,es,clock,hy,hE,hh,hsz,hrel,hst⟩:=c9s hs hob (a1z hs hx)
  obtain ⟨kt,et,zv,h1,h2,h3,rfl⟩:=b4i hm w
  have hkv:=d1c hk (b7l hs k)
  have hik:=a3x hkb
  rcases b4p (w:=w) h2 hik es.toList m (by simpa using hsz) (fun i e p g1 g2=>⟨(hrel i e p (by simpa using g1) g2).1,(hrel i e p (by simpa using g1) g2).2.1⟩) with ⟨g1,g2,_,_,_⟩|⟨j,e,p,g1,g2,g3,g4,g5,_,_⟩
  ·refine ⟨zv,by rw [g2];exact f3t _ _ _ _,?_⟩
   rw [g2]
   simp [execOp,ho,Instr.lookup,run_underlying h1,hy,hkv,MapKept.run_getObj_map hh,a4s h2 hik,g1,h3,Result.andThen]
  ·refine ⟨e.val,by rw [g5];exact (hrel j e p (by simpa using g2) g3).2.2,?_⟩
   rw [g5]
   simp [execOp,ho,Instr.lookup,run_underlying h1,hy,hkv,MapKept.run_getObj_map hh,a4s h2 hik,g1,h3,Result.andThen]
 unfold b6a
 split
 ·rename_i kd z ok' id kv hm hx hk
  split
  ·rename_i kd' m hob
   split
   ·rintro ⟨rfl,hkb⟩
    refine a0g hd fun a w E hs=>?_
    obtain ⟨y,g1,g2⟩:=core hm hx hk hob hkb a w E hs
    exact ⟨y,by simpa using g2,g1⟩
   ·rintro ⟨rfl,hkb⟩
    refine a0g hd fun a w E hs=>?_
    obtain ⟨y,g1,g2⟩:=core hm hx hk hob hkb a w E hs
    refine ⟨_,g2,.tup _ _ rfl fun j u y' q1 q2=>?_⟩
    match j with
    |0=>simp at q1 q2;subst q1;subst q2;exact g1
    |1=>simp at q1 q2;subst q1;subst q2;exact .r0 _ _ (.v _)
    |j+2=>simp at q1
  ·trivial
 ·trivial
def b7e (s:St):Option Nat→Option (KD×V)→Res
 |some d,some (kd,_)=>.heap (s.used d=false) fun _=>(.mp d,[(d,some (.map kd []))])
 |_,_=>.stuck
theorem d2l (P:Program) (G:Gh) (s:St) (o:Oper) (hd:∀ d,o.dst=some d→d < G.n) (t:TypeId) (ho:o.op=.makeMap t none):a3b P G s o (b7e s o.dst (c2r P t)):=by
 unfold b7e
 split
 ·rename_i d kd z hdd hm
  intro hu
  refine a2e hd fun a w E hs=>?_
  obtain ⟨E',h1,h2,h3,h4⟩:=hs.new (id:=d) hu (ob:=.map kd []) (o:=.map #[] 0) (K:=0) (C:=0) (fun O' E' _ _=>⟨w.heap.size,#[],0,rfl,a5c w _,rfl,rfl,rfl,by simp,stamped_empty 0⟩)
  refine ⟨.map (some w.heap.size),_,E',?_,h1,.mp d _ _ _ h2⟩
  simp [execOp,ho,Instr.makeMap]
 ·trivial
theorem a6v {w:World} {b:Nat} {o o':Obj} (h:w.heap[b]? = some o):({ w with heap:=w.heap.setIfInBounds b o' }:World).heap[b]? = some o'∧({ w with heap:=w.heap.setIfInBounds b o' }:World).heap.size=w.heap.size ∧
  ∀ k,k≠b→({ w with heap:=w.heap.setIfInBounds b o' }:World).heap[k]? = w.heap[k]? :=
 ⟨(heap_set h).1,by simp,fun k hk=>(heap_set h).2 k hk⟩
theorem SimE.mapSet {G:Gh} {s:St} {a:Act} {w:World} {E:Env} (hs:SimE G s a w E) {id b:Nat} {kd:KD} {m m':List (Value×V)} {es es':Array MapEntry} {clock clock':Nat} (hob:s.hget id=some (.map kd m)) (hE:E id=some (some b,0,0))
  (hh:w.heap[b]? = some (.map es clock)) (hsz:es'.size=m'.length)
  (hrel:∀ (i:Nat) (e:MapEntry) (p:Value×V),es'[i]? = some e→m'[i]? = some p→e.key=p.1∧IsK kd p.1∧R w (OT G s E) E p.2 e.val) (hst:Stamped es' clock') :
  SimE G (s.hset id (some (.map kd m'))) a { w with heap:=w.heap.setIfInBounds b (.map es' clock') } E:=by
 obtain ⟨f1,f2,f3⟩:=a6v (o':=.map es' clock') hh
 refine hs.write hob hE rfl rfl rfl f2 f3 fun O1 hO1=>⟨b,es',clock',rfl,f1,rfl,rfl,hsz,fun i e p g1 g2=>?_,hst⟩
 obtain ⟨q1,q2,q3⟩:=hrel i e p g1 g2
 exact ⟨q1,q2,q3.mono (by rw [f2];exact Nat.le_refl _) hO1 (fun k hk _=>f3 k (by rintro rfl;exact hk (.inr ⟨id,_,_,_,hob,hE⟩))) (fun _ _ h=>h)⟩
def b5u (s:St):Option (KD×V)→V→Option Value→V→Res
 |some (kd,_),.mp id,some k,v=>match s.hget id with
  |some (.map kd' m)=>.heap (kd'=kd∧a8h kd k=true) fun _=>(.any,[(id,some (.map kd (upM m k v)))])
  |_=>.stuck
 |_,_,_,_=>.stuck
theorem c5r (P:Program) (G:Gh) (s:St) (o:Oper) (t:TypeId) (x k v:Operand) (ho:o.op=.mapUpdate t x k v) (hdst:o.dst=none):a3b P G s o (b5u s (c2r P t) (ev s x) (d4l (ev s k)) (ev s v)):=by
 unfold b5u
 split
 ·rename_i kd z id kv hm hx hk
  split
  ·rename_i kd' m hob
   rintro ⟨rfl,hkb⟩ a w ⟨E,hs⟩ K Q hK
   obtain ⟨b,es,clock,hy,hE,hh,hsz,hrel,hst⟩:=c9s hs hob (a1z hs hx)
   obtain ⟨kt,et,zv,h1,h2,h3,rfl⟩:=b4i hm w
   have hkv:=d1c hk (b7l hs k)
   have hik:=a3x hkb
   have hv:=b7l hs v
   unfold Oper.wp
   rcases b4p (w:=w) h2 hik es.toList m (by simpa using hsz) (fun i e p g1 g2=>⟨(hrel i e p (by simpa using g1) g2).1,(hrel i e p (by simpa using g1) g2).2.1⟩) with ⟨g1,_,g3,_,g5⟩|⟨j,e,p,g1,g2,g3,g4,_,g6,_⟩
   ·have hrun:(execOp a.eval o).run P w=.ok .skip { w with heap:=w.heap.setIfInBounds b (.map (es.push { key:=kv,val:=a.eval v,born:=clock }) (clock+1)) }:=by
     simp [execOp,ho,Instr.mapUpdate,run_underlying h1,hy,hkv,MapKept.run_getObj_map hh,a4s h2 hik,g1,MapKept.run_setObj_map _ hh,Result.andThen]
    rw [hrun]
    refine hK _ _ ⟨E,?_⟩
    rw [hdst,g3]
    refine hs.mapSet hob hE hh (by simp [hsz]) (fun i e p q1 q2=>?_) (stamped_push hst g5)
    rw [Array.getElem?_push] at q1
    by_cases hi:i=es.size
    ·rw [if_pos hi] at q1
     cases q1
     rw [hi,hsz] at q2
     simp at q2
     subst q2
     exact ⟨rfl,hik,hv⟩
    ·rw [if_neg hi] at q1
     have:i < m.length:=by have:=(Array.getElem?_eq_some_iff.1 q1).1;omega
     rw [List.getElem?_append_left this] at q2
     exact hrel i e p q1 q2
   ·have hj:es[j]? = some e:=by simpa using g2
    have hrun:(execOp a.eval o).run P w=.ok .skip { w with heap:=w.heap.setIfInBounds b (.map (es.modify j fun e=>{ e with key:=kv,val:=a.eval v }) clock) }:=by
     simp [execOp,ho,Instr.mapUpdate,run_underlying h1,hy,hkv,MapKept.run_getObj_map hh,a4s h2 hik,g1,hj,g4,b3n hik,MapKept.run_setObj_map _ hh,Result.andThen]
    rw [hrun]
    refine hK _ _ ⟨E,?_⟩
    rw [hdst,g6]
    refine hs.mapSet hob hE hh (by simp [hsz]) (fun i e' p' q1 q2=>?_) (stamped_modify hst _ _ (fun _ _=>rfl) (fun e' _ he'=>by rw [hj] at he';cases he';exact g4.symm))
    rw [Array.getElem?_modify] at q1
    rw [List.getElem?_set] at q2
    by_cases hi:j=i
    ·subst hi
     rw [if_pos rfl,hj] at q1
     rw [if_pos rfl,if_pos (by have:=(Array.getElem?_eq_some_iff.1 hj).1;omega)] at q2
     cases q1;cases q2
     exact ⟨rfl,hik,hv⟩
    ·rw [if_neg hi] at q1 q2
     exact hrel i e' p' q1 q2
  ·trivial
 ·trivial
def b5x (s:St):Option (KD×V)→V→Option Value→Res
 |some (kd,_),.mp id,some k=>match s.hget id with
  |some (.map kd' m)=>.heap (kd'=kd∧a8h kd k=true) fun _=>(.any,[(id,some (.map kd (d2w m k)))])
  |_=>.stuck
 |_,_,_=>.stuck
theorem d6u (P:Program) (G:Gh) (s:St) (o:Oper) (hd:∀ d,o.dst=some d→d < G.n) (t t':TypeId) (x k:Operand) (ho:o.op=.call ⟨.builtin .delete,⟨[x,k]⟩,⟨[t,t']⟩⟩):a3b P G s o (b5x s (c2r P t) (ev s x) (d4l (ev s k))):=by
 unfold b5x
 split
 ·rename_i kd z id kv hm hx hk
  split
  ·rename_i kd' m hob
   rintro ⟨rfl,hkb⟩
   refine a2e hd fun a w E hs=>?_
   obtain ⟨b,es,clock,hy,hE,hh,hsz,hrel,hst⟩:=c9s hs hob (a1z hs hx)
   obtain ⟨kt,et,zv,h1,h2,h3,rfl⟩:=b4i hm w
   have hkv:=d1c hk (b7l hs k)
   have hik:=a3x hkb
   rcases b4p (w:=w) h2 hik es.toList m (by simpa using hsz) (fun i e p g1 g2=>⟨(hrel i e p (by simpa using g1) g2).1,(hrel i e p (by simpa using g1) g2).2.1⟩) with ⟨g1,_,_,g4,g5⟩|⟨j,e,p,g1,g2,g3,g4,_,_,g7⟩
   ·refine ⟨.tuple #[],{ w with heap:=w.heap.setIfInBounds b (.map es clock) },E,?_,?_,.r0 _ _ (.any _)⟩
    ·simp [execOp,ho,resolve,invoke,builtin,Builtin.delete_,run_underlying h1,hy,hkv,MapKept.run_getObj_map hh,a4s h2 hik,g1,MapKept.run_setObj_map _ hh,Result.andThen]
    ·show SimE G (s.hset id _) a _ E
     rw [g4]
     exact hs.mapSet hob hE hh hsz hrel hst
   ·have hj:es[j]? = some e:=by simpa using g2
    refine ⟨.tuple #[],{ w with heap:=w.heap.setIfInBounds b (.map (es.eraseIdxIfInBounds j) clock) },E,?_,?_,.r0 _ _ (.any _)⟩
    ·simp [execOp,ho,resolve,invoke,builtin,Builtin.delete_,run_underlying h1,hy,hkv,MapKept.run_getObj_map hh,a4s h2 hik,g1,MapKept.run_setObj_map _ hh,Result.andThen]
    ·show SimE G (s.hset id _) a _ E
     rw [g7]
     have hlt:j < es.size:=(Array.getElem?_eq_some_iff.1 hj).1
     have hlist:(es.eraseIdxIfInBounds j).toList=es.toList.eraseIdx j:=by simp [Array.eraseIdxIfInBounds,hlt]
     refine hs.mapSet hob hE hh (by have:=congrArg List.length hlist;rw [List.length_eraseIdx,Array.length_toList,Array.length_toList,hsz] at this;rw [List.length_eraseIdx];exact this) (fun i e' p' q1 q2=>?_) (stamped_erase hst j)
     have q1':(es.toList.eraseIdx j)[i]? = some e':=by rw [← hlist,Array.getElem?_toList];exact q1
     rw [List.getElem?_eraseIdx] at q1' q2
     by_cases hi:i < j
     ·rw [if_pos hi] at q1' q2
      exact hrel i e' p' (by simpa using q1') q2
     ·rw [if_neg hi] at q1' q2
      exact hrel (i+1) e' p' (by simpa using q1') q2
  ·trivial
 ·trivial
end Pm
end Go.Proofs.YtmjhfccbbfpppaaGreatDoor
