import Derived.ProofKit
import Derived.WideKeyArgs
import Derived.Below
import Derived.ChangeSame
import Derived.SizedLaws
import Derived.Test.YtmjhfccbbfpppaaGreatDoorQA05
import Derived.Test.YtmjhfccbbfpppaaGreatDoorQA07
namespace Go.Proofs.YtmjhfccbbfpppaaGreatDoor
open Go Go.RowKit
set_option linter.unusedSimpArgs false
set_option linter.unusedVariables false
namespace Pm
def f0o (s:St) (N:Nat→Bool):List (Nat×Option OB)→Prop
 |[]=>True
 |(i,x)::r=>((∃ y,x=some y∧s.hget i=some y)∧N i=true)∧f0o s N r
theorem b8r {ρ:Ren} {s s':St}:∀ {h:List (Nat×OB)},(∀ i j,lkR ρ i=some (some j)→s'.hp j=s.hp j)→a1k ρ s h→a1k ρ s' h:=by
 intro h
 induction h with
 |nil=>intro _ _;trivial
 |cons p r ih =>
  obtain ⟨i,ob⟩:=p
  intro he hh
  refine ⟨?_,ih he hh.2⟩
  have h1:=hh.1
  cases hl:lkR ρ i with
  |none=>rw [hl] at h1;exact h1
  |some x =>
   rw [hl] at h1
   cases x with
   |none=>exact h1
   |some j =>
    have:s'.hget j=s.hget j:=he i j hl
    simp only [a0s] at h1 ⊢
    rw [this];exact h1
theorem d2f {s:St}:∀ {l:List (Nat×Option OB)},(∀ p,p ∈ l→s.hp p.1=p.2∧s.us p.1=true)→a1h s l=s:=by
 intro l
 induction l with
 |nil=>intro _;rfl
 |cons p r ih =>
  obtain ⟨i,x⟩:=p
  intro h
  obtain ⟨h1,h2⟩:=h (i,x) (List.mem_cons_self ..)
  have e:s.hset i x=s:=by
   cases s with
   |mk fr hp us =>
    simp only [St.hset,St.mk.injEq,true_and]
    constructor
    ·funext j
     by_cases e:i=j
     ·subst e;rw [if_pos rfl];exact h1.symm
     ·rw [if_neg e]
    ·funext j
     by_cases e:i=j
     ·subst e;simp at h2 ⊢;exact h2
     ·simp [e]
  simp only [a1h]
  rw [e]
  exact ih fun p hp=>h p (List.mem_cons_of_mem _ hp)
theorem d5b {s:St} {N:Nat→Bool}:∀ {l:List (Nat×Option OB)},f0o s N l→∀ p,p ∈ l→∃ y,p.2=some y∧s.hp p.1=some y∧N p.1=true:=by
 intro l
 induction l with
 |nil=>intro _ p hp;cases hp
 |cons q r ih =>
  obtain ⟨i,x⟩:=q
  rintro ⟨⟨⟨y,h1,h2⟩,h3⟩,h4⟩ p hp
  rcases List.mem_cons.1 hp with rfl|hp
  ·exact ⟨y,h1,h2,h3⟩
  ·exact ih h4 p hp
theorem d9o {P:Program} {G:Gh} {N:Nat→Bool} {M:Bool} {s:St} {k:FuncId} {cap as as':List V} {h:List (Nat×OB)} {r:Nat→V} (ρ:List (Nat×Nat)) (hp:Tri P k as' h (fun lo=>.ret (r lo) h))
  (hA:okL (okN (toR ρ) 4) as' (as++cap)) (hH:a1k (toR ρ) s h) (hi:a2r (toR ρ)) (hcv:a0q h (toR ρ)) (hq:a7c ρ) (hall:a3p (toR (a1o h ρ++[])) h) (hu:a5n h)
  (hN:(tgt ρ).all N=true) (hs:f0o s N (upT ρ [] h)):CallE P G N M (.fn (.func k) cap) as s (b7e (toR (a1o h ρ++[])) 4 (r (loT h G.lo)),[]):=by
 refine .pure ?_
 intro s' e o Q rest hc hr x l ts ho hx has a w hsim
 obtain ⟨E,hE⟩:=hsim
 have hH':a1k (toR ρ) s' h:=b8r (fun i j hj=>by
  obtain ⟨j',e1,hm⟩:=a5v hj
  cases e1
  refine (e j (List.all_eq_true.1 hN j ?_)).1
  clear hj hp hA hH hi hcv hq hall hu hN hs hr
  induction ρ with
  |nil=>cases hm
  |cons q t ih =>
   obtain ⟨u,v⟩:=q
   rcases List.mem_cons.1 hm with h1|h1
   ·cases h1;exact List.mem_cons_self ..
   ·exact List.mem_cons_of_mem _ (ih h1)) hH
 have hsm:a1h s' (upT ρ [] h)=s':=d2f fun p hp=>by
  obtain ⟨y,h1,h2,h3⟩:=d5b hs p hp
  have h4:s'.hp p.1=some y:=(e p.1 h3).1.trans h2
  refine ⟨h4.trans h1.symm,hE.us _ ?_⟩
  obtain ⟨b,K,C,h5,_⟩:=hE.hp _ _ h4
  rw [h5];simp
 refine b4q ρ [] hp hA hH' hi hcv hq hc ⟨trivial,hall,hu,?_⟩ x l ts ho hx has a w ⟨E,hE⟩
 have:app s' o.dst (b7e (toR (a1o h ρ++[])) 4 (r (loT h G.lo)),upT ρ [] h)=a4h s' o.dst (b7e (toR (a1o h ρ++[])) 4 (r (loT h G.lo))):=by
  simp only [app,hsm]
 rw [this];exact hr
section
variable (P:Program) (G:Gh) (all:List Oper) (Q:Exit→St→Prop) (s:St)
theorem exP {p:Prop} {q:p→Prop} (h:p) (k:q h):∃ h,q h:=⟨h,k⟩
theorem Sub.map {α:Type} {lo lo' sz:Nat} {l:List α} {f g:α→List V} (hlo:lo'≤lo) (h:∀ x,Subs (f x) (g x)):Sub (.lst lo sz (l.map f)) (.lst lo' sz (l.map g)) :=
 .lst hlo (by simp) fun i x x' h1 h2=>by
  simp only [List.getElem?_map,Option.map_eq_some_iff] at h1 h2
  obtain ⟨a,h3,rfl⟩:=h1
  obtain ⟨b,h4,rfl⟩:=h2
  rw [h3] at h4;cases h4
  exact h a
def gv (all:List Oper) (j:Nat) (s:St):V:=match a8s all j with
 |some g=>s.get g
 |none=>.any
theorem g4v (j:Nat):gv all j s=match a8s all j with|some g=>s.get g|none=>.any:=rfl
theorem f0v {d:Option Tmp} {op:Op} {t:TypeId} {p:String} {e:Array Edge} {j:Nat} {w:Bool} {os:List Oper} (h:gv all j s=.v (.bool w)) :
  a4f P G all Q (⟨d,op,t,p,e,some (j,w)⟩::os) s=fin P G ⟨d,op,t,p,e,none⟩ s Q (a4f P G all Q os) (a3s P G.ow G.lo s d op):=by
 unfold gv at h
 rw [a4f]
 split at h
 ·rename_i g hg
  simp [hg,h,a9q h]
 ·cases h
theorem g1c {d:Option Tmp} {op:Op} {t:TypeId} {p:String} {e:Array Edge} {j:Nat} {w:Bool} {os:List Oper} (h:gv all j s=.v (.bool !w)) :
  a4f P G all Q (⟨d,op,t,p,e,some (j,w)⟩::os) s=(chk G.n d∧a4f P G all Q os (a4h s d skV)):=by
 unfold gv at h
 rw [a4f]
 split at h
 ·rename_i g hg
  simp [hg,h,a9q h]
 ·cases h
theorem g2f {d:Option Tmp} {op:Op} {t:TypeId} {p:String} {e:Array Edge} {j:Nat} {os:List Oper} (h:gv all j s=.v (.bool true)) :
  a4f P G all Q (⟨d,op,t,p,e,some (j,true)⟩::os) s=fin P G ⟨d,op,t,p,e,none⟩ s Q (a4f P G all Q os) (a3s P G.ow G.lo s d op):=f0v P G all Q s h
theorem g4h {d:Option Tmp} {op:Op} {t:TypeId} {p:String} {e:Array Edge} {j:Nat} {os:List Oper} (h:gv all j s=.v (.bool false)) :
  a4f P G all Q (⟨d,op,t,p,e,some (j,false)⟩::os) s=fin P G ⟨d,op,t,p,e,none⟩ s Q (a4f P G all Q os) (a3s P G.ow G.lo s d op):=f0v P G all Q s h
theorem g3v {d:Option Tmp} {op:Op} {t:TypeId} {p:String} {e:Array Edge} {j:Nat} {os:List Oper} (h:gv all j s=.v (.bool false)) :
  a4f P G all Q (⟨d,op,t,p,e,some (j,true)⟩::os) s=(chk G.n d∧a4f P G all Q os (a4h s d skV)):=g1c P G all Q s h
theorem g3c {d:Option Tmp} {op:Op} {t:TypeId} {p:String} {e:Array Edge} {j:Nat} {os:List Oper} (h:gv all j s=.v (.bool true)) :
  a4f P G all Q (⟨d,op,t,p,e,some (j,false)⟩::os) s=(chk G.n d∧a4f P G all Q os (a4h s d skV)):=g1c P G all Q s h
def gdb (P:Program) (G:Gh) (all:List Oper) (Q:Exit→St→Prop) (d:Option Tmp) (op:Op) (t:TypeId) (p:String) (e:Array Edge) (j:Nat) (w:Bool) (os:List Oper) (s:St):Option Nat→V→Prop
 |some g,.v (.bool b)=>(b=w→fin P G ⟨d,op,t,p,e,none⟩ (s.set g (.v (.bool w))) Q (a4f P G all Q os) (a3s P G.ow G.lo (s.set g (.v (.bool w))) d op)) ∧
   (b=!w→chk G.n d∧a4f P G all Q os (a4h (s.set g (.v (.bool !w))) d skV))
 |some _,.v (.tuple ⟨[]⟩)=>chk G.n d∧a4f P G all Q os (a4h s d skV)
 |_,_=>a9c P G all (⟨d,op,t,p,e,some (j,w)⟩::os) s Q
theorem g0q (d:Option Tmp) (op:Op) (t:TypeId) (p:String) (e:Array Edge) (j:Nat) (w:Bool) (os:List Oper) :
  a4f P G all Q (⟨d,op,t,p,e,some (j,w)⟩::os) s=gdb P G all Q d op t p e j w os s (a8s all j) (gv all j s):=by
 rw [a4f]
 simp only
 cases hg:a8s all j with
 |none=>rfl
 |some g =>
  simp only [gv,hg]
  cases s.get g with
  |v x =>
   cases x with
   |tuple ys =>
    obtain ⟨l⟩:=ys
    cases l<;>rfl
   |_=>rfl
  |_=>rfl
theorem g3r (d:Option Tmp) (op:Op) (t:TypeId) (p:String) (e:Array Edge) (j:Nat) (w:Bool) (os:List Oper) (g:Nat) (b:Bool) :
  gdb P G all Q d op t p e j w os s (some g) (.v (.bool b))=((b=w→fin P G ⟨d,op,t,p,e,none⟩ (s.set g (.v (.bool w))) Q (a4f P G all Q os) (a3s P G.ow G.lo (s.set g (.v (.bool w))) d op)) ∧
   (b=!w→chk G.n d∧a4f P G all Q os (a4h (s.set g (.v (.bool !w))) d skV))):=rfl
theorem g4b (d:Option Tmp) (op:Op) (t:TypeId) (p:String) (e:Array Edge) (j:Nat) (w:Bool) (os:List Oper) (g:Nat) :
  gdb P G all Q d op t p e j w os s (some g) (.v (.tuple ⟨[]⟩))=(chk G.n d∧a4f P G all Q os (a4h s d skV)):=rfl
def cnd (P:Program) (G:Gh) (c:Operand) (x y:Code) (s:St) (Q:Exit→St→Prop):V→Prop
 |.v (.bool b)=>(b=true→vc P G x s Q)∧(b=false→vc P G y s Q)
 |_=>SemC P G (.cond c x y) s Q
theorem f6a (c:Operand) (x y:Code):vc P G (.cond c x y) s Q=cnd P G c x y s Q (ev s c):=by
 rw [vc]
 cases ev s c with
 |v z=>cases z<;>rfl
 |_=>rfl
theorem g2o (c:Operand) (x y:Code) (b:Bool):cnd P G c x y s Q (.v (.bool b))=((b=true→vc P G x s Q)∧(b=false→vc P G y s Q)):=rfl
theorem g2s (c:Operand) (x y:Code):cnd P G c x y s Q (.v (.bool true))=vc P G x s Q:=by simp [cnd]
theorem g4l (c:Operand) (x y:Code):cnd P G c x y s Q (.v (.bool false))=vc P G y s Q:=by simp [cnd]
theorem f3p:vc P G .skip s Q=Q .normal s:=rfl
theorem g1d (a b:Code):vc P G (.seq a b) s Q=vc P G a s (d3w (vc P G b) Q):=rfl
theorem e2p (id:Nat) (l:List Oper):vc P G (.region id l.toArray false) s Q=a4f P G l Q l s:=rfl
theorem f5j (id:Nat) (l:List Oper):vc P G (.region id l.toArray true) s Q=SemC P G (.region id l.toArray true) s Q:=rfl
theorem e9o (id:Nat) (c:Code):vc P G (.block id c) s Q=vc P G c s (c5x id Q):=rfl
theorem f2h (id:Nat):vc P G (.exit id) s Q=Q (.exit id) s:=rfl
theorem f8p:vc P G .ret s Q=Q .ret s:=rfl
theorem f3g (c:Code):vc P G (.loop c) s Q=SemC P G (.loop c) s Q:=rfl
theorem f9c (k:St→(Exit→St→Prop)→Prop):d3w k Q .normal s=k s Q:=rfl
theorem f9b (k:St→(Exit→St→Prop)→Prop):d3w k Q .ret s=Q .ret s:=rfl
theorem g1a (k:St→(Exit→St→Prop)→Prop) (i:Nat):d3w k Q (.exit i) s=Q (.exit i) s:=rfl
theorem f8n (id:Nat):c5x id Q .normal s=Q .normal s:=rfl
theorem f8l (id:Nat):c5x id Q .ret s=Q .ret s:=rfl
theorem f8c (id i:Nat):c5x id Q (.exit i) s=if i=id then Q .normal s else Q (.exit i) s:=rfl
variable (lo:Nat)
theorem f7g (x:ResultVar) (r:V):a2g P lo [x] r .ret s=(a6s P s x∧Sub (d5i P lo s x) r):=rfl
theorem f5r (x:ResultVar) (r:V):a2g P lo [x] r .normal s=(a6s P s x∧Sub (d5i P lo s x) r):=rfl
theorem f7i (x y:ResultVar) (r:V):a2g P lo [x,y] r .ret s=((a6s P s x∧a6s P s y)∧Sub (.tup [d5i P lo s x,d5i P lo s y]) r):=by simp [a2g]
theorem g0e (x y z:ResultVar) (r:V):a2g P lo [x,y,z] r .ret s=((a6s P s x∧a6s P s y∧a6s P s z)∧Sub (.tup [d5i P lo s x,d5i P lo s y,d5i P lo s z]) r):=by simp [a2g]
variable (h0 h':List (Nat×OB)) (r:V)
theorem f5e (x:ResultVar):a5s P h0 [x] (.ret r h') .ret s=(a6s P s x∧∃ ρ,b8m h0 s (d5m P s x) r h' ρ):=by simp [a5s,f1g]
theorem e9n (x:ResultVar):a5s P h0 [x] (.ret r h') .normal s=(a6s P s x∧∃ ρ,b8m h0 s (d5m P s x) r h' ρ):=by simp [a5s,f1g]
theorem f5v (x y:ResultVar):a5s P h0 [x,y] (.ret r h') .ret s=((a6s P s x∧a6s P s y)∧∃ ρ,b8m h0 s (.tup [d5m P s x,d5m P s y]) r h' ρ):=by simp [a5s,f1g]
theorem f2e (x y z:ResultVar):a5s P h0 [x,y,z] (.ret r h') .ret s=((a6s P s x∧a6s P s y∧a6s P s z)∧∃ ρ,b8m h0 s (.tup [d5m P s x,d5m P s y,d5m P s z]) r h' ρ):=by simp [a5s,f1g]
theorem f3b:a5s P h0 [] (.ret r h') .ret s=∃ ρ,b8m h0 s (.tup []) r h' ρ:=by simp [a5s,f1g]
theorem e6t:a5s P h0 [] (.ret r h') .normal s=∃ ρ,b8m h0 s (.tup []) r h' ρ:=by simp [a5s,f1g]
theorem f3o (rs:List ResultVar) (x:Value) (ch:List PanicEntry):a5s P h0 rs (.pan x h') (.panic ch) s=(ch=[{ v:=x,recovered:=false }]∧∃ ρ,b8m h0 s .any .any h' ρ):=rfl
theorem f7n (d:Option Nat) (rest:St→Prop) (ρ ν:List (Nat×Nat)):g1y d s Q rest h0 ρ ν (.ret r h')=(b3x s h0 ν∧a3p (toR (a1o h' ρ++ν)) h'∧a5n h'∧rest (app s d (b7e (toR (a1o h' ρ++ν)) 4 r,upT ρ ν h'))):=rfl
theorem f7y (d:Option Nat) (rest:St→Prop) (ρ ν:List (Nat×Nat)) (x:Value):g1y d s Q rest h0 ρ ν (.pan x h')=(b3x s h0 ν∧a3p (toR (a1o h' ρ++ν)) h'∧a5n h'∧Q (.panic [{ v:=x,recovered:=false }]) (a1h s (upT ρ ν h'))):=rfl
theorem e8h (l:Nat):vc P G (.label l) s Q=Q .normal s:=rfl
theorem e7f (c:Code):vc P G (.scope c) s Q=vc P G c s (f6u Q):=rfl
theorem g0a (s:St):f6u Q .normal s=Q .normal s:=rfl
theorem g1f (s:St):f6u Q .ret s=Q .ret s:=rfl
theorem f8i (s:St) (i:Nat):f6u Q (.exit i) s=Q (.exit i) s:=rfl
section
variable (al:Al)
def f7f (P:Program) (G:Gh) (al:Al) (o:Oper) (Q:Exit→St→Prop) (rest:St→Prop) (f:Bool) (s:St):Prop:=f6x P G al o s Q rest (a3s P G.ow G.lo s o.dst o.op) f
def gdR (G:Gh) (d:Option Nat) (A K:St→Prop) (s:St) (w:Bool):Option Nat→V→Prop
 |some g,.v (.bool b)=>(b=w→A (s.set g (.v (.bool w))))∧(b=!w→chk G.n d∧K (a4h (s.set g (.v (.bool !w))) d skV))
 |some _,.v (.tuple ⟨[]⟩)=>chk G.n d∧K (a4h s d skV)
 |_,_=>False
theorem f3i (rest:St→Prop) (f:Bool) (d:Option Tmp) (op:Op) (t:TypeId) (p:String) (e:Array Edge) (g:Option (Nat×Bool)):f7f P G al ⟨d,op,t,p,e,g⟩ Q rest f s=f6x P G al ⟨d,op,t,p,e,g⟩ s Q rest (a3s P G.ow G.lo s d op) f:=rfl
theorem f6i:vcD P G al all Q [] s=Q .normal s:=rfl
theorem e8x (d:Option Tmp) (op:Op) (t:TypeId) (p:String) (e:Array Edge) (f:Bool) (os:List (Oper×Bool)) :
  vcD P G al all Q ((⟨d,op,t,p,e,none⟩,f)::os) s=f6x P G al ⟨d,op,t,p,e,none⟩ s Q (vcD P G al all Q os) (a3s P G.ow G.lo s d op) f:=rfl
theorem c0n (d:Option Tmp) (op:Op) (t:TypeId) (p:String) (e:Array Edge) (j:Nat) (w:Bool) (f:Bool) (os:List (Oper×Bool)) :
  vcD P G al all Q ((⟨d,op,t,p,e,some (j,w)⟩,f)::os) s=gdR G d (f7f P G al ⟨d,op,t,p,e,some (j,w)⟩ Q (vcD P G al all Q os) f) (vcD P G al all Q os) s w (a8s all j) (gv all j s):=by
 simp only [vcD,gdD]
 cases hg:a8s all j with
 |none=>rfl
 |some g =>
  simp only [gv,hg]
  cases s.get g with
  |v x =>
   cases x with
   |tuple ys =>
    obtain ⟨l⟩:=ys
    cases l<;>rfl
   |_=>rfl
  |_=>rfl
theorem e1i (d:Option Tmp) (op:Op) (t:TypeId) (p:String) (e:Array Edge) (j:Nat) (w:Bool) (f:Bool) (os:List (Oper×Bool)) (h:gv all j s=.v (.bool w)) :
  vcD P G al all Q ((⟨d,op,t,p,e,some (j,w)⟩,f)::os) s=f7f P G al ⟨d,op,t,p,e,some (j,w)⟩ Q (vcD P G al all Q os) f s:=by
 rw [c0n,h]
 unfold gv at h
 split at h
 ·rename_i g hg
  rw [hg]
  simp [gdR,a9q h]
 ·cases h
theorem f1c (d:Option Tmp) (op:Op) (t:TypeId) (p:String) (e:Array Edge) (j:Nat) (w:Bool) (f:Bool) (os:List (Oper×Bool)) (h:gv all j s=.v (.bool !w)) :
  vcD P G al all Q ((⟨d,op,t,p,e,some (j,w)⟩,f)::os) s=(chk G.n d∧vcD P G al all Q os (a4h s d skV)):=by
 rw [c0n,h]
 unfold gv at h
 split at h
 ·rename_i g hg
  rw [hg]
  simp [gdR,a9q h]
 ·cases h
theorem f9y (d:Option Tmp) (op:Op) (t:TypeId) (p:String) (e:Array Edge) (j:Nat) (f:Bool) (os:List (Oper×Bool)) (h:gv all j s=.v (.bool true)) :
  vcD P G al all Q ((⟨d,op,t,p,e,some (j,true)⟩,f)::os) s=f7f P G al ⟨d,op,t,p,e,some (j,true)⟩ Q (vcD P G al all Q os) f s:=e1i P G all Q s al d op t p e j true f os h
theorem g0z (d:Option Tmp) (op:Op) (t:TypeId) (p:String) (e:Array Edge) (j:Nat) (f:Bool) (os:List (Oper×Bool)) (h:gv all j s=.v (.bool false)) :
  vcD P G al all Q ((⟨d,op,t,p,e,some (j,false)⟩,f)::os) s=f7f P G al ⟨d,op,t,p,e,some (j,false)⟩ Q (vcD P G al all Q os) f s:=e1i P G all Q s al d op t p e j false f os h
theorem g0v (d:Option Tmp) (op:Op) (t:TypeId) (p:String) (e:Array Edge) (j:Nat) (f:Bool) (os:List (Oper×Bool)) (h:gv all j s=.v (.bool false)) :
  vcD P G al all Q ((⟨d,op,t,p,e,some (j,true)⟩,f)::os) s=(chk G.n d∧vcD P G al all Q os (a4h s d skV)):=f1c P G all Q s al d op t p e j true f os h
theorem f8e (d:Option Tmp) (op:Op) (t:TypeId) (p:String) (e:Array Edge) (j:Nat) (f:Bool) (os:List (Oper×Bool)) (h:gv all j s=.v (.bool true)) :
  vcD P G al all Q ((⟨d,op,t,p,e,some (j,false)⟩,f)::os) s=(chk G.n d∧vcD P G al all Q os (a4h s d skV)):=f1c P G all Q s al d op t p e j false f os h
theorem g4j (d:Option Nat) (A K:St→Prop) (g:Nat) (b w:Bool):gdR G d A K s w (some g) (.v (.bool b))=((b=w→A (s.set g (.v (.bool w))))∧(b=!w→chk G.n d∧K (a4h (s.set g (.v (.bool !w))) d skV))):=rfl
theorem g3i (d:Option Nat) (A K:St→Prop) (g:Nat) (w:Bool):gdR G d A K s w (some g) (.v (.tuple ⟨[]⟩))=(chk G.n d∧K (a4h s d skV)):=rfl
theorem f7x (o:Oper) (rest:St→Prop) (r:Res):f6x P G al o s Q rest r false=(c0o al s o.dst o.op=true∧e9a P G (a2i al (nm0 al o.dst o.op)) (mkd al o.dst) o s rest r):=rfl
theorem f9a (o:Oper) (rest:St→Prop) (r:Res):f6x P G al o s Q rest r true=fin P G o s Q rest r:=rfl
end
section
variable (d:Option Tmp) (op:Op) (t:TypeId) (p:String) (e:Array Edge) (gd:Option (Nat×Bool)) (rest:St→Prop) (C:Prop)
variable (N:Nat→Bool) (M:Bool)
theorem f2q (k:C→V):e9a P G N M ⟨d,op,t,p,e,gd⟩ s rest (.go C k)=(chk G.n d∧∃ h:C,rest (a4h s d (k h))):=rfl
theorem e0s (k:C→V×List (Nat×Option OB)):e9a P G N M ⟨d,op,t,p,e,gd⟩ s rest (.heap C k)=(chk G.n d∧∃ h:C,rest (app s d (k h))):=rfl
theorem d8z (f:V) (as:List V):e9a P G N M ⟨d,op,t,p,e,gd⟩ s rest (.call f as)=(chk G.n d∧∃ e,CallE P G N M f as s e∧rest (app s d e)):=rfl
end
theorem f8d {α:Type} (i j:Nat) (F:α→St) (I:α→Prop):c9v G i F I Q (.exit j) s=if j=i then ∃ x,I x∧Ent G s (F x) else Q (.exit j) s:=rfl
theorem f9k {α:Type} (i:Nat) (F:α→St) (I:α→Prop):c9v G i F I Q .normal s=∃ x,I x∧Ent G s (F x):=rfl
theorem f8x {α:Type} (i:Nat) (F:α→St) (I:α→Prop):c9v G i F I Q .ret s=Q .ret s:=rfl
theorem g2k (d:Option Nat) (x:V) (l:List (Nat×Option OB)):app s d (x,l)=a4h (a1h s l) d x:=rfl
theorem f4y:a1h s []=s:=rfl
theorem f6j (i:Nat) (x:Option OB) (l:List (Nat×Option OB)):a1h s ((i,x)::l)=a1h (s.hset i x) l:=rfl
theorem f2m (p:Nat→Bool) (lo i:Nat):(frz p lo s).get i=vwF p lo s 4 (s.get i):=rfl
theorem e7k (p:Nat→Bool) (lo i:Nat):(frz p lo s).used i=s.used i:=rfl
def g3o (p:Nat→Bool) (lo:Nat) (s:St) (i:Nat):Bool→Option OB
 |true=>none
 |false=>(s.hget i).map (g1p p lo s)
theorem e6q (p:Nat→Bool) (lo i:Nat):(frz p lo s).hget i=g3o p lo s i (p i):=by
 unfold g3o St.hget frz
 simp only
 cases p i<;>rfl
theorem g3w (n d:Nat):chk n (some d)=(d < n):=rfl
theorem g2d (n:Nat):chk n none=True:=rfl
theorem f8r (d:Nat) (x:V):a4h s (some d) x=s.set d x:=rfl
theorem f9g (x:V):a4h s none x=s:=rfl
theorem g4p (x y:Value):Sub (.v x) (.v y)=(x=y):=by
 apply propext
 constructor
 ·intro h
  have h1:=h (default:World) (fun _=>False) x (.v x)
  cases h1;rfl
 ·rintro rfl;exact Sub.refl _
theorem f0p (x:V):Sub x x=True:=eq_true (Sub.refl x)
end
attribute [go_sem] g1z b8k b7y b6s c3h c2u b8s b4h a7p a4m b6y g2l a8j d7f b5z c8j g1r f5t f3a c7q d4v b9m g2k f4y f6j f2m e7k e6q g3o g1p vwF vwS d0z a4r f4b a9b b2q pureV pure0 a8x g1g a2p Option.map_some Option.map_none List.set_cons_zero List.set_cons_succ List.length_cons List.length_nil Option.any_some List.replicate_succ List.replicate_zero Bool.and_true Bool.true_and Nat.zero_mul Nat.mul_one Nat.add_zero Nat.zero_add Value.cells Array.toList List.range_succ List.getElem_map List.length_map List.getElem_append List.length_append List.length_take List.length_drop
attribute [go_sem] f9f f4f f7m e9f e7z f9s d7n a3s ev e3d e8m e8z d6a e7u d7e f9e f2l f6n lkV lkH usH a3l f8r f9g g2f g4h g3v g3c g3r f6a g2s g4l f3p g1d e2p f5j e9o f2h f8p f3g f9c f9b g1a f8n f8l f8c f7g f5r f7i g0e g3w g2d f0p g4p a8s g4v d5i a6s vw f5e e9n f5v f2e f3b e6t f3o f7n f7y d5m b7e f0l toR tgt a1o a3m a6b b3x a3p a5n a7c upT loT a0z b1z List.filter_cons List.filter_nil f6h a1k a0s okN okL a1q a2r apart a0q lkR true_or or_true b8d e9y b7r g2n f7b eqV eqX b6c b8i g2v g1u b5u b8q b7p b1c b2t d3b d2o b8t bytesOf c7i b9k d4h b9g b9x d4p b3a b8o b9c b9l b7x b8c decide_true exists_prop true_and and_true exists_true_left List.getElem?_cons_succ List.getElem?_cons_zero decide_eq_true_eq decide_eq_false_iff_not forall_const Bool.not_true Bool.not_false cond_true cond_false ite_true ite_false V.v.injEq Value.bool.injEq Value.int.injEq List.map_cons List.map_nil List.drop_zero List.drop_succ_cons List.take_succ_cons List.take_zero Option.getD_some false_implies implies_true not_true_eq_false not_false_eq_true Bool.not_eq_true Bool.not_eq_false
theorem e4f {α β:Type} (f:α→β) (l:List α) (n:Nat):(l.map f).take n=(l.take n).map f:=List.map_take.symm
theorem e1f {α β:Type} (f:α→β) (l:List α) (n:Nat):(l.map f).drop n=(l.drop n).map f:=List.map_drop.symm
theorem c6a {α β:Type} (f:α→β) (l m:List α):l.map f++m.map f=(l++m).map f:=List.map_append.symm
attribute [go_sem] f8d f9k f8x e4f e1f c6a Int.toNat_zero Nat.sub_zero Nat.min_self List.take_length e9r beq_self_eq_true b4x e3k e6h Option.isSome_some List.nil_append Int.natCast_nonneg f3i f6i e8x f9y g0z g0v f8e f7x f9a f2q e0s d8z f6s alC b7o a4b c0o c2n b0q nm0 nmT tbl g5i c6p g0m a2i List.cons_append List.all_cons List.all_nil List.contains_cons List.contains_nil Option.toList_some Option.toList_none Bool.not_or Bool.or_false Bool.or_true Bool.false_or Nat.reduceBEq Bool.true_or Bool.and_false Bool.false_and List.range_zero c5u Int.natCast_zero Int.cast_ofNat_Int Int.sub_zero Bool.not_eq_true' Bool.not_eq_false'
attribute [go_sem] b5v b6g b5d b6d a8m lkM d3m upM vOf d2n g0w c9g g1o lkG c0x gl1 gl2 gl3 gl4 gl5 gl6 gl7
attribute [go_sem] g4b g3i e8h e7f g0a g1f f8i
attribute [go_sem low] g0q g2o g4j c0n
end Pm
attribute [go_sem_proc] reduceIte Nat.reduceLeDiff Nat.reduceEqDiff Nat.reduceAdd Nat.reduceLT reduceCtorEq
attribute [go_sem] Nat.le_refl Int.toNat_natCast
open Go Pm
def a1z (s:ByteArray):List V:=[.v (.string s)]
def a0o (lo:Nat) (l:List ByteArray):V:=.lst lo 1 (l.map a1z)
def bl (b:Bool):V:=.v (.bool b)
def i64 (n:Int):V:=.v (.int .i64 n)
attribute [go_sem] a1z a0o bl i64
theorem a2b {α:Type} {f:α→List V} (h:∀ x,a8x (f x)=true) (l:List α):a2p (l.map f)=true:=by
 induction l with
 |nil=>rfl
 |cons a r ih=>simp [a2p,h,ih]
theorem c4p (l:List ByteArray):a2p (l.map a1z)=true:=a2b (fun _=>rfl) l
attribute [go_sem] c4p
theorem b6a {lo:Nat} {l:List ByteArray} {as:List V} (h:∀ x ∈ as,Bd x) (hm:a0o lo l ∈ as):l.length≤140737488355328:=by
 cases h _ hm with
 |lst _ _ _ hl _=>simpa using hl
def b3u (b:UInt8):Bool:=!(decide ((b.toNat:Int) < 32) || decide (126 < (b.toNat:Int)))
def c1c (s:ByteArray):Bool:=decide (1≤(s.size:Int)) && decide ((s.size:Int)≤160) && s.data.toList.all b3u
def a1d (l:List ByteArray):Bool:=l.all c1c && decide ((l.length:Int)≤200)
theorem a0v {α:Type} {p:α→Bool} {l:List α} {k:Nat} (hk:k < l.length) (h:(l.take k).all p=true) (hp:p l[k]=true):(l.take (k+1)).all p=true:=by
 rw [List.take_add_one,List.getElem?_eq_getElem hk,List.all_append,h]
 simp [hp]
theorem a2l {α β:Type} (f:α→β) (l:List α) (k:Nat) (hk:k < l.length):(l.take (k+1)).map f=(l.take k).map f++[f l[k]]:=by
 rw [List.take_add_one,List.getElem?_eq_getElem hk,List.map_append];rfl
theorem a4x {α:Type} {p:α→Bool} {l:List α} {k:Nat} (hk:k < l.length) (hp:p l[k]=false):l.all p=false :=
 List.all_eq_false.2 ⟨_,List.getElem_mem hk,by simp [hp]⟩
theorem a1t {α:Type} {l:List α} {k:Nat} (hk:k≤l.length) (h:¬ (k:Int) < (l.length:Int)):l.take k=l:=by
 rw [List.take_of_length_le];omega
theorem c6d (s:ByteArray) (j:Nat) (h:j < s.size):s.data.toList[j]'(by simpa using h)=s[j]:=by simp [ByteArray.getElem_eq_getElem_data]
structure Hk where
 lo:Int
 drop:Int
 put:List ByteArray
structure Sh where
 first:List ByteArray
 chg:List Hk
def hkE (n:Nat) (h:Hk):List V:=[i64 h.lo,i64 h.drop,a0o n h.put]
def hks (n:Nat) (l:List Hk):V:=.lst n 3 (l.map (hkE n))
def shE (n:Nat) (s:Sh):V:=.agg [a0o n s.first,hks n s.chg]
attribute [go_sem] hkE hks shE
theorem c8c (n:Nat) (l:List Hk):a2p (l.map (hkE n))=true:=a2b (fun _=>rfl) l
attribute [go_sem] c8c
theorem g3f {n:Nat} {s:Sh} {as:List V} (h:∀ x ∈ as,Bd x) (hm:shE n s ∈ as):s.first.length≤140737488355328∧s.chg.length≤140737488355328∧∀ c ∈ s.chg,c.put.length≤140737488355328:=by
 cases h _ hm with
 |agg _ hr =>
  have h1:=hr (a0o n s.first) (by simp)
  have h2:=hr (hks n s.chg) (by simp)
  cases h1 with
  |lst _ _ _ h1 _ =>
   cases h2 with
   |lst _ _ _ h2 h3 =>
    refine ⟨by simpa using h1,by simpa using h2,fun c hc=>?_⟩
    have:=h3 (hkE n c) (List.mem_map_of_mem hc) (a0o n c.put) (by simp [hkE])
    cases this with
    |lst _ _ _ h4 _=>simpa using h4
instance:DecidableEq Hk:=fun a b=>by
 cases a;cases b;simp only [Hk.mk.injEq];infer_instance
instance:DecidableEq Sh:=fun a b=>by
 cases a;cases b;simp only [Sh.mk.injEq];infer_instance
def a8p (l:List ByteArray) (h:Hk):Bool:=(decide (0≤h.lo) && decide (h.lo≤(l.length:Int))) && (decide (0≤h.drop) && decide (h.drop≤(l.length:Int) - h.lo))
def a3f (l:List ByteArray) (h:Hk):List ByteArray:=if a8p l h=true then l.take h.lo.toNat++h.put++l.drop (h.lo+h.drop).toNat else []
def cpl:List ByteArray→List ByteArray→Nat
 |a::l,b::m=>if a=b then cpl l m+1 else 0
 |_,_=>0
theorem d0i:∀ a b,cpl a b≤a.length∧cpl a b≤b.length:=by
 intro a
 induction a with
 |nil=>intro b;simp [cpl]
 |cons x l ih =>
  intro b
  cases b with
  |nil=>simp [cpl]
  |cons y m =>
   simp only [cpl]
   split
   ·have:=ih m;simp;omega
   ·simp
theorem f1b:∀ (a b:List ByteArray) (k:Nat),k≤a.length→k≤b.length→a.take k=b.take k→(∀ (h:k < a.length) (h':k < b.length),a[k]≠b[k])→cpl a b=k:=by
 intro a
 induction a with
 |nil=>intro b k h _ _ _;simp at h;subst h;simp [cpl]
 |cons x l ih =>
  intro b k h1 h2 h3 h4
  cases b with
  |nil=>simp at h2;subst h2;simp [cpl]
  |cons y m =>
   cases k with
   |zero =>
    have:=h4 (by simp) (by simp)
    simp at this
    simp [cpl,this]
   |succ k =>
    simp at h1 h2 h3
    obtain ⟨rfl,h3⟩:=h3
    have:=ih m k h1 h2 h3 (fun h h'=>by have:=h4 (by simp;omega) (by simp;omega);simpa using this)
    simp [cpl,this]
def a3r (a b:List ByteArray):Hk :=
 let n:=cpl a b
 let e:=cpl (a.drop n).reverse (b.drop n).reverse
 ⟨n,(a.length:Int) - n - e,(b.take (b.length - e)).drop n⟩
open Go
namespace Pm
def a6v (nm:List Nat):Nat→V→Bool
 |0,_=>false
 |n+1,x=>match x with
  |.any|.v _|.lst _ _ _|.fp _=>true
  |.ptr id _|.eptr id _ _ _|.own id _ _ _|.mp id=>nm.contains id
  |.agg cs|.tup cs|.fn _ cs=>cs.all (a6v nm n)
theorem R.nms {w w':World} {O O':Nat→Prop} {E E':Env} {nm:List Nat} (hsz:w.heap.size≤w'.heap.size)
  (hO:∀ b,¬ O b→b < w.heap.size→¬ O' b) (hw:∀ b,¬ O b→b < w.heap.size→a4g w b→w'.heap[b]? = w.heap[b]?)
  (hE:∀ id,id ∈ nm→∀ r,E id=some r→E' id=some r):∀ (n:Nat) {x:V} {y:Value},a6v nm n x=true→R w O E x y→R w' O' E' x y:=by
 intro n
 induction n with
 |zero=>intro x y h;cases h
 |succ n ih =>
  intro x y h hR
  cases hR with
  |r0 x y h0=>exact .r0 _ _ (h0.monoC hsz hO hw)
  |ptr id off b K C h1=>exact .ptr id off b K C (hE id (by simpa [a6v] using h) _ h1)
  |eptr id i k sz b K C h1 hi=>exact .eptr id i k sz b K C (hE id (by simpa [a6v] using h) _ h1) hi
  |own id off len sz b K C y h1 hv=>exact .own id off len sz b K C y (hE id (by simpa [a6v] using h) _ h1) hv
  |mp id b K C h1=>exact .mp id b K C (hE id (by simpa [a6v] using h) _ h1)
  |agg cs ys hn hr=>exact .agg cs ys hn fun j u y h1 h2=>ih (List.all_eq_true.1 (by simpa [a6v] using h) u (List.mem_of_getElem? h1)) (hr j u y h1 h2)
  |tup cs ys hn hr=>exact .tup cs ys hn fun j u y h1 h2=>ih (List.all_eq_true.1 (by simpa [a6v] using h) u (List.mem_of_getElem? h1)) (hr j u y h1 h2)
  |fn f cs ys hn hr=>exact .fn f cs ys hn fun j u y h1 h2=>ih (List.all_eq_true.1 (by simpa [a6v] using h) u (List.mem_of_getElem? h1)) (hr j u y h1 h2)
def keepV (nm:List Nat) (x:V):V:=match a6v nm 4 x with
 |true=>x
 |false=>.any
theorem R.keepV {w w':World} {O O':Nat→Prop} {E E':Env} {nm:List Nat} (hsz:w.heap.size≤w'.heap.size)
  (hO:∀ b,¬ O b→b < w.heap.size→¬ O' b) (hw:∀ b,¬ O b→b < w.heap.size→a4g w b→w'.heap[b]? = w.heap[b]?)
  (hE:∀ id,id ∈ nm→∀ r,E id=some r→E' id=some r) {x:V} {y:Value} (h:R w O E x y):R w' O' E' (keepV nm x) y:=by
 unfold Pm.keepV
 split
 ·rename_i e;exact h.nms hsz hO hw hE 4 e
 ·exact .r0 _ _ (.any _)
theorem f3h (nm:List Nat) (x:Value):keepV nm (.v x)=.v x:=rfl
theorem e1w (nm:List Nat):keepV nm .any=.any:=rfl
theorem e2b (nm:List Nat) (lo sz:Nat) (l:List (List V)):keepV nm (.lst lo sz l)=.lst lo sz l:=rfl
theorem e7x (nm:List Nat) (l:List V):keepV nm (.fp l)=.fp l:=rfl
theorem d9q (nm:List Nat) (id off:Nat):keepV nm (.ptr id off)=if nm.contains id=true then .ptr id off else .any:=by
 unfold keepV a6v;simp only;cases nm.contains id<;>rfl
theorem d6b (nm:List Nat) (id off len sz:Nat):keepV nm (.own id off len sz)=if nm.contains id=true then .own id off len sz else .any:=by
 unfold keepV a6v;simp only;cases nm.contains id<;>rfl
theorem e9h (nm:List Nat) (id:Nat):keepV nm (.mp id)=if nm.contains id=true then .mp id else .any:=by
 unfold keepV a6v;simp only;cases nm.contains id<;>rfl
theorem e1s (nm:List Nat) (l:List V):keepV nm (.agg l)=if l.all (a6v nm 3)=true then .agg l else .any:=by
 unfold keepV a6v;simp only;cases l.all (a6v nm 3)<;>rfl
theorem d8a (nm:List Nat) (l:List V):keepV nm (.tup l)=if l.all (a6v nm 3)=true then .tup l else .any:=by
 unfold keepV a6v;simp only;cases l.all (a6v nm 3)<;>rfl
theorem e6y (nm:List Nat) (f:Fn) (l:List V):keepV nm (.fn f l)=if l.all (a6v nm 3)=true then .fn f l else .any:=by
 unfold keepV a6v;simp only;cases l.all (a6v nm 3)<;>rfl
def Lp (L:Loop):Option Code→Loop
 |none=>L
 |some c=>{ L with state:=.done,pending:=some c }
def Lb (L:Loop):Loop:={ L with state:=.busy }
def rnd (fl:List (Nat×V)) (s:St) (lam:Nat) (L:Loop):St:=⟨lkV fl,fun id=>if lam=id then some (.obj (.loop (Lb L))) else s.hp id,s.us⟩
def bck (nm:List Nat) (s s2:St) (d:Option Nat) (b:Bool) (lam:Nat) (L':Loop):St :=
 a4h ⟨fun i=>keepV nm (s.fr i),fun id=>if lam=id then some (.obj (.loop L')) else s2.hp id,s2.us⟩ d (.v (.bool b))
def aft (fl:List (Nat×V)) (s:St) (lam:Nat):St:=⟨lkV fl,fun id=>if lam=id then none else s.hp id,s.us⟩
theorem f2i (fl:List (Nat×V)) (s:St) (lam:Nat) (L:Loop) (j:Nat):(rnd fl s lam L).get j=lkV fl j:=rfl
theorem e9t (fl:List (Nat×V)) (s:St) (lam:Nat) (L:Loop) (j:Nat):(rnd fl s lam L).hget j=if lam=j then some (.obj (.loop (Lb L))) else s.hget j:=rfl
theorem e8u (fl:List (Nat×V)) (s:St) (lam:Nat) (L:Loop) (j:Nat):(rnd fl s lam L).used j=s.used j:=rfl
theorem f4e (nm:List Nat) (s s2:St) (d:Nat) (b:Bool) (lam:Nat) (L':Loop) (j:Nat):(bck nm s s2 (some d) b lam L').get j=if d=j then .v (.bool b) else keepV nm (s.get j):=rfl
theorem e8l (nm:List Nat) (s s2:St) (b:Bool) (lam:Nat) (L':Loop) (j:Nat):(bck nm s s2 none b lam L').get j=keepV nm (s.get j):=rfl
theorem a7v (nm:List Nat) (s s2:St) (d:Option Nat) (b:Bool) (lam:Nat) (L':Loop) (j:Nat):(bck nm s s2 d b lam L').hget j=if lam=j then some (.obj (.loop L')) else s2.hget j:=by cases d<;>rfl
theorem c1q (nm:List Nat) (s s2:St) (d:Option Nat) (b:Bool) (lam:Nat) (L':Loop) (j:Nat):(bck nm s s2 d b lam L').used j=s2.used j:=by cases d<;>rfl
theorem f3t (fl:List (Nat×V)) (s:St) (lam j:Nat):(aft fl s lam).get j=lkV fl j:=rfl
theorem e7b (fl:List (Nat×V)) (s:St) (lam j:Nat):(aft fl s lam).hget j=if lam=j then none else s.hget j:=rfl
theorem e5l (fl:List (Nat×V)) (s:St) (lam j:Nat):(aft fl s lam).used j=s.used j:=rfl
def RQ (nm:List Nat) (s:St) (d:Option Nat) (lam:Nat) (L:Loop) (rest:St→Prop):Exit→St→Prop
 |.normal,s2=>s2.hget lam=some (.obj (.loop (Lb L)))∧rest (bck nm s s2 d true lam (Lp L none))
 |.ret,s2=>s2.hget lam=some (.obj (.loop (Lb L)))∧rest (bck nm s s2 d false lam (Lp L (some .ret)))
 |.exit id,s2=>s2.hget lam=some (.obj (.loop (Lb L)))∧rest (bck nm s s2 d false lam (Lp L (some (.exit id))))
 |_,_=>False
def c2c:List Nat→List V→List (Nat×V)
 |i::is,x::xs=>(i,x)::c2c is xs
 |_,_=>[]
def mvO:Oper→Option (Nat×Nat)
 |⟨some d,.assign (.tmp t),_,_,_,none⟩=>some (d,t)
 |_=>none
def mvL:List Oper→Option (List (Nat×Nat))
 |[]=>some []
 |o::r=>match mvO o,mvL r with
  |some m,some l=>some (m::l)
  |_,_=>none
def mvC:Code→Option (List (Nat×Nat))
 |.skip=>some []
 |.region _ ⟨ops⟩ false=>mvL ops
 |.seq a b=>match mvC a,mvC b with
  |some x,some y=>some (x++y)
  |_,_=>none
 |_=>none
def mvA:List (Nat×Nat)→Act→Act
 |[],a=>a
 |(d,t)::r,a=>mvA r (a.put (some d) (a.tmps.getD t undef))
def mvF:List (Nat×Nat)→List (Nat×V)→List (Nat×V)
 |[],fl=>fl
 |(d,t)::r,fl=>mvF r ((d,lkV fl t)::fl)
theorem e3w:∀ (x y:List (Nat×Nat)) (a:Act),mvA (x++y) a=mvA y (mvA x a)
 |[],_,_=>rfl
 |_::x,y,a=>e3w x y _
theorem f5b {o:Oper} {d t:Nat} (h:mvO o=some (d,t)):o.dst=some d∧o.op=.assign (.tmp t)∧o.guard=none:=by
 unfold mvO at h
 split at h
 ·cases h;exact ⟨rfl,rfl,rfl⟩
 ·cases h
theorem f1m {F:Fence} (hF:∀ f,F.fn f) {P:Program} {all:Array Oper} {Q:Exit→Act→World→Prop}:∀ (ops:List Oper) (l:List (Nat×Nat)),mvL ops=some l→∀ (a:Act) (w:World),Q .normal (mvA l a) w→wpListIn F 0 P all Q ops a w
 |[],l,h,a,w,hq=>by
  simp only [mvL,Option.some.injEq] at h
  subst h
  exact hq
 |o::r,l,h,a,w,hq=>by
  unfold mvL at h
  split at h
  ·rename_i m l' h1 h2
   obtain ⟨d,t⟩:=m
   cases h
   obtain ⟨e1,e2,e3⟩:=f5b h1
   refine wpListIn_plain e3 fun K hK=>?_
   refine ⟨fun f _=>hF f,?_⟩
   rw [Oper.semAt_eq _ _ _ (by rw [e2];simp)]
   have:(execOp a.eval o).run P w=.ok (.value (a.tmps.getD t undef)) w:=by simp only [execOp,e2];rfl
   rw [this]
   refine hK _ _ ?_
   rw [e1]
   exact f1m hF r l' h2 _ w hq
  ·cases h
theorem f9z {F:Fence} (hF:∀ f,F.fn f) {P:Program}:∀ (c:Code) {Q:Exit→Act→World→Prop} (l:List (Nat×Nat)),mvC c=some l→∀ (a:Act) (w:World),Q .normal (mvA l a) w→c.wpIn F 0 P Q a w:=by
 intro c
 induction c with
 |skip =>
  intro Q l h a w hq
  simp only [mvC,Option.some.injEq] at h
  subst h
  exact wpIn_skip hq
 |region id ops draw =>
  intro Q l h a w hq
  obtain ⟨ops⟩:=ops
  cases draw with
  |true=>simp [mvC] at h
  |false=>exact wpIn_region_list (f1m hF ops l h a w hq)
 |seq x y ihx ihy =>
  intro Q l h a w hq
  unfold mvC at h
  split at h
  ·rename_i lx ly h1 h2
   simp only [Option.some.injEq] at h
   subst h
   rw [e3w] at hq
   exact wpIn_seq (ihx lx h1 a w (ihy ly h2 _ w hq))
  ·cases h
 |_=>intro Q l h;simp [mvC] at h
theorem c1r:∀ (l:List (Nat×Nat)) (a:Act),(mvA l a).tmps.size=a.tmps.size∧(mvA l a).defers=a.defers
 |[],a=>⟨rfl,rfl⟩
 |(d,t)::r,a=>by
  obtain ⟨h1,h2⟩:=c1r r (a.put (some d) (a.tmps.getD t undef))
  exact ⟨by rw [mvA,h1];simp [Act.put],by rw [mvA,h2];rfl⟩
theorem f9m {Rr:V→Value→Prop}:∀ (l:List (Nat×Nat)) (a:Act) (fl:List (Nat×V)),(∀ p ∈ l,p.1 < a.tmps.size)→(∀ i,Rr (lkV fl i) (a.tmps.getD i undef))→∀ i,Rr (lkV (mvF l fl) i) ((mvA l a).tmps.getD i undef)
 |[],a,fl,_,h,i=>h i
 |(d,t)::r,a,fl,hd,h,i=>by
  refine f9m r (a.put (some d) (a.tmps.getD t undef)) ((d,lkV fl t)::fl) (fun p hp=>?_) (fun j=>?_) i
  ·have:=hd p (by simp [hp]);simpa [Act.put] using this
  ·rw [b4r a d j _ (hd (d,t) (by simp))]
   simp only [lkV]
   split
   ·exact h t
   ·exact h j
def c0h (P:Program) (G1:Gh) (l lam:Nat) (L:Loop) (fl:List (Nat×V)) (ps:List Nat) (mv:List (Nat×Nat)) (body:Code) (n:Nat) (ow:Nat→Bool):Prop :=
 ∀ (nm2:List Nat) (s:St) (o:Oper) (Q:Exit→St→Prop) (rest:St→Prop) (as:List V),s.hget lam=some (.obj (.loop (Lp L none)))→as.length=ps.length→chk G1.n o.dst→(∀ id ∈ G1.nm,id ∈ nm2) →
  (∀ id ∈ nm2,id ∈ G1.nm∨(s.hget id).isSome=true) →
  (∀ G2:Gh,G2.n=n→G2.ow=ow→G2.nm=nm2→G2.lo=G1.lo→G2.rd=some l→SemC P G2 body (rnd (mvF mv (c2c ps as++fl)) s lam L) (RQ nm2 s o.dst lam L rest)) →
  a3k P G1 o s Q rest (.v (.func (.yield l) #[] #[])) as
def b1x (fl:List (Nat×V)) (lam:Nat) (L:Loop) (Q:Exit→St→Prop):Exit→St→Prop
 |.normal,s|.ret,s=>∃ st,s.hget lam=some (.obj (.loop (Lp L st)))∧match st with
  |none=>Q .normal (aft fl s lam)
  |some .ret=>Q .ret (aft fl s lam)
  |some (.exit id)=>Q (.exit id) (aft fl s lam)
  |_=>False
 |_,_=>False
theorem c9t (tmps:Array Value):∀ (ps:List Nat) (ys:List Value),ys.length=ps.length→(∀ t ∈ ps,t < tmps.size) →
  ((ps.zip ys).foldl (fun tmps (x:Nat×Value)=>tmps.setIfInBounds x.1 x.2) tmps).size=tmps.size ∧
  ∀ (as:List V) (Rr:V→Value→Prop) (fr:Nat→V),as.length=ps.length→ps.Nodup→(∀ (j:Nat) (u:V) (y:Value),as[j]? = some u→ys[j]? = some y→Rr u y)→(∀ i,Rr (fr i) (tmps.getD i undef)) →
   ∀ (fl:List (Nat×V)),(∀ i,lkV fl i=fr i)→∀ i,Rr (lkV (c2c ps as++fl) i) (((ps.zip ys).foldl (fun tmps (x:Nat×Value)=>tmps.setIfInBounds x.1 x.2) tmps).getD i undef):=by
 intro ps
 induction ps generalizing tmps with
 |nil =>
  intro ys _ _
  refine ⟨rfl,fun as Rr fr ha _ _ hfr fl hfl i=>?_⟩
  simp only [c2c,List.nil_append,List.zip_nil_left,List.foldl_nil]
  rw [hfl];exact hfr i
 |cons p ps ih =>
  intro ys hl ht
  match ys,hl with
  |y::ys,hl =>
   simp only [List.length_cons,Nat.add_right_cancel_iff] at hl
   simp only [List.zip_cons_cons,List.foldl_cons]
   obtain ⟨h1,h2⟩:=ih (tmps.setIfInBounds p y) ys hl (fun t h=>by simpa using ht t (by simp [h]))
   refine ⟨by simpa using h1,fun as Rr fr ha hnd hr hfr fl hfl i=>?_⟩
   match as,ha with
   |a::as,ha =>
    simp only [List.length_cons,Nat.add_right_cancel_iff] at ha
    rw [List.nodup_cons] at hnd
    have:=h2 as Rr (fun j=>if p=j then a else fr j) ha hnd.2 (fun j u y' g1 g2=>hr (j+1) u y' (by simpa using g1) (by simpa using g2)) (fun j=>by
     have hp:p < tmps.size:=ht p (by simp)
     simp only [Array.getD_eq_getD_getElem?,Array.getElem?_setIfInBounds]
     by_cases e:p=j
     ·subst e;simpa [hp] using hr 0 a y rfl rfl
     ·simpa [e,Array.getD_eq_getD_getElem?] using hfr j) ((p,a)::fl) (fun j=>by simp only [lkV,hfl]) i
    have e:lkV (c2c (p::ps) (a::as)++fl) i=lkV (c2c ps as++(p,a)::fl) i:=by
     have gen:∀ (l:List (Nat×V)),(∀ x ∈ l,x.1≠p)→lkV ((p,a)::(l++fl)) i=lkV (l++(p,a)::fl) i:=by
      intro l
      induction l with
      |nil=>intro _;rfl
      |cons q r ihr =>
       intro hq
       have hq1:=hq q (by simp)
       have hr:=ihr (fun x h=>hq x (by simp [h]))
       simp only [List.cons_append,lkV] at hr ⊢
       by_cases e1:q.1=i
       ·have:¬ p=i:=fun e=>hq1 (e1.trans e.symm)
        simp [e1,this]
       ·simp only [e1,if_false] at hr ⊢
        exact hr
     refine gen _ fun x hx=>?_
     have:∀ (ps:List Nat) (as:List V),∀ x ∈ c2c ps as,x.1 ∈ ps:=by
      intro ps
      induction ps with
      |nil=>intro as x h;simp [c2c] at h
      |cons q qs ihq =>
       intro as x h
       cases as with
       |nil=>simp [c2c] at h
       |cons b bs =>
        simp only [c2c,List.mem_cons] at h
        rcases h with rfl|h
        ·simp
        ·simp [ihq bs x h]
     intro e
     exact hnd.1 (e ▸ this ps as x hx)
    rw [e]
    exact this
theorem SimE.name_lt {G:Gh} {s:St} {a:Act} {w:World} {E:Env} (h:SimE G s a w E) {id b:Nat} {o:Obj} (hp:s.hp id=some (.obj o)) (hE:∀ b' x,E id=some (some b',x)→b'=b):E id=some (some b,0,0)∧w.heap[b]? = some o∧b < w.heap.size:=by
 obtain ⟨b',K,C,h1,b'',rfl,h2,rfl,rfl⟩:=h.hp id _ hp
 have:=hE _ _ h1
 subst this
 exact ⟨h1,h2,(h.fresh id _ _ _ hp h1).2.2⟩
theorem b1h {P:Program} {a:Act} {w:World} {o:Oper} {x:Operand} {ops:List Operand} {ts:Array TypeId} {l:Nat} {L:Loop} (ho:o.op=.call ⟨.value x,ops.toArray,ts⟩) (hx:a.eval x=.func (.yield l) #[] #[])
  (h:w.heap[l]? = some (.loop L)) (hs:ops.length=L.params.size) (rd:Option Nat) :
  (o.semAt rd a.eval).run P w=.ok (.round l L.fn ((L.params.zip (ops.map a.eval).toArray).foldl (fun tmps (t,a)=>tmps.setIfInBounds t a) L.tmps) L.assign L.body) w:=by
 have hy:=run_yield (P:=P) (w:=w) (args:=(ops.map a.eval).toArray) h (by simpa using hs)
 have e:o.semAt rd a.eval=execOp a.eval o:=by
  unfold Oper.semAt
  cases rd with
  |none=>rfl
  |some l=>simp [ho]
 rw [e]
 simp [execOp,ho,resolve,Deferred.ofValue,hx,invoke,hy]
theorem b5t {P:Program} {G1:Gh} {l lam:Nat} {L:Loop} {fl:List (Nat×V)} {ps:List Nat} {mv:List (Nat×Nat)} {asg body:Code} {n:Nat} {ow:Nat→Bool} (hrd:G1.rd=none)
  (hL:L.state=.ready∧L.pending=none∧L.params=ps.toArray∧L.assign=asg∧L.body=body∧L.tmps.size=n) (hps:ps.Nodup∧∀ p ∈ ps,p < n) (hmv:mvC asg=some mv) (hmvn:∀ p ∈ mv,p.1 < n)
  (hlam:lam ∈ G1.nm∧G1.E0 lam=some (some l,0,0)) {O1:Nat→Prop} (hO1:∀ b,¬ O1 b→¬ G1.Of b∧¬ G1.M b)
  (hfl:∀ i,a6v G1.nm 4 (lkV fl i)=true∧R G1.w0 O1 G1.E0 (lkV fl i) (L.tmps.getD i undef)):c0h P G1 l lam L fl ps mv body n ow:=by
 intro nm2 s o Q rest as hs has hc hnm hnm2 h x ops ts ho hx hops
 subst hops
 rintro a w ⟨E,hE⟩
 obtain ⟨hl1,hl2⟩:=hlam
 have hLp:Lp L none=L:=rfl
 rw [hLp] at hs
 obtain ⟨hEl,hheap,hlt⟩:=hE.name_lt (b:=l) hs fun b' z hz=>by
  obtain ⟨r,g1,g2⟩:=hE.base lam hl1
  rw [hl2] at g1;cases g1;rw [g2] at hz;cases hz;rfl
 have hyv:=R.v_inv (a1x hE hx.symm)
 have hlen:ops.length=L.params.size:=by rw [hL.2.2.1];simpa using has
 have hrun:=b1h (P:=P) ho hyv hheap hlen G1.F.round
 unfold Oper.wpIn
 refine ⟨fun f _=>G1.fn f,?_⟩
 rw [hrun,Oper.uponIn_round]
 refine ⟨G1.depth,?_⟩
 have hF:G1.F.inRound l={ Fence.wide with round:=some l }:=by unfold Gh.F Fence.inRound;rfl
 rw [hL.2.2.2.1,hL.2.2.2.2.1]
 refine roundIn_of_wpIn (G1.fn _) (f9z (fun f=>trivial) asg mv hmv _ _ ⟨_,run_beginRound hheap hL.1,?_⟩)
 -- the round's ghost
 have hlive_l:a5r s E l:=⟨lam,_,0,0,hs,hEl⟩
 have hnOf:¬ G1.Of l:=(hE.fresh lam _ l _ hs hEl).2.1
 have hsz1:(w.putObj l (.loop { L with state:=.busy })).heap.size=w.heap.size:=World.putObj_size
 have hother:∀ k,k≠l→(w.putObj l (.loop { L with state:=.busy })).heap[k]? = w.heap[k]?:=fun k hk=>World.putObj_heap_other hk
 have hnl:∀ b,a4g w b→b≠l:=by rintro b ⟨cs,t,f,hb⟩ rfl;rw [hheap] at hb;cases hb
 have hliveS:∀ b,a5r (rnd (mvF mv (c2c ps (ops.map (ev s))++fl)) s lam L) E b→a5r s E b:=by
  rintro b ⟨id,ob,K,C,g1,g2⟩
  by_cases e:lam=id
  ·subst e;exact ⟨lam,_,K,C,hs,g2⟩
  ·exact ⟨id,ob,K,C,by simpa [rnd,e] using g1,g2⟩
 have hMl:∀ b,a5r s E b→G1.lo≤b:=fun b hb=>by
  obtain ⟨id,ob,K,C,g1,g2⟩:=hb
  exact hE.lo_le g1 g2
 have hlo1:G1.lo≤(w.putObj l (.loop { L with state:=.busy })).heap.size:=by rw [hsz1];exact Nat.le_trans G1.hlo hE.grow
 let G2:Gh:={ w0:=w.putObj l (.loop { L with state:=.busy }),Of:=G1.Of,n:=n,M:=a5r s E,ow:=ow,lo:=G1.lo,hlo:=hlo1,hM:=hMl,hgl:=hE.glob.monoC (by rw [hsz1];exact Nat.le_refl _) (fun b hb _=>hb) (fun b _ _ hb=>hother b (hnl b hb)),nm:=nm2,E0:=E,rd:=some l,Zi:=G1.Zi,hZi:=G1.hZi }
 have hbase:∀ id,id ∈ nm2→∃ r,E id=some r:=fun id hid=>by
  rcases hnm2 id hid with g|g
  ·obtain ⟨r,_,g2⟩:=hE.base id g;exact ⟨r,g2⟩
  ·obtain ⟨ob,hob⟩:=Option.isSome_iff_exists.1 g
   obtain ⟨b,K,C,g1,_⟩:=hE.hp id ob hob
   exact ⟨_,g1⟩
 -- the loop's frame,as it is now
 have hframe:∀ i,R w (OT G1 s E) E (lkV fl i) (L.tmps.getD i undef):=fun i=>by
  obtain ⟨g1,g2⟩:=hfl i
  refine g2.nms hE.grow (fun b hb hlt hot=>?_) (fun b hb hlt hc=>hE.keep b hlt (hO1 b hb).2) (fun id hid r hr=>?_) 4 g1
  ·obtain ⟨q1,q2⟩:=hO1 b hb
   rcases hot with hot|⟨id,ob,K,C,k1,k2⟩
   ·exact q1 hot
   ·rcases (hE.fresh id ob b _ k1 k2).1 with k3|k3
    ·omega
    ·exact q2 k3
  ·obtain ⟨r',k1,k2⟩:=hE.base id hid
   rw [hr] at k1;cases k1;exact k2
 have hargsR:∀ (j:Nat) (u:V) (y:Value),(ops.map (ev s))[j]? = some u→(ops.map a.eval)[j]? = some y→R w (OT G1 s E) E u y:=fun j u y g1 g2=>by
  simp only [List.getElem?_map,Option.map_eq_some_iff] at g1 g2
  obtain ⟨z,h3,rfl⟩:=g1
  obtain ⟨z',h4,rfl⟩:=g2
  rw [h3] at h4;cases h4
  exact b5r hE z
 obtain ⟨z1,z2⟩:=c9t L.tmps ps (ops.map a.eval) (by simpa using has) (fun p hp=>by rw [hL.2.2.2.2.2];exact hps.2 p hp)
 have z2:=z2 (ops.map (ev s)) (R w (OT G1 s E) E) (lkV fl) has hps.1 hargsR hframe fl (fun _=>rfl)
 have hfold:(L.params.zip (ops.map a.eval).toArray).foldl (fun tmps (x:Nat×Value)=>tmps.setIfInBounds x.1 x.2) L.tmps=(ps.zip (ops.map a.eval)).foldl (fun tmps (x:Nat×Value)=>tmps.setIfInBounds x.1 x.2) L.tmps:=by
  rw [hL.2.2.1];simp [List.zip_toArray]
 have hO2:∀ b,¬ OT G1 s E b→¬ OT G2 (rnd (mvF mv (c2c ps (ops.map (ev s))++fl)) s lam L) E b:=fun b hb hb'=>hb (hb'.elim .inl fun h=>.inr (hliveS b h))
 have hcell:∀ b,¬ OT G1 s E b→b < w.heap.size→a4g w b→(w.putObj l (.loop { L with state:=.busy })).heap[b]? = w.heap[b]?:=fun b _ _ hc=>hother b (hnl b hc)
 have hE2:SimE G2 (rnd (mvF mv (c2c ps (ops.map (ev s))++fl)) s lam L) (mvA mv { tmps:=(L.params.zip (ops.map a.eval).toArray).foldl (fun tmps (x:Nat×Value)=>tmps.setIfInBounds x.1 x.2) L.tmps,defers:=[] }) (w.putObj l (.loop { L with state:=.busy })) E:=by
  refine ⟨fun i=>?_,by rw [(c1r _ _).2];exact DefOK.nil,by rw [(c1r _ _).1,hfold,z1];exact hL.2.2.2.2.2,fun id ob hob=>?_,hE.us,fun id id' ob ob' b y y' k1 k2 k3 k4=>?_,fun id ob b y k1 k2=>?_,fun b hb=>by rw [hsz1];exact hE.old b hb,Nat.le_refl _,rfl,rfl,rfl,fun _ _ _=>rfl,fun id hid=>?_,?_⟩
  ·refine f9m mv _ _ (fun p hp=>by rw [hfold,z1,hL.2.2.2.2.2];exact hmvn p hp) (fun i=>?_) i
   rw [hfold]
   exact (z2 i).monoC (by rw [hsz1];exact Nat.le_refl _) (fun b hb _=>hO2 b hb) hcell fun _ _ h=>h
  ·by_cases e:lam=id
   ·subst e
    simp [rnd] at hob
    subst hob
    exact ⟨_,_,_,hEl,l,rfl,World.putObj_heap_same hlt,rfl,rfl⟩
   ·have hob':s.hp id=some ob:=by simpa [rnd,e] using hob
    obtain ⟨b,K,C,k1,k2⟩:=hE.hp id ob hob'
    refine ⟨b,K,C,k1,k2.monoC (by rw [hsz1];exact Nat.le_refl _) (fun b hb _=>hO2 b hb) hcell (fun _ _ h=>h) fun b' hb'=>hother b' fun e'=>?_⟩
    subst hb';subst e'
    exact e (hE.inj lam id _ _ _ _ _ hs hob' hEl k1)
  ·have g:∀ id ob,(rnd (mvF mv (c2c ps (ops.map (ev s))++fl)) s lam L).hp id=some ob→∃ ob',s.hp id=some ob':=fun id ob hob=>by
    by_cases e:lam=id
    ·subst e;exact ⟨_,hs⟩
    ·exact ⟨ob,by simpa [rnd,e] using hob⟩
   obtain ⟨_,g1⟩:=g id ob k1
   obtain ⟨_,g2⟩:=g id' ob' k2
   exact hE.inj id id' _ _ b y y' g1 g2 k3 k4
  ·obtain ⟨yK,yC⟩:=y
   have hlv:=hliveS b ⟨id,ob,yK,yC,k1,k2⟩
   obtain ⟨id',ob',K,C,g1,g2⟩:=hlv
   obtain ⟨q1,q2,q3⟩:=hE.fresh id' ob' b _ g1 g2
   exact ⟨.inr ⟨id',ob',K,C,g1,g2⟩,q2,by rw [hsz1];exact q3⟩
  ·obtain ⟨r,hr⟩:=hbase id hid
   exact ⟨r,hr,hr⟩
  ·exact G1.hZi _ _ (by rw [hsz1];exact Nat.le_refl _) (fun b hb=>hother b fun e=>hnOf (e ▸ hb)) hE.zi
 have hbody:=h G2 rfl rfl rfl rfl rfl _ _ ⟨E,hE2⟩
 have hF2:G2.F=G1.F.inRound l:=by rw [hF];rfl
 rw [hF2] at hbody
 refine wpIn_mono hbody ?_
 rintro e a2 w3 ⟨s2,hq,E3,hE3⟩
 -- behind the round
 have hE3l:E3 lam=some (some l,0,0):=by
  obtain ⟨r,k1,k2⟩:=hE3.base lam (hnm lam hl1)
  have:E lam=some r:=k1
  rw [hEl] at this;cases this;exact k2
 have hE3e:∀ id,id ∈ nm2→∀ r,E id=some r→E3 id=some r:=fun id hid r hr=>by
  obtain ⟨r',k1,k2⟩:=hE3.base id hid
  have:E id=some r':=k1
  rw [hr] at this;cases this;exact k2
 have fin:∀ (jump:Option Code) (L':Loop),L'={ Lb L with state:=if jump.isNone then .ready else .done,pending:=jump }→s2.hget lam=some (.obj (.loop (Lb L)))→rest (bck nm2 s s2 o.dst jump.isNone lam L') →
   ∃ v w',(Instr.endRound l jump).run P w3=.ok v w'∧∃ s',rest s'∧Sim G1 s' (a.put o.dst v) w':=by
  intro jump L' hL' hlb hrest
  obtain ⟨_,hh3,hlt3⟩:=hE3.name_lt (b:=l) (id:=lam) hlb fun b' z hz=>by rw [hE3l] at hz;cases hz;rfl
  refine ⟨_,_,run_endRound jump hh3,_,hrest,E3,?_⟩
  have hw4:∀ k,k≠l→(w3.putObj l (.loop { Lb L with state:=if jump.isNone then .ready else .done,pending:=jump })).heap[k]? = w3.heap[k]?:=fun k hk=>World.putObj_heap_other hk
  have hsz4:(w3.putObj l (.loop { Lb L with state:=if jump.isNone then .ready else .done,pending:=jump })).heap.size=w3.heap.size:=World.putObj_size
  rw [← hL'] at hw4 hsz4 ⊢
  have hnl3:∀ b,a4g w3 b→b≠l:=by rintro b ⟨cs,t,f,hb⟩ rfl;rw [hh3] at hb;cases hb
  have hgrow3:w.heap.size≤w3.heap.size:=by have:=hE3.grow;rw [show G2.w0.heap.size=w.heap.size from hsz1] at this;exact this
  -- a5r blocks behind the round
  have hlv:∀ b,a5r (bck nm2 s s2 o.dst jump.isNone lam L') E3 b→a5r s2 E3 b:=by
   rintro b ⟨id,ob,K,C,g1,g2⟩
   by_cases e:lam=id
   ·subst e;exact ⟨lam,_,K,C,hlb,g2⟩
   ·refine ⟨id,ob,K,C,?_,g2⟩
    have:(bck nm2 s s2 o.dst jump.isNone lam L').hget id=some ob:=g1
    rw [a7v,if_neg e] at this;exact this
  have hfr3:∀ b,a5r s2 E3 b→(w.heap.size≤b∨a5r s E b)∧¬ G1.Of b∧b < w3.heap.size:=by
   rintro b ⟨id,ob,K,C,g1,g2⟩
   obtain ⟨q1,q2,q3⟩:=hE3.fresh id ob b _ g1 g2
   rw [show G2.w0.heap.size=w.heap.size from hsz1] at q1
   exact ⟨q1,q2,q3⟩
  have hO4:∀ b,¬ OT G1 s E b→b < w.heap.size→¬ OT G1 (bck nm2 s s2 o.dst jump.isNone lam L') E3 b:=by
   rintro b hb hlt' (g|g)
   ·exact hb (.inl g)
   ·rcases (hfr3 b (hlv b g)).1 with g|g
    ·omega
    ·exact hb (.inr g)
  have hO5:∀ b,¬ OT G2 s2 E3 b→¬ OT G1 (bck nm2 s s2 o.dst jump.isNone lam L') E3 b:=by
   rintro b hb (g|g)
   ·exact hb (.inl g)
   ·exact hb (.inr (hlv b g))
  have hkeep:∀ b,b < w.heap.size→¬ a5r s E b→(w3.putObj l (.loop L')).heap[b]? = w.heap[b]?:=fun b hlt' hnl'=>by
   have e1:b≠l:=fun e=>hnl' (e ▸ hlive_l)
   rw [hw4 b e1,hE3.keep b (by rw [show G2.w0.heap.size=w.heap.size from hsz1];exact hlt') hnl']
   exact hother b e1
  refine ⟨fun i=>?_,?_,?_,fun id ob hob=>?_,fun id hid=>?_,fun id id' ob ob' b y y' k1 k2 k3 k4=>?_,fun id ob b y k1 k2=>?_,fun b hb=>by rw [hsz4];exact hE3.old b hb,?_,?_,?_,?_,fun b k1 k2=>?_,fun id hid=>?_,?_⟩
  ·have hbase:∀ i,R (w3.putObj l (.loop L')) (OT G1 (bck nm2 s s2 o.dst jump.isNone lam L') E3) E3 (keepV nm2 (s.fr i)) (a.tmps.getD i undef):=fun i=>by
    refine (hE.fr i).keepV (by rw [hsz4];exact hgrow3) hO4 (fun b hb hlt' hc=>?_) hE3e
    exact hkeep b hlt' fun h=>hb (.inr h)
   cases hd:o.dst with
   |none=>rw [hd] at hbase;exact hbase i
   |some d =>
    rw [hd] at hc
    rw [b4r a d i _ (by rw [hE.size];exact hc)]
    show R _ _ _ (if d=i then _ else _) _
    rw [hd] at hbase
    split
    ·exact .r0 _ _ (.v _)
    ·exact hbase i
  ·have:(a.put o.dst (.bool jump.isNone)).defers=a.defers:=by cases o.dst<;>rfl
   rw [this]
   refine hE.defers.mono rfl fun b hb hlt' _=>⟨hkeep b hlt' hb,fun h=>?_⟩
   rcases (hfr3 b (hlv b h)).1 with g|g
   ·omega
   ·exact hb g
  ·have:(a.put o.dst (.bool jump.isNone)).tmps.size=a.tmps.size:=by cases o.dst<;>simp [Act.put]
   rw [this];exact hE.size
  ·have hob':(bck nm2 s s2 o.dst jump.isNone lam L').hget id=some ob:=hob
   rw [a7v] at hob'
   by_cases e:lam=id
   ·subst e
    rw [if_pos rfl] at hob'
    cases hob'
    exact ⟨_,_,_,hE3l,l,rfl,World.putObj_heap_same hlt3,rfl,rfl⟩
   ·rw [if_neg e] at hob'
    obtain ⟨b,K,C,k1,k2⟩:=hE3.hp id ob hob'
    refine ⟨b,K,C,k1,k2.monoC (by rw [hsz4];exact Nat.le_refl _) (fun b hb _=>hO5 b hb) (fun b _ _ hc=>hw4 b (hnl3 b hc)) (fun _ _ h=>h) fun b' hb'=>hw4 b' fun e'=>?_⟩
    subst hb';subst e'
    exact e (hE3.inj lam id _ _ _ _ _ hlb hob' hE3l k1)
  ·have:(bck nm2 s s2 o.dst jump.isNone lam L').used id=s2.used id:=c1q _ _ _ _ _ _ _ _
   exact this.trans (hE3.us id hid)
  ·have g:∀ id ob,(bck nm2 s s2 o.dst jump.isNone lam L').hp id=some ob→∃ ob',s2.hp id=some ob':=fun id ob hob=>by
    have hob':(bck nm2 s s2 o.dst jump.isNone lam L').hget id=some ob:=hob
    rw [a7v] at hob'
    by_cases e:lam=id
    ·subst e;exact ⟨_,hlb⟩
    ·rw [if_neg e] at hob';exact ⟨ob,hob'⟩
   obtain ⟨_,g1⟩:=g id ob k1
   obtain ⟨_,g2⟩:=g id' ob' k2
   exact hE3.inj id id' _ _ b y y' g1 g2 k3 k4
  ·obtain ⟨yK,yC⟩:=y
   obtain ⟨q1,q2,q3⟩:=hfr3 b (hlv b ⟨id,ob,yK,yC,k1,k2⟩)
   refine ⟨?_,q2,by rw [hsz4];exact q3⟩
   rcases q1 with q1|⟨id',ob',K,C,g1,g2⟩
   ·exact .inl (Nat.le_trans hE.grow q1)
   ·exact (hE.fresh id' ob' b _ g1 g2).1
  ·rw [hsz4];exact Nat.le_trans hE.grow hgrow3
  ·exact (hE3.os.trans rfl).trans hE.os
  ·exact (hE3.tape.trans rfl).trans hE.tape
  ·exact (hE3.output.trans rfl).trans hE.output
  ·rw [hkeep b (Nat.lt_of_lt_of_le k1 hE.grow) fun hl=>?_]
   ·exact hE.keep b k1 k2
   ·obtain ⟨id,ob,K,C,g1,g2⟩:=hl
    rcases (hE.fresh id ob b _ g1 g2).1 with q|q
    ·omega
    ·exact k2 q
  ·obtain ⟨r,g1,g2⟩:=hE.base id hid
   exact ⟨r,g1,hE3e id (hnm id hid) r g2⟩
  ·refine G1.hZi w3 _ (by rw [hsz4];exact Nat.le_refl _) (fun b hb=>hw4 b fun e=>hnOf (e ▸ hb)) hE3.zi
 cases e with
 |normal=>exact fin none (Lp L none) (by obtain ⟨h1,h2,_⟩:=hL;cases L;simp_all [Lp,Lb]) hq.1 hq.2
 |ret=>exact fin (some .ret) (Lp L (some .ret)) (by simp [Lp,Lb]) hq.1 hq.2
 |exit id=>exact fin (some (.exit id)) (Lp L (some (.exit id))) (by simp [Lp,Lb]) hq.1 hq.2
 |goto=>exact hq.elim
 |panic=>exact hq.elim
 |outgrown=>exact hq.elim
theorem c4f {nm nm':List Nat} (h:∀ id ∈ nm,id ∈ nm'):∀ (n:Nat) {x:V},a6v nm n x=true→a6v nm' n x=true:=by
 intro n
 induction n with
 |zero=>intro x h;cases h
 |succ n ih =>
  intro x hx
  cases x with
  |ptr id off=>have:=h id (by simpa [a6v] using hx);simpa [a6v] using this
  |eptr id i k sz=>have:=h id (by simpa [a6v] using hx);simpa [a6v] using this
  |own id off len sz=>have:=h id (by simpa [a6v] using hx);simpa [a6v] using this
  |mp id=>have:=h id (by simpa [a6v] using hx);simpa [a6v] using this
  |agg cs=>exact List.all_eq_true.2 fun u hu=>ih (List.all_eq_true.1 (show cs.all (a6v nm n)=true from hx) u hu)
  |tup cs=>exact List.all_eq_true.2 fun u hu=>ih (List.all_eq_true.1 (show cs.all (a6v nm n)=true from hx) u hu)
  |fn f cs=>exact List.all_eq_true.2 fun u hu=>ih (List.all_eq_true.1 (show cs.all (a6v nm n)=true from hx) u hu)
  |_=>rfl
theorem c0e {nm:List Nat}:∀ {fl:List (Nat×V)},fl.all (fun p=>a6v nm 4 p.2)=true→∀ i,a6v nm 4 (lkV fl i)=true:=by
 intro fl
 induction fl with
 |nil=>intro _ i;rfl
 |cons p r ih =>
  intro h i
  simp only [List.all_cons,Bool.and_eq_true] at h
  simp only [lkV]
  split
  ·exact h.1
  ·exact ih h.2 i
structure YI (P:Program) (G:Gh) (l lam:Nat) (L:Loop) (fl:List (Nat×V)) (ps:List Nat) (mv:List (Nat×Nat)) (asg body:Code) (n:Nat):Prop where
 rd:G.rd=none
 hL:L.state=.ready∧L.pending=none∧L.params=ps.toArray∧L.assign=asg∧L.body=body∧L.tmps.size=n
 hps:ps.Nodup∧∀ p ∈ ps,p < n
 hmv:mvC asg=some mv
 hmvn:∀ p ∈ mv,p.1 < n
 lam:lam ∈ G.nm∧G.E0 lam=some (some l,0,0)
 fr:∃ O1:Nat→Prop,(∀ b,¬ O1 b→¬ G.Of b∧¬ G.M b)∧∀ i,a6v G.nm 4 (lkV fl i)=true∧R G.w0 O1 G.E0 (lkV fl i) (L.tmps.getD i undef)
theorem YI.law {P:Program} {G:Gh} {l lam:Nat} {L:Loop} {fl:List (Nat×V)} {ps:List Nat} {mv:List (Nat×Nat)} {asg body:Code} {n:Nat} (h:YI P G l lam L fl ps mv asg body n) (ow:Nat→Bool):c0h P G l lam L fl ps mv body n ow:=by
 obtain ⟨O1,h1,h2⟩:=h.fr
 exact b5t h.rd h.hL h.hps h.hmv h.hmvn h.lam h1 h2
theorem b6i {P:Program} {G:Gh} {g:Operand} {ps:List Nat} {asg body:Code} (mv:List (Nat×Nat)) {fl:List (Nat×V)} {hl:List (Nat×OB)} {Q:Exit→St→Prop} (nm:List Nat) (lam:Nat) {k:FuncId} {cap:List V} {fn:Func} {ck:Code} {m:Nat} (ow:Nat→Bool)
  (hrd:G.rd=none) (hg:ev (St.of fl hl) g=.fn (.func k) cap) (hf:P.funcs[k]? = some fn) (hm:fn.ntmps=m) (hb:fn.body=some ck) (hname:(fn.name == "runtime.NumGoroutine")=false) (hres:fn.results=#[]) (hn:cap.length+1≤m)
  (hps:ps.Nodup∧∀ p ∈ ps,p < G.n) (hnm:nm.all (usH hl)=true) (hGn:∀ id ∈ G.nm,id ∈ nm) (hfl:fl.all (fun p=>a6v nm 4 p.2)=true) (hlam:usH hl lam=false) (hmv:mvC asg=some mv) (hmvn:∀ p ∈ mv,p.1 < G.n)
  (h:∀ (G1:Gh) (l:Nat) (L:Loop),G1.n=m→G1.ow=ow→G1.nm=lam::nm→G1.lo=G.lo→G1.rd=none→YI P G1 l lam L fl ps mv asg body G.n →
   vc P G1 ck (St.of (a3l 0 (.v (.func (.yield l) #[] #[])::cap)) ((lam,.obj (.loop (Lp L none)))::hl)) (b1x fl lam L Q)) :
  SemC P G (.rangeFunc g ps.toArray asg body) (St.of fl hl) Q:=by
 subst hm
 rintro a w ⟨E,hE⟩
 have hF:G.F=Fence.wide:=by unfold Gh.F;rw [hrd];cases G.nomk<;>rfl
 rw [hF]
 refine wpIn_rangeFunc fun fid _=>?_
 obtain ⟨ys,hy,hsz,hrr⟩:=R.fn_inv (a1x hE hg)
 let L:Loop:={ state:=.ready,pending:=none,fn:=fid,tmps:=a.tmps,params:=ps.toArray,assign:=asg,body:=body,defers:=w.heap.size }
 let w1:World:=(w.alloc (.deferred (some []))).alloc (.loop L)
 have hb':fn.body≠none:=by rw [hb];simp
 have hname':fn.name≠"runtime.NumGoroutine":=by simpa using hname
 refine ⟨w.heap.size+1,[mark w.heap.size],w1,{ target:=.fn (.func k) ys,args:=#[.func (.yield (w.heap.size+1)) #[] #[]] },w1,k,#[.func (.yield (w.heap.size+1)) #[] #[]]++ys,w1,run_enterLoop_outer fid a.tmps ps.toArray asg body,?_,fun _ _=>trivial,?_,(fun h=>by cases h),?_⟩
 ·simp [resolve,rangeCall,Deferred.ofValue,hy]
  rfl
 ·simp [invoke,callFunc,hf,hb',hname']
 -- the world with the record
 have s1:w1.heap.size=w.heap.size+2:=by simp [w1]
 have hl1:w1.heap[w.heap.size+1]? = some (.loop L):=by
  have:=World.alloc_heap_new (w.alloc (.deferred (some []))) (.loop L)
  simpa [w1] using this
 have hd1:w1.heap[w.heap.size]? = some (.deferred (some [])):=by
  have e:w1.heap[w.heap.size]? = (w.alloc (.deferred (some []))).heap[w.heap.size]?:=a5q _ _ _ (by simp)
  rw [e];exact World.alloc_heap_new _ _
 have hold:∀ b,b < w.heap.size→w1.heap[b]? = w.heap[b]?:=fun b hb=>(a5q _ _ b (by simp;omega)).trans (a5q _ _ b hb)
 have hElam:E lam=none:=by
  cases he:E lam with
  |none=>rfl
  |some r=>have:=hE.us lam (by rw [he];simp);rw [show (St.of fl hl).us lam=usH hl lam from rfl,hlam] at this;cases this
 let E1:Env:=fun id=>if id=lam then some (some (w.heap.size+1),0,0) else E id
 have hE1l:E1 lam=some (some (w.heap.size+1),0,0):=if_pos rfl
 have hE1e:∀ id r,E id=some r→E1 id=some r:=fun id r hi=>by
  show (if id=lam then _ else E id)=_
  rw [if_neg (by rintro rfl;rw [hElam] at hi;cases hi)]
  exact hi
 have hE1b:∀ id r,id≠lam→E1 id=some r→E id=some r:=fun id r hne hi=>by
  have:(if id=lam then some (some (w.heap.size+1),0,0) else E id)=some r:=hi
  rw [if_neg hne] at this;exact this
 have hliveLo:∀ b,a5r (St.of fl hl) E b∨b=w.heap.size+1→G.lo≤b:=by
  rintro b (⟨id,ob,K,C,g1,g2⟩|rfl)
  ·exact hE.lo_le g1 g2
  ·have:=hE.grow;have:=G.hlo;omega
 have hlo1:G.lo≤w1.heap.size:=by have:=hE.grow;have:=G.hlo;omega
 have hglb:GlobOK w1 (fun b=>G.Of b∨a5r (St.of fl hl) E b∨b=w.heap.size+1):=hE.glob.monoC (by omega) (fun b hb hlt hb'=>by
  rcases hb' with g|g|g
  ·exact hb (.inl g)
  ·exact hb (.inr g)
  ·omega) (fun b _ hlt _=>hold b hlt)
 let G1:Gh:={ w0:=w1,Of:=G.Of,n:=fn.ntmps,M:=fun b=>a5r (St.of fl hl) E b∨b=w.heap.size+1,ow:=ow,lo:=G.lo,hlo:=hlo1,hM:=hliveLo,hgl:=hglb,nm:=lam::nm,E0:=E1,rd:=none,Zi:=G.Zi,hZi:=G.hZi }
 let s1':St:=St.of (a3l 0 (.v (.func (.yield (w.heap.size+1)) #[] #[])::cap)) ((lam,.obj (.loop (Lp L none)))::hl)
 have hhp:∀ id ob,s1'.hp id=some ob→(id=lam∧ob=.obj (.loop L))∨(id≠lam∧lkH hl id=some ob):=fun id ob hob=>by
  have hob':(if lam=id then some (OB.obj (.loop (Lp L none))) else lkH hl id)=some ob:=hob
  by_cases e:lam=id
  ·rw [if_pos e] at hob';cases hob';exact .inl ⟨e.symm,rfl⟩
  ·rw [if_neg e] at hob';exact .inr ⟨Ne.symm e,hob'⟩
 have hlv1:∀ b,a5r s1' E1 b→a5r (St.of fl hl) E b∨b=w.heap.size+1:=by
  rintro b ⟨id,ob,K,C,g1,g2⟩
  rcases hhp id ob g1 with ⟨rfl,rfl⟩|⟨hne,h2⟩
  ·rw [hE1l] at g2;cases g2;exact .inr rfl
  ·exact .inl ⟨id,ob,K,C,h2,hE1b id _ hne g2⟩
 have hO1:∀ b,¬ OT G (St.of fl hl) E b→b < w.heap.size→¬ OT G1 s1' E1 b:=by
  rintro b hb hlt (g|g)
  ·exact hb (.inl g)
  ·rcases hlv1 b g with g|g
   ·exact hb (.inr g)
   ·omega
 have hltOf:∀ b,G.Of b→b < w.heap.size:=hE.old
 have hnmhl:∀ id ∈ nm,∃ ob,lkH hl id=some ob:=fun id hid=>usH_lk.1 (List.all_eq_true.1 hnm id hid)
 have hsza:(#[Value.func (.yield (w.heap.size+1)) #[] #[]]++ys).size=cap.length+1:=by simp [hsz];omega
 have hE1s:SimE G1 s1' { tmps:=#[Value.func (.yield (w.heap.size+1)) #[] #[]]++ys++Array.replicate (fn.ntmps - (#[Value.func (.yield (w.heap.size+1)) #[] #[]]++ys).size) undef,defers:=[] } w1 E1:=by
  refine ⟨fun i=>?_,DefOK.nil,by rw [Array.size_append,Array.size_replicate,hsza];show _=fn.ntmps;omega,fun id ob hob=>?_,fun id hid=>?_,fun id id' ob ob' b y y' k1 k2 k3 k4=>?_,fun id ob b y k1 k2=>?_,fun b hb=>by rw [s1];have:=hltOf b hb;omega,Nat.le_refl _,rfl,rfl,rfl,fun _ _ _=>rfl,fun id hid=>?_,?_⟩
  ·show R _ _ _ (lkV (a3l 0 (.v (.func (.yield (w.heap.size+1)) #[] #[])::cap)) i) _
   rw [b1t,b1p]
   simp only [Nat.zero_le,if_true,Nat.sub_zero]
   cases i with
   |zero =>
    have e0:(#[Value.func (.yield (w.heap.size+1)) #[] #[]]++ys).getD 0 undef=.func (.yield (w.heap.size+1)) #[] #[]:=by
     rw [Array.getD_eq_getD_getElem?,Array.getElem?_append_left (by simp)];rfl
    rw [e0]
    exact .r0 _ _ (.v _)
   |succ i =>
    simp only [List.getElem?_cons_succ]
    cases hc:cap[i]? with
    |none=>exact .r0 _ _ (.any _)
    |some u =>
     have hlt:i < ys.size:=by rw [hsz];exact (List.getElem?_eq_some_iff.1 hc).1
     have hy':(#[Value.func (.yield (w.heap.size+1)) #[] #[]]++ys).getD (i+1) undef=ys[i]:=by
      rw [Array.getD_eq_getD_getElem?,Array.getElem?_append_right (by simp)]
      simp [hlt]
     rw [hy']
     exact (hrr i u ys[i] hc (by simp [hlt])).mono (by rw [s1];omega) hO1 (fun b _ hb=>hold b hb) hE1e
  ·rcases hhp id ob hob with ⟨rfl,rfl⟩|⟨hne,h2⟩
   ·exact ⟨_,_,_,hE1l,w.heap.size+1,rfl,hl1,rfl,rfl⟩
   ·obtain ⟨b,K,C,g1,g2⟩:=hE.hp id ob h2
    refine ⟨b,K,C,hE1e _ _ g1,g2.mono (by rw [s1];omega) hO1 (fun b _ hb=>hold b hb) hE1e fun b' hb'=>hold b' ?_⟩
    subst hb'
    exact (hE.fresh id ob b' _ h2 g1).2.2
  ·show ((lam == id) || usH hl id)=true
   by_cases e:id=lam
   ·simp [e]
   ·obtain ⟨r,hr⟩:=Option.ne_none_iff_exists'.1 hid
    have:=hE.us id (by rw [hE1b id r e hr];simp)
    rw [show (St.of fl hl).us id=usH hl id from rfl] at this
    simp [this]
  ·obtain ⟨yK,yC⟩:=y
   obtain ⟨yK',yC'⟩:=y'
   rcases hhp id ob k1 with ⟨rfl,rfl⟩|⟨hne,h2⟩<;>rcases hhp id' ob' k2 with ⟨rfl,rfl⟩|⟨hne',h2'⟩
   ·rfl
   ·rw [hE1l] at k3;cases k3
    have:=(hE.fresh id' ob' _ _ h2' (hE1b _ _ hne' k4)).2.2;omega
   ·rw [hE1l] at k4;cases k4
    have:=(hE.fresh id ob _ _ h2 (hE1b _ _ hne k3)).2.2;omega
   ·exact hE.inj id id' ob ob' b _ _ h2 h2' (hE1b _ _ hne k3) (hE1b _ _ hne' k4)
  ·rcases hhp id ob k1 with ⟨rfl,rfl⟩|⟨hne,h2⟩
   ·rw [hE1l] at k2;cases k2
    exact ⟨.inr (.inr rfl),fun hof=>by have:=hltOf _ hof;omega,by rw [s1];omega⟩
   ·obtain ⟨q1,q2,q3⟩:=hE.fresh id ob b y h2 (hE1b _ _ hne k2)
    obtain ⟨yK,yC⟩:=y
    exact ⟨.inr (.inl ⟨id,ob,yK,yC,h2,hE1b _ _ hne k2⟩),q2,by rw [s1];omega⟩
  ·rcases List.mem_cons.1 hid with rfl|hid
   ·exact ⟨_,hE1l,hE1l⟩
   ·obtain ⟨ob,hob⟩:=hnmhl id hid
    obtain ⟨b,K,C,g1,_⟩:=hE.hp id ob hob
    exact ⟨_,hE1e _ _ g1,hE1e _ _ g1⟩
  ·exact G.hZi w w1 (by rw [s1];omega) (fun b hb=>hold b (hltOf b hb)) hE.zi
 have hY:YI P G1 (w.heap.size+1) lam L fl ps mv asg body G.n:=by
  refine ⟨rfl,⟨rfl,rfl,rfl,rfl,rfl,hE.size⟩,hps,hmv,hmvn,⟨by simp [G1],hE1l⟩,fun b=>OT G (St.of fl hl) E b∨w.heap.size≤b,fun b hb=>⟨fun g=>hb (.inl (.inl g)),?_⟩,fun i=>⟨c4f (fun id h=>List.mem_cons_of_mem _ h) 4 (c0e hfl i),?_⟩⟩
  ·rintro (g|g)
   ·exact hb (.inl (.inr g))
   ·exact hb (.inr (by omega))
  ·exact (hE.fr i).mono (by show _≤w1.heap.size;rw [s1];omega) (fun b hb hlt h=>by rcases h with h|h;exact hb h;omega) (fun b _ hb=>hold b hb) hE1e
 have hF1:G1.F=Fence.wide:=rfl
 have hwalk:=a0d ck _ _ (h G1 (w.heap.size+1) L rfl rfl rfl rfl rfl hY) _ w1 ⟨E1,hE1s⟩
 rw [hF1] at hwalk
 refine callsIn_of_wp_marks (F:=Fence.wide) (n:=0) hf hb trivial (wpIn_mono hwalk ?_)
 rintro e a2 w2 ⟨s2,hq,E2,hE2⟩
 -- behind the function
 have fin:b1x fl lam L Q .ret s2→LeavesInM Fence.wide 0 P fn a2.tmps (rangePost Fence.wide 0 P (w.heap.size+1) (b7c G Q) { tmps:=a.tmps,defers:=[mark w.heap.size]++a.defers }) a2.defers .returning w2:=by
  rintro ⟨st,hst,hQ⟩
  refine a9e (by simp) hE2 (fun b hb=>by have:=hltOf b hb;show b < w1.heap.size;rw [s1];omega) fun w3 hE3=>?_
  refine ⟨.tuple #[],by simp [results,hres],?_⟩
  have hE2l:E2 lam=some (some (w.heap.size+1),0,0):=by
   obtain ⟨r,k1,k2⟩:=hE3.base lam (by simp [G1])
   have:E1 lam=some r:=k1
   rw [hE1l] at this;cases this;exact k2
  obtain ⟨_,hh3,hlt3⟩:=hE3.name_lt (b:=w.heap.size+1) (id:=lam) hst fun b' z hz=>by rw [hE2l] at hz;cases hz;rfl
  have hstate:(Lp L st).state≠.busy:=by cases st<;>simp [Lp,L]
  have hend:∃ w4,w4=w3.putObj (w.heap.size+1) (.loop { Lp L st with state:=.exhausted }):=⟨_,rfl⟩
  obtain ⟨w4,hw4⟩:=hend
  have hw4:=hw4.symm
  refine ⟨(Lp L st).pending,w4,hw4 ▸ run_endLoop hh3 hstate,?_⟩
  have hpend:(Lp L st).pending=st:=by cases st<;>simp [Lp,L]
  rw [hpend]
  have h4:∀ k,k≠w.heap.size+1→w4.heap[k]? = w3.heap[k]?:=fun k hk=>by rw [← hw4];exact World.putObj_heap_other hk
  have sz4:w4.heap.size=w3.heap.size:=by rw [← hw4];exact World.putObj_size
  have hg3:w.heap.size+2≤w3.heap.size:=by have:=hE3.grow;rw [show G1.w0.heap.size=w.heap.size+2 from s1] at this;exact this
  have hfr3:∀ b,a5r s2 E2 b→(w.heap.size+2≤b∨a5r (St.of fl hl) E b∨b=w.heap.size+1)∧¬ G.Of b∧b < w3.heap.size:=by
   rintro b ⟨id,ob,K,C,g1,g2⟩
   obtain ⟨q1,q2,q3⟩:=hE3.fresh id ob b _ g1 g2
   rw [show G1.w0.heap.size=w.heap.size+2 from s1] at q1
   exact ⟨q1,q2,q3⟩
  have hlvA:∀ b,a5r (aft fl s2 lam) E2 b→a5r s2 E2 b∧b≠w.heap.size+1:=by
   rintro b ⟨id,ob,K,C,g1,g2⟩
   have g1':(if lam=id then none else s2.hp id)=some ob:=g1
   by_cases e:lam=id
   ·rw [if_pos e] at g1';cases g1'
   ·rw [if_neg e] at g1'
    refine ⟨⟨id,ob,K,C,g1',g2⟩,?_⟩
    rintro rfl
    exact e (hE3.inj lam id _ _ _ _ _ hst g1' hE2l g2)
  have hkeep:∀ b,b < w.heap.size→¬ a5r (St.of fl hl) E b→w4.heap[b]? = w.heap[b]?:=fun b hlt hnl=>by
   rw [h4 b (by omega),hE3.keep b (by show b < w1.heap.size;rw [s1];omega) (by rintro (g|g);exact hnl g;omega)]
   exact hold b hlt
  have hOA:∀ b,¬ OT G (St.of fl hl) E b→b < w.heap.size→¬ OT G (aft fl s2 lam) E2 b:=by
   rintro b hb hlt (g|g)
   ·exact hb (.inl g)
   ·rcases (hfr3 b (hlvA b g).1).1 with g|g|g
    ·omega
    ·exact hb (.inr g)
    ·omega
  have hOB:∀ b,¬ OT G1 s2 E2 b→¬ OT G (aft fl s2 lam) E2 b:=by
   rintro b hb (g|g)
   ·exact hb (.inl g)
   ·exact hb (.inr (hlvA b g).1)
  have hnl3:∀ b,a4g w3 b→b≠w.heap.size+1:=by rintro b ⟨cs,t,f,hb⟩ rfl;rw [hh3] at hb;cases hb
  have hbase:∀ id,id ∈ nm→∀ r,E id=some r→E2 id=some r:=fun id hid r hr=>by
   obtain ⟨r',k1,k2⟩:=hE3.base id (by simp [G1,hid])
   have:E1 id=some r':=k1
   rw [hE1e _ _ hr] at this;cases this;exact k2
  have hA:SimE G (aft fl s2 lam) { tmps:=a.tmps,defers:=[mark w.heap.size]++a.defers } w4 E2:=by
   refine ⟨fun i=>?_,?_,hE.size,fun id ob hob=>?_,hE3.us,fun id id' ob ob' b y y' k1 k2 k3 k4=>?_,fun id ob b y k1 k2=>?_,fun b hb=>by have:=hltOf b hb;rw [sz4];omega,by have:=hE.grow;rw [sz4];omega,?_,?_,?_,fun b k1 k2=>?_,fun id hid=>?_,?_⟩
   ·exact (hE.fr i).nms (by rw [sz4];omega) hOA (fun b hb hlt _=>hkeep b hlt fun g=>hb (.inr g)) hbase 4 (c0e hfl i)
   ·obtain ⟨rs,e1,e2,e3⟩:=hE.defers
    refine ⟨w.heap.size::rs,by rw [e1];rfl,List.nodup_cons.2 ⟨fun hm=>?_,e2⟩,fun r hr=>?_⟩
    ·have:=(e3 _ hm).1
     rw [show w.heap[w.heap.size]? = none by simp] at this;cases this
    ·have hnlr:¬ a5r (aft fl s2 lam) E2 r:=by
      intro g
      rcases (hfr3 r (hlvA r g).1).1 with g'|g'|g'
      ·rcases List.mem_cons.1 hr with rfl|hr
       ·omega
       ·have:=(e3 r hr).1
        have:r < w.heap.size:=(Array.getElem?_eq_some_iff.1 this).1
        omega
      ·rcases List.mem_cons.1 hr with rfl|hr
       ·obtain ⟨id,ob,K,C,q1,q2⟩:=g'
        have:=(hE.fresh id ob _ _ q1 q2).2.2;omega
       ·exact (e3 r hr).2.2.1 g'
      ·rcases List.mem_cons.1 hr with rfl|hr
       ·omega
       ·have:=(Array.getElem?_eq_some_iff.1 (e3 r hr).1).1;omega
     rcases List.mem_cons.1 hr with rfl|hr
     ·refine ⟨?_,hE.grow,hnlr,by cases h:G.nomk with|false=>rfl|true=>exact absurd hrd (G.hnk h)⟩
      rw [h4 _ (by omega),hE3.keep _ (by show _ < w1.heap.size;rw [s1];omega) (by
       rintro (g|g)
       ·obtain ⟨id,ob,K,C,q1,q2⟩:=g
        have:=(hE.fresh id ob _ _ q1 q2).2.2;omega
       ·omega)]
      exact hd1
     ·obtain ⟨q1,q2,q3,q4⟩:=e3 r hr
      have hlt:r < w.heap.size:=(Array.getElem?_eq_some_iff.1 q1).1
      exact ⟨(hkeep r hlt q3).trans q1,q2,hnlr,q4⟩
   ·have hob':(if lam=id then none else s2.hp id)=some ob:=hob
    by_cases e:lam=id
    ·rw [if_pos e] at hob';cases hob'
    ·rw [if_neg e] at hob'
     obtain ⟨b,K,C,k1,k2⟩:=hE3.hp id ob hob'
     refine ⟨b,K,C,k1,k2.monoC (by rw [sz4];exact Nat.le_refl _) (fun b hb _=>hOB b hb) (fun b _ _ hc=>h4 b (hnl3 b hc)) (fun _ _ h=>h) fun b' hb'=>h4 b' fun e'=>?_⟩
     subst hb';subst e'
     exact e (hE3.inj lam id _ _ _ _ _ hst hob' hE2l k1)
   ·have g:∀ id ob,(aft fl s2 lam).hp id=some ob→s2.hp id=some ob:=fun id ob hob=>by
     have hob':(if lam=id then none else s2.hp id)=some ob:=hob
     by_cases e:lam=id
     ·rw [if_pos e] at hob';cases hob'
     ·rw [if_neg e] at hob';exact hob'
    exact hE3.inj id id' _ _ b y y' (g _ _ k1) (g _ _ k2) k3 k4
   ·obtain ⟨yK,yC⟩:=y
    obtain ⟨q0,q0'⟩:=hlvA b ⟨id,ob,yK,yC,k1,k2⟩
    obtain ⟨q1,q2,q3⟩:=hfr3 b q0
    refine ⟨?_,q2,by rw [sz4];exact q3⟩
    rcases q1 with q1|⟨id',ob',K,C,g1,g2⟩|q1
    ·exact .inl (by have:=hE.grow;omega)
    ·exact (hE.fresh id' ob' b _ g1 g2).1
    ·exact (q0' q1).elim
   ·rw [← hw4];exact hE3.os.trans hE.os
   ·rw [← hw4];exact hE3.tape.trans hE.tape
   ·rw [← hw4];exact hE3.output.trans hE.output
   ·rw [hkeep b (Nat.lt_of_lt_of_le k1 hE.grow) fun g=>?_]
    ·exact hE.keep b k1 k2
    ·obtain ⟨id,ob,K,C,g1,g2⟩:=g
     rcases (hE.fresh id ob b _ g1 g2).1 with q|q
     ·omega
     ·exact k2 q
   ·obtain ⟨r,g1,g2⟩:=hE.base id hid
    exact ⟨r,g1,hbase id (hGn id hid) r g2⟩
   ·exact G.hZi w3 w4 (by rw [sz4];exact Nat.le_refl _) (fun b hb=>h4 b fun e=>by have:=hltOf b hb;omega) hE3.zi
  cases st with
  |none=>exact ⟨_,hQ,E2,hA⟩
  |some c =>
   cases c with
   |ret=>exact wpIn_ret ⟨_,hQ,E2,hA⟩
   |exit id=>exact wpIn_exit ⟨_,hQ,E2,hA⟩
   |_=>exact hQ.elim
 cases e with
 |normal=>exact fin hq
 |ret=>exact fin hq
 |exit=>exact hq.elim
 |goto=>exact hq.elim
 |panic=>exact hq.elim
 |outgrown=>exact hq.elim
def f8j (G:Gh) {α:Type} (F:α→St) (I:α→Prop) (Q:Exit→St→Prop):Exit→St→Prop
 |.normal,s=>∃ x,I x∧Ent G s (F x)
 |e,s=>Q e s
theorem f8f {G:Gh} {α:Type} {F:α→St} {I:α→Prop} {Q:Exit→St→Prop} (s:St):f8j G F I Q .normal s=∃ x,I x∧Ent G s (F x):=rfl
theorem f9h {G:Gh} {α:Type} {F:α→St} {I:α→Prop} {Q:Exit→St→Prop} (s:St):f8j G F I Q .ret s=Q .ret s:=rfl
theorem g1b {G:Gh} {α:Type} {F:α→St} {I:α→Prop} {Q:Exit→St→Prop} (i:Nat) (s:St):f8j G F I Q (.exit i) s=Q (.exit i) s:=rfl
attribute [go_sem] f8f f9h g1b
theorem a2s {P:Program} {G:Gh} {c:Code} {s:St} {Q:Exit→St→Prop} {i:Nat} {α:Type} (F:α→St) (I:α→Prop) (h1:SemC P G c s (c9v G i F I Q)) (h2:∀ x,I x→Q .normal (F x)) :
  SemC P G c s (c5x i Q):=by
 intro a w hs
 refine wpIn_mono (h1 a w hs) ?_
 rintro e a' w' ⟨s',hq,hs'⟩
 have fin:(∃ x,I x∧Ent G s' (F x))→b7c G Q .normal a' w':=fun ⟨x,hI,he⟩=>⟨F x,h2 x hI,he _ _ hs'⟩
 cases e with
 |normal =>
  obtain ⟨s2,h3,h4⟩:=fin hq
  exact ⟨s2,h3,h4⟩
 |exit j =>
  simp only [c9v] at hq
  split at hq
  ·rename_i hj
   obtain ⟨s2,h3,h4⟩:=fin hq
   exact ⟨s2,by simp only [c5x];rw [if_pos hj];exact h3,h4⟩
  ·rename_i hj
   exact ⟨s',by simp only [c5x];rw [if_neg hj];exact hq,hs'⟩
 |ret=>exact ⟨s',hq,hs'⟩
 |goto=>exact ⟨s',hq,hs'⟩
 |panic=>exact ⟨s',hq,hs'⟩
 |outgrown=>exact ⟨s',hq,hs'⟩
def a5g (a b:Option Code):Option Code:=match a with
 |some c=>some c
 |none=>b
def rgO (i:Nat):Code→Option Code
 |.region j ops d=>if j=i then some (.region j ops d) else none
 |.seq a b=>a5g (rgO i a) (rgO i b)
 |.cond _ a b=>a5g (rgO i a) (rgO i b)
 |.block _ c=>rgO i c
 |.loop c=>rgO i c
 |.scope c=>rgO i c
 |.rangeFunc _ _ a b=>a5g (rgO i a) (rgO i b)
 |_=>none
def bkO (i:Nat):Code→Option Code
 |.seq a b=>a5g (bkO i a) (bkO i b)
 |.cond _ a b=>a5g (bkO i a) (bkO i b)
 |.block j c=>if j=i then some c else bkO i c
 |.loop c=>bkO i c
 |.scope c=>bkO i c
 |.rangeFunc _ _ a b=>a5g (bkO i a) (bkO i b)
 |_=>none
def d5l (i:Nat) (c:Option Code):Code:=((c.bind (rgO i)).getD .skip)
def b3i (i:Nat) (c:Option Code):Code:=((c.bind (bkO i)).getD .skip)
theorem a6n {P:Program} {G:Gh} {c c':Code} {s:St} {Q:Exit→St→Prop} (e:c'=c) (h:SemC P G c' s Q):SemC P G c s Q:=e ▸ h
attribute [go_sem] f2i e9t e8u f4e e8l a7v c1q f3t e7b e5l f3h e1w e2b e7x d9q d6b e9h e1s d8a e6y a6v c2c mvF RQ
theorem b7l {P:Program} {G:Gh} {g:Operand} {ps:List Nat} {asg body:Code} (mv:List (Nat×Nat)) {fl:List (Nat×V)} {hl:List (Nat×OB)} {Q:Exit→St→Prop} (nm:List Nat) (lam:Nat) {k:FuncId} {cap:List V} {fn:Func} {ck:Code} {m:Nat} (ow:Nat→Bool)
  (hrd:G.rd=none) (hg:ev (St.of fl hl) g=.fn (.func k) cap) (hf:P.funcs[k]? = some fn) (hm:fn.ntmps=m) (hb:fn.body=some ck) (hname:(fn.name == "runtime.NumGoroutine")=false) (hres:fn.results=#[]) (hn:cap.length+1≤m)
  (hps:ps.Nodup∧∀ p ∈ ps,p < G.n) (hnm:nm.all (usH hl)=true) (hGn:∀ id ∈ G.nm,id ∈ nm) (hfl:fl.all (fun p=>a6v nm 4 p.2)=true) (hlam:usH hl lam=false) (hmv:mvC asg=some mv) (hmvn:∀ p ∈ mv,p.1 < G.n)
  (h:∀ (G1:Gh) (l:Nat) (L:Loop),G1.n=m→G1.ow=ow→G1.nm=lam::nm→G1.lo=G.lo→G1.rd=none→c0h P G1 l lam L fl ps mv body G.n G.ow →
   vc P G1 ck (St.of (a3l 0 (.v (.func (.yield l) #[] #[])::cap)) ((lam,.obj (.loop (Lp L none)))::hl)) (b1x fl lam L Q)) :
  SemC P G (.rangeFunc g ps.toArray asg body) (St.of fl hl) Q:=b6i mv nm lam ow hrd hg hf hm hb hname hres hn hps hnm hGn hfl hlam hmv hmvn fun G1 l L k1 k2 k3 k4 k5 hY=>h G1 l L k1 k2 k3 k4 k5 (hY.law _)
end Pm
open Go Pm
def lnE (lo:Nat) (r:List ByteArray):List V:=[a0o lo r]
def lns (lo:Nat) (l:List (List ByteArray)):V:=.lst lo 1 (l.map (lnE lo))
structure Ch where
 id:Int
 lines:List (List ByteArray)
def chE (lo:Nat) (c:Ch):List V:=[i64 c.id,lns lo c.lines]
def chs (lo:Nat) (t:List Ch):V:=.lst lo 2 (t.map (chE lo))
def txE (lo:Nat) (t:List Ch):V:=.agg [chs lo t]
structure Hp where
 id:Int
 post:Int
 rate:Int
def hpE (h:Hp):List V:=[i64 h.id,i64 h.post,i64 h.rate]
structure Sr where
 fr:Int
 to:Int
 helper:Int
 sent:Int
structure Se where
 back:Bool
 lines:List (List ByteArray)
structure Ro where
 text:List Ch
 helpers:List Hp
 shares:List Sr
 sheets:List Se
def hps (lo:Nat) (l:List Hp):V:=.lst lo 3 (l.map hpE)
attribute [go_sem] lnE lns chE chs txE hpE hps
theorem c8u (n:Nat) (l:List (List ByteArray)):a2p (l.map (lnE n))=true:=a2b (fun _=>rfl) l
theorem c7t (n:Nat) (l:List Ch):a2p (l.map (chE n))=true:=a2b (fun _=>rfl) l
theorem c8l (l:List Hp):a2p (l.map hpE)=true:=a2b (fun _=>rfl) l
attribute [go_sem] c8u c7t c8l
theorem g0r {lo:Nat} {l:List (List ByteArray)} (h:Bd (lns lo l)):l.length≤140737488355328∧∀ r ∈ l,r.length≤140737488355328:=by
 cases h with
 |lst _ _ _ h1 h2 =>
  refine ⟨by simpa using h1,fun r hr=>?_⟩
  have:=h2 (lnE lo r) (List.mem_map_of_mem hr) (a0o lo r) (by simp [lnE])
  cases this with
  |lst _ _ _ h3 _=>simpa using h3
theorem e3h {lo:Nat} {t:List Ch} (h:Bd (chs lo t)):t.length≤140737488355328∧∀ c ∈ t,c.lines.length≤140737488355328∧∀ r ∈ c.lines,r.length≤140737488355328:=by
 cases h with
 |lst _ _ _ h1 h2=>exact ⟨by simpa using h1,fun c hc=>g0r (h2 (chE lo c) (List.mem_map_of_mem hc) (lns lo c.lines) (by simp [chE]))⟩
theorem e2m {cs:List V} (h:Bd (.agg cs)):∀ x ∈ cs,Bd x:=by
 cases h with
 |agg _ h=>exact h
structure BdRo (r:Ro):Prop where
 t:r.text.length≤140737488355328∧∀ c ∈ r.text,c.lines.length≤140737488355328∧∀ r ∈ c.lines,r.length≤140737488355328
 h:r.helpers.length≤140737488355328
 s:r.shares.length≤140737488355328
 x:r.sheets.length≤140737488355328∧∀ c ∈ r.sheets,c.lines.length≤140737488355328∧∀ r ∈ c.lines,r.length≤140737488355328
def a3g {α:Type} (f:List α→α→Bool):List α→List α→Bool
 |_,[]=>true
 |pre,x::r=>f pre x && a3g f (pre++[x]) r
theorem b8u {α:Type} (f:List α→α→Bool):∀ (l m pre:List α),a3g f pre (l++m)=(a3g f pre l && a3g f (pre++l) m):=by
 intro l
 induction l with
 |nil=>intro m pre;simp [a3g]
 |cons x r ih=>intro m pre;simp [a3g,ih,Bool.and_assoc]
theorem a7x {α:Type} (f:List α→α→Bool) (l:List α) (k:Nat) (hk:k < l.length):a3g f [] (l.take (k+1))=(a3g f [] (l.take k) && f (l.take k) l[k]):=by
 rw [List.take_add_one,List.getElem?_eq_getElem hk,b8u];simp [a3g]
theorem a9u {α:Type} {f:List α→α→Bool} {l:List α} {k:Nat} (hk:k < l.length) (h:f (l.take k) l[k]=false):a3g f [] l=false:=by
 have:=b8u f (l.take (k+1)) (l.drop (k+1)) []
 rw [List.take_append_drop,a7x f l k hk,h] at this
 simpa using this
theorem d6q {α:Type} {f:List α→α→Bool} {l:List α} (h:a3g f [] l=true) {k:Nat} (hk:k < l.length):f (l.take k) l[k]=true:=by
 cases e:f (l.take k) l[k] with
 |true=>rfl
 |false=>rw [a9u hk e] at h;exact absurd h (by simp)
def inB (n lo hi:Int):Bool:=decide (lo≤n) && decide (n≤hi)
def a1p (b:UInt8):Bool:=!(decide ((b.toNat:Int) < 97) || decide (122 < (b.toNat:Int)))
def a1b (s:ByteArray):Bool:=s.data.toList.all a1p && inB s.size 1 12
def a8f (l:List ByteArray):Bool:=inB l.length 1 10 && l.all a1b
def a8n (pre:List Ch) (c:Ch):Bool:=inB c.id 0 9999 && inB c.lines.length 1 10 && !(pre.any fun d=>decide (d.id=c.id)) && c.lines.all a8f
def a1r (t:List Ch):Bool:=inB t.length 1 6 && a3g a8n [] t
def OKl (l:List (List ByteArray)):Prop:=l.length≤40∧∀ r ∈ l,r.length≤15∧∀ s ∈ r,s.size≤40
def OKt (t:List Ch):Prop:=t.length≤10∧∀ c ∈ t,OKl c.lines
structure OKr (r:Ro):Prop where
 t:OKt r.text
 h:r.helpers.length≤8
 s:r.shares.length≤12
 x:r.sheets.length≤12∧∀ x ∈ r.sheets,OKl x.lines
open Go Go.RowKit Go.WideShapes Go.ChangeShapes Go.ChangeAt
namespace Pm
def CellsF (w:World) (cs:List V) (ys:List Value):Prop:=ys.length=cs.length∧∀ (j:Nat) (u:V) (y:Value),cs[j]? = some u→ys[j]? = some y→R0 w (fun _=>False) u y
theorem CellsF.one {w:World} {u:V} {y:Value} (h:R0 w (fun _=>False) u y):CellsF w [u] [y]:=⟨rfl,fun j u' y' h1 h2=>by
 cases j with
 |zero=>simp at h1 h2;subst h1;subst h2;exact h
 |succ j=>simp at h1⟩
theorem CellsF.one_inv {w:World} {u:V} {y:Value} (h:CellsF w [u] [y]):R0 w (fun _=>False) u y:=h.2 0 u y rfl rfl
def Rd (P:Program) (t:TypeId) {α:Type} (f:α→List V) (p:α→Prop):Prop :=
 ∀ (H:Type) (enc:TypeId×Value→H) (w:World) (fuel:Nat) (cs:List Value) (d:DataW H) (ps:List MemPlace),DataW.trod enc P w 0 (fun _=>true) true fuel t cs=some (d,ps)→(∀ n ∈ d.weights P t,n≤140737488355328)→w.noneFrozen ps→∃ x:α,p x∧CellsF w (f x) cs
theorem Rd.int {P:Program} {t:TypeId} {k:IntKind} (ht:P.underlying t=some (.int k)):Rd P t (fun n:Int=>[.v (.int k n)]) (fun n=>(Lit.int k n).wf=true):=by
 intro H enc w fuel cs d ps h _ _
 obtain ⟨n,rfl,_,hw⟩:=DataW.trod_int ht h
 exact ⟨n,hw,.one (.v _)⟩
theorem Rd.bool {P:Program} {t:TypeId} (ht:P.underlying t=some .bool):Rd P t (fun b:Bool=>[.v (.bool b)]) (fun _=>True):=by
 intro H enc w fuel cs d ps h _ _
 obtain ⟨b,rfl,_⟩:=DataW.trod_bool ht h
 exact ⟨b,trivial,.one (.v _)⟩
theorem Rd.string {P:Program} {t:TypeId} (ht:P.underlying t=some .string):Rd P t (fun s:ByteArray=>[.v (.string s)]) (fun s=>s.size≤140737488355328):=by
 intro H enc w fuel cs d ps h hw _
 obtain ⟨s,rfl,hx,hs⟩:=DataW.trod_string ht h
 simp only [Prod.mk.injEq] at hx
 obtain ⟨rfl,_⟩:=hx
 exact ⟨s,by simpa using hw s.data.toList.length (by simp [DataW.weights]),.one (.v _)⟩
theorem b7w {β:Type} {g:Nat→Option β} {n:Nat} {l:List β} (h:(List.range n).mapM g=some l):l.length=n∧∀ i,i < n→g i=l[i]? :=
 ⟨by simpa using mapM_some_length h,fun i hi=>mapM_some_get h i i (by simp [hi])⟩
theorem c9d {α β:Type} {R:Nat→β→α→Prop}:∀ (n:Nat) (l:List β),l.length=n→(∀ i y,l[i]? = some y→∃ x,R i y x)→∃ m:List α,m.length=n∧∀ i y x,l[i]? = some y→m[i]? = some x→R i y x:=by
 intro n
 induction n with
 |zero =>
  intro l hl _
  exact ⟨[],rfl,fun i y x _ h=>by simp at h⟩
 |succ n ih =>
  intro l hl h
  have hne:l≠[]:=by rintro rfl;simp at hl
  obtain ⟨m,hm,hR⟩:=ih l.dropLast (by simp [hl]) (fun i y hy=>by
   obtain ⟨hi,e⟩:=List.getElem?_eq_some_iff.1 hy
   simp at hi
   exact h i y (by rw [← e];simp))
  have hlast:l[n]? = some (l.getLast hne):=by rw [List.getLast_eq_getElem,List.getElem?_eq_getElem (by omega)];simp [hl]
  obtain ⟨x,hx⟩:=h n _ hlast
  refine ⟨m++[x],by simp [hm],fun i y x' h1 h2=>?_⟩
  by_cases hi:i < n
  ·rw [List.getElem?_append_left (by omega)] at h2
   refine hR i y x' ?_ h2
   rw [← h1]
   simp [hl,hi]
  ·obtain ⟨hi',_⟩:=List.getElem?_eq_some_iff.1 h2
   have:i=n:=by simp at hi';omega
   subst this
   rw [List.getElem?_append_right (by omega)] at h2
   simp [hm] at h2
   subst h2
   rw [hlast] at h1
   cases h1
   exact hx
theorem Rd.slice {P:Program} {t e sz:TypeId} {α:Type} {f:α→List V} {p:α→Prop} (ht:P.underlying t=some (.slice e)) (hsz:P.cellsOf e=sz) (h0:0 < sz) (hb0:Nat.ble 1 (P.bytesOf e)=true) (hf:∀ x,(f x).length=sz) (he:Rd P e f p) :
  Rd P t (fun l:List α=>[.lst 0 sz (l.map f)]) (fun l=>l.length≤140737488355328∧∀ x ∈ l,p x):=by
 subst hsz
 intro H enc w fuel cs d ps h hwt hnf
 rcases DataW.trod_slice ht h with ⟨rfl,_⟩|⟨a,len,cap,elems,rest,n,rfl,rfl,hx,_,hlc,hcap,hel,hget,hrest,_⟩
 ·exact ⟨[],⟨by simp,by simp⟩,.one (.lst 0 _ [] none 0 0 0 0 (fun _ _=>undef) (by simp) rfl (by simp) (by simp) (by simp) (by simp) (by simp) (by simp))⟩
 ·simp only [Prod.mk.injEq] at hx
  obtain ⟨rfl,rfl⟩:=hx
  obtain ⟨hr1,_⟩:=hrest rfl
  have hw1:len≤140737488355328:=by
   have:=hwt ((elems.length+rest.length) * P.bytesOf e) (by simp [DataW.weights,ht])
   have h2:(elems.length+rest.length) * 1≤(elems.length+rest.length) * P.bytesOf e:=Nat.mul_le_mul_left _ (Nat.le_of_ble_eq_true hb0)
   omega
  have hw2:∀ x ∈ elems,∀ n ∈ x.1.weights P e,n≤140737488355328:=fun x hx n hn=>hwt n (by
   have:∀ {l:List (DataW H)} {d:DataW H},d ∈ l→∀ n ∈ d.weights P e,n ∈ DataW.weightsAll P e l:=by
    intro l
    induction l with
    |nil=>intro d h;cases h
    |cons a r ih =>
     intro d h n hn
     simp only [DataW.weightsAll,List.mem_append]
     rcases List.mem_cons.1 h with rfl|h
     ·exact .inl hn
     ·exact .inr (ih h n hn)
   have hm:=this (List.mem_map_of_mem (f:=(·.1)) hx) n hn
   simp [DataW.weights,ht,hm])
  -- every element's cells
  have key:∀ i y,(List.range len)[i]? = some y→∃ z:α×List Value,p z.1∧CellsF w (f z.1) z.2∧w.cells? 0 (a.add (i * P.cellsOf e)) (P.cellsOf e)=some z.2:=by
   intro i y hy
   obtain ⟨hi,_⟩:=List.getElem?_eq_some_iff.1 hy
   simp at hi
   have hg:=hget i hi
   rw [List.getElem?_eq_getElem (by omega)] at hg
   simp only [Option.bind_eq_some_iff] at hg
   obtain ⟨cs',h1,h2⟩:=hg
   have hsub:w.noneFrozen (elems[i]'(by omega)).2:=fun b off hp=>hnf b off (by
    simp only [List.mem_append,List.mem_flatMap]
    exact .inr ⟨_,.inl (List.getElem_mem _),hp⟩)
   obtain ⟨x,hp,hc⟩:=he H enc w n cs' _ _ h2 (hw2 _ (List.getElem_mem _)) hsub
   exact ⟨(x,cs'),hp,hc,h1⟩
  obtain ⟨m,hm,hR⟩:=c9d (R:=fun i _ (z:α×List Value)=>p z.1∧CellsF w (f z.1) z.2∧w.cells? 0 (a.add (i * P.cellsOf e)) (P.cellsOf e)=some z.2) len (List.range len) (by simp) key
  have hM:∀ i (hi:i < m.length),p m[i].1∧CellsF w (f m[i].1) m[i].2∧w.cells? 0 (a.add (i * P.cellsOf e)) (P.cellsOf e)=some m[i].2:=fun i hi=>hR i i m[i] (by rw [List.getElem?_range (by omega)]) (List.getElem?_eq_getElem hi)
  obtain ⟨b,o,sp⟩:=a
  have hcell:∀ i (hi:i < m.length) j (y:Value),m[i].2[j]? = some y→w.cell? (((⟨b,o,sp⟩:Addr).add (i * P.cellsOf e)).add j)=some y∧j < P.cellsOf e:=by
   intro i hi j y hy
   obtain ⟨_,_,hc⟩:=hM i hi
   unfold World.cells? at hc
   rw [if_pos (Nat.zero_le _)] at hc
   obtain ⟨h1,h2⟩:=b7w hc
   obtain ⟨hj,_⟩:=List.getElem?_eq_some_iff.1 hy
   rw [h1] at hj
   exact ⟨(h2 j hj).trans hy,hj⟩
  have hlen:∀ i (hi:i < m.length),m[i].2.length=P.cellsOf e:=by
   intro i hi
   obtain ⟨_,h2,_⟩:=hM i hi
   rw [h2.1,hf]
  refine ⟨m.map (·.1),⟨by simp;omega,?_⟩,.one ?_⟩
  ·intro x hx
   simp only [List.mem_map] at hx
   obtain ⟨z,hz,rfl⟩:=hx
   obtain ⟨i,hi,rfl⟩:=List.getElem_of_mem hz
   exact (hM i hi).1
  ·have hsp:0 < m.length→sp=none:=by
    intro hpos
    have:=hcell 0 hpos 0 (m[0].2[0]'(by rw [hlen 0 hpos];exact h0)) (List.getElem?_eq_getElem _)
    simpa [Addr.add] using World.cell?_spot this.1
   by_cases hpos:m.length=0
   ·have:m=[]:=List.length_eq_zero_iff.1 hpos
    subst this
    simp at hm
    subst hm
    exact .lst 0 _ [] _ _ _ 0 0 (fun _ _=>undef) (by simp) rfl (by simp) (by simp) (by simp) (by simp) (by simp) (by simp)
   ·have hs0:=hsp (by omega)
    subst hs0
    have hblt:b < w.heap.size:=by
     have:=hcell 0 (by omega) 0 (m[0].2[0]'(by rw [hlen 0 (by omega)];exact h0)) (List.getElem?_eq_getElem _)
     have h1:=this.1
     simp only [Addr.add] at h1
     unfold World.cell? at h1
     false_or_by_contra
     rename_i hge
     have:w.heap[b]? = none:=by simp;omega
     simp [this] at h1
    refine .lst 0 _ _ (some ⟨b,o,none⟩) len cap b o (fun i j=>((m[i]?.map (·.2)).getD [])[j]?.getD undef) (fun _=>Nat.zero_le _) (by simp;omega) (by simp;omega) (by simp;omega) (fun _=>⟨rfl,fun h=>h,hblt⟩) ?_ ?_ ?_
    ·intro i x j u h1 h2
     simp only [List.getElem?_map,List.map_map] at h1
     obtain ⟨z,hz,rfl⟩:=Option.map_eq_some_iff.1 h1
     obtain ⟨hi,rfl⟩:=List.getElem?_eq_some_iff.1 hz
     obtain ⟨hj,_⟩:=List.getElem?_eq_some_iff.1 h2
     have hj':j < m[i].2.length:=by rw [hlen i hi,← hf m[i].1];exact hj
     have hc:=hcell i hi j (m[i].2[j]) (List.getElem?_eq_getElem hj')
     simp only [a3o] at hc
     have e1:(((m[i]?.map (·.2)).getD [])[j]?).getD undef=m[i].2[j]:=by simp [List.getElem?_eq_getElem hi,List.getElem?_eq_getElem hj']
     rw [e1,show o+(i * P.cellsOf e+j)=o+i * P.cellsOf e+j by omega]
     refine ⟨hc.1,fun _=>hnf b _ ?_⟩
     simp only [List.mem_append]
     left
     unfold MemPlace.row
     simp only [List.mem_map,List.mem_range]
     refine ⟨i * P.cellsOf e+j,?_,by simp;omega⟩
     have:(i+1) * P.cellsOf e≤(elems.length+rest.length) * P.cellsOf e:=Nat.mul_le_mul_right _ (by omega)
     rw [Nat.add_mul] at this
     omega
    ·intro x hx
     simp only [List.map_map,List.mem_map] at hx
     obtain ⟨z,_,rfl⟩:=hx
     exact hf _
    ·intro i x j u h1 h2
     simp only [List.getElem?_map,List.map_map] at h1
     obtain ⟨z,hz,rfl⟩:=Option.map_eq_some_iff.1 h1
     obtain ⟨hi,rfl⟩:=List.getElem?_eq_some_iff.1 hz
     obtain ⟨hj,_⟩:=List.getElem?_eq_some_iff.1 h2
     have hj':j < m[i].2.length:=by rw [hlen i hi,← hf m[i].1];exact hj
     have e1:(((m[i]?.map (·.2)).getD [])[j]?).getD undef=m[i].2[j]:=by simp [List.getElem?_eq_getElem hi,List.getElem?_eq_getElem hj']
     rw [e1]
     exact (hM i hi).2.1.2 j u _ h2 (List.getElem?_eq_getElem hj')
def RdF (P:Program):List TypeId→{α:Type}→(α→List V)→(α→Prop)→Prop:=fun ts {α} f p =>
 ∀ (H:Type) (enc:TypeId×Value→H) (w:World) (fuel:Nat) (cs:List Value) (xs:List (DataW H×List MemPlace)),cs.length=(ts.map P.cellsOf).sum→xs.length=ts.length →
  (∀ (i:Nat) (t:TypeId),ts[i]? = some t→DataW.trod enc P w 0 (fun _=>true) true fuel t ((cs.drop ((ts.take i).map P.cellsOf).sum).take (P.cellsOf t))=xs[i]?)→(∀ (i:Nat) (t:TypeId) (x:DataW H×List MemPlace),ts[i]? = some t→xs[i]? = some x→∀ n ∈ x.1.weights P t,n≤140737488355328)→w.noneFrozen (xs.flatMap (·.2))→∃ x:α,p x∧CellsF w (f x) cs
theorem RdF.nil {P:Program}:RdF P [] (fun _:Unit=>[]) (fun _=>True):=by
 intro H enc w fuel cs xs h1 _ _ _ _
 simp at h1
 subst h1
 exact ⟨(),trivial,rfl,by simp⟩
theorem CellsF.append {w:World} {a b:List V} {x y:List Value} (h1:CellsF w a x) (h2:CellsF w b y):CellsF w (a++b) (x++y):=by
 refine ⟨by simp [h1.1,h2.1],fun j u z hu hz=>?_⟩
 by_cases hj:j < a.length
 ·rw [List.getElem?_append_left hj] at hu
  rw [List.getElem?_append_left (by rw [h1.1];exact hj)] at hz
  exact h1.2 j u z hu hz
 ·rw [List.getElem?_append_right (by omega)] at hu
  rw [List.getElem?_append_right (by rw [h1.1];omega),h1.1] at hz
  exact h2.2 _ u z hu hz
theorem RdF.cons {P:Program} {t:TypeId} {ts:List TypeId} {α β:Type} {f:α→List V} {g:β→List V} {p:α→Prop} {q:β→Prop} (h1:Rd P t f p) (h2:RdF P ts g q):RdF P (t::ts) (fun x:α×β=>f x.1++g x.2) (fun x=>p x.1∧q x.2):=by
 intro H enc w fuel cs xs hl hx hg hwt hn
 match xs,hx with
 |x0::xr,hx =>
  have h0:=hg 0 t rfl
  simp only [List.take_zero,List.map_nil,List.sum_nil,List.drop_zero,List.getElem?_cons_zero] at h0
  simp only [List.map_cons,List.sum_cons] at hl
  obtain ⟨a,ha,hca⟩:=h1 H enc w fuel _ x0.1 x0.2 h0 (hwt 0 t x0 rfl rfl) (fun b off hp=>hn b off (by simp [hp]))
  obtain ⟨b,hb,hcb⟩:=h2 H enc w fuel (cs.drop (P.cellsOf t)) xr (by simp;omega) (by simpa using hx) (fun i t' hi=>by
   have:=hg (i+1) t' (by simpa using hi)
   simp only [List.take_succ_cons,List.map_cons,List.sum_cons,List.getElem?_cons_succ] at this
   rw [List.drop_drop]
   exact this) (fun i t' x h3 h4=>hwt (i+1) t' x (by simpa using h3) (by simpa using h4)) (fun b off hp=>hn b off (by simp only [List.flatMap_cons,List.mem_append];exact .inr hp))
  refine ⟨(a,b),⟨ha,hb⟩,?_⟩
  have:=hca.append hcb
  rw [List.take_append_drop] at this
  exact this
theorem Rd.struct {P:Program} {t:TypeId} {fs:Array Field} {α:Type} {f:α→List V} {p:α→Prop} (ht:P.underlying t=some (.struct fs)) (hc:P.cellsOf t=((fs.toList.map (·.type)).map P.cellsOf).sum)
  (ho:(List.range fs.size).map (fun i=>(fs.toList[i]?).map (·.offset))=(List.range fs.size).map (fun i=>some (((fs.toList.map (·.type)).take i).map P.cellsOf).sum))
  (h:RdF P (fs.toList.map (·.type)) f p):Rd P t f p:=by
 intro H enc w fuel cs d ps hd hwt hn
 obtain ⟨xs,n,_,hx,hl,hxl,hg⟩:=DataW.trod_struct ht hd
 simp only [Prod.mk.injEq] at hx
 obtain ⟨rfl,rfl⟩:=hx
 refine h H enc w n cs xs (hl.trans hc) (by simpa using hxl) (fun i t' hi=>?_) (fun i t' x h3 h4 n hn=>hwt n ?_) hn
 rotate_left
 ·simp only [DataW.weights,ht]
  exact DataW.weights_mem_each h3 (by simp [h4]) n hn
 simp only [List.getElem?_map] at hi
 obtain ⟨fd,hfd,rfl⟩:=Option.map_eq_some_iff.1 hi
 have hi':i < fs.size:=by obtain ⟨h,_⟩:=List.getElem?_eq_some_iff.1 hfd;simpa using h
 have e:=congrArg (·[i]?) ho
 simp only [List.getElem?_map,List.getElem?_range hi',Option.map_some,hfd] at e
 rw [← hg i fd (by simpa using hfd)]
 injection e with e
 injection e with e
 rw [e]
theorem Rd.map {P:Program} {t:TypeId} {α β:Type} {f:α→List V} {g:β→List V} {p:α→Prop} {q:β→Prop} (h:Rd P t f p) (k:∀ x,p x→∃ y,q y∧g y=f x):Rd P t g q:=by
 intro H enc w fuel cs d ps hd hwt hn
 obtain ⟨x,hp,hc⟩:=h H enc w fuel cs d ps hd hwt hn
 obtain ⟨y,hq,e⟩:=k x hp
 exact ⟨y,hq,e ▸ hc⟩
def RdV (P:Program) (t:TypeId) {α:Type} (g:α→V) (p:α→Prop):Prop :=
 ∀ (H:Type) (enc:TypeId×Value→H) (w:World) (base:Nat) (v:Value) (d:DataW H) (ps:List MemPlace),Value.okWide P w .any base t v→DataW.Trod enc P w 0 (fun _=>true) true t v d ps→(∀ n ∈ d.weights P t,n≤140737488355328)→w.noneFrozen ps→∃ x:α,p x∧R0 w (fun _=>False) (g x) v
theorem RdV.struct {P:Program} {t:TypeId} {fs:Array Field} {α:Type} {f:α→List V} {p:α→Prop} (ht:P.underlying t=some (.struct fs)) (h:Rd P t f p):RdV P t (fun x=>.agg (f x)) p:=by
 intro H enc w base v d ps hok hd hwt hn
 unfold Value.okWide at hok
 rw [ht] at hok
 obtain ⟨cs,rfl,_,_⟩:=hok
 obtain ⟨n,hd⟩:=hd
 obtain ⟨x,hp,hc⟩:=h H enc w n _ d ps hd hwt hn
 refine ⟨x,hp,.agg _ _ (by simpa [Value.cells] using hc.1) fun j u y h1 h2=>hc.2 j u y h1 (by simpa [Value.cells] using h2)⟩
theorem RdV.one {P:Program} {t:TypeId} {α:Type} {g:α→V} {p:α→Prop} (ht:∀ w base v,Value.okWide P w .any base t v→v.cells=#[v]) (h:Rd P t (fun x=>[g x]) p):RdV P t g p:=by
 intro H enc w base v d ps hok hd hwt hn
 have e:=ht w base v hok
 obtain ⟨n,hd⟩:=hd
 rw [e] at hd
 obtain ⟨x,hp,hc⟩:=h H enc w n _ d ps hd hwt hn
 exact ⟨x,hp,hc.one_inv⟩
theorem e2v {P:Program} {t:TypeId} {k:IntKind} (ht:P.underlying t=some (.int k)) (w:World) (base:Nat) (v:Value) (h:Value.okWide P w .any base t v):v.cells=#[v]:=by
 unfold Value.okWide Cell.okWide Cell.ok at h
 simp only [ht] at h
 cases v<;>first|rfl|exact h.elim
def RdA (P:Program) (ts:List TypeId) {α:Type} (g:α→List V) (p:α→Prop):Prop :=
 ∀ (H:Type) (enc:TypeId×Value→H) (w:World) (base:Nat) (vs:List Value) (ds:List (DataW H)) (ps:List MemPlace),(∀ (j:Nat) (t:TypeId) (v:Value),ts[j]? = some t→vs[j]? = some v→Value.okWide P w .any base t v) →
  DataW.TrodAll enc P w 0 (fun _=>true) true ts vs ds ps→(∀ n ∈ DataW.weightsEach P ts ds,n≤140737488355328)→w.noneFrozen ps→∃ x:α,p x∧CellsF w (g x) vs
theorem RdA.nil {P:Program}:RdA P [] (fun _:Unit=>[]) (fun _=>True):=by
 intro H enc w base vs ds ps _ h _ _
 obtain ⟨rfl,_,_⟩:=trodAll_nil h
 exact ⟨(),trivial,rfl,by simp⟩
theorem RdA.cons {P:Program} {t:TypeId} {ts:List TypeId} {α β:Type} {f:α→V} {g:β→List V} {p:α→Prop} {q:β→Prop} (h1:RdV P t f p) (h2:RdA P ts g q):RdA P (t::ts) (fun x:α×β=>f x.1::g x.2) (fun x=>p x.1∧q x.2):=by
 intro H enc w base vs ds ps hok h hwt hn
 obtain ⟨v,vs',d,ds',a,b,rfl,rfl,rfl,g1,g2⟩:=trodAll_cons h
 obtain ⟨x,hp,hx⟩:=h1 H enc w base v d a (hok 0 t v rfl rfl) g1 (fun n hn=>hwt n (by simp [DataW.weightsEach,hn])) (fun b off h=>hn b off (by simp [h]))
 obtain ⟨y,hq,hy⟩:=h2 H enc w base vs' ds' b (fun j t v h3 h4=>hok (j+1) t v (by simpa using h3) (by simpa using h4)) g2 (fun n hn=>hwt n (by simp [DataW.weightsEach,hn])) (fun b off h=>hn b off (by simp [h]))
 exact ⟨(x,y),⟨hp,hq⟩,(CellsF.one hx).append hy⟩
section
variable {H:Type} {enc:TypeId×Value→H} {P:Program}
theorem d5c {f:Func} {s:ChangeSpec} {apart fresh handsOn again:Bool} {W W':World} {args:Array Value} {v:Value} {ds gs:List (DataW H)} {before pa pv:List MemPlace}
  (hW:DataW.Whole enc P f.params.toList s.vars apart W args.toList ds gs before)
  (hres:∀ (b:Nat) (sp:Nat→Bool) (hd:Bool),DataW.TrodAll enc P W' b sp hd f.resultTypes.toList (v.resultList f.resultTypes.size) (s.fn H (ds++gs)).results [])
  (hargs:∀ sp:Nat→Bool,(∀ p ∈ before,sp p.block=true)→DataW.TrodAll enc P W' 0 sp true f.params.toList args.toList (s.fn H (ds++gs)).args pa)
  (hvars:∀ sp:Nat→Bool,(∀ p ∈ before,sp p.block=true)→DataW.TrodVars enc P W' sp s.vars (s.fn H (ds++gs)).vars pv)
  (hps:before=pa++pv) (hb:Below W.heap.size W W')
  (hok:∀ (j:Nat) (t:TypeId) (r:Value),f.resultTypes[j]? = some t→(v.resultList f.resultTypes.size)[j]? = some r→Value.okWide P W' .any 0 t r) :
  s.post enc P f apart fresh handsOn again W args v W':=by
 have hlt:∀ p ∈ before,p.block < W.heap.size:=fun p hp=>hW.lt p hp
 have hold:∀ p ∈ before,(fun b=>decide (b < W.heap.size)) p.block=true:=fun p hp=>by simpa using hlt p hp
 refine ⟨ds,gs,before,[],pa,pv,hW,hres _ _ _,hargs _ hold,hvars _ hold,World.keptBut_mono (fun p hp=>⟨hp,?_⟩) (hb.frame (· ∈ before)),fun _=>?_⟩
 ·rw [hps,List.mem_append] at hp
  exact Or.inr hp
 ·obtain ⟨_,_,_,_,_,hz,hn⟩:=hW
  refine ⟨hok,_,_,([]++pa)++pv,⟨[]++pa,pv,trodAll_append (hargs _ (fun _ _=>rfl)) (hres _ _ _),hvars _ (fun _ _=>rfl),rfl,?_,?_⟩,?_⟩
  ·intro b off hp
   have hin:MemPlace.cell b off ∈ before:=by rw [hps];simpa using hp
   rw [hb.frozen (hlt _ hin)]
   exact hz b off hin
  ·intro ha
   have:=hn ha
   rw [hps] at this
   simpa using this
  ·intro p hp _
   rw [hps]
   simpa using hp
theorem b1g (hl:laidOutB P=true) {W W':World} {sp:Nat→Bool}:∀ {ts:List TypeId} {vs:List Value} {ds:List (DataW H)} {ps:List MemPlace},(∀ t ∈ ts,P.readableRec t=true∧t < P.types.size) →
  DataW.TrodAll enc P W 0 (fun _=>true) true ts vs ds ps→(∀ p ∈ ps,W.sameAt W' p)→(∀ p ∈ ps,sp p.block=true)→DataW.TrodAll enc P W' 0 sp true ts vs ds ps
 |[],vs,ds,ps,_,h,_,_=>by
  obtain ⟨rfl,rfl,rfl⟩:=trodAll_nil h
  exact rfl
 |t::ts,vs,ds,ps,ht,h,hs,hp=>by
  obtain ⟨v,vs',d,ds',a,b,rfl,rfl,rfl,g1,g2⟩:=trodAll_cons h
  exact ⟨a,b,WideElems.Trod_stays hl (ht t (by simp)).1 (ht t (by simp)).2 g1 (fun p h=>hs p (by simp [h])) (fun p h=>hp p (by simp [h])),
   b1g hl (fun t h=>ht t (by simp [h])) g2 (fun p h=>hs p (by simp [h])) (fun p h=>hp p (by simp [h])),rfl⟩
end
end Pm
open Go Go.RowKit
namespace Pm
def a5p:Code→List Code
 |.seq a b=>a5p a++a5p b
 |c=>[c]
def wpL (F:Fence) (P:Program) (Q:Exit→Act→World→Prop):List Code→Act→World→Prop
 |[]=>Q .normal
 |c::r=>c.wpIn F 0 P (Exit.then (wpL F P Q r) Q)
theorem f4s {F:Fence} {P:Program} {Q:Exit→Act→World→Prop} (c:Code):∀ (r:List Code) {a:Act} {w:World},wpL F P Q (a5p c++r) a w→c.wpIn F 0 P (Exit.then (wpL F P Q r) Q) a w:=by
 have one:∀ (c:Code) (r:List Code) (a:Act) (w:World),wpL F P Q ([c]++r) a w→c.wpIn F 0 P (Exit.then (wpL F P Q r) Q) a w:=fun c r a w h=>h
 induction c with
 |seq x y ihx ihy =>
  intro r a w h
  simp only [a5p,List.append_assoc] at h
  refine wpIn_seq (wpIn_mono (ihx _ h) fun e a w h=>?_)
  cases e with
  |normal=>exact ihy r h
  |_=>exact h
 |_=>intro r a w h;exact one _ r a w h
def SemL (P:Program) (G:Gh) (l:List Code) (s:St) (Q:Exit→St→Prop):Prop:=∀ a w,Sim G s a w→wpL G.F P (b7c G Q) l a w
theorem SemL.semC {P:Program} {G:Gh} {c:Code} {s:St} {Q:Exit→St→Prop} (h:SemL P G (a5p c) s Q):SemC P G c s Q:=fun a w hs=>by
 have:=f4s c [] (by simpa using h a w hs)
 refine wpIn_mono this fun e a w h=>?_
 cases e<;>exact h
def vcN (P:Program) (G:Gh) (Q:Exit→St→Prop):Nat→List Code→St→Prop
 |0,l,s=>SemL P G l s Q
 |_+1,[],s=>Q .normal s
 |n+1,c::r,s=>vc P G c s (d3w (fun s _=>vcN P G Q n r s) Q)
theorem a1g {P:Program} {G:Gh} {Q:Exit→St→Prop}:∀ (n:Nat) (l:List Code) (s:St),vcN P G Q n l s→SemL P G l s Q:=by
 intro n
 induction n with
 |zero=>intro l s h;exact h
 |succ n ih =>
  intro l s h
  cases l with
  |nil=>intro a w hs;exact ⟨s,h,hs⟩
  |cons c r =>
   intro a w hs
   refine wpIn_mono (a0d c _ _ h a w hs) fun e a w h=>?_
   obtain ⟨s',h1,h2⟩:=h
   cases e with
   |normal=>exact ih r s' h1 a w h2
   |_=>exact ⟨s',h1,h2⟩
def XOK (G:Gh) (N:Nat) (Fx:V→Value→Prop):Prop:=∀ s a w E,SimE G s a w E→N≤w.heap.size ∧
 ∃ O':Nat→Prop,(∀ b,O' b→OT G s E b)∧(∀ b,N≤b→OT G s E b→O' b)∧∀ x y,Fx x y→R0 w O' x y
theorem XOK.of {G:Gh} {w1:World} {O1:Nat→Prop} {Fx:V→Value→Prop} (hF:∀ x y,Fx x y→R0 w1 O1 x y)
  (h:∀ w,G.Zi w→w1.heap.size≤w.heap.size∧∀ b,b < w1.heap.size→¬ O1 b→w.heap[b]? = w1.heap[b]?):XOK G w1.heap.size Fx:=by
 intro s a w E hE
 obtain ⟨h1,h2⟩:=h w hE.zi
 refine ⟨h1,fun b=>OT G s E b∧¬ (b < w1.heap.size∧¬ O1 b),fun b hb=>hb.1,fun b hN hb=>⟨hb,fun g=>by omega⟩,fun x y hxy=>?_⟩
 exact (hF x y hxy).mono h1 (fun b hb hlt g=>g.2 ⟨hlt,hb⟩) fun b hb hlt=>h2 b hlt hb
inductive AX (Fx:V→Value→Prop):V→V→Prop
 |pure (u u':V) (hp:pureV u=true) (hs:Sub u u'):AX Fx u u'
 |ex (y:Value) (u':V) (h:Fx u' y):AX Fx (.v y) u'
 |agg2 (c d c' d':V) (h1:AX Fx c c') (h2:AX Fx d d'):AX Fx (.agg [c,d]) (.agg [c',d'])
 |agg4 (a b c d a' b' c' d':V) (h1:AX Fx a a') (h2:AX Fx b b') (h3:AX Fx c c') (h4:AX Fx d d'):AX Fx (.agg [a,b,c,d]) (.agg [a',b',c',d'])
theorem AX.spec {Fx:V→Value→Prop} {w:World} {O O':Nat→Prop} {E:Env} (hF:∀ x y,Fx x y→R0 w O' x y) (hO:∀ b,O' b→O b) {u u':V} (h:AX Fx u u'):∀ {y:Value},R w O E u y→R0 w O' u' y:=by
 induction h with
 |pure u u' hp hs=>intro y hy;exact hs _ _ _ ((hy.pureV hp).mono (Nat.le_refl _) (fun b hb _ hb'=>hb (hO b hb')) fun _ _ _=>rfl)
 |ex y u' h=>intro y' hy;rw [R.v_inv hy];exact hF _ _ h
 |agg2 c d c' d' h1 h2 i1 i2 =>
  intro y hy
  obtain ⟨ys,rfl,hn,hr⟩:=R.agg_inv hy
  refine .agg _ _ hn fun j u y hj hy=>?_
  match j with
  |0=>simp at hj;subst hj;exact i1 (hr 0 c y rfl hy)
  |1=>simp at hj;subst hj;exact i2 (hr 1 d y rfl hy)
  |j+2=>simp at hj
 |agg4 a b c d a' b' c' d' h1 h2 h3 h4 i1 i2 i3 i4 =>
  intro y hy
  obtain ⟨ys,rfl,hn,hr⟩:=R.agg_inv hy
  refine .agg _ _ hn fun j u y hj hy=>?_
  match j with
  |0=>simp at hj;subst hj;exact i1 (hr 0 a y rfl hy)
  |1=>simp at hj;subst hj;exact i2 (hr 1 b y rfl hy)
  |2=>simp at hj;subst hj;exact i3 (hr 2 c y rfl hy)
  |3=>simp at hj;subst hj;exact i4 (hr 3 d y rfl hy)
  |j+4=>simp at hj
inductive AXs (Fx:V→Value→Prop):List V→List V→Prop
 |nil:AXs Fx [] []
 |cons {x x':V} {l l':List V} (h:AX Fx x x') (t:AXs Fx l l'):AXs Fx (x::l) (x'::l')
theorem AXs.spec {Fx:V→Value→Prop} {l l':List V} (h:AXs Fx l l'):l.length=l'.length∧∀ (j:Nat) (u':V),l'[j]? = some u'→∃ u,l[j]? = some u∧AX Fx u u':=by
 induction h with
 |nil=>exact ⟨rfl,by simp⟩
 |cons h t ih =>
  refine ⟨by simp [ih.1],fun j u' hj=>?_⟩
  cases j with
  |zero=>simp at hj;subst hj;exact ⟨_,rfl,h⟩
  |succ j=>simp at hj;simpa using ih.2 j u' hj
inductive Hi (N:Nat):V→Prop
 |any:Hi N .any
 |v (x:Value):Hi N (.v x)
 |lst (lo sz:Nat) (l:List (List V)) (h:N≤lo) (hr:∀ (i:Nat) (x:List V) (j:Nat) (u:V),l[i]? = some x→x[j]? = some u→Hi N u):Hi N (.lst lo sz l)
 |agg (cs:List V) (hr:∀ (j:Nat) (u:V),cs[j]? = some u→Hi N u):Hi N (.agg cs)
 |tup (cs:List V) (hr:∀ (j:Nat) (u:V),cs[j]? = some u→Hi N u):Hi N (.tup cs)
theorem Hi.spec {N:Nat} {w:World} {O O':Nat→Prop} {x:V} {y:Value} (h:R0 w O' x y):Hi N x→(∀ b,N≤b→O b→O' b)→R0 w O x y:=by
 induction h with
 |any y=>intro _ _;exact .any y
 |v x=>intro _ _;exact .v x
 |lst lo sz l a n cap b o g hlo hn hc hl ha hs hz hr ih =>
  intro h hO
  cases h with
  |lst _ _ _ h1 h2=>exact .lst lo sz l a n cap b o g hlo hn hc hl (fun h=>⟨(ha h).1,fun hb=>(ha h).2.1 (hO b (Nat.le_trans h1 (hlo h)) hb),(ha h).2.2⟩) hs hz fun i x j u q1 q2=>ih i x j u q1 q2 (h2 i x j u q1 q2) hO
 |fp cs b o g h1 hb hs hr ih=>intro h;cases h
 |agg cs ys hn hr ih =>
  intro h hO
  cases h with
  |agg _ h2=>exact .agg cs ys hn fun j u y q1 q2=>ih j u y q1 q2 (h2 j u q1) hO
 |tup cs ys hn hr ih =>
  intro h hO
  cases h with
  |tup _ h2=>exact .tup cs ys hn fun j u y q1 q2=>ih j u y q1 q2 (h2 j u q1) hO
 |fn f cap ys hn hr ih=>intro h;cases h
theorem Hi.agg2 {N:Nat} {x y:V} (h1:Hi N x) (h2:Hi N y):Hi N (.agg [x,y]):=.agg _ fun j u h=>by
 match j with
 |0=>simp at h;subst h;exact h1
 |1=>simp at h;subst h;exact h2
 |j+2=>simp at h
theorem Hi.map {α:Type} {N lo sz:Nat} {l:List α} {f:α→List V} (h:N≤lo) (hf:∀ (x:α) (j:Nat) (u:V),(f x)[j]? = some u→Hi N u):Hi N (.lst lo sz (l.map f)):=.lst _ _ _ h fun i x j u h1 h2=>by
 simp only [List.getElem?_map,Option.map_eq_some_iff] at h1
 obtain ⟨z,_,rfl⟩:=h1
 exact hf z j u h2
def isS:Value→Bool
 |.string _=>true
 |_=>false
def loose (wz w:World) (b:Nat):Prop:=∀ (ys:Array Value) (t:TypeId) (fz:Nat×Nat),wz.heap[b]? = some (.cells ys t fz) →
 ∃ ys':Array Value,w.heap[b]? = some (.cells ys' t fz)∧ys'.size=ys.size∧∀ (j:Nat) (v:Value),ys[j]? = some v→∃ v',ys'[j]? = some v'∧(v'=v∨(isS v=true∧isS v'=true))
theorem loose.same {wz w:World} {b:Nat} (h:w.heap[b]? = wz.heap[b]?):loose wz w b:=fun ys t fz hz=>⟨ys,h.trans hz,rfl,fun j v hj=>⟨v,hj,.inl rfl⟩⟩
theorem loose.next {wz w w':World} {b:Nat} (h:loose wz w b) (e:w'.heap[b]? = w.heap[b]?):loose wz w' b:=fun ys t fz hz=>by
 obtain ⟨ys',h1,h2,h3⟩:=h ys t fz hz
 exact ⟨ys',e.trans h1,h2,h3⟩
theorem d1h {w:World} {b o:Nat} {v:Value} (h:w.cell? ⟨b,o,none⟩=some v):∃ ys t fz,w.heap[b]? = some (.cells ys t fz)∧ys[o]? = some v:=by
 unfold World.cell? at h
 split at h
 ·rename_i c t fz hc
  exact ⟨c,t,fz,hc,by simpa using h⟩
 ·cases h
theorem loose.cell {wz w:World} {b o:Nat} {v:Value} (h:loose wz w b) (hc:b5k wz ⟨b,o,none⟩ v):∃ v',b5k w ⟨b,o,none⟩ v'∧(v'=v∨(isS v=true∧isS v'=true)):=by
 obtain ⟨ys,t,fz,h1,h2⟩:=d1h hc.1
 obtain ⟨ys',h3,h4,h5⟩:=h ys t fz h1
 obtain ⟨v',h6,h7⟩:=h5 o v h2
 refine ⟨v',⟨by simp [World.cell?,h3,h6],fun hw=>?_⟩,h7⟩
 have hw':wrV v=true:=by
  rcases h7 with rfl|⟨h8,_⟩
  ·exact hw
  ·cases v<;>first|rfl|cases h8
 have:=hc.2 hw'
 simpa [World.frozen?,h1,h3] using this
theorem loose.set {wz w:World} {b o:Nat} {v:Value} (h:loose wz w b) (hc:wz.cell? ⟨b,o,none⟩=some v) (hv:isS v=true) (x:ByteArray):loose wz (w.setCell ⟨b,o,none⟩ (.string x)) b:=fun ys t fz hz=>by
 obtain ⟨ys0,t0,fz0,h1,h2⟩:=d1h hc
 rw [hz] at h1
 cases h1
 obtain ⟨ys',h3,h4,h5⟩:=h ys t fz hz
 refine ⟨ys'.setIfInBounds o (.string x),by simp [World.setCell,Array.getElem?_modify,h3],by simpa using h4,fun j u hj=>?_⟩
 by_cases e:o=j
 ·subst e
  rw [h2] at hj
  cases hj
  have:o < ys'.size:=by rw [h4];exact (Array.getElem?_eq_some_iff.1 h2).1
  exact ⟨.string x,by simp [this],.inr ⟨hv,rfl⟩⟩
 ·obtain ⟨v',h6,h7⟩:=h5 j u hj
  exact ⟨v',by rw [Array.getElem?_setIfInBounds_ne e];exact h6,h7⟩
theorem a2y (a b:Code):a5p (.seq a b)=a5p a++a5p b:=rfl
theorem a1s (id:Nat) (l:Array Oper) (d:Bool):a5p (.region id l d)=[.region id l d]:=rfl
theorem a2k (c:Operand) (a b:Code):a5p (.cond c a b)=[.cond c a b]:=rfl
theorem a2e (id:Nat) (c:Code):a5p (.block id c)=[.block id c]:=rfl
theorem d7i (c:Code):a5p (.loop c)=[.loop c]:=rfl
theorem a3a:a5p .ret=[.ret]:=rfl
theorem e2d:a5p .skip=[.skip]:=rfl
theorem g3p {P:Program} {G:Gh} {Q:Exit→St→Prop} (l:List Code) (s:St):vcN P G Q 0 l s=SemL P G l s Q:=rfl
theorem g4y {P:Program} {G:Gh} {Q:Exit→St→Prop} (n:Nat) (s:St):vcN P G Q (n+1) [] s=Q .normal s:=rfl
theorem g4i {P:Program} {G:Gh} {Q:Exit→St→Prop} (n:Nat) (c:Code) (r:List Code) (s:St):vcN P G Q (n+1) (c::r) s=vc P G c s (d3w (fun s _=>vcN P G Q n r s) Q):=rfl
attribute [go_sem] a2y a1s a2k a2e d7i a3a e2d List.singleton_append g3p g4y g4i
theorem a2x {P:Program} {G:Gh} {l:List Code} {s s':St} {Q:Exit→St→Prop} (he:Ent G s s') (h:SemL P G l s' Q):SemL P G l s Q:=fun a w hs=>h a w (he a w hs)
theorem b6t (ow:Nat→Bool) {P:Program} {f:FuncId} {fn:Func} {c:Code} {as:List V} {r:Nat→V} {rs:List ResultVar} {m:Nat} (hf:P.funcs[f]? = some fn) (hm:fn.ntmps=m) (hb:fn.body=some c) (hname:(fn.name == "runtime.NumGoroutine")=false)
  (hn:as.length≤m) (hrs:fn.results=rs.toArray) (hl:rs.length≤3)
  (h:∀ (G:Gh),G.n=m→G.ow=ow→G.nm=[]→(∀ w,G.Zi w)→(∀ x ∈ as,Bd x)→SemL P G (a5p c) (St.of (a3l 0 as) []) (a2g P G.lo rs (r G.lo))):a0l P f as r:=by
 subst hm
 refine ⟨⟨fn,hf,hname,by simp [hb]⟩,fun lo w O ys hlo hO ha=>?_⟩
 refine a6c (G:=(c7d ow w O fn.ntmps lo hlo hO)) rfl hf hb ?_
 refine wpIn_mono (SemL.semC (h (c7d ow w O fn.ntmps lo hlo hO) rfl rfl rfl (fun _=>trivial) ha.bd) _ w (c5g ow hlo hO ha hn)) ?_
 rintro e a w' ⟨s,hq,hs⟩
 have fin:=d1d (P:=P) (ow:=ow) (m:=fn.ntmps) hlo hO hrs hl (r:=r lo) hs
 cases e with
 |normal=>exact fin hq
 |ret=>exact fin hq
 |exit=>exact hq.elim
 |goto=>exact hq.elim
 |panic=>exact hq.elim
 |outgrown=>exact hq.elim
def f8u (y:Value):V→V
 |.lst _ _ _|.fp _=>.v y
 |x=>x
def f1l (z:Nat→Value):Nat→List V→List V
 |_,[]=>[]
 |j,x::r=>f8u (z j) x::f1l z (j+1) r
def g1t (z:Nat→Value):OB→OB
 |.box cs=>.box (f1l z 0 cs)
 |o=>o
def exF (ys:Nat→Value):List (Nat×V)→List (Nat×V)
 |[]=>[]
 |(i,x)::r=>(i,f8u (ys i) x)::exF ys r
def exH (zs:Nat→Nat→Value):List (Nat×OB)→List (Nat×OB)
 |[]=>[]
 |(i,o)::r=>(i,g1t (zs i) o)::exH zs r
theorem g0x (ys:Nat→Value):∀ (fl:List (Nat×V)) (i:Nat),lkV (exF ys fl) i=f8u (ys i) (lkV fl i):=by
 intro fl
 induction fl with
 |nil=>intro i;rfl
 |cons p r ih =>
  obtain ⟨j,x⟩:=p
  intro i
  simp only [exF,lkV]
  split
  ·rename_i e;subst e;rfl
  ·exact ih i
theorem e4s (zs:Nat→Nat→Value):∀ (hl:List (Nat×OB)) (i:Nat),lkH (exH zs hl) i=(lkH hl i).map (g1t (zs i)):=by
 intro hl
 induction hl with
 |nil=>intro i;rfl
 |cons p r ih =>
  obtain ⟨j,x⟩:=p
  intro i
  simp only [exH,lkH]
  split
  ·rename_i e;subst e;rfl
  ·exact ih i
theorem f8y (zs:Nat→Nat→Value):∀ (hl:List (Nat×OB)) (i:Nat),usH (exH zs hl) i=usH hl i:=by
 intro hl
 induction hl with
 |nil=>intro i;rfl
 |cons p r ih=>intro i;simp only [exH,usH,ih]
theorem e6r (z:Nat→Value):∀ (cs:List V) (k j:Nat),(f1l z k cs)[j]? = (cs[j]?).map (f8u (z (k+j))):=by
 intro cs
 induction cs with
 |nil=>intro k j;simp [f1l]
 |cons x r ih =>
  intro k j
  cases j with
  |zero=>simp [f1l]
  |succ j=>simp only [f1l,List.getElem?_cons_succ,ih];rw [show k+1+j=k+(j+1) by omega]
theorem c9o (z:Nat→Value):∀ (cs:List V) (k:Nat),(f1l z k cs).length=cs.length:=by
 intro cs
 induction cs with
 |nil=>intro k;rfl
 |cons x r ih=>intro k;simp [f1l,ih]
theorem f1d {w:World} {O:Nat→Prop} {E:Env} {x:V} {y:Value} (h:R w O E x y):R w O E (f8u y x) y:=by
 cases x<;>first|exact h|exact .r0 _ _ (.v _)
def cellsOf (w:World) (E:Env) (id j:Nat):Value:=match E id with
 |some (some b,_,_)=>match w.heap[b]? with
  |some (.cells ys _ _)=>ys.getD j undef
  |_=>undef
 |_=>undef
theorem SimE.exact {G:Gh} {fl:List (Nat×V)} {hl:List (Nat×OB)} {a:Act} {w:World} {E:Env} (h:SimE G (St.of fl hl) a w E):∃ (ys:Nat→Value) (zs:Nat→Nat→Value),
  (∀ i,R w (OT G (St.of fl hl) E) E (lkV fl i) (ys i))∧(∀ id cs j u,lkH hl id=some (.box cs)→cs[j]? = some u→R w (OT G (St.of fl hl) E) E u (zs id j)) ∧
  (∀ b,OT G (St.of (exF ys fl) (exH zs hl)) E b↔OT G (St.of fl hl) E b)∧SimE G (St.of (exF ys fl) (exH zs hl)) a w E:=by
 have hz:∀ id cs j u,lkH hl id=some (.box cs)→cs[j]? = some u→R w (OT G (St.of fl hl) E) E u (cellsOf w E id j):=fun id cs j u h1 h2=>by
  obtain ⟨b,K,C,k1,b',ys,t,rfl,g2,g3,g4,g5,g6⟩:=h.hp id _ h1
  have hj:j < ys.size:=by rw [g3];exact (List.getElem?_eq_some_iff.1 h2).1
  simp only [cellsOf,k1,g2]
  exact g6 j u _ h2 (by simp [hj])
 have hlive:∀ b,a5r (St.of (exF (fun i=>a.tmps.getD i undef) fl) (exH (cellsOf w E) hl)) E b↔a5r (St.of fl hl) E b:=fun b=>by
  constructor
  ·rintro ⟨id,ob,K,C,h1,h2⟩
   have h1':lkH (exH (cellsOf w E) hl) id=some ob:=h1
   rw [e4s] at h1'
   simp only [Option.map_eq_some_iff] at h1'
   obtain ⟨o,h3,_⟩:=h1'
   exact ⟨id,o,K,C,h3,h2⟩
  ·rintro ⟨id,ob,K,C,h1,h2⟩
   have h1':lkH hl id=some ob:=h1
   refine ⟨id,g1t (cellsOf w E id) ob,K,C,?_,h2⟩
   show lkH (exH (cellsOf w E) hl) id=_
   rw [e4s,h1'];rfl
 have hOT:∀ b,OT G (St.of (exF (fun i=>a.tmps.getD i undef) fl) (exH (cellsOf w E) hl)) E b↔OT G (St.of fl hl) E b:=fun b=>or_congr Iff.rfl (hlive b)
 have hO':∀ b,¬ OT G (St.of fl hl) E b→¬ OT G (St.of (exF (fun i=>a.tmps.getD i undef) fl) (exH (cellsOf w E) hl)) E b:=fun b hb hb'=>hb ((hOT b).1 hb')
 have back:∀ {id ob},lkH (exH (cellsOf w E) hl) id=some ob→∃ o,lkH hl id=some o∧ob=g1t (cellsOf w E id) o:=fun {id ob} h1=>by
  rw [e4s] at h1
  simp only [Option.map_eq_some_iff] at h1
  obtain ⟨o,h3,h4⟩:=h1
  exact ⟨o,h3,h4.symm⟩
 refine ⟨fun i=>a.tmps.getD i undef,cellsOf w E,h.fr,hz,hOT,⟨fun i=>?_,h.defers.mono rfl fun b hb _ _=>⟨rfl,fun hl=>hb ((hlive b).1 hl)⟩,h.size,fun id ob hob=>?_,fun id hid=>?_,fun i i' o o' b x x' k1 k2 k3 k4=>?_,fun i o b x k1 k2=>?_,h.old,h.grow,h.os,h.tape,h.output,h.keep,h.base,h.zi⟩⟩
 ·show R w _ E (lkV (exF _ fl) i) _
  rw [g0x]
  exact (f1d (h.fr i)).weak hO' fun _ _ h=>h
 ·obtain ⟨o,h1,rfl⟩:=back hob
  obtain ⟨b,K,C,k1,k2⟩:=h.hp id o h1
  refine ⟨b,K,C,k1,?_⟩
  cases o with
  |arr t sz l=>exact k2.mono (Nat.le_refl _) (fun b hb _=>hO' b hb) (fun _ _ _=>rfl) (fun _ _ h=>h) fun _ _=>rfl
  |map kk m=>exact k2.mono (Nat.le_refl _) (fun b hb _=>hO' b hb) (fun _ _ _=>rfl) (fun _ _ h=>h) fun _ _=>rfl
  |mpe kk m j bo=>exact k2.mono (Nat.le_refl _) (fun b hb _=>hO' b hb) (fun _ _ _=>rfl) (fun _ _ h=>h) fun _ _=>rfl
  |obj x=>exact k2.mono (Nat.le_refl _) (fun b hb _=>hO' b hb) (fun _ _ _=>rfl) (fun _ _ h=>h) fun _ _=>rfl
  |arx t sz l=>exact k2.mono (Nat.le_refl _) (fun b hb _=>hO' b hb) (fun _ _ _=>rfl) (fun _ _ h=>h) fun _ _=>rfl
  |box cs =>
   obtain ⟨b',ys,t,rfl,g2,g3,g4,g5,g6⟩:=k2
   refine ⟨b',ys,t,rfl,g2,by rw [c9o];exact g3,by rw [c9o];exact g4,g5,fun j u y q1 q2=>?_⟩
   rw [e6r] at q1
   simp only [Option.map_eq_some_iff,Nat.zero_add] at q1
   obtain ⟨u',q3,rfl⟩:=q1
   have e:cellsOf w E id j=y:=by simp only [cellsOf,k1,g2];rw [Array.getD_eq_getD_getElem?,q2];rfl
   rw [e]
   exact (f1d (g6 j u' y q3 q2)).weak hO' fun _ _ h=>h
 ·show usH (exH _ hl) id=true
  rw [f8y];exact h.us id hid
 ·obtain ⟨_,f1,_⟩:=back k1
  obtain ⟨_,f2,_⟩:=back k2
  exact h.inj i i' _ _ b x x' f1 f2 k3 k4
 ·obtain ⟨_,f1,_⟩:=back k1
  exact h.fresh i _ b x f1 k2
end Pm
open Go Go.RowKit
namespace Pm
def f6y (fl:List (Nat×V)) (s:St):St:=⟨lkV fl,s.hp,s.us⟩
theorem e6o (fl:List (Nat×V)) (s:St) (j:Nat):(f6y fl s).get j=lkV fl j:=rfl
theorem e4w (fl:List (Nat×V)) (s:St) (j:Nat):(f6y fl s).hget j=s.hget j:=rfl
theorem d7g (fl:List (Nat×V)) (s:St) (j:Nat):(f6y fl s).used j=s.used j:=rfl
attribute [go_sem] e6o e4w d7g
def g5a (P:Program) (G:Gh) (lam:Nat) (L:Loop) (body:Code) (Q:Exit→St→Prop):Exit→St→Prop
 |.normal,s=>s.hget lam=some (.obj (.loop (Lp L none)))∧SemC P G body (s.hset lam (some (.obj (.loop (Lb L))))) Q
 |_,_=>False
theorem f9o (P:Program) (G:Gh) (lam:Nat) (L:Loop) (body:Code) (Q:Exit→St→Prop) (s:St):g5a P G lam L body Q .normal s=(s.hget lam=some (.obj (.loop (Lp L none)))∧SemC P G body (s.hset lam (some (.obj (.loop (Lb L))))) Q):=rfl
attribute [go_sem] f9o
def c5e (P:Program) (G1:Gh) (l lam:Nat) (L:Loop) (fl:List (Nat×V)) (ps:List Nat) (asg body:Code) (n:Nat) (ow:Nat→Bool):Prop :=
 ∀ (nm2:List Nat) (s:St) (o:Oper) (Q:Exit→St→Prop) (rest:St→Prop) (as:List V),s.hget lam=some (.obj (.loop (Lp L none)))→as.length=ps.length→chk G1.n o.dst→(∀ id ∈ G1.nm,id ∈ nm2) →
  (∀ id ∈ nm2,id ∈ G1.nm∨(s.hget id).isSome=true) →
  (∀ G2:Gh,G2.n=n→G2.ow=ow→G2.nm=nm2→G2.lo=G1.lo→G2.rd=some l→vc P G2 asg (f6y (c2c ps as++fl) s) (g5a P G2 lam L body (RQ nm2 s o.dst lam L rest))) →
  a3k P G1 o s Q rest (.v (.func (.yield l) #[] #[])) as
theorem b4c {P:Program} {G1:Gh} {l lam:Nat} {L:Loop} {fl:List (Nat×V)} {ps:List Nat} {asg body:Code} {n:Nat} {ow:Nat→Bool} (hrd:G1.rd=none)
  (hL:L.state=.ready∧L.pending=none∧L.params=ps.toArray∧L.assign=asg∧L.body=body∧L.tmps.size=n) (hps:ps.Nodup∧∀ p ∈ ps,p < n)
  (hlam:lam ∈ G1.nm∧G1.E0 lam=some (some l,0,0)) {O1:Nat→Prop} (hO1:∀ b,¬ O1 b→¬ G1.Of b∧¬ G1.M b)
  (hfl:∀ i,a6v G1.nm 4 (lkV fl i)=true∧R G1.w0 O1 G1.E0 (lkV fl i) (L.tmps.getD i undef)):c5e P G1 l lam L fl ps asg body n ow:=by
 intro nm2 s o Q rest as hs has hc hnm hnm2 h x ops ts ho hx hops
 subst hops
 rintro a w ⟨E,hE⟩
 obtain ⟨hl1,hl2⟩:=hlam
 have hLp:Lp L none=L:=rfl
 rw [hLp] at hs
 obtain ⟨hEl,hheap,hlt⟩:=hE.name_lt (b:=l) hs fun b' z hz=>by
  obtain ⟨r,g1,g2⟩:=hE.base lam hl1
  rw [hl2] at g1;cases g1;rw [g2] at hz;cases hz;rfl
 have hyv:=R.v_inv (a1x hE hx.symm)
 have hlen:ops.length=L.params.size:=by rw [hL.2.2.1];simpa using has
 have hrun:=b1h (P:=P) ho hyv hheap hlen G1.F.round
 unfold Oper.wpIn
 refine ⟨fun f _=>G1.fn f,?_⟩
 rw [hrun,Oper.uponIn_round]
 refine ⟨G1.depth,?_⟩
 have hF:G1.F.inRound l={ Fence.wide with round:=some l }:=by unfold Gh.F Fence.inRound;rfl
 rw [hL.2.2.2.1,hL.2.2.2.2.1]
 -- the round's ghost
 have hlive_l:a5r s E l:=⟨lam,_,0,0,hs,hEl⟩
 have hnOf:¬ G1.Of l:=(hE.fresh lam _ l _ hs hEl).2.1
 have hMl:∀ b,a5r s E b→G1.lo≤b:=fun b hb=>by
  obtain ⟨id,ob,K,C,g1,g2⟩:=hb
  exact hE.lo_le g1 g2
 have hlo1:G1.lo≤w.heap.size:=Nat.le_trans G1.hlo hE.grow
 let G2:Gh:={ w0:=w,Of:=G1.Of,n:=n,M:=a5r s E,ow:=ow,lo:=G1.lo,hlo:=hlo1,hM:=hMl,hgl:=hE.glob,nm:=nm2,E0:=E,rd:=some l,Zi:=G1.Zi,hZi:=G1.hZi }
 have hbase:∀ id,id ∈ nm2→∃ r,E id=some r:=fun id hid=>by
  rcases hnm2 id hid with g|g
  ·obtain ⟨r,_,g2⟩:=hE.base id g;exact ⟨r,g2⟩
  ·obtain ⟨ob,hob⟩:=Option.isSome_iff_exists.1 g
   obtain ⟨b,K,C,g1,_⟩:=hE.hp id ob hob
   exact ⟨_,g1⟩
 -- the loop's frame,as it is now
 have hframe:∀ i,R w (OT G1 s E) E (lkV fl i) (L.tmps.getD i undef):=fun i=>by
  obtain ⟨g1,g2⟩:=hfl i
  refine g2.nms hE.grow (fun b hb hlt hot=>?_) (fun b hb hlt hc=>hE.keep b hlt (hO1 b hb).2) (fun id hid r hr=>?_) 4 g1
  ·obtain ⟨q1,q2⟩:=hO1 b hb
   rcases hot with hot|⟨id,ob,K,C,k1,k2⟩
   ·exact q1 hot
   ·rcases (hE.fresh id ob b _ k1 k2).1 with k3|k3
    ·omega
    ·exact q2 k3
  ·obtain ⟨r',k1,k2⟩:=hE.base id hid
   rw [hr] at k1;cases k1;exact k2
 have hargsR:∀ (j:Nat) (u:V) (y:Value),(ops.map (ev s))[j]? = some u→(ops.map a.eval)[j]? = some y→R w (OT G1 s E) E u y:=fun j u y g1 g2=>by
  simp only [List.getElem?_map,Option.map_eq_some_iff] at g1 g2
  obtain ⟨z,h3,rfl⟩:=g1
  obtain ⟨z',h4,rfl⟩:=g2
  rw [h3] at h4;cases h4
  exact b5r hE z
 obtain ⟨z1,z2⟩:=c9t L.tmps ps (ops.map a.eval) (by simpa using has) (fun p hp=>by rw [hL.2.2.2.2.2];exact hps.2 p hp)
 have z2:=z2 (ops.map (ev s)) (R w (OT G1 s E) E) (lkV fl) has hps.1 hargsR hframe fl (fun _=>rfl)
 have hfold:(L.params.zip (ops.map a.eval).toArray).foldl (fun tmps (x:Nat×Value)=>tmps.setIfInBounds x.1 x.2) L.tmps=(ps.zip (ops.map a.eval)).foldl (fun tmps (x:Nat×Value)=>tmps.setIfInBounds x.1 x.2) L.tmps:=by
  rw [hL.2.2.1];simp [List.zip_toArray]
 have hO2:∀ b,¬ OT G1 s E b→¬ OT G2 (f6y (c2c ps (ops.map (ev s))++fl) s) E b:=fun b hb hb'=>hb hb'
 have hE2:SimE G2 (f6y (c2c ps (ops.map (ev s))++fl) s) { tmps:=(L.params.zip (ops.map a.eval).toArray).foldl (fun tmps (x:Nat×Value)=>tmps.setIfInBounds x.1 x.2) L.tmps,defers:=[] } w E:=by
  refine ⟨fun i=>?_,DefOK.nil,by rw [hfold,z1];exact hL.2.2.2.2.2,hE.hp,hE.us,hE.inj,fun id ob b y k1 k2=>?_,hE.old,Nat.le_refl _,rfl,rfl,rfl,fun _ _ _=>rfl,fun id hid=>?_,hE.zi⟩
  ·rw [hfold]
   exact z2 i
  ·obtain ⟨yK,yC⟩:=y
   obtain ⟨q1,q2,q3⟩:=hE.fresh id ob b _ k1 k2
   exact ⟨.inr ⟨id,ob,yK,yC,k1,k2⟩,q2,q3⟩
  ·obtain ⟨r,hr⟩:=hbase id hid
   exact ⟨r,hr,hr⟩
 have hF2:G2.F=G1.F.inRound l:=by rw [hF];rfl
 have hasg:=a0d asg _ _ (h G2 rfl rfl rfl rfl rfl) _ _ ⟨E,hE2⟩
 rw [hF2] at hasg
 refine roundIn_of_wpIn (G1.fn _) (wpIn_mono hasg ?_)
 rintro e a1 w1 ⟨s1,hq1,E1,hE1⟩
 cases e with
 |goto=>exact hq1.elim
 |panic=>exact hq1.elim
 |outgrown=>exact hq1.elim
 |ret=>exact hq1.elim
 |exit=>exact hq1.elim
 |normal =>
 obtain ⟨hl1',hbody'⟩:=hq1
 have hE1l:E1 lam=some (some l,0,0):=by
  obtain ⟨r,k1,k2⟩:=hE1.base lam (hnm lam hl1)
  have:E lam=some r:=k1
  rw [hEl] at this;cases this;exact k2
 obtain ⟨_,hheap1,hlt1⟩:=hE1.name_lt (b:=l) (id:=lam) hl1' fun b' z hz=>by rw [hE1l] at hz;cases hz;rfl
 rw [hLp] at hheap1 hl1'
 refine ⟨_,run_beginRound hheap1 hL.1,?_⟩
 have hEb:SimE G2 (s1.hset lam (some (.obj (.loop (Lb L))))) a1 (w1.putObj l (.loop { L with state:=.busy })) E1 :=
  hE1.write hl1' hE1l rfl rfl rfl World.putObj_size (fun k hk=>World.putObj_heap_other hk) fun O1' _=>⟨l,rfl,World.putObj_heap_same hlt1,rfl,rfl⟩
 have hbody:=hbody' _ _ ⟨E1,hEb⟩
 rw [hF2] at hbody
 refine wpIn_mono hbody ?_
 rintro e a2 w3 ⟨s2,hq,E3,hE3⟩
 -- behind the round
 have hE3l:E3 lam=some (some l,0,0):=by
  obtain ⟨r,k1,k2⟩:=hE3.base lam (hnm lam hl1)
  have:E lam=some r:=k1
  rw [hEl] at this;cases this;exact k2
 have hE3e:∀ id,id ∈ nm2→∀ r,E id=some r→E3 id=some r:=fun id hid r hr=>by
  obtain ⟨r',k1,k2⟩:=hE3.base id hid
  have:E id=some r':=k1
  rw [hr] at this;cases this;exact k2
 have fin:∀ (jump:Option Code) (L':Loop),L'={ Lb L with state:=if jump.isNone then .ready else .done,pending:=jump }→s2.hget lam=some (.obj (.loop (Lb L)))→rest (bck nm2 s s2 o.dst jump.isNone lam L') →
   ∃ v w',(Instr.endRound l jump).run P w3=.ok v w'∧∃ s',rest s'∧Sim G1 s' (a.put o.dst v) w':=by
  intro jump L' hL' hlb hrest
  obtain ⟨_,hh3,hlt3⟩:=hE3.name_lt (b:=l) (id:=lam) hlb fun b' z hz=>by rw [hE3l] at hz;cases hz;rfl
  refine ⟨_,_,run_endRound jump hh3,_,hrest,E3,?_⟩
  have hw4:∀ k,k≠l→(w3.putObj l (.loop { Lb L with state:=if jump.isNone then .ready else .done,pending:=jump })).heap[k]? = w3.heap[k]?:=fun k hk=>World.putObj_heap_other hk
  have hsz4:(w3.putObj l (.loop { Lb L with state:=if jump.isNone then .ready else .done,pending:=jump })).heap.size=w3.heap.size:=World.putObj_size
  rw [← hL'] at hw4 hsz4 ⊢
  have hnl3:∀ b,a4g w3 b→b≠l:=by rintro b ⟨cs,t,f,hb⟩ rfl;rw [hh3] at hb;cases hb
  have hgrow3:w.heap.size≤w3.heap.size:=by have:=hE3.grow;rw [show G2.w0.heap.size=w.heap.size from rfl] at this;exact this
  -- a5r blocks behind the round
  have hlv:∀ b,a5r (bck nm2 s s2 o.dst jump.isNone lam L') E3 b→a5r s2 E3 b:=by
   rintro b ⟨id,ob,K,C,g1,g2⟩
   by_cases e:lam=id
   ·subst e;exact ⟨lam,_,K,C,hlb,g2⟩
   ·refine ⟨id,ob,K,C,?_,g2⟩
    have:(bck nm2 s s2 o.dst jump.isNone lam L').hget id=some ob:=g1
    rw [a7v,if_neg e] at this;exact this
  have hfr3:∀ b,a5r s2 E3 b→(w.heap.size≤b∨a5r s E b)∧¬ G1.Of b∧b < w3.heap.size:=by
   rintro b ⟨id,ob,K,C,g1,g2⟩
   obtain ⟨q1,q2,q3⟩:=hE3.fresh id ob b _ g1 g2
   rw [show G2.w0.heap.size=w.heap.size from rfl] at q1
   exact ⟨q1,q2,q3⟩
  have hO4:∀ b,¬ OT G1 s E b→b < w.heap.size→¬ OT G1 (bck nm2 s s2 o.dst jump.isNone lam L') E3 b:=by
   rintro b hb hlt' (g|g)
   ·exact hb (.inl g)
   ·rcases (hfr3 b (hlv b g)).1 with g|g
    ·omega
    ·exact hb (.inr g)
  have hO5:∀ b,¬ OT G2 s2 E3 b→¬ OT G1 (bck nm2 s s2 o.dst jump.isNone lam L') E3 b:=by
   rintro b hb (g|g)
   ·exact hb (.inl g)
   ·exact hb (.inr (hlv b g))
  have hkeep:∀ b,b < w.heap.size→¬ a5r s E b→(w3.putObj l (.loop L')).heap[b]? = w.heap[b]?:=fun b hlt' hnl'=>by
   have e1:b≠l:=fun e=>hnl' (e ▸ hlive_l)
   rw [hw4 b e1]
   exact hE3.keep b hlt' hnl'
  refine ⟨fun i=>?_,?_,?_,fun id ob hob=>?_,fun id hid=>?_,fun id id' ob ob' b y y' k1 k2 k3 k4=>?_,fun id ob b y k1 k2=>?_,fun b hb=>by rw [hsz4];exact hE3.old b hb,?_,?_,?_,?_,fun b k1 k2=>?_,fun id hid=>?_,?_⟩
  ·have hbase:∀ i,R (w3.putObj l (.loop L')) (OT G1 (bck nm2 s s2 o.dst jump.isNone lam L') E3) E3 (keepV nm2 (s.fr i)) (a.tmps.getD i undef):=fun i=>by
    refine (hE.fr i).keepV (by rw [hsz4];exact hgrow3) hO4 (fun b hb hlt' hc=>?_) hE3e
    exact hkeep b hlt' fun h=>hb (.inr h)
   cases hd:o.dst with
   |none=>rw [hd] at hbase;exact hbase i
   |some d =>
    rw [hd] at hc
    rw [b4r a d i _ (by rw [hE.size];exact hc)]
    show R _ _ _ (if d=i then _ else _) _
    rw [hd] at hbase
    split
    ·exact .r0 _ _ (.v _)
    ·exact hbase i
  ·have:(a.put o.dst (.bool jump.isNone)).defers=a.defers:=by cases o.dst<;>rfl
   rw [this]
   refine hE.defers.mono rfl fun b hb hlt' _=>⟨hkeep b hlt' hb,fun h=>?_⟩
   rcases (hfr3 b (hlv b h)).1 with g|g
   ·omega
   ·exact hb g
  ·have:(a.put o.dst (.bool jump.isNone)).tmps.size=a.tmps.size:=by cases o.dst<;>simp [Act.put]
   rw [this];exact hE.size
  ·have hob':(bck nm2 s s2 o.dst jump.isNone lam L').hget id=some ob:=hob
   rw [a7v] at hob'
   by_cases e:lam=id
   ·subst e
    rw [if_pos rfl] at hob'
    cases hob'
    exact ⟨_,_,_,hE3l,l,rfl,World.putObj_heap_same hlt3,rfl,rfl⟩
   ·rw [if_neg e] at hob'
    obtain ⟨b,K,C,k1,k2⟩:=hE3.hp id ob hob'
    refine ⟨b,K,C,k1,k2.monoC (by rw [hsz4];exact Nat.le_refl _) (fun b hb _=>hO5 b hb) (fun b _ _ hc=>hw4 b (hnl3 b hc)) (fun _ _ h=>h) fun b' hb'=>hw4 b' fun e'=>?_⟩
    subst hb';subst e'
    exact e (hE3.inj lam id _ _ _ _ _ hlb hob' hE3l k1)
  ·have:(bck nm2 s s2 o.dst jump.isNone lam L').used id=s2.used id:=c1q _ _ _ _ _ _ _ _
   exact this.trans (hE3.us id hid)
  ·have g:∀ id ob,(bck nm2 s s2 o.dst jump.isNone lam L').hp id=some ob→∃ ob',s2.hp id=some ob':=fun id ob hob=>by
    have hob':(bck nm2 s s2 o.dst jump.isNone lam L').hget id=some ob:=hob
    rw [a7v] at hob'
    by_cases e:lam=id
    ·subst e;exact ⟨_,hlb⟩
    ·rw [if_neg e] at hob';exact ⟨ob,hob'⟩
   obtain ⟨_,g1⟩:=g id ob k1
   obtain ⟨_,g2⟩:=g id' ob' k2
   exact hE3.inj id id' _ _ b y y' g1 g2 k3 k4
  ·obtain ⟨yK,yC⟩:=y
   obtain ⟨q1,q2,q3⟩:=hfr3 b (hlv b ⟨id,ob,yK,yC,k1,k2⟩)
   refine ⟨?_,q2,by rw [hsz4];exact q3⟩
   rcases q1 with q1|⟨id',ob',K,C,g1,g2⟩
   ·exact .inl (Nat.le_trans hE.grow q1)
   ·exact (hE.fresh id' ob' b _ g1 g2).1
  ·rw [hsz4];exact Nat.le_trans hE.grow hgrow3
  ·exact (hE3.os.trans rfl).trans hE.os
  ·exact (hE3.tape.trans rfl).trans hE.tape
  ·exact (hE3.output.trans rfl).trans hE.output
  ·rw [hkeep b (Nat.lt_of_lt_of_le k1 hE.grow) fun hl=>?_]
   ·exact hE.keep b k1 k2
   ·obtain ⟨id,ob,K,C,g1,g2⟩:=hl
    rcases (hE.fresh id ob b _ g1 g2).1 with q|q
    ·omega
    ·exact k2 q
  ·obtain ⟨r,g1,g2⟩:=hE.base id hid
   exact ⟨r,g1,hE3e id (hnm id hid) r g2⟩
  ·refine G1.hZi w3 _ (by rw [hsz4];exact Nat.le_refl _) (fun b hb=>hw4 b fun e=>hnOf (e ▸ hb)) hE3.zi
 cases e with
 |normal=>exact fin none (Lp L none) (by obtain ⟨h1,h2,_⟩:=hL;cases L;simp_all [Lp,Lb]) hq.1 hq.2
 |ret=>exact fin (some .ret) (Lp L (some .ret)) (by simp [Lp,Lb]) hq.1 hq.2
 |exit id=>exact fin (some (.exit id)) (Lp L (some (.exit id))) (by simp [Lp,Lb]) hq.1 hq.2
 |goto=>exact hq.elim
 |panic=>exact hq.elim
 |outgrown=>exact hq.elim
structure YJ (P:Program) (G:Gh) (l lam:Nat) (L:Loop) (fl:List (Nat×V)) (ps:List Nat) (asg body:Code) (n:Nat):Prop where
 rd:G.rd=none
 hL:L.state=.ready∧L.pending=none∧L.params=ps.toArray∧L.assign=asg∧L.body=body∧L.tmps.size=n
 hps:ps.Nodup∧∀ p ∈ ps,p < n
 lam:lam ∈ G.nm∧G.E0 lam=some (some l,0,0)
 fr:∃ O1:Nat→Prop,(∀ b,¬ O1 b→¬ G.Of b∧¬ G.M b)∧∀ i,a6v G.nm 4 (lkV fl i)=true∧R G.w0 O1 G.E0 (lkV fl i) (L.tmps.getD i undef)
theorem YJ.law {P:Program} {G:Gh} {l lam:Nat} {L:Loop} {fl:List (Nat×V)} {ps:List Nat} {asg body:Code} {n:Nat} (h:YJ P G l lam L fl ps asg body n) (ow:Nat→Bool):c5e P G l lam L fl ps asg body n ow:=by
 obtain ⟨O1,h1,h2⟩:=h.fr
 exact b4c h.rd h.hL h.hps h.lam h1 h2
theorem a5b {P:Program} {G:Gh} {g:Operand} {ps:List Nat} {asg body:Code} {fl:List (Nat×V)} {hl:List (Nat×OB)} {Q:Exit→St→Prop} (nm:List Nat) (lam:Nat) {k:FuncId} {cap:List V} {fn:Func} {ck:Code} {m:Nat} (ow:Nat→Bool)
  (hrd:G.rd=none) (hg:ev (St.of fl hl) g=.fn (.func k) cap) (hf:P.funcs[k]? = some fn) (hm:fn.ntmps=m) (hb:fn.body=some ck) (hname:(fn.name == "runtime.NumGoroutine")=false) (hres:fn.results=#[]) (hn:cap.length+1≤m)
  (hps:ps.Nodup∧∀ p ∈ ps,p < G.n) (hnm:nm.all (usH hl)=true) (hGn:∀ id ∈ G.nm,id ∈ nm) (hfl:fl.all (fun p=>a6v nm 4 p.2)=true) (hlam:usH hl lam=false)
  (h:∀ (G1:Gh) (l:Nat) (L:Loop),G1.n=m→G1.ow=ow→G1.nm=lam::nm→G1.lo=G.lo→G1.rd=none→YJ P G1 l lam L fl ps asg body G.n →
   vc P G1 ck (St.of (a3l 0 (.v (.func (.yield l) #[] #[])::cap)) ((lam,.obj (.loop (Lp L none)))::hl)) (b1x fl lam L Q)) :
  SemC P G (.rangeFunc g ps.toArray asg body) (St.of fl hl) Q:=by
 subst hm
 rintro a w ⟨E,hE⟩
 have hF:G.F=Fence.wide:=by unfold Gh.F;rw [hrd];cases G.nomk<;>rfl
 rw [hF]
 refine wpIn_rangeFunc fun fid _=>?_
 obtain ⟨ys,hy,hsz,hrr⟩:=R.fn_inv (a1x hE hg)
 let L:Loop:={ state:=.ready,pending:=none,fn:=fid,tmps:=a.tmps,params:=ps.toArray,assign:=asg,body:=body,defers:=w.heap.size }
 let w1:World:=(w.alloc (.deferred (some []))).alloc (.loop L)
 have hb':fn.body≠none:=by rw [hb];simp
 have hname':fn.name≠"runtime.NumGoroutine":=by simpa using hname
 refine ⟨w.heap.size+1,[mark w.heap.size],w1,{ target:=.fn (.func k) ys,args:=#[.func (.yield (w.heap.size+1)) #[] #[]] },w1,k,#[.func (.yield (w.heap.size+1)) #[] #[]]++ys,w1,run_enterLoop_outer fid a.tmps ps.toArray asg body,?_,fun _ _=>trivial,?_,(fun h=>by cases h),?_⟩
 ·simp [resolve,rangeCall,Deferred.ofValue,hy]
  rfl
 ·simp [invoke,callFunc,hf,hb',hname']
 -- the world with the record
 have s1:w1.heap.size=w.heap.size+2:=by simp [w1]
 have hl1:w1.heap[w.heap.size+1]? = some (.loop L):=by
  have:=World.alloc_heap_new (w.alloc (.deferred (some []))) (.loop L)
  simpa [w1] using this
 have hd1:w1.heap[w.heap.size]? = some (.deferred (some [])):=by
  have e:w1.heap[w.heap.size]? = (w.alloc (.deferred (some []))).heap[w.heap.size]?:=a5q _ _ _ (by simp)
  rw [e];exact World.alloc_heap_new _ _
 have hold:∀ b,b < w.heap.size→w1.heap[b]? = w.heap[b]?:=fun b hb=>(a5q _ _ b (by simp;omega)).trans (a5q _ _ b hb)
 have hElam:E lam=none:=by
  cases he:E lam with
  |none=>rfl
  |some r=>have:=hE.us lam (by rw [he];simp);rw [show (St.of fl hl).us lam=usH hl lam from rfl,hlam] at this;cases this
 let E1:Env:=fun id=>if id=lam then some (some (w.heap.size+1),0,0) else E id
 have hE1l:E1 lam=some (some (w.heap.size+1),0,0):=if_pos rfl
 have hE1e:∀ id r,E id=some r→E1 id=some r:=fun id r hi=>by
  show (if id=lam then _ else E id)=_
  rw [if_neg (by rintro rfl;rw [hElam] at hi;cases hi)]
  exact hi
 have hE1b:∀ id r,id≠lam→E1 id=some r→E id=some r:=fun id r hne hi=>by
  have:(if id=lam then some (some (w.heap.size+1),0,0) else E id)=some r:=hi
  rw [if_neg hne] at this;exact this
 have hliveLo:∀ b,a5r (St.of fl hl) E b∨b=w.heap.size+1→G.lo≤b:=by
  rintro b (⟨id,ob,K,C,g1,g2⟩|rfl)
  ·exact hE.lo_le g1 g2
  ·have:=hE.grow;have:=G.hlo;omega
 have hlo1:G.lo≤w1.heap.size:=by have:=hE.grow;have:=G.hlo;omega
 have hglb:GlobOK w1 (fun b=>G.Of b∨a5r (St.of fl hl) E b∨b=w.heap.size+1):=hE.glob.monoC (by omega) (fun b hb hlt hb'=>by
  rcases hb' with g|g|g
  ·exact hb (.inl g)
  ·exact hb (.inr g)
  ·omega) (fun b _ hlt _=>hold b hlt)
 let G1:Gh:={ w0:=w1,Of:=G.Of,n:=fn.ntmps,M:=fun b=>a5r (St.of fl hl) E b∨b=w.heap.size+1,ow:=ow,lo:=G.lo,hlo:=hlo1,hM:=hliveLo,hgl:=hglb,nm:=lam::nm,E0:=E1,rd:=none,Zi:=G.Zi,hZi:=G.hZi }
 let s1':St:=St.of (a3l 0 (.v (.func (.yield (w.heap.size+1)) #[] #[])::cap)) ((lam,.obj (.loop (Lp L none)))::hl)
 have hhp:∀ id ob,s1'.hp id=some ob→(id=lam∧ob=.obj (.loop L))∨(id≠lam∧lkH hl id=some ob):=fun id ob hob=>by
  have hob':(if lam=id then some (OB.obj (.loop (Lp L none))) else lkH hl id)=some ob:=hob
  by_cases e:lam=id
  ·rw [if_pos e] at hob';cases hob';exact .inl ⟨e.symm,rfl⟩
  ·rw [if_neg e] at hob';exact .inr ⟨Ne.symm e,hob'⟩
 have hlv1:∀ b,a5r s1' E1 b→a5r (St.of fl hl) E b∨b=w.heap.size+1:=by
  rintro b ⟨id,ob,K,C,g1,g2⟩
  rcases hhp id ob g1 with ⟨rfl,rfl⟩|⟨hne,h2⟩
  ·rw [hE1l] at g2;cases g2;exact .inr rfl
  ·exact .inl ⟨id,ob,K,C,h2,hE1b id _ hne g2⟩
 have hO1:∀ b,¬ OT G (St.of fl hl) E b→b < w.heap.size→¬ OT G1 s1' E1 b:=by
  rintro b hb hlt (g|g)
  ·exact hb (.inl g)
  ·rcases hlv1 b g with g|g
   ·exact hb (.inr g)
   ·omega
 have hltOf:∀ b,G.Of b→b < w.heap.size:=hE.old
 have hnmhl:∀ id ∈ nm,∃ ob,lkH hl id=some ob:=fun id hid=>usH_lk.1 (List.all_eq_true.1 hnm id hid)
 have hsza:(#[Value.func (.yield (w.heap.size+1)) #[] #[]]++ys).size=cap.length+1:=by simp [hsz];omega
 have hE1s:SimE G1 s1' { tmps:=#[Value.func (.yield (w.heap.size+1)) #[] #[]]++ys++Array.replicate (fn.ntmps - (#[Value.func (.yield (w.heap.size+1)) #[] #[]]++ys).size) undef,defers:=[] } w1 E1:=by
  refine ⟨fun i=>?_,DefOK.nil,by rw [Array.size_append,Array.size_replicate,hsza];show _=fn.ntmps;omega,fun id ob hob=>?_,fun id hid=>?_,fun id id' ob ob' b y y' k1 k2 k3 k4=>?_,fun id ob b y k1 k2=>?_,fun b hb=>by rw [s1];have:=hltOf b hb;omega,Nat.le_refl _,rfl,rfl,rfl,fun _ _ _=>rfl,fun id hid=>?_,?_⟩
  ·show R _ _ _ (lkV (a3l 0 (.v (.func (.yield (w.heap.size+1)) #[] #[])::cap)) i) _
   rw [b1t,b1p]
   simp only [Nat.zero_le,if_true,Nat.sub_zero]
   cases i with
   |zero =>
    have e0:(#[Value.func (.yield (w.heap.size+1)) #[] #[]]++ys).getD 0 undef=.func (.yield (w.heap.size+1)) #[] #[]:=by
     rw [Array.getD_eq_getD_getElem?,Array.getElem?_append_left (by simp)];rfl
    rw [e0]
    exact .r0 _ _ (.v _)
   |succ i =>
    simp only [List.getElem?_cons_succ]
    cases hc:cap[i]? with
    |none=>exact .r0 _ _ (.any _)
    |some u =>
     have hlt:i < ys.size:=by rw [hsz];exact (List.getElem?_eq_some_iff.1 hc).1
     have hy':(#[Value.func (.yield (w.heap.size+1)) #[] #[]]++ys).getD (i+1) undef=ys[i]:=by
      rw [Array.getD_eq_getD_getElem?,Array.getElem?_append_right (by simp)]
      simp [hlt]
     rw [hy']
     exact (hrr i u ys[i] hc (by simp [hlt])).mono (by rw [s1];omega) hO1 (fun b _ hb=>hold b hb) hE1e
  ·rcases hhp id ob hob with ⟨rfl,rfl⟩|⟨hne,h2⟩
   ·exact ⟨_,_,_,hE1l,w.heap.size+1,rfl,hl1,rfl,rfl⟩
   ·obtain ⟨b,K,C,g1,g2⟩:=hE.hp id ob h2
    refine ⟨b,K,C,hE1e _ _ g1,g2.mono (by rw [s1];omega) hO1 (fun b _ hb=>hold b hb) hE1e fun b' hb'=>hold b' ?_⟩
    subst hb'
    exact (hE.fresh id ob b' _ h2 g1).2.2
  ·show ((lam == id) || usH hl id)=true
   by_cases e:id=lam
   ·simp [e]
   ·obtain ⟨r,hr⟩:=Option.ne_none_iff_exists'.1 hid
    have:=hE.us id (by rw [hE1b id r e hr];simp)
    rw [show (St.of fl hl).us id=usH hl id from rfl] at this
    simp [this]
  ·obtain ⟨yK,yC⟩:=y
   obtain ⟨yK',yC'⟩:=y'
   rcases hhp id ob k1 with ⟨rfl,rfl⟩|⟨hne,h2⟩<;>rcases hhp id' ob' k2 with ⟨rfl,rfl⟩|⟨hne',h2'⟩
   ·rfl
   ·rw [hE1l] at k3;cases k3
    have:=(hE.fresh id' ob' _ _ h2' (hE1b _ _ hne' k4)).2.2;omega
   ·rw [hE1l] at k4;cases k4
    have:=(hE.fresh id ob _ _ h2 (hE1b _ _ hne k3)).2.2;omega
   ·exact hE.inj id id' ob ob' b _ _ h2 h2' (hE1b _ _ hne k3) (hE1b _ _ hne' k4)
  ·rcases hhp id ob k1 with ⟨rfl,rfl⟩|⟨hne,h2⟩
   ·rw [hE1l] at k2;cases k2
    exact ⟨.inr (.inr rfl),fun hof=>by have:=hltOf _ hof;omega,by rw [s1];omega⟩
   ·obtain ⟨q1,q2,q3⟩:=hE.fresh id ob b y h2 (hE1b _ _ hne k2)
    obtain ⟨yK,yC⟩:=y
    exact ⟨.inr (.inl ⟨id,ob,yK,yC,h2,hE1b _ _ hne k2⟩),q2,by rw [s1];omega⟩
  ·rcases List.mem_cons.1 hid with rfl|hid
   ·exact ⟨_,hE1l,hE1l⟩
   ·obtain ⟨ob,hob⟩:=hnmhl id hid
    obtain ⟨b,K,C,g1,_⟩:=hE.hp id ob hob
    exact ⟨_,hE1e _ _ g1,hE1e _ _ g1⟩
  ·exact G.hZi w w1 (by rw [s1];omega) (fun b hb=>hold b (hltOf b hb)) hE.zi
 have hY:YJ P G1 (w.heap.size+1) lam L fl ps asg body G.n:=by
  refine ⟨rfl,⟨rfl,rfl,rfl,rfl,rfl,hE.size⟩,hps,⟨by simp [G1],hE1l⟩,fun b=>OT G (St.of fl hl) E b∨w.heap.size≤b,fun b hb=>⟨fun g=>hb (.inl (.inl g)),?_⟩,fun i=>⟨c4f (fun id h=>List.mem_cons_of_mem _ h) 4 (c0e hfl i),?_⟩⟩
  ·rintro (g|g)
   ·exact hb (.inl (.inr g))
   ·exact hb (.inr (by omega))
  ·exact (hE.fr i).mono (by show _≤w1.heap.size;rw [s1];omega) (fun b hb hlt h=>by rcases h with h|h;exact hb h;omega) (fun b _ hb=>hold b hb) hE1e
 have hF1:G1.F=Fence.wide:=rfl
 have hwalk:=a0d ck _ _ (h G1 (w.heap.size+1) L rfl rfl rfl rfl rfl hY) _ w1 ⟨E1,hE1s⟩
 rw [hF1] at hwalk
 refine callsIn_of_wp_marks (F:=Fence.wide) (n:=0) hf hb trivial (wpIn_mono hwalk ?_)
 rintro e a2 w2 ⟨s2,hq,E2,hE2⟩
 -- behind the function
 have fin:b1x fl lam L Q .ret s2→LeavesInM Fence.wide 0 P fn a2.tmps (rangePost Fence.wide 0 P (w.heap.size+1) (b7c G Q) { tmps:=a.tmps,defers:=[mark w.heap.size]++a.defers }) a2.defers .returning w2:=by
  rintro ⟨st,hst,hQ⟩
  refine a9e (by simp) hE2 (fun b hb=>by have:=hltOf b hb;show b < w1.heap.size;rw [s1];omega) fun w3 hE3=>?_
  refine ⟨.tuple #[],by simp [results,hres],?_⟩
  have hE2l:E2 lam=some (some (w.heap.size+1),0,0):=by
   obtain ⟨r,k1,k2⟩:=hE3.base lam (by simp [G1])
   have:E1 lam=some r:=k1
   rw [hE1l] at this;cases this;exact k2
  obtain ⟨_,hh3,hlt3⟩:=hE3.name_lt (b:=w.heap.size+1) (id:=lam) hst fun b' z hz=>by rw [hE2l] at hz;cases hz;rfl
  have hstate:(Lp L st).state≠.busy:=by cases st<;>simp [Lp,L]
  have hend:∃ w4,w4=w3.putObj (w.heap.size+1) (.loop { Lp L st with state:=.exhausted }):=⟨_,rfl⟩
  obtain ⟨w4,hw4⟩:=hend
  have hw4:=hw4.symm
  refine ⟨(Lp L st).pending,w4,hw4 ▸ run_endLoop hh3 hstate,?_⟩
  have hpend:(Lp L st).pending=st:=by cases st<;>simp [Lp,L]
  rw [hpend]
  have h4:∀ k,k≠w.heap.size+1→w4.heap[k]? = w3.heap[k]?:=fun k hk=>by rw [← hw4];exact World.putObj_heap_other hk
  have sz4:w4.heap.size=w3.heap.size:=by rw [← hw4];exact World.putObj_size
  have hg3:w.heap.size+2≤w3.heap.size:=by have:=hE3.grow;rw [show G1.w0.heap.size=w.heap.size+2 from s1] at this;exact this
  have hfr3:∀ b,a5r s2 E2 b→(w.heap.size+2≤b∨a5r (St.of fl hl) E b∨b=w.heap.size+1)∧¬ G.Of b∧b < w3.heap.size:=by
   rintro b ⟨id,ob,K,C,g1,g2⟩
   obtain ⟨q1,q2,q3⟩:=hE3.fresh id ob b _ g1 g2
   rw [show G1.w0.heap.size=w.heap.size+2 from s1] at q1
   exact ⟨q1,q2,q3⟩
  have hlvA:∀ b,a5r (aft fl s2 lam) E2 b→a5r s2 E2 b∧b≠w.heap.size+1:=by
   rintro b ⟨id,ob,K,C,g1,g2⟩
   have g1':(if lam=id then none else s2.hp id)=some ob:=g1
   by_cases e:lam=id
   ·rw [if_pos e] at g1';cases g1'
   ·rw [if_neg e] at g1'
    refine ⟨⟨id,ob,K,C,g1',g2⟩,?_⟩
    rintro rfl
    exact e (hE3.inj lam id _ _ _ _ _ hst g1' hE2l g2)
  have hkeep:∀ b,b < w.heap.size→¬ a5r (St.of fl hl) E b→w4.heap[b]? = w.heap[b]?:=fun b hlt hnl=>by
   rw [h4 b (by omega),hE3.keep b (by show b < w1.heap.size;rw [s1];omega) (by rintro (g|g);exact hnl g;omega)]
   exact hold b hlt
  have hOA:∀ b,¬ OT G (St.of fl hl) E b→b < w.heap.size→¬ OT G (aft fl s2 lam) E2 b:=by
   rintro b hb hlt (g|g)
   ·exact hb (.inl g)
   ·rcases (hfr3 b (hlvA b g).1).1 with g|g|g
    ·omega
    ·exact hb (.inr g)
    ·omega
  have hOB:∀ b,¬ OT G1 s2 E2 b→¬ OT G (aft fl s2 lam) E2 b:=by
   rintro b hb (g|g)
   ·exact hb (.inl g)
   ·exact hb (.inr (hlvA b g).1)
  have hnl3:∀ b,a4g w3 b→b≠w.heap.size+1:=by rintro b ⟨cs,t,f,hb⟩ rfl;rw [hh3] at hb;cases hb
  have hbase:∀ id,id ∈ nm→∀ r,E id=some r→E2 id=some r:=fun id hid r hr=>by
   obtain ⟨r',k1,k2⟩:=hE3.base id (by simp [G1,hid])
   have:E1 id=some r':=k1
   rw [hE1e _ _ hr] at this;cases this;exact k2
  have hA:SimE G (aft fl s2 lam) { tmps:=a.tmps,defers:=[mark w.heap.size]++a.defers } w4 E2:=by
   refine ⟨fun i=>?_,?_,hE.size,fun id ob hob=>?_,hE3.us,fun id id' ob ob' b y y' k1 k2 k3 k4=>?_,fun id ob b y k1 k2=>?_,fun b hb=>by have:=hltOf b hb;rw [sz4];omega,by have:=hE.grow;rw [sz4];omega,?_,?_,?_,fun b k1 k2=>?_,fun id hid=>?_,?_⟩
   ·exact (hE.fr i).nms (by rw [sz4];omega) hOA (fun b hb hlt _=>hkeep b hlt fun g=>hb (.inr g)) hbase 4 (c0e hfl i)
   ·obtain ⟨rs,e1,e2,e3⟩:=hE.defers
    refine ⟨w.heap.size::rs,by rw [e1];rfl,List.nodup_cons.2 ⟨fun hm=>?_,e2⟩,fun r hr=>?_⟩
    ·have:=(e3 _ hm).1
     rw [show w.heap[w.heap.size]? = none by simp] at this;cases this
    ·have hnlr:¬ a5r (aft fl s2 lam) E2 r:=by
      intro g
      rcases (hfr3 r (hlvA r g).1).1 with g'|g'|g'
      ·rcases List.mem_cons.1 hr with rfl|hr
       ·omega
       ·have:=(e3 r hr).1
        have:r < w.heap.size:=(Array.getElem?_eq_some_iff.1 this).1
        omega
      ·rcases List.mem_cons.1 hr with rfl|hr
       ·obtain ⟨id,ob,K,C,q1,q2⟩:=g'
        have:=(hE.fresh id ob _ _ q1 q2).2.2;omega
       ·exact (e3 r hr).2.2.1 g'
      ·rcases List.mem_cons.1 hr with rfl|hr
       ·omega
       ·have:=(Array.getElem?_eq_some_iff.1 (e3 r hr).1).1;omega
     rcases List.mem_cons.1 hr with rfl|hr
     ·refine ⟨?_,hE.grow,hnlr,by cases h:G.nomk with|false=>rfl|true=>exact absurd hrd (G.hnk h)⟩
      rw [h4 _ (by omega),hE3.keep _ (by show _ < w1.heap.size;rw [s1];omega) (by
       rintro (g|g)
       ·obtain ⟨id,ob,K,C,q1,q2⟩:=g
        have:=(hE.fresh id ob _ _ q1 q2).2.2;omega
       ·omega)]
      exact hd1
     ·obtain ⟨q1,q2,q3,q4⟩:=e3 r hr
      have hlt:r < w.heap.size:=(Array.getElem?_eq_some_iff.1 q1).1
      exact ⟨(hkeep r hlt q3).trans q1,q2,hnlr,q4⟩
   ·have hob':(if lam=id then none else s2.hp id)=some ob:=hob
    by_cases e:lam=id
    ·rw [if_pos e] at hob';cases hob'
    ·rw [if_neg e] at hob'
     obtain ⟨b,K,C,k1,k2⟩:=hE3.hp id ob hob'
     refine ⟨b,K,C,k1,k2.monoC (by rw [sz4];exact Nat.le_refl _) (fun b hb _=>hOB b hb) (fun b _ _ hc=>h4 b (hnl3 b hc)) (fun _ _ h=>h) fun b' hb'=>h4 b' fun e'=>?_⟩
     subst hb';subst e'
     exact e (hE3.inj lam id _ _ _ _ _ hst hob' hE2l k1)
   ·have g:∀ id ob,(aft fl s2 lam).hp id=some ob→s2.hp id=some ob:=fun id ob hob=>by
     have hob':(if lam=id then none else s2.hp id)=some ob:=hob
     by_cases e:lam=id
     ·rw [if_pos e] at hob';cases hob'
     ·rw [if_neg e] at hob';exact hob'
    exact hE3.inj id id' _ _ b y y' (g _ _ k1) (g _ _ k2) k3 k4
   ·obtain ⟨yK,yC⟩:=y
    obtain ⟨q0,q0'⟩:=hlvA b ⟨id,ob,yK,yC,k1,k2⟩
    obtain ⟨q1,q2,q3⟩:=hfr3 b q0
    refine ⟨?_,q2,by rw [sz4];exact q3⟩
    rcases q1 with q1|⟨id',ob',K,C,g1,g2⟩|q1
    ·exact .inl (by have:=hE.grow;omega)
    ·exact (hE.fresh id' ob' b _ g1 g2).1
    ·exact (q0' q1).elim
   ·rw [← hw4];exact hE3.os.trans hE.os
   ·rw [← hw4];exact hE3.tape.trans hE.tape
   ·rw [← hw4];exact hE3.output.trans hE.output
   ·rw [hkeep b (Nat.lt_of_lt_of_le k1 hE.grow) fun g=>?_]
    ·exact hE.keep b k1 k2
    ·obtain ⟨id,ob,K,C,g1,g2⟩:=g
     rcases (hE.fresh id ob b _ g1 g2).1 with q|q
     ·omega
     ·exact k2 q
   ·obtain ⟨r,g1,g2⟩:=hE.base id hid
    exact ⟨r,g1,hbase id (hGn id hid) r g2⟩
   ·exact G.hZi w3 w4 (by rw [sz4];exact Nat.le_refl _) (fun b hb=>h4 b fun e=>by have:=hltOf b hb;omega) hE3.zi
  cases st with
  |none=>exact ⟨_,hQ,E2,hA⟩
  |some c =>
   cases c with
   |ret=>exact wpIn_ret ⟨_,hQ,E2,hA⟩
   |exit id=>exact wpIn_exit ⟨_,hQ,E2,hA⟩
   |_=>exact hQ.elim
 cases e with
 |normal=>exact fin hq
 |ret=>exact fin hq
 |exit=>exact hq.elim
 |goto=>exact hq.elim
 |panic=>exact hq.elim
 |outgrown=>exact hq.elim
end Pm
end Go.Proofs.YtmjhfccbbfpppaaGreatDoor
