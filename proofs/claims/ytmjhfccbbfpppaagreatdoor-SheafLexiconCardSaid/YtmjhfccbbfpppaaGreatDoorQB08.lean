import Derived.Test.YtmjhfccbbfpppaaGreatDoorQB07
namespace Go.Proofs.YtmjhfccbbfpppaaGreatDoor
open Go Go.RowKit
set_option linter.unusedSimpArgs false
set_option linter.unusedVariables false
namespace Pm
def f0r (s:St) (N:Nat→Bool):List (Nat×Option OB)→Prop
 |[]=>True
 |(i,x)::r=>((∃ y,x=some y∧s.hget i=some y)∧N i=true)∧f0r s N r
theorem b8q {ρ:Ren} {s s':St}:∀ {h:List (Nat×OB)},(∀ i j,lkR ρ i=some (some j)→s'.hp j=s.hp j)→a1d ρ s h→a1d ρ s' h:=by
 intro h
 induction h with
 |nil=>intro _ _;trivial
 |cons p r ih =>
  obtain ⟨i,ob⟩:=p
  intro he hh
  refine ⟨?_,ih he hh.2⟩
  have h1:=hh.1
  cases hl:lkR ρ i with
  |none=>rw [hl] at h1;exact h1
  |some x =>
   rw [hl] at h1
   cases x with
   |none=>exact h1
   |some j =>
    have:s'.hget j=s.hget j:=he i j hl
    simp only [a0r] at h1 ⊢
    rw [this];exact h1
theorem d5h {s:St}:∀ {l:List (Nat×Option OB)},(∀ p,p ∈ l→s.hp p.1=p.2∧s.us p.1=true)→a1h s l=s:=by
 intro l
 induction l with
 |nil=>intro _;rfl
 |cons p r ih =>
  obtain ⟨i,x⟩:=p
  intro h
  obtain ⟨h1,h2⟩:=h (i,x) (List.mem_cons_self ..)
  have e:s.hset i x=s:=by
   cases s with
   |mk fr hp us =>
    simp only [St.hset,St.mk.injEq,true_and]
    constructor
    ·funext j
     by_cases e:i=j
     ·subst e;rw [if_pos rfl];exact h1.symm
     ·rw [if_neg e]
    ·funext j
     by_cases e:i=j
     ·subst e;simp at h2 ⊢;exact h2
     ·simp [e]
  simp only [a1h]
  rw [e]
  exact ih fun p hp=>h p (List.mem_cons_of_mem _ hp)
theorem d3f {s:St} {N:Nat→Bool}:∀ {l:List (Nat×Option OB)},f0r s N l→∀ p,p ∈ l→∃ y,p.2=some y∧s.hp p.1=some y∧N p.1=true:=by
 intro l
 induction l with
 |nil=>intro _ p hp;cases hp
 |cons q r ih =>
  obtain ⟨i,x⟩:=q
  rintro ⟨⟨⟨y,h1,h2⟩,h3⟩,h4⟩ p hp
  rcases List.mem_cons.1 hp with rfl|hp
  ·exact ⟨y,h1,h2,h3⟩
  ·exact ih h4 p hp
theorem e5h {P:Program} {G:Gh} {N:Nat→Bool} {M:Bool} {s:St} {k:FuncId} {cap as as':List V} {h:List (Nat×OB)} {r:Nat→V} (ρ:List (Nat×Nat)) (hp:Tri P k as' h (fun lo=>.ret (r lo) h))
  (hA:okL (okN (toR ρ) 4) as' (as++cap)) (hH:a1d (toR ρ) s h) (hi:a2m (toR ρ)) (hcv:a0n h (toR ρ)) (hq:a7f ρ) (hall:a3o (toR (a1r h ρ++[])) h) (hu:a5t h)
  (hN:(tgt ρ).all N=true) (hs:f0r s N (upT ρ [] h)):CallE P G N M (.fn (.func k) cap) as s (b8b (toR (a1r h ρ++[])) 4 (r (loT h G.lo)),[]):=by
 refine .pure ?_
 intro s' e o Q rest hc hr x l ts ho hx has a w hsim
 obtain ⟨E,hE⟩:=hsim
 have hH':a1d (toR ρ) s' h:=b8q (fun i j hj=>by
  obtain ⟨j',e1,hm⟩:=a6f hj
  cases e1
  refine (e j (List.all_eq_true.1 hN j ?_)).1
  clear hj hp hA hH hi hcv hq hall hu hN hs hr
  induction ρ with
  |nil=>cases hm
  |cons q t ih =>
   obtain ⟨u,v⟩:=q
   rcases List.mem_cons.1 hm with h1|h1
   ·cases h1;exact List.mem_cons_self ..
   ·exact List.mem_cons_of_mem _ (ih h1)) hH
 have hsm:a1h s' (upT ρ [] h)=s':=d5h fun p hp=>by
  obtain ⟨y,h1,h2,h3⟩:=d3f hs p hp
  have h4:s'.hp p.1=some y:=(e p.1 h3).1.trans h2
  refine ⟨h4.trans h1.symm,hE.us _ ?_⟩
  obtain ⟨b,K,C,h5,_⟩:=hE.hp _ _ h4
  rw [h5];simp
 refine b5j ρ [] hp hA hH' hi hcv hq hc ⟨trivial,hall,hu,?_⟩ x l ts ho hx has a w ⟨E,hE⟩
 have:app s' o.dst (b8b (toR (a1r h ρ++[])) 4 (r (loT h G.lo)),upT ρ [] h)=a3z s' o.dst (b8b (toR (a1r h ρ++[])) 4 (r (loT h G.lo))):=by
  simp only [app,hsm]
 rw [this];exact hr
section
variable (P:Program) (G:Gh) (all:List Oper) (Q:Exit→St→Prop) (s:St)
theorem exP {p:Prop} {q:p→Prop} (h:p) (k:q h):∃ h,q h:=⟨h,k⟩
theorem Sub.map {α:Type} {lo lo' sz:Nat} {l:List α} {f g:α→List V} (hlo:lo'≤lo) (h:∀ x,Subs (f x) (g x)):Sub (.lst lo sz (l.map f)) (.lst lo' sz (l.map g)) :=
 .lst hlo (by simp) fun i x x' h1 h2=>by
  simp only [List.getElem?_map,Option.map_eq_some_iff] at h1 h2
  obtain ⟨a,h3,rfl⟩:=h1
  obtain ⟨b,h4,rfl⟩:=h2
  rw [h3] at h4;cases h4
  exact h a
def gv (all:List Oper) (j:Nat) (s:St):V:=match a9d all j with
 |some g=>s.get g
 |none=>.any
theorem g5s (j:Nat):gv all j s=match a9d all j with|some g=>s.get g|none=>.any:=rfl
theorem f2f {d:Option Tmp} {op:Op} {t:TypeId} {p:String} {e:Array Edge} {j:Nat} {w:Bool} {os:List Oper} (h:gv all j s=.v (.bool w)) :
  a4h P G all Q (⟨d,op,t,p,e,some (j,w)⟩::os) s=fin P G ⟨d,op,t,p,e,none⟩ s Q (a4h P G all Q os) (a3r P G.ow G.lo s d op):=by
 unfold gv at h
 rw [a4h]
 split at h
 ·rename_i g hg
  simp [hg,h,a9l h]
 ·cases h
theorem f9y {d:Option Tmp} {op:Op} {t:TypeId} {p:String} {e:Array Edge} {j:Nat} {w:Bool} {os:List Oper} (h:gv all j s=.v (.bool !w)) :
  a4h P G all Q (⟨d,op,t,p,e,some (j,w)⟩::os) s=(chk G.n d∧a4h P G all Q os (a3z s d skV)):=by
 unfold gv at h
 rw [a4h]
 split at h
 ·rename_i g hg
  simp [hg,h,a9l h]
 ·cases h
theorem g8a {d:Option Tmp} {op:Op} {t:TypeId} {p:String} {e:Array Edge} {j:Nat} {os:List Oper} (h:gv all j s=.v (.bool true)) :
  a4h P G all Q (⟨d,op,t,p,e,some (j,true)⟩::os) s=fin P G ⟨d,op,t,p,e,none⟩ s Q (a4h P G all Q os) (a3r P G.ow G.lo s d op):=f2f P G all Q s h
theorem g6w {d:Option Tmp} {op:Op} {t:TypeId} {p:String} {e:Array Edge} {j:Nat} {os:List Oper} (h:gv all j s=.v (.bool false)) :
  a4h P G all Q (⟨d,op,t,p,e,some (j,false)⟩::os) s=fin P G ⟨d,op,t,p,e,none⟩ s Q (a4h P G all Q os) (a3r P G.ow G.lo s d op):=f2f P G all Q s h
theorem g7j {d:Option Tmp} {op:Op} {t:TypeId} {p:String} {e:Array Edge} {j:Nat} {os:List Oper} (h:gv all j s=.v (.bool false)) :
  a4h P G all Q (⟨d,op,t,p,e,some (j,true)⟩::os) s=(chk G.n d∧a4h P G all Q os (a3z s d skV)):=f9y P G all Q s h
theorem g6l {d:Option Tmp} {op:Op} {t:TypeId} {p:String} {e:Array Edge} {j:Nat} {os:List Oper} (h:gv all j s=.v (.bool true)) :
  a4h P G all Q (⟨d,op,t,p,e,some (j,false)⟩::os) s=(chk G.n d∧a4h P G all Q os (a3z s d skV)):=f9y P G all Q s h
def gdb (P:Program) (G:Gh) (all:List Oper) (Q:Exit→St→Prop) (d:Option Tmp) (op:Op) (t:TypeId) (p:String) (e:Array Edge) (j:Nat) (w:Bool) (os:List Oper) (s:St):Option Nat→V→Prop
 |some g,.v (.bool b)=>(b=w→fin P G ⟨d,op,t,p,e,none⟩ (s.set g (.v (.bool w))) Q (a4h P G all Q os) (a3r P G.ow G.lo (s.set g (.v (.bool w))) d op)) ∧
   (b=!w→chk G.n d∧a4h P G all Q os (a3z (s.set g (.v (.bool !w))) d skV))
 |some _,.v (.tuple ⟨[]⟩)=>chk G.n d∧a4h P G all Q os (a3z s d skV)
 |_,_=>a9t P G all (⟨d,op,t,p,e,some (j,w)⟩::os) s Q
theorem g3j (d:Option Tmp) (op:Op) (t:TypeId) (p:String) (e:Array Edge) (j:Nat) (w:Bool) (os:List Oper) :
  a4h P G all Q (⟨d,op,t,p,e,some (j,w)⟩::os) s=gdb P G all Q d op t p e j w os s (a9d all j) (gv all j s):=by
 rw [a4h]
 simp only
 cases hg:a9d all j with
 |none=>rfl
 |some g =>
  simp only [gv,hg]
  cases s.get g with
  |v x =>
   cases x with
   |tuple ys =>
    obtain ⟨l⟩:=ys
    cases l<;>rfl
   |_=>rfl
  |_=>rfl
theorem g5j (d:Option Tmp) (op:Op) (t:TypeId) (p:String) (e:Array Edge) (j:Nat) (w:Bool) (os:List Oper) (g:Nat) (b:Bool) :
  gdb P G all Q d op t p e j w os s (some g) (.v (.bool b))=((b=w→fin P G ⟨d,op,t,p,e,none⟩ (s.set g (.v (.bool w))) Q (a4h P G all Q os) (a3r P G.ow G.lo (s.set g (.v (.bool w))) d op)) ∧
   (b=!w→chk G.n d∧a4h P G all Q os (a3z (s.set g (.v (.bool !w))) d skV))):=rfl
theorem g5p (d:Option Tmp) (op:Op) (t:TypeId) (p:String) (e:Array Edge) (j:Nat) (w:Bool) (os:List Oper) (g:Nat) :
  gdb P G all Q d op t p e j w os s (some g) (.v (.tuple ⟨[]⟩))=(chk G.n d∧a4h P G all Q os (a3z s d skV)):=rfl
def cnd (P:Program) (G:Gh) (c:Operand) (x y:Code) (s:St) (Q:Exit→St→Prop):V→Prop
 |.v (.bool b)=>(b=true→vc P G x s Q)∧(b=false→vc P G y s Q)
 |_=>SemC P G (.cond c x y) s Q
theorem f7e (c:Operand) (x y:Code):vc P G (.cond c x y) s Q=cnd P G c x y s Q (ev s c):=by
 rw [vc]
 cases ev s c with
 |v z=>cases z<;>rfl
 |_=>rfl
theorem g7v (c:Operand) (x y:Code) (b:Bool):cnd P G c x y s Q (.v (.bool b))=((b=true→vc P G x s Q)∧(b=false→vc P G y s Q)):=rfl
theorem g6t (c:Operand) (x y:Code):cnd P G c x y s Q (.v (.bool true))=vc P G x s Q:=by simp [cnd]
theorem g5x (c:Operand) (x y:Code):cnd P G c x y s Q (.v (.bool false))=vc P G y s Q:=by simp [cnd]
theorem f8j:vc P G .skip s Q=Q .normal s:=rfl
theorem g0p (a b:Code):vc P G (.seq a b) s Q=vc P G a s (d5d (vc P G b) Q):=rfl
theorem e5r (id:Nat) (l:List Oper):vc P G (.region id l.toArray false) s Q=a4h P G l Q l s:=rfl
theorem f4o (id:Nat) (l:List Oper):vc P G (.region id l.toArray true) s Q=SemC P G (.region id l.toArray true) s Q:=rfl
theorem f1n (id:Nat) (c:Code):vc P G (.block id c) s Q=vc P G c s (c7b id Q):=rfl
theorem f7i (id:Nat):vc P G (.exit id) s Q=Q (.exit id) s:=rfl
theorem g3c:vc P G .ret s Q=Q .ret s:=rfl
theorem f6y (c:Code):vc P G (.loop c) s Q=SemC P G (.loop c) s Q:=rfl
theorem g0w (k:St→(Exit→St→Prop)→Prop):d5d k Q .normal s=k s Q:=rfl
theorem g3w (k:St→(Exit→St→Prop)→Prop):d5d k Q .ret s=Q .ret s:=rfl
theorem g1c (k:St→(Exit→St→Prop)→Prop) (i:Nat):d5d k Q (.exit i) s=Q (.exit i) s:=rfl
theorem g3l (id:Nat):c7b id Q .normal s=Q .normal s:=rfl
theorem g1y (id:Nat):c7b id Q .ret s=Q .ret s:=rfl
theorem g0b (id i:Nat):c7b id Q (.exit i) s=if i=id then Q .normal s else Q (.exit i) s:=rfl
variable (lo:Nat)
theorem g2p (x:ResultVar) (r:V):a1z P lo [x] r .ret s=(a6e P s x∧Sub (d4a P lo s x) r):=rfl
theorem f6m (x:ResultVar) (r:V):a1z P lo [x] r .normal s=(a6e P s x∧Sub (d4a P lo s x) r):=rfl
theorem g3x (x y:ResultVar) (r:V):a1z P lo [x,y] r .ret s=((a6e P s x∧a6e P s y)∧Sub (.tup [d4a P lo s x,d4a P lo s y]) r):=by simp [a1z]
theorem g1g (x y z:ResultVar) (r:V):a1z P lo [x,y,z] r .ret s=((a6e P s x∧a6e P s y∧a6e P s z)∧Sub (.tup [d4a P lo s x,d4a P lo s y,d4a P lo s z]) r):=by simp [a1z]
variable (h0 h':List (Nat×OB)) (r:V)
theorem f8u (x:ResultVar):a6a P h0 [x] (.ret r h') .ret s=(a6e P s x∧∃ ρ,b3x h0 s (d6p P s x) r h' ρ):=by simp [a6a,f2h]
theorem e7x (x:ResultVar):a6a P h0 [x] (.ret r h') .normal s=(a6e P s x∧∃ ρ,b3x h0 s (d6p P s x) r h' ρ):=by simp [a6a,f2h]
theorem f4w (x y:ResultVar):a6a P h0 [x,y] (.ret r h') .ret s=((a6e P s x∧a6e P s y)∧∃ ρ,b3x h0 s (.tup [d6p P s x,d6p P s y]) r h' ρ):=by simp [a6a,f2h]
theorem f8k (x y z:ResultVar):a6a P h0 [x,y,z] (.ret r h') .ret s=((a6e P s x∧a6e P s y∧a6e P s z)∧∃ ρ,b3x h0 s (.tup [d6p P s x,d6p P s y,d6p P s z]) r h' ρ):=by simp [a6a,f2h]
theorem f6n:a6a P h0 [] (.ret r h') .ret s=∃ ρ,b3x h0 s (.tup []) r h' ρ:=by simp [a6a,f2h]
theorem f0j:a6a P h0 [] (.ret r h') .normal s=∃ ρ,b3x h0 s (.tup []) r h' ρ:=by simp [a6a,f2h]
theorem f5w (rs:List ResultVar) (x:Value) (ch:List PanicEntry):a6a P h0 rs (.pan x h') (.panic ch) s=(ch=[{ v:=x,recovered:=false }]∧∃ ρ,b3x h0 s .any .any h' ρ):=rfl
theorem g3o (d:Option Nat) (rest:St→Prop) (ρ ν:List (Nat×Nat)):g4o d s Q rest h0 ρ ν (.ret r h')=(b4n s h0 ν∧a3o (toR (a1r h' ρ++ν)) h'∧a5t h'∧rest (app s d (b8b (toR (a1r h' ρ++ν)) 4 r,upT ρ ν h'))):=rfl
theorem g3y (d:Option Nat) (rest:St→Prop) (ρ ν:List (Nat×Nat)) (x:Value):g4o d s Q rest h0 ρ ν (.pan x h')=(b4n s h0 ν∧a3o (toR (a1r h' ρ++ν)) h'∧a5t h'∧Q (.panic [{ v:=x,recovered:=false }]) (a1h s (upT ρ ν h'))):=rfl
theorem e8c (l:Nat):vc P G (.label l) s Q=Q .normal s:=rfl
theorem e9u (c:Code):vc P G (.scope c) s Q=vc P G c s (f9j Q):=rfl
theorem g4c (s:St):f9j Q .normal s=Q .normal s:=rfl
theorem g2i (s:St):f9j Q .ret s=Q .ret s:=rfl
theorem g2m (s:St) (i:Nat):f9j Q (.exit i) s=Q (.exit i) s:=rfl
section
variable (al:Al)
def g0m (P:Program) (G:Gh) (al:Al) (o:Oper) (Q:Exit→St→Prop) (rest:St→Prop) (f:Bool) (s:St):Prop:=f9n P G al o s Q rest (a3r P G.ow G.lo s o.dst o.op) f
def gdR (G:Gh) (d:Option Nat) (A K:St→Prop) (s:St) (w:Bool):Option Nat→V→Prop
 |some g,.v (.bool b)=>(b=w→A (s.set g (.v (.bool w))))∧(b=!w→chk G.n d∧K (a3z (s.set g (.v (.bool !w))) d skV))
 |some _,.v (.tuple ⟨[]⟩)=>chk G.n d∧K (a3z s d skV)
 |_,_=>False
theorem f7g (rest:St→Prop) (f:Bool) (d:Option Tmp) (op:Op) (t:TypeId) (p:String) (e:Array Edge) (g:Option (Nat×Bool)):g0m P G al ⟨d,op,t,p,e,g⟩ Q rest f s=f9n P G al ⟨d,op,t,p,e,g⟩ s Q rest (a3r P G.ow G.lo s d op) f:=rfl
theorem f7a:vcD P G al all Q [] s=Q .normal s:=rfl
theorem e7w (d:Option Tmp) (op:Op) (t:TypeId) (p:String) (e:Array Edge) (f:Bool) (os:List (Oper×Bool)) :
  vcD P G al all Q ((⟨d,op,t,p,e,none⟩,f)::os) s=f9n P G al ⟨d,op,t,p,e,none⟩ s Q (vcD P G al all Q os) (a3r P G.ow G.lo s d op) f:=rfl
theorem c0s (d:Option Tmp) (op:Op) (t:TypeId) (p:String) (e:Array Edge) (j:Nat) (w:Bool) (f:Bool) (os:List (Oper×Bool)) :
  vcD P G al all Q ((⟨d,op,t,p,e,some (j,w)⟩,f)::os) s=gdR G d (g0m P G al ⟨d,op,t,p,e,some (j,w)⟩ Q (vcD P G al all Q os) f) (vcD P G al all Q os) s w (a9d all j) (gv all j s):=by
 simp only [vcD,gdD]
 cases hg:a9d all j with
 |none=>rfl
 |some g =>
  simp only [gv,hg]
  cases s.get g with
  |v x =>
   cases x with
   |tuple ys =>
    obtain ⟨l⟩:=ys
    cases l<;>rfl
   |_=>rfl
  |_=>rfl
theorem d9p (d:Option Tmp) (op:Op) (t:TypeId) (p:String) (e:Array Edge) (j:Nat) (w:Bool) (f:Bool) (os:List (Oper×Bool)) (h:gv all j s=.v (.bool w)) :
  vcD P G al all Q ((⟨d,op,t,p,e,some (j,w)⟩,f)::os) s=g0m P G al ⟨d,op,t,p,e,some (j,w)⟩ Q (vcD P G al all Q os) f s:=by
 rw [c0s,h]
 unfold gv at h
 split at h
 ·rename_i g hg
  rw [hg]
  simp [gdR,a9l h]
 ·cases h
theorem f3g (d:Option Tmp) (op:Op) (t:TypeId) (p:String) (e:Array Edge) (j:Nat) (w:Bool) (f:Bool) (os:List (Oper×Bool)) (h:gv all j s=.v (.bool !w)) :
  vcD P G al all Q ((⟨d,op,t,p,e,some (j,w)⟩,f)::os) s=(chk G.n d∧vcD P G al all Q os (a3z s d skV)):=by
 rw [c0s,h]
 unfold gv at h
 split at h
 ·rename_i g hg
  rw [hg]
  simp [gdR,a9l h]
 ·cases h
theorem g2v (d:Option Tmp) (op:Op) (t:TypeId) (p:String) (e:Array Edge) (j:Nat) (f:Bool) (os:List (Oper×Bool)) (h:gv all j s=.v (.bool true)) :
  vcD P G al all Q ((⟨d,op,t,p,e,some (j,true)⟩,f)::os) s=g0m P G al ⟨d,op,t,p,e,some (j,true)⟩ Q (vcD P G al all Q os) f s:=d9p P G all Q s al d op t p e j true f os h
theorem g3i (d:Option Tmp) (op:Op) (t:TypeId) (p:String) (e:Array Edge) (j:Nat) (f:Bool) (os:List (Oper×Bool)) (h:gv all j s=.v (.bool false)) :
  vcD P G al all Q ((⟨d,op,t,p,e,some (j,false)⟩,f)::os) s=g0m P G al ⟨d,op,t,p,e,some (j,false)⟩ Q (vcD P G al all Q os) f s:=d9p P G all Q s al d op t p e j false f os h
theorem g4g (d:Option Tmp) (op:Op) (t:TypeId) (p:String) (e:Array Edge) (j:Nat) (f:Bool) (os:List (Oper×Bool)) (h:gv all j s=.v (.bool false)) :
  vcD P G al all Q ((⟨d,op,t,p,e,some (j,true)⟩,f)::os) s=(chk G.n d∧vcD P G al all Q os (a3z s d skV)):=f3g P G all Q s al d op t p e j true f os h
theorem f9v (d:Option Tmp) (op:Op) (t:TypeId) (p:String) (e:Array Edge) (j:Nat) (f:Bool) (os:List (Oper×Bool)) (h:gv all j s=.v (.bool true)) :
  vcD P G al all Q ((⟨d,op,t,p,e,some (j,false)⟩,f)::os) s=(chk G.n d∧vcD P G al all Q os (a3z s d skV)):=f3g P G all Q s al d op t p e j false f os h
theorem g5m (d:Option Nat) (A K:St→Prop) (g:Nat) (b w:Bool):gdR G d A K s w (some g) (.v (.bool b))=((b=w→A (s.set g (.v (.bool w))))∧(b=!w→chk G.n d∧K (a3z (s.set g (.v (.bool !w))) d skV))):=rfl
theorem g7b (d:Option Nat) (A K:St→Prop) (g:Nat) (w:Bool):gdR G d A K s w (some g) (.v (.tuple ⟨[]⟩))=(chk G.n d∧K (a3z s d skV)):=rfl
theorem g0t (o:Oper) (rest:St→Prop) (r:Res):f9n P G al o s Q rest r false=(c2c al s o.dst o.op=true∧e7q P G (a2d al (nm0 al o.dst o.op)) (mkd al o.dst) o s rest r):=rfl
theorem g4a (o:Oper) (rest:St→Prop) (r:Res):f9n P G al o s Q rest r true=fin P G o s Q rest r:=rfl
end
section
variable (d:Option Tmp) (op:Op) (t:TypeId) (p:String) (e:Array Edge) (gd:Option (Nat×Bool)) (rest:St→Prop) (C:Prop)
variable (N:Nat→Bool) (M:Bool)
theorem f3z (k:C→V):e7q P G N M ⟨d,op,t,p,e,gd⟩ s rest (.go C k)=(chk G.n d∧∃ h:C,rest (a3z s d (k h))):=rfl
theorem d8i (k:C→V×List (Nat×Option OB)):e7q P G N M ⟨d,op,t,p,e,gd⟩ s rest (.heap C k)=(chk G.n d∧∃ h:C,rest (app s d (k h))):=rfl
theorem d7g (f:V) (as:List V):e7q P G N M ⟨d,op,t,p,e,gd⟩ s rest (.call f as)=(chk G.n d∧∃ e,CallE P G N M f as s e∧rest (app s d e)):=rfl
end
theorem g3k {α:Type} (i j:Nat) (F:α→St) (I:α→Prop):d2b G i F I Q (.exit j) s=if j=i then ∃ x,I x∧Ent G s (F x) else Q (.exit j) s:=rfl
theorem g1u {α:Type} (i:Nat) (F:α→St) (I:α→Prop):d2b G i F I Q .normal s=∃ x,I x∧Ent G s (F x):=rfl
theorem g3b {α:Type} (i:Nat) (F:α→St) (I:α→Prop):d2b G i F I Q .ret s=Q .ret s:=rfl
theorem g7y (d:Option Nat) (x:V) (l:List (Nat×Option OB)):app s d (x,l)=a3z (a1h s l) d x:=rfl
theorem f9c:a1h s []=s:=rfl
theorem f8a (i:Nat) (x:Option OB) (l:List (Nat×Option OB)):a1h s ((i,x)::l)=a1h (s.hset i x) l:=rfl
theorem f3s (p:Nat→Bool) (lo i:Nat):(frz p lo s).get i=vwF p lo s 4 (s.get i):=rfl
theorem e7k (p:Nat→Bool) (lo i:Nat):(frz p lo s).used i=s.used i:=rfl
def g5h (p:Nat→Bool) (lo:Nat) (s:St) (i:Nat):Bool→Option OB
 |true=>none
 |false=>(s.hget i).map (g4z p lo s)
theorem e7v (p:Nat→Bool) (lo i:Nat):(frz p lo s).hget i=g5h p lo s i (p i):=by
 unfold g5h St.hget frz
 simp only
 cases p i<;>rfl
theorem g6h (n d:Nat):chk n (some d)=(d < n):=rfl
theorem g5f (n:Nat):chk n none=True:=rfl
theorem g0e (d:Nat) (x:V):a3z s (some d) x=s.set d x:=rfl
theorem g3d (x:V):a3z s none x=s:=rfl
theorem g5t (x y:Value):Sub (.v x) (.v y)=(x=y):=by
 apply propext
 constructor
 ·intro h
  have h1:=h (default:World) (fun _=>False) x (.v x)
  cases h1;rfl
 ·rintro rfl;exact Sub.refl _
theorem e9y (x:V):Sub x x=True:=eq_true (Sub.refl x)
end
attribute [go_sem] g4u b8r b9t b7m c3f c3u b9f b4r a7w putCells b7a g6f a8q e4h b7s c9w g5c f5k f4t c9q d4m c0i g7y f9c f8a f3s e7k e7v g5h g4z vwF vwS d2k a4r f6t b0t b3o pureV pure0 a9v g4r a3b Option.map_some Option.map_none List.set_cons_zero List.set_cons_succ List.length_cons List.length_nil Option.any_some List.replicate_succ List.replicate_zero Bool.and_true Bool.true_and Nat.zero_mul Nat.mul_one Nat.add_zero Nat.zero_add Value.cells Array.toList List.range_succ List.getElem_map List.length_map List.getElem_append List.length_append List.length_take List.length_drop
attribute [go_sem] g3g f9e g2u e7c f1d g1j e0t a3r ev e3n e7s e6k e0e f0c c4d g1q f7j f8p lkV lkH usH a3n g0e g3d g8a g6w g7j g6l g5j f7e g6t g5x f8j g0p e5r f4o f1n f7i g3c f6y g0w g3w g1c g3l g1y g0b g2p f6m g3x g1g g6h g5f e9y g5t a9d g5s d4a a6e vw f8u e7x f4w f8k f6n f0j f5w g3o g3y d6p b8b e9p toR tgt a1r a3q a6j b4n a3o a5t a7f upT loT a0x b2v List.filter_cons List.filter_nil f6a a1d a0r okN okL a1l a2m apart a0n lkR true_or or_true c0j e7n b8l g5w f9g eqV eqX b6s b9c g6x g4t b5x b9x b8j b1m b3s d5l d5w b9g bytesOf c7o b9s d5s c0k c0o d3j b3n c0h b9w c0g b8s c0d decide_true exists_prop true_and and_true exists_true_left List.getElem?_cons_succ List.getElem?_cons_zero decide_eq_true_eq decide_eq_false_iff_not forall_const Bool.not_true Bool.not_false cond_true cond_false ite_true ite_false V.v.injEq Value.bool.injEq Value.int.injEq List.map_cons List.map_nil List.drop_zero List.drop_succ_cons List.take_succ_cons List.take_zero Option.getD_some false_implies implies_true not_true_eq_false not_false_eq_true Bool.not_eq_true Bool.not_eq_false
theorem e3u {α β:Type} (f:α→β) (l:List α) (n:Nat):(l.map f).take n=(l.take n).map f:=List.map_take.symm
theorem d6r {α β:Type} (f:α→β) (l:List α) (n:Nat):(l.map f).drop n=(l.drop n).map f:=List.map_drop.symm
theorem c7q {α β:Type} (f:α→β) (l m:List α):l.map f++m.map f=(l++m).map f:=List.map_append.symm
attribute [go_sem] g3k g1u g3b e3u d6r c7q Int.toNat_zero Nat.sub_zero Nat.min_self List.take_length e8e beq_self_eq_true b6h d9q e7y Option.isSome_some List.nil_append Int.natCast_nonneg f7g f7a e7w g2v g3i g4g f9v g0t g4a f3z d8i d7g f9k alC b8p a3s c2c c5s b1i nm0 nmT tbl g8i c9m f9t a2d List.cons_append List.all_cons List.all_nil List.contains_cons List.contains_nil Option.toList_some Option.toList_none Bool.not_or Bool.or_false Bool.or_true Bool.false_or Nat.reduceBEq Bool.true_or Bool.and_false Bool.false_and List.range_zero c6z Int.natCast_zero Int.cast_ofNat_Int Int.sub_zero Bool.not_eq_true' Bool.not_eq_false'
attribute [go_sem] b7b b6r b6o b7h a8t lkM c9h upM vOf d3r g2n d0j g4l lkG c2n gl1 gl2 gl3 gl4 gl5 gl6 gl7
attribute [go_sem] g5p g7b e8c e9u g4c g2i g2m
attribute [go_sem low] g3j g7v g5m c0s
end Pm
attribute [go_sem_proc] reduceIte Nat.reduceLeDiff Nat.reduceEqDiff Nat.reduceAdd Nat.reduceLT reduceCtorEq
attribute [go_sem] Nat.le_refl Int.toNat_natCast
open Go Pm
def a2c (s:ByteArray):List V:=[.v (.string s)]
def a0q (lo:Nat) (l:List ByteArray):V:=.lst lo 1 (l.map a2c)
def bl (b:Bool):V:=.v (.bool b)
def i64 (n:Int):V:=.v (.int .i64 n)
attribute [go_sem] a2c a0q bl i64
theorem a2l {α:Type} {f:α→List V} (h:∀ x,a9v (f x)=true) (l:List α):a3b (l.map f)=true:=by
 induction l with
 |nil=>rfl
 |cons a r ih=>simp [a3b,h,ih]
theorem c5m (l:List ByteArray):a3b (l.map a2c)=true:=a2l (fun _=>rfl) l
attribute [go_sem] c5m
theorem b5z {lo:Nat} {l:List ByteArray} {as:List V} (h:∀ x ∈ as,Bd x) (hm:a0q lo l ∈ as):l.length≤140737488355328:=by
 cases h _ hm with
 |lst _ _ _ hl _=>simpa using hl
def b4o (b:UInt8):Bool:=!(decide ((b.toNat:Int) < 32) || decide (126 < (b.toNat:Int)))
def b4y (s:ByteArray):Bool:=decide (1≤(s.size:Int)) && decide ((s.size:Int)≤160) && s.data.toList.all b4o
def a1c (l:List ByteArray):Bool:=l.all b4y && decide ((l.length:Int)≤200)
theorem a0u {α:Type} {p:α→Bool} {l:List α} {k:Nat} (hk:k < l.length) (h:(l.take k).all p=true) (hp:p l[k]=true):(l.take (k+1)).all p=true:=by
 rw [List.take_add_one,List.getElem?_eq_getElem hk,List.all_append,h]
 simp [hp]
theorem a3d {α β:Type} (f:α→β) (l:List α) (k:Nat) (hk:k < l.length):(l.take (k+1)).map f=(l.take k).map f++[f l[k]]:=by
 rw [List.take_add_one,List.getElem?_eq_getElem hk,List.map_append];rfl
theorem a4k {α:Type} {p:α→Bool} {l:List α} {k:Nat} (hk:k < l.length) (hp:p l[k]=false):l.all p=false :=
 List.all_eq_false.2 ⟨_,List.getElem_mem hk,by simp [hp]⟩
theorem a1k {α:Type} {l:List α} {k:Nat} (hk:k≤l.length) (h:¬ (k:Int) < (l.length:Int)):l.take k=l:=by
 rw [List.take_of_length_le];omega
theorem b7i (s:ByteArray) (j:Nat) (h:j < s.size):s.data.toList[j]'(by simpa using h)=s[j]:=by simp [ByteArray.getElem_eq_getElem_data]
structure Hk where
 lo:Int
 drop:Int
 put:List ByteArray
structure Sh where
 first:List ByteArray
 chg:List Hk
def hkE (n:Nat) (h:Hk):List V:=[i64 h.lo,i64 h.drop,a0q n h.put]
def hks (n:Nat) (l:List Hk):V:=.lst n 3 (l.map (hkE n))
def shE (n:Nat) (s:Sh):V:=.agg [a0q n s.first,hks n s.chg]
attribute [go_sem] hkE hks shE
theorem c8o (n:Nat) (l:List Hk):a3b (l.map (hkE n))=true:=a2l (fun _=>rfl) l
attribute [go_sem] c8o
theorem g6g {n:Nat} {s:Sh} {as:List V} (h:∀ x ∈ as,Bd x) (hm:shE n s ∈ as):s.first.length≤140737488355328∧s.chg.length≤140737488355328∧∀ c ∈ s.chg,c.put.length≤140737488355328:=by
 cases h _ hm with
 |agg _ hr =>
  have h1:=hr (a0q n s.first) (by simp)
  have h2:=hr (hks n s.chg) (by simp)
  cases h1 with
  |lst _ _ _ h1 _ =>
   cases h2 with
   |lst _ _ _ h2 h3 =>
    refine ⟨by simpa using h1,by simpa using h2,fun c hc=>?_⟩
    have:=h3 (hkE n c) (List.mem_map_of_mem hc) (a0q n c.put) (by simp [hkE])
    cases this with
    |lst _ _ _ h4 _=>simpa using h4
instance:DecidableEq Hk:=fun a b=>by
 cases a;cases b;simp only [Hk.mk.injEq];infer_instance
instance:DecidableEq Sh:=fun a b=>by
 cases a;cases b;simp only [Sh.mk.injEq];infer_instance
def a9h (l:List ByteArray) (h:Hk):Bool:=(decide (0≤h.lo) && decide (h.lo≤(l.length:Int))) && (decide (0≤h.drop) && decide (h.drop≤(l.length:Int) - h.lo))
def a3m (l:List ByteArray) (h:Hk):List ByteArray:=if a9h l h=true then l.take h.lo.toNat++h.put++l.drop (h.lo+h.drop).toNat else []
def cpl:List ByteArray→List ByteArray→Nat
 |a::l,b::m=>if a=b then cpl l m+1 else 0
 |_,_=>0
theorem d2c:∀ a b,cpl a b≤a.length∧cpl a b≤b.length:=by
 intro a
 induction a with
 |nil=>intro b;simp [cpl]
 |cons x l ih =>
  intro b
  cases b with
  |nil=>simp [cpl]
  |cons y m =>
   simp only [cpl]
   split
   ·have:=ih m;simp;omega
   ·simp
theorem f2q:∀ (a b:List ByteArray) (k:Nat),k≤a.length→k≤b.length→a.take k=b.take k→(∀ (h:k < a.length) (h':k < b.length),a[k]≠b[k])→cpl a b=k:=by
 intro a
 induction a with
 |nil=>intro b k h _ _ _;simp at h;subst h;simp [cpl]
 |cons x l ih =>
  intro b k h1 h2 h3 h4
  cases b with
  |nil=>simp at h2;subst h2;simp [cpl]
  |cons y m =>
   cases k with
   |zero =>
    have:=h4 (by simp) (by simp)
    simp at this
    simp [cpl,this]
   |succ k =>
    simp at h1 h2 h3
    obtain ⟨rfl,h3⟩:=h3
    have:=ih m k h1 h2 h3 (fun h h'=>by have:=h4 (by simp;omega) (by simp;omega);simpa using this)
    simp [cpl,this]
def a3p (a b:List ByteArray):Hk :=
 let n:=cpl a b
 let e:=cpl (a.drop n).reverse (b.drop n).reverse
 ⟨n,(a.length:Int) - n - e,(b.take (b.length - e)).drop n⟩
open Go
namespace Pm
def a6u (nm:List Nat):Nat→V→Bool
 |0,_=>false
 |n+1,x=>match x with
  |.any|.v _|.lst _ _ _|.fp _=>true
  |.ptr id _|.eptr id _ _ _|.own id _ _ _|.mp id=>nm.contains id
  |.agg cs|.tup cs|.fn _ cs=>cs.all (a6u nm n)
theorem R.nms {w w':World} {O O':Nat→Prop} {E E':Env} {nm:List Nat} (hsz:w.heap.size≤w'.heap.size)
  (hO:∀ b,¬ O b→b < w.heap.size→¬ O' b) (hw:∀ b,¬ O b→b < w.heap.size→a4g w b→w'.heap[b]? = w.heap[b]?)
  (hE:∀ id,id ∈ nm→∀ r,E id=some r→E' id=some r):∀ (n:Nat) {x:V} {y:Value},a6u nm n x=true→R w O E x y→R w' O' E' x y:=by
 intro n
 induction n with
 |zero=>intro x y h;cases h
 |succ n ih =>
  intro x y h hR
  cases hR with
  |r0 x y h0=>exact .r0 _ _ (h0.monoC hsz hO hw)
  |ptr id off b K C h1=>exact .ptr id off b K C (hE id (by simpa [a6u] using h) _ h1)
  |eptr id i k sz b K C h1 hi=>exact .eptr id i k sz b K C (hE id (by simpa [a6u] using h) _ h1) hi
  |own id off len sz b K C y h1 hv=>exact .own id off len sz b K C y (hE id (by simpa [a6u] using h) _ h1) hv
  |mp id b K C h1=>exact .mp id b K C (hE id (by simpa [a6u] using h) _ h1)
  |agg cs ys hn hr=>exact .agg cs ys hn fun j u y h1 h2=>ih (List.all_eq_true.1 (by simpa [a6u] using h) u (List.mem_of_getElem? h1)) (hr j u y h1 h2)
  |tup cs ys hn hr=>exact .tup cs ys hn fun j u y h1 h2=>ih (List.all_eq_true.1 (by simpa [a6u] using h) u (List.mem_of_getElem? h1)) (hr j u y h1 h2)
  |fn f cs ys hn hr=>exact .fn f cs ys hn fun j u y h1 h2=>ih (List.all_eq_true.1 (by simpa [a6u] using h) u (List.mem_of_getElem? h1)) (hr j u y h1 h2)
def keepV (nm:List Nat) (x:V):V:=match a6u nm 4 x with
 |true=>x
 |false=>.any
theorem R.keepV {w w':World} {O O':Nat→Prop} {E E':Env} {nm:List Nat} (hsz:w.heap.size≤w'.heap.size)
  (hO:∀ b,¬ O b→b < w.heap.size→¬ O' b) (hw:∀ b,¬ O b→b < w.heap.size→a4g w b→w'.heap[b]? = w.heap[b]?)
  (hE:∀ id,id ∈ nm→∀ r,E id=some r→E' id=some r) {x:V} {y:Value} (h:R w O E x y):R w' O' E' (keepV nm x) y:=by
 unfold Pm.keepV
 split
 ·rename_i e;exact h.nms hsz hO hw hE 4 e
 ·exact .r0 _ _ (.any _)
theorem f3w (nm:List Nat) (x:Value):keepV nm (.v x)=.v x:=rfl
theorem e4m (nm:List Nat):keepV nm .any=.any:=rfl
theorem e2q (nm:List Nat) (lo sz:Nat) (l:List (List V)):keepV nm (.lst lo sz l)=.lst lo sz l:=rfl
theorem f0z (nm:List Nat) (l:List V):keepV nm (.fp l)=.fp l:=rfl
theorem e2c (nm:List Nat) (id off:Nat):keepV nm (.ptr id off)=if nm.contains id=true then .ptr id off else .any:=by
 unfold keepV a6u;simp only;cases nm.contains id<;>rfl
theorem d8p (nm:List Nat) (id off len sz:Nat):keepV nm (.own id off len sz)=if nm.contains id=true then .own id off len sz else .any:=by
 unfold keepV a6u;simp only;cases nm.contains id<;>rfl
theorem e6w (nm:List Nat) (id:Nat):keepV nm (.mp id)=if nm.contains id=true then .mp id else .any:=by
 unfold keepV a6u;simp only;cases nm.contains id<;>rfl
theorem e2v (nm:List Nat) (l:List V):keepV nm (.agg l)=if l.all (a6u nm 3)=true then .agg l else .any:=by
 unfold keepV a6u;simp only;cases l.all (a6u nm 3)<;>rfl
theorem e4f (nm:List Nat) (l:List V):keepV nm (.tup l)=if l.all (a6u nm 3)=true then .tup l else .any:=by
 unfold keepV a6u;simp only;cases l.all (a6u nm 3)<;>rfl
theorem f0d (nm:List Nat) (f:Fn) (l:List V):keepV nm (.fn f l)=if l.all (a6u nm 3)=true then .fn f l else .any:=by
 unfold keepV a6u;simp only;cases l.all (a6u nm 3)<;>rfl
def Lp (L:Loop):Option Code→Loop
 |none=>L
 |some c=>{ L with state:=.done,pending:=some c }
def Lb (L:Loop):Loop:={ L with state:=.busy }
def rnd (fl:List (Nat×V)) (s:St) (lam:Nat) (L:Loop):St:=⟨lkV fl,fun id=>if lam=id then some (.obj (.loop (Lb L))) else s.hp id,s.us⟩
def bck (nm:List Nat) (s s2:St) (d:Option Nat) (b:Bool) (lam:Nat) (L':Loop):St :=
 a3z ⟨fun i=>keepV nm (s.fr i),fun id=>if lam=id then some (.obj (.loop L')) else s2.hp id,s2.us⟩ d (.v (.bool b))
def aft (fl:List (Nat×V)) (s:St) (lam:Nat):St:=⟨lkV fl,fun id=>if lam=id then none else s.hp id,s.us⟩
theorem f7t (fl:List (Nat×V)) (s:St) (lam:Nat) (L:Loop) (j:Nat):(rnd fl s lam L).get j=lkV fl j:=rfl
theorem e6r (fl:List (Nat×V)) (s:St) (lam:Nat) (L:Loop) (j:Nat):(rnd fl s lam L).hget j=if lam=j then some (.obj (.loop (Lb L))) else s.hget j:=rfl
theorem f1b (fl:List (Nat×V)) (s:St) (lam:Nat) (L:Loop) (j:Nat):(rnd fl s lam L).used j=s.used j:=rfl
theorem f8t (nm:List Nat) (s s2:St) (d:Nat) (b:Bool) (lam:Nat) (L':Loop) (j:Nat):(bck nm s s2 (some d) b lam L').get j=if d=j then .v (.bool b) else keepV nm (s.get j):=rfl
theorem f0q (nm:List Nat) (s s2:St) (b:Bool) (lam:Nat) (L':Loop) (j:Nat):(bck nm s s2 none b lam L').get j=keepV nm (s.get j):=rfl
theorem a8l (nm:List Nat) (s s2:St) (d:Option Nat) (b:Bool) (lam:Nat) (L':Loop) (j:Nat):(bck nm s s2 d b lam L').hget j=if lam=j then some (.obj (.loop L')) else s2.hget j:=by cases d<;>rfl
theorem c1p (nm:List Nat) (s s2:St) (d:Option Nat) (b:Bool) (lam:Nat) (L':Loop) (j:Nat):(bck nm s s2 d b lam L').used j=s2.used j:=by cases d<;>rfl
theorem f7y (fl:List (Nat×V)) (s:St) (lam j:Nat):(aft fl s lam).get j=lkV fl j:=rfl
theorem e8b (fl:List (Nat×V)) (s:St) (lam j:Nat):(aft fl s lam).hget j=if lam=j then none else s.hget j:=rfl
theorem f1c (fl:List (Nat×V)) (s:St) (lam j:Nat):(aft fl s lam).used j=s.used j:=rfl
def RQ (nm:List Nat) (s:St) (d:Option Nat) (lam:Nat) (L:Loop) (rest:St→Prop):Exit→St→Prop
 |.normal,s2=>s2.hget lam=some (.obj (.loop (Lb L)))∧rest (bck nm s s2 d true lam (Lp L none))
 |.ret,s2=>s2.hget lam=some (.obj (.loop (Lb L)))∧rest (bck nm s s2 d false lam (Lp L (some .ret)))
 |.exit id,s2=>s2.hget lam=some (.obj (.loop (Lb L)))∧rest (bck nm s s2 d false lam (Lp L (some (.exit id))))
 |_,_=>False
def c2t:List Nat→List V→List (Nat×V)
 |i::is,x::xs=>(i,x)::c2t is xs
 |_,_=>[]
def mvO:Oper→Option (Nat×Nat)
 |⟨some d,.assign (.tmp t),_,_,_,none⟩=>some (d,t)
 |_=>none
def mvL:List Oper→Option (List (Nat×Nat))
 |[]=>some []
 |o::r=>match mvO o,mvL r with
  |some m,some l=>some (m::l)
  |_,_=>none
def mvC:Code→Option (List (Nat×Nat))
 |.skip=>some []
 |.region _ ⟨ops⟩ false=>mvL ops
 |.seq a b=>match mvC a,mvC b with
  |some x,some y=>some (x++y)
  |_,_=>none
 |_=>none
def mvA:List (Nat×Nat)→Act→Act
 |[],a=>a
 |(d,t)::r,a=>mvA r (a.put (some d) (a.tmps.getD t undef))
def mvF:List (Nat×Nat)→List (Nat×V)→List (Nat×V)
 |[],fl=>fl
 |(d,t)::r,fl=>mvF r ((d,lkV fl t)::fl)
theorem e3a:∀ (x y:List (Nat×Nat)) (a:Act),mvA (x++y) a=mvA y (mvA x a)
 |[],_,_=>rfl
 |_::x,y,a=>e3a x y _
theorem f8m {o:Oper} {d t:Nat} (h:mvO o=some (d,t)):o.dst=some d∧o.op=.assign (.tmp t)∧o.guard=none:=by
 unfold mvO at h
 split at h
 ·cases h;exact ⟨rfl,rfl,rfl⟩
 ·cases h
theorem f2l {F:Fence} (hF:∀ f,F.fn f) {P:Program} {all:Array Oper} {Q:Exit→Act→World→Prop}:∀ (ops:List Oper) (l:List (Nat×Nat)),mvL ops=some l→∀ (a:Act) (w:World),Q .normal (mvA l a) w→wpListIn F 0 P all Q ops a w
 |[],l,h,a,w,hq=>by
  simp only [mvL,Option.some.injEq] at h
  subst h
  exact hq
 |o::r,l,h,a,w,hq=>by
  unfold mvL at h
  split at h
  ·rename_i m l' h1 h2
   obtain ⟨d,t⟩:=m
   cases h
   obtain ⟨e1,e2,e3⟩:=f8m h1
   refine wpListIn_plain e3 fun K hK=>?_
   refine ⟨fun f _=>hF f,?_⟩
   rw [Oper.semAt_eq _ _ _ (by rw [e2];simp)]
   have:(execOp a.eval o).run P w=.ok (.value (a.tmps.getD t undef)) w:=by simp only [execOp,e2];rfl
   rw [this]
   refine hK _ _ ?_
   rw [e1]
   exact f2l hF r l' h2 _ w hq
  ·cases h
theorem g4i {F:Fence} (hF:∀ f,F.fn f) {P:Program}:∀ (c:Code) {Q:Exit→Act→World→Prop} (l:List (Nat×Nat)),mvC c=some l→∀ (a:Act) (w:World),Q .normal (mvA l a) w→c.wpIn F 0 P Q a w:=by
 intro c
 induction c with
 |skip =>
  intro Q l h a w hq
  simp only [mvC,Option.some.injEq] at h
  subst h
  exact wpIn_skip hq
 |region id ops draw =>
  intro Q l h a w hq
  obtain ⟨ops⟩:=ops
  cases draw with
  |true=>simp [mvC] at h
  |false=>exact wpIn_region_list (f2l hF ops l h a w hq)
 |seq x y ihx ihy =>
  intro Q l h a w hq
  unfold mvC at h
  split at h
  ·rename_i lx ly h1 h2
   simp only [Option.some.injEq] at h
   subst h
   rw [e3a] at hq
   exact wpIn_seq (ihx lx h1 a w (ihy ly h2 _ w hq))
  ·cases h
 |_=>intro Q l h;simp [mvC] at h
theorem c0r:∀ (l:List (Nat×Nat)) (a:Act),(mvA l a).tmps.size=a.tmps.size∧(mvA l a).defers=a.defers
 |[],a=>⟨rfl,rfl⟩
 |(d,t)::r,a=>by
  obtain ⟨h1,h2⟩:=c0r r (a.put (some d) (a.tmps.getD t undef))
  exact ⟨by rw [mvA,h1];simp [Act.put],by rw [mvA,h2];rfl⟩
theorem g3z {Rr:V→Value→Prop}:∀ (l:List (Nat×Nat)) (a:Act) (fl:List (Nat×V)),(∀ p ∈ l,p.1 < a.tmps.size)→(∀ i,Rr (lkV fl i) (a.tmps.getD i undef))→∀ i,Rr (lkV (mvF l fl) i) ((mvA l a).tmps.getD i undef)
 |[],a,fl,_,h,i=>h i
 |(d,t)::r,a,fl,hd,h,i=>by
  refine g3z r (a.put (some d) (a.tmps.getD t undef)) ((d,lkV fl t)::fl) (fun p hp=>?_) (fun j=>?_) i
  ·have:=hd p (by simp [hp]);simpa [Act.put] using this
  ·rw [b5c a d j _ (hd (d,t) (by simp))]
   simp only [lkV]
   split
   ·exact h t
   ·exact h j
def c1b (P:Program) (G1:Gh) (l lam:Nat) (L:Loop) (fl:List (Nat×V)) (ps:List Nat) (mv:List (Nat×Nat)) (body:Code) (n:Nat) (ow:Nat→Bool):Prop :=
 ∀ (nm2:List Nat) (s:St) (o:Oper) (Q:Exit→St→Prop) (rest:St→Prop) (as:List V),s.hget lam=some (.obj (.loop (Lp L none)))→as.length=ps.length→chk G1.n o.dst→(∀ id ∈ G1.nm,id ∈ nm2) →
  (∀ id ∈ nm2,id ∈ G1.nm∨(s.hget id).isSome=true) →
  (∀ G2:Gh,G2.n=n→G2.ow=ow→G2.nm=nm2→G2.lo=G1.lo→G2.rd=some l→SemC P G2 body (rnd (mvF mv (c2t ps as++fl)) s lam L) (RQ nm2 s o.dst lam L rest)) →
  a3k P G1 o s Q rest (.v (.func (.yield l) #[] #[])) as
def b2f (fl:List (Nat×V)) (lam:Nat) (L:Loop) (Q:Exit→St→Prop):Exit→St→Prop
 |.normal,s|.ret,s=>∃ st,s.hget lam=some (.obj (.loop (Lp L st)))∧match st with
  |none=>Q .normal (aft fl s lam)
  |some .ret=>Q .ret (aft fl s lam)
  |some (.exit id)=>Q (.exit id) (aft fl s lam)
  |_=>False
 |_,_=>False
theorem d1x (tmps:Array Value):∀ (ps:List Nat) (ys:List Value),ys.length=ps.length→(∀ t ∈ ps,t < tmps.size) →
  ((ps.zip ys).foldl (fun tmps (x:Nat×Value)=>tmps.setIfInBounds x.1 x.2) tmps).size=tmps.size ∧
  ∀ (as:List V) (Rr:V→Value→Prop) (fr:Nat→V),as.length=ps.length→ps.Nodup→(∀ (j:Nat) (u:V) (y:Value),as[j]? = some u→ys[j]? = some y→Rr u y)→(∀ i,Rr (fr i) (tmps.getD i undef)) →
   ∀ (fl:List (Nat×V)),(∀ i,lkV fl i=fr i)→∀ i,Rr (lkV (c2t ps as++fl) i) (((ps.zip ys).foldl (fun tmps (x:Nat×Value)=>tmps.setIfInBounds x.1 x.2) tmps).getD i undef):=by
 intro ps
 induction ps generalizing tmps with
 |nil =>
  intro ys _ _
  refine ⟨rfl,fun as Rr fr ha _ _ hfr fl hfl i=>?_⟩
  simp only [c2t,List.nil_append,List.zip_nil_left,List.foldl_nil]
  rw [hfl];exact hfr i
 |cons p ps ih =>
  intro ys hl ht
  match ys,hl with
  |y::ys,hl =>
   simp only [List.length_cons,Nat.add_right_cancel_iff] at hl
   simp only [List.zip_cons_cons,List.foldl_cons]
   obtain ⟨h1,h2⟩:=ih (tmps.setIfInBounds p y) ys hl (fun t h=>by simpa using ht t (by simp [h]))
   refine ⟨by simpa using h1,fun as Rr fr ha hnd hr hfr fl hfl i=>?_⟩
   match as,ha with
   |a::as,ha =>
    simp only [List.length_cons,Nat.add_right_cancel_iff] at ha
    rw [List.nodup_cons] at hnd
    have:=h2 as Rr (fun j=>if p=j then a else fr j) ha hnd.2 (fun j u y' g1 g2=>hr (j+1) u y' (by simpa using g1) (by simpa using g2)) (fun j=>by
     have hp:p < tmps.size:=ht p (by simp)
     simp only [Array.getD_eq_getD_getElem?,Array.getElem?_setIfInBounds]
     by_cases e:p=j
     ·subst e;simpa [hp] using hr 0 a y rfl rfl
     ·simpa [e,Array.getD_eq_getD_getElem?] using hfr j) ((p,a)::fl) (fun j=>by simp only [lkV,hfl]) i
    have e:lkV (c2t (p::ps) (a::as)++fl) i=lkV (c2t ps as++(p,a)::fl) i:=by
     have gen:∀ (l:List (Nat×V)),(∀ x ∈ l,x.1≠p)→lkV ((p,a)::(l++fl)) i=lkV (l++(p,a)::fl) i:=by
      intro l
      induction l with
      |nil=>intro _;rfl
      |cons q r ihr =>
       intro hq
       have hq1:=hq q (by simp)
       have hr:=ihr (fun x h=>hq x (by simp [h]))
       simp only [List.cons_append,lkV] at hr ⊢
       by_cases e1:q.1=i
       ·have:¬ p=i:=fun e=>hq1 (e1.trans e.symm)
        simp [e1,this]
       ·simp only [e1,if_false] at hr ⊢
        exact hr
     refine gen _ fun x hx=>?_
     have:∀ (ps:List Nat) (as:List V),∀ x ∈ c2t ps as,x.1 ∈ ps:=by
      intro ps
      induction ps with
      |nil=>intro as x h;simp [c2t] at h
      |cons q qs ihq =>
       intro as x h
       cases as with
       |nil=>simp [c2t] at h
       |cons b bs =>
        simp only [c2t,List.mem_cons] at h
        rcases h with rfl|h
        ·simp
        ·simp [ihq bs x h]
     intro e
     exact hnd.1 (e ▸ this ps as x hx)
    rw [e]
    exact this
theorem SimE.name_lt {G:Gh} {s:St} {a:Act} {w:World} {E:Env} (h:SimE G s a w E) {id b:Nat} {o:Obj} (hp:s.hp id=some (.obj o)) (hE:∀ b' x,E id=some (some b',x)→b'=b):E id=some (some b,0,0)∧w.heap[b]? = some o∧b < w.heap.size:=by
 obtain ⟨b',K,C,h1,b'',rfl,h2,rfl,rfl⟩:=h.hp id _ hp
 have:=hE _ _ h1
 subst this
 exact ⟨h1,h2,(h.fresh id _ _ _ hp h1).2.2⟩
theorem b2s {P:Program} {a:Act} {w:World} {o:Oper} {x:Operand} {ops:List Operand} {ts:Array TypeId} {l:Nat} {L:Loop} (ho:o.op=.call ⟨.value x,ops.toArray,ts⟩) (hx:a.eval x=.func (.yield l) #[] #[])
  (h:w.heap[l]? = some (.loop L)) (hs:ops.length=L.params.size) (rd:Option Nat) :
  (o.semAt rd a.eval).run P w=.ok (.round l L.fn ((L.params.zip (ops.map a.eval).toArray).foldl (fun tmps (t,a)=>tmps.setIfInBounds t a) L.tmps) L.assign L.body) w:=by
 have hy:=run_yield (P:=P) (w:=w) (args:=(ops.map a.eval).toArray) h (by simpa using hs)
 have e:o.semAt rd a.eval=execOp a.eval o:=by
  unfold Oper.semAt
  cases rd with
  |none=>rfl
  |some l=>simp [ho]
 rw [e]
 simp [execOp,ho,resolve,Deferred.ofValue,hx,invoke,hy]
theorem b6g {P:Program} {G1:Gh} {l lam:Nat} {L:Loop} {fl:List (Nat×V)} {ps:List Nat} {mv:List (Nat×Nat)} {asg body:Code} {n:Nat} {ow:Nat→Bool} (hrd:G1.rd=none)
  (hL:L.state=.ready∧L.pending=none∧L.params=ps.toArray∧L.assign=asg∧L.body=body∧L.tmps.size=n) (hps:ps.Nodup∧∀ p ∈ ps,p < n) (hmv:mvC asg=some mv) (hmvn:∀ p ∈ mv,p.1 < n)
  (hlam:lam ∈ G1.nm∧G1.E0 lam=some (some l,0,0)) {O1:Nat→Prop} (hO1:∀ b,¬ O1 b→¬ G1.Of b∧¬ G1.M b)
  (hfl:∀ i,a6u G1.nm 4 (lkV fl i)=true∧R G1.w0 O1 G1.E0 (lkV fl i) (L.tmps.getD i undef)):c1b P G1 l lam L fl ps mv body n ow:=by
 intro nm2 s o Q rest as hs has hc hnm hnm2 h x ops ts ho hx hops
 subst hops
 rintro a w ⟨E,hE⟩
 obtain ⟨hl1,hl2⟩:=hlam
 have hLp:Lp L none=L:=rfl
 rw [hLp] at hs
 obtain ⟨hEl,hheap,hlt⟩:=hE.name_lt (b:=l) hs fun b' z hz=>by
  obtain ⟨r,g1,g2⟩:=hE.base lam hl1
  rw [hl2] at g1;cases g1;rw [g2] at hz;cases hz;rfl
 have hyv:=R.v_inv (a1t hE hx.symm)
 have hlen:ops.length=L.params.size:=by rw [hL.2.2.1];simpa using has
 have hrun:=b2s (P:=P) ho hyv hheap hlen G1.F.round
 unfold Oper.wpIn
 refine ⟨fun f _=>G1.fn f,?_⟩
 rw [hrun,Oper.uponIn_round]
 refine ⟨G1.depth,?_⟩
 have hF:G1.F.inRound l={ Fence.wide with round:=some l }:=by unfold Gh.F Fence.inRound;rfl
 rw [hL.2.2.2.1,hL.2.2.2.2.1]
 refine roundIn_of_wpIn (G1.fn _) (g4i (fun f=>trivial) asg mv hmv _ _ ⟨_,run_beginRound hheap hL.1,?_⟩)
 -- the round's ghost
 have hlive_l:a5v s E l:=⟨lam,_,0,0,hs,hEl⟩
 have hnOf:¬ G1.Of l:=(hE.fresh lam _ l _ hs hEl).2.1
 have hsz1:(w.putObj l (.loop { L with state:=.busy })).heap.size=w.heap.size:=World.putObj_size
 have hother:∀ k,k≠l→(w.putObj l (.loop { L with state:=.busy })).heap[k]? = w.heap[k]?:=fun k hk=>World.putObj_heap_other hk
 have hnl:∀ b,a4g w b→b≠l:=by rintro b ⟨cs,t,f,hb⟩ rfl;rw [hheap] at hb;cases hb
 have hliveS:∀ b,a5v (rnd (mvF mv (c2t ps (ops.map (ev s))++fl)) s lam L) E b→a5v s E b:=by
  rintro b ⟨id,ob,K,C,g1,g2⟩
  by_cases e:lam=id
  ·subst e;exact ⟨lam,_,K,C,hs,g2⟩
  ·exact ⟨id,ob,K,C,by simpa [rnd,e] using g1,g2⟩
 have hMl:∀ b,a5v s E b→G1.lo≤b:=fun b hb=>by
  obtain ⟨id,ob,K,C,g1,g2⟩:=hb
  exact hE.lo_le g1 g2
 have hlo1:G1.lo≤(w.putObj l (.loop { L with state:=.busy })).heap.size:=by rw [hsz1];exact Nat.le_trans G1.hlo hE.grow
 let G2:Gh:={ w0:=w.putObj l (.loop { L with state:=.busy }),Of:=G1.Of,n:=n,M:=a5v s E,ow:=ow,lo:=G1.lo,hlo:=hlo1,hM:=hMl,hgl:=hE.glob.monoC (by rw [hsz1];exact Nat.le_refl _) (fun b hb _=>hb) (fun b _ _ hb=>hother b (hnl b hb)),nm:=nm2,E0:=E,rd:=some l,Zi:=G1.Zi,hZi:=G1.hZi }
 have hbase:∀ id,id ∈ nm2→∃ r,E id=some r:=fun id hid=>by
  rcases hnm2 id hid with g|g
  ·obtain ⟨r,_,g2⟩:=hE.base id g;exact ⟨r,g2⟩
  ·obtain ⟨ob,hob⟩:=Option.isSome_iff_exists.1 g
   obtain ⟨b,K,C,g1,_⟩:=hE.hp id ob hob
   exact ⟨_,g1⟩
 -- the loop's frame,as it is now
 have hframe:∀ i,R w (OT G1 s E) E (lkV fl i) (L.tmps.getD i undef):=fun i=>by
  obtain ⟨g1,g2⟩:=hfl i
  refine g2.nms hE.grow (fun b hb hlt hot=>?_) (fun b hb hlt hc=>hE.keep b hlt (hO1 b hb).2) (fun id hid r hr=>?_) 4 g1
  ·obtain ⟨q1,q2⟩:=hO1 b hb
   rcases hot with hot|⟨id,ob,K,C,k1,k2⟩
   ·exact q1 hot
   ·rcases (hE.fresh id ob b _ k1 k2).1 with k3|k3
    ·omega
    ·exact q2 k3
  ·obtain ⟨r',k1,k2⟩:=hE.base id hid
   rw [hr] at k1;cases k1;exact k2
 have hargsR:∀ (j:Nat) (u:V) (y:Value),(ops.map (ev s))[j]? = some u→(ops.map a.eval)[j]? = some y→R w (OT G1 s E) E u y:=fun j u y g1 g2=>by
  simp only [List.getElem?_map,Option.map_eq_some_iff] at g1 g2
  obtain ⟨z,h3,rfl⟩:=g1
  obtain ⟨z',h4,rfl⟩:=g2
  rw [h3] at h4;cases h4
  exact b6t hE z
 obtain ⟨z1,z2⟩:=d1x L.tmps ps (ops.map a.eval) (by simpa using has) (fun p hp=>by rw [hL.2.2.2.2.2];exact hps.2 p hp)
 have z2:=z2 (ops.map (ev s)) (R w (OT G1 s E) E) (lkV fl) has hps.1 hargsR hframe fl (fun _=>rfl)
 have hfold:(L.params.zip (ops.map a.eval).toArray).foldl (fun tmps (x:Nat×Value)=>tmps.setIfInBounds x.1 x.2) L.tmps=(ps.zip (ops.map a.eval)).foldl (fun tmps (x:Nat×Value)=>tmps.setIfInBounds x.1 x.2) L.tmps:=by
  rw [hL.2.2.1];simp [List.zip_toArray]
 have hO2:∀ b,¬ OT G1 s E b→¬ OT G2 (rnd (mvF mv (c2t ps (ops.map (ev s))++fl)) s lam L) E b:=fun b hb hb'=>hb (hb'.elim .inl fun h=>.inr (hliveS b h))
 have hcell:∀ b,¬ OT G1 s E b→b < w.heap.size→a4g w b→(w.putObj l (.loop { L with state:=.busy })).heap[b]? = w.heap[b]?:=fun b _ _ hc=>hother b (hnl b hc)
 have hE2:SimE G2 (rnd (mvF mv (c2t ps (ops.map (ev s))++fl)) s lam L) (mvA mv { tmps:=(L.params.zip (ops.map a.eval).toArray).foldl (fun tmps (x:Nat×Value)=>tmps.setIfInBounds x.1 x.2) L.tmps,defers:=[] }) (w.putObj l (.loop { L with state:=.busy })) E:=by
  refine ⟨fun i=>?_,by rw [(c0r _ _).2];exact DefOK.nil,by rw [(c0r _ _).1,hfold,z1];exact hL.2.2.2.2.2,fun id ob hob=>?_,hE.us,fun id id' ob ob' b y y' k1 k2 k3 k4=>?_,fun id ob b y k1 k2=>?_,fun b hb=>by rw [hsz1];exact hE.old b hb,Nat.le_refl _,rfl,rfl,rfl,fun _ _ _=>rfl,fun id hid=>?_,?_⟩
  ·refine g3z mv _ _ (fun p hp=>by rw [hfold,z1,hL.2.2.2.2.2];exact hmvn p hp) (fun i=>?_) i
   rw [hfold]
   exact (z2 i).monoC (by rw [hsz1];exact Nat.le_refl _) (fun b hb _=>hO2 b hb) hcell fun _ _ h=>h
  ·by_cases e:lam=id
   ·subst e
    simp [rnd] at hob
    subst hob
    exact ⟨_,_,_,hEl,l,rfl,World.putObj_heap_same hlt,rfl,rfl⟩
   ·have hob':s.hp id=some ob:=by simpa [rnd,e] using hob
    obtain ⟨b,K,C,k1,k2⟩:=hE.hp id ob hob'
    refine ⟨b,K,C,k1,k2.monoC (by rw [hsz1];exact Nat.le_refl _) (fun b hb _=>hO2 b hb) hcell (fun _ _ h=>h) fun b' hb'=>hother b' fun e'=>?_⟩
    subst hb';subst e'
    exact e (hE.inj lam id _ _ _ _ _ hs hob' hEl k1)
  ·have g:∀ id ob,(rnd (mvF mv (c2t ps (ops.map (ev s))++fl)) s lam L).hp id=some ob→∃ ob',s.hp id=some ob':=fun id ob hob=>by
    by_cases e:lam=id
    ·subst e;exact ⟨_,hs⟩
    ·exact ⟨ob,by simpa [rnd,e] using hob⟩
   obtain ⟨_,g1⟩:=g id ob k1
   obtain ⟨_,g2⟩:=g id' ob' k2
   exact hE.inj id id' _ _ b y y' g1 g2 k3 k4
  ·obtain ⟨yK,yC⟩:=y
   have hlv:=hliveS b ⟨id,ob,yK,yC,k1,k2⟩
   obtain ⟨id',ob',K,C,g1,g2⟩:=hlv
   obtain ⟨q1,q2,q3⟩:=hE.fresh id' ob' b _ g1 g2
   exact ⟨.inr ⟨id',ob',K,C,g1,g2⟩,q2,by rw [hsz1];exact q3⟩
  ·obtain ⟨r,hr⟩:=hbase id hid
   exact ⟨r,hr,hr⟩
  ·exact G1.hZi _ _ (by rw [hsz1];exact Nat.le_refl _) (fun b hb=>hother b fun e=>hnOf (e ▸ hb)) hE.zi
 have hbody:=h G2 rfl rfl rfl rfl rfl _ _ ⟨E,hE2⟩
 have hF2:G2.F=G1.F.inRound l:=by rw [hF];rfl
 rw [hF2] at hbody
 refine wpIn_mono hbody ?_
 rintro e a2 w3 ⟨s2,hq,E3,hE3⟩
 -- behind the round
 have hE3l:E3 lam=some (some l,0,0):=by
  obtain ⟨r,k1,k2⟩:=hE3.base lam (hnm lam hl1)
  have:E lam=some r:=k1
  rw [hEl] at this;cases this;exact k2
 have hE3e:∀ id,id ∈ nm2→∀ r,E id=some r→E3 id=some r:=fun id hid r hr=>by
  obtain ⟨r',k1,k2⟩:=hE3.base id hid
  have:E id=some r':=k1
  rw [hr] at this;cases this;exact k2
 have fin:∀ (jump:Option Code) (L':Loop),L'={ Lb L with state:=if jump.isNone then .ready else .done,pending:=jump }→s2.hget lam=some (.obj (.loop (Lb L)))→rest (bck nm2 s s2 o.dst jump.isNone lam L') →
   ∃ v w',(Instr.endRound l jump).run P w3=.ok v w'∧∃ s',rest s'∧Sim G1 s' (a.put o.dst v) w':=by
  intro jump L' hL' hlb hrest
  obtain ⟨_,hh3,hlt3⟩:=hE3.name_lt (b:=l) (id:=lam) hlb fun b' z hz=>by rw [hE3l] at hz;cases hz;rfl
  refine ⟨_,_,run_endRound jump hh3,_,hrest,E3,?_⟩
  have hw4:∀ k,k≠l→(w3.putObj l (.loop { Lb L with state:=if jump.isNone then .ready else .done,pending:=jump })).heap[k]? = w3.heap[k]?:=fun k hk=>World.putObj_heap_other hk
  have hsz4:(w3.putObj l (.loop { Lb L with state:=if jump.isNone then .ready else .done,pending:=jump })).heap.size=w3.heap.size:=World.putObj_size
  rw [← hL'] at hw4 hsz4 ⊢
  have hnl3:∀ b,a4g w3 b→b≠l:=by rintro b ⟨cs,t,f,hb⟩ rfl;rw [hh3] at hb;cases hb
  have hgrow3:w.heap.size≤w3.heap.size:=by have:=hE3.grow;rw [show G2.w0.heap.size=w.heap.size from hsz1] at this;exact this
  -- a5v blocks behind the round
  have hlv:∀ b,a5v (bck nm2 s s2 o.dst jump.isNone lam L') E3 b→a5v s2 E3 b:=by
   rintro b ⟨id,ob,K,C,g1,g2⟩
   by_cases e:lam=id
   ·subst e;exact ⟨lam,_,K,C,hlb,g2⟩
   ·refine ⟨id,ob,K,C,?_,g2⟩
    have:(bck nm2 s s2 o.dst jump.isNone lam L').hget id=some ob:=g1
    rw [a8l,if_neg e] at this;exact this
  have hfr3:∀ b,a5v s2 E3 b→(w.heap.size≤b∨a5v s E b)∧¬ G1.Of b∧b < w3.heap.size:=by
   rintro b ⟨id,ob,K,C,g1,g2⟩
   obtain ⟨q1,q2,q3⟩:=hE3.fresh id ob b _ g1 g2
   rw [show G2.w0.heap.size=w.heap.size from hsz1] at q1
   exact ⟨q1,q2,q3⟩
  have hO4:∀ b,¬ OT G1 s E b→b < w.heap.size→¬ OT G1 (bck nm2 s s2 o.dst jump.isNone lam L') E3 b:=by
   rintro b hb hlt' (g|g)
   ·exact hb (.inl g)
   ·rcases (hfr3 b (hlv b g)).1 with g|g
    ·omega
    ·exact hb (.inr g)
  have hO5:∀ b,¬ OT G2 s2 E3 b→¬ OT G1 (bck nm2 s s2 o.dst jump.isNone lam L') E3 b:=by
   rintro b hb (g|g)
   ·exact hb (.inl g)
   ·exact hb (.inr (hlv b g))
  have hkeep:∀ b,b < w.heap.size→¬ a5v s E b→(w3.putObj l (.loop L')).heap[b]? = w.heap[b]?:=fun b hlt' hnl'=>by
   have e1:b≠l:=fun e=>hnl' (e ▸ hlive_l)
   rw [hw4 b e1,hE3.keep b (by rw [show G2.w0.heap.size=w.heap.size from hsz1];exact hlt') hnl']
   exact hother b e1
  refine ⟨fun i=>?_,?_,?_,fun id ob hob=>?_,fun id hid=>?_,fun id id' ob ob' b y y' k1 k2 k3 k4=>?_,fun id ob b y k1 k2=>?_,fun b hb=>by rw [hsz4];exact hE3.old b hb,?_,?_,?_,?_,fun b k1 k2=>?_,fun id hid=>?_,?_⟩
  ·have hbase:∀ i,R (w3.putObj l (.loop L')) (OT G1 (bck nm2 s s2 o.dst jump.isNone lam L') E3) E3 (keepV nm2 (s.fr i)) (a.tmps.getD i undef):=fun i=>by
    refine (hE.fr i).keepV (by rw [hsz4];exact hgrow3) hO4 (fun b hb hlt' hc=>?_) hE3e
    exact hkeep b hlt' fun h=>hb (.inr h)
   cases hd:o.dst with
   |none=>rw [hd] at hbase;exact hbase i
   |some d =>
    rw [hd] at hc
    rw [b5c a d i _ (by rw [hE.size];exact hc)]
    show R _ _ _ (if d=i then _ else _) _
    rw [hd] at hbase
    split
    ·exact .r0 _ _ (.v _)
    ·exact hbase i
  ·have:(a.put o.dst (.bool jump.isNone)).defers=a.defers:=by cases o.dst<;>rfl
   rw [this]
   refine hE.defers.mono rfl fun b hb hlt' _=>⟨hkeep b hlt' hb,fun h=>?_⟩
   rcases (hfr3 b (hlv b h)).1 with g|g
   ·omega
   ·exact hb g
  ·have:(a.put o.dst (.bool jump.isNone)).tmps.size=a.tmps.size:=by cases o.dst<;>simp [Act.put]
   rw [this];exact hE.size
  ·have hob':(bck nm2 s s2 o.dst jump.isNone lam L').hget id=some ob:=hob
   rw [a8l] at hob'
   by_cases e:lam=id
   ·subst e
    rw [if_pos rfl] at hob'
    cases hob'
    exact ⟨_,_,_,hE3l,l,rfl,World.putObj_heap_same hlt3,rfl,rfl⟩
   ·rw [if_neg e] at hob'
    obtain ⟨b,K,C,k1,k2⟩:=hE3.hp id ob hob'
    refine ⟨b,K,C,k1,k2.monoC (by rw [hsz4];exact Nat.le_refl _) (fun b hb _=>hO5 b hb) (fun b _ _ hc=>hw4 b (hnl3 b hc)) (fun _ _ h=>h) fun b' hb'=>hw4 b' fun e'=>?_⟩
    subst hb';subst e'
    exact e (hE3.inj lam id _ _ _ _ _ hlb hob' hE3l k1)
  ·have:(bck nm2 s s2 o.dst jump.isNone lam L').used id=s2.used id:=c1p _ _ _ _ _ _ _ _
   exact this.trans (hE3.us id hid)
  ·have g:∀ id ob,(bck nm2 s s2 o.dst jump.isNone lam L').hp id=some ob→∃ ob',s2.hp id=some ob':=fun id ob hob=>by
    have hob':(bck nm2 s s2 o.dst jump.isNone lam L').hget id=some ob:=hob
    rw [a8l] at hob'
    by_cases e:lam=id
    ·subst e;exact ⟨_,hlb⟩
    ·rw [if_neg e] at hob';exact ⟨ob,hob'⟩
   obtain ⟨_,g1⟩:=g id ob k1
   obtain ⟨_,g2⟩:=g id' ob' k2
   exact hE3.inj id id' _ _ b y y' g1 g2 k3 k4
  ·obtain ⟨yK,yC⟩:=y
   obtain ⟨q1,q2,q3⟩:=hfr3 b (hlv b ⟨id,ob,yK,yC,k1,k2⟩)
   refine ⟨?_,q2,by rw [hsz4];exact q3⟩
   rcases q1 with q1|⟨id',ob',K,C,g1,g2⟩
   ·exact .inl (Nat.le_trans hE.grow q1)
   ·exact (hE.fresh id' ob' b _ g1 g2).1
  ·rw [hsz4];exact Nat.le_trans hE.grow hgrow3
  ·exact (hE3.os.trans rfl).trans hE.os
  ·exact (hE3.tape.trans rfl).trans hE.tape
  ·exact (hE3.output.trans rfl).trans hE.output
  ·rw [hkeep b (Nat.lt_of_lt_of_le k1 hE.grow) fun hl=>?_]
   ·exact hE.keep b k1 k2
   ·obtain ⟨id,ob,K,C,g1,g2⟩:=hl
    rcases (hE.fresh id ob b _ g1 g2).1 with q|q
    ·omega
    ·exact k2 q
  ·obtain ⟨r,g1,g2⟩:=hE.base id hid
   exact ⟨r,g1,hE3e id (hnm id hid) r g2⟩
  ·refine G1.hZi w3 _ (by rw [hsz4];exact Nat.le_refl _) (fun b hb=>hw4 b fun e=>hnOf (e ▸ hb)) hE3.zi
 cases e with
 |normal=>exact fin none (Lp L none) (by obtain ⟨h1,h2,_⟩:=hL;cases L;simp_all [Lp,Lb]) hq.1 hq.2
 |ret=>exact fin (some .ret) (Lp L (some .ret)) (by simp [Lp,Lb]) hq.1 hq.2
 |exit id=>exact fin (some (.exit id)) (Lp L (some (.exit id))) (by simp [Lp,Lb]) hq.1 hq.2
 |goto=>exact hq.elim
 |panic=>exact hq.elim
 |outgrown=>exact hq.elim
theorem c3e {nm nm':List Nat} (h:∀ id ∈ nm,id ∈ nm'):∀ (n:Nat) {x:V},a6u nm n x=true→a6u nm' n x=true:=by
 intro n
 induction n with
 |zero=>intro x h;cases h
 |succ n ih =>
  intro x hx
  cases x with
  |ptr id off=>have:=h id (by simpa [a6u] using hx);simpa [a6u] using this
  |eptr id i k sz=>have:=h id (by simpa [a6u] using hx);simpa [a6u] using this
  |own id off len sz=>have:=h id (by simpa [a6u] using hx);simpa [a6u] using this
  |mp id=>have:=h id (by simpa [a6u] using hx);simpa [a6u] using this
  |agg cs=>exact List.all_eq_true.2 fun u hu=>ih (List.all_eq_true.1 (show cs.all (a6u nm n)=true from hx) u hu)
  |tup cs=>exact List.all_eq_true.2 fun u hu=>ih (List.all_eq_true.1 (show cs.all (a6u nm n)=true from hx) u hu)
  |fn f cs=>exact List.all_eq_true.2 fun u hu=>ih (List.all_eq_true.1 (show cs.all (a6u nm n)=true from hx) u hu)
  |_=>rfl
theorem c1z {nm:List Nat}:∀ {fl:List (Nat×V)},fl.all (fun p=>a6u nm 4 p.2)=true→∀ i,a6u nm 4 (lkV fl i)=true:=by
 intro fl
 induction fl with
 |nil=>intro _ i;rfl
 |cons p r ih =>
  intro h i
  simp only [List.all_cons,Bool.and_eq_true] at h
  simp only [lkV]
  split
  ·exact h.1
  ·exact ih h.2 i
structure YI (P:Program) (G:Gh) (l lam:Nat) (L:Loop) (fl:List (Nat×V)) (ps:List Nat) (mv:List (Nat×Nat)) (asg body:Code) (n:Nat):Prop where
 rd:G.rd=none
 hL:L.state=.ready∧L.pending=none∧L.params=ps.toArray∧L.assign=asg∧L.body=body∧L.tmps.size=n
 hps:ps.Nodup∧∀ p ∈ ps,p < n
 hmv:mvC asg=some mv
 hmvn:∀ p ∈ mv,p.1 < n
 lam:lam ∈ G.nm∧G.E0 lam=some (some l,0,0)
 fr:∃ O1:Nat→Prop,(∀ b,¬ O1 b→¬ G.Of b∧¬ G.M b)∧∀ i,a6u G.nm 4 (lkV fl i)=true∧R G.w0 O1 G.E0 (lkV fl i) (L.tmps.getD i undef)
theorem YI.law {P:Program} {G:Gh} {l lam:Nat} {L:Loop} {fl:List (Nat×V)} {ps:List Nat} {mv:List (Nat×Nat)} {asg body:Code} {n:Nat} (h:YI P G l lam L fl ps mv asg body n) (ow:Nat→Bool):c1b P G l lam L fl ps mv body n ow:=by
 obtain ⟨O1,h1,h2⟩:=h.fr
 exact b6g h.rd h.hL h.hps h.hmv h.hmvn h.lam h1 h2
theorem b7g {P:Program} {G:Gh} {g:Operand} {ps:List Nat} {asg body:Code} (mv:List (Nat×Nat)) {fl:List (Nat×V)} {hl:List (Nat×OB)} {Q:Exit→St→Prop} (nm:List Nat) (lam:Nat) {k:FuncId} {cap:List V} {fn:Func} {ck:Code} {m:Nat} (ow:Nat→Bool)
  (hrd:G.rd=none) (hg:ev (St.of fl hl) g=.fn (.func k) cap) (hf:P.funcs[k]? = some fn) (hm:fn.ntmps=m) (hb:fn.body=some ck) (hname:(fn.name == "runtime.NumGoroutine")=false) (hres:fn.results=#[]) (hn:cap.length+1≤m)
  (hps:ps.Nodup∧∀ p ∈ ps,p < G.n) (hnm:nm.all (usH hl)=true) (hGn:∀ id ∈ G.nm,id ∈ nm) (hfl:fl.all (fun p=>a6u nm 4 p.2)=true) (hlam:usH hl lam=false) (hmv:mvC asg=some mv) (hmvn:∀ p ∈ mv,p.1 < G.n)
  (h:∀ (G1:Gh) (l:Nat) (L:Loop),G1.n=m→G1.ow=ow→G1.nm=lam::nm→G1.lo=G.lo→G1.rd=none→YI P G1 l lam L fl ps mv asg body G.n →
   vc P G1 ck (St.of (a3n 0 (.v (.func (.yield l) #[] #[])::cap)) ((lam,.obj (.loop (Lp L none)))::hl)) (b2f fl lam L Q)) :
  SemC P G (.rangeFunc g ps.toArray asg body) (St.of fl hl) Q:=by
 subst hm
 rintro a w ⟨E,hE⟩
 have hF:G.F=Fence.wide:=by unfold Gh.F;rw [hrd];cases G.nomk<;>rfl
 rw [hF]
 refine wpIn_rangeFunc fun fid _=>?_
 obtain ⟨ys,hy,hsz,hrr⟩:=R.fn_inv (a1t hE hg)
 let L:Loop:={ state:=.ready,pending:=none,fn:=fid,tmps:=a.tmps,params:=ps.toArray,assign:=asg,body:=body,defers:=w.heap.size }
 let w1:World:=(w.alloc (.deferred (some []))).alloc (.loop L)
 have hb':fn.body≠none:=by rw [hb];simp
 have hname':fn.name≠"runtime.NumGoroutine":=by simpa using hname
 refine ⟨w.heap.size+1,[mark w.heap.size],w1,{ target:=.fn (.func k) ys,args:=#[.func (.yield (w.heap.size+1)) #[] #[]] },w1,k,#[.func (.yield (w.heap.size+1)) #[] #[]]++ys,w1,run_enterLoop_outer fid a.tmps ps.toArray asg body,?_,fun _ _=>trivial,?_,(fun h=>by cases h),?_⟩
 ·simp [resolve,rangeCall,Deferred.ofValue,hy]
  rfl
 ·simp [invoke,callFunc,hf,hb',hname']
 -- the world with the record
 have s1:w1.heap.size=w.heap.size+2:=by simp [w1]
 have hl1:w1.heap[w.heap.size+1]? = some (.loop L):=by
  have:=World.alloc_heap_new (w.alloc (.deferred (some []))) (.loop L)
  simpa [w1] using this
 have hd1:w1.heap[w.heap.size]? = some (.deferred (some [])):=by
  have e:w1.heap[w.heap.size]? = (w.alloc (.deferred (some []))).heap[w.heap.size]?:=a5w _ _ _ (by simp)
  rw [e];exact World.alloc_heap_new _ _
 have hold:∀ b,b < w.heap.size→w1.heap[b]? = w.heap[b]?:=fun b hb=>(a5w _ _ b (by simp;omega)).trans (a5w _ _ b hb)
 have hElam:E lam=none:=by
  cases he:E lam with
  |none=>rfl
  |some r=>have:=hE.us lam (by rw [he];simp);rw [show (St.of fl hl).us lam=usH hl lam from rfl,hlam] at this;cases this
 let E1:Env:=fun id=>if id=lam then some (some (w.heap.size+1),0,0) else E id
 have hE1l:E1 lam=some (some (w.heap.size+1),0,0):=if_pos rfl
 have hE1e:∀ id r,E id=some r→E1 id=some r:=fun id r hi=>by
  show (if id=lam then _ else E id)=_
  rw [if_neg (by rintro rfl;rw [hElam] at hi;cases hi)]
  exact hi
 have hE1b:∀ id r,id≠lam→E1 id=some r→E id=some r:=fun id r hne hi=>by
  have:(if id=lam then some (some (w.heap.size+1),0,0) else E id)=some r:=hi
  rw [if_neg hne] at this;exact this
 have hliveLo:∀ b,a5v (St.of fl hl) E b∨b=w.heap.size+1→G.lo≤b:=by
  rintro b (⟨id,ob,K,C,g1,g2⟩|rfl)
  ·exact hE.lo_le g1 g2
  ·have:=hE.grow;have:=G.hlo;omega
 have hlo1:G.lo≤w1.heap.size:=by have:=hE.grow;have:=G.hlo;omega
 have hglb:GlobOK w1 (fun b=>G.Of b∨a5v (St.of fl hl) E b∨b=w.heap.size+1):=hE.glob.monoC (by omega) (fun b hb hlt hb'=>by
  rcases hb' with g|g|g
  ·exact hb (.inl g)
  ·exact hb (.inr g)
  ·omega) (fun b _ hlt _=>hold b hlt)
 let G1:Gh:={ w0:=w1,Of:=G.Of,n:=fn.ntmps,M:=fun b=>a5v (St.of fl hl) E b∨b=w.heap.size+1,ow:=ow,lo:=G.lo,hlo:=hlo1,hM:=hliveLo,hgl:=hglb,nm:=lam::nm,E0:=E1,rd:=none,Zi:=G.Zi,hZi:=G.hZi }
 let s1':St:=St.of (a3n 0 (.v (.func (.yield (w.heap.size+1)) #[] #[])::cap)) ((lam,.obj (.loop (Lp L none)))::hl)
 have hhp:∀ id ob,s1'.hp id=some ob→(id=lam∧ob=.obj (.loop L))∨(id≠lam∧lkH hl id=some ob):=fun id ob hob=>by
  have hob':(if lam=id then some (OB.obj (.loop (Lp L none))) else lkH hl id)=some ob:=hob
  by_cases e:lam=id
  ·rw [if_pos e] at hob';cases hob';exact .inl ⟨e.symm,rfl⟩
  ·rw [if_neg e] at hob';exact .inr ⟨Ne.symm e,hob'⟩
 have hlv1:∀ b,a5v s1' E1 b→a5v (St.of fl hl) E b∨b=w.heap.size+1:=by
  rintro b ⟨id,ob,K,C,g1,g2⟩
  rcases hhp id ob g1 with ⟨rfl,rfl⟩|⟨hne,h2⟩
  ·rw [hE1l] at g2;cases g2;exact .inr rfl
  ·exact .inl ⟨id,ob,K,C,h2,hE1b id _ hne g2⟩
 have hO1:∀ b,¬ OT G (St.of fl hl) E b→b < w.heap.size→¬ OT G1 s1' E1 b:=by
  rintro b hb hlt (g|g)
  ·exact hb (.inl g)
  ·rcases hlv1 b g with g|g
   ·exact hb (.inr g)
   ·omega
 have hltOf:∀ b,G.Of b→b < w.heap.size:=hE.old
 have hnmhl:∀ id ∈ nm,∃ ob,lkH hl id=some ob:=fun id hid=>usH_lk.1 (List.all_eq_true.1 hnm id hid)
 have hsza:(#[Value.func (.yield (w.heap.size+1)) #[] #[]]++ys).size=cap.length+1:=by simp [hsz];omega
 have hE1s:SimE G1 s1' { tmps:=#[Value.func (.yield (w.heap.size+1)) #[] #[]]++ys++Array.replicate (fn.ntmps - (#[Value.func (.yield (w.heap.size+1)) #[] #[]]++ys).size) undef,defers:=[] } w1 E1:=by
  refine ⟨fun i=>?_,DefOK.nil,by rw [Array.size_append,Array.size_replicate,hsza];show _=fn.ntmps;omega,fun id ob hob=>?_,fun id hid=>?_,fun id id' ob ob' b y y' k1 k2 k3 k4=>?_,fun id ob b y k1 k2=>?_,fun b hb=>by rw [s1];have:=hltOf b hb;omega,Nat.le_refl _,rfl,rfl,rfl,fun _ _ _=>rfl,fun id hid=>?_,?_⟩
  ·show R _ _ _ (lkV (a3n 0 (.v (.func (.yield (w.heap.size+1)) #[] #[])::cap)) i) _
   rw [b1t,b2k]
   simp only [Nat.zero_le,if_true,Nat.sub_zero]
   cases i with
   |zero =>
    have e0:(#[Value.func (.yield (w.heap.size+1)) #[] #[]]++ys).getD 0 undef=.func (.yield (w.heap.size+1)) #[] #[]:=by
     rw [Array.getD_eq_getD_getElem?,Array.getElem?_append_left (by simp)];rfl
    rw [e0]
    exact .r0 _ _ (.v _)
   |succ i =>
    simp only [List.getElem?_cons_succ]
    cases hc:cap[i]? with
    |none=>exact .r0 _ _ (.any _)
    |some u =>
     have hlt:i < ys.size:=by rw [hsz];exact (List.getElem?_eq_some_iff.1 hc).1
     have hy':(#[Value.func (.yield (w.heap.size+1)) #[] #[]]++ys).getD (i+1) undef=ys[i]:=by
      rw [Array.getD_eq_getD_getElem?,Array.getElem?_append_right (by simp)]
      simp [hlt]
     rw [hy']
     exact (hrr i u ys[i] hc (by simp [hlt])).mono (by rw [s1];omega) hO1 (fun b _ hb=>hold b hb) hE1e
  ·rcases hhp id ob hob with ⟨rfl,rfl⟩|⟨hne,h2⟩
   ·exact ⟨_,_,_,hE1l,w.heap.size+1,rfl,hl1,rfl,rfl⟩
   ·obtain ⟨b,K,C,g1,g2⟩:=hE.hp id ob h2
    refine ⟨b,K,C,hE1e _ _ g1,g2.mono (by rw [s1];omega) hO1 (fun b _ hb=>hold b hb) hE1e fun b' hb'=>hold b' ?_⟩
    subst hb'
    exact (hE.fresh id ob b' _ h2 g1).2.2
  ·show ((lam == id) || usH hl id)=true
   by_cases e:id=lam
   ·simp [e]
   ·obtain ⟨r,hr⟩:=Option.ne_none_iff_exists'.1 hid
    have:=hE.us id (by rw [hE1b id r e hr];simp)
    rw [show (St.of fl hl).us id=usH hl id from rfl] at this
    simp [this]
  ·obtain ⟨yK,yC⟩:=y
   obtain ⟨yK',yC'⟩:=y'
   rcases hhp id ob k1 with ⟨rfl,rfl⟩|⟨hne,h2⟩<;>rcases hhp id' ob' k2 with ⟨rfl,rfl⟩|⟨hne',h2'⟩
   ·rfl
   ·rw [hE1l] at k3;cases k3
    have:=(hE.fresh id' ob' _ _ h2' (hE1b _ _ hne' k4)).2.2;omega
   ·rw [hE1l] at k4;cases k4
    have:=(hE.fresh id ob _ _ h2 (hE1b _ _ hne k3)).2.2;omega
   ·exact hE.inj id id' ob ob' b _ _ h2 h2' (hE1b _ _ hne k3) (hE1b _ _ hne' k4)
  ·rcases hhp id ob k1 with ⟨rfl,rfl⟩|⟨hne,h2⟩
   ·rw [hE1l] at k2;cases k2
    exact ⟨.inr (.inr rfl),fun hof=>by have:=hltOf _ hof;omega,by rw [s1];omega⟩
   ·obtain ⟨q1,q2,q3⟩:=hE.fresh id ob b y h2 (hE1b _ _ hne k2)
    obtain ⟨yK,yC⟩:=y
    exact ⟨.inr (.inl ⟨id,ob,yK,yC,h2,hE1b _ _ hne k2⟩),q2,by rw [s1];omega⟩
  ·rcases List.mem_cons.1 hid with rfl|hid
   ·exact ⟨_,hE1l,hE1l⟩
   ·obtain ⟨ob,hob⟩:=hnmhl id hid
    obtain ⟨b,K,C,g1,_⟩:=hE.hp id ob hob
    exact ⟨_,hE1e _ _ g1,hE1e _ _ g1⟩
  ·exact G.hZi w w1 (by rw [s1];omega) (fun b hb=>hold b (hltOf b hb)) hE.zi
 have hY:YI P G1 (w.heap.size+1) lam L fl ps mv asg body G.n:=by
  refine ⟨rfl,⟨rfl,rfl,rfl,rfl,rfl,hE.size⟩,hps,hmv,hmvn,⟨by simp [G1],hE1l⟩,fun b=>OT G (St.of fl hl) E b∨w.heap.size≤b,fun b hb=>⟨fun g=>hb (.inl (.inl g)),?_⟩,fun i=>⟨c3e (fun id h=>List.mem_cons_of_mem _ h) 4 (c1z hfl i),?_⟩⟩
  ·rintro (g|g)
   ·exact hb (.inl (.inr g))
   ·exact hb (.inr (by omega))
  ·exact (hE.fr i).mono (by show _≤w1.heap.size;rw [s1];omega) (fun b hb hlt h=>by rcases h with h|h;exact hb h;omega) (fun b _ hb=>hold b hb) hE1e
 have hF1:G1.F=Fence.wide:=rfl
 have hwalk:=a0d ck _ _ (h G1 (w.heap.size+1) L rfl rfl rfl rfl rfl hY) _ w1 ⟨E1,hE1s⟩
 rw [hF1] at hwalk
 refine callsIn_of_wp_marks (F:=Fence.wide) (n:=0) hf hb trivial (wpIn_mono hwalk ?_)
 rintro e a2 w2 ⟨s2,hq,E2,hE2⟩
 -- behind the function
 have fin:b2f fl lam L Q .ret s2→LeavesInM Fence.wide 0 P fn a2.tmps (rangePost Fence.wide 0 P (w.heap.size+1) (b7z G Q) { tmps:=a.tmps,defers:=[mark w.heap.size]++a.defers }) a2.defers .returning w2:=by
  rintro ⟨st,hst,hQ⟩
  refine b0l (by simp) hE2 (fun b hb=>by have:=hltOf b hb;show b < w1.heap.size;rw [s1];omega) fun w3 hE3=>?_
  refine ⟨.tuple #[],by simp [results,hres],?_⟩
  have hE2l:E2 lam=some (some (w.heap.size+1),0,0):=by
   obtain ⟨r,k1,k2⟩:=hE3.base lam (by simp [G1])
   have:E1 lam=some r:=k1
   rw [hE1l] at this;cases this;exact k2
  obtain ⟨_,hh3,hlt3⟩:=hE3.name_lt (b:=w.heap.size+1) (id:=lam) hst fun b' z hz=>by rw [hE2l] at hz;cases hz;rfl
  have hstate:(Lp L st).state≠.busy:=by cases st<;>simp [Lp,L]
  have hend:∃ w4,w4=w3.putObj (w.heap.size+1) (.loop { Lp L st with state:=.exhausted }):=⟨_,rfl⟩
  obtain ⟨w4,hw4⟩:=hend
  have hw4:=hw4.symm
  refine ⟨(Lp L st).pending,w4,hw4 ▸ run_endLoop hh3 hstate,?_⟩
  have hpend:(Lp L st).pending=st:=by cases st<;>simp [Lp,L]
  rw [hpend]
  have h4:∀ k,k≠w.heap.size+1→w4.heap[k]? = w3.heap[k]?:=fun k hk=>by rw [← hw4];exact World.putObj_heap_other hk
  have sz4:w4.heap.size=w3.heap.size:=by rw [← hw4];exact World.putObj_size
  have hg3:w.heap.size+2≤w3.heap.size:=by have:=hE3.grow;rw [show G1.w0.heap.size=w.heap.size+2 from s1] at this;exact this
  have hfr3:∀ b,a5v s2 E2 b→(w.heap.size+2≤b∨a5v (St.of fl hl) E b∨b=w.heap.size+1)∧¬ G.Of b∧b < w3.heap.size:=by
   rintro b ⟨id,ob,K,C,g1,g2⟩
   obtain ⟨q1,q2,q3⟩:=hE3.fresh id ob b _ g1 g2
   rw [show G1.w0.heap.size=w.heap.size+2 from s1] at q1
   exact ⟨q1,q2,q3⟩
  have hlvA:∀ b,a5v (aft fl s2 lam) E2 b→a5v s2 E2 b∧b≠w.heap.size+1:=by
   rintro b ⟨id,ob,K,C,g1,g2⟩
   have g1':(if lam=id then none else s2.hp id)=some ob:=g1
   by_cases e:lam=id
   ·rw [if_pos e] at g1';cases g1'
   ·rw [if_neg e] at g1'
    refine ⟨⟨id,ob,K,C,g1',g2⟩,?_⟩
    rintro rfl
    exact e (hE3.inj lam id _ _ _ _ _ hst g1' hE2l g2)
  have hkeep:∀ b,b < w.heap.size→¬ a5v (St.of fl hl) E b→w4.heap[b]? = w.heap[b]?:=fun b hlt hnl=>by
   rw [h4 b (by omega),hE3.keep b (by show b < w1.heap.size;rw [s1];omega) (by rintro (g|g);exact hnl g;omega)]
   exact hold b hlt
  have hOA:∀ b,¬ OT G (St.of fl hl) E b→b < w.heap.size→¬ OT G (aft fl s2 lam) E2 b:=by
   rintro b hb hlt (g|g)
   ·exact hb (.inl g)
   ·rcases (hfr3 b (hlvA b g).1).1 with g|g|g
    ·omega
    ·exact hb (.inr g)
    ·omega
  have hOB:∀ b,¬ OT G1 s2 E2 b→¬ OT G (aft fl s2 lam) E2 b:=by
   rintro b hb (g|g)
   ·exact hb (.inl g)
   ·exact hb (.inr (hlvA b g).1)
  have hnl3:∀ b,a4g w3 b→b≠w.heap.size+1:=by rintro b ⟨cs,t,f,hb⟩ rfl;rw [hh3] at hb;cases hb
  have hbase:∀ id,id ∈ nm→∀ r,E id=some r→E2 id=some r:=fun id hid r hr=>by
   obtain ⟨r',k1,k2⟩:=hE3.base id (by simp [G1,hid])
   have:E1 id=some r':=k1
   rw [hE1e _ _ hr] at this;cases this;exact k2
  have hA:SimE G (aft fl s2 lam) { tmps:=a.tmps,defers:=[mark w.heap.size]++a.defers } w4 E2:=by
   refine ⟨fun i=>?_,?_,hE.size,fun id ob hob=>?_,hE3.us,fun id id' ob ob' b y y' k1 k2 k3 k4=>?_,fun id ob b y k1 k2=>?_,fun b hb=>by have:=hltOf b hb;rw [sz4];omega,by have:=hE.grow;rw [sz4];omega,?_,?_,?_,fun b k1 k2=>?_,fun id hid=>?_,?_⟩
   ·exact (hE.fr i).nms (by rw [sz4];omega) hOA (fun b hb hlt _=>hkeep b hlt fun g=>hb (.inr g)) hbase 4 (c1z hfl i)
   ·obtain ⟨rs,e1,e2,e3⟩:=hE.defers
    refine ⟨w.heap.size::rs,by rw [e1];rfl,List.nodup_cons.2 ⟨fun hm=>?_,e2⟩,fun r hr=>?_⟩
    ·have:=(e3 _ hm).1
     rw [show w.heap[w.heap.size]? = none by simp] at this;cases this
    ·have hnlr:¬ a5v (aft fl s2 lam) E2 r:=by
      intro g
      rcases (hfr3 r (hlvA r g).1).1 with g'|g'|g'
      ·rcases List.mem_cons.1 hr with rfl|hr
       ·omega
       ·have:=(e3 r hr).1
        have:r < w.heap.size:=(Array.getElem?_eq_some_iff.1 this).1
        omega
      ·rcases List.mem_cons.1 hr with rfl|hr
       ·obtain ⟨id,ob,K,C,q1,q2⟩:=g'
        have:=(hE.fresh id ob _ _ q1 q2).2.2;omega
       ·exact (e3 r hr).2.2.1 g'
      ·rcases List.mem_cons.1 hr with rfl|hr
       ·omega
       ·have:=(Array.getElem?_eq_some_iff.1 (e3 r hr).1).1;omega
     rcases List.mem_cons.1 hr with rfl|hr
     ·refine ⟨?_,hE.grow,hnlr,by cases h:G.nomk with|false=>rfl|true=>exact absurd hrd (G.hnk h)⟩
      rw [h4 _ (by omega),hE3.keep _ (by show _ < w1.heap.size;rw [s1];omega) (by
       rintro (g|g)
       ·obtain ⟨id,ob,K,C,q1,q2⟩:=g
        have:=(hE.fresh id ob _ _ q1 q2).2.2;omega
       ·omega)]
      exact hd1
     ·obtain ⟨q1,q2,q3,q4⟩:=e3 r hr
      have hlt:r < w.heap.size:=(Array.getElem?_eq_some_iff.1 q1).1
      exact ⟨(hkeep r hlt q3).trans q1,q2,hnlr,q4⟩
   ·have hob':(if lam=id then none else s2.hp id)=some ob:=hob
    by_cases e:lam=id
    ·rw [if_pos e] at hob';cases hob'
    ·rw [if_neg e] at hob'
     obtain ⟨b,K,C,k1,k2⟩:=hE3.hp id ob hob'
     refine ⟨b,K,C,k1,k2.monoC (by rw [sz4];exact Nat.le_refl _) (fun b hb _=>hOB b hb) (fun b _ _ hc=>h4 b (hnl3 b hc)) (fun _ _ h=>h) fun b' hb'=>h4 b' fun e'=>?_⟩
     subst hb';subst e'
     exact e (hE3.inj lam id _ _ _ _ _ hst hob' hE2l k1)
   ·have g:∀ id ob,(aft fl s2 lam).hp id=some ob→s2.hp id=some ob:=fun id ob hob=>by
     have hob':(if lam=id then none else s2.hp id)=some ob:=hob
     by_cases e:lam=id
     ·rw [if_pos e] at hob';cases hob'
     ·rw [if_neg e] at hob';exact hob'
    exact hE3.inj id id' _ _ b y y' (g _ _ k1) (g _ _ k2) k3 k4
   ·obtain ⟨yK,yC⟩:=y
    obtain ⟨q0,q0'⟩:=hlvA b ⟨id,ob,yK,yC,k1,k2⟩
    obtain ⟨q1,q2,q3⟩:=hfr3 b q0
    refine ⟨?_,q2,by rw [sz4];exact q3⟩
    rcases q1 with q1|⟨id',ob',K,C,g1,g2⟩|q1
    ·exact .inl (by have:=hE.grow;omega)
    ·exact (hE.fresh id' ob' b _ g1 g2).1
    ·exact (q0' q1).elim
   ·rw [← hw4];exact hE3.os.trans hE.os
   ·rw [← hw4];exact hE3.tape.trans hE.tape
   ·rw [← hw4];exact hE3.output.trans hE.output
   ·rw [hkeep b (Nat.lt_of_lt_of_le k1 hE.grow) fun g=>?_]
    ·exact hE.keep b k1 k2
    ·obtain ⟨id,ob,K,C,g1,g2⟩:=g
     rcases (hE.fresh id ob b _ g1 g2).1 with q|q
     ·omega
     ·exact k2 q
   ·obtain ⟨r,g1,g2⟩:=hE.base id hid
    exact ⟨r,g1,hbase id (hGn id hid) r g2⟩
   ·exact G.hZi w3 w4 (by rw [sz4];exact Nat.le_refl _) (fun b hb=>h4 b fun e=>by have:=hltOf b hb;omega) hE3.zi
  cases st with
  |none=>exact ⟨_,hQ,E2,hA⟩
  |some c =>
   cases c with
   |ret=>exact wpIn_ret ⟨_,hQ,E2,hA⟩
   |exit id=>exact wpIn_exit ⟨_,hQ,E2,hA⟩
   |_=>exact hQ.elim
 cases e with
 |normal=>exact fin hq
 |ret=>exact fin hq
 |exit=>exact hq.elim
 |goto=>exact hq.elim
 |panic=>exact hq.elim
 |outgrown=>exact hq.elim
def g0h (G:Gh) {α:Type} (F:α→St) (I:α→Prop) (Q:Exit→St→Prop):Exit→St→Prop
 |.normal,s=>∃ x,I x∧Ent G s (F x)
 |e,s=>Q e s
theorem g1r {G:Gh} {α:Type} {F:α→St} {I:α→Prop} {Q:Exit→St→Prop} (s:St):g0h G F I Q .normal s=∃ x,I x∧Ent G s (F x):=rfl
theorem g0g {G:Gh} {α:Type} {F:α→St} {I:α→Prop} {Q:Exit→St→Prop} (s:St):g0h G F I Q .ret s=Q .ret s:=rfl
theorem g1w {G:Gh} {α:Type} {F:α→St} {I:α→Prop} {Q:Exit→St→Prop} (i:Nat) (s:St):g0h G F I Q (.exit i) s=Q (.exit i) s:=rfl
attribute [go_sem] g1r g0g g1w
theorem a2h {P:Program} {G:Gh} {c:Code} {s:St} {Q:Exit→St→Prop} {i:Nat} {α:Type} (F:α→St) (I:α→Prop) (h1:SemC P G c s (d2b G i F I Q)) (h2:∀ x,I x→Q .normal (F x)) :
  SemC P G c s (c7b i Q):=by
 intro a w hs
 refine wpIn_mono (h1 a w hs) ?_
 rintro e a' w' ⟨s',hq,hs'⟩
 have fin:(∃ x,I x∧Ent G s' (F x))→b7z G Q .normal a' w':=fun ⟨x,hI,he⟩=>⟨F x,h2 x hI,he _ _ hs'⟩
 cases e with
 |normal =>
  obtain ⟨s2,h3,h4⟩:=fin hq
  exact ⟨s2,h3,h4⟩
 |exit j =>
  simp only [d2b] at hq
  split at hq
  ·rename_i hj
   obtain ⟨s2,h3,h4⟩:=fin hq
   exact ⟨s2,by simp only [c7b];rw [if_pos hj];exact h3,h4⟩
  ·rename_i hj
   exact ⟨s',by simp only [c7b];rw [if_neg hj];exact hq,hs'⟩
 |ret=>exact ⟨s',hq,hs'⟩
 |goto=>exact ⟨s',hq,hs'⟩
 |panic=>exact ⟨s',hq,hs'⟩
 |outgrown=>exact ⟨s',hq,hs'⟩
def a5j (a b:Option Code):Option Code:=match a with
 |some c=>some c
 |none=>b
def rgO (i:Nat):Code→Option Code
 |.region j ops d=>if j=i then some (.region j ops d) else none
 |.seq a b=>a5j (rgO i a) (rgO i b)
 |.cond _ a b=>a5j (rgO i a) (rgO i b)
 |.block _ c=>rgO i c
 |.loop c=>rgO i c
 |.scope c=>rgO i c
 |.rangeFunc _ _ a b=>a5j (rgO i a) (rgO i b)
 |_=>none
def bkO (i:Nat):Code→Option Code
 |.seq a b=>a5j (bkO i a) (bkO i b)
 |.cond _ a b=>a5j (bkO i a) (bkO i b)
 |.block j c=>if j=i then some c else bkO i c
 |.loop c=>bkO i c
 |.scope c=>bkO i c
 |.rangeFunc _ _ a b=>a5j (bkO i a) (bkO i b)
 |_=>none
def d6i (i:Nat) (c:Option Code):Code:=((c.bind (rgO i)).getD .skip)
def b4c (i:Nat) (c:Option Code):Code:=((c.bind (bkO i)).getD .skip)
theorem a6l {P:Program} {G:Gh} {c c':Code} {s:St} {Q:Exit→St→Prop} (e:c'=c) (h:SemC P G c' s Q):SemC P G c s Q:=e ▸ h
attribute [go_sem] f7t e6r f1b f8t f0q a8l c1p f7y e8b f1c f3w e4m e2q f0z e2c d8p e6w e2v e4f f0d a6u c2t mvF RQ
theorem b8f {P:Program} {G:Gh} {g:Operand} {ps:List Nat} {asg body:Code} (mv:List (Nat×Nat)) {fl:List (Nat×V)} {hl:List (Nat×OB)} {Q:Exit→St→Prop} (nm:List Nat) (lam:Nat) {k:FuncId} {cap:List V} {fn:Func} {ck:Code} {m:Nat} (ow:Nat→Bool)
  (hrd:G.rd=none) (hg:ev (St.of fl hl) g=.fn (.func k) cap) (hf:P.funcs[k]? = some fn) (hm:fn.ntmps=m) (hb:fn.body=some ck) (hname:(fn.name == "runtime.NumGoroutine")=false) (hres:fn.results=#[]) (hn:cap.length+1≤m)
  (hps:ps.Nodup∧∀ p ∈ ps,p < G.n) (hnm:nm.all (usH hl)=true) (hGn:∀ id ∈ G.nm,id ∈ nm) (hfl:fl.all (fun p=>a6u nm 4 p.2)=true) (hlam:usH hl lam=false) (hmv:mvC asg=some mv) (hmvn:∀ p ∈ mv,p.1 < G.n)
  (h:∀ (G1:Gh) (l:Nat) (L:Loop),G1.n=m→G1.ow=ow→G1.nm=lam::nm→G1.lo=G.lo→G1.rd=none→c1b P G1 l lam L fl ps mv body G.n G.ow →
   vc P G1 ck (St.of (a3n 0 (.v (.func (.yield l) #[] #[])::cap)) ((lam,.obj (.loop (Lp L none)))::hl)) (b2f fl lam L Q)) :
  SemC P G (.rangeFunc g ps.toArray asg body) (St.of fl hl) Q:=b7g mv nm lam ow hrd hg hf hm hb hname hres hn hps hnm hGn hfl hlam hmv hmvn fun G1 l L k1 k2 k3 k4 k5 hY=>h G1 l L k1 k2 k3 k4 k5 (hY.law _)
end Pm
open Go Pm
def lnE (lo:Nat) (r:List ByteArray):List V:=[a0q lo r]
def lns (lo:Nat) (l:List (List ByteArray)):V:=.lst lo 1 (l.map (lnE lo))
structure Ch where
 id:Int
 lines:List (List ByteArray)
def chE (lo:Nat) (c:Ch):List V:=[i64 c.id,lns lo c.lines]
def chs (lo:Nat) (t:List Ch):V:=.lst lo 2 (t.map (chE lo))
def txE (lo:Nat) (t:List Ch):V:=.agg [chs lo t]
structure Hp where
 id:Int
 post:Int
 rate:Int
def hpE (h:Hp):List V:=[i64 h.id,i64 h.post,i64 h.rate]
structure Sr where
 fr:Int
 to:Int
 helper:Int
 sent:Int
structure Se where
 back:Bool
 lines:List (List ByteArray)
structure Ro where
 text:List Ch
 helpers:List Hp
 shares:List Sr
 sheets:List Se
def hps (lo:Nat) (l:List Hp):V:=.lst lo 3 (l.map hpE)
attribute [go_sem] lnE lns chE chs txE hpE hps
theorem d0d (n:Nat) (l:List (List ByteArray)):a3b (l.map (lnE n))=true:=a2l (fun _=>rfl) l
theorem c9e (n:Nat) (l:List Ch):a3b (l.map (chE n))=true:=a2l (fun _=>rfl) l
theorem c8v (l:List Hp):a3b (l.map hpE)=true:=a2l (fun _=>rfl) l
attribute [go_sem] d0d c9e c8v
theorem g2k {lo:Nat} {l:List (List ByteArray)} (h:Bd (lns lo l)):l.length≤140737488355328∧∀ r ∈ l,r.length≤140737488355328:=by
 cases h with
 |lst _ _ _ h1 h2 =>
  refine ⟨by simpa using h1,fun r hr=>?_⟩
  have:=h2 (lnE lo r) (List.mem_map_of_mem hr) (a0q lo r) (by simp [lnE])
  cases this with
  |lst _ _ _ h3 _=>simpa using h3
theorem f3a {lo:Nat} {t:List Ch} (h:Bd (chs lo t)):t.length≤140737488355328∧∀ c ∈ t,c.lines.length≤140737488355328∧∀ r ∈ c.lines,r.length≤140737488355328:=by
 cases h with
 |lst _ _ _ h1 h2=>exact ⟨by simpa using h1,fun c hc=>g2k (h2 (chE lo c) (List.mem_map_of_mem hc) (lns lo c.lines) (by simp [chE]))⟩
theorem f3f {cs:List V} (h:Bd (.agg cs)):∀ x ∈ cs,Bd x:=by
 cases h with
 |agg _ h=>exact h
structure BdRo (r:Ro):Prop where
 t:r.text.length≤140737488355328∧∀ c ∈ r.text,c.lines.length≤140737488355328∧∀ r ∈ c.lines,r.length≤140737488355328
 h:r.helpers.length≤140737488355328
 s:r.shares.length≤140737488355328
 x:r.sheets.length≤140737488355328∧∀ c ∈ r.sheets,c.lines.length≤140737488355328∧∀ r ∈ c.lines,r.length≤140737488355328
def a2i {α:Type} (f:List α→α→Bool):List α→List α→Bool
 |_,[]=>true
 |pre,x::r=>f pre x && a2i f (pre++[x]) r
theorem b8u {α:Type} (f:List α→α→Bool):∀ (l m pre:List α),a2i f pre (l++m)=(a2i f pre l && a2i f (pre++l) m):=by
 intro l
 induction l with
 |nil=>intro m pre;simp [a2i]
 |cons x r ih=>intro m pre;simp [a2i,ih,Bool.and_assoc]
theorem a6m {α:Type} (f:List α→α→Bool) (l:List α) (k:Nat) (hk:k < l.length):a2i f [] (l.take (k+1))=(a2i f [] (l.take k) && f (l.take k) l[k]):=by
 rw [List.take_add_one,List.getElem?_eq_getElem hk,b8u];simp [a2i]
theorem a7s {α:Type} {f:List α→α→Bool} {l:List α} {k:Nat} (hk:k < l.length) (h:f (l.take k) l[k]=false):a2i f [] l=false:=by
 have:=b8u f (l.take (k+1)) (l.drop (k+1)) []
 rw [List.take_append_drop,a6m f l k hk,h] at this
 simpa using this
def inB (n lo hi:Int):Bool:=decide (lo≤n) && decide (n≤hi)
def a1i (b:UInt8):Bool:=!(decide ((b.toNat:Int) < 97) || decide (122 < (b.toNat:Int)))
def a1f (s:ByteArray):Bool:=s.data.toList.all a1i && inB s.size 1 12
def b0y (l:List ByteArray):Bool:=inB l.length 1 10 && l.all a1f
def a9z (pre:List Ch) (c:Ch):Bool:=inB c.id 0 9999 && inB c.lines.length 1 10 && !(pre.any fun d=>decide (d.id=c.id)) && c.lines.all b0y
def a1s (t:List Ch):Bool:=inB t.length 1 6 && a2i a9z [] t
def OKl (l:List (List ByteArray)):Prop:=l.length≤40∧∀ r ∈ l,r.length≤15∧∀ s ∈ r,s.size≤40
def OKt (t:List Ch):Prop:=t.length≤10∧∀ c ∈ t,OKl c.lines
structure OKr (r:Ro):Prop where
 t:OKt r.text
 h:r.helpers.length≤8
 s:r.shares.length≤12
 x:r.sheets.length≤12∧∀ x ∈ r.sheets,OKl x.lines
end Go.Proofs.YtmjhfccbbfpppaaGreatDoor
