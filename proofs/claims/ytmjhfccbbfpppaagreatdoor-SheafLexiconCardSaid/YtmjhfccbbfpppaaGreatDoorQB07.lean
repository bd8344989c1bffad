import Derived.Orders
import Derived.Test.YtmjhfccbbfpppaaGreatDoorQB05
namespace Go.Proofs.YtmjhfccbbfpppaaGreatDoor
open Go
set_option linter.unusedSimpArgs false
set_option linter.unusedVariables false
namespace Pm
def b8p:Op→Bool
 |.box _ _|.alloc _|.store _ _ _|.buildSlice _ _ _=>true
 |.call ⟨.builtin .append,_,_⟩=>true
 |.call ⟨.builtin .delete,_,_⟩=>true
 |.makeMap _ _|.mapUpdate _ _ _ _=>true
 |_=>false
theorem f1o {s:St} {d e:Nat} {x y:V} (h:d≠e):(s.set d x).set e y=(s.set e y).set d x:=by
 cases s with
 |mk fr hp us =>
  simp only [St.set,St.mk.injEq,and_true]
  funext j
  by_cases e1:e=j
  ·subst e1
   rw [if_pos rfl,if_neg h,if_pos rfl]
  ·simp [e1]
theorem e0b {s:St} {d:Nat} {x y:V} {dst:Option Nat} (h:dst≠some d):a3z (s.set d x) dst y=(a3z s dst y).set d x:=by
 cases dst with
 |none=>rfl
 |some e=>exact f1o (fun he=>h (by rw [he]))
def NH:Res→Prop
 |.heap _ _=>False
 |_=>True
theorem e2g (k:IntKind) (k':IntKind) (n:Int):NH (b5x k k' n):=by
 unfold b5x
 repeat' split
 all_goals first|exact trivial
theorem e1h (o:BinOp) (k:IntKind) (k':IntKind) (x:Int) (y:Int):NH (b9c o k k' x y):=by
 unfold b9c
 repeat' split
 all_goals first|exact trivial|exact e2g _ _ _
theorem d9o (o:BinOp) (x:ByteArray) (y:ByteArray):NH (b9x o x y):=by
 unfold b9x
 repeat' split
 all_goals first|exact trivial
theorem f1t (o:BinOp) (b:Bool):NH (b8j o b):=by
 unfold b8j
 repeat' split
 all_goals first|exact trivial
theorem d6a (o:BinOp) (C:Prop):NH (b1m o C):=by
 unfold b1m
 repeat' split
 all_goals first|exact trivial
theorem d8l (o:BinOp) (t:TK) (x:V) (y:V):NH (b6s o t x y):=by
 unfold b6s
 repeat' split
 all_goals first|exact trivial|exact e1h _ _ _ _ _|exact d9o _ _ _|exact f1t _ _|exact d6a _ _
theorem e2a (o:BinOp) (fk:Option (List TypeDesc)) (x y:V) (r:Res) (h:NH r):NH (c0j o fk x y r):=by
 unfold c0j
 split
 ·split
  ·unfold e7n;split<;>trivial
  ·trivial
 ·exact h
theorem e9c (o:UnOp) (x:V):NH (d5l o x):=by
 unfold d5l
 repeat' split
 all_goals first|exact trivial
theorem f0s (a:TK) (b:TK) (x:V):NH (d5w a b x):=by
 unfold d5w
 repeat' split
 all_goals first|exact trivial
theorem e3z (lo:Nat) (a:TK) (b:TK) (p:Bool) (q:Bool) (x:V):NH (b9g lo a b p q x):=by
 unfold b9g
 repeat' split
 all_goals first|exact trivial|exact f0s _ _ _
theorem d4b (a:V) (b:V) (x:V):NH (b3s a b x):=by
 unfold b3s
 repeat' split
 all_goals first|exact trivial
theorem d9m (x:V):NH (c0g x):=by
 unfold c0g
 repeat' split
 all_goals first|exact trivial
theorem f0p (k:Option (Bool×Nat)) (x:V):NH (d3j k x):=by
 unfold d3j
 repeat' split
 all_goals first|exact trivial
theorem e8l (a:Bool) (n:Nat) (off:Nat) (cs:List V):NH (c9w a n off cs):=by
 unfold c9w
 repeat' split
 all_goals first|exact trivial
theorem d8y (s:St) (k:Option (Bool×Nat)) (x:V):NH (b7s s k x):=by
 unfold b7s
 repeat' split
 all_goals first|exact trivial|exact f0p _ _|exact e8l _ _ _ _
theorem d6h (k:Option (Nat×Bool×Nat)) (x:V):NH (b3n k x):=by
 unfold b3n
 repeat' split
 all_goals first|exact trivial
theorem e5d (k:Option (Nat×Bool×Nat)) (x:V):NH (c0h k x):=by
 unfold c0h
 repeat' split
 all_goals first|exact trivial
theorem e3w (k:Nat) (x:V):NH (b9w k x):=by
 unfold b9w
 repeat' split
 all_goals first|exact trivial
theorem e3k (k:TK) (x:V):NH (b9s k x):=by
 unfold b9s
 repeat' split
 all_goals first|exact trivial
theorem e7h (k:TK) (x:V) (i:V):NH (d5s k x i):=by
 unfold d5s
 repeat' split
 all_goals first|exact trivial
theorem d9d (k:Option (Nat×Bool×Nat)) (x i:V) (r:Res) (h:NH r):NH (c0k k x i r):=by
 unfold c0k
 repeat' split
 all_goals first|exact trivial|exact h
theorem e1z (f:Fn) (l:List V):NH (c0d f l):=by
 unfold c0d
 split<;>trivial
theorem e0p (f:Fn) (l:List V):NH (b8s f l):=by
 unfold b8s
 split<;>trivial
theorem e7r (C:Prop) (lo:Option Int) (hi:Option Int) (n:Nat) (k:Nat→Nat→V):NH (b7m C lo hi n k):=by
 unfold b7m
 repeat' split
 all_goals first|exact trivial
theorem d6s (k:TK) (e:Option (TypeId×Nat)) (x:V) (lo:Option V) (hi:Option V):NH (b9t k e x lo hi):=by
 unfold b9t
 repeat' split
 all_goals first|exact trivial|exact e7r _ _ _ _ _
theorem e1s (a:Option (Nat×Nat)) (x:V) (l h:Option V) (r:Res) (hr:NH r):NH (b8r a x l h r):=by
 unfold b8r
 split
 ·trivial
 ·exact hr
theorem f5a (b:Bool) (r:Res) (h:NH r):NH (g4u b r):=by
 cases b
 ·exact h
 ·trivial
theorem e2z (a:Option (TypeId×Nat)) (b:Option (Nat×Nat)) (x:V) (i:V):NH (c0o a b x i):=by
 unfold c0o
 repeat' split
 all_goals first|exact trivial
theorem e0c (a:Option (List Value)) (b:Option (List (Nat×Nat))) (x:List (Nat×V)):NH (b9f a b x):=by
 unfold b9f
 repeat' split
 all_goals first|exact trivial
theorem e6c (b:Builtin) (x:V) (y:V):NH (d4m b x y):=by
 unfold d4m
 repeat' split
 all_goals first|exact trivial
theorem d9n (k:TK) (x:V):NH (c0i k x):=by
 unfold c0i
 repeat' split
 all_goals first|exact trivial
theorem e0z (s:St) (k:Option (KD×V)) (b:Bool) (x:V) (y:Option Value):NH (b7b s k b x y):=by
 unfold b7b
 repeat' split
 all_goals first|exact trivial
theorem d2n {P:Program} {ow:Nat→Bool} {lo:Nat} {s:St} {dst:Option Nat} {op:Op} (h:b8p op=false):NH (a3r P ow lo s dst op):=by
 unfold a3r
 split
 all_goals first|exact trivial|exact d4b _ _ _|exact d9m _|exact d8y _ _ _|exact d6h _ _|exact e5d _ _|exact e3w _ _|exact e3k _ _|exact e2z _ _ _ _|exact d9d _ _ _ _ (e7h _ _ _)|exact e2a _ _ _ _ _ (d8l _ _ _ _)|exact e9c _ _|exact e3z _ _ _ _ _ _|exact f5a _ _ (e1s _ _ _ _ _ (d6s _ _ _ _ _))|exact e0c _ _ _|exact e6c _ _ _|exact d9n _ _|exact e0p _ _|exact e1z _ _|exact e0z _ _ _ _ _|(exfalso;cases h;done)
def b1i:V→List Nat
 |.ptr id _=>[id]
 |.eptr id _ _ _=>[id]
 |.own id _ _ _=>[id]
 |.mp id=>[id]
 |_=>[]
def c5s (s:St) (d:Option Nat):Op→List Nat
 |.load _ x=>b1i (ev s x)
 |.store _ x _=>b1i (ev s x)
 |.box _ _=>d.toList
 |.alloc _=>d.toList
 |.buildSlice _ _ _=>d.toList
 |.lookup _ x _ _=>b1i (ev s x)
 |.makeMap _ _=>d.toList
 |.mapUpdate _ x _ _=>b1i (ev s x)
 |.call ⟨.builtin .delete,⟨[x,y]⟩,_⟩=>b1i (ev s x)
 |.call ⟨.builtin .append,⟨[x,y]⟩,_⟩=>d.toList++(b1i (ev s x)++b1i (ev s y))
 |_=>[]
structure Agr (s s':St) (d:Option Nat) (op:Op):Prop where
 e:∀ x,x ∈ op.operands→ev s' x=ev s x
 m:∀ id,id ∈ c5s s d op→s'.hp id=s.hp id∧s'.us id=s.us id
theorem Agr.refl (s:St) (d:Option Nat) (op:Op):Agr s s d op:=⟨fun _ _=>rfl,fun _ _=>⟨rfl,rfl⟩⟩
theorem c3w {P:Program} {ow:Nat→Bool} {lo:Nat} {s s':St} {dst:Option Nat} {op:Op} (h:Agr s s' dst op):a3r P ow lo s' dst op=a3r P ow lo s dst op:=by
 have e:=h.e
 have box:∀ cs,c5s s dst op=dst.toList→a8q s' dst cs=a8q s dst cs:=fun cs hf=>by
  unfold a8q
  split
  ·rename_i d cs
   have hu:s'.used d=s.used d:=(h.m d (by simp [hf])).2
   rw [hu]
  ·rfl
 have hpt:∀ p:V,(∀ i,i ∈ b1i p→i ∈ c5s s dst op)→∀ i,i ∈ b1i p→s'.hget i=s.hget i:=fun p hp i hi=>(h.m i (hp i hi)).1
 unfold a3r
 split
 ·rw [e _ (by simp [Op.operands])]
 ·rw [e _ (by simp [Op.operands])]
 ·rename_i c x y
  rw [e c (by simp [Op.operands]),e x (by simp [Op.operands]),e y (by simp [Op.operands])]
 ·rw [e _ (by simp [Op.operands])]
 ·rename_i t x
  rw [e _ (by simp [Op.operands])]
  have hq:=hpt (ev s x) (fun i hi=>hi)
  revert hq
  generalize ev s x=p
  intro hq
  unfold b7s
  split
  ·rw [hq _ (by simp [b1i])]
  ·rw [hq _ (by simp [b1i])]
  ·rfl
 ·rw [e _ (by simp [Op.operands])]
 ·rw [e _ (by simp [Op.operands])]
 ·rw [e _ (by simp [Op.operands])]
 ·rw [e _ (by simp [Op.operands,Call.operands])]
 ·rename_i x y t t'
  rw [e x (by simp [Op.operands,Call.operands]),e y (by simp [Op.operands,Call.operands])]
  have hx:=hpt (ev s x) (fun i hi=>List.mem_append_right _ (List.mem_append_left _ hi))
  have hy:=hpt (ev s y) (fun i hi=>List.mem_append_right _ (List.mem_append_right _ hi))
  have hd:∀ d,dst=some d→s'.used d=s.used d:=fun d hd=>(h.m d (List.mem_append_left _ (by simp [hd]))).2
  revert hx hy
  generalize ev s x=u
  generalize ev s y=v
  intro hx hy
  unfold b6h
  split
  ·rename_i d el sz _
   have e1:e7y s' el sz u=e7y s el sz u:=by
    unfold e7y
    split
    ·rw [hx _ (by simp [b1i])]
    ·rfl
    ·rfl
   have e2:f6t s' sz v=f6t s sz v:=by
    unfold f6t
    split
    ·rfl
    ·rw [hy _ (by simp [b1i])]
    ·rfl
    ·rfl
   rw [e1,e2]
   unfold d9q
   rw [hd d rfl]
  ·rfl
 ·rename_i x y t t'
  rw [e x (by simp [Op.operands,Call.operands]),e y (by simp [Op.operands,Call.operands])]
  have hq:=hpt (ev s x) (fun i hi=>hi)
  revert hq
  generalize ev s x=q
  intro hq
  unfold b7h
  split
  ·rw [hq _ (by simp [b1i])]
  ·rfl
 ·rename_i b x y t t' _ _
  rw [e x (by simp [Op.operands,Call.operands]),e y (by simp [Op.operands,Call.operands])]
 ·rename_i x t
  rw [e x (by simp [Op.operands,Call.operands])]
 ·rename_i t x i
  rw [e x (by simp [Op.operands]),e i (by simp [Op.operands])]
 ·rename_i t x i
  rw [e x (by simp [Op.operands]),e i (by simp [Op.operands])]
 ·rename_i f cap
  rw [List.map_congr_left (f:=ev s') (g:=ev s) fun x hx=>e x (by simp [Op.operands,hx])]
 ·rename_i f b bs
  rw [List.map_congr_left (f:=ev s') (g:=ev s) fun x hx=>e x (by simp [Op.operands];rcases List.mem_cons.1 hx with rfl|hx<;>simp [*])]
 ·rename_i o t x y _
  rw [e x (by simp [Op.operands]),e y (by simp [Op.operands])]
 ·rw [e _ (by simp [Op.operands])]
 ·rw [e _ (by simp [Op.operands])]
 ·rename_i t x l u
  have h1:l.map (ev s')=l.map (ev s):=by clear h box hpt;cases l<;>simp [Op.operands] at e ⊢<;>simp [e]
  have h2:u.map (ev s')=u.map (ev s):=by clear h box hpt;cases l<;>cases u<;>simp [Op.operands] at e ⊢<;>simp [e]
  rw [e x (by simp [Op.operands]),h1,h2]
 ·rename_i t ps
  rw [List.map_congr_left (f:=fun (p:Nat×Operand)=>(p.1,ev s' p.2)) (g:=fun (p:Nat×Operand)=>(p.1,ev s p.2)) fun x hx=>by rw [e x.2 (by simp [Op.operands];exact ⟨_,hx⟩)]]
 ·rename_i t n ps
  rw [List.map_congr_left (f:=fun (p:Nat×Operand)=>(p.1,ev s' p.2)) (g:=fun (p:Nat×Operand)=>(p.1,ev s p.2)) fun x hx=>by rw [e x.2 (by simp [Op.operands];exact ⟨_,hx⟩)]]
  unfold b7a
  split
  ·split
   ·split
    ·rfl
    ·rename_i d _
     have hu:s'.used d=s.used d:=(h.m d (by simp [c5s])).2
     rw [hu]
    ·rfl
   ·rfl
  ·rfl
 ·rw [e _ (by simp [Op.operands])];exact box _ rfl
 ·exact box _ rfl
 ·rename_i t p x
  rw [e p (by simp [Op.operands]),e x (by simp [Op.operands])]
  cases dst with
  |none =>
   have hq:=hpt (ev s p) (fun i hi=>hi)
   revert hq
   generalize ev s p=q
   intro hq
   simp only
   unfold c9q
   split
   ·rw [hq _ (by simp [b1i])]
   ·rw [hq _ (by simp [b1i])]
   ·rfl
  |some d'=>rfl
 ·rename_i t x k ok
  rw [e x (by simp [Op.operands]),e k (by simp [Op.operands])]
  have hq:=hpt (ev s x) (fun i hi=>hi)
  revert hq
  generalize ev s x=q
  intro hq
  unfold b7b
  split
  ·rw [hq _ (by simp [b1i])]
  ·rfl
 ·unfold b6r
  split
  ·rename_i d kd z hd
   have hu:s'.used d=s.used d:=(h.m d (by simp [c5s])).2
   rw [hu]
  ·rfl
 ·rename_i t x k v
  rw [e x (by simp [Op.operands]),e k (by simp [Op.operands]),e v (by simp [Op.operands])]
  cases dst with
  |none =>
   have hq:=hpt (ev s x) (fun i hi=>hi)
   revert hq
   generalize ev s x=q
   intro hq
   simp only
   unfold b6o
   split
   ·rw [hq _ (by simp [b1i])]
   ·rfl
  |some d'=>rfl
 ·rename_i f as ts
  rw [e f (by simp [Op.operands,Call.operands]),List.map_congr_left (f:=ev s') (g:=ev s) fun x hx=>e x (by simp [Op.operands,Call.operands,hx])]
 ·rfl
theorem c6u {s:St} {el sz:Nat} {x:V} {l:List (List V)} {io:Option Nat} {C:Prop} (h:e7y s el sz x=some (l,io,C)) {p:Nat×Option OB} (hp:p ∈ a4r io):p.1 ∈ b1i x:=by
 unfold e7y at h
 split at h
 ·split at h
  ·simp only [Option.some.injEq,Prod.mk.injEq] at h
   obtain ⟨_,rfl,_⟩:=h
   simp [a4r] at hp
   subst hp
   simp [b1i]
  ·cases h
 ·simp only [Option.some.injEq,Prod.mk.injEq] at h
  obtain ⟨_,rfl,_⟩:=h
  simp [a4r] at hp
 ·cases h
theorem d4y {P:Program} {ow:Nat→Bool} {lo:Nat} {s:St} {dst:Option Nat} {op:Op} {C:Prop} {k:C→V×List (Nat×Option OB)} (h:a3r P ow lo s dst op=.heap C k) (hC:C):∀ p,p ∈ (k hC).2→p.1 ∈ c5s s dst op:=by
 by_cases hh:b8p op=false
 ·have:=d2n (P:=P) (ow:=ow) (lo:=lo) (s:=s) (dst:=dst) hh
  rw [h] at this
  exact this.elim
 have box:∀ cs,c5s s dst op=dst.toList→a8q s dst cs=.heap C k→∀ p,p ∈ (k hC).2→p.1 ∈ c5s s dst op:=fun cs hf hb p hp=>by
  unfold a8q at hb
  split at hb
  ·cases hb
   simp at hp
   rw [hf,hp];simp
  ·cases hb
 cases op with
 |box t x=>exact box _ rfl h
 |alloc t=>exact box _ rfl h
 |buildSlice t n parts =>
  obtain ⟨parts⟩:=parts
  intro p hp
  have h':b7a P (dst.any ow || n == 0) (dst.any fun i=>ow (i+1000000)) lo s n dst (a0t P t) (parts.map fun p=>(p.1,ev s p.2))=.heap C k:=h
  unfold b7a at h'
  split at h'
  ·split at h'
   ·split at h'
    ·cases h'
    ·cases h'
     simp at hp
     rw [hp];simp [c5s]
    ·cases h'
   ·cases h'
  ·cases h'
 |store t x y =>
  intro p hp
  cases dst with
  |some d=>cases h
  |none =>
   have h':c9q s (a0m P t) (ev s x) (a7w (ev s y))=.heap C k:=h
   show p.1 ∈ b1i (ev s x)
   unfold c9q at h'
   split at h'
   ·split at h'
    ·rename_i hx _ _ _
     cases h';simp at hp;simp_all [b1i]
    ·cases h'
   ·split at h'
    ·cases h';simp at hp;simp_all [b1i]
    ·cases h';simp at hp;simp_all [b1i]
    ·cases h';simp at hp;simp_all [b1i]
    ·cases h'
   ·cases h'
 |makeMap t r =>
  intro p hp
  cases r with
  |some r=>cases h
  |none =>
   have h':b6r s dst (c1r P t)=.heap C k:=h
   unfold b6r at h'
   split at h'
   ·cases h';simp at hp;rw [hp];simp [c5s]
   ·cases h'
 |mapUpdate t x y z =>
  intro p hp
  cases dst with
  |some d=>cases h
  |none =>
   have h':b6o s (c1r P t) (ev s x) (d3r (ev s y)) (ev s z)=.heap C k:=h
   show p.1 ∈ b1i (ev s x)
   unfold b6o at h'
   split at h'
   ·split at h'
    ·rename_i hx _ _ _ _
     cases h';simp at hp;simp_all [b1i]
    ·cases h'
   ·cases h'
 |call c =>
  obtain ⟨f,⟨as⟩,⟨ts⟩⟩:=c
  cases f with
  |builtin b =>
   cases b with
   |delete =>
    match as,ts with
    |[x,y],[t,t'] =>
     intro p hp
     have h':b7h s (c1r P t) (ev s x) (d3r (ev s y))=.heap C k:=h
     show p.1 ∈ b1i (ev s x)
     unfold b7h at h'
     split at h'
     ·split at h'
      ·cases h';simp at hp;simp_all [b1i]
      ·cases h'
     ·cases h'
    |[],_=>cases h
    |[_],_=>cases h
    |[_,_],[]=>cases h
    |[_,_],[_]=>cases h
    |[_,_],_::_::_::_=>cases h
    |_::_::_::_,_=>cases h
   |append =>
    match as,ts with
    |[x,y],[t,t'] =>
     intro p hp
     have h':b6h P (!dst.any ow) lo s t t' (ev s x) (ev s y) dst (a0t P t)=.heap C k:=h
     show p.1 ∈ dst.toList++(b1i (ev s x)++b1i (ev s y))
     unfold b6h at h'
     split at h'
     ·rename_i d el sz _
      unfold d9q at h'
      split at h'
      ·rename_i l io C1 new C2 h1 h2
       cases h'
       unfold d2k at hp
       split at hp
       ·rcases List.mem_append.1 hp with hp|hp
        ·exact List.mem_append_right _ (List.mem_append_left _ (c6u h1 hp))
        ·simp at hp;rw [hp];simp
       ·rcases List.mem_append.1 hp with hp|hp
        ·exact List.mem_append_right _ (List.mem_append_left _ (c6u h1 hp))
        ·simp at hp;rcases hp with hp|hp<;>(rw [hp];simp)
      ·cases h'
     ·cases h'
    |[],_=>cases h
    |[_],_=>cases h
    |[_,_],[]=>cases h
    |[_,_],[_]=>cases h
    |[_,_],_::_::_::_=>cases h
    |_::_::_::_,_=>cases h
   |_=>exact absurd rfl hh
  |_=>exact absurd rfl hh
 |_=>exact absurd rfl hh
def CallE (P:Program) (G:Gh) (N:Nat→Bool) (M:Bool) (f:V) (as:List V) (s:St) (e:V×List (Nat×Option OB)):Prop :=
 (M=false→e.2=[])∧(∀ p,p ∈ e.2→N p.1=true)∧∀ s',(∀ id,N id=true→s'.hp id=s.hp id∧s'.us id=s.us id)→∀ (o:Oper) (Q:Exit→St→Prop) (rest:St→Prop),chk G.n o.dst→rest (app s' o.dst e)→a3k P G o s' Q rest f as
theorem CallE.at {P:Program} {G:Gh} {N:Nat→Bool} {M:Bool} {f:V} {as:List V} {s s':St} {e:V×List (Nat×Option OB)} (h:CallE P G N M f as s e) (he:∀ id,N id=true→s'.hp id=s.hp id∧s'.us id=s.us id):CallE P G N M f as s' e :=
 ⟨h.1,h.2.1,fun s'' e'=>h.2.2 s'' fun id hi=>⟨(e' id hi).1.trans (he id hi).1,(e' id hi).2.trans (he id hi).2⟩⟩
theorem CallE.pure {P:Program} {G:Gh} {N:Nat→Bool} {M:Bool} {f:V} {as:List V} {s:St} {r:V} (h:∀ s',(∀ id,N id=true→s'.hp id=s.hp id∧s'.us id=s.us id)→∀ (o:Oper) (Q:Exit→St→Prop) (rest:St→Prop),chk G.n o.dst→rest (a3z s' o.dst r)→a3k P G o s' Q rest f as):CallE P G N M f as s (r,[]) :=
 ⟨fun _=>rfl,fun _ h=>(nomatch h),h⟩
theorem b7l {P:Program} {G:Gh} {N:Nat→Bool} {M:Bool} {s:St} {k:FuncId} {cap as as':List V} {r:Nat→V} (hp:a0l P k as' r) (hs:Subs (as++cap) as') (hpure:b0t (as++cap)=true):CallE P G N M (.fn (.func k) cap) as s (r G.lo,[]) :=
 .pure fun _ _ _ _ _ hc hr=>c5f (d5r hp hs hpure) hc hr
def e7q (P:Program) (G:Gh) (N:Nat→Bool) (M:Bool) (o:Oper) (s:St) (rest:St→Prop):Res→Prop
 |.go C k=>chk G.n o.dst∧∃ h:C,rest (a3z s o.dst (k h))
 |.heap C k=>chk G.n o.dst∧∃ h:C,rest (app s o.dst (k h))
 |.call f as=>chk G.n o.dst∧∃ e,CallE P G N M f as s e∧rest (app s o.dst e)
 |_=>False
theorem f0x {P:Program} {G:Gh} {N:Nat→Bool} {M:Bool} {o:Oper} {s:St} {Q:Exit→St→Prop} {rest:St→Prop} {r:Res} (h:e7q P G N M o s rest r):fin P G o s Q rest r:=by
 cases r with
 |go C k=>exact h
 |heap C k=>exact h
 |call f as=>obtain ⟨h1,r,h2,h3⟩:=h;exact h2.2.2 s (fun _ _=>⟨rfl,rfl⟩) _ _ _ h1 h3
 |br=>exact h.elim
 |stuck=>exact h.elim
theorem e5l {P:Program} {G:Gh} {N:Nat→Bool} {M:Bool} {o:Oper} {s:St} {rest rest':St→Prop} {r:Res} (hr:∀ s,rest s→rest' s) (h:e7q P G N M o s rest r):e7q P G N M o s rest' r:=by
 cases r with
 |go C k=>obtain ⟨h1,h2,h3⟩:=h;exact ⟨h1,h2,hr _ h3⟩
 |heap C k=>obtain ⟨h1,h2,h3⟩:=h;exact ⟨h1,h2,hr _ h3⟩
 |call f as=>obtain ⟨h1,r,h2,h3⟩:=h;exact ⟨h1,r,h2,hr _ h3⟩
 |br=>exact h.elim
 |stuck=>exact h.elim
theorem SemStep.mono {P:Program} {G:Gh} {o:Oper} {s:St} {Q:Exit→St→Prop} {rest rest':St→Prop} (hr:∀ s,rest s→rest' s) (h:SemStep P G o s Q rest):SemStep P G o s Q rest' :=
 fun a w hs=>Oper.wpIn_mono (fun _ _ ⟨s',h1,h2⟩=>⟨s',hr s' h1,h2⟩) (h a w hs)
theorem e6u {P:Program} {G:Gh} {o:Oper} {s:St} {Q:Exit→St→Prop} {rest rest':St→Prop} {r:Res} (hr:∀ s,rest s→rest' s) (h:fin P G o s Q rest r):fin P G o s Q rest' r:=by
 cases r with
 |go C k=>obtain ⟨h1,h2,h3⟩:=h;exact ⟨h1,h2,hr _ h3⟩
 |heap C k=>obtain ⟨h1,h2,h3⟩:=h;exact ⟨h1,h2,hr _ h3⟩
 |call f as=>exact fun x l ts h1 h2 h3=>(h x l ts h1 h2 h3).mono hr
 |br C=>obtain ⟨h1,h2⟩:=h;exact ⟨h1,fun b hb=>hr _ (h2 b hb)⟩
 |stuck=>exact SemStep.mono hr h
def a9f (all:List Oper) (o:Oper) (s:St):Option Bool:=match o.guard with
 |none=>some true
 |some (j,w)=>match a9d all j with
  |none=>none
  |some g=>match s.get g with
   |.v (.bool b)=>some (b == w)
   |.v (.tuple ⟨[]⟩)=>some false
   |_=>none
theorem b8z {G:Gh} {s:St} {a:Act} {w:World} {E:Env} (hs:SimE G s a w E) {all:List Oper} {o:Oper} {b:Bool} (h:a9f all o s=some b):Region.wanted o (yielded all.toArray a.tmps)=b:=by
 unfold a9f at h
 split at h
 ·rename_i hg;cases h;simp [Region.wanted,hg]
 ·rename_i j w' hg
  split at h
  ·cases h
  ·rename_i g hgs
   split at h
   ·rename_i b' hb
    cases h
    have:=b9y hs hgs hb
    simp [Region.wanted,hg,this]
   ·rename_i hb
    cases h
    have:=b5v hs hgs hb
    simp [Region.wanted,hg,this]
   ·cases h
structure Al where
 l:List Nat
 /-- a0x of blocks,told by the prover: of the operation with this slot,of the store through this slot -/
 tb:List (Nat×List Nat)
 /-- slots of calls that give new memory -/
 nw:List Nat
def mkd (al:Al) (d:Option Nat):Bool:=match d with
 |some d=>al.nw.contains d
 |none=>false
def tbl:List (Nat×List Nat)→Option Nat→Option (List Nat)
 |(k,l)::r,some d=>if k=d then some l else tbl r (some d)
 |_,_=>none
def g8i (d:Option Nat):Op→Option Nat
 |.store _ (.tmp t) _=>some t
 |_=>d
abbrev Nm:=List Nat×Bool
def a2d (al:Al) (n:Nm) (m:Nat):Bool:=n.1.contains m || (n.2 && !al.l.contains m)
def c9m (al:Al):Operand→Nm
 |.tmp t=>if al.l.contains t then ([t],false) else ([],true)
 |_=>([],true)
def f9t (al:Al):Operand→List Nat
 |.tmp t=>if al.l.contains t then [t] else []
 |_=>[]
def nmT (al:Al) (d:Option Nat):Op→Nm
 |.load _ x=>c9m al x
 |.store _ x _=>c9m al x
 |.box _ _|.alloc _|.buildSlice _ _ _|.makeMap _ _=>(d.toList,false)
 |.lookup _ x _ _|.mapUpdate _ x _ _=>c9m al x
 |.call ⟨.builtin .delete,⟨[x,_]⟩,_⟩=>c9m al x
 |.call ⟨.builtin .append,⟨[x,y]⟩,_⟩=>(d.toList++((c9m al x).1++f9t al y),(c9m al x).2)
 |_=>([],false)
def nm0 (al:Al) (d:Option Nat) (op:Op):Nm:=match tbl al.tb (g8i d op) with
 |some l=>(l,false)
 |none=>nmT al d op
def f6k (al:Al) (a b:Nm):Bool :=
 a.1.all (fun m=>!b.1.contains m && (!b.2 || al.l.contains m)) && b.1.all (fun m=>!a.2 || al.l.contains m) && !(a.2 && b.2)
theorem b9o {al:Al} {a b:Nm} (h:f6k al a b=true) {m:Nat} (h1:a2d al a m=true) (h2:a2d al b m=true):False:=by
 simp only [f6k,a2d,Bool.and_eq_true,Bool.or_eq_true,List.all_eq_true,Bool.not_eq_true'] at h h1 h2
 obtain ⟨⟨h3,h4⟩,h5⟩:=h
 rcases h1 with h1|⟨h1,h1'⟩
 ·obtain ⟨q1,q2⟩:=h3 m (by simpa using h1)
  rcases h2 with h2|⟨h2,h2'⟩
  ·rw [q1] at h2;cases h2
  ·rcases q2 with q2|q2
   ·rw [q2] at h2;cases h2
   ·rw [q2] at h2';cases h2'
 ·rcases h2 with h2|⟨h2,h2'⟩
  ·rcases h4 m (by simpa using h2) with q|q
   ·rw [q] at h1;cases h1
   ·rw [q] at h1';cases h1'
  ·rw [h1,h2] at h5;cases h5
def c2c (al:Al) (s:St) (d:Option Nat) (op:Op):Bool:=(c5s s d op).all (a2d al (nm0 al d op))
def d6g (al:Al) (all:List Oper) (x y:Oper):Bool:=x.apart all.toArray y && (f6k al (nm0 al x.dst x.op) (nm0 al y.dst y.op) || ((!b8p x.op && !b8p y.op) && (!mkd al x.dst && !mkd al y.dst)))
def c2y (P:Program) (G:Gh) (al:Al) (all:List Oper) (o:Oper) (s:St) (K:St→Prop):Prop :=
 (a9f all o s=some true∧c2c al s o.dst o.op=true∧e7q P G (a2d al (nm0 al o.dst o.op)) (mkd al o.dst) o s K (a3r P G.ow G.lo s o.dst o.op))∨(a9f all o s=some false∧chk G.n o.dst∧K (a3z s o.dst skV))
def e4n (P:Program) (G:Gh) (all:List Oper) (Q:Exit→St→Prop) (o:Oper) (s:St) (K:St→Prop):Prop :=
 (a9f all o s=some true∧SemStep P G o s Q K)∨(a9f all o s=some false∧chk G.n o.dst∧K (a3z s o.dst skV))
theorem c7l {P:Program} {G:Gh} {al:Al} {all:List Oper} {Q:Exit→St→Prop} {o:Oper} {s:St} {K:St→Prop} (h:c2y P G al all o s K):e4n P G all Q o s K :=
 d3g (fun ⟨h1,_,h2⟩=>⟨h1,a8k (f0x h2)⟩) id h
theorem d3x {P:Program} {G:Gh} {al:Al} {all:List Oper} {o:Oper} {s:St} {K K':St→Prop} (hk:∀ s,K s→K' s) (h:c2y P G al all o s K):c2y P G al all o s K' :=
 d3g (fun ⟨h1,h0,h2⟩=>⟨h1,h0,e5l hk h2⟩) (fun ⟨h1,h2,h3⟩=>⟨h1,h2,hk _ h3⟩) h
theorem d1t {P:Program} {G:Gh} {ops:List Oper} {Q:Exit→St→Prop} {i:Nat} {o:Oper} (hi:ops.toArray[i]? = some o) {s:St} {K:St→Prop} (h:e4n P G ops Q o s K)
  {a:Act} {w:World} (hs:Sim G s a w) {K':Act→World→Prop} (hK:∀ s' a' w',K s'→Sim G s' a' w'→K' a' w'):wpOpIn G.F 0 P ops.toArray (b7z G Q) i K' a w:=by
 obtain ⟨E,hE⟩:=hs
 unfold wpOpIn
 simp only [hi]
 rcases h with ⟨h1,h2⟩|⟨h1,h2,h3⟩
 ·rw [b8z hE h1]
  exact Oper.wpIn_mono (fun a' w' ⟨s',h3,h4⟩=>hK s' a' w' h3 h4) (h2 a w ⟨E,hE⟩)
 ·rw [b8z hE h1]
  exact ⟨fun _ _=>trivial,hK _ _ _ h3 ⟨E,hE.put (a2s h2) (.r0 _ _ (.v _))⟩⟩
def g6a (P:Program) (G:Gh) (Q:Exit→St→Prop) (N:Nat→Bool) (f:V) (as:List V) (s:St):Prop :=
 ∀ s',(∀ id,N id=true→s'.hp id=s.hp id∧s'.us id=s.us id)→∀ (o:Oper) (rest:St→Prop),chk G.n o.dst→a3k P G o s' Q rest f as
def g6m (P:Program) (G:Gh) (Q:Exit→St→Prop) (N:Nat→Bool) (s:St):Res→Prop
 |.call f as=>g6a P G Q N f as s
 |_=>False
def f0y (P:Program) (G:Gh) (al:Al) (all:List Oper) (Q:Exit→St→Prop) (o:Oper) (s:St):Prop :=
 chk G.n o.dst∧a9f all o s=some true∧c2c al s o.dst o.op=true∧g6m P G Q (a2d al (nm0 al o.dst o.op)) s (a3r P G.ow G.lo s o.dst o.op)
theorem c7i {P:Program} {G:Gh} {al:Al} {all:List Oper} {Q:Exit→St→Prop} {o:Oper} {s:St} {K:St→Prop} (h:f0y P G al all Q o s):e4n P G all Q o s K:=by
 obtain ⟨h0,h1,_,h2⟩:=h
 refine .inl ⟨h1,a8k ?_⟩
 cases hl:a3r P G.ow G.lo s o.dst o.op with
 |call f as=>rw [hl] at h2;exact h2 s (fun _ _=>⟨rfl,rfl⟩) o _ h0
 |_=>rw [hl] at h2;exact h2.elim
def f8g (P:Program) (G:Gh) (al:Al) (ops:List Oper) (sem:Nat→Bool) (Q:Exit→St→Prop):Nat→Array Bool→St→Prop
 |0,listed,s=>Region.ready .any ops.toArray listed=[]∧Q .normal s
 |n+1,listed,s=>(Region.ready .any ops.toArray listed=[]→Q .normal s) ∧
  ((∀ i ∈ Region.ready .any ops.toArray listed,∀ o,ops[i]? = some o→c2y P G al ops o s (f8g P G al ops sem Q n (listed.setIfInBounds i true))∨f0y P G al ops Q o s) ∨
   ∃ i o,Region.ready .any ops.toArray listed=[i]∧sem i=true∧ops[i]? = some o∧e4n P G ops Q o s (f8g P G al ops sem Q n (listed.setIfInBounds i true)))
theorem b2a {P:Program} {G:Gh} {al:Al} {ops:List Oper} {sem:Nat→Bool} {Q:Exit→St→Prop}:∀ (n:Nat) (listed:Array Bool) (s:St),f8g P G al ops sem Q n listed s →
  ∀ a w,Sim G s a w→wpAnyIn G.F 0 P .any ops.toArray (b7z G Q) n listed a w:=by
 intro n
 induction n with
 |zero=>intro listed s h a w hs;exact ⟨h.1,s,h.2,hs⟩
 |succ n ih =>
  intro listed s h a w hs
  refine ⟨fun h0=>⟨s,h.1 h0,hs⟩,fun i hi=>?_⟩
  rcases h.2 with h|⟨j,o,h1,_,h2,h3⟩
  ·obtain ⟨_,o,ho,_⟩:=mem_ready.1 hi
   have ho':ops[i]? = some o:=by simpa using ho
   exact d1t ho ((h i hi o ho').elim c7l c7i) hs fun s' a' w' hk hs'=>ih _ s' hk a' w' hs'
  ·rw [h1] at hi
   simp at hi
   subst hi
   exact d1t (by simpa using h2) h3 hs fun s' a' w' hk hs'=>ih _ s' hk a' w' hs'
def a6o (P:Program) (G:Gh) (al:Al) (all:List Oper) (o:Oper) (s:St) (e:V×List (Nat×Option OB)):Prop :=
 chk G.n o.dst∧((a9f all o s=some true∧c2c al s o.dst o.op=true∧((∃ C k,∃ h:C,a3r P G.ow G.lo s o.dst o.op=.go C k∧(k h,[])=e)∨(∃ f as,a3r P G.ow G.lo s o.dst o.op=.call f as∧CallE P G (a2d al (nm0 al o.dst o.op)) (mkd al o.dst) f as s e) ∨
   ∃ C k,∃ h:C,a3r P G.ow G.lo s o.dst o.op=.heap C k∧k h=e)) ∨
  (a9f all o s=some false∧(skV,[])=e))
theorem a9k {P:Program} {G:Gh} {al:Al} {all:List Oper} {o:Oper} {s:St} {e:V×List (Nat×Option OB)} (h:a6o P G al all o s e) {K:St→Prop} (hK:K (app s o.dst e)):c2y P G al all o s K:=by
 obtain ⟨h0,⟨h1,hf,⟨C,k,hC,h2,rfl⟩|⟨f,as,h2,h3⟩|⟨C,k,hC,h2,rfl⟩⟩|⟨h1,rfl⟩⟩:=h
 ·exact .inl ⟨h1,hf,by rw [h2];exact ⟨h0,hC,hK⟩⟩
 ·exact .inl ⟨h1,hf,by rw [h2];exact ⟨h0,e,h3,hK⟩⟩
 ·exact .inl ⟨h1,hf,by rw [h2];exact ⟨h0,hC,hK⟩⟩
 ·exact .inr ⟨h1,h0,hK⟩
theorem b3y {P:Program} {G:Gh} {al:Al} {all:List Oper} {o:Oper} {s:St} {K:St→Prop} (h:c2y P G al all o s K):∃ e,a6o P G al all o s e∧K (app s o.dst e):=by
 rcases h with ⟨h1,hf,h2⟩|⟨h1,h2,h3⟩
 ·cases hl:a3r P G.ow G.lo s o.dst o.op with
  |go C k=>rw [hl] at h2;obtain ⟨q1,q2,q3⟩:=h2;exact ⟨_,⟨q1,.inl ⟨h1,hf,.inl ⟨C,k,q2,hl,rfl⟩⟩⟩,q3⟩
  |call f as=>rw [hl] at h2;obtain ⟨q1,r,q2,q3⟩:=h2;exact ⟨_,⟨q1,.inl ⟨h1,hf,.inr (.inl ⟨f,as,hl,q2⟩)⟩⟩,q3⟩
  |heap C k=>rw [hl] at h2;obtain ⟨q1,q2,q3⟩:=h2;exact ⟨_,⟨q1,.inl ⟨h1,hf,.inr (.inr ⟨C,k,q2,hl,rfl⟩)⟩⟩,q3⟩
  |br=>rw [hl] at h2;exact h2.elim
  |stuck=>rw [hl] at h2;exact h2.elim
 ·exact ⟨_,⟨h2,.inr ⟨h1,rfl⟩⟩,h3⟩
theorem e9t {s:St} {l:List (Nat×Option OB)}:(a1h s l).fr=s.fr:=by
 induction l generalizing s with
 |nil=>rfl
 |cons p r ih=>exact ih
theorem e3o {s:St} {l:List (Nat×Option OB)} {id:Nat} (h:∀ p,p ∈ l→p.1≠id):(a1h s l).hp id=s.hp id∧(a1h s l).us id=s.us id:=by
 induction l generalizing s with
 |nil=>exact ⟨rfl,rfl⟩
 |cons p r ih =>
  obtain ⟨i,o⟩:=p
  have h1:=ih (s:=s.hset i o) fun p hp=>h p (List.mem_cons_of_mem _ hp)
  have hne:i≠id:=h (i,o) (List.mem_cons_self ..)
  exact ⟨h1.1.trans (by simp [St.hset,hne]),h1.2.trans (by simp [St.hset,hne])⟩
theorem e2t {d:Option Nat} {e:V×List (Nat×Option OB)} {s:St} {g:Nat} (h:d≠some g):(app s d e).get g=s.get g:=by
 have h1:(a1h s e.2).get g=s.get g:=congrFun e9t g
 unfold app
 cases d with
 |none=>exact h1
 |some d =>
  have hne:d≠g:=fun e=>h (by rw [e])
  simp [a3z,e3n,hne,h1]
theorem d8t {d:Option Nat} {e:V×List (Nat×Option OB)} {s:St} {y:Operand} (h:∀ k,d=some k→y≠.tmp k):ev (app s d e) y=ev s y:=by
 cases y with
 |tmp t=>exact e2t (fun e=>h t e rfl)
 |_=>rfl
theorem c8t {d:Option Nat} {e:V×List (Nat×Option OB)} {s:St} {id:Nat} (h:∀ p,p ∈ e.2→p.1≠id):(app s d e).hp id=s.hp id∧(app s d e).us id=s.us id:=by
 have h1:=e3o (s:=s) h
 unfold app
 cases d<;>exact h1
theorem b5q {all:List Oper} {o:Oper} {s:St} {dst:Option Nat} {e:V×List (Nat×Option OB)} (h:∀ d,dst=some d→d ∉ o.looksAt all.toArray):a9f all o (app s dst e)=a9f all o s:=by
 unfold a9f
 cases hg:o.guard with
 |none=>rfl
 |some gw =>
  obtain ⟨j,b⟩:=gw
  simp only
  cases hgs:a9d all j with
  |none=>rfl
  |some g =>
   have hne:dst≠some g:=fun e=>h g e (by
    unfold a9d at hgs
    split at hgs
    ·rename_i o' ho'
     simp [Oper.looksAt,hg,ho',hgs]
    ·cases hgs)
   simp only [e2t hne]
theorem d9x {all:List Oper} {o:Oper} {d:Nat} (h:d ∉ o.looksAt all.toArray):∀ x,x ∈ o.op.operands→x≠.tmp d:=by
 rintro x hx rfl
 exact h (List.mem_append_left _ (List.mem_filterMap.2 ⟨.tmp d,by simpa using hx,rfl⟩))
theorem f2v {s s':St} {d:Option Nat} {op:Op} (e:∀ x,x ∈ op.operands→ev s' x=ev s x):c5s s' d op=c5s s d op:=by
 unfold c5s
 split
 ·rw [e _ (by simp [Op.operands])]
 ·rw [e _ (by simp [Op.operands])]
 ·rfl
 ·rfl
 ·rfl
 ·rw [e _ (by simp [Op.operands])]
 ·rfl
 ·rw [e _ (by simp [Op.operands])]
 ·rename_i x y _
  rw [e x (by simp [Op.operands,Call.operands])]
 ·rename_i x y _
  rw [e x (by simp [Op.operands,Call.operands]),e y (by simp [Op.operands,Call.operands])]
 ·rfl
theorem b4k {P:Program} {G:Gh} {al:Al} {all:List Oper} {o:Oper} {s s':St} {e:V×List (Nat×Option OB)} (he:∀ x,x ∈ o.op.operands→ev s' x=ev s x) (hw:a9f all o s'=a9f all o s)
  (hm:∀ id,a2d al (nm0 al o.dst o.op) id=true→s'.hp id=s.hp id∧s'.us id=s.us id) (h:a6o P G al all o s e):a6o P G al all o s' e:=by
 unfold a6o c2c
 rw [hw,f2v he]
 obtain ⟨h0,⟨h1,hf,h2⟩|h⟩:=h
 ·rw [c3w ⟨he,fun id hi=>hm id (List.all_eq_true.1 hf id hi)⟩]
  refine ⟨h0,.inl ⟨h1,hf,?_⟩⟩
  rcases h2 with h2|⟨f,as,q1,q2⟩|h2
  ·exact .inl h2
  ·exact .inr (.inl ⟨f,as,q1,q2.at hm⟩)
  ·exact .inr (.inr h2)
 ·exact ⟨h0,.inr h⟩
theorem a4z {P:Program} {G:Gh} {al:Al} {all:List Oper} {o:Oper} {s:St} {e:V×List (Nat×Option OB)} (h:a6o P G al all o s e) {p:Nat×Option OB} (hp:p ∈ e.2) :
  (b8p o.op=true∨mkd al o.dst=true)∧a2d al (nm0 al o.dst o.op) p.1=true:=by
 obtain ⟨h0,⟨h1,hf,⟨C,k,hC,h2,rfl⟩|⟨f,as,h2,h3⟩|⟨C,k,hC,h2,rfl⟩⟩|⟨h1,rfl⟩⟩:=h
 ·cases hp
 ·refine ⟨.inr ?_,h3.2.1 p hp⟩
  cases hm:mkd al o.dst with
  |true=>rfl
  |false=>rw [h3.1 hm] at hp;cases hp
 ·have hid:=d4y h2 hC p hp
  refine ⟨.inl ?_,List.all_eq_true.1 hf p.1 hid⟩
  cases hh:b8p o.op with
  |true=>rfl
  |false=>have:=d2n (P:=P) (ow:=G.ow) (lo:=G.lo) (s:=s) (dst:=o.dst) hh;rw [h2] at this;exact this.elim
 ·cases hp
theorem e2w {s:St} {i j:Nat} {x y:Option OB} (h:i≠j):(s.hset i x).hset j y=(s.hset j y).hset i x:=by
 cases s with
 |mk fr hp us =>
  simp only [St.hset,St.mk.injEq,true_and]
  constructor
  ·funext k
   by_cases e1:j=k
   ·subst e1;rw [if_pos rfl,if_neg h,if_pos rfl]
   ·simp [e1]
  ·funext k
   cases (i == k)<;>cases (j == k)<;>rfl
theorem d6e {s:St} {l:List (Nat×Option OB)} {i:Nat} {x:Option OB} (h:∀ p,p ∈ l→p.1≠i):a1h (s.hset i x) l=(a1h s l).hset i x:=by
 induction l generalizing s with
 |nil=>rfl
 |cons p r ih =>
  obtain ⟨j,o⟩:=p
  simp only [a1h]
  rw [e2w (Ne.symm (h (j,o) (List.mem_cons_self ..))),ih fun p hp=>h p (List.mem_cons_of_mem _ hp)]
theorem d4i {s:St} {l m:List (Nat×Option OB)} (h:∀ p q,p ∈ l→q ∈ m→p.1≠q.1):a1h (a1h s l) m=a1h (a1h s m) l:=by
 induction l generalizing s with
 |nil=>rfl
 |cons p r ih =>
  obtain ⟨j,o⟩:=p
  simp only [a1h]
  rw [ih fun p q hp hq=>h p q (List.mem_cons_of_mem _ hp) hq,d6e fun q hq=>(h (j,o) q (List.mem_cons_self ..) hq).symm]
theorem d8b {s:St} {l:List (Nat×Option OB)} {d:Nat} {x:V}:a1h (s.set d x) l=(a1h s l).set d x:=by
 induction l generalizing s with
 |nil=>rfl
 |cons p r ih=>exact ih (s:=s.hset p.1 p.2)
theorem f0t {s:St} {d e:Option Nat} {x y:V×List (Nat×Option OB)} (h:∀ k,d=some k→e≠some k) (hw:∀ p q,p ∈ x.2→q ∈ y.2→p.1≠q.1) :
  app (app s d x) e y=app (app s e y) d x:=by
 have hp:∀ (u:St) (l:List (Nat×Option OB)) (d:Option Nat) (x:V),a1h (a3z u d x) l=a3z (a1h u l) d x:=fun u l d x=>by
  cases d with
  |none=>rfl
  |some d=>exact d8b
 have pp:∀ u:St,a3z (a3z u d x.1) e y.1=a3z (a3z u e y.1) d x.1:=fun u=>by
  cases d with
  |none=>rfl
  |some d=>exact e0b (h d rfl)
 simp only [app,hp]
 rw [pp,d4i hw]
theorem d9z {P:Program} {G:Gh} {al:Al} {all:List Oper} {oi oj:Oper} {s:St} {x:V×List (Nat×Option OB)} {K:St→Prop} (hin:d6g al all oi oj=true)
  (hy:a6o P G al all oi s x) (h:c2y P G al all oj (app s oi.dst x) K):c2y P G al all oj s fun s'=>a6o P G al all oi s' x∧K (app s' oi.dst x):=by
 simp only [d6g,Bool.and_eq_true,Bool.or_eq_true,Bool.not_eq_true'] at hin
 obtain ⟨hap,hnm⟩:=hin
 obtain ⟨h1,h2,h3⟩:=Oper.apart_spec hap
 obtain ⟨y,hyj,hK⟩:=b3y h
 have ej:∀ x',x' ∈ oj.op.operands→ev (app s oi.dst x) x'=ev s x':=fun x' hx'=>d8t fun k hk=>d9x (h1 k hk) x' hx'
 have no:∀ id,a2d al (nm0 al oi.dst oi.op) id=true→a2d al (nm0 al oj.dst oj.op) id=true→((b8p oi.op=true∨mkd al oi.dst=true)∨b8p oj.op=true∨mkd al oj.dst=true)→False:=fun id a b c=>by
  rcases hnm with hnm|⟨⟨g1,g2⟩,g3,g4⟩
  ·exact b9o hnm a b
  ·rcases c with (c|c)|c|c
   ·rw [g1] at c;cases c
   ·rw [g3] at c;cases c
   ·rw [g2] at c;cases c
   ·rw [g4] at c;cases c
 -- the other one,taken first
 have hyj':a6o P G al all oj s y:=by
  refine b4k (fun x' hx'=>(ej x' hx').symm) (b5q h1).symm (fun id hid=>?_) hyj
  have:(app s oi.dst x).hp id=s.hp id∧(app s oi.dst x).us id=s.us id:=c8t fun p hp e=>by
   obtain ⟨a,b⟩:=a4z hy hp
   subst e
   exact no p.1 b hid (.inl a)
  exact ⟨this.1.symm,this.2.symm⟩
 refine a9k hyj' ⟨?_,?_⟩
 ·refine b4k (fun x' hx'=>d8t fun k hk=>d9x (h3 k hk) x' hx') (b5q h3) (fun id hid=>c8t fun p hp e=>?_) hy
  obtain ⟨a,b⟩:=a4z hyj' hp
  subst e
  exact no p.1 hid b (.inr a)
 ·rw [f0t (fun k hk he=>h2 k he hk) (fun p q hp hq e=>by
   obtain ⟨a1,a2⟩:=a4z hyj' hp
   obtain ⟨b1,b2⟩:=a4z hy hq
   rw [e] at a2
   exact no q.1 b2 a2 (.inl b1))]
  exact hK
theorem d9f {P:Program} {G:Gh} {al:Al} {all:List Oper} {oi oj:Oper} {s:St} {x:V×List (Nat×Option OB)} {Q:Exit→St→Prop} (hin:d6g al all oi oj=true)
  (hy:a6o P G al all oi s x) (h:f0y P G al all Q oj (app s oi.dst x)):f0y P G al all Q oj s:=by
 simp only [d6g,Bool.and_eq_true,Bool.or_eq_true,Bool.not_eq_true'] at hin
 obtain ⟨hap,hnm⟩:=hin
 obtain ⟨h1,h2,h3⟩:=Oper.apart_spec hap
 have ej:∀ x',x' ∈ oj.op.operands→ev (app s oi.dst x) x'=ev s x':=fun x' hx'=>d8t fun k hk=>d9x (h1 k hk) x' hx'
 have hag:∀ id,a2d al (nm0 al oj.dst oj.op) id=true→(app s oi.dst x).hp id=s.hp id∧(app s oi.dst x).us id=s.us id:=fun id hid=>c8t fun p hp e=>by
  obtain ⟨a,b⟩:=a4z hy hp
  subst e
  rcases hnm with hnm|⟨⟨g1,g2⟩,g3,g4⟩
  ·exact b9o hnm b hid
  ·rcases a with a|a
   ·rw [g1] at a;cases a
   ·rw [g3] at a;cases a
 obtain ⟨d0,d1,d2,d3⟩:=h
 have hfoot:c5s (app s oi.dst x) oj.dst oj.op=c5s s oj.dst oj.op:=f2v ej
 have hfB:c2c al s oj.dst oj.op=true:=by unfold c2c at d2 ⊢;rw [← hfoot];exact d2
 have hagr:Agr s (app s oi.dst x) oj.dst oj.op:=⟨ej,fun id hid=>hag id (List.all_eq_true.1 hfB id hid)⟩
 refine ⟨d0,(b5q h1).symm.trans d1,hfB,?_⟩
 rw [c3w hagr] at d3
 revert d3
 cases a3r P G.ow G.lo s oj.dst oj.op with
 |call f as=>exact fun d3 s' hs'=>d3 s' fun id hid=>⟨(hs' id hid).1.trans (hag id hid).1.symm,(hs' id hid).2.trans (hag id hid).2.symm⟩
 |_=>exact fun d3=>d3.elim
def anc (ops:List Oper):Nat→Nat→Nat→Bool
 |0,_,_=>false
 |n+1,j,i=>match ops[j]? with
  |some o=>o.after.toList.any fun e=>Region.binds .any e && (e.on == i || anc ops n e.on i)
  |none=>false
def Closed (ops:List Oper) (listed:Array Bool):Prop:=∀ j o,ops[j]? = some o→listed.getD j false=true→∀ e ∈ o.after,Region.binds .any e=true→listed.getD e.on false=true
theorem Closed.add {ops:List Oper} {listed:Array Bool} (h:Closed ops listed) {i:Nat} (hi:i ∈ Region.ready .any ops.toArray listed):Closed ops (listed.setIfInBounds i true):=by
 intro j o hj hl e he hb
 by_cases hij:i=j
 ·subst hij
  obtain ⟨_,o',ho',hall⟩:=mem_ready.1 hi
  have:o'=o:=by
   have h2:ops[i]? = some o':=by simpa using ho'
   rw [hj] at h2;cases h2;rfl
  subst this
  exact getD_set_true (hall e he hb)
 ·rw [getD_set_ne false hij] at hl
  exact getD_set_true (h j o hj hl e he hb)
theorem d3t {ops:List Oper} {listed:Array Bool} (h:Closed ops listed):∀ (n j i:Nat),listed.getD j false=true→anc ops n j i=true→listed.getD i false=true:=by
 intro n
 induction n with
 |zero=>intro j i _ h;cases h
 |succ n ih =>
  intro j i hj ha
  unfold anc at ha
  split at ha
  ·rename_i o ho
   obtain ⟨e,he,hb⟩:=List.any_eq_true.1 ha
   simp only [Bool.and_eq_true,Bool.or_eq_true,beq_iff_eq] at hb
   have hon:=h j o ho hj e (by simpa using he) hb.1
   rcases hb.2 with rfl|h2
   ·exact hon
   ·exact ih _ _ hon h2
  ·cases ha
theorem d7j {ops:List Oper} {listed:Array Bool} (h:Closed ops listed) {n j i:Nat} (hj:j ∈ Region.ready .any ops.toArray listed) (hi:listed.getD i true=false):anc ops n j i=false:=by
 cases hb:anc ops n j i with
 |false=>rfl
 |true =>
  exfalso
  have hi':listed.getD i false=false:=by
   rcases Nat.lt_or_ge i listed.size with h'|h'
   ·simp [h'] at hi ⊢;exact hi
   ·simp [Array.getElem?_eq_none h'] at hi
  have hl:listed.getD i false=true:=by
   cases n with
   |zero=>cases hb
   |succ n =>
    obtain ⟨_,o,ho,hall⟩:=mem_ready.1 hj
    have ho':ops[j]? = some o:=by simpa using ho
    unfold anc at hb
    rw [ho'] at hb
    obtain ⟨e,he,hb⟩:=List.any_eq_true.1 hb
    simp only [Bool.and_eq_true,Bool.or_eq_true,beq_iff_eq] at hb
    have hon:=hall e (by simpa using he) hb.1
    rcases hb.2 with rfl|h2
    ·exact hon
    ·exact d3t h n _ _ hon h2
  rw [hi'] at hl
  cases hl
theorem b9k {P:Program} {G:Gh} {al:Al} {ops:List Oper} {sem:Nat→Bool} {Q:Exit→St→Prop} {m i:Nat} {oi:Oper} {x:V×List (Nat×Option OB)} (hi:ops[i]? = some oi) :
  ∀ (n:Nat) (listed:Array Bool) (s:St),Closed ops listed →
   (∀ j oj,ops[j]? = some oj→j≠i→listed.getD j true=false→anc ops m j i=false→sem j=false∧d6g al ops oi oj=true) →
   i ∈ Region.ready .any ops.toArray listed→a6o P G al ops oi s x→f8g P G al ops sem Q n (listed.setIfInBounds i true) (app s oi.dst x)→f8g P G al ops sem Q (n+1) listed s:=by
 intro n
 induction n with
 |zero =>
  intro listed s hc hfree hr hy H
  refine ⟨fun h=>(by rw [h] at hr;cases hr),.inl fun j hj o ho=>?_⟩
  by_cases hji:j=i
  ·subst hji;rw [hi] at ho;cases ho;exact .inl (a9k hy H)
  ·have:=ready_mono hj hji
   rw [H.1] at this
   cases this
 |succ n ih =>
  intro listed s hc hfree hr hy H
  have hun:=(mem_ready.1 hr).1
  refine ⟨fun h=>(by rw [h] at hr;cases hr),.inl fun j hj oj hoj=>?_⟩
  by_cases hji:j=i
  ·subst hji;rw [hi] at hoj;cases hoj;exact .inl (a9k hy H)
  ·obtain ⟨hsem,hin⟩:=hfree j oj hoj hji (mem_ready.1 hj).1 (d7j hc hj hun)
   have hj':=ready_mono hj hji
   rcases H.2 with h1|⟨k,o,h1,h2,_⟩
   ·refine (h1 j hj' oj hoj).elim (fun h1=>?_) (fun h1=>.inr (d9f hin hy h1))
    have h2:=d9z hin hy h1
    refine .inl (d3x ?_ h2)
    rintro s' ⟨h3,h4⟩
    refine ih (listed.setIfInBounds j true) s' (hc.add hj) (fun k ok hk hki hun' hno=>?_) (ready_mono hr (Ne.symm hji)) h3 ?_
    ·refine hfree k ok hk hki ?_ hno
     by_cases hjk:j=k
     ·subst hjk;exact (mem_ready.1 hj).1
     ·rw [getD_set_ne true hjk] at hun';exact hun'
    ·rw [Array.setIfInBounds_comm _ _ hji];exact h4
   ·rw [h1] at hj'
    simp at hj'
    subst hj'
    rw [hsem] at h2
    cases h2
def f9n (P:Program) (G:Gh) (al:Al) (o:Oper) (s:St) (Q:Exit→St→Prop) (rest:St→Prop) (r:Res):Bool→Prop
 |false=>c2c al s o.dst o.op=true∧e7q P G (a2d al (nm0 al o.dst o.op)) (mkd al o.dst) o s rest r
 |true=>fin P G o s Q rest r
def gdD (G:Gh) (all:List Oper) (d:Option Nat) (s:St) (A K:St→Prop):Option (Nat×Bool)→Prop
 |none=>A s
 |some (j,w)=>match a9d all j with
  |none=>False
  |some g=>match s.get g with
   |.v (.bool b)=>(b=w→A (s.set g (.v (.bool w))))∧(b=!w→chk G.n d∧K (a3z (s.set g (.v (.bool !w))) d skV))
   |.v (.tuple ⟨[]⟩)=>chk G.n d∧K (a3z s d skV)
   |_=>False
def vcD (P:Program) (G:Gh) (al:Al) (all:List Oper) (Q:Exit→St→Prop):List (Oper×Bool)→St→Prop
 |[],s=>Q .normal s
 |(o,f)::os,s=>gdD G all o.dst s (fun s=>f9n P G al o s Q (vcD P G al all Q os) (a3r P G.ow G.lo s o.dst o.op) f) (vcD P G al all Q os) o.guard
def a3s (l:List Oper):List (Nat×Bool)→List (Oper×Bool)
 |[]=>[]
 |(i,f)::r=>match l[i]? with
  |some o=>(o,f)::a3s l r
  |none=>[]
def g7k (p:List (Nat×Bool)) (i:Nat):Bool:=p.any fun x=>x.1 == i && x.2
def d2p (al:Al) (l:List Oper) (sem:Nat→Bool) (i:Nat) (f:Bool) (listed:Array Bool):Bool:=match l[i]? with
 |none=>false
 |some oi=>match f with
  |false=>(Region.ready .any l.toArray listed).contains i && (List.range l.length).all fun j=>match l[j]? with
    |none=>true
    |some oj=>j == i || listed.getD j true || anc l l.length j i || (!sem j && d6g al l oi oj)
  |true=>Region.ready .any l.toArray listed == [i] && sem i
def b3t (al:Al) (l:List Oper) (sem:Nat→Bool):List (Nat×Bool)→Array Bool→Bool
 |[],listed=>(Region.ready .any l.toArray listed).isEmpty
 |(i,f)::r,listed=>d2p al l sem i f listed && b3t al l sem r (listed.setIfInBounds i true)
def d1e (al:Al) (l:List Oper) (p:List (Nat×Bool)):Bool:=p.length == l.length && b3t al l (g7k p) p (Array.replicate l.length false)
theorem d0w {G:Gh} {all:List Oper} {o:Oper} {s:St} {A K:St→Prop} (h:gdD G all o.dst s A K o.guard) :
  (a9f all o s=some true∧A s)∨(a9f all o s=some false∧chk G.n o.dst∧K (a3z s o.dst skV)):=by
 unfold gdD at h
 unfold a9f
 split at h
 ·exact .inl ⟨rfl,h⟩
 ·rename_i j w hg
  split at h
  ·exact h.elim
  ·rename_i g hgs
   split at h
   ·rename_i b hb
    by_cases e:b=w
    ·subst e
     refine .inl ⟨by simp,?_⟩
     have:=h.1 rfl
     rwa [a9l hb] at this
    ·have e':b=!w:=by cases b<;>cases w<;>simp_all
     subst e'
     have:=h.2 rfl
     rw [a9l hb] at this
     exact .inr ⟨by simp,this⟩
   ·rename_i hb
    exact .inr ⟨rfl,h⟩
   ·exact h.elim
theorem b6q {P:Program} {G:Gh} {al:Al} {l:List Oper} {sem:Nat→Bool} {Q:Exit→St→Prop}:∀ (p:List (Nat×Bool)) (listed:Array Bool) (s:St),Closed l listed →
  b3t al l sem p listed=true→vcD P G al l Q (a3s l p) s→f8g P G al l sem Q p.length listed s:=by
 intro p
 induction p with
 |nil=>intro listed s _ h hv;exact ⟨by simpa [b3t] using h,hv⟩
 |cons x p ih =>
  obtain ⟨i,f⟩:=x
  intro listed s hc h hv
  simp only [b3t,Bool.and_eq_true] at h
  obtain ⟨ht,hr⟩:=h
  unfold d2p at ht
  cases hi:l[i]? with
  |none=>rw [hi] at ht;cases ht
  |some oi =>
   rw [hi] at ht
   have e:a3s l ((i,f)::p)=(oi,f)::a3s l p:=by simp only [a3s,hi]
   rw [e] at hv
   have hv:=d0w hv
   cases f with
   |false =>
    simp only [Bool.and_eq_true,List.contains_iff_mem] at ht
    obtain ⟨hrd,hall⟩:=ht
    have hrd':i ∈ Region.ready .any l.toArray listed:=by simpa using hrd
    obtain ⟨x,hy,hx⟩:=b3y (P:=P) (G:=G) (al:=al) (all:=l) (o:=oi) (s:=s) (K:=vcD P G al l Q (a3s l p)) (d3g (fun ⟨a,b,c⟩=>⟨a,b,c⟩) id hv)
    refine b9k (m:=l.length) hi _ _ _ hc (fun j oj hj hji hun hno=>?_) hrd' hy (ih _ _ (hc.add hrd') hr hx)
    have hlt:j < l.length:=(List.getElem?_eq_some_iff.1 hj).1
    have:=List.all_eq_true.1 hall j (by simpa using hlt)
    simp only [hj] at this
    simpa [hji,hun,hno] using this
   |true =>
    simp only [Bool.and_eq_true] at ht
    have hrd:Region.ready .any l.toArray listed=[i]:=by simpa using ht.1
    refine ⟨fun h=>(by rw [hrd] at h;cases h),.inr ⟨i,oi,hrd,ht.2,hi,?_⟩⟩
    have hc':=hc.add (i:=i) (by rw [hrd];simp)
    rcases hv with ⟨h1,h2⟩|⟨h1,h2,h3⟩
    ·refine .inl ⟨h1,a8k (e6u (fun s h=>ih _ s hc' hr h) h2)⟩
    ·exact .inr ⟨h1,h2,ih _ _ hc' hr h3⟩
theorem a2g {P:Program} {G:Gh} {id:Nat} {l:List Oper} {s:St} {Q:Exit→St→Prop} (al:Al) (p:List (Nat×Bool)) (hm:P.follows .mixedOrders=true) (hp:d1e al l p=true)
  (h:vcD P G al l Q (a3s l p) s):SemC P G (.region id l.toArray true) s Q:=by
 simp only [d1e,Bool.and_eq_true,beq_iff_eq] at hp
 rintro a w ⟨E,hE⟩
 refine wpIn_region_any hm ?_
 have:=b6q p _ s (fun j o hj hl=>by simp [Array.getD_eq_getD_getElem?,Array.getElem?_replicate] at hl;split at hl<;>simp at hl) hp.2 h
 rw [hp.1] at this
 exact b2a _ _ _ this a _ ⟨E,hE.below ⟨rfl,rfl,rfl,Nat.le_refl _,fun _ _=>rfl⟩⟩
theorem b5r (l:List Oper):∀ (n k:Nat),k+n=l.length→a3s l ((List.range' k n).map (·,false))=(l.drop k).map (·,false):=by
 intro n
 induction n with
 |zero=>intro k h;simp [a3s,List.drop_eq_nil_of_le (by omega:l.length≤k)]
 |succ n ih =>
  intro k h
  have hk:k < l.length:=by omega
  rw [List.range'_succ,List.map_cons,a3s,List.getElem?_eq_getElem hk,List.drop_eq_getElem_cons hk,List.map_cons]
  simp only
  rw [ih (k+1) (by omega)]
theorem c6l {P:Program} {G:Gh} {o:Oper} {s:St} {Q:Exit→St→Prop} {rest rest':St→Prop} (hr:∀ s,rest s→rest' s) (h:SemStep P G o s Q rest):SemStep P G o s Q rest' :=
 fun a w hs=>Oper.wpIn_mono (fun _ _ ⟨s',h1,h2⟩=>⟨s',hr s' h1,h2⟩) (h a w hs)
def c5e (al:Al) (l:List Oper) (sem:Nat→Bool) (j:Nat) (r:List (Nat×Bool)):List Nat→Array Bool→Bool
 |[],listed=>Region.ready .any l.toArray listed == [j] && (sem j && b3t al l sem r (listed.setIfInBounds j true))
 |i::p,listed=>d2p al l sem i false listed && c5e al l sem j r p (listed.setIfInBounds i true)
theorem c9f {P:Program} {G:Gh} {al:Al} {l:List Oper} {sem:Nat→Bool} {Q:Exit→St→Prop} {j:Nat} {oj:Oper} (hj:l[j]? = some oj) (hg:oj.guard=none) (r:List (Nat×Bool)):∀ (p:List Nat) (listed:Array Bool) (s:St),Closed l listed →
  c5e al l sem j r p listed=true→vcD P G al l (fun _ s=>SemStep P G oj s Q (vcD P G al l Q (a3s l r))) (a3s l (p.map (·,false))) s→f8g P G al l sem Q (p.length+1+r.length) listed s:=by
 intro p
 induction p with
 |nil =>
  intro listed s hc h hv
  simp only [c5e,Bool.and_eq_true,beq_iff_eq] at h
  obtain ⟨h,h0,hr⟩:=h
  rw [show ([]:List Nat).length+1+r.length=r.length+1 by simp;omega]
  have hc':=hc.add (i:=j) (by rw [h];simp)
  exact ⟨fun h'=>(by rw [h] at h';cases h'),.inr ⟨j,oj,h,h0,hj,.inl ⟨by simp [a9f,hg],c6l (fun s hs=>b6q r _ s hc' hr hs) hv⟩⟩⟩
 |cons i p ih =>
  intro listed s hc h hv
  simp only [c5e,Bool.and_eq_true] at h
  obtain ⟨ht,hr⟩:=h
  unfold d2p at ht
  cases hi:l[i]? with
  |none=>rw [hi] at ht;cases ht
  |some oi =>
   rw [hi] at ht
   have e:a3s l (((i::p).map (·,false)))=(oi,false)::a3s l (p.map (·,false)):=by simp only [List.map_cons,a3s,hi]
   rw [e] at hv
   have hv:=d0w hv
   simp only [Bool.and_eq_true,List.contains_iff_mem] at ht
   obtain ⟨hrd,hall⟩:=ht
   have hrd':i ∈ Region.ready .any l.toArray listed:=by simpa using hrd
   obtain ⟨x,hy,hx⟩:=b3y (P:=P) (G:=G) (al:=al) (all:=l) (o:=oi) (s:=s) (K:=vcD P G al l (fun _ s=>SemStep P G oj s Q (vcD P G al l Q (a3s l r))) (a3s l (p.map (·,false)))) (d3g (fun ⟨a,b,c⟩=>⟨a,b,c⟩) id hv)
   rw [show (i::p).length+1+r.length=(p.length+1+r.length)+1 by simp;omega]
   refine b9k (m:=l.length) hi _ _ _ hc (fun k ok hk hki hun hno=>?_) hrd' hy (ih _ _ (hc.add hrd') hr hx)
   have hlt:k < l.length:=(List.getElem?_eq_some_iff.1 hk).1
   have:=List.all_eq_true.1 hall k (by simpa using hlt)
   simp only [hk] at this
   simpa [hki,hun,hno] using this
theorem d4w {P:Program} {G:Gh} {id:Nat} {l:List Oper} {s:St} {Q:Exit→St→Prop} (al:Al) (p:List Nat) (j:Nat) (r:List (Nat×Bool)) {oj:Oper} (hj:l[j]? = some oj) (hg:oj.guard=none) (hm:P.follows .mixedOrders=true)
  (hp:(c5e al l (fun i=>i == j) j r p (Array.replicate l.length false) && decide (p.length+1+r.length=l.length))=true)
  (h:vcD P G al l (fun _ s=>SemStep P G oj s Q (vcD P G al l Q (a3s l r))) (a3s l (p.map (·,false))) s):SemC P G (.region id l.toArray true) s Q:=by
 simp only [Bool.and_eq_true,decide_eq_true_eq] at hp
 rintro a w ⟨E,hE⟩
 refine wpIn_region_any hm ?_
 have:=c9f hj hg r p _ s (fun j o hj hl=>by simp [Array.getD_eq_getD_getElem?,Array.getElem?_replicate] at hl;split at hl<;>simp at hl) hp.1 h
 rw [hp.2] at this
 exact b2a _ _ _ this a _ ⟨E,hE.below ⟨rfl,rfl,rfl,Nat.le_refl _,fun _ _=>rfl⟩⟩
def alC (h:Bool) (d:Option Nat) (r:List Nat):List Nat:=match h,d with
 |true,some d=>d::r
 |_,_=>r
def f9k:List Oper→List Nat
 |[]=>[]
 |o::r=>alC (b8p o.op) o.dst (f9k r)
theorem a0s {P:Program} {G:Gh} {id:Nat} {l:List Oper} {s:St} {Q:Exit→St→Prop} (hm:P.follows .mixedOrders=true) (hp:d1e ⟨f9k l,[],[]⟩ l ((List.range' 0 l.length).map (·,false))=true)
  (h:vcD P G ⟨f9k l,[],[]⟩ l Q (l.map (·,false)) s):SemC P G (.region id l.toArray true) s Q :=
 a2g _ _ hm hp (by rw [b5r l _ 0 (by simp)];exact h)
theorem a5q {P:Program} {G:Gh} {id:Nat} {l:List Oper} {s:St} {Q:Exit→St→Prop} (tb:List (Nat×List Nat)) (hm:P.follows .mixedOrders=true) (hp:d1e ⟨f9k l,tb,[]⟩ l ((List.range' 0 l.length).map (·,false))=true)
  (h:vcD P G ⟨f9k l,tb,[]⟩ l Q (l.map (·,false)) s):SemC P G (.region id l.toArray true) s Q :=
 a2g _ _ hm hp (by rw [b5r l _ 0 (by simp)];exact h)
end Pm
namespace Pm
open Go Go.RowKit
theorem a0f {P:Program} {G:Gh} {N:Nat→Bool} {M:Bool} {s:St} {k:FuncId} {cap as as':List V} {r:Nat→V} (hp:a0l P k as' r) (hs:Subs (as++cap) as':=by first|exact Subs.refl _|(repeat' (first|exact Subs.nil|exact Sub.refl _|exact Sub.lo (Nat.zero_le _)|refine Subs.cons ?_ ?_|refine Subs.agg ?_|refine Subs.fp ?_|refine Subs.tup ?_|refine Sub.map (Nat.zero_le _) (fun _=>?_)))) (hpure:b0t (as++cap)=true:=by first|rfl|simp [b0t,b3o,pureV,pure0, *]):CallE P G N M (.fn (.func k) cap) as s (r G.lo,[]):=b7l hp hs hpure
end Pm
open Go Go.RowKit
namespace Pm
inductive Out:Type
 |ret (r:V) (h:List (Nat×OB))
 |pan (x:Value) (h:List (Nat×OB))
def a0x:List (Nat×OB)→List Nat
 |[]=>[]
 |(i,_)::r=>i::a0x r
theorem names_mem {h:List (Nat×OB)} {id:Nat}:id ∈ a0x h↔usH h id=true:=by
 induction h with
 |nil=>simp [a0x,usH]
 |cons p r ih=>obtain ⟨i,o⟩:=p;simp only [a0x,usH,List.mem_cons,ih,Bool.or_eq_true,beq_iff_eq];exact ⟨fun h=>d3g Eq.symm (fun h=>h) h,fun h=>d3g Eq.symm (fun h=>h) h⟩
theorem usH_lk {h:List (Nat×OB)} {id:Nat}:usH h id=true↔∃ ob,lkH h id=some ob:=by
 induction h with
 |nil=>simp [lkH,usH]
 |cons p r ih =>
  obtain ⟨i,o⟩:=p
  by_cases e:i=id
  ·subst e;simp [usH,lkH]
  ·simp [usH,lkH,e,ih]
theorem g2h {h:List (Nat×OB)} {i:Nat} {ob:OB} (hob:lkH h i=some ob):(i,ob) ∈ h:=by
 induction h with
 |nil=>cases hob
 |cons p r ih =>
  obtain ⟨a,o⟩:=p
  simp only [lkH] at hob
  split at hob
  ·rename_i e;cases hob;subst e;exact List.mem_cons_self ..
  ·exact List.mem_cons_of_mem _ (ih hob)
def b2v (h h':List (Nat×OB)):List Nat:=(a0x h).filter (usH h')
def loT (h:List (Nat×OB)) (lo:Nat):Nat:=match h with
 |[]=>lo
 |_::_=>0
theorem g1l {h:List (Nat×OB)} {lo n:Nat} (hl:lo≤n):loT h lo≤n:=by cases h<;>simp [loT,hl]
def d1v (h:List (Nat×OB)) (E:Env) (b:Nat):Prop:=∃ id ob K C,lkH h id=some ob∧E id=some (some b,K,C)
theorem f4q {h:List (Nat×OB)} {lo:Nat} {E:Env} (b:Nat) (hb:d1v h E b):loT h lo≤b:=by
 cases h with
 |nil=>obtain ⟨id,ob,K,C,h1,_⟩:=hb;cases h1
 |cons=>simp [loT]
def b0z (ow:Nat→Bool) (w:World) (O:Nat→Prop) (n:Nat) (h:List (Nat×OB)) (E:Env) (nm:List Nat) (lo:Nat) (hlo:LoOK w (fun b=>O b∨d1v h E b) lo):Gh :=
 { w0:=w,Of:=O,n:=n,M:=d1v h E,ow:=ow,lo:=loT h lo,hlo:=g1l hlo.le,hM:=f4q,nm:=nm,E0:=E,hgl:=hlo.gl }
def d6o:Nat→Bool:=fun _=>false
def Left (w:World) (O:Nat→Prop) (h:List (Nat×OB)) (E:Env) (lo:Nat) (hlo:LoOK w (fun b=>O b∨d1v h E b) lo):Out→Ending→World→Prop
 |.ret r h',e,w'=>∃ y E',e=.returned y∧SimE (b0z d6o w O 1 h E (b2v h h') lo hlo) (St.of [(0,r)] h') ⟨#[y],[]⟩ w' E'
 |.pan x h',e,w'=>∃ E',e=.panicked [{ v:=x,recovered:=false }]∧SimE (b0z d6o w O 0 h E (b2v h h') lo hlo) (St.of [] h') ⟨#[],[]⟩ w' E'
def Tri (P:Program) (f:FuncId) (as:List V) (h:List (Nat×OB)) (post:Nat→Out):Prop :=
 b9j P f∧∀ (lo:Nat) (w:World) (O:Nat→Prop) (E:Env) (ys:Array Value) (hlo:LoOK w (fun b=>O b∨d1v h E b) lo),ys.size=as.length →
  SimE (b0z d6o w O ys.size h E (a0x h) lo hlo) (St.of (a3n 0 as) h) ⟨ys,[]⟩ w E→Calls P f ys w (Left w O h E lo hlo (post (loT h lo)))
def d6p (P:Program) (s:St):ResultVar→V
 |.tmp t=>s.get t
 |.cell a t=>match s.get a,a0m P t with
  |.ptr id off,some (ag,n)=>match s.hget id with
   |some (.box cs)=>match ag with
    |true=>.agg ((cs.drop off).take n)
    |false=>(cs[off]?).getD .any
   |_=>.any
  |_,_=>.any
def f2h (P:Program) (s:St):List ResultVar→V
 |[x]=>d6p P s x
 |rs=>.tup (rs.map (d6p P s))
def b3x (h0:List (Nat×OB)) (s:St) (v:V) (r:V) (h':List (Nat×OB)) (ρ:Ren):Prop :=
 okN ρ 4 r v∧a1d ρ s h'∧a2m ρ∧a0n h' ρ∧∀ id,id ∈ b2v h0 h'→lkR ρ id=some (some id)
def a6a (P:Program) (h0:List (Nat×OB)) (rs:List ResultVar) (out:Out):Exit→St→Prop
 |.normal,s|.ret,s=>match out with
  |.ret r h'=>(∀ x,x ∈ rs→a6e P s x)∧∃ ρ,b3x h0 s (f2h P s rs) r h' ρ
  |.pan _ _=>False
 |.panic ch,s=>match out with
  |.ret _ _=>False
  |.pan x h'=>ch=[{ v:=x,recovered:=false }]∧∃ ρ,b3x h0 s .any .any h' ρ
 |_,_=>False
theorem b0n {P:Program} {G:Gh} {s:St} {a:Act} {w:World} {E:Env} (hE:SimE G s a w E) (x:ResultVar) (hx:a6e P s x) :
  ∃ y,(b6c a.tmps x).run P w=.ok y w∧R w (OT G s E) E (d6p P s x) y:=by
 cases x with
 |tmp t=>exact ⟨_,rfl,hE.fr t⟩
 |cell ad t =>
  simp only [a6e,d6p] at *
  split at hx
  ·rename_i id off ag n hp hl
   split at hx
   ·rename_i cs hcs
    simp only [hp,hl,hcs]
    obtain ⟨d,i,hu,hi,hag,hsz⟩:=a1u hl
    have hR:=hE.fr ad
    have hp':s.fr ad=.ptr id off:=hp
    rw [hp'] at hR
    obtain ⟨b,K,C,hid,hy⟩:=R.ptr_inv hR
    obtain ⟨b',K',C',hid',b'',ys,t',hb,hh,hys,_,_,hr⟩:=hE.hp id _ hcs
    rw [hid] at hid'
    cases hid'
    cases hb
    have cell:∀ j,off+j < ys.size→w.cell? ⟨b,off+j,none⟩=some (ys.getD (off+j) undef):=fun j hj=>by
     rw [cell_of_row w b _ ys t' (0,0) hh];simp [hj]
    cases ag with
    |true =>
     have hx':off+n≤cs.length:=hx
     have hrun:=a5p (P:=P) (w:=w) (b:=b) (o:=off) (n:=n) (f:=fun j=>ys.getD (off+j) undef) (fun j hj=>cell j (by omega))
     refine ⟨.agg ((List.range n).map fun j=>ys.getD (off+j) undef).toArray,?_,?_⟩
     ·simp [b6c,hy,asAddr,loadVar,a2q P w hu,hag,a1n P w hi,hsz,hrun]
     ·refine .agg _ _ (by simp;omega) fun j u y h1 h2=>?_
      obtain ⟨h3,hj⟩:=a0w _ _ _ _ h1
      rw [List.getElem?_drop] at h3
      simp [hj] at h2
      subst h2
      have hlt:off+j < ys.size:=by rw [hys];exact (List.getElem?_eq_some_iff.1 h3).1
      exact hr _ _ _ h3 (by simp [hlt])
    |false =>
     have hx':off < cs.length:=hx
     have hlt:off < ys.size:=by omega
     have h0:=cell 0 (by omega)
     simp only [Nat.add_zero] at h0
     refine ⟨ys.getD off undef,?_,?_⟩
     ·simp [b6c,hy,asAddr,loadVar,a2q P w hu,hag,h0]
     ·have h1:cs[off]? = some (cs[off]'(by omega)):=List.getElem?_eq_getElem _
      simp only [h1,Option.getD_some]
      exact hr _ _ _ h1 (by simp [hlt])
   ·exact hx.elim
  ·exact hx.elim
theorem c0z {P:Program} {G:Gh} {s:St} {a:Act} {w:World} {E:Env} (hE:SimE G s a w E) {fn:Func} {rs:List ResultVar} (hrs:fn.results=rs.toArray) (hl:rs.length≤3) (h:∀ x,x ∈ rs→a6e P s x) :
  ∃ y,(results fn a.tmps).run P w=.ok y w∧R w (OT G s E) E (f2h P s rs) y:=by
 match rs,hl with
 |[],_=>exact ⟨.tuple #[],by simp [a4t,hrs],.tup _ _ rfl (by simp)⟩
 |[x],_ =>
  obtain ⟨y,hy,hr⟩:=b0n hE x (h x (by simp))
  exact ⟨y,by simp [a4t,hrs,hy],hr⟩
 |[x,x'],_ =>
  obtain ⟨y,hy,hr⟩:=b0n hE x (h x (by simp))
  obtain ⟨y',hy',hr'⟩:=b0n hE x' (h x' (by simp))
  refine ⟨.tuple #[y,y'],?_,.tup _ _ (by simp) fun j u z h1 h2=>?_⟩
  ·simp [a4t,hrs,hy,hy']
  ·match j with
   |0=>simp at h1 h2;subst h1;subst h2;exact hr
   |1=>simp at h1 h2;subst h1;subst h2;exact hr'
   |j+2=>simp at h2
 |[x,x',x''],_ =>
  obtain ⟨y,hy,hr⟩:=b0n hE x (h x (by simp))
  obtain ⟨y',hy',hr'⟩:=b0n hE x' (h x' (by simp))
  obtain ⟨y'',hy'',hr''⟩:=b0n hE x'' (h x'' (by simp))
  refine ⟨.tuple #[y,y',y''],?_,.tup _ _ (by simp) fun j u z h1 h2=>?_⟩
  ·simp [a4t,hrs,hy,hy',hy'']
  ·match j with
   |0=>simp at h1 h2;subst h1;subst h2;exact hr
   |1=>simp at h1 h2;subst h1;subst h2;exact hr'
   |2=>simp at h1 h2;subst h1;subst h2;exact hr''
   |j+3=>simp at h2
 |_::_::_::_::_,h=>simp at h
theorem c2d {G:Gh} {w:World} {O:Nat→Prop} {h0 h':List (Nat×OB)} {E0:Env} {lo:Nat} {hlo:LoOK w (fun b=>O b∨d1v h0 E0 b) lo} {ow:Nat→Bool} {m:Nat} (hG:G=b0z ow w O m h0 E0 (a0x h0) lo hlo)
  {s:St} {a:Act} {w':World} {E:Env} (hE:SimE G s a w' E) {ρ:Ren} (hH:a1d ρ s h') (hi:a2m ρ) (hc:a0n h' ρ) (hk:∀ id,id ∈ b2v h0 h'→lkR ρ id=some (some id))
  {fl:List (Nat×V)} {ys:Array Value} (hf:∀ i,R w' (OT G s E) (a6t ρ E) (lkV fl i) (ys.getD i undef)) :
  SimE (b0z d6o w O ys.size h0 E0 (b2v h0 h') lo hlo) (St.of fl h') ⟨ys,[]⟩ w' (a6t ρ E):=by
 subst hG
 have hO:∀ b,¬ OT (b0z ow w O m h0 E0 (a0x h0) lo hlo) s E b→¬ OT (b0z d6o w O ys.size h0 E0 (b2v h0 h') lo hlo) (St.of fl h') (a6t ρ E) b:=by
  rintro b hb (h|⟨id,ob,K,C,hid,hid'⟩)
  ·exact hb (.inl h)
  ·obtain ⟨j,ob',_,h2,h3,_⟩:=a3v hH hid hid'
   exact hb (.inr ⟨j,ob',K,C,h2,h3⟩)
 refine ⟨fun i=>(hf i).weak hO fun _ _ h=>h,DefOK.nil,rfl,fun id ob hob=>c0t hE hH hob hO,fun id hid=>?_,fun id id' ob ob' b K K' h1 h2 h3 h4=>c2q hE hH hi h1 h2 h3 h4,fun id ob b K h1 h2=>?_,hE.old,hE.grow,hE.os,hE.tape,hE.output,hE.keep,fun id hid=>?_,trivial⟩
 ·unfold a6t at hid
  split at hid
  ·rename_i j hj;exact a3u hc hj
  ·rename_i hj;exact a3u hc hj
  ·exact (hid rfl).elim
 ·obtain ⟨j,ob',_,g2,g3,_⟩:=a3v hH h1 h2
  exact hE.fresh j ob' b K g2 g3
 ·obtain ⟨r,h1,h2⟩:=hE.base id (List.mem_filter.1 hid).1
  exact ⟨r,h1,by simp only [a6t,hk id hid];exact h2⟩
theorem b9d (ow:Nat→Bool) {P:Program} {f:FuncId} {fn:Func} {c:Code} {as:List V} {h0:List (Nat×OB)} {post:Nat→Out} {rs:List ResultVar} {m:Nat} (hf:P.funcs[f]? = some fn) (hm:fn.ntmps=m) (hb:fn.body=some c) (hname:(fn.name == "runtime.NumGoroutine")=false)
  (hn:as.length≤m) (hrs:fn.results=rs.toArray) (hl:rs.length≤3)
  (h:∀ (G:Gh),G.n=m→G.ow=ow→G.nm=a0x h0→G.rd=none→vc P G c (St.of (a3n 0 as) h0) (a6a P h0 rs (post G.lo))):Tri P f as h0 post:=by
 subst hm
 refine ⟨⟨fn,hf,hname,by simp [hb]⟩,fun lo w O E ys hlo hsz hE=>?_⟩
 have hE0:SimE (b0z ow w O fn.ntmps h0 E (a0x h0) lo hlo) (St.of (a3n 0 as) h0) { tmps:=ys++Array.replicate (fn.ntmps - ys.size) undef,defers:=[] } w E :=
  ⟨fun i=>by rw [b2k];exact hE.fr i,DefOK.nil,by simp [b0z];omega,hE.hp,hE.us,hE.inj,hE.fresh,hE.old,hE.grow,hE.os,hE.tape,hE.output,hE.keep,hE.base,trivial⟩
 refine a6i (G:=b0z ow w O fn.ntmps h0 E (a0x h0) lo hlo) rfl hf hb ?_
 refine wpIn_mono (a0d c _ _ (h (b0z ow w O fn.ntmps h0 E (a0x h0) lo hlo) rfl rfl rfl rfl) _ w ⟨E,hE0⟩) ?_
 rintro e a w' ⟨s,hq,E1,hE1⟩
 have hOf:∀ b,(b0z ow w O fn.ntmps h0 E (a0x h0) lo hlo).Of b→b < (b0z ow w O fn.ntmps h0 E (a0x h0) lo hlo).w0.heap.size:=fun b hb=>hE.old b hb
 have fin:a6a P h0 rs (post (loT h0 lo)) .ret s→LeavesInM Fence.wide 0 P fn a.tmps (Left w O h0 E lo hlo (post (loT h0 lo))) a.defers .returning w':=fun hq=>by
  refine b0l (by simp) hE1 hOf fun w'' hE1=>?_
  cases hp:post (loT h0 lo) with
  |pan x h'=>rw [hp] at hq;exact hq.elim
  |ret r h' =>
   rw [hp] at hq
   obtain ⟨hres,ρ,h1,h2,h3,h4,h5⟩:=hq
   obtain ⟨y,hy,hr⟩:=c0z hE1 hrs hl hres
   refine ⟨y,hy,y,a6t ρ E1,rfl,c2d (ys:=#[y]) rfl hE1 h2 h3 h4 h5 fun i=>?_⟩
   cases i with
   |zero=>exact ren 4 h1 hr
   |succ i=>exact .r0 _ _ (.any _)
 cases e with
 |normal=>exact fin hq
 |ret=>exact fin hq
 |exit=>exact hq.elim
 |goto=>exact hq.elim
 |panic ch =>
  have hq':a6a P h0 rs (post (loT h0 lo)) (.panic ch) s:=hq
  cases hp:post (loT h0 lo) with
  |ret r h'=>rw [hp] at hq';exact hq'.elim
  |pan x h' =>
   rw [hp] at hq'
   obtain ⟨rfl,ρ,_,h2,h3,h4,h5⟩:=hq'
   refine b0l (by simp) hE1 hOf fun w'' hE1=>?_
   exact ⟨a6t ρ E1,rfl,c2d (ys:=#[]) rfl hE1 h2 h3 h4 h5 fun i=>.r0 _ _ (.any _)⟩
 |outgrown=>exact hq.elim
theorem d8m (ow:Nat→Bool) {P:Program} {f:FuncId} {fn:Func} {c:Code} {as:List V} {h0:List (Nat×OB)} {post:Nat→Out} {rs:List ResultVar} {m:Nat} (hf:P.funcs[f]? = some fn) (hm:fn.ntmps=m) (hb:fn.body=some c) (hname:(fn.name == "runtime.NumGoroutine")=false)
  (hn:as.length≤m) (hrs:fn.results=rs.toArray) (hl:rs.length≤3)
  (h:∀ (G:Gh),G.n=m→G.ow=ow→G.nm=a0x h0→vc P G c (St.of (a3n 0 as) h0) (a6a P h0 rs (post G.lo))):Tri P f as h0 post:=by
 exact b9d ow hf hm hb hname hn hrs hl fun G h1 h2 h3 _=>h G h1 h2 h3
def b8b (ρ:Ren):Nat→V→V
 |0,_=>.any
 |n+1,x=>match x with
  |.ptr id off=>match lkR ρ id with
   |some (some j)=>.ptr j off
   |_=>.any
  |.eptr id i k sz=>match lkR ρ id with
   |some (some j)=>.eptr j i k sz
   |_=>.any
  |.own id off len sz=>match lkR ρ id with
   |some (some j)=>.own j off len sz
   |_=>.any
  |.mp id=>match lkR ρ id with
   |some (some j)=>.mp j
   |_=>.any
  |.agg cs=>.agg (cs.map (b8b ρ n))
  |.tup cs=>.tup (cs.map (b8b ρ n))
  |.fn f cap=>.fn f (cap.map (b8b ρ n))
  |.v x=>.v x
  |.lst lo sz l=>.lst lo sz l
  |.fp cs=>.fp cs
  |.any=>.any
def e9p (ρ:Ren):OB→OB
 |.box cs=>.box (cs.map (b8b ρ 4))
 |.arr t sz l=>.arr t sz l
 |.arx t sz l=>.arx t sz (l.map (List.map (b8b ρ 4)))
 |.map kk m=>.map kk (m.map fun q=>(q.1,b8b ρ 4 q.2))
 |.obj o=>.obj o
 |.mpe kk m j bo=>.mpe kk (m.map fun q=>(q.1,b8b ρ 4 q.2)) j bo
theorem c4w {w:World} {O:Nat→Prop} {E E':Env} {ρ:Ren} (hE:∀ id j r,lkR ρ id=some (some j)→E id=some r→E' j=some r):∀ (n:Nat) {x:V} {y:Value},R w O E x y→R w O E' (b8b ρ n x) y:=by
 intro n
 induction n with
 |zero=>intro x y _;exact .r0 _ _ (.any _)
 |succ n ih =>
  intro x y h
  unfold b8b
  cases x with
  |ptr id off =>
   simp only
   split
   ·rename_i j hj
    obtain ⟨b,K,C,h1,rfl⟩:=R.ptr_inv h
    exact .ptr j off b K C (hE _ _ _ hj h1)
   ·exact .r0 _ _ (.any _)
  |eptr id i k sz =>
   simp only
   split
   ·rename_i j hj
    obtain ⟨b,K,C,h1,hi,rfl⟩:=R.eptr_inv h
    exact .eptr j i k sz b K C (hE _ _ _ hj h1) hi
   ·exact .r0 _ _ (.any _)
  |own id off len sz =>
   simp only
   split
   ·rename_i j hj
    obtain ⟨b,K,C,h1,hv⟩:=R.own_inv h
    exact .own j off len sz b K C _ (hE _ _ _ hj h1) hv
   ·exact .r0 _ _ (.any _)
  |mp id =>
   simp only
   split
   ·rename_i j hj
    obtain ⟨b,K,C,h1,rfl⟩:=R.mp_inv h
    exact .mp j b K C (hE _ _ _ hj h1)
   ·exact .r0 _ _ (.any _)
  |agg cs =>
   obtain ⟨ys,rfl,hsz,hr⟩:=R.agg_inv h
   refine .agg _ _ (by simpa using hsz) fun j u y h1 h2=>?_
   simp only [List.getElem?_map,Option.map_eq_some_iff] at h1
   obtain ⟨u',h1,rfl⟩:=h1
   exact ih (hr j u' y h1 h2)
  |tup cs =>
   obtain ⟨ys,rfl,hsz,hr⟩:=R.tup_inv h
   refine .tup _ _ (by simpa using hsz) fun j u y h1 h2=>?_
   simp only [List.getElem?_map,Option.map_eq_some_iff] at h1
   obtain ⟨u',h1,rfl⟩:=h1
   exact ih (hr j u' y h1 h2)
  |fn f cs =>
   obtain ⟨ys,rfl,hsz,hr⟩:=R.fn_inv h
   refine .fn _ _ _ (by simpa using hsz) fun j u y h1 h2=>?_
   simp only [List.getElem?_map,Option.map_eq_some_iff] at h1
   obtain ⟨u',h1,rfl⟩:=h1
   exact ih (hr j u' y h1 h2)
  |v x=>rw [R.v_inv h];exact .r0 _ _ (.v x)
  |any=>exact .r0 _ _ (.any _)
  |lst lo sz l =>
   cases h with
   |r0 _ _ h=>exact .r0 _ _ h
  |fp cs =>
   cases h with
   |r0 _ _ h=>exact .r0 _ _ h
theorem f6g {w:World} {O:Nat→Prop} {E E':Env} {ρ:Ren} (hE:∀ id j r,lkR ρ id=some (some j)→E id=some r→E' j=some r) {b:Option Nat} {K C:Nat} {ob:OB} (h:HB w O E b K C ob):HB w O E' b K C (e9p ρ ob):=by
 cases ob with
 |arr t sz l=>exact h
 |obj o=>exact h
 |arx t sz l =>
  obtain ⟨g1,g2,g3,g4,g5⟩:=h
  refine ⟨fun x hx=>?_,g2,by simpa using g3,by simpa using g4,?_⟩
  ·obtain ⟨x',hx',rfl⟩:=List.mem_map.1 hx
   rw [List.length_map];exact g1 _ hx'
  ·cases b with
   |none=>exact g5
   |some b =>
    obtain ⟨ys,q1,q2,q3,q4,q5⟩:=g5
    refine ⟨ys,q1,q2,q3,q4,fun i x j u y h1 h2 h3=>?_⟩
    simp only [List.getElem?_map,Option.map_eq_some_iff] at h1
    obtain ⟨x',h4,rfl⟩:=h1
    simp only [List.getElem?_map,Option.map_eq_some_iff] at h2
    obtain ⟨u',h5,rfl⟩:=h2
    exact c4w hE 4 (q5 i x' j u' y h4 h5 h3)
 |mpe kk m j bo =>
  obtain ⟨b',es,clock,rfl,q2,q3,q4,q5,q6,q7⟩:=h
  refine ⟨b',es,clock,rfl,q2,q3,q4,by simpa using q5,fun i e p' h3 h4=>?_,q7⟩
  simp only [List.getElem?_map,Option.map_eq_some_iff] at h4
  obtain ⟨p2,h4,rfl⟩:=h4
  obtain ⟨k1,k2,k3⟩:=q6 i e p2 h3 h4
  exact ⟨k1,k2,c4w hE 4 k3⟩
 |map kk m =>
  obtain ⟨b',es,clock,rfl,q2,q3,q4,q5,q6,q7⟩:=h
  refine ⟨b',es,clock,rfl,q2,q3,q4,by simpa using q5,fun i e p' h3 h4=>?_,q7⟩
  simp only [List.getElem?_map,Option.map_eq_some_iff] at h4
  obtain ⟨p2,h4,rfl⟩:=h4
  obtain ⟨k1,k2,k3⟩:=q6 i e p2 h3 h4
  exact ⟨k1,k2,c4w hE 4 k3⟩
 |box cs =>
  obtain ⟨b',ys,t,g1,g2,g3,g4,g5,g6⟩:=h
  refine ⟨b',ys,t,g1,g2,by simpa using g3,by simpa using g4,g5,fun j u y h1 h2=>?_⟩
  simp only [List.getElem?_map,Option.map_eq_some_iff] at h1
  obtain ⟨u',h1,rfl⟩:=h1
  exact c4w hE 4 (g6 j u' y h1 h2)
def toR:List (Nat×Nat)→Ren
 |[]=>[]
 |(i,j)::r=>(i,some j)::toR r
def tgt:List (Nat×Nat)→List Nat
 |[]=>[]
 |(_,j)::r=>j::tgt r
def a1r (h':List (Nat×OB)):List (Nat×Nat)→List (Nat×Nat)
 |[]=>[]
 |(i,j)::r=>match usH h' i with
  |true=>(i,j)::a1r h' r
  |false=>a1r h' r
def a3q (h':List (Nat×OB)):List (Nat×Nat)→List (Nat×Option OB)
 |[]=>[]
 |(i,j)::r=>match usH h' i with
  |true=>a3q h' r
  |false=>(j,none)::a3q h' r
def a6j (ρ:Ren):List (Nat×OB)→List (Nat×Option OB)
 |[]=>[]
 |(i,ob)::r=>match lkR ρ i with
  |some (some j)=>(j,some (e9p ρ ob))::a6j ρ r
  |_=>a6j ρ r
def b4n (s:St) (h:List (Nat×OB)):List (Nat×Nat)→Prop
 |[]=>True
 |(i,j)::r=>usH h i=false∧s.used j=false∧(tgt r).contains j=false∧b4n s h r
def a7f:List (Nat×Nat)→Prop
 |[]=>True
 |(i,_)::r=>lkR (toR r) i=none∧a7f r
def a3o (ρ:Ren):List (Nat×OB)→Prop
 |[]=>True
 |(i,_)::r=>(lkR ρ i).isSome=true∧a3o ρ r
def a5t:List (Nat×OB)→Prop
 |[]=>True
 |(i,_)::r=>usH r i=false∧a5t r
def upT (ρ ν:List (Nat×Nat)) (h':List (Nat×OB)):List (Nat×Option OB):=a3q h' ρ++a6j (toR (a1r h' ρ++ν)) h'
def g4o (d:Option Nat) (s:St) (Q:Exit→St→Prop) (rest:St→Prop) (h:List (Nat×OB)) (ρ ν:List (Nat×Nat)):Out→Prop
 |.ret r h'=>b4n s h ν∧a3o (toR (a1r h' ρ++ν)) h'∧a5t h'∧rest (app s d (b8b (toR (a1r h' ρ++ν)) 4 r,upT ρ ν h'))
 |.pan x h'=>b4n s h ν∧a3o (toR (a1r h' ρ++ν)) h'∧a5t h'∧Q (.panic [{ v:=x,recovered:=false }]) (a1h s (upT ρ ν h'))
theorem a6f {ρ:List (Nat×Nat)} {i:Nat} {x:Option Nat} (h:lkR (toR ρ) i=some x):∃ j,x=some j∧(i,j) ∈ ρ:=by
 induction ρ with
 |nil=>cases h
 |cons p r ih =>
  obtain ⟨a,b⟩:=p
  simp only [toR,lkR] at h
  split at h
  ·rename_i e;cases h;subst e;exact ⟨b,rfl,List.mem_cons_self ..⟩
  ·obtain ⟨j,h1,h2⟩:=ih h;exact ⟨j,h1,List.mem_cons_of_mem _ h2⟩
theorem e3i {ρ ν:List (Nat×Nat)} {i:Nat}:lkR (toR (ρ++ν)) i=match lkR (toR ρ) i with|some x=>some x|none=>lkR (toR ν) i:=by
 induction ρ with
 |nil=>rfl
 |cons p r ih =>
  obtain ⟨a,b⟩:=p
  simp only [List.cons_append,toR,lkR]
  split
  ·rfl
  ·exact ih
theorem d0x {h':List (Nat×OB)} {ρ:List (Nat×Nat)} {i:Nat}:lkR (toR (a1r h' ρ)) i=match usH h' i with|true=>lkR (toR ρ) i|false=>none:=by
 induction ρ with
 |nil=>cases usH h' i<;>rfl
 |cons p r ih =>
  obtain ⟨a,b⟩:=p
  simp only [a1r]
  cases ha:usH h' a with
  |true =>
   simp only [toR,lkR]
   by_cases e:a=i
   ·subst e;simp [ha]
   ·simp only [e,if_false];exact ih
  |false =>
   simp only [toR,lkR]
   by_cases e:a=i
   ·subst e;rw [ih,ha]
   ·simp only [e,if_false];exact ih
theorem c9c {h':List (Nat×OB)} {ρ:List (Nat×Nat)} {p:Nat×Option OB} (hp:p ∈ a3q h' ρ):p.2=none∧∃ i,(i,p.1) ∈ ρ∧usH h' i=false:=by
 induction ρ with
 |nil=>cases hp
 |cons q r ih =>
  obtain ⟨a,b⟩:=q
  simp only [a3q] at hp
  cases ha:usH h' a with
  |true =>
   rw [ha] at hp
   obtain ⟨h1,i,h2,h3⟩:=ih hp
   exact ⟨h1,i,List.mem_cons_of_mem _ h2,h3⟩
  |false =>
   rw [ha] at hp
   simp only [List.mem_cons] at hp
   rcases hp with rfl|hp
   ·exact ⟨rfl,a,List.mem_cons_self ..,ha⟩
   ·obtain ⟨h1,i,h2,h3⟩:=ih hp
    exact ⟨h1,i,List.mem_cons_of_mem _ h2,h3⟩
theorem d6d {h':List (Nat×OB)} {ρ:List (Nat×Nat)} {i j:Nat} (hp:(i,j) ∈ ρ) (hi:usH h' i=false):(j,none) ∈ a3q h' ρ:=by
 induction ρ with
 |nil=>cases hp
 |cons q r ih =>
  obtain ⟨a,b⟩:=q
  simp only [a3q]
  rcases List.mem_cons.1 hp with e|hp
  ·cases e;rw [hi];exact List.mem_cons_self ..
  ·cases usH h' a with
   |true=>exact ih hp
   |false=>exact List.mem_cons_of_mem _ (ih hp)
theorem d6c {ρ:Ren} {h':List (Nat×OB)} {p:Nat×Option OB} (hp:p ∈ a6j ρ h'):∃ i ob,(i,ob) ∈ h'∧lkR ρ i=some (some p.1)∧p.2=some (e9p ρ ob):=by
 induction h' with
 |nil=>cases hp
 |cons q r ih =>
  obtain ⟨i,ob⟩:=q
  simp only [a6j] at hp
  split at hp
  ·rename_i j hj
   simp only [List.mem_cons] at hp
   rcases hp with rfl|hp
   ·exact ⟨i,ob,List.mem_cons_self ..,hj,rfl⟩
   ·obtain ⟨i',ob',h1,h2⟩:=ih hp
    exact ⟨i',ob',List.mem_cons_of_mem _ h1,h2⟩
  ·obtain ⟨i',ob',h1,h2⟩:=ih hp
   exact ⟨i',ob',List.mem_cons_of_mem _ h1,h2⟩
theorem f8l {h':List (Nat×OB)} (hu:a5t h') {i:Nat} {ob:OB} (h:(i,ob) ∈ h'):lkH h' i=some ob:=by
 induction h' with
 |nil=>cases h
 |cons q r ih =>
  obtain ⟨a,o⟩:=q
  obtain ⟨h1,h2⟩:=hu
  simp only [lkH]
  rcases List.mem_cons.1 h with e|h
  ·cases e;simp
  ·have:=ih h2 h
   rw [if_neg (by rintro rfl;rw [usH_lk.2 ⟨_,this⟩] at h1;cases h1)]
   exact this
theorem b9e {s:St} {l:List (Nat×Option OB)} {i:Nat}:((a1h s l).hp i=s.hp i∧∀ p,p ∈ l→p.1≠i)∨∃ x,(i,x) ∈ l∧(a1h s l).hp i=x:=by
 induction l generalizing s with
 |nil=>exact .inl ⟨rfl,by simp⟩
 |cons p r ih =>
  obtain ⟨j,o⟩:=p
  simp only [a1h]
  rcases ih (s:=s.hset j o) with ⟨h1,h2⟩|⟨x,h1,h2⟩
  ·by_cases e:j=i
   ·subst e;exact .inr ⟨o,List.mem_cons_self ..,by rw [h1];simp [St.hset]⟩
   ·refine .inl ⟨by rw [h1];simp [St.hset,e],fun p hp=>?_⟩
    rcases List.mem_cons.1 hp with rfl|hp
    ·exact e
    ·exact h2 p hp
  ·exact .inr ⟨x,List.mem_cons_of_mem _ h1,h2⟩
theorem hsets_us {s:St} {l:List (Nat×Option OB)} {i:Nat}:(a1h s l).us i=true↔s.us i=true∨∃ x,(i,x) ∈ l:=by
 induction l generalizing s with
 |nil=>simp [a1h]
 |cons p r ih =>
  obtain ⟨j,o⟩:=p
  simp only [a1h,ih]
  simp only [St.hset,Bool.or_eq_true,beq_iff_eq,List.mem_cons,Prod.mk.injEq]
  constructor
  ·rintro ((h|h)|⟨x,h⟩)
   ·exact .inr ⟨o,.inl ⟨h.symm,rfl⟩⟩
   ·exact .inl h
   ·exact .inr ⟨x,.inr h⟩
  ·rintro (h|⟨x,⟨h,_⟩|h⟩)
   ·exact .inl (.inr h)
   ·exact .inl (.inl h.symm)
   ·exact .inr ⟨x,h⟩
theorem e5q {s:St} {l:List (Nat×Option OB)}:(a1h s l).fr=s.fr:=by
 induction l generalizing s with
 |nil=>rfl
 |cons p r ih=>exact ih
theorem d7p {s:St} {h:List (Nat×OB)}:∀ {ν:List (Nat×Nat)},b4n s h ν→(∀ i j,(i,j) ∈ ν→usH h i=false∧s.us j=false)∧∀ i i' j,(i,j) ∈ ν→(i',j) ∈ ν→lkR (toR ν) i=some (some j)→lkR (toR ν) i'=some (some j)→i=i':=by
 have mt:∀ {ν:List (Nat×Nat)} {i j:Nat},(i,j) ∈ ν→(tgt ν).contains j=true:=fun {ν}=>by
  induction ν with
  |nil=>intro i j h;cases h
  |cons p r ih =>
   obtain ⟨a,b⟩:=p
   intro i j h
   simp only [tgt,List.contains_cons,Bool.or_eq_true,beq_iff_eq]
   rcases List.mem_cons.1 h with e|h
   ·cases e;exact .inl rfl
   ·exact .inr (ih h)
 intro ν
 induction ν with
 |nil=>intro _;exact ⟨by simp,by simp⟩
 |cons p r ih =>
  obtain ⟨a,b⟩:=p
  rintro ⟨h1,h2,h3,h4⟩
  obtain ⟨g1,g2⟩:=ih h4
  refine ⟨fun i j hm=>?_,fun i i' j hm hm'=>?_⟩
  ·rcases List.mem_cons.1 hm with e|hm
   ·cases e;exact ⟨h1,h2⟩
   ·exact g1 i j hm
  ·intro hl hl'
   simp only [toR,lkR] at hl hl'
   split at hl<;>split at hl'
   ·omega
   ·simp at hl;subst hl
    obtain ⟨j',e,hm2⟩:=a6f hl'
    cases e
    rw [mt hm2] at h3;cases h3
   ·simp at hl';subst hl'
    obtain ⟨j',e,hm2⟩:=a6f hl
    cases e
    rw [mt hm2] at h3;cases h3
   ·obtain ⟨_,e,q1⟩:=a6f hl
    cases e
    obtain ⟨_,e,q2⟩:=a6f hl'
    cases e
    exact g2 i i' j q1 q2 hl hl'
theorem c5d {G:Gh} {s:St} {a:Act} {w:World} {E:Env} (hE:SimE G s a w E) {h:List (Nat×OB)} {ρ:List (Nat×Nat)} (hH:a1d (toR ρ) s h) (hi:a2m (toR ρ)) (hc:a0n h (toR ρ))
  {as:List V} {ys:Array Value} (ha:∀ j u,as[j]? = some u→R w (OT G s E) (a6t (toR ρ) E) u (ys.getD j undef)) {lo:Nat} (hlo:LoOK w (fun b=>(G.Of b∨∃ id ob K C,s.hp id=some ob∧E id=some (some b,K,C)∧id ∉ tgt ρ)∨d1v h (a6t (toR ρ) E) b) lo) :
  SimE (b0z d6o w (fun b=>G.Of b∨∃ id ob K C,s.hp id=some ob∧E id=some (some b,K,C)∧id ∉ tgt ρ) ys.size h (a6t (toR ρ) E) (a0x h) lo hlo) (St.of (a3n 0 as) h) ⟨ys,[]⟩ w (a6t (toR ρ) E):=by
 have hO:∀ b,¬ OT G s E b→¬ OT (b0z d6o w (fun b=>G.Of b∨∃ id ob K C,s.hp id=some ob∧E id=some (some b,K,C)∧id ∉ tgt ρ) ys.size h (a6t (toR ρ) E) (a0x h) lo hlo) (St.of (a3n 0 as) h) (a6t (toR ρ) E) b:=by
  rintro b hb ((h|⟨id,ob,K,C,h1,h2,_⟩)|⟨id,ob,K,C,hid,hid'⟩)
  ·exact hb (.inl h)
  ·exact hb (.inr ⟨id,ob,K,C,h1,h2⟩)
  ·obtain ⟨j,ob',_,h2,h3,_⟩:=a3v hH hid hid'
   exact hb (.inr ⟨j,ob',K,C,h2,h3⟩)
 have mt:∀ {i j:Nat},lkR (toR ρ) i=some (some j)→j ∈ tgt ρ:=fun {i j} h=>by
  obtain ⟨_,e,hm⟩:=a6f h
  cases e
  clear h hO
  clear hlo
  clear hH hi hc ha
  induction ρ with
  |nil=>cases hm
  |cons p r ih =>
   obtain ⟨a,b⟩:=p
   rcases List.mem_cons.1 hm with e|hm
   ·cases e;exact List.mem_cons_self ..
   ·exact List.mem_cons_of_mem _ (ih hm)
 refine ⟨fun i=>?_,DefOK.nil,rfl,fun id ob hob=>c0t hE hH hob hO,fun id hid=>?_,fun id id' ob ob' b K K' h1 h2 h3 h4=>c2q hE hH hi h1 h2 h3 h4,fun id ob b K h1 h2=>?_,fun b hb=>?_,Nat.le_refl _,rfl,rfl,rfl,fun _ _ _=>rfl,fun id hid=>?_,trivial⟩
 ·show R w _ _ (lkV (a3n 0 as) i) _
  rw [b1t]
  simp only [Nat.zero_le,if_true,Nat.sub_zero]
  cases hj:as[i]? with
  |none=>exact .r0 _ _ (.any _)
  |some u=>exact (ha i u hj).weak hO fun _ _ h=>h
 ·unfold a6t at hid
  split at hid
  ·rename_i j hj;exact a3u hc hj
  ·rename_i hj;exact a3u hc hj
  ·exact (hid rfl).elim
 ·obtain ⟨Kk,Cc⟩:=K
  obtain ⟨j,ob',g1,g2,g3,_⟩:=a3v hH h1 h2
  refine ⟨.inr ⟨id,ob,Kk,Cc,h1,h2⟩,?_,(hE.fresh j ob' b _ g2 g3).2.2⟩
  rintro (hof|⟨i,o,K',C',q1,q2,q3⟩)
  ·exact (hE.fresh j ob' b _ g2 g3).2.1 hof
  ·have:=hE.inj j i ob' o b _ _ g2 q1 g3 q2
   subst this
   exact q3 (mt g1)
 ·rcases hb with hb|⟨id,ob,K,C,h1,h2,_⟩
  ·exact hE.old b hb
  ·exact (hE.fresh id ob b _ h1 h2).2.2
 ·obtain ⟨ob,hob⟩:=usH_lk.1 (names_mem.1 hid)
  obtain ⟨b,K,C,h1,_⟩:=c0t hE hH hob hO
  exact ⟨_,h1,h1⟩
theorem b6d {G:Gh} {s:St} {a:Act} {w:World} {E:Env} (hE:SimE G s a w E) {h h':List (Nat×OB)} {ρ ν:List (Nat×Nat)} (hH:a1d (toR ρ) s h) (hc:a0n h (toR ρ))
  {lo:Nat} {hlo:LoOK w (fun b=>(G.Of b∨∃ id ob K C,s.hp id=some ob∧E id=some (some b,K,C)∧id ∉ tgt ρ)∨d1v h (a6t (toR ρ) E) b) lo} {n:Nat} {fl:List (Nat×V)} {a1:Act} {w':World} {E1:Env}
  (h1:SimE (b0z d6o w (fun b=>G.Of b∨∃ id ob K C,s.hp id=some ob∧E id=some (some b,K,C)∧id ∉ tgt ρ) n h (a6t (toR ρ) E) (b2v h h') lo hlo) (St.of fl h') a1 w' E1)
  (hq:a7f ρ) (hν:b4n s h ν) (hu:a5t h') :
  ∃ E',SimE G (a1h s (upT ρ ν h')) a w' E'∧∀ {x:V} {y:Value},R w' (OT (b0z d6o w (fun b=>G.Of b∨∃ id ob K C,s.hp id=some ob∧E id=some (some b,K,C)∧id ∉ tgt ρ) n h (a6t (toR ρ) E) (b2v h h') lo hlo) (St.of fl h') E1) E1 x y →
   R w' (OT G (a1h s (upT ρ ν h')) E') E' (b8b (toR (a1r h' ρ++ν)) 4 x) y:=by
 obtain ⟨hν1,hν2⟩:=d7p hν
 -- how a0x go over
 have hlk:∀ i j,lkR (toR (a1r h' ρ++ν)) i=some (some j)→(lkR (toR ρ) i=some (some j)∧usH h' i=true)∨(lkR (toR ν) i=some (some j)∧usH h i=false∧s.us j=false):=fun i j hj=>by
  rw [e3i,d0x] at hj
  cases hu':usH h' i with
  |false =>
   rw [hu'] at hj
   obtain ⟨_,e,hm⟩:=a6f hj
   cases e
   exact .inr ⟨hj,hν1 i j hm⟩
  |true =>
   rw [hu'] at hj
   simp only at hj
   cases hr:lkR (toR ρ) i with
   |some x=>rw [hr] at hj;exact .inl ⟨hj,rfl⟩
   |none =>
    rw [hr] at hj
    obtain ⟨_,e,hm⟩:=a6f hj
    cases e
    exact .inr ⟨hj,hν1 i j hm⟩
 have hEj:∀ i j r,lkR (toR ρ) i=some (some j)→usH h' i=true→E1 i=some r→E j=some r:=fun i j r hj hi' hr=>by
  have hih:usH h i=true:=a3u hc hj
  obtain ⟨r',q1,q2⟩:=h1.base i (List.mem_filter.2 ⟨names_mem.2 hih,hi'⟩)
  rw [hr] at q2
  cases q2
  have q1':a6t (toR ρ) E i=some r:=q1
  simpa [a6t,hj] using q1'
 have hun:∀ j,s.us j=false→E j=none:=fun j hj=>by
  cases he:E j with
  |none=>rfl
  |some r=>have:=hE.us j (by rw [he];simp);rw [hj] at this;cases this
 -- the caller's new a0x
 let E':Env:=fun j=>match E j with
  |some r=>some r
  |none=>match (a0x h').find? (fun i=>lkR (toR (a1r h' ρ++ν)) i == some (some j)) with
   |some i=>E1 i
   |none=>none
 have hEE:∀ j r,E j=some r→E' j=some r:=fun j r hr=>by show (match E j with|some r=>some r|none=>_)=_;rw [hr]
 have hinjν:∀ i i' j,lkR (toR (a1r h' ρ++ν)) i=some (some j)→lkR (toR (a1r h' ρ++ν)) i'=some (some j)→s.us j=false→i=i':=fun i i' j q1 q2 hj=>by
  have old:∀ i,lkR (toR ρ) i=some (some j)→False:=fun i hij=>by
   have hih:usH h i=true:=a3u hc hij
   obtain ⟨ob,hob⟩:=usH_lk.1 hih
   have:=b6y hH i ob hob
   rw [hij] at this
   have h3':a1l (toR ρ) ob (s.hp j):=this
   cases ho:s.hp j with
   |none=>rw [ho] at h3';cases ob<;>exact h3'.elim
   |some ob' =>
    obtain ⟨b,K,C,q,_⟩:=hE.hp j ob' ho
    rw [hun j hj] at q;cases q
  rcases hlk i j q1 with ⟨g,_⟩|⟨g,_⟩
  ·exact (old i g).elim
  ·rcases hlk i' j q2 with ⟨g',_⟩|⟨g',_⟩
   ·exact (old i' g').elim
   ·obtain ⟨_,e,m1⟩:=a6f g
    cases e
    obtain ⟨_,e,m2⟩:=a6f g'
    cases e
    exact hν2 i i' j m1 m2 g g'
 have hE1:∀ i j r,lkR (toR (a1r h' ρ++ν)) i=some (some j)→E1 i=some r→E' j=some r:=fun i j r hj hr=>by
  rcases hlk i j hj with ⟨g1,g2⟩|⟨g1,g2,g3⟩
  ·exact hEE j r (hEj i j r g1 g2 hr)
  ·have hi':i ∈ a0x h':=names_mem.2 (h1.us i (by rw [hr];simp))
   show (match E j with|some r=>some r|none=>_)=_
   rw [hun j g3]
   simp only
   have hf:∃ i',(a0x h').find? (fun i=>lkR (toR (a1r h' ρ++ν)) i == some (some j))=some i':=by
    cases hf:(a0x h').find? (fun i=>lkR (toR (a1r h' ρ++ν)) i == some (some j)) with
    |some i'=>exact ⟨i',rfl⟩
    |none =>
     have:=List.find?_eq_none.1 hf i hi'
     simp [hj] at this
   obtain ⟨i',hf⟩:=hf
   rw [hf]
   have hf':=List.find?_some hf
   simp only [beq_iff_eq] at hf'
   rw [hinjν i i' j hj hf' g3] at hr
   exact hr
 have hE'none:∀ j,E j=none→(∀ i,lkR (toR (a1r h' ρ++ν)) i≠some (some j))→E' j=none:=fun j hj hno=>by
  show (match E j with|some r=>some r|none=>_)=_
  rw [hj]
  simp only
  cases hf:(a0x h').find? (fun i=>lkR (toR (a1r h' ρ++ν)) i == some (some j)) with
  |none=>rfl
  |some i=>have:=List.find?_some hf;simp only [beq_iff_eq] at this;exact (hno i this).elim
 -- which a0x are altered
 let N:Nat→Prop:=fun j=>(∃ i,lkR (toR ρ) i=some (some j))∨∃ i,lkR (toR (a1r h' ρ++ν)) i=some (some j)
 have hmemρ:∀ i j,(i,j) ∈ ρ→lkR (toR ρ) i=some (some j):=fun i j hm=>by
  have:∀ {l:List (Nat×Nat)},a7f l→(i,j) ∈ l→lkR (toR l) i=some (some j):=fun {l}=>by
   induction l with
   |nil=>intro _ h;cases h
   |cons p r ih =>
    obtain ⟨a,b⟩:=p
    rintro ⟨q1,q2⟩ hm
    simp only [toR,lkR]
    rcases List.mem_cons.1 hm with e'|hm
    ·cases e';simp
    ·have:=ih q2 hm
     rw [if_neg (by rintro rfl;rw [q1] at this;cases this)]
     exact this
  exact this hq hm
 have hin:∀ i j,lkR (toR (a1r h' ρ++ν)) i=some (some j)→usH h' i=true→∃ ob,(i,ob) ∈ h'∧(j,some (e9p (toR (a1r h' ρ++ν)) ob)) ∈ upT ρ ν h':=fun i j hj hi'=>by
  obtain ⟨ob,hob⟩:=usH_lk.1 hi'
  have hm:(i,ob) ∈ h':=g2h hob
  refine ⟨ob,hm,List.mem_append_right _ ?_⟩
  have:∀ {l:List (Nat×OB)},(i,ob) ∈ l→(j,some (e9p (toR (a1r h' ρ++ν)) ob)) ∈ a6j (toR (a1r h' ρ++ν)) l:=fun {l}=>by
   induction l with
   |nil=>intro h;cases h
   |cons p r ih =>
    obtain ⟨a,o⟩:=p
    intro hm
    simp only [a6j]
    rcases List.mem_cons.1 hm with e|hm
    ·cases e;rw [hj];exact List.mem_cons_self ..
    ·split
     ·exact List.mem_cons_of_mem _ (ih hm)
     ·exact ih hm
  exact this hm
 -- where an altered name's memory comes from
 have hup:∀ p,p ∈ upT ρ ν h'→(p.2=none∧∃ i,lkR (toR ρ) i=some (some p.1)∧usH h' i=false)∨∃ i ob,lkH h' i=some ob∧lkR (toR (a1r h' ρ++ν)) i=some (some p.1)∧p.2=some (e9p (toR (a1r h' ρ++ν)) ob):=fun p hp=>by
  rcases List.mem_append.1 hp with hp|hp
  ·obtain ⟨g1,i,g2,g3⟩:=c9c hp
   exact .inl ⟨g1,i,hmemρ _ _ g2,g3⟩
  ·obtain ⟨i,ob,g1,g2,g3⟩:=d6c hp
   exact .inr ⟨i,ob,f8l hu g1,g2,g3⟩
 have hupN:∀ p,p ∈ upT ρ ν h'→N p.1:=fun p hp=>by
  rcases hup p hp with ⟨_,i,g,_⟩|⟨i,ob,_,g,_⟩
  ·exact .inl ⟨i,g⟩
  ·exact .inr ⟨i,g⟩
 have himg:∀ j o,N j→(a1h s (upT ρ ν h')).hp j=some o→∃ i ob,lkH h' i=some ob∧lkR (toR (a1r h' ρ++ν)) i=some (some j)∧o=e9p (toR (a1r h' ρ++ν)) ob:=fun j o hj ho=>by
  rcases b9e (s:=s) (l:=upT ρ ν h') (i:=j) with ⟨g1,g2⟩|⟨x,g1,g2⟩
  ·exfalso
   rw [g1] at ho
   obtain ⟨b,K,C,q1,_⟩:=hE.hp j o ho
   rcases hj with ⟨i,hij⟩|⟨i,hij⟩
   ·cases hi':usH h' i with
    |true =>
     obtain ⟨ob,_,hm⟩:=hin i j (by rw [e3i,d0x,hi'];simp only [hij]) hi'
     exact g2 _ hm rfl
    |false =>
     obtain ⟨_,e,hm⟩:=a6f hij
     cases e
     exact g2 _ (List.mem_append_left _ (d6d hm hi')) rfl
   ·rcases hlk i j hij with ⟨_,hi'⟩|⟨_,_,hus⟩
    ·obtain ⟨ob,_,hm⟩:=hin i j hij hi'
     exact g2 _ hm rfl
    ·rw [hun j hus] at q1;cases q1
  ·rw [g2] at ho
   subst ho
   rcases hup _ g1 with ⟨g,_⟩|⟨i,ob,q1,q2,q3⟩
   ·cases g
   ·cases q3
    exact ⟨i,ob,q1,q2,rfl⟩
 have himgE:∀ i j ob,lkH h' i=some ob→lkR (toR (a1r h' ρ++ν)) i=some (some j)→E' j=E1 i:=fun i j ob hob hj=>by
  obtain ⟨b,K,C,q1,_⟩:=h1.hp i ob hob
  rw [q1];exact hE1 i j _ hj q1
 have hother:∀ j,¬ N j→(a1h s (upT ρ ν h')).hp j=s.hp j∧E' j=E j:=fun j hj=>by
  refine ⟨?_,?_⟩
  ·rcases b9e (s:=s) (l:=upT ρ ν h') (i:=j) with ⟨g1,_⟩|⟨x,g1,_⟩
   ·exact g1
   ·exact (hj (hupN _ g1)).elim
  ·cases he:E j with
   |some r=>exact hEE j r he
   |none=>exact hE'none j he fun i hi=>hj (.inr ⟨i,hi⟩)
 have htgt:∀ j,j ∈ tgt ρ→N j:=fun j hj=>by
  have:∀ {l:List (Nat×Nat)},j ∈ tgt l→∃ i,(i,j) ∈ l:=fun {l}=>by
   induction l with
   |nil=>intro h;cases h
   |cons p r ih =>
    obtain ⟨a,b⟩:=p
    intro h
    simp only [tgt,List.mem_cons] at h
    rcases h with rfl|h
    ·exact ⟨a,List.mem_cons_self ..⟩
    ·obtain ⟨i,hi⟩:=ih h;exact ⟨i,List.mem_cons_of_mem _ hi⟩
  obtain ⟨i,hi⟩:=this hj
  exact .inl ⟨i,hmemρ _ _ hi⟩
 have hOT1:∀ b,OT G (a1h s (upT ρ ν h')) E' b→OT (b0z d6o w (fun b=>G.Of b∨∃ id ob K C,s.hp id=some ob∧E id=some (some b,K,C)∧id ∉ tgt ρ) n h (a6t (toR ρ) E) (b2v h h') lo hlo) (St.of fl h') E1 b:=by
  rintro b (hb|⟨j,o,K,C,q1,q2⟩)
  ·exact .inl (.inl hb)
  ·by_cases hj:N j
   ·obtain ⟨i,ob,g1,g2,rfl⟩:=himg j o hj q1
    rw [himgE i j ob g1 g2] at q2
    exact .inr ⟨i,ob,K,C,g1,q2⟩
   ·rw [(hother j hj).1] at q1;rw [(hother j hj).2] at q2
    exact .inl (.inr ⟨j,o,K,C,q1,q2,fun h=>hj (htgt j h)⟩)
 have hM:∀ b,d1v h (a6t (toR ρ) E) b→∃ id0 ob0 K0 C0,N id0∧s.hp id0=some ob0∧E id0=some (some b,K0,C0):=by
  rintro b ⟨i,ob,K,C,q1,q2⟩
  obtain ⟨j,ob',g1,g2,g3,_⟩:=a3v hH q1 q2
  exact ⟨j,ob',K,C,.inl ⟨i,g1⟩,g2,g3⟩
 obtain ⟨r1,r2⟩:=hE.upd (s':=a1h s (upT ρ ν h')) (w':=w') (E':=E') N e5q h1.grow h1.os h1.tape h1.output
  (fun b hlt hno=>h1.keep b hlt fun hm=>by obtain ⟨j,o,K,C,g1,g2,g3⟩:=hM b hm;exact hno j o K C g1 g2 g3)
  hother hEE (fun j hj=>hsets_us.2 (.inl hj))
  (fun j _ he=>by
   cases hej:E j with
   |some r=>exact hsets_us.2 (.inl (hE.us j (by rw [hej];simp)))
   |none =>
    have he':(match E j with|some r=>some r|none=>match (a0x h').find? (fun i=>lkR (toR (a1r h' ρ++ν)) i == some (some j)) with|some i=>E1 i|none=>none)≠none:=he
    rw [hej] at he'
    simp only at he'
    cases hf:(a0x h').find? (fun i=>lkR (toR (a1r h' ρ++ν)) i == some (some j)) with
    |none=>rw [hf] at he';exact (he' rfl).elim
    |some i =>
     have h2:=List.find?_some hf
     simp only [beq_iff_eq] at h2
     obtain ⟨ob,_,hm⟩:=hin i j h2 (names_mem.1 (List.mem_of_find?_eq_some hf))
     exact hsets_us.2 (.inr ⟨_,hm⟩))
  (fun j o hj ho=>by
   obtain ⟨i,ob,g1,g2,rfl⟩:=himg j o hj ho
   obtain ⟨b,K,C,q1,q2⟩:=h1.hp i ob g1
   exact ⟨b,K,C,hE1 i j _ g2 q1,fun _=>(f6g hE1 q2).mono (Nat.le_refl _) (fun b hb _ h=>hb (hOT1 b h)) (fun _ _ _=>rfl) (fun _ _ h=>h) (fun _ _=>rfl)⟩)
  (fun j o b K C hj ho he=>by
   obtain ⟨i,ob,g1,g2,rfl⟩:=himg j o hj ho
   rw [himgE i j ob g1 g2] at he
   obtain ⟨q1,_,q3⟩:=h1.fresh i ob b _ g1 he
   rcases q1 with q1|q1
   ·exact .inl ⟨q1,q3⟩
   ·exact .inr (hM b q1))
  (fun j j' o o' b x x' hj hj' ho ho' he he'=>by
   obtain ⟨i,ob,g1,g2,rfl⟩:=himg j o hj ho
   obtain ⟨i',ob',g1',g2',rfl⟩:=himg j' o' hj' ho'
   rw [himgE i j ob g1 g2] at he
   rw [himgE i' j' ob' g1' g2'] at he'
   have:=h1.inj i i' ob ob' b x x' g1 g1' he he'
   subst this
   rw [g2] at g2'
   cases g2';rfl)
 exact ⟨E',r1,fun hx=>(c4w hE1 4 hx).mono (Nat.le_refl _) (fun b hb _ h=>hb (hOT1 b h)) (fun _ _ _=>rfl) fun _ _ h=>h⟩
theorem g7n {G:Gh} {s:St} {a:Act} {w:World} {E:Env} (hE:SimE G s a w E) {l:List Operand} {cap:List V} {ys:Array Value} (hsz:ys.size=cap.length) (hr:∀ (j:Nat) (u:V) (y:Value),cap[j]? = some u→ys[j]? = some y→R w (OT G s E) E u y) :
  ((l.map a.eval).toArray++ys).size=(l.map (ev s)++cap).length∧∀ (j:Nat) (u:V),(l.map (ev s)++cap)[j]? = some u→R w (OT G s E) E u (((l.map a.eval).toArray++ys).getD j undef):=by
 refine ⟨by simp [hsz],fun j u h1=>?_⟩
 rw [Array.getD_eq_getD_getElem?]
 by_cases hj:j < l.length
 ·rw [List.getElem?_append_left (by simpa using hj)] at h1
  rw [Array.getElem?_append_left (by simpa using hj)]
  simp only [List.getElem?_map,Option.map_eq_some_iff] at h1
  obtain ⟨z,hz,rfl⟩:=h1
  simp [hz]
  exact b6t hE z
 ·rw [List.getElem?_append_right (by simpa using hj)] at h1
  rw [Array.getElem?_append_right (by simpa using hj)]
  simp only [List.length_map,List.size_toArray] at h1 ⊢
  have hlt:j - l.length < ys.size:=by rw [hsz];exact (List.getElem?_eq_some_iff.1 h1).1
  rw [Array.getElem?_eq_getElem hlt]
  exact hr _ _ _ h1 (Array.getElem?_eq_getElem hlt)
theorem c7g {P:Program} {G:Gh} {a:Act} {w:World} {o:Oper} {x:Operand} {l:List Operand} {ts:Array TypeId} (ho:o.op=.call ⟨.value x,l.toArray,ts⟩) {k:FuncId} (hk:b9j P k) {cap:Array Value} (hx:a.eval x=.func (.func k) #[] cap)
  {K:Act→World→Prop} {Q:Exit→Act→World→Prop} {R:Ending→World→Prop} (hc:Calls P k ((l.map a.eval).toArray++cap) w R)
  (h:∀ e w',R e w'→(∃ y,e=.returned y∧K (a.put o.dst y) w')∨∃ ch,e=.panicked ch∧Q (.panic ch) a w'):o.wpIn G.F 0 P a w K Q:=by
 refine a0z (fun c hc=>by rw [ho] at hc;cases hc) ?_
 obtain ⟨fn,hf,hn,hb⟩:=hk
 unfold Oper.wp
 have hrun:(execOp a.eval o).run P w=.ok (.enter k ((l.map a.eval).toArray++cap)) w:=by
  have hn':fn.name≠"runtime.NumGoroutine":=by simpa using hn
  have hb':fn.body≠none:=by intro h;simp [h] at hb
  simp [execOp,ho,resolve,Deferred.ofValue,hx,invoke,callFunc,hf,hb',hn']
 rw [hrun,Oper.upon_enter]
 refine hc.mono fun e w' hr=>?_
 rcases h e w' hr with ⟨y,rfl,hK⟩|⟨ch,rfl,hQ⟩
 ·exact hK
 ·exact hQ
theorem e3t {G:Gh} {s:St} {a:Act} {w:World} {E:Env} (hE:SimE G s a w E) {h:List (Nat×OB)} {ρ:List (Nat×Nat)} (hH:a1d (toR ρ) s h):LoOK w (fun b=>(G.Of b∨∃ id ob K C,s.hp id=some ob∧E id=some (some b,K,C)∧id ∉ tgt ρ)∨d1v h (a6t (toR ρ) E) b) G.lo:=by
 refine ⟨Nat.le_trans G.hlo hE.grow,hE.glob.weak ?_⟩
 rintro b ((q|⟨id,ob,K,C,h1,h2,_⟩)|⟨id,ob,K,C,h1,h2⟩)
 ·exact .inl q
 ·exact .inr ⟨id,ob,K,C,h1,h2⟩
 ·obtain ⟨j,ob',_,g2,g3,_⟩:=a3v hH h1 h2
  exact .inr ⟨j,ob',K,C,g2,g3⟩
theorem b5j {P:Program} {G:Gh} {o:Oper} {s:St} {Q:Exit→St→Prop} {rest:St→Prop} {k:FuncId} {cap as as':List V} {h:List (Nat×OB)} {post:Nat→Out} (ρ ν:List (Nat×Nat)) (hp:Tri P k as' h post)
  (hA:okL (okN (toR ρ) 4) as' (as++cap)) (hH:a1d (toR ρ) s h) (hi:a2m (toR ρ)) (hcv:a0n h (toR ρ)) (hq:a7f ρ) (hc:chk G.n o.dst)
  (hr:g4o o.dst s Q rest h ρ ν (post (loT h G.lo))):a3k P G o s Q rest (.fn (.func k) cap) as:=by
 rintro x l ts ho hx rfl a w ⟨E,hE⟩
 obtain ⟨ys,hy,hsz,hrr⟩:=R.fn_inv (a1t hE hx.symm)
 obtain ⟨hn,hargs⟩:=g7n (l:=l) hE hsz hrr
 obtain ⟨hl1,hl2⟩:=b0m hA
 have hlo:=e3t hE hH
 have hen:=c5d hE hH hi hcv (as:=as') (ys:=(l.map a.eval).toArray++ys) (fun j u hj=>by
  obtain ⟨x',g1,g2⟩:=hl2 j u hj
  exact ren 4 g2 (hargs j x' g1)) hlo
 refine c7g ho hp.1 hy (hp.2 G.lo w _ _ _ hlo (by omega) hen) ?_
 intro e w' hleft
 cases hpost:post (loT h G.lo) with
 |ret r h' =>
  rw [hpost] at hleft hr
  obtain ⟨y,E1,rfl,h1⟩:=hleft
  obtain ⟨a1,a2,a3,a4⟩:=hr
  obtain ⟨E',b1,b2⟩:=b6d hE hH hcv h1 hq a1 a3
  have hR:=h1.fr 0
  refine .inl ⟨y,rfl,_,a4,E',b1.put (a2s hc) (b2 ?_)⟩
  simpa [St.of,lkV] using hR
 |pan v h' =>
  rw [hpost] at hleft hr
  obtain ⟨E1,rfl,h1⟩:=hleft
  obtain ⟨a1,a2,a3,a4⟩:=hr
  obtain ⟨E',b1,b2⟩:=b6d hE hH hcv h1 hq a1 a3
  exact .inr ⟨_,rfl,_,a4,E',b1⟩
end Pm
namespace Pm
open Go Go.RowKit
theorem a0c {P:Program} {G:Gh} {o:Oper} {s:St} {Q:Exit→St→Prop} {rest:St→Prop} {k:FuncId} {cap as as':List V} {h:List (Nat×OB)} {post:Nat→Out} (ρ ν:List (Nat×Nat)) (hp:Tri P k as' h post) (hr:g4o o.dst s Q rest h ρ ν (post (loT h G.lo)))
  (hA:okL (okN (toR ρ) 4) as' (as++cap):=by (simp only [go_sem])<;>simp) (hH:a1d (toR ρ) s h:=by (simp only [go_sem,a1d,a0r,a0i,a1l])<;>simp) (hcv:a0n h (toR ρ):=by simp [a0n,usH,toR]) (hi:a2m (toR ρ):=by simp [a2m,apart,toR]) (hq:a7f ρ:=by simp [a7f,lkR,toR]) (hc:chk G.n o.dst:=by simp [chk,hG]):a3k P G o s Q rest (.fn (.func k) cap) as:=b5j ρ ν hp hA hH hi hcv hq hc hr
end Pm
namespace Pm
open Go Go.RowKit
theorem a0e (ow:Nat→Bool) {P:Program} {f:FuncId} {fn:Func} {c:Code} {as:List V} {h0:List (Nat×OB)} {post:Nat→Out} {rs:List ResultVar} {m:Nat} (hf:P.funcs[f]? = some fn) (hm:fn.ntmps=m) (hb:fn.body=some c) (hrs:fn.results=rs.toArray)
  (h:∀ (G:Gh),G.n=m→G.ow=ow→G.nm=a0x h0→vc P G c (St.of (a3n 0 as) h0) (a6a P h0 rs (post G.lo))) (hname:(fn.name == "runtime.NumGoroutine")=false:=by kernel_rfl) (hn:as.length≤m:=by simp) (hl:rs.length≤3:=by decide):Tri P f as h0 post:=d8m ow hf hm hb hname hn hrs hl h
theorem a2o {h0:List (Nat×OB)} {s:St} {v:V} {r:V} {h':List (Nat×OB)} (ρ:Ren) (h:b3x h0 s v r h' ρ:=by (simp only [b3x,go_sem,a1d,a0r,a0i,a1l,apart,a2m,a0n])<;>simp):∃ ρ,b3x h0 s v r h' ρ:=⟨ρ,h⟩
end Pm
end Go.Proofs.YtmjhfccbbfpppaaGreatDoor
