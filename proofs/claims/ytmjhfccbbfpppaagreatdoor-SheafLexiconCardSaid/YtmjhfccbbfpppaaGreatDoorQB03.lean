import Derived.WalkKit
import Derived.WalkSmall
import Derived.MapKept
namespace Go.Proofs.YtmjhfccbbfpppaaGreatDoor
open Go
set_option linter.unusedSimpArgs false
set_option linter.unusedVariables false
namespace Pm
theorem d3g {a b c d:Prop} (f:a→c) (g:b→d):a∨b→c∨d
 |.inl h=>.inl (f h)
 |.inr h=>.inr (g h)
inductive V:Type
 |any
 |v (x:Value)
 |lst (lo sz:Nat) (l:List (List V))
 |fp (cs:List V)
 |ptr (id off:Nat)
 |eptr (id i k sz:Nat)
 |own (id off len sz:Nat)
 |mp (id:Nat)
 |agg (cs:List V)
 |tup (cs:List V)
 |fn (f:Fn) (cap:List V)
def wrV:Value→Bool
 |.int .u8 _=>false
 |_=>true
def b6f (w:World) (a:Addr) (v:Value):Prop:=w.cell? a=some v∧(wrV v=true→w.frozen? a=false)
theorem b1d {w w':World} {b o:Nat} {v:Value} (h:w'.heap[b]? = w.heap[b]?) (hc:b6f w ⟨b,o,none⟩ v):b6f w' ⟨b,o,none⟩ v :=
 ⟨(World.cell?_of_block h).trans hc.1,fun hw=>by have:=hc.2 hw;simpa [World.frozen?,h] using this⟩
theorem a3t {w:World} {b o:Nat} {v:Value} {ys:Array Value} {t:TypeId} (h:w.heap[b]? = some (.cells ys t (0,0))) (hc:w.cell? ⟨b,o,none⟩=some v):b6f w ⟨b,o,none⟩ v :=
 ⟨hc,fun _=>by simp [World.frozen?,h]⟩
abbrev g8l (k:FuncId):Fn:=.via 0 #[] k false
def e0a:Fn→Array Value→Value
 |.via _ _ k _,ys=>.func (.func k) ys #[]
 |f,ys=>.func f #[] ys
inductive R0 (w:World) (O:Nat→Prop):V→Value→Prop
 |any (y:Value):R0 w O .any y
 |v (x:Value):R0 w O (.v x) x
 |lst (lo sz:Nat) (l:List (List V)) (a:Option Addr) (n cap b o:Nat) (g:Nat→Nat→Value) (hlo:l≠[]→lo≤b)
   (hn:n=l.length) (hc:l.length≤cap) (hl:l.length≤140737488355328)
   (ha:l≠[]→a=some ⟨b,o,none⟩∧¬ O b∧b < w.heap.size)
   (hs:∀ (i:Nat) (x:List V) (j:Nat) (u:V),l[i]? = some x→x[j]? = some u→b6f w ⟨b,o+(i * sz+j),none⟩ (g i j))
   (hz:∀ x,x ∈ l→x.length=sz)
   (hr:∀ (i:Nat) (x:List V) (j:Nat) (u:V),l[i]? = some x→x[j]? = some u→R0 w O u (g i j)):R0 w O (.lst lo sz l) (.slice a n cap)
 |fp (cs:List V) (b o:Nat) (g:Nat→Value) (hO:¬ O b) (hb:b < w.heap.size)
   (hs:∀ (j:Nat) (u:V),cs[j]? = some u→b6f w ⟨b,o+j,none⟩ (g j))
   (hr:∀ (j:Nat) (u:V),cs[j]? = some u→R0 w O u (g j)):R0 w O (.fp cs) (.pointer (some ⟨b,o,none⟩))
 |agg (cs:List V) (ys:Array Value) (hn:ys.size=cs.length) (hr:∀ (j:Nat) (u:V) (y:Value),cs[j]? = some u→ys[j]? = some y→R0 w O u y):R0 w O (.agg cs) (.agg ys)
 |tup (cs:List V) (ys:Array Value) (hn:ys.size=cs.length) (hr:∀ (j:Nat) (u:V) (y:Value),cs[j]? = some u→ys[j]? = some y→R0 w O u y):R0 w O (.tup cs) (.tuple ys)
 |fn (f:Fn) (cap:List V) (ys:Array Value) (hn:ys.size=cap.length) (hr:∀ (j:Nat) (u:V) (y:Value),cap[j]? = some u→ys[j]? = some y→R0 w O u y):R0 w O (.fn f cap) (e0a f ys)
abbrev Env:=Nat→Option (Option Nat×Nat×Nat)
def e2k (b:Option Nat) (K C off len sz:Nat) (y:Value):Prop :=
 off+len≤K∧K≤C∧match b with
 |none=>off=0∧len=0∧y=.slice none 0 0
 |some b=>∃ o,(off < C∨off=0→o=off * sz)∧y=.slice (some ⟨b,o,none⟩) len (C - off)
inductive R (w:World) (O:Nat→Prop) (E:Env):V→Value→Prop
 |r0 (x:V) (y:Value) (h:R0 w O x y):R w O E x y
 |ptr (id off b K C:Nat) (h:E id=some (some b,K,C)):R w O E (.ptr id off) (.pointer (some ⟨b,off,none⟩))
 |eptr (id i k sz b K C:Nat) (h:E id=some (some b,K,C)) (hi:i < K):R w O E (.eptr id i k sz) (.pointer (some ⟨b,i * sz+k,none⟩))
 |own (id off len sz:Nat) (b:Option Nat) (K C:Nat) (y:Value) (h:E id=some (b,K,C)) (hv:e2k b K C off len sz y):R w O E (.own id off len sz) y
 |mp (id b K C:Nat) (h:E id=some (some b,K,C)):R w O E (.mp id) (.map (some b))
 |agg (cs:List V) (ys:Array Value) (hn:ys.size=cs.length) (hr:∀ (j:Nat) (u:V) (y:Value),cs[j]? = some u→ys[j]? = some y→R w O E u y):R w O E (.agg cs) (.agg ys)
 |tup (cs:List V) (ys:Array Value) (hn:ys.size=cs.length) (hr:∀ (j:Nat) (u:V) (y:Value),cs[j]? = some u→ys[j]? = some y→R w O E u y):R w O E (.tup cs) (.tuple ys)
 |fn (f:Fn) (cap:List V) (ys:Array Value) (hn:ys.size=cap.length) (hr:∀ (j:Nat) (u:V) (y:Value),cap[j]? = some u→ys[j]? = some y→R w O E u y):R w O E (.fn f cap) (e0a f ys)
def a4g (w:World) (b:Nat):Prop:=∃ cs t f,w.heap[b]? = some (.cells cs t f)
theorem b3w {w:World} {b o:Nat} {v:Value} (h:w.cell? ⟨b,o,none⟩=some v):a4g w b:=by
 unfold World.cell? at h
 revert h
 cases e:w.heap[b]? with
 |none=>simp
 |some x =>
  cases x with
  |cells cs t f=>intro _;exact ⟨cs,t,f,e⟩
  |_=>intro h;simp at h
theorem R0.monoC {w w':World} {O O':Nat→Prop} {x:V} {y:Value} (h:R0 w O x y) (hsz:w.heap.size≤w'.heap.size)
  (hO:∀ b,¬ O b→b < w.heap.size→¬ O' b) (hw:∀ b,¬ O b→b < w.heap.size→a4g w b→w'.heap[b]? = w.heap[b]?):R0 w' O' x y:=by
 induction h with
 |any y=>exact .any y
 |v x=>exact .v x
 |lst lo sz l a n cap b o g hlo hn hc hl ha hs hz hr ih =>
  refine .lst lo sz l a n cap b o g hlo hn hc hl (fun h=>⟨(ha h).1,hO b (ha h).2.1 (ha h).2.2,Nat.lt_of_lt_of_le (ha h).2.2 hsz⟩) (fun i x j u h1 h2=>?_) hz ih
  have hl0:l≠[]:=by rintro rfl;simp at h1
  have hc:=hs i x j u h1 h2
  exact b1d (hw b (ha hl0).2.1 (ha hl0).2.2 (b3w hc.1)) hc
 |fp cs b o g h1 hb hs hr ih =>
  refine .fp cs b o g (hO b h1 hb) (Nat.lt_of_lt_of_le hb hsz) (fun j u h2=>?_) ih
  have hc:=hs j u h2
  exact b1d (hw b h1 hb (b3w hc.1)) hc
 |agg cs ys hn hr ih=>exact .agg cs ys hn ih
 |tup cs ys hn hr ih=>exact .tup cs ys hn ih
 |fn f cap ys hn hr ih=>exact .fn f cap ys hn ih
theorem R0.mono {w w':World} {O O':Nat→Prop} {x:V} {y:Value} (h:R0 w O x y) (hsz:w.heap.size≤w'.heap.size)
  (hO:∀ b,¬ O b→b < w.heap.size→¬ O' b) (hw:∀ b,¬ O b→b < w.heap.size→w'.heap[b]? = w.heap[b]?):R0 w' O' x y:=h.monoC hsz hO fun b h1 h2 _=>hw b h1 h2
theorem R.monoC {w w':World} {O O':Nat→Prop} {E E':Env} {x:V} {y:Value} (h:R w O E x y) (hsz:w.heap.size≤w'.heap.size)
  (hO:∀ b,¬ O b→b < w.heap.size→¬ O' b) (hw:∀ b,¬ O b→b < w.heap.size→a4g w b→w'.heap[b]? = w.heap[b]?)
  (hE:∀ id r,E id=some r→E' id=some r):R w' O' E' x y:=by
 induction h with
 |r0 x y h=>exact .r0 x y (h.monoC hsz hO hw)
 |ptr id off b K C h=>exact .ptr id off b K C (hE _ _ h)
 |eptr id i k sz b K C h hi=>exact .eptr id i k sz b K C (hE _ _ h) hi
 |own id off len sz b K C y h hv=>exact .own id off len sz b K C y (hE _ _ h) hv
 |mp id b K C h=>exact .mp id b K C (hE _ _ h)
 |agg cs ys hn hr ih=>exact .agg cs ys hn ih
 |tup cs ys hn hr ih=>exact .tup cs ys hn ih
 |fn f cap ys hn hr ih=>exact .fn f cap ys hn ih
theorem R.mono {w w':World} {O O':Nat→Prop} {E E':Env} {x:V} {y:Value} (h:R w O E x y) (hsz:w.heap.size≤w'.heap.size)
  (hO:∀ b,¬ O b→b < w.heap.size→¬ O' b) (hw:∀ b,¬ O b→b < w.heap.size→w'.heap[b]? = w.heap[b]?)
  (hE:∀ id r,E id=some r→E' id=some r):R w' O' E' x y:=h.monoC hsz hO (fun b h1 h2 _=>hw b h1 h2) hE
end Pm
open Go
namespace Pm
def gl1:List (Nat×List V):=[]
def gl2:List (Nat×List V):=[]
def gl3:List (Nat×List V):=[(2,[.v (.int .i64 0),.any,.any,.v (.int .i64 0),.fn (.func 337) [],.fn (.func 338) [],.v (.int .i64 1),.fn (.func 339) [],.fn (.func 340) [],.v (.int .i64 0),.fn (.func 341) [],.fn (.func 342) []])]
def gl4:List (Nat×List V):=[]
def gl5:List (Nat×List V):=[(0,[.v (.string ⟨#[]⟩),.v (.string ⟨#[111,109,105,116]⟩),.v (.string ⟨#[112,117,116]⟩),.v (.string ⟨#[111,116,104,101,114]⟩)])]
def gl6:List (Nat×List V):=[(3,[.v (.bool false),.v (.bool false),.v (.bool false),.v (.bool false),.any,.v (.bool true),.v (.bool false),.v (.bool true),.v (.bool false),.fn (.func 343) [],.v (.bool true),.v (.bool true),.v (.bool true),.v (.bool false),.fn (.func 344) [],.v (.bool false),.v (.bool true),.v (.bool true),.v (.bool false),.fn (.func 345) [],.v (.bool false),.v (.bool false),.v (.bool false),.v (.bool true),.fn (.func 346) []])]
def gl7:List (Nat×List V):=[(1,[.v (.string ⟨#[]⟩),.any,.any,.v (.string ⟨#[102,111,114,109]⟩),.fn (.func 327) [],.fn (.func 329) [],.v (.string ⟨#[102,114,111,109]⟩),.fn (.func 331) [],.fn (.func 332) [],.v (.string ⟨#[112,108,97,99,101]⟩),.fn (.func 333) [],.fn (.func 334) [],.v (.string ⟨#[118,111,105,100]⟩),.fn (.func 335) [],.fn (.func 336) []])]
def c7k (ys:Array Value):Prop:=∃ y,ys[0]? = some y∧(y=.nilIface∨∃ t p,y=.iface t p)
def e6m (ys:Array Value):Prop:=∃ m,ys[0]? = some (.int .i64 m)
def f5h (zs:List Value) (ys:Array Value):Prop:=ys=zs.toArray
def f3l:List (Nat×(Array Value→Prop)):=[(7,c7k),(8,c7k)]
def g2z:List (Nat×(Array Value→Prop)):=[(5,f5h [.int .u64 1,.int .u64 10,.int .u64 100,.int .u64 1000,.int .u64 10000,.int .u64 100000,.int .u64 1000000,.int .u64 10000000,.int .u64 100000000,.int .u64 1000000000,.int .u64 10000000000,.int .u64 100000000000,.int .u64 1000000000000,.int .u64 10000000000000,.int .u64 100000000000000,.int .u64 1000000000000000,.int .u64 10000000000000000,.int .u64 100000000000000000,.int .u64 1000000000000000000,.int .u64 10000000000000000000])]
def g4e:List (Nat×(Array Value→Prop)):=[(6,e6m)]
def c2n:List (Nat×List V):=gl1++gl2++gl3++gl4++gl5++gl6++gl7
def f3e:List (Nat×(Array Value→Prop)):=f3l++g2z++g4e
end Pm
open Go
namespace Pm
inductive KD:Type
 |bool
 |int (k:IntKind)
 |string
 |agg (ts:List TypeDesc)
def Fit:TypeDesc→Value→Prop
 |.bool,.bool _=>True
 |.int k,.int k' _=>k'=k
 |.string,.string _=>True
 |_,_=>False
inductive Fits:List TypeDesc→List Value→Prop
 |nil:Fits [] []
 |cons {t:TypeDesc} {ts:List TypeDesc} {x:Value} {xs:List Value} (h:Fit t x) (r:Fits ts xs):Fits (t::ts) (x::xs)
def IsK:KD→Value→Prop
 |.bool,.bool _=>True
 |.int k,.int k' _=>k'=k
 |.string,.string _=>True
 |.agg ts,.agg ys=>Fits ts ys.toList
 |_,_=>False
inductive OB:Type
 |box (cs:List V)
 |arr (t:TypeId) (sz:Nat) (l:List (List V))
 |map (kd:KD) (m:List (Value×V))
 |obj (o:Obj)
 /-- an array whose rows may hold memory of one's own -/
 |arx (t:TypeId) (sz:Nat) (l:List (List V))
 /-- a map between the two halves of an update: this entry bears this stamp -/
 |mpe (kd:KD) (m:List (Value×V)) (j:Nat) (bo:Int)
structure St where
 fr:Nat→V
 hp:Nat→Option OB
 us:Nat→Bool
def St.get (s:St) (i:Nat):V:=s.fr i
def St.hget (s:St) (i:Nat):Option OB:=s.hp i
def St.used (s:St) (i:Nat):Bool:=s.us i
def St.set (s:St) (i:Nat) (x:V):St:={ s with fr:=fun j=>if i=j then x else s.fr j }
def St.hset (s:St) (i:Nat) (x:Option OB):St:={ s with hp:=fun j=>if i=j then x else s.hp j,us:=fun j=>(i == j) || s.us j }
def lkV:List (Nat×V)→Nat→V
 |[],_=>.any
 |(i,x)::r,j=>if i=j then x else lkV r j
def lkH:List (Nat×OB)→Nat→Option OB
 |[],_=>none
 |(i,x)::r,j=>if i=j then some x else lkH r j
def usH:List (Nat×OB)→Nat→Bool
 |[],_=>false
 |(i,_)::r,j=>(i == j) || usH r j
def St.of (f:List (Nat×V)) (h:List (Nat×OB)):St:=⟨lkV f,lkH h,usH h⟩
theorem e3n (s:St) (i j:Nat) (x:V):(s.set i x).get j=if i=j then x else s.get j:=rfl
theorem e7s (s:St) (i j:Nat) (x:Option OB):(s.hset i x).get j=s.get j:=rfl
theorem e6k (s:St) (i j:Nat) (x:V):(s.set i x).hget j=s.hget j:=rfl
theorem e0e (s:St) (i j:Nat) (x:Option OB):(s.hset i x).hget j=if i=j then x else s.hget j:=rfl
theorem f0c (s:St) (i j:Nat) (x:V):(s.set i x).used j=s.used j:=rfl
theorem c4d (s:St) (i j:Nat) (x:Option OB):(s.hset i x).used j=((i == j) || s.used j):=rfl
theorem g1q (f:List (Nat×V)) (h:List (Nat×OB)) (j:Nat):(St.of f h).get j=lkV f j:=rfl
theorem f7j (f:List (Nat×V)) (h:List (Nat×OB)) (j:Nat):(St.of f h).hget j=lkH h j:=rfl
theorem f8p (f:List (Nat×V)) (h:List (Nat×OB)) (j:Nat):(St.of f h).used j=usH h j:=rfl
structure KnAt (w:World) (O:Nat→Prop) (g:Nat) (φ:Array Value→Prop):Prop where
 fp:R0 w O (.fp [.any]) (.pointer (some ⟨g,0,none⟩))
 val:∃ ys t f,w.heap[g]? = some (.cells ys t f)∧φ ys
theorem KnAt.monoC {w w':World} {O O':Nat→Prop} {g:Nat} {φ:Array Value→Prop} (h:KnAt w O g φ) (hsz:w.heap.size≤w'.heap.size)
  (hO:∀ b,¬ O b→b < w.heap.size→¬ O' b) (hw:∀ b,¬ O b→b < w.heap.size→a4g w b→w'.heap[b]? = w.heap[b]?):KnAt w' O' g φ:=by
 refine ⟨h.fp.monoC hsz hO hw,?_⟩
 obtain ⟨ys,t,f,h1,h2⟩:=h.val
 have h3:=h.fp
 cases h3 with
 |fp _ _ _ f q1 q2 q3 q4=>exact ⟨ys,t,_,(hw g q1 q2 (b3w (q3 0 .any rfl).1)).trans h1,h2⟩
def GlobOK (w:World) (O:Nat→Prop):Prop:=(∀ p ∈ c2n,R0 w O (.fp p.2) (.pointer (some ⟨p.1,0,none⟩)))∧∀ p ∈ f3e,KnAt w O p.1 p.2
theorem GlobOK.monoC {w w':World} {O O':Nat→Prop} (h:GlobOK w O) (hsz:w.heap.size≤w'.heap.size)
  (hO:∀ b,¬ O b→b < w.heap.size→¬ O' b) (hw:∀ b,¬ O b→b < w.heap.size→a4g w b→w'.heap[b]? = w.heap[b]?):GlobOK w' O':=⟨fun p hp=>(h.1 p hp).monoC hsz hO hw,fun g hg=>(h.2 g hg).monoC hsz hO hw⟩
theorem GlobOK.weak {w:World} {O O':Nat→Prop} (h:GlobOK w O) (hO:∀ b,O' b→O b):GlobOK w O':=h.monoC (Nat.le_refl _) (fun b hb _ h=>hb (hO b h)) fun _ _ _ _=>rfl
structure OKO (w:World) (O:Nat→Prop):Prop where
 lt:∀ b,O b→b < w.heap.size
 gl:GlobOK w O
structure LoOK (w:World) (O:Nat→Prop) (lo:Nat):Prop where
 le:lo≤w.heap.size
 gl:GlobOK w O
structure Gh where
 w0:World
 Of:Nat→Prop
 n:Nat
 M:Nat→Prop
 ow:Nat→Bool:=fun _=>false
 lo:Nat:=0
 hlo:lo≤w0.heap.size:=by exact Nat.zero_le _
 hM:∀ b,M b→lo≤b:=by intros;exact Nat.zero_le _
 hgl:GlobOK w0 (fun b=>Of b∨M b)
 nm:List Nat:=[]
 E0:Env:=fun _=>none
 rd:Option Nat:=none
 df:List Deferred:=[]
 nomk:Bool:=false
 hnk:nomk=true→rd≠none:=by intro h;cases h
 Zi:World→Prop:=fun _=>True
 hZi:∀ (w w':World),w.heap.size≤w'.heap.size→(∀ b,Of b→w'.heap[b]? = w.heap[b]?)→Zi w→Zi w':=by intros;trivial
def a5v (s:St) (E:Env) (b:Nat):Prop:=∃ id ob K C,s.hp id=some ob∧E id=some (some b,K,C)
def OT (G:Gh) (s:St) (E:Env) (b:Nat):Prop:=G.Of b∨a5v s E b
def HB (w:World) (O:Nat→Prop) (E:Env) (b:Option Nat) (K C:Nat):OB→Prop
 |.box cs=>∃ (b':Nat) (ys:Array Value) (t:TypeId),b=some b'∧w.heap[b']? = some (.cells ys t (0,0))∧ys.size=cs.length∧(K≤cs.length∧cs.length≤140737488355328)∧K=C ∧
   ∀ (j:Nat) (u:V) (y:Value),cs[j]? = some u→ys[j]? = some y→R w O E u y
 |.arr t sz l=>(∀ x,x ∈ l→x.length=sz)∧0 < sz∧l.length≤140737488355328∧l.length=K∧match b with
   |none=>K=0∧C=0
   |some b=>∃ ys:Array Value,w.heap[b]? = some (.cells ys t (0,0))∧ys.size=C * sz∧K≤C∧C≤maxLen ∧
     ∀ (i:Nat) x (j:Nat) (u:V) (y:Value),l[i]? = some x→x[j]? = some u→ys[i * sz+j]? = some y→R0 w O u y
 |.map kd m=>∃ (b':Nat) (es:Array MapEntry) (clock:Nat),b=some b'∧w.heap[b']? = some (.map es clock)∧K=0∧C=0∧es.size=m.length ∧
   (∀ (i:Nat) (e:MapEntry) (p:Value×V),es[i]? = some e→m[i]? = some p→e.key=p.1∧IsK kd p.1∧R w O E p.2 e.val)∧MapKept.Stamped es clock
 |.obj o=>∃ b',b=some b'∧w.heap[b']? = some o∧K=0∧C=0
 |.mpe kd m j bo=>∃ (b':Nat) (es:Array MapEntry) (clock:Nat),b=some b'∧w.heap[b']? = some (.map es clock)∧K=0∧C=0∧es.size=m.length ∧
   (∀ (i:Nat) (e:MapEntry) (p:Value×V),es[i]? = some e→m[i]? = some p→e.key=p.1∧IsK kd p.1∧R w O E p.2 e.val)∧MapKept.Stamped es clock∧∃ e:MapEntry,es[j]? = some e∧(e.born:Int)=bo
 |.arx t sz l=>(∀ x,x ∈ l→x.length=sz)∧0 < sz∧l.length≤140737488355328∧l.length=K∧match b with
   |none=>K=0∧C=0
   |some b=>∃ ys:Array Value,w.heap[b]? = some (.cells ys t (0,0))∧ys.size=C * sz∧K≤C∧C≤maxLen ∧
     ∀ (i:Nat) x (j:Nat) (u:V) (y:Value),l[i]? = some x→x[j]? = some u→ys[i * sz+j]? = some y→R w O E u y
def mark (r:Nat):Deferred:={ target:=.collected r,args:=#[] }
def DefOK (G:Gh) (s:St) (E:Env) (w:World) (ds:List Deferred):Prop:=∃ rs:List Nat,ds=rs.map mark++G.df∧rs.Nodup∧∀ r ∈ rs,w.heap[r]? = some (.deferred (some []))∧G.w0.heap.size≤r∧¬ a5v s E r∧G.nomk=false
theorem DefOK.nil {G:Gh} {s:St} {E:Env} {w:World} (h:G.df=[]:=by rfl):DefOK G s E w []:=⟨[],by simp [h],.nil,by simp⟩
theorem DefOK.mono {G G':Gh} {s s':St} {E E':Env} {w w':World} {ds:List Deferred} (h:DefOK G s E w ds) (h0:G'.w0=G.w0)
  (hk:∀ b,¬ a5v s E b→b < w.heap.size→¬ a4g w b→w'.heap[b]? = w.heap[b]?∧¬ a5v s' E' b) (hd:G'.df=G.df:=by rfl) (hm:G'.nomk=G.nomk:=by rfl):DefOK G' s' E' w' ds:=by
 obtain ⟨rs,h1,h2,h3⟩:=h
 refine ⟨rs,by rw [h1,hd],h2,fun r hr=>?_⟩
 obtain ⟨q1,q2,q3,q4⟩:=h3 r hr
 have hlt:r < w.heap.size:=by
  false_or_by_contra;rename_i hge;have:w.heap[r]? = none:=by simp;omega
  rw [this] at q1;cases q1
 obtain ⟨k1,k2⟩:=hk r q3 hlt (by rintro ⟨cs,t,f,h⟩;rw [q1] at h;cases h)
 exact ⟨k1.trans q1,by rw [h0];exact q2,k2,hm.trans q4⟩
structure SimE (G:Gh) (s:St) (a:Act) (w:World) (E:Env):Prop where
 fr:∀ i,R w (OT G s E) E (s.fr i) (a.tmps.getD i undef)
 defers:DefOK G s E w a.defers
 size:a.tmps.size=G.n
 hp:∀ id ob,s.hp id=some ob→∃ b K C,E id=some (b,K,C)∧HB w (OT G s E) E b K C ob
 us:∀ id,E id≠none→s.us id=true
 inj:∀ id id' ob ob' b x x',s.hp id=some ob→s.hp id'=some ob'→E id=some (some b,x)→E id'=some (some b,x')→id=id'
 fresh:∀ id ob b x,s.hp id=some ob→E id=some (some b,x)→(G.w0.heap.size≤b∨G.M b)∧¬ G.Of b∧b < w.heap.size
 old:∀ b,G.Of b→b < w.heap.size
 grow:G.w0.heap.size≤w.heap.size
 os:w.os=G.w0.os
 tape:w.tape=G.w0.tape
 output:w.output=G.w0.output
 keep:∀ b,b < G.w0.heap.size→¬ G.M b→w.heap[b]? = G.w0.heap[b]?
 base:∀ id,id ∈ G.nm→∃ r,G.E0 id=some r∧E id=some r
 zi:G.Zi w
def Sim (G:Gh) (s:St) (a:Act) (w:World):Prop:=∃ E,SimE G s a w E
def b2z (P:Program) (G:Gh) (s:St) (o:Oper) (s':St):Prop :=
 ∀ a w,Sim G s a w→∀ (K:Act→World→Prop) (Q:Exit→Act→World→Prop),(∀ a' w',Sim G s' a' w'→K a' w')→o.wp P a w K Q
theorem SimE.glob {G:Gh} {s:St} {a:Act} {w:World} {E:Env} (h:SimE G s a w E):GlobOK w (OT G s E):=by
 have hx:∀ b,¬ (G.Of b∨G.M b)→b < G.w0.heap.size→¬ OT G s E b:=by
  rintro b hb hlt (g|⟨id,ob,K,C,g1,g2⟩)
  ·exact hb (.inl g)
  ·rcases (h.fresh id ob b _ g1 g2).1 with q|q
   ·omega
   ·exact hb (.inr q)
 exact G.hgl.monoC h.grow hx fun b hb hlt _=>h.keep b hlt fun q=>hb (.inr q)
def lkG:List (Nat×List V)→Nat→V
 |[],_=>.any
 |p::r,g=>if p.1=g then .fp p.2 else lkG r g
def ev (s:St):Operand→V
 |.tmp t=>s.get t
 |.const x=>.v x
 |.func f=>.fn (.func f) []
 |.global g=>lkG c2n g
theorem g7d {w:World} {O:Nat→Prop} (h:GlobOK w O) (g:Nat):R0 w O (lkG c2n g) (.pointer (some ⟨g,0,none⟩)):=by
 have h:=h.1
 generalize c2n=l at h
 induction l with
 |nil=>exact .any _
 |cons p r ih =>
  unfold lkG
  split
  ·rename_i e;rw [← e];exact h p (by simp)
  ·exact ih fun q hq=>h q (by simp [hq])
theorem b6t {G:Gh} {s:St} {a:Act} {w:World} {E:Env} (h:SimE G s a w E) (x:Operand):R w (OT G s E) E (ev s x) (a.eval x):=by
 cases x with
 |tmp t=>exact h.fr t
 |const v=>exact .r0 _ _ (.v v)
 |global g=>exact .r0 _ _ (g7d h.glob g)
 |func f=>exact .fn _ [] #[] rfl (by simp)
theorem a1t {G:Gh} {s:St} {a:Act} {w:World} {E:Env} (h:SimE G s a w E) {x:Operand} {u:V} (hx:ev s x=u):R w (OT G s E) E u (a.eval x):=hx ▸ b6t h x
def a3z (s:St):Option Nat→V→St
 |some d,x=>s.set d x
 |none,_=>s
theorem R.v_inv {w:World} {O:Nat→Prop} {E:Env} {x y:Value} (h:R w O E (.v x) y):y=x:=by
 cases h with
 |r0 _ _ h=>cases h;rfl
theorem b5c (a:Act) (d i:Nat) (y:Value) (hd:d < a.tmps.size):(a.put (some d) y).tmps.getD i undef=if d=i then y else a.tmps.getD i undef:=by
 simp only [Act.put,Array.getD_eq_getD_getElem?,Array.getElem?_setIfInBounds]
 split
 ·subst_vars;simp
 ·rfl
theorem SimE.put {G:Gh} {s:St} {a:Act} {w:World} {E:Env} (h:SimE G s a w E) {dst:Option Nat} (hd:∀ d,dst=some d→d < G.n) {x:V} {y:Value}
  (hv:R w (OT G s E) E x y):SimE G (a3z s dst x) (a.put dst y) w E:=by
 cases dst with
 |none=>exact h
 |some d =>
  have hlt:d < a.tmps.size:=by rw [h.size];exact hd d rfl
  refine ⟨fun i=>?_,h.defers,by simp [Act.put,h.size],h.hp,h.us,h.inj,h.fresh,h.old,h.grow,h.os,h.tape,h.output,h.keep,h.base,h.zi⟩
  rw [b5c a d i y hlt]
  show R w _ E (if d=i then x else s.fr i) _
  split
  ·exact hv
  ·exact h.fr i
theorem a0j {P:Program} {G:Gh} {s:St} {o:Oper} {x:V} (hd:∀ d,o.dst=some d→d < G.n)
  (h:∀ a w E,SimE G s a w E→∃ y,(execOp a.eval o).run P w=.ok (.value y) w∧R w (OT G s E) E x y):b2z P G s o (a3z s o.dst x):=by
 rintro a w ⟨E,hs⟩ K Q hK
 obtain ⟨y,hy,hR⟩:=h a w E hs
 unfold Oper.wp
 rw [hy]
 exact hK _ _ ⟨E,hs.put hd hR⟩
theorem HB.monoC {w w':World} {O O':Nat→Prop} {E E':Env} {b:Option Nat} {K C:Nat} {ob:OB} (h:HB w O E b K C ob) (hsz:w.heap.size≤w'.heap.size)
  (hO:∀ b,¬ O b→b < w.heap.size→¬ O' b) (hw:∀ b,¬ O b→b < w.heap.size→a4g w b→w'.heap[b]? = w.heap[b]?)
  (hE:∀ id r,E id=some r→E' id=some r) (hb:∀ b',b=some b'→w'.heap[b']? = w.heap[b']?):HB w' O' E' b K C ob:=by
 cases ob with
 |box cs =>
  obtain ⟨b',ys,t,rfl,g2,g3,g4,g5,g6⟩:=h
  exact ⟨b',ys,t,rfl,(hb b' rfl).trans g2,g3,g4,g5,fun j u y h3 h4=>(g6 j u y h3 h4).monoC hsz hO hw hE⟩
 |arr t sz l =>
  obtain ⟨g1,g2,g3,g4,g5⟩:=h
  refine ⟨g1,g2,g3,g4,?_⟩
  cases b with
  |none=>exact g5
  |some b =>
   obtain ⟨ys,q1,q2,q3,q4,q5⟩:=g5
   exact ⟨ys,(hb b rfl).trans q1,q2,q3,q4,fun i x j u y h1 h2 h3=>(q5 i x j u y h1 h2 h3).monoC hsz hO hw⟩
 |map kk m =>
  obtain ⟨b',es,clock,rfl,g2,g3,g4,g5,g6,g7⟩:=h
  exact ⟨b',es,clock,rfl,(hb b' rfl).trans g2,g3,g4,g5,fun i e p h1 h2=>⟨(g6 i e p h1 h2).1,(g6 i e p h1 h2).2.1,(g6 i e p h1 h2).2.2.monoC hsz hO hw hE⟩,g7⟩
 |mpe kk m j bo =>
  obtain ⟨b',es,clock,rfl,g2,g3,g4,g5,g6,g7⟩:=h
  exact ⟨b',es,clock,rfl,(hb b' rfl).trans g2,g3,g4,g5,fun i e p h1 h2=>⟨(g6 i e p h1 h2).1,(g6 i e p h1 h2).2.1,(g6 i e p h1 h2).2.2.monoC hsz hO hw hE⟩,g7⟩
 |obj o =>
  obtain ⟨b',rfl,g2,g3,g4⟩:=h
  exact ⟨b',rfl,(hb b' rfl).trans g2,g3,g4⟩
 |arx t sz l =>
  obtain ⟨g1,g2,g3,g4,g5⟩:=h
  refine ⟨g1,g2,g3,g4,?_⟩
  cases b with
  |none=>exact g5
  |some b =>
   obtain ⟨ys,q1,q2,q3,q4,q5⟩:=g5
   exact ⟨ys,(hb b rfl).trans q1,q2,q3,q4,fun i x j u y h1 h2 h3=>(q5 i x j u y h1 h2 h3).monoC hsz hO hw hE⟩
theorem HB.mono {w w':World} {O O':Nat→Prop} {E E':Env} {b:Option Nat} {K C:Nat} {ob:OB} (h:HB w O E b K C ob) (hsz:w.heap.size≤w'.heap.size)
  (hO:∀ b,¬ O b→b < w.heap.size→¬ O' b) (hw:∀ b,¬ O b→b < w.heap.size→w'.heap[b]? = w.heap[b]?)
  (hE:∀ id r,E id=some r→E' id=some r) (hb:∀ b',b=some b'→w'.heap[b']? = w.heap[b']?):HB w' O' E' b K C ob:=h.monoC hsz hO (fun b h1 h2 _=>hw b h1 h2) hE hb
theorem SimE.upd {G:Gh} {s s':St} {a:Act} {w w':World} {E E':Env} (h:SimE G s a w E) (N:Nat→Prop) (hfr:s'.fr=s.fr)
  (hsz:w.heap.size≤w'.heap.size) (hos:w'.os=w.os) (htape:w'.tape=w.tape) (hout:w'.output=w.output)
  (hkeep:∀ b,b < w.heap.size→(∀ id ob K C,N id→s.hp id=some ob→E id≠some (some b,K,C))→w'.heap[b]? = w.heap[b]?)
  (hother:∀ id,¬ N id→s'.hp id=s.hp id∧E' id=E id) (hEE:∀ id r,E id=some r→E' id=some r)
  (hus:∀ id,s.us id=true→s'.us id=true) (hus':∀ id,N id→E' id≠none→s'.us id=true)
  (hN:∀ id ob,N id→s'.hp id=some ob→∃ b K C,E' id=some (b,K,C)∧((∀ b,¬ OT G s E b→b < w.heap.size→¬ OT G s' E' b)→HB w' (OT G s' E') E' b K C ob))
  (hB:∀ id ob b' K C,N id→s'.hp id=some ob→E' id=some (some b',K,C)→(w.heap.size≤b'∧b' < w'.heap.size)∨∃ id0 ob0 K0 C0,N id0∧s.hp id0=some ob0∧E id0=some (some b',K0,C0))
  (hinj:∀ id id' ob ob' b x x',N id→N id'→s'.hp id=some ob→s'.hp id'=some ob'→E' id=some (some b,x)→E' id'=some (some b,x')→id=id') :
  SimE G s' a w' E'∧(∀ b,¬ OT G s E b→b < w.heap.size→¬ OT G s' E' b):=by
 have hOT:∀ b,¬ OT G s E b→b < w.heap.size→¬ OT G s' E' b:=by
  rintro b hb hlt (hof|⟨i,o,K,C,h1,h2⟩)
  ·exact hb (.inl hof)
  ·by_cases hi:N i
   ·rcases hB i o b K C hi h1 h2 with g|⟨i0,o0,K0,C0,_,g2,g3⟩
    ·omega
    ·exact hb (.inr ⟨i0,o0,K0,C0,g2,g3⟩)
   ·rw [(hother i hi).1] at h1;rw [(hother i hi).2] at h2;exact hb (.inr ⟨i,o,K,C,h1,h2⟩)
 have hk:∀ b,¬ OT G s E b→b < w.heap.size→w'.heap[b]? = w.heap[b]?:=fun b hb hlt=>hkeep b hlt fun id ob K C _ h1 h2=>hb (.inr ⟨id,ob,K,C,h1,h2⟩)
 -- an unaltered name's block is no altered one's
 have hne:∀ i o b x,¬ N i→s.hp i=some o→E i=some (some b,x)→∀ id ob K C,N id→s.hp id=some ob→E id≠some (some b,K,C):=fun i o b x hi h1 h2 id ob K C hid h3 h4=>by
  have:=h.inj i id o ob b _ _ h1 h3 h2 h4
  subst this;exact hi hid
 have hlive:∀ b,¬ a5v s E b→b < w.heap.size→¬ a5v s' E' b:=by
  rintro b hb hlt ⟨i,o,K,C,h1,h2⟩
  by_cases hi:N i
  ·rcases hB i o b K C hi h1 h2 with g|⟨i0,o0,K0,C0,_,g2,g3⟩
   ·omega
   ·exact hb ⟨i0,o0,K0,C0,g2,g3⟩
  ·rw [(hother i hi).1] at h1;rw [(hother i hi).2] at h2;exact hb ⟨i,o,K,C,h1,h2⟩
 refine ⟨⟨fun i=>by rw [hfr];exact (h.fr i).mono hsz hOT hk hEE,h.defers.mono rfl fun b hb hlt _=>⟨hkeep b hlt fun id ob K C _ h1 h2=>hb ⟨id,ob,K,C,h1,h2⟩,hlive b hb hlt⟩,h.size,fun i o hi=>?_,fun i hi=>?_,fun i i' o o' b x x' h1 h2 h3 h4=>?_,fun i o b x h1 h2=>?_,fun b hb=>Nat.lt_of_lt_of_le (h.old b hb) hsz,Nat.le_trans h.grow hsz,hos.trans h.os,htape.trans h.tape,hout.trans h.output,fun b h1 h2=>?_,fun id hid=>?_,
  G.hZi w w' hsz (fun b hb=>hkeep b (h.old b hb) fun id ob K C _ h1 h2=>(h.fresh id ob b _ h1 h2).2.1 hb) h.zi⟩,hOT⟩
 ·by_cases hNi:N i
  ·obtain ⟨b,K,C,g1,g2⟩:=hN i o hNi hi
   exact ⟨b,K,C,g1,g2 hOT⟩
  ·rw [(hother i hNi).1] at hi
   obtain ⟨b,K,C,g1,g2⟩:=h.hp i o hi
   refine ⟨b,K,C,by rw [(hother i hNi).2];exact g1,g2.mono hsz hOT hk hEE fun b' hb'=>?_⟩
   subst hb'
   exact hkeep b' (h.fresh i o b' _ hi g1).2.2 (hne i o b' _ hNi hi g1)
 ·by_cases hNi:N i
  ·exact hus' i hNi hi
  ·rw [(hother i hNi).2] at hi;exact hus i (h.us i hi)
 ·by_cases hi:N i<;>by_cases hi':N i'
  ·exact hinj i i' o o' b x x' hi hi' h1 h2 h3 h4
  ·rw [(hother i' hi').1] at h2;rw [(hother i' hi').2] at h4
   rcases hB i o b _ _ hi h1 h3 with g|⟨i0,o0,K0,C0,g1,g2,g3⟩
   ·have:=(h.fresh i' o' b _ h2 h4).2.2;omega
   ·exact (hne i' o' b _ hi' h2 h4 i0 o0 K0 C0 g1 g2 g3).elim
  ·rw [(hother i hi).1] at h1;rw [(hother i hi).2] at h3
   rcases hB i' o' b _ _ hi' h2 h4 with g|⟨i0,o0,K0,C0,g1,g2,g3⟩
   ·have:=(h.fresh i o b _ h1 h3).2.2;omega
   ·exact (hne i o b _ hi h1 h3 i0 o0 K0 C0 g1 g2 g3).elim
  ·rw [(hother i hi).1] at h1;rw [(hother i hi).2] at h3;rw [(hother i' hi').1] at h2;rw [(hother i' hi').2] at h4
   exact h.inj i i' o o' b x x' h1 h2 h3 h4
 ·by_cases hi:N i
  ·obtain ⟨xK,xC⟩:=x
   rcases hB i o b _ _ hi h1 h2 with g|⟨i0,o0,K0,C0,_,g2,g3⟩
   ·exact ⟨.inl (Nat.le_trans h.grow g.1),fun hof=>by have:=h.old _ hof;omega,g.2⟩
   ·obtain ⟨q1,q2,q3⟩:=h.fresh i0 o0 b _ g2 g3
    exact ⟨q1,q2,Nat.lt_of_lt_of_le q3 hsz⟩
  ·rw [(hother i hi).1] at h1;rw [(hother i hi).2] at h2
   obtain ⟨q1,q2,q3⟩:=h.fresh i o b x h1 h2
   exact ⟨q1,q2,Nat.lt_of_lt_of_le q3 hsz⟩
 ·rw [hkeep b (Nat.lt_of_lt_of_le h1 h.grow) fun id ob K C _ g1 g2=>by
   obtain ⟨q1,q2,q3⟩:=h.fresh id ob b _ g1 g2
   rcases q1 with q1|q1
   ·omega
   ·exact h2 q1]
  exact h.keep b h1 h2
 ·obtain ⟨r,h1,h2⟩:=h.base id hid
  exact ⟨r,h1,hEE id r h2⟩
open Go.RowKit in
theorem SimE.below {G:Gh} {s:St} {a:Act} {w w':World} {E:Env} (h:SimE G s a w E) (hb:Below w.heap.size w w'):SimE G s a w' E :=
 (h.upd (fun _=>False) rfl hb.size hb.os hb.tape hb.output (fun b hlt _=>hb.block b hlt) (fun _ _=>⟨rfl,rfl⟩) (fun _ _ h=>h) (fun _ h=>h) (fun _ h=>h.elim) (fun _ _ h=>h.elim)
  (fun _ _ _ _ _ h=>h.elim) (fun _ _ _ _ _ _ _ h=>h.elim)).1
theorem SimE.lo_le {G:Gh} {s:St} {a:Act} {w:World} {E:Env} (h:SimE G s a w E) {id:Nat} {ob:OB} {b:Nat} {x:Nat×Nat} (h1:s.hp id=some ob) (h2:E id=some (some b,x)):G.lo≤b:=by
 rcases (h.fresh id ob b x h1 h2).1 with g|g
 ·exact Nat.le_trans G.hlo g
 ·exact G.hM b g
theorem e5z {G:Gh} {s:St} {a:Act} {w:World} {E:Env} (h:SimE G s a w E):∀ b,OT G s E b→b < w.heap.size:=by
 rintro b (hb|⟨id,ob,K,C,h1,h2⟩)
 ·exact h.old b hb
 ·exact (h.fresh id ob b _ h1 h2).2.2
theorem f8f {G:Gh} {s:St} {a:Act} {w:World} {E:Env} (h:SimE G s a w E):OKO w (OT G s E):=⟨e5z h,h.glob⟩
def g2n:List V→Option (List Value)
 |[]=>some []
 |.v x::r=>(g2n r).map (x::·)
 |_=>none
theorem e3f:∀ {cs:List V} {xs:List Value},g2n cs=some xs→cs=xs.map .v:=by
 intro cs
 induction cs with
 |nil=>intro xs h;cases h;rfl
 |cons c r ih =>
  intro xs h
  cases c with
  |v x =>
   simp only [g2n,Option.map_eq_some_iff] at h
   obtain ⟨r',hr,rfl⟩:=h
   simp [ih hr]
  |_=>cases h
def pure0:V→Bool
 |.v _|.lst _ _ _|.fp _|.any=>true
 |_=>false
def b3o:List V→Bool
 |[]=>true
 |x::r=>pure0 x && b3o r
def pureV:V→Bool
 |.agg cs|.tup cs|.fn _ cs=>b3o cs
 |x=>pure0 x
def b0t:List V→Bool
 |[]=>true
 |x::r=>pureV x && b0t r
theorem b3a:∀ {l:List V},b3o l=true→∀ (j:Nat) (u:V),l[j]? = some u→pure0 u=true:=by
 intro l
 induction l with
 |nil=>simp
 |cons x r ih =>
  intro h j u hj
  simp only [b3o,Bool.and_eq_true] at h
  cases j with
  |zero=>simp at hj;subst hj;exact h.1
  |succ j=>simp at hj;exact ih h.2 j u hj
theorem a7x:∀ {l:List V},b0t l=true→∀ (j:Nat) (u:V),l[j]? = some u→pureV u=true:=by
 intro l
 induction l with
 |nil=>simp
 |cons x r ih =>
  intro h j u hj
  simp only [b0t,Bool.and_eq_true] at h
  cases j with
  |zero=>simp at hj;subst hj;exact h.1
  |succ j=>simp at hj;exact ih h.2 j u hj
theorem R.pure0 {w:World} {O:Nat→Prop} {E:Env} {x:V} {y:Value} (hx:pure0 x=true) (h:R w O E x y):R0 w O x y:=by
 cases h with
 |r0 _ _ h=>exact h
 |_=>cases hx
theorem R.pureV {w:World} {O:Nat→Prop} {E:Env} {x:V} {y:Value} (hx:pureV x=true) (h:R w O E x y):R0 w O x y:=by
 cases h with
 |r0 _ _ h=>exact h
 |agg cs ys hn hr=>exact .agg _ _ hn fun j u y h1 h2=>(hr j u y h1 h2).pure0 (b3a hx j u h1)
 |tup cs ys hn hr=>exact .tup _ _ hn fun j u y h1 h2=>(hr j u y h1 h2).pure0 (b3a hx j u h1)
 |fn f cs ys hn hr=>exact .fn _ _ _ hn fun j u y h1 h2=>(hr j u y h1 h2).pure0 (b3a hx j u h1)
 |ptr=>cases hx
 |eptr=>cases hx
 |own=>cases hx
 |mp=>cases hx
def a1h (s:St):List (Nat×Option OB)→St
 |[]=>s
 |(i,x)::r=>a1h (s.hset i x) r
def app (s:St) (d:Option Nat) (e:V×List (Nat×Option OB)):St:=a3z (a1h s e.2) d e.1
inductive Res:Type
 |go (C:Prop) (k:C→V)
 |heap (C:Prop) (k:C→V×List (Nat×Option OB))
 |call (f:V) (as:List V)
 |br (C:Bool→Prop)
 |stuck
def a2w (P:Program) (G:Gh) (s:St) (o:Oper):Res→Prop
 |.go C k=>∀ h:C,b2z P G s o (a3z s o.dst (k h))
 |.heap C k=>∀ h:C,b2z P G s o (app s o.dst (k h))
 |.call f as=>∃ (x:Operand) (l:List Operand) (ts:Array TypeId),o.op=.call ⟨.value x,l.toArray,ts⟩∧f=ev s x∧as=l.map (ev s)
 |.br C=>∀ a w,Sim G s a w→∀ (K:Act→World→Prop) (Q:Exit→Act→World→Prop),(∀ b,C b→∀ a' w',Sim G (a3z s o.dst (.v (.bool b))) a' w'→K a' w')→o.wp P a w K Q
 |.stuck=>True
end Pm
open Go
namespace Pm
def a0t (P:Program) (t:TypeId):Option (TypeId×Nat):=match P.underlying t with
 |some (.slice e)=>(P.info? e).map fun i=>(e,i.size)
 |_=>none
def a1x (P:Program) (t:TypeId):Option (Nat×Nat):=match P.underlying t with
 |some (.array n e)=>(P.info? e).map fun i=>(n,i.size)
 |_=>none
def a5e:TypeDesc→Bool
 |.struct _|.array _ _=>true
 |_=>false
def a0m (P:Program) (t:TypeId):Option (Bool×Nat):=match P.underlying t,P.info? t with
 |some d,some i=>some (a5e d,i.size)
 |_,_=>none
def a0v (P:Program) (t k:Nat):Option (Nat×Bool×Nat):=match P.underlying t with
 |some (.struct fs)=>(fs[k]?).bind fun f=>(a0m P f.type).bind fun x=>if x.2=0 then none else some (f.offset,x)
 |_=>none
inductive TK|str|slc|int (k:IntKind)|bool|ptr|mp|other
def tkD:TypeDesc→TK
 |.string=>.str
 |.slice _=>.slc
 |.int k=>.int k
 |.bool=>.bool
 |.pointer _=>.ptr
 |.map _ _=>.mp
 |_=>.other
def tk (P:Program) (t:TypeId):TK:=match P.underlying t with
 |some d=>tkD d
 |none=>.other
section
variable (P:Program) (w:World)
theorem a0o {t:TypeId} {d:TypeDesc} (h:P.underlying t=some d):(underlying t).run P w=.ok d w:=by
 simp [underlying,h]
theorem a1n {t:TypeId} {i:TypeInfo} (h:P.info? t=some i):(sizeOf t).run P w=.ok i.size w:=by
 simp [sizeOf,typeInfo,h]
theorem a2q {t:TypeId} {d:TypeDesc} (h:P.underlying t=some d):(isAgg t).run P w=.ok (a5e d) w:=by
 cases d<;>simp [isAgg,a0o P w h,a5e]
end
theorem a3f (b o n:Nat):(⟨b,o,none⟩:Addr).add n=⟨b,o+n,none⟩:=by
 unfold Addr.add
 split
 ·subst_vars;rfl
 ·rfl
theorem a2b {P:Program} {t e sz:Nat} (h:a0t P t=some (e,sz)):P.underlying t=some (.slice e)∧∃ i,P.info? e=some i∧i.size=sz:=by
 unfold a0t at h
 split at h
 ·rename_i e' he
  cases hi:P.info? e' with
  |none=>simp [hi] at h
  |some i=>simp [hi] at h;obtain ⟨rfl,rfl⟩:=h;exact ⟨he,i,hi,rfl⟩
 ·cases h
theorem a8d {P:Program} {t n sz:Nat} (h:a1x P t=some (n,sz)):∃ e,P.underlying t=some (.array n e)∧∃ i,P.info? e=some i∧i.size=sz:=by
 unfold a1x at h
 split at h
 ·rename_i m e' he
  cases hi:P.info? e' with
  |none=>simp [hi] at h
  |some i=>simp [hi] at h;obtain ⟨rfl,rfl⟩:=h;exact ⟨e',he,i,hi,rfl⟩
 ·cases h
theorem a1u {P:Program} {t n:Nat} {b:Bool} (h:a0m P t=some (b,n)):∃ d i,P.underlying t=some d∧P.info? t=some i∧a5e d=b∧i.size=n:=by
 unfold a0m at h
 split at h
 ·rename_i d i h1 h2
  simp at h
  exact ⟨d,i,h1,h2,h.1,h.2⟩
 ·cases h
theorem a7t {P:Program} {t k off n:Nat} {b:Bool} (h:a0v P t k=some (off,b,n)) :
  ∃ fs f,P.underlying t=some (.struct fs)∧fs[k]? = some f∧f.offset=off∧a0m P f.type=some (b,n)∧n≠0:=by
 unfold a0v at h
 split at h
 ·rename_i fs hs
  cases hf:fs[k]? with
  |none=>simp [hf] at h
  |some f =>
   cases hl:a0m P f.type with
   |none=>simp [hf,hl] at h
   |some x =>
    obtain ⟨b',n'⟩:=x
    simp only [hf,hl,Option.bind_some] at h
    split at h
    ·cases h
    ·simp at h
     obtain ⟨rfl,rfl,rfl⟩:=h
     exact ⟨fs,f,hs,hf,rfl,hl,by assumption⟩
 ·cases h
section
variable {w:World} {O:Nat→Prop} {E:Env}
theorem R.lst_inv {lo sz:Nat} {l:List (List V)} {y:Value} (h:R w O E (.lst lo sz l) y) :
  ∃ a cap b o,∃ g:Nat→Nat→Value,y=.slice a l.length cap∧l.length≤cap∧l.length≤140737488355328∧(l≠[]→a=some ⟨b,o,none⟩∧¬ O b∧b < w.heap.size) ∧
   (∀ (i:Nat) (x:List V) (j:Nat) (u:V),l[i]? = some x→x[j]? = some u→w.cell? ⟨b,o+(i * sz+j),none⟩=some (g i j))∧(∀ x,x ∈ l→x.length=sz) ∧
   (∀ (i:Nat) (x:List V) (j:Nat) (u:V),l[i]? = some x→x[j]? = some u→R0 w O u (g i j)):=by
 cases h with
 |r0 _ _ h =>
  cases h with
  |lst _ _ _ a n cap b o g hlo hn hc hl ha hs hz hr=>exact ⟨a,cap,b,o,g,by rw [hn],hc,hl,ha,fun i x j u h1 h2=>(hs i x j u h1 h2).1,hz,hr⟩
theorem R.lst_inv' {lo sz:Nat} {l:List (List V)} {y:Value} (h:R w O E (.lst lo sz l) y) :
  ∃ a cap b o,∃ g:Nat→Nat→Value,y=.slice a l.length cap∧l.length≤cap∧l.length≤140737488355328∧(l≠[]→a=some ⟨b,o,none⟩∧¬ O b∧b < w.heap.size) ∧
   (∀ (i:Nat) (x:List V) (j:Nat) (u:V),l[i]? = some x→x[j]? = some u→b6f w ⟨b,o+(i * sz+j),none⟩ (g i j))∧(∀ x,x ∈ l→x.length=sz) ∧
   (∀ (i:Nat) (x:List V) (j:Nat) (u:V),l[i]? = some x→x[j]? = some u→R0 w O u (g i j))∧(l≠[]→lo≤b):=by
 cases h with
 |r0 _ _ h =>
  cases h with
  |lst _ _ _ a n cap b o g hlo hn hc hl ha hs hz hr=>exact ⟨a,cap,b,o,g,by rw [hn],hc,hl,ha,hs,hz,hr,hlo⟩
theorem R.fp_inv {cs:List V} {y:Value} (h:R w O E (.fp cs) y) :
  ∃ b o,∃ g:Nat→Value,y=.pointer (some ⟨b,o,none⟩)∧¬ O b∧b < w.heap.size∧(∀ (j:Nat) (u:V),cs[j]? = some u→b6f w ⟨b,o+j,none⟩ (g j)) ∧
   (∀ (j:Nat) (u:V),cs[j]? = some u→R0 w O u (g j)):=by
 cases h with
 |r0 _ _ h =>
  cases h with
  |fp _ b o g hO hb hs hr=>exact ⟨b,o,g,rfl,hO,hb,hs,hr⟩
theorem R.ptr_inv {id off:Nat} {y:Value} (h:R w O E (.ptr id off) y):∃ b K C,E id=some (some b,K,C)∧y=.pointer (some ⟨b,off,none⟩):=by
 cases h with
 |r0 _ _ h=>cases h
 |ptr _ _ b K C h=>exact ⟨b,K,C,h,rfl⟩
theorem R.eptr_inv {id i k sz:Nat} {y:Value} (h:R w O E (.eptr id i k sz) y):∃ b K C,E id=some (some b,K,C)∧i < K∧y=.pointer (some ⟨b,i * sz+k,none⟩):=by
 cases h with
 |r0 _ _ h=>cases h
 |eptr _ _ _ _ b K C h hi=>exact ⟨b,K,C,h,hi,rfl⟩
theorem R.own_inv {id off len sz:Nat} {y:Value} (h:R w O E (.own id off len sz) y):∃ b K C,E id=some (b,K,C)∧e2k b K C off len sz y:=by
 cases h with
 |r0 _ _ h=>cases h
 |own _ _ _ _ b K C _ h hv=>exact ⟨b,K,C,h,hv⟩
theorem R.mp_inv {id:Nat} {y:Value} (h:R w O E (.mp id) y):∃ b K C,E id=some (some b,K,C)∧y=.map (some b):=by
 cases h with
 |r0 _ _ h=>cases h
 |mp id b K C h=>exact ⟨b,K,C,h,rfl⟩
theorem R.agg_inv {cs:List V} {y:Value} (h:R w O E (.agg cs) y) :
  ∃ ys:Array Value,y=.agg ys∧ys.size=cs.length∧∀ (j:Nat) (u:V) (y:Value),cs[j]? = some u→ys[j]? = some y→R w O E u y:=by
 cases h with
 |r0 _ _ h =>
  cases h with
  |agg _ ys hn hr=>exact ⟨ys,rfl,hn,fun j u y h1 h2=>.r0 _ _ (hr j u y h1 h2)⟩
 |agg _ ys hn hr=>exact ⟨ys,rfl,hn,hr⟩
theorem R.tup_inv {cs:List V} {y:Value} (h:R w O E (.tup cs) y) :
  ∃ ys:Array Value,y=.tuple ys∧ys.size=cs.length∧∀ (j:Nat) (u:V) (y:Value),cs[j]? = some u→ys[j]? = some y→R w O E u y:=by
 cases h with
 |r0 _ _ h =>
  cases h with
  |tup _ ys hn hr=>exact ⟨ys,rfl,hn,fun j u y h1 h2=>.r0 _ _ (hr j u y h1 h2)⟩
 |tup _ ys hn hr=>exact ⟨ys,rfl,hn,hr⟩
theorem R.fn_inv {f:Fn} {cap:List V} {y:Value} (h:R w O E (.fn f cap) y) :
  ∃ ys:Array Value,y=e0a f ys∧ys.size=cap.length∧∀ (j:Nat) (u:V) (y:Value),cap[j]? = some u→ys[j]? = some y→R w O E u y:=by
 cases h with
 |r0 _ _ h =>
  cases h with
  |fn _ _ ys hn hr=>exact ⟨ys,rfl,hn,fun j u y h1 h2=>.r0 _ _ (hr j u y h1 h2)⟩
 |fn _ _ ys hn hr=>exact ⟨ys,rfl,hn,hr⟩
end
def c0o:Option (TypeId×Nat)→Option (Nat×Nat)→V→V→Res
 |some (_,sz'),_,.lst _ sz l,.v (.int _ n)=>.go (sz'=sz∧0≤n∧n.toNat < l.length) fun h=>.fp (l[n.toNat]'h.2.2)
 |some (_,sz'),_,.own id off len sz,.v (.int _ n)=>.go (sz'=sz∧0≤n∧n < len) fun _=>.eptr id (off+n.toNat) 0 sz
 |none,some (m,sz),.fp cs,.v (.int _ n)=>.go (0≤n∧n < m) fun _=>.fp (cs.drop (n.toNat * sz))
 |none,some (m,sz),.ptr id off,.v (.int _ n)=>.go (0≤n∧n < m) fun _=>.ptr id (off+n.toNat * sz)
 |_,_,_,_=>.stuck
theorem g1d (P:Program) (G:Gh) (s:St) (o:Oper) (hd:∀ d,o.dst=some d→d < G.n) (t:TypeId) (x i:Operand) (ho:o.op=.indexAddr t x i) :
  a2w P G s o (c0o (a0t P t) (a1x P t) (ev s x) (ev s i)):=by
 unfold c0o
 split
 ·rename_i e0 sz' lo sz l k n hse hx hi
  rintro ⟨rfl,h0,hlt⟩
  refine a0j hd fun a w E hs=>?_
  obtain ⟨hu,inf,hinf,hsz⟩:=a2b hse
  obtain ⟨ad,cap,b,of',g,hy,hc,hl,ha,hcell,hz,hr,_⟩:=R.lst_inv' (a1t hs hx)
  have hyi:=R.v_inv (a1t hs hi)
  have hne:l≠[]:=by rintro rfl;simp at hlt
  obtain ⟨rfl,hO,hb⟩:=ha hne
  refine ⟨.pointer (some ⟨b,of'+n.toNat * sz',none⟩),?_,?_⟩
  ·have hn':n < (l.length:Int):=by omega
   simp [execOp,ho,Instr.indexAt,asIntOf,hyi,hy,a0o P w hu,a1n P w hinf,hsz,h0,hn',a3f]
  ·refine .r0 _ _ (.fp _ b _ (fun j=>g n.toNat j) hO hb (fun j u hj=>?_) (fun j u hj=>hr n.toNat _ j u (List.getElem?_eq_getElem hlt) hj))
   rw [Nat.add_assoc]
   exact hcell n.toNat _ j u (List.getElem?_eq_getElem hlt) hj
 ·rename_i e0 sz' id off len sz k n hse hx hi
  rintro ⟨rfl,h0,hlt⟩
  refine a0j hd fun a w E hs=>?_
  obtain ⟨hu,inf,hinf,hsz⟩:=a2b hse
  obtain ⟨b,K,C,hE,hv⟩:=R.own_inv (a1t hs hx)
  have hyi:=R.v_inv (a1t hs hi)
  obtain ⟨hle,hKC,hv⟩:=hv
  cases b with
  |none=>obtain ⟨_,rfl,_⟩:=hv;simp at hlt;omega
  |some b =>
   obtain ⟨o',ho',hy⟩:=hv
   have:=ho' (.inl (by omega))
   subst this
   refine ⟨.pointer (some ⟨b,(off+n.toNat) * sz'+0,none⟩),?_,.eptr _ _ _ _ b K C hE (by omega)⟩
   simp [execOp,ho,Instr.indexAt,asIntOf,hyi,hy,a0o P w hu,a1n P w hinf,hsz,h0,hlt,a3f,Nat.add_mul]
 ·rename_i m sz cs k n hse hae hx hi
  rintro ⟨h0,hlt⟩
  refine a0j hd fun a w E hs=>?_
  obtain ⟨e,hu,inf,hinf,hsz⟩:=a8d hae
  obtain ⟨b,of',g,hy,hO,hb,hcell,hr⟩:=R.fp_inv (a1t hs hx)
  have hyi:=R.v_inv (a1t hs hi)
  refine ⟨.pointer (some ⟨b,of'+n.toNat * sz,none⟩),?_,?_⟩
  ·simp [execOp,ho,Instr.indexAt,asIntOf,hyi,hy,a0o P w hu,a1n P w hinf,hsz,h0,hlt,a3f,Instr.sureAddr]
  ·refine .r0 _ _ (.fp _ b _ (fun j=>g (n.toNat * sz+j)) hO hb (fun j u hj=>?_) (fun j u hj=>hr _ _ (by rw [← hj,List.getElem?_drop])))
   rw [Nat.add_assoc]
   exact hcell _ u (by rw [← hj,List.getElem?_drop])
 ·rename_i m sz id off k n hse hae hx hi
  rintro ⟨h0,hlt⟩
  refine a0j hd fun a w E hs=>?_
  obtain ⟨e,hu,inf,hinf,hsz⟩:=a8d hae
  obtain ⟨b,K,C,hE,hy⟩:=R.ptr_inv (a1t hs hx)
  have hyi:=R.v_inv (a1t hs hi)
  refine ⟨.pointer (some ⟨b,off+n.toNat * sz,none⟩),?_,.ptr _ _ b K C hE⟩
  simp [execOp,ho,Instr.indexAt,asIntOf,hyi,hy,a0o P w hu,a1n P w hinf,hsz,h0,hlt,a3f,Instr.sureAddr]
 ·trivial
theorem e2e (P:Program) (G:Gh) (s:St) (o:Oper) (hd:∀ d,o.dst=some d→d < G.n) (x:Operand) (ho:o.op=.move x∨o.op=.assign x) :
  a2w P G s o (.go True fun _=>ev s x):=by
 intro _
 refine a0j hd fun a w E hs=>⟨a.eval x,?_,b6t hs x⟩
 rcases ho with ho|ho<;>simp [execOp,ho]
def b3s:V→V→V→Res
 |.v (.bool c),.v (.bool a),.v (.bool b)=>.go True fun _=>.v (.bool (bif c then a else b))
 |.v (.bool true),a,_=>.go True fun _=>a
 |.v (.bool false),_,b=>.go True fun _=>b
 |_,_,_=>.stuck
theorem f4m (P:Program) (G:Gh) (s:St) (o:Oper) (hd:∀ d,o.dst=some d→d < G.n) (c x y:Operand) (ho:o.op=.pick c x y) :
  a2w P G s o (b3s (ev s c) (ev s x) (ev s y)):=by
 unfold b3s
 split
 ·rename_i b p q hc hx hy
  intro _
  refine a0j hd fun a w E hs=>⟨.bool (bif b then p else q),?_,.r0 _ _ (.v _)⟩
  have hyc:=R.v_inv (a1t hs hc)
  have hyx:=R.v_inv (a1t hs hx)
  have hyy:=R.v_inv (a1t hs hy)
  cases b<;>simp [execOp,ho,hyc,hyx,hyy,asBool]
 ·rename_i hc _
  intro _
  refine a0j hd fun a w E hs=>⟨a.eval x,?_,b6t hs x⟩
  have hyc:=R.v_inv (a1t hs hc)
  simp [execOp,ho,hyc,asBool]
 ·rename_i hc _
  intro _
  refine a0j hd fun a w E hs=>⟨a.eval y,?_,b6t hs y⟩
  have hyc:=R.v_inv (a1t hs hc)
  simp [execOp,ho,hyc,asBool]
 ·trivial
def c0g:V→Res
 |.fp cs=>.go True fun _=>.fp cs
 |.ptr id off=>.go True fun _=>.ptr id off
 |.eptr id i k sz=>.go True fun _=>.eptr id i k sz
 |.fn (.func f) cap=>.go True fun _=>.fn (.func f) cap
 |_=>.stuck
theorem c7t (P:Program) (G:Gh) (s:St) (o:Oper) (hd:∀ d,o.dst=some d→d < G.n) (x:Operand) (ho:o.op=.nilCheck x) :
  a2w P G s o (c0g (ev s x)):=by
 unfold c0g
 split
 ·rename_i cs hx
  intro _
  refine a0j hd fun a w E hs=>⟨a.eval x,?_,a1t hs hx⟩
  obtain ⟨b,of',g,hy,_⟩:=R.fp_inv (a1t hs hx)
  simp [execOp,ho,hy]
 ·rename_i id off hx
  intro _
  refine a0j hd fun a w E hs=>⟨a.eval x,?_,a1t hs hx⟩
  obtain ⟨b,K,C,hE,hy⟩:=R.ptr_inv (a1t hs hx)
  simp [execOp,ho,hy]
 ·rename_i id i k sz hx
  intro _
  refine a0j hd fun a w E hs=>⟨a.eval x,?_,a1t hs hx⟩
  obtain ⟨b,K,C,hE,_,hy⟩:=R.eptr_inv (a1t hs hx)
  simp [execOp,ho,hy]
 ·rename_i f cap hx
  intro _
  refine a0j hd fun a w E hs=>⟨a.eval x,?_,a1t hs hx⟩
  obtain ⟨ys,hy,_⟩:=R.fn_inv (a1t hs hx)
  simp [execOp,ho,hy,e0a]
 ·trivial
def d3j:Option (Bool×Nat)→V→Res
 |some (false,_),.fp (c::_)=>.go True fun _=>c
 |some (true,n),.fp cs=>.go (n≤cs.length) fun _=>.agg (cs.take n)
 |_,_=>.stuck
theorem a0w {α:Type _} (l:List α) (n j:Nat) (u:α) (h:(l.take n)[j]? = some u):l[j]? = some u∧j < n:=by
 rw [List.getElem?_take] at h
 split at h
 ·exact ⟨h,by assumption⟩
 ·cases h
theorem a5p {P:Program} {w:World} {b o n:Nat} {f:Nat→Value} (h:∀ j,j < n→w.cell? ⟨b,o+j,none⟩=some (f j)) :
  (loadCells ⟨b,o,none⟩ n).run P w=.ok ((List.range n).map f).toArray w:=by
 have:=run_loadCells (P:=P) (w:=w) ⟨b,o,none⟩ n f (fun j hj=>by rw [a3f];exact h j hj)
 simpa using this
theorem f5m (P:Program) (G:Gh) (s:St) (o:Oper) (hd:∀ d,o.dst=some d→d < G.n) (t:TypeId) (x:Operand) (ho:o.op=.load t x) :
  a2w P G s o (d3j (a0m P t) (ev s x)):=by
 unfold d3j
 split
 ·rename_i n c cs hl hx
  intro _
  refine a0j hd fun a w E hs=>?_
  obtain ⟨d,i,hu,hi,hag,hsz⟩:=a1u hl
  obtain ⟨b,of',g,hy,hO,hb,hcell,hr⟩:=R.fp_inv (a1t hs hx)
  have h0:=(hcell 0 c rfl).1
  refine ⟨g 0,?_,.r0 _ _ (hr 0 c rfl)⟩
  simp only [Nat.add_zero] at h0
  simp [execOp,ho,hy,Instr.loadAt,Instr.sureAddr,loadVar,a2q P w hu,hag,h0]
 ·rename_i n cs hl hx
  intro hle
  refine a0j hd fun a w E hs=>?_
  obtain ⟨d,i,hu,hi,hag,hsz⟩:=a1u hl
  obtain ⟨b,of',g,hy,hO,hb,hcell,hr⟩:=R.fp_inv (a1t hs hx)
  have hrun:=a5p (P:=P) (w:=w) (b:=b) (o:=of') (n:=n) (f:=g) (fun j hj=>(hcell j _ (List.getElem?_eq_getElem (by omega))).1)
  refine ⟨.agg ((List.range n).map g).toArray,?_,.r0 _ _ (.agg _ _ (by simp;omega) (fun j u y h1 h2=>?_))⟩
  ·simp [execOp,ho,hy,Instr.loadAt,Instr.sureAddr,loadVar,a2q P w hu,hag,a1n P w hi,hsz,hrun]
  ·obtain ⟨h1,hj⟩:=a0w _ _ _ _ h1
   simp [hj] at h2
   subst h2
   exact hr j u h1
 ·trivial
def b3n:Option (Nat×Bool×Nat)→V→Res
 |some (k,_,_),.fp cs=>.go True fun _=>.fp (cs.drop k)
 |some (k,_,_),.ptr id off=>.go True fun _=>.ptr id (off+k)
 |some (k,_,_),.eptr id i k' sz=>.go True fun _=>.eptr id i (k'+k) sz
 |_,_=>.stuck
theorem a7j {P:Program} {w:World} {f:Field} {b:Bool} {n:Nat} (h:a0m P f.type=some (b,n)) (hn:n≠0) (bl of':Nat) :
  (fieldPlace ⟨bl,of',none⟩ f).run P w=.ok ⟨bl,of'+f.offset,none⟩ w:=by
 obtain ⟨d,i,hu,hi,hag,hsz⟩:=a1u h
 simp [fieldPlace,a1n P w hi,hsz,hn,a3f]
theorem c6f (P:Program) (G:Gh) (s:St) (o:Oper) (hd:∀ d,o.dst=some d→d < G.n) (t:TypeId) (x:Operand) (k:Nat) (ho:o.op=.fieldAddr t x k) :
  a2w P G s o (b3n (a0v P t k) (ev s x)):=by
 unfold b3n
 split
 ·rename_i off ag n cs hf hx
  intro _
  refine a0j hd fun a w E hs=>?_
  obtain ⟨fs,f,hu,hfk,rfl,hl,hn⟩:=a7t hf
  obtain ⟨b,of',g,hy,hO,hb,hcell,hr⟩:=R.fp_inv (a1t hs hx)
  refine ⟨.pointer (some ⟨b,of'+f.offset,none⟩),?_,?_⟩
  ·simp [execOp,ho,hy,Instr.fieldAt,Instr.sureAddr,a0o P w hu,hfk,a7j hl hn]
  ·refine .r0 _ _ (.fp _ b _ (fun j=>g (f.offset+j)) hO hb (fun j u hj=>?_) (fun j u hj=>hr _ _ (by rw [← hj,List.getElem?_drop])))
   rw [Nat.add_assoc]
   exact hcell _ u (by rw [← hj,List.getElem?_drop])
 ·rename_i off ag n id of' hf hx
  intro _
  refine a0j hd fun a w E hs=>?_
  obtain ⟨fs,f,hu,hfk,rfl,hl,hn⟩:=a7t hf
  obtain ⟨b,K,C,hE,hy⟩:=R.ptr_inv (a1t hs hx)
  refine ⟨.pointer (some ⟨b,of'+f.offset,none⟩),?_,.ptr _ _ b K C hE⟩
  simp [execOp,ho,hy,Instr.fieldAt,Instr.sureAddr,a0o P w hu,hfk,a7j hl hn]
 ·rename_i off ag n id i k' sz hf hx
  intro _
  refine a0j hd fun a w E hs=>?_
  obtain ⟨fs,f,hu,hfk,rfl,hl,hn⟩:=a7t hf
  obtain ⟨b,K,C,hE,hiK,hy⟩:=R.eptr_inv (a1t hs hx)
  refine ⟨.pointer (some ⟨b,i * sz+(k'+f.offset),none⟩),?_,.eptr _ _ _ _ b K C hE hiK⟩
  simp [execOp,ho,hy,Instr.fieldAt,Instr.sureAddr,a0o P w hu,hfk,a7j hl hn,Nat.add_assoc]
 ·trivial
def c0h:Option (Nat×Bool×Nat)→V→Res
 |some (k,false,_),.agg cs=>match cs[k]? with
  |some c=>.go True fun _=>c
  |none=>.stuck
 |some (k,true,n),.agg cs=>.go (k+n≤cs.length) fun _=>.agg ((cs.drop k).take n)
 |_,_=>.stuck
theorem a9x {P:Program} {w:World} {t n:Nat} (h:a0m P t=some (false,n)) (ys:Array Value) (k:Nat) (y:Value) (hk:ys[k]? = some y) :
  (part t ys k).run P w=.ok y w:=by
 obtain ⟨d,i,hu,hi,hag,hsz⟩:=a1u h
 simp [part,a2q P w hu,hag,hk]
theorem a9w {P:Program} {w:World} {t n:Nat} (h:a0m P t=some (true,n)) (ys:Array Value) (k:Nat) :
  (part t ys k).run P w=.ok (.agg (ys.extract k (k+n))) w:=by
 obtain ⟨d,i,hu,hi,hag,hsz⟩:=a1u h
 simp [part,a2q P w hu,hag,a1n P w hi,hsz]
theorem e8u (P:Program) (G:Gh) (s:St) (o:Oper) (hd:∀ d,o.dst=some d→d < G.n) (t:TypeId) (x:Operand) (k:Nat) (ho:o.op=.field t x k) :
  a2w P G s o (c0h (a0v P t k) (ev s x)):=by
 unfold c0h
 split
 ·rename_i off n cs hf hx
  split
  ·rename_i c hc
   intro _
   refine a0j hd fun a w E hs=>?_
   obtain ⟨fs,f,hu,hfk,rfl,hl,hn⟩:=a7t hf
   obtain ⟨ys,hy,hsz,hr⟩:=R.agg_inv (a1t hs hx)
   have hlt:f.offset < ys.size:=by rw [hsz];exact (List.getElem?_eq_some_iff.1 hc).1
   refine ⟨ys[f.offset],?_,hr _ _ _ hc (by simp [hlt])⟩
   simp [execOp,ho,hy,Instr.field,asAgg,a0o P w hu,hfk,a9x hl ys f.offset _ (Array.getElem?_eq_getElem hlt)]
  ·trivial
 ·rename_i off n cs hf hx
  intro hle
  refine a0j hd fun a w E hs=>?_
  obtain ⟨fs,f,hu,hfk,rfl,hl,hn⟩:=a7t hf
  obtain ⟨ys,hy,hsz,hr⟩:=R.agg_inv (a1t hs hx)
  refine ⟨.agg (ys.extract f.offset (f.offset+n)),?_,.agg _ _ (by simp;omega) (fun j u y h1 h2=>?_)⟩
  ·simp [execOp,ho,hy,Instr.field,asAgg,a0o P w hu,hfk,a9w hl]
  ·obtain ⟨h1,hj⟩:=a0w _ _ _ _ h1
   rw [List.getElem?_drop] at h1
   refine hr _ u y h1 ?_
   rw [Array.getElem?_extract] at h2
   split at h2
   ·exact h2
   ·cases h2
 ·trivial
def b9w (k:Nat):V→Res
 |.tup cs=>match cs[k]? with
  |some c=>.go True fun _=>c
  |none=>.stuck
 |_=>.stuck
theorem d4h (P:Program) (G:Gh) (s:St) (o:Oper) (hd:∀ d,o.dst=some d→d < G.n) (x:Operand) (k:Nat) (ho:o.op=.extract x k) :
  a2w P G s o (b9w k (ev s x)):=by
 unfold b9w
 split
 ·rename_i cs hx
  split
  ·rename_i c hc
   intro _
   refine a0j hd fun a w E hs=>?_
   obtain ⟨ys,hy,hsz,hr⟩:=R.tup_inv (a1t hs hx)
   have hlt:k < ys.size:=by rw [hsz];exact (List.getElem?_eq_some_iff.1 hc).1
   refine ⟨ys[k],?_,hr _ _ _ hc (by simp [hlt])⟩
   simp [execOp,ho,hy,Instr.extract,hlt]
  ·trivial
 ·trivial
def b9s:TK→V→Res
 |.str,.v (.string s)=>.go True fun _=>.v (.int .i64 s.size)
 |.slc,.lst _ _ l=>.go True fun _=>.v (.int .i64 l.length)
 |.slc,.own _ _ len _=>.go True fun _=>.v (.int .i64 len)
 |.slc,.v (.slice _ n _)=>.go True fun _=>.v (.int .i64 n)
 |_,_=>.stuck
theorem b1v {P:Program} {t:Nat} (h:tk P t=.str):P.underlying t=some .string:=by
 unfold tk at h
 split at h
 ·rename_i d hd;cases d<;>simp [tkD] at h;exact hd
 ·cases h
theorem b7k {P:Program} {t:Nat} (h:tk P t=.slc):∃ e,P.underlying t=some (.slice e):=by
 unfold tk at h
 split at h
 ·rename_i d hd;cases d<;>simp [tkD] at h;exact ⟨_,hd⟩
 ·cases h
theorem c6n {P:Program} {t:Nat} {k:IntKind} (h:tk P t=.int k):P.underlying t=some (.int k):=by
 unfold tk at h
 split at h
 ·rename_i d hd;cases d<;>simp [tkD] at h;subst h;exact hd
 ·cases h
theorem d7c {P:Program} {t:Nat} (h:tk P t=.ptr):∃ e,P.underlying t=some (.pointer e):=by
 unfold tk at h
 split at h
 ·rename_i d hd;cases d<;>simp [tkD] at h;exact ⟨_,hd⟩
 ·cases h
theorem f5q {P:Program} {t:Nat} (h:tk P t=.bool):P.underlying t=some .bool:=by
 unfold tk at h
 split at h
 ·rename_i d hd;cases d<;>simp [tkD] at h;exact hd
 ·cases h
theorem g1o (P:Program) (G:Gh) (s:St) (o:Oper) (hd:∀ d,o.dst=some d→d < G.n) (t:TypeId) (x:Operand)
  (ho:o.op=.call { callee:=.builtin .len,args:=#[x],argTypes:=#[t] }):a2w P G s o (b9s (tk P t) (ev s x)):=by
 unfold b9s
 split
 ·rename_i st ht hx
  intro _
  refine a0j hd fun a w E hs=>⟨_,?_,.r0 _ _ (.v _)⟩
  have hy:=R.v_inv (a1t hs hx)
  simp [execOp,ho,resolve,invoke,builtin,Builtin.len_,a0o P w (b1v ht),hy,goInt]
 ·rename_i sz l ht hx
  intro _
  refine a0j hd fun a w E hs=>⟨_,?_,.r0 _ _ (.v _)⟩
  obtain ⟨el,hu⟩:=b7k ht
  obtain ⟨ad,cap,b,of',g,hy,_⟩:=R.lst_inv (a1t hs hx)
  simp [execOp,ho,resolve,invoke,builtin,Builtin.len_,a0o P w hu,hy,goInt]
 ·rename_i id off len sz ht hx
  intro _
  refine a0j hd fun a w E hs=>⟨_,?_,.r0 _ _ (.v _)⟩
  obtain ⟨el,hu⟩:=b7k ht
  obtain ⟨b,K,C,hE,hv⟩:=R.own_inv (a1t hs hx)
  have hy:∃ ad c,a.eval x=.slice ad len c:=by
   cases b with
   |none=>obtain ⟨_,_,_,rfl,h⟩:=hv;exact ⟨_,_,h⟩
   |some b=>obtain ⟨_,_,o',_,h⟩:=hv;exact ⟨_,_,h⟩
  obtain ⟨ad,c,hy⟩:=hy
  simp [execOp,ho,resolve,invoke,builtin,Builtin.len_,a0o P w hu,hy,goInt]
 ·rename_i ad n c ht hx
  intro _
  refine a0j hd fun a w E hs=>⟨_,?_,.r0 _ _ (.v _)⟩
  obtain ⟨el,hu⟩:=b7k ht
  have hy:=R.v_inv (a1t hs hx)
  simp [execOp,ho,resolve,invoke,builtin,Builtin.len_,a0o P w hu,hy,goInt]
 ·trivial
def d4m:Builtin→V→V→Res
 |.min,.v (.int k x),.v (.int _ y)=>.go True fun _=>.v (.int k (if y < x then y else x))
 |.max,.v (.int k x),.v (.int _ y)=>.go True fun _=>.v (.int k (if x < y then y else x))
 |_,_,_=>.stuck
theorem g7e (P:Program) (G:Gh) (s:St) (o:Oper) (hd:∀ d,o.dst=some d→d < G.n) (b:Builtin) (x y:Operand) (t t':TypeId)
  (ho:o.op=.call ⟨.builtin b,⟨[x,y]⟩,⟨[t,t']⟩⟩):a2w P G s o (d4m b (ev s x) (ev s y)):=by
 unfold d4m
 split
 ·rename_i k m k' n hx hy
  intro _
  refine a0j hd fun a w E hs=>⟨_,?_,.r0 _ _ (.v _)⟩
  have h1:=R.v_inv (a1t hs hx)
  have h2:=R.v_inv (a1t hs hy)
  simp [execOp,ho,resolve,invoke,builtin,Builtin.min_,Builtin.min2,h1,h2]
 ·rename_i k m k' n hx hy
  intro _
  refine a0j hd fun a w E hs=>⟨_,?_,.r0 _ _ (.v _)⟩
  have h1:=R.v_inv (a1t hs hx)
  have h2:=R.v_inv (a1t hs hy)
  simp [execOp,ho,resolve,invoke,builtin,Builtin.max_,Builtin.max2,h1,h2]
 ·trivial
def c0i:TK→V→Res
 |.slc,.v (.slice _ _ c)=>.go True fun _=>.v (.int .i64 c)
 |_,_=>.stuck
theorem g3t (P:Program) (G:Gh) (s:St) (o:Oper) (hd:∀ d,o.dst=some d→d < G.n) (t:TypeId) (x:Operand)
  (ho:o.op=.call ⟨.builtin .cap,⟨[x]⟩,⟨[t]⟩⟩):a2w P G s o (c0i (tk P t) (ev s x)):=by
 unfold c0i
 split
 ·rename_i ad n c ht hx
  intro _
  refine a0j hd fun a w E hs=>⟨_,?_,.r0 _ _ (.v _)⟩
  obtain ⟨el,hu⟩:=b7k ht
  have hy:=R.v_inv (a1t hs hx)
  simp [execOp,ho,resolve,invoke,builtin,Builtin.cap_,a0o P w hu,hy,goInt]
 ·trivial
def d5s:TK→V→V→Res
 |.str,.v (.string s),.v (.int _ n)=>.go (0≤n∧n.toNat < s.size) fun h=>.v (.int .u8 (s[n.toNat]'h.2).toNat)
 |_,_,_=>.stuck
theorem e8m (P:Program) (G:Gh) (s:St) (o:Oper) (hd:∀ d,o.dst=some d→d < G.n) (t:TypeId) (x i:Operand) (ho:o.op=.index t x i) :
  a2w P G s o (d5s (tk P t) (ev s x) (ev s i)):=by
 unfold d5s
 split
 ·rename_i st k n ht hx hi
  rintro ⟨h0,hlt⟩
  refine a0j hd fun a w E hs=>⟨_,?_,.r0 _ _ (.v _)⟩
  have hy:=R.v_inv (a1t hs hx)
  have hyi:=R.v_inv (a1t hs hi)
  have hg:st[n.toNat]? = some (st[n.toNat]'hlt):=by simp [hlt]
  simp [execOp,ho,Instr.index,asIntOf,a0o P w (b1v ht),hy,hyi,h0,hg]
 ·trivial
def a3g (P:Program) (t:TypeId):Option (Nat×Bool×Nat):=match P.underlying t with
 |some (.array n e)=>(a0m P e).map fun x=>(n,x)
 |_=>none
def c0k:Option (Nat×Bool×Nat)→V→V→Res→Res
 |some (n,false,m),.agg cs,.v (.int _ i),_=>.go (m=1∧cs.length=n∧0≤i∧i < n) fun _=>(cs[i.toNat]?).getD .any
 |some (n,true,m),.agg cs,.v (.int _ i),_=>.go (cs.length=n * m∧0≤i∧i < n) fun _=>.agg ((cs.drop (i.toNat * m)).take m)
 |_,_,_,r=>r
theorem b7x {P:Program} {t n m:Nat} {b:Bool} (h:a3g P t=some (n,b,m)):∃ e i,P.underlying t=some (.array n e)∧a0m P e=some (b,m)∧P.info? e=some i∧i.size=m:=by
 unfold a3g at h
 split at h
 ·rename_i n' e hu
  simp only [Option.map_eq_some_iff,Prod.mk.injEq] at h
  obtain ⟨x,h1,rfl,rfl⟩:=h
  obtain ⟨_,i,_,hi,_,hs⟩:=a1u h1
  exact ⟨e,i,hu,h1,hi,hs⟩
 ·cases h
theorem g0c (P:Program) (G:Gh) (s:St) (o:Oper) (hd:∀ d,o.dst=some d→d < G.n) (t:TypeId) (x i:Operand) (ho:o.op=.index t x i) (r:Res) (h:a2w P G s o r) :
  a2w P G s o (c0k (a3g P t) (ev s x) (ev s i) r):=by
 unfold c0k
 split
 ·rename_i n m cs k j hl hx hi
  rintro ⟨rfl,h1,h2,h3⟩
  refine a0j hd fun a w E hs=>?_
  obtain ⟨e,inf,hu,hk,hinf,hsz⟩:=b7x hl
  obtain ⟨ys,hy,hys,hr⟩:=R.agg_inv (a1t hs hx)
  have hyi:=R.v_inv (a1t hs hi)
  have hlt:j.toNat < ys.size:=by omega
  have hc:cs[j.toNat]? = some (cs[j.toNat]'(by omega)):=List.getElem?_eq_getElem (by omega)
  rw [hc,Option.getD_some]
  refine ⟨ys[j.toNat],?_,hr _ _ _ hc (by simp [hlt])⟩
  simp [execOp,ho,hy,hyi,Instr.index,asIntOf,a0o P w hu,h2,h3,a1n P w hinf,hsz,a9x hk ys j.toNat _ (Array.getElem?_eq_getElem hlt)]
 ·rename_i n m cs k j hl hx hi
  rintro ⟨h1,h2,h3⟩
  refine a0j hd fun a w E hs=>?_
  obtain ⟨e,inf,hu,hk,hinf,hsz⟩:=b7x hl
  obtain ⟨ys,hy,hys,hr⟩:=R.agg_inv (a1t hs hx)
  have hyi:=R.v_inv (a1t hs hi)
  have hle:(j.toNat+1) * m≤n * m:=Nat.mul_le_mul_right _ (by omega)
  rw [Nat.succ_mul] at hle
  refine ⟨.agg (ys.extract (j.toNat * m) (j.toNat * m+m)),?_,.agg _ _ (by simp;omega) (fun q u y g1 g2=>?_)⟩
  ·simp [execOp,ho,hy,hyi,Instr.index,asIntOf,a0o P w hu,h2,h3,a1n P w hinf,hsz,a9w hk]
  ·obtain ⟨g1,hj⟩:=a0w _ _ _ _ g1
   rw [List.getElem?_drop] at g1
   refine hr _ u y g1 ?_
   rw [Array.getElem?_extract] at g2
   split at g2
   ·exact g2
   ·cases g2
 ·exact h
def b8s (f:Fn) (cap:List V):Res:=match f with
 |.func k=>.go True fun _=>.fn (.func k) cap
 |_=>.stuck
theorem c9u (P:Program) (G:Gh) (s:St) (o:Oper) (hd:∀ d,o.dst=some d→d < G.n) (f:Fn) (cap:List Operand) (ho:o.op=.makeFunc f #[] cap.toArray) :
  a2w P G s o (b8s f (cap.map (ev s))):=by
 unfold b8s
 split
 ·rename_i k
  intro _
  refine a0j hd fun a w E hs=>⟨.func (.func k) #[] (cap.toArray.map a.eval),?_,.fn (.func k) _ (cap.toArray.map a.eval) (by simp) (fun j u y h1 h2=>?_)⟩
  ·simp [execOp,ho,Instr.makeFunc]
  ·simp only [List.getElem?_map,Option.map_eq_some_iff] at h1
   obtain ⟨x,hx,rfl⟩:=h1
   simp [hx] at h2
   subst h2
   exact b6t hs x
 ·trivial
def c0d (f:Fn) (bs:List V):Res:=match f with
 |.func k=>.go True fun _=>.fn (g8l k) bs
 |_=>.stuck
theorem c3o (P:Program) (G:Gh) (s:St) (o:Oper) (hd:∀ d,o.dst=some d→d < G.n) (f:Fn) (bs:List Operand) (ho:o.op=.makeFunc f bs.toArray #[]) :
  a2w P G s o (c0d f (bs.map (ev s))):=by
 unfold c0d
 split
 ·rename_i k
  intro _
  refine a0j hd fun a w E hs=>⟨.func (.func k) (bs.toArray.map a.eval) #[],?_,.fn (g8l k) _ (bs.toArray.map a.eval) (by simp) (fun j u y h1 h2=>?_)⟩
  ·simp [execOp,ho,Instr.makeFunc]
  ·simp only [List.getElem?_map,Option.map_eq_some_iff] at h1
   obtain ⟨x,hx,rfl⟩:=h1
   simp [hx] at h2
   subst h2
   exact b6t hs x
 ·trivial
end Pm
open Go
namespace Pm
def d3w (k:IntKind) (n:Int):Prop:=k.min≤n∧n≤k.max
theorem b0g (n:Int):d3w .i64 n=(-9223372036854775808≤n∧n≤9223372036854775807):=by
 simp [d3w,IntKind.min,IntKind.max,IntKind.signed,IntKind.bits]
theorem a5n {k:IntKind} {n:Int} (h:d3w k n):k.wrap n=n:=by
 obtain ⟨h1,h2⟩:=h
 cases k<;>simp [IntKind.min,IntKind.max,IntKind.signed,IntKind.bits] at h1 h2<;>simp [IntKind.wrap,IntKind.signed,IntKind.bits]<;>omega
theorem f2r (x y:ByteArray):(x.toList == y.toList)=decide (x=y):=by
 rw [ByteArray.toList_eq,ByteArray.toList_eq,Bool.eq_iff_iff]
 simp only [beq_iff_eq,decide_eq_true_eq]
 exact ⟨WideShapes.bytes_inj,fun h=>by rw [h]⟩
theorem d8o (m n:Int):(m == n)=decide (m=n):=by rw [Bool.eq_iff_iff];simp
def b5x (k k':IntKind) (n:Int):Res:=match k with
 |.i64=>.go (k'=.i64∧-9223372036854775808≤n∧n≤9223372036854775807) fun _=>.v (.int .i64 n)
 |k=>.go (k'=k) fun _=>.v (.int k (k.wrap n))
def g6x:IntKind→Int
 |.i64=>62
 |.u8=>8
 |_=>0
def g4t:IntKind→Int
 |.i64=>9223372036854775807
 |.u8=>255
 |_=>0
def b9c (op:BinOp) (k k':IntKind) (x y:Int):Res:=match op with
 |.add=>b5x k k' (x+y)
 |.sub=>b5x k k' (x - y)
 |.mul=>b5x k k' (x * y)
 |.quo=>.go (k'=k∧0≤x∧0 < y∧d3w k (x / y)) fun _=>.v (.int k (x / y))
 |.rem=>.go (k'=k∧0≤x∧0 < y) fun _=>.v (.int k (x % y))
 |.eql=>.go (k'=k) fun _=>.v (.bool (decide (x=y)))
 |.neq=>.go (k'=k) fun _=>.v (.bool (!decide (x=y)))
 |.lss=>.go (k'=k) fun _=>.v (.bool (decide (x < y)))
 |.leq=>.go (k'=k) fun _=>.v (.bool (decide (x≤y)))
 |.gtr=>.go (k'=k) fun _=>.v (.bool (decide (y < x)))
 |.geq=>.go (k'=k) fun _=>.v (.bool (decide (y≤x)))
 |.shl=>.go (k=.i64∧0≤y∧y≤62∧d3w .i64 (x * 2 ^ y.toNat)) fun _=>.v (.int .i64 (x * 2 ^ y.toNat))
 |.shr=>.go (0≤y∧y≤g6x k) fun _=>.v (.int k (x / 2 ^ y.toNat))
 |.and=>.go (k'=k∧0≤x∧x≤g4t k∧0≤y∧y≤g4t k) fun _=>.v (.int k ((x.toNat &&& y.toNat:Nat):Int))
 |_=>.stuck
def b9x (op:BinOp) (x y:ByteArray):Res:=match op with
 |.add=>.go (x.size+y.size≤9223372036854775807) fun _=>.v (.string (x++y))
 |.eql=>.go True fun _=>.v (.bool (decide (x=y)))
 |.neq=>.go True fun _=>.v (.bool (!decide (x=y)))
 |.lss=>.go True fun _=>.v (.bool (Op.bytesLess x.toList y.toList))
 |.leq=>.go True fun _=>.v (.bool (Op.bytesLess x.toList y.toList || decide (x=y)))
 |.gtr=>.go True fun _=>.v (.bool (!(Op.bytesLess x.toList y.toList || decide (x=y))))
 |.geq=>.go True fun _=>.v (.bool (!Op.bytesLess x.toList y.toList))
 |_=>.stuck
def b8j (op:BinOp) (b:Bool):Res:=match op with
 |.eql=>.go True fun _=>.v (.bool b)
 |.neq=>.go True fun _=>.v (.bool (!b))
 |_=>.stuck
def b1m (op:BinOp) (C:Prop):Res:=match op with
 |.eql=>.br fun b=>b=true→C
 |.neq=>.br fun b=>b=false→C
 |_=>.stuck
def b6s (op:BinOp) (t:TK):V→V→Res
 |.v (.int k x),.v (.int k' y)=>b9c op k k' x y
 |.v (.string x),.v (.string y)=>b9x op x y
 |.v (.bool x),.v (.bool y)=>match t with
  |.bool=>b8j op (x == y)
  |_=>.stuck
 |.v (.pointer none),.v (.pointer none)=>match t with
  |.ptr=>b8j op true
  |_=>.stuck
 |.fp _,.v (.pointer none)=>match t with
  |.ptr=>b8j op false
  |_=>.stuck
 |.ptr _ _,.v (.pointer none)=>match t with
  |.ptr=>b8j op false
  |_=>.stuck
 |.v (.slice none _ _),.v (.slice none _ _)=>match t with
  |.slc=>b8j op true
  |_=>.stuck
 |.lst _ _ l,.v (.slice none _ _)=>match t with
  |.slc=>b1m op (l=[])
  |_=>.stuck
 |.own _ _ len _,.v (.slice none _ _)=>match t with
  |.slc=>b1m op (len=0)
  |_=>.stuck
 |_,_=>.stuck
section
variable {P:Program} {G:Gh} {s:St} {o:Oper} (hd:∀ d,o.dst=some d→d < G.n) {op:BinOp} {t t':TypeId} {x y:Operand} (ho:o.op=.binOp op t x y t')
include hd ho
theorem e5o {k k':IntKind} {m n:Int} (hx:ev s x=.v (.int k m)) (hy:ev s y=.v (.int k' n)):a2w P G s o (b9c op k k' m n):=by
 have key:∀ (v:Value) (h:∀ w,(do eqGuard op t x y (.int k m) (.int k' n);binOp op t (.int k m) (.int k' n)).run P w=.ok v w),b2z P G s o (a3z s o.dst (.v v)):=fun v h=>by
  refine a0j hd fun a w E hs=>⟨v,?_,.r0 _ _ (.v _)⟩
  have hx':=R.v_inv (a1t hs hx)
  have hy':=R.v_inv (a1t hs hy)
  have:=h w
  simp only [execOp,ho,hx',hy',Sem.run_bind,Sem.run_pure] at this ⊢
  rw [this]
  rfl
 have eg:∀ (k:IntKind) (w:World),(eqGuard op t x y (.int k m) (.int k n)).run P w=.ok () w:=fun k w=>by unfold eqGuard;split<;>simp
 unfold b9c
 split
 case h_1|h_2|h_3 =>
  unfold b5x
  split
  ·rintro ⟨rfl,hf⟩
   refine key _ fun w=>?_
   simp [eg,binOp,Op.intArith,a5n (b0g _ ▸ hf)]
  ·rintro rfl
   refine key _ fun w=>?_
   simp [eg,binOp,Op.intArith]
 case h_4 =>
  rintro ⟨rfl,h1,h2,hf⟩
  refine key _ fun w=>?_
  have hne:n≠0:=by omega
  simp [eg,binOp,Op.intDiv,hne,Int.tdiv_eq_ediv_of_nonneg h1,a5n hf]
 case h_5 =>
  rintro ⟨rfl,h1,h2⟩
  refine key _ fun w=>?_
  have hne:n≠0:=by omega
  simp [eg,binOp,Op.intDiv,hne,Int.tmod_eq_emod_of_nonneg h1]
 case h_12 =>
  rintro ⟨rfl,h1,h2,hf⟩
  refine key _ fun w=>?_
  have eg':(eqGuard .shl t x y (.int .i64 m) (.int k' n)).run P w=.ok () w:=by unfold eqGuard;simp
  have h3:¬ n < 0:=by omega
  have h4:min n.toNat 64=n.toNat:=by omega
  simp [eg',binOp,Op.shift,h3,IntKind.bits,h4,a5n hf]
 case h_13 =>
  rintro ⟨h1,h2⟩
  refine key _ fun w=>?_
  have eg':(eqGuard .shr t x y (.int k m) (.int k' n)).run P w=.ok () w:=by unfold eqGuard;simp
  have h3:¬ n < 0:=by omega
  have h4:min n.toNat k.bits=n.toNat:=by cases k<;>simp only [g6x] at h2<;>simp only [IntKind.bits]<;>omega
  have h5:m.fdiv (2 ^ n.toNat)=m / 2 ^ n.toNat:=Int.fdiv_eq_ediv_of_nonneg _ (Int.pow_nonneg (by decide))
  simp [eg',binOp,Op.shift,h3,h4,h5]
 case h_14 =>
  rintro ⟨rfl,h1,h2,h3,h4⟩
  refine key _ fun w=>?_
  obtain ⟨m,rfl⟩:=Int.eq_ofNat_of_zero_le h1
  obtain ⟨n,rfl⟩:=Int.eq_ofNat_of_zero_le h3
  have h6:((m:Nat):Int) < 2 ^ k'.bits∧((n:Nat):Int) < 2 ^ k'.bits∧(m:Int)≤k'.max:=by
   cases k'<;>simp only [g4t] at h2 h4<;>simp only [IntKind.bits,IntKind.max,IntKind.signed]<;>refine ⟨?_,?_,?_⟩<;>simp<;>omega
  have hm:m % 2 ^ k'.bits=m:=Nat.mod_eq_of_lt (by have:=h6.1;exact_mod_cast this)
  have hn:n % 2 ^ k'.bits=n:=Nat.mod_eq_of_lt (by have:=h6.2.1;exact_mod_cast this)
  have hle:m &&& n≤m:=Nat.and_le_left
  have hw:k'.wrap ((m &&& n:Nat):Int)=((m &&& n:Nat):Int):=a5n (by
   have:k'.min≤0:=by cases k'<;>simp [IntKind.min,IntKind.signed,IntKind.bits]
   exact ⟨by omega,by omega⟩)
  have hb:(BitVec.ofNat k'.bits m &&& BitVec.ofNat k'.bits n).toNat=m &&& n:=by
   rw [BitVec.toNat_and,BitVec.toNat_ofNat,BitVec.toNat_ofNat,hm,hn]
  simp [eg,binOp,Op.intBits]
  exact (congrArg (fun z:Nat=>k'.wrap (z:Int)) hb).trans hw
 case h_15=>trivial
 all_goals
  rintro rfl
  refine key _ fun w=>?_
  simp [eg,binOp,Op.intCmp,d8o,bne]
theorem d8f {m n:ByteArray} (hx:ev s x=.v (.string m)) (hy:ev s y=.v (.string n)):a2w P G s o (b9x op m n):=by
 have key:∀ (v:Value) (h:∀ w,(do eqGuard op t x y (.string m) (.string n);binOp op t (.string m) (.string n)).run P w=.ok v w),b2z P G s o (a3z s o.dst (.v v)):=fun v h=>by
  refine a0j hd fun a w E hs=>⟨v,?_,.r0 _ _ (.v _)⟩
  have hx':=R.v_inv (a1t hs hx)
  have hy':=R.v_inv (a1t hs hy)
  have:=h w
  simp only [execOp,ho,hx',hy',Sem.run_bind,Sem.run_pure] at this ⊢
  rw [this]
  rfl
 have eg:∀ (w:World),(eqGuard op t x y (.string m) (.string n)).run P w=.ok () w:=fun w=>by unfold eqGuard;split<;>simp
 unfold b9x
 split
 case h_1 =>
  intro hle
  refine key _ fun w=>?_
  have:¬ (9223372036854775807:Int) < (m.size:Int)+n.size:=by omega
  simp [eg,binOp,Op.stringOp,IntKind.max,IntKind.signed,IntKind.bits,this]
 case h_8=>trivial
 all_goals
  intro _
  refine key _ fun w=>?_
  simp [eg,binOp,Op.stringOp,f2r]
theorem b2u (b:Bool)
  (h:∀ a w E,SimE G s a w E→(Op.equal t (a.eval x) (a.eval y)).run P w=.ok b w∧(eqGuard op t x y (a.eval x) (a.eval y)).run P w=.ok () w ∧
   (binOp op t (a.eval x) (a.eval y)=match op with|.eql=>(do pure (.bool (← Op.equal t (a.eval x) (a.eval y))))|.neq=>(do pure (.bool (!(← Op.equal t (a.eval x) (a.eval y)))))|_=>binOp op t (a.eval x) (a.eval y))) :
  a2w P G s o (b8j op b):=by
 unfold b8j
 split
 ·intro _
  refine a0j hd fun a w E hs=>⟨_,?_,.r0 _ _ (.v _)⟩
  obtain ⟨h1,h2,h3⟩:=h a w E hs
  simp [execOp,ho,h2,h3,h1]
 ·intro _
  refine a0j hd fun a w E hs=>⟨_,?_,.r0 _ _ (.v _)⟩
  obtain ⟨h1,h2,h3⟩:=h a w E hs
  simp [execOp,ho,h2,h3,h1]
 ·trivial
theorem b8v {C:Prop}
  (h:∀ a w E,SimE G s a w E→∃ b,(b=true→C)∧(Op.equal t (a.eval x) (a.eval y)).run P w=.ok b w∧(eqGuard op t x y (a.eval x) (a.eval y)).run P w=.ok () w ∧
   (binOp op t (a.eval x) (a.eval y)=match op with|.eql=>(do pure (.bool (← Op.equal t (a.eval x) (a.eval y))))|.neq=>(do pure (.bool (!(← Op.equal t (a.eval x) (a.eval y)))))|_=>binOp op t (a.eval x) (a.eval y))) :
  a2w P G s o (b1m op C):=by
 have go:∀ b a w E,SimE G s a w E→(execOp a.eval o).run P w=.ok (.value (.bool b)) w→∀ (K:Act→World→Prop) (Q:Exit→Act→World→Prop),(∀ a' w',Sim G (a3z s o.dst (.v (.bool b))) a' w'→K a' w')→o.wp P a w K Q:=fun b a w E hE hr K Q hK=>by
  unfold Oper.wp
  rw [hr]
  exact hK _ _ ⟨E,hE.put hd (.r0 _ _ (.v _))⟩
 unfold b1m
 split
 ·rintro a w ⟨E,hE⟩ K Q hK
  obtain ⟨b,hc,h1,h2,h3⟩:=h a w E hE
  exact go b a w E hE (by simp [execOp,ho,h2,h3,h1]) K Q (hK b hc)
 ·rintro a w ⟨E,hE⟩ K Q hK
  obtain ⟨b,hc,h1,h2,h3⟩:=h a w E hE
  exact go (!b) a w E hE (by simp [execOp,ho,h2,h3,h1]) K Q (hK (!b) (by cases b<;>simp_all))
 ·trivial
omit hd ho in
theorem a5b {w:World} {vx vy:Value} {b:Bool} (h:∀ d,(Op.equalIn (d+1) t vx vy).run P w=.ok b w):(Op.equal t vx vy).run P w=.ok b w:=h 9999
theorem g2t:a2w P G s o (b6s op (tk P t) (ev s x) (ev s y)):=by
 unfold b6s
 split
 ·rename_i hx hy;exact e5o hd ho hx hy
 ·rename_i hx hy;exact d8f hd ho hx hy
 ·rename_i hx hy
  split
  ·rename_i hb
   refine b2u hd ho _ fun a w E hs=>?_
   rw [R.v_inv (a1t hs hx),R.v_inv (a1t hs hy)]
   refine ⟨a5b fun d=>by simp [Op.equalIn,a0o P w (f5q hb)],by unfold eqGuard;split<;>simp,?_⟩
   cases op<;>rfl
  ·trivial
 ·rename_i hx hy
  split
  ·rename_i hb
   obtain ⟨e,hb⟩:=d7c hb
   refine b2u hd ho _ fun a w E hs=>?_
   rw [R.v_inv (a1t hs hx),R.v_inv (a1t hs hy)]
   refine ⟨a5b fun d=>by simp [Op.equalIn,a0o P w hb],by unfold eqGuard;split<;>simp,?_⟩
   cases op<;>rfl
  ·trivial
 ·rename_i cs hx hy
  split
  ·rename_i hb
   obtain ⟨e,hb⟩:=d7c hb
   refine b2u hd ho _ fun a w E hs=>?_
   obtain ⟨b,of',g,h,_⟩:=R.fp_inv (a1t hs hx)
   rw [h,R.v_inv (a1t hs hy)]
   refine ⟨a5b fun d=>by simp [Op.equalIn,a0o P w hb],by unfold eqGuard;split<;>simp,?_⟩
   cases op<;>rfl
  ·trivial
 ·rename_i id off hx hy
  split
  ·rename_i hb
   obtain ⟨e,hb⟩:=d7c hb
   refine b2u hd ho _ fun a w E hs=>?_
   obtain ⟨b,K,C,_,h⟩:=R.ptr_inv (a1t hs hx)
   rw [h,R.v_inv (a1t hs hy)]
   refine ⟨a5b fun d=>by simp [Op.equalIn,a0o P w hb],by unfold eqGuard;split<;>simp,?_⟩
   cases op<;>rfl
  ·trivial
 ·rename_i hx hy
  split
  ·rename_i hb
   obtain ⟨e,hb⟩:=b7k hb
   refine b2u hd ho _ fun a w E hs=>?_
   rw [R.v_inv (a1t hs hx),R.v_inv (a1t hs hy)]
   refine ⟨a5b fun d=>by simp [Op.equalIn,a0o P w hb],by unfold eqGuard;split<;>simp,?_⟩
   cases op<;>rfl
  ·trivial
 ·rename_i sz l _ _ hx hy
  split
  ·rename_i hb
   obtain ⟨el,hb⟩:=b7k hb
   refine b8v hd ho fun a w E hs=>?_
   obtain ⟨ad,cap,b,of',g,h,_,_,ha,_⟩:=R.lst_inv (a1t hs hx)
   rw [h,R.v_inv (a1t hs hy)]
   cases ad with
   |none =>
    refine ⟨true,fun _=>?_,a5b fun d=>by simp [Op.equalIn,a0o P w hb],by unfold eqGuard;split<;>simp,by cases op<;>rfl⟩
    by_cases hne:l=[]
    ·exact hne
    ·obtain ⟨q,_⟩:=ha hne;cases q
   |some A=>exact ⟨false,(fun h=>by cases h),a5b fun d=>by simp [Op.equalIn,a0o P w hb],by unfold eqGuard;split<;>simp,by cases op<;>rfl⟩
  ·trivial
 ·rename_i id off len sz _ _ hx hy
  split
  ·rename_i hb
   obtain ⟨el,hb⟩:=b7k hb
   refine b8v hd ho fun a w E hs=>?_
   obtain ⟨b,K,C,_,_,_,hv⟩:=R.own_inv (a1t hs hx)
   rw [R.v_inv (a1t hs hy)]
   cases b with
   |none =>
    obtain ⟨_,hl,hv⟩:=hv
    rw [hv]
    exact ⟨true,fun _=>hl,a5b fun d=>by simp [Op.equalIn,a0o P w hb],by unfold eqGuard;split<;>simp,by cases op<;>rfl⟩
   |some b =>
    obtain ⟨o',_,hv⟩:=hv
    rw [hv]
    exact ⟨false,(fun h=>by cases h),a5b fun d=>by simp [Op.equalIn,a0o P w hb],by unfold eqGuard;split<;>simp,by cases op<;>rfl⟩
  ·trivial
 ·trivial
end
def d5l:UnOp→V→Res
 |.not,.v (.bool b)=>.go True fun _=>.v (.bool (!b))
 |.neg,.v (.int .i64 n)=>.go (-9223372036854775808≤-n∧-n≤9223372036854775807) fun _=>.v (.int .i64 (-n))
 |_,_=>.stuck
theorem g5g (P:Program) (G:Gh) (s:St) (o:Oper) (hd:∀ d,o.dst=some d→d < G.n) (op:UnOp) (t:TypeId) (x:Operand) (ho:o.op=.unOp op t x) :
  a2w P G s o (d5l op (ev s x)):=by
 unfold d5l
 split
 ·rename_i b hx
  intro _
  refine a0j hd fun a w E hs=>⟨_,?_,.r0 _ _ (.v _)⟩
  simp [execOp,ho,R.v_inv (a1t hs hx),Op.unary]
 ·rename_i n hx
  intro hf
  refine a0j hd fun a w E hs=>⟨_,?_,.r0 _ _ (.v _)⟩
  have:IntKind.i64.wrap (-n)=-n:=a5n (b0g _ ▸ hf)
  simp [execOp,ho,R.v_inv (a1t hs hx),Op.unary,Op.intArith,this]
 ·trivial
def d5w:TK→TK→V→Res
 |.int _,.int .i64,.v (.int _ n)=>.go (-9223372036854775808≤n∧n≤9223372036854775807) fun _=>.v (.int .i64 n)
 |.int _,.int k,.v (.int _ n)=>.go True fun _=>.v (.int k (k.wrap n))
 |.str,.str,.v (.string s)=>.go True fun _=>.v (.string s)
 |_,_,_=>.stuck
theorem d3b (P:Program) (G:Gh) (s:St) (o:Oper) (hd:∀ d,o.dst=some d→d < G.n) (t t':TypeId) (x:Operand) (ho:o.op=.convert t t' x) :
  a2w P G s o (d5w (tk P t) (tk P t') (ev s x)):=by
 unfold d5w
 split
 ·rename_i k0 k n hk0 hk hx
  intro hf
  refine a0j hd fun a w E hs=>⟨_,?_,.r0 _ _ (.v _)⟩
  simp [execOp,ho,R.v_inv (a1t hs hx),convert,a0o P w (c6n hk),a0o P w (c6n hk0),Conv.intToInt,a5n (b0g _ ▸ hf)]
 ·rename_i k0 k k' n hk0 hk hx
  intro hf
  refine a0j hd fun a w E hs=>⟨_,?_,.r0 _ _ (.v _)⟩
  simp [execOp,ho,R.v_inv (a1t hs hx),convert,a0o P w (c6n hk),a0o P w (c6n hk0),Conv.intToInt]
 ·rename_i st hk0 hk hx
  intro hf
  refine a0j hd fun a w E hs=>⟨_,?_,.r0 _ _ (.v _)⟩
  simp [execOp,ho,R.v_inv (a1t hs hx),convert,a0o P w (b1v hk),a0o P w (b1v hk0)]
 ·trivial
end Pm
open Go
namespace Pm
def c3f:Option V→Option Int
 |none=>some 0
 |some (.v (.int _ n))=>some n
 |_=>none
def c3u (d:Int):Option V→Option Int
 |none=>some d
 |some (.v (.int _ n))=>some n
 |_=>none
def b7m (C:Prop) (lo hi:Option Int) (len:Nat) (k:Nat→Nat→V):Res:=match lo,hi with
 |some l,some h=>.go (C∧0≤l∧l≤h∧h≤len) fun _=>k l.toNat h.toNat
 |_,_=>.stuck
def b9t:TK→Option (TypeId×Nat)→V→Option V→Option V→Res
 |.str,_,.v (.string s),lo,hi=>b7m True (c3f lo) (c3u s.size hi) s.size fun l h=>.v (.string (s.extract l h))
 |.slc,some (_,sz'),.lst bo sz l,lo,hi=>b7m (sz'=sz) (c3f lo) (c3u l.length hi) l.length fun a b=>.lst bo sz ((l.take b).drop a)
 |.slc,some (_,sz'),.own id off len sz,lo,hi=>b7m (sz'=sz) (c3f lo) (c3u len hi) len fun a b=>.own id (off+a) (b - a) sz
 |.slc,some _,.v (.slice none 0 0),lo,hi=>b7m True (c3f lo) (c3u 0 hi) 0 fun _ _=>.v (.slice none 0 0)
 |_,_,_,_,_=>.stuck
theorem a4a {P:Program} {w:World} (isS:Bool) (len cap:Nat) (lo hi:Option Value) (l h:Int) (hl:lo=none∧l=0∨∃ k,lo=some (.int k l)) (hh:hi=none∧h=len∨∃ k,hi=some (.int k h))
  (h0:0≤l) (h1:l≤h) (h2:h≤cap):(Instr.sliceBounds isS len cap lo hi none).run P w=.ok (l.toNat,h.toNat,cap) w:=by
 have b1:∀ (k:IntKind) (n:Int) (y:Nat) (c:BoundsCode),0≤n→n≤y→(Instr.sliceBound (.int k n) y c).run P w=.ok n.toNat w:=fun k n y c g1 g2=>by
  simp [Instr.sliceBound,asIntOf,g1,g2]
 rcases hh with ⟨rfl,rfl⟩|⟨k,rfl⟩
 ·rcases hl with ⟨rfl,rfl⟩|⟨k',rfl⟩
  ·simp [Instr.sliceBounds]
  ·simp [Instr.sliceBounds,b1 k' l len _ h0 h1]
 ·have e:((h.toNat:Nat):Int)=h:=by omega
  rcases hl with ⟨rfl,rfl⟩|⟨k',rfl⟩
  ·simp [Instr.sliceBounds,b1 k h cap _ (by omega) h2]
  ·simp [Instr.sliceBounds,b1 k h cap _ (by omega) h2,b1 k' l h.toNat _ h0 (by omega)]
theorem a9s {G:Gh} {s:St} {a:Act} {w:World} {E:Env} (hs:SimE G s a w E) {x:Option Operand} {l:Int} (h:c3f (x.map (ev s))=some l) :
  x.map a.eval=none∧l=0∨∃ k,x.map a.eval=some (.int k l):=by
 cases x with
 |none=>simp [c3f] at h;exact .inl ⟨rfl,h.symm⟩
 |some x =>
  simp only [Option.map_some,c3f] at h
  split at h
  ·cases h
   rename_i h';cases h'
  ·rename_i k n hk
   cases h
   simp only [Option.some.injEq] at hk
   exact .inr ⟨k,by simp [R.v_inv (a1t hs hk)]⟩
  ·cases h
theorem a9p {G:Gh} {s:St} {a:Act} {w:World} {E:Env} (hs:SimE G s a w E) {x:Option Operand} {d l:Int} (h:c3u d (x.map (ev s))=some l) :
  x.map a.eval=none∧l=d∨∃ k,x.map a.eval=some (.int k l):=by
 cases x with
 |none=>simp [c3u] at h;exact .inl ⟨rfl,h.symm⟩
 |some x =>
  simp only [Option.map_some,c3u] at h
  split at h
  ·cases h
   rename_i h';cases h'
  ·rename_i k n hk
   cases h
   simp only [Option.some.injEq] at hk
   exact .inr ⟨k,by simp [R.v_inv (a1t hs hk)]⟩
  ·cases h
theorem f1u (P:Program) (G:Gh) (s:St) (o:Oper) (hd:∀ d,o.dst=some d→d < G.n) (t:TypeId) (x:Operand) (lo hi:Option Operand) (ho:o.op=.slice t x lo hi none) :
  a2w P G s o (b9t (tk P t) (a0t P t) (ev s x) (lo.map (ev s)) (hi.map (ev s))):=by
 unfold b9t
 split
 ·rename_i str ht hx
  unfold b7m
  split
  ·rename_i l h hl hh
   rintro ⟨hsz,h0,h1,h2⟩
   refine a0j hd fun a w E hs=>⟨_,?_,.r0 _ _ (.v _)⟩
   have hb:=a4a (P:=P) (w:=w) false str.size str.size (lo.map a.eval) (hi.map a.eval) l h (a9s hs hl) (a9p hs hh) h0 h1 h2
   simp [execOp,ho,Instr.sliceAt,Instr.slice,a0o P w (b1v ht),R.v_inv (a1t hs hx),hb]
  ·trivial
 ·rename_i el sz' bo sz l0 ht hse hx
  unfold b7m
  split
  ·rename_i l h hl hh
   rintro ⟨rfl,h0,h1,h2⟩
   refine a0j hd fun a w E hs=>?_
   obtain ⟨hu,inf,hinf,hsz⟩:=a2b hse
   obtain ⟨ad,cap,b,of',g,hy,hc,hlen,ha,hcell,hz,hr,hlo⟩:=R.lst_inv' (a1t hs hx)
   have hb:=a4a (P:=P) (w:=w) true l0.length cap (lo.map a.eval) (hi.map a.eval) l h (a9s hs hl) (a9p hs hh) h0 h1 (by omega)
   have hlen':((l0.take h.toNat).drop l.toNat).length=h.toNat - l.toNat:=by simp;omega
   refine ⟨.slice (if cap=l.toNat then ad else ad.map (·.add (l.toNat * sz'))) (h.toNat - l.toNat) (cap - l.toNat),?_,.r0 _ _ ?_⟩
   ·simp [execOp,ho,Instr.sliceAt,Instr.slice,a0o P w hu,a1n P w hinf,hsz,hy,hb]
   ·have idx:∀ (i:Nat) x,((l0.take h.toNat).drop l.toNat)[i]? = some x→l0[l.toNat+i]? = some x:=fun i x hi=>by
     rw [List.getElem?_drop] at hi
     exact (a0w _ _ _ _ hi).1
    refine .lst _ sz' _ _ _ _ b (of'+l.toNat * sz') (fun i j=>g (l.toNat+i) j) (fun hne=>hlo (by rintro rfl;simp at hne)) hlen'.symm (by rw [hlen'];omega) (by rw [hlen'];omega) (fun hne=>?_) (fun i x j u h3 h4=>?_) (fun x hx=>hz x (List.mem_of_mem_take (List.mem_of_mem_drop hx))) (fun i x j u h3 h4=>hr _ x j u (idx i x h3) h4)
    ·have hpos:0 < h.toNat - l.toNat:=by rw [← hlen'];exact List.length_pos_iff.2 hne
     obtain ⟨rfl,hO,hlt⟩:=ha (by rintro rfl;simp at h2;omega)
     refine ⟨?_,hO,hlt⟩
     rw [if_neg (by omega)]
     simp [a3f]
    ·have:=hcell _ x j u (idx i x h3) h4
     rw [Nat.add_mul] at this
     rw [show of'+l.toNat * sz'+(i * sz'+j)=of'+(l.toNat * sz'+i * sz'+j) by omega]
     exact this
  ·trivial
 ·rename_i el sz' id off len sz ht hse hx
  unfold b7m
  split
  ·rename_i l h hl hh
   rintro ⟨rfl,h0,h1,h2⟩
   refine a0j hd fun a w E hs=>?_
   obtain ⟨hu,inf,hinf,hsz⟩:=a2b hse
   obtain ⟨b,K,C,hE,hle,hKC,hv⟩:=R.own_inv (a1t hs hx)
   cases b with
   |none =>
    obtain ⟨rfl,rfl,hy⟩:=hv
    obtain rfl:l=0:=by omega
    obtain rfl:h=0:=by omega
    have hb:=a4a (P:=P) (w:=w) true 0 0 (lo.map a.eval) (hi.map a.eval) 0 0 (a9s hs hl) (by simpa using a9p hs hh) (by omega) (by omega) (by omega)
    refine ⟨.slice none 0 0,?_,.own _ _ _ _ none K C _ hE ⟨by simp,hKC,rfl,rfl,rfl⟩⟩
    simp [execOp,ho,Instr.sliceAt,Instr.slice,a0o P w hu,a1n P w hinf,hy,hb]
   |some b =>
    obtain ⟨o',ho',hy⟩:=hv
    have hb:=a4a (P:=P) (w:=w) true len (C - off) (lo.map a.eval) (hi.map a.eval) l h (a9s hs hl) (a9p hs hh) h0 h1 (by omega)
    refine ⟨.slice (if C - off=l.toNat then some ⟨b,o',none⟩ else some ⟨b,o'+l.toNat * sz',none⟩) (h.toNat - l.toNat) (C - off - l.toNat),?_,.own _ _ _ _ (some b) K C _ hE ⟨by omega,hKC,?_⟩⟩
    ·simp [execOp,ho,Instr.sliceAt,Instr.slice,a0o P w hu,a1n P w hinf,hsz,hy,hb,a3f]
    ·refine ⟨if C - off=l.toNat then o' else o'+l.toNat * sz',fun hlt=>?_,?_⟩
     ·rw [ho' (by omega)]
      split
      ·have:l.toNat=0:=by omega
       rw [this];simp
      ·rw [Nat.add_mul]
     ·split<;>simp [Nat.sub_sub]
  ·trivial
 ·rename_i e ht hse hx
  unfold b7m
  split
  ·rename_i l h hl hh
   rintro ⟨_,h0,h1,h2⟩
   refine a0j hd fun a w E hs=>⟨_,?_,.r0 _ _ (.v _)⟩
   obtain ⟨el,sz'⟩:=e
   obtain ⟨hu,inf,hinf,hsz⟩:=a2b hse
   obtain rfl:l=0:=by omega
   obtain rfl:h=0:=by omega
   have hb:=a4a (P:=P) (w:=w) true 0 0 (lo.map a.eval) (hi.map a.eval) 0 0 (a9s hs hl) (by simpa using a9p hs hh) (by omega) (by omega) (by omega)
   simp [execOp,ho,Instr.sliceAt,Instr.slice,a0o P w hu,a1n P w hinf,R.v_inv (a1t hs hx),hb]
  ·trivial
 ·trivial
def a7w:V→Option (List V)
 |.any=>none
 |.tup _=>none
 |.v x=>some (x.cells.toList.map .v)
 |.agg cs=>some cs
 |.lst lo sz l=>some [.lst lo sz l]
 |.fp cs=>some [.fp cs]
 |.ptr id off=>some [.ptr id off]
 |.eptr id i k sz=>some [.eptr id i k sz]
 |.own id off len sz=>some [.own id off len sz]
 |.mp id=>some [.mp id]
 |.fn f cap=>some [.fn f cap]
def putCells:List V→Nat→List V→List V
 |cs,_,[]=>cs
 |cs,off,x::r=>putCells (cs.set off x) (off+1) r
def b4r (place:Nat→Option (Nat×Nat)):List V→List (Nat×V)→Option (List V)
 |cs,[]=>some cs
 |cs,(i,x)::rest=>match place i,a7w x with
  |some (off,size),some xs=>if xs.length=size∧off+size≤cs.length then b4r place (putCells cs off xs) rest else none
  |_,_=>none
def a0p (P:Program) (t:TypeId):Option (List Value):=(P.info? t).bind fun i=>i.zero.map fun z=>z.cells.toList
def a1a (P:Program) (t:TypeId):Option (List (Nat×Nat)):=match P.underlying t with
 |some (.struct fs)=>fs.toList.mapM fun f=>(P.info? f.type).map fun i=>(f.offset,i.size)
 |some (.array _ e)=>(P.info? e).map fun i=>(List.range 8).map fun j=>(j * i.size,i.size)
 |_=>none
def b9f:Option (List Value)→Option (List (Nat×Nat))→List (Nat×V)→Res
 |some z,some ps,parts=>match b4r (fun i=>ps[i]?) (z.map .v) parts with
  |some cs=>.go True fun _=>.agg cs
  |none=>.stuck
 |_,_,_=>.stuck
def CellsR (w:World) (O:Nat→Prop) (E:Env) (cs:List V) (ys:Array Value):Prop:=ys.size=cs.length∧∀ (j:Nat) (u:V) (y:Value),cs[j]? = some u→ys[j]? = some y→R w O E u y
theorem c1g {w:World} {O:Nat→Prop} {E:Env} {x:V} {y:Value} {xs:List V} (h:R w O E x y) (hx:a7w x=some xs):CellsR w O E xs y.cells:=by
 have one:∀ {x:V} {y:Value},R w O E x y→y.cells=#[y]→CellsR w O E [x] y.cells:=fun {x y} h hy=>by
  rw [hy]
  refine ⟨rfl,fun j u z h1 h2=>?_⟩
  cases j with
  |zero=>simp at h1 h2;subst h1;subst h2;exact h
  |succ j=>simp at h1
 cases x with
 |any=>cases hx
 |tup=>cases hx
 |v z =>
  cases hx
  rw [R.v_inv h]
  refine ⟨by simp,fun j u y h1 h2=>?_⟩
  simp only [List.getElem?_map,Option.map_eq_some_iff,Array.getElem?_toList] at h1
  obtain ⟨y',h1,rfl⟩:=h1
  rw [h1] at h2
  cases h2
  exact .r0 _ _ (.v _)
 |agg cs =>
  cases hx
  obtain ⟨ys,rfl,hsz,hr⟩:=R.agg_inv h
  exact ⟨hsz,hr⟩
 |lst lo sz l=>cases hx;obtain ⟨_,_,_,_,_,hy,_⟩:=R.lst_inv h;exact one h (by rw [hy];rfl)
 |fp cs=>cases hx;obtain ⟨_,_,_,hy,_⟩:=R.fp_inv h;exact one h (by rw [hy];rfl)
 |ptr id off=>cases hx;obtain ⟨_,_,_,_,hy⟩:=R.ptr_inv h;exact one h (by rw [hy];rfl)
 |eptr id i k sz=>cases hx;obtain ⟨_,_,_,_,_,hy⟩:=R.eptr_inv h;exact one h (by rw [hy];rfl)
 |own id off len sz =>
  cases hx
  obtain ⟨b,K,C,hE,_,_,hv⟩:=R.own_inv h
  cases b with
  |none=>obtain ⟨_,_,hy⟩:=hv;exact one h (by rw [hy];rfl)
  |some b=>obtain ⟨_,_,hy⟩:=hv;exact one h (by rw [hy];rfl)
 |mp id=>cases hx;obtain ⟨_,_,_,_,hy⟩:=R.mp_inv h;exact one h (by rw [hy];rfl)
 |fn f cap=>cases hx;obtain ⟨_,hy,_⟩:=R.fn_inv h;exact one h (by rw [hy];cases f<;>rfl)
theorem a2a:∀ (xs cs:List V) (off k:Nat),(putCells cs off xs).length=cs.length∧(putCells cs off xs)[k]? = if off≤k∧k < off+xs.length∧k < cs.length then xs[k - off]? else cs[k]?:=by
 intro xs
 induction xs with
 |nil=>intro cs off k;refine ⟨rfl,?_⟩;rw [if_neg (by simp;omega)];rfl
 |cons x r ih =>
  intro cs off k
  obtain ⟨h1,h2⟩:=ih (cs.set off x) (off+1) k
  refine ⟨by simp [putCells,h1],?_⟩
  simp only [putCells,h2,List.length_set,List.length_cons]
  by_cases hk:off=k
  ·subst hk
   rw [if_neg (by omega)]
   by_cases hl:off < cs.length
   ·rw [if_pos (by omega)];simp [hl]
   ·rw [if_neg (by omega),List.getElem?_set];rw [if_pos rfl,if_neg hl,List.getElem?_eq_none (by omega)]
  ·by_cases hc:off+1≤k∧k < off+1+r.length∧k < cs.length
   ·rw [if_pos hc,if_pos (by omega)]
    have:k - off=(k - (off+1))+1:=by omega
    rw [this];rfl
   ·rw [if_neg hc,if_neg (by omega),List.getElem?_set_ne hk]
theorem c6c (off:Nat):∀ (l:List Value) (n:Nat) (cells:Array Value) (k:Nat),
  ((l.zipIdx n).foldl (fun cs (x:Value×Nat)=>cs.setIfInBounds (off+x.2) x.1) cells).size=cells.size ∧
  ((l.zipIdx n).foldl (fun cs (x:Value×Nat)=>cs.setIfInBounds (off+x.2) x.1) cells)[k]? = if off+n≤k∧k < off+n+l.length∧k < cells.size then l[k - (off+n)]? else cells[k]?:=by
 intro l
 induction l with
 |nil=>intro n cells k;refine ⟨rfl,?_⟩;rw [if_neg (by simp;omega)];rfl
 |cons x r ih =>
  intro n cells k
  obtain ⟨h1,h2⟩:=ih (n+1) (cells.setIfInBounds (off+n) x) k
  refine ⟨by simpa [List.zipIdx_cons] using h1,?_⟩
  simp only [List.zipIdx_cons,List.foldl_cons,h2,Array.size_setIfInBounds,List.length_cons]
  by_cases hk:off+n=k
  ·subst hk
   rw [if_neg (by omega)]
   by_cases hl:off+n < cells.size
   ·rw [if_pos (by omega)];simp [hl]
   ·rw [if_neg (by omega)];rw [Array.getElem?_setIfInBounds];simp [hl]
  ·by_cases hc:off+(n+1)≤k∧k < off+(n+1)+r.length∧k < cells.size
   ·rw [if_pos hc,if_pos (by omega)]
    have:k - (off+n)=(k - (off+(n+1)))+1:=by omega
    rw [this];rfl
   ·rw [if_neg hc,if_neg (by omega),Array.getElem?_setIfInBounds_ne hk]
theorem c7y {w:World} {O:Nat→Prop} {E:Env} (place:Nat→Option (Nat×Nat)):∀ (parts:List (Nat×V)) (parts':List (Nat×Value)) (cs:List V) (ys:Array Value) (cs':List V),
  CellsR w O E cs ys→parts'.length=parts.length→(∀ (j i:Nat) (x:V),parts[j]? = some (i,x)→∃ y,parts'[j]? = some (i,y)∧R w O E x y)→b4r place cs parts=some cs' →
  ∃ ys',Instr.fill place ys parts'=some ys'∧CellsR w O E cs' ys':=by
 intro parts
 induction parts with
 |nil =>
  intro parts' cs ys cs' hc hl _ hf
  cases hf
  have:parts'=[]:=List.eq_nil_of_length_eq_zero (by simpa using hl)
  subst this
  exact ⟨ys,rfl,hc⟩
 |cons p rest ih =>
  obtain ⟨i,x⟩:=p
  intro parts' cs ys cs' hc hl hp hf
  obtain ⟨y,hy,hR⟩:=hp 0 i x rfl
  cases parts' with
  |nil=>simp at hy
  |cons p' rest' =>
   simp at hy
   subst hy
   simp only [b4r] at hf
   split at hf
   ·rename_i off size xs hpl hxs
    split at hf
    ·rename_i hcond
     obtain ⟨hx1,hx2⟩:=c1g hR hxs
     simp only [Instr.fill,hpl]
     have hcs:=hc.1
     rw [if_neg (by simp only [Bool.or_eq_true,decide_eq_true_eq,gt_iff_lt];omega)]
     refine ih rest' (putCells cs off xs) _ cs' ?_ (by simpa using hl) (fun j i x hj=>hp (j+1) i x hj) hf
     have fs:=fun k=>c6c off y.cells.toList 0 ys k
     have e:y.cells.zipIdx.foldl (fun cs (x:Value×Nat)=>cs.setIfInBounds (off+x.2) x.1) ys=(y.cells.toList.zipIdx 0).foldl (fun cs (x:Value×Nat)=>cs.setIfInBounds (off+x.2) x.1) ys:=by
      rw [← Array.foldl_toList,Array.toList_zipIdx]
     rw [e]
     refine ⟨by rw [(fs 0).1,(a2a xs cs off 0).1];exact hc.1,fun j u z h1 h2=>?_⟩
     rw [(a2a xs cs off j).2] at h1
     rw [(fs j).2] at h2
     have hlen:y.cells.toList.length=xs.length:=by simpa using hx1
     split at h1
     ·rename_i hin
      rw [if_pos (by rw [hlen,hc.1];omega)] at h2
      simp only [Nat.add_zero,Array.getElem?_toList] at h2
      exact hx2 _ u z h1 h2
     ·rename_i hin
      rw [if_neg (by rw [hlen,hc.1];omega)] at h2
      exact hc.2 j u z h1 h2
    ·cases hf
   ·cases hf
theorem c7p {P:Program} {t:Nat} {ps:List (Nat×Nat)} (h:a1a P t=some ps) (w:World) :
  (∃ fs:Array Field,P.underlying t=some (.struct fs)∧(fs.mapM fun f=>(do pure (f.offset,← sizeOf f.type):Sem (Nat×Nat))).run P w=.ok ps.toArray w) ∨
  (∃ n e i,P.underlying t=some (.array n e)∧P.info? e=some i∧ps=(List.range 8).map fun j=>(j * i.size,i.size)):=by
 unfold a1a at h
 split at h
 ·rename_i fs hfs
  refine .inl ⟨fs,hfs,?_⟩
  rw [Array.mapM_eq_mapM_toList]
  simp only [Sem.run_map]
  have key:∀ (l:List Field) (ps:List (Nat×Nat)),(l.mapM fun f=>(P.info? f.type).map fun i=>(f.offset,i.size))=some ps→(l.mapM fun f=>(do pure (f.offset,← sizeOf f.type):Sem (Nat×Nat))).run P w=.ok ps w:=by
   intro l
   induction l with
   |nil=>intro ps h;simp at h;subst h;rfl
   |cons f r ih =>
    intro ps h
    simp only [List.mapM_cons] at h ⊢
    cases hi:P.info? f.type with
    |none=>simp [hi] at h
    |some i =>
     cases hr:(r.mapM fun f=>(P.info? f.type).map fun i=>(f.offset,i.size)) with
     |none=>simp [hi,hr] at h
     |some ps' =>
      simp [hi,hr] at h
      subst h
      simp only [Sem.run_bind,Sem.run_pure,a1n P w hi,Result.andThen_ok,ih ps' hr]
  rw [key _ _ h]
  rfl
 ·rename_i n e hu
  cases hi:P.info? e with
  |none=>simp [hi] at h
  |some i =>
   simp only [hi,Option.map_some,Option.some.injEq] at h
   exact .inr ⟨n,e,i,hu,hi,h.symm⟩
 ·cases h
theorem c5u {p q:Nat→Option (Nat×Nat)} (hpq:∀ i x,p i=some x→q i=some x):∀ (parts:List (Nat×V)) (cs r:List V),b4r p cs parts=some r→b4r q cs parts=some r
 |[],cs,r,h=>h
 |(i,x)::rest,cs,r,h=>by
  unfold b4r at h ⊢
  cases hp:p i with
  |none=>simp [hp] at h
  |some os =>
   cases hx:a7w x with
   |none=>simp [hp,hx] at h
   |some xs =>
    have hq:=hpq i os hp
    simp only [hp,hx] at h
    simp only [hq,hx]
    split at h
    ·rename_i hin
     rw [if_pos hin]
     exact c5u hpq rest _ _ h
    ·cases h
theorem b1y {P:Program} {t:Nat} {z:List Value} (h:a0p P t=some z) (w:World):∃ zv,(zeroValue t).run P w=.ok zv w∧zv.cells.toList=z:=by
 unfold a0p at h
 cases hi:P.info? t with
 |none=>simp [hi] at h
 |some i =>
  cases hz:i.zero with
  |none=>simp [hi,hz] at h
  |some zv =>
   simp [hi,hz] at h
   exact ⟨zv,by simp [zeroValue,typeInfo,hi,hz],h⟩
theorem b3g {w:World} {O:Nat→Prop} {E:Env} {z:List Value} {zs:Array Value} (h:zs.toList=z):CellsR w O E (z.map .v) zs:=by
 subst h
 refine ⟨by simp,fun j u y h1 h2=>?_⟩
 simp only [List.getElem?_map,Option.map_eq_some_iff,Array.getElem?_toList] at h1
 obtain ⟨y',h1,rfl⟩:=h1
 rw [h1] at h2
 cases h2
 exact .r0 _ _ (.v _)
theorem e9a (P:Program) (G:Gh) (s:St) (o:Oper) (hd:∀ d,o.dst=some d→d < G.n) (t:TypeId) (parts:List (Nat×Operand)) (ho:o.op=.build t parts.toArray) :
  a2w P G s o (b9f (a0p P t) (a1a P t) (parts.map fun p=>(p.1,ev s p.2))):=by
 unfold b9f
 split
 ·rename_i z ps hz hps
  split
  ·rename_i cs hcs
   intro _
   refine a0j hd fun a w E hs=>?_
   obtain ⟨zv,hzr,hzc⟩:=b1y hz w
   have hev:∀ (j i:Nat) (x:V),(parts.map fun p=>(p.1,ev s p.2))[j]? = some (i,x)→∃ y,(parts.map fun p=>(p.1,a.eval p.2))[j]? = some (i,y)∧R w (OT G s E) E x y:=fun j i x hj=>by
    simp only [List.getElem?_map,Option.map_eq_some_iff] at hj
    obtain ⟨q,hq,he⟩:=hj
    simp only [Prod.mk.injEq] at he
    obtain ⟨rfl,rfl⟩:=he
    exact ⟨a.eval q.2,by simp [hq],b6t hs q.2⟩
   rcases c7p hps w with ⟨fs,hu,hplaces⟩|⟨n,e,inf,hu,hinf,hp⟩
   ·obtain ⟨ys,hfill,hc⟩:=c7y (w:=w) (O:=OT G s E) (E:=E) (fun i=>ps[i]?) _ (parts.map fun p=>(p.1,a.eval p.2)) (z.map .v) zv.cells cs (b3g hzc) (by simp) hev hcs
    refine ⟨.agg ys,?_,.agg _ _ hc.1 hc.2⟩
    have hpl:(fun i:Nat=>ps.toArray[i]?)=fun i:Nat=>ps[i]?:=by funext i;simp
    simp only [execOp,ho,Instr.build,Sem.run_bind,hzr,Result.andThen_ok,a0o P w hu,hplaces,hpl]
    simp [hfill]
   ·have hcs':=c5u (q:=fun i=>some (i * inf.size,inf.size)) (fun i x h=>by
     rw [hp,List.getElem?_map,Option.map_eq_some_iff] at h
     obtain ⟨j,hj,rfl⟩:=h
     have:j=i:=by
      by_cases hlt:i < 8
      ·rw [List.getElem?_range hlt] at hj;exact (Option.some.inj hj).symm
      ·rw [List.getElem?_eq_none (by simp;omega)] at hj;cases hj
     rw [this]) _ _ _ hcs
    obtain ⟨ys,hfill,hc⟩:=c7y (w:=w) (O:=OT G s E) (E:=E) (fun i=>some (i * inf.size,inf.size)) _ (parts.map fun p=>(p.1,a.eval p.2)) (z.map .v) zv.cells cs (b3g hzc) (by simp) hev hcs'
    refine ⟨.agg ys,?_,.agg _ _ hc.1 hc.2⟩
    simp only [execOp,ho,Instr.build,Sem.run_bind,hzr,Result.andThen_ok,a0o P w hu,a1n P w hinf]
    simp [hfill]
  ·trivial
 ·trivial
end Pm
end Go.Proofs.YtmjhfccbbfpppaaGreatDoor
