import Derived.Test.YtmjhfccbbfpppaaGreatDoorRows
import Derived.Deep.Strs
import Derived.Test.YtmjhfccbbfpppaaGreatDoorQB22
namespace Go.Proofs.YtmjhfccbbfpppaaGreatDoor
open Go Pm Go.ChangeShapes Go.WideShapes Go.ChangeAt
set_option linter.unusedSimpArgs false
set_option linter.unusedVariables false
set_option maxRecDepth 100000
def b2n:List (String×DataW Unit):=[("internal/strconv.uint64pow10",Rows.laid_internal_strconv_uint64pow10),("strconv.ErrRange",Rows.laid_strconv_ErrRange),("strconv.ErrSyntax",Rows.laid_strconv_ErrSyntax),("postil/leaf.kinds",Rows.laid_postil_leaf_kinds),("postil/stem.kinds",Rows.laid_postil_stem_kinds),("postil/sheaf.kinds",Rows.laid_postil_sheaf_kinds),("postil/sheaf.forms",Rows.laid_postil_sheaf_forms)]
theorem b7w {W:World} {m:Nat} {c0 c1 c2:Value} {x:DataW (List UInt8)×List MemPlace} {k:Int} {b b':UInt8} {r r':List UInt8} {f0 f1:FuncId}
  (h:DataW.trod (funcToken Tryz.prog) Tryz.prog W 0 (fun _=>true) true m 238 [c0,c1,c2]=some x) (hx:x.1=.agg [.lit (.int .i64 k),.held (b::r),.held (b'::r')])
  (hone:((List.range Tryz.prog.funcs.size).filter fun f=>(Tryz.prog.funcs[f]?).any (·.name.toUTF8.data.toList == b::r))=[f0])
  (hone':((List.range Tryz.prog.funcs.size).filter fun f=>(Tryz.prog.funcs[f]?).any (·.name.toUTF8.data.toList == b'::r'))=[f1]):c0=.int .i64 k∧c1=.func (.func f0) #[] #[]∧c2=.func (.func f1) #[] #[]:=by
 obtain ⟨y0,y1,y2,n,rfl,_,h0,h1,h2⟩:=Go.Deep.trod_struct3 Tryz.underlying238 h
 have c3:Tryz.prog.cellsOf 3=1:=by kernel_rfl
 have c4:Tryz.prog.cellsOf 236=1:=by kernel_rfl
 have c5:Tryz.prog.cellsOf 224=1:=by kernel_rfl
 simp only [c3,c4,c5,List.drop_zero,List.take_succ_cons,List.take_zero,List.drop_succ_cons] at h0 h1 h2
 simp only [DataW.agg.injEq,List.cons.injEq,and_true] at hx
 obtain ⟨z0,q0⟩:=y0
 obtain ⟨z1,q1⟩:=y1
 obtain ⟨z2,q2⟩:=y2
 simp only at hx
 obtain ⟨rfl,rfl,rfl⟩:=hx
 obtain ⟨k',e1,e2,_⟩:=DataW.trod_int Tryz.underlying3 h0
 refine ⟨?_,func_of_trod Tryz.underlying236 hone h1,func_of_trod Tryz.underlying224 hone' h2⟩
 simp at e1 e2
 rw [e1,e2.1]
theorem d4r {W:World} {m:Nat} {c0 c1 c2:Value} {x:DataW (List UInt8)×List MemPlace} {k:Int}
  (h:DataW.trod (funcToken Tryz.prog) Tryz.prog W 0 (fun _=>true) true m 238 [c0,c1,c2]=some x) (hx:x.1=.agg [.lit (.int .i64 k),.nil,.nil]):c0=.int .i64 k:=by
 obtain ⟨y0,y1,y2,n,rfl,_,h0,h1,h2⟩:=Go.Deep.trod_struct3 Tryz.underlying238 h
 have c3:Tryz.prog.cellsOf 3=1:=by kernel_rfl
 simp only [c3,List.drop_zero,List.take_succ_cons,List.take_zero,List.drop_succ_cons] at h0
 simp only [DataW.agg.injEq,List.cons.injEq,and_true] at hx
 obtain ⟨z0,q0⟩:=y0
 simp only at hx
 obtain ⟨rfl,_,_⟩:=hx
 obtain ⟨k',e1,e2,_⟩:=DataW.trod_int Tryz.underlying3 h0
 simp at e1 e2
 rw [e1,e2.1]
theorem c7x {W:World} {L:List (String×DataW Unit)} (hm:("postil/leaf.kinds",Rows.laid_postil_leaf_kinds) ∈ L) (hs:W.ShapedOpen Tryz.prog) (h:laidMetH Tryz.prog L W):R0 W (fun _=>False) (.fp [.v (.int .i64 0),.any,.any,.v (.int .i64 0),.fn (.func 337) [],.fn (.func 338) [],.v (.int .i64 1),.fn (.func 339) [],.fn (.func 340) [],.v (.int .i64 0),.fn (.func 341) [],.fn (.func 342) []]) (.pointer (some ⟨2,0,none⟩)):=by
 obtain ⟨g,t,cs,fuel,p,hg,ht,hv,hd⟩:=laidMetH.funcs h (n:="postil/leaf.kinds") hm
 obtain rfl:=Option.some.inj ((show Tryz.prog.globalNamed "postil/leaf.kinds"=some 2 by kernel_rfl).symm.trans hg)
 obtain rfl:=Option.some.inj ((show (Tryz.prog.globals[2]?).map (·.type)=some 239 by kernel_rfl).symm.trans ht)
 obtain ⟨xs,m,rfl,hx,hl,hn,hel⟩:=DataW.trod_array Tryz.underlying239 hd
 have c1:Tryz.prog.cellsOf 239=12:=by kernel_rfl
 have c2:Tryz.prog.cellsOf 238=3:=by kernel_rfl
 rw [c1] at hl
 rw [c2] at hel
 obtain ⟨l⟩:=cs
 match l,hl,xs,hn with
 |[a0,a1,a2,a3,a4,a5,a6,a7,a8,a9,a10,a11],_,[x0,x1,x2,x3],_ =>
  have h0:=hel 0 (by decide)
  have h1:=hel 1 (by decide)
  have h2:=hel 2 (by decide)
  have h3:=hel 3 (by decide)
  have hxx:[x0.1,x1.1,x2.1,x3.1]=[.agg [.lit (.int .i64 0),.nil,.nil],.agg [.lit (.int .i64 0),.held [112,111,115,116,105,108,47,108,101,97,102,46,107,105,110,100,115,36,49],.held [112,111,115,116,105,108,47,108,101,97,102,46,107,105,110,100,115,36,50]],.agg [.lit (.int .i64 1),.held [112,111,115,116,105,108,47,108,101,97,102,46,107,105,110,100,115,36,51],.held [112,111,115,116,105,108,47,108,101,97,102,46,107,105,110,100,115,36,52]],.agg [.lit (.int .i64 0),.held [112,111,115,116,105,108,47,108,101,97,102,46,107,105,110,100,115,36,53],.held [112,111,115,116,105,108,47,108,101,97,102,46,107,105,110,100,115,36,54]]]:=by
   have e:DataW.agg [.agg [.lit (.int .i64 0),.nil,.nil],.agg [.lit (.int .i64 0),.held [112,111,115,116,105,108,47,108,101,97,102,46,107,105,110,100,115,36,49],.held [112,111,115,116,105,108,47,108,101,97,102,46,107,105,110,100,115,36,50]],.agg [.lit (.int .i64 1),.held [112,111,115,116,105,108,47,108,101,97,102,46,107,105,110,100,115,36,51],.held [112,111,115,116,105,108,47,108,101,97,102,46,107,105,110,100,115,36,52]],.agg [.lit (.int .i64 0),.held [112,111,115,116,105,108,47,108,101,97,102,46,107,105,110,100,115,36,53],.held [112,111,115,116,105,108,47,108,101,97,102,46,107,105,110,100,115,36,54]]]=DataW.agg [x0.1,x1.1,x2.1,x3.1]:=congrArg Prod.fst hx
   injection e with e
   exact e.symm
  simp only [List.cons.injEq,and_true] at hxx
  obtain ⟨k0,k1,k2,k3⟩:=hxx
  obtain rfl:=d4r h0 k0
  obtain ⟨rfl,rfl,rfl⟩:=b7w (f0:=337) (f1:=338) h1 k1 (by kernel_rfl) (by kernel_rfl)
  obtain ⟨rfl,rfl,rfl⟩:=b7w (f0:=339) (f1:=340) h2 k2 (by kernel_rfl) (by kernel_rfl)
  obtain ⟨rfl,rfl,rfl⟩:=b7w (f0:=341) (f1:=342) h3 k3 (by kernel_rfl) (by kernel_rfl)
  have f0:∀ k:FuncId,R0 W (fun _=>False) (.fn (.func k) []) (.func (.func k) #[] #[]):=fun k=>.fn (.func k) [] #[] rfl (by simp)
  refine b7q (z:=(((((begin Tryz.prog (fun _ _=>0) default).world.heap[2]?).bind Obj.row?)).getD (#[],0)).1) (t0:=(((((begin Tryz.prog (fun _ _=>0) default).world.heap[2]?).bind Obj.row?)).getD (#[],0)).2) hs (by decide +kernel) (by kernel_rfl) hg hv (by simp) fun j u y q1 q2=>?_
  match j with
  |0=>simp at q1 q2;subst q1;subst q2;exact .v _
  |1=>simp at q1;subst q1;exact .any _
  |2=>simp at q1;subst q1;exact .any _
  |3=>simp at q1 q2;subst q1;subst q2;exact .v _
  |4=>simp at q1 q2;subst q1;subst q2;exact f0 _
  |5=>simp at q1 q2;subst q1;subst q2;exact f0 _
  |6=>simp at q1 q2;subst q1;subst q2;exact .v _
  |7=>simp at q1 q2;subst q1;subst q2;exact f0 _
  |8=>simp at q1 q2;subst q1;subst q2;exact f0 _
  |9=>simp at q1 q2;subst q1;subst q2;exact .v _
  |10=>simp at q1 q2;subst q1;subst q2;exact f0 _
  |11=>simp at q1 q2;subst q1;subst q2;exact f0 _
  |j+12=>simp at q1
theorem c5b {W:World} {L:List (String×DataW Unit)} (hm:("postil/sheaf.kinds",Rows.laid_postil_sheaf_kinds) ∈ L) (hs:W.ShapedOpen Tryz.prog) (h:laidMetH Tryz.prog L W):R0 W (fun _=>False) (.fp [.v (.string ⟨#[]⟩),.v (.string ⟨#[111,109,105,116]⟩),.v (.string ⟨#[112,117,116]⟩),.v (.string ⟨#[111,116,104,101,114]⟩)]) (.pointer (some ⟨0,0,none⟩)):=by
 obtain ⟨g,t,cs,fuel,p,hg,ht,hv,hd⟩:=b5l h hm (by kernel_rfl)
 obtain rfl:=Option.some.inj ((show Tryz.prog.globalNamed "postil/sheaf.kinds"=some 0 by kernel_rfl).symm.trans hg)
 obtain rfl:=Option.some.inj ((show (Tryz.prog.globals[0]?).map (·.type)=some 152 by kernel_rfl).symm.trans ht)
 have e:=e7f (zs:=[⟨#[]⟩,⟨#[111,109,105,116]⟩,⟨#[112,117,116]⟩,⟨#[111,116,104,101,114]⟩]) Tryz.underlying152 Tryz.underlying9 (by kernel_rfl) (by kernel_rfl) hd (by kernel_rfl)
 have e':cs=#[.string ⟨#[]⟩,.string ⟨#[111,109,105,116]⟩,.string ⟨#[112,117,116]⟩,.string ⟨#[111,116,104,101,114]⟩]:=by rw [← Array.toList_inj,e];rfl
 subst e'
 refine b7q (z:=(((((begin Tryz.prog (fun _ _=>0) default).world.heap[0]?).bind Obj.row?)).getD (#[],0)).1) (t0:=(((((begin Tryz.prog (fun _ _=>0) default).world.heap[0]?).bind Obj.row?)).getD (#[],0)).2) hs (by decide +kernel) (by kernel_rfl) hg hv (by simp) fun j u y q1 q2=>?_
 match j with
 |0=>simp at q1 q2;subst q1;subst q2;exact .v _
 |1=>simp at q1 q2;subst q1;subst q2;exact .v _
 |2=>simp at q1 q2;subst q1;subst q2;exact .v _
 |3=>simp at q1 q2;subst q1;subst q2;exact .v _
 |j+4=>simp at q1
theorem b7n {W:World} {m:Nat} {c0 c1 c2 c3 c4:Value} {x:DataW (List UInt8)×List MemPlace} {b0 b1 b2 b3:Bool} {q:DataW (List UInt8)}
  (h:DataW.trod (funcToken Tryz.prog) Tryz.prog W 0 (fun _=>true) true m 247 [c0,c1,c2,c3,c4]=some x) (hx:x.1=.agg [.lit (.bool b0),.lit (.bool b1),.lit (.bool b2),.lit (.bool b3),q]) :
  c0=.bool b0∧c1=.bool b1∧c2=.bool b2∧c3=.bool b3∧∃ n y,DataW.trod (funcToken Tryz.prog) Tryz.prog W 0 (fun _=>true) true n 245 [c4]=some y∧y.1=q:=by
 obtain ⟨xs,n,_,rfl,hl,hlen,hf⟩:=DataW.trod_struct Tryz.underlying247 h
 match xs,hlen with
 |[y0,y1,y2,y3,y4],_ =>
  have c5:Tryz.prog.cellsOf 4=1:=by kernel_rfl
  have c6:Tryz.prog.cellsOf 245=1:=by kernel_rfl
  have h0:DataW.trod (funcToken Tryz.prog) Tryz.prog W 0 (fun _=>true) true n 4 (([c0,c1,c2,c3,c4].drop 0).take (Tryz.prog.cellsOf 4))=some y0:=hf 0 _ rfl
  have h1:DataW.trod (funcToken Tryz.prog) Tryz.prog W 0 (fun _=>true) true n 4 (([c0,c1,c2,c3,c4].drop 1).take (Tryz.prog.cellsOf 4))=some y1:=hf 1 _ rfl
  have h2:DataW.trod (funcToken Tryz.prog) Tryz.prog W 0 (fun _=>true) true n 4 (([c0,c1,c2,c3,c4].drop 2).take (Tryz.prog.cellsOf 4))=some y2:=hf 2 _ rfl
  have h3:DataW.trod (funcToken Tryz.prog) Tryz.prog W 0 (fun _=>true) true n 4 (([c0,c1,c2,c3,c4].drop 3).take (Tryz.prog.cellsOf 4))=some y3:=hf 3 _ rfl
  have h4:DataW.trod (funcToken Tryz.prog) Tryz.prog W 0 (fun _=>true) true n 245 (([c0,c1,c2,c3,c4].drop 4).take (Tryz.prog.cellsOf 245))=some y4:=hf 4 _ rfl
  simp only [c5,c6,List.drop_zero,List.take_succ_cons,List.take_zero,List.drop_succ_cons,List.getElem?_cons_zero,List.getElem?_cons_succ] at h0 h1 h2 h3 h4
  simp only [List.map_cons,List.map_nil,DataW.agg.injEq,List.cons.injEq,and_true] at hx
  obtain ⟨z0,q0⟩:=y0
  obtain ⟨z1,q1⟩:=y1
  obtain ⟨z2,q2⟩:=y2
  obtain ⟨z3,q3⟩:=y3
  simp only at hx
  obtain ⟨rfl,rfl,rfl,rfl,hq⟩:=hx
  obtain ⟨k0,e0,f0⟩:=DataW.trod_bool Tryz.underlying4 h0
  obtain ⟨k1,e1,f1⟩:=DataW.trod_bool Tryz.underlying4 h1
  obtain ⟨k2,e2,f2⟩:=DataW.trod_bool Tryz.underlying4 h2
  obtain ⟨k3,e3,f3⟩:=DataW.trod_bool Tryz.underlying4 h3
  simp at e0 f0 e1 f1 e2 f2 e3 f3
  refine ⟨?_,?_,?_,?_,n,y4,h4,hq⟩
  ·rw [e0,f0.1]
  ·rw [e1,f1.1]
  ·rw [e2,f2.1]
  ·rw [e3,f3.1]
theorem d6n {W:World} {n:Nat} {t:TypeId} {c:Value} {y:DataW (List UInt8)×List MemPlace} {q:DataW (List UInt8)} (e:y.1=q) (h:DataW.trod (funcToken Tryz.prog) Tryz.prog W 0 (fun _=>true) true n t [c]=some y):DataW.trod (funcToken Tryz.prog) Tryz.prog W 0 (fun _=>true) true n t [c]=some (q,y.2):=by
 rw [h,← e]
theorem e0l {W:World} {L:List (String×DataW Unit)} (hm:("postil/stem.kinds",Rows.laid_postil_stem_kinds) ∈ L) (hs:W.ShapedOpen Tryz.prog) (h:laidMetH Tryz.prog L W):R0 W (fun _=>False) (.fp [.v (.bool false),.v (.bool false),.v (.bool false),.v (.bool false),.any,.v (.bool true),.v (.bool false),.v (.bool true),.v (.bool false),.fn (.func 343) [],.v (.bool true),.v (.bool true),.v (.bool true),.v (.bool false),.fn (.func 344) [],.v (.bool false),.v (.bool true),.v (.bool true),.v (.bool false),.fn (.func 345) [],.v (.bool false),.v (.bool false),.v (.bool false),.v (.bool true),.fn (.func 346) []]) (.pointer (some ⟨3,0,none⟩)):=by
 obtain ⟨g,t,cs,fuel,p,hg,ht,hv,hd⟩:=laidMetH.funcs h (n:="postil/stem.kinds") hm
 obtain rfl:=Option.some.inj ((show Tryz.prog.globalNamed "postil/stem.kinds"=some 3 by kernel_rfl).symm.trans hg)
 obtain rfl:=Option.some.inj ((show (Tryz.prog.globals[3]?).map (·.type)=some 248 by kernel_rfl).symm.trans ht)
 obtain ⟨xs,m,rfl,hx,hl,hn,hel⟩:=DataW.trod_array Tryz.underlying248 hd
 have c1:Tryz.prog.cellsOf 248=25:=by kernel_rfl
 have c2:Tryz.prog.cellsOf 247=5:=by kernel_rfl
 rw [c1] at hl
 rw [c2] at hel
 obtain ⟨l⟩:=cs
 match l,hl,xs,hn with
 |[a0,a1,a2,a3,a4,a5,a6,a7,a8,a9,a10,a11,a12,a13,a14,a15,a16,a17,a18,a19,a20,a21,a22,a23,a24],_,[x0,x1,x2,x3,x4],_ =>
  have h0:=hel 0 (by decide)
  have h1:=hel 1 (by decide)
  have h2:=hel 2 (by decide)
  have h3:=hel 3 (by decide)
  have h4:=hel 4 (by decide)
  have hxx:[x0.1,x1.1,x2.1,x3.1,x4.1]=[.agg [.lit (.bool false),.lit (.bool false),.lit (.bool false),.lit (.bool false),.nil],.agg [.lit (.bool true),.lit (.bool false),.lit (.bool true),.lit (.bool false),.held [112,111,115,116,105,108,47,115,116,101,109,46,107,105,110,100,115,36,49]],.agg [.lit (.bool true),.lit (.bool true),.lit (.bool true),.lit (.bool false),.held [112,111,115,116,105,108,47,115,116,101,109,46,107,105,110,100,115,36,50]],.agg [.lit (.bool false),.lit (.bool true),.lit (.bool true),.lit (.bool false),.held [112,111,115,116,105,108,47,115,116,101,109,46,107,105,110,100,115,36,51]],.agg [.lit (.bool false),.lit (.bool false),.lit (.bool false),.lit (.bool true),.held [112,111,115,116,105,108,47,115,116,101,109,46,107,105,110,100,115,36,52]]]:=by
   have e:DataW.agg [.agg [.lit (.bool false),.lit (.bool false),.lit (.bool false),.lit (.bool false),.nil],.agg [.lit (.bool true),.lit (.bool false),.lit (.bool true),.lit (.bool false),.held [112,111,115,116,105,108,47,115,116,101,109,46,107,105,110,100,115,36,49]],.agg [.lit (.bool true),.lit (.bool true),.lit (.bool true),.lit (.bool false),.held [112,111,115,116,105,108,47,115,116,101,109,46,107,105,110,100,115,36,50]],.agg [.lit (.bool false),.lit (.bool true),.lit (.bool true),.lit (.bool false),.held [112,111,115,116,105,108,47,115,116,101,109,46,107,105,110,100,115,36,51]],.agg [.lit (.bool false),.lit (.bool false),.lit (.bool false),.lit (.bool true),.held [112,111,115,116,105,108,47,115,116,101,109,46,107,105,110,100,115,36,52]]]=DataW.agg [x0.1,x1.1,x2.1,x3.1,x4.1]:=congrArg Prod.fst hx
   injection e with e
   exact e.symm
  simp only [List.cons.injEq,and_true] at hxx
  obtain ⟨k0,k1,k2,k3,k4⟩:=hxx
  obtain ⟨rfl,rfl,rfl,rfl,_⟩:=b7n h0 k0
  obtain ⟨rfl,rfl,rfl,rfl,n1,y1,g1,e1⟩:=b7n h1 k1
  obtain rfl:=func_of_trod Tryz.underlying245 (f0:=343) (by kernel_rfl) (d6n e1 g1)
  obtain ⟨rfl,rfl,rfl,rfl,n2,y2,g2,e2⟩:=b7n h2 k2
  obtain rfl:=func_of_trod Tryz.underlying245 (f0:=344) (by kernel_rfl) (d6n e2 g2)
  obtain ⟨rfl,rfl,rfl,rfl,n3,y3,g3,e3⟩:=b7n h3 k3
  obtain rfl:=func_of_trod Tryz.underlying245 (f0:=345) (by kernel_rfl) (d6n e3 g3)
  obtain ⟨rfl,rfl,rfl,rfl,n4,y4,g4,e4⟩:=b7n h4 k4
  obtain rfl:=func_of_trod Tryz.underlying245 (f0:=346) (by kernel_rfl) (d6n e4 g4)
  have f0:∀ k:FuncId,R0 W (fun _=>False) (.fn (.func k) []) (.func (.func k) #[] #[]):=fun k=>.fn (.func k) [] #[] rfl (by simp)
  refine b7q (z:=(((((begin Tryz.prog (fun _ _=>0) default).world.heap[3]?).bind Obj.row?)).getD (#[],0)).1) (t0:=(((((begin Tryz.prog (fun _ _=>0) default).world.heap[3]?).bind Obj.row?)).getD (#[],0)).2) hs (by decide +kernel) (by kernel_rfl) hg hv (by simp) fun j u y q1 q2=>?_
  match j with
  |0=>simp at q1 q2;subst q1;subst q2;exact .v _
  |1=>simp at q1 q2;subst q1;subst q2;exact .v _
  |2=>simp at q1 q2;subst q1;subst q2;exact .v _
  |3=>simp at q1 q2;subst q1;subst q2;exact .v _
  |4=>simp at q1;subst q1;exact .any _
  |5=>simp at q1 q2;subst q1;subst q2;exact .v _
  |6=>simp at q1 q2;subst q1;subst q2;exact .v _
  |7=>simp at q1 q2;subst q1;subst q2;exact .v _
  |8=>simp at q1 q2;subst q1;subst q2;exact .v _
  |9=>simp at q1 q2;subst q1;subst q2;exact f0 _
  |10=>simp at q1 q2;subst q1;subst q2;exact .v _
  |11=>simp at q1 q2;subst q1;subst q2;exact .v _
  |12=>simp at q1 q2;subst q1;subst q2;exact .v _
  |13=>simp at q1 q2;subst q1;subst q2;exact .v _
  |14=>simp at q1 q2;subst q1;subst q2;exact f0 _
  |15=>simp at q1 q2;subst q1;subst q2;exact .v _
  |16=>simp at q1 q2;subst q1;subst q2;exact .v _
  |17=>simp at q1 q2;subst q1;subst q2;exact .v _
  |18=>simp at q1 q2;subst q1;subst q2;exact .v _
  |19=>simp at q1 q2;subst q1;subst q2;exact f0 _
  |20=>simp at q1 q2;subst q1;subst q2;exact .v _
  |21=>simp at q1 q2;subst q1;subst q2;exact .v _
  |22=>simp at q1 q2;subst q1;subst q2;exact .v _
  |23=>simp at q1 q2;subst q1;subst q2;exact .v _
  |24=>simp at q1 q2;subst q1;subst q2;exact f0 _
  |j+25=>simp at q1
theorem b7o {W:World} {m:Nat} {c0 c1 c2:Value} {x:DataW (List UInt8)×List MemPlace} {s:ByteArray} {q q':DataW (List UInt8)}
  (h:DataW.trod (funcToken Tryz.prog) Tryz.prog W 0 (fun _=>true) true m 174 [c0,c1,c2]=some x) (hx:x.1=.agg [.lit (.string s.data.toList),q,q']) :
  c0=.string s∧(∃ n y,DataW.trod (funcToken Tryz.prog) Tryz.prog W 0 (fun _=>true) true n 171 [c1]=some y∧y.1=q)∧∃ n y,DataW.trod (funcToken Tryz.prog) Tryz.prog W 0 (fun _=>true) true n 172 [c2]=some y∧y.1=q':=by
 obtain ⟨y0,y1,y2,n,rfl,_,h0,h1,h2⟩:=Go.Deep.trod_struct3 Tryz.underlying174 h
 have c3:Tryz.prog.cellsOf 9=1:=by kernel_rfl
 have c4:Tryz.prog.cellsOf 171=1:=by kernel_rfl
 have c5:Tryz.prog.cellsOf 172=1:=by kernel_rfl
 simp only [c3,c4,c5,List.drop_zero,List.take_succ_cons,List.take_zero,List.drop_succ_cons] at h0 h1 h2
 simp only [DataW.agg.injEq,List.cons.injEq,and_true] at hx
 obtain ⟨z0,q0⟩:=y0
 simp only at hx
 obtain ⟨rfl,hq1,hq2⟩:=hx
 obtain ⟨k,e1,e2,_⟩:=DataW.trod_string Tryz.underlying9 h0
 refine ⟨?_,⟨n,y1,h1,hq1⟩,n,y2,h2,hq2⟩
 simp only [Prod.mk.injEq,DataW.lit.injEq,Lit.string.injEq,and_true,List.cons.injEq] at e1 e2
 have hd:k.data=s.data:=(Array.toList_inj.1 e2.1).symm
 obtain ⟨dk⟩:=k
 obtain ⟨ds⟩:=s
 simp only at hd
 rw [e1,hd]
theorem c9b {W:World} {L:List (String×DataW Unit)} (hm:("postil/sheaf.forms",Rows.laid_postil_sheaf_forms) ∈ L) (hs:W.ShapedOpen Tryz.prog) (h:laidMetH Tryz.prog L W):R0 W (fun _=>False) (.fp [.v (.string ⟨#[]⟩),.any,.any,.v (.string ⟨#[102,111,114,109]⟩),.fn (.func 327) [],.fn (.func 329) [],.v (.string ⟨#[102,114,111,109]⟩),.fn (.func 331) [],.fn (.func 332) [],.v (.string ⟨#[112,108,97,99,101]⟩),.fn (.func 333) [],.fn (.func 334) [],.v (.string ⟨#[118,111,105,100]⟩),.fn (.func 335) [],.fn (.func 336) []]) (.pointer (some ⟨1,0,none⟩)):=by
 obtain ⟨g,t,cs,fuel,p,hg,ht,hv,hd⟩:=laidMetH.funcs h (n:="postil/sheaf.forms") hm
 obtain rfl:=Option.some.inj ((show Tryz.prog.globalNamed "postil/sheaf.forms"=some 1 by kernel_rfl).symm.trans hg)
 obtain rfl:=Option.some.inj ((show (Tryz.prog.globals[1]?).map (·.type)=some 175 by kernel_rfl).symm.trans ht)
 obtain ⟨xs,m,rfl,hx,hl,hn,hel⟩:=DataW.trod_array Tryz.underlying175 hd
 have c1:Tryz.prog.cellsOf 175=15:=by kernel_rfl
 have c2:Tryz.prog.cellsOf 174=3:=by kernel_rfl
 rw [c1] at hl
 rw [c2] at hel
 obtain ⟨l⟩:=cs
 match l,hl,xs,hn with
 |[a0,a1,a2,a3,a4,a5,a6,a7,a8,a9,a10,a11,a12,a13,a14],_,[x0,x1,x2,x3,x4],_ =>
  have h0:=hel 0 (by decide)
  have h1:=hel 1 (by decide)
  have h2:=hel 2 (by decide)
  have h3:=hel 3 (by decide)
  have h4:=hel 4 (by decide)
  have hxx:[x0.1,x1.1,x2.1,x3.1,x4.1]=[.agg [.lit (.string []),.nil,.nil],.agg [.lit (.string [102,111,114,109]),.held [112,111,115,116,105,108,47,115,104,101,97,102,46,102,111,114,109,115,36,49],.held [112,111,115,116,105,108,47,115,104,101,97,102,46,102,111,114,109,115,36,50]],.agg [.lit (.string [102,114,111,109]),.held [112,111,115,116,105,108,47,115,104,101,97,102,46,102,111,114,109,115,36,51],.held [112,111,115,116,105,108,47,115,104,101,97,102,46,102,111,114,109,115,36,52]],.agg [.lit (.string [112,108,97,99,101]),.held [112,111,115,116,105,108,47,115,104,101,97,102,46,102,111,114,109,115,36,53],.held [112,111,115,116,105,108,47,115,104,101,97,102,46,102,111,114,109,115,36,54]],.agg [.lit (.string [118,111,105,100]),.held [112,111,115,116,105,108,47,115,104,101,97,102,46,102,111,114,109,115,36,55],.held [112,111,115,116,105,108,47,115,104,101,97,102,46,102,111,114,109,115,36,56]]]:=by
   have e:DataW.agg [.agg [.lit (.string []),.nil,.nil],.agg [.lit (.string [102,111,114,109]),.held [112,111,115,116,105,108,47,115,104,101,97,102,46,102,111,114,109,115,36,49],.held [112,111,115,116,105,108,47,115,104,101,97,102,46,102,111,114,109,115,36,50]],.agg [.lit (.string [102,114,111,109]),.held [112,111,115,116,105,108,47,115,104,101,97,102,46,102,111,114,109,115,36,51],.held [112,111,115,116,105,108,47,115,104,101,97,102,46,102,111,114,109,115,36,52]],.agg [.lit (.string [112,108,97,99,101]),.held [112,111,115,116,105,108,47,115,104,101,97,102,46,102,111,114,109,115,36,53],.held [112,111,115,116,105,108,47,115,104,101,97,102,46,102,111,114,109,115,36,54]],.agg [.lit (.string [118,111,105,100]),.held [112,111,115,116,105,108,47,115,104,101,97,102,46,102,111,114,109,115,36,55],.held [112,111,115,116,105,108,47,115,104,101,97,102,46,102,111,114,109,115,36,56]]]=DataW.agg [x0.1,x1.1,x2.1,x3.1,x4.1]:=congrArg Prod.fst hx
   injection e with e
   exact e.symm
  simp only [List.cons.injEq,and_true] at hxx
  obtain ⟨k0,k1,k2,k3,k4⟩:=hxx
  obtain ⟨rfl,_,_⟩:=b7o (s:=⟨#[]⟩) h0 k0
  obtain ⟨rfl,⟨n1,y1,g1,e1⟩,m1,z1,g'1,e'1⟩:=b7o (s:=⟨#[102,111,114,109]⟩) h1 k1
  obtain rfl:=func_of_trod Tryz.underlying171 (f0:=327) (by kernel_rfl) (d6n e1 g1)
  obtain rfl:=func_of_trod Tryz.underlying172 (f0:=329) (by kernel_rfl) (d6n e'1 g'1)
  obtain ⟨rfl,⟨n2,y2,g2,e2⟩,m2,z2,g'2,e'2⟩:=b7o (s:=⟨#[102,114,111,109]⟩) h2 k2
  obtain rfl:=func_of_trod Tryz.underlying171 (f0:=331) (by kernel_rfl) (d6n e2 g2)
  obtain rfl:=func_of_trod Tryz.underlying172 (f0:=332) (by kernel_rfl) (d6n e'2 g'2)
  obtain ⟨rfl,⟨n3,y3,g3,e3⟩,m3,z3,g'3,e'3⟩:=b7o (s:=⟨#[112,108,97,99,101]⟩) h3 k3
  obtain rfl:=func_of_trod Tryz.underlying171 (f0:=333) (by kernel_rfl) (d6n e3 g3)
  obtain rfl:=func_of_trod Tryz.underlying172 (f0:=334) (by kernel_rfl) (d6n e'3 g'3)
  obtain ⟨rfl,⟨n4,y4,g4,e4⟩,m4,z4,g'4,e'4⟩:=b7o (s:=⟨#[118,111,105,100]⟩) h4 k4
  obtain rfl:=func_of_trod Tryz.underlying171 (f0:=335) (by kernel_rfl) (d6n e4 g4)
  obtain rfl:=func_of_trod Tryz.underlying172 (f0:=336) (by kernel_rfl) (d6n e'4 g'4)
  have f0:∀ k:FuncId,R0 W (fun _=>False) (.fn (.func k) []) (.func (.func k) #[] #[]):=fun k=>.fn (.func k) [] #[] rfl (by simp)
  refine b7q (z:=(((((begin Tryz.prog (fun _ _=>0) default).world.heap[1]?).bind Obj.row?)).getD (#[],0)).1) (t0:=(((((begin Tryz.prog (fun _ _=>0) default).world.heap[1]?).bind Obj.row?)).getD (#[],0)).2) hs (by decide +kernel) (by kernel_rfl) hg hv (by simp) fun j u y q1 q2=>?_
  match j with
  |0=>simp at q1 q2;subst q1;subst q2;exact .v _
  |1=>simp at q1;subst q1;exact .any _
  |2=>simp at q1;subst q1;exact .any _
  |3=>simp at q1 q2;subst q1;subst q2;exact .v _
  |4=>simp at q1 q2;subst q1;subst q2;exact f0 _
  |5=>simp at q1 q2;subst q1;subst q2;exact f0 _
  |6=>simp at q1 q2;subst q1;subst q2;exact .v _
  |7=>simp at q1 q2;subst q1;subst q2;exact f0 _
  |8=>simp at q1 q2;subst q1;subst q2;exact f0 _
  |9=>simp at q1 q2;subst q1;subst q2;exact .v _
  |10=>simp at q1 q2;subst q1;subst q2;exact f0 _
  |11=>simp at q1 q2;subst q1;subst q2;exact f0 _
  |12=>simp at q1 q2;subst q1;subst q2;exact .v _
  |13=>simp at q1 q2;subst q1;subst q2;exact f0 _
  |14=>simp at q1 q2;subst q1;subst q2;exact f0 _
  |j+15=>simp at q1
theorem d7e {W:World} {L:List (String×DataW Unit)} (hm:("internal/strconv.uint64pow10",Rows.laid_internal_strconv_uint64pow10) ∈ L) (hs:W.ShapedOpen Tryz.prog) (h:laidMetH Tryz.prog L W):KnAt W (fun _=>False) 5 (f5h [.int .u64 1,.int .u64 10,.int .u64 100,.int .u64 1000,.int .u64 10000,.int .u64 100000,.int .u64 1000000,.int .u64 10000000,.int .u64 100000000,.int .u64 1000000000,.int .u64 10000000000,.int .u64 100000000000,.int .u64 1000000000000,.int .u64 10000000000000,.int .u64 100000000000000,.int .u64 1000000000000000,.int .u64 10000000000000000,.int .u64 100000000000000000,.int .u64 1000000000000000000,.int .u64 10000000000000000000]):=by
 obtain ⟨g,t,cs,fuel,p,hg,ht,hv,hd⟩:=b5l h hm (by kernel_rfl)
 obtain rfl:=Option.some.inj ((show Tryz.prog.globalNamed "internal/strconv.uint64pow10"=some 5 by kernel_rfl).symm.trans hg)
 obtain rfl:=Option.some.inj ((show (Tryz.prog.globals[5]?).map (·.type)=some 353 by kernel_rfl).symm.trans ht)
 have e:=e6i (zs:=[1,10,100,1000,10000,100000,1000000,10000000,100000000,1000000000,10000000000,100000000000,1000000000000,10000000000000,100000000000000,1000000000000000,10000000000000000,100000000000000000,1000000000000000000,10000000000000000000]) Tryz.underlying353 Tryz.underlying302 (by kernel_rfl) (by kernel_rfl) hd (by kernel_rfl)
 have e':cs=#[.int .u64 1,.int .u64 10,.int .u64 100,.int .u64 1000,.int .u64 10000,.int .u64 100000,.int .u64 1000000,.int .u64 10000000,.int .u64 100000000,.int .u64 1000000000,.int .u64 10000000000,.int .u64 100000000000,.int .u64 1000000000000,.int .u64 10000000000000,.int .u64 100000000000000,.int .u64 1000000000000000,.int .u64 10000000000000000,.int .u64 100000000000000000,.int .u64 1000000000000000000,.int .u64 10000000000000000000]:=by rw [← Array.toList_inj,e];rfl
 subst e'
 exact c1m (z:=(((((begin Tryz.prog (fun _ _=>0) default).world.heap[5]?).bind Obj.row?)).getD (#[],0)).1) (t0:=(((((begin Tryz.prog (fun _ _=>0) default).world.heap[5]?).bind Obj.row?)).getD (#[],0)).2) hs (by decide +kernel) (by kernel_rfl) hg hv (by simp) rfl
theorem f2d {W:World} {t:TypeId} {cs:Array Value} {ms:Array (String×TypeId)} {fuel:Nat} {x:DataW Unit×List MemPlace} (ht:Tryz.prog.underlying t=some (.interface ms)) (h:DataW.trod (fun _=>()) Tryz.prog W 0 (fun _=>true) false fuel t cs.toList=some x):c7k cs∧1≤cs.size:=by
 obtain ⟨l⟩:=cs
 cases fuel with
 |zero=>simp [DataW.trod] at h
 |succ m =>
  unfold DataW.trod at h
  rw [ht] at h
  simp only at h
  split at h<;>simp_all
  ·exact ⟨_,rfl,.inl rfl⟩
  ·exact ⟨_,rfl,.inr ⟨_,_,rfl⟩⟩
theorem d5u {W:World} {L:List (String×DataW Unit)} (hm:("strconv.ErrSyntax",Rows.laid_strconv_ErrSyntax) ∈ L) (hs:W.ShapedOpen Tryz.prog) (h:laidMetH Tryz.prog L W):KnAt W (fun _=>False) 7 c7k:=by
 obtain ⟨g,t,cs,fuel,p,hg,ht,hv,hd⟩:=b5l h hm (by kernel_rfl)
 obtain rfl:=Option.some.inj ((show Tryz.prog.globalNamed "strconv.ErrSyntax"=some 7 by kernel_rfl).symm.trans hg)
 obtain rfl:=Option.some.inj ((show (Tryz.prog.globals[7]?).map (·.type)=some 128 by kernel_rfl).symm.trans ht)
 obtain ⟨e1,e2⟩:=f2d Tryz.underlying128 hd
 exact c1m (z:=(((((begin Tryz.prog (fun _ _=>0) default).world.heap[7]?).bind Obj.row?)).getD (#[],0)).1) (t0:=(((((begin Tryz.prog (fun _ _=>0) default).world.heap[7]?).bind Obj.row?)).getD (#[],0)).2) hs (by decide +kernel) (by kernel_rfl) hg hv e2 e1
theorem e5c {W:World} {L:List (String×DataW Unit)} (hm:("strconv.ErrRange",Rows.laid_strconv_ErrRange) ∈ L) (hs:W.ShapedOpen Tryz.prog) (h:laidMetH Tryz.prog L W):KnAt W (fun _=>False) 8 c7k:=by
 obtain ⟨g,t,cs,fuel,p,hg,ht,hv,hd⟩:=b5l h hm (by kernel_rfl)
 obtain rfl:=Option.some.inj ((show Tryz.prog.globalNamed "strconv.ErrRange"=some 8 by kernel_rfl).symm.trans hg)
 obtain rfl:=Option.some.inj ((show (Tryz.prog.globals[8]?).map (·.type)=some 128 by kernel_rfl).symm.trans ht)
 obtain ⟨e1,e2⟩:=f2d Tryz.underlying128 hd
 exact c1m (z:=(((((begin Tryz.prog (fun _ _=>0) default).world.heap[8]?).bind Obj.row?)).getD (#[],0)).1) (t0:=(((((begin Tryz.prog (fun _ _=>0) default).world.heap[8]?).bind Obj.row?)).getD (#[],0)).2) hs (by decide +kernel) (by kernel_rfl) hg hv e2 e1
theorem c4c {W:World} (hs:W.ShapedOpen Tryz.prog):KnAt W (fun _=>False) 6 e6m :=
 f0w (n:="internal/bytealg.MaxLen") (z:=(((((begin Tryz.prog (fun _ _=>0) default).world.heap[6]?).bind Obj.row?)).getD (#[],0)).1) (t0:=(((((begin Tryz.prog (fun _ _=>0) default).world.heap[6]?).bind Obj.row?)).getD (#[],0)).2) hs (by decide +kernel) (by kernel_rfl) (by kernel_rfl) (by kernel_rfl) (by kernel_rfl) (by kernel_rfl) (by kernel_rfl)
theorem c4l {L:List (String×DataW Unit)} (hL:∀ x ∈ b2n,x ∈ L) (W:World) (hs:W.ShapedOpen Tryz.prog) (h:laidMetH Tryz.prog L W):GlobOK W (fun _=>False):=by
 simp only [b2n,List.mem_cons,List.not_mem_nil,or_false,forall_eq_or_imp,forall_eq] at hL
 obtain ⟨m1,m2,m3,m4,m5,m6,m7⟩:=hL
 refine ⟨fun p hp=>?_,fun g hg=>?_⟩
 ·simp only [c2n,gl1,gl2,gl3,gl4,gl5,gl6,gl7,List.nil_append,List.cons_append,List.mem_cons,List.not_mem_nil,or_false] at hp
  rcases hp with rfl|rfl|rfl|rfl
  ·exact c7x m4 hs h
  ·exact c5b m6 hs h
  ·exact e0l m5 hs h
  ·exact c9b m7 hs h
 ·simp only [f3e,f3l,g2z,g4e,List.nil_append,List.cons_append,List.mem_cons,List.not_mem_nil,or_false] at hg
  rcases hg with rfl|rfl|rfl|rfl
  ·exact d5u m3 hs h
  ·exact e5c m2 hs h
  ·exact d7e m1 hs h
  ·exact c4c hs
end Go.Proofs.YtmjhfccbbfpppaaGreatDoor
