import Derived.Test.YtmjhfccbbfpppaaGreatDoorQB01
import Derived.Test.YtmjhfccbbfpppaaGreatDoorQB08
import Derived.Test.YtmjhfccbbfpppaaGreatDoorQB10
import Derived.Test.YtmjhfccbbfpppaaGreatDoorQB16
namespace Go.Proofs.YtmjhfccbbfpppaaGreatDoor
open Go Pm
set_option linter.unusedSimpArgs false
set_option linter.unusedVariables false
set_option maxHeartbeats 4000000
set_option maxRecDepth 100000
theorem b8i (n:Nat) (l:List UInt8):Tri Tryz.prog 137 [.ptr 0 0] [(0,.box [.ptr 0 0,.own 1 0 n 1]),(1,.arr 5 1 (l.map a4v))] (fun _=>.ret (.tup []) [(0,.box [.ptr 0 0,.own 1 0 n 1]),(1,.arr 5 1 (l.map a4v))]):=by
 refine a0e (fun _=>false) Tryz.func137 Tryz.ntmps137 rfl rfl fun G hG hOw hNm=>?_;simp only [go_sem,hG,hOw]
 (repeat' with_reducible first|apply And.intro|refine exP ?_ ?_|intro);all_goals try omega
 refine c6b rfl rfl rfl rfl (by rw [hG];decide) Tryz.underlying124 (by kernel_rfl) ?_
 simp only [go_sem,hG,hOw]
 exact (a2o [(0,some 0),(1,some 1)])
def a6g:Obj:=.cells #[.pointer none,.slice none 0 0] 126 (0,0)
theorem c2e (w:World) (b:Nat) (x y v:Value) (t:TypeId) (h:w.heap[b]? = some (.cells #[x,y] t (0,0))):(w.setCell ⟨b,0,none⟩ v).heap[b]? = some (.cells #[v,y] t (0,0))∧∀ k,k≠b→(w.setCell ⟨b,0,none⟩ v).heap[k]? = w.heap[k]?:=by
 rw [setCell_eq_setRow w b 0 _ t _ v h]
 exact ⟨setRow_heap w b _ _ t _ h,fun k hk=>setRow_other w b k _ hk⟩
def g7x:Go.Shelf.Ren:=⟨fun|240=>137|276=>192|n=>n,fun|0=>0|4=>4|9=>9|20=>20|70=>124|72=>126|37=>79|164=>274|n=>n,fun|n=>n⟩
theorem f6l:Go.Proofs.Lays.n240 Tryz.prog g7x:={
 mixed:=by kernel_rfl
 f240:=Tryz.func137.trans (congrArg some (by kernel_rfl))
 f276:=Tryz.func192.trans (congrArg some (by kernel_rfl))
 t0:=Tryz.underlying0
 a0:=Tryz.isAgg0
 z0:=Tryz.sizeOf0
 v0:=Tryz.zeroValue0
 t4:=Tryz.underlying4
 a4:=Tryz.isAgg4
 z4:=Tryz.sizeOf4
 v4:=Tryz.zeroValue4
 t9:=Tryz.underlying9
 a9:=Tryz.isAgg9
 z9:=Tryz.sizeOf9
 v9:=Tryz.zeroValue9
 t20:=Tryz.underlying20
 a20:=Tryz.isAgg20
 z20:=Tryz.sizeOf20
 v20:=Tryz.zeroValue20
 t70:=Tryz.underlying124
 a70:=Tryz.isAgg124
 z70:=Tryz.sizeOf124
 v70:=Tryz.zeroValue124
 t72:=Tryz.underlying126
 a72:=Tryz.isAgg126
 z72:=Tryz.sizeOf126
 v72:=Tryz.zeroValue126
 t164:=Tryz.underlying274
 a164:=Tryz.isAgg274
 z164:=Tryz.sizeOf274
 v164:=Tryz.zeroValue274 }
theorem x72:Builder.X72 Tryz.prog g7x:=⟨by kernel_rfl,by kernel_rfl⟩
theorem b6a:Tri Tryz.prog 137 [.ptr 0 0] [(0,.obj a6g)] (fun _=>.ret (.tup []) [(0,.box [.ptr 0 0,.v (.slice none 0 0)])]):=by
 refine ⟨⟨_,Tryz.func137,by decide,by kernel_rfl⟩,fun lo w O E ys hlo hys hs=>?_⟩
 obtain ⟨ys⟩:=ys
 match ys,hys with
 |[y],_ =>
  obtain ⟨b,K,C,hE0,hob⟩:=hs.hp 0 (.obj a6g) rfl
  obtain ⟨b',rfl,hbk,rfl,rfl⟩:=hob
  have hy:=hs.fr 0
  obtain ⟨b2,K2,C2,hE2,hy2⟩:=R.ptr_inv (show R w _ E (.ptr 0 0) y from hy)
  rw [hE0] at hE2
  cases hE2
  subst hy2
  have h0:w.cell? ⟨b',0,none⟩=some (.pointer none):=by rw [Lib.cell_of_heap hbk];rfl
  have hk:=Any.Builder_copyCheck_fresh (P:=Tryz.prog) (ρ:=g7x) f6l x72 b' w h0 (by simp [World.shape?,hbk];rfl) (Lib.frozen_of_heap hbk 0)
  refine hk.mono fun e w' he=>?_
  obtain ⟨rfl,rfl⟩:=he
  obtain ⟨g1,g2⟩:=c2e w b' _ _ (.pointer (some ⟨b',0,none⟩)) _ hbk
  have hsz:(w.setCell ⟨b',0,none⟩ (.pointer (some ⟨b',0,none⟩))).heap.size=w.heap.size:=by
   rw [setCell_eq_setRow w b' 0 _ _ _ _ hbk];simp [World.setRow]
  refine ⟨.tuple #[],E,rfl,?_⟩
  have hkn:b2v [(0,OB.obj a6g)] [(0,OB.box [.ptr 0 0,.v (.slice none 0 0)])]=[0]:=rfl
  have h1:=hs.upd (s':=St.of [(0,.ptr 0 0)] [(0,.box [.ptr 0 0,.v (.slice none 0 0)])]) (w':=w.setCell ⟨b',0,none⟩ (.pointer (some ⟨b',0,none⟩))) (E':=E) (fun id=>id=0) rfl (Nat.le_of_eq hsz.symm) rfl rfl rfl
   (fun b _ h=>g2 b fun e=>h 0 (.obj a6g) 0 0 rfl rfl (by rw [hE0,e]))
   (fun id hid=>⟨by simp [St.of,lkH,Ne.symm hid],rfl⟩) (fun _ _ h=>h) (fun id h=>by simpa [St.of,usH] using h) (fun id hid _=>by subst hid;simp [St.of,usH])
   (fun id ob hid hob=>by
    subst hid
    simp [St.of,lkH] at hob
    subst hob
    refine ⟨some b',0,0,hE0,fun _=>⟨b',_,_,rfl,g1,rfl,⟨Nat.zero_le _,by simp⟩,rfl,fun j u y hu hy=>?_⟩⟩
    match j with
    |0=>simp at hu hy;subst hu;subst hy;exact .ptr _ _ b' 0 0 hE0
    |1=>simp at hu hy;subst hu;subst hy;exact .r0 _ _ (.v _)
    |j+2=>simp at hu)
   (fun id ob b2 K C hid _ hE=>.inr ⟨0,.obj a6g,0,0,rfl,rfl,by subst hid;rw [hE0] at hE ⊢;cases hE;rfl⟩)
   (fun id id' _ _ _ _ _ h1 h2 _ _ _ _=>h1.trans h2.symm)
  have q:=h1.1
  refine ⟨fun i=>?_,q.defers,rfl,q.hp,q.us,q.inj,q.fresh,q.old,q.grow,q.os,q.tape,q.output,q.keep,q.base,q.zi⟩
  match i with
  |0=>exact .r0 _ _ (.tup [] #[] rfl (by simp))
  |i+1=>exact .r0 _ _ (.any _)
def d4e (k:Nat) (l:List UInt8):List (Nat×OB):=[(0,.box [.ptr 0 0,.own k 0 l.length 1]),(k,.arr 5 1 (l.map a4v))]
theorem b3p (s:ByteArray) (hs:s.size≤1000000):Tri Tryz.prog 66 [.ptr 0 0,.v (.string s)] [(0,.obj a6g)] (fun _=>.ret (.tup [i64 s.size,.v .nilIface]) (d4e 1 s.data.toList)):=by
 have hsl:s.data.toList.length=s.size:=by rw [Array.length_toList];rfl
 unfold d4e
 rw [hsl]
 refine a0e (fun _=>false) Tryz.func66 Tryz.ntmps66 rfl rfl fun G hG hOw hNm=>?_;simp only [go_sem,hG,hOw]
 (repeat' with_reducible first|apply And.intro|refine exP ?_ ?_|intro);all_goals try omega
 refine a0c [(0,0)] [] (b6a) ?_
 simp only [go_sem,hG,hOw]
 (repeat' with_reducible first|apply And.intro|refine exP ?_ ?_|intro);all_goals try omega
 refine b4i rfl rfl rfl rfl (by rw [hG];decide) (by simp [go_sem]) .nil b0j e2d (by unfold c5o;kernel_rfl) (by simp;omega) ?_
 simp only [go_sem,hG,hOw]
 (repeat' with_reducible first|apply And.intro|refine exP ?_ ?_|intro);all_goals try omega
 exact (a2o [(0,some 0),(1,some 14)])
theorem b4x (l:List UInt8) (s:ByteArray) (hs:l.length+s.size≤1000000):Tri Tryz.prog 66 [.ptr 0 0,.v (.string s)] (d4e 1 l) (fun _=>.ret (.tup [i64 s.size,.v .nilIface]) (d4e 2 (l++s.data.toList))):=by
 have hsl:s.data.toList.length=s.size:=by rw [Array.length_toList];rfl
 unfold d4e
 rw [List.length_append,hsl,List.map_append]
 refine a0e (fun _=>false) Tryz.func66 Tryz.ntmps66 rfl rfl fun G hG hOw hNm=>?_;simp only [go_sem,hG,hOw]
 (repeat' with_reducible first|apply And.intro|refine exP ?_ ?_|intro);all_goals try omega
 refine a0c [(0,0),(1,1)] [] (b8i l.length l) ?_
 simp only [go_sem,hG,hOw]
 (repeat' with_reducible first|apply And.intro|refine exP ?_ ?_|intro);all_goals try omega
 refine b4i (l:=l.map a4v) (x:=.own 1 0 (l.map a4v).length 1) rfl (by simp [go_sem]) rfl rfl (by rw [hG];decide) (by simp [go_sem]) (.own 1 _ (by simp [go_sem])) b0j e2d (by unfold c5o;kernel_rfl) (by simp;omega) ?_
 simp only [go_sem,hG,hOw]
 (repeat' with_reducible first|apply And.intro|refine exP ?_ ?_|intro);all_goals try omega
 exact (a2o [(0,some 0),(2,some 14)])
theorem f1w (l:List UInt8):Tri Tryz.prog 68 [.ptr 0 0] (d4e 1 l) (fun _=>.ret (i64 l.length) (d4e 1 l)):=by
 unfold d4e
 refine a0e (fun _=>false) Tryz.func68 Tryz.ntmps68 rfl rfl fun G hG hOw hNm=>?_;simp only [go_sem,hG,hOw]
 (repeat' with_reducible first|apply And.intro|refine exP ?_ ?_|intro);all_goals try omega
 exact (a2o [(0,some 0),(1,some 1)])
open Go Pm Go.RowKit
theorem d5f (w:World) (b g cap:Nat) (cur:Array Value) (p:Value) (l:List UInt8) (h0:l≠[]) {ty:TypeId} (hbk:w.heap[b]? = some (.cells #[p,.slice (some ⟨g,0,none⟩) l.length cap] ty (0,0)))
  (hg:w.heap[g]? = some (.cells cur 5 (0,0))) (hnc:l.length≤cap) (hcm:cap≤maxLen) (hcs:cur.size=cap) (htake:∀ (j:Nat) (x:UInt8),l[j]? = some x→cur[j]? = some (Value.int .u8 x.toNat)) :
  Calls Tryz.prog 69 #[.pointer (some ⟨b,0,none⟩)] w fun e w'=>e=.returned (.string ⟨l.toArray⟩)∧∃ n,w'=(w.drewN n).freeze ⟨g,0,none⟩ l.length:=by
 have hl0:l.length≠0:=by simpa using h0
 have L:=Tryz.lays169
 have X:=Tryz.Builder_Extra_169
 have c1:w.drew.cell? ⟨b,1,none⟩=some (.slice (some ⟨g,0,none⟩) l.length cap):=by
  have:w.drew.heap[b]? = some (.cells #[p,.slice (some ⟨g,0,none⟩) l.length cap] ty (0,0)):=hbk
  rw [Lib.cell_of_heap this];rfl
 have hSD:(Builtin.unsafeSliceData_ #[79] 221 #[.slice (some ⟨g,0,none⟩) l.length cap]).run Tryz.prog w.drew=.ok (.pointer (some ⟨g,0,none⟩)) w.drew :=
  Lib.run_unsafeSliceData_row _ _ _ _ _ _ (by omega)
 have hUS:(Builtin.unsafeString_ #[221,3] 9 #[.pointer (some ⟨g,0,none⟩),.int .i64 l.length]).run Tryz.prog w.drew=.ok (.string ⟨l.toArray⟩) (w.drew.freeze ⟨g,0,none⟩ l.length):=by
  refine Lib.run_unsafeString_row w.drew _ _ _ 5 L.t127 X.cellsByte g cur.size (by have hg':w.drew.heap[g]? = some (.cells cur 5 (0,0)):=hg;simp [World.shape?,hg']) l h0 (by omega) (by unfold maxLen at hcm;omega) ?_
  intro j x hx
  have e:(⟨g,0,none⟩:Addr).add j=⟨g,j,none⟩:=by unfold Addr.add;by_cases h:j=0<;>simp [h]
  rw [e,Lib.cell_of_heap (show w.drew.heap[g]? = some (.cells cur 5 (0,0)) from hg)]
  exact htake j x hx
 have mixed:=L.mixed
 go_enter Tryz.func69,Tryz.ntmps69
 have t72:=L.t72;have a72:=L.a72;have z72:=L.z72;have v72:=L.v72;have u72:=run_underlying L.t72
 have t70:=L.t70;have a70:=L.a70;have z70:=L.z70;have v70:=L.v70;have u70:=run_underlying L.t70
 have t37:=L.t37;have a37:=L.a37;have z37:=L.z37;have v37:=L.v37;have u37:=run_underlying L.t37
 have t127:=L.t127;have a127:=L.a127;have z127:=L.z127;have v127:=L.v127;have u127:=run_underlying L.t127
 have t3:=L.t3;have a3:=L.a3;have z3:=L.z3;have v3:=L.v3;have u3:=run_underlying L.t3
 have t9:=L.t9;have a9:=L.a9;have z9:=L.z9;have v9:=L.v9;have u9:=run_underlying L.t9
 go_wp2
 go_region_o
 all_goals go_wp2
 all_goals go_ret
 all_goals exact ⟨rfl,1,rfl⟩
theorem b8g (w:World) (b:Nat) (p:Value) {ty:TypeId} (hbk:w.heap[b]? = some (.cells #[p,.slice none 0 0] ty (0,0))) :
  Calls Tryz.prog 69 #[.pointer (some ⟨b,0,none⟩)] w fun e w'=>e=.returned (.string ⟨#[]⟩)∧∃ n,w'=w.drewN n:=by
 have L:=Tryz.lays169
 have X:=Tryz.Builder_Extra_169
 have c1:w.drew.cell? ⟨b,1,none⟩=some (.slice none 0 0):=by
  have:w.drew.heap[b]? = some (.cells #[p,.slice none 0 0] ty (0,0)):=hbk
  rw [Lib.cell_of_heap this];rfl
 have hSD:(Builtin.unsafeSliceData_ #[79] 221 #[.slice none 0 0]).run Tryz.prog w.drew=.ok (.pointer none) w.drew:=rfl
 have hUS:∀ (W:World) (q:Option Addr),(Builtin.unsafeString_ #[221,3] 9 #[.pointer q,.int .i64 0]).run Tryz.prog W=.ok (.string .empty) W:=fun W q=>Lib.run_unsafeString_none W _ _ _ q
 have mixed:=L.mixed
 go_enter Tryz.func69,Tryz.ntmps69
 have t72:=L.t72;have a72:=L.a72;have z72:=L.z72;have v72:=L.v72;have u72:=run_underlying L.t72
 have t70:=L.t70;have a70:=L.a70;have z70:=L.z70;have v70:=L.v70;have u70:=run_underlying L.t70
 have t37:=L.t37;have a37:=L.a37;have z37:=L.z37;have v37:=L.v37;have u37:=run_underlying L.t37
 have t127:=L.t127;have a127:=L.a127;have z127:=L.z127;have v127:=L.v127;have u127:=run_underlying L.t127
 have t3:=L.t3;have a3:=L.a3;have z3:=L.z3;have v3:=L.v3;have u3:=run_underlying L.t3
 have t9:=L.t9;have a9:=L.a9;have z9:=L.z9;have v9:=L.v9;have u9:=run_underlying L.t9
 go_wp2
 go_region_o
 all_goals go_wp2
 all_goals go_ret
 all_goals exact ⟨rfl,1,rfl⟩
theorem c3p (w:World) (g n k:Nat):((w.drewN k).freeze ⟨g,0,none⟩ n).heap.size=w.heap.size∧((w.drewN k).freeze ⟨g,0,none⟩ n).os=w.os∧((w.drewN k).freeze ⟨g,0,none⟩ n).tape=w.tape∧((w.drewN k).freeze ⟨g,0,none⟩ n).output=w.output ∧
  ∀ b,b≠g→((w.drewN k).freeze ⟨g,0,none⟩ n).heap[b]? = w.heap[b]?:=by
 have h:=Lib.below_freeze (B:=0) (Below.refl 0 (w.drewN k)) (p:=⟨g,0,none⟩) (Nat.zero_le _) n
 unfold World.freeze
 split
 ·exact ⟨rfl,rfl,rfl,rfl,fun _ _=>rfl⟩
 ·refine ⟨by simp,rfl,rfl,rfl,fun b hb=>?_⟩
  simp only [Array.getElem?_modify]
  rw [if_neg (fun e=>hb e.symm)]
  rfl
theorem c7h (l:List UInt8) (h0:l≠[]):Tri Tryz.prog 69 [.ptr 0 0] (d4e 1 l) (fun _=>.ret (.v (.string ⟨l.toArray⟩)) []):=by
 refine ⟨⟨_,Tryz.func69,by decide,by kernel_rfl⟩,fun lo w O E ys hlo hys hs=>?_⟩
 obtain ⟨ys⟩:=ys
 match ys,hys with
 |[y],_ =>
  obtain ⟨b,K,C,hE0,hob⟩:=hs.hp 0 (.box [.ptr 0 0,.own 1 0 l.length 1]) rfl
  obtain ⟨b',zs,ty,rfl,hbk,hzs,hKl,hKC,hcell⟩:=hob
  obtain ⟨b1,K1,C1,hE1,hob1⟩:=hs.hp 1 (.arr 5 1 (l.map a4v)) rfl
  obtain ⟨r1,r2,r3,r4,r5⟩:=hob1
  obtain ⟨b2,K2,C2,hE2,hy2⟩:=R.ptr_inv (show R w _ E (.ptr 0 0) y from hs.fr 0)
  rw [hE0] at hE2
  cases hE2
  subst hy2
  obtain ⟨zs⟩:=zs
  match zs,hzs with
  |[z0,z1],_ =>
  have hz1:=hcell 1 _ z1 rfl rfl
  obtain ⟨b3,K3,C3,hE3,hv⟩:=R.own_inv hz1
  rw [hE1] at hE3
  cases hE3
  have hll:0 < l.length:=List.length_pos_iff.2 h0
  rw [List.length_map] at r4
  cases b1 with
  |none=>omega
  |some g =>
   obtain ⟨cur,q1,q2,q3,q4,q5⟩:=r5
   obtain ⟨v1,v2,o,v3,v4⟩:=hv
   have ho:o=0:=by have:=v3 (.inr rfl);omega
   subst ho
   subst v4
   rw [Nat.sub_zero] at hbk
   have hbk':w.heap[b']? = some (.cells #[z0,.slice (some ⟨g,0,none⟩) l.length C1] ty (0,0)):=hbk
   have ht:∀ (j:Nat) (x:UInt8),l[j]? = some x→cur[j]? = some (Value.int .u8 x.toNat):=fun j x hx=>by
    have e1:(l.map a4v)[j]? = some (a4v x):=by rw [List.getElem?_map,hx];rfl
    have hjl:j < cur.size:=by have:=(List.getElem?_eq_some_iff.1 hx).1;omega
    have e2:=q5 j (a4v x) 0 _ cur[j] e1 rfl (by simp [hjl])
    have e3:cur[j]=Value.int .u8 x.toNat:=by
     generalize cur[j]=z at e2
     cases e2;rfl
    rw [Array.getElem?_eq_getElem hjl,e3]
   refine (d5f w b' g C1 cur z0 l h0 hbk' q1 (by omega) q4 (by omega) ht).mono fun e w' he=>?_
   obtain ⟨rfl,k,rfl⟩:=he
   obtain ⟨f1,f2,f3,f4,f5⟩:=c3p w g l.length k
   refine ⟨.string ⟨l.toArray⟩,fun _=>none,rfl,⟨fun i=>?_,.nil,rfl,fun id ob h=>?_,fun id h=>absurd rfl h,fun id id' ob ob' b x x' h=>?_,fun id ob b x h=>?_,fun b hb=>?_,?_,f2,f3,f4,fun b hb hM=>?_,fun id hid=>?_,trivial⟩⟩
   ·match i with
    |0=>exact .r0 _ _ (.v _)
    |i+1=>exact .r0 _ _ (.any _)
   ·cases h
   ·cases h
   ·cases h
   ·have:=hs.old b hb;omega
   ·rw [f1];exact Nat.le_refl _
   ·refine f5 b fun e=>hM ?_
    subst e
    exact ⟨1,.arr 5 1 (l.map a4v),K1,C1,rfl,hE1⟩
   ·exact absurd hid (by simp [b2v,b0z,a0x,usH,d4e])
theorem c4p:Tri Tryz.prog 69 [.ptr 0 0] [(0,.obj a6g)] (fun _=>.ret (.v (.string ⟨#[]⟩)) []):=by
 refine ⟨⟨_,Tryz.func69,by decide,by kernel_rfl⟩,fun lo w O E ys hlo hys hs=>?_⟩
 obtain ⟨ys⟩:=ys
 match ys,hys with
 |[y],_ =>
  obtain ⟨b,K,C,hE0,hob⟩:=hs.hp 0 (.obj a6g) rfl
  obtain ⟨b',rfl,hbk,rfl,rfl⟩:=hob
  obtain ⟨b2,K2,C2,hE2,hy2⟩:=R.ptr_inv (show R w _ E (.ptr 0 0) y from hs.fr 0)
  rw [hE0] at hE2
  cases hE2
  subst hy2
  refine (b8g w b' _ hbk).mono fun e w' he=>?_
  obtain ⟨rfl,k,rfl⟩:=he
  refine ⟨.string ⟨#[]⟩,fun _=>none,rfl,⟨fun i=>?_,.nil,rfl,fun id ob h=>?_,fun id h=>absurd rfl h,fun id id' ob ob' b x x' h=>?_,fun id ob b x h=>?_,fun b hb=>hs.old b hb,Nat.le_refl _,rfl,rfl,rfl,fun b hb hM=>rfl,fun id hid=>?_,trivial⟩⟩
  ·match i with
   |0=>exact .r0 _ _ (.v _)
   |i+1=>exact .r0 _ _ (.any _)
  ·cases h
  ·cases h
  ·cases h
  ·exact absurd hid (by simp [b2v,b0z,a0x,usH])
theorem e1v:Tri Tryz.prog 68 [.ptr 0 0] [(0,.obj a6g)] (fun _=>.ret (i64 0) [(0,.obj a6g)]):=by
 refine ⟨⟨_,Tryz.func68,by decide,by kernel_rfl⟩,fun lo w O E ys hlo hys hs=>?_⟩
 obtain ⟨ys⟩:=ys
 match ys,hys with
 |[y],_ =>
  obtain ⟨b,K,C,hE0,hob⟩:=hs.hp 0 (.obj a6g) rfl
  obtain ⟨b',rfl,hbk,rfl,rfl⟩:=hob
  obtain ⟨b2,K2,C2,hE2,hy2⟩:=R.ptr_inv (show R w _ E (.ptr 0 0) y from hs.fr 0)
  rw [hE0] at hE2
  cases hE2
  subst hy2
  refine (Tryz.Builder_Len 0 b' [] w (.inl ⟨Nat.zero_le _,.slice none 0 0,hbk,World.ownsRow_nil _ _ _ _,by simp [Value.ownBlock]⟩)).mono fun e w' he=>?_
  obtain ⟨rfl,rfl⟩:=he
  refine ⟨.int .i64 0,E,rfl,?_⟩
  have hkn:b2v [(0,OB.obj a6g)] [(0,OB.obj a6g)]=[0]:=rfl
  refine ⟨fun i=>?_,hs.defers,rfl,hs.hp,hs.us,hs.inj,hs.fresh,hs.old,hs.grow,hs.os,hs.tape,hs.output,hs.keep,hs.base,hs.zi⟩
  match i with
  |0=>exact .r0 _ _ (.v _)
  |i+1=>exact .r0 _ _ (.any _)
end Go.Proofs.YtmjhfccbbfpppaaGreatDoor
