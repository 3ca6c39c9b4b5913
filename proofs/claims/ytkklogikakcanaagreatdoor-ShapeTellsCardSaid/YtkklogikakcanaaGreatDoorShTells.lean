import Derived.Test.YtkklogikakcanaaGreatDoorRf07A
import Derived.Test.YtkklogikakcanaaGreatDoorShapeLaw
import Derived.Test.YtkklogikakcanaaGreatDoorLeftA
import Derived.Test.YtkklogikakcanaaGreatDoorPrCap
set_option linter.unusedVariables false
set_option linter.unusedSimpArgs false
open List renaming getElem?_toArray → sl7, getElem?_cons_zero → sl8, getElem?_cons_succ → sl9
namespace Go.Proofs.YtkklogikakcanaaGreatDoor
open Go Go.RowKit
theorem wordsS_same {p q:Pr} (h:stripP q=stripP p):wordsS q=wordsS p:=by
 have e:∀r:Pr,wordsS (stripP r)=wordsS r:=fun r=>by unfold wordsS;rw[typesCheck_strip];rfl
 rw[←e q,h,e p]
theorem sharedS_same {p q:Pr} (h:stripP q=stripP p) (nm:List UInt8):sharedS q nm=sharedS p nm:=by
 have e:∀r:Pr,sharedS (stripP r) nm=sharedS r nm:=fun r=>by unfold sharedS;rw[typesCheck_strip];rfl
 rw[←e q,h,e p]
theorem sizeS_same {p q:Pr} (h:stripP q=stripP p) (t:Ty):sizeS q t=sizeS p t:=by
 have e:∀r:Pr,sizeS (stripP r) t=sizeS r t:=fun r=>by unfold sizeS;rw[typesCheck_strip,recOf_strip,rsfs_strip]
 rw[←e q,h,e p]
theorem offsetS_same {p q:Pr} (h:stripP q=stripP p) (nm fd:List UInt8):offsetS q nm fd=offsetS p nm fd:=by
 have e:∀r:Pr,offsetS (stripP r) nm fd=offsetS r nm fd:=fun r=>by unfold offsetS;rw[typesCheck_strip,recOf_strip,rsfs_strip]
 rw[←e q,h,e p]
structure As where
 nm:List UInt8
 rc:List UInt8
 fd:List UInt8
 t:Ty
def As.cells (a:As):List Value:=[.string ⟨a.nm.toArray⟩,.string ⟨a.rc.toArray⟩,.string ⟨a.fd.toArray⟩,.int .u8 a.t.k,.string ⟨a.t.nm.toArray⟩,.int .i64 a.t.n]
theorem asFields:∃fs:Array Field,Tryz.prog.underlying 41=some (.struct fs)∧Tryz.prog.cellsOf 41=6∧∃f0 f1 f2 f3,fs[0]? =some f0∧fs[1]? =some f1∧fs[2]? =some f2∧fs[3]? =some f3∧
  (f0.offset=0∧Tryz.prog.cellsOf f0.type=1∧Tryz.prog.underlying f0.type=some .string)∧(f1.offset=1∧Tryz.prog.cellsOf f1.type=1∧Tryz.prog.underlying f1.type=some .string)∧(f2.offset=2∧Tryz.prog.cellsOf f2.type=1∧Tryz.prog.underlying f2.type=some .string)∧(f3.offset=3∧Tryz.prog.cellsOf f3.type=3∧f3.type=39):=
 ⟨_,Tryz.underlying41,by kernel_rfl,_,_,_,_,rfl,rfl,rfl,rfl,⟨by kernel_rfl,by kernel_rfl,by kernel_rfl⟩,⟨by kernel_rfl,by kernel_rfl,by kernel_rfl⟩,⟨by kernel_rfl,by kernel_rfl,by kernel_rfl⟩,⟨by kernel_rfl,by kernel_rfl,by kernel_rfl⟩⟩
section
open Go.ChangeShapes Go.WideShapes Go.Deep
variable {H:Type} {enc:TypeId×Value→H} {w:World} {base:Nat} {spare:Nat→Bool} {held:Bool}
set_option maxRecDepth 100000 in
theorem open_as {fuel:Nat} {cs:List Value} {x:DataW H×List MemPlace} (h:DataW.trod enc Tryz.prog w base spare held fuel 41 cs=some x) (hw:∀m∈x.1.weights Tryz.prog 41,m≤reachBytes):∃a:As,cs=a.cells∧a.t.Ok:=by
 obtain⟨fs,ht,hC,f0,f1,f2,f3,g0,g1,g2,g3,⟨o0,c0,u0⟩,⟨o1,c1,u1⟩,⟨o2,c2,u2⟩,⟨o3,c3,u3⟩⟩:=asFields
 obtain⟨hl,n,hf,hget⟩:=open_field ht h hw
 rw[hC]at hl
 obtain⟨x0,x1,x2,x3,x4,x5,rfl⟩:∃x0 x1 x2 x3 x4 x5,cs=[x0,x1,x2,x3,x4,x5]:=by
  match cs,hl with
  |[x0,x1,x2,x3,x4,x5],_=>exact⟨_,_,_,_,_,_,rfl⟩
 obtain⟨y0,t0,w0⟩:=hget 0 f0 g0
 rw[o0,c0]at t0
 simp only[List.drop_zero,List.drop_succ_cons,List.take_succ_cons,List.take_zero,List.cons_append,List.nil_append]at t0
 obtain⟨a0,e0,k0⟩:=trod_str u0 t0 w0
 simp only[List.cons.injEq,and_true]at e0
 subst e0
 obtain⟨y1,t1,w1⟩:=hget 1 f1 g1
 rw[o1,c1]at t1
 simp only[List.drop_zero,List.drop_succ_cons,List.take_succ_cons,List.take_zero,List.cons_append,List.nil_append]at t1
 obtain⟨a1,e1,k1⟩:=trod_str u1 t1 w1
 simp only[List.cons.injEq,and_true]at e1
 subst e1
 obtain⟨y2,t2,w2⟩:=hget 2 f2 g2
 rw[o2,c2]at t2
 simp only[List.drop_zero,List.drop_succ_cons,List.take_succ_cons,List.take_zero,List.cons_append,List.nil_append]at t2
 obtain⟨a2,e2,k2⟩:=trod_str u2 t2 w2
 simp only[List.cons.injEq,and_true]at e2
 subst e2
 obtain⟨y3,t3,w3⟩:=hget 3 f3 g3
 rw[o3,c3]at t3
 simp only[List.drop_zero,List.drop_succ_cons,List.take_succ_cons,List.take_zero,List.cons_append,List.nil_append]at t3
 rw[u3]at t3 w3
 obtain⟨a3,e3,k3⟩:=open_ty t3 w3
 simp only[Ty.cells,List.cons.injEq,and_true]at e3
 obtain⟨rfl,rfl,rfl⟩:=e3
 exact⟨⟨a0,a1,a2,a3⟩,rfl,k3⟩
end
set_option maxHeartbeats 16000000 in
set_option maxRecDepth 100000 in
theorem shapeTells_walk (p:Pr) (a:As) (w:World) (hcap:CapP p) (hI:PrIn w w.heap.size p) (hA:a.t.Ok) (G:TyG w.heap.size w):
  Calls Tryz.prog 4 #[.agg p.cells.toArray,.agg a.cells.toArray] w fun e w'=>e=.returned (.bool true)∧Below w.heap.size w w':=by
 obtain⟨anm,arc,afd,at0⟩:=a
 obtain⟨tk0',tnm,tn⟩:=at0
 have HG0:Hid (∀W',Below w.heap.size w W'→TyG W'.heap.size W'):=Lib.hid fun W' hb=>(G.below hb).1
 have HI0:Hid (∀W',Below w.heap.size w W'→PrIn W' W'.heap.size p):=Lib.hid fun W' hb=>hI.keep hb hb.size
 obtain⟨X,hX⟩:∃X,w.heap.size=X:=⟨_,rfl⟩
 obtain⟨w0,hw0⟩:∃w0,w.alloc (prObj p)=w0:=⟨_,rfl⟩
 obtain⟨XA,hXA⟩:∃XA,w0.heap.size=XA:=⟨_,rfl⟩
 obtain⟨w1,hw1⟩:∃w1,w0.alloc (.cells #[.string ⟨anm.toArray⟩,.string ⟨arc.toArray⟩,.string ⟨afd.toArray⟩,.int .u8 tk0',.string ⟨tnm.toArray⟩,.int .i64 tn] 41 (0,0))=w1:=⟨_,rfl⟩
 have hb0:Below w.heap.size w w0:=by rw[←hw0];exact (Below.refl _ _).alloc (Nat.le_refl _) _
 have hb01:Below w0.heap.size w0 w1:=by rw[←hw1];exact (Below.refl _ _).alloc (Nat.le_refl _) _
 have s0:w0.heap.size=X+1:=by rw[←hw0,World.size_alloc,hX]
 have hb1:Below w.heap.size w w1:=hb0.trans (hb01.mono hb0.size)
 have xa:w1.heap[XA]? =some (.cells #[.string ⟨anm.toArray⟩,.string ⟨arc.toArray⟩,.string ⟨afd.toArray⟩,.int .u8 tk0',.string ⟨tnm.toArray⟩,.int .i64 tn] 41 (0,0)):=by rw[←hw1,←hXA];exact heap_alloc_new w0 _
 have x1:w1.heap[X]? =some (prObj p):=(hb01.block X (by omega)).trans (by rw[←hw0,←hX];exact heap_alloc_new w _)
 have HX1:Hid (∀W',Below w1.heap.size w1 W'→W'.heap[X]? =some (prObj p)):=Lib.hid fun W' hb=>(hb.block X (blk_lt x1)).trans x1
 have HA1:Hid (∀W',Below w1.heap.size w1 W'→W'.heap[XA]? =some (.cells #[.string ⟨anm.toArray⟩,.string ⟨arc.toArray⟩,.string ⟨afd.toArray⟩,.int .u8 tk0',.string ⟨tnm.toArray⟩,.int .i64 tn] 41 (0,0))):=Lib.hid fun W' hb=>(hb.block XA (blk_lt xa)).trans xa
 have HBw:Hid (∀W',Below w1.heap.size w1 W'→Below w.heap.size w W'):=Lib.hid fun W' hb=>hb1.trans (hb.mono hb1.size)
 have HG:Hid (∀W',Below w1.heap.size w1 W'→TyG W'.heap.size W'):=Lib.hid fun W' hb=>HG0.out _ (HBw.out _ hb)
 have HI:Hid (∀W',Below w1.heap.size w1 W'→PrIn W' W'.heap.size p):=Lib.hid fun W' hb=>HI0.out _ (HBw.out _ hb)
 have HN:Hid (w.heap.size=X∧X+1=XA∧(w.alloc (prObj p)).alloc (.cells #[.string ⟨anm.toArray⟩,.string ⟨arc.toArray⟩,.string ⟨afd.toArray⟩,.int .u8 tk0',.string ⟨tnm.toArray⟩,.int .i64 tn] 41 (0,0))=w1):=Lib.hid ⟨hX,by omega,by rw[hw0,hw1]⟩
 have hrg:=prSize_range p
 have C1:=Lib.hid (prsize_any p w1 (HI0.out _ hb1))
 have q0:=cell_at x1 0
 have q1:=cell_at x1 1
 have q2:=cell_at x1 2
 have q3:=cell_at x1 3
 simp only[sl7,sl8,sl9]at q0 q1 q2 q3
 rw[←hw1,←hw0,←hX]at q0 q1 q2 q3
 have HCap:=Lib.hid hcap
 have HAo:=Lib.hid hA
 clear hcap hA
 dsimp only[Pr.cells,As.cells]
 by_cases hbig:262144<prSizeS p
 ·have CB:Hid (∀(b:Nat) (W:World),W.cell? ⟨b,0,none⟩=some (.int .i64 (prSizeS p))→Calls Tryz.prog 7 #[.slice (some ⟨b,0,none⟩) 1 1] W fun e w'=>e=.returned (.bool true)∧W=w'):=Lib.hid fun b W hc=>by
   have h:=beyond_any b 0 1 (prSizeS p) hrg.1 (by omega) W hc
   rwa [show decide (262144<prSizeS p)=true by simpa using hbig]at h
  generalize prSizeS p=sz at*
  clear hX hw0 hw1 hXA hb0 hb01 s0 hb1 xa x1 hI G hrg hbig
  go_enter Tryz.func4,Tryz.ntmps4
  go_wp2_with fail
  simp only[HN.out.1,HN.out.2.1,HN.out.2.2]
  refine C1.out.mono ?_
  rintro e w2 ⟨rfl,hb2⟩
  have HB2:=Lib.hid (HBw.out _ hb2)
  clear hb2 C1
  go_wp2_with fail
  refine (CB.out _ _ (cell_at (heap_alloc_new w2 _) 0)).mono ?_
  rintro e w3 ⟨rfl,rfl⟩
  have HZ:Hid (∀o,Below w.heap.size w (w2.alloc o)):=Lib.hid fun o=>HB2.out.alloc HB2.out.size o
  go_wp2_with fail
  go_ret
  exact⟨rfl,HZ.out _⟩
 ·have CB:Hid (∀(b:Nat) (W:World),W.cell? ⟨b,0,none⟩=some (.int .i64 (prSizeS p))→Calls Tryz.prog 7 #[.slice (some ⟨b,0,none⟩) 1 1] W fun e w'=>e=.returned (.bool false)∧W=w'):=Lib.hid fun b W hc=>by
   have h:=beyond_any b 0 1 (prSizeS p) hrg.1 (by omega) W hc
   rwa [show decide (262144<prSizeS p)=false by simpa using hbig]at h
  have hsm:=prSize_small (p:=p) (by omega)
  have HSm:=Lib.hid hsm
  generalize prSizeS p=sz at*
  clear hX hw0 hw1 hXA hb0 hb01 s0 hb1 xa x1 hI G hrg hbig hsm
  go_enter Tryz.func4,Tryz.ntmps4
  go_wp2_with fail
  simp only[HN.out.1,HN.out.2.1,HN.out.2.2]
  refine C1.out.mono ?_
  rintro e w2 ⟨rfl,hb2⟩
  have HB2:=Lib.hid hb2
  clear hb2 C1
  go_wp2_with fail
  refine (CB.out _ _ (cell_at (heap_alloc_new w2 _) 0)).mono ?_
  rintro e w3 ⟨rfl,hw3⟩
  have hb3:Below w1.heap.size w1 w3:=by rw[←hw3];exact HB2.out.alloc HB2.out.size _
  have HB3:=Lib.hid hb3
  have CT:Hid (Calls Tryz.prog 9 #[p.val] w3 fun e w'=>∃q:Pr,e=.returned (.agg q.cells.toArray)∧stripP q=stripP p∧TnP w' w3.heap.size w'.heap.size q∧Below w3.heap.size w3 w'):=Lib.hid (twinPr_any w3.heap.size p w3 (HI.out _ hb3) (Nat.le_refl _) (HG.out _ hb3).gg HSm.out)
  clear q0 q1 q2 q3
  have row:=HX1.out _ hb3
  have q0:=cell_at row 0
  have q1:=cell_at row 1
  have q2:=cell_at row 2
  have q3:=cell_at row 3
  simp only[sl7,sl8,sl9]at q0 q1 q2 q3
  clear row hb3 hw3 HB2 CB
  go_wp2_with fail
  refine CT.out.mono ?_
  rintro e w4 ⟨q,rfl,hst,hTn,hb4⟩
  obtain⟨Y,hY⟩:∃Y,w4.heap.size=Y:=⟨_,rfl⟩
  obtain⟨w5,hw5⟩:∃w5,w4.alloc (prObj q)=w5:=⟨_,rfl⟩
  have hb5:Below w4.heap.size w4 w5:=by rw[←hw5];exact (Below.refl _ _).alloc (Nat.le_refl _) _
  have x5:w5.heap[Y]? =some (prObj q):=by rw[←hw5,←hY];exact heap_alloc_new w4 _
  have HX2:Hid (∀W',Below w5.heap.size w5 W'→W'.heap[Y]? =some (prObj q)):=Lib.hid fun W' hb=>(hb.block Y (blk_lt x5)).trans x5
  have hb15:Below w1.heap.size w1 w5:=HB3.out.trans ((hb4.trans (hb5.mono hb4.size)).mono HB3.out.size)
  have HB5w:Hid (∀W',Below w5.heap.size w5 W'→Below w1.heap.size w1 W'):=Lib.hid fun W' hb=>hb15.trans (hb.mono hb15.size)
  have HTn:Hid (∀W',Below w5.heap.size w5 W'→TnP W' 0 W'.heap.size q):=Lib.hid fun W' hb=>hTn.keep (fun b _ h=>(hb5.trans (hb.mono hb5.size)).block b h) (Nat.zero_le _) (hb5.trans (hb.mono hb5.size)).size
  have HBw5:Hid (Below w5.heap.size w5 w5):=Lib.hid (Below.refl _ _)
  have HW5:=Lib.hid (And.intro hY hw5)
  obtain⟨v1,u1,hV1⟩:∃a b,wordsS p=(a,b):=⟨_,_,rfl⟩
  obtain⟨v2,u2,hV2⟩:∃a b,sharedS p anm=(a,b):=⟨_,_,rfl⟩
  obtain⟨v3,u3,hV3⟩:∃a b,sizeS p ⟨tk0',tnm,tn⟩=(a,b):=⟨_,_,rfl⟩
  obtain⟨v4,u4,hV4⟩:∃a b,offsetS p arc afd=(a,b):=⟨_,_,rfl⟩
  have D1:Hid (∀W,Below w5.heap.size w5 W→Calls Tryz.prog 16 #[q.val] W fun e w'=>e=.returned (.tuple #[.int .i64 v1,.int .i64 u1])∧Below W.heap.size W w'):=Lib.hid fun W hb=>by
   have h:=words_any q W (HTn.out _ hb).inn (HG.out _ (HB5w.out _ hb))
   rw[wordsS_same hst,hV1]at h
   exact h
  have D2:Hid (∀W,Below w5.heap.size w5 W→Calls Tryz.prog 17 #[q.val,.string ⟨anm.toArray⟩] W fun e w'=>e=.returned (.tuple #[.int .i64 v2,.int .i64 u2])∧Below W.heap.size W w'):=Lib.hid fun W hb=>by
   have h:=shared_any q anm W (HTn.out _ hb).inn (HG.out _ (HB5w.out _ hb))
   rw[sharedS_same hst,hV2]at h
   exact h
  have D3:Hid (∀W,Below w5.heap.size w5 W→Calls Tryz.prog 18 #[q.val,.agg #[.int .u8 tk0',.string ⟨tnm.toArray⟩,.int .i64 tn]] W fun e w'=>e=.returned (.tuple #[.int .i64 v3,.int .i64 u3])∧Below W.heap.size W w'):=Lib.hid fun W hb=>by
   have h:=size_any q tk0' tnm tn W (HTn.out _ hb).inn (HG.out _ (HB5w.out _ hb)) HAo.out.nm
   rw[sizeS_same hst,hV3]at h
   exact h
  have D4:Hid (∀W,Below w5.heap.size w5 W→Calls Tryz.prog 19 #[q.val,.string ⟨arc.toArray⟩,.string ⟨afd.toArray⟩] W fun e w'=>e=.returned (.tuple #[.int .i64 v4,.int .i64 u4])∧Below W.heap.size W w'):=Lib.hid fun W hb=>by
   have h:=offset_any q arc afd W (HTn.out _ hb).inn (HG.out _ (HB5w.out _ hb))
   rw[offsetS_same hst,hV4]at h
   exact h
  have R1:Hid (∀W,Below w5.heap.size w5 W→Calls Tryz.prog 20 #[p.val] W fun e w'=>e=.returned (.tuple #[.int .i64 v1,.int .i64 u1])∧Below W.heap.size W w'):=Lib.hid fun W hb=>by
   have h:=rwords7_any p HCap.out W (HI.out _ (HB5w.out _ hb))
   rw[hV1]at h
   exact h
  have R2:Hid (∀W,Below w5.heap.size w5 W→Calls Tryz.prog 21 #[p.val,.string ⟨anm.toArray⟩] W fun e w'=>e=.returned (.tuple #[.int .i64 v2,.int .i64 u2])∧Below W.heap.size W w'):=Lib.hid fun W hb=>by
   have h:=rshared7_any p HCap.out anm W (HI.out _ (HB5w.out _ hb))
   rw[hV2]at h
   exact h
  have R3:Hid (∀W,Below w5.heap.size w5 W→Calls Tryz.prog 22 #[p.val,.agg #[.int .u8 tk0',.string ⟨tnm.toArray⟩,.int .i64 tn]] W fun e w'=>e=.returned (.tuple #[.int .i64 v3,.int .i64 u3])∧Below W.heap.size W w'):=Lib.hid fun W hb=>by
   have h:=rsize7_any p HCap.out tk0' tnm tn W (HI.out _ (HB5w.out _ hb)) HAo.out
   rw[hV3]at h
   exact h
  have R4:Hid (∀W,Below w5.heap.size w5 W→Calls Tryz.prog 23 #[p.val,.string ⟨arc.toArray⟩,.string ⟨afd.toArray⟩] W fun e w'=>e=.returned (.tuple #[.int .i64 v4,.int .i64 u4])∧Below W.heap.size W w'):=Lib.hid fun W hb=>by
   have h:=roffset7_any p HCap.out arc afd W (HI.out _ (HB5w.out _ hb))
   rw[hV4]at h
   exact h
  have HLf:Hid (∀W,Below w5.heap.size w5 W→Calls Tryz.prog 14 #[q.val,p.val] W fun e w'=>e=.returned (.bool true)∧Below W.heap.size W w'):=Lib.hid fun W hb=>leftPr_any q p hst W (HTn.out _ hb) (HI.out _ (HB5w.out _ hb)) (HG.out _ (HB5w.out _ hb)).gg
  clear CT hst hTn hb4 hY hw5 hb5 x5 hb15 hV1 hV2 hV3 hV4
  have d1:(v1==v1)=true:=by simp
  have d2:(v2==v2)=true:=by simp
  have d3:(v3==v3)=true:=by simp
  have d4:(v4==v4)=true:=by simp
  have g1:(u1==u1)=true:=by simp
  have g2:(u2==u2)=true:=by simp
  have g3:(u3==u3)=true:=by simp
  have g4:(u4==u4)=true:=by simp
  dsimp only[Pr.val,Pr.cells]at D1 D2 D3 D4 R1 R2 R3 R4 HLf ⊢
  go_wp2_with fail
  simp only[HW5.out.1,HW5.out.2]
  refine (D1.out _ HBw5.out).mono ?_
  rintro e w6 ⟨rfl,hb⟩
  have HBw6:Hid (Below w5.heap.size w5 w6):=Lib.hid (HBw5.out.trans (hb.mono HBw5.out.size))
  clear hb
  have row:=HX2.out _ HBw6.out
  have y0:=cell_at row 0
  have y1:=cell_at row 1
  have y2:=cell_at row 2
  have y3:=cell_at row 3
  simp only[sl7,sl8,sl9]at y0 y1 y2 y3
  clear row
  have row:=HA1.out _ (HB5w.out _ HBw6.out)
  have a0:=cell_at row 0
  have a1:=cell_at row 1
  have a2:=cell_at row 2
  have a3:=cell_at row 3
  have a4:=cell_at row 4
  have a5:=cell_at row 5
  simp only[sl7,sl8,sl9]at a0 a1 a2 a3 a4 a5
  clear row
  go_wp2_with fail
  refine (D2.out _ HBw6.out).mono ?_
  rintro e w7 ⟨rfl,hb⟩
  have HBw7:Hid (Below w5.heap.size w5 w7):=Lib.hid (HBw6.out.trans (hb.mono HBw6.out.size))
  clear hb
  clear y0 y1 y2 y3 a0 a1 a2 a3 a4 a5
  have row:=HX2.out _ HBw7.out
  have y0:=cell_at row 0
  have y1:=cell_at row 1
  have y2:=cell_at row 2
  have y3:=cell_at row 3
  simp only[sl7,sl8,sl9]at y0 y1 y2 y3
  clear row
  have row:=HA1.out _ (HB5w.out _ HBw7.out)
  have a0:=cell_at row 0
  have a1:=cell_at row 1
  have a2:=cell_at row 2
  have a3:=cell_at row 3
  have a4:=cell_at row 4
  have a5:=cell_at row 5
  simp only[sl7,sl8,sl9]at a0 a1 a2 a3 a4 a5
  clear row
  go_wp2_with fail
  refine (D3.out _ HBw7.out).mono ?_
  rintro e w8 ⟨rfl,hb⟩
  have HBw8:Hid (Below w5.heap.size w5 w8):=Lib.hid (HBw7.out.trans (hb.mono HBw7.out.size))
  clear hb
  clear y0 y1 y2 y3 a0 a1 a2 a3 a4 a5
  have row:=HX2.out _ HBw8.out
  have y0:=cell_at row 0
  have y1:=cell_at row 1
  have y2:=cell_at row 2
  have y3:=cell_at row 3
  simp only[sl7,sl8,sl9]at y0 y1 y2 y3
  clear row
  have row:=HA1.out _ (HB5w.out _ HBw8.out)
  have a0:=cell_at row 0
  have a1:=cell_at row 1
  have a2:=cell_at row 2
  have a3:=cell_at row 3
  have a4:=cell_at row 4
  have a5:=cell_at row 5
  simp only[sl7,sl8,sl9]at a0 a1 a2 a3 a4 a5
  clear row
  go_wp2_with fail
  refine (D4.out _ HBw8.out).mono ?_
  rintro e w9 ⟨rfl,hb⟩
  have HBw9:Hid (Below w5.heap.size w5 w9):=Lib.hid (HBw8.out.trans (hb.mono HBw8.out.size))
  clear hb
  clear y0 y1 y2 y3 a0 a1 a2 a3 a4 a5
  clear q0 q1 q2 q3
  have row:=HX1.out _ (HB5w.out _ HBw9.out)
  have q0:=cell_at row 0
  have q1:=cell_at row 1
  have q2:=cell_at row 2
  have q3:=cell_at row 3
  simp only[sl7,sl8,sl9]at q0 q1 q2 q3
  clear row
  go_wp2_with fail
  refine (R1.out _ HBw9.out).mono ?_
  rintro e w10 ⟨rfl,hb⟩
  have HBw10:Hid (Below w5.heap.size w5 w10):=Lib.hid (HBw9.out.trans (hb.mono HBw9.out.size))
  clear hb
  clear q0 q1 q2 q3
  have row:=HX1.out _ (HB5w.out _ HBw10.out)
  have q0:=cell_at row 0
  have q1:=cell_at row 1
  have q2:=cell_at row 2
  have q3:=cell_at row 3
  simp only[sl7,sl8,sl9]at q0 q1 q2 q3
  clear row
  have row:=HA1.out _ (HB5w.out _ HBw10.out)
  have a0:=cell_at row 0
  have a1:=cell_at row 1
  have a2:=cell_at row 2
  have a3:=cell_at row 3
  have a4:=cell_at row 4
  have a5:=cell_at row 5
  simp only[sl7,sl8,sl9]at a0 a1 a2 a3 a4 a5
  clear row
  go_wp2_with fail
  refine (R2.out _ HBw10.out).mono ?_
  rintro e w11 ⟨rfl,hb⟩
  have HBw11:Hid (Below w5.heap.size w5 w11):=Lib.hid (HBw10.out.trans (hb.mono HBw10.out.size))
  clear hb
  clear a0 a1 a2 a3 a4 a5
  clear q0 q1 q2 q3
  have row:=HX1.out _ (HB5w.out _ HBw11.out)
  have q0:=cell_at row 0
  have q1:=cell_at row 1
  have q2:=cell_at row 2
  have q3:=cell_at row 3
  simp only[sl7,sl8,sl9]at q0 q1 q2 q3
  clear row
  have row:=HA1.out _ (HB5w.out _ HBw11.out)
  have a0:=cell_at row 0
  have a1:=cell_at row 1
  have a2:=cell_at row 2
  have a3:=cell_at row 3
  have a4:=cell_at row 4
  have a5:=cell_at row 5
  simp only[sl7,sl8,sl9]at a0 a1 a2 a3 a4 a5
  clear row
  go_wp2_with fail
  refine (R3.out _ HBw11.out).mono ?_
  rintro e w12 ⟨rfl,hb⟩
  have HBw12:Hid (Below w5.heap.size w5 w12):=Lib.hid (HBw11.out.trans (hb.mono HBw11.out.size))
  clear hb
  clear a0 a1 a2 a3 a4 a5
  clear q0 q1 q2 q3
  have row:=HX1.out _ (HB5w.out _ HBw12.out)
  have q0:=cell_at row 0
  have q1:=cell_at row 1
  have q2:=cell_at row 2
  have q3:=cell_at row 3
  simp only[sl7,sl8,sl9]at q0 q1 q2 q3
  clear row
  have row:=HA1.out _ (HB5w.out _ HBw12.out)
  have a0:=cell_at row 0
  have a1:=cell_at row 1
  have a2:=cell_at row 2
  have a3:=cell_at row 3
  have a4:=cell_at row 4
  have a5:=cell_at row 5
  simp only[sl7,sl8,sl9]at a0 a1 a2 a3 a4 a5
  clear row
  go_wp2_with fail
  refine (R4.out _ HBw12.out).mono ?_
  rintro e w13 ⟨rfl,hb⟩
  have HBw13:Hid (Below w5.heap.size w5 w13):=Lib.hid (HBw12.out.trans (hb.mono HBw12.out.size))
  clear hb
  clear a0 a1 a2 a3 a4 a5
  clear q0 q1 q2 q3
  have row:=HX1.out _ (HB5w.out _ HBw13.out)
  have q0:=cell_at row 0
  have q1:=cell_at row 1
  have q2:=cell_at row 2
  have q3:=cell_at row 3
  simp only[sl7,sl8,sl9]at q0 q1 q2 q3
  clear row
  have row:=HX2.out _ HBw13.out
  have y0:=cell_at row 0
  have y1:=cell_at row 1
  have y2:=cell_at row 2
  have y3:=cell_at row 3
  simp only[sl7,sl8,sl9]at y0 y1 y2 y3
  clear row
  go_wp2_with fail
  refine (HLf.out _ HBw13.out).mono ?_
  rintro e w14 ⟨rfl,hb⟩
  have HBw14:Hid (Below w5.heap.size w5 w14):=Lib.hid (HBw13.out.trans (hb.mono HBw13.out.size))
  clear hb
  clear q0 q1 q2 q3 y0 y1 y2 y3
  go_wp2_with fail
  refine (alive07_any w14 (HG.out _ (HB5w.out _ HBw14.out))).mono ?_
  rintro e w99 ⟨rfl,hb⟩
  have HBz:=Lib.hid ((HBw.out _ (HB5w.out _ HBw14.out)).trans (hb.mono (HBw.out _ (HB5w.out _ HBw14.out)).size))
  clear hb
  go_wp2_with fail
  go_ret
  exact⟨rfl,HBz.out⟩
end Go.Proofs.YtkklogikakcanaaGreatDoor
