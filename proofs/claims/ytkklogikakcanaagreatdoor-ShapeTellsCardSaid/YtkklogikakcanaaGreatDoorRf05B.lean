import Derived.Test.YtkklogikakcanaaGreatDoorTreeB
import Derived.Test.YtkklogikakcanaaGreatDoorScopeA
import Derived.Test.YtkklogikakcanaaGreatDoorScopePlain
import Derived.Test.YtkklogikakcanaaGreatDoorKept
import Derived.Test.YtkklogikakcanaaGreatDoorTreeL
import Derived.Test.YtkklogikakcanaaGreatDoorScopeF
import Derived.Test.YtkklogikakcanaaGreatDoorRegion
set_option linter.unusedVariables false
set_option linter.unusedSimpArgs false
open List renaming getElem_toArray → sl1, getElem_cons_zero → sl2, getElem_cons_succ → sl3, setIfInBounds_toArray → sl4, set_cons_zero → sl5, set_cons_succ → sl6, getElem?_toArray → sl7, getElem?_cons_zero → sl8, getElem?_cons_succ → sl9
namespace Go.Proofs.YtkklogikakcanaaGreatDoor
open Go Go.RowKit
theorem qfa25_7 {P:Prop} (h:P:=by
 go_wp2_with fail
 refine bodyPost_ret (v:=.tuple #[.agg #[.bool false,.int .u8 (k),.string ⟨(tn).toArray⟩,.int .i64 (n)],.int .i64 0]) (by simp[results,Tryz.results162,go_sem,y0,y1,y2,y3]) rfl ?_
 exact qfa25_5):P:=h
theorem qfa25_6 {P:Prop} (h:P:=by
 go_wp2_with fail
 refine bodyPost_ret (v:=.tuple #[.agg #[.bool false,.int .u8 0,.string ⟨([]:List UInt8).toArray⟩,.int .i64 0],.int .i64 10]) (by simp[results,Tryz.results164,go_sem,y0,y1,y2,y3]) rfl ?_
 exact qfa25_4):P:=h
theorem qfa25_5 {P:Prop} (h:P:=by
 exact⟨rfl,by first|(rw[HU.out];exact HF.out)|with_reducible exact HF.out⟩):P:=h
theorem qfa25_4 {P:Prop} (h:P:=by
 exact⟨rfl,by first|with_reducible exact HF.out|(rw[HU.out];with_reducible exact HF.out)|(rw[HU.out];with_reducible exact HB.out)⟩):P:=h
theorem qfa25_3 {P:Prop} (h:P:=by
 first|(simp_all;done)|(simp_all;rw[Bool.eq_iff_iff];simp;done)|(simp_all;rw[Bool.eq_iff_iff];simp;omega)):P:=h
theorem qfa25_2 {P:Prop} (h:P:=by
 by_cases hnm:rnm=nm
 ·subst hnm
  obtain rfl:(j:Int)=R:=by rw[if_pos rfl]at hC1;exact hC1
  have HZ:=Lib.hid (HBw.out _ hB.out)
  clear hC1
  go_wp2_with fail
  go_ret
  exact⟨rfl,HZ.out⟩
 ·rw[if_neg (fun h=>hnm h.symm)]at hC1
  have HC1:=Lib.hid hC1
  have e1:(rnm==nm)=false:=by simpa using hnm
  clear hC1
  go_wp2_with fail
  go_roundw
  case rel=>exact⟨j+1,by go_num,by omega,hB,HC1⟩
  case measure=>simp[intOf];omega):P:=h
theorem qfa25_1 {P:Prop} (h:P:=by
 go_enter Tryz.func163,Tryz.ntmps163
 have HZ:=Lib.hid (HZz.out _ HB0.out)
 have HB:=Lib.hid (HBw.out _ HB0.out)
 obtain⟨f0,f1,f2,f3,c0,c1,c2,c3,y0,y1,y2,y3⟩:=resO HZ.out false 0 ([]:List UInt8) 0
 have HF:=Lib.hid (resOB HB.out HXl.out (.bool false) (.int .u8 0) (.string ⟨([]:List UInt8).toArray⟩) (.int .i64 0))
 rw[←HU.out,←HN.out.2]at f0 f1 f2 f3 c0 c1 c2 c3 y0 y1 y2 y3 HF
 go_wp2_with fail
 refine bodyPost_ret (v:=.tuple #[.agg #[.bool false,.int .u8 0,.string ⟨([]:List UInt8).toArray⟩,.int .i64 0],.int .i64 10]) (by simp[results,Tryz.results163,go_sem,y0,y1,y2,y3]) rfl ?_
 exact qfa25_4):P:=h
abbrev OfV (s:Srt):Value:=.agg #[.bool s.null,.int .u8 s.t.k,.string ⟨s.t.nm.toArray⟩,.int .i64 s.t.n]
def srt0:Srt:=⟨ty0,false⟩
def numB (s:Srt):Bool:= !s.null&&decide (s.t.k=1)
theorem rb2 (w:World) (o o2:Obj):Below w.heap.size w ((w.alloc o).alloc o2):=((Below.refl _ w).alloc (Nat.le_refl _) o).alloc ((Below.refl _ w).alloc (Nat.le_refl _) o).size o2
set_option maxHeartbeats 2000000 in
theorem rsame_any (a b:Ty) (w:World):Calls Tryz.prog 160 #[a.val,b.val] w fun e w'=>e=.returned (.bool (decide (a=b)))∧Below w.heap.size w w':=by
 obtain⟨k,nm,n⟩:=a
 obtain⟨k2,nm2,n2⟩:=b
 have HE:Hid (∀v,decide ((⟨k,nm,n⟩:Ty)=⟨k2,nm2,n2⟩)=v→Ending.returned (.bool v)=.returned (.bool (decide ((⟨k,nm,n⟩:Ty)=⟨k2,nm2,n2⟩)))):=Lib.hid fun v h=>by rw[h]
 have HB:=Lib.hid (rb2 w)
 dsimp only[Ty.val]
 go_enter Tryz.func160,Tryz.ntmps160
 go_wp2
 all_goals
  go_ret
  refine⟨HE.out _ ?_,HB.out _ _⟩
  exact qfa25_3
set_option maxHeartbeats 2000000 in
theorem rnumber_any (s:Srt) (w:World):Calls Tryz.prog 132 #[OfV s] w fun e w'=>e=.returned (.bool (numB s))∧Below w.heap.size w w':=by
 obtain⟨⟨k,nm,n⟩,nl⟩:=s
 have HE:Hid (∀v,numB ⟨⟨k,nm,n⟩,nl⟩=v→Ending.returned (.bool v)=.returned (.bool (numB ⟨⟨k,nm,n⟩,nl⟩))):=Lib.hid fun v h=>by rw[h]
 have HB:=Lib.hid (fun o=>(Below.refl w.heap.size w).alloc (Nat.le_refl _) o)
 dsimp only[OfV]
 cases nl<;>
 ·go_enter Tryz.func132,Tryz.ntmps132
  go_wp2
  all_goals
   go_ret
   refine⟨HE.out _ ?_,HB.out _⟩
   unfold numB
   exact qfa25_3
set_option maxHeartbeats 2000000 in
theorem rreference_any (s:Srt) (w:World):Calls Tryz.prog 178 #[OfV s] w fun e w'=>e=.returned (.bool s.ref)∧Below w.heap.size w w':=by
 obtain⟨⟨k,nm,n⟩,nl⟩:=s
 have HE:Hid (∀v,Srt.ref ⟨⟨k,nm,n⟩,nl⟩=v→Ending.returned (.bool v)=.returned (.bool (Srt.ref ⟨⟨k,nm,n⟩,nl⟩))):=Lib.hid fun v h=>by rw[h]
 have HB:=Lib.hid (fun o=>(Below.refl w.heap.size w).alloc (Nat.le_refl _) o)
 dsimp only[OfV]
 cases nl<;>
 ·go_enter Tryz.func178,Tryz.ntmps178
  go_wp2
  all_goals
   go_ret
   refine⟨HE.out _ ?_,HB.out _⟩
   unfold Srt.ref refT
   exact qfa25_3
set_option maxHeartbeats 4000000 in
theorem rfits_any (s:Srt) (t:Ty) (w:World):Calls Tryz.prog 131 #[OfV s,t.val] w fun e w'=>e=.returned (.bool (s.fits t))∧Below w.heap.size w w':=by
 have CS:=Lib.hid (fun W=>rsame_any s.t t W)
 obtain⟨⟨k,nm,n⟩,nl⟩:=s
 obtain⟨k2,nm2,n2⟩:=t
 obtain⟨b,hb⟩:∃b,decide ((⟨k,nm,n⟩:Ty)=⟨k2,nm2,n2⟩)=b:=⟨_,rfl⟩
 have HE:Hid (∀v,Srt.fits ⟨⟨k,nm,n⟩,nl⟩ ⟨k2,nm2,n2⟩=v→Ending.returned (.bool v)=.returned (.bool (Srt.fits ⟨⟨k,nm,n⟩,nl⟩ ⟨k2,nm2,n2⟩))):=Lib.hid fun v h=>by rw[h]
 have HF:Hid (Srt.fits ⟨⟨k,nm,n⟩,nl⟩ ⟨k2,nm2,n2⟩=((nl&&(decide (k2=2)||decide (k2=3)))||(!nl&&(b&&decide (k2≠0))))):=Lib.hid (by rw[←hb];rfl)
 dsimp only at CS
 rw[hb]at CS
 have HB0:=Lib.hid (rb2 w)
 clear hb
 dsimp only[Ty.val]at CS ⊢
 cases nl<;>
 ·go_enter Tryz.func131,Tryz.ntmps131
  go_wp2_with (go_at_call 160;with_reducible refine (CS.out _).mono ?_;rintro e w1 ⟨rfl,hb1⟩;have HB1:=Lib.hid ((HB0.out _ _).trans (hb1.mono (HB0.out _ _).size));clear hb1)
  all_goals
   go_ret
   refine⟨HE.out _ ?_,by first|exact HB1.out|exact HB0.out _ _⟩
   rw[HF.out]
   clear HF HE CS
   exact qfa25_3
def alikeB (a b:Srt):Bool:=if a.null||b.null then a.ref&&b.ref else decide (a.t=b.t)
theorem alikeB_eq (a b:Srt):alikeB a b=decide (a=b∨(a.null=true∧b.ref=true)∨(b.null=true∧a.ref=true)):=by
 obtain⟨t,nl⟩:=a
 obtain⟨t2,nl2⟩:=b
 unfold alikeB Srt.ref
 cases nl<;>cases nl2<;>simp
set_option maxHeartbeats 4000000 in
set_option maxRecDepth 100000 in
theorem ralike_any (s u:Srt) (w:World):Calls Tryz.prog 165 #[OfV s,OfV u] w fun e w'=>e=.returned (.bool (alikeB s u))∧Below w.heap.size w w':=by
 have CS:=Lib.hid (fun W=>rsame_any s.t u.t W)
 have CR:=Lib.hid (fun W=>rreference_any s W)
 have CR2:=Lib.hid (fun W=>rreference_any u W)
 obtain⟨b,hb⟩:∃b,decide (s.t=u.t)=b:=⟨_,rfl⟩
 obtain⟨b1,hb1⟩:∃b1,s.ref=b1:=⟨_,rfl⟩
 obtain⟨b2,hb2⟩:∃b2,u.ref=b2:=⟨_,rfl⟩
 have HE:Hid (∀v,alikeB s u=v→Ending.returned (.bool v)=.returned (.bool (alikeB s u))):=Lib.hid fun v h=>by rw[h]
 have HF:Hid (alikeB s u=if s.null||u.null then b1&&b2 else b):=Lib.hid (by rw[←hb,←hb1,←hb2];rfl)
 rw[hb]at CS
 rw[hb1]at CR
 rw[hb2]at CR2
 generalize alikeB s u=Z at*
 obtain⟨⟨k,nm,n⟩,nl⟩:=s
 obtain⟨⟨k2,nm2,n2⟩,nl2⟩:=u
 obtain⟨X,hX⟩:∃X,w.heap.size=X:=⟨_,rfl⟩
 obtain⟨w1,hw1⟩:∃w1,(w.alloc (.cells #[.bool nl,.int .u8 k,.string ⟨nm.toArray⟩,.int .i64 n] 188 (0,0))).alloc (.cells #[.bool nl2,.int .u8 k2,.string ⟨nm2.toArray⟩,.int .i64 n2] 188 (0,0))=w1:=⟨_,rfl⟩
 have HB0:Hid (Below w.heap.size w w1):=Lib.hid (by rw[←hw1];exact rb2 w _ _)
 have x2:w1.heap[X+1]? =some (.cells #[.bool nl2,.int .u8 k2,.string ⟨nm2.toArray⟩,.int .i64 n2] 188 (0,0)):=by
  have hs:(w.alloc (.cells #[.bool nl,.int .u8 k,.string ⟨nm.toArray⟩,.int .i64 n] 188 (0,0))).heap.size=X+1:=by rw[World.size_alloc,hX]
  rw[←hw1,←hs];exact heap_alloc_new _ _
 have HRow:Hid (∀W,Below w1.heap.size w1 W→W.heap[X+1]? =some (.cells #[.bool nl2,.int .u8 k2,.string ⟨nm2.toArray⟩,.int .i64 n2] 188 (0,0))):=Lib.hid fun W hb=>(hb.block _ (Array.getElem?_eq_some_iff.1 x2).1).trans x2
 rw[←hX]at HRow
 clear hb hb1 hb2 x2 hX
 dsimp only[Ty.val]at CS CR CR2 HF ⊢
 have HW:=Lib.hid hw1
 rw[←hw1]at HRow HB0
 clear hw1
 cases nl<;>cases nl2<;>
 ·go_enter Tryz.func165,Tryz.ntmps165
  go_wp2_with (first|(go_at_call 160;with_reducible refine (CS.out _).mono ?_;rintro e w2 ⟨rfl,hb1⟩;have HB1:=Lib.hid (HB0.out.trans (hb1.mono HB0.out.size));clear hb1)|(go_at_call 178;with_reducible refine (CR2.out _).mono ?_;rintro e w2 ⟨rfl,hb1⟩;replace HB1:=Lib.hid (HB1.out.trans (hb1.mono HB1.out.size));clear hb1)|(go_at_call 178;with_reducible refine (CR.out _).mono ?_;rintro e w2 ⟨rfl,hb1⟩;have HB1:=Lib.hid (HB0.out.trans (hb1.mono HB0.out.size));have row:=HRow.out _ hb1;have q0:=cell_at row 0;have q1:=cell_at row 1;have q2:=cell_at row 2;have q3:=cell_at row 3;simp only[sl7,sl8,sl9]at q0 q1 q2 q3;clear hb1 row))
  all_goals
   go_ret
   refine⟨HE.out _ ?_,by first|exact HB1.out|exact HB0.out⟩
   rw[HF.out]
   clear HF HE CS CR CR2
   exact qfa25_3
end Go.Proofs.YtkklogikakcanaaGreatDoor
namespace Go.Proofs.YtkklogikakcanaaGreatDoor
open Go Go.RowKit
def plI (o:Option Nat):Int:=match o with|some i=>(i:Int)|none=>-1
set_option maxHeartbeats 4000000 in
set_option maxRecDepth 100000 in
theorem rrecord5_any (p:Pr) (nm:List UInt8) (w:World) (hI:PrIn w w.heap.size p):
  Calls Tryz.prog 58 #[p.val,.string ⟨nm.toArray⟩] w fun e w'=>e=.returned (.int .i64 (plI (recOf p nm)))∧Below w.heap.size w w':=by
 obtain⟨R,hR⟩:∃R,plI (recOf p nm)=R:=⟨_,rfl⟩
 rw[hR]
 have HR:Hid (plI (idxFrom Re.nm p.rs 0 nm)=R):=Lib.hid (by rw[idxFrom_zero];exact hR)
 obtain⟨X,hX⟩:∃X,w.heap.size=X:=⟨_,rfl⟩
 obtain⟨w1,hw1⟩:∃w1,w.alloc (prObj p)=w1:=⟨_,rfl⟩
 have hb1:Below w.heap.size w w1:=by rw[←hw1];exact (Below.refl _ _).alloc (Nat.le_refl _) _
 have x1:w1.heap[X]? =some (prObj p):=by rw[←hw1,←hX];exact heap_alloc_new w _
 have HI:Hid (∀W,Below w1.heap.size w1 W→PrIn W w.heap.size p):=Lib.hid fun W hb=>hI.keep (hb1.trans (hb.mono hb1.size)) (Nat.le_refl _)
 have HBw:Hid (∀W,Below w1.heap.size w1 W→Below w.heap.size w W):=Lib.hid fun W hb=>hb1.trans (hb.mono hb1.size)
 have HRow:Hid (∀W,Below w1.heap.size w1 W→W.heap[X]? =some (prObj p)):=Lib.hid fun W hb=>(hb.block X (lt_blk x1)).trans x1
 have HN:Hid (w.heap.size=X∧w.alloc (prObj p)=w1):=Lib.hid ⟨hX,hw1⟩
 have hRl:p.rs.length≤140737488355328:=hI.rlen
 clear hR hX hw1 hb1 x1 hI
 dsimp only[Pr.val]
 go_enter Tryz.func58,Tryz.ntmps58
 go_wp2_with fail
 simp only[HN.out.1,HN.out.2]
 go_loopw [5] (fun ii wr=>∃(j:Nat),ii=.int .i64 j∧j≤p.rs.length∧Hid (Below w1.heap.size w1 wr)∧Hid (plI (idxFrom Re.nm p.rs j nm)=R)) (fun ii _=>p.rs.length - (intOf ii).toNat)
 case atStart=>exact⟨0,rfl,Nat.zero_le _,Lib.hid (Below.refl _ _),HR⟩
 case round=>
  obtain⟨j,rfl,hj,hB,hC⟩:=hrel
  clear HR
  have p2:(0:Int)≤(j:Int):=Int.natCast_nonneg _
  have q0:=cell_at (HRow.out _ hB.out) 0
  simp only[sl7,sl8]at q0
  by_cases hlt:j<p.rs.length
  ·obtain⟨s,hs⟩:∃s,p.rs[j]? =some s:=⟨_,List.getElem?_eq_getElem hlt⟩
   obtain⟨rb,ro,hda,hrb,hrow⟩:=(HI.out _ hB.out).rrow (by intro h0;rw[h0]at hlt;simp at hlt)
   obtain⟨z0,z1⟩:=hrow j s hs
   have hC1:=hC.out
   rw[idxFrom_step Re.nm p.rs j s hs]at hC1
   have p1:(j:Int)<(p.rs.length:Int):=by omega
   obtain⟨rnm,rd,rfs⟩:=s
   dsimp only at z0 z1 hC1
   clear hrow hs hC
   rw[hda]at q0
   exact qfa25_2
  ·obtain rfl:j=p.rs.length:=by omega
   obtain rfl:(-1:Int)=R:=by have h:=hC.out;rw[idxFrom_len]at h;exact h
   have HZ:=Lib.hid (HBw.out _ hB.out)
   clear hC
   go_wp2_with fail
   go_ret
   exact⟨rfl,HZ.out⟩
set_option maxHeartbeats 4000000 in
set_option maxRecDepth 100000 in
theorem rfunc5_any (p:Pr) (nm:List UInt8) (w:World) (hI:PrIn w w.heap.size p):
  Calls Tryz.prog 177 #[p.val,.string ⟨nm.toArray⟩] w fun e w'=>e=.returned (.int .i64 (plI (funOf p nm)))∧Below w.heap.size w w':=by
 obtain⟨R,hR⟩:∃R,plI (funOf p nm)=R:=⟨_,rfl⟩
 rw[hR]
 have HR:Hid (plI (idxFrom Fu.nm p.fs 0 nm)=R):=Lib.hid (by rw[idxFrom_zero];exact hR)
 obtain⟨X,hX⟩:∃X,w.heap.size=X:=⟨_,rfl⟩
 obtain⟨w1,hw1⟩:∃w1,w.alloc (prObj p)=w1:=⟨_,rfl⟩
 have hb1:Below w.heap.size w w1:=by rw[←hw1];exact (Below.refl _ _).alloc (Nat.le_refl _) _
 have x1:w1.heap[X]? =some (prObj p):=by rw[←hw1,←hX];exact heap_alloc_new w _
 have HI:Hid (∀W,Below w1.heap.size w1 W→PrIn W w.heap.size p):=Lib.hid fun W hb=>hI.keep (hb1.trans (hb.mono hb1.size)) (Nat.le_refl _)
 have HBw:Hid (∀W,Below w1.heap.size w1 W→Below w.heap.size w W):=Lib.hid fun W hb=>hb1.trans (hb.mono hb1.size)
 have HRow:Hid (∀W,Below w1.heap.size w1 W→W.heap[X]? =some (prObj p)):=Lib.hid fun W hb=>(hb.block X (lt_blk x1)).trans x1
 have HN:Hid (w.heap.size=X∧w.alloc (prObj p)=w1):=Lib.hid ⟨hX,hw1⟩
 have hRl:p.fs.length≤140737488355328:=hI.flen
 clear hR hX hw1 hb1 x1 hI
 dsimp only[Pr.val]
 go_enter Tryz.func177,Tryz.ntmps177
 go_wp2_with fail
 simp only[HN.out.1,HN.out.2]
 go_loopw [5] (fun ii wr=>∃(j:Nat),ii=.int .i64 j∧j≤p.fs.length∧Hid (Below w1.heap.size w1 wr)∧Hid (plI (idxFrom Fu.nm p.fs j nm)=R)) (fun ii _=>p.fs.length - (intOf ii).toNat)
 case atStart=>exact⟨0,rfl,Nat.zero_le _,Lib.hid (Below.refl _ _),HR⟩
 case round=>
  obtain⟨j,rfl,hj,hB,hC⟩:=hrel
  clear HR
  have p2:(0:Int)≤(j:Int):=Int.natCast_nonneg _
  have q2:=cell_at (HRow.out _ hB.out) 2
  simp only[sl7,sl8,sl9]at q2
  by_cases hlt:j<p.fs.length
  ·obtain⟨s,hs⟩:∃s,p.fs[j]? =some s:=⟨_,List.getElem?_eq_getElem hlt⟩
   obtain⟨rb,ro,hda,hrb,hrow⟩:=(HI.out _ hB.out).frow (by intro h0;rw[h0]at hlt;simp at hlt)
   obtain⟨z0,-⟩:=hrow j s hs
   have hC1:=hC.out
   rw[idxFrom_step Fu.nm p.fs j s hs]at hC1
   have p1:(j:Int)<(p.fs.length:Int):=by omega
   generalize Fu.nm s=rnm at z0 hC1
   clear hrow hs hC
   rw[hda]at q2
   exact qfa25_2
  ·obtain rfl:j=p.fs.length:=by omega
   obtain rfl:(-1:Int)=R:=by have h:=hC.out;rw[idxFrom_len]at h;exact h
   have HZ:=Lib.hid (HBw.out _ hB.out)
   clear hC
   go_wp2_with fail
   go_ret
   exact⟨rfl,HZ.out⟩
def tyO (o:Option Ty):Ty:=o.getD ty0
theorem fieldOf_drop (l:List Fl) (j:Nat) (x:Fl) (h:l[j]? =some x) (nm:List UInt8):fieldOf (l.drop j) nm=if nm=x.nm then some x.t else fieldOf (l.drop (j+1)) nm:=fieldFrom_step l j x h nm
set_option maxHeartbeats 4000000 in
set_option maxRecDepth 100000 in
theorem rfield5_any (d:Hd) (l:List Fl) (nm:List UInt8) (w:World) (hI:FlsIn w w.heap.size d l):
  Calls Tryz.prog 84 #[.slice d.a l.length d.c,.string ⟨nm.toArray⟩] w fun e w'=>e=.returned (.tuple #[(tyO (fieldOf l nm)).val,.bool (fieldOf l nm).isSome])∧Below w.heap.size w w':=by
 obtain⟨R,hR⟩:∃R,fieldOf l nm=R:=⟨_,rfl⟩
 rw[hR]
 have HR:Hid (fieldOf (l.drop 0) nm=R):=Lib.hid hR
 obtain⟨X,hX⟩:∃X,w.heap.size=X:=⟨_,rfl⟩
 obtain⟨w1,hw1⟩:∃w1,w.alloc (.cells #[.int .u8 0,.string ⟨#[]⟩,.int .i64 0] 39 (0,0))=w1:=⟨_,rfl⟩
 have hb1:Below w.heap.size w w1:=by rw[←hw1];exact (Below.refl _ _).alloc (Nat.le_refl _) _
 have x1:w1.heap[X]? =some (.cells #[.int .u8 0,.string ⟨#[]⟩,.int .i64 0] 39 (0,0)):=by rw[←hw1,←hX];exact heap_alloc_new w _
 have HI:Hid (∀W,Below w1.heap.size w1 W→FlsIn W w.heap.size d l):=Lib.hid fun W hb=>hI.keep (hb1.trans (hb.mono hb1.size)) (Nat.le_refl _)
 have HBw:Hid (∀W,Below w1.heap.size w1 W→Below w.heap.size w W):=Lib.hid fun W hb=>hb1.trans (hb.mono hb1.size)
 have HRow:Hid (∀W,Below w1.heap.size w1 W→W.heap[X]? =some (.cells #[.int .u8 0,.string ⟨#[]⟩,.int .i64 0] 39 (0,0))):=Lib.hid fun W hb=>(hb.block X (lt_blk x1)).trans x1
 have HN:Hid (w.heap.size=X∧w.alloc (.cells #[.int .u8 0,.string ⟨#[]⟩,.int .i64 0] 39 (0,0))=w1):=Lib.hid ⟨hX,hw1⟩
 have HXl:Hid (w.heap.size≤X):=Lib.hid (by omega)
 have hRl:l.length≤140737488355328:=hI.len
 clear hR hX hw1 hb1 x1 hI
 go_enter Tryz.func84,Tryz.ntmps84
 go_wp2_with fail
 simp only[HN.out.1,HN.out.2]
 go_loopw [6] (fun ii wr=>∃(j:Nat),ii=.int .i64 j∧j≤l.length∧Hid (Below w1.heap.size w1 wr)∧Hid (fieldOf (l.drop j) nm=R)) (fun ii _=>l.length - (intOf ii).toNat)
 case atStart=>exact⟨0,rfl,Nat.zero_le _,Lib.hid (Below.refl _ _),HR⟩
 case round=>
  obtain⟨j,rfl,hj,hB,hC⟩:=hrel
  clear HR
  have p2:(0:Int)≤(j:Int):=Int.natCast_nonneg _
  have y8:=HRow.out _ hB.out
  have c0:=cell_at y8 0
  have c1:=cell_at y8 1
  have c2:=cell_at y8 2
  have f0:=frz_at y8 0
  have f1:=frz_at y8 1
  have f2:=frz_at y8 2
  simp only[sl7,sl8,sl9]at c0 c1 c2
  by_cases hlt:j<l.length
  ·obtain⟨s,hs⟩:∃s,l[j]? =some s:=⟨_,List.getElem?_eq_getElem hlt⟩
   obtain⟨rb,ro,hda,hrb,hrow⟩:=(HI.out _ hB.out).row (by intro h0;rw[h0]at hlt;simp at hlt)
   obtain⟨z0,z1,z2,z3⟩:=hrow j s hs
   have hC1:=hC.out
   rw[fieldOf_drop l j s hs]at hC1
   have p1:(j:Int)<(l.length:Int):=by omega
   obtain⟨rnm,⟨k,tn,n⟩⟩:=s
   dsimp only at z0 z1 z2 z3 hC1
   clear hrow hs hC
   rw[hda]
   by_cases hnm:rnm=nm
   ·subst hnm
    obtain rfl:some (⟨k,tn,n⟩:Ty)=R:=by rw[if_pos rfl]at hC1;exact hC1
    have r2:=row_set (row_set (row_set y8 0 (.int .u8 k)) 1 (.string ⟨tn.toArray⟩)) 2 (.int .i64 n)
    have g0:=cell_at r2 0
    have g1:=cell_at r2 1
    have g2:=cell_at r2 2
    simp at g0 g1 g2
    have HZ:Hid (Below w.heap.size w (((wr.setCell ⟨X,0,none⟩ (.int .u8 k)).setCell ⟨X,1,none⟩ (.string ⟨tn.toArray⟩)).setCell ⟨X,2,none⟩ (.int .i64 n))):=Lib.hid ((((HBw.out _ hB.out).setCell (p:=⟨X,0,none⟩) HXl.out _).setCell (p:=⟨X,1,none⟩) HXl.out _).setCell (p:=⟨X,2,none⟩) HXl.out _)
    clear hC1 y8 r2 hB
    go_wp2_with fail
    refine bodyPost_ret (v:=.tuple #[.agg #[.int .u8 k,.string ⟨tn.toArray⟩,.int .i64 n],.bool true]) (by simp[results,Tryz.results84,go_sem,g0,g1,g2]) rfl ?_
    exact⟨rfl,HZ.out⟩
   ·rw[if_neg (fun h=>hnm h.symm)]at hC1
    have HC1:=Lib.hid hC1
    have e1:(rnm==nm)=false:=by simpa using hnm
    clear hC1 y8 c0 c1 c2 f0 f1 f2
    go_wp2_with fail
    go_roundw
    case rel=>exact⟨j+1,by go_num,by omega,hB,HC1⟩
    case measure=>simp[intOf];omega
  ·obtain rfl:j=l.length:=by omega
   obtain rfl:(none:Option Ty)=R:=by have h:=hC.out;rw[List.drop_length]at h;exact h
   have r2:=row_set (row_set (row_set y8 0 (.int .u8 0)) 1 (.string ⟨#[]⟩)) 2 (.int .i64 0)
   have g0:=cell_at r2 0
   have g1:=cell_at r2 1
   have g2:=cell_at r2 2
   simp at g0 g1 g2
   have HZ:Hid (Below w.heap.size w (((wr.setCell ⟨X,0,none⟩ (.int .u8 0)).setCell ⟨X,1,none⟩ (.string ⟨#[]⟩)).setCell ⟨X,2,none⟩ (.int .i64 0))):=Lib.hid ((((HBw.out _ hB.out).setCell (p:=⟨X,0,none⟩) HXl.out _).setCell (p:=⟨X,1,none⟩) HXl.out _).setCell (p:=⟨X,2,none⟩) HXl.out _)
   clear hC y8 r2 hB
   go_wp2_with fail
   refine bodyPost_ret (v:=.tuple #[.agg #[.int .u8 0,.string ⟨#[]⟩,.int .i64 0],.bool false]) (by simp[results,Tryz.results84,go_sem,g0,g1,g2]) rfl ?_
   exact⟨rfl,HZ.out⟩
theorem known_eq (p:Pr) (t:Ty):knownT p t=(t.nm.isEmpty||decide (0≤plI (recOf p t.nm))):=by
 unfold knownT plI
 cases recOf p t.nm with
 |none=>simp
 |some i=>simp
set_option maxHeartbeats 4000000 in
set_option maxRecDepth 100000 in
theorem rknown5_any (p:Pr) (t:Ty) (w:World) (hI:PrIn w w.heap.size p):
  Calls Tryz.prog 86 #[p.val,t.val] w fun e w'=>e=.returned (.bool (knownT p t))∧Below w.heap.size w w':=by
 obtain⟨k,nm,n⟩:=t
 have HB0:=Lib.hid (rb2 w)
 have CR:Hid (∀W,Below w.heap.size w W→Calls Tryz.prog 58 #[p.val,.string ⟨nm.toArray⟩] W fun e w'=>e=.returned (.int .i64 (plI (recOf p nm)))∧Below W.heap.size W w'):=Lib.hid fun W hb=>rrecord5_any p nm W (hI.keep hb hb.size)
 have HE:Hid (∀v,knownT p ⟨k,nm,n⟩=v→Ending.returned (.bool v)=.returned (.bool (knownT p ⟨k,nm,n⟩))):=Lib.hid fun v h=>by rw[h]
 have HF:=Lib.hid (known_eq p ⟨k,nm,n⟩)
 dsimp only at HF
 generalize plI (recOf p nm)=z at*
 clear hI
 dsimp only[Pr.val,Ty.val]at CR ⊢
 go_enter Tryz.func86,Tryz.ntmps86
 go_wp2_with (go_at_call 58;refine (CR.out _ (HB0.out _ _)).mono ?_;rintro e w1 ⟨rfl,hb1⟩;have HB1:=Lib.hid ((HB0.out _ _).trans (hb1.mono (HB0.out _ _).size));clear hb1)
 all_goals
  go_ret
  refine⟨HE.out _ ?_,by first|exact HB1.out|exact HB0.out _ _⟩
  first|(rw[HF.out];done)|(rw[HF.out];clear HF HE CR;simp_all;done)|(rw[HF.out];clear HF HE CR;simp_all;rw[Bool.eq_iff_iff];simp;done)|(rw[HF.out];clear HF HE CR;simp_all;rw[Bool.eq_iff_iff];simp;omega)
end Go.Proofs.YtkklogikakcanaaGreatDoor
namespace Go.Proofs.YtkklogikakcanaaGreatDoor
open Go Go.RowKit
abbrev ofZero:Obj:=.cells #[.bool false,.int .u8 0,.string ⟨([]:List UInt8).toArray⟩,.int .i64 0] 188 (0,0)
abbrev envV (p:Pr) (d:Hd) (n:Nat):Value:=.agg #[.slice p.rd.a p.rs.length p.rd.c,.slice p.sd.a p.ss.length p.sd.c,.slice p.fd.a p.fs.length p.fd.c,.slice p.td.a p.ts.length p.td.c,.slice d.a n d.c]
abbrev envObj (p:Pr) (d:Hd) (n:Nat):Obj:=.cells #[.slice p.rd.a p.rs.length p.rd.c,.slice p.sd.a p.ss.length p.sd.c,.slice p.fd.a p.fs.length p.fd.c,.slice p.td.a p.ts.length p.td.c,.slice d.a n d.c] 81 (0,0)
structure ResO (X:Nat) (b:Bool) (k:Int) (nm:List UInt8) (n:Int) (W:World):Prop where
 f0:W.frozen? ⟨X,0,none⟩=false
 f1:W.frozen? ⟨X,1,none⟩=false
 f2:W.frozen? ⟨X,2,none⟩=false
 f3:W.frozen? ⟨X,3,none⟩=false
 c0:W.cell? ⟨X,0,none⟩=some (.bool false)
 c1:W.cell? ⟨X,1,none⟩=some (.int .u8 0)
 c2:W.cell? ⟨X,2,none⟩=some (.string ⟨([]:List UInt8).toArray⟩)
 c3:W.cell? ⟨X,3,none⟩=some (.int .i64 0)
 y0:((((W.setCell ⟨X,0,none⟩ (.bool b)).setCell ⟨X,1,none⟩ (.int .u8 k)).setCell ⟨X,2,none⟩ (.string ⟨nm.toArray⟩)).setCell ⟨X,3,none⟩ (.int .i64 n)).cell? ⟨X,0,none⟩=some (.bool b)
 y1:((((W.setCell ⟨X,0,none⟩ (.bool b)).setCell ⟨X,1,none⟩ (.int .u8 k)).setCell ⟨X,2,none⟩ (.string ⟨nm.toArray⟩)).setCell ⟨X,3,none⟩ (.int .i64 n)).cell? ⟨X,1,none⟩=some (.int .u8 k)
 y2:((((W.setCell ⟨X,0,none⟩ (.bool b)).setCell ⟨X,1,none⟩ (.int .u8 k)).setCell ⟨X,2,none⟩ (.string ⟨nm.toArray⟩)).setCell ⟨X,3,none⟩ (.int .i64 n)).cell? ⟨X,2,none⟩=some (.string ⟨nm.toArray⟩)
 y3:((((W.setCell ⟨X,0,none⟩ (.bool b)).setCell ⟨X,1,none⟩ (.int .u8 k)).setCell ⟨X,2,none⟩ (.string ⟨nm.toArray⟩)).setCell ⟨X,3,none⟩ (.int .i64 n)).cell? ⟨X,3,none⟩=some (.int .i64 n)
theorem resO {X:Nat} {W:World} (hz:W.heap[X]? =some ofZero) (b:Bool) (k:Int) (nm:List UInt8) (n:Int):ResO X b k nm n W:=by
 have h:=row_set (row_set (row_set (row_set hz 0 (.bool b)) 1 (.int .u8 k)) 2 (.string ⟨nm.toArray⟩)) 3 (.int .i64 n)
 exact⟨frz_at hz 0,frz_at hz 1,frz_at hz 2,frz_at hz 3,cell_at hz 0,cell_at hz 1,cell_at hz 2,cell_at hz 3,cell_at h 0,cell_at h 1,cell_at h 2,cell_at h 3⟩
theorem resOB {B X:Nat} {w W:World} (h:Below B w W) (hX:B≤X) (u0 u1 u2 u3:Value):Below B w ((((W.setCell ⟨X,0,none⟩ u0).setCell ⟨X,1,none⟩ u1).setCell ⟨X,2,none⟩ u2).setCell ⟨X,3,none⟩ u3):=
 (((h.setCell (p:=⟨X,0,none⟩) hX u0).setCell (p:=⟨X,1,none⟩) hX u1).setCell (p:=⟨X,2,none⟩) hX u2).setCell (p:=⟨X,3,none⟩) hX u3
def ofO (o:Option Ty) (e:Int):Srt×Int:=match o with|some t=>(⟨t,false⟩,0)|none=>(srt0,e)
abbrev tyBox (k:Int) (nm:List UInt8) (n:Int):Obj:=.cells #[.int .u8 k,.string ⟨nm.toArray⟩,.int .i64 n] 39 (0,0)
set_option maxHeartbeats 8000000 in
set_option maxRecDepth 100000 in
theorem rname5_any (p:Pr) (d:Hd) (L:List Fl) (nm:List UInt8) (w:World) (hI:PrIn w w.heap.size p) (hL:FlsIn w w.heap.size d L):
  Calls Tryz.prog 162 #[envV p d L.length,.string ⟨nm.toArray⟩] w fun e w'=>
   e=.returned (.tuple #[OfV (ofO ((fieldOf L nm).or (shOf p nm)) 9).1,.int .i64 (ofO ((fieldOf L nm).or (shOf p nm)) 9).2])∧Below w.heap.size w w':=by
 obtain⟨X,hX⟩:∃X,w.heap.size=X:=⟨_,rfl⟩
 obtain⟨w1,hw1⟩:∃w1,w.alloc (envObj p d L.length)=w1:=⟨_,rfl⟩
 obtain⟨w2,hw2⟩:∃w2,w1.alloc ofZero=w2:=⟨_,rfl⟩
 have hs1:w1.heap.size=X+1:=by rw[←hw1,World.size_alloc,hX]
 have hb1:Below w.heap.size w w1:=by rw[←hw1];exact (Below.refl _ _).alloc (Nat.le_refl _) _
 have hb2:Below w1.heap.size w1 w2:=by rw[←hw2];exact (Below.refl _ _).alloc (Nat.le_refl _) _
 have hb12:Below w.heap.size w w2:=hb1.trans (hb2.mono hb1.size)
 have x1:w2.heap[X]? =some (envObj p d L.length):=(hb2.block X (by omega)).trans (by rw[←hw1,←hX];exact heap_alloc_new w _)
 have x2:w2.heap[X+1]? =some ofZero:=by rw[←hw2,←hs1];exact heap_alloc_new w1 _
 have HBw:Hid (∀W,Below w2.heap.size w2 W→Below w.heap.size w W):=Lib.hid fun W hb=>hb12.trans (hb.mono hb12.size)
 have HRow:Hid (∀W,Below w2.heap.size w2 W→W.heap[X]? =some (envObj p d L.length)):=Lib.hid fun W hb=>(hb.block X (lt_blk x1)).trans x1
 have HZz:Hid (∀W,Below w2.heap.size w2 W→W.heap[X+1]? =some ofZero):=Lib.hid fun W hb=>(hb.block (X+1) (lt_blk x2)).trans x2
 have HXl:Hid (w.heap.size≤X+1):=Lib.hid (by omega)
 have HXs:Hid (X+1<w2.heap.size):=Lib.hid (lt_blk x2)
 have CL:Hid (∀W,Below w.heap.size w W→Calls Tryz.prog 84 #[.slice d.a L.length d.c,.string ⟨nm.toArray⟩] W fun e w'=>e=.returned (.tuple #[(tyO (fieldOf L nm)).val,.bool (fieldOf L nm).isSome])∧Below W.heap.size W w'):=Lib.hid fun W hb=>rfield5_any d L nm W (hL.keep hb hb.size)
 have CS:Hid (∀W,Below w.heap.size w W→Calls Tryz.prog 84 #[.slice p.sd.a p.ss.length p.sd.c,.string ⟨nm.toArray⟩] W fun e w'=>e=.returned (.tuple #[(tyO (shOf p nm)).val,.bool (shOf p nm).isSome])∧Below W.heap.size W w'):=Lib.hid fun W hb=>rfield5_any p.sd p.ss nm W (hI.ss.keep hb hb.size)
 have HN:Hid ((w.alloc (envObj p d L.length)).alloc ofZero=w2∧w.heap.size=X):=Lib.hid ⟨by rw[hw1,hw2],hX⟩
 have q4:=cell_at x1 4
 simp only[sl7,sl8,sl9]at q4
 rw[←hw2,←hw1,←hX]at q4
 have HB12:=Lib.hid hb12
 clear hw1 hw2 hs1 hb1 hb2 hb12 x1 x2 hI hL hX
 generalize shOf p nm=S at*
 cases hfl:fieldOf L nm with
 |some t=>
  obtain⟨k,tn,n⟩:=t
  rw[hfl]at CL
  clear hfl
  dsimp only[tyO,Option.getD,Option.isSome,Option.or,ofO,Ty.val]at CL ⊢
  go_enter Tryz.func162,Tryz.ntmps162
  go_wp2_with fail
  simp only[HN.out.1,HN.out.2]
  refine (CL.out w2 HB12.out).mono ?_
  rintro e w3 ⟨rfl,hb3⟩
  obtain⟨u,hu⟩:∃u,w3.alloc (tyBox k tn n)=u:=⟨_,rfl⟩
  have hbu:Below w2.heap.size w2 u:=by rw[←hu];exact hb3.alloc hb3.size _
  have HZ:=Lib.hid (HZz.out u hbu)
  have HB:=Lib.hid (HBw.out u hbu)
  have HU:=Lib.hid hu
  clear hb3 hbu q4
  obtain⟨f0,f1,f2,f3,c0,c1,c2,c3,y0,y1,y2,y3⟩:=resO HZ.out false (k) tn (n)
  have HF:=Lib.hid (resOB HB.out HXl.out (.bool false) (.int .u8 (k)) (.string ⟨(tn).toArray⟩) (.int .i64 (n)))
  rw[←hu]at f0 f1 f2 f3 c0 c1 c2 c3 y0 y1 y2 y3;clear hu
  exact qfa25_7
 |none=>
  rw[hfl]at CL
  clear hfl
  dsimp only[tyO,Option.getD,Option.isSome,Option.or,Ty.val,ty0]at CL ⊢
  cases S with
  |some t=>
   obtain⟨k,tn,n⟩:=t
   dsimp only[tyO,Option.getD,Option.isSome,ofO,Ty.val]at CS ⊢
   go_enter Tryz.func162,Tryz.ntmps162
   go_wp2_with fail
   simp only[HN.out.1,HN.out.2]
   refine (CL.out w2 HB12.out).mono ?_
   rintro e w3 ⟨rfl,hb3⟩
   obtain⟨Y,hY⟩:∃Y,w3.heap.size=Y:=⟨_,rfl⟩
   obtain⟨u,hu⟩:∃u,w3.alloc (tyBox 0 [] 0)=u:=⟨_,rfl⟩
   have hbu:Below w2.heap.size w2 u:=by rw[←hu];exact hb3.alloc hb3.size _
   have yu:u.heap[Y]? =some (tyBox 0 [] 0):=by rw[←hu,←hY];exact heap_alloc_new w3 _
   have q1:=cell_at (HRow.out u hbu) 1
   simp only[sl7,sl8,sl9]at q1
   rw[←hu]at q1
   have HBu:=Lib.hid hbu
   have HYu:=Lib.hid yu
   have HU1:=Lib.hid (And.intro hu hY)
   have HYs:Hid (w2.heap.size≤Y):=Lib.hid (by have:=hb3.size;omega)
   clear hb3 hbu q4 hu yu hY
   go_wp2_with fail
   simp only[HU1.out.1,HU1.out.2]
   clear q1
   refine (CS.out u (HBw.out u HBu.out)).mono ?_
   rintro e w5 ⟨rfl,hb5⟩
   have y5:=(hb5.block Y (lt_blk HYu.out)).trans HYu.out
   have hB5:Below w2.heap.size w2 w5:=HBu.out.trans (hb5.mono HBu.out.size)
   have g0:=cell_at y5 0
   have g1:=cell_at y5 1
   have g2:=cell_at y5 2
   have e0:=frz_at y5 0
   have e1:=frz_at y5 1
   have e2:=frz_at y5 2
   have r5:=row_set (row_set (row_set y5 0 (.int .u8 k)) 1 (.string ⟨tn.toArray⟩)) 2 (.int .i64 n)
   have k0:=cell_at r5 0
   have k1:=cell_at r5 1
   have k2:=cell_at r5 2
   simp at g0 g1 g2 k0 k1 k2
   obtain⟨u2,hu2⟩:∃u2,((w5.setCell ⟨Y,0,none⟩ (.int .u8 k)).setCell ⟨Y,1,none⟩ (.string ⟨tn.toArray⟩)).setCell ⟨Y,2,none⟩ (.int .i64 n)=u2:=⟨_,rfl⟩
   have hbu2:Below w2.heap.size w2 u2:=by
    rw[←hu2]
    exact ((hB5.setCell (p:=⟨Y,0,none⟩) HYs.out _).setCell (p:=⟨Y,1,none⟩) HYs.out _).setCell (p:=⟨Y,2,none⟩) HYs.out _
   have HZ:=Lib.hid (HZz.out u2 hbu2)
   have HB:=Lib.hid (HBw.out u2 hbu2)
   have HU:=Lib.hid hu2
   clear y5 r5 hb5 hB5 hbu2
   obtain⟨f0,f1,f2,f3,c0,c1,c2,c3,y0,y1,y2,y3⟩:=resO HZ.out false (k) tn (n)
   have HF:=Lib.hid (resOB HB.out HXl.out (.bool false) (.int .u8 (k)) (.string ⟨(tn).toArray⟩) (.int .i64 (n)))
   rw[←hu2]at f0 f1 f2 f3 c0 c1 c2 c3 y0 y1 y2 y3;clear hu2
   exact qfa25_7
  |none=>
   dsimp only[tyO,Option.getD,Option.isSome,ofO,Ty.val,ty0,srt0]at CS ⊢
   go_enter Tryz.func162,Tryz.ntmps162
   go_wp2_with fail
   simp only[HN.out.1,HN.out.2]
   refine (CL.out w2 HB12.out).mono ?_
   rintro e w3 ⟨rfl,hb3⟩
   obtain⟨Y,hY⟩:∃Y,w3.heap.size=Y:=⟨_,rfl⟩
   obtain⟨u,hu⟩:∃u,w3.alloc (tyBox 0 [] 0)=u:=⟨_,rfl⟩
   have hbu:Below w2.heap.size w2 u:=by rw[←hu];exact hb3.alloc hb3.size _
   have yu:u.heap[Y]? =some (tyBox 0 [] 0):=by rw[←hu,←hY];exact heap_alloc_new w3 _
   have q1:=cell_at (HRow.out u hbu) 1
   simp only[sl7,sl8,sl9]at q1
   rw[←hu]at q1
   have HBu:=Lib.hid hbu
   have HYu:=Lib.hid yu
   have HU1:=Lib.hid (And.intro hu hY)
   have HYs:Hid (w2.heap.size≤Y):=Lib.hid (by have:=hb3.size;omega)
   clear hb3 hbu q4 hu yu hY
   go_wp2_with fail
   simp only[HU1.out.1,HU1.out.2]
   clear q1
   refine (CS.out u (HBw.out u HBu.out)).mono ?_
   rintro e w5 ⟨rfl,hb5⟩
   have y5:=(hb5.block Y (lt_blk HYu.out)).trans HYu.out
   have hB5:Below w2.heap.size w2 w5:=HBu.out.trans (hb5.mono HBu.out.size)
   have g0:=cell_at y5 0
   have g1:=cell_at y5 1
   have g2:=cell_at y5 2
   have e0:=frz_at y5 0
   have e1:=frz_at y5 1
   have e2:=frz_at y5 2
   simp at g0 g1 g2
   obtain⟨u2,hu2⟩:∃u2,((w5.setCell ⟨Y,0,none⟩ (.int .u8 0)).setCell ⟨Y,1,none⟩ (.string ⟨([]:List UInt8).toArray⟩)).setCell ⟨Y,2,none⟩ (.int .i64 0)=u2:=⟨_,rfl⟩
   have hbu2:Below w2.heap.size w2 u2:=by
    rw[←hu2]
    exact ((hB5.setCell (p:=⟨Y,0,none⟩) HYs.out _).setCell (p:=⟨Y,1,none⟩) HYs.out _).setCell (p:=⟨Y,2,none⟩) HYs.out _
   have HZ:=Lib.hid (HZz.out u2 hbu2)
   have HB:=Lib.hid (HBw.out u2 hbu2)
   have HU:=Lib.hid hu2
   clear y5 hb5 hB5 hbu2
   obtain⟨f0,f1,f2,f3,c0,c1,c2,c3,y0,y1,y2,y3⟩:=resO HZ.out false (0) ([]:List UInt8) (0)
   have HF:=Lib.hid (resOB HB.out HXl.out (.bool false) (.int .u8 (0)) (.string ⟨(([]:List UInt8)).toArray⟩) (.int .i64 (0)))
   rw[←hu2]at f0 f1 f2 f3 c0 c1 c2 c3 y0 y1 y2 y3;clear hu2
   go_wp2_with fail
   refine bodyPost_ret (v:=.tuple #[.agg #[.bool false,.int .u8 (0),.string ⟨(([]:List UInt8)).toArray⟩,.int .i64 (0)],.int .i64 9]) (by simp[results,Tryz.results162,go_sem,y0,y1,y2,y3]) rfl ?_
   exact qfa25_5
end Go.Proofs.YtkklogikakcanaaGreatDoor
namespace Go.Proofs.YtkklogikakcanaaGreatDoor
open Go Go.RowKit
theorem get_of_idx {α:Type} {f:α→List UInt8} {nm:List UInt8} {l:List α} {i:Nat} (h:idxOf f nm l=some i):∃x,l[i]? =some x:=⟨_,List.getElem?_eq_getElem (idxOf_lt f nm l i h)⟩
def fieldV (p:Pr) (s:Srt) (nm:List UInt8):Srt×Int:=
 if s.null=true∨s.t.k≠2 then (srt0,10) else match recOf p s.t.nm with
 |none=>(srt0,9)
 |some i=>ofO (fieldOf ((p.rs.map Re.fs).getD i []) nm) 9
abbrev ofObj (s:Srt):Obj:=.cells #[.bool s.null,.int .u8 s.t.k,.string ⟨s.t.nm.toArray⟩,.int .i64 s.t.n] 188 (0,0)
set_option maxHeartbeats 8000000 in
set_option maxRecDepth 100000 in
theorem rfieldv5_any (p:Pr) (d:Hd) (m:Nat) (s:Srt) (nm:List UInt8) (w:World) (hI:PrIn w w.heap.size p):
  Calls Tryz.prog 163 #[envV p d m,OfV s,.string ⟨nm.toArray⟩] w fun e w'=>
   e=.returned (.tuple #[OfV (fieldV p s nm).1,.int .i64 (fieldV p s nm).2])∧Below w.heap.size w w':=by
 obtain⟨⟨k,tn,n⟩,nl⟩:=s
 obtain⟨X,hX⟩:∃X,w.heap.size=X:=⟨_,rfl⟩
 obtain⟨w1,hw1⟩:∃w1,w.alloc (envObj p d m)=w1:=⟨_,rfl⟩
 obtain⟨wa,hwa⟩:∃wa,w1.alloc (ofObj ⟨⟨k,tn,n⟩,nl⟩)=wa:=⟨_,rfl⟩
 obtain⟨w2,hw2⟩:∃w2,wa.alloc ofZero=w2:=⟨_,rfl⟩
 have hs1:w1.heap.size=X+1:=by rw[←hw1,World.size_alloc,hX]
 have hsa:wa.heap.size=X+1+1:=by rw[←hwa,World.size_alloc,hs1]
 have hb1:Below w.heap.size w w1:=by rw[←hw1];exact (Below.refl _ _).alloc (Nat.le_refl _) _
 have hba:Below w1.heap.size w1 wa:=by rw[←hwa];exact (Below.refl _ _).alloc (Nat.le_refl _) _
 have hb2:Below wa.heap.size wa w2:=by rw[←hw2];exact (Below.refl _ _).alloc (Nat.le_refl _) _
 have hb1a:Below w.heap.size w wa:=hb1.trans (hba.mono hb1.size)
 have hb12:Below w.heap.size w w2:=hb1a.trans (hb2.mono hb1a.size)
 have x1:w2.heap[X]? =some (envObj p d m):=(hb2.block X (by omega)).trans ((hba.block X (by omega)).trans (by rw[←hw1,←hX];exact heap_alloc_new w _))
 have xa:w2.heap[X+1]? =some (ofObj ⟨⟨k,tn,n⟩,nl⟩):=(hb2.block (X+1) (by omega)).trans (by rw[←hwa,←hs1];exact heap_alloc_new w1 _)
 have x2:w2.heap[X+1+1]? =some ofZero:=by rw[←hw2,←hsa];exact heap_alloc_new wa _
 have HBw:Hid (∀W,Below w2.heap.size w2 W→Below w.heap.size w W):=Lib.hid fun W hb=>hb12.trans (hb.mono hb12.size)
 have HRow:Hid (∀W,Below w2.heap.size w2 W→W.heap[X]? =some (envObj p d m)):=Lib.hid fun W hb=>(hb.block X (lt_blk x1)).trans x1
 have HZz:Hid (∀W,Below w2.heap.size w2 W→W.heap[X+1+1]? =some ofZero):=Lib.hid fun W hb=>(hb.block (X+1+1) (lt_blk x2)).trans x2
 have HXl:Hid (w.heap.size≤X+1+1):=Lib.hid (by omega)
 have HI:Hid (∀W,Below w2.heap.size w2 W→PrIn W W.heap.size p):=Lib.hid fun W hb=>hI.keep (hb12.trans (hb.mono hb12.size)) (hb12.trans (hb.mono hb12.size)).size
 have HN:Hid (((w.alloc (envObj p d m)).alloc (ofObj ⟨⟨k,tn,n⟩,nl⟩)).alloc ofZero=w2∧w.heap.size=X):=Lib.hid ⟨by rw[hw1,hwa,hw2],hX⟩
 have q0:=cell_at x1 0
 have q1:=cell_at x1 1
 have q2:=cell_at x1 2
 have q3:=cell_at x1 3
 have a0:=cell_at xa 0
 have a1:=cell_at xa 1
 have a2:=cell_at xa 2
 simp only[sl7,sl8,sl9]at q0 q1 q2 q3 a0 a1 a2
 have HB0:Hid (Below w2.heap.size w2 w2):=Lib.hid (Below.refl _ _)
 have CR:Hid (∀W,Below w2.heap.size w2 W→Calls Tryz.prog 58 #[p.val,.string ⟨tn.toArray⟩] W fun e w'=>e=.returned (.int .i64 (plI (recOf p tn)))∧Below W.heap.size W w'):=Lib.hid fun W hb=>rrecord5_any p tn W (HI.out W hb)
 have HW2:Hid (((w.alloc (envObj p d m)).alloc (ofObj ⟨⟨k,tn,n⟩,nl⟩)).alloc ofZero=w2):=Lib.hid HN.out.1
 rw[←hw2,←hwa,←hw1,←hX]at q0 q1 q2 q3 a0 a1 a2
 clear hw1 hw2 hwa hs1 hsa hb1 hba hb2 hb1a hb12 x1 x2 xa hI hX
 dsimp only[OfV,Pr.val]at CR ⊢
 unfold fieldV
 dsimp only
 by_cases hn:nl=true∨k≠2
 ·rw[if_pos hn]
  dsimp only[srt0,ty0]
  have HU:Hid (((w.alloc (envObj p d m)).alloc (ofObj ⟨⟨k,tn,n⟩,nl⟩)).alloc ofZero=w2):=HN.out.1 |> Lib.hid
  cases nl with
  |true=>
   clear q0 q1 q2 q3 hn
   exact qfa25_1
  |false=>
   have hk:k≠2:=by simpa using hn
   have e1:(k != 2)=true:=by simpa using hk
   clear q0 q1 q2 q3 hn hk
   exact qfa25_1
 ·obtain rfl:k=2:=Decidable.byContradiction fun h=>hn (Or.inr h)
  obtain rfl:nl=false:=by cases nl with|false=>rfl|true=>exact absurd (Or.inl rfl) hn
  rw[if_neg hn]
  clear hn
  cases hr:recOf p tn with
  |none=>
   rw[hr]at CR
   dsimp only[plI,srt0,ty0]at CR ⊢
   clear hr
   go_enter Tryz.func163,Tryz.ntmps163
   go_wp2_with fail
   simp only[HN.out.1,HN.out.2]
   clear q0 q1 q2 q3 a0 a1 a2
   refine (CR.out w2 HB0.out).mono ?_
   rintro e w3 ⟨rfl,hb3⟩
   have HU:Hid (w3=w3):=Lib.hid rfl
   have HZ:=Lib.hid (HZz.out _ hb3)
   have HB:=Lib.hid (HBw.out _ hb3)
   obtain⟨f0,f1,f2,f3,c0,c1,c2,c3,y0,y1,y2,y3⟩:=resO HZ.out false 0 ([]:List UInt8) 0
   have HF:=Lib.hid (resOB HB.out HXl.out (.bool false) (.int .u8 0) (.string ⟨([]:List UInt8).toArray⟩) (.int .i64 0))
   clear hb3
   go_wp2_with fail
   refine bodyPost_ret (v:=.tuple #[.agg #[.bool false,.int .u8 0,.string ⟨([]:List UInt8).toArray⟩,.int .i64 0],.int .i64 9]) (by simp[results,Tryz.results163,go_sem,y0,y1,y2,y3]) rfl ?_
   exact qfa25_4
  |some i=>
   rw[hr]at CR
   dsimp only[plI]at CR ⊢
   obtain⟨r,hri⟩:=get_of_idx hr
   have hgd:(p.rs.map Re.fs).getD i []=r.fs:=by rw[List.getD_eq_getElem?_getD,List.getElem?_map,hri];rfl
   rw[hgd]
   have HRi:Hid (∀W,Below w2.heap.size w2 W→∃rb ro,W.cell? ⟨X,0,none⟩=some (.slice (some ⟨rb,ro,none⟩) p.rs.length p.rd.c)∧W.cell? ⟨rb,ro+i*2+1,none⟩=some (.slice r.d.a r.fs.length r.d.c)):=Lib.hid fun W hb=>by
    obtain⟨rb,ro,hda,-,hrow⟩:=(HI.out W hb).rrow (by intro h0;rw[h0]at hri;simp at hri)
    exact⟨rb,ro,by rw[←hda];exact cell_at (HRow.out W hb) 0,(hrow i r hri).c1⟩
   have CF:Hid (∀W,Below w2.heap.size w2 W→Calls Tryz.prog 84 #[.slice r.d.a r.fs.length r.d.c,.string ⟨nm.toArray⟩] W fun e w'=>e=.returned (.tuple #[(tyO (fieldOf r.fs nm)).val,.bool (fieldOf r.fs nm).isSome])∧Below W.heap.size W w'):=Lib.hid fun W hb=>rfield5_any r.d r.fs nm W ((HI.out W hb).rsub r (List.mem_of_getElem? hri)).fs
   have hil:=idxOf_lt Re.nm tn p.rs i hr
   have i0:(0:Int)≤(i:Int):=Int.natCast_nonneg _
   have i1:(i:Int)<(p.rs.length:Int):=by omega
   have i2:decide ((i:Int)<0)=false:=by simp
   clear hr hri hgd
   cases hfl:fieldOf r.fs nm with
   |some t=>
    obtain⟨k,tn2,n2⟩:=t
    rw[hfl]at CF
    clear hfl
    dsimp only[tyO,Option.getD,Option.isSome,ofO,Ty.val]at CF ⊢
    go_enter Tryz.func163,Tryz.ntmps163
    go_wp2_with fail
    simp only[HN.out.1,HN.out.2]
    clear q0 q1 q2 q3 a0 a1 a2
    refine (CR.out w2 HB0.out).mono ?_
    rintro e w3 ⟨rfl,hb3⟩
    obtain⟨rb,ro,q0,z1⟩:=HRi.out w3 hb3
    have HB3:=Lib.hid hb3
    clear hb3
    go_wp2_with fail
    refine (CF.out w3 HB3.out).mono ?_
    rintro e w4 ⟨rfl,hb4⟩
    obtain⟨u,hu⟩:∃u,w4.alloc (tyBox k tn2 n2)=u:=⟨_,rfl⟩
    have hbu:Below w2.heap.size w2 u:=by
     have hb:=HB3.out.trans (hb4.mono HB3.out.size)
     rw[←hu];exact hb.alloc hb.size _
    have HZ:=Lib.hid (HZz.out u hbu)
    have HB:=Lib.hid (HBw.out u hbu)
    have HU:=Lib.hid hu
    clear hb4 hbu q0 z1
    obtain⟨f0,f1,f2,f3,c0,c1,c2,c3,y0,y1,y2,y3⟩:=resO HZ.out false (k) tn2 (n2)
    have HF:=Lib.hid (resOB HB.out HXl.out (.bool false) (.int .u8 (k)) (.string ⟨(tn2).toArray⟩) (.int .i64 (n2)))
    rw[←hu]at f0 f1 f2 f3 c0 c1 c2 c3 y0 y1 y2 y3;clear hu
    go_wp2_with fail
    refine bodyPost_ret (v:=.tuple #[.agg #[.bool false,.int .u8 (k),.string ⟨(tn2).toArray⟩,.int .i64 (n2)],.int .i64 0]) (by simp[results,Tryz.results163,go_sem,y0,y1,y2,y3]) rfl ?_
    exact qfa25_5
   |none=>
    rw[hfl]at CF
    clear hfl
    dsimp only[tyO,Option.getD,Option.isSome,ofO,Ty.val,ty0,srt0]at CF ⊢
    go_enter Tryz.func163,Tryz.ntmps163
    go_wp2_with fail
    simp only[HN.out.1,HN.out.2]
    clear q0 q1 q2 q3 a0 a1 a2
    refine (CR.out w2 HB0.out).mono ?_
    rintro e w3 ⟨rfl,hb3⟩
    obtain⟨rb,ro,q0,z1⟩:=HRi.out w3 hb3
    have HB3:=Lib.hid hb3
    clear hb3
    go_wp2_with fail
    refine (CF.out w3 HB3.out).mono ?_
    rintro e w4 ⟨rfl,hb4⟩
    obtain⟨u,hu⟩:∃u,w4.alloc (tyBox 0 [] 0)=u:=⟨_,rfl⟩
    have hbu:Below w2.heap.size w2 u:=by
     have hb:=HB3.out.trans (hb4.mono HB3.out.size)
     rw[←hu];exact hb.alloc hb.size _
    have HZ:=Lib.hid (HZz.out u hbu)
    have HB:=Lib.hid (HBw.out u hbu)
    have HU:=Lib.hid hu
    clear hb4 hbu q0 z1
    obtain⟨f0,f1,f2,f3,c0,c1,c2,c3,y0,y1,y2,y3⟩:=resO HZ.out false (0) ([]:List UInt8) (0)
    have HF:=Lib.hid (resOB HB.out HXl.out (.bool false) (.int .u8 (0)) (.string ⟨(([]:List UInt8)).toArray⟩) (.int .i64 (0)))
    rw[←hu]at f0 f1 f2 f3 c0 c1 c2 c3 y0 y1 y2 y3;clear hu
    go_wp2_with fail
    refine bodyPost_ret (v:=.tuple #[.agg #[.bool false,.int .u8 (0),.string ⟨(([]:List UInt8)).toArray⟩,.int .i64 (0)],.int .i64 9]) (by simp[results,Tryz.results163,go_sem,y0,y1,y2,y3]) rfl ?_
    exact qfa25_5
end Go.Proofs.YtkklogikakcanaaGreatDoor
namespace Go.Proofs.YtkklogikakcanaaGreatDoor
open Go Go.RowKit
structure OfAt (w:World) (b o:Nat) (s:Srt):Prop where
 c0:w.cell? ⟨b,o,none⟩=some (.bool s.null)
 c1:w.cell? ⟨b,o+1,none⟩=some (.int .u8 s.t.k)
 c2:w.cell? ⟨b,o+2,none⟩=some (.string ⟨s.t.nm.toArray⟩)
 c3:w.cell? ⟨b,o+3,none⟩=some (.int .i64 s.t.n)
theorem OfAt.keep {w w':World} {b o:Nat} {s:Srt} (h:OfAt w b o s) (hk:∀o',w'.cell? ⟨b,o',none⟩=w.cell? ⟨b,o',none⟩):OfAt w' b o s:=
 ⟨(hk _).trans h.c0,(hk _).trans h.c1,(hk _).trans h.c2,(hk _).trans h.c3⟩
abbrev OfsIn (w:World) (B:Nat) (d:Hd) (ss:List Srt):Prop:=RowIn OfAt 4 w B d ss
theorem OfsIn.keep {w w':World} {B B':Nat} {d:Hd} {ss:List Srt} (h:OfsIn w B d ss) (hb:Below B w w') (hB:B≤B'):OfsIn w' B' d ss:=RowIn.keep (fun _ _ _ h hk=>h.keep hk) h hb hB
def fitsAll (ss:List Srt) (ps:List Fl):Bool:=(List.zipWith (fun s (f:Fl)=>s.fits f.t) ss ps).all id
theorem fitsAll_cons (s:Srt) (ss:List Srt) (f:Fl) (ps:List Fl):fitsAll (s::ss) (f::ps)=(s.fits f.t&&fitsAll ss ps):=by unfold fitsAll;simp
def callV (p:Pr) (nm:List UInt8) (ss:List Srt):Srt×Int:=
 match funOf p nm with
 |none=>(srt0,9)
 |some i=>
  if ss.length≠((p.fs.map Fu.ps).getD i []).length then (srt0,10)
  else if fitsAll ss ((p.fs.map Fu.ps).getD i []) then (⟨(p.fs.map Fu.t).getD i ty0,false⟩,0) else (srt0,10)
abbrev fuObj (f:Fu):Obj:=.cells #[.string ⟨f.nm.toArray⟩,.slice f.pd.a f.ps.length f.pd.c,.int .u8 f.t.k,.string ⟨f.t.nm.toArray⟩,.int .i64 f.t.n,.slice f.bd.a f.body.length f.bd.c] 53 (0,0)
abbrev FitS (lb lo Z rb ro j n pc:Nat) (s:Srt) (t:Ty) (W:World):Prop:=
 W.cell? ⟨lb,lo+j*4,none⟩=some (.bool s.null)∧W.cell? ⟨lb,lo+j*4+1,none⟩=some (.int .u8 s.t.k)∧W.cell? ⟨lb,lo+j*4+2,none⟩=some (.string ⟨s.t.nm.toArray⟩)∧W.cell? ⟨lb,lo+j*4+3,none⟩=some (.int .i64 s.t.n)∧
 W.cell? ⟨Z,1,none⟩=some (.slice (some ⟨rb,ro,none⟩) n pc)∧W.cell? ⟨rb,ro+j*4+1,none⟩=some (.int .u8 t.k)∧W.cell? ⟨rb,ro+j*4+2,none⟩=some (.string ⟨t.nm.toArray⟩)∧W.cell? ⟨rb,ro+j*4+3,none⟩=some (.int .i64 t.n)
theorem FitS.below {lb lo Z rb ro j n pc:Nat} {s:Srt} {t:Ty} {W W':World} (h:FitS lb lo Z rb ro j n pc s t W) (hb:Below W.heap.size W W'):FitS lb lo Z rb ro j n pc s t W':=by
 obtain⟨h0,h1,h2,h3,h4,h5,h6,h7⟩:=h
 exact⟨(hb.cell (World.block_lt_of_cell? _ _ h0)).trans h0,(hb.cell (World.block_lt_of_cell? _ _ h1)).trans h1,(hb.cell (World.block_lt_of_cell? _ _ h2)).trans h2,(hb.cell (World.block_lt_of_cell? _ _ h3)).trans h3,
  (hb.cell (World.block_lt_of_cell? _ _ h4)).trans h4,(hb.cell (World.block_lt_of_cell? _ _ h5)).trans h5,(hb.cell (World.block_lt_of_cell? _ _ h6)).trans h6,(hb.cell (World.block_lt_of_cell? _ _ h7)).trans h7⟩
set_option maxHeartbeats 8000000 in
set_option maxRecDepth 100000 in
theorem rcall5_any (p:Pr) (d:Hd) (m:Nat) (nm:List UInt8) (dl:Hd) (ss:List Srt) (w:World) (hI:PrIn w w.heap.size p) (hS:OfsIn w w.heap.size dl ss) (hsl:ss.length≤1000000):
  Calls Tryz.prog 164 #[envV p d m,.string ⟨nm.toArray⟩,.slice dl.a ss.length dl.c] w fun e w'=>
   e=.returned (.tuple #[OfV (callV p nm ss).1,.int .i64 (callV p nm ss).2])∧Below w.heap.size w w':=by
 obtain⟨X,hX⟩:∃X,w.heap.size=X:=⟨_,rfl⟩
 obtain⟨w1,hw1⟩:∃w1,w.alloc (envObj p d m)=w1:=⟨_,rfl⟩
 obtain⟨w2,hw2⟩:∃w2,w1.alloc ofZero=w2:=⟨_,rfl⟩
 have hs1:w1.heap.size=X+1:=by rw[←hw1,World.size_alloc,hX]
 have hb1:Below w.heap.size w w1:=by rw[←hw1];exact (Below.refl _ _).alloc (Nat.le_refl _) _
 have hb2:Below w1.heap.size w1 w2:=by rw[←hw2];exact (Below.refl _ _).alloc (Nat.le_refl _) _
 have hb12:Below w.heap.size w w2:=hb1.trans (hb2.mono hb1.size)
 have x1:w2.heap[X]? =some (envObj p d m):=(hb2.block X (by omega)).trans (by rw[←hw1,←hX];exact heap_alloc_new w _)
 have x2:w2.heap[X+1]? =some ofZero:=by rw[←hw2,←hs1];exact heap_alloc_new w1 _
 have HBw:Hid (∀W,Below w2.heap.size w2 W→Below w.heap.size w W):=Lib.hid fun W hb=>hb12.trans (hb.mono hb12.size)
 have HRow:Hid (∀W,Below w2.heap.size w2 W→W.heap[X]? =some (envObj p d m)):=Lib.hid fun W hb=>(hb.block X (lt_blk x1)).trans x1
 have HZz:Hid (∀W,Below w2.heap.size w2 W→W.heap[X+1]? =some ofZero):=Lib.hid fun W hb=>(hb.block (X+1) (lt_blk x2)).trans x2
 have HXl:Hid (w.heap.size≤X+1):=Lib.hid (by omega)
 have HI:Hid (∀W,Below w2.heap.size w2 W→PrIn W W.heap.size p):=Lib.hid fun W hb=>hI.keep (hb12.trans (hb.mono hb12.size)) (hb12.trans (hb.mono hb12.size)).size
 have HSs:Hid (∀W,Below w2.heap.size w2 W→OfsIn W W.heap.size dl ss):=Lib.hid fun W hb=>OfsIn.keep hS (hb12.trans (hb.mono hb12.size)) (hb12.trans (hb.mono hb12.size)).size
 have HN:Hid ((w.alloc (envObj p d m)).alloc ofZero=w2∧w.heap.size=X):=Lib.hid ⟨by rw[hw1,hw2],hX⟩
 have q0:=cell_at x1 0
 have q1:=cell_at x1 1
 have q2:=cell_at x1 2
 have q3:=cell_at x1 3
 simp only[sl7,sl8,sl9]at q0 q1 q2 q3
 have HB0:Hid (Below w2.heap.size w2 w2):=Lib.hid (Below.refl _ _)
 have CR:Hid (∀W,Below w2.heap.size w2 W→Calls Tryz.prog 177 #[p.val,.string ⟨nm.toArray⟩] W fun e w'=>e=.returned (.int .i64 (plI (funOf p nm)))∧Below W.heap.size W w'):=Lib.hid fun W hb=>rfunc5_any p nm W (HI.out W hb)
 rw[←hw2,←hw1,←hX]at q0 q1 q2 q3
 clear hw1 hw2 hs1 hb1 hb2 hb12 x1 x2 hI hS hX
 dsimp only[Pr.val]at CR
 unfold callV
 cases hr:funOf p nm with
 |none=>
  rw[hr]at CR
  dsimp only[plI,srt0,ty0,OfV]at CR ⊢
  clear hr
  go_enter Tryz.func164,Tryz.ntmps164
  go_wp2_with fail
  simp only[HN.out.1,HN.out.2]
  clear q0 q1 q2 q3
  refine (CR.out w2 HB0.out).mono ?_
  rintro e w3 ⟨rfl,hb3⟩
  have HU:Hid (w3=w3):=Lib.hid rfl
  have HZ:=Lib.hid (HZz.out _ hb3)
  have HB:=Lib.hid (HBw.out _ hb3)
  obtain⟨f0,f1,f2,f3,c0,c1,c2,c3,y0,y1,y2,y3⟩:=resO HZ.out false 0 ([]:List UInt8) 0
  have HF:=Lib.hid (resOB HB.out HXl.out (.bool false) (.int .u8 0) (.string ⟨([]:List UInt8).toArray⟩) (.int .i64 0))
  clear hb3
  go_wp2_with fail
  refine bodyPost_ret (v:=.tuple #[.agg #[.bool false,.int .u8 0,.string ⟨([]:List UInt8).toArray⟩,.int .i64 0],.int .i64 9]) (by simp[results,Tryz.results164,go_sem,y0,y1,y2,y3]) rfl ?_
  exact qfa25_4
 |some i=>
  rw[hr]at CR
  dsimp only[plI]at CR ⊢
  obtain⟨f,hfi⟩:=get_of_idx hr
  have hgp:(p.fs.map Fu.ps).getD i []=f.ps:=by rw[List.getD_eq_getElem?_getD,List.getElem?_map,hfi];rfl
  have hgt:(p.fs.map Fu.t).getD i ty0=f.t:=by rw[List.getD_eq_getElem?_getD,List.getElem?_map,hfi];rfl
  rw[hgp,hgt]
  have HRi:Hid (∀W,Below w2.heap.size w2 W→∃rb ro,W.cell? ⟨X,2,none⟩=some (.slice (some ⟨rb,ro,none⟩) p.fs.length p.fd.c)∧FuAt W rb (ro+i*6) f):=Lib.hid fun W hb=>by
   obtain⟨rb,ro,hda,-,hrow⟩:=(HI.out W hb).frow (by intro h0;rw[h0]at hfi;simp at hfi)
   exact⟨rb,ro,by rw[←hda];exact cell_at (HRow.out W hb) 2,hrow i f hfi⟩
  have HPs:Hid (∀W,Below w2.heap.size w2 W→FlsIn W W.heap.size f.pd f.ps):=Lib.hid fun W hb=>((HI.out W hb).fsub f (List.mem_of_getElem? hfi)).ps
  have hil:=idxOf_lt Fu.nm nm p.fs i hr
  have i0:(0:Int)≤(i:Int):=Int.natCast_nonneg _
  have i1:(i:Int)<(p.fs.length:Int):=by omega
  have i2:decide ((i:Int)<0)=false:=by simp
  clear hr hfi hgp hgt
  by_cases hlen:ss.length=f.ps.length
  ·rw[if_neg (not_not_intro hlen)]
   have n1:((f.ps.length:Int) != (ss.length:Int))=false:=by simp[hlen]
   have HLen:=Lib.hid hlen
   obtain⟨V,hV⟩:∃V,fitsAll ss f.ps=V:=⟨_,rfl⟩
   rw[hV]
   have HV:Hid (fitsAll (ss.drop 0) (f.ps.drop 0)=V):=Lib.hid hV
   clear hV hlen
   go_enter Tryz.func164,Tryz.ntmps164
   go_wp2_with fail
   simp only[HN.out.1,HN.out.2]
   clear q0 q1 q2 q3
   refine (CR.out w2 HB0.out).mono ?_
   rintro e w3 ⟨rfl,hb3⟩
   obtain⟨rb,ro,q2,k0,k1,k2,k3,k4,k5⟩:=HRi.out w3 hb3
   obtain⟨Z,hZ⟩:∃Z,w3.heap.size=Z:=⟨_,rfl⟩
   obtain⟨u,hu⟩:∃u,w3.alloc (fuObj f)=u:=⟨_,rfl⟩
   have hbu:Below w2.heap.size w2 u:=by rw[←hu];exact hb3.alloc hb3.size _
   have zu:u.heap[Z]? =some (fuObj f):=by rw[←hu,←hZ];exact heap_alloc_new w3 _
   have HFr:Hid (∀W,Below u.heap.size u W→W.heap[Z]? =some (fuObj f)):=Lib.hid fun W hb=>(hb.block Z (lt_blk zu)).trans zu
   have HBu:Hid (∀W,Below u.heap.size u W→Below w2.heap.size w2 W):=Lib.hid fun W hb=>hbu.trans (hb.mono hbu.size)
   have HU1:=Lib.hid (And.intro hu hZ)
   clear hb3 hbu zu hu hZ
   go_wp2_with fail
   simp only[HU1.out.1,HU1.out.2]
   clear q2 k0 k1 k2 k3 k4 k5 n1 i0 i1 i2
   go_loopw [10] (fun ii wr=>∃(j:Nat),ii=.int .i64 j∧j≤ss.length∧Hid (Below u.heap.size u wr)∧Hid (fitsAll (ss.drop j) (f.ps.drop j)=V)) (fun ii _=>ss.length - (intOf ii).toNat)
   case atStart=>exact⟨0,rfl,Nat.zero_le _,Lib.hid (Below.refl _ _),HV⟩
   case round=>
    obtain⟨j,rfl,hj,hB,hC⟩:=hrel
    clear HV
    have p2:(0:Int)≤(j:Int):=Int.natCast_nonneg _
    by_cases hlt:j<ss.length
    ·have p1:(j:Int)<(ss.length:Int):=by omega
     have p3:(j:Int)<(f.ps.length:Int):=by have:=HLen.out;omega
     obtain⟨s,hs⟩:∃s,ss[j]? =some s:=⟨_,List.getElem?_eq_getElem hlt⟩
     obtain⟨y,hy⟩:∃y,f.ps[j]? =some y:=⟨_,List.getElem?_eq_getElem (by have:=HLen.out;omega)⟩
     have hd1:ss.drop j=s::ss.drop (j+1):=by
      have:=List.drop_eq_getElem_cons hlt
      rw[List.getElem?_eq_getElem hlt]at hs
      injection hs with hs
      rw[this,hs]
     have hd2:f.ps.drop j=y::f.ps.drop (j+1):=by
      have hl2:j<f.ps.length:=by have:=HLen.out;omega
      have:=List.drop_eq_getElem_cons hl2
      rw[List.getElem?_eq_getElem hl2]at hy
      injection hy with hy
      rw[this,hy]
     have hC1:=hC.out
     rw[hd1,hd2,fitsAll_cons]at hC1
     have hbd:Below u.heap.size u wr.drew:=hB.out.drew
     obtain⟨lb,lo,hla,-,hlrow⟩:=HSs.out _ (HBu.out _ hbd) (by intro h0;rw[h0]at hlt;simp at hlt)
     obtain⟨rb,ro,hra,-,hrrow⟩:=(HPs.out _ (HBu.out _ hbd)).row (by intro h0;rw[h0]at hy;simp at hy)
     obtain⟨l0,l1,l2,l3⟩:=hlrow j s hs
     obtain⟨-,y1,y2,y3⟩:=hrrow j y hy
     have z1:=cell_at (HFr.out _ hbd) 1
     simp only[sl7,sl8,sl9]at z1
     rw[hra]at z1
     have HS:Hid (FitS lb lo Z rb ro j f.ps.length f.pd.c s y.t wr.drew):=Lib.hid ⟨l0,l1,l2,l3,z1,y1,y2,y3⟩
     have HBd:=Lib.hid hbd
     have CF:=Lib.hid (fun W=>rfits_any s y.t W)
     generalize s.fits y.t=fb at*
     clear hd1 hd2 hlrow hrrow hs hy l0 l1 l2 l3 y1 y2 y3 z1 hbd hra hC hB
     rw[hla]
     clear hla
     go_wp2_with fail
     refine wp_region_L (l:=11) (S:=(FitS lb lo Z rb ro j f.ps.length f.pd.c s y.t)) (by kernel_rfl) ?_ (fun hHeld=>?_)
     ·((try dsimp only);(exact HS.out))
     refine tk 0 ?_
     try simp only[sl1,sl2,sl3,Act.put,sl4,sl5,sl6]
     refine tk 1 ?_
     try simp only[sl1,sl2,sl3,Act.put,sl4,sl5,sl6]
     refine tk 2 ?_
     try simp only[sl1,sl2,sl3,Act.put,sl4,sl5,sl6]
     refine tk 3 ?_
     try simp only[sl1,sl2,sl3,Act.put,sl4,sl5,sl6]
     refine tk 4 ?_
     try simp only[sl1,sl2,sl3,Act.put,sl4,sl5,sl6]
     refine tk 5 ?_
     try simp only[sl1,sl2,sl3,Act.put,sl4,sl5,sl6]
     refine tk 6 ?_
     try simp only[sl1,sl2,sl3,Act.put,sl4,sl5,sl6]
     refine tk 7 ?_
     try simp only[sl1,sl2,sl3,Act.put,sl4,sl5,sl6]
     refine tk 8 ?_
     try simp only[sl1,sl2,sl3,Act.put,sl4,sl5,sl6]
     refine tk 9 ?_
     try simp only[sl1,sl2,sl3,Act.put,sl4,sl5,sl6]
     refine wpAnyL_step (j:=10) (o:=_) (by kernel_rfl) rfl (fun K hK=>?_)
     (go_simp;go_at_call 131;refine (CF.out _).mono ?_;rintro e w5 ⟨rfl,hb⟩;have HB5:Hid (Below u.heap.size u w5):=Lib.hid (HBd.out.trans (hb.mono HBd.out.size));have HS5:Hid (FitS lb lo Z rb ro j f.ps.length f.pd.c s y.t w5):=Lib.hid (HS.out.below hb);clear hb)
     refine hK _ _ ?_ (fun hHeld=>?_)
     ·((try dsimp only);(exact HS5.out))
     clear hK K
     try simp only[sl1,sl2,sl3,Act.put,sl4,sl5,sl6]
     refine wpAnyL_last (j:=11) (o:=_) (by kernel_rfl) rfl (by rfl) (by kernel_rfl) (fun K hK=>?_)
     go_simp
     (refine hK _ _ ?_;clear hK K)
     try simp only[sl1,sl2,sl3,Act.put,sl4,sl5,sl6]
     clear HS HS5 HBd CF
     cases fb with
     |true=>
      have HC1:Hid (fitsAll (ss.drop (j+1)) (f.ps.drop (j+1))=V):=Lib.hid (by simpa using hC1)
      clear hC1
      go_wp2_with fail
      go_roundw
      case rel=>exact⟨j+1,by go_num,by omega,HB5,HC1⟩
      case measure=>simp[intOf];omega
     |false=>
      obtain rfl:false=V:=by simpa using hC1
      clear hC1
      have HU:Hid (w5=w5):=Lib.hid rfl
      have HZ:=Lib.hid (HZz.out _ (HBu.out _ HB5.out))
      have HB:=Lib.hid (HBw.out _ (HBu.out _ HB5.out))
      obtain⟨f0,f1,f2,f3,c0,c1,c2,c3,y0,y1,y2,y3⟩:=resO HZ.out false 0 ([]:List UInt8) 0
      have HF:=Lib.hid (resOB HB.out HXl.out (.bool false) (.int .u8 0) (.string ⟨([]:List UInt8).toArray⟩) (.int .i64 0))
      clear p1
      exact qfa25_6
    ·obtain rfl:j=ss.length:=by omega
     obtain rfl:true=V:=by
      have h:=hC.out
      rw[List.drop_length]at h
      exact h
     have HZ:=Lib.hid (HZz.out _ (HBu.out _ hB.out))
     have HB:=Lib.hid (HBw.out _ (HBu.out _ hB.out))
     have row:=HFr.out _ hB.out
     have z1:=cell_at row 1
     have z2:=cell_at row 2
     have z3:=cell_at row 3
     have z4:=cell_at row 4
     clear row
     simp only[sl7,sl8,sl9]at z1 z2 z3 z4
     have HU:Hid (wr=wr):=Lib.hid rfl
     clear hC hB
     obtain⟨f0,f1,f2,f3,c0,c1,c2,c3,y0,y1,y2,y3⟩:=resO HZ.out false (f.t.k) f.t.nm (f.t.n)
     have HF:=Lib.hid (resOB HB.out HXl.out (.bool false) (.int .u8 (f.t.k)) (.string ⟨(f.t.nm).toArray⟩) (.int .i64 (f.t.n)))
     clear hlt
     go_wp2_with fail
     refine bodyPost_ret (v:=.tuple #[.agg #[.bool false,.int .u8 (f.t.k),.string ⟨(f.t.nm).toArray⟩,.int .i64 (f.t.n)],.int .i64 0]) (by simp[results,Tryz.results164,go_sem,y0,y1,y2,y3]) rfl ?_
     exact qfa25_5
  ·rw[if_pos hlen]
   have n1:((f.ps.length:Int) != (ss.length:Int))=true:=by simp;omega
   clear hlen
   dsimp only[srt0,ty0,OfV]
   go_enter Tryz.func164,Tryz.ntmps164
   go_wp2_with fail
   simp only[HN.out.1,HN.out.2]
   clear q0 q1 q2 q3
   refine (CR.out w2 HB0.out).mono ?_
   rintro e w3 ⟨rfl,hb3⟩
   obtain⟨rb,ro,q2,k0,k1,k2,k3,k4,k5⟩:=HRi.out w3 hb3
   obtain⟨u,hu⟩:∃u,w3.alloc (fuObj f)=u:=⟨_,rfl⟩
   have hbu:Below w2.heap.size w2 u:=by rw[←hu];exact hb3.alloc hb3.size _
   have HU:=Lib.hid hu
   clear hb3
   have HZ:=Lib.hid (HZz.out _ hbu)
   have HB:=Lib.hid (HBw.out _ hbu)
   obtain⟨f0,f1,f2,f3,c0,c1,c2,c3,y0,y1,y2,y3⟩:=resO HZ.out false 0 ([]:List UInt8) 0
   have HF:=Lib.hid (resOB HB.out HXl.out (.bool false) (.int .u8 0) (.string ⟨([]:List UInt8).toArray⟩) (.int .i64 0))
   rw[←hu]at f0 f1 f2 f3 c0 c1 c2 c3 y0 y1 y2 y3;clear hu hbu
   exact qfa25_6
end Go.Proofs.YtkklogikakcanaaGreatDoor
