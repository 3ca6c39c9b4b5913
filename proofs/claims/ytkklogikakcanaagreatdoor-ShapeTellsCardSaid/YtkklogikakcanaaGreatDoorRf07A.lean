import Derived.Test.YtkklogikakcanaaGreatDoorShapeA
import Derived.Test.YtkklogikakcanaaGreatDoorRf05Q
set_option linter.unusedVariables false
set_option linter.unusedSimpArgs false
open List renaming getElem_toArray → sl1, getElem_cons_zero → sl2, getElem_cons_succ → sl3, setIfInBounds_toArray → sl4, set_cons_zero → sl5, set_cons_succ → sl6, getElem?_toArray → sl7, getElem?_cons_zero → sl8, getElem?_cons_succ → sl9
namespace Go.Proofs.YtkklogikakcanaaGreatDoor
open Go Go.RowKit
theorem qjrd1_4 {P:Prop} (h:P:=by
 rw[if_neg (fun h=>hnm h.symm)]at hC1
 have HC1:=Lib.hid hC1
 have e1:(fnm==nm)=false:=by simpa using hnm
 clear hC1
 go_wp2_with fail
 go_roundw
 case rel=>exact⟨j+1,by go_num,by omega,hB,HC1⟩
 case measure=>simp[intOf];omega):P:=h
theorem qjrd1_3 {P:Prop} (h:P:=by
 rw[e2]
 clear h0 e2
 go_enter Tryz.func56,Tryz.ntmps56
 go_wp2_with fail
 simp only[HN.out.1,HN.out.2]
 refine HC.out.mono ?_
 rintro e w2 ⟨rfl,hb⟩
 have HB:=Lib.hid (HBw.out _ hb)
 clear hb HC q0 q1 q2 q3
 go_wp2_with fail
 go_ret
 exact⟨rfl,HB.out⟩):P:=h
theorem qjrd1_2 {P:Prop} (h:P:=by
 clear HRc
 go_enter Tryz.func22,Tryz.ntmps22
 go_wp2_with fail
 simp only[HNN.out.1,HNN.out.2.1,HNN.out.2.2]
 refine HCR.out.mono ?_
 rintro e w2 ⟨rfl,hb⟩
 have HBw2:Hid (Below w1.heap.size w1 w2):=Lib.hid hb
 clear hb HCR q0 q1 q2 q3
 have row:=HY1.out _ HBw2.out
 have y0:=cell_at row 0
 have y1:=cell_at row 1
 have y2:=cell_at row 2
 simp only[sl7,sl8,sl9]at y0 y1 y2
 clear row
 go_wp2_with fail
 refine (HTF.out _ HBw2.out).mono ?_
 rintro e w3 ⟨rfl,hb⟩
 have HBw3:Hid (Below w1.heap.size w1 w3):=Lib.hid (HBw2.out.trans (hb.mono HBw2.out.size))
 clear hb HTF y0 y1 y2
 have row:=HY1.out _ HBw3.out
 have y0:=cell_at row 0
 have y1:=cell_at row 1
 have y2:=cell_at row 2
 simp only[sl7,sl8,sl9]at y0 y1 y2
 clear row
 have row:=HX1.out _ HBw3.out
 have q0:=cell_at row 0
 have q1:=cell_at row 1
 have q2:=cell_at row 2
 have q3:=cell_at row 3
 simp only[sl7,sl8,sl9]at q0 q1 q2 q3
 clear row
 go_wp2_with fail
 refine bodyPost_ret (v:=.tuple #[.int .i64 (0),.int .i64 10]) (by simp[results,Tryz.results22,go_sem]) rfl ?_
 exact⟨rfl,HBw.out _ HBw3.out⟩):P:=h
theorem qjrd1_1 {P:Prop} (h:P:=by
 dsimp only
 rw[hr]at HRc
 clear hfk2 hn hr
 go_enter Tryz.func22,Tryz.ntmps22
 go_wp2_with fail
 simp only[HNN.out.1,HNN.out.2.1,HNN.out.2.2]
 refine HCR.out.mono ?_
 rintro e w2 ⟨rfl,hb⟩
 have HBw2:Hid (Below w1.heap.size w1 w2):=Lib.hid hb
 clear hb HCR q0 q1 q2 q3
 have row:=HY1.out _ HBw2.out
 have y0:=cell_at row 0
 have y1:=cell_at row 1
 have y2:=cell_at row 2
 simp only[sl7,sl8,sl9]at y0 y1 y2
 clear row
 go_wp2_with fail
 refine (HTF.out _ HBw2.out).mono ?_
 rintro e w3 ⟨rfl,hb⟩
 have HBw3:Hid (Below w1.heap.size w1 w3):=Lib.hid (HBw2.out.trans (hb.mono HBw2.out.size))
 clear hb HTF y0 y1 y2
 have row:=HY1.out _ HBw3.out
 have y0:=cell_at row 0
 have y1:=cell_at row 1
 have y2:=cell_at row 2
 simp only[sl7,sl8,sl9]at y0 y1 y2
 clear row
 have row:=HX1.out _ HBw3.out
 have q0:=cell_at row 0
 have q1:=cell_at row 1
 have q2:=cell_at row 2
 have q3:=cell_at row 3
 simp only[sl7,sl8,sl9]at q0 q1 q2 q3
 clear row
 go_wp2_with fail
 refine (HRc.out _ HBw3.out).mono ?_
 rintro e w4 ⟨rfl,hb⟩
 have HBw4:Hid (Below w1.heap.size w1 w4):=Lib.hid (HBw3.out.trans (hb.mono HBw3.out.size))
 clear hb q0 q1 q2 q3 y0 y1 y2
 have row:=HY1.out _ HBw4.out
 have y0:=cell_at row 0
 have y1:=cell_at row 1
 have y2:=cell_at row 2
 simp only[sl7,sl8,sl9]at y0 y1 y2
 clear row
 dsimp only[plI]
 go_wp2_with fail
 refine bodyPost_ret (v:=.tuple #[.int .i64 (0),.int .i64 9]) (by simp[results,Tryz.results22,go_sem]) rfl ?_
 exact⟨rfl,HBw.out _ HBw4.out⟩):P:=h
def rightB (p:Pr):Bool:=decide ((typesCheck p).2=0)
set_option maxHeartbeats 4000000 in
set_option maxRecDepth 100000 in
theorem rright7_any (p:Pr) (hcap:CapP p) (w:World) (hI:PrIn w w.heap.size p):
  Calls Tryz.prog 56 #[p.val] w fun e w'=>e=.returned (.bool (rightB p))∧Below w.heap.size w w':=by
 obtain⟨X,hX⟩:∃X,w.heap.size=X:=⟨_,rfl⟩
 obtain⟨w1,hw1⟩:∃w1,w.alloc (prObj p)=w1:=⟨_,rfl⟩
 have hb1:Below w.heap.size w w1:=by rw[←hw1];exact (Below.refl _ _).alloc (Nat.le_refl _) _
 have x1:w1.heap[X]? =some (prObj p):=by rw[←hw1,←hX];exact heap_alloc_new w _
 have HX1:Hid (∀W',Below w1.heap.size w1 W'→W'.heap[X]? =some (prObj p)):=Lib.hid fun W' hb=>(hb.block X (lt_blk x1)).trans x1
 have HBw:Hid (∀W',Below w1.heap.size w1 W'→Below w.heap.size w W'):=Lib.hid fun W' hb=>hb1.trans (hb.mono hb1.size)
 have HI:Hid (∀W',Below w1.heap.size w1 W'→PrIn W' W'.heap.size p):=Lib.hid fun W' hb=>hI.keep (hb1.trans (hb.mono hb1.size)) (hb1.trans (hb.mono hb1.size)).size
 have HN:=Lib.hid (And.intro hX hw1)
 have HBw1:Hid (Below w1.heap.size w1 w1):=Lib.hid (Below.refl _ _)
 have q0:=cell_at x1 0
 have q1:=cell_at x1 1
 have q2:=cell_at x1 2
 have q3:=cell_at x1 3
 simp only[sl7,sl8,sl9]at q0 q1 q2 q3
 rw[←hw1,←hX]at q0 q1 q2 q3
 clear hX hw1 hb1 x1 hI
 have CC:=rcheck5_any p hcap w1 (HI.out _ HBw1.out)
 obtain⟨at_,er,hT⟩:∃a b,typesCheck p=(a,b):=⟨_,_,rfl⟩
 have hr:rightB p=decide (er=0):=by unfold rightB;rw[hT]
 rw[hr]
 rw[hT]at CC
 have HC:=Lib.hid CC
 clear CC hT hr hcap
 by_cases h0:er=0
 ·have e0:(er==0)=true:=by simpa using h0
  have e2:decide (er=0)=true:=by simpa using h0
  exact qjrd1_3
 ·have e0:(er==0)=false:=by simpa using h0
  have e2:decide (er=0)=false:=by simpa using h0
  exact qjrd1_3
set_option maxHeartbeats 4000000 in
set_option maxRecDepth 100000 in
theorem rwords7_any (p:Pr) (hcap:CapP p) (w:World) (hI:PrIn w w.heap.size p):
  Calls Tryz.prog 20 #[p.val] w fun e w'=>e=.returned (.tuple #[.int .i64 (wordsS p).1,.int .i64 (wordsS p).2])∧Below w.heap.size w w':=by
 obtain⟨X,hX⟩:∃X,w.heap.size=X:=⟨_,rfl⟩
 obtain⟨w1,hw1⟩:∃w1,w.alloc (prObj p)=w1:=⟨_,rfl⟩
 have hb1:Below w.heap.size w w1:=by rw[←hw1];exact (Below.refl _ _).alloc (Nat.le_refl _) _
 have x1:w1.heap[X]? =some (prObj p):=by rw[←hw1,←hX];exact heap_alloc_new w _
 have HX1:Hid (∀W',Below w1.heap.size w1 W'→W'.heap[X]? =some (prObj p)):=Lib.hid fun W' hb=>(hb.block X (lt_blk x1)).trans x1
 have HBw:Hid (∀W',Below w1.heap.size w1 W'→Below w.heap.size w W'):=Lib.hid fun W' hb=>hb1.trans (hb.mono hb1.size)
 have HI:Hid (∀W',Below w1.heap.size w1 W'→PrIn W' W'.heap.size p):=Lib.hid fun W' hb=>hI.keep (hb1.trans (hb.mono hb1.size)) (hb1.trans (hb.mono hb1.size)).size
 have HN:=Lib.hid (And.intro hX hw1)
 have HBw1:Hid (Below w1.heap.size w1 w1):=Lib.hid (Below.refl _ _)
 have q0:=cell_at x1 0
 have q1:=cell_at x1 1
 have q2:=cell_at x1 2
 have q3:=cell_at x1 3
 simp only[sl7,sl8,sl9]at q0 q1 q2 q3
 rw[←hw1,←hX]at q0 q1 q2 q3
 clear hX hw1 hb1 x1 hI
 by_cases h0:(typesCheck p).2≠0
 ·skip
  have hrt:rightB p=false:=by unfold rightB;simpa using h0
  have hv:wordsS p=(0,1):=by unfold wordsS;rw[if_pos h0]
  rw[hv]
  clear h0 hv
  have CR:=rright7_any p hcap w1 (HI.out _ HBw1.out)
  rw[hrt]at CR
  have HCR:=Lib.hid CR
  clear CR hrt hcap
  go_enter Tryz.func20,Tryz.ntmps20
  go_wp2_with fail
  simp only[HN.out.1,HN.out.2]
  refine HCR.out.mono ?_
  rintro e w2 ⟨rfl,hb⟩
  have HBw2:Hid (Below w1.heap.size w1 w2):=Lib.hid hb
  clear hb HCR q0 q1 q2 q3
  go_wp2_with fail
  refine bodyPost_ret (v:=.tuple #[.int .i64 0,.int .i64 1]) (by simp[results,Tryz.results20,go_sem]) rfl ?_
  exact⟨rfl,HBw.out _ HBw2.out⟩
 ·have hrt:rightB p=true:=by unfold rightB;simpa using h0
  have hv:wordsS p=((p.ss.length:Int),0):=by unfold wordsS;rw[if_neg h0]
  rw[hv]
  clear h0 hv
  have CR:=rright7_any p hcap w1 (HI.out _ HBw1.out)
  rw[hrt]at CR
  have HCR:=Lib.hid CR
  clear CR hrt hcap
  go_enter Tryz.func20,Tryz.ntmps20
  go_wp2_with fail
  simp only[HN.out.1,HN.out.2]
  refine HCR.out.mono ?_
  rintro e w2 ⟨rfl,hb⟩
  have HBw2:Hid (Below w1.heap.size w1 w2):=Lib.hid hb
  clear hb HCR q0 q1 q2 q3
  have row:=HX1.out _ HBw2.out
  have q0:=cell_at row 0
  have q1:=cell_at row 1
  have q2:=cell_at row 2
  have q3:=cell_at row 3
  simp only[sl7,sl8,sl9]at q0 q1 q2 q3
  clear row
  go_wp2_with fail
  refine bodyPost_ret (v:=.tuple #[.int .i64 (p.ss.length:Int),.int .i64 0]) (by simp[results,Tryz.results20,go_sem]) rfl ?_
  exact⟨rfl,HBw.out _ HBw2.out⟩
set_option maxHeartbeats 4000000 in
set_option maxRecDepth 100000 in
theorem rshared7_any (p:Pr) (hcap:CapP p) (nm:List UInt8) (w:World) (hI:PrIn w w.heap.size p):
  Calls Tryz.prog 21 #[p.val,.string ⟨nm.toArray⟩] w fun e w'=>e=.returned (.tuple #[.int .i64 (sharedS p nm).1,.int .i64 (sharedS p nm).2])∧Below w.heap.size w w':=by
 have hlen:(p.ss.length:Int)≤140737488355328:=by have:=hI.ss.len;unfold lenOk at this;omega
 obtain⟨X,hX⟩:∃X,w.heap.size=X:=⟨_,rfl⟩
 obtain⟨w1,hw1⟩:∃w1,w.alloc (prObj p)=w1:=⟨_,rfl⟩
 have hb1:Below w.heap.size w w1:=by rw[←hw1];exact (Below.refl _ _).alloc (Nat.le_refl _) _
 have x1:w1.heap[X]? =some (prObj p):=by rw[←hw1,←hX];exact heap_alloc_new w _
 have HX1:Hid (∀W',Below w1.heap.size w1 W'→W'.heap[X]? =some (prObj p)):=Lib.hid fun W' hb=>(hb.block X (lt_blk x1)).trans x1
 have HBw:Hid (∀W',Below w1.heap.size w1 W'→Below w.heap.size w W'):=Lib.hid fun W' hb=>hb1.trans (hb.mono hb1.size)
 have HI:Hid (∀W',Below w1.heap.size w1 W'→PrIn W' W'.heap.size p):=Lib.hid fun W' hb=>hI.keep (hb1.trans (hb.mono hb1.size)) (hb1.trans (hb.mono hb1.size)).size
 have HN:=Lib.hid (And.intro hX hw1)
 have HBw1:Hid (Below w1.heap.size w1 w1):=Lib.hid (Below.refl _ _)
 have q0:=cell_at x1 0
 have q1:=cell_at x1 1
 have q2:=cell_at x1 2
 have q3:=cell_at x1 3
 simp only[sl7,sl8,sl9]at q0 q1 q2 q3
 rw[←hw1,←hX]at q0 q1 q2 q3
 clear hX hw1 hb1 x1 hI
 by_cases h0:(typesCheck p).2≠0
 ·skip
  have hrt:rightB p=false:=by unfold rightB;simpa using h0
  have hv:sharedS p nm=(0,1):=by unfold sharedS;rw[if_pos h0]
  rw[hv]
  clear h0 hv
  have CR:=rright7_any p hcap w1 (HI.out _ HBw1.out)
  rw[hrt]at CR
  have HCR:=Lib.hid CR
  clear CR hrt hcap
  go_enter Tryz.func21,Tryz.ntmps21
  go_wp2_with fail
  simp only[HN.out.1,HN.out.2]
  refine HCR.out.mono ?_
  rintro e w2 ⟨rfl,hb⟩
  have HBw2:Hid (Below w1.heap.size w1 w2):=Lib.hid hb
  clear hb HCR q0 q1 q2 q3
  go_wp2_with fail
  refine bodyPost_ret (v:=.tuple #[.int .i64 0,.int .i64 1]) (by simp[results,Tryz.results21,go_sem]) rfl ?_
  exact⟨rfl,HBw.out _ HBw2.out⟩
 ·have hrt:rightB p=true:=by unfold rightB;simpa using h0
  obtain⟨R,hR⟩:∃R,sharedS p nm=R:=⟨_,rfl⟩
  rw[hR]
  have HR:Hid ((match idxFrom Fl.nm p.ss 0 nm with|some i=>((i:Int)+1,(0:Int))|none=>(0,9))=R):=Lib.hid (by
   rw[idxFrom_zero,←hR]
   unfold sharedS placeS
   rw[if_neg h0]
   cases idxOf Fl.nm nm p.ss with
   |none=>rfl
   |some i=>
    dsimp only
    rw[if_neg (by omega)]
    rw[Int.add_comm])
  have HF:Hid (∀W,Below w1.heap.size w1 W→FlsIn W W.heap.size p.sd p.ss):=Lib.hid fun W hb=>(HI.out _ hb).ss
  clear h0 hR
  have CR:=rright7_any p hcap w1 (HI.out _ HBw1.out)
  rw[hrt]at CR
  have HCR:=Lib.hid CR
  clear CR hrt hcap
  go_enter Tryz.func21,Tryz.ntmps21
  go_wp2_with fail
  simp only[HN.out.1,HN.out.2]
  refine HCR.out.mono ?_
  rintro e w2 ⟨rfl,hb⟩
  have HBw2:Hid (Below w1.heap.size w1 w2):=Lib.hid hb
  clear hb HCR q0 q1 q2 q3
  have HBs:=HBw2
  have row:=HX1.out _ HBw2.out
  have q0:=cell_at row 0
  have q1:=cell_at row 1
  have q2:=cell_at row 2
  have q3:=cell_at row 3
  simp only[sl7,sl8,sl9]at q0 q1 q2 q3
  clear row
  go_wp2_with fail
  clear q0 q1 q2 q3
  clear HBw2
  go_loopw [6] (fun ii wr=>∃(j:Nat),ii=.int .i64 j∧j≤p.ss.length∧Hid (Below w1.heap.size w1 wr)∧Hid ((match idxFrom Fl.nm p.ss j nm with|some i=>((i:Int)+1,(0:Int))|none=>(0,9))=R)) (fun ii _=>p.ss.length - (intOf ii).toNat)
  case atStart=>exact⟨0,rfl,Nat.zero_le _,HBs,HR⟩
  case round=>
   obtain⟨j,rfl,hj,hB,hC⟩:=hrel
   clear HR HBs
   have p2:(0:Int)≤(j:Int):=Int.natCast_nonneg _
   by_cases hlt:j<p.ss.length
   ·obtain⟨s,hs⟩:∃s,p.ss[j]? =some s:=⟨_,List.getElem?_eq_getElem hlt⟩
    obtain⟨rb,ro,hda,hrb,hrow⟩:=(HF.out _ hB.out).row (by intro h0;rw[h0]at hlt;simp at hlt)
    obtain⟨z0,z1,z2,z3⟩:=hrow j s hs
    have hC1:=hC.out
    rw[idxFrom_step Fl.nm p.ss j s hs]at hC1
    have p1:(j:Int)<(p.ss.length:Int):=by omega
    have q1:=cell_at (HX1.out _ hB.out) 1;simp only[sl7,sl8,sl9]at q1
    obtain⟨fnm,ft⟩:=s
    dsimp only at z0 z1 z2 z3 hC1
    clear hrow hs hC
    rw[hda]at q1
    by_cases hnm:fnm=nm
    ·subst hnm
     rw[if_pos rfl]at hC1
     dsimp only at hC1
     obtain rfl:=hC1
     have HZ:=Lib.hid (HBw.out _ hB.out)
     clear hB
     go_wp2_with fail
     refine bodyPost_ret (v:=.tuple #[.int .i64 ((j:Int)+1),.int .i64 0]) (by simp[results,Tryz.results21,go_sem]) rfl ?_
     exact⟨rfl,HZ.out⟩
    ·exact qjrd1_4
   ·obtain rfl:j=p.ss.length:=by omega
    obtain rfl:((0:Int),(9:Int))=R:=by have h:=hC.out;rw[idxFrom_len]at h;exact h
    have HZ:=Lib.hid (HBw.out _ hB.out)
    have q1:=cell_at (HX1.out _ hB.out) 1;simp only[sl7,sl8,sl9]at q1
    clear hC hB
    go_wp2_with fail
    refine bodyPost_ret (v:=.tuple #[.int .i64 0,.int .i64 9]) (by simp[results,Tryz.results21,go_sem]) rfl ?_
    exact⟨rfl,HZ.out⟩
set_option maxHeartbeats 4000000 in
set_option maxRecDepth 100000 in
theorem roffset7_any (p:Pr) (hcap:CapP p) (rn nm:List UInt8) (w:World) (hI:PrIn w w.heap.size p):
  Calls Tryz.prog 23 #[p.val,.string ⟨rn.toArray⟩,.string ⟨nm.toArray⟩] w fun e w'=>e=.returned (.tuple #[.int .i64 (offsetS p rn nm).1,.int .i64 (offsetS p rn nm).2])∧Below w.heap.size w w':=by
 obtain⟨X,hX⟩:∃X,w.heap.size=X:=⟨_,rfl⟩
 obtain⟨w1,hw1⟩:∃w1,w.alloc (prObj p)=w1:=⟨_,rfl⟩
 have hb1:Below w.heap.size w w1:=by rw[←hw1];exact (Below.refl _ _).alloc (Nat.le_refl _) _
 have x1:w1.heap[X]? =some (prObj p):=by rw[←hw1,←hX];exact heap_alloc_new w _
 have HX1:Hid (∀W',Below w1.heap.size w1 W'→W'.heap[X]? =some (prObj p)):=Lib.hid fun W' hb=>(hb.block X (lt_blk x1)).trans x1
 have HBw:Hid (∀W',Below w1.heap.size w1 W'→Below w.heap.size w W'):=Lib.hid fun W' hb=>hb1.trans (hb.mono hb1.size)
 have HI:Hid (∀W',Below w1.heap.size w1 W'→PrIn W' W'.heap.size p):=Lib.hid fun W' hb=>hI.keep (hb1.trans (hb.mono hb1.size)) (hb1.trans (hb.mono hb1.size)).size
 have HN:=Lib.hid (And.intro hX hw1)
 have HBw1:Hid (Below w1.heap.size w1 w1):=Lib.hid (Below.refl _ _)
 have q0:=cell_at x1 0
 have q1:=cell_at x1 1
 have q2:=cell_at x1 2
 have q3:=cell_at x1 3
 simp only[sl7,sl8,sl9]at q0 q1 q2 q3
 rw[←hw1,←hX]at q0 q1 q2 q3
 clear hX hw1 hb1 x1 hI
 by_cases h0:(typesCheck p).2≠0
 ·skip
  have hrt:rightB p=false:=by unfold rightB;simpa using h0
  have hv:offsetS p rn nm=(0,1):=by unfold offsetS;rw[if_pos h0]
  rw[hv]
  clear h0 hv
  have CR:=rright7_any p hcap w1 (HI.out _ HBw1.out)
  rw[hrt]at CR
  have HCR:=Lib.hid CR
  clear CR hrt hcap
  go_enter Tryz.func23,Tryz.ntmps23
  go_wp2_with fail
  simp only[HN.out.1,HN.out.2]
  refine HCR.out.mono ?_
  rintro e w2 ⟨rfl,hb⟩
  have HBw2:Hid (Below w1.heap.size w1 w2):=Lib.hid hb
  clear hb HCR q0 q1 q2 q3
  go_wp2_with fail
  refine bodyPost_ret (v:=.tuple #[.int .i64 0,.int .i64 1]) (by simp[results,Tryz.results23,go_sem]) rfl ?_
  exact⟨rfl,HBw.out _ HBw2.out⟩
 ·have hrt:rightB p=true:=by unfold rightB;simpa using h0
  have HRc:Hid (∀W,Below w1.heap.size w1 W→Calls Tryz.prog 58 #[p.val,.string ⟨rn.toArray⟩] W fun e w'=>e=.returned (.int .i64 (plI (recOf p rn)))∧Below W.heap.size W w'):=Lib.hid fun W hb=>rrecord5_any p rn W (HI.out _ hb)
  cases hr:recOf p rn with
  |none=>
   have hv:offsetS p rn nm=(0,9):=by unfold offsetS;rw[if_neg h0,hr]
   rw[hv]
   rw[hr]at HRc
   clear h0 hv hr
   have CR:=rright7_any p hcap w1 (HI.out _ HBw1.out)
   rw[hrt]at CR
   have HCR:=Lib.hid CR
   clear CR hrt hcap
   go_enter Tryz.func23,Tryz.ntmps23
   go_wp2_with fail
   simp only[HN.out.1,HN.out.2]
   refine HCR.out.mono ?_
   rintro e w2 ⟨rfl,hb⟩
   have HBw2:Hid (Below w1.heap.size w1 w2):=Lib.hid hb
   clear hb HCR q0 q1 q2 q3
   have row:=HX1.out _ HBw2.out
   have q0:=cell_at row 0
   have q1:=cell_at row 1
   have q2:=cell_at row 2
   have q3:=cell_at row 3
   simp only[sl7,sl8,sl9]at q0 q1 q2 q3
   clear row
   go_wp2_with fail
   refine (HRc.out _ HBw2.out).mono ?_
   rintro e w3 ⟨rfl,hb⟩
   have HBw3:=Lib.hid (HBw.out _ (HBw2.out.trans (hb.mono HBw2.out.size)))
   clear hb HRc q0 q1 q2 q3
   dsimp only[plI]
   go_wp2_with fail
   refine bodyPost_ret (v:=.tuple #[.int .i64 0,.int .i64 9]) (by simp[results,Tryz.results23,go_sem]) rfl ?_
   exact⟨rfl,HBw3.out⟩
  |some i=>
   have hil:=idxOf_lt _ _ _ _ hr
   obtain⟨r,hri⟩:∃r,p.rs[i]? =some r:=⟨_,List.getElem?_eq_getElem hil⟩
   obtain⟨R,hR⟩:∃R,offsetS p rn nm=R:=⟨_,rfl⟩
   rw[hR]
   have HR:Hid ((match idxFrom Fl.nm r.fs 0 nm with|some i=>((i:Int),(0:Int))|none=>(0,9))=R):=Lib.hid (by
    have hgd:(p.rs.map Re.fs).getD i []=r.fs:=by rw[List.getD_eq_getElem?_getD,List.getElem?_map,hri];rfl
    have hoff:offsetS p rn nm=if placeS r.fs nm<0 then (0,9) else (placeS r.fs nm,0):=by unfold offsetS;rw[if_neg h0,hr];dsimp only;rw[hgd]
    rw[idxFrom_zero,←hR,hoff]
    unfold placeS
    cases idxOf Fl.nm nm r.fs with
    |none=>rfl
    |some i=>
     dsimp only
     rw[if_neg (by omega)])
   have HF:Hid (∀W,Below w1.heap.size w1 W→FlsIn W W.heap.size r.d r.fs):=Lib.hid fun W hb=>((HI.out _ hb).rsub r (List.mem_of_getElem? hri)).fs
   have HRow:Hid (∀W,Below w1.heap.size w1 W→∃rb ro,p.rd.a=some ⟨rb,ro,none⟩∧W.cell? ⟨rb,ro+i*2+1,none⟩=some (.slice r.d.a r.fs.length r.d.c)):=Lib.hid fun W hb=>by
    obtain⟨rb,ro,hda,hrb,hrow⟩:=(HI.out _ hb).rrow (by intro h0;rw[h0]at hil;simp at hil)
    exact⟨rb,ro,hda,(hrow i r hri).2⟩
   have p4:(i:Int)<(p.rs.length:Int):=by omega
   have p5:(0:Int)≤(i:Int):=Int.natCast_nonneg _
   have p6:decide ((i:Int)<0)=false:=by simp
   have hlen:(r.fs.length:Int)≤140737488355328:=by have:=(HF.out _ HBw1.out).len;unfold lenOk at this;omega
   rw[hr]at HRc
   clear h0 hR hr hri hil
   have CR:=rright7_any p hcap w1 (HI.out _ HBw1.out)
   rw[hrt]at CR
   have HCR:=Lib.hid CR
   clear CR hrt hcap
   go_enter Tryz.func23,Tryz.ntmps23
   go_wp2_with fail
   simp only[HN.out.1,HN.out.2]
   refine HCR.out.mono ?_
   rintro e w2 ⟨rfl,hb⟩
   have HBw2:Hid (Below w1.heap.size w1 w2):=Lib.hid hb
   clear hb HCR q0 q1 q2 q3
   have row:=HX1.out _ HBw2.out
   have q0:=cell_at row 0
   have q1:=cell_at row 1
   have q2:=cell_at row 2
   have q3:=cell_at row 3
   simp only[sl7,sl8,sl9]at q0 q1 q2 q3
   clear row
   go_wp2_with fail
   refine (HRc.out _ HBw2.out).mono ?_
   rintro e w3 ⟨rfl,hb⟩
   have HBs:Hid (Below w1.heap.size w1 w3):=Lib.hid (HBw2.out.trans (hb.mono HBw2.out.size))
   clear hb HRc q0 q1 q2 q3
   dsimp only[plI]
   have q0:=cell_at (HX1.out _ HBs.out) 0
   simp only[sl7,sl8,sl9]at q0
   obtain⟨xb,xo,hxa,x0⟩:=HRow.out _ HBs.out
   rw[hxa]at q0
   clear HBw2
   go_wp2_with fail
   clear q0 x0
   go_loopw [10] (fun ii wr=>∃(j:Nat),ii=.int .i64 j∧j≤r.fs.length∧Hid (Below w1.heap.size w1 wr)∧Hid ((match idxFrom Fl.nm r.fs j nm with|some i=>((i:Int),(0:Int))|none=>(0,9))=R)) (fun ii _=>r.fs.length - (intOf ii).toNat)
   case atStart=>exact⟨0,rfl,Nat.zero_le _,HBs,HR⟩
   case round=>
    obtain⟨j,rfl,hj,hB,hC⟩:=hrel
    clear HR HBs
    have p2:(0:Int)≤(j:Int):=Int.natCast_nonneg _
    by_cases hlt:j<r.fs.length
    ·obtain⟨s,hs⟩:∃s,r.fs[j]? =some s:=⟨_,List.getElem?_eq_getElem hlt⟩
     obtain⟨rb,ro,hda,hrb,hrow⟩:=(HF.out _ hB.out).row (by intro h0;rw[h0]at hlt;simp at hlt)
     obtain⟨z0,z1,z2,z3⟩:=hrow j s hs
     have hC1:=hC.out
     rw[idxFrom_step Fl.nm r.fs j s hs]at hC1
     have p1:(j:Int)<(r.fs.length:Int):=by omega
     skip
     obtain⟨fnm,ft⟩:=s
     dsimp only at z0 z1 z2 z3 hC1
     clear hrow hs hC
     rw[hda]
     by_cases hnm:fnm=nm
     ·subst hnm
      rw[if_pos rfl]at hC1
      dsimp only at hC1
      obtain rfl:=hC1
      have HZ:=Lib.hid (HBw.out _ hB.out)
      clear hB
      go_wp2_with fail
      refine bodyPost_ret (v:=.tuple #[.int .i64 ((j:Int)),.int .i64 0]) (by simp[results,Tryz.results23,go_sem]) rfl ?_
      exact⟨rfl,HZ.out⟩
     ·exact qjrd1_4
    ·obtain rfl:j=r.fs.length:=by omega
     obtain rfl:((0:Int),(9:Int))=R:=by have h:=hC.out;rw[idxFrom_len]at h;exact h
     have HZ:=Lib.hid (HBw.out _ hB.out)
     skip
     clear hC hB
     go_wp2_with fail
     refine bodyPost_ret (v:=.tuple #[.int .i64 0,.int .i64 9]) (by simp[results,Tryz.results23,go_sem]) rfl ?_
     exact⟨rfl,HZ.out⟩
theorem tyForm_k {t:Ty} (h:tyForm t=0):t.k=1∨(t.k=2∧t.nm≠[])∨t.k=3:=by
 unfold tyForm at h
 split at h
 ·omega
 ·split at h
  ·next hh=>exact hh.elim (fun a=>.inl a.1) fun a=>.inr (.inl ⟨a.1,a.2.1⟩)
  ·split at h
   ·omega
   ·next hh=>exact .inr (.inr (by by_cases h3:t.k=3;exact h3;exact absurd (.inl h3) hh))
set_option maxHeartbeats 8000000 in
set_option maxRecDepth 100000 in
theorem rsize7_any (p:Pr) (hcap:CapP p) (k:Int) (nm:List UInt8) (n:Int) (w:World) (hI:PrIn w w.heap.size p) (hty:(⟨k,nm,n⟩:Ty).Ok):
  Calls Tryz.prog 22 #[p.val,.agg #[.int .u8 k,.string ⟨nm.toArray⟩,.int .i64 n]] w fun e w'=>e=.returned (.tuple #[.int .i64 (sizeS p ⟨k,nm,n⟩).1,.int .i64 (sizeS p ⟨k,nm,n⟩).2])∧Below w.heap.size w w':=by
 obtain⟨X,hX⟩:∃X,w.heap.size=X:=⟨_,rfl⟩
 obtain⟨w0,hw0⟩:∃w0,w.alloc (prObj p)=w0:=⟨_,rfl⟩
 obtain⟨Y,hY⟩:∃Y,w0.heap.size=Y:=⟨_,rfl⟩
 obtain⟨w1,hw1⟩:∃w1,w0.alloc (.cells #[.int .u8 k,.string ⟨nm.toArray⟩,.int .i64 n] 39 (0,0))=w1:=⟨_,rfl⟩
 have hb0:Below w.heap.size w w0:=by rw[←hw0];exact (Below.refl _ _).alloc (Nat.le_refl _) _
 have hb01:Below w0.heap.size w0 w1:=by rw[←hw1];exact (Below.refl _ _).alloc (Nat.le_refl _) _
 have s0:w0.heap.size=X+1:=by rw[←hw0,World.size_alloc,hX]
 have hb1:Below w.heap.size w w1:=hb0.trans (hb01.mono hb0.size)
 have y1:w1.heap[Y]? =some (.cells #[.int .u8 k,.string ⟨nm.toArray⟩,.int .i64 n] 39 (0,0)):=by rw[←hw1,←hY];exact heap_alloc_new w0 _
 have x1:w1.heap[X]? =some (prObj p):=(hb01.block X (by omega)).trans (by rw[←hw0,←hX];exact heap_alloc_new w _)
 have HX1:Hid (∀W',Below w1.heap.size w1 W'→W'.heap[X]? =some (prObj p)):=Lib.hid fun W' hb=>(hb.block X (lt_blk x1)).trans x1
 have HY1:Hid (∀W',Below w1.heap.size w1 W'→W'.heap[Y]? =some (.cells #[.int .u8 k,.string ⟨nm.toArray⟩,.int .i64 n] 39 (0,0))):=Lib.hid fun W' hb=>(hb.block Y (lt_blk y1)).trans y1
 have HBw:Hid (∀W',Below w1.heap.size w1 W'→Below w.heap.size w W'):=Lib.hid fun W' hb=>hb1.trans (hb.mono hb1.size)
 have HI:Hid (∀W',Below w1.heap.size w1 W'→PrIn W' W'.heap.size p):=Lib.hid fun W' hb=>hI.keep (hb1.trans (hb.mono hb1.size)) (hb1.trans (hb.mono hb1.size)).size
 have HNN:Hid (w.heap.size=X∧X+1=Y∧(w.alloc (prObj p)).alloc (.cells #[.int .u8 k,.string ⟨nm.toArray⟩,.int .i64 n] 39 (0,0))=w1):=Lib.hid ⟨hX,by omega,by rw[hw0,hw1]⟩
 have HBw1:Hid (Below w1.heap.size w1 w1):=Lib.hid (Below.refl _ _)
 have q0:=cell_at x1 0
 have q1:=cell_at x1 1
 have q2:=cell_at x1 2
 have q3:=cell_at x1 3
 simp only[sl7,sl8,sl9]at q0 q1 q2 q3
 rw[←hw1,←hw0,←hX]at q0 q1 q2 q3
 have HTF:Hid (∀W',Below w1.heap.size w1 W'→Calls Tryz.prog 57 #[.agg #[.int .u8 k,.string ⟨nm.toArray⟩,.int .i64 n]] W' fun e w'=>e=.returned (.int .i64 (tyForm ⟨k,nm,n⟩))∧Below W'.heap.size W' w'):=Lib.hid fun W' hb=>rtform_any ⟨k,nm,n⟩ hty W'
 have HRc:Hid (∀W,Below w1.heap.size w1 W→Calls Tryz.prog 58 #[p.val,.string ⟨nm.toArray⟩] W fun e w'=>e=.returned (.int .i64 (plI (recOf p nm)))∧Below W.heap.size W w'):=Lib.hid fun W hb=>rrecord5_any p nm W (HI.out _ hb)
 clear hX hw0 hw1 hY hb0 hb01 s0 hb1 y1 x1 hI hty
 have CR:=rright7_any p hcap w1 (HI.out _ HBw1.out)
 clear hcap
 by_cases h0:(typesCheck p).2≠0
 ·have hrt:rightB p=false:=by unfold rightB;simpa using h0
  have hv:sizeS p ⟨k,nm,n⟩=(0,1):=by unfold sizeS;rw[if_pos h0]
  rw[hv]
  rw[hrt]at CR
  have HCR:=Lib.hid CR
  clear h0 hv CR hrt
  go_enter Tryz.func22,Tryz.ntmps22
  go_wp2_with fail
  simp only[HNN.out.1,HNN.out.2.1,HNN.out.2.2]
  refine HCR.out.mono ?_
  rintro e w2 ⟨rfl,hb⟩
  have HBw2:=Lib.hid hb
  clear hb HCR q0 q1 q2 q3
  go_wp2_with fail
  refine bodyPost_ret (v:=.tuple #[.int .i64 (0),.int .i64 1]) (by simp[results,Tryz.results22,go_sem]) rfl ?_
  exact⟨rfl,HBw.out _ HBw2.out⟩
 have hrt:rightB p=true:=by unfold rightB;simpa using h0
 rw[hrt]at CR
 have HCR:=Lib.hid CR
 have hv0:sizeS p ⟨k,nm,n⟩=(if tyForm ⟨k,nm,n⟩≠0 then ((0:Int),(10:Int)) else if k=1 then (0,10) else if k=3∧nm=[] then (n,0) else match recOf p nm with|none=>(0,9)|some i=>if k=3 then (n,0) else ((((p.rs.map Re.fs).getD i []).length:Int),0)):=by unfold sizeS;rw[if_neg h0];rfl
 have hfk:=@tyForm_k ⟨k,nm,n⟩
 rw[hv0]
 clear h0 hv0 CR hrt
 generalize tyForm ⟨k,nm,n⟩=tf at*
 dsimp only at hfk
 by_cases hk:k=2∨k=3
 ·by_cases hf:tf≠0
  ·rw[if_pos hf]
   have t1:(tf==0)=false:=by simpa using hf
   clear hfk hf
   rcases hk with hk2|hk3
   ·subst hk2
    exact qjrd1_2
   ·subst hk3
    exact qjrd1_2
  have hf0:tf=0:=Decidable.not_not.1 hf
  rw[if_neg hf,if_neg (by omega)]
  have hfk2:=hfk hf0
  clear hf hfk
  subst hf0
  rcases hk with hk2|hk3
  ·subst hk2
   have hn:nm≠[]:=by
    rcases hfk2 with h|h|h
    ·omega
    ·exact h.2
    ·omega
   have t4:nm.isEmpty=false:=by simpa using hn
   rw[if_neg (fun h=>absurd h.1 (by decide))]
   cases hr:recOf p nm with
   |none=>
    exact qjrd1_1
   |some i=>
    dsimp only
    rw[if_neg (by decide)]
    have hil:=idxOf_lt _ _ _ _ hr
    obtain⟨r,hri⟩:∃r,p.rs[i]? =some r:=⟨_,List.getElem?_eq_getElem hil⟩
    have hgd:(p.rs.map Re.fs).getD i []=r.fs:=by rw[List.getD_eq_getElem?_getD,List.getElem?_map,hri];rfl
    rw[hgd]
    have HRow:Hid (∀W,Below w1.heap.size w1 W→∃rb ro,p.rd.a=some ⟨rb,ro,none⟩∧W.cell? ⟨rb,ro+i*2+1,none⟩=some (.slice r.d.a r.fs.length r.d.c)):=Lib.hid fun W hb=>by
     obtain⟨rb,ro,hda,hrb,hrow⟩:=(HI.out _ hb).rrow (by intro h0;rw[h0]at hil;simp at hil)
     exact⟨rb,ro,hda,(hrow i r hri).2⟩
    have p4:(i:Int)<(p.rs.length:Int):=by omega
    have p5:(0:Int)≤(i:Int):=Int.natCast_nonneg _
    have p6:decide ((i:Int)<0)=false:=by simp
    rw[hr]at HRc
    obtain⟨xb,xo,hxa,-⟩:=HRow.out _ HBw1.out
    have HRx:Hid (∀W,Below w1.heap.size w1 W→W.cell? ⟨xb,xo+i*2+1,none⟩=some (.slice r.d.a r.fs.length r.d.c)):=Lib.hid fun W hb=>by
     obtain⟨rb,ro,hda,h⟩:=HRow.out _ hb
     rw[hxa]at hda
     injection hda with hda
     injection hda with h1 h2
     subst h1 h2
     exact h
    have HXx:Hid (∀W,Below w1.heap.size w1 W→W.cell? ⟨X,0,none⟩=some (.slice (some ⟨xb,xo,none⟩) p.rs.length p.rd.c)∧W.cell? ⟨X,1,none⟩=some (.slice p.sd.a p.ss.length p.sd.c)∧W.cell? ⟨X,2,none⟩=some (.slice p.fd.a p.fs.length p.fd.c)∧W.cell? ⟨X,3,none⟩=some (.slice p.td.a p.ts.length p.td.c)):=Lib.hid fun W hb=>by
     rw[←hxa]
     have row:=HX1.out _ hb
     exact⟨cell_at row 0,cell_at row 1,cell_at row 2,cell_at row 3⟩
    have HYx:Hid (∀W,Below w1.heap.size w1 W→W.cell? ⟨Y,1,none⟩=some (.string ⟨nm.toArray⟩)):=Lib.hid fun W hb=>cell_at (HY1.out _ hb) 1
    have HRd:Hid (∀W,Below w1.heap.size w1 W→Calls Tryz.prog 58 #[.agg #[.slice (some ⟨xb,xo,none⟩) p.rs.length p.rd.c,.slice p.sd.a p.ss.length p.sd.c,.slice p.fd.a p.fs.length p.fd.c,.slice p.td.a p.ts.length p.td.c],.string ⟨nm.toArray⟩] W fun e w'=>e=.returned (.int .i64 (i:Int))∧Below W.heap.size W w'):=Lib.hid fun W hb=>by rw[←hxa];exact HRc.out _ hb
    clear hfk2 hn hr hil hri hgd HRow hxa
    go_enter Tryz.func22,Tryz.ntmps22
    go_wp2_with fail
    simp only[HNN.out.1,HNN.out.2.1,HNN.out.2.2]
    refine HCR.out.mono ?_
    rintro e w2 ⟨rfl,hb⟩
    have HBw2:Hid (Below w1.heap.size w1 w2):=Lib.hid hb
    clear hb HCR q0 q1 q2 q3
    have row:=HY1.out _ HBw2.out
    have y0:=cell_at row 0
    have y1:=cell_at row 1
    have y2:=cell_at row 2
    simp only[sl7,sl8,sl9]at y0 y1 y2
    clear row
    go_wp2_with fail
    refine (HTF.out _ HBw2.out).mono ?_
    rintro e w3 ⟨rfl,hb⟩
    have HBw3:Hid (Below w1.heap.size w1 w3):=Lib.hid (HBw2.out.trans (hb.mono HBw2.out.size))
    clear hb HTF y0 y1 y2
    have row:=HY1.out _ HBw3.out
    have y0:=cell_at row 0
    have y1:=cell_at row 1
    have y2:=cell_at row 2
    simp only[sl7,sl8,sl9]at y0 y1 y2
    clear row
    have row:=HX1.out _ HBw3.out
    have q0:=cell_at row 0
    have q1:=cell_at row 1
    have q2:=cell_at row 2
    have q3:=cell_at row 3
    simp only[sl7,sl8,sl9]at q0 q1 q2 q3
    clear row
    go_wp2_with fail
    refine (HRc.out _ HBw3.out).mono ?_
    rintro e w4 ⟨rfl,hb⟩
    have HBw4:Hid (Below w1.heap.size w1 w4):=Lib.hid (HBw3.out.trans (hb.mono HBw3.out.size))
    clear hb q0 q1 q2 q3 y0 y1 y2
    have row:=HY1.out _ HBw4.out
    have y0:=cell_at row 0
    have y1:=cell_at row 1
    have y2:=cell_at row 2
    simp only[sl7,sl8,sl9]at y0 y1 y2
    clear row
    dsimp only[plI]
    go_wp2_with fail
    have HBd:Hid (∀W,Below w4.heap.size w4 W→Below w1.heap.size w1 W):=Lib.hid fun W hb=>HBw4.out.trans (hb.mono HBw4.out.size)
    clear y0 y1 y2
    refine wp_region_L (l:=11) (S:=(Below w4.heap.size w4)) (by kernel_rfl) ?_ (fun hHeld=>?_)
    ·((try dsimp only);(exact (Below.refl _ _).drew))
    refine tk 0 ?_
    try simp only[sl1,sl2,sl3,Act.put,sl4,sl5,sl6]
    refine tk 1 ?_ (h2:=by(intro W hSw;obtain⟨q0,q1,q2,q3⟩:=HXx.out W (HBd.out W hSw);clear hSw;go_simp;all_goals with_reducible rfl))
    try simp only[sl1,sl2,sl3,Act.put,sl4,sl5,sl6]
    refine tk 2 ?_ (h2:=by(intro W hSw;obtain⟨q0,q1,q2,q3⟩:=HXx.out W (HBd.out W hSw);clear hSw;go_simp;all_goals with_reducible rfl))
    try simp only[sl1,sl2,sl3,Act.put,sl4,sl5,sl6]
    refine tk 3 ?_
    try simp only[sl1,sl2,sl3,Act.put,sl4,sl5,sl6]
    refine tk 4 ?_ (h2:=by(intro W hSw;have y1:=HYx.out W (HBd.out W hSw);clear hSw;go_simp;all_goals with_reducible rfl))
    try simp only[sl1,sl2,sl3,Act.put,sl4,sl5,sl6]
    refine wpAnyL_step (j:=5) (o:=_) (by kernel_rfl) rfl (fun K hK=>?_)
    (go_simp;go_at_call 58;refine (HRd.out _ (HBd.out _ (Below.refl _ _).drew)).mono ?_;rintro e w5 ⟨rfl,hb⟩;have HB5:Hid (Below w4.heap.size w4 w5):=Lib.hid ((Below.refl _ _).drew.trans hb);clear hb)
    refine hK _ _ ?_ (fun hHeld=>?_)
    ·((try dsimp only);(exact HB5.out))
    clear hK K
    try simp only[sl1,sl2,sl3,Act.put,sl4,sl5,sl6]
    refine tk 6 ?_
    try simp only[sl1,sl2,sl3,Act.put,sl4,sl5,sl6]
    refine tk 7 ?_
    try simp only[sl1,sl2,sl3,Act.put,sl4,sl5,sl6]
    refine tk 8 ?_ (h2:=by(intro W hSw;have x8:=HRx.out W (HBd.out W hSw);clear hSw;go_simp;all_goals with_reducible rfl))
    try simp only[sl1,sl2,sl3,Act.put,sl4,sl5,sl6]
    refine tk 9 ?_
    try simp only[sl1,sl2,sl3,Act.put,sl4,sl5,sl6]
    refine wpAnyL_step (j:=10) (o:=_) (by kernel_rfl) rfl (fun K hK=>?_)
    go_simp
    refine hK _ _ ?_ (fun hHeld=>?_)
    ·((try dsimp only);(exact HB5.out))
    clear hK K
    try simp only[sl1,sl2,sl3,Act.put,sl4,sl5,sl6]
    refine wpAnyL_last (j:=11) (o:=_) (by kernel_rfl) rfl (by rfl) (by kernel_rfl) (fun K hK=>?_)
    go_simp
    (refine hK _ _ ?_;clear hK K)
    try simp only[sl1,sl2,sl3,Act.put,sl4,sl5,sl6]
    have HBw5:=Lib.hid (HBd.out _ HB5.out)
    go_wp2_with fail
    refine bodyPost_ret (v:=.tuple #[.int .i64 (r.fs.length:Int),.int .i64 0]) (by simp[results,Tryz.results22,go_sem]) rfl ?_
    exact⟨rfl,HBw.out _ HBw5.out⟩
  ·subst hk3
   by_cases hn:nm=[]
   ·rw[if_pos ⟨rfl,hn⟩]
    subst hn
    clear hfk2 HRc
    go_enter Tryz.func22,Tryz.ntmps22
    go_wp2_with fail
    simp only[HNN.out.1,HNN.out.2.1,HNN.out.2.2]
    refine HCR.out.mono ?_
    rintro e w2 ⟨rfl,hb⟩
    have HBw2:Hid (Below w1.heap.size w1 w2):=Lib.hid hb
    clear hb HCR q0 q1 q2 q3
    have row:=HY1.out _ HBw2.out
    have y0:=cell_at row 0
    have y1:=cell_at row 1
    have y2:=cell_at row 2
    simp only[sl7,sl8,sl9]at y0 y1 y2
    clear row
    go_wp2_with fail
    refine (HTF.out _ HBw2.out).mono ?_
    rintro e w3 ⟨rfl,hb⟩
    have HBw3:Hid (Below w1.heap.size w1 w3):=Lib.hid (HBw2.out.trans (hb.mono HBw2.out.size))
    clear hb HTF y0 y1 y2
    have row:=HY1.out _ HBw3.out
    have y0:=cell_at row 0
    have y1:=cell_at row 1
    have y2:=cell_at row 2
    simp only[sl7,sl8,sl9]at y0 y1 y2
    clear row
    have row:=HX1.out _ HBw3.out
    have q0:=cell_at row 0
    have q1:=cell_at row 1
    have q2:=cell_at row 2
    have q3:=cell_at row 3
    simp only[sl7,sl8,sl9]at q0 q1 q2 q3
    clear row
    go_wp2_with fail
    refine bodyPost_ret (v:=.tuple #[.int .i64 (n),.int .i64 0]) (by simp[results,Tryz.results22,go_sem]) rfl ?_
    exact⟨rfl,HBw.out _ HBw3.out⟩
   rw[if_neg (fun h=>hn h.2)]
   have t4:nm.isEmpty=false:=by simpa using hn
   cases hr:recOf p nm with
   |none=>
    exact qjrd1_1
   |some i=>
    dsimp only
    rw[if_pos rfl]
    rw[hr]at HRc
    have p6:decide ((i:Int)<0)=false:=by simp
    clear hfk2 hn hr
    go_enter Tryz.func22,Tryz.ntmps22
    go_wp2_with fail
    simp only[HNN.out.1,HNN.out.2.1,HNN.out.2.2]
    refine HCR.out.mono ?_
    rintro e w2 ⟨rfl,hb⟩
    have HBw2:Hid (Below w1.heap.size w1 w2):=Lib.hid hb
    clear hb HCR q0 q1 q2 q3
    have row:=HY1.out _ HBw2.out
    have y0:=cell_at row 0
    have y1:=cell_at row 1
    have y2:=cell_at row 2
    simp only[sl7,sl8,sl9]at y0 y1 y2
    clear row
    go_wp2_with fail
    refine (HTF.out _ HBw2.out).mono ?_
    rintro e w3 ⟨rfl,hb⟩
    have HBw3:Hid (Below w1.heap.size w1 w3):=Lib.hid (HBw2.out.trans (hb.mono HBw2.out.size))
    clear hb HTF y0 y1 y2
    have row:=HY1.out _ HBw3.out
    have y0:=cell_at row 0
    have y1:=cell_at row 1
    have y2:=cell_at row 2
    simp only[sl7,sl8,sl9]at y0 y1 y2
    clear row
    have row:=HX1.out _ HBw3.out
    have q0:=cell_at row 0
    have q1:=cell_at row 1
    have q2:=cell_at row 2
    have q3:=cell_at row 3
    simp only[sl7,sl8,sl9]at q0 q1 q2 q3
    clear row
    go_wp2_with fail
    refine (HRc.out _ HBw3.out).mono ?_
    rintro e w4 ⟨rfl,hb⟩
    have HBw4:Hid (Below w1.heap.size w1 w4):=Lib.hid (HBw3.out.trans (hb.mono HBw3.out.size))
    clear hb q0 q1 q2 q3 y0 y1 y2
    have row:=HY1.out _ HBw4.out
    have y0:=cell_at row 0
    have y1:=cell_at row 1
    have y2:=cell_at row 2
    simp only[sl7,sl8,sl9]at y0 y1 y2
    clear row
    dsimp only[plI]
    go_wp2_with fail
    refine bodyPost_ret (v:=.tuple #[.int .i64 (n),.int .i64 0]) (by simp[results,Tryz.results22,go_sem]) rfl ?_
    exact⟨rfl,HBw.out _ HBw4.out⟩
 ·have hr:(if tf≠0 then ((0:Int),(10:Int)) else if k=1 then (0,10) else if k=3∧nm=[] then (n,0) else match recOf p nm with|none=>(0,9)|some i=>if k=3 then (n,0) else ((((p.rs.map Re.fs).getD i []).length:Int),0))=(0,10):=by
   by_cases hf:tf=0
   ·rw[if_neg (not_not_intro hf),if_pos (by have:=hfk hf;omega)]
   ·rw[if_pos hf]
  rw[hr]
  have n2:¬k=2:=fun h=>hk (.inl h)
  have n3:¬k=3:=fun h=>hk (.inr h)
  clear hr hk hfk HRc HTF
  go_enter Tryz.func22,Tryz.ntmps22
  go_wp2_with fail
  simp only[HNN.out.1,HNN.out.2.1,HNN.out.2.2]
  refine HCR.out.mono ?_
  rintro e w2 ⟨rfl,hb⟩
  have HBw2:Hid (Below w1.heap.size w1 w2):=Lib.hid hb
  clear hb HCR q0 q1 q2 q3
  have row:=HY1.out _ HBw2.out
  have y0:=cell_at row 0
  have y1:=cell_at row 1
  have y2:=cell_at row 2
  simp only[sl7,sl8,sl9]at y0 y1 y2
  clear row
  go_wp2_with fail
  refine bodyPost_ret (v:=.tuple #[.int .i64 (0),.int .i64 10]) (by simp[results,Tryz.results22,go_sem]) rfl ?_
  exact⟨rfl,HBw.out _ HBw2.out⟩
end Go.Proofs.YtkklogikakcanaaGreatDoor
