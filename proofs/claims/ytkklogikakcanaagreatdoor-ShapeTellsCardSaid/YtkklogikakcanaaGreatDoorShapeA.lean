import Derived.Test.YtkklogikakcanaaGreatDoorTyFirst
import Derived.Test.YtkklogikakcanaaGreatDoorShapePlain
set_option linter.unusedVariables false
set_option linter.unusedSimpArgs false
open List renaming getElem?_toArray → sl7, getElem?_cons_zero → sl8, getElem?_cons_succ → sl9
namespace Go.Proofs.YtkklogikakcanaaGreatDoor
open Go Go.RowKit
theorem qxaay_3 {P:Prop} (h:P:=by
 clear h0
 go_enter Tryz.func52,Tryz.ntmps52
 go_wp2_with fail
 simp only[HN.out.1,HN.out.2]
 refine HC.out.mono ?_
 rintro e w2 ⟨rfl,hb⟩
 have HB:=Lib.hid (HBw.out _ hb)
 clear hb HC q0 q1 q2 q3
 go_wp2_with fail
 go_ret
 exact⟨rfl,HB.out⟩):P:=h
theorem qxaay_2 {P:Prop} (h:P:=by
 go_enter Tryz.func18,Tryz.ntmps18
 go_wp2_with fail
 simp only[HNN.out.1,HNN.out.2.1,HNN.out.2.2]
 refine HCR.out.mono ?_
 rintro e w2 ⟨rfl,hb⟩
 have HBw2:Hid (Below w1.heap.size w1 w2):=Lib.hid hb
 clear hb HCR q0 q1 q2 q3
 have row:=HY1.out _ HBw2.out
 have y0:=cell_at row 0
 have y1:=cell_at row 1
 have y2:=cell_at row 2
 simp only[sl7,sl8,sl9]at y0 y1 y2
 clear row
 go_wp2_with fail
 refine (HTF.out _ HBw2.out).mono ?_
 rintro e w3 ⟨rfl,hb⟩
 have HBw3:Hid (Below w1.heap.size w1 w3):=Lib.hid (HBw2.out.trans (hb.mono HBw2.out.size))
 clear hb HTF y0 y1 y2
 have row:=HY1.out _ HBw3.out
 have y0:=cell_at row 0
 have y1:=cell_at row 1
 have y2:=cell_at row 2
 simp only[sl7,sl8,sl9]at y0 y1 y2
 clear row
 have row:=HX1.out _ HBw3.out
 have q0:=cell_at row 0
 have q1:=cell_at row 1
 have q2:=cell_at row 2
 have q3:=cell_at row 3
 simp only[sl7,sl8,sl9]at q0 q1 q2 q3
 clear row
 go_wp2_with fail
 refine bodyPost_ret (v:=.tuple #[.int .i64 0,.int .i64 10]) (by simp[results,Tryz.results18,go_sem]) rfl ?_
 exact⟨rfl,HBw.out _ HBw3.out⟩):P:=h
theorem qxaay_1 {P:Prop} (h:P:=by
 have HRc:Hid (∀W,Below w1.heap.size w1 W→Calls Tryz.prog 55 #[p.val,.string ⟨nm.toArray⟩] W fun e w'=>e=.returned (.tuple #[.agg #[.string ⟨#[]⟩,.slice none 0 0],.int .i64 9])∧Below W.heap.size W w'):=Lib.hid fun W hb=>by
  have h:=record_any p nm W (HI.out _ hb)
  rw[recR_none hr]at h
  exact h
 dsimp only
 clear hr hk3 hk3'
 go_enter Tryz.func18,Tryz.ntmps18
 go_wp2_with fail
 simp only[HNN.out.1,HNN.out.2.1,HNN.out.2.2]
 refine HCR.out.mono ?_
 rintro e w2 ⟨rfl,hb⟩
 have HBw2:Hid (Below w1.heap.size w1 w2):=Lib.hid hb
 clear hb HCR q0 q1 q2 q3
 have row:=HY1.out _ HBw2.out
 have y0:=cell_at row 0
 have y1:=cell_at row 1
 have y2:=cell_at row 2
 simp only[sl7,sl8,sl9]at y0 y1 y2
 clear row
 go_wp2_with fail
 refine (HTF.out _ HBw2.out).mono ?_
 rintro e w3 ⟨rfl,hb⟩
 have HBw3:Hid (Below w1.heap.size w1 w3):=Lib.hid (HBw2.out.trans (hb.mono HBw2.out.size))
 clear hb HTF y0 y1 y2
 have row:=HY1.out _ HBw3.out
 have y0:=cell_at row 0
 have y1:=cell_at row 1
 have y2:=cell_at row 2
 simp only[sl7,sl8,sl9]at y0 y1 y2
 clear row
 have row:=HX1.out _ HBw3.out
 have q0:=cell_at row 0
 have q1:=cell_at row 1
 have q2:=cell_at row 2
 have q3:=cell_at row 3
 simp only[sl7,sl8,sl9]at q0 q1 q2 q3
 clear row
 go_wp2_with fail
 refine (HRc.out _ HBw3.out).mono ?_
 rintro e w4 ⟨rfl,hb⟩
 have HB4:Hid (∀o,Below w.heap.size w (w4.alloc o)):=Lib.hid fun o=>by
  have h:=HBw.out _ (HBw3.out.trans (hb.mono HBw3.out.size))
  exact h.alloc h.size o
 clear hb HRc q0 q1 q2 q3 y0 y1 y2
 go_wp2_with fail
 refine bodyPost_ret (v:=.tuple #[.int .i64 0,.int .i64 9]) (by simp[results,Tryz.results18,go_sem]) rfl ?_
 exact⟨rfl,HB4.out _⟩):P:=h
def rightS (p:Pr):Int:=if (typesCheck p).2≠0 then 1 else 0
set_option maxHeartbeats 4000000 in
set_option maxRecDepth 100000 in
theorem right_any (p:Pr) (w:World) (hI:PrIn w w.heap.size p) (G:TyG w.heap.size w):
  Calls Tryz.prog 52 #[p.val] w fun e w'=>e=.returned (.int .i64 (rightS p))∧Below w.heap.size w w':=by
 obtain⟨X,hX⟩:∃X,w.heap.size=X:=⟨_,rfl⟩
 obtain⟨w1,hw1⟩:∃w1,w.alloc (prObj p)=w1:=⟨_,rfl⟩
 have hb1:Below w.heap.size w w1:=by rw[←hw1];exact (Below.refl _ _).alloc (Nat.le_refl _) _
 have x1:w1.heap[X]? =some (prObj p):=by rw[←hw1,←hX];exact heap_alloc_new w _
 have HX1:Hid (∀W',Below w1.heap.size w1 W'→W'.heap[X]? =some (prObj p)):=Lib.hid fun W' hb=>(hb.block X (lt_blk x1)).trans x1
 have HBw:Hid (∀W',Below w1.heap.size w1 W'→Below w.heap.size w W'):=Lib.hid fun W' hb=>hb1.trans (hb.mono hb1.size)
 have HG:Hid (∀W',Below w1.heap.size w1 W'→TyG W'.heap.size W'):=Lib.hid fun W' hb=>(G.below (hb1.trans (hb.mono hb1.size))).1
 have HI:Hid (∀W',Below w1.heap.size w1 W'→PrIn W' W'.heap.size p):=Lib.hid fun W' hb=>hI.keep (hb1.trans (hb.mono hb1.size)) (hb1.trans (hb.mono hb1.size)).size
 have HN:=Lib.hid (And.intro hX hw1)
 have HBw1:Hid (Below w1.heap.size w1 w1):=Lib.hid (Below.refl _ _)
 have q0:=cell_at x1 0
 have q1:=cell_at x1 1
 have q2:=cell_at x1 2
 have q3:=cell_at x1 3
 simp only[sl7,sl8,sl9]at q0 q1 q2 q3
 rw[←hw1,←hX]at q0 q1 q2 q3
 clear hX hw1 hb1 x1 hI G
 have g1:=HG.out _ HBw1.out
 have CC:=typesCheck_any w1.heap.size p w1 g1.gl g1.num (HI.out _ HBw1.out)
 obtain⟨at_,er,hT⟩:∃a b,typesCheck p=(a,b):=⟨_,_,rfl⟩
 have hr:rightS p=if er≠0 then 1 else 0:=by unfold rightS;rw[hT]
 rw[hr]
 rw[hT]at CC
 have HC:=Lib.hid CC
 clear CC g1 hT hr
 by_cases h0:er=0
 ·have e0:(er==0)=true:=by simpa using h0
  rw[if_neg (by simpa using h0)]
  exact qxaay_3
 ·have e0:(er==0)=false:=by simpa using h0
  rw[if_pos h0]
  exact qxaay_3
set_option maxHeartbeats 4000000 in
set_option maxRecDepth 100000 in
theorem words_any (p:Pr) (w:World) (hI:PrIn w w.heap.size p) (G:TyG w.heap.size w):
  Calls Tryz.prog 16 #[p.val] w fun e w'=>e=.returned (.tuple #[.int .i64 (wordsS p).1,.int .i64 (wordsS p).2])∧Below w.heap.size w w':=by
 obtain⟨X,hX⟩:∃X,w.heap.size=X:=⟨_,rfl⟩
 obtain⟨w1,hw1⟩:∃w1,w.alloc (prObj p)=w1:=⟨_,rfl⟩
 have hb1:Below w.heap.size w w1:=by rw[←hw1];exact (Below.refl _ _).alloc (Nat.le_refl _) _
 have x1:w1.heap[X]? =some (prObj p):=by rw[←hw1,←hX];exact heap_alloc_new w _
 have HX1:Hid (∀W',Below w1.heap.size w1 W'→W'.heap[X]? =some (prObj p)):=Lib.hid fun W' hb=>(hb.block X (lt_blk x1)).trans x1
 have HBw:Hid (∀W',Below w1.heap.size w1 W'→Below w.heap.size w W'):=Lib.hid fun W' hb=>hb1.trans (hb.mono hb1.size)
 have HG:Hid (∀W',Below w1.heap.size w1 W'→TyG W'.heap.size W'):=Lib.hid fun W' hb=>(G.below (hb1.trans (hb.mono hb1.size))).1
 have HI:Hid (∀W',Below w1.heap.size w1 W'→PrIn W' W'.heap.size p):=Lib.hid fun W' hb=>hI.keep (hb1.trans (hb.mono hb1.size)) (hb1.trans (hb.mono hb1.size)).size
 have HN:=Lib.hid (And.intro hX hw1)
 have HBw1:Hid (Below w1.heap.size w1 w1):=Lib.hid (Below.refl _ _)
 have q0:=cell_at x1 0
 have q1:=cell_at x1 1
 have q2:=cell_at x1 2
 have q3:=cell_at x1 3
 simp only[sl7,sl8,sl9]at q0 q1 q2 q3
 rw[←hw1,←hX]at q0 q1 q2 q3
 clear hX hw1 hb1 x1 hI G
 by_cases h0:(typesCheck p).2≠0
 ·skip
  have hrt:rightS p=1:=by unfold rightS;rw[if_pos h0]
  have hv:wordsS p=(0,1):=by unfold wordsS;rw[if_pos h0]
  rw[hv]
  clear h0 hv
  have CR:=right_any p w1 (HI.out _ HBw1.out) (HG.out _ HBw1.out)
  rw[hrt]at CR
  have HCR:=Lib.hid CR
  clear CR
  go_enter Tryz.func16,Tryz.ntmps16
  go_wp2_with fail
  simp only[HN.out.1,HN.out.2]
  refine HCR.out.mono ?_
  rintro e w2 ⟨rfl,hb⟩
  have HBw2:Hid (Below w1.heap.size w1 w2):=Lib.hid hb
  clear hb HCR q0 q1 q2 q3
  go_wp2_with fail
  refine bodyPost_ret (v:=.tuple #[.int .i64 0,.int .i64 1]) (by simp[results,Tryz.results16,go_sem]) rfl ?_
  exact⟨rfl,HBw.out _ HBw2.out⟩
 ·have hrt:rightS p=0:=by unfold rightS;rw[if_neg h0]
  have hv:wordsS p=((p.ss.length:Int),0):=by unfold wordsS;rw[if_neg h0]
  rw[hv]
  clear h0 hv
  have CR:=right_any p w1 (HI.out _ HBw1.out) (HG.out _ HBw1.out)
  rw[hrt]at CR
  have HCR:=Lib.hid CR
  clear CR
  go_enter Tryz.func16,Tryz.ntmps16
  go_wp2_with fail
  simp only[HN.out.1,HN.out.2]
  refine HCR.out.mono ?_
  rintro e w2 ⟨rfl,hb⟩
  have HBw2:Hid (Below w1.heap.size w1 w2):=Lib.hid hb
  clear hb HCR q0 q1 q2 q3
  have row:=HX1.out _ HBw2.out
  have q0:=cell_at row 0
  have q1:=cell_at row 1
  have q2:=cell_at row 2
  have q3:=cell_at row 3
  simp only[sl7,sl8,sl9]at q0 q1 q2 q3
  clear row
  go_wp2_with fail
  refine bodyPost_ret (v:=.tuple #[.int .i64 (p.ss.length:Int),.int .i64 0]) (by simp[results,Tryz.results16,go_sem]) rfl ?_
  exact⟨rfl,HBw.out _ HBw2.out⟩
set_option maxHeartbeats 4000000 in
set_option maxRecDepth 100000 in
theorem place_any (d:Hd) (l:List Fl) (nm:List UInt8) (w:World) (hI:FlsIn w w.heap.size d l):
  Calls Tryz.prog 53 #[.slice d.a l.length d.c,.string ⟨nm.toArray⟩] w fun e w'=>e=.returned (.int .i64 (placeS l nm))∧Below w.heap.size w w':=by
 obtain⟨R,hR⟩:∃R,placeS l nm=R:=⟨_,rfl⟩
 rw[hR]
 have HR:Hid ((match idxFrom Fl.nm l 0 nm with|some i=>(i:Int)|none=>-1)=R):=Lib.hid (by rw[idxFrom_zero];exact hR)
 have HI:Hid (∀W,Below w.heap.size w W→FlsIn W w.heap.size d l):=Lib.hid fun W hb=>hI.keep hb (Nat.le_refl _)
 have hlen:l.length≤140737488355328:=hI.len
 clear hR hI
 go_enter Tryz.func53,Tryz.ntmps53
 go_wp2_with fail
 go_loopw [9] (fun ii wr=>∃(j:Nat),ii=.int .i64 j∧j≤l.length∧Hid (Below w.heap.size w wr)∧Hid ((match idxFrom Fl.nm l j nm with|some i=>(i:Int)|none=>-1)=R)) (fun ii _=>l.length - (intOf ii).toNat)
 case atStart=>exact⟨0,rfl,Nat.zero_le _,Lib.hid (Below.refl _ _),HR⟩
 case round=>
  obtain⟨j,rfl,hj,hB,hC⟩:=hrel
  clear HR
  have p2:(0:Int)≤(j:Int):=Int.natCast_nonneg _
  by_cases hlt:j<l.length
  ·obtain⟨s,hs⟩:∃s,l[j]? =some s:=⟨_,List.getElem?_eq_getElem hlt⟩
   obtain⟨rb,ro,hda,hrb,hrow⟩:=(HI.out _ hB.out).row (by intro h0;rw[h0]at hlt;simp at hlt)
   obtain⟨z0,z1,z2,z3⟩:=hrow j s hs
   have hC1:=hC.out
   rw[idxFrom_step Fl.nm l j s hs]at hC1
   have p1:(j:Int)<(l.length:Int):=by omega
   have HBa:Hid (∀o,Below w.heap.size w (wr.alloc o)):=Lib.hid fun o=>hB.out.alloc hB.out.size o
   obtain⟨fnm,ft⟩:=s
   dsimp only at z0 z1 z2 z3 hC1
   clear hrow hs hC hB
   by_cases hnm:fnm=nm
   ·subst hnm
    obtain rfl:(j:Int)=R:=by rw[if_pos rfl]at hC1;exact hC1
    clear hC1
    rw[hda]
    go_wp2_with fail
    go_ret
    exact⟨rfl,HBa.out _⟩
   ·rw[if_neg (fun h=>hnm h.symm)]at hC1
    have HC1:=Lib.hid hC1
    have e1:(fnm==nm)=false:=by simpa using hnm
    clear hC1
    rw[hda]
    go_wp2_with fail
    go_roundw
    case rel=>exact⟨j+1,by go_num,by omega,Lib.hid (HBa.out _),HC1⟩
    case measure=>simp[intOf];omega
  ·obtain rfl:j=l.length:=by omega
   obtain rfl:(-1:Int)=R:=by have h:=hC.out;rw[idxFrom_len]at h;exact h
   have HZ:=Lib.hid hB.out
   clear hC hB
   go_wp2_with fail
   go_ret
   exact⟨rfl,HZ.out⟩
def z0R:Re:=⟨[],hdN,[]⟩
def recR (p:Pr) (nm:List UInt8):Re×Int:=match recOf p nm with|some i=>(p.rs.getD i z0R,0)|none=>(z0R,9)
set_option maxHeartbeats 4000000 in
set_option maxRecDepth 100000 in
theorem record_any (p:Pr) (nm:List UInt8) (w:World) (hI:PrIn w w.heap.size p):
  Calls Tryz.prog 55 #[p.val,.string ⟨nm.toArray⟩] w fun e w'=>e=.returned (.tuple #[(recR p nm).1.val,.int .i64 (recR p nm).2])∧Below w.heap.size w w':=by
 obtain⟨R,hR⟩:∃R,recR p nm=R:=⟨_,rfl⟩
 rw[hR]
 have HR:Hid ((match idxFrom Re.nm p.rs 0 nm with|some i=>(p.rs.getD i z0R,(0:Int))|none=>(z0R,9))=R):=Lib.hid (by rw[idxFrom_zero];exact hR)
 obtain⟨X,hX⟩:∃X,w.heap.size=X:=⟨_,rfl⟩
 obtain⟨w0,hw0⟩:∃w0,w.alloc (prObj p)=w0:=⟨_,rfl⟩
 obtain⟨w1,hw1⟩:∃w1,w0.alloc (.cells #[.string ⟨#[]⟩,.slice none 0 0] 58 (0,0))=w1:=⟨_,rfl⟩
 obtain⟨Y,hY⟩:∃Y,w0.heap.size=Y:=⟨_,rfl⟩
 have hb0:Below w.heap.size w w0:=by rw[←hw0];exact (Below.refl _ _).alloc (Nat.le_refl _) _
 have hb01:Below w0.heap.size w0 w1:=by rw[←hw1];exact (Below.refl _ _).alloc (Nat.le_refl _) _
 have s0:w0.heap.size=X+1:=by rw[←hw0,World.size_alloc,hX]
 have hb1:Below w.heap.size w w1:=hb0.trans (hb01.mono hb0.size)
 have y1:w1.heap[Y]? =some (.cells #[.string ⟨#[]⟩,.slice none 0 0] 58 (0,0)):=by rw[←hw1,←hY];exact heap_alloc_new w0 _
 have x1:w1.heap[X]? =some (prObj p):=(hb01.block X (by omega)).trans (by rw[←hw0,←hX];exact heap_alloc_new w _)
 have HI:Hid (∀W,Below w1.heap.size w1 W→PrIn W w.heap.size p):=Lib.hid fun W hb=>hI.keep (hb1.trans (hb.mono hb1.size)) (Nat.le_refl _)
 have HBw:Hid (∀W,Below w1.heap.size w1 W→Below w.heap.size w W):=Lib.hid fun W hb=>hb1.trans (hb.mono hb1.size)
 have HY1:Hid (∀W,Below w1.heap.size w1 W→W.heap[Y]? =some (.cells #[.string ⟨#[]⟩,.slice none 0 0] 58 (0,0))):=Lib.hid fun W hb=>(hb.block Y (blk_lt y1)).trans y1
 have HYl:Hid (w.heap.size≤Y):=Lib.hid (by omega)
 have HN:Hid (w.heap.size=X∧X+1=Y∧(w.alloc (prObj p)).alloc (.cells #[.string ⟨#[]⟩,.slice none 0 0] 58 (0,0))=w1):=Lib.hid ⟨hX,by omega,by rw[hw0,hw1]⟩
 have hRl:p.rs.length≤140737488355328:=hI.rlen
 have q0:=cell_at x1 0
 simp only[sl7,sl8,sl9]at q0
 rw[←hw1,←hw0,←hX]at q0
 clear hR hX hw0 hw1 hY hb0 hb01 s0 hb1 y1 x1 hI
 go_enter Tryz.func55,Tryz.ntmps55
 go_wp2_with fail
 simp only[HN.out.1,HN.out.2.1,HN.out.2.2]
 clear q0
 go_loopw [11] (fun ii wr=>∃(j:Nat),ii=.int .i64 j∧j≤p.rs.length∧Hid (Below w1.heap.size w1 wr)∧Hid ((match idxFrom Re.nm p.rs j nm with|some i=>(p.rs.getD i z0R,(0:Int))|none=>(z0R,9))=R)) (fun ii _=>p.rs.length - (intOf ii).toNat)
 case atStart=>exact⟨0,rfl,Nat.zero_le _,Lib.hid (Below.refl _ _),HR⟩
 case round=>
  obtain⟨j,rfl,hj,hB,hC⟩:=hrel
  clear HR
  have p2:(0:Int)≤(j:Int):=Int.natCast_nonneg _
  by_cases hlt:j<p.rs.length
  ·obtain⟨s,hs⟩:∃s,p.rs[j]? =some s:=⟨_,List.getElem?_eq_getElem hlt⟩
   obtain⟨rb,ro,hda,hrb,hrow⟩:=(HI.out _ hB.out).rrow (by intro h0;rw[h0]at hlt;simp at hlt)
   obtain⟨z0,z1⟩:=hrow j s hs
   have hC1:=hC.out
   rw[idxFrom_step Re.nm p.rs j s hs]at hC1
   have hgd:p.rs.getD j z0R=s:=by rw[List.getD_eq_getElem?_getD,hs];rfl
   have p1:(j:Int)<(p.rs.length:Int):=by omega
   obtain⟨rnm,rd,rfs⟩:=s
   dsimp only at z0 z1 hC1
   obtain⟨w8,hw8⟩:∃w8,wr.alloc (.cells #[.string ⟨rnm.toArray⟩,.slice rd.a rfs.length rd.c] 58 (0,0))=w8:=⟨_,rfl⟩
   have HB8:Hid (Below w1.heap.size w1 w8):=Lib.hid (by rw[←hw8];exact hB.out.alloc hB.out.size _)
   have y8:=HY1.out _ HB8.out
   have c0:=cell_at y8 0
   have c1:=cell_at y8 1
   have f0:=frz_at y8 0
   have f1:=frz_at y8 1
   have r2:=row_set (row_set y8 0 (.string ⟨rnm.toArray⟩)) 1 (.slice rd.a rfs.length rd.c)
   have g0:=cell_at r2 0
   have g1:=cell_at r2 1
   have HZ:Hid (Below w.heap.size w ((w8.setCell ⟨Y,0,none⟩ (.string ⟨rnm.toArray⟩)).setCell ⟨Y,1,none⟩ (.slice rd.a rfs.length rd.c))):=Lib.hid (((HBw.out _ HB8.out).setCell (p:=⟨Y,0,none⟩) HYl.out _).setCell (p:=⟨Y,1,none⟩) HYl.out _)
   simp at c0 c1 g0 g1
   rw[←hw8]at c0 c1 f0 f1 g0 g1
   have HW8:=Lib.hid hw8
   clear hrow hs hC hB y8 r2 hw8
   by_cases hnm:rnm=nm
   ·subst hnm
    obtain rfl:((⟨rnm,rd,rfs⟩:Re),(0:Int))=R:=by rw[if_pos rfl]at hC1;dsimp only at hC1;rw[hgd]at hC1;exact hC1
    clear hC1 hgd
    rw[hda]
    go_wp2_with fail
    refine bodyPost_ret (v:=.tuple #[.agg #[.string ⟨rnm.toArray⟩,.slice rd.a rfs.length rd.c],.int .i64 0]) (by simp[results,Tryz.results55,go_sem,g0,g1]) rfl ?_
    exact⟨rfl,by rw[HW8.out];exact HZ.out⟩
   ·rw[if_neg (fun h=>hnm h.symm)]at hC1
    have HC1:=Lib.hid hC1
    have e1:(rnm==nm)=false:=by simpa using hnm
    clear hC1 hgd c0 c1 f0 f1 g0 g1 HZ
    rw[hda]
    go_wp2_with fail
    simp only[HW8.out]
    go_roundw
    case rel=>exact⟨j+1,by go_num,by omega,HB8,HC1⟩
    case measure=>simp[intOf];omega
  ·obtain rfl:j=p.rs.length:=by omega
   obtain rfl:(z0R,(9:Int))=R:=by have h:=hC.out;rw[idxFrom_len]at h;exact h
   have y8:=HY1.out _ hB.out
   have c0:=cell_at y8 0
   have c1:=cell_at y8 1
   have f0:=frz_at y8 0
   have f1:=frz_at y8 1
   have r2:=row_set (row_set y8 0 (.string ⟨#[]⟩)) 1 (.slice none 0 0)
   have g0:=cell_at r2 0
   have g1:=cell_at r2 1
   have HZ:Hid (Below w.heap.size w ((wr.setCell ⟨Y,0,none⟩ (.string ⟨#[]⟩)).setCell ⟨Y,1,none⟩ (.slice none 0 0))):=Lib.hid (((HBw.out _ hB.out).setCell (p:=⟨Y,0,none⟩) HYl.out _).setCell (p:=⟨Y,1,none⟩) HYl.out _)
   simp at c0 c1 g0 g1
   clear hC hB y8 r2
   go_wp2_with fail
   refine bodyPost_ret (v:=.tuple #[.agg #[.string ⟨#[]⟩,.slice none 0 0],.int .i64 9]) (by simp[results,Tryz.results55,go_sem,g0,g1]) rfl ?_
   exact⟨rfl,HZ.out⟩
set_option maxHeartbeats 4000000 in
set_option maxRecDepth 100000 in
theorem shared_any (p:Pr) (nm:List UInt8) (w:World) (hI:PrIn w w.heap.size p) (G:TyG w.heap.size w):
  Calls Tryz.prog 17 #[p.val,.string ⟨nm.toArray⟩] w fun e w'=>e=.returned (.tuple #[.int .i64 (sharedS p nm).1,.int .i64 (sharedS p nm).2])∧Below w.heap.size w w':=by
 have hlen:(p.ss.length:Int)≤140737488355328:=by have:=hI.ss.len;unfold lenOk at this;omega
 have hple:placeS p.ss nm<(p.ss.length:Int):=by
  unfold placeS
  cases h:idxOf Fl.nm nm p.ss with
  |none=>dsimp only;omega
  |some i=>dsimp only;have:=idxOf_lt _ _ _ _ h;omega
 have hpl0: -1≤placeS p.ss nm:=by unfold placeS;split<;>omega
 obtain⟨X,hX⟩:∃X,w.heap.size=X:=⟨_,rfl⟩
 obtain⟨w1,hw1⟩:∃w1,w.alloc (prObj p)=w1:=⟨_,rfl⟩
 have hb1:Below w.heap.size w w1:=by rw[←hw1];exact (Below.refl _ _).alloc (Nat.le_refl _) _
 have x1:w1.heap[X]? =some (prObj p):=by rw[←hw1,←hX];exact heap_alloc_new w _
 have HX1:Hid (∀W',Below w1.heap.size w1 W'→W'.heap[X]? =some (prObj p)):=Lib.hid fun W' hb=>(hb.block X (lt_blk x1)).trans x1
 have HBw:Hid (∀W',Below w1.heap.size w1 W'→Below w.heap.size w W'):=Lib.hid fun W' hb=>hb1.trans (hb.mono hb1.size)
 have HG:Hid (∀W',Below w1.heap.size w1 W'→TyG W'.heap.size W'):=Lib.hid fun W' hb=>(G.below (hb1.trans (hb.mono hb1.size))).1
 have HI:Hid (∀W',Below w1.heap.size w1 W'→PrIn W' W'.heap.size p):=Lib.hid fun W' hb=>hI.keep (hb1.trans (hb.mono hb1.size)) (hb1.trans (hb.mono hb1.size)).size
 have HN:=Lib.hid (And.intro hX hw1)
 have HBw1:Hid (Below w1.heap.size w1 w1):=Lib.hid (Below.refl _ _)
 have q0:=cell_at x1 0
 have q1:=cell_at x1 1
 have q2:=cell_at x1 2
 have q3:=cell_at x1 3
 simp only[sl7,sl8,sl9]at q0 q1 q2 q3
 rw[←hw1,←hX]at q0 q1 q2 q3
 clear hX hw1 hb1 x1 hI G
 by_cases h0:(typesCheck p).2≠0
 ·skip
  have hrt:rightS p=1:=by unfold rightS;rw[if_pos h0]
  have hv:sharedS p nm=(0,1):=by unfold sharedS;rw[if_pos h0]
  rw[hv]
  clear h0 hv
  have CR:=right_any p w1 (HI.out _ HBw1.out) (HG.out _ HBw1.out)
  rw[hrt]at CR
  have HCR:=Lib.hid CR
  clear CR
  go_enter Tryz.func17,Tryz.ntmps17
  go_wp2_with fail
  simp only[HN.out.1,HN.out.2]
  refine HCR.out.mono ?_
  rintro e w2 ⟨rfl,hb⟩
  have HBw2:Hid (Below w1.heap.size w1 w2):=Lib.hid hb
  clear hb HCR q0 q1 q2 q3
  go_wp2_with fail
  refine bodyPost_ret (v:=.tuple #[.int .i64 0,.int .i64 1]) (by simp[results,Tryz.results17,go_sem]) rfl ?_
  exact⟨rfl,HBw.out _ HBw2.out⟩
 ·have hrt:rightS p=0:=by unfold rightS;rw[if_neg h0]
  have hv:sharedS p nm=if placeS p.ss nm<0 then (0,9) else (1+placeS p.ss nm,0):=by unfold sharedS;rw[if_neg h0]
  rw[hv]
  have HP:Hid (∀W,Below w1.heap.size w1 W→Calls Tryz.prog 53 #[.slice p.sd.a p.ss.length p.sd.c,.string ⟨nm.toArray⟩] W fun e w'=>e=.returned (.int .i64 (placeS p.ss nm))∧Below W.heap.size W w'):=Lib.hid fun W hb=>place_any p.sd p.ss nm W (HI.out _ hb).ss
  generalize placeS p.ss nm=pl at*
  clear h0 hv
  by_cases hn:pl<0
  ·rw[if_pos hn]
   have d1:decide (pl<0)=true:=by simpa using hn
   clear hn
   have CR:=right_any p w1 (HI.out _ HBw1.out) (HG.out _ HBw1.out)
   rw[hrt]at CR
   have HCR:=Lib.hid CR
   clear CR
   go_enter Tryz.func17,Tryz.ntmps17
   go_wp2_with fail
   simp only[HN.out.1,HN.out.2]
   refine HCR.out.mono ?_
   rintro e w2 ⟨rfl,hb⟩
   have HBw2:Hid (Below w1.heap.size w1 w2):=Lib.hid hb
   clear hb HCR q0 q1 q2 q3
   have row:=HX1.out _ HBw2.out
   have q0:=cell_at row 0
   have q1:=cell_at row 1
   have q2:=cell_at row 2
   have q3:=cell_at row 3
   simp only[sl7,sl8,sl9]at q0 q1 q2 q3
   clear row
   go_wp2_with fail
   refine (HP.out _ HBw2.out).mono ?_
   rintro e w3 ⟨rfl,hb⟩
   have HB3:=Lib.hid (HBw.out _ (HBw2.out.trans (hb.mono HBw2.out.size)))
   clear hb HP q0 q1 q2 q3
   go_wp2_with fail
   refine bodyPost_ret (v:=.tuple #[.int .i64 0,.int .i64 9]) (by simp[results,Tryz.results17,go_sem]) rfl ?_
   exact⟨rfl,HB3.out⟩
  ·rw[if_neg hn]
   have d1:decide (pl<0)=false:=by simpa using hn
   have CR:=right_any p w1 (HI.out _ HBw1.out) (HG.out _ HBw1.out)
   rw[hrt]at CR
   have HCR:=Lib.hid CR
   clear CR
   go_enter Tryz.func17,Tryz.ntmps17
   go_wp2_with fail
   simp only[HN.out.1,HN.out.2]
   refine HCR.out.mono ?_
   rintro e w2 ⟨rfl,hb⟩
   have HBw2:Hid (Below w1.heap.size w1 w2):=Lib.hid hb
   clear hb HCR q0 q1 q2 q3
   have row:=HX1.out _ HBw2.out
   have q0:=cell_at row 0
   have q1:=cell_at row 1
   have q2:=cell_at row 2
   have q3:=cell_at row 3
   simp only[sl7,sl8,sl9]at q0 q1 q2 q3
   clear row
   go_wp2_with fail
   refine (HP.out _ HBw2.out).mono ?_
   rintro e w3 ⟨rfl,hb⟩
   have HB3:=Lib.hid (HBw.out _ (HBw2.out.trans (hb.mono HBw2.out.size)))
   clear hb HP q0 q1 q2 q3
   go_wp2_with fail
   refine bodyPost_ret (v:=.tuple #[.int .i64 (1+pl),.int .i64 0]) (by simp[results,Tryz.results17,go_sem]) rfl ?_
   exact⟨rfl,HB3.out⟩
theorem recR_some {p:Pr} {nm:List UInt8} {i:Nat} (h:recOf p nm=some i):recR p nm=(p.rs.getD i z0R,0):=by unfold recR;rw[h]
theorem recR_none {p:Pr} {nm:List UInt8} (h:recOf p nm=none):recR p nm=(z0R,9):=by unfold recR;rw[h]
theorem getD_fs (p:Pr) (i:Nat):(p.rs.map Re.fs).getD i []=(p.rs.getD i z0R).fs:=by
 rw[List.getD_eq_getElem?_getD,List.getD_eq_getElem?_getD,List.getElem?_map]
 cases p.rs[i]? <;>rfl
theorem getD_in {w:World} {B:Nat} {p:Pr} (h:PrIn w B p) (i:Nat):FlsIn w B (p.rs.getD i z0R).d (p.rs.getD i z0R).fs:=by
 rw[List.getD_eq_getElem?_getD]
 cases hi:p.rs[i]? with
 |none=>exact fls0_in
 |some r=>exact (h.rsub r (List.mem_of_getElem? hi)).fs
set_option maxHeartbeats 4000000 in
set_option maxRecDepth 100000 in
theorem offset_any (p:Pr) (nm fd:List UInt8) (w:World) (hI:PrIn w w.heap.size p) (G:TyG w.heap.size w):
  Calls Tryz.prog 19 #[p.val,.string ⟨nm.toArray⟩,.string ⟨fd.toArray⟩] w fun e w'=>e=.returned (.tuple #[.int .i64 (offsetS p nm fd).1,.int .i64 (offsetS p nm fd).2])∧Below w.heap.size w w':=by
 obtain⟨X,hX⟩:∃X,w.heap.size=X:=⟨_,rfl⟩
 obtain⟨w1,hw1⟩:∃w1,w.alloc (prObj p)=w1:=⟨_,rfl⟩
 have hb1:Below w.heap.size w w1:=by rw[←hw1];exact (Below.refl _ _).alloc (Nat.le_refl _) _
 have x1:w1.heap[X]? =some (prObj p):=by rw[←hw1,←hX];exact heap_alloc_new w _
 have HX1:Hid (∀W',Below w1.heap.size w1 W'→W'.heap[X]? =some (prObj p)):=Lib.hid fun W' hb=>(hb.block X (lt_blk x1)).trans x1
 have HBw:Hid (∀W',Below w1.heap.size w1 W'→Below w.heap.size w W'):=Lib.hid fun W' hb=>hb1.trans (hb.mono hb1.size)
 have HG:Hid (∀W',Below w1.heap.size w1 W'→TyG W'.heap.size W'):=Lib.hid fun W' hb=>(G.below (hb1.trans (hb.mono hb1.size))).1
 have HI:Hid (∀W',Below w1.heap.size w1 W'→PrIn W' W'.heap.size p):=Lib.hid fun W' hb=>hI.keep (hb1.trans (hb.mono hb1.size)) (hb1.trans (hb.mono hb1.size)).size
 have HN:=Lib.hid (And.intro hX hw1)
 have HBw1:Hid (Below w1.heap.size w1 w1):=Lib.hid (Below.refl _ _)
 have q0:=cell_at x1 0
 have q1:=cell_at x1 1
 have q2:=cell_at x1 2
 have q3:=cell_at x1 3
 simp only[sl7,sl8,sl9]at q0 q1 q2 q3
 rw[←hw1,←hX]at q0 q1 q2 q3
 clear hX hw1 hb1 x1 hI G
 by_cases h0:(typesCheck p).2≠0
 ·skip
  have hrt:rightS p=1:=by unfold rightS;rw[if_pos h0]
  have hv:offsetS p nm fd=(0,1):=by unfold offsetS;rw[if_pos h0]
  rw[hv]
  clear h0 hv
  have CR:=right_any p w1 (HI.out _ HBw1.out) (HG.out _ HBw1.out)
  rw[hrt]at CR
  have HCR:=Lib.hid CR
  clear CR
  go_enter Tryz.func19,Tryz.ntmps19
  go_wp2_with fail
  simp only[HN.out.1,HN.out.2]
  refine HCR.out.mono ?_
  rintro e w2 ⟨rfl,hb⟩
  have HBw2:Hid (Below w1.heap.size w1 w2):=Lib.hid hb
  clear hb HCR q0 q1 q2 q3
  go_wp2_with fail
  refine bodyPost_ret (v:=.tuple #[.int .i64 0,.int .i64 1]) (by simp[results,Tryz.results19,go_sem]) rfl ?_
  exact⟨rfl,HBw.out _ HBw2.out⟩
 ·have hrt:rightS p=0:=by unfold rightS;rw[if_neg h0]
  cases hr:recOf p nm with
  |none=>
   have hv:offsetS p nm fd=(0,9):=by unfold offsetS;rw[if_neg h0,hr]
   rw[hv]
   have HRc:Hid (∀W,Below w1.heap.size w1 W→Calls Tryz.prog 55 #[p.val,.string ⟨nm.toArray⟩] W fun e w'=>e=.returned (.tuple #[.agg #[.string ⟨#[]⟩,.slice none 0 0],.int .i64 9])∧Below W.heap.size W w'):=Lib.hid fun W hb=>by
    have h:=record_any p nm W (HI.out _ hb)
    rw[recR_none hr]at h
    exact h
   clear h0 hv hr
   have CR:=right_any p w1 (HI.out _ HBw1.out) (HG.out _ HBw1.out)
   rw[hrt]at CR
   have HCR:=Lib.hid CR
   clear CR
   go_enter Tryz.func19,Tryz.ntmps19
   go_wp2_with fail
   simp only[HN.out.1,HN.out.2]
   refine HCR.out.mono ?_
   rintro e w2 ⟨rfl,hb⟩
   have HBw2:Hid (Below w1.heap.size w1 w2):=Lib.hid hb
   clear hb HCR q0 q1 q2 q3
   have row:=HX1.out _ HBw2.out
   have q0:=cell_at row 0
   have q1:=cell_at row 1
   have q2:=cell_at row 2
   have q3:=cell_at row 3
   simp only[sl7,sl8,sl9]at q0 q1 q2 q3
   clear row
   go_wp2_with fail
   refine (HRc.out _ HBw2.out).mono ?_
   rintro e w3 ⟨rfl,hb⟩
   have HB3:Hid (∀o,Below w.heap.size w (w3.alloc o)):=Lib.hid fun o=>by
    have h:=HBw.out _ (HBw2.out.trans (hb.mono HBw2.out.size))
    exact h.alloc h.size o
   clear hb HRc q0 q1 q2 q3
   go_wp2_with fail
   refine bodyPost_ret (v:=.tuple #[.int .i64 0,.int .i64 9]) (by simp[results,Tryz.results19,go_sem]) rfl ?_
   exact⟨rfl,HB3.out _⟩
  |some i=>
   have hv:offsetS p nm fd=if placeS (p.rs.getD i z0R).fs fd<0 then (0,9) else (placeS (p.rs.getD i z0R).fs fd,0):=by unfold offsetS;rw[if_neg h0,hr];dsimp only;rw[getD_fs]
   rw[hv]
   have HRc:Hid (∀W,Below w1.heap.size w1 W→Calls Tryz.prog 55 #[p.val,.string ⟨nm.toArray⟩] W fun e w'=>e=.returned (.tuple #[(p.rs.getD i z0R).val,.int .i64 0])∧Below W.heap.size W w'):=Lib.hid fun W hb=>by
    have h:=record_any p nm W (HI.out _ hb)
    rw[recR_some hr]at h
    exact h
   have HP:Hid (∀W,Below w1.heap.size w1 W→Calls Tryz.prog 53 #[.slice (p.rs.getD i z0R).d.a (p.rs.getD i z0R).fs.length (p.rs.getD i z0R).d.c,.string ⟨fd.toArray⟩] W fun e w'=>e=.returned (.int .i64 (placeS (p.rs.getD i z0R).fs fd))∧Below W.heap.size W w'):=Lib.hid fun W hb=>place_any _ _ fd W (getD_in (HI.out _ hb) i)
   generalize p.rs.getD i z0R=r at*
   generalize placeS r.fs fd=pl at*
   obtain⟨rnm,rd,rfs⟩:=r
   dsimp only at HP HRc
   clear h0 hv hr
   by_cases hn:pl<0
   ·rw[if_pos hn]
    have d1:decide (pl<0)=true:=by simpa using hn
    clear hn
    have CR:=right_any p w1 (HI.out _ HBw1.out) (HG.out _ HBw1.out)
    rw[hrt]at CR
    have HCR:=Lib.hid CR
    clear CR
    go_enter Tryz.func19,Tryz.ntmps19
    go_wp2_with fail
    simp only[HN.out.1,HN.out.2]
    refine HCR.out.mono ?_
    rintro e w2 ⟨rfl,hb⟩
    have HBw2:Hid (Below w1.heap.size w1 w2):=Lib.hid hb
    clear hb HCR q0 q1 q2 q3
    have row:=HX1.out _ HBw2.out
    have q0:=cell_at row 0
    have q1:=cell_at row 1
    have q2:=cell_at row 2
    have q3:=cell_at row 3
    simp only[sl7,sl8,sl9]at q0 q1 q2 q3
    clear row
    go_wp2_with fail
    refine (HRc.out _ HBw2.out).mono ?_
    rintro e w3 ⟨rfl,hb⟩
    obtain⟨w4,hw4⟩:∃w4,w3.alloc (.cells #[.string ⟨rnm.toArray⟩,.slice rd.a rfs.length rd.c] 58 (0,0))=w4:=⟨_,rfl⟩
    have hb3:Below w1.heap.size w1 w3:=HBw2.out.trans (hb.mono HBw2.out.size)
    have HB4:Hid (Below w1.heap.size w1 w4):=Lib.hid (by rw[←hw4];exact hb3.alloc hb3.size _)
    have HW4:=Lib.hid hw4
    clear hb hb3 HRc q0 q1 q2 q3 hw4
    go_wp2_with fail
    simp only[HW4.out]
    refine (HP.out _ HB4.out).mono ?_
    rintro e w5 ⟨rfl,hb⟩
    have HB5:=Lib.hid (HBw.out _ (HB4.out.trans (hb.mono HB4.out.size)))
    clear hb HP
    go_wp2_with fail
    refine bodyPost_ret (v:=.tuple #[.int .i64 0,.int .i64 9]) (by simp[results,Tryz.results19,go_sem]) rfl ?_
    exact⟨rfl,HB5.out⟩
   ·rw[if_neg hn]
    have d1:decide (pl<0)=false:=by simpa using hn
    clear hn
    have CR:=right_any p w1 (HI.out _ HBw1.out) (HG.out _ HBw1.out)
    rw[hrt]at CR
    have HCR:=Lib.hid CR
    clear CR
    go_enter Tryz.func19,Tryz.ntmps19
    go_wp2_with fail
    simp only[HN.out.1,HN.out.2]
    refine HCR.out.mono ?_
    rintro e w2 ⟨rfl,hb⟩
    have HBw2:Hid (Below w1.heap.size w1 w2):=Lib.hid hb
    clear hb HCR q0 q1 q2 q3
    have row:=HX1.out _ HBw2.out
    have q0:=cell_at row 0
    have q1:=cell_at row 1
    have q2:=cell_at row 2
    have q3:=cell_at row 3
    simp only[sl7,sl8,sl9]at q0 q1 q2 q3
    clear row
    go_wp2_with fail
    refine (HRc.out _ HBw2.out).mono ?_
    rintro e w3 ⟨rfl,hb⟩
    obtain⟨w4,hw4⟩:∃w4,w3.alloc (.cells #[.string ⟨rnm.toArray⟩,.slice rd.a rfs.length rd.c] 58 (0,0))=w4:=⟨_,rfl⟩
    have hb3:Below w1.heap.size w1 w3:=HBw2.out.trans (hb.mono HBw2.out.size)
    have HB4:Hid (Below w1.heap.size w1 w4):=Lib.hid (by rw[←hw4];exact hb3.alloc hb3.size _)
    have HW4:=Lib.hid hw4
    clear hb hb3 HRc q0 q1 q2 q3 hw4
    go_wp2_with fail
    simp only[HW4.out]
    refine (HP.out _ HB4.out).mono ?_
    rintro e w5 ⟨rfl,hb⟩
    have HB5:=Lib.hid (HBw.out _ (HB4.out.trans (hb.mono HB4.out.size)))
    clear hb HP
    go_wp2_with fail
    refine bodyPost_ret (v:=.tuple #[.int .i64 pl,.int .i64 0]) (by simp[results,Tryz.results19,go_sem]) rfl ?_
    exact⟨rfl,HB5.out⟩
set_option maxHeartbeats 8000000 in
set_option maxRecDepth 100000 in
theorem size_any (p:Pr) (k:Int) (nm:List UInt8) (n:Int) (w:World) (hI:PrIn w w.heap.size p) (G:TyG w.heap.size w) (hl:lenOk nm.length):
  Calls Tryz.prog 18 #[p.val,.agg #[.int .u8 k,.string ⟨nm.toArray⟩,.int .i64 n]] w fun e w'=>e=.returned (.tuple #[.int .i64 (sizeS p ⟨k,nm,n⟩).1,.int .i64 (sizeS p ⟨k,nm,n⟩).2])∧Below w.heap.size w w':=by
 obtain⟨X,hX⟩:∃X,w.heap.size=X:=⟨_,rfl⟩
 obtain⟨w0,hw0⟩:∃w0,w.alloc (prObj p)=w0:=⟨_,rfl⟩
 obtain⟨Y,hY⟩:∃Y,w0.heap.size=Y:=⟨_,rfl⟩
 obtain⟨w1,hw1⟩:∃w1,w0.alloc (.cells #[.int .u8 k,.string ⟨nm.toArray⟩,.int .i64 n] 39 (0,0))=w1:=⟨_,rfl⟩
 have hb0:Below w.heap.size w w0:=by rw[←hw0];exact (Below.refl _ _).alloc (Nat.le_refl _) _
 have hb01:Below w0.heap.size w0 w1:=by rw[←hw1];exact (Below.refl _ _).alloc (Nat.le_refl _) _
 have s0:w0.heap.size=X+1:=by rw[←hw0,World.size_alloc,hX]
 have hb1:Below w.heap.size w w1:=hb0.trans (hb01.mono hb0.size)
 have y1:w1.heap[Y]? =some (.cells #[.int .u8 k,.string ⟨nm.toArray⟩,.int .i64 n] 39 (0,0)):=by rw[←hw1,←hY];exact heap_alloc_new w0 _
 have x1:w1.heap[X]? =some (prObj p):=(hb01.block X (by omega)).trans (by rw[←hw0,←hX];exact heap_alloc_new w _)
 have HX1:Hid (∀W',Below w1.heap.size w1 W'→W'.heap[X]? =some (prObj p)):=Lib.hid fun W' hb=>(hb.block X (lt_blk x1)).trans x1
 have HY1:Hid (∀W',Below w1.heap.size w1 W'→W'.heap[Y]? =some (.cells #[.int .u8 k,.string ⟨nm.toArray⟩,.int .i64 n] 39 (0,0))):=Lib.hid fun W' hb=>(hb.block Y (lt_blk y1)).trans y1
 have HBw:Hid (∀W',Below w1.heap.size w1 W'→Below w.heap.size w W'):=Lib.hid fun W' hb=>hb1.trans (hb.mono hb1.size)
 have HG:Hid (∀W',Below w1.heap.size w1 W'→TyG W'.heap.size W'):=Lib.hid fun W' hb=>(G.below (hb1.trans (hb.mono hb1.size))).1
 have HI:Hid (∀W',Below w1.heap.size w1 W'→PrIn W' W'.heap.size p):=Lib.hid fun W' hb=>hI.keep (hb1.trans (hb.mono hb1.size)) (hb1.trans (hb.mono hb1.size)).size
 have HNN:Hid (w.heap.size=X∧X+1=Y∧(w.alloc (prObj p)).alloc (.cells #[.int .u8 k,.string ⟨nm.toArray⟩,.int .i64 n] 39 (0,0))=w1):=Lib.hid ⟨hX,by omega,by rw[hw0,hw1]⟩
 have HBw1:Hid (Below w1.heap.size w1 w1):=Lib.hid (Below.refl _ _)
 have q0:=cell_at x1 0
 have q1:=cell_at x1 1
 have q2:=cell_at x1 2
 have q3:=cell_at x1 3
 simp only[sl7,sl8,sl9]at q0 q1 q2 q3
 rw[←hw1,←hw0,←hX]at q0 q1 q2 q3
 have HTF:Hid (∀W',Below w1.heap.size w1 W'→Calls Tryz.prog 54 #[.agg #[.int .u8 k,.string ⟨nm.toArray⟩,.int .i64 n]] W' fun e w'=>e=.returned (.int .i64 (tyForm ⟨k,nm,n⟩))∧Below W'.heap.size W' w'):=Lib.hid fun W' hb=>tform_lit k nm n hl W' ((G.below (hb1.trans (hb.mono hb1.size))).1.gl.g)
 clear hX hw0 hw1 hY hb0 hb01 s0 hb1 y1 x1 hI G hl
 have CR:=right_any p w1 (HI.out _ HBw1.out) (HG.out _ HBw1.out)
 by_cases h0:(typesCheck p).2≠0
 ·have hrt:rightS p=1:=by unfold rightS;rw[if_pos h0]
  have hv:sizeS p ⟨k,nm,n⟩=(0,1):=by unfold sizeS;rw[if_pos h0]
  rw[hv]
  rw[hrt]at CR
  have HCR:=Lib.hid CR
  clear h0 hv CR
  go_enter Tryz.func18,Tryz.ntmps18
  go_wp2_with fail
  simp only[HNN.out.1,HNN.out.2.1,HNN.out.2.2]
  refine HCR.out.mono ?_
  rintro e w2 ⟨rfl,hb⟩
  have HB:=Lib.hid (HBw.out _ hb)
  clear hb HCR q0 q1 q2 q3
  go_wp2_with fail
  refine bodyPost_ret (v:=.tuple #[.int .i64 0,.int .i64 1]) (by simp[results,Tryz.results18,go_sem]) rfl ?_
  exact⟨rfl,HB.out⟩
 have hrt:rightS p=0:=by unfold rightS;rw[if_neg h0]
 rw[hrt]at CR
 have HCR:=Lib.hid CR
 have hv0:sizeS p ⟨k,nm,n⟩=(if tyForm ⟨k,nm,n⟩≠0 then ((0:Int),(10:Int)) else if k=1 then (0,10) else if k=3∧nm=[] then (n,0) else match recOf p nm with|none=>(0,9)|some i=>if k=3 then (n,0) else ((((p.rs.map Re.fs).getD i []).length:Int),0)):=by unfold sizeS;rw[if_neg h0];rfl
 rw[hv0]
 clear h0 hv0 CR hrt
 generalize tyForm ⟨k,nm,n⟩=tf at*
 by_cases hf:tf≠0
 ·rw[if_pos hf]
  have t1:(tf==0)=false:=by simpa using hf
  clear hf
  exact qxaay_2
 rw[if_neg hf]
 have t1:(tf==0)=true:=by simpa using hf
 clear hf
 by_cases hk1:k=1
 ·rw[if_pos hk1]
  have t2:(k==1)=true:=by simpa using hk1
  clear hk1
  exact qxaay_2
 rw[if_neg hk1]
 have t2:(k==1)=false:=by simpa using hk1
 clear hk1
 by_cases hk3:k=3
 ·have t3:(k==3)=true:=by simpa using hk3
  by_cases hn:nm=[]
  ·rw[if_pos ⟨hk3,hn⟩]
   have t4:nm.isEmpty=true:=by simpa using hn
   clear hk3 hn
   go_enter Tryz.func18,Tryz.ntmps18
   go_wp2_with fail
   simp only[HNN.out.1,HNN.out.2.1,HNN.out.2.2]
   refine HCR.out.mono ?_
   rintro e w2 ⟨rfl,hb⟩
   have HBw2:Hid (Below w1.heap.size w1 w2):=Lib.hid hb
   clear hb HCR q0 q1 q2 q3
   have row:=HY1.out _ HBw2.out
   have y0:=cell_at row 0
   have y1:=cell_at row 1
   have y2:=cell_at row 2
   simp only[sl7,sl8,sl9]at y0 y1 y2
   clear row
   go_wp2_with fail
   refine (HTF.out _ HBw2.out).mono ?_
   rintro e w3 ⟨rfl,hb⟩
   have HBw3:Hid (Below w1.heap.size w1 w3):=Lib.hid (HBw2.out.trans (hb.mono HBw2.out.size))
   clear hb HTF y0 y1 y2
   have row:=HY1.out _ HBw3.out
   have y0:=cell_at row 0
   have y1:=cell_at row 1
   have y2:=cell_at row 2
   simp only[sl7,sl8,sl9]at y0 y1 y2
   clear row
   have row:=HX1.out _ HBw3.out
   have q0:=cell_at row 0
   have q1:=cell_at row 1
   have q2:=cell_at row 2
   have q3:=cell_at row 3
   simp only[sl7,sl8,sl9]at q0 q1 q2 q3
   clear row
   go_wp2_with fail
   refine bodyPost_ret (v:=.tuple #[.int .i64 n,.int .i64 0]) (by simp[results,Tryz.results18,go_sem]) rfl ?_
   exact⟨rfl,HBw.out _ HBw3.out⟩
  ·rw[if_neg (fun h=>hn h.2)]
   have t4:nm.isEmpty=false:=by simpa using hn
   have hk3':=hk3
   clear hn
   cases hr:recOf p nm with
   |none=>
    exact qxaay_1
   |some i=>
    have HRc:Hid (∀W,Below w1.heap.size w1 W→Calls Tryz.prog 55 #[p.val,.string ⟨nm.toArray⟩] W fun e w'=>e=.returned (.tuple #[(p.rs.getD i z0R).val,.int .i64 0])∧Below W.heap.size W w'):=Lib.hid fun W hb=>by
     have h:=record_any p nm W (HI.out _ hb)
     rw[recR_some hr]at h
     exact h
    dsimp only
    rw[getD_fs]
    generalize p.rs.getD i z0R=r at*
    obtain⟨rnm,rd,rfs⟩:=r
    dsimp only at HRc ⊢
    first|rw[if_pos hk3']|rw[if_neg hk3']
    clear hr hk3 hk3'
    go_enter Tryz.func18,Tryz.ntmps18
    go_wp2_with fail
    simp only[HNN.out.1,HNN.out.2.1,HNN.out.2.2]
    refine HCR.out.mono ?_
    rintro e w2 ⟨rfl,hb⟩
    have HBw2:Hid (Below w1.heap.size w1 w2):=Lib.hid hb
    clear hb HCR q0 q1 q2 q3
    have row:=HY1.out _ HBw2.out
    have y0:=cell_at row 0
    have y1:=cell_at row 1
    have y2:=cell_at row 2
    simp only[sl7,sl8,sl9]at y0 y1 y2
    clear row
    go_wp2_with fail
    refine (HTF.out _ HBw2.out).mono ?_
    rintro e w3 ⟨rfl,hb⟩
    have HBw3:Hid (Below w1.heap.size w1 w3):=Lib.hid (HBw2.out.trans (hb.mono HBw2.out.size))
    clear hb HTF y0 y1 y2
    have row:=HY1.out _ HBw3.out
    have y0:=cell_at row 0
    have y1:=cell_at row 1
    have y2:=cell_at row 2
    simp only[sl7,sl8,sl9]at y0 y1 y2
    clear row
    have row:=HX1.out _ HBw3.out
    have q0:=cell_at row 0
    have q1:=cell_at row 1
    have q2:=cell_at row 2
    have q3:=cell_at row 3
    simp only[sl7,sl8,sl9]at q0 q1 q2 q3
    clear row
    go_wp2_with fail
    refine (HRc.out _ HBw3.out).mono ?_
    rintro e w4 ⟨rfl,hb⟩
    obtain⟨w5,hw5⟩:∃w5,w4.alloc (.cells #[.string ⟨rnm.toArray⟩,.slice rd.a rfs.length rd.c] 58 (0,0))=w5:=⟨_,rfl⟩
    have hb4:Below w1.heap.size w1 w4:=HBw3.out.trans (hb.mono HBw3.out.size)
    have HBw5:Hid (Below w1.heap.size w1 w5):=Lib.hid (by rw[←hw5];exact hb4.alloc hb4.size _)
    have row:=HY1.out _ HBw5.out
    clear y0 y1 y2
    have y0:=cell_at row 0
    have y1:=cell_at row 1
    have y2:=cell_at row 2
    simp only[sl7,sl8,sl9]at y0 y1 y2
    rw[←hw5]at y0 y1 y2
    have HW5:=Lib.hid hw5
    clear hb hb4 HRc q0 q1 q2 q3 row hw5
    go_wp2_with fail
    refine bodyPost_ret (v:=.tuple #[.int .i64 (n),.int .i64 0]) (by simp[results,Tryz.results18,go_sem]) rfl ?_
    exact⟨rfl,by rw[HW5.out];exact HBw.out _ HBw5.out⟩
 ·rw[if_neg (fun h=>hk3 h.1)]
  have t3:(k==3)=false:=by simpa using hk3
  have hk3':=hk3
  cases hr:recOf p nm with
  |none=>
   exact qxaay_1
  |some i=>
   have HRc:Hid (∀W,Below w1.heap.size w1 W→Calls Tryz.prog 55 #[p.val,.string ⟨nm.toArray⟩] W fun e w'=>e=.returned (.tuple #[(p.rs.getD i z0R).val,.int .i64 0])∧Below W.heap.size W w'):=Lib.hid fun W hb=>by
    have h:=record_any p nm W (HI.out _ hb)
    rw[recR_some hr]at h
    exact h
   dsimp only
   rw[getD_fs]
   generalize p.rs.getD i z0R=r at*
   obtain⟨rnm,rd,rfs⟩:=r
   dsimp only at HRc ⊢
   first|rw[if_pos hk3']|rw[if_neg hk3']
   clear hr hk3 hk3'
   go_enter Tryz.func18,Tryz.ntmps18
   go_wp2_with fail
   simp only[HNN.out.1,HNN.out.2.1,HNN.out.2.2]
   refine HCR.out.mono ?_
   rintro e w2 ⟨rfl,hb⟩
   have HBw2:Hid (Below w1.heap.size w1 w2):=Lib.hid hb
   clear hb HCR q0 q1 q2 q3
   have row:=HY1.out _ HBw2.out
   have y0:=cell_at row 0
   have y1:=cell_at row 1
   have y2:=cell_at row 2
   simp only[sl7,sl8,sl9]at y0 y1 y2
   clear row
   go_wp2_with fail
   refine (HTF.out _ HBw2.out).mono ?_
   rintro e w3 ⟨rfl,hb⟩
   have HBw3:Hid (Below w1.heap.size w1 w3):=Lib.hid (HBw2.out.trans (hb.mono HBw2.out.size))
   clear hb HTF y0 y1 y2
   have row:=HY1.out _ HBw3.out
   have y0:=cell_at row 0
   have y1:=cell_at row 1
   have y2:=cell_at row 2
   simp only[sl7,sl8,sl9]at y0 y1 y2
   clear row
   have row:=HX1.out _ HBw3.out
   have q0:=cell_at row 0
   have q1:=cell_at row 1
   have q2:=cell_at row 2
   have q3:=cell_at row 3
   simp only[sl7,sl8,sl9]at q0 q1 q2 q3
   clear row
   go_wp2_with fail
   refine (HRc.out _ HBw3.out).mono ?_
   rintro e w4 ⟨rfl,hb⟩
   obtain⟨w5,hw5⟩:∃w5,w4.alloc (.cells #[.string ⟨rnm.toArray⟩,.slice rd.a rfs.length rd.c] 58 (0,0))=w5:=⟨_,rfl⟩
   have hb4:Below w1.heap.size w1 w4:=HBw3.out.trans (hb.mono HBw3.out.size)
   have HBw5:Hid (Below w1.heap.size w1 w5):=Lib.hid (by rw[←hw5];exact hb4.alloc hb4.size _)
   have row:=HY1.out _ HBw5.out
   clear y0 y1 y2
   have y0:=cell_at row 0
   have y1:=cell_at row 1
   have y2:=cell_at row 2
   simp only[sl7,sl8,sl9]at y0 y1 y2
   rw[←hw5]at y0 y1 y2
   have HW5:=Lib.hid hw5
   clear hb hb4 HRc q0 q1 q2 q3 row hw5
   go_wp2_with fail
   refine bodyPost_ret (v:=.tuple #[.int .i64 ((rfs.length:Int)),.int .i64 0]) (by simp[results,Tryz.results18,go_sem]) rfl ?_
   exact⟨rfl,by rw[HW5.out];exact HBw.out _ HBw5.out⟩
end Go.Proofs.YtkklogikakcanaaGreatDoor
