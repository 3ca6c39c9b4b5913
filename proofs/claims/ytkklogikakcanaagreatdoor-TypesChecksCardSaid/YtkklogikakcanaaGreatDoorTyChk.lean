import Derived.Test.YtkklogikakcanaaGreatDoorTyFirst
import Derived.Test.YtkklogikakcanaaGreatDoorRf05Q
import Derived.Test.YtkklogikakcanaaGreatDoorRf05A
import Derived.Test.YtkklogikakcanaaGreatDoorLeftA
set_option linter.unusedVariables false
set_option linter.unusedSimpArgs false
open List renaming getElem?_toArray → sl7, getElem?_cons_zero → sl8, getElem?_cons_succ → sl9
namespace Go.Proofs.YtkklogikakcanaaGreatDoor
open Go Go.RowKit
theorem qa27s_1 {P:Prop} (h:P:=by
 go_wp2_with fail
 refine (HPr.out _ HBw9.out).mono ?_
 rintro e w10 ⟨rfl,hb⟩
 have HBw10:Hid (Below w5.heap.size w5 w10):=Lib.hid (HBw9.out.trans (hb.mono HBw9.out.size))
 clear hb
 clear q0 q1 q2 q3
 have row:=HX1.out _ (HB5w.out _ HBw10.out)
 have q0:=cell_at row 0
 have q1:=cell_at row 1
 have q2:=cell_at row 2
 have q3:=cell_at row 3
 simp only[sl7,sl8,sl9]at q0 q1 q2 q3
 clear row
 have row:=HX2.out _ HBw10.out
 have y0:=cell_at row 0
 have y1:=cell_at row 1
 have y2:=cell_at row 2
 have y3:=cell_at row 3
 simp only[sl7,sl8,sl9]at y0 y1 y2 y3
 clear row
 go_wp2_with fail
 refine (HLf.out _ HBw10.out).mono ?_
 rintro e w11 ⟨rfl,hb⟩
 have HBw11:Hid (Below w5.heap.size w5 w11):=Lib.hid (HBw10.out.trans (hb.mono HBw10.out.size))
 clear hb
 clear q0 q1 q2 q3 y0 y1 y2 y3
 go_wp2_with fail
 refine (alive05_any w11 (HG.out _ (HB5w.out _ HBw11.out))).mono ?_
 rintro e w99 ⟨rfl,hb⟩
 have HBz:=Lib.hid ((HBw.out _ (HB5w.out _ HBw11.out)).trans (hb.mono (HBw.out _ (HB5w.out _ HBw11.out)).size))
 clear hb
 go_wp2_with fail
 go_ret
 exact⟨rfl,HBz.out⟩):P:=h
theorem chk_range {p:Pr} {at_ er:Int} (h:typesCheck p=(at_,er)):er=0∨at_<(placesOf p:Nat)∨(er=1∧at_=0):=by
 unfold typesCheck at h
 split at h
 ·injection h with h1 h2;exact .inr (.inr ⟨h2.symm,h1.symm⟩)
 ·unfold scFault at h
  cases hs:scPr p with
  |on a=>rw[hs]at h;injection h with h1 h2;exact .inl h2.symm
  |bad q e=>
   rw[hs]at h
   injection h with h1 h2
   subst h1 h2
   refine .inr (.inl ?_)
   have hp:=placesOf_heads p
   unfold scPr at hs
   cases h1:scHeads p with
   |bad q2 e2=>
    rw[h1]at hs
    injection hs with h3 h4
    have:=((scHeads_on p).2 q2 e2 h1).2
    omega
   |on a=>
    rw[h1]at hs
    have h2:=(scHeads_on p).1 a h1
    have h3:=((scThs_on p p.ts a).2 _ _ hs).2
    push_cast at*
    omega
set_option maxHeartbeats 16000000 in
set_option maxRecDepth 100000 in
theorem typesChecks_walk (p:Pr) (w:World) (hcap:CapP p) (hI:PrIn w w.heap.size p) (G:TyG w.heap.size w):
  Calls Tryz.prog 3 #[.agg p.cells.toArray] w fun e w'=>e=.returned (.bool true)∧Below w.heap.size w w':=by
 have HG0:Hid (∀W',Below w.heap.size w W'→TyG W'.heap.size W'):=Lib.hid fun W' hb=>(G.below hb).1
 have HI0:Hid (∀W',Below w.heap.size w W'→PrIn W' W'.heap.size p):=Lib.hid fun W' hb=>hI.keep hb hb.size
 obtain⟨X,hX⟩:∃X,w.heap.size=X:=⟨_,rfl⟩
 obtain⟨w1,hw1⟩:∃w1,w.alloc (prObj p)=w1:=⟨_,rfl⟩
 have hb1:Below w.heap.size w w1:=by rw[←hw1];exact (Below.refl _ _).alloc (Nat.le_refl _) _
 have x1:w1.heap[X]? =some (prObj p):=by rw[←hw1,←hX];exact heap_alloc_new w _
 have HX1:Hid (∀W',Below w1.heap.size w1 W'→W'.heap[X]? =some (prObj p)):=Lib.hid fun W' hb=>(hb.block X (blk_lt x1)).trans x1
 have HBw:Hid (∀W',Below w1.heap.size w1 W'→Below w.heap.size w W'):=Lib.hid fun W' hb=>hb1.trans (hb.mono hb1.size)
 have HG:Hid (∀W',Below w1.heap.size w1 W'→TyG W'.heap.size W'):=Lib.hid fun W' hb=>HG0.out _ (HBw.out _ hb)
 have HI:Hid (∀W',Below w1.heap.size w1 W'→PrIn W' W'.heap.size p):=Lib.hid fun W' hb=>HI0.out _ (HBw.out _ hb)
 have HN:=Lib.hid (And.intro hX hw1)
 have hrg:=prSize_range p
 have C1:=Lib.hid (prsize_any p w1 (HI0.out _ hb1))
 have q0:=cell_at x1 0
 have q1:=cell_at x1 1
 have q2:=cell_at x1 2
 have q3:=cell_at x1 3
 simp only[sl7,sl8,sl9]at q0 q1 q2 q3
 rw[←hw1,←hX]at q0 q1 q2 q3
 have HCap:=Lib.hid hcap
 clear hcap
 dsimp only[Pr.cells]
 by_cases hbig:262144<prSizeS p
 ·have CB:Hid (∀(b:Nat) (W:World),W.cell? ⟨b,0,none⟩=some (.int .i64 (prSizeS p))→Calls Tryz.prog 7 #[.slice (some ⟨b,0,none⟩) 1 1] W fun e w'=>e=.returned (.bool true)∧W=w'):=Lib.hid fun b W hc=>by
   have h:=beyond_any b 0 1 (prSizeS p) hrg.1 (by omega) W hc
   rwa [show decide (262144<prSizeS p)=true by simpa using hbig]at h
  generalize prSizeS p=sz at*
  clear hX hw1 hb1 x1 hI G hrg hbig
  go_enter Tryz.func3,Tryz.ntmps3
  go_wp2_with fail
  simp only[HN.out.1,HN.out.2]
  refine C1.out.mono ?_
  rintro e w2 ⟨rfl,hb2⟩
  have HB2:=Lib.hid (HBw.out _ hb2)
  clear hb2 C1
  go_wp2_with fail
  refine (CB.out _ _ (cell_at (heap_alloc_new w2 _) 0)).mono ?_
  rintro e w3 ⟨rfl,rfl⟩
  have HZ:Hid (∀o,Below w.heap.size w (w2.alloc o)):=Lib.hid fun o=>HB2.out.alloc HB2.out.size o
  go_wp2_with fail
  go_ret
  exact⟨rfl,HZ.out _⟩
 ·have CB:Hid (∀(b:Nat) (W:World),W.cell? ⟨b,0,none⟩=some (.int .i64 (prSizeS p))→Calls Tryz.prog 7 #[.slice (some ⟨b,0,none⟩) 1 1] W fun e w'=>e=.returned (.bool false)∧W=w'):=Lib.hid fun b W hc=>by
   have h:=beyond_any b 0 1 (prSizeS p) hrg.1 (by omega) W hc
   rwa [show decide (262144<prSizeS p)=false by simpa using hbig]at h
  have hsm:=prSize_small (p:=p) (by omega)
  have HSm:=Lib.hid hsm
  have HPb:Hid (placesOf p≤262144):=Lib.hid (places_small hsm)
  generalize prSizeS p=sz at*
  clear hX hw1 hb1 x1 hI G hrg hbig hsm
  go_enter Tryz.func3,Tryz.ntmps3
  go_wp2_with fail
  simp only[HN.out.1,HN.out.2]
  refine C1.out.mono ?_
  rintro e w2 ⟨rfl,hb2⟩
  have HB2:=Lib.hid hb2
  clear hb2 C1 q0 q1 q2 q3
  go_wp2_with fail
  refine (CB.out _ _ (cell_at (heap_alloc_new w2 _) 0)).mono ?_
  rintro e w3 ⟨rfl,hw3⟩
  have hb3:Below w1.heap.size w1 w3:=by rw[←hw3];exact HB2.out.alloc HB2.out.size _
  have HB3:=Lib.hid hb3
  have CT:=Lib.hid (twinPr_any w3.heap.size p w3 (HI.out _ hb3) (Nat.le_refl _) (HG.out _ hb3).gg HSm.out)
  have CT:Hid (Calls Tryz.prog 9 #[p.val] w3 fun e w'=>∃q:Pr,e=.returned (.agg q.cells.toArray)∧stripP q=stripP p∧TnP w' w3.heap.size w'.heap.size q∧Below w3.heap.size w3 w'):=CT
  have row:=HX1.out _ hb3
  have q0:=cell_at row 0
  have q1:=cell_at row 1
  have q2:=cell_at row 2
  have q3:=cell_at row 3
  simp only[sl7,sl8,sl9]at q0 q1 q2 q3
  clear row hb3 hw3 HB2 CB
  go_wp2_with fail
  refine CT.out.mono ?_
  rintro e w4 ⟨q,rfl,hst,hTn,hb4⟩
  obtain⟨Y,hY⟩:∃Y,w4.heap.size=Y:=⟨_,rfl⟩
  obtain⟨w5,hw5⟩:∃w5,w4.alloc (prObj q)=w5:=⟨_,rfl⟩
  have hb5:Below w4.heap.size w4 w5:=by rw[←hw5];exact (Below.refl _ _).alloc (Nat.le_refl _) _
  have x5:w5.heap[Y]? =some (prObj q):=by rw[←hw5,←hY];exact heap_alloc_new w4 _
  have HX2:Hid (∀W',Below w5.heap.size w5 W'→W'.heap[Y]? =some (prObj q)):=Lib.hid fun W' hb=>(hb.block Y (blk_lt x5)).trans x5
  have hb15:Below w1.heap.size w1 w5:=HB3.out.trans ((hb4.trans (hb5.mono hb4.size)).mono HB3.out.size)
  have HB5w:Hid (∀W',Below w5.heap.size w5 W'→Below w1.heap.size w1 W'):=Lib.hid fun W' hb=>hb15.trans (hb.mono hb15.size)
  have HTn:Hid (∀W',Below w5.heap.size w5 W'→TnP W' 0 W'.heap.size q):=Lib.hid fun W' hb=>hTn.keep (fun b _ h=>(hb5.trans (hb.mono hb5.size)).block b h) (Nat.zero_le _) (hb5.trans (hb.mono hb5.size)).size
  have HBw5:Hid (Below w5.heap.size w5 w5):=Lib.hid (Below.refl _ _)
  have HW5:=Lib.hid (And.intro hY hw5)
  obtain⟨at_,er,hT⟩:∃a b,typesCheck p=(a,b):=⟨_,_,rfl⟩
  have hpe:=placesOf_same hst
  have hRg:=chk_range hT
  have CC:Hid (∀W,Below w5.heap.size w5 W→Calls Tryz.prog 10 #[q.val] W fun e w'=>e=.returned (.tuple #[.int .i64 at_,.int .i64 er])∧Below W.heap.size W w'):=Lib.hid fun W hb=>by
   have g:=HG.out _ (HB5w.out _ hb)
   have h:=typesCheck_any W.heap.size q W g.gl g.num (HTn.out _ hb).inn
   rw[typesCheck_same hst,hT]at h
   exact h
  have CP:Hid (∀W,Below w5.heap.size w5 W→Calls Tryz.prog 11 #[q.val] W fun e w'=>e=.returned (.int .i64 (placesOf p:Nat))∧Below W.heap.size W w'):=Lib.hid fun W hb=>by
   have h:=places_any W.heap.size q W (HTn.out _ hb).inn (Nat.le_refl _) (by rw[hpe];have:=HPb.out;omega)
   rw[hpe]at h
   exact h
  have CR:Hid (∀W,Below w5.heap.size w5 W→Calls Tryz.prog 12 #[p.val] W fun e w'=>e=.returned (.tuple #[.int .i64 at_,.int .i64 er])∧Below W.heap.size W w'):=Lib.hid fun W hb=>by
   have h:=rcheck5_any p HCap.out W (HI.out _ (HB5w.out _ hb))
   rw[hT]at h
   exact h
  have HPr:Hid (∀W,Below w5.heap.size w5 W→Calls Tryz.prog 13 #[p.val] W fun e w'=>e=.returned (.int .i64 (placesOf p:Nat))∧Below W.heap.size W w'):=Lib.hid fun W hb=>rplacesOf_any p W (HI.out _ (HB5w.out _ hb)) (by have:=HPb.out;omega)
  have HLf:Hid (∀W,Below w5.heap.size w5 W→Calls Tryz.prog 14 #[q.val,p.val] W fun e w'=>e=.returned (.bool true)∧Below W.heap.size W w'):=Lib.hid fun W hb=>leftPr_any q p hst W (HTn.out _ hb) (HI.out _ (HB5w.out _ hb)) (HG.out _ (HB5w.out _ hb)).gg
  clear CT hst hTn hb4 hY hw5 hb5 x5 hb15 hT hpe q0 q1 q2 q3
  generalize placesOf p=pl at*
  have d3:(at_==at_)=true:=by simp
  have d4:(er==er)=true:=by simp
  have d5:((pl:Int)==(pl:Int))=true:=by simp
  have HRg:=Lib.hid hRg
  clear hRg
  dsimp only[Pr.val,Pr.cells]at CC CP CR HPr HLf ⊢
  go_wp2_with fail
  simp only[HW5.out.1,HW5.out.2]
  refine (CC.out _ HBw5.out).mono ?_
  rintro e w6 ⟨rfl,hb⟩
  have HBw6:Hid (Below w5.heap.size w5 w6):=Lib.hid (HBw5.out.trans (hb.mono HBw5.out.size))
  clear hb
  have row:=HX2.out _ HBw6.out
  have y0:=cell_at row 0
  have y1:=cell_at row 1
  have y2:=cell_at row 2
  have y3:=cell_at row 3
  simp only[sl7,sl8,sl9]at y0 y1 y2 y3
  clear row
  go_wp2_with fail
  refine (CP.out _ HBw6.out).mono ?_
  rintro e w7 ⟨rfl,hb⟩
  have HBw7:Hid (Below w5.heap.size w5 w7):=Lib.hid (HBw6.out.trans (hb.mono HBw6.out.size))
  clear hb
  clear y0 y1 y2 y3
  have row:=HX2.out _ HBw7.out
  have y0:=cell_at row 0
  have y1:=cell_at row 1
  have y2:=cell_at row 2
  have y3:=cell_at row 3
  simp only[sl7,sl8,sl9]at y0 y1 y2 y3
  clear row
  go_wp2_with fail
  refine (CC.out _ HBw7.out).mono ?_
  rintro e w8 ⟨rfl,hb⟩
  have HBw8:Hid (Below w5.heap.size w5 w8):=Lib.hid (HBw7.out.trans (hb.mono HBw7.out.size))
  clear hb
  clear y0 y1 y2 y3
  have row:=HX1.out _ (HB5w.out _ HBw8.out)
  have q0:=cell_at row 0
  have q1:=cell_at row 1
  have q2:=cell_at row 2
  have q3:=cell_at row 3
  simp only[sl7,sl8,sl9]at q0 q1 q2 q3
  clear row
  go_wp2_with fail
  refine (CR.out _ HBw8.out).mono ?_
  rintro e w9 ⟨rfl,hb⟩
  have HBw9:Hid (Below w5.heap.size w5 w9):=Lib.hid (HBw8.out.trans (hb.mono HBw8.out.size))
  clear hb
  clear q0 q1 q2 q3
  have row:=HX1.out _ (HB5w.out _ HBw9.out)
  have q0:=cell_at row 0
  have q1:=cell_at row 1
  have q2:=cell_at row 2
  have q3:=cell_at row 3
  simp only[sl7,sl8,sl9]at q0 q1 q2 q3
  clear row
  by_cases h0:er=0
  ·have e0:(er==0)=true:=by simpa using h0
   clear h0
   exact qa27s_1
  have e0:(er==0)=false:=by simpa using h0
  by_cases h1:at_<(pl:Int)
  ·have e1:decide (at_<(pl:Int))=true:=by simpa using h1
   clear h0 h1
   exact qa27s_1
  have e1:decide (at_<(pl:Int))=false:=by simpa using h1
  obtain⟨h2,h3⟩:=(HRg.out.resolve_left h0).resolve_left h1
  have e2:(er==1)=true:=by simpa using h2
  have e3:(at_==0)=true:=by simpa using h3
  clear h0 h1 h2 h3
  exact qa27s_1
end Go.Proofs.YtkklogikakcanaaGreatDoor
