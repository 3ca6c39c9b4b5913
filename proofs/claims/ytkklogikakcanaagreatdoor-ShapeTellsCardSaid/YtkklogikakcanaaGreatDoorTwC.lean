import Derived.Test.YtkklogikakcanaaGreatDoorTwA
set_option linter.unusedVariables false
set_option linter.unusedSimpArgs false
open List renaming getElem?_toArray → sl7, getElem?_cons_zero → sl8, getElem?_cons_succ → sl9
namespace Go.Proofs.YtkklogikakcanaaGreatDoor
open Go Go.RowKit Go.Sort
theorem q645l_8 {P:Prop} (h:P:=by
 rw[addr_add,cell_at h]
 have e:j<7:=(List.getElem?_eq_some_iff.1 hv).1
 simp only[sl7]
 rw[←hv]
 rcases (by omega:j=0∨j=1∨j=2∨j=3∨j=4∨j=5∨j=6) with rfl|rfl|rfl|rfl|rfl|rfl|rfl<;>rfl):P:=h
theorem q645l_7 {P:Prop} (h:P:=by
 have h:=hL.out.2
 rwa [List.take_of_length_le (by rw[HN.out];exact Nat.le_refl _)]at h):P:=h
theorem q645l_6 {P:Prop} (h:P:=by
 rw[Array.getElem?_eq_none (by rw[setCells_size];omega),Array.getElem?_eq_none (by omega)]):P:=h
theorem q645l_5 {P:Prop} (h:P:=by
 rcases HO5.out.2 with ⟨h',_⟩|⟨g',cap',cur,h',hb,hg,r⟩
 ·simp at h'
 ·exact q645l_2):P:=h
theorem q645l_4 {P:Prop} (h:P:=by
 rcases hO.out.2 with ⟨h',_⟩|⟨g',cap',cur,h',hb2,hg,r⟩
 ·simp at h'
 ·exact q645l_2):P:=h
theorem q645l_3 {P:Prop} (h:P:=by
 go_roundw
 case rel=>exact⟨j+1,l'++[y],by go_num,by omega,HL3,HO3,HT3,HB3⟩
 case measure=>simp[intOf];omega):P:=h
theorem q645l_2 {P:Prop} (h:P:=by
 simp only[Value.slice.injEq,Option.some.injEq,Addr.mk.injEq,and_true]at h'
 rw[h'.1];exact blk_lt hg):P:=h
theorem q645l_1 {P:Prop} (h:P:=by
 rcases mem_last hz with hz|rfl
 ·exact (hT.out z hz).keep (fun b h1 h2=>(hk3 b h1).trans (hb.block b h2)) (Nat.le_refl _) (by rw[s3];exact hb.size)
 ·exact ht.keep (fun b h1 h2=>hk3 b (by omega)) (by omega) (by rw[s3];exact Nat.le_refl _)):P:=h
abbrev TwinX (B:Nat) (x:Ex):Prop:=∀w,ExIn w B x→B≤w.heap.size→Globs w→
 Calls Tryz.prog 148 #[.agg x.cells.toArray] w fun e w'=>∃y:Ex,e=.returned (.agg y.cells.toArray)∧stripE y=stripE x∧TnE w' w.heap.size w'.heap.size y∧Below w.heap.size w w'
abbrev TwinXs (B:Nat) (l:List Ex):Prop:=∀(d:Hd) (w:World),ExsIn w B d l→B≤w.heap.size→Globs w→
 Calls Tryz.prog 170 #[.slice d.a l.length d.c] w fun e w'=>∃(d':Hd) (l':List Ex),e=.returned (.slice d'.a l'.length d'.c)∧l'.length=l.length∧stripEs l'=stripEs l∧TnEs w' w.heap.size w'.heap.size d' l'∧Below w.heap.size w w'
set_option maxHeartbeats 4000000 in
set_option maxRecDepth 100000 in
theorem twinX_of (B:Nat) (x:Ex) (hargs:TwinXs B x.args):TwinX B x:=by
 intro w hI hB G
 obtain⟨k,n,nm,t,d,args⟩:=x
 obtain⟨X,hX⟩:∃X,w.heap.size=X:=⟨_,rfl⟩
 obtain⟨o,ho⟩:∃o,(.cells (Ex.mk k n nm t d args).cells.toArray 70 (0,0):Obj)=o:=⟨_,rfl⟩
 obtain⟨o2,ho2⟩:∃o2,(.cells #[.int .u8 0,.int .i64 0,.string ⟨#[]⟩,.int .u8 0,.string ⟨#[]⟩,.int .i64 0,.slice none 0 0] 70 (0,0):Obj)=o2:=⟨_,rfl⟩
 obtain⟨w2,hw2⟩:∃w2,(w.alloc o).alloc o2=w2:=⟨_,rfl⟩
 have hb1:Below w.heap.size w (w.alloc o):=(Below.refl _ _).alloc (Nat.le_refl _) _
 have hb2:Below w.heap.size w w2:=by rw[←hw2];exact hb1.alloc hb1.size _
 have s2:w2.heap.size=X+1+1:=by rw[←hw2,World.size_alloc,World.size_alloc,hX]
 have hs1:(w.alloc o).heap.size=X+1:=by rw[World.size_alloc,hX]
 have x1:(w.alloc o).heap[X]? =some o:=by rw[←hX];exact heap_alloc_new w _
 have x2:w2.heap[X]? =some o:=by
  rw[←hw2]
  exact (((Below.refl (w.alloc o).heap.size (w.alloc o)).alloc (Nat.le_refl _) o2).block X (by omega)).trans x1
 have y2:w2.heap[X+1]? =some o2:=by rw[←hw2,←hs1];exact heap_alloc_new _ _
 have C:=Lib.hid (hargs d w2 (hI.keep (hb2.mono hB) (Nat.le_refl B)).args (Nat.le_trans hB hb2.size) (G.below hb2))
 have HI:Hid (u8ok k∧i64ok n∧lenOk nm.length∧t.Ok):=Lib.hid ⟨hI.k,hI.n,hI.nm,hI.t⟩
 have c6:w2.cell? ⟨X,6,none⟩=some (.slice d.a args.length d.c):=by rw[←ho]at x2;exact cell_at x2 6
 have HX:=Lib.hid (And.intro x2 y2)
 have HN:Hid (w.heap.size=X∧(w.alloc o).alloc o2=w2∧w2.heap.size=X+1+1):=Lib.hid ⟨hX,hw2,s2⟩
 have HB2:=Lib.hid hb2
 have Ho:=Lib.hid (And.intro ho ho2)
 dsimp only[Ex.args]at C
 rw[←hw2]at c6
 clear hb1 hb2 s2 hs1 x1 x2 y2 hI G hB hargs hw2
 go_enter Tryz.func148,Tryz.ntmps148
 go_wp2_with fail
 simp only[HN.out.2.1]
 clear c6
 refine C.out.mono ?_
 rintro e w3 ⟨d',l',rfl,hl,hs,hT,hb3⟩
 obtain⟨y,hy⟩:∃y:Ex,y=.mk k n nm t d' l':=⟨_,rfl⟩
 have x3:w3.heap[X]? =some o:=(hb3.block X (by have:=HN.out.2.2;omega)).trans HX.out.1
 have y3:w3.heap[X+1]? =some o2:=(hb3.block (X+1) (by have:=HN.out.2.2;omega)).trans HX.out.2
 rw[←Ho.out.1]at x3
 have c6:=cell_at x3 6
 have f6:=frz_at x3 6
 simp only[sl7,Ex.cells,sl8,sl9]at c6
 obtain⟨w4,hw4⟩:∃w4,w3.setCell ⟨X,6,none⟩ (.slice d'.a l'.length d'.c)=w4:=⟨_,rfl⟩
 have x4:w4.heap[X]? =some (.cells y.cells.toArray 70 (0,0)):=by
  have h:=row_set x3 6 (.slice d'.a l'.length d'.c)
  rw[hw4]at h
  rw[h,hy]
  rfl
 have y4:w4.heap[X+1]? =some o2:=by rw[←hw4];exact (Below.heap_setCell _ _ _ _ (by show X+1≠X;omega)).trans y3
 have hk4:∀b,X+1+1≤b→b<w3.heap.size→(w4.setCells (X+1) 0 y.cells).heap[b]? =w3.heap[b]? :=fun b h1 h2=>by
  have hk:=setCells_kept (S:=fun k=>k=X∨k=X+1) (g:=X+1) (Or.inr rfl) y.cells 0 w4 (by rw[←hw4];exact Kept.setCell (S:=fun k=>k=X∨k=X+1) (Kept.refl _ w3) (p:=⟨X,6,none⟩) (Or.inl (Or.inl rfl)) _)
  exact hk.block b h2 (fun hh=>by rcases hh with hh|hh<;>omega)
 have s5:(w4.setCells (X+1) 0 y.cells).heap.size=w3.heap.size:=by rw[setCells_size,←hw4];simp
 rw[←Ho.out.2]at y4
 have htr:=there_row (vs:=[.int .u8 0,.int .i64 0,.string ⟨#[]⟩,.int .u8 0,.string ⟨#[]⟩,.int .i64 0,.slice none 0 0]) y4 0 7 (Nat.le_refl 7)
 have hrg:(w4.setCells (X+1) 0 y.cells).rangeAt (X+1) 0 y.cells:=World.rangeAt_setCells_same _ _ _ _ htr
 have hres:(loadVar 70 ⟨X+1,0,none⟩).run Tryz.prog (w4.setCells (X+1) 0 y.cells)=.ok (.agg y.cells.toArray) (w4.setCells (X+1) 0 y.cells):=run_loadVar_mid _ (X+1) 0 70 y.cells _ hrg Tryz.underlying70 rfl (exSzL _)
 have hz4:=row_cells x4
 have HZ:Hid (stripE y=stripE (.mk k n nm t d args)∧TnE (w4.setCells (X+1) 0 y.cells) w.heap.size (w4.setCells (X+1) 0 y.cells).heap.size y∧Below w.heap.size w (w4.setCells (X+1) 0 y.cells)):=Lib.hid (by
  have hg:w2.heap.size=X+1+1:=HN.out.2.2
  have hT2:TnEs (w4.setCells (X+1) 0 y.cells) w.heap.size (w4.setCells (X+1) 0 y.cells).heap.size d' l':=hT.keep (by rw[hg];exact hk4) (by rw[hg];have:=HN.out.1;omega) (by rw[s5];exact Nat.le_refl _)
  refine⟨by rw[hy];simp only[stripE,hs],?_,?_⟩
  ·have hE:TnE (w4.setCells (X+1) 0 y.cells) w.heap.size (w4.setCells (X+1) 0 y.cells).heap.size (.mk k n nm t d' l'):=.mk HI.out.1 HI.out.2.1 HI.out.2.2.1 HI.out.2.2.2 hT2.len hT2.row hT2.sub
   rw[←hy]at hE
   exact hE
  ·have h1:Below w.heap.size w w3:=HB2.out.trans (hb3.mono HB2.out.size)
   refine setCells_below (by have:=HN.out.1;omega) _ _ _ ?_
   rw[←hw4]
   exact h1.setCell (p:=⟨X,6,none⟩) (by show w.heap.size≤X;have:=HN.out.1;omega) _)
 have HW4:=Lib.hid hw4
 clear hs hT hb3 x3 y3 x4 y4 hk4 s5 hrg hw4 hl hy
 go_wp2_with (first|(refine wpList_load_list rfl 70 _ rfl _ rfl y.cells _ hz4 Tryz.underlying70 rfl (exSzL _) ?_)|(refine wpList_store_mid rfl 70 _ _ rfl (X+1) 0 y.cells.toArray rfl rfl htr (exSz _) (exOn _) ?_)|rw[HW4.out])
 refine bodyPost_ret (v:=.agg y.cells.toArray) (by simp[results,Tryz.results148,Act.eval,Sem.run_bind,Act.put,asAddr,hres]) rfl ?_
 exact⟨y,rfl,HZ.out⟩
theorem exLen:∀l:List Ex,l.length≤exCounts l
 |[]=>Nat.zero_le _
 |x::r=>by
  rw[exCounts,List.length_cons]
  have:=exLen r
  have:=exCount_pos x
  omega
theorem ExsIn.keep {w w':World} {B B':Nat} {d:Hd} {l:List Ex} (h:ExsIn w B d l) (hb:Below B w w') (hB:B≤B'):ExsIn w' B' d l:=
 ⟨h.len,h.row.keep (fun _ _ _ h hk=>h.keep hk) hb hB,fun s hs=>(h.sub s hs).keep hb hB⟩
theorem exAt_list {w:World} {b o:Nat} {x:Ex} (h:ExAt w b o x):∀j v,x.cells[j]? =some v→w.cell? ((⟨b,o,none⟩:Addr).add j)=some v:=fun j v hv=>by
 rw[addr_add];exact h.cells j v hv
set_option maxHeartbeats 16000000 in
set_option maxRecDepth 100000 in
theorem twinXs_of (B:Nat) (l:List Ex) (hn:l.length≤262145) (hel:∀x∈l,TwinX B x):TwinXs B l:=by
 intro d w hI hBw G
 obtain⟨i0,hi0,hz0,hz1,hz2⟩:=info_parts infoEx
 have hmk0:=run_make (P:=Tryz.prog) w 68 70 i0 _ Tryz.underlying68 hi0 hz0 .i64 .i64 (l.length:Int) ((l.length:Int)+2) (by omega) (by omega) (by rw[hz2];omega) (by omega)
 rw[show ((l.length:Int)+2).toNat=l.length+2 by omega,Int.toNat_natCast,hz1]at hmk0
 generalize hcs:madeCells _ ((l.length+2)*7)=cs at hmk0
 have hsz:cs.size=(l.length+2)*7:=by rw[←hcs];exact size_madeCells _ _
 clear hcs
 obtain⟨w0,hw0⟩:∃w0,w.alloc (.cells cs 70)=w0:=⟨_,rfl⟩
 have hb0:Below w.heap.size w w0:=by rw[←hw0];exact (Below.refl _ _).alloc (Nat.le_refl _) _
 have ho0:w0.ownsRow w.heap.size 70 7 (.slice (some ⟨w.heap.size,0,none⟩) 0 (l.length+2)) 0 (([]:List Ex).flatMap Ex.cells):=by rw[←hw0];exact own_begin w cs 70 7 (l.length+2) (by unfold maxLen;omega) hsz
 have HO0:=Lib.hid ho0
 have HB0:=Lib.hid hb0
 have HGl:Hid (∀W,Below w.heap.size w W→Globs W):=Lib.hid fun W hb=>G.below hb
 have HIn:Hid (∀W,Below w.heap.size w W→ExsIn W B d l):=Lib.hid fun W hb=>hI.keep (hb.mono hBw) (Nat.le_refl B)
 have HBs:Hid (∀W,Below w.heap.size w W→B≤W.heap.size):=Lib.hid fun W hb=>Nat.le_trans hBw hb.size
 have HW0:=Lib.hid hw0
 obtain⟨n,hN⟩:∃n,l.length=n:=⟨_,rfl⟩
 have HN:=Lib.hid hN
 rw[hN]at hmk0 HO0 hn ⊢
 have hnI:(n:Int)≤1000000:=by omega
 clear hi0 hz0 hz1 hz2 hsz hI hN G hBw hb0 ho0
 rw[hw0]at hmk0
 clear hw0
 go_enter Tryz.func170,Tryz.ntmps170
 go_wp2_with fail
 go_loopw [15] (fun ii wr=>∃(j:Nat) (l':List Ex),ii=.int .i64 j∧j≤n∧Hid (l'.length=j∧l'.map stripE=(l.take j).map stripE)∧Hid (wr.ownsRow w.heap.size 70 7 (.slice (some ⟨w.heap.size,0,none⟩) j (n+2)) j (l'.flatMap Ex.cells))∧Hid (∀y∈l',TnE wr (w.heap.size+1) wr.heap.size y)∧Hid (Below w.heap.size w wr)) (fun ii _=>n - (intOf ii).toNat)
 case atStart=>exact⟨0,[],rfl,Nat.zero_le _,Lib.hid ⟨rfl,rfl⟩,HO0,Lib.hid (fun y hy=>by cases hy),HB0⟩
 case round=>
  obtain⟨j,l',rfl,hj,hL,hO,hT,hB⟩:=hrel
  clear HO0
  have p2:(0:Int)≤(j:Int):=Int.natCast_nonneg _
  by_cases hlt:j<n
  ·have hltl:j<l.length:=by rw[HN.out];exact hlt
   obtain⟨x,hx⟩:∃x,l[j]? =some x:=⟨_,List.getElem?_eq_getElem hltl⟩
   have hmem:=List.mem_of_getElem? hx
   have hIr:=HIn.out _ hB.out
   obtain⟨rb,ro,hda,hrb,hrow⟩:=hIr.row (by intro h0;rw[h0]at hltl;simp at hltl)
   have hz:=exAt_list (hrow j x hx)
   have hTk:(l.take (j+1)).map stripE=(l.take j).map stripE++[stripE x]:=by
    rw[List.take_add_one,hx];simp
   have C:=Lib.hid (hel x hmem wr (hIr.sub x hmem) (HBs.out _ hB.out) (HGl.out _ hB.out))
   have p1:(j:Int)<(n:Int):=by omega
   have HTk:=Lib.hid hTk
   have HLt:=Lib.hid hlt
   clear hrow hIr hx hmem hTk hltl hlt hrb
   rw[hda]
   go_wp2_with (refine wpList_load_list rfl 70 _ rfl _ rfl (Ex.cells x) _ hz Tryz.underlying70 rfl (exSzL _) ?_)
   with_reducible refine C.out.mono ?_
   rintro e w2 ⟨y,rfl,hs,ht,hb⟩
   have HO2:=Lib.hid (own_belowI hO.out hb)
   have hlt:=HLt.out
   have htr:=there_own HO2.out (by omega)
   obtain⟨w3,hw3⟩:∃w3,w2.setCells w.heap.size (j*7) (Ex.cells y)=w3:=⟨_,rfl⟩
   have hO3:=own_store HO2.out (by omega) (Ex.cells y) rfl
   rw[hw3]at hO3
   have HO3:Hid (w3.ownsRow w.heap.size 70 7 (.slice (some ⟨w.heap.size,0,none⟩) (j+1) (n+2)) (j+1) ((l'++[y]).flatMap Ex.cells)):=Lib.hid (by rw[List.flatMap_append];simpa using hO3)
   have hbw2:Below w.heap.size w w2:=hB.out.trans (hb.mono hB.out.size)
   have hk3:∀b,w.heap.size+1≤b→w3.heap[b]? =w2.heap[b]? :=fun b hb2=>by
    rw[←hw3]
    by_cases hbl:b<w2.heap.size
    ·exact (setCells_kept (S:=fun k=>k=w.heap.size) rfl (Ex.cells y) (j*7) w2 (Kept.refl _ _)).block b hbl (by omega)
    ·exact q645l_6
   have s3:w3.heap.size=w2.heap.size:=by rw[←hw3,setCells_size]
   have hgw:w.heap.size+1≤wr.heap.size:=by
    exact q645l_4
   have HT3:Hid (∀z∈l'++[y],TnE w3 (w.heap.size+1) w3.heap.size z):=Lib.hid fun z hz=>by
    exact q645l_1
   have HB3:Hid (Below w.heap.size w w3):=Lib.hid (by rw[←hw3];exact setCells_below (Nat.le_refl _) _ _ _ hbw2)
   have HL3:Hid ((l'++[y]).length=j+1∧(l'++[y]).map stripE=(l.take (j+1)).map stripE):=Lib.hid ⟨by rw[List.length_append,hL.out.1];rfl,by rw[HTk.out,←hL.out.2,List.map_append];simp[hs]⟩
   have HW3:=Lib.hid hw3
   clear hs ht hb HO2 hO3 hbw2 hk3 s3 hgw hz hw3 C hL hO hT hB HTk
   go_wp2_with (refine wpList_store_mid rfl 70 _ _ rfl w.heap.size (j*7) (Ex.cells y).toArray rfl rfl htr (exSz _) (exOn _) ?_;rw[show w2.setCells w.heap.size (j*7) (Ex.cells y).toArray.toList=w3 from HW3.out])
   exact q645l_3
  ·obtain rfl:j=n:=by omega
   have hst:l'.map stripE=l.map stripE:=by
    exact q645l_7
   have HSt:=Lib.hid (And.intro hL.out.1 hst)
   clear hst hL hlt
   go_wp2_with fail
   refine wp_loop_rounds 3 ?_
   rw[rounds_succ]
   go_wp2_with fail
   refine (markE_any j (by omega) wr (HGl.out _ hB.out)).mono ?_
   rintro e w2 ⟨rfl,hb⟩
   have HO2:=Lib.hid (own_belowI hO.out hb)
   have hB2:Below w.heap.size w w2:=hB.out.trans (hb.mono hB.out.size)
   have HKp:Hid (Kept (fun k=>k=w.heap.size) wr w2):=Lib.hid (Kept.of_below hb)
   have htr:=there_own HO2.out (by omega)
   obtain⟨w3,hwd⟩:∃w3,w2.setCells w.heap.size (j*7) (markE j).cells=w3:=⟨_,rfl⟩
   have HO3:=Lib.hid (own_store HO2.out (by omega) (markE j).cells rfl)
   rw[hwd]at HO3
   have HB3:Hid (Below w.heap.size w w3):=Lib.hid (by rw[←hwd];exact setCells_below (Nat.le_refl _) _ _ _ hB2)
   have HK3:Hid (Kept (fun k=>k=w.heap.size) wr w3):=Lib.hid (by rw[←hwd];exact setCells_kept (S:=fun k=>k=w.heap.size) rfl _ _ _ HKp.out)
   clear hb hB2 HO2 HKp
   go_wp2_with (refine wpList_store_mid rfl 70 _ _ rfl w.heap.size (j*7) (markE j).cells.toArray rfl rfl htr (exSz _) (exOn _) ?_;rw[show w2.setCells w.heap.size (j*7) (markE j).cells.toArray.toList=w3 from hwd])
   clear htr hwd
   go_wp2_with fail
   rw[rounds_succ]
   go_wp2_with fail
   refine (markE_any (j+1) (by omega) w3 (HGl.out _ HB3.out)).mono ?_
   rintro e w4 ⟨rfl,hb⟩
   have HO2:=Lib.hid (own_belowI HO3.out hb)
   have hB2:Below w.heap.size w w4:=HB3.out.trans (hb.mono HB3.out.size)
   have HKp:Hid (Kept (fun k=>k=w.heap.size) w3 w4):=Lib.hid (Kept.of_below hb)
   have htr:=there_own HO2.out (by omega)
   obtain⟨w5,hwd⟩:∃w5,w4.setCells w.heap.size ((j+1)*7) (markE (j+1)).cells=w5:=⟨_,rfl⟩
   have HO5:=Lib.hid (own_store HO2.out (by omega) (markE (j+1)).cells rfl)
   rw[hwd]at HO5
   have HB5:Hid (Below w.heap.size w w5):=Lib.hid (by rw[←hwd];exact setCells_below (Nat.le_refl _) _ _ _ hB2)
   have HK5:Hid (Kept (fun k=>k=w.heap.size) w3 w5):=Lib.hid (by rw[←hwd];exact setCells_kept (S:=fun k=>k=w.heap.size) rfl _ _ _ HKp.out)
   clear hb hB2 HO2 HKp
   go_wp2_with (refine wpList_store_mid rfl 70 _ _ rfl w.heap.size ((j+1)*7) (markE (j+1)).cells.toArray rfl rfl htr (exSz _) (exOn _) ?_;rw[show w4.setCells w.heap.size ((j+1)*7) (markE (j+1)).cells.toArray.toList=w5 from hwd])
   clear htr hwd
   rw[rounds_succ]
   go_wp2_with fail
   go_ret
   have hlt:w.heap.size<w5.heap.size:=by
    exact q645l_5
   have hK:=HK3.out.trans HK5.out
   refine⟨⟨some ⟨w.heap.size,0,none⟩,j+2⟩,l',by rw[HSt.out.1];rfl,HSt.out.1,(by rw[stripEs_map,stripEs_map];exact HSt.out.2),⟨by rw[HSt.out.1];omega,tnRow_of markE exCells_len (fun _ _ _ _=>exAt_of) HSt.out.1 (Nat.le_refl _) hlt HO5.out,fun y hy=>(hT.out y hy).keep (fun b h1 h2=>hK.block b h2 (by omega)) (by omega) hK.size⟩,HB5.out⟩
theorem twinX_any (B:Nat):∀(sz:Nat) (x:Ex),exCount x≤sz→exCount x≤262145→TwinX B x:=by
 intro sz
 induction sz using Nat.strongRecOn with
 |ind sz ih=>
  intro x hx hs
  refine twinX_of B x (twinXs_of B x.args ?_ fun y hy=>?_)
  ·obtain⟨k,n,nm,t,d,args⟩:=x
   rw[exCount]at hs
   have:=exLen args
   dsimp only[Ex.args];omega
  ·have hm:=exCounts_mem hy
   have hlt:exCounts x.args<exCount x:=by
    obtain⟨k,n,nm,t,d,args⟩:=x
    rw[exCount,Ex.args];omega
   exact ih (exCount y) (by omega) y (Nat.le_refl _) (by omega)
end Go.Proofs.YtkklogikakcanaaGreatDoor
namespace Go.Proofs.YtkklogikakcanaaGreatDoor
open Go Go.RowKit Go.Sort
theorem infoSt:(Tryz.prog.info? 72).map (fun i=>(i.zero,i.size,i.bytes))=some (some (.agg #[.int .u8 0,.string ⟨#[]⟩,.int .u8 0,.string ⟨#[]⟩,.int .i64 0,.int .u8 0,.int .i64 0,.string ⟨#[]⟩,.int .u8 0,.string ⟨#[]⟩,.int .i64 0,.slice none 0 0,.int .u8 0,.int .i64 0,.string ⟨#[]⟩,.int .u8 0,.string ⟨#[]⟩,.int .i64 0,.slice none 0 0,.slice none 0 0,.slice none 0 0]),21,280):=by kernel_rfl
abbrev zeroSt:List Value:=[.int .u8 0,.string ⟨#[]⟩,.int .u8 0,.string ⟨#[]⟩,.int .i64 0,.int .u8 0,.int .i64 0,.string ⟨#[]⟩,.int .u8 0,.string ⟨#[]⟩,.int .i64 0,.slice none 0 0,.int .u8 0,.int .i64 0,.string ⟨#[]⟩,.int .u8 0,.string ⟨#[]⟩,.int .i64 0,.slice none 0 0,.slice none 0 0,.slice none 0 0]
def StBox (X:Nat) (s:St) (w:World):Prop:=w.heap[X]? =some (.cells s.cells.toArray 72 (0,0))
section
variable {X:Nat} {k:Int} {nm:List UInt8} {t:Ty} {x y x' y':Ex} {bd ed d':Hd} {body els l':List St} {w:World}
theorem StBox.setX (h:StBox X (.mk k nm t x y bd body ed els) w):StBox X (.mk k nm t x' y bd body ed els) (w.setCells X 5 x'.cells):=by
 have h2:=setCells_row x'.cells 5 w _ h (by simp[St.cells,Ex.cells])
 unfold StBox
 rw[h2]
 rfl
theorem StBox.setY (h:StBox X (.mk k nm t x y bd body ed els) w):StBox X (.mk k nm t x y' bd body ed els) (w.setCells X 12 y'.cells):=by
 have h2:=setCells_row y'.cells 12 w _ h (by simp[St.cells,Ex.cells])
 unfold StBox
 rw[h2]
 rfl
theorem StBox.setB (h:StBox X (.mk k nm t x y bd body ed els) w):StBox X (.mk k nm t x y d' l' ed els) (w.setCell ⟨X,19,none⟩ (.slice d'.a l'.length d'.c)):=by
 have h2:=row_set h 19 (.slice d'.a l'.length d'.c)
 unfold StBox
 rw[h2]
 rfl
theorem StBox.setE (h:StBox X (.mk k nm t x y bd body ed els) w):StBox X (.mk k nm t x y bd body d' l') (w.setCell ⟨X,20,none⟩ (.slice d'.a l'.length d'.c)):=by
 have h2:=row_set h 20 (.slice d'.a l'.length d'.c)
 unfold StBox
 rw[h2]
 rfl
theorem StBox.cells {s:St} (h:StBox X s w):∀j v,s.cells[j]? =some v→w.cell? ((⟨X,0,none⟩:Addr).add j)=some v:=row_cells h
theorem StBox.exX (h:StBox X (.mk k nm t x y bd body ed els) w):∀j v,x.cells[j]? =some v→w.cell? ((⟨X,5,none⟩:Addr).add j)=some v:=fun j v hv=>by
 exact q645l_8
theorem StBox.exY (h:StBox X (.mk k nm t x y bd body ed els) w):∀j v,y.cells[j]? =some v→w.cell? ((⟨X,12,none⟩:Addr).add j)=some v:=fun j v hv=>by
 exact q645l_8
theorem StBox.c19 (h:StBox X (.mk k nm t x y bd body ed els) w):w.cell? ⟨X,19,none⟩=some (.slice bd.a body.length bd.c):=cell_at h 19
theorem StBox.c20 (h:StBox X (.mk k nm t x y bd body ed els) w):w.cell? ⟨X,20,none⟩=some (.slice ed.a els.length ed.c):=cell_at h 20
theorem StBox.frz {s:St} (h:StBox X s w) (j:Nat):w.frozen? ⟨X,j,none⟩=false:=frz_at h j
theorem StBox.there {s:St} (h:StBox X s w) (o n:Nat) (hl:o+n≤21):w.there X o n:=there_row h o n hl
theorem StBox.keep {s:St} {w':World} (h:StBox X s w) (hb:Below w.heap.size w w'):StBox X s w':=(hb.block X (blk_lt h)).trans h
end
abbrev TwinS (B:Nat) (s:St):Prop:=∀w,StIn w B s→B≤w.heap.size→Globs w→
 Calls Tryz.prog 106 #[.agg s.cells.toArray] w fun e w'=>∃y:St,e=.returned (.agg y.cells.toArray)∧stripS y=stripS s∧TnS w' w.heap.size w'.heap.size y∧Below w.heap.size w w'
abbrev TwinSs (B:Nat) (l:List St):Prop:=∀(d:Hd) (w:World),StsIn w B d l→B≤w.heap.size→Globs w→
 Calls Tryz.prog 66 #[.slice d.a l.length d.c] w fun e w'=>∃(d':Hd) (l':List St),e=.returned (.slice d'.a l'.length d'.c)∧l'.length=l.length∧stripSs l'=stripSs l∧TnSs w' w.heap.size w'.heap.size d' l'∧Below w.heap.size w w'
abbrev KX (X:Nat):World→World→Prop:=Kept (fun k=>k=X∨k=X+1)
set_option maxHeartbeats 8000000 in
set_option maxRecDepth 100000 in
theorem twinS_of (B:Nat) (k:Int) (nm:List UInt8) (t:Ty) (x y:Ex) (bd:Hd) (body:List St) (ed:Hd) (els:List St) (hx:TwinX B x) (hy:TwinX B y) (hb:TwinSs B body) (he:TwinSs B els):TwinS B (.mk k nm t x y bd body ed els):=by
 intro w hI hB G
 obtain⟨X,hX⟩:∃X,w.heap.size=X:=⟨_,rfl⟩
 obtain⟨o,ho⟩:∃o,(.cells (St.mk k nm t x y bd body ed els).cells.toArray 72 (0,0):Obj)=o:=⟨_,rfl⟩
 obtain⟨o2,ho2⟩:∃o2,(.cells zeroSt.toArray 72 (0,0):Obj)=o2:=⟨_,rfl⟩
 obtain⟨w2,hw2⟩:∃w2,(w.alloc o).alloc o2=w2:=⟨_,rfl⟩
 have hb1:Below w.heap.size w (w.alloc o):=(Below.refl _ _).alloc (Nat.le_refl _) _
 have hb2:Below w.heap.size w w2:=by rw[←hw2];exact hb1.alloc hb1.size _
 have s2:w2.heap.size=X+1+1:=by rw[←hw2,World.size_alloc,World.size_alloc,hX]
 have hs1:(w.alloc o).heap.size=X+1:=by rw[World.size_alloc,hX]
 have x1:(w.alloc o).heap[X]? =some o:=by rw[←hX];exact heap_alloc_new w _
 have x2:StBox X (.mk k nm t x y bd body ed els) w2:=by
  unfold StBox
  rw[←hw2]
  exact (((Below.refl (w.alloc o).heap.size (w.alloc o)).alloc (Nat.le_refl _) o2).block X (by omega)).trans (by rw[x1,ho])
 have y2:w2.heap[X+1]? =some (.cells zeroSt.toArray 72 (0,0)):=by rw[←hw2,←hs1,ho2];exact heap_alloc_new _ _
 have HF:Hid (∀W,KX X w2 W→StIn W B (.mk k nm t x y bd body ed els)∧B≤W.heap.size∧Globs W∧Below w.heap.size w W∧X+1+1≤W.heap.size):=Lib.hid fun W hk=>by
  have hbw:Below w.heap.size w W:=hb2.trans (hk.below hb2.size (fun k h=>by rcases h with h|h<;>omega))
  exact⟨hI.keep (hbw.mono hB) (Nat.le_refl B),Nat.le_trans hB hbw.size,G.below hbw,hbw,by have:=hk.size;omega⟩
 have HY:Hid (∀W,Kept (fun k=>k=X) w2 W→W.heap[X+1]? =some (.cells zeroSt.toArray 72 (0,0))):=Lib.hid fun W hk=>(hk.block (X+1) (by omega) (by omega)).trans y2
 have HC:Hid (TwinX B x∧TwinX B y∧TwinSs B body∧TwinSs B els):=Lib.hid ⟨hx,hy,hb,he⟩
 have HX2:=Lib.hid x2
 have HIk:Hid (u8ok k∧lenOk nm.length∧t.Ok):=Lib.hid ⟨hI.k,hI.nm,hI.t⟩
 have HN:Hid (w.heap.size=X∧(w.alloc o).alloc o2=w2∧w2.heap.size=X+1+1):=Lib.hid ⟨hX,hw2,s2⟩
 have Ho:=Lib.hid (And.intro ho ho2)
 have hz2:=x2.exX
 rw[←hw2]at hz2
 clear hb1 hb2 s2 hs1 x1 x2 y2 hI G hB hx hy hb he hw2
 go_enter Tryz.func106,Tryz.ntmps106
 go_wp2_with (refine wpList_load_list rfl 70 _ rfl _ rfl x.cells _ hz2 Tryz.underlying70 rfl (exSzL _) ?_)
 simp only[HN.out.2.1]
 have f2:=HF.out _ (Kept.refl _ _)
 have CC:=HC.out.1 w2 f2.1.x f2.2.1 f2.2.2.1
 with_reducible refine CC.mono ?_
 clear CC
 rintro e w3 ⟨x',rfl,hsx,hTx,hb3⟩
 obtain⟨w4,hw4⟩:∃w4,w3.setCells X 5 x'.cells=w4:=⟨_,rfl⟩
 have B3:=HX2.out.keep hb3
 have B4:StBox X (.mk k nm t x' y bd body ed els) w4:=by rw[←hw4];exact B3.setX
 have htr:=B3.there 5 7 (by decide)
 have hz4:=B4.exY
 have k34:KX X w3 w4:=by rw[←hw4];exact setCells_kept (S:=fun k=>k=X∨k=X+1) (Or.inl rfl) _ _ _ (Kept.refl _ _)
 have k24:Kept (fun k=>k=X) w2 w4:=by rw[←hw4];exact setCells_kept (S:=fun k=>k=X) rfl _ _ _ (Kept.of_below hb3)
 have HTx:=Lib.hid (And.intro hsx hTx)
 have HB4:=Lib.hid B4
 have HK34:=Lib.hid k34
 have HK24:=Lib.hid k24
 have HW4:=Lib.hid hw4
 clear hsx hTx hb3 B3 B4 k34 k24 hw4 hz2 f2 HX2
 go_wp2_with (first|(refine wpList_store_mid rfl 70 _ _ rfl X 5 x'.cells.toArray rfl rfl htr (exSz _) (exOn _) ?_;rw[show w3.setCells X 5 x'.cells.toArray.toList=w4 from HW4.out])|(refine wpList_load_list rfl 70 _ rfl _ rfl y.cells _ hz4 Tryz.underlying70 rfl (exSzL _) ?_))
 have f4:=HF.out _ (HK24.out.mono fun k _ h=>Or.inl h)
 have CC:=HC.out.2.1 w4 f4.1.y f4.2.1 f4.2.2.1
 with_reducible refine CC.mono ?_
 clear CC
 rintro e w5 ⟨y',rfl,hsy,hTy,hb5⟩
 obtain⟨w6,hw6⟩:∃w6,w5.setCells X 12 y'.cells=w6:=⟨_,rfl⟩
 have B5:=HB4.out.keep hb5
 have B6:StBox X (.mk k nm t x' y' bd body ed els) w6:=by rw[←hw6];exact B5.setY
 have htr5:=B5.there 12 7 (by decide)
 have c6:=B6.c19
 have k45:KX X w4 w5:=Kept.of_below hb5
 have k56:KX X w5 w6:=by rw[←hw6];exact setCells_kept (S:=fun k=>k=X∨k=X+1) (Or.inl rfl) _ _ _ (Kept.refl _ _)
 have k26:Kept (fun k=>k=X) w2 w6:=by rw[←hw6];exact setCells_kept (S:=fun k=>k=X) rfl _ _ _ (HK24.out.trans (Kept.of_below hb5))
 have HTy:=Lib.hid (And.intro hsy hTy)
 have HB6:=Lib.hid B6
 have HK56:=Lib.hid k56
 have HK36:=Lib.hid (HK34.out.trans (k45.trans k56))
 have HK26:=Lib.hid k26
 have HW6:=Lib.hid hw6
 clear hsy hTy hb5 B5 B6 k45 k56 k26 hw6 htr hz4 f4 HB4 HW4
 go_wp2_with (refine wpList_store_mid rfl 70 _ _ rfl X 12 y'.cells.toArray rfl rfl htr5 (exSz _) (exOn _) ?_;rw[show w5.setCells X 12 y'.cells.toArray.toList=w6 from HW6.out])
 have f6:=HF.out _ (HK26.out.mono fun k _ h=>Or.inl h)
 have CC:=HC.out.2.2.1 bd w6 f6.1.body f6.2.1 f6.2.2.1
 with_reducible refine CC.mono ?_
 clear CC
 rintro e w7 ⟨bd',body',rfl,-,hsb,hTb,hb7⟩
 obtain⟨w8,hw8⟩:∃w8,w7.setCell ⟨X,19,none⟩ (.slice bd'.a body'.length bd'.c)=w8:=⟨_,rfl⟩
 have B7:=HB6.out.keep hb7
 have B8:StBox X (.mk k nm t x' y' bd' body' ed els) w8:=by rw[←hw8];exact B7.setB
 have c7:=B7.c19
 have z7:=B7.frz 19
 have c8:=B8.c20
 have k67:KX X w6 w7:=Kept.of_below hb7
 have k78:KX X w7 w8:=by rw[←hw8];exact Kept.setCell (S:=fun k=>k=X∨k=X+1) (Kept.refl _ _) (p:=⟨X,19,none⟩) (Or.inl (Or.inl rfl)) _
 have k28:Kept (fun k=>k=X) w2 w8:=by rw[←hw8];exact Kept.setCell (S:=fun k=>k=X) (HK26.out.trans (Kept.of_below hb7)) (p:=⟨X,19,none⟩) (Or.inl rfl) _
 have HTb:=Lib.hid (And.intro hsb hTb)
 have HB8:=Lib.hid B8
 have HK78:=Lib.hid k78
 have HK58:=Lib.hid (HK56.out.trans (k67.trans k78))
 have HK38:=Lib.hid (HK36.out.trans (k67.trans k78))
 have HK28:=Lib.hid k28
 have HW8:=Lib.hid hw8
 rw[←hw8]at c8
 clear hsb hTb hb7 B7 B8 k67 k78 k28 hw8 htr5 c6 f6 HB6 HW6 HK34 HK36 HK56
 go_wp2_with fail
 simp only[HW8.out]
 have f8:=HF.out _ (HK28.out.mono fun k _ h=>Or.inl h)
 have CC:=HC.out.2.2.2 ed w8 f8.1.els f8.2.1 f8.2.2.1
 with_reducible refine CC.mono ?_
 clear CC
 rintro e w9 ⟨ed',els',rfl,-,hse,hTe,hb9⟩
 obtain⟨wA,hwA⟩:∃wA,w9.setCell ⟨X,20,none⟩ (.slice ed'.a els'.length ed'.c)=wA:=⟨_,rfl⟩
 obtain⟨s,hs⟩:∃s:St,s=.mk k nm t x' y' bd' body' ed' els':=⟨_,rfl⟩
 have B9:=HB8.out.keep hb9
 have BA:StBox X s wA:=by rw[←hwA,hs];exact B9.setE
 have c9:=B9.c20
 have z9:=B9.frz 20
 have hzA:=BA.cells
 have k89:KX X w8 w9:=Kept.of_below hb9
 have k9A:KX X w9 wA:=by rw[←hwA];exact Kept.setCell (S:=fun k=>k=X∨k=X+1) (Kept.refl _ _) (p:=⟨X,20,none⟩) (Or.inl (Or.inl rfl)) _
 have k2A:Kept (fun k=>k=X) w2 wA:=by rw[←hwA];exact Kept.setCell (S:=fun k=>k=X) (HK28.out.trans (Kept.of_below hb9)) (p:=⟨X,20,none⟩) (Or.inl rfl) _
 have yA:=HY.out _ k2A
 have htA:=there_row (vs:=zeroSt) yA 0 21 (Nat.le_refl 21)
 obtain⟨wB,hwB⟩:∃wB,wA.setCells (X+1) 0 s.cells=wB:=⟨_,rfl⟩
 have hrg:wB.rangeAt (X+1) 0 s.cells:=by rw[←hwB];exact World.rangeAt_setCells_same _ _ _ _ htA
 have hres:(loadVar 72 ⟨X+1,0,none⟩).run Tryz.prog wB=.ok (.agg s.cells.toArray) wB:=run_loadVar_mid _ (X+1) 0 72 s.cells _ hrg Tryz.underlying72 rfl (stSzL _)
 have kAB:KX X wA wB:=by rw[←hwB];exact setCells_kept (S:=fun k=>k=X∨k=X+1) (Or.inr rfl) _ _ _ (Kept.refl _ _)
 have k9B:KX X w9 wB:=k9A.trans kAB
 have k8B:KX X w8 wB:=k89.trans k9B
 have HZ:Hid (stripS s=stripS (.mk k nm t x y bd body ed els)∧TnS wB w.heap.size wB.heap.size s∧Below w.heap.size w wB):=Lib.hid (by
  have hX:=HN.out.1
  have h3:X+1+1=w2.heap.size:=HN.out.2.2.symm
  have k3:KX X w3 wB:=HK38.out.trans k8B
  have k5:KX X w5 wB:=HK58.out.trans k8B
  have k7:KX X w7 wB:=HK78.out.trans k8B
  have q4:w2.heap.size≤w4.heap.size:=HK24.out.size
  have q6:w2.heap.size≤w6.heap.size:=HK26.out.size
  have q8:w2.heap.size≤w8.heap.size:=HK28.out.size
  have tx:=HTx.out.2.keep (fun b h1 h2=>k3.block b h2 (fun hh=>by rcases hh with hh|hh<;>omega)) (show w.heap.size≤w2.heap.size by omega) k3.size
  have ty:=HTy.out.2.keep (fun b h1 h2=>k5.block b h2 (fun hh=>by rcases hh with hh|hh<;>omega)) (show w.heap.size≤w4.heap.size by omega) k5.size
  have tb:=HTb.out.2.keep (fun b h1 h2=>k7.block b h2 (fun hh=>by rcases hh with hh|hh<;>omega)) (show w.heap.size≤w6.heap.size by omega) k7.size
  have te:=hTe.keep (fun b h1 h2=>k9B.block b h2 (fun hh=>by rcases hh with hh|hh<;>omega)) (show w.heap.size≤w8.heap.size by omega) k9B.size
  have hS:TnS wB w.heap.size wB.heap.size (.mk k nm t x' y' bd' body' ed' els'):=.mk HIk.out.1 HIk.out.2.1 HIk.out.2.2 tx ty tb.len te.len tb.row te.row tb.sub te.sub
  have fB:=HF.out _ (((HK28.out.mono fun k _ h=>Or.inl h:KX X w2 w8)).trans k8B)
  refine⟨?_,by rw[←hs]at hS;exact hS,fB.2.2.2.1⟩
  rw[hs]
  simp only[stripS,HTx.out.1,HTy.out.1,HTb.out.1,hse])
 have HWA:=Lib.hid hwA
 have HWB:=Lib.hid hwB
 clear hse hTe hb9 B9 BA k89 k9A k2A yA hwA hwB hrg kAB k9B k8B c7 z7 c8 f8 HB8 HW8 hs
 go_wp2_with (first|(refine wpList_load_list rfl 72 _ rfl _ rfl s.cells _ hzA Tryz.underlying72 rfl (stSzL _) ?_)|(refine wpList_store_mid rfl 72 _ _ rfl (X+1) 0 s.cells.toArray rfl rfl htA (stSz _) (stOn _) ?_;rw[show wA.setCells (X+1) 0 s.cells.toArray.toList=wB from HWB.out])|rw[HWA.out])
 refine bodyPost_ret (v:=.agg s.cells.toArray) (by simp[results,Tryz.results106,Act.eval,Sem.run_bind,Act.put,asAddr,hres]) rfl ?_
 exact⟨s,rfl,HZ.out⟩
theorem stAt_list {w:World} {b o:Nat} {s:St} (h:StAt w b o s):∀j v,s.cells[j]? =some v→w.cell? ((⟨b,o,none⟩:Addr).add j)=some v:=h.cells
set_option maxHeartbeats 16000000 in
set_option maxRecDepth 100000 in
theorem twinSs_of (B:Nat) (l:List St) (hn:l.length≤262145) (hel:∀x∈l,TwinS B x):TwinSs B l:=by
 intro d w hI hBw G
 obtain⟨i0,hi0,hz0,hz1,hz2⟩:=info_parts infoSt
 have hmk0:=run_make (P:=Tryz.prog) w 51 72 i0 _ Tryz.underlying51 hi0 hz0 .i64 .i64 (l.length:Int) ((l.length:Int)+2) (by omega) (by omega) (by rw[hz2];omega) (by omega)
 rw[show ((l.length:Int)+2).toNat=l.length+2 by omega,Int.toNat_natCast,hz1]at hmk0
 generalize hcs:madeCells _ ((l.length+2)*21)=cs at hmk0
 have hsz:cs.size=(l.length+2)*21:=by rw[←hcs];exact size_madeCells _ _
 clear hcs
 obtain⟨w0,hw0⟩:∃w0,w.alloc (.cells cs 72)=w0:=⟨_,rfl⟩
 have hb0:Below w.heap.size w w0:=by rw[←hw0];exact (Below.refl _ _).alloc (Nat.le_refl _) _
 have ho0:w0.ownsRow w.heap.size 72 21 (.slice (some ⟨w.heap.size,0,none⟩) 0 (l.length+2)) 0 (([]:List St).flatMap St.cells):=by rw[←hw0];exact own_begin w cs 72 21 (l.length+2) (by unfold maxLen;omega) hsz
 have HO0:=Lib.hid ho0
 have HB0:=Lib.hid hb0
 have HGl:Hid (∀W,Below w.heap.size w W→Globs W):=Lib.hid fun W hb=>G.below hb
 have HIn:Hid (∀W,Below w.heap.size w W→StsIn W B d l):=Lib.hid fun W hb=>hI.keep (hb.mono hBw) (Nat.le_refl B)
 have HBs:Hid (∀W,Below w.heap.size w W→B≤W.heap.size):=Lib.hid fun W hb=>Nat.le_trans hBw hb.size
 have HW0:=Lib.hid hw0
 obtain⟨n,hN⟩:∃n,l.length=n:=⟨_,rfl⟩
 have HN:=Lib.hid hN
 rw[hN]at hmk0 HO0 hn ⊢
 have hnI:(n:Int)≤1000000:=by omega
 clear hi0 hz0 hz1 hz2 hsz hI hN G hBw hb0 ho0
 rw[hw0]at hmk0
 clear hw0
 go_enter Tryz.func66,Tryz.ntmps66
 go_wp2_with fail
 go_loopw [15] (fun ii wr=>∃(j:Nat) (l':List St),ii=.int .i64 j∧j≤n∧Hid (l'.length=j∧l'.map stripS=(l.take j).map stripS)∧Hid (wr.ownsRow w.heap.size 72 21 (.slice (some ⟨w.heap.size,0,none⟩) j (n+2)) j (l'.flatMap St.cells))∧Hid (∀y∈l',TnS wr (w.heap.size+1) wr.heap.size y)∧Hid (Below w.heap.size w wr)) (fun ii _=>n - (intOf ii).toNat)
 case atStart=>exact⟨0,[],rfl,Nat.zero_le _,Lib.hid ⟨rfl,rfl⟩,HO0,Lib.hid (fun y hy=>by cases hy),HB0⟩
 case round=>
  obtain⟨j,l',rfl,hj,hL,hO,hT,hB⟩:=hrel
  clear HO0
  have p2:(0:Int)≤(j:Int):=Int.natCast_nonneg _
  by_cases hlt:j<n
  ·have hltl:j<l.length:=by rw[HN.out];exact hlt
   obtain⟨x,hx⟩:∃x,l[j]? =some x:=⟨_,List.getElem?_eq_getElem hltl⟩
   have hmem:=List.mem_of_getElem? hx
   have hIr:=HIn.out _ hB.out
   obtain⟨rb,ro,hda,hrb,hrow⟩:=hIr.row (by intro h0;rw[h0]at hltl;simp at hltl)
   have hz:=stAt_list (hrow j x hx)
   have hTk:(l.take (j+1)).map stripS=(l.take j).map stripS++[stripS x]:=by
    rw[List.take_add_one,hx];simp
   have C:=Lib.hid (hel x hmem wr (hIr.sub x hmem) (HBs.out _ hB.out) (HGl.out _ hB.out))
   have p1:(j:Int)<(n:Int):=by omega
   have HTk:=Lib.hid hTk
   have HLt:=Lib.hid hlt
   clear hrow hIr hx hmem hTk hltl hlt hrb
   rw[hda]
   go_wp2_with (refine wpList_load_list rfl 72 _ rfl _ rfl (St.cells x) _ hz Tryz.underlying72 rfl (stSzL _) ?_)
   with_reducible refine C.out.mono ?_
   rintro e w2 ⟨y,rfl,hs,ht,hb⟩
   have HO2:=Lib.hid (own_belowI hO.out hb)
   have hlt:=HLt.out
   have htr:=there_own HO2.out (by omega)
   obtain⟨w3,hw3⟩:∃w3,w2.setCells w.heap.size (j*21) (St.cells y)=w3:=⟨_,rfl⟩
   have hO3:=own_store HO2.out (by omega) (St.cells y) rfl
   rw[hw3]at hO3
   have HO3:Hid (w3.ownsRow w.heap.size 72 21 (.slice (some ⟨w.heap.size,0,none⟩) (j+1) (n+2)) (j+1) ((l'++[y]).flatMap St.cells)):=Lib.hid (by rw[List.flatMap_append];simpa using hO3)
   have hbw2:Below w.heap.size w w2:=hB.out.trans (hb.mono hB.out.size)
   have hk3:∀b,w.heap.size+1≤b→w3.heap[b]? =w2.heap[b]? :=fun b hb2=>by
    rw[←hw3]
    by_cases hbl:b<w2.heap.size
    ·exact (setCells_kept (S:=fun k=>k=w.heap.size) rfl (St.cells y) (j*21) w2 (Kept.refl _ _)).block b hbl (by omega)
    ·exact q645l_6
   have s3:w3.heap.size=w2.heap.size:=by rw[←hw3,setCells_size]
   have hgw:w.heap.size+1≤wr.heap.size:=by
    exact q645l_4
   have HT3:Hid (∀z∈l'++[y],TnS w3 (w.heap.size+1) w3.heap.size z):=Lib.hid fun z hz=>by
    exact q645l_1
   have HB3:Hid (Below w.heap.size w w3):=Lib.hid (by rw[←hw3];exact setCells_below (Nat.le_refl _) _ _ _ hbw2)
   have HL3:Hid ((l'++[y]).length=j+1∧(l'++[y]).map stripS=(l.take (j+1)).map stripS):=Lib.hid ⟨by rw[List.length_append,hL.out.1];rfl,by rw[HTk.out,←hL.out.2,List.map_append];simp[hs]⟩
   have HW3:=Lib.hid hw3
   clear hs ht hb HO2 hO3 hbw2 hk3 s3 hgw hz hw3 C hL hO hT hB HTk
   go_wp2_with (refine wpList_store_mid rfl 72 _ _ rfl w.heap.size (j*21) (St.cells y).toArray rfl rfl htr (stSz _) (stOn _) ?_;rw[show w2.setCells w.heap.size (j*21) (St.cells y).toArray.toList=w3 from HW3.out])
   exact q645l_3
  ·obtain rfl:j=n:=by omega
   have hst:l'.map stripS=l.map stripS:=by
    exact q645l_7
   have HSt:=Lib.hid (And.intro hL.out.1 hst)
   clear hst hL hlt
   go_wp2_with fail
   refine wp_loop_rounds 3 ?_
   rw[rounds_succ]
   go_wp2_with fail
   refine (markS_any j (by omega) wr (HGl.out _ hB.out)).mono ?_
   rintro e w2 ⟨rfl,hb⟩
   have HO2:=Lib.hid (own_belowI hO.out hb)
   have hB2:Below w.heap.size w w2:=hB.out.trans (hb.mono hB.out.size)
   have HKp:Hid (Kept (fun k=>k=w.heap.size) wr w2):=Lib.hid (Kept.of_below hb)
   have htr:=there_own HO2.out (by omega)
   obtain⟨w3,hwd⟩:∃w3,w2.setCells w.heap.size (j*21) (markS j).cells=w3:=⟨_,rfl⟩
   have HO3:=Lib.hid (own_store HO2.out (by omega) (markS j).cells rfl)
   rw[hwd]at HO3
   have HB3:Hid (Below w.heap.size w w3):=Lib.hid (by rw[←hwd];exact setCells_below (Nat.le_refl _) _ _ _ hB2)
   have HK3:Hid (Kept (fun k=>k=w.heap.size) wr w3):=Lib.hid (by rw[←hwd];exact setCells_kept (S:=fun k=>k=w.heap.size) rfl _ _ _ HKp.out)
   clear hb hB2 HO2 HKp
   go_wp2_with (refine wpList_store_mid rfl 72 _ _ rfl w.heap.size (j*21) (markS j).cells.toArray rfl rfl htr (stSz _) (stOn _) ?_;rw[show w2.setCells w.heap.size (j*21) (markS j).cells.toArray.toList=w3 from hwd])
   clear htr hwd
   go_wp2_with fail
   rw[rounds_succ]
   go_wp2_with fail
   refine (markS_any (j+1) (by omega) w3 (HGl.out _ HB3.out)).mono ?_
   rintro e w4 ⟨rfl,hb⟩
   have HO2:=Lib.hid (own_belowI HO3.out hb)
   have hB2:Below w.heap.size w w4:=HB3.out.trans (hb.mono HB3.out.size)
   have HKp:Hid (Kept (fun k=>k=w.heap.size) w3 w4):=Lib.hid (Kept.of_below hb)
   have htr:=there_own HO2.out (by omega)
   obtain⟨w5,hwd⟩:∃w5,w4.setCells w.heap.size ((j+1)*21) (markS (j+1)).cells=w5:=⟨_,rfl⟩
   have HO5:=Lib.hid (own_store HO2.out (by omega) (markS (j+1)).cells rfl)
   rw[hwd]at HO5
   have HB5:Hid (Below w.heap.size w w5):=Lib.hid (by rw[←hwd];exact setCells_below (Nat.le_refl _) _ _ _ hB2)
   have HK5:Hid (Kept (fun k=>k=w.heap.size) w3 w5):=Lib.hid (by rw[←hwd];exact setCells_kept (S:=fun k=>k=w.heap.size) rfl _ _ _ HKp.out)
   clear hb hB2 HO2 HKp
   go_wp2_with (refine wpList_store_mid rfl 72 _ _ rfl w.heap.size ((j+1)*21) (markS (j+1)).cells.toArray rfl rfl htr (stSz _) (stOn _) ?_;rw[show w4.setCells w.heap.size ((j+1)*21) (markS (j+1)).cells.toArray.toList=w5 from hwd])
   clear htr hwd
   rw[rounds_succ]
   go_wp2_with fail
   go_ret
   have hlt:w.heap.size<w5.heap.size:=by
    exact q645l_5
   have hK:=HK3.out.trans HK5.out
   refine⟨⟨some ⟨w.heap.size,0,none⟩,j+2⟩,l',by rw[HSt.out.1];rfl,HSt.out.1,(by rw[stripSs_map,stripSs_map];exact HSt.out.2),⟨by rw[HSt.out.1];omega,tnRow_of markS stCells_len (fun _ _ _ _=>stAt_of) HSt.out.1 (Nat.le_refl _) hlt HO5.out,fun y hy=>(hT.out y hy).keep (fun b h1 h2=>hK.block b h2 (by omega)) (by omega) hK.size⟩,HB5.out⟩
theorem twinS_any (B:Nat):∀(sz:Nat) (s:St),stAll s≤sz→stAll s≤262144→TwinS B s:=by
 intro sz
 induction sz using Nat.strongRecOn with
 |ind sz ih=>
  intro s hx hs
  obtain⟨k,nm,t,x,y,bd,body,ed,els⟩:=s
  rw[stAll]at hx hs
  have px:=exCount_pos x
  have py:=exCount_pos y
  have lb:=stAlls_len body
  have le:=stAlls_len els
  refine twinS_of B k nm t x y bd body ed els (twinX_any B _ x (Nat.le_refl _) (by omega)) (twinX_any B _ y (Nat.le_refl _) (by omega)) (twinSs_of B body (by omega) fun z hz=>?_) (twinSs_of B els (by omega) fun z hz=>?_)
  ·have hm:=stAlls_mem hz
   exact ih (stAll z) (by omega) z (Nat.le_refl _) (by omega)
  ·have hm:=stAlls_mem hz
   exact ih (stAll z) (by omega) z (Nat.le_refl _) (by omega)
theorem twinSs_any (B:Nat) (l:List St) (hl:stAlls l≤262144):TwinSs B l:=
 twinSs_of B l (by have:=stAlls_len l;omega) fun s hs=>twinS_any B _ s (Nat.le_refl _) (by have:=stAlls_mem hs;omega)
end Go.Proofs.YtkklogikakcanaaGreatDoor
namespace Go.Proofs.YtkklogikakcanaaGreatDoor
open Go Go.RowKit Go.Sort
theorem infoRe:(Tryz.prog.info? 58).map (fun i=>(i.zero,i.size,i.bytes))=some (some (.agg #[.string ⟨#[]⟩,.slice none 0 0]),2,40):=by kernel_rfl
theorem infoFu:(Tryz.prog.info? 53).map (fun i=>(i.zero,i.size,i.bytes))=some (some (.agg #[.string ⟨#[]⟩,.slice none 0 0,.int .u8 0,.string ⟨#[]⟩,.int .i64 0,.slice none 0 0]),6,96):=by kernel_rfl
theorem infoRow:(Tryz.prog.info? 51).map (fun i=>(i.zero,i.size,i.bytes))=some (some (.slice none 0 0),1,24):=by kernel_rfl
structure TnR (w:World) (g B:Nat) (r:Re):Prop where
 nm:lenOk r.nm.length
 fs:TnFs w g B r.d r.fs
structure TnU (w:World) (g B:Nat) (f:Fu):Prop where
 nm:lenOk f.nm.length
 ps:TnFs w g B f.pd f.ps
 t:f.t.Ok
 body:TnSs w g B f.bd f.body
abbrev TnT (w:World) (g B:Nat) (t:Th):Prop:=TnSs w g B t.d t.l
theorem TnR.keep {w w':World} {g g' B B':Nat} {r:Re} (h:TnR w g B r) (hk:∀b,g≤b→b<B→w'.heap[b]? =w.heap[b]?) (hg:g'≤g) (hB:B≤B'):TnR w' g' B' r:=⟨h.nm,h.fs.keep hk hg hB⟩
theorem TnU.keep {w w':World} {g g' B B':Nat} {r:Fu} (h:TnU w g B r) (hk:∀b,g≤b→b<B→w'.heap[b]? =w.heap[b]?) (hg:g'≤g) (hB:B≤B'):TnU w' g' B' r:=⟨h.nm,h.ps.keep hk hg hB,h.t,h.body.keep hk hg hB⟩
structure ResIn (w:World) (B:Nat) (d:Hd) (l:List Re):Prop where
 len:lenOk l.length
 row:RowIn ReAt 2 w B d l
 sub:∀r,r∈l→ReIn w B r
structure FusIn (w:World) (B:Nat) (d:Hd) (l:List Fu):Prop where
 len:lenOk l.length
 row:RowIn FuAt 6 w B d l
 sub:∀r,r∈l→FuIn w B r
structure ThsIn (w:World) (B:Nat) (d:Hd) (l:List Th):Prop where
 len:lenOk l.length
 row:RowIn ThAt 1 w B d l
 sub:∀r,r∈l→StsIn w B r.d r.l
theorem ResIn.keep {w w':World} {B B':Nat} {d:Hd} {l:List Re} (h:ResIn w B d l) (hb:Below B w w') (hB:B≤B'):ResIn w' B' d l:=⟨h.len,h.row.keep (fun _ _ _ h hk=>h.keep hk) hb hB,fun s hs=>(h.sub s hs).keep hb hB⟩
theorem FusIn.keep {w w':World} {B B':Nat} {d:Hd} {l:List Fu} (h:FusIn w B d l) (hb:Below B w w') (hB:B≤B'):FusIn w' B' d l:=⟨h.len,h.row.keep (fun _ _ _ h hk=>h.keep hk) hb hB,fun s hs=>(h.sub s hs).keep hb hB⟩
theorem ThsIn.keep {w w':World} {B B':Nat} {d:Hd} {l:List Th} (h:ThsIn w B d l) (hb:Below B w w') (hB:B≤B'):ThsIn w' B' d l:=⟨h.len,h.row.keep (fun _ _ _ h hk=>h.keep hk) hb hB,fun s hs=>(h.sub s hs).keep hb hB⟩
structure TnRs (w:World) (g B:Nat) (d:Hd) (l:List Re):Prop where
 len:l.length≤1000000
 row:TnRow ReAt 2 markR w g B d l
 sub:∀y,y∈l→TnR w g B y
structure TnUs (w:World) (g B:Nat) (d:Hd) (l:List Fu):Prop where
 len:l.length≤1000000
 row:TnRow FuAt 6 markU w g B d l
 sub:∀y,y∈l→TnU w g B y
 fz:∃b cs,d.a=some ⟨b,0,none⟩∧g≤b∧b<B∧w.heap[b]? =some (.cells cs 53 (0,0))∧cs.size=(l.length+2)*6
theorem TnRs.keep {w w':World} {g g' B B':Nat} {d:Hd} {l:List Re} (h:TnRs w g B d l) (hk:∀b,g≤b→b<B→w'.heap[b]? =w.heap[b]?) (hg:g'≤g) (hB:B≤B'):TnRs w' g' B' d l:=
 ⟨h.len,h.row.keep (fun _ _ _ h hk=>h.keep hk) hk hg hB,fun y hy=>(h.sub y hy).keep hk hg hB⟩
theorem TnUs.keep {w w':World} {g g' B B':Nat} {d:Hd} {l:List Fu} (h:TnUs w g B d l) (hk:∀b,g≤b→b<B→w'.heap[b]? =w.heap[b]?) (hg:g'≤g) (hB:B≤B'):TnUs w' g' B' d l:=
 ⟨h.len,h.row.keep (fun _ _ _ h hk=>h.keep hk) hk hg hB,fun y hy=>(h.sub y hy).keep hk hg hB,by
  obtain⟨b,cs,k1,k2,k3,k4,k5⟩:=h.fz
  exact⟨b,cs,k1,by omega,by omega,(hk b k2 k3).trans k4,k5⟩⟩
theorem reCells_len (r:Re):r.cells.length=2:=rfl
theorem fuCells_len (r:Fu):r.cells.length=6:=rfl
theorem reAt_of {w:World} {b o:Nat} {y:Re} (h:∀j,j<2→w.cell? ⟨b,o+j,none⟩=y.cells[j]?):ReAt w b o y:=⟨h 0 (by decide),h 1 (by decide)⟩
theorem fuAt_of {w:World} {b o:Nat} {y:Fu} (h:∀j,j<6→w.cell? ⟨b,o+j,none⟩=y.cells[j]?):FuAt w b o y:=⟨h 0 (by decide),h 1 (by decide),h 2 (by decide),h 3 (by decide),h 4 (by decide),h 5 (by decide)⟩
theorem reAt_list {w:World} {b o:Nat} {x:Re} (h:ReAt w b o x):∀j v,x.cells[j]? =some v→w.cell? ((⟨b,o,none⟩:Addr).add j)=some v:=fun j v hv=>by
 rw[addr_add]
 match j,hv with
 |0,hv=>cases hv;exact h.c0
 |1,hv=>cases hv;exact h.c1
 |n+2,hv=>simp[Re.cells]at hv
theorem fuAt_list {w:World} {b o:Nat} {x:Fu} (h:FuAt w b o x):∀j v,x.cells[j]? =some v→w.cell? ((⟨b,o,none⟩:Addr).add j)=some v:=fun j v hv=>by
 rw[addr_add]
 match j,hv with
 |0,hv=>cases hv;exact h.c0
 |1,hv=>cases hv;exact h.c1
 |2,hv=>cases hv;exact h.c2
 |3,hv=>cases hv;exact h.c3
 |4,hv=>cases hv;exact h.c4
 |5,hv=>cases hv;exact h.c5
 |n+6,hv=>simp[Fu.cells]at hv
abbrev TwinR (B:Nat) (x:Re):Prop:=∀w,ReIn w B x→B≤w.heap.size→Globs w→
 Calls Tryz.prog 68 #[.agg x.cells.toArray] w fun e w'=>∃y:Re,e=.returned (.agg y.cells.toArray)∧stripR y=stripR x∧TnR w' w.heap.size w'.heap.size y∧Below w.heap.size w w'
abbrev TwinU (B:Nat) (x:Fu):Prop:=∀w,FuIn w B x→B≤w.heap.size→Globs w→
 Calls Tryz.prog 31 #[.agg x.cells.toArray] w fun e w'=>∃y:Fu,e=.returned (.agg y.cells.toArray)∧stripF y=stripF x∧TnU w' w.heap.size w'.heap.size y∧Below w.heap.size w w'
set_option maxHeartbeats 4000000 in
set_option maxRecDepth 100000 in
theorem twinR_any (B:Nat) (x:Re) (hn:x.fs.length≤262144):TwinR B x:=by
 intro w hI hB G
 obtain⟨nm,d,fs⟩:=x
 obtain⟨X,hX⟩:∃X,w.heap.size=X:=⟨_,rfl⟩
 obtain⟨o,ho⟩:∃o,(.cells (Re.mk nm d fs).cells.toArray 58 (0,0):Obj)=o:=⟨_,rfl⟩
 obtain⟨o2,ho2⟩:∃o2,(.cells #[.string ⟨#[]⟩,.slice none 0 0] 58 (0,0):Obj)=o2:=⟨_,rfl⟩
 obtain⟨w2,hw2⟩:∃w2,(w.alloc o).alloc o2=w2:=⟨_,rfl⟩
 have hb1:Below w.heap.size w (w.alloc o):=(Below.refl _ _).alloc (Nat.le_refl _) _
 have hb2:Below w.heap.size w w2:=by rw[←hw2];exact hb1.alloc hb1.size _
 have s2:w2.heap.size=X+1+1:=by rw[←hw2,World.size_alloc,World.size_alloc,hX]
 have hs1:(w.alloc o).heap.size=X+1:=by rw[World.size_alloc,hX]
 have x1:(w.alloc o).heap[X]? =some o:=by rw[←hX];exact heap_alloc_new w _
 have x2:w2.heap[X]? =some o:=by
  rw[←hw2]
  exact (((Below.refl (w.alloc o).heap.size (w.alloc o)).alloc (Nat.le_refl _) o2).block X (by omega)).trans x1
 have y2:w2.heap[X+1]? =some o2:=by rw[←hw2,←hs1];exact heap_alloc_new _ _
 have C:=Lib.hid (twinFls_any d fs B w2 (hI.fs.keep (hb2.mono hB) (Nat.le_refl B)) (Nat.le_trans hB hb2.size) hn (G.below hb2))
 have HNm:=Lib.hid hI.nm
 have c6:w2.cell? ⟨X,1,none⟩=some (.slice d.a fs.length d.c):=by rw[←ho]at x2;exact cell_at x2 1
 have HX:=Lib.hid (And.intro x2 y2)
 have HN:Hid (w.heap.size=X∧(w.alloc o).alloc o2=w2∧w2.heap.size=X+1+1):=Lib.hid ⟨hX,hw2,s2⟩
 have HB2:=Lib.hid hb2
 have Ho:=Lib.hid (And.intro ho ho2)
 rw[←hw2]at c6
 clear hb1 hb2 s2 hs1 x1 x2 y2 hI G hB hw2 hn
 go_enter Tryz.func68,Tryz.ntmps68
 go_wp2_with fail
 simp only[HN.out.2.1]
 clear c6
 with_reducible refine C.out.mono ?_
 rintro e w3 ⟨d',rfl,hT,hb3⟩
 obtain⟨y,hy⟩:∃y:Re,y=⟨nm,d',fs⟩:=⟨_,rfl⟩
 have x3:w3.heap[X]? =some o:=(hb3.block X (by have:=HN.out.2.2;omega)).trans HX.out.1
 have y3:w3.heap[X+1]? =some o2:=(hb3.block (X+1) (by have:=HN.out.2.2;omega)).trans HX.out.2
 rw[←Ho.out.1]at x3
 have c6:=cell_at x3 1
 have f6:=frz_at x3 1
 simp only[sl7,Re.cells,sl8,sl9]at c6
 obtain⟨w4,hw4⟩:∃w4,w3.setCell ⟨X,1,none⟩ (.slice d'.a fs.length d'.c)=w4:=⟨_,rfl⟩
 have x4:w4.heap[X]? =some (.cells y.cells.toArray 58 (0,0)):=by
  have h:=row_set x3 1 (.slice d'.a fs.length d'.c)
  rw[hw4]at h
  rw[h,hy]
  rfl
 have y4:w4.heap[X+1]? =some o2:=by rw[←hw4];exact (Below.heap_setCell _ _ _ _ (by show X+1≠X;omega)).trans y3
 have hk4:KX X w3 (w4.setCells (X+1) 0 y.cells):=setCells_kept (S:=fun k=>k=X∨k=X+1) (g:=X+1) (Or.inr rfl) y.cells 0 w4 (by rw[←hw4];exact Kept.setCell (S:=fun k=>k=X∨k=X+1) (Kept.refl _ w3) (p:=⟨X,1,none⟩) (Or.inl (Or.inl rfl)) _)
 rw[←Ho.out.2]at y4
 have htr:=there_row (vs:=[.string ⟨#[]⟩,.slice none 0 0]) y4 0 2 (Nat.le_refl 2)
 have hrg:(w4.setCells (X+1) 0 y.cells).rangeAt (X+1) 0 y.cells:=World.rangeAt_setCells_same _ _ _ _ htr
 have hres:(loadVar 58 ⟨X+1,0,none⟩).run Tryz.prog (w4.setCells (X+1) 0 y.cells)=.ok (.agg y.cells.toArray) (w4.setCells (X+1) 0 y.cells):=run_loadVar_mid _ (X+1) 0 58 y.cells _ hrg Tryz.underlying58 rfl (reSzL _)
 have hz4:=row_cells x4
 have HZ:Hid (stripR y=stripR ⟨nm,d,fs⟩∧TnR (w4.setCells (X+1) 0 y.cells) w.heap.size (w4.setCells (X+1) 0 y.cells).heap.size y∧Below w.heap.size w (w4.setCells (X+1) 0 y.cells)):=Lib.hid (by
  have hg:w2.heap.size=X+1+1:=HN.out.2.2
  have hX:=HN.out.1
  have hT2:=hT.keep (fun b h1 h2=>hk4.block b h2 (fun hh=>by rcases hh with hh|hh<;>omega)) (show w.heap.size≤w2.heap.size by omega) hk4.size
  have hE:TnR (w4.setCells (X+1) 0 y.cells) w.heap.size (w4.setCells (X+1) 0 y.cells).heap.size ⟨nm,d',fs⟩:=⟨HNm.out,hT2⟩
  rw[←hy]at hE
  refine⟨by rw[hy];rfl,hE,?_⟩
  have h1:Below w.heap.size w w3:=HB2.out.trans (hb3.mono HB2.out.size)
  exact h1.trans (hk4.below h1.size (fun k h=>by rcases h with h|h<;>omega)))
 have HW4:=Lib.hid hw4
 clear hT hb3 x3 y3 x4 y4 hk4 hrg hw4 hy
 go_wp2_with (first|(refine wpList_load_list rfl 58 _ rfl _ rfl y.cells _ hz4 Tryz.underlying58 rfl (reSzL _) ?_)|(refine wpList_store_mid rfl 58 _ _ rfl (X+1) 0 y.cells.toArray rfl rfl htr (reSz _) (reOn _) ?_)|rw[HW4.out])
 refine bodyPost_ret (v:=.agg y.cells.toArray) (by simp[results,Tryz.results68,Act.eval,Sem.run_bind,Act.put,asAddr,hres]) rfl ?_
 exact⟨y,rfl,HZ.out⟩
set_option maxHeartbeats 16000000 in
set_option maxRecDepth 100000 in
theorem twinRs_any (B:Nat) (d:Hd) (l:List Re) (w:World) (hI:ResIn w B d l) (hBw:B≤w.heap.size) (G:Globs w) (hn:l.length≤262144) (hsm:∀r∈l,r.fs.length≤262144):
  Calls Tryz.prog 34 #[.slice d.a l.length d.c] w fun e w'=>∃(d':Hd) (l':List Re),e=.returned (.slice d'.a l'.length d'.c)∧l'.length=l.length∧l'.map stripR=l.map stripR∧TnRs w' w.heap.size w'.heap.size d' l'∧Below w.heap.size w w':=by
 have hel:∀x∈l,TwinR B x:=fun x hx=>twinR_any B x (hsm x hx)
 clear hsm
 obtain⟨i0,hi0,hz0,hz1,hz2⟩:=info_parts infoRe
 have hmk0:=run_make (P:=Tryz.prog) w 22 58 i0 _ Tryz.underlying22 hi0 hz0 .i64 .i64 (l.length:Int) ((l.length:Int)+2) (by omega) (by omega) (by rw[hz2];omega) (by omega)
 rw[show ((l.length:Int)+2).toNat=l.length+2 by omega,Int.toNat_natCast,hz1]at hmk0
 generalize hcs:madeCells _ ((l.length+2)*2)=cs at hmk0
 have hsz:cs.size=(l.length+2)*2:=by rw[←hcs];exact size_madeCells _ _
 clear hcs
 obtain⟨w0,hw0⟩:∃w0,w.alloc (.cells cs 58)=w0:=⟨_,rfl⟩
 have hb0:Below w.heap.size w w0:=by rw[←hw0];exact (Below.refl _ _).alloc (Nat.le_refl _) _
 have ho0:w0.ownsRow w.heap.size 58 2 (.slice (some ⟨w.heap.size,0,none⟩) 0 (l.length+2)) 0 (([]:List Re).flatMap Re.cells):=by rw[←hw0];exact own_begin w cs 58 2 (l.length+2) (by unfold maxLen;omega) hsz
 have HO0:=Lib.hid ho0
 have HB0:=Lib.hid hb0
 have HGl:Hid (∀W,Below w.heap.size w W→Globs W):=Lib.hid fun W hb=>G.below hb
 have HIn:Hid (∀W,Below w.heap.size w W→ResIn W B d l):=Lib.hid fun W hb=>hI.keep (hb.mono hBw) (Nat.le_refl B)
 have HBs:Hid (∀W,Below w.heap.size w W→B≤W.heap.size):=Lib.hid fun W hb=>Nat.le_trans hBw hb.size
 have HW0:=Lib.hid hw0
 obtain⟨n,hN⟩:∃n,l.length=n:=⟨_,rfl⟩
 have HN:=Lib.hid hN
 rw[hN]at hmk0 HO0 hn ⊢
 have hnI:(n:Int)≤1000000:=by omega
 clear hi0 hz0 hz1 hz2 hsz hI hN G hBw hb0 ho0
 rw[hw0]at hmk0
 clear hw0
 go_enter Tryz.func34,Tryz.ntmps34
 go_wp2_with fail
 go_loopw [15] (fun ii wr=>∃(j:Nat) (l':List Re),ii=.int .i64 j∧j≤n∧Hid (l'.length=j∧l'.map stripR=(l.take j).map stripR)∧Hid (wr.ownsRow w.heap.size 58 2 (.slice (some ⟨w.heap.size,0,none⟩) j (n+2)) j (l'.flatMap Re.cells))∧Hid (∀y∈l',TnR wr (w.heap.size+1) wr.heap.size y)∧Hid (Below w.heap.size w wr)) (fun ii _=>n - (intOf ii).toNat)
 case atStart=>exact⟨0,[],rfl,Nat.zero_le _,Lib.hid ⟨rfl,rfl⟩,HO0,Lib.hid (fun y hy=>by cases hy),HB0⟩
 case round=>
  obtain⟨j,l',rfl,hj,hL,hO,hT,hB⟩:=hrel
  clear HO0
  have p2:(0:Int)≤(j:Int):=Int.natCast_nonneg _
  by_cases hlt:j<n
  ·have hltl:j<l.length:=by rw[HN.out];exact hlt
   obtain⟨x,hx⟩:∃x,l[j]? =some x:=⟨_,List.getElem?_eq_getElem hltl⟩
   have hmem:=List.mem_of_getElem? hx
   have hIr:=HIn.out _ hB.out
   obtain⟨rb,ro,hda,hrb,hrow⟩:=hIr.row (by intro h0;rw[h0]at hltl;simp at hltl)
   have hz:=reAt_list (hrow j x hx)
   have hTk:(l.take (j+1)).map stripR=(l.take j).map stripR++[stripR x]:=by
    rw[List.take_add_one,hx];simp
   have C:=Lib.hid (hel x hmem wr (hIr.sub x hmem) (HBs.out _ hB.out) (HGl.out _ hB.out))
   have p1:(j:Int)<(n:Int):=by omega
   have HTk:=Lib.hid hTk
   have HLt:=Lib.hid hlt
   clear hrow hIr hx hmem hTk hltl hlt hrb
   rw[hda]
   go_wp2_with (refine wpList_load_list rfl 58 _ rfl _ rfl (Re.cells x) _ hz Tryz.underlying58 rfl (reSzL _) ?_)
   with_reducible refine C.out.mono ?_
   rintro e w2 ⟨y,rfl,hs,ht,hb⟩
   have HO2:=Lib.hid (own_belowI hO.out hb)
   have hlt:=HLt.out
   have htr:=there_own HO2.out (by omega)
   obtain⟨w3,hw3⟩:∃w3,w2.setCells w.heap.size (j*2) (Re.cells y)=w3:=⟨_,rfl⟩
   have hO3:=own_store HO2.out (by omega) (Re.cells y) rfl
   rw[hw3]at hO3
   have HO3:Hid (w3.ownsRow w.heap.size 58 2 (.slice (some ⟨w.heap.size,0,none⟩) (j+1) (n+2)) (j+1) ((l'++[y]).flatMap Re.cells)):=Lib.hid (by rw[List.flatMap_append];simpa using hO3)
   have hbw2:Below w.heap.size w w2:=hB.out.trans (hb.mono hB.out.size)
   have hk3:∀b,w.heap.size+1≤b→w3.heap[b]? =w2.heap[b]? :=fun b hb2=>by
    rw[←hw3]
    by_cases hbl:b<w2.heap.size
    ·exact (setCells_kept (S:=fun k=>k=w.heap.size) rfl (Re.cells y) (j*2) w2 (Kept.refl _ _)).block b hbl (by omega)
    ·exact q645l_6
   have s3:w3.heap.size=w2.heap.size:=by rw[←hw3,setCells_size]
   have hgw:w.heap.size+1≤wr.heap.size:=by
    exact q645l_4
   have HT3:Hid (∀z∈l'++[y],TnR w3 (w.heap.size+1) w3.heap.size z):=Lib.hid fun z hz=>by
    exact q645l_1
   have HB3:Hid (Below w.heap.size w w3):=Lib.hid (by rw[←hw3];exact setCells_below (Nat.le_refl _) _ _ _ hbw2)
   have HL3:Hid ((l'++[y]).length=j+1∧(l'++[y]).map stripR=(l.take (j+1)).map stripR):=Lib.hid ⟨by rw[List.length_append,hL.out.1];rfl,by rw[HTk.out,←hL.out.2,List.map_append];simp[hs]⟩
   have HW3:=Lib.hid hw3
   clear hs ht hb HO2 hO3 hbw2 hk3 s3 hgw hz hw3 C hL hO hT hB HTk
   go_wp2_with (refine wpList_store_mid rfl 58 _ _ rfl w.heap.size (j*2) (Re.cells y).toArray rfl rfl htr (reSz _) (reOn _) ?_;rw[show w2.setCells w.heap.size (j*2) (Re.cells y).toArray.toList=w3 from HW3.out])
   exact q645l_3
  ·obtain rfl:j=n:=by omega
   have hst:l'.map stripR=l.map stripR:=by
    exact q645l_7
   have HSt:=Lib.hid (And.intro hL.out.1 hst)
   clear hst hL hlt
   go_wp2_with fail
   refine wp_loop_rounds 3 ?_
   rw[rounds_succ]
   go_wp2_with fail
   refine (markR_any j (by omega) wr (HGl.out _ hB.out)).mono ?_
   rintro e w2 ⟨rfl,hb⟩
   have HO2:=Lib.hid (own_belowI hO.out hb)
   have hB2:Below w.heap.size w w2:=hB.out.trans (hb.mono hB.out.size)
   have HKp:Hid (Kept (fun k=>k=w.heap.size) wr w2):=Lib.hid (Kept.of_below hb)
   have htr:=there_own HO2.out (by omega)
   obtain⟨w3,hwd⟩:∃w3,w2.setCells w.heap.size (j*2) (markR j).cells=w3:=⟨_,rfl⟩
   have HO3:=Lib.hid (own_store HO2.out (by omega) (markR j).cells rfl)
   rw[hwd]at HO3
   have HB3:Hid (Below w.heap.size w w3):=Lib.hid (by rw[←hwd];exact setCells_below (Nat.le_refl _) _ _ _ hB2)
   have HK3:Hid (Kept (fun k=>k=w.heap.size) wr w3):=Lib.hid (by rw[←hwd];exact setCells_kept (S:=fun k=>k=w.heap.size) rfl _ _ _ HKp.out)
   clear hb hB2 HO2 HKp
   go_wp2_with (refine wpList_store_mid rfl 58 _ _ rfl w.heap.size (j*2) (markR j).cells.toArray rfl rfl htr (reSz _) (reOn _) ?_;rw[show w2.setCells w.heap.size (j*2) (markR j).cells.toArray.toList=w3 from hwd])
   clear htr hwd
   go_wp2_with fail
   rw[rounds_succ]
   go_wp2_with fail
   refine (markR_any (j+1) (by omega) w3 (HGl.out _ HB3.out)).mono ?_
   rintro e w4 ⟨rfl,hb⟩
   have HO2:=Lib.hid (own_belowI HO3.out hb)
   have hB2:Below w.heap.size w w4:=HB3.out.trans (hb.mono HB3.out.size)
   have HKp:Hid (Kept (fun k=>k=w.heap.size) w3 w4):=Lib.hid (Kept.of_below hb)
   have htr:=there_own HO2.out (by omega)
   obtain⟨w5,hwd⟩:∃w5,w4.setCells w.heap.size ((j+1)*2) (markR (j+1)).cells=w5:=⟨_,rfl⟩
   have HO5:=Lib.hid (own_store HO2.out (by omega) (markR (j+1)).cells rfl)
   rw[hwd]at HO5
   have HB5:Hid (Below w.heap.size w w5):=Lib.hid (by rw[←hwd];exact setCells_below (Nat.le_refl _) _ _ _ hB2)
   have HK5:Hid (Kept (fun k=>k=w.heap.size) w3 w5):=Lib.hid (by rw[←hwd];exact setCells_kept (S:=fun k=>k=w.heap.size) rfl _ _ _ HKp.out)
   clear hb hB2 HO2 HKp
   go_wp2_with (refine wpList_store_mid rfl 58 _ _ rfl w.heap.size ((j+1)*2) (markR (j+1)).cells.toArray rfl rfl htr (reSz _) (reOn _) ?_;rw[show w4.setCells w.heap.size ((j+1)*2) (markR (j+1)).cells.toArray.toList=w5 from hwd])
   clear htr hwd
   rw[rounds_succ]
   go_wp2_with fail
   go_ret
   have hlt:w.heap.size<w5.heap.size:=by
    exact q645l_5
   have hK:=HK3.out.trans HK5.out
   refine⟨⟨some ⟨w.heap.size,0,none⟩,j+2⟩,l',by rw[HSt.out.1];rfl,HSt.out.1,HSt.out.2,⟨by rw[HSt.out.1];omega,tnRow_of markR reCells_len (fun _ _ _ _=>reAt_of) HSt.out.1 (Nat.le_refl _) hlt HO5.out,fun y hy=>(hT.out y hy).keep (fun b h1 h2=>hK.block b h2 (by omega)) (by omega) hK.size⟩,HB5.out⟩
end Go.Proofs.YtkklogikakcanaaGreatDoor
namespace Go.Proofs.YtkklogikakcanaaGreatDoor
open Go Go.RowKit Go.Sort
set_option maxHeartbeats 4000000 in
set_option maxRecDepth 100000 in
theorem twinU_any (B:Nat) (x:Fu) (hn:x.ps.length≤262144) (hsm:stAlls x.body≤262144):TwinU B x:=by
 intro w hI hB G
 obtain⟨nm,pd,ps,t,bd,body⟩:=x
 have hz0:∀v:Value,v.oneCell'=true→True:=fun _ _=>trivial
 obtain⟨X,hX⟩:∃X,w.heap.size=X:=⟨_,rfl⟩
 obtain⟨o,ho⟩:∃o,(.cells (Fu.mk nm pd ps t bd body).cells.toArray 53 (0,0):Obj)=o:=⟨_,rfl⟩
 obtain⟨o2,ho2⟩:∃o2,(.cells #[.string ⟨#[]⟩,.slice none 0 0,.int .u8 0,.string ⟨#[]⟩,.int .i64 0,.slice none 0 0] 53 (0,0):Obj)=o2:=⟨_,rfl⟩
 obtain⟨w2,hw2⟩:∃w2,(w.alloc o).alloc o2=w2:=⟨_,rfl⟩
 have hb1:Below w.heap.size w (w.alloc o):=(Below.refl _ _).alloc (Nat.le_refl _) _
 have hb2:Below w.heap.size w w2:=by rw[←hw2];exact hb1.alloc hb1.size _
 have s2:w2.heap.size=X+1+1:=by rw[←hw2,World.size_alloc,World.size_alloc,hX]
 have hs1:(w.alloc o).heap.size=X+1:=by rw[World.size_alloc,hX]
 have x1:(w.alloc o).heap[X]? =some o:=by rw[←hX];exact heap_alloc_new w _
 have x2:w2.heap[X]? =some o:=by
  rw[←hw2]
  exact (((Below.refl (w.alloc o).heap.size (w.alloc o)).alloc (Nat.le_refl _) o2).block X (by omega)).trans x1
 have y2:w2.heap[X+1]? =some o2:=by rw[←hw2,←hs1];exact heap_alloc_new _ _
 have C:=Lib.hid (twinFls_any pd ps B w2 (hI.ps.keep (hb2.mono hB) (Nat.le_refl B)) (Nat.le_trans hB hb2.size) hn (G.below hb2))
 have CB:Hid (∀W,KX X w2 W→Calls Tryz.prog 66 #[.slice bd.a body.length bd.c] W fun e w'=>∃(d':Hd) (l':List St),e=.returned (.slice d'.a l'.length d'.c)∧l'.length=body.length∧stripSs l'=stripSs body∧TnSs w' W.heap.size w'.heap.size d' l'∧Below W.heap.size W w'):=Lib.hid fun W hk=>by
  have hbw:Below w.heap.size w W:=hb2.trans (hk.below hb2.size (fun k h=>by rcases h with h|h<;>omega))
  exact twinSs_any B body hsm bd W (hI.body.keep (hbw.mono hB) (Nat.le_refl B)) (Nat.le_trans hB hbw.size) (G.below hbw)
 have HNm:=Lib.hid (And.intro hI.nm hI.t)
 have c6:w2.cell? ⟨X,1,none⟩=some (.slice pd.a ps.length pd.c):=by rw[←ho]at x2;exact cell_at x2 1
 have HX:=Lib.hid (And.intro x2 y2)
 have HN:Hid (w.heap.size=X∧(w.alloc o).alloc o2=w2∧w2.heap.size=X+1+1):=Lib.hid ⟨hX,hw2,s2⟩
 have HB2:=Lib.hid hb2
 have Ho:=Lib.hid (And.intro ho ho2)
 rw[←hw2]at c6
 clear hb1 hb2 s2 hs1 x1 x2 y2 hI G hB hw2 hn hsm hz0
 go_enter Tryz.func31,Tryz.ntmps31
 go_wp2_with fail
 simp only[HN.out.2.1]
 clear c6
 with_reducible refine C.out.mono ?_
 rintro e w3 ⟨pd',rfl,hT,hb3⟩
 have x3:w3.heap[X]? =some o:=(hb3.block X (by have:=HN.out.2.2;omega)).trans HX.out.1
 have y3:w3.heap[X+1]? =some o2:=(hb3.block (X+1) (by have:=HN.out.2.2;omega)).trans HX.out.2
 rw[←Ho.out.1]at x3
 have c3:=cell_at x3 1
 have f3:=frz_at x3 1
 simp only[sl7,Fu.cells,sl8,sl9]at c3
 obtain⟨w4,hw4⟩:∃w4,w3.setCell ⟨X,1,none⟩ (.slice pd'.a ps.length pd'.c)=w4:=⟨_,rfl⟩
 have x4:w4.heap[X]? =some (.cells (Fu.mk nm pd' ps t bd body).cells.toArray 53 (0,0)):=by
  have h:=row_set x3 1 (.slice pd'.a ps.length pd'.c)
  rw[hw4]at h
  rw[h]
  rfl
 have y4:w4.heap[X+1]? =some o2:=by rw[←hw4];exact (Below.heap_setCell _ _ _ _ (by show X+1≠X;omega)).trans y3
 have k34:KX X w3 w4:=by rw[←hw4];exact Kept.setCell (S:=fun k=>k=X∨k=X+1) (Kept.refl _ w3) (p:=⟨X,1,none⟩) (Or.inl (Or.inl rfl)) _
 have c4:w4.cell? ⟨X,5,none⟩=some (.slice bd.a body.length bd.c):=cell_at x4 5
 rw[←hw4]at c4
 have HT:=Lib.hid hT
 have HK34:=Lib.hid k34
 have HK24:=Lib.hid ((Kept.of_below hb3:KX X w2 w3).trans k34)
 have HX4:=Lib.hid (And.intro x4 y4)
 have HW4:=Lib.hid hw4
 have HB3:=Lib.hid (HB2.out.trans (hb3.mono HB2.out.size))
 clear hT hb3 x3 y3 x4 y4 k34 hw4
 go_wp2_with fail
 simp only[HW4.out]
 clear c3 f3 c4
 have CC:=CB.out w4 HK24.out
 with_reducible refine CC.mono ?_
 clear CC
 rintro e w5 ⟨bd',body',rfl,hlb,hsb,hTb,hb5⟩
 have s4:w2.heap.size≤w4.heap.size:=HK24.out.size
 obtain⟨y,hy⟩:∃y:Fu,y=⟨nm,pd',ps,t,bd',body'⟩:=⟨_,rfl⟩
 have x5:=(hb5.block X (by have:=HN.out.2.2;omega)).trans HX4.out.1
 have y5:w5.heap[X+1]? =some o2:=(hb5.block (X+1) (by have:=HN.out.2.2;omega)).trans HX4.out.2
 have c5:=cell_at x5 5
 have f5:=frz_at x5 5
 simp only[sl7,Fu.cells,sl8,sl9]at c5
 obtain⟨w6,hw6⟩:∃w6,w5.setCell ⟨X,5,none⟩ (.slice bd'.a body'.length bd'.c)=w6:=⟨_,rfl⟩
 have x6:w6.heap[X]? =some (.cells y.cells.toArray 53 (0,0)):=by
  have h:=row_set x5 5 (.slice bd'.a body'.length bd'.c)
  rw[hw6]at h
  rw[h,hy]
  rfl
 have y6:w6.heap[X+1]? =some o2:=by rw[←hw6];exact (Below.heap_setCell _ _ _ _ (by show X+1≠X;omega)).trans y5
 have k57:KX X w5 (w6.setCells (X+1) 0 y.cells):=setCells_kept (S:=fun k=>k=X∨k=X+1) (g:=X+1) (Or.inr rfl) y.cells 0 w6 (by rw[←hw6];exact Kept.setCell (S:=fun k=>k=X∨k=X+1) (Kept.refl _ w5) (p:=⟨X,5,none⟩) (Or.inl (Or.inl rfl)) _)
 rw[←Ho.out.2]at y6
 have htr:=there_row (vs:=[.string ⟨#[]⟩,.slice none 0 0,.int .u8 0,.string ⟨#[]⟩,.int .i64 0,.slice none 0 0]) y6 0 6 (Nat.le_refl 6)
 have hrg:(w6.setCells (X+1) 0 y.cells).rangeAt (X+1) 0 y.cells:=World.rangeAt_setCells_same _ _ _ _ htr
 have hres:(loadVar 53 ⟨X+1,0,none⟩).run Tryz.prog (w6.setCells (X+1) 0 y.cells)=.ok (.agg y.cells.toArray) (w6.setCells (X+1) 0 y.cells):=run_loadVar_mid _ (X+1) 0 53 y.cells _ hrg Tryz.underlying53 rfl (fuSzL _)
 have hz6:=row_cells x6
 have HZ:Hid (stripF y=stripF ⟨nm,pd,ps,t,bd,body⟩∧TnU (w6.setCells (X+1) 0 y.cells) w.heap.size (w6.setCells (X+1) 0 y.cells).heap.size y∧Below w.heap.size w (w6.setCells (X+1) 0 y.cells)):=Lib.hid (by
  have hg:w2.heap.size=X+1+1:=HN.out.2.2
  have hX:=HN.out.1
  have k37:KX X w3 (w6.setCells (X+1) 0 y.cells):=(HK34.out.trans (Kept.of_below hb5)).trans k57
  have hT2:=HT.out.keep (fun b h1 h2=>k37.block b h2 (fun hh=>by rcases hh with hh|hh<;>omega)) (show w.heap.size≤w2.heap.size by omega) k37.size
  have hT3:=hTb.keep (fun b h1 h2=>k57.block b h2 (fun hh=>by rcases hh with hh|hh<;>omega)) (show w.heap.size≤w4.heap.size by omega) k57.size
  have hE:TnU (w6.setCells (X+1) 0 y.cells) w.heap.size (w6.setCells (X+1) 0 y.cells).heap.size ⟨nm,pd',ps,t,bd',body'⟩:=⟨HNm.out.1,hT2,HNm.out.2,hT3⟩
  rw[←hy]at hE
  refine⟨by rw[hy];simp only[stripF,hsb],hE,?_⟩
  exact HB3.out.trans (k37.below HB3.out.size (fun k h=>by rcases h with h|h<;>omega)))
 have HW6:=Lib.hid hw6
 clear hTb hsb hb5 x5 y5 x6 y6 k57 hrg hw6 hy hlb
 go_wp2_with (first|(refine wpList_load_list rfl 53 _ rfl _ rfl y.cells _ hz6 Tryz.underlying53 rfl (fuSzL _) ?_)|(refine wpList_store_mid rfl 53 _ _ rfl (X+1) 0 y.cells.toArray rfl rfl htr (fuSz _) (fuOn _) ?_)|rw[HW6.out])
 refine bodyPost_ret (v:=.agg y.cells.toArray) (by simp[results,Tryz.results31,Act.eval,Sem.run_bind,Act.put,asAddr,hres]) rfl ?_
 exact⟨y,rfl,HZ.out⟩
set_option maxHeartbeats 16000000 in
set_option maxRecDepth 100000 in
theorem twinUs_any (B:Nat) (d:Hd) (l:List Fu) (w:World) (hI:FusIn w B d l) (hBw:B≤w.heap.size) (G:Globs w) (hn:l.length≤262144) (hsm:∀r∈l,r.ps.length≤262144∧stAlls r.body≤262144):
  Calls Tryz.prog 36 #[.slice d.a l.length d.c] w fun e w'=>∃(d':Hd) (l':List Fu),e=.returned (.slice d'.a l'.length d'.c)∧l'.length=l.length∧l'.map stripF=l.map stripF∧TnUs w' w.heap.size w'.heap.size d' l'∧Below w.heap.size w w':=by
 have hel:∀x∈l,TwinU B x:=fun x hx=>twinU_any B x (hsm x hx).1 (hsm x hx).2
 clear hsm
 obtain⟨i0,hi0,hz0,hz1,hz2⟩:=info_parts infoFu
 have hmk0:=run_make (P:=Tryz.prog) w 24 53 i0 _ Tryz.underlying24 hi0 hz0 .i64 .i64 (l.length:Int) ((l.length:Int)+2) (by omega) (by omega) (by rw[hz2];omega) (by omega)
 rw[show ((l.length:Int)+2).toNat=l.length+2 by omega,Int.toNat_natCast,hz1]at hmk0
 generalize hcs:madeCells _ ((l.length+2)*6)=cs at hmk0
 have hsz:cs.size=(l.length+2)*6:=by rw[←hcs];exact size_madeCells _ _
 clear hcs
 obtain⟨w0,hw0⟩:∃w0,w.alloc (.cells cs 53)=w0:=⟨_,rfl⟩
 have hb0:Below w.heap.size w w0:=by rw[←hw0];exact (Below.refl _ _).alloc (Nat.le_refl _) _
 have ho0:w0.ownsRow w.heap.size 53 6 (.slice (some ⟨w.heap.size,0,none⟩) 0 (l.length+2)) 0 (([]:List Fu).flatMap Fu.cells):=by rw[←hw0];exact own_begin w cs 53 6 (l.length+2) (by unfold maxLen;omega) hsz
 have HO0:=Lib.hid ho0
 have HB0:=Lib.hid hb0
 have HGl:Hid (∀W,Below w.heap.size w W→Globs W):=Lib.hid fun W hb=>G.below hb
 have HIn:Hid (∀W,Below w.heap.size w W→FusIn W B d l):=Lib.hid fun W hb=>hI.keep (hb.mono hBw) (Nat.le_refl B)
 have HBs:Hid (∀W,Below w.heap.size w W→B≤W.heap.size):=Lib.hid fun W hb=>Nat.le_trans hBw hb.size
 have HW0:=Lib.hid hw0
 obtain⟨n,hN⟩:∃n,l.length=n:=⟨_,rfl⟩
 have HN:=Lib.hid hN
 rw[hN]at hmk0 HO0 hn ⊢
 have hnI:(n:Int)≤1000000:=by omega
 clear hi0 hz0 hz1 hz2 hsz hI hN G hBw hb0 ho0
 rw[hw0]at hmk0
 clear hw0
 go_enter Tryz.func36,Tryz.ntmps36
 go_wp2_with fail
 go_loopw [15] (fun ii wr=>∃(j:Nat) (l':List Fu),ii=.int .i64 j∧j≤n∧Hid (l'.length=j∧l'.map stripF=(l.take j).map stripF)∧Hid (wr.ownsRow w.heap.size 53 6 (.slice (some ⟨w.heap.size,0,none⟩) j (n+2)) j (l'.flatMap Fu.cells))∧Hid (∀y∈l',TnU wr (w.heap.size+1) wr.heap.size y)∧Hid (Below w.heap.size w wr)) (fun ii _=>n - (intOf ii).toNat)
 case atStart=>exact⟨0,[],rfl,Nat.zero_le _,Lib.hid ⟨rfl,rfl⟩,HO0,Lib.hid (fun y hy=>by cases hy),HB0⟩
 case round=>
  obtain⟨j,l',rfl,hj,hL,hO,hT,hB⟩:=hrel
  clear HO0
  have p2:(0:Int)≤(j:Int):=Int.natCast_nonneg _
  by_cases hlt:j<n
  ·have hltl:j<l.length:=by rw[HN.out];exact hlt
   obtain⟨x,hx⟩:∃x,l[j]? =some x:=⟨_,List.getElem?_eq_getElem hltl⟩
   have hmem:=List.mem_of_getElem? hx
   have hIr:=HIn.out _ hB.out
   obtain⟨rb,ro,hda,hrb,hrow⟩:=hIr.row (by intro h0;rw[h0]at hltl;simp at hltl)
   have hz:=fuAt_list (hrow j x hx)
   have hTk:(l.take (j+1)).map stripF=(l.take j).map stripF++[stripF x]:=by
    rw[List.take_add_one,hx];simp
   have C:=Lib.hid (hel x hmem wr (hIr.sub x hmem) (HBs.out _ hB.out) (HGl.out _ hB.out))
   have p1:(j:Int)<(n:Int):=by omega
   have HTk:=Lib.hid hTk
   have HLt:=Lib.hid hlt
   clear hrow hIr hx hmem hTk hltl hlt hrb
   rw[hda]
   go_wp2_with (refine wpList_load_list rfl 53 _ rfl _ rfl (Fu.cells x) _ hz Tryz.underlying53 rfl (fuSzL _) ?_)
   with_reducible refine C.out.mono ?_
   rintro e w2 ⟨y,rfl,hs,ht,hb⟩
   have HO2:=Lib.hid (own_belowI hO.out hb)
   have hlt:=HLt.out
   have htr:=there_own HO2.out (by omega)
   obtain⟨w3,hw3⟩:∃w3,w2.setCells w.heap.size (j*6) (Fu.cells y)=w3:=⟨_,rfl⟩
   have hO3:=own_store HO2.out (by omega) (Fu.cells y) rfl
   rw[hw3]at hO3
   have HO3:Hid (w3.ownsRow w.heap.size 53 6 (.slice (some ⟨w.heap.size,0,none⟩) (j+1) (n+2)) (j+1) ((l'++[y]).flatMap Fu.cells)):=Lib.hid (by rw[List.flatMap_append];simpa using hO3)
   have hbw2:Below w.heap.size w w2:=hB.out.trans (hb.mono hB.out.size)
   have hk3:∀b,w.heap.size+1≤b→w3.heap[b]? =w2.heap[b]? :=fun b hb2=>by
    rw[←hw3]
    by_cases hbl:b<w2.heap.size
    ·exact (setCells_kept (S:=fun k=>k=w.heap.size) rfl (Fu.cells y) (j*6) w2 (Kept.refl _ _)).block b hbl (by omega)
    ·exact q645l_6
   have s3:w3.heap.size=w2.heap.size:=by rw[←hw3,setCells_size]
   have hgw:w.heap.size+1≤wr.heap.size:=by
    exact q645l_4
   have HT3:Hid (∀z∈l'++[y],TnU w3 (w.heap.size+1) w3.heap.size z):=Lib.hid fun z hz=>by
    exact q645l_1
   have HB3:Hid (Below w.heap.size w w3):=Lib.hid (by rw[←hw3];exact setCells_below (Nat.le_refl _) _ _ _ hbw2)
   have HL3:Hid ((l'++[y]).length=j+1∧(l'++[y]).map stripF=(l.take (j+1)).map stripF):=Lib.hid ⟨by rw[List.length_append,hL.out.1];rfl,by rw[HTk.out,←hL.out.2,List.map_append];simp[hs]⟩
   have HW3:=Lib.hid hw3
   clear hs ht hb HO2 hO3 hbw2 hk3 s3 hgw hz hw3 C hL hO hT hB HTk
   go_wp2_with (refine wpList_store_mid rfl 53 _ _ rfl w.heap.size (j*6) (Fu.cells y).toArray rfl rfl htr (fuSz _) (fuOn _) ?_;rw[show w2.setCells w.heap.size (j*6) (Fu.cells y).toArray.toList=w3 from HW3.out])
   exact q645l_3
  ·obtain rfl:j=n:=by omega
   have hst:l'.map stripF=l.map stripF:=by
    exact q645l_7
   have HSt:=Lib.hid (And.intro hL.out.1 hst)
   clear hst hL hlt
   go_wp2_with fail
   refine wp_loop_rounds 3 ?_
   rw[rounds_succ]
   go_wp2_with fail
   refine (markU_any j (by omega) wr (HGl.out _ hB.out)).mono ?_
   rintro e w2 ⟨rfl,hb⟩
   have HO2:=Lib.hid (own_belowI hO.out hb)
   have hB2:Below w.heap.size w w2:=hB.out.trans (hb.mono hB.out.size)
   have HKp:Hid (Kept (fun k=>k=w.heap.size) wr w2):=Lib.hid (Kept.of_below hb)
   have htr:=there_own HO2.out (by omega)
   obtain⟨w3,hwd⟩:∃w3,w2.setCells w.heap.size (j*6) (markU j).cells=w3:=⟨_,rfl⟩
   have HO3:=Lib.hid (own_store HO2.out (by omega) (markU j).cells rfl)
   rw[hwd]at HO3
   have HB3:Hid (Below w.heap.size w w3):=Lib.hid (by rw[←hwd];exact setCells_below (Nat.le_refl _) _ _ _ hB2)
   have HK3:Hid (Kept (fun k=>k=w.heap.size) wr w3):=Lib.hid (by rw[←hwd];exact setCells_kept (S:=fun k=>k=w.heap.size) rfl _ _ _ HKp.out)
   clear hb hB2 HO2 HKp
   go_wp2_with (refine wpList_store_mid rfl 53 _ _ rfl w.heap.size (j*6) (markU j).cells.toArray rfl rfl htr (fuSz _) (fuOn _) ?_;rw[show w2.setCells w.heap.size (j*6) (markU j).cells.toArray.toList=w3 from hwd])
   clear htr hwd
   go_wp2_with fail
   rw[rounds_succ]
   go_wp2_with fail
   refine (markU_any (j+1) (by omega) w3 (HGl.out _ HB3.out)).mono ?_
   rintro e w4 ⟨rfl,hb⟩
   have HO2:=Lib.hid (own_belowI HO3.out hb)
   have hB2:Below w.heap.size w w4:=HB3.out.trans (hb.mono HB3.out.size)
   have HKp:Hid (Kept (fun k=>k=w.heap.size) w3 w4):=Lib.hid (Kept.of_below hb)
   have htr:=there_own HO2.out (by omega)
   obtain⟨w5,hwd⟩:∃w5,w4.setCells w.heap.size ((j+1)*6) (markU (j+1)).cells=w5:=⟨_,rfl⟩
   have HO5:=Lib.hid (own_store HO2.out (by omega) (markU (j+1)).cells rfl)
   rw[hwd]at HO5
   have HB5:Hid (Below w.heap.size w w5):=Lib.hid (by rw[←hwd];exact setCells_below (Nat.le_refl _) _ _ _ hB2)
   have HK5:Hid (Kept (fun k=>k=w.heap.size) w3 w5):=Lib.hid (by rw[←hwd];exact setCells_kept (S:=fun k=>k=w.heap.size) rfl _ _ _ HKp.out)
   clear hb hB2 HO2 HKp
   go_wp2_with (refine wpList_store_mid rfl 53 _ _ rfl w.heap.size ((j+1)*6) (markU (j+1)).cells.toArray rfl rfl htr (fuSz _) (fuOn _) ?_;rw[show w4.setCells w.heap.size ((j+1)*6) (markU (j+1)).cells.toArray.toList=w5 from hwd])
   clear htr hwd
   rw[rounds_succ]
   go_wp2_with fail
   go_ret
   have hlt:w.heap.size<w5.heap.size:=by
    exact q645l_5
   have hK:=HK3.out.trans HK5.out
   have hfz:∃cs,w5.heap[w.heap.size]? =some (.cells cs 53 (0,0))∧cs.size=(j+2)*6:=by
    rcases HO5.out.2 with ⟨h',_⟩|⟨g',cap',cur,h',hb,hg,r⟩
    ·simp at h'
    ·simp only[Value.slice.injEq,Option.some.injEq,Addr.mk.injEq,and_true]at h'
     obtain⟨e1,-,e3⟩:=h'
     rw[e1]
     exact⟨cur,hg,by rw[e3];exact r.2.2.1⟩
   refine⟨⟨some ⟨w.heap.size,0,none⟩,j+2⟩,l',by rw[HSt.out.1];rfl,HSt.out.1,HSt.out.2,⟨by rw[HSt.out.1];omega,tnRow_of markU fuCells_len (fun _ _ _ _=>fuAt_of) HSt.out.1 (Nat.le_refl _) hlt HO5.out,fun y hy=>(hT.out y hy).keep (fun b h1 h2=>hK.block b h2 (by omega)) (by omega) hK.size,by obtain⟨cs,hcs,hsz⟩:=hfz;exact⟨_,cs,rfl,Nat.le_refl _,hlt,hcs,by rw[HSt.out.1];exact hsz⟩⟩,HB5.out⟩
end Go.Proofs.YtkklogikakcanaaGreatDoor
namespace Go.Proofs.YtkklogikakcanaaGreatDoor
open Go Go.RowKit Go.Sort
structure TnTs (w:World) (g B:Nat) (d:Hd) (l:List Th):Prop where
 len:l.length≤1000000
 row:∃b,d.a=some ⟨b,0,none⟩∧g≤b∧b<B∧d.c=l.length+2∧(∀i y,l[i]? =some y→ThAt w b (i*1) y)∧
  (∃a c,w.cell? ⟨b,l.length,none⟩=some (.slice a (1+l.length % 40) c))∧∃a c,w.cell? ⟨b,l.length+1,none⟩=some (.slice a (1+(l.length+1) % 40) c)
 sub:∀y,y∈l→TnSs w g B y.d y.l
 fz:∃b cs,d.a=some ⟨b,0,none⟩∧g≤b∧b<B∧w.heap[b]? =some (.cells cs 51 (0,0))
theorem TnTs.keep {w w':World} {g g' B B':Nat} {d:Hd} {l:List Th} (h:TnTs w g B d l) (hk:∀b,g≤b→b<B→w'.heap[b]? =w.heap[b]?) (hg:g'≤g) (hB:B≤B'):TnTs w' g' B' d l:=by
 obtain⟨h0,⟨b,h1,h2,h3,h4,h5,⟨a0,c0,h6⟩,⟨a1,c1,h7⟩⟩,h8,⟨b',cs,k1,k2,k3,k4⟩⟩:=h
 have hc:∀o,w'.cell? ⟨b,o,none⟩=w.cell? ⟨b,o,none⟩:=fun o=>by unfold World.cell?;rw[hk b h2 h3]
 exact⟨h0,⟨b,h1,by omega,by omega,h4,fun i y hy=>(h5 i y hy).keep hc,⟨a0,c0,(hc _).trans h6⟩,⟨a1,c1,(hc _).trans h7⟩⟩,fun y hy=>(h8 y hy).keep hk hg hB,⟨b',cs,k1,by omega,by omega,(hk b' k2 k3).trans k4⟩⟩
theorem ths_flat_len (l:List Th):(l.flatMap Th.cells).length=l.length:=by
 induction l with
 |nil=>rfl
 |cons t l ih=>rw[List.flatMap_cons,List.length_append,ih];simp[Th.cells];omega
set_option maxHeartbeats 1000000 in
set_option maxRecDepth 100000 in
theorem markT_any (n:Nat) (h:n≤100000000000) (w:World):
  Calls Tryz.prog 72 #[.int .i64 n] w fun e w'=>∃a c,e=.returned (.slice a (1+n % 40) c)∧Below w.heap.size w w':=by
 obtain⟨i0,hi0,hz0,hz1,hz2⟩:=info_parts infoSt
 have hmk0:=run_make (P:=Tryz.prog) w 51 72 i0 _ Tryz.underlying51 hi0 hz0 .i64 .i64 (1+(n:Int) % 40) (1+(n:Int) % 40) (by omega) (by omega) (by rw[hz2];omega) (by omega)
 rw[show (1+(n:Int) % 40).toNat=1+n % 40 by omega]at hmk0
 clear hi0 hz0 hz1 hz2
 generalize madeCells _ _=cs at hmk0
 have HB:Hid (Below w.heap.size w (w.alloc (.cells cs 72))):=Lib.hid ((Below.refl _ _).alloc (Nat.le_refl _) _)
 go_enter Tryz.func72,Tryz.ntmps72
 go_wp2_with fail
 go_ret
 exact⟨_,_,rfl,HB.out⟩
set_option maxHeartbeats 16000000 in
set_option maxRecDepth 100000 in
theorem twinTs_any (B:Nat) (d:Hd) (l:List Th) (w:World) (hI:ThsIn w B d l) (hBw:B≤w.heap.size) (G:Globs w) (hn:l.length≤262144) (hsm:∀r∈l,stAlls r.l≤262144):
  Calls Tryz.prog 37 #[.slice d.a l.length d.c] w fun e w'=>∃(d':Hd) (l':List Th),e=.returned (.slice d'.a l'.length d'.c)∧l'.length=l.length∧l'.map stripT=l.map stripT∧TnTs w' w.heap.size w'.heap.size d' l'∧Below w.heap.size w w':=by
 obtain⟨i0,hi0,hz0,hz1,hz2⟩:=info_parts infoRow
 have hmk0:=run_make (P:=Tryz.prog) w 25 51 i0 _ Tryz.underlying25 hi0 hz0 .i64 .i64 (l.length:Int) ((l.length:Int)+2) (by omega) (by omega) (by rw[hz2];omega) (by omega)
 rw[show ((l.length:Int)+2).toNat=l.length+2 by omega,Int.toNat_natCast,hz1]at hmk0
 generalize hcs:madeCells _ ((l.length+2)*1)=cs at hmk0
 have hsz:cs.size=(l.length+2)*1:=by rw[←hcs];exact size_madeCells _ _
 clear hcs
 obtain⟨w0,hw0⟩:∃w0,w.alloc (.cells cs 51)=w0:=⟨_,rfl⟩
 have hb0:Below w.heap.size w w0:=by rw[←hw0];exact (Below.refl _ _).alloc (Nat.le_refl _) _
 have ho0:w0.ownsRow w.heap.size 51 1 (.slice (some ⟨w.heap.size,0,none⟩) 0 (l.length+2)) 0 (([]:List Th).flatMap Th.cells):=by rw[←hw0];exact own_begin w cs 51 1 (l.length+2) (by unfold maxLen;omega) hsz
 have HO0:=Lib.hid ho0
 have HB0:=Lib.hid hb0
 have HGl:Hid (∀W,Below w.heap.size w W→Globs W):=Lib.hid fun W hb=>G.below hb
 have HIn:Hid (∀W,Below w.heap.size w W→ThsIn W B d l):=Lib.hid fun W hb=>hI.keep (hb.mono hBw) (Nat.le_refl B)
 have HBs:Hid (∀W,Below w.heap.size w W→B≤W.heap.size):=Lib.hid fun W hb=>Nat.le_trans hBw hb.size
 have HW0:=Lib.hid hw0
 obtain⟨n,hN⟩:∃n,l.length=n:=⟨_,rfl⟩
 have HN:=Lib.hid hN
 rw[hN]at hmk0 HO0 hn ⊢
 have hnI:(n:Int)≤1000000:=by omega
 clear hi0 hz0 hz1 hz2 hsz hI hN G hBw hb0 ho0
 rw[hw0]at hmk0
 clear hw0
 go_enter Tryz.func37,Tryz.ntmps37
 go_wp2_with fail
 go_loopw [15] (fun ii wr=>∃(j:Nat) (l':List Th),ii=.int .i64 j∧j≤n∧Hid (l'.length=j∧l'.map stripT=(l.take j).map stripT)∧Hid (wr.ownsRow w.heap.size 51 1 (.slice (some ⟨w.heap.size,0,none⟩) j (n+2)) j (l'.flatMap Th.cells))∧Hid (∀y∈l',TnT wr (w.heap.size+1) wr.heap.size y)∧Hid (Below w.heap.size w wr)) (fun ii _=>n - (intOf ii).toNat)
 case atStart=>exact⟨0,[],rfl,Nat.zero_le _,Lib.hid ⟨rfl,rfl⟩,HO0,Lib.hid (fun y hy=>by cases hy),HB0⟩
 case round=>
  obtain⟨j,l',rfl,hj,hL,hO,hT,hB⟩:=hrel
  clear HO0
  have p2:(0:Int)≤(j:Int):=Int.natCast_nonneg _
  by_cases hlt:j<n
  ·have hltl:j<l.length:=by rw[HN.out];exact hlt
   obtain⟨x,hx⟩:∃x,l[j]? =some x:=⟨_,List.getElem?_eq_getElem hltl⟩
   have hmem:=List.mem_of_getElem? hx
   have hIr:=HIn.out _ hB.out
   obtain⟨rb,ro,hda,hrb,hrow⟩:=hIr.row (by intro h0;rw[h0]at hltl;simp at hltl)
   have hz:=(hrow j x hx).c0
   rw[Nat.mul_one]at hz
   have hTk:(l.take (j+1)).map stripT=(l.take j).map stripT++[stripT x]:=by
    rw[List.take_add_one,hx];simp
   have C:=Lib.hid (twinSs_any B x.l (hsm x hmem) x.d wr (hIr.sub x hmem) (HBs.out _ hB.out) (HGl.out _ hB.out))
   have p1:(j:Int)<(n:Int):=by omega
   have HTk:=Lib.hid hTk
   have HLt:=Lib.hid hlt
   clear hrow hIr hx hmem hTk hltl hlt hrb
   rw[hda]
   go_wp2_with fail
   with_reducible refine C.out.mono ?_
   rintro e w2 ⟨d2,l2,rfl,hl2,hs2,ht,hb⟩
   obtain⟨y,hy⟩:∃y:Th,y=⟨d2,l2⟩:=⟨_,rfl⟩
   have hs:stripT y=stripT x:=by rw[hy];simp only[stripT,hs2]
   have hyc:Th.cells y=[.slice d2.a l2.length d2.c]:=by rw[hy];rfl
   have ht:TnT w2 wr.heap.size w2.heap.size y:=by rw[hy];exact ht
   have HO2:=Lib.hid (own_belowI hO.out hb)
   have hlt:=HLt.out
   have htr:=there_own HO2.out (by omega)
   obtain⟨w3,hw3⟩:∃w3,w2.setCells w.heap.size (j*1) (Th.cells y)=w3:=⟨_,rfl⟩
   have ht0:=htr 0 (by decide)
   simp only[Nat.mul_one,Nat.add_zero]at ht0
   obtain⟨u0,hu0⟩:=Option.isSome_iff_exists.1 ht0.1
   have hf0:=ht0.2
   have hO3:=own_store HO2.out (by omega) (Th.cells y) rfl
   rw[hw3]at hO3
   have HO3:Hid (w3.ownsRow w.heap.size 51 1 (.slice (some ⟨w.heap.size,0,none⟩) (j+1) (n+2)) (j+1) ((l'++[y]).flatMap Th.cells)):=Lib.hid (by rw[List.flatMap_append];simpa using hO3)
   have hbw2:Below w.heap.size w w2:=hB.out.trans (hb.mono hB.out.size)
   have hk3:∀b,w.heap.size+1≤b→w3.heap[b]? =w2.heap[b]? :=fun b hb2=>by
    rw[←hw3]
    by_cases hbl:b<w2.heap.size
    ·exact (setCells_kept (S:=fun k=>k=w.heap.size) rfl (Th.cells y) (j*1) w2 (Kept.refl _ _)).block b hbl (by omega)
    ·exact q645l_6
   have s3:w3.heap.size=w2.heap.size:=by rw[←hw3,setCells_size]
   have hgw:w.heap.size+1≤wr.heap.size:=by
    exact q645l_4
   have HT3:Hid (∀z∈l'++[y],TnT w3 (w.heap.size+1) w3.heap.size z):=Lib.hid fun z hz=>by
    exact q645l_1
   have HB3:Hid (Below w.heap.size w w3):=Lib.hid (by rw[←hw3];exact setCells_below (Nat.le_refl _) _ _ _ hbw2)
   have HL3:Hid ((l'++[y]).length=j+1∧(l'++[y]).map stripT=(l.take (j+1)).map stripT):=Lib.hid ⟨by rw[List.length_append,hL.out.1];rfl,by rw[HTk.out,←hL.out.2,List.map_append];simp[hs]⟩
   have HW3:Hid (w2.setCell ⟨w.heap.size,j,none⟩ (.slice d2.a l2.length d2.c)=w3):=Lib.hid (by rw[←hw3,hyc,Nat.mul_one];rfl)
   clear hs hs2 hl2 hyc hy ht htr ht0 hb HO2 hO3 hbw2 hk3 s3 hgw hz hw3 C hL hO hT hB HTk
   go_wp2_with fail
   simp only[HW3.out]
   exact q645l_3
  ·obtain rfl:j=n:=by omega
   have hst:l'.map stripT=l.map stripT:=by
    exact q645l_7
   have HSt:=Lib.hid (And.intro hL.out.1 hst)
   clear hst hL hlt
   go_wp2_with fail
   refine wp_loop_rounds 3 ?_
   rw[rounds_succ]
   go_wp2_with fail
   refine (markT_any j (by omega) wr).mono ?_
   rintro e w2 ⟨a0,c0,rfl,hb⟩
   have HO2:=Lib.hid (own_belowI hO.out hb)
   have hB2:Below w.heap.size w w2:=hB.out.trans (hb.mono hB.out.size)
   have htr:=there_own HO2.out (by omega)
   have ht0:=htr 0 (by decide)
   simp only[Nat.mul_one,Nat.add_zero]at ht0
   obtain⟨u0,hu0⟩:=Option.isSome_iff_exists.1 ht0.1
   have hf0:=ht0.2
   obtain⟨w3,hwd⟩:∃w3,w2.setCell ⟨w.heap.size,j,none⟩ (.slice a0 (1+j % 40) c0)=w3:=⟨_,rfl⟩
   have hP:=own_store HO2.out (by omega) [.slice a0 (1+j % 40) c0] rfl
   rw[Nat.mul_one]at hP
   have hP2:(w2.setCells w.heap.size j [.slice a0 (1+j % 40) c0])=w3:=hwd
   rw[hP2]at hP
   have HO3:=Lib.hid hP
   have HB3:Hid (Below w.heap.size w w3):=Lib.hid (by rw[←hwd];exact hB2.setCell (p:=⟨w.heap.size,j,none⟩) (Nat.le_refl _) _)
   have HK3:Hid (Kept (fun k=>k=w.heap.size) wr w3):=Lib.hid (by rw[←hwd];exact Kept.setCell (S:=fun k=>k=w.heap.size) (Kept.of_below hb) (p:=⟨w.heap.size,j,none⟩) (Or.inl rfl) _)
   have HWd0:=Lib.hid hwd
   clear hb hB2 HO2 htr ht0 hP hP2 hwd
   go_wp2_with fail
   simp only[HWd0.out]
   clear hu0 hf0
   rw[rounds_succ]
   go_wp2_with fail
   refine (markT_any (j+1) (by omega) w3).mono ?_
   rintro e w4 ⟨a1,c1,rfl,hb⟩
   have HO2:=Lib.hid (own_belowI HO3.out hb)
   have hB2:Below w.heap.size w w4:=HB3.out.trans (hb.mono HB3.out.size)
   have htr:=there_own HO2.out (by omega)
   have ht0:=htr 0 (by decide)
   simp only[Nat.mul_one,Nat.add_zero]at ht0
   obtain⟨u1,hu1⟩:=Option.isSome_iff_exists.1 ht0.1
   have hf1:=ht0.2
   obtain⟨w5,hwd⟩:∃w5,w4.setCell ⟨w.heap.size,(j+1),none⟩ (.slice a1 (1+(j+1) % 40) c1)=w5:=⟨_,rfl⟩
   have hP:=own_store HO2.out (by omega) [.slice a1 (1+(j+1) % 40) c1] rfl
   rw[Nat.mul_one]at hP
   have hP2:(w4.setCells w.heap.size (j+1) [.slice a1 (1+(j+1) % 40) c1])=w5:=hwd
   rw[hP2]at hP
   have HO5:=Lib.hid hP
   have HB5:Hid (Below w.heap.size w w5):=Lib.hid (by rw[←hwd];exact hB2.setCell (p:=⟨w.heap.size,(j+1),none⟩) (Nat.le_refl _) _)
   have HK5:Hid (Kept (fun k=>k=w.heap.size) w3 w5):=Lib.hid (by rw[←hwd];exact Kept.setCell (S:=fun k=>k=w.heap.size) (Kept.of_below hb) (p:=⟨w.heap.size,(j+1),none⟩) (Or.inl rfl) _)
   have HWd1:=Lib.hid hwd
   clear hb hB2 HO2 htr ht0 hP hP2 hwd
   go_wp2_with fail
   simp only[HWd1.out]
   clear hu1 hf1
   rw[rounds_succ]
   go_wp2_with fail
   go_ret
   have hlt:w.heap.size<w5.heap.size:=by
    exact q645l_5
   have hfz:∃cs,w5.heap[w.heap.size]? =some (.cells cs 51 (0,0)):=by
    rcases HO5.out.2 with ⟨h',_⟩|⟨g',cap',cur,h',hb,hg,r⟩
    ·simp at h'
    ·simp only[Value.slice.injEq,Option.some.injEq,Addr.mk.injEq,and_true]at h'
     rw[h'.1];exact⟨_,hg⟩
   have hK:=HK3.out.trans HK5.out
   have hO5:=HO5.out
   have hfl:(l'.flatMap Th.cells).length=l'.length:=ths_flat_len l'
   have hl5:=hO5.1
   have hat:∀i v,(l'.flatMap Th.cells++[.slice a0 (1+j % 40) c0]++[.slice a1 (1+(j+1) % 40) c1])[i]? =some v→w5.cell? ⟨w.heap.size,i,none⟩=some v:=fun i v hv=>by
    have hi:=(List.getElem?_eq_some_iff.1 hv).1
    rw[hl5]at hi
    rw[hO5.cellAt i (by omega)];exact hv
   refine⟨⟨some ⟨w.heap.size,0,none⟩,j+2⟩,l',by rw[HSt.out.1];rfl,HSt.out.1,HSt.out.2,⟨by rw[HSt.out.1];omega,⟨w.heap.size,rfl,Nat.le_refl _,hlt,by rw[HSt.out.1],fun i y hy=>?_,⟨a0,c0,?_⟩,⟨a1,c1,?_⟩⟩,fun y hy=>(hT.out y hy).keep (fun b h1 h2=>hK.block b h2 (by omega)) (by omega) hK.size,by obtain⟨cs,hcs⟩:=hfz;exact⟨_,cs,rfl,Nat.le_refl _,hlt,hcs⟩⟩,HB5.out⟩
   ·have hi:=(List.getElem?_eq_some_iff.1 hy).1
    rw[Nat.mul_one]
    refine⟨hat i _ ?_⟩
    have h:=flat_at Th.cells 1 (fun _=>rfl) l' i 0 y hy (by decide)
    rw[Nat.mul_one,Nat.add_zero]at h
    rw[List.append_assoc,List.getElem?_append_left (by rw[hfl];exact hi),h]
    rfl
   ·rw[HSt.out.1]
    refine hat j _ ?_
    rw[List.append_assoc,List.getElem?_append_right (by rw[hfl,HSt.out.1];exact Nat.le_refl _),hfl,HSt.out.1,Nat.sub_self]
    rfl
   ·rw[HSt.out.1]
    refine hat (j+1) _ ?_
    rw[List.append_assoc,List.getElem?_append_right (by rw[hfl,HSt.out.1];omega),hfl,HSt.out.1,Nat.add_sub_cancel_left]
    rfl
structure TnP (w:World) (g B:Nat) (p:Pr):Prop where
 rs:TnRs w g B p.rd p.rs
 ss:TnFs w g B p.sd p.ss
 fs:TnUs w g B p.fd p.fs
 ts:TnTs w g B p.td p.ts
theorem TnP.keep {w w':World} {g g' B B':Nat} {p:Pr} (h:TnP w g B p) (hk:∀b,g≤b→b<B→w'.heap[b]? =w.heap[b]?) (hg:g'≤g) (hB:B≤B'):TnP w' g' B' p:=⟨h.rs.keep hk hg hB,h.ss.keep hk hg hB,h.fs.keep hk hg hB,h.ts.keep hk hg hB⟩
theorem TnP.inn {w:World} {g B:Nat} {p:Pr} (h:TnP w g B p):PrIn w B p where
 rlen:=by have:=h.rs.len;unfold lenOk;omega
 rrow:=h.rs.row.row
 rsub:=fun r hr=>⟨(h.rs.sub r hr).nm,(h.rs.sub r hr).fs.inn⟩
 ss:=h.ss.inn
 flen:=by have:=h.fs.len;unfold lenOk;omega
 frow:=h.fs.row.row
 fsub:=fun f hf=>⟨(h.fs.sub f hf).nm,(h.fs.sub f hf).ps.inn,(h.fs.sub f hf).t,(h.fs.sub f hf).body.inn⟩
 tlen:=by have:=h.ts.len;unfold lenOk;omega
 trow:=fun _=>by
  obtain⟨b,h1,h2,h3,h4,h5,-,-⟩:=h.ts.row
  exact⟨b,0,h1,h3,fun i y hy=>by rw[Nat.zero_add];exact h5 i y hy⟩
 tsub:=fun t ht=>(h.ts.sub t ht).inn
def PrBox (X:Nat) (p:Pr) (w:World):Prop:=w.heap[X]? =some (.cells p.cells.toArray 27 (0,0))
theorem PrBox.keep {X:Nat} {p:Pr} {w w':World} (h:PrBox X p w) (hb:Below w.heap.size w w'):PrBox X p w':=(hb.block X (blk_lt h)).trans h
theorem prSz (p:Pr):(Tryz.prog.info? 27).map (·.size)=some p.cells.toArray.size:=by kernel_rfl
theorem prSzL (p:Pr):(Tryz.prog.info? 27).map (·.size)=some p.cells.length:=by kernel_rfl
theorem prOn (p:Pr):p.cells.toArray.all (·.oneCell')=true:=by simp[Pr.cells,Value.oneCell']
abbrev zeroPr:List Value:=[.slice none 0 0,.slice none 0 0,.slice none 0 0,.slice none 0 0]
set_option maxHeartbeats 8000000 in
set_option maxRecDepth 100000 in
theorem twinPr_any (B:Nat) (p:Pr) (w:World) (hI:PrIn w B p) (hB:B≤w.heap.size) (G:Globs w) (S:PrSmall p):
  Calls Tryz.prog 9 #[.agg p.cells.toArray] w fun e w'=>∃q:Pr,e=.returned (.agg q.cells.toArray)∧stripP q=stripP p∧TnP w' w.heap.size w'.heap.size q∧Below w.heap.size w w':=by
 obtain⟨rd,rs,sd,ss,fd,fs,td,ts⟩:=p
 obtain⟨X,hX⟩:∃X,w.heap.size=X:=⟨_,rfl⟩
 obtain⟨o,ho⟩:∃o,(.cells (Pr.mk rd rs sd ss fd fs td ts).cells.toArray 27 (0,0):Obj)=o:=⟨_,rfl⟩
 obtain⟨w2,hw2⟩:∃w2,(w.alloc o).alloc (.cells zeroPr.toArray 27 (0,0))=w2:=⟨_,rfl⟩
 have hb1:Below w.heap.size w (w.alloc o):=(Below.refl _ _).alloc (Nat.le_refl _) _
 have hb2:Below w.heap.size w w2:=by rw[←hw2];exact hb1.alloc hb1.size _
 have s2:w2.heap.size=X+1+1:=by rw[←hw2,World.size_alloc,World.size_alloc,hX]
 have hs1:(w.alloc o).heap.size=X+1:=by rw[World.size_alloc,hX]
 have x1:(w.alloc o).heap[X]? =some o:=by rw[←hX];exact heap_alloc_new w _
 have x2:PrBox X ⟨rd,rs,sd,ss,fd,fs,td,ts⟩ w2:=by
  unfold PrBox
  rw[←hw2]
  exact (((Below.refl (w.alloc o).heap.size (w.alloc o)).alloc (Nat.le_refl _) _).block X (by omega)).trans (by rw[x1,ho])
 have y2:w2.heap[X+1]? =some (.cells zeroPr.toArray 27 (0,0)):=by rw[←hw2,←hs1];exact heap_alloc_new _ _
 have HF:Hid (∀W,KX X w2 W→PrIn W B ⟨rd,rs,sd,ss,fd,fs,td,ts⟩∧B≤W.heap.size∧Globs W∧Below w.heap.size w W∧X+1+1≤W.heap.size):=Lib.hid fun W hk=>by
  have hbw:Below w.heap.size w W:=hb2.trans (hk.below hb2.size (fun k h=>by rcases h with h|h<;>omega))
  exact⟨hI.keep (hbw.mono hB) (Nat.le_refl B),Nat.le_trans hB hbw.size,G.below hbw,hbw,by have:=hk.size;omega⟩
 have HY:Hid (∀W,Kept (fun k=>k=X) w2 W→W.heap[X+1]? =some (.cells zeroPr.toArray 27 (0,0))):=Lib.hid fun W hk=>(hk.block (X+1) (by omega) (by omega)).trans y2
 have HX2:=Lib.hid x2
 have HSm:=Lib.hid S
 have HN:Hid (w.heap.size=X∧(w.alloc o).alloc (.cells zeroPr.toArray 27 (0,0))=w2∧w2.heap.size=X+1+1):=Lib.hid ⟨hX,hw2,s2⟩
 have Ho:=Lib.hid ho
 have c2:w2.cell? ⟨X,0,none⟩=some (.slice rd.a rs.length rd.c):=cell_at x2 0
 rw[←hw2]at c2
 clear hb1 hb2 s2 hs1 x1 x2 y2 hI G hB S hw2
 go_enter Tryz.func9,Tryz.ntmps9
 go_wp2_with fail
 simp only[HN.out.2.1]
 clear c2
 have HKw2:Hid (Kept (fun k=>k=X) w2 w2):=Lib.hid (Kept.refl _ _)
 have HBw2:=HX2
 have ff:=HF.out _ (HKw2.out.mono fun k _ h=>Or.inl h)
 have CC:=twinRs_any B rd rs w2 ⟨ff.1.rlen,ff.1.rrow,ff.1.rsub⟩ ff.2.1 ff.2.2.1 (by have h:=HSm.out.heads;dsimp only at h;omega) HSm.out.recs
 with_reducible refine CC.mono ?_
 clear CC ff
 rintro e w3 ⟨rd',rs',rfl,hl,hs,hT,hb⟩
 obtain⟨w4,hw⟩:∃w4,w3.setCell ⟨X,0,none⟩ (.slice rd'.a rs'.length rd'.c)=w4:=⟨_,rfl⟩
 have B1:=HBw2.out.keep hb
 have B2:PrBox X ⟨rd',rs',sd,ss,fd,fs,td,ts⟩ w4:=by
  have h:=row_set B1 0 (.slice rd'.a rs'.length rd'.c)
  rw[hw]at h
  unfold PrBox
  rw[h]
  rfl
 have cc:=cell_at B1 0
 have ff:=frz_at B1 0
 have cn:=cell_at B2 1
 simp only[sl7,Pr.cells,sl8,sl9]at cc cn
 rw[←hw]at cn
 have kb:KX X w2 w3:=Kept.of_below hb
 have kc:KX X w3 w4:=by rw[←hw];exact Kept.setCell (S:=fun k=>k=X∨k=X+1) (Kept.refl _ _) (p:=⟨X,0,none⟩) (Or.inl (Or.inl rfl)) _
 have k2:Kept (fun k=>k=X) w2 w4:=by rw[←hw];exact Kept.setCell (S:=fun k=>k=X) (HKw2.out.trans (Kept.of_below hb)) (p:=⟨X,0,none⟩) (Or.inl rfl) _
 have HT0:=Lib.hid (And.intro hs hT)
 have HBw4:=Lib.hid B2
 have HKw4:=Lib.hid k2
 have HJ0:=Lib.hid kc
 have HL0:=Lib.hid (kb.trans kc)
 have HW0:=Lib.hid hw
 clear hb B1 B2 kb kc k2 hw
 clear hl hs hT
 go_wp2_with fail
 simp only[HW0.out]
 clear cc ff cn
 have ff:=HF.out _ (HKw4.out.mono fun k _ h=>Or.inl h)
 have CC:=twinFls_any sd ss B w4 ff.1.ss ff.2.1 (by have h:=HSm.out.heads;dsimp only at h;omega) ff.2.2.1
 with_reducible refine CC.mono ?_
 clear CC ff
 rintro e w5 ⟨sd',rfl,hT,hb⟩
 obtain⟨w6,hw⟩:∃w6,w5.setCell ⟨X,1,none⟩ (.slice sd'.a ss.length sd'.c)=w6:=⟨_,rfl⟩
 have B1:=HBw4.out.keep hb
 have B2:PrBox X ⟨rd',rs',sd',ss,fd,fs,td,ts⟩ w6:=by
  have h:=row_set B1 1 (.slice sd'.a ss.length sd'.c)
  rw[hw]at h
  unfold PrBox
  rw[h]
  rfl
 have cc:=cell_at B1 1
 have ff:=frz_at B1 1
 have cn:=cell_at B2 2
 simp only[sl7,Pr.cells,sl8,sl9]at cc cn
 rw[←hw]at cn
 have kb:KX X w4 w5:=Kept.of_below hb
 have kc:KX X w5 w6:=by rw[←hw];exact Kept.setCell (S:=fun k=>k=X∨k=X+1) (Kept.refl _ _) (p:=⟨X,1,none⟩) (Or.inl (Or.inl rfl)) _
 have k2:Kept (fun k=>k=X) w2 w6:=by rw[←hw];exact Kept.setCell (S:=fun k=>k=X) (HKw4.out.trans (Kept.of_below hb)) (p:=⟨X,1,none⟩) (Or.inl rfl) _
 have HT1:=Lib.hid hT
 have HBw6:=Lib.hid B2
 have HKw6:=Lib.hid k2
 have HJ1:=Lib.hid kc
 have HL1:=Lib.hid (kb.trans kc)
 have HW1:=Lib.hid hw
 clear hb B1 B2 kb kc k2 hw
 clear hT
 go_wp2_with fail
 simp only[HW1.out]
 clear cc ff cn
 have ff:=HF.out _ (HKw6.out.mono fun k _ h=>Or.inl h)
 have CC:=twinUs_any B fd fs w6 ⟨ff.1.flen,ff.1.frow,ff.1.fsub⟩ ff.2.1 ff.2.2.1 (by have h:=HSm.out.heads;dsimp only at h;omega) HSm.out.funs
 with_reducible refine CC.mono ?_
 clear CC ff
 rintro e w7 ⟨fd',fs',rfl,hl,hs,hT,hb⟩
 obtain⟨w8,hw⟩:∃w8,w7.setCell ⟨X,2,none⟩ (.slice fd'.a fs'.length fd'.c)=w8:=⟨_,rfl⟩
 have B1:=HBw6.out.keep hb
 have B2:PrBox X ⟨rd',rs',sd',ss,fd',fs',td,ts⟩ w8:=by
  have h:=row_set B1 2 (.slice fd'.a fs'.length fd'.c)
  rw[hw]at h
  unfold PrBox
  rw[h]
  rfl
 have cc:=cell_at B1 2
 have ff:=frz_at B1 2
 have cn:=cell_at B2 3
 simp only[sl7,Pr.cells,sl8,sl9]at cc cn
 rw[←hw]at cn
 have kb:KX X w6 w7:=Kept.of_below hb
 have kc:KX X w7 w8:=by rw[←hw];exact Kept.setCell (S:=fun k=>k=X∨k=X+1) (Kept.refl _ _) (p:=⟨X,2,none⟩) (Or.inl (Or.inl rfl)) _
 have k2:Kept (fun k=>k=X) w2 w8:=by rw[←hw];exact Kept.setCell (S:=fun k=>k=X) (HKw6.out.trans (Kept.of_below hb)) (p:=⟨X,2,none⟩) (Or.inl rfl) _
 have HT2:=Lib.hid (And.intro hs hT)
 have HBw8:=Lib.hid B2
 have HKw8:=Lib.hid k2
 have HJ2:=Lib.hid kc
 have HL2:=Lib.hid (kb.trans kc)
 have HW2:=Lib.hid hw
 clear hb B1 B2 kb kc k2 hw
 clear hl hs hT
 go_wp2_with fail
 simp only[HW2.out]
 clear cc ff cn
 have ff:=HF.out _ (HKw8.out.mono fun k _ h=>Or.inl h)
 have CC:=twinTs_any B td ts w8 ⟨ff.1.tlen,ff.1.trow,ff.1.tsub⟩ ff.2.1 ff.2.2.1 (by have h:=HSm.out.heads;dsimp only at h;omega) HSm.out.thrs
 with_reducible refine CC.mono ?_
 clear CC ff
 rintro e w9 ⟨td',ts',rfl,hl,hs,hT,hb⟩
 obtain⟨wA,hw⟩:∃wA,w9.setCell ⟨X,3,none⟩ (.slice td'.a ts'.length td'.c)=wA:=⟨_,rfl⟩
 have B1:=HBw8.out.keep hb
 have B2:PrBox X ⟨rd',rs',sd',ss,fd',fs',td',ts'⟩ wA:=by
  have h:=row_set B1 3 (.slice td'.a ts'.length td'.c)
  rw[hw]at h
  unfold PrBox
  rw[h]
  rfl
 have cc:=cell_at B1 3
 have ff:=frz_at B1 3
 have cn:=cell_at B2 3
 simp only[sl7,Pr.cells,sl8,sl9]at cc cn
 rw[←hw]at cn
 have kb:KX X w8 w9:=Kept.of_below hb
 have kc:KX X w9 wA:=by rw[←hw];exact Kept.setCell (S:=fun k=>k=X∨k=X+1) (Kept.refl _ _) (p:=⟨X,3,none⟩) (Or.inl (Or.inl rfl)) _
 have k2:Kept (fun k=>k=X) w2 wA:=by rw[←hw];exact Kept.setCell (S:=fun k=>k=X) (HKw8.out.trans (Kept.of_below hb)) (p:=⟨X,3,none⟩) (Or.inl rfl) _
 have HT3:=Lib.hid (And.intro hs hT)
 have HBwA:=Lib.hid B2
 have HKwA:=Lib.hid k2
 have HJ3:=Lib.hid kc
 have HL3:=Lib.hid (kb.trans kc)
 have HW3:=Lib.hid hw
 clear hb B1 B2 kb kc k2 hw
 obtain⟨q,hq⟩:∃q:Pr,q=⟨rd',rs',sd',ss,fd',fs',td',ts'⟩:=⟨_,rfl⟩
 have BA:PrBox X q wA:=by rw[hq];exact HBwA.out
 have hzA:=row_cells BA
 have htA:=there_row (vs:=zeroPr) (HY.out _ HKwA.out) 0 4 (Nat.le_refl 4)
 obtain⟨wB,hwB⟩:∃wB,wA.setCells (X+1) 0 q.cells=wB:=⟨_,rfl⟩
 have hrg:wB.rangeAt (X+1) 0 q.cells:=by rw[←hwB];exact World.rangeAt_setCells_same _ _ _ _ htA
 have hres:(loadVar 27 ⟨X+1,0,none⟩).run Tryz.prog wB=.ok (.agg q.cells.toArray) wB:=run_loadVar_mid _ (X+1) 0 27 q.cells _ hrg Tryz.underlying27 rfl (prSzL _)
 have kAB:KX X wA wB:=by rw[←hwB];exact setCells_kept (S:=fun k=>k=X∨k=X+1) (Or.inr rfl) _ _ _ (Kept.refl _ _)
 have HZ:Hid (stripP q=stripP ⟨rd,rs,sd,ss,fd,fs,td,ts⟩∧TnP wB w.heap.size wB.heap.size q∧Below w.heap.size w wB):=Lib.hid (by
  have hX:=HN.out.1
  have h3:w2.heap.size=X+1+1:=HN.out.2.2
  have q4:w2.heap.size≤w4.heap.size:=HKw4.out.size
  have q6:w2.heap.size≤w6.heap.size:=HKw6.out.size
  have q8:w2.heap.size≤w8.heap.size:=HKw8.out.size
  have k9:KX X w9 wB:=HJ3.out.trans kAB
  have k8:KX X w8 wB:=HL3.out.trans kAB
  have k7:KX X w7 wB:=HJ2.out.trans k8
  have k6:KX X w6 wB:=HL2.out.trans k8
  have k5:KX X w5 wB:=HJ1.out.trans k6
  have k4:KX X w4 wB:=HL1.out.trans k6
  have k3:KX X w3 wB:=HJ0.out.trans k4
  have k2:KX X w2 wB:=HL0.out.trans k4
  have t0:=HT0.out.2.keep (fun b h1 h2=>k3.block b h2 (fun hh=>by rcases hh with hh|hh<;>omega)) (show w.heap.size≤w2.heap.size by omega) k3.size
  have t1:=HT1.out.keep (fun b h1 h2=>k5.block b h2 (fun hh=>by rcases hh with hh|hh<;>omega)) (show w.heap.size≤w4.heap.size by omega) k5.size
  have t2:=HT2.out.2.keep (fun b h1 h2=>k7.block b h2 (fun hh=>by rcases hh with hh|hh<;>omega)) (show w.heap.size≤w6.heap.size by omega) k7.size
  have t3:=HT3.out.2.keep (fun b h1 h2=>k9.block b h2 (fun hh=>by rcases hh with hh|hh<;>omega)) (show w.heap.size≤w8.heap.size by omega) k9.size
  have hE:TnP wB w.heap.size wB.heap.size ⟨rd',rs',sd',ss,fd',fs',td',ts'⟩:=⟨t0,t1,t2,t3⟩
  rw[←hq]at hE
  refine⟨?_,hE,(HF.out _ k2).2.2.2.1⟩
  rw[hq]
  simp only[stripP,HT0.out.1,HT2.out.1,HT3.out.1])
 have HWB:=Lib.hid hwB
 clear hl hs hT BA hwB hrg kAB hq cn
 go_wp2_with (first|(refine wpList_load_list rfl 27 _ rfl _ rfl q.cells _ hzA Tryz.underlying27 rfl (prSzL _) ?_)|(refine wpList_store_mid rfl 27 _ _ rfl (X+1) 0 q.cells.toArray rfl rfl htA (prSz _) (prOn _) ?_;rw[show wA.setCells (X+1) 0 q.cells.toArray.toList=wB from HWB.out])|rw[HW3.out])
 refine bodyPost_ret (v:=.agg q.cells.toArray) (by simp[results,Tryz.results9,Act.eval,Sem.run_bind,Act.put,asAddr,hres]) rfl ?_
 exact⟨q,rfl,HZ.out⟩
end Go.Proofs.YtkklogikakcanaaGreatDoor
