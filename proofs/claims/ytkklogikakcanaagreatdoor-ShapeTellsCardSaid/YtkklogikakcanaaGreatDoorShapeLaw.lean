import Derived.Test.YtkklogikakcanaaGreatDoorShapeA
set_option linter.unusedVariables false
set_option linter.unusedSimpArgs false
open List renaming getElem?_toArray → sl7, getElem?_cons_zero → sl8, getElem?_cons_succ → sl9
namespace Go.Proofs.YtkklogikakcanaaGreatDoor
open Go Go.RowKit
abbrev ShR (X rb ro k:Nat) (p:Pr) (nm:List UInt8) (W:World):Prop:=W.cell? ⟨X,0,none⟩=some (.slice p.rd.a p.rs.length p.rd.c)∧W.cell? ⟨X,1,none⟩=some (.slice (some ⟨rb,ro,none⟩) p.ss.length p.sd.c)∧W.cell? ⟨X,2,none⟩=some (.slice p.fd.a p.fs.length p.fd.c)∧W.cell? ⟨X,3,none⟩=some (.slice p.td.a p.ts.length p.td.c)∧W.cell? ⟨rb,ro+k*4,none⟩=some (.string ⟨nm.toArray⟩)
theorem ShR.below {X rb ro k:Nat} {p:Pr} {nm:List UInt8} {W W':World} (h:ShR X rb ro k p nm W) (hb:Below W.heap.size W W'):ShR X rb ro k p nm W':=by
 obtain⟨h0,h1,h2,h3,h4⟩:=h
 exact⟨(hb.cell (World.block_lt_of_cell? _ _ h0)).trans h0,(hb.cell (World.block_lt_of_cell? _ _ h1)).trans h1,(hb.cell (World.block_lt_of_cell? _ _ h2)).trans h2,(hb.cell (World.block_lt_of_cell? _ _ h3)).trans h3,(hb.cell (World.block_lt_of_cell? _ _ h4)).trans h4⟩
abbrev OfQ (X Y rb ro k:Nat) (p:Pr) (rnm:List UInt8) (n c:Nat) (nm:List UInt8) (W:World):Prop:=(W.cell? ⟨X,0,none⟩=some (.slice p.rd.a p.rs.length p.rd.c)∧W.cell? ⟨X,1,none⟩=some (.slice p.sd.a p.ss.length p.sd.c)∧W.cell? ⟨X,2,none⟩=some (.slice p.fd.a p.fs.length p.fd.c)∧W.cell? ⟨X,3,none⟩=some (.slice p.td.a p.ts.length p.td.c))∧W.cell? ⟨Y,0,none⟩=some (.string ⟨rnm.toArray⟩)∧W.cell? ⟨Y,1,none⟩=some (.slice (some ⟨rb,ro,none⟩) n c)∧W.cell? ⟨rb,ro+k*4,none⟩=some (.string ⟨nm.toArray⟩)
theorem OfQ.below {X Y rb ro k:Nat} {p:Pr} {rnm:List UInt8} {n c:Nat} {nm:List UInt8} {W W':World} (h:OfQ X Y rb ro k p rnm n c nm W) (hb:Below W.heap.size W W'):OfQ X Y rb ro k p rnm n c nm W':=by
 obtain⟨⟨h0,h1,h2,h3⟩,h4,h5,h6⟩:=h
 exact⟨⟨(hb.cell (World.block_lt_of_cell? _ _ h0)).trans h0,(hb.cell (World.block_lt_of_cell? _ _ h1)).trans h1,(hb.cell (World.block_lt_of_cell? _ _ h2)).trans h2,(hb.cell (World.block_lt_of_cell? _ _ h3)).trans h3⟩,(hb.cell (World.block_lt_of_cell? _ _ h4)).trans h4,(hb.cell (World.block_lt_of_cell? _ _ h5)).trans h5,(hb.cell (World.block_lt_of_cell? _ _ h6)).trans h6⟩
abbrev r7:List UInt8:=[114]
abbrev prW (b1 b2 b3:Nat):Pr:=⟨⟨some ⟨b2,0,none⟩,1⟩,[⟨r7,⟨some ⟨b1,0,none⟩,2⟩,[⟨[120],numT⟩,⟨[121],numT⟩]⟩],⟨some ⟨b3,0,none⟩,1⟩,[⟨[97],numT⟩],hdN,[],hdN,[]⟩
theorem prW_ok (b1 b2 b3:Nat):typesCheck (prW b1 b2 b3)=(0,0):=by
 have n1:nameB [114]=true:=by decide
 have n2:nameB [120]=true:=by decide
 have n3:nameB [121]=true:=by decide
 have n4:nameB [97]=true:=by decide
 simp[typesCheck,faultOf,chkPr,chkRes,chkFls,chkShs,chkFus,chkThs,Chk.bind,tyForm,numT,n1,n2,n3,n4,scFault,scPr,scHeads,scRes,scFds,scShs,scFus,scThs,Sc.bind,knownT]
theorem prW_words (b1 b2 b3:Nat):wordsS (prW b1 b2 b3)=(1,0):=by unfold wordsS;rw[prW_ok];rfl
theorem prW_size (b1 b2 b3:Nat):sizeS (prW b1 b2 b3) ⟨2,r7,0⟩=(2,0):=size_at (p:=prW b1 b2 b3) (by rw[prW_ok]) (i:=0) (r:=⟨r7,⟨some ⟨b1,0,none⟩,2⟩,[⟨[120],numT⟩,⟨[121],numT⟩]⟩) rfl
theorem prW_off (b1 b2 b3:Nat):offsetS (prW b1 b2 b3) r7 [121]=(1,0):=offset_at (p:=prW b1 b2 b3) (by rw[prW_ok]) (i:=0) (k:=1) (r:=⟨r7,⟨some ⟨b1,0,none⟩,2⟩,[⟨[120],numT⟩,⟨[121],numT⟩]⟩) (f:=⟨[121],numT⟩) rfl rfl
theorem prW_shared (b1 b2 b3:Nat):sharedS (prW b1 b2 b3) r7=(0,9):=by unfold sharedS;rw[prW_ok];rfl
theorem five_allocs (w:World) (o1 o2 o3 o4 o5:Obj):Below w.heap.size w (((((w.alloc o1).alloc o2).alloc o3).alloc o4).alloc o5)∧(((((w.alloc o1).alloc o2).alloc o3).alloc o4).alloc o5).heap[w.heap.size+1]? =some o2∧
  (((((w.alloc o1).alloc o2).alloc o3).alloc o4).alloc o5).heap[w.heap.size+1+1]? =some o3∧(((((w.alloc o1).alloc o2).alloc o3).alloc o4).alloc o5).heap[w.heap.size+1+1+1]? =some o4∧(((((w.alloc o1).alloc o2).alloc o3).alloc o4).alloc o5).heap[w.heap.size+1+1+1+1]? =some o5:=by
 obtain⟨h0,h1,h2,h3⟩:=four_allocs w o1 o2 o3 o4
 obtain⟨w4,hw4⟩:∃w4,(((w.alloc o1).alloc o2).alloc o3).alloc o4=w4:=⟨_,rfl⟩
 have s4:w4.heap.size=w.heap.size+1+1+1+1:=by rw[←hw4];simp[World.size_alloc]
 rw[hw4]at h0 h1 h2 h3 ⊢
 have hb:Below w4.heap.size w4 (w4.alloc o5):=(Below.refl _ _).alloc (Nat.le_refl _) _
 exact⟨h0.trans (hb.mono h0.size),(hb.block _ (blk_lt h1)).trans h1,(hb.block _ (blk_lt h2)).trans h2,(hb.block _ (blk_lt h3)).trans h3,by rw[←s4];exact heap_alloc_new w4 _⟩
theorem numT_ok:numT.Ok:=⟨by unfold u8ok numT;decide,by simp[lenOk,numT],by unfold i64ok numT;decide⟩
theorem prW_in {w:World} {b1 b2 b3:Nat} (h1:w.heap[b1]? =some (.cells #[.string ⟨#[120]⟩,.int .u8 1,.string ⟨#[]⟩,.int .i64 0,.string ⟨#[121]⟩,.int .u8 1,.string ⟨#[]⟩,.int .i64 0] 93 (0,0)))
  (h2:w.heap[b2]? =some (.cells #[.string ⟨#[114]⟩,.slice (some ⟨b1,0,none⟩) 2 2] 58 (0,0))) (h3:w.heap[b3]? =some (.cells #[.string ⟨#[97]⟩,.int .u8 1,.string ⟨#[]⟩,.int .i64 0] 93 (0,0))):PrIn w w.heap.size (prW b1 b2 b3) where
 rlen:=by simp[lenOk]
 rrow:=fun _=>⟨b2,0,rfl,blk_lt h2,fun i y hy=>by
  match i,hy with
  |0,hy=>cases hy;exact⟨cell_at h2 0,cell_at h2 1⟩
  |n+1,hy=>simp at hy⟩
 rsub:=fun r hr=>by
  rw[List.mem_singleton]at hr
  subst hr
  refine⟨by simp[lenOk],by simp[lenOk],fun _=>⟨b1,0,rfl,blk_lt h1,fun i y hy=>?_⟩,fun f hf=>?_⟩
  ·match i,hy with
   |0,hy=>cases hy;exact⟨cell_at h1 0,cell_at h1 1,cell_at h1 2,cell_at h1 3⟩
   |1,hy=>cases hy;exact⟨cell_at h1 4,cell_at h1 5,cell_at h1 6,cell_at h1 7⟩
   |n+2,hy=>simp at hy
  ·rcases List.mem_cons.1 hf with rfl|hf
   ·exact⟨by simp[lenOk],numT_ok⟩
   ·rw[List.mem_singleton]at hf;subst hf;exact⟨by simp[lenOk],numT_ok⟩
 ss:=⟨by simp[lenOk],fun _=>⟨b3,0,rfl,blk_lt h3,fun i y hy=>by
  match i,hy with
  |0,hy=>cases hy;exact⟨cell_at h3 0,cell_at h3 1,cell_at h3 2,cell_at h3 3⟩
  |n+1,hy=>simp at hy⟩,fun f hf=>by rw[List.mem_singleton]at hf;subst hf;exact⟨by simp[lenOk],numT_ok⟩⟩
 flen:=by simp[lenOk]
 frow:=fun h=>absurd rfl h
 fsub:=fun r hr=>by simp at hr
 tlen:=by simp[lenOk]
 trow:=fun h=>absurd rfl h
 tsub:=fun r hr=>by simp at hr
set_option maxHeartbeats 8000000 in
set_option maxRecDepth 100000 in
theorem alive07_any (w:World) (G:TyG w.heap.size w):
  Calls Tryz.prog 24 #[] w fun e w'=>e=.returned (.bool true)∧Below w.heap.size w w':=by
 have HG:Hid (∀W,Below w.heap.size w W→TyG W.heap.size W):=Lib.hid fun W hb=>(G.below hb).1
 clear G
 go_enter Tryz.func24,Tryz.ntmps24
 go_wp2_with fail
 obtain⟨w5,hw5⟩:∃w5,((((w.alloc (.cells #[.int .u8 1,.string ⟨#[]⟩,.int .i64 0] 39 (0,0))).alloc (.cells #[.string ⟨#[120]⟩,.int .u8 1,.string ⟨#[]⟩,.int .i64 0,.string ⟨#[121]⟩,.int .u8 1,.string ⟨#[]⟩,.int .i64 0] 93 (0,0))).alloc
  (.cells #[.string ⟨#[114]⟩,.slice (some ⟨w.heap.size+1,0,none⟩) 2 2] 58 (0,0))).alloc (.cells #[.string ⟨#[97]⟩,.int .u8 1,.string ⟨#[]⟩,.int .i64 0] 93 (0,0))).alloc
  (.cells #[.slice (some ⟨w.heap.size+1+1,0,none⟩) 1 1,.slice (some ⟨w.heap.size+1+1+1,0,none⟩) 1 1,.slice none 0 0,.slice none 0 0] 27 (0,0))=w5:=⟨_,rfl⟩
 have F:=five_allocs w (.cells #[.int .u8 1,.string ⟨#[]⟩,.int .i64 0] 39 (0,0)) (.cells #[.string ⟨#[120]⟩,.int .u8 1,.string ⟨#[]⟩,.int .i64 0,.string ⟨#[121]⟩,.int .u8 1,.string ⟨#[]⟩,.int .i64 0] 93 (0,0))
  (.cells #[.string ⟨#[114]⟩,.slice (some ⟨w.heap.size+1,0,none⟩) 2 2] 58 (0,0)) (.cells #[.string ⟨#[97]⟩,.int .u8 1,.string ⟨#[]⟩,.int .i64 0] 93 (0,0))
  (.cells #[.slice (some ⟨w.heap.size+1+1,0,none⟩) 1 1,.slice (some ⟨w.heap.size+1+1+1,0,none⟩) 1 1,.slice none 0 0,.slice none 0 0] 27 (0,0))
 rw[hw5]at F
 obtain⟨hb,f2,f3,f4,f5⟩:=F
 have hIn:=prW_in f2 f3 f4
 have HI:Hid (∀W,Below w5.heap.size w5 W→PrIn W W.heap.size (prW (w.heap.size+1) (w.heap.size+1+1) (w.heap.size+1+1+1))∧TyG W.heap.size W∧Below w.heap.size w W):=Lib.hid fun W h=>⟨hIn.keep h h.size,HG.out _ (hb.trans (h.mono hb.size)),hb.trans (h.mono hb.size)⟩
 have HX1:Hid (∀W,Below w5.heap.size w5 W→W.heap[w.heap.size+1+1+1+1]? =some (.cells #[.slice (some ⟨w.heap.size+1+1,0,none⟩) 1 1,.slice (some ⟨w.heap.size+1+1+1,0,none⟩) 1 1,.slice none 0 0,.slice none 0 0] 27 (0,0))):=Lib.hid fun W h=>(h.block _ (blk_lt f5)).trans f5
 have HBw5:Hid (Below w5.heap.size w5 w5):=Lib.hid (Below.refl _ _)
 rw[hw5]
 clear hb f2 f3 f4 f5 hIn hw5
 have C1:=words_any _ w5 (HI.out _ HBw5.out).1 (HI.out _ HBw5.out).2.1
 rw[prW_words]at C1
 refine C1.mono ?_
 clear C1
 rintro e w6 ⟨rfl,hb⟩
 have HBw6:Hid (Below w5.heap.size w5 w6):=Lib.hid hb
 clear hb
 have row:=HX1.out _ HBw6.out
 have q0:=cell_at row 0
 have q1:=cell_at row 1
 have q2:=cell_at row 2
 have q3:=cell_at row 3
 simp only[sl7,sl8,sl9]at q0 q1 q2 q3
 clear row
 go_wp2_with fail
 have C1:=size_any _ 2 r7 0 w6 (HI.out _ HBw6.out).1 (HI.out _ HBw6.out).2.1 (by simp[lenOk])
 rw[prW_size]at C1
 refine C1.mono ?_
 clear C1
 rintro e w7 ⟨rfl,hb⟩
 have HBw7:Hid (Below w5.heap.size w5 w7):=Lib.hid (HBw6.out.trans (hb.mono HBw6.out.size))
 clear hb q0 q1 q2 q3
 have row:=HX1.out _ HBw7.out
 have q0:=cell_at row 0
 have q1:=cell_at row 1
 have q2:=cell_at row 2
 have q3:=cell_at row 3
 simp only[sl7,sl8,sl9]at q0 q1 q2 q3
 clear row
 go_wp2_with fail
 have C1:=offset_any _ r7 [121] w7 (HI.out _ HBw7.out).1 (HI.out _ HBw7.out).2.1
 rw[prW_off]at C1
 refine C1.mono ?_
 clear C1
 rintro e w8 ⟨rfl,hb⟩
 have HBw8:Hid (Below w5.heap.size w5 w8):=Lib.hid (HBw7.out.trans (hb.mono HBw7.out.size))
 clear hb q0 q1 q2 q3
 have row:=HX1.out _ HBw8.out
 have q0:=cell_at row 0
 have q1:=cell_at row 1
 have q2:=cell_at row 2
 have q3:=cell_at row 3
 simp only[sl7,sl8,sl9]at q0 q1 q2 q3
 clear row
 go_wp2_with fail
 have C1:=shared_any _ r7 w8 (HI.out _ HBw8.out).1 (HI.out _ HBw8.out).2.1
 rw[prW_shared]at C1
 refine C1.mono ?_
 clear C1
 rintro e w9 ⟨rfl,hb⟩
 have HBw9:Hid (Below w5.heap.size w5 w9):=Lib.hid (HBw8.out.trans (hb.mono HBw8.out.size))
 clear hb q0 q1 q2 q3
 go_wp2_with fail
 go_ret
 exact⟨rfl,(HI.out _ HBw9.out).2.2⟩
end Go.Proofs.YtkklogikakcanaaGreatDoor
