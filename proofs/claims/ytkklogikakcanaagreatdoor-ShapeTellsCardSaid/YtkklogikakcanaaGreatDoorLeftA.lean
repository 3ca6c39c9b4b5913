import Derived.Test.YtkklogikakcanaaGreatDoorTwC
set_option linter.unusedVariables false
set_option linter.unusedSimpArgs false
open List renaming getElem_toArray → sl1, getElem_cons_zero → sl2, getElem_cons_succ → sl3, setIfInBounds_toArray → sl4, set_cons_zero → sl5, set_cons_succ → sl6, getElem?_toArray → sl7, getElem?_cons_zero → sl8, getElem?_cons_succ → sl9
namespace Go.Proofs.YtkklogikakcanaaGreatDoor
open Go Go.RowKit
theorem qabpw_4 {P:Prop} (h:P:=by
 rw[←hw2]
 exact (((Below.refl (w.alloc o).heap.size (w.alloc o)).alloc (Nat.le_refl _) o2).block X (by omega)).trans xx1):P:=h
theorem qabpw_3 {P:Prop} (h:P:=by
 rintro e w2 ⟨rfl,hb⟩
 have HB2:Hid (Below w.heap.size w w2):=Lib.hid (HB1.out.trans (hb.mono HB1.out.size))
 clear hb
 go_wp2_with fail
 rw[rounds_succ]
 go_wp2_with fail
 go_ret
 exact⟨rfl,HB2.out⟩):P:=h
theorem qabpw_2 {P:Prop} (h:P:=by
 refine hK _ _ ?_ (fun hHeld=>?_)
 ·((try dsimp only);(exact HS2.out))
 clear hK K
 try simp only[sl1,sl2,sl3,Act.put,sl4,sl5,sl6]
 refine wpAnyL_last (j:=9) (o:=_) (by kernel_rfl) rfl (by rfl) (by kernel_rfl) (fun K hK=>?_)
 go_simp
 (refine hK _ _ ?_;clear hK K)
 try simp only[sl1,sl2,sl3,Act.put,sl4,sl5,sl6]
 clear HS HS2 C
 go_wp2_with fail
 go_roundw
 case rel=>exact⟨j+1,by go_num,by omega,HB2⟩
 case measure=>simp[intOf];omega):P:=h
theorem qabpw_1 {P:Prop} (h:P:=by
 refine hK _ _ ?_ (fun hHeld=>?_)
 ·((try dsimp only);(first|exact HS2.out|exact HS.out))
 clear hK K
 try simp only[sl1,sl2,sl3,Act.put,sl4,sl5,sl6]
 refine wpAnyL_step (j:=4) (o:=_) (by kernel_rfl) rfl (fun K hK=>?_)
 go_simp
 refine hK _ _ ?_ (fun hHeld=>?_)
 ·((try dsimp only);(first|exact HS2.out|exact HS.out))
 clear hK K
 try simp only[sl1,sl2,sl3,Act.put,sl4,sl5,sl6]
 refine wpAnyL_step (j:=5) (o:=_) (by kernel_rfl) rfl (fun K hK=>?_)
 go_simp
 refine hK _ _ ?_ (fun hHeld=>?_)
 ·((try dsimp only);(first|exact HS2.out|exact HS.out))
 clear hK K
 try simp only[sl1,sl2,sl3,Act.put,sl4,sl5,sl6]
 refine wpAnyL_step (j:=6) (o:=_) (by kernel_rfl) rfl (fun K hK=>?_)
 go_simp
 refine hK _ _ ?_ (fun hHeld=>?_)
 ·((try dsimp only);(first|exact HS2.out|exact HS.out))
 clear hK K
 try simp only[sl1,sl2,sl3,Act.put,sl4,sl5,sl6]
 refine wpAnyL_step (j:=7) (o:=_) (by kernel_rfl) rfl (fun K hK=>?_)
 go_simp
 refine hK _ _ ?_ (fun hHeld=>?_)
 ·((try dsimp only);(first|exact HS2.out|exact HS.out))
 clear hK K
 try simp only[sl1,sl2,sl3,Act.put,sl4,sl5,sl6]
 refine wpAnyL_step (j:=8) (o:=_) (by kernel_rfl) rfl (fun K hK=>?_)
 go_simp
 refine hK _ _ ?_ (fun hHeld=>?_)
 ·((try dsimp only);(first|exact HS2.out|exact HS.out))
 clear hK K
 try simp only[sl1,sl2,sl3,Act.put,sl4,sl5,sl6]
 refine wpAnyL_step (j:=9) (o:=_) (by kernel_rfl) rfl (fun K hK=>?_)
 go_simp
 refine hK _ _ ?_ (fun hHeld=>?_)
 ·((try dsimp only);(first|exact HS2.out|exact HS.out))
 clear hK K
 try simp only[sl1,sl2,sl3,Act.put,sl4,sl5,sl6]
 refine wpAnyL_step (j:=10) (o:=_) (by kernel_rfl) rfl (fun K hK=>?_)
 go_simp
 refine hK _ _ ?_ (fun hHeld=>?_)
 ·((try dsimp only);(first|exact HS2.out|exact HS.out))
 clear hK K
 try simp only[sl1,sl2,sl3,Act.put,sl4,sl5,sl6]
 refine wpAnyL_last (j:=11) (o:=_) (by kernel_rfl) rfl (by rfl) (by kernel_rfl) (fun K hK=>?_)
 go_simp
 (refine hK _ _ ?_;clear hK K)
 try simp only[sl1,sl2,sl3,Act.put,sl4,sl5,sl6]
 go_wp2_with fail
 go_ret
 exact⟨rfl,HB2.out⟩):P:=h
section
variable {P:Program}
theorem exec_load_list {o:Oper} {ev:Operand→Value} {w:World} (ty:TypeId) (x:Operand) (ho:o.op=.load ty x)
  (p:Addr) (hx:ev x=.pointer (some p)) (vs:List Value) (d:TypeDesc) (hc:∀j v,vs[j]? =some v→w.cell? (p.add j)=some v)
  (hu:P.underlying ty=some d) (hd:(match d with|.struct _|.array _ _=>true|_=>false)=true) (hi:(P.info? ty).map (·.size)=some vs.length):
  (execOp ev o).run P w=.ok (.value (.agg vs.toArray)) w:=by
 unfold execOp
 simp only[ho,hx,Instr.loadAt,Instr.sureAddr,Sem.run_bind,Sem.run_pure,Result.andThen_ok,run_loadVar_list w p ty vs d hc hu hd hi]
end
theorem below_eq {w w':World} (h:Below w.heap.size w w'):∀b,0≤b→b<w.heap.size→w'.heap[b]? =w.heap[b]? :=fun b _ hb=>h.block b hb
set_option maxHeartbeats 1000000 in
theorem isField_any (n:Nat) (h:n≤100000000000) (w:World) (G:Globs w):
  Calls Tryz.prog 91 #[.agg (markF n).cells.toArray,.int .i64 n] w fun e w'=>e=.returned (.bool true)∧Below w.heap.size w w':=by
 obtain⟨nm,hnm⟩:∃nm,word n=nm:=⟨_,rfl⟩
 obtain⟨X,hX⟩:∃X,w.heap.size=X:=⟨_,rfl⟩
 obtain⟨w1,hw1⟩:∃w1,w.alloc (.cells #[.string ⟨nm.toArray⟩,.int .u8 0,.string ⟨#[]⟩,.int .i64 0] 93 (0,0))=w1:=⟨_,rfl⟩
 have hb1:Below w.heap.size w w1:=by rw[←hw1];exact (Below.refl _ _).alloc (Nat.le_refl _) _
 have x1:w1.heap[X]? =some (.cells #[.string ⟨nm.toArray⟩,.int .u8 0,.string ⟨#[]⟩,.int .i64 0] 93 (0,0)):=by rw[←hw1,←hX];exact heap_alloc_new w _
 have C:=Lib.hid (markF_any n h w1.drew (G.below hb1.drew))
 rw[show (markF n).cells=[.string ⟨nm.toArray⟩,.int .u8 0,.string ⟨#[]⟩,.int .i64 0] by rw[←hnm];rfl]at C ⊢
 have HS:Hid (w1.drew.cell? ⟨X,0,none⟩=some (.string ⟨nm.toArray⟩)∧w1.drew.cell? ⟨X,1,none⟩=some (.int .u8 0)∧w1.drew.cell? ⟨X,2,none⟩=some (.string ⟨#[]⟩)∧w1.drew.cell? ⟨X,3,none⟩=some (.int .i64 0)):=Lib.hid ⟨cell_at x1 0,cell_at x1 1,cell_at x1 2,cell_at x1 3⟩
 have HB1:=Lib.hid hb1
 have HN:=Lib.hid (And.intro hX hw1)
 clear hX hw1 hb1 x1 G h hnm
 go_enter Tryz.func91,Tryz.ntmps91
 go_wp2_with fail
 simp only[HN.out.1,HN.out.2]
 refine wp_region_L (l:=4) (S:=(fun W=>W.cell? ⟨X,0,none⟩=some (.string ⟨nm.toArray⟩)∧W.cell? ⟨X,1,none⟩=some (.int .u8 0)∧W.cell? ⟨X,2,none⟩=some (.string ⟨#[]⟩)∧W.cell? ⟨X,3,none⟩=some (.int .i64 0))) (by kernel_rfl) ?_ (fun hHeld=>?_)
 ·((try dsimp only);(exact HS.out))
 refine tk 0 ?_
 try simp only[sl1,sl2,sl3,Act.put,sl4,sl5,sl6]
 refine tk 1 ?_
 try simp only[sl1,sl2,sl3,Act.put,sl4,sl5,sl6]
 refine wpAnyL_step (j:=2) (o:=_) (by kernel_rfl) rfl (fun K hK=>?_)
 (go_simp;go_at_call 70;refine C.out.mono ?_;rintro e w2 ⟨rfl,hb⟩;have HB2:Hid (Below w.heap.size w w2):=Lib.hid (HB1.out.drew.trans (hb.mono HB1.out.size));have HS2:Hid (w2.cell? ⟨X,0,none⟩=some (.string ⟨nm.toArray⟩)∧w2.cell? ⟨X,1,none⟩=some (.int .u8 0)∧w2.cell? ⟨X,2,none⟩=some (.string ⟨#[]⟩)∧w2.cell? ⟨X,3,none⟩=some (.int .i64 0)):=Lib.hid (have h:=HS.out;have hl:X<w1.drew.heap.size:=World.block_lt_of_cell? _ _ h.1;⟨(hb.cell hl).trans h.1,(hb.cell hl).trans h.2.1,(hb.cell hl).trans h.2.2.1,(hb.cell hl).trans h.2.2.2⟩);clear hb)
 refine hK _ _ ?_ (fun hHeld=>?_)
 ·((try dsimp only);(exact HS2.out))
 clear hK K
 try simp only[sl1,sl2,sl3,Act.put,sl4,sl5,sl6]
 refine wpAnyL_step (j:=3) (o:=_) (by kernel_rfl) rfl (fun K hK=>?_)
 go_simp
 refine hK _ _ ?_ (fun hHeld=>?_)
 ·((try dsimp only);(exact HS2.out))
 clear hK K
 try simp only[sl1,sl2,sl3,Act.put,sl4,sl5,sl6]
 refine wpAnyL_last (j:=4) (o:=_) (by kernel_rfl) rfl (by rfl) (by kernel_rfl) (fun K hK=>?_)
 go_simp
 (refine hK _ _ ?_;clear hK K)
 try simp only[sl1,sl2,sl3,Act.put,sl4,sl5,sl6]
 go_wp2_with fail
 go_ret
 exact⟨rfl,HB2.out⟩
theorem FlAt.list {w:World} {b o:Nat} {f:Fl} (h:FlAt w b o f):∀j v,f.cells[j]? =some v→w.cell? ((⟨b,o,none⟩:Addr).add j)=some v:=fun j v hv=>by
 rw[addr_add,h.cells' j (by have:=(List.getElem?_eq_some_iff.1 hv).1;simpa [flCells_len] using this)];exact hv
abbrev TwoS (c1 c2:List Value) (a1 a2:Addr) (W:World):Prop:=(∀j v,c1[j]? =some v→W.cell? (a1.add j)=some v)∧(∀j v,c2[j]? =some v→W.cell? (a2.add j)=some v)
theorem TwoS.keep {c1 c2:List Value} {a1 a2:Addr} {w W:World} (h:TwoS c1 c2 a1 a2 w) (hb:Below w.heap.size w W):TwoS c1 c2 a1 a2 W:=
 ⟨fun j v hv=>(hb.cell (World.block_lt_of_cell? _ _ (h.1 j v hv))).trans (h.1 j v hv),fun j v hv=>(hb.cell (World.block_lt_of_cell? _ _ (h.2 j v hv))).trans (h.2 j v hv)⟩
abbrev FlS (b o rb ro:Nat) (nm:List UInt8) (tq:Int) (tn:List UInt8) (ti:Int) (W:World):Prop:=
 (W.cell? ⟨b,o,none⟩=some (.string ⟨nm.toArray⟩)∧W.cell? ⟨b,o+1,none⟩=some (.int .u8 tq)∧W.cell? ⟨b,o+2,none⟩=some (.string ⟨tn.toArray⟩)∧W.cell? ⟨b,o+3,none⟩=some (.int .i64 ti))∧
 W.cell? ⟨rb,ro,none⟩=some (.string ⟨nm.toArray⟩)∧W.cell? ⟨rb,ro+1,none⟩=some (.int .u8 tq)∧W.cell? ⟨rb,ro+2,none⟩=some (.string ⟨tn.toArray⟩)∧W.cell? ⟨rb,ro+3,none⟩=some (.int .i64 ti)
set_option maxHeartbeats 4000000 in
set_option maxRecDepth 100000 in
theorem sameFls_any (dt d:Hd) (l:List Fl) (w:World) (hT:TnFs w 0 w.heap.size dt l) (hI:FlsIn w w.heap.size d l):
  Calls Tryz.prog 92 #[.slice dt.a l.length dt.c,.slice d.a l.length d.c] w fun e w'=>e=.returned (.bool true)∧Below w.heap.size w w':=by
 have HT:Hid (∀W,Below w.heap.size w W→TnFs W 0 W.heap.size dt l):=Lib.hid fun W hb=>hT.keep (below_eq hb) (Nat.le_refl _) hb.size
 have HI:Hid (∀W,Below w.heap.size w W→FlsIn W W.heap.size d l):=Lib.hid fun W hb=>hI.keep hb hb.size
 have HB0:Hid (Below w.heap.size w w):=Lib.hid (Below.refl _ _)
 have hn:=hT.len
 obtain⟨n,hN⟩:∃n,l.length=n:=⟨_,rfl⟩
 have HN:=Lib.hid hN
 rw[hN]at hn ⊢
 have hnI:(n:Int)≤1000000:=by omega
 clear hT hI hN
 go_enter Tryz.func92,Tryz.ntmps92
 go_wp2_with fail
 go_loopw [13] (fun ii wr=>∃(j:Nat),ii=.int .i64 j∧j≤n∧Hid (Below w.heap.size w wr)) (fun ii _=>n - (intOf ii).toNat)
 case atStart=>exact⟨0,rfl,Nat.zero_le _,HB0⟩
 case round=>
  obtain⟨j,rfl,hj,hB⟩:=hrel
  clear HB0
  have p2:(0:Int)≤(j:Int):=Int.natCast_nonneg _
  by_cases hlt:j<n
  ·have hltl:j<l.length:=by rw[HN.out];exact hlt
   obtain⟨x,hx⟩:∃x,l[j]? =some x:=⟨_,List.getElem?_eq_getElem hltl⟩
   obtain⟨b,hda,-,-,hdc,hbr⟩:=(HT.out _ hB.out).row
   have hz1:=hbr j x (by rw[List.getElem?_append_left hltl];exact hx)
   obtain⟨rb,ro,hra,-,hrr⟩:=(HI.out _ hB.out).row (by intro h0;rw[h0]at hltl;simp at hltl)
   have hz2:=hrr j x hx
   obtain⟨nm,⟨tq,tn,ti⟩⟩:=x
   have HS:Hid (FlS b (j*4) rb (ro+j*4) nm tq tn ti wr.drew):=Lib.hid ⟨⟨hz1.c0,hz1.c1,hz1.c2,hz1.c3⟩,hz2.c0,hz2.c1,hz2.c2,hz2.c3⟩
   have p1:(j:Int)<(n:Int):=by omega
   have HBd:Hid (Below w.heap.size w wr.drew):=Lib.hid hB.out.drew
   clear hz1 hz2 hrr hbr hx hltl hlt hdc
   rw[hda,hra]
   go_wp2_with fail
   refine wp_region_L (l:=8) (S:=(FlS b (j*4) rb (ro+j*4) nm tq tn ti)) (by kernel_rfl) ?_ (fun hHeld=>?_)
   ·((try dsimp only);(exact HS.out))
   refine tk 0 ?_
   try simp only[sl1,sl2,sl3,Act.put,sl4,sl5,sl6]
   refine tk 1 ?_
   try simp only[sl1,sl2,sl3,Act.put,sl4,sl5,sl6]
   refine tk 2 ?_
   try simp only[sl1,sl2,sl3,Act.put,sl4,sl5,sl6]
   refine tk 4 ?_
   try simp only[sl1,sl2,sl3,Act.put,sl4,sl5,sl6]
   refine tk 5 ?_
   try simp only[sl1,sl2,sl3,Act.put,sl4,sl5,sl6]
   refine tk 6 ?_
   try simp only[sl1,sl2,sl3,Act.put,sl4,sl5,sl6]
   refine tk 3 ?_
   try simp only[sl1,sl2,sl3,Act.put,sl4,sl5,sl6]
   refine tk 7 ?_
   try simp only[sl1,sl2,sl3,Act.put,sl4,sl5,sl6]
   refine wpAnyL_last (j:=8) (o:=_) (by kernel_rfl) rfl (by rfl) (by kernel_rfl) (fun K hK=>?_)
   go_simp
   (refine hK _ _ ?_;clear hK K)
   try simp only[sl1,sl2,sl3,Act.put,sl4,sl5,sl6]
   go_wp2_with fail
   go_roundw
   case rel=>exact⟨j+1,by go_num,by omega,HBd⟩
   case measure=>simp[intOf];omega
  ·obtain rfl:j=n:=by omega
   go_wp2_with fail
   go_ret
   exact⟨rfl,hB.out⟩
theorem TnRow.got {α:Type} {At:World→Nat→Nat→α→Prop} {k:Nat} {mk:Nat→α} {w:World} {g B b c:Nat} {l:List α} (h:TnRow At k mk w g B ⟨some ⟨b,0,none⟩,c⟩ l):
  (∀i y,l[i]? =some y→At w b (i*k) y)∧At w b (l.length*k) (mk l.length)∧At w b ((l.length+1)*k) (mk (l.length+1)):=by
 obtain⟨b2,h1,-,-,-,h5⟩:=h
 obtain rfl:b=b2:=by injection h1 with h1;injection h1
 exact⟨fun i y hy=>h5 i y (by rw[List.getElem?_append_left (List.getElem?_eq_some_iff.1 hy).1];exact hy),h5 _ _ (by rw[List.getElem?_append_right (Nat.le_refl _)];simp),h5 _ _ (by rw[List.getElem?_append_right (by omega)];simp)⟩
set_option maxHeartbeats 4000000 in
set_option maxRecDepth 100000 in
theorem leftFls_any (dt d:Hd) (l:List Fl) (w:World) (hT:TnFs w 0 w.heap.size dt l) (hI:FlsIn w w.heap.size d l) (G:Globs w):
  Calls Tryz.prog 48 #[.slice dt.a l.length dt.c,.slice d.a l.length d.c] w fun e w'=>e=.returned (.bool true)∧Below w.heap.size w w':=by
 have HT:Hid (∀W,Below w.heap.size w W→TnFs W 0 W.heap.size dt l):=Lib.hid fun W hb=>hT.keep (below_eq hb) (Nat.le_refl _) hb.size
 have HI:Hid (∀W,Below w.heap.size w W→FlsIn W W.heap.size d l):=Lib.hid fun W hb=>hI.keep hb hb.size
 have HGl:Hid (∀W,Below w.heap.size w W→Globs W):=Lib.hid fun W hb=>G.below hb
 have HCs:Hid (∀W,Below w.heap.size w W→Calls Tryz.prog 92 #[.slice dt.a l.length dt.c,.slice d.a l.length d.c] W fun e w'=>e=.returned (.bool true)∧Below W.heap.size W w'):=Lib.hid fun W hb=>sameFls_any dt d l W (HT.out _ hb) (HI.out _ hb)
 have HB0:Hid (Below w.heap.size w w):=Lib.hid (Below.refl _ _)
 have hn:=hT.len
 obtain⟨b,hda,-,-,hdc,-⟩:=hT.row
 obtain⟨A,c⟩:=dt
 dsimp only at hda hdc
 subst hda hdc
 obtain⟨n,hN⟩:∃n,l.length=n:=⟨_,rfl⟩
 have HLt:=Lib.hid hN
 rw[hN]at hn HCs ⊢
 have hnI:(n:Int)≤1000000:=by omega
 clear hT hI hN G
 go_enter Tryz.func48,Tryz.ntmps48
 go_wp2_with fail
 refine wp_loop_rounds 3 ?_
 rw[rounds_succ]
 have hz:=FlAt.list ((fun h=>(TnFs.row h).got.2.1) (HT.out _ HB0.out))
 rw[HLt.out]at hz
 go_wp2_with (refine wpList_load_list rfl 93 _ rfl _ rfl (markF n).cells _ hz Tryz.underlying93 rfl (flSzL _) ?_)
 clear hz
 refine (isField_any n (by omega) w (HGl.out _ HB0.out)).mono ?_
 rintro e w1 ⟨rfl,hb⟩
 have HB1:Hid (Below w.heap.size w w1):=Lib.hid (HB0.out.trans (hb.mono HB0.out.size))
 clear hb
 go_wp2_with fail
 rw[rounds_succ]
 have hz:=FlAt.list ((fun h=>(TnFs.row h).got.2.2) (HT.out _ HB1.out))
 rw[HLt.out]at hz
 go_wp2_with (refine wpList_load_list rfl 93 _ rfl _ rfl (markF (n+1)).cells _ hz Tryz.underlying93 rfl (flSzL _) ?_)
 clear hz
 refine (isField_any (n+1) (by omega) w1 (HGl.out _ HB1.out)).mono ?_
 rintro e w2 ⟨rfl,hb⟩
 have HB2:Hid (Below w.heap.size w w2):=Lib.hid (HB1.out.trans (hb.mono HB1.out.size))
 clear hb
 go_wp2_with fail
 rw[rounds_succ]
 go_wp2_with fail
 refine (HCs.out _ HB2.out).mono ?_
 rintro e w3 ⟨rfl,hb⟩
 have HB3:Hid (Below w.heap.size w w3):=Lib.hid (HB2.out.trans (hb.mono HB2.out.size))
 clear hb
 go_wp2_with fail
 go_ret
 exact⟨rfl,HB3.out⟩
set_option maxHeartbeats 1000000 in
theorem isExpr_any (n:Nat) (h:n≤100000000000) (w:World) (G:Globs w):
  Calls Tryz.prog 186 #[.agg (markE n).cells.toArray,.int .i64 n] w fun e w'=>e=.returned (.bool true)∧Below w.heap.size w w':=by
 have h1:IntKind.i64.wrap (-1000 - (n:Int))= -1000 - (n:Int):=by rw[IntKind.wrap_i64];omega
 have hb1:Below w.heap.size w (w.alloc (.cells #[.int .u8 0,.int .i64 (-1000 - (n:Int)),.string ⟨#[]⟩,.int .u8 0,.string ⟨#[]⟩,.int .i64 0,.slice none 0 0] 70 (0,0))):=(Below.refl _ _).alloc (Nat.le_refl _) _
 have HB1:=Lib.hid hb1
 rw[show (markE n).cells=[.int .u8 0,.int .i64 (-1000 - (n:Int)),.string ⟨#[]⟩,.int .u8 0,.string ⟨#[]⟩,.int .i64 0,.slice none 0 0] from rfl]
 clear h G hb1
 go_enter Tryz.func186,Tryz.ntmps186
 go_wp2_with fail
 go_ret
 exact⟨rfl,HB1.out⟩
abbrev LeftX (t x:Ex):Prop:=∀w,TnE w 0 w.heap.size t→ExIn w w.heap.size x→Globs w→
 Calls Tryz.prog 166 #[.agg t.cells.toArray,.agg x.cells.toArray] w fun e w'=>e=.returned (.bool true)∧Below w.heap.size w w'
set_option maxHeartbeats 4000000 in
set_option maxRecDepth 100000 in
theorem leftXs_of (lt l:List Ex) (hl:lt.length=l.length) (hel:∀(i:Nat) t x,lt[i]? =some t→l[i]? =some x→LeftX t x) (dt d:Hd) (w:World) (hT:TnEs w 0 w.heap.size dt lt) (hI:ExsIn w w.heap.size d l) (G:Globs w):
  Calls Tryz.prog 179 #[.slice dt.a lt.length dt.c,.slice d.a l.length d.c] w fun e w'=>e=.returned (.bool true)∧Below w.heap.size w w':=by
 have HT:Hid (∀W,Below w.heap.size w W→TnEs W 0 W.heap.size dt lt):=Lib.hid fun W hb=>hT.keep (below_eq hb) (Nat.le_refl _) hb.size
 have HI:Hid (∀W,Below w.heap.size w W→ExsIn W W.heap.size d l):=Lib.hid fun W hb=>hI.keep hb hb.size
 have HGl:Hid (∀W,Below w.heap.size w W→Globs W):=Lib.hid fun W hb=>G.below hb
 have HB0:Hid (Below w.heap.size w w):=Lib.hid (Below.refl _ _)
 have hn:=hT.len
 obtain⟨b,hda,-,-,hdc,-⟩:=hT.row
 obtain⟨A,c⟩:=dt
 dsimp only at hda hdc
 subst hda hdc
 obtain⟨n,hN⟩:∃n,lt.length=n:=⟨_,rfl⟩
 have HLt:=Lib.hid hN
 have HLl:Hid (l.length=n):=Lib.hid (by rw[←hN,hl])
 rw[hN]at hn ⊢
 rw[HLl.out]
 have hnI:(n:Int)≤1000000:=by omega
 clear hT hI hN G hl
 go_enter Tryz.func179,Tryz.ntmps179
 go_wp2_with fail
 go_loopw [15] (fun ii wr=>∃(j:Nat),ii=.int .i64 j∧j≤n∧Hid (Below w.heap.size w wr)) (fun ii _=>n - (intOf ii).toNat)
 case atStart=>exact⟨0,rfl,Nat.zero_le _,HB0⟩
 case round=>
  obtain⟨j,rfl,hj,hB⟩:=hrel
  clear HB0
  have p2:(0:Int)≤(j:Int):=Int.natCast_nonneg _
  by_cases hlt:j<n
  ·obtain⟨t,ht⟩:∃t,lt[j]? =some t:=⟨_,List.getElem?_eq_getElem (by rw[HLt.out];exact hlt)⟩
   obtain⟨x,hx⟩:∃x,l[j]? =some x:=⟨_,List.getElem?_eq_getElem (by rw[HLl.out];exact hlt)⟩
   have hBd:Below w.heap.size w wr.drew:=hB.out.drew
   have hTr:=HT.out _ hBd
   have hIr:=HI.out _ hBd
   have hz1:=exAt_list (((fun h=>(TnEs.row h).got) hTr).1 j t ht)
   obtain⟨rb,ro,hra,-,hrr⟩:=hIr.row (by intro h0;have:=HLl.out;rw[h0]at this;simp at this;omega)
   have hz2:=exAt_list (hrr j x hx)
   have C:=Lib.hid (hel j t x ht hx wr.drew (hTr.sub t (List.mem_of_getElem? ht)) (hIr.sub x (List.mem_of_getElem? hx)) (HGl.out _ hBd))
   have HS:Hid (TwoS (Ex.cells t) (Ex.cells x) ⟨b,j*7,none⟩ ⟨rb,ro+j*7,none⟩ wr.drew):=Lib.hid ⟨hz1,hz2⟩
   have p1:(j:Int)<(n:Int):=by omega
   have HBd:=Lib.hid hBd
   clear hz1 hz2 hrr hx ht hlt hTr hIr hBd
   rw[hra]
   go_wp2_with fail
   refine wp_region_L (l:=9) (S:=(TwoS (Ex.cells t) (Ex.cells x) ⟨b,j*7,none⟩ ⟨rb,ro+j*7,none⟩)) (by kernel_rfl) ?_ (fun hHeld=>?_)
   ·((try dsimp only);(exact HS.out))
   refine tk 0 ?_
   try simp only[sl1,sl2,sl3,Act.put,sl4,sl5,sl6]
   refine tk 1 ?_
   try simp only[sl1,sl2,sl3,Act.put,sl4,sl5,sl6]
   refine tk 2 ?_
   try simp only[sl1,sl2,sl3,Act.put,sl4,sl5,sl6]
   refine tk 4 ?_
   try simp only[sl1,sl2,sl3,Act.put,sl4,sl5,sl6]
   refine tk 5 ?_
   try simp only[sl1,sl2,sl3,Act.put,sl4,sl5,sl6]
   refine tk 6 ?_
   try simp only[sl1,sl2,sl3,Act.put,sl4,sl5,sl6]
   refine tk 3 ?_ (h2:=by intro W hSw;refine Eq.trans (b:=Result.ok (Next.value (.agg (Ex.cells t).toArray)) W) ?_ ?_;rotate_left;with_reducible rfl;exact exec_load_list 70 _ rfl _ rfl (Ex.cells t) _ hSw.1 Tryz.underlying70 rfl (exSzL _))
   try simp only[sl1,sl2,sl3,Act.put,sl4,sl5,sl6]
   refine tk 7 ?_ (h2:=by intro W hSw;refine Eq.trans (b:=Result.ok (Next.value (.agg (Ex.cells x).toArray)) W) ?_ ?_;rotate_left;with_reducible rfl;exact exec_load_list 70 _ rfl _ rfl (Ex.cells x) _ hSw.2 Tryz.underlying70 rfl (exSzL _))
   try simp only[sl1,sl2,sl3,Act.put,sl4,sl5,sl6]
   refine wpAnyL_step (j:=8) (o:=_) (by kernel_rfl) rfl (fun K hK=>?_)
   (go_simp;go_at_call 166;refine C.out.mono ?_;rintro e w2 ⟨rfl,hb⟩;have HB2:Hid (Below w.heap.size w w2):=Lib.hid (HBd.out.trans (hb.mono HBd.out.size));have HS2:=Lib.hid (HS.out.keep hb);clear hb)
   exact qabpw_2
  ·obtain rfl:j=n:=by omega
   clear hlt
   go_wp2_with fail
   refine wp_loop_rounds 3 ?_
   rw[rounds_succ]
   have hz:=exAt_list ((fun h=>((fun h=>(TnEs.row h).got) h).2.1) (HT.out _ hB.out))
   rw[HLt.out]at hz
   go_wp2_with (refine wpList_load_list rfl 70 _ rfl _ rfl (markE j).cells _ hz Tryz.underlying70 rfl (exSzL _) ?_)
   clear hz
   refine (isExpr_any j (by omega) wr (HGl.out _ hB.out)).mono ?_
   rintro e w1 ⟨rfl,hb⟩
   have HB1:Hid (Below w.heap.size w w1):=Lib.hid (hB.out.trans (hb.mono hB.out.size))
   clear hb
   go_wp2_with fail
   rw[rounds_succ]
   have hz:=exAt_list ((fun h=>((fun h=>(TnEs.row h).got) h).2.2) (HT.out _ HB1.out))
   rw[HLt.out]at hz
   go_wp2_with (refine wpList_load_list rfl 70 _ rfl _ rfl (markE (j+1)).cells _ hz Tryz.underlying70 rfl (exSzL _) ?_)
   clear hz
   refine (isExpr_any (j+1) (by omega) w1 (HGl.out _ HB1.out)).mono ?_
   exact qabpw_3
abbrev LeftXs (lt l:List Ex):Prop:=∀(dt d:Hd) (w:World),TnEs w 0 w.heap.size dt lt→ExsIn w w.heap.size d l→Globs w→
 Calls Tryz.prog 179 #[.slice dt.a lt.length dt.c,.slice d.a l.length d.c] w fun e w'=>e=.returned (.bool true)∧Below w.heap.size w w'
theorem TnE.parts {w:World} {g B:Nat} {k n:Int} {nm:List UInt8} {t:Ty} {d:Hd} {args:List Ex} (h:TnE w g B (.mk k n nm t d args)):TnEs w g B d args:=by
 cases h with
 |mk hk hn hnm ht hl row sub=>exact⟨hl,row,sub⟩
set_option maxHeartbeats 4000000 in
set_option maxRecDepth 100000 in
theorem leftX_of (k n:Int) (nm:List UInt8) (t:Ty) (dt d:Hd) (lt l:List Ex) (hargs:LeftXs lt l):LeftX (.mk k n nm t dt lt) (.mk k n nm t d l):=by
 intro w hT hI G
 obtain⟨X,hX⟩:∃X,w.heap.size=X:=⟨_,rfl⟩
 obtain⟨o,ho⟩:∃o,(.cells (Ex.mk k n nm t dt lt).cells.toArray 70 (0,0):Obj)=o:=⟨_,rfl⟩
 obtain⟨o2,ho2⟩:∃o2,(.cells (Ex.mk k n nm t d l).cells.toArray 70 (0,0):Obj)=o2:=⟨_,rfl⟩
 obtain⟨w2,hw2⟩:∃w2,(w.alloc o).alloc o2=w2:=⟨_,rfl⟩
 have hb1:Below w.heap.size w (w.alloc o):=(Below.refl _ _).alloc (Nat.le_refl _) _
 have hb2:Below w.heap.size w w2:=by rw[←hw2];exact hb1.alloc hb1.size _
 have hs1:(w.alloc o).heap.size=X+1:=by rw[World.size_alloc,hX]
 have x1:(w.alloc o).heap[X]? =some o:=by rw[←hX];exact heap_alloc_new w _
 have x2:w2.heap[X]? =some o:=by
  rw[←hw2]
  exact (((Below.refl (w.alloc o).heap.size (w.alloc o)).alloc (Nat.le_refl _) o2).block X (by omega)).trans x1
 have y2:w2.heap[X+1]? =some o2:=by rw[←hw2,←hs1];exact heap_alloc_new _ _
 have C:=Lib.hid (hargs dt d w2 (hT.parts.keep (below_eq hb2) (Nat.le_refl _) hb2.size) (hI.keep hb2 hb2.size).args (G.below hb2))
 rw[←ho]at x2
 rw[←ho2]at y2
 have a0:=cell_at x2 0
 have a1:=cell_at x2 1
 have a2:=cell_at x2 2
 have a3:=cell_at x2 3
 have a4:=cell_at x2 4
 have a5:=cell_at x2 5
 have a6:=cell_at x2 6
 have b0:=cell_at y2 0
 have b1:=cell_at y2 1
 have b2:=cell_at y2 2
 have b3:=cell_at y2 3
 have b4:=cell_at y2 4
 have b5:=cell_at y2 5
 have b6:=cell_at y2 6
 simp only[sl7,Ex.cells,sl8,sl9]at a0 a1 a2 a3 a4 a5 a6 b0 b1 b2 b3 b4 b5 b6
 dsimp only[Ex.k,Ex.n,Ex.nm,Ex.t,Ex.d,Ex.args]at a0 a1 a2 a3 a4 a5 a6 b0 b1 b2 b3 b4 b5 b6
 rw[←hw2]at a0 a1 a2 a3 a4 a5 a6 b0 b1 b2 b3 b4 b5 b6
 have HN:Hid (w.heap.size=X∧(w.alloc o).alloc o2=w2):=Lib.hid ⟨hX,hw2⟩
 have HB2:=Lib.hid hb2
 clear hb1 hb2 x1 x2 y2 hI hT G hargs hw2
 go_enter Tryz.func166,Tryz.ntmps166
 go_wp2_with fail
 simp only[HN.out.2]
 clear a0 a1 a2 a3 a4 a5 a6 b0 b1 b2 b3 b4 b5 b6
 refine C.out.mono ?_
 rintro e w3 ⟨rfl,hb3⟩
 have HB3:Hid (Below w.heap.size w w3):=Lib.hid (HB2.out.trans (hb3.mono HB2.out.size))
 clear hb3
 go_wp2_with fail
 go_ret
 exact⟨rfl,HB3.out⟩
theorem leftX_any:∀(sz:Nat) (t x:Ex),exCount x≤sz→stripE t=stripE x→LeftX t x:=by
 intro sz
 induction sz using Nat.strongRecOn with
 |ind sz ih=>
  intro t x hsz hs
  obtain⟨k,n,nm,ty,dt,lt⟩:=t
  obtain⟨k',n',nm',ty',d,l⟩:=x
  rw[stripE,stripE]at hs
  injection hs with e1 e2 e3 e4 e5 e6
  subst e1 e2 e3 e4
  rw[stripEs_map,stripEs_map]at e6
  have hl:lt.length=l.length:=by have:=congrArg List.length e6;simpa using this
  refine leftX_of _ _ _ _ _ _ _ _ (fun dt d w hT hI G=>leftXs_of lt l hl (fun i t x ht hx=>?_) dt d w hT hI G)
  have hm:=exCounts_mem (List.mem_of_getElem? hx)
  rw[exCount]at hsz
  refine ih (exCount x) (by omega) t x (Nat.le_refl _) ?_
  have:=congrArg (fun l=>l[i]?) e6
  simpa [ht,hx] using this
set_option maxHeartbeats 4000000 in
set_option maxRecDepth 100000 in
theorem isStmt_any (n:Nat) (h:n≤100000000000) (w:World) (G:Globs w):
  Calls Tryz.prog 136 #[.agg (markS n).cells.toArray,.int .i64 n] w fun e w'=>e=.returned (.bool true)∧Below w.heap.size w w':=by
 obtain⟨nm,hnm⟩:∃nm,word n=nm:=⟨_,rfl⟩
 obtain⟨X,hX⟩:∃X,w.heap.size=X:=⟨_,rfl⟩
 obtain⟨cs,hcs⟩:∃cs:List Value,(markS n).cells=cs:=⟨_,rfl⟩
 obtain⟨w1,hw1⟩:∃w1,w.alloc (.cells cs.toArray 72 (0,0))=w1:=⟨_,rfl⟩
 have hb1:Below w.heap.size w w1:=by rw[←hw1];exact (Below.refl _ _).alloc (Nat.le_refl _) _
 have x1:w1.heap[X]? =some (.cells cs.toArray 72 (0,0)):=by rw[←hw1,←hX];exact heap_alloc_new w _
 have C:=Lib.hid (word_any n h w1.drew (G.below hb1.drew))
 rw[hnm]at C
 have HS:Hid (w1.drew.cell? ⟨X,1,none⟩=some (.string ⟨nm.toArray⟩)∧w1.drew.cell? ⟨X,19,none⟩=some (.slice none 0 0)):=Lib.hid (by
  have e1:=cell_at x1 1
  have e2:=cell_at x1 19
  rw[←hcs]at e1 e2
  rw[←hnm]
  exact⟨e1,e2⟩)
 have HB1:=Lib.hid hb1
 have HN:=Lib.hid (And.intro hX hw1)
 rw[hcs]
 clear hX hw1 hb1 x1 G h hnm hcs
 go_enter Tryz.func136,Tryz.ntmps136
 go_wp2_with fail
 simp only[HN.out.1,HN.out.2]
 refine wp_region_L (l:=11) (S:=(fun W=>W.cell? ⟨X,1,none⟩=some (.string ⟨nm.toArray⟩)∧W.cell? ⟨X,19,none⟩=some (.slice none 0 0))) (by kernel_rfl) ?_ (fun hHeld=>?_)
 ·((try dsimp only);(first|exact HS2.out|exact HS.out))
 refine tk 0 ?_
 try simp only[sl1,sl2,sl3,Act.put,sl4,sl5,sl6]
 refine tk 1 ?_
 try simp only[sl1,sl2,sl3,Act.put,sl4,sl5,sl6]
 refine tk 2 ?_
 try simp only[sl1,sl2,sl3,Act.put,sl4,sl5,sl6]
 refine wpAnyL_step (j:=3) (o:=_) (by kernel_rfl) rfl (fun K hK=>?_)
 (go_simp;go_at_call 108;refine C.out.mono ?_;rintro e w2 ⟨rfl,hb⟩;have HB2:Hid (Below w.heap.size w w2):=Lib.hid (HB1.out.drew.trans (hb.mono HB1.out.size));have HS2:Hid (w2.cell? ⟨X,1,none⟩=some (.string ⟨nm.toArray⟩)∧w2.cell? ⟨X,19,none⟩=some (.slice none 0 0)):=Lib.hid (have h:=HS.out;have hl:X<w1.drew.heap.size:=World.block_lt_of_cell? _ _ h.1;⟨(hb.cell hl).trans h.1,(hb.cell hl).trans h.2⟩);clear hb)
 exact qabpw_1
abbrev LeftS (t x:St):Prop:=∀w,TnS w 0 w.heap.size t→StIn w w.heap.size x→Globs w→
 Calls Tryz.prog 135 #[.agg t.cells.toArray,.agg x.cells.toArray] w fun e w'=>e=.returned (.bool true)∧Below w.heap.size w w'
abbrev LeftSs (lt l:List St):Prop:=∀(dt d:Hd) (w:World),TnSs w 0 w.heap.size dt lt→StsIn w w.heap.size d l→Globs w→
 Calls Tryz.prog 95 #[.slice dt.a lt.length dt.c,.slice d.a l.length d.c] w fun e w'=>e=.returned (.bool true)∧Below w.heap.size w w'
set_option maxHeartbeats 4000000 in
set_option maxRecDepth 100000 in
theorem leftSs_of (lt l:List St) (hl:lt.length=l.length) (hel:∀(i:Nat) t x,lt[i]? =some t→l[i]? =some x→LeftS t x) (dt d:Hd) (w:World) (hT:TnSs w 0 w.heap.size dt lt) (hI:StsIn w w.heap.size d l) (G:Globs w):
  Calls Tryz.prog 95 #[.slice dt.a lt.length dt.c,.slice d.a l.length d.c] w fun e w'=>e=.returned (.bool true)∧Below w.heap.size w w':=by
 have HT:Hid (∀W,Below w.heap.size w W→TnSs W 0 W.heap.size dt lt):=Lib.hid fun W hb=>hT.keep (below_eq hb) (Nat.le_refl _) hb.size
 have HI:Hid (∀W,Below w.heap.size w W→StsIn W W.heap.size d l):=Lib.hid fun W hb=>hI.keep hb hb.size
 have HGl:Hid (∀W,Below w.heap.size w W→Globs W):=Lib.hid fun W hb=>G.below hb
 have HB0:Hid (Below w.heap.size w w):=Lib.hid (Below.refl _ _)
 have hn:=hT.len
 obtain⟨b,hda,-,-,hdc,-⟩:=hT.row
 obtain⟨A,c⟩:=dt
 dsimp only at hda hdc
 subst hda hdc
 obtain⟨n,hN⟩:∃n,lt.length=n:=⟨_,rfl⟩
 have HLt:=Lib.hid hN
 have HLl:Hid (l.length=n):=Lib.hid (by rw[←hN,hl])
 rw[hN]at hn ⊢
 rw[HLl.out]
 have hnI:(n:Int)≤1000000:=by omega
 clear hT hI hN G hl
 go_enter Tryz.func95,Tryz.ntmps95
 go_wp2_with fail
 go_loopw [15] (fun ii wr=>∃(j:Nat),ii=.int .i64 j∧j≤n∧Hid (Below w.heap.size w wr)) (fun ii _=>n - (intOf ii).toNat)
 case atStart=>exact⟨0,rfl,Nat.zero_le _,HB0⟩
 case round=>
  obtain⟨j,rfl,hj,hB⟩:=hrel
  clear HB0
  have p2:(0:Int)≤(j:Int):=Int.natCast_nonneg _
  by_cases hlt:j<n
  ·obtain⟨t,ht⟩:∃t,lt[j]? =some t:=⟨_,List.getElem?_eq_getElem (by rw[HLt.out];exact hlt)⟩
   obtain⟨x,hx⟩:∃x,l[j]? =some x:=⟨_,List.getElem?_eq_getElem (by rw[HLl.out];exact hlt)⟩
   have hBd:Below w.heap.size w wr.drew:=hB.out.drew
   have hTr:=HT.out _ hBd
   have hIr:=HI.out _ hBd
   have hz1:=stAt_list (((fun h=>(TnSs.row h).got) hTr).1 j t ht)
   obtain⟨rb,ro,hra,-,hrr⟩:=hIr.row (by intro h0;have:=HLl.out;rw[h0]at this;simp at this;omega)
   have hz2:=stAt_list (hrr j x hx)
   have C:=Lib.hid (hel j t x ht hx wr.drew (hTr.sub t (List.mem_of_getElem? ht)) (hIr.sub x (List.mem_of_getElem? hx)) (HGl.out _ hBd))
   have HS:Hid (TwoS (St.cells t) (St.cells x) ⟨b,j*21,none⟩ ⟨rb,ro+j*21,none⟩ wr.drew):=Lib.hid ⟨hz1,hz2⟩
   have p1:(j:Int)<(n:Int):=by omega
   have HBd:=Lib.hid hBd
   clear hz1 hz2 hrr hx ht hlt hTr hIr hBd
   rw[hra]
   go_wp2_with fail
   refine wp_region_L (l:=9) (S:=(TwoS (St.cells t) (St.cells x) ⟨b,j*21,none⟩ ⟨rb,ro+j*21,none⟩)) (by kernel_rfl) ?_ (fun hHeld=>?_)
   ·((try dsimp only);(exact HS.out))
   refine tk 0 ?_
   try simp only[sl1,sl2,sl3,Act.put,sl4,sl5,sl6]
   refine tk 1 ?_
   try simp only[sl1,sl2,sl3,Act.put,sl4,sl5,sl6]
   refine tk 2 ?_
   try simp only[sl1,sl2,sl3,Act.put,sl4,sl5,sl6]
   refine tk 4 ?_
   try simp only[sl1,sl2,sl3,Act.put,sl4,sl5,sl6]
   refine tk 5 ?_
   try simp only[sl1,sl2,sl3,Act.put,sl4,sl5,sl6]
   refine tk 6 ?_
   try simp only[sl1,sl2,sl3,Act.put,sl4,sl5,sl6]
   refine tk 3 ?_ (h2:=by intro W hSw;refine Eq.trans (b:=Result.ok (Next.value (.agg (St.cells t).toArray)) W) ?_ ?_;rotate_left;with_reducible rfl;exact exec_load_list 72 _ rfl _ rfl (St.cells t) _ hSw.1 Tryz.underlying72 rfl (stSzL _))
   try simp only[sl1,sl2,sl3,Act.put,sl4,sl5,sl6]
   refine tk 7 ?_ (h2:=by intro W hSw;refine Eq.trans (b:=Result.ok (Next.value (.agg (St.cells x).toArray)) W) ?_ ?_;rotate_left;with_reducible rfl;exact exec_load_list 72 _ rfl _ rfl (St.cells x) _ hSw.2 Tryz.underlying72 rfl (stSzL _))
   try simp only[sl1,sl2,sl3,Act.put,sl4,sl5,sl6]
   refine wpAnyL_step (j:=8) (o:=_) (by kernel_rfl) rfl (fun K hK=>?_)
   (go_simp;go_at_call 135;refine C.out.mono ?_;rintro e w2 ⟨rfl,hb⟩;have HB2:Hid (Below w.heap.size w w2):=Lib.hid (HBd.out.trans (hb.mono HBd.out.size));have HS2:=Lib.hid (HS.out.keep hb);clear hb)
   exact qabpw_2
  ·obtain rfl:j=n:=by omega
   clear hlt
   go_wp2_with fail
   refine wp_loop_rounds 3 ?_
   rw[rounds_succ]
   have hz:=stAt_list ((fun h=>((fun h=>(TnSs.row h).got) h).2.1) (HT.out _ hB.out))
   rw[HLt.out]at hz
   go_wp2_with (refine wpList_load_list rfl 72 _ rfl _ rfl (markS j).cells _ hz Tryz.underlying72 rfl (stSzL _) ?_)
   clear hz
   refine (isStmt_any j (by omega) wr (HGl.out _ hB.out)).mono ?_
   rintro e w1 ⟨rfl,hb⟩
   have HB1:Hid (Below w.heap.size w w1):=Lib.hid (hB.out.trans (hb.mono hB.out.size))
   clear hb
   go_wp2_with fail
   rw[rounds_succ]
   have hz:=stAt_list ((fun h=>((fun h=>(TnSs.row h).got) h).2.2) (HT.out _ HB1.out))
   rw[HLt.out]at hz
   go_wp2_with (refine wpList_load_list rfl 72 _ rfl _ rfl (markS (j+1)).cells _ hz Tryz.underlying72 rfl (stSzL _) ?_)
   clear hz
   refine (isStmt_any (j+1) (by omega) w1 (HGl.out _ HB1.out)).mono ?_
   exact qabpw_3
theorem TnS.parts {w:World} {g B:Nat} {k:Int} {nm:List UInt8} {t:Ty} {x y:Ex} {bd ed:Hd} {body els:List St} (h:TnS w g B (.mk k nm t x y bd body ed els)):TnE w g B x∧TnE w g B y∧TnSs w g B bd body∧TnSs w g B ed els:=by
 cases h with
 |mk hk hnm ht hx hy hbl hel brow erow bsub esub=>exact⟨hx,hy,⟨hbl,brow,bsub⟩,⟨hel,erow,esub⟩⟩
theorem StIn.parts {w:World} {B:Nat} {k:Int} {nm:List UInt8} {t:Ty} {x y:Ex} {bd ed:Hd} {body els:List St} (h:StIn w B (.mk k nm t x y bd body ed els)):ExIn w B x∧ExIn w B y∧StsIn w B bd body∧StsIn w B ed els:=by
 cases h with
 |mk hk hnm ht hx hy hbl hel brow erow bsub esub=>exact⟨hx,hy,⟨hbl,brow,bsub⟩,⟨hel,erow,esub⟩⟩
set_option maxHeartbeats 8000000 in
set_option maxRecDepth 100000 in
theorem leftS_of (k:Int) (nm:List UInt8) (t:Ty) (x1 y1 x2 y2:Ex) (bd1 ed1 bd2 ed2:Hd) (body1 els1 body2 els2:List St) (hx:LeftX x1 x2) (hy:LeftX y1 y2) (hbo:LeftSs body1 body2) (hel:LeftSs els1 els2):
  LeftS (.mk k nm t x1 y1 bd1 body1 ed1 els1) (.mk k nm t x2 y2 bd2 body2 ed2 els2):=by
 intro w hT hI G
 obtain⟨X,hX⟩:∃X,w.heap.size=X:=⟨_,rfl⟩
 obtain⟨o,ho⟩:∃o,(.cells (St.mk k nm t x1 y1 bd1 body1 ed1 els1).cells.toArray 72 (0,0):Obj)=o:=⟨_,rfl⟩
 obtain⟨o2,ho2⟩:∃o2,(.cells (St.mk k nm t x2 y2 bd2 body2 ed2 els2).cells.toArray 72 (0,0):Obj)=o2:=⟨_,rfl⟩
 obtain⟨w2,hw2⟩:∃w2,(w.alloc o).alloc o2=w2:=⟨_,rfl⟩
 have hb1:Below w.heap.size w (w.alloc o):=(Below.refl _ _).alloc (Nat.le_refl _) _
 have hb2:Below w.heap.size w w2:=by rw[←hw2];exact hb1.alloc hb1.size _
 have hs1:(w.alloc o).heap.size=X+1:=by rw[World.size_alloc,hX]
 have xx1:(w.alloc o).heap[X]? =some o:=by rw[←hX];exact heap_alloc_new w _
 have xx2:w2.heap[X]? =some o:=by
  exact qabpw_4
 have yy2:w2.heap[X+1]? =some o2:=by rw[←hw2,←hs1];exact heap_alloc_new _ _
 rw[←ho]at xx2
 rw[←ho2]at yy2
 have HR:Hid (∀W,Below w2.heap.size w2 W→W.heap[X]? =some (.cells (St.mk k nm t x1 y1 bd1 body1 ed1 els1).cells.toArray 72 (0,0))∧W.heap[X+1]? =some (.cells (St.mk k nm t x2 y2 bd2 body2 ed2 els2).cells.toArray 72 (0,0))):=Lib.hid fun W hb=>⟨(hb.block X (blk_lt xx2)).trans xx2,(hb.block (X+1) (blk_lt yy2)).trans yy2⟩
 have HP:Hid (∀W,Below w2.heap.size w2 W→TnS W 0 W.heap.size (.mk k nm t x1 y1 bd1 body1 ed1 els1)∧StIn W W.heap.size (.mk k nm t x2 y2 bd2 body2 ed2 els2)∧Globs W):=Lib.hid fun W hb=>
  have h:=hb2.trans (hb.mono hb2.size)
  ⟨hT.keep (below_eq h) (Nat.le_refl _) h.size,hI.keep h h.size,G.below h⟩
 have HB2:Hid (Below w2.heap.size w2 w2):=Lib.hid (Below.refl _ _)
 have C1:=Lib.hid (hx w2 (HP.out _ HB2.out).1.parts.1 (HP.out _ HB2.out).2.1.parts.1 (HP.out _ HB2.out).2.2)
 have hr:=HR.out _ HB2.out
 have a0:w2.cell? ⟨X,0,none⟩=some (.int .u8 k):=cell_at hr.1 0
 have b0:w2.cell? ⟨X+1,0,none⟩=some (.int .u8 k):=cell_at hr.2 0
 have a1:w2.cell? ⟨X,1,none⟩=some (.string ⟨nm.toArray⟩):=cell_at hr.1 1
 have b1:w2.cell? ⟨X+1,1,none⟩=some (.string ⟨nm.toArray⟩):=cell_at hr.2 1
 have a2:w2.cell? ⟨X,2,none⟩=some (.int .u8 t.k):=cell_at hr.1 2
 have b2:w2.cell? ⟨X+1,2,none⟩=some (.int .u8 t.k):=cell_at hr.2 2
 have a3:w2.cell? ⟨X,3,none⟩=some (.string ⟨t.nm.toArray⟩):=cell_at hr.1 3
 have b3:w2.cell? ⟨X+1,3,none⟩=some (.string ⟨t.nm.toArray⟩):=cell_at hr.2 3
 have a4:w2.cell? ⟨X,4,none⟩=some (.int .i64 t.n):=cell_at hr.1 4
 have b4:w2.cell? ⟨X+1,4,none⟩=some (.int .i64 t.n):=cell_at hr.2 4
 have a5:w2.cell? ⟨X,5,none⟩=some (.int .u8 x1.k):=cell_at hr.1 5
 have b5:w2.cell? ⟨X+1,5,none⟩=some (.int .u8 x2.k):=cell_at hr.2 5
 have a6:w2.cell? ⟨X,6,none⟩=some (.int .i64 x1.n):=cell_at hr.1 6
 have b6:w2.cell? ⟨X+1,6,none⟩=some (.int .i64 x2.n):=cell_at hr.2 6
 have a7:w2.cell? ⟨X,7,none⟩=some (.string ⟨x1.nm.toArray⟩):=cell_at hr.1 7
 have b7:w2.cell? ⟨X+1,7,none⟩=some (.string ⟨x2.nm.toArray⟩):=cell_at hr.2 7
 have a8:w2.cell? ⟨X,8,none⟩=some (.int .u8 x1.t.k):=cell_at hr.1 8
 have b8:w2.cell? ⟨X+1,8,none⟩=some (.int .u8 x2.t.k):=cell_at hr.2 8
 have a9:w2.cell? ⟨X,9,none⟩=some (.string ⟨x1.t.nm.toArray⟩):=cell_at hr.1 9
 have b9:w2.cell? ⟨X+1,9,none⟩=some (.string ⟨x2.t.nm.toArray⟩):=cell_at hr.2 9
 have a10:w2.cell? ⟨X,10,none⟩=some (.int .i64 x1.t.n):=cell_at hr.1 10
 have b10:w2.cell? ⟨X+1,10,none⟩=some (.int .i64 x2.t.n):=cell_at hr.2 10
 have a11:w2.cell? ⟨X,11,none⟩=some (.slice x1.d.a x1.args.length x1.d.c):=cell_at hr.1 11
 have b11:w2.cell? ⟨X+1,11,none⟩=some (.slice x2.d.a x2.args.length x2.d.c):=cell_at hr.2 11
 rw[←hw2]at a0 b0 a1 b1 a2 b2 a3 b3 a4 b4 a5 b5 a6 b6 a7 b7 a8 b8 a9 b9 a10 b10 a11 b11
 have HN:Hid (w.heap.size=X∧(w.alloc o).alloc o2=w2):=Lib.hid ⟨hX,hw2⟩
 have HBw:=Lib.hid hb2
 have Hh:=Lib.hid (And.intro hx (And.intro hy (And.intro hbo hel)))
 clear hb1 hb2 xx1 xx2 yy2 hI hT G hw2 hr hx hy hbo hel
 go_enter Tryz.func135,Tryz.ntmps135
 go_wp2_with fail
 simp only[HN.out.2]
 clear a0 b0 a1 b1 a2 b2 a3 b3 a4 b4 a5 b5 a6 b6 a7 b7 a8 b8 a9 b9 a10 b10 a11 b11
 refine C1.out.mono ?_
 rintro e w3 ⟨rfl,hb3⟩
 have HB3:Hid (Below w2.heap.size w2 w3):=Lib.hid hb3
 have C2:=Lib.hid (Hh.out.2.1 w3 (HP.out _ HB3.out).1.parts.2.1 (HP.out _ HB3.out).2.1.parts.2.1 (HP.out _ HB3.out).2.2)
 have hr:=HR.out _ HB3.out
 have a12:w3.cell? ⟨X,12,none⟩=some (.int .u8 y1.k):=cell_at hr.1 12
 have b12:w3.cell? ⟨X+1,12,none⟩=some (.int .u8 y2.k):=cell_at hr.2 12
 have a13:w3.cell? ⟨X,13,none⟩=some (.int .i64 y1.n):=cell_at hr.1 13
 have b13:w3.cell? ⟨X+1,13,none⟩=some (.int .i64 y2.n):=cell_at hr.2 13
 have a14:w3.cell? ⟨X,14,none⟩=some (.string ⟨y1.nm.toArray⟩):=cell_at hr.1 14
 have b14:w3.cell? ⟨X+1,14,none⟩=some (.string ⟨y2.nm.toArray⟩):=cell_at hr.2 14
 have a15:w3.cell? ⟨X,15,none⟩=some (.int .u8 y1.t.k):=cell_at hr.1 15
 have b15:w3.cell? ⟨X+1,15,none⟩=some (.int .u8 y2.t.k):=cell_at hr.2 15
 have a16:w3.cell? ⟨X,16,none⟩=some (.string ⟨y1.t.nm.toArray⟩):=cell_at hr.1 16
 have b16:w3.cell? ⟨X+1,16,none⟩=some (.string ⟨y2.t.nm.toArray⟩):=cell_at hr.2 16
 have a17:w3.cell? ⟨X,17,none⟩=some (.int .i64 y1.t.n):=cell_at hr.1 17
 have b17:w3.cell? ⟨X+1,17,none⟩=some (.int .i64 y2.t.n):=cell_at hr.2 17
 have a18:w3.cell? ⟨X,18,none⟩=some (.slice y1.d.a y1.args.length y1.d.c):=cell_at hr.1 18
 have b18:w3.cell? ⟨X+1,18,none⟩=some (.slice y2.d.a y2.args.length y2.d.c):=cell_at hr.2 18
 clear hb3 hr C1
 go_wp2_with fail
 clear a12 b12 a13 b13 a14 b14 a15 b15 a16 b16 a17 b17 a18 b18
 refine C2.out.mono ?_
 rintro e w4 ⟨rfl,hb4⟩
 have HB4:Hid (Below w2.heap.size w2 w4):=Lib.hid (HB3.out.trans (hb4.mono HB3.out.size))
 have C3:=Lib.hid (Hh.out.2.2.1 bd1 bd2 w4 (HP.out _ HB4.out).1.parts.2.2.1 (HP.out _ HB4.out).2.1.parts.2.2.1 (HP.out _ HB4.out).2.2)
 have hr:=HR.out _ HB4.out
 have a19:w4.cell? ⟨X,19,none⟩=some (.slice bd1.a body1.length bd1.c):=cell_at hr.1 19
 have b19:w4.cell? ⟨X+1,19,none⟩=some (.slice bd2.a body2.length bd2.c):=cell_at hr.2 19
 clear hb4 hr C2
 go_wp2_with fail
 clear a19 b19
 refine C3.out.mono ?_
 rintro e w5 ⟨rfl,hb5⟩
 have HB5:Hid (Below w2.heap.size w2 w5):=Lib.hid (HB4.out.trans (hb5.mono HB4.out.size))
 have C4:=Lib.hid (Hh.out.2.2.2 ed1 ed2 w5 (HP.out _ HB5.out).1.parts.2.2.2 (HP.out _ HB5.out).2.1.parts.2.2.2 (HP.out _ HB5.out).2.2)
 have hr:=HR.out _ HB5.out
 have a20:w5.cell? ⟨X,20,none⟩=some (.slice ed1.a els1.length ed1.c):=cell_at hr.1 20
 have b20:w5.cell? ⟨X+1,20,none⟩=some (.slice ed2.a els2.length ed2.c):=cell_at hr.2 20
 clear hb5 hr C3
 go_wp2_with fail
 clear a20 b20
 refine C4.out.mono ?_
 rintro e w6 ⟨rfl,hb6⟩
 have HB6:Hid (Below w.heap.size w w6):=Lib.hid (HBw.out.trans ((HB5.out.trans (hb6.mono HB5.out.size)).mono HBw.out.size))
 clear hb6 C4
 go_wp2_with fail
 go_ret
 exact⟨rfl,HB6.out⟩
theorem leftS_any:∀(sz:Nat) (t x:St),stAll x≤sz→stripS t=stripS x→LeftS t x:=by
 intro sz
 induction sz using Nat.strongRecOn with
 |ind sz ih=>
  intro t x hsz hs
  obtain⟨k,nm,ty,x1,y1,bd1,body1,ed1,els1⟩:=t
  obtain⟨k',nm',ty',x2,y2,bd2,body2,ed2,els2⟩:=x
  rw[stripS,stripS]at hs
  injection hs with e1 e2 e3 e4 e5 e6 e7 e8 e9
  subst e1 e2 e3
  rw[stripSs_map,stripSs_map]at e7 e9
  rw[stAll]at hsz
  have px:=exCount_pos x2
  have hsub:∀l1 l2:List St,l1.map stripS=l2.map stripS→stAlls l2<sz→LeftSs l1 l2:=fun l1 l2 he hlt dt d w hT hI G=>
   leftSs_of l1 l2 (by have:=congrArg List.length he;simpa using this) (fun i t x ht hx=>ih (stAll x) (by have:=stAlls_mem (List.mem_of_getElem? hx);omega) t x (Nat.le_refl _) (by
    have:=congrArg (fun l=>l[i]?) he
    simpa [ht,hx] using this)) dt d w hT hI G
  exact leftS_of _ _ _ _ _ _ _ _ _ _ _ _ _ _ _ (leftX_any _ _ _ (Nat.le_refl _) e4) (leftX_any _ _ _ (Nat.le_refl _) e5) (hsub _ _ e7 (by omega)) (hsub _ _ e9 (by omega))
theorem leftSs_any (lt l:List St) (hs:stripSs lt=stripSs l):LeftSs lt l:=by
 rw[stripSs_map,stripSs_map]at hs
 exact fun dt d w hT hI G=>leftSs_of lt l (by have:=congrArg List.length hs;simpa using this) (fun i t x ht hx=>leftS_any _ t x (Nat.le_refl _) (by
  have:=congrArg (fun l=>l[i]?) hs
  simpa [ht,hx] using this)) dt d w hT hI G
set_option maxHeartbeats 4000000 in
set_option maxRecDepth 100000 in
theorem isRecord_any (n:Nat) (h:n≤100000000000) (w:World) (G:Globs w):
  Calls Tryz.prog 90 #[.agg (markR n).cells.toArray,.int .i64 n] w fun e w'=>e=.returned (.bool true)∧Below w.heap.size w w':=by
 obtain⟨nm,hnm⟩:∃nm,word n=nm:=⟨_,rfl⟩
 obtain⟨X,hX⟩:∃X,w.heap.size=X:=⟨_,rfl⟩
 obtain⟨cs,hcs⟩:∃cs:List Value,(markR n).cells=cs:=⟨_,rfl⟩
 obtain⟨w1,hw1⟩:∃w1,w.alloc (.cells cs.toArray 58 (0,0))=w1:=⟨_,rfl⟩
 have hb1:Below w.heap.size w w1:=by rw[←hw1];exact (Below.refl _ _).alloc (Nat.le_refl _) _
 have x1:w1.heap[X]? =some (.cells cs.toArray 58 (0,0)):=by rw[←hw1,←hX];exact heap_alloc_new w _
 have C:=Lib.hid (word_any n h w1.drew (G.below hb1.drew))
 rw[hnm]at C
 have HS:Hid (w1.drew.cell? ⟨X,0,none⟩=some (.string ⟨nm.toArray⟩)∧w1.drew.cell? ⟨X,1,none⟩=some (.slice none 0 0)):=Lib.hid (by
  have e1:=cell_at x1 0
  have e2:=cell_at x1 1
  rw[←hcs]at e1 e2
  rw[←hnm]
  exact⟨e1,e2⟩)
 have HB1:=Lib.hid hb1
 have HN:=Lib.hid (And.intro hX hw1)
 rw[hcs]
 clear hX hw1 hb1 x1 G h hnm hcs
 go_enter Tryz.func90,Tryz.ntmps90
 go_wp2_with fail
 simp only[HN.out.1,HN.out.2]
 refine wp_region_L (l:=11) (S:=(fun W=>W.cell? ⟨X,0,none⟩=some (.string ⟨nm.toArray⟩)∧W.cell? ⟨X,1,none⟩=some (.slice none 0 0))) (by kernel_rfl) ?_ (fun hHeld=>?_)
 ·((try dsimp only);(first|exact HS2.out|exact HS.out))
 refine tk 0 ?_
 try simp only[sl1,sl2,sl3,Act.put,sl4,sl5,sl6]
 refine tk 1 ?_
 try simp only[sl1,sl2,sl3,Act.put,sl4,sl5,sl6]
 refine tk 2 ?_
 try simp only[sl1,sl2,sl3,Act.put,sl4,sl5,sl6]
 refine wpAnyL_step (j:=3) (o:=_) (by kernel_rfl) rfl (fun K hK=>?_)
 (go_simp;go_at_call 108;refine C.out.mono ?_;rintro e w2 ⟨rfl,hb⟩;have HB2:Hid (Below w.heap.size w w2):=Lib.hid (HB1.out.drew.trans (hb.mono HB1.out.size));have HS2:Hid (w2.cell? ⟨X,0,none⟩=some (.string ⟨nm.toArray⟩)∧w2.cell? ⟨X,1,none⟩=some (.slice none 0 0)):=Lib.hid (have h:=HS.out;have hl:X<w1.drew.heap.size:=World.block_lt_of_cell? _ _ h.1;⟨(hb.cell hl).trans h.1,(hb.cell hl).trans h.2⟩);clear hb)
 exact qabpw_1
set_option maxHeartbeats 4000000 in
set_option maxRecDepth 100000 in
theorem isFunc_any (n:Nat) (h:n≤100000000000) (w:World) (G:Globs w):
  Calls Tryz.prog 94 #[.agg (markU n).cells.toArray,.int .i64 n] w fun e w'=>e=.returned (.bool true)∧Below w.heap.size w w':=by
 obtain⟨nm,hnm⟩:∃nm,word n=nm:=⟨_,rfl⟩
 obtain⟨X,hX⟩:∃X,w.heap.size=X:=⟨_,rfl⟩
 obtain⟨cs,hcs⟩:∃cs:List Value,(markU n).cells=cs:=⟨_,rfl⟩
 obtain⟨w1,hw1⟩:∃w1,w.alloc (.cells cs.toArray 53 (0,0))=w1:=⟨_,rfl⟩
 have hb1:Below w.heap.size w w1:=by rw[←hw1];exact (Below.refl _ _).alloc (Nat.le_refl _) _
 have x1:w1.heap[X]? =some (.cells cs.toArray 53 (0,0)):=by rw[←hw1,←hX];exact heap_alloc_new w _
 have C:=Lib.hid (word_any n h w1.drew (G.below hb1.drew))
 rw[hnm]at C
 have HS:Hid (w1.drew.cell? ⟨X,0,none⟩=some (.string ⟨nm.toArray⟩)∧w1.drew.cell? ⟨X,5,none⟩=some (.slice none 0 0)):=Lib.hid (by
  have e1:=cell_at x1 0
  have e2:=cell_at x1 5
  rw[←hcs]at e1 e2
  rw[←hnm]
  exact⟨e1,e2⟩)
 have HB1:=Lib.hid hb1
 have HN:=Lib.hid (And.intro hX hw1)
 rw[hcs]
 clear hX hw1 hb1 x1 G h hnm hcs
 go_enter Tryz.func94,Tryz.ntmps94
 go_wp2_with fail
 simp only[HN.out.1,HN.out.2]
 refine wp_region_L (l:=11) (S:=(fun W=>W.cell? ⟨X,0,none⟩=some (.string ⟨nm.toArray⟩)∧W.cell? ⟨X,5,none⟩=some (.slice none 0 0))) (by kernel_rfl) ?_ (fun hHeld=>?_)
 ·((try dsimp only);(first|exact HS2.out|exact HS.out))
 refine tk 0 ?_
 try simp only[sl1,sl2,sl3,Act.put,sl4,sl5,sl6]
 refine tk 1 ?_
 try simp only[sl1,sl2,sl3,Act.put,sl4,sl5,sl6]
 refine tk 2 ?_
 try simp only[sl1,sl2,sl3,Act.put,sl4,sl5,sl6]
 refine wpAnyL_step (j:=3) (o:=_) (by kernel_rfl) rfl (fun K hK=>?_)
 (go_simp;go_at_call 108;refine C.out.mono ?_;rintro e w2 ⟨rfl,hb⟩;have HB2:Hid (Below w.heap.size w w2):=Lib.hid (HB1.out.drew.trans (hb.mono HB1.out.size));have HS2:Hid (w2.cell? ⟨X,0,none⟩=some (.string ⟨nm.toArray⟩)∧w2.cell? ⟨X,5,none⟩=some (.slice none 0 0)):=Lib.hid (have h:=HS.out;have hl:X<w1.drew.heap.size:=World.block_lt_of_cell? _ _ h.1;⟨(hb.cell hl).trans h.1,(hb.cell hl).trans h.2⟩);clear hb)
 exact qabpw_1
abbrev LeftR (t x:Re):Prop:=∀w,TnR w 0 w.heap.size t→ReIn w w.heap.size x→Globs w→
 Calls Tryz.prog 89 #[.agg t.cells.toArray,.agg x.cells.toArray] w fun e w'=>e=.returned (.bool true)∧Below w.heap.size w w'
abbrev LeftU (t x:Fu):Prop:=∀w,TnU w 0 w.heap.size t→FuIn w w.heap.size x→Globs w→
 Calls Tryz.prog 93 #[.agg t.cells.toArray,.agg x.cells.toArray] w fun e w'=>e=.returned (.bool true)∧Below w.heap.size w w'
set_option maxHeartbeats 4000000 in
set_option maxRecDepth 100000 in
theorem leftR_any (t x:Re) (hs:stripR t=stripR x):LeftR t x:=by
 intro w hT hI G
 obtain⟨nm,dt,fs⟩:=t
 obtain⟨nm',d,fs'⟩:=x
 unfold stripR at hs
 injection hs with e1 e2 e3
 dsimp only at e1 e3
 subst e1 e3
 obtain⟨X,hX⟩:∃X,w.heap.size=X:=⟨_,rfl⟩
 obtain⟨o,ho⟩:∃o,(.cells (Re.mk nm dt fs).cells.toArray 58 (0,0):Obj)=o:=⟨_,rfl⟩
 obtain⟨o2,ho2⟩:∃o2,(.cells (Re.mk nm d fs).cells.toArray 58 (0,0):Obj)=o2:=⟨_,rfl⟩
 obtain⟨w2,hw2⟩:∃w2,(w.alloc o).alloc o2=w2:=⟨_,rfl⟩
 have hb1:Below w.heap.size w (w.alloc o):=(Below.refl _ _).alloc (Nat.le_refl _) _
 have hb2:Below w.heap.size w w2:=by rw[←hw2];exact hb1.alloc hb1.size _
 have hs1:(w.alloc o).heap.size=X+1:=by rw[World.size_alloc,hX]
 have xx1:(w.alloc o).heap[X]? =some o:=by rw[←hX];exact heap_alloc_new w _
 have xx2:w2.heap[X]? =some o:=by
  exact qabpw_4
 have yy2:w2.heap[X+1]? =some o2:=by rw[←hw2,←hs1];exact heap_alloc_new _ _
 rw[←ho]at xx2
 rw[←ho2]at yy2
 have HR:Hid (∀W,Below w2.heap.size w2 W→W.heap[X]? =some (.cells (Re.mk nm dt fs).cells.toArray 58 (0,0))∧W.heap[X+1]? =some (.cells (Re.mk nm d fs).cells.toArray 58 (0,0))):=Lib.hid fun W hb=>⟨(hb.block X (blk_lt xx2)).trans xx2,(hb.block (X+1) (blk_lt yy2)).trans yy2⟩
 have HP:Hid (∀W,Below w2.heap.size w2 W→Below w.heap.size w W):=Lib.hid fun W hb=>hb2.trans (hb.mono hb2.size)
 have HB2:Hid (Below w2.heap.size w2 w2):=Lib.hid (Below.refl _ _)
 have hr:=HR.out _ HB2.out
 have a0:w2.cell? ⟨X,0,none⟩=some (.string ⟨nm.toArray⟩):=cell_at hr.1 0
 have b0:w2.cell? ⟨X+1,0,none⟩=some (.string ⟨nm.toArray⟩):=cell_at hr.2 0
 have a1:w2.cell? ⟨X,1,none⟩=some (.slice dt.a fs.length dt.c):=cell_at hr.1 1
 have b1:w2.cell? ⟨X+1,1,none⟩=some (.slice d.a fs.length d.c):=cell_at hr.2 1
 have C2:=Lib.hid (leftFls_any dt d fs w2 (hT.fs.keep (below_eq (HP.out _ HB2.out)) (Nat.le_refl _) (HP.out _ HB2.out).size) (hI.fs.keep (HP.out _ HB2.out) (HP.out _ HB2.out).size) (G.below (HP.out _ HB2.out)))
 rw[←hw2]at a0 b0 a1 b1
 have HN:Hid (w.heap.size=X∧(w.alloc o).alloc o2=w2):=Lib.hid ⟨hX,hw2⟩
 clear hb1 hb2 xx1 xx2 yy2 hw2 hr hT hI G
 go_enter Tryz.func89,Tryz.ntmps89
 go_wp2_with fail
 simp only[HN.out.2]
 clear a0 b0 a1 b1
 refine C2.out.mono ?_
 rintro e w3 ⟨rfl,hb⟩
 have HB3:Hid (Below w2.heap.size w2 w3):=Lib.hid (HB2.out.trans (hb.mono HB2.out.size))
 clear hb
 go_wp2_with fail
 go_ret
 exact⟨rfl,(HP.out _ HB3.out)⟩
set_option maxHeartbeats 4000000 in
set_option maxRecDepth 100000 in
theorem leftU_any (t x:Fu) (hs:stripF t=stripF x):LeftU t x:=by
 intro w hT hI G
 obtain⟨nm,pdt,ps,ty,bdt,bt⟩:=t
 obtain⟨nm',pd,ps',ty',bd,body⟩:=x
 unfold stripF at hs
 injection hs with e1 e2 e3 e4 e5 e6
 dsimp only at e1 e3 e4 e6
 subst e1 e3 e4
 have Hm:Hid (∀W,Below w.heap.size w W→TnU W 0 W.heap.size (Fu.mk nm pdt ps ty bdt bt)∧FuIn W W.heap.size (Fu.mk nm pd ps ty bd body)∧Globs W):=Lib.hid fun W h=>⟨hT.keep (below_eq h) (Nat.le_refl _) h.size,hI.keep h h.size,G.below h⟩
 have He:=Lib.hid e6
 clear e6 hT hI G
 obtain⟨X,hX⟩:∃X,w.heap.size=X:=⟨_,rfl⟩
 obtain⟨o,ho⟩:∃o,(.cells (Fu.mk nm pdt ps ty bdt bt).cells.toArray 53 (0,0):Obj)=o:=⟨_,rfl⟩
 obtain⟨o2,ho2⟩:∃o2,(.cells (Fu.mk nm pd ps ty bd body).cells.toArray 53 (0,0):Obj)=o2:=⟨_,rfl⟩
 obtain⟨w2,hw2⟩:∃w2,(w.alloc o).alloc o2=w2:=⟨_,rfl⟩
 have hb1:Below w.heap.size w (w.alloc o):=(Below.refl _ _).alloc (Nat.le_refl _) _
 have hb2:Below w.heap.size w w2:=by rw[←hw2];exact hb1.alloc hb1.size _
 have hs1:(w.alloc o).heap.size=X+1:=by rw[World.size_alloc,hX]
 have xx1:(w.alloc o).heap[X]? =some o:=by rw[←hX];exact heap_alloc_new w _
 have xx2:w2.heap[X]? =some o:=by
  exact qabpw_4
 have yy2:w2.heap[X+1]? =some o2:=by rw[←hw2,←hs1];exact heap_alloc_new _ _
 rw[←ho]at xx2
 rw[←ho2]at yy2
 have HR:Hid (∀W,Below w2.heap.size w2 W→W.heap[X]? =some (.cells (Fu.mk nm pdt ps ty bdt bt).cells.toArray 53 (0,0))∧W.heap[X+1]? =some (.cells (Fu.mk nm pd ps ty bd body).cells.toArray 53 (0,0))):=Lib.hid fun W hb=>⟨(hb.block X (blk_lt xx2)).trans xx2,(hb.block (X+1) (blk_lt yy2)).trans yy2⟩
 have HP:Hid (∀W,Below w2.heap.size w2 W→Below w.heap.size w W):=Lib.hid fun W hb=>hb2.trans (hb.mono hb2.size)
 have HB2:Hid (Below w2.heap.size w2 w2):=Lib.hid (Below.refl _ _)
 have hr:=HR.out _ HB2.out
 have a0:w2.cell? ⟨X,0,none⟩=some (.string ⟨nm.toArray⟩):=cell_at hr.1 0
 have b0:w2.cell? ⟨X+1,0,none⟩=some (.string ⟨nm.toArray⟩):=cell_at hr.2 0
 have a1:w2.cell? ⟨X,1,none⟩=some (.slice pdt.a ps.length pdt.c):=cell_at hr.1 1
 have b1:w2.cell? ⟨X+1,1,none⟩=some (.slice pd.a ps.length pd.c):=cell_at hr.2 1
 have a2:w2.cell? ⟨X,2,none⟩=some (.int .u8 ty.k):=cell_at hr.1 2
 have b2:w2.cell? ⟨X+1,2,none⟩=some (.int .u8 ty.k):=cell_at hr.2 2
 have a3:w2.cell? ⟨X,3,none⟩=some (.string ⟨ty.nm.toArray⟩):=cell_at hr.1 3
 have b3:w2.cell? ⟨X+1,3,none⟩=some (.string ⟨ty.nm.toArray⟩):=cell_at hr.2 3
 have a4:w2.cell? ⟨X,4,none⟩=some (.int .i64 ty.n):=cell_at hr.1 4
 have b4:w2.cell? ⟨X+1,4,none⟩=some (.int .i64 ty.n):=cell_at hr.2 4
 have C2:=Lib.hid (leftFls_any pdt pd ps w2 (Hm.out _ (HP.out _ HB2.out)).1.ps (Hm.out _ (HP.out _ HB2.out)).2.1.ps (Hm.out _ (HP.out _ HB2.out)).2.2)
 rw[←hw2]at a0 b0 a1 b1 a2 b2 a3 b3 a4 b4
 have HN:Hid (w.heap.size=X∧(w.alloc o).alloc o2=w2):=Lib.hid ⟨hX,hw2⟩
 clear hb1 hb2 xx1 xx2 yy2 hw2 hr
 go_enter Tryz.func93,Tryz.ntmps93
 go_wp2_with fail
 simp only[HN.out.2]
 clear a0 b0 a1 b1 a2 b2 a3 b3 a4 b4
 refine C2.out.mono ?_
 rintro e w3 ⟨rfl,hb⟩
 have HB3:Hid (Below w2.heap.size w2 w3):=Lib.hid (HB2.out.trans (hb.mono HB2.out.size))
 clear hb
 have hr:=HR.out _ HB3.out
 have a5:w3.cell? ⟨X,5,none⟩=some (.slice bdt.a bt.length bdt.c):=cell_at hr.1 5
 have b5:w3.cell? ⟨X+1,5,none⟩=some (.slice bd.a body.length bd.c):=cell_at hr.2 5
 have C3:=Lib.hid (leftSs_any bt body He.out bdt bd w3 (Hm.out _ (HP.out _ HB3.out)).1.body (Hm.out _ (HP.out _ HB3.out)).2.1.body (Hm.out _ (HP.out _ HB3.out)).2.2)
 clear hr C2
 go_wp2_with fail
 clear a5 b5
 refine C3.out.mono ?_
 rintro e w4 ⟨rfl,hb⟩
 have HB4:Hid (Below w2.heap.size w2 w4):=Lib.hid (HB3.out.trans (hb.mono HB3.out.size))
 clear hb
 go_wp2_with fail
 go_ret
 exact⟨rfl,(HP.out _ HB4.out)⟩
set_option maxHeartbeats 4000000 in
set_option maxRecDepth 100000 in
theorem leftRecords_any (lt l:List Re) (hs:lt.map stripR=l.map stripR) (dt d:Hd) (w:World) (hT:TnRs w 0 w.heap.size dt lt) (hI:ResIn w w.heap.size d l) (G:Globs w):
  Calls Tryz.prog 47 #[.slice dt.a lt.length dt.c,.slice d.a l.length d.c] w fun e w'=>e=.returned (.bool true)∧Below w.heap.size w w':=by
 have hl:lt.length=l.length:=by have:=congrArg List.length hs;simpa using this
 have hel:∀(i:Nat) t x,lt[i]? =some t→l[i]? =some x→LeftR t x:=fun i t x ht hx=>leftR_any t x (by
  have:=congrArg (fun l=>l[i]?) hs
  simpa [ht,hx] using this)
 clear hs
 have HT:Hid (∀W,Below w.heap.size w W→TnRs W 0 W.heap.size dt lt):=Lib.hid fun W hb=>hT.keep (below_eq hb) (Nat.le_refl _) hb.size
 have HI:Hid (∀W,Below w.heap.size w W→ResIn W W.heap.size d l):=Lib.hid fun W hb=>hI.keep hb hb.size
 have HGl:Hid (∀W,Below w.heap.size w W→Globs W):=Lib.hid fun W hb=>G.below hb
 have HB0:Hid (Below w.heap.size w w):=Lib.hid (Below.refl _ _)
 have hn:=hT.len
 obtain⟨b,hda,-,-,hdc,-⟩:=hT.row
 obtain⟨A,c⟩:=dt
 dsimp only at hda hdc
 subst hda hdc
 obtain⟨n,hN⟩:∃n,lt.length=n:=⟨_,rfl⟩
 have HLt:=Lib.hid hN
 have HLl:Hid (l.length=n):=Lib.hid (by rw[←hN,hl])
 rw[hN]at hn ⊢
 rw[HLl.out]
 have hnI:(n:Int)≤1000000:=by omega
 clear hT hI hN G hl
 go_enter Tryz.func47,Tryz.ntmps47
 go_wp2_with fail
 go_loopw [15] (fun ii wr=>∃(j:Nat),ii=.int .i64 j∧j≤n∧Hid (Below w.heap.size w wr)) (fun ii _=>n - (intOf ii).toNat)
 case atStart=>exact⟨0,rfl,Nat.zero_le _,HB0⟩
 case round=>
  obtain⟨j,rfl,hj,hB⟩:=hrel
  clear HB0
  have p2:(0:Int)≤(j:Int):=Int.natCast_nonneg _
  by_cases hlt:j<n
  ·obtain⟨t,ht⟩:∃t,lt[j]? =some t:=⟨_,List.getElem?_eq_getElem (by rw[HLt.out];exact hlt)⟩
   obtain⟨x,hx⟩:∃x,l[j]? =some x:=⟨_,List.getElem?_eq_getElem (by rw[HLl.out];exact hlt)⟩
   have hBd:Below w.heap.size w wr.drew:=hB.out.drew
   have hTr:=HT.out _ hBd
   have hIr:=HI.out _ hBd
   have hz1:=reAt_list (((fun h=>(TnRs.row h).got) hTr).1 j t ht)
   obtain⟨rb,ro,hra,-,hrr⟩:=hIr.row (by intro h0;have:=HLl.out;rw[h0]at this;simp at this;omega)
   have hz2:=reAt_list (hrr j x hx)
   have C:=Lib.hid (hel j t x ht hx wr.drew (hTr.sub t (List.mem_of_getElem? ht)) (hIr.sub x (List.mem_of_getElem? hx)) (HGl.out _ hBd))
   have HS:Hid (TwoS (Re.cells t) (Re.cells x) ⟨b,j*2,none⟩ ⟨rb,ro+j*2,none⟩ wr.drew):=Lib.hid ⟨hz1,hz2⟩
   have p1:(j:Int)<(n:Int):=by omega
   have HBd:=Lib.hid hBd
   clear hz1 hz2 hrr hx ht hlt hTr hIr hBd
   rw[hra]
   go_wp2_with fail
   refine wp_region_L (l:=9) (S:=(TwoS (Re.cells t) (Re.cells x) ⟨b,j*2,none⟩ ⟨rb,ro+j*2,none⟩)) (by kernel_rfl) ?_ (fun hHeld=>?_)
   ·((try dsimp only);(exact HS.out))
   refine tk 0 ?_
   try simp only[sl1,sl2,sl3,Act.put,sl4,sl5,sl6]
   refine tk 1 ?_
   try simp only[sl1,sl2,sl3,Act.put,sl4,sl5,sl6]
   refine tk 2 ?_
   try simp only[sl1,sl2,sl3,Act.put,sl4,sl5,sl6]
   refine tk 4 ?_
   try simp only[sl1,sl2,sl3,Act.put,sl4,sl5,sl6]
   refine tk 5 ?_
   try simp only[sl1,sl2,sl3,Act.put,sl4,sl5,sl6]
   refine tk 6 ?_
   try simp only[sl1,sl2,sl3,Act.put,sl4,sl5,sl6]
   refine tk 3 ?_ (h2:=by intro W hSw;refine Eq.trans (b:=Result.ok (Next.value (.agg (Re.cells t).toArray)) W) ?_ ?_;rotate_left;with_reducible rfl;exact exec_load_list 58 _ rfl _ rfl (Re.cells t) _ hSw.1 Tryz.underlying58 rfl (reSzL _))
   try simp only[sl1,sl2,sl3,Act.put,sl4,sl5,sl6]
   refine tk 7 ?_ (h2:=by intro W hSw;refine Eq.trans (b:=Result.ok (Next.value (.agg (Re.cells x).toArray)) W) ?_ ?_;rotate_left;with_reducible rfl;exact exec_load_list 58 _ rfl _ rfl (Re.cells x) _ hSw.2 Tryz.underlying58 rfl (reSzL _))
   try simp only[sl1,sl2,sl3,Act.put,sl4,sl5,sl6]
   refine wpAnyL_step (j:=8) (o:=_) (by kernel_rfl) rfl (fun K hK=>?_)
   (go_simp;go_at_call 89;refine C.out.mono ?_;rintro e w2 ⟨rfl,hb⟩;have HB2:Hid (Below w.heap.size w w2):=Lib.hid (HBd.out.trans (hb.mono HBd.out.size));have HS2:=Lib.hid (HS.out.keep hb);clear hb)
   exact qabpw_2
  ·obtain rfl:j=n:=by omega
   clear hlt
   go_wp2_with fail
   refine wp_loop_rounds 3 ?_
   rw[rounds_succ]
   have hz:=reAt_list ((fun h=>((fun h=>(TnRs.row h).got) h).2.1) (HT.out _ hB.out))
   rw[HLt.out]at hz
   go_wp2_with (refine wpList_load_list rfl 58 _ rfl _ rfl (markR j).cells _ hz Tryz.underlying58 rfl (reSzL _) ?_)
   clear hz
   refine (isRecord_any j (by omega) wr (HGl.out _ hB.out)).mono ?_
   rintro e w1 ⟨rfl,hb⟩
   have HB1:Hid (Below w.heap.size w w1):=Lib.hid (hB.out.trans (hb.mono hB.out.size))
   clear hb
   go_wp2_with fail
   rw[rounds_succ]
   have hz:=reAt_list ((fun h=>((fun h=>(TnRs.row h).got) h).2.2) (HT.out _ HB1.out))
   rw[HLt.out]at hz
   go_wp2_with (refine wpList_load_list rfl 58 _ rfl _ rfl (markR (j+1)).cells _ hz Tryz.underlying58 rfl (reSzL _) ?_)
   clear hz
   refine (isRecord_any (j+1) (by omega) w1 (HGl.out _ HB1.out)).mono ?_
   exact qabpw_3
set_option maxHeartbeats 4000000 in
set_option maxRecDepth 100000 in
theorem leftFuncs_any (lt l:List Fu) (hs:lt.map stripF=l.map stripF) (dt d:Hd) (w:World) (hT:TnUs w 0 w.heap.size dt lt) (hI:FusIn w w.heap.size d l) (G:Globs w):
  Calls Tryz.prog 49 #[.slice dt.a lt.length dt.c,.slice d.a l.length d.c] w fun e w'=>e=.returned (.bool true)∧Below w.heap.size w w':=by
 have hl:lt.length=l.length:=by have:=congrArg List.length hs;simpa using this
 have hel:∀(i:Nat) t x,lt[i]? =some t→l[i]? =some x→LeftU t x:=fun i t x ht hx=>leftU_any t x (by
  have:=congrArg (fun l=>l[i]?) hs
  simpa [ht,hx] using this)
 clear hs
 have HT:Hid (∀W,Below w.heap.size w W→TnUs W 0 W.heap.size dt lt):=Lib.hid fun W hb=>hT.keep (below_eq hb) (Nat.le_refl _) hb.size
 have HI:Hid (∀W,Below w.heap.size w W→FusIn W W.heap.size d l):=Lib.hid fun W hb=>hI.keep hb hb.size
 have HGl:Hid (∀W,Below w.heap.size w W→Globs W):=Lib.hid fun W hb=>G.below hb
 have HB0:Hid (Below w.heap.size w w):=Lib.hid (Below.refl _ _)
 have hn:=hT.len
 obtain⟨b,hda,-,-,hdc,-⟩:=hT.row
 obtain⟨A,c⟩:=dt
 dsimp only at hda hdc
 subst hda hdc
 obtain⟨n,hN⟩:∃n,lt.length=n:=⟨_,rfl⟩
 have HLt:=Lib.hid hN
 have HLl:Hid (l.length=n):=Lib.hid (by rw[←hN,hl])
 rw[hN]at hn ⊢
 rw[HLl.out]
 have hnI:(n:Int)≤1000000:=by omega
 clear hT hI hN G hl
 go_enter Tryz.func49,Tryz.ntmps49
 go_wp2_with fail
 go_loopw [15] (fun ii wr=>∃(j:Nat),ii=.int .i64 j∧j≤n∧Hid (Below w.heap.size w wr)) (fun ii _=>n - (intOf ii).toNat)
 case atStart=>exact⟨0,rfl,Nat.zero_le _,HB0⟩
 case round=>
  obtain⟨j,rfl,hj,hB⟩:=hrel
  clear HB0
  have p2:(0:Int)≤(j:Int):=Int.natCast_nonneg _
  by_cases hlt:j<n
  ·obtain⟨t,ht⟩:∃t,lt[j]? =some t:=⟨_,List.getElem?_eq_getElem (by rw[HLt.out];exact hlt)⟩
   obtain⟨x,hx⟩:∃x,l[j]? =some x:=⟨_,List.getElem?_eq_getElem (by rw[HLl.out];exact hlt)⟩
   have hBd:Below w.heap.size w wr.drew:=hB.out.drew
   have hTr:=HT.out _ hBd
   have hIr:=HI.out _ hBd
   have hz1:=fuAt_list (((fun h=>(TnUs.row h).got) hTr).1 j t ht)
   obtain⟨rb,ro,hra,-,hrr⟩:=hIr.row (by intro h0;have:=HLl.out;rw[h0]at this;simp at this;omega)
   have hz2:=fuAt_list (hrr j x hx)
   have C:=Lib.hid (hel j t x ht hx wr.drew (hTr.sub t (List.mem_of_getElem? ht)) (hIr.sub x (List.mem_of_getElem? hx)) (HGl.out _ hBd))
   have HS:Hid (TwoS (Fu.cells t) (Fu.cells x) ⟨b,j*6,none⟩ ⟨rb,ro+j*6,none⟩ wr.drew):=Lib.hid ⟨hz1,hz2⟩
   have p1:(j:Int)<(n:Int):=by omega
   have HBd:=Lib.hid hBd
   clear hz1 hz2 hrr hx ht hlt hTr hIr hBd
   rw[hra]
   go_wp2_with fail
   refine wp_region_L (l:=9) (S:=(TwoS (Fu.cells t) (Fu.cells x) ⟨b,j*6,none⟩ ⟨rb,ro+j*6,none⟩)) (by kernel_rfl) ?_ (fun hHeld=>?_)
   ·((try dsimp only);(exact HS.out))
   refine tk 0 ?_
   try simp only[sl1,sl2,sl3,Act.put,sl4,sl5,sl6]
   refine tk 1 ?_
   try simp only[sl1,sl2,sl3,Act.put,sl4,sl5,sl6]
   refine tk 2 ?_
   try simp only[sl1,sl2,sl3,Act.put,sl4,sl5,sl6]
   refine tk 4 ?_
   try simp only[sl1,sl2,sl3,Act.put,sl4,sl5,sl6]
   refine tk 5 ?_
   try simp only[sl1,sl2,sl3,Act.put,sl4,sl5,sl6]
   refine tk 6 ?_
   try simp only[sl1,sl2,sl3,Act.put,sl4,sl5,sl6]
   refine tk 3 ?_ (h2:=by intro W hSw;refine Eq.trans (b:=Result.ok (Next.value (.agg (Fu.cells t).toArray)) W) ?_ ?_;rotate_left;with_reducible rfl;exact exec_load_list 53 _ rfl _ rfl (Fu.cells t) _ hSw.1 Tryz.underlying53 rfl (fuSzL _))
   try simp only[sl1,sl2,sl3,Act.put,sl4,sl5,sl6]
   refine tk 7 ?_ (h2:=by intro W hSw;refine Eq.trans (b:=Result.ok (Next.value (.agg (Fu.cells x).toArray)) W) ?_ ?_;rotate_left;with_reducible rfl;exact exec_load_list 53 _ rfl _ rfl (Fu.cells x) _ hSw.2 Tryz.underlying53 rfl (fuSzL _))
   try simp only[sl1,sl2,sl3,Act.put,sl4,sl5,sl6]
   refine wpAnyL_step (j:=8) (o:=_) (by kernel_rfl) rfl (fun K hK=>?_)
   (go_simp;go_at_call 93;refine C.out.mono ?_;rintro e w2 ⟨rfl,hb⟩;have HB2:Hid (Below w.heap.size w w2):=Lib.hid (HBd.out.trans (hb.mono HBd.out.size));have HS2:=Lib.hid (HS.out.keep hb);clear hb)
   exact qabpw_2
  ·obtain rfl:j=n:=by omega
   clear hlt
   go_wp2_with fail
   refine wp_loop_rounds 3 ?_
   rw[rounds_succ]
   have hz:=fuAt_list ((fun h=>((fun h=>(TnUs.row h).got) h).2.1) (HT.out _ hB.out))
   rw[HLt.out]at hz
   go_wp2_with (refine wpList_load_list rfl 53 _ rfl _ rfl (markU j).cells _ hz Tryz.underlying53 rfl (fuSzL _) ?_)
   clear hz
   refine (isFunc_any j (by omega) wr (HGl.out _ hB.out)).mono ?_
   rintro e w1 ⟨rfl,hb⟩
   have HB1:Hid (Below w.heap.size w w1):=Lib.hid (hB.out.trans (hb.mono hB.out.size))
   clear hb
   go_wp2_with fail
   rw[rounds_succ]
   have hz:=fuAt_list ((fun h=>((fun h=>(TnUs.row h).got) h).2.2) (HT.out _ HB1.out))
   rw[HLt.out]at hz
   go_wp2_with (refine wpList_load_list rfl 53 _ rfl _ rfl (markU (j+1)).cells _ hz Tryz.underlying53 rfl (fuSzL _) ?_)
   clear hz
   refine (isFunc_any (j+1) (by omega) w1 (HGl.out _ HB1.out)).mono ?_
   exact qabpw_3
end Go.Proofs.YtkklogikakcanaaGreatDoor
namespace Go.Proofs.YtkklogikakcanaaGreatDoor
open Go Go.RowKit
set_option maxHeartbeats 4000000 in
set_option maxRecDepth 100000 in
theorem isStmtRow_any (n:Nat) (h:n≤100000000000) (A:Option Addr) (c:Nat) (w:World):
  Calls Tryz.prog 96 #[.slice A (1+n % 40) c,.int .i64 n] w fun e w'=>e=.returned (.bool true)∧w'=w:=by
 have e1:IntKind.i64.wrap (1+(n:Int) % 40)=((1+n % 40:Nat):Int):=by rw[IntKind.wrap_i64];omega
 obtain⟨m,hm⟩:∃m,1+n % 40=m:=⟨_,rfl⟩
 rw[hm]at e1 ⊢
 have e2:(n:Int) % 40≤39:=by omega
 have e3:(0:Int)≤(n:Int) % 40:=by omega
 have e4:1+(n:Int) % 40=(m:Int):=by omega
 clear h hm
 go_enter Tryz.func96,Tryz.ntmps96
 go_wp2_with fail
 go_ret
 exact⟨rfl,rfl⟩
theorem TnTs.got {w:World} {g B b c:Nat} {l:List Th} (h:TnTs w g B ⟨some ⟨b,0,none⟩,c⟩ l):
  (∀i y,l[i]? =some y→ThAt w b (i*1) y)∧(∃a c,w.cell? ⟨b,l.length,none⟩=some (.slice a (1+l.length % 40) c))∧∃a c,w.cell? ⟨b,l.length+1,none⟩=some (.slice a (1+(l.length+1) % 40) c):=by
 obtain⟨b2,h1,-,-,-,h5,h6,h7⟩:=h.row
 obtain rfl:b=b2:=by injection h1 with h1;injection h1
 exact⟨h5,h6,h7⟩
abbrev RwS (b j rb ro:Nat) (t x:Th) (W:World):Prop:=W.cell? ⟨b,j,none⟩=some (.slice t.d.a t.l.length t.d.c)∧W.cell? ⟨rb,ro+j,none⟩=some (.slice x.d.a x.l.length x.d.c)
set_option maxHeartbeats 4000000 in
set_option maxRecDepth 100000 in
theorem leftRows_any (lt l:List Th) (hs:lt.map stripT=l.map stripT) (dt d:Hd) (w:World) (hT:TnTs w 0 w.heap.size dt lt) (hI:ThsIn w w.heap.size d l) (G:Globs w):
  Calls Tryz.prog 50 #[.slice dt.a lt.length dt.c,.slice d.a l.length d.c] w fun e w'=>e=.returned (.bool true)∧Below w.heap.size w w':=by
 have hl:lt.length=l.length:=by have:=congrArg List.length hs;simpa using this
 have hel:∀(i:Nat) (t x:Th),lt[i]? =some t→l[i]? =some x→stripSs t.l=stripSs x.l:=fun i t x ht hx=>by
  have:=congrArg (fun l=>l[i]?) hs
  simp[ht,hx,stripT]at this
  exact this
 have HT:Hid (∀W,Below w.heap.size w W→TnTs W 0 W.heap.size dt lt):=Lib.hid fun W hb=>hT.keep (below_eq hb) (Nat.le_refl _) hb.size
 have HI:Hid (∀W,Below w.heap.size w W→ThsIn W W.heap.size d l):=Lib.hid fun W hb=>hI.keep hb hb.size
 have HGl:Hid (∀W,Below w.heap.size w W→Globs W):=Lib.hid fun W hb=>G.below hb
 have HB0:Hid (Below w.heap.size w w):=Lib.hid (Below.refl _ _)
 have hn:=hT.len
 obtain⟨b,hda,-,-,hdc,-⟩:=hT.row
 obtain⟨A,c⟩:=dt
 dsimp only at hda hdc
 subst hda hdc
 obtain⟨n,hN⟩:∃n,lt.length=n:=⟨_,rfl⟩
 have HLt:=Lib.hid hN
 have HLl:Hid (l.length=n):=Lib.hid (by rw[←hN,hl])
 rw[hN]at hn ⊢
 rw[HLl.out]
 have hnI:(n:Int)≤1000000:=by omega
 clear hT hI hN G hl hs
 go_enter Tryz.func50,Tryz.ntmps50
 go_wp2_with fail
 go_loopw [15] (fun ii wr=>∃(j:Nat),ii=.int .i64 j∧j≤n∧Hid (Below w.heap.size w wr)) (fun ii _=>n - (intOf ii).toNat)
 case atStart=>exact⟨0,rfl,Nat.zero_le _,HB0⟩
 case round=>
  obtain⟨j,rfl,hj,hB⟩:=hrel
  clear HB0
  have p2:(0:Int)≤(j:Int):=Int.natCast_nonneg _
  by_cases hlt:j<n
  ·obtain⟨t,ht⟩:∃t,lt[j]? =some t:=⟨_,List.getElem?_eq_getElem (by rw[HLt.out];exact hlt)⟩
   obtain⟨x,hx⟩:∃x,l[j]? =some x:=⟨_,List.getElem?_eq_getElem (by rw[HLl.out];exact hlt)⟩
   have hBd:Below w.heap.size w wr.drew:=hB.out.drew
   have hTr:=HT.out _ hBd
   have hIr:=HI.out _ hBd
   have hz1:=((TnTs.got hTr).1 j t ht).c0
   obtain⟨rb,ro,hra,-,hrr⟩:=hIr.row (by intro h0;have:=HLl.out;rw[h0]at this;simp at this;omega)
   have hz2:=(hrr j x hx).c0
   rw[Nat.mul_one]at hz1 hz2
   have C:=Lib.hid (leftSs_any t.l x.l (hel j t x ht hx) t.d x.d wr.drew (hTr.sub t (List.mem_of_getElem? ht)) (hIr.sub x (List.mem_of_getElem? hx)) (HGl.out _ hBd))
   have HS:Hid (RwS b j rb ro t x wr.drew):=Lib.hid ⟨hz1,hz2⟩
   have p1:(j:Int)<(n:Int):=by omega
   have HBd:=Lib.hid hBd
   clear hz1 hz2 hrr hx ht hlt hTr hIr hBd
   rw[hra]
   go_wp2_with fail
   refine wp_region_L (l:=9) (S:=(RwS b j rb ro t x)) (by kernel_rfl) ?_ (fun hHeld=>?_)
   ·((try dsimp only);(exact HS.out))
   refine tk 0 ?_
   try simp only[sl1,sl2,sl3,Act.put,sl4,sl5,sl6]
   refine tk 1 ?_
   try simp only[sl1,sl2,sl3,Act.put,sl4,sl5,sl6]
   refine tk 2 ?_
   try simp only[sl1,sl2,sl3,Act.put,sl4,sl5,sl6]
   refine tk 4 ?_
   try simp only[sl1,sl2,sl3,Act.put,sl4,sl5,sl6]
   refine tk 5 ?_
   try simp only[sl1,sl2,sl3,Act.put,sl4,sl5,sl6]
   refine tk 6 ?_
   try simp only[sl1,sl2,sl3,Act.put,sl4,sl5,sl6]
   refine tk 3 ?_
   try simp only[sl1,sl2,sl3,Act.put,sl4,sl5,sl6]
   refine tk 7 ?_
   try simp only[sl1,sl2,sl3,Act.put,sl4,sl5,sl6]
   refine wpAnyL_step (j:=8) (o:=_) (by kernel_rfl) rfl (fun K hK=>?_)
   (go_simp;go_at_call 95;refine C.out.mono ?_;rintro e w2 ⟨rfl,hb⟩;have HB2:Hid (Below w.heap.size w w2):=Lib.hid (HBd.out.trans (hb.mono HBd.out.size));have HS2:Hid (RwS b j rb ro t x w2):=Lib.hid (have h:=HS.out;⟨(hb.cell (World.block_lt_of_cell? _ _ h.1)).trans h.1,(hb.cell (World.block_lt_of_cell? _ _ h.2)).trans h.2⟩);clear hb)
   exact qabpw_2
  ·obtain rfl:j=n:=by omega
   clear hlt
   go_wp2_with fail
   refine wp_loop_rounds 3 ?_
   rw[rounds_succ]
   obtain⟨a0,c0,q0⟩:=(HT.out _ hB.out).got.2.1
   rw[HLt.out]at q0
   have C0:=Lib.hid (isStmtRow_any j (by omega) a0 c0 wr)
   obtain⟨m0,hm0⟩:∃m0,1+j % 40=m0:=⟨_,rfl⟩
   rw[hm0]at q0 C0
   go_wp2_with fail
   clear q0 hm0
   refine C0.out.mono ?_
   rintro e w1 ⟨rfl,rfl⟩
   go_wp2_with fail
   rw[rounds_succ]
   obtain⟨a1,c1,q1⟩:=(HT.out _ hB.out).got.2.2
   rw[HLt.out]at q1
   have C1:=Lib.hid (isStmtRow_any (j+1) (by omega) a1 c1 w1)
   obtain⟨m1,hm1⟩:∃m1,1+(j+1) % 40=m1:=⟨_,rfl⟩
   rw[hm1]at q1 C1
   go_wp2_with fail
   clear q1 hm1
   refine C1.out.mono ?_
   rintro e w2 ⟨rfl,rfl⟩
   go_wp2_with fail
   rw[rounds_succ]
   go_wp2_with fail
   go_ret
   exact⟨rfl,hB.out⟩
set_option maxHeartbeats 4000000 in
set_option maxRecDepth 100000 in
theorem leftPr_any (q p:Pr) (hs:stripP q=stripP p) (w:World) (hT:TnP w 0 w.heap.size q) (hI:PrIn w w.heap.size p) (G:Globs w):
  Calls Tryz.prog 14 #[.agg q.cells.toArray,.agg p.cells.toArray] w fun e w'=>e=.returned (.bool true)∧Below w.heap.size w w':=by
 obtain⟨rd1,rs1,sd1,ss1,fd1,fs1,td1,ts1⟩:=q
 obtain⟨rd2,rs2,sd2,ss2,fd2,fs2,td2,ts2⟩:=p
 unfold stripP at hs
 injection hs with e1 e2 e3 e4 e5 e6 e7 e8
 dsimp only at e2 e4 e6 e8
 subst e4
 have Hm:Hid (∀W,Below w.heap.size w W→TnP W 0 W.heap.size ⟨rd1,rs1,sd1,ss1,fd1,fs1,td1,ts1⟩∧PrIn W W.heap.size ⟨rd2,rs2,sd2,ss1,fd2,fs2,td2,ts2⟩∧Globs W):=Lib.hid fun W h=>⟨hT.keep (below_eq h) (Nat.le_refl _) h.size,hI.keep h h.size,G.below h⟩
 have He:=Lib.hid (And.intro e2 (And.intro e6 e8))
 clear e2 e6 e8 hT hI G
 obtain⟨X,hX⟩:∃X,w.heap.size=X:=⟨_,rfl⟩
 obtain⟨o,ho⟩:∃o,(.cells (Pr.mk rd1 rs1 sd1 ss1 fd1 fs1 td1 ts1).cells.toArray 27 (0,0):Obj)=o:=⟨_,rfl⟩
 obtain⟨o2,ho2⟩:∃o2,(.cells (Pr.mk rd2 rs2 sd2 ss1 fd2 fs2 td2 ts2).cells.toArray 27 (0,0):Obj)=o2:=⟨_,rfl⟩
 obtain⟨w2,hw2⟩:∃w2,(w.alloc o).alloc o2=w2:=⟨_,rfl⟩
 have hb1:Below w.heap.size w (w.alloc o):=(Below.refl _ _).alloc (Nat.le_refl _) _
 have hb2:Below w.heap.size w w2:=by rw[←hw2];exact hb1.alloc hb1.size _
 have hs1:(w.alloc o).heap.size=X+1:=by rw[World.size_alloc,hX]
 have xx1:(w.alloc o).heap[X]? =some o:=by rw[←hX];exact heap_alloc_new w _
 have xx2:w2.heap[X]? =some o:=by
  exact qabpw_4
 have yy2:w2.heap[X+1]? =some o2:=by rw[←hw2,←hs1];exact heap_alloc_new _ _
 rw[←ho]at xx2
 rw[←ho2]at yy2
 have HR:Hid (∀W,Below w2.heap.size w2 W→W.heap[X]? =some (.cells (Pr.mk rd1 rs1 sd1 ss1 fd1 fs1 td1 ts1).cells.toArray 27 (0,0))∧W.heap[X+1]? =some (.cells (Pr.mk rd2 rs2 sd2 ss1 fd2 fs2 td2 ts2).cells.toArray 27 (0,0))):=Lib.hid fun W hb=>⟨(hb.block X (blk_lt xx2)).trans xx2,(hb.block (X+1) (blk_lt yy2)).trans yy2⟩
 have HP:Hid (∀W,Below w2.heap.size w2 W→Below w.heap.size w W):=Lib.hid fun W hb=>hb2.trans (hb.mono hb2.size)
 have HB2:Hid (Below w2.heap.size w2 w2):=Lib.hid (Below.refl _ _)
 have hr:=HR.out _ HB2.out
 have a0:w2.cell? ⟨X,0,none⟩=some (.slice rd1.a rs1.length rd1.c):=cell_at hr.1 0
 have b0:w2.cell? ⟨X+1,0,none⟩=some (.slice rd2.a rs2.length rd2.c):=cell_at hr.2 0
 have C2:=Lib.hid (leftRecords_any rs1 rs2 He.out.1 rd1 rd2 w2 (Hm.out _ (HP.out _ HB2.out)).1.rs ⟨(Hm.out _ (HP.out _ HB2.out)).2.1.rlen,(Hm.out _ (HP.out _ HB2.out)).2.1.rrow,(Hm.out _ (HP.out _ HB2.out)).2.1.rsub⟩ (Hm.out _ (HP.out _ HB2.out)).2.2)
 rw[←hw2]at a0 b0
 have HN:Hid (w.heap.size=X∧(w.alloc o).alloc o2=w2):=Lib.hid ⟨hX,hw2⟩
 clear hb1 hb2 xx1 xx2 yy2 hw2 hr
 go_enter Tryz.func14,Tryz.ntmps14
 go_wp2_with fail
 simp only[HN.out.2]
 clear a0 b0
 refine C2.out.mono ?_
 rintro e w3 ⟨rfl,hb⟩
 have HB3:Hid (Below w2.heap.size w2 w3):=Lib.hid (HB2.out.trans (hb.mono HB2.out.size))
 clear hb
 have hr:=HR.out _ HB3.out
 have a1:w3.cell? ⟨X,1,none⟩=some (.slice sd1.a ss1.length sd1.c):=cell_at hr.1 1
 have b1:w3.cell? ⟨X+1,1,none⟩=some (.slice sd2.a ss1.length sd2.c):=cell_at hr.2 1
 have C3:=Lib.hid (leftFls_any sd1 sd2 ss1 w3 (Hm.out _ (HP.out _ HB3.out)).1.ss (Hm.out _ (HP.out _ HB3.out)).2.1.ss (Hm.out _ (HP.out _ HB3.out)).2.2)
 clear hr C2
 go_wp2_with fail
 clear a1 b1
 refine C3.out.mono ?_
 rintro e w4 ⟨rfl,hb⟩
 have HB4:Hid (Below w2.heap.size w2 w4):=Lib.hid (HB3.out.trans (hb.mono HB3.out.size))
 clear hb
 have hr:=HR.out _ HB4.out
 have a2:w4.cell? ⟨X,2,none⟩=some (.slice fd1.a fs1.length fd1.c):=cell_at hr.1 2
 have b2:w4.cell? ⟨X+1,2,none⟩=some (.slice fd2.a fs2.length fd2.c):=cell_at hr.2 2
 have C4:=Lib.hid (leftFuncs_any fs1 fs2 He.out.2.1 fd1 fd2 w4 (Hm.out _ (HP.out _ HB4.out)).1.fs ⟨(Hm.out _ (HP.out _ HB4.out)).2.1.flen,(Hm.out _ (HP.out _ HB4.out)).2.1.frow,(Hm.out _ (HP.out _ HB4.out)).2.1.fsub⟩ (Hm.out _ (HP.out _ HB4.out)).2.2)
 clear hr C3
 go_wp2_with fail
 clear a2 b2
 refine C4.out.mono ?_
 rintro e w5 ⟨rfl,hb⟩
 have HB5:Hid (Below w2.heap.size w2 w5):=Lib.hid (HB4.out.trans (hb.mono HB4.out.size))
 clear hb
 have hr:=HR.out _ HB5.out
 have a3:w5.cell? ⟨X,3,none⟩=some (.slice td1.a ts1.length td1.c):=cell_at hr.1 3
 have b3:w5.cell? ⟨X+1,3,none⟩=some (.slice td2.a ts2.length td2.c):=cell_at hr.2 3
 have C5:=Lib.hid (leftRows_any ts1 ts2 He.out.2.2 td1 td2 w5 (Hm.out _ (HP.out _ HB5.out)).1.ts ⟨(Hm.out _ (HP.out _ HB5.out)).2.1.tlen,(Hm.out _ (HP.out _ HB5.out)).2.1.trow,(Hm.out _ (HP.out _ HB5.out)).2.1.tsub⟩ (Hm.out _ (HP.out _ HB5.out)).2.2)
 clear hr C4
 go_wp2_with fail
 clear a3 b3
 refine C5.out.mono ?_
 rintro e w6 ⟨rfl,hb⟩
 have HB6:Hid (Below w2.heap.size w2 w6):=Lib.hid (HB5.out.trans (hb.mono HB5.out.size))
 clear hb
 go_wp2_with fail
 go_ret
 exact⟨rfl,(HP.out _ HB6.out)⟩
end Go.Proofs.YtkklogikakcanaaGreatDoor
