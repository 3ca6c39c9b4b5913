import Derived.Test.YtkklogikakcanaaGreatDoorScopeA
set_option linter.unusedVariables false
set_option linter.unusedSimpArgs false
open List renaming getElem_toArray → sl1, getElem_cons_zero → sl2, getElem_cons_succ → sl3, setIfInBounds_toArray → sl4, set_cons_zero → sl5, set_cons_succ → sl6, getElem?_toArray → sl7, getElem?_cons_zero → sl8, getElem?_cons_succ → sl9
namespace Go.Proofs.YtkklogikakcanaaGreatDoor
open Go Go.Maps Go.RowKit
structure SrtAt (w:World) (b o:Nat) (s:Srt):Prop where
 c0:w.cell? ⟨b,o,none⟩=some (.int .u8 s.t.k)
 c1:w.cell? ⟨b,o+1,none⟩=some (.string ⟨s.t.nm.toArray⟩)
 c2:w.cell? ⟨b,o+2,none⟩=some (.int .i64 s.t.n)
 c3:w.cell? ⟨b,o+3,none⟩=some (.bool s.null)
def SrtsAt (w:World) (A:Option Addr) (ss:List Srt):Prop:=ss≠[]→∃b off,A=some ⟨b,off,none⟩∧b<w.heap.size∧∀i s,ss[i]? =some s→SrtAt w b (off+i*4) s
theorem SrtAt.keep {w w':World} {b o:Nat} {s:Srt} (h:SrtAt w b o s) (hk:∀o',w'.cell? ⟨b,o',none⟩=w.cell? ⟨b,o',none⟩):SrtAt w' b o s:=
 ⟨(hk _).trans h.c0,(hk _).trans h.c1,(hk _).trans h.c2,(hk _).trans h.c3⟩
theorem SrtsAt.below {w w':World} {A:Option Addr} {ss:List Srt} (h:SrtsAt w A ss) (hb:Below w.heap.size w w'):SrtsAt w' A ss:=fun hne=>by
 obtain⟨b,off,hA,hlt,hc⟩:=h hne
 exact⟨b,off,hA,Nat.lt_of_lt_of_le hlt hb.size,fun i s hs=>(hc i s hs).keep fun o'=>hb.cell (p:=⟨b,o',none⟩) hlt⟩
def SrEnds (R:Except Int Srt) (e:Ending):Prop:=match R with
 |.ok s=>e=.returned s.val
 |.error er=>e=faultS er
def callS (p:Pr) (nm:List UInt8) (ss:List Srt):Except Int Srt:=
 match funOf p nm with
 |none=>.error 9
 |some i=>
  if ss.length≠((p.fs.map Fu.ps).getD i []).length then .error 10
  else if (List.zipWith (fun s (f:Fl)=>s.fits f.t) ss ((p.fs.map Fu.ps).getD i [])).all id then .ok ⟨(p.fs.map Fu.t).getD i ty0,false⟩ else .error 10
theorem idxOf_lt {α:Type} (f:α→List UInt8) (nm:List UInt8):∀(l:List α) (i:Nat),idxOf f nm l=some i→i<l.length
 |[],i,h=>by rw[idxOf]at h;cases h
 |x::r,i,h=>by
  rw[idxOf]at h
  split at h
  ·injection h with h;subst h;simp
  ·cases hq:idxOf f nm r with
   |none=>rw[hq]at h;cases h
   |some j=>
    rw[hq]at h
    injection h with h
    have:=idxOf_lt f nm r j hq
    subst h
    simp;omega
abbrev CaS (Z Y fb fo fo0 l c:Nat) (s:Srt) (f:Fl) (W:World):Prop:=W.cell? ⟨Z,0,none⟩=some (.int .u8 s.t.k)∧W.cell? ⟨Z,1,none⟩=some (.string ⟨s.t.nm.toArray⟩)∧W.cell? ⟨Z,2,none⟩=some (.int .i64 s.t.n)∧W.cell? ⟨Z,3,none⟩=some (.bool s.null)∧
 W.cell? ⟨Y,1,none⟩=some (.slice (some ⟨fb,fo0,none⟩) l c)∧W.cell? ⟨fb,fo+1,none⟩=some (.int .u8 f.t.k)∧W.cell? ⟨fb,fo+2,none⟩=some (.string ⟨f.t.nm.toArray⟩)∧W.cell? ⟨fb,fo+3,none⟩=some (.int .i64 f.t.n)
theorem CaS.below {Z Y fb fo fo0 l c:Nat} {s:Srt} {f:Fl} {W W':World} (h:CaS Z Y fb fo fo0 l c s f W) (hb:Below W.heap.size W W'):CaS Z Y fb fo fo0 l c s f W':=by
 obtain⟨h0,h1,h2,h3,h4,h5,h6,h7⟩:=h
 exact⟨(hb.cell (World.block_lt_of_cell? _ _ h0)).trans h0,(hb.cell (World.block_lt_of_cell? _ _ h1)).trans h1,(hb.cell (World.block_lt_of_cell? _ _ h2)).trans h2,(hb.cell (World.block_lt_of_cell? _ _ h3)).trans h3,
  (hb.cell (World.block_lt_of_cell? _ _ h4)).trans h4,(hb.cell (World.block_lt_of_cell? _ _ h5)).trans h5,(hb.cell (World.block_lt_of_cell? _ _ h6)).trans h6,(hb.cell (World.block_lt_of_cell? _ _ h7)).trans h7⟩
set_option maxHeartbeats 8000000 in
set_option maxRecDepth 100000 in
theorem scopeCall_any (B Kb Rb Fb Sb:Nat) (p:Pr) (nm:List UInt8) (A:Option Addr) (c:Nat) (ss:List Srt) (w:World) (h:ScIs B Kb Rb Fb Sb p w) (hl:lenOk nm.length) (hA:SrtsAt w A ss) (hls:lenOk ss.length):
  Calls Tryz.prog 173 #[.pointer (some ⟨Kb,0,none⟩),.string ⟨nm.toArray⟩,.slice A ss.length c] w fun e w'=>SrEnds (callS p nm ss) e∧Below w.heap.size w w':=by
 obtain⟨R,hR⟩:∃R,callS p nm ss=R:=⟨_,rfl⟩
 rw[hR]
 obtain⟨X,hX⟩:∃X,w.heap.size=X:=⟨_,rfl⟩
 obtain⟨w1,hw1⟩:∃w1,w.alloc (.cells #[.int .u8 0,.string ⟨([]:List UInt8).toArray⟩,.int .i64 0,.bool false] 213 (0,0))=w1:=⟨_,rfl⟩
 have hb1:Below w.heap.size w w1:=by rw[←hw1];exact (Below.refl _ _).alloc (Nat.le_refl _) _
 have x1:w1.heap[X]? =some (.cells #[.int .u8 0,.string ⟨([]:List UInt8).toArray⟩,.int .i64 0,.bool false] 213 (0,0)):=by rw[←hw1,←hX];exact heap_alloc_new w _
 have h1:=h.below hb1
 have hlk:=intMap_look h1.funs hl
 have k5:=cell_at h1.k 5
 have k2:=cell_at h1.k 2
 simp only[sl7,sl8,sl9]at k5 k2
 have HK:=Lib.hid h1
 have HA:=Lib.hid (hA.below hb1)
 have HN:=Lib.hid (And.intro hX hw1)
 have HB1:=Lib.hid hb1
 have HX1:=Lib.hid x1
 rw[←hw1]at hlk k5
 cases hf:funOf p nm with
 |none=>
  have HE:Hid (R=.error 9):=Lib.hid (by rw[←hR];unfold callS;rw[hf])
  rw[hf]at hlk
  simp only[Option.getD_none,Option.isSome_none]at hlk
  clear hX hw1 hb1 x1 h h1 hA hR hf k2
  go_enter Tryz.func173,Tryz.ntmps173
  go_wp2_with fail
  refine (swant_no 9 _).mono ?_
  rintro e w2 ⟨rfl,rfl⟩
  rw[HN.out.2]
  exact⟨rfl,by rw[HE.out];rfl,HB1.out⟩
 |some i=>
  have hil:=idxOf_lt _ _ _ _ hf
  obtain⟨fu,hfu⟩:∃fu,p.fs[i]? =some fu:=⟨_,List.getElem?_eq_getElem hil⟩
  have hps:(p.fs.map Fu.ps).getD i []=fu.ps:=by rw[List.getD_eq_getElem?_getD,List.getElem?_map,hfu];rfl
  have hft:(p.fs.map Fu.t).getD i ty0=fu.t:=by rw[List.getD_eq_getElem?_getD,List.getElem?_map,hfu];rfl
  have hE:R=if ss.length≠fu.ps.length then .error 10 else if (List.zipWith (fun s (f:Fl)=>s.fits f.t) ss fu.ps).all id then .ok ⟨fu.t,false⟩ else .error 10:=by
   rw[←hR];unfold callS;rw[hf];dsimp only;rw[hps,hft]
  rw[hf]at hlk
  simp only[Option.getD_some,Option.isSome_some]at hlk
  obtain⟨rb,ro,hda,hrb,hrow⟩:=h1.inn.frow (by intro h0;rw[h0]at hil;simp at hil)
  obtain⟨z0,z1,z2,z3,z4,z5⟩:=hrow i fu hfu
  have hFI:=h1.inn.fsub fu (List.mem_of_getElem? hfu)
  rw[hda]at k2
  obtain⟨fnm,pd,ps,ft,bd,body⟩:=fu
  dsimp only at z0 z1 z2 z3 z4 z5 hFI hE
  have hpI:=hFI.ps
  have hY:w1.heap.size=X+1:=by rw[←hw1,World.size_alloc,hX]
  obtain⟨w2,hw2⟩:∃w2,w1.alloc (.cells #[.string ⟨fnm.toArray⟩,.slice pd.a ps.length pd.c,.int .u8 ft.k,.string ⟨ft.nm.toArray⟩,.int .i64 ft.n,.slice bd.a body.length bd.c] 53 (0,0))=w2:=⟨_,rfl⟩
  have hb2:Below w1.heap.size w1 w2:=by rw[←hw2];exact (Below.refl _ _).alloc (Nat.le_refl _) _
  have y2:w2.heap[X+1]? =some (.cells #[.string ⟨fnm.toArray⟩,.slice pd.a ps.length pd.c,.int .u8 ft.k,.string ⟨ft.nm.toArray⟩,.int .i64 ft.n,.slice bd.a body.length bd.c] 53 (0,0)):=by rw[←hw2,←hY];exact heap_alloc_new w1 _
  have HY:Hid (∀W',Below w2.heap.size w2 W'→W'.heap[X+1]? =some (.cells #[.string ⟨fnm.toArray⟩,.slice pd.a ps.length pd.c,.int .u8 ft.k,.string ⟨ft.nm.toArray⟩,.int .i64 ft.n,.slice bd.a body.length bd.c] 53 (0,0))):=Lib.hid fun W' hb=>(hb.block (X+1) (Array.getElem?_eq_some_iff.1 y2).1).trans y2
  have HX:Hid (∀W',Below w2.heap.size w2 W'→W'.heap[X]? =some (.cells #[.int .u8 0,.string ⟨([]:List UInt8).toArray⟩,.int .i64 0,.bool false] 213 (0,0))):=Lib.hid fun W' hb=>(hb.block X (Nat.lt_of_lt_of_le (Array.getElem?_eq_some_iff.1 x1).1 hb2.size)).trans ((hb2.block X (Array.getElem?_eq_some_iff.1 x1).1).trans x1)
  have HSr:Hid (∀W',Below w2.heap.size w2 W'→SrtsAt W' A ss):=Lib.hid fun W' hb=>(HA.out.below hb2).below hb
  have HPs:Hid (∀W',Below w2.heap.size w2 W'→FlsIn W' W'.heap.size pd ps):=Lib.hid fun W' hb=>hpI.keep ((hb2.trans (hb.mono hb2.size)).mono h1.le) (Nat.le_trans h1.le (Nat.le_trans hb2.size hb.size))
  have HBw:Hid (∀W',Below w2.heap.size w2 W'→Below w.heap.size w W'):=Lib.hid fun W' hb=>hb1.trans ((hb2.trans (hb.mono hb2.size)).mono hb1.size)
  have HXl:Hid (w.heap.size≤X):=Lib.hid (by rw[hX];exact Nat.le_refl _)
  have r1:=cell_at y2 1
  simp only[sl7,sl8,sl9]at r1
  rw[←hw1]at k2 z0 z1 z2 z3 z4 z5
  rw[←hw2,←hw1]at r1
  have HN2:Hid ((w.alloc (.cells #[.int .u8 0,.string ⟨([]:List UInt8).toArray⟩,.int .i64 0,.bool false] 213 (0,0))).alloc (.cells #[.string ⟨fnm.toArray⟩,.slice pd.a ps.length pd.c,.int .u8 ft.k,.string ⟨ft.nm.toArray⟩,.int .i64 ft.n,.slice bd.a body.length bd.c] 53 (0,0))=w2∧True):=Lib.hid ⟨by rw[hw1,hw2],trivial⟩
  have HE:=Lib.hid hE
  have p1:(i:Int)<(p.fs.length:Int):=by omega
  have p2:(0:Int)≤(i:Int):=Int.natCast_nonneg _
  have hls2:ss.length≤140737488355328:=hls
  clear hw1 hb1 x1 h h1 hA hR hf hil hfu hps hft hE hda hrb hrow hFI hpI hY hw2 hb2 y2 hls HK HB1 HX1 HA
  by_cases hlen:ss.length=ps.length
  ·have HE2:Hid (R=if (List.zipWith (fun s (f:Fl)=>s.fits f.t) (ss.drop 0) (ps.drop 0)).all id then .ok ⟨ft,false⟩ else .error 10):=Lib.hid (by rw[HE.out,if_neg (not_not_intro hlen),List.drop_zero,List.drop_zero])
   have d1:((ss.length:Int)==(ps.length:Int))=true:=by simp;omega
   have d2:(ss.length==ps.length)=true:=by simpa using hlen
   have HLn:=Lib.hid hlen
   clear hlen HE
   go_enter Tryz.func173,Tryz.ntmps173
   go_wp2_with (go_at_call 116;refine (swant_yes _ _).mono ?_;rintro e w99 ⟨rfl,rfl⟩)
   simp only[HN2.out.1]
   clear hlk k5 k2 z0 z1 z2 z3 z4 z5 r1 d1 d2 p1 p2
   go_loopw [40] (fun ii wr=>∃(j:Nat),ii=.int .i64 j∧j≤ss.length∧Hid (Below w2.heap.size w2 wr)∧Hid (R=if (List.zipWith (fun s (f:Fl)=>s.fits f.t) (ss.drop j) (ps.drop j)).all id then .ok ⟨ft,false⟩ else .error 10)) (fun ii _=>ss.length - (intOf ii).toNat)
   case atStart=>exact⟨0,rfl,Nat.zero_le _,Lib.hid (Below.refl _ _),HE2⟩
   case round=>
    obtain⟨j,rfl,hj,HB,HR⟩:=hrel
    clear HE2
    have p2:(0:Int)≤(j:Int):=Int.natCast_nonneg _
    by_cases hlt:j<ss.length
    ·obtain⟨s,hs⟩:∃s,ss[j]? =some s:=⟨_,List.getElem?_eq_getElem hlt⟩
     obtain⟨f,hf⟩:∃f,ps[j]? =some f:=⟨_,List.getElem?_eq_getElem (by rw[←HLn.out];exact hlt)⟩
     have hd1:ss.drop j=s::ss.drop (j+1):=by
      have:=List.drop_eq_getElem_cons hlt
      rw[List.getElem?_eq_getElem hlt]at hs
      injection hs with hs
      rw[this,hs]
     have hlt2:j<ps.length:=by rw[←HLn.out];exact hlt
     have hd2:ps.drop j=f::ps.drop (j+1):=by
      have:=List.drop_eq_getElem_cons hlt2
      rw[List.getElem?_eq_getElem hlt2]at hf
      injection hf with hf
      rw[this,hf]
     have hR1:=HR.out
     rw[hd1,hd2,List.zipWith_cons_cons,List.all_cons]at hR1
     obtain⟨ab,ao,hA,hab,hac⟩:=HSr.out _ HB.out (by intro h0;rw[h0]at hlt;simp at hlt)
     obtain⟨a0,a1,a2,a3⟩:=hac j s hs
     have hPI:=HPs.out _ HB.out
     obtain⟨fb,fo,hfa,hfb,hfc⟩:=hPI.row (by intro h0;rw[h0]at hlt2;simp at hlt2)
     obtain⟨Z,hZ⟩:∃Z,wr.heap.size=Z:=⟨_,rfl⟩
     obtain⟨w3,hw3⟩:∃w3,wr.alloc (.cells #[.int .u8 s.t.k,.string ⟨s.t.nm.toArray⟩,.int .i64 s.t.n,.bool s.null] 213 (0,0))=w3:=⟨_,rfl⟩
     have hb3:Below wr.heap.size wr w3:=by rw[←hw3];exact (Below.refl _ _).alloc (Nat.le_refl _) _
     have x3:w3.heap[Z]? =some (.cells #[.int .u8 s.t.k,.string ⟨s.t.nm.toArray⟩,.int .i64 s.t.n,.bool s.null] 213 (0,0)):=by rw[←hw3,←hZ];exact heap_alloc_new wr _
     have HB3:Hid (Below w2.heap.size w2 w3):=Lib.hid (HB.out.trans (hb3.mono HB.out.size))
     obtain⟨m0,m1,m2,m3⟩:=(hfc j f hf).keep (w':=w3) fun o'=>hb3.cell (p:=⟨fb,o',none⟩) hfb
     have hy:=HY.out _ HB3.out
     have HS:Hid (CaS Z (X+1) fb (fo+j*4) fo ps.length pd.c s f w3.drew):=Lib.hid ⟨cell_at x3 0,cell_at x3 1,cell_at x3 2,cell_at x3 3,by rw[←hfa];exact cell_at hy 1,m1,m2,m3⟩
     have HN3:=Lib.hid (And.intro hZ hw3)
     have p1:(j:Int)<(ss.length:Int):=by omega
     have p4:(j:Int)<(ps.length:Int):=by omega
     clear hd1 hd2 hs hf hac hfc hab hfb hfa hPI hZ hw3 hb3 x3 m0 m1 m2 m3 hy HR
     rw[hA]
     go_wp2_with fail
     simp only[HN3.out.1,HN3.out.2]
     clear a0 a1 a2 a3
     cases hfit:s.fits f.t with
     |true=>
      rw[hfit]at hR1
      have HR2:Hid (R=if (List.zipWith (fun s (f:Fl)=>s.fits f.t) (ss.drop (j+1)) (ps.drop (j+1))).all id then .ok ⟨ft,false⟩ else .error 10):=Lib.hid (by simpa using hR1)
      have HFt:=Lib.hid hfit
      clear hR1 hfit
      refine wp_region_L (l:=8) (S:=(CaS Z (X+1) fb (fo+j*4) fo ps.length pd.c s f)) (by kernel_rfl) ?_ (fun hHeld=>?_)
      ·((try dsimp only);(exact HS.out))
      refine tk 0 ?_
      try simp only[sl1,sl2,sl3,Act.put,sl4,sl5,sl6]
      refine tk 1 ?_
      try simp only[sl1,sl2,sl3,Act.put,sl4,sl5,sl6]
      refine tk 2 ?_
      try simp only[sl1,sl2,sl3,Act.put,sl4,sl5,sl6]
      refine tk 3 ?_
      try simp only[sl1,sl2,sl3,Act.put,sl4,sl5,sl6]
      refine tk 4 ?_
      try simp only[sl1,sl2,sl3,Act.put,sl4,sl5,sl6]
      refine tk 5 ?_
      try simp only[sl1,sl2,sl3,Act.put,sl4,sl5,sl6]
      refine tk 6 ?_
      try simp only[sl1,sl2,sl3,Act.put,sl4,sl5,sl6]
      refine wpAnyL_step (j:=7) (o:=_) (by kernel_rfl) rfl (fun K hK=>?_)
      (go_simp;go_at_call 155;refine (sfits_any s f.t _).mono ?_;rintro e wf ⟨rfl,hbf⟩;rw[HFt.out];have HBf:=Lib.hid (HB3.out.trans (((Below.refl _ _).drew.trans hbf).mono HB3.out.size));have HSf:Hid (CaS Z (X+1) fb (fo+j*4) fo ps.length pd.c s f wf):=Lib.hid (CaS.below HS.out hbf);clear hbf)
      refine hK _ _ ?_ (fun hHeld=>?_)
      ·((try dsimp only);(exact HSf.out))
      clear hK K
      try simp only[sl1,sl2,sl3,Act.put,sl4,sl5,sl6]
      refine wpAnyL_last (j:=8) (o:=_) (by kernel_rfl) rfl (by rfl) (by kernel_rfl) (fun K hK=>?_)
      (go_simp;go_at_call 116;refine (swant_yes 10 _).mono ?_;rintro e w99 ⟨rfl,rfl⟩)
      (refine hK _ _ ?_;clear hK K)
      try simp only[sl1,sl2,sl3,Act.put,sl4,sl5,sl6]
      clear hHeld HSf HS
      go_wp2_with fail
      go_roundw
      case rel=>exact⟨j+1,by go_num,by omega,HBf,HR2⟩
      case measure=>simp[intOf];omega
     |false=>
      rw[hfit]at hR1
      have HR2:Hid (R=.error 10):=Lib.hid (by simpa using hR1)
      have HFt:=Lib.hid hfit
      clear hR1 hfit
      refine wp_region_L (l:=8) (S:=(CaS Z (X+1) fb (fo+j*4) fo ps.length pd.c s f)) (by kernel_rfl) ?_ (fun hHeld=>?_)
      ·((try dsimp only);(exact HS.out))
      refine tk 0 ?_
      try simp only[sl1,sl2,sl3,Act.put,sl4,sl5,sl6]
      refine tk 1 ?_
      try simp only[sl1,sl2,sl3,Act.put,sl4,sl5,sl6]
      refine tk 2 ?_
      try simp only[sl1,sl2,sl3,Act.put,sl4,sl5,sl6]
      refine tk 3 ?_
      try simp only[sl1,sl2,sl3,Act.put,sl4,sl5,sl6]
      refine tk 4 ?_
      try simp only[sl1,sl2,sl3,Act.put,sl4,sl5,sl6]
      refine tk 5 ?_
      try simp only[sl1,sl2,sl3,Act.put,sl4,sl5,sl6]
      refine tk 6 ?_
      try simp only[sl1,sl2,sl3,Act.put,sl4,sl5,sl6]
      refine wpAnyL_step (j:=7) (o:=_) (by kernel_rfl) rfl (fun K hK=>?_)
      (go_simp;go_at_call 155;refine (sfits_any s f.t _).mono ?_;rintro e wf ⟨rfl,hbf⟩;rw[HFt.out];have HBf:=Lib.hid (HB3.out.trans (((Below.refl _ _).drew.trans hbf).mono HB3.out.size));have HSf:Hid (CaS Z (X+1) fb (fo+j*4) fo ps.length pd.c s f wf):=Lib.hid (CaS.below HS.out hbf);clear hbf)
      refine hK _ _ ?_ (fun hHeld=>?_)
      ·((try dsimp only);(exact HSf.out))
      clear hK K
      try simp only[sl1,sl2,sl3,Act.put,sl4,sl5,sl6]
      refine wpAnyL_last (j:=8) (o:=_) (by kernel_rfl) rfl (by rfl) (by kernel_rfl) (fun K hK=>?_)
      (go_simp;go_at_call 116;refine (swant_no 10 _).mono ?_;rintro e w99 ⟨rfl,rfl⟩;exact⟨rfl,by rw[HR2.out];rfl,HBw.out _ HBf.out⟩)
    ·obtain rfl:j=ss.length:=by omega
     have HR2:Hid (R=.ok ⟨ft,false⟩):=Lib.hid (by have h:=HR.out;rw[List.drop_length,List.zipWith_nil_left]at h;simpa using h)
     have hy:=HY.out _ HB.out
     have hx:=HX.out _ HB.out
     have r2:=cell_at hy 2
     have r3:=cell_at hy 3
     have r4:=cell_at hy 4
     have f0:=frz_at hx 0
     have f1:=frz_at hx 1
     have f2:=frz_at hx 2
     have f3:=frz_at hx 3
     have x0:=cell_at hx 0
     have x1:=cell_at hx 1
     have x2:=cell_at hx 2
     have x3:=cell_at hx 3
     simp only[sl7,sl8,sl9]at r2 r3 r4 x0 x1 x2 x3
     have rowZ:=row_set (row_set (row_set (row_set hx 0 (.int .u8 ft.k)) 1 (.string ⟨ft.nm.toArray⟩)) 2 (.int .i64 ft.n)) 3 (.bool false)
     have y0:=cell_at rowZ 0
     have y1:=cell_at rowZ 1
     have y2:=cell_at rowZ 2
     have y3:=cell_at rowZ 3
     simp at y0 y1 y2 y3
     have HZ:Hid (Below w.heap.size w ((((wr.setCell ⟨X,0,none⟩ (.int .u8 ft.k)).setCell ⟨X,1,none⟩ (.string ⟨ft.nm.toArray⟩)).setCell ⟨X,2,none⟩ (.int .i64 ft.n)).setCell ⟨X,3,none⟩ (.bool false))):=Lib.hid
      (((((HBw.out _ HB.out).setCell (p:=⟨X,0,none⟩) HXl.out _).setCell (p:=⟨X,1,none⟩) HXl.out _).setCell (p:=⟨X,2,none⟩) HXl.out _).setCell (p:=⟨X,3,none⟩) HXl.out _)
     clear hy hx rowZ HR HB
     go_wp2_with fail
     refine bodyPost_ret (v:=.agg #[.int .u8 ft.k,.string ⟨ft.nm.toArray⟩,.int .i64 ft.n,.bool false]) (by simp[results,Tryz.results173,go_sem,y0,y1,y2,y3]) rfl ?_
     exact⟨by rw[HR2.out];rfl,HZ.out⟩
  ·have HE2:Hid (R=.error 10):=Lib.hid (by rw[HE.out,if_pos hlen])
   have d1:((ss.length:Int)==(ps.length:Int))=false:=by simp;omega
   have d2:(ss.length==ps.length)=false:=by simpa using hlen
   clear hlen
   go_enter Tryz.func173,Tryz.ntmps173
   go_wp2_with fail
   refine (swant_yes 9 _).mono ?_
   rintro e w99 ⟨rfl,rfl⟩
   go_wp2_with fail
   refine (swant_no 10 _).mono ?_
   rintro e w3 ⟨rfl,rfl⟩
   exact⟨rfl,by rw[HE2.out];rfl,by rw[HN2.out.1];exact HBw.out _ (Below.refl _ _)⟩
end Go.Proofs.YtkklogikakcanaaGreatDoor
