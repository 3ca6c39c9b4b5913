import Derived.Test.YtkklogikakcanaaGreatDoorRf05I
import Derived.Test.YtkklogikakcanaaGreatDoorScopeG
import Derived.OwnWalk
import Derived.Laws.AppendOwnNone
import Derived.Test.YtkklogikakcanaaGreatDoorLeftA
set_option linter.unusedVariables false
set_option linter.unusedSimpArgs false
open List renaming getElem_toArray → sl1, getElem_cons_zero → sl2, getElem_cons_succ → sl3, setIfInBounds_toArray → sl4, set_cons_zero → sl5, set_cons_succ → sl6, getElem?_toArray → sl7, getElem?_cons_zero → sl8, getElem?_cons_succ → sl9
namespace Go.Proofs.YtkklogikakcanaaGreatDoor
open Go Go.RowKit
theorem q4ju5_7 {P:Prop} (h:P:=by
 have HB7:Hid (Below w.heap.size w w7):=Lib.hid (HBw.out.trans ((HB6.out.grown hgrow HB6.out.size (own_ge HO6.out)).mono HBw.out.size))
 clear hown hgrow q0 q1 q2 q3
 go_wp2_with fail
 go_ret
 exact⟨gg,cp,rfl,HB7.out,HZ.out⟩):P:=h
theorem q4ju5_6 {P:Prop} (h:P:=by
 clear hnm
 go_wp2_with fail
 go_at_call 85
 refine C.out.mono ?_
 rintro e w5 ⟨rfl,hs5,hk5⟩
 have HS5:Hid (St5 X p ((c).bind (kq (mem8 nm ((p.rs.map Re.nm).take (j+1))))) w5):=Lib.hid (by rw[←HM2.out];exact hs5)
 have HK5:=Lib.hid (hK.out.trans hk5)
 clear hs5 hk5 z0 q0 hS hK C HM HM2 e1 e2
 exact q4ju5_2):P:=h
theorem q4ju5_5 {P:Prop} (h:P:=by
 rintro e v ⟨rfl,hs,hk⟩
 have HSv:=Lib.hid hs
 have HKv:=Lib.hid (HK2.out.trans hk)
 clear hs hk q0 q1 q2 q3 q4 t0 t1 t2 hz
 clear r0 r1 r2 r3 r4 r5 r6 r7 r8 r9 r10 r11 r12 r13 r14 r15 r16 r17 r18 r19 r20
 have HSz:Hid (St5 X p R v):=Lib.hid (by rw[←HE.out];exact HSv.out)
 have HKz:=Lib.hid (HKw.out _ HKv.out)
 go_wp2_with fail
 go_end0
 exact⟨rfl,HSz.out,HKz.out⟩):P:=h
theorem q4ju5_4 {P:Prop} (h:P:=by
 clear hnm
 go_wp2_with fail
 go_at_call 85
 refine C.out.mono ?_
 rintro e w5 ⟨rfl,hs5,hk5⟩
 have HS5:Hid (St5 X p ((c.bind (kq (mem8 nm ((p.rs.map Re.nm).take nr)))).bind (kq (mem8 nm ((p.ss.map Fl.nm).take (j+1))))) w5):=Lib.hid (by rw[←HM2.out];exact hs5)
 have HK5:=Lib.hid (hK.out.trans hk5)
 clear hs5 hk5 z0 q1 hS hK C HM HM2 e1 e2
 exact q4ju5_2):P:=h
theorem q4ju5_3 {P:Prop} (h:P:=by
 clear hnm
 go_wp2_with fail
 go_at_call 85
 refine C.out.mono ?_
 rintro e w5 ⟨rfl,hs5,hk5⟩
 have HS5:Hid (St5 X p (((c.bind (kq (mem8 nm ((p.rs.map Re.nm).take nr)))).bind (kq (mem8 nm ((p.ss.map Fl.nm).take ns)))).bind (kq (mem8 nm ((p.fs.map Fu.nm).take (j+1))))) w5):=Lib.hid (by rw[←HM2.out];exact hs5)
 have HK5:=Lib.hid (hK.out.trans hk5)
 clear hs5 hk5 z0 q2 hS hK C HM HM2 e1 e2
 exact q4ju5_2):P:=h
theorem q4ju5_2 {P:Prop} (h:P:=by
 go_wp2_with fail
 go_roundw
 case rel=>exact⟨j+1,by go_num,by omega,HS5,HK5⟩
 case measure=>simp[intOf];omega):P:=h
theorem q4ju5_1 {P:Prop} (h:P:=by
 go_enter Tryz.func87,Tryz.ntmps87
 go_wp2_with fail
 simp only[HN.out.1,HN.out.2]
 have HXi:=Lib.hid ((HSi.out _ HK2.out).x)
 have HSw2:=HS2
 have HKw2:=HK2
 go_at_call 130
 refine (rvalue5_any B X hBX p hp _ d L hL x hgx w2 HSw2.out (HP.out _ HKw2.out) (HLc.out _ HKw2.out) HXi.out).mono ?_
 rintro e w9 ⟨rfl,hs,hk⟩
 obtain⟨Yu,hY⟩:∃Y,w9.heap.size=Y:=⟨_,rfl⟩
 obtain⟨u,hu⟩:∃u,w9.alloc (ofObj (exR p L x).1)=u:=⟨_,rfl⟩
 have hb9:Below w9.heap.size w9 u:=by rw[←hu];exact (Below.refl _ _).alloc (Nat.le_refl _) _
 have yu:u.heap[Yu]? =some (ofObj (exR p L x).1):=by rw[←hu,←hY];exact heap_alloc_new w9 _
 have HYu:Hid (∀W,Kp5 X u W→W.heap[Yu]? =some (ofObj (exR p L x).1)):=Lib.hid fun W hk2=>(hk2.block Yu (lt_blk yu) (by have:=hs.lt;omega)).trans yu
 have HSu:=Lib.hid (hs.below hb9)
 have HKu:=Lib.hid ((HKw2.out.trans hk).trans (Kept.of_below hb9))
 have HUu:=Lib.hid (And.intro hu hY)
 have HKv2:=hk.trans (Kept.of_below hb9)
 clear hs hk hb9 yu hu hY
 clear q0 q1 q2 q3 q4 t0 t1 t2 hz
 clear r0 r1 r2 r3 r4 r5 r6 r7 r8 r9 r10 r11 r12 r13 r14 r15 r16 r17 r18 r19 r20
 go_wp2_with fail
 simp only[HUu.out.1,HUu.out.2]
 go_at_call 132
 refine (rnumber_any (exR p L x).1 u).mono ?_
 rintro e v ⟨rfl,hb⟩
 have HSv:=Lib.hid (HSu.out.below hb)
 have HKv:=Lib.hid (HKu.out.trans (Kept.of_below hb))
 clear hb
 go_wp2_with fail
 go_at_call 85
 refine (rwant5_any X p _ (numB (exR p L x).1) 10 v HSv.out).mono ?_
 rintro e wz ⟨rfl,hs,hk⟩
 have HSz:Hid (St5 X p R wz):=Lib.hid (by rw[←HE.out];exact hs)
 have HKz:=Lib.hid (HKw.out _ (HKv.out.trans hk))
 clear hs hk
 go_wp2_with fail
 first|(go_end0;exact⟨rfl,HSz.out,HKz.out⟩)|(refine bodyPost_ret (results_none rfl _ _ _) rfl ?_;exact⟨rfl,HSz.out,HKz.out⟩)):P:=h
theorem valG_num (p:Pr) (hp:PrTy p) (L:Lc) (hL:∀f∈L,TyI f.t) (x:Ex) (hg:ExGood x):valG p L numB x=match valS p L x with|.error e=>e|.ok v=>if v=numS then 0 else 10:=by
 unfold valG
 cases h:valS p L x with
 |error e=>rfl
 |ok v=>
  dsimp only
  have hv:exS p L x=.ok v:=by
   unfold valS at h
   cases h2:exS p L x with
   |error e=>rw[h2]at h;cases h
   |ok s=>
    rw[h2]at h
    dsimp only at h
    split at h
    ·injection h with h;rw[h]
    ·cases h
  have hs:=(exS_g hp hL x hg v hv).isNum
  unfold numB
  rw[hs]
  simp
theorem valE_zero {p:Pr} {L:Lc} {x:Ex} (h:valE p L x=0):∃v,valS p L x=.ok v∧(exR p L x).1=v:=by
 unfold valE at h
 cases h1:valS p L x with
 |error e=>
  rw[h1]at h
  dsimp only at h
  unfold valS at h1
  cases h2:exS p L x with
  |error e2=>rw[h2]at h1;injection h1 with h1;exact absurd h (by rw[←h1];exact exS_ne p L x e2 h2)
  |ok s=>
   rw[h2]at h1
   dsimp only at h1
   split at h1
   ·cases h1
   ·injection h1 with h1;omega
 |ok v=>
  refine⟨v,rfl,?_⟩
  unfold valS at h1
  unfold exR
  cases h2:exS p L x with
  |error e=>rw[h2]at h1;cases h1
  |ok s=>
   rw[h2]at h1
   dsimp only at h1 ⊢
   split at h1
   ·injection h1 with h1
   ·cases h1
def setE (p:Pr) (l:Lc) (x y:Ex):Int:=match valS p l x with|.error e=>e|.ok v=>valG p l (fun u=>u.fits v.t) y
section
variable {p:Pr} {L:Lc} {res:Ty} {k:Int} {nm:List UInt8} {t:Ty} {x y:Ex} {bd:Hd} {body:List St} {ed:Hd} {els:List St}
theorem stOwn_var:stOwn p L res (.mk 1 nm t x y bd body ed els)=locE p L nm t x:=rfl
theorem stOwn_set:stOwn p L res (.mk 2 nm t x y bd body ed els)=setE p L x y:=rfl
theorem stOwn_ret:stOwn p L res (.mk 7 nm t x y bd body ed els)=resE p L res x:=rfl
theorem stOwn_call:stOwn p L res (.mk 8 nm t x y bd body ed els)=match exS p L x with|.error e=>e|.ok _=>0:=rfl
theorem stOwn_num (h:k=3∨k=4∨k=6):stOwn p L res (.mk k nm t x y bd body ed els)=match valS p L x with|.error e=>e|.ok v=>if v=numS then 0 else 10:=by
 rcases h with rfl|rfl|rfl<;>rfl
theorem stOwn_else (k1:¬k=1) (k2:¬k=2) (k3:¬(k=3∨k=4∨k=6)) (k7:¬k=7) (k8:¬k=8):stOwn p L res (.mk k nm t x y bd body ed els)=0:=by
 unfold stOwn
 show (if k=1 then _ else if k=2 then _ else if k=3∨k=4∨k=6 then _ else if k=7 then _ else if k=8 then _ else (0:Int))=0
 rw[if_neg k1,if_neg k2,if_neg k3,if_neg k7,if_neg k8]
end
set_option maxHeartbeats 40000000 in
set_option maxRecDepth 100000 in
theorem rstmt5_any (B X:Nat) (hBX:B≤X) (p:Pr) (hp:PrTy p) (pa:Int) (d:Hd) (L:Lc) (hL:∀f∈L,TyI f.t) (k:Int) (nm:List UInt8) (t:Ty) (x y:Ex) (bd:Hd) (body:List St) (ed:Hd) (els:List St) (res:Ty) (hg:stGood (.mk k nm t x y bd body ed els))
  (w:World) (h:St5 X p (.on pa) w) (hP:PrIn w B p) (hLc:LcIn X w d L) (hI:StIn w B (.mk k nm t x y bd body ed els)):
  Calls Tryz.prog 87 #[.pointer (some ⟨X,0,none⟩),envV p d L.length,(St.mk k nm t x y bd body ed els).val,res.val] w fun en w'=>en=.returned (.tuple #[])∧St5 X p ((Sc.on pa).bind (kq (stOwn p L res (.mk k nm t x y bd body ed els)))) w'∧Kp5 X w w':=by
 obtain⟨R,hR⟩:∃R,(Sc.on pa).bind (kq (stOwn p L res (.mk k nm t x y bd body ed els)))=R:=⟨_,rfl⟩
 rw[hR]
 rw[stGood]at hg
 obtain⟨hg1,hg2,hg3,-,-⟩:=hg
 have HR:=Lib.hid hR
 clear hR
 have hXl:=h.lt
 obtain⟨Z,hZ⟩:∃Z,w.heap.size=Z:=⟨_,rfl⟩
 obtain⟨w1,hw1⟩:∃w1,w.alloc (envObj p d L.length)=w1:=⟨_,rfl⟩
 obtain⟨wa,hwa⟩:∃wa,w1.alloc (stObj k nm t x y bd.a body.length bd.c ed.a els.length ed.c)=wa:=⟨_,rfl⟩
 obtain⟨w2,hw2⟩:∃w2,wa.alloc (tyBox res.k res.nm res.n)=w2:=⟨_,rfl⟩
 have hs1:w1.heap.size=Z+1:=by rw[←hw1,World.size_alloc,hZ]
 have hsa:wa.heap.size=Z+1+1:=by rw[←hwa,World.size_alloc,hs1]
 have hb1:Below w.heap.size w w1:=by rw[←hw1];exact (Below.refl _ _).alloc (Nat.le_refl _) _
 have hba:Below w1.heap.size w1 wa:=by rw[←hwa];exact (Below.refl _ _).alloc (Nat.le_refl _) _
 have hb2:Below wa.heap.size wa w2:=by rw[←hw2];exact (Below.refl _ _).alloc (Nat.le_refl _) _
 have hb1a:Below w.heap.size w wa:=hb1.trans (hba.mono hb1.size)
 have hb12:Below w.heap.size w w2:=hb1a.trans (hb2.mono hb1a.size)
 have x1:w2.heap[Z]? =some (envObj p d L.length):=(hb2.block Z (by omega)).trans ((hba.block Z (by omega)).trans (by rw[←hw1,←hZ];exact heap_alloc_new w _))
 have xa:w2.heap[Z+1]? =some (stObj k nm t x y bd.a body.length bd.c ed.a els.length ed.c):=(hb2.block (Z+1) (by omega)).trans (by rw[←hwa,←hs1];exact heap_alloc_new w1 _)
 have x2:w2.heap[Z+1+1]? =some (tyBox res.k res.nm res.n):=by rw[←hw2,←hsa];exact heap_alloc_new wa _
 have HEn:Hid (∀W,Kp5 X w2 W→W.heap[Z]? =some (envObj p d L.length)):=Lib.hid fun W hk=>(hk.block Z (lt_blk x1) (by omega)).trans x1
 have HRow:Hid (∀W,Kp5 X w2 W→W.heap[Z+1]? =some (stObj k nm t x y bd.a body.length bd.c ed.a els.length ed.c)):=Lib.hid fun W hk=>(hk.block (Z+1) (lt_blk xa) (by omega)).trans xa
 have HTr:Hid (∀W,Kp5 X w2 W→W.heap[Z+1+1]? =some (tyBox res.k res.nm res.n)):=Lib.hid fun W hk=>(hk.block (Z+1+1) (lt_blk x2) (by omega)).trans x2
 have HKw:Hid (∀W,Kp5 X w2 W→Kp5 X w W):=Lib.hid fun W hk=>(Kept.of_below hb12).trans hk
 have hBl:B≤w.heap.size:=by omega
 have HP:Hid (∀W,Kp5 X w2 W→PrIn W B p):=Lib.hid fun W hk=>hP.keep (Kept.below ((Kept.of_below hb12).trans hk) hBl (fun q hq=>by rw[hq];exact hBX)) (Nat.le_refl B)
 have HSi:Hid (∀W,Kp5 X w2 W→StIn W B (.mk k nm t x y bd body ed els)):=Lib.hid fun W hk=>hI.keep (Kept.below ((Kept.of_below hb12).trans hk) hBl (fun q hq=>by rw[hq];exact hBX)) (Nat.le_refl B)
 have HLc:Hid (∀W,Kp5 X w2 W→LcIn X W d L):=Lib.hid fun W hk=>hLc.kept ((Kept.of_below hb12).trans hk)
 have HS2:=Lib.hid (h.below hb12)
 have HK2:Hid (Kp5 X w2 w2):=Lib.hid (Kept.refl _ _)
 have HN:Hid (((w.alloc (envObj p d L.length)).alloc (stObj k nm t x y bd.a body.length bd.c ed.a els.length ed.c)).alloc (tyBox res.k res.nm res.n)=w2∧w.heap.size=Z):=Lib.hid ⟨by rw[hw1,hwa,hw2],hZ⟩
 have erow:=HEn.out _ HK2.out
 have q0:=cell_at erow 0
 have q1:=cell_at erow 1
 have q2:=cell_at erow 2
 have q3:=cell_at erow 3
 have q4:=cell_at erow 4
 clear erow
 simp only[sl7,sl8,sl9]at q0 q1 q2 q3 q4
 have row:=HRow.out _ HK2.out
 have r0:=cell_at row 0
 have r1:=cell_at row 1
 have r2:=cell_at row 2
 have r3:=cell_at row 3
 have r4:=cell_at row 4
 have r5:=cell_at row 5
 have r6:=cell_at row 6
 have r7:=cell_at row 7
 have r8:=cell_at row 8
 have r9:=cell_at row 9
 have r10:=cell_at row 10
 have r11:=cell_at row 11
 have r12:=cell_at row 12
 have r13:=cell_at row 13
 have r14:=cell_at row 14
 have r15:=cell_at row 15
 have r16:=cell_at row 16
 have r17:=cell_at row 17
 have r18:=cell_at row 18
 have r19:=cell_at row 19
 have r20:=cell_at row 20
 clear row
 simp only[sl7,sl8,sl9]at r0 r1 r2 r3 r4 r5 r6 r7 r8 r9 r10 r11 r12 r13 r14 r15 r16 r17 r18 r19 r20
 have trow:=HTr.out _ HK2.out
 have t0:=cell_at trow 0
 have t1:=cell_at trow 1
 have t2:=cell_at trow 2
 clear trow
 simp only[sl7,sl8,sl9]at t0 t1 t2
 rw[←hw2,←hwa,←hw1,←hZ]at q0 q1 q2 q3 q4 r0 r1 r2 r3 r4 r5 r6 r7 r8 r9 r10 r11 r12 r13 r14 r15 r16 r17 r18 r19 r20 t0 t1 t2
 have HXZ:Hid (X<Z):=Lib.hid (by omega)
 have hz:=row_cells (vs:=stCells k nm t x y bd.a body.length bd.c ed.a els.length ed.c) (HRow.out _ HK2.out)
 rw[←hw2,←hwa,←hw1,←hZ]at hz
 clear hw1 hw2 hwa hs1 hsa hb1 hba hb2 hb1a hb12 x1 x2 xa hP hLc hI h hZ hBl hXl
 dsimp only[St.val,St.k,St.nm,St.t,St.x,St.y,St.bd,St.body,St.ed,St.els,Ty.val]
 by_cases k1:k=1
 ·subst k1
  have HE:Hid ((Sc.on pa).bind (kq (locE p L nm t x))=R):=Lib.hid (by rw[←HR.out,stOwn_var])
  have hgx:noEx x=false→ExGood x:=fun hn=>(hg1 (.inl rfl)).resolve_left (by rw[hn];decide)
  clear hg1 hg2 hg3 HR
  go_enter Tryz.func87,Tryz.ntmps87
  go_wp2_with (refine wpList_load_list rfl 72 _ rfl _ rfl (stCells 1 nm t x y bd.a body.length bd.c ed.a els.length ed.c) _ hz Tryz.underlying72 rfl (stSize ..) ?_)
  simp only[HN.out.1,HN.out.2]
  go_at_call 129
  refine (rlocal5_any B X hBX p hp pa d L hL 1 nm t x y bd body ed els hgx w2 HS2.out (HP.out _ HK2.out) (HLc.out _ HK2.out) (HSi.out _ HK2.out)).mono ?_
  exact q4ju5_5
 by_cases k7:k=7
 ·subst k7
  have HE:Hid ((Sc.on pa).bind (kq (resE p L res x))=R):=Lib.hid (by rw[←HR.out,stOwn_ret])
  have hgx:noEx x=false→ExGood x:=fun hn=>(hg1 (.inr rfl)).resolve_left (by rw[hn];decide)
  clear hg1 hg2 hg3 HR k1
  go_enter Tryz.func87,Tryz.ntmps87
  go_wp2_with (refine wpList_load_list rfl 72 _ rfl _ rfl (stCells 7 nm t x y bd.a body.length bd.c ed.a els.length ed.c) _ hz Tryz.underlying72 rfl (stSize ..) ?_)
  simp only[HN.out.1,HN.out.2]
  go_at_call 133
  refine (rresult5_any B X hBX p hp (.on pa) d L hL 7 nm t x y bd body ed els res hgx w2 HS2.out (HP.out _ HK2.out) (HLc.out _ HK2.out) (HSi.out _ HK2.out)).mono ?_
  exact q4ju5_5
 by_cases k2:k=2
 ·subst k2
  have hgx:ExGood x:=hg2 (.inl rfl)
  have hgy:ExGood y:=hg3 rfl
  have HC2:Hid (∀c2,(Sc.on pa).bind (kq (valE p L x))=c2→(∀q e,c2=.bad q e→c2=R)∧∀a,c2=.on a→((Sc.on a).bind (kq (valE p L y))).bind (kq (orE ((exR p L y).1.fits (exR p L x).1.t) 10))=R):=Lib.hid fun c2 hc=>by
   have hr:=HR.out
   rw[stOwn_set]at hr
   constructor
   ·intro q e hb
    rw[←hr,←hc]
    have hv:valE p L x≠0:=fun h0=>by rw[h0,Sc.bind_kq]at hc;rw[←hc]at hb;cases hb
    unfold valE at hv ⊢
    unfold setE
    cases hx:valS p L x with
    |error e=>rfl
    |ok v=>rw[hx]at hv;exact absurd rfl hv
   ·intro a ha
    have hv:valE p L x=0:=Decidable.byContradiction fun h0=>by rw[Sc.bind_on,kq_ne h0]at hc;rw[←hc]at ha;cases ha
    rw[hv,Sc.bind_kq]at hc
    rw[←hc]at ha
    injection ha with ha
    subst ha
    obtain⟨v,hv1,hv2⟩:=valE_zero hv
    unfold setE at hr
    rw[hv1]at hr
    dsimp only at hr
    rw[←hr,hv2]
    exact valG_eq p L (fun u=>u.fits v.t) y (.on pa)
  clear hg1 hg2 hg3 HR k1 k7
  go_enter Tryz.func87,Tryz.ntmps87
  go_wp2_with fail
  simp only[HN.out.1,HN.out.2]
  have HXi:=Lib.hid ((HSi.out _ HK2.out).x)
  have HSw2:=HS2
  have HKw2:=HK2
  go_at_call 130
  refine (rvalue5_any B X hBX p hp _ d L hL x hgx w2 HSw2.out (HP.out _ HKw2.out) (HLc.out _ HKw2.out) HXi.out).mono ?_
  rintro e w9 ⟨rfl,hs,hk⟩
  obtain⟨Yu,hY⟩:∃Y,w9.heap.size=Y:=⟨_,rfl⟩
  obtain⟨u,hu⟩:∃u,w9.alloc (ofObj (exR p L x).1)=u:=⟨_,rfl⟩
  have hb9:Below w9.heap.size w9 u:=by rw[←hu];exact (Below.refl _ _).alloc (Nat.le_refl _) _
  have yu:u.heap[Yu]? =some (ofObj (exR p L x).1):=by rw[←hu,←hY];exact heap_alloc_new w9 _
  have HYu:Hid (∀W,Kp5 X u W→W.heap[Yu]? =some (ofObj (exR p L x).1)):=Lib.hid fun W hk2=>(hk2.block Yu (lt_blk yu) (by have:=hs.lt;omega)).trans yu
  have HSu:=Lib.hid (hs.below hb9)
  have HKu:=Lib.hid ((HKw2.out.trans hk).trans (Kept.of_below hb9))
  have HUu:=Lib.hid (And.intro hu hY)
  have HKv2:=hk.trans (Kept.of_below hb9)
  clear hs hk hb9 yu hu hY
  clear q0 q1 q2 q3 q4 t0 t1 t2 hz
  clear r0 r1 r2 r3 r4 r5 r6 r7 r8 r9 r10 r11 r12 r13 r14 r15 r16 r17 r18 r19 r20
  obtain⟨c2,hc2⟩:∃c2,(Sc.on pa).bind (kq (valE p L x))=c2:=⟨_,rfl⟩
  have HD:=Lib.hid (HC2.out c2 hc2)
  rw[hc2]at HSu
  obtain⟨pl,er,hlk,hcc⟩:=HSu.out.box
  have c5:=cell_at hlk 5
  simp only[sl7,sl8,sl9]at c5
  have erow:=HEn.out _ HKu.out
  have q0:=cell_at erow 0
  have q1:=cell_at erow 1
  have q2:=cell_at erow 2
  have q3:=cell_at erow 3
  have q4:=cell_at erow 4
  clear erow
  simp only[sl7,sl8,sl9]at q0 q1 q2 q3 q4
  have row:=HRow.out _ HKu.out
  have r0:=cell_at row 0
  have r1:=cell_at row 1
  have r2:=cell_at row 2
  have r3:=cell_at row 3
  have r4:=cell_at row 4
  have r5:=cell_at row 5
  have r6:=cell_at row 6
  have r7:=cell_at row 7
  have r8:=cell_at row 8
  have r9:=cell_at row 9
  have r10:=cell_at row 10
  have r11:=cell_at row 11
  have r12:=cell_at row 12
  have r13:=cell_at row 13
  have r14:=cell_at row 14
  have r15:=cell_at row 15
  have r16:=cell_at row 16
  have r17:=cell_at row 17
  have r18:=cell_at row 18
  have r19:=cell_at row 19
  have r20:=cell_at row 20
  clear row
  simp only[sl7,sl8,sl9]at r0 r1 r2 r3 r4 r5 r6 r7 r8 r9 r10 r11 r12 r13 r14 r15 r16 r17 r18 r19 r20
  rw[←HUu.out.1]at c5 q0 q1 q2 q3 q4 r0 r1 r2 r3 r4 r5 r6 r7 r8 r9 r10 r11 r12 r13 r14 r15 r16 r17 r18 r19 r20
  clear hlk HC2 hc2
  rcases hcc with ⟨rfl,rfl⟩|⟨rfl,hne⟩
  ·have HE:=Lib.hid (HD.out.2 pl rfl)
   go_wp2_with fail
   simp only[HUu.out.1,HUu.out.2]
   have HYi:=Lib.hid ((HSi.out _ HKu.out).y)
   clear c5
   go_at_call 130
   refine (rvalue5_any B X hBX p hp _ d L hL y hgy u HSu.out (HP.out _ HKu.out) (HLc.out _ HKu.out) HYi.out).mono ?_
   rintro e w9 ⟨rfl,hs,hk⟩
   obtain⟨Yu2,hY⟩:∃Y,w9.heap.size=Y:=⟨_,rfl⟩
   obtain⟨u2,hu⟩:∃u,w9.alloc (ofObj (exR p L y).1)=u:=⟨_,rfl⟩
   have hb9:Below w9.heap.size w9 u2:=by rw[←hu];exact (Below.refl _ _).alloc (Nat.le_refl _) _
   have yu:u2.heap[Yu2]? =some (ofObj (exR p L y).1):=by rw[←hu,←hY];exact heap_alloc_new w9 _
   have HYu2:Hid (∀W,Kp5 X u2 W→W.heap[Yu2]? =some (ofObj (exR p L y).1)):=Lib.hid fun W hk2=>(hk2.block Yu2 (lt_blk yu) (by have:=hs.lt;omega)).trans yu
   have HSu2:=Lib.hid (hs.below hb9)
   have HKu2:=Lib.hid ((HKu.out.trans hk).trans (Kept.of_below hb9))
   have HUu2:=Lib.hid (And.intro hu hY)
   have HKv2:=hk.trans (Kept.of_below hb9)
   clear hs hk hb9 yu hu hY
   clear q0 q1 q2 q3 q4
   clear r0 r1 r2 r3 r4 r5 r6 r7 r8 r9 r10 r11 r12 r13 r14 r15 r16 r17 r18 r19 r20
   have HKuu:Hid (Kp5 X u u2):=Lib.hid HKv2
   have yrow:=HYu.out _ HKuu.out
   have y1:=cell_at yrow 1
   have y2:=cell_at yrow 2
   have y3:=cell_at yrow 3
   clear yrow
   simp only[sl7,sl8,sl9]at y1 y2 y3
   rw[←HUu2.out.1]at y1 y2 y3
   go_wp2_with fail
   simp only[HUu2.out.1,HUu2.out.2]
   go_at_call 131
   refine (rfits_any (exR p L y).1 (exR p L x).1.t u2).mono ?_
   rintro e v ⟨rfl,hb⟩
   have HSv:=Lib.hid (HSu2.out.below hb)
   have HKv:=Lib.hid (HKu2.out.trans (Kept.of_below hb))
   clear hb y1 y2 y3
   go_wp2_with fail
   go_at_call 85
   refine (rwant5_any X p _ ((exR p L y).1.fits (exR p L x).1.t) 10 v HSv.out).mono ?_
   rintro e wz ⟨rfl,hs,hk⟩
   have HSz:Hid (St5 X p R wz):=Lib.hid (by rw[←HE.out];exact hs)
   have HKz:=Lib.hid (HKw.out _ (HKv.out.trans hk))
   clear hs hk
   go_wp2_with fail
   first|(go_end0;exact⟨rfl,HSz.out,HKz.out⟩)|(refine bodyPost_ret (results_none rfl _ _ _) rfl ?_;exact⟨rfl,HSz.out,HKz.out⟩)
  ·have t9:(er==0)=false:=by simpa using hne
   have HE:Hid (Sc.bad pl er=R):=Lib.hid (HD.out.1 pl er rfl)
   have HSz:Hid (St5 X p R u):=Lib.hid (by rw[←HE.out];exact HSu.out)
   have HKz:=Lib.hid (HKw.out _ HKu.out)
   clear hne
   go_wp2_with fail
   simp only[HUu.out.1]
   go_end0
   exact⟨rfl,HSz.out,HKz.out⟩
 by_cases k8:k=8
 ·subst k8
  have hgx:ExGood x:=hg2 (.inr (.inr (.inr (.inr rfl))))
  have HE:Hid ((Sc.on pa).bind (kq (exR p L x).2)=R):=Lib.hid (by
   rw[←HR.out,stOwn_call]
   unfold exR
   cases exS p L x<;>rfl)
  clear hg1 hg2 hg3 HR k1 k7 k2
  have hBw:B≤w2.heap.size:=Nat.le_trans hBX (Nat.le_of_lt HS2.out.lt)
  have CE:=Lib.hid (rexpr5_any p hp d L hL _ x (Nat.le_refl _) hgx w2 (prIn_any (HP.out _ HK2.out) hBw) (HLc.out _ HK2.out).fls (exIn_any (HSi.out _ HK2.out).x hBw))
  clear hBw
  go_enter Tryz.func87,Tryz.ntmps87
  go_wp2_with fail
  simp only[HN.out.1,HN.out.2]
  clear q0 q1 q2 q3 q4 t0 t1 t2 hz
  clear r0 r1 r2 r3 r4 r5 r6 r7 r8 r9 r10 r11 r12 r13 r14 r15 r16 r17 r18 r19 r20
  go_at_call 134
  refine CE.out.mono ?_
  rintro e w9 ⟨rfl,hb⟩
  obtain⟨u,hu⟩:∃u,w9.alloc (ofObj (exR p L x).1)=u:=⟨_,rfl⟩
  have hb9:Below w2.heap.size w2 u:=by rw[←hu];exact hb.alloc hb.size _
  have HSu:=Lib.hid (HS2.out.below hb9)
  have HKu:Hid (Kp5 X w2 u):=Lib.hid (Kept.of_below hb9)
  have HUu:=Lib.hid hu
  clear hb hb9 hu
  go_wp2_with fail
  simp only[HUu.out]
  go_at_call 128
  refine (rkeep5_any X p _ (exR p L x).2 u HSu.out).mono ?_
  rintro e v ⟨rfl,hs,hk⟩
  have HSv:=Lib.hid hs
  have HKv:=Lib.hid (HKu.out.trans hk)
  clear hs hk
  have HSz:Hid (St5 X p R v):=Lib.hid (by rw[←HE.out];exact HSv.out)
  have HKz:=Lib.hid (HKw.out _ HKv.out)
  go_wp2_with fail
  go_end0
  exact⟨rfl,HSz.out,HKz.out⟩
 by_cases k346:k=3∨k=4∨k=6
 ·have hgx:ExGood x:=hg2 (by omega)
  have HE:Hid (((Sc.on pa).bind (kq (valE p L x))).bind (kq (orE (numB (exR p L x).1) 10))=R):=Lib.hid (by
   rw[←HR.out,stOwn_num k346,valG_eq p L numB x (.on pa),valG_num p hp L hL x hgx])
  clear hg1 hg2 hg3 HR k1 k7 k2 k8
  rcases k346 with rfl|rfl|rfl
  ·exact q4ju5_1
  ·exact q4ju5_1
  ·exact q4ju5_1
 have HE:Hid (Sc.on pa=R):=Lib.hid (by
  rw[←HR.out,stOwn_else k1 k2 k346 k7 k8];rfl)
 have b1:(k==1)=false:=by simpa using k1
 have b2:(k==2)=false:=by simpa using k2
 have b3:(k==3)=false:=by simp;omega
 have b4:(k==4)=false:=by simp;omega
 have b6:(k==6)=false:=by simp;omega
 have b7:(k==7)=false:=by simpa using k7
 have b8:(k==8)=false:=by simpa using k8
 have HSz:Hid (St5 X p R w2):=Lib.hid (by rw[←HE.out];exact HS2.out)
 have HKz:=Lib.hid (HKw.out _ HK2.out)
 clear hg1 hg2 hg3 HR k1 k7 k2 k8 k346
 go_enter Tryz.func87,Tryz.ntmps87
 go_wp2_with fail
 simp only[HN.out.1]
 go_end0
 exact⟨rfl,HSz.out,HKz.out⟩
end Go.Proofs.YtkklogikakcanaaGreatDoor
namespace Go.Proofs.YtkklogikakcanaaGreatDoor
open Go Go.RowKit
abbrev flCells (f:Fl):List Value:=[.string ⟨f.nm.toArray⟩,.int .u8 f.t.k,.string ⟨f.t.nm.toArray⟩,.int .i64 f.t.n]
theorem flat_back {α:Type} (f:α→List Value) (k:Nat) (hf:∀x,(f x).length=k):∀(l:List α) (j:Nat) (u:Value),(l.flatMap f)[j]? =some u→∃i x,l[i]? =some x∧i*k≤j∧(f x)[j - i*k]? =some u
 |[],j,u,h=>by simp at h
 |x::l,j,u,h=>by
  rw[List.flatMap_cons]at h
  by_cases hj:j<k
  ·rw[List.getElem?_append_left (by rw[hf];exact hj)]at h
   exact⟨0,x,rfl,by omega,by simpa using h⟩
  ·rw[List.getElem?_append_right (by rw[hf];omega),hf]at h
   obtain⟨i,y,h1,h2,h3⟩:=flat_back f k hf l (j - k) u h
   refine⟨i+1,y,by simpa using h1,?_,?_⟩
   ·rw[Nat.add_mul];omega
   ·rw[←h3];congr 1;rw[Nat.add_mul];omega
theorem add_mk (b o j:Nat):((⟨b,o,none⟩:Addr).add j)=⟨b,o+j,none⟩:=by
 unfold Addr.add
 split
 ·rename_i h;rw[h];rfl
 ·rfl
theorem fl_news {w:World} {b off:Nat} {L:List Fl} (h:∀i f,L[i]? =some f→FlAt w b (off+i*4) f):∀j u,(L.flatMap flCells)[j]? =some u→w.cell? ((⟨b,off,none⟩:Addr).add j)=some u:=fun j u hu=>by
 obtain⟨i,f,h1,h2,h3⟩:=flat_back flCells 4 (fun _=>rfl) L j u hu
 have ha:=h i f h1
 obtain⟨r,hr⟩:∃r,j - i*4=r:=⟨_,rfl⟩
 rw[hr]at h3
 have hj:off+j=off+i*4+r:=by omega
 rw[add_mk,hj]
 match r,h3 with
 |0,h3=>exact ha.c0.trans h3
 |1,h3=>exact ha.c1.trans h3
 |2,h3=>exact ha.c2.trans h3
 |3,h3=>exact ha.c3.trans h3
 |r+4,h3=>simp at h3
theorem own_ge {w:World} {B e k n:Nat} {v:Value} {xs:List Value} (h:w.ownsRow B e k v n xs):∀g,v.ownBlock=some g→B≤g:=fun g hg=>by
 rcases h.2 with ⟨hv,-⟩|⟨g2,cap,cur,hv,hb,-⟩
 ·rw[hv]at hg;cases hg
 ·rw[hv]at hg;injection hg with hg;rw[←hg];exact hb
theorem moreZ {w w1 w7:World} {L:List Fl} {f:Fl} {gg cp:Nat} (hb:Below w.heap.size w w1) (hlt:w.heap.size<w1.heap.size) (h:w7.ownsRow w1.heap.size 93 4 (.slice (some ⟨gg,0,none⟩) (L.length+1) cp) (L.length+1) (L.flatMap flCells++flCells f)):
  w.heap.size≤gg∧gg<w7.heap.size∧∀i f2,(L++[f])[i]? =some f2→FlAt w7 gg (0+i*4) f2:=by
 have hg:=own_ge h gg rfl
 have hl:gg<w7.heap.size:=by
  rcases h.2 with ⟨hv,-⟩|⟨g2,cap,cur,hv,-,hh,-⟩
  ·cases hv
  ·simp only[Value.slice.injEq,Option.some.injEq,Addr.mk.injEq,and_true]at hv
   obtain⟨rfl,-⟩:=hv
   exact (Array.getElem?_eq_some_iff.1 hh).1
 have hc:=h.cells (g:=gg) rfl
 have e0:L.flatMap flCells++flCells f=(L++[f]).flatMap flCells:=by rw[List.flatMap_append];simp
 rw[e0]at hc
 refine⟨by omega,hl,fun i f2 hf=>?_⟩
 have e:∀j,j<4→w7.cell? ⟨gg,0+i*4+j,none⟩=(flCells f2)[j]? :=fun j hj=>by
  have h1:=flat_at flCells 4 (fun _=>rfl) (L++[f]) i j f2 hf hj
  obtain⟨u,hu⟩:∃u,(flCells f2)[j]? =some u:=⟨_,List.getElem?_eq_getElem (by show j<4;exact hj)⟩
  rw[hu]at h1 ⊢
  have h2:=hc _ _ h1
  rw[add_mk]at h2
  rw[show 0+i*4+j=0+(i*4+j) by omega]
  exact h2
 exact⟨e 0 (by decide),e 1 (by decide),e 2 (by decide),e 3 (by decide)⟩
theorem run_append_none5 {P:Program} {w:World} {base t ty e:Nat} {i:TypeInfo} {size:Nat} (ht:P.underlying t=some (.slice e)) (hi:P.info? e=some i) {g n cap c:Nat} {xs:List Value} (hown:w.ownsRow base e size (.slice (some ⟨g,0,none⟩) n cap) n xs):
  (Builtin.append_ #[t,t] ty #[.slice (some ⟨g,0,none⟩) n cap,.slice none 0 c]).run P w=.ok (.slice (some ⟨g,0,none⟩) n cap) w:=by
 rcases hown.2 with ⟨hv,-⟩|⟨g2,cap2,cur,hv,-,-,hnc,-⟩
 ·cases hv
 ·simp only[Value.slice.injEq,Option.some.injEq,Addr.mk.injEq,and_true]at hv
  obtain⟨rfl,-,rfl⟩:=hv
  simp[Builtin.append_,run_underlying ht,sizeOf,typeInfo,hi,Builtin.lenOf,Builtin.firstCells,hnc,storeCells]
theorem wpList_append_none5 {P:Program} {w:World} {ops:Array Oper} {rest:List Oper} {o:Oper} {a:Act} {Q:Exit→Act→World→Prop} (hgd:o.guard=none) (s x:Operand) (t:TypeId)
  (ho:o.op=.call { callee:=.builtin .append,args:=#[s,x],argTypes:=#[t,t] })
  (base:Nat) (e:TypeId) (i:TypeInfo) (size:Nat) (ht:P.underlying t=some (.slice e)) (hi:P.info? e=some i) (g n cap c:Nat) (xs:List Value) (hs:a.eval s=.slice (some ⟨g,0,none⟩) n cap)
  (hown:w.ownsRow base e size (.slice (some ⟨g,0,none⟩) n cap) n xs) (hx:a.eval x=.slice none 0 c)
  (h:wpList P ops Q rest (a.put o.dst (.slice (some ⟨g,0,none⟩) n cap)) w):wpList P ops Q (o::rest) a w:=by
 refine wpList_plain hgd fun K hK=>?_
 have hrun:=run_append_none5 (P:=P) (w:=w) (ty:=o.type) (c:=c) ht hi hown
 unfold Oper.wp
 simp[execOp,ho,resolve,invoke,builtin,hs,hx,hrun,Result.andThen]
 exact hK _ _ h
theorem fl_len (L:List Fl):(L.flatMap flCells).length=L.length*4:=by
 induction L with
 |nil=>rfl
 |cons f L ih=>rw[List.flatMap_cons,List.length_append,ih,List.length_cons];simp;omega
theorem fl_one (L:List Fl):∀u∈L.flatMap flCells,u.oneCell'=true:=fun u hu=>by
 obtain⟨f,-,hf⟩:=List.mem_flatMap.1 hu
 simp at hf
 rcases hf with rfl|rfl|rfl|rfl<;>rfl
set_option maxHeartbeats 8000000 in
set_option maxRecDepth 100000 in
theorem rmore_any (d:Hd) (L:List Fl) (f:Fl) (w:World) (hL:FlsIn w w.heap.size d L) (hn:L.length≤100000):
  Calls Tryz.prog 88 #[.slice d.a L.length d.c,f.val] w fun e w'=>∃g c,e=.returned (.slice (some ⟨g,0,none⟩) (L.length+1) c)∧Below w.heap.size w w'∧w.heap.size≤g∧g<w'.heap.size∧∀i f2,(L++[f])[i]? =some f2→FlAt w' g (0+i*4) f2:=by
 obtain⟨fn,⟨fk,ft,fi⟩⟩:=f
 obtain⟨Z,hZ⟩:∃Z,w.heap.size=Z:=⟨_,rfl⟩
 obtain⟨w1,hw1⟩:∃w1,w.alloc (.cells #[.string ⟨fn.toArray⟩,.int .u8 fk,.string ⟨ft.toArray⟩,.int .i64 fi] 93 (0,0))=w1:=⟨_,rfl⟩
 have hb1:Below w.heap.size w w1:=by rw[←hw1];exact (Below.refl _ _).alloc (Nat.le_refl _) _
 have x1:w1.heap[Z]? =some (.cells #[.string ⟨fn.toArray⟩,.int .u8 fk,.string ⟨ft.toArray⟩,.int .i64 fi] 93 (0,0)):=by rw[←hw1,←hZ];exact heap_alloc_new w _
 have HF1:=Lib.hid x1
 have HBw:=Lib.hid hb1
 have HW1:Hid (w.heap.size<w1.heap.size):=Lib.hid (by rw[hZ];exact lt_blk x1)
 have HL:Hid (∀W,Below w.heap.size w W→FlsIn W w.heap.size d L):=Lib.hid fun W hb=>hL.keep hb (Nat.le_refl _)
 have HN:Hid (w.alloc (.cells #[.string ⟨fn.toArray⟩,.int .u8 fk,.string ⟨ft.toArray⟩,.int .i64 fi] 93 (0,0))=w1∧w.heap.size=Z):=Lib.hid ⟨hw1,hZ⟩
 obtain⟨i0,hi0,hz0,hz1,hz2⟩:=info_parts infoFl
 have e1:IntKind.i64.wrap ((L.length:Int)+1)=((L.length+1:Nat):Int):=by rw[IntKind.wrap_i64];omega
 clear hw1 hb1 x1 hL hZ
 obtain⟨da,dc⟩:=d
 dsimp only[Fl.val]
 cases da with
 |none=>
  obtain rfl:L=[]:=by
   cases L with
   |nil=>rfl
   |cons f r=>
    obtain⟨b,off,h1,-⟩:=(HL.out w (Below.refl _ _)).row (by simp)
    cases h1
  go_enter Tryz.func88,Tryz.ntmps88
  go_wp2_with (at_make;rw[HN.out.1];refine wpList_make_own _ rfl _ _ 23 rfl w1.heap.size 93 i0 _ 4 Tryz.underlying23 hi0 hz0 hz1 .i64 .i64 _ 1 rfl rfl rfl (by rw[hz2];omega) (by unfold maxLen;omega) (Nat.le_refl _) ?_)
  intro w3 hown hgrow
  have HO3:=Lib.hid hown
  have HB3:Hid (Below w1.heap.size w1 w3):=Lib.hid ((Below.refl w1.heap.size w1).grown hgrow (Nat.le_refl _) (fun k h=>by cases h))
  clear hown hgrow
  simp only[HN.out.2]
  obtain⟨w5,hw5⟩:∃w5,w5=w3:=⟨_,rfl⟩
  subst hw5
  have hb5:=HB3.out
  have ho5:=HO3.out
  have HB5:=Lib.hid hb5
  have HO5:=Lib.hid ho5
  have brow:=(hb5.block Z (lt_blk HF1.out)).trans HF1.out
  have q0:=cell_at brow 0
  have q1:=cell_at brow 1
  have q2:=cell_at brow 2
  have q3:=cell_at brow 3
  simp only[sl7,sl8,sl9]at q0 q1 q2 q3
  have HO6:Hid ((w5.alloc (.cells #[.string ⟨fn.toArray⟩,.int .u8 fk,.string ⟨ft.toArray⟩,.int .i64 fi] 93 (0,0))).ownsRow w1.heap.size 93 4 (.slice (some ⟨w1.heap.size,0,none⟩) ([]:List Fl).length 1) ([]:List Fl).length (([]:List Fl).flatMap flCells)):=Lib.hid (ho5.alloc _)
  have HB6:Hid (Below w1.heap.size w1 (w5.alloc (.cells #[.string ⟨fn.toArray⟩,.int .u8 fk,.string ⟨ft.toArray⟩,.int .i64 fi] 93 (0,0)))):=Lib.hid (hb5.alloc hb5.size _)
  clear hb5 ho5 brow e1
  go_wp2_with (first|(at_builtin;refine wpList_append_none5 rfl _ _ 23 rfl w1.heap.size 93 i0 4 Tryz.underlying23 hi0 w1.heap.size 0 1 dc [] rfl HO3.out rfl ?_)|(at_builtin;refine wpList_append_own _ rfl _ _ 23 rfl w1.heap.size 93 i0 _ 4 48 Tryz.underlying23 hi0 hz0 hz1 hz2 rfl (by decide) (.slice (some ⟨w1.heap.size,0,none⟩) ([]:List Fl).length 1) ([]:List Fl).length (([]:List Fl).flatMap flCells) rfl HO6.out ⟨w5.heap.size,0,none⟩ 1 1 [.string ⟨fn.toArray⟩,.int .u8 fk,.string ⟨ft.toArray⟩,.int .i64 fi] rfl rfl (World.news_of_block (heap_alloc_new w5 _)) (by simp[Value.oneCell']) (by unfold maxLen;omega) (by omega) HB6.out.size ?_))
  intro v' w7 hown hgrow hnil
  clear hnil
  obtain⟨gg,cp,rfl⟩:∃gg cp,v'=.slice (some ⟨gg,0,none⟩) (([]:List Fl).length+1) cp:=hown.2.elim (fun h=>absurd h.2 (by omega)) (fun ⟨gg,cp,cur,h,_⟩=>⟨gg,cp,h⟩)
  have HZ:=Lib.hid (moreZ (L:=([]:List Fl)) (f:=⟨fn,⟨fk,ft,fi⟩⟩) HBw.out HW1.out hown)
  exact q4ju5_7
 |some ad=>
  have HNw:Hid (∀W,Below w.heap.size w W→∀j u,(L.flatMap flCells)[j]? =some u→W.cell? (ad.add j)=some u):=Lib.hid fun W hb=>by
   cases L with
   |nil=>intro j u hu;simp at hu
   |cons f r=>
    obtain⟨b,off,h1,-,h3⟩:=(HL.out W hb).row (by simp)
    dsimp only at h1
    injection h1 with h1
    subst h1
    exact fl_news h3
  go_enter Tryz.func88,Tryz.ntmps88
  go_wp2_with (at_make;rw[HN.out.1];refine wpList_make_own _ rfl _ _ 23 rfl w1.heap.size 93 i0 _ 4 Tryz.underlying23 hi0 hz0 hz1 .i64 .i64 _ (L.length+1) rfl rfl rfl (by rw[hz2];omega) (by unfold maxLen;omega) (Nat.le_refl _) ?_)
  intro w3 hown hgrow
  have HO3:=Lib.hid hown
  have HB3:Hid (Below w1.heap.size w1 w3):=Lib.hid ((Below.refl w1.heap.size w1).grown hgrow (Nat.le_refl _) (fun k h=>by cases h))
  clear hown hgrow
  simp only[HN.out.2]
  go_wp2_with (at_builtin;refine wpList_append_own _ rfl _ _ 23 rfl w1.heap.size 93 i0 _ 4 48 Tryz.underlying23 hi0 hz0 hz1 hz2 rfl (by decide) (.slice (some ⟨w1.heap.size,0,none⟩) 0 (L.length+1)) 0 [] rfl HO3.out ad L.length dc (L.flatMap flCells) rfl (fl_len L) (HNw.out _ (HBw.out.trans (HB3.out.mono HBw.out.size))) (fl_one L) (by unfold maxLen;omega) (by omega) HB3.out.size ?_)
  intro v5 w5 hown5 hgrow5 hnil5
  clear hnil5
  have ho5:w5.ownsRow w1.heap.size 93 4 v5 L.length (L.flatMap flCells):=by
   simpa using hown5
  have hb5:Below w1.heap.size w1 w5:=HB3.out.grown hgrow5 HB3.out.size (own_ge HO3.out)
  have HB5:=Lib.hid hb5
  have HO5:=Lib.hid ho5
  have brow:=(hb5.block Z (lt_blk HF1.out)).trans HF1.out
  have q0:=cell_at brow 0
  have q1:=cell_at brow 1
  have q2:=cell_at brow 2
  have q3:=cell_at brow 3
  simp only[sl7,sl8,sl9]at q0 q1 q2 q3
  have HO6:Hid ((w5.alloc (.cells #[.string ⟨fn.toArray⟩,.int .u8 fk,.string ⟨ft.toArray⟩,.int .i64 fi] 93 (0,0))).ownsRow w1.heap.size 93 4 v5 (L).length ((L).flatMap flCells)):=Lib.hid (ho5.alloc _)
  have HB6:Hid (Below w1.heap.size w1 (w5.alloc (.cells #[.string ⟨fn.toArray⟩,.int .u8 fk,.string ⟨ft.toArray⟩,.int .i64 fi] 93 (0,0)))):=Lib.hid (hb5.alloc hb5.size _)
  clear hb5 ho5 brow hown5 hgrow5 e1
  go_wp2_with (first|(fail)|(at_builtin;refine wpList_append_own _ rfl _ _ 23 rfl w1.heap.size 93 i0 _ 4 48 Tryz.underlying23 hi0 hz0 hz1 hz2 rfl (by decide) v5 (L).length ((L).flatMap flCells) rfl HO6.out ⟨w5.heap.size,0,none⟩ 1 1 [.string ⟨fn.toArray⟩,.int .u8 fk,.string ⟨ft.toArray⟩,.int .i64 fi] rfl rfl (World.news_of_block (heap_alloc_new w5 _)) (by simp[Value.oneCell']) (by unfold maxLen;omega) (by omega) HB6.out.size ?_))
  intro v' w7 hown hgrow hnil
  clear hnil
  obtain⟨gg,cp,rfl⟩:∃gg cp,v'=.slice (some ⟨gg,0,none⟩) ((L).length+1) cp:=hown.2.elim (fun h=>absurd h.2 (by omega)) (fun ⟨gg,cp,cur,h,_⟩=>⟨gg,cp,h⟩)
  have HZ:=Lib.hid (moreZ (L:=(L)) (f:=⟨fn,⟨fk,ft,fi⟩⟩) HBw.out HW1.out hown)
  exact q4ju5_7
end Go.Proofs.YtkklogikakcanaaGreatDoor
namespace Go.Proofs.YtkklogikakcanaaGreatDoor
open Go Go.RowKit
theorem exEnd_congr {p:Pr} {l l':Lc} (h:∀nm,fieldOf l nm=fieldOf l' nm) (k:Int) (nm:List UInt8) (t:Ty) (ss:List Srt):exEnd p l k nm t ss=exEnd p l' k nm t ss:=by unfold exEnd;rw[h nm]
mutual
theorem exS_congr {p:Pr} {l l':Lc} (h:∀nm,fieldOf l nm=fieldOf l' nm):∀x:Ex,exS p l x=exS p l' x
 |.mk k n nm t d args=>by rw[exS,exS,exSs_congr h args];cases exSs p l' args with|error e=>rfl|ok ss=>exact exEnd_congr h k nm t ss
theorem exSs_congr {p:Pr} {l l':Lc} (h:∀nm,fieldOf l nm=fieldOf l' nm):∀xs:List Ex,exSs p l xs=exSs p l' xs
 |[]=>by rw[exSs,exSs]
 |x::r=>by rw[exSs,exSs,exS_congr h x,exSs_congr h r]
end
theorem stOwn_congr {p:Pr} {l l':Lc} (h:∀nm,fieldOf l nm=fieldOf l' nm) (res:Ty) (s:St):stOwn p l res s=stOwn p l' res s:=by
 unfold stOwn valS
 simp only[h,exS_congr h]
theorem scSt_c (p:Pr) (l:Lc) (res:Ty) (k:Int) (nm:List UInt8) (t:Ty) (x y:Ex) (bd:Hd) (body:List St) (ed:Hd) (els:List St) (a:Int):
  scSt p l res (.mk k nm t x y bd body ed els) a=((kq (stOwn p l res (.mk k nm t x y bd body ed els)) a).bind (scSts p (lcNext l (.mk k nm t x y bd body ed els)) res body)).bind (scSts p (lcNext l (.mk k nm t x y bd body ed els)) res els):=by
 rw[scSt]
 by_cases h:stOwn p l res (.mk k nm t x y bd body ed els)=0
 ·rw[if_neg (not_not_intro h),h]
  show _=(scSts p _ res body a).bind _
  cases scSts p (lcNext l (.mk k nm t x y bd body ed els)) res body a<;>rfl
 ·rw[if_pos h,kq_ne h];rfl
theorem scSts_cons5 (p:Pr) (l:Lc) (res:Ty) (s:St) (r:List St) (a:Int):scSts p l res (s::r) a=(scSt p l res s (a+1)).bind (scSts p (lcNext l s) res r):=by
 rw[scSts]
 cases scSt p l res s (a+1)<;>rfl
mutual
def vbSt:St→Prop
 |.mk k nm t x y bd body ed els=>(k=1→body=[]∧els=[]∧TyI t)∧vbSts body∧vbSts els
def vbSts:List St→Prop
 |[]=>True
 |s::r=>vbSt s∧vbSts r
end
theorem vbSts_mem:∀{l:List St} {s:St},vbSts l→s∈l→vbSt s
 |x::r,s,h,hs=>by
  rw[vbSts]at h
  rcases List.mem_cons.1 hs with rfl|hs
  ·exact h.1
  ·exact vbSts_mem h.2 hs
theorem locE_zero {p:Pr} {l:Lc} {nm:List UInt8} {t:Ty} {x:Ex} (h:locE p l nm t x=0):fieldOf l nm=none:=by
 unfold locE at h
 split at h
 ·cases h
 ·rename_i h1
  cases h2:fieldOf l nm with
  |none=>rfl
  |some t1=>exact absurd (Or.inl (by rw[h2];rfl)) h1
theorem field_more {L lc:Lc} (h:∀nm,fieldOf L nm=fieldOf lc nm) {nm:List UInt8} {t:Ty} (hn:fieldOf lc nm=none):∀q,fieldOf (L++[⟨nm,t⟩]) q=fieldOf (⟨nm,t⟩::lc) q:=fun q=>by
 have e1:fieldOf (⟨nm,t⟩::lc) q=if nm=q then some t else fieldOf lc q:=rfl
 have e2:∀L:Lc,fieldOf (L++[⟨nm,t⟩]) q=(fieldOf L q).or (if nm=q then some t else none):=fun L=>by
  induction L with
  |nil=>show (if nm=q then some t else none)=_;simp[fieldOf]
  |cons f L ih=>
   show (if f.nm=q then some f.t else fieldOf (L++[⟨nm,t⟩]) q)=((if f.nm=q then some f.t else fieldOf L q)).or _
   rw[ih]
   split<;>simp
 rw[e1,e2,h q]
 by_cases hq:nm=q
 ·subst hq;rw[hn,if_pos rfl];rfl
 ·rw[if_neg hq,if_neg hq];cases fieldOf lc q<;>rfl
theorem sc_on_inv {c:Sc} {f:Int→Sc} {a:Int} (h:c.bind f=.on a):∃a0,c=.on a0∧f a0=.on a:=by
 cases c with
 |on a0=>exact⟨a0,rfl,h⟩
 |bad q e=>cases h
theorem kq_on {pl e a:Int} (h:(Sc.on pl).bind (kq e)=.on a):e=0∧a=pl:=by
 rw[Sc.bind_on]at h
 by_cases he:e=0
 ·rw[he]at h;injection h with h;exact⟨he,h.symm⟩
 ·rw[kq_ne he]at h;cases h
def RS5 (B X:Nat) (p:Pr) (res:Ty) (l:List St):Prop:=∀(d:Hd) (c:Sc) (dL:Hd) (L lc:Lc) (w:World),St5 X p c w→PrIn w B p→LcIn X w dL L→StsIn w B d l→stsGood l→vbSts l→
 (∀a,c=.on a→-1≤a∧a+(plSts l:Nat)≤1000000∧∀nm,fieldOf L nm=fieldOf lc nm)→(∀f∈L,TyI f.t)→L.length+plSts l≤100000→
 Calls Tryz.prog 45 #[.pointer (some ⟨X,0,none⟩),envV p dL L.length,.slice d.a l.length d.c,res.val] w fun en w'=>en=.returned (.tuple #[])∧St5 X p (c.bind (scSts p lc res l)) w'∧Kp5 X w w'
set_option maxHeartbeats 40000000 in
set_option maxRecDepth 100000 in
theorem rstmts5_of (B X:Nat) (hBX:B≤X) (p:Pr) (hp:PrTy p) (res:Ty) (l:List St) (ih:∀s∈l,RS5 B X p res s.body∧RS5 B X p res s.els):RS5 B X p res l:=by
 intro d c dL L lc w hS hP hLc hI hg hv hc0 hL hn
 obtain⟨R,hR⟩:∃R,c.bind (scSts p lc res l)=R:=⟨_,rfl⟩
 rw[hR]
 have hXl:=hS.lt
 obtain⟨Z,hZ⟩:∃Z,w.heap.size=Z:=⟨_,rfl⟩
 obtain⟨w1,hw1⟩:∃w1,w.alloc (envObj p dL L.length)=w1:=⟨_,rfl⟩
 obtain⟨w2,hw2⟩:∃w2,w1.alloc (tyBox res.k res.nm res.n)=w2:=⟨_,rfl⟩
 have hs1:w1.heap.size=Z+1:=by rw[←hw1,World.size_alloc,hZ]
 have hb1:Below w.heap.size w w1:=by rw[←hw1];exact (Below.refl _ _).alloc (Nat.le_refl _) _
 have hb2:Below w1.heap.size w1 w2:=by rw[←hw2];exact (Below.refl _ _).alloc (Nat.le_refl _) _
 have hb12:Below w.heap.size w w2:=hb1.trans (hb2.mono hb1.size)
 have x1:w2.heap[Z]? =some (envObj p dL L.length):=(hb2.block Z (by omega)).trans (by rw[←hw1,←hZ];exact heap_alloc_new w _)
 have x2:w2.heap[Z+1]? =some (tyBox res.k res.nm res.n):=by rw[←hw2,←hs1];exact heap_alloc_new w1 _
 have hBl:B≤w.heap.size:=by omega
 have HP:Hid (∀W,Kp5 X w W→PrIn W B p):=Lib.hid fun W hk=>hP.keep (Kept.below hk hBl (fun q hq=>by rw[hq];exact hBX)) (Nat.le_refl B)
 have HI:Hid (∀W,Kp5 X w W→StsIn W B d l):=Lib.hid fun W hk=>hI.keep (Kept.below hk hBl (fun q hq=>by rw[hq];exact hBX)) (Nat.le_refl B)
 have HXZ:Hid (¬Z=X∧¬Z+1=X):=Lib.hid ⟨by omega,by omega⟩
 have HZw:Hid (w.heap.size≤Z∧w.heap.size=Z):=Lib.hid ⟨by omega,hZ⟩
 have HXl:=Lib.hid hXl
 have HN:Hid ((w.alloc (envObj p dL L.length)).alloc (tyBox res.k res.nm res.n)=w2∧w.heap.size=Z):=Lib.hid ⟨by rw[hw1,hw2],hZ⟩
 have HS0:=Lib.hid (hS.below hb12)
 have HK0:Hid (Kp5 X w w2):=Lib.hid (Kept.of_below hb12)
 have HE0:=Lib.hid x1
 have HT0:=Lib.hid x2
 have HL0:=Lib.hid (hLc.kept (Kept.of_below hb12))
 have HLz:Hid (∀b off,dL.a=some ⟨b,off,none⟩→L≠[]→b≠Z):=Lib.hid fun b off h1 hne=>by
  obtain⟨b2,o2,h2,h3,-⟩:=hLc.row hne
  rw[h1]at h2
  injection h2 with h2
  injection h2 with e1 e2 e3
  omega
 have HC0:=Lib.hid hc0
 have HTy:=Lib.hid hL
 have HG:=Lib.hid hg
 have HV:=Lib.hid hv
 have HIh:=Lib.hid ih
 have HR:=Lib.hid hR
 have hlen:=hI.len
 clear hw1 hw2 hs1 hb1 hb2 hb12 x1 x2 hP hI hLc hS hZ hBl hXl hc0 hL hg hv ih hR
 dsimp only[Ty.val]
 go_enter Tryz.func45,Tryz.ntmps45
 go_wp2_with fail
 simp only[HN.out.1,HN.out.2]
 go_loopw [8] (fun ii wr=>∃(j:Nat) (c:Sc) (dL:Hd) (L lc:Lc),ii=.int .i64 j∧j≤l.length∧Hid (St5 X p c wr)∧Hid (Kp5 X w wr)∧Hid (wr.heap[Z]? =some (envObj p dL L.length))∧Hid (wr.heap[Z+1]? =some (tyBox res.k res.nm res.n))∧Hid (LcIn X wr dL L)∧Hid (∀b off,dL.a=some ⟨b,off,none⟩→L≠[]→b≠Z)∧
  Hid (∀a,c=.on a→-1≤a∧a+(plSts (l.drop j):Nat)≤1000000∧∀nm,fieldOf L nm=fieldOf lc nm)∧Hid (∀f∈L,TyI f.t)∧Hid (L.length+plSts (l.drop j)≤100000)∧Hid (c.bind (scSts p lc res (l.drop j))=R)) (fun ii _=>l.length - (intOf ii).toNat)
 case atStart=>exact⟨0,c,dL,L,lc,rfl,Nat.zero_le _,HS0,HK0,HE0,HT0,HL0,HLz,Lib.hid (by rw[List.drop_zero];exact HC0.out),HTy,Lib.hid (by rw[List.drop_zero];exact hn),Lib.hid (by rw[List.drop_zero];exact HR.out)⟩
 case round=>
  clear HS0 HK0 HE0 HT0 HL0 HLz HC0 HTy HR hn
  obtain⟨j,c,dL,L,lc,rfl,hj,hS,hK,hE,hT,hLc,hLz,hC0,hTy,hNn,hC⟩:=hrel
  have p2:(0:Int)≤(j:Int):=Int.natCast_nonneg _
  have p3:l.length≤140737488355328:=hlen
  obtain⟨pl,er,hr,hc⟩:=hS.out.box
  have c4:=cell_at hr 4
  have c5:=cell_at hr 5
  have f4:=frz_at hr 4
  simp only[sl7,sl8,sl9]at c4 c5
  by_cases hlt:j<l.length
  ·have p1:(j:Int)<(l.length:Int):=by omega
   rcases hc with ⟨rfl,rfl⟩|⟨rfl,hne⟩
   ·obtain⟨s,hs⟩:∃s,l[j]? =some s:=⟨_,List.getElem?_eq_getElem hlt⟩
    have hdrop:l.drop j=s::l.drop (j+1):=by
     have:=List.drop_eq_getElem_cons hlt
     rw[List.getElem?_eq_getElem hlt]at hs
     injection hs with hs
     rw[this,hs]
    have hmem:=List.mem_of_getElem? hs
    obtain⟨ihb,ihe⟩:=HIh.out s hmem
    have hgd:=stsGood_mem HG.out hmem
    have hvb:=vbSts_mem HV.out hmem
    obtain⟨hq1,hq2,hq3⟩:=hC0.out pl rfl
    have hn2:=hNn.out
    have hC1:=hC.out
    rw[hdrop,Sc.bind_on,scSts_cons5]at hC1
    rw[hdrop,plSts]at hq2 hn2
    obtain⟨rb,ro,hda,hrb,hrow⟩:=(HI.out _ hK.out).row (by intro h0;rw[h0]at hlt;simp at hlt)
    have HAl:Hid (∀W,Kp5 X w W→rb<W.heap.size):=Lib.hid fun W hk=>by
     have:=hBX;have:=HXl.out;have:=hk.size;omega
    have HAt:Hid (∀W,Kp5 X w W→StAt W rb (ro+j*21) s):=Lib.hid fun W hk=>by
     obtain⟨rb2,ro2,hda2,-,hrow2⟩:=(HI.out _ hk).row (by intro h0;rw[h0]at hlt;simp at hlt)
     rw[hda]at hda2
     injection hda2 with hda2
     injection hda2 with e1 e2 e3
     subst e1 e2
     exact hrow2 j s hs
    have HSi:Hid (∀W,Kp5 X w W→StIn W B s):=Lib.hid fun W hk=>(HI.out _ hk).sub s hmem
    obtain⟨k,nm,t,x,y,bd,body,ed,els⟩:=s
    dsimp only[St.body,St.els]at ihb ihe
    rw[scSt_c]at hC1
    rw[plSt]at hq2 hn2
    rw[vbSt]at hvb
    have HHvb:=Lib.hid hvb
    have HHg:=Lib.hid hgd
    have HIb:=Lib.hid ihb
    have HIe:=Lib.hid ihe
    have e1:IntKind.i64.wrap (pl+1)=pl+1:=by rw[IntKind.wrap_i64];omega
    obtain⟨w6,hw6⟩:∃w6,wr.setCell ⟨X,4,none⟩ (.int .i64 (pl+1))=w6:=⟨_,rfl⟩
    have hk6:Kp5 X wr w6:=by rw[←hw6];exact Kp5.set (Kept.refl _ _) 4 _
    have HSw6:Hid (St5 X p (.on (pl+1)) w6):=Lib.hid (by rw[←hw6];exact Lk5.setP hr _)
    have HKw6:=Lib.hid (hK.out.trans hk6)
    have HEw6:Hid (w6.heap[Z]? =some (envObj p dL L.length)):=Lib.hid ((hk6.block Z (lt_blk hE.out) HXZ.out.1).trans hE.out)
    have HTw6:Hid (w6.heap[Z+1]? =some (tyBox res.k res.nm res.n)):=Lib.hid ((hk6.block (Z+1) (lt_blk hT.out) HXZ.out.2).trans hT.out)
    have HLcw6:=Lib.hid (hLc.out.kept hk6)
    have HW6:=Lib.hid hw6
    have HC1:=Lib.hid hC1
    have HQ:=Lib.hid (And.intro hq1 (And.intro hq2 (And.intro hq3 hn2)))
    clear hr hrow hdrop hs hmem hgd hvb hq1 hq2 hq3 hn2 hC1 ihb ihe hw6 hk6 hC hC0 hNn hS hK hE hT hLc
    rw[hda]
    clear hda
    go_wp2_with fail
    simp only[HW6.out]
    clear c4 c5 f4
    have HEv:Hid (∀W,Below w6.heap.size w6 W→W.heap[Z]? =some (envObj p dL L.length)):=Lib.hid fun W hb=>(hb.block Z (lt_blk HEw6.out)).trans HEw6.out
    have HTv:Hid (∀W,Below w6.heap.size w6 W→W.heap[Z+1]? =some (tyBox res.k res.nm res.n)):=Lib.hid fun W hb=>(hb.block (Z+1) (lt_blk HTw6.out)).trans HTw6.out
    have HAv:Hid (∀W,Below w6.heap.size w6 W→StAt W rb (ro+j*21) (.mk k nm t x y bd body ed els)):=Lib.hid fun W hb=>(HAt.out w6 HKw6.out).keep fun o'=>hb.cell (p:=⟨rb,o',none⟩) (HAl.out w6 HKw6.out)
    refine wp_region_L (l:=7) (S:=(Below w6.heap.size w6)) (by kernel_rfl) ?_ (fun hHeld=>?_)
    ·((try dsimp only);(exact (Below.refl _ _).drew))
    refine tk 0 ?_
    try simp only[sl1,sl2,sl3,Act.put,sl4,sl5,sl6]
    refine tk 1 ?_ (h2:=by(intro W hSw;have erow:=HEv.out W hSw;have q0:=cell_at erow 0;have q1:=cell_at erow 1;have q2:=cell_at erow 2;have q3:=cell_at erow 3;have q4:=cell_at erow 4;simp only[sl7,sl8,sl9]at q0 q1 q2 q3 q4;clear erow hSw;go_simp;all_goals with_reducible rfl))
    try simp only[sl1,sl2,sl3,Act.put,sl4,sl5,sl6]
    refine tk 2 ?_
    try simp only[sl1,sl2,sl3,Act.put,sl4,sl5,sl6]
    refine tk 3 ?_
    try simp only[sl1,sl2,sl3,Act.put,sl4,sl5,sl6]
    refine tk 4 ?_
    try simp only[sl1,sl2,sl3,Act.put,sl4,sl5,sl6]
    refine tk 5 ?_ (h2:=by(intro W hSw;refine Eq.trans (b:=Result.ok (Next.value (.agg (stCells k nm t x y bd.a body.length bd.c ed.a els.length ed.c).toArray)) W) ?_ ?_;rotate_left;with_reducible rfl;have hz:=(HAv.out W hSw).cells;dsimp only[St.k,St.nm,St.t,St.x,St.y,St.bd,St.body,St.ed,St.els]at hz;exact exec_load_list 72 _ rfl ⟨rb,ro+j*21,none⟩ rfl (stCells k nm t x y bd.a body.length bd.c ed.a els.length ed.c) _ hz Tryz.underlying72 rfl (stSize ..)))
    try simp only[sl1,sl2,sl3,Act.put,sl4,sl5,sl6]
    refine tk 6 ?_ (h2:=by(intro W hSw;have trow:=HTv.out W hSw;have t0:=cell_at trow 0;have t1:=cell_at trow 1;have t2:=cell_at trow 2;simp only[sl7,sl8,sl9]at t0 t1 t2;clear trow hSw;go_simp;all_goals with_reducible rfl))
    try simp only[sl1,sl2,sl3,Act.put,sl4,sl5,sl6]
    refine wpAnyL_last (j:=7) (o:=_) (by kernel_rfl) rfl (by rfl) (by kernel_rfl) (fun K hK=>?_)
    (go_simp;go_at_call 87;refine (rstmt5_any B X hBX p hp (pl+1) dL L hTy.out k nm t x y bd body ed els res HHg.out w6.drew (HSw6.out.below (Below.refl _ _).drew) (HP.out _ (HKw6.out.drew)) (HLcw6.out.kept (Kept.refl _ _).drew) (HSi.out _ HKw6.out.drew)).mono ?_;rintro e w7 ⟨rfl,hs,hk1⟩;have hk:Kp5 X w6 w7:=((Kept.refl _ _).drew).trans hk1;clear hk1)
    (refine hK _ _ ?_;clear hK K)
    try simp only[sl1,sl2,sl3,Act.put,sl4,sl5,sl6]
    have HSw7:=Lib.hid hs
    have HKw7:=Lib.hid (HKw6.out.trans hk)
    have HEw7:Hid (w7.heap[Z]? =some (envObj p dL L.length)):=Lib.hid ((hk.block Z (lt_blk HEw6.out) HXZ.out.1).trans HEw6.out)
    have HTw7:Hid (w7.heap[Z+1]? =some (tyBox res.k res.nm res.n)):=Lib.hid ((hk.block (Z+1) (lt_blk HTw6.out) HXZ.out.2).trans HTw6.out)
    have HLcw7:=Lib.hid (HLcw6.out.kept hk)
    clear hs hk HEv HTv HAv
    have hg5:=HHg.out
    rw[stGood]at hg5
    have HGb:=Lib.hid hg5.2.2.2
    clear hg5
    have HA1:Hid (∀a,(Sc.on (pl+1)).bind (kq (stOwn p L res (.mk k nm t x y bd body ed els)))=.on a→-1≤a∧a+(plSts body:Nat)≤1000000∧∀nm,fieldOf L nm=fieldOf lc nm):=Lib.hid fun a ha=>by
     have hq:=HQ.out
     obtain⟨h0,rfl⟩:=kq_on ha
     exact⟨by omega,by omega,hq.2.2.1⟩
    have HEv:Hid (∀W,Below w7.heap.size w7 W→W.heap[Z]? =some (envObj p dL L.length)):=Lib.hid fun W hb=>(hb.block Z (lt_blk HEw7.out)).trans HEw7.out
    have HTv:Hid (∀W,Below w7.heap.size w7 W→W.heap[Z+1]? =some (tyBox res.k res.nm res.n)):=Lib.hid fun W hb=>(hb.block (Z+1) (lt_blk HTw7.out)).trans HTw7.out
    have HAv:Hid (∀W,Below w7.heap.size w7 W→StAt W rb (ro+j*21) (.mk k nm t x y bd body ed els)):=Lib.hid fun W hb=>(HAt.out w7 HKw7.out).keep fun o'=>hb.cell (p:=⟨rb,o',none⟩) (HAl.out w7 HKw7.out)
    go_wp2_with fail
    refine wp_region_L (l:=8) (S:=(Below w7.heap.size w7)) (by kernel_rfl) ?_ (fun hHeld=>?_)
    ·((try dsimp only);(exact (Below.refl _ _).drew))
    refine tk 0 ?_
    try simp only[sl1,sl2,sl3,Act.put,sl4,sl5,sl6]
    refine tk 1 ?_ (h2:=by(intro W hSw;have erow:=HEv.out W hSw;have q0:=cell_at erow 0;have q1:=cell_at erow 1;have q2:=cell_at erow 2;have q3:=cell_at erow 3;have q4:=cell_at erow 4;simp only[sl7,sl8,sl9]at q0 q1 q2 q3 q4;clear erow hSw;go_simp;all_goals with_reducible rfl))
    try simp only[sl1,sl2,sl3,Act.put,sl4,sl5,sl6]
    refine tk 2 ?_
    try simp only[sl1,sl2,sl3,Act.put,sl4,sl5,sl6]
    refine tk 3 ?_
    try simp only[sl1,sl2,sl3,Act.put,sl4,sl5,sl6]
    refine tk 4 ?_
    try simp only[sl1,sl2,sl3,Act.put,sl4,sl5,sl6]
    refine tk 5 ?_
    try simp only[sl1,sl2,sl3,Act.put,sl4,sl5,sl6]
    refine tk 6 ?_ (h2:=by(intro W hSw;have z9:=(HAv.out W hSw).c19;dsimp only[St.bd,St.body,St.ed,St.els]at z9;clear hSw;go_simp;all_goals with_reducible rfl))
    try simp only[sl1,sl2,sl3,Act.put,sl4,sl5,sl6]
    refine tk 7 ?_ (h2:=by(intro W hSw;have trow:=HTv.out W hSw;have t0:=cell_at trow 0;have t1:=cell_at trow 1;have t2:=cell_at trow 2;simp only[sl7,sl8,sl9]at t0 t1 t2;clear trow hSw;go_simp;all_goals with_reducible rfl))
    try simp only[sl1,sl2,sl3,Act.put,sl4,sl5,sl6]
    refine wpAnyL_last (j:=8) (o:=_) (by kernel_rfl) rfl (by rfl) (by kernel_rfl) (fun K hK=>?_)
    (go_simp;go_at_call 45;refine (HIb.out bd _ dL L lc w7.drew (HSw7.out.below (Below.refl _ _).drew) (HP.out _ HKw7.out.drew) (HLcw7.out.kept (Kept.refl _ _).drew) (HSi.out _ HKw7.out.drew).body HGb.out.1 HHvb.out.2.1 HA1.out hTy.out (by have:=HQ.out.2.2.2;omega)).mono ?_;rintro e w8 ⟨rfl,hs,hk1⟩;have hk:Kp5 X w7 w8:=((Kept.refl _ _).drew).trans hk1;clear hk1)
    (refine hK _ _ ?_;clear hK K)
    try simp only[sl1,sl2,sl3,Act.put,sl4,sl5,sl6]
    have HSw8:=Lib.hid hs
    have HKw8:=Lib.hid (HKw7.out.trans hk)
    have HEw8:Hid (w8.heap[Z]? =some (envObj p dL L.length)):=Lib.hid ((hk.block Z (lt_blk HEw7.out) HXZ.out.1).trans HEw7.out)
    have HTw8:Hid (w8.heap[Z+1]? =some (tyBox res.k res.nm res.n)):=Lib.hid ((hk.block (Z+1) (lt_blk HTw7.out) HXZ.out.2).trans HTw7.out)
    have HLcw8:=Lib.hid (HLcw7.out.kept hk)
    clear hs hk HEv HTv HAv
    have HA2:Hid (∀a,((Sc.on (pl+1)).bind (kq (stOwn p L res (.mk k nm t x y bd body ed els)))).bind (scSts p lc res body)=.on a→-1≤a∧a+(plSts els:Nat)≤1000000∧∀nm,fieldOf L nm=fieldOf lc nm):=Lib.hid fun a ha=>by
     have hq:=HQ.out
     obtain⟨a0,h0,h1⟩:=sc_on_inv ha
     obtain⟨-,rfl⟩:=kq_on h0
     obtain⟨h2,-⟩:=(scSts_on p lc res body (pl+1)).1 a h1
     exact⟨by omega,by omega,hq.2.2.1⟩
    have HEv:Hid (∀W,Below w8.heap.size w8 W→W.heap[Z]? =some (envObj p dL L.length)):=Lib.hid fun W hb=>(hb.block Z (lt_blk HEw8.out)).trans HEw8.out
    have HTv:Hid (∀W,Below w8.heap.size w8 W→W.heap[Z+1]? =some (tyBox res.k res.nm res.n)):=Lib.hid fun W hb=>(hb.block (Z+1) (lt_blk HTw8.out)).trans HTw8.out
    have HAv:Hid (∀W,Below w8.heap.size w8 W→StAt W rb (ro+j*21) (.mk k nm t x y bd body ed els)):=Lib.hid fun W hb=>(HAt.out w8 HKw8.out).keep fun o'=>hb.cell (p:=⟨rb,o',none⟩) (HAl.out w8 HKw8.out)
    go_wp2_with fail
    refine wp_region_L (l:=8) (S:=(Below w8.heap.size w8)) (by kernel_rfl) ?_ (fun hHeld=>?_)
    ·((try dsimp only);(exact (Below.refl _ _).drew))
    refine tk 0 ?_
    try simp only[sl1,sl2,sl3,Act.put,sl4,sl5,sl6]
    refine tk 1 ?_ (h2:=by(intro W hSw;have erow:=HEv.out W hSw;have q0:=cell_at erow 0;have q1:=cell_at erow 1;have q2:=cell_at erow 2;have q3:=cell_at erow 3;have q4:=cell_at erow 4;simp only[sl7,sl8,sl9]at q0 q1 q2 q3 q4;clear erow hSw;go_simp;all_goals with_reducible rfl))
    try simp only[sl1,sl2,sl3,Act.put,sl4,sl5,sl6]
    refine tk 2 ?_
    try simp only[sl1,sl2,sl3,Act.put,sl4,sl5,sl6]
    refine tk 3 ?_
    try simp only[sl1,sl2,sl3,Act.put,sl4,sl5,sl6]
    refine tk 4 ?_
    try simp only[sl1,sl2,sl3,Act.put,sl4,sl5,sl6]
    refine tk 5 ?_
    try simp only[sl1,sl2,sl3,Act.put,sl4,sl5,sl6]
    refine tk 6 ?_ (h2:=by(intro W hSw;have z9:=(HAv.out W hSw).c20;dsimp only[St.bd,St.body,St.ed,St.els]at z9;clear hSw;go_simp;all_goals with_reducible rfl))
    try simp only[sl1,sl2,sl3,Act.put,sl4,sl5,sl6]
    refine tk 7 ?_ (h2:=by(intro W hSw;have trow:=HTv.out W hSw;have t0:=cell_at trow 0;have t1:=cell_at trow 1;have t2:=cell_at trow 2;simp only[sl7,sl8,sl9]at t0 t1 t2;clear trow hSw;go_simp;all_goals with_reducible rfl))
    try simp only[sl1,sl2,sl3,Act.put,sl4,sl5,sl6]
    refine wpAnyL_last (j:=8) (o:=_) (by kernel_rfl) rfl (by rfl) (by kernel_rfl) (fun K hK=>?_)
    (go_simp;go_at_call 45;refine (HIe.out ed _ dL L lc w8.drew (HSw8.out.below (Below.refl _ _).drew) (HP.out _ HKw8.out.drew) (HLcw8.out.kept (Kept.refl _ _).drew) (HSi.out _ HKw8.out.drew).els HGb.out.2 HHvb.out.2.2 HA2.out hTy.out (by have:=HQ.out.2.2.2;omega)).mono ?_;rintro e w9 ⟨rfl,hs,hk1⟩;have hk:Kp5 X w8 w9:=((Kept.refl _ _).drew).trans hk1;clear hk1)
    (refine hK _ _ ?_;clear hK K)
    try simp only[sl1,sl2,sl3,Act.put,sl4,sl5,sl6]
    have HSw9:=Lib.hid hs
    have HKw9:=Lib.hid (HKw8.out.trans hk)
    have HEw9:Hid (w9.heap[Z]? =some (envObj p dL L.length)):=Lib.hid ((hk.block Z (lt_blk HEw8.out) HXZ.out.1).trans HEw8.out)
    have HTw9:Hid (w9.heap[Z+1]? =some (tyBox res.k res.nm res.n)):=Lib.hid ((hk.block (Z+1) (lt_blk HTw8.out) HXZ.out.2).trans HTw8.out)
    have HLcw9:=Lib.hid (HLcw8.out.kept hk)
    clear hs hk HEv HTv HAv
    have HA3:Hid (∀a,(((Sc.on (pl+1)).bind (kq (stOwn p L res (.mk k nm t x y bd body ed els)))).bind (scSts p lc res body)).bind (scSts p lc res els)=.on a→stOwn p lc res (.mk k nm t x y bd body ed els)=0∧-1≤a∧a+(plSts (l.drop (j+1)):Nat)≤1000000):=Lib.hid fun a ha=>by
     have hq:=HQ.out
     obtain⟨a0,h0,h1⟩:=sc_on_inv ha
     obtain⟨a1,h2,h3⟩:=sc_on_inv h0
     obtain⟨h5,rfl⟩:=kq_on h2
     obtain⟨h6,-⟩:=(scSts_on p lc res body (pl+1)).1 a0 h3
     obtain⟨h7,-⟩:=(scSts_on p lc res els a0).1 a h1
     exact⟨by rw[←stOwn_congr hq.2.2.1];exact h5,by omega,by omega⟩
    have HC3:Hid (((((Sc.on (pl+1)).bind (kq (stOwn p L res (.mk k nm t x y bd body ed els)))).bind (scSts p lc res body)).bind (scSts p lc res els)).bind (scSts p (lcNext lc (.mk k nm t x y bd body ed els)) res (l.drop (j+1)))=R):=Lib.hid (by
     rw[←HC1.out,stOwn_congr HQ.out.2.2.1]
     by_cases h1:k=1
     ·obtain⟨h2,h3,-⟩:=HHvb.out.1 h1
      rw[h2,h3]
      have en:∀(c:Sc) (lc:Lc),c.bind (scSts p lc res [])=c:=fun c lc=>by cases c with|on a=>rw[Sc.bind_on,scSts]|bad q e=>rfl
      rw[en,en,en,en]
      rfl
     ·rw[show lcNext lc (.mk k nm t x y bd body ed els)=lc from if_neg h1]
      rfl)
    generalize (((Sc.on (pl+1)).bind (kq (stOwn p L res (.mk k nm t x y bd body ed els)))).bind (scSts p lc res body)).bind (scSts p lc res els)=c3' at*
    clear HSw6 HKw6 HEw6 HTw6 HLcw6 HSw7 HKw7 HEw7 HTw7 HLcw7 HSw8 HKw8 HEw8 HTw8 HLcw8 HA1 HA2 HW6 HIb HIe HGb HC1
    have z0:=(HAt.out w9 HKw9.out).c0
    dsimp only[St.k]at z0
    by_cases k1:k=1
    ·have b1:(k==1)=true:=by simpa using k1
     have HEv:Hid (∀W,Below w9.heap.size w9 W→W.heap[Z]? =some (envObj p dL L.length)):=Lib.hid fun W hb=>(hb.block Z (lt_blk HEw9.out)).trans HEw9.out
     have HTv:Hid (∀W,Below w9.heap.size w9 W→W.heap[Z+1]? =some (tyBox res.k res.nm res.n)):=Lib.hid fun W hb=>(hb.block (Z+1) (lt_blk HTw9.out)).trans HTw9.out
     have HAv:Hid (∀W,Below w9.heap.size w9 W→StAt W rb (ro+j*21) (.mk k nm t x y bd body ed els)):=Lib.hid fun W hb=>(HAt.out w9 HKw9.out).keep fun o'=>hb.cell (p:=⟨rb,o',none⟩) (HAl.out w9 HKw9.out)
     have HTt:=Lib.hid (HHvb.out.1 k1).2.2
     have HK1:=Lib.hid k1
     clear k1
     have HOk:Hid ((⟨nm,t⟩:Fl).Ok):=Lib.hid ⟨(HSi.out _ HKw9.out).nm,(HSi.out _ HKw9.out).t⟩
     have CM:=Lib.hid (rmore_any dL L ⟨nm,t⟩ w9.drew (HLcw9.out.kept (Kept.refl _ _).drew).fls (by have:=HQ.out.2.2.2;omega))
     go_wp2_with fail
     refine wp_region_L (l:=17) (S:=(Below w9.heap.size w9)) (by kernel_rfl) ?_ (fun hHeld=>?_)
     ·((try dsimp only);(exact (Below.refl _ _).drew))
     refine tk 0 ?_
     try simp only[sl1,sl2,sl3,Act.put,sl4,sl5,sl6]
     refine tk 1 ?_ (h2:=by(intro W hSw;have erow:=HEv.out W hSw;have q0:=cell_at erow 0;have q1:=cell_at erow 1;have q2:=cell_at erow 2;have q3:=cell_at erow 3;have q4:=cell_at erow 4;simp only[sl7,sl8,sl9]at q0 q1 q2 q3 q4;clear erow hSw;go_simp;all_goals with_reducible rfl))
     try simp only[sl1,sl2,sl3,Act.put,sl4,sl5,sl6]
     refine tk 2 ?_
     try simp only[sl1,sl2,sl3,Act.put,sl4,sl5,sl6]
     refine tk 3 ?_ (h2:=by(intro W hSw;have erow:=HEv.out W hSw;have q0:=cell_at erow 0;have q1:=cell_at erow 1;have q2:=cell_at erow 2;have q3:=cell_at erow 3;have q4:=cell_at erow 4;simp only[sl7,sl8,sl9]at q0 q1 q2 q3 q4;clear erow hSw;go_simp;all_goals with_reducible rfl))
     try simp only[sl1,sl2,sl3,Act.put,sl4,sl5,sl6]
     refine tk 4 ?_
     try simp only[sl1,sl2,sl3,Act.put,sl4,sl5,sl6]
     refine tk 5 ?_
     try simp only[sl1,sl2,sl3,Act.put,sl4,sl5,sl6]
     refine tk 6 ?_
     try simp only[sl1,sl2,sl3,Act.put,sl4,sl5,sl6]
     refine tk 7 ?_
     try simp only[sl1,sl2,sl3,Act.put,sl4,sl5,sl6]
     refine tk 8 ?_ (h2:=by(intro W hSw;have z9:=(HAv.out W hSw).c1;dsimp only[St.nm]at z9;clear hSw;go_simp;all_goals with_reducible rfl))
     try simp only[sl1,sl2,sl3,Act.put,sl4,sl5,sl6]
     refine tk 9 ?_
     try simp only[sl1,sl2,sl3,Act.put,sl4,sl5,sl6]
     refine tk 10 ?_
     try simp only[sl1,sl2,sl3,Act.put,sl4,sl5,sl6]
     refine tk 11 ?_
     try simp only[sl1,sl2,sl3,Act.put,sl4,sl5,sl6]
     refine tk 12 ?_
     try simp only[sl1,sl2,sl3,Act.put,sl4,sl5,sl6]
     refine tk 13 ?_ (h2:=by(intro W hSw;have z7:=(HAv.out W hSw).c2;have z8:=(HAv.out W hSw).c3;have z9:=(HAv.out W hSw).c4;dsimp only[St.t]at z7 z8 z9;clear hSw;go_simp;all_goals with_reducible rfl))
     try simp only[sl1,sl2,sl3,Act.put,sl4,sl5,sl6]
     refine tk 14 ?_
     try simp only[sl1,sl2,sl3,Act.put,sl4,sl5,sl6]
     refine wpAnyL_step (j:=15) (o:=_) (by kernel_rfl) rfl (fun K hK=>?_)
     (go_simp;go_at_call 88;refine CM.out.mono ?_;rintro e w10 ⟨g,cc,rfl,hb,hg1,hg2,hrows⟩;have HB10:Hid (Below w9.heap.size w9 w10):=Lib.hid ((Below.refl _ _).drew.trans hb);have HGr:=Lib.hid (And.intro hg1 (And.intro hg2 hrows));clear hb hg1 hg2 hrows;have HZr:=Lib.hid (HEv.out w10 HB10.out);have c0:=cell_at HZr.out 0;have c1:=cell_at HZr.out 1;have c2:=cell_at HZr.out 2;have c3:=cell_at HZr.out 3;have c4:=cell_at HZr.out 4;have f0:=frz_at HZr.out 0;have f1:=frz_at HZr.out 1;have f2:=frz_at HZr.out 2;have f3:=frz_at HZr.out 3;have f4:=frz_at HZr.out 4;simp only[sl7,sl8,sl9]at c0 c1 c2 c3 c4)
     refine hK _ _ ?_ (fun hHeld=>?_)
     ·((try dsimp only);(exact HB10.out))
     clear hK K
     try simp only[sl1,sl2,sl3,Act.put,sl4,sl5,sl6]
     refine tk 16 ?_
     try simp only[sl1,sl2,sl3,Act.put,sl4,sl5,sl6]
     refine wpAnyL_last (j:=17) (o:=_) (by kernel_rfl) rfl (by rfl) (by kernel_rfl) (fun K hK=>?_)
     go_simp
     (refine hK _ _ ?_;clear hK K)
     try simp only[sl1,sl2,sl3,Act.put,sl4,sl5,sl6]
     obtain⟨w11,hw11⟩:∃w11,((((w10.setCell ⟨Z,0,none⟩ (.slice p.rd.a p.rs.length p.rd.c)).setCell ⟨Z,1,none⟩ (.slice p.sd.a p.ss.length p.sd.c)).setCell ⟨Z,2,none⟩ (.slice p.fd.a p.fs.length p.fd.c)).setCell ⟨Z,3,none⟩ (.slice p.td.a p.ts.length p.td.c)).setCell ⟨Z,4,none⟩ (.slice (some ⟨g,0,none⟩) (L.length+1) cc)=w11:=⟨_,rfl⟩
     have HO11:Hid (∀q,q≠Z→w11.heap[q]? =w10.heap[q]?):=Lib.hid fun q hq=>by
      rw[←hw11,Below.heap_setCell _ _ _ _ hq,Below.heap_setCell _ _ _ _ hq,Below.heap_setCell _ _ _ _ hq,Below.heap_setCell _ _ _ _ hq,Below.heap_setCell _ _ _ _ hq]
     have HE11:Hid (w11.heap[Z]? =some (envObj p ⟨some ⟨g,0,none⟩,cc⟩ (L++[(⟨nm,t⟩:Fl)]).length)):=Lib.hid (by
      rw[←hw11,List.length_append]
      exact row_set (row_set (row_set (row_set (row_set HZr.out 0 _) 1 _) 2 _) 3 _) 4 _)
     have HK11:Hid (Kp5 X w w11):=Lib.hid (by
      rw[←hw11]
      have hk:=HKw9.out.trans (Kept.of_below HB10.out)
      have hz:=HZw.out.1
      exact ((((hk.setCell (p:=⟨Z,0,none⟩) (Or.inr hz) _).setCell (p:=⟨Z,1,none⟩) (Or.inr hz) _).setCell (p:=⟨Z,2,none⟩) (Or.inr hz) _).setCell (p:=⟨Z,3,none⟩) (Or.inr hz) _).setCell (p:=⟨Z,4,none⟩) (Or.inr hz) _)
     have HS11:Hid (St5 X p c3' w11):=Lib.hid (by
      have h1:=HSw9.out.below HB10.out
      have h2:=HO11.out X (fun e=>HXZ.out.1 e.symm)
      revert h1
      cases c3' with
      |on a=>exact fun h1=>h2.trans h1
      |bad q er=>exact fun h1=>⟨h1.1,h2.trans h1.2⟩)
     have HT11:Hid (w11.heap[Z+1]? =some (tyBox res.k res.nm res.n)):=Lib.hid ((HO11.out (Z+1) (by omega)).trans (HTv.out w10 HB10.out))
     have HgX:Hid (g≠Z∧g≠X):=Lib.hid ⟨by have:=HGr.out.1;have:=lt_blk HEw9.out;show g≠Z;have h0:w9.drew.heap.size=w9.heap.size:=rfl;omega,by have:=HGr.out.1;have:=HSw9.out.lt;have h0:w9.drew.heap.size=w9.heap.size:=rfl;omega⟩
     have HLc11:Hid (LcIn X w11 ⟨some ⟨g,0,none⟩,cc⟩ (L++[(⟨nm,t⟩:Fl)])):=Lib.hid
      ⟨by rw[List.length_append];have:=HQ.out.2.2.2;show L.length+1≤140737488355328;omega,fun _=>⟨g,0,rfl,by
       have h1:=HGr.out.2.1
       have h2:w10.heap.size≤w11.heap.size:=by rw[←hw11];simp[World.setCell]
       omega,HgX.out.2,fun i f2 hf=>(HGr.out.2.2 i f2 hf).keep fun o'=>World.cell?_of_block (HO11.out g HgX.out.1)⟩,fun f2 hf=>by
       rcases List.mem_append.1 hf with hf|hf
       ·exact HLcw9.out.sub f2 hf
       ·obtain rfl:f2=⟨nm,t⟩:=by simpa using hf
        exact HOk.out⟩
     have HLz11:Hid (∀b off,(⟨some ⟨g,0,none⟩,cc⟩:Hd).a=some ⟨b,off,none⟩→L++[(⟨nm,t⟩:Fl)]≠[]→b≠Z):=Lib.hid fun b off h1 _=>by
      dsimp only at h1
      injection h1 with h1
      injection h1 with e1 e2 e3
      rw[←e1];exact HgX.out.1
     have HTy11:Hid (∀f2∈L++[(⟨nm,t⟩:Fl)],TyI f2.t):=Lib.hid fun f2 hf=>by
      rcases List.mem_append.1 hf with hf|hf
      ·exact hTy.out f2 hf
      ·obtain rfl:f2=⟨nm,t⟩:=by simpa using hf
       exact HTt.out
     have HC011:Hid (∀a,c3'=.on a→-1≤a∧a+(plSts (l.drop (j+1)):Nat)≤1000000∧∀q,fieldOf (L++[⟨nm,t⟩]) q=fieldOf (⟨nm,t⟩::lc) q):=Lib.hid fun a ha=>by
      obtain⟨h1,h2,h3⟩:=HA3.out a ha
      have h4:locE p lc nm t x=0:=by
       rw[HK1.out]at h1
       exact h1
      exact⟨h2,h3,field_more HQ.out.2.2.1 (locE_zero h4)⟩
     have HN11:Hid ((L++[(⟨nm,t⟩:Fl)]).length+plSts (l.drop (j+1))≤100000):=Lib.hid (by rw[List.length_append];have:=HQ.out.2.2.2;show L.length+1+_≤_;omega)
     have HC11:Hid (c3'.bind (scSts p (⟨nm,t⟩::lc) res (l.drop (j+1)))=R):=Lib.hid (by
      have h:=HC3.out
      rw[show lcNext lc (.mk k nm t x y bd body ed els)=⟨nm,t⟩::lc from if_pos HK1.out]at h
      exact h)
     have HW11:=Lib.hid hw11
     clear hw11 c0 c1 c2 c3 c4 f0 f1 f2 f3 f4 HZr HB10 HGr
     go_wp2_with fail
     simp only[HW11.out]
     clear z0 b1
     go_roundw
     case rel=>exact⟨j+1,c3',⟨some ⟨g,0,none⟩,cc⟩,L++[⟨nm,t⟩],⟨nm,t⟩::lc,by go_num,by omega,HS11,HK11,HE11,HT11,HLc11,HLz11,HC011,HTy11,HN11,HC11⟩
     case measure=>simp[intOf];omega
    ·have b1:(k==1)=false:=by simpa using k1
     have HC0n:Hid (∀a,c3'=.on a→-1≤a∧a+(plSts (l.drop (j+1)):Nat)≤1000000∧∀nm,fieldOf L nm=fieldOf lc nm):=Lib.hid fun a ha=>⟨(HA3.out a ha).2.1,(HA3.out a ha).2.2,HQ.out.2.2.1⟩
     have HCn:Hid (c3'.bind (scSts p lc res (l.drop (j+1)))=R):=Lib.hid (by
      have h:=HC3.out
      rw[show lcNext lc (.mk k nm t x y bd body ed els)=lc from if_neg k1]at h
      exact h)
     have HNn:Hid (L.length+plSts (l.drop (j+1))≤100000):=Lib.hid (by have:=HQ.out.2.2.2;omega)
     clear k1 HC3 HA3
     go_wp2_with fail
     clear z0 b1
     go_roundw
     case rel=>exact⟨j+1,c3',dL,L,lc,by go_num,by omega,HSw9,HKw9,HEw9,HTw9,HLcw9,hLz,HC0n,hTy,HNn,HCn⟩
     case measure=>simp[intOf];omega
   ·have t1:(er==0)=false:=by simpa using hne
    have HZ:Hid (St5 X p R wr):=Lib.hid (by have h:=hC.out;rw[Sc.bind_bad]at h;rw[←h];exact hS.out)
    clear hne hC hS hr c4 f4 hC0
    go_wp2_with fail
    go_end0
    exact⟨rfl,HZ.out,hK.out⟩
  ·obtain rfl:j=l.length:=by omega
   have HZ:Hid (St5 X p R wr):=Lib.hid (by
    have h:=hC.out
    rw[List.drop_length]at h
    have h2:c=R:=by rw[←h];cases c with|on a=>rw[Sc.bind_on,scSts]|bad q e=>rfl
    rw[←h2]
    exact hS.out)
   clear hC hS hc c4 c5 f4 hr hC0
   go_wp2_with fail
   go_end0
   exact⟨rfl,HZ.out,hK.out⟩
end Go.Proofs.YtkklogikakcanaaGreatDoor
namespace Go.Proofs.YtkklogikakcanaaGreatDoor
open Go Go.RowKit
theorem rstmts5_any (B X:Nat) (hBX:B≤X) (p:Pr) (hp:PrTy p) (res:Ty):∀(sz:Nat) (l:List St),stCounts l≤sz→RS5 B X p res l:=by
 intro sz
 induction sz using Nat.strongRecOn with
 |ind sz ih=>
  intro l hsz
  refine rstmts5_of B X hBX p hp res l fun s hs=>?_
  have h1:=stCounts_mem hs
  obtain⟨k,nm,t,x,y,bd,body,ed,els⟩:=s
  rw[stCount]at h1
  exact⟨ih (stCounts body) (by omega) body (Nat.le_refl _),ih (stCounts els) (by omega) els (Nat.le_refl _)⟩
def mem8 (nm:List UInt8) (l:List (List UInt8)):Int:=if nm∈l then 8 else 0
theorem mem8_nil (nm:List UInt8):mem8 nm []=0:=if_neg (by simp)
theorem mem8_step (c:Sc) (nm:List UInt8) (l:List (List UInt8)) (a:List UInt8):(c.bind (kq (mem8 nm l))).bind (kq (orE (!decide (a=nm)) 8))=c.bind (kq (mem8 nm (l++[a]))):=by
 rw[Sc.bind_bind]
 refine congrArg (Sc.bind c) (funext fun q=>?_)
 unfold mem8
 by_cases h1:nm∈l
 ·rw[if_pos h1,if_pos (List.mem_append_left _ h1)];rfl
 ·rw[if_neg h1]
  by_cases h2:a=nm
  ·rw[if_pos (by rw[h2];simp)];simp[h2];rfl
  ·rw[if_neg (by simp[h1];exact fun h=>h2 h.symm)];simp[h2];rfl
set_option maxHeartbeats 16000000 in
set_option maxRecDepth 100000 in
theorem rfresh5_any (B X:Nat) (hBX:B≤X) (p:Pr) (c:Sc) (nm:List UInt8) (nr ns nf:Nat) (hr:nr≤p.rs.length) (hs:ns≤p.ss.length) (hf:nf≤p.fs.length) (w:World) (h:St5 X p c w) (hP:PrIn w B p):
  Calls Tryz.prog 83 #[.pointer (some ⟨X,0,none⟩),.string ⟨nm.toArray⟩,.int .i64 (nr:Int),.int .i64 (ns:Int),.int .i64 (nf:Int)] w fun en w'=>
   en=.returned (.tuple #[])∧St5 X p (((c.bind (kq (mem8 nm ((p.rs.map Re.nm).take nr)))).bind (kq (mem8 nm ((p.ss.map Fl.nm).take ns)))).bind (kq (mem8 nm ((p.fs.map Fu.nm).take nf)))) w'∧Kp5 X w w':=by
 have hXl:=h.lt
 have hBl:B≤w.heap.size:=by omega
 have HP:Hid (∀W,Kp5 X w W→PrIn W B p):=Lib.hid fun W hk=>hP.keep (Kept.below hk hBl (fun q hq=>by rw[hq];exact hBX)) (Nat.le_refl B)
 have HS0:=Lib.hid h
 have HK0:Hid (Kp5 X w w):=Lib.hid (Kept.refl _ _)
 have l1:p.rs.length≤140737488355328:=hP.rlen
 have l2:p.ss.length≤140737488355328:=hP.ss.len
 have l3:p.fs.length≤140737488355328:=hP.flen
 clear h hP hXl hBl
 go_enter Tryz.func83,Tryz.ntmps83
 go_wp2_with fail
 go_loopw [10] (fun ii wr=>∃(j:Nat),ii=.int .i64 j∧j≤nr∧Hid (St5 X p ((c).bind (kq (mem8 nm ((p.rs.map Re.nm).take j)))) wr)∧Hid (Kp5 X w wr)) (fun ii _=>nr - (intOf ii).toNat)
 case atStart=>exact⟨0,rfl,Nat.zero_le _,Lib.hid (by rw[List.take_zero,mem8_nil,Sc.bind_kq];exact HS0.out),HK0⟩
 case round=>
  obtain⟨j,rfl,hj,hS,hK⟩:=hrel
  have p2:(0:Int)≤(j:Int):=Int.natCast_nonneg _
  by_cases hlt:j<nr
  ·have p1:(j:Int)<(nr:Int):=by omega
   have p1b:(j:Int)<(p.rs.length:Int):=by omega
   have hll:j<p.rs.length:=by omega
   obtain⟨s,hs⟩:∃s,p.rs[j]? =some s:=⟨_,List.getElem?_eq_getElem hll⟩
   have htk:(p.rs.map Re.nm).take (j+1)=(p.rs.map Re.nm).take j++[Re.nm s]:=by rw[List.take_add_one,List.getElem?_map,hs];rfl
   obtain⟨rb,ro,hda,-,hrow⟩:=(HP.out _ hK.out).rrow (by intro h0;rw[h0]at hs;cases hs)
   have z0:=(hrow j s hs).c0
   obtain⟨pl,er,hr,-⟩:=hS.out.box
   have q0:=cell_at hr 0
   simp only[sl7,sl8,sl9]at q0
   rw[hda]at q0
   have HM:=Lib.hid (mem8_step (c) nm ((p.rs.map Re.nm).take j) (Re.nm s))
   rw[←htk]at HM
   generalize Re.nm s=sn at*
   clear hda hrow hr htk hs hll
   by_cases hnm:sn=nm
   ·have HM2:Hid (((c).bind (kq (mem8 nm ((p.rs.map Re.nm).take j)))).bind (kq (orE false 8))=(c).bind (kq (mem8 nm ((p.rs.map Re.nm).take (j+1))))):=Lib.hid (by rw[←HM.out];simp[hnm])
    have C:=Lib.hid (rwant5_any X p _ false 8 wr hS.out)
    have e1:(sn==nm)=true:=by simpa using hnm
    have e2:(sn != nm)=false:=by simpa using hnm
    exact q4ju5_6
   ·have HM2:Hid (((c).bind (kq (mem8 nm ((p.rs.map Re.nm).take j)))).bind (kq (orE true 8))=(c).bind (kq (mem8 nm ((p.rs.map Re.nm).take (j+1))))):=Lib.hid (by rw[←HM.out];simp[hnm])
    have C:=Lib.hid (rwant5_any X p _ true 8 wr hS.out)
    have e1:(sn==nm)=false:=by simpa using hnm
    have e2:(sn != nm)=true:=by simpa using hnm
    exact q4ju5_6
  ·obtain hje:j=nr:=by omega
   have HS1:Hid (St5 X p ((c).bind (kq (mem8 nm ((p.rs.map Re.nm).take nr)))) wr):=Lib.hid (by rw[←hje];exact hS.out)
   have HK1:=hK
   have hn1:¬(j:Int)<(nr:Int):=by omega
   clear hS hK
   go_wp2_with fail
   clear hje hn1
   go_loopw [11] (fun ii wr=>∃(j:Nat),ii=.int .i64 j∧j≤ns∧Hid (St5 X p ((c.bind (kq (mem8 nm ((p.rs.map Re.nm).take nr)))).bind (kq (mem8 nm ((p.ss.map Fl.nm).take j)))) wr)∧Hid (Kp5 X w wr)) (fun ii _=>ns - (intOf ii).toNat)
   case atStart=>exact⟨0,rfl,Nat.zero_le _,Lib.hid (by rw[List.take_zero,mem8_nil,Sc.bind_kq];exact HS1.out),HK1⟩
   case round=>
    obtain⟨j,rfl,hj,hS,hK⟩:=hrel
    have p2:(0:Int)≤(j:Int):=Int.natCast_nonneg _
    by_cases hlt:j<ns
    ·have p1:(j:Int)<(ns:Int):=by omega
     have p1b:(j:Int)<(p.ss.length:Int):=by omega
     have hll:j<p.ss.length:=by omega
     obtain⟨s,hs⟩:∃s,p.ss[j]? =some s:=⟨_,List.getElem?_eq_getElem hll⟩
     have htk:(p.ss.map Fl.nm).take (j+1)=(p.ss.map Fl.nm).take j++[Fl.nm s]:=by rw[List.take_add_one,List.getElem?_map,hs];rfl
     obtain⟨rb,ro,hda,-,hrow⟩:=(HP.out _ hK.out).ss.row (by intro h0;rw[h0]at hs;cases hs)
     have z0:=(hrow j s hs).c0
     obtain⟨pl,er,hr,-⟩:=hS.out.box
     have q1:=cell_at hr 1
     simp only[sl7,sl8,sl9]at q1
     rw[hda]at q1
     have HM:=Lib.hid (mem8_step (c.bind (kq (mem8 nm ((p.rs.map Re.nm).take nr)))) nm ((p.ss.map Fl.nm).take j) (Fl.nm s))
     rw[←htk]at HM
     generalize Fl.nm s=sn at*
     clear hda hrow hr htk hs hll
     by_cases hnm:sn=nm
     ·have HM2:Hid (((c.bind (kq (mem8 nm ((p.rs.map Re.nm).take nr)))).bind (kq (mem8 nm ((p.ss.map Fl.nm).take j)))).bind (kq (orE false 8))=(c.bind (kq (mem8 nm ((p.rs.map Re.nm).take nr)))).bind (kq (mem8 nm ((p.ss.map Fl.nm).take (j+1))))):=Lib.hid (by rw[←HM.out];simp[hnm])
      have C:=Lib.hid (rwant5_any X p _ false 8 wr hS.out)
      have e1:(sn==nm)=true:=by simpa using hnm
      have e2:(sn != nm)=false:=by simpa using hnm
      exact q4ju5_4
     ·have HM2:Hid (((c.bind (kq (mem8 nm ((p.rs.map Re.nm).take nr)))).bind (kq (mem8 nm ((p.ss.map Fl.nm).take j)))).bind (kq (orE true 8))=(c.bind (kq (mem8 nm ((p.rs.map Re.nm).take nr)))).bind (kq (mem8 nm ((p.ss.map Fl.nm).take (j+1))))):=Lib.hid (by rw[←HM.out];simp[hnm])
      have C:=Lib.hid (rwant5_any X p _ true 8 wr hS.out)
      have e1:(sn==nm)=false:=by simpa using hnm
      have e2:(sn != nm)=true:=by simpa using hnm
      exact q4ju5_4
    ·obtain hje:j=ns:=by omega
     have HS2:Hid (St5 X p ((c.bind (kq (mem8 nm ((p.rs.map Re.nm).take nr)))).bind (kq (mem8 nm ((p.ss.map Fl.nm).take ns)))) wr):=Lib.hid (by rw[←hje];exact hS.out)
     have HK2:=hK
     have hn2:¬(j:Int)<(ns:Int):=by omega
     clear hS hK
     go_wp2_with fail
     clear hje hn2
     go_loopw [12] (fun ii wr=>∃(j:Nat),ii=.int .i64 j∧j≤nf∧Hid (St5 X p (((c.bind (kq (mem8 nm ((p.rs.map Re.nm).take nr)))).bind (kq (mem8 nm ((p.ss.map Fl.nm).take ns)))).bind (kq (mem8 nm ((p.fs.map Fu.nm).take j)))) wr)∧Hid (Kp5 X w wr)) (fun ii _=>nf - (intOf ii).toNat)
     case atStart=>exact⟨0,rfl,Nat.zero_le _,Lib.hid (by rw[List.take_zero,mem8_nil,Sc.bind_kq];exact HS2.out),HK2⟩
     case round=>
      obtain⟨j,rfl,hj,hS,hK⟩:=hrel
      have p2:(0:Int)≤(j:Int):=Int.natCast_nonneg _
      by_cases hlt:j<nf
      ·have p1:(j:Int)<(nf:Int):=by omega
       have p1b:(j:Int)<(p.fs.length:Int):=by omega
       have hll:j<p.fs.length:=by omega
       obtain⟨s,hs⟩:∃s,p.fs[j]? =some s:=⟨_,List.getElem?_eq_getElem hll⟩
       have htk:(p.fs.map Fu.nm).take (j+1)=(p.fs.map Fu.nm).take j++[Fu.nm s]:=by rw[List.take_add_one,List.getElem?_map,hs];rfl
       obtain⟨rb,ro,hda,-,hrow⟩:=(HP.out _ hK.out).frow (by intro h0;rw[h0]at hs;cases hs)
       have z0:=(hrow j s hs).c0
       obtain⟨pl,er,hr,-⟩:=hS.out.box
       have q2:=cell_at hr 2
       simp only[sl7,sl8,sl9]at q2
       rw[hda]at q2
       have HM:=Lib.hid (mem8_step ((c.bind (kq (mem8 nm ((p.rs.map Re.nm).take nr)))).bind (kq (mem8 nm ((p.ss.map Fl.nm).take ns)))) nm ((p.fs.map Fu.nm).take j) (Fu.nm s))
       rw[←htk]at HM
       generalize Fu.nm s=sn at*
       clear hda hrow hr htk hs hll
       by_cases hnm:sn=nm
       ·have HM2:Hid ((((c.bind (kq (mem8 nm ((p.rs.map Re.nm).take nr)))).bind (kq (mem8 nm ((p.ss.map Fl.nm).take ns)))).bind (kq (mem8 nm ((p.fs.map Fu.nm).take j)))).bind (kq (orE false 8))=((c.bind (kq (mem8 nm ((p.rs.map Re.nm).take nr)))).bind (kq (mem8 nm ((p.ss.map Fl.nm).take ns)))).bind (kq (mem8 nm ((p.fs.map Fu.nm).take (j+1))))):=Lib.hid (by rw[←HM.out];simp[hnm])
        have C:=Lib.hid (rwant5_any X p _ false 8 wr hS.out)
        have e1:(sn==nm)=true:=by simpa using hnm
        have e2:(sn != nm)=false:=by simpa using hnm
        exact q4ju5_3
       ·have HM2:Hid ((((c.bind (kq (mem8 nm ((p.rs.map Re.nm).take nr)))).bind (kq (mem8 nm ((p.ss.map Fl.nm).take ns)))).bind (kq (mem8 nm ((p.fs.map Fu.nm).take j)))).bind (kq (orE true 8))=((c.bind (kq (mem8 nm ((p.rs.map Re.nm).take nr)))).bind (kq (mem8 nm ((p.ss.map Fl.nm).take ns)))).bind (kq (mem8 nm ((p.fs.map Fu.nm).take (j+1))))):=Lib.hid (by rw[←HM.out];simp[hnm])
        have C:=Lib.hid (rwant5_any X p _ true 8 wr hS.out)
        have e1:(sn==nm)=false:=by simpa using hnm
        have e2:(sn != nm)=true:=by simpa using hnm
        exact q4ju5_3
      ·obtain hje:j=nf:=by omega
       have HS3:Hid (St5 X p (((c.bind (kq (mem8 nm ((p.rs.map Re.nm).take nr)))).bind (kq (mem8 nm ((p.ss.map Fl.nm).take ns)))).bind (kq (mem8 nm ((p.fs.map Fu.nm).take nf)))) wr):=Lib.hid (by rw[←hje];exact hS.out)
       have HK3:=hK
       have hn3:¬(j:Int)<(nf:Int):=by omega
       clear hS hK
       go_wp2_with fail
       clear hje hn3
       go_end0
       exact⟨rfl,HS3.out,HK3.out⟩
end Go.Proofs.YtkklogikakcanaaGreatDoor
