import Derived.Test.YtkklogikakcanaaGreatDoorScopeG
set_option linter.unusedVariables false
set_option linter.unusedSimpArgs false
open List renaming getElem_toArray → sl1, getElem_cons_zero → sl2, getElem_cons_succ → sl3, setIfInBounds_toArray → sl4, set_cons_zero → sl5, set_cons_succ → sl6, getElem?_toArray → sl7, getElem?_cons_zero → sl8, getElem?_cons_succ → sl9
namespace Go.Proofs.YtkklogikakcanaaGreatDoor
open Go Go.Maps Go.RowKit
theorem q7uzf_5 {P:Prop} (h:P:=by
 try simp only[sl1,sl2,sl3,Act.put,sl4,sl5,sl6]
 refine wpAnyL_step (j:=4) (o:=_) (by kernel_rfl) rfl (fun K hK=>?_)
 (go_simp;go_at_call 154;refine CV.out.mono ?_;rintro e v9 ⟨hE,hb9⟩;obtain rfl:e=faultS er:=hE;exact⟨rfl,⟨rfl,(hb9.block Pb HTv5.out.pl.lt).trans HTv5.out.pl⟩,(HKw.out _ HKv5.out).trans (Kept.of_below ((Below.refl _ v5).drew.trans hb9))⟩)):P:=h
theorem q7uzf_4 {P:Prop} (h:P:=by
 have row0:=HRow.out _ HKv9.out
 have r0:=cell_at row0 0
 have r1:=r0
 have r2:=r0
 have r3:=r0
 have r4:=r0
 have r5:=r0
 have r6:=r0
 have r7:=r0
 have r8:=r0
 have r9:=r0
 have r10:=r0
 have r11:=r0
 have r12:=r0
 have r13:=r0
 have r14:=r0
 have r15:=r0
 have r16:=r0
 have r17:=r0
 have r18:=r0
 have r19:=r0
 have r20:=r0
 clear row0
 clear r0 r1 r2 r3 r4 r5 r6 r7 r8 r9 r10 r11 r12 r13 r14 r15 r16 r17 r18 r19 r20
 have row:=HRow.out _ HKv9.out
 have r0:=cell_at row 0
 have r1:=cell_at row 1
 have r2:=cell_at row 2
 have r3:=cell_at row 3
 have r4:=cell_at row 4
 have r5:=cell_at row 5
 have r6:=cell_at row 6
 have r7:=cell_at row 7
 have r8:=cell_at row 8
 have r9:=cell_at row 9
 have r10:=cell_at row 10
 have r11:=cell_at row 11
 have r12:=cell_at row 12
 have r13:=cell_at row 13
 have r14:=cell_at row 14
 have r15:=cell_at row 15
 have r16:=cell_at row 16
 have r17:=cell_at row 17
 have r18:=cell_at row 18
 have r19:=cell_at row 19
 have r20:=cell_at row 20
 clear row
 simp only[sl7,sl8,sl9]at r0 r1 r2 r3 r4 r5 r6 r7 r8 r9 r10 r11 r12 r13 r14 r15 r16 r17 r18 r19 r20
 have xr0:=cell_at (HRes.out _ (HKu.out _ HKv9.out)) 0
 have xr1:=cell_at (HRes.out _ (HKu.out _ HKv9.out)) 1
 have xr2:=cell_at (HRes.out _ (HKu.out _ HKv9.out)) 2
 simp only[sl7,sl8,sl9]at xr0 xr1 xr2
 go_wp2_with fail
 have CB:=ih (stCounts body) (Nat.lt_of_lt_of_le hsb hsz) body (Nat.le_refl _) bd aj lj (pj+1) v9 HTv9.out HLv9.out (hsI.out.body.keep (HKr.out _ HKv9.out) (Nat.le_refl B)) HGd.out.2.2.2.1 (by have:=HPl.out;omega) (by have:=HPl.out;omega)
 have HBn:=scSts_on p lj res body (pj+1)
 cases hcb:scSts p lj res body (pj+1) with
 |bad qq er=>
  rw[hcb]at CB
  obtain rfl:Sc.bad qq er=R:=by rw[←HC.out,scRest,hcb];rfl
  refine CB.mono ?_
  rintro e vb ⟨⟨rfl,hp⟩,hk⟩
  exact⟨rfl,⟨rfl,hp⟩,(HKw.out _ HKv9.out).trans hk⟩
 |on a3=>
 rw[hcb]at CB
 have HN3:Hid (a3=pj+1+(plSts body:Nat)):=Lib.hid (HBn.1 a3 hcb).1
 have HC3:Hid ((scSts p lj res els a3).bind (scSts p lj res (l.drop (j+1)))=R):=Lib.hid (by rw[←HC.out,scRest,hcb];rfl)
 clear hcb HBn
 refine CB.mono ?_
 rintro e vb ⟨⟨rfl,hp⟩,hk⟩
 have HTb:=Lib.hid (HTv9.out.kept hk hp)
 have HLb:=Lib.hid (HTv9.out.lcs HLv9.out hk)
 have HKb:=Lib.hid (HKv9.out.trans hk)
 have x00:=cell_at (HRes.out _ (HKu.out _ HKb.out)) 0
 have x01:=cell_at (HRes.out _ (HKu.out _ HKb.out)) 1
 have x02:=cell_at (HRes.out _ (HKu.out _ HKb.out)) 2
 simp only[sl7,sl8,sl9]at x00 x01 x02
 clear hp hk CB HTv9 HKv9 HLv9 HC xr0 xr1 xr2
 exact q7uzf_2):P:=h
theorem q7uzf_3 {P:Prop} (h:P:=by
 have HLvL:=HLn
 clear HLn
 go_wp2_with fail
 simp only[HNL.out.1,HNL.out.2]
 clear s19
 have CB:=ih (stCounts body) (Nat.lt_of_lt_of_le hsb hsz) body (Nat.le_refl _) bd (some ⟨XL,0,none⟩) (⟨nm,t⟩::lj) (pj+1) vL HTvL.out HLvL.out (hsI.out.body.keep (HKr.out _ HKvL.out) (Nat.le_refl B)) HGd.out.2.2.2.1 (by have:=HPl.out;omega) (by have:=HPl.out;omega)
 have HBn:=scSts_on p (⟨nm,t⟩::lj) res body (pj+1)
 cases hcb:scSts p (⟨nm,t⟩::lj) res body (pj+1) with
 |bad qq er=>
  rw[hcb]at CB
  obtain rfl:Sc.bad qq er=R:=by rw[←HC.out,scRest,hcb];rfl
  refine CB.mono ?_
  rintro e vb ⟨⟨rfl,hp⟩,hk⟩
  exact⟨rfl,⟨rfl,hp⟩,(HKw.out _ HKvL.out).trans hk⟩
 |on a3=>
 rw[hcb]at CB
 have HN3:Hid (a3=pj+1+(plSts body:Nat)):=Lib.hid (HBn.1 a3 hcb).1
 have HC3:Hid ((scSts p (⟨nm,t⟩::lj) res els a3).bind (scSts p (⟨nm,t⟩::lj) res (l.drop (j+1)))=R):=Lib.hid (by rw[←HC.out,scRest,hcb];rfl)
 clear hcb HBn
 refine CB.mono ?_
 rintro e vb ⟨⟨rfl,hp⟩,hk⟩
 have HTb:=Lib.hid (HTvL.out.kept hk hp)
 have HLb:=Lib.hid (HTvL.out.lcs HLvL.out hk)
 have HKb:=Lib.hid (HKvL.out.trans hk)
 have x00:=cell_at (HRes.out _ (HKu.out _ HKb.out)) 0
 have x01:=cell_at (HRes.out _ (HKu.out _ HKb.out)) 1
 have x02:=cell_at (HRes.out _ (HKu.out _ HKb.out)) 2
 simp only[sl7,sl8,sl9]at x00 x01 x02
 clear hp hk CB HTvL HKvL HLvL HC xr0 xr1 xr2
 clear r0 r1 r2 r3 r4 r5 r6 r7 r8 r9 r10 r11 r12 r13 r14 r15 r16 r17 r18 r19 r20
 have row:=HRow.out _ HKb.out
 have r0:=cell_at row 0
 have r1:=cell_at row 1
 have r2:=cell_at row 2
 have r3:=cell_at row 3
 have r4:=cell_at row 4
 have r5:=cell_at row 5
 have r6:=cell_at row 6
 have r7:=cell_at row 7
 have r8:=cell_at row 8
 have r9:=cell_at row 9
 have r10:=cell_at row 10
 have r11:=cell_at row 11
 have r12:=cell_at row 12
 have r13:=cell_at row 13
 have r14:=cell_at row 14
 have r15:=cell_at row 15
 have r16:=cell_at row 16
 have r17:=cell_at row 17
 have r18:=cell_at row 18
 have r19:=cell_at row 19
 have r20:=cell_at row 20
 clear row
 simp only[sl7,sl8,sl9]at r0 r1 r2 r3 r4 r5 r6 r7 r8 r9 r10 r11 r12 r13 r14 r15 r16 r17 r18 r19 r20
 go_wp2_with fail
 have CE:=ih (stCounts els) (Nat.lt_of_lt_of_le hse hsz) els (Nat.le_refl _) ed (some ⟨XL,0,none⟩) (⟨nm,t⟩::lj) a3 vb HTb.out HLb.out (hsI.out.els.keep (HKr.out _ HKb.out) (Nat.le_refl B)) HGd.out.2.2.2.2 (by have:=HPl.out;have:=HN3.out;omega) (by have:=HPl.out;have:=HN3.out;omega)
 have HEn:=scSts_on p (⟨nm,t⟩::lj) res els a3
 cases hce:scSts p (⟨nm,t⟩::lj) res els a3 with
 |bad qq er=>
  rw[hce]at CE
  obtain rfl:Sc.bad qq er=R:=by rw[←HC3.out,hce];rfl
  refine CE.mono ?_
  rintro e vc ⟨⟨rfl,hp⟩,hk⟩
  exact⟨rfl,⟨rfl,hp⟩,(HKw.out _ HKb.out).trans hk⟩
 |on a4=>
 rw[hce]at CE
 have HN4:Hid (-1≤a4∧a4+(plSts (l.drop (j+1)):Nat)≤1000000):=Lib.hid (by have h1:=(HEn.1 a4 hce).1;have:=HPl.out;have:=HN3.out;omega)
 have HC4:Hid (scSts p (⟨nm,t⟩::lj) res (l.drop (j+1)) a4=R):=Lib.hid (by rw[←HC3.out,hce];rfl)
 clear hce HEn
 refine CE.mono ?_
 rintro e vc ⟨⟨rfl,hp⟩,hk⟩
 have HTc:=Lib.hid (HTb.out.kept hk hp)
 have HLc:=Lib.hid (HTb.out.lcs HLb.out hk)
 have HKc:=Lib.hid (HKu.out _ (HKb.out.trans hk))
 clear hp hk CE HTb HKb HLb HC3 HN3 x00 x01 x02
 clear r0 r1 r2 r3 r4 r5 r6 r7 r8 r9 r10 r11 r12 r13 r14 r15 r16 r17 r18 r19 r20
 go_wp2_with fail
 go_roundw
 case rel=>exact⟨j+1,(some ⟨XL,0,none⟩),(⟨nm,t⟩::lj),a4,rfl,by go_num,by omega,HTc,HLc,HN4,HKc,HC4⟩
 case measure=>simp[intOf];omega):P:=h
theorem q7uzf_2 {P:Prop} (h:P:=by
 clear r0 r1 r2 r3 r4 r5 r6 r7 r8 r9 r10 r11 r12 r13 r14 r15 r16 r17 r18 r19 r20
 have row:=HRow.out _ HKb.out
 have r0:=cell_at row 0
 have r1:=cell_at row 1
 have r2:=cell_at row 2
 have r3:=cell_at row 3
 have r4:=cell_at row 4
 have r5:=cell_at row 5
 have r6:=cell_at row 6
 have r7:=cell_at row 7
 have r8:=cell_at row 8
 have r9:=cell_at row 9
 have r10:=cell_at row 10
 have r11:=cell_at row 11
 have r12:=cell_at row 12
 have r13:=cell_at row 13
 have r14:=cell_at row 14
 have r15:=cell_at row 15
 have r16:=cell_at row 16
 have r17:=cell_at row 17
 have r18:=cell_at row 18
 have r19:=cell_at row 19
 have r20:=cell_at row 20
 clear row
 simp only[sl7,sl8,sl9]at r0 r1 r2 r3 r4 r5 r6 r7 r8 r9 r10 r11 r12 r13 r14 r15 r16 r17 r18 r19 r20
 go_wp2_with fail
 have CE:=ih (stCounts els) (Nat.lt_of_lt_of_le hse hsz) els (Nat.le_refl _) ed aj lj a3 vb HTb.out HLb.out (hsI.out.els.keep (HKr.out _ HKb.out) (Nat.le_refl B)) HGd.out.2.2.2.2 (by have:=HPl.out;have:=HN3.out;omega) (by have:=HPl.out;have:=HN3.out;omega)
 have HEn:=scSts_on p lj res els a3
 cases hce:scSts p lj res els a3 with
 |bad qq er=>
  rw[hce]at CE
  obtain rfl:Sc.bad qq er=R:=by rw[←HC3.out,hce];rfl
  refine CE.mono ?_
  rintro e vc ⟨⟨rfl,hp⟩,hk⟩
  exact⟨rfl,⟨rfl,hp⟩,(HKw.out _ HKb.out).trans hk⟩
 |on a4=>
 rw[hce]at CE
 have HN4:Hid (-1≤a4∧a4+(plSts (l.drop (j+1)):Nat)≤1000000):=Lib.hid (by have h1:=(HEn.1 a4 hce).1;have:=HPl.out;have:=HN3.out;omega)
 have HC4:Hid (scSts p lj res (l.drop (j+1)) a4=R):=Lib.hid (by rw[←HC3.out,hce];rfl)
 clear hce HEn
 refine CE.mono ?_
 rintro e vc ⟨⟨rfl,hp⟩,hk⟩
 have HTc:=Lib.hid (HTb.out.kept hk hp)
 have HLc:=Lib.hid (HTb.out.lcs HLb.out hk)
 have HKc:=Lib.hid (HKu.out _ (HKb.out.trans hk))
 clear hp hk CE HTb HKb HLb HC3 HN3 x00 x01 x02
 clear r0 r1 r2 r3 r4 r5 r6 r7 r8 r9 r10 r11 r12 r13 r14 r15 r16 r17 r18 r19 r20
 go_wp2_with fail
 go_roundw
 case rel=>exact⟨j+1,aj,lj,a4,rfl,by go_num,by omega,HTc,HLc,HN4,HKc,HC4⟩
 case measure=>simp[intOf];omega):P:=h
theorem q7uzf_1 {P:Prop} (h:P:=by
 go_wp2_with fail
 cases hv:valS p lj x with
 |error er=>
  rw[hv]at CV
  obtain rfl:Sc.bad (pj+1) er=R:=by rw[←hC1.out,scSt_bad (e:=er) (HO1.out _ hv) (valS_ne p lj x er hv)];rfl
  refine wp_region_L (l:=7) (S:=(NxS X6 x)) (by kernel_rfl) ?_ (fun hHeld=>?_)
  ·((try dsimp only);(exact HS.out))
  refine tk 0 ?_
  try simp only[sl1,sl2,sl3,Act.put,sl4,sl5,sl6]
  refine tk 1 ?_
  try simp only[sl1,sl2,sl3,Act.put,sl4,sl5,sl6]
  refine tk 2 ?_
  try simp only[sl1,sl2,sl3,Act.put,sl4,sl5,sl6]
  refine tk 3 ?_
  try simp only[sl1,sl2,sl3,Act.put,sl4,sl5,sl6]
  refine tk 5 ?_
  try simp only[sl1,sl2,sl3,Act.put,sl4,sl5,sl6]
  refine wpAnyL_step (j:=4) (o:=_) (by kernel_rfl) rfl (fun K hK=>?_)
  (go_simp;go_at_call 154;refine CV.out.mono ?_;rintro e v9 ⟨hE,hb9⟩;obtain rfl:e=faultS er:=hE;exact⟨rfl,⟨rfl,(hb9.block Pb HTv.out.pl.lt).trans HTv.out.pl⟩,(HKw.out _ HKv.out).trans (Kept.of_below ((Below.refl _ v).drew.trans hb9))⟩)
 |ok u=>
  rw[hv]at CV
  have hEq:∀W,(binOp .eql 213 (.agg #[.int .u8 u.t.k,.string ⟨u.t.nm.toArray⟩,.int .i64 u.t.n,.bool u.null]) (.agg #[.int .u8 1,.string ⟨#[]⟩,.int .i64 0,.bool false])).run Tryz.prog W=.ok (.bool (decide (u=numS))) W:=fun W=>eqlS u numS W
  by_cases hun:u=numS
  ·have HC:Hid ((scRest p lj res body els (pj+1)).bind (scSts p lj res (l.drop (j+1)))=R):=Lib.hid (by have h:=hC1.out;rw[scSt_go ((HO1.out _ hv).trans (if_pos hun)),HLx.out]at h;exact h)
   have hdu:decide (u=numS)=true:=by simpa using hun
   rw[hdu]at hEq
   clear hun hdu hv HO1 r0 r1 r2 r3 r4 r5 r6 r7 r8 r9 r10 r11 r12 r13 r14 r15 r16 r17 r18 r19 r20 xr0 xr1 xr2
   refine wp_region_L (l:=7) (S:=(NxS X6 x)) (by kernel_rfl) ?_ (fun hHeld=>?_)
   ·((try dsimp only);(exact HS.out))
   refine tk 0 ?_
   try simp only[sl1,sl2,sl3,Act.put,sl4,sl5,sl6]
   refine tk 1 ?_
   try simp only[sl1,sl2,sl3,Act.put,sl4,sl5,sl6]
   refine tk 2 ?_
   try simp only[sl1,sl2,sl3,Act.put,sl4,sl5,sl6]
   refine tk 3 ?_
   try simp only[sl1,sl2,sl3,Act.put,sl4,sl5,sl6]
   refine tk 5 ?_
   try simp only[sl1,sl2,sl3,Act.put,sl4,sl5,sl6]
   refine wpAnyL_step (j:=4) (o:=_) (by kernel_rfl) rfl (fun K hK=>?_)
   (go_simp;go_at_call 154;refine CV.out.mono ?_;rintro e v9 ⟨hE,hb9⟩;obtain rfl:e=.returned u.val:=hE;have HB9:=Lib.hid ((Below.refl _ v).drew.trans hb9);have HS9:Hid (NxS X6 x v9):=Lib.hid (NxS.below HS.out hb9);clear hb9)
   refine hK _ _ ?_ (fun hHeld=>?_)
   ·((try dsimp only);(exact HS9.out))
   clear hK K
   try simp only[sl1,sl2,sl3,Act.put,sl4,sl5,sl6]
   refine tk 6 ?_
   try simp only[sl1,sl2,sl3,Act.put,sl4,sl5,sl6]
   refine wpAnyL_last (j:=7) (o:=_) (by kernel_rfl) rfl (by rfl) (by kernel_rfl) (fun K hK=>?_)
   (go_simp;go_at_call 116;refine (swant_yes 10 _).mono ?_;rintro e w99 ⟨rfl,rfl⟩)
   (refine hK _ _ ?_;clear hK K)
   try simp only[sl1,sl2,sl3,Act.put,sl4,sl5,sl6]
   have hb9:=HB9.out
   have HTv9:=Lib.hid (HTv.out.below hb9)
   have HKv9:=Lib.hid (HKv.out.trans (Kept.of_below hb9))
   have HLv9:=Lib.hid (HTv.out.lcs HLv.out (Kept.of_below hb9))
   clear hb9 hHeld HS HS9 HB9 CV hEq HTv HKv HLv HLx
   have row:=HRow.out _ HKv9.out
   have r0:=cell_at row 0
   have r1:=cell_at row 1
   have r2:=cell_at row 2
   have r3:=cell_at row 3
   have r4:=cell_at row 4
   have r5:=cell_at row 5
   have r6:=cell_at row 6
   have r7:=cell_at row 7
   have r8:=cell_at row 8
   have r9:=cell_at row 9
   have r10:=cell_at row 10
   have r11:=cell_at row 11
   have r12:=cell_at row 12
   have r13:=cell_at row 13
   have r14:=cell_at row 14
   have r15:=cell_at row 15
   have r16:=cell_at row 16
   have r17:=cell_at row 17
   have r18:=cell_at row 18
   have r19:=cell_at row 19
   have r20:=cell_at row 20
   clear row
   simp only[sl7,sl8,sl9]at r0 r1 r2 r3 r4 r5 r6 r7 r8 r9 r10 r11 r12 r13 r14 r15 r16 r17 r18 r19 r20
   clear r0 r1 r2 r3 r4 r5 r6 r7 r8 r9 r10 r11 r12 r13 r14 r15 r16 r17 r18 r19 r20
   have row:=HRow.out _ HKv9.out
   have r0:=cell_at row 0
   have r1:=cell_at row 1
   have r2:=cell_at row 2
   have r3:=cell_at row 3
   have r4:=cell_at row 4
   have r5:=cell_at row 5
   have r6:=cell_at row 6
   have r7:=cell_at row 7
   have r8:=cell_at row 8
   have r9:=cell_at row 9
   have r10:=cell_at row 10
   have r11:=cell_at row 11
   have r12:=cell_at row 12
   have r13:=cell_at row 13
   have r14:=cell_at row 14
   have r15:=cell_at row 15
   have r16:=cell_at row 16
   have r17:=cell_at row 17
   have r18:=cell_at row 18
   have r19:=cell_at row 19
   have r20:=cell_at row 20
   clear row
   simp only[sl7,sl8,sl9]at r0 r1 r2 r3 r4 r5 r6 r7 r8 r9 r10 r11 r12 r13 r14 r15 r16 r17 r18 r19 r20
   have xr0:=cell_at (HRes.out _ (HKu.out _ HKv9.out)) 0
   have xr1:=cell_at (HRes.out _ (HKu.out _ HKv9.out)) 1
   have xr2:=cell_at (HRes.out _ (HKu.out _ HKv9.out)) 2
   simp only[sl7,sl8,sl9]at xr0 xr1 xr2
   go_wp2_with fail
   have CB:=ih (stCounts body) (Nat.lt_of_lt_of_le hsb hsz) body (Nat.le_refl _) bd aj lj (pj+1) v9 HTv9.out HLv9.out (hsI.out.body.keep (HKr.out _ HKv9.out) (Nat.le_refl B)) HGd.out.2.2.2.1 (by have:=HPl.out;omega) (by have:=HPl.out;omega)
   have HBn:=scSts_on p lj res body (pj+1)
   cases hcb:scSts p lj res body (pj+1) with
   |bad qq er=>
    rw[hcb]at CB
    obtain rfl:Sc.bad qq er=R:=by rw[←HC.out,scRest,hcb];rfl
    refine CB.mono ?_
    rintro e vb ⟨⟨rfl,hp⟩,hk⟩
    exact⟨rfl,⟨rfl,hp⟩,(HKw.out _ HKv9.out).trans hk⟩
   |on a3=>
   rw[hcb]at CB
   have HN3:Hid (a3=pj+1+(plSts body:Nat)):=Lib.hid (HBn.1 a3 hcb).1
   have HC3:Hid ((scSts p lj res els a3).bind (scSts p lj res (l.drop (j+1)))=R):=Lib.hid (by rw[←HC.out,scRest,hcb];rfl)
   clear hcb HBn
   refine CB.mono ?_
   rintro e vb ⟨⟨rfl,hp⟩,hk⟩
   have HTb:=Lib.hid (HTv9.out.kept hk hp)
   have HLb:=Lib.hid (HTv9.out.lcs HLv9.out hk)
   have HKb:=Lib.hid (HKv9.out.trans hk)
   have x00:=cell_at (HRes.out _ (HKu.out _ HKb.out)) 0
   have x01:=cell_at (HRes.out _ (HKu.out _ HKb.out)) 1
   have x02:=cell_at (HRes.out _ (HKu.out _ HKb.out)) 2
   simp only[sl7,sl8,sl9]at x00 x01 x02
   clear hp hk CB HTv9 HKv9 HLv9 HC xr0 xr1 xr2
   exact q7uzf_2
  ·obtain rfl:Sc.bad (pj+1) 10=R:=by rw[←hC1.out,scSt_bad (e:=10) ((HO1.out _ hv).trans (if_neg hun)) (by decide)];rfl
   have hdu:decide (u=numS)=false:=by simpa using hun
   rw[hdu]at hEq
   clear hun hdu hv HO1
   refine wp_region_L (l:=7) (S:=(NxS X6 x)) (by kernel_rfl) ?_ (fun hHeld=>?_)
   ·((try dsimp only);(exact HS.out))
   refine tk 0 ?_
   try simp only[sl1,sl2,sl3,Act.put,sl4,sl5,sl6]
   refine tk 1 ?_
   try simp only[sl1,sl2,sl3,Act.put,sl4,sl5,sl6]
   refine tk 2 ?_
   try simp only[sl1,sl2,sl3,Act.put,sl4,sl5,sl6]
   refine tk 3 ?_
   try simp only[sl1,sl2,sl3,Act.put,sl4,sl5,sl6]
   refine tk 5 ?_
   try simp only[sl1,sl2,sl3,Act.put,sl4,sl5,sl6]
   refine wpAnyL_step (j:=4) (o:=_) (by kernel_rfl) rfl (fun K hK=>?_)
   (go_simp;go_at_call 154;refine CV.out.mono ?_;rintro e v9 ⟨hE,hb9⟩;obtain rfl:e=.returned u.val:=hE;have HB9:=Lib.hid ((Below.refl _ v).drew.trans hb9);have HS9:Hid (NxS X6 x v9):=Lib.hid (NxS.below HS.out hb9);clear hb9)
   refine hK _ _ ?_ (fun hHeld=>?_)
   ·((try dsimp only);(exact HS9.out))
   clear hK K
   try simp only[sl1,sl2,sl3,Act.put,sl4,sl5,sl6]
   refine tk 6 ?_
   try simp only[sl1,sl2,sl3,Act.put,sl4,sl5,sl6]
   refine wpAnyL_last (j:=7) (o:=_) (by kernel_rfl) rfl (by rfl) (by kernel_rfl) (fun K hK=>?_)
   (go_simp;go_at_call 116;refine (swant_no 10 _).mono ?_;rintro e w99 ⟨rfl,rfl⟩;exact⟨rfl,⟨rfl,(HB9.out.block Pb HTv.out.pl.lt).trans HTv.out.pl⟩,(HKw.out _ HKv.out).trans (Kept.of_below HB9.out)⟩)):P:=h
theorem valS_ne (p:Pr) (l:Lc) (x:Ex) (e:Int) (h:valS p l x=.error e):e≠0:=by
 unfold valS at h
 cases hx:exS p l x with
 |error e2=>rw[hx]at h;injection h with h;rw[←h];exact exS_ne p l x e2 hx
 |ok s=>
  rw[hx]at h
  dsimp only at h
  split at h
  ·cases h
  ·injection h with h;rw[←h];decide
set_option maxHeartbeats 40000000 in
set_option maxRecDepth 100000 in
theorem sclist_any (B Kb Rb Fb Sb Pb:Nat) (p:Pr) (res:Ty):∀(sz:Nat) (l:List St),stCounts l≤sz→∀(d:Hd) (a:Option Addr) (lc:Lc) (q:Int) (w:World),ScP B Kb Rb Fb Sb Pb p q w→LcAt w a lc→StsIn w B d l→stsGood l→-1≤q→q+(plSts l:Nat)≤1000000→
  Calls Tryz.prog 120 #[.pointer (some ⟨Kb,0,none⟩),.pointer a,.slice d.a l.length d.c,res.val,.func (.func 80) #[] #[.pointer (some ⟨Pb,0,none⟩)]] w
   fun e w'=>QEnds Pb (scSts p lc res l q) e w'∧Kq Pb w w':=by
 intro sz
 induction sz using Nat.strongRecOn with
 |ind sz ih=>
 intro l hsz0 d a lc q w hT hL hI hG hq1 hq2
 obtain⟨R,hR⟩:∃R,scSts p lc res l q=R:=⟨_,rfl⟩
 rw[hR]
 obtain⟨X0,hX0⟩:∃X0,w.heap.size=X0:=⟨_,rfl⟩
 obtain⟨w1,hw1⟩:∃w1,w.alloc (.cells #[.int .u8 res.k,.string ⟨res.nm.toArray⟩,.int .i64 res.n] 39 (0,0))=w1:=⟨_,rfl⟩
 have hb1:Below w.heap.size w w1:=by rw[←hw1];exact (Below.refl _ _).alloc (Nat.le_refl _) _
 have x1:w1.heap[X0]? =some (.cells #[.int .u8 res.k,.string ⟨res.nm.toArray⟩,.int .i64 res.n] 39 (0,0)):=by rw[←hw1,←hX0];exact heap_alloc_new w _
 have hpl:=hT.pl.lt
 have HRes:Hid (∀W,Kq Pb w1 W→W.heap[X0]? =some (.cells #[.int .u8 res.k,.string ⟨res.nm.toArray⟩,.int .i64 res.n] 39 (0,0))):=Lib.hid fun W hk=>(hk.block X0 (lt_blk x1) (by omega)).trans x1
 have HKv:Hid (∀W,Kq Pb w1 W→Kq Pb w W):=Lib.hid fun W hk=>(Kept.of_below hb1).trans hk
 have HR:=Lib.hid hR
 have HI:=Lib.hid (hI.keep (hb1.mono hT.sc.le) (Nat.le_refl B))
 have HG:=Lib.hid hG
 have hT1:=hT.below hb1
 have HT0:=Lib.hid hT1
 have HL0:=Lib.hid (hT.lcs hL (Kept.of_below hb1))
 have HBl:Hid (∀W,Kq Pb w1 W→Below B w1 W):=Lib.hid fun W h=>hT1.blw h
 have HQ0:Hid (-1≤q∧q+(plSts (l.drop 0):Nat)≤1000000):=Lib.hid ⟨hq1,by rw[List.drop_zero];exact hq2⟩
 have HN0:=Lib.hid (And.intro hX0 hw1)
 have p3:l.length≤140737488355328:=HI.out.len
 clear hR hI hT hL hG hq1 hq2 hX0 hw1 hb1 x1 hpl hT1
 go_enter Tryz.func120,Tryz.ntmps120
 go_wp2_with fail
 simp only[HN0.out.1,HN0.out.2]
 go_loopw [1,17] (fun s1 ii wr=>∃(j:Nat) (aj:Option Addr) (lj:Lc) (pj:Int),s1=.pointer aj∧ii=.int .i64 j∧j≤l.length∧Hid (ScP B Kb Rb Fb Sb Pb p pj wr)∧Hid (LcAt wr aj lj)∧Hid (-1≤pj∧pj+(plSts (l.drop j):Nat)≤1000000)∧Hid (Kq Pb w1 wr)∧Hid (scSts p lj res (l.drop j) pj=R)) (fun s1 ii _=>l.length - (intOf ii).toNat)
 case atStart=>exact⟨0,a,lc,q,rfl,rfl,Nat.zero_le _,HT0,HL0,HQ0,Lib.hid (Kept.refl _ _),Lib.hid (by rw[List.drop_zero];exact HR.out)⟩
 case round=>
  obtain⟨j,aj,lj,pj,rfl,rfl,hj,hT,hL,hQ,hK,hC⟩:=hrel
  clear HT0 HL0 HQ0 HR
  have p2:(0:Int)≤(j:Int):=Int.natCast_nonneg _
  by_cases hlt:j<l.length
  ·obtain⟨s,hs⟩:∃s,l[j]? =some s:=⟨_,List.getElem?_eq_getElem hlt⟩
   have hdrop:l.drop j=s::l.drop (j+1):=by
    have:=List.drop_eq_getElem_cons hlt
    rw[List.getElem?_eq_getElem hlt]at hs
    injection hs with hs
    rw[this,hs]
   have hIr:=HI.out.keep (HBl.out _ hK.out) (Nat.le_refl B)
   obtain⟨rb,ro,hda,hrb,hrow⟩:=hIr.row (by intro h0;rw[h0]at hlt;simp at hlt)
   have hsa:=hrow j s hs
   have hsI:=Lib.hid (hIr.sub s (List.mem_of_getElem? hs))
   have hgd:=stsGood_mem HG.out (List.mem_of_getElem? hs)
   have hsc:stCount s≤stCounts l:=stCounts_mem (List.mem_of_getElem? hs)
   have hC1:=Lib.hid hC.out
   rw[hdrop,scSts_cons]at hC1
   have hq:=hQ.out
   rw[hdrop,plSts]at hq
   obtain⟨k,nm,t,x,y,bd,body,ed,els⟩:=s
   rw[stGood]at hgd
   have HGd:=Lib.hid hgd
   rw[plSt]at hq
   have HPl:Hid (-1≤pj∧pj+1+(plSts body:Nat)+(plSts els:Nat)+(plSts (l.drop (j+1)):Nat)≤1000000):=Lib.hid ⟨hq.1,by have:=hq.2;omega⟩
   have hz:=hsa.cells
   clear hsa
   dsimp only[St.k,St.nm,St.t,St.x,St.y,St.bd,St.body,St.ed,St.els]at hz hC1
   rw[stCount]at hsc
   have hsb:stCounts body<stCounts l:=by omega
   have hse:stCounts els<stCounts l:=by omega
   have hsz:=hsz0
   obtain⟨X6,hX6⟩:∃X6,wr.heap.size=X6:=⟨_,rfl⟩
   obtain⟨w6,hw6⟩:∃w6,wr.alloc (stObj k nm t x y bd.a body.length bd.c ed.a els.length ed.c)=w6:=⟨_,rfl⟩
   have hb6:Below wr.heap.size wr w6:=by rw[←hw6];exact (Below.refl _ _).alloc (Nat.le_refl _) _
   have x6:w6.heap[X6]? =some (stObj k nm t x y bd.a body.length bd.c ed.a els.length ed.c):=by rw[←hw6,←hX6];exact heap_alloc_new wr _
   have HT6:=Lib.hid (hT.out.below hb6)
   have HL6:=Lib.hid (hT.out.lcs hL.out (Kept.of_below hb6))
   have hlw:=hT.out.pl.lt
   have HRow:Hid (∀W,Kq Pb w6 W→W.heap[X6]? =some (stObj k nm t x y bd.a body.length bd.c ed.a els.length ed.c)):=
    Lib.hid fun W hk=>(hk.block X6 (Array.getElem?_eq_some_iff.1 x6).1 (by omega)).trans x6
   have HKu:Hid (∀W,Kq Pb w6 W→Kq Pb w1 W):=Lib.hid fun W hk=>(hK.out.trans (Kept.of_below hb6)).trans hk
   have HKw:Hid (∀W,Kq Pb w6 W→Kq Pb w W):=Lib.hid fun W hk=>HKv.out _ (HKu.out _ hk)
   have HKr:Hid (∀W,Kq Pb w6 W→Below B wr W):=Lib.hid fun W hk=>hT.out.blw ((Kept.of_below hb6).trans hk)
   have HNm:=Lib.hid (And.intro hX6 hw6)
   have p1:(j:Int)<(l.length:Int):=by omega
   clear hb6 x6 hrow hIr hdrop hs hX6 hw6 hsc hlw hT hK hC hL hQ hq hgd
   rw[hda]
   go_wp2_with (first|(refine wpList_load_list rfl 72 _ rfl _ rfl (stCells k nm t x y bd.a body.length bd.c ed.a els.length ed.c) _ hz Tryz.underlying72 rfl (stSize ..) ?_)|(refine wpList_store_row rfl 72 _ _ rfl wr.heap.size (stCells k nm t x y bd.a body.length bd.c ed.a els.length ed.c).toArray rfl rfl 72 _ (heap_alloc_new wr _) (stSizeA ..) rfl (stOne ..) ?_;rw[alloc_setRow _ _ _ _ _ rfl]))
   simp only[HNm.out.1,HNm.out.2]
   refine (splace_any Pb pj w6 HT6.out.pl HPl.out.1 (by have:=HPl.out;omega)).mono ?_
   rintro e v ⟨rfl,hw7⟩
   have HTv:Hid (ScP B Kb Rb Fb Sb Pb p (pj+1) v):=Lib.hid (by rw[hw7];exact HT6.out.step)
   have HKv2:Hid (Kq Pb w6 v):=Lib.hid (by rw[hw7];exact Kept.setCell (S:=fun k=>k=Pb) (Kept.refl _ _) (p:=⟨Pb,0,none⟩) (Or.inl rfl) _)
   have HLv:=Lib.hid (HT6.out.lcs HL6.out HKv2.out)
   clear hw7 hz HKv HT6 HL6
   have HKv:=HKv2
   clear HKv2
   have row:=HRow.out _ HKv.out
   have r0:=cell_at row 0
   have r1:=cell_at row 1
   have r2:=cell_at row 2
   have r3:=cell_at row 3
   have r4:=cell_at row 4
   have r5:=cell_at row 5
   have r6:=cell_at row 6
   have r7:=cell_at row 7
   have r8:=cell_at row 8
   have r9:=cell_at row 9
   have r10:=cell_at row 10
   have r11:=cell_at row 11
   have r12:=cell_at row 12
   have r13:=cell_at row 13
   have r14:=cell_at row 14
   have r15:=cell_at row 15
   have r16:=cell_at row 16
   have r17:=cell_at row 17
   have r18:=cell_at row 18
   have r19:=cell_at row 19
   have r20:=cell_at row 20
   clear row
   simp only[sl7,sl8,sl9]at r0 r1 r2 r3 r4 r5 r6 r7 r8 r9 r10 r11 r12 r13 r14 r15 r16 r17 r18 r19 r20
   have xr0:=cell_at (HRes.out _ (HKu.out _ HKv.out)) 0
   have xr1:=cell_at (HRes.out _ (HKu.out _ HKv.out)) 1
   have xr2:=cell_at (HRes.out _ (HKu.out _ HKv.out)) 2
   simp only[sl7,sl8,sl9]at xr0 xr1 xr2
   by_cases hk1:k=1
   ·subst hk1
    have HO1:Hid (stOwn p lj res (.mk 1 nm t x y bd body ed els)=(if (fieldOf lj nm).isSome∨(shOf p nm).isSome then 8 else if knownT p t=false then 9 else if noEx x then 0 else match valS p lj x with|.error e=>e|.ok v=>if v.fits t then 0 else 10)):=Lib.hid (if_pos rfl)
    go_wp2_with fail
    have CF:=Lib.hid (sfind_any aj lj nm v HLv.out)
    refine CF.out.mono ?_
    clear CF
    cases hm:fieldOf lj nm with
    |some u0=>
     obtain rfl:Sc.bad (pj+1) 8=R:=by rw[←hC1.out,scSt_bad (e:=8) (HO1.out.trans (if_pos (Or.inl (by rw[hm];rfl)))) (by decide)];rfl
     rintro e v1 ⟨hE,hb1⟩
     obtain rfl:e=.returned (.tuple #[.agg #[.int .u8 u0.k,.string ⟨u0.nm.toArray⟩,.int .i64 u0.n],.bool true]):=hE
     have HTv1:=Lib.hid (HTv.out.below hb1)
     have HKv1:=Lib.hid (HKv.out.trans (Kept.of_below hb1))
     have HLv1:=Lib.hid (HTv.out.lcs HLv.out (Kept.of_below hb1))
     have HB2:=Lib.hid (hb1.alloc hb1.size (.cells #[.int .u8 u0.k,.string ⟨u0.nm.toArray⟩,.int .i64 u0.n] 39 (0,0)))
     clear hb1 hm
     go_wp2_with fail
     refine (swant_no 8 _).mono ?_
     rintro e w99 ⟨rfl,rfl⟩
     exact⟨rfl,⟨rfl,(HB2.out.block Pb HTv.out.pl.lt).trans HTv.out.pl⟩,(HKw.out _ HKv.out).trans (Kept.of_below HB2.out)⟩
    |none=>
     have HM:=Lib.hid hm
     rintro e v1 ⟨hE,hb1⟩
     obtain rfl:e=.returned (.tuple #[.agg #[.int .u8 0,.string ⟨([]:List UInt8).toArray⟩,.int .i64 0],.bool false]):=hE
     obtain⟨v2,hv2⟩:∃v2,v1.alloc (.cells #[.int .u8 0,.string ⟨([]:List UInt8).toArray⟩,.int .i64 0] 39 (0,0))=v2:=⟨_,rfl⟩
     have hb2:Below v.heap.size v v2:=by rw[←hv2];exact hb1.alloc hb1.size _
     have HTv2:=Lib.hid (HTv.out.below hb2)
     have HKv2:=Lib.hid (HKv.out.trans (Kept.of_below hb2))
     have HLv2:=Lib.hid (HTv.out.lcs HLv.out (Kept.of_below hb2))
     have s1:=cell_at (HRow.out _ HKv2.out) 1
     simp only[sl7,sl8,sl9]at s1
     rw[←hv2]at s1
     have HN2:Hid (v1.alloc (.cells #[.int .u8 0,.string ⟨([]:List UInt8).toArray⟩,.int .i64 0] 39 (0,0))=v2∧True):=Lib.hid ⟨hv2,trivial⟩
     clear hb1 hb2 hm hv2 HTv HKv HLv
     go_wp2_with fail
     simp only[HN2.out.1]
     clear s1
     have CS:=Lib.hid (sshared_any B Kb Rb Fb Sb p nm v2 HTv2.out.sc hsI.out.nm)
     refine CS.out.mono ?_
     clear CS
     rintro e v3 ⟨rfl,hb3⟩
     have HTv3:=Lib.hid (HTv2.out.below hb3)
     have HKv3:=Lib.hid (HKv2.out.trans (Kept.of_below hb3))
     have HLv3:=Lib.hid (HTv2.out.lcs HLv2.out (Kept.of_below hb3))
     clear hb3 HTv2 HKv2 HLv2 xr0 xr1 xr2
     clear r0 r1 r2 r3 r4 r5 r6 r7 r8 r9 r10 r11 r12 r13 r14 r15 r16 r17 r18 r19 r20
     have row:=HRow.out _ HKv3.out
     have r0:=cell_at row 0
     have r1:=cell_at row 1
     have r2:=cell_at row 2
     have r3:=cell_at row 3
     have r4:=cell_at row 4
     have r5:=cell_at row 5
     have r6:=cell_at row 6
     have r7:=cell_at row 7
     have r8:=cell_at row 8
     have r9:=cell_at row 9
     have r10:=cell_at row 10
     have r11:=cell_at row 11
     have r12:=cell_at row 12
     have r13:=cell_at row 13
     have r14:=cell_at row 14
     have r15:=cell_at row 15
     have r16:=cell_at row 16
     have r17:=cell_at row 17
     have r18:=cell_at row 18
     have r19:=cell_at row 19
     have r20:=cell_at row 20
     clear row
     simp only[sl7,sl8,sl9]at r0 r1 r2 r3 r4 r5 r6 r7 r8 r9 r10 r11 r12 r13 r14 r15 r16 r17 r18 r19 r20
     cases hs:(shOf p nm).isSome with
     |true=>
      obtain rfl:Sc.bad (pj+1) 8=R:=by rw[←hC1.out,scSt_bad (e:=8) (HO1.out.trans (if_pos (Or.inr hs))) (by decide)];rfl
      clear hs
      go_wp2_with fail
      refine (swant_no 8 _).mono ?_
      rintro e w99 ⟨rfl,rfl⟩
      exact⟨rfl,⟨rfl,HTv3.out.pl⟩,HKw.out _ HKv3.out⟩
     |false=>
      have HO2:Hid (stOwn p lj res (.mk 1 nm t x y bd body ed els)=(if knownT p t=false then 9 else if noEx x then 0 else match valS p lj x with|.error e=>e|.ok v=>if v.fits t then 0 else 10)):=Lib.hid (HO1.out.trans (if_neg (by rintro (h|h);rw[HM.out]at h;cases h;rw[hs]at h;cases h)))
      clear hs HO1 HM
      go_wp2_with fail
      refine (swant_yes 8 _).mono ?_
      rintro e w99 ⟨rfl,rfl⟩
      go_wp2_with fail
      have CK:=Lib.hid (sknown_any B Kb Rb Fb Sb p t v3 HTv3.out.sc hsI.out.t.nm)
      refine CK.out.mono ?_
      clear CK
      rintro e v4 ⟨hE,hb4⟩
      cases hkn:knownT p t with
      |false=>
       rw[hkn]at hE
       obtain rfl:e=faultS 9:=hE
       obtain rfl:Sc.bad (pj+1) 9=R:=by rw[←hC1.out,scSt_bad (e:=9) (HO2.out.trans (if_pos hkn)) (by decide)];rfl
       exact⟨rfl,⟨rfl,(hb4.block Pb HTv3.out.pl.lt).trans HTv3.out.pl⟩,(HKw.out _ HKv3.out).trans (Kept.of_below hb4)⟩
      |true=>
       rw[hkn]at hE
       obtain rfl:e=.returned (.tuple #[]):=hE
       have HO3:Hid (stOwn p lj res (.mk 1 nm t x y bd body ed els)=(if noEx x then 0 else match valS p lj x with|.error e=>e|.ok v=>if v.fits t then 0 else 10)):=Lib.hid (HO2.out.trans (if_neg (by rw[hkn];decide)))
       have HTv4:=Lib.hid (HTv3.out.below hb4)
       have HKv4:=Lib.hid (HKv3.out.trans (Kept.of_below hb4))
       have HLv4:=Lib.hid (HTv3.out.lcs HLv3.out (Kept.of_below hb4))
       clear hb4 hkn HO2 HTv3 HKv3 HLv3
       clear r0 r1 r2 r3 r4 r5 r6 r7 r8 r9 r10 r11 r12 r13 r14 r15 r16 r17 r18 r19 r20
       have row:=HRow.out _ HKv4.out
       have r0:=cell_at row 0
       have r1:=cell_at row 1
       have r2:=cell_at row 2
       have r3:=cell_at row 3
       have r4:=cell_at row 4
       have r5:=cell_at row 5
       have r6:=cell_at row 6
       have r7:=cell_at row 7
       have r8:=cell_at row 8
       have r9:=cell_at row 9
       have r10:=cell_at row 10
       have r11:=cell_at row 11
       have r12:=cell_at row 12
       have r13:=cell_at row 13
       have r14:=cell_at row 14
       have r15:=cell_at row 15
       have r16:=cell_at row 16
       have r17:=cell_at row 17
       have r18:=cell_at row 18
       have r19:=cell_at row 19
       have r20:=cell_at row 20
       clear row
       simp only[sl7,sl8,sl9]at r0 r1 r2 r3 r4 r5 r6 r7 r8 r9 r10 r11 r12 r13 r14 r15 r16 r17 r18 r19 r20
       go_wp2_with fail
       refine (none_any x v4).mono ?_
       rintro e v5 ⟨rfl,hb5⟩
       have HTv5:=Lib.hid (HTv4.out.below hb5)
       have HKv5:=Lib.hid (HKv4.out.trans (Kept.of_below hb5))
       have HLv5:=Lib.hid (HTv4.out.lcs HLv4.out (Kept.of_below hb5))
       clear hb5 HTv4 HKv4 HLv4
       cases hnx:noEx x with
       |true=>
        have HC:Hid ((scRest p (⟨nm,t⟩::lj) res body els (pj+1)).bind (scSts p (⟨nm,t⟩::lj) res (l.drop (j+1)))=R):=Lib.hid (by rw[←hC1.out,scSt_go (HO3.out.trans (if_pos hnx))];rfl)
        clear hnx
        obtain⟨XL,hXL⟩:∃XL,v5.heap.size=XL:=⟨_,rfl⟩
        obtain⟨vL,hvL⟩:∃vL,v5.alloc (.cells #[.string ⟨nm.toArray⟩,.int .u8 t.k,.string ⟨t.nm.toArray⟩,.int .i64 t.n,.pointer aj] 176 (0,0))=vL:=⟨_,rfl⟩
        have hbL:Below v5.heap.size v5 vL:=by rw[←hvL];exact (Below.refl _ _).alloc (Nat.le_refl _) _
        have xL:vL.heap[XL]? =some (.cells #[.string ⟨nm.toArray⟩,.int .u8 t.k,.string ⟨t.nm.toArray⟩,.int .i64 t.n,.pointer aj] 176 (0,0)):=by rw[←hvL,←hXL];exact heap_alloc_new v5 _
        have HTvL:=Lib.hid (HTv5.out.below hbL)
        have HKvL:=Lib.hid (HKv5.out.trans (Kept.of_below hbL))
        have HLvL:=Lib.hid (HTv5.out.lcs HLv5.out (Kept.of_below hbL))
        have HLn:Hid (LcAt vL (some ⟨XL,0,none⟩) (⟨nm,t⟩::lj)):=Lib.hid ⟨XL,aj,rfl,xL,⟨hsI.out.nm,hsI.out.t⟩,HLvL.out⟩
        have HNL:=Lib.hid (And.intro hXL hvL)
        clear r0 r1 r2 r3 r4 r5 r6 r7 r8 r9 r10 r11 r12 r13 r14 r15 r16 r17 r18 r19 r20
        have row:=HRow.out _ HKv5.out
        have r0:=cell_at row 0
        have r1:=cell_at row 1
        have r2:=cell_at row 2
        have r3:=cell_at row 3
        have r4:=cell_at row 4
        have r5:=cell_at row 5
        have r6:=cell_at row 6
        have r7:=cell_at row 7
        have r8:=cell_at row 8
        have r9:=cell_at row 9
        have r10:=cell_at row 10
        have r11:=cell_at row 11
        have r12:=cell_at row 12
        have r13:=cell_at row 13
        have r14:=cell_at row 14
        have r15:=cell_at row 15
        have r16:=cell_at row 16
        have r17:=cell_at row 17
        have r18:=cell_at row 18
        have r19:=cell_at row 19
        have r20:=cell_at row 20
        clear row
        simp only[sl7,sl8,sl9]at r0 r1 r2 r3 r4 r5 r6 r7 r8 r9 r10 r11 r12 r13 r14 r15 r16 r17 r18 r19 r20
        have s19:=cell_at (HRow.out _ HKvL.out) 19
        have xr0:=cell_at (HRes.out _ (HKu.out _ HKvL.out)) 0
        have xr1:=cell_at (HRes.out _ (HKu.out _ HKvL.out)) 1
        have xr2:=cell_at (HRes.out _ (HKu.out _ HKvL.out)) 2
        simp only[sl7,sl8,sl9]at s19 xr0 xr1 xr2
        rw[←hvL]at s19 xr0 xr1 xr2
        clear hXL hvL hbL xL HLvL HTv5 HKv5 HLv5
        exact q7uzf_3
       |false=>
        have HOw:Hid (∀r,valS p lj x=r→stOwn p lj res (.mk 1 nm t x y bd body ed els)=(match r with|.error e=>e|.ok v=>if v.fits t then 0 else 10)):=Lib.hid fun r hr=>by rw[HO3.out,if_neg (by rw[hnx];decide),hr]
        have hgx:ExGood x:=(HGd.out.1 (by simp)).resolve_left (by rw[hnx];decide)
        have HGx:=Lib.hid hgx
        clear r0 r1 r2 r3 r4 r5 r6 r7 r8 r9 r10 r11 r12 r13 r14 r15 r16 r17 r18 r19 r20
        have row:=HRow.out _ HKv5.out
        have r0:=cell_at row 0
        have r1:=cell_at row 1
        have r2:=cell_at row 2
        have r3:=cell_at row 3
        have r4:=cell_at row 4
        have r5:=cell_at row 5
        have r6:=cell_at row 6
        have r7:=cell_at row 7
        have r8:=cell_at row 8
        have r9:=cell_at row 9
        have r10:=cell_at row 10
        have r11:=cell_at row 11
        have r12:=cell_at row 12
        have r13:=cell_at row 13
        have r14:=cell_at row 14
        have r15:=cell_at row 15
        have r16:=cell_at row 16
        have r17:=cell_at row 17
        have r18:=cell_at row 18
        have r19:=cell_at row 19
        have r20:=cell_at row 20
        clear row
        simp only[sl7,sl8,sl9]at r0 r1 r2 r3 r4 r5 r6 r7 r8 r9 r10 r11 r12 r13 r14 r15 r16 r17 r18 r19 r20
        have xr0:=cell_at (HRes.out _ (HKu.out _ HKv5.out)) 0
        have xr1:=cell_at (HRes.out _ (HKu.out _ HKv5.out)) 1
        have xr2:=cell_at (HRes.out _ (HKu.out _ HKv5.out)) 2
        simp only[sl7,sl8,sl9]at xr0 xr1 xr2
        have HS:Hid (SxS X6 5 x X6 2 t v5.drew):=Lib.hid ⟨r5,r6,r7,r8,r9,r10,r11,r2,r3,r4⟩
        clear hnx hgx HO3
        go_wp2_with fail
        have CV:=Lib.hid (scopeValue_of B Kb Rb Fb Sb p aj lj x (scopeExpr_any B Kb Rb Fb Sb p aj lj _ x (Nat.le_refl _) HGx.out) v5.drew ((HTv5.out.sce HLv5.out).below (Below.refl _ _).drew) ((hsI.out.x.keep (HKr.out _ HKv5.out) (Nat.le_refl B)).keep (Below.refl B v5).drew (Nat.le_refl B)))
        cases hv:valS p lj x with
        |error er=>
         rw[hv]at CV
         obtain rfl:Sc.bad (pj+1) er=R:=by rw[←hC1.out,scSt_bad (e:=er) (HOw.out _ hv) (valS_ne p lj x er hv)];rfl
         refine wp_region_L (l:=8) (S:=(SxS X6 5 x X6 2 t)) (by kernel_rfl) ?_ (fun hHeld=>?_)
         ·((try dsimp only);(exact HS.out))
         refine tk 0 ?_
         try simp only[sl1,sl2,sl3,Act.put,sl4,sl5,sl6]
         refine tk 1 ?_
         try simp only[sl1,sl2,sl3,Act.put,sl4,sl5,sl6]
         refine tk 2 ?_
         try simp only[sl1,sl2,sl3,Act.put,sl4,sl5,sl6]
         refine tk 3 ?_
         try simp only[sl1,sl2,sl3,Act.put,sl4,sl5,sl6]
         refine tk 5 ?_
         try simp only[sl1,sl2,sl3,Act.put,sl4,sl5,sl6]
         refine tk 6 ?_
         exact q7uzf_5
        |ok u=>
         rw[hv]at CV
         cases hf:u.fits t with
         |true=>
          have HC:Hid ((scRest p (⟨nm,t⟩::lj) res body els (pj+1)).bind (scSts p (⟨nm,t⟩::lj) res (l.drop (j+1)))=R):=Lib.hid (by rw[←hC1.out,scSt_go ((HOw.out _ hv).trans (if_pos hf))];rfl)
          have HFt:=Lib.hid hf
          clear hf hv HOw r0 r1 r2 r3 r4 r5 r6 r7 r8 r9 r10 r11 r12 r13 r14 r15 r16 r17 r18 r19 r20 xr0 xr1 xr2
          refine wp_region_L (l:=8) (S:=(SxS X6 5 x X6 2 t)) (by kernel_rfl) ?_ (fun hHeld=>?_)
          ·((try dsimp only);(exact HS.out))
          refine tk 0 ?_
          try simp only[sl1,sl2,sl3,Act.put,sl4,sl5,sl6]
          refine tk 1 ?_
          try simp only[sl1,sl2,sl3,Act.put,sl4,sl5,sl6]
          refine tk 2 ?_
          try simp only[sl1,sl2,sl3,Act.put,sl4,sl5,sl6]
          refine tk 3 ?_
          try simp only[sl1,sl2,sl3,Act.put,sl4,sl5,sl6]
          refine tk 5 ?_
          try simp only[sl1,sl2,sl3,Act.put,sl4,sl5,sl6]
          refine tk 6 ?_
          try simp only[sl1,sl2,sl3,Act.put,sl4,sl5,sl6]
          refine wpAnyL_step (j:=4) (o:=_) (by kernel_rfl) rfl (fun K hK=>?_)
          (go_simp;go_at_call 154;refine CV.out.mono ?_;rintro e v8 ⟨hE,hb8⟩;obtain rfl:e=.returned u.val:=hE;have HB8:=Lib.hid ((Below.refl _ v5).drew.trans hb8);have HS8:Hid (SxS X6 5 x X6 2 t v8):=Lib.hid (SxS.below HS.out hb8);clear hb8)
          refine hK _ _ ?_ (fun hHeld=>?_)
          ·((try dsimp only);(exact HS8.out))
          clear hK K
          try simp only[sl1,sl2,sl3,Act.put,sl4,sl5,sl6]
          refine wpAnyL_step (j:=7) (o:=_) (by kernel_rfl) rfl (fun K hK=>?_)
          (go_simp;go_at_call 155;refine (sfits_any u t _).mono ?_;rintro e v9 ⟨rfl,hb9⟩;rw[HFt.out];have HB9:=Lib.hid (HB8.out.trans (hb9.mono HB8.out.size));have HS9:Hid (SxS X6 5 x X6 2 t v9):=Lib.hid (SxS.below HS8.out hb9);clear hb9)
          refine hK _ _ ?_ (fun hHeld=>?_)
          ·((try dsimp only);(exact HS9.out))
          clear hK K
          try simp only[sl1,sl2,sl3,Act.put,sl4,sl5,sl6]
          refine wpAnyL_last (j:=8) (o:=_) (by kernel_rfl) rfl (by rfl) (by kernel_rfl) (fun K hK=>?_)
          (go_simp;go_at_call 116;refine (swant_yes 10 _).mono ?_;rintro e w99 ⟨rfl,rfl⟩)
          (refine hK _ _ ?_;clear hK K)
          try simp only[sl1,sl2,sl3,Act.put,sl4,sl5,sl6]
          have hb9:=HB9.out
          have HTv9:=Lib.hid (HTv5.out.below hb9)
          have HKv9:=Lib.hid (HKv5.out.trans (Kept.of_below hb9))
          have HLv9:=Lib.hid (HTv5.out.lcs HLv5.out (Kept.of_below hb9))
          clear hb9 hHeld HS HS8 HS9 HB8 HB9 CV HFt HTv5 HKv5 HLv5
          have row0:=HRow.out _ HKv9.out
          have r0:=cell_at row0 0
          have r1:=r0
          have r2:=r0
          have r3:=r0
          have r4:=r0
          have r5:=r0
          have r6:=r0
          have r7:=r0
          have r8:=r0
          have r9:=r0
          have r10:=r0
          have r11:=r0
          have r12:=r0
          have r13:=r0
          have r14:=r0
          have r15:=r0
          have r16:=r0
          have r17:=r0
          have r18:=r0
          have r19:=r0
          have r20:=r0
          clear row0
          obtain⟨XL,hXL⟩:∃XL,v9.heap.size=XL:=⟨_,rfl⟩
          obtain⟨vL,hvL⟩:∃vL,v9.alloc (.cells #[.string ⟨nm.toArray⟩,.int .u8 t.k,.string ⟨t.nm.toArray⟩,.int .i64 t.n,.pointer aj] 176 (0,0))=vL:=⟨_,rfl⟩
          have hbL:Below v9.heap.size v9 vL:=by rw[←hvL];exact (Below.refl _ _).alloc (Nat.le_refl _) _
          have xL:vL.heap[XL]? =some (.cells #[.string ⟨nm.toArray⟩,.int .u8 t.k,.string ⟨t.nm.toArray⟩,.int .i64 t.n,.pointer aj] 176 (0,0)):=by rw[←hvL,←hXL];exact heap_alloc_new v9 _
          have HTvL:=Lib.hid (HTv9.out.below hbL)
          have HKvL:=Lib.hid (HKv9.out.trans (Kept.of_below hbL))
          have HLvL:=Lib.hid (HTv9.out.lcs HLv9.out (Kept.of_below hbL))
          have HLn:Hid (LcAt vL (some ⟨XL,0,none⟩) (⟨nm,t⟩::lj)):=Lib.hid ⟨XL,aj,rfl,xL,⟨hsI.out.nm,hsI.out.t⟩,HLvL.out⟩
          have HNL:=Lib.hid (And.intro hXL hvL)
          clear r0 r1 r2 r3 r4 r5 r6 r7 r8 r9 r10 r11 r12 r13 r14 r15 r16 r17 r18 r19 r20
          have row:=HRow.out _ HKv9.out
          have r0:=cell_at row 0
          have r1:=cell_at row 1
          have r2:=cell_at row 2
          have r3:=cell_at row 3
          have r4:=cell_at row 4
          have r5:=cell_at row 5
          have r6:=cell_at row 6
          have r7:=cell_at row 7
          have r8:=cell_at row 8
          have r9:=cell_at row 9
          have r10:=cell_at row 10
          have r11:=cell_at row 11
          have r12:=cell_at row 12
          have r13:=cell_at row 13
          have r14:=cell_at row 14
          have r15:=cell_at row 15
          have r16:=cell_at row 16
          have r17:=cell_at row 17
          have r18:=cell_at row 18
          have r19:=cell_at row 19
          have r20:=cell_at row 20
          clear row
          simp only[sl7,sl8,sl9]at r0 r1 r2 r3 r4 r5 r6 r7 r8 r9 r10 r11 r12 r13 r14 r15 r16 r17 r18 r19 r20
          have s19:=cell_at (HRow.out _ HKvL.out) 19
          have xr0:=cell_at (HRes.out _ (HKu.out _ HKvL.out)) 0
          have xr1:=cell_at (HRes.out _ (HKu.out _ HKvL.out)) 1
          have xr2:=cell_at (HRes.out _ (HKu.out _ HKvL.out)) 2
          simp only[sl7,sl8,sl9]at s19 xr0 xr1 xr2
          rw[←hvL]at s19 xr0 xr1 xr2
          clear hXL hvL hbL xL HLvL HTv9 HKv9 HLv9
          exact q7uzf_3
         |false=>
          obtain rfl:Sc.bad (pj+1) 10=R:=by rw[←hC1.out,scSt_bad (e:=10) ((HOw.out _ hv).trans (if_neg (by rw[hf];decide))) (by decide)];rfl
          have HFt:=Lib.hid hf
          clear hf hv HOw
          refine wp_region_L (l:=8) (S:=(SxS X6 5 x X6 2 t)) (by kernel_rfl) ?_ (fun hHeld=>?_)
          ·((try dsimp only);(exact HS.out))
          refine tk 0 ?_
          try simp only[sl1,sl2,sl3,Act.put,sl4,sl5,sl6]
          refine tk 1 ?_
          try simp only[sl1,sl2,sl3,Act.put,sl4,sl5,sl6]
          refine tk 2 ?_
          try simp only[sl1,sl2,sl3,Act.put,sl4,sl5,sl6]
          refine tk 3 ?_
          try simp only[sl1,sl2,sl3,Act.put,sl4,sl5,sl6]
          refine tk 5 ?_
          try simp only[sl1,sl2,sl3,Act.put,sl4,sl5,sl6]
          refine tk 6 ?_
          try simp only[sl1,sl2,sl3,Act.put,sl4,sl5,sl6]
          refine wpAnyL_step (j:=4) (o:=_) (by kernel_rfl) rfl (fun K hK=>?_)
          (go_simp;go_at_call 154;refine CV.out.mono ?_;rintro e v8 ⟨hE,hb8⟩;obtain rfl:e=.returned u.val:=hE;have HB8:=Lib.hid ((Below.refl _ v5).drew.trans hb8);have HS8:Hid (SxS X6 5 x X6 2 t v8):=Lib.hid (SxS.below HS.out hb8);clear hb8)
          refine hK _ _ ?_ (fun hHeld=>?_)
          ·((try dsimp only);(exact HS8.out))
          clear hK K
          try simp only[sl1,sl2,sl3,Act.put,sl4,sl5,sl6]
          refine wpAnyL_step (j:=7) (o:=_) (by kernel_rfl) rfl (fun K hK=>?_)
          (go_simp;go_at_call 155;refine (sfits_any u t _).mono ?_;rintro e v9 ⟨rfl,hb9⟩;rw[HFt.out];have HB9:=Lib.hid (HB8.out.trans (hb9.mono HB8.out.size));have HS9:Hid (SxS X6 5 x X6 2 t v9):=Lib.hid (SxS.below HS8.out hb9);clear hb9)
          refine hK _ _ ?_ (fun hHeld=>?_)
          ·((try dsimp only);(exact HS9.out))
          clear hK K
          try simp only[sl1,sl2,sl3,Act.put,sl4,sl5,sl6]
          refine wpAnyL_last (j:=8) (o:=_) (by kernel_rfl) rfl (by rfl) (by kernel_rfl) (fun K hK=>?_)
          (go_simp;go_at_call 116;refine (swant_no 10 _).mono ?_;rintro e w99 ⟨rfl,rfl⟩;exact⟨rfl,⟨rfl,(HB9.out.block Pb HTv5.out.pl.lt).trans HTv5.out.pl⟩,(HKw.out _ HKv5.out).trans (Kept.of_below HB9.out)⟩)
   by_cases hk2:k=2
   ·clear hk1
    subst hk2
    have HO1:Hid (stOwn p lj res (.mk 2 nm t x y bd body ed els)=(match valS p lj x with|.error e=>e|.ok v=>match valS p lj y with|.error e=>e|.ok u=>if u.fits v.t then 0 else 10)):=Lib.hid rfl
    have hgx:ExGood x:=HGd.out.2.1 (by simp)
    have CV:=Lib.hid (scopeValue_of B Kb Rb Fb Sb p aj lj x (scopeExpr_any B Kb Rb Fb Sb p aj lj _ x (Nat.le_refl _) hgx) v (HTv.out.sce HLv.out) (hsI.out.x.keep (HKr.out _ HKv.out) (Nat.le_refl B)))
    clear hgx
    go_wp2_with fail
    cases hv:valS p lj x with
    |error er=>
     rw[hv]at CV
     obtain rfl:Sc.bad (pj+1) er=R:=by rw[←hC1.out,scSt_bad (e:=er) (HO1.out.trans (by rw[hv])) (valS_ne p lj x er hv)];rfl
     refine CV.out.mono ?_
     rintro e v1 ⟨hE,hb1⟩
     obtain rfl:e=faultS er:=hE
     exact⟨rfl,⟨rfl,(hb1.block Pb HTv.out.pl.lt).trans HTv.out.pl⟩,(HKw.out _ HKv.out).trans (Kept.of_below hb1)⟩
    |ok u1=>
     rw[hv]at CV
     have HOw:Hid (∀r,valS p lj y=r→stOwn p lj res (.mk 2 nm t x y bd body ed els)=(match r with|.error e=>e|.ok u=>if u.fits u1.t then 0 else 10)):=Lib.hid fun r hr=>by rw[HO1.out,hv];dsimp only;rw[hr]
     refine CV.out.mono ?_
     clear CV hv
     rintro e v1 ⟨hE,hb1⟩
     obtain rfl:e=.returned u1.val:=hE
     obtain⟨XA,hXA⟩:∃XA,v1.heap.size=XA:=⟨_,rfl⟩
     obtain⟨v2,hv2⟩:∃v2,v1.alloc (.cells #[.int .u8 u1.t.k,.string ⟨u1.t.nm.toArray⟩,.int .i64 u1.t.n,.bool u1.null] 213 (0,0))=v2:=⟨_,rfl⟩
     have hb2:Below v.heap.size v v2:=by rw[←hv2];exact hb1.alloc hb1.size _
     have xA:v2.heap[XA]? =some (.cells #[.int .u8 u1.t.k,.string ⟨u1.t.nm.toArray⟩,.int .i64 u1.t.n,.bool u1.null] 213 (0,0)):=by rw[←hv2,←hXA];exact heap_alloc_new v1 _
     have HTv2:=Lib.hid (HTv.out.below hb2)
     have HKv2:=Lib.hid (HKv.out.trans (Kept.of_below hb2))
     have HLv2:=Lib.hid (HTv.out.lcs HLv.out (Kept.of_below hb2))
     have HN2:=Lib.hid (And.intro hXA hv2)
     clear xr0 xr1 xr2
     have xr0:=cell_at (HRes.out _ (HKu.out _ HKv2.out)) 0
     have xr1:=cell_at (HRes.out _ (HKu.out _ HKv2.out)) 1
     have xr2:=cell_at (HRes.out _ (HKu.out _ HKv2.out)) 2
     simp only[sl7,sl8,sl9]at xr0 xr1 xr2
     clear r0 r1 r2 r3 r4 r5 r6 r7 r8 r9 r10 r11 r12 r13 r14 r15 r16 r17 r18 r19 r20
     have row:=HRow.out _ HKv2.out
     have r0:=cell_at row 0
     have r1:=cell_at row 1
     have r2:=cell_at row 2
     have r3:=cell_at row 3
     have r4:=cell_at row 4
     have r5:=cell_at row 5
     have r6:=cell_at row 6
     have r7:=cell_at row 7
     have r8:=cell_at row 8
     have r9:=cell_at row 9
     have r10:=cell_at row 10
     have r11:=cell_at row 11
     have r12:=cell_at row 12
     have r13:=cell_at row 13
     have r14:=cell_at row 14
     have r15:=cell_at row 15
     have r16:=cell_at row 16
     have r17:=cell_at row 17
     have r18:=cell_at row 18
     have r19:=cell_at row 19
     have r20:=cell_at row 20
     clear row
     simp only[sl7,sl8,sl9]at r0 r1 r2 r3 r4 r5 r6 r7 r8 r9 r10 r11 r12 r13 r14 r15 r16 r17 r18 r19 r20
     have HS:Hid (SxS X6 12 y XA 0 u1.t v2.drew):=Lib.hid ⟨r12,r13,r14,r15,r16,r17,r18,cell_at xA 0,cell_at xA 1,cell_at xA 2⟩
     have HGy:Hid (ExGood y):=Lib.hid (HGd.out.2.2.1 (by simp))
     clear hb1 hb2 xA hXA hv2 HTv HKv HLv HO1
     go_wp2_with fail
     simp only[HN2.out.1,HN2.out.2]
     have CV:=Lib.hid (scopeValue_of B Kb Rb Fb Sb p aj lj y (scopeExpr_any B Kb Rb Fb Sb p aj lj _ y (Nat.le_refl _) HGy.out) v2.drew ((HTv2.out.sce HLv2.out).below (Below.refl _ _).drew) ((hsI.out.y.keep (HKr.out _ HKv2.out) (Nat.le_refl B)).keep (Below.refl B v2).drew (Nat.le_refl B)))
     cases hv:valS p lj y with
     |error er=>
      rw[hv]at CV
      obtain rfl:Sc.bad (pj+1) er=R:=by rw[←hC1.out,scSt_bad (e:=er) (HOw.out _ hv) (valS_ne p lj y er hv)];rfl
      refine wp_region_L (l:=8) (S:=(SxS X6 12 y XA 0 u1.t)) (by kernel_rfl) ?_ (fun hHeld=>?_)
      ·((try dsimp only);(exact HS.out))
      refine tk 0 ?_
      try simp only[sl1,sl2,sl3,Act.put,sl4,sl5,sl6]
      refine tk 1 ?_
      try simp only[sl1,sl2,sl3,Act.put,sl4,sl5,sl6]
      refine tk 2 ?_
      try simp only[sl1,sl2,sl3,Act.put,sl4,sl5,sl6]
      refine tk 3 ?_
      try simp only[sl1,sl2,sl3,Act.put,sl4,sl5,sl6]
      refine tk 5 ?_
      try simp only[sl1,sl2,sl3,Act.put,sl4,sl5,sl6]
      refine tk 6 ?_
      try simp only[sl1,sl2,sl3,Act.put,sl4,sl5,sl6]
      refine wpAnyL_step (j:=4) (o:=_) (by kernel_rfl) rfl (fun K hK=>?_)
      (go_simp;go_at_call 154;refine CV.out.mono ?_;rintro e v9 ⟨hE,hb9⟩;obtain rfl:e=faultS er:=hE;exact⟨rfl,⟨rfl,(hb9.block Pb HTv2.out.pl.lt).trans HTv2.out.pl⟩,(HKw.out _ HKv2.out).trans (Kept.of_below ((Below.refl _ v2).drew.trans hb9))⟩)
     |ok u=>
      rw[hv]at CV
      cases hf:u.fits u1.t with
      |true=>
       have HC:Hid ((scRest p lj res body els (pj+1)).bind (scSts p lj res (l.drop (j+1)))=R):=Lib.hid (by rw[←hC1.out,scSt_go ((HOw.out _ hv).trans (if_pos hf))];rfl)
       have HFt:=Lib.hid hf
       clear hf hv HOw r0 r1 r2 r3 r4 r5 r6 r7 r8 r9 r10 r11 r12 r13 r14 r15 r16 r17 r18 r19 r20 xr0 xr1 xr2
       refine wp_region_L (l:=8) (S:=(SxS X6 12 y XA 0 u1.t)) (by kernel_rfl) ?_ (fun hHeld=>?_)
       ·((try dsimp only);(exact HS.out))
       refine tk 0 ?_
       try simp only[sl1,sl2,sl3,Act.put,sl4,sl5,sl6]
       refine tk 1 ?_
       try simp only[sl1,sl2,sl3,Act.put,sl4,sl5,sl6]
       refine tk 2 ?_
       try simp only[sl1,sl2,sl3,Act.put,sl4,sl5,sl6]
       refine tk 3 ?_
       try simp only[sl1,sl2,sl3,Act.put,sl4,sl5,sl6]
       refine tk 5 ?_
       try simp only[sl1,sl2,sl3,Act.put,sl4,sl5,sl6]
       refine tk 6 ?_
       try simp only[sl1,sl2,sl3,Act.put,sl4,sl5,sl6]
       refine wpAnyL_step (j:=4) (o:=_) (by kernel_rfl) rfl (fun K hK=>?_)
       (go_simp;go_at_call 154;refine CV.out.mono ?_;rintro e v8 ⟨hE,hb8⟩;obtain rfl:e=.returned u.val:=hE;have HB8:=Lib.hid ((Below.refl _ v2).drew.trans hb8);have HS8:Hid (SxS X6 12 y XA 0 u1.t v8):=Lib.hid (SxS.below HS.out hb8);clear hb8)
       refine hK _ _ ?_ (fun hHeld=>?_)
       ·((try dsimp only);(exact HS8.out))
       clear hK K
       try simp only[sl1,sl2,sl3,Act.put,sl4,sl5,sl6]
       refine wpAnyL_step (j:=7) (o:=_) (by kernel_rfl) rfl (fun K hK=>?_)
       (go_simp;go_at_call 155;refine (sfits_any u u1.t _).mono ?_;rintro e v9 ⟨rfl,hb9⟩;rw[HFt.out];have HB9:=Lib.hid (HB8.out.trans (hb9.mono HB8.out.size));have HS9:Hid (SxS X6 12 y XA 0 u1.t v9):=Lib.hid (SxS.below HS8.out hb9);clear hb9)
       refine hK _ _ ?_ (fun hHeld=>?_)
       ·((try dsimp only);(exact HS9.out))
       clear hK K
       try simp only[sl1,sl2,sl3,Act.put,sl4,sl5,sl6]
       refine wpAnyL_last (j:=8) (o:=_) (by kernel_rfl) rfl (by rfl) (by kernel_rfl) (fun K hK=>?_)
       (go_simp;go_at_call 116;refine (swant_yes 10 _).mono ?_;rintro e w99 ⟨rfl,rfl⟩)
       (refine hK _ _ ?_;clear hK K)
       try simp only[sl1,sl2,sl3,Act.put,sl4,sl5,sl6]
       have hb9:=HB9.out
       have HTv9:=Lib.hid (HTv2.out.below hb9)
       have HKv9:=Lib.hid (HKv2.out.trans (Kept.of_below hb9))
       have HLv9:=Lib.hid (HTv2.out.lcs HLv2.out (Kept.of_below hb9))
       clear hb9 hHeld HS HS8 HS9 HB8 HB9 CV HFt HTv2 HKv2 HLv2
       exact q7uzf_4
      |false=>
       obtain rfl:Sc.bad (pj+1) 10=R:=by rw[←hC1.out,scSt_bad (e:=10) ((HOw.out _ hv).trans (if_neg (by rw[hf];decide))) (by decide)];rfl
       have HFt:=Lib.hid hf
       clear hf hv HOw
       refine wp_region_L (l:=8) (S:=(SxS X6 12 y XA 0 u1.t)) (by kernel_rfl) ?_ (fun hHeld=>?_)
       ·((try dsimp only);(exact HS.out))
       refine tk 0 ?_
       try simp only[sl1,sl2,sl3,Act.put,sl4,sl5,sl6]
       refine tk 1 ?_
       try simp only[sl1,sl2,sl3,Act.put,sl4,sl5,sl6]
       refine tk 2 ?_
       try simp only[sl1,sl2,sl3,Act.put,sl4,sl5,sl6]
       refine tk 3 ?_
       try simp only[sl1,sl2,sl3,Act.put,sl4,sl5,sl6]
       refine tk 5 ?_
       try simp only[sl1,sl2,sl3,Act.put,sl4,sl5,sl6]
       refine tk 6 ?_
       try simp only[sl1,sl2,sl3,Act.put,sl4,sl5,sl6]
       refine wpAnyL_step (j:=4) (o:=_) (by kernel_rfl) rfl (fun K hK=>?_)
       (go_simp;go_at_call 154;refine CV.out.mono ?_;rintro e v8 ⟨hE,hb8⟩;obtain rfl:e=.returned u.val:=hE;have HB8:=Lib.hid ((Below.refl _ v2).drew.trans hb8);have HS8:Hid (SxS X6 12 y XA 0 u1.t v8):=Lib.hid (SxS.below HS.out hb8);clear hb8)
       refine hK _ _ ?_ (fun hHeld=>?_)
       ·((try dsimp only);(exact HS8.out))
       clear hK K
       try simp only[sl1,sl2,sl3,Act.put,sl4,sl5,sl6]
       refine wpAnyL_step (j:=7) (o:=_) (by kernel_rfl) rfl (fun K hK=>?_)
       (go_simp;go_at_call 155;refine (sfits_any u u1.t _).mono ?_;rintro e v9 ⟨rfl,hb9⟩;rw[HFt.out];have HB9:=Lib.hid (HB8.out.trans (hb9.mono HB8.out.size));have HS9:Hid (SxS X6 12 y XA 0 u1.t v9):=Lib.hid (SxS.below HS8.out hb9);clear hb9)
       refine hK _ _ ?_ (fun hHeld=>?_)
       ·((try dsimp only);(exact HS9.out))
       clear hK K
       try simp only[sl1,sl2,sl3,Act.put,sl4,sl5,sl6]
       refine wpAnyL_last (j:=8) (o:=_) (by kernel_rfl) rfl (by rfl) (by kernel_rfl) (fun K hK=>?_)
       (go_simp;go_at_call 116;refine (swant_no 10 _).mono ?_;rintro e w99 ⟨rfl,rfl⟩;exact⟨rfl,⟨rfl,(HB9.out.block Pb HTv2.out.pl.lt).trans HTv2.out.pl⟩,(HKw.out _ HKv2.out).trans (Kept.of_below HB9.out)⟩)
   by_cases hk346:k=3∨k=4∨k=6
   ·have HO1:Hid (∀r,valS p lj x=r→stOwn p lj res (.mk k nm t x y bd body ed els)=(match r with|.error e=>e|.ok v=>if v=numS then 0 else 10)):=Lib.hid fun r hr=>by
     have h:stOwn p lj res (.mk k nm t x y bd body ed els)=(match valS p lj x with|.error e=>e|.ok v=>if v=numS then 0 else 10):=(if_neg hk1).trans ((if_neg hk2).trans (if_pos hk346))
     rw[h,hr]
    have HLx:Hid (lcNext lj (.mk k nm t x y bd body ed els)=lj):=Lib.hid (if_neg hk1)
    have hgx:ExGood x:=HGd.out.2.1 (by omega)
    have CV:=Lib.hid (scopeValue_of B Kb Rb Fb Sb p aj lj x (scopeExpr_any B Kb Rb Fb Sb p aj lj _ x (Nat.le_refl _) hgx) v.drew ((HTv.out.sce HLv.out).below (Below.refl _ _).drew) ((hsI.out.x.keep (HKr.out _ HKv.out) (Nat.le_refl B)).keep (Below.refl B v).drew (Nat.le_refl B)))
    have HS:Hid (NxS X6 x v.drew):=Lib.hid ⟨r5,r6,r7,r8,r9,r10,r11,HTv.out.num.c0,HTv.out.num.c1,HTv.out.num.c2,HTv.out.num.c3⟩
    clear hgx hk1 hk2
    rcases hk346 with rfl|rfl|rfl
    ·exact q7uzf_1
    ·exact q7uzf_1
    ·exact q7uzf_1
   by_cases hk7:k=7
   ·clear hk1 hk2 hk346
    subst hk7
    have HO1:Hid (stOwn p lj res (.mk 7 nm t x y bd body ed els)=(if noEx x then (if res.k=0 then 0 else 10) else match valS p lj x with|.error e=>e|.ok v=>if v.fits res then 0 else 10)):=Lib.hid rfl
    go_wp2_with fail
    refine (none_any x v).mono ?_
    rintro e v5 ⟨rfl,hb5⟩
    have HTv5:=Lib.hid (HTv.out.below hb5)
    have HKv5:=Lib.hid (HKv.out.trans (Kept.of_below hb5))
    have HLv5:=Lib.hid (HTv.out.lcs HLv.out (Kept.of_below hb5))
    clear hb5 HTv HKv HLv xr0 xr1 xr2
    have xr0:=cell_at (HRes.out _ (HKu.out _ HKv5.out)) 0
    have xr1:=cell_at (HRes.out _ (HKu.out _ HKv5.out)) 1
    have xr2:=cell_at (HRes.out _ (HKu.out _ HKv5.out)) 2
    simp only[sl7,sl8,sl9]at xr0 xr1 xr2
    clear r0 r1 r2 r3 r4 r5 r6 r7 r8 r9 r10 r11 r12 r13 r14 r15 r16 r17 r18 r19 r20
    have row:=HRow.out _ HKv5.out
    have r0:=cell_at row 0
    have r1:=cell_at row 1
    have r2:=cell_at row 2
    have r3:=cell_at row 3
    have r4:=cell_at row 4
    have r5:=cell_at row 5
    have r6:=cell_at row 6
    have r7:=cell_at row 7
    have r8:=cell_at row 8
    have r9:=cell_at row 9
    have r10:=cell_at row 10
    have r11:=cell_at row 11
    have r12:=cell_at row 12
    have r13:=cell_at row 13
    have r14:=cell_at row 14
    have r15:=cell_at row 15
    have r16:=cell_at row 16
    have r17:=cell_at row 17
    have r18:=cell_at row 18
    have r19:=cell_at row 19
    have r20:=cell_at row 20
    clear row
    simp only[sl7,sl8,sl9]at r0 r1 r2 r3 r4 r5 r6 r7 r8 r9 r10 r11 r12 r13 r14 r15 r16 r17 r18 r19 r20
    cases hnx:noEx x with
    |true=>
     by_cases hrk:res.k=0
     ·have HC:Hid ((scRest p lj res body els (pj+1)).bind (scSts p lj res (l.drop (j+1)))=R):=Lib.hid (by rw[←hC1.out,scSt_go (HO1.out.trans ((if_pos hnx).trans (if_pos hrk)))];rfl)
      have e0:(res.k==0)=true:=by simpa using hrk
      clear hnx hrk
      go_wp2_with fail
      refine (swant_yes 10 _).mono ?_
      rintro e w99 ⟨rfl,rfl⟩
      clear e0 xr0 xr1 xr2
      clear r0 r1 r2 r3 r4 r5 r6 r7 r8 r9 r10 r11 r12 r13 r14 r15 r16 r17 r18 r19 r20
      have row:=HRow.out _ HKv5.out
      have r0:=cell_at row 0
      have r1:=cell_at row 1
      have r2:=cell_at row 2
      have r3:=cell_at row 3
      have r4:=cell_at row 4
      have r5:=cell_at row 5
      have r6:=cell_at row 6
      have r7:=cell_at row 7
      have r8:=cell_at row 8
      have r9:=cell_at row 9
      have r10:=cell_at row 10
      have r11:=cell_at row 11
      have r12:=cell_at row 12
      have r13:=cell_at row 13
      have r14:=cell_at row 14
      have r15:=cell_at row 15
      have r16:=cell_at row 16
      have r17:=cell_at row 17
      have r18:=cell_at row 18
      have r19:=cell_at row 19
      have r20:=cell_at row 20
      clear row
      simp only[sl7,sl8,sl9]at r0 r1 r2 r3 r4 r5 r6 r7 r8 r9 r10 r11 r12 r13 r14 r15 r16 r17 r18 r19 r20
      have xr0:=cell_at (HRes.out _ (HKu.out _ HKv5.out)) 0
      have xr1:=cell_at (HRes.out _ (HKu.out _ HKv5.out)) 1
      have xr2:=cell_at (HRes.out _ (HKu.out _ HKv5.out)) 2
      simp only[sl7,sl8,sl9]at xr0 xr1 xr2
      go_wp2_with fail
      have CB:=ih (stCounts body) (Nat.lt_of_lt_of_le hsb hsz) body (Nat.le_refl _) bd aj lj (pj+1) v5 HTv5.out HLv5.out (hsI.out.body.keep (HKr.out _ HKv5.out) (Nat.le_refl B)) HGd.out.2.2.2.1 (by have:=HPl.out;omega) (by have:=HPl.out;omega)
      have HBn:=scSts_on p lj res body (pj+1)
      cases hcb:scSts p lj res body (pj+1) with
      |bad qq er=>
       rw[hcb]at CB
       obtain rfl:Sc.bad qq er=R:=by rw[←HC.out,scRest,hcb];rfl
       refine CB.mono ?_
       rintro e vb ⟨⟨rfl,hp⟩,hk⟩
       exact⟨rfl,⟨rfl,hp⟩,(HKw.out _ HKv5.out).trans hk⟩
      |on a3=>
      rw[hcb]at CB
      have HN3:Hid (a3=pj+1+(plSts body:Nat)):=Lib.hid (HBn.1 a3 hcb).1
      have HC3:Hid ((scSts p lj res els a3).bind (scSts p lj res (l.drop (j+1)))=R):=Lib.hid (by rw[←HC.out,scRest,hcb];rfl)
      clear hcb HBn
      refine CB.mono ?_
      rintro e vb ⟨⟨rfl,hp⟩,hk⟩
      have HTb:=Lib.hid (HTv5.out.kept hk hp)
      have HLb:=Lib.hid (HTv5.out.lcs HLv5.out hk)
      have HKb:=Lib.hid (HKv5.out.trans hk)
      have x00:=cell_at (HRes.out _ (HKu.out _ HKb.out)) 0
      have x01:=cell_at (HRes.out _ (HKu.out _ HKb.out)) 1
      have x02:=cell_at (HRes.out _ (HKu.out _ HKb.out)) 2
      simp only[sl7,sl8,sl9]at x00 x01 x02
      clear hp hk CB HTv5 HKv5 HLv5 HC xr0 xr1 xr2
      exact q7uzf_2
     ·obtain rfl:Sc.bad (pj+1) 10=R:=by rw[←hC1.out,scSt_bad (e:=10) (HO1.out.trans ((if_pos hnx).trans (if_neg hrk))) (by decide)];rfl
      have e0:(res.k==0)=false:=by simpa using hrk
      clear hnx hrk
      go_wp2_with fail
      refine (swant_no 10 _).mono ?_
      rintro e w99 ⟨rfl,rfl⟩
      exact⟨rfl,⟨rfl,HTv5.out.pl⟩,HKw.out _ HKv5.out⟩
    |false=>
     have HOw:Hid (∀r,valS p lj x=r→stOwn p lj res (.mk 7 nm t x y bd body ed els)=(match r with|.error e=>e|.ok v=>if v.fits res then 0 else 10)):=Lib.hid fun r hr=>by rw[HO1.out,if_neg (by rw[hnx];decide),hr]
     have hgx:ExGood x:=(HGd.out.1 (by simp)).resolve_left (by rw[hnx];decide)
     have HGx:=Lib.hid hgx
     have HS:Hid (SxS X6 5 x X0 0 res v5.drew):=Lib.hid ⟨r5,r6,r7,r8,r9,r10,r11,xr0,xr1,xr2⟩
     clear hnx hgx HO1
     go_wp2_with fail
     have CV:=Lib.hid (scopeValue_of B Kb Rb Fb Sb p aj lj x (scopeExpr_any B Kb Rb Fb Sb p aj lj _ x (Nat.le_refl _) HGx.out) v5.drew ((HTv5.out.sce HLv5.out).below (Below.refl _ _).drew) ((hsI.out.x.keep (HKr.out _ HKv5.out) (Nat.le_refl B)).keep (Below.refl B v5).drew (Nat.le_refl B)))
     cases hv:valS p lj x with
     |error er=>
      rw[hv]at CV
      obtain rfl:Sc.bad (pj+1) er=R:=by rw[←hC1.out,scSt_bad (e:=er) (HOw.out _ hv) (valS_ne p lj x er hv)];rfl
      refine wp_region_L (l:=7) (S:=(SxS X6 5 x X0 0 res)) (by kernel_rfl) ?_ (fun hHeld=>?_)
      ·((try dsimp only);(exact HS.out))
      refine tk 0 ?_
      try simp only[sl1,sl2,sl3,Act.put,sl4,sl5,sl6]
      refine tk 1 ?_
      try simp only[sl1,sl2,sl3,Act.put,sl4,sl5,sl6]
      refine tk 2 ?_
      try simp only[sl1,sl2,sl3,Act.put,sl4,sl5,sl6]
      refine tk 3 ?_
      try simp only[sl1,sl2,sl3,Act.put,sl4,sl5,sl6]
      refine tk 5 ?_
      exact q7uzf_5
     |ok u=>
      rw[hv]at CV
      cases hf:u.fits res with
      |true=>
       have HC:Hid ((scRest p lj res body els (pj+1)).bind (scSts p lj res (l.drop (j+1)))=R):=Lib.hid (by rw[←hC1.out,scSt_go ((HOw.out _ hv).trans (if_pos hf))];rfl)
       have HFt:=Lib.hid hf
       clear hf hv HOw r0 r1 r2 r3 r4 r5 r6 r7 r8 r9 r10 r11 r12 r13 r14 r15 r16 r17 r18 r19 r20 xr0 xr1 xr2
       refine wp_region_L (l:=7) (S:=(SxS X6 5 x X0 0 res)) (by kernel_rfl) ?_ (fun hHeld=>?_)
       ·((try dsimp only);(exact HS.out))
       refine tk 0 ?_
       try simp only[sl1,sl2,sl3,Act.put,sl4,sl5,sl6]
       refine tk 1 ?_
       try simp only[sl1,sl2,sl3,Act.put,sl4,sl5,sl6]
       refine tk 2 ?_
       try simp only[sl1,sl2,sl3,Act.put,sl4,sl5,sl6]
       refine tk 3 ?_
       try simp only[sl1,sl2,sl3,Act.put,sl4,sl5,sl6]
       refine tk 5 ?_
       try simp only[sl1,sl2,sl3,Act.put,sl4,sl5,sl6]
       refine wpAnyL_step (j:=4) (o:=_) (by kernel_rfl) rfl (fun K hK=>?_)
       (go_simp;go_at_call 154;refine CV.out.mono ?_;rintro e v8 ⟨hE,hb8⟩;obtain rfl:e=.returned u.val:=hE;have HB8:=Lib.hid ((Below.refl _ v5).drew.trans hb8);have HS8:Hid (SxS X6 5 x X0 0 res v8):=Lib.hid (SxS.below HS.out hb8);clear hb8)
       refine hK _ _ ?_ (fun hHeld=>?_)
       ·((try dsimp only);(exact HS8.out))
       clear hK K
       try simp only[sl1,sl2,sl3,Act.put,sl4,sl5,sl6]
       refine wpAnyL_step (j:=6) (o:=_) (by kernel_rfl) rfl (fun K hK=>?_)
       (go_simp;go_at_call 155;refine (sfits_any u res _).mono ?_;rintro e v9 ⟨rfl,hb9⟩;rw[HFt.out];have HB9:=Lib.hid (HB8.out.trans (hb9.mono HB8.out.size));have HS9:Hid (SxS X6 5 x X0 0 res v9):=Lib.hid (SxS.below HS8.out hb9);clear hb9)
       refine hK _ _ ?_ (fun hHeld=>?_)
       ·((try dsimp only);(exact HS9.out))
       clear hK K
       try simp only[sl1,sl2,sl3,Act.put,sl4,sl5,sl6]
       refine wpAnyL_last (j:=7) (o:=_) (by kernel_rfl) rfl (by rfl) (by kernel_rfl) (fun K hK=>?_)
       (go_simp;go_at_call 116;refine (swant_yes 10 _).mono ?_;rintro e w99 ⟨rfl,rfl⟩)
       (refine hK _ _ ?_;clear hK K)
       try simp only[sl1,sl2,sl3,Act.put,sl4,sl5,sl6]
       have hb9:=HB9.out
       have HTv9:=Lib.hid (HTv5.out.below hb9)
       have HKv9:=Lib.hid (HKv5.out.trans (Kept.of_below hb9))
       have HLv9:=Lib.hid (HTv5.out.lcs HLv5.out (Kept.of_below hb9))
       clear hb9 hHeld HS HS8 HS9 HB8 HB9 CV HFt HTv5 HKv5 HLv5
       exact q7uzf_4
      |false=>
       obtain rfl:Sc.bad (pj+1) 10=R:=by rw[←hC1.out,scSt_bad (e:=10) ((HOw.out _ hv).trans (if_neg (by rw[hf];decide))) (by decide)];rfl
       have HFt:=Lib.hid hf
       clear hf hv HOw
       refine wp_region_L (l:=7) (S:=(SxS X6 5 x X0 0 res)) (by kernel_rfl) ?_ (fun hHeld=>?_)
       ·((try dsimp only);(exact HS.out))
       refine tk 0 ?_
       try simp only[sl1,sl2,sl3,Act.put,sl4,sl5,sl6]
       refine tk 1 ?_
       try simp only[sl1,sl2,sl3,Act.put,sl4,sl5,sl6]
       refine tk 2 ?_
       try simp only[sl1,sl2,sl3,Act.put,sl4,sl5,sl6]
       refine tk 3 ?_
       try simp only[sl1,sl2,sl3,Act.put,sl4,sl5,sl6]
       refine tk 5 ?_
       try simp only[sl1,sl2,sl3,Act.put,sl4,sl5,sl6]
       refine wpAnyL_step (j:=4) (o:=_) (by kernel_rfl) rfl (fun K hK=>?_)
       (go_simp;go_at_call 154;refine CV.out.mono ?_;rintro e v8 ⟨hE,hb8⟩;obtain rfl:e=.returned u.val:=hE;have HB8:=Lib.hid ((Below.refl _ v5).drew.trans hb8);have HS8:Hid (SxS X6 5 x X0 0 res v8):=Lib.hid (SxS.below HS.out hb8);clear hb8)
       refine hK _ _ ?_ (fun hHeld=>?_)
       ·((try dsimp only);(exact HS8.out))
       clear hK K
       try simp only[sl1,sl2,sl3,Act.put,sl4,sl5,sl6]
       refine wpAnyL_step (j:=6) (o:=_) (by kernel_rfl) rfl (fun K hK=>?_)
       (go_simp;go_at_call 155;refine (sfits_any u res _).mono ?_;rintro e v9 ⟨rfl,hb9⟩;rw[HFt.out];have HB9:=Lib.hid (HB8.out.trans (hb9.mono HB8.out.size));have HS9:Hid (SxS X6 5 x X0 0 res v9):=Lib.hid (SxS.below HS8.out hb9);clear hb9)
       refine hK _ _ ?_ (fun hHeld=>?_)
       ·((try dsimp only);(exact HS9.out))
       clear hK K
       try simp only[sl1,sl2,sl3,Act.put,sl4,sl5,sl6]
       refine wpAnyL_last (j:=7) (o:=_) (by kernel_rfl) rfl (by rfl) (by kernel_rfl) (fun K hK=>?_)
       (go_simp;go_at_call 116;refine (swant_no 10 _).mono ?_;rintro e w99 ⟨rfl,rfl⟩;exact⟨rfl,⟨rfl,(HB9.out.block Pb HTv5.out.pl.lt).trans HTv5.out.pl⟩,(HKw.out _ HKv5.out).trans (Kept.of_below HB9.out)⟩)
   by_cases hk8:k=8
   ·clear hk1 hk2 hk346 hk7
    subst hk8
    have own:∀r,exS p lj x=r→stOwn p lj res (.mk 8 nm t x y bd body ed els)=(match r with|.error e=>e|.ok _=>0):=fun r hr=>by
     have h:stOwn p lj res (.mk 8 nm t x y bd body ed els)=(match exS p lj x with|.error e=>e|.ok _=>0):=rfl
     rw[h,hr]
    have CX:=scopeExpr_any B Kb Rb Fb Sb p aj lj _ x (Nat.le_refl _) (HGd.out.2.1 (by decide)) v (HTv.out.sce HLv.out) (hsI.out.x.keep (HKr.out _ HKv.out) (Nat.le_refl B))
    go_wp2_with fail
    cases hx:exS p lj x with
    |error er=>
     rw[hx]at CX
     obtain rfl:Sc.bad (pj+1) er=R:=by rw[←hC1.out,scSt_bad (e:=er) (own _ hx) (exS_ne p lj x er hx)];rfl
     refine CX.mono ?_
     rintro e v2 ⟨hE,hb2⟩
     obtain rfl:e=faultS er:=hE
     exact⟨rfl,⟨rfl,(hb2.block Pb HTv.out.pl.lt).trans HTv.out.pl⟩,(HKw.out _ HKv.out).trans (Kept.of_below hb2)⟩
    |ok s=>
     rw[hx]at CX
     have HC:Hid ((scRest p lj res body els (pj+1)).bind (scSts p lj res (l.drop (j+1)))=R):=Lib.hid (by rw[←hC1.out,scSt_go (own _ hx)];rfl)
     refine CX.mono ?_
     rintro e v2 ⟨hE,hb2⟩
     obtain rfl:e=.returned s.val:=hE
     have HTv2:=Lib.hid (HTv.out.below hb2)
     have HKv2:=Lib.hid (HKv.out.trans (Kept.of_below hb2))
     have HLv2:=Lib.hid (HTv.out.lcs HLv.out (Kept.of_below hb2))
     clear hb2 CX own hx HTv HKv HLv xr0 xr1 xr2
     clear r0 r1 r2 r3 r4 r5 r6 r7 r8 r9 r10 r11 r12 r13 r14 r15 r16 r17 r18 r19 r20
     have row:=HRow.out _ HKv2.out
     have r0:=cell_at row 0
     have r1:=cell_at row 1
     have r2:=cell_at row 2
     have r3:=cell_at row 3
     have r4:=cell_at row 4
     have r5:=cell_at row 5
     have r6:=cell_at row 6
     have r7:=cell_at row 7
     have r8:=cell_at row 8
     have r9:=cell_at row 9
     have r10:=cell_at row 10
     have r11:=cell_at row 11
     have r12:=cell_at row 12
     have r13:=cell_at row 13
     have r14:=cell_at row 14
     have r15:=cell_at row 15
     have r16:=cell_at row 16
     have r17:=cell_at row 17
     have r18:=cell_at row 18
     have r19:=cell_at row 19
     have r20:=cell_at row 20
     clear row
     simp only[sl7,sl8,sl9]at r0 r1 r2 r3 r4 r5 r6 r7 r8 r9 r10 r11 r12 r13 r14 r15 r16 r17 r18 r19 r20
     have xr0:=cell_at (HRes.out _ (HKu.out _ HKv2.out)) 0
     have xr1:=cell_at (HRes.out _ (HKu.out _ HKv2.out)) 1
     have xr2:=cell_at (HRes.out _ (HKu.out _ HKv2.out)) 2
     simp only[sl7,sl8,sl9]at xr0 xr1 xr2
     go_wp2_with fail
     have CB:=ih (stCounts body) (Nat.lt_of_lt_of_le hsb hsz) body (Nat.le_refl _) bd aj lj (pj+1) v2 HTv2.out HLv2.out (hsI.out.body.keep (HKr.out _ HKv2.out) (Nat.le_refl B)) HGd.out.2.2.2.1 (by have:=HPl.out;omega) (by have:=HPl.out;omega)
     have HBn:=scSts_on p lj res body (pj+1)
     cases hcb:scSts p lj res body (pj+1) with
     |bad qq er=>
      rw[hcb]at CB
      obtain rfl:Sc.bad qq er=R:=by rw[←HC.out,scRest,hcb];rfl
      refine CB.mono ?_
      rintro e vb ⟨⟨rfl,hp⟩,hk⟩
      exact⟨rfl,⟨rfl,hp⟩,(HKw.out _ HKv2.out).trans hk⟩
     |on a3=>
     rw[hcb]at CB
     have HN3:Hid (a3=pj+1+(plSts body:Nat)):=Lib.hid (HBn.1 a3 hcb).1
     have HC3:Hid ((scSts p lj res els a3).bind (scSts p lj res (l.drop (j+1)))=R):=Lib.hid (by rw[←HC.out,scRest,hcb];rfl)
     clear hcb HBn
     refine CB.mono ?_
     rintro e vb ⟨⟨rfl,hp⟩,hk⟩
     have HTb:=Lib.hid (HTv2.out.kept hk hp)
     have HLb:=Lib.hid (HTv2.out.lcs HLv2.out hk)
     have HKb:=Lib.hid (HKv2.out.trans hk)
     have x00:=cell_at (HRes.out _ (HKu.out _ HKb.out)) 0
     have x01:=cell_at (HRes.out _ (HKu.out _ HKb.out)) 1
     have x02:=cell_at (HRes.out _ (HKu.out _ HKb.out)) 2
     simp only[sl7,sl8,sl9]at x00 x01 x02
     clear hp hk CB HTv2 HKv2 HLv2 HC xr0 xr1 xr2
     exact q7uzf_2
   have HC:Hid ((scRest p lj res body els (pj+1)).bind (scSts p lj res (l.drop (j+1)))=R):=Lib.hid (by
    rw[←hC1.out,scSt_go]
    ·rw[lcNext,if_neg (by exact hk1)]
    ·exact (if_neg hk1).trans ((if_neg hk2).trans ((if_neg hk346).trans ((if_neg hk7).trans (if_neg hk8)))))
   have b1:(k==1)=false:=by simpa using hk1
   have b2:(k==2)=false:=by simpa using hk2
   have b3:(k==3)=false:=by simpa using fun h=>hk346 (.inl h)
   have b4:(k==4)=false:=by simpa using fun h=>hk346 (.inr (.inl h))
   have b6:(k==6)=false:=by simpa using fun h=>hk346 (.inr (.inr h))
   have b7:(k==7)=false:=by simpa using hk7
   have b8:(k==8)=false:=by simpa using hk8
   go_wp2_with fail
   clear b1 b2 b3 b4 b6 b7 b8
   have CB:=ih (stCounts body) (Nat.lt_of_lt_of_le hsb hsz) body (Nat.le_refl _) bd aj lj (pj+1) v HTv.out HLv.out (hsI.out.body.keep (HKr.out _ HKv.out) (Nat.le_refl B)) HGd.out.2.2.2.1 (by have:=HPl.out;omega) (by have:=HPl.out;omega)
   have HBn:=scSts_on p lj res body (pj+1)
   cases hcb:scSts p lj res body (pj+1) with
   |bad qq er=>
    rw[hcb]at CB
    obtain rfl:Sc.bad qq er=R:=by rw[←HC.out,scRest,hcb];rfl
    refine CB.mono ?_
    rintro e vb ⟨⟨rfl,hp⟩,hk⟩
    exact⟨rfl,⟨rfl,hp⟩,(HKw.out _ HKv.out).trans hk⟩
   |on a3=>
   rw[hcb]at CB
   have HN3:Hid (a3=pj+1+(plSts body:Nat)):=Lib.hid (HBn.1 a3 hcb).1
   have HC3:Hid ((scSts p lj res els a3).bind (scSts p lj res (l.drop (j+1)))=R):=Lib.hid (by rw[←HC.out,scRest,hcb];rfl)
   clear hcb HBn
   refine CB.mono ?_
   rintro e vb ⟨⟨rfl,hp⟩,hk⟩
   have HTb:=Lib.hid (HTv.out.kept hk hp)
   have HLb:=Lib.hid (HTv.out.lcs HLv.out hk)
   have HKb:=Lib.hid (HKv.out.trans hk)
   have x00:=cell_at (HRes.out _ (HKu.out _ HKb.out)) 0
   have x01:=cell_at (HRes.out _ (HKu.out _ HKb.out)) 1
   have x02:=cell_at (HRes.out _ (HKu.out _ HKb.out)) 2
   simp only[sl7,sl8,sl9]at x00 x01 x02
   clear hp hk CB HTv HKv HLv HC xr0 xr1 xr2
   exact q7uzf_2
  ·obtain rfl:j=l.length:=by omega
   have HF:Hid (Sc.on pj=R):=Lib.hid (by have h:=hC.out;rw[List.drop_length,scSts]at h;exact h)
   obtain rfl:=HF.out
   go_wp2_with fail
   go_end0
   exact⟨⟨rfl,hT.out.pl⟩,HKv.out _ hK.out⟩
end Go.Proofs.YtkklogikakcanaaGreatDoor
