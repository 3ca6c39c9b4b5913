import Derived.Test.YtkklogikakcanaaGreatDoorRf05P
import Derived.Test.YtkklogikakcanaaGreatDoorRf03D
set_option linter.unusedVariables false
set_option linter.unusedSimpArgs false
open List renaming getElem_toArray → sl1, getElem_cons_zero → sl2, getElem_cons_succ → sl3, setIfInBounds_toArray → sl4, set_cons_zero → sl5, set_cons_succ → sl6, getElem?_toArray → sl7, getElem?_cons_zero → sl8, getElem?_cons_succ → sl9
namespace Go.Proofs.YtkklogikakcanaaGreatDoor
open Go Go.RowKit
theorem q3333_3 {P:Prop} (h:P:=by
 rintro e w5 ⟨rfl,hs5,hk5⟩
 have HS5:Hid (St5 X p ((c.bind (kq qe)).bind (kq (orE (Srt.has ⟨⟨qk,qn,qi⟩,false⟩) 10))) w5):=Lib.hid (by rw[HH.out];first|(rw[hz];exact hs5)|exact hs5)
 have HK5:=Lib.hid (HK4.out.trans hk5)
 clear hs5 hk5 y0 y1 y2 y3 HS4
 have yrow:=HYr.out _ HK5.out
 have y0:=cell_at yrow 0
 have y1:=cell_at yrow 1
 have y2:=cell_at yrow 2
 have y3:=cell_at yrow 3
 simp only[sl7,sl8,sl9]at y0 y1 y2 y3
 clear yrow
 have HZ:=Lib.hid (HZz.out _ (HKu.out.trans HK5.out))
 obtain⟨f0,f1,f2,f3,c0,c1,c2,c3,v0,v1,v2,v3⟩:=resO HZ.out false qk qn qi
 obtain⟨w6,hw6⟩:∃w6,(((w5.setCell ⟨Z+1+1,0,none⟩ (.bool false)).setCell ⟨Z+1+1,1,none⟩ (.int .u8 qk)).setCell ⟨Z+1+1,2,none⟩ (.string ⟨qn.toArray⟩)).setCell ⟨Z+1+1,3,none⟩ (.int .i64 qi)=w6:=⟨_,rfl⟩
 have HK6:Hid (Kp5 X w w6):=Lib.hid (by rw[←hw6];exact kept4n (HKw.out _ (HKu.out.trans HK5.out)) HZl.out _ _ _ _)
 have HS6:Hid (St5 X p ((c.bind (kq qe)).bind (kq (orE (Srt.has ⟨⟨qk,qn,qi⟩,false⟩) 10))) w6):=Lib.hid (by rw[←hw6];exact HS5.out.far (by have:=HXZ.out;omega) _ _ _ _)
 have HW6:=Lib.hid hw6
 clear hw6
 go_wp2_with fail
 refine bodyPost_ret (v:=.agg #[.bool false,.int .u8 qk,.string ⟨qn.toArray⟩,.int .i64 qi]) (by simp[results,Tryz.results130,go_sem,v0,v1,v2,v3]) rfl ?_
 rw[HW6.out]
 exact⟨rfl,HS6.out,HK6.out⟩):P:=h
theorem q3333_2 {P:Prop} (h:P:=by
 go_wp2_with fail
 go_at_call 85
 refine (rwant5_any X p (.on pa) true 8 v HSv.out).mono ?_
 rintro e v2 ⟨rfl,hs,hk⟩
 have HSv2:=Lib.hid hs
 have HKv2:=Lib.hid (HKv.out.trans hk)
 clear hs hk
 have HLk:Hid (∀W,Below v2.heap.size v2 W→W.cell? ⟨X,0,none⟩=some (.slice p.rd.a p.rs.length p.rd.c)∧W.cell? ⟨X,1,none⟩=some (.slice p.sd.a p.ss.length p.sd.c)∧W.cell? ⟨X,2,none⟩=some (.slice p.fd.a p.fs.length p.fd.c)∧W.cell? ⟨X,3,none⟩=some (.slice p.td.a p.ts.length p.td.c)):=Lib.hid fun W hb=>by
  obtain⟨pl0,er0,hlk,-⟩:=(HSv2.out.below hb).box
  exact⟨cell_at hlk 0,cell_at hlk 1,cell_at hlk 2,cell_at hlk 3⟩
 have HTt:Hid (∀W,Below v2.heap.size v2 W→W.cell? ⟨Z+1,2,none⟩=some (.int .u8 t.k)∧W.cell? ⟨Z+1,3,none⟩=some (.string ⟨t.nm.toArray⟩)∧W.cell? ⟨Z+1,4,none⟩=some (.int .i64 t.n)):=Lib.hid fun W hb=>by
  have row:=HRow.out W (HKv2.out.trans (Kept.of_below hb))
  exact⟨cell_at row 2,cell_at row 3,cell_at row 4⟩
 have CK:=Lib.hid (rknown5_any p t v2.drew (prIn_any (HP.out v2.drew (HKv2.out.trans (Kept.of_below (Below.refl _ _).drew))) (by have:=HSv2.out.lt;have:=HBX.out;show B≤v2.heap.size;omega)))
 generalize knownT p t=kn at*
 go_wp2_with fail
 refine wp_region_L (l:=8) (S:=(Below v2.heap.size v2)) (by kernel_rfl) ?_ (fun hHeld=>?_)
 ·((try dsimp only);(exact (Below.refl _ _).drew))
 refine tk 0 ?_
 try simp only[sl1,sl2,sl3,Act.put,sl4,sl5,sl6]
 refine tk 1 ?_
 try simp only[sl1,sl2,sl3,Act.put,sl4,sl5,sl6]
 refine tk 2 ?_
 try simp only[sl1,sl2,sl3,Act.put,sl4,sl5,sl6]
 refine tk 3 ?_
 try simp only[sl1,sl2,sl3,Act.put,sl4,sl5,sl6]
 refine tk 4 ?_ (h2:=by(intro W hSw;obtain⟨p0,p1,p2,p3⟩:=HLk.out W hSw;clear hSw;go_simp;all_goals with_reducible rfl))
 try simp only[sl1,sl2,sl3,Act.put,sl4,sl5,sl6]
 refine tk 5 ?_
 try simp only[sl1,sl2,sl3,Act.put,sl4,sl5,sl6]
 refine tk 6 ?_ (h2:=by(intro W hSw;obtain⟨p0,p1,p2⟩:=HTt.out W hSw;clear hSw;go_simp;all_goals with_reducible rfl))
 try simp only[sl1,sl2,sl3,Act.put,sl4,sl5,sl6]
 refine wpAnyL_step (j:=7) (o:=_) (by kernel_rfl) rfl (fun K hK=>?_)
 (go_simp;go_at_call 86;refine CK.out.mono ?_;rintro e v3 ⟨rfl,hb⟩;have HB3:Hid (Below v2.heap.size v2 v3):=Lib.hid ((Below.refl _ _).drew.trans hb);clear hb)
 refine hK _ _ ?_ (fun hHeld=>?_)
 ·((try dsimp only);(exact HB3.out))
 clear hK K
 try simp only[sl1,sl2,sl3,Act.put,sl4,sl5,sl6]
 refine wpAnyL_last (j:=8) (o:=_) (by kernel_rfl) rfl (by rfl) (by kernel_rfl) (fun K hK=>?_)
 (go_simp;go_at_call 85;refine (rwant5_any X p _ kn 9 v3 (HSv2.out.below HB3.out)).mono ?_;rintro e v4 ⟨rfl,hs,hk⟩;have HSv4:=Lib.hid hs;have HKv4:=Lib.hid ((HKv2.out.trans (Kept.of_below HB3.out)).trans hk);clear hs hk)
 (refine hK _ _ ?_;clear hK K)
 try simp only[sl1,sl2,sl3,Act.put,sl4,sl5,sl6]
 have row:=HRow.out _ HKv4.out
 have r0:=cell_at row 0
 have r1:=cell_at row 1
 have r2:=cell_at row 2
 have r3:=cell_at row 3
 have r4:=cell_at row 4
 have r5:=cell_at row 5
 have r6:=cell_at row 6
 have r7:=cell_at row 7
 have r8:=cell_at row 8
 have r9:=cell_at row 9
 have r10:=cell_at row 10
 have r11:=cell_at row 11
 have r12:=cell_at row 12
 have r13:=cell_at row 13
 have r14:=cell_at row 14
 have r15:=cell_at row 15
 have r16:=cell_at row 16
 have r17:=cell_at row 17
 have r18:=cell_at row 18
 have r19:=cell_at row 19
 have r20:=cell_at row 20
 clear row
 simp only[sl7,sl8,sl9]at r0 r1 r2 r3 r4 r5 r6 r7 r8 r9 r10 r11 r12 r13 r14 r15 r16 r17 r18 r19 r20
 have erow:=HEn.out _ HKv4.out
 have q0:=cell_at erow 0
 have q1:=cell_at erow 1
 have q2:=cell_at erow 2
 have q3:=cell_at erow 3
 have q4:=cell_at erow 4
 clear erow
 simp only[sl7,sl8,sl9]at q0 q1 q2 q3 q4
 obtain⟨pl,er,hlk,hc⟩:=HSv4.out.box
 have c5:=cell_at hlk 5
 simp only[sl7,sl8,sl9]at c5
 clear hlk
 rcases hc with ⟨hc,rfl⟩|⟨hc,hne⟩
 ·have HE:=Lib.hid (HC.out pl (by first|exact hc|(simpa using hc)))
  have HSv5:Hid (St5 X p (.on pl) v4):=Lib.hid (by rw[←hc];exact HSv4.out)
  have HXi:=Lib.hid ((HSi.out _ HKv4.out).x)
  cases hno:noEx x with
  |true=>
   have hz:Sc.on pl=R:=by rw[←HE.out,hno];rfl
   have HSz:Hid (St5 X p R v4):=Lib.hid (by rw[←hz];exact HSv5.out)
   have HKz:=Lib.hid (HKw.out _ HKv4.out)
   clear hz hc
   go_wp2_with (go_at_call 159;refine (rnoexpr_any x v4).mono ?_;rintro e v6 ⟨rfl,hb⟩;rw[hno];have HSz2:=Lib.hid (HSz.out.below hb);have HKz2:=Lib.hid (HKz.out.trans (Kept.of_below hb));clear hb)
   go_end0
   exact⟨rfl,HSz2.out,HKz2.out⟩
  |false=>
   have HE2:Hid (((Sc.on pl).bind (kq (valE p L x))).bind (kq (orE ((exR p L x).1.fits t) 10))=R):=Lib.hid (by rw[←HE.out,hno];exact valG_eq p L (fun v=>v.fits t) x (.on pl))
   have hg2:=hg hno
   clear hc HE
   go_wp2_with (go_at_call 159;refine (rnoexpr_any x v4).mono ?_;rintro e v6 ⟨rfl,hb⟩;rw[hno];have HSv6:=Lib.hid (HSv5.out.below hb);have HKv6:=Lib.hid (HKv4.out.trans (Kept.of_below hb));clear hb;clear c5 q0 q1 q2 q3 q4;clear r0 r1 r2 r3 r4 r5 r6 r7 r8 r9 r10 r11 r12 r13 r14 r15 r16 r17 r18 r19 r20;have row:=HRow.out _ HKv6.out;have r5:=cell_at row 5;have r6:=cell_at row 6;have r7:=cell_at row 7;have r8:=cell_at row 8;have r9:=cell_at row 9;have r10:=cell_at row 10;have r11:=cell_at row 11;clear row;have erow:=HEn.out _ HKv6.out;have q0:=cell_at erow 0;have q1:=cell_at erow 1;have q2:=cell_at erow 2;have q3:=cell_at erow 3;have q4:=cell_at erow 4;clear erow;simp only[sl7,sl8,sl9]at q0 q1 q2 q3 q4 r5 r6 r7 r8 r9 r10 r11)
   have HXi6:=Lib.hid ((HSi.out _ HKv6.out).x)
   go_at_call 130
   refine (rvalue5_any B X hBX p hp _ d L hL x hg2 v6 HSv6.out (HP.out _ HKv6.out) (HLc.out _ HKv6.out) HXi6.out).mono ?_
   rintro e w9 ⟨rfl,hs,hk⟩
   obtain⟨Yu,hY⟩:∃Y,w9.heap.size=Y:=⟨_,rfl⟩
   obtain⟨u,hu⟩:∃u,w9.alloc (ofObj (exR p L x).1)=u:=⟨_,rfl⟩
   have hb9:Below w9.heap.size w9 u:=by rw[←hu];exact (Below.refl _ _).alloc (Nat.le_refl _) _
   have yu:u.heap[Yu]? =some (ofObj (exR p L x).1):=by rw[←hu,←hY];exact heap_alloc_new w9 _
   have HYu:Hid (∀W,Kp5 X u W→W.heap[Yu]? =some (ofObj (exR p L x).1)):=Lib.hid fun W hk2=>(hk2.block Yu (lt_blk yu) (by have:=hs.lt;omega)).trans yu
   have HSu:=Lib.hid (hs.below hb9)
   have HKu:=Lib.hid ((HKv6.out.trans hk).trans (Kept.of_below hb9))
   have HUu:=Lib.hid (And.intro hu hY)
   clear hs hk hb9 yu hu hY
   clear q0 q1 q2 q3 q4 r5 r6 r7 r8 r9 r10 r11
   have row:=HRow.out _ HKu.out
   have r0:=cell_at row 0
   have r1:=cell_at row 1
   have r2:=cell_at row 2
   have r3:=cell_at row 3
   have r4:=cell_at row 4
   have r5:=cell_at row 5
   have r6:=cell_at row 6
   have r7:=cell_at row 7
   have r8:=cell_at row 8
   have r9:=cell_at row 9
   have r10:=cell_at row 10
   have r11:=cell_at row 11
   have r12:=cell_at row 12
   have r13:=cell_at row 13
   have r14:=cell_at row 14
   have r15:=cell_at row 15
   have r16:=cell_at row 16
   have r17:=cell_at row 17
   have r18:=cell_at row 18
   have r19:=cell_at row 19
   have r20:=cell_at row 20
   clear row
   simp only[sl7,sl8,sl9]at r0 r1 r2 r3 r4 r5 r6 r7 r8 r9 r10 r11 r12 r13 r14 r15 r16 r17 r18 r19 r20
   rw[←HUu.out.1]at r2 r3 r4
   go_wp2_with fail
   simp only[HUu.out.1,HUu.out.2]
   clear r0 r1 r2 r3 r4 r5 r6 r7 r8 r9 r10 r11 r12 r13 r14 r15 r16 r17 r18 r19 r20
   go_at_call 131
   refine (rfits_any (exR p L x).1 t u).mono ?_
   rintro e v7 ⟨rfl,hb⟩
   have HSv7:=Lib.hid (HSu.out.below hb)
   have HKv7:=Lib.hid (HKu.out.trans (Kept.of_below hb))
   clear hb
   go_wp2_with fail
   go_at_call 85
   refine (rwant5_any X p _ ((exR p L x).1.fits t) 10 v7 HSv7.out).mono ?_
   rintro e wz ⟨rfl,hs,hk⟩
   have HSz:Hid (St5 X p R wz):=Lib.hid (by rw[←HE2.out];exact hs)
   have HKz:=Lib.hid (HKw.out _ (HKv7.out.trans hk))
   clear hs hk
   go_wp2_with fail
   first|(go_end0;exact⟨rfl,HSz.out,HKz.out⟩)|(refine bodyPost_ret (results_none rfl _ _ _) rfl ?_;exact⟨rfl,HSz.out,HKz.out⟩)
 ·have t1:(er==0)=false:=by simpa using hne
  have hz:Sc.bad pl er=R:=HCb.out pl er (by first|exact hc|(simpa using hc))
  have HSz:Hid (St5 X p R v4):=Lib.hid (by rw[←hz,←hc];exact HSv4.out)
  have HKz:=Lib.hid (HKw.out _ HKv4.out)
  clear hz hc hne
  go_wp2_with fail
  go_end0
  exact⟨rfl,HSz.out,HKz.out⟩):P:=h
theorem q3333_1 {P:Prop} (h:P:=by
 go_enter Tryz.func129,Tryz.ntmps129
 go_wp2_with fail
 simp only[HN.out.1,HN.out.2]
 clear q0 q1 q2 q3 q4
 clear r0 r1 r2 r3 r4 r5 r6 r7 r8 r9 r10 r11 r12 r13 r14 r15 r16 r17 r18 r19 r20
 go_at_call 84
 refine CF1.out.mono ?_
 rintro e w3 ⟨rfl,hb3⟩
 obtain⟨u1,hu1⟩:∃u1,w3.alloc (tyBox (tyO o1).k (tyO o1).nm (tyO o1).n)=u1:=⟨_,rfl⟩
 have hbu:Below w2.heap.size w2 u1:=by rw[←hu1];exact hb3.alloc hb3.size _
 have HBu1:=Lib.hid hbu
 have HU1:=Lib.hid hu1
 clear hb3 hbu hu1
 have HLk1:Hid (∀W,Below u1.heap.size u1 W→W.cell? ⟨X,1,none⟩=some (.slice p.sd.a p.ss.length p.sd.c)∧W.cell? ⟨Z+1,1,none⟩=some (.string ⟨nm.toArray⟩)):=Lib.hid fun W hb=>by
  have hb2:=HBu1.out.trans (hb.mono HBu1.out.size)
  obtain⟨pl0,er0,hlk,-⟩:=(HS2.out.below hb2).box
  exact⟨cell_at hlk 1,cell_at (HRow.out W (Kept.of_below hb2)) 1⟩
 go_wp2_with fail
 simp only[HU1.out]
 refine wp_region_L (l:=13) (S:=(Below u1.heap.size u1)) (by kernel_rfl) ?_ (fun hHeld=>?_)
 ·((try dsimp only);(exact (Below.refl _ _).drew))
 refine tk 0 ?_
 try simp only[sl1,sl2,sl3,Act.put,sl4,sl5,sl6]
 refine tk 1 ?_
 try simp only[sl1,sl2,sl3,Act.put,sl4,sl5,sl6]
 refine tk 2 ?_
 try simp only[sl1,sl2,sl3,Act.put,sl4,sl5,sl6]
 refine tk 3 ?_
 try simp only[sl1,sl2,sl3,Act.put,sl4,sl5,sl6]
 refine tk 4 ?_ (h2:=by(intro W hSw;obtain⟨p0,p1⟩:=HLk1.out W hSw;clear hSw;go_simp;all_goals with_reducible rfl))
 try simp only[sl1,sl2,sl3,Act.put,sl4,sl5,sl6]
 refine tk 5 ?_
 try simp only[sl1,sl2,sl3,Act.put,sl4,sl5,sl6]
 refine tk 6 ?_ (h2:=by(intro W hSw;obtain⟨p0,p1⟩:=HLk1.out W hSw;clear hSw;go_simp;all_goals with_reducible rfl))
 try simp only[sl1,sl2,sl3,Act.put,sl4,sl5,sl6]
 refine wpAnyL_two (i:=7) (j:=11) (by kernel_rfl) rfl rfl (fun K hK=>?_) (fun K hK=>?_)
 ·go_simp
  go_at_call 84
  refine (CF2.out u1.drew HBu1.out.drew).mono ?_
  rintro e w5 ⟨rfl,hb⟩
  have HB5:Hid (Below u1.heap.size u1 w5):=Lib.hid ((Below.refl _ _).drew.trans hb)
  clear hb
  refine hK _ _ HB5.out (fun hHeld=>?_)
  clear hK K
  (try simp only[sl1,sl2,sl3,Act.put,sl4,sl5,sl6])
  refine tk 8 ?_
  try simp only[sl1,sl2,sl3,Act.put,sl4,sl5,sl6]
  refine tk 9 ?_
  try simp only[sl1,sl2,sl3,Act.put,sl4,sl5,sl6]
  refine tk 10 ?_
  try simp only[sl1,sl2,sl3,Act.put,sl4,sl5,sl6]
  refine wpAnyL_step (j:=11) (o:=_) (by kernel_rfl) rfl (fun K hK=>?_)
  go_simp
  refine hK _ _ ?_ (fun hHeld=>?_)
  ·((try dsimp only);(exact HB5.out.alloc HB5.out.size _))
  clear hK K
  try simp only[sl1,sl2,sl3,Act.put,sl4,sl5,sl6]
  refine wpAnyL_step (j:=12) (o:=_) (by kernel_rfl) rfl (fun K hK=>?_)
  go_simp
  refine hK _ _ ?_ (fun hHeld=>?_)
  ·((try dsimp only);(exact HB5.out.alloc HB5.out.size _))
  clear hK K
  try simp only[sl1,sl2,sl3,Act.put,sl4,sl5,sl6]
  refine wpAnyL_last (j:=13) (o:=_) (by kernel_rfl) rfl (by rfl) (by kernel_rfl) (fun K hK=>?_)
  go_simp
  (refine hK _ _ ?_;clear hK K)
  try simp only[sl1,sl2,sl3,Act.put,sl4,sl5,sl6]
  obtain⟨v,hv⟩:∃v,w5.alloc (tyBox (tyO o2).k (tyO o2).nm (tyO o2).n)=v:=⟨_,rfl⟩
  have HBv:Hid (Below w2.heap.size w2 v):=Lib.hid (by rw[←hv];have h:=HBu1.out.trans (HB5.out.mono HBu1.out.size);exact h.alloc h.size _)
  have HSv:=Lib.hid (HS2.out.below HBv.out)
  have HKv:Hid (Kp5 X w2 v):=Lib.hid (Kept.of_below HBv.out)
  simp only[hv]
  clear hv
  go_wp2_with fail
  go_at_call 85
  refine (rwant5_any X p (.on pa) false 8 v HSv.out).mono ?_
  rintro e v2 ⟨rfl,hs,hk⟩
  have HSv2:=Lib.hid hs
  have HKv2:=Lib.hid (HKv.out.trans hk)
  clear hs hk
  have HLk:Hid (∀W,Below v2.heap.size v2 W→W.cell? ⟨X,0,none⟩=some (.slice p.rd.a p.rs.length p.rd.c)∧W.cell? ⟨X,1,none⟩=some (.slice p.sd.a p.ss.length p.sd.c)∧W.cell? ⟨X,2,none⟩=some (.slice p.fd.a p.fs.length p.fd.c)∧W.cell? ⟨X,3,none⟩=some (.slice p.td.a p.ts.length p.td.c)):=Lib.hid fun W hb=>by
   obtain⟨pl0,er0,hlk,-⟩:=(HSv2.out.below hb).box
   exact⟨cell_at hlk 0,cell_at hlk 1,cell_at hlk 2,cell_at hlk 3⟩
  have HTt:Hid (∀W,Below v2.heap.size v2 W→W.cell? ⟨Z+1,2,none⟩=some (.int .u8 t.k)∧W.cell? ⟨Z+1,3,none⟩=some (.string ⟨t.nm.toArray⟩)∧W.cell? ⟨Z+1,4,none⟩=some (.int .i64 t.n)):=Lib.hid fun W hb=>by
   have row:=HRow.out W (HKv2.out.trans (Kept.of_below hb))
   exact⟨cell_at row 2,cell_at row 3,cell_at row 4⟩
  have CK:=Lib.hid (rknown5_any p t v2.drew (prIn_any (HP.out v2.drew (HKv2.out.trans (Kept.of_below (Below.refl _ _).drew))) (by have:=HSv2.out.lt;have:=HBX.out;show B≤v2.heap.size;omega)))
  generalize knownT p t=kn at*
  go_wp2_with fail
  refine wp_region_L (l:=8) (S:=(Below v2.heap.size v2)) (by kernel_rfl) ?_ (fun hHeld=>?_)
  ·((try dsimp only);(exact (Below.refl _ _).drew))
  refine tk 0 ?_
  try simp only[sl1,sl2,sl3,Act.put,sl4,sl5,sl6]
  refine tk 1 ?_
  try simp only[sl1,sl2,sl3,Act.put,sl4,sl5,sl6]
  refine tk 2 ?_
  try simp only[sl1,sl2,sl3,Act.put,sl4,sl5,sl6]
  refine tk 3 ?_
  try simp only[sl1,sl2,sl3,Act.put,sl4,sl5,sl6]
  refine tk 4 ?_ (h2:=by(intro W hSw;obtain⟨p0,p1,p2,p3⟩:=HLk.out W hSw;clear hSw;go_simp;all_goals with_reducible rfl))
  try simp only[sl1,sl2,sl3,Act.put,sl4,sl5,sl6]
  refine tk 5 ?_
  try simp only[sl1,sl2,sl3,Act.put,sl4,sl5,sl6]
  refine tk 6 ?_ (h2:=by(intro W hSw;obtain⟨p0,p1,p2⟩:=HTt.out W hSw;clear hSw;go_simp;all_goals with_reducible rfl))
  try simp only[sl1,sl2,sl3,Act.put,sl4,sl5,sl6]
  refine wpAnyL_step (j:=7) (o:=_) (by kernel_rfl) rfl (fun K hK=>?_)
  (go_simp;go_at_call 86;refine CK.out.mono ?_;rintro e v3 ⟨rfl,hb⟩;have HB3:Hid (Below v2.heap.size v2 v3):=Lib.hid ((Below.refl _ _).drew.trans hb);clear hb)
  refine hK _ _ ?_ (fun hHeld=>?_)
  ·((try dsimp only);(exact HB3.out))
  clear hK K
  try simp only[sl1,sl2,sl3,Act.put,sl4,sl5,sl6]
  refine wpAnyL_last (j:=8) (o:=_) (by kernel_rfl) rfl (by rfl) (by kernel_rfl) (fun K hK=>?_)
  (go_simp;go_at_call 85;refine (rwant5_any X p _ kn 9 v3 (HSv2.out.below HB3.out)).mono ?_;rintro e v4 ⟨rfl,hs,hk⟩;have HSv4:=Lib.hid hs;have HKv4:=Lib.hid ((HKv2.out.trans (Kept.of_below HB3.out)).trans hk);clear hs hk)
  (refine hK _ _ ?_;clear hK K)
  try simp only[sl1,sl2,sl3,Act.put,sl4,sl5,sl6]
  have HSv5:Hid (St5 X p (.bad pa 8) v4):=HSv4
  have hlk:=HSv5.out.2
  have c5:=cell_at hlk 5
  simp only[sl7,sl8,sl9]at c5
  clear hlk
  have hz:Sc.bad pa 8=R:=HCb.out pa 8 rfl
  have HSz:Hid (St5 X p R v4):=Lib.hid (by rw[←hz];exact HSv5.out)
  have HKz:=Lib.hid (HKw.out _ HKv4.out)
  clear hz
  go_wp2_with fail
  go_end0
  exact⟨rfl,HSz.out,HKz.out⟩
 ·go_simp
  have HBa:Hid (Below u1.heap.size u1 ((u1.drew).alloc (tyBox 0 [] 0))):=Lib.hid (((Below.refl u1.heap.size u1).drew).alloc (Nat.le_refl _) _)
  refine hK _ _ HBa.out (fun hHeld=>?_)
  clear hK K
  (try simp only[sl1,sl2,sl3,Act.put,sl4,sl5,sl6])
  refine wpAnyL_step (j:=7) (o:=_) (by kernel_rfl) rfl (fun K hK=>?_)
  (go_simp;go_at_call 84;refine (CF2.out _ (HBu1.out.trans (HBa.out.mono HBu1.out.size))).mono ?_;rintro e w5 ⟨rfl,hb⟩;have HB5:Hid (Below u1.heap.size u1 w5):=Lib.hid (HBa.out.trans (hb.mono HBa.out.size));have z5:=(hb.block _ (lt_blk (heap_alloc_new u1.drew (tyBox 0 [] 0)))).trans (heap_alloc_new u1.drew (tyBox 0 [] 0));have HZ5:Hid (w5.heap[u1.heap.size]? =some (tyBox 0 [] 0)):=Lib.hid z5;clear hb z5;have c0:=cell_at HZ5.out 0;have c1:=cell_at HZ5.out 1;have c2:=cell_at HZ5.out 2;have f0:=frz_at HZ5.out 0;have f1:=frz_at HZ5.out 1;have f2:=frz_at HZ5.out 2;simp only[sl7,sl8,sl9]at c0 c1 c2)
  refine hK _ _ ?_ (fun hHeld=>?_)
  ·((try dsimp only);(exact HB5.out))
  clear hK K
  try simp only[sl1,sl2,sl3,Act.put,sl4,sl5,sl6]
  refine tk 8 ?_
  try simp only[sl1,sl2,sl3,Act.put,sl4,sl5,sl6]
  refine tk 9 ?_
  try simp only[sl1,sl2,sl3,Act.put,sl4,sl5,sl6]
  refine tk 10 ?_
  try simp only[sl1,sl2,sl3,Act.put,sl4,sl5,sl6]
  refine wpAnyL_step (j:=12) (o:=_) (by kernel_rfl) rfl (fun K hK=>?_)
  go_simp
  refine hK _ _ ?_ (fun hHeld=>?_)
  ·((try dsimp only);(exact (((HB5.out.setCell (p:=⟨u1.heap.size,0,none⟩) (Nat.le_refl _) _).setCell (p:=⟨u1.heap.size,1,none⟩) (Nat.le_refl _) _).setCell (p:=⟨u1.heap.size,2,none⟩) (Nat.le_refl _) _)))
  clear hK K
  try simp only[sl1,sl2,sl3,Act.put,sl4,sl5,sl6]
  refine wpAnyL_last (j:=13) (o:=_) (by kernel_rfl) rfl (by rfl) (by kernel_rfl) (fun K hK=>?_)
  go_simp
  (refine hK _ _ ?_;clear hK K)
  try simp only[sl1,sl2,sl3,Act.put,sl4,sl5,sl6]
  obtain⟨v,hv⟩:∃v,((w5.setCell ⟨u1.heap.size,0,none⟩ (.int .u8 (tyO o2).k)).setCell ⟨u1.heap.size,1,none⟩ (.string ⟨(tyO o2).nm.toArray⟩)).setCell ⟨u1.heap.size,2,none⟩ (.int .i64 (tyO o2).n)=v:=⟨_,rfl⟩
  have HBv:Hid (Below w2.heap.size w2 v):=Lib.hid (by rw[←hv];exact HBu1.out.trans (Below.mono (((HB5.out.setCell (p:=⟨u1.heap.size,0,none⟩) (Nat.le_refl _) _).setCell (p:=⟨u1.heap.size,1,none⟩) (Nat.le_refl _) _).setCell (p:=⟨u1.heap.size,2,none⟩) (Nat.le_refl _) _) HBu1.out.size))
  have HSv:=Lib.hid (HS2.out.below HBv.out)
  have HKv:Hid (Kp5 X w2 v):=Lib.hid (Kept.of_below HBv.out)
  simp only[hv]
  clear hv c0 c1 c2 f0 f1 f2
  go_wp2_with fail
  go_at_call 85
  refine (rwant5_any X p (.on pa) false 8 v HSv.out).mono ?_
  rintro e v2 ⟨rfl,hs,hk⟩
  have HSv2:=Lib.hid hs
  have HKv2:=Lib.hid (HKv.out.trans hk)
  clear hs hk
  have HLk:Hid (∀W,Below v2.heap.size v2 W→W.cell? ⟨X,0,none⟩=some (.slice p.rd.a p.rs.length p.rd.c)∧W.cell? ⟨X,1,none⟩=some (.slice p.sd.a p.ss.length p.sd.c)∧W.cell? ⟨X,2,none⟩=some (.slice p.fd.a p.fs.length p.fd.c)∧W.cell? ⟨X,3,none⟩=some (.slice p.td.a p.ts.length p.td.c)):=Lib.hid fun W hb=>by
   obtain⟨pl0,er0,hlk,-⟩:=(HSv2.out.below hb).box
   exact⟨cell_at hlk 0,cell_at hlk 1,cell_at hlk 2,cell_at hlk 3⟩
  have HTt:Hid (∀W,Below v2.heap.size v2 W→W.cell? ⟨Z+1,2,none⟩=some (.int .u8 t.k)∧W.cell? ⟨Z+1,3,none⟩=some (.string ⟨t.nm.toArray⟩)∧W.cell? ⟨Z+1,4,none⟩=some (.int .i64 t.n)):=Lib.hid fun W hb=>by
   have row:=HRow.out W (HKv2.out.trans (Kept.of_below hb))
   exact⟨cell_at row 2,cell_at row 3,cell_at row 4⟩
  have CK:=Lib.hid (rknown5_any p t v2.drew (prIn_any (HP.out v2.drew (HKv2.out.trans (Kept.of_below (Below.refl _ _).drew))) (by have:=HSv2.out.lt;have:=HBX.out;show B≤v2.heap.size;omega)))
  generalize knownT p t=kn at*
  go_wp2_with fail
  refine wp_region_L (l:=8) (S:=(Below v2.heap.size v2)) (by kernel_rfl) ?_ (fun hHeld=>?_)
  ·((try dsimp only);(exact (Below.refl _ _).drew))
  refine tk 0 ?_
  try simp only[sl1,sl2,sl3,Act.put,sl4,sl5,sl6]
  refine tk 1 ?_
  try simp only[sl1,sl2,sl3,Act.put,sl4,sl5,sl6]
  refine tk 2 ?_
  try simp only[sl1,sl2,sl3,Act.put,sl4,sl5,sl6]
  refine tk 3 ?_
  try simp only[sl1,sl2,sl3,Act.put,sl4,sl5,sl6]
  refine tk 4 ?_ (h2:=by(intro W hSw;obtain⟨p0,p1,p2,p3⟩:=HLk.out W hSw;clear hSw;go_simp;all_goals with_reducible rfl))
  try simp only[sl1,sl2,sl3,Act.put,sl4,sl5,sl6]
  refine tk 5 ?_
  try simp only[sl1,sl2,sl3,Act.put,sl4,sl5,sl6]
  refine tk 6 ?_ (h2:=by(intro W hSw;obtain⟨p0,p1,p2⟩:=HTt.out W hSw;clear hSw;go_simp;all_goals with_reducible rfl))
  try simp only[sl1,sl2,sl3,Act.put,sl4,sl5,sl6]
  refine wpAnyL_step (j:=7) (o:=_) (by kernel_rfl) rfl (fun K hK=>?_)
  (go_simp;go_at_call 86;refine CK.out.mono ?_;rintro e v3 ⟨rfl,hb⟩;have HB3:Hid (Below v2.heap.size v2 v3):=Lib.hid ((Below.refl _ _).drew.trans hb);clear hb)
  refine hK _ _ ?_ (fun hHeld=>?_)
  ·((try dsimp only);(exact HB3.out))
  clear hK K
  try simp only[sl1,sl2,sl3,Act.put,sl4,sl5,sl6]
  refine wpAnyL_last (j:=8) (o:=_) (by kernel_rfl) rfl (by rfl) (by kernel_rfl) (fun K hK=>?_)
  (go_simp;go_at_call 85;refine (rwant5_any X p _ kn 9 v3 (HSv2.out.below HB3.out)).mono ?_;rintro e v4 ⟨rfl,hs,hk⟩;have HSv4:=Lib.hid hs;have HKv4:=Lib.hid ((HKv2.out.trans (Kept.of_below HB3.out)).trans hk);clear hs hk)
  (refine hK _ _ ?_;clear hK K)
  try simp only[sl1,sl2,sl3,Act.put,sl4,sl5,sl6]
  have HSv5:Hid (St5 X p (.bad pa 8) v4):=HSv4
  have hlk:=HSv5.out.2
  have c5:=cell_at hlk 5
  simp only[sl7,sl8,sl9]at c5
  clear hlk
  have hz:Sc.bad pa 8=R:=HCb.out pa 8 rfl
  have HSz:Hid (St5 X p R v4):=Lib.hid (by rw[←hz];exact HSv5.out)
  have HKz:=Lib.hid (HKw.out _ HKv4.out)
  clear hz
  go_wp2_with fail
  go_end0
  exact⟨rfl,HSz.out,HKz.out⟩):P:=h
def kq (e a:Int):Sc:=if e=0 then .on a else .bad a e
theorem kq_ne {e:Int} (h:e≠0) (a:Int):kq e a=.bad a e:=if_neg h
theorem Sc.bind_on (a:Int) (f:Int→Sc):(Sc.on a).bind f=f a:=rfl
theorem Sc.bind_bad (q e:Int) (f:Int→Sc):(Sc.bad q e).bind f=.bad q e:=rfl
theorem Sc.bind_bind (c:Sc) (f g:Int→Sc):(c.bind f).bind g=c.bind fun a=>(f a).bind g:=by cases c<;>rfl
theorem Sc.bind_kq (c:Sc):c.bind (kq 0)=c:=by cases c<;>rfl
def valE (p:Pr) (l:Lc) (x:Ex):Int:=match valS p l x with|.error e=>e|.ok _=>0
theorem valE_eq (p:Pr) (l:Lc) (x:Ex) (c:Sc):(c.bind (kq (exR p l x).2)).bind (kq (orE (exR p l x).1.has 10))=c.bind (kq (valE p l x)):=by
 rw[Sc.bind_bind]
 refine congrArg (Sc.bind c) (funext fun a=>?_)
 unfold exR valE valS
 cases h:exS p l x with
 |error e=>
  have hne:=exS_ne p l x e h
  dsimp only
  rw[kq_ne hne]
  rfl
 |ok s=>
  dsimp only
  cases s.has<;>rfl
abbrev lkObj (p:Pr) (pl e:Int):Obj:=.cells #[.slice p.rd.a p.rs.length p.rd.c,.slice p.sd.a p.ss.length p.sd.c,.slice p.fd.a p.fs.length p.fd.c,.slice p.td.a p.ts.length p.td.c,.int .i64 pl,.int .i64 e] 77 (0,0)
def Lk5 (X:Nat) (p:Pr) (pl e:Int) (W:World):Prop:=W.heap[X]? =some (lkObj p pl e)
def St5 (X:Nat) (p:Pr) (c:Sc) (W:World):Prop:=match c with
 |.on a=>Lk5 X p a 0 W
 |.bad q e=>e≠0∧Lk5 X p q e W
abbrev Kp5 (X:Nat):World→World→Prop:=Kept (fun k=>k=X)
section
variable {X:Nat} {p:Pr} {pl e:Int} {c:Sc} {W W' W1:World}
theorem Lk5.lt (h:Lk5 X p pl e W):X<W.heap.size:=(Array.getElem?_eq_some_iff.1 h).1
theorem Lk5.setE (h:Lk5 X p pl e W) (m:Int):Lk5 X p pl m (W.setCell ⟨X,5,none⟩ (.int .i64 m)):=by have:=row_set h 5 (.int .i64 m);simpa [Lk5] using this
theorem Lk5.setP (h:Lk5 X p pl e W) (m:Int):Lk5 X p m e (W.setCell ⟨X,4,none⟩ (.int .i64 m)):=by have:=row_set h 4 (.int .i64 m);simpa [Lk5] using this
theorem Lk5.below (h:Lk5 X p pl e W) (hb:Below W.heap.size W W'):Lk5 X p pl e W':=(hb.block X h.lt).trans h
theorem St5.box (h:St5 X p c W):∃pl e,Lk5 X p pl e W∧((c=.on pl∧e=0)∨(c=.bad pl e∧e≠0)):=by
 cases c with
 |on a=>exact⟨_,_,h,.inl ⟨rfl,rfl⟩⟩
 |bad q e=>exact⟨_,_,h.2,.inr ⟨rfl,h.1⟩⟩
theorem St5.lt (h:St5 X p c W):X<W.heap.size:=by obtain⟨pl,e,h,-⟩:=h.box;exact h.lt
theorem St5.below (h:St5 X p c W) (hb:Below W.heap.size W W'):St5 X p c W':=by
 cases c with
 |on a=>exact Lk5.below h hb
 |bad q e=>exact⟨h.1,Lk5.below h.2 hb⟩
theorem Kp5.set (h:Kp5 X W1 W) (j:Nat) (u:Value):Kp5 X W1 (W.setCell ⟨X,j,none⟩ u):=Kept.setCell (S:=fun k=>k=X) h (p:=⟨X,j,none⟩) (Or.inl rfl) u
end
set_option maxHeartbeats 4000000 in
theorem rkeep5_any (X:Nat) (p:Pr) (c:Sc) (e:Int) (w:World) (h:St5 X p c w):
  Calls Tryz.prog 128 #[.pointer (some ⟨X,0,none⟩),.int .i64 e] w fun en w'=>en=.returned (.tuple #[])∧St5 X p (c.bind (kq e)) w'∧Kp5 X w w':=by
 obtain⟨pl,er,hr,hc⟩:=h.box
 have c5:=cell_at hr 5
 have f5:=frz_at hr 5
 simp only[sl7,sl8,sl9]at c5
 have HR:=Lib.hid hr
 have H:=Lib.hid h
 clear hr h
 rcases hc with ⟨rfl,rfl⟩|⟨rfl,hne⟩
 ·have HZ:Hid (St5 X p ((Sc.on pl).bind (kq e)) (w.setCell ⟨X,5,none⟩ (.int .i64 e))):=Lib.hid (by
   by_cases he:e=0
   ·subst he;exact HR.out.setE 0
   ·rw[Sc.bind_on,kq_ne he];exact⟨he,HR.out.setE e⟩)
  have HK:Hid (Kp5 X w (w.setCell ⟨X,5,none⟩ (.int .i64 e))):=Lib.hid (Kp5.set (Kept.refl _ _) 5 _)
  go_enter Tryz.func128,Tryz.ntmps128
  go_wp2
  go_end0
  exact⟨rfl,HZ.out,HK.out⟩
 ·have t1:(er==0)=false:=by simpa using hne
  have HK:Hid (Kp5 X w w):=Lib.hid (Kept.refl _ _)
  clear hne
  go_enter Tryz.func128,Tryz.ntmps128
  go_wp2
  go_end0
  exact⟨rfl,H.out,HK.out⟩
theorem rwant5_any (X:Nat) (p:Pr) (c:Sc) (ok:Bool) (e:Int) (w:World) (h:St5 X p c w):
  Calls Tryz.prog 85 #[.pointer (some ⟨X,0,none⟩),.bool ok,.int .i64 e] w fun en w'=>en=.returned (.tuple #[])∧St5 X p (c.bind (kq (orE ok e))) w'∧Kp5 X w w':=by
 have C:=Lib.hid (rkeep5_any X p c e w h)
 have H:=Lib.hid h
 have HK:Hid (Kp5 X w w):=Lib.hid (Kept.refl _ _)
 cases ok with
 |true=>
  have HC:Hid (c.bind (kq (orE true e))=c):=Lib.hid (Sc.bind_kq c)
  go_enter Tryz.func85,Tryz.ntmps85
  go_wp2
  go_end0
  exact⟨rfl,by rw[HC.out];exact H.out,HK.out⟩
 |false=>
  go_enter Tryz.func85,Tryz.ntmps85
  go_wp2_with fail
  go_at_call 128
  refine C.out.mono ?_
  rintro en w1 ⟨rfl,hs,hk⟩
  have HS:=Lib.hid hs
  have HK1:=Lib.hid hk
  clear hs hk
  go_wp2
  go_end0
  exact⟨rfl,HS.out,HK1.out⟩
theorem St5.far {X Z:Nat} {p:Pr} {c:Sc} {W:World} (h:St5 X p c W) (hZ:X≠Z) (u0 u1 u2 u3:Value):St5 X p c ((((W.setCell ⟨Z,0,none⟩ u0).setCell ⟨Z,1,none⟩ u1).setCell ⟨Z,2,none⟩ u2).setCell ⟨Z,3,none⟩ u3):=by
 have e:((((W.setCell ⟨Z,0,none⟩ u0).setCell ⟨Z,1,none⟩ u1).setCell ⟨Z,2,none⟩ u2).setCell ⟨Z,3,none⟩ u3).heap[X]? =W.heap[X]? :=by
  rw[Below.heap_setCell _ _ _ _ hZ,Below.heap_setCell _ _ _ _ hZ,Below.heap_setCell _ _ _ _ hZ,Below.heap_setCell _ _ _ _ hZ]
 cases c with
 |on a=>exact e.trans h
 |bad q er=>exact⟨h.1,e.trans h.2⟩
theorem kept4n {X Z:Nat} {w W:World} (h:Kp5 X w W) (hZ:w.heap.size≤Z) (u0 u1 u2 u3:Value):Kp5 X w ((((W.setCell ⟨Z,0,none⟩ u0).setCell ⟨Z,1,none⟩ u1).setCell ⟨Z,2,none⟩ u2).setCell ⟨Z,3,none⟩ u3):=
 (((h.setCell (p:=⟨Z,0,none⟩) (Or.inr hZ) u0).setCell (p:=⟨Z,1,none⟩) (Or.inr hZ) u1).setCell (p:=⟨Z,2,none⟩) (Or.inr hZ) u2).setCell (p:=⟨Z,3,none⟩) (Or.inr hZ) u3
structure LcIn (X:Nat) (W:World) (d:Hd) (L:Lc):Prop where
 len:lenOk L.length
 row:L≠[]→∃b off,d.a=some ⟨b,off,none⟩∧b<W.heap.size∧b≠X∧∀i f,L[i]? =some f→FlAt W b (off+i*4) f
 sub:∀f,f∈L→f.Ok
theorem LcIn.fls {X:Nat} {W:World} {d:Hd} {L:Lc} (h:LcIn X W d L):FlsIn W W.heap.size d L:=
 ⟨h.len,fun hne=>by obtain⟨b,off,h1,h2,-,h4⟩:=h.row hne;exact⟨b,off,h1,h2,h4⟩,h.sub⟩
theorem LcIn.kept {X:Nat} {W W':World} {d:Hd} {L:Lc} (h:LcIn X W d L) (hk:Kp5 X W W'):LcIn X W' d L:=
 ⟨h.len,fun hne=>by
  obtain⟨b,off,h1,h2,h3,h4⟩:=h.row hne
  exact⟨b,off,h1,Nat.lt_of_lt_of_le h2 hk.size,h3,fun i f hf=>(h4 i f hf).keep fun o'=>hk.cell (p:=⟨b,o',none⟩) h2 h3⟩,h.sub⟩
theorem prIn_any {B:Nat} {p:Pr} {W:World} (h:PrIn W B p) (hB:B≤W.heap.size):PrIn W W.heap.size p:=h.keep (Below.refl _ _) hB
theorem exIn_any {B:Nat} {x:Ex} {W:World} (h:ExIn W B x) (hB:B≤W.heap.size):ExIn W W.heap.size x:=h.keep (Below.refl _ _) hB
abbrev exBox (x:Ex):Obj:=.cells #[.int .u8 x.k,.int .i64 x.n,.string ⟨x.nm.toArray⟩,.int .u8 x.t.k,.string ⟨x.t.nm.toArray⟩,.int .i64 x.t.n,.slice x.d.a x.args.length x.d.c] 70 (0,0)
set_option maxHeartbeats 8000000 in
set_option maxRecDepth 100000 in
theorem rvalue5_any (B X:Nat) (hBX:B≤X) (p:Pr) (hp:PrTy p) (c:Sc) (d:Hd) (L:Lc) (hL:∀f∈L,TyI f.t) (x:Ex) (hg:ExGood x) (w:World) (h:St5 X p c w) (hP:PrIn w B p) (hLc:LcIn X w d L) (hI:ExIn w B x):
  Calls Tryz.prog 130 #[.pointer (some ⟨X,0,none⟩),envV p d L.length,x.val] w fun en w'=>en=.returned (OfV (exR p L x).1)∧St5 X p (c.bind (kq (valE p L x))) w'∧Kp5 X w w':=by
 rw[←valE_eq]
 have hXl:=h.lt
 obtain⟨Z,hZ⟩:∃Z,w.heap.size=Z:=⟨_,rfl⟩
 obtain⟨w1,hw1⟩:∃w1,w.alloc (envObj p d L.length)=w1:=⟨_,rfl⟩
 obtain⟨wa,hwa⟩:∃wa,w1.alloc (exBox x)=wa:=⟨_,rfl⟩
 obtain⟨w2,hw2⟩:∃w2,wa.alloc ofZero=w2:=⟨_,rfl⟩
 have hs1:w1.heap.size=Z+1:=by rw[←hw1,World.size_alloc,hZ]
 have hsa:wa.heap.size=Z+1+1:=by rw[←hwa,World.size_alloc,hs1]
 have hb1:Below w.heap.size w w1:=by rw[←hw1];exact (Below.refl _ _).alloc (Nat.le_refl _) _
 have hba:Below w1.heap.size w1 wa:=by rw[←hwa];exact (Below.refl _ _).alloc (Nat.le_refl _) _
 have hb2:Below wa.heap.size wa w2:=by rw[←hw2];exact (Below.refl _ _).alloc (Nat.le_refl _) _
 have hb1a:Below w.heap.size w wa:=hb1.trans (hba.mono hb1.size)
 have hb12:Below w.heap.size w w2:=hb1a.trans (hb2.mono hb1a.size)
 have x1:w2.heap[Z]? =some (envObj p d L.length):=(hb2.block Z (by omega)).trans ((hba.block Z (by omega)).trans (by rw[←hw1,←hZ];exact heap_alloc_new w _))
 have xa:w2.heap[Z+1]? =some (exBox x):=(hb2.block (Z+1) (by omega)).trans (by rw[←hwa,←hs1];exact heap_alloc_new w1 _)
 have x2:w2.heap[Z+1+1]? =some ofZero:=by rw[←hw2,←hsa];exact heap_alloc_new wa _
 have HZz:Hid (∀W,Kp5 X w2 W→W.heap[Z+1+1]? =some ofZero):=Lib.hid fun W hk=>(hk.block (Z+1+1) (lt_blk x2) (by omega)).trans x2
 have HKw:Hid (∀W,Kp5 X w2 W→Kp5 X w W):=Lib.hid fun W hk=>(Kept.of_below hb12).trans hk
 have HZl:Hid (w.heap.size≤Z+1+1):=Lib.hid (by omega)
 have hBl:B≤w.heap.size:=by omega
 have C:=Lib.hid (rexpr5_any p hp d L hL _ x (Nat.le_refl _) hg w2 ((hP.keep (hb12.mono hBl) (Nat.le_refl B)) |> fun h=>prIn_any h (Nat.le_trans hBl hb12.size)) ((hLc.kept (Kept.of_below hb12)).fls) ((hI.keep (hb12.mono hBl) (Nat.le_refl B)) |> fun h=>exIn_any h (Nat.le_trans hBl hb12.size)))
 have HS2:=Lib.hid (h.below hb12)
 have HN:Hid (((w.alloc (envObj p d L.length)).alloc (exBox x)).alloc ofZero=w2∧w.heap.size=Z):=Lib.hid ⟨by rw[hw1,hwa,hw2],hZ⟩
 have q0:=cell_at x1 0
 have q1:=cell_at x1 1
 have q2:=cell_at x1 2
 have q3:=cell_at x1 3
 have q4:=cell_at x1 4
 have r0:=cell_at xa 0
 have r1:=cell_at xa 1
 have r2:=cell_at xa 2
 have r3:=cell_at xa 3
 have r4:=cell_at xa 4
 have r5:=cell_at xa 5
 have r6:=cell_at xa 6
 simp only[sl7,sl8,sl9]at q0 q1 q2 q3 q4 r0 r1 r2 r3 r4 r5 r6
 rw[←hw2,←hwa,←hw1,←hZ]at q0 q1 q2 q3 q4 r0 r1 r2 r3 r4 r5 r6
 generalize exR p L x=q at*
 obtain⟨⟨⟨qk,qn,qi⟩,qb⟩,qe⟩:=q
 have HXZ:Hid (X<Z):=Lib.hid (by omega)
 clear hw1 hw2 hwa hs1 hsa hb1 hba hb2 hb1a hb12 x1 x2 xa hP hLc hI h hZ hBl hXl
 dsimp only[OfV]at C ⊢
 go_enter Tryz.func130,Tryz.ntmps130
 go_wp2_with fail
 simp only[HN.out.1,HN.out.2]
 clear q0 q1 q2 q3 q4 r0 r1 r2 r3 r4 r5 r6
 refine C.out.mono ?_
 rintro e w3 ⟨rfl,hb3⟩
 obtain⟨Y,hY⟩:∃Y,w3.heap.size=Y:=⟨_,rfl⟩
 obtain⟨u,hu⟩:∃u,w3.alloc (ofObj ⟨⟨qk,qn,qi⟩,qb⟩)=u:=⟨_,rfl⟩
 have hbu:Below w2.heap.size w2 u:=by rw[←hu];exact hb3.alloc hb3.size _
 have yu:u.heap[Y]? =some (ofObj ⟨⟨qk,qn,qi⟩,qb⟩):=by rw[←hu,←hY];exact heap_alloc_new w3 _
 have HYr:Hid (∀W,Kp5 X u W→W.heap[Y]? =some (ofObj ⟨⟨qk,qn,qi⟩,qb⟩)):=Lib.hid fun W hk=>(hk.block Y (lt_blk yu) (by have:=HXZ.out;have:=HZl.out;have:=HN.out.2;have:=hb3.size;have:=lt_blk (HZz.out w2 (Kept.refl _ _));omega)).trans yu
 have HSu:=Lib.hid (HS2.out.below hbu)
 have HKu:Hid (Kp5 X w2 u):=Lib.hid (Kept.of_below hbu)
 have HU1:=Lib.hid (And.intro hu hY)
 clear hb3 hbu yu hu hY C
 go_wp2_with fail
 simp only[HU1.out.1,HU1.out.2]
 go_at_call 128
 refine (rkeep5_any X p c qe u HSu.out).mono ?_
 rintro e w4 ⟨rfl,hs4,hk4⟩
 have HS4:=Lib.hid hs4
 have HK4:=Lib.hid hk4
 clear hs4 hk4
 have yrow:=HYr.out _ HK4.out
 have y0:=cell_at yrow 0
 have y1:=cell_at yrow 1
 have y2:=cell_at yrow 2
 have y3:=cell_at yrow 3
 simp only[sl7,sl8,sl9]at y0 y1 y2 y3
 clear yrow
 have hhas:Srt.has ⟨⟨qk,qn,qi⟩,qb⟩=(qb||(qk != 0)):=by
  unfold Srt.has
  by_cases hz:qk=0<;>simp[hz]
 have HH:=Lib.hid hhas
 clear hhas
 cases qb with
 |true=>
  go_wp2_with fail
  go_at_call 85
  refine (rwant5_any X p _ true 10 w4 HS4.out).mono ?_
  rintro e w5 ⟨rfl,hs5,hk5⟩
  have HS5:Hid (St5 X p ((c.bind (kq qe)).bind (kq (orE (Srt.has ⟨⟨qk,qn,qi⟩,true⟩) 10))) w5):=Lib.hid (by rw[HH.out];first|(rw[hz];exact hs5)|exact hs5)
  have HK5:=Lib.hid (HK4.out.trans hk5)
  clear hs5 hk5 y0 y1 y2 y3 HS4
  have yrow:=HYr.out _ HK5.out
  have y0:=cell_at yrow 0
  have y1:=cell_at yrow 1
  have y2:=cell_at yrow 2
  have y3:=cell_at yrow 3
  simp only[sl7,sl8,sl9]at y0 y1 y2 y3
  clear yrow
  have HZ:=Lib.hid (HZz.out _ (HKu.out.trans HK5.out))
  obtain⟨f0,f1,f2,f3,c0,c1,c2,c3,v0,v1,v2,v3⟩:=resO HZ.out true qk qn qi
  obtain⟨w6,hw6⟩:∃w6,(((w5.setCell ⟨Z+1+1,0,none⟩ (.bool true)).setCell ⟨Z+1+1,1,none⟩ (.int .u8 qk)).setCell ⟨Z+1+1,2,none⟩ (.string ⟨qn.toArray⟩)).setCell ⟨Z+1+1,3,none⟩ (.int .i64 qi)=w6:=⟨_,rfl⟩
  have HK6:Hid (Kp5 X w w6):=Lib.hid (by rw[←hw6];exact kept4n (HKw.out _ (HKu.out.trans HK5.out)) HZl.out _ _ _ _)
  have HS6:Hid (St5 X p ((c.bind (kq qe)).bind (kq (orE (Srt.has ⟨⟨qk,qn,qi⟩,true⟩) 10))) w6):=Lib.hid (by rw[←hw6];exact HS5.out.far (by have:=HXZ.out;omega) _ _ _ _)
  have HW6:=Lib.hid hw6
  clear hw6
  go_wp2_with fail
  refine bodyPost_ret (v:=.agg #[.bool true,.int .u8 qk,.string ⟨qn.toArray⟩,.int .i64 qi]) (by simp[results,Tryz.results130,go_sem,v0,v1,v2,v3]) rfl ?_
  rw[HW6.out]
  exact⟨rfl,HS6.out,HK6.out⟩
 |false=>
  cases hz:(qk != 0) with
  |true=>
   go_wp2_with fail
   go_at_call 85
   refine (rwant5_any X p _ true 10 w4 HS4.out).mono ?_
   exact q3333_3
  |false=>
   go_wp2_with fail
   go_at_call 85
   refine (rwant5_any X p _ false 10 w4 HS4.out).mono ?_
   exact q3333_3
end Go.Proofs.YtkklogikakcanaaGreatDoor
namespace Go.Proofs.YtkklogikakcanaaGreatDoor
open Go Go.RowKit
def valG (p:Pr) (l:Lc) (g:Srt→Bool) (x:Ex):Int:=match valS p l x with|.error e=>e|.ok v=>if g v then 0 else 10
theorem valG_eq (p:Pr) (l:Lc) (g:Srt→Bool) (x:Ex) (c:Sc):(c.bind (kq (valE p l x))).bind (kq (orE (g (exR p l x).1) 10))=c.bind (kq (valG p l g x)):=by
 rw[Sc.bind_bind]
 refine congrArg (Sc.bind c) (funext fun a=>?_)
 unfold valG valE exR valS
 cases h:exS p l x with
 |error e=>
  have hne:=exS_ne p l x e h
  dsimp only
  rw[kq_ne hne]
  rfl
 |ok s=>
  dsimp only
  cases s.has with
  |true=>rfl
  |false=>rfl
def resE (p:Pr) (l:Lc) (res:Ty) (x:Ex):Int:=if noEx x then (if res.k=0 then 0 else 10) else valG p l (fun v=>v.fits res) x
set_option maxHeartbeats 8000000 in
set_option maxRecDepth 100000 in
theorem rresult5_any (B X:Nat) (hBX:B≤X) (p:Pr) (hp:PrTy p) (c:Sc) (d:Hd) (L:Lc) (hL:∀f∈L,TyI f.t) (k:Int) (nm:List UInt8) (t:Ty) (x y:Ex) (bd:Hd) (body:List St) (ed:Hd) (els:List St) (res:Ty) (hg:noEx x=false→ExGood x)
  (w:World) (h:St5 X p c w) (hP:PrIn w B p) (hLc:LcIn X w d L) (hI:StIn w B (.mk k nm t x y bd body ed els)):
  Calls Tryz.prog 133 #[.pointer (some ⟨X,0,none⟩),envV p d L.length,(St.mk k nm t x y bd body ed els).val,res.val] w fun en w'=>en=.returned (.tuple #[])∧St5 X p (c.bind (kq (resE p L res x))) w'∧Kp5 X w w':=by
 obtain⟨R,hR⟩:∃R,c.bind (kq (resE p L res x))=R:=⟨_,rfl⟩
 rw[hR]
 have HR:=Lib.hid hR
 clear hR
 have hXl:=h.lt
 obtain⟨Z,hZ⟩:∃Z,w.heap.size=Z:=⟨_,rfl⟩
 obtain⟨w1,hw1⟩:∃w1,w.alloc (envObj p d L.length)=w1:=⟨_,rfl⟩
 obtain⟨wa,hwa⟩:∃wa,w1.alloc (stObj k nm t x y bd.a body.length bd.c ed.a els.length ed.c)=wa:=⟨_,rfl⟩
 obtain⟨w2,hw2⟩:∃w2,wa.alloc (tyBox res.k res.nm res.n)=w2:=⟨_,rfl⟩
 have hs1:w1.heap.size=Z+1:=by rw[←hw1,World.size_alloc,hZ]
 have hsa:wa.heap.size=Z+1+1:=by rw[←hwa,World.size_alloc,hs1]
 have hb1:Below w.heap.size w w1:=by rw[←hw1];exact (Below.refl _ _).alloc (Nat.le_refl _) _
 have hba:Below w1.heap.size w1 wa:=by rw[←hwa];exact (Below.refl _ _).alloc (Nat.le_refl _) _
 have hb2:Below wa.heap.size wa w2:=by rw[←hw2];exact (Below.refl _ _).alloc (Nat.le_refl _) _
 have hb1a:Below w.heap.size w wa:=hb1.trans (hba.mono hb1.size)
 have hb12:Below w.heap.size w w2:=hb1a.trans (hb2.mono hb1a.size)
 have x1:w2.heap[Z]? =some (envObj p d L.length):=(hb2.block Z (by omega)).trans ((hba.block Z (by omega)).trans (by rw[←hw1,←hZ];exact heap_alloc_new w _))
 have xa:w2.heap[Z+1]? =some (stObj k nm t x y bd.a body.length bd.c ed.a els.length ed.c):=(hb2.block (Z+1) (by omega)).trans (by rw[←hwa,←hs1];exact heap_alloc_new w1 _)
 have x2:w2.heap[Z+1+1]? =some (tyBox res.k res.nm res.n):=by rw[←hw2,←hsa];exact heap_alloc_new wa _
 have HEn:Hid (∀W,Kp5 X w2 W→W.heap[Z]? =some (envObj p d L.length)):=Lib.hid fun W hk=>(hk.block Z (lt_blk x1) (by omega)).trans x1
 have HRow:Hid (∀W,Kp5 X w2 W→W.heap[Z+1]? =some (stObj k nm t x y bd.a body.length bd.c ed.a els.length ed.c)):=Lib.hid fun W hk=>(hk.block (Z+1) (lt_blk xa) (by omega)).trans xa
 have HTr:Hid (∀W,Kp5 X w2 W→W.heap[Z+1+1]? =some (tyBox res.k res.nm res.n)):=Lib.hid fun W hk=>(hk.block (Z+1+1) (lt_blk x2) (by omega)).trans x2
 have HKw:Hid (∀W,Kp5 X w2 W→Kp5 X w W):=Lib.hid fun W hk=>(Kept.of_below hb12).trans hk
 have hBl:B≤w.heap.size:=by omega
 have HP:Hid (∀W,Kp5 X w2 W→PrIn W B p):=Lib.hid fun W hk=>hP.keep (Kept.below ((Kept.of_below hb12).trans hk) hBl (fun q hq=>by rw[hq];exact hBX)) (Nat.le_refl B)
 have HSi:Hid (∀W,Kp5 X w2 W→StIn W B (.mk k nm t x y bd body ed els)):=Lib.hid fun W hk=>hI.keep (Kept.below ((Kept.of_below hb12).trans hk) hBl (fun q hq=>by rw[hq];exact hBX)) (Nat.le_refl B)
 have HLc:Hid (∀W,Kp5 X w2 W→LcIn X W d L):=Lib.hid fun W hk=>hLc.kept ((Kept.of_below hb12).trans hk)
 have HS2:=Lib.hid (h.below hb12)
 have HK2:Hid (Kp5 X w2 w2):=Lib.hid (Kept.refl _ _)
 have HN:Hid (((w.alloc (envObj p d L.length)).alloc (stObj k nm t x y bd.a body.length bd.c ed.a els.length ed.c)).alloc (tyBox res.k res.nm res.n)=w2∧w.heap.size=Z):=Lib.hid ⟨by rw[hw1,hwa,hw2],hZ⟩
 have erow:=HEn.out _ HK2.out
 have q0:=cell_at erow 0
 have q1:=cell_at erow 1
 have q2:=cell_at erow 2
 have q3:=cell_at erow 3
 have q4:=cell_at erow 4
 clear erow
 simp only[sl7,sl8,sl9]at q0 q1 q2 q3 q4
 have row:=HRow.out _ HK2.out
 have r0:=cell_at row 0
 have r1:=cell_at row 1
 have r2:=cell_at row 2
 have r3:=cell_at row 3
 have r4:=cell_at row 4
 have r5:=cell_at row 5
 have r6:=cell_at row 6
 have r7:=cell_at row 7
 have r8:=cell_at row 8
 have r9:=cell_at row 9
 have r10:=cell_at row 10
 have r11:=cell_at row 11
 have r12:=cell_at row 12
 have r13:=cell_at row 13
 have r14:=cell_at row 14
 have r15:=cell_at row 15
 have r16:=cell_at row 16
 have r17:=cell_at row 17
 have r18:=cell_at row 18
 have r19:=cell_at row 19
 have r20:=cell_at row 20
 clear row
 simp only[sl7,sl8,sl9]at r0 r1 r2 r3 r4 r5 r6 r7 r8 r9 r10 r11 r12 r13 r14 r15 r16 r17 r18 r19 r20
 have trow:=HTr.out _ HK2.out
 have t0:=cell_at trow 0
 have t1:=cell_at trow 1
 have t2:=cell_at trow 2
 clear trow
 simp only[sl7,sl8,sl9]at t0 t1 t2
 rw[←hw2,←hwa,←hw1,←hZ]at q0 q1 q2 q3 q4 r0 r1 r2 r3 r4 r5 r6 r7 r8 r9 r10 r11 r12 r13 r14 r15 r16 r17 r18 r19 r20 t0 t1 t2
 have HXZ:Hid (X<Z):=Lib.hid (by omega)
 clear hw1 hw2 hwa hs1 hsa hb1 hba hb2 hb1a hb12 x1 x2 xa hP hLc hI h hZ hBl hXl
 dsimp only[St.val,St.k,St.nm,St.t,St.x,St.y,St.bd,St.body,St.ed,St.els,Ty.val]
 go_enter Tryz.func133,Tryz.ntmps133
 go_wp2_with fail
 simp only[HN.out.1,HN.out.2]
 clear q0 q1 q2 q3 q4 t0 t1 t2
 clear r0 r1 r2 r3 r4 r5 r6 r7 r8 r9 r10 r11 r12 r13 r14 r15 r16 r17 r18 r19 r20
 go_at_call 159
 refine (rnoexpr_any x w2).mono ?_
 rintro e w3 ⟨rfl,hb3⟩
 have HSw3:=Lib.hid (HS2.out.below hb3)
 have HKw3:Hid (Kp5 X w2 w3):=Lib.hid (Kept.of_below hb3)
 clear hb3
 have erow:=HEn.out _ HKw3.out
 have q0:=cell_at erow 0
 have q1:=cell_at erow 1
 have q2:=cell_at erow 2
 have q3:=cell_at erow 3
 have q4:=cell_at erow 4
 clear erow
 simp only[sl7,sl8,sl9]at q0 q1 q2 q3 q4
 have row:=HRow.out _ HKw3.out
 have r0:=cell_at row 0
 have r1:=cell_at row 1
 have r2:=cell_at row 2
 have r3:=cell_at row 3
 have r4:=cell_at row 4
 have r5:=cell_at row 5
 have r6:=cell_at row 6
 have r7:=cell_at row 7
 have r8:=cell_at row 8
 have r9:=cell_at row 9
 have r10:=cell_at row 10
 have r11:=cell_at row 11
 have r12:=cell_at row 12
 have r13:=cell_at row 13
 have r14:=cell_at row 14
 have r15:=cell_at row 15
 have r16:=cell_at row 16
 have r17:=cell_at row 17
 have r18:=cell_at row 18
 have r19:=cell_at row 19
 have r20:=cell_at row 20
 clear row
 simp only[sl7,sl8,sl9]at r0 r1 r2 r3 r4 r5 r6 r7 r8 r9 r10 r11 r12 r13 r14 r15 r16 r17 r18 r19 r20
 have trow:=HTr.out _ HKw3.out
 have t0:=cell_at trow 0
 have t1:=cell_at trow 1
 have t2:=cell_at trow 2
 clear trow
 simp only[sl7,sl8,sl9]at t0 t1 t2
 have HSi3:=Lib.hid ((HSi.out _ HKw3.out).x)
 cases hno:noEx x with
 |true=>
  have HE:Hid (c.bind (kq (orE (res.k==0) 10))=R):=Lib.hid (by
   rw[←HR.out]
   unfold resE
   rw[if_pos hno]
   by_cases hz:res.k=0
   ·rw[if_pos hz];simp[hz,orE]
   ·rw[if_neg hz];simp[hz,orE])
  clear hno
  go_wp2_with fail
  go_at_call 85
  refine (rwant5_any X p _ (res.k==0) 10 w3 HSw3.out).mono ?_
  rintro e wz ⟨rfl,hs,hk⟩
  have HSz:Hid (St5 X p R wz):=Lib.hid (by rw[←HE.out];exact hs)
  have HKz:=Lib.hid (HKw.out _ (HKw3.out.trans hk))
  clear hs hk
  go_wp2_with fail
  first|(go_end0;exact⟨rfl,HSz.out,HKz.out⟩)|(refine bodyPost_ret (results_none rfl _ _ _) rfl ?_;exact⟨rfl,HSz.out,HKz.out⟩)
 |false=>
  have HE:Hid ((c.bind (kq (valE p L x))).bind (kq (orE ((exR p L x).1.fits res) 10))=R):=Lib.hid (by
   rw[←HR.out]
   unfold resE
   rw[if_neg (by rw[hno];decide)]
   exact valG_eq p L (fun v=>v.fits res) x c)
  have hg2:=hg hno
  clear hno
  go_wp2_with fail
  go_at_call 130
  refine (rvalue5_any B X hBX p hp _ d L hL x hg2 w3 HSw3.out (HP.out _ HKw3.out) (HLc.out _ HKw3.out) HSi3.out).mono ?_
  rintro e w9 ⟨rfl,hs,hk⟩
  obtain⟨Yu,hY⟩:∃Y,w9.heap.size=Y:=⟨_,rfl⟩
  obtain⟨u,hu⟩:∃u,w9.alloc (ofObj (exR p L x).1)=u:=⟨_,rfl⟩
  have hb9:Below w9.heap.size w9 u:=by rw[←hu];exact (Below.refl _ _).alloc (Nat.le_refl _) _
  have yu:u.heap[Yu]? =some (ofObj (exR p L x).1):=by rw[←hu,←hY];exact heap_alloc_new w9 _
  have HYu:Hid (∀W,Kp5 X u W→W.heap[Yu]? =some (ofObj (exR p L x).1)):=Lib.hid fun W hk2=>(hk2.block Yu (lt_blk yu) (by have:=hs.lt;omega)).trans yu
  have HSu:=Lib.hid (hs.below hb9)
  have HKu:=Lib.hid ((HKw3.out.trans hk).trans (Kept.of_below hb9))
  have HUu:=Lib.hid (And.intro hu hY)
  clear hs hk hb9 yu hu hY
  clear q0 q1 q2 q3 q4 t0 t1 t2
  clear r0 r1 r2 r3 r4 r5 r6 r7 r8 r9 r10 r11 r12 r13 r14 r15 r16 r17 r18 r19 r20
  have trow:=HTr.out _ HKu.out
  have t0:=cell_at trow 0
  have t1:=cell_at trow 1
  have t2:=cell_at trow 2
  clear trow
  simp only[sl7,sl8,sl9]at t0 t1 t2
  rw[←HUu.out.1]at t0 t1 t2
  go_wp2_with fail
  simp only[HUu.out.1,HUu.out.2]
  clear t0 t1 t2
  go_at_call 131
  refine (rfits_any (exR p L x).1 res u).mono ?_
  rintro e v ⟨rfl,hb⟩
  have HSv:=Lib.hid (HSu.out.below hb)
  have HKv:=Lib.hid (HKu.out.trans (Kept.of_below hb))
  clear hb
  go_wp2_with fail
  go_at_call 85
  refine (rwant5_any X p _ ((exR p L x).1.fits res) 10 v HSv.out).mono ?_
  rintro e wz ⟨rfl,hs,hk⟩
  have HSz:Hid (St5 X p R wz):=Lib.hid (by rw[←HE.out];exact hs)
  have HKz:=Lib.hid (HKw.out _ (HKv.out.trans hk))
  clear hs hk
  go_wp2_with fail
  first|(go_end0;exact⟨rfl,HSz.out,HKz.out⟩)|(refine bodyPost_ret (results_none rfl _ _ _) rfl ?_;exact⟨rfl,HSz.out,HKz.out⟩)
end Go.Proofs.YtkklogikakcanaaGreatDoor
namespace Go.Proofs.YtkklogikakcanaaGreatDoor
open Go Go.RowKit
def locE (p:Pr) (l:Lc) (nm:List UInt8) (t:Ty) (x:Ex):Int:=
 if (fieldOf l nm).isSome∨(shOf p nm).isSome then 8 else if knownT p t=false then 9 else if noEx x then 0 else valG p l (fun v=>v.fits t) x
set_option maxHeartbeats 40000000 in
set_option maxRecDepth 100000 in
theorem rlocal5_any (B X:Nat) (hBX:B≤X) (p:Pr) (hp:PrTy p) (pa:Int) (d:Hd) (L:Lc) (hL:∀f∈L,TyI f.t) (k:Int) (nm:List UInt8) (t:Ty) (x y:Ex) (bd:Hd) (body:List St) (ed:Hd) (els:List St) (hg:noEx x=false→ExGood x)
  (w:World) (h:St5 X p (.on pa) w) (hP:PrIn w B p) (hLc:LcIn X w d L) (hI:StIn w B (.mk k nm t x y bd body ed els)):
  Calls Tryz.prog 129 #[.pointer (some ⟨X,0,none⟩),envV p d L.length,(St.mk k nm t x y bd body ed els).val] w fun en w'=>en=.returned (.tuple #[])∧St5 X p ((Sc.on pa).bind (kq (locE p L nm t x))) w'∧Kp5 X w w':=by
 obtain⟨R,hR⟩:∃R,(Sc.on pa).bind (kq (locE p L nm t x))=R:=⟨_,rfl⟩
 rw[hR]
 obtain⟨o1,ho1⟩:∃o1,fieldOf L nm=o1:=⟨_,rfl⟩
 obtain⟨o2,ho2⟩:∃o2,shOf p nm=o2:=⟨_,rfl⟩
 have HC0:Hid ((((Sc.on pa).bind (kq (orE (!o1.isSome&& !o2.isSome) 8))).bind (kq (orE (knownT p t) 9))).bind (kq (if noEx x then 0 else valG p L (fun v=>v.fits t) x))=R):=Lib.hid (by
  rw[←hR,Sc.bind_bind,Sc.bind_bind]
  refine congrArg (Sc.bind (Sc.on pa)) (funext fun a=>?_)
  unfold locE
  rw[ho1,ho2]
  cases o1.isSome with
  |true=>rfl
  |false=>
   cases o2.isSome with
   |true=>rfl
   |false=>
    cases knownT p t with
    |true=>rfl
    |false=>rfl)
 have HBX:=Lib.hid hBX
 clear hR
 have hXl:=h.lt
 obtain⟨Z,hZ⟩:∃Z,w.heap.size=Z:=⟨_,rfl⟩
 obtain⟨w1,hw1⟩:∃w1,w.alloc (envObj p d L.length)=w1:=⟨_,rfl⟩
 obtain⟨w2,hw2⟩:∃w2,w1.alloc (stObj k nm t x y bd.a body.length bd.c ed.a els.length ed.c)=w2:=⟨_,rfl⟩
 have hs1:w1.heap.size=Z+1:=by rw[←hw1,World.size_alloc,hZ]
 have hb1:Below w.heap.size w w1:=by rw[←hw1];exact (Below.refl _ _).alloc (Nat.le_refl _) _
 have hb2:Below w1.heap.size w1 w2:=by rw[←hw2];exact (Below.refl _ _).alloc (Nat.le_refl _) _
 have hb12:Below w.heap.size w w2:=hb1.trans (hb2.mono hb1.size)
 have x1:w2.heap[Z]? =some (envObj p d L.length):=(hb2.block Z (by omega)).trans (by rw[←hw1,←hZ];exact heap_alloc_new w _)
 have xa:w2.heap[Z+1]? =some (stObj k nm t x y bd.a body.length bd.c ed.a els.length ed.c):=by rw[←hw2,←hs1];exact heap_alloc_new w1 _
 have HEn:Hid (∀W,Kp5 X w2 W→W.heap[Z]? =some (envObj p d L.length)):=Lib.hid fun W hk=>(hk.block Z (lt_blk x1) (by omega)).trans x1
 have HRow:Hid (∀W,Kp5 X w2 W→W.heap[Z+1]? =some (stObj k nm t x y bd.a body.length bd.c ed.a els.length ed.c)):=Lib.hid fun W hk=>(hk.block (Z+1) (lt_blk xa) (by omega)).trans xa
 have HKw:Hid (∀W,Kp5 X w2 W→Kp5 X w W):=Lib.hid fun W hk=>(Kept.of_below hb12).trans hk
 have hBl:B≤w.heap.size:=by omega
 have HP:Hid (∀W,Kp5 X w2 W→PrIn W B p):=Lib.hid fun W hk=>hP.keep (Kept.below ((Kept.of_below hb12).trans hk) hBl (fun q hq=>by rw[hq];exact hBX)) (Nat.le_refl B)
 have HSi:Hid (∀W,Kp5 X w2 W→StIn W B (.mk k nm t x y bd body ed els)):=Lib.hid fun W hk=>hI.keep (Kept.below ((Kept.of_below hb12).trans hk) hBl (fun q hq=>by rw[hq];exact hBX)) (Nat.le_refl B)
 have HLc:Hid (∀W,Kp5 X w2 W→LcIn X W d L):=Lib.hid fun W hk=>hLc.kept ((Kept.of_below hb12).trans hk)
 have HS2:=Lib.hid (h.below hb12)
 have HK2:Hid (Kp5 X w2 w2):=Lib.hid (Kept.refl _ _)
 have HN:Hid ((w.alloc (envObj p d L.length)).alloc (stObj k nm t x y bd.a body.length bd.c ed.a els.length ed.c)=w2∧w.heap.size=Z):=Lib.hid ⟨by rw[hw1,hw2],hZ⟩
 have erow:=HEn.out _ HK2.out
 have q0:=cell_at erow 0
 have q1:=cell_at erow 1
 have q2:=cell_at erow 2
 have q3:=cell_at erow 3
 have q4:=cell_at erow 4
 clear erow
 simp only[sl7,sl8,sl9]at q0 q1 q2 q3 q4
 have row:=HRow.out _ HK2.out
 have r0:=cell_at row 0
 have r1:=cell_at row 1
 have r2:=cell_at row 2
 have r3:=cell_at row 3
 have r4:=cell_at row 4
 have r5:=cell_at row 5
 have r6:=cell_at row 6
 have r7:=cell_at row 7
 have r8:=cell_at row 8
 have r9:=cell_at row 9
 have r10:=cell_at row 10
 have r11:=cell_at row 11
 have r12:=cell_at row 12
 have r13:=cell_at row 13
 have r14:=cell_at row 14
 have r15:=cell_at row 15
 have r16:=cell_at row 16
 have r17:=cell_at row 17
 have r18:=cell_at row 18
 have r19:=cell_at row 19
 have r20:=cell_at row 20
 clear row
 simp only[sl7,sl8,sl9]at r0 r1 r2 r3 r4 r5 r6 r7 r8 r9 r10 r11 r12 r13 r14 r15 r16 r17 r18 r19 r20
 rw[←hw2,←hw1,←hZ]at q0 q1 q2 q3 q4 r0 r1 r2 r3 r4 r5 r6 r7 r8 r9 r10 r11 r12 r13 r14 r15 r16 r17 r18 r19 r20
 have HK2z:Hid True:=Lib.hid trivial
 have HXZ:Hid (X<Z):=Lib.hid (by omega)
 have CF1:=Lib.hid (rfield5_any d L nm w2 (HLc.out _ HK2.out).fls)
 rw[ho1]at CF1
 have CF2:Hid (∀W,Below w2.heap.size w2 W→Calls Tryz.prog 84 #[.slice p.sd.a p.ss.length p.sd.c,.string ⟨nm.toArray⟩] W fun e w'=>e=.returned (.tuple #[(tyO o2).val,.bool o2.isSome])∧Below W.heap.size W w'):=Lib.hid fun W hb=>by
  rw[←ho2]
  exact rfield5_any p.sd p.ss nm W (prIn_any (HP.out W (Kept.of_below hb)) (Nat.le_trans (Nat.le_trans hBX (Nat.le_of_lt HS2.out.lt)) hb.size)).ss
 clear hw1 hw2 hs1 hb1 hb2 hb12 x1 xa hP hLc hI h hZ hBl hXl
 clear ho1 ho2
 dsimp only[St.val,St.k,St.nm,St.t,St.x,St.y,St.bd,St.body,St.ed,St.els,Ty.val]at CF1 CF2 ⊢
 obtain⟨b1,hb1⟩:∃b,o1.isSome=b:=⟨_,rfl⟩
 obtain⟨b2,hb2⟩:∃b,o2.isSome=b:=⟨_,rfl⟩
 rw[hb1]at CF1 HC0
 rw[hb2]at CF2 HC0
 clear hb1 hb2
 have HC:Hid (∀(pl:Int),((Sc.on pa).bind (kq (orE (!b1&& !b2) 8))).bind (kq (orE (knownT p t) 9))=.on pl→(Sc.on pl).bind (kq (if noEx x then 0 else valG p L (fun v=>v.fits t) x))=R):=Lib.hid fun pl hh=>by rw[←HC0.out,hh]
 have HCb:Hid (∀(pl er:Int),((Sc.on pa).bind (kq (orE (!b1&& !b2) 8))).bind (kq (orE (knownT p t) 9))=.bad pl er→.bad pl er=R):=Lib.hid fun pl er hh=>by rw[←HC0.out,hh];rfl
 clear HC0
 cases b1 with
 |true=>
  cases b2 with
  |true=>
   exact q3333_1
  |false=>
   exact q3333_1
 |false=>
  cases b2 with
  |true=>
   exact q3333_1
  |false=>
   go_enter Tryz.func129,Tryz.ntmps129
   go_wp2_with fail
   simp only[HN.out.1,HN.out.2]
   clear q0 q1 q2 q3 q4
   clear r0 r1 r2 r3 r4 r5 r6 r7 r8 r9 r10 r11 r12 r13 r14 r15 r16 r17 r18 r19 r20
   go_at_call 84
   refine CF1.out.mono ?_
   rintro e w3 ⟨rfl,hb3⟩
   obtain⟨u1,hu1⟩:∃u1,w3.alloc (tyBox (tyO o1).k (tyO o1).nm (tyO o1).n)=u1:=⟨_,rfl⟩
   have hbu:Below w2.heap.size w2 u1:=by rw[←hu1];exact hb3.alloc hb3.size _
   have HBu1:=Lib.hid hbu
   have HU1:=Lib.hid hu1
   clear hb3 hbu hu1
   have HLk1:Hid (∀W,Below u1.heap.size u1 W→W.cell? ⟨X,1,none⟩=some (.slice p.sd.a p.ss.length p.sd.c)∧W.cell? ⟨Z+1,1,none⟩=some (.string ⟨nm.toArray⟩)):=Lib.hid fun W hb=>by
    have hb2:=HBu1.out.trans (hb.mono HBu1.out.size)
    obtain⟨pl0,er0,hlk,-⟩:=(HS2.out.below hb2).box
    exact⟨cell_at hlk 1,cell_at (HRow.out W (Kept.of_below hb2)) 1⟩
   go_wp2_with fail
   simp only[HU1.out]
   refine wp_region_L (l:=13) (S:=(Below u1.heap.size u1)) (by kernel_rfl) ?_ (fun hHeld=>?_)
   ·((try dsimp only);(exact (Below.refl _ _).drew))
   refine tk 0 ?_
   try simp only[sl1,sl2,sl3,Act.put,sl4,sl5,sl6]
   refine tk 1 ?_
   try simp only[sl1,sl2,sl3,Act.put,sl4,sl5,sl6]
   refine tk 2 ?_
   try simp only[sl1,sl2,sl3,Act.put,sl4,sl5,sl6]
   refine tk 3 ?_
   try simp only[sl1,sl2,sl3,Act.put,sl4,sl5,sl6]
   refine tk 4 ?_ (h2:=by(intro W hSw;obtain⟨p0,p1⟩:=HLk1.out W hSw;clear hSw;go_simp;all_goals with_reducible rfl))
   try simp only[sl1,sl2,sl3,Act.put,sl4,sl5,sl6]
   refine tk 5 ?_
   try simp only[sl1,sl2,sl3,Act.put,sl4,sl5,sl6]
   refine tk 6 ?_ (h2:=by(intro W hSw;obtain⟨p0,p1⟩:=HLk1.out W hSw;clear hSw;go_simp;all_goals with_reducible rfl))
   try simp only[sl1,sl2,sl3,Act.put,sl4,sl5,sl6]
   refine wpAnyL_two (i:=7) (j:=11) (by kernel_rfl) rfl rfl (fun K hK=>?_) (fun K hK=>?_)
   ·go_simp
    go_at_call 84
    refine (CF2.out u1.drew HBu1.out.drew).mono ?_
    rintro e w5 ⟨rfl,hb⟩
    have HB5:Hid (Below u1.heap.size u1 w5):=Lib.hid ((Below.refl _ _).drew.trans hb)
    clear hb
    refine hK _ _ HB5.out (fun hHeld=>?_)
    clear hK K
    (try simp only[sl1,sl2,sl3,Act.put,sl4,sl5,sl6])
    refine tk 8 ?_
    try simp only[sl1,sl2,sl3,Act.put,sl4,sl5,sl6]
    refine tk 9 ?_
    try simp only[sl1,sl2,sl3,Act.put,sl4,sl5,sl6]
    refine tk 10 ?_
    try simp only[sl1,sl2,sl3,Act.put,sl4,sl5,sl6]
    refine wpAnyL_step (j:=11) (o:=_) (by kernel_rfl) rfl (fun K hK=>?_)
    go_simp
    refine hK _ _ ?_ (fun hHeld=>?_)
    ·((try dsimp only);(exact HB5.out.alloc HB5.out.size _))
    clear hK K
    try simp only[sl1,sl2,sl3,Act.put,sl4,sl5,sl6]
    refine wpAnyL_step (j:=12) (o:=_) (by kernel_rfl) rfl (fun K hK=>?_)
    go_simp
    refine hK _ _ ?_ (fun hHeld=>?_)
    ·((try dsimp only);(exact HB5.out.alloc HB5.out.size _))
    clear hK K
    try simp only[sl1,sl2,sl3,Act.put,sl4,sl5,sl6]
    refine wpAnyL_last (j:=13) (o:=_) (by kernel_rfl) rfl (by rfl) (by kernel_rfl) (fun K hK=>?_)
    go_simp
    (refine hK _ _ ?_;clear hK K)
    try simp only[sl1,sl2,sl3,Act.put,sl4,sl5,sl6]
    obtain⟨v,hv⟩:∃v,w5.alloc (tyBox (tyO o2).k (tyO o2).nm (tyO o2).n)=v:=⟨_,rfl⟩
    have HBv:Hid (Below w2.heap.size w2 v):=Lib.hid (by rw[←hv];have h:=HBu1.out.trans (HB5.out.mono HBu1.out.size);exact h.alloc h.size _)
    have HSv:=Lib.hid (HS2.out.below HBv.out)
    have HKv:Hid (Kp5 X w2 v):=Lib.hid (Kept.of_below HBv.out)
    simp only[hv]
    clear hv
    exact q3333_2
   ·go_simp
    have HBa:Hid (Below u1.heap.size u1 ((u1.drew).alloc (tyBox 0 [] 0))):=Lib.hid (((Below.refl u1.heap.size u1).drew).alloc (Nat.le_refl _) _)
    refine hK _ _ HBa.out (fun hHeld=>?_)
    clear hK K
    (try simp only[sl1,sl2,sl3,Act.put,sl4,sl5,sl6])
    refine wpAnyL_step (j:=7) (o:=_) (by kernel_rfl) rfl (fun K hK=>?_)
    (go_simp;go_at_call 84;refine (CF2.out _ (HBu1.out.trans (HBa.out.mono HBu1.out.size))).mono ?_;rintro e w5 ⟨rfl,hb⟩;have HB5:Hid (Below u1.heap.size u1 w5):=Lib.hid (HBa.out.trans (hb.mono HBa.out.size));have z5:=(hb.block _ (lt_blk (heap_alloc_new u1.drew (tyBox 0 [] 0)))).trans (heap_alloc_new u1.drew (tyBox 0 [] 0));have HZ5:Hid (w5.heap[u1.heap.size]? =some (tyBox 0 [] 0)):=Lib.hid z5;clear hb z5;have c0:=cell_at HZ5.out 0;have c1:=cell_at HZ5.out 1;have c2:=cell_at HZ5.out 2;have f0:=frz_at HZ5.out 0;have f1:=frz_at HZ5.out 1;have f2:=frz_at HZ5.out 2;simp only[sl7,sl8,sl9]at c0 c1 c2)
    refine hK _ _ ?_ (fun hHeld=>?_)
    ·((try dsimp only);(exact HB5.out))
    clear hK K
    try simp only[sl1,sl2,sl3,Act.put,sl4,sl5,sl6]
    refine tk 8 ?_
    try simp only[sl1,sl2,sl3,Act.put,sl4,sl5,sl6]
    refine tk 9 ?_
    try simp only[sl1,sl2,sl3,Act.put,sl4,sl5,sl6]
    refine tk 10 ?_
    try simp only[sl1,sl2,sl3,Act.put,sl4,sl5,sl6]
    refine wpAnyL_step (j:=12) (o:=_) (by kernel_rfl) rfl (fun K hK=>?_)
    go_simp
    refine hK _ _ ?_ (fun hHeld=>?_)
    ·((try dsimp only);(exact (((HB5.out.setCell (p:=⟨u1.heap.size,0,none⟩) (Nat.le_refl _) _).setCell (p:=⟨u1.heap.size,1,none⟩) (Nat.le_refl _) _).setCell (p:=⟨u1.heap.size,2,none⟩) (Nat.le_refl _) _)))
    clear hK K
    try simp only[sl1,sl2,sl3,Act.put,sl4,sl5,sl6]
    refine wpAnyL_last (j:=13) (o:=_) (by kernel_rfl) rfl (by rfl) (by kernel_rfl) (fun K hK=>?_)
    go_simp
    (refine hK _ _ ?_;clear hK K)
    try simp only[sl1,sl2,sl3,Act.put,sl4,sl5,sl6]
    obtain⟨v,hv⟩:∃v,((w5.setCell ⟨u1.heap.size,0,none⟩ (.int .u8 (tyO o2).k)).setCell ⟨u1.heap.size,1,none⟩ (.string ⟨(tyO o2).nm.toArray⟩)).setCell ⟨u1.heap.size,2,none⟩ (.int .i64 (tyO o2).n)=v:=⟨_,rfl⟩
    have HBv:Hid (Below w2.heap.size w2 v):=Lib.hid (by rw[←hv];exact HBu1.out.trans (Below.mono (((HB5.out.setCell (p:=⟨u1.heap.size,0,none⟩) (Nat.le_refl _) _).setCell (p:=⟨u1.heap.size,1,none⟩) (Nat.le_refl _) _).setCell (p:=⟨u1.heap.size,2,none⟩) (Nat.le_refl _) _) HBu1.out.size))
    have HSv:=Lib.hid (HS2.out.below HBv.out)
    have HKv:Hid (Kp5 X w2 v):=Lib.hid (Kept.of_below HBv.out)
    simp only[hv]
    clear hv c0 c1 c2 f0 f1 f2
    exact q3333_2
end Go.Proofs.YtkklogikakcanaaGreatDoor
