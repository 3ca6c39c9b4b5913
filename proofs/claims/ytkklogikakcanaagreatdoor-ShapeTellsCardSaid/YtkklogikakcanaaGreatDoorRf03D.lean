import Derived.Test.YtkklogikakcanaaGreatDoorRf03A
set_option linter.unusedVariables false
set_option linter.unusedSimpArgs false
open List renaming getElem?_toArray → sl7, getElem?_cons_zero → sl8, getElem?_cons_succ → sl9
namespace Go.Proofs.YtkklogikakcanaaGreatDoor
open Go Go.RowKit
theorem qsaqx_7 {P:Prop} (h:P:=by
 rintro e w8 ⟨rfl,hs8,hk8⟩
 have HS8:=Lib.hid hs8
 have HK8:=Lib.hid (HK7.out.trans hk8)
 clear hs8 hk8 HS7 HK7
 clear z0 z1 q0 q1 q2 q3
 have row:=HRow.out _ HK8.out
 have q0:=cell_at row 0
 have q1:=cell_at row 1
 have q2:=cell_at row 2
 have q3:=cell_at row 3
 clear row
 simp only[sl7,sl8,sl9]at q0 q1 q2 q3
 obtain⟨⟨z0,z1⟩,hri⟩:=HRw.out _ HK8.out
 replace q0:=HQ0.out _ HK8.out
 have CL:=Lib.hid (rfields3_any B X hBX _ _ y.d y.fs w8 HS8.out hri.fs)
 clear hri
 go_wp2_with fail
 go_at_call 124
 refine CL.out.mono ?_
 rintro e w9 ⟨rfl,hs9,hk9⟩
 have HS9:=Lib.hid hs9
 have HK9:=Lib.hid (HK8.out.trans hk9)
 clear hs9 hk9 z0 z1 q0 q1 q2 q3 CL HS8 HK8
 go_wp2_with fail
 go_roundw
 case rel=>exact⟨j+1,_,by go_num,by omega,HS9,HJ9,HK9,HC1⟩
 case measure=>simp[intOf];omega):P:=h
theorem qsaqx_6 {P:Prop} (h:P:=by
 go_wp2_with (go_at_call 159;with_reducible refine (CX.out _).mono ?_;rintro e n ⟨rfl,hbn⟩;have HSn:=Lib.hid (HSv.out.below hbn);have HKn:=Lib.hid (HKv.out.trans (Kept.of_below hbn));clear hbn;clear r0 r1 r2 r3 r4 r5 r6 r7 r8 r9 r10 r11 r12 r13 r14 r15 r16 r17 r18 r19 r20 c2;have row:=HRow.out _ HKn.out;have r0:=cell_at row 0;have r1:=cell_at row 1;have r2:=cell_at row 2;have r3:=cell_at row 3;have r4:=cell_at row 4;have r5:=cell_at row 5;have r6:=cell_at row 6;have r7:=cell_at row 7;have r8:=cell_at row 8;have r9:=cell_at row 9;have r10:=cell_at row 10;have r11:=cell_at row 11;have r12:=cell_at row 12;have r13:=cell_at row 13;have r14:=cell_at row 14;have r15:=cell_at row 15;have r16:=cell_at row 16;have r17:=cell_at row 17;have r18:=cell_at row 18;have r19:=cell_at row 19;have r20:=cell_at row 20;clear row;simp only[sl7,sl8,sl9]at r0 r1 r2 r3 r4 r5 r6 r7 r8 r9 r10 r11 r12 r13 r14 r15 r16 r17 r18 r19 r20;have c2:=St3.c2 HSn.out)
 go_wp2_with fail
 go_at_call 127
 refine (HCB.out n _ HSn.out HKn.out (fun _ _=>by have:=H16.out;omega)).mono ?_
 rintro e wb ⟨rfl,hsb,hkb⟩
 have HSb:=Lib.hid hsb
 have HKb:=Lib.hid (HKn.out.trans hkb)
 clear hsb hkb
 clear r0 r1 r2 r3 r4 r5 r6 r7 r8 r9 r10 r11 r12 r13 r14 r15 r16 r17 r18 r19 r20
 have row:=HRow.out _ HKb.out
 have r0:=cell_at row 0
 have r1:=cell_at row 1
 have r2:=cell_at row 2
 have r3:=cell_at row 3
 have r4:=cell_at row 4
 have r5:=cell_at row 5
 have r6:=cell_at row 6
 have r7:=cell_at row 7
 have r8:=cell_at row 8
 have r9:=cell_at row 9
 have r10:=cell_at row 10
 have r11:=cell_at row 11
 have r12:=cell_at row 12
 have r13:=cell_at row 13
 have r14:=cell_at row 14
 have r15:=cell_at row 15
 have r16:=cell_at row 16
 have r17:=cell_at row 17
 have r18:=cell_at row 18
 have r19:=cell_at row 19
 have r20:=cell_at row 20
 clear row
 simp only[sl7,sl8,sl9]at r0 r1 r2 r3 r4 r5 r6 r7 r8 r9 r10 r11 r12 r13 r14 r15 r16 r17 r18 r19 r20
 go_wp2_with fail
 go_at_call 127
 refine (HCE.out wb _ HSb.out HKb.out (fun a2 h2=>by obtain⟨a3,h3⟩:=bind_on_inv h2;exact (fun _ _=>by have:=H16.out;omega) a3 h3)).mono ?_
 rintro e wc ⟨rfl,hsc,hkc⟩
 have HSc:Hid (St3 X b R wc):=Lib.hid (by rw[←HCn.out];exact hsc)
 have HKc:=Lib.hid (HKw.out _ (HKb.out.trans hkc))
 clear hsc hkc
 go_wp2_with fail
 go_end0
 exact⟨rfl,HSc.out,HKc.out⟩):P:=h
theorem qsaqx_5 {P:Prop} (h:P:=by
 go_wp2_with fail
 go_at_call 127
 refine (HCB.out vx _ HSvx.out HKvx.out (fun _ _=>by have:=H16.out;omega)).mono ?_
 rintro e wb ⟨rfl,hsb,hkb⟩
 have HSb:=Lib.hid hsb
 have HKb:=Lib.hid (HKvx.out.trans hkb)
 clear hsb hkb
 clear r0 r1 r2 r3 r4 r5 r6 r7 r8 r9 r10 r11 r12 r13 r14 r15 r16 r17 r18 r19 r20
 have row:=HRow.out _ HKb.out
 have r0:=cell_at row 0
 have r1:=cell_at row 1
 have r2:=cell_at row 2
 have r3:=cell_at row 3
 have r4:=cell_at row 4
 have r5:=cell_at row 5
 have r6:=cell_at row 6
 have r7:=cell_at row 7
 have r8:=cell_at row 8
 have r9:=cell_at row 9
 have r10:=cell_at row 10
 have r11:=cell_at row 11
 have r12:=cell_at row 12
 have r13:=cell_at row 13
 have r14:=cell_at row 14
 have r15:=cell_at row 15
 have r16:=cell_at row 16
 have r17:=cell_at row 17
 have r18:=cell_at row 18
 have r19:=cell_at row 19
 have r20:=cell_at row 20
 clear row
 simp only[sl7,sl8,sl9]at r0 r1 r2 r3 r4 r5 r6 r7 r8 r9 r10 r11 r12 r13 r14 r15 r16 r17 r18 r19 r20
 go_wp2_with fail
 go_at_call 127
 refine (HCE.out wb _ HSb.out HKb.out (fun a2 h2=>by obtain⟨a3,h3⟩:=bind_on_inv h2;exact (fun _ _=>by have:=H16.out;omega) a3 h3)).mono ?_
 rintro e wc ⟨rfl,hsc,hkc⟩
 have HSc:Hid (St3 X b R wc):=Lib.hid (by rw[←HCvx.out];exact hsc)
 have HKc:=Lib.hid (HKw.out _ (HKb.out.trans hkc))
 clear hsc hkc
 go_wp2_with fail
 go_end0
 exact⟨rfl,HSc.out,HKc.out⟩):P:=h
theorem qsaqx_4 {P:Prop} (h:P:=by
 go_wp2_with fail
 clear q0 q1 q2 q3
 go_loopw [5] (fun ii wr=>∃(j:Nat) (cj:Chk),ii=.int .i64 j∧j≤pr.ss.length∧Hid (St3 X (16+(j:Int)) cj wr)∧Hid (∀a,cj=.on a→j≤1024)∧Hid (Kp3 X w1 wr)∧Hid (cj.bind (chkShs j (pr.ss.drop j))=R2)) (fun ii _=>pr.ss.length - (intOf ii).toNat)
 case atStart=>exact⟨0,_,rfl,Nat.zero_le _,Lib.hid (HZ.out.mono fun _ _=>by omega),Lib.hid fun _ _=>Nat.zero_le _,hK,Lib.hid (by rw[List.drop_zero];exact HR2.out)⟩
 case round=>
  clear HZ hK
  obtain⟨j,cj,rfl,hj,hS,hJ,hK,hC⟩:=hrel
  have p2:(0:Int)≤(j:Int):=Int.natCast_nonneg _
  have p3:pr.ss.length≤140737488355328:=hl2
  have row:=HRow.out _ hK.out
  have q0:=cell_at row 0
  have q1:=cell_at row 1
  have q2:=cell_at row 2
  have q3:=cell_at row 3
  clear row
  simp only[sl7,sl8,sl9]at q0 q1 q2 q3
  obtain⟨it,p,er,hr,hc⟩:=hS.out.box
  obtain⟨-,c1,c2⟩:=hr.cells
  obtain⟨-,f1,-⟩:=hr.frz
  by_cases hlt:j<pr.ss.length
  ·have p1:(j:Int)<(pr.ss.length:Int):=by omega
   rcases hc with ⟨a,rfl,rfl,rfl,rfl⟩|⟨q,rfl,rfl,hne⟩
   ·obtain⟨y,hy⟩:∃y,pr.ss[j]? =some y:=⟨_,List.getElem?_eq_getElem hlt⟩
    have hdrop:pr.ss.drop j=y::pr.ss.drop (j+1):=by
     have:=List.drop_eq_getElem_cons hlt
     rw[List.getElem?_eq_getElem hlt]at hy
     injection hy with hy
     rw[this,hy]
    have hmem:=List.mem_of_getElem? hy
    obtain⟨rb,ro,hda,hrb,-⟩:=(HI.out _ hK.out).ss.row (by intro h0;rw[h0]at hlt;simp at hlt)
    have HRw:Hid (∀W,Kp3 X w1 W→FlAt W rb (ro+j*4) y):=Lib.hid fun W hk=>by
     obtain⟨rb2,ro2,hda2,-,hrow2⟩:=(HI.out _ hk).ss.row (by intro h0;rw[h0]at hlt;simp at hlt)
     rw[hda]at hda2
     injection hda2 with hda2
     injection hda2 with e1 e2 e3
     subst e1 e2
     exact hrow2 j y hy
    have HFo:=Lib.hid ((HI.out _ hK.out).ss.sub y hmem)
    have HC1:Hid ((((((Chk.on ⟨a.p+1,a.it⟩).bind (ck (limE j 1024))).bind (ck (orE (nameB y.nm) 1))).bind (ck (tyForm y.t))).bind (chkShs (j+1) (pr.ss.drop (j+1))))=R2):=Lib.hid (by
     have h:=hC.out
     rw[hdrop,Chk.bind_on,chkShs_c]at h
     exact h)
    have HQ1:Hid (∀W,Kp3 X w1 W→W.cell? ⟨Y,1,none⟩=some (.slice (some ⟨rb,ro,none⟩) pr.ss.length pr.sd.c)):=Lib.hid fun W hk=>by rw[←hda];exact cell_at (HRow.out _ hk) 1
    clear hda
    obtain⟨-,hit,hq1,hq2⟩:=hS.out
    have hj16:=hJ.out a rfl
    have e1:IntKind.i64.wrap (a.p+1)=a.p+1:=by rw[IntKind.wrap_i64];omega
    obtain⟨w6,hw6⟩:∃w6,wr.setCell ⟨X,1,none⟩ (.int .i64 (a.p+1))=w6:=⟨_,rfl⟩
    have HK6:Hid (Kp3 X w1 w6):=Lib.hid (by rw[←hw6];exact Kp3.set hK.out 1 _)
    have HS6:Hid (St3 X (16+((j+1:Nat):Int)) (.on ⟨a.p+1,a.it⟩) w6):=Lib.hid (by rw[←hw6];exact⟨hr.set1 _,hit,by dsimp only;omega,by dsimp only;push_cast;omega⟩)
    have HW6:=Lib.hid hw6
    clear hr hS hit hq1 hq2 hK hw6
    clear hdrop hy hmem hC
    go_wp2_with fail
    simp only[HW6.out]
    go_wp2_with fail
    go_at_call 122
    refine (rlimit_any X _ _ (decide ((j:Int)<1024)) w6 HS6.out).mono ?_
    rintro e w7 ⟨rfl,hs7,hk7⟩
    have HS7:=Lib.hid hs7
    have HK7:=Lib.hid (HK6.out.trans hk7)
    clear hs7 hk7 HS6 HK6
    clear f1 c1 c2
    have HJ9:Hid (∀a',((((Chk.on ⟨a.p+1,a.it⟩).bind (ck (limE j 1024))).bind (ck (orE (nameB y.nm) 1))).bind (ck (tyForm y.t)))=.on a'→j+1≤1024):=Lib.hid fun a' h=>by
     obtain⟨a0,h⟩:=bind_on_inv h
     obtain⟨a0,h⟩:=bind_on_inv h
     exact limE_on h
    clear q0 q1 q2 q3
    obtain⟨z0,z1,z2,z3⟩:=HRw.out _ HK7.out
    have row:=HRow.out _ HK7.out
    have q0:=cell_at row 0
    have q1:=cell_at row 1
    have q2:=cell_at row 2
    have q3:=cell_at row 3
    clear row
    simp only[sl7,sl8,sl9]at q0 q1 q2 q3
    replace q1:=HQ1.out _ HK7.out
    go_wp2_with fail
    go_at_call 157
    refine (rfield3_any X _ _ y HFo.out w7 HS7.out).mono ?_
    rintro e w9 ⟨rfl,hs9,hk9⟩
    have HS9:=Lib.hid hs9
    have HK9:=Lib.hid (HK7.out.trans hk9)
    clear hs9 hk9 z0 z1 z2 z3 q0 q1 q2 q3 HS7 HK7
    go_wp2_with fail
    go_roundw
    case rel=>exact⟨j+1,_,by go_num,by omega,HS9,HJ9,HK9,HC1⟩
    case measure=>simp[intOf];omega
   ·have t1:(er==0)=false:=by simpa using hne
    have HZ:Hid (St3 X 2000 R2 wr):=Lib.hid (by have h:=hC.out;rw[Chk.bind_bad]at h;rw[←h];exact hS.out)
    have HKz:=Lib.hid (HKw.out _ hK.out)
    clear hne hC hS hr c1 f1 hJ
    go_wp2_with fail
    go_end0
    exact⟨rfl,HZ.out,HKz.out⟩
  ·obtain rfl:j=pr.ss.length:=by omega
   have HZ:Hid (St3 X 2000 R2 wr):=Lib.hid (by
    have h:=hC.out
    rw[List.drop_length]at h
    have h2:cj=R2:=by rw[←h];cases cj with|on a=>rw[Chk.bind_on,chkShs]|bad p e=>rfl
    rw[←h2]
    exact hS.out.mono fun a ha=>by have:=hJ.out a ha;omega)
   have HKz:=Lib.hid (HKw.out _ hK.out)
   clear hC hS hc c1 c2 hr f1 hJ
   go_wp2_with fail
   go_end0
   exact⟨rfl,HZ.out,HKz.out⟩):P:=h
theorem qsaqx_3 {P:Prop} (h:P:=by
 have CX:=Lib.hid (fun W=>rnoexpr_any x W)
 rw[hnx]at CX
 have HCnx:Hid (((exC x 1 a1).bind (chkSts body (deep+1))).bind (chkSts els (deep+1))=R):=Lib.hid (by
  rw[←HCv.out,Chk.bind_on,fX_some (by decide) (fun hh=>by rw[hnx]at hh;cases hh.2),fY_not (by decide),Chk.bind_id])
 go_wp2_with (go_at_call 159;with_reducible refine (CX.out _).mono ?_;rintro e n ⟨rfl,hbn⟩;have HSn:=Lib.hid (HSv.out.below hbn);have HKn:=Lib.hid (HKv.out.trans (Kept.of_below hbn));clear hbn;clear r0 r1 r2 r3 r4 r5 r6 r7 r8 r9 r10 r11 r12 r13 r14 r15 r16 r17 r18 r19 r20 c2;have row:=HRow.out _ HKn.out;have r0:=cell_at row 0;have r1:=cell_at row 1;have r2:=cell_at row 2;have r3:=cell_at row 3;have r4:=cell_at row 4;have r5:=cell_at row 5;have r6:=cell_at row 6;have r7:=cell_at row 7;have r8:=cell_at row 8;have r9:=cell_at row 9;have r10:=cell_at row 10;have r11:=cell_at row 11;have r12:=cell_at row 12;have r13:=cell_at row 13;have r14:=cell_at row 14;have r15:=cell_at row 15;have r16:=cell_at row 16;have r17:=cell_at row 17;have r18:=cell_at row 18;have r19:=cell_at row 19;have r20:=cell_at row 20;clear row;simp only[sl7,sl8,sl9]at r0 r1 r2 r3 r4 r5 r6 r7 r8 r9 r10 r11 r12 r13 r14 r15 r16 r17 r18 r19 r20;have c2:=St3.c2 HSn.out)
 go_wp2_with fail
 go_at_call 176
 refine (rexpr3_any B X hBX b _ x (Nat.le_refl _) 1 a1 n HSn.out (HIx.out.keep (HBl.out _ (HKw.out _ HKn.out)) (Nat.le_refl B)) (by decide)).mono ?_
 rintro e nx ⟨rfl,hs,hk⟩
 have HSnx:=Lib.hid hs
 have HKnx:=Lib.hid (HKn.out.trans hk)
 clear hs hk
 clear r0 r1 r2 r3 r4 r5 r6 r7 r8 r9 r10 r11 r12 r13 r14 r15 r16 r17 r18 r19 r20
 have row:=HRow.out _ HKnx.out
 have r0:=cell_at row 0
 have r1:=cell_at row 1
 have r2:=cell_at row 2
 have r3:=cell_at row 3
 have r4:=cell_at row 4
 have r5:=cell_at row 5
 have r6:=cell_at row 6
 have r7:=cell_at row 7
 have r8:=cell_at row 8
 have r9:=cell_at row 9
 have r10:=cell_at row 10
 have r11:=cell_at row 11
 have r12:=cell_at row 12
 have r13:=cell_at row 13
 have r14:=cell_at row 14
 have r15:=cell_at row 15
 have r16:=cell_at row 16
 have r17:=cell_at row 17
 have r18:=cell_at row 18
 have r19:=cell_at row 19
 have r20:=cell_at row 20
 clear row
 simp only[sl7,sl8,sl9]at r0 r1 r2 r3 r4 r5 r6 r7 r8 r9 r10 r11 r12 r13 r14 r15 r16 r17 r18 r19 r20
 obtain⟨it3,p3,er3,hr3,hc3⟩:=HSnx.out.box
 obtain⟨-,-,c2⟩:=hr3.cells
 clear hr3
 clear hc3
 cases hz:(er3==0) with
 |true=>
  go_wp2_with fail
  go_at_call 127
  refine (HCB.out nx _ HSnx.out HKnx.out (fun _ _=>by have:=H16.out;omega)).mono ?_
  rintro e wb ⟨rfl,hsb,hkb⟩
  have HSb:=Lib.hid hsb
  have HKb:=Lib.hid (HKnx.out.trans hkb)
  clear hsb hkb
  clear r0 r1 r2 r3 r4 r5 r6 r7 r8 r9 r10 r11 r12 r13 r14 r15 r16 r17 r18 r19 r20
  have row:=HRow.out _ HKb.out
  have r0:=cell_at row 0
  have r1:=cell_at row 1
  have r2:=cell_at row 2
  have r3:=cell_at row 3
  have r4:=cell_at row 4
  have r5:=cell_at row 5
  have r6:=cell_at row 6
  have r7:=cell_at row 7
  have r8:=cell_at row 8
  have r9:=cell_at row 9
  have r10:=cell_at row 10
  have r11:=cell_at row 11
  have r12:=cell_at row 12
  have r13:=cell_at row 13
  have r14:=cell_at row 14
  have r15:=cell_at row 15
  have r16:=cell_at row 16
  have r17:=cell_at row 17
  have r18:=cell_at row 18
  have r19:=cell_at row 19
  have r20:=cell_at row 20
  clear row
  simp only[sl7,sl8,sl9]at r0 r1 r2 r3 r4 r5 r6 r7 r8 r9 r10 r11 r12 r13 r14 r15 r16 r17 r18 r19 r20
  go_wp2_with fail
  go_at_call 127
  refine (HCE.out wb _ HSb.out HKb.out (fun a2 h2=>by obtain⟨a3,h3⟩:=bind_on_inv h2;exact (fun _ _=>by have:=H16.out;omega) a3 h3)).mono ?_
  rintro e wc ⟨rfl,hsc,hkc⟩
  have HSc:Hid (St3 X b R wc):=Lib.hid (by rw[←HCnx.out];exact hsc)
  have HKc:=Lib.hid (HKw.out _ (HKb.out.trans hkc))
  clear hsc hkc
  go_wp2_with fail
  go_end0
  exact⟨rfl,HSc.out,HKc.out⟩
 |false=>
  go_wp2_with fail
  go_at_call 127
  refine (HCB.out nx _ HSnx.out HKnx.out (fun _ _=>by have:=H16.out;omega)).mono ?_
  rintro e wb ⟨rfl,hsb,hkb⟩
  have HSb:=Lib.hid hsb
  have HKb:=Lib.hid (HKnx.out.trans hkb)
  clear hsb hkb
  clear r0 r1 r2 r3 r4 r5 r6 r7 r8 r9 r10 r11 r12 r13 r14 r15 r16 r17 r18 r19 r20
  have row:=HRow.out _ HKb.out
  have r0:=cell_at row 0
  have r1:=cell_at row 1
  have r2:=cell_at row 2
  have r3:=cell_at row 3
  have r4:=cell_at row 4
  have r5:=cell_at row 5
  have r6:=cell_at row 6
  have r7:=cell_at row 7
  have r8:=cell_at row 8
  have r9:=cell_at row 9
  have r10:=cell_at row 10
  have r11:=cell_at row 11
  have r12:=cell_at row 12
  have r13:=cell_at row 13
  have r14:=cell_at row 14
  have r15:=cell_at row 15
  have r16:=cell_at row 16
  have r17:=cell_at row 17
  have r18:=cell_at row 18
  have r19:=cell_at row 19
  have r20:=cell_at row 20
  clear row
  simp only[sl7,sl8,sl9]at r0 r1 r2 r3 r4 r5 r6 r7 r8 r9 r10 r11 r12 r13 r14 r15 r16 r17 r18 r19 r20
  go_wp2_with fail
  go_at_call 127
  refine (HCE.out wb _ HSb.out HKb.out (fun a2 h2=>by obtain⟨a3,h3⟩:=bind_on_inv h2;exact (fun _ _=>by have:=H16.out;omega) a3 h3)).mono ?_
  rintro e wc ⟨rfl,hsc,hkc⟩
  have HSc:Hid (St3 X b R wc):=Lib.hid (by rw[←HCnx.out];exact hsc)
  have HKc:=Lib.hid (HKw.out _ (HKb.out.trans hkc))
  clear hsc hkc
  go_wp2_with fail
  go_end0
  exact⟨rfl,HSc.out,HKc.out⟩):P:=h
theorem qsaqx_2 {P:Prop} (h:P:=by
 go_wp2_with fail
 clear q0 q1 q2 q3
 go_loopw [7] (fun ii wr=>∃(j:Nat) (cj:Chk),ii=.int .i64 j∧j≤pr.ts.length∧Hid (St3 X (3000+(j:Int)) cj wr)∧Hid (∀a,cj=.on a→j≤4)∧Hid (Kp3 X w2 wr)∧Hid (cj.bind (chkThs j (pr.ts.drop j))=R4)) (fun ii _=>pr.ts.length - (intOf ii).toNat)
 case atStart=>exact⟨0,_,rfl,Nat.zero_le _,Lib.hid (HZ.out.mono fun _ _=>by omega),Lib.hid fun _ _=>Nat.zero_le _,hK,Lib.hid (by rw[List.drop_zero];exact HR4.out)⟩
 case round=>
  clear HZ hK
  obtain⟨j,cj,rfl,hj,hS,hJ,hK,hC⟩:=hrel
  have p2:(0:Int)≤(j:Int):=Int.natCast_nonneg _
  have p3:pr.ts.length≤140737488355328:=hl4
  have row:=HRow.out _ hK.out
  have q0:=cell_at row 0
  have q1:=cell_at row 1
  have q2:=cell_at row 2
  have q3:=cell_at row 3
  clear row
  simp only[sl7,sl8,sl9]at q0 q1 q2 q3
  obtain⟨it,p,er,hr,hc⟩:=hS.out.box
  obtain⟨-,c1,c2⟩:=hr.cells
  obtain⟨-,f1,-⟩:=hr.frz
  by_cases hlt:j<pr.ts.length
  ·have p1:(j:Int)<(pr.ts.length:Int):=by omega
   rcases hc with ⟨a,rfl,rfl,rfl,rfl⟩|⟨q,rfl,rfl,hne⟩
   ·obtain⟨y,hy⟩:∃y,pr.ts[j]? =some y:=⟨_,List.getElem?_eq_getElem hlt⟩
    have hdrop:pr.ts.drop j=y::pr.ts.drop (j+1):=by
     have:=List.drop_eq_getElem_cons hlt
     rw[List.getElem?_eq_getElem hlt]at hy
     injection hy with hy
     rw[this,hy]
    have hmem:=List.mem_of_getElem? hy
    obtain⟨rb,ro,hda,hrb,-⟩:=(HI.out _ hK.out).trow (by intro h0;rw[h0]at hlt;simp at hlt)
    have HRw:Hid (∀W,Kp3 X w2 W→ThAt W rb (ro+j*1) y∧StsIn W B y.d y.l∧W.cell? ⟨B,3,none⟩=some (.slice (some ⟨rb,ro,none⟩) pr.ts.length pr.td.c)):=Lib.hid fun W hk=>by
     obtain⟨rb2,ro2,hda2,-,hrow2⟩:=(HI.out _ hk).trow (by intro h0;rw[h0]at hlt;simp at hlt)
     rw[hda]at hda2
     injection hda2 with hda2
     injection hda2 with e1 e2 e3
     subst e1 e2
     exact⟨hrow2 j y hy,(HI.out _ hk).tsub y hmem,by rw[←hda];exact cell_at (HRow.out _ hk) 3⟩
    have HC1:Hid ((((Chk.on ⟨a.p+1,a.it⟩).bind (ck (limE j 4))).bind (chkSts y.l 1)).bind (chkThs (j+1) (pr.ts.drop (j+1)))=R4):=Lib.hid (by
     have h:=hC.out
     rw[hdrop,Chk.bind_on,chkThs_c]at h
     exact h)
    have HJ9:Hid (∀a',((Chk.on ⟨a.p+1,a.it⟩).bind (ck (limE j 4))).bind (chkSts y.l 1)=.on a'→j+1≤4):=Lib.hid fun a' h=>by
     obtain⟨a0,h⟩:=bind_on_inv h
     exact limE_on h
    clear hda
    obtain⟨-,hit,hq1,hq2⟩:=hS.out
    have hj16:=hJ.out a rfl
    have e1:IntKind.i64.wrap (a.p+1)=a.p+1:=by rw[IntKind.wrap_i64];omega
    obtain⟨w6,hw6⟩:∃w6,wr.setCell ⟨X,1,none⟩ (.int .i64 (a.p+1))=w6:=⟨_,rfl⟩
    have HT6:Hid (Kp3 X wr w6):=Lib.hid (by rw[←hw6];exact Kp3.set (Kept.refl _ _) 1 _)
    have HK6:Hid (Kp3 X w2 w6):=Lib.hid (hK.out.trans HT6.out)
    have HS6:Hid (St3 X (3000+((j+1:Nat):Int)) (.on ⟨a.p+1,a.it⟩) w6):=Lib.hid (by rw[←hw6];exact⟨hr.set1 _,hit,by dsimp only;omega,by dsimp only;push_cast;omega⟩)
    have HW6:=Lib.hid hw6
    clear hr hS hit hq1 hq2 hK hw6 hdrop hy hmem hC
    go_wp2_with fail
    simp only[HW6.out]
    go_at_call 122
    refine (rlimit_any X _ _ (decide ((j:Int)<4)) w6 HS6.out).mono ?_
    rintro e w7 ⟨rfl,hs,hk⟩
    have HS7:=Lib.hid hs
    have HK7:=Lib.hid (HK6.out.trans hk)
    have HT7:=Lib.hid (HT6.out.trans hk)
    clear hs hk HS6 HK6 HT6
    clear c1 c2 f1 q0 q1 q2 q3
    obtain⟨⟨z0⟩,hin,q3⟩:=HRw.out _ HK7.out
    rw[Nat.mul_one]at z0
    have HIn:=Lib.hid hin
    clear hin
    go_wp2_with fail
    go_at_call 127
    refine (rstmts3_any B X hBX _ (by have:=hj16;omega) _ y.l (Nat.le_refl _) y.d 1 _ w7 HS7.out HIn.out (by decide) (fun _ _=>by decide)).mono ?_
    rintro e w13 ⟨rfl,hs,hk⟩
    have HS13:=Lib.hid hs
    have HK13:=Lib.hid (HK7.out.trans hk)
    have HT13:=Lib.hid (HT7.out.trans hk)
    clear hs hk HS7 HK7 HT7
    clear z0 q3
    go_wp2_with fail
    go_roundw
    case rel=>exact⟨j+1,_,by go_num,by omega,HS13,HJ9,HK13,HC1⟩
    case measure=>simp[intOf];omega
   ·have t1:(er==0)=false:=by simpa using hne
    obtain rfl:Chk.bad p er=R4:=by have h:=hC.out;rw[Chk.bind_bad]at h;exact h
    have HFF:=Lib.hid (HF.out p er rfl)
    have HZ:=Lib.hid (HBl.out _ hK.out)
    clear hne hC hS hr f1 hJ
    go_wp2_with fail
    go_quiet (fail)
    go_wp2_with fail
    refine bodyPost_ret (v:=.tuple #[.int .i64 p,.int .i64 er]) (by simp[results,Tryz.results82,go_sem]) rfl ?_
    exact⟨by rw[HFF.out],by first|exact HZ.out.trans (below_dr3 _ _ _)|exact HZ.out⟩
  ·obtain rfl:j=pr.ts.length:=by omega
   have h2:cj=R4:=by have h:=hC.out;rw[List.drop_length]at h;rw[←h];cases cj with|on a=>rw[Chk.bind_on,chkThs]|bad p e=>rfl
   have HZ:=Lib.hid (HBl.out _ hK.out)
   rcases hc with ⟨a,rfl,rfl,rfl,rfl⟩|⟨q,rfl,rfl,hne⟩
   ·obtain rfl:=h2
    have HFF:=Lib.hid (HF.out 0 0 rfl)
    clear hC hS f1 hr hJ
    go_wp2_with fail
    refine bodyPost_ret (v:=.tuple #[.int .i64 0,.int .i64 0]) (by simp[results,Tryz.results82,go_sem]) rfl ?_
    exact⟨by rw[HFF.out],HZ.out⟩
   ·obtain rfl:=h2
    have t1:(er==0)=false:=by simpa using hne
    have HFF:=Lib.hid (HF.out p er rfl)
    clear hne hC hS f1 hr hJ
    go_wp2_with fail
    go_quiet (fail)
    go_wp2_with fail
    refine bodyPost_ret (v:=.tuple #[.int .i64 p,.int .i64 er]) (by simp[results,Tryz.results82,go_sem]) rfl ?_
    exact⟨by rw[HFF.out],by first|exact HZ.out.trans (below_dr3 _ _ _)|exact HZ.out⟩):P:=h
theorem qsaqx_1 {P:Prop} (h:P:=by
 have t1:(er1==0)=false:=by simpa using hne
 clear hne
 go_wp2_with fail
 go_at_call 127
 refine (HCB.out v _ HSv.out HKv.out (fun _ h=>by cases h)).mono ?_
 rintro e wb ⟨rfl,hsb,hkb⟩
 have HSb:=Lib.hid hsb
 have HKb:=Lib.hid (HKv.out.trans hkb)
 clear hsb hkb
 clear r0 r1 r2 r3 r4 r5 r6 r7 r8 r9 r10 r11 r12 r13 r14 r15 r16 r17 r18 r19 r20
 have row:=HRow.out _ HKb.out
 have r0:=cell_at row 0
 have r1:=cell_at row 1
 have r2:=cell_at row 2
 have r3:=cell_at row 3
 have r4:=cell_at row 4
 have r5:=cell_at row 5
 have r6:=cell_at row 6
 have r7:=cell_at row 7
 have r8:=cell_at row 8
 have r9:=cell_at row 9
 have r10:=cell_at row 10
 have r11:=cell_at row 11
 have r12:=cell_at row 12
 have r13:=cell_at row 13
 have r14:=cell_at row 14
 have r15:=cell_at row 15
 have r16:=cell_at row 16
 have r17:=cell_at row 17
 have r18:=cell_at row 18
 have r19:=cell_at row 19
 have r20:=cell_at row 20
 clear row
 simp only[sl7,sl8,sl9]at r0 r1 r2 r3 r4 r5 r6 r7 r8 r9 r10 r11 r12 r13 r14 r15 r16 r17 r18 r19 r20
 go_wp2_with fail
 go_at_call 127
 refine (HCE.out wb _ HSb.out HKb.out (fun a2 h2=>by obtain⟨a3,h3⟩:=bind_on_inv h2;exact (fun _ h=>by cases h) a3 h3)).mono ?_
 rintro e wc ⟨rfl,hsc,hkc⟩
 have HSc:Hid (St3 X b R wc):=Lib.hid (by rw[←HCv.out];exact hsc)
 have HKc:=Lib.hid (HKw.out _ (HKb.out.trans hkc))
 clear hsc hkc
 go_wp2_with fail
 go_end0
 exact⟨rfl,HSc.out,HKc.out⟩):P:=h
theorem Chk.bind_id (c:Chk):c.bind (fun a=>.on a)=c:=by cases c<;>rfl
theorem St3.c2 {X:Nat} {b:Int} {a:At} {W:World} (h:St3 X b (.on a) W):W.cell? ⟨X,2,none⟩=some (.int .i64 0):=(R3At.cells h.1).2.2
def tyOwn (k:Int) (t:Ty):Int:=if k=1 then tyForm t else 0
def fX (k:Int) (x:Ex) (a:At):Chk:=if k=5∨((k=1∨k=7)∧noEx x=true) then .on a else exC x 1 a
def fY (k:Int) (y:Ex) (a:At):Chk:=if k=2 then exC y 1 a else .on a
theorem fX_none {k:Int} {x:Ex} {a:At} (h:k=1∨k=7) (hn:noEx x=true):fX k x a=.on a:=if_pos (.inr ⟨h,hn⟩)
theorem fX_some {k:Int} {x:Ex} {a:At} (h:k≠5) (hn:¬((k=1∨k=7)∧noEx x=true)):fX k x a=exC x 1 a:=if_neg (fun hh=>hh.elim h hn)
theorem fY_not {k:Int} {y:Ex} (h:k≠2):fY k y=fun a=>.on a:=funext fun _=>if_neg h
theorem chkSt_c (k:Int) (nm:List UInt8) (t:Ty) (x y:Ex) (bd:Hd) (body:List St) (ed:Hd) (els:List St) (deep:Nat) (a:At):
  chkSt (.mk k nm t x y bd body ed els) deep a=((((((itC deep a).bind (ck (orE (stForm (.mk k nm t x y bd body ed els)) 1))).bind (ck (tyOwn k t))).bind (fX k x)).bind (fY k y)).bind (chkSts body (deep+1))).bind (chkSts els (deep+1)):=by
 unfold itC tyOwn
 cases hi:itemC deep a.it with
 |error e=>rw[chkSt_item hi];rfl
 |ok it=>
  cases hf:stForm (.mk k nm t x y bd body ed els) with
  |false=>rw[chkSt_form hi hf];rfl
  |true=>
   by_cases hk:k=1∧tyForm t≠0
   ·rw[chkSt_ty hi hf hk.1 hk.2,if_pos hk.1]
    show Chk.bad a.p (tyForm t)=(((((Chk.on ⟨a.p,it⟩).bind (ck (tyForm t))).bind (fX k x)).bind (fY k y)).bind (chkSts body (deep+1))).bind (chkSts els (deep+1))
    rw[Chk.bind_on,ck_ne hk.2]
    rfl
   ·have hk0:(if k=1 then tyForm t else 0)=0:=by
     split
     ·rename_i h1;exact Decidable.byContradiction fun h2=>hk ⟨h1,h2⟩
     ·rfl
    rw[chkSt_go hi hf (fun h1=>Decidable.byContradiction fun h2=>hk ⟨h1,h2⟩),hk0]
    show _=(((fX k x ⟨a.p,it⟩).bind (fY k y)).bind (chkSts body (deep+1))).bind (chkSts els (deep+1))
    rw[Chk.bind_bind (fX k x _),Chk.bind_bind (fX k x _)]
    refine congrArg (Chk.bind (fX k x ⟨a.p,it⟩)) (funext fun a1=>?_)
    rw[Chk.bind_bind]
    rfl
def RS3 (B X:Nat) (b:Int) (l:List St):Prop:=∀(d:Hd) (deep:Nat) (c:Chk) (w:World),St3 X b c w→StsIn w B d l→deep≤18→(∀a,c=.on a→deep≤17)→
 Calls Tryz.prog 127 #[.pointer (some ⟨X,0,none⟩),.slice d.a l.length d.c,.int .i64 (deep:Int)] w fun en w'=>en=.returned (.tuple #[])∧St3 X b (c.bind (chkSts l deep)) w'∧Kp3 X w w'
set_option maxHeartbeats 16000000 in
set_option maxRecDepth 100000 in
theorem rstmt_of (B X:Nat) (hBX:B≤X) (b:Int) (k:Int) (nm:List UInt8) (t:Ty) (x y:Ex) (bd:Hd) (body:List St) (ed:Hd) (els:List St) (ihB:RS3 B X b body) (ihE:RS3 B X b els)
  (deep:Nat) (a:At) (w:World) (hS:R3At X a.it a.p 0 w) (hi:a.it≤1024) (hp1: -1≤a.p) (hp2:a.p≤b+a.it+1) (hI:StIn w B (.mk k nm t x y bd body ed els)) (hdp:deep≤17):
  Calls Tryz.prog 158 #[.pointer (some ⟨X,0,none⟩),(St.mk k nm t x y bd body ed els).val,.int .i64 (deep:Int)] w fun en w'=>en=.returned (.tuple #[])∧St3 X b (chkSt (.mk k nm t x y bd body ed els) deep a) w'∧Kp3 X w w':=by
 obtain⟨R,hR⟩:∃R,chkSt (.mk k nm t x y bd body ed els) deep a=R:=⟨_,rfl⟩
 rw[hR]
 have HR:=Lib.hid (hR.symm.trans (chkSt_c k nm t x y bd body ed els deep a)).symm
 clear hR
 have hXl:=hS.lt
 have HBl:Hid (∀W,Kp3 X w W→Below B w W):=Lib.hid fun W h=>Kp3.blw h hBX hXl
 have HIx:=Lib.hid hI.x
 have HIy:=Lib.hid hI.y
 have HIt:=Lib.hid hI.t
 have CF:=Lib.hid (fun W=>rstform_any (.mk k nm t x y bd body ed els) hI.nm W)
 obtain⟨Y,hY⟩:∃Y,w.heap.size=Y:=⟨_,rfl⟩
 obtain⟨w1,hw1⟩:∃w1,w.alloc (stObj k nm t x y bd.a body.length bd.c ed.a els.length ed.c)=w1:=⟨_,rfl⟩
 have hb1:Below w.heap.size w w1:=by rw[←hw1];exact (Below.refl _ _).alloc (Nat.le_refl _) _
 have x1:w1.heap[Y]? =some (stObj k nm t x y bd.a body.length bd.c ed.a els.length ed.c):=by rw[←hw1,←hY];exact heap_alloc_new w _
 have HRow:Hid (∀W,Kp3 X w1 W→W.heap[Y]? =some (stObj k nm t x y bd.a body.length bd.c ed.a els.length ed.c)):=
  Lib.hid fun W hk=>(hk.block Y (Array.getElem?_eq_some_iff.1 x1).1 (by omega)).trans x1
 have HKw:Hid (∀W,Kp3 X w1 W→Kp3 X w W):=Lib.hid fun W hk=>(Kept.of_below hb1).trans hk
 have CI:=Lib.hid (ritem_any X b a deep (by omega) w1 (hS.below hb1) hi hp1 hp2 (.inr hp2))
 have edp:IntKind.i64.wrap ((deep:Int)+1)=((deep+1:Nat):Int):=by rw[IntKind.wrap_i64];omega
 have HCB:Hid (∀W c,St3 X b c W→Kp3 X w1 W→(∀a,c=.on a→deep≤16)→Calls Tryz.prog 127 #[.pointer (some ⟨X,0,none⟩),.slice bd.a body.length bd.c,.int .i64 ((deep+1:Nat):Int)] W fun en w'=>en=.returned (.tuple #[])∧St3 X b (c.bind (chkSts body (deep+1))) w'∧Kp3 X W w'):=
  Lib.hid fun W c h hk hd=>ihB bd (deep+1) c W h (hI.body.keep (Kp3.blw ((Kept.of_below hb1).trans hk) hBX hXl) (Nat.le_refl B)) (by omega) (fun a h=>by have:=hd a h;omega)
 have HCE:Hid (∀W c,St3 X b c W→Kp3 X w1 W→(∀a,c=.on a→deep≤16)→Calls Tryz.prog 127 #[.pointer (some ⟨X,0,none⟩),.slice ed.a els.length ed.c,.int .i64 ((deep+1:Nat):Int)] W fun en w'=>en=.returned (.tuple #[])∧St3 X b (c.bind (chkSts els (deep+1))) w'∧Kp3 X W w'):=
  Lib.hid fun W c h hk hd=>ihE ed (deep+1) c W h (hI.els.keep (Kp3.blw ((Kept.of_below hb1).trans hk) hBX hXl) (Nat.le_refl B)) (by omega) (fun a h=>by have:=hd a h;omega)
 have HNm:=Lib.hid (And.intro hY hw1)
 clear hb1 x1 hY hw1 hS hI hXl ihB ihE hi hp1 hp2 hdp
 dsimp only[St.val,St.k,St.nm,St.t,St.x,St.y,St.bd,St.body,St.ed,St.els]
 go_enter Tryz.func158,Tryz.ntmps158
 go_wp2_with fail
 simp only[HNm.out.1,HNm.out.2]
 clear HNm
 refine CI.out.mono ?_
 rintro e w2 ⟨rfl,hs2,hk2⟩
 have HS2:=Lib.hid hs2
 have HK2:=Lib.hid hk2
 clear hs2 hk2 CI
 have hz:=row_cells (vs:=stCells k nm t x y bd.a body.length bd.c ed.a els.length ed.c) (HRow.out _ HK2.out)
 go_wp2_with (refine wpList_load_list rfl 72 _ rfl _ rfl (stCells k nm t x y bd.a body.length bd.c ed.a els.length ed.c) _ hz Tryz.underlying72 rfl (stSize ..) ?_)
 clear hz
 go_at_call 175
 refine (CF.out w2).mono ?_
 rintro e w3 ⟨rfl,hb3⟩
 have HS3:=Lib.hid (HS2.out.below hb3)
 have HK3:=Lib.hid (HK2.out.trans (Kept.of_below hb3))
 clear hb3 HS2 HK2 CF
 go_wp2_with fail
 go_at_call 123
 refine (rarg_any X b _ _ w3 HS3.out).mono ?_
 rintro e v ⟨rfl,hs4,hk4⟩
 have HSv:=Lib.hid hs4
 have HKv:=Lib.hid (HK3.out.trans hk4)
 have HD0:Hid (∀a',(itC deep a).bind (ck (orE (stForm (.mk k nm t x y bd body ed els)) 1))=.on a'→deep≤16):=Lib.hid fun a' h=>by obtain⟨a0,h0⟩:=bind_on_inv h;exact itC_on h0
 have HC0:=HR
 clear hs4 hk4 HS3 HK3 HR
 generalize (itC deep a).bind (ck (orE (stForm (.mk k nm t x y bd body ed els)) 1))=c0 at*
 have row:=HRow.out _ HKv.out
 have r0:=cell_at row 0
 have r1:=cell_at row 1
 have r2:=cell_at row 2
 have r3:=cell_at row 3
 have r4:=cell_at row 4
 have r5:=cell_at row 5
 have r6:=cell_at row 6
 have r7:=cell_at row 7
 have r8:=cell_at row 8
 have r9:=cell_at row 9
 have r10:=cell_at row 10
 have r11:=cell_at row 11
 have r12:=cell_at row 12
 have r13:=cell_at row 13
 have r14:=cell_at row 14
 have r15:=cell_at row 15
 have r16:=cell_at row 16
 have r17:=cell_at row 17
 have r18:=cell_at row 18
 have r19:=cell_at row 19
 have r20:=cell_at row 20
 clear row
 simp only[sl7,sl8,sl9]at r0 r1 r2 r3 r4 r5 r6 r7 r8 r9 r10 r11 r12 r13 r14 r15 r16 r17 r18 r19 r20
 by_cases hk1:k=1
 ·subst hk1
  go_wp2_with fail
  go_at_call 57
  refine (rtform_any t HIt.out v).mono ?_
  rintro e v1 ⟨rfl,hb1⟩
  have HSv1:=Lib.hid (HSv.out.below hb1)
  have HKv1:=Lib.hid (HKv.out.trans (Kept.of_below hb1))
  clear hb1 HSv HKv
  clear r0 r1 r2 r3 r4 r5 r6 r7 r8 r9 r10 r11 r12 r13 r14 r15 r16 r17 r18 r19 r20
  go_wp2_with fail
  go_at_call 126
  refine (rkeep_any X b c0 _ v1 HSv1.out).mono ?_
  rintro e v ⟨rfl,hs4,hk4⟩
  have HSv:=Lib.hid hs4
  have HKv:=Lib.hid (HKv1.out.trans hk4)
  have HDv:Hid (∀a',c0.bind (ck (tyForm t))=.on a'→deep≤16):=Lib.hid fun a' h=>by obtain⟨a0,h0⟩:=bind_on_inv h;exact HD0.out _ h0
  have HCv:Hid (((((c0.bind (ck (tyForm t))).bind (fX 1 x)).bind (fY 1 y)).bind (chkSts body (deep+1))).bind (chkSts els (deep+1))=R):=HC0
  clear hs4 hk4 HSv1 HKv1 HD0 HC0
  generalize c0.bind (ck (tyForm t))=c1 at*
  have row:=HRow.out _ HKv.out
  have r0:=cell_at row 0
  have r1:=cell_at row 1
  have r2:=cell_at row 2
  have r3:=cell_at row 3
  have r4:=cell_at row 4
  have r5:=cell_at row 5
  have r6:=cell_at row 6
  have r7:=cell_at row 7
  have r8:=cell_at row 8
  have r9:=cell_at row 9
  have r10:=cell_at row 10
  have r11:=cell_at row 11
  have r12:=cell_at row 12
  have r13:=cell_at row 13
  have r14:=cell_at row 14
  have r15:=cell_at row 15
  have r16:=cell_at row 16
  have r17:=cell_at row 17
  have r18:=cell_at row 18
  have r19:=cell_at row 19
  have r20:=cell_at row 20
  clear row
  simp only[sl7,sl8,sl9]at r0 r1 r2 r3 r4 r5 r6 r7 r8 r9 r10 r11 r12 r13 r14 r15 r16 r17 r18 r19 r20
  obtain⟨it1,p1,er1,hr1,hc1⟩:=HSv.out.box
  obtain⟨-,-,c2⟩:=hr1.cells
  clear hr1
  have HD1:=HDv
  rcases hc1 with ⟨a1,rfl,rfl,rfl,rfl⟩|⟨q,rfl,rfl,hne⟩
  rotate_left
  ·exact qsaqx_1
  have H16:Hid (deep≤16):=Lib.hid (HD1.out a1 rfl)
  cases hnx:noEx x with
  |true=>
   have CX:=Lib.hid (fun W=>rnoexpr_any x W)
   rw[hnx]at CX
   have HCn:Hid (((Chk.on a1).bind (chkSts body (deep+1))).bind (chkSts els (deep+1))=R):=Lib.hid (by
    have h:=HCv.out;rw[Chk.bind_on,fX_none (.inl rfl) hnx,fY_not (by decide)]at h;exact h)
   exact qsaqx_6
  |false=>
   exact qsaqx_3
 have HDv:=HD0
 have HCv:Hid ((((c0.bind (fX k x)).bind (fY k y)).bind (chkSts body (deep+1))).bind (chkSts els (deep+1))=R):=Lib.hid (by
  rw[←HC0.out,show tyOwn k t=0 from if_neg hk1,Chk.bind_ck])
 clear HC0 HD0
 by_cases hk7:k=7
 ·clear hk1
  subst hk7
  obtain⟨it1,p1,er1,hr1,hc1⟩:=HSv.out.box
  obtain⟨-,-,c2⟩:=hr1.cells
  clear hr1
  have HD1:=HDv
  rcases hc1 with ⟨a1,rfl,rfl,rfl,rfl⟩|⟨q,rfl,rfl,hne⟩
  rotate_left
  ·exact qsaqx_1
  have H16:Hid (deep≤16):=Lib.hid (HD1.out a1 rfl)
  cases hnx:noEx x with
  |true=>
   have CX:=Lib.hid (fun W=>rnoexpr_any x W)
   rw[hnx]at CX
   have HCn:Hid (((Chk.on a1).bind (chkSts body (deep+1))).bind (chkSts els (deep+1))=R):=Lib.hid (by
    have h:=HCv.out;rw[Chk.bind_on,fX_none (.inr rfl) hnx,fY_not (by decide)]at h;exact h)
   exact qsaqx_6
  |false=>
   exact qsaqx_3
 by_cases hk5:k=5
 ·clear hk1 hk7
  subst hk5
  obtain⟨it1,p1,er1,hr1,hc1⟩:=HSv.out.box
  obtain⟨-,-,c2⟩:=hr1.cells
  clear hr1
  have HD1:=HDv
  rcases hc1 with ⟨a1,rfl,rfl,rfl,rfl⟩|⟨q,rfl,rfl,hne⟩
  rotate_left
  ·exact qsaqx_1
  have H16:Hid (deep≤16):=Lib.hid (HD1.out a1 rfl)
  go_wp2_with fail
  go_at_call 127
  refine (HCB.out v _ HSv.out HKv.out (fun _ _=>by have:=H16.out;omega)).mono ?_
  rintro e wb ⟨rfl,hsb,hkb⟩
  have HSb:=Lib.hid hsb
  have HKb:=Lib.hid (HKv.out.trans hkb)
  clear hsb hkb
  clear r0 r1 r2 r3 r4 r5 r6 r7 r8 r9 r10 r11 r12 r13 r14 r15 r16 r17 r18 r19 r20
  have row:=HRow.out _ HKb.out
  have r0:=cell_at row 0
  have r1:=cell_at row 1
  have r2:=cell_at row 2
  have r3:=cell_at row 3
  have r4:=cell_at row 4
  have r5:=cell_at row 5
  have r6:=cell_at row 6
  have r7:=cell_at row 7
  have r8:=cell_at row 8
  have r9:=cell_at row 9
  have r10:=cell_at row 10
  have r11:=cell_at row 11
  have r12:=cell_at row 12
  have r13:=cell_at row 13
  have r14:=cell_at row 14
  have r15:=cell_at row 15
  have r16:=cell_at row 16
  have r17:=cell_at row 17
  have r18:=cell_at row 18
  have r19:=cell_at row 19
  have r20:=cell_at row 20
  clear row
  simp only[sl7,sl8,sl9]at r0 r1 r2 r3 r4 r5 r6 r7 r8 r9 r10 r11 r12 r13 r14 r15 r16 r17 r18 r19 r20
  go_wp2_with fail
  go_at_call 127
  refine (HCE.out wb _ HSb.out HKb.out (fun a2 h2=>by obtain⟨a3,h3⟩:=bind_on_inv h2;exact (fun _ _=>by have:=H16.out;omega) a3 h3)).mono ?_
  rintro e wc ⟨rfl,hsc,hkc⟩
  have HSc:Hid (St3 X b R wc):=Lib.hid (by rw[←HCv.out];exact hsc)
  have HKc:=Lib.hid (HKw.out _ (HKb.out.trans hkc))
  clear hsc hkc
  go_wp2_with fail
  go_end0
  exact⟨rfl,HSc.out,HKc.out⟩
 by_cases hk2:k=2
 ·clear hk1 hk7 hk5
  subst hk2
  obtain⟨it1,p1,er1,hr1,hc1⟩:=HSv.out.box
  obtain⟨-,-,c2⟩:=hr1.cells
  clear hr1
  have HD1:=HDv
  rcases hc1 with ⟨a1,rfl,rfl,rfl,rfl⟩|⟨q,rfl,rfl,hne⟩
  rotate_left
  ·exact qsaqx_1
  have H16:Hid (deep≤16):=Lib.hid (HD1.out a1 rfl)
  go_wp2_with fail
  go_at_call 176
  refine (rexpr3_any B X hBX b _ x (Nat.le_refl _) 1 a1 v HSv.out (HIx.out.keep (HBl.out _ (HKw.out _ HKv.out)) (Nat.le_refl B)) (by decide)).mono ?_
  rintro e vx ⟨rfl,hs,hk⟩
  have HSvx:=Lib.hid hs
  have HKvx:=Lib.hid (HKv.out.trans hk)
  clear hs hk
  clear r0 r1 r2 r3 r4 r5 r6 r7 r8 r9 r10 r11 r12 r13 r14 r15 r16 r17 r18 r19 r20
  have row:=HRow.out _ HKvx.out
  have r0:=cell_at row 0
  have r1:=cell_at row 1
  have r2:=cell_at row 2
  have r3:=cell_at row 3
  have r4:=cell_at row 4
  have r5:=cell_at row 5
  have r6:=cell_at row 6
  have r7:=cell_at row 7
  have r8:=cell_at row 8
  have r9:=cell_at row 9
  have r10:=cell_at row 10
  have r11:=cell_at row 11
  have r12:=cell_at row 12
  have r13:=cell_at row 13
  have r14:=cell_at row 14
  have r15:=cell_at row 15
  have r16:=cell_at row 16
  have r17:=cell_at row 17
  have r18:=cell_at row 18
  have r19:=cell_at row 19
  have r20:=cell_at row 20
  clear row
  simp only[sl7,sl8,sl9]at r0 r1 r2 r3 r4 r5 r6 r7 r8 r9 r10 r11 r12 r13 r14 r15 r16 r17 r18 r19 r20
  obtain⟨it3,p3,er3,hr3,hc3⟩:=HSvx.out.box
  obtain⟨-,-,c2⟩:=hr3.cells
  clear hr3
  rcases hc3 with ⟨a3,hq,rfl,rfl,rfl⟩|⟨q,hq,rfl,hne⟩
  ·rw[hq]at HSvx
   have HCvxx:Hid (((exC y 1 a3).bind (chkSts body (deep+1))).bind (chkSts els (deep+1))=R):=Lib.hid (by
    rw[←HCv.out,Chk.bind_on,fX_some (by decide) (fun hh=>by have:=hh.1;omega),hq];rfl)
   go_wp2_with fail
   go_at_call 176
   refine (rexpr3_any B X hBX b _ y (Nat.le_refl _) 1 a3 vx HSvx.out (HIy.out.keep (HBl.out _ (HKw.out _ HKvx.out)) (Nat.le_refl B)) (by decide)).mono ?_
   rintro e vxx ⟨rfl,hs,hk⟩
   have HSvxx:=Lib.hid hs
   have HKvxx:=Lib.hid (HKvx.out.trans hk)
   clear hs hk
   clear r0 r1 r2 r3 r4 r5 r6 r7 r8 r9 r10 r11 r12 r13 r14 r15 r16 r17 r18 r19 r20
   have row:=HRow.out _ HKvxx.out
   have r0:=cell_at row 0
   have r1:=cell_at row 1
   have r2:=cell_at row 2
   have r3:=cell_at row 3
   have r4:=cell_at row 4
   have r5:=cell_at row 5
   have r6:=cell_at row 6
   have r7:=cell_at row 7
   have r8:=cell_at row 8
   have r9:=cell_at row 9
   have r10:=cell_at row 10
   have r11:=cell_at row 11
   have r12:=cell_at row 12
   have r13:=cell_at row 13
   have r14:=cell_at row 14
   have r15:=cell_at row 15
   have r16:=cell_at row 16
   have r17:=cell_at row 17
   have r18:=cell_at row 18
   have r19:=cell_at row 19
   have r20:=cell_at row 20
   clear row
   simp only[sl7,sl8,sl9]at r0 r1 r2 r3 r4 r5 r6 r7 r8 r9 r10 r11 r12 r13 r14 r15 r16 r17 r18 r19 r20
   go_wp2_with fail
   go_at_call 127
   refine (HCB.out vxx _ HSvxx.out HKvxx.out (fun _ _=>by have:=H16.out;omega)).mono ?_
   rintro e wb ⟨rfl,hsb,hkb⟩
   have HSb:=Lib.hid hsb
   have HKb:=Lib.hid (HKvxx.out.trans hkb)
   clear hsb hkb
   clear r0 r1 r2 r3 r4 r5 r6 r7 r8 r9 r10 r11 r12 r13 r14 r15 r16 r17 r18 r19 r20
   have row:=HRow.out _ HKb.out
   have r0:=cell_at row 0
   have r1:=cell_at row 1
   have r2:=cell_at row 2
   have r3:=cell_at row 3
   have r4:=cell_at row 4
   have r5:=cell_at row 5
   have r6:=cell_at row 6
   have r7:=cell_at row 7
   have r8:=cell_at row 8
   have r9:=cell_at row 9
   have r10:=cell_at row 10
   have r11:=cell_at row 11
   have r12:=cell_at row 12
   have r13:=cell_at row 13
   have r14:=cell_at row 14
   have r15:=cell_at row 15
   have r16:=cell_at row 16
   have r17:=cell_at row 17
   have r18:=cell_at row 18
   have r19:=cell_at row 19
   have r20:=cell_at row 20
   clear row
   simp only[sl7,sl8,sl9]at r0 r1 r2 r3 r4 r5 r6 r7 r8 r9 r10 r11 r12 r13 r14 r15 r16 r17 r18 r19 r20
   go_wp2_with fail
   go_at_call 127
   refine (HCE.out wb _ HSb.out HKb.out (fun a2 h2=>by obtain⟨a3,h3⟩:=bind_on_inv h2;exact (fun _ _=>by have:=H16.out;omega) a3 h3)).mono ?_
   rintro e wc ⟨rfl,hsc,hkc⟩
   have HSc:Hid (St3 X b R wc):=Lib.hid (by rw[←HCvxx.out];exact hsc)
   have HKc:=Lib.hid (HKw.out _ (HKb.out.trans hkc))
   clear hsc hkc
   go_wp2_with fail
   go_end0
   exact⟨rfl,HSc.out,HKc.out⟩
  ·have t3:(er3==0)=false:=by simpa using hne
   have HCvx:Hid (((exC x 1 a1).bind (chkSts body (deep+1))).bind (chkSts els (deep+1))=R):=Lib.hid (by
    rw[←HCv.out,Chk.bind_on,fX_some (by decide) (fun hh=>by have:=hh.1;omega),hq];rfl)
   clear hne hq
   exact qsaqx_5
 have b1:(k==1)=false:=by simpa using hk1
 have b7:(k==7)=false:=by simpa using hk7
 have b5:(k==5)=false:=by simpa using hk5
 have b2:(k==2)=false:=by simpa using hk2
 have n5:(k != 5)=true:=by simpa using hk5
 have HCvx:Hid (∀a1,c0=.on a1→((exC x 1 a1).bind (chkSts body (deep+1))).bind (chkSts els (deep+1))=R):=Lib.hid (fun a1 h=>by
  rw[←HCv.out,h,Chk.bind_on,fX_some hk5 (fun hh=>by have:=hh.1;omega),fY_not hk2,Chk.bind_id])
 clear hk1 hk7 hk5 hk2
 obtain⟨it1,p1,er1,hr1,hc1⟩:=HSv.out.box
 obtain⟨-,-,c2⟩:=hr1.cells
 clear hr1
 have HD1:=HDv
 rcases hc1 with ⟨a1,rfl,rfl,rfl,rfl⟩|⟨q,rfl,rfl,hne⟩
 rotate_left
 ·exact qsaqx_1
 have H16:Hid (deep≤16):=Lib.hid (HD1.out a1 rfl)
 replace HCvx:=Lib.hid (HCvx.out a1 rfl)
 go_wp2_with fail
 go_at_call 176
 refine (rexpr3_any B X hBX b _ x (Nat.le_refl _) 1 a1 v HSv.out (HIx.out.keep (HBl.out _ (HKw.out _ HKv.out)) (Nat.le_refl B)) (by decide)).mono ?_
 rintro e vx ⟨rfl,hs,hk⟩
 have HSvx:=Lib.hid hs
 have HKvx:=Lib.hid (HKv.out.trans hk)
 clear hs hk
 clear r0 r1 r2 r3 r4 r5 r6 r7 r8 r9 r10 r11 r12 r13 r14 r15 r16 r17 r18 r19 r20
 have row:=HRow.out _ HKvx.out
 have r0:=cell_at row 0
 have r1:=cell_at row 1
 have r2:=cell_at row 2
 have r3:=cell_at row 3
 have r4:=cell_at row 4
 have r5:=cell_at row 5
 have r6:=cell_at row 6
 have r7:=cell_at row 7
 have r8:=cell_at row 8
 have r9:=cell_at row 9
 have r10:=cell_at row 10
 have r11:=cell_at row 11
 have r12:=cell_at row 12
 have r13:=cell_at row 13
 have r14:=cell_at row 14
 have r15:=cell_at row 15
 have r16:=cell_at row 16
 have r17:=cell_at row 17
 have r18:=cell_at row 18
 have r19:=cell_at row 19
 have r20:=cell_at row 20
 clear row
 simp only[sl7,sl8,sl9]at r0 r1 r2 r3 r4 r5 r6 r7 r8 r9 r10 r11 r12 r13 r14 r15 r16 r17 r18 r19 r20
 obtain⟨it3,p3,er3,hr3,hc3⟩:=HSvx.out.box
 obtain⟨-,-,c2⟩:=hr3.cells
 clear hr3
 clear hc3
 cases hz:(er3==0) with
 |true=>
  exact qsaqx_5
 |false=>
  exact qsaqx_5
set_option maxHeartbeats 8000000 in
set_option maxRecDepth 100000 in
theorem rstmts3_any (B X:Nat) (hBX:B≤X) (b:Int) (hb:b≤1000000):∀(sz:Nat) (l:List St),stCounts l≤sz→RS3 B X b l:=by
 intro sz
 induction sz using Nat.strongRecOn with
 |ind sz ih=>
 intro l hsz0 d deep c w hS hI hdp hd17
 obtain⟨R,hR⟩:∃R,c.bind (chkSts l deep)=R:=⟨_,rfl⟩
 rw[hR]
 have HR:=Lib.hid hR
 have HI:=Lib.hid hI
 have hXl:=hS.lt
 have HBl:Hid (∀W,Kp3 X w W→Below B w W):=Lib.hid fun W h=>Kp3.blw h hBX hXl
 have HS0:=Lib.hid hS
 have HD0:Hid (∀a,c=.on a→deep≤17):=Lib.hid hd17
 clear hR hI hS hd17
 go_enter Tryz.func127,Tryz.ntmps127
 go_wp2_with fail
 go_loopw [6] (fun ii wr=>∃(j:Nat) (cj:Chk),ii=.int .i64 j∧j≤l.length∧Hid (St3 X b cj wr)∧Hid (∀a,cj=.on a→deep≤17)∧Hid (Kp3 X w wr)∧Hid (cj.bind (chkSts (l.drop j) deep)=R)) (fun ii _=>l.length - (intOf ii).toNat)
 case atStart=>exact⟨0,c,rfl,Nat.zero_le _,HS0,HD0,Lib.hid (Kept.refl _ _),Lib.hid (by rw[List.drop_zero];exact HR.out)⟩
 case round=>
  obtain⟨j,cj,rfl,hj,hS,hD,hK,hC⟩:=hrel
  clear HS0 HD0
  have p2:(0:Int)≤(j:Int):=Int.natCast_nonneg _
  have p3:l.length≤140737488355328:=HI.out.len
  obtain⟨it,p,er,hr,hc⟩:=hS.out.box
  obtain⟨-,c1,c2⟩:=hr.cells
  obtain⟨-,f1,-⟩:=hr.frz
  by_cases hlt:j<l.length
  ·have p1:(j:Int)<(l.length:Int):=by omega
   rcases hc with ⟨a,rfl,rfl,rfl,rfl⟩|⟨q,rfl,rfl,hne⟩
   ·obtain⟨s,hs⟩:∃s,l[j]? =some s:=⟨_,List.getElem?_eq_getElem hlt⟩
    have hdrop:l.drop j=s::l.drop (j+1):=by
     have:=List.drop_eq_getElem_cons hlt
     rw[List.getElem?_eq_getElem hlt]at hs
     injection hs with hs
     rw[this,hs]
    have hmem:=List.mem_of_getElem? hs
    have hsc:stCount s≤stCounts l:=stCounts_mem hmem
    have hd17:=hD.out a rfl
    obtain⟨-,hit,hq1,hq2⟩:=hS.out
    have e1:IntKind.i64.wrap (a.p+1)=a.p+1:=by rw[IntKind.wrap_i64];omega
    obtain⟨w6,hw6⟩:∃w6,wr.setCell ⟨X,1,none⟩ (.int .i64 (a.p+1))=w6:=⟨_,rfl⟩
    have hk6:Kp3 X wr w6:=by rw[←hw6];exact Kp3.set (Kept.refl _ _) 1 _
    have hr6:R3At X a.it (a.p+1) 0 w6:=by rw[←hw6];exact hr.set1 _
    have hIr:=HI.out.keep (HBl.out _ (hK.out.trans hk6)) (Nat.le_refl B)
    obtain⟨rb,ro,hda,hrb,hrow⟩:=hIr.row (by intro h0;rw[h0]at hlt;simp at hlt)
    have hsa:=hrow j s hs
    have hsI:=hIr.sub s hmem
    have HC1:Hid ((chkSt s deep ⟨a.p+1,a.it⟩).bind (chkSts (l.drop (j+1)) deep)=R):=Lib.hid (by
     have h:=hC.out
     rw[hdrop,Chk.bind_on,chkSts_bind]at h
     exact h)
    obtain⟨k,nm,t,x,y,bd,body,ed,els⟩:=s
    have hz:=hsa.cells
    dsimp only[St.k,St.nm,St.t,St.x,St.y,St.bd,St.body,St.ed,St.els]at hz
    rw[←hw6]at hz
    rw[stCount]at hsc
    have C:=Lib.hid (rstmt_of B X hBX b k nm t x y bd body ed els (ih (stCounts body) (by omega) body (Nat.le_refl _)) (ih (stCounts els) (by omega) els (Nat.le_refl _)) deep ⟨a.p+1,a.it⟩ w6 hr6 hit (by dsimp only;omega) (by dsimp only;omega) hsI hd17)
    have HK6:=Lib.hid (hK.out.trans hk6)
    have HW6:=Lib.hid hw6
    have HD6:Hid (∀a:At,True→deep≤17):=Lib.hid fun _ _=>hd17
    clear hr hsa hrow hIr hdrop hs hmem hsc hsI hk6 hr6 hw6 hC hS hK hD hd17 hit hq1 hq2 ih
    rw[hda]
    go_wp2_with (refine wpList_load_list rfl 72 _ rfl _ rfl (stCells k nm t x y bd.a body.length bd.c ed.a els.length ed.c) _ hz Tryz.underlying72 rfl (stSize ..) ?_)
    simp only[HW6.out]
    go_at_call 158
    refine C.out.mono ?_
    rintro e w7 ⟨rfl,hs7,hk7⟩
    have HS7:=Lib.hid hs7
    have HK7:=Lib.hid (HK6.out.trans hk7)
    clear hs7 hk7 C hz c1 c2 f1
    go_wp2_with fail
    go_roundw
    case rel=>exact⟨j+1,_,by go_num,by omega,HS7,Lib.hid fun a _=>HD6.out a trivial,HK7,HC1⟩
    case measure=>simp[intOf];omega
   ·have t1:(er==0)=false:=by simpa using hne
    have HZ:Hid (St3 X b R wr):=Lib.hid (by have h:=hC.out;rw[Chk.bind_bad]at h;rw[←h];exact hS.out)
    clear hne hC hS hr c1 f1
    go_wp2_with fail
    go_end0
    exact⟨rfl,HZ.out,hK.out⟩
  ·obtain rfl:j=l.length:=by omega
   have HZ:Hid (St3 X b R wr):=Lib.hid (by
    have h:=hC.out
    rw[List.drop_length]at h
    rw[←h]
    rcases hc with ⟨a',rfl,-,-,-⟩|⟨q,rfl,-,-⟩
    ·rw[Chk.bind_on,chkSts];exact hS.out
    ·exact hS.out)
   clear hC hS hc c1 c2 f1 hr
   go_wp2_with fail
   go_end0
   exact⟨rfl,HZ.out,hK.out⟩
end Go.Proofs.YtkklogikakcanaaGreatDoor
namespace Go.Proofs.YtkklogikakcanaaGreatDoor
open Go Go.RowKit
def limE (i n:Nat):Int:=orE (decide ((i:Int)<(n:Int))) 3
theorem limE_lt {i n:Nat} (h:i<n):limE i n=0:=by unfold limE orE;simp[h]
theorem limE_ge {i n:Nat} (h:n≤i):limE i n=3:=by unfold limE orE;simp[h]
theorem ck_chkFls (i:Nat) (f:Fl) (r:List Fl) (a:At):ck (chkFls i (f::r)) a=(((ck (limE i 16) a).bind (ck (orE (nameB f.nm) 1))).bind (ck (tyForm f.t))).bind (ck (chkFls (i+1) r)):=by
 rw[chkFls]
 by_cases h1:16≤i
 ·rw[if_pos h1,limE_ge h1];rfl
 ·rw[if_neg h1,limE_lt (by omega)]
  cases hn:nameB f.nm with
  |false=>rw[if_pos rfl];rfl
  |true=>
   rw[if_neg (by decide)]
   by_cases ht:tyForm f.t=0
   ·rw[if_neg (not_not_intro ht),ht];rfl
   ·rw[if_pos ht]
    show ck (tyForm f.t) a=(ck (tyForm f.t) a).bind _
    rw[ck_ne ht];rfl
theorem chkRes_c (i:Nat) (r:Re) (l:List Re) (a:At):chkRes i (r::l) a=(((ck (limE i 16) ⟨a.p+1,a.it⟩).bind (ck (orE (nameB r.nm&&decide (0<r.fs.length)) 1))).bind (ck (chkFls 0 r.fs))).bind (chkRes (i+1) l):=by
 rw[chkRes]
 by_cases h1:16≤i
 ·rw[if_pos h1,limE_ge h1];rfl
 ·rw[if_neg h1,limE_lt (by omega)]
  by_cases h2:nameB r.nm=false∨r.fs=[]
  ·rw[if_pos h2]
   have:(nameB r.nm&&decide (0<r.fs.length))=false:=by rcases h2 with h|h<;>simp[h]
   rw[this];rfl
  ·rw[if_neg h2]
   have:(nameB r.nm&&decide (0<r.fs.length))=true:=by
    simp only[not_or,Bool.not_eq_false]at h2
    obtain⟨ha,hb⟩:=h2
    rw[ha]
    cases h:r.fs with
    |nil=>exact absurd h hb
    |cons x y=>simp
   rw[this]
   by_cases h3:chkFls 0 r.fs=0
   ·rw[if_neg (not_not_intro h3),h3];rfl
   ·rw[if_pos h3]
    show _=(ck (chkFls 0 r.fs) ⟨a.p+1,a.it⟩).bind _
    rw[ck_ne h3];rfl
theorem chkShs_c (i:Nat) (f:Fl) (l:List Fl) (a:At):chkShs i (f::l) a=(((ck (limE i 1024) ⟨a.p+1,a.it⟩).bind (ck (orE (nameB f.nm) 1))).bind (ck (tyForm f.t))).bind (chkShs (i+1) l):=by
 rw[chkShs]
 by_cases h1:1024≤i
 ·rw[if_pos h1,limE_ge h1];rfl
 ·rw[if_neg h1,limE_lt (by omega)]
  have h0:ck (chkFls 0 [f]) ⟨a.p+1,a.it⟩=((ck (orE (nameB f.nm) 1) ⟨a.p+1,a.it⟩).bind (ck (tyForm f.t))):=by
   rw[ck_chkFls,limE_lt (by decide),show chkFls 1 ([]:List Fl)=0 by rw[chkFls]]
   rw[Chk.bind_ck];rfl
  by_cases h3:chkFls 0 [f]=0
  ·rw[if_neg (not_not_intro h3)]
   rw[h3,ck_zero]at h0
   show _=(((ck (orE (nameB f.nm) 1) ⟨a.p+1,a.it⟩).bind (ck (tyForm f.t)))).bind _
   rw[←h0];rfl
  ·rw[if_pos h3]
   rw[ck_ne h3]at h0
   show _=(((ck (orE (nameB f.nm) 1) ⟨a.p+1,a.it⟩).bind (ck (tyForm f.t)))).bind _
   rw[←h0];rfl
def tyRes (t:Ty):Int:=if noTy t then 0 else tyForm t
theorem chkFus_c (i:Nat) (f:Fu) (l:List Fu) (a:At):chkFus i (f::l) a=(((((ck (limE i 32) ⟨a.p+1,a.it⟩).bind (ck (orE (nameB f.nm) 1))).bind (ck (chkFls 0 f.ps))).bind (ck (tyRes f.t))).bind (chkSts f.body 1)).bind (chkFus (i+1) l):=by
 rw[chkFus]
 by_cases h1:32≤i
 ·rw[if_pos h1,limE_ge h1];rfl
 ·rw[if_neg h1,limE_lt (by omega)]
  cases hn:nameB f.nm with
  |false=>rw[if_pos rfl];rfl
  |true=>
   rw[if_neg (by decide)]
   by_cases h3:chkFls 0 f.ps=0
   ·rw[if_neg (not_not_intro h3),h3]
    by_cases h4:noTy f.t=false∧tyForm f.t≠0
    ·rw[if_pos h4,show tyRes f.t=tyForm f.t by unfold tyRes;rw[h4.1];rfl]
     show _=((ck (tyForm f.t) ⟨a.p+1,a.it⟩).bind _).bind _
     rw[ck_ne h4.2];rfl
    ·rw[if_neg h4,show tyRes f.t=0 by
      unfold tyRes
      cases h5:noTy f.t with
      |true=>rfl
      |false=>rw[if_neg (by decide)];exact Decidable.byContradiction fun h6=>h4 ⟨h5,h6⟩]
     show _=(chkSts f.body 1 ⟨a.p+1,a.it⟩).bind _
     cases chkSts f.body 1 ⟨a.p+1,a.it⟩<;>rfl
   ·rw[if_pos h3]
    show _=(((ck (chkFls 0 f.ps) ⟨a.p+1,a.it⟩).bind _).bind _).bind _
    rw[ck_ne h3];rfl
theorem chkThs_c (i:Nat) (t:Th) (l:List Th) (a:At):chkThs i (t::l) a=((ck (limE i 4) ⟨a.p+1,a.it⟩).bind (chkSts t.l 1)).bind (chkThs (i+1) l):=by
 rw[chkThs]
 by_cases h1:4≤i
 ·rw[if_pos h1,limE_ge h1];rfl
 ·rw[if_neg h1,limE_lt (by omega)]
  show _=(chkSts t.l 1 ⟨a.p+1,a.it⟩).bind _
  cases chkSts t.l 1 ⟨a.p+1,a.it⟩<;>rfl
theorem St3.mono {X:Nat} {b b':Int} {c:Chk} {W:World} (h:St3 X b c W) (hb:∀a,c=.on a→b≤b'):St3 X b' c W:=by
 cases c with
 |on a=>exact⟨h.1,h.2.1,h.2.2.1,by have:=hb a rfl;have:=h.2.2.2;omega⟩
 |bad p e=>exact h
theorem limE_on {i n:Nat} {c:Chk} {a:At} (h:c.bind (ck (limE i n))=.on a):i<n:=by
 obtain⟨a0,rfl⟩:=bind_on_inv h
 rw[Chk.bind_on]at h
 by_cases hi:i<n
 ·exact hi
 ·rw[limE_ge (by omega)]at h;cases h
set_option maxHeartbeats 4000000 in
theorem rfield3_any (X:Nat) (b:Int) (c:Chk) (f:Fl) (hf:f.Ok) (w:World) (h:St3 X b c w):
  Calls Tryz.prog 157 #[.pointer (some ⟨X,0,none⟩),f.val] w fun en w'=>en=.returned (.tuple #[])∧St3 X b ((c.bind (ck (orE (nameB f.nm) 1))).bind (ck (tyForm f.t))) w'∧Kp3 X w w':=by
 obtain⟨nm,t⟩:=f
 have CN:=Lib.hid (fun W=>rname_any nm hf.nm W)
 have CT:=Lib.hid (fun W=>rtform_any t hf.t W)
 obtain⟨Y,hY⟩:∃Y,w.heap.size=Y:=⟨_,rfl⟩
 obtain⟨w1,hw1⟩:∃w1,w.alloc (.cells #[.string ⟨nm.toArray⟩,.int .u8 t.k,.string ⟨t.nm.toArray⟩,.int .i64 t.n] 93 (0,0))=w1:=⟨_,rfl⟩
 have hb1:Below w.heap.size w w1:=by rw[←hw1];exact (Below.refl _ _).alloc (Nat.le_refl _) _
 have x1:w1.heap[Y]? =some (.cells #[.string ⟨nm.toArray⟩,.int .u8 t.k,.string ⟨t.nm.toArray⟩,.int .i64 t.n] 93 (0,0)):=by rw[←hw1,←hY];exact heap_alloc_new w _
 have hXl:=h.lt
 have HRow:Hid (∀W,Kp3 X w1 W→W.heap[Y]? =some (.cells #[.string ⟨nm.toArray⟩,.int .u8 t.k,.string ⟨t.nm.toArray⟩,.int .i64 t.n] 93 (0,0))):=
  Lib.hid fun W hk=>(hk.block Y (Array.getElem?_eq_some_iff.1 x1).1 (by omega)).trans x1
 have HKw:Hid (∀W,Kp3 X w1 W→Kp3 X w W):=Lib.hid fun W hk=>(Kept.of_below hb1).trans hk
 have HS1:=Lib.hid (h.below hb1)
 have HNm:=Lib.hid (And.intro hY hw1)
 have z0:=cell_at x1 0
 simp only[sl7,sl8]at z0
 rw[←hw1]at z0
 clear hb1 x1 h hXl hY hw1 hf
 dsimp only[Fl.val]
 go_enter Tryz.func157,Tryz.ntmps157
 go_wp2_with (go_at_call 98;refine (CN.out _).mono ?_;rintro e w9 ⟨rfl,rfl⟩)
 simp only[HNm.out.1,HNm.out.2]
 clear z0
 go_at_call 123
 refine (rarg_any X b c _ w1 HS1.out).mono ?_
 rintro e w2 ⟨rfl,hs2,hk2⟩
 have HS2:=Lib.hid hs2
 have HK2:=Lib.hid hk2
 clear hs2 hk2
 have row:=HRow.out _ HK2.out
 have q1:=cell_at row 1
 have q2:=cell_at row 2
 have q3:=cell_at row 3
 clear row
 simp only[sl7,sl8,sl9]at q1 q2 q3
 go_wp2_with fail
 go_at_call 57
 refine (CT.out w2).mono ?_
 rintro e w3 ⟨rfl,hb3⟩
 have HS3:=Lib.hid (HS2.out.below hb3)
 have HK3:=Lib.hid (HK2.out.trans (Kept.of_below hb3))
 clear hb3 HS2 HK2 CT CN
 go_wp2_with fail
 go_at_call 126
 refine (rkeep_any X b _ _ w3 HS3.out).mono ?_
 rintro e w4 ⟨rfl,hs4,hk4⟩
 have HS4:=Lib.hid hs4
 have HK4:=Lib.hid (HKw.out _ (HK3.out.trans hk4))
 clear hs4 hk4 HS3 HK3
 go_wp2_with fail
 go_end0
 exact⟨rfl,HS4.out,HK4.out⟩
set_option maxHeartbeats 4000000 in
set_option maxRecDepth 100000 in
theorem rfields3_any (B X:Nat) (hBX:B≤X) (b:Int) (c:Chk) (d:Hd) (l:List Fl) (w:World) (h:St3 X b c w) (hI:FlsIn w B d l):
  Calls Tryz.prog 124 #[.pointer (some ⟨X,0,none⟩),.slice d.a l.length d.c] w fun en w'=>en=.returned (.tuple #[])∧St3 X b (c.bind (ck (chkFls 0 l))) w'∧Kp3 X w w':=by
 obtain⟨R,hR⟩:∃R,c.bind (ck (chkFls 0 l))=R:=⟨_,rfl⟩
 rw[hR]
 have HR:=Lib.hid hR
 have hXl:=h.lt
 have HI:Hid (∀W,Kp3 X w W→FlsIn W B d l):=Lib.hid fun W hk=>hI.keep (Kp3.blw hk hBX hXl) (Nat.le_refl B)
 have hlen:=hI.len
 have HS0:=Lib.hid h
 clear hR hI h hXl
 go_enter Tryz.func124,Tryz.ntmps124
 go_wp2_with fail
 go_loopw [4] (fun ii wr=>∃(j:Nat) (cj:Chk),ii=.int .i64 j∧j≤l.length∧Hid (St3 X b cj wr)∧Hid (Kp3 X w wr)∧Hid (cj.bind (ck (chkFls j (l.drop j)))=R)) (fun ii _=>l.length - (intOf ii).toNat)
 case atStart=>exact⟨0,c,rfl,Nat.zero_le _,HS0,Lib.hid (Kept.refl _ _),Lib.hid (by rw[List.drop_zero];exact HR.out)⟩
 case round=>
  obtain⟨j,cj,rfl,hj,hS,hK,hC⟩:=hrel
  clear HS0
  have p2:(0:Int)≤(j:Int):=Int.natCast_nonneg _
  have p3:l.length≤140737488355328:=hlen
  obtain⟨it,p,er,hr,hc⟩:=hS.out.box
  obtain⟨-,c1,c2⟩:=hr.cells
  have f1:=trivial
  by_cases hlt:j<l.length
  ·have p1:(j:Int)<(l.length:Int):=by omega
   rcases hc with ⟨a,rfl,rfl,rfl,rfl⟩|⟨q,rfl,rfl,hne⟩
   ·obtain⟨y,hy⟩:∃y,l[j]? =some y:=⟨_,List.getElem?_eq_getElem hlt⟩
    have hdrop:l.drop j=y::l.drop (j+1):=by
     have:=List.drop_eq_getElem_cons hlt
     rw[List.getElem?_eq_getElem hlt]at hy
     injection hy with hy
     rw[this,hy]
    have hmem:=List.mem_of_getElem? hy
    obtain⟨rb,ro,hda,hrb,hrow⟩:=(HI.out _ hK.out).row (by intro h0;rw[h0]at hlt;simp at hlt)
    have hfo:=(HI.out _ hK.out).sub y hmem
    have HC1:Hid ((((((Chk.on a).bind (ck (limE j 16))).bind (ck (orE (nameB y.nm) 1))).bind (ck (tyForm y.t))).bind (ck (chkFls (j+1) (l.drop (j+1))))=R)):=Lib.hid (by
     have h:=hC.out
     rw[hdrop,Chk.bind_on,ck_chkFls]at h
     exact h)
    have CL:=Lib.hid (rlimit_any X b (.on a) (decide ((j:Int)<16)) wr hS.out)
    have HRw:Hid (∀W,Kp3 X w W→FlAt W rb (ro+j*4) y):=Lib.hid fun W hk=>by
     obtain⟨rb2,ro2,hda2,-,hrow2⟩:=(HI.out _ hk).row (by intro h0;rw[h0]at hlt;simp at hlt)
     rw[hda]at hda2
     injection hda2 with hda2
     injection hda2 with e1 e2 e3
     subst e1 e2
     exact hrow2 j y hy
    have HFo:=Lib.hid hfo
    clear hrow hfo hdrop hy hmem hC hr c1 f1 hS
    rw[hda]
    go_wp2_with fail
    go_at_call 122
    refine CL.out.mono ?_
    rintro e w2 ⟨rfl,hs2,hk2⟩
    have HS2:=Lib.hid hs2
    have HK2:=Lib.hid (hK.out.trans hk2)
    clear hs2 hk2 CL c2
    obtain⟨z0,z1,z2,z3⟩:=HRw.out _ HK2.out
    go_wp2_with fail
    go_at_call 157
    refine (rfield3_any X b _ y HFo.out w2 HS2.out).mono ?_
    rintro e w3 ⟨rfl,hs3,hk3⟩
    have HS3:=Lib.hid hs3
    have HK3:=Lib.hid (HK2.out.trans hk3)
    clear hs3 hk3 z0 z1 z2 z3 HS2 HK2 hK
    go_wp2_with fail
    go_roundw
    case rel=>exact⟨j+1,_,by go_num,by omega,HS3,HK3,HC1⟩
    case measure=>simp[intOf];omega
   ·have t1:(er==0)=false:=by simpa using hne
    have HZ:Hid (St3 X b R wr):=Lib.hid (by have h:=hC.out;rw[Chk.bind_bad]at h;rw[←h];exact hS.out)
    clear hne hC hS hr c1 f1
    go_wp2_with fail
    (go_end0;exact⟨rfl,HZ.out,hK.out⟩)
  ·obtain rfl:j=l.length:=by omega
   have HZ:Hid (St3 X b R wr):=Lib.hid (by
    have h:=hC.out
    rw[List.drop_length,show chkFls l.length ([]:List Fl)=0 by rw[chkFls],Chk.bind_ck]at h
    rw[←h]
    exact hS.out)
   clear hC hS hc c1 c2 hr f1
   go_wp2_with fail
   go_end0
   exact⟨rfl,HZ.out,hK.out⟩
end Go.Proofs.YtkklogikakcanaaGreatDoor
namespace Go.Proofs.YtkklogikakcanaaGreatDoor
open Go Go.RowKit
abbrev prBox (p:Pr) (Y:Nat) (W:World):Prop:=W.heap[Y]? =some (prObj p)
theorem ReIn.len {w:World} {B:Nat} {r:Re} (h:ReIn w B r):r.fs.length≤140737488355328:=h.fs.len
set_option maxHeartbeats 16000000 in
set_option maxRecDepth 100000 in
theorem rheads3_any (B X:Nat) (hBX:B≤X) (pr:Pr) (w:World) (h:St3 X 0 (.on ⟨-1,0⟩) w) (hI:PrIn w B pr):
  Calls Tryz.prog 121 #[.pointer (some ⟨X,0,none⟩),pr.val] w fun en w'=>en=.returned (.tuple #[])∧St3 X 2000 ((chkRes 0 pr.rs ⟨-1,0⟩).bind (chkShs 0 pr.ss)) w'∧Kp3 X w w':=by
 obtain⟨R,hR⟩:∃R,chkRes 0 pr.rs ⟨-1,0⟩=R:=⟨_,rfl⟩
 obtain⟨R2,hR2⟩:∃R2,R.bind (chkShs 0 pr.ss)=R2:=⟨_,rfl⟩
 rw[hR,hR2]
 have HR:=Lib.hid hR
 have HR2:=Lib.hid hR2
 have hXl:=h.lt
 obtain⟨Y,hY⟩:∃Y,w.heap.size=Y:=⟨_,rfl⟩
 obtain⟨w1,hw1⟩:∃w1,w.alloc (prObj pr)=w1:=⟨_,rfl⟩
 have hb1:Below w.heap.size w w1:=by rw[←hw1];exact (Below.refl _ _).alloc (Nat.le_refl _) _
 have x1:w1.heap[Y]? =some (prObj pr):=by rw[←hw1,←hY];exact heap_alloc_new w _
 have HRow:Hid (∀W,Kp3 X w1 W→W.heap[Y]? =some (prObj pr)):=Lib.hid fun W hk=>(hk.block Y (Array.getElem?_eq_some_iff.1 x1).1 (by omega)).trans x1
 have HI:Hid (∀W,Kp3 X w1 W→PrIn W B pr):=Lib.hid fun W hk=>hI.keep (Kp3.blw ((Kept.of_below hb1).trans hk) hBX hXl) (Nat.le_refl B)
 have HKw:Hid (∀W,Kp3 X w1 W→Kp3 X w W):=Lib.hid fun W hk=>(Kept.of_below hb1).trans hk
 have HS1:=Lib.hid (h.below hb1)
 have HNm:=Lib.hid (And.intro hY hw1)
 have hl1:=hI.rlen
 have hl2:=hI.ss.len
 clear hR hR2 hI h hXl hb1 x1 hY hw1
 dsimp only[Pr.val]
 go_enter Tryz.func121,Tryz.ntmps121
 go_wp2_with fail
 simp only[HNm.out.1,HNm.out.2]
 clear HNm
 go_loopw [4] (fun ii wr=>∃(j:Nat) (cj:Chk),ii=.int .i64 j∧j≤pr.rs.length∧Hid (St3 X (0+(j:Int)) cj wr)∧Hid (∀a,cj=.on a→j≤16)∧Hid (Kp3 X w1 wr)∧Hid (cj.bind (chkRes j (pr.rs.drop j))=R)) (fun ii _=>pr.rs.length - (intOf ii).toNat)
 case atStart=>exact⟨0,_,rfl,Nat.zero_le _,HS1,Lib.hid fun _ _=>Nat.zero_le _,Lib.hid (Kept.refl _ _),Lib.hid (by rw[List.drop_zero];exact HR.out)⟩
 case round=>
  obtain⟨j,cj,rfl,hj,hS,hJ,hK,hC⟩:=hrel
  clear HS1
  have p2:(0:Int)≤(j:Int):=Int.natCast_nonneg _
  have p3:pr.rs.length≤140737488355328:=hl1
  have row:=HRow.out _ hK.out
  have q0:=cell_at row 0
  have q1:=cell_at row 1
  have q2:=cell_at row 2
  have q3:=cell_at row 3
  clear row
  simp only[sl7,sl8,sl9]at q0 q1 q2 q3
  obtain⟨it,p,er,hr,hc⟩:=hS.out.box
  obtain⟨-,c1,c2⟩:=hr.cells
  obtain⟨-,f1,-⟩:=hr.frz
  by_cases hlt:j<pr.rs.length
  ·have p1:(j:Int)<(pr.rs.length:Int):=by omega
   rcases hc with ⟨a,rfl,rfl,rfl,rfl⟩|⟨q,rfl,rfl,hne⟩
   ·obtain⟨y,hy⟩:∃y,pr.rs[j]? =some y:=⟨_,List.getElem?_eq_getElem hlt⟩
    have hdrop:pr.rs.drop j=y::pr.rs.drop (j+1):=by
     have:=List.drop_eq_getElem_cons hlt
     rw[List.getElem?_eq_getElem hlt]at hy
     injection hy with hy
     rw[this,hy]
    have hmem:=List.mem_of_getElem? hy
    obtain⟨rb,ro,hda,hrb,-⟩:=(HI.out _ hK.out).rrow (by intro h0;rw[h0]at hlt;simp at hlt)
    have HRw:Hid (∀W,Kp3 X w1 W→ReAt W rb (ro+j*2) y∧ReIn W B y):=Lib.hid fun W hk=>by
     obtain⟨rb2,ro2,hda2,-,hrow2⟩:=(HI.out _ hk).rrow (by intro h0;rw[h0]at hlt;simp at hlt)
     rw[hda]at hda2
     injection hda2 with hda2
     injection hda2 with e1 e2 e3
     subst e1 e2
     exact⟨hrow2 j y hy,(HI.out _ hk).rsub y hmem⟩
    have HC1:Hid ((((((Chk.on ⟨a.p+1,a.it⟩).bind (ck (limE j 16))).bind (ck (orE (nameB y.nm&&decide (0<y.fs.length)) 1))).bind (ck (chkFls 0 y.fs))).bind (chkRes (j+1) (pr.rs.drop (j+1))))=R):=Lib.hid (by
     have h:=hC.out
     rw[hdrop,Chk.bind_on,chkRes_c]at h
     exact h)
    have HQ0:Hid (∀W,Kp3 X w1 W→W.cell? ⟨Y,0,none⟩=some (.slice (some ⟨rb,ro,none⟩) pr.rs.length pr.rd.c)):=Lib.hid fun W hk=>by rw[←hda];exact cell_at (HRow.out _ hk) 0
    clear hda
    obtain⟨-,hit,hq1,hq2⟩:=hS.out
    have hj16:=hJ.out a rfl
    have e1:IntKind.i64.wrap (a.p+1)=a.p+1:=by rw[IntKind.wrap_i64];omega
    obtain⟨w6,hw6⟩:∃w6,wr.setCell ⟨X,1,none⟩ (.int .i64 (a.p+1))=w6:=⟨_,rfl⟩
    have HK6:Hid (Kp3 X w1 w6):=Lib.hid (by rw[←hw6];exact Kp3.set hK.out 1 _)
    have HS6:Hid (St3 X (0+((j+1:Nat):Int)) (.on ⟨a.p+1,a.it⟩) w6):=Lib.hid (by rw[←hw6];exact⟨hr.set1 _,hit,by dsimp only;omega,by dsimp only;push_cast;omega⟩)
    have HW6:=Lib.hid hw6
    clear hr hS hit hq1 hq2 hK hw6
    have CN:=Lib.hid (fun W=>rname_any y.nm (HRw.out _ HK6.out).2.nm W)
    clear hdrop hy hmem hC
    go_wp2_with fail
    simp only[HW6.out]
    go_wp2_with fail
    go_at_call 122
    refine (rlimit_any X _ _ (decide ((j:Int)<16)) w6 HS6.out).mono ?_
    rintro e w7 ⟨rfl,hs7,hk7⟩
    have HS7:=Lib.hid hs7
    have HK7:=Lib.hid (HK6.out.trans hk7)
    clear hs7 hk7 HS6 HK6
    clear f1 c1 c2
    have HJ9:Hid (∀a',((((Chk.on ⟨a.p+1,a.it⟩).bind (ck (limE j 16))).bind (ck (orE (nameB y.nm&&decide (0<y.fs.length)) 1))).bind (ck (chkFls 0 y.fs)))=.on a'→j+1≤16):=Lib.hid fun a' h=>by
     obtain⟨a0,h⟩:=bind_on_inv h
     obtain⟨a0,h⟩:=bind_on_inv h
     exact limE_on h
    obtain⟨⟨z0,z1⟩,-⟩:=HRw.out _ HK7.out
    have row:=HRow.out _ HK7.out
    have q0:=cell_at row 0
    have q1:=cell_at row 1
    have q2:=cell_at row 2
    have q3:=cell_at row 3
    clear row
    simp only[sl7,sl8,sl9]at q0 q1 q2 q3
    replace q0:=HQ0.out _ HK7.out
    cases hnb:nameB y.nm with
    |false=>
     rw[hnb]at CN HC1 HJ9
     go_wp2_with (go_at_call 98;refine (CN.out _).mono ?_;rintro e w9 ⟨rfl,rfl⟩)
     go_at_call 123
     refine (rarg_any X _ _ (false&&decide (0<y.fs.length)) w7 HS7.out).mono ?_
     exact qsaqx_7
    |true=>
     rw[hnb]at CN HC1 HJ9
     go_wp2_with (go_at_call 98;refine (CN.out _).mono ?_;rintro e w9 ⟨rfl,rfl⟩)
     go_at_call 123
     refine (rarg_any X _ _ (true&&decide (0<y.fs.length)) w7 HS7.out).mono ?_
     exact qsaqx_7
   ·have t1:(er==0)=false:=by simpa using hne
    have HZ:Hid (St3 X 16 R wr):=Lib.hid (by have h:=hC.out;rw[Chk.bind_bad]at h;rw[←h];exact hS.out)
    clear hne hC hS hr c1 f1 hJ
    exact qsaqx_4
  ·obtain rfl:j=pr.rs.length:=by omega
   have HZ:Hid (St3 X 16 R wr):=Lib.hid (by
    have h:=hC.out
    rw[List.drop_length]at h
    have h2:cj=R:=by rw[←h];cases cj with|on a=>rw[Chk.bind_on,chkRes]|bad p e=>rfl
    rw[←h2]
    exact hS.out.mono fun a ha=>by have:=hJ.out a ha;omega)
   clear hC hS hc c1 c2 hr f1 hJ
   exact qsaqx_4
end Go.Proofs.YtkklogikakcanaaGreatDoor
namespace Go.Proofs.YtkklogikakcanaaGreatDoor
open Go Go.RowKit
theorem below_dr3 (B:Nat) (w:World) (k:Nat):Below B w (w.drewN k):=⟨rfl,rfl,rfl,Nat.le_refl _,fun _ _=>rfl⟩
theorem Kp3.back {B X:Nat} {w w2 W:World} (hk:Kp3 X w2 W) (hb:Below B w w2) (hB:B≤w.heap.size) (hBX:B≤X):Below B w W:=
 hb.trans (Kept.below hk (Nat.le_trans hB hb.size) (fun k h=>by rw[h];exact hBX))
set_option maxHeartbeats 16000000 in
set_option maxRecDepth 100000 in
theorem rfault3_any (pr:Pr) (w:World) (hI:PrIn w w.heap.size pr):
  Calls Tryz.prog 82 #[pr.val] w fun e w'=>e=.returned (.tuple #[.int .i64 (faultOf pr).1,.int .i64 (faultOf pr).2])∧Below w.heap.size w w':=by
 obtain⟨R2,hR2⟩:∃R2,(chkRes 0 pr.rs ⟨-1,0⟩).bind (chkShs 0 pr.ss)=R2:=⟨_,rfl⟩
 obtain⟨R3,hR3⟩:∃R3,R2.bind (chkFus 0 pr.fs)=R3:=⟨_,rfl⟩
 obtain⟨R4,hR4⟩:∃R4,R3.bind (chkThs 0 pr.ts)=R4:=⟨_,rfl⟩
 have hF:∀q e,(match R4 with|.bad q e=>(q,e)|.on _=>((0:Int),(0:Int)))=(q,e)→faultOf pr=(q,e):=fun q e h=>by unfold faultOf chkPr;rw[hR2,hR3,hR4];exact h
 have HF:=Lib.hid hF
 generalize faultOf pr=F at*
 have HR3:=Lib.hid hR3
 have HR4:=Lib.hid hR4
 obtain⟨B,hB⟩:∃B,w.heap.size=B:=⟨_,rfl⟩
 rw[hB]at hI ⊢
 obtain⟨w1,hw1⟩:∃w1,w.alloc (prObj pr)=w1:=⟨_,rfl⟩
 have hb1:Below w.heap.size w w1:=by rw[←hw1];exact (Below.refl _ _).alloc (Nat.le_refl _) _
 have hs1:w1.heap.size=B+1:=by rw[←hw1,World.size_alloc,hB]
 have x1:w1.heap[B]? =some (prObj pr):=by rw[←hw1,←hB];exact heap_alloc_new w _
 obtain⟨X,hX⟩:∃X,B+1=X:=⟨_,rfl⟩
 obtain⟨w2,hw2⟩:∃w2,w1.alloc (.cells #[.int .i64 0,.int .i64 (-1),.int .i64 0] 180 (0,0))=w2:=⟨_,rfl⟩
 have hb2:Below w1.heap.size w1 w2:=by rw[←hw2];exact (Below.refl _ _).alloc (Nat.le_refl _) _
 have hb12:Below B w w2:=by rw[←hB];exact hb1.trans (hb2.mono hb1.size)
 have x2:w2.heap[X]? =some (.cells #[.int .i64 0,.int .i64 (-1),.int .i64 0] 180 (0,0)):=by rw[←hw2,←hX,←hs1];exact heap_alloc_new w1 _
 have y2:w2.heap[B]? =some (prObj pr):=(hb2.block B (by omega)).trans x1
 have hBX:B≤X:=by omega
 have HS2:Hid (St3 X 0 (.on ⟨-1,0⟩) w2):=Lib.hid ⟨x2,by decide,by decide,by decide⟩
 have HRow:Hid (∀W,Kp3 X w2 W→W.heap[B]? =some (prObj pr)):=Lib.hid fun W hk=>(hk.block B (Array.getElem?_eq_some_iff.1 y2).1 (by omega)).trans y2
 have HBl:Hid (∀W,Kp3 X w2 W→Below B w W):=Lib.hid fun W hk=>hk.back hb12 (by omega) hBX
 have HI:Hid (∀W,Kp3 X w2 W→PrIn W B pr):=Lib.hid fun W hk=>hI.keep (hk.back hb12 (by omega) hBX) (Nat.le_refl B)
 have HNm:Hid ((w.alloc (prObj pr)).alloc (.cells #[.int .i64 0,.int .i64 (-1),.int .i64 0] 180 (0,0))=w2∧w.heap.size=B∧B+1=X):=Lib.hid ⟨by rw[hw1,hw2],hB,hX⟩
 have hl3:=hI.flen
 have hl4:=hI.tlen
 have CH:=Lib.hid (rheads3_any B X hBX pr w2 HS2.out (HI.out _ (Kept.refl _ _)))
 rw[hR2]at CH
 have HK2:Hid (Kp3 X w2 w2):=Lib.hid (Kept.refl _ _)
 have q0:=cell_at y2 0
 have q1:=cell_at y2 1
 have q2:=cell_at y2 2
 have q3:=cell_at y2 3
 simp only[sl7,sl8,sl9]at q0 q1 q2 q3
 rw[←hw2,←hw1,←hB]at q0 q1 q2 q3
 clear hF hR2 hR3 hR4 hI hB hw1 hw2 hb1 hb2 hb12 hs1 x1 x2 y2 hX HS2
 dsimp only[Pr.val]
 go_enter Tryz.func82,Tryz.ntmps82
 go_wp2_with fail
 simp only[HNm.out.1,HNm.out.2.1,HNm.out.2.2]
 go_at_call 121
 refine CH.out.mono ?_
 rintro e w3 ⟨rfl,hs3,hk3⟩
 have HS3:=Lib.hid hs3
 have HK3:=Lib.hid hk3
 clear hs3 hk3 CH q0 q1 q2 q3 HNm HK2
 go_wp2_with fail
 go_loopw [5] (fun ii wr=>∃(j:Nat) (cj:Chk),ii=.int .i64 j∧j≤pr.fs.length∧Hid (St3 X (2000+(j:Int)) cj wr)∧Hid (∀a,cj=.on a→j≤32)∧Hid (Kp3 X w2 wr)∧Hid (cj.bind (chkFus j (pr.fs.drop j))=R3)) (fun ii _=>pr.fs.length - (intOf ii).toNat)
 case atStart=>exact⟨0,_,rfl,Nat.zero_le _,HS3,Lib.hid fun _ _=>Nat.zero_le _,HK3,Lib.hid (by rw[List.drop_zero];exact HR3.out)⟩
 case round=>
  obtain⟨j,cj,rfl,hj,hS,hJ,hK,hC⟩:=hrel
  clear HS3 HK3
  have p2:(0:Int)≤(j:Int):=Int.natCast_nonneg _
  have p3:pr.fs.length≤140737488355328:=hl3
  have row:=HRow.out _ hK.out
  have q0:=cell_at row 0
  have q1:=cell_at row 1
  have q2:=cell_at row 2
  have q3:=cell_at row 3
  clear row
  simp only[sl7,sl8,sl9]at q0 q1 q2 q3
  obtain⟨it,p,er,hr,hc⟩:=hS.out.box
  obtain⟨-,c1,c2⟩:=hr.cells
  by_cases hlt:j<pr.fs.length
  ·have p1:(j:Int)<(pr.fs.length:Int):=by omega
   rcases hc with ⟨a,rfl,rfl,rfl,rfl⟩|⟨q,rfl,rfl,hne⟩
   ·obtain⟨y,hy⟩:∃y,pr.fs[j]? =some y:=⟨_,List.getElem?_eq_getElem hlt⟩
    have hdrop:pr.fs.drop j=y::pr.fs.drop (j+1):=by
     have:=List.drop_eq_getElem_cons hlt
     rw[List.getElem?_eq_getElem hlt]at hy
     injection hy with hy
     rw[this,hy]
    have hmem:=List.mem_of_getElem? hy
    obtain⟨rb,ro,hda,hrb,hrow⟩:=(HI.out _ hK.out).frow (by intro h0;rw[h0]at hlt;simp at hlt)
    obtain⟨z0,z1,z2,z3,z4,z5⟩:=hrow j y hy
    have HYi:Hid (∀W,Kp3 X w2 W→FuIn W B y):=Lib.hid fun W hk=>(HI.out _ hk).fsub y hmem
    have HC1:Hid (((((((Chk.on ⟨a.p+1,a.it⟩).bind (ck (limE j 32))).bind (ck (orE (nameB y.nm) 1))).bind (ck (chkFls 0 y.ps))).bind (ck (tyRes y.t))).bind (chkSts y.body 1)).bind (chkFus (j+1) (pr.fs.drop (j+1)))=R3):=Lib.hid (by
     have h:=hC.out
     rw[hdrop,Chk.bind_on,chkFus_c]at h
     exact h)
    have HJ9:Hid (∀a',(((((Chk.on ⟨a.p+1,a.it⟩).bind (ck (limE j 32))).bind (ck (orE (nameB y.nm) 1))).bind (ck (chkFls 0 y.ps))).bind (ck (tyRes y.t))).bind (chkSts y.body 1)=.on a'→j+1≤32):=Lib.hid fun a' h=>by
     obtain⟨a0,h⟩:=bind_on_inv h
     obtain⟨a0,h⟩:=bind_on_inv h
     obtain⟨a0,h⟩:=bind_on_inv h
     obtain⟨a0,h⟩:=bind_on_inv h
     exact limE_on h
    obtain⟨Z,hZ⟩:∃Z,wr.heap.size=Z:=⟨_,rfl⟩
    obtain⟨w5,hw5⟩:∃w5,wr.alloc (.cells #[.string ⟨y.nm.toArray⟩,.slice y.pd.a y.ps.length y.pd.c,.int .u8 y.t.k,.string ⟨y.t.nm.toArray⟩,.int .i64 y.t.n,.slice y.bd.a y.body.length y.bd.c] 53 (0,0))=w5:=⟨_,rfl⟩
    have hb5:Below wr.heap.size wr w5:=by rw[←hw5];exact (Below.refl _ _).alloc (Nat.le_refl _) _
    have x5:w5.heap[Z]? =some (.cells #[.string ⟨y.nm.toArray⟩,.slice y.pd.a y.ps.length y.pd.c,.int .u8 y.t.k,.string ⟨y.t.nm.toArray⟩,.int .i64 y.t.n,.slice y.bd.a y.body.length y.bd.c] 53 (0,0)):=by rw[←hw5,←hZ];exact heap_alloc_new wr _
    have hXl:=hr.lt
    have HFr:Hid (∀W,Kp3 X w5 W→W.heap[Z]? =some (.cells #[.string ⟨y.nm.toArray⟩,.slice y.pd.a y.ps.length y.pd.c,.int .u8 y.t.k,.string ⟨y.t.nm.toArray⟩,.int .i64 y.t.n,.slice y.bd.a y.body.length y.bd.c] 53 (0,0))):=Lib.hid fun W hk=>(hk.block Z (Array.getElem?_eq_some_iff.1 x5).1 (by omega)).trans x5
    have hr5:=hr.below hb5
    obtain⟨-,d1,d2⟩:=hr5.cells
    obtain⟨-,f1,-⟩:=hr5.frz
    obtain⟨-,hit,hq1,hq2⟩:=hS.out
    have hj16:=hJ.out a rfl
    have e1:IntKind.i64.wrap (a.p+1)=a.p+1:=by rw[IntKind.wrap_i64];omega
    obtain⟨w6,hw6⟩:∃w6,w5.setCell ⟨X,1,none⟩ (.int .i64 (a.p+1))=w6:=⟨_,rfl⟩
    have HT6:Hid (Kp3 X w5 w6):=Lib.hid (by rw[←hw6];exact Kp3.set (Kept.refl _ _) 1 _)
    have HK6:Hid (Kp3 X w2 w6):=Lib.hid (hK.out.trans ((Kept.of_below hb5).trans HT6.out))
    have HS6:Hid (St3 X (2000+((j+1:Nat):Int)) (.on ⟨a.p+1,a.it⟩) w6):=Lib.hid (by rw[←hw6];exact⟨hr5.set1 _,hit,by dsimp only;omega,by dsimp only;push_cast;omega⟩)
    have HW6:Hid (wr.heap.size=Z∧wr.alloc (.cells #[.string ⟨y.nm.toArray⟩,.slice y.pd.a y.ps.length y.pd.c,.int .u8 y.t.k,.string ⟨y.t.nm.toArray⟩,.int .i64 y.t.n,.slice y.bd.a y.body.length y.bd.c] 53 (0,0))=w5∧w5.setCell ⟨X,1,none⟩ (.int .i64 (a.p+1))=w6):=Lib.hid ⟨hZ,hw5,hw6⟩
    have CN:=Lib.hid (fun W=>rname_any y.nm (HYi.out _ HK6.out).nm W)
    have HTk:Hid (∀W,Kp3 X w6 W→Kp3 X w5 W):=Lib.hid fun W hk=>HT6.out.trans hk
    rw[←hw5]at d1 d2 f1
    clear hdrop hy hmem hC hrow hb5 x5 hr5 hr hS hit hq1 hq2 hw5 hw6 hZ hXl
    rw[hda]at q2
    clear hda
    go_wp2_with fail
    simp only[HW6.out.1,HW6.out.2.1,HW6.out.2.2]
    clear z0 z1 z2 z3 z4 z5 d1 d2 f1 c1 c2 q0 q1 q2 q3
    go_at_call 122
    refine (rlimit_any X _ _ (decide ((j:Int)<32)) w6 HS6.out).mono ?_
    rintro e w7 ⟨rfl,hs,hk⟩
    have HS7:=Lib.hid hs
    have HK7:=Lib.hid (HK6.out.trans hk)
    have HT7:=Lib.hid (HT6.out.trans hk)
    clear hs hk HS6 HK6 HT6
    have row:=HFr.out _ HT7.out
    have r0:=cell_at row 0
    have r1:=cell_at row 1
    have r2:=cell_at row 2
    have r3:=cell_at row 3
    have r4:=cell_at row 4
    have r5:=cell_at row 5
    simp only[sl7,sl8,sl9]at r0 r1 r2 r3 r4 r5
    clear row
    go_wp2_with (go_at_call 98;refine (CN.out _).mono ?_;rintro e w99 ⟨rfl,rfl⟩)
    go_at_call 123
    refine (rarg_any X _ _ (nameB y.nm) w7 HS7.out).mono ?_
    rintro e w8 ⟨rfl,hs,hk⟩
    have HS8:=Lib.hid hs
    have HK8:=Lib.hid (HK7.out.trans hk)
    have HT8:=Lib.hid (HT7.out.trans hk)
    clear hs hk HS7 HK7 HT7
    clear r0 r1 r2 r3 r4 r5
    have row:=HFr.out _ HT8.out
    have r0:=cell_at row 0
    have r1:=cell_at row 1
    have r2:=cell_at row 2
    have r3:=cell_at row 3
    have r4:=cell_at row 4
    have r5:=cell_at row 5
    simp only[sl7,sl8,sl9]at r0 r1 r2 r3 r4 r5
    clear row
    go_wp2_with fail
    go_at_call 124
    refine (rfields3_any B X hBX _ _ y.pd y.ps w8 HS8.out (HYi.out _ HK8.out).ps).mono ?_
    rintro e w9 ⟨rfl,hs,hk⟩
    have HS9:=Lib.hid hs
    have HK9:=Lib.hid (HK8.out.trans hk)
    have HT9:=Lib.hid (HT8.out.trans hk)
    clear hs hk HS8 HK8 HT8
    clear r0 r1 r2 r3 r4 r5
    have row:=HFr.out _ HT9.out
    have r0:=cell_at row 0
    have r1:=cell_at row 1
    have r2:=cell_at row 2
    have r3:=cell_at row 3
    have r4:=cell_at row 4
    have r5:=cell_at row 5
    simp only[sl7,sl8,sl9]at r0 r1 r2 r3 r4 r5
    clear row
    go_wp2_with fail
    go_at_call 125
    have CT:=rnotype_any y.t w9
    have htr:tyRes y.t=if noTy y.t then 0 else tyForm y.t:=rfl
    cases hno:noTy y.t with
    |true=>
     rw[hno]at CT htr
     rw[if_pos rfl]at htr
     rw[htr,Chk.bind_ck]at HC1 HJ9
     clear hno htr
     refine (CT).mono ?_
     rintro e w10 ⟨rfl,hb⟩
     have HS10:=Lib.hid (HS9.out.below hb)
     have HK10:=Lib.hid (HK9.out.trans (Kept.of_below hb))
     have HT10:=Lib.hid (HT9.out.trans (Kept.of_below hb))
     clear hb HS9 HK9 HT9
     clear r0 r1 r2 r3 r4 r5
     have row:=HFr.out _ HT10.out
     have r0:=cell_at row 0
     have r1:=cell_at row 1
     have r2:=cell_at row 2
     have r3:=cell_at row 3
     have r4:=cell_at row 4
     have r5:=cell_at row 5
     simp only[sl7,sl8,sl9]at r0 r1 r2 r3 r4 r5
     clear row
     go_wp2_with fail
     go_at_call 127
     refine (rstmts3_any B X hBX _ (by have:=hj16;omega) _ y.body (Nat.le_refl _) y.bd 1 _ w10 HS10.out ((HYi.out _ HK10.out).body) (by decide) (fun _ _=>by decide)).mono ?_
     rintro e w13 ⟨rfl,hs,hk⟩
     have HS13:=Lib.hid hs
     have HK13:=Lib.hid (HK10.out.trans hk)
     have HT13:=Lib.hid (HT10.out.trans hk)
     clear hs hk HS10 HK10 HT10
     clear r0 r1 r2 r3 r4 r5
     go_wp2_with fail
     go_roundw
     case rel=>exact⟨j+1,_,by go_num,by omega,HS13,HJ9,HK13,HC1⟩
     case measure=>simp[intOf];omega
    |false=>
     rw[hno]at CT htr
     rw[if_neg (by decide)]at htr
     rw[htr]at HC1 HJ9
     clear hno htr
     refine (CT).mono ?_
     rintro e w10 ⟨rfl,hb⟩
     have HS10:=Lib.hid (HS9.out.below hb)
     have HK10:=Lib.hid (HK9.out.trans (Kept.of_below hb))
     have HT10:=Lib.hid (HT9.out.trans (Kept.of_below hb))
     clear hb HS9 HK9 HT9
     clear r0 r1 r2 r3 r4 r5
     have row:=HFr.out _ HT10.out
     have r0:=cell_at row 0
     have r1:=cell_at row 1
     have r2:=cell_at row 2
     have r3:=cell_at row 3
     have r4:=cell_at row 4
     have r5:=cell_at row 5
     simp only[sl7,sl8,sl9]at r0 r1 r2 r3 r4 r5
     clear row
     go_wp2_with fail
     go_at_call 57
     refine (rtform_any y.t (HYi.out _ HK10.out).t w10).mono ?_
     rintro e w11 ⟨rfl,hb⟩
     have HS11:=Lib.hid (HS10.out.below hb)
     have HK11:=Lib.hid (HK10.out.trans (Kept.of_below hb))
     have HT11:=Lib.hid (HT10.out.trans (Kept.of_below hb))
     clear hb HS10 HK10 HT10
     clear r0 r1 r2 r3 r4 r5
     have row:=HFr.out _ HT11.out
     have r0:=cell_at row 0
     have r1:=cell_at row 1
     have r2:=cell_at row 2
     have r3:=cell_at row 3
     have r4:=cell_at row 4
     have r5:=cell_at row 5
     simp only[sl7,sl8,sl9]at r0 r1 r2 r3 r4 r5
     clear row
     go_wp2_with fail
     go_at_call 126
     refine (rkeep_any X _ _ (tyForm y.t) w11 HS11.out).mono ?_
     rintro e w12 ⟨rfl,hs,hk⟩
     have HS12:=Lib.hid hs
     have HK12:=Lib.hid (HK11.out.trans hk)
     have HT12:=Lib.hid (HT11.out.trans hk)
     clear hs hk HS11 HK11 HT11
     clear r0 r1 r2 r3 r4 r5
     have row:=HFr.out _ HT12.out
     have r0:=cell_at row 0
     have r1:=cell_at row 1
     have r2:=cell_at row 2
     have r3:=cell_at row 3
     have r4:=cell_at row 4
     have r5:=cell_at row 5
     simp only[sl7,sl8,sl9]at r0 r1 r2 r3 r4 r5
     clear row
     go_wp2_with fail
     go_at_call 127
     refine (rstmts3_any B X hBX _ (by have:=hj16;omega) _ y.body (Nat.le_refl _) y.bd 1 _ w12 HS12.out ((HYi.out _ HK12.out).body) (by decide) (fun _ _=>by decide)).mono ?_
     rintro e w13 ⟨rfl,hs,hk⟩
     have HS13:=Lib.hid hs
     have HK13:=Lib.hid (HK12.out.trans hk)
     have HT13:=Lib.hid (HT12.out.trans hk)
     clear hs hk HS12 HK12 HT12
     clear r0 r1 r2 r3 r4 r5
     go_wp2_with fail
     go_roundw
     case rel=>exact⟨j+1,_,by go_num,by omega,HS13,HJ9,HK13,HC1⟩
     case measure=>simp[intOf];omega
   ·have t1:(er==0)=false:=by simpa using hne
    have HZ:Hid (St3 X 3000 R3 wr):=Lib.hid (by have h:=hC.out;rw[Chk.bind_bad]at h;rw[←h];exact hS.out)
    clear hne hC hS hr c1 hJ
    exact qsaqx_2
  ·obtain rfl:j=pr.fs.length:=by omega
   have HZ:Hid (St3 X 3000 R3 wr):=Lib.hid (by
    have h:=hC.out
    rw[List.drop_length]at h
    have h2:cj=R3:=by rw[←h];cases cj with|on a=>rw[Chk.bind_on,chkFus]|bad p e=>rfl
    rw[←h2]
    exact hS.out.mono fun a ha=>by have:=hJ.out a ha;omega)
   clear hC hS hc c1 c2 hr hJ
   exact qsaqx_2
set_option maxHeartbeats 4000000 in
theorem rcheck3_any (pr:Pr) (w:World) (hI:PrIn w w.heap.size pr):
  Calls Tryz.prog 42 #[pr.val] w fun e w'=>e=.returned (.int .i64 (faultOf pr).2)∧Below w.heap.size w w':=by
 have HB0:=Lib.hid (fun o=>(Below.refl w.heap.size w).alloc (Nat.le_refl _) o)
 have C:Hid (∀W,Below w.heap.size w W→Calls Tryz.prog 82 #[pr.val] W fun e w'=>e=.returned (.tuple #[.int .i64 (faultOf pr).1,.int .i64 (faultOf pr).2])∧Below W.heap.size W w'):=Lib.hid fun W hb=>rfault3_any pr W (hI.keep hb hb.size)
 generalize faultOf pr=F at*
 clear hI
 dsimp only[Pr.val]at C ⊢
 go_enter Tryz.func42,Tryz.ntmps42
 go_wp2_with (go_at_call 82;with_reducible refine (C.out _ (HB0.out _)).mono ?_;rintro e w1 ⟨rfl,hb1⟩;have HB1:=Lib.hid ((HB0.out _).trans (hb1.mono (HB0.out _).size));clear hb1)
 go_ret
 exact⟨rfl,HB1.out⟩
end Go.Proofs.YtkklogikakcanaaGreatDoor
