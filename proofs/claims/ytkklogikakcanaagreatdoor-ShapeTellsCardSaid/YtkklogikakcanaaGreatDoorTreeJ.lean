import Derived.Test.YtkklogikakcanaaGreatDoorTreeG
set_option linter.unusedVariables false
set_option linter.unusedSimpArgs false
open List renaming getElem?_toArray → sl7, getElem?_cons_zero → sl8, getElem?_cons_succ → sl9
namespace Go.Proofs.YtkklogikakcanaaGreatDoor
open Go.RowKit
theorem qe5co_2 {P:Prop} (h:P:=by
 rw[hce]at CX
 obtain rfl:Chk.bad (pj+1) er=R:=by rw[←HCv.out,chkXt_bad (a:=⟨pj+1,(itj+1)⟩) hce];rfl
 refine CX.mono ?_
 rintro e vx ⟨rfl,hk⟩
 exact⟨rfl,⟨rfl,(hk.block Pb HTv.out.pl.lt HTv.out.hPW).trans HTv.out.pl⟩,(HKw.out _ HKv.out).trans (KpP.ofW hk)⟩):P:=h
theorem qe5co_1 {P:Prop} (h:P:=by
 clear r0 r1 r2 r3 r4 r5 r6 r7 r8 r9 r10 r11 r12 r13 r14 r15 r16 r17 r18 r19 r20
 have row:=HRow.out _ HKb.out
 have r0:=cell_at row 0
 have r1:=cell_at row 1
 have r2:=cell_at row 2
 have r3:=cell_at row 3
 have r4:=cell_at row 4
 have r5:=cell_at row 5
 have r6:=cell_at row 6
 have r7:=cell_at row 7
 have r8:=cell_at row 8
 have r9:=cell_at row 9
 have r10:=cell_at row 10
 have r11:=cell_at row 11
 have r12:=cell_at row 12
 have r13:=cell_at row 13
 have r14:=cell_at row 14
 have r15:=cell_at row 15
 have r16:=cell_at row 16
 have r17:=cell_at row 17
 have r18:=cell_at row 18
 have r19:=cell_at row 19
 have r20:=cell_at row 20
 clear row
 simp only[sl7,sl8,sl9]at r0 r1 r2 r3 r4 r5 r6 r7 r8 r9 r10 r11 r12 r13 r14 r15 r16 r17 r18 r19 r20
 go_wp2_with fail
 have CE:=ih (stCounts els) (Nat.lt_of_lt_of_le hse hsz) els (Nat.le_refl _) ed (deep+1) m3 p3 vb HTb.out (hsI.out.els.keep (HKr.out _ HKb.out) (Nat.le_refl B)) HN3.out.1 (by omega) HN3.out.2.1 HN3.out.2.2.1
 rw[show ((deep+1:Nat):Int)=(deep:Int)+1 by push_cast;rfl]at CE
 cases hce:chkSts els (deep+1) ⟨p3,m3⟩ with
 |bad q er=>
  rw[hce]at CE
  obtain rfl:Chk.bad q er=R:=by rw[←HC3.out,hce];rfl
  refine CE.mono ?_
  rintro e vc ⟨⟨rfl,hp⟩,hk⟩
  exact⟨rfl,⟨rfl,hp⟩,(HKw.out _ HKb.out).trans hk⟩
 |on a4=>
 rw[hce]at CE
 obtain⟨p4,m4⟩:=a4
 have hpp:=chkSts_p els (deep+1) _ _ hce
 have hii:=chkSts_it els (deep+1) _ _ hce HN3.out.1
 dsimp only at hpp hii
 have HC4:Hid (chkSts (l.drop (j+1)) deep ⟨p4,m4⟩=R):=Lib.hid (by rw[←HC3.out,hce];rfl)
 have HN4:Hid (m4≤1024∧-1≤p4∧p4≤10000+m4):=Lib.hid ⟨by omega,by have:=HN3.out;omega,by have:=HN3.out;omega⟩
 clear hce hpp hii
 refine CE.mono ?_
 rintro e vc ⟨⟨rfl,hw,hp⟩,hk⟩
 have HTc:=Lib.hid (HTb.out.kept hk hw hp)
 have HKc:=Lib.hid (HKw.out _ (HKb.out.trans hk))
 clear hw hp hk CE HTb HKb HC3 HN3
 clear r0 r1 r2 r3 r4 r5 r6 r7 r8 r9 r10 r11 r12 r13 r14 r15 r16 r17 r18 r19 r20
 go_wp2_with fail
 go_roundw
 case rel=>exact⟨j+1,m4,p4,by go_num,by omega,HTc,HN4,HKc,HC4⟩
 case measure=>simp[intOf];omega):P:=h
set_option maxHeartbeats 16000000 in
set_option maxRecDepth 100000 in
theorem wlist_any (B Wb Mb Pb:Nat):∀(sz:Nat) (l:List St),stCounts l≤sz→∀(d:Hd) (deep it:Nat) (p:Int) (w:World),TwP B Wb Mb Pb it p w→StsIn w B d l→it≤1024→deep≤1000000→-1≤p→p≤10000+it→
  Calls Tryz.prog 114 #[.pointer (some ⟨Wb,0,none⟩),.slice d.a l.length d.c,.int .i64 (deep:Int),.func (.func 76) #[] #[.pointer (some ⟨Pb,0,none⟩)]] w
   fun e w'=>SEnds Wb Mb Pb (chkSts l deep ⟨p,it⟩) e w'∧KpP Wb Pb w w':=by
 intro sz
 induction sz using Nat.strongRecOn with
 |ind sz ih=>
 intro l hsz0 d deep it p w hT hI hit hdp hp1 hp2
 obtain⟨R,hR⟩:∃R,chkSts l deep ⟨p,it⟩=R:=⟨_,rfl⟩
 rw[hR]
 have HR:=Lib.hid hR
 have HI:=Lib.hid hI
 have HT:=Lib.hid hT
 have HBl:Hid (∀W,KpP Wb Pb w W→Below B w W):=Lib.hid fun W h=>hT.blw h
 have HTi0:Hid (it≤1024∧-1≤p∧p≤10000+it):=Lib.hid ⟨hit,hp1,hp2⟩
 clear hR hI hT hit hp1 hp2
 go_enter Tryz.func114,Tryz.ntmps114
 go_wp2_with fail
 go_loopw [13] (fun ii wr=>∃(j itj:Nat) (pj:Int),ii=.int .i64 j∧j≤l.length∧Hid (TwP B Wb Mb Pb itj pj wr)∧Hid (itj≤1024∧-1≤pj∧pj≤10000+itj)∧Hid (KpP Wb Pb w wr)∧Hid (chkSts (l.drop j) deep ⟨pj,itj⟩=R)) (fun ii _=>l.length - (intOf ii).toNat)
 case atStart=>exact⟨0,it,p,rfl,Nat.zero_le _,HT,HTi0,Lib.hid (Kept.refl _ _),Lib.hid (by rw[List.drop_zero];exact HR.out)⟩
 case round=>
  obtain⟨j,itj,pj,rfl,hj,hT,HTi,hK,hC⟩:=hrel
  clear HT HTi0
  have p2:(0:Int)≤(j:Int):=Int.natCast_nonneg _
  have p3:l.length≤140737488355328:=HI.out.len
  by_cases hlt:j<l.length
  ·obtain⟨s,hs⟩:∃s,l[j]? =some s:=⟨_,List.getElem?_eq_getElem hlt⟩
   have hdrop:l.drop j=s::l.drop (j+1):=by
    have:=List.drop_eq_getElem_cons hlt
    rw[List.getElem?_eq_getElem hlt]at hs
    injection hs with hs
    rw[this,hs]
   have hIr:=HI.out.keep (HBl.out _ hK.out) (Nat.le_refl B)
   obtain⟨rb,ro,hda,hrb,hrow⟩:=hIr.row (by intro h0;rw[h0]at hlt;simp at hlt)
   have hsa:=hrow j s hs
   have hsI:=Lib.hid (hIr.sub s (List.mem_of_getElem? hs))
   have hsc:stCount s≤stCounts l:=stCounts_mem (List.mem_of_getElem? hs)
   have hC1:=Lib.hid hC.out
   rw[hdrop,chkSts_bind]at hC1
   obtain⟨k,nm,t,x,y,bd,body,ed,els⟩:=s
   have hz:=hsa.cells
   clear hsa
   dsimp only[St.k,St.nm,St.t,St.x,St.y,St.bd,St.body,St.ed,St.els]at hz hC1
   rw[stCount]at hsc
   have hsb:stCounts body<stCounts l:=by omega
   have hse:stCounts els<stCounts l:=by omega
   have hsz:=hsz0
   obtain⟨X6,hX6⟩:∃X6,wr.heap.size=X6:=⟨_,rfl⟩
   obtain⟨w6,hw6⟩:∃w6,wr.alloc (stObj k nm t x y bd.a body.length bd.c ed.a els.length ed.c)=w6:=⟨_,rfl⟩
   have hb6:Below wr.heap.size wr w6:=by rw[←hw6];exact (Below.refl _ _).alloc (Nat.le_refl _) _
   have x6:w6.heap[X6]? =some (stObj k nm t x y bd.a body.length bd.c ed.a els.length ed.c):=by rw[←hw6,←hX6];exact heap_alloc_new wr _
   have HT6:=Lib.hid (hT.out.below hb6)
   have hlw:=hT.out.lt
   have HRow:Hid (∀W,KpP Wb Pb w6 W→W.heap[X6]? =some (stObj k nm t x y bd.a body.length bd.c ed.a els.length ed.c)):=
    Lib.hid fun W hk=>(hk.block X6 (Array.getElem?_eq_some_iff.1 x6).1 (fun hh=>by rcases hh with hh|hh<;>omega)).trans x6
   have HKw:Hid (∀W,KpP Wb Pb w6 W→KpP Wb Pb w W):=Lib.hid fun W hk=>(hK.out.trans (Kept.of_below hb6)).trans hk
   have HKr:Hid (∀W,KpP Wb Pb w6 W→Below B wr W):=Lib.hid fun W hk=>hT.out.blw ((Kept.of_below hb6).trans hk)
   have HNm:=Lib.hid (And.intro hX6 hw6)
   have p1:(j:Int)<(l.length:Int):=by omega
   clear hb6 x6 hrow hIr hdrop hs hX6 hw6 hsc hlw hT hK hC
   rw[hda]
   go_wp2_with (first|(refine wpList_load_list rfl 72 _ rfl _ rfl (stCells k nm t x y bd.a body.length bd.c ed.a els.length ed.c) _ hz Tryz.underlying72 rfl (stSize ..) ?_)|(refine wpList_store_row rfl 72 _ _ rfl wr.heap.size (stCells k nm t x y bd.a body.length bd.c ed.a els.length ed.c).toArray rfl rfl 72 _ (heap_alloc_new wr _) (stSizeA ..) rfl (stOne ..) ?_;rw[alloc_setRow _ _ _ _ _ rfl]))
   simp only[HNm.out.1,HNm.out.2]
   refine (at_any Pb pj w6 HT6.out.pl HTi.out.2.1 (by have:=HTi.out;omega)).mono ?_
   rintro e w7 ⟨rfl,hw7⟩
   have HT7:Hid (TwP B Wb Mb Pb itj (pj+1) w7):=Lib.hid (by rw[hw7];exact HT6.out.step)
   have HK7:Hid (KpP Wb Pb w6 w7):=Lib.hid (by rw[hw7];exact KpP.setP (Kept.refl _ _) _)
   clear hw7 hz
   go_wp2_with fail
   refine (witem_any Wb Mb itj deep (by have:=HTi.out;omega) hdp w7 HT7.out.tw.wk).mono ?_
   rintro e w8 ⟨he,hw8⟩
   cases hi:itemC deep itj with
   |error er=>
    rw[hi]at he
    subst he
    obtain rfl:Chk.bad (pj+1) er=R:=by rw[←hC1.out,chkSt_item (a:=⟨pj+1,itj⟩) hi];rfl
    subst hw8
    exact⟨rfl,⟨rfl,(Below.heap_setCell _ _ _ _ HT7.out.hPW).trans HT7.out.pl⟩,(HKw.out _ HK7.out).setW 0 _⟩
   |ok it1=>
   rw[hi]at he
   subst he
   obtain⟨hit1,hle,hd16⟩:=itemC_ok hi
   subst hit1
   have HT8:Hid (TwP B Wb Mb Pb (itj+1) (pj+1) w8):=Lib.hid (by rw[hw8];exact HT7.out.next)
   have HK8:Hid (KpP Wb Pb w6 w8):=Lib.hid (by rw[hw8];exact HK7.out.setW 0 _)
   have HI1:=Lib.hid hi
   clear hw8 HT7 HK7 hi
   have hz:=row_cells (vs:=stCells k nm t x y bd.a body.length bd.c ed.a els.length ed.c) (HRow.out _ HK8.out)
   go_wp2_with (refine wpList_load_list rfl 72 _ rfl _ rfl (stCells k nm t x y bd.a body.length bd.c ed.a els.length ed.c) _ hz Tryz.underlying72 rfl (stSize ..) ?_)
   clear hz
   refine (form_any (.mk k nm t x y bd body ed els) hsI.out.nm w8 HT8.out.tw.g.g).mono ?_
   rintro e v ⟨rfl,hb9⟩
   have HTv:=Lib.hid (HT8.out.below hb9)
   have HKv:=Lib.hid (HK8.out.trans (Kept.of_below hb9))
   have HMv:Hid (itj+1≤itj+1∧itj+1≤1024):=Lib.hid ⟨Nat.le_refl _,hle⟩
   clear hb9 HT8 HK8 hle
   have row:=HRow.out _ HKv.out
   have r0:=cell_at row 0
   have r1:=cell_at row 1
   have r2:=cell_at row 2
   have r3:=cell_at row 3
   have r4:=cell_at row 4
   have r5:=cell_at row 5
   have r6:=cell_at row 6
   have r7:=cell_at row 7
   have r8:=cell_at row 8
   have r9:=cell_at row 9
   have r10:=cell_at row 10
   have r11:=cell_at row 11
   have r12:=cell_at row 12
   have r13:=cell_at row 13
   have r14:=cell_at row 14
   have r15:=cell_at row 15
   have r16:=cell_at row 16
   have r17:=cell_at row 17
   have r18:=cell_at row 18
   have r19:=cell_at row 19
   have r20:=cell_at row 20
   clear row
   simp only[sl7,sl8,sl9]at r0 r1 r2 r3 r4 r5 r6 r7 r8 r9 r10 r11 r12 r13 r14 r15 r16 r17 r18 r19 r20
   cases hf:stForm (.mk k nm t x y bd body ed els) with
   |false=>
    obtain rfl:Chk.bad (pj+1) 1=R:=by rw[←hC1.out,chkSt_form (a:=⟨pj+1,itj⟩) HI1.out hf];rfl
    clear hf
    go_wp2_with fail
    go_at_call 111
    with_reducible refine (want_no _ _ _).mono ?_
    rintro e w99 ⟨rfl,rfl⟩
    exact⟨rfl,⟨rfl,HTv.out.pl⟩,HKw.out _ HKv.out⟩
   |true=>
   have HF:=Lib.hid hf
   clear hf
   go_wp2_with fail
   go_at_call 111
   with_reducible refine (want_yes _ _ _).mono ?_
   rintro e w99 ⟨rfl,rfl⟩
   by_cases hk1:k=1
   ·subst hk1
    go_wp2_with fail
    by_cases htf:tyForm t=0
    ·have HTf:=Lib.hid htf
     have CT:=wtyp_any (some ⟨Wb,0,none⟩) t hsI.out.t.nm v HTv.out.tw.g.g
     rw[if_pos htf]at CT
     clear htf
     refine CT.mono ?_
     rintro e vt ⟨rfl,hbt⟩
     have HTvt:=Lib.hid (HTv.out.below hbt)
     have HKvt:=Lib.hid (HKv.out.trans (Kept.of_below hbt))
     have HMvt:=HMv
     clear hbt HTv HKv HMv CT
     clear r0 r1 r2 r3 r4 r5 r6 r7 r8 r9 r10 r11 r12 r13 r14 r15 r16 r17 r18 r19 r20
     have row:=HRow.out _ HKvt.out
     have r0:=cell_at row 0
     have r1:=cell_at row 1
     have r2:=cell_at row 2
     have r3:=cell_at row 3
     have r4:=cell_at row 4
     have r5:=cell_at row 5
     have r6:=cell_at row 6
     have r7:=cell_at row 7
     have r8:=cell_at row 8
     have r9:=cell_at row 9
     have r10:=cell_at row 10
     have r11:=cell_at row 11
     have r12:=cell_at row 12
     have r13:=cell_at row 13
     have r14:=cell_at row 14
     have r15:=cell_at row 15
     have r16:=cell_at row 16
     have r17:=cell_at row 17
     have r18:=cell_at row 18
     have r19:=cell_at row 19
     have r20:=cell_at row 20
     clear row
     simp only[sl7,sl8,sl9]at r0 r1 r2 r3 r4 r5 r6 r7 r8 r9 r10 r11 r12 r13 r14 r15 r16 r17 r18 r19 r20
     go_wp2_with fail
     cases hnx:noEx x with
     |true=>
      have HCvtn:Hid ((stRest body els deep ⟨pj+1,itj+1⟩).bind (chkSts (l.drop (j+1)) deep)=R):=Lib.hid (by
       rw[←hC1.out,chkSt_go (a:=⟨pj+1,itj⟩) HI1.out HF.out (fun _=>HTf.out),if_pos (.inr ⟨(.inl rfl),hnx⟩)];rfl)
      refine (none_any x vt).mono ?_
      rintro e vtn ⟨rfl,hbn⟩
      have HTvtn:=Lib.hid (HTvt.out.below hbn)
      have HKvtn:=Lib.hid (HKvt.out.trans (Kept.of_below hbn))
      have HMvtn:=HMvt
      clear hbn HTvt HKvt HMvt
      clear r0 r1 r2 r3 r4 r5 r6 r7 r8 r9 r10 r11 r12 r13 r14 r15 r16 r17 r18 r19 r20
      have row:=HRow.out _ HKvtn.out
      have r0:=cell_at row 0
      have r1:=cell_at row 1
      have r2:=cell_at row 2
      have r3:=cell_at row 3
      have r4:=cell_at row 4
      have r5:=cell_at row 5
      have r6:=cell_at row 6
      have r7:=cell_at row 7
      have r8:=cell_at row 8
      have r9:=cell_at row 9
      have r10:=cell_at row 10
      have r11:=cell_at row 11
      have r12:=cell_at row 12
      have r13:=cell_at row 13
      have r14:=cell_at row 14
      have r15:=cell_at row 15
      have r16:=cell_at row 16
      have r17:=cell_at row 17
      have r18:=cell_at row 18
      have r19:=cell_at row 19
      have r20:=cell_at row 20
      clear row
      simp only[sl7,sl8,sl9]at r0 r1 r2 r3 r4 r5 r6 r7 r8 r9 r10 r11 r12 r13 r14 r15 r16 r17 r18 r19 r20
      go_wp2_with fail
      have CB:=ih (stCounts body) (Nat.lt_of_lt_of_le hsb hsz) body (Nat.le_refl _) bd (deep+1) (itj+1) (pj+1) vtn HTvtn.out (hsI.out.body.keep (HKr.out _ HKvtn.out) (Nat.le_refl B)) HMvtn.out.2 (by omega) (by have:=HTi.out;omega) (by have:=HTi.out;have:=HMvtn.out;omega)
      rw[show ((deep+1:Nat):Int)=(deep:Int)+1 by push_cast;rfl]at CB
      cases hcb:chkSts body (deep+1) ⟨pj+1,(itj+1)⟩ with
      |bad q er=>
       rw[hcb]at CB
       obtain rfl:Chk.bad q er=R:=by rw[←HCvtn.out,stRest,hcb];rfl
       refine CB.mono ?_
       rintro e vb ⟨⟨rfl,hp⟩,hk⟩
       exact⟨rfl,⟨rfl,hp⟩,(HKw.out _ HKvtn.out).trans hk⟩
      |on a3=>
      rw[hcb]at CB
      obtain⟨p3,m3⟩:=a3
      have hpp:=chkSts_p body (deep+1) _ _ hcb
      have hii:=chkSts_it body (deep+1) _ _ hcb HMvtn.out.2
      dsimp only at hpp hii
      have HC3:Hid ((chkSts els (deep+1) ⟨p3,m3⟩).bind (chkSts (l.drop (j+1)) deep)=R):=Lib.hid (by rw[←HCvtn.out,stRest,hcb];rfl)
      have HN3:Hid (m3≤1024∧-1≤p3∧p3≤10000+m3∧itj+1≤m3):=Lib.hid ⟨by omega,by have:=HTi.out;omega,by have:=HTi.out;have:=HMvtn.out;omega,by have:=HMvtn.out;omega⟩
      clear hcb hpp hii
      refine CB.mono ?_
      rintro e vb ⟨⟨rfl,hw,hp⟩,hk⟩
      have HTb:=Lib.hid (HTvtn.out.kept hk hw hp)
      have HKb:=Lib.hid (HKvtn.out.trans hk)
      clear hw hp hk CB HTvtn HKvtn HCvtn HMvtn
      exact qe5co_1
     |false=>
      have HCvtn:Hid ((chkXt x ⟨pj+1,itj+1⟩).bind (fun a=>(stRest body els deep a).bind (chkSts (l.drop (j+1)) deep))=R):=Lib.hid (by
       rw[←hC1.out,chkSt_go (a:=⟨pj+1,itj⟩) HI1.out HF.out (fun _=>HTf.out),if_neg (by rw[hnx];decide)]
       cases chkXt x ⟨pj+1,itj+1⟩<;>rfl)
      refine (none_any x vt).mono ?_
      rintro e vtn ⟨rfl,hbn⟩
      have HTvtn:=Lib.hid (HTvt.out.below hbn)
      have HKvtn:=Lib.hid (HKvt.out.trans (Kept.of_below hbn))
      have HMvtn:=HMvt
      clear hbn HTvt HKvt HMvt
      clear r0 r1 r2 r3 r4 r5 r6 r7 r8 r9 r10 r11 r12 r13 r14 r15 r16 r17 r18 r19 r20
      have row:=HRow.out _ HKvtn.out
      have r0:=cell_at row 0
      have r1:=cell_at row 1
      have r2:=cell_at row 2
      have r3:=cell_at row 3
      have r4:=cell_at row 4
      have r5:=cell_at row 5
      have r6:=cell_at row 6
      have r7:=cell_at row 7
      have r8:=cell_at row 8
      have r9:=cell_at row 9
      have r10:=cell_at row 10
      have r11:=cell_at row 11
      have r12:=cell_at row 12
      have r13:=cell_at row 13
      have r14:=cell_at row 14
      have r15:=cell_at row 15
      have r16:=cell_at row 16
      have r17:=cell_at row 17
      have r18:=cell_at row 18
      have r19:=cell_at row 19
      have r20:=cell_at row 20
      clear row
      simp only[sl7,sl8,sl9]at r0 r1 r2 r3 r4 r5 r6 r7 r8 r9 r10 r11 r12 r13 r14 r15 r16 r17 r18 r19 r20
      go_wp2_with fail
      have CX:=wexpr_any B Wb Mb _ x (Nat.le_refl _) 1 (itj+1) vtn HTvtn.out.tw (hsI.out.x.keep (HKr.out _ HKvtn.out) (Nat.le_refl B)) HMvtn.out.2 (by decide)
      rw[show ((1:Nat):Int)=1 from rfl]at CX
      cases hce:chkEx x 1 (itj+1) with
      |error er=>
       rw[hce]at CX
       obtain rfl:Chk.bad (pj+1) er=R:=by rw[←HCvtn.out,chkXt_bad (a:=⟨pj+1,(itj+1)⟩) hce];rfl
       refine CX.mono ?_
       rintro e vtnx ⟨rfl,hk⟩
       exact⟨rfl,⟨rfl,(hk.block Pb HTvtn.out.pl.lt HTvtn.out.hPW).trans HTvtn.out.pl⟩,(HKw.out _ HKvtn.out).trans (KpP.ofW hk)⟩
      |ok m1=>
      rw[hce]at CX
      have HCvtnx:Hid ((stRest body els deep ⟨pj+1,m1⟩).bind (chkSts (l.drop (j+1)) deep)=R):=Lib.hid (by rw[←HCvtn.out,chkXt_ok (a:=⟨pj+1,(itj+1)⟩) hce];rfl)
      have hmo:=chkEx_ok x 1 (itj+1) m1 hce
      have HMvtnx:Hid (itj+1≤m1∧m1≤1024):=Lib.hid ⟨by have:=HMvtn.out.1;omega,hmo.2.1⟩
      clear hce hmo
      refine CX.mono ?_
      rintro e vtnx ⟨⟨rfl,hw⟩,hk⟩
      have HTvtnx:=Lib.hid (HTvtn.out.ofW hk hw)
      have HKvtnx:=Lib.hid (HKvtn.out.trans (KpP.ofW hk))
      clear hw hk CX HTvtn HKvtn HCvtn HMvtn
      clear r0 r1 r2 r3 r4 r5 r6 r7 r8 r9 r10 r11 r12 r13 r14 r15 r16 r17 r18 r19 r20
      have row:=HRow.out _ HKvtnx.out
      have r0:=cell_at row 0
      have r1:=cell_at row 1
      have r2:=cell_at row 2
      have r3:=cell_at row 3
      have r4:=cell_at row 4
      have r5:=cell_at row 5
      have r6:=cell_at row 6
      have r7:=cell_at row 7
      have r8:=cell_at row 8
      have r9:=cell_at row 9
      have r10:=cell_at row 10
      have r11:=cell_at row 11
      have r12:=cell_at row 12
      have r13:=cell_at row 13
      have r14:=cell_at row 14
      have r15:=cell_at row 15
      have r16:=cell_at row 16
      have r17:=cell_at row 17
      have r18:=cell_at row 18
      have r19:=cell_at row 19
      have r20:=cell_at row 20
      clear row
      simp only[sl7,sl8,sl9]at r0 r1 r2 r3 r4 r5 r6 r7 r8 r9 r10 r11 r12 r13 r14 r15 r16 r17 r18 r19 r20
      go_wp2_with fail
      have CB:=ih (stCounts body) (Nat.lt_of_lt_of_le hsb hsz) body (Nat.le_refl _) bd (deep+1) m1 (pj+1) vtnx HTvtnx.out (hsI.out.body.keep (HKr.out _ HKvtnx.out) (Nat.le_refl B)) HMvtnx.out.2 (by omega) (by have:=HTi.out;omega) (by have:=HTi.out;have:=HMvtnx.out;omega)
      rw[show ((deep+1:Nat):Int)=(deep:Int)+1 by push_cast;rfl]at CB
      cases hcb:chkSts body (deep+1) ⟨pj+1,m1⟩ with
      |bad q er=>
       rw[hcb]at CB
       obtain rfl:Chk.bad q er=R:=by rw[←HCvtnx.out,stRest,hcb];rfl
       refine CB.mono ?_
       rintro e vb ⟨⟨rfl,hp⟩,hk⟩
       exact⟨rfl,⟨rfl,hp⟩,(HKw.out _ HKvtnx.out).trans hk⟩
      |on a3=>
      rw[hcb]at CB
      obtain⟨p3,m3⟩:=a3
      have hpp:=chkSts_p body (deep+1) _ _ hcb
      have hii:=chkSts_it body (deep+1) _ _ hcb HMvtnx.out.2
      dsimp only at hpp hii
      have HC3:Hid ((chkSts els (deep+1) ⟨p3,m3⟩).bind (chkSts (l.drop (j+1)) deep)=R):=Lib.hid (by rw[←HCvtnx.out,stRest,hcb];rfl)
      have HN3:Hid (m3≤1024∧-1≤p3∧p3≤10000+m3∧itj+1≤m3):=Lib.hid ⟨by omega,by have:=HTi.out;omega,by have:=HTi.out;have:=HMvtnx.out;omega,by have:=HMvtnx.out;omega⟩
      clear hcb hpp hii
      refine CB.mono ?_
      rintro e vb ⟨⟨rfl,hw,hp⟩,hk⟩
      have HTb:=Lib.hid (HTvtnx.out.kept hk hw hp)
      have HKb:=Lib.hid (HKvtnx.out.trans hk)
      clear hw hp hk CB HTvtnx HKvtnx HCvtnx HMvtnx
      exact qe5co_1
    ·have CT:=wtyp_any (some ⟨Wb,0,none⟩) t hsI.out.t.nm v HTv.out.tw.g.g
     rw[if_neg htf]at CT
     obtain rfl:Chk.bad (pj+1) (tyForm t)=R:=by rw[←hC1.out,chkSt_ty (a:=⟨pj+1,itj⟩) HI1.out HF.out rfl htf];rfl
     refine CT.mono ?_
     rintro e vt ⟨rfl,hbt⟩
     exact⟨rfl,⟨rfl,(HTv.out.below hbt).pl⟩,(HKw.out _ HKv.out).trans (Kept.of_below hbt)⟩
   by_cases hk7:k=7
   ·clear hk1
    subst hk7
    go_wp2_with fail
    cases hnx:noEx x with
    |true=>
     have HCvn:Hid ((stRest body els deep ⟨pj+1,itj+1⟩).bind (chkSts (l.drop (j+1)) deep)=R):=Lib.hid (by
      rw[←hC1.out,chkSt_go (a:=⟨pj+1,itj⟩) HI1.out HF.out (fun hh=>absurd hh (by decide)),if_pos (.inr ⟨(.inr rfl),hnx⟩)];rfl)
     refine (none_any x v).mono ?_
     rintro e vn ⟨rfl,hbn⟩
     have HTvn:=Lib.hid (HTv.out.below hbn)
     have HKvn:=Lib.hid (HKv.out.trans (Kept.of_below hbn))
     have HMvn:=HMv
     clear hbn HTv HKv HMv
     clear r0 r1 r2 r3 r4 r5 r6 r7 r8 r9 r10 r11 r12 r13 r14 r15 r16 r17 r18 r19 r20
     have row:=HRow.out _ HKvn.out
     have r0:=cell_at row 0
     have r1:=cell_at row 1
     have r2:=cell_at row 2
     have r3:=cell_at row 3
     have r4:=cell_at row 4
     have r5:=cell_at row 5
     have r6:=cell_at row 6
     have r7:=cell_at row 7
     have r8:=cell_at row 8
     have r9:=cell_at row 9
     have r10:=cell_at row 10
     have r11:=cell_at row 11
     have r12:=cell_at row 12
     have r13:=cell_at row 13
     have r14:=cell_at row 14
     have r15:=cell_at row 15
     have r16:=cell_at row 16
     have r17:=cell_at row 17
     have r18:=cell_at row 18
     have r19:=cell_at row 19
     have r20:=cell_at row 20
     clear row
     simp only[sl7,sl8,sl9]at r0 r1 r2 r3 r4 r5 r6 r7 r8 r9 r10 r11 r12 r13 r14 r15 r16 r17 r18 r19 r20
     go_wp2_with fail
     have CB:=ih (stCounts body) (Nat.lt_of_lt_of_le hsb hsz) body (Nat.le_refl _) bd (deep+1) (itj+1) (pj+1) vn HTvn.out (hsI.out.body.keep (HKr.out _ HKvn.out) (Nat.le_refl B)) HMvn.out.2 (by omega) (by have:=HTi.out;omega) (by have:=HTi.out;have:=HMvn.out;omega)
     rw[show ((deep+1:Nat):Int)=(deep:Int)+1 by push_cast;rfl]at CB
     cases hcb:chkSts body (deep+1) ⟨pj+1,(itj+1)⟩ with
     |bad q er=>
      rw[hcb]at CB
      obtain rfl:Chk.bad q er=R:=by rw[←HCvn.out,stRest,hcb];rfl
      refine CB.mono ?_
      rintro e vb ⟨⟨rfl,hp⟩,hk⟩
      exact⟨rfl,⟨rfl,hp⟩,(HKw.out _ HKvn.out).trans hk⟩
     |on a3=>
     rw[hcb]at CB
     obtain⟨p3,m3⟩:=a3
     have hpp:=chkSts_p body (deep+1) _ _ hcb
     have hii:=chkSts_it body (deep+1) _ _ hcb HMvn.out.2
     dsimp only at hpp hii
     have HC3:Hid ((chkSts els (deep+1) ⟨p3,m3⟩).bind (chkSts (l.drop (j+1)) deep)=R):=Lib.hid (by rw[←HCvn.out,stRest,hcb];rfl)
     have HN3:Hid (m3≤1024∧-1≤p3∧p3≤10000+m3∧itj+1≤m3):=Lib.hid ⟨by omega,by have:=HTi.out;omega,by have:=HTi.out;have:=HMvn.out;omega,by have:=HMvn.out;omega⟩
     clear hcb hpp hii
     refine CB.mono ?_
     rintro e vb ⟨⟨rfl,hw,hp⟩,hk⟩
     have HTb:=Lib.hid (HTvn.out.kept hk hw hp)
     have HKb:=Lib.hid (HKvn.out.trans hk)
     clear hw hp hk CB HTvn HKvn HCvn HMvn
     exact qe5co_1
    |false=>
     have HCvn:Hid ((chkXt x ⟨pj+1,itj+1⟩).bind (fun a=>(stRest body els deep a).bind (chkSts (l.drop (j+1)) deep))=R):=Lib.hid (by
      rw[←hC1.out,chkSt_go (a:=⟨pj+1,itj⟩) HI1.out HF.out (fun hh=>absurd hh (by decide)),if_neg (by rw[hnx];decide)]
      cases chkXt x ⟨pj+1,itj+1⟩<;>rfl)
     refine (none_any x v).mono ?_
     rintro e vn ⟨rfl,hbn⟩
     have HTvn:=Lib.hid (HTv.out.below hbn)
     have HKvn:=Lib.hid (HKv.out.trans (Kept.of_below hbn))
     have HMvn:=HMv
     clear hbn HTv HKv HMv
     clear r0 r1 r2 r3 r4 r5 r6 r7 r8 r9 r10 r11 r12 r13 r14 r15 r16 r17 r18 r19 r20
     have row:=HRow.out _ HKvn.out
     have r0:=cell_at row 0
     have r1:=cell_at row 1
     have r2:=cell_at row 2
     have r3:=cell_at row 3
     have r4:=cell_at row 4
     have r5:=cell_at row 5
     have r6:=cell_at row 6
     have r7:=cell_at row 7
     have r8:=cell_at row 8
     have r9:=cell_at row 9
     have r10:=cell_at row 10
     have r11:=cell_at row 11
     have r12:=cell_at row 12
     have r13:=cell_at row 13
     have r14:=cell_at row 14
     have r15:=cell_at row 15
     have r16:=cell_at row 16
     have r17:=cell_at row 17
     have r18:=cell_at row 18
     have r19:=cell_at row 19
     have r20:=cell_at row 20
     clear row
     simp only[sl7,sl8,sl9]at r0 r1 r2 r3 r4 r5 r6 r7 r8 r9 r10 r11 r12 r13 r14 r15 r16 r17 r18 r19 r20
     go_wp2_with fail
     have CX:=wexpr_any B Wb Mb _ x (Nat.le_refl _) 1 (itj+1) vn HTvn.out.tw (hsI.out.x.keep (HKr.out _ HKvn.out) (Nat.le_refl B)) HMvn.out.2 (by decide)
     rw[show ((1:Nat):Int)=1 from rfl]at CX
     cases hce:chkEx x 1 (itj+1) with
     |error er=>
      rw[hce]at CX
      obtain rfl:Chk.bad (pj+1) er=R:=by rw[←HCvn.out,chkXt_bad (a:=⟨pj+1,(itj+1)⟩) hce];rfl
      refine CX.mono ?_
      rintro e vnx ⟨rfl,hk⟩
      exact⟨rfl,⟨rfl,(hk.block Pb HTvn.out.pl.lt HTvn.out.hPW).trans HTvn.out.pl⟩,(HKw.out _ HKvn.out).trans (KpP.ofW hk)⟩
     |ok m1=>
     rw[hce]at CX
     have HCvnx:Hid ((stRest body els deep ⟨pj+1,m1⟩).bind (chkSts (l.drop (j+1)) deep)=R):=Lib.hid (by rw[←HCvn.out,chkXt_ok (a:=⟨pj+1,(itj+1)⟩) hce];rfl)
     have hmo:=chkEx_ok x 1 (itj+1) m1 hce
     have HMvnx:Hid (itj+1≤m1∧m1≤1024):=Lib.hid ⟨by have:=HMvn.out.1;omega,hmo.2.1⟩
     clear hce hmo
     refine CX.mono ?_
     rintro e vnx ⟨⟨rfl,hw⟩,hk⟩
     have HTvnx:=Lib.hid (HTvn.out.ofW hk hw)
     have HKvnx:=Lib.hid (HKvn.out.trans (KpP.ofW hk))
     clear hw hk CX HTvn HKvn HCvn HMvn
     clear r0 r1 r2 r3 r4 r5 r6 r7 r8 r9 r10 r11 r12 r13 r14 r15 r16 r17 r18 r19 r20
     have row:=HRow.out _ HKvnx.out
     have r0:=cell_at row 0
     have r1:=cell_at row 1
     have r2:=cell_at row 2
     have r3:=cell_at row 3
     have r4:=cell_at row 4
     have r5:=cell_at row 5
     have r6:=cell_at row 6
     have r7:=cell_at row 7
     have r8:=cell_at row 8
     have r9:=cell_at row 9
     have r10:=cell_at row 10
     have r11:=cell_at row 11
     have r12:=cell_at row 12
     have r13:=cell_at row 13
     have r14:=cell_at row 14
     have r15:=cell_at row 15
     have r16:=cell_at row 16
     have r17:=cell_at row 17
     have r18:=cell_at row 18
     have r19:=cell_at row 19
     have r20:=cell_at row 20
     clear row
     simp only[sl7,sl8,sl9]at r0 r1 r2 r3 r4 r5 r6 r7 r8 r9 r10 r11 r12 r13 r14 r15 r16 r17 r18 r19 r20
     go_wp2_with fail
     have CB:=ih (stCounts body) (Nat.lt_of_lt_of_le hsb hsz) body (Nat.le_refl _) bd (deep+1) m1 (pj+1) vnx HTvnx.out (hsI.out.body.keep (HKr.out _ HKvnx.out) (Nat.le_refl B)) HMvnx.out.2 (by omega) (by have:=HTi.out;omega) (by have:=HTi.out;have:=HMvnx.out;omega)
     rw[show ((deep+1:Nat):Int)=(deep:Int)+1 by push_cast;rfl]at CB
     cases hcb:chkSts body (deep+1) ⟨pj+1,m1⟩ with
     |bad q er=>
      rw[hcb]at CB
      obtain rfl:Chk.bad q er=R:=by rw[←HCvnx.out,stRest,hcb];rfl
      refine CB.mono ?_
      rintro e vb ⟨⟨rfl,hp⟩,hk⟩
      exact⟨rfl,⟨rfl,hp⟩,(HKw.out _ HKvnx.out).trans hk⟩
     |on a3=>
     rw[hcb]at CB
     obtain⟨p3,m3⟩:=a3
     have hpp:=chkSts_p body (deep+1) _ _ hcb
     have hii:=chkSts_it body (deep+1) _ _ hcb HMvnx.out.2
     dsimp only at hpp hii
     have HC3:Hid ((chkSts els (deep+1) ⟨p3,m3⟩).bind (chkSts (l.drop (j+1)) deep)=R):=Lib.hid (by rw[←HCvnx.out,stRest,hcb];rfl)
     have HN3:Hid (m3≤1024∧-1≤p3∧p3≤10000+m3∧itj+1≤m3):=Lib.hid ⟨by omega,by have:=HTi.out;omega,by have:=HTi.out;have:=HMvnx.out;omega,by have:=HMvnx.out;omega⟩
     clear hcb hpp hii
     refine CB.mono ?_
     rintro e vb ⟨⟨rfl,hw,hp⟩,hk⟩
     have HTb:=Lib.hid (HTvnx.out.kept hk hw hp)
     have HKb:=Lib.hid (HKvnx.out.trans hk)
     clear hw hp hk CB HTvnx HKvnx HCvnx HMvnx
     exact qe5co_1
   by_cases hk5:k=5
   ·clear hk1 hk7
    subst hk5
    have HCv:Hid ((stRest body els deep ⟨pj+1,itj+1⟩).bind (chkSts (l.drop (j+1)) deep)=R):=Lib.hid (by
     rw[←hC1.out,chkSt_go (a:=⟨pj+1,itj⟩) HI1.out HF.out (fun hh=>absurd hh (by decide)),if_pos (.inl rfl)];rfl)
    go_wp2_with fail
    have CB:=ih (stCounts body) (Nat.lt_of_lt_of_le hsb hsz) body (Nat.le_refl _) bd (deep+1) (itj+1) (pj+1) v HTv.out (hsI.out.body.keep (HKr.out _ HKv.out) (Nat.le_refl B)) HMv.out.2 (by omega) (by have:=HTi.out;omega) (by have:=HTi.out;have:=HMv.out;omega)
    rw[show ((deep+1:Nat):Int)=(deep:Int)+1 by push_cast;rfl]at CB
    cases hcb:chkSts body (deep+1) ⟨pj+1,(itj+1)⟩ with
    |bad q er=>
     rw[hcb]at CB
     obtain rfl:Chk.bad q er=R:=by rw[←HCv.out,stRest,hcb];rfl
     refine CB.mono ?_
     rintro e vb ⟨⟨rfl,hp⟩,hk⟩
     exact⟨rfl,⟨rfl,hp⟩,(HKw.out _ HKv.out).trans hk⟩
    |on a3=>
    rw[hcb]at CB
    obtain⟨p3,m3⟩:=a3
    have hpp:=chkSts_p body (deep+1) _ _ hcb
    have hii:=chkSts_it body (deep+1) _ _ hcb HMv.out.2
    dsimp only at hpp hii
    have HC3:Hid ((chkSts els (deep+1) ⟨p3,m3⟩).bind (chkSts (l.drop (j+1)) deep)=R):=Lib.hid (by rw[←HCv.out,stRest,hcb];rfl)
    have HN3:Hid (m3≤1024∧-1≤p3∧p3≤10000+m3∧itj+1≤m3):=Lib.hid ⟨by omega,by have:=HTi.out;omega,by have:=HTi.out;have:=HMv.out;omega,by have:=HMv.out;omega⟩
    clear hcb hpp hii
    refine CB.mono ?_
    rintro e vb ⟨⟨rfl,hw,hp⟩,hk⟩
    have HTb:=Lib.hid (HTv.out.kept hk hw hp)
    have HKb:=Lib.hid (HKv.out.trans hk)
    clear hw hp hk CB HTv HKv HCv HMv
    exact qe5co_1
   by_cases hk2:k=2
   ·clear hk1 hk7 hk5
    subst hk2
    have HCv:Hid ((chkXt x ⟨pj+1,itj+1⟩).bind (fun a=>(chkXt y a).bind (fun b=>(stRest body els deep b).bind (chkSts (l.drop (j+1)) deep)))=R):=Lib.hid (by
     rw[←hC1.out,chkSt_go (a:=⟨pj+1,itj⟩) HI1.out HF.out (fun hh=>absurd hh (by decide)),if_neg (by omega)]
     simp only[if_pos]
     cases chkXt x ⟨pj+1,itj+1⟩ with
     |bad q er=>rfl
     |on a=>show (chkXt y a).bind _=((chkXt y a).bind _).bind _;cases chkXt y a<;>rfl)
    go_wp2_with fail
    have CX:=wexpr_any B Wb Mb _ x (Nat.le_refl _) 1 (itj+1) v HTv.out.tw (hsI.out.x.keep (HKr.out _ HKv.out) (Nat.le_refl B)) HMv.out.2 (by decide)
    rw[show ((1:Nat):Int)=1 from rfl]at CX
    cases hce:chkEx x 1 (itj+1) with
    |error er=>
     exact qe5co_2
    |ok m1=>
    rw[hce]at CX
    have HCvx:Hid ((chkXt y ⟨pj+1,m1⟩).bind (fun b=>(stRest body els deep b).bind (chkSts (l.drop (j+1)) deep))=R):=Lib.hid (by rw[←HCv.out,chkXt_ok (a:=⟨pj+1,(itj+1)⟩) hce];rfl)
    have hmo:=chkEx_ok x 1 (itj+1) m1 hce
    have HMvx:Hid (itj+1≤m1∧m1≤1024):=Lib.hid ⟨by have:=HMv.out.1;omega,hmo.2.1⟩
    clear hce hmo
    refine CX.mono ?_
    rintro e vx ⟨⟨rfl,hw⟩,hk⟩
    have HTvx:=Lib.hid (HTv.out.ofW hk hw)
    have HKvx:=Lib.hid (HKv.out.trans (KpP.ofW hk))
    clear hw hk CX HTv HKv HCv HMv
    clear r0 r1 r2 r3 r4 r5 r6 r7 r8 r9 r10 r11 r12 r13 r14 r15 r16 r17 r18 r19 r20
    have row:=HRow.out _ HKvx.out
    have r0:=cell_at row 0
    have r1:=cell_at row 1
    have r2:=cell_at row 2
    have r3:=cell_at row 3
    have r4:=cell_at row 4
    have r5:=cell_at row 5
    have r6:=cell_at row 6
    have r7:=cell_at row 7
    have r8:=cell_at row 8
    have r9:=cell_at row 9
    have r10:=cell_at row 10
    have r11:=cell_at row 11
    have r12:=cell_at row 12
    have r13:=cell_at row 13
    have r14:=cell_at row 14
    have r15:=cell_at row 15
    have r16:=cell_at row 16
    have r17:=cell_at row 17
    have r18:=cell_at row 18
    have r19:=cell_at row 19
    have r20:=cell_at row 20
    clear row
    simp only[sl7,sl8,sl9]at r0 r1 r2 r3 r4 r5 r6 r7 r8 r9 r10 r11 r12 r13 r14 r15 r16 r17 r18 r19 r20
    go_wp2_with fail
    have CX:=wexpr_any B Wb Mb _ y (Nat.le_refl _) 1 m1 vx HTvx.out.tw (hsI.out.y.keep (HKr.out _ HKvx.out) (Nat.le_refl B)) HMvx.out.2 (by decide)
    rw[show ((1:Nat):Int)=1 from rfl]at CX
    cases hce:chkEx y 1 m1 with
    |error er=>
     rw[hce]at CX
     obtain rfl:Chk.bad (pj+1) er=R:=by rw[←HCvx.out,chkXt_bad (a:=⟨pj+1,m1⟩) hce];rfl
     refine CX.mono ?_
     rintro e vxx ⟨rfl,hk⟩
     exact⟨rfl,⟨rfl,(hk.block Pb HTvx.out.pl.lt HTvx.out.hPW).trans HTvx.out.pl⟩,(HKw.out _ HKvx.out).trans (KpP.ofW hk)⟩
    |ok m2=>
    rw[hce]at CX
    have HCvxx:Hid ((stRest body els deep ⟨pj+1,m2⟩).bind (chkSts (l.drop (j+1)) deep)=R):=Lib.hid (by rw[←HCvx.out,chkXt_ok (a:=⟨pj+1,m1⟩) hce];rfl)
    have hmo:=chkEx_ok y 1 m1 m2 hce
    have HMvxx:Hid (itj+1≤m2∧m2≤1024):=Lib.hid ⟨by have:=HMvx.out.1;omega,hmo.2.1⟩
    clear hce hmo
    refine CX.mono ?_
    rintro e vxx ⟨⟨rfl,hw⟩,hk⟩
    have HTvxx:=Lib.hid (HTvx.out.ofW hk hw)
    have HKvxx:=Lib.hid (HKvx.out.trans (KpP.ofW hk))
    clear hw hk CX HTvx HKvx HCvx HMvx
    clear r0 r1 r2 r3 r4 r5 r6 r7 r8 r9 r10 r11 r12 r13 r14 r15 r16 r17 r18 r19 r20
    have row:=HRow.out _ HKvxx.out
    have r0:=cell_at row 0
    have r1:=cell_at row 1
    have r2:=cell_at row 2
    have r3:=cell_at row 3
    have r4:=cell_at row 4
    have r5:=cell_at row 5
    have r6:=cell_at row 6
    have r7:=cell_at row 7
    have r8:=cell_at row 8
    have r9:=cell_at row 9
    have r10:=cell_at row 10
    have r11:=cell_at row 11
    have r12:=cell_at row 12
    have r13:=cell_at row 13
    have r14:=cell_at row 14
    have r15:=cell_at row 15
    have r16:=cell_at row 16
    have r17:=cell_at row 17
    have r18:=cell_at row 18
    have r19:=cell_at row 19
    have r20:=cell_at row 20
    clear row
    simp only[sl7,sl8,sl9]at r0 r1 r2 r3 r4 r5 r6 r7 r8 r9 r10 r11 r12 r13 r14 r15 r16 r17 r18 r19 r20
    go_wp2_with fail
    have CB:=ih (stCounts body) (Nat.lt_of_lt_of_le hsb hsz) body (Nat.le_refl _) bd (deep+1) m2 (pj+1) vxx HTvxx.out (hsI.out.body.keep (HKr.out _ HKvxx.out) (Nat.le_refl B)) HMvxx.out.2 (by omega) (by have:=HTi.out;omega) (by have:=HTi.out;have:=HMvxx.out;omega)
    rw[show ((deep+1:Nat):Int)=(deep:Int)+1 by push_cast;rfl]at CB
    cases hcb:chkSts body (deep+1) ⟨pj+1,m2⟩ with
    |bad q er=>
     rw[hcb]at CB
     obtain rfl:Chk.bad q er=R:=by rw[←HCvxx.out,stRest,hcb];rfl
     refine CB.mono ?_
     rintro e vb ⟨⟨rfl,hp⟩,hk⟩
     exact⟨rfl,⟨rfl,hp⟩,(HKw.out _ HKvxx.out).trans hk⟩
    |on a3=>
    rw[hcb]at CB
    obtain⟨p3,m3⟩:=a3
    have hpp:=chkSts_p body (deep+1) _ _ hcb
    have hii:=chkSts_it body (deep+1) _ _ hcb HMvxx.out.2
    dsimp only at hpp hii
    have HC3:Hid ((chkSts els (deep+1) ⟨p3,m3⟩).bind (chkSts (l.drop (j+1)) deep)=R):=Lib.hid (by rw[←HCvxx.out,stRest,hcb];rfl)
    have HN3:Hid (m3≤1024∧-1≤p3∧p3≤10000+m3∧itj+1≤m3):=Lib.hid ⟨by omega,by have:=HTi.out;omega,by have:=HTi.out;have:=HMvxx.out;omega,by have:=HMvxx.out;omega⟩
    clear hcb hpp hii
    refine CB.mono ?_
    rintro e vb ⟨⟨rfl,hw,hp⟩,hk⟩
    have HTb:=Lib.hid (HTvxx.out.kept hk hw hp)
    have HKb:=Lib.hid (HKvxx.out.trans hk)
    clear hw hp hk CB HTvxx HKvxx HCvxx HMvxx
    exact qe5co_1
   have b1:(k==1)=false:=by simpa using hk1
   have b7:(k==7)=false:=by simpa using hk7
   have b5:(k==5)=false:=by simpa using hk5
   have b2:(k==2)=false:=by simpa using hk2
   have HCv:Hid ((chkXt x ⟨pj+1,itj+1⟩).bind (fun a=>(stRest body els deep a).bind (chkSts (l.drop (j+1)) deep))=R):=Lib.hid (by
    rw[←hC1.out,chkSt_go (a:=⟨pj+1,itj⟩) HI1.out HF.out (fun hh=>absurd hh hk1),if_neg (by omega)]
    simp only[if_neg hk2]
    cases chkXt x ⟨pj+1,itj+1⟩<;>rfl)
   go_wp2_with fail
   have CX:=wexpr_any B Wb Mb _ x (Nat.le_refl _) 1 (itj+1) v HTv.out.tw (hsI.out.x.keep (HKr.out _ HKv.out) (Nat.le_refl B)) HMv.out.2 (by decide)
   rw[show ((1:Nat):Int)=1 from rfl]at CX
   cases hce:chkEx x 1 (itj+1) with
   |error er=>
    exact qe5co_2
   |ok m1=>
   rw[hce]at CX
   have HCvx:Hid ((stRest body els deep ⟨pj+1,m1⟩).bind (chkSts (l.drop (j+1)) deep)=R):=Lib.hid (by rw[←HCv.out,chkXt_ok (a:=⟨pj+1,(itj+1)⟩) hce];rfl)
   have hmo:=chkEx_ok x 1 (itj+1) m1 hce
   have HMvx:Hid (itj+1≤m1∧m1≤1024):=Lib.hid ⟨by have:=HMv.out.1;omega,hmo.2.1⟩
   clear hce hmo
   refine CX.mono ?_
   rintro e vx ⟨⟨rfl,hw⟩,hk⟩
   have HTvx:=Lib.hid (HTv.out.ofW hk hw)
   have HKvx:=Lib.hid (HKv.out.trans (KpP.ofW hk))
   clear hw hk CX HTv HKv HCv HMv
   clear r0 r1 r2 r3 r4 r5 r6 r7 r8 r9 r10 r11 r12 r13 r14 r15 r16 r17 r18 r19 r20
   have row:=HRow.out _ HKvx.out
   have r0:=cell_at row 0
   have r1:=cell_at row 1
   have r2:=cell_at row 2
   have r3:=cell_at row 3
   have r4:=cell_at row 4
   have r5:=cell_at row 5
   have r6:=cell_at row 6
   have r7:=cell_at row 7
   have r8:=cell_at row 8
   have r9:=cell_at row 9
   have r10:=cell_at row 10
   have r11:=cell_at row 11
   have r12:=cell_at row 12
   have r13:=cell_at row 13
   have r14:=cell_at row 14
   have r15:=cell_at row 15
   have r16:=cell_at row 16
   have r17:=cell_at row 17
   have r18:=cell_at row 18
   have r19:=cell_at row 19
   have r20:=cell_at row 20
   clear row
   simp only[sl7,sl8,sl9]at r0 r1 r2 r3 r4 r5 r6 r7 r8 r9 r10 r11 r12 r13 r14 r15 r16 r17 r18 r19 r20
   go_wp2_with fail
   have CB:=ih (stCounts body) (Nat.lt_of_lt_of_le hsb hsz) body (Nat.le_refl _) bd (deep+1) m1 (pj+1) vx HTvx.out (hsI.out.body.keep (HKr.out _ HKvx.out) (Nat.le_refl B)) HMvx.out.2 (by omega) (by have:=HTi.out;omega) (by have:=HTi.out;have:=HMvx.out;omega)
   rw[show ((deep+1:Nat):Int)=(deep:Int)+1 by push_cast;rfl]at CB
   cases hcb:chkSts body (deep+1) ⟨pj+1,m1⟩ with
   |bad q er=>
    rw[hcb]at CB
    obtain rfl:Chk.bad q er=R:=by rw[←HCvx.out,stRest,hcb];rfl
    refine CB.mono ?_
    rintro e vb ⟨⟨rfl,hp⟩,hk⟩
    exact⟨rfl,⟨rfl,hp⟩,(HKw.out _ HKvx.out).trans hk⟩
   |on a3=>
   rw[hcb]at CB
   obtain⟨p3,m3⟩:=a3
   have hpp:=chkSts_p body (deep+1) _ _ hcb
   have hii:=chkSts_it body (deep+1) _ _ hcb HMvx.out.2
   dsimp only at hpp hii
   have HC3:Hid ((chkSts els (deep+1) ⟨p3,m3⟩).bind (chkSts (l.drop (j+1)) deep)=R):=Lib.hid (by rw[←HCvx.out,stRest,hcb];rfl)
   have HN3:Hid (m3≤1024∧-1≤p3∧p3≤10000+m3∧itj+1≤m3):=Lib.hid ⟨by omega,by have:=HTi.out;omega,by have:=HTi.out;have:=HMvx.out;omega,by have:=HMvx.out;omega⟩
   clear hcb hpp hii
   refine CB.mono ?_
   rintro e vb ⟨⟨rfl,hw,hp⟩,hk⟩
   have HTb:=Lib.hid (HTvx.out.kept hk hw hp)
   have HKb:=Lib.hid (HKvx.out.trans hk)
   clear hw hp hk CB HTvx HKvx HCvx HMvx
   exact qe5co_1
  ·obtain rfl:j=l.length:=by omega
   have HF:Hid (Chk.on ⟨pj,itj⟩=R):=Lib.hid (by have h:=hC.out;rw[List.drop_length,chkSts]at h;exact h)
   obtain rfl:=HF.out
   go_wp2_with fail
   go_end0
   exact⟨⟨rfl,hT.out.tw.wk,hT.out.pl⟩,hK.out⟩
end Go.Proofs.YtkklogikakcanaaGreatDoor
