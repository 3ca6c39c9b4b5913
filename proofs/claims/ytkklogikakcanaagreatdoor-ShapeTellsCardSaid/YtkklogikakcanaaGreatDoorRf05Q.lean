import Derived.Test.YtkklogikakcanaaGreatDoorRf05L
import Derived.Test.YtkklogikakcanaaGreatDoorPrCap
import Derived.Test.YtkklogikakcanaaGreatDoorTypesA
set_option linter.unusedVariables false
set_option linter.unusedSimpArgs false
open List renaming getElem_toArray → sl1, getElem_cons_zero → sl2, getElem_cons_succ → sl3, setIfInBounds_toArray → sl4, set_cons_zero → sl5, set_cons_succ → sl6, getElem?_toArray → sl7, getElem?_cons_zero → sl8, getElem?_cons_succ → sl9
namespace Go.Proofs.YtkklogikakcanaaGreatDoor
open Go Go.RowKit
theorem qxa8g_6 {P:Prop} (h:P:=by
 go_wp2_with fail
 go_at_call 85
 refine (rwant5_any X p _ (!b) 8 v HSv.out).mono ?_
 rintro e v2 ⟨rfl,hs,hk⟩
 have HSv2:=Lib.hid hs
 have HKv2:=Lib.hid (HKv.out.trans hk)
 clear hs hk
 have CK:=Lib.hid (rknown5_any p f.t v2.drew (prIn_any (HP.out v2.drew HKv2.out.drew) (HBs.out _ HKv2.out.drew)))
 generalize knownT p f.t=kn at*
 go_wp2_with fail
 refine wp_region_L (l:=11) (S:=(Below v2.heap.size v2)) (by kernel_rfl) ?_ (fun hHeld=>?_)
 ·((try dsimp only);(exact (Below.refl _ _).drew))
 refine tk 0 ?_
 try simp only[sl1,sl2,sl3,Act.put,sl4,sl5,sl6]
 refine tk 1 ?_
 try simp only[sl1,sl2,sl3,Act.put,sl4,sl5,sl6]
 refine tk 2 ?_
 try simp only[sl1,sl2,sl3,Act.put,sl4,sl5,sl6]
 refine tk 3 ?_
 try simp only[sl1,sl2,sl3,Act.put,sl4,sl5,sl6]
 refine tk 4 ?_ (h2:=by(intro W hSw;obtain⟨p0,p1,p2,p3⟩:=(HSv2.out.below hSw).lk;clear hSw;go_simp;all_goals with_reducible rfl))
 try simp only[sl1,sl2,sl3,Act.put,sl4,sl5,sl6]
 refine tk 5 ?_
 try simp only[sl1,sl2,sl3,Act.put,sl4,sl5,sl6]
 refine tk 6 ?_
 try simp only[sl1,sl2,sl3,Act.put,sl4,sl5,sl6]
 refine tk 7 ?_
 try simp only[sl1,sl2,sl3,Act.put,sl4,sl5,sl6]
 refine tk 8 ?_
 try simp only[sl1,sl2,sl3,Act.put,sl4,sl5,sl6]
 refine tk 9 ?_ (h2:=by(intro W hSw;have z9:=HAf.out W (HKv2.out.trans (Kept.of_below hSw));have z1:=z9.c1;have z2:=z9.c2;have z3:=z9.c3;clear z9 hSw;go_simp;all_goals with_reducible rfl))
 try simp only[sl1,sl2,sl3,Act.put,sl4,sl5,sl6]
 refine wpAnyL_step (j:=10) (o:=_) (by kernel_rfl) rfl (fun K hK=>?_)
 (go_simp;go_at_call 86;refine CK.out.mono ?_;rintro e v3 ⟨rfl,hb⟩;have HB3:Hid (Below v2.heap.size v2 v3):=Lib.hid ((Below.refl _ _).drew.trans hb);clear hb)
 refine hK _ _ ?_ (fun hHeld=>?_)
 ·((try dsimp only);(exact HB3.out))
 clear hK K
 try simp only[sl1,sl2,sl3,Act.put,sl4,sl5,sl6]
 refine wpAnyL_last (j:=11) (o:=_) (by kernel_rfl) rfl (by rfl) (by kernel_rfl) (fun K hK=>?_)
 (go_simp;go_at_call 85;refine (rwant5_any X p _ kn 9 v3 (HSv2.out.below HB3.out)).mono ?_;rintro e v4 ⟨rfl,hs,hk⟩;have HSv4:=Lib.hid hs;have HKv4:=Lib.hid ((HKv2.out.trans (Kept.of_below HB3.out)).trans hk);clear hs hk)
 (refine hK _ _ ?_;clear hK K)
 try simp only[sl1,sl2,sl3,Act.put,sl4,sl5,sl6]
 have HN:Hid ((((Sc.on pl).bind (kq (orE (!b) 8))).bind (kq (orE kn 9))).bind (kq (scFds p ((s.fs.map Fl.nm).take (i+1)).reverse (s.fs.drop (i+1))))=R1):=Lib.hid HC1.out
 clear HSv HKv HSv2 HKv2 HB3 CK HSr HKr CF2 HC1 HBv icap icapn c5
 go_wp2_with fail
 go_roundw
 case rel=>exact⟨i+1,_,by go_num,by omega,HSv4,HKv4,HN⟩
 case measure=>simp[intOf];omega):P:=h
theorem qxa8g_5 {P:Prop} (h:P:=by
 have HSv2:=HSz
 have HKv2:=HKz
 obtain⟨kn,hkn⟩:∃kn,knownT p f.t=kn:=⟨_,rfl⟩
 have HR3:=HR2
 rw[hkn]at HR3 CK
 clear HSz HKz hkn
 refine wp_region_L (l:=8) (S:=(Below wr.heap.size wr)) (by kernel_rfl) ?_ (fun hHeld=>?_)
 ·((try dsimp only);(exact (Below.refl _ _).drew))
 refine tk 0 ?_
 try simp only[sl1,sl2,sl3,Act.put,sl4,sl5,sl6]
 refine tk 1 ?_
 try simp only[sl1,sl2,sl3,Act.put,sl4,sl5,sl6]
 refine tk 2 ?_
 try simp only[sl1,sl2,sl3,Act.put,sl4,sl5,sl6]
 refine tk 3 ?_
 try simp only[sl1,sl2,sl3,Act.put,sl4,sl5,sl6]
 refine tk 4 ?_ (h2:=by(intro W hSw;obtain⟨p0,p1,p2,p3⟩:=(HSv2.out.below hSw).lk;clear hSw;go_simp;all_goals with_reducible rfl))
 try simp only[sl1,sl2,sl3,Act.put,sl4,sl5,sl6]
 refine tk 5 ?_
 try simp only[sl1,sl2,sl3,Act.put,sl4,sl5,sl6]
 refine tk 6 ?_ (h2:=by(intro W hSw;have z9:=HFb.out W (HKv2.out.trans (Kept.of_below hSw));have z2:=cell_at z9 2;have z3:=cell_at z9 3;have z4:=cell_at z9 4;clear z9 hSw;go_simp;all_goals with_reducible rfl))
 try simp only[sl1,sl2,sl3,Act.put,sl4,sl5,sl6]
 refine wpAnyL_step (j:=7) (o:=_) (by kernel_rfl) rfl (fun K hK=>?_)
 (go_simp;go_at_call 86;refine CK.out.mono ?_;rintro e v3 ⟨rfl,hb⟩;have HB3:Hid (Below wr.heap.size wr v3):=Lib.hid ((Below.refl _ _).drew.trans hb);clear hb)
 refine hK _ _ ?_ (fun hHeld=>?_)
 ·((try dsimp only);(exact HB3.out))
 clear hK K
 try simp only[sl1,sl2,sl3,Act.put,sl4,sl5,sl6]
 refine wpAnyL_last (j:=8) (o:=_) (by kernel_rfl) rfl (by rfl) (by kernel_rfl) (fun K hK=>?_)
 (go_simp;go_at_call 85;refine (rwant5_any X p _ kn 9 v3 (HSv2.out.below HB3.out)).mono ?_;rintro e v4 ⟨rfl,hs,hk⟩;have HSv4:=Lib.hid hs;have HKv4:=Lib.hid ((HKv2.out.trans (Kept.of_below HB3.out)).trans hk);clear hs hk)
 (refine hK _ _ ?_;clear hK K)
 try simp only[sl1,sl2,sl3,Act.put,sl4,sl5,sl6]
 have CS:=Lib.hid (HRS.out f.bd (R1.bind (kq (orE kn 9))) f.pd f.ps f.ps.reverse v4.drew (HSv4.out.below (Below.refl _ _).drew) (HP.out _ HKv4.out.drew) (HLc.out _ HKv4.out.drew) (HFu.out _ HKv4.out.drew).body HGv.out.1 HGv.out.2.1 (fun a0 h0=>by
  obtain⟨b0,h1,h2⟩:=sc_on_inv h0
  have h3:=HRa.out b0 h1
  have h4:=(kq_on (pl:=b0) h2).2
  have h5:=HGv.out.2.2.1
  exact⟨by omega,by omega,h3.2⟩) HTy.out HGv.out.2.2.2)
 rw[HR3.out]at CS
 clear HSv2 HB3 CK HR3
 go_wp2_with fail
 refine wp_region_L (l:=12) (S:=(Below v4.heap.size v4)) (by kernel_rfl) ?_ (fun hHeld=>?_)
 ·((try dsimp only);(exact (Below.refl _ _).drew))
 refine tk 0 ?_
 try simp only[sl1,sl2,sl3,Act.put,sl4,sl5,sl6]
 refine tk 1 ?_
 try simp only[sl1,sl2,sl3,Act.put,sl4,sl5,sl6]
 refine tk 2 ?_
 try simp only[sl1,sl2,sl3,Act.put,sl4,sl5,sl6]
 refine tk 3 ?_
 try simp only[sl1,sl2,sl3,Act.put,sl4,sl5,sl6]
 refine tk 4 ?_ (h2:=by(intro W hSw;obtain⟨p0,p1,p2,p3⟩:=(HSv4.out.below hSw).lk;clear hSw;go_simp;all_goals with_reducible rfl))
 try simp only[sl1,sl2,sl3,Act.put,sl4,sl5,sl6]
 refine tk 5 ?_
 try simp only[sl1,sl2,sl3,Act.put,sl4,sl5,sl6]
 refine tk 6 ?_ (h2:=by(intro W hSw;have z9:=HFb.out W (HKv4.out.trans (Kept.of_below hSw));have z2:=cell_at z9 1;clear z9 hSw;go_simp;all_goals with_reducible rfl))
 try simp only[sl1,sl2,sl3,Act.put,sl4,sl5,sl6]
 refine tk 7 ?_
 try simp only[sl1,sl2,sl3,Act.put,sl4,sl5,sl6]
 refine tk 8 ?_
 try simp only[sl1,sl2,sl3,Act.put,sl4,sl5,sl6]
 refine tk 9 ?_ (h2:=by(intro W hSw;have z9:=HFb.out W (HKv4.out.trans (Kept.of_below hSw));have z2:=cell_at z9 5;clear z9 hSw;go_simp;all_goals with_reducible rfl))
 try simp only[sl1,sl2,sl3,Act.put,sl4,sl5,sl6]
 refine tk 10 ?_
 try simp only[sl1,sl2,sl3,Act.put,sl4,sl5,sl6]
 refine tk 11 ?_ (h2:=by(intro W hSw;have z9:=HFb.out W (HKv4.out.trans (Kept.of_below hSw));have z2:=cell_at z9 2;have z3:=cell_at z9 3;have z4:=cell_at z9 4;clear z9 hSw;go_simp;all_goals with_reducible rfl))
 try simp only[sl1,sl2,sl3,Act.put,sl4,sl5,sl6]
 refine wpAnyL_last (j:=12) (o:=_) (by kernel_rfl) rfl (by rfl) (by kernel_rfl) (fun K hK=>?_)
 (go_simp;go_at_call 45;refine CS.out.mono ?_;rintro e v5 ⟨rfl,hs,hk⟩;have HSv5:=Lib.hid hs;have HKv5:=Lib.hid ((HKv4.out.drew).trans hk);clear hs hk)
 (refine hK _ _ ?_;clear hK K)
 try simp only[sl1,sl2,sl3,Act.put,sl4,sl5,sl6]
 have HKe:=Lib.hid (HKw.out _ HKv5.out)
 clear CS
 go_wp2_with fail
 go_end0
 exact⟨rfl,HSv5.out,HKe.out⟩):P:=h
theorem qxa8g_4 {P:Prop} (h:P:=by
 go_wp2_with fail
 refine wp_region_L (l:=17) (S:=(Below v.heap.size v)) (by kernel_rfl) ?_ (fun hHeld=>?_)
 ·((try dsimp only);(exact (Below.refl _ _).drew))
 refine tk 0 ?_
 try simp only[sl1,sl2,sl3,Act.put,sl4,sl5,sl6]
 refine tk 1 ?_
 try simp only[sl1,sl2,sl3,Act.put,sl4,sl5,sl6]
 refine tk 2 ?_
 try simp only[sl1,sl2,sl3,Act.put,sl4,sl5,sl6]
 refine tk 3 ?_
 try simp only[sl1,sl2,sl3,Act.put,sl4,sl5,sl6]
 refine tk 4 ?_ (h2:=by(intro W hSw;obtain⟨p0,p1,p2,p3⟩:=(HSv.out.below hSw).lk;clear hSw;go_simp;all_goals with_reducible rfl))
 try simp only[sl1,sl2,sl3,Act.put,sl4,sl5,sl6]
 refine tk 5 ?_
 try simp only[sl1,sl2,sl3,Act.put,sl4,sl5,sl6]
 refine tk 6 ?_ (h2:=by(intro W hSw;have q1:=HQ1.out W (HKv.out.trans (Kept.of_below hSw));clear hSw;go_simp;all_goals with_reducible rfl))
 try simp only[sl1,sl2,sl3,Act.put,sl4,sl5,sl6]
 refine tk 7 ?_
 try simp only[sl1,sl2,sl3,Act.put,sl4,sl5,sl6]
 refine tk 8 ?_
 try simp only[sl1,sl2,sl3,Act.put,sl4,sl5,sl6]
 refine tk 9 ?_
 try simp only[sl1,sl2,sl3,Act.put,sl4,sl5,sl6]
 refine tk 10 ?_ (h2:=by(intro W hSw;have z0:=(HAt.out W (HKv.out.trans (Kept.of_below hSw))).c0;clear hSw;go_simp;all_goals with_reducible rfl))
 try simp only[sl1,sl2,sl3,Act.put,sl4,sl5,sl6]
 refine wpAnyL_two (i:=11) (j:=15) (by kernel_rfl) rfl rfl (fun K hK=>?_) (fun K hK=>?_)
 ·go_simp
  go_at_call 84
  refine (CF2.out v.drew HBv.out.drew).mono ?_
  rintro e w5 ⟨rfl,hb⟩
  have HB5:Hid (Below v.heap.size v w5):=Lib.hid ((Below.refl _ _).drew.trans hb)
  clear hb
  refine hK _ _ HB5.out (fun hHeld=>?_)
  clear hK K
  (try simp only[sl1,sl2,sl3,Act.put,sl4,sl5,sl6])
  refine tk 12 ?_
  try simp only[sl1,sl2,sl3,Act.put,sl4,sl5,sl6]
  refine tk 13 ?_
  try simp only[sl1,sl2,sl3,Act.put,sl4,sl5,sl6]
  refine tk 14 ?_
  try simp only[sl1,sl2,sl3,Act.put,sl4,sl5,sl6]
  refine wpAnyL_step (j:=15) (o:=_) (by kernel_rfl) rfl (fun K hK=>?_)
  go_simp
  refine hK _ _ ?_ (fun hHeld=>?_)
  ·((try dsimp only);(exact HB5.out.alloc HB5.out.size _))
  clear hK K
  try simp only[sl1,sl2,sl3,Act.put,sl4,sl5,sl6]
  refine wpAnyL_step (j:=16) (o:=_) (by kernel_rfl) rfl (fun K hK=>?_)
  go_simp
  refine hK _ _ ?_ (fun hHeld=>?_)
  ·((try dsimp only);(exact HB5.out.alloc HB5.out.size _))
  clear hK K
  try simp only[sl1,sl2,sl3,Act.put,sl4,sl5,sl6]
  refine wpAnyL_last (j:=17) (o:=_) (by kernel_rfl) rfl (by rfl) (by kernel_rfl) (fun K hK=>?_)
  go_simp
  (refine hK _ _ ?_;clear hK K)
  try simp only[sl1,sl2,sl3,Act.put,sl4,sl5,sl6]
  obtain⟨u,hu⟩:∃u,w5.alloc (tyBox (tyO o2).k (tyO o2).nm (tyO o2).n)=u:=⟨_,rfl⟩
  have HBu:Hid (Below wr.heap.size wr u):=Lib.hid (by rw[←hu];exact HBv.out.trans ((HB5.out.alloc HB5.out.size _).mono HBv.out.size))
  simp only[hu]
  have HSu:=Lib.hid (HSr.out.below HBu.out)
  have HKu:=Lib.hid (HKr.out.trans (Kept.of_below HBu.out))
  clear hu
  exact qxa8g_1
 ·go_simp
  have HBa:Hid (Below v.heap.size v ((v.drew).alloc (tyBox 0 [] 0))):=Lib.hid (((Below.refl v.heap.size v).drew).alloc (Nat.le_refl _) _)
  refine hK _ _ HBa.out (fun hHeld=>?_)
  clear hK K
  (try simp only[sl1,sl2,sl3,Act.put,sl4,sl5,sl6])
  refine wpAnyL_step (j:=11) (o:=_) (by kernel_rfl) rfl (fun K hK=>?_)
  (go_simp;go_at_call 84;refine (CF2.out _ (HBv.out.trans (HBa.out.mono HBv.out.size))).mono ?_;rintro e w5 ⟨rfl,hb⟩;have HB5:Hid (Below v.heap.size v w5):=Lib.hid (HBa.out.trans (hb.mono HBa.out.size));have z5:=(hb.block _ (lt_blk (heap_alloc_new v.drew (tyBox 0 [] 0)))).trans (heap_alloc_new v.drew (tyBox 0 [] 0));have HZ5:Hid (w5.heap[v.heap.size]? =some (tyBox 0 [] 0)):=Lib.hid z5;clear hb z5;have c0:=cell_at HZ5.out 0;have c1:=cell_at HZ5.out 1;have c2:=cell_at HZ5.out 2;have f0:=frz_at HZ5.out 0;have f1:=frz_at HZ5.out 1;have f2:=frz_at HZ5.out 2;simp only[sl7,sl8,sl9]at c0 c1 c2)
  refine hK _ _ ?_ (fun hHeld=>?_)
  ·((try dsimp only);(exact HB5.out))
  clear hK K
  try simp only[sl1,sl2,sl3,Act.put,sl4,sl5,sl6]
  refine tk 12 ?_
  try simp only[sl1,sl2,sl3,Act.put,sl4,sl5,sl6]
  refine tk 13 ?_
  try simp only[sl1,sl2,sl3,Act.put,sl4,sl5,sl6]
  refine tk 14 ?_
  try simp only[sl1,sl2,sl3,Act.put,sl4,sl5,sl6]
  refine wpAnyL_step (j:=16) (o:=_) (by kernel_rfl) rfl (fun K hK=>?_)
  go_simp
  refine hK _ _ ?_ (fun hHeld=>?_)
  ·((try dsimp only);(exact (((HB5.out.setCell (p:=⟨v.heap.size,0,none⟩) (Nat.le_refl _) _).setCell (p:=⟨v.heap.size,1,none⟩) (Nat.le_refl _) _).setCell (p:=⟨v.heap.size,2,none⟩) (Nat.le_refl _) _)))
  clear hK K
  try simp only[sl1,sl2,sl3,Act.put,sl4,sl5,sl6]
  refine wpAnyL_last (j:=17) (o:=_) (by kernel_rfl) rfl (by rfl) (by kernel_rfl) (fun K hK=>?_)
  go_simp
  (refine hK _ _ ?_;clear hK K)
  try simp only[sl1,sl2,sl3,Act.put,sl4,sl5,sl6]
  obtain⟨u,hu⟩:∃u,((w5.setCell ⟨v.heap.size,0,none⟩ (.int .u8 (tyO o2).k)).setCell ⟨v.heap.size,1,none⟩ (.string ⟨(tyO o2).nm.toArray⟩)).setCell ⟨v.heap.size,2,none⟩ (.int .i64 (tyO o2).n)=u:=⟨_,rfl⟩
  have HBu:Hid (Below wr.heap.size wr u):=Lib.hid (by rw[←hu];exact HBv.out.trans ((((HB5.out.setCell (p:=⟨v.heap.size,0,none⟩) (Nat.le_refl _) _).setCell (p:=⟨v.heap.size,1,none⟩) (Nat.le_refl _) _).setCell (p:=⟨v.heap.size,2,none⟩) (Nat.le_refl _) _).mono HBv.out.size))
  simp only[hu]
  have HSu:=Lib.hid (HSr.out.below HBu.out)
  have HKu:=Lib.hid (HKr.out.trans (Kept.of_below HBu.out))
  clear hu c0 c1 c2 f0 f1 f2
  exact qxa8g_1):P:=h
theorem qxa8g_3 {P:Prop} (h:P:=by
 go_loopw [6] (fun ii wr=>∃(j:Nat) (c:Sc),ii=.int .i64 j∧j≤p.ts.length∧Hid (St5 X p c wr)∧Hid (Kp5 X w3 wr)∧Hid (∀a,c=.on a→-1≤a∧a+(((p.ts.drop j).map fun t=>1+plSts t.l).sum:Nat)≤1000000)∧Hid (c.bind (scThs p (p.ts.drop j))=R4)) (fun ii _=>p.ts.length - (intOf ii).toNat)
 case atStart=>exact⟨0,_,rfl,Nat.zero_le _,HSz,HKz,Lib.hid (fun a ha=>by rw[List.drop_zero];exact HAz.out a ha),Lib.hid (by rw[List.drop_zero];exact HR4.out)⟩
 case round=>
  clear HSz HKz HAz
  obtain⟨j,c,rfl,hj,hS,hK,hA,hC⟩:=hrel
  have p2:(0:Int)≤(j:Int):=Int.natCast_nonneg _
  have p9:p.ts.length≤140737488355328:=hl4
  obtain⟨pl,er,hr,hc⟩:=hS.out.box
  have c4:=cell_at hr 4
  have c5:=cell_at hr 5
  have f4:=frz_at hr 4
  simp only[sl7,sl8,sl9]at c4 c5
  have row:=HRow.out _ hK.out
  have q0:=cell_at row 0
  have q1:=cell_at row 1
  have q2:=cell_at row 2
  have q3:=cell_at row 3
  clear row
  simp only[sl7,sl8,sl9]at q0 q1 q2 q3
  by_cases hlt:j<p.ts.length
  ·have p1:(j:Int)<(p.ts.length:Int):=by omega
   rcases hc with ⟨rfl,rfl⟩|⟨rfl,hne⟩
   ·obtain⟨s,hs⟩:∃s,p.ts[j]? =some s:=⟨_,List.getElem?_eq_getElem hlt⟩
    have hdrop:p.ts.drop j=s::p.ts.drop (j+1):=by
     have:=List.drop_eq_getElem_cons hlt
     rw[List.getElem?_eq_getElem hlt]at hs
     injection hs with hs
     rw[this,hs]
    have hmem:=List.mem_of_getElem? hs
    obtain⟨rb,ro,hda,hrb,-⟩:=(HP.out _ hK.out).trow (by intro h0;rw[h0]at hlt;simp at hlt)
    have HRw:Hid (∀W,Kp5 X w3 W→ThAt W rb (ro+j*1) s∧StsIn W B s.d s.l∧W.cell? ⟨B,3,none⟩=some (.slice (some ⟨rb,ro,none⟩) p.ts.length p.td.c)):=Lib.hid fun W hk=>by
     obtain⟨rb2,ro2,hda2,-,hrow2⟩:=(HP.out _ hk).trow (by intro h0;rw[h0]at hlt;simp at hlt)
     rw[hda]at hda2
     injection hda2 with hda2
     injection hda2 with e1 e2 e3
     subst e1 e2
     exact⟨hrow2 j s hs,(HP.out _ hk).tsub s hmem,by rw[←hda];exact cell_at (HRow.out _ hk) 3⟩
    have HG:=Lib.hid (HGt.out s hmem)
    have hA1:=hA.out pl rfl
    rw[hdrop,List.map_cons,List.sum_cons]at hA1
    have hC1:=hC.out
    rw[hdrop,Sc.bind_on,scThs_c]at hC1
    have e1:IntKind.i64.wrap (pl+1)=pl+1:=by rw[IntKind.wrap_i64];omega
    obtain⟨w6,hw6⟩:∃w6,wr.setCell ⟨X,4,none⟩ (.int .i64 (pl+1))=w6:=⟨_,rfl⟩
    have hk6:Kp5 X wr w6:=by rw[←hw6];exact Kp5.set (Kept.refl _ _) 4 _
    have HS6:Hid (St5 X p (.on (pl+1)) w6):=Lib.hid (by rw[←hw6];exact Lk5.setP hr _)
    have HK6:=Lib.hid (hK.out.trans hk6)
    have HW6:=Lib.hid hw6
    have HC1:=Lib.hid hC1
    have HA1:=Lib.hid hA1
    have CS:=Lib.hid (rstmts5_any B X HBX.out p HTy.out ty0 _ s.l (Nat.le_refl _) s.d (.on (pl+1)) ⟨none,0⟩ [] [] w6.drew (HS6.out.below (Below.refl _ _).drew) (HP.out _ HK6.out.drew) ⟨Nat.zero_le _,fun h=>absurd rfl h,fun f hf=>by cases hf⟩ (HRw.out _ HK6.out.drew).2.1 HG.out.1 HG.out.2.1 (fun a ha=>by injection ha with ha;subst ha;have:=HA1.out;exact⟨by omega,by omega,fun _=>rfl⟩) (fun f hf=>by cases hf) (by have:=HG.out.2.2;simp only[List.length_nil];omega))
    dsimp only[envV,Ty.val,ty0,List.length_nil]at CS
    rw[Sc.bind_on]at CS
    clear hr hdrop hs hmem hA1 hC1 hw6 hk6 hC hA hS hK hda
    go_wp2_with fail
    simp only[HW6.out]
    clear q0 q1 q2 q3 c4 c5 f4
    refine wp_region_L (l:=9) (S:=(Below w6.heap.size w6)) (by kernel_rfl) ?_ (fun hHeld=>?_)
    ·((try dsimp only);(exact (Below.refl _ _).drew))
    refine tk 0 ?_
    try simp only[sl1,sl2,sl3,Act.put,sl4,sl5,sl6]
    refine tk 1 ?_ (h2:=by(intro W hSw;have row:=HRow.out W (HK6.out.trans (Kept.of_below hSw));have q0:=cell_at row 0;have q1:=cell_at row 1;have q2:=cell_at row 2;have q3:=cell_at row 3;clear row hSw;go_simp;all_goals with_reducible rfl))
    try simp only[sl1,sl2,sl3,Act.put,sl4,sl5,sl6]
    refine tk 2 ?_
    try simp only[sl1,sl2,sl3,Act.put,sl4,sl5,sl6]
    refine tk 3 ?_
    try simp only[sl1,sl2,sl3,Act.put,sl4,sl5,sl6]
    refine tk 4 ?_ (h2:=by(intro W hSw;have q3:=(HRw.out W (HK6.out.trans (Kept.of_below hSw))).2.2;clear hSw;go_simp;all_goals with_reducible rfl))
    try simp only[sl1,sl2,sl3,Act.put,sl4,sl5,sl6]
    refine tk 5 ?_
    try simp only[sl1,sl2,sl3,Act.put,sl4,sl5,sl6]
    refine tk 6 ?_
    try simp only[sl1,sl2,sl3,Act.put,sl4,sl5,sl6]
    refine tk 7 ?_ (h2:=by(intro W hSw;have z0:=(HRw.out W (HK6.out.trans (Kept.of_below hSw))).1.c0;rw[Nat.mul_one]at z0;clear hSw;go_simp;all_goals with_reducible rfl))
    try simp only[sl1,sl2,sl3,Act.put,sl4,sl5,sl6]
    refine tk 8 ?_
    try simp only[sl1,sl2,sl3,Act.put,sl4,sl5,sl6]
    refine wpAnyL_last (j:=9) (o:=_) (by kernel_rfl) rfl (by rfl) (by kernel_rfl) (fun K hK=>?_)
    (go_simp;go_at_call 45;refine CS.out.mono ?_;rintro e v5 ⟨rfl,hs,hk⟩;have HSv5:=Lib.hid hs;have HKv5:=Lib.hid ((HK6.out.drew).trans hk);clear hs hk)
    (refine hK _ _ ?_;clear hK K)
    try simp only[sl1,sl2,sl3,Act.put,sl4,sl5,sl6]
    have HAn:Hid (∀a,scSts p [] ty0 s.l (pl+1)=.on a→-1≤a∧a+(((p.ts.drop (j+1)).map fun t=>1+plSts t.l).sum:Nat)≤1000000):=Lib.hid fun a ha=>by
     have h1:=((scSts_on p [] ty0 s.l (pl+1)).1 a ha).1
     have h2:=HA1.out
     omega
    clear CS HS6 HK6 HW6 HG HRw HA1 e1
    go_wp2_with fail
    go_roundw
    case rel=>exact⟨j+1,_,by go_num,by omega,HSv5,HKv5,HAn,HC1⟩
    case measure=>simp[intOf];omega
   ·have t1:(er==0)=false:=by simpa using hne
    obtain rfl:Sc.bad pl er=R4:=by have h:=hC.out;rw[Sc.bind_bad]at h;exact h
    have HFF:=Lib.hid (HF.out pl er rfl)
    have HBz:=Lib.hid (HBl.out _ hK.out)
    clear hne hC hS hr f4 hA
    go_wp2_with fail
    go_quiet (fail)
    go_wp2_with fail
    refine bodyPost_ret (v:=.tuple #[.int .i64 pl,.int .i64 er]) (by simp[results,Tryz.results12,go_sem]) rfl ?_
    exact⟨by rw[HFF.out],by first|exact HBz.out.trans (below_dr3 _ _ _)|exact HBz.out⟩
  ·obtain rfl:j=p.ts.length:=by omega
   have h2:c=R4:=by have h:=hC.out;rw[List.drop_length]at h;rw[←h];cases c with|on a=>rw[Sc.bind_on,scThs]|bad q e=>rfl
   rcases hc with ⟨rfl,rfl⟩|⟨rfl,hne⟩
   ·obtain rfl:=h2
    have HFF:=Lib.hid (HF.out 0 0 rfl)
    have HBz:=Lib.hid (HBl.out _ hK.out)
    clear hC hS f4 hr hA
    go_wp2_with fail
    refine bodyPost_ret (v:=.tuple #[.int .i64 0,.int .i64 0]) (by simp[results,Tryz.results12,go_sem]) rfl ?_
    exact⟨by rw[HFF.out],HBz.out⟩
   ·obtain rfl:=h2
    have t1:(er==0)=false:=by simpa using hne
    have HFF:=Lib.hid (HF.out pl er rfl)
    have HBz:=Lib.hid (HBl.out _ hK.out)
    clear hne hC hS f4 hr hA
    go_wp2_with fail
    go_quiet (fail)
    go_wp2_with fail
    refine bodyPost_ret (v:=.tuple #[.int .i64 pl,.int .i64 er]) (by simp[results,Tryz.results12,go_sem]) rfl ?_
    exact⟨by rw[HFF.out],by first|exact HBz.out.trans (below_dr3 _ _ _)|exact HBz.out⟩):P:=h
theorem qxa8g_2 {P:Prop} (h:P:=by
 go_loopw [7] (fun ii wr=>∃(j:Nat) (c:Sc),ii=.int .i64 j∧j≤p.ss.length∧Hid (St5 X p c wr)∧Hid (Kp5 X w wr)∧Hid (∀a,c=.on a→a=(p.rs.length:Int) - 1+(j:Int))∧Hid (c.bind (scShs p (((p.ss.map Fl.nm).take j).reverse++(p.rs.map Re.nm).reverse) (p.ss.drop j))=R2)) (fun ii _=>p.ss.length - (intOf ii).toNat)
 case atStart=>exact⟨0,_,rfl,Nat.zero_le _,HSz,HKz,Lib.hid (fun a ha=>by have:=HAz.out a ha;omega),Lib.hid (by rw[List.drop_zero];exact HR2.out)⟩
 case round=>
  clear HSz HKz HAz
  obtain⟨j,c,rfl,hj,hS,hK,hA,hC⟩:=hrel
  have p2:(0:Int)≤(j:Int):=Int.natCast_nonneg _
  have p9:p.ss.length≤10000:=hs16
  obtain⟨pl,er,hr,hc⟩:=hS.out.box
  have p0:=cell_at hr 0
  have p1':=cell_at hr 1
  have p2':=cell_at hr 2
  have p3':=cell_at hr 3
  have c4:=cell_at hr 4
  have c5:=cell_at hr 5
  have f4:=frz_at hr 4
  simp only[sl7,sl8,sl9]at p0 p1' p2' p3' c4 c5
  by_cases hlt:j<p.ss.length
  ·have p1:(j:Int)<(p.ss.length:Int):=by omega
   rcases hc with ⟨rfl,rfl⟩|⟨rfl,hne⟩
   ·obtain⟨s,hs⟩:∃s,p.ss[j]? =some s:=⟨_,List.getElem?_eq_getElem hlt⟩
    have hdrop:p.ss.drop j=s::p.ss.drop (j+1):=by
     have:=List.drop_eq_getElem_cons hlt
     rw[List.getElem?_eq_getElem hlt]at hs
     injection hs with hs
     rw[this,hs]
    have htk:((p.ss.map Fl.nm).take (j+1)).reverse=s.nm::((p.ss.map Fl.nm).take j).reverse:=by rw[List.take_add_one,List.getElem?_map,hs];simp
    have hpl:=hA.out pl rfl
    obtain⟨rb,ro,hda,hrb,hrow⟩:=(HP.out _ hK.out).ss.row (by intro h0;rw[h0]at hs;cases hs)
    have HAt:Hid (∀W,Kp5 X w W→FlAt W rb (ro+j*4) s):=Lib.hid fun W hk=>by
     obtain⟨rb2,ro2,hda2,-,hrow2⟩:=(HP.out _ hk).ss.row (by intro h0;rw[h0]at hs;cases hs)
     rw[hda]at hda2
     injection hda2 with hda2
     injection hda2 with e1 e2 e3
     subst e1 e2
     exact hrow2 j s hs
    have HQ1:Hid (∀W c,St5 X p c W→W.cell? ⟨X,1,none⟩=some (.slice (some ⟨rb,ro,none⟩) p.ss.length p.sd.c)):=Lib.hid fun W c hh=>by rw[←hda];exact hh.lk.2.1
    have hC1:=hC.out
    rw[hdrop,Sc.bind_on,scShs_c,←List.cons_append,←htk]at hC1
    have e1:IntKind.i64.wrap (pl+1)=pl+1:=by rw[IntKind.wrap_i64];omega
    obtain⟨w6,hw6⟩:∃w6,wr.setCell ⟨X,4,none⟩ (.int .i64 (pl+1))=w6:=⟨_,rfl⟩
    have hk6:Kp5 X wr w6:=by rw[←hw6];exact Kp5.set (Kept.refl _ _) 4 _
    have HS6:Hid (St5 X p (.on (pl+1)) w6):=Lib.hid (by rw[←hw6];exact Lk5.setP hr _)
    have HK6:=Lib.hid (hK.out.trans hk6)
    have HW6:=Lib.hid hw6
    have HC1:=Lib.hid hC1
    have HPl:=Lib.hid hpl
    have CF:=Lib.hid (rfresh5_any B X hBX p (.on (pl+1)) s.nm p.rs.length j 0 (Nat.le_refl _) (by omega) (Nat.zero_le _) w6.drew (HS6.out.below (Below.refl _ _).drew) (HP.out _ HK6.out.drew))
    rw[List.take_of_length_le (Nat.le_of_eq (List.length_map _)),List.take_zero,mem8_nil,Sc.bind_kq,mem8_two,show ((0:Nat):Int)=0 from rfl]at CF
    clear hr hrow hdrop hs hpl hC1 hw6 hk6 hC hA hS hK p0 p2' p3' htk hda hrb
    go_wp2_with fail
    simp only[HW6.out]
    clear c4 c5 f4 p1'
    refine wp_region_L (l:=17) (S:=(Below w6.heap.size w6)) (by kernel_rfl) ?_ (fun hHeld=>?_)
    ·((try dsimp only);(exact (Below.refl _ _).drew))
    refine tk 0 ?_
    try simp only[sl1,sl2,sl3,Act.put,sl4,sl5,sl6]
    refine tk 1 ?_
    try simp only[sl1,sl2,sl3,Act.put,sl4,sl5,sl6]
    refine tk 2 ?_
    try simp only[sl1,sl2,sl3,Act.put,sl4,sl5,sl6]
    refine tk 3 ?_
    try simp only[sl1,sl2,sl3,Act.put,sl4,sl5,sl6]
    refine tk 4 ?_
    try simp only[sl1,sl2,sl3,Act.put,sl4,sl5,sl6]
    refine tk 5 ?_ (h2:=by(intro W hSw;have q1:=HQ1.out W _ (HS6.out.below hSw);clear hSw;go_simp;all_goals with_reducible rfl))
    try simp only[sl1,sl2,sl3,Act.put,sl4,sl5,sl6]
    refine tk 6 ?_
    try simp only[sl1,sl2,sl3,Act.put,sl4,sl5,sl6]
    refine tk 7 ?_
    try simp only[sl1,sl2,sl3,Act.put,sl4,sl5,sl6]
    refine tk 8 ?_
    try simp only[sl1,sl2,sl3,Act.put,sl4,sl5,sl6]
    refine tk 9 ?_ (h2:=by(intro W hSw;have z9:=(HAt.out W (HK6.out.trans (Kept.of_below hSw))).c0;clear hSw;go_simp;all_goals with_reducible rfl))
    try simp only[sl1,sl2,sl3,Act.put,sl4,sl5,sl6]
    refine tk 10 ?_
    try simp only[sl1,sl2,sl3,Act.put,sl4,sl5,sl6]
    refine tk 11 ?_
    try simp only[sl1,sl2,sl3,Act.put,sl4,sl5,sl6]
    refine tk 12 ?_
    try simp only[sl1,sl2,sl3,Act.put,sl4,sl5,sl6]
    refine tk 13 ?_
    try simp only[sl1,sl2,sl3,Act.put,sl4,sl5,sl6]
    refine tk 14 ?_ (h2:=by(intro W hSw;have q1:=(HS6.out.below hSw).lk.1;clear hSw;go_simp;all_goals with_reducible rfl))
    try simp only[sl1,sl2,sl3,Act.put,sl4,sl5,sl6]
    refine tk 15 ?_
    try simp only[sl1,sl2,sl3,Act.put,sl4,sl5,sl6]
    refine tk 16 ?_
    try simp only[sl1,sl2,sl3,Act.put,sl4,sl5,sl6]
    refine wpAnyL_last (j:=17) (o:=_) (by kernel_rfl) rfl (by rfl) (by kernel_rfl) (fun K hK=>?_)
    (go_simp;go_at_call 83;refine CF.out.mono ?_;rintro e v2 ⟨rfl,hs,hk⟩;have HSv2:=Lib.hid hs;have HKv2:=Lib.hid (HK6.out.trans (((Kept.refl _ _).drew).trans hk));clear hs hk)
    (refine hK _ _ ?_;clear hK K)
    try simp only[sl1,sl2,sl3,Act.put,sl4,sl5,sl6]
    have CK:=Lib.hid (rknown5_any p s.t v2.drew (prIn_any (HP.out v2.drew HKv2.out.drew) (HBs.out _ HKv2.out.drew)))
    generalize knownT p s.t=kn at*
    clear CF HS6 HK6 HW6
    go_wp2_with fail
    refine wp_region_L (l:=15) (S:=(Below v2.heap.size v2)) (by kernel_rfl) ?_ (fun hHeld=>?_)
    ·((try dsimp only);(exact (Below.refl _ _).drew))
    refine tk 0 ?_
    try simp only[sl1,sl2,sl3,Act.put,sl4,sl5,sl6]
    refine tk 1 ?_
    try simp only[sl1,sl2,sl3,Act.put,sl4,sl5,sl6]
    refine tk 2 ?_
    try simp only[sl1,sl2,sl3,Act.put,sl4,sl5,sl6]
    refine tk 3 ?_
    try simp only[sl1,sl2,sl3,Act.put,sl4,sl5,sl6]
    refine tk 4 ?_ (h2:=by(intro W hSw;obtain⟨p0,p1,p2,p3⟩:=(HSv2.out.below hSw).lk;clear hSw;go_simp;all_goals with_reducible rfl))
    try simp only[sl1,sl2,sl3,Act.put,sl4,sl5,sl6]
    refine tk 5 ?_
    try simp only[sl1,sl2,sl3,Act.put,sl4,sl5,sl6]
    refine tk 6 ?_
    try simp only[sl1,sl2,sl3,Act.put,sl4,sl5,sl6]
    refine tk 7 ?_
    try simp only[sl1,sl2,sl3,Act.put,sl4,sl5,sl6]
    refine tk 8 ?_
    try simp only[sl1,sl2,sl3,Act.put,sl4,sl5,sl6]
    refine tk 9 ?_ (h2:=by(intro W hSw;have q1:=HQ1.out W _ (HSv2.out.below hSw);clear hSw;go_simp;all_goals with_reducible rfl))
    try simp only[sl1,sl2,sl3,Act.put,sl4,sl5,sl6]
    refine tk 10 ?_
    try simp only[sl1,sl2,sl3,Act.put,sl4,sl5,sl6]
    refine tk 11 ?_
    try simp only[sl1,sl2,sl3,Act.put,sl4,sl5,sl6]
    refine tk 12 ?_
    try simp only[sl1,sl2,sl3,Act.put,sl4,sl5,sl6]
    refine tk 13 ?_ (h2:=by(intro W hSw;have z9:=HAt.out W (HKv2.out.trans (Kept.of_below hSw));have z1:=z9.c1;have z2:=z9.c2;have z3:=z9.c3;clear z9 hSw;go_simp;all_goals with_reducible rfl))
    try simp only[sl1,sl2,sl3,Act.put,sl4,sl5,sl6]
    refine wpAnyL_step (j:=14) (o:=_) (by kernel_rfl) rfl (fun K hK=>?_)
    (go_simp;go_at_call 86;refine CK.out.mono ?_;rintro e v3 ⟨rfl,hb⟩;have HB3:Hid (Below v2.heap.size v2 v3):=Lib.hid ((Below.refl _ _).drew.trans hb);clear hb)
    refine hK _ _ ?_ (fun hHeld=>?_)
    ·((try dsimp only);(exact HB3.out))
    clear hK K
    try simp only[sl1,sl2,sl3,Act.put,sl4,sl5,sl6]
    refine wpAnyL_last (j:=15) (o:=_) (by kernel_rfl) rfl (by rfl) (by kernel_rfl) (fun K hK=>?_)
    (go_simp;go_at_call 85;refine (rwant5_any X p _ kn 9 v3 (HSv2.out.below HB3.out)).mono ?_;rintro e v4 ⟨rfl,hs,hk⟩;have HSv4:=Lib.hid hs;have HKv4:=Lib.hid ((HKv2.out.trans (Kept.of_below HB3.out)).trans hk);clear hs hk)
    (refine hK _ _ ?_;clear hK K)
    try simp only[sl1,sl2,sl3,Act.put,sl4,sl5,sl6]
    have HN:Hid ((((Sc.on (pl+1)).bind (kq (mem8 s.nm (((p.ss.map Fl.nm).take j).reverse++(p.rs.map Re.nm).reverse)))).bind (kq (orE kn 9))).bind (scShs p (((p.ss.map Fl.nm).take (j+1)).reverse++(p.rs.map Re.nm).reverse) (p.ss.drop (j+1)))=R2):=Lib.hid HC1.out
    have HAn:Hid (∀a,((Sc.on (pl+1)).bind (kq (mem8 s.nm (((p.ss.map Fl.nm).take j).reverse++(p.rs.map Re.nm).reverse)))).bind (kq (orE kn 9))=.on a→a=(p.rs.length:Int) - 1+((j+1:Nat):Int)):=Lib.hid fun a ha=>by
     obtain⟨a0,h1,h2⟩:=sc_on_inv ha
     have h3:=(kq_on h1).2
     have h4:=(kq_on (pl:=a0) h2).2
     have:=HPl.out
     push_cast
     omega
    clear HSv2 HKv2 HB3 CK HC1 e1 HPl HQ1
    go_wp2_with fail
    go_roundw
    case rel=>exact⟨j+1,_,by go_num,by omega,HSv4,HKv4,HAn,HN⟩
    case measure=>simp[intOf];omega
   ·have t1:(er==0)=false:=by simpa using hne
    have hz:Sc.bad pl er=R2:=by have h:=hC.out;rw[Sc.bind_bad]at h;exact h
    have HSz:Hid (St5 X p R2 wr):=Lib.hid (by rw[←hz];exact hS.out)
    have HKz:=hK
    clear hne hC hS hK hz hA hr f4 c4 p0 p2' p3'
    go_wp2_with fail
    go_end0
    exact⟨rfl,HSz.out,HKz.out⟩
  ·obtain hje:j=p.ss.length:=by omega
   have hz:c=R2:=by
    have h:=hC.out
    rw[hje,List.drop_length]at h
    rw[←h]
    cases c with
    |on a=>rw[Sc.bind_on,scShs]
    |bad q e=>rfl
   have HSz:Hid (St5 X p R2 wr):=Lib.hid (by rw[←hz];exact hS.out)
   have HKz:=hK
   have hnl:¬(j:Int)<(p.ss.length:Int):=by omega
   clear hC hS hK hz hc hA hr f4 c4 p0 p2' p3' hje
   go_wp2_with fail
   go_end0
   exact⟨rfl,HSz.out,HKz.out⟩):P:=h
theorem qxa8g_1 {P:Prop} (h:P:=by
 cases m1 with
 |true=>
  go_wp2_with fail
  go_at_call 85
  refine (rwant5_any X p _ false 8 u HSu.out).mono ?_
  rintro e v2 ⟨rfl,hs,hk⟩
  have HSv2:=Lib.hid hs
  have HKv2:=Lib.hid (HKu.out.trans hk)
  clear hs hk
  have CK:=Lib.hid (rknown5_any p s.t v2.drew (prIn_any (HP.out v2.drew HKv2.out.drew) (HBs.out _ HKv2.out.drew)))
  generalize knownT p s.t=kn at*
  go_wp2_with fail
  refine wp_region_L (l:=12) (S:=(Below v2.heap.size v2)) (by kernel_rfl) ?_ (fun hHeld=>?_)
  ·((try dsimp only);(exact (Below.refl _ _).drew))
  refine tk 0 ?_
  try simp only[sl1,sl2,sl3,Act.put,sl4,sl5,sl6]
  refine tk 1 ?_
  try simp only[sl1,sl2,sl3,Act.put,sl4,sl5,sl6]
  refine tk 2 ?_
  try simp only[sl1,sl2,sl3,Act.put,sl4,sl5,sl6]
  refine tk 3 ?_
  try simp only[sl1,sl2,sl3,Act.put,sl4,sl5,sl6]
  refine tk 4 ?_ (h2:=by(intro W hSw;obtain⟨p0,p1,p2,p3⟩:=(HSv2.out.below hSw).lk;clear hSw;go_simp;all_goals with_reducible rfl))
  try simp only[sl1,sl2,sl3,Act.put,sl4,sl5,sl6]
  refine tk 5 ?_
  try simp only[sl1,sl2,sl3,Act.put,sl4,sl5,sl6]
  refine tk 6 ?_ (h2:=by(intro W hSw;have q1:=HQ1.out W (HKv2.out.trans (Kept.of_below hSw));clear hSw;go_simp;all_goals with_reducible rfl))
  try simp only[sl1,sl2,sl3,Act.put,sl4,sl5,sl6]
  refine tk 7 ?_
  try simp only[sl1,sl2,sl3,Act.put,sl4,sl5,sl6]
  refine tk 8 ?_
  try simp only[sl1,sl2,sl3,Act.put,sl4,sl5,sl6]
  refine tk 9 ?_
  try simp only[sl1,sl2,sl3,Act.put,sl4,sl5,sl6]
  refine tk 10 ?_ (h2:=by(intro W hSw;have z9:=HAt.out W (HKv2.out.trans (Kept.of_below hSw));have z1:=z9.c1;have z2:=z9.c2;have z3:=z9.c3;clear z9 hSw;go_simp;all_goals with_reducible rfl))
  try simp only[sl1,sl2,sl3,Act.put,sl4,sl5,sl6]
  refine wpAnyL_step (j:=11) (o:=_) (by kernel_rfl) rfl (fun K hK=>?_)
  (go_simp;go_at_call 86;refine CK.out.mono ?_;rintro e v3 ⟨rfl,hb⟩;have HB3:Hid (Below v2.heap.size v2 v3):=Lib.hid ((Below.refl _ _).drew.trans hb);clear hb)
  refine hK _ _ ?_ (fun hHeld=>?_)
  ·((try dsimp only);(exact HB3.out))
  clear hK K
  try simp only[sl1,sl2,sl3,Act.put,sl4,sl5,sl6]
  refine wpAnyL_last (j:=12) (o:=_) (by kernel_rfl) rfl (by rfl) (by kernel_rfl) (fun K hK=>?_)
  (go_simp;go_at_call 85;refine (rwant5_any X p _ kn 9 v3 (HSv2.out.below HB3.out)).mono ?_;rintro e v4 ⟨rfl,hs,hk⟩;have HSv4:=Lib.hid hs;have HKv4:=Lib.hid ((HKv2.out.trans (Kept.of_below HB3.out)).trans hk);clear hs hk)
  (refine hK _ _ ?_;clear hK K)
  try simp only[sl1,sl2,sl3,Act.put,sl4,sl5,sl6]
  have HN2:Hid ((((Sc.on pl).bind (kq (orE false 8))).bind (kq (orE kn 9))).bind (kq (scPas p (f.ps.take (j+1)).reverse (f.ps.drop (j+1))))=R1):=Lib.hid HC1.out
  have HA2:Hid (∀a0,((Sc.on pl).bind (kq (orE false 8))).bind (kq (orE kn 9))=.on a0→a0=a∧∀q,fieldOf (f.ps.take (j+1)) q=fieldOf (f.ps.take (j+1)).reverse q):=Lib.hid fun a0 h0=>by
   obtain⟨b0,h1,h2⟩:=sc_on_inv h0
   have h3:=kq_on h1
   have h4:=(kq_on (pl:=b0) h2).2
   refine⟨by have:=HPl.out;omega,?_⟩
   exact absurd h3.1 (by decide)
  clear HSu HKu HSv2 HKv2 HB3 CK HC1 c5 icap icapn HBu
  go_wp2_with fail
  go_roundw
  case rel=>exact⟨j+1,_,by go_num,by omega,HSv4,HKv4,HA2,HN2⟩
  case measure=>simp[intOf];omega
 |false=>
  go_wp2_with fail
  go_at_call 85
  refine (rwant5_any X p _ (!m2) 8 u HSu.out).mono ?_
  rintro e v2 ⟨rfl,hs,hk⟩
  have HSv2:=Lib.hid hs
  have HKv2:=Lib.hid (HKu.out.trans hk)
  clear hs hk
  have CK:=Lib.hid (rknown5_any p s.t v2.drew (prIn_any (HP.out v2.drew HKv2.out.drew) (HBs.out _ HKv2.out.drew)))
  generalize knownT p s.t=kn at*
  go_wp2_with fail
  refine wp_region_L (l:=12) (S:=(Below v2.heap.size v2)) (by kernel_rfl) ?_ (fun hHeld=>?_)
  ·((try dsimp only);(exact (Below.refl _ _).drew))
  refine tk 0 ?_
  try simp only[sl1,sl2,sl3,Act.put,sl4,sl5,sl6]
  refine tk 1 ?_
  try simp only[sl1,sl2,sl3,Act.put,sl4,sl5,sl6]
  refine tk 2 ?_
  try simp only[sl1,sl2,sl3,Act.put,sl4,sl5,sl6]
  refine tk 3 ?_
  try simp only[sl1,sl2,sl3,Act.put,sl4,sl5,sl6]
  refine tk 4 ?_ (h2:=by(intro W hSw;obtain⟨p0,p1,p2,p3⟩:=(HSv2.out.below hSw).lk;clear hSw;go_simp;all_goals with_reducible rfl))
  try simp only[sl1,sl2,sl3,Act.put,sl4,sl5,sl6]
  refine tk 5 ?_
  try simp only[sl1,sl2,sl3,Act.put,sl4,sl5,sl6]
  refine tk 6 ?_ (h2:=by(intro W hSw;have q1:=HQ1.out W (HKv2.out.trans (Kept.of_below hSw));clear hSw;go_simp;all_goals with_reducible rfl))
  try simp only[sl1,sl2,sl3,Act.put,sl4,sl5,sl6]
  refine tk 7 ?_
  try simp only[sl1,sl2,sl3,Act.put,sl4,sl5,sl6]
  refine tk 8 ?_
  try simp only[sl1,sl2,sl3,Act.put,sl4,sl5,sl6]
  refine tk 9 ?_
  try simp only[sl1,sl2,sl3,Act.put,sl4,sl5,sl6]
  refine tk 10 ?_ (h2:=by(intro W hSw;have z9:=HAt.out W (HKv2.out.trans (Kept.of_below hSw));have z1:=z9.c1;have z2:=z9.c2;have z3:=z9.c3;clear z9 hSw;go_simp;all_goals with_reducible rfl))
  try simp only[sl1,sl2,sl3,Act.put,sl4,sl5,sl6]
  refine wpAnyL_step (j:=11) (o:=_) (by kernel_rfl) rfl (fun K hK=>?_)
  (go_simp;go_at_call 86;refine CK.out.mono ?_;rintro e v3 ⟨rfl,hb⟩;have HB3:Hid (Below v2.heap.size v2 v3):=Lib.hid ((Below.refl _ _).drew.trans hb);clear hb)
  refine hK _ _ ?_ (fun hHeld=>?_)
  ·((try dsimp only);(exact HB3.out))
  clear hK K
  try simp only[sl1,sl2,sl3,Act.put,sl4,sl5,sl6]
  refine wpAnyL_last (j:=12) (o:=_) (by kernel_rfl) rfl (by rfl) (by kernel_rfl) (fun K hK=>?_)
  (go_simp;go_at_call 85;refine (rwant5_any X p _ kn 9 v3 (HSv2.out.below HB3.out)).mono ?_;rintro e v4 ⟨rfl,hs,hk⟩;have HSv4:=Lib.hid hs;have HKv4:=Lib.hid ((HKv2.out.trans (Kept.of_below HB3.out)).trans hk);clear hs hk)
  (refine hK _ _ ?_;clear hK K)
  try simp only[sl1,sl2,sl3,Act.put,sl4,sl5,sl6]
  have HN2:Hid ((((Sc.on pl).bind (kq (orE (!m2) 8))).bind (kq (orE kn 9))).bind (kq (scPas p (f.ps.take (j+1)).reverse (f.ps.drop (j+1))))=R1):=Lib.hid HC1.out
  have HA2:Hid (∀a0,((Sc.on pl).bind (kq (orE (!m2) 8))).bind (kq (orE kn 9))=.on a0→a0=a∧∀q,fieldOf (f.ps.take (j+1)) q=fieldOf (f.ps.take (j+1)).reverse q):=Lib.hid fun a0 h0=>by
   obtain⟨b0,h1,h2⟩:=sc_on_inv h0
   have h3:=kq_on h1
   have h4:=(kq_on (pl:=b0) h2).2
   refine⟨by have:=HPl.out;omega,?_⟩
   first|exact HM.out rfl|exact HM.out trivial
  clear HSu HKu HSv2 HKv2 HB3 CK HC1 c5 icap icapn HBu
  go_wp2_with fail
  go_roundw
  case rel=>exact⟨j+1,_,by go_num,by omega,HSv4,HKv4,HA2,HN2⟩
  case measure=>simp[intOf];omega):P:=h
theorem mem8_rev (nm:List UInt8) (l:List (List UInt8)):mem8 nm l.reverse=mem8 nm l:=by unfold mem8;simp
theorem mem8_two (c:Sc) (nm:List UInt8) (A B:List (List UInt8)):(c.bind (kq (mem8 nm A))).bind (kq (mem8 nm B))=c.bind (kq (mem8 nm (B.reverse++A.reverse))):=by
 rw[Sc.bind_bind]
 refine congrArg (Sc.bind c) (funext fun a=>?_)
 unfold mem8
 by_cases h1:nm∈A
 ·rw[if_pos h1,if_pos (List.mem_append_right _ (List.mem_reverse.2 h1))];rfl
 ·rw[if_neg h1]
  by_cases h2:nm∈B
  ·rw[if_pos h2,if_pos (List.mem_append_left _ (List.mem_reverse.2 h2))];rfl
  ·rw[if_neg h2,if_neg (by simp[h1,h2])];rfl
theorem scFds_c (p:Pr) (met:List (List UInt8)) (f:Fl) (r:List Fl) (a:Int):kq (scFds p met (f::r)) a=((kq (mem8 f.nm met) a).bind (kq (orE (knownT p f.t) 9))).bind (kq (scFds p (f.nm::met) r)):=by
 rw[scFds]
 unfold mem8
 by_cases h:f.nm∈met
 ·rw[if_pos h,if_pos h];rfl
 ·rw[if_neg h,if_neg h]
  cases knownT p f.t<;>rfl
theorem scRes_c (p:Pr) (met:List (List UInt8)) (r:Re) (l:List Re) (a:Int):scRes p met (r::l) a=((kq (mem8 r.nm met) (a+1)).bind (kq (scFds p [] r.fs))).bind (scRes p (r.nm::met) l):=by
 rw[scRes]
 unfold mem8
 by_cases h:r.nm∈met
 ·rw[if_pos h,if_pos h];rfl
 ·rw[if_neg h,if_neg h]
  by_cases h2:scFds p [] r.fs=0
  ·rw[if_neg (not_not_intro h2),h2];rfl
  ·rw[if_pos h2]
   show _=(kq (scFds p [] r.fs) (a+1)).bind _
   rw[kq_ne h2];rfl
theorem scShs_c (p:Pr) (met:List (List UInt8)) (f:Fl) (l:List Fl) (a:Int):scShs p met (f::l) a=((kq (mem8 f.nm met) (a+1)).bind (kq (orE (knownT p f.t) 9))).bind (scShs p (f.nm::met) l):=by
 rw[scShs]
 unfold mem8
 by_cases h:f.nm∈met
 ·rw[if_pos h,if_pos h];rfl
 ·rw[if_neg h,if_neg h]
  cases knownT p f.t<;>rfl
theorem fieldOf_mem8 (l:List Fl) (nm:List UInt8):orE (!(fieldOf l nm).isSome) 8=mem8 nm (l.map Fl.nm):=by
 induction l with
 |nil=>rfl
 |cons f l ih=>
  have e:fieldOf (f::l) nm=if f.nm=nm then some f.t else fieldOf l nm:=rfl
  rw[e]
  by_cases h:f.nm=nm
  ·rw[if_pos h]
   unfold mem8
   rw[if_pos (by rw[List.map_cons,h];simp)]
   rfl
  ·rw[if_neg h,ih]
   unfold mem8
   have hm:(nm∈(f::l).map Fl.nm)↔nm∈l.map Fl.nm:=by
    rw[List.map_cons,List.mem_cons]
    exact⟨fun h2=>h2.resolve_left (fun h3=>h h3.symm),Or.inr⟩
   simp only[hm]
theorem FlsIn.take {w:World} {B:Nat} {d:Hd} {l:List Fl} (h:FlsIn w B d l) (n:Nat):FlsIn w B d (l.take n):=
 ⟨by have:=h.len;rw[List.length_take];show _≤140737488355328;have h2:l.length≤140737488355328:=h.len;omega,fun hne=>by
  obtain⟨b,off,h1,h2,h3⟩:=h.row (by intro h0;rw[h0]at hne;simp at hne)
  exact⟨b,off,h1,h2,fun i y hy=>h3 i y (by
   rw[List.getElem?_take]at hy
   split at hy
   ·exact hy
   ·cases hy)⟩,fun f hf=>h.sub f (List.mem_of_mem_take hf)⟩
theorem St5.lk {X:Nat} {p:Pr} {c:Sc} {W:World} (h:St5 X p c W):W.cell? ⟨X,0,none⟩=some (.slice p.rd.a p.rs.length p.rd.c)∧W.cell? ⟨X,1,none⟩=some (.slice p.sd.a p.ss.length p.sd.c)∧W.cell? ⟨X,2,none⟩=some (.slice p.fd.a p.fs.length p.fd.c)∧W.cell? ⟨X,3,none⟩=some (.slice p.td.a p.ts.length p.td.c):=by
 obtain⟨pl,er,hr,-⟩:=h.box
 exact⟨cell_at hr 0,cell_at hr 1,cell_at hr 2,cell_at hr 3⟩
def fdR (p:Pr) (fs:List Fl) (c:Sc):Sc:=c.bind (kq (scFds p [] fs))
set_option maxHeartbeats 40000000 in
set_option maxRecDepth 100000 in
theorem rheads5_any (B X:Nat) (hBX:B≤X) (p:Pr) (hcap:CapP p) (hr16:p.rs.length≤100) (hs16:p.ss.length≤10000) (w:World) (h:St5 X p (.on (-1)) w) (hP:PrIn w B p):
  Calls Tryz.prog 43 #[.pointer (some ⟨X,0,none⟩)] w fun en w'=>en=.returned (.tuple #[])∧St5 X p ((scRes p [] p.rs (-1)).bind (scShs p (p.rs.map Re.nm).reverse p.ss)) w'∧Kp5 X w w':=by
 obtain⟨R,hR⟩:∃R,scRes p [] p.rs (-1)=R:=⟨_,rfl⟩
 obtain⟨R2,hR2⟩:∃R2,R.bind (scShs p (p.rs.map Re.nm).reverse p.ss)=R2:=⟨_,rfl⟩
 rw[hR,hR2]
 have HR:=Lib.hid hR
 have HR2:=Lib.hid hR2
 have hXl:=h.lt
 have hBl:B≤w.heap.size:=by omega
 have HP:Hid (∀W,Kp5 X w W→PrIn W B p):=Lib.hid fun W hk=>hP.keep (Kept.below hk hBl (fun q hq=>by rw[hq];exact hBX)) (Nat.le_refl B)
 have HBs:Hid (∀W,Kp5 X w W→B≤W.heap.size):=Lib.hid fun W hk=>Nat.le_trans hBl hk.size
 have HS0:=Lib.hid h
 have HK0:Hid (Kp5 X w w):=Lib.hid (Kept.refl _ _)
 have HCap:=Lib.hid hcap
 clear hR hR2 h hP hXl hBl hcap
 go_enter Tryz.func43,Tryz.ntmps43
 go_wp2_with fail
 go_loopw [2] (fun ii wr=>∃(j:Nat) (c:Sc),ii=.int .i64 j∧j≤p.rs.length∧Hid (St5 X p c wr)∧Hid (Kp5 X w wr)∧Hid (∀a,c=.on a→a=(j:Int) - 1)∧Hid (c.bind (scRes p ((p.rs.map Re.nm).take j).reverse (p.rs.drop j))=R)) (fun ii _=>p.rs.length - (intOf ii).toNat)
 case atStart=>exact⟨0,_,rfl,Nat.zero_le _,HS0,HK0,Lib.hid (fun a ha=>by injection ha with ha;rw[←ha];rfl),Lib.hid (by rw[List.drop_zero];exact HR.out)⟩
 case round=>
  obtain⟨j,c,rfl,hj,hS,hK,hA,hC⟩:=hrel
  clear HS0 HK0
  have p2:(0:Int)≤(j:Int):=Int.natCast_nonneg _
  have p9:p.rs.length≤100:=hr16
  obtain⟨pl,er,hr,hc⟩:=hS.out.box
  have p0:=cell_at hr 0
  have p1':=cell_at hr 1
  have p2':=cell_at hr 2
  have p3':=cell_at hr 3
  have c4:=cell_at hr 4
  have c5:=cell_at hr 5
  have f4:=frz_at hr 4
  simp only[sl7,sl8,sl9]at p0 p1' p2' p3' c4 c5
  by_cases hlt:j<p.rs.length
  ·have p1:(j:Int)<(p.rs.length:Int):=by omega
   rcases hc with ⟨rfl,rfl⟩|⟨rfl,hne⟩
   ·obtain⟨s,hs⟩:∃s,p.rs[j]? =some s:=⟨_,List.getElem?_eq_getElem hlt⟩
    have hdrop:p.rs.drop j=s::p.rs.drop (j+1):=by
     have:=List.drop_eq_getElem_cons hlt
     rw[List.getElem?_eq_getElem hlt]at hs
     injection hs with hs
     rw[this,hs]
    have htk:((p.rs.map Re.nm).take (j+1)).reverse=s.nm::((p.rs.map Re.nm).take j).reverse:=by rw[List.take_add_one,List.getElem?_map,hs];simp
    have hpl:=hA.out pl rfl
    have HSc:Hid (s.fs.length≤s.d.c):=Lib.hid (HCap.out.recs s (List.mem_of_getElem? hs))
    obtain⟨rb,ro,hda,hrb,hrow⟩:=(HP.out _ hK.out).rrow (by intro h0;rw[h0]at hs;cases hs)
    have HAt:Hid (∀W,Kp5 X w W→ReAt W rb (ro+j*2) s∧FlsIn W B s.d s.fs∧lenOk s.nm.length):=Lib.hid fun W hk=>by
     obtain⟨rb2,ro2,hda2,-,hrow2⟩:=(HP.out _ hk).rrow (by intro h0;rw[h0]at hs;cases hs)
     rw[hda]at hda2
     injection hda2 with hda2
     injection hda2 with e1 e2 e3
     subst e1 e2
     have hin:=(HP.out _ hk).rsub s (List.mem_of_getElem? hs)
     exact⟨hrow2 j s hs,hin.fs,hin.nm⟩
    have HQ0:Hid (∀W c,St5 X p c W→W.cell? ⟨X,0,none⟩=some (.slice (some ⟨rb,ro,none⟩) p.rs.length p.rd.c)):=Lib.hid fun W c hh=>by rw[←hda];exact hh.lk.1
    have hC1:=hC.out
    rw[hdrop,Sc.bind_on,scRes_c,mem8_rev,←htk]at hC1
    have e1:IntKind.i64.wrap (pl+1)=pl+1:=by rw[IntKind.wrap_i64];omega
    obtain⟨w6,hw6⟩:∃w6,wr.setCell ⟨X,4,none⟩ (.int .i64 (pl+1))=w6:=⟨_,rfl⟩
    have hk6:Kp5 X wr w6:=by rw[←hw6];exact Kp5.set (Kept.refl _ _) 4 _
    have HS6:Hid (St5 X p (.on (pl+1)) w6):=Lib.hid (by rw[←hw6];exact Lk5.setP hr _)
    have HK6:=Lib.hid (hK.out.trans hk6)
    have HW6:=Lib.hid hw6
    have HC1:=Lib.hid hC1
    have HPl:=Lib.hid hpl
    have CF:=Lib.hid (rfresh5_any B X hBX p (.on (pl+1)) s.nm j 0 0 (by omega) (Nat.zero_le _) (Nat.zero_le _) w6 HS6.out (HP.out _ HK6.out))
    rw[List.take_zero,List.take_zero,mem8_nil,Sc.bind_kq,Sc.bind_kq,show ((0:Nat):Int)=0 from rfl]at CF
    have z0':w6.cell? ⟨rb,ro+j*2,none⟩=some (.string ⟨s.nm.toArray⟩):=(HAt.out _ HK6.out).1.c0
    have q0:=HQ0.out w6 _ HS6.out
    rw[←hw6]at z0' q0
    clear hr hrow hdrop hs hpl hC1 hw6 hk6 hC hA hS hK p1' p2' p3' htk hda
    go_wp2_with fail
    simp only[HW6.out]
    clear c4 c5 f4 z0' q0 p0
    go_at_call 83
    refine CF.out.mono ?_
    rintro e w7 ⟨rfl,hs7,hk7⟩
    have HS7:=Lib.hid hs7
    have HK7:=Lib.hid (HK6.out.trans hk7)
    clear hs7 hk7 CF HS6 HK6
    have z1:=(HAt.out _ HK7.out).1.c1
    have q0:=HQ0.out w7 _ HS7.out
    obtain⟨-,hfl,-⟩:=HAt.out _ HK7.out
    have hln:s.fs.length≤140737488355328:=hfl.len
    clear hfl
    obtain⟨c1,hc1⟩:∃c1,(Sc.on (pl+1)).bind (kq (mem8 s.nm ((p.rs.map Re.nm).take j)))=c1:=⟨_,rfl⟩
    have HA1:Hid (∀a,c1=.on a→a=(j:Int)):=Lib.hid fun a ha=>by rw[←hc1]at ha;obtain⟨-,h2⟩:=kq_on ha;rw[h2,HPl.out];omega
    have HC2:Hid ((c1.bind (kq (scFds p [] s.fs))).bind (scRes p ((p.rs.map Re.nm).take (j+1)).reverse (p.rs.drop (j+1)))=R):=Lib.hid (by rw[←HC1.out,←hc1];rfl)
    rw[hc1]at HS7
    obtain⟨R1,hR1⟩:∃R1,c1.bind (kq (scFds p [] s.fs))=R1:=⟨_,rfl⟩
    rw[hR1]at HC2
    have HR1:=Lib.hid hR1
    have HB1:Hid (∀a,R1=.on a→a=(j:Int)):=Lib.hid fun a ha=>by
     rw[←HR1.out]at ha
     obtain⟨a0,h1,h2⟩:=sc_on_inv ha
     have h3:=HA1.out a0 h1
     have h4:=(kq_on (pl:=a0) h2).2
     omega
    clear hc1 hR1 HC1 HA1 HPl e1
    go_wp2_with fail
    clear z1 q0
    go_loopw [4] (fun ii wr=>∃(i:Nat) (ci:Sc),ii=.int .i64 i∧i≤s.fs.length∧Hid (St5 X p ci wr)∧Hid (Kp5 X w wr)∧Hid (ci.bind (kq (scFds p ((s.fs.map Fl.nm).take i).reverse (s.fs.drop i)))=R1)) (fun ii _=>s.fs.length - (intOf ii).toNat)
    case atStart=>exact⟨0,c1,rfl,Nat.zero_le _,HS7,HK7,Lib.hid (by rw[List.drop_zero];exact HR1.out)⟩
    case round=>
     clear HS7 HK7 HR1
     obtain⟨i,ci,rfl,hi,hS,hK,hC⟩:=hrel
     have i2:(0:Int)≤(i:Int):=Int.natCast_nonneg _
     obtain⟨pl,er,hr,hc⟩:=hS.out.box
     have c5:=cell_at hr 5
     simp only[sl7,sl8,sl9]at c5
     clear hr
     by_cases hlt2:i<s.fs.length
     ·have i1:(i:Int)<(s.fs.length:Int):=by omega
      have icap:(i:Int)≤(s.d.c:Int):=by have:=HSc.out;omega
      have icapn:i≤s.d.c:=by have:=HSc.out;omega
      rcases hc with ⟨rfl,rfl⟩|⟨rfl,hne⟩
      ·obtain⟨f,hf⟩:∃f,s.fs[i]? =some f:=⟨_,List.getElem?_eq_getElem hlt2⟩
       have hdrop:s.fs.drop i=f::s.fs.drop (i+1):=by
        have:=List.drop_eq_getElem_cons hlt2
        rw[List.getElem?_eq_getElem hlt2]at hf
        injection hf with hf
        rw[this,hf]
       have htk:((s.fs.map Fl.nm).take (i+1)).reverse=f.nm::((s.fs.map Fl.nm).take i).reverse:=by rw[List.take_add_one,List.getElem?_map,hf];simp
       have hC1:=hC.out
       obtain⟨o,ho⟩:∃o,fieldOf (s.fs.take i) f.nm=o:=⟨_,rfl⟩
       have hm8:mem8 f.nm ((s.fs.map Fl.nm).take i).reverse=orE (!o.isSome) 8:=by rw[mem8_rev,←List.map_take,←fieldOf_mem8,ho]
       rw[hdrop,Sc.bind_on,scFds_c,hm8,←htk]at hC1
       obtain⟨fb,fo,hda,hfb,-⟩:=(HAt.out _ hK.out).2.1.row (by intro h0;rw[h0]at hf;cases hf)
       have HAf:Hid (∀W,Kp5 X w W→FlAt W fb (fo+i*4) f):=Lib.hid fun W hk=>by
        obtain⟨rb2,ro2,hda2,-,hrow2⟩:=(HAt.out _ hk).2.1.row (by intro h0;rw[h0]at hf;cases hf)
        rw[hda]at hda2
        injection hda2 with hda2
        injection hda2 with e1 e2 e3
        subst e1 e2
        exact hrow2 i f hf
       have CF2:Hid (∀W,Below wr.heap.size wr W→Calls Tryz.prog 84 #[.slice (some ⟨fb,fo,none⟩) i s.d.c,.string ⟨f.nm.toArray⟩] W fun e w'=>e=.returned (.tuple #[(tyO o).val,.bool o.isSome])∧Below W.heap.size W w'):=Lib.hid fun W hb=>by
        have hk:=hK.out.trans (Kept.of_below hb)
        have h:=rfield5_any s.d (s.fs.take i) f.nm W (((HAt.out _ hk).2.1.keep (Below.refl _ _) (HBs.out _ hk)).take i)
        rw[ho,hda,show (s.fs.take i).length=i by rw[List.length_take];omega]at h
        exact h
       have HC1:=Lib.hid hC1
       obtain⟨b,hb⟩:∃b,o.isSome=b:=⟨_,rfl⟩
       rw[hb]at CF2 HC1
       have HSr:=hS
       have HKr:=hK
       clear hf hdrop htk hC hC1 ho hm8 hb hS hK
       rw[hda]
       clear hda
       dsimp only[Ty.val]at CF2
       go_wp2_with fail
       refine wp_region_L (l:=14) (S:=(Below wr.heap.size wr)) (by kernel_rfl) ?_ (fun hHeld=>?_)
       ·((try dsimp only);(exact (Below.refl _ _).drew))
       refine tk 0 ?_
       try simp only[sl1,sl2,sl3,Act.put,sl4,sl5,sl6]
       refine tk 1 ?_
       try simp only[sl1,sl2,sl3,Act.put,sl4,sl5,sl6]
       refine tk 2 ?_ (h2:=by(intro W hSw;go_simp;all_goals first|with_reducible rfl|(simp[icapn];done)|omega))
       try simp only[sl1,sl2,sl3,Act.put,sl4,sl5,sl6]
       refine tk 3 ?_
       try simp only[sl1,sl2,sl3,Act.put,sl4,sl5,sl6]
       refine tk 4 ?_
       try simp only[sl1,sl2,sl3,Act.put,sl4,sl5,sl6]
       refine tk 5 ?_
       try simp only[sl1,sl2,sl3,Act.put,sl4,sl5,sl6]
       refine tk 6 ?_
       try simp only[sl1,sl2,sl3,Act.put,sl4,sl5,sl6]
       refine tk 7 ?_ (h2:=by(intro W hSw;have z9:=(HAf.out W (HKr.out.trans (Kept.of_below hSw))).c0;clear hSw;go_simp;all_goals with_reducible rfl))
       try simp only[sl1,sl2,sl3,Act.put,sl4,sl5,sl6]
       refine wpAnyL_two (i:=8) (j:=12) (by kernel_rfl) rfl rfl (fun K hK=>?_) (fun K hK=>?_)
       ·go_simp
        go_at_call 84
        refine (CF2.out wr.drew (Below.refl _ _).drew).mono ?_
        rintro e w5 ⟨rfl,hb⟩
        have HB5:Hid (Below wr.heap.size wr w5):=Lib.hid ((Below.refl _ _).drew.trans hb)
        clear hb
        refine hK _ _ HB5.out (fun hHeld=>?_)
        clear hK K
        (try simp only[sl1,sl2,sl3,Act.put,sl4,sl5,sl6])
        refine tk 9 ?_
        try simp only[sl1,sl2,sl3,Act.put,sl4,sl5,sl6]
        refine tk 10 ?_
        try simp only[sl1,sl2,sl3,Act.put,sl4,sl5,sl6]
        refine tk 11 ?_
        try simp only[sl1,sl2,sl3,Act.put,sl4,sl5,sl6]
        refine wpAnyL_step (j:=12) (o:=_) (by kernel_rfl) rfl (fun K hK=>?_)
        go_simp
        refine hK _ _ ?_ (fun hHeld=>?_)
        ·((try dsimp only);(exact HB5.out.alloc HB5.out.size _))
        clear hK K
        try simp only[sl1,sl2,sl3,Act.put,sl4,sl5,sl6]
        refine wpAnyL_step (j:=13) (o:=_) (by kernel_rfl) rfl (fun K hK=>?_)
        go_simp
        refine hK _ _ ?_ (fun hHeld=>?_)
        ·((try dsimp only);(exact HB5.out.alloc HB5.out.size _))
        clear hK K
        try simp only[sl1,sl2,sl3,Act.put,sl4,sl5,sl6]
        refine wpAnyL_last (j:=14) (o:=_) (by kernel_rfl) rfl (by rfl) (by kernel_rfl) (fun K hK=>?_)
        go_simp
        (refine hK _ _ ?_;clear hK K)
        try simp only[sl1,sl2,sl3,Act.put,sl4,sl5,sl6]
        obtain⟨v,hv⟩:∃v,w5.alloc (tyBox (tyO o).k (tyO o).nm (tyO o).n)=v:=⟨_,rfl⟩
        have HBv:Hid (Below wr.heap.size wr v):=Lib.hid (by rw[←hv];exact HB5.out.alloc HB5.out.size _)
        simp only[hv]
        have HSv:=Lib.hid (HSr.out.below HBv.out)
        have HKv:=Lib.hid (HKr.out.trans (Kept.of_below HBv.out))
        clear hv
        exact qxa8g_6
       ·go_simp
        have HBa:Hid (Below wr.heap.size wr ((wr.drew).alloc (tyBox 0 [] 0))):=Lib.hid (((Below.refl wr.heap.size wr).drew).alloc (Nat.le_refl _) _)
        refine hK _ _ HBa.out (fun hHeld=>?_)
        clear hK K
        (try simp only[sl1,sl2,sl3,Act.put,sl4,sl5,sl6])
        refine wpAnyL_step (j:=8) (o:=_) (by kernel_rfl) rfl (fun K hK=>?_)
        (go_simp;go_at_call 84;refine (CF2.out _ HBa.out).mono ?_;rintro e w5 ⟨rfl,hb⟩;have HB5:Hid (Below wr.heap.size wr w5):=Lib.hid (HBa.out.trans (hb.mono HBa.out.size));have z5:=(hb.block _ (lt_blk (heap_alloc_new wr.drew (tyBox 0 [] 0)))).trans (heap_alloc_new wr.drew (tyBox 0 [] 0));have HZ5:Hid (w5.heap[wr.heap.size]? =some (tyBox 0 [] 0)):=Lib.hid z5;clear hb z5;have c0:=cell_at HZ5.out 0;have c1:=cell_at HZ5.out 1;have c2:=cell_at HZ5.out 2;have f0:=frz_at HZ5.out 0;have f1:=frz_at HZ5.out 1;have f2:=frz_at HZ5.out 2;simp only[sl7,sl8,sl9]at c0 c1 c2)
        refine hK _ _ ?_ (fun hHeld=>?_)
        ·((try dsimp only);(exact HB5.out))
        clear hK K
        try simp only[sl1,sl2,sl3,Act.put,sl4,sl5,sl6]
        refine tk 9 ?_
        try simp only[sl1,sl2,sl3,Act.put,sl4,sl5,sl6]
        refine tk 10 ?_
        try simp only[sl1,sl2,sl3,Act.put,sl4,sl5,sl6]
        refine tk 11 ?_
        try simp only[sl1,sl2,sl3,Act.put,sl4,sl5,sl6]
        refine wpAnyL_step (j:=13) (o:=_) (by kernel_rfl) rfl (fun K hK=>?_)
        go_simp
        refine hK _ _ ?_ (fun hHeld=>?_)
        ·((try dsimp only);(exact (((HB5.out.setCell (p:=⟨wr.heap.size,0,none⟩) (Nat.le_refl _) _).setCell (p:=⟨wr.heap.size,1,none⟩) (Nat.le_refl _) _).setCell (p:=⟨wr.heap.size,2,none⟩) (Nat.le_refl _) _)))
        clear hK K
        try simp only[sl1,sl2,sl3,Act.put,sl4,sl5,sl6]
        refine wpAnyL_last (j:=14) (o:=_) (by kernel_rfl) rfl (by rfl) (by kernel_rfl) (fun K hK=>?_)
        go_simp
        (refine hK _ _ ?_;clear hK K)
        try simp only[sl1,sl2,sl3,Act.put,sl4,sl5,sl6]
        obtain⟨v,hv⟩:∃v,((w5.setCell ⟨wr.heap.size,0,none⟩ (.int .u8 (tyO o).k)).setCell ⟨wr.heap.size,1,none⟩ (.string ⟨(tyO o).nm.toArray⟩)).setCell ⟨wr.heap.size,2,none⟩ (.int .i64 (tyO o).n)=v:=⟨_,rfl⟩
        have HBv:Hid (Below wr.heap.size wr v):=Lib.hid (by rw[←hv];exact ((HB5.out.setCell (p:=⟨wr.heap.size,0,none⟩) (Nat.le_refl _) _).setCell (p:=⟨wr.heap.size,1,none⟩) (Nat.le_refl _) _).setCell (p:=⟨wr.heap.size,2,none⟩) (Nat.le_refl _) _)
        simp only[hv]
        have HSv:=Lib.hid (HSr.out.below HBv.out)
        have HKv:=Lib.hid (HKr.out.trans (Kept.of_below HBv.out))
        clear hv c0 c1 c2 f0 f1 f2
        exact qxa8g_6
      ·have t1:(er==0)=false:=by simpa using hne
       have hz:Sc.bad pl er=R1:=by have h:=hC.out;rw[Sc.bind_bad]at h;exact h
       have HSz:Hid (St5 X p R1 wr):=Lib.hid (by rw[←hz];exact hS.out)
       have HKz:=hK
       clear hne hC hS hK hz icap icapn
       go_wp2_with fail
       go_roundw
       case rel=>exact⟨j+1,R1,by go_num,by omega,HSz,HKz,Lib.hid (fun a ha=>by have:=HB1.out a ha;push_cast;omega),HC2⟩
       case measure=>simp[intOf];omega
     ·obtain hie:i=s.fs.length:=by omega
      have hz:ci=R1:=by have h:=hC.out;rw[hie,List.drop_length,scFds,Sc.bind_kq]at h;exact h
      have HSz:Hid (St5 X p R1 wr):=Lib.hid (by rw[←hz];exact hS.out)
      have HKz:=hK
      have hnl:¬(i:Int)<(s.fs.length:Int):=by omega
      clear hC hS hK hz hc hie
      go_wp2_with fail
      clear hnl
      go_roundw
      case rel=>exact⟨j+1,R1,by go_num,by omega,HSz,HKz,Lib.hid (fun a ha=>by have:=HB1.out a ha;push_cast;omega),HC2⟩
      case measure=>simp[intOf];omega
   ·have t1:(er==0)=false:=by simpa using hne
    have hz:Sc.bad pl er=R:=by have h:=hC.out;rw[Sc.bind_bad]at h;exact h
    have HSz:Hid (St5 X p R wr):=Lib.hid (by rw[←hz];exact hS.out)
    have HKz:=hK
    have HAz:Hid (∀a,R=.on a→a=(p.rs.length:Int) - 1):=Lib.hid fun a ha=>by rw[←hz]at ha;cases ha
    clear hne hC hS hK hz hA hr f4 c4 p1' p2' p3'
    go_wp2_with fail
    clear p0 c5 t1
    exact qxa8g_2
  ·obtain hje:j=p.rs.length:=by omega
   have hz:c=R:=by
    have h:=hC.out
    rw[hje,List.drop_length]at h
    rw[←h]
    cases c with
    |on a=>rw[Sc.bind_on,scRes]
    |bad q e=>rfl
   have HSz:Hid (St5 X p R wr):=Lib.hid (by rw[←hz];exact hS.out)
   have HKz:=hK
   have HAz:Hid (∀a,R=.on a→a=(p.rs.length:Int) - 1):=Lib.hid fun a ha=>by rw[←hz]at ha;rw[hA.out a ha,hje]
   have hnl:¬(j:Int)<(p.rs.length:Int):=by omega
   clear hC hS hK hz hc hA hr f4 c4 p1' p2' p3' hje
   go_wp2_with fail
   clear p0 c5 hnl
   exact qxa8g_2
end Go.Proofs.YtkklogikakcanaaGreatDoor
namespace Go.Proofs.YtkklogikakcanaaGreatDoor
open Go Go.RowKit
theorem mem8_three (c:Sc) (nm:List UInt8) (A B C:List (List UInt8)):((c.bind (kq (mem8 nm A))).bind (kq (mem8 nm B))).bind (kq (mem8 nm C))=c.bind (kq (mem8 nm (C.reverse++(B.reverse++A.reverse)))):=by
 rw[mem8_two,mem8_two,List.reverse_append,List.reverse_reverse,List.reverse_reverse]
 refine congrArg (Sc.bind c) (congrArg kq ?_)
 unfold mem8
 by_cases h1:nm∈A<;>by_cases h2:nm∈B<;>by_cases h3:nm∈C<;>simp[h1,h2,h3]
theorem scPas_c (p:Pr) (lc:List Fl) (f:Fl) (r:List Fl) (a:Int):kq (scPas p lc (f::r)) a=((kq (orE (!(fieldOf lc f.nm).isSome&& !(shOf p f.nm).isSome) 8) a).bind (kq (orE (knownT p f.t) 9))).bind (kq (scPas p (f::lc) r)):=by
 rw[scPas]
 cases (fieldOf lc f.nm).isSome with
 |true=>rfl
 |false=>
  cases (shOf p f.nm).isSome with
  |true=>rfl
  |false=>
   cases knownT p f.t<;>rfl
def fuR (p:Pr) (met:List (List UInt8)) (f:Fu) (c:Sc):Sc:=(((c.bind (kq (mem8 f.nm met))).bind (kq (scPas p [] f.ps))).bind (kq (orE (knownT p f.t) 9))).bind (scSts p f.ps.reverse f.t f.body)
set_option maxHeartbeats 40000000 in
set_option maxRecDepth 100000 in
theorem rfun5_any (B X:Nat) (hBX:B≤X) (p:Pr) (hp:PrTy p) (hcap:CapP p) (i:Nat) (f:Fu) (hf:p.fs[i]? =some f) (a:Int) (hg:stsGood f.body) (hv:vbSts f.body) (ha: -1≤a∧a+(plSts f.body:Nat)≤1000000) (hn:f.ps.length+plSts f.body≤100000) (w:World) (h:St5 X p (.on a) w) (hP:PrIn w B p):
  Calls Tryz.prog 44 #[.pointer (some ⟨X,0,none⟩),.int .i64 (i:Int)] w fun en w'=>en=.returned (.tuple #[])∧St5 X p (fuR p (((p.fs.map Fu.nm).take i).reverse++((p.ss.map Fl.nm).reverse++(p.rs.map Re.nm).reverse)) f (.on a)) w'∧Kp5 X w w':=by
 obtain⟨R,hR⟩:∃R,fuR p (((p.fs.map Fu.nm).take i).reverse++((p.ss.map Fl.nm).reverse++(p.rs.map Re.nm).reverse)) f (.on a)=R:=⟨_,rfl⟩
 rw[hR]
 unfold fuR at hR
 have hXl:=h.lt
 have hBl:B≤w.heap.size:=by omega
 have hi:i<p.fs.length:=(List.getElem?_eq_some_iff.1 hf).1
 have hmem:=List.mem_of_getElem? hf
 obtain⟨Z,hZ⟩:∃Z,w.heap.size=Z:=⟨_,rfl⟩
 obtain⟨w1,hw1⟩:∃w1,w.alloc (fuObj f)=w1:=⟨_,rfl⟩
 have hb1:Below w.heap.size w w1:=by rw[←hw1];exact (Below.refl _ _).alloc (Nat.le_refl _) _
 have x1:w1.heap[Z]? =some (fuObj f):=by rw[←hw1,←hZ];exact heap_alloc_new w _
 have HFb:Hid (∀W,Kp5 X w1 W→W.heap[Z]? =some (fuObj f)):=Lib.hid fun W hk=>(hk.block Z (lt_blk x1) (by omega)).trans x1
 have HKw:Hid (∀W,Kp5 X w1 W→Kp5 X w W):=Lib.hid fun W hk=>(Kept.of_below hb1).trans hk
 have HP:Hid (∀W,Kp5 X w1 W→PrIn W B p):=Lib.hid fun W hk=>hP.keep (Kept.below (HKw.out W hk) hBl (fun q hq=>by rw[hq];exact hBX)) (Nat.le_refl B)
 have HBs:Hid (∀W,Kp5 X w1 W→B≤W.heap.size):=Lib.hid fun W hk=>Nat.le_trans hBl (HKw.out W hk).size
 have HFu:Hid (∀W,Kp5 X w1 W→FuIn W B f):=Lib.hid fun W hk=>(HP.out W hk).fsub f hmem
 have HLc:Hid (∀W,Kp5 X w1 W→LcIn X W f.pd f.ps):=Lib.hid fun W hk=>by
  have h1:=(HFu.out W hk).ps
  refine⟨h1.len,fun hne=>?_,h1.sub⟩
  obtain⟨b,off,h2,h3,h4⟩:=h1.row hne
  have h5:=HBs.out W hk
  exact⟨b,off,h2,by omega,by omega,h4⟩
 have HS1:=Lib.hid (h.below hb1)
 have HK1:Hid (Kp5 X w1 w1):=Lib.hid (Kept.refl _ _)
 have HN:Hid (w.alloc (fuObj f)=w1∧w.heap.size=Z):=Lib.hid ⟨hw1,hZ⟩
 have HGv:Hid (stsGood f.body∧vbSts f.body∧(-1≤a∧a+(plSts f.body:Nat)≤1000000)∧f.ps.length+plSts f.body≤100000):=Lib.hid ⟨hg,hv,ha,hn⟩
 have HTy:Hid (∀x∈f.ps,TyI x.t):=Lib.hid (hp.pars f hmem)
 have HRS:Hid (RS5 B X p f.t f.body):=Lib.hid (rstmts5_any B X hBX p hp f.t _ f.body (Nat.le_refl _))
 have HSc:Hid (f.ps.length≤f.pd.c):=Lib.hid (hcap.pars f hmem)
 have CF:=Lib.hid (rfresh5_any B X hBX p (.on a) f.nm p.rs.length p.ss.length i (Nat.le_refl _) (Nat.le_refl _) (by omega) w1.drew (HS1.out.below (Below.refl _ _).drew) (HP.out _ HK1.out.drew))
 rw[List.take_of_length_le (Nat.le_of_eq (List.length_map _)),List.take_of_length_le (Nat.le_of_eq (List.length_map _)),mem8_three]at CF
 obtain⟨c1,hc1⟩:∃c1,(Sc.on a).bind (kq (mem8 f.nm (((p.fs.map Fu.nm).take i).reverse++((p.ss.map Fl.nm).reverse++(p.rs.map Re.nm).reverse))))=c1:=⟨_,rfl⟩
 rw[hc1]at CF hR
 obtain⟨R1,hR1⟩:∃R1,c1.bind (kq (scPas p [] f.ps))=R1:=⟨_,rfl⟩
 rw[hR1]at hR
 have HR1:=Lib.hid hR1
 have HR2:=Lib.hid hR
 have HA1:Hid (∀a0,c1=.on a0→a0=a):=Lib.hid fun a0 h0=>by rw[←hc1]at h0;exact (kq_on h0).2
 obtain⟨rb,ro,hda,-,hrow⟩:=hP.frow (by intro h0;rw[h0]at hf;cases hf)
 have z0:=(hrow i f hf).c0
 have z1:=(hrow i f hf).c1
 have z2:=(hrow i f hf).c2
 have z3:=(hrow i f hf).c3
 have z4:=(hrow i f hf).c4
 have z5:=(hrow i f hf).c5
 have p2:=h.lk.2.2.1
 rw[hda]at p2
 have i2:(0:Int)≤(i:Int):=Int.natCast_nonneg _
 have i1:(i:Int)<(p.fs.length:Int):=by omega
 have l3:p.fs.length≤140737488355328:=hP.flen
 have l4:f.ps.length≤100000:=by omega
 have HL3:=Lib.hid l3
 clear hw1 hb1 x1 hXl hBl hmem hZ hg hv ha hn hP h hda hrow hc1 hR1 hR hcap hf
 go_enter Tryz.func44,Tryz.ntmps44
 go_wp2_with fail
 simp only[HN.out.1,HN.out.2]
 clear z0 z1 z2 z3 z4 z5 p2
 refine wp_region_L (l:=16) (S:=(Below w1.heap.size w1)) (by kernel_rfl) ?_ (fun hHeld=>?_)
 ·((try dsimp only);(exact (Below.refl _ _).drew))
 refine tk 0 ?_
 try simp only[sl1,sl2,sl3,Act.put,sl4,sl5,sl6]
 refine tk 1 ?_
 try simp only[sl1,sl2,sl3,Act.put,sl4,sl5,sl6]
 refine tk 2 ?_ (h2:=by(intro W hSw;have z9:=cell_at (HFb.out W (Kept.of_below hSw)) 0;clear hSw;go_simp;all_goals with_reducible rfl))
 try simp only[sl1,sl2,sl3,Act.put,sl4,sl5,sl6]
 refine tk 3 ?_
 try simp only[sl1,sl2,sl3,Act.put,sl4,sl5,sl6]
 refine tk 4 ?_
 try simp only[sl1,sl2,sl3,Act.put,sl4,sl5,sl6]
 refine tk 5 ?_
 try simp only[sl1,sl2,sl3,Act.put,sl4,sl5,sl6]
 refine tk 6 ?_
 try simp only[sl1,sl2,sl3,Act.put,sl4,sl5,sl6]
 refine tk 7 ?_ (h2:=by(intro W hSw;have q1:=(HS1.out.below hSw).lk.1;clear hSw;go_simp;all_goals with_reducible rfl))
 try simp only[sl1,sl2,sl3,Act.put,sl4,sl5,sl6]
 refine tk 8 ?_
 try simp only[sl1,sl2,sl3,Act.put,sl4,sl5,sl6]
 refine tk 9 ?_
 try simp only[sl1,sl2,sl3,Act.put,sl4,sl5,sl6]
 refine tk 10 ?_
 try simp only[sl1,sl2,sl3,Act.put,sl4,sl5,sl6]
 refine tk 11 ?_
 try simp only[sl1,sl2,sl3,Act.put,sl4,sl5,sl6]
 refine tk 12 ?_
 try simp only[sl1,sl2,sl3,Act.put,sl4,sl5,sl6]
 refine tk 13 ?_ (h2:=by(intro W hSw;have q1:=(HS1.out.below hSw).lk.2.1;clear hSw;go_simp;all_goals with_reducible rfl))
 try simp only[sl1,sl2,sl3,Act.put,sl4,sl5,sl6]
 refine tk 14 ?_
 try simp only[sl1,sl2,sl3,Act.put,sl4,sl5,sl6]
 refine tk 15 ?_
 try simp only[sl1,sl2,sl3,Act.put,sl4,sl5,sl6]
 refine wpAnyL_last (j:=16) (o:=_) (by kernel_rfl) rfl (by rfl) (by kernel_rfl) (fun K hK=>?_)
 (go_simp;go_at_call 83;refine CF.out.mono ?_;rintro e w7 ⟨rfl,hs,hk⟩;have HS7:=Lib.hid hs;have HK7:=Lib.hid ((HK1.out.drew).trans hk);clear hs hk)
 (refine hK _ _ ?_;clear hK K)
 try simp only[sl1,sl2,sl3,Act.put,sl4,sl5,sl6]
 clear CF HS1 HK1 HL3 i1 i2 l3 hi
 go_wp2_with fail
 go_loopw [5] (fun ii wr=>∃(j:Nat) (c:Sc),ii=.int .i64 j∧j≤f.ps.length∧Hid (St5 X p c wr)∧Hid (Kp5 X w1 wr)∧Hid (∀a0,c=.on a0→a0=a∧∀q,fieldOf (f.ps.take j) q=fieldOf (f.ps.take j).reverse q)∧Hid (c.bind (kq (scPas p (f.ps.take j).reverse (f.ps.drop j)))=R1)) (fun ii _=>f.ps.length - (intOf ii).toNat)
 case atStart=>exact⟨0,c1,rfl,Nat.zero_le _,HS7,HK7,Lib.hid (fun a0 h0=>⟨HA1.out a0 h0,fun q=>by rw[List.take_zero];rfl⟩),Lib.hid (by rw[List.drop_zero];exact HR1.out)⟩
 case round=>
  clear HS7 HK7 HR1 HA1
  obtain⟨j,c,rfl,hj,hS,hK,hA,hC⟩:=hrel
  have j2:(0:Int)≤(j:Int):=Int.natCast_nonneg _
  obtain⟨pl,er,hr,hc⟩:=hS.out.box
  have c5:=cell_at hr 5
  simp only[sl7,sl8,sl9]at c5
  clear hr
  have fb1:=cell_at (HFb.out wr hK.out) 1
  simp only[sl7,sl8,sl9]at fb1
  by_cases hlt:j<f.ps.length
  ·have j1:(j:Int)<(f.ps.length:Int):=by omega
   have icap:(j:Int)≤(f.pd.c:Int):=by have:=HSc.out;omega
   have icapn:j≤f.pd.c:=by have:=HSc.out;omega
   rcases hc with ⟨rfl,rfl⟩|⟨rfl,hne⟩
   ·obtain⟨s,hs⟩:∃s,f.ps[j]? =some s:=⟨_,List.getElem?_eq_getElem hlt⟩
    have hdrop:f.ps.drop j=s::f.ps.drop (j+1):=by
     have:=List.drop_eq_getElem_cons hlt
     rw[List.getElem?_eq_getElem hlt]at hs
     injection hs with hs
     rw[this,hs]
    have htk0:f.ps.take (j+1)=f.ps.take j++[s]:=by rw[List.take_add_one,hs];rfl
    have htk:(f.ps.take (j+1)).reverse=s::(f.ps.take j).reverse:=by rw[htk0];simp
    have hC1:=hC.out
    obtain⟨hpl,hsame⟩:=hA.out pl rfl
    obtain⟨o1,ho1⟩:∃o,fieldOf (f.ps.take j) s.nm=o:=⟨_,rfl⟩
    obtain⟨o2,ho2⟩:∃o,fieldOf p.ss s.nm=o:=⟨_,rfl⟩
    have ho1':fieldOf (f.ps.take j).reverse s.nm=o1:=by rw[←hsame,ho1]
    have ho2':shOf p s.nm=o2:=ho2
    rw[hdrop,Sc.bind_on,scPas_c,ho1',ho2',←htk]at hC1
    have HM0:Hid (o1.isSome=false→∀q,fieldOf (f.ps.take (j+1)) q=fieldOf (f.ps.take (j+1)).reverse q):=Lib.hid fun hz q=>by
     rw[htk,htk0]
     exact field_more hsame (nm:=s.nm) (t:=s.t) (by rw[ho1'];cases o1 with|none=>rfl|some t1=>cases hz) q
    obtain⟨pb,po,hda,hpb,-⟩:=(HFu.out _ hK.out).ps.row (by intro h0;rw[h0]at hs;cases hs)
    have HAt:Hid (∀W,Kp5 X w1 W→FlAt W pb (po+j*4) s):=Lib.hid fun W hk=>by
     obtain⟨rb2,ro2,hda2,-,hrow2⟩:=(HFu.out _ hk).ps.row (by intro h0;rw[h0]at hs;cases hs)
     rw[hda]at hda2
     injection hda2 with hda2
     injection hda2 with e1 e2 e3
     subst e1 e2
     exact hrow2 j s hs
    have HQ1:Hid (∀W,Kp5 X w1 W→W.cell? ⟨Z,1,none⟩=some (.slice (some ⟨pb,po,none⟩) f.ps.length f.pd.c)):=Lib.hid fun W hk=>by rw[←hda];exact cell_at (HFb.out W hk) 1
    have CF1:Hid (∀W,Below wr.heap.size wr W→Calls Tryz.prog 84 #[.slice (some ⟨pb,po,none⟩) j f.pd.c,.string ⟨s.nm.toArray⟩] W fun e w'=>e=.returned (.tuple #[(tyO o1).val,.bool o1.isSome])∧Below W.heap.size W w'):=Lib.hid fun W hb=>by
     have hk:=hK.out.trans (Kept.of_below hb)
     have h:=rfield5_any f.pd (f.ps.take j) s.nm W (((HFu.out _ hk).ps.keep (Below.refl _ _) (HBs.out _ hk)).take j)
     rw[ho1,hda,show (f.ps.take j).length=j by rw[List.length_take];omega]at h
     exact h
    have CF2:Hid (∀W,Below wr.heap.size wr W→Calls Tryz.prog 84 #[.slice p.sd.a p.ss.length p.sd.c,.string ⟨s.nm.toArray⟩] W fun e w'=>e=.returned (.tuple #[(tyO o2).val,.bool o2.isSome])∧Below W.heap.size W w'):=Lib.hid fun W hb=>by
     have hk:=hK.out.trans (Kept.of_below hb)
     have h:=rfield5_any p.sd p.ss s.nm W (prIn_any (HP.out _ hk) (HBs.out _ hk)).ss
     rw[ho2]at h
     exact h
    have HC1:=Lib.hid hC1
    have HPl:=Lib.hid hpl
    obtain⟨m1,hm1⟩:∃b,o1.isSome=b:=⟨_,rfl⟩
    obtain⟨m2,hm2⟩:∃b,o2.isSome=b:=⟨_,rfl⟩
    have HM:Hid (m1=false→∀q,fieldOf (f.ps.take (j+1)) q=fieldOf (f.ps.take (j+1)).reverse q):=Lib.hid (by rw[←hm1];exact HM0.out)
    rw[hm1]at CF1 HC1
    rw[hm2]at CF2 HC1
    have HSr:=hS
    have HKr:=hK
    clear hs hdrop htk htk0 hC hC1 ho1 ho2 ho1' ho2' hm1 hm2 hS hK hA HM0 hsame hpl
    rw[hda]at fb1
    clear hda
    dsimp only[Ty.val]at CF1 CF2
    go_wp2_with fail
    clear fb1
    refine wp_region_L (l:=16) (S:=(Below wr.heap.size wr)) (by kernel_rfl) ?_ (fun hHeld=>?_)
    ·((try dsimp only);(exact (Below.refl _ _).drew))
    refine tk 0 ?_
    try simp only[sl1,sl2,sl3,Act.put,sl4,sl5,sl6]
    refine tk 1 ?_ (h2:=by(intro W hSw;have q1:=HQ1.out W (HKr.out.trans (Kept.of_below hSw));clear hSw;go_simp;all_goals with_reducible rfl))
    try simp only[sl1,sl2,sl3,Act.put,sl4,sl5,sl6]
    refine tk 2 ?_
    try simp only[sl1,sl2,sl3,Act.put,sl4,sl5,sl6]
    refine tk 3 ?_ (h2:=by(intro W hSw;go_simp;all_goals first|with_reducible rfl|(simp[icapn];done)|omega))
    try simp only[sl1,sl2,sl3,Act.put,sl4,sl5,sl6]
    refine tk 4 ?_
    try simp only[sl1,sl2,sl3,Act.put,sl4,sl5,sl6]
    refine tk 5 ?_ (h2:=by(intro W hSw;have q1:=HQ1.out W (HKr.out.trans (Kept.of_below hSw));clear hSw;go_simp;all_goals with_reducible rfl))
    try simp only[sl1,sl2,sl3,Act.put,sl4,sl5,sl6]
    refine tk 6 ?_
    try simp only[sl1,sl2,sl3,Act.put,sl4,sl5,sl6]
    refine tk 7 ?_
    try simp only[sl1,sl2,sl3,Act.put,sl4,sl5,sl6]
    refine tk 8 ?_
    try simp only[sl1,sl2,sl3,Act.put,sl4,sl5,sl6]
    refine tk 9 ?_ (h2:=by(intro W hSw;have z9:=(HAt.out W (HKr.out.trans (Kept.of_below hSw))).c0;clear hSw;go_simp;all_goals with_reducible rfl))
    try simp only[sl1,sl2,sl3,Act.put,sl4,sl5,sl6]
    refine wpAnyL_two (i:=10) (j:=14) (by kernel_rfl) rfl rfl (fun K hK=>?_) (fun K hK=>?_)
    ·go_simp
     go_at_call 84
     refine (CF1.out wr.drew (Below.refl _ _).drew).mono ?_
     rintro e w5 ⟨rfl,hb⟩
     have HB5:Hid (Below wr.heap.size wr w5):=Lib.hid ((Below.refl _ _).drew.trans hb)
     clear hb
     refine hK _ _ HB5.out (fun hHeld=>?_)
     clear hK K
     (try simp only[sl1,sl2,sl3,Act.put,sl4,sl5,sl6])
     refine tk 11 ?_
     try simp only[sl1,sl2,sl3,Act.put,sl4,sl5,sl6]
     refine tk 12 ?_
     try simp only[sl1,sl2,sl3,Act.put,sl4,sl5,sl6]
     refine tk 13 ?_
     try simp only[sl1,sl2,sl3,Act.put,sl4,sl5,sl6]
     refine wpAnyL_step (j:=14) (o:=_) (by kernel_rfl) rfl (fun K hK=>?_)
     go_simp
     refine hK _ _ ?_ (fun hHeld=>?_)
     ·((try dsimp only);(exact HB5.out.alloc HB5.out.size _))
     clear hK K
     try simp only[sl1,sl2,sl3,Act.put,sl4,sl5,sl6]
     refine wpAnyL_step (j:=15) (o:=_) (by kernel_rfl) rfl (fun K hK=>?_)
     go_simp
     refine hK _ _ ?_ (fun hHeld=>?_)
     ·((try dsimp only);(exact HB5.out.alloc HB5.out.size _))
     clear hK K
     try simp only[sl1,sl2,sl3,Act.put,sl4,sl5,sl6]
     refine wpAnyL_last (j:=16) (o:=_) (by kernel_rfl) rfl (by rfl) (by kernel_rfl) (fun K hK=>?_)
     go_simp
     (refine hK _ _ ?_;clear hK K)
     try simp only[sl1,sl2,sl3,Act.put,sl4,sl5,sl6]
     obtain⟨v,hv⟩:∃v,w5.alloc (tyBox (tyO o1).k (tyO o1).nm (tyO o1).n)=v:=⟨_,rfl⟩
     have HBv:Hid (Below wr.heap.size wr v):=Lib.hid (by rw[←hv];exact HB5.out.alloc HB5.out.size _)
     simp only[hv]
     have HSv:=Lib.hid (HSr.out.below HBv.out)
     have HKv:=Lib.hid (HKr.out.trans (Kept.of_below HBv.out))
     clear hv
     exact qxa8g_4
    ·go_simp
     have HBa:Hid (Below wr.heap.size wr ((wr.drew).alloc (tyBox 0 [] 0))):=Lib.hid (((Below.refl wr.heap.size wr).drew).alloc (Nat.le_refl _) _)
     refine hK _ _ HBa.out (fun hHeld=>?_)
     clear hK K
     (try simp only[sl1,sl2,sl3,Act.put,sl4,sl5,sl6])
     refine wpAnyL_step (j:=10) (o:=_) (by kernel_rfl) rfl (fun K hK=>?_)
     (go_simp;go_at_call 84;refine (CF1.out _ HBa.out).mono ?_;rintro e w5 ⟨rfl,hb⟩;have HB5:Hid (Below wr.heap.size wr w5):=Lib.hid (HBa.out.trans (hb.mono HBa.out.size));have z5:=(hb.block _ (lt_blk (heap_alloc_new wr.drew (tyBox 0 [] 0)))).trans (heap_alloc_new wr.drew (tyBox 0 [] 0));have HZ5:Hid (w5.heap[wr.heap.size]? =some (tyBox 0 [] 0)):=Lib.hid z5;clear hb z5;have c0:=cell_at HZ5.out 0;have c1:=cell_at HZ5.out 1;have c2:=cell_at HZ5.out 2;have f0:=frz_at HZ5.out 0;have f1:=frz_at HZ5.out 1;have f2:=frz_at HZ5.out 2;simp only[sl7,sl8,sl9]at c0 c1 c2)
     refine hK _ _ ?_ (fun hHeld=>?_)
     ·((try dsimp only);(exact HB5.out))
     clear hK K
     try simp only[sl1,sl2,sl3,Act.put,sl4,sl5,sl6]
     refine tk 11 ?_
     try simp only[sl1,sl2,sl3,Act.put,sl4,sl5,sl6]
     refine tk 12 ?_
     try simp only[sl1,sl2,sl3,Act.put,sl4,sl5,sl6]
     refine tk 13 ?_
     try simp only[sl1,sl2,sl3,Act.put,sl4,sl5,sl6]
     refine wpAnyL_step (j:=15) (o:=_) (by kernel_rfl) rfl (fun K hK=>?_)
     go_simp
     refine hK _ _ ?_ (fun hHeld=>?_)
     ·((try dsimp only);(exact (((HB5.out.setCell (p:=⟨wr.heap.size,0,none⟩) (Nat.le_refl _) _).setCell (p:=⟨wr.heap.size,1,none⟩) (Nat.le_refl _) _).setCell (p:=⟨wr.heap.size,2,none⟩) (Nat.le_refl _) _)))
     clear hK K
     try simp only[sl1,sl2,sl3,Act.put,sl4,sl5,sl6]
     refine wpAnyL_last (j:=16) (o:=_) (by kernel_rfl) rfl (by rfl) (by kernel_rfl) (fun K hK=>?_)
     go_simp
     (refine hK _ _ ?_;clear hK K)
     try simp only[sl1,sl2,sl3,Act.put,sl4,sl5,sl6]
     obtain⟨v,hv⟩:∃v,((w5.setCell ⟨wr.heap.size,0,none⟩ (.int .u8 (tyO o1).k)).setCell ⟨wr.heap.size,1,none⟩ (.string ⟨(tyO o1).nm.toArray⟩)).setCell ⟨wr.heap.size,2,none⟩ (.int .i64 (tyO o1).n)=v:=⟨_,rfl⟩
     have HBv:Hid (Below wr.heap.size wr v):=Lib.hid (by rw[←hv];exact ((HB5.out.setCell (p:=⟨wr.heap.size,0,none⟩) (Nat.le_refl _) _).setCell (p:=⟨wr.heap.size,1,none⟩) (Nat.le_refl _) _).setCell (p:=⟨wr.heap.size,2,none⟩) (Nat.le_refl _) _)
     simp only[hv]
     have HSv:=Lib.hid (HSr.out.below HBv.out)
     have HKv:=Lib.hid (HKr.out.trans (Kept.of_below HBv.out))
     clear hv c0 c1 c2 f0 f1 f2
     exact qxa8g_4
   ·have t1:(er==0)=false:=by simpa using hne
    have hz:Sc.bad pl er=R1:=by have h:=hC.out;rw[Sc.bind_bad]at h;exact h
    have HSz:Hid (St5 X p R1 wr):=Lib.hid (by rw[←hz];exact hS.out)
    have HKz:=hK
    have HRa:Hid (∀a0,R1=.on a0→a0=a∧∀q,fieldOf f.ps q=fieldOf f.ps.reverse q):=Lib.hid fun a0 h0=>by rw[←hz]at h0;cases h0
    clear hne hC hS hK hz hA icap icapn
    have CK:=Lib.hid (rknown5_any p f.t wr.drew (prIn_any (HP.out wr.drew HKz.out.drew) (HBs.out _ HKz.out.drew)))
    go_wp2_with fail
    clear fb1 c5 t1 j1
    exact qxa8g_5
  ·obtain hje:j=f.ps.length:=by omega
   have hz:c=R1:=by have h:=hC.out;rw[hje,List.drop_length,scPas,Sc.bind_kq]at h;exact h
   have HSz:Hid (St5 X p R1 wr):=Lib.hid (by rw[←hz];exact hS.out)
   have HKz:=hK
   have HRa:Hid (∀a0,R1=.on a0→a0=a∧∀q,fieldOf f.ps q=fieldOf f.ps.reverse q):=Lib.hid fun a0 h0=>by
    rw[←hz]at h0
    have h2:=hA.out a0 h0
    rw[hje,List.take_length]at h2
    exact h2
   have hnl:¬(j:Int)<(f.ps.length:Int):=by omega
   clear hC hS hK hz hc hA hje
   have CK:=Lib.hid (rknown5_any p f.t wr.drew (prIn_any (HP.out wr.drew HKz.out.drew) (HBs.out _ HKz.out.drew)))
   go_wp2_with fail
   clear fb1 c5 hnl
   exact qxa8g_5
end Go.Proofs.YtkklogikakcanaaGreatDoor
namespace Go.Proofs.YtkklogikakcanaaGreatDoor
open Go Go.RowKit
mutual
theorem chkSt_vb:∀(s:St) (deep:Nat) (a a':At),chkSt s deep a=.on a'→vbSt s
 |.mk k nm t x y bd body ed els,deep,a,a',h=>by
  rw[chkSt]at h
  cases hi:itemC deep a.it with
  |error e=>rw[hi]at h;cases h
  |ok it=>
   rw[hi]at h
   dsimp only at h
   split at h
   ·cases h
   ·rename_i hf
    split at h
    ·cases h
    ·rename_i ht
     cases hx:(if k=5∨((k=1∨k=7)∧noEx x=true) then Chk.on ⟨a.p,it⟩ else chkXt x ⟨a.p,it⟩) with
     |bad p e=>rw[hx]at h;cases h
     |on a1=>
      rw[hx]at h
      dsimp only at h
      cases hy:(if k=2 then chkXt y a1 else Chk.on a1) with
      |bad p e=>rw[hy]at h;cases h
      |on a2=>
       rw[hy]at h
       dsimp only at h
       cases hb:chkSts body (deep+1) a2 with
       |bad p e=>rw[hb]at h;cases h
       |on a3=>
        rw[hb]at h
        rw[vbSt]
        refine⟨fun hk=>?_,chkSts_vb body _ _ _ hb,chkSts_vb els _ _ _ h⟩
        subst hk
        have hf2:stForm (.mk 1 nm t x y bd body ed els)=true:=by simpa using hf
        unfold stForm at hf2
        simp[St.k,St.body,St.els,St.nm,St.x,St.y,St.t]at hf2
        exact⟨hf2.2.2.1,hf2.2.2.2,TyI.of_form (Decidable.not_not.1 fun h2=>ht ⟨rfl,h2⟩)⟩
theorem chkSts_vb:∀(l:List St) (deep:Nat) (a a':At),chkSts l deep a=.on a'→vbSts l
 |[],_,_,_,_=>by rw[vbSts];trivial
 |s::r,deep,a,a',h=>by
  obtain⟨a1,h1,h2⟩:=chkSts_on h
  rw[vbSts]
  exact⟨chkSt_vb s _ _ _ h1,chkSts_vb r _ _ _ h2⟩
end
theorem scThs_c (p:Pr) (t:Th) (l:List Th) (a:Int):scThs p (t::l) a=(scSts p [] ty0 t.l (a+1)).bind (scThs p l):=by
 rw[scThs]
 cases scSts p [] ty0 t.l (a+1)<;>rfl
theorem scFus_c (p:Pr) (met:List (List UInt8)) (f:Fu) (l:List Fu) (a:Int):scFus p met (f::l) a=(fuR p met f (.on (a+1))).bind (scFus p (f.nm::met) l):=by
 rw[scFus]
 unfold fuR mem8
 by_cases h:f.nm∈met
 ·rw[if_pos h,if_pos h];rfl
 ·rw[if_neg h,if_neg h,Sc.bind_kq]
  by_cases h2:scPas p [] f.ps=0
  ·rw[if_neg (not_not_intro h2),h2,Sc.bind_kq]
   cases knownT p f.t with
   |false=>rfl
   |true=>
    show _=((scSts p f.ps.reverse f.t f.body (a+1))).bind _
    cases scSts p f.ps.reverse f.t f.body (a+1)<;>rfl
  ·rw[if_pos h2,Sc.bind_on,kq_ne h2];rfl
theorem fuR_on {p:Pr} {met:List (List UInt8)} {f:Fu} {a a':Int} (h:fuR p met f (.on a)=.on a'):a'=a+(plSts f.body:Nat):=by
 unfold fuR at h
 obtain⟨a0,h0,h⟩:=sc_on_inv h
 have h1:=(scSts_on p _ _ f.body a0).1 a' h
 obtain⟨a1,h0,h2⟩:=sc_on_inv h0
 obtain⟨a2,h0,h3⟩:=sc_on_inv h0
 have e1:=(kq_on (pl:=a1) h2).2
 have e2:=(kq_on (pl:=a2) h3).2
 have e3:=(kq_on h0).2
 omega
theorem le_sum5 {x:Nat}:∀{l:List Nat},x∈l→x≤l.sum
 |y::r,h=>by
  rw[List.sum_cons]
  rcases List.mem_cons.1 h with rfl|h
  ·omega
  ·have:=le_sum5 h;omega
theorem sum_one {α:Type} (g:α→Nat):∀l:List α,(l.map fun x=>1+g x).sum=l.length+(l.map g).sum
 |[]=>rfl
 |x::r=>by simp only[List.map_cons,List.sum_cons,List.length_cons,sum_one g r];omega
set_option maxHeartbeats 40000000 in
set_option maxRecDepth 100000 in
theorem rcheck5_any (p:Pr) (hcap:CapP p) (w:World) (hI:PrIn w w.heap.size p):
  Calls Tryz.prog 12 #[p.val] w fun e w'=>e=.returned (.tuple #[.int .i64 (typesCheck p).1,.int .i64 (typesCheck p).2])∧Below w.heap.size w w':=by
 obtain⟨B,hB⟩:∃B,w.heap.size=B:=⟨_,rfl⟩
 rw[hB]
 obtain⟨w1,hw1⟩:∃w1,w.alloc (prObj p)=w1:=⟨_,rfl⟩
 have hb1:Below w.heap.size w w1:=by rw[←hw1];exact (Below.refl _ _).alloc (Nat.le_refl _) _
 have x1:w1.heap[B]? =some (prObj p):=by rw[←hw1,←hB];exact heap_alloc_new w _
 have C:=Lib.hid (rcheck3_any p w1 (hI.keep hb1 hb1.size))
 have HN:=Lib.hid (And.intro hw1 hB)
 have HB1:=Lib.hid hb1
 have HRow1:Hid (∀W,Below w1.heap.size w1 W→W.heap[B]? =some (prObj p)):=Lib.hid fun W hb=>(hb.block B (lt_blk x1)).trans x1
 have HI:=Lib.hid hI
 have q0:=cell_at x1 0
 have q1:=cell_at x1 1
 have q2:=cell_at x1 2
 have q3:=cell_at x1 3
 simp only[sl7,sl8,sl9]at q0 q1 q2 q3
 rw[←hw1]at q0 q1 q2 q3
 rw[←hB]at q0 q1 q2 q3
 clear hI hw1 hb1 x1
 by_cases hf:(faultOf p).2=0
 ·obtain⟨a0,ha0⟩:=fault_on hf
  have hgd:=chkPr_on ha0
  have HTy:=Lib.hid (PrTy.of_good hgd)
  obtain⟨hpl,hg1,hg2⟩:=places_good ha0
  have hit:=hgd.items
  have HGf:Hid (∀f∈p.fs,stsGood f.body∧vbSts f.body∧f.ps.length+plSts f.body≤100000):=Lib.hid fun f hf=>⟨hg1 f hf,(hgd.funs.2 f hf).2.2.2.elim fun a h=>h.elim fun a' h=>chkSts_vb _ _ _ _ h,by
   have h1:=(chkFls_ok f.ps 0 (hgd.funs.2 f hf).2.1).1
   have h2:f.ps.length≤16:=by
    by_cases h0:f.ps=[]
    ·rw[h0];decide
    ·have:=h1 h0;omega
   have h3:=plSts_items f.body
   have h4:=le_sum5 (List.mem_map_of_mem (f:=fun f:Fu=>stCounts f.body) hf)
   unfold itemsOf at hit
   omega⟩
  have HGt:Hid (∀t∈p.ts,stsGood t.l∧vbSts t.l∧plSts t.l≤100000):=Lib.hid fun t ht=>⟨hg2 t ht,(hgd.thrs.2 t ht).elim fun a h=>h.elim fun a' h=>chkSts_vb _ _ _ _ h,by
   have h3:=plSts_items t.l
   have h4:=le_sum5 (List.mem_map_of_mem (f:=fun t:Th=>stCounts t.l) ht)
   unfold itemsOf at hit
   omega⟩
  have hr16:p.rs.length≤100:=by have:=hgd.recs.1;omega
  have hs16:p.ss.length≤10000:=by have:=hgd.shs.1;omega
  have hl3:p.fs.length≤140737488355328:=by have:=hgd.funs.1;omega
  have hl4:p.ts.length≤140737488355328:=by have:=hgd.thrs.1;omega
  have hsum:(p.rs.length+p.ss.length+((p.fs.map fun f=>1+plSts f.body).sum+(p.ts.map fun t=>1+plSts t.l).sum))≤1000000:=by
   rw[sum_one (fun f:Fu=>plSts f.body),sum_one (fun t:Th=>plSts t.l)]
   unfold placesOf at hpl
   omega
  have HSum:=Lib.hid hsum
  obtain⟨R0,hR0⟩:∃R0,(scRes p [] p.rs (-1)).bind (scShs p (p.rs.map Re.nm).reverse p.ss)=R0:=⟨_,rfl⟩
  obtain⟨R3,hR3⟩:∃R3,R0.bind (scFus p ((p.ss.map Fl.nm).reverse++(p.rs.map Re.nm).reverse) p.fs)=R3:=⟨_,rfl⟩
  obtain⟨R4,hR4⟩:∃R4,R3.bind (scThs p p.ts)=R4:=⟨_,rfl⟩
  have hF:∀q e,(match R4 with|.bad q e=>(q,e)|.on _=>((0:Int),(0:Int)))=(q,e)→typesCheck p=(q,e):=fun q e h=>by
   unfold typesCheck scFault scPr scHeads
   rw[if_neg (not_not_intro hf),hR0,hR3,hR4]
   exact h
  have HF:=Lib.hid hF
  have HR3:=Lib.hid hR3
  have HR4:=Lib.hid hR4
  have HA0:Hid (∀a,R0=.on a→a= -1+(p.rs.length:Int)+(p.ss.length:Int)):=Lib.hid fun a h=>by
   rw[←hR0]at h
   obtain⟨a1,h1,h2⟩:=sc_on_inv h
   have h3:=(scRes_on p p.rs [] (-1)).1 a1 h1
   have h4:=(scShs_on p p.ss _ a1).1 a h2
   omega
  rw[hf]at C
  have HCap:=Lib.hid hcap
  have HR0:=Lib.hid hR0
  generalize typesCheck p=F at*
  clear hf ha0 hgd hg1 hg2 hit hpl hF hR3 hR4 hR0 hsum hcap
  dsimp only[Pr.val]at C ⊢
  go_enter Tryz.func12,Tryz.ntmps12
  go_wp2_with fail
  simp only[HN.out.1,HN.out.2]
  clear q0 q1 q2 q3
  go_at_call 42
  refine C.out.mono ?_
  rintro e w2 ⟨rfl,hb2⟩
  have hBs:w.heap.size=B:=HN.out.2
  have hbw2:Below B w w2:=by rw[←HN.out.2];exact HB1.out.trans (hb2.mono HB1.out.size)
  obtain⟨X,hX⟩:∃X,w2.heap.size=X:=⟨_,rfl⟩
  obtain⟨w3,hw3⟩:∃w3,w2.alloc (lkObj p (-1) 0)=w3:=⟨_,rfl⟩
  have hb3:Below w2.heap.size w2 w3:=by rw[←hw3];exact (Below.refl _ _).alloc (Nat.le_refl _) _
  have x3:w3.heap[X]? =some (lkObj p (-1) 0):=by rw[←hw3,←hX];exact heap_alloc_new w2 _
  have y2:=HRow1.out w2 hb2
  have y3:w3.heap[B]? =some (prObj p):=(hb3.block B (lt_blk y2)).trans y2
  have hBX:B<X:=by have:=lt_blk y2;omega
  have hbw3:Below B w w3:=hbw2.trans (hb3.mono (hBs▸hbw2.size))
  have HBX:Hid (B≤X):=Lib.hid (Nat.le_of_lt hBX)
  have HRow:Hid (∀W,Kp5 X w3 W→W.heap[B]? =some (prObj p)):=Lib.hid fun W hk=>(hk.block B (lt_blk y3) (by omega)).trans y3
  have HBl:Hid (∀W,Kp5 X w3 W→Below B w W):=Lib.hid fun W hk=>hbw3.trans (Kept.below hk (hBs▸hbw3.size) (fun k h=>by rw[h];exact Nat.le_of_lt hBX))
  have HP:Hid (∀W,Kp5 X w3 W→PrIn W B p):=Lib.hid fun W hk=>HI.out.keep (by rw[hBs];exact HBl.out W hk) (Nat.le_of_eq hBs)
  have HS3:Hid (St5 X p (.on (-1)) w3):=Lib.hid x3
  have HK3:Hid (Kp5 X w3 w3):=Lib.hid (Kept.refl _ _)
  have CH:=Lib.hid (rheads5_any B X (Nat.le_of_lt hBX) p HCap.out hr16 hs16 w3 HS3.out (HP.out _ HK3.out))
  rw[HR0.out]at CH
  have HN3:=Lib.hid (And.intro hw3 hX)
  have q0:=cell_at y2 0
  have q1:=cell_at y2 1
  have q2:=cell_at y2 2
  have q3:=cell_at y2 3
  simp only[sl7,sl8,sl9]at q0 q1 q2 q3
  clear hb2 hbw2 hX hw3 hb3 x3 y2 y3 hBX hbw3 hBs HS3 HK3 C HB1 HRow1 HI HR0 HN hr16 hs16
  go_wp2_with fail
  simp only[HN3.out.1,HN3.out.2]
  clear q0 q1 q2 q3
  go_at_call 43
  refine CH.out.mono ?_
  rintro e w4 ⟨rfl,hs4,hk4⟩
  have HS4:=Lib.hid hs4
  have HK4:=Lib.hid hk4
  clear hs4 hk4 CH HN3
  go_wp2_with fail
  go_loopw [5] (fun ii wr=>∃(j:Nat) (c:Sc),ii=.int .i64 j∧j≤p.fs.length∧Hid (St5 X p c wr)∧Hid (Kp5 X w3 wr)∧Hid (∀a,c=.on a→-1≤a∧a+((((p.fs.drop j).map fun f=>1+plSts f.body).sum+(p.ts.map fun t=>1+plSts t.l).sum:Nat):Int)≤1000000)∧Hid (c.bind (scFus p (((p.fs.map Fu.nm).take j).reverse++((p.ss.map Fl.nm).reverse++(p.rs.map Re.nm).reverse)) (p.fs.drop j))=R3)) (fun ii _=>p.fs.length - (intOf ii).toNat)
  case atStart=>exact⟨0,_,rfl,Nat.zero_le _,HS4,HK4,Lib.hid (fun a ha=>by have h1:=HA0.out a ha;have h2:=HSum.out;rw[List.drop_zero];omega),Lib.hid (by rw[List.drop_zero];exact HR3.out)⟩
  case round=>
   obtain⟨j,c,rfl,hj,hS,hK,hA,hC⟩:=hrel
   clear HS4 HK4 HA0 HSum
   have p2:(0:Int)≤(j:Int):=Int.natCast_nonneg _
   have p9:p.fs.length≤140737488355328:=hl3
   obtain⟨pl,er,hr,hc⟩:=hS.out.box
   have c4:=cell_at hr 4
   have c5:=cell_at hr 5
   have f4:=frz_at hr 4
   simp only[sl7,sl8,sl9]at c4 c5
   have row:=HRow.out _ hK.out
   have q0:=cell_at row 0
   have q1:=cell_at row 1
   have q2:=cell_at row 2
   have q3:=cell_at row 3
   clear row
   simp only[sl7,sl8,sl9]at q0 q1 q2 q3
   by_cases hlt:j<p.fs.length
   ·have p1:(j:Int)<(p.fs.length:Int):=by omega
    rcases hc with ⟨rfl,rfl⟩|⟨rfl,hne⟩
    ·obtain⟨s,hs⟩:∃s,p.fs[j]? =some s:=⟨_,List.getElem?_eq_getElem hlt⟩
     have hdrop:p.fs.drop j=s::p.fs.drop (j+1):=by
      have:=List.drop_eq_getElem_cons hlt
      rw[List.getElem?_eq_getElem hlt]at hs
      injection hs with hs
      rw[this,hs]
     have hmem:=List.mem_of_getElem? hs
     have htk:((p.fs.map Fu.nm).take (j+1)).reverse=s.nm::((p.fs.map Fu.nm).take j).reverse:=by rw[List.take_add_one,List.getElem?_map,hs];simp
     have HG:=Lib.hid (HGf.out s hmem)
     have hA1:=hA.out pl rfl
     rw[hdrop,List.map_cons,List.sum_cons]at hA1
     have hC1:=hC.out
     rw[hdrop,Sc.bind_on,scFus_c,←List.cons_append,←htk]at hC1
     have e1:IntKind.i64.wrap (pl+1)=pl+1:=by rw[IntKind.wrap_i64];omega
     obtain⟨w6,hw6⟩:∃w6,wr.setCell ⟨X,4,none⟩ (.int .i64 (pl+1))=w6:=⟨_,rfl⟩
     have hk6:Kp5 X wr w6:=by rw[←hw6];exact Kp5.set (Kept.refl _ _) 4 _
     have HS6:Hid (St5 X p (.on (pl+1)) w6):=Lib.hid (by rw[←hw6];exact Lk5.setP hr _)
     have HK6:=Lib.hid (hK.out.trans hk6)
     have HW6:=Lib.hid hw6
     have CU:=Lib.hid (rfun5_any B X HBX.out p HTy.out HCap.out j s hs (pl+1) HG.out.1 HG.out.2.1 ⟨by omega,by omega⟩ HG.out.2.2 w6 HS6.out (HP.out _ HK6.out))
     have HC1:=Lib.hid hC1
     have HA1:=Lib.hid hA1
     clear hr hdrop hs hmem hA1 hC1 hw6 hk6 hC hA hS hK htk
     go_wp2_with fail
     simp only[HW6.out]
     clear q0 q1 q2 q3 c4 c5 f4
     go_at_call 44
     refine CU.out.mono ?_
     rintro e w7 ⟨rfl,hs7,hk7⟩
     have HS7:=Lib.hid hs7
     have HK7:=Lib.hid (HK6.out.trans hk7)
     have HAn:Hid (∀a,fuR p (((p.fs.map Fu.nm).take j).reverse++((p.ss.map Fl.nm).reverse++(p.rs.map Re.nm).reverse)) s (.on (pl+1))=.on a→-1≤a∧a+((((p.fs.drop (j+1)).map fun f=>1+plSts f.body).sum+(p.ts.map fun t=>1+plSts t.l).sum:Nat):Int)≤1000000):=Lib.hid fun a ha=>by
      have h1:=fuR_on ha
      have h2:=HA1.out
      omega
     clear hs7 hk7 CU HS6 HK6 HW6 HG HA1 e1
     go_wp2_with fail
     go_roundw
     case rel=>exact⟨j+1,_,by go_num,by omega,HS7,HK7,HAn,HC1⟩
     case measure=>simp[intOf];omega
    ·have t1:(er==0)=false:=by simpa using hne
     have hz:Sc.bad pl er=R3:=by have h:=hC.out;rw[Sc.bind_bad]at h;exact h
     have HSz:Hid (St5 X p R3 wr):=Lib.hid (by rw[←hz];exact hS.out)
     have HKz:=hK
     have HAz:Hid (∀a,R3=.on a→-1≤a∧a+((p.ts.map fun t=>1+plSts t.l).sum:Nat)≤1000000):=Lib.hid fun a ha=>by rw[←hz]at ha;cases ha
     clear hne hC hS hr hA hz f4 c4 hK
     go_wp2_with fail
     clear q0 q1 q2 q3 c5 t1
     exact qxa8g_3
   ·obtain hje:j=p.fs.length:=by omega
    have hz:c=R3:=by have h:=hC.out;rw[hje,List.drop_length]at h;rw[←h];cases c with|on a=>rw[Sc.bind_on,scFus]|bad q e=>rfl
    have HSz:Hid (St5 X p R3 wr):=Lib.hid (by rw[←hz];exact hS.out)
    have HKz:=hK
    have HAz:Hid (∀a,R3=.on a→-1≤a∧a+((p.ts.map fun t=>1+plSts t.l).sum:Nat)≤1000000):=Lib.hid fun a ha=>by
     rw[←hz]at ha
     have h:=hA.out a ha
     rw[hje,List.drop_length]at h
     simp only[List.map_nil,List.sum_nil]at h
     omega
    have hnl:¬(j:Int)<(p.fs.length:Int):=by omega
    clear hC hS hc hr hA hz f4 c4 hK hje
    go_wp2_with fail
    clear q0 q1 q2 q3 c5 hnl
    exact qxa8g_3
 ·have HF:Hid (typesCheck p=(0,1)):=Lib.hid (by unfold typesCheck;rw[if_pos hf])
  generalize typesCheck p=F at*
  generalize (faultOf p).2=e3 at*
  have t1:(e3==0)=false:=by simpa using hf
  have t2:(e3 != 0)=true:=by simpa using hf
  clear hf hcap
  dsimp only[Pr.val]at C ⊢
  go_enter Tryz.func12,Tryz.ntmps12
  go_wp2_with fail
  simp only[HN.out.1,HN.out.2]
  clear q0 q1 q2 q3
  go_at_call 42
  refine C.out.mono ?_
  rintro e w2 ⟨rfl,hb2⟩
  have HZ:Hid (Below B w w2):=Lib.hid (by rw[←HN.out.2];exact HB1.out.trans (hb2.mono HB1.out.size))
  clear hb2 C
  go_wp2_with fail
  refine bodyPost_ret (v:=.tuple #[.int .i64 0,.int .i64 1]) (by simp[results,Tryz.results12,go_sem]) rfl ?_
  exact⟨by rw[HF.out],by first|exact HZ.out|(rw[HN.out.2];exact HZ.out)⟩
end Go.Proofs.YtkklogikakcanaaGreatDoor
