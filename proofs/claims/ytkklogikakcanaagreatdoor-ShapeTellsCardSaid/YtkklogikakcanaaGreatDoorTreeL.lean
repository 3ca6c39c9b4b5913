import Derived.Test.YtkklogikakcanaaGreatDoorTreeJ
import Derived.Test.YtkklogikakcanaaGreatDoorTreePlain2
set_option linter.unusedVariables false
set_option linter.unusedSimpArgs false
open List renaming getElem?_toArray → sl7, getElem?_cons_zero → sl8, getElem?_cons_succ → sl9
namespace Go.Proofs.YtkklogikakcanaaGreatDoor
open Go.RowKit
theorem q397g_4 {P:Prop} (h:P:=by
 have:=List.drop_eq_getElem_cons hlt
 rw[List.getElem?_eq_getElem hlt]at hs
 injection hs with hs
 rw[this,hs]):P:=h
theorem q397g_3 {P:Prop} (h:P:=by
 go_wp2_with fail
 go_at_call 111
 with_reducible refine (want_yes _ _ _).mono ?_
 rintro e w99 ⟨rfl,rfl⟩
 go_wp2_with (go_at_call 97;with_reducible refine CN.out.mono ?_;rintro e w9 ⟨rfl,rfl⟩)
 exact q397g_2):P:=h
theorem q397g_2 {P:Prop} (h:P:=by
 go_at_call 111
 with_reducible refine (want_no _ _ _).mono ?_
 rintro e w99 ⟨rfl,rfl⟩
 exact⟨rfl,⟨rfl,HT7.out.pl⟩,HKw.out _ HK7.out⟩):P:=h
theorem q397g_1 {P:Prop} (h:P:=by
 go_wp2_with fail
 by_cases htf:tyForm ft=0
 ·rw[if_neg (fun hh=>hh.2 htf)]at hC1
  rw[if_pos htf]at CT
  clear htf hno
  refine CT.mono ?_
  rintro e wt ⟨rfl,hbt⟩
  have HTwt:=Lib.hid (HTw8.out.below hbt)
  have HKwt:=Lib.hid (HKw8.out.trans (Kept.of_below hbt))
  clear hbt CT HTw8 HKw8 r0 r1 r2 r3 r4 r5
  have row:=HRow.out _ HKwt.out
  have r0:=cell_at row 0
  have r1:=cell_at row 1
  have r2:=cell_at row 2
  have r3:=cell_at row 3
  have r4:=cell_at row 4
  have r5:=cell_at row 5
  simp only[sl7,sl8,sl9]at r0 r1 r2 r3 r4 r5
  clear row
  go_wp2_with fail
  have CL:=wlist_any B Wb Mb Pb _ body (Nat.le_refl _) bd 1 itj (pj+1) wt HTwt.out (hsI.out.body.keep (HKr.out _ HKwt.out) (Nat.le_refl B)) HN.out.1 (by decide) (by have:=HN.out;omega) (by have:=HN.out;omega)
  rw[show ((1:Nat):Int)=1 from rfl]at CL
  cases hcl:chkSts body 1 ⟨pj+1,itj⟩ with
  |bad q er=>
   rw[hcl]at CL hC1
   obtain rfl:Chk.bad q er=R:=hC1.out
   refine CL.mono ?_
   rintro e vb ⟨⟨rfl,hp⟩,hk⟩
   exact⟨rfl,⟨rfl,hp⟩,(HKw.out _ HKwt.out).trans hk⟩
  |on a3=>
   rw[hcl]at CL hC1
   obtain⟨p3,m3⟩:=a3
   have hpp:=chkSts_p body 1 _ _ hcl
   have hii:=chkSts_it body 1 _ _ hcl HN.out.1
   dsimp only at hpp hii
   have HN3:Hid (m3≤1024∧-1≤p3∧p3≤2000+((j+1:Nat):Int)+m3):=Lib.hid ⟨by omega,by have:=HN.out;omega,by have:=HN.out;push_cast;omega⟩
   clear hcl hpp hii
   refine CL.mono ?_
   rintro e vb ⟨⟨rfl,hw,hp⟩,hk⟩
   have HTb:=Lib.hid (HTwt.out.kept hk hw hp)
   have HKb:=Lib.hid (HKv.out _ (HKwt.out.trans hk))
   clear hw hp hk CL HTwt HKwt r0 r1 r2 r3 r4 r5
   go_wp2_with fail
   go_roundw
   case rel=>exact⟨j+1,m3,p3,by go_num,by omega,by omega,HTb,HN3,HKb,hC1⟩
   case measure=>simp[intOf];omega
 ·rw[if_neg htf]at CT
  obtain rfl:Chk.bad (pj+1) (tyForm ft)=R:=by have h:=hC1.out;rw[if_pos ⟨hno,htf⟩]at h;exact h
  refine CT.mono ?_
  rintro e wt ⟨rfl,hbt⟩
  exact⟨rfl,⟨rfl,(HTw8.out.below hbt).pl⟩,(HKw.out _ HKw8.out).trans (Kept.of_below hbt)⟩):P:=h
abbrev prObj (p:Pr):Obj:=.cells #[.slice p.rd.a p.rs.length p.rd.c,.slice p.sd.a p.ss.length p.sd.c,.slice p.fd.a p.fs.length p.fd.c,.slice p.td.a p.ts.length p.td.c] 27 (0,0)
def afterRes (p:Pr) (a:At):Chk:=((chkShs 0 p.ss a).bind (chkFus 0 p.fs)).bind (chkThs 0 p.ts)
def afterShs (p:Pr) (a:At):Chk:=(chkFus 0 p.fs a).bind (chkThs 0 p.ts)
theorem chkPr_res (p:Pr):chkPr p=(chkRes 0 p.rs ⟨-1,0⟩).bind (afterRes p):=by
 unfold chkPr afterRes
 cases chkRes 0 p.rs ⟨-1,0⟩<;>rfl
theorem afterRes_shs (p:Pr) (a:At):afterRes p a=(chkShs 0 p.ss a).bind (afterShs p):=by
 unfold afterRes afterShs
 cases chkShs 0 p.ss a<;>rfl
set_option maxHeartbeats 16000000 in
set_option maxRecDepth 100000 in
theorem wprog_any (B Wb Mb Pb:Nat) (pr:Pr) (w:World) (hT:TwP B Wb Mb Pb 0 (-1) w) (hI:PrIn w B pr):
  Calls Tryz.prog 75 #[.pointer (some ⟨Wb,0,none⟩),pr.val,.func (.func 76) #[] #[.pointer (some ⟨Pb,0,none⟩)]] w
   fun e w'=>SEnds Wb Mb Pb (chkPr pr) e w'∧KpP Wb Pb w w':=by
 obtain⟨R,hR⟩:∃R,chkPr pr=R:=⟨_,rfl⟩
 rw[hR]
 have HR:=Lib.hid hR
 have HI:=Lib.hid hI
 have HBl:Hid (∀W,KpP Wb Pb w W→Below B w W):=Lib.hid fun W h=>hT.blw h
 obtain⟨X,hX⟩:∃X,w.heap.size=X:=⟨_,rfl⟩
 obtain⟨w1,hw1⟩:∃w1,w.alloc (prObj pr)=w1:=⟨_,rfl⟩
 have hb1:Below w.heap.size w w1:=by rw[←hw1];exact (Below.refl _ _).alloc (Nat.le_refl _) _
 have x1:w1.heap[X]? =some (prObj pr):=by rw[←hw1,←hX];exact heap_alloc_new w _
 have hlw:=hT.lt
 have HRow1:Hid (∀W,KpP Wb Pb w1 W→W.heap[X]? =some (prObj pr)):=
  Lib.hid fun W hk=>(hk.block X (Array.getElem?_eq_some_iff.1 x1).1 (fun hh=>by rcases hh with hh|hh<;>omega)).trans x1
 have HK1:Hid (∀W,KpP Wb Pb w1 W→KpP Wb Pb w W):=Lib.hid fun W hk=>(Kept.of_below hb1).trans hk
 have HT1:=Lib.hid (hT.below hb1)
 have HNm1:=Lib.hid (And.intro hX hw1)
 have q0:=cell_at x1 0
 simp only[sl7,sl8,sl9]at q0
 clear hR hI hT hb1 x1 hlw hX hw1
 go_enter Tryz.func75,Tryz.ntmps75
 go_wp2_with fail
 simp only[HNm1.out.1,HNm1.out.2]
 go_wp2_with fail
 go_loopw [17] (fun ii wr=>∃(j:Nat),ii=.int .i64 j∧j≤pr.rs.length∧j≤16∧Hid (TwP B Wb Mb Pb 0 ((j:Int) - 1) wr)∧Hid (KpP Wb Pb w1 wr)∧Hid ((chkRes j (pr.rs.drop j) ⟨(j:Int) - 1,0⟩).bind (afterRes pr)=R)) (fun ii _=>pr.rs.length - (intOf ii).toNat)
 case atStart=>exact⟨0,rfl,Nat.zero_le _,Nat.zero_le _,HT1,Lib.hid (Kept.refl _ _),Lib.hid (by rw[List.drop_zero,←HR.out,chkPr_res];rfl)⟩
 case round=>
  obtain⟨j,rfl,hj,hj16,hT,hK,hC⟩:=hrel
  clear HT1
  have p2:(0:Int)≤(j:Int):=Int.natCast_nonneg _
  by_cases hlt:j<pr.rs.length
  ·obtain⟨s,hs⟩:∃s,pr.rs[j]? =some s:=⟨_,List.getElem?_eq_getElem hlt⟩
   have hdrop:pr.rs.drop j=s::pr.rs.drop (j+1):=by
    exact q397g_4
   have hIr:=HI.out.keep (HBl.out _ (HK1.out _ hK.out)) (Nat.le_refl B)
   obtain⟨rb,ro,hda,hrb,hrow⟩:=hIr.rrow (by intro h0;rw[h0]at hlt;simp at hlt)
   have hsa:=hrow j s hs
   have hsI:=Lib.hid (hIr.rsub s (List.mem_of_getElem? hs))
   have hC1:=Lib.hid hC.out
   rw[hdrop,chkRes]at hC1
   obtain⟨nm,d,fs⟩:=s
   obtain⟨z0,z1⟩:=hsa
   dsimp only at z0 z1 hC1
   obtain⟨X6,hX6⟩:∃X6,wr.heap.size=X6:=⟨_,rfl⟩
   obtain⟨w6,hw6⟩:∃w6,wr.alloc (.cells #[.string ⟨nm.toArray⟩,.slice d.a fs.length d.c] 58 (0,0))=w6:=⟨_,rfl⟩
   have hb6:Below wr.heap.size wr w6:=by rw[←hw6];exact (Below.refl _ _).alloc (Nat.le_refl _) _
   have x6:w6.heap[X6]? =some (.cells #[.string ⟨nm.toArray⟩,.slice d.a fs.length d.c] 58 (0,0)):=by rw[←hw6,←hX6];exact heap_alloc_new wr _
   have HT6:=Lib.hid (hT.out.below hb6)
   have hlw:=hT.out.lt
   have HRow:Hid (∀W,KpP Wb Pb w6 W→W.heap[X6]? =some (.cells #[.string ⟨nm.toArray⟩,.slice d.a fs.length d.c] 58 (0,0))):=
    Lib.hid fun W hk=>(hk.block X6 (Array.getElem?_eq_some_iff.1 x6).1 (fun hh=>by rcases hh with hh|hh<;>omega)).trans x6
   have HKv:Hid (∀W,KpP Wb Pb w6 W→KpP Wb Pb w1 W):=Lib.hid fun W hk=>(hK.out.trans (Kept.of_below hb6)).trans hk
   have HKw:Hid (∀W,KpP Wb Pb w6 W→KpP Wb Pb w W):=Lib.hid fun W hk=>HK1.out _ (HKv.out _ hk)
   have HKr:Hid (∀W,KpP Wb Pb w6 W→Below B wr W):=Lib.hid fun W hk=>hT.out.blw ((Kept.of_below hb6).trans hk)
   have HNm:=Lib.hid (And.intro hX6 hw6)
   have p1:(j:Int)<(pr.rs.length:Int):=by omega
   clear hb6 x6 hrow hIr hdrop hs hX6 hw6 hlw hT hK hC
   rw[hda]
   go_wp2_with fail
   simp only[HNm.out.1,HNm.out.2]
   refine (at_any Pb ((j:Int) - 1) w6 HT6.out.pl (by omega) (by omega)).mono ?_
   rintro e w7 ⟨rfl,hw7⟩
   have HT7:Hid (TwP B Wb Mb Pb 0 ((j:Int) - 1+1) w7):=Lib.hid (by rw[hw7];exact HT6.out.step)
   have HK7:Hid (KpP Wb Pb w6 w7):=Lib.hid (by rw[hw7];exact KpP.setP (Kept.refl _ _) _)
   clear hw7 z0 z1
   have row:=HRow.out _ HK7.out
   have r0:=cell_at row 0
   have r1:=cell_at row 1
   simp only[sl7,sl8,sl9]at r0 r1
   clear row
   have CN:=Lib.hid (lname_any nm hsI.out.nm w7 HT7.out.tw.g.g)
   by_cases h16:16≤j
   ·have d16:decide ((j:Int)<16)=false:=by simp;omega
    obtain rfl:Chk.bad ((j:Int) - 1+1) 3=R:=by have h:=hC1.out;rw[if_pos h16]at h;exact h
    go_wp2_with fail
    exact q397g_2
   have d16:decide ((j:Int)<16)=true:=by simp;omega
   rw[if_neg h16]at hC1
   by_cases hbad:nameB nm=false∨fs=[]
   ·obtain rfl:Chk.bad ((j:Int) - 1+1) 1=R:=by have h:=hC1.out;rw[if_pos hbad]at h;exact h
    cases hb:nameB nm with
    |false=>
     rw[hb]at CN
     clear hb
     exact q397g_3
    |true=>
     have hfs:fs=[]:=by rcases hbad with h|h;(rw[hb]at h;cases h);exact h
     subst hfs
     rw[hb]at CN
     clear hb hbad
     exact q397g_3
   rw[if_neg hbad]at hC1
   have hb:nameB nm=true:=by cases h:nameB nm with|true=>rfl|false=>exact absurd (Or.inl h) hbad
   have hfl:decide (0<fs.length)=true:=by cases fs with|nil=>exact absurd (Or.inr rfl) hbad|cons a b=>simp
   rw[hb]at CN
   clear hb hbad
   go_wp2_with fail
   go_at_call 111
   with_reducible refine (want_yes _ _ _).mono ?_
   rintro e w99 ⟨rfl,rfl⟩
   go_wp2_with (go_at_call 97;with_reducible refine CN.out.mono ?_;rintro e w9 ⟨rfl,rfl⟩)
   go_at_call 111
   with_reducible refine (want_yes _ _ _).mono ?_
   rintro e w99 ⟨rfl,rfl⟩
   go_wp2_with fail
   have CF:=wfields_any B (some ⟨Wb,0,none⟩) d fs _ (hsI.out.fs.keep (HKr.out _ HK7.out) (Nat.le_refl B)) HT7.out.tw.g
   refine CF.mono ?_
   rintro e w8 ⟨he,hb8⟩
   have HT8:=Lib.hid (HT7.out.below hb8)
   have HK8:=Lib.hid (HK7.out.trans (Kept.of_below hb8))
   by_cases hff:chkFls 0 fs=0
   ·rw[if_neg (not_not_intro hff)]at hC1
    rw[hff]at he
    obtain rfl:e=.returned (.tuple #[]):=he
    have HT9:Hid (TwP B Wb Mb Pb 0 (((j+1:Nat):Int) - 1) w8):=Lib.hid (by have h:=HT8.out;rw[show ((j+1:Nat):Int) - 1=(j:Int) - 1+1 by push_cast;omega];exact h)
    have HC9:Hid ((chkRes (j+1) (pr.rs.drop (j+1)) ⟨((j+1:Nat):Int) - 1,0⟩).bind (afterRes pr)=R):=Lib.hid (by have h:=hC1.out;rw[show ((j+1:Nat):Int) - 1=(j:Int) - 1+1 by push_cast;omega];exact h)
    have HK9:=Lib.hid (HKv.out _ HK8.out)
    clear hb8 hff CF hC1 r0 r1
    go_wp2_with fail
    go_roundw
    case rel=>exact⟨j+1,by go_num,by omega,by omega,HT9,HK9,HC9⟩
    case measure=>simp[intOf];omega
   ·obtain rfl:Chk.bad ((j:Int) - 1+1) (chkFls 0 fs)=R:=by have h:=hC1.out;rw[if_pos hff]at h;exact h
    obtain rfl:e=faultE (chkFls 0 fs):=by unfold FlEnds at he;rw[if_neg hff]at he;exact he
    exact⟨rfl,⟨rfl,HT8.out.pl⟩,HKw.out _ HK8.out⟩
  ·obtain rfl:j=pr.rs.length:=by omega
   have HC2:Hid (afterRes pr ⟨(pr.rs.length:Int) - 1,0⟩=R):=Lib.hid (by have h:=hC.out;rw[List.drop_length,chkRes]at h;exact h)
   have row:=HRow1.out _ hK.out
   have q0:=cell_at row 0
   have q1:=cell_at row 1
   have q2:=cell_at row 2
   have q3:=cell_at row 3
   clear row hC
   simp only[sl7,sl8,sl9]at q0 q1 q2 q3
   have HTn:=hT
   have HKn:=hK
   clear hT hK
   go_wp2_with fail
   go_loopw [47] (fun ii wr=>∃(j:Nat) (pj:Int),ii=.int .i64 j∧j≤pr.ss.length∧j≤1024∧pj=(pr.rs.length:Int) - 1+j∧Hid (TwP B Wb Mb Pb 0 pj wr)∧Hid (KpP Wb Pb w1 wr)∧Hid ((chkShs j (pr.ss.drop j) ⟨pj,0⟩).bind (afterShs pr)=R)) (fun ii _=>pr.ss.length - (intOf ii).toNat)
   case atStart=>exact⟨0,_,rfl,Nat.zero_le _,Nat.zero_le _,rfl,by rw[show (pr.rs.length:Int) - 1+((0:Nat):Int)=(pr.rs.length:Int) - 1 by simp];exact HTn,HKn,Lib.hid (by rw[List.drop_zero,show (pr.rs.length:Int) - 1+((0:Nat):Int)=(pr.rs.length:Int) - 1 by simp,←afterRes_shs];exact HC2.out)⟩
   case round=>
    obtain⟨j,pj,rfl,hj,hj10,hpj,hT,hK,hC⟩:=hrel
    clear HTn HKn HC2
    by_cases hlt:j<pr.ss.length
    ·obtain⟨s,hs⟩:∃s,pr.ss[j]? =some s:=⟨_,List.getElem?_eq_getElem hlt⟩
     have hdrop:pr.ss.drop j=s::pr.ss.drop (j+1):=by
      exact q397g_4
     have hIr:=HI.out.keep (HBl.out _ (HK1.out _ hK.out)) (Nat.le_refl B)
     obtain⟨rb,ro,hda,hrb,hrow⟩:=hIr.ss.row (by intro h0;rw[h0]at hlt;simp at hlt)
     have hsa:=hrow j s hs
     have hsI:=Lib.hid (hIr.ss.sub s (List.mem_of_getElem? hs))
     have hC1:=Lib.hid hC.out
     rw[hdrop,chkShs]at hC1
     obtain⟨fnm,ft⟩:=s
     obtain⟨z0,z1,z2,z3⟩:=hsa
     dsimp only at z0 z1 z2 z3 hC1
     obtain⟨X6,hX6⟩:∃X6,wr.heap.size=X6:=⟨_,rfl⟩
     obtain⟨w6,hw6⟩:∃w6,wr.alloc (.cells #[.string ⟨fnm.toArray⟩,.int .u8 ft.k,.string ⟨ft.nm.toArray⟩,.int .i64 ft.n] 93 (0,0))=w6:=⟨_,rfl⟩
     have hb6:Below wr.heap.size wr w6:=by rw[←hw6];exact (Below.refl _ _).alloc (Nat.le_refl _) _
     have x6:w6.heap[X6]? =some (.cells #[.string ⟨fnm.toArray⟩,.int .u8 ft.k,.string ⟨ft.nm.toArray⟩,.int .i64 ft.n] 93 (0,0)):=by rw[←hw6,←hX6];exact heap_alloc_new wr _
     have HT6:=Lib.hid (hT.out.below hb6)
     have hlw:=hT.out.lt
     have HRow:Hid (∀W,KpP Wb Pb w6 W→W.heap[X6]? =some (.cells #[.string ⟨fnm.toArray⟩,.int .u8 ft.k,.string ⟨ft.nm.toArray⟩,.int .i64 ft.n] 93 (0,0))):=
      Lib.hid fun W hk=>(hk.block X6 (Array.getElem?_eq_some_iff.1 x6).1 (fun hh=>by rcases hh with hh|hh<;>omega)).trans x6
     have HKv:Hid (∀W,KpP Wb Pb w6 W→KpP Wb Pb w1 W):=Lib.hid fun W hk=>(hK.out.trans (Kept.of_below hb6)).trans hk
     have HKw:Hid (∀W,KpP Wb Pb w6 W→KpP Wb Pb w W):=Lib.hid fun W hk=>HK1.out _ (HKv.out _ hk)
     have HNm:=Lib.hid (And.intro hX6 hw6)
     have p1:(j:Int)<(pr.ss.length:Int):=by omega
     have p2:(0:Int)≤(j:Int):=Int.natCast_nonneg _
     have HPj:=Lib.hid hpj
     clear hb6 x6 hrow hIr hdrop hs hX6 hw6 hlw hT hK hC hpj
     rw[hda]
     go_wp2_with fail
     simp only[HNm.out.1,HNm.out.2]
     refine (at_any Pb pj w6 HT6.out.pl (by have:=HPj.out;omega) (by have:=HPj.out;omega)).mono ?_
     rintro e w7 ⟨rfl,hw7⟩
     have HT7:Hid (TwP B Wb Mb Pb 0 (pj+1) w7):=Lib.hid (by rw[hw7];exact HT6.out.step)
     have HK7:Hid (KpP Wb Pb w6 w7):=Lib.hid (by rw[hw7];exact KpP.setP (Kept.refl _ _) _)
     clear hw7 z0 z1 z2 z3
     have row:=HRow.out _ HK7.out
     have r0:=cell_at row 0
     have r1:=cell_at row 1
     have r2:=cell_at row 2
     have r3:=cell_at row 3
     simp only[sl7,sl8,sl9]at r0 r1 r2 r3
     clear row
     by_cases h16:1024≤j
     ·have d16:decide ((j:Int)<1024)=false:=by simp;omega
      obtain rfl:Chk.bad (pj+1) 3=R:=by have h:=hC1.out;rw[if_pos h16]at h;exact h
      go_wp2_with fail
      exact q397g_2
     have d16:decide ((j:Int)<1024)=true:=by simp;omega
     rw[if_neg h16]at hC1
     go_wp2_with fail
     go_at_call 111
     with_reducible refine (want_yes _ _ _).mono ?_
     rintro e w99 ⟨rfl,rfl⟩
     go_wp2_with fail
     obtain⟨w8,hw8⟩:∃w8,w7.alloc (.cells #[.string ⟨fnm.toArray⟩,.int .u8 ft.k,.string ⟨ft.nm.toArray⟩,.int .i64 ft.n] 93 (0,0))=w8:=⟨_,rfl⟩
     have hb8:Below w7.heap.size w7 w8:=by rw[←hw8];exact (Below.refl _ _).alloc (Nat.le_refl _) _
     have x8:w8.heap[w7.heap.size]? =some (.cells #[.string ⟨fnm.toArray⟩,.int .u8 ft.k,.string ⟨ft.nm.toArray⟩,.int .i64 ft.n] 93 (0,0)):=by rw[←hw8];exact heap_alloc_new w7 _
     have HT8:=Lib.hid (HT7.out.below hb8)
     have HK8:=Lib.hid (HK7.out.trans (Kept.of_below hb8))
     have hFl:FlsIn w8 w8.heap.size ⟨some ⟨w7.heap.size,0,none⟩,1⟩ [⟨fnm,ft⟩]:=⟨by unfold lenOk;simp,fun _=>⟨_,0,rfl,(Array.getElem?_eq_some_iff.1 x8).1,fun i y hy=>by
      match i,hy with
      |0,hy=>cases hy;exact⟨cell_at x8 0,cell_at x8 1,cell_at x8 2,cell_at x8 3⟩
      |n+1,hy=>simp at hy⟩,fun f hf=>by rw[List.mem_singleton]at hf;subst hf;exact hsI.out⟩
     have CF:=wfields_any w8.heap.size (some ⟨Wb,0,none⟩) ⟨some ⟨w7.heap.size,0,none⟩,1⟩ [⟨fnm,ft⟩] w8 hFl (GlB.of HT8.out.tw.g.g)
     rw[show ([⟨fnm,ft⟩]:List Fl).length=1 from rfl]at CF
     rw[hw8]
     clear hFl x8 hb8 hw8
     refine CF.mono ?_
     rintro e w9 ⟨he,hb9⟩
     have HT9:=Lib.hid (HT8.out.below hb9)
     have HK9:=Lib.hid (HK8.out.trans (Kept.of_below hb9))
     by_cases hff:chkFls 0 [⟨fnm,ft⟩]=0
     ·rw[if_neg (not_not_intro hff)]at hC1
      rw[hff]at he
      obtain rfl:e=.returned (.tuple #[]):=he
      have HKz:=Lib.hid (HKv.out _ HK9.out)
      clear hb9 hff CF r0 r1 r2 r3
      go_wp2_with fail
      go_roundw
      case rel=>exact⟨j+1,pj+1,by go_num,by omega,by omega,by have:=HPj.out;push_cast;omega,HT9,HKz,hC1⟩
      case measure=>simp[intOf];omega
     ·obtain rfl:Chk.bad (pj+1) (chkFls 0 [⟨fnm,ft⟩])=R:=by have h:=hC1.out;rw[if_pos hff]at h;exact h
      obtain rfl:e=faultE (chkFls 0 [⟨fnm,ft⟩]):=by unfold FlEnds at he;rw[if_neg hff]at he;exact he
      exact⟨rfl,⟨rfl,HT9.out.pl⟩,HKw.out _ HK9.out⟩
    ·obtain rfl:j=pr.ss.length:=by omega
     have HC3:Hid (afterShs pr ⟨pj,0⟩=R):=Lib.hid (by have h:=hC.out;rw[List.drop_length,chkShs]at h;exact h)
     have row:=HRow1.out _ hK.out
     have q0:=cell_at row 0
     have q1:=cell_at row 1
     have q2:=cell_at row 2
     have q3:=cell_at row 3
     have HN0:Hid ((0:Nat)≤1024∧-1≤pj∧pj≤2000+((0:Nat):Int)+((0:Nat):Int)):=Lib.hid ⟨by omega,by omega,by omega⟩
     clear row hC hpj
     simp only[sl7,sl8,sl9]at q0 q1 q2 q3
     have HTn:=hT
     have HKn:=hK
     clear hT hK
     go_wp2_with fail
     go_loopw [66] (fun ii wr=>∃(j itj:Nat) (pj:Int),ii=.int .i64 j∧j≤pr.fs.length∧j≤32∧Hid (TwP B Wb Mb Pb itj pj wr)∧Hid (itj≤1024∧-1≤pj∧pj≤2000+(j:Int)+itj)∧Hid (KpP Wb Pb w1 wr)∧Hid ((chkFus j (pr.fs.drop j) ⟨pj,itj⟩).bind (chkThs 0 pr.ts)=R)) (fun ii _=>pr.fs.length - (intOf ii).toNat)
     case atStart=>exact⟨0,0,pj,rfl,Nat.zero_le _,Nat.zero_le _,HTn,HN0,HKn,HC3⟩
     case round=>
      obtain⟨j,itj,pj,rfl,hj,hj32,hT,HN,hK,hC⟩:=hrel
      clear HTn HKn HC3 HN0
      by_cases hlt:j<pr.fs.length
      ·obtain⟨s,hs⟩:∃s,pr.fs[j]? =some s:=⟨_,List.getElem?_eq_getElem hlt⟩
       have hdrop:pr.fs.drop j=s::pr.fs.drop (j+1):=by
        exact q397g_4
       have hIr:=HI.out.keep (HBl.out _ (HK1.out _ hK.out)) (Nat.le_refl B)
       obtain⟨rb,ro,hda,hrb,hrow⟩:=hIr.frow (by intro h0;rw[h0]at hlt;simp at hlt)
       have hsa:=hrow j s hs
       have hsI:=Lib.hid (hIr.fsub s (List.mem_of_getElem? hs))
       have hC1:=Lib.hid hC.out
       rw[hdrop,chkFus]at hC1
       obtain⟨fnm,pd,ps,ft,bd,body⟩:=s
       obtain⟨z0,z1,z2,z3,z4,z5⟩:=hsa
       dsimp only at z0 z1 z2 z3 z4 z5 hC1
       obtain⟨X6,hX6⟩:∃X6,wr.heap.size=X6:=⟨_,rfl⟩
       obtain⟨w6,hw6⟩:∃w6,wr.alloc (.cells #[.string ⟨fnm.toArray⟩,.slice pd.a ps.length pd.c,.int .u8 ft.k,.string ⟨ft.nm.toArray⟩,.int .i64 ft.n,.slice bd.a body.length bd.c] 53 (0,0))=w6:=⟨_,rfl⟩
       have hb6:Below wr.heap.size wr w6:=by rw[←hw6];exact (Below.refl _ _).alloc (Nat.le_refl _) _
       have x6:w6.heap[X6]? =some (.cells #[.string ⟨fnm.toArray⟩,.slice pd.a ps.length pd.c,.int .u8 ft.k,.string ⟨ft.nm.toArray⟩,.int .i64 ft.n,.slice bd.a body.length bd.c] 53 (0,0)):=by rw[←hw6,←hX6];exact heap_alloc_new wr _
       have HT6:=Lib.hid (hT.out.below hb6)
       have hlw:=hT.out.lt
       have HRow:Hid (∀W,KpP Wb Pb w6 W→W.heap[X6]? =some (.cells #[.string ⟨fnm.toArray⟩,.slice pd.a ps.length pd.c,.int .u8 ft.k,.string ⟨ft.nm.toArray⟩,.int .i64 ft.n,.slice bd.a body.length bd.c] 53 (0,0))):=
        Lib.hid fun W hk=>(hk.block X6 (Array.getElem?_eq_some_iff.1 x6).1 (fun hh=>by rcases hh with hh|hh<;>omega)).trans x6
       have HKv:Hid (∀W,KpP Wb Pb w6 W→KpP Wb Pb w1 W):=Lib.hid fun W hk=>(hK.out.trans (Kept.of_below hb6)).trans hk
       have HKw:Hid (∀W,KpP Wb Pb w6 W→KpP Wb Pb w W):=Lib.hid fun W hk=>HK1.out _ (HKv.out _ hk)
       have HKr:Hid (∀W,KpP Wb Pb w6 W→Below B wr W):=Lib.hid fun W hk=>hT.out.blw ((Kept.of_below hb6).trans hk)
       have HNm:=Lib.hid (And.intro hX6 hw6)
       have p1:(j:Int)<(pr.fs.length:Int):=by omega
       have p2:(0:Int)≤(j:Int):=Int.natCast_nonneg _
       clear hb6 x6 hrow hIr hdrop hs hX6 hw6 hlw hT hK hC
       rw[hda]
       go_wp2_with fail
       simp only[HNm.out.1,HNm.out.2]
       refine (at_any Pb pj w6 HT6.out.pl HN.out.2.1 (by have:=HN.out;omega)).mono ?_
       rintro e w7 ⟨rfl,hw7⟩
       have HT7:Hid (TwP B Wb Mb Pb itj (pj+1) w7):=Lib.hid (by rw[hw7];exact HT6.out.step)
       have HK7:Hid (KpP Wb Pb w6 w7):=Lib.hid (by rw[hw7];exact KpP.setP (Kept.refl _ _) _)
       clear hw7 z0 z1 z2 z3 z4 z5
       have row:=HRow.out _ HK7.out
       have r0:=cell_at row 0
       have r1:=cell_at row 1
       have r2:=cell_at row 2
       have r3:=cell_at row 3
       have r4:=cell_at row 4
       have r5:=cell_at row 5
       simp only[sl7,sl8,sl9]at r0 r1 r2 r3 r4 r5
       clear row
       have CN:=Lib.hid (lname_any fnm hsI.out.nm w7 HT7.out.tw.g.g)
       by_cases h16:32≤j
       ·have d16:decide ((j:Int)<32)=false:=by simp;omega
        obtain rfl:Chk.bad (pj+1) 3=R:=by have h:=hC1.out;rw[if_pos h16]at h;exact h
        go_wp2_with fail
        exact q397g_2
       have d16:decide ((j:Int)<32)=true:=by simp;omega
       rw[if_neg h16]at hC1
       cases hb:nameB fnm with
       |false=>
        obtain rfl:Chk.bad (pj+1) 1=R:=by have h:=hC1.out;rw[if_pos hb]at h;exact h
        rw[hb]at CN
        clear hb
        exact q397g_3
       |true=>
       rw[if_neg (by rw[hb];decide)]at hC1
       rw[hb]at CN
       clear hb
       go_wp2_with fail
       go_at_call 111
       with_reducible refine (want_yes _ _ _).mono ?_
       rintro e w99 ⟨rfl,rfl⟩
       go_wp2_with (go_at_call 97;with_reducible refine CN.out.mono ?_;rintro e w9 ⟨rfl,rfl⟩)
       go_at_call 111
       with_reducible refine (want_yes _ _ _).mono ?_
       rintro e w99 ⟨rfl,rfl⟩
       go_wp2_with fail
       have CF:=wfields_any B (some ⟨Wb,0,none⟩) pd ps _ (hsI.out.ps.keep (HKr.out _ HK7.out) (Nat.le_refl B)) HT7.out.tw.g
       refine CF.mono ?_
       rintro e w8 ⟨he,hb8⟩
       have HT8:=Lib.hid (HT7.out.below hb8)
       have HK8:=Lib.hid (HK7.out.trans (Kept.of_below hb8))
       by_cases hff:chkFls 0 ps=0
       ·rw[if_neg (not_not_intro hff)]at hC1
        rw[hff]at he
        obtain rfl:e=.returned (.tuple #[]):=he
        clear hb8 hff CF r0 r1 r2 r3 r4 r5 CN HT7 HK7
        have row:=HRow.out _ HK8.out
        have r0:=cell_at row 0
        have r1:=cell_at row 1
        have r2:=cell_at row 2
        have r3:=cell_at row 3
        have r4:=cell_at row 4
        have r5:=cell_at row 5
        simp only[sl7,sl8,sl9]at r0 r1 r2 r3 r4 r5
        clear row
        have HTw8:=HT8
        have HKw8:=HK8
        clear HT8 HK8
        by_cases h1:ft.k=0
        ·by_cases h2:ft.nm=[]
         ·by_cases h3:ft.n=0
          ·rw[if_neg (by intro hh;have:=hh.1;simp[noTy,h1,h2,h3]at this)]at hC1
           go_wp2_with fail
           clear h1 h2 h3
           have CL:=wlist_any B Wb Mb Pb _ body (Nat.le_refl _) bd 1 itj (pj+1) w8 HTw8.out (hsI.out.body.keep (HKr.out _ HKw8.out) (Nat.le_refl B)) HN.out.1 (by decide) (by have:=HN.out;omega) (by have:=HN.out;omega)
           rw[show ((1:Nat):Int)=1 from rfl]at CL
           cases hcl:chkSts body 1 ⟨pj+1,itj⟩ with
           |bad q er=>
            rw[hcl]at CL hC1
            obtain rfl:Chk.bad q er=R:=hC1.out
            refine CL.mono ?_
            rintro e vb ⟨⟨rfl,hp⟩,hk⟩
            exact⟨rfl,⟨rfl,hp⟩,(HKw.out _ HKw8.out).trans hk⟩
           |on a3=>
            rw[hcl]at CL hC1
            obtain⟨p3,m3⟩:=a3
            have hpp:=chkSts_p body 1 _ _ hcl
            have hii:=chkSts_it body 1 _ _ hcl HN.out.1
            dsimp only at hpp hii
            have HN3:Hid (m3≤1024∧-1≤p3∧p3≤2000+((j+1:Nat):Int)+m3):=Lib.hid ⟨by omega,by have:=HN.out;omega,by have:=HN.out;push_cast;omega⟩
            clear hcl hpp hii
            refine CL.mono ?_
            rintro e vb ⟨⟨rfl,hw,hp⟩,hk⟩
            have HTb:=Lib.hid (HTw8.out.kept hk hw hp)
            have HKb:=Lib.hid (HKv.out _ (HKw8.out.trans hk))
            clear hw hp hk CL HTw8 HKw8 r0 r1 r2 r3 r4 r5
            go_wp2_with fail
            go_roundw
            case rel=>exact⟨j+1,m3,p3,by go_num,by omega,by omega,HTb,HN3,HKb,hC1⟩
            case measure=>simp[intOf];omega
          ·have hno:noTy ft=false:=by simp[noTy,h3]
           have CT:=wtyp_any (some ⟨Wb,0,none⟩) ft hsI.out.t.nm w8 HTw8.out.tw.g.g
           simp only[Ty.val,h1,h2]at CT
           exact q397g_1
         ·have hno:noTy ft=false:=by simp[noTy,h2]
          have CT:=wtyp_any (some ⟨Wb,0,none⟩) ft hsI.out.t.nm w8 HTw8.out.tw.g.g
          simp only[Ty.val,h1]at CT
          exact q397g_1
        ·have hno:noTy ft=false:=by simp[noTy,h1]
         have CT:=wtyp_any (some ⟨Wb,0,none⟩) ft hsI.out.t.nm w8 HTw8.out.tw.g.g
         skip
         exact q397g_1
       ·obtain rfl:Chk.bad (pj+1) (chkFls 0 ps)=R:=by have h:=hC1.out;rw[if_pos hff]at h;exact h
        obtain rfl:e=faultE (chkFls 0 ps):=by unfold FlEnds at he;rw[if_neg hff]at he;exact he
        exact⟨rfl,⟨rfl,HT8.out.pl⟩,HKw.out _ HK8.out⟩
      ·obtain rfl:j=pr.fs.length:=by omega
       have HC4:Hid (chkThs 0 pr.ts ⟨pj,itj⟩=R):=Lib.hid (by have h:=hC.out;rw[List.drop_length,chkFus]at h;exact h)
       have row:=HRow1.out _ hK.out
       have q0:=cell_at row 0
       have q1:=cell_at row 1
       have q2:=cell_at row 2
       have q3:=cell_at row 3
       have HN0:Hid (itj≤1024∧-1≤pj∧pj≤3000+((0:Nat):Int)+itj):=Lib.hid ⟨HN.out.1,HN.out.2.1,by have:=HN.out;push_cast;omega⟩
       clear row hC HN
       simp only[sl7,sl8,sl9]at q0 q1 q2 q3
       have HTn:=hT
       have HKn:=hK
       clear hT hK
       go_wp2_with fail
       go_loopw [103] (fun ii wr=>∃(j itj:Nat) (pj:Int),ii=.int .i64 j∧j≤pr.ts.length∧j≤4∧Hid (TwP B Wb Mb Pb itj pj wr)∧Hid (itj≤1024∧-1≤pj∧pj≤3000+(j:Int)+itj)∧Hid (KpP Wb Pb w1 wr)∧Hid (chkThs j (pr.ts.drop j) ⟨pj,itj⟩=R)) (fun ii _=>pr.ts.length - (intOf ii).toNat)
       case atStart=>exact⟨0,_,pj,rfl,Nat.zero_le _,Nat.zero_le _,HTn,HN0,HKn,Lib.hid (by rw[List.drop_zero];exact HC4.out)⟩
       case round=>
        obtain⟨j,itj,pj,rfl,hj,hj4,hT,HN,hK,hC⟩:=hrel
        clear HTn HKn HC4 HN0
        by_cases hlt:j<pr.ts.length
        ·obtain⟨s,hs⟩:∃s,pr.ts[j]? =some s:=⟨_,List.getElem?_eq_getElem hlt⟩
         have hdrop:pr.ts.drop j=s::pr.ts.drop (j+1):=by
          exact q397g_4
         have hIr:=HI.out.keep (HBl.out _ (HK1.out _ hK.out)) (Nat.le_refl B)
         obtain⟨rb,ro,hda,hrb,hrow⟩:=hIr.trow (by intro h0;rw[h0]at hlt;simp at hlt)
         have hsa:=hrow j s hs
         have hsI:=Lib.hid (hIr.tsub s (List.mem_of_getElem? hs))
         have hC1:=Lib.hid hC.out
         rw[hdrop,chkThs]at hC1
         obtain⟨td,tl⟩:=s
         obtain⟨z0⟩:=hsa
         dsimp only at z0 hC1
         rw[Nat.mul_one]at z0
         have HKv:Hid (∀W,KpP Wb Pb wr W→KpP Wb Pb w1 W):=Lib.hid fun W hk=>hK.out.trans hk
         have HKw:Hid (∀W,KpP Wb Pb wr W→KpP Wb Pb w W):=Lib.hid fun W hk=>HK1.out _ (HKv.out _ hk)
         have HKr:Hid (∀W,KpP Wb Pb wr W→Below B wr W):=Lib.hid fun W hk=>hT.out.blw hk
         have HT6:=hT
         have p1:(j:Int)<(pr.ts.length:Int):=by omega
         have p2:(0:Int)≤(j:Int):=Int.natCast_nonneg _
         clear hrow hIr hdrop hs hT hK hC
         rw[hda]
         go_wp2_with fail
         refine (at_any Pb pj wr HT6.out.pl HN.out.2.1 (by have:=HN.out;omega)).mono ?_
         rintro e w7 ⟨rfl,hw7⟩
         have HT7:Hid (TwP B Wb Mb Pb itj (pj+1) w7):=Lib.hid (by rw[hw7];exact HT6.out.step)
         have HK7:Hid (KpP Wb Pb wr w7):=Lib.hid (by rw[hw7];exact KpP.setP (Kept.refl _ _) _)
         clear hw7 z0 HT6
         by_cases h16:4≤j
         ·have d16:decide ((j:Int)<4)=false:=by simp;omega
          obtain rfl:Chk.bad (pj+1) 3=R:=by have h:=hC1.out;rw[if_pos h16]at h;exact h
          go_wp2_with fail
          exact q397g_2
         have d16:decide ((j:Int)<4)=true:=by simp;omega
         rw[if_neg h16]at hC1
         go_wp2_with fail
         go_at_call 111
         with_reducible refine (want_yes _ _ _).mono ?_
         rintro e w99 ⟨rfl,rfl⟩
         go_wp2_with fail
         have HTw7:=HT7
         have HKw7:=HK7
         clear HT7 HK7
         have CL:=wlist_any B Wb Mb Pb _ tl (Nat.le_refl _) td 1 itj (pj+1) w7 HTw7.out (hsI.out.keep (HKr.out _ HKw7.out) (Nat.le_refl B)) HN.out.1 (by decide) (by have:=HN.out;omega) (by have:=HN.out;omega)
         rw[show ((1:Nat):Int)=1 from rfl]at CL
         cases hcl:chkSts tl 1 ⟨pj+1,itj⟩ with
         |bad q er=>
          rw[hcl]at CL hC1
          obtain rfl:Chk.bad q er=R:=hC1.out
          refine CL.mono ?_
          rintro e vb ⟨⟨rfl,hp⟩,hk⟩
          exact⟨rfl,⟨rfl,hp⟩,(HKw.out _ HKw7.out).trans hk⟩
         |on a3=>
          rw[hcl]at CL hC1
          obtain⟨p3,m3⟩:=a3
          have hpp:=chkSts_p tl 1 _ _ hcl
          have hii:=chkSts_it tl 1 _ _ hcl HN.out.1
          dsimp only at hpp hii
          have HN3:Hid (m3≤1024∧-1≤p3∧p3≤3000+((j+1:Nat):Int)+m3):=Lib.hid ⟨by omega,by have:=HN.out;omega,by have:=HN.out;push_cast;omega⟩
          clear hcl hpp hii
          refine CL.mono ?_
          rintro e vb ⟨⟨rfl,hw,hp⟩,hk⟩
          have HTb:=Lib.hid (HTw7.out.kept hk hw hp)
          have HKb:=Lib.hid (HKv.out _ (HKw7.out.trans hk))
          clear hw hp hk CL HTw7 HKw7
          go_wp2_with fail
          go_roundw
          case rel=>exact⟨j+1,m3,p3,by go_num,by omega,by omega,HTb,HN3,HKb,hC1⟩
          case measure=>simp[intOf];omega
        ·obtain rfl:j=pr.ts.length:=by omega
         have HC5:Hid (Chk.on ⟨pj,itj⟩=R):=Lib.hid (by have h:=hC.out;rw[List.drop_length,chkThs]at h;exact h)
         have HFin:=Lib.hid (And.intro (SEnds.good HC5.out.symm hT.out.tw.wk hT.out.pl) (HK1.out _ hK.out))
         clear HC5 hT hK hC HN
         go_wp2_with fail
         go_end0
         exact HFin.out
end Go.Proofs.YtkklogikakcanaaGreatDoor
namespace Go.Proofs.YtkklogikakcanaaGreatDoor
open Go.RowKit
set_option maxHeartbeats 2000000 in
theorem ccp_any (B Wb Mb Pb X:Nat) (p:Pr) (w:World) (hT:TwP B Wb Mb Pb 0 (-1) w) (hX:w.heap[X]? =some (prObj p)) (hI:PrIn w B p):
  Calls Tryz.prog 74 #[.pointer (some ⟨Wb,0,none⟩),.pointer (some ⟨X,0,none⟩),.pointer (some ⟨Pb,0,none⟩)] w fun e w'=>SEnds Wb Mb Pb (chkPr p) e w'∧KpP Wb Pb w w':=by
 have C:=Lib.hid (wprog_any B Wb Mb Pb p w hT hI)
 have hmf:∀(fn:Fn) (first cap:Array Value) (w:World),(Instr.makeFunc fn first cap).run Tryz.prog w=.ok (.func fn first cap) w:=fun _ _ _ _=>rfl
 have q0:=cell_at hX 0
 have q1:=cell_at hX 1
 have q2:=cell_at hX 2
 have q3:=cell_at hX 3
 simp only[sl7,sl8,sl9]at q0 q1 q2 q3
 obtain⟨R,hR⟩:∃R,chkPr p=R:=⟨_,rfl⟩
 rw[hR]at C ⊢
 clear hX hI hT hR
 go_enter Tryz.func74,Tryz.ntmps74
 go_wp2_with fail
 cases R with
 |bad q er=>
  refine C.out.mono ?_
  rintro e w7 ⟨⟨rfl,hp⟩,hk⟩
  exact⟨rfl,⟨rfl,hp⟩,hk⟩
 |on a=>
  refine C.out.mono ?_
  rintro e w7 ⟨⟨rfl,hw,hp⟩,hk⟩
  have HH:=Lib.hid (And.intro hw (And.intro hp hk))
  clear hw hp hk C
  go_wp2_with fail
  go_end0
  exact⟨⟨rfl,HH.out.1,HH.out.2.1⟩,HH.out.2.2⟩
def CEnds (Pb:Nat) (r:Chk) (e:Ending) (w':World):Prop:=match r with
 |.on a=>e=.returned (.int .i64 0)∧PlAt Pb a.p w'
 |.bad q er=>e=.returned (.int .i64 er)∧PlAt Pb q w'
set_option maxHeartbeats 4000000 in
set_option maxRecDepth 100000 in
theorem caughtP_any (B Pb X:Nat) (p:Pr) (w:World) (G:GlB B w) (hX:w.heap[X]? =some (prObj p)) (hI:PrIn w B p) (hP:PlAt Pb (-1) w) (hBP:B≤Pb):
  Calls Tryz.prog 73 #[.func (.func 74) #[] #[.pointer (some ⟨X,0,none⟩),.pointer (some ⟨Pb,0,none⟩)]] w fun e w'=>CEnds Pb (chkPr p) e w'∧Kept (fun k=>k=Pb) w w':=by
 obtain⟨R,hR⟩:∃R,chkPr p=R:=⟨_,rfl⟩
 rw[hR]
 have HR:=Lib.hid hR
 have hPl:=hP.lt
 have hmf:∀(fn:Fn) (first cap:Array Value) (w:World),(Instr.makeFunc fn first cap).run Tryz.prog w=.ok (.func fn first cap) w:=fun _ _ _ _=>rfl
 clear hR
 go_enter_defers Tryz.func73,Tryz.ntmps73
 go_wp2_with fail
 obtain⟨E,hE⟩:∃E,w.heap.size=E:=⟨_,rfl⟩
 obtain⟨w0,hw0⟩:∃w0,w.alloc (.cells #[.int .i64 0] 31 (0,0))=w0:=⟨_,rfl⟩
 have b0:Below w.heap.size w w0:=by rw[←hw0];exact (Below.refl _ _).alloc (Nat.le_refl _) _
 have e0:w0.heap[E]? =some (.cells #[.int .i64 0] 31 (0,0)):=by rw[←hw0,←hE];exact heap_alloc_new w _
 simp only[hE,hw0]
 refine (arities_any w0).mono ?_
 rintro e w1 ⟨rfl,hk1,hb1⟩
 obtain⟨Mb,hM⟩:∃Mb,w0.heap.size=Mb:=⟨_,rfl⟩
 obtain⟨Wb,hW⟩:∃Wb,w1.heap.size=Wb:=⟨_,rfl⟩
 obtain⟨w2,hw2⟩:∃w2,w1.alloc (.cells #[.int .i64 0,.map (some Mb)] 164 (0,0))=w2:=⟨_,rfl⟩
 have hb2:Below w1.heap.size w1 w2:=by rw[←hw2];exact (Below.refl _ _).alloc (Nat.le_refl _) _
 have wk:WkAt Wb Mb 0 w2:=by rw[←hw2,←hW];exact heap_alloc_new w1 _
 have hMW:Mb<Wb:=by rw[←hM,←hW];exact ValMap.lt hk1
 have hEM:E<Mb:=by rw[←hM];exact (Array.getElem?_eq_some_iff.1 e0).1
 have hb02:Below w0.heap.size w0 w2:=hb1.trans (hb2.mono hb1.size)
 have hb:Below w.heap.size w w2:=b0.trans (hb02.mono b0.size)
 have hS:TwS B Wb Mb 0 w2:=⟨wk,by rw[←hM];exact ValMap.of_block hk1 (hb2.block _ (ValMap.lt hk1)),G.below (hb.mono G.le),by rw[←hM];exact Nat.le_trans G.le b0.size,hMW⟩
 have hT:TwP B Wb Mb Pb 0 (-1) w2:=⟨hS,(hb.block Pb hPl).trans hP,hBP,by rw[hE]at hPl;exact Nat.lt_trans hPl hEM⟩
 have hXl:X<w.heap.size:=(Array.getElem?_eq_some_iff.1 hX).1
 have C:=Lib.hid (ccp_any B Wb Mb Pb X p w2 hT ((hb.block X hXl).trans hX) (hI.keep (hb.mono G.le) (Nat.le_refl B)))
 have e2:w2.heap[E]? =some (.cells #[.int .i64 0] 31 (0,0)):=(hb02.block E (by rw[hM];exact hEM)).trans e0
 rw[hM]
 go_wp2_with fail
 rw[HR.out]at C
 have hEl:E<w2.heap.size:=(Array.getElem?_eq_some_iff.1 e2).1
 have hPE:Pb≠E:=by rw[hE]at hPl;exact Nat.ne_of_lt hPl
 have hEW:¬(E=Wb∨E=Pb):=fun hh=>by
  rcases hh with hh|hh
  ·exact Nat.ne_of_lt (Nat.lt_trans hEM hMW) hh
  ·exact hPE hh.symm
 have hEWb:E<Wb:=Nat.lt_trans hEM hMW
 have HK2:Hid (∀W,KpP Wb Pb w2 W→Kept (fun k=>k=Pb) w W):=Lib.hid fun W hk=>
  ⟨hk.os.trans hb.os,hk.tape.trans hb.tape,hk.output.trans hb.output,Nat.le_trans hb.size hk.size,fun k hk2 hs=>
   (hk.block k (Nat.lt_of_lt_of_le hk2 hb.size) (fun hh=>by
    rcases hh with hh|hh
    ·rw[hE]at hk2;omega
    ·exact hs hh)).trans (hb.block k hk2)⟩
 have HE:=Lib.hid hE
 clear hb hb02 hS hT hEWb hXl b0 e0 hb1 hk1 hM hW hw2 hb2 wk hMW hEM hX hI G hw0 hPl hP hBP
 cases R with
 |bad q er=>
  refine C.out.mono ?_
  rintro e w3 ⟨⟨rfl,hp3⟩,hk3⟩
  have e3:=(hk3.block E hEl hEW).trans e2
  have c3:=cell_at e3 0
  have z3:=frz_at e3 0
  simp only[sl7,sl8]at c3
  have HF:=Lib.hid (HK2.out _ hk3)
  have HP3:=Lib.hid hp3
  clear hk3 e2 e3 C hp3
  refine leaves_cons (f:=109) (args:=#[.pointer (some ⟨E,0,none⟩)]) (by simp) (by simp[go_sem]) ?_
  refine (tcatch_panic ⟨E,0,none⟩ 0 er [] w3 c3 z3).mono ?_
  rintro e u' w'' ⟨rfl,rfl,rfl⟩
  have q3:=World.cell?_setCell_same w3 ⟨E,0,none⟩ (.int .i64 er) c3
  have HZ:CEnds Pb (.bad q er) (.returned (.int .i64 er)) (w3.setCell ⟨E,0,none⟩ (.int .i64 er))∧Kept (fun k=>k=Pb) w (w3.setCell ⟨E,0,none⟩ (.int .i64 er)):=
   ⟨⟨rfl,(Below.heap_setCell _ _ _ _ hPE).trans HP3.out⟩,HF.out.setCell (Or.inr (by rw[HE.out];exact Nat.le_refl _)) _⟩
  simp[Leaves,settle,results,Tryz.results73,go_sem,q3,HZ]
 |on a=>
  refine C.out.mono ?_
  rintro e w3 ⟨⟨rfl,hw3,hp3⟩,hk3⟩
  have e3:=(hk3.block E hEl hEW).trans e2
  have c3:=cell_at e3 0
  have z3:=frz_at e3 0
  simp only[sl7,sl8]at c3
  have HF:=Lib.hid (HK2.out _ hk3)
  have HP3:=Lib.hid hp3
  clear hw3 hk3 e2 e3 C hp3
  go_wp2_with fail
  refine leaves_cons (f:=109) (args:=#[.pointer (some ⟨E,0,none⟩)]) (by simp) (by simp[go_sem]) ?_
  refine (tcatch_idle ⟨E,0,none⟩ _).mono ?_
  rintro e u' w'' ⟨rfl,rfl,rfl⟩
  have q3:=World.cell?_setCell_same w3 ⟨E,0,none⟩ (.int .i64 0) c3
  have HZ:CEnds Pb (.on a) (.returned (.int .i64 0)) (w3.setCell ⟨E,0,none⟩ (.int .i64 0))∧Kept (fun k=>k=Pb) w (w3.setCell ⟨E,0,none⟩ (.int .i64 0)):=
   ⟨⟨rfl,(Below.heap_setCell _ _ _ _ hPE).trans HP3.out⟩,HF.out.setCell (Or.inr (by rw[HE.out];exact Nat.le_refl _)) _⟩
  simp[Leaves,settle,results,Tryz.results73,go_sem,q3,HZ]
def faultR:Chk→Int×Int
 |.bad q e=>(q,e)
 |.on _=>(0,0)
theorem faultOf_r (p:Pr):faultOf p=faultR (chkPr p):=by
 unfold faultOf faultR
 cases chkPr p<;>rfl
set_option maxHeartbeats 4000000 in
theorem tfault_any (B:Nat) (p:Pr) (w:World) (G:GlB B w) (hI:PrIn w B p):
  Calls Tryz.prog 38 #[p.val] w fun e w'=>e=.returned (.tuple #[.int .i64 (faultOf p).1,.int .i64 (faultOf p).2])∧Below w.heap.size w w':=by
 have hmf:∀(fn:Fn) (first cap:Array Value) (w:World),(Instr.makeFunc fn first cap).run Tryz.prog w=.ok (.func fn first cap) w:=fun _ _ _ _=>rfl
 obtain⟨X,hX⟩:∃X,w.heap.size=X:=⟨_,rfl⟩
 obtain⟨w1,hw1⟩:∃w1,w.alloc (prObj p)=w1:=⟨_,rfl⟩
 have hb1:Below w.heap.size w w1:=by rw[←hw1];exact (Below.refl _ _).alloc (Nat.le_refl _) _
 have x1:w1.heap[X]? =some (prObj p):=by rw[←hw1,←hX];exact heap_alloc_new w _
 have hs1:w1.heap.size=X+1:=by rw[←hw1,←hX];exact World.size_alloc _ _
 obtain⟨w3,hw3⟩:∃w3,w1.alloc (.cells #[.int .i64 (-1)] 3 (0,0))=w3:=⟨_,rfl⟩
 have hb13:Below w1.heap.size w1 w3:=by rw[←hw3];exact (Below.refl _ _).alloc (Nat.le_refl _) _
 have p3:PlAt (X+1) (-1) w3:=by rw[←hw3,←hs1];exact heap_alloc_new w1 _
 have hwPb:w.heap.size≤X+1:=by omega
 have hb3:Below w.heap.size w w3:=hb1.trans (hb13.mono hb1.size)
 have x3:w3.heap[X]? =some (prObj p):=(hb13.block X (Array.getElem?_eq_some_iff.1 x1).1).trans x1
 have C:=Lib.hid (caughtP_any B (X+1) X p w3 (G.below (hb3.mono G.le)) x3 (hI.keep (hb3.mono G.le) (Nat.le_refl B)) p3 (Nat.le_trans G.le hwPb))
 have HB:=Lib.hid hb3
 have HPl:=Lib.hid hwPb
 have HN:=Lib.hid (And.intro hX (And.intro hw1 hw3))
 have hNE:=Lib.hid (chkPr_nz p)
 obtain⟨R,hR⟩:∃R,chkPr p=R:=⟨_,rfl⟩
 have HFo:Hid (faultOf p=faultR R):=Lib.hid (by rw[←hR];exact faultOf_r p)
 rw[hR]at C hNE
 obtain⟨F,hF⟩:∃F,faultOf p=F:=⟨_,rfl⟩
 rw[hF]at HFo ⊢
 clear hF hR hI G hX hw1 hb1 x1 hs1 hb13 hwPb p3 hw3 hb3 x3
 go_enter Tryz.func38,Tryz.ntmps38
 go_wp2_with fail
 simp only[HN.out.1,HN.out.2.1]
 go_wp2_with fail
 simp only[HN.out.2.2]
 refine C.out.mono ?_
 rintro e w4 ⟨hE4,hk4⟩
 have HB4:=Lib.hid (HB.out.trans (hk4.below HB.out.size (fun k hk=>by rw[hk];exact HPl.out)))
 clear hk4
 cases R with
 |on a=>
  obtain⟨rfl,hp⟩:=hE4
  obtain rfl:F=(0,0):=HFo.out
  have c4:=cell_at hp 0
  have f4:=frz_at hp 0
  simp only[sl7,sl8]at c4
  have HZ:Hid (Below w.heap.size w (w4.setCell ⟨X+1,0,none⟩ (.int .i64 0))):=Lib.hid (HB4.out.setCell (p:=⟨X+1,0,none⟩) HPl.out _)
  have s4:=World.cell?_setCell_same w4 ⟨X+1,0,none⟩ (.int .i64 0) c4
  clear hp
  go_wp2_with fail
  refine bodyPost_ret (v:=.tuple #[.int .i64 0,.int .i64 0]) (by simp[results,Tryz.results38,go_sem,s4]) rfl ?_
  exact⟨rfl,HZ.out⟩
 |bad q er=>
  obtain⟨rfl,hp⟩:=hE4
  obtain rfl:F=(q,er):=HFo.out
  have hne:=hNE.out q er rfl
  have hn2:(er==0)=false:=by simpa using hne
  have hn3:decide (er=0)=false:=by simpa using hne
  have c4:=cell_at hp 0
  have f4:=frz_at hp 0
  simp only[sl7,sl8]at c4
  have HZ:Hid (Below w.heap.size w (w4.setCell ⟨X+1,0,none⟩ (.int .i64 q))):=Lib.hid (HB4.out.setCell (p:=⟨X+1,0,none⟩) HPl.out _)
  have s4:=World.cell?_setCell_same w4 ⟨X+1,0,none⟩ (.int .i64 q) c4
  clear hp hne
  go_wp2_with fail
  refine bodyPost_ret (v:=.tuple #[.int .i64 q,.int .i64 er]) (by simp[results,Tryz.results38,go_sem,s4]) rfl ?_
  exact⟨rfl,HZ.out⟩
end Go.Proofs.YtkklogikakcanaaGreatDoor
