import Derived.Test.YtkklogikakcanaaGreatDoorTreeD
set_option linter.unusedVariables false
set_option linter.unusedSimpArgs false
open List renaming getElem?_toArray → sl7, getElem?_cons_zero → sl8, getElem?_cons_succ → sl9
namespace Go.Proofs.YtkklogikakcanaaGreatDoor
open Go.RowKit
theorem q383v_1 {P:Prop} (h:P:=by
 go_enter Tryz.func151,Tryz.ntmps151
 go_wp2_with (first|(go_at_call 97;refine (CN.out _ (HG.out _)).mono ?_;rintro e w1 ⟨rfl,rfl⟩)|(go_at_call 152;with_reducible refine (CY.out _).mono ?_;rintro e w1 ⟨rfl,hb1⟩;have HB1:=Lib.hid ((HB0.out _).trans (hb1.mono (HB0.out _).size));have r:=HRow.out _ _ hb1;have HRow1:=Lib.hid r;(have r0:=cell_at r 0;have r1:=cell_at r 1;have r2:=cell_at r 2;have r3:=cell_at r 3;have r4:=cell_at r 4;have r5:=cell_at r 5;have r6:=cell_at r 6;have r7:=cell_at r 7;have r8:=cell_at r 8;have r9:=cell_at r 9;have r10:=cell_at r 10;have r11:=cell_at r 11;have r12:=cell_at r 12;have r13:=cell_at r 13;have r14:=cell_at r 14;have r15:=cell_at r 15;have r16:=cell_at r 16;have r17:=cell_at r 17;have r18:=cell_at r 18;have r19:=cell_at r 19;have r20:=cell_at r 20;clear r;simp only[sl7,sl8,sl9]at r0 r1 r2 r3 r4 r5 r6 r7 r8 r9 r10 r11 r12 r13 r14 r15 r16 r17 r18 r19 r20);clear hb1)|(go_at_call 152;with_reducible refine (CX.out _).mono ?_;rintro e w2 ⟨rfl,hb2⟩;have HB2:=Lib.hid (HB1.out.trans (hb2.mono HB1.out.size));have r:=(hb2.block _ (Array.getElem?_eq_some_iff.1 HRow1.out).1).trans HRow1.out;(have r0:=cell_at r 0;have r1:=cell_at r 1;have r2:=cell_at r 2;have r3:=cell_at r 3;have r4:=cell_at r 4;have r5:=cell_at r 5;have r6:=cell_at r 6;have r7:=cell_at r 7;have r8:=cell_at r 8;have r9:=cell_at r 9;have r10:=cell_at r 10;have r11:=cell_at r 11;have r12:=cell_at r 12;have r13:=cell_at r 13;have r14:=cell_at r 14;have r15:=cell_at r 15;have r16:=cell_at r 16;have r17:=cell_at r 17;have r18:=cell_at r 18;have r19:=cell_at r 19;have r20:=cell_at r 20;clear r;simp only[sl7,sl8,sl9]at r0 r1 r2 r3 r4 r5 r6 r7 r8 r9 r10 r11 r12 r13 r14 r15 r16 r17 r18 r19 r20);clear hb2))
 all_goals
  go_ret
  refine⟨HE.out _ ?_,by first|exact HB2.out|exact HB1.out|exact HB0.out _⟩
  have hn:=HN.out
  unfold stForm
  dsimp only[St.k,St.nm,St.t,St.x,St.y,St.body,St.els]
  clear CN CX CY
  simp_all[noTy,stLen0,nameB_nil]):P:=h
set_option hygiene false in
abbrev stObj (k:Int) (nm:List UInt8) (t:Ty) (x y:Ex) (A:Option Addr) (l c:Nat) (B:Option Addr) (m e:Nat):Obj:=
 .cells #[.int .u8 k,.string ⟨nm.toArray⟩,.int .u8 t.k,.string ⟨t.nm.toArray⟩,.int .i64 t.n,.int .u8 x.k,.int .i64 x.n,.string ⟨x.nm.toArray⟩,.int .u8 x.t.k,.string ⟨x.t.nm.toArray⟩,.int .i64 x.t.n,.slice x.d.a x.args.length x.d.c,
  .int .u8 y.k,.int .i64 y.n,.string ⟨y.nm.toArray⟩,.int .u8 y.t.k,.string ⟨y.t.nm.toArray⟩,.int .i64 y.t.n,.slice y.d.a y.args.length y.d.c,.slice A l c,.slice B m e] 72 (0,0)
theorem nameB_nil:nameB []=false:=by decide
theorem stLen0 (l:List St):((l.length:Int)==0)=l.isEmpty:=by cases l<;>simp;omega
set_option maxHeartbeats 8000000 in
set_option maxRecDepth 100000 in
theorem form_any (s:St) (hl:lenOk s.nm.length) (w:World) (G:LGlobs w):
  Calls Tryz.prog 151 #[s.val] w fun e w'=>e=.returned (.bool (stForm s))∧Below w.heap.size w w':=by
 obtain⟨k,nm,t,x,y,bd,body,ed,els⟩:=s
 have CN:=Lib.hid (fun W GW=>lname_any nm hl W GW)
 have CX:=Lib.hid (fun W=>none_any x W)
 have CY:=Lib.hid (fun W=>none_any y W)
 have HG:=Lib.hid (fun o=>(G.below ((Below.refl w.heap.size w).alloc (Nat.le_refl _) o)))
 have HB0:=Lib.hid (fun o=>(Below.refl w.heap.size w).alloc (Nat.le_refl _) o)
 have HRow:Hid (∀o W,Below (w.alloc o).heap.size (w.alloc o) W→W.heap[w.heap.size]? =some o):=
  Lib.hid fun o W hb=>(hb.block _ (Array.getElem?_eq_some_iff.1 (heap_alloc_new w o)).1).trans (heap_alloc_new w o)
 have HE:Hid (∀b,stForm (.mk k nm t x y bd body ed els)=b→Ending.returned (.bool b)=.returned (.bool (stForm (.mk k nm t x y bd body ed els)))):=Lib.hid fun b h=>by rw[h]
 clear hl G
 dsimp only[St.val,St.k,St.nm,St.t,St.x,St.y,St.bd,St.body,St.ed,St.els]
 by_cases h1:k=1
 ·subst h1
  cases hb:nameB nm with
  |true=>
   rw[hb]at CN
   have HN:=Lib.hid hb
   clear hb
   exact q383v_1
  |false=>
   rw[hb]at CN
   have HN:=Lib.hid hb
   clear hb
   exact q383v_1
 have HN:=Lib.hid True.intro
 by_cases h2:k=2
 ·clear h1
  subst h2
  exact q383v_1
 by_cases h3:k=3
 ·clear h1 h2
  subst h3
  exact q383v_1
 by_cases h4:k=4
 ·clear h1 h2 h3
  subst h4
  exact q383v_1
 by_cases h5:k=5
 ·clear h1 h2 h3 h4
  subst h5
  exact q383v_1
 by_cases h6:k=6
 ·clear h1 h2 h3 h4 h5
  subst h6
  exact q383v_1
 by_cases h7:k=7
 ·clear h1 h2 h3 h4 h5 h6
  subst h7
  exact q383v_1
 by_cases h8:k=8
 ·clear h1 h2 h3 h4 h5 h6 h7
  subst h8
  exact q383v_1
 have HN:=Lib.hid (show k<1∨8<k by omega)
 have b1:(k==1)=false:=by simpa using h1
 have b2:(k==2)=false:=by simpa using h2
 have b3:(k==3)=false:=by simpa using h3
 have b4:(k==4)=false:=by simpa using h4
 have b5:(k==5)=false:=by simpa using h5
 have b6:(k==6)=false:=by simpa using h6
 have b7:(k==7)=false:=by simpa using h7
 have b8:(k==8)=false:=by simpa using h8
 exact q383v_1
end Go.Proofs.YtkklogikakcanaaGreatDoor
namespace Go.Proofs.YtkklogikakcanaaGreatDoor
open Go.RowKit
def FlEnds (R:Int) (e:Ending):Prop:=e=(if R=0 then .returned (.tuple #[]) else faultE R)
theorem FlEnds.good:FlEnds 0 (.returned (.tuple #[])):=rfl
theorem FlEnds.bad {R:Int} (h:R≠0):FlEnds R (faultE R):=by unfold FlEnds;rw[if_neg h]
set_option maxHeartbeats 8000000 in
set_option maxRecDepth 100000 in
theorem wfields_any (B:Nat) (a:Option Addr) (d:Hd) (l:List Fl) (w:World) (hI:FlsIn w B d l) (G:GlB B w):
  Calls Tryz.prog 112 #[.pointer a,.slice d.a l.length d.c] w fun e w'=>FlEnds (chkFls 0 l) e∧Below w.heap.size w w':=by
 obtain⟨R,hR⟩:∃R,chkFls 0 l=R:=⟨_,rfl⟩
 rw[hR]
 have HR:=Lib.hid hR
 have HI:=Lib.hid hI
 have HG:=Lib.hid G
 clear hR hI G
 go_enter Tryz.func112,Tryz.ntmps112
 go_wp2_with fail
 go_loopw [8] (fun ii wr=>∃(j:Nat),ii=.int .i64 j∧j≤l.length∧Hid (Below w.heap.size w wr)∧Hid (chkFls j (l.drop j)=R)) (fun ii _=>l.length - (intOf ii).toNat)
 case atStart=>exact⟨0,rfl,Nat.zero_le _,Lib.hid (Below.refl _ _),Lib.hid (by rw[List.drop_zero];exact HR.out)⟩
 case round=>
  obtain⟨j,rfl,hj,hK,hC⟩:=hrel
  have p2:(0:Int)≤(j:Int):=Int.natCast_nonneg _
  have p3:l.length≤140737488355328:=HI.out.len
  by_cases hlt:j<l.length
  ·obtain⟨f,hf⟩:∃f,l[j]? =some f:=⟨_,List.getElem?_eq_getElem hlt⟩
   have hdrop:l.drop j=f::l.drop (j+1):=by
    have:=List.drop_eq_getElem_cons hlt
    rw[List.getElem?_eq_getElem hlt]at hf
    injection hf with hf
    rw[this,hf]
   have hIr:=HI.out.keep (hK.out.mono HG.out.le) (Nat.le_refl B)
   obtain⟨rb,ro,hda,hrb,hrow⟩:=hIr.row (by intro h0;rw[h0]at hlt;simp at hlt)
   have hfa:=hrow j f hf
   have hfo:=hIr.sub f (List.mem_of_getElem? hf)
   have hC1:=Lib.hid hC.out
   rw[hdrop,chkFls]at hC1
   obtain⟨fnm,ft⟩:=f
   obtain⟨z0,z1,z2,z3⟩:=hfa
   obtain⟨hn,ht⟩:=hfo
   dsimp only at z0 z1 z2 z3 hn ht hC1
   obtain⟨X6,hX6⟩:∃X6,wr.heap.size=X6:=⟨_,rfl⟩
   obtain⟨w6,hw6⟩:∃w6,wr.alloc (.cells #[.string ⟨fnm.toArray⟩,.int .u8 ft.k,.string ⟨ft.nm.toArray⟩,.int .i64 ft.n] 93 (0,0))=w6:=⟨_,rfl⟩
   have hb6:Below wr.heap.size wr w6:=by rw[←hw6];exact (Below.refl _ _).alloc (Nat.le_refl _) _
   have x6:w6.heap[X6]? =some (.cells #[.string ⟨fnm.toArray⟩,.int .u8 ft.k,.string ⟨ft.nm.toArray⟩,.int .i64 ft.n] 93 (0,0)):=by rw[←hw6,←hX6];exact heap_alloc_new wr _
   have HK6:Hid (Below w.heap.size w w6):=Lib.hid (hK.out.trans (hb6.mono hK.out.size))
   have q0:=cell_at x6 0
   have q1:=cell_at x6 1
   have q2:=cell_at x6 2
   have q3:=cell_at x6 3
   simp only[sl7,sl8,sl9]at q0 q1 q2 q3
   have p1:(j:Int)<(l.length:Int):=by omega
   have HG6:Hid (LGlobs w6):=Lib.hid (HG.out.below (HK6.out.mono HG.out.le)).g
   have CN:=Lib.hid (lname_any fnm hn w6 HG6.out)
   have CT:=Lib.hid (wtyp_any a ft ht.nm w6 HG6.out)
   have HNm:=Lib.hid (And.intro hX6 hw6)
   clear hb6 x6 hrow hIr hdrop hf hn ht hX6 hw6 HG6
   rw[hda]
   by_cases h16:16≤j
   ·have d16:decide ((j:Int)<16)=false:=by simp;omega
    have HW:Hid (3=R):=Lib.hid (by have h:=hC1.out;rw[if_pos h16]at h;exact h)
    go_wp2_with fail
    simp only[HNm.out.1,HNm.out.2]
    go_at_call 111
    with_reducible refine (want_no _ _ _).mono ?_
    rintro e w9 ⟨rfl,rfl⟩
    exact⟨rfl,by rw[←HW.out];exact FlEnds.bad (by decide),HK6.out⟩
   have d16:decide ((j:Int)<16)=true:=by simp;omega
   rw[if_neg h16]at hC1
   cases hb:nameB fnm with
   |false=>
    rw[hb]at CN
    have HW:Hid (1=R):=Lib.hid (by have h:=hC1.out;rw[if_pos hb]at h;exact h)
    clear hb
    go_wp2_with fail
    simp only[HNm.out.1,HNm.out.2]
    go_at_call 111
    with_reducible refine (want_yes _ _ _).mono ?_
    rintro e w9 ⟨rfl,rfl⟩
    go_wp2_with (go_at_call 97;with_reducible refine CN.out.mono ?_;rintro e w9 ⟨rfl,rfl⟩)
    go_at_call 111
    with_reducible refine (want_no _ _ _).mono ?_
    rintro e w9 ⟨rfl,rfl⟩
    exact⟨rfl,by rw[←HW.out];exact FlEnds.bad (by decide),HK6.out⟩
   |true=>
    rw[hb]at CN
    rw[if_neg (by rw[hb];decide)]at hC1
    clear hb
    go_wp2_with fail
    simp only[HNm.out.1,HNm.out.2]
    go_at_call 111
    with_reducible refine (want_yes _ _ _).mono ?_
    rintro e w9 ⟨rfl,rfl⟩
    go_wp2_with (go_at_call 97;with_reducible refine CN.out.mono ?_;rintro e w9 ⟨rfl,rfl⟩)
    go_at_call 111
    with_reducible refine (want_yes _ _ _).mono ?_
    rintro e w9 ⟨rfl,rfl⟩
    go_wp2_with fail
    by_cases htf:tyForm ft=0
    ·rw[if_neg (not_not_intro htf)]at hC1
     rw[if_pos htf]at CT
     refine CT.out.mono ?_
     rintro e w7 ⟨rfl,hb7⟩
     have HK7:Hid (Below w.heap.size w w7):=Lib.hid (HK6.out.trans (hb7.mono HK6.out.size))
     clear hb7 htf CT hK
     go_wp2_with fail
     go_roundw
     case rel=>exact⟨j+1,by go_num,by omega,HK7,hC1⟩
     case measure=>simp[intOf];omega
    ·have HW:Hid (tyForm ft=R):=Lib.hid (by have h:=hC1.out;rw[if_pos htf]at h;exact h)
     rw[if_neg htf]at CT
     refine CT.out.mono ?_
     rintro e w7 ⟨rfl,hb7⟩
     obtain rfl:=HW.out
     exact⟨rfl,FlEnds.bad htf,HK6.out.trans (hb7.mono HK6.out.size)⟩
  ·obtain rfl:j=l.length:=by omega
   have HF:Hid (0=R):=Lib.hid (by have h:=hC.out;rw[List.drop_length,chkFls]at h;exact h)
   obtain rfl:=HF.out
   go_wp2_with fail
   go_end0
   exact⟨FlEnds.good,hK.out⟩
end Go.Proofs.YtkklogikakcanaaGreatDoor
