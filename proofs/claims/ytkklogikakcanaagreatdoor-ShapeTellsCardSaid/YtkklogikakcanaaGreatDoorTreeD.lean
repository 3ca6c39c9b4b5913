import Derived.Test.YtkklogikakcanaaGreatDoorTreeC
import Derived.Test.YtkklogikakcanaaGreatDoorTreePlain2
set_option linter.unusedVariables false
set_option linter.unusedSimpArgs false
open List renaming getElem_toArray → sl1, getElem_cons_zero → sl2, getElem_cons_succ → sl3, setIfInBounds_toArray → sl4, set_cons_zero → sl5, set_cons_succ → sl6, getElem?_toArray → sl7, getElem?_cons_zero → sl8, getElem?_cons_succ → sl9
namespace Go.Proofs.YtkklogikakcanaaGreatDoor
open Go.RowKit
theorem qp7br_5 {P:Prop} (h:P:=by
 clear hb
 go_wp2_with (go_at_call 97;refine (HCN.out _ HS4.out.g.g).mono ?_;rintro e w9 ⟨rfl,rfl⟩)
 go_at_call 111
 with_reducible refine (want_no _ _ _).mono ?_
 rintro e w9 ⟨rfl,rfl⟩
 exact⟨rfl,HBad.out _ HW.out (by decide) _,HK4.out⟩):P:=h
theorem qp7br_4 {P:Prop} (h:P:=by
 go_at_call 111
 with_reducible refine (want_yes _ _ _).mono ?_
 rintro e w9 ⟨rfl,rfl⟩
 by_cases ht1:t.k=0
 ·by_cases ht2:t.nm=[]
  ·by_cases ht3:t.n=0
   ·have HOk:Hid (exForm (.mk k n nm t d args)=0):=Lib.hid (by rw[HG0.out];first|(rw[if_neg hk6];simp[noTy,ht1,ht2,ht3])|simp[noTy,ht1,ht2,ht3])
    exact qp7br_3
   ·have HW:Hid (exForm (.mk k n nm t d args)=1):=Lib.hid (by rw[HG0.out];first|(rw[if_neg hk6];simp[noTy,ht3])|simp[noTy,ht3])
    exact qp7br_2
  ·have HW:Hid (exForm (.mk k n nm t d args)=1):=Lib.hid (by rw[HG0.out];first|(rw[if_neg hk6];simp[noTy,ht2])|simp[noTy,ht2])
   exact qp7br_2
 ·have HW:Hid (exForm (.mk k n nm t d args)=1):=Lib.hid (by rw[HG0.out];first|(rw[if_neg hk6];simp[noTy,ht1])|simp[noTy,ht1])
  exact qp7br_2):P:=h
theorem qp7br_3 {P:Prop} (h:P:=by
 go_wp2_with fail
 clear ht1 ht2 ht3
 go_at_call 111
 with_reducible refine (want_yes _ _ _).mono ?_
 rintro e w9 ⟨rfl,rfl⟩
 go_wp2_with fail
 go_loopw [89] (fun ii wr=>∃(j itj:Nat),ii=.int .i64 j∧j≤args.length∧Hid (TwS B Wb Mb itj wr)∧Hid (itj≤1024)∧Hid (KpW Wb w wr)∧Hid (chkExs (args.drop j) (deep+1) itj=R)) (fun ii _=>args.length - (intOf ii).toNat)
 case atStart=>exact⟨0,it+1,rfl,Nat.zero_le _,HS4,HLe,HK4,Lib.hid (by rw[List.drop_zero,←HR.out,chkEx_args HI.out HOk.out];rfl)⟩
 case round=>
  obtain⟨j,itj,rfl,hj,hT,hTi,hK,hC⟩:=hrel
  clear HS4 HK4
  exact qp7br_1):P:=h
theorem qp7br_2 {P:Prop} (h:P:=by
 go_wp2_with fail
 go_at_call 111
 with_reducible refine (want_no _ _ _).mono ?_
 rintro e w9 ⟨rfl,rfl⟩
 exact⟨rfl,HBad.out _ HW.out (by decide) _,HK4.out⟩):P:=h
theorem qp7br_1 {P:Prop} (h:P:=by
 have p2:(0:Int)≤(j:Int):=Int.natCast_nonneg _
 by_cases hlt:j<args.length
 ·obtain⟨y,hy⟩:∃y,args[j]? =some y:=⟨_,List.getElem?_eq_getElem hlt⟩
  have hdrop:args.drop j=y::args.drop (j+1):=by
   have:=List.drop_eq_getElem_cons hlt
   rw[List.getElem?_eq_getElem hlt]at hy
   injection hy with hy
   rw[this,hy]
  have hIr:=HIn.out.keep (HBl.out _ hK.out) (Nat.le_refl B)
  obtain⟨rb,ro,hda,hrb,hrow⟩:=hIr.row (by intro h0;have h1:args=[]:=h0;rw[h1]at hlt;simp at hlt)
  have hya:=hrow j y hy
  have hyI:=hIr.sub y (List.mem_of_getElem? hy)
  have hyc:exCount y≤sz:=by
   have h1:=exCount_mem (List.mem_of_getElem? hy)
   have h2:=hsz
   rw[exCount]at h2
   omega
  have hC1:=Lib.hid hC.out
  rw[hdrop,chkExs]at hC1
  have hda2:d.a=some ⟨rb,ro,none⟩:=hda
  obtain⟨yk,yn,ynm,yt,yd,yargs⟩:=y
  obtain⟨z0,z1,z2,z3,z4,z5,z6⟩:=hya
  dsimp only[Ex.k,Ex.n,Ex.nm,Ex.t,Ex.d,Ex.args]at z0 z1 z2 z3 z4 z5 z6
  obtain⟨X6,hX6⟩:∃X6,wr.heap.size=X6:=⟨_,rfl⟩
  obtain⟨w6,hw6⟩:∃w6,wr.alloc (.cells #[.int .u8 yk,.int .i64 yn,.string ⟨ynm.toArray⟩,.int .u8 yt.k,.string ⟨yt.nm.toArray⟩,.int .i64 yt.n,.slice yd.a yargs.length yd.c] 70 (0,0))=w6:=⟨_,rfl⟩
  have hb6:Below wr.heap.size wr w6:=by rw[←hw6];exact (Below.refl _ _).alloc (Nat.le_refl _) _
  have x6:w6.heap[X6]? =some (.cells #[.int .u8 yk,.int .i64 yn,.string ⟨ynm.toArray⟩,.int .u8 yt.k,.string ⟨yt.nm.toArray⟩,.int .i64 yt.n,.slice yd.a yargs.length yd.c] 70 (0,0)):=by rw[←hw6,←hX6];exact heap_alloc_new wr _
  have HK6:=Lib.hid (hK.out.trans (Kept.of_below hb6))
  have CY:=Lib.hid (ih (.mk yk yn ynm yt yd yargs) hyc (deep+1) itj w6 (hT.out.below hb6) (hyI.keep ((hT.out.below hb6).g.belowOf hb6 hT.out.g) (Nat.le_refl B)) hTi.out (by omega))
  rw[show ((deep+1:Nat):Int)=(deep:Int)+1 by push_cast;rfl]at CY
  dsimp only[Ex.val,Ex.k,Ex.n,Ex.nm,Ex.t,Ex.d,Ex.args]at CY
  obtain⟨ry,hry⟩:∃ry,chkEx (.mk yk yn ynm yt yd yargs) (deep+1) itj=ry:=⟨_,rfl⟩
  have HT6:=Lib.hid (hT.out.below hb6)
  have q0:=cell_at x6 0
  have q1:=cell_at x6 1
  have q2:=cell_at x6 2
  have q3:=cell_at x6 3
  have q4:=cell_at x6 4
  have q5:=cell_at x6 5
  have q6:=cell_at x6 6
  simp only[sl7,sl8,sl9]at q0 q1 q2 q3 q4 q5 q6
  have p1:(j:Int)<(args.length:Int):=by omega
  have p3:args.length≤140737488355328:=HIn.out.len
  have HRy:=Lib.hid hry
  rw[hry]at CY hC1
  clear hb6 x6 hrow hyI hyc hC hIr hda hdrop hy hK hry
  rw[hda2]
  go_wp2_with fail
  try simp only[hX6,hw6]
  cases ry with
  |error er=>
   have HF:Hid (Except.error er=R):=Lib.hid hC1.out
   obtain rfl:=HF.out
   refine CY.out.mono ?_
   rintro e w7 ⟨rfl,hk7⟩
   exact⟨rfl,rfl,HK6.out.trans hk7⟩
  |ok m=>
   refine CY.out.mono ?_
   rintro e w7 ⟨⟨rfl,hw7⟩,hk7⟩
   have HT7:=Lib.hid (HT6.out.kept hk7 hw7)
   have HK7:=Lib.hid (HK6.out.trans hk7)
   have HM7:Hid (m≤1024):=Lib.hid (chkEx_ok _ _ _ _ HRy.out).2.1
   have HC7:Hid (chkExs (args.drop (j+1)) (deep+1) m=R):=Lib.hid hC1.out
   clear hw7 hk7 CY hC1 hT hTi HT6 HK6
   go_wp2_with fail
   go_roundw
   case rel=>exact⟨j+1,m,by go_num,by omega,HT7,HM7,HK7,HC7⟩
   case measure=>simp[intOf];omega
 ·obtain rfl:j=args.length:=by omega
  have HF:Hid (Except.ok itj=R):=Lib.hid (by have h:=hC.out;rw[List.drop_length,chkExs]at h;exact h)
  obtain rfl:=HF.out
  go_wp2_with fail
  go_end0
  exact⟨⟨rfl,hT.out.wk⟩,hK.out⟩):P:=h
structure GlB (B:Nat) (w:World):Prop where
 ml:∃m,w.cell? ⟨1,0,none⟩=some (.int .i64 m)
 lt:1<B
 le:B≤w.heap.size
theorem GlB.of {w:World} (h:LGlobs w):GlB w.heap.size w:=⟨h.ml,h.lt,Nat.le_refl _⟩
theorem GlB.g {B:Nat} {w:World} (h:GlB B w):LGlobs w:=⟨h.ml,Nat.lt_of_lt_of_le h.lt h.le⟩
theorem GlB.below {B:Nat} {w w':World} (h:GlB B w) (hb:Below B w w'):GlB B w':=by
 obtain⟨m,hm⟩:=h.ml
 exact⟨⟨m,(hb.cell (p:=⟨1,0,none⟩) h.lt).trans hm⟩,h.lt,Nat.le_trans h.le hb.size⟩
abbrev KpW (Wb:Nat):World→World→Prop:=Kept (fun k=>k=Wb)
structure TwS (B Wb Mb it:Nat) (W:World):Prop where
 wk:WkAt Wb Mb it W
 kinds:KindsAt Mb W
 g:GlB B W
 hBM:B≤Mb
 hMW:Mb<Wb
theorem KpW.set {Wb:Nat} {a w:World} (h:KpW Wb a w) (j:Nat) (u:Value):KpW Wb a (w.setCell ⟨Wb,j,none⟩ u):=Kept.setCell (S:=fun k=>k=Wb) h (p:=⟨Wb,j,none⟩) (Or.inl rfl) u
section
variable {B Wb Mb it it2:Nat} {W W':World}
theorem KpW.blw (h:KpW Wb W W') (hB:B≤W.heap.size) (hW:B≤Wb):Below B W W':=Kept.below h hB (fun k hk=>by rw[hk];exact hW)
theorem TwS.blw (h:TwS B Wb Mb it W) (hk:KpW Wb W W'):Below B W W':=KpW.blw hk h.g.le (Nat.le_of_lt (Nat.lt_of_le_of_lt h.hBM h.hMW))
theorem TwS.kept (h:TwS B Wb Mb it W) (hk:KpW Wb W W') (hw:WkAt Wb Mb it2 W'):TwS B Wb Mb it2 W':=
 ⟨hw,ValMap.of_block h.kinds (hk.block Mb (ValMap.lt h.kinds) (Nat.ne_of_lt h.hMW)),h.g.below (h.blw hk),h.hBM,h.hMW⟩
theorem TwS.below (h:TwS B Wb Mb it W) (hb:Below W.heap.size W W'):TwS B Wb Mb it W':=h.kept (Kept.of_below hb) ((hb.block Wb h.wk.lt).trans h.wk)
theorem TwS.next (h:TwS B Wb Mb it W):TwS B Wb Mb (it+1) (W.setCell ⟨Wb,0,none⟩ (.int .i64 ((it:Int)+1))):=
 h.kept (KpW.set (Kept.refl _ _) 0 _) h.wk.next
end
theorem GlB.belowOf {B:Nat} {w w':World} (h':GlB B w') (hb:Below w.heap.size w w') (h:GlB B w):Below B w w':=hb.mono h.le
theorem exCount_mem:∀{l:List Ex} {y:Ex},y∈l→exCount y≤exCounts l
 |x::r,y,h=>by
  rw[exCounts]
  rcases List.mem_cons.1 h with rfl|h
  ·omega
  ·have:=exCount_mem h;omega
def ExEnds (Wb Mb:Nat) (r:Except Int Nat) (e:Ending) (w':World):Prop:=match r with
 |.ok m=>e=.returned (.tuple #[])∧WkAt Wb Mb m w'
 |.error er=>e=faultE er
theorem ExEnds.bad {Wb Mb:Nat} {r:Except Int Nat} {er:Int} {w':World} (h:r=.error er):ExEnds Wb Mb r (faultE er) w':=by subst h;rfl
theorem ExEnds.good {Wb Mb m:Nat} {r:Except Int Nat} {w':World} (h:r=.ok m) (hw:WkAt Wb Mb m w'):ExEnds Wb Mb r (.returned (.tuple #[])) w':=by subst h;exact⟨rfl,hw⟩
theorem chkEx_item {x:Ex} {deep it:Nat} {e:Int} (h:itemC deep it=.error e):chkEx x deep it=.error e:=by
 obtain⟨k,n,nm,t,d,args⟩:=x
 rw[chkEx,h]
theorem chkEx_form {x:Ex} {deep it it1:Nat} (h:itemC deep it=.ok it1) (hf:exForm x≠0):chkEx x deep it=.error (exForm x):=by
 obtain⟨k,n,nm,t,d,args⟩:=x
 rw[chkEx,h]
 dsimp only
 rw[if_pos hf]
theorem chkEx_args {x:Ex} {deep it it1:Nat} (h:itemC deep it=.ok it1) (hf:exForm x=0):chkEx x deep it=chkExs x.args (deep+1) it1:=by
 obtain⟨k,n,nm,t,d,args⟩:=x
 rw[chkEx,h]
 dsimp only
 rw[if_neg (by simpa using hf)]
 rfl
def arP (k:Int):Int×Bool×Bool:=match arity k with|some p=>(p.1,p.2,true)|none=>(0,false,false)
theorem KindsAt.lookP {Mb:Nat} {W:World} (h:KindsAt Mb W) {k am:Int} {bn okb:Bool} (hk:u8ok k) (hp:arP k=(am,bn,okb)):
  (Instr.lookup 161 (.map (some Mb)) (.int .u8 k) true).run Tryz.prog W=.ok (.tuple #[arV am bn,.bool okb]) W:=by
 rw[h.look hk]
 unfold arP at hp
 cases ha:arity k with
 |none=>rw[ha]at hp;injection hp with h1 h2;injection h2 with h2 h3;subst h1 h2 h3;rfl
 |some p=>rw[ha]at hp;injection hp with h1 h2;injection h2 with h2 h3;subst h1 h2 h3;rfl
theorem exForm_arP {k n:Int} {nm:List UInt8} {t:Ty} {d:Hd} {args:List Ex} {am:Int} {bn okb:Bool} (h:arP k=(am,bn,okb)):exForm (.mk k n nm t d args)=
  if okb=false then 1 else if ¬(am<0∨am=args.length) then 1 else if ¬(k=1∨n=0) then 1 else if bn=nm.isEmpty then 1 else if bn=true∧nameB nm=false then 1
  else if k=6 then (if t.k=1 then 1 else tyForm t) else if noTy t then 0 else 1:=by
 unfold arP at h
 unfold exForm
 dsimp only[Ex.k,Ex.n,Ex.nm,Ex.t,Ex.args]
 cases ha:arity k with
 |none=>rw[ha]at h;injection h with h1 h2;injection h2 with h2 h3;subst h3;rfl
 |some p=>
  rw[ha]at h
  injection h with h1 h2
  injection h2 with h2 h3
  subst h1 h2 h3
  dsimp only
  rw[if_neg (show ¬true=false by decide)]
  rfl
theorem exForm_bad {k n:Int} {nm:List UInt8} {t:Ty} {d:Hd} {args:List Ex} {am:Int} {bn okb:Bool} (h:arP k=(am,bn,okb))
  (hb:okb=false∨¬(am<0∨am=args.length)∨¬(k=1∨n=0)∨bn=nm.isEmpty∨(bn=true∧nameB nm=false)):exForm (.mk k n nm t d args)=1:=by
 rw[exForm_arP h]
 rcases hb with h|h|h|h|h
 ·rw[if_pos h]
 ·by_cases h1:okb=false
  ·rw[if_pos h1]
  ·rw[if_neg h1,if_pos h]
 ·by_cases h1:okb=false
  ·rw[if_pos h1]
  rw[if_neg h1]
  by_cases h2:¬(am<0∨am=args.length)
  ·rw[if_pos h2]
  ·rw[if_neg h2,if_pos h]
 ·repeat' first|rfl|split
  all_goals contradiction
 ·repeat' first|rfl|split
  all_goals contradiction
theorem exForm_go {k n:Int} {nm:List UInt8} {t:Ty} {d:Hd} {args:List Ex} {am:Int} {bn:Bool} (h:arP k=(am,bn,true)) (h3:am<0∨am=args.length) (h4:k=1∨n=0)
  (h5:¬bn=nm.isEmpty) (h6:¬(bn=true∧nameB nm=false)):exForm (.mk k n nm t d args)=if k=6 then (if t.k=1 then 1 else tyForm t) else if noTy t then 0 else 1:=by
 rw[exForm_arP h,if_neg (by decide),if_neg (not_not_intro h3),if_neg (not_not_intro h4),if_neg h5,if_neg h6]
theorem arP_cases (k:Int):k=1∧arP k=(0,false,true)∨k=7∧arP k=(-1,true,true)∨k=6∧arP k=(0,false,true)∨(k≠1∧k≠7∧k≠6∧0≤(arP k).1):=by
 by_cases h1:k=1
 ·subst h1;exact .inl ⟨rfl,rfl⟩
 by_cases h7:k=7
 ·subst h7;exact .inr (.inl ⟨rfl,rfl⟩)
 by_cases h6:k=6
 ·subst h6;exact .inr (.inr (.inl ⟨rfl,rfl⟩))
 refine .inr (.inr (.inr ⟨h1,h7,h6,?_⟩))
 unfold arP
 cases ha:arity k with
 |none=>simp
 |some p=>
  unfold arity at ha
  dsimp only
  repeat' split at ha
  all_goals first|(injection ha with ha;rw[←ha];simp;done)|omega|(cases ha;done)
abbrev LkK (Wb Mb X:Nat) (k am:Int) (bn okb:Bool) (W:World):Prop:=W.cell? ⟨Wb,1,none⟩=some (.map (some Mb))∧W.cell? ⟨X,0,none⟩=some (.int .u8 k)∧
 (Instr.lookup 161 (.map (some Mb)) (.int .u8 k) true).run Tryz.prog W=.ok (.tuple #[arV am bn,.bool okb]) W
set_option maxHeartbeats 8000000 in
set_option maxRecDepth 100000 in
theorem wexpr_any (B Wb Mb:Nat):∀(sz:Nat) (x:Ex),exCount x≤sz→∀(deep it:Nat) (w:World),TwS B Wb Mb it w→ExIn w B x→it≤1024→deep≤1000000→
  Calls Tryz.prog 153 #[.pointer (some ⟨Wb,0,none⟩),x.val,.int .i64 (deep:Int)] w fun e w'=>ExEnds Wb Mb (chkEx x deep it) e w'∧KpW Wb w w':=by
 intro sz
 induction sz with
 |zero=>intro x hx;have:=exCount_pos x;omega
 |succ sz ih=>
 intro x hsz deep it w hS hIn hit hdp
 have hk:=hIn.k
 obtain⟨k,n,nm,t,d,args⟩:=x
 obtain⟨R,hR⟩:∃R,chkEx (.mk k n nm t d args) deep it=R:=⟨_,rfl⟩
 rw[hR]
 have HR:=Lib.hid hR
 clear hR
 have HBl:Hid (∀W,KpW Wb w W→Below B w W):=Lib.hid fun W h=>hS.blw h
 obtain⟨X,hX⟩:∃X,w.heap.size=X:=⟨_,rfl⟩
 obtain⟨w1,hw1⟩:∃w1,w.alloc (.cells #[.int .u8 k,.int .i64 n,.string ⟨nm.toArray⟩,.int .u8 t.k,.string ⟨t.nm.toArray⟩,.int .i64 t.n,.slice d.a args.length d.c] 70 (0,0))=w1:=⟨_,rfl⟩
 have hb1:Below w.heap.size w w1:=by rw[←hw1];exact (Below.refl _ _).alloc (Nat.le_refl _) _
 have x1:w1.heap[X]? =some (.cells #[.int .u8 k,.int .i64 n,.string ⟨nm.toArray⟩,.int .u8 t.k,.string ⟨t.nm.toArray⟩,.int .i64 t.n,.slice d.a args.length d.c] 70 (0,0)):=by rw[←hw1,←hX];exact heap_alloc_new w _
 have HS1:=Lib.hid (hS.below hb1)
 have hne:X≠Wb:=by have:=hS.wk.lt;omega
 have CI:=Lib.hid (witem_any Wb Mb it deep (by omega) (by omega) w1 HS1.out.wk)
 have x2:(w1.setCell ⟨Wb,0,none⟩ (.int .i64 ((it:Int)+1))).heap[X]? =some (.cells #[.int .u8 k,.int .i64 n,.string ⟨nm.toArray⟩,.int .u8 t.k,.string ⟨t.nm.toArray⟩,.int .i64 t.n,.slice d.a args.length d.c] 70 (0,0)):=by
  rw[Below.heap_setCell _ _ _ _ hne];exact x1
 have HS2:=Lib.hid HS1.out.next
 have HK2:Hid (KpW Wb w (w1.setCell ⟨Wb,0,none⟩ (.int .i64 ((it:Int)+1)))):=Lib.hid (KpW.set (Kept.of_below hb1) 0 _)
 have HX2:=Lib.hid x2
 have HIn:=Lib.hid hIn
 have HNm:=Lib.hid (And.intro hX hw1)
 clear hb1 x1 x2 HS1 hX hw1 hS hIn
 obtain⟨w2,hw2⟩:∃w2,w1.setCell ⟨Wb,0,none⟩ (.int .i64 ((it:Int)+1))=w2:=⟨_,rfl⟩
 rw[hw2]at CI HS2 HK2 HX2
 clear hw2
 dsimp only[Ex.val,Ex.k,Ex.n,Ex.nm,Ex.t,Ex.d,Ex.args]
 cases hi:itemC deep it with
 |error e=>
  rw[hi]at CI
  have HF:=Lib.hid (chkEx_item (x:=.mk k n nm t d args) hi)
  clear hi
  go_enter Tryz.func153,Tryz.ntmps153
  go_wp2_with fail
  obtain⟨e1,e2⟩:=HNm.out
  simp only[e1,e2]
  clear e1 e2 HNm
  refine CI.out.mono ?_
  rintro e w2 ⟨rfl,rfl⟩
  exact⟨rfl,ExEnds.bad (HR.out.symm.trans HF.out),HK2.out⟩
 |ok it1=>
  rw[hi]at CI
  obtain⟨hit1,hle,hd16⟩:=itemC_ok hi
  subst hit1
  have HI:=Lib.hid hi
  obtain⟨am,bn,okb,hap⟩:∃am bn okb,arP k=(am,bn,okb):=⟨_,_,_,rfl⟩
  have HAp:=Lib.hid hap
  have HLk:Hid (∀W,Below w2.heap.size w2 W→LkK Wb Mb X k am bn okb W):=Lib.hid fun W hb=>⟨cell_at (HS2.out.below hb).wk 1,cell_at ((hb.block X (Array.getElem?_eq_some_iff.1 HX2.out).1).trans HX2.out) 0,(HS2.out.below hb).kinds.lookP hk hap⟩
  have hap0:=Lib.hid hap
  clear hi hap
  go_enter Tryz.func153,Tryz.ntmps153
  go_wp2_with fail
  obtain⟨e1,e2⟩:=HNm.out
  simp only[e1,e2]
  clear e1 e2 HNm
  refine CI.out.mono ?_
  rintro e w2 ⟨rfl,rfl⟩
  clear CI
  go_wp2_with fail
  refine wp_region_L (l:=12) (S:=(LkK Wb Mb X k am bn okb)) (by kernel_rfl) ?_ (fun hHeld=>?_)
  ·((try dsimp only);(exact HLk.out _ (Below.refl _ _).drew))
  refine tk 0 ?_
  try simp only[sl1,sl2,sl3,Act.put,sl4,sl5,sl6]
  refine tk 1 ?_
  try simp only[sl1,sl2,sl3,Act.put,sl4,sl5,sl6]
  refine tk 2 ?_
  try simp only[sl1,sl2,sl3,Act.put,sl4,sl5,sl6]
  refine tk 3 ?_
  try simp only[sl1,sl2,sl3,Act.put,sl4,sl5,sl6]
  refine tk 4 ?_
  try simp only[sl1,sl2,sl3,Act.put,sl4,sl5,sl6]
  refine tk 5 ?_
  try simp only[sl1,sl2,sl3,Act.put,sl4,sl5,sl6]
  refine tk 6 ?_
  try simp only[sl1,sl2,sl3,Act.put,sl4,sl5,sl6]
  refine tk 7 ?_
  try simp only[sl1,sl2,sl3,Act.put,sl4,sl5,sl6]
  refine tk 8 ?_
  try simp only[sl1,sl2,sl3,Act.put,sl4,sl5,sl6]
  refine tk 9 ?_
  try simp only[sl1,sl2,sl3,Act.put,sl4,sl5,sl6]
  refine wpAnyL_step (j:=10) (o:=_) (by kernel_rfl) rfl (fun K hK=>?_)
  (go_simp;have hB4:=Lib.hid (fun o=>((Below.refl w2.heap.size w2).drew).alloc (Nat.le_refl _) o))
  refine hK _ _ ?_ (fun hHeld=>?_)
  ·((try dsimp only);(exact HLk.out _ (hB4.out _)))
  clear hK K
  try simp only[sl1,sl2,sl3,Act.put,sl4,sl5,sl6]
  refine wpAnyL_step (j:=11) (o:=_) (by kernel_rfl) rfl (fun K hK=>?_)
  (go_simp;have HB5:Hid (Below w2.heap.size w2 (w2.alloc (.cells #[.int .i64 am,.bool bn] 208 (0,0))).drew):=Lib.hid ((Below.refl w2.heap.size w2).alloc (Nat.le_refl _) _).drew)
  refine hK _ _ ?_ (fun hHeld=>?_)
  ·((try dsimp only);(exact HLk.out _ (HB5.out)))
  clear hK K
  try simp only[sl1,sl2,sl3,Act.put,sl4,sl5,sl6]
  refine wpAnyL_last (j:=12) (o:=_) (by kernel_rfl) rfl (by rfl) (by kernel_rfl) (fun K hK=>?_)
  go_simp
  (refine hK _ _ ?_;clear hK K)
  try simp only[sl1,sl2,sl3,Act.put,sl4,sl5,sl6]
  clear HLk
  have HAr:=Lib.hid hap0.out
  obtain⟨Y,hY⟩:∃Y,w2.heap.size=Y:=⟨_,rfl⟩
  obtain⟨w4,hw4⟩:∃w4,(w2.alloc (.cells #[.int .i64 am,.bool bn] 208 (0,0))).drew=w4:=⟨_,rfl⟩
  have x4:w4.heap[X]? =some (.cells #[.int .u8 k,.int .i64 n,.string ⟨nm.toArray⟩,.int .u8 t.k,.string ⟨t.nm.toArray⟩,.int .i64 t.n,.slice d.a args.length d.c] 70 (0,0)):=by
   rw[←hw4];exact (HB5.out.block X (Array.getElem?_eq_some_iff.1 HX2.out).1).trans HX2.out
  have y4:w4.heap[Y]? =some (.cells #[.int .i64 am,.bool bn] 208 (0,0)):=by
   rw[←hw4,←hY];exact heap_alloc_new w2 _
  have HS4:Hid (TwS B Wb Mb (it+1) w4):=Lib.hid (by rw[←hw4];exact HS2.out.below HB5.out)
  have HK4:Hid (KpW Wb w w4):=Lib.hid (by rw[←hw4];exact HK2.out.trans (Kept.of_below HB5.out))
  have HForm:=Lib.hid (exForm_arP (n:=n) (nm:=nm) (t:=t) (d:=d) (args:=args) HAr.out)
  have HBad:Hid (∀er,exForm (.mk k n nm t d args)=er→er≠0→∀W,ExEnds Wb Mb R (faultE er) W):=
   Lib.hid fun er h1 h2 W=>ExEnds.bad (by rw[←HR.out,chkEx_form HI.out (by rw[h1];exact h2),h1])
  have HLe:Hid (it+1≤1024):=Lib.hid hle
  have HCN:=Lib.hid (fun W GW=>lname_any nm HIn.out.nm W GW)
  simp only[hY,hw4]
  have q0:=cell_at x4 0
  have q1:=cell_at x4 1
  have q2:=cell_at x4 2
  have q3:=cell_at x4 3
  have q4:=cell_at x4 4
  have q5:=cell_at x4 5
  have q6:=cell_at x4 6
  simp only[sl7,sl8,sl9]at q0 q1 q2 q3 q4 q5 q6
  have y0:=cell_at y4 0
  have y1:=cell_at y4 1
  simp only[sl7,sl8,sl9]at y0 y1
  have HX4:=Lib.hid x4
  clear hY hw4 x4 y4 HB5 HX2 HS2 HK2 hle hB4
  rcases arP_cases k with ⟨hk1,ha1⟩|⟨hk7,ha7⟩|⟨hk6,ha6⟩|⟨hk1,hk7,hk6,ham⟩
  ·subst hk1
   obtain⟨rfl,rfl,rfl⟩:0=am∧false=bn∧true=okb:=by have h:=ha1.symm.trans HAr.out;injection h with h1 h2;injection h2 with h2 h3;exact⟨h1,h2,h3⟩
   clear ha1
   by_cases hal:(0:Int)=args.length
   ·have HAl:=Lib.hid hal
    go_wp2_with fail
    clear hal
    go_at_call 111
    with_reducible refine (want_yes _ _ _).mono ?_
    rintro e w9 ⟨rfl,rfl⟩
    by_cases hnm:nm=[]
    ·have HG0:=Lib.hid (exForm_go (n:=n) (nm:=nm) (t:=t) (d:=d) (args:=args) HAr.out (.inr HAl.out) (.inl rfl) (by rw[hnm];decide) (by simp))
     go_wp2_with fail
     clear hnm
     go_at_call 111
     with_reducible refine (want_yes _ _ _).mono ?_
     rintro e w9 ⟨rfl,rfl⟩
     by_cases ht1:t.k=0
     ·by_cases ht2:t.nm=[]
      ·by_cases ht3:t.n=0
       ·have HOk:Hid (exForm (.mk 1 n nm t d args)=0):=Lib.hid (by rw[HG0.out];first|(rw[if_neg hk6];simp[noTy,ht1,ht2,ht3])|simp[noTy,ht1,ht2,ht3])
        exact qp7br_3
       ·have HW:Hid (exForm (.mk 1 n nm t d args)=1):=Lib.hid (by rw[HG0.out];first|(rw[if_neg hk6];simp[noTy,ht3])|simp[noTy,ht3])
        exact qp7br_2
      ·have HW:Hid (exForm (.mk 1 n nm t d args)=1):=Lib.hid (by rw[HG0.out];first|(rw[if_neg hk6];simp[noTy,ht2])|simp[noTy,ht2])
       exact qp7br_2
     ·have HW:Hid (exForm (.mk 1 n nm t d args)=1):=Lib.hid (by rw[HG0.out];first|(rw[if_neg hk6];simp[noTy,ht1])|simp[noTy,ht1])
      exact qp7br_2
    ·have HW:Hid (exForm (.mk 1 n nm t d args)=1):=Lib.hid (exForm_bad HAr.out (by simp[hnm]))
     exact qp7br_2
   ·have HW:Hid (exForm (.mk 1 n nm t d args)=1):=Lib.hid (exForm_bad HAr.out (by simp[hal]))
    exact qp7br_2
  ·subst hk7
   obtain⟨rfl,rfl,rfl⟩: -1=am∧true=bn∧true=okb:=by have h:=ha7.symm.trans HAr.out;injection h with h1 h2;injection h2 with h2 h3;exact⟨h1,h2,h3⟩
   clear ha7
   by_cases hn:(n==0)=true
   ·have HN:Hid (n=0):=Lib.hid (by simpa using hn)
    go_wp2_with fail
    clear hn
    go_at_call 111
    with_reducible refine (want_yes _ _ _).mono ?_
    rintro e w9 ⟨rfl,rfl⟩
    by_cases hnm:nm=[]
    ·have HW:Hid (exForm (.mk 7 n nm t d args)=1):=Lib.hid (exForm_bad HAr.out (by simp[hnm]))
     exact qp7br_2
    have hnm2:nm.isEmpty=false:=by simpa using hnm
    cases hb:nameB nm with
    |false=>
     rw[hb]at HCN
     have HW:Hid (exForm (.mk 7 n nm t d args)=1):=Lib.hid (exForm_bad HAr.out (by simp[hb]))
     exact qp7br_5
    |true=>
     rw[hb]at HCN
     have HG0:=Lib.hid (exForm_go (n:=n) (nm:=nm) (t:=t) (d:=d) (args:=args) HAr.out (.inl (by decide)) (.inr HN.out) (by simp[hnm]) (by simp[hb]))
     clear hb
     go_wp2_with (go_at_call 97;refine (HCN.out _ HS4.out.g.g).mono ?_;rintro e w9 ⟨rfl,rfl⟩)
     clear hnm hnm2
     go_at_call 111
     with_reducible refine (want_yes _ _ _).mono ?_
     rintro e w9 ⟨rfl,rfl⟩
     by_cases ht1:t.k=0
     ·by_cases ht2:t.nm=[]
      ·by_cases ht3:t.n=0
       ·have HOk:Hid (exForm (.mk 7 n nm t d args)=0):=Lib.hid (by rw[HG0.out];first|(rw[if_neg hk6];simp[noTy,ht1,ht2,ht3])|simp[noTy,ht1,ht2,ht3])
        exact qp7br_3
       ·have HW:Hid (exForm (.mk 7 n nm t d args)=1):=Lib.hid (by rw[HG0.out];first|(rw[if_neg hk6];simp[noTy,ht3])|simp[noTy,ht3])
        exact qp7br_2
      ·have HW:Hid (exForm (.mk 7 n nm t d args)=1):=Lib.hid (by rw[HG0.out];first|(rw[if_neg hk6];simp[noTy,ht2])|simp[noTy,ht2])
       exact qp7br_2
     ·have HW:Hid (exForm (.mk 7 n nm t d args)=1):=Lib.hid (by rw[HG0.out];first|(rw[if_neg hk6];simp[noTy,ht1])|simp[noTy,ht1])
      exact qp7br_2
   ·have hn0:¬n=0:=by simpa using hn
    replace hn:(n==0)=false:=by simpa using hn
    have HW:Hid (exForm (.mk 7 n nm t d args)=1):=Lib.hid (exForm_bad HAr.out (by simp[hn0]))
    exact qp7br_2
  ·subst hk6
   obtain⟨rfl,rfl,rfl⟩:0=am∧false=bn∧true=okb:=by have h:=ha6.symm.trans HAr.out;injection h with h1 h2;injection h2 with h2 h3;exact⟨h1,h2,h3⟩
   clear ha6
   by_cases hal:(0:Int)=args.length
   ·have HAl:=Lib.hid hal
    replace hal:(args.length:Int)=0:=hal.symm
    by_cases hn:(n==0)=true
    ·have HN:Hid (n=0):=Lib.hid (by simpa using hn)
     go_wp2_with fail
     clear hal hn
     go_at_call 111
     with_reducible refine (want_yes _ _ _).mono ?_
     rintro e w9 ⟨rfl,rfl⟩
     by_cases hnm:nm=[]
     ·have HG0:=Lib.hid (exForm_go (n:=n) (nm:=nm) (t:=t) (d:=d) (args:=args) HAr.out (.inr HAl.out) (.inr HN.out) (by rw[hnm];decide) (by simp))
      go_wp2_with fail
      clear hnm
      go_at_call 111
      with_reducible refine (want_yes _ _ _).mono ?_
      rintro e w9 ⟨rfl,rfl⟩
      by_cases ht0:t.k=1
      ·have ht1:(t.k != 1)=false:=by simpa using ht0
       have HW:Hid (exForm (.mk 6 n nm t d args)=1):=Lib.hid (by rw[HG0.out];simp[ht0])
       clear ht0
       exact qp7br_2
      have ht1:(t.k != 1)=true:=by simpa using ht0
      by_cases htf:tyForm t=0
      ·have HOk:Hid (exForm (.mk 6 n nm t d args)=0):=Lib.hid (by rw[HG0.out];simp[ht0,htf])
       have CT:=Lib.hid (wtyp_any (some ⟨Wb,0,none⟩) t HIn.out.t.nm w4 HS4.out.g.g)
       rw[if_pos htf]at CT
       clear htf ht0
       go_wp2_with fail
       clear ht1
       go_at_call 111
       with_reducible refine (want_yes _ _ _).mono ?_
       rintro e w9 ⟨rfl,rfl⟩
       go_wp2_with fail
       refine CT.out.mono ?_
       rintro e w5 ⟨rfl,hb5⟩
       have HS5:=Lib.hid (HS4.out.below hb5)
       have HK5:=Lib.hid (HK4.out.trans (Kept.of_below hb5))
       have x5:=(hb5.block X (Array.getElem?_eq_some_iff.1 HX4.out).1).trans HX4.out
       have r0:=cell_at x5 0
       have r1:=cell_at x5 1
       have r2:=cell_at x5 2
       have r3:=cell_at x5 3
       have r4:=cell_at x5 4
       have r5:=cell_at x5 5
       have r6:=cell_at x5 6
       simp only[sl7,sl8,sl9]at r0 r1 r2 r3 r4 r5 r6
       clear q0 q1 q2 q3 q4 q5 q6 x5 hb5 CT HS4 HK4
       go_wp2_with fail
       go_loopw [89] (fun ii wr=>∃(j itj:Nat),ii=.int .i64 j∧j≤args.length∧Hid (TwS B Wb Mb itj wr)∧Hid (itj≤1024)∧Hid (KpW Wb w wr)∧Hid (chkExs (args.drop j) (deep+1) itj=R)) (fun ii _=>args.length - (intOf ii).toNat)
       case atStart=>exact⟨0,it+1,rfl,Nat.zero_le _,HS5,HLe,HK5,Lib.hid (by rw[List.drop_zero,←HR.out,chkEx_args HI.out HOk.out];rfl)⟩
       case round=>
        obtain⟨j,itj,rfl,hj,hT,hTi,hK,hC⟩:=hrel
        clear HS5 HK5
        exact qp7br_1
      ·have HW:Hid (exForm (.mk 6 n nm t d args)=tyForm t):=Lib.hid (by rw[HG0.out];simp[ht0])
       have CT:=Lib.hid (wtyp_any (some ⟨Wb,0,none⟩) t HIn.out.t.nm w4 HS4.out.g.g)
       rw[if_neg htf]at CT
       have HTf:=Lib.hid htf
       clear htf ht0
       go_wp2_with fail
       go_at_call 111
       with_reducible refine (want_yes _ _ _).mono ?_
       rintro e w9 ⟨rfl,rfl⟩
       go_wp2_with fail
       refine CT.out.mono ?_
       rintro e w5 ⟨rfl,hb5⟩
       exact⟨rfl,HBad.out _ HW.out HTf.out _,HK4.out.trans (Kept.of_below hb5)⟩
     ·have HW:Hid (exForm (.mk 6 n nm t d args)=1):=Lib.hid (exForm_bad HAr.out (by simp[hnm]))
      exact qp7br_2
    ·have hn0:¬n=0:=by simpa using hn
     replace hn:(n==0)=false:=by simpa using hn
     have HW:Hid (exForm (.mk 6 n nm t d args)=1):=Lib.hid (exForm_bad HAr.out (by simp[hn0]))
     exact qp7br_2
   ·have HW:Hid (exForm (.mk 6 n nm t d args)=1):=Lib.hid (exForm_bad HAr.out (by simp[hal]))
    exact qp7br_2
  ·replace ham:¬(am<0):=by rw[HAr.out]at ham;simpa using ham
   replace hk1:¬k=1:=hk1
   replace hk7:¬k=7:=hk7
   replace hk6:¬k=6:=hk6
   have hk1b:(k==1)=false:=by simpa using hk1
   have hk6b:(k==6)=false:=by simpa using hk6
   cases okb with
   |false=>
    have HW:Hid (exForm (.mk k n nm t d args)=1):=Lib.hid (exForm_bad HAr.out (by simp))
    exact qp7br_2
   |true=>
   by_cases hal:am=args.length
   ·have HAl:=Lib.hid hal
    by_cases hn:(n==0)=true
    ·have HN:Hid (n=0):=Lib.hid (by simpa using hn)
     go_wp2_with fail
     clear hal hn
     go_at_call 111
     with_reducible refine (want_yes _ _ _).mono ?_
     rintro e w9 ⟨rfl,rfl⟩
     cases bn with
     |false=>
      by_cases hnm:nm=[]
      ·have HG0:=Lib.hid (exForm_go (n:=n) (nm:=nm) (t:=t) (d:=d) (args:=args) HAr.out (.inr HAl.out) (.inr HN.out) (by rw[hnm];decide) (by simp))
       go_wp2_with fail
       clear hnm
       exact qp7br_4
      ·have HW:Hid (exForm (.mk k n nm t d args)=1):=Lib.hid (exForm_bad HAr.out (by simp[hnm]))
       exact qp7br_2
     |true=>
      by_cases hnm:nm=[]
      ·have HW:Hid (exForm (.mk k n nm t d args)=1):=Lib.hid (exForm_bad HAr.out (by simp[hnm]))
       exact qp7br_2
      have hnm2:nm.isEmpty=false:=by simpa using hnm
      cases hb:nameB nm with
      |false=>
       rw[hb]at HCN
       have HW:Hid (exForm (.mk k n nm t d args)=1):=Lib.hid (exForm_bad HAr.out (by simp[hb]))
       exact qp7br_5
      |true=>
       rw[hb]at HCN
       have HG0:=Lib.hid (exForm_go (n:=n) (nm:=nm) (t:=t) (d:=d) (args:=args) HAr.out (.inr HAl.out) (.inr HN.out) (by simp[hnm]) (by simp[hb]))
       clear hb
       go_wp2_with (go_at_call 97;refine (HCN.out _ HS4.out.g.g).mono ?_;rintro e w9 ⟨rfl,rfl⟩)
       clear hnm hnm2
       exact qp7br_4
    ·have hn0:¬n=0:=by simpa using hn
     replace hn:(n==0)=false:=by simpa using hn
     have HW:Hid (exForm (.mk k n nm t d args)=1):=Lib.hid (exForm_bad HAr.out (by simp[hn0,hk1]))
     exact qp7br_2
   ·have HW:Hid (exForm (.mk k n nm t d args)=1):=Lib.hid (exForm_bad HAr.out (by simp[hal,ham]))
    exact qp7br_2
end Go.Proofs.YtkklogikakcanaaGreatDoor
