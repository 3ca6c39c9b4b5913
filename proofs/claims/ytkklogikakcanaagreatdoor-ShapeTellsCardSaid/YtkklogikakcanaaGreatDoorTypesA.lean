import Derived.Test.YtkklogikakcanaaGreatDoorScopeK
import Derived.Test.YtkklogikakcanaaGreatDoorScopePlain
import Derived.Laws.EntriesVeiled
set_option linter.unusedVariables false
set_option linter.unusedSimpArgs false
open List renaming getElem?_toArray → sl7, getElem?_cons_zero → sl8, getElem?_cons_succ → sl9
namespace Go.Proofs.YtkklogikakcanaaGreatDoor
open Go Go.Maps Go.RowKit
mutual
theorem plSt_items:∀s:St,plSt s≤stCount s
 |.mk k nm t x y bd body ed els=>by
  rw[plSt,stCount]
  have:=plSts_items body
  have:=plSts_items els
  omega
theorem plSts_items:∀l:List St,plSts l≤stCounts l
 |[]=>by rw[plSts,stCounts];exact Nat.le_refl _
 |s::r=>by
  rw[plSts,stCounts]
  have:=plSt_items s
  have:=plSts_items r
  omega
end
theorem sum_le_sum {α:Type} (f g:α→Nat) (h:∀x,f x≤g x):∀l:List α,(l.map f).sum≤(l.map g).sum
 |[]=>by simp
 |x::r=>by simp only[List.map_cons,List.sum_cons];have:=h x;have:=sum_le_sum f g h r;omega
theorem places_good {p:Pr} {a:At} (h:chkPr p=.on a):placesOf p≤1000000∧(∀f∈p.fs,stsGood f.body)∧∀t∈p.ts,stsGood t.l:=by
 have g:=chkPr_on h
 refine⟨?_,fun f hf=>?_,fun t ht=>?_⟩
 ·have h1:=g.items
  unfold itemsOf at h1
  have h2:=sum_le_sum (fun f:Fu=>plSts f.body) (fun f=>stCounts f.body) (fun f=>plSts_items f.body) p.fs
  have h3:=sum_le_sum (fun t:Th=>plSts t.l) (fun t=>stCounts t.l) (fun t=>plSts_items t.l) p.ts
  have:=g.recs.1
  have:=g.shs.1
  have:=g.funs.1
  have:=g.thrs.1
  unfold placesOf
  omega
 ·obtain⟨-,-,-,a,a',h⟩:=g.funs.2 f hf
  exact chkSts_good _ _ _ _ h
 ·obtain⟨a,a',h⟩:=g.thrs.2 t ht
  exact chkSts_good _ _ _ _ h
theorem fault_on {p:Pr} (h:(faultOf p).2=0):∃a,chkPr p=.on a:=by
 unfold faultOf at h
 cases hc:chkPr p with
 |on a=>exact⟨a,rfl⟩
 |bad q e=>rw[hc]at h;exact absurd h (chkPr_ne p q e hc)
set_option maxHeartbeats 4000000 in
set_option maxRecDepth 100000 in
theorem typesCheck_any (B:Nat) (p:Pr) (w:World) (G:GlB B w) (N:NumG B w) (hI:PrIn w B p):
  Calls Tryz.prog 10 #[p.val] w fun e w'=>e=.returned (.tuple #[.int .i64 (typesCheck p).1,.int .i64 (typesCheck p).2])∧Below w.heap.size w w':=by
 obtain⟨X,hX⟩:∃X,w.heap.size=X:=⟨_,rfl⟩
 obtain⟨w1,hw1⟩:∃w1,w.alloc (prObj p)=w1:=⟨_,rfl⟩
 have hb1:Below w.heap.size w w1:=by rw[←hw1];exact (Below.refl _ _).alloc (Nat.le_refl _) _
 have x1:w1.heap[X]? =some (prObj p):=by rw[←hw1,←hX];exact heap_alloc_new w _
 have C:=Lib.hid (tfault_any B p w1 (G.below (hb1.mono G.le)) (hI.keep (hb1.mono G.le) (Nat.le_refl B)))
 have HB1:=Lib.hid hb1
 have HRow:Hid (∀W,Below w1.heap.size w1 W→W.heap[X]? =some (prObj p)):=Lib.hid fun W hb=>(hb.block X (lt_blk x1)).trans x1
 have HC2:Hid (∀W,Below w1.heap.size w1 W→(faultOf p).2=0→Calls Tryz.prog 39 #[p.val] W fun e w'=>e=.returned (.tuple #[.int .i64 (scFault p).1,.int .i64 (scFault p).2])∧Below W.heap.size W w'):=Lib.hid fun W hb h0=>by
  obtain⟨a,ha⟩:=fault_on h0
  obtain⟨h1,h2,h3⟩:=places_good ha
  have hbw:=(hb1.trans (hb.mono hb1.size)).mono G.le
  exact scopeFault_any B p W (hI.keep hbw (Nat.le_refl B)) (Nat.le_trans G.le (hb1.trans (hb.mono hb1.size)).size) (N.keep hbw) h2 h3 h1
 have HN:=Lib.hid (And.intro hX hw1)
 have q0:=cell_at x1 0
 have q1:=cell_at x1 1
 have q2:=cell_at x1 2
 have q3:=cell_at x1 3
 simp only[sl7,sl8,sl9]at q0 q1 q2 q3
 obtain⟨F,hF⟩:∃F,typesCheck p=F:=⟨_,rfl⟩
 rw[hF]
 have HF:=Lib.hid hF
 clear hX hw1 hb1 x1 G N hI hF
 by_cases h0:(faultOf p).2=0
 ·have n2:((faultOf p).2==0)=true:=by simpa using h0
  obtain rfl:scFault p=F:=by have h:=HF.out;unfold typesCheck at h;rw[if_neg (fun hn=>hn h0)]at h;exact h
  have HC:=Lib.hid (fun W hb=>HC2.out W hb h0)
  generalize faultOf p=fo at*
  generalize scFault p=so at*
  clear HF HC2 h0
  go_enter Tryz.func10,Tryz.ntmps10
  go_wp2_with fail
  simp only[HN.out.1,HN.out.2]
  refine C.out.mono ?_
  rintro e w2 ⟨rfl,hb2⟩
  have HB2:=Lib.hid hb2
  have row:=HRow.out _ hb2
  have r0:=cell_at row 0
  have r1:=cell_at row 1
  have r2:=cell_at row 2
  have r3:=cell_at row 3
  simp only[sl7,sl8,sl9]at r0 r1 r2 r3
  clear row hb2 q0 q1 q2 q3 C
  go_wp2_with fail
  refine (HC.out _ HB2.out).mono ?_
  rintro e w3 ⟨rfl,hb3⟩
  have HB3:=Lib.hid (HB1.out.trans ((HB2.out.trans (hb3.mono HB2.out.size)).mono HB1.out.size))
  clear hb3
  go_wp2_with fail
  refine bodyPost_ret (v:=.tuple #[.int .i64 so.1,.int .i64 so.2]) (by simp[results,Tryz.results10,go_sem]) rfl ?_
  exact⟨rfl,HB3.out⟩
 ·have n2:((faultOf p).2==0)=false:=by simpa using h0
  obtain rfl:(0,1)=F:=by have h:=HF.out;unfold typesCheck at h;rw[if_pos h0]at h;exact h
  generalize faultOf p=fo at*
  clear HF HC2 h0
  go_enter Tryz.func10,Tryz.ntmps10
  go_wp2_with fail
  simp only[HN.out.1,HN.out.2]
  refine C.out.mono ?_
  rintro e w2 ⟨rfl,hb2⟩
  have HB2:=Lib.hid (HB1.out.trans (hb2.mono HB1.out.size))
  clear hb2 q0 q1 q2 q3 C
  go_wp2_with fail
  refine bodyPost_ret (v:=.tuple #[.int .i64 0,.int .i64 1]) (by simp[results,Tryz.results10,go_sem]) rfl ?_
  exact⟨rfl,HB2.out⟩
end Go.Proofs.YtkklogikakcanaaGreatDoor
namespace Go.Proofs.YtkklogikakcanaaGreatDoor
open Go Go.Maps Go.RowKit
structure EaAt (Fc Lc Nb:Nat) (fn:Fn) (w:World):Prop where
 f:w.heap[Fc]? =some (.cells #[.func fn #[] #[.pointer (some ⟨Nb,0,none⟩)]] 73 (0,0))
 l:w.heap[Lc]? =some (.cells #[.func (.func 81) #[] #[.pointer (some ⟨Fc,0,none⟩),.pointer (some ⟨Lc,0,none⟩)]] 132 (0,0))
theorem EaAt.kept {Fc Lc Nb:Nat} {fn:Fn} {w w':World} (h:EaAt Fc Lc Nb fn w) (hk:Kq Nb w w') (h1:Fc≠Nb) (h2:Lc≠Nb):EaAt Fc Lc Nb fn w':=
 ⟨(hk.block Fc (lt_blk h.f) h1).trans h.f,(hk.block Lc (lt_blk h.l) h2).trans h.l⟩
set_option maxHeartbeats 2000000 in
set_option maxRecDepth 100000 in
theorem placesOne_any (Nb:Nat) (n:Int) (k:Int) (nm:List UInt8) (t:Ty) (x y:Ex) (A:Option Addr) (l c:Nat) (E:Option Addr) (m e:Nat) (w:World) (h:PlAt Nb n w) (h1:0≤n) (h2:n≤1000000):
  Calls Tryz.prog 41 #[.agg (stCells k nm t x y A l c E m e).toArray,.pointer (some ⟨Nb,0,none⟩)] w fun e w'=>e=.returned (.tuple #[])∧PlAt Nb (n+1) w'∧Kq Nb w w':=by
 obtain⟨o,ho⟩:∃o,stObj k nm t x y A l c E m e=o:=⟨_,rfl⟩
 have hb:Below w.heap.size w (w.alloc o):=(Below.refl _ _).alloc (Nat.le_refl _) _
 have p1:PlAt Nb n (w.alloc o):=(hb.block Nb h.lt).trans h
 have c0:=cell_at p1 0
 have f0:=frz_at p1 0
 simp only[sl7,sl8]at c0
 have HZ:Hid (PlAt Nb (n+1) ((w.alloc o).setCell ⟨Nb,0,none⟩ (.int .i64 (n+1)))∧Kq Nb w ((w.alloc o).setCell ⟨Nb,0,none⟩ (.int .i64 (n+1)))):=
  Lib.hid ⟨p1.set (n+1),Kept.setCell (S:=fun k=>k=Nb) (Kept.of_below hb) (p:=⟨Nb,0,none⟩) (Or.inl rfl) _⟩
 clear h hb p1
 go_enter Tryz.func41,Tryz.ntmps41
 go_wp2_with fail
 go_end0
 exact⟨rfl,HZ.out.1,HZ.out.2⟩
set_option maxHeartbeats 40000000 in
set_option maxRecDepth 100000 in
theorem eachList_any (B Fc Lc Nb:Nat) (hF:Fc≠Nb) (hL:Lc≠Nb) (hBN:B≤Nb):∀(sz:Nat) (l:List St),plSts l≤sz→∀(d:Hd) (n:Int) (w:World),EaAt Fc Lc Nb (.func 41) w→PlAt Nb n w→StsIn w B d l→B≤w.heap.size→0≤n→n+(plSts l:Nat)≤1000000→
  Calls Tryz.prog 81 #[.slice d.a l.length d.c,.pointer (some ⟨Fc,0,none⟩),.pointer (some ⟨Lc,0,none⟩)] w
   fun e w'=>e=.returned (.tuple #[])∧PlAt Nb (n+(plSts l:Nat)) w'∧Kq Nb w w':=by
 intro sz
 induction sz using Nat.strongRecOn with
 |ind sz ih=>
 intro l hsz0 d n w hE hP hI hBw hn1 hn2
 have HI:=Lib.hid hI
 have HBl:Hid (∀W,Kq Nb w W→Below B w W):=Lib.hid fun W h=>Kept.below h hBw (fun k e=>by rw[e];exact hBN)
 have HE:=Lib.hid hE
 have HEk:Hid (∀W,Kq Nb w W→EaAt Fc Lc Nb (.func 41) W):=Lib.hid fun W h=>hE.kept h hF hL
 have HP0:Hid (PlAt Nb n w):=Lib.hid hP
 have p3:l.length≤140737488355328:=hI.len
 have HBN:=Lib.hid (And.intro hF (And.intro hL (And.intro hBN hBw)))
 clear hI hE hP hF hL hBN hBw
 go_enter Tryz.func81,Tryz.ntmps81
 go_wp2_with fail
 go_loopw [8] (fun ii wr=>∃(j:Nat) (m:Int),ii=.int .i64 j∧j≤l.length∧Hid (PlAt Nb m wr)∧Hid (0≤m∧m+(plSts (l.drop j):Nat)=n+(plSts l:Nat))∧Hid (Kq Nb w wr)) (fun ii _=>l.length - (intOf ii).toNat)
 case atStart=>exact⟨0,n,rfl,Nat.zero_le _,HP0,Lib.hid ⟨hn1,by rw[List.drop_zero]⟩,Lib.hid (Kept.refl _ _)⟩
 case round=>
  obtain⟨j,m,rfl,hj,hP,hM,hK⟩:=hrel
  clear HP0
  have p2:(0:Int)≤(j:Int):=Int.natCast_nonneg _
  by_cases hlt:j<l.length
  ·obtain⟨s,hs⟩:∃s,l[j]? =some s:=⟨_,List.getElem?_eq_getElem hlt⟩
   have hdrop:l.drop j=s::l.drop (j+1):=by
    have:=List.drop_eq_getElem_cons hlt
    rw[List.getElem?_eq_getElem hlt]at hs
    injection hs with hs
    rw[this,hs]
   have hIr:=HI.out.keep (HBl.out _ hK.out) (Nat.le_refl B)
   obtain⟨rb,ro,hda,hrb,hrow⟩:=hIr.row (by intro h0;rw[h0]at hlt;simp at hlt)
   have hsa:=hrow j s hs
   have hsI:=Lib.hid (hIr.sub s (List.mem_of_getElem? hs))
   have hm:=hM.out
   rw[hdrop,plSts]at hm
   have hle:plSts (l.drop (j+1))+plSt s≤plSts l:=by
    have h:∀(q:Nat) (l:List St),plSts (l.drop q)≤plSts l:=fun q l=>by
     induction l generalizing q with
     |nil=>simp
     |cons x r ih=>cases q with
      |zero=>simp
      |succ q=>simp only[List.drop_succ_cons];have:=ih q;rw[plSts];omega
    have:=h j l
    rw[hdrop,plSts]at this
    omega
   obtain⟨k,nm,t,x,y,bd,body,ed,els⟩:=s
   rw[plSt]at hm hle
   have HM1:Hid (0≤m∧m+1+(plSts body:Nat)+(plSts els:Nat)+(plSts (l.drop (j+1)):Nat)=n+(plSts l:Nat)):=Lib.hid ⟨hm.1,by have:=hm.2;push_cast at this ⊢;omega⟩
   have hz:=hsa.cells
   clear hsa
   dsimp only[St.k,St.nm,St.t,St.x,St.y,St.bd,St.body,St.ed,St.els]at hz
   have hsb:plSts body<plSts l:=by omega
   have hse:plSts els<plSts l:=by omega
   obtain⟨X6,hX6⟩:∃X6,wr.heap.size=X6:=⟨_,rfl⟩
   obtain⟨w6,hw6⟩:∃w6,wr.alloc (stObj k nm t x y bd.a body.length bd.c ed.a els.length ed.c)=w6:=⟨_,rfl⟩
   have hb6:Below wr.heap.size wr w6:=by rw[←hw6];exact (Below.refl _ _).alloc (Nat.le_refl _) _
   have x6:w6.heap[X6]? =some (stObj k nm t x y bd.a body.length bd.c ed.a els.length ed.c):=by rw[←hw6,←hX6];exact heap_alloc_new wr _
   have hlw:=hP.out.lt
   have HP6:Hid (PlAt Nb m w6):=Lib.hid ((hb6.block Nb hlw).trans hP.out)
   have HRow:Hid (∀W,Kq Nb w6 W→W.heap[X6]? =some (stObj k nm t x y bd.a body.length bd.c ed.a els.length ed.c)):=
    Lib.hid fun W hk=>(hk.block X6 (lt_blk x6) (by omega)).trans x6
   have HKu:Hid (∀W,Kq Nb w6 W→Kq Nb w W):=Lib.hid fun W hk=>(hK.out.trans (Kept.of_below hb6)).trans hk
   have HKr:Hid (∀W,Kq Nb w6 W→Below B wr W):=Lib.hid fun W hk=>Kept.below ((Kept.of_below hb6).trans hk) (Nat.le_trans HBN.out.2.2.2 hK.out.size) (fun k e=>by rw[e];exact HBN.out.2.2.1)
   have e6:=HEk.out _ (HKu.out _ (Kept.refl _ _))
   have f6:=cell_at e6.f 0
   have z6:=row_cells (vs:=stCells k nm t x y bd.a body.length bd.c ed.a els.length ed.c) (w:=w6) x6
   simp only[sl7,sl8]at f6
   rw[←hw6]at f6 z6
   rw[←hX6]at z6
   have HNm:=Lib.hid (And.intro hX6 hw6)
   have p1:(j:Int)<(l.length:Int):=by omega
   clear hb6 x6 hrow hIr hdrop hs hX6 hw6 hlw hP hK hM hm hle e6
   rw[hda]
   go_wp2_with (first|(refine wpList_load_list rfl 72 _ rfl _ rfl (stCells k nm t x y bd.a body.length bd.c ed.a els.length ed.c) _ hz Tryz.underlying72 rfl (stSize ..) ?_)|(refine wpList_store_row rfl 72 _ _ rfl wr.heap.size (stCells k nm t x y bd.a body.length bd.c ed.a els.length ed.c).toArray rfl rfl 72 _ (heap_alloc_new wr _) (stSizeA ..) rfl (stOne ..) ?_;rw[alloc_setRow _ _ _ _ _ rfl])|(refine wpList_load_list rfl 72 _ rfl _ rfl (stCells k nm t x y bd.a body.length bd.c ed.a els.length ed.c) _ z6 Tryz.underlying72 rfl (stSize ..) ?_))
   simp only[HNm.out.1,HNm.out.2]
   clear f6 z6 hz
   refine (placesOne_any Nb m k nm t x y bd.a body.length bd.c ed.a els.length ed.c w6 HP6.out (by have:=HM1.out;omega) (by have:=HM1.out;omega)).mono ?_
   rintro e w7 ⟨rfl,hp7,hk7⟩
   have HP7:=Lib.hid hp7
   have HK7:=Lib.hid hk7
   have e7:=HEk.out _ (HKu.out _ hk7)
   have l7:=cell_at e7.l 0
   simp only[sl7,sl8]at l7
   clear hp7 hk7 e7 HP6
   have row:=HRow.out _ HK7.out
   have r19:=cell_at row 19
   have r20:=cell_at row 20
   clear row
   simp only[sl7,sl8,sl9]at r19 r20
   go_wp2_with fail
   have C1:=ih (plSts body) (by omega) body (Nat.le_refl _) bd (m+1) w7 (HEk.out _ (HKu.out _ HK7.out)) HP7.out (hsI.out.body.keep (HKr.out _ HK7.out) (Nat.le_refl B)) (by have:=HBN.out.2.2.2;have:=(HKu.out _ HK7.out).size;omega) (by have:=HM1.out;omega) (by have:=HM1.out;omega)
   refine C1.mono ?_
   rintro e w8 ⟨rfl,hp8,hk8⟩
   have HP8:=Lib.hid hp8
   have HK8:=Lib.hid (HK7.out.trans hk8)
   have e8:=HEk.out _ (HKu.out _ HK8.out)
   have l8:=cell_at e8.l 0
   simp only[sl7,sl8]at l8
   clear hp8 hk8 e8 l7 r19 r20 C1 HP7 HK7
   have row:=HRow.out _ HK8.out
   have r19:=cell_at row 19
   have r20:=cell_at row 20
   clear row
   simp only[sl7,sl8,sl9]at r19 r20
   go_wp2_with fail
   have C2:=ih (plSts els) (by omega) els (Nat.le_refl _) ed (m+1+(plSts body:Nat)) w8 (HEk.out _ (HKu.out _ HK8.out)) HP8.out (hsI.out.els.keep (HKr.out _ HK8.out) (Nat.le_refl B)) (by have:=HBN.out.2.2.2;have:=(HKu.out _ HK8.out).size;omega) (by have:=HM1.out;omega) (by have:=HM1.out;omega)
   refine C2.mono ?_
   rintro e w9 ⟨rfl,hp9,hk9⟩
   have HP9:Hid (PlAt Nb (m+1+(plSts body:Nat)+(plSts els:Nat)) w9):=Lib.hid hp9
   have HK9:=Lib.hid (HKu.out _ (HK8.out.trans hk9))
   have HM9:Hid (0≤m+1+(plSts body:Nat)+(plSts els:Nat)∧m+1+(plSts body:Nat)+(plSts els:Nat)+(plSts (l.drop (j+1)):Nat)=n+(plSts l:Nat)):=Lib.hid ⟨by have:=HM1.out;omega,HM1.out.2⟩
   clear hp9 hk9 l8 r19 r20 C2 HP8 HK8
   go_wp2_with fail
   go_roundw
   case rel=>exact⟨j+1,_,by go_num,by omega,HP9,HM9,HK9⟩
   case measure=>simp[intOf];omega
  ·obtain rfl:j=l.length:=by omega
   have HF:Hid (PlAt Nb (n+(plSts l:Nat)) wr∧Kq Nb w wr):=Lib.hid (by
    have h:=hM.out.2
    rw[List.drop_length,plSts]at h
    have e:m=n+(plSts l:Nat):=by omega
    rw[←e]
    exact⟨hP.out,hK.out⟩)
   clear hP hM hK
   go_wp2_with fail
   go_end0
   exact⟨rfl,HF.out⟩
end Go.Proofs.YtkklogikakcanaaGreatDoor
namespace Go.Proofs.YtkklogikakcanaaGreatDoor
open Go Go.Maps Go.RowKit
def fuS (l:List Fu):Nat:=(l.map fun f=>plSts f.body).sum
def thS (l:List Th):Nat:=(l.map fun t=>plSts t.l).sum
theorem fuS_cons (f:Fu) (l:List Fu):fuS (f::l)=plSts f.body+fuS l:=by unfold fuS;simp
theorem thS_cons (f:Th) (l:List Th):thS (f::l)=plSts f.l+thS l:=by unfold thS;simp
set_option maxHeartbeats 40000000 in
set_option maxRecDepth 100000 in
theorem each_any (B Nb:Nat) (p:Pr) (n:Int) (w:World) (hP:PlAt Nb n w) (hI:PrIn w B p) (hBN:B≤Nb) (h1:0≤n) (h2:n+(fuS p.fs:Nat)+(thS p.ts:Nat)≤1000000):
  Calls Tryz.prog 40 #[p.val,.func (.func 41) #[] #[.pointer (some ⟨Nb,0,none⟩)]] w fun e w'=>e=.returned (.tuple #[])∧PlAt Nb (n+(fuS p.fs:Nat)+(thS p.ts:Nat)) w'∧Kq Nb w w':=by
 have hmf:∀(fn:Fn) (first cap:Array Value) (w:World),(Instr.makeFunc fn first cap).run Tryz.prog w=.ok (.func fn first cap) w:=fun _ _ _ _=>rfl
 have hNl:=hP.lt
 obtain⟨X,hX⟩:∃X,w.heap.size=X:=⟨_,rfl⟩
 obtain⟨w1,hw1⟩:∃w1,w.alloc (prObj p)=w1:=⟨_,rfl⟩
 obtain⟨Fc,hFc⟩:∃Fc,w1.heap.size=Fc:=⟨_,rfl⟩
 obtain⟨w2,hw2⟩:∃w2,w1.alloc (.cells #[.func (.func 41) #[] #[.pointer (some ⟨Nb,0,none⟩)]] 73 (0,0))=w2:=⟨_,rfl⟩
 obtain⟨Lc,hLc⟩:∃Lc,w2.heap.size=Lc:=⟨_,rfl⟩
 obtain⟨w3,hw3⟩:∃w3,w2.alloc (.cells #[.func (.func 81) #[] #[.pointer (some ⟨Fc,0,none⟩),.pointer (some ⟨Lc,0,none⟩)]] 132 (0,0))=w3:=⟨_,rfl⟩
 have hb1:Below w.heap.size w w1:=by rw[←hw1];exact (Below.refl _ _).alloc (Nat.le_refl _) _
 have hb2:Below w1.heap.size w1 w2:=by rw[←hw2];exact (Below.refl _ _).alloc (Nat.le_refl _) _
 have hb3:Below w2.heap.size w2 w3:=by rw[←hw3];exact (Below.refl _ _).alloc (Nat.le_refl _) _
 have s1:w1.heap.size=X+1:=by rw[←hw1,World.size_alloc,hX]
 have s2:w2.heap.size=Fc+1:=by rw[←hw2,World.size_alloc,hFc]
 have s3:w3.heap.size=Lc+1:=by rw[←hw3,World.size_alloc,hLc]
 have b13:Below w1.heap.size w1 w3:=hb2.trans (hb3.mono hb2.size)
 have b03:Below w.heap.size w w3:=hb1.trans (b13.mono hb1.size)
 have x3:w3.heap[X]? =some (prObj p):=(b13.block X (by omega)).trans (by rw[←hw1,←hX];exact heap_alloc_new w _)
 have e3:EaAt Fc Lc Nb (.func 41) w3:=⟨(hb3.block Fc (by omega)).trans (by rw[←hw2,←hFc];exact heap_alloc_new w1 _),by rw[←hw3,←hLc];exact heap_alloc_new w2 _⟩
 have HP3:Hid (PlAt Nb n w3):=Lib.hid ((b03.block Nb hNl).trans hP)
 have HD:Hid (Fc≠Nb∧Lc≠Nb∧B≤Nb∧Nb<w3.heap.size):=Lib.hid ⟨by omega,by omega,hBN,by omega⟩
 have HE:Hid (∀W,Kq Nb w3 W→EaAt Fc Lc Nb (.func 41) W∧W.heap[X]? =some (prObj p)∧B≤W.heap.size):=Lib.hid fun W hk=>⟨e3.kept hk (by omega) (by omega),(hk.block X (by omega) (by omega)).trans x3,by have:=hk.size;omega⟩
 have HI:Hid (∀W,Kq Nb w3 W→PrIn W B p):=Lib.hid fun W hk=>hI.keep ((b03.mono (by omega)).trans (Kept.below hk (by omega) (fun k e=>by rw[e];exact hBN))) (Nat.le_refl B)
 have HK:Hid (∀W,Kq Nb w3 W→Kq Nb w W):=Lib.hid fun W hk=>(Kept.of_below b03).trans hk
 have hFl:p.fs.length≤140737488355328:=hI.flen
 have hTl:p.ts.length≤140737488355328:=hI.tlen
 have HN:Hid (w.heap.size=X∧X+1=Fc∧Fc+1=Lc∧((w.alloc (prObj p)).alloc (.cells #[.func (.func 41) #[] #[.pointer (some ⟨Nb,0,none⟩)]] 73 (0,0))).alloc (.cells #[.func (.func 81) #[] #[.pointer (some ⟨Fc,0,none⟩),.pointer (some ⟨Lc,0,none⟩)]] 132 (0,0))=w3):=Lib.hid ⟨hX,by omega,by omega,by rw[hw1,hw2,hw3]⟩
 have q2:=cell_at x3 2
 simp only[sl7,sl8,sl9]at q2
 clear hX hw1 hFc hw2 hLc hw3 hb1 hb2 hb3 s1 s2 s3 b13 b03 x3 e3 hP hI hBN hNl
 go_enter Tryz.func40,Tryz.ntmps40
 go_wp2_with fail
 simp only[HN.out.1,HN.out.2.1,HN.out.2.2.1,HN.out.2.2.2]
 clear q2
 go_loopw [13] (fun ii wr=>∃(j:Nat) (m:Int),ii=.int .i64 j∧j≤p.fs.length∧Hid (PlAt Nb m wr)∧Hid (0≤m∧m+(fuS (p.fs.drop j):Nat)=n+(fuS p.fs:Nat))∧Hid (Kq Nb w3 wr)) (fun ii _=>p.fs.length - (intOf ii).toNat)
 case atStart=>exact⟨0,n,rfl,Nat.zero_le _,HP3,Lib.hid ⟨h1,by rw[List.drop_zero]⟩,Lib.hid (Kept.refl _ _)⟩
 case round=>
  obtain⟨j,m,rfl,hj,hP,hM,hK⟩:=hrel
  clear HP3
  have p2:(0:Int)≤(j:Int):=Int.natCast_nonneg _
  by_cases hlt:j<p.fs.length
  ·obtain⟨s,hs⟩:∃s,p.fs[j]? =some s:=⟨_,List.getElem?_eq_getElem hlt⟩
   have hdrop:p.fs.drop j=s::p.fs.drop (j+1):=by
    have:=List.drop_eq_getElem_cons hlt
    rw[List.getElem?_eq_getElem hlt]at hs
    injection hs with hs
    rw[this,hs]
   have hIr:=HI.out _ hK.out
   obtain⟨rb,ro,hda,hrb,hrow⟩:=hIr.frow (by intro h0;rw[h0]at hlt;simp at hlt)
   obtain⟨z0,z1,z2,z3,z4,z5⟩:=hrow j s hs
   have HMem:=Lib.hid (List.mem_of_getElem? hs)
   have hm:=hM.out
   rw[hdrop,fuS_cons]at hm
   obtain⟨fnm,pd,ps,ft,bd,body⟩:=s
   dsimp only at z0 z1 z2 z3 z4 z5 hm
   have HM1:Hid (0≤m∧m+(plSts body:Nat)+(fuS (p.fs.drop (j+1)):Nat)=n+(fuS p.fs:Nat)):=Lib.hid ⟨hm.1,by have:=hm.2;push_cast at this ⊢;omega⟩
   obtain⟨w6,hw6⟩:∃w6,wr.alloc (.cells #[.string ⟨fnm.toArray⟩,.slice pd.a ps.length pd.c,.int .u8 ft.k,.string ⟨ft.nm.toArray⟩,.int .i64 ft.n,.slice bd.a body.length bd.c] 53 (0,0))=w6:=⟨_,rfl⟩
   have hb6:Below wr.heap.size wr w6:=by rw[←hw6];exact (Below.refl _ _).alloc (Nat.le_refl _) _
   have HK6:Hid (Kq Nb w3 w6):=Lib.hid (hK.out.trans (Kept.of_below hb6))
   have HP6:Hid (PlAt Nb m w6):=Lib.hid ((hb6.block Nb hP.out.lt).trans hP.out)
   have l6:=cell_at (HE.out _ HK6.out).1.l 0
   simp only[sl7,sl8]at l6
   rw[←hw6]at l6
   have p1:(j:Int)<(p.fs.length:Int):=by omega
   have HN6:=Lib.hid hw6
   clear hb6 hrow hIr hdrop hs hP hK hM hm hw6
   rw[hda]
   go_wp2_with fail
   simp only[HN6.out]
   have C:=eachList_any B _ _ Nb (by have:=HE.out _ HK6.out;exact fun e=>by have h:=this.1.f;rw[e,HP6.out]at h;simp at h) (by have:=HE.out _ HK6.out;exact fun e=>by have h:=this.1.l;rw[e,HP6.out]at h;simp at h) HD.out.2.2.1 _ body (Nat.le_refl _) bd m w6 (HE.out _ HK6.out).1 HP6.out ((HI.out _ HK6.out).fsub _ HMem.out).body (HE.out _ HK6.out).2.2 HM1.out.1 (by have:=HM1.out;omega)
   refine C.mono ?_
   rintro e w7 ⟨rfl,hp7,hk7⟩
   have HP7:=Lib.hid hp7
   have HK7:=Lib.hid (HK6.out.trans hk7)
   have HM7:Hid (0≤m+(plSts body:Nat)∧m+(plSts body:Nat)+(fuS (p.fs.drop (j+1)):Nat)=n+(fuS p.fs:Nat)):=Lib.hid ⟨by have:=HM1.out;omega,HM1.out.2⟩
   clear hp7 hk7 C l6 z0 z1 z2 z3 z4 z5 HP6
   go_wp2_with fail
   go_roundw
   case rel=>exact⟨j+1,_,by go_num,by omega,HP7,HM7,HK7⟩
   case measure=>simp[intOf];omega
  ·obtain rfl:j=p.fs.length:=by omega
   have HPn:=hP
   have HKn:=hK
   have HMn:Hid (0≤m∧m+(thS (p.ts.drop 0):Nat)=n+(fuS p.fs:Nat)+(thS p.ts:Nat)):=Lib.hid (by
    have h:=hM.out
    rw[List.drop_length]at h
    rw[List.drop_zero]
    have e:fuS ([]:List Fu)=0:=rfl
    omega)
   have q3:=cell_at (HE.out _ hK.out).2.1 3
   simp only[sl7,sl8,sl9]at q3
   clear hP hM hK
   go_wp2_with fail
   clear q3
   go_loopw [25] (fun ii wr=>∃(j:Nat) (m:Int),ii=.int .i64 j∧j≤p.ts.length∧Hid (PlAt Nb m wr)∧Hid (0≤m∧m+(thS (p.ts.drop j):Nat)=n+(fuS p.fs:Nat)+(thS p.ts:Nat))∧Hid (Kq Nb w3 wr)) (fun ii _=>p.ts.length - (intOf ii).toNat)
   case atStart=>exact⟨0,m,rfl,Nat.zero_le _,HPn,HMn,HKn⟩
   case round=>
    obtain⟨j,m,rfl,hj,hP,hM,hK⟩:=hrel
    clear HPn HMn HKn
    have p2:(0:Int)≤(j:Int):=Int.natCast_nonneg _
    by_cases hlt:j<p.ts.length
    ·obtain⟨s,hs⟩:∃s,p.ts[j]? =some s:=⟨_,List.getElem?_eq_getElem hlt⟩
     have hdrop:p.ts.drop j=s::p.ts.drop (j+1):=by
      have:=List.drop_eq_getElem_cons hlt
      rw[List.getElem?_eq_getElem hlt]at hs
      injection hs with hs
      rw[this,hs]
     have hIr:=HI.out _ hK.out
     obtain⟨rb,ro,hda,hrb,hrow⟩:=hIr.trow (by intro h0;rw[h0]at hlt;simp at hlt)
     obtain⟨z0⟩:=hrow j s hs
     have HMem:=Lib.hid (List.mem_of_getElem? hs)
     have hm:=hM.out
     rw[hdrop,thS_cons]at hm
     obtain⟨td,tl⟩:=s
     dsimp only at z0 hm
     rw[Nat.mul_one]at z0
     have HM1:Hid (0≤m∧m+(plSts tl:Nat)+(thS (p.ts.drop (j+1)):Nat)=n+(fuS p.fs:Nat)+(thS p.ts:Nat)):=Lib.hid ⟨hm.1,by have:=hm.2;push_cast at this ⊢;omega⟩
     have HK6:=hK
     have HP6:=hP
     have l6:=cell_at (HE.out _ HK6.out).1.l 0
     simp only[sl7,sl8]at l6
     have p1:(j:Int)<(p.ts.length:Int):=by omega
     clear hrow hIr hdrop hs hP hK hM hm
     rw[hda]
     go_wp2_with fail
     have C:=eachList_any B _ _ Nb (by have:=HE.out _ HK6.out;exact fun e=>by have h:=this.1.f;rw[e,HP6.out]at h;simp at h) (by have:=HE.out _ HK6.out;exact fun e=>by have h:=this.1.l;rw[e,HP6.out]at h;simp at h) HD.out.2.2.1 _ tl (Nat.le_refl _) td m wr (HE.out _ HK6.out).1 HP6.out ((HI.out _ HK6.out).tsub _ HMem.out) (HE.out _ HK6.out).2.2 HM1.out.1 (by have:=HM1.out;omega)
     refine C.mono ?_
     rintro e w7 ⟨rfl,hp7,hk7⟩
     have HP7:=Lib.hid hp7
     have HK7:=Lib.hid (HK6.out.trans hk7)
     have HM7:Hid (0≤m+(plSts tl:Nat)∧m+(plSts tl:Nat)+(thS (p.ts.drop (j+1)):Nat)=n+(fuS p.fs:Nat)+(thS p.ts:Nat)):=Lib.hid ⟨by have:=HM1.out;omega,HM1.out.2⟩
     clear hp7 hk7 C l6 z0 HP6
     go_wp2_with fail
     go_roundw
     case rel=>exact⟨j+1,_,by go_num,by omega,HP7,HM7,HK7⟩
     case measure=>simp[intOf];omega
    ·obtain rfl:j=p.ts.length:=by omega
     have HF:Hid (PlAt Nb (n+(fuS p.fs:Nat)+(thS p.ts:Nat)) wr∧Kq Nb w wr):=Lib.hid (by
      have h:=hM.out.2
      rw[List.drop_length]at h
      have e0:thS ([]:List Th)=0:=rfl
      have e:m=n+(fuS p.fs:Nat)+(thS p.ts:Nat):=by omega
      rw[←e]
      exact⟨hP.out,HK.out _ hK.out⟩)
     clear hP hM hK
     go_wp2_with fail
     go_end0
     exact⟨rfl,HF.out⟩
set_option maxHeartbeats 4000000 in
set_option maxRecDepth 100000 in
theorem places_any (B:Nat) (p:Pr) (w:World) (hI:PrIn w B p) (hB:B≤w.heap.size) (h2:placesOf p≤1000000):
  Calls Tryz.prog 11 #[p.val] w fun e w'=>e=.returned (.int .i64 (placesOf p:Nat))∧Below w.heap.size w w':=by
 have hmf:∀(fn:Fn) (first cap:Array Value) (w:World),(Instr.makeFunc fn first cap).run Tryz.prog w=.ok (.func fn first cap) w:=fun _ _ _ _=>rfl
 have hpl:placesOf p=p.rs.length+p.ss.length+p.fs.length+p.ts.length+(fuS p.fs+thS p.ts):=rfl
 obtain⟨X,hX⟩:∃X,w.heap.size=X:=⟨_,rfl⟩
 obtain⟨w1,hw1⟩:∃w1,w.alloc (prObj p)=w1:=⟨_,rfl⟩
 obtain⟨Nb,hNb⟩:∃Nb,w1.heap.size=Nb:=⟨_,rfl⟩
 obtain⟨n0,hn0⟩:∃n0:Int,n0=(p.rs.length:Int)+(p.ss.length:Int)+(p.fs.length:Int)+(p.ts.length:Int):=⟨_,rfl⟩
 obtain⟨w2,hw2⟩:∃w2,w1.alloc (.cells #[.int .i64 n0] 3 (0,0))=w2:=⟨_,rfl⟩
 have hb1:Below w.heap.size w w1:=by rw[←hw1];exact (Below.refl _ _).alloc (Nat.le_refl _) _
 have hb2:Below w1.heap.size w1 w2:=by rw[←hw2];exact (Below.refl _ _).alloc (Nat.le_refl _) _
 have s1:w1.heap.size=X+1:=by rw[←hw1,World.size_alloc,hX]
 have b02:Below w.heap.size w w2:=hb1.trans (hb2.mono hb1.size)
 have x1:w1.heap[X]? =some (prObj p):=by rw[←hw1,←hX];exact heap_alloc_new w _
 have x2:w2.heap[X]? =some (prObj p):=(hb2.block X (lt_blk x1)).trans x1
 have p2:PlAt Nb n0 w2:=by rw[←hw2,←hNb];exact heap_alloc_new w1 _
 have C:=Lib.hid (each_any B Nb p n0 w2 p2 (hI.keep (b02.mono hB) (Nat.le_refl B)) (by omega) (by omega) (by omega))
 rw[show n0+(fuS p.fs:Nat)+(thS p.ts:Nat)=(placesOf p:Nat) by omega]at C
 have HB:Hid (∀W,Kq Nb w2 W→Below w.heap.size w W):=Lib.hid fun W hk=>b02.trans (Kept.below hk b02.size (fun k e=>by rw[e];omega))
 have HN:Hid (w.heap.size=X∧X+1=Nb∧(w.alloc (prObj p)).alloc (.cells #[.int .i64 ((p.rs.length:Int)+(p.ss.length:Int)+(p.fs.length:Int)+(p.ts.length:Int))] 3 (0,0))=w2):=Lib.hid ⟨hX,by omega,by rw[hw1,←hn0,hw2]⟩
 have q0:=cell_at x1 0
 have q1:=cell_at x1 1
 have q2:=cell_at x1 2
 have q3:=cell_at x1 3
 have y0:=cell_at x2 0
 have y1:=cell_at x2 1
 have y2:=cell_at x2 2
 have y3:=cell_at x2 3
 simp only[sl7,sl8,sl9]at q0 q1 q2 q3 y0 y1 y2 y3
 have hRl:p.rs.length≤1000000:=by omega
 have hSl:p.ss.length≤1000000:=by omega
 have hFl:p.fs.length≤1000000:=by omega
 have hTl:p.ts.length≤1000000:=by omega
 generalize placesOf p=np at*
 have Hn0:=Lib.hid hn0
 clear hX hw1 hNb hw2 hb1 hb2 s1 b02 x1 x2 p2 hI hB hpl hn0 h2
 go_enter Tryz.func11,Tryz.ntmps11
 go_wp2_with fail
 simp only[HN.out.1,HN.out.2.1,HN.out.2.2]
 refine C.out.mono ?_
 rintro e w3 ⟨rfl,hp3,hk3⟩
 have HB3:=Lib.hid (HB.out _ hk3)
 have c3:=cell_at hp3 0
 simp only[sl7,sl8]at c3
 clear hp3 hk3 C q0 q1 q2 q3 y0 y1 y2 y3
 go_wp2_with fail
 go_ret
 exact⟨rfl,HB3.out⟩
end Go.Proofs.YtkklogikakcanaaGreatDoor
