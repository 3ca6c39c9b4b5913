import Derived.Test.YtkklogikakcanaaGreatDoorScopeD
import Derived.Test.YtkklogikakcanaaGreatDoorTreePlain2
set_option linter.unusedVariables false
set_option linter.unusedSimpArgs false
open List renaming getElem?_toArray → sl7, getElem?_cons_zero → sl8, getElem?_cons_succ → sl9
namespace Go.Proofs.YtkklogikakcanaaGreatDoor
open Go Go.Maps Go.RowKit
structure NumG (B:Nat) (w:World):Prop where
 c0:w.cell? ⟨0,0,none⟩=some (.int .u8 1)
 c1:w.cell? ⟨0,1,none⟩=some (.string ⟨([]:List UInt8).toArray⟩)
 c2:w.cell? ⟨0,2,none⟩=some (.int .i64 0)
 c3:w.cell? ⟨0,3,none⟩=some (.bool false)
 lt:0<B
theorem NumG.keep {B:Nat} {w w':World} (h:NumG B w) (hb:Below B w w'):NumG B w':=
 ⟨(hb.cell (p:=⟨_,0,none⟩) h.lt).trans h.c0,(hb.cell (p:=⟨_,1,none⟩) h.lt).trans h.c1,(hb.cell (p:=⟨_,2,none⟩) h.lt).trans h.c2,(hb.cell (p:=⟨_,3,none⟩) h.lt).trans h.c3,h.lt⟩
structure ScE (B Kb Rb Fb Sb:Nat) (p:Pr) (a:Option Addr) (l:Lc) (w:World):Prop where
 sc:ScIs B Kb Rb Fb Sb p w
 num:NumG B w
 lc:LcAt w a l
theorem ScE.below {B Kb Rb Fb Sb:Nat} {p:Pr} {a:Option Addr} {l:Lc} {w w':World} (h:ScE B Kb Rb Fb Sb p a l w) (hb:Below w.heap.size w w'):ScE B Kb Rb Fb Sb p a l w':=
 ⟨h.sc.below hb,h.num.keep (hb.mono h.sc.le),h.lc.below hb⟩
def ExprS (B Kb Rb Fb Sb:Nat) (p:Pr) (a:Option Addr) (l:Lc) (x:Ex):Prop:=∀w,ScE B Kb Rb Fb Sb p a l w→ExIn w B x→
 Calls Tryz.prog 156 #[.pointer (some ⟨Kb,0,none⟩),.pointer a,x.val] w fun e w'=>SrEnds (exS p l x) e∧Below w.heap.size w w'
set_option maxHeartbeats 8000000 in
set_option maxRecDepth 100000 in
theorem scopeValue_of (B Kb Rb Fb Sb:Nat) (p:Pr) (a:Option Addr) (l:Lc) (x:Ex) (CE:ExprS B Kb Rb Fb Sb p a l x) (w:World) (h:ScE B Kb Rb Fb Sb p a l w) (hI:ExIn w B x):
  Calls Tryz.prog 154 #[.pointer (some ⟨Kb,0,none⟩),.pointer a,x.val] w fun e w'=>SrEnds (valS p l x) e∧Below w.heap.size w w':=by
 obtain⟨X,hX⟩:∃X,w.heap.size=X:=⟨_,rfl⟩
 obtain⟨w1,hw1⟩:∃w1,w.alloc (.cells #[.int .u8 x.k,.int .i64 x.n,.string ⟨x.nm.toArray⟩,.int .u8 x.t.k,.string ⟨x.t.nm.toArray⟩,.int .i64 x.t.n,.slice x.d.a x.args.length x.d.c] 70 (0,0))=w1:=⟨_,rfl⟩
 obtain⟨w2,hw2⟩:∃w2,w1.alloc (.cells #[.int .u8 0,.string ⟨([]:List UInt8).toArray⟩,.int .i64 0,.bool false] 213 (0,0))=w2:=⟨_,rfl⟩
 have hs1:w1.heap.size=X+1:=by rw[←hw1,World.size_alloc,hX]
 have hb1:Below w.heap.size w w1:=by rw[←hw1];exact (Below.refl _ _).alloc (Nat.le_refl _) _
 have hb2:Below w1.heap.size w1 w2:=by rw[←hw2];exact (Below.refl _ _).alloc (Nat.le_refl _) _
 have hb12:Below w.heap.size w w2:=hb1.trans (hb2.mono hb1.size)
 have x2:w2.heap[X+1]? =some (.cells #[.int .u8 0,.string ⟨([]:List UInt8).toArray⟩,.int .i64 0,.bool false] 213 (0,0)):=by rw[←hw2,←hs1];exact heap_alloc_new w1 _
 have C:=Lib.hid (CE w2 (h.below hb12) (hI.keep (hb12.mono h.sc.le) (Nat.le_refl B)))
 have HB2:=Lib.hid hb12
 have HX2:=Lib.hid x2
 have HXl:Hid (w.heap.size≤X+1):=Lib.hid (by omega)
 have HN:Hid (w.heap.size=X∧(w.alloc (.cells #[.int .u8 x.k,.int .i64 x.n,.string ⟨x.nm.toArray⟩,.int .u8 x.t.k,.string ⟨x.t.nm.toArray⟩,.int .i64 x.t.n,.slice x.d.a x.args.length x.d.c] 70 (0,0))).alloc (.cells #[.int .u8 0,.string ⟨([]:List UInt8).toArray⟩,.int .i64 0,.bool false] 213 (0,0))=w2):=Lib.hid ⟨hX,by rw[hw1,hw2]⟩
 have hV:∀r,exS p l x=r→valS p l x=(match r with|.error e=>.error e|.ok s=>if s.has then .ok s else .error 10):=fun r hr=>by unfold valS;rw[hr];cases r<;>rfl
 obtain⟨V,hVV⟩:∃V,valS p l x=V:=⟨_,rfl⟩
 rw[hVV]at hV ⊢
 have HV:=Lib.hid (hV _ rfl)
 obtain⟨R,hR⟩:∃R,exS p l x=R:=⟨_,rfl⟩
 rw[hR]at C HV
 clear hw1 hw2 hs1 hb1 hb2 hb12 x2 CE h hI hV hVV hR hX
 go_enter Tryz.func154,Tryz.ntmps154
 go_wp2_with fail
 simp only[HN.out.1,HN.out.2]
 cases R with
 |error er=>
  refine C.out.mono ?_
  rintro e w3 ⟨hE,hb3⟩
  obtain rfl:e=faultS er:=hE
  exact⟨rfl,by rw[HV.out];rfl,HB2.out.trans (hb3.mono HB2.out.size)⟩
 |ok s=>
  obtain⟨⟨k,nm,n⟩,nl⟩:=s
  refine C.out.mono ?_
  rintro e w3 ⟨hE,hb3⟩
  obtain rfl:e=.returned (Srt.val ⟨⟨k,nm,n⟩,nl⟩):=hE
  obtain⟨w4,hw4⟩:∃w4,w3.alloc (.cells #[.int .u8 k,.string ⟨nm.toArray⟩,.int .i64 n,.bool nl] 213 (0,0))=w4:=⟨_,rfl⟩
  have hb4:Below w3.heap.size w3 w4:=by rw[←hw4];exact (Below.refl _ _).alloc (Nat.le_refl _) _
  have x4:w4.heap[X+1]? =some (.cells #[.int .u8 0,.string ⟨([]:List UInt8).toArray⟩,.int .i64 0,.bool false] 213 (0,0)):=((hb3.trans (hb4.mono hb3.size)).block (X+1) (Array.getElem?_eq_some_iff.1 HX2.out).1).trans HX2.out
  have HB4:Hid (Below w.heap.size w w4):=Lib.hid ((HB2.out.trans (hb3.mono HB2.out.size)).trans (hb4.mono (Nat.le_trans HB2.out.size hb3.size)))
  have f0:=frz_at x4 0
  have f1:=frz_at x4 1
  have f2:=frz_at x4 2
  have f3:=frz_at x4 3
  have c0:=cell_at x4 0
  have c1:=cell_at x4 1
  have c2:=cell_at x4 2
  have c3:=cell_at x4 3
  simp only[sl7,sl8,sl9]at c0 c1 c2 c3
  have rowZ:=row_set (row_set (row_set (row_set x4 0 (.int .u8 k)) 1 (.string ⟨nm.toArray⟩)) 2 (.int .i64 n)) 3 (.bool nl)
  have y0:=cell_at rowZ 0
  have y1:=cell_at rowZ 1
  have y2:=cell_at rowZ 2
  have y3:=cell_at rowZ 3
  simp at y0 y1 y2 y3
  have HZ:Hid (Below w.heap.size w (((((w3.alloc (.cells #[.int .u8 k,.string ⟨nm.toArray⟩,.int .i64 n,.bool nl] 213 (0,0))).setCell ⟨X+1,0,none⟩ (.int .u8 k)).setCell ⟨X+1,1,none⟩ (.string ⟨nm.toArray⟩)).setCell ⟨X+1,2,none⟩ (.int .i64 n)).setCell ⟨X+1,3,none⟩ (.bool nl))):=Lib.hid (by
   rw[hw4]
   exact ((((HB4.out.setCell (p:=⟨X+1,0,none⟩) HXl.out _).setCell (p:=⟨X+1,1,none⟩) HXl.out _).setCell (p:=⟨X+1,2,none⟩) HXl.out _).setCell (p:=⟨X+1,3,none⟩) HXl.out _))
  rw[←hw4]at f0 f1 f2 f3 c0 c1 c2 c3 y0 y1 y2 y3
  have HB5:Hid (Below w.heap.size w (w3.alloc (.cells #[.int .u8 k,.string ⟨nm.toArray⟩,.int .i64 n,.bool nl] 213 (0,0)))):=Lib.hid (by rw[hw4];exact HB4.out)
  clear hb3 hb4 x4 rowZ C hw4 HB4
  have hh:Srt.has ⟨⟨k,nm,n⟩,nl⟩=(nl||decide (k≠0)):=rfl
  cases hb:(nl||decide (k≠0)) with
  |true=>
   have HV2:Hid (V=.ok ⟨⟨k,nm,n⟩,nl⟩):=Lib.hid (by rw[HV.out];dsimp only;rw[hh,hb];rfl)
   have hn:nl=true∨(nl=false∧(k != 0)=true):=by
    cases nl with
    |true=>exact Or.inl rfl
    |false=>exact Or.inr ⟨rfl,by simpa using hb⟩
   clear hb hh
   rcases hn with rfl|⟨rfl,hk0⟩
   ·go_wp2_with (go_at_call 116;refine (swant_yes _ _).mono ?_;rintro e w99 ⟨rfl,rfl⟩)
    refine bodyPost_ret (v:=.agg #[.int .u8 k,.string ⟨nm.toArray⟩,.int .i64 n,.bool true]) (by simp[results,Tryz.results154,go_sem,y0,y1,y2,y3]) rfl ?_
    exact⟨by rw[HV2.out];rfl,HZ.out⟩
   ·go_wp2_with (go_at_call 116;refine (swant_yes _ _).mono ?_;rintro e w99 ⟨rfl,rfl⟩)
    refine bodyPost_ret (v:=.agg #[.int .u8 k,.string ⟨nm.toArray⟩,.int .i64 n,.bool false]) (by simp[results,Tryz.results154,go_sem,y0,y1,y2,y3]) rfl ?_
    exact⟨by rw[HV2.out];rfl,HZ.out⟩
  |false=>
   have HV2:Hid (V=.error 10):=Lib.hid (by rw[HV.out];dsimp only;rw[hh,hb];rfl)
   obtain rfl:nl=false:=by cases nl with|false=>rfl|true=>simp at hb
   have hk0:(k != 0)=false:=by simpa using hb
   clear hb hh
   go_wp2_with fail
   refine (swant_no 10 _).mono ?_
   rintro e w99 ⟨rfl,rfl⟩
   exact⟨rfl,by rw[HV2.out];rfl,HB5.out⟩
end Go.Proofs.YtkklogikakcanaaGreatDoor
