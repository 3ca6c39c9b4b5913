import Derived.Test.YtkklogikakcanaaGreatDoorScopeE
import Derived.Test.YtkklogikakcanaaGreatDoorScopeOk
import Derived.OwnWalk
import Derived.Deep.DeepCutAuto
set_option linter.unusedVariables false
set_option linter.unusedSimpArgs false
open List renaming getElem_toArray → sl1, getElem_cons_zero → sl2, getElem_cons_succ → sl3, setIfInBounds_toArray → sl4, set_cons_zero → sl5, set_cons_succ → sl6, getElem?_toArray → sl7, getElem?_cons_zero → sl8, getElem?_cons_succ → sl9
namespace Go.Proofs.YtkklogikakcanaaGreatDoor
open Go Go.Maps Go.RowKit
theorem qwq6k_5 {P:Prop} (h:P:=by
 go_wp2_with fail
 refine bodyPost_ret (v:=.agg #[.int .u8 (tk),.string ⟨(tnm).toArray⟩,.int .i64 (tn),.bool false]) (by simp[results,Tryz.results156,go_sem,y0,y1,y2,y3]) rfl ?_
 exact⟨rfl,HF.out⟩):P:=h
theorem qwq6k_4 {P:Prop} (h:P:=by
 go_wp2_with fail
 refine bodyPost_ret (v:=.agg #[.int .u8 (1),.string ⟨(([]:List UInt8)).toArray⟩,.int .i64 (0),.bool false]) (by simp[results,Tryz.results156,go_sem,y0,y1,y2,y3]) rfl ?_
 exact⟨rfl,HF.out⟩):P:=h
theorem qwq6k_3 {P:Prop} (h:P:=by
 go_wp2_with fail
 refine (swant_yes 10 _).mono ?_
 rintro e w99 ⟨rfl,rfl⟩
 have HB2:=Lib.hid (HB.out.trans (HB5.out.mono HB.out.size))
 have hz:=(HB5.out.block (X+1) (lt_blk HZ.out)).trans HZ.out
 have HZ2:=Lib.hid hz
 obtain⟨g0,g1,g2,g3,-⟩:=(HE.out.below HB5.out).num
 obtain rfl:V=Except.ok numS:=by rw[HVd.out];simp
 clear hz HZ x0 x1 x2 x3 y0 y1 y2 y3
 have HZ:=HZ2
 exact qwq6k_1):P:=h
theorem qwq6k_2 {P:Prop} (h:P:=by
 try simp only[sl1,sl2,sl3,Act.put,sl4,sl5,sl6]
 refine tk 12 ?_
 try simp only[sl1,sl2,sl3,Act.put,sl4,sl5,sl6]
 refine wpAnyL_last (j:=13) (o:=_) (by kernel_rfl) rfl (by rfl) (by kernel_rfl) (fun K hK=>?_)
 (go_simp;go_at_call 116;refine (swant_no 10 _).mono ?_;rintro e w99 ⟨rfl,rfl⟩;exact⟨rfl,by rw[HVn.out];rfl,HB.out.drew⟩)):P:=h
theorem qwq6k_1 {P:Prop} (h:P:=by
 have F:=resF HZ.out (1) ([]:List UInt8) (0) false
 obtain⟨f0,f1,f2,f3,c0,c1,c2,c3,y0,y1,y2,y3⟩:=F
 have HF:=Lib.hid (resB HB2.out HXs.out.1 (.int .u8 (1)) (.string ⟨(([]:List UInt8)).toArray⟩) (.int .i64 (0)) (.bool false))
 exact qwq6k_4):P:=h
theorem infoSort:(Tryz.prog.info? 213).map (fun i=>(i.zero,i.size,i.bytes))=some (some (.agg #[.int .u8 0,.string ⟨#[]⟩,.int .i64 0,.bool false]),4,40):=by kernel_rfl
def RowS (g n:Nat) (ss:List Srt) (w:World):Prop:=∃cur:Array Value,w.heap[g]? =some (.cells cur 213 (0,0))∧cur.size=n*4∧
 ∀i s,ss[i]? =some s→cur[i*4]? =some (.int .u8 s.t.k)∧cur[i*4+1]? =some (.string ⟨s.t.nm.toArray⟩)∧cur[i*4+2]? =some (.int .i64 s.t.n)∧cur[i*4+3]? =some (.bool s.null)
theorem lt_blk {w:World} {k:Nat} {o:Obj} (h:w.heap[k]? =some o):k<w.heap.size:=(Array.getElem?_eq_some_iff.1 h).1
theorem RowS.lt {g n:Nat} {ss:List Srt} {w:World} (h:RowS g n ss w):g<w.heap.size:=by
 obtain⟨cur,h1,-⟩:=h
 exact (Array.getElem?_eq_some_iff.1 h1).1
theorem RowS.block {g n:Nat} {ss:List Srt} {w w':World} (h:RowS g n ss w) (hb:w'.heap[g]? =w.heap[g]?):RowS g n ss w':=by
 obtain⟨cur,h1,h2⟩:=h
 exact⟨cur,hb.trans h1,h2⟩
theorem RowS.cell {g n:Nat} {ss:List Srt} {w:World} (h:RowS g n ss w) {j:Nat} (hj:j<n*4):(∃v,w.cell? ⟨g,j,none⟩=some v)∧w.frozen? ⟨g,j,none⟩=false:=by
 obtain⟨cur,h1,h2,-⟩:=h
 exact⟨⟨cur[j]'(by omega),by rw[cell_at h1];exact Array.getElem?_eq_getElem _⟩,frz_at h1 j⟩
theorem RowS.put {g n:Nat} {ss:List Srt} {w:World} (h:RowS g n ss w) (s:Srt) (hlt:ss.length<n):
  RowS g n (ss++[s]) ((((w.setCell ⟨g,ss.length*4,none⟩ (.int .u8 s.t.k)).setCell ⟨g,ss.length*4+1,none⟩ (.string ⟨s.t.nm.toArray⟩)).setCell ⟨g,ss.length*4+2,none⟩ (.int .i64 s.t.n)).setCell ⟨g,ss.length*4+3,none⟩ (.bool s.null)):=by
 obtain⟨cur,h1,h2,h3⟩:=h
 refine⟨_,row_set (row_set (row_set (row_set h1 _ _) _ _) _ _) _ _,by simpa using h2,fun i t hi=>?_⟩
 by_cases hlt2:i<ss.length
 ·rw[List.getElem?_append_left hlt2]at hi
  obtain⟨a0,a1,a2,a3⟩:=h3 i t hi
  refine⟨?_,?_,?_,?_⟩
  all_goals
   rw[Array.getElem?_setIfInBounds_ne (by omega),Array.getElem?_setIfInBounds_ne (by omega),Array.getElem?_setIfInBounds_ne (by omega),Array.getElem?_setIfInBounds_ne (by omega)]
   assumption
 ·have hi2:i=ss.length:=by
   have:=(List.getElem?_eq_some_iff.1 hi).1
   simp at this
   omega
  subst hi2
  simp only[List.getElem?_append_right (Nat.le_refl _),Nat.sub_self,sl8,Option.some.injEq]at hi
  subst hi
  refine⟨?_,?_,?_,?_⟩
  ·rw[Array.getElem?_setIfInBounds_ne (by omega),Array.getElem?_setIfInBounds_ne (by omega),Array.getElem?_setIfInBounds_ne (by omega),Array.getElem?_setIfInBounds_self_of_lt (by omega)]
  ·rw[Array.getElem?_setIfInBounds_ne (by omega),Array.getElem?_setIfInBounds_ne (by omega),Array.getElem?_setIfInBounds_self_of_lt (by simp;omega)]
  ·rw[Array.getElem?_setIfInBounds_ne (by omega),Array.getElem?_setIfInBounds_self_of_lt (by simp;omega)]
  ·rw[Array.getElem?_setIfInBounds_self_of_lt (by simp;omega)]
theorem RowS.srts {g n:Nat} {ss:List Srt} {w:World} (h:RowS g n ss w):SrtsAt w (some ⟨g,0,none⟩) ss:=fun _=>by
 obtain⟨cur,h1,h2,h3⟩:=h
 refine⟨g,0,rfl,(Array.getElem?_eq_some_iff.1 h1).1,fun i s hs=>?_⟩
 obtain⟨a0,a1,a2,a3⟩:=h3 i s hs
 rw[Nat.zero_add]
 exact⟨(cell_at h1 _).trans a0,(cell_at h1 _).trans a1,(cell_at h1 _).trans a2,(cell_at h1 _).trans a3⟩
theorem RowS.of_own {g n B:Nat} {w:World} {xs:List Value} (h:w.ownsRow B 213 4 (.slice (some ⟨g,0,none⟩) n n) n xs):RowS g n [] w:=by
 rcases h.2 with ⟨hv,-⟩|⟨g2,cap,cur,hv,-,hg,-,-,hs,-⟩
 ·cases hv
 ·simp only[Value.slice.injEq,Option.some.injEq,Addr.mk.injEq]at hv
  obtain⟨⟨rfl,-⟩,-,rfl⟩:=hv
  exact⟨cur,hg,hs,fun i s hi=>by simp at hi⟩
structure ResF (X:Nat) (k:Int) (nm:List UInt8) (n:Int) (b:Bool) (W:World):Prop where
 f0:W.frozen? ⟨X,0,none⟩=false
 f1:W.frozen? ⟨X,1,none⟩=false
 f2:W.frozen? ⟨X,2,none⟩=false
 f3:W.frozen? ⟨X,3,none⟩=false
 c0:W.cell? ⟨X,0,none⟩=some (.int .u8 0)
 c1:W.cell? ⟨X,1,none⟩=some (.string ⟨([]:List UInt8).toArray⟩)
 c2:W.cell? ⟨X,2,none⟩=some (.int .i64 0)
 c3:W.cell? ⟨X,3,none⟩=some (.bool false)
 y0:((((W.setCell ⟨X,0,none⟩ (.int .u8 k)).setCell ⟨X,1,none⟩ (.string ⟨nm.toArray⟩)).setCell ⟨X,2,none⟩ (.int .i64 n)).setCell ⟨X,3,none⟩ (.bool b)).cell? ⟨X,0,none⟩=some (.int .u8 k)
 y1:((((W.setCell ⟨X,0,none⟩ (.int .u8 k)).setCell ⟨X,1,none⟩ (.string ⟨nm.toArray⟩)).setCell ⟨X,2,none⟩ (.int .i64 n)).setCell ⟨X,3,none⟩ (.bool b)).cell? ⟨X,1,none⟩=some (.string ⟨nm.toArray⟩)
 y2:((((W.setCell ⟨X,0,none⟩ (.int .u8 k)).setCell ⟨X,1,none⟩ (.string ⟨nm.toArray⟩)).setCell ⟨X,2,none⟩ (.int .i64 n)).setCell ⟨X,3,none⟩ (.bool b)).cell? ⟨X,2,none⟩=some (.int .i64 n)
 y3:((((W.setCell ⟨X,0,none⟩ (.int .u8 k)).setCell ⟨X,1,none⟩ (.string ⟨nm.toArray⟩)).setCell ⟨X,2,none⟩ (.int .i64 n)).setCell ⟨X,3,none⟩ (.bool b)).cell? ⟨X,3,none⟩=some (.bool b)
theorem resF {X:Nat} {W:World} (hz:W.heap[X]? =some (.cells #[.int .u8 0,.string ⟨([]:List UInt8).toArray⟩,.int .i64 0,.bool false] 213 (0,0))) (k:Int) (nm:List UInt8) (n:Int) (b:Bool):ResF X k nm n b W:=by
 have h:=row_set (row_set (row_set (row_set hz 0 (.int .u8 k)) 1 (.string ⟨nm.toArray⟩)) 2 (.int .i64 n)) 3 (.bool b)
 exact⟨frz_at hz 0,frz_at hz 1,frz_at hz 2,frz_at hz 3,cell_at hz 0,cell_at hz 1,cell_at hz 2,cell_at hz 3,cell_at h 0,cell_at h 1,cell_at h 2,cell_at h 3⟩
theorem resB {B X:Nat} {w W:World} (h:Below B w W) (hX:B≤X) (u0 u1 u2 u3:Value):Below B w ((((W.setCell ⟨X,0,none⟩ u0).setCell ⟨X,1,none⟩ u1).setCell ⟨X,2,none⟩ u2).setCell ⟨X,3,none⟩ u3):=
 (((h.setCell (p:=⟨X,0,none⟩) hX u0).setCell (p:=⟨X,1,none⟩) hX u1).setCell (p:=⟨X,2,none⟩) hX u2).setCell (p:=⟨X,3,none⟩) hX u3
theorem two_boxes (w:World) (s u:Srt):Below w.heap.size w (((w.alloc (.cells #[.int .u8 s.t.k,.string ⟨s.t.nm.toArray⟩,.int .i64 s.t.n,.bool s.null] 213 (0,0))).alloc (.cells #[.int .u8 u.t.k,.string ⟨u.t.nm.toArray⟩,.int .i64 u.t.n,.bool u.null] 213 (0,0))).drew)∧
  SrtAt (((w.alloc (.cells #[.int .u8 s.t.k,.string ⟨s.t.nm.toArray⟩,.int .i64 s.t.n,.bool s.null] 213 (0,0))).alloc (.cells #[.int .u8 u.t.k,.string ⟨u.t.nm.toArray⟩,.int .i64 u.t.n,.bool u.null] 213 (0,0))).drew) w.heap.size 0 s∧
  SrtAt (((w.alloc (.cells #[.int .u8 s.t.k,.string ⟨s.t.nm.toArray⟩,.int .i64 s.t.n,.bool s.null] 213 (0,0))).alloc (.cells #[.int .u8 u.t.k,.string ⟨u.t.nm.toArray⟩,.int .i64 u.t.n,.bool u.null] 213 (0,0))).drew) (w.heap.size+1) 0 u:=by
 obtain⟨w1,hw1⟩:∃w1,w.alloc (.cells #[.int .u8 s.t.k,.string ⟨s.t.nm.toArray⟩,.int .i64 s.t.n,.bool s.null] 213 (0,0))=w1:=⟨_,rfl⟩
 obtain⟨w2,hw2⟩:∃w2,w1.alloc (.cells #[.int .u8 u.t.k,.string ⟨u.t.nm.toArray⟩,.int .i64 u.t.n,.bool u.null] 213 (0,0))=w2:=⟨_,rfl⟩
 have hs1:w1.heap.size=w.heap.size+1:=by rw[←hw1,World.size_alloc]
 have hb1:Below w.heap.size w w1:=by rw[←hw1];exact (Below.refl _ _).alloc (Nat.le_refl _) _
 have hb2:Below w1.heap.size w1 w2:=by rw[←hw2];exact (Below.refl _ _).alloc (Nat.le_refl _) _
 have x1:w1.heap[w.heap.size]? =some (.cells #[.int .u8 s.t.k,.string ⟨s.t.nm.toArray⟩,.int .i64 s.t.n,.bool s.null] 213 (0,0)):=by rw[←hw1];exact heap_alloc_new w _
 have x2:w2.heap[w.heap.size+1]? =some (.cells #[.int .u8 u.t.k,.string ⟨u.t.nm.toArray⟩,.int .i64 u.t.n,.bool u.null] 213 (0,0)):=by rw[←hw2,←hs1];exact heap_alloc_new w1 _
 have x12:=(hb2.block w.heap.size (by omega)).trans x1
 rw[hw1,hw2]
 exact⟨(hb1.trans (hb2.mono hb1.size)).drew,⟨cell_at x12 0,cell_at x12 1,cell_at x12 2,cell_at x12 3⟩,⟨cell_at x2 0,cell_at x2 1,cell_at x2 2,cell_at x2 3⟩⟩
theorem eqlS (s u:Srt) (W:World):(binOp .eql 213 (.agg #[.int .u8 s.t.k,.string ⟨s.t.nm.toArray⟩,.int .i64 s.t.n,.bool s.null]) (.agg #[.int .u8 u.t.k,.string ⟨u.t.nm.toArray⟩,.int .i64 u.t.n,.bool u.null])).run Tryz.prog W=.ok (.bool (decide (s=u))) W:=by
 obtain⟨⟨k,nm,n⟩,b⟩:=s
 obtain⟨⟨k2,nm2,n2⟩,b2⟩:=u
 simp[go_sem]
 repeat' split
 all_goals simp_all
def fieldR (p:Pr) (nm:List UInt8) (t:Ty):Except Int Srt:=match recOf p t.nm with
 |none=>.error 9
 |some i=>
  match fieldOf ((p.rs.map Re.fs).getD i []) nm with
  |some t=>.ok ⟨t,false⟩
  |none=>.error 9
def fldEnd (o:Option Ty):Except Int Srt:=match o with
 |some t=>.ok ⟨t,false⟩
 |none=>.error 9
abbrev IxS (b:Nat) (u v:Srt) (W:World):Prop:=W.cell? ⟨b,0,none⟩=some (.int .u8 u.t.k)∧W.cell? ⟨b,4,none⟩=some (.int .u8 v.t.k)∧W.cell? ⟨b,5,none⟩=some (.string ⟨v.t.nm.toArray⟩)∧W.cell? ⟨b,6,none⟩=some (.int .i64 v.t.n)∧W.cell? ⟨b,7,none⟩=some (.bool v.null)∧
 W.cell? ⟨0,0,none⟩=some (.int .u8 1)∧W.cell? ⟨0,1,none⟩=some (.string ⟨([]:List UInt8).toArray⟩)∧W.cell? ⟨0,2,none⟩=some (.int .i64 0)∧W.cell? ⟨0,3,none⟩=some (.bool false)
def catS (ss:List Srt) (r:Except Int (List Srt)):Except Int (List Srt):=match r with
 |.ok q=>.ok (ss++q)
 |.error e=>.error e
theorem exCounts_len:∀l:List Ex,l.length≤exCounts l
 |[]=>by simp
 |x::r=>by
  have h1:=exCounts_len r
  have h2:=exCount_pos x
  rw[exCounts,List.length_cons];omega
theorem exCs_mem:∀{l:List Ex} {y:Ex},y∈l→exCount y≤exCounts l
 |x::r,y,h=>by
  rw[exCounts]
  rcases List.mem_cons.1 h with rfl|h
  ·omega
  ·have:=exCs_mem h;omega
theorem ExGood.few {x:Ex} (h:ExGood x):x.args.length≤1024:=by
 obtain⟨deep,it,m,h⟩:=h
 have h1:=chkEx_ok x deep it m h
 have h2:=exCounts_len x.args
 obtain⟨k,n,nm,t,d,args⟩:=x
 rw[exCount]at h1
 dsimp only[Ex.args]at h2 ⊢
 omega
theorem exSs_val (p:Pr) (l:Lc) (y:Ex) (r:List Ex):exSs p l (y::r)=(match valS p l y with|.error e=>.error e|.ok s=>match exSs p l r with|.error e=>.error e|.ok q=>.ok (s::q)):=by
 rw[exSs]
 unfold valS
 cases exS p l y with
 |error e=>rfl
 |ok s=>
  dsimp only
  cases s.has with
  |true=>
   simp only[if_true]
   cases exSs p l r<;>rfl
  |false=>simp
set_option maxHeartbeats 40000000 in
set_option maxRecDepth 100000 in
theorem scopeExpr_any (B Kb Rb Fb Sb:Nat) (p:Pr) (a:Option Addr) (l:Lc):∀(sz:Nat) (x:Ex),exCount x≤sz→ExGood x→ExprS B Kb Rb Fb Sb p a l x:=by
 intro sz
 induction sz with
 |zero=>intro x hx;have:=exCount_pos x;omega
 |succ sz ih=>
 intro x hsz hg w h hI
 have h0:=h
 have hfew:=hg.few
 have HIh:Hid (∀y∈x.args,ExprS B Kb Rb Fb Sb p a l y):=Lib.hid fun y hy=>ih y (by
  have h1:=exCs_mem hy
  obtain⟨k,n,nm,t,d,args⟩:=x
  rw[exCount]at hsz
  dsimp only[Ex.args]at h1
  omega) (hg.sub y hy)
 have hkk:=hg.kind
 have hln:=hg.len
 obtain⟨k,n,nm,ty,d,args⟩:=x
 dsimp only[Ex.args,Ex.k]at hfew HIh hkk hln
 have HOk:Hid (lenOk nm.length∧ty.Ok):=Lib.hid ⟨hI.nm,hI.t⟩
 have HNms:Hid (∀ss,exSs p l args=.ok ss→∀s∈ss,NmOk s.t):=Lib.hid fun ss h=>exSs_nm args ss (fun y hy s hs=>exS_nm (NmsOk.of h0.sc.inn h0.lc) (hI.sub y hy) hs) h
 obtain⟨X,hX⟩:∃X,w.heap.size=X:=⟨_,rfl⟩
 obtain⟨w1,hw1⟩:∃w1,w.alloc (.cells #[.int .u8 k,.int .i64 n,.string ⟨nm.toArray⟩,.int .u8 ty.k,.string ⟨ty.nm.toArray⟩,.int .i64 ty.n,.slice d.a args.length d.c] 70 (0,0))=w1:=⟨_,rfl⟩
 obtain⟨w2,hw2⟩:∃w2,w1.alloc (.cells #[.int .u8 0,.string ⟨([]:List UInt8).toArray⟩,.int .i64 0,.bool false] 213 (0,0))=w2:=⟨_,rfl⟩
 have hs1:w1.heap.size=X+1:=by rw[←hw1,World.size_alloc,hX]
 have hs2:w2.heap.size=X+1+1:=by rw[←hw2,World.size_alloc,hs1]
 have hb1:Below w.heap.size w w1:=by rw[←hw1];exact (Below.refl _ _).alloc (Nat.le_refl _) _
 have hb2:Below w1.heap.size w1 w2:=by rw[←hw2];exact (Below.refl _ _).alloc (Nat.le_refl _) _
 have hb12:Below w.heap.size w w2:=hb1.trans (hb2.mono hb1.size)
 have x1:w2.heap[X]? =some (.cells #[.int .u8 k,.int .i64 n,.string ⟨nm.toArray⟩,.int .u8 ty.k,.string ⟨ty.nm.toArray⟩,.int .i64 ty.n,.slice d.a args.length d.c] 70 (0,0)):=(hb2.block X (by omega)).trans (by rw[←hw1,←hX];exact heap_alloc_new w _)
 have x2:w2.heap[X+1]? =some (.cells #[.int .u8 0,.string ⟨([]:List UInt8).toArray⟩,.int .i64 0,.bool false] 213 (0,0)):=by rw[←hw2,←hs1];exact heap_alloc_new w1 _
 have HSc:Hid (∀W',Below w.heap.size w W'→ScE B Kb Rb Fb Sb p a l W'):=Lib.hid fun W' hb=>h.below hb
 have HEx:Hid (∀W',Below w.heap.size w W'→ExIn W' B (.mk k n nm ty d args)):=Lib.hid fun W' hb=>hI.keep (hb.mono h.sc.le) (Nat.le_refl B)
 have HN:Hid (w.heap.size=X∧(w.alloc (.cells #[.int .u8 k,.int .i64 n,.string ⟨nm.toArray⟩,.int .u8 ty.k,.string ⟨ty.nm.toArray⟩,.int .i64 ty.n,.slice d.a args.length d.c] 70 (0,0))).alloc (.cells #[.int .u8 0,.string ⟨([]:List UInt8).toArray⟩,.int .i64 0,.bool false] 213 (0,0))=w2):=Lib.hid ⟨hX,by rw[hw1,hw2]⟩
 have HX12:=Lib.hid (And.intro x1 (And.intro x2 (And.intro hs2 hb12)))
 have q6:=cell_at x1 6
 simp only[sl7,sl8,sl9]at q6
 rw[←hw2,←hw1,←hX]at q6
 obtain⟨V,hV⟩:∃V,exS p l (.mk k n nm ty d args)=V:=⟨_,rfl⟩
 rw[hV]
 have HV:Hid ((match exSs p l args with|.error e=>.error e|.ok ss=>exEnd p l k nm ty ss)=V):=Lib.hid (by rw[←hV,exS];cases exSs p l args<;>rfl)
 obtain⟨i0,hi0,hz0,hz1,hz2⟩:=info_parts infoSort
 dsimp only[Ex.val,Ex.k,Ex.n,Ex.nm,Ex.t,Ex.d,Ex.args]
 clear hw1 hw2 hs1 hs2 hb1 hb2 hb12 x1 x2 h h0 hI hg ih hX hsz hV
 go_enter Tryz.func156,Tryz.ntmps156
 go_wp2_with (at_make;refine wpList_make_full _ rfl _ _ 230 rfl 0 213 i0 _ 4 Tryz.underlying230 hi0 hz0 hz1 .i64 .i64 _ _ args.length rfl rfl (by simp) (by simp) (by rw[hz2];omega) (by unfold maxLen;omega) (Nat.zero_le _) ?_)
 intro w3 hown hgrow
 have hR3:=RowS.of_own hown
 rw[HN.out.2]at hgrow
 rw[HN.out.1]at hR3
 have hb23:Below w2.heap.size w2 w3:=(Below.refl _ _).grown hgrow (Nat.le_refl _) (fun k h=>by cases h)
 obtain⟨hx1,hx2,hs2,hb12⟩:=HX12.out
 have hb3:Below w.heap.size w w3:=hb12.trans (hb23.mono hb12.size)
 have hx13:=(hb23.block X (lt_blk hx1)).trans hx1
 have hx23:=(hb23.block (X+1) (lt_blk hx2)).trans hx2
 have HRX:Hid (∀W',Kept (fun q=>q=X+1+1) w3 W'→W'.heap[X]? =some (.cells #[.int .u8 k,.int .i64 n,.string ⟨nm.toArray⟩,.int .u8 ty.k,.string ⟨ty.nm.toArray⟩,.int .i64 ty.n,.slice d.a args.length d.c] 70 (0,0))):=Lib.hid fun W' hk=>(hk.block X (lt_blk hx13) (by omega)).trans hx13
 have HRZ:Hid (∀W',Kept (fun q=>q=X+1+1) w3 W'→W'.heap[X+1]? =some (.cells #[.int .u8 0,.string ⟨([]:List UInt8).toArray⟩,.int .i64 0,.bool false] 213 (0,0))):=Lib.hid fun W' hk=>(hk.block (X+1) (lt_blk hx23) (by omega)).trans hx23
 have HBw:Hid (∀W',Kept (fun q=>q=X+1+1) w3 W'→Below w.heap.size w W'):=Lib.hid fun W' hk=>hb3.trans (hk.below hb3.size (fun q hq=>by rw[hq,HN.out.1];omega))
 have HXs:Hid (w.heap.size≤X+1∧w.heap.size≤X+1+1):=Lib.hid (by rw[HN.out.1];exact⟨by omega,by omega⟩)
 have q6:=cell_at hx13 6
 simp only[sl7,sl8,sl9]at q6
 have HR3:=Lib.hid hR3
 have HR0:Hid (catS [] (exSs p l (args.drop 0))=exSs p l args):=Lib.hid (by rw[List.drop_zero];cases exSs p l args<;>rfl)
 clear hown hgrow hb23 hx1 hx2 hs2 hb12 hb3 hx13 hx23 hR3 HX12 hi0 hz0 hz1 hz2
 simp only[HN.out.1]
 go_wp2_with fail
 go_loopw [28] (fun ii wr=>∃(j:Nat) (ss:List Srt),ii=.int .i64 j∧j≤args.length∧Hid (ss.length=j)∧Hid (Kept (fun q=>q=X+1+1) w3 wr)∧Hid (RowS (X+1+1) args.length ss wr)∧Hid (catS ss (exSs p l (args.drop j))=exSs p l args)) (fun ii _=>args.length - (intOf ii).toNat)
 case atStart=>exact⟨0,[],rfl,Nat.zero_le _,Lib.hid rfl,Lib.hid (Kept.refl _ _),HR3,HR0⟩
 case round=>
  obtain⟨j,ss,rfl,hj,hsl,hK,hRow,hC⟩:=hrel
  clear HR3 HR0
  have p2:(0:Int)≤(j:Int):=Int.natCast_nonneg _
  by_cases hlt:j<args.length
  ·obtain⟨y,hy⟩:∃y,args[j]? =some y:=⟨_,List.getElem?_eq_getElem hlt⟩
   have hdrop:args.drop j=y::args.drop (j+1):=by
    have:=List.drop_eq_getElem_cons hlt
    rw[List.getElem?_eq_getElem hlt]at hy
    injection hy with hy
    rw[this,hy]
   have hmem:=List.mem_of_getElem? hy
   have hbw:=HBw.out _ hK.out
   have hIr:=HEx.out _ hbw
   obtain⟨rb,ro,hda,hrb,hrow⟩:=hIr.row (by intro h0;have h1:args=[]:=h0;rw[h1]at hlt;simp at hlt)
   obtain⟨z0,z1,z2,z3,z4,z5,z6⟩:=hrow j y hy
   have hda2:d.a=some ⟨rb,ro,none⟩:=hda
   have hyI:=hIr.sub y hmem
   obtain⟨Z,hZ⟩:∃Z,wr.heap.size=Z:=⟨_,rfl⟩
   obtain⟨w6,hw6⟩:∃w6,wr.alloc (.cells #[.int .u8 y.k,.int .i64 y.n,.string ⟨y.nm.toArray⟩,.int .u8 y.t.k,.string ⟨y.t.nm.toArray⟩,.int .i64 y.t.n,.slice y.d.a y.args.length y.d.c] 70 (0,0))=w6:=⟨_,rfl⟩
   have hb6:Below wr.heap.size wr w6:=by rw[←hw6];exact (Below.refl _ _).alloc (Nat.le_refl _) _
   have x6:w6.heap[Z]? =some (.cells #[.int .u8 y.k,.int .i64 y.n,.string ⟨y.nm.toArray⟩,.int .u8 y.t.k,.string ⟨y.t.nm.toArray⟩,.int .i64 y.t.n,.slice y.d.a y.args.length y.d.c] 70 (0,0)):=by rw[←hw6,←hZ];exact heap_alloc_new wr _
   have hsc6:=HSc.out _ (hbw.trans (hb6.mono hbw.size))
   have C:=Lib.hid (scopeValue_of B Kb Rb Fb Sb p a l y (HIh.out y hmem) w6 hsc6 (hyI.keep (hb6.mono (HSc.out _ hbw).sc.le) (Nat.le_refl B)))
   have HK6:=Lib.hid (hK.out.trans (Kept.of_below hb6))
   have hR6:=hRow.out.block (hb6.block _ hRow.out.lt)
   have HR6:=Lib.hid hR6
   have hC1:=hC.out
   rw[hdrop,exSs_val]at hC1
   have p1:(j:Int)<(args.length:Int):=by omega
   have HN6:=Lib.hid (And.intro hZ hw6)
   clear hb6 x6 hrow hIr hdrop hmem hbw hda hyI hZ hw6 hsc6 hR6 hK hRow hC hrb hy
   rw[hda2]
   go_wp2_with fail
   simp only[HN6.out.1,HN6.out.2]
   clear z0 z1 z2 z3 z4 z5 z6 hda2
   cases hv:valS p l y with
   |error er=>
    rw[hv]at C hC1
    have HVe:Hid (V=.error er):=Lib.hid (by rw[←HV.out,←hC1];rfl)
    refine C.out.mono ?_
    rintro e w7 ⟨hE,hb7⟩
    obtain rfl:e=faultS er:=hE
    exact⟨rfl,by rw[HVe.out];rfl,HBw.out _ (HK6.out.trans (Kept.of_below hb7))⟩
   |ok s=>
    rw[hv]at C hC1
    refine C.out.mono ?_
    rintro e w7 ⟨hE,hb7⟩
    obtain rfl:e=.returned s.val:=hE
    have hR7:=HR6.out.block (hb7.block _ HR6.out.lt)
    have hjl:ss.length=j:=hsl.out
    obtain⟨⟨v0,c0⟩,f0⟩:=hR7.cell (j:=j*4) (by omega)
    obtain⟨⟨v1,c1⟩,f1⟩:=hR7.cell (j:=j*4+1) (by omega)
    obtain⟨⟨v2,c2⟩,f2⟩:=hR7.cell (j:=j*4+2) (by omega)
    obtain⟨⟨v3,c3⟩,f3⟩:=hR7.cell (j:=j*4+3) (by omega)
    have hP:=hR7.put s (by rw[hjl];exact hlt)
    rw[hjl]at hP
    have HP:=Lib.hid hP
    have hK7:=HK6.out.trans (Kept.of_below hb7)
    have HK7:Hid (Kept (fun q=>q=X+1+1) w3 ((((w7.setCell ⟨X+1+1,j*4,none⟩ (.int .u8 s.t.k)).setCell ⟨X+1+1,j*4+1,none⟩ (.string ⟨s.t.nm.toArray⟩)).setCell ⟨X+1+1,j*4+2,none⟩ (.int .i64 s.t.n)).setCell ⟨X+1+1,j*4+3,none⟩ (.bool s.null))):=Lib.hid
     ((((hK7.setCell (p:=⟨X+1+1,j*4,none⟩) (Or.inl rfl) _).setCell (p:=⟨X+1+1,j*4+1,none⟩) (Or.inl rfl) _).setCell (p:=⟨X+1+1,j*4+2,none⟩) (Or.inl rfl) _).setCell (p:=⟨X+1+1,j*4+3,none⟩) (Or.inl rfl) _)
    have HC7:Hid (catS (ss++[s]) (exSs p l (args.drop (j+1)))=exSs p l args):=Lib.hid (by
     rw[←hC1]
     dsimp only
     cases exSs p l (args.drop (j+1)) with
     |error e=>rfl
     |ok q=>simp[catS])
    have HSl:Hid ((ss++[s]).length=j+1):=Lib.hid (by rw[List.length_append,hjl];rfl)
    clear hb7 hR7 hjl hP hK7 C hC1 hv HK6 HR6
    go_wp2_with fail
    go_roundw
    case rel=>exact⟨j+1,ss++[s],by go_num,by omega,HSl,HK7,HP,HC7⟩
    case measure=>simp[intOf];omega
  ·obtain rfl:j=args.length:=by omega
   have HSs:Hid (exSs p l args=.ok ss):=Lib.hid (by have h:=hC.out;rw[List.drop_length,exSs]at h;rw[←h];simp[catS])
   have HVs:Hid (exEnd p l k nm ty ss=V):=Lib.hid (by have h:=HV.out;rw[HSs.out]at h;exact h)
   have HA:=Lib.hid hRow.out.srts
   have HB:=Lib.hid (HBw.out _ hK.out)
   have hx:=HRX.out _ hK.out
   have hz:=HRZ.out _ hK.out
   have hsl2:ss.length=args.length:=hsl.out
   have hE:=HSc.out _ HB.out
   have HZ:=Lib.hid hz
   have HXr:=Lib.hid hx
   have HE:=Lib.hid hE
   have r0:=cell_at hx 0
   simp only[sl7,sl8,sl9]at r0
   have HLs:=Lib.hid hsl2
   have HOks:=Lib.hid (HNms.out ss HSs.out)
   clear hx hz hE hsl2 hsl hK hRow hC HV HBw HRX HRZ HSc HIh HSs HNms
   have hcs:k=1∨k=2∨k=3∨k=4∨k=5∨k=6∨k=7∨(k=15∨k=16)∨(k=8∨k=9∨10≤k∧k≤14∨17≤k∧k≤22):=by omega
   rcases hcs with rfl|rfl|rfl|rfl|rfl|rfl|rfl|hb|hb
   ·
    obtain rfl:Except.ok numS=V:=by have h:=HVs.out;rw[exEnd,if_pos rfl]at h;exact h
    obtain⟨g0,g1,g2,g3,-⟩:=HE.out.num
    have F:=resF HZ.out (1) ([]:List UInt8) (0) false
    obtain⟨f0,f1,f2,f3,c0,c1,c2,c3,y0,y1,y2,y3⟩:=F
    have HF:=Lib.hid (resB HB.out HXs.out.1 (.int .u8 (1)) (.string ⟨(([]:List UInt8)).toArray⟩) (.int .i64 (0)) (.bool false))
    exact qwq6k_4
   ·
    obtain rfl:Except.ok ⟨ty0,true⟩=V:=by have h:=HVs.out;rw[exEnd,if_neg (by decide),if_pos rfl]at h;exact h
    have F:=resF HZ.out (0) ([]:List UInt8) (0) true
    obtain⟨f0,f1,f2,f3,c0,c1,c2,c3,y0,y1,y2,y3⟩:=F
    have HF:=Lib.hid (resB HB.out HXs.out.1 (.int .u8 (0)) (.string ⟨(([]:List UInt8)).toArray⟩) (.int .i64 (0)) (.bool true))
    go_wp2_with fail
    refine bodyPost_ret (v:=.agg #[.int .u8 (0),.string ⟨(([]:List UInt8)).toArray⟩,.int .i64 (0),.bool true]) (by simp[results,Tryz.results156,go_sem,y0,y1,y2,y3]) rfl ?_
    exact⟨rfl,HF.out⟩
   ·
    have hV2:(match fieldOf l nm with|some t=>Except.ok ⟨t,false⟩|none=>match shOf p nm with|some t=>Except.ok ⟨t,false⟩|none=>Except.error 9)=V:=by
     have h:=HVs.out
     rw[exEnd,if_neg (by decide),if_neg (by decide),if_pos rfl]at h
     exact h
    have r2:=cell_at HXr.out 2
    simp only[sl7,sl8,sl9]at r2
    have CF:=Lib.hid (sfind_any a l nm wr HE.out.lc)
    go_wp2_with fail
    refine CF.out.mono ?_
    clear r0 r2 CF
    cases hf:fieldOf l nm with
    |some t=>
     rw[hf]at hV2
     obtain rfl:Except.ok ⟨t,false⟩=V:=hV2
     obtain⟨tk,tnm,tn⟩:=t
     rintro e w5 ⟨hE,hb5⟩
     obtain rfl:e=.returned (.tuple #[.agg #[.int .u8 tk,.string ⟨tnm.toArray⟩,.int .i64 tn],.bool true]):=hE
     have hb6:=hb5.alloc hb5.size (.cells #[.int .u8 tk,.string ⟨tnm.toArray⟩,.int .i64 tn] 39 (0,0))
     have HB6:=Lib.hid (HB.out.trans (hb6.mono HB.out.size))
     have HZ6:=Lib.hid ((hb6.block (X+1) (lt_blk HZ.out)).trans HZ.out)
     clear hb5 hb6 HZ hf
     have HZ:=HZ6
     have F:=resF HZ.out tk tnm tn false
     obtain⟨f0,f1,f2,f3,c0,c1,c2,c3,y0,y1,y2,y3⟩:=F
     have HF:=Lib.hid (resB HB6.out HXs.out.1 (.int .u8 tk) (.string ⟨tnm.toArray⟩) (.int .i64 tn) (.bool false))
     go_wp2_with (go_at_call 116;refine (swant_yes _ _).mono ?_;rintro e w99 ⟨rfl,rfl⟩)
     refine bodyPost_ret (v:=.agg #[.int .u8 tk,.string ⟨tnm.toArray⟩,.int .i64 tn,.bool false]) (by simp[results,Tryz.results156,go_sem,y0,y1,y2,y3]) rfl ?_
     exact⟨rfl,HF.out⟩
    |none=>
     rw[hf]at hV2
     have HVn:=Lib.hid hV2
     rintro e w5 ⟨hE,hb5⟩
     obtain rfl:e=.returned (.tuple #[.agg #[.int .u8 0,.string ⟨([]:List UInt8).toArray⟩,.int .i64 0],.bool false]):=hE
     obtain⟨w6,hw6⟩:∃w6,w5.alloc (.cells #[.int .u8 0,.string ⟨([]:List UInt8).toArray⟩,.int .i64 0] 39 (0,0))=w6:=⟨_,rfl⟩
     have hb6:Below wr.heap.size wr w6:=by rw[←hw6];exact hb5.alloc hb5.size _
     have HB6:=Lib.hid hb6
     have hE6:=HE.out.below hb6
     have hlk:=tyMap_look (w:=w6.drew) hE6.sc.shs HOk.out.1
     have k6:=cell_at hE6.sc.k 6
     have hx:=(hb6.block X (lt_blk HXr.out)).trans HXr.out
     have r2:=cell_at hx 2
     have hz:=(hb6.block (X+1) (lt_blk HZ.out)).trans HZ.out
     obtain⟨T,hT⟩:∃T,w5.heap.size=T:=⟨_,rfl⟩
     have x6:w6.heap[T]? =some (.cells #[.int .u8 0,.string ⟨([]:List UInt8).toArray⟩,.int .i64 0] 39 (0,0)):=by rw[←hw6,←hT];exact heap_alloc_new w5 _
     have HT6:=Lib.hid x6
     have f0:=frz_at x6 0
     have f1:=frz_at x6 1
     have f2:=frz_at x6 2
     have c0:=cell_at x6 0
     have c1:=cell_at x6 1
     have c2:=cell_at x6 2
     simp only[sl7,sl8,sl9]at r2 k6 c0 c1 c2
     have HN6:=Lib.hid (And.intro hT hw6)
     have HTl:Hid (wr.heap.size≤T):=Lib.hid (by rw[←hT];exact hb5.size)
     clear hb5 hb6 hE6 hx hz hw6 hT x6 hf
     go_wp2_with fail
     simp only[HN6.out.1,HN6.out.2]
     go_region
     have HU:Hid (∀t,shOf p nm=some t→(shOf p nm).getD ty0=t):=Lib.hid fun t h=>by rw[h];rfl
     generalize (shOf p nm).getD ty0=u at*
     obtain⟨w7,hw7⟩:∃w7,(((w6.setCell ⟨T,0,none⟩ (.int .u8 u.k)).setCell ⟨T,1,none⟩ (.string ⟨u.nm.toArray⟩)).setCell ⟨T,2,none⟩ (.int .i64 u.n)).drew=w7:=⟨_,rfl⟩
     rw[hw7]
     have row:=row_set (row_set (row_set HT6.out 0 (.int .u8 u.k)) 1 (.string ⟨u.nm.toArray⟩)) 2 (.int .i64 u.n)
     have hb7:Below wr.heap.size wr w7:=by
      rw[←hw7]
      exact (((HB6.out.setCell (p:=⟨T,0,none⟩) HTl.out _).setCell (p:=⟨T,1,none⟩) HTl.out _).setCell (p:=⟨T,2,none⟩) HTl.out _).drew
     have t0:w7.cell? ⟨T,0,none⟩=some (.int .u8 u.k):=by rw[←hw7];exact cell_at row 0
     have t1:w7.cell? ⟨T,1,none⟩=some (.string ⟨u.nm.toArray⟩):=by rw[←hw7];exact cell_at row 1
     have t2:w7.cell? ⟨T,2,none⟩=some (.int .i64 u.n):=by rw[←hw7];exact cell_at row 2
     have HB7:=Lib.hid (HB.out.trans (hb7.mono HB.out.size))
     have HZ7:=Lib.hid ((hb7.block (X+1) (lt_blk HZ.out)).trans HZ.out)
     clear f0 f1 f2 c0 c1 c2 hlk k6 r2 row hb7 hw7 HZ
     have HZ:=HZ7
     have hV3:=HVn.out
     cases hs:shOf p nm with
     |some t=>
      rw[hs]at hV3
      obtain rfl:u=t:=HU.out t hs
      obtain rfl:Except.ok ⟨u,false⟩=V:=hV3
      obtain⟨tk,tnm,tn⟩:=u
      dsimp only at t0 t1 t2
      clear hs
      go_wp2_with fail
      refine (swant_yes 9 _).mono ?_
      rintro e w99 ⟨rfl,rfl⟩
      have F:=resF HZ.out (tk) tnm (tn) false
      obtain⟨f0,f1,f2,f3,c0,c1,c2,c3,y0,y1,y2,y3⟩:=F
      have HF:=Lib.hid (resB HB7.out HXs.out.1 (.int .u8 (tk)) (.string ⟨(tnm).toArray⟩) (.int .i64 (tn)) (.bool false))
      exact qwq6k_5
     |none=>
      rw[hs]at hV3
      obtain rfl:Except.error 9=V:=hV3
      clear hs
      go_wp2_with fail
      refine (swant_no 9 _).mono ?_
      rintro e w99 ⟨rfl,rfl⟩
      exact⟨rfl,rfl,HB7.out⟩
   ·
    have hl2:args.length=1:=hln.1 (Or.inl rfl)
    have hV2:(if (ss.getD 0 numS).t.k≠2 then Except.error 10 else fieldR p nm (ss.getD 0 numS).t)=V:=by
     have h:=HVs.out
     rw[exEnd,if_neg (by decide),if_neg (by decide),if_neg (by decide),if_pos rfl]at h
     exact h
    have hsl2:ss.length=1:=HLs.out.trans hl2
    obtain⟨u,rfl⟩:∃u,ss=[u]:=by
     match ss,hsl2 with
     |[u],_=>exact⟨u,rfl⟩
    have HV:Hid ((if u.t.k≠2 then Except.error 10 else fieldR p nm u.t)=V):=Lib.hid hV2
    have hOks:=HOks.out u (by simp)
    obtain⟨ab,ao,hA,hab,hac⟩:=HA.out (by simp)
    simp only[Option.some.injEq,Addr.mk.injEq,and_true]at hA
    obtain⟨rfl,rfl⟩:=hA
    obtain⟨a0,a1,a2,a3⟩:=hac 0 u rfl
    simp only[Nat.zero_mul,Nat.add_zero,Nat.zero_add,Nat.one_mul]at a0 a1 a2 a3
    have p1:(0:Int)<(args.length:Int):=by omega
    clear hl2 hV2 hsl2 hac hab a2 a3
    by_cases hk2:u.t.k=2
    ·have e2:(u.t.k==2)=true:=by simpa using hk2
     have HV2:Hid (fieldR p nm u.t=V):=Lib.hid (by rw[←HV.out,if_neg (fun h=>h hk2)])
     have hlk:=intMap_look (w:=wr.drew) HE.out.sc.recs hOks
     have k4:=cell_at HE.out.sc.k 4
     simp only[sl7,sl8,sl9]at k4
     clear hk2 HV hOks
     go_wp2_with fail
     refine (swant_yes 10 _).mono ?_
     rintro e w99 ⟨rfl,rfl⟩
     clear e2
     go_wp2_with fail
     go_region
     have HZd:Hid (wr.drew.heap[X+1]? =some (.cells #[.int .u8 0,.string ⟨([]:List UInt8).toArray⟩,.int .i64 0,.bool false] 213 (0,0))):=Lib.hid HZ.out
     have HBd:Hid (Below w.heap.size w wr.drew):=Lib.hid HB.out.drew
     have HEd:Hid (ScE B Kb Rb Fb Sb p a l wr.drew):=Lib.hid (HE.out.below (Below.refl _ wr).drew)
     have HXd:Hid (wr.drew.heap[X]? =some (.cells #[.int .u8 4,.int .i64 n,.string ⟨nm.toArray⟩,.int .u8 ty.k,.string ⟨ty.nm.toArray⟩,.int .i64 ty.n,.slice d.a args.length d.c] 70 (0,0))):=Lib.hid HXr.out
     clear HZ HXr HE HB HA a0 a1 hlk k4 p1
     have hV3:=HV2.out
     unfold fieldR at hV3
     generalize wr.drew=wd at*
     cases hr:recOf p u.t.nm with
     |none=>
      rw[hr]at hV3
      obtain rfl:Except.error 9=V:=hV3
      simp only[Option.isSome_none]
      clear hr
      go_wp2_with fail
      refine (swant_no 9 _).mono ?_
      rintro e w99 ⟨rfl,rfl⟩
      exact⟨rfl,rfl,HBd.out⟩
     |some i=>
      rw[hr]at hV3
      dsimp only at hV3
      have hil:=idxOf_lt _ _ _ _ hr
      obtain⟨re,hre⟩:∃re,p.rs[i]? =some re:=⟨_,List.getElem?_eq_getElem hil⟩
      have hfs:(p.rs.map Re.fs).getD i []=re.fs:=by rw[List.getD_eq_getElem?_getD,List.getElem?_map,hre];rfl
      rw[hfs]at hV3
      obtain⟨rb,ro,hda,hrb,hrow⟩:=HEd.out.sc.inn.rrow (by intro h0;rw[h0]at hil;simp at hil)
      obtain⟨z0,z1⟩:=hrow i re hre
      have hRI:=HEd.out.sc.inn.rsub re (List.mem_of_getElem? hre)
      have k0:=cell_at HEd.out.sc.k 0
      simp only[sl7,sl8,sl9]at k0
      rw[hda]at k0
      obtain⟨rnm,rd,fs⟩:=re
      dsimp only at z0 z1 hRI hV3
      have HFs:=Lib.hid hRI.fs
      have HV0:Hid (fldEnd (fieldOf (fs.drop 0) nm)=V):=Lib.hid (by rw[List.drop_zero];exact hV3)
      have p1:(i:Int)<(p.rs.length:Int):=by omega
      have p2:(0:Int)≤(i:Int):=Int.natCast_nonneg _
      simp only[Option.isSome_some,Option.getD_some]
      clear hr hil hre hfs hda hrb hrow hRI hV3 HV2
      go_wp2_with (go_at_call 116;refine (swant_yes _ _).mono ?_;rintro e w99 ⟨rfl,rfl⟩)
      clear k0 z0 z1 p1 p2
      have p9:(fs.length:Int)≤140737488355328:=by have:=HFs.out.len;unfold lenOk at this;omega
      obtain⟨wo,hwo⟩:∃wo,wo=wd:=⟨wd,rfl⟩
      subst hwo
      go_loopw [108] (fun ii wq=>∃(j:Nat),ii=.int .i64 j∧j≤fs.length∧Hid (Below wo.heap.size wo wq)∧Hid (fldEnd (fieldOf (fs.drop j) nm)=V)) (fun ii _=>fs.length - (intOf ii).toNat)
      case atStart=>exact⟨0,rfl,Nat.zero_le _,Lib.hid (Below.refl _ _),HV0⟩
      case round=>
       obtain⟨j,rfl,hj,hBq,hV⟩:=hrel
       have q2:(0:Int)≤(j:Int):=Int.natCast_nonneg _
       by_cases hlt:j<fs.length
       ·obtain⟨f,hf⟩:∃f,fs[j]? =some f:=⟨_,List.getElem?_eq_getElem hlt⟩
        have hV1:=hV.out
        rw[fieldFrom_step fs j f hf nm]at hV1
        obtain⟨fb,fo,hfa,hfb,hfc⟩:=HFs.out.row (by intro h0;rw[h0]at hlt;simp at hlt)
        have hfb2:fb<wo.heap.size:=Nat.lt_of_lt_of_le hfb HEd.out.sc.le
        obtain⟨m0,m1,m2,m3⟩:=(hfc j f hf).keep (w':=wr) fun o'=>hBq.out.cell (p:=⟨fb,o',none⟩) hfb2
        have hb6:=hBq.out.alloc hBq.out.size (.cells #[.string ⟨f.nm.toArray⟩,.int .u8 f.t.k,.string ⟨f.t.nm.toArray⟩,.int .i64 f.t.n] 93 (0,0))
        have hx:=(hb6.block X (lt_blk HXd.out)).trans HXd.out
        have r2:=cell_at hx 2
        have hz:=(hb6.block (X+1) (lt_blk HZd.out)).trans HZd.out
        have HZ6:=Lib.hid hz
        have HB6:=Lib.hid hb6
        have HBw:=Lib.hid (HBd.out.trans (hb6.mono HBd.out.size))
        have q1:(j:Int)<(fs.length:Int):=by omega
        have hda2:rd.a=some ⟨fb,fo,none⟩:=hfa
        simp only[sl7,sl8,sl9]at r2
        clear hf hfa hfb hfb2 hfc hb6 hx hz hV hBq
        rw[hda2]
        by_cases he:nm=f.nm
        ·subst he
         rw[if_pos rfl]at hV1
         obtain rfl:Except.ok ⟨f.t,false⟩=V:=hV1
         have F:=resF HZ6.out f.t.k f.t.nm f.t.n false
         obtain⟨f0,f1,f2,f3,c0,c1,c2,c3,y0,y1,y2,y3⟩:=F
         have HF:=Lib.hid (resB HBw.out HXs.out.1 (.int .u8 f.t.k) (.string ⟨f.t.nm.toArray⟩) (.int .i64 f.t.n) (.bool false))
         clear hda2
         go_wp2_with fail
         refine bodyPost_ret (v:=.agg #[.int .u8 f.t.k,.string ⟨f.t.nm.toArray⟩,.int .i64 f.t.n,.bool false]) (by simp[results,Tryz.results156,go_sem,y0,y1,y2,y3]) rfl ?_
         exact⟨rfl,HF.out⟩
        ·rw[if_neg he]at hV1
         have HV1:=Lib.hid hV1
         have e1:(f.nm==nm)=false:=by simpa using fun h=>he h.symm
         have e2:decide (f.nm=nm)=false:=by simpa using fun h=>he h.symm
         clear he hV1 hda2
         go_wp2_with fail
         go_roundw
         case rel=>exact⟨j+1,by go_num,by omega,HB6,HV1⟩
         case measure=>simp[intOf];omega
       ·obtain rfl:j=fs.length:=by omega
        have HVn:Hid (Except.error 9=V):=Lib.hid (by have h:=hV.out;rw[List.drop_length,fieldOf]at h;exact h)
        have HBe:=Lib.hid (HBd.out.trans (hBq.out.mono HBd.out.size))
        clear hV hBq
        go_wp2_with fail
        refine (swant_no 9 _).mono ?_
        rintro e w99 ⟨rfl,rfl⟩
        exact⟨rfl,by rw[←HVn.out];rfl,HBe.out⟩
    ·have e2:(u.t.k==2)=false:=by simpa using hk2
     have HVn:Hid (V=.error 10):=Lib.hid (by rw[←HV.out,if_pos hk2])
     clear hk2 HV hOks
     go_wp2_with fail
     refine (swant_no 10 _).mono ?_
     rintro e w99 ⟨rfl,rfl⟩
     exact⟨rfl,by rw[HVn.out];rfl,HB.out⟩
   ·
    have hl2:args.length=2:=hln.2 (Or.inl rfl)
    have hV2:(if (ss.getD 0 numS).t.k=3∧ss.getD 1 numS=numS then (if (ss.getD 0 numS).t.nm=[] then Except.ok numS else Except.ok ⟨⟨2,(ss.getD 0 numS).t.nm,0⟩,false⟩) else Except.error 10)=V:=by
     have h:=HVs.out
     rw[exEnd,if_neg (by decide),if_neg (by decide),if_neg (by decide),if_neg (by decide),if_pos rfl]at h
     exact h
    have hsl2:ss.length=2:=HLs.out.trans hl2
    obtain⟨u,v,rfl⟩:∃u v,ss=[u,v]:=by
     match ss,hsl2 with
     |[u,v],_=>exact⟨u,v,rfl⟩
    have HV:Hid ((if u.t.k=3∧v=numS then (if u.t.nm=[] then Except.ok numS else Except.ok ⟨⟨2,u.t.nm,0⟩,false⟩) else Except.error 10)=V):=Lib.hid hV2
    obtain⟨ab,ao,hA,hab,hac⟩:=HA.out (by simp)
    simp only[Option.some.injEq,Addr.mk.injEq,and_true]at hA
    obtain⟨rfl,rfl⟩:=hA
    obtain⟨a0,a1,a2,a3⟩:=hac 0 u rfl
    obtain⟨b0,b1,b2,b3⟩:=hac 1 v rfl
    simp only[Nat.zero_mul,Nat.add_zero,Nat.zero_add,Nat.one_mul]at a0 a1 a2 a3 b0 b1 b2 b3
    have p1:(0:Int)<(args.length:Int):=by omega
    have p2:(1:Int)<(args.length:Int):=by omega
    obtain⟨g0,g1,g2,g3,-⟩:=HE.out.num
    have HS:Hid (IxS (X+1+1) u v wr.drew):=Lib.hid ⟨a0,b0,b1,b2,b3,g0,g1,g2,g3⟩
    have hEq:∀W,(binOp .eql 213 (.agg #[.int .u8 v.t.k,.string ⟨v.t.nm.toArray⟩,.int .i64 v.t.n,.bool v.null]) (.agg #[.int .u8 1,.string ⟨#[]⟩,.int .i64 0,.bool false])).run Tryz.prog W=.ok (.bool (decide (v=numS))) W:=fun W=>eqlS v numS W
    clear hl2 hV2 hsl2 hac hab g0 g1 g2 g3 b0 b1 b2 b3 a0 a2 a3
    by_cases hk3:u.t.k=3
    ·have e3:(u.t.k==3)=true:=by simpa using hk3
     have HK3:=Lib.hid hk3
     clear hk3
     by_cases hvn:v=numS
     ·have hdv:decide (v=numS)=true:=by simpa using hvn
      rw[hdv]at hEq
      have HVn:=Lib.hid hvn
      clear hvn hdv
      go_wp2_with fail
      refine wp_region_L (l:=13) (S:=(IxS (X+1+1) u v)) (by kernel_rfl) ?_ (fun hHeld=>?_)
      ·((try dsimp only);(exact HS.out))
      refine tk 0 ?_
      try simp only[sl1,sl2,sl3,Act.put,sl4,sl5,sl6]
      refine tk 1 ?_
      try simp only[sl1,sl2,sl3,Act.put,sl4,sl5,sl6]
      refine tk 2 ?_
      try simp only[sl1,sl2,sl3,Act.put,sl4,sl5,sl6]
      refine tk 3 ?_
      try simp only[sl1,sl2,sl3,Act.put,sl4,sl5,sl6]
      refine tk 4 ?_
      try simp only[sl1,sl2,sl3,Act.put,sl4,sl5,sl6]
      refine tk 5 ?_
      try simp only[sl1,sl2,sl3,Act.put,sl4,sl5,sl6]
      refine tk 6 ?_
      try simp only[sl1,sl2,sl3,Act.put,sl4,sl5,sl6]
      refine tk 7 ?_
      try simp only[sl1,sl2,sl3,Act.put,sl4,sl5,sl6]
      refine tk 8 ?_
      try simp only[sl1,sl2,sl3,Act.put,sl4,sl5,sl6]
      refine tk 9 ?_
      try simp only[sl1,sl2,sl3,Act.put,sl4,sl5,sl6]
      refine tk 10 ?_
      try simp only[sl1,sl2,sl3,Act.put,sl4,sl5,sl6]
      refine tk 11 ?_
      try simp only[sl1,sl2,sl3,Act.put,sl4,sl5,sl6]
      refine tk 12 ?_
      try simp only[sl1,sl2,sl3,Act.put,sl4,sl5,sl6]
      refine wpAnyL_last (j:=13) (o:=_) (by kernel_rfl) rfl (by rfl) (by kernel_rfl) (fun K hK=>?_)
      (go_simp;go_at_call 116;refine (swant_yes 10 _).mono ?_;rintro e w99 ⟨rfl,rfl⟩)
      (refine hK _ _ ?_;clear hK K)
      try simp only[sl1,sl2,sl3,Act.put,sl4,sl5,sl6]
      have hV3:=HV.out
      rw[if_pos ⟨HK3.out,HVn.out⟩]at hV3
      have HZd:Hid (wr.drew.heap[X+1]? =some (.cells #[.int .u8 0,.string ⟨([]:List UInt8).toArray⟩,.int .i64 0,.bool false] 213 (0,0))):=Lib.hid HZ.out
      have HBd:Hid (Below w.heap.size w wr.drew):=Lib.hid HB.out.drew
      obtain⟨g0,g1,g2,g3,-⟩:=(HE.out.below (Below.refl _ wr).drew).num
      have a1d:wr.drew.cell? ⟨X+1+1,1,none⟩=some (.string ⟨u.t.nm.toArray⟩):=a1
      clear HZ a1 hEq p1 p2 e3 hHeld HS
      have HZ:=HZd
      clear HZd
      generalize wr.drew=wd at*
      by_cases hnm:u.t.nm=[]
      ·rw[if_pos hnm]at hV3
       obtain rfl:Except.ok numS=V:=hV3
       have hne:u.t.nm.isEmpty=true:=by simpa using hnm
       rw[hnm]at a1d
       clear hnm
       have F:=resF HZ.out (1) ([]:List UInt8) (0) false
       obtain⟨f0,f1,f2,f3,c0,c1,c2,c3,y0,y1,y2,y3⟩:=F
       have HF:=Lib.hid (resB HBd.out HXs.out.1 (.int .u8 (1)) (.string ⟨(([]:List UInt8)).toArray⟩) (.int .i64 (0)) (.bool false))
       exact qwq6k_4
      ·rw[if_neg hnm]at hV3
       obtain rfl:Except.ok ⟨⟨2,u.t.nm,0⟩,false⟩=V:=hV3
       have hne:u.t.nm.isEmpty=false:=by simpa using hnm
       clear hnm
       have F:=resF HZ.out (2) u.t.nm (0) false
       obtain⟨f0,f1,f2,f3,c0,c1,c2,c3,y0,y1,y2,y3⟩:=F
       have HF:=Lib.hid (resB HBd.out HXs.out.1 (.int .u8 (2)) (.string ⟨(u.t.nm).toArray⟩) (.int .i64 (0)) (.bool false))
       go_wp2_with fail
       refine bodyPost_ret (v:=.agg #[.int .u8 (2),.string ⟨(u.t.nm).toArray⟩,.int .i64 (0),.bool false]) (by simp[results,Tryz.results156,go_sem,y0,y1,y2,y3]) rfl ?_
       exact⟨rfl,HF.out⟩
     ·have hdv:decide (v=numS)=false:=by simpa using hvn
      rw[hdv]at hEq
      have HVn:Hid (V=.error 10):=Lib.hid (by rw[←HV.out,if_neg (fun h=>hvn h.2)])
      clear hvn hdv
      go_wp2_with fail
      refine wp_region_L (l:=13) (S:=(IxS (X+1+1) u v)) (by kernel_rfl) ?_ (fun hHeld=>?_)
      ·((try dsimp only);(exact HS.out))
      refine tk 0 ?_
      try simp only[sl1,sl2,sl3,Act.put,sl4,sl5,sl6]
      refine tk 1 ?_
      try simp only[sl1,sl2,sl3,Act.put,sl4,sl5,sl6]
      refine tk 2 ?_
      try simp only[sl1,sl2,sl3,Act.put,sl4,sl5,sl6]
      refine tk 3 ?_
      try simp only[sl1,sl2,sl3,Act.put,sl4,sl5,sl6]
      refine tk 4 ?_
      try simp only[sl1,sl2,sl3,Act.put,sl4,sl5,sl6]
      refine tk 5 ?_
      try simp only[sl1,sl2,sl3,Act.put,sl4,sl5,sl6]
      refine tk 6 ?_
      try simp only[sl1,sl2,sl3,Act.put,sl4,sl5,sl6]
      refine tk 7 ?_
      try simp only[sl1,sl2,sl3,Act.put,sl4,sl5,sl6]
      refine tk 8 ?_
      try simp only[sl1,sl2,sl3,Act.put,sl4,sl5,sl6]
      refine tk 9 ?_
      try simp only[sl1,sl2,sl3,Act.put,sl4,sl5,sl6]
      refine tk 10 ?_
      try simp only[sl1,sl2,sl3,Act.put,sl4,sl5,sl6]
      refine tk 11 ?_
      exact qwq6k_2
    ·have e3:(u.t.k==3)=false:=by simpa using hk3
     have HVn:Hid (V=.error 10):=Lib.hid (by rw[←HV.out,if_neg (fun h=>hk3 h.1)])
     clear hk3
     go_wp2_with fail
     refine wp_region_L (l:=13) (S:=(IxS (X+1+1) u v)) (by kernel_rfl) ?_ (fun hHeld=>?_)
     ·((try dsimp only);(exact HS.out))
     refine tk 0 ?_
     try simp only[sl1,sl2,sl3,Act.put,sl4,sl5,sl6]
     refine tk 1 ?_
     try simp only[sl1,sl2,sl3,Act.put,sl4,sl5,sl6]
     refine tk 2 ?_
     try simp only[sl1,sl2,sl3,Act.put,sl4,sl5,sl6]
     refine tk 3 ?_
     try simp only[sl1,sl2,sl3,Act.put,sl4,sl5,sl6]
     refine tk 4 ?_
     try simp only[sl1,sl2,sl3,Act.put,sl4,sl5,sl6]
     refine tk 5 ?_
     try simp only[sl1,sl2,sl3,Act.put,sl4,sl5,sl6]
     refine tk 6 ?_
     try simp only[sl1,sl2,sl3,Act.put,sl4,sl5,sl6]
     refine tk0 7 ?_
     try simp only[sl1,sl2,sl3,Act.put,sl4,sl5,sl6]
     refine tk0 8 ?_
     try simp only[sl1,sl2,sl3,Act.put,sl4,sl5,sl6]
     refine tk0 9 ?_
     try simp only[sl1,sl2,sl3,Act.put,sl4,sl5,sl6]
     refine tk0 10 ?_
     try simp only[sl1,sl2,sl3,Act.put,sl4,sl5,sl6]
     refine tk0 11 ?_
     exact qwq6k_2
   ·
    have hV2:(if knownT p ty then Except.ok ⟨ty,false⟩ else Except.error 9)=V:=by have h:=HVs.out;rw[exEnd,if_neg (by decide),if_neg (by decide),if_neg (by decide),if_neg (by decide),if_neg (by decide),if_pos rfl]at h;exact h
    have r3:=cell_at HXr.out 3
    have r4:=cell_at HXr.out 4
    have r5:=cell_at HXr.out 5
    simp only[sl7,sl8,sl9]at r3 r4 r5
    go_wp2_with fail
    cases hkn:knownT p ty with
    |true=>
     rw[hkn]at hV2
     obtain rfl:Except.ok ⟨ty,false⟩=V:=hV2
     refine (sknown_any B Kb Rb Fb Sb p ty wr HE.out.sc HOk.out.2.nm).mono ?_
     rw[hkn]
     rintro e w5 ⟨hE,hb5⟩
     obtain rfl:e=.returned (.tuple #[]):=hE
     have HB5:=Lib.hid (HB.out.trans (hb5.mono HB.out.size))
     have hx5:=(hb5.block X (lt_blk HXr.out)).trans HXr.out
     have HZ5:=Lib.hid ((hb5.block (X+1) (lt_blk HZ.out)).trans HZ.out)
     clear r0 r3 r4 r5 hb5
     have r3:=cell_at hx5 3
     have r4:=cell_at hx5 4
     have r5:=cell_at hx5 5
     simp only[sl7,sl8,sl9]at r3 r4 r5
     clear hx5 HZ
     have HZ:=HZ5
     clear hkn
     obtain⟨tk,tnm,tn⟩:=ty
     have F:=resF HZ.out (tk) tnm (tn) false
     obtain⟨f0,f1,f2,f3,c0,c1,c2,c3,y0,y1,y2,y3⟩:=F
     have HF:=Lib.hid (resB HB5.out HXs.out.1 (.int .u8 (tk)) (.string ⟨(tnm).toArray⟩) (.int .i64 (tn)) (.bool false))
     exact qwq6k_5
    |false=>
     rw[hkn]at hV2
     obtain rfl:Except.error 9=V:=hV2
     refine (sknown_any B Kb Rb Fb Sb p ty wr HE.out.sc HOk.out.2.nm).mono ?_
     rw[hkn]
     rintro e w5 ⟨hE,hb5⟩
     obtain rfl:e=faultS 9:=hE
     exact⟨rfl,rfl,HB.out.trans (hb5.mono HB.out.size)⟩
   ·
    have hV2:callS p nm ss=V:=by have h:=HVs.out;rw[exEnd,if_neg (by decide),if_neg (by decide),if_neg (by decide),if_neg (by decide),if_neg (by decide),if_neg (by decide),if_pos rfl]at h;exact h
    have r2:=cell_at HXr.out 2
    simp only[sl7,sl8,sl9]at r2
    have C:=scopeCall_any B Kb Rb Fb Sb p nm (some ⟨X+1+1,0,none⟩) args.length ss wr HE.out.sc HOk.out.1 HA.out (by rw[HLs.out];unfold lenOk;omega)
    rw[HLs.out,hV2]at C
    clear hV2
    go_wp2_with fail
    refine C.mono ?_
    rintro e w5 ⟨hE,hb5⟩
    have HB5:=Lib.hid (HB.out.trans (hb5.mono HB.out.size))
    cases V with
    |error er=>
     obtain rfl:e=faultS er:=hE
     exact⟨rfl,rfl,HB5.out⟩
    |ok s=>
     obtain rfl:e=.returned s.val:=hE
     have HZ5:=Lib.hid ((hb5.block (X+1) (lt_blk HZ.out)).trans HZ.out)
     clear hb5 HZ C r0 r2
     have HZ:=HZ5
     obtain⟨⟨tk,tnm,tn⟩,nb⟩:=s
     have F:=resF HZ.out (tk) tnm (tn) nb
     obtain⟨f0,f1,f2,f3,c0,c1,c2,c3,y0,y1,y2,y3⟩:=F
     have HF:=Lib.hid (resB HB5.out HXs.out.1 (.int .u8 (tk)) (.string ⟨(tnm).toArray⟩) (.int .i64 (tn)) (.bool nb))
     go_wp2_with fail
     refine bodyPost_ret (v:=.agg #[.int .u8 (tk),.string ⟨(tnm).toArray⟩,.int .i64 (tn),.bool nb]) (by simp[results,Tryz.results156,go_sem,y0,y1,y2,y3]) rfl ?_
     exact⟨rfl,HF.out⟩
   ·
    have hl2:args.length=2:=hln.2 (Or.inr (by omega))
    have hV2:(if ss.getD 0 numS=ss.getD 1 numS∨((ss.getD 0 numS).null=true∧(ss.getD 1 numS).ref=true)∨((ss.getD 1 numS).null=true∧(ss.getD 0 numS).ref=true) then Except.ok numS else Except.error 10)=V:=by
     have h:=HVs.out
     rw[exEnd,if_neg (by omega),if_neg (by omega),if_neg (by omega),if_neg (by omega),if_neg (by omega),if_neg (by omega),if_neg (by omega),if_pos hb]at h
     exact h
    have hsl2:ss.length=2:=HLs.out.trans hl2
    obtain⟨u,v,rfl⟩:∃u v,ss=[u,v]:=by
     match ss,hsl2 with
     |[u,v],_=>exact⟨u,v,rfl⟩
    obtain⟨ab,ao,hA,hab,hac⟩:=HA.out (by simp)
    simp only[Option.some.injEq,Addr.mk.injEq,and_true]at hA
    obtain⟨rfl,rfl⟩:=hA
    obtain⟨a0,a1,a2,a3⟩:=hac 0 u rfl
    obtain⟨b0,b1,b2,b3⟩:=hac 1 v rfl
    simp only[Nat.zero_mul,Nat.add_zero,Nat.zero_add,Nat.one_mul]at a0 a1 a2 a3 b0 b1 b2 b3
    have k1:(k==1)=false:=by simp;omega
    have k2:(k==2)=false:=by simp;omega
    have k3:(k==3)=false:=by simp;omega
    have k4:(k==4)=false:=by simp;omega
    have k5:(k==5)=false:=by simp;omega
    have k6:(k==6)=false:=by simp;omega
    have k7:(k==7)=false:=by simp;omega
    have p1:(0:Int)<(args.length:Int):=by omega
    have p2:(1:Int)<(args.length:Int):=by omega
    have HKb:Hid (((k==15)=true∨((k==15)=false∧(k==16)=true))):=Lib.hid (by rcases hb with h|h<;>simp[h])
    clear hb hkk hln hl2 hsl2 hac hab
    have HV:Hid ((if u=v∨(u.null=true∧v.ref=true)∨(v.null=true∧u.ref=true) then Except.ok numS else Except.error 10)=V):=Lib.hid hV2
    clear hV2
    rcases HKb.out with k15|⟨k15,k16⟩
    all_goals
     go_upto_region 42 with fail
     clear k1 k2 k3 k4 k5 k6 k7 k15 r0
     go_cut [17,18] from 168 (fun s17 s18 wx=>∃x y,s17=.pointer (some ⟨x,0,none⟩)∧s18=.pointer (some ⟨y,0,none⟩)∧Hid (Below wr.heap.size wr wx)∧Hid (SrtAt wx x 0 u)∧Hid (SrtAt wx y 0 v))
     case first=>
      have hlt:=World.block_lt_of_cell? _ _ a0
      dsimp only at hlt
      have A1:∀o i,(wr.alloc o).cell? ⟨X+1+1,i,none⟩=wr.cell? ⟨X+1+1,i,none⟩:=fun o i=>World.cell?_alloc_lt _ _ _ hlt
      have A2:∀o o' i,((wr.alloc o).alloc o').cell? ⟨X+1+1,i,none⟩=wr.cell? ⟨X+1+1,i,none⟩:=fun o o' i=>(World.cell?_alloc_lt _ _ _ (by rw[World.size_alloc];exact Nat.lt_succ_of_lt hlt)).trans (A1 o i)
      go_region
      ·go_wp2_with fail
       go_meet
       have h:=two_boxes wr u v
       exact⟨_,_,rfl,rfl,Lib.hid h.1,Lib.hid h.2.1,Lib.hid h.2.2⟩
      ·go_wp2_with fail
       go_meet
       have h:=two_boxes wr v u
       exact⟨_,_,rfl,rfl,Lib.hid h.1,Lib.hid h.2.2,Lib.hid h.2.1⟩
     case rest=>
      obtain⟨x,y,rfl,rfl,HBx,HX,HY⟩:=hcut
      have hEq:∀W,(binOp .eql 213 (.agg #[.int .u8 u.t.k,.string ⟨u.t.nm.toArray⟩,.int .i64 u.t.n,.bool u.null]) (.agg #[.int .u8 v.t.k,.string ⟨v.t.nm.toArray⟩,.int .i64 v.t.n,.bool v.null])).run Tryz.prog W=.ok (.bool (decide (u=v))) W:=fun W=>eqlS u v W
      obtain⟨x0,x1,x2,x3⟩:=HX.out
      obtain⟨y0,y1,y2,y3⟩:=HY.out
      simp only[Nat.zero_add]at x0 x1 x2 x3 y0 y1 y2 y3
      have HVd:Hid (V=if (decide (u=v)||((u.null&&v.ref)||(v.null&&u.ref))) then Except.ok numS else Except.error 10):=Lib.hid (by rw[←HV.out];simp)
      have HVR:Hid (v.null=true→v.ref=true):=Lib.hid fun h=>by simp[Srt.ref,h]
      have CU:=Lib.hid (fun W=>sref_any u W)
      have CV:=Lib.hid (fun W=>sref_any v W)
      dsimp only[Srt.val]at CU CV
      generalize u.ref=ur at*
      generalize v.ref=vr at*
      generalize decide (u=v)=bb at*
      generalize hub:u.null=ub at*
      generalize hvb:v.null=vb at*
      have HNu:=Lib.hid hub
      have HNv:=Lib.hid hvb
      clear hub hvb
      cases bb with
      |true=>
       go_wp2_with fail
       refine (swant_yes 10 _).mono ?_
       rintro e w99 ⟨rfl,rfl⟩
       have HB2:=Lib.hid (HB.out.trans (HBx.out.mono HB.out.size))
       have hz:=(HBx.out.block (X+1) (lt_blk HZ.out)).trans HZ.out
       have HZ2:=Lib.hid hz
       obtain⟨g0,g1,g2,g3,-⟩:=(HE.out.below HBx.out).num
       obtain rfl:V=Except.ok numS:=by rw[HVd.out];simp
       clear hz HZ x0 x1 x2 x3 y0 y1 y2 y3
       have HZ:=HZ2
       exact qwq6k_1
      |false=>
       cases ub with
       |true=>
        go_wp2_with fail
        refine (CV.out _).mono ?_
        rintro e w5 ⟨rfl,hb5⟩
        have HB5:=Lib.hid (HBx.out.trans (hb5.mono HBx.out.size))
        have HX5:=HX.out.keep fun o'=>hb5.cell (p:=⟨x,o',none⟩) (World.block_lt_of_cell? wc ⟨x,0,none⟩ HX.out.c0:x<_)
        have HY5:=HY.out.keep fun o'=>hb5.cell (p:=⟨y,o',none⟩) (World.block_lt_of_cell? wc ⟨y,0,none⟩ HY.out.c0:y<_)
        clear x0 x1 x2 x3 y0 y1 y2 y3 hb5
        obtain⟨x0,x1,x2,x3⟩:=HX5
        obtain⟨y0,y1,y2,y3⟩:=HY5
        simp only[Nat.zero_add]at x0 x1 x2 x3 y0 y1 y2 y3
        rw[HNu.out]at x3
        rw[HNv.out]at y3
        cases vr with
        |true=>
         exact qwq6k_3
        |false=>
         cases vb with
         |true=>exact absurd (HVR.out rfl) (by simp)
         |false=>
          go_wp2_with fail
          refine (swant_no 10 _).mono ?_
          rintro e w99 ⟨rfl,rfl⟩
          exact⟨rfl,by rw[HVd.out];rfl,HB.out.trans (HB5.out.mono HB.out.size)⟩
       |false=>
        cases vb with
        |true=>
         go_wp2_with fail
         refine (CU.out _).mono ?_
         rintro e w5 ⟨rfl,hb5⟩
         have HB5:=Lib.hid (HBx.out.trans (hb5.mono HBx.out.size))
         have HX5:=HX.out.keep fun o'=>hb5.cell (p:=⟨x,o',none⟩) (World.block_lt_of_cell? wc ⟨x,0,none⟩ HX.out.c0:x<_)
         have HY5:=HY.out.keep fun o'=>hb5.cell (p:=⟨y,o',none⟩) (World.block_lt_of_cell? wc ⟨y,0,none⟩ HY.out.c0:y<_)
         clear x0 x1 x2 x3 y0 y1 y2 y3 hb5
         obtain⟨x0,x1,x2,x3⟩:=HX5
         obtain⟨y0,y1,y2,y3⟩:=HY5
         simp only[Nat.zero_add]at x0 x1 x2 x3 y0 y1 y2 y3
         rw[HNu.out]at x3
         rw[HNv.out]at y3
         cases ur with
         |true=>
          exact qwq6k_3
         |false=>
          go_wp2_with fail
          refine (swant_no 10 _).mono ?_
          rintro e w99 ⟨rfl,rfl⟩
          exact⟨rfl,by rw[HVd.out];rfl,HB.out.trans (HB5.out.mono HB.out.size)⟩
        |false=>
         go_wp2_with fail
         refine (swant_no 10 _).mono ?_
         rintro e w99 ⟨rfl,rfl⟩
         exact⟨rfl,by rw[HVd.out];rfl,HB.out.trans (HBx.out.mono HB.out.size)⟩
   ·
    have hV2:(if ss.all (fun s=>decide (s=numS)) then Except.ok numS else Except.error 10)=V:=by
     have h:=HVs.out
     rw[exEnd,if_neg (by omega),if_neg (by omega),if_neg (by omega),if_neg (by omega),if_neg (by omega),if_neg (by omega),if_neg (by omega),if_neg (by omega)]at h
     exact h
    have HV0:Hid ((if (ss.drop 0).all (fun s=>decide (s=numS)) then Except.ok numS else Except.error 10)=V):=Lib.hid (by rw[List.drop_zero];exact hV2)
    have k1:(k==1)=false:=by simp;omega
    have k2:(k==2)=false:=by simp;omega
    have k3:(k==3)=false:=by simp;omega
    have k4:(k==4)=false:=by simp;omega
    have k5:(k==5)=false:=by simp;omega
    have k6:(k==6)=false:=by simp;omega
    have k7:(k==7)=false:=by simp;omega
    have k15:(k==15)=false:=by simp;omega
    have k16:(k==16)=false:=by simp;omega
    clear hV2 hb hkk hln
    go_wp2_with fail
    clear k1 k2 k3 k4 k5 k6 k7 k15 k16 r0
    obtain⟨wo,hwo⟩:∃wo,wo=wr:=⟨wr,rfl⟩
    subst hwo
    have hp3:args.length≤140737488355328:=by omega
    go_loopw [197] (fun ii wq=>∃(j:Nat),ii=.int .i64 j∧j≤args.length∧Hid (Below wo.heap.size wo wq)∧Hid ((if (ss.drop j).all (fun s=>decide (s=numS)) then Except.ok numS else Except.error 10)=V)) (fun ii _=>args.length - (intOf ii).toNat)
    case atStart=>exact⟨0,rfl,Nat.zero_le _,Lib.hid (Below.refl _ _),HV0⟩
    case round=>
     obtain⟨j,rfl,hj,hBq,hV⟩:=hrel
     have p2:(0:Int)≤(j:Int):=Int.natCast_nonneg _
     by_cases hlt:j<args.length
     ·have hlt2:j<ss.length:=by rw[HLs.out];exact hlt
      obtain⟨s,hs⟩:∃s,ss[j]? =some s:=⟨_,List.getElem?_eq_getElem hlt2⟩
      have hdrop:ss.drop j=s::ss.drop (j+1):=by
       have:=List.drop_eq_getElem_cons hlt2
       rw[List.getElem?_eq_getElem hlt2]at hs
       injection hs with hs
       rw[this,hs]
      have hV1:=hV.out
      rw[hdrop,List.all_cons]at hV1
      obtain⟨ab,ao,hA,hab,hac⟩:=HA.out.below hBq.out (by intro h0;rw[h0]at hlt2;simp at hlt2)
      simp only[Option.some.injEq,Addr.mk.injEq,and_true]at hA
      obtain⟨rfl,rfl⟩:=hA
      obtain⟨a0,a1,a2,a3⟩:=hac j s hs
      rw[Nat.zero_add]at a0 a1 a2 a3
      obtain⟨g0,g1,g2,g3,-⟩:=(HE.out.below hBq.out).num
      have hb6:=(Below.refl wr.heap.size wr).alloc (Nat.le_refl _) (.cells #[.int .u8 s.t.k,.string ⟨s.t.nm.toArray⟩,.int .i64 s.t.n,.bool s.null] 213 (0,0))
      obtain⟨n0,n1,n2,n3,-⟩:=((HE.out.below hBq.out).below hb6).num
      have HB6:Hid (Below wo.heap.size wo (wr.alloc (.cells #[.int .u8 s.t.k,.string ⟨s.t.nm.toArray⟩,.int .i64 s.t.n,.bool s.null] 213 (0,0)))):=Lib.hid (hBq.out.trans (hb6.mono hBq.out.size))
      have HBA:Hid (∀o,Below w.heap.size w (wr.alloc o)):=Lib.hid fun o=>(HB.out.trans (hBq.out.mono HB.out.size)).alloc (Nat.le_trans HB.out.size hBq.out.size) o
      have p1:(j:Int)<(args.length:Int):=by omega
      clear hdrop hs hb6 hV hBq
      by_cases hsn:s=numS
      ·subst hsn
       have HV1:Hid ((if (ss.drop (j+1)).all (fun s=>decide (s=numS)) then Except.ok numS else Except.error 10)=V):=Lib.hid (by simpa using hV1)
       clear hV1
       go_wp2_with fail
       refine (swant_yes 10 _).mono ?_
       rintro e w99 ⟨rfl,rfl⟩
       go_wp2_with fail
       go_roundw
       case rel=>exact⟨j+1,by go_num,by omega,HB6,HV1⟩
       case measure=>simp[intOf];omega
      ·have HVe:Hid (V=.error 10):=Lib.hid (by rw[←hV1];simp[hsn])
       have HSn:=Lib.hid hsn
       clear hV1 hsn
       go_wp2_with fail
       all_goals first
        |(refine (swant_no 10 _).mono ?_
          rintro e w99 ⟨rfl,rfl⟩
          exact⟨rfl,by rw[HVe.out];rfl,HBA.out _⟩)
        |(exfalso
          apply HSn.out
          obtain⟨⟨sk,snm,sn⟩,sl⟩:=s
          simp_all[numS,numT])
     ·obtain rfl:j=args.length:=by omega
      have HVk:Hid (Except.ok numS=V):=Lib.hid (by have h:=hV.out;rw[←HLs.out,List.drop_length]at h;simpa using h)
      have hz:=(hBq.out.block (X+1) (lt_blk HZ.out)).trans HZ.out
      have HZ2:=Lib.hid hz
      have HB2:=Lib.hid (HB.out.trans (hBq.out.mono HB.out.size))
      obtain⟨g0,g1,g2,g3,-⟩:=(HE.out.below hBq.out).num
      clear hV hz HZ hBq
      have HZ:=HZ2
      obtain rfl:Except.ok numS=V:=HVk.out
      exact qwq6k_1
end Go.Proofs.YtkklogikakcanaaGreatDoor
