import Derived.Test.YtkklogikakcanaaGreatDoorTreeE
import Derived.Defers
import Derived.Recover
import Derived.Laws.Pointers
import Derived.Laws.Rows
import Derived.Laws.Tables
import Derived.Laws.Cells
set_option linter.unusedVariables false
set_option linter.unusedSimpArgs false
open List renaming getElem?_toArray → sl7, getElem?_cons_zero → sl8
namespace Go.Proofs.YtkklogikakcanaaGreatDoor
open Go.RowKit
theorem tassert_yes (er:Int) (w:World):(Instr.typeAssert (.iface 159 (.int .i64 er)) 20 159 true).run Tryz.prog w=.ok (.tuple #[.int .i64 er,.bool true]) w:=by first|kernel_rfl|rfl
theorem tassert_no (w:World):(Instr.typeAssert .nilIface 20 159 true).run Tryz.prog w=.ok (.tuple #[.int .i64 0,.bool false]) w:=by first|kernel_rfl|rfl
set_option maxRecDepth 100000 in
theorem tcatch_panic (p:Addr) (x er:Int) (older:List PanicEntry) (w:World) (hc:w.cell? p=some (.int .i64 x)) (hz:w.frozen? p=false):
  CallsD Tryz.prog 109 #[.pointer (some p)] (.panicking ({ v:=.iface 159 (.int .i64 er),recovered:=false }::older)) w fun e u' w'=>
   e=.returned (.tuple #[])∧u'=.panicking ({ v:=.iface 159 (.int .i64 er),recovered:=true }::older)∧w'=w.setCell p (.int .i64 er):=by
 refine callsD_of_wpS Tryz.func109 rfl fun c₀ cs hu=>?_
 apply wpS_seq
 apply wpS_region
 have ta:=tassert_yes
 have tb:=tassert_no
 simp[wpOpsS,go_sem,recoverD,hu,Tryz.ntmps109,Exit.thenS,ta,tb]
 apply wpS_seq
 apply wpS_region
 simp[wpOpsS,go_sem,Exit.thenS]
 refine wpS_cond (t:=true) (by simp[Act.eval,Array.replicate]) ?_
 simp only[if_true]
 apply wpS_region
 simp[wpOpsS,go_sem,hc,hz,bodyPostS,results,Tryz.results109]
set_option maxRecDepth 100000 in
theorem tcatch_idle (p:Addr) (w:World):
  CallsD Tryz.prog 109 #[.pointer (some p)] .returning w fun e u' w'=>e=.returned (.tuple #[])∧u'=.returning∧w'=w:=by
 refine callsD_of_wpS Tryz.func109 rfl fun c₀ cs hu=>?_
 apply wpS_seq
 apply wpS_region
 have ta:=tassert_yes
 have tb:=tassert_no
 simp[wpOpsS,go_sem,recoverD,hu,Tryz.ntmps109,Exit.thenS,ta,tb]
 apply wpS_seq
 apply wpS_region
 simp[wpOpsS,go_sem,Exit.thenS]
 refine wpS_cond (t:=false) (by simp[Act.eval,Array.replicate]) ?_
 simp only[Bool.false_eq_true,if_false]
 refine wpS_of_wp (wp_skip ?_)
 cases c₀
 simp_all[bodyPostS,results,Tryz.results109]
end Go.Proofs.YtkklogikakcanaaGreatDoor
namespace Go.Proofs.YtkklogikakcanaaGreatDoor
open Go.RowKit
abbrev exObj (x:Ex):Obj:=.cells #[.int .u8 x.k,.int .i64 x.n,.string ⟨x.nm.toArray⟩,.int .u8 x.t.k,.string ⟨x.t.nm.toArray⟩,.int .i64 x.t.n,.slice x.d.a x.args.length x.d.c] 70 (0,0)
end Go.Proofs.YtkklogikakcanaaGreatDoor
namespace Go.Proofs.YtkklogikakcanaaGreatDoor
open Go.RowKit
mutual
theorem chkSt_p:∀(s:St) (deep:Nat) (a a':At),chkSt s deep a=.on a'→a'.p+a.it+1≤a.p+a'.it∧a.p≤a'.p
 |.mk k nm t x y bd body ed els,deep,a,a',h=>by
  rw[chkSt]at h
  cases hi:itemC deep a.it with
  |error e=>rw[hi]at h;cases h
  |ok it=>
   rw[hi]at h
   dsimp only at h
   obtain⟨hi1,hi2,-⟩:=itemC_ok hi
   split at h
   ·cases h
   ·split at h
    ·cases h
    ·cases hx:(if k=5∨((k=1∨k=7)∧noEx x=true) then Chk.on ⟨a.p,it⟩ else chkXt x ⟨a.p,it⟩) with
     |bad p e=>rw[hx]at h;cases h
     |on a1=>
      rw[hx]at h
      dsimp only at h
      cases hy:(if k=2 then chkXt y a1 else Chk.on a1) with
      |bad p e=>rw[hy]at h;cases h
      |on a2=>
       rw[hy]at h
       dsimp only at h
       cases hb:chkSts body (deep+1) a2 with
       |bad p e=>rw[hb]at h;cases h
       |on a3=>
        rw[hb]at h
        have e1:a1.p=a.p∧it≤a1.it:=by
         split at hx
         ·injection hx with hx;subst hx;exact⟨rfl,Nat.le_refl _⟩
         ·obtain⟨m,hm,rfl⟩:=chkXt_on hx
          have h2:=chkEx_ok x 1 it m hm
          exact⟨rfl,by dsimp only;omega⟩
        have e2:a2.p=a1.p∧a1.it≤a2.it:=by
         split at hy
         ·obtain⟨m,hm,rfl⟩:=chkXt_on hy
          have h2:=chkEx_ok y 1 a1.it m hm
          exact⟨rfl,by dsimp only;omega⟩
         ·injection hy with hy;subst hy;exact⟨rfl,Nat.le_refl _⟩
        have e3:=chkSts_p body (deep+1) a2 a3 hb
        have e4:=chkSts_p els (deep+1) a3 a' h
        omega
theorem chkSts_p:∀(l:List St) (deep:Nat) (a a':At),chkSts l deep a=.on a'→a'.p+a.it≤a.p+a'.it∧a.p≤a'.p
 |[],deep,a,a',h=>by
  rw[chkSts]at h
  injection h with h
  subst h
  omega
 |s::r,deep,a,a',h=>by
  obtain⟨a1,h1,h2⟩:=chkSts_on h
  have e1:=chkSt_p s deep _ a1 h1
  have e2:=chkSts_p r deep a1 a' h2
  dsimp only at e1
  omega
end
def PlAt (Pb:Nat) (p:Int) (W:World):Prop:=W.heap[Pb]? =some (.cells #[.int .i64 p] 3 (0,0))
theorem PlAt.lt {Pb:Nat} {p:Int} {W:World} (h:PlAt Pb p W):Pb<W.heap.size:=(Array.getElem?_eq_some_iff.1 h).1
theorem PlAt.set {Pb:Nat} {p:Int} {W:World} (h:PlAt Pb p W) (q:Int):PlAt Pb q (W.setCell ⟨Pb,0,none⟩ (.int .i64 q)):=by
 have:=row_set h 0 (.int .i64 q)
 simpa [PlAt] using this
theorem at_any (Pb:Nat) (p:Int) (w:World) (h:PlAt Pb p w) (h1: -1≤p) (h2:p≤1000000):
  Calls Tryz.prog 76 #[.pointer (some ⟨Pb,0,none⟩)] w fun e w'=>e=.returned (.tuple #[])∧w'=w.setCell ⟨Pb,0,none⟩ (.int .i64 (p+1)):=by
 have c0:=cell_at h 0
 have f0:=frz_at h 0
 simp only[sl7,sl8]at c0
 clear h
 go_enter Tryz.func76,Tryz.ntmps76
 go_wp2
 go_end0
 exact⟨rfl,rfl⟩
abbrev KpP (Wb Pb:Nat):World→World→Prop:=Kept (fun k=>k=Wb∨k=Pb)
structure TwP (B Wb Mb Pb it:Nat) (p:Int) (W:World):Prop where
 tw:TwS B Wb Mb it W
 pl:PlAt Pb p W
 hBP:B≤Pb
 hPM:Pb<Mb
section
variable {B Wb Mb Pb it it2:Nat} {p p2:Int} {W W' W1:World}
theorem TwP.hPW (h:TwP B Wb Mb Pb it p W):Pb≠Wb:=Nat.ne_of_lt (Nat.lt_trans h.hPM h.tw.hMW)
theorem KpP.ofW (h:KpW Wb W W'):KpP Wb Pb W W':=h.mono fun k _ hk=>Or.inl hk
theorem TwP.blw (h:TwP B Wb Mb Pb it p W) (hk:KpP Wb Pb W W'):Below B W W':=
 Kept.below hk h.tw.g.le (fun k hh=>by
  have h1:=h.hBP
  have h2:=h.hPM
  have h3:=h.tw.hMW
  rcases hh with rfl|rfl<;>omega)
theorem TwP.kept (h:TwP B Wb Mb Pb it p W) (hk:KpP Wb Pb W W') (hw:WkAt Wb Mb it2 W') (hp:PlAt Pb p2 W'):TwP B Wb Mb Pb it2 p2 W':=
 ⟨⟨hw,ValMap.of_block h.tw.kinds (hk.block Mb (ValMap.lt h.tw.kinds) (fun hh=>by
  have h2:=h.hPM
  have h3:=h.tw.hMW
  rcases hh with hh|hh<;>omega)),h.tw.g.below (h.blw hk),h.tw.hBM,h.tw.hMW⟩,hp,h.hBP,h.hPM⟩
theorem TwP.ofW (h:TwP B Wb Mb Pb it p W) (hk:KpW Wb W W') (hw:WkAt Wb Mb it2 W'):TwP B Wb Mb Pb it2 p W':=
 h.kept (KpP.ofW hk) hw ((hk.block Pb h.pl.lt h.hPW).trans h.pl)
theorem TwP.below (h:TwP B Wb Mb Pb it p W) (hb:Below W.heap.size W W'):TwP B Wb Mb Pb it p W':=h.ofW (Kept.of_below hb) ((hb.block Wb h.tw.wk.lt).trans h.tw.wk)
theorem TwP.next (h:TwP B Wb Mb Pb it p W):TwP B Wb Mb Pb (it+1) p (W.setCell ⟨Wb,0,none⟩ (.int .i64 ((it:Int)+1))):=h.ofW (KpW.set (Kept.refl _ _) 0 _) h.tw.wk.next
theorem KpP.setP (h:KpP Wb Pb W1 W) (u:Value):KpP Wb Pb W1 (W.setCell ⟨Pb,0,none⟩ u):=Kept.setCell (S:=fun k=>k=Wb∨k=Pb) h (p:=⟨Pb,0,none⟩) (Or.inl (Or.inr rfl)) u
theorem KpP.setW (h:KpP Wb Pb W1 W) (j:Nat) (u:Value):KpP Wb Pb W1 (W.setCell ⟨Wb,j,none⟩ u):=Kept.setCell (S:=fun k=>k=Wb∨k=Pb) h (p:=⟨Wb,j,none⟩) (Or.inl (Or.inl rfl)) u
theorem TwP.step (h:TwP B Wb Mb Pb it p W):TwP B Wb Mb Pb it (p+1) (W.setCell ⟨Pb,0,none⟩ (.int .i64 (p+1))):=
 h.kept (KpP.setP (Kept.refl _ _) _) ((Below.heap_setCell _ _ _ _ h.hPW.symm).trans h.tw.wk) (h.pl.set (p+1))
theorem TwP.lt (h:TwP B Wb Mb Pb it p W):Pb<W.heap.size∧Wb<W.heap.size:=⟨h.pl.lt,h.tw.wk.lt⟩
end
def SEnds (Wb Mb Pb:Nat) (r:Chk) (e:Ending) (w':World):Prop:=match r with
 |.on a=>e=.returned (.tuple #[])∧WkAt Wb Mb a.it w'∧PlAt Pb a.p w'
 |.bad q er=>e=faultE er∧PlAt Pb q w'
theorem SEnds.bad {Wb Mb Pb:Nat} {r:Chk} {q er:Int} {w':World} (h:r=.bad q er) (hp:PlAt Pb q w'):SEnds Wb Mb Pb r (faultE er) w':=by subst h;exact⟨rfl,hp⟩
theorem SEnds.good {Wb Mb Pb:Nat} {r:Chk} {a:At} {w':World} (h:r=.on a) (hw:WkAt Wb Mb a.it w') (hp:PlAt Pb a.p w'):SEnds Wb Mb Pb r (.returned (.tuple #[])) w':=by subst h;exact⟨rfl,hw,hp⟩
theorem stCounts_mem:∀{l:List St} {y:St},y∈l→stCount y≤stCounts l
 |x::r,y,h=>by
  rw[stCounts]
  rcases List.mem_cons.1 h with rfl|h
  ·omega
  ·have:=stCounts_mem h;omega
def stRest (body els:List St) (deep:Nat) (a:At):Chk:=(chkSts body (deep+1) a).bind (chkSts els (deep+1))
section
variable {k:Int} {nm:List UInt8} {t:Ty} {x y:Ex} {bd:Hd} {body:List St} {ed:Hd} {els r:List St} {deep it1:Nat} {a:At} {e:Int}
theorem chkSts_bind {s:St}:chkSts (s::r) deep a=(chkSt s deep ⟨a.p+1,a.it⟩).bind (chkSts r deep):=by rw[chkSts];rfl
theorem chkSt_item (h:itemC deep a.it=.error e):chkSt (.mk k nm t x y bd body ed els) deep a=.bad a.p e:=by rw[chkSt,h]
theorem chkSt_form (h:itemC deep a.it=.ok it1) (hf:stForm (.mk k nm t x y bd body ed els)=false):chkSt (.mk k nm t x y bd body ed els) deep a=.bad a.p 1:=by
 rw[chkSt,h];dsimp only;rw[if_pos hf]
theorem chkSt_ty (h:itemC deep a.it=.ok it1) (hf:stForm (.mk k nm t x y bd body ed els)=true) (hk:k=1) (ht:tyForm t≠0):chkSt (.mk k nm t x y bd body ed els) deep a=.bad a.p (tyForm t):=by
 rw[chkSt,h];dsimp only;rw[if_neg (by rw[hf];decide),if_pos ⟨hk,ht⟩]
theorem chkSt_go (h:itemC deep a.it=.ok it1) (hf:stForm (.mk k nm t x y bd body ed els)=true) (ht:k=1→tyForm t=0):
  chkSt (.mk k nm t x y bd body ed els) deep a=(if k=5∨((k=1∨k=7)∧noEx x=true) then Chk.on ⟨a.p,it1⟩ else chkXt x ⟨a.p,it1⟩).bind fun a1=>(if k=2 then chkXt y a1 else Chk.on a1).bind fun a2=>stRest body els deep a2:=by
 rw[chkSt,h];dsimp only;rw[if_neg (by rw[hf];decide),if_neg (fun hh=>hh.2 (ht hh.1))]
 rfl
theorem chkXt_ok {m:Nat} (h:chkEx x 1 a.it=.ok m):chkXt x a=.on ⟨a.p,m⟩:=by unfold chkXt;rw[h]
theorem chkXt_bad (h:chkEx x 1 a.it=.error e):chkXt x a=.bad a.p e:=by unfold chkXt;rw[h]
end
end Go.Proofs.YtkklogikakcanaaGreatDoor
namespace Go.Proofs.YtkklogikakcanaaGreatDoor
open Go.RowKit
section
variable {P:Program}
theorem run_loadVar_list (w:World) (a:Addr) (ty:TypeId) (vs:List Value) (d:TypeDesc) (hc:∀j v,vs[j]? =some v→w.cell? (a.add j)=some v)
  (hu:P.underlying ty=some d) (hd:(match d with|.struct _|.array _ _=>true|_=>false)=true) (hi:(P.info? ty).map (·.size)=some vs.length):
  (loadVar ty a).run P w=.ok (.agg vs.toArray) w:=by
 have hl:(loadCells a vs.length).run P w=.ok vs.toArray w:=run_loadCells_list (P:=P) w a vs hc
 cases hq:P.info? ty with
 |none=>simp[hq]at hi
 |some i=>
  have hs:i.size=vs.length:=by simpa [hq] using hi
  have hagg:(isAgg ty).run P w=.ok true w:=by
   unfold isAgg
   rw[Sem.run_bind,run_underlying hu w]
   cases d<;>simp_all
  simp[loadVar,Sem.run_bind,hagg,sizeOf,typeInfo,hq,hs,hl]
theorem wp_load_list {o:Oper} {a:Act} {w:World} {K:Act→World→Prop} {Q:Exit→Act→World→Prop} (ty:TypeId) (x:Operand) (ho:o.op=.load ty x)
  (p:Addr) (hx:a.eval x=.pointer (some p)) (vs:List Value) (d:TypeDesc) (hc:∀j v,vs[j]? =some v→w.cell? (p.add j)=some v)
  (hu:P.underlying ty=some d) (hd:(match d with|.struct _|.array _ _=>true|_=>false)=true) (hi:(P.info? ty).map (·.size)=some vs.length)
  (h:K (a.put o.dst (.agg vs.toArray)) w):o.wp P a w K Q:=by
 unfold Oper.wp execOp
 simp only[ho,hx,Instr.loadAt,Instr.sureAddr,Sem.run_bind,Sem.run_pure,Result.andThen_ok,run_loadVar_list w p ty vs d hc hu hd hi]
 exact h
theorem wpList_load_list {ops:Array Oper} {rest:List Oper} {o:Oper} {a:Act} {w:World} {Q:Exit→Act→World→Prop} (hgd:o.guard=none) (ty:TypeId) (x:Operand) (ho:o.op=.load ty x)
  (p:Addr) (hx:a.eval x=.pointer (some p)) (vs:List Value) (d:TypeDesc) (hc:∀j v,vs[j]? =some v→w.cell? (p.add j)=some v)
  (hu:P.underlying ty=some d) (hd:(match d with|.struct _|.array _ _=>true|_=>false)=true) (hi:(P.info? ty).map (·.size)=some vs.length)
  (h:wpList P ops Q rest (a.put o.dst (.agg vs.toArray)) w):wpList P ops Q (o::rest) a w:=
 wpList_plain hgd fun _ hK=>wp_load_list ty x ho p hx vs d hc hu hd hi (hK _ _ h)
end
theorem addr_add (b o j:Nat):(⟨b,o,none⟩:Addr).add j=⟨b,o+j,none⟩:=by unfold Addr.add;split<;>simp_all
theorem alloc_setRow (w:World) (old cs:Array Value) (t:TypeId) (g:Nat) (hg:w.heap.size=g):(w.alloc (.cells old t (0,0))).setRow g cs=w.alloc (.cells cs t (0,0)):=by
 subst hg
 unfold World.setRow World.alloc
 congr 1
 apply Array.ext_getElem?
 intro i
 simp only[Array.getElem?_modify,Array.getElem?_push]
 by_cases hi:i=w.heap.size
 ·subst hi;simp
 ·simp[Ne.symm hi,hi]
abbrev stCells (k:Int) (nm:List UInt8) (t:Ty) (x y:Ex) (A:Option Addr) (l c:Nat) (B:Option Addr) (m e:Nat):List Value:=
 [.int .u8 k,.string ⟨nm.toArray⟩,.int .u8 t.k,.string ⟨t.nm.toArray⟩,.int .i64 t.n,.int .u8 x.k,.int .i64 x.n,.string ⟨x.nm.toArray⟩,.int .u8 x.t.k,.string ⟨x.t.nm.toArray⟩,.int .i64 x.t.n,.slice x.d.a x.args.length x.d.c,
  .int .u8 y.k,.int .i64 y.n,.string ⟨y.nm.toArray⟩,.int .u8 y.t.k,.string ⟨y.t.nm.toArray⟩,.int .i64 y.t.n,.slice y.d.a y.args.length y.d.c,.slice A l c,.slice B m e]
theorem StAt.cells {w:World} {b o:Nat} {s:St} (h:StAt w b o s):∀j v,(stCells s.k s.nm s.t s.x s.y s.bd.a s.body.length s.bd.c s.ed.a s.els.length s.ed.c)[j]? =some v→w.cell? ((⟨b,o,none⟩:Addr).add j)=some v:=by
 intro j v hv
 rw[addr_add]
 match j,hv with
 |0,hv=>cases hv;exact h.c0
 |1,hv=>cases hv;exact h.c1
 |2,hv=>cases hv;exact h.c2
 |3,hv=>cases hv;exact h.c3
 |4,hv=>cases hv;exact h.c4
 |5,hv=>cases hv;exact h.x.c0
 |6,hv=>cases hv;exact h.x.c1
 |7,hv=>cases hv;exact h.x.c2
 |8,hv=>cases hv;exact h.x.c3
 |9,hv=>cases hv;exact h.x.c4
 |10,hv=>cases hv;exact h.x.c5
 |11,hv=>cases hv;exact h.x.c6
 |12,hv=>cases hv;exact h.y.c0
 |13,hv=>cases hv;exact h.y.c1
 |14,hv=>cases hv;exact h.y.c2
 |15,hv=>cases hv;exact h.y.c3
 |16,hv=>cases hv;exact h.y.c4
 |17,hv=>cases hv;exact h.y.c5
 |18,hv=>cases hv;exact h.y.c6
 |19,hv=>cases hv;exact h.c19
 |20,hv=>cases hv;exact h.c20
 |n+21,hv=>simp at hv
theorem stSize (k:Int) (nm:List UInt8) (t:Ty) (x y:Ex) (A:Option Addr) (l c:Nat) (B:Option Addr) (m e:Nat):(Tryz.prog.info? 72).map (·.size)=some (stCells k nm t x y A l c B m e).length:=by kernel_rfl
theorem stSizeA (k:Int) (nm:List UInt8) (t:Ty) (x y:Ex) (A:Option Addr) (l c:Nat) (B:Option Addr) (m e:Nat):(Tryz.prog.info? 72).map (·.size)=some (stCells k nm t x y A l c B m e).toArray.size:=by kernel_rfl
theorem stOne (k:Int) (nm:List UInt8) (t:Ty) (x y:Ex) (A:Option Addr) (l c:Nat) (B:Option Addr) (m e:Nat):(stCells k nm t x y A l c B m e).toArray.all (·.oneCell')=true:=by simp[Value.oneCell']
theorem row_cells {w:World} {X:Nat} {vs:List Value} {T:TypeId} {fz:Nat×Nat} (h:w.heap[X]? =some (.cells vs.toArray T fz)):∀j v,vs[j]? =some v→w.cell? ((⟨X,0,none⟩:Addr).add j)=some v:=by
 intro j v hv
 rw[addr_add,Nat.zero_add,cell_at h]
 simpa using hv
end Go.Proofs.YtkklogikakcanaaGreatDoor
