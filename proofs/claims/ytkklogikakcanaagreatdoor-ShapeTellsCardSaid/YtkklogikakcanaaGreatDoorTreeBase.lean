import Derived.Test.YtkklogikakcanaaGreatDoorProg
import Derived.Test.YtkklogikakcanaaGreatDoorTreePlain
import Derived.WalkKit
import Derived.WalkLawsBesides
import Derived.WalkSpells
import Derived.Deep.QuietTactic
import Derived.BigQuiet
import Derived.Lib.Hide
set_option linter.unusedVariables false
set_option linter.unusedSimpArgs false
namespace Go.Proofs.YtkklogikakcanaaGreatDoor
open Go.RowKit
def i64ok (n:Int):Prop:=-9223372036854775808≤n∧n≤9223372036854775807
def u8ok (n:Int):Prop:=0≤n∧n≤255
def lenOk (n:Nat):Prop:=n≤140737488355328
structure Ty.Ok (t:Ty):Prop where
 k:u8ok t.k
 nm:lenOk t.nm.length
 n:i64ok t.n
abbrev strV (l:List UInt8):Value:=.string ⟨l.toArray⟩
abbrev Ty.val (t:Ty):Value:=.agg #[.int .u8 t.k,.string ⟨t.nm.toArray⟩,.int .i64 t.n]
abbrev exAgg (k n:Int) (nm:List UInt8) (tk:Int) (tnm:List UInt8) (tn:Int) (A:Option Addr) (l c:Nat):Value:=.agg #[.int .u8 k,.int .i64 n,.string ⟨nm.toArray⟩,.int .u8 tk,.string ⟨tnm.toArray⟩,.int .i64 tn,.slice A l c]
abbrev Ex.val (x:Ex):Value:=exAgg x.k x.n x.nm x.t.k x.t.nm x.t.n x.d.a x.args.length x.d.c
abbrev stAgg (k:Int) (nm:List UInt8) (t:Ty) (x y:Ex) (A:Option Addr) (l c:Nat) (B:Option Addr) (m e:Nat):Value:=
 .agg #[.int .u8 k,.string ⟨nm.toArray⟩,.int .u8 t.k,.string ⟨t.nm.toArray⟩,.int .i64 t.n,.int .u8 x.k,.int .i64 x.n,.string ⟨x.nm.toArray⟩,.int .u8 x.t.k,.string ⟨x.t.nm.toArray⟩,.int .i64 x.t.n,.slice x.d.a x.args.length x.d.c,
  .int .u8 y.k,.int .i64 y.n,.string ⟨y.nm.toArray⟩,.int .u8 y.t.k,.string ⟨y.t.nm.toArray⟩,.int .i64 y.t.n,.slice y.d.a y.args.length y.d.c,.slice A l c,.slice B m e]
abbrev St.val (s:St):Value:=stAgg s.k s.nm s.t s.x s.y s.bd.a s.body.length s.bd.c s.ed.a s.els.length s.ed.c
abbrev Fl.val (f:Fl):Value:=.agg #[.string ⟨f.nm.toArray⟩,.int .u8 f.t.k,.string ⟨f.t.nm.toArray⟩,.int .i64 f.t.n]
abbrev Re.val (r:Re):Value:=.agg #[.string ⟨r.nm.toArray⟩,.slice r.d.a r.fs.length r.d.c]
abbrev Fu.val (f:Fu):Value:=.agg #[.string ⟨f.nm.toArray⟩,.slice f.pd.a f.ps.length f.pd.c,.int .u8 f.t.k,.string ⟨f.t.nm.toArray⟩,.int .i64 f.t.n,.slice f.bd.a f.body.length f.bd.c]
abbrev Th.val (t:Th):Value:=.slice t.d.a t.l.length t.d.c
abbrev Pr.val (p:Pr):Value:=.agg #[.slice p.rd.a p.rs.length p.rd.c,.slice p.sd.a p.ss.length p.sd.c,.slice p.fd.a p.fs.length p.fd.c,.slice p.td.a p.ts.length p.td.c]
structure TyAt (w:World) (b o:Nat) (t:Ty):Prop where
 c0:w.cell? ⟨b,o,none⟩=some (.int .u8 t.k)
 c1:w.cell? ⟨b,o+1,none⟩=some (.string ⟨t.nm.toArray⟩)
 c2:w.cell? ⟨b,o+2,none⟩=some (.int .i64 t.n)
structure ExAt (w:World) (b o:Nat) (x:Ex):Prop where
 c0:w.cell? ⟨b,o,none⟩=some (.int .u8 x.k)
 c1:w.cell? ⟨b,o+1,none⟩=some (.int .i64 x.n)
 c2:w.cell? ⟨b,o+2,none⟩=some (.string ⟨x.nm.toArray⟩)
 c3:w.cell? ⟨b,o+3,none⟩=some (.int .u8 x.t.k)
 c4:w.cell? ⟨b,o+4,none⟩=some (.string ⟨x.t.nm.toArray⟩)
 c5:w.cell? ⟨b,o+5,none⟩=some (.int .i64 x.t.n)
 c6:w.cell? ⟨b,o+6,none⟩=some (.slice x.d.a x.args.length x.d.c)
structure StAt (w:World) (b o:Nat) (s:St):Prop where
 c0:w.cell? ⟨b,o,none⟩=some (.int .u8 s.k)
 c1:w.cell? ⟨b,o+1,none⟩=some (.string ⟨s.nm.toArray⟩)
 c2:w.cell? ⟨b,o+2,none⟩=some (.int .u8 s.t.k)
 c3:w.cell? ⟨b,o+3,none⟩=some (.string ⟨s.t.nm.toArray⟩)
 c4:w.cell? ⟨b,o+4,none⟩=some (.int .i64 s.t.n)
 x:ExAt w b (o+5) s.x
 y:ExAt w b (o+12) s.y
 c19:w.cell? ⟨b,o+19,none⟩=some (.slice s.bd.a s.body.length s.bd.c)
 c20:w.cell? ⟨b,o+20,none⟩=some (.slice s.ed.a s.els.length s.ed.c)
structure FlAt (w:World) (b o:Nat) (f:Fl):Prop where
 c0:w.cell? ⟨b,o,none⟩=some (.string ⟨f.nm.toArray⟩)
 c1:w.cell? ⟨b,o+1,none⟩=some (.int .u8 f.t.k)
 c2:w.cell? ⟨b,o+2,none⟩=some (.string ⟨f.t.nm.toArray⟩)
 c3:w.cell? ⟨b,o+3,none⟩=some (.int .i64 f.t.n)
structure ReAt (w:World) (b o:Nat) (r:Re):Prop where
 c0:w.cell? ⟨b,o,none⟩=some (.string ⟨r.nm.toArray⟩)
 c1:w.cell? ⟨b,o+1,none⟩=some (.slice r.d.a r.fs.length r.d.c)
structure FuAt (w:World) (b o:Nat) (f:Fu):Prop where
 c0:w.cell? ⟨b,o,none⟩=some (.string ⟨f.nm.toArray⟩)
 c1:w.cell? ⟨b,o+1,none⟩=some (.slice f.pd.a f.ps.length f.pd.c)
 c2:w.cell? ⟨b,o+2,none⟩=some (.int .u8 f.t.k)
 c3:w.cell? ⟨b,o+3,none⟩=some (.string ⟨f.t.nm.toArray⟩)
 c4:w.cell? ⟨b,o+4,none⟩=some (.int .i64 f.t.n)
 c5:w.cell? ⟨b,o+5,none⟩=some (.slice f.bd.a f.body.length f.bd.c)
structure ThAt (w:World) (b o:Nat) (t:Th):Prop where
 c0:w.cell? ⟨b,o,none⟩=some (.slice t.d.a t.l.length t.d.c)
theorem TyAt.keep {w w':World} {b o:Nat} {t:Ty} (h:TyAt w b o t) (hk:∀o',w'.cell? ⟨b,o',none⟩=w.cell? ⟨b,o',none⟩):TyAt w' b o t:=
 ⟨(hk _).trans h.c0,(hk _).trans h.c1,(hk _).trans h.c2⟩
theorem ExAt.keep {w w':World} {b o:Nat} {x:Ex} (h:ExAt w b o x) (hk:∀o',w'.cell? ⟨b,o',none⟩=w.cell? ⟨b,o',none⟩):ExAt w' b o x:=
 ⟨(hk _).trans h.c0,(hk _).trans h.c1,(hk _).trans h.c2,(hk _).trans h.c3,(hk _).trans h.c4,(hk _).trans h.c5,(hk _).trans h.c6⟩
theorem StAt.keep {w w':World} {b o:Nat} {s:St} (h:StAt w b o s) (hk:∀o',w'.cell? ⟨b,o',none⟩=w.cell? ⟨b,o',none⟩):StAt w' b o s:=
 ⟨(hk _).trans h.c0,(hk _).trans h.c1,(hk _).trans h.c2,(hk _).trans h.c3,(hk _).trans h.c4,h.x.keep hk,h.y.keep hk,(hk _).trans h.c19,(hk _).trans h.c20⟩
theorem FlAt.keep {w w':World} {b o:Nat} {f:Fl} (h:FlAt w b o f) (hk:∀o',w'.cell? ⟨b,o',none⟩=w.cell? ⟨b,o',none⟩):FlAt w' b o f:=
 ⟨(hk _).trans h.c0,(hk _).trans h.c1,(hk _).trans h.c2,(hk _).trans h.c3⟩
theorem ReAt.keep {w w':World} {b o:Nat} {r:Re} (h:ReAt w b o r) (hk:∀o',w'.cell? ⟨b,o',none⟩=w.cell? ⟨b,o',none⟩):ReAt w' b o r:=
 ⟨(hk _).trans h.c0,(hk _).trans h.c1⟩
theorem FuAt.keep {w w':World} {b o:Nat} {f:Fu} (h:FuAt w b o f) (hk:∀o',w'.cell? ⟨b,o',none⟩=w.cell? ⟨b,o',none⟩):FuAt w' b o f:=
 ⟨(hk _).trans h.c0,(hk _).trans h.c1,(hk _).trans h.c2,(hk _).trans h.c3,(hk _).trans h.c4,(hk _).trans h.c5⟩
theorem ThAt.keep {w w':World} {b o:Nat} {t:Th} (h:ThAt w b o t) (hk:∀o',w'.cell? ⟨b,o',none⟩=w.cell? ⟨b,o',none⟩):ThAt w' b o t:=
 ⟨(hk _).trans h.c0⟩
def RowIn {α:Type} (At:World→Nat→Nat→α→Prop) (k:Nat) (w:World) (B:Nat) (d:Hd) (l:List α):Prop:=
 l≠[]→∃b off,d.a=some ⟨b,off,none⟩∧b<B∧∀i y,l[i]? =some y→At w b (off+i*k) y
theorem RowIn.keep {α:Type} {At:World→Nat→Nat→α→Prop} {k:Nat} {w w':World} {B B':Nat} {d:Hd} {l:List α}
  (hkeep:∀b o y,At w b o y→(∀o',w'.cell? ⟨b,o',none⟩=w.cell? ⟨b,o',none⟩)→At w' b o y)
  (h:RowIn At k w B d l) (hb:Below B w w') (hB:B≤B'):RowIn At k w' B' d l:=fun hne=>by
 obtain⟨b,off,e,hlt,hc⟩:=h hne
 exact⟨b,off,e,by omega,fun i y hy=>hkeep _ _ _ (hc i y hy) fun o'=>hb.cell (p:=⟨b,o',none⟩) hlt⟩
inductive ExIn (w:World) (B:Nat):Ex→Prop where
 |mk {k n:Int} {nm:List UInt8} {t:Ty} {d:Hd} {args:List Ex} (hk:u8ok k) (hn:i64ok n) (hnm:lenOk nm.length) (ht:t.Ok) (hl:lenOk args.length)
   (row:RowIn ExAt 7 w B d args) (sub:∀y,y∈args→ExIn w B y):ExIn w B (.mk k n nm t d args)
inductive StIn (w:World) (B:Nat):St→Prop where
 |mk {k:Int} {nm:List UInt8} {t:Ty} {x y:Ex} {bd:Hd} {body:List St} {ed:Hd} {els:List St} (hk:u8ok k) (hnm:lenOk nm.length) (ht:t.Ok)
   (hx:ExIn w B x) (hy:ExIn w B y) (hbl:lenOk body.length) (hel:lenOk els.length)
   (brow:RowIn StAt 21 w B bd body) (erow:RowIn StAt 21 w B ed els) (bsub:∀s,s∈body→StIn w B s) (esub:∀s,s∈els→StIn w B s):StIn w B (.mk k nm t x y bd body ed els)
structure Fl.Ok (f:Fl):Prop where
 nm:lenOk f.nm.length
 t:f.t.Ok
structure FlsIn (w:World) (B:Nat) (d:Hd) (l:List Fl):Prop where
 len:lenOk l.length
 row:RowIn FlAt 4 w B d l
 sub:∀f,f∈l→f.Ok
structure StsIn (w:World) (B:Nat) (d:Hd) (l:List St):Prop where
 len:lenOk l.length
 row:RowIn StAt 21 w B d l
 sub:∀s,s∈l→StIn w B s
structure ReIn (w:World) (B:Nat) (r:Re):Prop where
 nm:lenOk r.nm.length
 fs:FlsIn w B r.d r.fs
structure FuIn (w:World) (B:Nat) (f:Fu):Prop where
 nm:lenOk f.nm.length
 ps:FlsIn w B f.pd f.ps
 t:f.t.Ok
 body:StsIn w B f.bd f.body
structure PrIn (w:World) (B:Nat) (p:Pr):Prop where
 rlen:lenOk p.rs.length
 rrow:RowIn ReAt 2 w B p.rd p.rs
 rsub:∀r,r∈p.rs→ReIn w B r
 ss:FlsIn w B p.sd p.ss
 flen:lenOk p.fs.length
 frow:RowIn FuAt 6 w B p.fd p.fs
 fsub:∀f,f∈p.fs→FuIn w B f
 tlen:lenOk p.ts.length
 trow:RowIn ThAt 1 w B p.td p.ts
 tsub:∀t,t∈p.ts→StsIn w B t.d t.l
theorem ExIn.keep {w w':World} {B B':Nat} {x:Ex} (h:ExIn w B x) (hb:Below B w w') (hB:B≤B'):ExIn w' B' x:=by
 induction h with
 |mk hk hn hnm ht hl row _ ih=>exact .mk hk hn hnm ht hl (row.keep (fun _ _ _ h hk=>h.keep hk) hb hB) ih
theorem StIn.keep {w w':World} {B B':Nat} {s:St} (h:StIn w B s) (hb:Below B w w') (hB:B≤B'):StIn w' B' s:=by
 induction h with
 |mk hk hnm ht hx hy hbl hel brow erow _ _ ih1 ih2=>
  exact .mk hk hnm ht (hx.keep hb hB) (hy.keep hb hB) hbl hel (brow.keep (fun _ _ _ h hk=>h.keep hk) hb hB) (erow.keep (fun _ _ _ h hk=>h.keep hk) hb hB) ih1 ih2
theorem FlsIn.keep {w w':World} {B B':Nat} {d:Hd} {l:List Fl} (h:FlsIn w B d l) (hb:Below B w w') (hB:B≤B'):FlsIn w' B' d l:=
 ⟨h.len,h.row.keep (fun _ _ _ h hk=>h.keep hk) hb hB,h.sub⟩
theorem StsIn.keep {w w':World} {B B':Nat} {d:Hd} {l:List St} (h:StsIn w B d l) (hb:Below B w w') (hB:B≤B'):StsIn w' B' d l:=
 ⟨h.len,h.row.keep (fun _ _ _ h hk=>h.keep hk) hb hB,fun s hs=>(h.sub s hs).keep hb hB⟩
theorem ReIn.keep {w w':World} {B B':Nat} {r:Re} (h:ReIn w B r) (hb:Below B w w') (hB:B≤B'):ReIn w' B' r:=⟨h.nm,h.fs.keep hb hB⟩
theorem FuIn.keep {w w':World} {B B':Nat} {f:Fu} (h:FuIn w B f) (hb:Below B w w') (hB:B≤B'):FuIn w' B' f:=⟨h.nm,h.ps.keep hb hB,h.t,h.body.keep hb hB⟩
theorem PrIn.keep {w w':World} {B B':Nat} {p:Pr} (h:PrIn w B p) (hb:Below B w w') (hB:B≤B'):PrIn w' B' p:=
 ⟨h.rlen,h.rrow.keep (fun _ _ _ h hk=>h.keep hk) hb hB,fun r hr=>(h.rsub r hr).keep hb hB,h.ss.keep hb hB,h.flen,h.frow.keep (fun _ _ _ h hk=>h.keep hk) hb hB,
  fun f hf=>(h.fsub f hf).keep hb hB,h.tlen,h.trow.keep (fun _ _ _ h hk=>h.keep hk) hb hB,fun t ht=>(h.tsub t ht).keep hb hB⟩
theorem ExIn.k {w:World} {B:Nat} {x:Ex} (h:ExIn w B x):u8ok x.k:=by cases h;assumption
theorem ExIn.n {w:World} {B:Nat} {x:Ex} (h:ExIn w B x):i64ok x.n:=by cases h;assumption
theorem ExIn.nm {w:World} {B:Nat} {x:Ex} (h:ExIn w B x):lenOk x.nm.length:=by cases h;assumption
theorem ExIn.t {w:World} {B:Nat} {x:Ex} (h:ExIn w B x):x.t.Ok:=by cases h;assumption
theorem ExIn.len {w:World} {B:Nat} {x:Ex} (h:ExIn w B x):lenOk x.args.length:=by cases h;assumption
theorem ExIn.row {w:World} {B:Nat} {x:Ex} (h:ExIn w B x):RowIn ExAt 7 w B x.d x.args:=by cases h;assumption
theorem ExIn.sub {w:World} {B:Nat} {x:Ex} (h:ExIn w B x):∀y,y∈x.args→ExIn w B y:=by cases h;assumption
theorem StIn.body {w:World} {B:Nat} {s:St} (h:StIn w B s):StsIn w B s.bd s.body:=by cases h;exact⟨by assumption,by assumption,by assumption⟩
theorem StIn.els {w:World} {B:Nat} {s:St} (h:StIn w B s):StsIn w B s.ed s.els:=by cases h;exact⟨by assumption,by assumption,by assumption⟩
theorem StIn.k {w:World} {B:Nat} {s:St} (h:StIn w B s):u8ok s.k:=by cases h;assumption
theorem StIn.nm {w:World} {B:Nat} {s:St} (h:StIn w B s):lenOk s.nm.length:=by cases h;assumption
theorem StIn.t {w:World} {B:Nat} {s:St} (h:StIn w B s):s.t.Ok:=by cases h;assumption
theorem StIn.x {w:World} {B:Nat} {s:St} (h:StIn w B s):ExIn w B s.x:=by cases h;assumption
theorem StIn.y {w:World} {B:Nat} {s:St} (h:StIn w B s):ExIn w B s.y:=by cases h;assumption
end Go.Proofs.YtkklogikakcanaaGreatDoor
