import Derived.Test.YtkklogikakcanaaGreatDoorTreeBase
import Derived.Deep.Slices
import Derived.Deep.Fields
import Derived.ChangeSame
import Derived.SizedLaws
import Derived.Carry
set_option linter.unusedVariables false
set_option linter.unusedSimpArgs false
open List renaming getElem?_cons_zero → sl8
namespace Go.Proofs.YtkklogikakcanaaGreatDoor
open Go.ChangeShapes Go.WideShapes Go.Deep Go.RowKit
theorem weights_all {H:Type} {P:Program} {e:TypeId} {n:Nat}:∀{l:List (DataW H)} {d:DataW H},d∈l→n∈d.weights P e→n∈DataW.weightsAll P e l
 |x::l,d,hd,hn=>by
  simp only[DataW.weightsAll,List.mem_append]
  rcases List.mem_cons.1 hd with rfl|hd
  ·exact Or.inl hn
  ·exact Or.inr (weights_all hd hn)
theorem add_plain (b off n:Nat):(⟨b,off,none⟩:Addr).add n=⟨b,off+n,none⟩:=by
 unfold Addr.add
 split
 ·rename_i h;subst h;rfl
 ·rfl
theorem exists_list {α:Type} {P:Nat→α→Prop}:∀(n:Nat),(∀i,i<n→∃a,P i a)→∃l:List α,l.length=n∧∀i a,l[i]? =some a→P i a
 |0,_=>⟨[],rfl,fun i a h=>by simp at h⟩
 |n+1,h=>by
  obtain⟨l,hl,hp⟩:=exists_list n fun i hi=>h i (by omega)
  obtain⟨a,ha⟩:=h n (by omega)
  refine⟨l++[a],by simp[hl],fun i b hb=>?_⟩
  rcases Nat.lt_or_ge i l.length with h1|h1
  ·rw[List.getElem?_append_left h1]at hb;exact hp i b hb
  ·rw[List.getElem?_append_right h1]at hb
   have:i - l.length=0:=by
    have:=(List.getElem?_eq_some_iff.1 hb).1
    simp at this;omega
   rw[this]at hb
   simp only[sl8,Option.some.injEq]at hb
   subst hb
   have:i=n:=by omega
   subst this;exact ha
theorem ok64_of_wf {x:Int} (h:(Lit.int .i64 x).wf=true):i64ok x:=by
 have e1:IntKind.i64.min= -9223372036854775808:=by decide
 have e2:IntKind.i64.max=9223372036854775807:=by decide
 simp[Lit.wf,e1,e2]at h
 exact⟨by omega,by omega⟩
theorem oku8_of_wf {x:Int} (h:(Lit.int .u8 x).wf=true):u8ok x:=by
 have e1:IntKind.u8.min=0:=by decide
 have e2:IntKind.u8.max=255:=by decide
 simp[Lit.wf,e1,e2]at h
 exact⟨by omega,by omega⟩
theorem reach_len {n:Nat} (h:n≤reachBytes):n≤140737488355328:=by
 have h2:=reachBytes_lt
 have h5:(2:Nat) ^ 47=140737488355328:=by decide
 omega
section
variable {H:Type} {enc:TypeId×Value→H} {P:Program} {w:World} {base:Nat} {spare:Nat→Bool} {held:Bool}
theorem open_row {α:Type} {At:World→Nat→Nat→α→Prop} {cells:α→List Value} {Q:α→Prop} {k:Nat} {t e:TypeId} {fuel:Nat} {cs:List Value} {x:DataW H×List MemPlace}
  (ht:P.underlying t=some (.slice e)) (hk:P.cellsOf e=k) (hk0:0<k) (hby:1≤P.bytesOf e)
  (hAt:∀(b o:Nat) (y:α),(∀j,j<k→w.cell? ⟨b,o+j,none⟩=(cells y)[j]?)→At w b o y)
  (ih:∀n,n<fuel→∀cs' y,DataW.trod enc P w base spare held n e cs'=some y→(∀m∈y.1.weights P e,m≤reachBytes)→∃a,cs'=cells a∧Q a)
  (h:DataW.trod enc P w base spare held fuel t cs=some x) (hw:∀m∈x.1.weights P t,m≤reachBytes):
  ∃(d:Hd) (l:List α),cs=[.slice d.a l.length d.c]∧lenOk l.length∧RowIn At k w w.heap.size d l∧∀a∈l,Q a:=by
 rcases DataW.trod_slice ht h with ⟨rfl,rfl⟩|⟨a,len,cap,elems,rest,n,hf,rfl,rfl,hb,hl,hm,hlen,hel,hsp,hns⟩
 ·exact⟨⟨none,0⟩,[],rfl,by simp[lenOk],fun hne=>absurd rfl hne,fun a ha=>by cases ha⟩
 ·have hlk:len≤140737488355328:=by
   have h1:=hw ((elems.length+rest.length)*P.bytesOf e) (by simp[DataW.weights,ht])
   have h1:=reach_len h1
   rw[hlen]at h1
   have h2:len*1≤(len+rest.length)*P.bytesOf e:=Nat.mul_le_mul (by omega) hby
   omega
  obtain⟨l,hll,hp⟩:=exists_list (P:=fun i (y:α)=>Q y∧w.cells? base (a.add (i*k)) k=some (cells y)) len fun i hi=>by
   have h1:=hel i hi
   rw[List.getElem?_eq_getElem (by omega),hk]at h1
   obtain⟨cs',h2,h3⟩:=Option.bind_eq_some_iff.1 h1
   obtain⟨y,hy,hq⟩:=ih n (by omega) cs' elems[i] h3 (fun m hm=>hw m (by
    simp only[DataW.weights,ht]
    exact List.mem_cons_of_mem _ (List.mem_append.2 (Or.inl (weights_all (d:=elems[i].1) (List.mem_map.2 ⟨elems[i],List.getElem_mem _,rfl⟩) hm)))))
   subst hy
   exact⟨y,hq,h2⟩
  subst hll
  have hat:∀i y,l[i]? =some y→∀j,j<k→w.cell? (a.add (i*k+j))=(cells y)[j]? :=fun i y hy j hj=>by
   obtain⟨-,-,h4⟩:=World.cells?_some (hp i y hy).2
   rw[←Go.Deep.add_add]
   exact h4 j hj
  have hcl:∀i y,l[i]? =some y→(cells y).length=k:=fun i y hy=>(World.cells?_some (hp i y hy).2).2.1
  refine⟨⟨some a,cap⟩,l,rfl,hlk,fun hne=>?_,fun y hy=>?_⟩
  ·have h0:0<l.length:=List.length_pos_iff.2 hne
   have hy0:l[0]? =some l[0]:=List.getElem?_eq_getElem h0
   have hc0:=hat 0 _ hy0 0 hk0
   rw[List.getElem?_eq_getElem (by rw[hcl 0 _ hy0];exact hk0)]at hc0
   simp only[Nat.zero_mul,Nat.zero_add]at hc0
   have hsp:=World.cell?_spot hc0
   have hlt:=World.block_lt_of_cell? _ _ hc0
   obtain⟨b,off,sp⟩:=a
   simp only[Addr.add,if_pos]at hsp hlt
   subst hsp
   refine⟨b,off,rfl,hlt,fun i y hy=>hAt _ _ _ fun j hj=>?_⟩
   have:=hat i y hy j hj
   rw[add_plain]at this
   rw[Nat.add_assoc];exact this
  ·obtain⟨i,hi,rfl⟩:=List.getElem_of_mem hy
   exact (hp i _ (List.getElem?_eq_getElem hi)).1
theorem open_field {t:TypeId} {fs:Array Field} {fuel:Nat} {cs:List Value} {x:DataW H×List MemPlace} (ht:P.underlying t=some (.struct fs)) (h:DataW.trod enc P w base spare held fuel t cs=some x) (hw:∀m∈x.1.weights P t,m≤reachBytes):
  cs.length=P.cellsOf t∧∃n,fuel=n+1∧∀(i:Nat) (f:Field),fs[i]? =some f→∃y,DataW.trod enc P w base spare held n f.type ((cs.drop f.offset).take (P.cellsOf f.type))=some y∧∀m∈y.1.weights P f.type,m≤reachBytes:=by
 obtain⟨xs,n,hf,rfl,hl,hxl,hget⟩:=DataW.trod_struct ht h
 refine⟨hl,n,hf,fun i f hi=>?_⟩
 have hlt:i<xs.length:=by rw[hxl];exact (Array.getElem?_eq_some_iff.1 hi).1
 have h1:=hget i f hi
 rw[List.getElem?_eq_getElem hlt]at h1
 refine⟨_,h1,fun m hm=>hw m ?_⟩
 simp only[DataW.weights,ht]
 exact DataW.weights_mem_each (j:=i) (by simp[hi]) (by rw[List.getElem?_map,List.getElem?_eq_getElem hlt];rfl) m hm
end
def Ty.cells (t:Ty):List Value:=[.int .u8 t.k,.string ⟨t.nm.toArray⟩,.int .i64 t.n]
def Ex.cells (x:Ex):List Value:=[.int .u8 x.k,.int .i64 x.n,.string ⟨x.nm.toArray⟩,.int .u8 x.t.k,.string ⟨x.t.nm.toArray⟩,.int .i64 x.t.n,.slice x.d.a x.args.length x.d.c]
def St.cells (s:St):List Value:=[.int .u8 s.k,.string ⟨s.nm.toArray⟩,.int .u8 s.t.k,.string ⟨s.t.nm.toArray⟩,.int .i64 s.t.n]++(s.x.cells++(s.y.cells++[.slice s.bd.a s.body.length s.bd.c,.slice s.ed.a s.els.length s.ed.c]))
def Fl.cells (f:Fl):List Value:=[.string ⟨f.nm.toArray⟩,.int .u8 f.t.k,.string ⟨f.t.nm.toArray⟩,.int .i64 f.t.n]
def Re.cells (r:Re):List Value:=[.string ⟨r.nm.toArray⟩,.slice r.d.a r.fs.length r.d.c]
def Fu.cells (f:Fu):List Value:=[.string ⟨f.nm.toArray⟩,.slice f.pd.a f.ps.length f.pd.c,.int .u8 f.t.k,.string ⟨f.t.nm.toArray⟩,.int .i64 f.t.n,.slice f.bd.a f.body.length f.bd.c]
def Th.cells (t:Th):List Value:=[.slice t.d.a t.l.length t.d.c]
def Pr.cells (p:Pr):List Value:=[.slice p.rd.a p.rs.length p.rd.c,.slice p.sd.a p.ss.length p.sd.c,.slice p.fd.a p.fs.length p.fd.c,.slice p.td.a p.ts.length p.td.c]
theorem TyAt.of {w:World} {b o:Nat} {y:Ty} (h:∀j,j<3→w.cell? ⟨b,o+j,none⟩=y.cells[j]?):TyAt w b o y:=⟨h 0 (by decide),h 1 (by decide),h 2 (by decide)⟩
theorem ExAt.of {w:World} {b o:Nat} {y:Ex} (h:∀j,j<7→w.cell? ⟨b,o+j,none⟩=y.cells[j]?):ExAt w b o y:=
 ⟨h 0 (by decide),h 1 (by decide),h 2 (by decide),h 3 (by decide),h 4 (by decide),h 5 (by decide),h 6 (by decide)⟩
theorem StAt.of {w:World} {b o:Nat} {y:St} (h:∀j,j<21→w.cell? ⟨b,o+j,none⟩=y.cells[j]?):StAt w b o y:=by
 refine⟨h 0 (by decide),h 1 (by decide),h 2 (by decide),h 3 (by decide),h 4 (by decide),.of fun j hj=>?_,.of fun j hj=>?_,h 19 (by decide),h 20 (by decide)⟩
 ·have:=h (5+j) (by omega)
  rw[Nat.add_assoc,this]
  obtain rfl|rfl|rfl|rfl|rfl|rfl|rfl:j=0∨j=1∨j=2∨j=3∨j=4∨j=5∨j=6:=by omega
  all_goals rfl
 ·have:=h (12+j) (by omega)
  rw[Nat.add_assoc,this]
  obtain rfl|rfl|rfl|rfl|rfl|rfl|rfl:j=0∨j=1∨j=2∨j=3∨j=4∨j=5∨j=6:=by omega
  all_goals rfl
theorem FlAt.of {w:World} {b o:Nat} {y:Fl} (h:∀j,j<4→w.cell? ⟨b,o+j,none⟩=y.cells[j]?):FlAt w b o y:=⟨h 0 (by decide),h 1 (by decide),h 2 (by decide),h 3 (by decide)⟩
theorem ReAt.of {w:World} {b o:Nat} {y:Re} (h:∀j,j<2→w.cell? ⟨b,o+j,none⟩=y.cells[j]?):ReAt w b o y:=⟨h 0 (by decide),h 1 (by decide)⟩
theorem FuAt.of {w:World} {b o:Nat} {y:Fu} (h:∀j,j<6→w.cell? ⟨b,o+j,none⟩=y.cells[j]?):FuAt w b o y:=⟨h 0 (by decide),h 1 (by decide),h 2 (by decide),h 3 (by decide),h 4 (by decide),h 5 (by decide)⟩
theorem ThAt.of {w:World} {b o:Nat} {y:Th} (h:∀j,j<1→w.cell? ⟨b,o+j,none⟩=y.cells[j]?):ThAt w b o y:=⟨h 0 (by decide)⟩
section
variable {H:Type} {enc:TypeId×Value→H} {w:World} {base:Nat} {spare:Nat→Bool} {held:Bool}
theorem trod_str {t:TypeId} {n:Nat} {cs:List Value} {y:DataW H×List MemPlace} (ht:Tryz.prog.underlying t=some .string) (h:DataW.trod enc Tryz.prog w base spare held n t cs=some y) (hw:∀m∈y.1.weights Tryz.prog t,m≤reachBytes):
  ∃l:List UInt8,cs=[.string ⟨l.toArray⟩]∧lenOk l.length:=by
 obtain⟨s,rfl,rfl,-⟩:=DataW.trod_string ht h
 refine⟨s.data.toList,by simp,?_⟩
 exact reach_len (hw _ (by simp[DataW.weights]))
theorem trod_i64 {t:TypeId} {n:Nat} {cs:List Value} {y:DataW H×List MemPlace} (ht:Tryz.prog.underlying t=some (.int .i64)) (h:DataW.trod enc Tryz.prog w base spare held n t cs=some y):∃a,cs=[.int .i64 a]∧i64ok a:=by
 obtain⟨a,h1,-,h2⟩:=DataW.trod_int ht h
 exact⟨a,h1,ok64_of_wf h2⟩
theorem trod_u8 {t:TypeId} {n:Nat} {cs:List Value} {y:DataW H×List MemPlace} (ht:Tryz.prog.underlying t=some (.int .u8)) (h:DataW.trod enc Tryz.prog w base spare held n t cs=some y):∃a,cs=[.int .u8 a]∧u8ok a:=by
 obtain⟨a,h1,-,h2⟩:=DataW.trod_int ht h
 exact⟨a,h1,oku8_of_wf h2⟩
theorem tyFields:∃fs:Array Field,Tryz.prog.underlying 39=some (.struct fs)∧Tryz.prog.cellsOf 39=3∧∃f0 f1 f2,fs[0]? =some f0∧fs[1]? =some f1∧fs[2]? =some f2∧
  (f0.offset=0∧Tryz.prog.cellsOf f0.type=1∧Tryz.prog.underlying f0.type=some (.int .u8))∧(f1.offset=1∧Tryz.prog.cellsOf f1.type=1∧Tryz.prog.underlying f1.type=some .string)∧(f2.offset=2∧Tryz.prog.cellsOf f2.type=1∧Tryz.prog.underlying f2.type=some (.int .i64)):=
 ⟨_,Tryz.underlying39,by kernel_rfl,_,_,_,rfl,rfl,rfl,⟨by kernel_rfl,by kernel_rfl,by kernel_rfl⟩,⟨by kernel_rfl,by kernel_rfl,by kernel_rfl⟩,⟨by kernel_rfl,by kernel_rfl,by kernel_rfl⟩⟩
theorem exFields:∃fs:Array Field,Tryz.prog.underlying 70=some (.struct fs)∧Tryz.prog.cellsOf 70=7∧∃f0 f1 f2 f3 f4,fs[0]? =some f0∧fs[1]? =some f1∧fs[2]? =some f2∧fs[3]? =some f3∧fs[4]? =some f4∧
  (f0.offset=0∧Tryz.prog.cellsOf f0.type=1∧Tryz.prog.underlying f0.type=some (.int .u8))∧(f1.offset=1∧Tryz.prog.cellsOf f1.type=1∧Tryz.prog.underlying f1.type=some (.int .i64))∧(f2.offset=2∧Tryz.prog.cellsOf f2.type=1∧Tryz.prog.underlying f2.type=some .string)∧(f3.offset=3∧Tryz.prog.cellsOf f3.type=3∧f3.type=39)∧(f4.offset=6∧Tryz.prog.cellsOf f4.type=1∧Tryz.prog.underlying f4.type=some (.slice 70)):=
 ⟨_,Tryz.underlying70,by kernel_rfl,_,_,_,_,_,rfl,rfl,rfl,rfl,rfl,⟨by kernel_rfl,by kernel_rfl,by kernel_rfl⟩,⟨by kernel_rfl,by kernel_rfl,by kernel_rfl⟩,⟨by kernel_rfl,by kernel_rfl,by kernel_rfl⟩,⟨by kernel_rfl,by kernel_rfl,by kernel_rfl⟩,⟨by kernel_rfl,by kernel_rfl,by kernel_rfl⟩⟩
theorem stFields:∃fs:Array Field,Tryz.prog.underlying 72=some (.struct fs)∧Tryz.prog.cellsOf 72=21∧∃f0 f1 f2 f3 f4 f5 f6,fs[0]? =some f0∧fs[1]? =some f1∧fs[2]? =some f2∧fs[3]? =some f3∧fs[4]? =some f4∧fs[5]? =some f5∧fs[6]? =some f6∧
  (f0.offset=0∧Tryz.prog.cellsOf f0.type=1∧Tryz.prog.underlying f0.type=some (.int .u8))∧(f1.offset=1∧Tryz.prog.cellsOf f1.type=1∧Tryz.prog.underlying f1.type=some .string)∧(f2.offset=2∧Tryz.prog.cellsOf f2.type=3∧f2.type=39)∧(f3.offset=5∧Tryz.prog.cellsOf f3.type=7∧f3.type=70)∧(f4.offset=12∧Tryz.prog.cellsOf f4.type=7∧f4.type=70)∧(f5.offset=19∧Tryz.prog.cellsOf f5.type=1∧Tryz.prog.underlying f5.type=some (.slice 72))∧(f6.offset=20∧Tryz.prog.cellsOf f6.type=1∧Tryz.prog.underlying f6.type=some (.slice 72)):=
 ⟨_,Tryz.underlying72,by kernel_rfl,_,_,_,_,_,_,_,rfl,rfl,rfl,rfl,rfl,rfl,rfl,⟨by kernel_rfl,by kernel_rfl,by kernel_rfl⟩,⟨by kernel_rfl,by kernel_rfl,by kernel_rfl⟩,⟨by kernel_rfl,by kernel_rfl,by kernel_rfl⟩,⟨by kernel_rfl,by kernel_rfl,by kernel_rfl⟩,⟨by kernel_rfl,by kernel_rfl,by kernel_rfl⟩,⟨by kernel_rfl,by kernel_rfl,by kernel_rfl⟩,⟨by kernel_rfl,by kernel_rfl,by kernel_rfl⟩⟩
theorem flFields:∃fs:Array Field,Tryz.prog.underlying 93=some (.struct fs)∧Tryz.prog.cellsOf 93=4∧∃f0 f1,fs[0]? =some f0∧fs[1]? =some f1∧
  (f0.offset=0∧Tryz.prog.cellsOf f0.type=1∧Tryz.prog.underlying f0.type=some .string)∧(f1.offset=1∧Tryz.prog.cellsOf f1.type=3∧f1.type=39):=
 ⟨_,Tryz.underlying93,by kernel_rfl,_,_,rfl,rfl,⟨by kernel_rfl,by kernel_rfl,by kernel_rfl⟩,⟨by kernel_rfl,by kernel_rfl,by kernel_rfl⟩⟩
theorem reFields:∃fs:Array Field,Tryz.prog.underlying 58=some (.struct fs)∧Tryz.prog.cellsOf 58=2∧∃f0 f1,fs[0]? =some f0∧fs[1]? =some f1∧
  (f0.offset=0∧Tryz.prog.cellsOf f0.type=1∧Tryz.prog.underlying f0.type=some .string)∧(f1.offset=1∧Tryz.prog.cellsOf f1.type=1∧Tryz.prog.underlying f1.type=some (.slice 93)):=
 ⟨_,Tryz.underlying58,by kernel_rfl,_,_,rfl,rfl,⟨by kernel_rfl,by kernel_rfl,by kernel_rfl⟩,⟨by kernel_rfl,by kernel_rfl,by kernel_rfl⟩⟩
theorem fuFields:∃fs:Array Field,Tryz.prog.underlying 53=some (.struct fs)∧Tryz.prog.cellsOf 53=6∧∃f0 f1 f2 f3,fs[0]? =some f0∧fs[1]? =some f1∧fs[2]? =some f2∧fs[3]? =some f3∧
  (f0.offset=0∧Tryz.prog.cellsOf f0.type=1∧Tryz.prog.underlying f0.type=some .string)∧(f1.offset=1∧Tryz.prog.cellsOf f1.type=1∧Tryz.prog.underlying f1.type=some (.slice 93))∧(f2.offset=2∧Tryz.prog.cellsOf f2.type=3∧f2.type=39)∧(f3.offset=5∧Tryz.prog.cellsOf f3.type=1∧Tryz.prog.underlying f3.type=some (.slice 72)):=
 ⟨_,Tryz.underlying53,by kernel_rfl,_,_,_,_,rfl,rfl,rfl,rfl,⟨by kernel_rfl,by kernel_rfl,by kernel_rfl⟩,⟨by kernel_rfl,by kernel_rfl,by kernel_rfl⟩,⟨by kernel_rfl,by kernel_rfl,by kernel_rfl⟩,⟨by kernel_rfl,by kernel_rfl,by kernel_rfl⟩⟩
theorem prFields:∃fs:Array Field,Tryz.prog.underlying 27=some (.struct fs)∧Tryz.prog.cellsOf 27=4∧∃f0 f1 f2 f3,fs[0]? =some f0∧fs[1]? =some f1∧fs[2]? =some f2∧fs[3]? =some f3∧
  (f0.offset=0∧Tryz.prog.cellsOf f0.type=1∧Tryz.prog.underlying f0.type=some (.slice 58))∧(f1.offset=1∧Tryz.prog.cellsOf f1.type=1∧Tryz.prog.underlying f1.type=some (.slice 93))∧(f2.offset=2∧Tryz.prog.cellsOf f2.type=1∧Tryz.prog.underlying f2.type=some (.slice 53))∧(f3.offset=3∧Tryz.prog.cellsOf f3.type=1∧Tryz.prog.underlying f3.type=some (.slice 51)):=
 ⟨_,Tryz.underlying27,by kernel_rfl,_,_,_,_,rfl,rfl,rfl,rfl,⟨by kernel_rfl,by kernel_rfl,by kernel_rfl⟩,⟨by kernel_rfl,by kernel_rfl,by kernel_rfl⟩,⟨by kernel_rfl,by kernel_rfl,by kernel_rfl⟩,⟨by kernel_rfl,by kernel_rfl,by kernel_rfl⟩⟩
set_option maxRecDepth 100000 in
theorem open_ty {fuel:Nat} {cs:List Value} {x:DataW H×List MemPlace} (h:DataW.trod enc Tryz.prog w base spare held fuel 39 cs=some x) (hw:∀m∈x.1.weights Tryz.prog 39,m≤reachBytes):∃a:Ty,cs=a.cells∧a.Ok:=by
 obtain⟨fs,ht,hC,f0,f1,f2,g0,g1,g2,⟨o0,c0,u0⟩,⟨o1,c1,u1⟩,⟨o2,c2,u2⟩⟩:=tyFields
 obtain⟨hl,n,hf,hget⟩:=open_field ht h hw
 rw[hC]at hl
 obtain⟨x0,x1,x2,rfl⟩:∃x0 x1 x2,cs=[x0,x1,x2]:=by
  match cs,hl with
  |[x0,x1,x2],_=>exact⟨_,_,_,rfl⟩
 obtain⟨y0,t0,w0⟩:=hget 0 f0 g0
 rw[o0,c0]at t0
 simp only[List.drop_zero,List.drop_succ_cons,List.take_succ_cons,List.take_zero,List.cons_append,List.nil_append]at t0
 obtain⟨a0,e0,k0⟩:=trod_u8 u0 t0
 simp only[List.cons.injEq,and_true]at e0
 subst e0
 obtain⟨y1,t1,w1⟩:=hget 1 f1 g1
 rw[o1,c1]at t1
 simp only[List.drop_zero,List.drop_succ_cons,List.take_succ_cons,List.take_zero,List.cons_append,List.nil_append]at t1
 obtain⟨a1,e1,k1⟩:=trod_str u1 t1 w1
 simp only[List.cons.injEq,and_true]at e1
 subst e1
 obtain⟨y2,t2,w2⟩:=hget 2 f2 g2
 rw[o2,c2]at t2
 simp only[List.drop_zero,List.drop_succ_cons,List.take_succ_cons,List.take_zero,List.cons_append,List.nil_append]at t2
 obtain⟨a2,e2,k2⟩:=trod_i64 u2 t2
 simp only[List.cons.injEq,and_true]at e2
 subst e2
 exact⟨⟨a0,a1,a2⟩,rfl,⟨k0,k1,k2⟩⟩
set_option maxRecDepth 100000 in
theorem open_ex:∀(fuel:Nat) (cs:List Value) (x:DataW H×List MemPlace),DataW.trod enc Tryz.prog w base spare held fuel 70 cs=some x→(∀m∈x.1.weights Tryz.prog 70,m≤reachBytes)→∃a:Ex,cs=a.cells∧ExIn w w.heap.size a:=by
 intro fuel
 induction fuel using Nat.strongRecOn with
 |ind fuel ih=>
  intro cs x h hw
  obtain⟨fs,ht,hC,f0,f1,f2,f3,f4,g0,g1,g2,g3,g4,⟨o0,c0,u0⟩,⟨o1,c1,u1⟩,⟨o2,c2,u2⟩,⟨o3,c3,u3⟩,⟨o4,c4,u4⟩⟩:=exFields
  obtain⟨hl,n,hf,hget⟩:=open_field ht h hw
  rw[hC]at hl
  obtain⟨x0,x1,x2,x3,x4,x5,x6,rfl⟩:∃x0 x1 x2 x3 x4 x5 x6,cs=[x0,x1,x2,x3,x4,x5,x6]:=by
   match cs,hl with
   |[x0,x1,x2,x3,x4,x5,x6],_=>exact⟨_,_,_,_,_,_,_,rfl⟩
  obtain⟨y0,t0,w0⟩:=hget 0 f0 g0
  rw[o0,c0]at t0
  simp only[List.drop_zero,List.drop_succ_cons,List.take_succ_cons,List.take_zero,List.cons_append,List.nil_append]at t0
  obtain⟨a0,e0,k0⟩:=trod_u8 u0 t0
  simp only[List.cons.injEq,and_true]at e0
  subst e0
  obtain⟨y1,t1,w1⟩:=hget 1 f1 g1
  rw[o1,c1]at t1
  simp only[List.drop_zero,List.drop_succ_cons,List.take_succ_cons,List.take_zero,List.cons_append,List.nil_append]at t1
  obtain⟨a1,e1,k1⟩:=trod_i64 u1 t1
  simp only[List.cons.injEq,and_true]at e1
  subst e1
  obtain⟨y2,t2,w2⟩:=hget 2 f2 g2
  rw[o2,c2]at t2
  simp only[List.drop_zero,List.drop_succ_cons,List.take_succ_cons,List.take_zero,List.cons_append,List.nil_append]at t2
  obtain⟨a2,e2,k2⟩:=trod_str u2 t2 w2
  simp only[List.cons.injEq,and_true]at e2
  subst e2
  obtain⟨y3,t3,w3⟩:=hget 3 f3 g3
  rw[o3,c3]at t3
  simp only[List.drop_zero,List.drop_succ_cons,List.take_succ_cons,List.take_zero,List.cons_append,List.nil_append]at t3
  rw[u3]at t3 w3
  obtain⟨a3,e3,k3⟩:=open_ty t3 w3
  simp only[Ty.cells,List.cons.injEq,and_true]at e3
  obtain⟨rfl,rfl,rfl⟩:=e3
  obtain⟨y4,t4,w4⟩:=hget 4 f4 g4
  rw[o4,c4]at t4
  simp only[List.drop_zero,List.drop_succ_cons,List.take_succ_cons,List.take_zero,List.cons_append,List.nil_append]at t4
  obtain⟨d4,l4,e4,n4,r4,s4⟩:=open_row (At:=ExAt) (cells:=Ex.cells) (k:=7) u4 (by kernel_rfl) (by decide) (of_decide_eq_true (by kernel_rfl)) (fun b o y=>ExAt.of) (fun m hm cs' y hy hyw=>ih m (by omega) cs' y hy hyw) t4 w4
  simp only[List.cons.injEq,and_true]at e4
  subst e4
  exact⟨.mk a0 a1 a2 a3 d4 l4,rfl,.mk k0 k1 k2 k3 n4 r4 s4⟩
set_option maxRecDepth 100000 in
theorem open_st:∀(fuel:Nat) (cs:List Value) (x:DataW H×List MemPlace),DataW.trod enc Tryz.prog w base spare held fuel 72 cs=some x→(∀m∈x.1.weights Tryz.prog 72,m≤reachBytes)→∃a:St,cs=a.cells∧StIn w w.heap.size a:=by
 intro fuel
 induction fuel using Nat.strongRecOn with
 |ind fuel ih=>
  intro cs x h hw
  obtain⟨fs,ht,hC,f0,f1,f2,f3,f4,f5,f6,g0,g1,g2,g3,g4,g5,g6,⟨o0,c0,u0⟩,⟨o1,c1,u1⟩,⟨o2,c2,u2⟩,⟨o3,c3,u3⟩,⟨o4,c4,u4⟩,⟨o5,c5,u5⟩,⟨o6,c6,u6⟩⟩:=stFields
  obtain⟨hl,n,hf,hget⟩:=open_field ht h hw
  rw[hC]at hl
  obtain⟨x0,x1,x2,x3,x4,x5,x6,x7,x8,x9,x10,x11,x12,x13,x14,x15,x16,x17,x18,x19,x20,rfl⟩:∃x0 x1 x2 x3 x4 x5 x6 x7 x8 x9 x10 x11 x12 x13 x14 x15 x16 x17 x18 x19 x20,cs=[x0,x1,x2,x3,x4,x5,x6,x7,x8,x9,x10,x11,x12,x13,x14,x15,x16,x17,x18,x19,x20]:=by
   match cs,hl with
   |[x0,x1,x2,x3,x4,x5,x6,x7,x8,x9,x10,x11,x12,x13,x14,x15,x16,x17,x18,x19,x20],_=>exact⟨_,_,_,_,_,_,_,_,_,_,_,_,_,_,_,_,_,_,_,_,_,rfl⟩
  obtain⟨y0,t0,w0⟩:=hget 0 f0 g0
  rw[o0,c0]at t0
  simp only[List.drop_zero,List.drop_succ_cons,List.take_succ_cons,List.take_zero,List.cons_append,List.nil_append]at t0
  obtain⟨a0,e0,k0⟩:=trod_u8 u0 t0
  simp only[List.cons.injEq,and_true]at e0
  subst e0
  obtain⟨y1,t1,w1⟩:=hget 1 f1 g1
  rw[o1,c1]at t1
  simp only[List.drop_zero,List.drop_succ_cons,List.take_succ_cons,List.take_zero,List.cons_append,List.nil_append]at t1
  obtain⟨a1,e1,k1⟩:=trod_str u1 t1 w1
  simp only[List.cons.injEq,and_true]at e1
  subst e1
  obtain⟨y2,t2,w2⟩:=hget 2 f2 g2
  rw[o2,c2]at t2
  simp only[List.drop_zero,List.drop_succ_cons,List.take_succ_cons,List.take_zero,List.cons_append,List.nil_append]at t2
  rw[u2]at t2 w2
  obtain⟨a2,e2,k2⟩:=open_ty t2 w2
  simp only[Ty.cells,List.cons.injEq,and_true]at e2
  obtain⟨rfl,rfl,rfl⟩:=e2
  obtain⟨y3,t3,w3⟩:=hget 3 f3 g3
  rw[o3,c3]at t3
  simp only[List.drop_zero,List.drop_succ_cons,List.take_succ_cons,List.take_zero,List.cons_append,List.nil_append]at t3
  rw[u3]at t3 w3
  obtain⟨a3,e3,k3⟩:=open_ex n _ _ t3 w3
  simp only[Ex.cells,List.cons.injEq,and_true]at e3
  obtain⟨rfl,rfl,rfl,rfl,rfl,rfl,rfl⟩:=e3
  obtain⟨y4,t4,w4⟩:=hget 4 f4 g4
  rw[o4,c4]at t4
  simp only[List.drop_zero,List.drop_succ_cons,List.take_succ_cons,List.take_zero,List.cons_append,List.nil_append]at t4
  rw[u4]at t4 w4
  obtain⟨a4,e4,k4⟩:=open_ex n _ _ t4 w4
  simp only[Ex.cells,List.cons.injEq,and_true]at e4
  obtain⟨rfl,rfl,rfl,rfl,rfl,rfl,rfl⟩:=e4
  obtain⟨y5,t5,w5⟩:=hget 5 f5 g5
  rw[o5,c5]at t5
  simp only[List.drop_zero,List.drop_succ_cons,List.take_succ_cons,List.take_zero,List.cons_append,List.nil_append]at t5
  obtain⟨d5,l5,e5,n5,r5,s5⟩:=open_row (At:=StAt) (cells:=St.cells) (k:=21) u5 (by kernel_rfl) (by decide) (of_decide_eq_true (by kernel_rfl)) (fun b o y=>StAt.of) (fun m hm cs' y hy hyw=>ih m (by omega) cs' y hy hyw) t5 w5
  simp only[List.cons.injEq,and_true]at e5
  subst e5
  obtain⟨y6,t6,w6⟩:=hget 6 f6 g6
  rw[o6,c6]at t6
  simp only[List.drop_zero,List.drop_succ_cons,List.take_succ_cons,List.take_zero,List.cons_append,List.nil_append]at t6
  obtain⟨d6,l6,e6,n6,r6,s6⟩:=open_row (At:=StAt) (cells:=St.cells) (k:=21) u6 (by kernel_rfl) (by decide) (of_decide_eq_true (by kernel_rfl)) (fun b o y=>StAt.of) (fun m hm cs' y hy hyw=>ih m (by omega) cs' y hy hyw) t6 w6
  simp only[List.cons.injEq,and_true]at e6
  subst e6
  exact⟨.mk a0 a1 a2 a3 a4 d5 l5 d6 l6,rfl,.mk k0 k1 k2 k3 k4 n5 n6 r5 r6 s5 s6⟩
set_option maxRecDepth 100000 in
theorem open_fl {fuel:Nat} {cs:List Value} {x:DataW H×List MemPlace} (h:DataW.trod enc Tryz.prog w base spare held fuel 93 cs=some x) (hw:∀m∈x.1.weights Tryz.prog 93,m≤reachBytes):∃a:Fl,cs=a.cells∧a.Ok:=by
 obtain⟨fs,ht,hC,f0,f1,g0,g1,⟨o0,c0,u0⟩,⟨o1,c1,u1⟩⟩:=flFields
 obtain⟨hl,n,hf,hget⟩:=open_field ht h hw
 rw[hC]at hl
 obtain⟨x0,x1,x2,x3,rfl⟩:∃x0 x1 x2 x3,cs=[x0,x1,x2,x3]:=by
  match cs,hl with
  |[x0,x1,x2,x3],_=>exact⟨_,_,_,_,rfl⟩
 obtain⟨y0,t0,w0⟩:=hget 0 f0 g0
 rw[o0,c0]at t0
 simp only[List.drop_zero,List.drop_succ_cons,List.take_succ_cons,List.take_zero,List.cons_append,List.nil_append]at t0
 obtain⟨a0,e0,k0⟩:=trod_str u0 t0 w0
 simp only[List.cons.injEq,and_true]at e0
 subst e0
 obtain⟨y1,t1,w1⟩:=hget 1 f1 g1
 rw[o1,c1]at t1
 simp only[List.drop_zero,List.drop_succ_cons,List.take_succ_cons,List.take_zero,List.cons_append,List.nil_append]at t1
 rw[u1]at t1 w1
 obtain⟨a1,e1,k1⟩:=open_ty t1 w1
 simp only[Ty.cells,List.cons.injEq,and_true]at e1
 obtain⟨rfl,rfl,rfl⟩:=e1
 exact⟨⟨a0,a1⟩,rfl,⟨k0,k1⟩⟩
set_option maxRecDepth 100000 in
theorem open_th {fuel:Nat} {cs:List Value} {x:DataW H×List MemPlace} (h:DataW.trod enc Tryz.prog w base spare held fuel 51 cs=some x) (hw:∀m∈x.1.weights Tryz.prog 51,m≤reachBytes):∃a:Th,cs=a.cells∧StsIn w w.heap.size a.d a.l:=by
 obtain⟨d,l,e,n,r,s⟩:=open_row (At:=StAt) (cells:=St.cells) (k:=21) Tryz.underlying51 (by kernel_rfl) (by decide) (of_decide_eq_true (by kernel_rfl)) (fun b o y=>StAt.of) (fun m hm cs' y hy hyw=>open_st m cs' y hy hyw) h hw
 exact⟨⟨d,l⟩,e,n,r,s⟩
end
end Go.Proofs.YtkklogikakcanaaGreatDoor
