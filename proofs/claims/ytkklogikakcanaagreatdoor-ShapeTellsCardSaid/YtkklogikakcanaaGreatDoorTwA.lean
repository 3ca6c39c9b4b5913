import Derived.Test.YtkklogikakcanaaGreatDoorTreeOpen
import Derived.Test.YtkklogikakcanaaGreatDoorScopePlain
import Derived.Test.YtkklogikakcanaaGreatDoorCopyRow
import Derived.Test.YtkklogikakcanaaGreatDoorTreeG
import Derived.Test.YtkklogikakcanaaGreatDoorSizeA
import Derived.Test.YtkklogikakcanaaGreatDoorRowKit
import Derived.Test.YtkklogikakcanaaGreatDoorWordGlobs
import Derived.Deep.OwnRows
import Derived.Deep.MidRow
import Derived.Lib.ItoaLen
set_option linter.unusedVariables false
set_option linter.unusedSimpArgs false
open List renaming getElem?_toArray → sl7
namespace Go.Proofs.YtkklogikakcanaaGreatDoor
open Go Go.RowKit
theorem blk_lt {w:World} {b:Nat} {o:Obj} (h:w.heap[b]? =some o):b<w.heap.size:=(Array.getElem?_eq_some_iff.1 h).1
theorem putAll_cells {g:Nat}:∀(us:List Value) (o:Nat) (w:World),putAll w g o us=w.setCells g o us
 |[],_,_=>rfl
 |u::us,o,w=>putAll_cells us (o+1) (w.setCell ⟨g,o,none⟩ u)
theorem setCells_below {B:Nat} {w0:World} {g:Nat} (hg:B≤g) (us:List Value) (o:Nat) (w:World) (hb:Below B w0 w):Below B w0 (w.setCells g o us):=by
 rw[←putAll_cells];exact putAll_below hg us o w hb
theorem setCells_kept {S:Nat→Prop} {w0:World} {g:Nat} (hg:S g):∀(us:List Value) (o:Nat) (w:World),Kept S w0 w→Kept S w0 (w.setCells g o us)
 |[],_,_,h=>h
 |u::us,o,w,h=>setCells_kept hg us (o+1) _ (h.setCell (p:=⟨g,o,none⟩) (Or.inl hg) u)
theorem setCells_size {g:Nat} (us:List Value) (o:Nat) (w:World):(w.setCells g o us).heap.size=w.heap.size:=by
 rw[←putAll_cells];exact putAll_size us o w
theorem setCells_row {X:Nat} {T:TypeId}:∀(us:List Value) (o:Nat) (w:World) (vs:List Value),w.heap[X]? =some (.cells vs.toArray T (0,0))→o+us.length≤vs.length→
  (w.setCells X o us).heap[X]? =some (.cells (vs.take o++(us++vs.drop (o+us.length))).toArray T (0,0))
 |[],o,w,vs,h,_=>by
  rw[List.nil_append,List.length_nil,Nat.add_zero,List.take_append_drop];exact h
 |u::us,o,w,vs,h,hl=>by
  rw[List.length_cons]at hl
  have h1:=row_set h o u
  have ih:=setCells_row us (o+1) (w.setCell ⟨X,o,none⟩ u) (vs.set o u) (by simpa using h1) (by rw[List.length_set];omega)
  rw[World.setCells,ih]
  have e:(vs.set o u).take (o+1)++(us++(vs.set o u).drop (o+1+us.length))=vs.take o++(u::us++vs.drop (o+(u::us).length)):=by
   rw[List.drop_set_of_lt (by omega),List.take_add_one,List.take_set_of_le (Nat.le_refl o),List.getElem?_set_self (by omega),List.length_cons,Option.toList_some,List.append_assoc,show o+1+us.length=o+(us.length+1) by omega]
   rfl
  rw[e]
theorem there_row {w:World} {X:Nat} {T:TypeId} {vs:List Value} (h:w.heap[X]? =some (.cells vs.toArray T (0,0))) (o n:Nat) (hl:o+n≤vs.length):w.there X o n:=fun j hj=>by
 refine⟨?_,?_⟩
 ·rw[cell_at h]
  simp only[sl7]
  rw[List.getElem?_eq_getElem (by omega)];rfl
 ·exact frz_at h _
theorem there_own {w:World} {base:Nat} {e:TypeId} {k g n cap:Nat} {xs:List Value} (h:w.ownsRow base e k (.slice (some ⟨g,0,none⟩) n cap) n xs) (hn:n<cap):w.there g (n*k) k:=fun j hj=>by
 have hm:(n+1)*k≤cap*k:=Nat.mul_le_mul_right _ hn
 rw[Nat.succ_mul]at hm
 obtain⟨h1,h2⟩:=own_rooms h (o:=n*k) (by omega)
 obtain⟨u,hu⟩:=h1 j hj
 exact⟨by rw[hu];rfl,h2 _⟩
theorem own_store {w:World} {base:Nat} {e:TypeId} {k g n cap:Nat} {xs:List Value} (h:w.ownsRow base e k (.slice (some ⟨g,0,none⟩) n cap) n xs) (hn:n<cap) (us:List Value) (hu:us.length=k):
  (w.setCells g (n*k) us).ownsRow base e k (.slice (some ⟨g,0,none⟩) (n+1) cap) (n+1) (xs++us):=by
 rw[←putAll_cells];exact own_fill h hn us hu
theorem own_flat {α:Type} (f:α→List Value) (k:Nat) (hf:∀x,(f x).length=k) {w:World} {base:Nat} {e:TypeId} {g n cap:Nat} {l:List α} (h:w.ownsRow base e k (.slice (some ⟨g,0,none⟩) n cap) n (l.flatMap f)) (i:Nat) (y:α) (hy:l[i]? =some y):
  ∀j,j<k→w.cell? ⟨g,i*k+j,none⟩=(f y)[j]? :=fun j hj=>by
 have hi:i<l.length:=(List.getElem?_eq_some_iff.1 hy).1
 have hl:(l.flatMap f).length=l.length*k:=by
  clear h hy hi
  induction l with
  |nil=>simp
  |cons x r ih=>rw[List.flatMap_cons,List.length_append,hf,ih,List.length_cons,Nat.succ_mul];omega
 have hm:(i+1)*k≤l.length*k:=Nat.mul_le_mul_right _ hi
 rw[Nat.succ_mul]at hm
 have hn:=h.1
 rw[h.cellAt (i*k+j) (by omega)]
 exact flat_at f k hf l i j y hy hj
def word (n:Nat):List UInt8:=35::Lib.itoa n
def noX:Ex:=.mk 0 0 [] ty0 hdN []
def markE (n:Nat):Ex:=.mk 0 (-1000 - (n:Int)) [] ty0 hdN []
def markF (n:Nat):Fl:=⟨word n,ty0⟩
def markS (n:Nat):St:=.mk 0 (word n) ty0 noX noX hdN [] hdN []
def markR (n:Nat):Re:=⟨word n,hdN,[]⟩
def markU (n:Nat):Fu:=⟨word n,hdN,[],ty0,hdN,[]⟩
def TnRow {α:Type} (At:World→Nat→Nat→α→Prop) (k:Nat) (mk:Nat→α) (w:World) (g B:Nat) (d:Hd) (l:List α):Prop:=
 ∃b,d.a=some ⟨b,0,none⟩∧g≤b∧b<B∧d.c=l.length+2∧∀i y,(l++[mk l.length,mk (l.length+1)])[i]? =some y→At w b (i*k) y
theorem TnRow.keep {α:Type} {At:World→Nat→Nat→α→Prop} {k:Nat} {mk:Nat→α} {w w':World} {g g' B B':Nat} {d:Hd} {l:List α}
  (hkeep:∀b o y,At w b o y→(∀o',w'.cell? ⟨b,o',none⟩=w.cell? ⟨b,o',none⟩)→At w' b o y)
  (h:TnRow At k mk w g B d l) (hk:∀b,g≤b→b<B→w'.heap[b]? =w.heap[b]?) (hg:g'≤g) (hB:B≤B'):TnRow At k mk w' g' B' d l:=by
 obtain⟨b,h1,h2,h3,h4,h5⟩:=h
 exact⟨b,h1,by omega,by omega,h4,fun i y hy=>hkeep _ _ _ (h5 i y hy) fun o'=>by unfold World.cell?;rw[hk b h2 h3]⟩
theorem TnRow.row {α:Type} {At:World→Nat→Nat→α→Prop} {k:Nat} {mk:Nat→α} {w:World} {g B:Nat} {d:Hd} {l:List α} (h:TnRow At k mk w g B d l):RowIn At k w B d l:=fun _=>by
 obtain⟨b,h1,h2,h3,h4,h5⟩:=h
 exact⟨b,0,h1,h3,fun i y hy=>by rw[Nat.zero_add];exact h5 i y (by rw[List.getElem?_append_left (List.getElem?_eq_some_iff.1 hy).1];exact hy)⟩
inductive TnE (w:World) (g B:Nat):Ex→Prop where
 |mk {k n:Int} {nm:List UInt8} {t:Ty} {d:Hd} {args:List Ex} (hk:u8ok k) (hn:i64ok n) (hnm:lenOk nm.length) (ht:t.Ok) (hl:args.length≤1000000)
   (row:TnRow ExAt 7 markE w g B d args) (sub:∀y,y∈args→TnE w g B y):TnE w g B (.mk k n nm t d args)
inductive TnS (w:World) (g B:Nat):St→Prop where
 |mk {k:Int} {nm:List UInt8} {t:Ty} {x y:Ex} {bd:Hd} {body:List St} {ed:Hd} {els:List St} (hk:u8ok k) (hnm:lenOk nm.length) (ht:t.Ok)
   (hx:TnE w g B x) (hy:TnE w g B y) (hbl:body.length≤1000000) (hel:els.length≤1000000)
   (brow:TnRow StAt 21 markS w g B bd body) (erow:TnRow StAt 21 markS w g B ed els) (bsub:∀s,s∈body→TnS w g B s) (esub:∀s,s∈els→TnS w g B s):TnS w g B (.mk k nm t x y bd body ed els)
theorem TnE.keep {w w':World} {g g' B B':Nat} {x:Ex} (h:TnE w g B x) (hk:∀b,g≤b→b<B→w'.heap[b]? =w.heap[b]?) (hg:g'≤g) (hB:B≤B'):TnE w' g' B' x:=by
 induction h with
 |mk hk1 hn hnm ht hl row _ ih=>exact .mk hk1 hn hnm ht hl (row.keep (fun _ _ _ h hk=>h.keep hk) hk hg hB) ih
theorem TnS.keep {w w':World} {g g' B B':Nat} {x:St} (h:TnS w g B x) (hk:∀b,g≤b→b<B→w'.heap[b]? =w.heap[b]?) (hg:g'≤g) (hB:B≤B'):TnS w' g' B' x:=by
 induction h with
 |mk hk1 hnm ht hx hy hbl hel brow erow _ _ ih1 ih2=>
  exact .mk hk1 hnm ht (hx.keep hk hg hB) (hy.keep hk hg hB) hbl hel (brow.keep (fun _ _ _ h hk=>h.keep hk) hk hg hB) (erow.keep (fun _ _ _ h hk=>h.keep hk) hk hg hB) ih1 ih2
theorem TnE.inn {w:World} {g B:Nat} {x:Ex} (h:TnE w g B x):ExIn w B x:=by
 induction h with
 |mk hk1 hn hnm ht hl row _ ih=>exact .mk hk1 hn hnm ht (by unfold lenOk;omega) row.row ih
theorem TnS.inn {w:World} {g B:Nat} {x:St} (h:TnS w g B x):StIn w B x:=by
 induction h with
 |mk hk1 hnm ht hx hy hbl hel brow erow _ _ ih1 ih2=>exact .mk hk1 hnm ht hx.inn hy.inn (by unfold lenOk;omega) (by unfold lenOk;omega) brow.row erow.row ih1 ih2
structure TnEs (w:World) (g B:Nat) (d:Hd) (l:List Ex):Prop where
 len:l.length≤1000000
 row:TnRow ExAt 7 markE w g B d l
 sub:∀y,y∈l→TnE w g B y
structure TnSs (w:World) (g B:Nat) (d:Hd) (l:List St):Prop where
 len:l.length≤1000000
 row:TnRow StAt 21 markS w g B d l
 sub:∀y,y∈l→TnS w g B y
structure TnFs (w:World) (g B:Nat) (d:Hd) (l:List Fl):Prop where
 len:l.length≤1000000
 row:TnRow FlAt 4 markF w g B d l
 sub:∀y,y∈l→y.Ok
theorem TnEs.keep {w w':World} {g g' B B':Nat} {d:Hd} {l:List Ex} (h:TnEs w g B d l) (hk:∀b,g≤b→b<B→w'.heap[b]? =w.heap[b]?) (hg:g'≤g) (hB:B≤B'):TnEs w' g' B' d l:=
 ⟨h.len,h.row.keep (fun _ _ _ h hk=>h.keep hk) hk hg hB,fun y hy=>(h.sub y hy).keep hk hg hB⟩
theorem TnSs.keep {w w':World} {g g' B B':Nat} {d:Hd} {l:List St} (h:TnSs w g B d l) (hk:∀b,g≤b→b<B→w'.heap[b]? =w.heap[b]?) (hg:g'≤g) (hB:B≤B'):TnSs w' g' B' d l:=
 ⟨h.len,h.row.keep (fun _ _ _ h hk=>h.keep hk) hk hg hB,fun y hy=>(h.sub y hy).keep hk hg hB⟩
theorem TnFs.keep {w w':World} {g g' B B':Nat} {d:Hd} {l:List Fl} (h:TnFs w g B d l) (hk:∀b,g≤b→b<B→w'.heap[b]? =w.heap[b]?) (hg:g'≤g) (hB:B≤B'):TnFs w' g' B' d l:=
 ⟨h.len,h.row.keep (fun _ _ _ h hk=>h.keep hk) hk hg hB,h.sub⟩
theorem TnSs.inn {w:World} {g B:Nat} {d:Hd} {l:List St} (h:TnSs w g B d l):StsIn w B d l:=⟨by have:=h.len;unfold lenOk;omega,h.row.row,fun s hs=>(h.sub s hs).inn⟩
theorem TnFs.inn {w:World} {g B:Nat} {d:Hd} {l:List Fl} (h:TnFs w g B d l):FlsIn w B d l:=⟨by have:=h.len;unfold lenOk;omega,h.row.row,h.sub⟩
theorem exCells_len (x:Ex):x.cells.length=7:=rfl
theorem stCells_len (s:St):s.cells.length=21:=rfl
theorem flCells_len (f:Fl):f.cells.length=4:=rfl
theorem exAt_of {w:World} {b o:Nat} {y:Ex} (h:∀j,j<7→w.cell? ⟨b,o+j,none⟩=y.cells[j]?):ExAt w b o y:=
 ⟨h 0 (by decide),h 1 (by decide),h 2 (by decide),h 3 (by decide),h 4 (by decide),h 5 (by decide),h 6 (by decide)⟩
theorem flAt_of {w:World} {b o:Nat} {y:Fl} (h:∀j,j<4→w.cell? ⟨b,o+j,none⟩=y.cells[j]?):FlAt w b o y:=
 ⟨h 0 (by decide),h 1 (by decide),h 2 (by decide),h 3 (by decide)⟩
theorem stAt_of {w:World} {b o:Nat} {y:St} (h:∀j,j<21→w.cell? ⟨b,o+j,none⟩=y.cells[j]?):StAt w b o y:=
 ⟨h 0 (by decide),h 1 (by decide),h 2 (by decide),h 3 (by decide),h 4 (by decide),
  ⟨h 5 (by decide),h 6 (by decide),h 7 (by decide),h 8 (by decide),h 9 (by decide),h 10 (by decide),h 11 (by decide)⟩,
  ⟨h 12 (by decide),h 13 (by decide),h 14 (by decide),h 15 (by decide),h 16 (by decide),h 17 (by decide),h 18 (by decide)⟩,h 19 (by decide),h 20 (by decide)⟩
theorem ExAt.cells {w:World} {b o:Nat} {x:Ex} (h:ExAt w b o x):w.rangeAt b o x.cells:=fun j v hv=>by
 match j,hv with
 |0,hv=>cases hv;exact h.c0
 |1,hv=>cases hv;exact h.c1
 |2,hv=>cases hv;exact h.c2
 |3,hv=>cases hv;exact h.c3
 |4,hv=>cases hv;exact h.c4
 |5,hv=>cases hv;exact h.c5
 |6,hv=>cases hv;exact h.c6
 |n+7,hv=>simp[Ex.cells]at hv
theorem exSz (y:Ex):(Tryz.prog.info? 70).map (·.size)=some y.cells.toArray.size:=by kernel_rfl
theorem stSz (y:St):(Tryz.prog.info? 72).map (·.size)=some y.cells.toArray.size:=by kernel_rfl
theorem flSz (y:Fl):(Tryz.prog.info? 93).map (·.size)=some y.cells.toArray.size:=by kernel_rfl
theorem reSz (y:Re):(Tryz.prog.info? 58).map (·.size)=some y.cells.toArray.size:=by kernel_rfl
theorem fuSz (y:Fu):(Tryz.prog.info? 53).map (·.size)=some y.cells.toArray.size:=by kernel_rfl
theorem exOn (y:Ex):y.cells.toArray.all (·.oneCell')=true:=by simp[Ex.cells,Value.oneCell']
theorem stOn (y:St):y.cells.toArray.all (·.oneCell')=true:=by simp[St.cells,Ex.cells,Value.oneCell']
theorem flOn (y:Fl):y.cells.toArray.all (·.oneCell')=true:=by simp[Fl.cells,Value.oneCell']
theorem reOn (y:Re):y.cells.toArray.all (·.oneCell')=true:=by simp[Re.cells,Value.oneCell']
theorem fuOn (y:Fu):y.cells.toArray.all (·.oneCell')=true:=by simp[Fu.cells,Value.oneCell']
theorem exSzL (y:Ex):(Tryz.prog.info? 70).map (·.size)=some y.cells.length:=by kernel_rfl
theorem stSzL (y:St):(Tryz.prog.info? 72).map (·.size)=some y.cells.length:=by kernel_rfl
theorem flSzL (y:Fl):(Tryz.prog.info? 93).map (·.size)=some y.cells.length:=by kernel_rfl
theorem reSzL (y:Re):(Tryz.prog.info? 58).map (·.size)=some y.cells.length:=by kernel_rfl
theorem fuSzL (y:Fu):(Tryz.prog.info? 53).map (·.size)=some y.cells.length:=by kernel_rfl
theorem stripEs_map:∀l:List Ex,stripEs l=l.map stripE
 |[]=>by rw[stripEs];rfl
 |x::r=>by rw[stripEs,List.map_cons,stripEs_map r]
theorem stripSs_map:∀l:List St,stripSs l=l.map stripS
 |[]=>by rw[stripSs];rfl
 |x::r=>by rw[stripSs,List.map_cons,stripSs_map r]
theorem mem_last {α:Type} {l:List α} {a x:α} (h:x∈l++[a]):x∈l∨x=a:=by
 rcases List.mem_append.1 h with h|h
 ·exact Or.inl h
 ·exact Or.inr (by simpa using h)
theorem tnRow_of {α:Type} {At:World→Nat→Nat→α→Prop} {cells:α→List Value} {k:Nat} (mk:Nat→α) (hlen:∀x,(cells x).length=k) (hAt:∀(w:World) (b o:Nat) (y:α),(∀j,j<k→w.cell? ⟨b,o+j,none⟩=(cells y)[j]?)→At w b o y)
  {w:World} {g g0 B n:Nat} {e:TypeId} {l:List α} (hn:l.length=n) (hg:g0≤g) (hB:g<B)
  (h:w.ownsRow g e k (.slice (some ⟨g,0,none⟩) (n+1+1) (n+2)) (n+1+1) ((l.flatMap cells++cells (mk n))++cells (mk (n+1)))):TnRow At k mk w g0 B ⟨some ⟨g,0,none⟩,n+2⟩ l:=by
 subst hn
 refine⟨g,rfl,hg,hB,rfl,fun i y hy=>hAt _ _ _ _ ?_⟩
 have e1:(l.flatMap cells++cells (mk l.length))++cells (mk (l.length+1))=(l++[mk l.length,mk (l.length+1)]).flatMap cells:=by
  rw[List.flatMap_append];simp
 rw[e1]at h
 exact own_flat cells k hlen h i y hy
end Go.Proofs.YtkklogikakcanaaGreatDoor
namespace Go.Proofs.YtkklogikakcanaaGreatDoor
open Go Go.RowKit Go.Sort
set_option maxHeartbeats 400000 in
theorem word_any (n:Nat) (h:n≤100000000000) (w:World) (G:Globs w):
  Calls Tryz.prog 108 #[.int .i64 n] w fun e w'=>e=.returned (.string ⟨(word n).toArray⟩)∧Below w.heap.size w w':=by
 have C:=Lib.hid (itoa_any n (by omega) (by omega) w G)
 have hl:=Lib.itoa_length_le n (by omega) (by omega)
 have hl2:¬9223372036854775807<1+(Lib.itoa n).length:=by omega
 have e0:(⟨#[35]⟩:ByteArray)++⟨(Lib.itoa n).toArray⟩=⟨(word n).toArray⟩:=by
  apply ByteArray.ext
  rw[ByteArray.data_append]
  simp[word]
 go_enter Tryz.func108,Tryz.ntmps108
 go_wp2_with fail
 refine C.out.mono ?_
 rintro e w2 ⟨rfl,hb⟩
 have HB:=Lib.hid hb
 clear hb C
 go_wp2_with fail
 go_ret
 exact⟨rfl,HB.out⟩
set_option maxHeartbeats 400000 in
theorem markE_any (n:Nat) (h:n≤100000000000) (w:World) (G:Globs w):
  Calls Tryz.prog 182 #[.int .i64 n] w fun e w'=>e=.returned (.agg (markE n).cells.toArray)∧Below w.heap.size w w':=by
 clear G
 go_enter Tryz.func182,Tryz.ntmps182
 go_wp2
 exact bodyPost_ret (v:=.agg (markE n).cells.toArray) (by simp[results,Tryz.results182,go_sem,markE,Ex.cells,Ex.k,Ex.n,Ex.nm,Ex.t,Ex.d,Ex.args,ty0,hdN]) rfl ⟨rfl,(Below.refl _ _).alloc (Nat.le_refl _) _⟩
set_option maxHeartbeats 1000000 in
set_option maxRecDepth 100000 in
theorem markF_any (n:Nat) (h:n≤100000000000) (w:World) (G:Globs w):
  Calls Tryz.prog 70 #[.int .i64 n] w fun e w'=>e=.returned (.agg (markF n).cells.toArray)∧Below w.heap.size w w':=by
 obtain⟨X,hX⟩:∃X,w.heap.size=X:=⟨_,rfl⟩
 obtain⟨o,ho⟩:∃o,(.cells #[.string ⟨#[]⟩,.int .u8 0,.string ⟨#[]⟩,.int .i64 0] 93 (0,0):Obj)=o:=⟨_,rfl⟩
 have hb1:Below w.heap.size w (w.alloc o):=(Below.refl _ _).alloc (Nat.le_refl _) _
 have C:=Lib.hid (word_any n h (w.alloc o) (G.below hb1))
 have x1:(w.alloc o).heap[w.heap.size]? =some o:=heap_alloc_new w _
 have HX:Hid (∀W,Below (w.alloc o).heap.size (w.alloc o) W→W.heap[X]? =some o∧Below w.heap.size w (W.setCells X 0 (markF n).cells)):=Lib.hid fun W hb=>⟨by rw[←hX];exact (hb.block _ (blk_lt x1)).trans x1,setCells_below (by rw[hX];exact Nat.le_refl _) _ _ _ (hb1.trans (hb.mono hb1.size))⟩
 have Ho:=Lib.hid ho
 clear G hb1 x1 h
 go_enter Tryz.func70,Tryz.ntmps70
 go_wp2_with fail
 with_reducible refine C.out.mono ?_
 rintro e w2 ⟨rfl,hb2⟩
 obtain⟨hx2,hbw⟩:=HX.out _ hb2
 rw[←Ho.out]at hx2
 have htr:=there_row (vs:=[.string ⟨#[]⟩,.int .u8 0,.string ⟨#[]⟩,.int .i64 0]) hx2 0 4 (Nat.le_refl 4)
 have hrg:(w2.setCells X 0 (markF n).cells).rangeAt X 0 (markF n).cells:=World.rangeAt_setCells_same _ _ _ _ htr
 have hres:(loadVar 93 ⟨X,0,none⟩).run Tryz.prog (w2.setCells X 0 (markF n).cells)=.ok (.agg (markF n).cells.toArray) (w2.setCells X 0 (markF n).cells):=run_loadVar_mid _ X 0 93 (markF n).cells _ hrg Tryz.underlying93 rfl (flSzL _)
 have HBw:=Lib.hid hbw
 clear hx2 hrg hb2 hbw C ho hX
 go_wp2_with (refine wpList_store_mid rfl 93 _ _ rfl X 0 (markF n).cells.toArray rfl rfl htr (flSz _) (flOn _) ?_)
 refine bodyPost_ret (v:=.agg (markF n).cells.toArray) (by simp[results,Tryz.results70,Act.eval,Sem.run_bind,Act.put,asAddr,hres]) rfl ⟨rfl,?_⟩
 exact HBw.out
set_option maxHeartbeats 1000000 in
set_option maxRecDepth 100000 in
theorem markR_any (n:Nat) (h:n≤100000000000) (w:World) (G:Globs w):
  Calls Tryz.prog 69 #[.int .i64 n] w fun e w'=>e=.returned (.agg (markR n).cells.toArray)∧Below w.heap.size w w':=by
 obtain⟨X,hX⟩:∃X,w.heap.size=X:=⟨_,rfl⟩
 obtain⟨o,ho⟩:∃o,(.cells #[.string ⟨#[]⟩,.slice none 0 0] 58 (0,0):Obj)=o:=⟨_,rfl⟩
 have hb1:Below w.heap.size w (w.alloc o):=(Below.refl _ _).alloc (Nat.le_refl _) _
 have C:=Lib.hid (word_any n h (w.alloc o) (G.below hb1))
 have x1:(w.alloc o).heap[w.heap.size]? =some o:=heap_alloc_new w _
 have HX:Hid (∀W,Below (w.alloc o).heap.size (w.alloc o) W→W.heap[X]? =some o∧Below w.heap.size w (W.setCells X 0 (markR n).cells)):=Lib.hid fun W hb=>⟨by rw[←hX];exact (hb.block _ (blk_lt x1)).trans x1,setCells_below (by rw[hX];exact Nat.le_refl _) _ _ _ (hb1.trans (hb.mono hb1.size))⟩
 have Ho:=Lib.hid ho
 clear G hb1 x1 h
 go_enter Tryz.func69,Tryz.ntmps69
 go_wp2_with fail
 with_reducible refine C.out.mono ?_
 rintro e w2 ⟨rfl,hb2⟩
 obtain⟨hx2,hbw⟩:=HX.out _ hb2
 rw[←Ho.out]at hx2
 have htr:=there_row (vs:=[.string ⟨#[]⟩,.slice none 0 0]) hx2 0 2 (Nat.le_refl 2)
 have hrg:(w2.setCells X 0 (markR n).cells).rangeAt X 0 (markR n).cells:=World.rangeAt_setCells_same _ _ _ _ htr
 have hres:(loadVar 58 ⟨X,0,none⟩).run Tryz.prog (w2.setCells X 0 (markR n).cells)=.ok (.agg (markR n).cells.toArray) (w2.setCells X 0 (markR n).cells):=run_loadVar_mid _ X 0 58 (markR n).cells _ hrg Tryz.underlying58 rfl (reSzL _)
 have HBw:=Lib.hid hbw
 clear hx2 hrg hb2 hbw C ho hX
 go_wp2_with (refine wpList_store_mid rfl 58 _ _ rfl X 0 (markR n).cells.toArray rfl rfl htr (reSz _) (reOn _) ?_)
 refine bodyPost_ret (v:=.agg (markR n).cells.toArray) (by simp[results,Tryz.results69,Act.eval,Sem.run_bind,Act.put,asAddr,hres]) rfl ⟨rfl,?_⟩
 exact HBw.out
set_option maxHeartbeats 1000000 in
set_option maxRecDepth 100000 in
theorem markU_any (n:Nat) (h:n≤100000000000) (w:World) (G:Globs w):
  Calls Tryz.prog 71 #[.int .i64 n] w fun e w'=>e=.returned (.agg (markU n).cells.toArray)∧Below w.heap.size w w':=by
 obtain⟨X,hX⟩:∃X,w.heap.size=X:=⟨_,rfl⟩
 obtain⟨o,ho⟩:∃o,(.cells #[.string ⟨#[]⟩,.slice none 0 0,.int .u8 0,.string ⟨#[]⟩,.int .i64 0,.slice none 0 0] 53 (0,0):Obj)=o:=⟨_,rfl⟩
 have hb1:Below w.heap.size w (w.alloc o):=(Below.refl _ _).alloc (Nat.le_refl _) _
 have C:=Lib.hid (word_any n h (w.alloc o) (G.below hb1))
 have x1:(w.alloc o).heap[w.heap.size]? =some o:=heap_alloc_new w _
 have HX:Hid (∀W,Below (w.alloc o).heap.size (w.alloc o) W→W.heap[X]? =some o∧Below w.heap.size w (W.setCells X 0 (markU n).cells)):=Lib.hid fun W hb=>⟨by rw[←hX];exact (hb.block _ (blk_lt x1)).trans x1,setCells_below (by rw[hX];exact Nat.le_refl _) _ _ _ (hb1.trans (hb.mono hb1.size))⟩
 have Ho:=Lib.hid ho
 clear G hb1 x1 h
 go_enter Tryz.func71,Tryz.ntmps71
 go_wp2_with fail
 with_reducible refine C.out.mono ?_
 rintro e w2 ⟨rfl,hb2⟩
 obtain⟨hx2,hbw⟩:=HX.out _ hb2
 rw[←Ho.out]at hx2
 have htr:=there_row (vs:=[.string ⟨#[]⟩,.slice none 0 0,.int .u8 0,.string ⟨#[]⟩,.int .i64 0,.slice none 0 0]) hx2 0 6 (Nat.le_refl 6)
 have hrg:(w2.setCells X 0 (markU n).cells).rangeAt X 0 (markU n).cells:=World.rangeAt_setCells_same _ _ _ _ htr
 have hres:(loadVar 53 ⟨X,0,none⟩).run Tryz.prog (w2.setCells X 0 (markU n).cells)=.ok (.agg (markU n).cells.toArray) (w2.setCells X 0 (markU n).cells):=run_loadVar_mid _ X 0 53 (markU n).cells _ hrg Tryz.underlying53 rfl (fuSzL _)
 have HBw:=Lib.hid hbw
 clear hx2 hrg hb2 hbw C ho hX
 go_wp2_with (refine wpList_store_mid rfl 53 _ _ rfl X 0 (markU n).cells.toArray rfl rfl htr (fuSz _) (fuOn _) ?_)
 refine bodyPost_ret (v:=.agg (markU n).cells.toArray) (by simp[results,Tryz.results71,Act.eval,Sem.run_bind,Act.put,asAddr,hres]) rfl ⟨rfl,?_⟩
 exact HBw.out
set_option maxHeartbeats 1000000 in
set_option maxRecDepth 100000 in
theorem markS_any (n:Nat) (h:n≤100000000000) (w:World) (G:Globs w):
  Calls Tryz.prog 107 #[.int .i64 n] w fun e w'=>e=.returned (.agg (markS n).cells.toArray)∧Below w.heap.size w w':=by
 obtain⟨X,hX⟩:∃X,w.heap.size=X:=⟨_,rfl⟩
 obtain⟨o,ho⟩:∃o,(.cells #[.int .u8 0,.string ⟨#[]⟩,.int .u8 0,.string ⟨#[]⟩,.int .i64 0,.int .u8 0,.int .i64 0,.string ⟨#[]⟩,.int .u8 0,.string ⟨#[]⟩,.int .i64 0,.slice none 0 0,.int .u8 0,.int .i64 0,.string ⟨#[]⟩,.int .u8 0,.string ⟨#[]⟩,.int .i64 0,.slice none 0 0,.slice none 0 0,.slice none 0 0] 72 (0,0):Obj)=o:=⟨_,rfl⟩
 have hb1:Below w.heap.size w (w.alloc o):=(Below.refl _ _).alloc (Nat.le_refl _) _
 have C:=Lib.hid (word_any n h (w.alloc o) (G.below hb1))
 have x1:(w.alloc o).heap[w.heap.size]? =some o:=heap_alloc_new w _
 have HX:Hid (∀W,Below (w.alloc o).heap.size (w.alloc o) W→W.heap[X]? =some o∧Below w.heap.size w (W.setCells X 0 (markS n).cells)):=Lib.hid fun W hb=>⟨by rw[←hX];exact (hb.block _ (blk_lt x1)).trans x1,setCells_below (by rw[hX];exact Nat.le_refl _) _ _ _ (hb1.trans (hb.mono hb1.size))⟩
 have Ho:=Lib.hid ho
 clear G hb1 x1 h
 go_enter Tryz.func107,Tryz.ntmps107
 go_wp2_with fail
 with_reducible refine C.out.mono ?_
 rintro e w2 ⟨rfl,hb2⟩
 obtain⟨hx2,hbw⟩:=HX.out _ hb2
 rw[←Ho.out]at hx2
 have htr:=there_row (vs:=[.int .u8 0,.string ⟨#[]⟩,.int .u8 0,.string ⟨#[]⟩,.int .i64 0,.int .u8 0,.int .i64 0,.string ⟨#[]⟩,.int .u8 0,.string ⟨#[]⟩,.int .i64 0,.slice none 0 0,.int .u8 0,.int .i64 0,.string ⟨#[]⟩,.int .u8 0,.string ⟨#[]⟩,.int .i64 0,.slice none 0 0,.slice none 0 0,.slice none 0 0]) hx2 0 21 (Nat.le_refl 21)
 have hrg:(w2.setCells X 0 (markS n).cells).rangeAt X 0 (markS n).cells:=World.rangeAt_setCells_same _ _ _ _ htr
 have hres:(loadVar 72 ⟨X,0,none⟩).run Tryz.prog (w2.setCells X 0 (markS n).cells)=.ok (.agg (markS n).cells.toArray) (w2.setCells X 0 (markS n).cells):=run_loadVar_mid _ X 0 72 (markS n).cells _ hrg Tryz.underlying72 rfl (stSzL _)
 have HBw:=Lib.hid hbw
 clear hx2 hrg hb2 hbw C ho hX
 go_wp2_with (refine wpList_store_mid rfl 72 _ _ rfl X 0 (markS n).cells.toArray rfl rfl htr (stSz _) (stOn _) ?_)
 refine bodyPost_ret (v:=.agg (markS n).cells.toArray) (by simp[results,Tryz.results107,Act.eval,Sem.run_bind,Act.put,asAddr,hres]) rfl ⟨rfl,?_⟩
 exact HBw.out
theorem infoFl:(Tryz.prog.info? 93).map (fun i=>(i.zero,i.size,i.bytes))=some (some (.agg #[.string ⟨#[]⟩,.int .u8 0,.string ⟨#[]⟩,.int .i64 0]),4,48):=by kernel_rfl
theorem infoEx:(Tryz.prog.info? 70).map (fun i=>(i.zero,i.size,i.bytes))=some (some (.agg #[.int .u8 0,.int .i64 0,.string ⟨#[]⟩,.int .u8 0,.string ⟨#[]⟩,.int .i64 0,.slice none 0 0]),7,88):=by kernel_rfl
theorem fls_flat_len (l:List Fl):(l.flatMap Fl.cells).length=l.length*4:=by
 induction l with
 |nil=>rfl
 |cons t l ih=>rw[List.flatMap_cons,List.length_append,ih];simp[Fl.cells];omega
theorem fls_flat_one (l:List Fl):∀v∈l.flatMap Fl.cells,v.oneCell'=true:=fun v hv=>by
 obtain⟨t,_,ht⟩:=List.mem_flatMap.1 hv
 simp only[Fl.cells,List.mem_cons,List.not_mem_nil,or_false]at ht
 rcases ht with rfl|rfl|rfl|rfl<;>rfl
theorem FlAt.cells' {w:World} {b o:Nat} {f:Fl} (h:FlAt w b o f):∀j,j<4→w.cell? ⟨b,o+j,none⟩=f.cells[j]? :=fun j hj=>by
 rcases (by omega:j=0∨j=1∨j=2∨j=3) with rfl|rfl|rfl|rfl
 ·exact h.c0
 ·exact h.c1
 ·exact h.c2
 ·exact h.c3
theorem fls_cells {w:World} {g off:Nat} {l:List Fl} (h:∀i y,l[i]? =some y→FlAt w g (off+i*4) y) (j:Nat) (v:Value) (hv:(l.flatMap Fl.cells)[j]? =some v):w.cell? ⟨g,off+j,none⟩=some v:=by
 have hj:j<l.length*4:=by
  rw[←fls_flat_len];exact (List.getElem?_eq_some_iff.1 hv).1
 have hk:j / 4<l.length:=by omega
 have ht:=(h (j / 4) _ (List.getElem?_eq_getElem hk)).cells' (j % 4) (by omega)
 have hf:=flat_at Fl.cells 4 (fun _=>rfl) l (j / 4) (j % 4) _ (List.getElem?_eq_getElem hk) (by omega)
 have e:j=(j / 4)*4+j % 4:=by omega
 rw[←e,hv]at hf
 rw[hf,←ht]
 congr 2
 omega
theorem made_own2 (w:World) (cs:Array Value) (T:TypeId) (k n:Nat) (hn:n≤1000000) (hs:cs.size=(n+2)*k):
  (w.alloc (.cells cs T)).ownsRow w.heap.size T k (.slice (some ⟨w.heap.size,0,none⟩) n (n+2)) n (cs.toList.take (n*k)):=
 ⟨by rw[List.length_take,Array.length_toList,hs];exact Nat.min_eq_left (Nat.mul_le_mul_right _ (by omega)),.inr ⟨w.heap.size,n+2,cs,rfl,Nat.le_refl _,heap_alloc_new w _,by omega,by simp only[maxLen];omega,hs,rfl⟩⟩
set_option maxHeartbeats 8000000 in
set_option maxRecDepth 100000 in
theorem twinFls_any (d:Hd) (l:List Fl) (B:Nat) (w:World) (hI:FlsIn w B d l) (hBw:B≤w.heap.size) (hn:l.length≤262144) (G:Globs w):
  Calls Tryz.prog 35 #[.slice d.a l.length d.c] w fun e w'=>∃d':Hd,e=.returned (.slice d'.a l.length d'.c)∧TnFs w' w.heap.size w'.heap.size d' l∧Below w.heap.size w w':=by
 obtain⟨i0,hi0,hz0,hz1,hz2⟩:=info_parts infoFl
 have hmk0:=run_make (P:=Tryz.prog) w 23 93 i0 _ Tryz.underlying23 hi0 hz0 .i64 .i64 (l.length:Int) ((l.length:Int)+2) (by omega) (by omega) (by rw[hz2];omega) (by omega)
 rw[show ((l.length:Int)+2).toNat=l.length+2 by omega,Int.toNat_natCast,hz1]at hmk0
 obtain⟨cs,hcs,hsz⟩:∃cs,madeCells (Value.cells (.agg #[.string ⟨#[]⟩,.int .u8 0,.string ⟨#[]⟩,.int .i64 0])) ((l.length+2)*4)=cs∧cs.size=(l.length+2)*4:=⟨_,rfl,size_madeCells _ _⟩
 rw[hcs]at hmk0
 clear hcs
 have hown:=made_own2 w cs 93 4 l.length (by omega) hsz
 have hsrc:0<l.length→∃ad,d.a=some ad∧∀j v,(l.flatMap Fl.cells)[j]? =some v→(w.alloc (.cells cs 93)).cell? (ad.add j)=some v:=fun hpos=>by
  obtain⟨g,off,hA,hg,hc⟩:=hI.row (by rintro rfl;simp at hpos)
  refine⟨_,hA,fun j v hv=>?_⟩
  rw[addr_add,←fls_cells hc j v hv]
  exact ((Below.refl w.heap.size w).alloc (Nat.le_refl _) _).cell (p:=⟨g,off+j,none⟩) (Nat.lt_of_lt_of_le hg hBw)
 have HS:=Lib.hid hsrc
 have HO:=Lib.hid hown
 have HL:=Lib.hid (fls_flat_len l)
 have H1:=Lib.hid (fls_flat_one l)
 have HB0:Hid (Below w.heap.size w (w.alloc (.cells cs 93))):=Lib.hid ((Below.refl w.heap.size w).alloc (Nat.le_refl _) _)
 have HGl:Hid (∀W,Below w.heap.size w W→Globs W):=Lib.hid fun W hb=>G.below hb
 have HSub:=Lib.hid hI.sub
 obtain⟨n,hN⟩:∃n,l.length=n:=⟨_,rfl⟩
 have HN:=Lib.hid hN
 rw[hN]at hmk0 HS HO HL hn ⊢
 clear hsrc hown hi0 hz0 hz1 hz2 hsz hI hN G hBw
 have hi4:(Tryz.prog.info? 93).map (·.size)=some 4:=by kernel_rfl
 have HI:=Lib.hid hi4
 clear hi4
 obtain⟨A,c⟩:=d
 dsimp only at HS ⊢
 go_enter Tryz.func35,Tryz.ntmps35
 go_wp2_with ((refine wpList_copy_full rfl (.tmp 12) (.tmp 13) 23 23 rfl 93 4 Tryz.underlying23 HI.out w.heap.size 93 w.heap.size n (n+2) _ HO.out A c rfl rfl (l.flatMap Fl.cells) HL.out HS.out H1.out ?_;intro w1 hown1 hgrow1))
 have HO1:=Lib.hid hown1
 have HB1:Hid (Below w.heap.size w w1):=Lib.hid (HB0.out.grown hgrow1 (by simp) (fun k h=>by injection h with h;omega))
 clear hown1 hgrow1 HS HO hmk0
 refine wp_loop_rounds 3 ?_
 rw[rounds_succ]
 go_wp2_with fail
 refine (markF_any n (by omega) w1 (HGl.out _ HB1.out)).mono ?_
 rintro e w2 ⟨rfl,hb⟩
 have HO2:=Lib.hid (own_belowI HO1.out hb)
 have hB2:Below w.heap.size w w2:=HB1.out.trans (hb.mono HB1.out.size)
 have HKp:Hid (Kept (fun k=>k=w.heap.size) w1 w2):=Lib.hid (Kept.of_below hb)
 have htr:=there_own HO2.out (by omega)
 obtain⟨w3,hwd⟩:∃w3,w2.setCells w.heap.size (n*4) (markF n).cells=w3:=⟨_,rfl⟩
 have HO3:=Lib.hid (own_store HO2.out (by omega) (markF n).cells rfl)
 rw[hwd]at HO3
 have HB3:Hid (Below w.heap.size w w3):=Lib.hid (by rw[←hwd];exact setCells_below (Nat.le_refl _) _ _ _ hB2)
 have HK3:Hid (Kept (fun k=>k=w.heap.size) w1 w3):=Lib.hid (by rw[←hwd];exact setCells_kept (S:=fun k=>k=w.heap.size) rfl _ _ _ HKp.out)
 clear hb hB2 HO2 HKp
 go_wp2_with (refine wpList_store_mid rfl 93 _ _ rfl w.heap.size (n*4) (markF n).cells.toArray rfl rfl htr (flSz _) (flOn _) ?_;rw[show w2.setCells w.heap.size (n*4) (markF n).cells.toArray.toList=w3 from hwd])
 clear htr hwd
 go_wp2_with fail
 rw[rounds_succ]
 go_wp2_with fail
 refine (markF_any (n+1) (by omega) w3 (HGl.out _ HB3.out)).mono ?_
 rintro e w4 ⟨rfl,hb⟩
 have HO2:=Lib.hid (own_belowI HO3.out hb)
 have hB2:Below w.heap.size w w4:=HB3.out.trans (hb.mono HB3.out.size)
 have HKp:Hid (Kept (fun k=>k=w.heap.size) w3 w4):=Lib.hid (Kept.of_below hb)
 have htr:=there_own HO2.out (by omega)
 obtain⟨w5,hwd⟩:∃w5,w4.setCells w.heap.size ((n+1)*4) (markF (n+1)).cells=w5:=⟨_,rfl⟩
 have HO5:=Lib.hid (own_store HO2.out (by omega) (markF (n+1)).cells rfl)
 rw[hwd]at HO5
 have HB5:Hid (Below w.heap.size w w5):=Lib.hid (by rw[←hwd];exact setCells_below (Nat.le_refl _) _ _ _ hB2)
 have HK5:Hid (Kept (fun k=>k=w.heap.size) w3 w5):=Lib.hid (by rw[←hwd];exact setCells_kept (S:=fun k=>k=w.heap.size) rfl _ _ _ HKp.out)
 clear hb hB2 HO2 HKp
 go_wp2_with (refine wpList_store_mid rfl 93 _ _ rfl w.heap.size ((n+1)*4) (markF (n+1)).cells.toArray rfl rfl htr (flSz _) (flOn _) ?_;rw[show w4.setCells w.heap.size ((n+1)*4) (markF (n+1)).cells.toArray.toList=w5 from hwd])
 clear htr hwd
 rw[rounds_succ]
 go_wp2_with fail
 go_ret
 have hlt:w.heap.size<w5.heap.size:=by
  rcases HO5.out.2 with ⟨h',_⟩|⟨g',cap',cur,h',hb,hg,r⟩
  ·simp at h'
  ·simp only[Value.slice.injEq,Option.some.injEq,Addr.mk.injEq,and_true]at h'
   rw[h'.1];exact blk_lt hg
 exact⟨⟨some ⟨w.heap.size,0,none⟩,n+2⟩,rfl,⟨by rw[HN.out];omega,tnRow_of markF flCells_len (fun _ _ _ _=>flAt_of) HN.out (Nat.le_refl _) hlt HO5.out,HSub.out⟩,HB5.out⟩
end Go.Proofs.YtkklogikakcanaaGreatDoor
