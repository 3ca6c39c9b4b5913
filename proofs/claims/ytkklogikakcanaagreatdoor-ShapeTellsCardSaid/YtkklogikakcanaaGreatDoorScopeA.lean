import Derived.Test.YtkklogikakcanaaGreatDoorTreeB
import Derived.Test.YtkklogikakcanaaGreatDoorKept
import Derived.Test.YtkklogikakcanaaGreatDoorScopePlain
import Derived.Test.YtkklogikakcanaaGreatDoorValMap
import Derived.Test.YtkklogikakcanaaGreatDoorRegion
set_option linter.unusedVariables false
set_option linter.unusedSimpArgs false
open List renaming getElem_toArray → sl1, getElem_cons_zero → sl2, getElem_cons_succ → sl3, setIfInBounds_toArray → sl4, set_cons_zero → sl5, set_cons_succ → sl6, getElem?_toArray → sl7, getElem?_cons_zero → sl8, getElem?_cons_succ → sl9
namespace Go.Proofs.YtkklogikakcanaaGreatDoor
open Go Go.Maps Go.RowKit
theorem ValMap.look1 {P:Program} {k e t:TypeId} {w:World} {b n:Nat} {f:Lit→Option Value} (h:ValMap P k w b n f) (K:Keyed P k) (ht:P.underlying t=some (.map k e)) {z:Value} (hz:(zeroValue e).run P w=.ok z w) {key:Value} {l:Lit} (hkey:keyOf P k key=some l):
  (Instr.lookup t (.map (some b)) key false).run P w=.ok ((f l).getD z) w:=by
 obtain⟨D,h1,h2⟩:=h
 obtain⟨v,ps,hr,hat⟩:=h1.lookup K ht hz (zd:=.held z) (zp:=[]) rfl hkey
 rw[(h2 l).2]at hat
 have hv:v=(f l).getD z:=by
  cases hf:f l with
  |none=>rw[hf]at hat;injection hat with hat;injection hat with hat _;injection hat
  |some u=>rw[hf]at hat;injection hat with hat;injection hat with hat _;injection hat
 rw[hr,hv]
def nmL (f:List UInt8→Option Value):Lit→Option Value
 |.string x=>f x
 |_=>none
abbrev intF (g:List UInt8→Option Nat):Lit→Option Value:=nmL fun x=>(g x).map fun i=>.int .i64 (i:Int)
abbrev tyF (g:List UInt8→Option Ty):Lit→Option Value:=nmL fun x=>(g x).map fun t=>t.val
theorem strK:Keyed Tryz.prog 9:=string_keyed Tryz.underlying9
theorem str_key {x:List UInt8} (h:lenOk x.length):keyOf Tryz.prog 9 (.string ⟨x.toArray⟩)=some (.string x):=Go.WideMaps.keyOf_string_mk Tryz.underlying9 (by
 have e:(⟨x.toArray⟩:ByteArray).size=x.length:=List.size_toArray
 unfold lenOk at h
 rw[e];unfold maxLen;omega)
section
variable {w:World} {b n:Nat} {x:List UInt8}
theorem intMap_look {g:List UInt8→Option Nat} (h:ValMap Tryz.prog 9 w b n (intF g)) (hx:lenOk x.length):
  (Instr.lookup 168 (.map (some b)) (.string ⟨x.toArray⟩) true).run Tryz.prog w=.ok (.tuple #[.int .i64 (((g x).getD 0:Nat):Int),.bool (g x).isSome]) w:=by
 have:=ValMap.look h strK Tryz.underlying168 (z:=.int .i64 0) (by kernel_rfl) (str_key hx)
 rw[this]
 unfold intF nmL
 dsimp only
 cases g x<;>rfl
theorem tyMap_look {g:List UInt8→Option Ty} (h:ValMap Tryz.prog 9 w b n (tyF g)) (hx:lenOk x.length):
  (Instr.lookup 169 (.map (some b)) (.string ⟨x.toArray⟩) true).run Tryz.prog w=.ok (.tuple #[((g x).getD ty0).val,.bool (g x).isSome]) w:=by
 have:=ValMap.look h strK Tryz.underlying169 (z:=ty0.val) (by kernel_rfl) (str_key hx)
 rw[this]
 unfold tyF nmL
 dsimp only
 cases g x<;>rfl
theorem updL_str (q k:List UInt8) (v:Value) (f:Lit→Option Value):updL (.string q) v f (.string k)=if k=q then some v else f (.string k):=by
 by_cases h:k=q
 ·subst h;rw[updL_same,if_pos rfl]
 ·rw[updL_ne (fun e=>h (by injection e)),if_neg h]
theorem updL_nm (q:List UInt8) (v:Value) (f:List UInt8→Option Value) (l:Lit):updL (.string q) v (nmL f) l=nmL (fun k=>if k=q then some v else f k) l:=by
 by_cases h:∃k,l=.string k
 ·obtain⟨k,rfl⟩:=h
  rw[updL_str]
  rfl
 ·have h1:l≠ .string q:=fun e=>h ⟨q,e⟩
  rw[updL_ne h1]
  cases l<;>first|rfl|exact absurd ⟨_,rfl⟩ h
end
def idxFrom {α:Type} (f:α→List UInt8) (l:List α) (i:Nat) (nm:List UInt8):Option Nat:=(idxOf f nm (l.drop i)).map (·+i)
theorem idxFrom_zero {α:Type} (f:α→List UInt8) (l:List α) (nm:List UInt8):idxFrom f l 0 nm=idxOf f nm l:=by
 unfold idxFrom
 rw[List.drop_zero]
 cases idxOf f nm l<;>rfl
theorem idxFrom_len {α:Type} (f:α→List UInt8) (l:List α) (nm:List UInt8):idxFrom f l l.length nm=none:=by
 unfold idxFrom
 rw[List.drop_length]
 rfl
theorem idxFrom_step {α:Type} (f:α→List UInt8) (l:List α) (i:Nat) (x:α) (h:l[i]? =some x) (nm:List UInt8):idxFrom f l i nm=if nm=f x then some i else idxFrom f l (i+1) nm:=by
 have hlt:i<l.length:=(List.getElem?_eq_some_iff.1 h).1
 have hd:l.drop i=x::l.drop (i+1):=by
  have:=List.drop_eq_getElem_cons hlt
  rw[List.getElem?_eq_getElem hlt]at h
  injection h with h
  rw[this,h]
 unfold idxFrom
 rw[hd,idxOf]
 by_cases e:f x=nm
 ·rw[if_pos e,if_pos e.symm];simp
 ·rw[if_neg e,if_neg (fun q=>e q.symm)]
  cases idxOf f nm (l.drop (i+1)) with
  |none=>rfl
  |some j=>simp only[Option.map_some];congr 1;omega
theorem fieldFrom_step (l:List Fl) (i:Nat) (x:Fl) (h:l[i]? =some x) (nm:List UInt8):fieldOf (l.drop i) nm=if nm=x.nm then some x.t else fieldOf (l.drop (i+1)) nm:=by
 have hlt:i<l.length:=(List.getElem?_eq_some_iff.1 h).1
 have hd:l.drop i=x::l.drop (i+1):=by
  have:=List.drop_eq_getElem_cons hlt
  rw[List.getElem?_eq_getElem hlt]at h
  injection h with h
  rw[this,h]
 rw[hd,fieldOf]
 by_cases e:x.nm=nm
 ·rw[if_pos e,if_pos e.symm]
 ·rw[if_neg e,if_neg (fun q=>e q.symm)]
theorem intF_step {α:Type} (f:α→List UInt8) (l:List α) (i:Nat) (x:α) (h:l[i]? =some x) (y:Lit):updL (.string (f x)) (.int .i64 (i:Int)) (intF (idxFrom f l (i+1))) y=intF (idxFrom f l i) y:=by
 unfold intF
 rw[updL_nm]
 congr 1
 funext k
 rw[idxFrom_step f l i x h]
 split<;>rfl
theorem tyF_step (l:List Fl) (i:Nat) (x:Fl) (h:l[i]? =some x) (y:Lit):updL (.string x.nm) x.t.val (tyF fun nm=>fieldOf (l.drop (i+1)) nm) y=tyF (fun nm=>fieldOf (l.drop i) nm) y:=by
 unfold tyF
 rw[updL_nm]
 congr 1
 funext k
 dsimp only
 rw[fieldFrom_step l i x h]
 split<;>rfl
abbrev scObj (p:Pr) (Rb Fb Sb:Nat):Obj:=.cells #[.slice p.rd.a p.rs.length p.rd.c,.slice p.sd.a p.ss.length p.sd.c,.slice p.fd.a p.fs.length p.fd.c,.slice p.td.a p.ts.length p.td.c,.map (some Rb),.map (some Fb),.map (some Sb)] 171 (0,0)
structure ScIs (B Kb Rb Fb Sb:Nat) (p:Pr) (w:World):Prop where
 k:w.heap[Kb]? =some (scObj p Rb Fb Sb)
 recs:ValMap Tryz.prog 9 w Rb p.rs.length (intF (recOf p))
 funs:ValMap Tryz.prog 9 w Fb p.fs.length (intF (funOf p))
 shs:ValMap Tryz.prog 9 w Sb p.ss.length (tyF (shOf p))
 inn:PrIn w B p
 le:B≤w.heap.size
theorem ScIs.kept {B Kb Rb Fb Sb:Nat} {p:Pr} {w w':World} {S:Nat→Prop} (h:ScIs B Kb Rb Fb Sb p w) (hk:Kept S w w') (h1:¬S Kb) (h2:¬S Rb) (h3:¬S Fb) (h4:¬S Sb) (hS:∀k,S k→B≤k):ScIs B Kb Rb Fb Sb p w':=
 ⟨(hk.block Kb (Array.getElem?_eq_some_iff.1 h.k).1 h1).trans h.k,h.recs.of_block (hk.block _ h.recs.lt h2),h.funs.of_block (hk.block _ h.funs.lt h3),h.shs.of_block (hk.block _ h.shs.lt h4),
  h.inn.keep (hk.below h.le hS) (Nat.le_refl B),Nat.le_trans h.le hk.size⟩
theorem ScIs.below {B Kb Rb Fb Sb:Nat} {p:Pr} {w w':World} (h:ScIs B Kb Rb Fb Sb p w) (hb:Below w.heap.size w w'):ScIs B Kb Rb Fb Sb p w':=
 h.kept (S:=fun _=>False) (Kept.of_below hb) id id id id (fun _ hh=>hh.elim)
def LcAt (w:World):Option Addr→Lc→Prop
 |a,[]=>a=none
 |a,f::r=>∃b a',a=some ⟨b,0,none⟩∧w.heap[b]? =some (.cells #[.string ⟨f.nm.toArray⟩,.int .u8 f.t.k,.string ⟨f.t.nm.toArray⟩,.int .i64 f.t.n,.pointer a'] 176 (0,0))∧f.Ok∧LcAt w a' r
theorem LcAt.below {w w':World} (hb:Below w.heap.size w w'):∀{l:Lc} {a:Option Addr},LcAt w a l→LcAt w' a l
 |[],_,h=>h
 |f::r,_,⟨b,a',h1,h2,h3,h4⟩=>⟨b,a',h1,(hb.block b (Array.getElem?_eq_some_iff.1 h2).1).trans h2,h3,LcAt.below hb h4⟩
theorem LcAt.kept {w w':World} {S:Nat→Prop} (hk:Kept S w w') (hS:∀k cs fz,w.heap[k]? =some (.cells cs 176 fz)→¬S k):∀{l:Lc} {a:Option Addr},LcAt w a l→LcAt w' a l
 |[],_,h=>h
 |f::r,_,⟨b,a',h1,h2,h3,h4⟩=>⟨b,a',h1,(hk.block b (Array.getElem?_eq_some_iff.1 h2).1 (hS b _ _ h2)).trans h2,h3,LcAt.kept hk hS h4⟩
theorem LcAt.ok {w:World}:∀{l:Lc} {a:Option Addr},LcAt w a l→∀f∈l,f.Ok
 |[],_,_,f,hf=>by simp at hf
 |g::r,_,⟨b,a',_,_,h3,h4⟩,f,hf=>by
  rcases List.mem_cons.1 hf with rfl|hf
  ·exact h3
  ·exact LcAt.ok h4 f hf
end Go.Proofs.YtkklogikakcanaaGreatDoor
namespace Go.Proofs.YtkklogikakcanaaGreatDoor
open Go Go.Maps Go.RowKit
abbrev faultS (e:Int):Ending:=.panicked [{ v:=.iface 128 (.int .i64 e),recovered:=false }]
theorem swant_yes (e:Int) (w:World):Calls Tryz.prog 116 #[.bool true,.int .i64 e] w fun en w'=>en=.returned (.tuple #[])∧w=w':=by
 go_enter Tryz.func116,Tryz.ntmps116
 go_wp2
 go_end0
 exact⟨rfl,rfl⟩
theorem swant_no (e:Int) (w:World):Calls Tryz.prog 116 #[.bool false,.int .i64 e] w fun en w'=>en=faultS e∧w=w':=by
 go_enter Tryz.func116,Tryz.ntmps116
 go_wp2
 exact⟨rfl,rfl,rfl⟩
def WEnds (b:Bool) (e:Int) (en:Ending):Prop:=en=if b then .returned (.tuple #[]) else faultS e
theorem swant_any (b:Bool) (e:Int) (w:World):Calls Tryz.prog 116 #[.bool b,.int .i64 e] w fun en w'=>WEnds b e en∧w=w':=by
 cases b with
 |true=>exact swant_yes e w
 |false=>exact swant_no e w
abbrev KnS (Kb Rb X:Nat) (nm:List UInt8) (v:Value) (b:Bool) (W:World):Prop:=W.cell? ⟨Kb,4,none⟩=some (.map (some Rb))∧W.cell? ⟨X,1,none⟩=some (.string ⟨nm.toArray⟩)∧
 (Instr.lookup 168 (.map (some Rb)) (.string ⟨nm.toArray⟩) true).run Tryz.prog W=.ok (.tuple #[v,.bool b]) W
set_option maxHeartbeats 4000000 in
set_option maxRecDepth 100000 in
theorem sknown_any (B Kb Rb Fb Sb:Nat) (p:Pr) (t:Ty) (w:World) (h:ScIs B Kb Rb Fb Sb p w) (hl:lenOk t.nm.length):
  Calls Tryz.prog 117 #[.pointer (some ⟨Kb,0,none⟩),t.val] w fun e w'=>WEnds (knownT p t) 9 e∧Below w.heap.size w w':=by
 obtain⟨k,nm,n⟩:=t
 dsimp only at hl
 obtain⟨X,hX⟩:∃X,w.heap.size=X:=⟨_,rfl⟩
 obtain⟨w1,hw1⟩:∃w1,w.alloc (.cells #[.int .u8 k,.string ⟨nm.toArray⟩,.int .i64 n] 39 (0,0))=w1:=⟨_,rfl⟩
 have hb1:Below w.heap.size w w1:=by rw[←hw1];exact (Below.refl _ _).alloc (Nat.le_refl _) _
 have x1:w1.heap[X]? =some (.cells #[.int .u8 k,.string ⟨nm.toArray⟩,.int .i64 n] 39 (0,0)):=by rw[←hw1,←hX];exact heap_alloc_new w _
 have h1:=h.below hb1
 have HS:Hid (KnS Kb Rb X nm (.int .i64 (((recOf p nm).getD 0:Nat):Int)) (recOf p nm).isSome w1.drew):=Lib.hid ⟨cell_at h1.k 4,cell_at x1 1,intMap_look (w:=w1.drew) h1.recs hl⟩
 have HN:=Lib.hid (And.intro hX hw1)
 have HB1:=Lib.hid hb1
 have HD:Hid (Below w.heap.size w w1.drew):=Lib.hid hb1.drew
 generalize (recOf p nm).getD 0=ix at*
 clear hX hw1 hb1 x1 h h1
 by_cases hn:nm=[]
 ·have hk:knownT p ⟨k,nm,n⟩=true:=by unfold knownT;simp[hn]
  rw[hk]
  have hn2:nm.isEmpty=true:=by simpa using hn
  clear hn hk
  go_enter Tryz.func117,Tryz.ntmps117
  go_wp2_with fail
  simp only[HN.out.1,HN.out.2]
  go_end0
  exact⟨rfl,by first|exact HB1.out|(rw[←HN.out.1];exact HB1.out)⟩
 ·have hk:knownT p ⟨k,nm,n⟩=(recOf p nm).isSome:=by unfold knownT;simp[hn]
  rw[hk]
  have hn2:nm.isEmpty=false:=by simpa using hn
  generalize (recOf p nm).isSome=b at*
  clear hn hk
  go_enter Tryz.func117,Tryz.ntmps117
  go_wp2_with fail
  simp only[HN.out.1,HN.out.2]
  refine wp_region_L (l:=11) (S:=(KnS Kb Rb X nm (.int .i64 (ix:Int)) b)) (by kernel_rfl) ?_ (fun hHeld=>?_)
  ·((try dsimp only);(exact HS.out))
  refine tk 0 ?_
  try simp only[sl1,sl2,sl3,Act.put,sl4,sl5,sl6]
  refine tk 1 ?_
  try simp only[sl1,sl2,sl3,Act.put,sl4,sl5,sl6]
  refine tk 2 ?_
  try simp only[sl1,sl2,sl3,Act.put,sl4,sl5,sl6]
  refine tk 3 ?_
  try simp only[sl1,sl2,sl3,Act.put,sl4,sl5,sl6]
  refine tk 4 ?_
  try simp only[sl1,sl2,sl3,Act.put,sl4,sl5,sl6]
  refine tk 5 ?_
  try simp only[sl1,sl2,sl3,Act.put,sl4,sl5,sl6]
  refine tk 6 ?_
  try simp only[sl1,sl2,sl3,Act.put,sl4,sl5,sl6]
  refine tk 7 ?_
  try simp only[sl1,sl2,sl3,Act.put,sl4,sl5,sl6]
  refine tk 8 ?_
  try simp only[sl1,sl2,sl3,Act.put,sl4,sl5,sl6]
  refine tk 9 ?_
  try simp only[sl1,sl2,sl3,Act.put,sl4,sl5,sl6]
  refine tk 10 ?_
  try simp only[sl1,sl2,sl3,Act.put,sl4,sl5,sl6]
  refine wpAnyL_last (j:=11) (o:=_) (by kernel_rfl) rfl (by rfl) (by kernel_rfl) (fun K hK=>?_)
  go_simp
  (refine hK _ _ ?_;clear hK K)
  try simp only[sl1,sl2,sl3,Act.put,sl4,sl5,sl6]
  go_wp2_with fail
  refine (swant_any b 9 _).mono ?_
  cases b with
  |true=>
   rintro e w2 ⟨rfl,rfl⟩
   go_wp2_with fail
   go_end0
   exact⟨rfl,HD.out⟩
  |false=>
   rintro e w2 ⟨rfl,rfl⟩
   exact⟨rfl,rfl,HD.out⟩
theorem leastN {P:Nat→Prop}:∀(n m:Nat),P m→m≤n→∃m,P m∧∀k,P k→m≤k
 |0,m,hm,hn=>⟨m,hm,fun k _=>by omega⟩
 |n+1,m,hm,hn=>by
  by_cases h:∃k,P k∧k<m
  ·obtain⟨k,hk,hlt⟩:=h
   exact leastN n k hk (by omega)
  ·exact⟨m,hm,fun k hk=>by
    rcases Nat.lt_or_ge k m with h1|h1
    ·exact absurd ⟨k,hk,h1⟩ h
    ·exact h1⟩
theorem leastN_of {P:Nat→Prop} (h:∃m,P m):∃m,P m∧∀k,P k→m≤k:=by
 obtain⟨m,hm⟩:=h
 exact leastN m m hm (Nat.le_refl _)
open Classical in
noncomputable def msrN (P:Nat→Prop):Nat:=if h:∃m,P m then Classical.choose (leastN_of h) else 0
theorem msrN_at {P:Nat→Prop} (h:∃m,P m):P (msrN P):=by
 unfold msrN
 rw[dif_pos h]
 exact (Classical.choose_spec (leastN_of h)).1
theorem msrN_le {P:Nat→Prop} {m:Nat} (h:P m):msrN P≤m:=by
 unfold msrN
 rw[dif_pos ⟨m,h⟩]
 exact (Classical.choose_spec (leastN_of ⟨m,h⟩)).2 m h
def LcLeft (w:World) (nm:List UInt8) (R:Option Ty) (v:Value) (n:Nat):Prop:=∃lc a,v=.pointer a∧LcAt w a lc∧fieldOf lc nm=R∧lc.length=n
set_option maxHeartbeats 4000000 in
set_option maxRecDepth 100000 in
theorem sfind_any (a:Option Addr) (l:Lc) (nm:List UInt8) (w:World) (h:LcAt w a l):
  Calls Tryz.prog 118 #[.pointer a,.string ⟨nm.toArray⟩] w fun e w'=>e=.returned (.tuple #[((fieldOf l nm).getD ty0).val,.bool (fieldOf l nm).isSome])∧Below w.heap.size w w':=by
 obtain⟨R,hR⟩:∃R,fieldOf l nm=R:=⟨_,rfl⟩
 rw[hR]
 obtain⟨X,hX⟩:∃X,w.heap.size=X:=⟨_,rfl⟩
 obtain⟨w1,hw1⟩:∃w1,w.alloc (.cells #[.int .u8 0,.string ⟨([]:List UInt8).toArray⟩,.int .i64 0] 39 (0,0))=w1:=⟨_,rfl⟩
 have hb1:Below w.heap.size w w1:=by rw[←hw1];exact (Below.refl _ _).alloc (Nat.le_refl _) _
 have x1:w1.heap[X]? =some (.cells #[.int .u8 0,.string ⟨([]:List UInt8).toArray⟩,.int .i64 0] 39 (0,0)):=by rw[←hw1,←hX];exact heap_alloc_new w _
 have HN:=Lib.hid (And.intro hX hw1)
 have HB1:Hid (∀u0 u1 u2,Below w.heap.size w (((w1.setCell ⟨X,0,none⟩ u0).setCell ⟨X,1,none⟩ u1).setCell ⟨X,2,none⟩ u2)):=Lib.hid fun u0 u1 u2=>
  ((hb1.setCell (p:=⟨X,0,none⟩) (by rw[hX];exact Nat.le_refl _) u0).setCell (p:=⟨X,1,none⟩) (by rw[hX];exact Nat.le_refl _) u1).setCell (p:=⟨X,2,none⟩) (by rw[hX];exact Nat.le_refl _) u2
 have HRow:Hid (∀u0 u1 u2,(((w1.setCell ⟨X,0,none⟩ u0).setCell ⟨X,1,none⟩ u1).setCell ⟨X,2,none⟩ u2).heap[X]? =some (.cells #[u0,u1,u2] 39 (0,0))):=Lib.hid fun u0 u1 u2=>by
  have h:=row_set (row_set (row_set x1 0 u0) 1 u1) 2 u2
  simpa using h
 have HL1:Hid (∃n,LcLeft w1 nm R (.pointer a) n):=Lib.hid ⟨_,l,a,rfl,h.below hb1,hR,rfl⟩
 have f0:=frz_at x1 0
 have f1:=frz_at x1 1
 have f2:=frz_at x1 2
 have c0:=cell_at x1 0
 have c1:=cell_at x1 1
 have c2:=cell_at x1 2
 simp only[sl7,sl8,sl9]at c0 c1 c2
 clear hX hw1 hb1 x1 h hR
 go_enter Tryz.func118,Tryz.ntmps118
 go_wp2_with fail
 simp only[HN.out.1,HN.out.2]
 go_loopw [0] (fun ii wr=>Hid (wr=w1)∧Hid (∃n,LcLeft w1 nm R ii n)) (fun ii wr=>msrN (fun n=>LcLeft w1 nm R ii n))
 case atStart=>exact⟨Lib.hid rfl,HL1⟩
 case round=>
  obtain⟨hw,hL⟩:=hrel
  obtain rfl:wr=w1:=hw.out
  have hm:=msrN_at hL.out
  obtain⟨lc,a2,rfl,hLc,hF,hlen⟩:=hm
  clear HL1 hw
  cases lc with
  |nil=>
   obtain rfl:a2=none:=hLc
   obtain rfl:none=R:=hF
   have row:=HRow.out (.int .u8 0) (.string ⟨([]:List UInt8).toArray⟩) (.int .i64 0)
   have r0:=cell_at row 0
   have r1:=cell_at row 1
   have r2:=cell_at row 2
   simp only[sl7,sl8,sl9]at r0 r1 r2
   clear row hL hlen
   go_wp2_with fail
   refine bodyPost_ret (v:=.tuple #[.agg #[.int .u8 0,.string ⟨([]:List UInt8).toArray⟩,.int .i64 0],.bool false]) (by simp[results,Tryz.results118,go_sem,r0,r1,r2]) rfl ?_
   exact⟨rfl,HB1.out _ _ _⟩
  |cons f r=>
   obtain⟨b,a3,rfl,hb,hok,hr⟩:=hLc
   have q0:=cell_at hb 0
   have q1:=cell_at hb 1
   have q2:=cell_at hb 2
   have q3:=cell_at hb 3
   have q4:=cell_at hb 4
   simp only[sl7,sl8,sl9]at q0 q1 q2 q3 q4
   rw[fieldOf]at hF
   by_cases he:f.nm=nm
   ·rw[if_pos he]at hF
    subst he
    obtain rfl:some f.t=R:=hF
    have row:=HRow.out (.int .u8 f.t.k) (.string ⟨f.t.nm.toArray⟩) (.int .i64 f.t.n)
    have r0:=cell_at row 0
    have r1:=cell_at row 1
    have r2:=cell_at row 2
    simp only[sl7,sl8,sl9]at r0 r1 r2
    clear row hL hr hlen hok hb
    go_wp2_with fail
    refine bodyPost_ret (v:=.tuple #[.agg #[.int .u8 f.t.k,.string ⟨f.t.nm.toArray⟩,.int .i64 f.t.n],.bool true]) (by simp[results,Tryz.results118,go_sem,r0,r1,r2]) rfl ?_
    exact⟨rfl,HB1.out _ _ _⟩
   ·rw[if_neg he]at hF
    have e1:(f.nm==nm)=false:=by simpa using he
    have e2:decide (f.nm=nm)=false:=by simpa using he
    have HNx:Hid (LcLeft wr nm R (.pointer a3) r.length):=Lib.hid ⟨r,a3,rfl,hr,hF,rfl⟩
    have HLt:Hid (r.length<msrN (fun n=>LcLeft wr nm R (.pointer (some ⟨b,0,none⟩)) n)):=Lib.hid (by rw[←hlen];simp)
    clear he hL hr hlen hok hb hF
    go_wp2_with fail
    go_roundw
    case rel=>exact⟨Lib.hid (by first|rfl|trivial),Lib.hid ⟨_,HNx.out⟩⟩
    case measure=>exact Nat.lt_of_le_of_lt (msrN_le HNx.out) HLt.out
end Go.Proofs.YtkklogikakcanaaGreatDoor
namespace Go.Proofs.YtkklogikakcanaaGreatDoor
open Go Go.Maps Go.RowKit
abbrev Srt.val (s:Srt):Value:=.agg #[.int .u8 s.t.k,.string ⟨s.t.nm.toArray⟩,.int .i64 s.t.n,.bool s.null]
set_option maxHeartbeats 4000000 in
theorem sshared_any (B Kb Rb Fb Sb:Nat) (p:Pr) (nm:List UInt8) (w:World) (h:ScIs B Kb Rb Fb Sb p w) (hl:lenOk nm.length):
  Calls Tryz.prog 119 #[.pointer (some ⟨Kb,0,none⟩),.string ⟨nm.toArray⟩] w fun e w'=>e=.returned (.bool (shOf p nm).isSome)∧Below w.heap.size w w':=by
 have hlk:=tyMap_look h.shs hl
 have k6:=cell_at h.k 6
 simp only[sl7,sl8,sl9]at k6
 have HBl:=Lib.hid (fun o=>(Below.refl w.heap.size w).alloc (Nat.le_refl _) o)
 generalize (shOf p nm).getD ty0=u at*
 generalize (shOf p nm).isSome=b at*
 clear h
 go_enter Tryz.func119,Tryz.ntmps119
 go_wp2_with fail
 go_ret
 exact⟨rfl,HBl.out _⟩
set_option maxHeartbeats 4000000 in
theorem sref_any (s:Srt) (w:World):
  Calls Tryz.prog 172 #[s.val] w fun e w'=>e=.returned (.bool s.ref)∧Below w.heap.size w w':=by
 obtain⟨⟨k,nm,n⟩,nl⟩:=s
 have HBl:=Lib.hid (fun o=>(Below.refl w.heap.size w).alloc (Nat.le_refl _) o)
 have hR:∀b,Srt.ref ⟨⟨k,nm,n⟩,nl⟩=b→Ending.returned (.bool b)=.returned (.bool (Srt.ref ⟨⟨k,nm,n⟩,nl⟩)):=fun b h=>by rw[h]
 have HR:=Lib.hid hR
 clear hR
 cases nl with
 |true=>
  go_enter Tryz.func172,Tryz.ntmps172
  go_wp2_with fail
  go_ret
  exact⟨HR.out _ (by simp[Srt.ref]),HBl.out _⟩
 |false=>
  by_cases h2:k=2
  ·have d2:(k==2)=true:=by simpa using h2
   have HZ:=HR.out true (by simp[Srt.ref,refT,h2])
   have HZ2:=Lib.hid HZ
   clear h2 HZ
   go_enter Tryz.func172,Tryz.ntmps172
   go_wp2_with fail
   go_ret
   exact⟨HZ2.out,HBl.out _⟩
  ·have d2:(k==2)=false:=by simpa using h2
   have HZ2:=Lib.hid (HR.out (k==3) (by simp[Srt.ref,refT,h2];rfl))
   clear h2
   go_enter Tryz.func172,Tryz.ntmps172
   go_wp2_with fail
   go_ret
   exact⟨HZ2.out,HBl.out _⟩
theorem three_first (w:World) (o1 o2 o3:Obj):(((w.alloc o1).alloc o2).alloc o3).heap[w.heap.size]? =some o1:=by
 have h1:=(Below.refl (w.alloc o1).heap.size (w.alloc o1)).alloc (Nat.le_refl _) o2
 have h2:=(Below.refl ((w.alloc o1).alloc o2).heap.size ((w.alloc o1).alloc o2)).alloc (Nat.le_refl _) o3
 exact (h2.block _ (by rw[World.size_alloc,World.size_alloc];omega)).trans ((h1.block _ (by rw[World.size_alloc];omega)).trans (heap_alloc_new w o1))
set_option maxHeartbeats 4000000 in
set_option maxRecDepth 100000 in
theorem sfits_any (s:Srt) (t:Ty) (w:World):
  Calls Tryz.prog 155 #[s.val,t.val] w fun e w'=>e=.returned (.bool (s.fits t))∧Below w.heap.size w w':=by
 obtain⟨⟨k,nm,n⟩,nl⟩:=s
 obtain⟨tk,tnm,tn⟩:=t
 obtain⟨R,hR⟩:∃R,Srt.fits ⟨⟨k,nm,n⟩,nl⟩ ⟨tk,tnm,tn⟩=R:=⟨_,rfl⟩
 rw[hR]
 have HR:=Lib.hid hR
 have HB:Hid (∀o1 o2 o3,Below w.heap.size w (((w.alloc o1).alloc o2).alloc o3)):=Lib.hid fun o1 o2 o3=>
  (((Below.refl w.heap.size w).alloc (Nat.le_refl _) o1).alloc (by rw[World.size_alloc];omega) o2).alloc (by rw[World.size_alloc,World.size_alloc];omega) o3
 clear hR
 cases nl with
 |true=>
  have CR:=Lib.hid (fun W=>sref_any ⟨⟨tk,tnm,tn⟩,false⟩ W)
  have hz:R=Srt.ref ⟨⟨tk,tnm,tn⟩,false⟩:=by rw[←HR.out];simp[Srt.fits,Srt.ref]
  rw[←hz]at CR
  clear hz HR
  go_enter Tryz.func155,Tryz.ntmps155
  go_wp2_with fail
  refine (CR.out _).mono ?_
  rintro e w2 ⟨rfl,hb2⟩
  have HB2:=Lib.hid ((HB.out _ _ _).trans (hb2.mono (HB.out _ _ _).size))
  have q3:=cell_at ((hb2.block w.heap.size (by rw[World.size_alloc,World.size_alloc,World.size_alloc];omega)).trans (three_first w _ _ _)) 3
  simp only[sl7,sl8,sl9]at q3
  clear hb2
  cases R with
  |true=>
   go_wp2_with fail
   go_ret
   exact⟨rfl,HB2.out⟩
  |false=>
   go_wp2_with fail
   go_ret
   exact⟨rfl,HB2.out⟩
 |false=>
  go_enter Tryz.func155,Tryz.ntmps155
  go_wp2_with fail
  all_goals
   go_ret
   refine⟨ret_bool ?_,HB.out _ _ _⟩
   rw[←HR.out]
   clear HR
   simp_all[Srt.fits]
   try rfl
end Go.Proofs.YtkklogikakcanaaGreatDoor
