import Derived.Test.YtkklogikakcanaaGreatDoorRows
import Derived.Test.YtkklogikakcanaaGreatDoorShelf
import Derived.WalkKit
import Derived.WalkSmall
import Derived.Stop.LaidErr
import Derived.Lib.LaidTab
import Derived.Deep.DeepWitnessRowRef
import Derived.Deep.DeepLaidRun
import Derived.MakeChecks
set_option linter.unusedVariables false
set_option linter.unusedSimpArgs false
open List renaming getElem?_cons_zero → sl8, getElem?_cons_succ → sl9
namespace Go.Proofs.YtkklogikakcanaaGreatDoor
open Go.RowKit Go.Shelf
theorem gPT:Tryz.prog.globalNamed "internal/strconv.uint64pow10" =some 2:=by kernel_rfl
theorem gPTT:(Tryz.prog.globals[2]?).map (·.type)=some 251:=by kernel_rfl
theorem cellsU64:Tryz.prog.cellsOf 241=1:=by kernel_rfl
theorem cellsTab:Tryz.prog.cellsOf 251=20:=by kernel_rfl
structure Globs (w:World):Prop where
 tab:Lib.TabIs Tryz.prog w "internal/strconv.uint64pow10" .u64 Lib.pow10Tab
theorem var_lt {w:World} {n:String} {g:Nat} {cs:Array Value} (hg:Tryz.prog.globalNamed n=some g) (h:w.var? Tryz.prog n=some cs):g<w.heap.size:=by
 unfold World.var? at h
 rw[hg]at h
 rcases Nat.lt_or_ge g w.heap.size with hlt|hge
 ·exact hlt
 ·simp[Array.getElem?_eq_none hge]at h
theorem Globs.below {w w':World} (h:Globs w) (hb:Below w.heap.size w w'):Globs w':=⟨var?_below hb gPT (var_lt gPT h.tab) h.tab⟩
theorem globs_of_tail {W:World} {rest:List (String×DataW Unit)} (h:laidMet Tryz.prog (("internal/strconv.uint64pow10",Rows.laid_internal_strconv_uint64pow10)::rest) W):Globs W:=
 ⟨Lib.tabIs_of_head gPT gPTT Tryz.underlying251 Tryz.underlying241 cellsU64 cellsTab h⟩
theorem laid_tail {W:World} (h:laidMetH Tryz.prog Rows.typesChecksRow.laid W):laidMet Tryz.prog (("internal/strconv.uint64pow10",Rows.laid_internal_strconv_uint64pow10)::("turnstile/scope.number",Rows.laid_turnstile_scope_number)::[]) W:=by
 rw[MakeChecks.laidMetH_plain _ _ _ (by kernel_rfl)]at h
 have h1:laidMet Tryz.prog (("math/bits.deBruijn32tab",Rows.laid_math_bits_deBruijn32tab)::("math/bits.deBruijn64tab",Rows.laid_math_bits_deBruijn64tab)::
  ("internal/strconv.uint64pow10",Rows.laid_internal_strconv_uint64pow10)::("turnstile/scope.number",Rows.laid_turnstile_scope_number)::[]) W:=h
 exact h1.tail.tail
theorem globs_of_laid {W:World} (h:laidMetH Tryz.prog Rows.typesChecksRow.laid W):Globs W:=globs_of_tail (laid_tail h)
theorem gNU:Tryz.prog.globalNamed "turnstile/scope.number" =some 0:=by kernel_rfl
theorem gNUT:(Tryz.prog.globals[0]?).map (·.type)=some 213:=by kernel_rfl
theorem soFields:∃fs:Array Field,Tryz.prog.underlying 213=some (.struct fs)∧Tryz.prog.cellsOf 213=4∧fs.size=2∧∃f0 f1,fs[0]? =some f0∧fs[1]? =some f1∧
  (f0.offset=0∧Tryz.prog.cellsOf f0.type=3∧f0.type=39)∧(f1.offset=3∧Tryz.prog.cellsOf f1.type=1∧Tryz.prog.underlying f1.type=some .bool):=
 ⟨_,Tryz.underlying213,by kernel_rfl,rfl,_,_,rfl,rfl,⟨by kernel_rfl,by kernel_rfl,by kernel_rfl⟩,⟨by kernel_rfl,by kernel_rfl,by kernel_rfl⟩⟩
theorem ty3Fields:∃fs:Array Field,Tryz.prog.underlying 39=some (.struct fs)∧Tryz.prog.cellsOf 39=3∧fs.size=3∧∃f0 f1 f2,fs[0]? =some f0∧fs[1]? =some f1∧fs[2]? =some f2∧
  (f0.offset=0∧Tryz.prog.cellsOf f0.type=1∧Tryz.prog.underlying f0.type=some (.int .u8))∧(f1.offset=1∧Tryz.prog.cellsOf f1.type=1∧Tryz.prog.underlying f1.type=some .string)∧(f2.offset=2∧Tryz.prog.cellsOf f2.type=1∧Tryz.prog.underlying f2.type=some (.int .i64)):=
 ⟨_,Tryz.underlying39,by kernel_rfl,rfl,_,_,_,rfl,rfl,rfl,⟨by kernel_rfl,by kernel_rfl,by kernel_rfl⟩,⟨by kernel_rfl,by kernel_rfl,by kernel_rfl⟩,⟨by kernel_rfl,by kernel_rfl,by kernel_rfl⟩⟩
theorem num_of_tail {W:World} {rest:List (String×DataW Unit)} (h:laidMet Tryz.prog (("turnstile/scope.number",Rows.laid_turnstile_scope_number)::rest) W):
  W.cell? ⟨0,0,none⟩=some (.int .u8 1)∧W.cell? ⟨0,1,none⟩=some (.string ⟨([]:List UInt8).toArray⟩)∧W.cell? ⟨0,2,none⟩=some (.int .i64 0)∧W.cell? ⟨0,3,none⟩=some (.bool false)∧0<W.heap.size:=by
 obtain⟨ps,⟨g',t',cs,fuel,p,q,hg',ht',hvar,hd,_,_⟩,_⟩:=h
 obtain rfl:=Option.some.inj (gNU.symm.trans hg')
 obtain rfl:=Option.some.inj (gNUT.symm.trans ht')
 have hlt:=var_lt gNU hvar
 obtain⟨fs,ut,hC,hsz,f0,f1,g0,g1,⟨o0,c0,u0⟩,⟨o1,c1,u1⟩⟩:=soFields
 obtain⟨xs,n,hf,hx,hl,hxl,hget⟩:=DataW.trod_struct ut hd
 rw[hC]at hl
 rw[hsz]at hxl
 obtain⟨v0,v1,v2,v3,hcs⟩:∃v0 v1 v2 v3,cs.toList=[v0,v1,v2,v3]:=by
  generalize cs.toList=l at hl
  match l,hl with
  |[v0,v1,v2,v3],_=>exact⟨_,_,_,_,rfl⟩
 obtain⟨x0,x1,rfl⟩:∃x0 x1,xs=[x0,x1]:=by
  match xs,hxl with
  |[x0,x1],_=>exact⟨_,_,rfl⟩
 have h0:=hget 0 f0 g0
 have h1:=hget 1 f1 g1
 rw[o0,c0,hcs,u0]at h0
 rw[o1,c1,hcs]at h1
 simp only[List.drop_zero,List.drop_succ_cons,List.take_succ_cons,List.take_zero,sl8,sl9]at h0 h1
 obtain⟨b,e3,k3⟩:=DataW.trod_bool u1 h1
 obtain⟨fs2,ut2,hC2,hsz2,d0,d1,d2,i0,i1,i2,⟨oo0,cc0,uu0⟩,⟨oo1,cc1,uu1⟩,⟨oo2,cc2,uu2⟩⟩:=ty3Fields
 obtain⟨ys,n2,hf2,hy,hl2,hyl,hget2⟩:=DataW.trod_struct ut2 h0
 rw[hsz2]at hyl
 obtain⟨y0,y1,y2,rfl⟩:∃y0 y1 y2,ys=[y0,y1,y2]:=by
  match ys,hyl with
  |[y0,y1,y2],_=>exact⟨_,_,_,rfl⟩
 have r0:=hget2 0 d0 i0
 have r1:=hget2 1 d1 i1
 have r2:=hget2 2 d2 i2
 rw[oo0,cc0]at r0
 rw[oo1,cc1]at r1
 rw[oo2,cc2]at r2
 simp only[List.drop_zero,List.drop_succ_cons,List.take_succ_cons,List.take_zero,sl8,sl9]at r0 r1 r2
 obtain⟨a0,e0,k0,-⟩:=DataW.trod_int uu0 r0
 obtain⟨s1,e1,k1,-⟩:=DataW.trod_string uu1 r1
 obtain⟨a2,e2,k2,-⟩:=DataW.trod_int uu2 r2
 subst k0 k1 k2 k3 hy
 unfold Rows.laid_turnstile_scope_number at hx
 simp only[List.map_cons,List.map_nil,Prod.mk.injEq,DataW.agg.injEq,List.cons.injEq,DataW.lit.injEq,Lit.int.injEq,Lit.string.injEq,Lit.bool.injEq,true_and,and_true]at hx
 obtain⟨⟨⟨q0,q1,q2⟩,q3⟩,-⟩:=hx
 simp only[List.cons.injEq,and_true]at e0 e1 e2 e3
 have hv:cs=#[.int .u8 1,.string ⟨([]:List UInt8).toArray⟩,.int .i64 0,.bool false]:=by
  apply Array.toList_inj.1
  rw[hcs,e0,e1,e2,e3,←q0,←q2,←q3]
  have hs:s1=⟨([]:List UInt8).toArray⟩:=by
   obtain⟨⟨l⟩⟩:=s1
   rw[show l=[] from q1.symm]
  rw[hs]
 subst hv
 exact⟨World.var?_cell gNU hvar 0,World.var?_cell gNU hvar 1,World.var?_cell gNU hvar 2,World.var?_cell gNU hvar 3,hlt⟩
theorem below_grow (w:World) (k:Nat) (os:Array Obj):Below w.heap.size w (Sort.grow (w.drewN k) os):=
 ⟨rfl,rfl,rfl,by simp[Sort.grow],fun i hi=>by simp[Sort.grow,Array.getElem?_append,hi]⟩
theorem itoa_any (n:Int) (h1: -9223372036854775808≤n) (h2:n≤9223372036854775807) (w:World) (G:Globs w):
  Calls Tryz.prog 149 #[.int .i64 n] w fun e w'=>e=.returned (.string ⟨(Lib.itoa n).toArray⟩)∧Below w.heap.size w w':=
 (Tryz.strconv_Itoa n h1 h2 w G.tab).mono fun e w' ⟨he,k,os,hw⟩=>⟨he,by rw[hw];exact below_grow _ _ _⟩
def intsOf {H:Type} (d:DataW H):Array Value:=
 match d with
 |.agg l=>(l.map fun x=>match x with|.lit (.int k n)=>Value.int k n|_=>Value.nilIface).toArray
 |_=>#[]
def put (g:Nat) (cs:Array Value) (h:Array Obj):Array Obj:=h.modify g fun
 |.cells _ t frozen=>.cells cs t frozen
 |o=>o
noncomputable def laidWorld (os:Os):World:=
 let w0:=World.holding Tryz.prog os ⟨#[],#[],[]⟩
 { w0 with heap:=put 0 #[.int .u8 1,.string ⟨#[]⟩,.int .i64 0,.bool false] (put 2 (intsOf (H:=Unit) Rows.laid_internal_strconv_uint64pow10) (put 3 (intsOf (H:=Unit) Rows.laid_math_bits_deBruijn32tab)
   (put 4 (intsOf (H:=Unit) Rows.laid_math_bits_deBruijn64tab) w0.heap))) }
theorem laid_met (os:Os) (args:Array Value):laidMetH Tryz.prog Rows.typesChecksRow.laid ((laidWorld os).forCall (fun _ _=>0) ⟨#[],args,[]⟩).memory:=by
 rw[MakeChecks.laidMetH_plain _ _ _ (by kernel_rfl)]
 exact laidMet_of_run3 8 (by kernel_rfl) (by kernel_rfl) (by kernel_rfl)
end Go.Proofs.YtkklogikakcanaaGreatDoor
