import Derived.Test.YtkklogikakcanaaGreatDoorTreeB
import Derived.Test.YtkklogikakcanaaGreatDoorValMap
import Derived.WideMake
set_option linter.unusedVariables false
set_option linter.unusedSimpArgs false
namespace Go.Proofs.YtkklogikakcanaaGreatDoor
open Go Go.Maps Go.RowKit
abbrev arV (a:Int) (b:Bool):Value:=.agg #[.int .i64 a,.bool b]
def arF (l:Lit):Option Value:=match l with|.int .u8 k=>(arity k).map fun p=>arV p.1 p.2|_=>none
def KindsAt (Mb:Nat) (W:World):Prop:=ValMap Tryz.prog 67 W Mb 22 arF
theorem kindK:Keyed Tryz.prog 67:=int_keyed Tryz.underlying67
theorem kind_key {k:Int} (h:u8ok k):keyOf Tryz.prog 67 (.int .u8 k)=some (.int .u8 k):=keyOf_int_mk Tryz.underlying67 (by
 have e1:IntKind.u8.min=0:=by decide
 have e2:IntKind.u8.max=255:=by decide
 obtain⟨h1,h2⟩:=h
 simp[Lit.wf,e1,e2];omega)
theorem KindsAt.look {Mb:Nat} {W:World} (h:KindsAt Mb W) {k:Int} (hk:u8ok k):
  (Instr.lookup 161 (.map (some Mb)) (.int .u8 k) true).run Tryz.prog W=.ok (.tuple #[((arity k).map fun p=>arV p.1 p.2).getD (arV 0 false),.bool (arity k).isSome]) W:=by
 have:=ValMap.look h kindK Tryz.underlying161 (z:=arV 0 false) (by kernel_rfl) (kind_key hk)
 have e1:arF (.int .u8 k)=(arity k).map fun p=>arV p.1 p.2:=rfl
 rw[e1,Option.isSome_map]at this
 exact this
def arN (j:Nat) (l:Lit):Option Value:=match l with
 |.int .u8 k=>if 10≤k∧k<10+(j:Int) then some (arV 2 false) else if 1≤k∧k≤9 then (arity k).map fun p=>arV p.1 p.2 else none
 |_=>none
theorem updL_u8 (q k:Int) (v:Value) (f:Lit→Option Value):updL (.int .u8 q) v f (.int .u8 k)=if k=q then some v else f (.int .u8 k):=by
 by_cases h:k=q
 ·subst h;rw[updL_same,if_pos rfl]
 ·rw[updL_ne (fun e=>h (by injection e)),if_neg h]
theorem updL_other (q:Int) {l:Lit} (h:∀k,l≠ .int .u8 k) (v:Value) (f:Lit→Option Value):updL (.int .u8 q) v f l=f l:=updL_ne (h q) v f
theorem lit_u8 (l:Lit):(∃k,l=.int .u8 k)∨∀k,l≠ .int .u8 k:=by
 by_cases h:∃k,l=.int .u8 k
 ·exact .inl h
 ·exact .inr fun k e=>h ⟨k,e⟩
theorem arN_other {j:Nat} {l:Lit} (h:∀k,l≠ .int .u8 k):arN j l=none:=by
 unfold arN
 split
 ·next k=>exact absurd rfl (h k)
 ·rfl
theorem arN_next (j:Nat) (l:Lit):updL (.int .u8 (10+(j:Int))) (arV 2 false) (arN j) l=arN (j+1) l:=by
 rcases lit_u8 l with ⟨k,rfl⟩|h
 ·rw[updL_u8]
  unfold arN
  dsimp only
  by_cases h1:k=10+(j:Int)
  ·subst h1
   rw[if_pos rfl,if_pos (by push_cast;omega)]
  ·rw[if_neg h1]
   by_cases h2:10≤k∧k<10+(j:Int)
   ·rw[if_pos h2,if_pos (by push_cast;omega)]
   ·have h3:¬(10≤k∧k<10+((j+1:Nat):Int)):=by push_cast;omega
    rw[if_neg h2,if_neg h3]
 ·rw[updL_other _ h,arN_other h,arN_other h]
theorem arN_all (l:Lit):arN 13 l=arF l:=by
 unfold arN arF
 split
 ·next k=>
  unfold arity
  by_cases h1:10≤k∧k<10+((13:Nat):Int)
  ·rw[if_pos h1]
   rw[if_neg (by omega),if_neg (by omega),if_neg (by omega),if_neg (by omega),if_neg (by omega),if_neg (by omega),if_pos (by omega)]
   rfl
  ·rw[if_neg h1]
   by_cases h2:1≤k∧k≤9
   ·rw[if_pos h2]
   ·rw[if_neg h2]
    rw[if_neg (by omega),if_neg (by omega),if_neg (by omega),if_neg (by omega),if_neg (by omega),if_neg (by omega),if_neg (by omega)]
    rfl
 ·rfl
theorem upd_nine (l:Lit):updL (.int .u8 9) (arV 1 false) (updL (.int .u8 8) (arV 1 false) (updL (.int .u8 7) (arV (-1) true) (updL (.int .u8 6) (arV 0 false) (updL (.int .u8 5) (arV 2 false)
  (updL (.int .u8 4) (arV 1 true) (updL (.int .u8 3) (arV 0 true) (updL (.int .u8 2) (arV 0 false) (updL (.int .u8 1) (arV 0 false) (fun _=>none))))))))) l=arN 0 l:=by
 rcases lit_u8 l with ⟨k,rfl⟩|h
 ·rw[updL_u8,updL_u8,updL_u8,updL_u8,updL_u8,updL_u8,updL_u8,updL_u8,updL_u8]
  unfold arN
  dsimp only
  rw[if_neg (show ¬(10≤k∧k<10+((0:Nat):Int)) by omega)]
  by_cases h:1≤k∧k≤9
  ·rw[if_pos h]
   obtain⟨h1,h2⟩:=h
   obtain rfl|rfl|rfl|rfl|rfl|rfl|rfl|rfl|rfl:k=1∨k=2∨k=3∨k=4∨k=5∨k=6∨k=7∨k=8∨k=9:=by omega
   all_goals rfl
  ·rw[if_neg h]
   repeat rw[if_neg (by omega)]
 ·rw[updL_other _ h,updL_other _ h,updL_other _ h,updL_other _ h,updL_other _ h,updL_other _ h,updL_other _ h,updL_other _ h,updL_other _ h,arN_other h]
set_option maxHeartbeats 4000000 in
set_option maxRecDepth 100000 in
theorem arities_any (w:World):Calls Tryz.prog 110 #[] w fun e w'=>e=.returned (.map (some w.heap.size))∧KindsAt w.heap.size w'∧Below w.heap.size w w':=by
 have hmk:=run_makeMap_plain (P:=Tryz.prog) w 161
 obtain⟨B,hB⟩:∃B,w.heap.size=B:=⟨_,rfl⟩
 obtain⟨w0,hw0⟩:∃w0,w.alloc (.map #[] 0)=w0:=⟨_,rfl⟩
 have m0:ValMap Tryz.prog 67 w0 B 0 (fun _=>none):=by rw[←hw0,←hB];exact ValMap.made _ _ _
 have b0:Below B w w0:=by rw[←hw0,←hB];exact (Below.refl _ _).alloc (Nat.le_refl _) _
 have s0:B≤w0.heap.size:=by have:=b0.size;omega
 have hk:=fun (q:Int) (h0:0≤q) (h1:q≤255)=>kind_key (k:=q) ⟨h0,h1⟩
 have fr:∀{W W':World},Below B w W→W.grownBy W' (some B)→Below B w W':=fun {W W'} hb hg=>hb.grown hg (by have:=hb.size;omega) (fun k hk=>by injection hk with hk;omega)
 obtain⟨w1,r1,m1,g1⟩:=m0.put kindK Tryz.underlying161 (by decide) (v:=arV 0 false) (hk 1 (by decide) (by decide))
 obtain⟨w2,r2,m2,g2⟩:=m1.put kindK Tryz.underlying161 (by decide) (v:=arV 0 false) (hk 2 (by decide) (by decide))
 obtain⟨w3,r3,m3,g3⟩:=m2.put kindK Tryz.underlying161 (by decide) (v:=arV 0 true) (hk 3 (by decide) (by decide))
 obtain⟨w4,r4,m4,g4⟩:=m3.put kindK Tryz.underlying161 (by decide) (v:=arV 1 true) (hk 4 (by decide) (by decide))
 obtain⟨w5,r5,m5,g5⟩:=m4.put kindK Tryz.underlying161 (by decide) (v:=arV 2 false) (hk 5 (by decide) (by decide))
 obtain⟨w6,r6,m6,g6⟩:=m5.put kindK Tryz.underlying161 (by decide) (v:=arV 0 false) (hk 6 (by decide) (by decide))
 obtain⟨w7,r7,m7,g7⟩:=m6.put kindK Tryz.underlying161 (by decide) (v:=arV (-1) true) (hk 7 (by decide) (by decide))
 obtain⟨w8,r8,m8,g8⟩:=m7.put kindK Tryz.underlying161 (by decide) (v:=arV 1 false) (hk 8 (by decide) (by decide))
 obtain⟨w9,r9,m9,g9⟩:=m8.put kindK Tryz.underlying161 (by decide) (v:=arV 1 false) (hk 9 (by decide) (by decide))
 have HM:Hid (ValMap Tryz.prog 67 w9 B 9 (arN 0)):=Lib.hid (m9.congr upd_nine)
 have HB9:Hid (Below B w w9):=Lib.hid (fr (fr (fr (fr (fr (fr (fr (fr (fr b0 g1) g2) g3) g4) g5) g6) g7) g8) g9)
 have HFr:=Lib.hid (fun (W W':World) hb hg=>fr (W:=W) (W':=W') hb hg)
 have HHk:=Lib.hid hk
 have HHB:=Lib.hid hB
 clear m0 m1 m2 m3 m4 m5 m6 m7 m8 m9 g1 g2 g3 g4 g5 g6 g7 g8 g9 b0 s0 fr hk
 go_enter Tryz.func110,Tryz.ntmps110
 go_wp2
 clear r1 r2 r3 r4 r5 r6 r7 r8 r9 hmk hw0 hB
 go_loopw [2] (fun kk wr=>∃j:Nat,kk=.int .u8 (10+(j:Int))∧j≤13∧Hid (ValMap Tryz.prog 67 wr B (9+j) (arN j))∧Hid (Below B w wr)) (fun kk _=>23 - (intOf kk).toNat)
 case atStart=>exact⟨0,rfl,by omega,HM,HB9⟩
 case round=>
  obtain⟨j,rfl,hj,hm,hb⟩:=hrel
  clear HM HB9
  have p1:(0:Int)≤(j:Int):=Int.natCast_nonneg _
  by_cases hlt:j<13
  ·have t1:decide (10+(j:Int)≤22)=true:=by simp;omega
   have t2:IntKind.u8.wrap (10+(j:Int)+1)=10+((j+1:Nat):Int):=by rw[IntKind.wrap_u8];push_cast;omega
   obtain⟨w1,r1,m1,g1⟩:=hm.out.put kindK Tryz.underlying161 (by unfold maxLen;omega) (v:=arV 2 false) (HHk.out (10+(j:Int)) (by omega) (by omega))
   have M1:Hid (ValMap Tryz.prog 67 w1 B (9+(j+1)) (arN (j+1))):=Lib.hid (m1.congr (arN_next j))
   have B1:=Lib.hid (HFr.out _ _ hb.out g1)
   clear m1 g1 hm hb
   go_wp2
   go_roundw
   case rel=>exact⟨j+1,by(congr 1),by omega,M1,B1⟩
   case measure=>simp[intOf];omega
  ·obtain rfl:j=13:=by omega
   have M1:Hid (KindsAt B wr):=Lib.hid (hm.out.congr arN_all)
   clear hm hlt
   go_wp2
   go_ret
   exact⟨by rw[HHB.out];rfl,by rw[HHB.out];exact M1.out,by rw[HHB.out];exact hb.out⟩
end Go.Proofs.YtkklogikakcanaaGreatDoor
