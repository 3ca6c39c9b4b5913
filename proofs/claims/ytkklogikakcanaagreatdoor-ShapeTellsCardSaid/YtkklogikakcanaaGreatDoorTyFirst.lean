import Derived.Test.YtkklogikakcanaaGreatDoorTyAlive
import Derived.Test.YtkklogikakcanaaGreatDoorTwC
set_option linter.unusedVariables false
set_option linter.unusedSimpArgs false
namespace Go.Proofs.YtkklogikakcanaaGreatDoor
open Go Go.RowKit
mutual
theorem plSt_all:∀s:St,plSt s≤stAll s
 |.mk k nm t x y bd body ed els=>by
  rw[plSt,stAll]
  have:=plSts_all body
  have:=plSts_all els
  omega
theorem plSts_all:∀l:List St,plSts l≤stAlls l
 |[]=>by rw[plSts,stAlls];exact Nat.le_refl _
 |s::r=>by
  rw[plSts,stAlls]
  have:=plSt_all s
  have:=plSts_all r
  omega
end
theorem places_small {p:Pr} (S:PrSmall p):placesOf p≤262144:=by
 have h1:=S.all
 have h2:=sum_le_sum (fun f:Fu=>plSts f.body) (fun f=>stAlls f.body) (fun f=>plSts_all f.body) p.fs
 have h3:=sum_le_sum (fun t:Th=>plSts t.l) (fun t=>stAlls t.l) (fun t=>plSts_all t.l) p.ts
 unfold placesOf
 omega
abbrev cutT (p:Pr) (k:Nat):Pr:=⟨p.rd,p.rs,p.sd,p.ss,p.fd,p.fs,p.td,p.ts.take k⟩
set_option maxHeartbeats 400000 in
set_option maxRecDepth 100000 in
theorem beyond_any (b off c:Nat) (x:Int) (h1:0≤x) (h2:x≤9223372036854775807) (w:World) (hc:w.cell? ⟨b,off,none⟩=some (.int .i64 x)):
  Calls Tryz.prog 7 #[.slice (some ⟨b,off,none⟩) 1 c] w fun e w'=>e=.returned (.bool (decide (262144<x)))∧w=w':=by
 by_cases hx:262144<x
 ·rw[show decide (262144<x)=true by simpa using hx]
  go_enter Tryz.func7,Tryz.ntmps7
  go_wp2
  refine wp_loop_rounds 1 ?_
  rw[rounds_succ]
  go_wp2
  go_ret
  exact⟨rfl,rfl⟩
 ·rw[show decide (262144<x)=false by simpa using hx]
  go_enter Tryz.func7,Tryz.ntmps7
  go_wp2
  refine wp_loop_rounds 2 ?_
  rw[rounds_succ]
  go_wp2
  rw[rounds_succ]
  go_wp2
  go_ret
  exact⟨rfl,rfl⟩
theorem tyG_of {W:World} (hL:laidMetH Tryz.prog Rows.typesChecksRow.laid W) (hSh:W.ShapedOpen Tryz.prog):TyG W.heap.size W:=by
 obtain⟨h0,h1,h2,h3,h4⟩:=num_of_tail (laid_tail hL).tail
 exact⟨GlB.of (lglobs_of hSh),⟨h0,h1,h2,h3,h4⟩,globs_of_laid hL⟩
end Go.Proofs.YtkklogikakcanaaGreatDoor
