import Derived.Test.YtkklogikakcanaaGreatDoorTreeE
import Derived.Defers
import Derived.Recover
import Derived.Laws.Pointers
set_option linter.unusedVariables false
set_option linter.unusedSimpArgs false
namespace Go.Proofs.YtkklogikakcanaaGreatDoor
open Go.RowKit
theorem tassert_yes (er : Int) (w : World) : (Instr.typeAssert (.iface 159 (.int .i64 er)) 20 159 true).run Tryz.prog w = .ok (.tuple #[.int .i64 er, .bool true]) w := by first | kernel_rfl | rfl
theorem tassert_no (w : World) : (Instr.typeAssert .nilIface 20 159 true).run Tryz.prog w = .ok (.tuple #[.int .i64 0, .bool false]) w := by first | kernel_rfl | rfl
set_option maxRecDepth 100000 in
theorem tcatch_panic (p : Addr) (x er : Int) (older : List PanicEntry) (w : World) (hc : w.cell? p = some (.int .i64 x)) (hz : w.frozen? p = false) :
  CallsD Tryz.prog 109 #[.pointer (some p)] (.panicking ({ v := .iface 159 (.int .i64 er), recovered := false } :: older)) w fun e u' w' =>
   e = .returned (.tuple #[]) ∧ u' = .panicking ({ v := .iface 159 (.int .i64 er), recovered := true } :: older) ∧ w' = w.setCell p (.int .i64 er) := by
 refine callsD_of_wpS Tryz.func109 rfl fun c₀ cs hu => ?_
 apply wpS_seq
 apply wpS_region
 have ta := tassert_yes
 have tb := tassert_no
 simp [wpOpsS, go_sem, recoverD, hu, Tryz.ntmps109, Exit.thenS, ta, tb]
 apply wpS_seq
 apply wpS_region
 simp [wpOpsS, go_sem, Exit.thenS]
 refine wpS_cond (t := true) (by simp [Act.eval, Array.replicate]) ?_
 simp only [if_true]
 apply wpS_region
 simp [wpOpsS, go_sem, hc, hz, bodyPostS, results, Tryz.results109]
set_option maxRecDepth 100000 in
theorem tcatch_idle (p : Addr) (w : World) :
  CallsD Tryz.prog 109 #[.pointer (some p)] .returning w fun e u' w' => e = .returned (.tuple #[]) ∧ u' = .returning ∧ w' = w := by
 refine callsD_of_wpS Tryz.func109 rfl fun c₀ cs hu => ?_
 apply wpS_seq
 apply wpS_region
 have ta := tassert_yes
 have tb := tassert_no
 simp [wpOpsS, go_sem, recoverD, hu, Tryz.ntmps109, Exit.thenS, ta, tb]
 apply wpS_seq
 apply wpS_region
 simp [wpOpsS, go_sem, Exit.thenS]
 refine wpS_cond (t := false) (by simp [Act.eval, Array.replicate]) ?_
 simp only [Bool.false_eq_true, if_false]
 refine wpS_of_wp (wp_skip ?_)
 cases c₀
 simp_all [bodyPostS, results, Tryz.results109]
end Go.Proofs.YtkklogikakcanaaGreatDoor
namespace Go.Proofs.YtkklogikakcanaaGreatDoor
open Go.RowKit
abbrev exObj (x : Ex) : Obj := .cells #[.int .u8 x.k, .int .i64 x.n, .string ⟨x.nm.toArray⟩, .int .u8 x.t.k, .string ⟨x.t.nm.toArray⟩, .int .i64 x.t.n, .slice x.d.a x.args.length x.d.c] 70 (0, 0)
end Go.Proofs.YtkklogikakcanaaGreatDoor
