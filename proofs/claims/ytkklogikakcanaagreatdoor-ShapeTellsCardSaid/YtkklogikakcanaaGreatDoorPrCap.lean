import Derived.Test.YtkklogikakcanaaGreatDoorTreeOpen
set_option linter.unusedVariables false
set_option linter.unusedSimpArgs false
namespace Go.Proofs.YtkklogikakcanaaGreatDoor
open Go.ChangeShapes Go.WideShapes Go.Deep Go.RowKit
structure CapP (p:Pr):Prop where
 recs:∀r∈p.rs,r.fs.length≤r.d.c
 pars:∀f∈p.fs,f.ps.length≤f.pd.c
section
variable {H:Type} {enc:TypeId×Value→H} {P:Program} {w:World} {base:Nat} {spare:Nat→Bool} {held:Bool}
variable {H:Type} {enc:TypeId×Value→H} {w:World} {base:Nat} {spare:Nat→Bool} {held:Bool}
theorem row_cap {P:Program} {fuel n c:Nat} {A:Option Addr} {t e:TypeId} {x:DataW H×List MemPlace} (ht:P.underlying t=some (.slice e)) (h:DataW.trod enc P w base spare held fuel t [.slice A n c]=some x):n≤c:=by
 rcases DataW.trod_slice ht h with ⟨hv,-⟩|⟨a,len,cap,elems,rest,m,-,hv,-,-,hl,-⟩
 ·simp only[List.cons.injEq,Value.slice.injEq,and_true]at hv;omega
 ·simp only[List.cons.injEq,Value.slice.injEq,and_true]at hv;omega
set_option maxRecDepth 100000 in
theorem open_re2 {fuel:Nat} {cs:List Value} {x:DataW H×List MemPlace} (h:DataW.trod enc Tryz.prog w base spare held fuel 58 cs=some x) (hw:∀m∈x.1.weights Tryz.prog 58,m≤reachBytes):∃a:Re,cs=a.cells∧(ReIn w w.heap.size a∧a.fs.length≤a.d.c):=by
 obtain⟨fs,ht,hC,f0,f1,g0,g1,⟨o0,c0,u0⟩,⟨o1,c1,u1⟩⟩:=reFields
 obtain⟨hl,n,hf,hget⟩:=open_field ht h hw
 rw[hC]at hl
 obtain⟨x0,x1,rfl⟩:∃x0 x1,cs=[x0,x1]:=by
  match cs,hl with
  |[x0,x1],_=>exact⟨_,_,rfl⟩
 obtain⟨y0,t0,w0⟩:=hget 0 f0 g0
 rw[o0,c0]at t0
 simp only[List.drop_zero,List.drop_succ_cons,List.take_succ_cons,List.take_zero,List.cons_append,List.nil_append]at t0
 obtain⟨a0,e0,k0⟩:=trod_str u0 t0 w0
 simp only[List.cons.injEq,and_true]at e0
 subst e0
 obtain⟨y1,t1,w1⟩:=hget 1 f1 g1
 rw[o1,c1]at t1
 simp only[List.drop_zero,List.drop_succ_cons,List.take_succ_cons,List.take_zero,List.cons_append,List.nil_append]at t1
 obtain⟨d1,l1,e1,n1,r1,s1⟩:=open_row (At:=FlAt) (cells:=Fl.cells) (k:=4) u1 (by kernel_rfl) (by decide) (of_decide_eq_true (by kernel_rfl)) (fun b o y=>FlAt.of) (fun m hm cs' y hy hyw=>open_fl hy hyw) t1 w1
 simp only[List.cons.injEq,and_true]at e1
 subst e1
 exact⟨⟨a0,d1,l1⟩,rfl,⟨k0,n1,r1,s1⟩,row_cap u1 t1⟩
set_option maxRecDepth 100000 in
theorem open_fu2 {fuel:Nat} {cs:List Value} {x:DataW H×List MemPlace} (h:DataW.trod enc Tryz.prog w base spare held fuel 53 cs=some x) (hw:∀m∈x.1.weights Tryz.prog 53,m≤reachBytes):∃a:Fu,cs=a.cells∧(FuIn w w.heap.size a∧a.ps.length≤a.pd.c):=by
 obtain⟨fs,ht,hC,f0,f1,f2,f3,g0,g1,g2,g3,⟨o0,c0,u0⟩,⟨o1,c1,u1⟩,⟨o2,c2,u2⟩,⟨o3,c3,u3⟩⟩:=fuFields
 obtain⟨hl,n,hf,hget⟩:=open_field ht h hw
 rw[hC]at hl
 obtain⟨x0,x1,x2,x3,x4,x5,rfl⟩:∃x0 x1 x2 x3 x4 x5,cs=[x0,x1,x2,x3,x4,x5]:=by
  match cs,hl with
  |[x0,x1,x2,x3,x4,x5],_=>exact⟨_,_,_,_,_,_,rfl⟩
 obtain⟨y0,t0,w0⟩:=hget 0 f0 g0
 rw[o0,c0]at t0
 simp only[List.drop_zero,List.drop_succ_cons,List.take_succ_cons,List.take_zero,List.cons_append,List.nil_append]at t0
 obtain⟨a0,e0,k0⟩:=trod_str u0 t0 w0
 simp only[List.cons.injEq,and_true]at e0
 subst e0
 obtain⟨y1,t1,w1⟩:=hget 1 f1 g1
 rw[o1,c1]at t1
 simp only[List.drop_zero,List.drop_succ_cons,List.take_succ_cons,List.take_zero,List.cons_append,List.nil_append]at t1
 obtain⟨d1,l1,e1,n1,r1,s1⟩:=open_row (At:=FlAt) (cells:=Fl.cells) (k:=4) u1 (by kernel_rfl) (by decide) (of_decide_eq_true (by kernel_rfl)) (fun b o y=>FlAt.of) (fun m hm cs' y hy hyw=>open_fl hy hyw) t1 w1
 simp only[List.cons.injEq,and_true]at e1
 subst e1
 obtain⟨y2,t2,w2⟩:=hget 2 f2 g2
 rw[o2,c2]at t2
 simp only[List.drop_zero,List.drop_succ_cons,List.take_succ_cons,List.take_zero,List.cons_append,List.nil_append]at t2
 rw[u2]at t2 w2
 obtain⟨a2,e2,k2⟩:=open_ty t2 w2
 simp only[Ty.cells,List.cons.injEq,and_true]at e2
 obtain⟨rfl,rfl,rfl⟩:=e2
 obtain⟨y3,t3,w3⟩:=hget 3 f3 g3
 rw[o3,c3]at t3
 simp only[List.drop_zero,List.drop_succ_cons,List.take_succ_cons,List.take_zero,List.cons_append,List.nil_append]at t3
 obtain⟨d3,l3,e3,n3,r3,s3⟩:=open_row (At:=StAt) (cells:=St.cells) (k:=21) u3 (by kernel_rfl) (by decide) (of_decide_eq_true (by kernel_rfl)) (fun b o y=>StAt.of) (fun m hm cs' y hy hyw=>open_st m cs' y hy hyw) t3 w3
 simp only[List.cons.injEq,and_true]at e3
 subst e3
 exact⟨⟨a0,d1,l1,a2,d3,l3⟩,rfl,⟨k0,⟨n1,r1,s1⟩,k2,n3,r3,s3⟩,row_cap u1 t1⟩
set_option maxRecDepth 100000 in
theorem open_pr2 {fuel:Nat} {cs:List Value} {x:DataW H×List MemPlace} (h:DataW.trod enc Tryz.prog w base spare held fuel 27 cs=some x) (hw:∀m∈x.1.weights Tryz.prog 27,m≤reachBytes):∃a:Pr,cs=a.cells∧PrIn w w.heap.size a∧CapP a:=by
 obtain⟨fs,ht,hC,f0,f1,f2,f3,g0,g1,g2,g3,⟨o0,c0,u0⟩,⟨o1,c1,u1⟩,⟨o2,c2,u2⟩,⟨o3,c3,u3⟩⟩:=prFields
 obtain⟨hl,n,hf,hget⟩:=open_field ht h hw
 rw[hC]at hl
 obtain⟨x0,x1,x2,x3,rfl⟩:∃x0 x1 x2 x3,cs=[x0,x1,x2,x3]:=by
  match cs,hl with
  |[x0,x1,x2,x3],_=>exact⟨_,_,_,_,rfl⟩
 obtain⟨y0,t0,w0⟩:=hget 0 f0 g0
 rw[o0,c0]at t0
 simp only[List.drop_zero,List.drop_succ_cons,List.take_succ_cons,List.take_zero,List.cons_append,List.nil_append]at t0
 obtain⟨d0,l0,e0,n0,r0,s0⟩:=open_row (At:=ReAt) (cells:=Re.cells) (k:=2) u0 (by kernel_rfl) (by decide) (of_decide_eq_true (by kernel_rfl)) (fun b o y=>ReAt.of) (fun m hm cs' y hy hyw=>open_re2 hy hyw) t0 w0
 simp only[List.cons.injEq,and_true]at e0
 subst e0
 obtain⟨y1,t1,w1⟩:=hget 1 f1 g1
 rw[o1,c1]at t1
 simp only[List.drop_zero,List.drop_succ_cons,List.take_succ_cons,List.take_zero,List.cons_append,List.nil_append]at t1
 obtain⟨d1,l1,e1,n1,r1,s1⟩:=open_row (At:=FlAt) (cells:=Fl.cells) (k:=4) u1 (by kernel_rfl) (by decide) (of_decide_eq_true (by kernel_rfl)) (fun b o y=>FlAt.of) (fun m hm cs' y hy hyw=>open_fl hy hyw) t1 w1
 simp only[List.cons.injEq,and_true]at e1
 subst e1
 obtain⟨y2,t2,w2⟩:=hget 2 f2 g2
 rw[o2,c2]at t2
 simp only[List.drop_zero,List.drop_succ_cons,List.take_succ_cons,List.take_zero,List.cons_append,List.nil_append]at t2
 obtain⟨d2,l2,e2,n2,r2,s2⟩:=open_row (At:=FuAt) (cells:=Fu.cells) (k:=6) u2 (by kernel_rfl) (by decide) (of_decide_eq_true (by kernel_rfl)) (fun b o y=>FuAt.of) (fun m hm cs' y hy hyw=>open_fu2 hy hyw) t2 w2
 simp only[List.cons.injEq,and_true]at e2
 subst e2
 obtain⟨y3,t3,w3⟩:=hget 3 f3 g3
 rw[o3,c3]at t3
 simp only[List.drop_zero,List.drop_succ_cons,List.take_succ_cons,List.take_zero,List.cons_append,List.nil_append]at t3
 obtain⟨d3,l3,e3,n3,r3,s3⟩:=open_row (At:=ThAt) (cells:=Th.cells) (k:=1) u3 (by kernel_rfl) (by decide) (of_decide_eq_true (by kernel_rfl)) (fun b o y=>ThAt.of) (fun m hm cs' y hy hyw=>open_th hy hyw) t3 w3
 simp only[List.cons.injEq,and_true]at e3
 subst e3
 exact⟨⟨d0,l0,d1,l1,d2,l2,d3,l3⟩,rfl,⟨n0,r0,fun r hr=>(s0 r hr).1,⟨n1,r1,s1⟩,n2,r2,fun f hf=>(s2 f hf).1,n3,r3,s3⟩,⟨fun r hr=>(s0 r hr).2,fun f hf=>(s2 f hf).2⟩⟩
end
end Go.Proofs.YtkklogikakcanaaGreatDoor
