import Derived.OrdersHeld
import Derived.Deep.RegionHeld
import Derived.NoCompiler
import Derived.KernelRfl
import Derived.Tactics
set_option linter.unusedVariables false
set_option linter.unusedSimpArgs false
namespace Go.Proofs.YtkklogikakcanaaGreatDoor
open Go
section
variable {P:Program} {ops:Array Oper} {Q:Exit→Act→World→Prop} {md:Region.Mode} {S:World→Prop} {l:Nat}
def wpAnyL (P:Program) (md:Region.Mode) (ops:Array Oper) (Q:Exit→Act→World→Prop) (S:World→Prop) (l:Nat):Nat→Array Bool→Act→World→Prop
 |0,listed,a,w=>Region.ready md ops listed=[]∧Q .normal a w
 |fuel+1,listed,a,w=>
  (Region.ready md ops listed=[]→Q .normal a w)∧
  ∀i∈Region.ready md ops listed,wpOp P ops Q i (fun a' w'=>((listed.setIfInBounds i true).getD l true=false→S w')∧wpAnyL P md ops Q S l fuel (listed.setIfInBounds i true) a' w') a w
theorem wpAny_of_L:∀(fuel:Nat) (listed:Array Bool) (a:Act) (w:World),wpAnyL P md ops Q S l fuel listed a w→wpAny P md ops Q fuel listed a w
 |0,_,_,_,h=>h
 |fuel+1,_,_,_,h=>⟨h.1,fun i hi=>wpOp_mono (fun a' w' h'=>wpAny_of_L fuel _ a' w' h'.2) (h.2 i hi)⟩
def closedB (md:Region.Mode) (ops:Array Oper) (listed:Array Bool):Bool:=
 (List.range ops.size).all fun k=> !listed.getD k false||((ops[k]?).map fun o=>o.after.all fun e=> !Region.binds md e||listed.getD e.on false).getD true
def Closed (md:Region.Mode) (ops:Array Oper) (listed:Array Bool):Prop:=
 ∀k o,ops[k]? =some o→listed.getD k false=true→∀e∈o.after,Region.binds md e=true→listed.getD e.on false=true
theorem closed_of {listed:Array Bool} (h:closedB md ops listed=true):Closed md ops listed:=fun k o ho hk e he hb=>by
 have h1:=List.all_eq_true.1 h k (List.mem_range.2 (Array.getElem?_eq_some_iff.1 ho).1)
 simp only[hk,Bool.not_true,Bool.false_or,ho,Option.map_some,Option.getD_some,Array.all_eq_true_iff_forall_mem]at h1
 have h2:=h1 e he
 simpa [hb] using h2
theorem Closed.set {listed:Array Bool} {i:Nat} (h:Closed md ops listed) (hi:i∈Region.ready md ops listed):Closed md ops (listed.setIfInBounds i true):=fun k o ho hk e he hb=>by
 by_cases hik:i=k
 ·subst hik
  obtain⟨_,o',ho',hall⟩:=mem_ready.1 hi
  rw[ho]at ho'
  injection ho' with ho'
  subst ho'
  exact getD_set_true (hall e he hb)
 ·rw[getD_set_ne false hik]at hk
  exact getD_set_true (h k o ho hk e he hb)
def sinkL (md:Region.Mode) (ops:Array Oper) (l:Nat):Bool:=
 (List.range l).all fun k=>(List.range (l+1)).any fun m=>decide (k<m)&&((ops[m]?).map fun o=>o.after.any fun e=>Region.binds md e&&e.on==k).getD false
theorem getD_two {listed:Array Bool} {k:Nat} (h:listed.getD k true=false):listed.getD k false=false:=by
 rw[Array.getD_eq_getD_getElem?]at h ⊢
 cases hx:listed[k]? with
 |none=>rw[hx]at h;cases h
 |some b=>rw[hx]at h;exact h
theorem getD_in_size {listed:Array Bool} {k:Nat} (hk:k<listed.size) (h:listed.getD k true=true):listed.getD k false=true:=by
 rw[Array.getD_eq_getD_getElem?,Array.getElem?_eq_getElem hk]at h ⊢
 exact h
theorem last_waits (hs:sinkL md ops l=true) {listed:Array Bool} (hsz:listed.size=ops.size) (hc:Closed md ops listed):
  ∀(n k:Nat),l - k≤n→k<l→listed.getD k true=false→l∉Region.ready md ops listed∧(l<ops.size→listed.getD l true=false):=by
 intro n
 induction n with
 |zero=>intro k hn hk;omega
 |succ n ih=>
  intro k hn hk hun
  have h1:=List.all_eq_true.1 hs k (List.mem_range.2 hk)
  obtain⟨m,hm,hme⟩:=List.any_eq_true.1 h1
  have hml:=List.mem_range.1 hm
  simp only[Bool.and_eq_true,decide_eq_true_eq]at hme
  obtain⟨hkm,hme⟩:=hme
  cases ho:ops[m]? with
  |none=>rw[ho]at hme;cases hme
  |some o=>
   rw[ho]at hme
   simp only[Option.map_some,Option.getD_some]at hme
   obtain⟨e,he,hee⟩:∃e,e∈o.after∧(Region.binds md e&&e.on==k)=true:=by
    rw[←Array.any_toList]at hme
    obtain⟨e,he,h⟩:=List.any_eq_true.1 hme
    exact⟨e,Array.mem_toList_iff.1 he,h⟩
   simp only[Bool.and_eq_true,beq_iff_eq]at hee
   obtain⟨hb,hon⟩:=hee
   have hk2:=getD_two hun
   by_cases hmeq:m=l
   ·subst hmeq
    refine⟨fun hr=>?_,fun hlt=>?_⟩
    ·obtain⟨_,o',ho',hall⟩:=mem_ready.1 hr
     rw[ho]at ho'
     injection ho' with ho'
     subst ho'
     have:=hall e he hb
     rw[hon,hk2]at this
     cases this
    ·cases hx:listed.getD m true with
     |false=>rfl
     |true=>
      have:=hc m o ho (getD_in_size (by omega) hx) e he hb
      rw[hon,hk2]at this
      cases this
   ·have hml':m<l:=by omega
    have hmun:listed.getD m true=false:=by
     cases hx:listed.getD m true with
     |false=>rfl
     |true=>
      have hmo:=(Array.getElem?_eq_some_iff.1 ho).1
      have:=hc m o ho (getD_in_size (by omega) hx) e he hb
      rw[hon,hk2]at this
      cases this
    exact ih m (by omega) hml' hmun
theorem wpAnyL_first {i:Nat} {oi:Oper} {v:Value} (hi:ops[i]? =some oi) (hsel:∀(j:Nat) (o:Oper) cs b,ops[j]? =some o→o.op≠ .select cs b)
  (hQ:∀c a w,Q (.panic c) (a.put oi.dst v) w→Q (.panic c) a w) (hs:sinkL md ops l=true) (hil:i<l) (hl:l<ops.size):
  ∀(fuel:Nat) (listed:Array Bool) (a:Act) (w:World),listed.size=ops.size→Closed md ops listed→
   (∀j oj,ops[j]? =some oj→j≠i→listed.getD j true=false→(∀e∈oj.after,Region.binds md e=true→e.on≠i)→oi.apart ops oj=true)→
   i∈Region.ready md ops listed→YieldsIf P ops S oi v a→S w→
   wpAnyL P md ops Q S l fuel (listed.setIfInBounds i true) (a.put oi.dst v) w→wpAnyL P md ops Q S l (fuel+1) listed a w:=by
 intro fuel
 induction fuel with
 |zero=>
  intro listed a w _ _ _ hr hy hS H
  refine⟨fun h=>(by rw[h]at hr;cases hr),fun j hj=>?_⟩
  by_cases hji:j=i
  ·subst hji;exact hy.wpOp hi hS ⟨fun _=>hS,H⟩
  ·have:=ready_mono hj hji
   rw[H.1]at this
   cases this
 |succ fuel ih=>
  intro listed a w hsz hc hfree hr hy hS H
  refine⟨fun h=>(by rw[h]at hr;cases hr),fun j hj=>?_⟩
  by_cases hji:j=i
  ·subst hji;exact hy.wpOp hi hS ⟨fun _=>hS,H⟩
  ·have h1:=H.2 j (ready_mono hj hji)
   obtain⟨hjun,oj,hoj,hall⟩:=mem_ready.1 hj
   have hiun:=(mem_ready.1 hr).1
   obtain⟨hnl,hlun⟩:=last_waits hs hsz hc (l - i) i (Nat.le_refl _) hil hiun
   have hjl:j≠l:=fun e=>hnl (e▸hj)
   have hnot:∀e∈oj.after,Region.binds md e=true→e.on≠i:=fun e he hb heq=>by
    have h1:=hall e he hb
    rw[heq,getD_two hiun]at h1
    cases h1
   have h2:=wpOp_putIf hoj (hfree j oj hoj hji hjun hnot) (fun cs b=>hsel i oi cs b hi) (fun cs b=>hsel j oj cs b hoj) hQ hy h1
   have hfree':∀k ok,ops[k]? =some ok→k≠i→(listed.setIfInBounds j true).getD k true=false→
     (∀e∈ok.after,Region.binds md e=true→e.on≠i)→oi.apart ops ok=true:=fun k ok hk hki hun hno=>by
    refine hfree k ok hk hki ?_ hno
    by_cases hjk:j=k
    ·subst hjk;exact hjun
    ·rw[getD_set_ne true hjk]at hun;exact hun
   have hl2:((listed.setIfInBounds i true).setIfInBounds j true).getD l true=false:=by
    rw[getD_set_ne true hjl,getD_set_ne true (Nat.ne_of_lt hil)];exact hlun hl
   refine wpOp_mono (fun a' w' h3=>?_) h2
   have hS':=h3.2.1 hl2
   refine⟨fun _=>hS',ih (listed.setIfInBounds j true) a' w' (by simpa using hsz) (hc.set hj) hfree' (ready_mono hr (Ne.symm hji)) h3.1 hS' ?_⟩
   rw[Array.setIfInBounds_comm _ _ hji]
   exact h3.2.2
def takeB (md:Region.Mode) (ops:Array Oper) (l:Nat) (listed:Array Bool) (i:Nat):Bool:=
 Region.noSelect ops&&Region.free md ops listed i&&(Region.ready md ops listed).contains i&&sinkL md ops l&&decide (i<l)&&decide (l<ops.size)&&decide (listed.size=ops.size)&&closedB md ops listed
theorem wpAnyL_take {i:Nat} {oi:Oper} {v:Value} {fuel:Nat} {listed:Array Bool} {a:Act} {w:World} (hi:ops[i]? =some oi) (hb:takeB md ops l listed i=true)
  (hQ:∀c a w,Q (.panic c) (a.put oi.dst v) w→Q (.panic c) a w) (hS:S w) (hy:YieldsIf P ops S oi v a)
  (h:wpAnyL P md ops Q S l fuel (listed.setIfInBounds i true) (a.put oi.dst v) w):wpAnyL P md ops Q S l (fuel+1) listed a w:=by
 simp only[takeB,Bool.and_eq_true,decide_eq_true_eq]at hb
 obtain⟨⟨⟨⟨⟨⟨⟨h1,h2⟩,h3⟩,h4⟩,h5⟩,h6⟩,h7⟩,h8⟩:=hb
 exact wpAnyL_first hi (Region.noSelect_spec h1) hQ h4 h5 h6 fuel listed a w h7 (closed_of h8) (Region.free_spec hi h2) (by simpa using h3) hy hS h
theorem tk (i:Nat) {oi:Oper} {v:Value} {fuel:Nat} {listed:Array Bool} {a:Act} {w:World} (h:wpAnyL P md ops Q S l fuel (listed.setIfInBounds i true) (a.put oi.dst v) w)
  (hi:ops[i]? =some oi:=by rfl) (hb:takeB md ops l listed i=true:=by kernel_rfl) (hS:S w:=by assumption) (h1:Region.wanted oi (yielded ops a.tmps)=true:=by kernel_rfl)
  (h2:∀w,S w→(execOp a.eval oi).run P w=.ok (.value v) w:=by intro w hSw;(try dsimp only at hSw);go_simp;all_goals with_reducible rfl)
  (hQ:∀c a w,Q (.panic c) (a.put oi.dst v) w→Q (.panic c) a w:=by exact fun _ _ _ h=>h):wpAnyL P md ops Q S l (fuel+1) listed a w:=
 wpAnyL_take hi hb hQ hS (.inl ⟨h1,h2⟩) h
theorem tk0 (i:Nat) {oi:Oper} {fuel:Nat} {listed:Array Bool} {a:Act} {w:World} (h:wpAnyL P md ops Q S l fuel (listed.setIfInBounds i true) (a.put oi.dst undef) w)
  (hi:ops[i]? =some oi:=by rfl) (hb:takeB md ops l listed i=true:=by kernel_rfl) (hS:S w:=by assumption) (h1:Region.wanted oi (yielded ops a.tmps)=false:=by kernel_rfl)
  (hQ:∀c a w,Q (.panic c) (a.put oi.dst undef) w→Q (.panic c) a w:=by exact fun _ _ _ h=>h):wpAnyL P md ops Q S l (fuel+1) listed a w:=
 wpAnyL_take hi hb hQ hS (.inr ⟨h1,rfl⟩) h
theorem wpAnyL_step {j:Nat} {o:Oper} {fuel:Nat} {listed:Array Bool} {a:Act} {w:World} (hr:Region.ready md ops listed=[j]) (ho:ops[j]? =some o)
  (h:∀K':Act→World→Prop,(∀a w,S w→(S w→wpAnyL P md ops Q S l fuel (listed.setIfInBounds j true) a w)→K' a w)→if Region.wanted o (yielded ops a.tmps)=true then Oper.wp P o a w K' Q else K' (a.put o.dst undef) w):
  wpAnyL P md ops Q S l (fuel+1) listed a w:=
 ⟨fun h0=>(by rw[hr]at h0;cases h0),(by
  rw[hr]
  intro i hi
  obtain rfl:i=j:=by simpa using hi
  exact wpOp_step ho fun K' hK=>h K' fun a w hS hW=>hK a w ⟨fun _=>hS,hW hS⟩)⟩
theorem wpAnyL_last {j:Nat} {o:Oper} {fuel:Nat} {listed:Array Bool} {a:Act} {w:World} (hr:Region.ready md ops listed=[j]) (ho:ops[j]? =some o)
  (hl:(listed.setIfInBounds j true).getD l true=true) (hd:Region.ready md ops (listed.setIfInBounds j true)=[])
  (h:∀K':Act→World→Prop,(∀a w,Q .normal a w→K' a w)→if Region.wanted o (yielded ops a.tmps)=true then Oper.wp P o a w K' Q else K' (a.put o.dst undef) w):
  wpAnyL P md ops Q S l (fuel+1) listed a w:=
 ⟨fun h0=>(by rw[hr]at h0;cases h0),(by
  rw[hr]
  intro i hi
  obtain rfl:i=j:=by simpa using hi
  refine wpOp_step ho fun K' hK=>h K' fun a w hq=>hK a w ⟨fun h1=>(by rw[hl]at h1;cases h1),?_⟩
  cases fuel with
  |zero=>exact⟨hd,hq⟩
  |succ fuel=>exact⟨fun _=>hq,by rw[hd];simp⟩)⟩
theorem wp_region_L {id:Nat} {a:Act} {w:World} (hm:P.follows .mixedOrders=true) (hS:S w.drew)
  (h:S w.drew→wpAnyL P .any ops Q S l ops.size (Array.replicate ops.size false) a w.drew):(Code.region id ops true).wp P Q a w:=
 wp_region_any hm (wpAny_of_L _ _ _ _ (h hS))
end
end Go.Proofs.YtkklogikakcanaaGreatDoor
