import Derived.Laws.CopyOwn
import Derived.Laws.OwnMore
import Derived.Below
set_option linter.unusedVariables false
set_option linter.unusedSimpArgs false
open List renaming set_cons_zero → sl5
namespace Go.Proofs.YtkklogikakcanaaGreatDoor
open Go
theorem run_copy_rowk {P:Program} (w:World) (dT sT ty elem:TypeId) (g dLen dCap:Nat) (a:Addr) (sLen sCap:Nat) (cur:Array Value) (t:TypeId) (cs:List Value) (k:Nat)
  (hu:P.underlying dT=some (.slice elem)) (hs:(P.info? elem).map (·.size)=some k)
  (hg:w.heap[g]? =some (.cells cur t (0,0))) (hn:cs.length=Nat.min sLen dLen*k)
  (hsrc:∀j v,cs[j]? =some v→w.cell? (a.add j)=some v) (hfit:cs.length≤cur.size) (h1:∀v∈cs,v.oneCell'=true):
  (Builtin.copy_ #[dT,sT] ty #[.slice (some ⟨g,0,none⟩) dLen dCap,.slice (some a) sLen sCap]).run P w=
   .ok (goInt (Nat.min sLen dLen)) (w.setRow g (cs++cur.toList.drop cs.length).toArray):=by
 have hl:=run_loadCells_list (P:=P) w a cs hsrc
 have hst:=run_storeCells_at P g 0 t cs 0 cur w hg (by simpa using hfit) h1
 cases hq:P.info? elem with
 |none=>simp[hq]at hs
 |some i=>
  have hi:i.size=k:=by simpa [hq] using hs
  simp only[Nat.add_zero,Nat.zero_add,List.take_zero,List.nil_append]at hst
  rw[hn]at hl
  simp[Builtin.copy_,run_underlying hu,Builtin.lenOf,Builtin.firstCells,sizeOf,typeInfo,hq,hi,hl,hst]
theorem run_copy_zero {P:Program} (w:World) (dT sT ty elem:TypeId) (d:Addr) (dCap:Nat) (a:Option Addr) (sCap:Nat) (k:Nat)
  (hu:P.underlying dT=some (.slice elem)) (hs:(P.info? elem).map (·.size)=some k):
  (Builtin.copy_ #[dT,sT] ty #[.slice (some d) 0 dCap,.slice a 0 sCap]).run P w=.ok (goInt 0) w:=by
 have hl:∀(x:Addr),(loadCells x 0).run P w=.ok #[] w:=fun x=>by simpa using run_loadCells_list (P:=P) w x [] (by simp)
 cases hq:P.info? elem with
 |none=>simp[hq]at hs
 |some i=>
  have hi:i.size=k:=by simpa [hq] using hs
  cases a<;>simp[Builtin.copy_,run_underlying hu,Builtin.lenOf,Builtin.firstCells,sizeOf,typeInfo,hq,storeCells,hl]
theorem wpList_copy_full {P:Program} {w:World} {ops:Array Oper} {rest:List Oper} {o:Oper} {a:Act} {Q:Exit→Act→World→Prop} (hgd:o.guard=none) (d s:Operand) (dT sT:TypeId)
  (ho:o.op=.call { callee:=.builtin .copy,args:=#[d,s],argTypes:=#[dT,sT] }) (elem:TypeId) (k:Nat) (hu:P.underlying dT=some (.slice elem)) (hsz:(P.info? elem).map (·.size)=some k)
  (base:Nat) (e:TypeId) (g n cap:Nat) (xs:List Value) (hown:w.ownsRow base e k (.slice (some ⟨g,0,none⟩) n cap) n xs) (sp:Option Addr) (sCap:Nat)
  (hd:a.eval d=.slice (some ⟨g,0,none⟩) n cap) (hs:a.eval s=.slice sp n sCap) (cs:List Value) (hl:cs.length=n*k)
  (hsrc:0<n→∃ad,sp=some ad∧∀j v,cs[j]? =some v→w.cell? (ad.add j)=some v) (h1:∀v∈cs,v.oneCell'=true)
  (h:∀w',w'.ownsRow base e k (.slice (some ⟨g,0,none⟩) n cap) n cs→w.grownBy w' (some g)→wpList P ops Q rest (a.put o.dst (goInt n)) w'):
  wpList P ops Q (o::rest) a w:=by
 have hown0:=hown
 refine wpList_plain hgd fun K hK=>?_
 rcases hown.2 with ⟨h',_⟩|⟨g',cap',cur,h',hb,hg,hnc,hcm,hcs,htake⟩
 ·simp at h'
 ·simp only[Value.slice.injEq,Option.some.injEq,Addr.mk.injEq,and_true,true_and]at h'
  obtain⟨rfl,rfl⟩:=h'
  rcases Nat.eq_zero_or_pos n with hn|hn
  ·subst hn
   obtain rfl:cs=[]:=List.eq_nil_of_length_eq_zero (by omega)
   obtain rfl:xs=[]:=List.eq_nil_of_length_eq_zero (by have:=hown.1;omega)
   have hrun:=run_copy_zero (P:=P) w dT sT o.type elem ⟨g,0,none⟩ cap sp sCap k hu hsz
   unfold Oper.wp
   simp[execOp,ho,resolve,invoke,builtin,hd,hs,hrun,Result.andThen]
   exact hK _ _ (h w hown0 ⟨rfl,rfl,rfl,Nat.le_refl _,fun _ _ _=>rfl⟩)
  ·obtain⟨ad,rfl,hsc⟩:=hsrc hn
   have hfit:cs.length≤cur.size:=by rw[hl,hcs];exact Nat.mul_le_mul_right _ hnc
   have hrun:=run_copy_rowk (P:=P) w dT sT o.type elem g n cap ad n sCap cur e cs k hu hsz hg (by rw[hl,show Nat.min n n=n from Nat.min_self n]) hsc hfit h1
   rw[show Nat.min n n=n from Nat.min_self n]at hrun
   unfold Oper.wp
   simp[execOp,ho,resolve,invoke,builtin,hd,hs,hrun,Result.andThen]
   refine hK _ _ (h _ ⟨hl,.inr ⟨g,cap,_,rfl,hb,setRow_heap w g cur _ e _ hg,hnc,hcm,?_,?_⟩⟩ ⟨rfl,rfl,rfl,by simp[World.setRow],fun j _ hj=>setRow_other w g j _ (fun e=>hj (by rw[e]))⟩)
   ·simp only[List.size_toArray,List.length_append,List.length_drop,Array.length_toList]
    omega
   ·rw[←hl]
    exact List.take_left
theorem own_room {w:World} {base:Nat} {e:TypeId} {k:Nat} {g n cap:Nat} {xs:List Value} (h:w.ownsRow base e k (.slice (some ⟨g,0,none⟩) n cap) n xs) {j:Nat} (hj:j<cap*k):
  ∃u,w.cell? ⟨g,j,none⟩=some u:=by
 rcases h.2 with ⟨h',_⟩|⟨g',cap',cur,h',hb,hg,hnc,hcm,hcs,htake⟩
 ·simp at h'
 ·simp only[Value.slice.injEq,Option.some.injEq,Addr.mk.injEq,and_true,true_and]at h'
  obtain⟨rfl,rfl⟩:=h'
  refine⟨cur[j]'(by rw[hcs];exact hj),?_⟩
  simp[World.cell?,hg]
end Go.Proofs.YtkklogikakcanaaGreatDoor
namespace Go.Proofs.YtkklogikakcanaaGreatDoor
open Go Go.RowKit
def putAll (w:World) (g:Nat):Nat→List Value→World
 |_,[]=>w
 |o,u::us=>putAll (w.setCell ⟨g,o,none⟩ u) g (o+1) us
theorem own_more {w:World} {base:Nat} {e:TypeId} {k g n cap:Nat} {xs:List Value} (h:w.ownsRow base e k (.slice (some ⟨g,0,none⟩) n cap) n xs) (hn:n<cap):
  ∃ys,ys.length=k∧w.ownsRow base e k (.slice (some ⟨g,0,none⟩) (n+1) cap) (n+1) (xs++ys):=by
 obtain⟨hl,h2⟩:=h
 rcases h2 with ⟨h',_⟩|⟨g',cap',cur,h',hb,hg,hnc,hcm,hcs,htake⟩
 ·simp at h'
 ·simp only[Value.slice.injEq,Option.some.injEq,Addr.mk.injEq,and_true,true_and]at h'
  obtain⟨rfl,rfl⟩:=h'
  have hm:(n+1)*k≤cap*k:=Nat.mul_le_mul_right _ hn
  have hs:(n+1)*k=n*k+k:=Nat.succ_mul n k
  have e1:((cur.toList.drop (n*k)).take k).length=k:=by
   rw[List.length_take,List.length_drop,Array.length_toList];omega
  refine⟨(cur.toList.drop (n*k)).take k,e1,by rw[List.length_append,e1,hl,hs],.inr ⟨g,cap,cur,rfl,hb,hg,hn,hcm,hcs,?_⟩⟩
  rw[hs,List.take_add,htake]
theorem own_putAll {base:Nat} {e:TypeId} {k g n cap:Nat}:∀(us ys pre:List Value) (w:World),w.ownsRow base e k (.slice (some ⟨g,0,none⟩) n cap) n (pre++ys)→ys.length=us.length→
  (putAll w g pre.length us).ownsRow base e k (.slice (some ⟨g,0,none⟩) n cap) n (pre++us)
 |[],ys,pre,w,h,hl=>by
  obtain rfl:ys=[]:=List.eq_nil_of_length_eq_zero hl
  exact h
 |u::us,[],pre,w,h,hl=>by simp at hl
 |u::us,y::ys,pre,w,h,hl=>by
  have h1:=(World.ownsRow.stored h pre.length u).1
  rw[List.set_append_right _ _ (Nat.le_refl _),Nat.sub_self,sl5]at h1
  have ih:=own_putAll us ys (pre++[u]) (w.setCell ⟨g,pre.length,none⟩ u) (by rw[List.append_assoc];exact h1) (by simpa using hl)
  rw[List.append_assoc,List.length_append,List.length_singleton]at ih
  exact ih
theorem own_fill {base:Nat} {e:TypeId} {k g n cap:Nat} {w:World} {xs:List Value} (h:w.ownsRow base e k (.slice (some ⟨g,0,none⟩) n cap) n xs) (hn:n<cap) (us:List Value) (hu:us.length=k):
  (putAll w g (n*k) us).ownsRow base e k (.slice (some ⟨g,0,none⟩) (n+1) cap) (n+1) (xs++us):=by
 obtain⟨ys,hy,h2⟩:=own_more h hn
 have:=own_putAll us ys xs w h2 (by omega)
 rwa [h.1]at this
theorem putAll_below {B:Nat} {w0:World} {g:Nat} (hg:B≤g):∀(us:List Value) (o:Nat) (w:World),Below B w0 w→Below B w0 (putAll w g o us)
 |[],_,_,hb=>hb
 |u::us,o,w,hb=>putAll_below hg us (o+1) _ (hb.setCell (p:=⟨g,o,none⟩) hg u)
theorem putAll_size {g:Nat}:∀(us:List Value) (o:Nat) (w:World),(putAll w g o us).heap.size=w.heap.size
 |[],_,_=>rfl
 |u::us,o,w=>by
  rw[putAll,putAll_size us (o+1)]
  simp
theorem own_begin (w:World) (cs:Array Value) (T:TypeId) (k cap:Nat) (hc:cap≤maxLen) (hs:cs.size=cap*k):
  (w.alloc (.cells cs T)).ownsRow w.heap.size T k (.slice (some ⟨w.heap.size,0,none⟩) 0 cap) 0 []:=
 ⟨by simp,.inr ⟨w.heap.size,cap,cs,rfl,Nat.le_refl _,heap_alloc_new w _,Nat.zero_le _,hc,hs,by simp⟩⟩
theorem own_rooms {w:World} {base:Nat} {e:TypeId} {k g n cap:Nat} {xs:List Value} (h:w.ownsRow base e k (.slice (some ⟨g,0,none⟩) n cap) n xs) {o:Nat} (ho:o+k≤cap*k):
  (∀j,j<k→∃u,w.cell? ⟨g,o+j,none⟩=some u)∧∀j,w.frozen? ⟨g,j,none⟩=false:=
 ⟨fun j hj=>own_room h (by omega),fun j=>h.frozenAt _⟩
end Go.Proofs.YtkklogikakcanaaGreatDoor
