import Derived.WalkKit
import Derived.Laws.CopyOwn
import Derived.Laws.OwnMore
import Derived.Below
import Derived.Deep.QuietTactic
set_option linter.unusedVariables false
set_option linter.unusedSimpArgs false
open List renaming getElem?_cons_zero → sl8, getElem?_cons_succ → sl9
namespace Go.Proofs.YtkklogikakcanaaGreatDoor
open Go Go.RowKit
theorem flat_at {α:Type} (f:α→List Value) (n:Nat) (hf:∀x,(f x).length=n):∀(l:List α) (k j:Nat) (t:α),l[k]? =some t→j<n→(l.flatMap f)[k*n+j]? =(f t)[j]?
 |[],k,j,t,h,_=>by simp at h
 |x::l,0,j,t,h,hj=>by
  simp only[sl8,Option.some.injEq]at h
  subst h
  rw[List.flatMap_cons,List.getElem?_append_left (by rw[hf];omega)]
  simp
 |x::l,k+1,j,t,h,hj=>by
  rw[sl9]at h
  rw[List.flatMap_cons,List.getElem?_append_right (by rw[hf];simp[Nat.add_mul];omega)]
  rw[show (k+1)*n+j - (f x).length=k*n+j by rw[hf];simp[Nat.add_mul];omega]
  exact flat_at f n hf l k j t h hj
theorem own_belowI {w w':World} {B e size n:Nat} {v:Value} {xs:List Value} (h:w.ownsRow B e size v n xs) (hb:Below w.heap.size w w'):w'.ownsRow B e size v n xs:=by
 rcases h.2 with ⟨rfl,hn⟩|⟨g,cap,cur,rfl,hg,hbk,r⟩
 ·exact⟨h.1,Or.inl ⟨rfl,hn⟩⟩
 ·exact⟨h.1,Or.inr ⟨g,cap,cur,rfl,hg,(hb.block g (Array.getElem?_eq_some_iff.1 hbk).1).trans hbk,r⟩⟩
end Go.Proofs.YtkklogikakcanaaGreatDoor
