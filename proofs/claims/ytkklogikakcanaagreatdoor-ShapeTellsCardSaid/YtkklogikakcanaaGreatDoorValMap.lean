import Derived.WalkKit
import Derived.Deep.QuietTactic
import Derived.Maps.Own
import Derived.Maps.OwnOps
import Derived.Maps.Views
import Derived.Maps.OwnSet
import Derived.Maps.Keyed
import Derived.StringKeys
set_option linter.unusedVariables false
set_option linter.unusedSimpArgs false
namespace Go.Proofs.YtkklogikakcanaaGreatDoor
open Go Go.Maps Go.RowKit
def ValMap (P:Program) (k:TypeId) (w:World) (b n:Nat) (f:Lit→Option Value):Prop:=
 ∃D:DataW Value,w.ownsMap P k (fun v=>some (.held v,[])) b n D∧∀l:Lit,has D l=(f l).isSome∧∀z,D.atKey l z=(match f l with|some v=>.held v|none=>z)
noncomputable def updL (l:Lit) (v:Value) (f:Lit→Option Value):Lit→Option Value:=fun y=>@ite _ (y=l) (Classical.propDecidable _) (some v) (f y)
theorem updL_same (l:Lit) (v:Value) (f:Lit→Option Value):updL l v f l=some v:=if_pos rfl
theorem updL_ne {l y:Lit} (h:y≠l) (v:Value) (f:Lit→Option Value):updL l v f y=f y:=if_neg h
section
variable {P:Program} {k e t:TypeId} {w:World} {b n:Nat} {f:Lit→Option Value}
theorem ValMap.made (P:Program) (k:TypeId) (w:World):ValMap P k (w.alloc (.map #[] 0)) w.heap.size 0 (fun _=>none):=
 ⟨_,World.ownsMap_made w P k _,fun _=>⟨rfl,fun _=>rfl⟩⟩
theorem ValMap.of_block {w':World} (h:ValMap P k w b n f) (hb:w'.heap[b]? =w.heap[b]?):ValMap P k w' b n f:=by
 obtain⟨D,⟨es,clock,h1,h2⟩,h3⟩:=h
 exact⟨D,⟨es,clock,hb.trans h1,h2⟩,h3⟩
theorem ValMap.block (h:ValMap P k w b n f):∃es clock,w.heap[b]? =some (.map es clock):=by
 obtain⟨D,⟨es,clock,h1,h2⟩,h3⟩:=h
 exact⟨es,clock,h1⟩
theorem ValMap.lt (h:ValMap P k w b n f):b<w.heap.size:=by
 obtain⟨es,clock,h1⟩:=h.block
 exact (Array.getElem?_eq_some_iff.1 h1).1
theorem ValMap.below {w':World} (h:ValMap P k w b n f) {B:Nat} (hb:Below B w w') (hB:b<B):ValMap P k w' b n f:=h.of_block (hb.block b hB)
theorem ValMap.congr {g:Lit→Option Value} (h:ValMap P k w b n f) (hg:∀x,f x=g x):ValMap P k w b n g:=by
 have:f=g:=funext hg
 subst this;exact h
theorem ValMap.look (h:ValMap P k w b n f) (K:Keyed P k) (ht:P.underlying t=some (.map k e)) {z:Value} (hz:(zeroValue e).run P w=.ok z w) {key:Value} {l:Lit} (hkey:keyOf P k key=some l):
  (Instr.lookup t (.map (some b)) key true).run P w=.ok (.tuple #[(f l).getD z,.bool (f l).isSome]) w:=by
 obtain⟨D,h1,h2⟩:=h
 obtain⟨v,ps,hr,hat⟩:=h1.look_ok K ht hz (zd:=.held z) (zp:=[]) rfl hkey
 rw[(h2 l).2]at hat
 have hv:v=(f l).getD z:=by
  cases hf:f l with
  |none=>rw[hf]at hat;injection hat with hat;injection hat with hat _;injection hat
  |some u=>rw[hf]at hat;injection hat with hat;injection hat with hat _;injection hat
 rw[hr,(h2 l).1,hv]
theorem ValMap.put (h:ValMap P k w b n f) (K:Keyed P k) (ht:P.underlying t=some (.map k e)) (hn:n<maxLen) {key v:Value} {l:Lit} (hkey:keyOf P k key=some l):
  ∃w',(Instr.mapUpdate t (.map (some b)) key v).run P w=.ok () w'∧ValMap P k w' b (n+1) (updL l v f)∧w.grownBy w' (some b):=by
 obtain⟨D,h1,h2⟩:=h
 obtain⟨w',hr,ho,hg⟩:=h1.update K ht hn hkey (val:=v) (d:=.held v) (ps:=[]) rfl
 refine⟨w',hr,⟨_,ho,fun y=>?_⟩,hg⟩
 by_cases hyx:y=l
 ·subst hyx
  rw[updL_same]
  exact⟨by rw[has_put_same h1.isMap (K.key hkey)];rfl,fun z=>atKey_put_same h1.isMap (K.key hkey) _ _⟩
 ·rw[updL_ne hyx,has_put_other hyx _]
  exact⟨(h2 y).1,fun z=>by rw[atKey_put_other hyx _ _];exact (h2 y).2 z⟩
end
end Go.Proofs.YtkklogikakcanaaGreatDoor
