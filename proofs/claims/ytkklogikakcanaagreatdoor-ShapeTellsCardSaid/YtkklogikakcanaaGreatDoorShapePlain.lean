import Derived.Test.YtkklogikakcanaaGreatDoorScopePlain
set_option linter.unusedVariables false
set_option linter.unusedSimpArgs false
open List renaming getElem?_cons_zero → sl8
namespace Go.Proofs.YtkklogikakcanaaGreatDoor
def wordsS (p:Pr):Int×Int:=if (typesCheck p).2≠0 then (0,1) else ((p.ss.length:Int),0)
def placeS (l:List Fl) (nm:List UInt8):Int:=match idxOf Fl.nm nm l with|some i=>(i:Int)|none=>-1
def sharedS (p:Pr) (nm:List UInt8):Int×Int:=if (typesCheck p).2≠0 then (0,1) else if placeS p.ss nm<0 then (0,9) else (1+placeS p.ss nm,0)
def sizeS (p:Pr) (t:Ty):Int×Int:=
 if (typesCheck p).2≠0 then (0,1)
 else if tyForm t≠0 then (0,10)
 else if t.k=1 then (0,10)
 else if t.k=3∧t.nm=[] then (t.n,0)
 else match recOf p t.nm with
  |none=>(0,9)
  |some i=>if t.k=3 then (t.n,0) else ((((p.rs.map Re.fs).getD i []).length:Int),0)
def offsetS (p:Pr) (nm fd:List UInt8):Int×Int:=
 if (typesCheck p).2≠0 then (0,1)
 else match recOf p nm with
  |none=>(0,9)
  |some i=>if placeS ((p.rs.map Re.fs).getD i []) fd<0 then (0,9) else (placeS ((p.rs.map Re.fs).getD i []) fd,0)
theorem idxOf_at {α:Type} (f:α→List UInt8):∀(l:List α) (i:Nat) (x:α),(l.map f).Nodup→l[i]? =some x→idxOf f (f x) l=some i
 |[],i,x,hn,h=>by simp at h
 |y::r,0,x,hn,h=>by
  simp only[sl8,Option.some.injEq]at h
  subst h
  rw[idxOf,if_pos rfl]
 |y::r,i+1,x,hn,h=>by
  rw[List.map_cons,List.nodup_cons]at hn
  have h2:r[i]? =some x:=by simpa using h
  have hne:f y≠f x:=fun e=>hn.1 (by rw[e];exact List.mem_map.2 ⟨x,List.mem_of_getElem? h2,rfl⟩)
  rw[idxOf,if_neg hne,idxOf_at f r i x hn.2 h2]
  rfl
theorem scShs_nodup (p:Pr):∀(l:List Fl) (met:List (List UInt8)) (a a':Int),scShs p met l a=.on a'→(l.map Fl.nm).Nodup∧∀x∈l.map Fl.nm,x∉met
 |[],met,a,a',h=>⟨by simp,fun x hx=>by simp at hx⟩
 |f::r,met,a,a',h=>by
  rw[scShs]at h
  split at h
  ·cases h
  ·next h1=>
   split at h
   ·cases h
   ·obtain⟨e1,e2⟩:=scShs_nodup p r _ _ _ h
    rw[List.map_cons]
    refine⟨List.nodup_cons.2 ⟨fun hm=>e2 _ hm (by simp),e1⟩,fun x hx=>?_⟩
    rcases List.mem_cons.1 hx with rfl|hx
    ·exact h1
    ·exact fun hm=>e2 x hx (List.mem_cons_of_mem _ hm)
theorem scFds_nodup (p:Pr):∀(l:List Fl) (met:List (List UInt8)),scFds p met l=0→(l.map Fl.nm).Nodup∧∀x∈l.map Fl.nm,x∉met
 |[],met,h=>⟨by simp,fun x hx=>by simp at hx⟩
 |f::r,met,h=>by
  rw[scFds]at h
  split at h
  ·omega
  ·next h1=>
   split at h
   ·omega
   ·obtain⟨e1,e2⟩:=scFds_nodup p r _ h
    rw[List.map_cons]
    refine⟨List.nodup_cons.2 ⟨fun hm=>e2 _ hm (by simp),e1⟩,fun x hx=>?_⟩
    rcases List.mem_cons.1 hx with rfl|hx
    ·exact h1
    ·exact fun hm=>e2 x hx (List.mem_cons_of_mem _ hm)
theorem scRes_nodup (p:Pr):∀(l:List Re) (met:List (List UInt8)) (a a':Int),scRes p met l a=.on a'→(l.map Re.nm).Nodup∧(∀x∈l.map Re.nm,x∉met)∧∀r∈l,(r.fs.map Fl.nm).Nodup
 |[],met,a,a',h=>⟨by simp,fun x hx=>by simp at hx,fun r hr=>by cases hr⟩
 |f::r,met,a,a',h=>by
  rw[scRes]at h
  split at h
  ·cases h
  ·next h1=>
   split at h
   ·cases h
   ·next h2=>
    obtain⟨e1,e2,e3⟩:=scRes_nodup p r _ _ _ h
    rw[List.map_cons]
    refine⟨List.nodup_cons.2 ⟨fun hm=>e2 _ hm (by simp),e1⟩,fun x hx=>?_,fun z hz=>?_⟩
    ·rcases List.mem_cons.1 hx with rfl|hx
     ·exact h1
     ·exact fun hm=>e2 x hx (List.mem_cons_of_mem _ hm)
    ·rcases List.mem_cons.1 hz with rfl|hz
     ·exact (scFds_nodup p z.fs [] (Decidable.not_not.1 h2)).1
     ·exact e3 z hz
theorem types_ok {p:Pr} (h:(typesCheck p).2=0):typesCheck p=(0,0)∧(∃a,chkPr p=.on a)∧∃b c,scHeads p=.on b∧scThs p p.ts b=.on c:=by
 unfold typesCheck at h ⊢
 by_cases h0:(faultOf p).2=0
 ·rw[if_neg (by simpa using h0)]at h ⊢
  have hp:∃a,chkPr p=.on a:=by
   cases hq:chkPr p with
   |on a=>exact⟨a,rfl⟩
   |bad c e=>
    exfalso
    exact chkPr_ne p c e hq (by unfold faultOf at h0;rw[hq]at h0;exact h0)
  refine⟨?_,hp,?_⟩
  all_goals
   unfold scFault scPr at*
   cases hh:scHeads p with
   |bad c e=>
    rw[hh]at h
    exact absurd h (scHeads_ne p c e hh)
   |on b=>
    rw[hh]at h
    change (match scThs p p.ts b with|.bad q e=>(q,e)|.on _=>(0,0)).2=_ at h
    cases ht:scThs p p.ts b with
    |bad c e=>
     rw[ht]at h
     exact absurd h (scThs_ne p p.ts b c e ht)
    |on c=>first|(change (match scThs p p.ts b with|.bad q e=>(q,e)|.on _=>(0,0))=_;rw[ht];done)|exact⟨b,c,rfl,ht⟩
 ·rw[if_pos h0]at h
  cases h
structure HeadsGood (p:Pr):Prop where
 ss:(p.ss.map Fl.nm).Nodup
 rs:(p.rs.map Re.nm).Nodup
 fds:∀r∈p.rs,(r.fs.map Fl.nm).Nodup
theorem heads_good {p:Pr} (h:(typesCheck p).2=0):HeadsGood p:=by
 obtain⟨-,-,b,c,hb,-⟩:=types_ok h
 unfold scHeads at hb
 cases h1:scRes p [] p.rs (-1) with
 |bad q e=>rw[h1]at hb;cases hb
 |on a1=>
  rw[h1]at hb
  change (scShs p _ p.ss a1).bind _=_ at hb
  cases h2:scShs p (p.rs.map Re.nm).reverse p.ss a1 with
  |bad q e=>rw[h2]at hb;cases hb
  |on a2=>
   obtain⟨e1,-,e3⟩:=scRes_nodup p p.rs [] _ _ h1
   exact⟨(scShs_nodup p p.ss _ _ _ h2).1,e1,e3⟩
theorem size_at {p:Pr} (h:(typesCheck p).2=0) {i:Nat} {r:Re} (hr:p.rs[i]? =some r):sizeS p ⟨2,r.nm,0⟩=((r.fs.length:Int),0):=by
 have hg:=heads_good h
 obtain⟨-,⟨a,ha⟩,-⟩:=types_ok h
 have hgood:=chkPr_on ha
 obtain⟨hn,-,-⟩:=hgood.recs.2 r (List.mem_of_getElem? hr)
 have he:=idxOf_at Re.nm p.rs i r hg.rs hr
 have hne:=(nameB_len hn).2
 have hform:tyForm ⟨2,r.nm,0⟩=0:=by
  unfold tyForm
  rw[if_neg (fun hh=>by have:=hh.2;dsimp only at this;rw[hn]at this;cases this),if_pos (.inr ⟨rfl,hne,rfl⟩)]
 unfold sizeS recOf
 rw[if_neg (by simpa using h),if_neg (by simpa using hform),if_neg (fun hh:(2:Int)=1=>absurd hh (by decide)),if_neg (fun hh=>absurd (show (2:Int)=3 from hh.1) (by decide))]
 dsimp only
 rw[he]
 dsimp only
 rw[if_neg (fun hh:(2:Int)=3=>absurd hh (by decide)),List.getD_eq_getElem?_getD,List.getElem?_map,hr]
 rfl
theorem offset_at {p:Pr} (h:(typesCheck p).2=0) {i k:Nat} {r:Re} {f:Fl} (hr:p.rs[i]? =some r) (hf:r.fs[k]? =some f):offsetS p r.nm f.nm=((k:Int),0):=by
 have hg:=heads_good h
 have he:=idxOf_at Re.nm p.rs i r hg.rs hr
 have hfe:=idxOf_at Fl.nm r.fs k f (hg.fds r (List.mem_of_getElem? hr)) hf
 unfold offsetS recOf
 rw[if_neg (by simpa using h),he]
 dsimp only
 rw[List.getD_eq_getElem?_getD,List.getElem?_map,hr]
 change (if placeS r.fs f.nm<0 then _ else (placeS r.fs f.nm,0))=_
 unfold placeS
 rw[hfe]
 dsimp only
 rw[if_neg (by omega)]
end Go.Proofs.YtkklogikakcanaaGreatDoor
