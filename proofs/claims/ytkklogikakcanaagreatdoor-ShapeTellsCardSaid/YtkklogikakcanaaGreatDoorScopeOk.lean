import Derived.Test.YtkklogikakcanaaGreatDoorScopeA
set_option linter.unusedVariables false
set_option linter.unusedSimpArgs false
namespace Go.Proofs.YtkklogikakcanaaGreatDoor
open Go
abbrev NmOk (t:Ty):Prop:=lenOk t.nm.length
structure NmsOk (p:Pr) (l:Lc):Prop where
 lc:∀f∈l,NmOk f.t
 ss:∀f∈p.ss,NmOk f.t
 rs:∀r∈p.rs,∀f∈r.fs,NmOk f.t
 fs:∀f∈p.fs,NmOk f.t
theorem NmsOk.of {w:World} {B:Nat} {p:Pr} {l:Lc} {a:Option Addr} (h:PrIn w B p) (hl:LcAt w a l):NmsOk p l:=
 ⟨fun f hf=>(LcAt.ok hl f hf).t.nm,fun f hf=>(h.ss.sub f hf).t.nm,fun r hr f hf=>((h.rsub r hr).fs.sub f hf).t.nm,fun f hf=>(h.fsub f hf).t.nm⟩
theorem fieldOf_mem:∀{l:List Fl} {nm:List UInt8} {t:Ty},fieldOf l nm=some t→∃f∈l,f.t=t
 |[],nm,t,h=>by rw[fieldOf]at h;cases h
 |f::r,nm,t,h=>by
  rw[fieldOf]at h
  split at h
  ·injection h with h;exact⟨f,by simp,h⟩
  ·obtain⟨g,hg,e⟩:=fieldOf_mem h
   exact⟨g,by simp[hg],e⟩
theorem getD_mem {α:Type} (l:List α) (i:Nat) (z:α):l.getD i z=z∨l.getD i z∈l:=by
 rw[List.getD_eq_getElem?_getD]
 cases h:l[i]? with
 |none=>exact Or.inl rfl
 |some x=>exact Or.inr (List.mem_of_getElem? h)
theorem exEnd_nm {p:Pr} {l:Lc} (hp:NmsOk p l) {k:Int} {nm:List UInt8} {t:Ty} (ht:NmOk t) {ss:List Srt} (hs:∀s∈ss,NmOk s.t) {s:Srt} (h:exEnd p l k nm t ss=.ok s):NmOk s.t:=by
 have z0:NmOk numS.t:=by simp[NmOk,numS,numT,lenOk]
 have zt:NmOk ty0:=by simp[NmOk,ty0,lenOk]
 unfold exEnd at h
 split at h
 ·injection h with h;rw[←h];exact z0
 split at h
 ·injection h with h;rw[←h];exact zt
 split at h
 ·split at h
  ·rename_i u hu
   injection h with h;rw[←h]
   obtain⟨f,hf,e⟩:=fieldOf_mem hu
   exact e▸hp.lc f hf
  ·split at h
   ·rename_i u hu
    injection h with h;rw[←h]
    obtain⟨f,hf,e⟩:=fieldOf_mem hu
    exact e▸hp.ss f hf
   ·cases h
 split at h
 ·dsimp only at h
  split at h
  ·cases h
  ·split at h
   ·cases h
   ·split at h
    ·rename_i i _ _ u hu
     injection h with h;rw[←h]
     obtain⟨f,hf,e⟩:=fieldOf_mem hu
     rcases getD_mem (p.rs.map Re.fs) i []with h0|h0
     ·rw[h0]at hf;cases hf
     ·obtain⟨r,hr,er⟩:=List.mem_map.1 h0
      rw[←er]at hf
      exact e▸hp.rs r hr f hf
    ·cases h
 split at h
 ·dsimp only at h
  split at h
  ·split at h
   ·injection h with h;rw[←h];exact z0
   ·injection h with h;rw[←h]
    rcases getD_mem ss 0 numS with h0|h0
    ·show NmOk ⟨2,(ss.getD 0 numS).t.nm,0⟩
     rw[h0];exact z0
    ·exact hs (ss.getD 0 numS) h0
  ·cases h
 split at h
 ·split at h
  ·injection h with h;rw[←h];exact ht
  ·cases h
 split at h
 ·split at h
  ·cases h
  ·dsimp only at h
   split at h
   ·cases h
   ·split at h
    ·injection h with h;rw[←h]
     rename_i i hi _ _
     show NmOk ((p.fs.map Fu.t).getD i ty0)
     rcases getD_mem (p.fs.map Fu.t) i ty0 with h0|h0
     ·rw[h0];exact zt
     ·obtain⟨f,hf,e⟩:=List.mem_map.1 h0
      rw[←e];exact hp.fs f hf
    ·cases h
 split at h
 ·dsimp only at h
  split at h
  ·injection h with h;rw[←h];exact z0
  ·cases h
 split at h
 ·injection h with h;rw[←h];exact z0
 ·cases h
theorem exSs_nm {p:Pr} {l:Lc}:∀(args:List Ex) (ss:List Srt),(∀y∈args,∀s,exS p l y=.ok s→NmOk s.t)→exSs p l args=.ok ss→∀s∈ss,NmOk s.t
 |[],ss,_,h=>by
  rw[exSs]at h
  injection h with h
  subst h
  intro s hs;cases hs
 |y::r,ss,hy,h=>by
  rw[exSs]at h
  cases h1:exS p l y with
  |error e=>rw[h1]at h;cases h
  |ok s1=>
   rw[h1]at h
   dsimp only at h
   split at h
   ·cases h2:exSs p l r with
    |error e=>rw[h2]at h;cases h
    |ok q=>
     rw[h2]at h
     injection h with h
     subst h
     intro s hs
     rcases List.mem_cons.1 hs with rfl|hs
     ·exact hy y (by simp) s h1
     ·exact exSs_nm r q (fun z hz=>hy z (by simp[hz])) h2 s hs
   ·cases h
theorem exS_nm {p:Pr} {l:Lc} (hp:NmsOk p l) {w:World} {B:Nat} {x:Ex} (hx:ExIn w B x):∀{s:Srt},exS p l x=.ok s→NmOk s.t:=by
 induction hx with
 |mk hk hn hnm ht hl row sub ih=>
  intro s h
  rw[exS]at h
  split at h
  ·cases h
  ·rename_i ss hss
   exact exEnd_nm hp ht.nm (exSs_nm _ _ (fun y hy s hs=>ih y hy hs) hss) h
end Go.Proofs.YtkklogikakcanaaGreatDoor
