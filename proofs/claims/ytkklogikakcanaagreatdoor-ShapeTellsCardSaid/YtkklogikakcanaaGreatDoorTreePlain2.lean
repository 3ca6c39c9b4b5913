import Derived.Test.YtkklogikakcanaaGreatDoorTreePlain
import Derived.Lib.ItoaLen
set_option linter.unusedVariables false
set_option linter.unusedSimpArgs false
namespace Go.Proofs.YtkklogikakcanaaGreatDoor
theorem qezrc_3 {P:Prop} (h:P:=by
 split at ha<;>try omega
 split at ha<;>try omega
 split at ha
 ·injection ha with ha;injection ha with h1 h2;omega
 ·split at ha<;>try omega
  split at ha<;>try omega
  split at ha
  ·injection ha with ha;injection ha with h1 h2;omega
  ·omega):P:=h
theorem qezrc_2 {P:Prop} (h:P:=by
 by_cases hne:noEx x=true
 ·rw[if_pos hne];simp only[List.length_append,List.length_cons,List.length_nil];omega
 ·have:=(hx (fun hb=>hb.elim (fun h5=>by omega) (fun h5=>hne h5.2))).2
  rw[if_neg hne];simp only[List.length_append,List.length_cons,List.length_nil];omega):P:=h
theorem qezrc_1 {P:Prop} (h:P:=by
 simp only[List.length_append,List.length_cons,List.length_nil];omega):P:=h
theorem itemC_ok {deep it m:Nat} (h:itemC deep it=.ok m):m=it+1∧m≤1024∧deep≤16:=by
 unfold itemC at h
 split at h
 ·injection h with h;omega
 ·cases h
theorem itemC_err {deep it:Nat} {e:Int} (h:itemC deep it=.error e):e=3:=by
 unfold itemC at h
 split at h
 ·cases h
 ·injection h with h;exact h.symm
mutual
theorem chkEx_ok:∀(x:Ex) (deep it m:Nat),chkEx x deep it=.ok m→m=it+exCount x∧m≤1024∧deep≤16∧exForm x=0∧chkExs x.args (deep+1) (it+1)=.ok m
 |.mk k n nm t d args,deep,it,m,h=>by
  rw[chkEx]at h
  cases hi:itemC deep it with
  |error e=>rw[hi]at h;cases h
  |ok it1=>
   rw[hi]at h
   dsimp only at h
   obtain⟨h1,h2,h3⟩:=itemC_ok hi
   by_cases hf:exForm (.mk k n nm t d args)≠0
   ·rw[if_pos hf]at h;cases h
   ·rw[if_neg hf]at h
    obtain⟨h4,h5⟩:=chkExs_ok args (deep+1) it1 m h h2
    subst h1
    refine⟨?_,h5,h3,by simpa using hf,h⟩
    rw[exCount];omega
theorem chkExs_ok:∀(l:List Ex) (deep it m:Nat),chkExs l deep it=.ok m→it≤1024→m=it+exCounts l∧m≤1024
 |[],deep,it,m,h,hi=>by
  rw[chkExs]at h
  injection h with h
  subst h
  exact⟨by rw[exCounts];rfl,hi⟩
 |x::r,deep,it,m,h,hi=>by
  rw[chkExs]at h
  cases hx:chkEx x deep it with
  |error e=>rw[hx]at h;cases h
  |ok it1=>
   rw[hx]at h
   dsimp only at h
   obtain⟨h1,h2,-⟩:=chkEx_ok x deep it it1 hx
   obtain⟨h3,h4⟩:=chkExs_ok r deep it1 m h h2
   refine⟨?_,h4⟩
   rw[exCounts];omega
end
def exLim (r:Except Int Nat):Except Int Nat:=
 match r with
 |.ok m=>if m+1≤1024 then .ok (m+1) else .error 3
 |.error e=>.error e
theorem exCount_pos (x:Ex):1≤exCount x:=by cases x;rw[exCount];omega
theorem nameB_len {l:List UInt8} (h:nameB l=true):l.length≤16∧l≠[]:=by
 cases l with
 |nil=>cases h
 |cons c r=>
  have h2:nameB (c::r)=(decide ((c::r).length≤16)&&decide (97≤c.toNat)&&decide (c.toNat≤122)&& !wordB (c::r)&&(c::r).all partB):=rfl
  rw[h2]at h
  simp only[Bool.and_eq_true,decide_eq_true_eq]at h
  exact⟨h.1.1.1.1,by simp⟩
inductive ExNum:Ex→Prop where
 |mk {k n:Int} {nm:List UInt8} {t:Ty} {d:Hd} {args:List Ex} (hn: -9223372036854775808≤n∧n≤9223372036854775807) (sub:∀y,y∈args→ExNum y):ExNum (.mk k n nm t d args)
theorem ExNum.sub {x:Ex} (h:ExNum x):∀y,y∈x.args→ExNum y:=by cases h;assumption
theorem ExNum.n {x:Ex} (h:ExNum x): -9223372036854775808≤x.n∧x.n≤9223372036854775807:=by cases h;assumption
theorem exForm_ok {x:Ex} (h:exForm x=0):∃m named,arity x.k=some (m,named)∧(m<0∨m=x.args.length)∧(x.k=1∨x.n=0)∧(named=true→nameB x.nm=true)∧(named=false→x.nm=[])∧(x.k=6→x.t.k≠1∧tyForm x.t=0)∧(x.k≠6→noTy x.t=true):=by
 unfold exForm at h
 split at h
 ·cases h
 ·next m named ha=>
  split at h
  ·cases h
  ·next h1=>
   split at h
   ·cases h
   ·next h2=>
    split at h
    ·cases h
    ·next h3=>
     split at h
     ·cases h
     ·next h4=>
      refine⟨m,named,ha,Decidable.not_not.1 h1,Decidable.not_not.1 h2,fun hn=>?_,fun hn=>?_,fun hk=>?_,fun hk=>?_⟩
      ·subst hn
       cases hb:nameB x.nm with
       |true=>rfl
       |false=>exact absurd ⟨rfl,hb⟩ h4
      ·subst hn
       cases he:x.nm.isEmpty with
       |false=>exact absurd he.symm h3
       |true=>simpa using he
      ·rw[if_pos hk]at h
       split at h
       ·cases h
       ·next h5=>exact⟨h5,h⟩
      ·rw[if_neg hk]at h
       split at h
       ·next h5=>exact h5
       ·cases h
mutual
theorem chkEx_ne:∀(x:Ex) (deep it:Nat) (e:Int),chkEx x deep it=.error e→e≠0
 |.mk k n nm t d args,deep,it,e,h=>by
  rw[chkEx]at h
  cases hi:itemC deep it with
  |error e'=>
   rw[hi]at h
   injection h with h
   have:=itemC_err hi
   omega
  |ok it1=>
   rw[hi]at h
   dsimp only at h
   by_cases hf:exForm (.mk k n nm t d args)≠0
   ·rw[if_pos hf]at h
    injection h with h
    rw[←h];exact hf
   ·rw[if_neg hf]at h
    exact chkExs_ne args (deep+1) it1 e h
theorem chkExs_ne:∀(l:List Ex) (deep it:Nat) (e:Int),chkExs l deep it=.error e→e≠0
 |[],deep,it,e,h=>by rw[chkExs]at h;cases h
 |x::r,deep,it,e,h=>by
  rw[chkExs]at h
  cases hx:chkEx x deep it with
  |error e'=>
   rw[hx]at h
   injection h with h
   rw[←h];exact chkEx_ne x deep it e' hx
  |ok it1=>
   rw[hx]at h
   exact chkExs_ne r deep it1 e h
end
end Go.Proofs.YtkklogikakcanaaGreatDoor
namespace Go.Proofs.YtkklogikakcanaaGreatDoor
structure StGood (s:St) (deep:Nat) (a a':At):Prop where
 dp:deep≤16
 form:stForm s=true
 ty:s.k=1→tyForm s.t=0
 x:¬(s.k=5∨((s.k=1∨s.k=7)∧noEx s.x=true))→∃it m,chkEx s.x 1 it=.ok m
 y:s.k=2→∃it m,chkEx s.y 1 it=.ok m
 lists:∃a2 a3,chkSts s.body (deep+1) a2=.on a3∧chkSts s.els (deep+1) a3=.on a'
theorem chkXt_on {x:Ex} {a a':At} (h:chkXt x a=.on a'):∃m,chkEx x 1 a.it=.ok m∧a'=⟨a.p,m⟩:=by
 unfold chkXt at h
 cases hx:chkEx x 1 a.it with
 |error e=>rw[hx]at h;cases h
 |ok m=>rw[hx]at h;injection h with h;exact⟨m,rfl,h.symm⟩
theorem chkSt_on {s:St} {deep:Nat} {a a':At} (h:chkSt s deep a=.on a'):StGood s deep a a':=by
 obtain⟨k,nm,t,x,y,bd,body,ed,els⟩:=s
 rw[chkSt]at h
 cases hi:itemC deep a.it with
 |error e=>rw[hi]at h;cases h
 |ok it=>
  rw[hi]at h
  dsimp only at h
  obtain⟨-,-,hd⟩:=itemC_ok hi
  split at h
  ·cases h
  ·next hf=>
   split at h
   ·cases h
   ·next ht=>
    cases hx:(if k=5∨((k=1∨k=7)∧noEx x=true) then Chk.on ⟨a.p,it⟩ else chkXt x ⟨a.p,it⟩) with
    |bad p e=>rw[hx]at h;cases h
    |on a1=>
     rw[hx]at h
     dsimp only at h
     cases hy:(if k=2 then chkXt y a1 else Chk.on a1) with
     |bad p e=>rw[hy]at h;cases h
     |on a2=>
      rw[hy]at h
      dsimp only at h
      cases hb:chkSts body (deep+1) a2 with
      |bad p e=>rw[hb]at h;cases h
      |on a3=>
       rw[hb]at h
       refine⟨hd,?_,?_,?_,?_,a2,a3,hb,h⟩
       ·cases hq:stForm (.mk k nm t x y bd body ed els) with
        |true=>rfl
        |false=>exact absurd hq hf
       ·intro hk
        exact Decidable.not_not.1 fun hh=>ht ⟨hk,hh⟩
       ·intro hn
        replace hn:¬(k=5∨((k=1∨k=7)∧noEx x=true)):=hn
        rw[if_neg hn]at hx
        obtain⟨m,hm,-⟩:=chkXt_on hx
        exact⟨_,m,hm⟩
       ·intro hk
        replace hk:k=2:=hk
        rw[if_pos hk]at hy
        obtain⟨m,hm,-⟩:=chkXt_on hy
        exact⟨_,m,hm⟩
theorem chkSts_on {s:St} {r:List St} {deep:Nat} {a a':At} (h:chkSts (s::r) deep a=.on a'):∃a1,chkSt s deep ⟨a.p+1,a.it⟩=.on a1∧chkSts r deep a1=.on a':=by
 rw[chkSts]at h
 cases hs:chkSt s deep ⟨a.p+1,a.it⟩ with
 |bad p e=>rw[hs]at h;cases h
 |on a1=>rw[hs]at h;exact⟨a1,rfl,h⟩
theorem ex_given {x:Ex} {deep it m:Nat} (h:chkEx x deep it=.ok m):noEx x=false∧exGiven x=exCount x:=by
 have hn:noEx x=false:=by
  obtain⟨-,-,-,hf,-⟩:=chkEx_ok x deep it m h
  obtain⟨q,named,ha,-⟩:=exForm_ok hf
  unfold noEx
  by_cases hk:x.k=0
  ·rw[hk]at ha;exact absurd (show arity 0=none from rfl) (by rw[ha];intro h;cases h)
  ·simp[hk]
 exact⟨hn,by unfold exGiven;rw[hn];rfl⟩
inductive StNum:St→Prop where
 |mk {k:Int} {nm:List UInt8} {t:Ty} {x y:Ex} {bd:Hd} {body:List St} {ed:Hd} {els:List St} (hx:ExNum x) (hy:ExNum y) (b:∀s,s∈body→StNum s) (e:∀s,s∈els→StNum s):StNum (.mk k nm t x y bd body ed els)
theorem StNum.x {s:St} (h:StNum s):ExNum s.x:=by cases h;assumption
theorem StNum.y {s:St} (h:StNum s):ExNum s.y:=by cases h;assumption
theorem StNum.body {s:St} (h:StNum s):∀z,z∈s.body→StNum z:=by cases h;assumption
theorem StNum.els {s:St} (h:StNum s):∀z,z∈s.els→StNum z:=by cases h;assumption
def Wr (acc T c:List UInt8):Prop:=c=acc++T∨(65536<c.length∧65536<(acc++T).length)
theorem Wr.app (acc T:List UInt8):Wr acc T (acc++T):=.inl rfl
theorem Wr.trans {a b c T U:List UInt8} (h:Wr a T b) (g:Wr b U c):Wr a (T++U) c:=by
 rcases h with rfl|⟨h1,h2⟩
 ·rcases g with rfl|⟨g1,g2⟩
  ·exact .inl (List.append_assoc _ _ _)
  ·exact .inr ⟨g1,by rw[←List.append_assoc];exact g2⟩
 ·refine .inr ⟨?_,by rw[←List.append_assoc];simp only[List.length_append]at*;omega⟩
  rcases g with rfl|⟨g1,g2⟩
  ·simp only[List.length_append]at*;omega
  ·exact g1
mutual
def wSt:List UInt8→St→List UInt8→List UInt8
 |acc,.mk k nm t x y bd body ed els,ind=>
  if k=3 then
   (if els.isEmpty then wSts (acc++(([105,102,32]++(exText x++[32]))++[123,10])) body (ind++[32,32])++(ind++[125])
    else wSts (wSts (acc++(([105,102,32]++(exText x++[32]))++[123,10])) body (ind++[32,32])++((ind++[125])++([32,101,108,115,101,32]++[123,10]))) els (ind++[32,32])++(ind++[125]))
  else if k=4 then wSts (acc++(([119,104,105,108,101,32]++(exText x++[32]))++[123,10])) body (ind++[32,32])++(ind++[125])
  else if k=5 then wSts (acc++([97,116,111,109,105,99,32]++[123,10])) body (ind++[32,32])++(ind++[125])
  else acc++stText (.mk k nm t x y bd body ed els) ind
def wSts:List UInt8→List St→List UInt8→List UInt8
 |acc,[],_=>acc
 |acc,s::r,ind=>if 65536<acc.length then acc else wSts (wSt (acc++ind) s ind++[10]) r ind
end
end Go.Proofs.YtkklogikakcanaaGreatDoor
namespace Go.Proofs.YtkklogikakcanaaGreatDoor
theorem form_y {s:St} (h:stForm s=true):(s.k≠2→noEx s.y=true)∧(s.k=5→noEx s.x=true)∧(s.k≠3∧s.k≠4∧s.k≠5→s.body=[])∧(s.k≠3→s.els=[]):=by
 unfold stForm at h
 split at h
 ·next hk=>
  simp only[Bool.and_eq_true,List.isEmpty_iff]at h
  exact⟨fun hh=>absurd hk hh,fun hh=>by omega,fun _=>h.2.2.2.1,fun _=>h.2.2.2.2⟩
 ·split at h
  ·cases h
  ·split at h
   ·cases h
   ·simp only[Bool.and_eq_true,Bool.or_eq_true,decide_eq_true_eq,List.isEmpty_iff]at h
    obtain⟨-,h1,h2,h3,h4⟩:=h
    refine⟨fun _=>h1,fun hk=>h2.resolve_left (fun hh=>hh hk),fun hk=>?_,fun hk=>h4.resolve_left hk⟩
    rcases h3 with h3|h3|h3|h3
    ·exact absurd h3 hk.1
    ·exact absurd h3 hk.2.1
    ·exact absurd h3 hk.2.2
    ·exact h3
theorem none_given {x:Ex} (h:noEx x=true):exGiven x=0:=by unfold exGiven;rw[h];rfl
mutual
theorem chkSt_it:∀(s:St) (deep:Nat) (a a':At),chkSt s deep a=.on a'→a'.it=a.it+stCount s∧a'.it≤1024
 |.mk k nm t x y bd body ed els,deep,a,a',h=>by
  have g:=chkSt_on h
  have hfy:=form_y g.form
  rw[chkSt]at h
  cases hi:itemC deep a.it with
  |error e=>rw[hi]at h;cases h
  |ok it=>
   rw[hi]at h
   dsimp only at h
   obtain⟨hi1,hi2,-⟩:=itemC_ok hi
   split at h
   ·cases h
   ·split at h
    ·cases h
    ·cases hx:(if k=5∨((k=1∨k=7)∧noEx x=true) then Chk.on ⟨a.p,it⟩ else chkXt x ⟨a.p,it⟩) with
     |bad p e=>rw[hx]at h;cases h
     |on a1=>
      rw[hx]at h
      dsimp only at h
      cases hy:(if k=2 then chkXt y a1 else Chk.on a1) with
      |bad p e=>rw[hy]at h;cases h
      |on a2=>
       rw[hy]at h
       dsimp only at h
       cases hb:chkSts body (deep+1) a2 with
       |bad p e=>rw[hb]at h;cases h
       |on a3=>
        rw[hb]at h
        have e1:a1.it=it+exGiven x∧a1.it≤1024:=by
         by_cases hbare:k=5∨((k=1∨k=7)∧noEx x=true)
         ·rw[if_pos hbare]at hx
          injection hx with hx
          subst hx
          have:noEx x=true:=hbare.elim (fun h5=>hfy.2.1 h5) (fun h5=>h5.2)
          rw[none_given this]
          exact⟨rfl,hi2⟩
         ·rw[if_neg hbare]at hx
          obtain⟨m,hm,rfl⟩:=chkXt_on hx
          have:=ex_given hm
          have h2:=chkEx_ok x 1 it m hm
          rw[this.2]
          exact⟨h2.1,h2.2.1⟩
        have e2:a2.it=a1.it+exGiven y∧a2.it≤1024:=by
         by_cases hk2:k=2
         ·rw[if_pos hk2]at hy
          obtain⟨m,hm,rfl⟩:=chkXt_on hy
          have:=ex_given hm
          have h2:=chkEx_ok y 1 a1.it m hm
          rw[this.2]
          exact⟨h2.1,h2.2.1⟩
         ·rw[if_neg hk2]at hy
          injection hy with hy
          subst hy
          have h0:noEx y=true:=hfy.1 hk2
          rw[none_given h0]
          exact⟨rfl,e1.2⟩
        have e3:=chkSts_it body (deep+1) a2 a3 hb e2.2
        have e4:=chkSts_it els (deep+1) a3 a' h e3.2
        rw[stCount]
        omega
theorem chkSts_it:∀(l:List St) (deep:Nat) (a a':At),chkSts l deep a=.on a'→a.it≤1024→a'.it=a.it+stCounts l∧a'.it≤1024
 |[],deep,a,a',h,hi=>by
  rw[chkSts]at h
  injection h with h
  subst h
  exact⟨by rw[stCounts];rfl,hi⟩
 |s::r,deep,a,a',h,hi=>by
  obtain⟨a1,h1,h2⟩:=chkSts_on h
  have e1:=chkSt_it s deep _ a1 h1
  have e2:=chkSts_it r deep a1 a' h2 e1.2
  rw[stCounts]
  dsimp only at e1
  omega
end
theorem chkFls_ok:∀(l:List Fl) (i:Nat),chkFls i l=0→(l≠[]→i+l.length≤16)∧∀f∈l,nameB f.nm=true∧tyForm f.t=0
 |[],i,h=>⟨fun hh=>absurd rfl hh,fun f hf=>by cases hf⟩
 |f::r,i,h=>by
  rw[chkFls]at h
  split at h
  ·cases h
  ·next h1=>
   split at h
   ·cases h
   ·next h2=>
    split at h
    ·next h3=>exact absurd h h3
    ·next h3=>
     obtain⟨h4,h5⟩:=chkFls_ok r (i+1) h
     refine⟨fun _=>?_,fun g hg=>?_⟩
     ·cases r with
      |nil=>simp;omega
      |cons z r=>have:=h4 (by simp);simp only[List.length_cons]at this ⊢;omega
     ·rcases List.mem_cons.1 hg with rfl|hg
      ·refine⟨?_,Decidable.not_not.1 h3⟩
       cases hb:nameB g.nm with
       |true=>rfl
       |false=>exact absurd hb h2
      ·exact h5 g hg
def fuHead (f:Fu):List UInt8:=([102,117,110,99,32]++(f.nm++[40]))++(flsText [44,32] f.ps++([41,32]++((if noTy f.t then [] else tyText f.t++[32])++[123,10])))
def wFus (acc:List UInt8):List Fu→List UInt8
 |[]=>acc
 |f::r=>wFus (wSts (acc++fuHead f) f.body [32,32]++([125]++[10])) r
def wThs (acc:List UInt8):List Th→List UInt8
 |[]=>acc
 |t::r=>wThs (wSts (acc++([116,104,114,101,97,100,32]++[123,10])) t.l [32,32]++([125]++[10])) r
def prHead (p:Pr):List UInt8:=(p.rs.map reText).flatten++(p.ss.map shText).flatten
def wPr (p:Pr):List UInt8:=wThs (wFus (prHead p) p.fs) p.ts
structure PrGood (p:Pr):Prop where
 recs:p.rs.length≤16∧∀r∈p.rs,nameB r.nm=true∧r.fs≠[]∧chkFls 0 r.fs=0
 shs:p.ss.length≤1024∧∀f∈p.ss,chkFls 0 [f]=0
 funs:p.fs.length≤32∧∀f∈p.fs,nameB f.nm=true∧chkFls 0 f.ps=0∧(noTy f.t=true∨tyForm f.t=0)∧∃a a',chkSts f.body 1 a=.on a'
 thrs:p.ts.length≤4∧∀t∈p.ts,∃a a',chkSts t.l 1 a=.on a'
 items:itemsOf p≤1024
theorem chkRes_ok:∀(l:List Re) (i:Nat) (a a':At),chkRes i l a=.on a'→i≤16→i+l.length≤16∧(∀r∈l,nameB r.nm=true∧r.fs≠[]∧chkFls 0 r.fs=0)∧a'.it=a.it
 |[],i,a,a',h,hi=>by
  rw[chkRes]at h;injection h with h;subst h
  exact⟨by simpa using hi,fun r hr=>(by cases hr),rfl⟩
 |r::l,i,a,a',h,hi=>by
  rw[chkRes]at h
  split at h
  ·cases h
  ·split at h
   ·cases h
   ·next h2=>
    split at h
    ·cases h
    ·next h3=>
     obtain⟨e1,e2,e3⟩:=chkRes_ok l (i+1) _ a' h (by omega)
     refine⟨by simp only[List.length_cons];omega,fun z hz=>?_,e3⟩
     rcases List.mem_cons.1 hz with rfl|hz
     ·refine⟨?_,fun e=>h2 (.inr e),Decidable.not_not.1 h3⟩
      cases hb:nameB z.nm with
      |true=>rfl
      |false=>exact absurd (.inl hb) h2
     ·exact e2 z hz
theorem chkShs_ok:∀(l:List Fl) (i:Nat) (a a':At),chkShs i l a=.on a'→i≤1024→i+l.length≤1024∧(∀f∈l,chkFls 0 [f]=0)∧a'.it=a.it
 |[],i,a,a',h,hi=>by
  rw[chkShs]at h;injection h with h;subst h
  exact⟨by simpa using hi,fun r hr=>(by cases hr),rfl⟩
 |f::l,i,a,a',h,hi=>by
  rw[chkShs]at h
  split at h
  ·cases h
  ·split at h
   ·cases h
   ·next h3=>
    obtain⟨e1,e2,e3⟩:=chkShs_ok l (i+1) _ a' h (by omega)
    refine⟨by simp only[List.length_cons];omega,fun z hz=>?_,e3⟩
    rcases List.mem_cons.1 hz with rfl|hz
    ·exact Decidable.not_not.1 h3
    ·exact e2 z hz
theorem chkFus_ok:∀(l:List Fu) (i:Nat) (a a':At),chkFus i l a=.on a'→i≤32→a.it≤1024→i+l.length≤32∧(∀f∈l,nameB f.nm=true∧chkFls 0 f.ps=0∧(noTy f.t=true∨tyForm f.t=0)∧∃a a',chkSts f.body 1 a=.on a')∧a'.it=a.it+(l.map fun f=>stCounts f.body).sum∧a'.it≤1024
 |[],i,a,a',h,hi,ha=>by
  rw[chkFus]at h;injection h with h;subst h
  exact⟨by simpa using hi,fun r hr=>(by cases hr),by simp,ha⟩
 |f::l,i,a,a',h,hi,ha=>by
  rw[chkFus]at h
  split at h
  ·cases h
  ·split at h
   ·cases h
   ·next h1=>
    split at h
    ·cases h
    ·next h2=>
     split at h
     ·cases h
     ·next h3=>
      cases hb:chkSts f.body 1 ⟨a.p+1,a.it⟩ with
      |bad p e=>rw[hb]at h;cases h
      |on a1=>
       rw[hb]at h
       dsimp only at h
       have e0:=chkSts_it f.body 1 _ a1 hb ha
       dsimp only at e0
       obtain⟨e1,e2,e3,e4⟩:=chkFus_ok l (i+1) a1 a' h (by omega) e0.2
       refine⟨by simp only[List.length_cons];omega,fun z hz=>?_,by simp only[List.map_cons,List.sum_cons];omega,e4⟩
       rcases List.mem_cons.1 hz with rfl|hz
       ·refine⟨?_,Decidable.not_not.1 h2,?_,_,a1,hb⟩
        ·cases hq:nameB z.nm with
         |true=>rfl
         |false=>exact absurd hq h1
        ·cases hq:noTy z.t with
         |true=>exact .inl rfl
         |false=>exact .inr (Decidable.not_not.1 fun hh=>h3 ⟨hq,hh⟩)
       ·exact e2 z hz
theorem chkThs_ok:∀(l:List Th) (i:Nat) (a a':At),chkThs i l a=.on a'→i≤4→a.it≤1024→i+l.length≤4∧(∀t∈l,∃a a',chkSts t.l 1 a=.on a')∧a'.it=a.it+(l.map fun t=>stCounts t.l).sum∧a'.it≤1024
 |[],i,a,a',h,hi,ha=>by
  rw[chkThs]at h;injection h with h;subst h
  exact⟨by simpa using hi,fun r hr=>(by cases hr),by simp,ha⟩
 |t::l,i,a,a',h,hi,ha=>by
  rw[chkThs]at h
  split at h
  ·cases h
  ·cases hb:chkSts t.l 1 ⟨a.p+1,a.it⟩ with
   |bad p e=>rw[hb]at h;cases h
   |on a1=>
    rw[hb]at h
    dsimp only at h
    have e0:=chkSts_it t.l 1 _ a1 hb ha
    dsimp only at e0
    obtain⟨e1,e2,e3,e4⟩:=chkThs_ok l (i+1) a1 a' h (by omega) e0.2
    refine⟨by simp only[List.length_cons];omega,fun z hz=>?_,by simp only[List.map_cons,List.sum_cons];omega,e4⟩
    rcases List.mem_cons.1 hz with rfl|hz
    ·exact⟨_,a1,hb⟩
    ·exact e2 z hz
theorem chkPr_on {p:Pr} {a:At} (h:chkPr p=.on a):PrGood p:=by
 unfold chkPr at h
 cases h1:chkRes 0 p.rs ⟨-1,0⟩ with
 |bad q e=>rw[h1]at h;cases h
 |on a1=>
  rw[h1]at h
  change (((chkShs 0 p.ss a1).bind (chkFus 0 p.fs)).bind (chkThs 0 p.ts))=_ at h
  cases h2:chkShs 0 p.ss a1 with
  |bad q e=>rw[h2]at h;cases h
  |on a2=>
   rw[h2]at h
   change ((chkFus 0 p.fs a2).bind (chkThs 0 p.ts))=_ at h
   cases h3:chkFus 0 p.fs a2 with
   |bad q e=>rw[h3]at h;cases h
   |on a3=>
    rw[h3]at h
    change chkThs 0 p.ts a3=_ at h
    obtain⟨b1,b2,b3⟩:=chkRes_ok p.rs 0 _ a1 h1 (by omega)
    obtain⟨c1,c2,c3⟩:=chkShs_ok p.ss 0 a1 a2 h2 (by omega)
    dsimp only at b3
    obtain⟨d1,d2,d3,d4⟩:=chkFus_ok p.fs 0 a2 a3 h3 (by omega) (by omega)
    obtain⟨e1,e2,e3,e4⟩:=chkThs_ok p.ts 0 a3 a h (by omega) d4
    exact⟨⟨by omega,b2⟩,⟨by omega,c2⟩,⟨by omega,d2⟩,⟨by omega,e2⟩,by unfold itemsOf;omega⟩
end Go.Proofs.YtkklogikakcanaaGreatDoor
namespace Go.Proofs.YtkklogikakcanaaGreatDoor
theorem chkXt_nz {x:Ex} {a:At} {q e:Int} (h:chkXt x a=.bad q e):e≠0:=by
 unfold chkXt at h
 cases hx:chkEx x 1 a.it with
 |ok m=>rw[hx]at h;cases h
 |error e'=>
  rw[hx]at h
  injection h with _ h
  subst h
  exact chkEx_ne x 1 a.it e' hx
mutual
theorem chkSt_nz:∀(s:St) (deep:Nat) (a:At) (q e:Int),chkSt s deep a=.bad q e→e≠0
 |.mk k nm t x y bd body ed els,deep,a,q,e,h=>by
  rw[chkSt]at h
  cases hi:itemC deep a.it with
  |error e'=>
   rw[hi]at h
   injection h with _ h
   rw[←h,itemC_err hi]
   decide
  |ok it=>
   rw[hi]at h
   dsimp only at h
   split at h
   ·injection h with _ h
    omega
   ·split at h
    ·next hh=>
     injection h with _ h
     rw[←h]
     exact hh.2
    ·cases hx:(if k=5∨((k=1∨k=7)∧noEx x=true) then Chk.on ⟨a.p,it⟩ else chkXt x ⟨a.p,it⟩) with
     |bad p' e'=>
      rw[hx]at h
      injection h with _ h
      subst h
      split at hx
      ·cases hx
      ·exact chkXt_nz hx
     |on a1=>
      rw[hx]at h
      dsimp only at h
      cases hy:(if k=2 then chkXt y a1 else Chk.on a1) with
      |bad p' e'=>
       rw[hy]at h
       injection h with _ h
       subst h
       split at hy
       ·exact chkXt_nz hy
       ·cases hy
      |on a2=>
       rw[hy]at h
       dsimp only at h
       cases hb:chkSts body (deep+1) a2 with
       |bad p' e'=>
        rw[hb]at h
        injection h with _ h
        subst h
        exact chkSts_nz body (deep+1) a2 p' e' hb
       |on a3=>
        rw[hb]at h
        exact chkSts_nz els (deep+1) a3 q e h
theorem chkSts_nz:∀(l:List St) (deep:Nat) (a:At) (q e:Int),chkSts l deep a=.bad q e→e≠0
 |[],deep,a,q,e,h=>by rw[chkSts]at h;cases h
 |s::r,deep,a,q,e,h=>by
  rw[chkSts]at h
  cases hs:chkSt s deep ⟨a.p+1,a.it⟩ with
  |bad p' e'=>
   rw[hs]at h
   injection h with _ h
   subst h
   exact chkSt_nz s deep _ p' e' hs
  |on a1=>
   rw[hs]at h
   exact chkSts_nz r deep a1 q e h
end
theorem chkRes_nz:∀(l:List Re) (i:Nat) (a:At) (q e:Int),chkRes i l a=.bad q e→e≠0
 |[],i,a,q,e,h=>by rw[chkRes]at h;cases h
 |r::l,i,a,q,e,h=>by
  rw[chkRes]at h
  split at h
  ·injection h with _ h;omega
  ·split at h
   ·injection h with _ h;omega
   ·split at h
    ·next hh=>injection h with _ h;rw[←h];exact hh
    ·exact chkRes_nz l (i+1) _ q e h
theorem chkShs_nz:∀(l:List Fl) (i:Nat) (a:At) (q e:Int),chkShs i l a=.bad q e→e≠0
 |[],i,a,q,e,h=>by rw[chkShs]at h;cases h
 |r::l,i,a,q,e,h=>by
  rw[chkShs]at h
  split at h
  ·injection h with _ h;omega
  ·split at h
   ·next hh=>injection h with _ h;rw[←h];exact hh
   ·exact chkShs_nz l (i+1) _ q e h
theorem chkFus_nz:∀(l:List Fu) (i:Nat) (a:At) (q e:Int),chkFus i l a=.bad q e→e≠0
 |[],i,a,q,e,h=>by rw[chkFus]at h;cases h
 |f::l,i,a,q,e,h=>by
  rw[chkFus]at h
  split at h
  ·injection h with _ h;omega
  ·split at h
   ·injection h with _ h;omega
   ·split at h
    ·next hh=>injection h with _ h;rw[←h];exact hh
    ·split at h
     ·next hh=>injection h with _ h;rw[←h];exact hh.2
     ·cases hs:chkSts f.body 1 ⟨a.p+1,a.it⟩ with
      |bad p' e'=>
       rw[hs]at h
       injection h with _ h
       subst h
       exact chkSts_nz _ _ _ p' e' hs
      |on a1=>
       rw[hs]at h
       exact chkFus_nz l (i+1) a1 q e h
theorem chkThs_nz:∀(l:List Th) (i:Nat) (a:At) (q e:Int),chkThs i l a=.bad q e→e≠0
 |[],i,a,q,e,h=>by rw[chkThs]at h;cases h
 |t::l,i,a,q,e,h=>by
  rw[chkThs]at h
  split at h
  ·injection h with _ h;omega
  ·cases hs:chkSts t.l 1 ⟨a.p+1,a.it⟩ with
   |bad p' e'=>
    rw[hs]at h
    injection h with _ h
    subst h
    exact chkSts_nz _ _ _ p' e' hs
   |on a1=>
    rw[hs]at h
    exact chkThs_nz l (i+1) a1 q e h
theorem bind_nz {c:Chk} {f:At→Chk} (h1:∀q e,c=.bad q e→e≠0) (h2:∀a q e,f a=.bad q e→e≠0) (q e:Int) (h:c.bind f=.bad q e):e≠0:=by
 cases c with
 |bad q' e'=>exact h1 q e h
 |on a=>exact h2 a q e h
theorem chkPr_nz (p:Pr) (q e:Int) (h:chkPr p=.bad q e):e≠0:=by
 unfold chkPr at h
 exact bind_nz (bind_nz (bind_nz (fun q e=>chkRes_nz _ _ _ q e) (fun a q e=>chkShs_nz _ _ _ q e)) (fun a q e=>chkFus_nz _ _ _ q e)) (fun a q e=>chkThs_nz _ _ _ q e) q e h
end Go.Proofs.YtkklogikakcanaaGreatDoor
namespace Go.Proofs.YtkklogikakcanaaGreatDoor
structure PrNum (p:Pr):Prop where
 fs:∀f∈p.fs,∀s∈f.body,StNum s
 ts:∀t∈p.ts,∀s∈t.l,StNum s
end Go.Proofs.YtkklogikakcanaaGreatDoor
namespace Go.Proofs.YtkklogikakcanaaGreatDoor
mutual
def lfE:Ex→Int→Int
 |.mk _ _ _ _ _ args,left=>lfL args (left - (args.length:Int))
def lfL:List Ex→Int→Int
 |[],left=>left
 |x::r,left=>if left<0 then left else lfL r (lfE x left)
end
mutual
def lfS:St→Int→Int
 |.mk _ _ _ x y _ body _ els,left=>
  if lfE x left<0 then lfE x left
  else if lfE y (lfE x left)<0 then lfE y (lfE x left)
  else if lfSs body (lfE y (lfE x left) - (body.length:Int))<0 then lfSs body (lfE y (lfE x left) - (body.length:Int))
  else lfSs els (lfSs body (lfE y (lfE x left) - (body.length:Int)) - (els.length:Int))
def lfSs:List St→Int→Int
 |[],left=>left
 |s::r,left=>if left<0 then left else lfSs r (lfS s left)
end
mutual
theorem lfE_le:∀(x:Ex) (left:Int),lfE x left≤left∧(0≤lfE x left→lfE x left=left+1 - (exCount x:Int))
 |.mk k n nm t d args,left=>by
  rw[lfE,exCount]
  obtain⟨h1,h2⟩:=lfL_le args (left - (args.length:Int))
  exact⟨by omega,fun h=>by have:=h2 h;push_cast;omega⟩
theorem lfL_le:∀(l:List Ex) (left:Int),lfL l left≤left∧(0≤lfL l left→lfL l left=left+(l.length:Int) - (exCounts l:Int))
 |[],left=>by rw[lfL,exCounts];exact⟨by omega,fun _=>by simp⟩
 |x::r,left=>by
  rw[lfL,exCounts]
  split
  ·next h0=>exact⟨by omega,fun h=>by omega⟩
  ·obtain⟨h1,h2⟩:=lfE_le x left
   obtain⟨h3,h4⟩:=lfL_le r (lfE x left)
   refine⟨by omega,fun h=>?_⟩
   have h5:=h4 h
   have h6:=h2 (by omega)
   simp only[List.length_cons]
   push_cast;omega
end
mutual
def stAll:St→Nat
 |.mk _ _ _ x y _ body _ els=>1+((exCount x - 1)+((exCount y - 1)+(stAlls body+stAlls els)))
def stAlls:List St→Nat
 |[]=>0
 |s::r=>stAll s+stAlls r
end
mutual
theorem lfS_le:∀(s:St) (left:Int),lfS s left≤left∧(0≤lfS s left→lfS s left=left+1 - (stAll s:Int))
 |.mk k nm t x y bd body ed els,left=>by
  rw[lfS,stAll]
  obtain⟨x1,x2⟩:=lfE_le x left
  obtain⟨y1,y2⟩:=lfE_le y (lfE x left)
  obtain⟨b1,b2⟩:=lfSs_le body (lfE y (lfE x left) - (body.length:Int))
  obtain⟨e1,e2⟩:=lfSs_le els (lfSs body (lfE y (lfE x left) - (body.length:Int)) - (els.length:Int))
  have px:=exCount_pos x
  have py:=exCount_pos y
  split
  ·exact⟨by omega,fun h=>by omega⟩
  ·split
   ·exact⟨by omega,fun h=>by omega⟩
   ·split
    ·exact⟨by omega,fun h=>by omega⟩
    ·refine⟨by omega,fun h=>?_⟩
     have:=e2 h
     have:=b2 (by omega)
     have:=y2 (by omega)
     have:=x2 (by omega)
     push_cast
     omega
theorem lfSs_le:∀(l:List St) (left:Int),lfSs l left≤left∧(0≤lfSs l left→lfSs l left=left+(l.length:Int) - (stAlls l:Int))
 |[],left=>by rw[lfSs,stAlls];exact⟨by omega,fun _=>by simp⟩
 |s::r,left=>by
  rw[lfSs,stAlls]
  split
  ·next h0=>exact⟨by omega,fun h=>by omega⟩
  ·obtain⟨h1,h2⟩:=lfS_le s left
   obtain⟨h3,h4⟩:=lfSs_le r (lfS s left)
   refine⟨by omega,fun h=>?_⟩
   have h5:=h4 h
   have h6:=h2 (by omega)
   simp only[List.length_cons]
   push_cast;omega
end
def cntS (left:Int):Int:=if left<0 then 262145 else 262144 - left
def exSizeS (x:Ex):Int:=cntS (lfE x 262144)
end Go.Proofs.YtkklogikakcanaaGreatDoor
namespace Go.Proofs.YtkklogikakcanaaGreatDoor
def ExGood (x:Ex):Prop:=∃deep it m,chkEx x deep it=.ok m
theorem ExGood.form {x:Ex} (h:ExGood x):exForm x=0:=by
 obtain⟨deep,it,m,h⟩:=h
 exact (chkEx_ok x deep it m h).2.2.2.1
theorem chkExs_mem:∀(l:List Ex) (deep it m:Nat),chkExs l deep it=.ok m→∀y∈l,∃it' m',chkEx y deep it'=.ok m'
 |[],_,_,_,_,y,hy=>by simp at hy
 |x::r,deep,it,m,h,y,hy=>by
  rw[chkExs]at h
  cases hx:chkEx x deep it with
  |error e=>rw[hx]at h;cases h
  |ok m1=>
   rw[hx]at h
   rcases List.mem_cons.1 hy with rfl|hy
   ·exact⟨_,_,hx⟩
   ·exact chkExs_mem r deep m1 m h y hy
theorem ExGood.sub {x:Ex} (h:ExGood x):∀y∈x.args,ExGood y:=fun y hy=>by
 obtain⟨deep,it,m,h⟩:=h
 obtain⟨i,m',h2⟩:=chkExs_mem _ _ _ _ (chkEx_ok x deep it m h).2.2.2.2 y hy
 exact⟨_,_,_,h2⟩
theorem ExGood.len {x:Ex} (h:ExGood x):(x.k=4∨x.k=8∨x.k=9→x.args.length=1)∧(x.k=5∨(10≤x.k∧x.k≤22)→x.args.length=2):=by
 obtain⟨m,nd,ha,hm,-⟩:=exForm_ok h.form
 unfold arity at ha
 refine⟨fun hk=>?_,fun hk=>?_⟩
 ·exact qezrc_3
 ·split at ha<;>try omega
  exact qezrc_3
theorem ExGood.kind {x:Ex} (h:ExGood x):1≤x.k∧x.k≤22:=by
 obtain⟨m,nd,ha,-⟩:=exForm_ok h.form
 unfold arity at ha
 repeat' split at ha
 all_goals first|cases ha;done|omega
end Go.Proofs.YtkklogikakcanaaGreatDoor
