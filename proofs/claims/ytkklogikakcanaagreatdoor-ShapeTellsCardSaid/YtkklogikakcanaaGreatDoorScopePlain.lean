import Derived.Test.YtkklogikakcanaaGreatDoorTreePlain2
set_option linter.unusedVariables false
set_option linter.unusedSimpArgs false
namespace Go.Proofs.YtkklogikakcanaaGreatDoor
theorem q8r5m_2 {P:Prop} (h:P:=by
 split at h
 ·injection h with _ h;omega
 ·split at h
  ·next h0=>injection h with _ h;rw[←h];exact h0
  ·exact ih _ _ _ _ h):P:=h
theorem q8r5m_1 {P:Prop} (h:P:=by
 simp[typesCheck,faultOf,chkPr,chkRes,chkShs,chkFus,chkThs,chkSts,chkSt,itemC,stForm,chkXt,chkEx,chkExs,exForm,arity,noEx,noTy,Ex.k,Ex.n,Ex.nm,Ex.t,Ex.args,St.k,St.nm,St.t,St.x,St.y,St.body,St.els,ty0,Chk.bind,scFault,scPr,scHeads,scRes,scShs,scFus,scThs,scSts,scSt,stOwn,valS,exS,exSs,exEnd,Sc.bind,Srt.has,numS,numT]):P:=h
instance:DecidableEq Ty:=fun a b=>by
 obtain⟨a1,a2,a3⟩:=a
 obtain⟨b1,b2,b3⟩:=b
 exact decidable_of_iff (a1=b1∧a2=b2∧a3=b3) (by simp)
structure Srt where
 t:Ty
 null:Bool
deriving DecidableEq
def ty0:Ty:=⟨0,[],0⟩
def numT:Ty:=⟨1,[],0⟩
def numS:Srt:=⟨numT,false⟩
def refT (t:Ty):Bool:=decide (t.k=2)||decide (t.k=3)
def Srt.ref (s:Srt):Bool:=s.null||refT s.t
def Srt.fits (s:Srt) (t:Ty):Bool:=(s.null&&refT t)||(!s.null&&(decide (s.t=t)&&decide (t.k≠0)))
def Srt.has (s:Srt):Bool:=s.null||decide (s.t.k≠0)
def idxOf {α:Type} (f:α→List UInt8) (nm:List UInt8):List α→Option Nat
 |[]=>none
 |x::r=>if f x=nm then some 0 else (idxOf f nm r).map (·+1)
def recOf (p:Pr) (nm:List UInt8):Option Nat:=idxOf Re.nm nm p.rs
def funOf (p:Pr) (nm:List UInt8):Option Nat:=idxOf Fu.nm nm p.fs
def fieldOf (l:List Fl) (nm:List UInt8):Option Ty:=
 match l with
 |[]=>none
 |f::r=>if f.nm=nm then some f.t else fieldOf r nm
def shOf (p:Pr) (nm:List UInt8):Option Ty:=fieldOf p.ss nm
def knownT (p:Pr) (t:Ty):Bool:=t.nm.isEmpty||(recOf p t.nm).isSome
abbrev Lc:=List Fl
def exEnd (p:Pr) (l:Lc) (k:Int) (nm:List UInt8) (t:Ty) (ss:List Srt):Except Int Srt:=
 if k=1 then .ok numS
 else if k=2 then .ok ⟨ty0,true⟩
 else if k=3 then
  match fieldOf l nm with
  |some t=>.ok ⟨t,false⟩
  |none=>
   match shOf p nm with
   |some t=>.ok ⟨t,false⟩
   |none=>.error 9
 else if k=4 then
  (let a:=ss.getD 0 numS
   if a.t.k≠2 then .error 10 else
   match recOf p a.t.nm with
   |none=>.error 9
   |some i=>
    match fieldOf ((p.rs.map Re.fs).getD i []) nm with
    |some t=>.ok ⟨t,false⟩
    |none=>.error 9)
 else if k=5 then
  (let a:=ss.getD 0 numS
   let b:=ss.getD 1 numS
   if a.t.k=3∧b=numS then (if a.t.nm=[] then .ok numS else .ok ⟨⟨2,a.t.nm,0⟩,false⟩) else .error 10)
 else if k=6 then (if knownT p t then .ok ⟨t,false⟩ else .error 9)
 else if k=7 then
  match funOf p nm with
  |none=>.error 9
  |some i=>
   (let ps:=(p.fs.map Fu.ps).getD i []
    if ss.length≠ps.length then .error 10
    else if (List.zipWith (fun s (f:Fl)=>s.fits f.t) ss ps).all id then .ok ⟨(p.fs.map Fu.t).getD i ty0,false⟩ else .error 10)
 else if k=15∨k=16 then
  (let a:=ss.getD 0 numS
   let b:=ss.getD 1 numS
   if a=b∨(a.null=true∧b.ref=true)∨(b.null=true∧a.ref=true) then .ok numS else .error 10)
 else if ss.all (fun s=>decide (s=numS)) then .ok numS else .error 10
mutual
def exS (p:Pr) (l:Lc):Ex→Except Int Srt
 |.mk k n nm t d args=>
  match exSs p l args with
  |.error e=>.error e
  |.ok ss=>exEnd p l k nm t ss
def exSs (p:Pr) (l:Lc):List Ex→Except Int (List Srt)
 |[]=>.ok []
 |x::r=>
  match exS p l x with
  |.error e=>.error e
  |.ok s=>
   if s.has then
    match exSs p l r with
    |.error e=>.error e
    |.ok ss=>.ok (s::ss)
   else .error 10
end
def valS (p:Pr) (l:Lc) (x:Ex):Except Int Srt:=
 match exS p l x with
 |.error e=>.error e
 |.ok s=>if s.has then .ok s else .error 10
def stOwn (p:Pr) (l:Lc) (res:Ty) (s:St):Int:=
 if s.k=1 then
  (if (fieldOf l s.nm).isSome∨(shOf p s.nm).isSome then 8
   else if knownT p s.t=false then 9
   else if noEx s.x then 0
   else match valS p l s.x with
    |.error e=>e
    |.ok v=>if v.fits s.t then 0 else 10)
 else if s.k=2 then
  (match valS p l s.x with
   |.error e=>e
   |.ok v=>
    match valS p l s.y with
    |.error e=>e
    |.ok u=>if u.fits v.t then 0 else 10)
 else if s.k=3∨s.k=4∨s.k=6 then
  (match valS p l s.x with
   |.error e=>e
   |.ok v=>if v=numS then 0 else 10)
 else if s.k=7 then
  (if noEx s.x then (if res.k=0 then 0 else 10)
   else match valS p l s.x with
    |.error e=>e
    |.ok v=>if v.fits res then 0 else 10)
 else if s.k=8 then
  (match exS p l s.x with
   |.error e=>e
   |.ok _=>0)
 else 0
inductive Sc where
 |bad (p e:Int)
 |on (p:Int)
def Sc.bind (c:Sc) (f:Int→Sc):Sc:=
 match c with
 |.bad p e=>.bad p e
 |.on a=>f a
def lcNext (l:Lc) (s:St):Lc:=if s.k=1 then ⟨s.nm,s.t⟩::l else l
mutual
def scSt (p:Pr) (l:Lc) (res:Ty):St→Int→Sc
 |.mk k nm t x y bd body ed els,a=>
  if stOwn p l res (.mk k nm t x y bd body ed els)≠0 then .bad a (stOwn p l res (.mk k nm t x y bd body ed els))
  else
   match scSts p (lcNext l (.mk k nm t x y bd body ed els)) res body a with
   |.bad q e=>.bad q e
   |.on a1=>scSts p (lcNext l (.mk k nm t x y bd body ed els)) res els a1
def scSts (p:Pr) (l:Lc) (res:Ty):List St→Int→Sc
 |[],a=>.on a
 |s::r,a=>
  match scSt p l res s (a+1) with
  |.bad q e=>.bad q e
  |.on a1=>scSts p (lcNext l s) res r a1
end
def scFds (p:Pr) (met:List (List UInt8)):List Fl→Int
 |[]=>0
 |f::r=>if f.nm∈met then 8 else if knownT p f.t=false then 9 else scFds p (f.nm::met) r
def scPas (p:Pr) (l:Lc):List Fl→Int
 |[]=>0
 |f::r=>if (fieldOf l f.nm).isSome∨(shOf p f.nm).isSome then 8 else if knownT p f.t=false then 9 else scPas p (f::l) r
def scRes (p:Pr) (met:List (List UInt8)):List Re→Int→Sc
 |[],a=>.on a
 |r::l,a=>
  if r.nm∈met then .bad (a+1) 8
  else if scFds p [] r.fs≠0 then .bad (a+1) (scFds p [] r.fs)
  else scRes p (r.nm::met) l (a+1)
def scShs (p:Pr) (met:List (List UInt8)):List Fl→Int→Sc
 |[],a=>.on a
 |f::l,a=>
  if f.nm∈met then .bad (a+1) 8
  else if knownT p f.t=false then .bad (a+1) 9
  else scShs p (f.nm::met) l (a+1)
def scFus (p:Pr) (met:List (List UInt8)):List Fu→Int→Sc
 |[],a=>.on a
 |f::l,a=>
  if f.nm∈met then .bad (a+1) 8
  else if scPas p [] f.ps≠0 then .bad (a+1) (scPas p [] f.ps)
  else if knownT p f.t=false then .bad (a+1) 9
  else
   match scSts p f.ps.reverse f.t f.body (a+1) with
   |.bad q e=>.bad q e
   |.on a1=>scFus p (f.nm::met) l a1
def scThs (p:Pr):List Th→Int→Sc
 |[],a=>.on a
 |t::l,a=>
  match scSts p [] ty0 t.l (a+1) with
  |.bad q e=>.bad q e
  |.on a1=>scThs p l a1
def scHeads (p:Pr):Sc:=((scRes p [] p.rs (-1)).bind (scShs p (p.rs.map Re.nm).reverse p.ss)).bind (scFus p ((p.ss.map Fl.nm).reverse++(p.rs.map Re.nm).reverse) p.fs)
def scPr (p:Pr):Sc:=(scHeads p).bind (scThs p p.ts)
def scFault (p:Pr):Int×Int:=
 match scPr p with
 |.bad q e=>(q,e)
 |.on _=>(0,0)
def typesCheck (p:Pr):Int×Int:=if (faultOf p).2≠0 then (0,1) else scFault p
mutual
def plSt:St→Nat
 |.mk _ _ _ _ _ _ body _ els=>1+(plSts body+plSts els)
def plSts:List St→Nat
 |[]=>0
 |s::r=>plSt s+plSts r
end
def placesOf (p:Pr):Nat:=p.rs.length+p.ss.length+p.fs.length+p.ts.length+((p.fs.map fun f=>plSts f.body).sum+(p.ts.map fun t=>plSts t.l).sum)
end Go.Proofs.YtkklogikakcanaaGreatDoor
namespace Go.Proofs.YtkklogikakcanaaGreatDoor
abbrev hdN:Hd:=⟨none,0⟩
mutual
def stripE:Ex→Ex
 |.mk k n nm t _ args=>.mk k n nm t hdN (stripEs args)
def stripEs:List Ex→List Ex
 |[]=>[]
 |x::r=>stripE x::stripEs r
end
mutual
def stripS:St→St
 |.mk k nm t x y _ body _ els=>.mk k nm t (stripE x) (stripE y) hdN (stripSs body) hdN (stripSs els)
def stripSs:List St→List St
 |[]=>[]
 |s::r=>stripS s::stripSs r
end
def stripR (r:Re):Re:=⟨r.nm,hdN,r.fs⟩
def stripF (f:Fu):Fu:=⟨f.nm,hdN,f.ps,f.t,hdN,stripSs f.body⟩
def stripT (t:Th):Th:=⟨hdN,stripSs t.l⟩
def stripP (p:Pr):Pr:=⟨hdN,p.rs.map stripR,hdN,p.ss,hdN,p.fs.map stripF,hdN,p.ts.map stripT⟩
theorem stripEs_len:∀l:List Ex,(stripEs l).length=l.length
 |[]=>rfl
 |x::r=>by rw[stripEs,List.length_cons,List.length_cons,stripEs_len r]
theorem stripEs_isEmpty (l:List Ex):(stripEs l).isEmpty=l.isEmpty:=by cases l<;>rw[stripEs]<;>rfl
theorem stripSs_isEmpty (l:List St):(stripSs l).isEmpty=l.isEmpty:=by cases l<;>rw[stripSs]<;>rfl
theorem noEx_strip (x:Ex):noEx (stripE x)=noEx x:=by
 obtain⟨k,n,nm,t,d,args⟩:=x
 rw[stripE]
 simp only[noEx,Ex.k,Ex.n,Ex.nm,Ex.t,Ex.args,stripEs_isEmpty]
 rfl
theorem stripE_k (x:Ex):(stripE x).k=x.k:=by cases x;rw[stripE];rfl
theorem exForm_strip (x:Ex):exForm (stripE x)=exForm x:=by
 obtain⟨k,n,nm,t,d,args⟩:=x
 rw[stripE]
 simp only[exForm,Ex.k,Ex.n,Ex.nm,Ex.t,Ex.args,stripEs_len]
 rfl
mutual
theorem chkEx_strip:∀(x:Ex) (deep it:Nat),chkEx (stripE x) deep it=chkEx x deep it
 |.mk k n nm t d args,deep,it=>by
  have hf:=exForm_strip (.mk k n nm t d args)
  rw[stripE]at hf ⊢
  rw[chkEx,chkEx,hf]
  cases itemC deep it with
  |error e=>rfl
  |ok m=>dsimp only;rw[chkExs_strip args (deep+1) m]
theorem chkExs_strip:∀(l:List Ex) (deep it:Nat),chkExs (stripEs l) deep it=chkExs l deep it
 |[],deep,it=>by rw[stripEs]
 |x::r,deep,it=>by
  rw[stripEs,chkExs,chkExs,chkEx_strip x deep it]
  cases chkEx x deep it with
  |error e=>rfl
  |ok m=>exact chkExs_strip r deep m
end
theorem chkXt_strip (x:Ex) (a:At):chkXt (stripE x) a=chkXt x a:=by unfold chkXt;rw[chkEx_strip]
theorem stForm_strip (s:St):stForm (stripS s)=stForm s:=by
 obtain⟨k,nm,t,x,y,bd,body,ed,els⟩:=s
 rw[stripS]
 simp only[stForm,St.k,St.nm,St.t,St.x,St.y,St.body,St.els,stripE_k,noEx_strip,stripSs_isEmpty]
 rfl
mutual
theorem chkSt_strip:∀(s:St) (deep:Nat) (a:At),chkSt (stripS s) deep a=chkSt s deep a
 |.mk k nm t x y bd body ed els,deep,a=>by
  have hf:=stForm_strip (.mk k nm t x y bd body ed els)
  rw[stripS]at hf ⊢
  rw[chkSt,chkSt,hf,noEx_strip]
  cases itemC deep a.it with
  |error e=>rfl
  |ok it=>
   dsimp only
   rw[chkXt_strip]
   split
   ·rfl
   ·split
    ·rfl
    ·cases (if k=5∨((k=1∨k=7)∧noEx x=true) then Chk.on ⟨a.p,it⟩ else chkXt x ⟨a.p,it⟩) with
     |bad p e=>rfl
     |on a1=>
      dsimp only
      rw[chkXt_strip]
      cases (if k=2 then chkXt y a1 else Chk.on a1) with
      |bad p e=>rfl
      |on a2=>
       dsimp only
       rw[chkSts_strip body (deep+1) a2]
       cases chkSts body (deep+1) a2 with
       |bad p e=>rfl
       |on a3=>exact chkSts_strip els (deep+1) a3
theorem chkSts_strip:∀(l:List St) (deep:Nat) (a:At),chkSts (stripSs l) deep a=chkSts l deep a
 |[],deep,a=>by rw[stripSs]
 |s::r,deep,a=>by
  rw[stripSs,chkSts,chkSts,chkSt_strip s deep ⟨a.p+1,a.it⟩]
  cases chkSt s deep ⟨a.p+1,a.it⟩ with
  |bad p e=>rfl
  |on a1=>exact chkSts_strip r deep a1
end
theorem chkRes_strip:∀(l:List Re) (i:Nat) (a:At),chkRes i (l.map stripR) a=chkRes i l a
 |[],i,a=>rfl
 |r::l,i,a=>by
  rw[List.map_cons,chkRes,chkRes,chkRes_strip l (i+1)]
  rfl
theorem chkFus_strip:∀(l:List Fu) (i:Nat) (a:At),chkFus i (l.map stripF) a=chkFus i l a
 |[],i,a=>rfl
 |f::l,i,a=>by
  rw[List.map_cons,chkFus,chkFus]
  simp only[stripF,chkSts_strip]
  split
  ·rfl
  ·split
   ·rfl
   ·split
    ·rfl
    ·split
     ·rfl
     ·cases chkSts f.body 1 ⟨a.p+1,a.it⟩ with
      |bad p e=>rfl
      |on a1=>exact chkFus_strip l (i+1) a1
theorem chkThs_strip:∀(l:List Th) (i:Nat) (a:At),chkThs i (l.map stripT) a=chkThs i l a
 |[],i,a=>rfl
 |t::l,i,a=>by
  rw[List.map_cons,chkThs,chkThs]
  simp only[stripT,chkSts_strip]
  split
  ·rfl
  ·cases chkSts t.l 1 ⟨a.p+1,a.it⟩ with
   |bad p e=>rfl
   |on a1=>exact chkThs_strip l (i+1) a1
theorem bind_congr {c:Chk} {f g:At→Chk} (h:∀a,f a=g a):c.bind f=c.bind g:=by cases c with
 |bad p e=>rfl
 |on a=>exact h a
theorem chkPr_strip (p:Pr):chkPr (stripP p)=chkPr p:=by
 unfold chkPr stripP
 dsimp only
 rw[chkRes_strip]
 rw[bind_congr (fun a=>chkThs_strip p.ts 0 a)]
 congr 1
 exact bind_congr (fun a=>chkFus_strip p.fs 0 a)
theorem faultOf_strip (p:Pr):faultOf (stripP p)=faultOf p:=by
 unfold faultOf
 rw[chkPr_strip]
theorem idxOf_map {α β:Type} (f:β→List UInt8) (g:α→β) (nm:List UInt8):∀l:List α,idxOf f nm (l.map g)=idxOf (fun x=>f (g x)) nm l
 |[]=>rfl
 |x::r=>by
  rw[List.map_cons,idxOf,idxOf,idxOf_map f g nm r]
theorem recOf_strip (p:Pr) (nm:List UInt8):recOf (stripP p) nm=recOf p nm:=by
 unfold recOf stripP
 dsimp only
 rw[idxOf_map]
 rfl
theorem funOf_strip (p:Pr) (nm:List UInt8):funOf (stripP p) nm=funOf p nm:=by
 unfold funOf stripP
 dsimp only
 rw[idxOf_map]
 rfl
theorem shOf_strip (p:Pr) (nm:List UInt8):shOf (stripP p) nm=shOf p nm:=rfl
theorem knownT_strip (p:Pr) (t:Ty):knownT (stripP p) t=knownT p t:=by unfold knownT;rw[recOf_strip]
theorem rsfs_strip (p:Pr):(stripP p).rs.map Re.fs=p.rs.map Re.fs:=by unfold stripP;simp only[List.map_map];rfl
theorem fsps_strip (p:Pr):(stripP p).fs.map Fu.ps=p.fs.map Fu.ps:=by unfold stripP;simp only[List.map_map];rfl
theorem fst_strip (p:Pr):(stripP p).fs.map Fu.t=p.fs.map Fu.t:=by unfold stripP;simp only[List.map_map];rfl
theorem exEnd_strip (p:Pr) (l:Lc) (k:Int) (nm:List UInt8) (t:Ty) (ss:List Srt):exEnd (stripP p) l k nm t ss=exEnd p l k nm t ss:=by
 unfold exEnd
 simp only[recOf_strip,shOf_strip,knownT_strip,funOf_strip,rsfs_strip,fsps_strip,fst_strip]
mutual
theorem exS_strip (p:Pr) (l:Lc):∀x:Ex,exS (stripP p) l (stripE x)=exS p l x
 |.mk k n nm t d args=>by
  rw[stripE,exS,exS,exSs_strip p l args]
  cases exSs p l args with
  |error e=>rfl
  |ok ss=>exact exEnd_strip p l k nm t ss
theorem exSs_strip (p:Pr) (l:Lc):∀xs:List Ex,exSs (stripP p) l (stripEs xs)=exSs p l xs
 |[]=>by rw[stripEs,exSs,exSs]
 |x::r=>by
  rw[stripEs,exSs,exSs,exS_strip p l x,exSs_strip p l r]
end
theorem valS_strip (p:Pr) (l:Lc) (x:Ex):valS (stripP p) l (stripE x)=valS p l x:=by unfold valS;rw[exS_strip]
theorem stOwn_strip (p:Pr) (l:Lc) (res:Ty) (s:St):stOwn (stripP p) l res (stripS s)=stOwn p l res s:=by
 obtain⟨k,nm,t,x,y,bd,body,ed,els⟩:=s
 rw[stripS]
 simp only[stOwn,St.k,St.nm,St.t,St.x,St.y,shOf_strip,knownT_strip,noEx_strip,valS_strip,exS_strip]
 rfl
mutual
theorem scSt_strip (p:Pr) (res:Ty):∀(s:St) (l:Lc) (a:Int),scSt (stripP p) l res (stripS s) a=scSt p l res s a
 |.mk k nm t x y bd body ed els,l,a=>by
  have h:=stOwn_strip p l res (.mk k nm t x y bd body ed els)
  rw[stripS]at h ⊢
  rw[scSt,scSt,h]
  split
  ·rfl
  ·have e:lcNext l (.mk k nm t (stripE x) (stripE y) hdN (stripSs body) hdN (stripSs els))=lcNext l (.mk k nm t x y bd body ed els):=rfl
   rw[e,scSts_strip p res body]
   cases scSts p (lcNext l (.mk k nm t x y bd body ed els)) res body a with
   |bad q e=>rfl
   |on a1=>exact scSts_strip p res els _ a1
theorem scSts_strip (p:Pr) (res:Ty):∀(xs:List St) (l:Lc) (a:Int),scSts (stripP p) l res (stripSs xs) a=scSts p l res xs a
 |[],l,a=>by rw[stripSs,scSts,scSts]
 |s::r,l,a=>by
  rw[stripSs,scSts,scSts,scSt_strip p res s l (a+1)]
  have e:lcNext l (stripS s)=lcNext l s:=by
   obtain⟨k,nm,t,x,y,bd,body,ed,els⟩:=s
   rw[stripS]
   rfl
  rw[e]
  cases scSt p l res s (a+1) with
  |bad q e=>rfl
  |on a1=>exact scSts_strip p res r _ a1
end
theorem scFds_strip (p:Pr):∀(l:List Fl) (met:List (List UInt8)),scFds (stripP p) met l=scFds p met l
 |[],met=>rfl
 |f::r,met=>by rw[scFds,scFds,knownT_strip,scFds_strip p r]
theorem scPas_strip (p:Pr):∀(l:List Fl) (lc:Lc),scPas (stripP p) lc l=scPas p lc l
 |[],lc=>rfl
 |f::r,lc=>by rw[scPas,scPas,knownT_strip,shOf_strip,scPas_strip p r]
theorem scRes_strip (p:Pr):∀(l:List Re) (met:List (List UInt8)) (a:Int),scRes (stripP p) met (l.map stripR) a=scRes p met l a
 |[],met,a=>rfl
 |r::l,met,a=>by
  rw[List.map_cons,scRes,scRes]
  simp only[stripR,scFds_strip,scRes_strip p l]
theorem scShs_strip (p:Pr):∀(l:List Fl) (met:List (List UInt8)) (a:Int),scShs (stripP p) met l a=scShs p met l a
 |[],met,a=>rfl
 |f::l,met,a=>by rw[scShs,scShs,knownT_strip,scShs_strip p l]
theorem scFus_strip (p:Pr):∀(l:List Fu) (met:List (List UInt8)) (a:Int),scFus (stripP p) met (l.map stripF) a=scFus p met l a
 |[],met,a=>rfl
 |f::l,met,a=>by
  rw[List.map_cons,scFus,scFus]
  simp only[stripF,scPas_strip,knownT_strip,scSts_strip,scFus_strip p l]
theorem scThs_strip (p:Pr):∀(l:List Th) (a:Int),scThs (stripP p) (l.map stripT) a=scThs p l a
 |[],a=>rfl
 |t::l,a=>by
  rw[List.map_cons,scThs,scThs]
  simp only[stripT,scSts_strip,scThs_strip p l]
theorem sbind_congr {c:Sc} {f g:Int→Sc} (h:∀a,f a=g a):c.bind f=c.bind g:=by cases c with
 |bad p e=>rfl
 |on a=>exact h a
theorem scPr_strip (p:Pr):scPr (stripP p)=scPr p:=by
 have h1:(stripP p).rs.map Re.nm=p.rs.map Re.nm:=by unfold stripP;simp only[List.map_map];rfl
 unfold scPr scHeads
 rw[h1]
 rw[show (stripP p).rs=p.rs.map stripR from rfl,show (stripP p).ss=p.ss from rfl,show (stripP p).fs=p.fs.map stripF from rfl,show (stripP p).ts=p.ts.map stripT from rfl,scRes_strip]
 rw[sbind_congr (fun a=>scThs_strip p p.ts a),sbind_congr (fun a=>scFus_strip p p.fs _ a)]
 congr 2
 exact sbind_congr (fun a=>scShs_strip p p.ss _ a)
theorem typesCheck_strip (p:Pr):typesCheck (stripP p)=typesCheck p:=by
 unfold typesCheck scFault
 rw[faultOf_strip,scPr_strip]
mutual
theorem plSt_strip:∀s:St,plSt (stripS s)=plSt s
 |.mk k nm t x y bd body ed els=>by rw[stripS,plSt,plSt,plSts_strip body,plSts_strip els]
theorem plSts_strip:∀l:List St,plSts (stripSs l)=plSts l
 |[]=>by rw[stripSs]
 |s::r=>by rw[stripSs,plSts,plSts,plSt_strip s,plSts_strip r]
end
theorem placesOf_strip (p:Pr):placesOf (stripP p)=placesOf p:=by
 unfold placesOf stripP
 simp only[List.length_map,List.map_map]
 congr 1
 congr 1
 ·congr 1
  apply List.map_congr_left
  intro f _
  exact plSts_strip f.body
 ·congr 1
  apply List.map_congr_left
  intro t _
  exact plSts_strip t.l
end Go.Proofs.YtkklogikakcanaaGreatDoor
namespace Go.Proofs.YtkklogikakcanaaGreatDoor
structure SameHeads (p q:Pr):Prop where
 rs:q.rs=p.rs
 ss:q.ss=p.ss
 fs:q.fs=p.fs
mutual
theorem scSt_on:∀(p:Pr) (l:Lc) (res:Ty) (s:St) (a:Int),(∀a',scSt p l res s a=.on a'→a'=a+(plSt s:Nat) - 1∧∀b,scSt p l res s b=.on (b+(plSt s:Nat) - 1))∧(∀q e,scSt p l res s a=.bad q e→a≤q∧q≤a+(plSt s:Nat) - 1)
 |p,l,res,.mk k nm t x y bd body ed els,a=>by
  constructor
  ·intro a' h
   rw[scSt]at h
   split at h
   ·cases h
   ·next h0=>
    cases hb:scSts p (lcNext l (.mk k nm t x y bd body ed els)) res body a with
    |bad q e=>rw[hb]at h;cases h
    |on a1=>
     rw[hb]at h
     obtain⟨e1,e2⟩:=(scSts_on p _ res body a).1 a1 hb
     obtain⟨e3,e4⟩:=(scSts_on p _ res els a1).1 a' h
     rw[plSt]
     refine⟨by push_cast;omega,fun b=>?_⟩
     rw[scSt,if_neg h0,e2 b]
     dsimp only
     rw[e4]
     congr 1
     push_cast;omega
  ·intro q e h
   rw[scSt]at h
   rw[plSt]
   split at h
   ·injection h with h1 h2;push_cast;omega
   ·cases hb:scSts p (lcNext l (.mk k nm t x y bd body ed els)) res body a with
    |bad q' e'=>
     rw[hb]at h
     injection h with h1 h2
     have:=(scSts_on p _ res body a).2 q' e' hb
     push_cast;omega
    |on a1=>
     rw[hb]at h
     obtain⟨e1,-⟩:=(scSts_on p _ res body a).1 a1 hb
     have:=(scSts_on p _ res els a1).2 q e h
     push_cast;omega
theorem scSts_on:∀(p:Pr) (l:Lc) (res:Ty) (ss:List St) (a:Int),(∀a',scSts p l res ss a=.on a'→a'=a+(plSts ss:Nat)∧∀b,scSts p l res ss b=.on (b+(plSts ss:Nat)))∧(∀q e,scSts p l res ss a=.bad q e→a+1≤q∧q≤a+(plSts ss:Nat))
 |p,l,res,[],a=>by
  constructor
  ·intro a' h
   rw[scSts]at h
   injection h with h
   rw[plSts]
   exact⟨by simp[h],fun b=>by rw[scSts];simp⟩
  ·intro q e h
   rw[scSts]at h;cases h
 |p,l,res,s::r,a=>by
  constructor
  ·intro a' h
   rw[scSts]at h
   cases hs:scSt p l res s (a+1) with
   |bad q e=>rw[hs]at h;cases h
   |on a1=>
    rw[hs]at h
    obtain⟨e1,e2⟩:=(scSt_on p l res s (a+1)).1 a1 hs
    obtain⟨e3,e4⟩:=(scSts_on p _ res r a1).1 a' h
    rw[plSts]
    refine⟨by push_cast;omega,fun b=>?_⟩
    rw[scSts,e2 (b+1)]
    dsimp only
    rw[e4]
    congr 1
    push_cast;omega
  ·intro q e h
   rw[scSts]at h
   rw[plSts]
   cases hs:scSt p l res s (a+1) with
   |bad q' e'=>
    rw[hs]at h
    injection h with h1 h2
    have:=(scSt_on p l res s (a+1)).2 q' e' hs
    push_cast;omega
   |on a1=>
    rw[hs]at h
    obtain⟨e1,-⟩:=(scSt_on p l res s (a+1)).1 a1 hs
    have:=(scSts_on p _ res r a1).2 q e h
    push_cast;omega
end
theorem scThs_on (p:Pr):∀(l:List Th) (a:Int),(∀a',scThs p l a=.on a'→a'=a+(l.length+(l.map fun t=>plSts t.l).sum:Nat)∧∀t∈l,∀b,scSts p [] ty0 t.l b=.on (b+(plSts t.l:Nat)))∧
  (∀q e,scThs p l a=.bad q e→a+1≤q∧q≤a+(l.length+(l.map fun t=>plSts t.l).sum:Nat))
 |[],a=>by
  constructor
  ·intro a' h
   rw[scThs]at h;injection h with h
   exact⟨by simp[h],fun t ht=>by cases ht⟩
  ·intro q e h
   rw[scThs]at h;cases h
 |t::r,a=>by
  simp only[List.length_cons,List.map_cons,List.sum_cons]
  constructor
  ·intro a' h
   rw[scThs]at h
   cases hs:scSts p [] ty0 t.l (a+1) with
   |bad q e=>rw[hs]at h;cases h
   |on a1=>
    rw[hs]at h
    obtain⟨e1,e2⟩:=(scSts_on p _ _ t.l (a+1)).1 a1 hs
    obtain⟨e3,e4⟩:=(scThs_on p r a1).1 a' h
    refine⟨by push_cast at*;omega,fun z hz b=>?_⟩
    rcases List.mem_cons.1 hz with rfl|hz
    ·exact e2 b
    ·exact e4 z hz b
  ·intro q e h
   rw[scThs]at h
   cases hs:scSts p [] ty0 t.l (a+1) with
   |bad q' e'=>
    rw[hs]at h
    injection h with h1 h2
    have:=(scSts_on p _ _ t.l (a+1)).2 q' e' hs
    push_cast at*;omega
   |on a1=>
    rw[hs]at h
    obtain⟨e1,-⟩:=(scSts_on p _ _ t.l (a+1)).1 a1 hs
    have:=(scThs_on p r a1).2 q e h
    push_cast at*;omega
def headsN (p:Pr):Nat:=p.rs.length+p.ss.length+p.fs.length+(p.fs.map fun f=>plSts f.body).sum
theorem scRes_on (p:Pr):∀(l:List Re) met (a:Int),(∀a',scRes p met l a=.on a'→a'=a+l.length)∧(∀q e,scRes p met l a=.bad q e→a+1≤q∧q≤a+l.length)
 |[],met,a=>⟨fun a' h=>by rw[scRes]at h;injection h with h;simp[h],fun q e h=>by rw[scRes]at h;cases h⟩
 |r::l,met,a=>by
  simp only[List.length_cons]
  constructor
  ·intro a' h
   rw[scRes]at h
   split at h
   ·cases h
   ·split at h
    ·cases h
    ·have:=(scRes_on p l _ _).1 a' h
     push_cast;omega
  ·intro q e h
   rw[scRes]at h
   split at h
   ·injection h with h1 h2;push_cast;omega
   ·split at h
    ·injection h with h1 h2;push_cast;omega
    ·have:=(scRes_on p l _ _).2 q e h
     push_cast;omega
theorem scShs_on (p:Pr):∀(l:List Fl) met (a:Int),(∀a',scShs p met l a=.on a'→a'=a+l.length)∧(∀q e,scShs p met l a=.bad q e→a+1≤q∧q≤a+l.length)
 |[],met,a=>⟨fun a' h=>by rw[scShs]at h;injection h with h;simp[h],fun q e h=>by rw[scShs]at h;cases h⟩
 |r::l,met,a=>by
  simp only[List.length_cons]
  constructor
  ·intro a' h
   rw[scShs]at h
   split at h
   ·cases h
   ·split at h
    ·cases h
    ·have:=(scShs_on p l _ _).1 a' h
     push_cast;omega
  ·intro q e h
   rw[scShs]at h
   split at h
   ·injection h with h1 h2;push_cast;omega
   ·split at h
    ·injection h with h1 h2;push_cast;omega
    ·have:=(scShs_on p l _ _).2 q e h
     push_cast;omega
theorem scFus_on (p:Pr):∀(l:List Fu) met (a:Int),(∀a',scFus p met l a=.on a'→a'=a+(l.length+(l.map fun f=>plSts f.body).sum:Nat))∧(∀q e,scFus p met l a=.bad q e→a+1≤q∧q≤a+(l.length+(l.map fun f=>plSts f.body).sum:Nat))
 |[],met,a=>⟨fun a' h=>by rw[scFus]at h;injection h with h;simp[h],fun q e h=>by rw[scFus]at h;cases h⟩
 |f::l,met,a=>by
  simp only[List.length_cons,List.map_cons,List.sum_cons]
  constructor
  ·intro a' h
   rw[scFus]at h
   split at h
   ·cases h
   ·split at h
    ·cases h
    ·split at h
     ·cases h
     ·cases hs:scSts p f.ps.reverse f.t f.body (a+1) with
      |bad q e=>rw[hs]at h;cases h
      |on a1=>
       rw[hs]at h
       obtain⟨e1,-⟩:=(scSts_on p _ _ f.body (a+1)).1 a1 hs
       have:=(scFus_on p l _ a1).1 a' h
       push_cast at*;omega
  ·intro q e h
   rw[scFus]at h
   split at h
   ·injection h with h1 h2;push_cast;omega
   ·split at h
    ·injection h with h1 h2;push_cast;omega
    ·split at h
     ·injection h with h1 h2;push_cast;omega
     ·cases hs:scSts p f.ps.reverse f.t f.body (a+1) with
      |bad q' e'=>
       rw[hs]at h
       injection h with h1 h2
       have:=(scSts_on p _ _ f.body (a+1)).2 q' e' hs
       push_cast at*;omega
      |on a1=>
       rw[hs]at h
       obtain⟨e1,-⟩:=(scSts_on p _ _ f.body (a+1)).1 a1 hs
       have:=(scFus_on p l _ a1).2 q e h
       push_cast at*;omega
theorem scHeads_on (p:Pr):(∀a,scHeads p=.on a→a= -1+(headsN p:Nat))∧(∀q e,scHeads p=.bad q e→0≤q∧q<(headsN p:Nat)):=by
 unfold scHeads headsN
 cases h1:scRes p [] p.rs (-1) with
 |bad q e=>
  have:=(scRes_on p p.rs [] (-1)).2 q e h1
  refine⟨fun a h=>(by cases h),fun q' e' h=>?_⟩
  injection h with h2 h3
  push_cast;omega
 |on a1=>
  have g1:=(scRes_on p p.rs [] (-1)).1 a1 h1
  change (∀a,(scShs p _ p.ss a1).bind _=_→_)∧(∀q e,(scShs p _ p.ss a1).bind _=_→_)
  cases h2:scShs p (p.rs.map Re.nm).reverse p.ss a1 with
  |bad q e=>
   have:=(scShs_on p p.ss _ a1).2 q e h2
   refine⟨fun a h=>(by cases h),fun q' e' h=>?_⟩
   injection h with h2 h3
   push_cast;omega
  |on a2=>
   have g2:=(scShs_on p p.ss _ a1).1 a2 h2
   constructor
   ·intro a h
    have:=(scFus_on p p.fs _ a2).1 a h
    push_cast at*;omega
   ·intro q e h
    have:=(scFus_on p p.fs _ a2).2 q e h
    push_cast at*;omega
theorem placesOf_heads (p:Pr):placesOf p=headsN p+(p.ts.length+(p.ts.map fun t=>plSts t.l).sum):=by
 unfold placesOf headsN;omega
theorem chkXt_ne {x:Ex} {a:At} {p e:Int} (h:chkXt x a=.bad p e):e≠0:=by
 unfold chkXt at h
 cases hx:chkEx x 1 a.it with
 |error e'=>rw[hx]at h;injection h with h1 h2;rw[←h2];exact chkEx_ne x 1 a.it e' hx
 |ok m=>rw[hx]at h;cases h
mutual
theorem chkSt_ne:∀(s:St) (deep:Nat) (a:At) (p e:Int),chkSt s deep a=.bad p e→e≠0
 |.mk k nm t x y bd body ed els,deep,a,p,e,h=>by
  rw[chkSt]at h
  cases hi:itemC deep a.it with
  |error e'=>
   rw[hi]at h
   injection h with h1 h2
   have:=itemC_err hi
   omega
  |ok it=>
   rw[hi]at h
   dsimp only at h
   split at h
   ·injection h with h1 h2;omega
   ·split at h
    ·next h0=>injection h with h1 h2;rw[←h2];exact h0.2
    ·cases hx:(if k=5∨((k=1∨k=7)∧noEx x=true) then Chk.on ⟨a.p,it⟩ else chkXt x ⟨a.p,it⟩) with
     |bad p' e'=>
      rw[hx]at h
      injection h with h1 h2
      subst h2
      split at hx
      ·cases hx
      ·exact chkXt_ne hx
     |on a1=>
      rw[hx]at h
      dsimp only at h
      cases hy:(if k=2 then chkXt y a1 else Chk.on a1) with
      |bad p' e'=>
       rw[hy]at h
       injection h with h1 h2
       subst h2
       split at hy
       ·exact chkXt_ne hy
       ·cases hy
      |on a2=>
       rw[hy]at h
       dsimp only at h
       cases hb:chkSts body (deep+1) a2 with
       |bad p' e'=>
        rw[hb]at h
        injection h with h1 h2
        rw[←h2]
        exact chkSts_ne body (deep+1) a2 p' e' hb
       |on a3=>
        rw[hb]at h
        exact chkSts_ne els (deep+1) a3 p e h
theorem chkSts_ne:∀(l:List St) (deep:Nat) (a:At) (p e:Int),chkSts l deep a=.bad p e→e≠0
 |[],deep,a,p,e,h=>by rw[chkSts]at h;cases h
 |s::r,deep,a,p,e,h=>by
  rw[chkSts]at h
  cases hs:chkSt s deep ⟨a.p+1,a.it⟩ with
  |bad p' e'=>rw[hs]at h;injection h with h1 h2;rw[←h2];exact chkSt_ne s deep _ p' e' hs
  |on a1=>rw[hs]at h;exact chkSts_ne r deep a1 p e h
end
theorem chkPr_ne (p:Pr) (c e:Int) (h:chkPr p=.bad c e):e≠0:=by
 have h1:∀(l:List Re) i a q e,chkRes i l a=.bad q e→e≠0:=by
  intro l
  induction l with
  |nil=>intro i a q e h;rw[chkRes]at h;cases h
  |cons r l ih=>
   intro i a q e h
   rw[chkRes]at h
   split at h
   ·injection h with _ h;omega
   ·exact q8r5m_2
 have h2:∀(l:List Fl) i a q e,chkShs i l a=.bad q e→e≠0:=by
  intro l
  induction l with
  |nil=>intro i a q e h;rw[chkShs]at h;cases h
  |cons r l ih=>
   intro i a q e h
   rw[chkShs]at h
   exact q8r5m_2
 have h3:∀(l:List Fu) i a q e,chkFus i l a=.bad q e→e≠0:=by
  intro l
  induction l with
  |nil=>intro i a q e h;rw[chkFus]at h;cases h
  |cons r l ih=>
   intro i a q e h
   rw[chkFus]at h
   split at h
   ·injection h with _ h;omega
   ·split at h
    ·injection h with _ h;omega
    ·split at h
     ·next h0=>injection h with _ h;rw[←h];exact h0
     ·split at h
      ·next h0=>injection h with _ h;rw[←h];exact h0.2
      ·cases hs:chkSts r.body 1 ⟨a.p+1,a.it⟩ with
       |bad p' e'=>rw[hs]at h;injection h with _ h;rw[←h];exact chkSts_ne _ _ _ _ _ hs
       |on a1=>rw[hs]at h;exact ih _ _ _ _ h
 have h4:∀(l:List Th) i a q e,chkThs i l a=.bad q e→e≠0:=by
  intro l
  induction l with
  |nil=>intro i a q e h;rw[chkThs]at h;cases h
  |cons r l ih=>
   intro i a q e h
   rw[chkThs]at h
   split at h
   ·injection h with _ h;omega
   ·cases hs:chkSts r.l 1 ⟨a.p+1,a.it⟩ with
    |bad p' e'=>rw[hs]at h;injection h with _ h;rw[←h];exact chkSts_ne _ _ _ _ _ hs
    |on a1=>rw[hs]at h;exact ih _ _ _ _ h
 unfold chkPr at h
 cases g1:chkRes 0 p.rs ⟨-1,0⟩ with
 |bad q e'=>rw[g1]at h;injection h with _ h;rw[←h];exact h1 _ _ _ _ _ g1
 |on a1=>
  rw[g1]at h
  change (((chkShs 0 p.ss a1).bind (chkFus 0 p.fs)).bind (chkThs 0 p.ts))=_ at h
  cases g2:chkShs 0 p.ss a1 with
  |bad q e'=>rw[g2]at h;injection h with _ h;rw[←h];exact h2 _ _ _ _ _ g2
  |on a2=>
   rw[g2]at h
   change ((chkFus 0 p.fs a2).bind (chkThs 0 p.ts))=_ at h
   cases g3:chkFus 0 p.fs a2 with
   |bad q e'=>rw[g3]at h;injection h with _ h;rw[←h];exact h3 _ _ _ _ _ g3
   |on a3=>
    rw[g3]at h
    exact h4 _ _ _ _ _ h
theorem exEnd_ne {p:Pr} {l:Lc} {k:Int} {nm:List UInt8} {t:Ty} {ss:List Srt} {e:Int} (h:exEnd p l k nm t ss=.error e):e≠0:=by
 unfold exEnd at h
 dsimp only at h
 repeat' split at h
 all_goals first|(cases h;done)|(injection h with h;omega)
mutual
theorem exS_ne:∀(p:Pr) (l:Lc) (x:Ex) (e:Int),exS p l x=.error e→e≠0
 |p,l,.mk k n nm t d args,e,h=>by
  rw[exS]at h
  cases hs:exSs p l args with
  |error e'=>rw[hs]at h;injection h with h;rw[←h];exact exSs_ne p l args e' hs
  |ok ss=>rw[hs]at h;exact exEnd_ne h
theorem exSs_ne:∀(p:Pr) (l:Lc) (xs:List Ex) (e:Int),exSs p l xs=.error e→e≠0
 |p,l,[],e,h=>by rw[exSs]at h;cases h
 |p,l,x::r,e,h=>by
  rw[exSs]at h
  cases hx:exS p l x with
  |error e'=>rw[hx]at h;injection h with h;rw[←h];exact exS_ne p l x e' hx
  |ok s=>
   rw[hx]at h
   dsimp only at h
   split at h
   ·cases hr:exSs p l r with
    |error e'=>rw[hr]at h;injection h with h;rw[←h];exact exSs_ne p l r e' hr
    |ok ss=>rw[hr]at h;cases h
   ·injection h with h;omega
end
mutual
theorem scSt_ne:∀(p:Pr) (l:Lc) (res:Ty) (s:St) (a c e:Int),scSt p l res s a=.bad c e→e≠0
 |p,l,res,.mk k nm t x y bd body ed els,a,c,e,h=>by
  rw[scSt]at h
  split at h
  ·next h0=>injection h with _ h;rw[←h];exact h0
  ·cases hb:scSts p (lcNext l (.mk k nm t x y bd body ed els)) res body a with
   |bad q e'=>rw[hb]at h;injection h with _ h;rw[←h];exact scSts_ne _ _ _ _ _ _ _ hb
   |on a1=>rw[hb]at h;exact scSts_ne _ _ _ _ _ _ _ h
theorem scSts_ne:∀(p:Pr) (l:Lc) (res:Ty) (ss:List St) (a c e:Int),scSts p l res ss a=.bad c e→e≠0
 |p,l,res,[],a,c,e,h=>by rw[scSts]at h;cases h
 |p,l,res,s::r,a,c,e,h=>by
  rw[scSts]at h
  cases hs:scSt p l res s (a+1) with
  |bad q e'=>rw[hs]at h;injection h with _ h;rw[←h];exact scSt_ne _ _ _ _ _ _ _ hs
  |on a1=>rw[hs]at h;exact scSts_ne _ _ _ _ _ _ _ h
end
theorem scThs_ne (p:Pr):∀(l:List Th) (a c e:Int),scThs p l a=.bad c e→e≠0
 |[],a,c,e,h=>by rw[scThs]at h;cases h
 |t::r,a,c,e,h=>by
  rw[scThs]at h
  cases hs:scSts p [] ty0 t.l (a+1) with
  |bad q e'=>rw[hs]at h;injection h with _ h;rw[←h];exact scSts_ne _ _ _ _ _ _ _ hs
  |on a1=>rw[hs]at h;exact scThs_ne p r a1 c e h
theorem scHeads_ne (p:Pr) (c e:Int) (h:scHeads p=.bad c e):e≠0:=by
 have h1:∀(l:List Re) met a q e,scRes p met l a=.bad q e→e≠0:=by
  intro l
  induction l with
  |nil=>intro met a q e h;rw[scRes]at h;cases h
  |cons r l ih=>
   intro met a q e h
   rw[scRes]at h
   exact q8r5m_2
 have h2:∀(l:List Fl) met a q e,scShs p met l a=.bad q e→e≠0:=by
  intro l
  induction l with
  |nil=>intro met a q e h;rw[scShs]at h;cases h
  |cons r l ih=>
   intro met a q e h
   rw[scShs]at h
   split at h
   ·injection h with _ h;omega
   ·split at h
    ·injection h with _ h;omega
    ·exact ih _ _ _ _ h
 have h3:∀(l:List Fu) met a q e,scFus p met l a=.bad q e→e≠0:=by
  intro l
  induction l with
  |nil=>intro met a q e h;rw[scFus]at h;cases h
  |cons r l ih=>
   intro met a q e h
   rw[scFus]at h
   split at h
   ·injection h with _ h;omega
   ·split at h
    ·next h0=>injection h with _ h;rw[←h];exact h0
    ·split at h
     ·injection h with _ h;omega
     ·cases hs:scSts p r.ps.reverse r.t r.body (a+1) with
      |bad q e'=>rw[hs]at h;injection h with _ h;rw[←h];exact scSts_ne _ _ _ _ _ _ _ hs
      |on a1=>rw[hs]at h;exact ih _ _ _ _ h
 unfold scHeads at h
 cases g1:scRes p [] p.rs (-1) with
 |bad q e'=>rw[g1]at h;injection h with _ h;rw[←h];exact h1 _ _ _ _ _ g1
 |on a1=>
  rw[g1]at h
  change (scShs p _ p.ss a1).bind _=_ at h
  cases g2:scShs p (p.rs.map Re.nm).reverse p.ss a1 with
  |bad q e'=>rw[g2]at h;injection h with _ h;rw[←h];exact h2 _ _ _ _ _ g2
  |on a2=>rw[g2]at h;exact h3 _ _ _ _ _ h
end Go.Proofs.YtkklogikakcanaaGreatDoor
namespace Go.Proofs.YtkklogikakcanaaGreatDoor
open Go
abbrev x0:Ex:=.mk 0 0 [] ty0 hdN []
abbrev prO (b1 b2:Nat) (s:St):Pr:=⟨hdN,[],hdN,[],hdN,[],⟨some ⟨b2,0,none⟩,1⟩,[⟨⟨some ⟨b1,0,none⟩,1⟩,[s]⟩]⟩
abbrev sO (k:Int) (x:Ex):St:=.mk k [] ty0 x x0 hdN [] hdN []
theorem one_good (b1 b2:Nat):typesCheck (prO b1 b2 (sO 6 (.mk 1 1 [] ty0 hdN [])))=(0,0):=by
 exact q8r5m_1
theorem one_nil (b1 b2:Nat):typesCheck (prO b1 b2 (sO 6 (.mk 2 0 [] ty0 hdN [])))=(1,10):=by
 exact q8r5m_1
theorem one_name (b1 b2:Nat):typesCheck (prO b1 b2 (sO 6 (.mk 3 0 [120] ty0 hdN [])))=(1,9):=by
 have hnm:nameB [120]=true:=by decide
 simp[typesCheck,faultOf,chkPr,chkRes,chkShs,chkFus,chkThs,chkSts,chkSt,itemC,stForm,chkXt,chkEx,chkExs,exForm,arity,noEx,noTy,Ex.k,Ex.n,Ex.nm,Ex.t,Ex.args,St.k,St.nm,St.t,St.x,St.y,St.body,St.els,ty0,Chk.bind,scFault,scPr,scHeads,scRes,scShs,scFus,scThs,scSts,scSt,stOwn,valS,exS,exSs,exEnd,Sc.bind,Srt.has,numS,numT,hnm,fieldOf,shOf]
theorem one_places (b1 b2:Nat) (s:St) (h:s.body=[]) (h2:s.els=[]):placesOf (prO b1 b2 s)=2:=by
 obtain⟨k,nm,t,x,y,bd,body,ed,els⟩:=s
 dsimp only[St.body,St.els]at h h2
 subst h h2
 simp[placesOf,plSts,plSt]
theorem typesCheck_same {p q:Pr} (h:stripP q=stripP p):typesCheck q=typesCheck p:=by rw[←typesCheck_strip q,h,typesCheck_strip p]
theorem placesOf_same {p q:Pr} (h:stripP q=stripP p):placesOf q=placesOf p:=by rw[←placesOf_strip q,h,placesOf_strip p]
end Go.Proofs.YtkklogikakcanaaGreatDoor
