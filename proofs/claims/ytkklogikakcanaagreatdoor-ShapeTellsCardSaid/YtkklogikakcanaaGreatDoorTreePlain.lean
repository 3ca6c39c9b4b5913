import Derived.Test.YtkklogikakcanaaGreatDoorLexPlain
import Derived.Lib.ItoaNum
set_option linter.unusedVariables false
set_option linter.unusedSimpArgs false
namespace Go.Proofs.YtkklogikakcanaaGreatDoor
structure Ty where
 k:Int
 nm:List UInt8
 n:Int
structure Hd where
 a:Option Addr
 c:Nat
inductive Ex where
 |mk (k n:Int) (nm:List UInt8) (t:Ty) (d:Hd) (args:List Ex)
def Ex.k:Ex→Int|.mk k _ _ _ _ _=>k
def Ex.n:Ex→Int|.mk _ n _ _ _ _=>n
def Ex.nm:Ex→List UInt8|.mk _ _ nm _ _ _=>nm
def Ex.t:Ex→Ty|.mk _ _ _ t _ _=>t
def Ex.d:Ex→Hd|.mk _ _ _ _ d _=>d
def Ex.args:Ex→List Ex|.mk _ _ _ _ _ l=>l
inductive St where
 |mk (k:Int) (nm:List UInt8) (t:Ty) (x y:Ex) (bd:Hd) (body:List St) (ed:Hd) (els:List St)
def St.k:St→Int|.mk k _ _ _ _ _ _ _ _=>k
def St.nm:St→List UInt8|.mk _ nm _ _ _ _ _ _ _=>nm
def St.t:St→Ty|.mk _ _ t _ _ _ _ _ _=>t
def St.x:St→Ex|.mk _ _ _ x _ _ _ _ _=>x
def St.y:St→Ex|.mk _ _ _ _ y _ _ _ _=>y
def St.bd:St→Hd|.mk _ _ _ _ _ bd _ _ _=>bd
def St.body:St→List St|.mk _ _ _ _ _ _ l _ _=>l
def St.ed:St→Hd|.mk _ _ _ _ _ _ _ ed _=>ed
def St.els:St→List St|.mk _ _ _ _ _ _ _ _ l=>l
structure Fl where
 nm:List UInt8
 t:Ty
structure Re where
 nm:List UInt8
 d:Hd
 fs:List Fl
structure Fu where
 nm:List UInt8
 pd:Hd
 ps:List Fl
 t:Ty
 bd:Hd
 body:List St
structure Th where
 d:Hd
 l:List St
structure Pr where
 rd:Hd
 rs:List Re
 sd:Hd
 ss:List Fl
 fd:Hd
 fs:List Fu
 td:Hd
 ts:List Th
def noTy (t:Ty):Bool:=decide (t.k=0)&&(t.nm.isEmpty&&decide (t.n=0))
def tyForm (t:Ty):Int:=
 if t.nm≠[]∧nameB t.nm=false then 1
 else if (t.k=1∧t.nm=[]∧t.n=0)∨(t.k=2∧t.nm≠[]∧t.n=0) then 0
 else if t.k≠3∨t.n<1 then 1
 else if 64<t.n then 3 else 0
def noEx (x:Ex):Bool:=decide (x.k=0)&&(decide (x.n=0)&&(x.nm.isEmpty&&(noTy x.t&&x.args.isEmpty)))
def binB (k:Int):Bool:=decide (10≤k)&&decide (k≤22)
def arity (k:Int):Option (Int×Bool):=
 if k=1∨k=2∨k=6 then some (0,false)
 else if k=3 then some (0,true)
 else if k=4 then some (1,true)
 else if k=5 then some (2,false)
 else if k=7 then some (-1,true)
 else if k=8∨k=9 then some (1,false)
 else if 10≤k∧k≤22 then some (2,false) else none
def exForm (x:Ex):Int:=
 match arity x.k with
 |none=>1
 |some (m,named)=>
  if ¬(m<0∨m=x.args.length) then 1
  else if ¬(x.k=1∨x.n=0) then 1
  else if named=x.nm.isEmpty then 1
  else if named=true∧nameB x.nm=false then 1
  else if x.k=6 then (if x.t.k=1 then 1 else tyForm x.t)
  else if noTy x.t then 0 else 1
def itemC (deep items:Nat):Except Int Nat:=if deep≤16∧items+1≤1024 then .ok (items+1) else .error 3
mutual
def chkEx:Ex→Nat→Nat→Except Int Nat
 |.mk k n nm t d args,deep,it=>
  match itemC deep it with
  |.error e=>.error e
  |.ok it1=>if exForm (.mk k n nm t d args)≠0 then .error (exForm (.mk k n nm t d args)) else chkExs args (deep+1) it1
def chkExs:List Ex→Nat→Nat→Except Int Nat
 |[],_,it=>.ok it
 |x::r,deep,it=>
  match chkEx x deep it with
  |.error e=>.error e
  |.ok it1=>chkExs r deep it1
end
def stForm (s:St):Bool:=
 if s.k=2 then (decide (s.x.k=3)||(decide (s.x.k=4)||decide (s.x.k=5)))&&(s.nm.isEmpty&&(noTy s.t&&(s.body.isEmpty&&s.els.isEmpty)))
 else if s.k<1∨8<s.k then false
 else if s.k=8∧s.x.k≠7 then false
 else (if s.k=1 then nameB s.nm else s.nm.isEmpty&&noTy s.t)&&(noEx s.y&&((decide (s.k≠5)||noEx s.x)&&((decide (s.k=3)||(decide (s.k=4)||(decide (s.k=5)||s.body.isEmpty)))&&(decide (s.k=3)||s.els.isEmpty))))
structure At where
 p:Int
 it:Nat
inductive Chk where
 |bad (p:Int) (e:Int)
 |on (a:At)
def chkXt (x:Ex) (a:At):Chk:=
 match chkEx x 1 a.it with
 |.error e=>.bad a.p e
 |.ok it=>.on ⟨a.p,it⟩
mutual
def chkSt:St→Nat→At→Chk
 |.mk k nm t x y bd body ed els,deep,a=>
  match itemC deep a.it with
  |.error e=>.bad a.p e
  |.ok it=>
   if stForm (.mk k nm t x y bd body ed els)=false then .bad a.p 1
   else if k=1∧tyForm t≠0 then .bad a.p (tyForm t)
   else
    match (if k=5∨((k=1∨k=7)∧noEx x=true) then Chk.on ⟨a.p,it⟩ else chkXt x ⟨a.p,it⟩) with
    |.bad p e=>.bad p e
    |.on a1=>
     match (if k=2 then chkXt y a1 else Chk.on a1) with
     |.bad p e=>.bad p e
     |.on a2=>
      match chkSts body (deep+1) a2 with
      |.bad p e=>.bad p e
      |.on a3=>chkSts els (deep+1) a3
def chkSts:List St→Nat→At→Chk
 |[],_,a=>.on a
 |s::r,deep,a=>
  match chkSt s deep ⟨a.p+1,a.it⟩ with
  |.bad p e=>.bad p e
  |.on a1=>chkSts r deep a1
end
def chkFls:Nat→List Fl→Int
 |_,[]=>0
 |i,f::r=>if 16≤i then 3 else if nameB f.nm=false then 1 else if tyForm f.t≠0 then tyForm f.t else chkFls (i+1) r
def chkRes:Nat→List Re→At→Chk
 |_,[],a=>.on a
 |i,r::l,a=>
  if 16≤i then .bad (a.p+1) 3
  else if nameB r.nm=false∨r.fs=[] then .bad (a.p+1) 1
  else if chkFls 0 r.fs≠0 then .bad (a.p+1) (chkFls 0 r.fs)
  else chkRes (i+1) l ⟨a.p+1,a.it⟩
def chkShs:Nat→List Fl→At→Chk
 |_,[],a=>.on a
 |i,f::l,a=>
  if 1024≤i then .bad (a.p+1) 3
  else if chkFls 0 [f]≠0 then .bad (a.p+1) (chkFls 0 [f])
  else chkShs (i+1) l ⟨a.p+1,a.it⟩
def chkFus:Nat→List Fu→At→Chk
 |_,[],a=>.on a
 |i,f::l,a=>
  if 32≤i then .bad (a.p+1) 3
  else if nameB f.nm=false then .bad (a.p+1) 1
  else if chkFls 0 f.ps≠0 then .bad (a.p+1) (chkFls 0 f.ps)
  else if noTy f.t=false∧tyForm f.t≠0 then .bad (a.p+1) (tyForm f.t)
  else
   match chkSts f.body 1 ⟨a.p+1,a.it⟩ with
   |.bad p e=>.bad p e
   |.on a1=>chkFus (i+1) l a1
def chkThs:Nat→List Th→At→Chk
 |_,[],a=>.on a
 |i,t::l,a=>
  if 4≤i then .bad (a.p+1) 3
  else
   match chkSts t.l 1 ⟨a.p+1,a.it⟩ with
   |.bad p e=>.bad p e
   |.on a1=>chkThs (i+1) l a1
def Chk.bind (c:Chk) (f:At→Chk):Chk:=
 match c with
 |.bad p e=>.bad p e
 |.on a=>f a
def chkPr (p:Pr):Chk:=(((chkRes 0 p.rs ⟨-1,0⟩).bind (chkShs 0 p.ss)).bind (chkFus 0 p.fs)).bind (chkThs 0 p.ts)
def faultOf (p:Pr):Int×Int:=
 match chkPr p with
 |.bad q e=>(q,e)
 |.on _=>(0,0)
def exFault (x:Ex):Int:=
 match chkEx x 1 0 with
 |.error e=>e
 |.ok _=>0
def tyText (t:Ty):List UInt8:=(if t.k=3 then 91::(Lib.itoa t.n++[93]) else [])++((if t.nm=[] then [105,110,116] else [])++t.nm)
def brB (b:Bool) (l:List UInt8):List UInt8:=if b then 40::(l++[41]) else l
def signOf (k:Int):List UInt8:=([[43],[45],[42],[47],[37],[61,61],[33,61],[60],[60,61],[62],[62,61],[38,38],[124,124]]:List (List UInt8)).getD (k - 10).toNat []
def joined (sep:List UInt8):List (List UInt8)→List UInt8
 |[]=>[]
 |[x]=>x
 |x::y::r=>x++(sep++joined sep (y::r))
def sgnB (k:Int):Bool:=binB k||(decide (k=8)||decide (k=9))
mutual
def digEx:Ex→Bool
 |.mk k n _ _ _ args=>if k=4∨k=5 then digExs args else decide (k=1)&&decide (0≤n)
def digExs:List Ex→Bool
 |[]=>false
 |x::_=>digEx x
end
def exPut (k n:Int) (nm:List UInt8) (t:Ty) (l:List Ex) (ts:List (List UInt8)):List UInt8:=
 let k0:=(l.map Ex.k).getD 0 0
 let k1:=(l.map Ex.k).getD 1 0
 let t0:=ts.getD 0 []
 let t1:=ts.getD 1 []
 if k=1 then Lib.itoa n
 else if k=2 then [110,105,108]
 else if k=3 then nm
 else if k=4 then brB (sgnB k0) t0++(46::nm)
 else if k=5 then brB (sgnB k0) t0++([91]++(t1++[93]))
 else if k=6 then [110,101,119,32]++tyText t
 else if k=7 then (nm++[40])++(joined [44,32] ts++[41])
 else if k=8 then [45]++brB (binB k0||digExs l) t0
 else if k=9 then [33]++brB (binB k0) t0
 else brB (binB k0) t0++(([32]++(signOf k++[32]))++brB (binB k1) t1)
mutual
def exText:Ex→List UInt8
 |.mk k n nm t _ args=>exPut k n nm t args (exTexts args)
def exTexts:List Ex→List (List UInt8)
 |[]=>[]
 |x::r=>exText x::exTexts r
end
mutual
def exCount:Ex→Nat
 |.mk _ _ _ _ _ args=>1+exCounts args
def exCounts:List Ex→Nat
 |[]=>0
 |x::r=>exCount x+exCounts r
end
def exGiven (x:Ex):Nat:=if noEx x then 0 else exCount x
mutual
def stCount:St→Nat
 |.mk _ _ _ x y _ body _ els=>1+(exGiven x+(exGiven y+(stCounts body+stCounts els)))
def stCounts:List St→Nat
 |[]=>0
 |s::r=>stCount s+stCounts r
end
def itemsOf (p:Pr):Nat:=(p.fs.map fun f=>stCounts f.body).sum+(p.ts.map fun t=>stCounts t.l).sum
mutual
def stText:St→List UInt8→List UInt8
 |.mk k nm t x y _ body _ els,ind=>
  if k=1 then ([118,97,114,32]++(nm++[32]))++(tyText t++((if noEx x then [] else [32,61,32]++exText x)++[59]))
  else if k=2 then exText x++([32,61,32]++(exText y++[59]))
  else if k=3 then [105,102,32]++(exText x++([32]++(([123,10]++(stTexts body (ind++[32,32])++(ind++[125])))++(if els.isEmpty then [] else [32,101,108,115,101,32]++([123,10]++(stTexts els (ind++[32,32])++(ind++[125])))))))
  else if k=4 then [119,104,105,108,101,32]++(exText x++([32]++([123,10]++(stTexts body (ind++[32,32])++(ind++[125])))))
  else if k=5 then [97,116,111,109,105,99,32]++([123,10]++(stTexts body (ind++[32,32])++(ind++[125])))
  else if k=6 then [112,114,105,110,116,32]++(exText x++[59])
  else if k=7 then [114,101,116,117,114,110]++((if noEx x then [] else [32]++exText x)++[59])
  else exText x++[59]
def stTexts:List St→List UInt8→List UInt8
 |[],_=>[]
 |s::r,ind=>ind++(stText s ind++([10]++stTexts r ind))
end
def blockText (l:List St) (ind:List UInt8):List UInt8:=[123,10]++(stTexts l (ind++[32,32])++(ind++[125]))
def flText (f:Fl):List UInt8:=(f.nm++[32])++tyText f.t
def flsText (sep:List UInt8) (l:List Fl):List UInt8:=joined sep (l.map flText)
def reText (r:Re):List UInt8:=([114,101,99,111,114,100,32]++(r.nm++[32,123,10,32,32]))++(flsText [59,10,32,32] r.fs++[59,10,125,10])
def shText (f:Fl):List UInt8:=[115,104,97,114,101,100,32]++(flText f++[59,10])
def fuText (f:Fu):List UInt8:=([102,117,110,99,32]++(f.nm++[40]))++(flsText [44,32] f.ps++([41,32]++((if noTy f.t then [] else tyText f.t++[32])++(blockText f.body []++[10]))))
def thText (t:Th):List UInt8:=[116,104,114,101,97,100,32]++(blockText t.l []++[10])
def prText (p:Pr):List UInt8:=(p.rs.map reText).flatten++((p.ss.map shText).flatten++((p.fs.map fuText).flatten++(p.ts.map thText).flatten))
def showEx (x:Ex):List UInt8×Int:=if exFault x≠0 then ([],exFault x) else if 65536<(exText x).length then ([],3) else (exText x,0)
def showPr (p:Pr):List UInt8×Int:=if (faultOf p).2≠0 then ([],(faultOf p).2) else if 65536<(prText p).length then ([],3) else (prText p,0)
end Go.Proofs.YtkklogikakcanaaGreatDoor
