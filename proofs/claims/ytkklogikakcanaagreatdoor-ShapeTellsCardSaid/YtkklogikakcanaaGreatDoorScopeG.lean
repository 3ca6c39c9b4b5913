import Derived.Test.YtkklogikakcanaaGreatDoorScopeF
import Derived.Test.YtkklogikakcanaaGreatDoorTreeG
import Derived.Test.YtkklogikakcanaaGreatDoorScopePlain
set_option linter.unusedVariables false
set_option linter.unusedSimpArgs false
open List renaming getElem?_toArray → sl7, getElem?_cons_zero → sl8
namespace Go.Proofs.YtkklogikakcanaaGreatDoor
open Go Go.Maps Go.RowKit
mutual
def stGood:St→Prop
 |.mk k nm t x y bd body ed els=>((k=1∨k=7)→noEx x=true∨ExGood x)∧((k=2∨k=3∨k=4∨k=6∨k=8)→ExGood x)∧(k=2→ExGood y)∧stsGood body∧stsGood els
def stsGood:List St→Prop
 |[]=>True
 |s::r=>stGood s∧stsGood r
end
theorem stsGood_mem:∀{l:List St} {s:St},stsGood l→s∈l→stGood s
 |x::r,s,h,hs=>by
  rw[stsGood]at h
  rcases List.mem_cons.1 hs with rfl|hs
  ·exact h.1
  ·exact stsGood_mem h.2 hs
mutual
theorem chkSt_good:∀(s:St) (deep:Nat) (a a':At),chkSt s deep a=.on a'→stGood s
 |.mk k nm t x y bd body ed els,deep,a,a',h=>by
  rw[chkSt]at h
  cases hi:itemC deep a.it with
  |error e=>rw[hi]at h;cases h
  |ok it=>
   rw[hi]at h
   dsimp only at h
   split at h
   ·cases h
   ·split at h
    ·cases h
    ·cases hx:(if k=5∨((k=1∨k=7)∧noEx x=true) then Chk.on ⟨a.p,it⟩ else chkXt x ⟨a.p,it⟩) with
     |bad p e=>rw[hx]at h;cases h
     |on a1=>
      rw[hx]at h
      dsimp only at h
      cases hy:(if k=2 then chkXt y a1 else Chk.on a1) with
      |bad p e=>rw[hy]at h;cases h
      |on a2=>
       rw[hy]at h
       dsimp only at h
       cases hb:chkSts body (deep+1) a2 with
       |bad p e=>rw[hb]at h;cases h
       |on a3=>
        rw[hb]at h
        rw[stGood]
        refine⟨fun hk=>?_,fun hk=>?_,fun hk=>?_,chkSts_good body _ _ _ hb,chkSts_good els _ _ _ h⟩
        ·by_cases hn:noEx x=true
         ·exact Or.inl hn
         ·rw[if_neg (by rintro (h5|h5);omega;exact hn h5.2)]at hx
          obtain⟨m,hm,-⟩:=chkXt_on hx
          exact Or.inr ⟨_,_,_,hm⟩
        ·rw[if_neg (by rintro (h5|h5);omega;omega)]at hx
         obtain⟨m,hm,-⟩:=chkXt_on hx
         exact⟨_,_,_,hm⟩
        ·rw[if_pos hk]at hy
         obtain⟨m,hm,-⟩:=chkXt_on hy
         exact⟨_,_,_,hm⟩
theorem chkSts_good:∀(l:List St) (deep:Nat) (a a':At),chkSts l deep a=.on a'→stsGood l
 |[],_,_,_,_=>by rw[stsGood];trivial
 |s::r,deep,a,a',h=>by
  obtain⟨a1,h1,h2⟩:=chkSts_on h
  rw[stsGood]
  exact⟨chkSt_good s _ _ _ h1,chkSts_good r _ _ _ h2⟩
end
abbrev Kq (Pb:Nat):World→World→Prop:=Kept (fun k=>k=Pb)
structure ScP (B Kb Rb Fb Sb Pb:Nat) (p:Pr) (q:Int) (w:World):Prop where
 sc:ScIs B Kb Rb Fb Sb p w
 num:NumG B w
 pl:PlAt Pb q w
 hB:B≤Pb
 h1:Pb≠Kb
 h2:Pb≠Rb
 h3:Pb≠Fb
 h4:Pb≠Sb
section
variable {B Kb Rb Fb Sb Pb:Nat} {p:Pr} {q q2:Int} {w w':World} {a:Option Addr} {l:Lc}
theorem ScP.blw (h:ScP B Kb Rb Fb Sb Pb p q w) (hk:Kq Pb w w'):Below B w w':=Kept.below hk h.sc.le (fun k hh=>by rw[hh];exact h.hB)
theorem ScP.kept (h:ScP B Kb Rb Fb Sb Pb p q w) (hk:Kq Pb w w') (hp:PlAt Pb q2 w'):ScP B Kb Rb Fb Sb Pb p q2 w':=
 ⟨h.sc.kept hk (fun e=>h.h1 e.symm) (fun e=>h.h2 e.symm) (fun e=>h.h3 e.symm) (fun e=>h.h4 e.symm) (fun k hh=>by rw[hh];exact h.hB),h.num.keep (h.blw hk),hp,h.hB,h.h1,h.h2,h.h3,h.h4⟩
theorem ScP.below (h:ScP B Kb Rb Fb Sb Pb p q w) (hb:Below w.heap.size w w'):ScP B Kb Rb Fb Sb Pb p q w':=h.kept (Kept.of_below hb) ((hb.block Pb h.pl.lt).trans h.pl)
theorem ScP.step (h:ScP B Kb Rb Fb Sb Pb p q w):ScP B Kb Rb Fb Sb Pb p (q+1) (w.setCell ⟨Pb,0,none⟩ (.int .i64 (q+1))):=
 h.kept (Kept.setCell (S:=fun k=>k=Pb) (Kept.refl _ _) (p:=⟨Pb,0,none⟩) (Or.inl rfl) _) (h.pl.set (q+1))
theorem ScP.lcs (h:ScP B Kb Rb Fb Sb Pb p q w) (hl:LcAt w a l) (hk:Kq Pb w w'):LcAt w' a l:=LcAt.kept hk (fun k cs fz hc hh=>by
 subst hh
 have h2:=h.pl
 unfold PlAt at h2
 rw[h2]at hc
 simp at hc) hl
theorem ScP.sce (h:ScP B Kb Rb Fb Sb Pb p q w) (hl:LcAt w a l):ScE B Kb Rb Fb Sb p a l w:=⟨h.sc,h.num,hl⟩
end
def QEnds (Pb:Nat) (r:Sc) (e:Ending) (w':World):Prop:=match r with
 |.on q=>e=.returned (.tuple #[])∧PlAt Pb q w'
 |.bad q er=>e=faultS er∧PlAt Pb q w'
def scRest (p:Pr) (l:Lc) (res:Ty) (body els:List St) (a:Int):Sc:=(scSts p l res body a).bind (scSts p l res els)
section
variable {p:Pr} {l:Lc} {res:Ty} {k:Int} {nm:List UInt8} {t:Ty} {x y:Ex} {bd:Hd} {body:List St} {ed:Hd} {els r:List St} {a e:Int}
theorem scSts_cons {s:St}:scSts p l res (s::r) a=(scSt p l res s (a+1)).bind (scSts p (lcNext l s) res r):=by
 rw[scSts]
 cases scSt p l res s (a+1)<;>rfl
theorem scSt_bad (h:stOwn p l res (.mk k nm t x y bd body ed els)=e) (he:e≠0):scSt p l res (.mk k nm t x y bd body ed els) a=.bad a e:=by
 rw[scSt,h,if_pos he]
theorem scSt_go (h:stOwn p l res (.mk k nm t x y bd body ed els)=0):scSt p l res (.mk k nm t x y bd body ed els) a=scRest p (lcNext l (.mk k nm t x y bd body ed els)) res body els a:=by
 rw[scSt,h,if_neg (by decide)]
 unfold scRest
 cases scSts p (lcNext l (.mk k nm t x y bd body ed els)) res body a<;>rfl
end
theorem splace_any (Pb:Nat) (p:Int) (w:World) (h:PlAt Pb p w) (h1: -1≤p) (h2:p≤1000000):
  Calls Tryz.prog 80 #[.pointer (some ⟨Pb,0,none⟩)] w fun e w'=>e=.returned (.tuple #[])∧w'=w.setCell ⟨Pb,0,none⟩ (.int .i64 (p+1)):=by
 have c0:=cell_at h 0
 have f0:=frz_at h 0
 simp only[sl7,sl8]at c0
 clear h
 go_enter Tryz.func80,Tryz.ntmps80
 go_wp2
 go_end0
 exact⟨rfl,rfl⟩
abbrev SxS (X6:Nat) (o:Nat) (x:Ex) (Y o2:Nat) (t:Ty) (W:World):Prop:=
 W.cell? ⟨X6,o,none⟩=some (.int .u8 x.k)∧W.cell? ⟨X6,o+1,none⟩=some (.int .i64 x.n)∧W.cell? ⟨X6,o+2,none⟩=some (.string ⟨x.nm.toArray⟩)∧W.cell? ⟨X6,o+3,none⟩=some (.int .u8 x.t.k)∧W.cell? ⟨X6,o+4,none⟩=some (.string ⟨x.t.nm.toArray⟩)∧W.cell? ⟨X6,o+5,none⟩=some (.int .i64 x.t.n)∧W.cell? ⟨X6,o+6,none⟩=some (.slice x.d.a x.args.length x.d.c)∧
 W.cell? ⟨Y,o2,none⟩=some (.int .u8 t.k)∧W.cell? ⟨Y,o2+1,none⟩=some (.string ⟨t.nm.toArray⟩)∧W.cell? ⟨Y,o2+2,none⟩=some (.int .i64 t.n)
theorem SxS.below {X6 o Y o2:Nat} {x:Ex} {t:Ty} {W W':World} (h:SxS X6 o x Y o2 t W) (hb:Below W.heap.size W W'):SxS X6 o x Y o2 t W':=by
 obtain⟨h0,h1,h2,h3,h4,h5,h6,h7,h8,h9⟩:=h
 exact⟨(hb.cell (World.block_lt_of_cell? _ _ h0)).trans h0,(hb.cell (World.block_lt_of_cell? _ _ h1)).trans h1,(hb.cell (World.block_lt_of_cell? _ _ h2)).trans h2,(hb.cell (World.block_lt_of_cell? _ _ h3)).trans h3,
  (hb.cell (World.block_lt_of_cell? _ _ h4)).trans h4,(hb.cell (World.block_lt_of_cell? _ _ h5)).trans h5,(hb.cell (World.block_lt_of_cell? _ _ h6)).trans h6,(hb.cell (World.block_lt_of_cell? _ _ h7)).trans h7,(hb.cell (World.block_lt_of_cell? _ _ h8)).trans h8,(hb.cell (World.block_lt_of_cell? _ _ h9)).trans h9⟩
abbrev NxS (X6:Nat) (x:Ex) (W:World):Prop:=
 W.cell? ⟨X6,5,none⟩=some (.int .u8 x.k)∧W.cell? ⟨X6,6,none⟩=some (.int .i64 x.n)∧W.cell? ⟨X6,7,none⟩=some (.string ⟨x.nm.toArray⟩)∧W.cell? ⟨X6,8,none⟩=some (.int .u8 x.t.k)∧W.cell? ⟨X6,9,none⟩=some (.string ⟨x.t.nm.toArray⟩)∧W.cell? ⟨X6,10,none⟩=some (.int .i64 x.t.n)∧W.cell? ⟨X6,11,none⟩=some (.slice x.d.a x.args.length x.d.c)∧
 W.cell? ⟨0,0,none⟩=some (.int .u8 1)∧W.cell? ⟨0,1,none⟩=some (.string ⟨([]:List UInt8).toArray⟩)∧W.cell? ⟨0,2,none⟩=some (.int .i64 0)∧W.cell? ⟨0,3,none⟩=some (.bool false)
theorem NxS.below {X6:Nat} {x:Ex} {W W':World} (h:NxS X6 x W) (hb:Below W.heap.size W W'):NxS X6 x W':=by
 obtain⟨h0,h1,h2,h3,h4,h5,h6,h7,h8,h9,h10⟩:=h
 exact⟨(hb.cell (World.block_lt_of_cell? _ _ h0)).trans h0,(hb.cell (World.block_lt_of_cell? _ _ h1)).trans h1,(hb.cell (World.block_lt_of_cell? _ _ h2)).trans h2,(hb.cell (World.block_lt_of_cell? _ _ h3)).trans h3,
  (hb.cell (World.block_lt_of_cell? _ _ h4)).trans h4,(hb.cell (World.block_lt_of_cell? _ _ h5)).trans h5,(hb.cell (World.block_lt_of_cell? _ _ h6)).trans h6,(hb.cell (World.block_lt_of_cell? _ _ h7)).trans h7,(hb.cell (World.block_lt_of_cell? _ _ h8)).trans h8,(hb.cell (World.block_lt_of_cell? _ _ h9)).trans h9,(hb.cell (World.block_lt_of_cell? _ _ h10)).trans h10⟩
end Go.Proofs.YtkklogikakcanaaGreatDoor
namespace Go.Proofs.YtkklogikakcanaaGreatDoor
open Go Go.Maps Go.RowKit
def metG (met:List (List UInt8)) (nm:List UInt8):Option Nat:=if nm∈met then some 1 else none
def MetAt (w:World) (m n:Nat) (met:List (List UInt8)):Prop:=ValMap Tryz.prog 9 w m n (intF (metG met))
theorem metG_step (nm:List UInt8) (met:List (List UInt8)) (y:Lit):updL (.string nm) (.int .i64 1) (intF (metG met)) y=intF (metG (nm::met)) y:=by
 unfold intF
 rw[updL_nm]
 congr 1
 funext k
 unfold metG
 by_cases h:k=nm
 ·subst h;simp
 ·by_cases h2:k∈met
  ·simp[h,h2]
  ·simp[h,h2]
theorem Kept.grown {w w':World} {m:Nat} (hg:w.grownBy w' (some m)):Kept (fun k=>k=m) w w':=
 ⟨hg.os,hg.tape,hg.output,hg.size,fun k hk hs=>hg.block k hk (fun e=>hs (by cases e;rfl))⟩
theorem met_first (P:Program) (w:World):ValMap P 9 (w.alloc (.map #[] 0)) w.heap.size 0 (intF (metG [])):=(ValMap.made P _ w).congr fun l=>by
 unfold intF nmL metG
 cases l<;>first|rfl|(simp;done)
section
variable {w:World} {m n:Nat} {met:List (List UInt8)} {nm:List UInt8}
theorem met_look {f:List UInt8→Option Nat} (h:ValMap Tryz.prog 9 w m n (intF f)) (hl:lenOk nm.length):
  (Instr.lookup 168 (.map (some m)) (.string ⟨nm.toArray⟩) false).run Tryz.prog w=.ok (.int .i64 (((f nm).getD 0:Nat):Int)) w:=by
 have:=ValMap.look1 h strK Tryz.underlying168 (z:=.int .i64 0) (by kernel_rfl) (str_key hl)
 rw[this]
 unfold intF nmL
 dsimp only
 cases f nm<;>rfl
theorem met_new (h:MetAt w m n met) (hn:n<maxLen) (hl:lenOk nm.length) (hx:nm∉met):
  (Instr.lookup 168 (.map (some m)) (.string ⟨nm.toArray⟩) false).run Tryz.prog w=.ok (.int .i64 0) w∧
  ∃w2,(Instr.mapUpdate 168 (.map (some m)) (.string ⟨nm.toArray⟩) (.int .i64 1)).run Tryz.prog w=.ok () w2∧
   (Instr.lookup 168 (.map (some m)) (.string ⟨nm.toArray⟩) false).run Tryz.prog w2=.ok (.int .i64 1) w2∧MetAt w2 m (n+1) (nm::met)∧Kept (fun k=>k=m) w w2:=by
 have h1:=met_look h hl
 have e1:metG met nm=none:=if_neg hx
 rw[e1]at h1
 refine⟨h1,?_⟩
 obtain⟨w2,r2,m2,g2⟩:=ValMap.put h strK Tryz.underlying168 hn (v:=.int .i64 1) (str_key hl)
 have m3:MetAt w2 m (n+1) (nm::met):=m2.congr (metG_step nm met)
 have h2:=met_look m3 hl
 have e2:metG (nm::met) nm=some 1:=if_pos (by simp)
 rw[e2]at h2
 exact⟨w2,r2,h2,m3,Kept.grown g2⟩
theorem met_old (h:MetAt w m n met) (hn:n<maxLen) (hl:lenOk nm.length) (hx:nm∈met):
  (Instr.lookup 168 (.map (some m)) (.string ⟨nm.toArray⟩) false).run Tryz.prog w=.ok (.int .i64 1) w∧
  ∃w2,(Instr.mapUpdate 168 (.map (some m)) (.string ⟨nm.toArray⟩) (.int .i64 2)).run Tryz.prog w=.ok () w2∧
   (Instr.lookup 168 (.map (some m)) (.string ⟨nm.toArray⟩) false).run Tryz.prog w2=.ok (.int .i64 2) w2∧Kept (fun k=>k=m) w w2:=by
 have h1:=met_look h hl
 have e1:metG met nm=some 1:=if_pos hx
 rw[e1]at h1
 refine⟨h1,?_⟩
 obtain⟨w2,r2,m2,g2⟩:=ValMap.put h strK Tryz.underlying168 hn (v:=.int .i64 2) (str_key hl)
 have h2:=ValMap.look1 m2 strK Tryz.underlying168 (z:=.int .i64 0) (by kernel_rfl) (str_key hl)
 rw[updL_same]at h2
 exact⟨w2,r2,h2,Kept.grown g2⟩
end
def DeEnds (m n:Nat) (met:List (List UInt8)) (nm:List UInt8) (e:Ending) (w':World):Prop:=
 (nm∈met∧e=faultS 8)∨(nm∉met∧e=.returned (.tuple #[])∧MetAt w' m (n+1) (nm::met))
set_option maxHeartbeats 4000000 in
theorem declare_any (m n c:Nat) (met:List (List UInt8)) (nm:List UInt8) (w:World) (h:MetAt w m n met) (hn:n<maxLen) (hl:lenOk nm.length) (hc:w.heap[c]? =some (.cells #[.map (some m)] 168 (0,0))) (hcm:c≠m):
  Calls Tryz.prog 115 #[.string ⟨nm.toArray⟩,.pointer (some ⟨c,0,none⟩)] w fun e w'=>DeEnds m n met nm e w'∧Kept (fun k=>k=m) w w':=by
 have c0:=cell_at hc 0
 simp only[sl7,sl8]at c0
 by_cases hx:nm∈met
 ·obtain⟨l1,w2,r2,l2,k2⟩:=met_old h hn hl hx
  have d0:=cell_at ((k2.block c (lt_blk hc) hcm).trans hc) 0
  simp only[sl7,sl8]at d0
  have HK:=Lib.hid k2
  clear k2 h hn hl hc hcm
  go_enter Tryz.func115,Tryz.ntmps115
  go_wp2_with fail
  refine (swant_no 8 _).mono ?_
  rintro e w99 ⟨rfl,rfl⟩
  exact⟨rfl,Or.inl ⟨hx,rfl⟩,HK.out⟩
 ·obtain⟨l1,w2,r2,l2,m2,k2⟩:=met_new h hn hl hx
  have d0:=cell_at ((k2.block c (lt_blk hc) hcm).trans hc) 0
  simp only[sl7,sl8]at d0
  have HK:=Lib.hid k2
  have HM:=Lib.hid m2
  clear k2 m2 h hn hl hc hcm
  go_enter Tryz.func115,Tryz.ntmps115
  go_wp2_with fail
  refine (swant_yes 8 _).mono ?_
  rintro e w99 ⟨rfl,rfl⟩
  go_wp2_with fail
  go_end0
  exact⟨Or.inr ⟨hx,rfl,HM.out⟩,HK.out⟩
structure PgS (B Kb Rb Fb Sb Pb m c:Nat) (p:Pr) (q:Int) (n:Nat) (met:List (List UInt8)) (w0 W:World):Prop where
 sp0:∃q0,ScP B Kb Rb Fb Sb Pb p q0 w0
 hk:Kq Pb w0 W
 pl:PlAt Pb q W
 me:MetAt W m n met
 hc:W.heap[c]? =some (.cells #[.map (some m)] 168 (0,0))
 hm:m≠Pb
 hcP:c≠Pb
 hcm:c≠m
 h0m:w0.heap.size≤m
section
variable {B Kb Rb Fb Sb Pb m c n:Nat} {p:Pr} {q q2:Int} {met met2:List (List UInt8)} {w0 W W':World}
theorem PgS.sp (h:PgS B Kb Rb Fb Sb Pb m c p q n met w0 W):ScP B Kb Rb Fb Sb Pb p q W:=by
 obtain⟨q0,hs⟩:=h.sp0
 exact hs.kept h.hk h.pl
theorem PgS.kept (h:PgS B Kb Rb Fb Sb Pb m c p q n met w0 W) (hk:Kq Pb W W') (hp:PlAt Pb q2 W'):PgS B Kb Rb Fb Sb Pb m c p q2 n met w0 W':=
 ⟨h.sp0,h.hk.trans hk,hp,ValMap.of_block h.me (hk.block m (ValMap.lt h.me) h.hm),(hk.block c (lt_blk h.hc) h.hcP).trans h.hc,h.hm,h.hcP,h.hcm,h.h0m⟩
theorem PgS.below (h:PgS B Kb Rb Fb Sb Pb m c p q n met w0 W) (hb:Below W.heap.size W W'):PgS B Kb Rb Fb Sb Pb m c p q n met w0 W':=h.kept (Kept.of_below hb) ((hb.block Pb h.pl.lt).trans h.pl)
theorem PgS.step (h:PgS B Kb Rb Fb Sb Pb m c p q n met w0 W):PgS B Kb Rb Fb Sb Pb m c p (q+1) n met w0 (W.setCell ⟨Pb,0,none⟩ (.int .i64 (q+1))):=
 h.kept (Kept.setCell (S:=fun k=>k=Pb) (Kept.refl _ _) (p:=⟨Pb,0,none⟩) (Or.inl rfl) _) (h.pl.set (q+1))
theorem PgS.put {n2:Nat} (h:PgS B Kb Rb Fb Sb Pb m c p q n met w0 W) (hk:Kept (fun k=>k=m) W W') (hm:MetAt W' m n2 met2):PgS B Kb Rb Fb Sb Pb m c p q n2 met2 w0 W':=
 ⟨h.sp0,h.hk.new (hk.mono fun k _ e=>Or.inr (by rw[e];exact h.h0m)),(hk.block Pb h.pl.lt (fun e=>h.hm e.symm)).trans h.pl,hm,(hk.block c (lt_blk h.hc) h.hcm).trans h.hc,h.hm,h.hcP,h.hcm,h.h0m⟩
theorem PgS.kq (h:PgS B Kb Rb Fb Sb Pb m c p q n met w0 W) (hk:Kept (fun k=>k=m) W W'):Kq Pb w0 W'∧PlAt Pb q W':=
 ⟨h.hk.new (hk.mono fun k _ e=>Or.inr (by rw[e];exact h.h0m)),(hk.block Pb h.pl.lt (fun e=>h.hm e.symm)).trans h.pl⟩
end
theorem Sc.bind_assoc (c:Sc) (f g:Int→Sc):(c.bind f).bind g=c.bind fun a=>(f a).bind g:=by cases c<;>rfl
end Go.Proofs.YtkklogikakcanaaGreatDoor
