import Derived.Test.YtkklogikakcanaaGreatDoorScopeG
import Derived.Test.YtkklogikakcanaaGreatDoorScopeH
set_option linter.unusedVariables false
set_option linter.unusedSimpArgs false
open List renaming getElem?_toArray → sl7, getElem?_cons_zero → sl8, getElem?_cons_succ → sl9
namespace Go.Proofs.YtkklogikakcanaaGreatDoor
open Go Go.Maps Go.RowKit
theorem qn7b1_2 {P:Prop} (h:P:=by
 obtain rfl:Sc.bad (pj+1) 8=R:=by have h:=hC1.out;rw[if_pos hx]at h;exact h
 have h:=HT7.out.kq hk8
 exact⟨rfl,⟨rfl,h.2⟩,h.1⟩):P:=h
theorem qn7b1_1 {P:Prop} (h:P:=by
 have:=List.drop_eq_getElem_cons hlt
 rw[List.getElem?_eq_getElem hlt]at hs
 injection hs with hs
 rw[this,hs]):P:=h
abbrev K2 (Pb m:Nat):World→World→Prop:=Kept (fun k=>k=Pb∨k=m)
theorem revTake {α β:Type} (f:α→β) (l:List α) (j:Nat) (x:α) (h:l[j]? =some x):((l.take (j+1)).map f).reverse=f x::((l.take j).map f).reverse:=by
 have h2:l.take (j+1)=l.take j++[x]:=by rw[List.take_add_one,h];rfl
 rw[h2];simp
theorem sc_after (p:Pr):scPr p=(scRes p [] p.rs (-1)).bind fun a=>((scShs p (p.rs.map Re.nm).reverse p.ss a).bind (scFus p ((p.ss.map Fl.nm).reverse++(p.rs.map Re.nm).reverse) p.fs)).bind (scThs p p.ts):=by
 unfold scPr scHeads
 rw[Sc.bind_assoc,Sc.bind_assoc]
 congr 1
 funext a
 rw[Sc.bind_assoc]
theorem PgS.other {B Kb Rb Fb Sb Pb m c n:Nat} {p:Pr} {q:Int} {met:List (List UInt8)} {w0 W W':World} {o:Nat} (h:PgS B Kb Rb Fb Sb Pb m c p q n met w0 W) (hk:Kept (fun k=>k=o) W W') (h1:o≠Pb) (h2:o≠m) (h3:o≠c) (h4:w0.heap.size≤o):PgS B Kb Rb Fb Sb Pb m c p q n met w0 W':=
 ⟨h.sp0,h.hk.new (hk.mono fun k _ e=>Or.inr (by rw[e];exact h4)),(hk.block Pb h.pl.lt (fun e=>h1 e.symm)).trans h.pl,ValMap.of_block h.me (hk.block m (ValMap.lt h.me) (fun e=>h2 e.symm)),(hk.block c (lt_blk h.hc) (fun e=>h3 e.symm)).trans h.hc,h.hm,h.hcP,h.hcm,h.h0m⟩
theorem scGs {B Kb Rb Fb Sb:Nat} {p:Pr} {W:World} (h:ScIs B Kb Rb Fb Sb p W):W.cell? ⟨Kb,0,none⟩=some (.slice p.rd.a p.rs.length p.rd.c)∧W.cell? ⟨Kb,1,none⟩=some (.slice p.sd.a p.ss.length p.sd.c)∧W.cell? ⟨Kb,2,none⟩=some (.slice p.fd.a p.fs.length p.fd.c)∧W.cell? ⟨Kb,3,none⟩=some (.slice p.td.a p.ts.length p.td.c):=
 ⟨cell_at h.k 0,cell_at h.k 1,cell_at h.k 2,cell_at h.k 3⟩
def afterRs (p:Pr) (a:Int):Sc:=((scShs p (p.rs.map Re.nm).reverse p.ss a).bind (scFus p ((p.ss.map Fl.nm).reverse++(p.rs.map Re.nm).reverse) p.fs)).bind (scThs p p.ts)
def afterSs (p:Pr) (a:Int):Sc:=(scFus p ((p.ss.map Fl.nm).reverse++(p.rs.map Re.nm).reverse) p.fs a).bind (scThs p p.ts)
theorem afterRs_ss (p:Pr) (a:Int):afterRs p a=(scShs p (p.rs.map Re.nm).reverse p.ss a).bind (afterSs p):=by
 unfold afterRs afterSs
 rw[Sc.bind_assoc]
def fuN (l:List Fu):Nat:=l.length+(l.map fun f=>plSts f.body).sum
def thN (l:List Th):Nat:=l.length+(l.map fun t=>plSts t.l).sum
theorem fuN_cons (f:Fu) (l:List Fu):fuN (f::l)=1+plSts f.body+fuN l:=by unfold fuN;simp;omega
theorem thN_cons (f:Th) (l:List Th):thN (f::l)=1+plSts f.l+thN l:=by unfold thN;simp;omega
theorem places_n (p:Pr):placesOf p=p.rs.length+p.ss.length+fuN p.fs+thN p.ts:=by unfold placesOf fuN thN;omega
set_option maxHeartbeats 40000000 in
set_option maxRecDepth 100000 in
theorem scopeProg_any (B Kb Rb Fb Sb Pb:Nat) (p:Pr) (w:World) (hT:ScP B Kb Rb Fb Sb Pb p (-1) w) (hgf:∀f∈p.fs,stsGood f.body) (hgt:∀t∈p.ts,stsGood t.l) (hN:placesOf p≤1000000):
  Calls Tryz.prog 79 #[.pointer (some ⟨Kb,0,none⟩),.func (.func 80) #[] #[.pointer (some ⟨Pb,0,none⟩)]] w
   fun e w'=>QEnds Pb (scPr p) e w'∧Kq Pb w w':=by
 obtain⟨R,hR⟩:∃R,scPr p=R:=⟨_,rfl⟩
 rw[hR]
 have HR:=Lib.hid hR
 have HGf:=Lib.hid hgf
 have HGt:=Lib.hid hgt
 have HNn:Hid (p.rs.length+p.ss.length+p.fs.length+p.ts.length+((p.fs.map fun f=>plSts f.body).sum+(p.ts.map fun t=>plSts t.l).sum)≤1000000):=Lib.hid hN
 have HNp:Hid (p.rs.length+p.ss.length+fuN p.fs+thN p.ts≤1000000∧p.fs.length≤fuN p.fs∧p.ts.length≤thN p.ts):=Lib.hid ⟨by rw[←places_n];exact hN,Nat.le_add_right _ _,Nat.le_add_right _ _⟩
 have hmk:=run_makeMap_plain (P:=Tryz.prog) w 168
 have hmf:∀(fn:Fn) (first cap:Array Value) (w:World),(Instr.makeFunc fn first cap).run Tryz.prog w=.ok (.func fn first cap) w:=fun _ _ _ _=>rfl
 obtain⟨m,hm⟩:∃m,w.heap.size=m:=⟨_,rfl⟩
 obtain⟨c,hc⟩:∃c,c=m+1:=⟨_,rfl⟩
 obtain⟨w1,hw1⟩:∃w1,w.alloc (.map #[] 0)=w1:=⟨_,rfl⟩
 obtain⟨w2,hw2⟩:∃w2,w1.alloc (.cells #[.map (some m)] 168 (0,0))=w2:=⟨_,rfl⟩
 have hs1:w1.heap.size=m+1:=by rw[←hw1,World.size_alloc,hm]
 have hb1:Below w.heap.size w w1:=by rw[←hw1];exact (Below.refl _ _).alloc (Nat.le_refl _) _
 have hb2:Below w1.heap.size w1 w2:=by rw[←hw2];exact (Below.refl _ _).alloc (Nat.le_refl _) _
 have m1:MetAt w1 m 0 []:=by rw[←hw1,←hm];exact met_first _ w
 have c2:w2.heap[c]? =some (.cells #[.map (some m)] 168 (0,0)):=by rw[hc,←hw2,←hs1];exact heap_alloc_new w1 _
 have hPl:=hT.pl.lt
 have HT2:Hid (PgS B Kb Rb Fb Sb Pb m c p (-1) 0 [] w w2):=Lib.hid ⟨⟨_,hT⟩,Kept.of_below (hb1.trans (hb2.mono hb1.size)),((hb1.trans (hb2.mono hb1.size)).block Pb hPl).trans hT.pl,ValMap.of_block m1 (hb2.block m (by omega)),c2,by omega,by omega,by omega,by omega⟩
 have HN2:Hid (w.heap.size=m∧m+1=c∧(w.alloc (.map #[] 0)).alloc (.cells #[.map (some m)] 168 (0,0))=w2):=Lib.hid ⟨hm,hc.symm,by rw[hw1,hw2]⟩
 obtain⟨k0,k1,k2,k3⟩:=scGs HT2.out.sp.sc
 rw[←hw2,←hw1]at k0
 clear hR hgf hgt hN hb1 hb2 m1 c2 hPl hT hs1 hw2 k1 k2 k3 hc hw1
 go_enter Tryz.func79,Tryz.ntmps79
 go_wp2_with fail
 simp only[HN2.out.1,HN2.out.2.1,HN2.out.2.2]
 clear k0
 go_loopw [30] (fun ii wr=>∃(j:Nat),ii=.int .i64 j∧j≤p.rs.length∧Hid (PgS B Kb Rb Fb Sb Pb m c p ((j:Int) - 1) j ((p.rs.take j).map Re.nm).reverse w wr)∧Hid ((scRes p ((p.rs.take j).map Re.nm).reverse (p.rs.drop j) ((j:Int) - 1)).bind (afterRs p)=R)) (fun ii _=>p.rs.length - (intOf ii).toNat)
 case atStart=>exact⟨0,rfl,Nat.zero_le _,HT2,Lib.hid (by rw[List.drop_zero,←HR.out,sc_after];rfl)⟩
 case round=>
  obtain⟨j,rfl,hj,hT,hC⟩:=hrel
  clear HT2
  have p2:(0:Int)≤(j:Int):=Int.natCast_nonneg _
  by_cases hlt:j<p.rs.length
  ·obtain⟨s,hs⟩:∃s,p.rs[j]? =some s:=⟨_,List.getElem?_eq_getElem hlt⟩
   have hdrop:p.rs.drop j=s::p.rs.drop (j+1):=by
    exact qn7b1_1
   have hIr:=hT.out.sp.sc.inn
   obtain⟨rb,ro,hda,hrb,hrow⟩:=hIr.rrow (by intro h0;rw[h0]at hlt;simp at hlt)
   have hsa:=hrow j s hs
   have hsI:=Lib.hid (hIr.rsub s (List.mem_of_getElem? hs))
   have HMem:=Lib.hid (List.mem_of_getElem? hs)
   have hC1:=Lib.hid hC.out
   rw[hdrop,scRes]at hC1
   have HRt:=Lib.hid (revTake Re.nm p.rs j s hs)
   obtain⟨nm,d,fs⟩:=s
   obtain⟨z0,z1⟩:=hsa
   dsimp only at z0 z1 hC1
   obtain⟨met,hmet⟩:∃met,((p.rs.take j).map Re.nm).reverse=met:=⟨_,rfl⟩
   rw[hmet]at hC1 hT HRt
   obtain⟨pj,hpj⟩:∃pj,pj=(j:Int) - 1:=⟨_,rfl⟩
   rw[←hpj]at hC1 hT
   have HPj:Hid (-1≤pj∧pj≤999999∧pj=(j:Int) - 1):=Lib.hid ⟨by omega,by have:=HNn.out;omega,hpj⟩
   clear hmet hpj
   obtain⟨X6,hX6⟩:∃X6,wr.heap.size=X6:=⟨_,rfl⟩
   obtain⟨w6,hw6⟩:∃w6,wr.alloc (.cells #[.string ⟨nm.toArray⟩,.slice d.a fs.length d.c] 58 (0,0))=w6:=⟨_,rfl⟩
   have hb6:Below wr.heap.size wr w6:=by rw[←hw6];exact (Below.refl _ _).alloc (Nat.le_refl _) _
   have x6:w6.heap[X6]? =some (.cells #[.string ⟨nm.toArray⟩,.slice d.a fs.length d.c] 58 (0,0)):=by rw[←hw6,←hX6];exact heap_alloc_new wr _
   have HT6:=Lib.hid (hT.out.below hb6)
   have hlp:=hT.out.pl.lt
   have hlm:=ValMap.lt hT.out.me
   have HRow:Hid (∀W,K2 Pb m w6 W→W.heap[X6]? =some (.cells #[.string ⟨nm.toArray⟩,.slice d.a fs.length d.c] 58 (0,0))):=
    Lib.hid fun W hk=>(hk.block X6 (lt_blk x6) (fun hh=>by rcases hh with hh|hh<;>omega)).trans x6
   have HNm:=Lib.hid (And.intro hX6 hw6)
   clear hb6 x6 hX6 hw6 hlp hlm hT
   have p1:(j:Int)<(p.rs.length:Int):=by omega
   have HLt:=Lib.hid hlt
   clear hrow hIr hdrop hs hC hlt
   rw[hda]
   go_wp2_with fail
   simp only[HNm.out.1,HNm.out.2]
   refine (splace_any Pb pj w6 HT6.out.pl (by have:=HPj.out;omega) (by have:=HPj.out;omega)).mono ?_
   rintro e w7 ⟨rfl,hw7⟩
   have HT7:Hid (PgS B Kb Rb Fb Sb Pb m c p (pj+1) j met w w7):=Lib.hid (by rw[hw7];exact HT6.out.step)
   have HK7:Hid (K2 Pb m w6 w7):=Lib.hid (by rw[hw7];exact Kept.setCell (S:=fun k=>k=Pb∨k=m) (Kept.refl _ _) (p:=⟨Pb,0,none⟩) (Or.inl (Or.inl rfl)) _)
   clear hw7 HT6
   have row:=HRow.out _ HK7.out
   have r0:=cell_at row 0
   have r1:=cell_at row 1
   simp only[sl7,sl8,sl9]at r0 r1
   clear row
   go_wp2_with fail
   refine (declare_any m j c met nm w7 HT7.out.me (by have:=HPj.out;have:=HNn.out;unfold maxLen;omega) hsI.out.nm HT7.out.hc HT7.out.hcm).mono ?_
   rintro e w8 ⟨hE,hk8⟩
   rcases hE with ⟨hx,rfl⟩|⟨hx,rfl,hm8⟩
   ·exact qn7b1_2
   rw[if_neg hx]at hC1
   have HT8:=Lib.hid (HT7.out.put hk8 hm8)
   have HK8:Hid (K2 Pb m w6 w8):=Lib.hid (HK7.out.trans (hk8.mono fun k _ e=>Or.inr e))
   clear hk8 hm8 hx HT7 HK7
   obtain⟨o,ho⟩:∃o,w8.heap.size=o:=⟨_,rfl⟩
   obtain⟨w9,hw9⟩:∃w9,w8.alloc (.map #[] 0)=w9:=⟨_,rfl⟩
   have hb9:Below w8.heap.size w8 w9:=by rw[←hw9];exact (Below.refl _ _).alloc (Nat.le_refl _) _
   have m9:MetAt w9 o 0 []:=by rw[←hw9,←ho];exact met_first _ w8
   have HT9:=Lib.hid (HT8.out.below hb9)
   have HM9:Hid (MetAt w9 o 0 ((fs.take 0).map Fl.nm).reverse):=Lib.hid m9
   have HO:Hid (o≠Pb∧o≠m∧o≠c∧w.heap.size≤o):=Lib.hid (by
    have h1:=HT8.out.pl.lt
    have h2:=ValMap.lt HT8.out.me
    have h3:=lt_blk HT8.out.hc
    have h4:=HT8.out.h0m
    omega)
   clear r0 r1
   have row:=HRow.out _ (HK8.out.trans (Kept.of_below hb9))
   have r1:=cell_at row 1
   simp only[sl7,sl8,sl9]at r1
   rw[←hw9]at r1
   have HN9:=Lib.hid (And.intro ho hw9)
   clear row hb9 m9 ho hw9 HT8 HK8
   have hmk8:=run_makeMap_plain (P:=Tryz.prog) w8 168
   go_wp2_with fail
   simp only[HN9.out.1,HN9.out.2]
   clear r1
   go_loopw [44] (fun i2 wr2=>∃(j2:Nat),i2=.int .i64 j2∧j2≤fs.length∧Hid (PgS B Kb Rb Fb Sb Pb m c p (pj+1) (j+1) (nm::met) w wr2)∧Hid (MetAt wr2 o j2 ((fs.take j2).map Fl.nm).reverse)∧Hid ((if scFds p ((fs.take j2).map Fl.nm).reverse (fs.drop j2)≠0 then Sc.bad (pj+1) (scFds p ((fs.take j2).map Fl.nm).reverse (fs.drop j2)) else scRes p (nm::met) (p.rs.drop (j+1)) (pj+1)).bind (afterRs p)=R)) (fun i2 _=>fs.length - (intOf i2).toNat)
   case atStart=>exact⟨0,rfl,Nat.zero_le _,HT9,HM9,hC1⟩
   case round=>
    obtain⟨j2,rfl,hj2,hT,hM,hC⟩:=hrel
    clear HT9 HM9 hC1
    have p3:(0:Int)≤(j2:Int):=Int.natCast_nonneg _
    by_cases hlt:j2<fs.length
    ·obtain⟨s,hs⟩:∃s,fs[j2]? =some s:=⟨_,List.getElem?_eq_getElem hlt⟩
     have hdrop:fs.drop j2=s::fs.drop (j2+1):=by
      exact qn7b1_1
     have hFs:=(hT.out.sp.sc.inn.rsub _ HMem.out).fs
     obtain⟨rb2,ro2,hda2,hrb2,hrow⟩:=hFs.row (by intro h0;dsimp only at h0;rw[h0]at hlt;simp at hlt)
     have hsa:=hrow j2 s hs
     have hsI2:=Lib.hid (hFs.sub s (List.mem_of_getElem? hs))
     have hC1:=Lib.hid hC.out
     rw[hdrop,scFds]at hC1
     have HRt2:=Lib.hid (revTake Fl.nm fs j2 s hs)
     have HL2:Hid ((j2:Int)≤140737488355328):=Lib.hid (by have h:=hFs.len;unfold lenOk at h;dsimp only at h;omega)
     obtain⟨fnm,ft⟩:=s
     obtain⟨z0,z1,z2,z3⟩:=hsa
     dsimp only at z0 z1 z2 z3 hC1 hda2
     obtain⟨met2,hmet⟩:∃met2,((fs.take j2).map Fl.nm).reverse=met2:=⟨_,rfl⟩
     rw[hmet]at hC1 hM HRt2
     obtain⟨X7,hX7⟩:∃X7,wr.heap.size=X7:=⟨_,rfl⟩
     obtain⟨w7,hw7⟩:∃w7,wr.alloc (.cells #[.string ⟨fnm.toArray⟩,.int .u8 ft.k,.string ⟨ft.nm.toArray⟩,.int .i64 ft.n] 93 (0,0))=w7:=⟨_,rfl⟩
     have hb7:Below wr.heap.size wr w7:=by rw[←hw7];exact (Below.refl _ _).alloc (Nat.le_refl _) _
     have x7:w7.heap[X7]? =some (.cells #[.string ⟨fnm.toArray⟩,.int .u8 ft.k,.string ⟨ft.nm.toArray⟩,.int .i64 ft.n] 93 (0,0)):=by rw[←hw7,←hX7];exact heap_alloc_new wr _
     have HT7:=Lib.hid (hT.out.below hb7)
     have m7:MetAt w7 o j2 met2:=ValMap.of_block hM.out (hb7.block _ (ValMap.lt hM.out))
     have hlo:=ValMap.lt hM.out
     have HRow:Hid (∀W,Kept (fun k=>k=o) w7 W→W.heap[X7]? =some (.cells #[.string ⟨fnm.toArray⟩,.int .u8 ft.k,.string ⟨ft.nm.toArray⟩,.int .i64 ft.n] 93 (0,0))):=
      Lib.hid fun W hk=>(hk.block X7 (lt_blk x7) (fun hh=>by omega)).trans x7
     have HNm:=Lib.hid (And.intro hX7 hw7)
     have p1:(j2:Int)<(fs.length:Int):=by omega
     have HLt2:=Lib.hid hlt
     have y0:=cell_at x7 0
     simp only[sl7,sl8,sl9]at y0
     clear hrow hFs hdrop hs hC hlt hT hM hmet hb7 x7 hlo
     rw[hda2]
     by_cases hx:fnm∈met2
     ·obtain rfl:Sc.bad (pj+1) 8=R:=by have h:=hC1.out;rw[if_pos hx,if_pos (by decide)]at h;exact h
      obtain⟨l1,w8,r8,l8,k8⟩:=met_old m7 (by have:=HL2.out;unfold maxLen;omega) hsI2.out.nm hx
      have HT8:=Lib.hid (HT7.out.other k8 HO.out.1 HO.out.2.1 HO.out.2.2.1 HO.out.2.2.2)
      have row:=HRow.out _ k8
      have r0:=cell_at row 0
      simp only[sl7,sl8,sl9]at r0
      rw[←hw7]at l1 r8 y0
      rw[←hX7]at y0 r0
      clear row k8 hx m7 hX7 hw7
      go_wp2_with fail
      refine (swant_no 8 _).mono ?_
      rintro e w99 ⟨rfl,rfl⟩
      exact⟨rfl,⟨rfl,HT8.out.pl⟩,HT8.out.hk⟩
     rw[if_neg hx]at hC1
     obtain⟨l1,w8,r8,l8,m8,k8⟩:=met_new m7 (by have:=HL2.out;unfold maxLen;omega) hsI2.out.nm hx
     have HT8:=Lib.hid (HT7.out.other k8 HO.out.1 HO.out.2.1 HO.out.2.2.1 HO.out.2.2.2)
     have HM8:=Lib.hid m8
     have row:=HRow.out _ k8
     have r0:=cell_at row 0
     have r1:=cell_at row 1
     have r2:=cell_at row 2
     have r3:=cell_at row 3
     simp only[sl7,sl8,sl9]at r0 r1 r2 r3
     rw[←hw7]at l1 r8 y0
     rw[←hX7]at y0 r0 r1 r2 r3
     clear row k8 hx m7 m8 hX7 hw7
     go_wp2_with fail
     refine (swant_yes 8 _).mono ?_
     rintro e w99 ⟨rfl,rfl⟩
     go_wp2_with fail
     refine (sknown_any B Kb Rb Fb Sb p ft w8 HT8.out.sp.sc hsI2.out.t.nm).mono ?_
     rintro e w9 ⟨hE,hb9⟩
     cases hkn:knownT p ft with
     |false=>
      rw[hkn]at hE
      obtain rfl:e=faultS 9:=hE
      obtain rfl:Sc.bad (pj+1) 9=R:=by have h:=hC1.out;rw[if_pos hkn,if_pos (by decide)]at h;exact h
      exact⟨rfl,⟨rfl,(HT8.out.below hb9).pl⟩,(HT8.out.below hb9).hk⟩
     |true=>
     rw[hkn]at hE
     obtain rfl:e=.returned (.tuple #[]):=hE
     have HT9:=Lib.hid (HT8.out.below hb9)
     have HM9:Hid (MetAt w9 o (j2+1) ((fs.take (j2+1)).map Fl.nm).reverse):=Lib.hid (by rw[HRt2.out];exact ValMap.of_block HM8.out (hb9.block _ (ValMap.lt HM8.out)))
     rw[if_neg (show ¬knownT p ft=false by rw[hkn];decide)]at hC1
     have HC9:Hid ((if scFds p ((fs.take (j2+1)).map Fl.nm).reverse (fs.drop (j2+1))≠0 then Sc.bad (pj+1) (scFds p ((fs.take (j2+1)).map Fl.nm).reverse (fs.drop (j2+1))) else scRes p (nm::met) (p.rs.drop (j+1)) (pj+1)).bind (afterRs p)=R):=Lib.hid (by rw[HRt2.out];exact hC1.out)
     clear hb9 hkn HT8 HM8 hC1 r0 r1 r2 r3 y0 l1 r8 l8
     have p9:=HL2.out
     go_wp2_with fail
     go_roundw
     case rel=>exact⟨j2+1,by go_num,by have:=HLt2.out;omega,HT9,HM9,HC9⟩
     case measure=>have:=HLt2.out;simp[intOf];omega
    ·obtain rfl:j2=fs.length:=by omega
     have HC9:Hid ((scRes p ((p.rs.take (j+1)).map Re.nm).reverse (p.rs.drop (j+1)) (((j+1:Nat):Int) - 1)).bind (afterRs p)=R):=Lib.hid (by
      have h:=hC.out
      rw[List.drop_length,scFds,if_neg (by decide)]at h
      rw[HRt.out,show ((j+1:Nat):Int) - 1=pj+1 by have:=HPj.out;push_cast;omega]
      exact h)
     have HT9:Hid (PgS B Kb Rb Fb Sb Pb m c p (((j+1:Nat):Int) - 1) (j+1) ((p.rs.take (j+1)).map Re.nm).reverse w wr):=Lib.hid (by
      rw[HRt.out,show ((j+1:Nat):Int) - 1=pj+1 by have:=HPj.out;push_cast;omega]
      exact hT.out)
     have p9:(j:Int)≤1000000:=by have:=HPj.out;omega
     clear hT hC hM
     go_wp2_with fail
     go_roundw
     case rel=>exact⟨j+1,by go_num,by have:=HLt.out;omega,HT9,HC9⟩
     case measure=>have:=HLt.out;simp[intOf];omega
  ·obtain rfl:j=p.rs.length:=by omega
   have HC2:Hid (afterRs p ((p.rs.length:Int) - 1)=R):=Lib.hid (by have h:=hC.out;rw[List.drop_length,scRes]at h;exact h)
   have hT2:=hT.out
   rw[List.take_length]at hT2
   have HT2:Hid (PgS B Kb Rb Fb Sb Pb m c p ((p.rs.length:Int) - 1+((0:Nat):Int)) (p.rs.length+0) (((p.ss.take 0).map Fl.nm).reverse++(p.rs.map Re.nm).reverse) w wr):=Lib.hid (by
    rw[show (p.rs.length:Int) - 1+((0:Nat):Int)=(p.rs.length:Int) - 1 by simp];exact hT2)
   obtain⟨k0,k1,k2,k3⟩:=scGs hT2.sp.sc
   clear hT hT2 hC
   go_wp2_with fail
   clear k0 k1 k2 k3
   go_loopw [71] (fun ii wr=>∃(j:Nat),ii=.int .i64 j∧j≤p.ss.length∧Hid (PgS B Kb Rb Fb Sb Pb m c p ((p.rs.length:Int) - 1+(j:Int)) (p.rs.length+j) (((p.ss.take j).map Fl.nm).reverse++(p.rs.map Re.nm).reverse) w wr)∧Hid ((scShs p (((p.ss.take j).map Fl.nm).reverse++(p.rs.map Re.nm).reverse) (p.ss.drop j) ((p.rs.length:Int) - 1+(j:Int))).bind (afterSs p)=R)) (fun ii _=>p.ss.length - (intOf ii).toNat)
   case atStart=>exact⟨0,rfl,Nat.zero_le _,HT2,Lib.hid (by rw[List.drop_zero,show (p.rs.length:Int) - 1+((0:Nat):Int)=(p.rs.length:Int) - 1 by simp,←HC2.out,afterRs_ss];rfl)⟩
   case round=>
    obtain⟨j,rfl,hj,hT,hC⟩:=hrel
    clear HT2 HC2
    have p2:(0:Int)≤(j:Int):=Int.natCast_nonneg _
    by_cases hlt:j<p.ss.length
    ·obtain⟨s,hs⟩:∃s,p.ss[j]? =some s:=⟨_,List.getElem?_eq_getElem hlt⟩
     have hdrop:p.ss.drop j=s::p.ss.drop (j+1):=by
      exact qn7b1_1
     have hIr:=hT.out.sp.sc.inn
     obtain⟨rb,ro,hda,hrb,hrow⟩:=hIr.ss.row (by intro h0;rw[h0]at hlt;simp at hlt)
     have hsa:=hrow j s hs
     have hsI:=Lib.hid (hIr.ss.sub s (List.mem_of_getElem? hs))
     have hC1:=Lib.hid hC.out
     rw[hdrop,scShs]at hC1
     have HRt:Hid (((p.ss.take (j+1)).map Fl.nm).reverse++(p.rs.map Re.nm).reverse=s.nm::(((p.ss.take j).map Fl.nm).reverse++(p.rs.map Re.nm).reverse)):=Lib.hid (by rw[revTake Fl.nm p.ss j s hs];rfl)
     obtain⟨fnm,ft⟩:=s
     obtain⟨z0,z1,z2,z3⟩:=hsa
     dsimp only at z0 z1 z2 z3 hC1
     obtain⟨met,hmet⟩:∃met,((p.ss.take j).map Fl.nm).reverse++(p.rs.map Re.nm).reverse=met:=⟨_,rfl⟩
     rw[hmet]at hC1 hT HRt
     obtain⟨pj,hpj⟩:∃pj,pj=(p.rs.length:Int) - 1+(j:Int):=⟨_,rfl⟩
     rw[←hpj]at hC1 hT
     have HPj:Hid (-1≤pj∧pj≤999999∧pj=(p.rs.length:Int) - 1+(j:Int)):=Lib.hid ⟨by omega,by have:=HNn.out;omega,hpj⟩
     clear hmet hpj
     obtain⟨X6,hX6⟩:∃X6,wr.heap.size=X6:=⟨_,rfl⟩
     obtain⟨w6,hw6⟩:∃w6,wr.alloc (.cells #[.string ⟨fnm.toArray⟩,.int .u8 ft.k,.string ⟨ft.nm.toArray⟩,.int .i64 ft.n] 93 (0,0))=w6:=⟨_,rfl⟩
     have hb6:Below wr.heap.size wr w6:=by rw[←hw6];exact (Below.refl _ _).alloc (Nat.le_refl _) _
     have x6:w6.heap[X6]? =some (.cells #[.string ⟨fnm.toArray⟩,.int .u8 ft.k,.string ⟨ft.nm.toArray⟩,.int .i64 ft.n] 93 (0,0)):=by rw[←hw6,←hX6];exact heap_alloc_new wr _
     have HT6:=Lib.hid (hT.out.below hb6)
     have hlp:=hT.out.pl.lt
     have hlm:=ValMap.lt hT.out.me
     have HRow:Hid (∀W,K2 Pb m w6 W→W.heap[X6]? =some (.cells #[.string ⟨fnm.toArray⟩,.int .u8 ft.k,.string ⟨ft.nm.toArray⟩,.int .i64 ft.n] 93 (0,0))):=
      Lib.hid fun W hk=>(hk.block X6 (lt_blk x6) (fun hh=>by rcases hh with hh|hh<;>omega)).trans x6
     have HNm:=Lib.hid (And.intro hX6 hw6)
     clear hb6 x6 hX6 hw6 hlp hlm hT
     have p1:(j:Int)<(p.ss.length:Int):=by omega
     have HLt:=Lib.hid hlt
     clear hrow hIr hdrop hs hC hlt
     rw[hda]
     go_wp2_with fail
     simp only[HNm.out.1,HNm.out.2]
     refine (splace_any Pb pj w6 HT6.out.pl (by have:=HPj.out;omega) (by have:=HPj.out;omega)).mono ?_
     rintro e w7 ⟨rfl,hw7⟩
     have HT7:Hid (PgS B Kb Rb Fb Sb Pb m c p (pj+1) (p.rs.length+j) met w w7):=Lib.hid (by rw[hw7];exact HT6.out.step)
     have HK7:Hid (K2 Pb m w6 w7):=Lib.hid (by rw[hw7];exact Kept.setCell (S:=fun k=>k=Pb∨k=m) (Kept.refl _ _) (p:=⟨Pb,0,none⟩) (Or.inl (Or.inl rfl)) _)
     clear hw7 HT6
     have row:=HRow.out _ HK7.out
     have r0:=cell_at row 0
     have r1:=cell_at row 1
     have r2:=cell_at row 2
     have r3:=cell_at row 3
     simp only[sl7,sl8,sl9]at r0 r1 r2 r3
     clear row
     go_wp2_with fail
     refine (declare_any m (p.rs.length+j) c met fnm w7 HT7.out.me (by have:=HPj.out;have:=HNn.out;unfold maxLen;omega) hsI.out.nm HT7.out.hc HT7.out.hcm).mono ?_
     rintro e w8 ⟨hE,hk8⟩
     rcases hE with ⟨hx,rfl⟩|⟨hx,rfl,hm8⟩
     ·exact qn7b1_2
     rw[if_neg hx]at hC1
     have HT8:=Lib.hid (HT7.out.put hk8 hm8)
     have HK8:Hid (K2 Pb m w6 w8):=Lib.hid (HK7.out.trans (hk8.mono fun k _ e=>Or.inr e))
     clear hk8 hm8 hx HT7 HK7
     clear r0 r1 r2 r3
     have row:=HRow.out _ HK8.out
     have r0:=cell_at row 0
     have r1:=cell_at row 1
     have r2:=cell_at row 2
     have r3:=cell_at row 3
     simp only[sl7,sl8,sl9]at r0 r1 r2 r3
     clear row
     go_wp2_with fail
     refine (sknown_any B Kb Rb Fb Sb p ft w8 HT8.out.sp.sc hsI.out.t.nm).mono ?_
     rintro e w9 ⟨hE,hbu⟩
     cases hkn:knownT p ft with
     |false=>
      rw[hkn]at hE
      obtain rfl:e=faultS 9:=hE
      obtain rfl:Sc.bad (pj+1) 9=R:=(by have h:=hC1.out;rw[if_pos hkn]at h;exact h)
      exact⟨rfl,⟨rfl,(HT8.out.below hbu).pl⟩,(HT8.out.below hbu).hk⟩
     |true=>
     rw[hkn]at hE
     obtain rfl:e=.returned (.tuple #[]):=hE
     have HTw9:=Lib.hid (HT8.out.below hbu)
     have HKw9:=Lib.hid (HK8.out.trans (Kept.of_below hbu))
     rw[if_neg (show ¬knownT p ft=false by rw[hkn];decide)]at hC1
     have HT9:Hid (PgS B Kb Rb Fb Sb Pb m c p ((p.rs.length:Int) - 1+((j+1:Nat):Int)) (p.rs.length+(j+1)) (((p.ss.take (j+1)).map Fl.nm).reverse++(p.rs.map Re.nm).reverse) w w9):=Lib.hid (by
      rw[HRt.out,show (p.rs.length:Int) - 1+((j+1:Nat):Int)=pj+1 by have:=HPj.out;push_cast;omega]
      exact HTw9.out)
     have HC9:Hid ((scShs p (((p.ss.take (j+1)).map Fl.nm).reverse++(p.rs.map Re.nm).reverse) (p.ss.drop (j+1)) ((p.rs.length:Int) - 1+((j+1:Nat):Int))).bind (afterSs p)=R):=Lib.hid (by
      rw[HRt.out,show (p.rs.length:Int) - 1+((j+1:Nat):Int)=pj+1 by have:=HPj.out;push_cast;omega]
      exact hC1.out)
     have p9:(j:Int)≤1000000:=by have:=HPj.out;omega
     clear hbu hkn HT8 HK8 hC1 r0 r1 r2 r3
     go_wp2_with fail
     go_roundw
     case rel=>exact⟨j+1,by go_num,by have:=HLt.out;omega,HT9,HC9⟩
     case measure=>have:=HLt.out;simp[intOf];omega
    ·obtain rfl:j=p.ss.length:=by omega
     have HC3:Hid (afterSs p ((p.rs.length:Int) - 1+(p.ss.length:Int))=R):=Lib.hid (by have h:=hC.out;rw[List.drop_length,scShs]at h;exact h)
     have hT3:=hT.out
     rw[List.take_length]at hT3
     have HT3:Hid (PgS B Kb Rb Fb Sb Pb m c p ((p.rs.length:Int) - 1+(p.ss.length:Int)) (p.rs.length+p.ss.length+0) (((p.fs.take 0).map Fu.nm).reverse++((p.ss.map Fl.nm).reverse++(p.rs.map Re.nm).reverse)) w wr):=Lib.hid hT3
     have HP3:Hid (-1≤(p.rs.length:Int) - 1+(p.ss.length:Int)∧(p.rs.length:Int) - 1+(p.ss.length:Int)+(fuN (p.fs.drop 0):Nat)+(thN p.ts:Nat)≤999999):=Lib.hid (by rw[List.drop_zero];have:=HNp.out;omega)
     obtain⟨k0,k1,k2,k3⟩:=scGs hT3.sp.sc
     clear hT hT3 hC
     go_wp2_with fail
     clear k0 k1 k2 k3
     go_loopw [92] (fun ii wr=>∃(j:Nat) (pj:Int),ii=.int .i64 j∧j≤p.fs.length∧Hid (PgS B Kb Rb Fb Sb Pb m c p pj (p.rs.length+p.ss.length+j) (((p.fs.take j).map Fu.nm).reverse++((p.ss.map Fl.nm).reverse++(p.rs.map Re.nm).reverse)) w wr)∧Hid (-1≤pj∧pj+(fuN (p.fs.drop j):Nat)+(thN p.ts:Nat)≤999999)∧Hid ((scFus p (((p.fs.take j).map Fu.nm).reverse++((p.ss.map Fl.nm).reverse++(p.rs.map Re.nm).reverse)) (p.fs.drop j) pj).bind (scThs p p.ts)=R)) (fun ii _=>p.fs.length - (intOf ii).toNat)
     case atStart=>exact⟨0,_,rfl,Nat.zero_le _,HT3,HP3,HC3⟩
     case round=>
      obtain⟨j,pj,rfl,hj,hT,hP,hC⟩:=hrel
      clear HT3 HC3 HP3
      have p2:(0:Int)≤(j:Int):=Int.natCast_nonneg _
      by_cases hlt:j<p.fs.length
      ·obtain⟨s,hs⟩:∃s,p.fs[j]? =some s:=⟨_,List.getElem?_eq_getElem hlt⟩
       have hdrop:p.fs.drop j=s::p.fs.drop (j+1):=by
        exact qn7b1_1
       have hIr:=hT.out.sp.sc.inn
       obtain⟨rb,ro,hda,hrb,hrow⟩:=hIr.frow (by intro h0;rw[h0]at hlt;simp at hlt)
       have hsa:=hrow j s hs
       have hsI:=Lib.hid (hIr.fsub s (List.mem_of_getElem? hs))
       have HMem:=Lib.hid (List.mem_of_getElem? hs)
       have hC1:=Lib.hid hC.out
       rw[hdrop,scFus]at hC1
       have HRt:Hid (((p.fs.take (j+1)).map Fu.nm).reverse++((p.ss.map Fl.nm).reverse++(p.rs.map Re.nm).reverse)=s.nm::(((p.fs.take j).map Fu.nm).reverse++((p.ss.map Fl.nm).reverse++(p.rs.map Re.nm).reverse))):=Lib.hid (by rw[revTake Fu.nm p.fs j s hs];rfl)
       have hq:=hP.out
       rw[hdrop,fuN_cons]at hq
       have HGb:=Lib.hid (HGf.out s HMem.out)
       obtain⟨fnm,pd,ps,ft,bd,body⟩:=s
       obtain⟨z0,z1,z2,z3,z4,z5⟩:=hsa
       dsimp only at z0 z1 z2 z3 z4 z5 hC1 hq
       obtain⟨met,hmet⟩:∃met,((p.fs.take j).map Fu.nm).reverse++((p.ss.map Fl.nm).reverse++(p.rs.map Re.nm).reverse)=met:=⟨_,rfl⟩
       rw[hmet]at hC1 hT HRt
       have HPj:Hid (-1≤pj∧pj≤999998∧(j:Int)≤1000000∧p.rs.length+p.ss.length+j≤1000000∧pj+1+(plSts body:Nat)+(fuN (p.fs.drop (j+1)):Nat)+(thN p.ts:Nat)≤999999):=Lib.hid ⟨hq.1,by have:=hq.2;omega,by have:=HNp.out;omega,by have:=HNp.out;omega,by have:=hq.2;push_cast at this;omega⟩
       clear hmet hq
       obtain⟨X6,hX6⟩:∃X6,wr.heap.size=X6:=⟨_,rfl⟩
       obtain⟨w6,hw6⟩:∃w6,wr.alloc (.cells #[.string ⟨fnm.toArray⟩,.slice pd.a ps.length pd.c,.int .u8 ft.k,.string ⟨ft.nm.toArray⟩,.int .i64 ft.n,.slice bd.a body.length bd.c] 53 (0,0))=w6:=⟨_,rfl⟩
       have hb6:Below wr.heap.size wr w6:=by rw[←hw6];exact (Below.refl _ _).alloc (Nat.le_refl _) _
       have x6:w6.heap[X6]? =some (.cells #[.string ⟨fnm.toArray⟩,.slice pd.a ps.length pd.c,.int .u8 ft.k,.string ⟨ft.nm.toArray⟩,.int .i64 ft.n,.slice bd.a body.length bd.c] 53 (0,0)):=by rw[←hw6,←hX6];exact heap_alloc_new wr _
       have HT6:=Lib.hid (hT.out.below hb6)
       have hlp:=hT.out.pl.lt
       have hlm:=ValMap.lt hT.out.me
       have HRow:Hid (∀W,K2 Pb m w6 W→W.heap[X6]? =some (.cells #[.string ⟨fnm.toArray⟩,.slice pd.a ps.length pd.c,.int .u8 ft.k,.string ⟨ft.nm.toArray⟩,.int .i64 ft.n,.slice bd.a body.length bd.c] 53 (0,0))):=
        Lib.hid fun W hk=>(hk.block X6 (lt_blk x6) (fun hh=>by rcases hh with hh|hh<;>omega)).trans x6
       have HNm:=Lib.hid (And.intro hX6 hw6)
       clear hb6 x6 hX6 hw6 hlp hlm hT
       have p1:(j:Int)<(p.fs.length:Int):=by omega
       have HLt:=Lib.hid hlt
       clear hrow hIr hdrop hs hC hlt hP
       rw[hda]
       go_wp2_with fail
       simp only[HNm.out.1,HNm.out.2]
       refine (splace_any Pb pj w6 HT6.out.pl (by have:=HPj.out;omega) (by have:=HPj.out;omega)).mono ?_
       rintro e w7 ⟨rfl,hw7⟩
       have HT7:Hid (PgS B Kb Rb Fb Sb Pb m c p (pj+1) (p.rs.length+p.ss.length+j) met w w7):=Lib.hid (by rw[hw7];exact HT6.out.step)
       have HK7:Hid (K2 Pb m w6 w7):=Lib.hid (by rw[hw7];exact Kept.setCell (S:=fun k=>k=Pb∨k=m) (Kept.refl _ _) (p:=⟨Pb,0,none⟩) (Or.inl (Or.inl rfl)) _)
       clear hw7 HT6
       have row:=HRow.out _ HK7.out
       have r0:=cell_at row 0
       have r1:=cell_at row 1
       have r2:=cell_at row 2
       have r3:=cell_at row 3
       have r4:=cell_at row 4
       have r5:=cell_at row 5
       simp only[sl7,sl8,sl9]at r0 r1 r2 r3 r4 r5
       clear row
       go_wp2_with fail
       refine (declare_any m (p.rs.length+p.ss.length+j) c met fnm w7 HT7.out.me (by have:=HPj.out;have:=HNn.out;unfold maxLen;omega) hsI.out.nm HT7.out.hc HT7.out.hcm).mono ?_
       rintro e w8 ⟨hE,hk8⟩
       rcases hE with ⟨hx,rfl⟩|⟨hx,rfl,hm8⟩
       ·exact qn7b1_2
       rw[if_neg hx]at hC1
       have HT8:=Lib.hid (HT7.out.put hk8 hm8)
       have HK8:Hid (K2 Pb m w6 w8):=Lib.hid (HK7.out.trans (hk8.mono fun k _ e=>Or.inr e))
       clear hk8 hm8 hx HT7 HK7
       clear r0 r1 r2 r3 r4 r5
       have row:=HRow.out _ HK8.out
       have r0:=cell_at row 0
       have r1:=cell_at row 1
       have r2:=cell_at row 2
       have r3:=cell_at row 3
       have r4:=cell_at row 4
       have r5:=cell_at row 5
       simp only[sl7,sl8,sl9]at r0 r1 r2 r3 r4 r5
       clear row
       go_wp2_with fail
       clear r0 r1 r2 r3 r4 r5
       have HL8:Hid (LcAt w8 none (ps.take 0).reverse):=Lib.hid rfl
       go_loopw [15,105] (fun ll i2 wr=>∃(j2:Nat) (aj:Option Addr),ll=.pointer aj∧i2=.int .i64 j2∧j2≤ps.length∧Hid (PgS B Kb Rb Fb Sb Pb m c p (pj+1) (p.rs.length+p.ss.length+j+1) (fnm::met) w wr)∧Hid (K2 Pb m w6 wr)∧Hid (LcAt wr aj (ps.take j2).reverse)∧Hid ((if scPas p (ps.take j2).reverse (ps.drop j2)≠0 then Sc.bad (pj+1) (scPas p (ps.take j2).reverse (ps.drop j2)) else if knownT p ft=false then Sc.bad (pj+1) 9 else match scSts p ps.reverse ft body (pj+1) with|.bad q e=>Sc.bad q e|.on a1=>scFus p (fnm::met) (p.fs.drop (j+1)) a1).bind (scThs p p.ts)=R)) (fun ll i2 _=>ps.length - (intOf i2).toNat)
       case atStart=>exact⟨0,none,rfl,rfl,Nat.zero_le _,HT8,HK8,HL8,hC1⟩
       case round=>
        obtain⟨j2,aj,rfl,rfl,hj2,hT,hK,hL,hC⟩:=hrel
        clear HT8 HK8 HL8 hC1
        have p3:(0:Int)≤(j2:Int):=Int.natCast_nonneg _
        by_cases hlt:j2<ps.length
        ·obtain⟨s,hs⟩:∃s,ps[j2]? =some s:=⟨_,List.getElem?_eq_getElem hlt⟩
         have hdrop:ps.drop j2=s::ps.drop (j2+1):=by
          exact qn7b1_1
         have hFs:=(hT.out.sp.sc.inn.fsub _ HMem.out).ps
         obtain⟨rb2,ro2,hda2,hrb2,hrow⟩:=hFs.row (by intro h0;dsimp only at h0;rw[h0]at hlt;simp at hlt)
         have hsa:=hrow j2 s hs
         have hsI2:=Lib.hid (hFs.sub s (List.mem_of_getElem? hs))
         have hC1:=Lib.hid hC.out
         rw[hdrop,scPas]at hC1
         have HRt2:Hid ((ps.take (j2+1)).reverse=s::(ps.take j2).reverse):=Lib.hid (by have h:=revTake id ps j2 s hs;simpa using h)
         have HL2:Hid ((j2:Int)≤140737488355328):=Lib.hid (by have h:=hFs.len;unfold lenOk at h;dsimp only at h;omega)
         obtain⟨xnm,xt⟩:=s
         obtain⟨z0,z1,z2,z3⟩:=hsa
         dsimp only at z0 z1 z2 z3 hC1 hda2
         obtain⟨lj,hlj⟩:∃lj,(ps.take j2).reverse=lj:=⟨_,rfl⟩
         rw[hlj]at hC1 hL HRt2
         obtain⟨X7,hX7⟩:∃X7,wr.heap.size=X7:=⟨_,rfl⟩
         obtain⟨w7,hw7⟩:∃w7,wr.alloc (.cells #[.string ⟨xnm.toArray⟩,.int .u8 xt.k,.string ⟨xt.nm.toArray⟩,.int .i64 xt.n] 93 (0,0))=w7:=⟨_,rfl⟩
         have hb7:Below wr.heap.size wr w7:=by rw[←hw7];exact (Below.refl _ _).alloc (Nat.le_refl _) _
         have x7:w7.heap[X7]? =some (.cells #[.string ⟨xnm.toArray⟩,.int .u8 xt.k,.string ⟨xt.nm.toArray⟩,.int .i64 xt.n] 93 (0,0)):=by rw[←hw7,←hX7];exact heap_alloc_new wr _
         have HT7:=Lib.hid (hT.out.below hb7)
         have HL7:=Lib.hid (hL.out.below hb7)
         have HK7:Hid (K2 Pb m w6 w7):=Lib.hid (hK.out.trans (Kept.of_below hb7))
         have HRow7:Hid (∀W,Below w7.heap.size w7 W→W.heap[X7]? =some (.cells #[.string ⟨xnm.toArray⟩,.int .u8 xt.k,.string ⟨xt.nm.toArray⟩,.int .i64 xt.n] 93 (0,0))):=
          Lib.hid fun W hb=>(hb.block X7 (lt_blk x7)).trans x7
         have HNm7:=Lib.hid (And.intro hX7 hw7)
         have p1:(j2:Int)<(ps.length:Int):=by omega
         have HLt2:=Lib.hid hlt
         have y0:=cell_at x7 0
         simp only[sl7,sl8,sl9]at y0
         rw[←hw7,←hX7]at y0
         clear hrow hFs hdrop hs hC hlt hT hL hK hlj hb7 x7 hX7 hw7
         rw[hda2]
         go_wp2_with fail
         simp only[HNm7.out.1,HNm7.out.2]
         clear y0
         have CF:=sfind_any aj lj xnm w7 HL7.out
         refine CF.mono ?_
         clear CF
         cases hm:fieldOf lj xnm with
         |some u0=>
          obtain rfl:Sc.bad (pj+1) 8=R:=by have h:=hC1.out;rw[if_pos (Or.inl (by rw[hm];rfl)),if_pos (by decide)]at h;exact h
          rintro e v1 ⟨hE,hb1⟩
          obtain rfl:e=.returned (.tuple #[.agg #[.int .u8 u0.k,.string ⟨u0.nm.toArray⟩,.int .i64 u0.n],.bool true]):=hE
          have HB2:=Lib.hid (HT7.out.below (hb1.alloc hb1.size (.cells #[.int .u8 u0.k,.string ⟨u0.nm.toArray⟩,.int .i64 u0.n] 39 (0,0))))
          clear hb1 hm
          go_wp2_with fail
          refine (swant_no 8 _).mono ?_
          rintro e w99 ⟨rfl,rfl⟩
          exact⟨rfl,⟨rfl,HB2.out.pl⟩,HB2.out.hk⟩
         |none=>
          rintro e v1 ⟨hE,hb1⟩
          obtain rfl:e=.returned (.tuple #[.agg #[.int .u8 0,.string ⟨([]:List UInt8).toArray⟩,.int .i64 0],.bool false]):=hE
          obtain⟨v2,hv2⟩:∃v2,v1.alloc (.cells #[.int .u8 0,.string ⟨([]:List UInt8).toArray⟩,.int .i64 0] 39 (0,0))=v2:=⟨_,rfl⟩
          have hb2:Below w7.heap.size w7 v2:=by rw[←hv2];exact hb1.alloc hb1.size _
          have HT2:=Lib.hid (HT7.out.below hb2)
          have HB2:=Lib.hid hb2
          have s0:=cell_at (HRow7.out _ hb2) 0
          simp only[sl7,sl8,sl9]at s0
          rw[←hv2]at s0
          have HN2':Hid (v1.alloc (.cells #[.int .u8 0,.string ⟨([]:List UInt8).toArray⟩,.int .i64 0] 39 (0,0))=v2∧True):=Lib.hid ⟨hv2,trivial⟩
          clear hb1 hb2 hv2
          go_wp2_with fail
          simp only[HN2'.out.1]
          clear s0
          refine (sshared_any B Kb Rb Fb Sb p xnm v2 HT2.out.sp.sc hsI2.out.nm).mono ?_
          rintro e v3 ⟨rfl,hb3⟩
          have HT3:=Lib.hid (HT2.out.below hb3)
          have HB3:=Lib.hid (HB2.out.trans (hb3.mono HB2.out.size))
          have row:=HRow7.out _ HB3.out
          have r0:=cell_at row 0
          have r1:=cell_at row 1
          have r2:=cell_at row 2
          have r3:=cell_at row 3
          simp only[sl7,sl8,sl9]at r0 r1 r2 r3
          clear row
          clear hb3 HT2 HB2
          cases hs:(shOf p xnm).isSome with
          |true=>
           obtain rfl:Sc.bad (pj+1) 8=R:=by have h:=hC1.out;rw[if_pos (Or.inr hs),if_pos (by decide)]at h;exact h
           clear hs hm
           go_wp2_with fail
           refine (swant_no 8 _).mono ?_
           rintro e w99 ⟨rfl,rfl⟩
           exact⟨rfl,⟨rfl,HT3.out.pl⟩,HT3.out.hk⟩
          |false=>
           rw[if_neg (show ¬((fieldOf lj xnm).isSome=true∨(shOf p xnm).isSome=true) by rw[hm,hs];rintro (h|h)<;>cases h)]at hC1
           clear hs hm
           go_wp2_with fail
           refine (swant_yes 8 _).mono ?_
           rintro e w99 ⟨rfl,rfl⟩
           go_wp2_with fail
           refine (sknown_any B Kb Rb Fb Sb p xt v3 HT3.out.sp.sc hsI2.out.t.nm).mono ?_
           rintro e v4 ⟨hE,hb4⟩
           cases hkn:knownT p xt with
           |false=>
            rw[hkn]at hE
            obtain rfl:e=faultS 9:=hE
            obtain rfl:Sc.bad (pj+1) 9=R:=by have h:=hC1.out;rw[if_pos hkn,if_pos (by decide)]at h;exact h
            exact⟨rfl,⟨rfl,(HT3.out.below hb4).pl⟩,(HT3.out.below hb4).hk⟩
           |true=>
            rw[hkn]at hE
            obtain rfl:e=.returned (.tuple #[]):=hE
            rw[if_neg (show ¬knownT p xt=false by rw[hkn];decide)]at hC1
            have HB4:=Lib.hid (HB3.out.trans (hb4.mono HB3.out.size))
            have HT4:=Lib.hid (HT3.out.below hb4)
            clear hb4 hkn HT3 r0 r1 r2 r3
            have row:=HRow7.out _ HB4.out
            have r0:=cell_at row 0
            have r1:=cell_at row 1
            have r2:=cell_at row 2
            have r3:=cell_at row 3
            simp only[sl7,sl8,sl9]at r0 r1 r2 r3
            clear row
            obtain⟨XL,hXL⟩:∃XL,v4.heap.size=XL:=⟨_,rfl⟩
            obtain⟨vL,hvL⟩:∃vL,v4.alloc (.cells #[.string ⟨xnm.toArray⟩,.int .u8 xt.k,.string ⟨xt.nm.toArray⟩,.int .i64 xt.n,.pointer aj] 176 (0,0))=vL:=⟨_,rfl⟩
            have hbL:Below v4.heap.size v4 vL:=by rw[←hvL];exact (Below.refl _ _).alloc (Nat.le_refl _) _
            have xL:vL.heap[XL]? =some (.cells #[.string ⟨xnm.toArray⟩,.int .u8 xt.k,.string ⟨xt.nm.toArray⟩,.int .i64 xt.n,.pointer aj] 176 (0,0)):=by rw[←hvL,←hXL];exact heap_alloc_new v4 _
            have hL4:LcAt vL aj lj:=(HL7.out.below HB4.out).below hbL
            have HLn:Hid (LcAt vL (some ⟨XL,0,none⟩) (ps.take (j2+1)).reverse):=Lib.hid (by rw[HRt2.out];exact⟨XL,aj,rfl,xL,⟨hsI2.out.nm,hsI2.out.t⟩,hL4⟩)
            have HTL:=Lib.hid (HT4.out.below hbL)
            have HKL:Hid (K2 Pb m w6 vL):=Lib.hid (HK7.out.trans (Kept.of_below (HB4.out.trans (hbL.mono HB4.out.size))))
            have HNL:=Lib.hid (And.intro hXL hvL)
            have HC9:Hid ((if scPas p (ps.take (j2+1)).reverse (ps.drop (j2+1))≠0 then Sc.bad (pj+1) (scPas p (ps.take (j2+1)).reverse (ps.drop (j2+1))) else if knownT p ft=false then Sc.bad (pj+1) 9 else match scSts p ps.reverse ft body (pj+1) with|.bad q e=>Sc.bad q e|.on a1=>scFus p (fnm::met) (p.fs.drop (j+1)) a1).bind (scThs p p.ts)=R):=Lib.hid (by rw[HRt2.out];exact hC1.out)
            have p9:=HL2.out
            clear hXL hvL hbL xL hL4 hC1 HT4 HB4 HL7 HK7
            go_wp2_with fail
            simp only[HNL.out.1,HNL.out.2]
            go_roundw
            case rel=>exact⟨j2+1,some ⟨XL,0,none⟩,rfl,by go_num,by have:=HLt2.out;omega,HTL,HKL,HLn,HC9⟩
            case measure=>have:=HLt2.out;simp[intOf];omega
        ·obtain rfl:j2=ps.length:=by omega
         have hC1:=Lib.hid hC.out
         rw[List.drop_length,scPas,if_neg (by decide)]at hC1
         have HL8:=Lib.hid hL.out
         rw[List.take_length]at HL8
         have HT8:=hT
         have HK8:=hK
         clear hT hK hL hC
         have row:=HRow.out _ HK8.out
         have r0:=cell_at row 0
         have r1:=cell_at row 1
         have r2:=cell_at row 2
         have r3:=cell_at row 3
         have r4:=cell_at row 4
         have r5:=cell_at row 5
         simp only[sl7,sl8,sl9]at r0 r1 r2 r3 r4 r5
         clear row
         go_wp2_with fail
         refine (sknown_any B Kb Rb Fb Sb p ft wr HT8.out.sp.sc hsI.out.t.nm).mono ?_
         rintro e w9 ⟨hE,hb9⟩
         cases hkn:knownT p ft with
         |false=>
          rw[hkn]at hE
          obtain rfl:e=faultS 9:=hE
          obtain rfl:Sc.bad (pj+1) 9=R:=by have h:=hC1.out;rw[if_pos hkn]at h;exact h
          exact⟨rfl,⟨rfl,(HT8.out.below hb9).pl⟩,(HT8.out.below hb9).hk⟩
         |true=>
         rw[hkn]at hE
         obtain rfl:e=.returned (.tuple #[]):=hE
         rw[if_neg (show ¬knownT p ft=false by rw[hkn];decide)]at hC1
         have HT9:=Lib.hid (HT8.out.below hb9)
         have HL9:=Lib.hid (HL8.out.below hb9)
         have HK9:Hid (K2 Pb m w6 w9):=Lib.hid (HK8.out.trans (Kept.of_below hb9))
         clear hb9 hkn HT8 HL8 HK8 r0 r1 r2 r3 r4 r5
         have row:=HRow.out _ HK9.out
         have r0:=cell_at row 0
         have r1:=cell_at row 1
         have r2:=cell_at row 2
         have r3:=cell_at row 3
         have r4:=cell_at row 4
         have r5:=cell_at row 5
         simp only[sl7,sl8,sl9]at r0 r1 r2 r3 r4 r5
         clear row
         go_wp2_with fail
         have CL:=sclist_any B Kb Rb Fb Sb Pb p ft _ body (Nat.le_refl _) bd aj ps.reverse (pj+1) w9 HT9.out.sp HL9.out (HT9.out.sp.sc.inn.fsub _ HMem.out).body HGb.out (by have:=HPj.out;omega) (by have:=HPj.out;omega)
         have HBn:=scSts_on p ps.reverse ft body (pj+1)
         cases hcb:scSts p ps.reverse ft body (pj+1) with
         |bad qq er=>
          rw[hcb]at CL
          obtain rfl:Sc.bad qq er=R:=by have h:=hC1.out;rw[hcb]at h;exact h
          refine CL.mono ?_
          rintro e vb ⟨⟨rfl,hp⟩,hk⟩
          exact⟨rfl,⟨rfl,hp⟩,HT9.out.hk.trans hk⟩
         |on a3=>
          rw[hcb]at CL hC1
          have ha3:=(HBn.1 a3 hcb).1
          have HP9:Hid (-1≤a3∧a3+(fuN (p.fs.drop (j+1)):Nat)+(thN p.ts:Nat)≤999999):=Lib.hid ⟨by have:=HPj.out;omega,by have:=HPj.out;omega⟩
          have HC9:Hid ((scFus p (((p.fs.take (j+1)).map Fu.nm).reverse++((p.ss.map Fl.nm).reverse++(p.rs.map Re.nm).reverse)) (p.fs.drop (j+1)) a3).bind (scThs p p.ts)=R):=Lib.hid (by rw[HRt.out];exact hC1.out)
          clear hcb HBn ha3
          refine CL.mono ?_
          rintro e vb ⟨⟨rfl,hp⟩,hk⟩
          have HTb:Hid (PgS B Kb Rb Fb Sb Pb m c p a3 (p.rs.length+p.ss.length+(j+1)) (((p.fs.take (j+1)).map Fu.nm).reverse++((p.ss.map Fl.nm).reverse++(p.rs.map Re.nm).reverse)) w vb):=Lib.hid (by rw[HRt.out];exact HT9.out.kept hk hp)
          have p9:(j:Int)≤1000000:=HPj.out.2.2.1
          clear hp hk CL HT9 HL9 HK9 hC1 r0 r1 r2 r3 r4 r5
          go_wp2_with fail
          go_roundw
          case rel=>exact⟨j+1,a3,by go_num,by have:=HLt.out;omega,HTb,HP9,HC9⟩
          case measure=>have:=HLt.out;simp[intOf];omega
      ·obtain rfl:j=p.fs.length:=by omega
       have HC4:Hid (scThs p (p.ts.drop 0) pj=R):=Lib.hid (by have h:=hC.out;rw[List.drop_length,scFus]at h;exact h)
       have HP4:Hid (-1≤pj∧pj+(thN (p.ts.drop 0):Nat)≤999999):=Lib.hid ⟨hP.out.1,by have:=hP.out;rw[List.drop_zero];omega⟩
       have HT4:Hid (ScP B Kb Rb Fb Sb Pb p pj wr∧Kq Pb w wr):=Lib.hid ⟨hT.out.sp,hT.out.hk⟩
       obtain⟨k0,k1,k2,k3⟩:=scGs hT.out.sp.sc
       clear hT hC hP
       go_wp2_with fail
       clear k0 k1 k2 k3
       go_loopw [157] (fun ii wr=>∃(j:Nat) (pj:Int),ii=.int .i64 j∧j≤p.ts.length∧Hid (ScP B Kb Rb Fb Sb Pb p pj wr∧Kq Pb w wr)∧Hid (-1≤pj∧pj+(thN (p.ts.drop j):Nat)≤999999)∧Hid (scThs p (p.ts.drop j) pj=R)) (fun ii _=>p.ts.length - (intOf ii).toNat)
       case atStart=>exact⟨0,_,rfl,Nat.zero_le _,HT4,HP4,HC4⟩
       case round=>
        obtain⟨j,pj,rfl,hj,hT,hP,hC⟩:=hrel
        clear HT4 HC4 HP4
        have p2:(0:Int)≤(j:Int):=Int.natCast_nonneg _
        by_cases hlt:j<p.ts.length
        ·obtain⟨s,hs⟩:∃s,p.ts[j]? =some s:=⟨_,List.getElem?_eq_getElem hlt⟩
         have hdrop:p.ts.drop j=s::p.ts.drop (j+1):=by
          exact qn7b1_1
         have hIr:=hT.out.1.sc.inn
         obtain⟨rb,ro,hda,hrb,hrow⟩:=hIr.trow (by intro h0;rw[h0]at hlt;simp at hlt)
         have hsa:=hrow j s hs
         have HMem:=Lib.hid (List.mem_of_getElem? hs)
         have hC1:=Lib.hid hC.out
         rw[hdrop,scThs]at hC1
         have hq:=hP.out
         rw[hdrop,thN_cons]at hq
         have HGb:=Lib.hid (HGt.out s HMem.out)
         obtain⟨td,tl⟩:=s
         obtain⟨z0⟩:=hsa
         dsimp only at z0 hC1 hq
         rw[Nat.mul_one]at z0
         have HPj:Hid (-1≤pj∧pj≤999998∧(j:Int)≤1000000∧pj+1+(plSts tl:Nat)+(thN (p.ts.drop (j+1)):Nat)≤999999):=Lib.hid ⟨hq.1,by have:=hq.2;omega,by have:=HNp.out;omega,by have:=hq.2;push_cast at this;omega⟩
         have p1:(j:Int)<(p.ts.length:Int):=by omega
         have HLt:=Lib.hid hlt
         have HT6:=hT
         clear hrow hIr hdrop hs hC hlt hP hq hT
         rw[hda]
         go_wp2_with fail
         refine (splace_any Pb pj wr HT6.out.1.pl (by have:=HPj.out;omega) (by have:=HPj.out;omega)).mono ?_
         rintro e w7 ⟨rfl,hw7⟩
         have HT7:Hid (ScP B Kb Rb Fb Sb Pb p (pj+1) w7∧Kq Pb w w7):=Lib.hid (by rw[hw7];exact⟨HT6.out.1.step,HT6.out.2.setCell (p:=⟨Pb,0,none⟩) (Or.inl rfl) _⟩)
         clear hw7 HT6 z0
         go_wp2_with fail
         have CL:=sclist_any B Kb Rb Fb Sb Pb p ty0 _ tl (Nat.le_refl _) td none [] (pj+1) w7 HT7.out.1 rfl (HT7.out.1.sc.inn.tsub _ HMem.out) HGb.out (by have:=HPj.out;omega) (by have:=HPj.out;omega)
         have HBn:=scSts_on p [] ty0 tl (pj+1)
         cases hcb:scSts p [] ty0 tl (pj+1) with
         |bad qq er=>
          rw[hcb]at CL
          obtain rfl:Sc.bad qq er=R:=by have h:=hC1.out;rw[hcb]at h;exact h
          refine CL.mono ?_
          rintro e vb ⟨⟨rfl,hp⟩,hk⟩
          exact⟨rfl,⟨rfl,hp⟩,HT7.out.2.trans hk⟩
         |on a3=>
          rw[hcb]at CL hC1
          have ha3:=(HBn.1 a3 hcb).1
          have HP9:Hid (-1≤a3∧a3+(thN (p.ts.drop (j+1)):Nat)≤999999):=Lib.hid ⟨by have:=HPj.out;omega,by have:=HPj.out;omega⟩
          clear hcb HBn ha3
          refine CL.mono ?_
          rintro e vb ⟨⟨rfl,hp⟩,hk⟩
          have HTb:Hid (ScP B Kb Rb Fb Sb Pb p a3 vb∧Kq Pb w vb):=Lib.hid ⟨HT7.out.1.kept hk hp,HT7.out.2.trans hk⟩
          have p9:(j:Int)≤1000000:=HPj.out.2.2.1
          clear hp hk CL HT7
          go_wp2_with fail
          go_roundw
          case rel=>exact⟨j+1,a3,by go_num,by have:=HLt.out;omega,HTb,HP9,hC1⟩
          case measure=>have:=HLt.out;simp[intOf];omega
        ·obtain rfl:j=p.ts.length:=by omega
         have HF:Hid (Sc.on pj=R):=Lib.hid (by have h:=hC.out;rw[List.drop_length,scThs]at h;exact h)
         obtain rfl:=HF.out
         have HZ:=Lib.hid (And.intro hT.out.1.pl hT.out.2)
         clear hT hC hP HF
         go_wp2_with fail
         go_end0
         exact⟨⟨rfl,HZ.out.1⟩,HZ.out.2⟩
end Go.Proofs.YtkklogikakcanaaGreatDoor
