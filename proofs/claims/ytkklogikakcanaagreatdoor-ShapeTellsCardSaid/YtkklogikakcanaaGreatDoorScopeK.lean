import Derived.Test.YtkklogikakcanaaGreatDoorScopeG
import Derived.Test.YtkklogikakcanaaGreatDoorTreeL
import Derived.Test.YtkklogikakcanaaGreatDoorScopeJ
set_option linter.unusedVariables false
set_option linter.unusedSimpArgs false
open List renaming getElem_toArray → sl1, getElem_cons_zero → sl2, getElem_cons_succ → sl3, setIfInBounds_toArray → sl4, set_cons_zero → sl5, set_cons_succ → sl6, getElem?_toArray → sl7, getElem?_cons_zero → sl8, getElem?_cons_succ → sl9
namespace Go.Proofs.YtkklogikakcanaaGreatDoor
open Go Go.Maps Go.RowKit
theorem qtqp1_1 {P:Prop} (h:P:=by
 refine tk 0 ?_
 try simp only[sl1,sl2,sl3,Act.put,sl4,sl5,sl6]
 refine tk 1 ?_
 try simp only[sl1,sl2,sl3,Act.put,sl4,sl5,sl6]
 refine tk 2 ?_
 try simp only[sl1,sl2,sl3,Act.put,sl4,sl5,sl6]
 refine tk 3 ?_
 try simp only[sl1,sl2,sl3,Act.put,sl4,sl5,sl6]
 refine tk 4 ?_
 try simp only[sl1,sl2,sl3,Act.put,sl4,sl5,sl6]
 refine tk 5 ?_
 try simp only[sl1,sl2,sl3,Act.put,sl4,sl5,sl6]
 refine tk 6 ?_
 try simp only[sl1,sl2,sl3,Act.put,sl4,sl5,sl6]
 refine tk 7 ?_
 try simp only[sl1,sl2,sl3,Act.put,sl4,sl5,sl6]
 refine tk 8 ?_
 try simp only[sl1,sl2,sl3,Act.put,sl4,sl5,sl6]
 refine tk 9 ?_
 try simp only[sl1,sl2,sl3,Act.put,sl4,sl5,sl6]
 refine tk 10 ?_
 try simp only[sl1,sl2,sl3,Act.put,sl4,sl5,sl6]
 refine wpAnyL_last (j:=11) (o:=_) (by kernel_rfl) rfl (by rfl) (by kernel_rfl) (fun K hK=>?_)
 go_simp
 (refine hK _ _ ?_;clear hK K)
 try simp only[sl1,sl2,sl3,Act.put,sl4,sl5,sl6]
 go_wp2_with fail
 go_roundw
 case rel=>exact⟨j,by go_num,by omega,HK9,HR9,HF9,HS9⟩
 case measure=>first|(simp[intOf];done)|(simp[intOf];omega)):P:=h
abbrev OfR (X1 Kb Rb Fb Sb:Nat) (p:Pr) (rb ro j:Nat) (nm:List UInt8) (W:World):Prop:=
 W.cell? ⟨Kb,4,none⟩=some (.map (some Rb))∧W.cell? ⟨X1,0,none⟩=some (.slice (some ⟨rb,ro,none⟩) p.rs.length p.rd.c)∧W.cell? ⟨rb,ro+j*2,none⟩=some (.string ⟨nm.toArray⟩)
abbrev OfF (X1 Kb Rb Fb Sb:Nat) (p:Pr) (rb ro j:Nat) (nm:List UInt8) (W:World):Prop:=
 W.cell? ⟨Kb,5,none⟩=some (.map (some Fb))∧W.cell? ⟨X1,2,none⟩=some (.slice (some ⟨rb,ro,none⟩) p.fs.length p.fd.c)∧W.cell? ⟨rb,ro+j*6,none⟩=some (.string ⟨nm.toArray⟩)
abbrev OfT (X1 Kb Rb Fb Sb:Nat) (p:Pr) (rb ro j:Nat) (nm:List UInt8) (t:Ty) (W:World):Prop:=
 W.cell? ⟨Kb,6,none⟩=some (.map (some Sb))∧W.cell? ⟨X1,1,none⟩=some (.slice (some ⟨rb,ro,none⟩) p.ss.length p.sd.c)∧W.cell? ⟨rb,ro+j*4,none⟩=some (.string ⟨nm.toArray⟩)∧
 W.cell? ⟨rb,ro+j*4+1,none⟩=some (.int .u8 t.k)∧W.cell? ⟨rb,ro+j*4+2,none⟩=some (.string ⟨t.nm.toArray⟩)∧W.cell? ⟨rb,ro+j*4+3,none⟩=some (.int .i64 t.n)
abbrev K3 (Rb Fb Sb:Nat):World→World→Prop:=Kept (fun x=>x=Rb∨x=Fb∨x=Sb)
set_option maxHeartbeats 8000000 in
set_option maxRecDepth 100000 in
theorem scopeOf_any (B:Nat) (p:Pr) (w:World) (hI:PrIn w B p) (hB:B≤w.heap.size):
  Calls Tryz.prog 78 #[p.val] w fun e w'=>∃Kb Rb Fb Sb,e=.returned (.pointer (some ⟨Kb,0,none⟩))∧ScIs B Kb Rb Fb Sb p w'∧Kb<w'.heap.size∧Below w.heap.size w w':=by
 obtain⟨X1,hX⟩:∃X1,w.heap.size=X1:=⟨_,rfl⟩
 obtain⟨w1,hw1⟩:∃w1,w.alloc (prObj p)=w1:=⟨_,rfl⟩
 obtain⟨Rb,hRb⟩:∃Rb,w1.heap.size=Rb:=⟨_,rfl⟩
 obtain⟨w2,hw2⟩:∃w2,w1.alloc (.map #[] 0)=w2:=⟨_,rfl⟩
 obtain⟨Fb,hFb⟩:∃Fb,w2.heap.size=Fb:=⟨_,rfl⟩
 obtain⟨w3,hw3⟩:∃w3,w2.alloc (.map #[] 0)=w3:=⟨_,rfl⟩
 obtain⟨Sb,hSb⟩:∃Sb,w3.heap.size=Sb:=⟨_,rfl⟩
 obtain⟨w4,hw4⟩:∃w4,w3.alloc (.map #[] 0)=w4:=⟨_,rfl⟩
 obtain⟨Kb,hKb⟩:∃Kb,w4.heap.size=Kb:=⟨_,rfl⟩
 obtain⟨w5,hw5⟩:∃w5,w4.alloc (scObj p Rb Fb Sb)=w5:=⟨_,rfl⟩
 have hb1:Below w.heap.size w w1:=by rw[←hw1];exact (Below.refl _ _).alloc (Nat.le_refl _) _
 have hb2:Below w1.heap.size w1 w2:=by rw[←hw2];exact (Below.refl _ _).alloc (Nat.le_refl _) _
 have hb3:Below w2.heap.size w2 w3:=by rw[←hw3];exact (Below.refl _ _).alloc (Nat.le_refl _) _
 have hb4:Below w3.heap.size w3 w4:=by rw[←hw4];exact (Below.refl _ _).alloc (Nat.le_refl _) _
 have hb5:Below w4.heap.size w4 w5:=by rw[←hw5];exact (Below.refl _ _).alloc (Nat.le_refl _) _
 have s1:w1.heap.size=X1+1:=by rw[←hw1,World.size_alloc,hX]
 have s2:w2.heap.size=Rb+1:=by rw[←hw2,World.size_alloc,hRb]
 have s3:w3.heap.size=Fb+1:=by rw[←hw3,World.size_alloc,hFb]
 have s4:w4.heap.size=Sb+1:=by rw[←hw4,World.size_alloc,hSb]
 have s5:w5.heap.size=Kb+1:=by rw[←hw5,World.size_alloc,hKb]
 have b35:Below w3.heap.size w3 w5:=hb4.trans (hb5.mono hb4.size)
 have b25:Below w2.heap.size w2 w5:=hb3.trans (b35.mono hb3.size)
 have b15:Below w1.heap.size w1 w5:=hb2.trans (b25.mono hb2.size)
 have b05:Below w.heap.size w w5:=hb1.trans (b15.mono hb1.size)
 have x1:w1.heap[X1]? =some (prObj p):=by rw[←hw1,←hX];exact heap_alloc_new w _
 have x5:w5.heap[X1]? =some (prObj p):=(b15.block X1 (by omega)).trans x1
 have k5:w5.heap[Kb]? =some (scObj p Rb Fb Sb):=by rw[←hw5,←hKb];exact heap_alloc_new w4 _
 have r2:ValMap Tryz.prog 9 w2 Rb 0 (intF (idxFrom Re.nm p.rs p.rs.length)):=by
  rw[←hw2,←hRb]
  exact (ValMap.made _ _ w1).congr fun l=>by unfold intF nmL;cases l<;>first|rfl|(dsimp only;rw[idxFrom_len];rfl)
 have f3:ValMap Tryz.prog 9 w3 Fb 0 (intF (idxFrom Fu.nm p.fs p.fs.length)):=by
  rw[←hw3,←hFb]
  exact (ValMap.made _ _ w2).congr fun l=>by unfold intF nmL;cases l<;>first|rfl|(dsimp only;rw[idxFrom_len];rfl)
 have h4:ValMap Tryz.prog 9 w4 Sb 0 (tyF (fun nm=>fieldOf (p.ss.drop p.ss.length) nm)):=by
  rw[←hw4,←hSb]
  exact (ValMap.made _ _ w3).congr fun l=>by unfold tyF nmL;cases l<;>first|rfl|(dsimp only;rw[List.drop_length];rfl)
 have HR5:Hid (ValMap Tryz.prog 9 w5 Rb (p.rs.length - p.rs.length) (intF (idxFrom Re.nm p.rs p.rs.length))):=Lib.hid (by rw[Nat.sub_self];exact r2.of_block (b25.block _ (by omega)))
 have HF5:Hid (ValMap Tryz.prog 9 w5 Fb (p.fs.length - p.fs.length) (intF (idxFrom Fu.nm p.fs p.fs.length))):=Lib.hid (by rw[Nat.sub_self];exact f3.of_block (b35.block _ (by omega)))
 have HS5:Hid (ValMap Tryz.prog 9 w5 Sb (p.ss.length - p.ss.length) (tyF (fun nm=>fieldOf (p.ss.drop p.ss.length) nm))):=Lib.hid (by rw[Nat.sub_self];exact h4.of_block (hb5.block _ (by omega)))
 have HIn:Hid (∀W,K3 Rb Fb Sb w5 W→PrIn W B p):=Lib.hid fun W hk=>hI.keep ((b05.mono hB).trans (hk.below (by omega) (fun x hx=>by rcases hx with hx|hx|hx<;>omega))) (Nat.le_refl B)
 have HX:Hid (∀W,K3 Rb Fb Sb w5 W→W.heap[X1]? =some (prObj p)∧W.heap[Kb]? =some (scObj p Rb Fb Sb)):=Lib.hid fun W hk=>
  ⟨(hk.block X1 (by omega) (fun hx=>by rcases hx with hx|hx|hx<;>omega)).trans x5,(hk.block Kb (by omega) (fun hx=>by rcases hx with hx|hx|hx<;>omega)).trans k5⟩
 have HBe:Hid (∀W,K3 Rb Fb Sb w5 W→Below w.heap.size w W∧Kb<W.heap.size):=Lib.hid fun W hk=>⟨b05.trans (hk.below (by omega) (fun x hx=>by rcases hx with hx|hx|hx<;>omega)),by have:=hk.size;omega⟩
 have HD:Hid (Rb≠Fb∧Rb≠Sb∧Fb≠Sb∧B≤w5.heap.size):=Lib.hid (by omega)
 have HN:=Lib.hid (And.intro hX (And.intro hw1 (And.intro hRb (And.intro hw2 (And.intro hFb (And.intro hw3 (And.intro hSb (And.intro hw4 (And.intro hKb hw5)))))))))
 have m1:=run_makeMap_plain (P:=Tryz.prog) w1 168
 have m2:=run_makeMap_plain (P:=Tryz.prog) w2 168
 have m3:=run_makeMap_plain (P:=Tryz.prog) w3 169
 have hRl:p.rs.length≤140737488355328:=hI.rlen
 have hFl:p.fs.length≤140737488355328:=hI.flen
 have hSl:p.ss.length≤140737488355328:=hI.ss.len
 rw[hw2]at m1
 rw[hw3]at m2
 rw[hw4]at m3
 rw[hRb]at m1
 rw[hFb]at m2
 rw[hSb]at m3
 have q0:=cell_at x1 0
 have q1:=cell_at x1 1
 have q2:=cell_at x1 2
 have q3:=cell_at x1 3
 simp only[sl7,sl8,sl9]at q0 q1 q2 q3
 rw[←hw1,←hX]at q0 q1 q2 q3
 rw[←hw1]at m1
 have y0:=cell_at x5 0
 simp only[sl7,sl8,sl9]at y0
 rw[←hw5,←hX]at y0
 clear hI hB hb1 hb2 hb3 hb4 hb5 s1 s2 s3 s4 s5 b35 b25 b15 b05 x1 x5 k5 r2 f3 h4 hX hw1 hRb hw2 hFb hw3 hSb hw4 hKb hw5
 go_enter Tryz.func78,Tryz.ntmps78
 go_wp2_with fail
 simp only[HN.out.1,HN.out.2.2.2.2.2.2.2.2]
 clear q0 q1 q2 q3 m1 m2 m3 y0
 go_loopw [4] (fun ii wr=>∃(k:Nat),ii=.int .i64 ((k:Int) - 1)∧k≤p.rs.length∧Hid (K3 Rb Fb Sb w5 wr)∧Hid (ValMap Tryz.prog 9 wr Rb (p.rs.length - k) (intF (idxFrom Re.nm p.rs k)))∧Hid (ValMap Tryz.prog 9 wr Fb (p.fs.length - p.fs.length) (intF (idxFrom Fu.nm p.fs p.fs.length)))∧Hid (ValMap Tryz.prog 9 wr Sb (p.ss.length - p.ss.length) (tyF (fun nm=>fieldOf (p.ss.drop p.ss.length) nm)))) (fun ii _=>(intOf ii+1).toNat)
 case atStart=>exact⟨p.rs.length,rfl,Nat.le_refl _,Lib.hid (Kept.refl _ _),HR5,HF5,HS5⟩
 case round=>
  obtain⟨k,rfl,hk,hK,hR,hF,hS⟩:=hrel
  clear HR5 HF5 HS5
  rcases Nat.eq_zero_or_pos k with rfl|hpos
  ·have y0:=cell_at (HX.out _ hK.out).1 2
   simp only[sl7,sl8,sl9]at y0
   rw[show (((0:Nat):Int) - 1)= -1 from rfl]
   go_wp2_with fail
   obtain⟨w6,hw6⟩:∃w6,wr=w6:=⟨_,rfl⟩
   subst hw6
   have hK2:=hK
   have hR0:=hR.out
   rw[Nat.sub_zero,show idxFrom Re.nm p.rs 0=recOf p from funext fun nm=>idxFrom_zero Re.nm p.rs nm]at hR0
   have HR0:Hid (ValMap Tryz.prog 9 wr Rb p.rs.length (intF (recOf p))):=Lib.hid hR0
   have HF0:=hF
   have HS0:=hS
   clear hR hR0 hF hS hK y0
   go_loopw [5] (fun ii wr=>∃(k:Nat),ii=.int .i64 ((k:Int) - 1)∧k≤p.fs.length∧Hid (K3 Rb Fb Sb w5 wr)∧Hid (ValMap Tryz.prog 9 wr Rb p.rs.length (intF (recOf p)))∧Hid (ValMap Tryz.prog 9 wr Fb (p.fs.length - k) (intF (idxFrom Fu.nm p.fs k)))∧Hid (ValMap Tryz.prog 9 wr Sb (p.ss.length - p.ss.length) (tyF (fun nm=>fieldOf (p.ss.drop p.ss.length) nm)))) (fun ii _=>(intOf ii+1).toNat)
   case atStart=>exact⟨p.fs.length,rfl,Nat.le_refl _,hK2,HR0,HF0,HS0⟩
   case round=>
    obtain⟨k,rfl,hk,hK,hR,hF,hS⟩:=hrel
    clear HR0 HF0 HS0 hK2
    rcases Nat.eq_zero_or_pos k with rfl|hpos
    ·have y0:=cell_at (HX.out _ hK.out).1 1
     simp only[sl7,sl8,sl9]at y0
     rw[show (((0:Nat):Int) - 1)= -1 from rfl]
     go_wp2_with fail
     have hK2:=hK
     have hF0:=hF.out
     rw[Nat.sub_zero,show idxFrom Fu.nm p.fs 0=funOf p from funext fun nm=>idxFrom_zero Fu.nm p.fs nm]at hF0
     have HF0:Hid (ValMap Tryz.prog 9 wr Fb p.fs.length (intF (funOf p))):=Lib.hid hF0
     have HR0:=hR
     have HS0:=hS
     clear hR hF0 hF hS hK y0
     go_loopw [6] (fun ii wr=>∃(k:Nat),ii=.int .i64 ((k:Int) - 1)∧k≤p.ss.length∧Hid (K3 Rb Fb Sb w5 wr)∧Hid (ValMap Tryz.prog 9 wr Rb p.rs.length (intF (recOf p)))∧Hid (ValMap Tryz.prog 9 wr Fb p.fs.length (intF (funOf p)))∧Hid (ValMap Tryz.prog 9 wr Sb (p.ss.length - k) (tyF (fun nm=>fieldOf (p.ss.drop k) nm)))) (fun ii _=>(intOf ii+1).toNat)
     case atStart=>exact⟨p.ss.length,rfl,Nat.le_refl _,hK2,HR0,HF0,HS0⟩
     case round=>
      obtain⟨k,rfl,hk,hK,hR,hF,hS⟩:=hrel
      clear HR0 HF0 HS0 hK2
      rcases Nat.eq_zero_or_pos k with rfl|hpos
      ·have hS0:=hS.out
       rw[Nat.sub_zero,List.drop_zero]at hS0
       have HZ:Hid (∃Kb' Rb' Fb' Sb',Ending.returned (.pointer (some ⟨Kb,0,none⟩))=Ending.returned (.pointer (some ⟨Kb',0,none⟩))∧ScIs B Kb' Rb' Fb' Sb' p wr∧Kb'<wr.heap.size∧Below w.heap.size w wr):=
        Lib.hid ⟨Kb,Rb,Fb,Sb,rfl,⟨(HX.out _ hK.out).2,hR.out,hF.out,hS0,HIn.out _ hK.out,Nat.le_trans HD.out.2.2.2 hK.out.size⟩,(HBe.out _ hK.out).2,(HBe.out _ hK.out).1⟩
       clear hR hS0 hF hS hK
       go_wp2_with fail
       go_ret
       exact HZ.out
      ·skip
       obtain⟨j,rfl⟩:∃j,k=j+1:=⟨k - 1,by omega⟩
       have hj:j<p.ss.length:=by omega
       obtain⟨s,hs⟩:∃s,p.ss[j]? =some s:=⟨_,List.getElem?_eq_getElem hj⟩
       have hIw:=HIn.out _ hK.out
       obtain⟨rb,ro,hda,hrb,hrow⟩:=hIw.ss.row (by intro h0;rw[h0]at hj;simp at hj)
       have hsa:=hrow j s hs
       have hnm:=(hIw.ss.sub s (List.mem_of_getElem? hs)).nm
       obtain⟨w9,hput,hm9,hg9⟩:=ValMap.put (w:=wr.drew) (v:=s.t.val) hS.out strK Tryz.underlying169 (n:=p.ss.length - (j+1)) (by unfold maxLen;omega) (str_key hnm)
       have HS9:Hid (ValMap Tryz.prog 9 w9 Sb (p.ss.length - j) (tyF (fun nm=>fieldOf (p.ss.drop j) nm))):=Lib.hid (by
        rw[show p.ss.length - j=p.ss.length - (j+1)+1 by omega]
        exact hm9.congr (tyF_step p.ss j s hs))
       have hk9:Kept (fun x=>x=Sb) wr w9:=(Kept.of_below (Below.refl _ wr).drew).trans (Kept.grown hg9)
       have HR9:Hid (ValMap Tryz.prog 9 w9 Rb p.rs.length (intF (recOf p))):=Lib.hid (hR.out.of_block (hk9.block _ (ValMap.lt hR.out) HD.out.2.1))
       have HF9:Hid (ValMap Tryz.prog 9 w9 Fb p.fs.length (intF (funOf p))):=Lib.hid (hF.out.of_block (hk9.block _ (ValMap.lt hF.out) HD.out.2.2.1))
       have HK9:Hid (K3 Rb Fb Sb w5 w9):=Lib.hid (hK.out.trans (hk9.mono fun x _ e=>Or.inr (Or.inr e)))
       have p1:(j:Int)<(p.ss.length:Int):=by omega
       have p2:(0:Int)≤(j:Int):=Int.natCast_nonneg _
       have p5:decide ((0:Int)≤(j:Int))=true:=by simp
       have p6:(p.ss.length:Int)≤140737488355328:=by omega
       rw[show ((j+1:Nat):Int) - 1=(j:Int) by push_cast;omega]
       have hkc:=HX.out _ hK.out
       have hx0:=cell_at hkc.1 1
       simp only[sl7,sl8,sl9]at hx0
       rw[hda]at hx0
       have HS:Hid (OfT X1 Kb Rb Fb Sb p rb ro j s.nm s.t wr.drew):=Lib.hid ⟨cell_at hkc.2 6,hx0,hsa.c0,hsa.c1,hsa.c2,hsa.c3⟩
       clear hx0
       obtain⟨snm,st⟩:=s
       clear hR hF hS hK hm9 hg9 hk9 hrow hsa hnm hs hk hpos hkc hIw
       rw[hda]
       go_wp2_with fail
       refine wp_region_L (l:=16) (S:=(OfT X1 Kb Rb Fb Sb p rb ro j snm st)) (by kernel_rfl) ?_ (fun hHeld=>?_)
       ·((try dsimp only);(exact HS.out))
       refine tk 0 ?_
       try simp only[sl1,sl2,sl3,Act.put,sl4,sl5,sl6]
       refine tk 1 ?_
       try simp only[sl1,sl2,sl3,Act.put,sl4,sl5,sl6]
       refine tk 2 ?_
       try simp only[sl1,sl2,sl3,Act.put,sl4,sl5,sl6]
       refine tk 3 ?_
       try simp only[sl1,sl2,sl3,Act.put,sl4,sl5,sl6]
       refine tk 4 ?_
       try simp only[sl1,sl2,sl3,Act.put,sl4,sl5,sl6]
       refine tk 5 ?_
       try simp only[sl1,sl2,sl3,Act.put,sl4,sl5,sl6]
       refine tk 6 ?_
       try simp only[sl1,sl2,sl3,Act.put,sl4,sl5,sl6]
       refine tk 7 ?_
       try simp only[sl1,sl2,sl3,Act.put,sl4,sl5,sl6]
       refine tk 8 ?_
       try simp only[sl1,sl2,sl3,Act.put,sl4,sl5,sl6]
       refine tk 9 ?_
       try simp only[sl1,sl2,sl3,Act.put,sl4,sl5,sl6]
       refine tk 10 ?_
       try simp only[sl1,sl2,sl3,Act.put,sl4,sl5,sl6]
       refine tk 11 ?_
       try simp only[sl1,sl2,sl3,Act.put,sl4,sl5,sl6]
       refine tk 12 ?_
       try simp only[sl1,sl2,sl3,Act.put,sl4,sl5,sl6]
       refine tk 13 ?_
       try simp only[sl1,sl2,sl3,Act.put,sl4,sl5,sl6]
       refine tk 14 ?_
       try simp only[sl1,sl2,sl3,Act.put,sl4,sl5,sl6]
       refine tk 15 ?_
       try simp only[sl1,sl2,sl3,Act.put,sl4,sl5,sl6]
       refine wpAnyL_last (j:=16) (o:=_) (by kernel_rfl) rfl (by rfl) (by kernel_rfl) (fun K hK=>?_)
       go_simp
       (refine hK _ _ ?_;clear hK K)
       try simp only[sl1,sl2,sl3,Act.put,sl4,sl5,sl6]
       go_wp2_with fail
       go_roundw
       case rel=>exact⟨j,by go_num,by omega,HK9,HR9,HF9,HS9⟩
       case measure=>first|(simp[intOf];done)|(simp[intOf];omega)
    ·skip
     obtain⟨j,rfl⟩:∃j,k=j+1:=⟨k - 1,by omega⟩
     have hj:j<p.fs.length:=by omega
     obtain⟨s,hs⟩:∃s,p.fs[j]? =some s:=⟨_,List.getElem?_eq_getElem hj⟩
     have hIw:=HIn.out _ hK.out
     obtain⟨rb,ro,hda,hrb,hrow⟩:=hIw.frow (by intro h0;rw[h0]at hj;simp at hj)
     have hsa:=hrow j s hs
     have hnm:=(hIw.fsub s (List.mem_of_getElem? hs)).nm
     obtain⟨w9,hput,hm9,hg9⟩:=ValMap.put (w:=wr.drew) (v:=.int .i64 (j:Int)) hF.out strK Tryz.underlying168 (n:=p.fs.length - (j+1)) (by unfold maxLen;omega) (str_key hnm)
     have HF9:Hid (ValMap Tryz.prog 9 w9 Fb (p.fs.length - j) (intF (idxFrom Fu.nm p.fs j))):=Lib.hid (by
      rw[show p.fs.length - j=p.fs.length - (j+1)+1 by omega]
      exact hm9.congr (intF_step Fu.nm p.fs j s hs))
     have hk9:Kept (fun x=>x=Fb) wr w9:=(Kept.of_below (Below.refl _ wr).drew).trans (Kept.grown hg9)
     have HR9:Hid (ValMap Tryz.prog 9 w9 Rb p.rs.length (intF (recOf p))):=Lib.hid (hR.out.of_block (hk9.block _ (ValMap.lt hR.out) HD.out.1))
     have HS9:Hid (ValMap Tryz.prog 9 w9 Sb (p.ss.length - p.ss.length) (tyF (fun nm=>fieldOf (p.ss.drop p.ss.length) nm))):=Lib.hid (hS.out.of_block (hk9.block _ (ValMap.lt hS.out) (fun e=>HD.out.2.2.1 e.symm)))
     have HK9:Hid (K3 Rb Fb Sb w5 w9):=Lib.hid (hK.out.trans (hk9.mono fun x _ e=>Or.inr (Or.inl e)))
     have p1:(j:Int)<(p.fs.length:Int):=by omega
     have p2:(0:Int)≤(j:Int):=Int.natCast_nonneg _
     have p5:decide ((0:Int)≤(j:Int))=true:=by simp
     have p6:(p.fs.length:Int)≤140737488355328:=by omega
     rw[show ((j+1:Nat):Int) - 1=(j:Int) by push_cast;omega]
     have hkc:=HX.out _ hK.out
     have hx0:=cell_at hkc.1 2
     simp only[sl7,sl8,sl9]at hx0
     rw[hda]at hx0
     have HS:Hid (OfF X1 Kb Rb Fb Sb p rb ro j s.nm wr.drew):=Lib.hid ⟨cell_at hkc.2 5,hx0,hsa.c0⟩
     clear hx0
     generalize s.nm=snm at*
     clear hR hF hS hK hm9 hg9 hk9 hrow hsa hnm hs hk hpos hkc hIw
     rw[hda]
     go_wp2_with fail
     refine wp_region_L (l:=11) (S:=(OfF X1 Kb Rb Fb Sb p rb ro j snm)) (by kernel_rfl) ?_ (fun hHeld=>?_)
     ·((try dsimp only);(exact HS.out))
     exact qtqp1_1
  ·skip
   obtain⟨j,rfl⟩:∃j,k=j+1:=⟨k - 1,by omega⟩
   have hj:j<p.rs.length:=by omega
   obtain⟨s,hs⟩:∃s,p.rs[j]? =some s:=⟨_,List.getElem?_eq_getElem hj⟩
   have hIw:=HIn.out _ hK.out
   obtain⟨rb,ro,hda,hrb,hrow⟩:=hIw.rrow (by intro h0;rw[h0]at hj;simp at hj)
   have hsa:=hrow j s hs
   have hnm:=(hIw.rsub s (List.mem_of_getElem? hs)).nm
   obtain⟨w9,hput,hm9,hg9⟩:=ValMap.put (w:=wr.drew) (v:=.int .i64 (j:Int)) hR.out strK Tryz.underlying168 (n:=p.rs.length - (j+1)) (by unfold maxLen;omega) (str_key hnm)
   have HR9:Hid (ValMap Tryz.prog 9 w9 Rb (p.rs.length - j) (intF (idxFrom Re.nm p.rs j))):=Lib.hid (by
    rw[show p.rs.length - j=p.rs.length - (j+1)+1 by omega]
    exact hm9.congr (intF_step Re.nm p.rs j s hs))
   have hk9:Kept (fun x=>x=Rb) wr w9:=(Kept.of_below (Below.refl _ wr).drew).trans (Kept.grown hg9)
   have HF9:Hid (ValMap Tryz.prog 9 w9 Fb (p.fs.length - p.fs.length) (intF (idxFrom Fu.nm p.fs p.fs.length))):=Lib.hid (hF.out.of_block (hk9.block _ (ValMap.lt hF.out) (fun e=>HD.out.1 e.symm)))
   have HS9:Hid (ValMap Tryz.prog 9 w9 Sb (p.ss.length - p.ss.length) (tyF (fun nm=>fieldOf (p.ss.drop p.ss.length) nm))):=Lib.hid (hS.out.of_block (hk9.block _ (ValMap.lt hS.out) (fun e=>HD.out.2.1 e.symm)))
   have HK9:Hid (K3 Rb Fb Sb w5 w9):=Lib.hid (hK.out.trans (hk9.mono fun x _ e=>Or.inl e))
   have p1:(j:Int)<(p.rs.length:Int):=by omega
   have p2:(0:Int)≤(j:Int):=Int.natCast_nonneg _
   have p5:decide ((0:Int)≤(j:Int))=true:=by simp
   have p6:(p.rs.length:Int)≤140737488355328:=by omega
   rw[show ((j+1:Nat):Int) - 1=(j:Int) by push_cast;omega]
   have hkc:=HX.out _ hK.out
   have hx0:=cell_at hkc.1 0
   simp only[sl7,sl8,sl9]at hx0
   rw[hda]at hx0
   have HS:Hid (OfR X1 Kb Rb Fb Sb p rb ro j s.nm wr.drew):=Lib.hid ⟨cell_at hkc.2 4,hx0,hsa.c0⟩
   clear hx0
   generalize s.nm=snm at*
   clear hR hF hS hK hm9 hg9 hk9 hrow hsa hnm hs hk hpos hkc hIw
   rw[hda]
   go_wp2_with fail
   refine wp_region_L (l:=11) (S:=(OfR X1 Kb Rb Fb Sb p rb ro j snm)) (by kernel_rfl) ?_ (fun hHeld=>?_)
   ·((try dsimp only);(exact HS.out))
   exact qtqp1_1
end Go.Proofs.YtkklogikakcanaaGreatDoor
namespace Go.Proofs.YtkklogikakcanaaGreatDoor
open Go Go.Maps Go.RowKit
theorem sassert_yes (er:Int) (w:World):(Instr.typeAssert (.iface 128 (.int .i64 er)) 20 128 true).run Tryz.prog w=.ok (.tuple #[.int .i64 er,.bool true]) w:=by first|kernel_rfl|rfl
theorem sassert_no (w:World):(Instr.typeAssert .nilIface 20 128 true).run Tryz.prog w=.ok (.tuple #[.int .i64 0,.bool false]) w:=by first|kernel_rfl|rfl
set_option maxRecDepth 100000 in
theorem scatch_panic (p p2:Addr) (x er:Int) (older:List PanicEntry) (w:World) (hc:w.cell? p=some (.int .i64 x)) (hz:w.frozen? p=false):
  CallsD Tryz.prog 77 #[.pointer (some p),.pointer (some p2)] (.panicking ({ v:=.iface 128 (.int .i64 er),recovered:=false }::older)) w fun e u' w'=>
   e=.returned (.tuple #[])∧u'=.panicking ({ v:=.iface 128 (.int .i64 er),recovered:=true }::older)∧w'=w.setCell p (.int .i64 er):=by
 refine callsD_of_wpS Tryz.func77 rfl fun c₀ cs hu=>?_
 apply wpS_seq
 apply wpS_region
 have ta:=sassert_yes
 have tb:=sassert_no
 simp[wpOpsS,go_sem,recoverD,hu,Tryz.ntmps77,Exit.thenS,ta,tb]
 apply wpS_seq
 apply wpS_region
 simp[wpOpsS,go_sem,Exit.thenS]
 refine wpS_cond (t:=true) (by simp[Act.eval,Array.replicate]) ?_
 simp only[if_true]
 apply wpS_region
 simp[wpOpsS,go_sem,hc,hz,bodyPostS,results,Tryz.results77]
set_option maxRecDepth 100000 in
theorem scatch_idle (p p2:Addr) (x:Int) (w:World) (hc:w.cell? p2=some (.int .i64 x)) (hz:w.frozen? p2=false):
  CallsD Tryz.prog 77 #[.pointer (some p),.pointer (some p2)] .returning w fun e u' w'=>e=.returned (.tuple #[])∧u'=.returning∧w'=w.setCell p2 (.int .i64 0):=by
 refine callsD_of_wpS Tryz.func77 rfl fun c₀ cs hu=>?_
 apply wpS_seq
 apply wpS_region
 have ta:=sassert_yes
 have tb:=sassert_no
 simp[wpOpsS,go_sem,recoverD,hu,Tryz.ntmps77,Exit.thenS,ta,tb]
 apply wpS_seq
 apply wpS_region
 simp[wpOpsS,go_sem,Exit.thenS]
 refine wpS_cond (t:=false) (by simp[Act.eval,Array.replicate]) ?_
 simp only[Bool.false_eq_true,if_false]
 apply wpS_region
 cases c₀
 simp_all[wpOpsS,go_sem,hc,hz,bodyPostS,results,Tryz.results77]
def scFaultR:Sc→Int×Int
 |.bad q e=>(q,e)
 |.on _=>(0,0)
theorem scFault_r (p:Pr):scFault p=scFaultR (scPr p):=by
 unfold scFault scFaultR
 cases scPr p<;>rfl
set_option maxHeartbeats 4000000 in
set_option maxRecDepth 100000 in
theorem scopeFault_any (B:Nat) (p:Pr) (w:World) (hI:PrIn w B p) (hB:B≤w.heap.size) (G:NumG B w) (hgf:∀f∈p.fs,stsGood f.body) (hgt:∀t∈p.ts,stsGood t.l) (hN:placesOf p≤1000000):
  Calls Tryz.prog 39 #[p.val] w fun e w'=>e=.returned (.tuple #[.int .i64 (scFault p).1,.int .i64 (scFault p).2])∧Below w.heap.size w w':=by
 obtain⟨F,hF⟩:∃F,scFault p=F:=⟨_,rfl⟩
 have HFo:=scFault_r p
 rw[hF]at HFo ⊢
 have HFo:=Lib.hid HFo
 have hmf:∀(fn:Fn) (first cap:Array Value) (w:World),(Instr.makeFunc fn first cap).run Tryz.prog w=.ok (.func fn first cap) w:=fun _ _ _ _=>rfl
 obtain⟨X,hX⟩:∃X,w.heap.size=X:=⟨_,rfl⟩
 obtain⟨w1,hw1⟩:∃w1,w.alloc (prObj p)=w1:=⟨_,rfl⟩
 obtain⟨Pb,hPb⟩:∃Pb,w1.heap.size=Pb:=⟨_,rfl⟩
 obtain⟨w2,hw2⟩:∃w2,w1.alloc (.cells #[.int .i64 (-1)] 3 (0,0))=w2:=⟨_,rfl⟩
 obtain⟨E,hE⟩:∃E,w2.heap.size=E:=⟨_,rfl⟩
 obtain⟨w4,hw4⟩:∃w4,w2.alloc (.cells #[.int .i64 0] 31 (0,0))=w4:=⟨_,rfl⟩
 have hb1:Below w.heap.size w w1:=by rw[←hw1];exact (Below.refl _ _).alloc (Nat.le_refl _) _
 have hb2:Below w1.heap.size w1 w2:=by rw[←hw2];exact (Below.refl _ _).alloc (Nat.le_refl _) _
 have hb3:Below w2.heap.size w2 w4:=by rw[←hw4];exact (Below.refl _ _).alloc (Nat.le_refl _) _
 have s1:w1.heap.size=X+1:=by rw[←hw1,World.size_alloc,hX]
 have s2:w2.heap.size=Pb+1:=by rw[←hw2,World.size_alloc,hPb]
 have s4:w4.heap.size=E+1:=by rw[←hw4,World.size_alloc,hE]
 have b14:Below w1.heap.size w1 w4:=hb2.trans (hb3.mono hb2.size)
 have b04:Below w.heap.size w w4:=hb1.trans (b14.mono hb1.size)
 have hPE:Pb≠E:=by omega
 have x4:w4.heap[X]? =some (prObj p):=(b14.block X (by omega)).trans (by rw[←hw1,←hX];exact heap_alloc_new w _)
 have p4:PlAt Pb (-1) w4:=(hb3.block Pb (by omega)).trans (by rw[←hw2,←hPb];exact heap_alloc_new w1 _)
 have e4:w4.heap[E]? =some (.cells #[.int .i64 0] 31 (0,0)):=by rw[←hw4,←hE];exact heap_alloc_new w2 _
 have HOf:=Lib.hid (scopeOf_any B p w4 (hI.keep (b04.mono hB) (Nat.le_refl B)) (by omega))
 have HG4:Hid (∀W,Below w4.heap.size w4 W→NumG B W):=Lib.hid fun W hb=>G.keep ((b04.trans (hb.mono b04.size)).mono hB)
 have HB4:=Lib.hid b04
 have HNs:Hid (B≤Pb∧Pb≠E∧E<w4.heap.size∧w.heap.size≤Pb∧w.heap.size≤E∧Pb<w4.heap.size):=Lib.hid (by omega)
 have HE4:=Lib.hid e4
 have HP4:=Lib.hid p4
 have HN:Hid (w.heap.size=X∧X+1=Pb∧Pb+1=E∧((w.alloc (prObj p)).alloc (.cells #[.int .i64 (-1)] 3 (0,0))).alloc (.cells #[.int .i64 0] 31 (0,0))=w4):=Lib.hid ⟨hX,by omega,by omega,by rw[hw1,hw2,hw4]⟩
 have HGd:=Lib.hid (And.intro hgf (And.intro hgt hN))
 have q0:=cell_at x4 0
 have q1:=cell_at x4 1
 have q2:=cell_at x4 2
 have q3:=cell_at x4 3
 simp only[sl7,sl8,sl9]at q0 q1 q2 q3
 clear hF hI hB G hgf hgt hN hX hw1 hPb hw2 hE hw4 hb1 hb2 hb3 s1 s2 s4 b14 hPE b04 x4 p4 e4
 go_enter_defers Tryz.func39,Tryz.ntmps39
 go_wp2_with fail
 simp only[HN.out.2.2.2]
 refine HOf.out.mono ?_
 rintro e w5 ⟨Kb,Rb,Fb,Sb,rfl,hsc,hKl,hb5⟩
 have hk5:Kq Pb w4 w5:=Kept.of_below hb5
 have hpl:PlAt Pb (-1) w5:=(hb5.block Pb HNs.out.2.2.2.2.2).trans HP4.out
 have hne1:Pb≠Kb:=by
  rintro rfl
  have h1:=hsc.k
  have h2:=hpl
  unfold PlAt at h2
  rw[h2]at h1
  simp at h1
 have hne (q:Nat) (n:Nat) (f:Lit→Option Value) (h:ValMap Tryz.prog 9 w5 q n f):Pb≠q:=by
  rintro rfl
  obtain⟨es,ck,h1⟩:=h.block
  have h2:=hpl
  unfold PlAt at h2
  rw[h2]at h1
  simp at h1
 have hT:ScP B Kb Rb Fb Sb Pb p (-1) w5:=⟨hsc,HG4.out _ hb5,hpl,HNs.out.1,hne1,hne _ _ _ hsc.recs,hne _ _ _ hsc.funs,hne _ _ _ hsc.shs⟩
 have C:=Lib.hid (scopeProg_any B Kb Rb Fb Sb Pb p w5 hT HGd.out.1 HGd.out.2.1 HGd.out.2.2)
 have HK5:Hid (∀W,Kq Pb w5 W→W.heap[E]? =some (.cells #[.int .i64 0] 31 (0,0))∧Below w.heap.size w W):=Lib.hid fun W hk=>
  ⟨(hk.block E (by have:=HNs.out;have:=hb5.size;omega) (fun e=>HNs.out.2.1 e.symm)).trans ((hb5.block E HNs.out.2.2.1).trans HE4.out),
   HB4.out.trans ((hb5.mono HB4.out.size).trans (Kept.below hk (Nat.le_trans HB4.out.size hb5.size) (fun k e=>by rw[e];exact HNs.out.2.2.2.1)))⟩
 simp only[HN.out.1,HN.out.2.1,HN.out.2.2.1]
 clear hsc hKl hb5 hk5 hpl hne1 hne hT q0 q1 q2 q3
 go_wp2_with fail
 generalize scPr p=R at*
 cases R with
 |bad q er=>
  obtain rfl:F=(q,er):=HFo.out
  with_reducible refine C.out.mono ?_
  rintro e w6 ⟨⟨rfl,hp6⟩,hk6⟩
  have hE6:=(HK5.out _ hk6).1
  have c3:=cell_at hE6 0
  have z3:=frz_at hE6 0
  have p3:=cell_at hp6 0
  simp only[sl7,sl8]at c3 p3
  have HF:=Lib.hid (HK5.out _ hk6).2
  have hpe:Pb≠E:=HNs.out.2.1
  clear hE6 hk6 hp6 C
  refine leaves_cons (f:=77) (args:=#[.pointer (some ⟨E,0,none⟩),.pointer (some ⟨Pb,0,none⟩)]) (by simp) (by simp[go_sem]) ?_
  refine (scatch_panic ⟨E,0,none⟩ ⟨Pb,0,none⟩ 0 er [] w6 c3 z3).mono ?_
  rintro e u' w'' ⟨rfl,rfl,rfl⟩
  have g3:=World.cell?_setCell_same w6 ⟨E,0,none⟩ (.int .i64 er) c3
  have g4:(w6.setCell ⟨E,0,none⟩ (.int .i64 er)).cell? ⟨Pb,0,none⟩=some (.int .i64 q):=(World.cell?_setCell_other _ _ _ _ (fun h=>by injection h with h1;exact hpe h1.symm)).trans p3
  have HZ:Below w.heap.size w (w6.setCell ⟨E,0,none⟩ (.int .i64 er)):=HF.out.setCell (p:=⟨E,0,none⟩) HNs.out.2.2.2.2.1 _
  simp[Leaves,settle,results,Tryz.results39,go_sem,g3,g4,HZ]
 |on a=>
  obtain rfl:F=(0,0):=HFo.out
  with_reducible refine C.out.mono ?_
  rintro e w6 ⟨⟨rfl,hp6⟩,hk6⟩
  have hE6:=(HK5.out _ hk6).1
  have c3:=cell_at hE6 0
  have z3:=frz_at hE6 0
  have p3:=cell_at hp6 0
  have y3:=frz_at hp6 0
  simp only[sl7,sl8]at c3 p3
  have HF:=Lib.hid (HK5.out _ hk6).2
  have hpe:Pb≠E:=HNs.out.2.1
  clear hE6 hk6 hp6 C
  go_wp2_with fail
  have e1:(w6.setCell ⟨Pb,0,none⟩ (.int .i64 0)).cell? ⟨E,0,none⟩=some (.int .i64 0):=(World.cell?_setCell_other _ _ _ _ (fun h=>by injection h with h1;exact hpe h1)).trans c3
  have e2:(w6.setCell ⟨Pb,0,none⟩ (.int .i64 0)).cell? ⟨Pb,0,none⟩=some (.int .i64 0):=World.cell?_setCell_same w6 ⟨Pb,0,none⟩ (.int .i64 0) p3
  obtain⟨w7,hw7⟩:∃w7,(w6.setCell ⟨Pb,0,none⟩ (.int .i64 0)).setCell ⟨E,0,none⟩ (.int .i64 0)=w7:=⟨_,rfl⟩
  have g1:w7.cell? ⟨E,0,none⟩=some (.int .i64 0):=by rw[←hw7];exact World.cell?_setCell_same _ ⟨E,0,none⟩ (.int .i64 0) e1
  have g2:w7.cell? ⟨Pb,0,none⟩=some (.int .i64 0):=by rw[←hw7];exact (World.cell?_setCell_other _ _ _ _ (fun h=>by injection h with h1;exact hpe h1.symm)).trans e2
  have g0:w7.frozen? ⟨Pb,0,none⟩=false:=by rw[←hw7];simpa using y3
  have HF7:Below w.heap.size w w7:=by rw[←hw7];exact (HF.out.setCell (p:=⟨Pb,0,none⟩) HNs.out.2.2.2.1 _).setCell (p:=⟨E,0,none⟩) HNs.out.2.2.2.2.1 _
  rw[hw7]
  clear hw7 e1 e2 c3 z3 p3 y3
  refine leaves_cons (f:=77) (args:=#[.pointer (some ⟨E,0,none⟩),.pointer (some ⟨Pb,0,none⟩)]) (by simp) (by simp[go_sem]) ?_
  refine (scatch_idle ⟨E,0,none⟩ ⟨Pb,0,none⟩ 0 w7 g2 g0).mono ?_
  rintro e u' w'' ⟨rfl,rfl,rfl⟩
  have g3:=World.cell?_setCell_same w7 ⟨Pb,0,none⟩ (.int .i64 0) g2
  have g4:(w7.setCell ⟨Pb,0,none⟩ (.int .i64 0)).cell? ⟨E,0,none⟩=some (.int .i64 0):=(World.cell?_setCell_other _ _ _ _ (fun h=>by injection h with h1;exact hpe h1)).trans g1
  have HZ:Below w.heap.size w (w7.setCell ⟨Pb,0,none⟩ (.int .i64 0)):=HF7.setCell (p:=⟨Pb,0,none⟩) HNs.out.2.2.2.1 _
  simp[Leaves,settle,results,Tryz.results39,go_sem,g3,g4,HZ]
end Go.Proofs.YtkklogikakcanaaGreatDoor
