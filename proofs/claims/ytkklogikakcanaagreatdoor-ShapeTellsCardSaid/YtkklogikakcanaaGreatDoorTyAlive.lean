import Derived.Test.YtkklogikakcanaaGreatDoorTypesA
import Derived.Test.YtkklogikakcanaaGreatDoorScopePlain
import Derived.Test.YtkklogikakcanaaGreatDoorWordGlobs
import Derived.Test.YtkklogikakcanaaGreatDoorTreeOpen
set_option linter.unusedVariables false
set_option linter.unusedSimpArgs false
open List renaming getElem?_toArray → sl7, getElem?_cons_zero → sl8, getElem?_cons_succ → sl9
namespace Go.Proofs.YtkklogikakcanaaGreatDoor
open Go Go.RowKit
abbrev thObj (S1:Nat):Obj:=.cells #[.slice (some ⟨S1,0,none⟩) 1 1] 51 (0,0)
abbrev sObj (k:Int) (x:Ex):Obj:=stObj k [] ty0 x x0 none 0 0 none 0 0
theorem ty0_ok:ty0.Ok:=⟨by unfold u8ok;decide,by simp[lenOk,ty0],by unfold i64ok;decide⟩
theorem ex_leaf {w:World} {B:Nat} {k n:Int} {nm:List UInt8} (hk:u8ok k) (hn:i64ok n) (hnm:lenOk nm.length):ExIn w B (.mk k n nm ty0 hdN []):=
 .mk hk hn hnm ty0_ok (by simp[lenOk]) (fun h=>absurd rfl h) (fun y hy=>by simp at hy)
theorem fls0_in {w:World} {B:Nat}:FlsIn w B hdN []:=⟨by simp[lenOk],fun h=>absurd rfl h,fun f hf=>by simp at hf⟩
theorem prO_in {w:World} {S1 S2:Nat} {k:Int} {x:Ex} (hk:u8ok k) (h1:w.heap[S1]? =some (sObj k x)) (h2:w.heap[S2]? =some (thObj S1)) (hx:ExIn w w.heap.size x):PrIn w w.heap.size (prO S1 S2 (sO k x)):=
 ⟨by simp[lenOk],fun h=>absurd rfl h,fun r hr=>by simp at hr,fls0_in,by simp[lenOk],fun h=>absurd rfl h,fun r hr=>by simp at hr,by simp[lenOk],
  fun _=>⟨S2,0,rfl,(Array.getElem?_eq_some_iff.1 h2).1,fun i y hy=>by
   match i,hy with
   |0,hy=>cases hy;exact⟨cell_at h2 0⟩
   |n+1,hy=>simp at hy⟩,
  fun t ht=>by
   rw[List.mem_singleton]at ht
   subst ht
   exact⟨by simp[lenOk],fun _=>⟨S1,0,rfl,(Array.getElem?_eq_some_iff.1 h1).1,fun i y hy=>by
    match i,hy with
    |0,hy=>
     cases hy
     exact⟨cell_at h1 0,cell_at h1 1,cell_at h1 2,cell_at h1 3,cell_at h1 4,⟨cell_at h1 5,cell_at h1 6,cell_at h1 7,cell_at h1 8,cell_at h1 9,cell_at h1 10,cell_at h1 11⟩,
      ⟨cell_at h1 12,cell_at h1 13,cell_at h1 14,cell_at h1 15,cell_at h1 16,cell_at h1 17,cell_at h1 18⟩,cell_at h1 19,cell_at h1 20⟩
    |n+1,hy=>simp at hy⟩,fun s hs=>by
     rw[List.mem_singleton]at hs
     subst hs
     exact .mk hk (by simp[lenOk]) ty0_ok hx (ex_leaf (by unfold u8ok;decide) (by unfold i64ok;decide) (by simp[lenOk])) (by simp[lenOk]) (by simp[lenOk]) (fun h=>absurd rfl h) (fun h=>absurd rfl h) (fun s hs=>by simp at hs) (fun s hs=>by simp at hs)⟩⟩
theorem four_allocs (w:World) (o1 o2 o3 o4:Obj):Below w.heap.size w ((((w.alloc o1).alloc o2).alloc o3).alloc o4)∧((((w.alloc o1).alloc o2).alloc o3).alloc o4).heap[w.heap.size+1]? =some o2∧
  ((((w.alloc o1).alloc o2).alloc o3).alloc o4).heap[w.heap.size+1+1]? =some o3∧((((w.alloc o1).alloc o2).alloc o3).alloc o4).heap[w.heap.size+1+1+1]? =some o4:=by
 obtain⟨w1,hw1⟩:∃w1,w.alloc o1=w1:=⟨_,rfl⟩
 obtain⟨w2,hw2⟩:∃w2,w1.alloc o2=w2:=⟨_,rfl⟩
 obtain⟨w3,hw3⟩:∃w3,w2.alloc o3=w3:=⟨_,rfl⟩
 obtain⟨w4,hw4⟩:∃w4,w3.alloc o4=w4:=⟨_,rfl⟩
 have hs1:w1.heap.size=w.heap.size+1:=by rw[←hw1];exact World.size_alloc _ _
 have hs2:w2.heap.size=w.heap.size+1+1:=by rw[←hw2,←hs1];exact World.size_alloc _ _
 have hs3:w3.heap.size=w.heap.size+1+1+1:=by rw[←hw3,←hs2];exact World.size_alloc _ _
 have hb1:Below w.heap.size w w1:=by rw[←hw1];exact (Below.refl _ _).alloc (Nat.le_refl _) _
 have hb2:Below w1.heap.size w1 w2:=by rw[←hw2];exact (Below.refl _ _).alloc (Nat.le_refl _) _
 have hb3:Below w2.heap.size w2 w3:=by rw[←hw3];exact (Below.refl _ _).alloc (Nat.le_refl _) _
 have hb4:Below w3.heap.size w3 w4:=by rw[←hw4];exact (Below.refl _ _).alloc (Nat.le_refl _) _
 have hb34:Below w2.heap.size w2 w4:=hb3.trans (hb4.mono hb3.size)
 have hb24:Below w1.heap.size w1 w4:=hb2.trans (hb34.mono hb2.size)
 rw[hw1,hw2,hw3,hw4]
 refine⟨hb1.trans (hb24.mono hb1.size),(hb34.block _ (by omega)).trans ?_,(hb4.block _ (by omega)).trans ?_,?_⟩
 ·rw[←hw2,←hs1];exact heap_alloc_new w1 _
 ·rw[←hw3,←hs2];exact heap_alloc_new w2 _
 ·rw[←hw4,←hs3];exact heap_alloc_new w3 _
theorem foldl_set:∀(vs pre rest:List Value),rest.length=vs.length→(vs.zipIdx pre.length).foldl (fun cs x=>cs.setIfInBounds x.2 x.1) (pre++rest).toArray=(pre++vs).toArray
 |[],pre,rest,h=>by
  obtain rfl:rest=[]:=List.eq_nil_of_length_eq_zero h
  simp
 |v::vs,pre,[],h=>by simp at h
 |v::vs,pre,r::rest,h=>by
  have ih:=foldl_set vs (pre++[v]) rest (by simpa using h)
  rw[List.zipIdx_cons,List.foldl_cons]
  have e:(pre++r::rest).toArray.setIfInBounds pre.length v=((pre++[v])++rest).toArray:=by
   simp[List.set_append]
  rw[e,show pre.length+1=(pre++[v]).length by simp,ih]
  simp
set_option maxHeartbeats 4000000 in
set_option maxRecDepth 100000 in
theorem one_any (k:Int) (x:Ex) (hk:0≤k∧k≤255) (w:World) (hx:∀W,Below w.heap.size w W→ExIn W W.heap.size x):
  Calls Tryz.prog 51 #[stAgg k [] ty0 x x0 none 0 0 none 0 0] w fun e w'=>∃S1 S2,e=.returned (prO S1 S2 (sO k x)).val∧PrIn w' w'.heap.size (prO S1 S2 (sO k x))∧Below w.heap.size w w':=by
 have HX:=Lib.hid hx
 have Hk:=Lib.hid hk
 clear hx hk
 obtain⟨vs,hvs⟩:∃vs:List Value,stCells k [] ty0 x x0 none 0 0 none 0 0=vs:=⟨_,rfl⟩
 have hsz:(Tryz.prog.info? 72).map (·.size)=some vs.length:=by rw[←hvs];exact stSize ..
 have hon:vs.toArray.all (·.oneCell')=true:=by rw[←hvs];exact stOne ..
 have hso:sObj k x=.cells vs.toArray 72 (0,0):=by rw[←hvs]
 rw[show stAgg k [] ty0 x x0 none 0 0 none 0 0=.agg vs.toArray by rw[←hvs]]
 have hz:∀j v,vs[j]? =some v→((w.alloc (.cells vs.toArray 72 (0,0))).alloc (.cells #[.slice none 0 0,.slice none 0 0,.slice none 0 0,.slice none 0 0] 27 (0,0))).cell? ((⟨w.heap.size,0,none⟩:Addr).add j)=some v:=by
  have hb:Below (w.alloc (.cells vs.toArray 72 (0,0))).heap.size (w.alloc (.cells vs.toArray 72 (0,0))) ((w.alloc (.cells vs.toArray 72 (0,0))).alloc (.cells #[.slice none 0 0,.slice none 0 0,.slice none 0 0,.slice none 0 0] 27 (0,0))):=(Below.refl _ _).alloc (Nat.le_refl _) _
  exact row_cells ((hb.block _ (by rw[World.size_alloc];omega)).trans (heap_alloc_new w _))
 have hfo:List.foldl (fun cs x=>cs.setIfInBounds x.snd x.fst) #[Value.int .u8 0,.string ⟨#[]⟩,.int .u8 0,.string ⟨#[]⟩,.int .i64 0,.int .u8 0,.int .i64 0,.string ⟨#[]⟩,.int .u8 0,.string ⟨#[]⟩,.int .i64 0,.slice none 0 0,.int .u8 0,.int .i64 0,.string ⟨#[]⟩,.int .u8 0,.string ⟨#[]⟩,.int .i64 0,.slice none 0 0,.slice none 0 0,.slice none 0 0] vs.zipIdx=vs.toArray:=by
  have h:=foldl_set vs [] [Value.int .u8 0,.string ⟨#[]⟩,.int .u8 0,.string ⟨#[]⟩,.int .i64 0,.int .u8 0,.int .i64 0,.string ⟨#[]⟩,.int .u8 0,.string ⟨#[]⟩,.int .i64 0,.slice none 0 0,.int .u8 0,.int .i64 0,.string ⟨#[]⟩,.int .u8 0,.string ⟨#[]⟩,.int .i64 0,.slice none 0 0,.slice none 0 0,.slice none 0 0] (by rw[←hvs];rfl)
  exact h
 have hlen:vs.length=21:=by rw[←hvs];rfl
 have Hfo:=Lib.hid hfo
 have Hso:=Lib.hid hso
 clear hso hvs hfo
 go_enter Tryz.func51,Tryz.ntmps51
 go_wp2_with (refine wpList_load_list rfl 72 _ rfl _ rfl vs _ hz Tryz.underlying72 rfl hsz ?_)
 rw[Hfo.out]
 simp only[Hso.out.symm]
 have F:=four_allocs w (sObj k x)
  (.cells #[.slice none 0 0,.slice none 0 0,.slice none 0 0,.slice (some ⟨w.heap.size+1+1+1,0,none⟩) 1 1] 27 (0,0)) (sObj k x) (thObj (w.heap.size+1+1))
 have c0:=cell_at F.2.1 0
 have c1:=cell_at F.2.1 1
 have c2:=cell_at F.2.1 2
 have c3:=cell_at F.2.1 3
 simp only[sl7,sl8,sl9]at c0 c1 c2 c3
 have HF:=Lib.hid F
 clear F
 refine bodyPost_ret (v:=(prO (w.heap.size+1+1) (w.heap.size+1+1+1) (sO k x)).val) (by simp[results,Tryz.results51,go_sem,c0,c1,c2,c3]) rfl ?_
 exact⟨_,_,rfl,prO_in Hk.out HF.out.2.2.1 HF.out.2.2.2 (HX.out _ HF.out.1),HF.out.1⟩
structure TyG (B:Nat) (w:World):Prop where
 gl:GlB B w
 num:NumG B w
 gg:Globs w
theorem TyG.below {B:Nat} {w w':World} (h:TyG B w) (hb:Below w.heap.size w w'):TyG w'.heap.size w'∧TyG B w':=by
 have h1:=h.gl.below (hb.mono h.gl.le)
 have h2:=h.num.keep (hb.mono h.gl.le)
 have h3:=h.gg.below hb
 exact⟨⟨GlB.of h1.g,⟨h2.c0,h2.c1,h2.c2,h2.c3,Nat.lt_of_lt_of_le h2.lt h1.le⟩,h3⟩,⟨h1,h2,h3⟩⟩
set_option maxHeartbeats 8000000 in
set_option maxRecDepth 100000 in
theorem alive05_any (w:World) (G:TyG w.heap.size w):
  Calls Tryz.prog 15 #[] w fun e w'=>e=.returned (.bool true)∧Below w.heap.size w w':=by
 have HG:Hid (∀W,Below w.heap.size w W→GlB W.heap.size W∧NumG W.heap.size W∧True):=Lib.hid fun W hb=>⟨(G.below hb).1.gl,(G.below hb).1.num,trivial⟩
 have HB0:Hid (Below w.heap.size w w):=Lib.hid (Below.refl _ _)
 clear G
 go_enter Tryz.func15,Tryz.ntmps15
 go_wp2_with fail
 refine (one_any 6 (.mk 1 1 [] ty0 hdN []) (by decide) w (fun _ _=>ex_leaf (by unfold u8ok;decide) (by unfold i64ok;decide) (by simp[lenOk]))).mono ?_
 rintro e w1 ⟨S1,S2,rfl,hIn,hb⟩
 have HBw1:Hid (Below w.heap.size w w1):=Lib.hid (HB0.out.trans (hb.mono HB0.out.size))
 have gg:=HG.out _ HBw1.out
 have CC:=typesCheck_any w1.heap.size _ w1 gg.1 gg.2.1 hIn
 rw[one_good]at CC
 clear hb hIn
 go_wp2_with fail
 refine CC.mono ?_
 clear CC gg
 rintro e w2 ⟨rfl,hb⟩
 have HBw2:Hid (Below w.heap.size w w2):=Lib.hid (HBw1.out.trans (hb.mono HBw1.out.size))
 clear hb
 go_wp2_with fail
 refine (one_any 6 (.mk 2 0 [] ty0 hdN []) (by decide) w2 (fun _ _=>ex_leaf (by unfold u8ok;decide) (by unfold i64ok;decide) (by simp[lenOk]))).mono ?_
 rintro e w3 ⟨S1,S2,rfl,hIn,hb⟩
 have HBw3:Hid (Below w.heap.size w w3):=Lib.hid (HBw2.out.trans (hb.mono HBw2.out.size))
 have gg:=HG.out _ HBw3.out
 have CC:=typesCheck_any w3.heap.size _ w3 gg.1 gg.2.1 hIn
 rw[one_nil]at CC
 clear hb hIn
 go_wp2_with fail
 refine CC.mono ?_
 clear CC gg
 rintro e w4 ⟨rfl,hb⟩
 have HBw4:Hid (Below w.heap.size w w4):=Lib.hid (HBw3.out.trans (hb.mono HBw3.out.size))
 clear hb
 go_wp2_with fail
 refine (one_any 6 (.mk 3 0 [120] ty0 hdN []) (by decide) w4 (fun _ _=>ex_leaf (by unfold u8ok;decide) (by unfold i64ok;decide) (by simp[lenOk]))).mono ?_
 rintro e w5 ⟨S1,S2,rfl,hIn,hb⟩
 have HBw5:Hid (Below w.heap.size w w5):=Lib.hid (HBw4.out.trans (hb.mono HBw4.out.size))
 have gg:=HG.out _ HBw5.out
 have CC:=typesCheck_any w5.heap.size _ w5 gg.1 gg.2.1 hIn
 rw[one_name]at CC
 clear hb hIn
 go_wp2_with fail
 refine CC.mono ?_
 clear CC gg
 rintro e w6 ⟨rfl,hb⟩
 have HBw6:Hid (Below w.heap.size w w6):=Lib.hid (HBw5.out.trans (hb.mono HBw5.out.size))
 clear hb
 go_wp2_with fail
 refine (one_any 0 x0 (by decide) w6 (fun _ _=>ex_leaf (by unfold u8ok;decide) (by unfold i64ok;decide) (by simp[lenOk]))).mono ?_
 rintro e w7 ⟨S1,S2,rfl,hIn,hb⟩
 have HBw7:Hid (Below w.heap.size w w7):=Lib.hid (HBw6.out.trans (hb.mono HBw6.out.size))
 have CC:=places_any w7.heap.size _ w7 hIn (Nat.le_refl _) (by rw[one_places _ _ _ rfl rfl];decide)
 rw[one_places _ _ _ rfl rfl]at CC
 clear hb hIn
 go_wp2_with fail
 refine CC.mono ?_
 clear CC
 rintro e w8 ⟨rfl,hb⟩
 have HBw8:Hid (Below w.heap.size w w8):=Lib.hid (HBw7.out.trans (hb.mono HBw7.out.size))
 clear hb
 go_wp2_with fail
 go_ret
 exact⟨rfl,HBw8.out⟩
end Go.Proofs.YtkklogikakcanaaGreatDoor
