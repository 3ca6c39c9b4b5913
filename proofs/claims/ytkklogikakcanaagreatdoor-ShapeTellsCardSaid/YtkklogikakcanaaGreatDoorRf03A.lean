import Derived.Test.YtkklogikakcanaaGreatDoorLexRefWordsT
import Derived.Test.YtkklogikakcanaaGreatDoorTreeE
import Derived.Test.YtkklogikakcanaaGreatDoorTreeL
import Derived.Test.YtkklogikakcanaaGreatDoorSizeA
import Derived.Test.YtkklogikakcanaaGreatDoorScopePlain
set_option linter.unusedVariables false
set_option linter.unusedSimpArgs false
open List renaming getElem?_toArray → sl7, getElem?_cons_zero → sl8, getElem?_cons_succ → sl9
namespace Go.Proofs.YtkklogikakcanaaGreatDoor
open Go.RowKit
theorem q3ie2_4 {P:Prop} (h:P:=by
 go_wp2_with fail
 go_at_call 126
 refine C.out.mono ?_
 rintro en w1 ⟨rfl,hs,hk⟩
 have HS:=Lib.hid hs
 have HK1:=Lib.hid hk
 clear hs hk
 go_wp2
 go_end0
 exact⟨rfl,HS.out,HK1.out⟩):P:=h
theorem q3ie2_3 {P:Prop} (h:P:=by
 by_cases hb0:nb=0
 ·subst hb0
  by_cases he0:ne=0
  ·subst he0
   exact q3ie2_1
  ·have e1:decide (0<(ne:Int))=true:=by simp;omega
   have e2:decide (0<ne)=true:=by simp;omega
   have e3:0<ne:=by omega
   clear he0
   exact q3ie2_1
 ·have e1:decide (0<(nb:Int))=true:=by simp;omega
  have e2:decide (0<nb)=true:=by simp;omega
  have e3:0<nb:=by omega
  clear hb0
  exact q3ie2_1):P:=h
theorem q3ie2_2 {P:Prop} (h:P:=by
 cases hb:nameB nm with
 |true=>
  rw[hb]at CN
  have HN:=Lib.hid hb
  clear hb
  go_enter Tryz.func185,Tryz.ntmps185
  go_wp2_with (first|(go_at_call 192;with_reducible refine (CA.out _).mono ?_;rintro e w1 ⟨rfl,rfl⟩)|(go_at_call 98;refine (CN.out _).mono ?_;rintro e w1 ⟨rfl,rfl⟩)|(go_at_call 125;refine (CT.out _).mono ?_;rintro e w1 ⟨rfl,hb1⟩;have HB1:=Lib.hid ((HB0.out _).trans (hb1.mono (HB0.out _).size));clear hb1)|(go_at_call 57;refine (CF.out _).mono ?_;rintro e w1 ⟨rfl,hb1⟩;have HB1:=Lib.hid ((HB0.out _).trans (hb1.mono (HB0.out _).size));clear hb1))
  all_goals
   go_ret
   refine⟨HE.out _ ?_,by first|exact HB1.out|exact HB0.out _⟩
   have hn:=HN.out
   have ha:=HA.out
   unfold exForm
   dsimp only[Ex.k,Ex.n,Ex.nm,Ex.t,Ex.args]
   clear CN CA CT CF
   (have hnn:nm≠[]:=fun h=>by rw[h]at hn;cases hn)
   first
    |(rw[ha];done)
    |(rw[ha];simp_all[nameB_nil];done)
    |(rw[ha];simp_all[nameB_nil];intros;exfalso;omega)
    |(rw[ha];cases args<;>simp_all<;>intros<;>exfalso<;>omega)
 |false=>
  rw[hb]at CN
  have HN:=Lib.hid hb
  clear hb
  go_enter Tryz.func185,Tryz.ntmps185
  go_wp2_with (first|(go_at_call 192;with_reducible refine (CA.out _).mono ?_;rintro e w1 ⟨rfl,rfl⟩)|(go_at_call 98;refine (CN.out _).mono ?_;rintro e w1 ⟨rfl,rfl⟩)|(go_at_call 125;refine (CT.out _).mono ?_;rintro e w1 ⟨rfl,hb1⟩;have HB1:=Lib.hid ((HB0.out _).trans (hb1.mono (HB0.out _).size));clear hb1)|(go_at_call 57;refine (CF.out _).mono ?_;rintro e w1 ⟨rfl,hb1⟩;have HB1:=Lib.hid ((HB0.out _).trans (hb1.mono (HB0.out _).size));clear hb1))
  all_goals
   go_ret
   refine⟨HE.out _ ?_,by first|exact HB1.out|exact HB0.out _⟩
   have hn:=HN.out
   have ha:=HA.out
   unfold exForm
   dsimp only[Ex.k,Ex.n,Ex.nm,Ex.t,Ex.args]
   clear CN CA CT CF
   skip
   first
    |(rw[ha];done)
    |(rw[ha];simp_all[nameB_nil];done)
    |(rw[ha];simp_all[nameB_nil];intros;exfalso;omega)
    |(rw[ha];cases args<;>simp_all<;>intros<;>exfalso<;>omega)):P:=h
theorem q3ie2_1 {P:Prop} (h:P:=by
 go_enter Tryz.func175,Tryz.ntmps175
 go_wp2_with (first|(go_at_call 98;refine (CN.out _).mono ?_;rintro e w1 ⟨rfl,rfl⟩)|(go_at_call 184;refine (CP.out _).mono ?_;rintro e w1 ⟨rfl,rfl⟩)|(go_at_call 159;with_reducible refine (CY.out _).mono ?_;rintro e w1 ⟨rfl,hb1⟩;(first|(have r:=(hb1.block _ (Array.getElem?_eq_some_iff.1 HRow1.out).1).trans HRow1.out;replace HRow1:=Lib.hid r;replace HB1:=Lib.hid (HB1.out.trans (hb1.mono HB1.out.size)))|(have r:=HRow.out _ _ hb1;have HRow1:=Lib.hid r;have HB1:=Lib.hid ((HB0.out _).trans (hb1.mono (HB0.out _).size))));(have r0:=cell_at r 0;have r1:=cell_at r 1;have r2:=cell_at r 2;have r3:=cell_at r 3;have r4:=cell_at r 4;have r5:=cell_at r 5;have r6:=cell_at r 6;have r7:=cell_at r 7;have r8:=cell_at r 8;have r9:=cell_at r 9;have r10:=cell_at r 10;have r11:=cell_at r 11;have r12:=cell_at r 12;have r13:=cell_at r 13;have r14:=cell_at r 14;have r15:=cell_at r 15;have r16:=cell_at r 16;have r17:=cell_at r 17;have r18:=cell_at r 18;have r19:=cell_at r 19;have r20:=cell_at r 20;clear r;simp only[sl7,sl8,sl9]at r0 r1 r2 r3 r4 r5 r6 r7 r8 r9 r10 r11 r12 r13 r14 r15 r16 r17 r18 r19 r20);clear hb1)|(go_at_call 125;with_reducible refine (CT.out _).mono ?_;rintro e w1 ⟨rfl,hb1⟩;(first|(have r:=(hb1.block _ (Array.getElem?_eq_some_iff.1 HRow1.out).1).trans HRow1.out;replace HRow1:=Lib.hid r;replace HB1:=Lib.hid (HB1.out.trans (hb1.mono HB1.out.size)))|(have r:=HRow.out _ _ hb1;have HRow1:=Lib.hid r;have HB1:=Lib.hid ((HB0.out _).trans (hb1.mono (HB0.out _).size))));(have r0:=cell_at r 0;have r1:=cell_at r 1;have r2:=cell_at r 2;have r3:=cell_at r 3;have r4:=cell_at r 4;have r5:=cell_at r 5;have r6:=cell_at r 6;have r7:=cell_at r 7;have r8:=cell_at r 8;have r9:=cell_at r 9;have r10:=cell_at r 10;have r11:=cell_at r 11;have r12:=cell_at r 12;have r13:=cell_at r 13;have r14:=cell_at r 14;have r15:=cell_at r 15;have r16:=cell_at r 16;have r17:=cell_at r 17;have r18:=cell_at r 18;have r19:=cell_at r 19;have r20:=cell_at r 20;clear r;simp only[sl7,sl8,sl9]at r0 r1 r2 r3 r4 r5 r6 r7 r8 r9 r10 r11 r12 r13 r14 r15 r16 r17 r18 r19 r20);clear hb1)|(go_at_call 159;with_reducible refine (CX.out _).mono ?_;rintro e w1 ⟨rfl,hb1⟩;(first|(have r:=(hb1.block _ (Array.getElem?_eq_some_iff.1 HRow1.out).1).trans HRow1.out;replace HRow1:=Lib.hid r;replace HB1:=Lib.hid (HB1.out.trans (hb1.mono HB1.out.size)))|(have r:=HRow.out _ _ hb1;have HRow1:=Lib.hid r;have HB1:=Lib.hid ((HB0.out _).trans (hb1.mono (HB0.out _).size))));(have r0:=cell_at r 0;have r1:=cell_at r 1;have r2:=cell_at r 2;have r3:=cell_at r 3;have r4:=cell_at r 4;have r5:=cell_at r 5;have r6:=cell_at r 6;have r7:=cell_at r 7;have r8:=cell_at r 8;have r9:=cell_at r 9;have r10:=cell_at r 10;have r11:=cell_at r 11;have r12:=cell_at r 12;have r13:=cell_at r 13;have r14:=cell_at r 14;have r15:=cell_at r 15;have r16:=cell_at r 16;have r17:=cell_at r 17;have r18:=cell_at r 18;have r19:=cell_at r 19;have r20:=cell_at r 20;clear r;simp only[sl7,sl8,sl9]at r0 r1 r2 r3 r4 r5 r6 r7 r8 r9 r10 r11 r12 r13 r14 r15 r16 r17 r18 r19 r20);clear hb1))
 all_goals
  go_ret
  refine⟨HE.out _ ?_,by first|exact HB1.out|exact HB0.out _⟩
  have hn:=HN.out
  have hbe:=HBe.out
  have hee:=HEe.out
  unfold stForm
  dsimp only[St.k,St.nm,St.t,St.x,St.y,St.body,St.els]
  clear CN CX CY CT CP HE HRow HBe HEe HN
  first|(simp_all[nameB_nil,placeB];done)|(simp_all[nameB_nil,placeB];rfl)|(simp_all[nameB_nil,placeB];intros;omega)|(simp_all[nameB_nil,placeB];rw[Bool.eq_iff_iff];simp;done)):P:=h
set_option maxHeartbeats 4000000 in
theorem rtform_any (ty:Ty) (hty:ty.Ok) (w:World):
  Calls Tryz.prog 57 #[ty.val] w fun e w'=>e=.returned (.int .i64 (tyForm ty))∧Below w.heap.size w w':=by
 obtain⟨k,nm,n⟩:=ty
 have CN:=Lib.hid (fun W=>rname_any nm hty.nm W)
 clear hty
 have HB:∀v,tyForm ⟨k,nm,n⟩=v→Ending.returned (.int .i64 v)=.returned (.int .i64 (tyForm ⟨k,nm,n⟩)):=fun v h=>by rw[h]
 have HE:=Lib.hid HB
 clear HB
 have HBl:=Lib.hid (fun o=>(Below.refl w.heap.size w).alloc (Nat.le_refl _) o)
 cases hb:nameB nm with
 |true=>
  rw[hb]at CN
  have HN:=Lib.hid hb
  clear hb
  go_enter Tryz.func57,Tryz.ntmps57
  go_wp2_with (go_at_call 98;refine (CN.out _).mono ?_;rintro e w1 ⟨rfl,rfl⟩)
  all_goals
   go_ret
   refine⟨HE.out _ ?_,HBl.out _⟩
   have hn:=HN.out
   have hnn:nm≠[]:=fun h=>by rw[h]at hn;cases hn
   unfold tyForm
   simp_all
   try omega
 |false=>
  rw[hb]at CN
  have HN:=Lib.hid hb
  clear hb
  go_enter Tryz.func57,Tryz.ntmps57
  go_wp2_with (go_at_call 98;refine (CN.out _).mono ?_;rintro e w1 ⟨rfl,rfl⟩)
  all_goals
   go_ret
   refine⟨HE.out _ ?_,HBl.out _⟩
   have hn:=HN.out
   unfold tyForm
   simp_all
   try omega
set_option maxHeartbeats 1000000 in
theorem rbinary_any (k:Int) (w:World):Calls Tryz.prog 202 #[.int .u8 k] w fun e w'=>e=.returned (.bool (binB k))∧w'=w:=by
 have E:∀b,binB k=b→Ending.returned (.bool b)=.returned (.bool (binB k)):=fun b h=>by rw[h]
 have hE:=Lib.hid E
 clear E
 by_cases h1:10≤k
 ·have d1:decide (10≤k)=true:=by simpa using h1
  by_cases h2:k≤22
  ·have d2:decide (k≤22)=true:=by simpa using h2
   clear h1 h2
   go_enter Tryz.func202,Tryz.ntmps202
   go_wp2
   go_ret
   exact⟨hE.out true (by unfold binB;rw[d1,d2];rfl),rfl⟩
  ·have d2:decide (k≤22)=false:=by simpa using h2
   clear h1 h2
   go_enter Tryz.func202,Tryz.ntmps202
   go_wp2
   go_ret
   exact⟨hE.out false (by unfold binB;rw[d1,d2];rfl),rfl⟩
 ·have d1:decide (10≤k)=false:=by simpa using h1
  clear h1
  go_enter Tryz.func202,Tryz.ntmps202
  go_wp2
  go_ret
  exact⟨hE.out false (by unfold binB;rw[d1];rfl),rfl⟩
def rar (k:Int):Int:=match arity k with|none=>-2|some (m,_)=>m
set_option maxHeartbeats 4000000 in
theorem rargs_any (k:Int) (w:World):Calls Tryz.prog 192 #[.int .u8 k] w fun e w'=>e=.returned (.int .i64 (rar k))∧w'=w:=by
 have hE:=Lib.hid (show ∀b,rar k=b→Ending.returned (.int .i64 b)=.returned (.int .i64 (rar k)) from fun b h=>by rw[h])
 have CB:=Lib.hid (fun W=>rbinary_any k W)
 obtain⟨b,hb⟩:∃b,binB k=b:=⟨_,rfl⟩
 rw[hb]at CB
 have HB:=Lib.hid hb
 clear hb
 go_enter Tryz.func192,Tryz.ntmps192
 go_wp2_with (go_at_call 202;with_reducible refine (CB.out _).mono ?_;rintro e w1 ⟨rfl,rfl⟩)
 all_goals
  go_ret
  refine⟨hE.out _ ?_,rfl⟩
  have hb:=HB.out
  unfold rar arity
  have hb2:(10≤k∧k≤22)↔b=true:=by rw[←hb];simp[binB]
  clear CB hE HB hb
  simp only[hb2]
  simp_all
set_option maxHeartbeats 1000000 in
theorem rnotype_any (t:Ty) (w:World):Calls Tryz.prog 125 #[.agg #[.int .u8 t.k,.string ⟨t.nm.toArray⟩,.int .i64 t.n]] w fun e w'=>e=.returned (.bool (noTy t))∧Below w.heap.size w w':=by
 obtain⟨k,nm,n⟩:=t
 go_enter Tryz.func125,Tryz.ntmps125
 go_wp2
 all_goals
  go_ret
  refine⟨?_,(Below.refl _ _).alloc (Nat.le_refl _) _⟩
  congr 2
  first|(simp_all[noTy];done)|(simp_all[noTy];rfl)
theorem agg_ex (x:Ex):x.val=.agg #[.int .u8 x.k,.int .i64 x.n,.string ⟨x.nm.toArray⟩,.int .u8 x.t.k,.string ⟨x.t.nm.toArray⟩,.int .i64 x.t.n,.slice x.d.a x.args.length x.d.c]:=rfl
set_option maxHeartbeats 2000000 in
theorem rnoexpr_any (x:Ex) (w:World):Calls Tryz.prog 159 #[x.val] w fun e w'=>e=.returned (.bool (noEx x))∧Below w.heap.size w w':=by
 obtain⟨k,n,nm,t,d,args⟩:=x
 have CT:=Lib.hid (fun W=>rnotype_any t W)
 have hl:decide (args.length=0)=args.isEmpty:=by cases args<;>rfl
 have HE:Hid (∀b,noEx (.mk k n nm t d args)=b→Ending.returned (.bool b)=.returned (.bool (noEx (.mk k n nm t d args)))):=Lib.hid fun b h=>by rw[h]
 have HL:=Lib.hid hl
 obtain⟨X,hX⟩:∃X,w.heap.size=X:=⟨_,rfl⟩
 obtain⟨o,ho⟩:∃o:Obj,.cells #[.int .u8 k,.int .i64 n,.string ⟨nm.toArray⟩,.int .u8 t.k,.string ⟨t.nm.toArray⟩,.int .i64 t.n,.slice d.a args.length d.c] 70 (0,0)=o:=⟨_,rfl⟩
 have x1:(w.alloc o).heap[X]? =some o:=by rw[←hX];exact heap_alloc_new w _
 have HB0:Hid (Below w.heap.size w (w.alloc o)):=Lib.hid ((Below.refl w.heap.size w).alloc (Nat.le_refl _) o)
 have HR:Hid (∀W,Below (w.alloc o).heap.size (w.alloc o) W→W.cell? ⟨X,6,none⟩=some (.slice d.a args.length d.c)):=Lib.hid fun W hb=>by
  have h:=(hb.block X (Array.getElem?_eq_some_iff.1 x1).1).trans x1
  rw[←ho]at h
  exact cell_at h 6
 have a0:(w.alloc o).cell? ⟨X,0,none⟩=some (.int .u8 k):=by rw[←ho]at x1 ⊢;exact cell_at x1 0
 have a1:(w.alloc o).cell? ⟨X,1,none⟩=some (.int .i64 n):=by rw[←ho]at x1 ⊢;exact cell_at x1 1
 have a2:(w.alloc o).cell? ⟨X,2,none⟩=some (.string ⟨nm.toArray⟩):=by rw[←ho]at x1 ⊢;exact cell_at x1 2
 have a3:(w.alloc o).cell? ⟨X,3,none⟩=some (.int .u8 t.k):=by rw[←ho]at x1 ⊢;exact cell_at x1 3
 have a4:(w.alloc o).cell? ⟨X,4,none⟩=some (.string ⟨t.nm.toArray⟩):=by rw[←ho]at x1 ⊢;exact cell_at x1 4
 have a5:(w.alloc o).cell? ⟨X,5,none⟩=some (.int .i64 t.n):=by rw[←ho]at x1 ⊢;exact cell_at x1 5
 rw[agg_ex]
 dsimp only[Ex.k,Ex.n,Ex.nm,Ex.t,Ex.d,Ex.args]
 clear hl x1
 go_enter Tryz.func159,Tryz.ntmps159
 go_wp2_with (go_at_call 125;with_reducible refine (CT.out _).mono ?_;rintro e w1 ⟨rfl,hb1⟩;have c6:=HR.out _ hb1;have HB1:=Lib.hid (HB0.out.trans (hb1.mono HB0.out.size));clear hb1)
 all_goals
  go_ret
  refine⟨HE.out _ ?_,by first|exact HB1.out|exact HB0.out⟩
  have hl:=HL.out
  clear CT HR a0 a1 a2 a3 a4 a5 HE
  unfold noEx
  dsimp only[Ex.k,Ex.n,Ex.nm,Ex.t,Ex.args]
  rw[←hl]
  by_cases hl0:args.length=0<;>simp_all
set_option maxHeartbeats 16000000 in
set_option maxRecDepth 100000 in
theorem rxform_any (x:Ex) (hl:lenOk x.nm.length) (ht:x.t.Ok) (w:World):
  Calls Tryz.prog 185 #[x.val] w fun e w'=>e=.returned (.int .i64 (exForm x))∧Below w.heap.size w w':=by
 obtain⟨k,n,nm,t,d,args⟩:=x
 have CN:=Lib.hid (fun W=>rname_any nm hl W)
 have CT:=Lib.hid (fun W=>rnotype_any t W)
 have CF:=Lib.hid (fun W=>rtform_any t ht W)
 have CA:=Lib.hid (fun W=>rargs_any k W)
 have HB0:=Lib.hid (fun o=>(Below.refl w.heap.size w).alloc (Nat.le_refl _) o)
 have HE:Hid (∀b,exForm (.mk k n nm t d args)=b→Ending.returned (.int .i64 b)=.returned (.int .i64 (exForm (.mk k n nm t d args)))):=Lib.hid fun b h=>by rw[h]
 rw[agg_ex]
 dsimp only[Ex.k,Ex.n,Ex.nm,Ex.t,Ex.d,Ex.args,Ty.val]at CF ⊢
 clear hl ht
 by_cases h1:k=1
 ·subst h1
  have HA:Hid (arity 1=some (0,false)):=Lib.hid (by decide)
  rw[show rar 1=0 by decide]at CA
  exact q3ie2_2
 by_cases h2:k=2
 ·clear h1
  subst h2
  have HA:Hid (arity 2=some (0,false)):=Lib.hid (by decide)
  rw[show rar 2=0 by decide]at CA
  exact q3ie2_2
 by_cases h3:k=3
 ·clear h1 h2
  subst h3
  have HA:Hid (arity 3=some (0,true)):=Lib.hid (by decide)
  rw[show rar 3=0 by decide]at CA
  exact q3ie2_2
 by_cases h4:k=4
 ·clear h1 h2 h3
  subst h4
  have HA:Hid (arity 4=some (1,true)):=Lib.hid (by decide)
  rw[show rar 4=1 by decide]at CA
  exact q3ie2_2
 by_cases h5:k=5
 ·clear h1 h2 h3 h4
  subst h5
  have HA:Hid (arity 5=some (2,false)):=Lib.hid (by decide)
  rw[show rar 5=2 by decide]at CA
  exact q3ie2_2
 by_cases h6:k=6
 ·clear h1 h2 h3 h4 h5
  subst h6
  have HA:Hid (arity 6=some (0,false)):=Lib.hid (by decide)
  rw[show rar 6=0 by decide]at CA
  exact q3ie2_2
 by_cases h7:k=7
 ·clear h1 h2 h3 h4 h5 h6
  subst h7
  have HA:Hid (arity 7=some (-1,true)):=Lib.hid (by decide)
  rw[show rar 7= -1 by decide]at CA
  exact q3ie2_2
 by_cases h8:k=8
 ·clear h1 h2 h3 h4 h5 h6 h7
  subst h8
  have HA:Hid (arity 8=some (1,false)):=Lib.hid (by decide)
  rw[show rar 8=1 by decide]at CA
  exact q3ie2_2
 by_cases h9:k=9
 ·clear h1 h2 h3 h4 h5 h6 h7 h8
  subst h9
  have HA:Hid (arity 9=some (1,false)):=Lib.hid (by decide)
  rw[show rar 9=1 by decide]at CA
  exact q3ie2_2
 have b1:(k==1)=false:=by simpa using h1
 have b3:(k==3)=false:=by simpa using h3
 have b4:(k==4)=false:=by simpa using h4
 have b6:(k==6)=false:=by simpa using h6
 have b7:(k==7)=false:=by simpa using h7
 by_cases hB:10≤k∧k≤22
 ·have HA:Hid (arity k=some (2,false)):=Lib.hid (by unfold arity;simp[h1,h2,h3,h4,h5,h6,h7,h8,h9,hB])
  rw[show rar k=2 by unfold rar;rw[HA.out]]at CA
  clear h2 h5 h8 h9 hB
  exact q3ie2_2
 ·have HA:Hid (arity k=none):=Lib.hid (by unfold arity;simp[h1,h2,h3,h4,h5,h6,h7,h8,h9,hB])
  rw[show rar k= -2 by unfold rar;rw[HA.out]]at CA
  clear h2 h5 h8 h9 hB
  exact q3ie2_2
end Go.Proofs.YtkklogikakcanaaGreatDoor
namespace Go.Proofs.YtkklogikakcanaaGreatDoor
open Go Go.RowKit
def ck (e:Int) (a:At):Chk:=if e=0 then .on a else .bad a.p e
theorem ck_zero (a:At):ck 0 a=.on a:=rfl
theorem ck_ne {e:Int} (h:e≠0) (a:At):ck e a=.bad a.p e:=if_neg h
theorem Chk.bind_on (a:At) (f:At→Chk):(Chk.on a).bind f=f a:=rfl
theorem Chk.bind_bad (p e:Int) (f:At→Chk):(Chk.bad p e).bind f=.bad p e:=rfl
theorem Chk.bind_bind (c:Chk) (f g:At→Chk):(c.bind f).bind g=c.bind fun a=>(f a).bind g:=by cases c<;>rfl
theorem Chk.bind_ck (c:Chk):c.bind (ck 0)=c:=by cases c<;>rfl
def itC (deep:Nat) (a:At):Chk:=match itemC deep a.it with|.error e=>.bad a.p e|.ok it=>.on ⟨a.p,it⟩
def exC (x:Ex) (deep:Nat) (a:At):Chk:=match chkEx x deep a.it with|.error e=>.bad a.p e|.ok it=>.on ⟨a.p,it⟩
def exsC (l:List Ex) (deep:Nat) (a:At):Chk:=match chkExs l deep a.it with|.error e=>.bad a.p e|.ok it=>.on ⟨a.p,it⟩
theorem exC_eq (x:Ex) (deep:Nat) (a:At):exC x deep a=((itC deep a).bind (ck (exForm x))).bind (exsC x.args (deep+1)):=by
 obtain⟨k,n,nm,t,d,args⟩:=x
 unfold exC itC
 rw[chkEx]
 cases itemC deep a.it with
 |error e=>rfl
 |ok it=>
  dsimp only[Chk.bind,Ex.args]
  by_cases h:exForm (.mk k n nm t d args)=0
  ·rw[h];rfl
  ·rw[if_pos h,ck_ne h]
theorem exsC_nil (deep:Nat) (a:At):exsC [] deep a=.on a:=by unfold exsC;rw[chkExs]
theorem exsC_cons (x:Ex) (r:List Ex) (deep:Nat) (a:At):exsC (x::r) deep a=(exC x deep a).bind (exsC r deep):=by
 unfold exsC exC
 rw[chkExs]
 cases chkEx x deep a.it<;>rfl
theorem bind_on_inv {c:Chk} {f:At→Chk} {a:At} (h:c.bind f=.on a):∃a0,c=.on a0:=by
 cases c with
 |on a0=>exact⟨a0,rfl⟩
 |bad p e=>cases h
theorem itC_on {deep:Nat} {a a':At} (h:itC deep a=.on a'):deep≤16:=by
 unfold itC at h
 cases hi:itemC deep a.it with
 |error e=>rw[hi]at h;cases h
 |ok it=>exact (itemC_ok hi).2.2
def R3At (X:Nat) (it p e:Int) (W:World):Prop:=W.heap[X]? =some (.cells #[.int .i64 it,.int .i64 p,.int .i64 e] 180 (0,0))
def St3 (X:Nat) (b:Int) (c:Chk) (W:World):Prop:=match c with
 |.on a=>R3At X a.it a.p 0 W∧a.it≤1024∧-1≤a.p∧a.p≤b+a.it
 |.bad p e=>e≠0∧∃m:Int,R3At X m p e W
abbrev Kp3 (X:Nat):World→World→Prop:=Kept (fun k=>k=X)
section
variable {X:Nat} {it p e b:Int} {c:Chk} {W W' W1:World}
theorem R3At.lt (h:R3At X it p e W):X<W.heap.size:=(Array.getElem?_eq_some_iff.1 h).1
theorem R3At.set0 (h:R3At X it p e W) (m:Int):R3At X m p e (W.setCell ⟨X,0,none⟩ (.int .i64 m)):=by have:=row_set h 0 (.int .i64 m);simpa [R3At] using this
theorem R3At.set1 (h:R3At X it p e W) (m:Int):R3At X it m e (W.setCell ⟨X,1,none⟩ (.int .i64 m)):=by have:=row_set h 1 (.int .i64 m);simpa [R3At] using this
theorem R3At.set2 (h:R3At X it p e W) (m:Int):R3At X it p m (W.setCell ⟨X,2,none⟩ (.int .i64 m)):=by have:=row_set h 2 (.int .i64 m);simpa [R3At] using this
theorem R3At.cells (h:R3At X it p e W):W.cell? ⟨X,0,none⟩=some (.int .i64 it)∧W.cell? ⟨X,1,none⟩=some (.int .i64 p)∧W.cell? ⟨X,2,none⟩=some (.int .i64 e):=⟨cell_at h 0,cell_at h 1,cell_at h 2⟩
theorem R3At.frz (h:R3At X it p e W):W.frozen? ⟨X,0,none⟩=false∧W.frozen? ⟨X,1,none⟩=false∧W.frozen? ⟨X,2,none⟩=false:=⟨frz_at h 0,frz_at h 1,frz_at h 2⟩
theorem R3At.below (h:R3At X it p e W) (hb:Below W.heap.size W W'):R3At X it p e W':=(hb.block X h.lt).trans h
theorem St3.box (h:St3 X b c W):∃it p e,R3At X it p e W∧((∃a,c=.on a∧it=a.it∧p=a.p∧e=0)∨(∃q,c=.bad q e∧p=q∧e≠0)):=by
 cases c with
 |on a=>exact⟨_,_,_,h.1,.inl ⟨a,rfl,rfl,rfl,rfl⟩⟩
 |bad q e=>obtain⟨h1,m,h2⟩:=h;exact⟨m,q,e,h2,.inr ⟨q,rfl,rfl,h1⟩⟩
theorem St3.lt (h:St3 X b c W):X<W.heap.size:=by obtain⟨it,p,e,h,-⟩:=h.box;exact h.lt
theorem St3.below (h:St3 X b c W) (hb:Below W.heap.size W W'):St3 X b c W':=by
 cases c with
 |on a=>exact⟨h.1.below hb,h.2⟩
 |bad q e=>obtain⟨h1,m,h2⟩:=h;exact⟨h1,m,h2.below hb⟩
theorem Kp3.set (h:Kp3 X W1 W) (j:Nat) (u:Value):Kp3 X W1 (W.setCell ⟨X,j,none⟩ u):=Kept.setCell (S:=fun k=>k=X) h (p:=⟨X,j,none⟩) (Or.inl rfl) u
theorem Kp3.blw {B:Nat} (h:Kp3 X W W') (hB:B≤X) (hX:X<W.heap.size):Below B W W':=Kept.below h (by omega) (fun k hk=>by rw[hk];exact hB)
end
set_option maxHeartbeats 4000000 in
theorem rkeep_any (X:Nat) (b:Int) (c:Chk) (e:Int) (w:World) (h:St3 X b c w):
  Calls Tryz.prog 126 #[.pointer (some ⟨X,0,none⟩),.int .i64 e] w fun en w'=>en=.returned (.tuple #[])∧St3 X b (c.bind (ck e)) w'∧Kp3 X w w':=by
 obtain⟨it,p,er,hr,hc⟩:=h.box
 obtain⟨c0,c1,c2⟩:=hr.cells
 obtain⟨f0,f1,f2⟩:=hr.frz
 have HR:=Lib.hid hr
 have H:=Lib.hid h
 clear hr h c0 c1 f0 f1
 rcases hc with ⟨a,rfl,rfl,rfl,rfl⟩|⟨q,rfl,rfl,hne⟩
 ·have HZ:Hid (St3 X b ((Chk.on a).bind (ck e)) (w.setCell ⟨X,2,none⟩ (.int .i64 e))):=Lib.hid (by
   by_cases he:e=0
   ·subst he;exact⟨HR.out.set2 0,H.out.2⟩
   ·rw[Chk.bind_on,ck_ne he];exact⟨he,_,HR.out.set2 e⟩)
  have HK:Hid (Kp3 X w (w.setCell ⟨X,2,none⟩ (.int .i64 e))):=Lib.hid (Kp3.set (Kept.refl _ _) 2 _)
  go_enter Tryz.func126,Tryz.ntmps126
  go_wp2
  go_end0
  exact⟨rfl,HZ.out,HK.out⟩
 ·have t1:(er==0)=false:=by simpa using hne
  have HK:Hid (Kp3 X w w):=Lib.hid (Kept.refl _ _)
  clear hne
  go_enter Tryz.func126,Tryz.ntmps126
  go_wp2
  go_end0
  exact⟨rfl,H.out,HK.out⟩
def orE (ok:Bool) (e:Int):Int:=if ok then 0 else e
theorem rarg_any (X:Nat) (b:Int) (c:Chk) (ok:Bool) (w:World) (h:St3 X b c w):
  Calls Tryz.prog 123 #[.pointer (some ⟨X,0,none⟩),.bool ok] w fun en w'=>en=.returned (.tuple #[])∧St3 X b (c.bind (ck (orE ok 1))) w'∧Kp3 X w w':=by
 have C:=Lib.hid (rkeep_any X b c 1 w h)
 have H:=Lib.hid h
 have HK:Hid (Kp3 X w w):=Lib.hid (Kept.refl _ _)
 cases ok with
 |true=>
  have HC:Hid (c.bind (ck (orE true 1))=c):=Lib.hid (Chk.bind_ck c)
  go_enter Tryz.func123,Tryz.ntmps123
  go_wp2
  go_end0
  exact⟨rfl,by rw[HC.out];exact H.out,HK.out⟩
 |false=>
  go_enter Tryz.func123,Tryz.ntmps123
  exact q3ie2_4
theorem rlimit_any (X:Nat) (b:Int) (c:Chk) (ok:Bool) (w:World) (h:St3 X b c w):
  Calls Tryz.prog 122 #[.pointer (some ⟨X,0,none⟩),.bool ok] w fun en w'=>en=.returned (.tuple #[])∧St3 X b (c.bind (ck (orE ok 3))) w'∧Kp3 X w w':=by
 have C:=Lib.hid (rkeep_any X b c 3 w h)
 have H:=Lib.hid h
 have HK:Hid (Kp3 X w w):=Lib.hid (Kept.refl _ _)
 cases ok with
 |true=>
  have HC:Hid (c.bind (ck (orE true 3))=c):=Lib.hid (Chk.bind_ck c)
  go_enter Tryz.func122,Tryz.ntmps122
  go_wp2
  go_end0
  exact⟨rfl,by rw[HC.out];exact H.out,HK.out⟩
 |false=>
  go_enter Tryz.func122,Tryz.ntmps122
  exact q3ie2_4
set_option maxHeartbeats 4000000 in
theorem ritem_any (X:Nat) (b:Int) (a:At) (deep:Nat) (hd:deep≤1000000) (w:World) (h:R3At X a.it a.p 0 w) (hi:a.it≤1024) (h1: -1≤a.p) (h2:a.p≤b+a.it+1) (h3:itemC deep a.it=.error 3∨a.p≤b+a.it+1):
  Calls Tryz.prog 174 #[.pointer (some ⟨X,0,none⟩),.int .i64 (deep:Int)] w fun en w'=>en=.returned (.tuple #[])∧St3 X b (itC deep a) w'∧Kp3 X w w':=by
 obtain⟨c0,c1,c2⟩:=h.cells
 obtain⟨f0,f1,f2⟩:=h.frz
 obtain⟨y0,y1,y2⟩:=(h.set0 ((a.it:Int)+1)).cells
 obtain⟨g0,g1,g2⟩:=(h.set0 ((a.it:Int)+1)).frz
 have e0:IntKind.i64.wrap ((a.it:Int)+1)=(a.it:Int)+1:=by rw[IntKind.wrap_i64];omega
 have HK0:Hid (Kp3 X w (w.setCell ⟨X,0,none⟩ (.int .i64 ((a.it:Int)+1)))):=Lib.hid (Kp3.set (Kept.refl _ _) 0 _)
 have HK1:Hid (Kp3 X w ((w.setCell ⟨X,0,none⟩ (.int .i64 ((a.it:Int)+1))).setCell ⟨X,2,none⟩ (.int .i64 3))):=Lib.hid (Kp3.set HK0.out 2 _)
 have HB:Hid (itemC deep a.it=.error 3→St3 X b (itC deep a) ((w.setCell ⟨X,0,none⟩ (.int .i64 ((a.it:Int)+1))).setCell ⟨X,2,none⟩ (.int .i64 3))):=Lib.hid fun hh=>by
  unfold itC;rw[hh];exact⟨by decide,_,(h.set0 _).set2 3⟩
 have HG:Hid (itemC deep a.it=.ok (a.it+1)→St3 X b (itC deep a) (w.setCell ⟨X,0,none⟩ (.int .i64 ((a.it:Int)+1)))):=Lib.hid fun hh=>by
  have hq:=(itemC_ok hh).2.1
  unfold itC;rw[hh];exact⟨h.set0 _,by dsimp only;omega,h1,by dsimp only;push_cast;omega⟩
 clear h h1 h2 h3 c1 f1 y1 g1 g0
 by_cases hd1:deep≤16
 ·have d1:decide (16<(deep:Int))=false:=by simp;omega
  by_cases hd2:a.it+1≤1024
  ·have d2:decide (1024<(a.it:Int)+1)=false:=by simp;omega
   have hit:itemC deep a.it=.ok (a.it+1):=by unfold itemC;rw[if_pos ⟨hd1,hd2⟩]
   have HZ:=Lib.hid (HG.out hit)
   clear hd1 hd2 hit hi hd
   go_enter Tryz.func174,Tryz.ntmps174
   go_wp2
   go_end0
   exact⟨rfl,HZ.out,HK0.out⟩
  ·have d2:decide (1024<(a.it:Int)+1)=true:=by simp;omega
   have hit:itemC deep a.it=.error 3:=by unfold itemC;rw[if_neg (fun hh=>hd2 hh.2)]
   have HZ:=Lib.hid (HB.out hit)
   clear hd1 hd2 hit hi hd
   go_enter Tryz.func174,Tryz.ntmps174
   go_wp2
   go_end0
   exact⟨rfl,HZ.out,HK1.out⟩
 ·have d1:decide (16<(deep:Int))=true:=by simp;omega
  have hit:itemC deep a.it=.error 3:=by unfold itemC;rw[if_neg (fun hh=>hd1 hh.1)]
  have HZ:=Lib.hid (HB.out hit)
  clear hd1 hit hi hd
  go_enter Tryz.func174,Tryz.ntmps174
  go_wp2
  go_end0
  exact⟨rfl,HZ.out,HK1.out⟩
set_option maxHeartbeats 8000000 in
set_option maxRecDepth 100000 in
theorem rexpr3_any (B X:Nat) (hBX:B≤X) (b:Int):∀(sz:Nat) (x:Ex),exCount x≤sz→∀(deep:Nat) (a:At) (w:World),St3 X b (.on a) w→ExIn w B x→deep≤1000→
  Calls Tryz.prog 176 #[.pointer (some ⟨X,0,none⟩),x.val,.int .i64 (deep:Int)] w fun en w'=>en=.returned (.tuple #[])∧St3 X b (exC x deep a) w'∧Kp3 X w w':=by
 intro sz
 induction sz with
 |zero=>intro x hx;have:=exCount_pos x;omega
 |succ sz ih=>
 intro x hsz deep a w hS hIn hdp
 obtain⟨R,hR⟩:∃R,exC x deep a=R:=⟨_,rfl⟩
 rw[hR]
 have HR:=Lib.hid (hR.symm.trans (exC_eq x deep a)).symm
 clear hR
 have hXl:=hS.lt
 have HBl:Hid (∀W,Kp3 X w W→Below B w W):=Lib.hid fun W h=>Kp3.blw h hBX hXl
 have HIn:=Lib.hid hIn
 have CF:=Lib.hid (fun W=>rxform_any x hIn.nm hIn.t W)
 obtain⟨Y,hY⟩:∃Y,w.heap.size=Y:=⟨_,rfl⟩
 obtain⟨w1,hw1⟩:∃w1,w.alloc (.cells #[.int .u8 x.k,.int .i64 x.n,.string ⟨x.nm.toArray⟩,.int .u8 x.t.k,.string ⟨x.t.nm.toArray⟩,.int .i64 x.t.n,.slice x.d.a x.args.length x.d.c] 70 (0,0))=w1:=⟨_,rfl⟩
 have hb1:Below w.heap.size w w1:=by rw[←hw1];exact (Below.refl _ _).alloc (Nat.le_refl _) _
 have x1:w1.heap[Y]? =some (.cells #[.int .u8 x.k,.int .i64 x.n,.string ⟨x.nm.toArray⟩,.int .u8 x.t.k,.string ⟨x.t.nm.toArray⟩,.int .i64 x.t.n,.slice x.d.a x.args.length x.d.c] 70 (0,0)):=by rw[←hw1,←hY];exact heap_alloc_new w _
 have HRow:Hid (∀W,Kp3 X w1 W→W.heap[Y]? =some (.cells #[.int .u8 x.k,.int .i64 x.n,.string ⟨x.nm.toArray⟩,.int .u8 x.t.k,.string ⟨x.t.nm.toArray⟩,.int .i64 x.t.n,.slice x.d.a x.args.length x.d.c] 70 (0,0))):=
  Lib.hid fun W hk=>(hk.block Y (Array.getElem?_eq_some_iff.1 x1).1 (by omega)).trans x1
 have HKw:Hid (∀W,Kp3 X w1 W→Kp3 X w W):=Lib.hid fun W hk=>(Kept.of_below hb1).trans hk
 have hS1:=hS.below hb1
 have CI:=Lib.hid (ritem_any X b a deep (by omega) w1 hS1.1 hS1.2.1 hS1.2.2.1 (by have:=hS1.2.2.2;omega) (.inr (by have:=hS1.2.2.2;omega)))
 have HNm:=Lib.hid (And.intro hY hw1)
 have edp:IntKind.i64.wrap ((deep:Int)+1)=((deep+1:Nat):Int):=by rw[IntKind.wrap_i64];omega
 have hlen:=hIn.len
 have hargs:∀y∈x.args,exCount y≤sz:=fun y hy=>by
  obtain⟨k,n,nm,t,d,args⟩:=x
  rw[exCount]at hsz
  have:=exCounts_mem hy
  dsimp only[Ex.args]at this
  omega
 have HSz:=Lib.hid hargs
 clear hb1 x1 hS1 hY hw1 hS hIn hXl hargs hsz
 go_enter Tryz.func176,Tryz.ntmps176
 go_wp2_with fail
 simp only[HNm.out.1,HNm.out.2]
 clear HNm
 refine CI.out.mono ?_
 rintro e w2 ⟨rfl,hs2,hk2⟩
 have HS2:=Lib.hid hs2
 have HK2:=Lib.hid hk2
 clear hs2 hk2 CI
 have row:=HRow.out _ HK2.out
 have r0:=cell_at row 0
 have r1:=cell_at row 1
 have r2:=cell_at row 2
 have r3:=cell_at row 3
 have r4:=cell_at row 4
 have r5:=cell_at row 5
 have r6:=cell_at row 6
 simp only[sl7,sl8,sl9]at r0 r1 r2 r3 r4 r5 r6
 clear row
 go_wp2_with fail
 go_at_call 185
 refine (CF.out w2).mono ?_
 rintro e w3 ⟨rfl,hb3⟩
 have HS3:=Lib.hid (HS2.out.below hb3)
 have HK3:=Lib.hid (HK2.out.trans (Kept.of_below hb3))
 clear hb3 HS2 HK2 CF r0 r1 r2 r3 r4 r5 r6
 go_wp2_with fail
 go_at_call 126
 refine (rkeep_any X b _ _ w3 HS3.out).mono ?_
 rintro e w4 ⟨rfl,hs4,hk4⟩
 have HS4:=Lib.hid hs4
 have HK4:=Lib.hid (HK3.out.trans hk4)
 clear hs4 hk4 HS3 HK3
 go_wp2_with fail
 go_loopw [6] (fun ii wr=>∃(j:Nat) (c:Chk),ii=.int .i64 j∧j≤x.args.length∧Hid (St3 X b c wr)∧Hid (c.bind (exsC (x.args.drop j) (deep+1))=R)∧Hid (Kp3 X w1 wr)∧Hid (∀a,c=.on a→deep≤16)) (fun ii _=>x.args.length - (intOf ii).toNat)
 case atStart=>exact⟨0,_,rfl,Nat.zero_le _,HS4,Lib.hid (by rw[List.drop_zero];exact HR.out),HK4,Lib.hid fun a' h=>by obtain⟨a0,h0⟩:=bind_on_inv h;exact itC_on h0⟩
 case round=>
  obtain⟨j,c,rfl,hj,hS,hC,hK,hD⟩:=hrel
  clear HS4 HK4
  have p2:(0:Int)≤(j:Int):=Int.natCast_nonneg _
  have p3:x.args.length≤140737488355328:=hlen
  have row:=HRow.out _ hK.out
  have r0:=cell_at row 0
  have r1:=cell_at row 1
  have r2:=cell_at row 2
  have r3:=cell_at row 3
  have r4:=cell_at row 4
  have r5:=cell_at row 5
  have r6:=cell_at row 6
  simp only[sl7,sl8,sl9]at r0 r1 r2 r3 r4 r5 r6
  clear row
  obtain⟨it,p,er,hr,hc⟩:=hS.out.box
  obtain⟨-,-,c2⟩:=hr.cells
  clear hr
  by_cases hlt:j<x.args.length
  ·have p1:(j:Int)<(x.args.length:Int):=by omega
   rcases hc with ⟨a',rfl,rfl,rfl,rfl⟩|⟨q,rfl,rfl,hne⟩
   ·obtain⟨y,hy⟩:∃y,x.args[j]? =some y:=⟨_,List.getElem?_eq_getElem hlt⟩
    have hdrop:x.args.drop j=y::x.args.drop (j+1):=by
     have:=List.drop_eq_getElem_cons hlt
     rw[List.getElem?_eq_getElem hlt]at hy
     injection hy with hy
     rw[this,hy]
    have hmem:=List.mem_of_getElem? hy
    have hIr:=HIn.out.keep (HBl.out _ (HKw.out _ hK.out)) (Nat.le_refl B)
    obtain⟨rb,ro,hda,hrb,hrow⟩:=hIr.row (by intro h0;rw[h0]at hlt;simp at hlt)
    obtain⟨z0,z1,z2,z3,z4,z5,z6⟩:=hrow j y hy
    have C:=Lib.hid (ih y (HSz.out y hmem) (deep+1) a' wr hS.out (hIr.sub y hmem) (by have:=hD.out a' rfl;omega))
    have HC:Hid ((exC y (deep+1) a').bind (exsC (x.args.drop (j+1)) (deep+1))=R):=Lib.hid (by
     have h:=hC.out
     rw[hdrop,Chk.bind_on,exsC_cons]at h
     exact h)
    clear hrow hIr hdrop hy hmem hC
    have HD:Hid (deep≤16):=Lib.hid (hD.out a' rfl)
    rw[hda]at r6
    clear hda hD
    go_wp2_with fail
    go_at_call 176
    refine C.out.mono ?_
    rintro e w5 ⟨rfl,hs5,hk5⟩
    have HS5:=Lib.hid hs5
    have HK5:=Lib.hid (hK.out.trans hk5)
    clear hs5 hk5 C
    go_wp2_with fail
    go_roundw
    case rel=>exact⟨j+1,_,by go_num,by omega,HS5,HC,HK5,Lib.hid fun _ _=>HD.out⟩
    case measure=>simp[intOf];omega
   ·have t1:(er==0)=false:=by simpa using hne
    have HZ:Hid (St3 X b R wr):=Lib.hid (by have h:=hC.out;rw[Chk.bind_bad]at h;rw[←h];exact hS.out)
    have HKz:=Lib.hid (HKw.out _ hK.out)
    clear hne hC hS
    go_wp2_with fail
    go_end0
    exact⟨rfl,HZ.out,HKz.out⟩
  ·obtain rfl:j=x.args.length:=by omega
   have HZ:Hid (St3 X b R wr):=Lib.hid (by
    have h:=hC.out
    rw[List.drop_length]at h
    rw[←h]
    rcases hc with ⟨a',rfl,-,-,-⟩|⟨q,rfl,-,-⟩
    ·rw[Chk.bind_on,exsC_nil];exact hS.out
    ·exact hS.out)
   have HKz:=Lib.hid (HKw.out _ hK.out)
   clear hC hS hc c2
   go_wp2_with fail
   go_end0
   exact⟨rfl,HZ.out,HKz.out⟩
end Go.Proofs.YtkklogikakcanaaGreatDoor
namespace Go.Proofs.YtkklogikakcanaaGreatDoor
open Go Go.RowKit
def placeB (k:Int):Bool:=decide (k=3)||(decide (k=4)||decide (k=5))
set_option maxHeartbeats 1000000 in
theorem rplace_any (k:Int) (w:World):Calls Tryz.prog 184 #[.int .u8 k] w fun e w'=>e=.returned (.bool (placeB k))∧w'=w:=by
 have HE:Hid (∀b,placeB k=b→Ending.returned (.bool b)=.returned (.bool (placeB k))):=Lib.hid fun b h=>by rw[h]
 go_enter Tryz.func184,Tryz.ntmps184
 go_wp2
 all_goals
  go_ret
  refine⟨HE.out _ ?_,rfl⟩
  unfold placeB
  first|(simp_all;done)|(simp_all;rw[Bool.eq_iff_iff];simp;done)|(simp_all;rw[Bool.eq_iff_iff];simp;omega)
set_option maxHeartbeats 16000000 in
set_option maxRecDepth 100000 in
theorem rstform_any (s:St) (hl:lenOk s.nm.length) (w:World):
  Calls Tryz.prog 175 #[s.val] w fun e w'=>e=.returned (.bool (stForm s))∧Below w.heap.size w w':=by
 obtain⟨k,nm,t,x,y,bd,body,ed,els⟩:=s
 have CN:=Lib.hid (fun W=>rname_any nm hl W)
 have CX:=Lib.hid (fun W=>rnoexpr_any x W)
 have CY:=Lib.hid (fun W=>rnoexpr_any y W)
 have CT:=Lib.hid (fun W=>rnotype_any t W)
 have CP:=Lib.hid (fun W=>rplace_any x.k W)
 have HB0:=Lib.hid (fun o=>(Below.refl w.heap.size w).alloc (Nat.le_refl _) o)
 have HRow:Hid (∀o W,Below (w.alloc o).heap.size (w.alloc o) W→W.heap[w.heap.size]? =some o):=
  Lib.hid fun o W hb=>(hb.block _ (Array.getElem?_eq_some_iff.1 (heap_alloc_new w o)).1).trans (heap_alloc_new w o)
 have HE:Hid (∀b,stForm (.mk k nm t x y bd body ed els)=b→Ending.returned (.bool b)=.returned (.bool (stForm (.mk k nm t x y bd body ed els)))):=Lib.hid fun b h=>by rw[h]
 clear hl
 dsimp only[St.val,St.k,St.nm,St.t,St.x,St.y,St.bd,St.body,St.ed,St.els]
 have HBe:Hid (body.isEmpty=decide (body.length=0)):=Lib.hid (by cases body<;>simp)
 have HEe:Hid (els.isEmpty=decide (els.length=0)):=Lib.hid (by cases els<;>simp)
 generalize body.length=nb at*
 generalize els.length=ne at*
 by_cases h1:k=1
 ·subst h1
  have HN:=Lib.hid True.intro
  exact q3ie2_3
 have HN:=Lib.hid True.intro
 by_cases h2:k=2
 ·clear h1
  subst h2
  exact q3ie2_3
 by_cases h3:k=3
 ·clear h1 h2
  subst h3
  exact q3ie2_1
 by_cases h4:k=4
 ·clear h1 h2 h3
  subst h4
  by_cases he0:ne=0
  ·subst he0
   exact q3ie2_1
  ·have e1:decide (0<(ne:Int))=true:=by simp;omega
   have e2:decide (0<ne)=true:=by simp;omega
   have e3:0<ne:=by omega
   clear he0
   exact q3ie2_1
 by_cases h5:k=5
 ·clear h1 h2 h3 h4
  subst h5
  by_cases he0:ne=0
  ·subst he0
   exact q3ie2_1
  ·have e1:decide (0<(ne:Int))=true:=by simp;omega
   have e2:decide (0<ne)=true:=by simp;omega
   have e3:0<ne:=by omega
   clear he0
   exact q3ie2_1
 by_cases h6:k=6
 ·clear h1 h2 h3 h4 h5
  subst h6
  exact q3ie2_3
 by_cases h7:k=7
 ·clear h1 h2 h3 h4 h5 h6
  subst h7
  exact q3ie2_3
 by_cases h8:k=8
 ·clear h1 h2 h3 h4 h5 h6 h7
  subst h8
  exact q3ie2_3
 replace HN:=Lib.hid (show k<1∨8<k by omega)
 have b1:(k==1)=false:=by simpa using h1
 have b2:(k==2)=false:=by simpa using h2
 have b3:(k==3)=false:=by simpa using h3
 have b4:(k==4)=false:=by simpa using h4
 have b5:(k==5)=false:=by simpa using h5
 have b6:(k==6)=false:=by simpa using h6
 have b7:(k==7)=false:=by simpa using h7
 have b8:(k==8)=false:=by simpa using h8
 exact q3ie2_3
end Go.Proofs.YtkklogikakcanaaGreatDoor
