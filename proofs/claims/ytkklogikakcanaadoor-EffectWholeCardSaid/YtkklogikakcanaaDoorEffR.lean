/-
  effect: what is so of whoever does something at all.
-/
import Derived.Test.YtkklogikakcanaaDoorEffP
set_option linter.unusedVariables false
set_option linter.unusedSimpArgs false
namespace Go.Proofs.YtkklogikakcanaaDoor
open Go Go.RowKit

abbrev thObjE (S1 : Nat) : Obj := .cells #[.slice (some ⟨S1, 0, none⟩) 1 1] 41 (0, 0)
theorem ty0_okE : ty0.Ok := ⟨by unfold u8ok; decide, by simp [lenOk, ty0], by unfold i64ok; decide⟩
theorem ex_leafE {w : World} {B : Nat} {k n : Int} {nm : List UInt8} (hk : u8ok k) (hn : i64ok n) (hnm : lenOk nm.length) : ExIn w B (.mk k n nm ty0 hdN []) :=
  .mk hk hn hnm ty0_okE (by simp [lenOk]) (fun h => absurd rfl h) (fun y hy => by simp at hy)
theorem fls0_inE {w : World} {B : Nat} : FlsIn w B hdN [] := ⟨by simp [lenOk], fun h => absurd rfl h, fun f hf => by simp at hf⟩
theorem foldl_setE : ∀ (vs pre rest : List Value), rest.length = vs.length → (vs.zipIdx pre.length).foldl (fun cs x => cs.setIfInBounds x.2 x.1) (pre ++ rest).toArray = (pre ++ vs).toArray
  | [], pre, rest, h => by
    obtain rfl : rest = [] := List.eq_nil_of_length_eq_zero h
    simp
  | v :: vs, pre, [], h => by simp at h
  | v :: vs, pre, r :: rest, h => by
    have ih := foldl_setE vs (pre ++ [v]) rest (by simpa using h)
    rw [List.zipIdx_cons, List.foldl_cons]
    have e : (pre ++ r :: rest).toArray.setIfInBounds pre.length v = ((pre ++ [v]) ++ rest).toArray := by
      simp [List.set_append]
    rw [e, show pre.length + 1 = (pre ++ [v]).length by simp, ih]
    simp
/-- what the laws of this layer need of the variables -/
structure EfGl (B : Nat) (w : World) : Prop where
  gl : GlB B w
  num : NumG B w
theorem EfGl.below {B : Nat} {w w' : World} (h : EfGl B w) (hb : Below w.heap.size w w') : EfGl w'.heap.size w' := by
  have h1 := h.gl.below (hb.mono h.gl.le)
  have h2 := h.num.keep (hb.mono h.gl.le)
  exact ⟨GlB.of h1.g, ⟨h2.c0, h2.c1, h2.c2, h2.c3, Nat.lt_of_lt_of_le h2.lt h1.le⟩⟩
abbrev setX : Ex := .mk 3 0 [110] ty0 hdN []
abbrev setY : Ex := .mk 1 1 [] ty0 hdN []
abbrev setS : St := .mk 2 [] ty0 setX setY hdN [] hdN []
abbrev atS : St := .mk 5 [] ty0 x0 x0 hdN [] hdN []
abbrev nFl : Fl := ⟨[110], ⟨1, [], 0⟩⟩
abbrev prA (N1 S1 S2 : Nat) : Pr := ⟨hdN, [], ⟨some ⟨N1, 0, none⟩, 1⟩, [nFl], hdN, [], ⟨some ⟨S2, 0, none⟩, 1⟩, [⟨⟨some ⟨S1, 0, none⟩, 1⟩, [setS]⟩]⟩
abbrev prB (N1 S3 S4 F1 : Nat) : Pr := ⟨hdN, [], ⟨some ⟨N1, 0, none⟩, 1⟩, [nFl], ⟨some ⟨F1, 0, none⟩, 2⟩, [⟨[102], hdN, [], ty0, ⟨some ⟨S3, 0, none⟩, 1⟩, [setS]⟩, ⟨[103], hdN, [], ty0, ⟨some ⟨S4, 0, none⟩, 1⟩, [atS]⟩], hdN, []⟩
theorem prA_types (N1 S1 S2 : Nat) : (typesCheck (prA N1 S1 S2)).2 = 0 := by
  have hnm : nameB [110] = true := by decide
  simp [typesCheck, faultOf, chkPr, chkRes, chkShs, chkFus, chkFls, chkThs, chkSts, chkSt, itemC, stForm, chkXt, chkEx, chkExs, exForm, arity, noEx, noTy, Ex.k, Ex.n, Ex.nm, Ex.t, Ex.args, St.k, St.nm, St.t, St.x, St.y, St.body, St.els, ty0, Chk.bind, scFault, scPr, scHeads, scRes, scShs, scFus, scThs, scSts, scSt, stOwn, valS, exS, exSs, exEnd, Sc.bind, Srt.has, numS, numT, hnm, fieldOf, shOf, tyForm, knownT, Srt.fits]
theorem prB_types (N1 S3 S4 F1 : Nat) : (typesCheck (prB N1 S3 S4 F1)).2 = 0 := by
  have hnm : nameB [110] = true := by decide
  have hnf : nameB [102] = true := by decide
  have hng : nameB [103] = true := by decide
  simp [typesCheck, faultOf, chkPr, chkRes, chkShs, chkFus, chkFls, chkThs, chkSts, chkSt, itemC, stForm, chkXt, chkEx, chkExs, exForm, arity, noEx, noTy, Ex.k, Ex.n, Ex.nm, Ex.t, Ex.args, St.k, St.nm, St.t, St.x, St.y, St.body, St.els, ty0, Chk.bind, scFault, scPr, scHeads, scRes, scShs, scFus, scThs, scSts, scSt, stOwn, valS, exS, exSs, exEnd, Sc.bind, Srt.has, numS, numT, hnm, hnf, hng, fieldOf, shOf, tyForm, knownT, Srt.fits, scPas]
theorem prA_check {N1 S1 S2 : Nat} {F : Int × Int} (h : EfC (prA N1 S1 S2) F) : F = (2, 11) := by
  have h2 : EfC (prA N1 S1 S2) (efRest (prA N1 S1 S2) (efNew (prA N1 S1 S2)).does) := .rest (prA_types N1 S1 S2) (.done (by simp)) (Or.inl rfl)
  have h3 : efRest (prA N1 S1 S2) (efNew (prA N1 S1 S2)).does = (2, 11) := by
    simp [efRest, wrFu, wrTh, wrSs, wrS, badAt, vOwn, vX, vXs, efOwn, efSt, shOf, fieldOf, efNew]
  rw [h3] at h2
  exact h.det h2
theorem setS_ev {N1 S3 S4 F1 : Nat} (s : EfS) : EvSs (prB N1 S3 S4 F1) s [setS] 1 s := by
  obtain ⟨e, h, he⟩ : ∃ e, EvSs (prB N1 S3 S4 F1) s [setS] e s ∧ e = 1 := ⟨_, .cons .nil .nil (.other (by decide) .nil) (.other (by decide) .nil) .nil, by simp [efCut, efOwn, shOf, fieldOf, efSt]⟩
  rwa [he] at h
theorem atS_ev {N1 S3 S4 F1 : Nat} (s : EfS) : EvSs (prB N1 S3 S4 F1) s [atS] 6 s := by
  obtain ⟨e, h, he⟩ : ∃ e, EvSs (prB N1 S3 S4 F1) s [atS] e s ∧ e = 6 := ⟨_, .cons .nil .nil (.other (by decide) .nil) (.other (by decide) .nil) .nil, by simp [efCut, efOwn, efSt]⟩
  rwa [he] at h
theorem prB_look (N1 S3 S4 F1 : Nat) : EvL (prB N1 S3 S4 F1) 0 (efNew (prB N1 S3 S4 F1)) ⟨[1, 6], [2, 2], false⟩ := by
  have h1 : EvO (prB N1 S3 S4 F1) ⟨[0, 0], [0, 0], false⟩ 0 1 ⟨[1, 0], [2, 0], false⟩ := .fresh (s := ⟨[0, 0], [0, 0], false⟩) (s1 := ⟨[0, 0], [1, 0], false⟩) rfl rfl (setS_ev _)
  have h2 : EvO (prB N1 S3 S4 F1) ⟨[1, 0], [2, 0], false⟩ 1 6 ⟨[1, 6], [2, 2], false⟩ := .fresh (s := ⟨[1, 0], [2, 0], false⟩) (s1 := ⟨[1, 0], [2, 1], false⟩) rfl rfl (atS_ev _)
  exact .step (by simp) h1 (.step (by simp) h2 (.done (by simp)))
theorem prB_end {N1 S3 S4 F1 : Nat} {F : Int × Int} (h : EfC (prB N1 S3 S4 F1) F) : F = (0, 0) := by
  have h2 : EfC (prB N1 S3 S4 F1) (efRest (prB N1 S3 S4 F1) [1, 6]) := .rest (prB_types N1 S3 S4 F1) (prB_look N1 S3 S4 F1) (Or.inl rfl)
  have h3 : efRest (prB N1 S3 S4 F1) [1, 6] = (0, 0) := by
    simp [efRest, wrFu, wrTh, wrSs, wrS, badAt, vOwn, vX, vXs, efOwn, efSt, shOf, fieldOf, ty0]
  rw [h3] at h2
  exact h.det h2
set_option maxHeartbeats 4000000 in
set_option maxRecDepth 100000 in
theorem set06_any (w : World) : Calls Tryd.prog 27 #[] w fun e w' => e = .returned (.agg (stCells 2 [] ty0 setX setY none 0 0 none 0 0).toArray) ∧ Below w.heap.size w w' := by
  have HB : Hid (∀ o, Below w.heap.size w (w.alloc o)) := Lib.hid fun o => (Below.refl _ _).alloc (Nat.le_refl _) o
  go_enter Tryd.func27, Tryd.ntmps27
  go_wp2_with (refine wpList_store_row rfl 75 _ _ rfl w.heap.size (stCells 2 [] ty0 setX setY none 0 0 none 0 0).toArray rfl rfl 75 _ (heap_alloc_new w _) (stSizeA ..) rfl (stOne ..) ?_; rw [alloc_setRow _ _ _ _ _ rfl])
  refine bodyPost_ret (results_cell_row (fn := Tryd.f27) Tryd.results27 _ _ w.heap.size 75 _ _ _ rfl (heap_alloc_new w _) Tryd.underlying75 rfl (stSizeA ..)) rfl ?_
  exact ⟨rfl, HB.out _⟩
theorem sts1_in {W : World} {S : Nat} {k : Int} {x y : Ex} (hk : u8ok k) (h : W.heap[S]? = some (stObj k [] ty0 x y none 0 0 none 0 0)) (hd : x.d = hdN ∧ x.args = [] ∧ y.d = hdN ∧ y.args = []) (hx : ExIn W W.heap.size x) (hy : ExIn W W.heap.size y) : StsIn W W.heap.size ⟨some ⟨S, 0, none⟩, 1⟩ [.mk k [] ty0 x y hdN [] hdN []] :=
  ⟨by simp [lenOk], fun _ => ⟨S, 0, rfl, blk_lt h, fun i u hu => by
    match i, hu with
    | 0, hu =>
      cases hu
      exact ⟨cell_at h 0, cell_at h 1, cell_at h 2, cell_at h 3, cell_at h 4, ⟨cell_at h 5, cell_at h 6, cell_at h 7, cell_at h 8, cell_at h 9, cell_at h 10, cell_at h 11⟩,
        ⟨cell_at h 12, cell_at h 13, cell_at h 14, cell_at h 15, cell_at h 16, cell_at h 17, cell_at h 18⟩, cell_at h 19, cell_at h 20⟩
    | n + 1, hu => simp at hu⟩, fun s hs => by
      rw [List.mem_singleton] at hs
      subst hs
      exact .mk hk (by simp [lenOk]) ty0_okE hx hy (by simp [lenOk]) (by simp [lenOk]) (fun h => absurd rfl h) (fun h => absurd rfl h) (fun s hs => by simp at hs) (fun s hs => by simp at hs)⟩
abbrev nObj : Obj := .cells #[.string ⟨[110].toArray⟩, .int .u8 1, .string ⟨([] : List UInt8).toArray⟩, .int .i64 0] 50 (0, 0)
theorem nFl_in {W : World} {N1 : Nat} (h : W.heap[N1]? = some nObj) : FlsIn W W.heap.size ⟨some ⟨N1, 0, none⟩, 1⟩ [nFl] :=
  ⟨by simp [lenOk], fun _ => ⟨N1, 0, rfl, blk_lt h, fun i u hu => by
    match i, hu with
    | 0, hu => cases hu; exact ⟨cell_at h 0, cell_at h 1, cell_at h 2, cell_at h 3⟩
    | n + 1, hu => simp at hu⟩, fun f hf => by
      rw [List.mem_singleton] at hf
      subst hf
      exact ⟨by simp [lenOk], ⟨by unfold u8ok; decide, by simp [lenOk], by unfold i64ok; decide⟩⟩⟩
theorem setX_in {W : World} {B : Nat} : ExIn W B setX ∧ ExIn W B setY ∧ ExIn W B x0 :=
  ⟨ex_leafE (by unfold u8ok; decide) (by unfold i64ok; decide) (by simp [lenOk]), ex_leafE (by unfold u8ok; decide) (by unfold i64ok; decide) (by simp [lenOk]), ex_leafE (by unfold u8ok; decide) (by unfold i64ok; decide) (by simp [lenOk])⟩
theorem prA_in {W : World} {N1 S1 S2 : Nat} (h0 : W.heap[N1]? = some nObj) (h1 : W.heap[S1]? = some (stObj 2 [] ty0 setX setY none 0 0 none 0 0)) (h2 : W.heap[S2]? = some (thObjE S1)) : PrIn W W.heap.size (prA N1 S1 S2) :=
  ⟨by simp [lenOk], fun h => absurd rfl h, fun r hr => by simp at hr, nFl_in h0, by simp [lenOk], fun h => absurd rfl h, fun r hr => by simp at hr, by simp [lenOk],
    fun _ => ⟨S2, 0, rfl, blk_lt h2, fun i y hy => by
      match i, hy with
      | 0, hy => cases hy; exact ⟨cell_at h2 0⟩
      | n + 1, hy => simp at hy⟩,
    fun t ht => by
      rw [List.mem_singleton] at ht
      subst ht
      exact sts1_in (by unfold u8ok; decide) h1 ⟨rfl, rfl, rfl, rfl⟩ setX_in.1 setX_in.2.1⟩
abbrev fuObj2 (S3 S4 : Nat) : Obj := .cells #[.string ⟨[102].toArray⟩, .slice none 0 0, .int .u8 0, .string ⟨([] : List UInt8).toArray⟩, .int .i64 0, .slice (some ⟨S3, 0, none⟩) 1 1, .string ⟨[103].toArray⟩, .slice none 0 0, .int .u8 0, .string ⟨([] : List UInt8).toArray⟩, .int .i64 0, .slice (some ⟨S4, 0, none⟩) 1 1] 43 (0, 0)
abbrev atObj : Obj := .cells #[.int .u8 5, .string ⟨#[]⟩, .int .u8 0, .string ⟨#[]⟩, .int .i64 0, .int .u8 0, .int .i64 0, .string ⟨#[]⟩, .int .u8 0, .string ⟨#[]⟩, .int .i64 0, .slice none 0 0, .int .u8 0, .int .i64 0, .string ⟨#[]⟩, .int .u8 0, .string ⟨#[]⟩, .int .i64 0, .slice none 0 0, .slice none 0 0, .slice none 0 0] 75 (0, 0)
theorem prB_in {W : World} {N1 S3 S4 F1 : Nat} (h0 : W.heap[N1]? = some nObj) (h1 : W.heap[S3]? = some (stObj 2 [] ty0 setX setY none 0 0 none 0 0)) (h2 : W.heap[S4]? = some (stObj 5 [] ty0 x0 x0 none 0 0 none 0 0)) (h3 : W.heap[F1]? = some (fuObj2 S3 S4)) : PrIn W W.heap.size (prB N1 S3 S4 F1) :=
  ⟨by simp [lenOk], fun h => absurd rfl h, fun r hr => by simp at hr, nFl_in h0, by simp [lenOk],
    fun _ => ⟨F1, 0, rfl, blk_lt h3, fun i y hy => by
      match i, hy with
      | 0, hy => cases hy; exact ⟨cell_at h3 0, cell_at h3 1, cell_at h3 2, cell_at h3 3, cell_at h3 4, cell_at h3 5⟩
      | 1, hy => cases hy; exact ⟨cell_at h3 6, cell_at h3 7, cell_at h3 8, cell_at h3 9, cell_at h3 10, cell_at h3 11⟩
      | n + 2, hy => simp at hy⟩,
    fun f hf => by
      rcases List.mem_cons.1 hf with rfl | hf
      · exact ⟨by simp [lenOk], fls0_inE, ty0_okE, sts1_in (by unfold u8ok; decide) h1 ⟨rfl, rfl, rfl, rfl⟩ setX_in.1 setX_in.2.1⟩
      · rw [List.mem_singleton] at hf
        subst hf
        exact ⟨by simp [lenOk], fls0_inE, ty0_okE, sts1_in (by unfold u8ok; decide) h2 ⟨rfl, rfl, rfl, rfl⟩ setX_in.2.2 setX_in.2.2⟩,
    by simp [lenOk], fun h => absurd rfl h, fun t ht => by simp at ht⟩
set_option maxHeartbeats 8000000 in
set_option maxRecDepth 100000 in
theorem alive06_any (w : World) (G : EfGl w.heap.size w) :
    Calls Tryd.prog 11 #[] w fun e w' => e = .returned (.bool true) ∧ Below w.heap.size w w' := by
  have HG : Hid (∀ W, Below w.heap.size w W → GlB W.heap.size W ∧ NumG W.heap.size W) := Lib.hid fun W hb => ⟨(G.below hb).gl, (G.below hb).num⟩
  obtain ⟨vs, hvs⟩ : ∃ vs : List Value, stCells 2 [] ty0 setX setY none 0 0 none 0 0 = vs := ⟨_, rfl⟩
  have CS : Hid (∀ W, Calls Tryd.prog 27 #[] W fun e w' => e = .returned (.agg vs.toArray) ∧ Below W.heap.size W w') := Lib.hid fun W => by rw [← hvs]; exact set06_any W
  have Hso : Hid (stObj 2 [] ty0 setX setY none 0 0 none 0 0 = .cells vs.toArray 75 (0, 0)) := Lib.hid (by rw [← hvs])
  have hfo : List.foldl (fun cs x => cs.setIfInBounds x.snd x.fst) #[Value.int .u8 0, .string ⟨#[]⟩, .int .u8 0, .string ⟨#[]⟩, .int .i64 0, .int .u8 0, .int .i64 0, .string ⟨#[]⟩, .int .u8 0, .string ⟨#[]⟩, .int .i64 0, .slice none 0 0, .int .u8 0, .int .i64 0, .string ⟨#[]⟩, .int .u8 0, .string ⟨#[]⟩, .int .i64 0, .slice none 0 0, .slice none 0 0, .slice none 0 0] vs.zipIdx = vs.toArray := by
    have h := foldl_setE vs [] [Value.int .u8 0, .string ⟨#[]⟩, .int .u8 0, .string ⟨#[]⟩, .int .i64 0, .int .u8 0, .int .i64 0, .string ⟨#[]⟩, .int .u8 0, .string ⟨#[]⟩, .int .i64 0, .slice none 0 0, .int .u8 0, .int .i64 0, .string ⟨#[]⟩, .int .u8 0, .string ⟨#[]⟩, .int .i64 0, .slice none 0 0, .slice none 0 0, .slice none 0 0] (by rw [← hvs]; rfl)
    exact h
  have Hfo := Lib.hid hfo
  have hlen : vs.length = 21 := by rw [← hvs]; rfl
  obtain ⟨N1, hN1⟩ : ∃ N1, w.heap.size = N1 := ⟨_, rfl⟩
  obtain ⟨w1, hw1⟩ : ∃ w1, w.alloc nObj = w1 := ⟨_, rfl⟩
  have hb1 : Below w.heap.size w w1 := by rw [← hw1]; exact (Below.refl _ _).alloc (Nat.le_refl _) _
  have x1 : w1.heap[N1]? = some nObj := by rw [← hw1, ← hN1]; exact heap_alloc_new w _
  have HB1 := Lib.hid hb1
  have HX1 : Hid (∀ W, Below w1.heap.size w1 W → W.heap[N1]? = some nObj) := Lib.hid fun W hb => (hb.block N1 (blk_lt x1)).trans x1
  have HN1 := Lib.hid (And.intro hN1 hw1)
  clear G hvs hfo hN1 hw1 hb1 x1
  go_enter Tryd.func11, Tryd.ntmps11
  go_wp2_with fail
  simp only [HN1.out.1, HN1.out.2]
  refine (CS.out _).mono ?_
  rintro e w2 ⟨rfl, hb2⟩
  have HB2 : Hid (Below w1.heap.size w1 w2) := Lib.hid hb2
  clear hb2
  go_wp2_with fail
  rw [Hfo.out]
  obtain ⟨S1, hS1⟩ : ∃ S1, w2.heap.size = S1 := ⟨_, rfl⟩
  obtain ⟨w3, hw3⟩ : ∃ w3, w2.alloc (.cells vs.toArray 75 (0, 0)) = w3 := ⟨_, rfl⟩
  obtain ⟨w4, hw4⟩ : ∃ w4, w3.alloc (.cells #[.slice (some ⟨S1, 0, none⟩) 1 1] 41 (0, 0)) = w4 := ⟨_, rfl⟩
  have hb3 : Below w2.heap.size w2 w3 := by rw [← hw3]; exact (Below.refl _ _).alloc (Nat.le_refl _) _
  have hb4 : Below w3.heap.size w3 w4 := by rw [← hw4]; exact (Below.refl _ _).alloc (Nat.le_refl _) _
  have s3 : w3.heap.size = S1 + 1 := by rw [← hw3, World.size_alloc, hS1]
  have HB4 : Hid (Below w1.heap.size w1 w4) := Lib.hid (HB2.out.trans ((hb3.trans (hb4.mono hb3.size)).mono HB2.out.size))
  have x3 : w4.heap[S1]? = some (stObj 2 [] ty0 setX setY none 0 0 none 0 0) := (hb4.block S1 (by omega)).trans (by rw [Hso.out, ← hw3, ← hS1]; exact heap_alloc_new w2 _)
  have x4 : w4.heap[S1 + 1]? = some (thObjE S1) := by rw [← hw4, ← s3]; exact heap_alloc_new w3 _
  have g4 := HG.out _ (HB1.out.trans (HB4.out.mono HB1.out.size))
  have CC := Lib.hid (efCheck_any w4.heap.size (prA N1 S1 (S1 + 1)) w4 g4.1 g4.2 (prA_in (HX1.out _ HB4.out) x3 x4))
  rw [hS1, hw3, hw4]
  clear hS1 hw3 hw4 hb3 hb4 s3 x3 x4 g4
  refine CC.out.mono ?_
  rintro e w5 ⟨F, rfl, hF, hb5⟩
  obtain rfl := prA_check hF
  have HB5 : Hid (Below w1.heap.size w1 w5) := Lib.hid (HB4.out.trans (hb5.mono HB4.out.size))
  clear CC hF hb5 HB4 HB2
  dsimp only
  go_wp2_with fail
  refine (CS.out _).mono ?_
  rintro e w6 ⟨rfl, hb6⟩
  have HB6 : Hid (Below w1.heap.size w1 w6) := Lib.hid (HB5.out.trans (hb6.mono HB5.out.size))
  clear hb6
  go_wp2_with fail
  rw [Hfo.out]
  obtain ⟨S3, hS3⟩ : ∃ S3, w6.heap.size = S3 := ⟨_, rfl⟩
  obtain ⟨w7, hw7⟩ : ∃ w7, w6.alloc (.cells vs.toArray 75 (0, 0)) = w7 := ⟨_, rfl⟩
  obtain ⟨w8, hw8⟩ : ∃ w8, w7.alloc atObj = w8 := ⟨_, rfl⟩
  obtain ⟨w9, hw9⟩ : ∃ w9, w8.alloc (fuObj2 S3 (S3 + 1)) = w9 := ⟨_, rfl⟩
  have hb7 : Below w6.heap.size w6 w7 := by rw [← hw7]; exact (Below.refl _ _).alloc (Nat.le_refl _) _
  have hb8 : Below w7.heap.size w7 w8 := by rw [← hw8]; exact (Below.refl _ _).alloc (Nat.le_refl _) _
  have hb9 : Below w8.heap.size w8 w9 := by rw [← hw9]; exact (Below.refl _ _).alloc (Nat.le_refl _) _
  have s7 : w7.heap.size = S3 + 1 := by rw [← hw7, World.size_alloc, hS3]
  have s8 : w8.heap.size = S3 + 1 + 1 := by rw [← hw8, World.size_alloc, s7]
  have b79 : Below w7.heap.size w7 w9 := hb8.trans (hb9.mono hb8.size)
  have HB9 : Hid (Below w1.heap.size w1 w9) := Lib.hid (HB6.out.trans ((hb7.trans (b79.mono hb7.size)).mono HB6.out.size))
  have y3 : w9.heap[S3]? = some (stObj 2 [] ty0 setX setY none 0 0 none 0 0) := (b79.block S3 (by omega)).trans (by rw [Hso.out, ← hw7, ← hS3]; exact heap_alloc_new w6 _)
  have y4 : w9.heap[S3 + 1]? = some (stObj 5 [] ty0 x0 x0 none 0 0 none 0 0) := (hb9.block (S3 + 1) (by omega)).trans (by rw [← hw8, ← s7]; exact heap_alloc_new w7 _)
  have y5 : w9.heap[S3 + 1 + 1]? = some (fuObj2 S3 (S3 + 1)) := by rw [← hw9, ← s8]; exact heap_alloc_new w8 _
  have g9 := HG.out _ (HB1.out.trans (HB9.out.mono HB1.out.size))
  have CO := Lib.hid (efOf_any w9.heap.size (prB N1 S3 (S3 + 1) (S3 + 1 + 1)) w9 g9.1 g9.2 (prB_in (HX1.out _ HB9.out) y3 y4 y5))
  rw [hS3, hw7, hw8, hw9]
  clear hS3 hw7 hw8 hw9 hb7 hb8 hb9 s7 s8 b79 y3 y4 y5 g9
  refine CO.out.mono ?_
  rintro e wA ⟨F2, hF2, hbA, hE⟩
  obtain rfl := prB_end hF2
  have HBA : Hid (Below w.heap.size w wA) := Lib.hid (HB1.out.trans ((HB9.out.trans (hbA.mono HB9.out.size)).mono HB1.out.size))
  clear CO hF2 hbA
  rcases hE with ⟨h0, -⟩ | ⟨-, s, Db, hev, rfl, hd, -⟩
  · exact absurd rfl h0
  · obtain rfl := hev.det (prB_look N1 S3 (S3 + 1) (S3 + 1 + 1))
    have d0 := cell_at hd 0
    have d1 := cell_at hd 1
    simp only [List.map_cons, List.map_nil, List.getElem?_toArray, List.getElem?_cons_zero, List.getElem?_cons_succ] at d0 d1
    clear hev hd
    dsimp only [List.length_cons, List.length_nil]
    go_wp2_with fail
    go_ret
    exact ⟨rfl, HBA.out⟩
end Go.Proofs.YtkklogikakcanaaDoor
