/-
  causal.Join.
-/
import Derived.Test.YtgjffndpegjenaaGreatAdd
import Derived.Outline
import Derived.Deep.QuietTactic
import Derived.BigQuiet
import Derived.WalkSpells
import Derived.WalkLawsBesides
import Derived.LoopTactic
import Derived.Lib.Hide
import Derived.Deep.RegionHeld3
import Derived.Deep.DeepCutAuto
set_option linter.unusedVariables false
set_option linter.unusedSimpArgs false
set_option linter.unusedSectionVars false
namespace Go.Proofs.YtgjffndpegjenaaGreat
open Go.RowKit
attribute [local go_sem] lat_alloc lat_drew lat_drewN Lat.refl

def cJoin (v1 : List Int) (c1 : List Dot) (v2 : List Int) (c2 : List Dot) : List Int × List Dot :=
  cClean (vJoin (cClean v1 c1).1 (cClean v2 c2).1) ((cClean v1 c1).2 ++ (cClean v2 c2).2)

set_option maxRecDepth 100000 in
theorem causal_Join (x y : CtxV) (w : World) (hx : CtxOk w x) (hy : CtxOk w y) (hxs : x.cloud.length ≤ 549755813888) (hys : y.cloud.length ≤ 549755813888) :
    Calls Tryz.prog 197 #[.agg (ctxCells x).toArray, .agg (ctxCells y).toArray] w fun e w' => ∃ z : CtxV, e = .returned (.agg (ctxCells z).toArray) ∧ (z.v, z.cloud) = cJoin x.v x.cloud y.v y.cloud ∧ Own encDot 2 37 w.heap.size w' (.slice z.A z.cloud.length z.cap) z.cloud ∧ Lat w w' := by
  have hlx : (ctxCells x).length = 17 := ctxCells_len x hx.len
  have hly : (ctxCells y).length = 17 := ctxCells_len y hy.len
  have HX := Lib.hid (fun W (h : Lat w W) => causal_Clean x W (hx.later h))
  have HY := Lib.hid (fun W (h : Lat w W) => causal_Clean y W (hy.later h))
  have Hx := Lib.hid hx
  have Hy := Lib.hid hy
  clear hx hy
  go_enter Tryz.func197, Tryz.ntmps197
  go_upto_region 1 with (fail)
  rw [zeroCtx_cells]
  have l0 : Lat w (((w.alloc (Obj.cells (ctxCells x).toArray 31)).alloc (Obj.cells (ctxCells y).toArray 31)).alloc (Obj.cells (ctxCells zeroCtx).toArray 31)) := (by repeat (first | with_reducible exact Lat.refl _ | with_reducible assumption | with_reducible apply lat_alloc | with_reducible apply lat_drewN | with_reducible apply lat_drew))
  have k0 := (old_at (Obj.cells (ctxCells zeroCtx).toArray 31) (old_at (Obj.cells (ctxCells y).toArray 31) (new_at w (Obj.cells (ctxCells x).toArray 31))))
  have k1 := (old_at (Obj.cells (ctxCells zeroCtx).toArray 31) (new2_at w (Obj.cells (ctxCells x).toArray 31) (Obj.cells (ctxCells y).toArray 31)))
  have k2 := (new3_at w (Obj.cells (ctxCells x).toArray 31) (Obj.cells (ctxCells y).toArray 31) (Obj.cells (ctxCells zeroCtx).toArray 31))
  generalize (((w.alloc (Obj.cells (ctxCells x).toArray 31)).alloc (Obj.cells (ctxCells y).toArray 31)).alloc (Obj.cells (ctxCells zeroCtx).toArray 31)) = W0 at *
  have hrefl := Lat.refl W0
  have hzl : (ctxCells zeroCtx).length = 17 := ctxCells_len _ (clampTo_len _ _)
  generalize ctxCells zeroCtx = Z at k2 hzl
  have hb2 := lt_of_block k2
  have K0 := Lib.hid k0
  have K1 := Lib.hid k1
  have K2 := Lib.hid k2
  clear k0 k1 k2
  refine Code.wp_mono (Q := fun e a' w' => ∃ (p q : CtxV) (w2 : World) (u5 u6 u7 u8 : Value), e = .normal ∧ a' = { tmps := #[.agg (ctxCells x).toArray, .agg (ctxCells y).toArray, .pointer (some ⟨w.heap.size, 0, none⟩), .pointer (some ⟨w.heap.size + 1, 0, none⟩), .pointer (some ⟨w.heap.size + 1 + 1, 0, none⟩), u5, u6, u7, u8, undef, undef, undef, undef, undef, undef, undef, undef, undef, undef, undef, undef, undef], defers := [] } ∧
    w' = (w2.setCells w.heap.size 0 (ctxCells p)).setCells (w.heap.size + 1) 0 (ctxCells q) ∧ Lat W0 w2 ∧ (p.v, p.cloud) = cClean x.v x.cloud ∧ (q.v, q.cloud) = cClean y.v y.cloud ∧
    Own encDot 2 37 W0.heap.size w2 (.slice p.A p.cloud.length p.cap) p.cloud ∧ Own encDot 2 37 W0.heap.size w2 (.slice q.A q.cloud.length q.cap) q.cloud) ?_ ?_
  · rintro e a' w' ⟨p, q, w2, u5, u6, u7, u8, rfl, rfl, rfl, hL2, hp, hq, hOp, hOq⟩
    simp only [Exit.then]
    refine ‹∀ (a : Act) (w : World), Code.wp _ _ _ a w → _› _ _ ?_
    go_upto_region 2 with (fail)
    have hlp := ctxCells_len p (clean_len hp)
    have hlq := ctxCells_len q (clean_len hq)
    have hvp : (vcells p.v).length = 16 := by rw [vcells_len, clean_len hp]
    have hvq : (vcells q.v).length = 16 := by rw [vcells_len, clean_len hq]
    have hW1 : ((w2.setCells w.heap.size 0 (ctxCells p)).setCells (w.heap.size + 1) 0 (ctxCells q)).heap[w.heap.size]? = some (.cells (ctxCells p).toArray 31 (0, 0)) := by
      rw [setCells_other (W := w2) (by omega)]; exact block_whole (hL2.block K0.out) _ (by simp [hlp, hlx])
    have hW2 : ((w2.setCells w.heap.size 0 (ctxCells p)).setCells (w.heap.size + 1) 0 (ctxCells q)).heap[w.heap.size + 1]? = some (.cells (ctxCells q).toArray 31 (0, 0)) :=
      block_whole (by rw [setCells_other (W := w2) (by omega)]; exact hL2.block K1.out) _ (by simp [hlq, hly])
    have hW3 : ((w2.setCells w.heap.size 0 (ctxCells p)).setCells (w.heap.size + 1) 0 (ctxCells q)).heap[w.heap.size + 2]? = some (.cells Z.toArray 31 (0, 0)) := by
      rw [setCells_other (W := w2) (by omega), setCells_other (W := w2) (by omega)]; exact hL2.block K2.out
    have hWl : Lat w ((w2.setCells w.heap.size 0 (ctxCells p)).setCells (w.heap.size + 1) 0 (ctxCells q)) := lat_setCells (by omega) _ _ (lat_setCells (Nat.le_refl _) _ _ (l0.trans hL2))
    have hOp' := (hOp.grown (setCells_grown w.heap.size (ctxCells p) 0 w2) (by omega)).grown (setCells_grown (w.heap.size + 1) (ctxCells q) 0 _) (by omega)
    have hOq' := (hOq.grown (setCells_grown w.heap.size (ctxCells p) 0 w2) (by omega)).grown (setCells_grown (w.heap.size + 1) (ctxCells q) 0 _) (by omega)
    generalize (w2.setCells w.heap.size 0 (ctxCells p)).setCells (w.heap.size + 1) 0 (ctxCells q) = W1 at *
    have hnp : ∀ b o, p.A = some ⟨b, o, none⟩ → b ≠ w.heap.size + 2 := fun b o e => by
      have := Own.block_ge hOp' b (by rw [e]; rfl)
      omega
    have hnq : ∀ b o, q.A = some ⟨b, o, none⟩ → b ≠ w.heap.size + 2 := fun b o e => by
      have := Own.block_ge hOq' b (by rw [e]; rfl)
      omega
    have hRp := Own.rdS encDot_len hOp'
    have hRq := Own.rdS encDot_len hOq'
    have hps : p.cloud.length ≤ 549755813888 := Nat.le_trans (clean_small hp) hxs
    have hqs : q.cloud.length ≤ 549755813888 := Nat.le_trans (clean_small hq) hys
    have hU : Up W1 (w.heap.size + 2) 31 17 W1 := Up.start hW3 (by simpa using hzl)
    have R0 := Lib.hid (fun W (h : Up W1 (w.heap.size + 2) 31 17 W) => ctx_vec (h.block hW1 (by omega)) (Lat.refl W))
    have R1 := Lib.hid (fun W (h : Up W1 (w.heap.size + 2) 31 17 W) => ctx_vec (h.block hW2 (by omega)) (Lat.refl W))
    have s0 := fun W (h : Up W1 (w.heap.size + 2) 31 17 W) => ctx_slice (clean_len hp) (h.block hW1 (by omega)) (Lat.refl W)
    have s1 := fun W (h : Up W1 (w.heap.size + 2) 31 17 W) => ctx_slice (clean_len hq) (h.block hW2 (by omega)) (Lat.refl W)
    have L0 := Lib.hid (fun W (h : Up W1 (w.heap.size + 2) 31 17 W) => h.lat hWl (Nat.le_add_right _ 2))
    have Hp := Lib.hid hp
    have Hq := Lib.hid hq
    have HRp := Lib.hid hRp
    have HRq := Lib.hid hRq
    have hzb := lt_of_block hW3
    have Hzb := Lib.hid hzb
    have HC := Lib.hid (fun bs W (h0 : W.cell? ⟨bs, 0, none⟩ = some (.slice p.A p.cloud.length p.cap)) (h1 : W.cell? ⟨bs, 1, none⟩ = some (.slice q.A q.cloud.length q.cap)) (h : Up W1 (w.heap.size + 2) 31 17 W) => dot_Concat bs 2 p.A _ p.cap p.cloud rfl hps q.A _ q.cap q.cloud rfl hqs W h0 h1 (RdS.grown hRp h.grown hnp) (RdS.grown hRq h.grown hnq))
    have hJl := vJoinTo_len p.v q.v 16
    have HVJ := Lib.hid (fun W => vector_Join p.v q.v (clean_len hp) (clean_len hq) W)
    clear hp hq hOp hOq hOp' hOq' hRp hRq hW1 hW2 hW3 hL2
    refine wp_region_held_drew (S := (fun W => Up W1 (w.heap.size + 2) 31 17 W)) (by kernel_rfl) ?_ (fun hHeld => ?_)
    · (try dsimp only); (first | ((repeat (first | with_reducible assumption | with_reducible apply up_alloc | with_reducible apply up_drewN | with_reducible apply up_drew | with_reducible apply up_set | (refine up_whole ?_ _ (by assumption)))); done) | (refine Up.pre hb1 ?_; ((repeat (first | with_reducible assumption | with_reducible apply up_alloc | with_reducible apply up_drewN | with_reducible apply up_drew)); done)))
    refine wpAnyH_take (i := 0) (oi := { dst := some 9, op := _, type := _, pos := _, after := _, guard := _ }) (v := ?_) rfl (by kernel_rfl) (by kernel_rfl) (by kernel_rfl) (fun _ _ _ h => h) (Or.inl ⟨by rfl, ?_⟩) (by assumption) ?_
    rotate_left
    · (intro w hSw; (try dsimp only at hSw); go_simp) <;> with_reducible rfl
    (try simp only [Act.put, List.setIfInBounds_toArray, List.set_cons_zero, List.set_cons_succ])
    refine wpAnyH_take (i := 1) (oi := { dst := some 10, op := _, type := _, pos := _, after := _, guard := _ }) rfl (by kernel_rfl) (by kernel_rfl) (by kernel_rfl) (fun _ _ _ h => h) (yieldsIf_load_mid (by rfl) _ _ rfl (w.heap.size) (0) rfl ((vcells p.v)) _ ((R0.out)) Tryz.underlying28 rfl (by rw [hvp]; kernel_rfl)) (by assumption) ?_
    (try simp only [Act.put, List.setIfInBounds_toArray, List.set_cons_zero, List.set_cons_succ])
    refine wpAnyH_take (i := 2) (oi := { dst := some 11, op := _, type := _, pos := _, after := _, guard := _ }) (v := ?_) rfl (by kernel_rfl) (by kernel_rfl) (by kernel_rfl) (fun _ _ _ h => h) (Or.inl ⟨by rfl, ?_⟩) (by assumption) ?_
    rotate_left
    · (intro w hSw; (try dsimp only at hSw); go_simp) <;> with_reducible rfl
    (try simp only [Act.put, List.setIfInBounds_toArray, List.set_cons_zero, List.set_cons_succ])
    refine wpAnyH_take (i := 3) (oi := { dst := some 12, op := _, type := _, pos := _, after := _, guard := _ }) rfl (by kernel_rfl) (by kernel_rfl) (by kernel_rfl) (fun _ _ _ h => h) (yieldsIf_load_mid (by rfl) _ _ rfl (w.heap.size + 1) (0) rfl ((vcells q.v)) _ ((R1.out)) Tryz.underlying28 rfl (by rw [hvq]; kernel_rfl)) (by assumption) ?_
    (try simp only [Act.put, List.setIfInBounds_toArray, List.set_cons_zero, List.set_cons_succ])
    refine wpAnyH_take (i := 5) (oi := { dst := some 14, op := _, type := _, pos := _, after := _, guard := _ }) (v := ?_) rfl (by kernel_rfl) (by kernel_rfl) (by kernel_rfl) (fun _ _ _ h => h) (Or.inl ⟨by rfl, ?_⟩) (by assumption) ?_
    rotate_left
    · (intro w hSw; (try dsimp only at hSw); go_simp) <;> with_reducible rfl
    (try simp only [Act.put, List.setIfInBounds_toArray, List.set_cons_zero, List.set_cons_succ])
    refine wpAnyH_take (i := 6) (oi := { dst := some 15, op := _, type := _, pos := _, after := _, guard := _ }) (v := ?_) rfl (by kernel_rfl) (by kernel_rfl) (by kernel_rfl) (fun _ _ _ h => h) (Or.inl ⟨by rfl, ?_⟩) (by assumption) ?_
    rotate_left
    · (intro w hSw; (try dsimp only at hSw); go_simp) <;> with_reducible rfl
    (try simp only [Act.put, List.setIfInBounds_toArray, List.set_cons_zero, List.set_cons_succ])
    refine wpAnyH_take (i := 7) (oi := { dst := some 16, op := _, type := _, pos := _, after := _, guard := _ }) (v := ?_) rfl (by kernel_rfl) (by kernel_rfl) (by kernel_rfl) (fun _ _ _ h => h) (Or.inl ⟨by rfl, ?_⟩) (by assumption) ?_
    rotate_left
    · (intro w hSw; (try dsimp only at hSw); go_simp) <;> with_reducible rfl
    (try simp only [Act.put, List.setIfInBounds_toArray, List.set_cons_zero, List.set_cons_succ])
    refine wpAnyH_take (i := 8) (oi := { dst := some 17, op := _, type := _, pos := _, after := _, guard := _ }) (v := ?_) rfl (by kernel_rfl) (by kernel_rfl) (by kernel_rfl) (fun _ _ _ h => h) (Or.inl ⟨by rfl, ?_⟩) (by assumption) ?_
    rotate_left
    · (intro w hSw; (try dsimp only at hSw); go_simp) <;> with_reducible rfl
    (try simp only [Act.put, List.setIfInBounds_toArray, List.set_cons_zero, List.set_cons_succ])
    refine wpAnyH_ready (rs := [4, 9]) (by kernel_rfl) (by simp) ?_
    refine AllReadyH.cons (o := { dst := some 13, op := _, type := _, pos := _, after := _, guard := _ }) rfl (fun K hK => ?_) ?_
    · go_simp
      (go_at_call 308; refine (HVJ.out _).mono ?_; rintro e w3 ⟨rfl, hb1⟩)
      first | (refine hK.out _ _ ?_ (fun hHeld => ?_)) | (go_wp2_with fail; refine hK.out _ _ ?_ (fun hHeld => ?_))
      · (try dsimp only); (first | ((repeat (first | with_reducible assumption | with_reducible apply up_alloc | with_reducible apply up_drewN | with_reducible apply up_drew | with_reducible apply up_set | (refine up_whole ?_ _ (by assumption)))); done) | (refine Up.pre hb1 ?_; ((repeat (first | with_reducible assumption | with_reducible apply up_alloc | with_reducible apply up_drewN | with_reducible apply up_drew)); done)))
      clear hK K
      (try simp only [Act.put, List.setIfInBounds_toArray, List.set_cons_zero, List.set_cons_succ])
      refine wpAnyH_ready (rs := [9]) (by kernel_rfl) (by simp) ?_
      refine AllReadyH.cons (o := { dst := some 18, op := _, type := _, pos := _, after := _, guard := _ }) rfl (fun K hK => ?_) AllReadyH.nil
      go_simp
      first | (refine hK.out _ _ ?_ (fun hHeld => ?_)) | (go_wp2_with fail; refine hK.out _ _ ?_ (fun hHeld => ?_))
      · (try dsimp only); (first | ((repeat (first | with_reducible assumption | with_reducible apply up_alloc | with_reducible apply up_drewN | with_reducible apply up_drew | with_reducible apply up_set | (refine up_whole ?_ _ (by assumption)))); done) | (refine Up.pre hb1 ?_; ((repeat (first | with_reducible assumption | with_reducible apply up_alloc | with_reducible apply up_drewN | with_reducible apply up_drew)); done)))
      clear hK K
      (try simp only [Act.put, List.setIfInBounds_toArray, List.set_cons_zero, List.set_cons_succ])
      refine wpAnyH_ready (rs := [10]) (by kernel_rfl) (by simp) ?_
      refine AllReadyH.cons (o := { dst := some 19, op := _, type := _, pos := _, after := _, guard := _ }) rfl (fun K hK => ?_) AllReadyH.nil
      go_simp
      (go_at_call 199; refine (HC.out _ _ (by first | exact cell_of_row _ _ 0 _ _ _ (new_at _ _) | exact Lat.cell hb1 (new_at _ _) 0 rfl) (by first | exact cell_of_row _ _ 1 _ _ _ (new_at _ _) | exact Lat.cell hb1 (new_at _ _) 1 rfl) (by with_reducible assumption)).mono ?_; rintro e w4 ⟨v1, rfl, hO1, hb1⟩; obtain ⟨A1, c1, hv1, hc1, hc2, hR1⟩ := Own.rd encDot_len hO1; subst hv1)
      first | (refine hK.out _ _ ?_ (fun hHeld => ?_)) | (go_wp2_with fail; refine hK.out _ _ ?_ (fun hHeld => ?_))
      · (try dsimp only); (first | ((repeat (first | with_reducible assumption | with_reducible apply up_alloc | with_reducible apply up_drewN | with_reducible apply up_drew | with_reducible apply up_set | (refine up_whole ?_ _ (by assumption)))); done) | (refine Up.pre hb1 ?_; ((repeat (first | with_reducible assumption | with_reducible apply up_alloc | with_reducible apply up_drewN | with_reducible apply up_drew)); done)))
      clear hK K
      (try simp only [Act.put, List.setIfInBounds_toArray, List.set_cons_zero, List.set_cons_succ])
      refine wpAnyH_take (i := 11) (oi := { dst := some 20, op := _, type := _, pos := _, after := _, guard := _ }) rfl (by kernel_rfl) (by kernel_rfl) (by kernel_rfl) (fun _ _ _ h => h) (Or.inl ⟨by rfl, fun w _ => exec_build_ctx ⟨vJoin p.v q.v, A1, c1, p.cloud ++ q.cloud⟩ hJl rfl (by simp [Act.eval]) w⟩) (by assumption) ?_
      (try simp only [Act.put, List.setIfInBounds_toArray, List.set_cons_zero, List.set_cons_succ])
      refine wpAnyH_ready (rs := [12]) (by kernel_rfl) (by simp) ?_
      refine AllReadyH.cons (o := { dst := some 21, op := _, type := _, pos := _, after := _, guard := _ }) rfl (fun K hK => ?_) AllReadyH.nil
      go_simp
      (go_at_call 198; refine (causal_Clean ⟨vJoin p.v q.v, A1, c1, p.cloud ++ q.cloud⟩ _ ⟨hJl, by simp; omega, hR1⟩).mono ?_; rintro e w5 ⟨z, rfl, hz, hO2, hb1⟩; have hlz := ctxCells_len z (clean_len hz); have hlzz : (ctxCells z).toArray.size = 17 := by simp [hlz])
      first | (refine hK.out _ _ ?_ (fun hHeld => ?_)) | (go_wp2_with fail; refine hK.out _ _ ?_ (fun hHeld => ?_))
      · (try dsimp only); (first | ((repeat (first | with_reducible assumption | with_reducible apply up_alloc | with_reducible apply up_drewN | with_reducible apply up_drew | with_reducible apply up_set | (refine up_whole ?_ _ (by assumption)))); done) | (refine Up.pre hb1 ?_; ((repeat (first | with_reducible assumption | with_reducible apply up_alloc | with_reducible apply up_drewN | with_reducible apply up_drew)); done)))
      clear hK K
      (try simp only [Act.put, List.setIfInBounds_toArray, List.set_cons_zero, List.set_cons_succ])
      refine wpAnyH_ready (rs := [13]) (by kernel_rfl) (by simp) ?_
      refine AllReadyH.cons (o := { dst := none, op := _, type := _, pos := _, after := _, guard := _ }) rfl (fun K hK => ?_) AllReadyH.nil
      rw [if_pos (by rfl)]
      refine wp_store_mid _ _ _ rfl (w.heap.size + 2) (0) (ctxCells z).toArray rfl rfl ?_ ?_ ?_ ?_
      · exact (by rw [hlzz]; exact Up.there (by assumption) 17 (Nat.le_refl _))
      · (simp only [List.size_toArray, hlz]; kernel_rfl)
      · exact all_oneCell_toArray (ctxCells_one z)
      simp only [List.toList_toArray]
      first | (refine hK.out _ _ ?_ (fun hHeld => ?_)) | (go_wp2_with fail; refine hK.out _ _ ?_ (fun hHeld => ?_))
      · (try dsimp only); (first | ((repeat (first | with_reducible assumption | with_reducible apply up_alloc | with_reducible apply up_drewN | with_reducible apply up_drew | with_reducible apply up_set | (refine up_whole ?_ _ (by assumption)))); done) | (refine Up.pre hb1 ?_; ((repeat (first | with_reducible assumption | with_reducible apply up_alloc | with_reducible apply up_drewN | with_reducible apply up_drew)); done)))
      clear hK K
      (try simp only [Act.put, List.setIfInBounds_toArray, List.set_cons_zero, List.set_cons_succ])
      refine wpAnyH_done (by kernel_rfl) ?_ _
      (go_wp2; have hU9 : Up W1 (w.heap.size + 2) 31 17 w5 := (by assumption); refine bodyPost_ret (results_cell rfl _ _ (w.heap.size + 2) rfl (ctxCells z) _ (range_of_block (hU9.whole _ hlz)) Tryz.underlying31 rfl (by rw [hlz]; kernel_rfl)) rfl ?_; have hs2 := Nat.lt_of_lt_of_le Hzb.out (Up.grown ‹Up W1 (w.heap.size + 2) 31 17 w4›).size; exact ⟨z, rfl, by rw [hz, cJoin, ← Hp.out, ← Hq.out], (hO2.grown (setCells_grown (w.heap.size + 2) (ctxCells z) 0 w5) hs2).base_le (by omega), Up.lat (by assumption) hWl (Nat.le_add_right _ 2)⟩)
    refine AllReadyH.cons (o := { dst := some 18, op := _, type := _, pos := _, after := _, guard := _ }) rfl (fun K hK => ?_) AllReadyH.nil
    go_simp
    first | (refine hK.out _ _ ?_ (fun hHeld => ?_)) | (go_wp2_with fail; refine hK.out _ _ ?_ (fun hHeld => ?_))
    · (try dsimp only); (first | ((repeat (first | with_reducible assumption | with_reducible apply up_alloc | with_reducible apply up_drewN | with_reducible apply up_drew | with_reducible apply up_set | (refine up_whole ?_ _ (by assumption)))); done) | (refine Up.pre hb1 ?_; ((repeat (first | with_reducible assumption | with_reducible apply up_alloc | with_reducible apply up_drewN | with_reducible apply up_drew)); done)))
    clear hK K
    (try simp only [Act.put, List.setIfInBounds_toArray, List.set_cons_zero, List.set_cons_succ])
    refine wpAnyH_ready (rs := [4]) (by kernel_rfl) (by simp) ?_
    refine AllReadyH.cons (o := { dst := some 13, op := _, type := _, pos := _, after := _, guard := _ }) rfl (fun K hK => ?_) AllReadyH.nil
    go_simp
    (go_at_call 308; refine (HVJ.out _).mono ?_; rintro e w3 ⟨rfl, hb1⟩)
    first | (refine hK.out _ _ ?_ (fun hHeld => ?_)) | (go_wp2_with fail; refine hK.out _ _ ?_ (fun hHeld => ?_))
    · (try dsimp only); (first | ((repeat (first | with_reducible assumption | with_reducible apply up_alloc | with_reducible apply up_drewN | with_reducible apply up_drew | with_reducible apply up_set | (refine up_whole ?_ _ (by assumption)))); done) | (refine Up.pre hb1 ?_; ((repeat (first | with_reducible assumption | with_reducible apply up_alloc | with_reducible apply up_drewN | with_reducible apply up_drew)); done)))
    clear hK K
    (try simp only [Act.put, List.setIfInBounds_toArray, List.set_cons_zero, List.set_cons_succ])
    refine wpAnyH_ready (rs := [10]) (by kernel_rfl) (by simp) ?_
    refine AllReadyH.cons (o := { dst := some 19, op := _, type := _, pos := _, after := _, guard := _ }) rfl (fun K hK => ?_) AllReadyH.nil
    go_simp
    (go_at_call 199; refine (HC.out _ _ (by first | exact cell_of_row _ _ 0 _ _ _ (new_at _ _) | exact Lat.cell hb1 (new_at _ _) 0 rfl) (by first | exact cell_of_row _ _ 1 _ _ _ (new_at _ _) | exact Lat.cell hb1 (new_at _ _) 1 rfl) (by with_reducible assumption)).mono ?_; rintro e w4 ⟨v1, rfl, hO1, hb1⟩; obtain ⟨A1, c1, hv1, hc1, hc2, hR1⟩ := Own.rd encDot_len hO1; subst hv1)
    first | (refine hK.out _ _ ?_ (fun hHeld => ?_)) | (go_wp2_with fail; refine hK.out _ _ ?_ (fun hHeld => ?_))
    · (try dsimp only); (first | ((repeat (first | with_reducible assumption | with_reducible apply up_alloc | with_reducible apply up_drewN | with_reducible apply up_drew | with_reducible apply up_set | (refine up_whole ?_ _ (by assumption)))); done) | (refine Up.pre hb1 ?_; ((repeat (first | with_reducible assumption | with_reducible apply up_alloc | with_reducible apply up_drewN | with_reducible apply up_drew)); done)))
    clear hK K
    (try simp only [Act.put, List.setIfInBounds_toArray, List.set_cons_zero, List.set_cons_succ])
    refine wpAnyH_take (i := 11) (oi := { dst := some 20, op := _, type := _, pos := _, after := _, guard := _ }) rfl (by kernel_rfl) (by kernel_rfl) (by kernel_rfl) (fun _ _ _ h => h) (Or.inl ⟨by rfl, fun w _ => exec_build_ctx ⟨vJoin p.v q.v, A1, c1, p.cloud ++ q.cloud⟩ hJl rfl (by simp [Act.eval]) w⟩) (by assumption) ?_
    (try simp only [Act.put, List.setIfInBounds_toArray, List.set_cons_zero, List.set_cons_succ])
    refine wpAnyH_ready (rs := [12]) (by kernel_rfl) (by simp) ?_
    refine AllReadyH.cons (o := { dst := some 21, op := _, type := _, pos := _, after := _, guard := _ }) rfl (fun K hK => ?_) AllReadyH.nil
    go_simp
    (go_at_call 198; refine (causal_Clean ⟨vJoin p.v q.v, A1, c1, p.cloud ++ q.cloud⟩ _ ⟨hJl, by simp; omega, hR1⟩).mono ?_; rintro e w5 ⟨z, rfl, hz, hO2, hb1⟩; have hlz := ctxCells_len z (clean_len hz); have hlzz : (ctxCells z).toArray.size = 17 := by simp [hlz])
    first | (refine hK.out _ _ ?_ (fun hHeld => ?_)) | (go_wp2_with fail; refine hK.out _ _ ?_ (fun hHeld => ?_))
    · (try dsimp only); (first | ((repeat (first | with_reducible assumption | with_reducible apply up_alloc | with_reducible apply up_drewN | with_reducible apply up_drew | with_reducible apply up_set | (refine up_whole ?_ _ (by assumption)))); done) | (refine Up.pre hb1 ?_; ((repeat (first | with_reducible assumption | with_reducible apply up_alloc | with_reducible apply up_drewN | with_reducible apply up_drew)); done)))
    clear hK K
    (try simp only [Act.put, List.setIfInBounds_toArray, List.set_cons_zero, List.set_cons_succ])
    refine wpAnyH_ready (rs := [13]) (by kernel_rfl) (by simp) ?_
    refine AllReadyH.cons (o := { dst := none, op := _, type := _, pos := _, after := _, guard := _ }) rfl (fun K hK => ?_) AllReadyH.nil
    rw [if_pos (by rfl)]
    refine wp_store_mid _ _ _ rfl (w.heap.size + 2) (0) (ctxCells z).toArray rfl rfl ?_ ?_ ?_ ?_
    · exact (by rw [hlzz]; exact Up.there (by assumption) 17 (Nat.le_refl _))
    · (simp only [List.size_toArray, hlz]; kernel_rfl)
    · exact all_oneCell_toArray (ctxCells_one z)
    simp only [List.toList_toArray]
    first | (refine hK.out _ _ ?_ (fun hHeld => ?_)) | (go_wp2_with fail; refine hK.out _ _ ?_ (fun hHeld => ?_))
    · (try dsimp only); (first | ((repeat (first | with_reducible assumption | with_reducible apply up_alloc | with_reducible apply up_drewN | with_reducible apply up_drew | with_reducible apply up_set | (refine up_whole ?_ _ (by assumption)))); done) | (refine Up.pre hb1 ?_; ((repeat (first | with_reducible assumption | with_reducible apply up_alloc | with_reducible apply up_drewN | with_reducible apply up_drew)); done)))
    clear hK K
    (try simp only [Act.put, List.setIfInBounds_toArray, List.set_cons_zero, List.set_cons_succ])
    refine wpAnyH_done (by kernel_rfl) ?_ _
    (go_wp2; have hU9 : Up W1 (w.heap.size + 2) 31 17 w5 := (by assumption); refine bodyPost_ret (results_cell rfl _ _ (w.heap.size + 2) rfl (ctxCells z) _ (range_of_block (hU9.whole _ hlz)) Tryz.underlying31 rfl (by rw [hlz]; kernel_rfl)) rfl ?_; have hs2 := Nat.lt_of_lt_of_le Hzb.out (Up.grown ‹Up W1 (w.heap.size + 2) 31 17 w4›).size; exact ⟨z, rfl, by rw [hz, cJoin, ← Hp.out, ← Hq.out], (hO2.grown (setCells_grown (w.heap.size + 2) (ctxCells z) 0 w5) hs2).base_le (by omega), Up.lat (by assumption) hWl (Nat.le_add_right _ 2)⟩)
  · refine wp_region_held_drew (S := (fun W => Lat w W)) (by kernel_rfl) ?_ (fun hHeld => ?_)
    · (try dsimp only); (first | ((with_reducible refine lat_setCells ?_ _ _ ?_) <;> first | omega | with_reducible assumption) | (refine hb1.pre ?_; with_reducible assumption) | (refine Lat.trans l0 ?_; ((repeat (first | with_reducible exact Lat.refl _ | with_reducible assumption | with_reducible apply lat_alloc | with_reducible apply lat_drewN | with_reducible apply lat_drew)); done)))
    refine wpAnyH_ready (rs := [0, 2]) (by kernel_rfl) (by simp) ?_
    refine AllReadyH.cons (o := { dst := some 5, op := _, type := _, pos := _, after := _, guard := _ }) rfl (fun K hK => ?_) ?_
    · rw [if_pos (by rfl)]
      refine wp_load_mid _ _ rfl (w.heap.size) (0) rfl (ctxCells x) _ ((range_of_block (Lat.block (w := W0) (by repeat (first | with_reducible exact Lat.refl _ | with_reducible assumption | with_reducible apply lat_alloc | with_reducible apply lat_drewN | with_reducible apply lat_drew)) K0.out))) Tryz.underlying31 rfl (by rw [hlx]; kernel_rfl) ?_
      first | (refine hK.out _ _ ?_ (fun hHeld => ?_)) | (go_wp2_with fail; refine hK.out _ _ ?_ (fun hHeld => ?_))
      · (try dsimp only); (first | ((with_reducible refine lat_setCells ?_ _ _ ?_) <;> first | omega | with_reducible assumption) | (refine hb1.pre ?_; with_reducible assumption) | (refine Lat.trans l0 ?_; ((repeat (first | with_reducible exact Lat.refl _ | with_reducible assumption | with_reducible apply lat_alloc | with_reducible apply lat_drewN | with_reducible apply lat_drew)); done)))
      clear hK K
      (try simp only [Act.put, List.setIfInBounds_toArray, List.set_cons_zero, List.set_cons_succ])
      refine wpAnyH_ready (rs := [1, 2]) (by kernel_rfl) (by simp) ?_
      refine AllReadyH.cons (o := { dst := some 6, op := _, type := _, pos := _, after := _, guard := _ }) rfl (fun K hK => ?_) ?_
      · go_simp
        (go_at_call 198; refine (HX.out _ (l0.trans (by ((repeat (first | with_reducible exact Lat.refl _ | with_reducible assumption | with_reducible apply lat_alloc | with_reducible apply lat_drewN | with_reducible apply lat_drew)); done)))).mono ?_; rintro e w1 ⟨p, rfl, hp, hO1, hb1⟩; have hw1 : Lat W0 w1 := hb1.pre (by repeat (first | with_reducible exact Lat.refl _ | with_reducible assumption | with_reducible apply lat_alloc | with_reducible apply lat_drewN | with_reducible apply lat_drew)); have hlp := ctxCells_len p (clean_len hp))
        first | (refine hK.out _ _ ?_ (fun hHeld => ?_)) | (go_wp2_with fail; refine hK.out _ _ ?_ (fun hHeld => ?_))
        · (try dsimp only); (first | ((with_reducible refine lat_setCells ?_ _ _ ?_) <;> first | omega | with_reducible assumption) | (refine hb1.pre ?_; with_reducible assumption) | (refine Lat.trans l0 ?_; ((repeat (first | with_reducible exact Lat.refl _ | with_reducible assumption | with_reducible apply lat_alloc | with_reducible apply lat_drewN | with_reducible apply lat_drew)); done)))
        clear hK K
        (try simp only [Act.put, List.setIfInBounds_toArray, List.set_cons_zero, List.set_cons_succ])
        refine wpAnyH_ready (rs := [2]) (by kernel_rfl) (by simp) ?_
        refine AllReadyH.cons (o := { dst := some 7, op := _, type := _, pos := _, after := _, guard := _ }) rfl (fun K hK => ?_) AllReadyH.nil
        rw [if_pos (by rfl)]
        refine wp_load_mid _ _ rfl (w.heap.size + 1) (0) rfl (ctxCells y) _ ((range_of_block (Lat.block (w := W0) (by repeat (first | with_reducible exact Lat.refl _ | with_reducible assumption | with_reducible apply lat_alloc | with_reducible apply lat_drewN | with_reducible apply lat_drew)) K1.out))) Tryz.underlying31 rfl (by rw [hly]; kernel_rfl) ?_
        first | (refine hK.out _ _ ?_ (fun hHeld => ?_)) | (go_wp2_with fail; refine hK.out _ _ ?_ (fun hHeld => ?_))
        · (try dsimp only); (first | ((with_reducible refine lat_setCells ?_ _ _ ?_) <;> first | omega | with_reducible assumption) | (refine hb1.pre ?_; with_reducible assumption) | (refine Lat.trans l0 ?_; ((repeat (first | with_reducible exact Lat.refl _ | with_reducible assumption | with_reducible apply lat_alloc | with_reducible apply lat_drewN | with_reducible apply lat_drew)); done)))
        clear hK K
        (try simp only [Act.put, List.setIfInBounds_toArray, List.set_cons_zero, List.set_cons_succ])
        refine wpAnyH_ready (rs := [3]) (by kernel_rfl) (by simp) ?_
        refine AllReadyH.cons (o := { dst := some 8, op := _, type := _, pos := _, after := _, guard := _ }) rfl (fun K hK => ?_) AllReadyH.nil
        go_simp
        (go_at_call 198; refine (HY.out _ (l0.trans hw1)).mono ?_; rintro e w2 ⟨q, rfl, hq, hO2, hb1⟩; have hw2 : Lat W0 w2 := hw1.trans hb1; have hlq := ctxCells_len q (clean_len hq))
        first | (refine hK.out _ _ ?_ (fun hHeld => ?_)) | (go_wp2_with fail; refine hK.out _ _ ?_ (fun hHeld => ?_))
        · (try dsimp only); (first | ((with_reducible refine lat_setCells ?_ _ _ ?_) <;> first | omega | with_reducible assumption) | (refine hb1.pre ?_; with_reducible assumption) | (refine Lat.trans l0 ?_; ((repeat (first | with_reducible exact Lat.refl _ | with_reducible assumption | with_reducible apply lat_alloc | with_reducible apply lat_drewN | with_reducible apply lat_drew)); done)))
        clear hK K
        (try simp only [Act.put, List.setIfInBounds_toArray, List.set_cons_zero, List.set_cons_succ])
        refine wpAnyH_ready (rs := [4]) (by kernel_rfl) (by simp) ?_
        refine AllReadyH.cons (o := { dst := none, op := _, type := _, pos := _, after := _, guard := _ }) rfl (fun K hK => ?_) AllReadyH.nil
        rw [if_pos (by rfl)]
        refine wp_store_mid _ _ _ rfl (w.heap.size) (0) (ctxCells p).toArray rfl rfl ?_ ?_ ?_ ?_
        · exact (there_of_block (hw2.block K0.out) _ (by simp [hlp, hlx]))
        · (simp only [List.size_toArray, hlp]; kernel_rfl)
        · exact all_oneCell_toArray (ctxCells_one p)
        simp only [List.toList_toArray]
        first | (refine hK.out _ _ ?_ (fun hHeld => ?_)) | (go_wp2_with fail; refine hK.out _ _ ?_ (fun hHeld => ?_))
        · (try dsimp only); (first | ((with_reducible refine lat_setCells ?_ _ _ ?_) <;> first | omega | with_reducible assumption) | (refine hb1.pre ?_; with_reducible assumption) | (refine Lat.trans l0 ?_; ((repeat (first | with_reducible exact Lat.refl _ | with_reducible assumption | with_reducible apply lat_alloc | with_reducible apply lat_drewN | with_reducible apply lat_drew)); done)))
        clear hK K
        (try simp only [Act.put, List.setIfInBounds_toArray, List.set_cons_zero, List.set_cons_succ])
        refine wpAnyH_ready (rs := [5]) (by kernel_rfl) (by simp) ?_
        refine AllReadyH.cons (o := { dst := none, op := _, type := _, pos := _, after := _, guard := _ }) rfl (fun K hK => ?_) AllReadyH.nil
        rw [if_pos (by rfl)]
        refine wp_store_mid _ _ _ rfl (w.heap.size + 1) (0) (ctxCells q).toArray rfl rfl ?_ ?_ ?_ ?_
        · exact (there_of_block (by rw [setCells_other (W := w2) (by omega)]; exact hw2.block K1.out) _ (by simp [hlq, hly]))
        · (simp only [List.size_toArray, hlq]; kernel_rfl)
        · exact all_oneCell_toArray (ctxCells_one q)
        simp only [List.toList_toArray]
        first | (refine hK.out _ _ ?_ (fun hHeld => ?_)) | (go_wp2_with fail; refine hK.out _ _ ?_ (fun hHeld => ?_))
        · (try dsimp only); (first | ((with_reducible refine lat_setCells ?_ _ _ ?_) <;> first | omega | with_reducible assumption) | (refine hb1.pre ?_; with_reducible assumption) | (refine Lat.trans l0 ?_; ((repeat (first | with_reducible exact Lat.refl _ | with_reducible assumption | with_reducible apply lat_alloc | with_reducible apply lat_drewN | with_reducible apply lat_drew)); done)))
        clear hK K
        (try simp only [Act.put, List.setIfInBounds_toArray, List.set_cons_zero, List.set_cons_succ])
        refine wpAnyH_done (by kernel_rfl) ?_ _
        exact ⟨p, q, w2, _, _, _, _, rfl, rfl, rfl, hw2, hp, hq, (hO1.later hb1).base_le (Nat.le_refl _), hO2.base_le hw1.size⟩
      refine AllReadyH.cons (o := { dst := some 7, op := _, type := _, pos := _, after := _, guard := _ }) rfl (fun K hK => ?_) AllReadyH.nil
      rw [if_pos (by rfl)]
      refine wp_load_mid _ _ rfl (w.heap.size + 1) (0) rfl (ctxCells y) _ ((range_of_block (Lat.block (w := W0) (by repeat (first | with_reducible exact Lat.refl _ | with_reducible assumption | with_reducible apply lat_alloc | with_reducible apply lat_drewN | with_reducible apply lat_drew)) K1.out))) Tryz.underlying31 rfl (by rw [hly]; kernel_rfl) ?_
      first | (refine hK.out _ _ ?_ (fun hHeld => ?_)) | (go_wp2_with fail; refine hK.out _ _ ?_ (fun hHeld => ?_))
      · (try dsimp only); (first | ((with_reducible refine lat_setCells ?_ _ _ ?_) <;> first | omega | with_reducible assumption) | (refine hb1.pre ?_; with_reducible assumption) | (refine Lat.trans l0 ?_; ((repeat (first | with_reducible exact Lat.refl _ | with_reducible assumption | with_reducible apply lat_alloc | with_reducible apply lat_drewN | with_reducible apply lat_drew)); done)))
      clear hK K
      (try simp only [Act.put, List.setIfInBounds_toArray, List.set_cons_zero, List.set_cons_succ])
      refine wpAnyH_ready (rs := [1]) (by kernel_rfl) (by simp) ?_
      refine AllReadyH.cons (o := { dst := some 6, op := _, type := _, pos := _, after := _, guard := _ }) rfl (fun K hK => ?_) AllReadyH.nil
      go_simp
      (go_at_call 198; refine (HX.out _ (l0.trans (by ((repeat (first | with_reducible exact Lat.refl _ | with_reducible assumption | with_reducible apply lat_alloc | with_reducible apply lat_drewN | with_reducible apply lat_drew)); done)))).mono ?_; rintro e w1 ⟨p, rfl, hp, hO1, hb1⟩; have hw1 : Lat W0 w1 := hb1.pre (by repeat (first | with_reducible exact Lat.refl _ | with_reducible assumption | with_reducible apply lat_alloc | with_reducible apply lat_drewN | with_reducible apply lat_drew)); have hlp := ctxCells_len p (clean_len hp))
      first | (refine hK.out _ _ ?_ (fun hHeld => ?_)) | (go_wp2_with fail; refine hK.out _ _ ?_ (fun hHeld => ?_))
      · (try dsimp only); (first | ((with_reducible refine lat_setCells ?_ _ _ ?_) <;> first | omega | with_reducible assumption) | (refine hb1.pre ?_; with_reducible assumption) | (refine Lat.trans l0 ?_; ((repeat (first | with_reducible exact Lat.refl _ | with_reducible assumption | with_reducible apply lat_alloc | with_reducible apply lat_drewN | with_reducible apply lat_drew)); done)))
      clear hK K
      (try simp only [Act.put, List.setIfInBounds_toArray, List.set_cons_zero, List.set_cons_succ])
      refine wpAnyH_ready (rs := [3]) (by kernel_rfl) (by simp) ?_
      refine AllReadyH.cons (o := { dst := some 8, op := _, type := _, pos := _, after := _, guard := _ }) rfl (fun K hK => ?_) AllReadyH.nil
      go_simp
      (go_at_call 198; refine (HY.out _ (l0.trans hw1)).mono ?_; rintro e w2 ⟨q, rfl, hq, hO2, hb1⟩; have hw2 : Lat W0 w2 := hw1.trans hb1; have hlq := ctxCells_len q (clean_len hq))
      first | (refine hK.out _ _ ?_ (fun hHeld => ?_)) | (go_wp2_with fail; refine hK.out _ _ ?_ (fun hHeld => ?_))
      · (try dsimp only); (first | ((with_reducible refine lat_setCells ?_ _ _ ?_) <;> first | omega | with_reducible assumption) | (refine hb1.pre ?_; with_reducible assumption) | (refine Lat.trans l0 ?_; ((repeat (first | with_reducible exact Lat.refl _ | with_reducible assumption | with_reducible apply lat_alloc | with_reducible apply lat_drewN | with_reducible apply lat_drew)); done)))
      clear hK K
      (try simp only [Act.put, List.setIfInBounds_toArray, List.set_cons_zero, List.set_cons_succ])
      refine wpAnyH_ready (rs := [4]) (by kernel_rfl) (by simp) ?_
      refine AllReadyH.cons (o := { dst := none, op := _, type := _, pos := _, after := _, guard := _ }) rfl (fun K hK => ?_) AllReadyH.nil
      rw [if_pos (by rfl)]
      refine wp_store_mid _ _ _ rfl (w.heap.size) (0) (ctxCells p).toArray rfl rfl ?_ ?_ ?_ ?_
      · exact (there_of_block (hw2.block K0.out) _ (by simp [hlp, hlx]))
      · (simp only [List.size_toArray, hlp]; kernel_rfl)
      · exact all_oneCell_toArray (ctxCells_one p)
      simp only [List.toList_toArray]
      first | (refine hK.out _ _ ?_ (fun hHeld => ?_)) | (go_wp2_with fail; refine hK.out _ _ ?_ (fun hHeld => ?_))
      · (try dsimp only); (first | ((with_reducible refine lat_setCells ?_ _ _ ?_) <;> first | omega | with_reducible assumption) | (refine hb1.pre ?_; with_reducible assumption) | (refine Lat.trans l0 ?_; ((repeat (first | with_reducible exact Lat.refl _ | with_reducible assumption | with_reducible apply lat_alloc | with_reducible apply lat_drewN | with_reducible apply lat_drew)); done)))
      clear hK K
      (try simp only [Act.put, List.setIfInBounds_toArray, List.set_cons_zero, List.set_cons_succ])
      refine wpAnyH_ready (rs := [5]) (by kernel_rfl) (by simp) ?_
      refine AllReadyH.cons (o := { dst := none, op := _, type := _, pos := _, after := _, guard := _ }) rfl (fun K hK => ?_) AllReadyH.nil
      rw [if_pos (by rfl)]
      refine wp_store_mid _ _ _ rfl (w.heap.size + 1) (0) (ctxCells q).toArray rfl rfl ?_ ?_ ?_ ?_
      · exact (there_of_block (by rw [setCells_other (W := w2) (by omega)]; exact hw2.block K1.out) _ (by simp [hlq, hly]))
      · (simp only [List.size_toArray, hlq]; kernel_rfl)
      · exact all_oneCell_toArray (ctxCells_one q)
      simp only [List.toList_toArray]
      first | (refine hK.out _ _ ?_ (fun hHeld => ?_)) | (go_wp2_with fail; refine hK.out _ _ ?_ (fun hHeld => ?_))
      · (try dsimp only); (first | ((with_reducible refine lat_setCells ?_ _ _ ?_) <;> first | omega | with_reducible assumption) | (refine hb1.pre ?_; with_reducible assumption) | (refine Lat.trans l0 ?_; ((repeat (first | with_reducible exact Lat.refl _ | with_reducible assumption | with_reducible apply lat_alloc | with_reducible apply lat_drewN | with_reducible apply lat_drew)); done)))
      clear hK K
      (try simp only [Act.put, List.setIfInBounds_toArray, List.set_cons_zero, List.set_cons_succ])
      refine wpAnyH_done (by kernel_rfl) ?_ _
      exact ⟨p, q, w2, _, _, _, _, rfl, rfl, rfl, hw2, hp, hq, (hO1.later hb1).base_le (Nat.le_refl _), hO2.base_le hw1.size⟩
    refine AllReadyH.cons (o := { dst := some 7, op := _, type := _, pos := _, after := _, guard := _ }) rfl (fun K hK => ?_) AllReadyH.nil
    rw [if_pos (by rfl)]
    refine wp_load_mid _ _ rfl (w.heap.size + 1) (0) rfl (ctxCells y) _ ((range_of_block (Lat.block (w := W0) (by repeat (first | with_reducible exact Lat.refl _ | with_reducible assumption | with_reducible apply lat_alloc | with_reducible apply lat_drewN | with_reducible apply lat_drew)) K1.out))) Tryz.underlying31 rfl (by rw [hly]; kernel_rfl) ?_
    first | (refine hK.out _ _ ?_ (fun hHeld => ?_)) | (go_wp2_with fail; refine hK.out _ _ ?_ (fun hHeld => ?_))
    · (try dsimp only); (first | ((with_reducible refine lat_setCells ?_ _ _ ?_) <;> first | omega | with_reducible assumption) | (refine hb1.pre ?_; with_reducible assumption) | (refine Lat.trans l0 ?_; ((repeat (first | with_reducible exact Lat.refl _ | with_reducible assumption | with_reducible apply lat_alloc | with_reducible apply lat_drewN | with_reducible apply lat_drew)); done)))
    clear hK K
    (try simp only [Act.put, List.setIfInBounds_toArray, List.set_cons_zero, List.set_cons_succ])
    refine wpAnyH_ready (rs := [0]) (by kernel_rfl) (by simp) ?_
    refine AllReadyH.cons (o := { dst := some 5, op := _, type := _, pos := _, after := _, guard := _ }) rfl (fun K hK => ?_) AllReadyH.nil
    rw [if_pos (by rfl)]
    refine wp_load_mid _ _ rfl (w.heap.size) (0) rfl (ctxCells x) _ ((range_of_block (Lat.block (w := W0) (by repeat (first | with_reducible exact Lat.refl _ | with_reducible assumption | with_reducible apply lat_alloc | with_reducible apply lat_drewN | with_reducible apply lat_drew)) K0.out))) Tryz.underlying31 rfl (by rw [hlx]; kernel_rfl) ?_
    first | (refine hK.out _ _ ?_ (fun hHeld => ?_)) | (go_wp2_with fail; refine hK.out _ _ ?_ (fun hHeld => ?_))
    · (try dsimp only); (first | ((with_reducible refine lat_setCells ?_ _ _ ?_) <;> first | omega | with_reducible assumption) | (refine hb1.pre ?_; with_reducible assumption) | (refine Lat.trans l0 ?_; ((repeat (first | with_reducible exact Lat.refl _ | with_reducible assumption | with_reducible apply lat_alloc | with_reducible apply lat_drewN | with_reducible apply lat_drew)); done)))
    clear hK K
    (try simp only [Act.put, List.setIfInBounds_toArray, List.set_cons_zero, List.set_cons_succ])
    refine wpAnyH_ready (rs := [1]) (by kernel_rfl) (by simp) ?_
    refine AllReadyH.cons (o := { dst := some 6, op := _, type := _, pos := _, after := _, guard := _ }) rfl (fun K hK => ?_) AllReadyH.nil
    go_simp
    (go_at_call 198; refine (HX.out _ (l0.trans (by ((repeat (first | with_reducible exact Lat.refl _ | with_reducible assumption | with_reducible apply lat_alloc | with_reducible apply lat_drewN | with_reducible apply lat_drew)); done)))).mono ?_; rintro e w1 ⟨p, rfl, hp, hO1, hb1⟩; have hw1 : Lat W0 w1 := hb1.pre (by repeat (first | with_reducible exact Lat.refl _ | with_reducible assumption | with_reducible apply lat_alloc | with_reducible apply lat_drewN | with_reducible apply lat_drew)); have hlp := ctxCells_len p (clean_len hp))
    first | (refine hK.out _ _ ?_ (fun hHeld => ?_)) | (go_wp2_with fail; refine hK.out _ _ ?_ (fun hHeld => ?_))
    · (try dsimp only); (first | ((with_reducible refine lat_setCells ?_ _ _ ?_) <;> first | omega | with_reducible assumption) | (refine hb1.pre ?_; with_reducible assumption) | (refine Lat.trans l0 ?_; ((repeat (first | with_reducible exact Lat.refl _ | with_reducible assumption | with_reducible apply lat_alloc | with_reducible apply lat_drewN | with_reducible apply lat_drew)); done)))
    clear hK K
    (try simp only [Act.put, List.setIfInBounds_toArray, List.set_cons_zero, List.set_cons_succ])
    refine wpAnyH_ready (rs := [3]) (by kernel_rfl) (by simp) ?_
    refine AllReadyH.cons (o := { dst := some 8, op := _, type := _, pos := _, after := _, guard := _ }) rfl (fun K hK => ?_) AllReadyH.nil
    go_simp
    (go_at_call 198; refine (HY.out _ (l0.trans hw1)).mono ?_; rintro e w2 ⟨q, rfl, hq, hO2, hb1⟩; have hw2 : Lat W0 w2 := hw1.trans hb1; have hlq := ctxCells_len q (clean_len hq))
    first | (refine hK.out _ _ ?_ (fun hHeld => ?_)) | (go_wp2_with fail; refine hK.out _ _ ?_ (fun hHeld => ?_))
    · (try dsimp only); (first | ((with_reducible refine lat_setCells ?_ _ _ ?_) <;> first | omega | with_reducible assumption) | (refine hb1.pre ?_; with_reducible assumption) | (refine Lat.trans l0 ?_; ((repeat (first | with_reducible exact Lat.refl _ | with_reducible assumption | with_reducible apply lat_alloc | with_reducible apply lat_drewN | with_reducible apply lat_drew)); done)))
    clear hK K
    (try simp only [Act.put, List.setIfInBounds_toArray, List.set_cons_zero, List.set_cons_succ])
    refine wpAnyH_ready (rs := [4]) (by kernel_rfl) (by simp) ?_
    refine AllReadyH.cons (o := { dst := none, op := _, type := _, pos := _, after := _, guard := _ }) rfl (fun K hK => ?_) AllReadyH.nil
    rw [if_pos (by rfl)]
    refine wp_store_mid _ _ _ rfl (w.heap.size) (0) (ctxCells p).toArray rfl rfl ?_ ?_ ?_ ?_
    · exact (there_of_block (hw2.block K0.out) _ (by simp [hlp, hlx]))
    · (simp only [List.size_toArray, hlp]; kernel_rfl)
    · exact all_oneCell_toArray (ctxCells_one p)
    simp only [List.toList_toArray]
    first | (refine hK.out _ _ ?_ (fun hHeld => ?_)) | (go_wp2_with fail; refine hK.out _ _ ?_ (fun hHeld => ?_))
    · (try dsimp only); (first | ((with_reducible refine lat_setCells ?_ _ _ ?_) <;> first | omega | with_reducible assumption) | (refine hb1.pre ?_; with_reducible assumption) | (refine Lat.trans l0 ?_; ((repeat (first | with_reducible exact Lat.refl _ | with_reducible assumption | with_reducible apply lat_alloc | with_reducible apply lat_drewN | with_reducible apply lat_drew)); done)))
    clear hK K
    (try simp only [Act.put, List.setIfInBounds_toArray, List.set_cons_zero, List.set_cons_succ])
    refine wpAnyH_ready (rs := [5]) (by kernel_rfl) (by simp) ?_
    refine AllReadyH.cons (o := { dst := none, op := _, type := _, pos := _, after := _, guard := _ }) rfl (fun K hK => ?_) AllReadyH.nil
    rw [if_pos (by rfl)]
    refine wp_store_mid _ _ _ rfl (w.heap.size + 1) (0) (ctxCells q).toArray rfl rfl ?_ ?_ ?_ ?_
    · exact (there_of_block (by rw [setCells_other (W := w2) (by omega)]; exact hw2.block K1.out) _ (by simp [hlq, hly]))
    · (simp only [List.size_toArray, hlq]; kernel_rfl)
    · exact all_oneCell_toArray (ctxCells_one q)
    simp only [List.toList_toArray]
    first | (refine hK.out _ _ ?_ (fun hHeld => ?_)) | (go_wp2_with fail; refine hK.out _ _ ?_ (fun hHeld => ?_))
    · (try dsimp only); (first | ((with_reducible refine lat_setCells ?_ _ _ ?_) <;> first | omega | with_reducible assumption) | (refine hb1.pre ?_; with_reducible assumption) | (refine Lat.trans l0 ?_; ((repeat (first | with_reducible exact Lat.refl _ | with_reducible assumption | with_reducible apply lat_alloc | with_reducible apply lat_drewN | with_reducible apply lat_drew)); done)))
    clear hK K
    (try simp only [Act.put, List.setIfInBounds_toArray, List.set_cons_zero, List.set_cons_succ])
    refine wpAnyH_done (by kernel_rfl) ?_ _
    exact ⟨p, q, w2, _, _, _, _, rfl, rfl, rfl, hw2, hp, hq, (hO1.later hb1).base_le (Nat.le_refl _), hO2.base_le hw1.size⟩
end Go.Proofs.YtgjffndpegjenaaGreat
