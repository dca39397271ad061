/-
  causal.Add, Join, equal, Check.
-/
import Derived.Test.YtgjffndpegjenaaGreatClean
import Derived.Test.YtgjffndpegjenaaGreatConcat
import Derived.Test.YtgjffndpegjenaaGreatEqV
import Derived.Test.YtgjffndpegjenaaGreatBuild
import Derived.Test.YtgjffndpegjenaaGreatFind
import Derived.Outline
import Derived.Deep.QuietTactic
import Derived.BigQuiet
import Derived.WalkSpells
import Derived.WalkLawsBesides
import Derived.LoopTactic
import Derived.Lib.Hide
import Derived.Deep.RegionHeld3
import Derived.Deep.DeepCutAuto
set_option linter.unusedVariables false
set_option linter.unusedSimpArgs false
set_option linter.unusedSectionVars false
namespace Go.Proofs.YtgjffndpegjenaaGreat
open Go.RowKit
attribute [local go_sem] lat_alloc lat_drew lat_drewN Lat.refl

set_option maxRecDepth 100000 in
theorem causal_Add (x : CtxV) (A : Option Addr) (n c : Nat) (l : List Dot) (hl : l.length = n) (hn : n ≤ 549755813888) (w : World) (hx : CtxOk w x) (hxs : x.cloud.length ≤ 549755813888) (hrd : RdS encDot 2 w A l) :
    Calls Tryz.prog 87 #[.agg (ctxCells x).toArray, .slice A n c] w fun e w' => ∃ y : CtxV, e = .returned (.agg (ctxCells y).toArray) ∧ (y.v, y.cloud) = cClean x.v (x.cloud ++ l) ∧ Own encDot 2 37 w.heap.size w' (.slice y.A y.cloud.length y.cap) y.cloud ∧ Lat w w' := by
  have hlen := hx.len
  have hlv : (vcells x.v).length = 16 := by rw [vcells_len, hlen]
  have Hx := Lib.hid hx
  have Hrd := Lib.hid hrd
  have Hlen := Lib.hid hlen
  clear hx hrd hlen
  go_enter Tryz.func87, Tryz.ntmps87
  go_upto_region 1 with (fail)
  rw [zeroCtx_cells]
  have l0 : Lat w ((w.alloc (Obj.cells (ctxCells x).toArray 31)).alloc (Obj.cells (ctxCells zeroCtx).toArray 31)) := (by repeat (first | with_reducible exact Lat.refl _ | with_reducible assumption | with_reducible apply lat_alloc | with_reducible apply lat_drewN | with_reducible apply lat_drew))
  have k0 := (old_at (Obj.cells (ctxCells zeroCtx).toArray 31) (new_at w (Obj.cells (ctxCells x).toArray 31)))
  have k1 := (new2_at w (Obj.cells (ctxCells x).toArray 31) (Obj.cells (ctxCells zeroCtx).toArray 31))
  generalize ((w.alloc (Obj.cells (ctxCells x).toArray 31)).alloc (Obj.cells (ctxCells zeroCtx).toArray 31)) = W0 at *
  have hrefl := Lat.refl W0
  have hzl : (ctxCells zeroCtx).length = 17 := ctxCells_len _ (clampTo_len _ _)
  generalize ctxCells zeroCtx = Z at k1 hzl
  have hU : Up W0 (w.heap.size + 1) 31 17 W0 := Up.start k1 (by simpa using hzl)
  have R0 := Lib.hid (fun W (h : Up W0 (w.heap.size + 1) 31 17 W) => ctx_vec (h.block k0 (by omega)) (Lat.refl W))
  have s0 := fun W (h : Up W0 (w.heap.size + 1) 31 17 W) => ctx_slice Hlen.out (h.block k0 (by omega)) (Lat.refl W)
  have L0 := Lib.hid (fun W (h : Up W0 (w.heap.size + 1) 31 17 W) => h.lat l0 (Nat.le_add_right _ 1))
  have HC := Lib.hid (fun W (h0 : W.cell? ⟨W0.heap.size, 0, none⟩ = some (.slice x.A x.cloud.length x.cap)) (h1 : W.cell? ⟨W0.heap.size, 1, none⟩ = some (.slice A n c)) (h : Lat w W) => dot_Concat W0.heap.size 2 x.A _ x.cap x.cloud rfl hxs A n c l hl hn W h0 h1 (Hx.out.rd.later h) (Hrd.out.later h))
  have hzb := lt_of_block k1
  clear k0 k1
  refine wp_region_held_drew (S := (fun W => Up W0 (w.heap.size + 1) 31 17 W)) (by kernel_rfl) ?_ (fun hHeld => ?_)
  · (try dsimp only); (first | ((repeat (first | with_reducible assumption | with_reducible apply up_alloc | with_reducible apply up_drewN | with_reducible apply up_drew | with_reducible apply up_set | (refine up_whole ?_ _ (by assumption)))); done) | (refine Up.pre hb1 ?_; ((repeat (first | with_reducible assumption | with_reducible apply up_alloc | with_reducible apply up_drewN | with_reducible apply up_drew)); done)))
  refine wpAnyH_take (i := 0) (oi := { dst := some 5, op := _, type := _, pos := _, after := _, guard := _ }) (v := ?_) rfl (by kernel_rfl) (by kernel_rfl) (by kernel_rfl) (fun _ _ _ h => h) (Or.inl ⟨by rfl, ?_⟩) (by assumption) ?_
  rotate_left
  · (intro w hSw; (try dsimp only at hSw); go_simp) <;> with_reducible rfl
  (try simp only [Act.put, List.setIfInBounds_toArray, List.set_cons_zero, List.set_cons_succ])
  refine wpAnyH_take (i := 1) (oi := { dst := some 6, op := _, type := _, pos := _, after := _, guard := _ }) rfl (by kernel_rfl) (by kernel_rfl) (by kernel_rfl) (fun _ _ _ h => h) (yieldsIf_load_mid (by rfl) _ _ rfl (w.heap.size) (0) rfl ((vcells x.v)) _ ((R0.out)) Tryz.underlying28 rfl (by rw [hlv]; kernel_rfl)) (by assumption) ?_
  (try simp only [Act.put, List.setIfInBounds_toArray, List.set_cons_zero, List.set_cons_succ])
  refine wpAnyH_take (i := 2) (oi := { dst := some 7, op := _, type := _, pos := _, after := _, guard := _ }) (v := ?_) rfl (by kernel_rfl) (by kernel_rfl) (by kernel_rfl) (fun _ _ _ h => h) (Or.inl ⟨by rfl, ?_⟩) (by assumption) ?_
  rotate_left
  · (intro w hSw; (try dsimp only at hSw); go_simp) <;> with_reducible rfl
  (try simp only [Act.put, List.setIfInBounds_toArray, List.set_cons_zero, List.set_cons_succ])
  refine wpAnyH_take (i := 3) (oi := { dst := some 8, op := _, type := _, pos := _, after := _, guard := _ }) (v := ?_) rfl (by kernel_rfl) (by kernel_rfl) (by kernel_rfl) (fun _ _ _ h => h) (Or.inl ⟨by rfl, ?_⟩) (by assumption) ?_
  rotate_left
  · (intro w hSw; (try dsimp only at hSw); go_simp) <;> with_reducible rfl
  (try simp only [Act.put, List.setIfInBounds_toArray, List.set_cons_zero, List.set_cons_succ])
  refine wpAnyH_take (i := 4) (oi := { dst := some 9, op := _, type := _, pos := _, after := _, guard := _ }) (v := ?_) rfl (by kernel_rfl) (by kernel_rfl) (by kernel_rfl) (fun _ _ _ h => h) (Or.inl ⟨by rfl, ?_⟩) (by assumption) ?_
  rotate_left
  · (intro w hSw; (try dsimp only at hSw); go_simp) <;> with_reducible rfl
  (try simp only [Act.put, List.setIfInBounds_toArray, List.set_cons_zero, List.set_cons_succ])
  refine wpAnyH_ready (rs := [5]) (by kernel_rfl) (by simp) ?_
  refine AllReadyH.cons (o := { dst := some 10, op := _, type := _, pos := _, after := _, guard := _ }) rfl (fun K hK => ?_) AllReadyH.nil
  go_simp
  first | (refine hK.out _ _ ?_ (fun hHeld => ?_)) | (go_wp2_with fail; refine hK.out _ _ ?_ (fun hHeld => ?_))
  · (try dsimp only); (first | ((repeat (first | with_reducible assumption | with_reducible apply up_alloc | with_reducible apply up_drewN | with_reducible apply up_drew | with_reducible apply up_set | (refine up_whole ?_ _ (by assumption)))); done) | (refine Up.pre hb1 ?_; ((repeat (first | with_reducible assumption | with_reducible apply up_alloc | with_reducible apply up_drewN | with_reducible apply up_drew)); done)))
  clear hK K
  (try simp only [Act.put, List.setIfInBounds_toArray, List.set_cons_zero, List.set_cons_succ])
  refine wpAnyH_ready (rs := [6]) (by kernel_rfl) (by simp) ?_
  refine AllReadyH.cons (o := { dst := some 11, op := _, type := _, pos := _, after := _, guard := _ }) rfl (fun K hK => ?_) AllReadyH.nil
  go_simp
  (go_at_call 199; refine (HC.out _ (by exact cell_of_row _ _ 0 _ _ _ (new_at W0 _)) (by exact cell_of_row _ _ 1 _ _ _ (new_at W0 _)) (by ((repeat (first | with_reducible exact Lat.refl _ | with_reducible assumption | with_reducible apply lat_alloc | with_reducible apply lat_drewN | with_reducible apply lat_drew)); done))).mono ?_; rintro e w' ⟨v1, rfl, hO1, hb1⟩; obtain ⟨A1, c1, hv1, hc1, hc2, hR1⟩ := Own.rd encDot_len hO1; subst hv1)
  first | (refine hK.out _ _ ?_ (fun hHeld => ?_)) | (go_wp2_with fail; refine hK.out _ _ ?_ (fun hHeld => ?_))
  · (try dsimp only); (first | ((repeat (first | with_reducible assumption | with_reducible apply up_alloc | with_reducible apply up_drewN | with_reducible apply up_drew | with_reducible apply up_set | (refine up_whole ?_ _ (by assumption)))); done) | (refine Up.pre hb1 ?_; ((repeat (first | with_reducible assumption | with_reducible apply up_alloc | with_reducible apply up_drewN | with_reducible apply up_drew)); done)))
  clear hK K
  (try simp only [Act.put, List.setIfInBounds_toArray, List.set_cons_zero, List.set_cons_succ])
  refine wpAnyH_take (i := 7) (oi := { dst := some 12, op := _, type := _, pos := _, after := _, guard := _ }) rfl (by kernel_rfl) (by kernel_rfl) (by kernel_rfl) (fun _ _ _ h => h) (Or.inl ⟨by rfl, fun w _ => exec_build_ctx ⟨x.v, A1, c1, x.cloud ++ l⟩ Hlen.out rfl (by simp [hl, Act.eval]) w⟩) (by assumption) ?_
  (try simp only [Act.put, List.setIfInBounds_toArray, List.set_cons_zero, List.set_cons_succ])
  refine wpAnyH_ready (rs := [8]) (by kernel_rfl) (by simp) ?_
  refine AllReadyH.cons (o := { dst := some 13, op := _, type := _, pos := _, after := _, guard := _ }) rfl (fun K hK => ?_) AllReadyH.nil
  go_simp
  (go_at_call 198; refine (causal_Clean ⟨x.v, A1, c1, x.cloud ++ l⟩ _ ⟨Hlen.out, by simp; omega, hR1⟩).mono ?_; rintro e w'' ⟨y, rfl, hy, hO2, hb1⟩; have hly := ctxCells_len y (clean_len hy); have hlz : (ctxCells y).toArray.size = 17 := by simp [hly])
  first | (refine hK.out _ _ ?_ (fun hHeld => ?_)) | (go_wp2_with fail; refine hK.out _ _ ?_ (fun hHeld => ?_))
  · (try dsimp only); (first | ((repeat (first | with_reducible assumption | with_reducible apply up_alloc | with_reducible apply up_drewN | with_reducible apply up_drew | with_reducible apply up_set | (refine up_whole ?_ _ (by assumption)))); done) | (refine Up.pre hb1 ?_; ((repeat (first | with_reducible assumption | with_reducible apply up_alloc | with_reducible apply up_drewN | with_reducible apply up_drew)); done)))
  clear hK K
  (try simp only [Act.put, List.setIfInBounds_toArray, List.set_cons_zero, List.set_cons_succ])
  refine wpAnyH_ready (rs := [9]) (by kernel_rfl) (by simp) ?_
  refine AllReadyH.cons (o := { dst := none, op := _, type := _, pos := _, after := _, guard := _ }) rfl (fun K hK => ?_) AllReadyH.nil
  rw [if_pos (by rfl)]
  refine wp_store_mid _ _ _ rfl (w.heap.size + 1) (0) (ctxCells y).toArray rfl rfl ?_ ?_ ?_ ?_
  · exact (by rw [hlz]; exact Up.there (by assumption) 17 (Nat.le_refl _))
  · (simp only [List.size_toArray, hly]; kernel_rfl)
  · exact all_oneCell_toArray (ctxCells_one y)
  simp only [List.toList_toArray]
  first | (refine hK.out _ _ ?_ (fun hHeld => ?_)) | (go_wp2_with fail; refine hK.out _ _ ?_ (fun hHeld => ?_))
  · (try dsimp only); (first | ((repeat (first | with_reducible assumption | with_reducible apply up_alloc | with_reducible apply up_drewN | with_reducible apply up_drew | with_reducible apply up_set | (refine up_whole ?_ _ (by assumption)))); done) | (refine Up.pre hb1 ?_; ((repeat (first | with_reducible assumption | with_reducible apply up_alloc | with_reducible apply up_drewN | with_reducible apply up_drew)); done)))
  clear hK K
  (try simp only [Act.put, List.setIfInBounds_toArray, List.set_cons_zero, List.set_cons_succ])
  refine wpAnyH_done (by kernel_rfl) ?_ _
  go_wp2
  have hU9 : Up W0 (w.heap.size + 1) 31 17 w'' := by assumption
  refine bodyPost_ret (results_cell rfl _ _ (w.heap.size + 1) rfl (ctxCells y) _ (range_of_block (hU9.whole _ hly)) Tryz.underlying31 rfl (by rw [hly]; kernel_rfl)) rfl ?_
  have hs1 := (L0.out _ hU9).size
  have hs2 : w.heap.size + 1 < w'.heap.size := Nat.lt_of_lt_of_le hzb (Up.grown ‹Up W0 (w.heap.size + 1) 31 17 w'›).size
  exact ⟨y, rfl, hy, (hO2.grown (setCells_grown (w.heap.size + 1) (ctxCells y) 0 w'') hs2).base_le (by omega), Up.lat (by assumption) l0 (Nat.le_add_right _ 1)⟩
end Go.Proofs.YtgjffndpegjenaaGreat
