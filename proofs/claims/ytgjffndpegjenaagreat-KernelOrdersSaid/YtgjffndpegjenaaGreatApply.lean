/-
  kernel.Apply: one delta put onto a side.
-/
import Derived.Test.YtgjffndpegjenaaGreatKJoin
import Derived.Lib.AppendZeros
import Derived.Outline
import Derived.Deep.QuietTactic
import Derived.BigQuiet
import Derived.WalkSpells
import Derived.WalkLawsBesides
import Derived.LoopTactic
import Derived.Lib.Hide
import Derived.Deep.RegionHeld3
import Derived.Deep.DeepCutAuto
set_option linter.unusedVariables false
set_option linter.unusedSimpArgs false
set_option linter.unusedSectionVars false
namespace Go.Proofs.YtgjffndpegjenaaGreat
open Go.RowKit
attribute [local go_sem] lat_alloc lat_drew lat_drewN Lat.refl

/-- A delta as it lies: its dot, its stamp, where its facts lie, and those dots that it takes back. -/
structure DeltaV where
  dot : Dot
  stamp : Stamp
  A : Option Addr
  cap : Nat
  facts : List Fact
  A2 : Option Addr
  cap2 : Nat
  gone : List Dot
def deltaCells (d : DeltaV) : List Value := [.int .i64 d.dot.r, .int .i64 d.dot.n, .int .i64 d.stamp.t, .int .i64 d.stamp.c, .int .i64 d.stamp.r, .slice d.A d.facts.length d.cap, .slice d.A2 d.gone.length d.cap2]
theorem deltaCells_len (d : DeltaV) : (deltaCells d).length = 7 := rfl
structure DeltaOk (w : World) (d : DeltaV) : Prop where
  facts : RdS encFact 8 w d.A d.facts
  gone : RdS encDot 2 w d.A2 d.gone
theorem DeltaOk.later {w W : World} {d : DeltaV} (h : DeltaOk w d) (hl : Lat w W) : DeltaOk W d := ⟨h.facts.later hl, h.gone.later hl⟩

/-- What a side is behind a delta. -/
def kApply (l : List Fact) (v : List Int) (cl : List Dot) (d : DeltaV) : List Fact × (List Int × List Dot) :=
  let a := cClean (clampTo [] 0) ([] ++ (d.dot :: d.gone))
  (sortU factLt (kSide l a.1 a.2 d.facts ++ kSide d.facts v cl l), cJoin v cl a.1 a.2)

set_option maxRecDepth 100000 in
set_option maxHeartbeats 1000000 in
theorem kernel_Apply (A : Option Addr) (n c : Nat) (l : List Fact) (hl : l.length = n) (hn : n ≤ 274877906944) (x : CtxV) (d : DeltaV) (w : World) (hx : CtxOk w x) (hxs : x.cloud.length ≤ 549755813888) (hrl : RdS encFact 8 w A l) (hd : DeltaOk w d) (hdf : d.facts.length ≤ 274877906944) (hdg : d.gone.length ≤ 274877906944) :
    Calls Tryz.prog 21 #[.slice A n c, .agg (ctxCells x).toArray, .agg #[.int .i64 d.dot.r, .int .i64 d.dot.n, .int .i64 d.stamp.t, .int .i64 d.stamp.c, .int .i64 d.stamp.r, .slice d.A d.facts.length d.cap, .slice d.A2 d.gone.length d.cap2]] w fun e w' => ∃ (v : Value) (z : CtxV), e = .returned (.tuple #[v, .agg (ctxCells z).toArray]) ∧ (z.v, z.cloud) = (kApply l x.v x.cloud d).2 ∧ Own encDot 2 37 w.heap.size w' (.slice z.A z.cloud.length z.cap) z.cloud ∧
      Own encFact 8 77 w.heap.size w' v (kApply l x.v x.cloud d).1 ∧ Lat w w' := by
  have hlx : (ctxCells x).length = 17 := ctxCells_len x hx.len
  have Hx := Lib.hid hx
  have Hrl := Lib.hid hrl
  have Hd := Lib.hid hd
  clear hx hrl hd
  go_enter Tryz.func21, Tryz.ntmps21
  go_upto_region 1 with (fail)
  rw [zeroCtx_cells]
  have l0 : Lat w (((w.alloc (Obj.cells (ctxCells x).toArray 31)).alloc (Obj.cells #[Value.int IntKind.i64 d.dot.r, Value.int IntKind.i64 d.dot.n, Value.int IntKind.i64 d.stamp.t, Value.int IntKind.i64 d.stamp.c, Value.int IntKind.i64 d.stamp.r, Value.slice d.A d.facts.length d.cap, Value.slice d.A2 d.gone.length d.cap2] 41)).alloc (Obj.cells (ctxCells zeroCtx).toArray 31)) := (by repeat (first | with_reducible exact Lat.refl _ | with_reducible assumption | with_reducible apply lat_alloc | with_reducible apply lat_drewN | with_reducible apply lat_drew))
  have k0 := (old_at (Obj.cells (ctxCells zeroCtx).toArray 31) (old_at (Obj.cells #[Value.int IntKind.i64 d.dot.r, Value.int IntKind.i64 d.dot.n, Value.int IntKind.i64 d.stamp.t, Value.int IntKind.i64 d.stamp.c, Value.int IntKind.i64 d.stamp.r, Value.slice d.A d.facts.length d.cap, Value.slice d.A2 d.gone.length d.cap2] 41) (new_at w (Obj.cells (ctxCells x).toArray 31))))
  have k1 := (old_at (Obj.cells (ctxCells zeroCtx).toArray 31) (new2_at w (Obj.cells (ctxCells x).toArray 31) (Obj.cells #[Value.int IntKind.i64 d.dot.r, Value.int IntKind.i64 d.dot.n, Value.int IntKind.i64 d.stamp.t, Value.int IntKind.i64 d.stamp.c, Value.int IntKind.i64 d.stamp.r, Value.slice d.A d.facts.length d.cap, Value.slice d.A2 d.gone.length d.cap2] 41)))
  have k2 := (new3_at w (Obj.cells (ctxCells x).toArray 31) (Obj.cells #[Value.int IntKind.i64 d.dot.r, Value.int IntKind.i64 d.dot.n, Value.int IntKind.i64 d.stamp.t, Value.int IntKind.i64 d.stamp.c, Value.int IntKind.i64 d.stamp.r, Value.slice d.A d.facts.length d.cap, Value.slice d.A2 d.gone.length d.cap2] 41) (Obj.cells (ctxCells zeroCtx).toArray 31))
  generalize (((w.alloc (Obj.cells (ctxCells x).toArray 31)).alloc (Obj.cells #[Value.int IntKind.i64 d.dot.r, Value.int IntKind.i64 d.dot.n, Value.int IntKind.i64 d.stamp.t, Value.int IntKind.i64 d.stamp.c, Value.int IntKind.i64 d.stamp.r, Value.slice d.A d.facts.length d.cap, Value.slice d.A2 d.gone.length d.cap2] 41)).alloc (Obj.cells (ctxCells zeroCtx).toArray 31)) = W0 at *
  have hrefl := Lat.refl W0
  have hzl : (ctxCells zeroCtx).length = 17 := ctxCells_len _ (clampTo_len _ _)
  generalize hZ : ctxCells zeroCtx = Z at k2 hzl
  have HZ := Lib.hid hZ
  clear hZ
  have hzb := lt_of_block k2
  have Hzb := Lib.hid hzb
  have hU : Up W0 (w.heap.size + 2) 31 17 W0 := Up.start k2 (by simpa using hzl)
  have R0 := Lib.hid (fun W (h : Up W0 (w.heap.size + 2) 31 17 W) => range_of_block (h.block k0 (by omega)))
  have e0 := fun W (h : Up W0 (w.heap.size + 2) 31 17 W) => Lat.cell (Lat.refl W) (h.block k1 (by omega)) 0 rfl
  have e1 := fun W (h : Up W0 (w.heap.size + 2) 31 17 W) => Lat.cell (Lat.refl W) (h.block k1 (by omega)) 1 rfl
  have e5 := fun W (h : Up W0 (w.heap.size + 2) 31 17 W) => Lat.cell (Lat.refl W) (h.block k1 (by omega)) 5 rfl
  have e6 := fun W (h : Up W0 (w.heap.size + 2) 31 17 W) => Lat.cell (Lat.refl W) (h.block k1 (by omega)) 6 rfl
  have L0 := Lib.hid (fun W (h : Up W0 (w.heap.size + 2) 31 17 W) => h.lat l0 (Nat.le_add_right _ 2))
  have HJ := Lib.hid (fun W (y : CtxV) (h : Lat w W) (hy : CtxOk W y) (hys : y.cloud.length ≤ 549755813888) => kernel_Join A n c l hl hn x d.A _ d.cap d.facts rfl hdf y W (Hx.out.later h) hxs hy hys (Hrl.out.later h) (Hd.out.facts.later h))
  have HA := Lib.hid (fun W ty (hW : W.heap[W0.heap.size]? = some (.cells #[Value.int IntKind.i64 d.dot.r, Value.int IntKind.i64 d.dot.n] 37 (0, 0))) (hs : W0.heap.size ≤ W.heap.size) (h : Lat w W) => run_appS (P := Tryz.prog) (W := W) (base := W0.heap.size) encDot_len encDot_one (by omega) 29 ty 37 _ 16 Tryz.underlying29 info_dot rfl (.slice (some ⟨W0.heap.size, 0, none⟩) 1 1) [d.dot] d.gone d.A2 d.gone.length d.cap2 rfl
    ⟨by simp [flat, encDot], .inr ⟨W0.heap.size, 1, #[Value.int IntKind.i64 d.dot.r, Value.int IntKind.i64 d.dot.n], rfl, Nat.le_refl _, hW, Nat.le_refl _, by simp [maxLen], rfl, by simp [flat, encDot]⟩⟩ (Hd.out.gone.later h) hs (by simp; omega) (by simp; omega))
  clear k0 k1 k2
  refine wp_region_held_drew (S := (fun W => Up W0 (w.heap.size + 2) 31 17 W)) (by kernel_rfl) ?_ (fun hHeld => ?_)
  · (try dsimp only); (first | ((repeat (first | with_reducible assumption | with_reducible apply up_alloc | with_reducible apply up_drewN | with_reducible apply up_drew | with_reducible apply up_set | (refine up_whole ?_ _ (by assumption)))); done) | (refine Up.pre hb1 ?_; ((repeat (first | with_reducible assumption | with_reducible apply up_alloc | with_reducible apply up_drewN | with_reducible apply up_drew)); done)))
  refine wpAnyH_take (i := 0) (oi := { dst := some 8, op := _, type := _, pos := _, after := _, guard := _ }) (v := ?_) rfl (by kernel_rfl) (by kernel_rfl) (by kernel_rfl) (fun _ _ _ h => h) (Or.inl ⟨by rfl, ?_⟩) (by assumption) ?_
  rotate_left
  · (intro w hSw; (try dsimp only at hSw); go_simp) <;> with_reducible rfl
  (try simp only [Act.put, List.setIfInBounds_toArray, List.set_cons_zero, List.set_cons_succ])
  refine wpAnyH_take (i := 1) (oi := { dst := some 9, op := _, type := _, pos := _, after := _, guard := _ }) rfl (by kernel_rfl) (by kernel_rfl) (by kernel_rfl) (fun _ _ _ h => h) (yieldsIf_load_mid (by rfl) _ _ rfl (w.heap.size) (0) rfl ((ctxCells x)) _ ((R0.out)) Tryz.underlying31 rfl (by rw [hlx]; kernel_rfl)) (by assumption) ?_
  (try simp only [Act.put, List.setIfInBounds_toArray, List.set_cons_zero, List.set_cons_succ])
  refine wpAnyH_take (i := 2) (oi := { dst := some 10, op := _, type := _, pos := _, after := _, guard := _ }) (v := ?_) rfl (by kernel_rfl) (by kernel_rfl) (by kernel_rfl) (fun _ _ _ h => h) (Or.inl ⟨by rfl, ?_⟩) (by assumption) ?_
  rotate_left
  · (intro w hSw; (try dsimp only at hSw); go_simp) <;> with_reducible rfl
  (try simp only [Act.put, List.setIfInBounds_toArray, List.set_cons_zero, List.set_cons_succ])
  refine wpAnyH_take (i := 3) (oi := { dst := some 11, op := _, type := _, pos := _, after := _, guard := _ }) (v := ?_) rfl (by kernel_rfl) (by kernel_rfl) (by kernel_rfl) (fun _ _ _ h => h) (Or.inl ⟨by rfl, ?_⟩) (by assumption) ?_
  rotate_left
  · (intro w hSw; (try dsimp only at hSw); go_simp) <;> with_reducible rfl
  (try simp only [Act.put, List.setIfInBounds_toArray, List.set_cons_zero, List.set_cons_succ])
  refine wpAnyH_take (i := 4) (oi := { dst := some 12, op := _, type := _, pos := _, after := _, guard := _ }) (v := ?_) rfl (by kernel_rfl) (by kernel_rfl) (by kernel_rfl) (fun _ _ _ h => h) (Or.inl ⟨by rfl, ?_⟩) (by assumption) ?_
  rotate_left
  · (intro w hSw; (try dsimp only at hSw); go_simp) <;> with_reducible rfl
  (try simp only [Act.put, List.setIfInBounds_toArray, List.set_cons_zero, List.set_cons_succ])
  refine wpAnyH_take (i := 5) (oi := { dst := some 13, op := _, type := _, pos := _, after := _, guard := _ }) (v := ?_) rfl (by kernel_rfl) (by kernel_rfl) (by kernel_rfl) (fun _ _ _ h => h) (Or.inl ⟨by rfl, ?_⟩) (by assumption) ?_
  rotate_left
  · (intro w hSw; (try dsimp only at hSw); go_simp) <;> with_reducible rfl
  (try simp only [Act.put, List.setIfInBounds_toArray, List.set_cons_zero, List.set_cons_succ])
  refine wpAnyH_take (i := 6) (oi := { dst := some 14, op := _, type := _, pos := _, after := _, guard := _ }) (v := ?_) rfl (by kernel_rfl) (by kernel_rfl) (by kernel_rfl) (fun _ _ _ h => h) (Or.inl ⟨by rfl, ?_⟩) (by assumption) ?_
  rotate_left
  · (intro w hSw; (try dsimp only at hSw); go_simp) <;> with_reducible rfl
  (try simp only [Act.put, List.setIfInBounds_toArray, List.set_cons_zero, List.set_cons_succ])
  refine wpAnyH_take (i := 8) (oi := { dst := some 16, op := _, type := _, pos := _, after := _, guard := _ }) (v := ?_) rfl (by kernel_rfl) (by kernel_rfl) (by kernel_rfl) (fun _ _ _ h => h) (Or.inl ⟨by rfl, ?_⟩) (by assumption) ?_
  rotate_left
  · (intro w hSw; (try dsimp only at hSw); go_simp) <;> with_reducible rfl
  (try simp only [Act.put, List.setIfInBounds_toArray, List.set_cons_zero, List.set_cons_succ])
  refine wpAnyH_take (i := 9) (oi := { dst := some 17, op := _, type := _, pos := _, after := _, guard := _ }) (v := ?_) rfl (by kernel_rfl) (by kernel_rfl) (by kernel_rfl) (fun _ _ _ h => h) (Or.inl ⟨by rfl, ?_⟩) (by assumption) ?_
  rotate_left
  · (intro w hSw; (try dsimp only at hSw); go_simp) <;> with_reducible rfl
  (try simp only [Act.put, List.setIfInBounds_toArray, List.set_cons_zero, List.set_cons_succ])
  refine wpAnyH_ready (rs := [7]) (by kernel_rfl) (by simp) ?_
  refine AllReadyH.cons (o := { dst := some 15, op := _, type := _, pos := _, after := _, guard := _ }) rfl (fun K hK => ?_) AllReadyH.nil
  go_simp
  first | (refine hK.out _ _ ?_ (fun hHeld => ?_)) | (go_wp2_with fail; refine hK.out _ _ ?_ (fun hHeld => ?_))
  · (try dsimp only); (first | ((repeat (first | with_reducible assumption | with_reducible apply up_alloc | with_reducible apply up_drewN | with_reducible apply up_drew | with_reducible apply up_set | (refine up_whole ?_ _ (by assumption)))); done) | (refine Up.pre hb1 ?_; ((repeat (first | with_reducible assumption | with_reducible apply up_alloc | with_reducible apply up_drewN | with_reducible apply up_drew)); done)))
  clear hK K
  (try simp only [Act.put, List.setIfInBounds_toArray, List.set_cons_zero, List.set_cons_succ])
  refine wpAnyH_ready (rs := [10]) (by kernel_rfl) (by simp) ?_
  refine AllReadyH.cons (o := { dst := some 18, op := _, type := _, pos := _, after := _, guard := _ }) rfl (fun K hK => ?_) AllReadyH.nil
  rw [if_pos (by rfl)]
  (have hw6 : Lat w (W0.alloc (Obj.cells #[Value.int IntKind.i64 d.dot.r, Value.int IntKind.i64 d.dot.n] 37)).drew := L0.out _ (by with_reducible assumption); obtain ⟨v1, w1, hr, hO1, hG1⟩ := HA.out (W0.alloc (Obj.cells #[Value.int IntKind.i64 d.dot.r, Value.int IntKind.i64 d.dot.n] 37)).drew 29 (new_at W0 _) (lat_drew (lat_alloc (Lat.refl W0) _)).size hw6; have hU1 : Up W0 (w.heap.size + 2) 31 17 w1 := Up.app (by with_reducible assumption) Hzb.out hG1 (fun j hj => Nat.le_of_eq (by simpa [Value.ownBlock] using hj)); obtain ⟨A6, c6, hv6, _, _, hR6⟩ := Own.rd encDot_len hO1; subst hv6; refine Lib.wp_append_run _ _ _ 29 29 rfl (.slice (some ⟨W0.heap.size, 0, none⟩) 1 1) (.slice d.A2 d.gone.length d.cap2) rfl rfl _ w1 hr ?_)
  first | (refine hK.out _ _ ?_ (fun hHeld => ?_)) | (go_wp2_with fail; refine hK.out _ _ ?_ (fun hHeld => ?_))
  · (try dsimp only); (first | ((repeat (first | with_reducible assumption | with_reducible apply up_alloc | with_reducible apply up_drewN | with_reducible apply up_drew | with_reducible apply up_set | (refine up_whole ?_ _ (by assumption)))); done) | (refine Up.pre hb1 ?_; ((repeat (first | with_reducible assumption | with_reducible apply up_alloc | with_reducible apply up_drewN | with_reducible apply up_drew)); done)))
  clear hK K
  (try simp only [Act.put, List.setIfInBounds_toArray, List.set_cons_zero, List.set_cons_succ])
  refine wpAnyH_ready (rs := [11]) (by kernel_rfl) (by simp) ?_
  refine AllReadyH.cons (o := { dst := some 19, op := _, type := _, pos := _, after := _, guard := _ }) rfl (fun K hK => ?_) AllReadyH.nil
  go_simp
  (rw [zeroCtx_cells]; go_at_call 87; refine (causal_Add zeroCtx A6 _ c6 (d.dot :: d.gone) (by simp) (by omega) _ ⟨clampTo_len _ _, Nat.zero_le _, RdS.nil _ _ _ _⟩ (Nat.zero_le _) hR6).mono ?_; rintro e w2 ⟨y, rfl, hy, hOy, hb1⟩; have hyl := clean_len hy; have hys := clean_small hy; have hyc : CtxOk w2 y := ⟨hyl, Nat.le_trans hys (by simp [zeroCtx]; omega), Own.rdS encDot_len hOy⟩)
  first | (refine hK.out _ _ ?_ (fun hHeld => ?_)) | (go_wp2_with fail; refine hK.out _ _ ?_ (fun hHeld => ?_))
  · (try dsimp only); (first | ((repeat (first | with_reducible assumption | with_reducible apply up_alloc | with_reducible apply up_drewN | with_reducible apply up_drew | with_reducible apply up_set | (refine up_whole ?_ _ (by assumption)))); done) | (refine Up.pre hb1 ?_; ((repeat (first | with_reducible assumption | with_reducible apply up_alloc | with_reducible apply up_drewN | with_reducible apply up_drew)); done)))
  clear hK K
  (try simp only [Act.put, List.setIfInBounds_toArray, List.set_cons_zero, List.set_cons_succ])
  refine wpAnyH_ready (rs := [12]) (by kernel_rfl) (by simp) ?_
  refine AllReadyH.cons (o := { dst := some 20, op := _, type := _, pos := _, after := _, guard := _ }) rfl (fun K hK => ?_) AllReadyH.nil
  go_simp
  (go_at_call 86; refine (HJ.out _ y (L0.out _ (by with_reducible assumption)) hyc (Nat.le_trans hys (by simp [zeroCtx]; omega))).mono ?_; rintro e w3 ⟨v3, z, rfl, hz, hOz, hOv, hb1⟩; have hlz := ctxCells_len z (clean_len hz); have hlzz : (ctxCells z).toArray.size = 17 := by simp [hlz])
  first | (refine hK.out _ _ ?_ (fun hHeld => ?_)) | (go_wp2_with fail; refine hK.out _ _ ?_ (fun hHeld => ?_))
  · (try dsimp only); (first | ((repeat (first | with_reducible assumption | with_reducible apply up_alloc | with_reducible apply up_drewN | with_reducible apply up_drew | with_reducible apply up_set | (refine up_whole ?_ _ (by assumption)))); done) | (refine Up.pre hb1 ?_; ((repeat (first | with_reducible assumption | with_reducible apply up_alloc | with_reducible apply up_drewN | with_reducible apply up_drew)); done)))
  clear hK K
  (try simp only [Act.put, List.setIfInBounds_toArray, List.set_cons_zero, List.set_cons_succ])
  refine wpAnyH_take (i := 13) (oi := { dst := some 21, op := _, type := _, pos := _, after := _, guard := _ }) (v := ?_) rfl (by kernel_rfl) (by kernel_rfl) (by kernel_rfl) (fun _ _ _ h => h) (Or.inl ⟨by rfl, ?_⟩) (by assumption) ?_
  rotate_left
  · (intro w hSw; (try dsimp only at hSw); go_simp) <;> with_reducible rfl
  (try simp only [Act.put, List.setIfInBounds_toArray, List.set_cons_zero, List.set_cons_succ])
  refine wpAnyH_take (i := 14) (oi := { dst := some 22, op := _, type := _, pos := _, after := _, guard := _ }) (v := ?_) rfl (by kernel_rfl) (by kernel_rfl) (by kernel_rfl) (fun _ _ _ h => h) (Or.inl ⟨by rfl, ?_⟩) (by assumption) ?_
  rotate_left
  · (intro w hSw; (try dsimp only at hSw); go_simp) <;> with_reducible rfl
  (try simp only [Act.put, List.setIfInBounds_toArray, List.set_cons_zero, List.set_cons_succ])
  refine wpAnyH_take (i := 15) (oi := { dst := some 6, op := _, type := _, pos := _, after := _, guard := _ }) (v := ?_) rfl (by kernel_rfl) (by kernel_rfl) (by kernel_rfl) (fun _ _ _ h => h) (Or.inl ⟨by rfl, ?_⟩) (by assumption) ?_
  rotate_left
  · (intro w hSw; (try dsimp only at hSw); go_simp) <;> with_reducible rfl
  (try simp only [Act.put, List.setIfInBounds_toArray, List.set_cons_zero, List.set_cons_succ])
  refine wpAnyH_ready (rs := [16]) (by kernel_rfl) (by simp) ?_
  refine AllReadyH.cons (o := { dst := none, op := _, type := _, pos := _, after := _, guard := _ }) rfl (fun K hK => ?_) AllReadyH.nil
  rw [if_pos (by rfl)]
  refine wp_store_mid _ _ _ rfl (w.heap.size + 2) (0) (ctxCells z).toArray rfl rfl ?_ ?_ ?_ ?_
  · exact (by rw [hlzz]; exact Up.there (by assumption) 17 (Nat.le_refl _))
  · (simp only [List.size_toArray, hlz]; kernel_rfl)
  · exact all_oneCell_toArray (ctxCells_one z)
  simp only [List.toList_toArray]
  first | (refine hK.out _ _ ?_ (fun hHeld => ?_)) | (go_wp2_with fail; refine hK.out _ _ ?_ (fun hHeld => ?_))
  · (try dsimp only); (first | ((repeat (first | with_reducible assumption | with_reducible apply up_alloc | with_reducible apply up_drewN | with_reducible apply up_drew | with_reducible apply up_set | (refine up_whole ?_ _ (by assumption)))); done) | (refine Up.pre hb1 ?_; ((repeat (first | with_reducible assumption | with_reducible apply up_alloc | with_reducible apply up_drewN | with_reducible apply up_drew)); done)))
  clear hK K
  (try simp only [Act.put, List.setIfInBounds_toArray, List.set_cons_zero, List.set_cons_succ])
  refine wpAnyH_done (by kernel_rfl) ?_ _
  go_wp2
  have hU9 : Up W0 (w.heap.size + 2) 31 17 w3 := by assumption
  have hU8 : Up W0 (w.heap.size + 2) 31 17 w2 := by assumption
  refine bodyPost_ret (results_tmp_cell rfl _ _ (w.heap.size + 2) rfl (ctxCells z) _ (range_of_block (hU9.whole _ hlz)) Tryz.underlying31 rfl (by rw [hlz]; kernel_rfl)) rfl ?_
  have hs3 := Nat.lt_of_lt_of_le Hzb.out hU8.grown.size
  have hc : cClean (clampTo [] 0) ([] ++ (d.dot :: d.gone)) = (y.v, y.cloud) := hy.symm
  exact ⟨v3, z, rfl, by rw [hz, kApply, hc], (hOz.grown (setCells_grown (w.heap.size + 2) (ctxCells z) 0 w3) hs3).base_le (by omega), by rw [kApply, hc]; exact (hOv.grown (setCells_grown (w.heap.size + 2) (ctxCells z) 0 w3) hs3).base_le (by omega), Up.lat (by assumption) l0 (Nat.le_add_right _ 2)⟩
end Go.Proofs.YtgjffndpegjenaaGreat
