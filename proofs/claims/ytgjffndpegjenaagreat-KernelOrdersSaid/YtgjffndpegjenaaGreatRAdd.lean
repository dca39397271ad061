/-
  The reference's Add on contexts: the same as causal.Add's.
-/
import Derived.Test.YtgjffndpegjenaaGreatRClean
import Derived.Test.YtgjffndpegjenaaGreatBuild
import Derived.Outline
import Derived.Deep.QuietTactic
import Derived.BigQuiet
import Derived.WalkSpells
import Derived.WalkLawsBesides
import Derived.LoopTactic
import Derived.Lib.Hide
import Derived.Deep.RegionHeld3
import Derived.Deep.DeepCutAuto
set_option linter.unusedVariables false
set_option linter.unusedSimpArgs false
set_option linter.unusedSectionVars false
namespace Go.Proofs.YtgjffndpegjenaaGreat
open Go.RowKit
attribute [local go_sem] lat_alloc lat_drew lat_drewN Lat.refl

set_option maxRecDepth 100000 in
theorem r13_Add (x : CtxV) (A : Option Addr) (n c : Nat) (l : List Dot) (hl : l.length = n) (hn : n ≤ 274877906944) (w : World) (hx : CtxOk w x) (hxs : x.cloud.length ≤ 274877906944) (hrd : RdS encDot 2 w A l) :
    Calls Tryz.prog 26 #[.agg (ctxCells x).toArray, .slice A n c] w fun e w' => ∃ y : CtxV, e = .returned (.agg (ctxCells y).toArray) ∧ (y.v, y.cloud) = cClean x.v (x.cloud ++ l) ∧ Own encDot 2 37 w.heap.size w' (.slice y.A y.cloud.length y.cap) y.cloud ∧ Lat w w' := by
  have hlen := hx.len
  have hlv : (vcells x.v).length = 16 := by rw [vcells_len, hlen]
  have Hx := Lib.hid hx
  have Hrd := Lib.hid hrd
  have Hlen := Lib.hid hlen
  have Hl := Lib.hid hl
  clear hx hrd hlen hl
  go_enter Tryz.func26, Tryz.ntmps26
  go_upto_region 1 with (fail)
  rw [zeroCtx_cells]
  have l0 : Lat w ((w.alloc (Obj.cells (ctxCells x).toArray 31)).alloc (Obj.cells (ctxCells zeroCtx).toArray 31)) := (by repeat (first | with_reducible exact Lat.refl _ | with_reducible assumption | with_reducible apply lat_alloc | with_reducible apply lat_drewN | with_reducible apply lat_drew))
  have k0 := (old_at (Obj.cells (ctxCells zeroCtx).toArray 31) (new_at w (Obj.cells (ctxCells x).toArray 31)))
  have k1 := (new2_at w (Obj.cells (ctxCells x).toArray 31) (Obj.cells (ctxCells zeroCtx).toArray 31))
  generalize ((w.alloc (Obj.cells (ctxCells x).toArray 31)).alloc (Obj.cells (ctxCells zeroCtx).toArray 31)) = W0 at *
  have hrefl := Lat.refl W0
  have hzl : (ctxCells zeroCtx).length = 17 := ctxCells_len _ (clampTo_len _ _)
  generalize ctxCells zeroCtx = Z at k1 hzl
  have s0 := fun W (h : Lat W0 W) => ctx_slice Hlen.out k0 h
  have R0 := Lib.hid (fun W (h : Lat W0 W) => ctx_vec k0 h)
  have K1 := Lib.hid k1
  have hzb := lt_of_block k1
  clear k0 k1
  go_upto_region 3 with ((at_builtin; go_must (refine appS encDot_len encDot_one (by omega) (w0 := W0) rfl _ _ 29 37 _ 16 rfl Tryz.underlying29 info_dot rfl (.slice none 0 0) [] x.cloud x.A x.cloud.length x.cap rfl rfl rfl (Own.nil _ _ _ _ _) (Hx.out.rd.later l0) (Lat.refl _) (by simp; omega) (by simp; omega) ?_; intro v1 w1 hO1 hL1)))
  have HO1 := Lib.hid hO1
  clear hO1
  go_upto_region 4 with ((at_builtin; go_must (refine appS encDot_len encDot_one (by omega) (w0 := W0) rfl _ _ 29 37 _ 16 rfl Tryz.underlying29 info_dot rfl v1 ([] ++ x.cloud) l A n c Hl.out rfl rfl HO1.out (Hrd.out.later (l0.trans hL1)) hL1 (by simp; omega) (by simp; omega) ?_; intro v2 w2 hO2 hL2)))
  obtain ⟨A2, c2, hv2, _, _, hR2⟩ := Own.rd encDot_len hO2
  subst hv2
  have hlc : ([] ++ x.cloud ++ l).length = (x.cloud ++ l).length := by simp
  have hR2' : RdS encDot 2 w2 A2 (x.cloud ++ l) := by simpa using hR2
  have HR2 := Lib.hid hR2'
  have hll : (x.cloud ++ l).length ≤ 549755813888 := by have := Hl.out; rw [List.length_append]; omega
  clear hO2 hR2 hR2'
  rw [hlc]
  clear hlc
  generalize hcl : x.cloud ++ l = cl at *
  have Hcl := Lib.hid hcl
  clear hcl
  go_wp2_with (first
    | ((with_reducible refine wpList_ld 28 (w.heap.size) (0) (vcells x.v) ?_ Tryz.underlying28 ?_ ?_ ?_ ?_ ?_); exact (R0.out _ (by repeat (first | with_reducible exact Lat.refl _ | with_reducible assumption | with_reducible apply lat_alloc | with_reducible apply lat_drewN | with_reducible apply lat_drew))); rfl; (rw [hlv]; kernel_rfl); rfl; rfl)
    | ((with_reducible refine wpList_bd ⟨x.v, A2, c2, cl⟩ ?_ ?_ ?_ ?_ ?_); exact Hlen.out; rfl; rfl; rfl)
    | (go_at_call 91; refine (r13_Clean ⟨x.v, A2, c2, cl⟩ _ ⟨Hlen.out, by show cl.length ≤ _; omega, HR2.out⟩).mono ?_; rintro e w3 ⟨y, rfl, hy, hO3, hL3⟩; have hly := ctxCells_len y (clean_len hy); have HO3 := Lib.hid hO3; clear hO3)
    | ((with_reducible refine wpList_st 31 (w.heap.size + 1) (0) (ctxCells y) ?_ ?_ ?_ ?_ ?_ ?_); exact (there_of_block ((hL2.trans hL3).block K1.out) _ (by simp [hly, hzl])); (rw [hly]; kernel_rfl); exact (ctxCells_one y); rfl; rfl))
  (try simp only [Exit.inBlock, Exit.then])
  refine bodyPost_ret (results_cell rfl _ _ (w.heap.size + 1) rfl (ctxCells y) _ (range_of_block (block_whole ((hL2.trans hL3).block K1.out) _ (by simp [hly, hzl]))) Tryz.underlying31 rfl (by rw [hly]; kernel_rfl)) rfl ?_
  have hs := (l0.trans hL2).size
  have hs2 := hL2.size
  exact ⟨y, rfl, by rw [hy]; rw [Hcl.out], (HO3.out.grown (setCells_grown (w.heap.size + 1) (ctxCells y) 0 w3) (by omega)).base_le hs, lat_setCells (by omega) _ _ (l0.trans (hL2.trans hL3))⟩
end Go.Proofs.YtgjffndpegjenaaGreat
