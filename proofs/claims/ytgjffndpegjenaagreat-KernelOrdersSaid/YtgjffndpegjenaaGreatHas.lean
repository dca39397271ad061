/-
  causal.Has, and the references' Has.
-/
import Derived.Test.YtgjffndpegjenaaGreatCtx
import Derived.Test.YtgjffndpegjenaaGreatFind
import Derived.Test.YtgjffndpegjenaaGreatList
import Derived.Test.YtgjffndpegjenaaGreatEqV
import Derived.Outline
import Derived.Deep.QuietTactic
import Derived.BigQuiet
import Derived.WalkSpells
import Derived.WalkLawsBesides
import Derived.LoopTactic
import Derived.Lib.Hide
import Derived.Deep.RegionHeld3
import Derived.Deep.DeepCutAuto
set_option linter.unusedVariables false
set_option linter.unusedSimpArgs false
set_option linter.unusedSectionVars false
namespace Go.Proofs.YtgjffndpegjenaaGreat
open Go.RowKit
attribute [local go_sem] lat_alloc lat_drew lat_drewN Lat.refl
attribute [local go_sem high] eqIn_dot eqIn_stamp eqIn_fact

theorem causal_Has (x : CtxV) (d : Dot) (w : World) (hx : CtxOk w x) :
    Calls Tryz.prog 168 #[.agg (ctxCells x).toArray, .agg #[.int .i64 d.r, .int .i64 d.n]] w fun e w' => e = .returned (.bool (cHas x.v x.cloud d)) ∧ Lat w w' := by
  have hlen := hx.len
  have Hv := Lib.hid (vector_Has x.v hlen d)
  have Hc := Lib.hid (fun W (h : Lat w W) => dot_Contains x.A _ x.cap x.cloud rfl hx.small d W (hx.rd.later h))
  have Hy := Lib.hid (fun h => dot_Check_yes d h)
  have Hn := Lib.hid (fun h => dot_Check_no d h)
  have hlv : (vcells x.v).length = 16 := by rw [vcells_len, hlen]
  clear hx
  have Hlen := Lib.hid hlen
  clear hlen
  go_enter Tryz.func168, Tryz.ntmps168
  go_upto_region 1 with (fail)
  have l0 : Lat w ((w.alloc (Obj.cells (ctxCells x).toArray 31)).alloc (Obj.cells #[.int .i64 d.r, .int .i64 d.n] 37)) := (by repeat (first | with_reducible exact Lat.refl _ | with_reducible assumption | with_reducible apply lat_alloc | with_reducible apply lat_drewN | with_reducible apply lat_drew))
  have k0 := (old_at (Obj.cells #[.int .i64 d.r, .int .i64 d.n] 37) (new_at w (Obj.cells (ctxCells x).toArray 31)))
  have k1 := (new2_at w (Obj.cells (ctxCells x).toArray 31) (Obj.cells #[.int .i64 d.r, .int .i64 d.n] 37))
  generalize ((w.alloc (Obj.cells (ctxCells x).toArray 31)).alloc (Obj.cells #[.int .i64 d.r, .int .i64 d.n] 37)) = W0 at *
  have c1_0 : ∀ W, Lat W0 W → W.cell? ⟨w.heap.size + 1, 0, none⟩ = some (.int .i64 d.r) := fun W h => h.cell k1 0 rfl
  have c1_1 : ∀ W, Lat W0 W → W.cell? ⟨w.heap.size + 1, 1, none⟩ = some (.int .i64 d.n) := fun W h => h.cell k1 1 rfl
  clear k1
  have hrefl := Lat.refl W0
  have s0 := fun W (h : Lat W0 W) => ctx_slice Hlen.out k0 h
  have R0 := Lib.hid (fun W (h : Lat W0 W) => ctx_vec k0 h)
  clear k0
  cases hvd : vHas x.v d with
  | true =>
    go_wp2_with (first
      | ((with_reducible refine wpList_ld 28 (w.heap.size) (0) (vcells x.v) ?_ Tryz.underlying28 ?_ ?_ ?_ ?_ ?_); exact (R0.out _ (by repeat (first | with_reducible exact Lat.refl _ | with_reducible assumption | with_reducible apply lat_alloc | with_reducible apply lat_drewN | with_reducible apply lat_drew))); rfl; (rw [hlv]; kernel_rfl); rfl; rfl)
      | (go_at_call 289; refine (Hv.out _).mono ?_; rintro e w1 ⟨rfl, hb1⟩; have hw1 : Lat W0 w1 := hb1.pre (by repeat (first | with_reducible exact Lat.refl _ | with_reducible assumption | with_reducible apply lat_alloc | with_reducible apply lat_drewN | with_reducible apply lat_drew))))
    all_goals (go_ret; exact ⟨ret_bool (by simp [cHas, hvd]), l0.trans hw1⟩)
  | false =>
    cases hok : dotOk d with
    | true =>
      have Hok := Lib.hid hok
      have Hvd := Lib.hid hvd
      clear hok
      go_wp2_with (first
        | ((with_reducible refine wpList_ld 28 (w.heap.size) (0) (vcells x.v) ?_ Tryz.underlying28 ?_ ?_ ?_ ?_ ?_); exact (R0.out _ (by repeat (first | with_reducible exact Lat.refl _ | with_reducible assumption | with_reducible apply lat_alloc | with_reducible apply lat_drewN | with_reducible apply lat_drew))); rfl; (rw [hlv]; kernel_rfl); rfl; rfl)
        | (go_at_call 289; refine (Hv.out _).mono ?_; rintro e w1 ⟨rfl, hb1⟩; have hw1 : Lat W0 w1 := hb1.pre (by repeat (first | with_reducible exact Lat.refl _ | with_reducible assumption | with_reducible apply lat_alloc | with_reducible apply lat_drewN | with_reducible apply lat_drew)); rw [Hvd.out])
        | (go_at_call 256; refine (Hy.out Hok.out _).mono ?_; rintro e w2 ⟨rfl, hb2⟩; have hw2 : Lat W0 w2 := hb2.pre (by repeat (first | with_reducible exact Lat.refl _ | with_reducible assumption | with_reducible apply lat_alloc | with_reducible apply lat_drewN | with_reducible apply lat_drew)))
        | (go_at_call 290; refine (Hc.out _ (l0.trans (by ((repeat (first | with_reducible exact Lat.refl _ | with_reducible assumption | with_reducible apply lat_alloc | with_reducible apply lat_drewN | with_reducible apply lat_drew)); done)))).mono ?_; rintro e w3 ⟨rfl, hb3⟩; have hw3 : Lat W0 w3 := hb3.pre (by repeat (first | with_reducible exact Lat.refl _ | with_reducible assumption | with_reducible apply lat_alloc | with_reducible apply lat_drewN | with_reducible apply lat_drew))))
      all_goals (go_ret; exact ⟨ret_bool (by simp [cHas, Hvd.out, Hok.out]), l0.trans hw3⟩)
    | false =>
      have Hok := Lib.hid hok
      have Hvd := Lib.hid hvd
      clear hok
      go_wp2_with (first
        | ((with_reducible refine wpList_ld 28 (w.heap.size) (0) (vcells x.v) ?_ Tryz.underlying28 ?_ ?_ ?_ ?_ ?_); exact (R0.out _ (by repeat (first | with_reducible exact Lat.refl _ | with_reducible assumption | with_reducible apply lat_alloc | with_reducible apply lat_drewN | with_reducible apply lat_drew))); rfl; (rw [hlv]; kernel_rfl); rfl; rfl)
        | (go_at_call 289; refine (Hv.out _).mono ?_; rintro e w1 ⟨rfl, hb1⟩; have hw1 : Lat W0 w1 := hb1.pre (by repeat (first | with_reducible exact Lat.refl _ | with_reducible assumption | with_reducible apply lat_alloc | with_reducible apply lat_drewN | with_reducible apply lat_drew)); rw [Hvd.out])
        | (go_at_call 256; refine (Hn.out Hok.out _).mono ?_; rintro e w2 ⟨rfl, hb2⟩; have hw2 : Lat W0 w2 := hb2.pre (by repeat (first | with_reducible exact Lat.refl _ | with_reducible assumption | with_reducible apply lat_alloc | with_reducible apply lat_drewN | with_reducible apply lat_drew))))
      all_goals (go_ret; exact ⟨ret_bool (by simp [cHas, Hvd.out, Hok.out]), l0.trans hw2⟩)
end Go.Proofs.YtgjffndpegjenaaGreat
