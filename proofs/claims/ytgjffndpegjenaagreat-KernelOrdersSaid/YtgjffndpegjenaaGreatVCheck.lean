/-
  vector.Check, causal.equal, causal.Check.
-/
import Derived.Test.YtgjffndpegjenaaGreatAdd
import Derived.Outline
import Derived.Deep.QuietTactic
import Derived.BigQuiet
import Derived.WalkSpells
import Derived.WalkLawsBesides
import Derived.LoopTactic
import Derived.Lib.Hide
import Derived.Deep.RegionHeld3
import Derived.Deep.DeepCutAuto
set_option linter.unusedVariables false
set_option linter.unusedSimpArgs false
set_option linter.unusedSectionVars false
namespace Go.Proofs.YtgjffndpegjenaaGreat
open Go.RowKit
attribute [local go_sem] lat_alloc lat_drew lat_drewN Lat.refl

theorem vOk_iff {v : List Int} (hv : v.length = 16) : vOk v = true ↔ ∀ j, j < 16 → 0 ≤ v.getD j 0 ∧ v.getD j 0 ≤ 1099511627776 := by
  unfold vOk
  rw [List.all_eq_true]
  constructor
  · intro h j hj
    have := h (v[j]'(by omega)) (List.getElem_mem _)
    simpa [List.getD_eq_getElem?_getD, List.getElem?_eq_getElem (show j < v.length by omega)] using this
  · intro h n hn
    obtain ⟨j, hj, rfl⟩ := List.getElem_of_mem hn
    have := h j (by omega)
    simpa [List.getD_eq_getElem?_getD, List.getElem?_eq_getElem hj] using this

theorem vector_Check_yes (v : List Int) (hv : v.length = 16) (hok : vOk v = true) (w : World) :
    Calls Tryz.prog 220 #[.agg (vcells v).toArray] w fun e w' => e = .returned (.int .i64 0) ∧ Lat w w' := by
  have hlv : (vcells v).length = 16 := by rw [vcells_len, hv]
  have Hv := Lib.hid hv
  have Hok := Lib.hid hok
  clear hv hok
  go_enter Tryz.func220, Tryz.ntmps220
  go_upto_region 1 with (fail)
  have l0 : Lat w (w.alloc (Obj.cells (vcells v).toArray 28)) := (by repeat (first | with_reducible exact Lat.refl _ | with_reducible assumption | with_reducible apply lat_alloc | with_reducible apply lat_drewN | with_reducible apply lat_drew))
  have k0 := (new_at w (Obj.cells (vcells v).toArray 28))
  generalize (w.alloc (Obj.cells (vcells v).toArray 28)) = W0 at *
  have hrefl := Lat.refl W0
  go_wp2_with ((with_reducible refine wpList_ld 28 (w.heap.size) (0) (vcells v) ?_ Tryz.underlying28 ?_ ?_ ?_ ?_ ?_); exact (range_of_block k0); rfl; (rw [hlv]; kernel_rfl); rfl; rfl)
  go_loopw [6] (fun i wr => ∃ k : Nat, k ≤ 16 ∧ i = .int .i64 k ∧ wr = W0) (fun i _ => 16 - (intOf i).toNat)
  case atStart => exact ⟨0, by omega, rfl, rfl⟩
  case round =>
    obtain ⟨k, hk, rfl, hwr⟩ := hrel
    have hwr := hwr.symm
    subst hwr
    by_cases hlt : k < 16
    · have hi0 : (0 : Int) ≤ (k : Int) := by omega
      have hi1 : (k : Int) < 16 := by omega
      have hix := run_index_vec (P := Tryz.prog) v Hv.out k hlt Tryz.underlying28 Tryz.isAgg3 Tryz.sizeOf3
      obtain ⟨h1, h2⟩ := (vOk_iff Hv.out).1 Hok.out k hlt
      generalize v.getD k 0 = n at hix h1 h2
      go_wp2_with fail
      go_roundw
      case rel => exact ⟨k + 1, by omega, by go_num, by trivial⟩
      case measure => simp [intOf]; omega
    · go_wp2_with fail
      go_ret
      exact ⟨rfl, l0⟩
theorem vector_Check_no (v : List Int) (hv : v.length = 16) (hok : vOk v = false) (w : World) :
    Calls Tryz.prog 220 #[.agg (vcells v).toArray] w fun e w' => e = .returned (.int .i64 2) ∧ Lat w w' := by
  have hlv : (vcells v).length = 16 := by rw [vcells_len, hv]
  have Hv := Lib.hid hv
  have Hok := Lib.hid hok
  clear hv hok
  go_enter Tryz.func220, Tryz.ntmps220
  go_upto_region 1 with (fail)
  have l0 : Lat w (w.alloc (Obj.cells (vcells v).toArray 28)) := (by repeat (first | with_reducible exact Lat.refl _ | with_reducible assumption | with_reducible apply lat_alloc | with_reducible apply lat_drewN | with_reducible apply lat_drew))
  have k0 := (new_at w (Obj.cells (vcells v).toArray 28))
  generalize (w.alloc (Obj.cells (vcells v).toArray 28)) = W0 at *
  have hrefl := Lat.refl W0
  go_wp2_with ((with_reducible refine wpList_ld 28 (w.heap.size) (0) (vcells v) ?_ Tryz.underlying28 ?_ ?_ ?_ ?_ ?_); exact (range_of_block k0); rfl; (rw [hlv]; kernel_rfl); rfl; rfl)
  go_loopw [6] (fun i wr => ∃ k : Nat, k ≤ 16 ∧ i = .int .i64 k ∧ wr = W0 ∧ ∀ j, j < k → 0 ≤ v.getD j 0 ∧ v.getD j 0 ≤ 1099511627776) (fun i _ => 16 - (intOf i).toNat)
  case atStart => exact ⟨0, by omega, rfl, rfl, fun j hj => by omega⟩
  case round =>
    obtain ⟨k, hk, rfl, hwr, hall⟩ := hrel
    have hwr := hwr.symm
    subst hwr
    have Hall := Lib.hid hall
    clear hall
    by_cases hlt : k < 16
    · have hi0 : (0 : Int) ≤ (k : Int) := by omega
      have hi1 : (k : Int) < 16 := by omega
      have hix := run_index_vec (P := Tryz.prog) v Hv.out k hlt Tryz.underlying28 Tryz.isAgg3 Tryz.sizeOf3
      generalize hn : v.getD k 0 = n at hix
      have Hn := Lib.hid hn
      clear hn
      by_cases hin : 0 ≤ n ∧ n ≤ 1099511627776
      · obtain ⟨h1, h2⟩ := hin
        go_wp2_with fail
        go_roundw
        case rel =>
          refine ⟨k + 1, by omega, by go_num, by trivial, fun j hj => ?_⟩
          by_cases hjk : j = k
          · subst hjk; rw [Hn.out]; exact ⟨h1, h2⟩
          · exact Hall.out j (by omega)
        case measure => simp [intOf]; omega
      · have hin' : n < 0 ∨ 1099511627776 < n := by omega
        clear hin
        go_wp2_with fail
        all_goals first
          | omega
          | (go_ret; exact ⟨rfl, l0⟩)
    · exfalso
      have := (vOk_iff Hv.out).2 (fun j hj => Hall.out j (by omega))
      rw [Hok.out] at this
      cases this

theorem causal_equal (x y : CtxV) (w : World) (hx : CtxOk w x) (hy : CtxOk w y) :
    Calls Tryz.prog 303 #[.agg (ctxCells x).toArray, .agg (ctxCells y).toArray] w fun e w' => e = .returned (.bool (decide (x.v = y.v ∧ x.cloud = y.cloud))) ∧ Lat w w' := by
  have hlx := hx.len
  have hly := hy.len
  have hvx : (vcells x.v).length = 16 := by rw [vcells_len, hlx]
  have hvy : (vcells y.v).length = 16 := by rw [vcells_len, hly]
  have HS := Lib.hid (fun W (h : Lat w W) => dot_Equal x.A _ x.cap x.cloud rfl hx.small y.A _ y.cap y.cloud rfl hy.small W (hx.rd.later h) (hy.rd.later h))
  have heq := eqIn_vec x.v y.v hlx hly
  have Hlx := Lib.hid hlx
  have Hly := Lib.hid hly
  clear hx hy hlx hly
  by_cases hv : x.v = y.v
  · have hd : decide (x.v = y.v) = true := by simpa using hv
    have Hv := Lib.hid hv
    clear hv
    go_enter Tryz.func303, Tryz.ntmps303
    go_upto_region 1 with (fail)
    have l0 : Lat w ((w.alloc (Obj.cells (ctxCells x).toArray 31)).alloc (Obj.cells (ctxCells y).toArray 31)) := (by repeat (first | with_reducible exact Lat.refl _ | with_reducible assumption | with_reducible apply lat_alloc | with_reducible apply lat_drewN | with_reducible apply lat_drew))
    have k0 := (old_at (Obj.cells (ctxCells y).toArray 31) (new_at w (Obj.cells (ctxCells x).toArray 31)))
    have k1 := (new2_at w (Obj.cells (ctxCells x).toArray 31) (Obj.cells (ctxCells y).toArray 31))
    generalize ((w.alloc (Obj.cells (ctxCells x).toArray 31)).alloc (Obj.cells (ctxCells y).toArray 31)) = W0 at *
    have hrefl := Lat.refl W0
    have s0 := fun W (h : Lat W0 W) => ctx_slice Hlx.out k0 h
    have s1 := fun W (h : Lat W0 W) => ctx_slice Hly.out k1 h
    have R0 := Lib.hid (fun W (h : Lat W0 W) => ctx_vec k0 h)
    have R1 := Lib.hid (fun W (h : Lat W0 W) => ctx_vec k1 h)
    clear k0 k1
    go_wp2_with (first
      | ((with_reducible refine wpList_ld 28 (w.heap.size) (0) (vcells x.v) ?_ Tryz.underlying28 ?_ ?_ ?_ ?_ ?_); exact (R0.out _ (by repeat (first | with_reducible exact Lat.refl _ | with_reducible assumption | with_reducible apply lat_alloc | with_reducible apply lat_drewN | with_reducible apply lat_drew))); rfl; (rw [hvx]; kernel_rfl); rfl; rfl)
      | ((with_reducible refine wpList_ld 28 (w.heap.size + 1) (0) (vcells y.v) ?_ Tryz.underlying28 ?_ ?_ ?_ ?_ ?_); exact (R1.out _ (by repeat (first | with_reducible exact Lat.refl _ | with_reducible assumption | with_reducible apply lat_alloc | with_reducible apply lat_drewN | with_reducible apply lat_drew))); rfl; (rw [hvy]; kernel_rfl); rfl; rfl)
      | (go_at_call 293; refine (HS.out _ (l0.trans (by ((repeat (first | with_reducible exact Lat.refl _ | with_reducible assumption | with_reducible apply lat_alloc | with_reducible apply lat_drewN | with_reducible apply lat_drew)); done)))).mono ?_; rintro e w1 ⟨rfl, hb1⟩; have hw1 : Lat W0 w1 := hb1.pre (by repeat (first | with_reducible exact Lat.refl _ | with_reducible assumption | with_reducible apply lat_alloc | with_reducible apply lat_drewN | with_reducible apply lat_drew))))
    go_ret
    exact ⟨ret_bool (by simp [Hv.out]), l0.trans hw1⟩
  · have hd : decide (x.v = y.v) = false := by simpa using hv
    have Hv := Lib.hid hv
    clear hv
    go_enter Tryz.func303, Tryz.ntmps303
    go_upto_region 1 with (fail)
    have l0 : Lat w ((w.alloc (Obj.cells (ctxCells x).toArray 31)).alloc (Obj.cells (ctxCells y).toArray 31)) := (by repeat (first | with_reducible exact Lat.refl _ | with_reducible assumption | with_reducible apply lat_alloc | with_reducible apply lat_drewN | with_reducible apply lat_drew))
    have k0 := (old_at (Obj.cells (ctxCells y).toArray 31) (new_at w (Obj.cells (ctxCells x).toArray 31)))
    have k1 := (new2_at w (Obj.cells (ctxCells x).toArray 31) (Obj.cells (ctxCells y).toArray 31))
    generalize ((w.alloc (Obj.cells (ctxCells x).toArray 31)).alloc (Obj.cells (ctxCells y).toArray 31)) = W0 at *
    have hrefl := Lat.refl W0
    have R0 := Lib.hid (fun W (h : Lat W0 W) => ctx_vec k0 h)
    have R1 := Lib.hid (fun W (h : Lat W0 W) => ctx_vec k1 h)
    clear k0 k1
    go_wp2_with (first
      | ((with_reducible refine wpList_ld 28 (w.heap.size) (0) (vcells x.v) ?_ Tryz.underlying28 ?_ ?_ ?_ ?_ ?_); exact (R0.out _ (by repeat (first | with_reducible exact Lat.refl _ | with_reducible assumption | with_reducible apply lat_alloc | with_reducible apply lat_drewN | with_reducible apply lat_drew))); rfl; (rw [hvx]; kernel_rfl); rfl; rfl)
      | ((with_reducible refine wpList_ld 28 (w.heap.size + 1) (0) (vcells y.v) ?_ Tryz.underlying28 ?_ ?_ ?_ ?_ ?_); exact (R1.out _ (by repeat (first | with_reducible exact Lat.refl _ | with_reducible assumption | with_reducible apply lat_alloc | with_reducible apply lat_drewN | with_reducible apply lat_drew))); rfl; (rw [hvy]; kernel_rfl); rfl; rfl))
    go_ret
    exact ⟨ret_bool (by simp [Hv.out]), l0⟩

/-- causal.Check's number. -/
def cErr (v : List Int) (cl : List Dot) : Int := if vOk v = false then 2 else if (v, cl) = cClean v cl then 0 else 5
theorem cErr_v {v : List Int} {cl : List Dot} (h : vOk v = false) : cErr v cl = 2 := if_pos h
theorem cErr_yes {v : List Int} {cl : List Dot} (h : vOk v = true) (h2 : (v, cl) = cClean v cl) : cErr v cl = 0 := (if_neg (by simp [h])).trans (if_pos h2)
theorem cErr_no {v : List Int} {cl : List Dot} (h : vOk v = true) (h2 : ¬ (v, cl) = cClean v cl) : cErr v cl = 5 := (if_neg (by simp [h])).trans (if_neg h2)

theorem causal_Check (x : CtxV) (w : World) (hx : CtxOk w x) :
    Calls Tryz.prog 190 #[.agg (ctxCells x).toArray] w fun e w' => e = .returned (.int .i64 (cErr x.v x.cloud)) ∧ Lat w w' := by
  have hlen := hx.len
  have hlx : (ctxCells x).length = 17 := ctxCells_len x hlen
  have hvx : (vcells x.v).length = 16 := by rw [vcells_len, hlen]
  have HC := Lib.hid (fun W (h : Lat w W) => causal_Clean x W (hx.later h))
  have Hx := Lib.hid hx
  have Hlen := Lib.hid hlen
  clear hx hlen
  cases hok : vOk x.v with
  | false =>
    have HV := Lib.hid (fun W => vector_Check_no x.v Hlen.out hok W)
    have Hok := Lib.hid hok
    clear hok
    go_enter Tryz.func190, Tryz.ntmps190
    go_upto_region 1 with (fail)
    have l0 : Lat w (w.alloc (Obj.cells (ctxCells x).toArray 31)) := (by repeat (first | with_reducible exact Lat.refl _ | with_reducible assumption | with_reducible apply lat_alloc | with_reducible apply lat_drewN | with_reducible apply lat_drew))
    have k0 := (new_at w (Obj.cells (ctxCells x).toArray 31))
    generalize (w.alloc (Obj.cells (ctxCells x).toArray 31)) = W0 at *
    have hrefl := Lat.refl W0
    go_wp2_with (first
      | ((with_reducible refine wpList_ld 28 (w.heap.size) (0) (vcells x.v) ?_ Tryz.underlying28 ?_ ?_ ?_ ?_ ?_); exact (ctx_vec k0 (by repeat (first | with_reducible exact Lat.refl _ | with_reducible assumption | with_reducible apply lat_alloc | with_reducible apply lat_drewN | with_reducible apply lat_drew))); rfl; (rw [hvx]; kernel_rfl); rfl; rfl)
      | (go_at_call 220; refine (HV.out _).mono ?_; rintro e w1 ⟨rfl, hb1⟩; have hw1 : Lat W0 w1 := hb1.pre (by repeat (first | with_reducible exact Lat.refl _ | with_reducible assumption | with_reducible apply lat_alloc | with_reducible apply lat_drewN | with_reducible apply lat_drew))))
    go_ret
    exact ⟨ret_int (cErr_v Hok.out).symm, l0.trans hw1⟩
  | true =>
    have HV := Lib.hid (fun W => vector_Check_yes x.v Hlen.out hok W)
    have Hok := Lib.hid hok
    clear hok
    go_enter Tryz.func190, Tryz.ntmps190
    go_upto_region 1 with (fail)
    have l0 : Lat w (w.alloc (Obj.cells (ctxCells x).toArray 31)) := (by repeat (first | with_reducible exact Lat.refl _ | with_reducible assumption | with_reducible apply lat_alloc | with_reducible apply lat_drewN | with_reducible apply lat_drew))
    have k0 := (new_at w (Obj.cells (ctxCells x).toArray 31))
    generalize (w.alloc (Obj.cells (ctxCells x).toArray 31)) = W0 at *
    have hrefl := Lat.refl W0
    have K0 := Lib.hid k0
    clear k0
    go_upto_region 4 with (first
      | ((with_reducible refine wpList_ld 28 (w.heap.size) (0) (vcells x.v) ?_ Tryz.underlying28 ?_ ?_ ?_ ?_ ?_); exact (ctx_vec K0.out (by repeat (first | with_reducible exact Lat.refl _ | with_reducible assumption | with_reducible apply lat_alloc | with_reducible apply lat_drewN | with_reducible apply lat_drew))); rfl; (rw [hvx]; kernel_rfl); rfl; rfl)
      | (go_at_call 220; refine (HV.out _).mono ?_; rintro e w1 ⟨rfl, hb1⟩; have hw1 : Lat W0 w1 := hb1.pre (by repeat (first | with_reducible exact Lat.refl _ | with_reducible assumption | with_reducible apply lat_alloc | with_reducible apply lat_drewN | with_reducible apply lat_drew))))
    have HE := Lib.hid (fun W (y : CtxV) (h : Lat w W) (hy : CtxOk W y) => causal_equal x y W (Hx.out.later h) hy)
    by_cases hcl : (x.v, x.cloud) = cClean x.v x.cloud
    · have Hcl := Lib.hid hcl
      clear hcl
      refine wp_region_held_drew (S := (fun W => Lat W0 W)) (by kernel_rfl) ?_ (fun hHeld => ?_)
      · (try dsimp only); (first | ((repeat (first | with_reducible exact Lat.refl _ | with_reducible assumption | with_reducible apply lat_alloc | with_reducible apply lat_drewN | with_reducible apply lat_drew)); done) | (refine hb1.pre ?_; ((repeat (first | with_reducible exact Lat.refl _ | with_reducible assumption | with_reducible apply lat_alloc | with_reducible apply lat_drewN | with_reducible apply lat_drew)); done)))
      refine wpAnyH_take (i := 0) (oi := { dst := some 10, op := _, type := _, pos := _, after := _, guard := _ }) rfl (by kernel_rfl) (by kernel_rfl) (by kernel_rfl) (fun _ _ _ h => h) (yieldsIf_load_mid (by rfl) _ _ rfl (w.heap.size) (0) rfl ((ctxCells x)) _ ((fun W h => ctx_whole K0.out h)) Tryz.underlying31 rfl (by rw [hlx]; kernel_rfl)) (by assumption) ?_
      (try simp only [Act.put, List.setIfInBounds_toArray, List.set_cons_zero, List.set_cons_succ])
      refine wpAnyH_take (i := 1) (oi := { dst := some 11, op := _, type := _, pos := _, after := _, guard := _ }) rfl (by kernel_rfl) (by kernel_rfl) (by kernel_rfl) (fun _ _ _ h => h) (yieldsIf_load_mid (by rfl) _ _ rfl (w.heap.size) (0) rfl ((ctxCells x)) _ ((fun W h => ctx_whole K0.out h)) Tryz.underlying31 rfl (by rw [hlx]; kernel_rfl)) (by assumption) ?_
      (try simp only [Act.put, List.setIfInBounds_toArray, List.set_cons_zero, List.set_cons_succ])
      refine wpAnyH_ready (rs := [2]) (by kernel_rfl) (by simp) ?_
      refine AllReadyH.cons (o := { dst := some 12, op := _, type := _, pos := _, after := _, guard := _ }) rfl (fun K hK => ?_) AllReadyH.nil
      go_simp
      (go_at_call 198; refine (HC.out _ (l0.trans (by ((repeat (first | with_reducible exact Lat.refl _ | with_reducible assumption | with_reducible apply lat_alloc | with_reducible apply lat_drewN | with_reducible apply lat_drew)); done)))).mono ?_; rintro e w2 ⟨y, rfl, hy, hO2, hb1⟩; have hyc : CtxOk w2 y := ⟨clean_len hy, Nat.le_trans (clean_small hy) Hx.out.small, Own.rdS encDot_len hO2⟩)
      first | (refine hK.out _ _ ?_ (fun hHeld => ?_)) | (go_wp2_with fail; refine hK.out _ _ ?_ (fun hHeld => ?_))
      · (try dsimp only); (first | ((repeat (first | with_reducible exact Lat.refl _ | with_reducible assumption | with_reducible apply lat_alloc | with_reducible apply lat_drewN | with_reducible apply lat_drew)); done) | (refine hb1.pre ?_; ((repeat (first | with_reducible exact Lat.refl _ | with_reducible assumption | with_reducible apply lat_alloc | with_reducible apply lat_drewN | with_reducible apply lat_drew)); done)))
      clear hK K
      (try simp only [Act.put, List.setIfInBounds_toArray, List.set_cons_zero, List.set_cons_succ])
      refine wpAnyH_ready (rs := [3]) (by kernel_rfl) (by simp) ?_
      refine AllReadyH.cons (o := { dst := some 13, op := _, type := _, pos := _, after := _, guard := _ }) rfl (fun K hK => ?_) AllReadyH.nil
      go_simp
      (go_at_call 303; refine (HE.out _ y (l0.trans (by with_reducible assumption)) hyc).mono ?_; rintro e w3 ⟨rfl, hb1⟩; have hdd : decide (x.v = y.v ∧ x.cloud = y.cloud) = true := (decide_eq_true (by have h := Hcl.out.trans hy.symm; injection h with h1 h2; exact ⟨h1, h2⟩)); rw [hdd])
      first | (refine hK.out _ _ ?_ (fun hHeld => ?_)) | (go_wp2_with fail; refine hK.out _ _ ?_ (fun hHeld => ?_))
      · (try dsimp only); (first | ((repeat (first | with_reducible exact Lat.refl _ | with_reducible assumption | with_reducible apply lat_alloc | with_reducible apply lat_drewN | with_reducible apply lat_drew)); done) | (refine hb1.pre ?_; ((repeat (first | with_reducible exact Lat.refl _ | with_reducible assumption | with_reducible apply lat_alloc | with_reducible apply lat_drewN | with_reducible apply lat_drew)); done)))
      clear hK K
      (try simp only [Act.put, List.setIfInBounds_toArray, List.set_cons_zero, List.set_cons_succ])
      refine wpAnyH_take (i := 4) (oi := { dst := some 14, op := _, type := _, pos := _, after := _, guard := _ }) (v := ?_) rfl (by kernel_rfl) (by kernel_rfl) (by kernel_rfl) (fun _ _ _ h => h) (Or.inl ⟨by rfl, ?_⟩) (by assumption) ?_
      rotate_left
      · (intro w hSw; (try dsimp only at hSw); go_simp) <;> with_reducible rfl
      (try simp only [Act.put, List.setIfInBounds_toArray, List.set_cons_zero, List.set_cons_succ])
      refine wpAnyH_done (by kernel_rfl) ?_ _
      go_wp2
      go_ret
      exact ⟨ret_int (cErr_yes Hok.out Hcl.out).symm, l0.trans (by assumption)⟩
    · have Hcl := Lib.hid hcl
      clear hcl
      refine wp_region_held_drew (S := (fun W => Lat W0 W)) (by kernel_rfl) ?_ (fun hHeld => ?_)
      · (try dsimp only); (first | ((repeat (first | with_reducible exact Lat.refl _ | with_reducible assumption | with_reducible apply lat_alloc | with_reducible apply lat_drewN | with_reducible apply lat_drew)); done) | (refine hb1.pre ?_; ((repeat (first | with_reducible exact Lat.refl _ | with_reducible assumption | with_reducible apply lat_alloc | with_reducible apply lat_drewN | with_reducible apply lat_drew)); done)))
      refine wpAnyH_take (i := 0) (oi := { dst := some 10, op := _, type := _, pos := _, after := _, guard := _ }) rfl (by kernel_rfl) (by kernel_rfl) (by kernel_rfl) (fun _ _ _ h => h) (yieldsIf_load_mid (by rfl) _ _ rfl (w.heap.size) (0) rfl ((ctxCells x)) _ ((fun W h => ctx_whole K0.out h)) Tryz.underlying31 rfl (by rw [hlx]; kernel_rfl)) (by assumption) ?_
      (try simp only [Act.put, List.setIfInBounds_toArray, List.set_cons_zero, List.set_cons_succ])
      refine wpAnyH_take (i := 1) (oi := { dst := some 11, op := _, type := _, pos := _, after := _, guard := _ }) rfl (by kernel_rfl) (by kernel_rfl) (by kernel_rfl) (fun _ _ _ h => h) (yieldsIf_load_mid (by rfl) _ _ rfl (w.heap.size) (0) rfl ((ctxCells x)) _ ((fun W h => ctx_whole K0.out h)) Tryz.underlying31 rfl (by rw [hlx]; kernel_rfl)) (by assumption) ?_
      (try simp only [Act.put, List.setIfInBounds_toArray, List.set_cons_zero, List.set_cons_succ])
      refine wpAnyH_ready (rs := [2]) (by kernel_rfl) (by simp) ?_
      refine AllReadyH.cons (o := { dst := some 12, op := _, type := _, pos := _, after := _, guard := _ }) rfl (fun K hK => ?_) AllReadyH.nil
      go_simp
      (go_at_call 198; refine (HC.out _ (l0.trans (by ((repeat (first | with_reducible exact Lat.refl _ | with_reducible assumption | with_reducible apply lat_alloc | with_reducible apply lat_drewN | with_reducible apply lat_drew)); done)))).mono ?_; rintro e w2 ⟨y, rfl, hy, hO2, hb1⟩; have hyc : CtxOk w2 y := ⟨clean_len hy, Nat.le_trans (clean_small hy) Hx.out.small, Own.rdS encDot_len hO2⟩)
      first | (refine hK.out _ _ ?_ (fun hHeld => ?_)) | (go_wp2_with fail; refine hK.out _ _ ?_ (fun hHeld => ?_))
      · (try dsimp only); (first | ((repeat (first | with_reducible exact Lat.refl _ | with_reducible assumption | with_reducible apply lat_alloc | with_reducible apply lat_drewN | with_reducible apply lat_drew)); done) | (refine hb1.pre ?_; ((repeat (first | with_reducible exact Lat.refl _ | with_reducible assumption | with_reducible apply lat_alloc | with_reducible apply lat_drewN | with_reducible apply lat_drew)); done)))
      clear hK K
      (try simp only [Act.put, List.setIfInBounds_toArray, List.set_cons_zero, List.set_cons_succ])
      refine wpAnyH_ready (rs := [3]) (by kernel_rfl) (by simp) ?_
      refine AllReadyH.cons (o := { dst := some 13, op := _, type := _, pos := _, after := _, guard := _ }) rfl (fun K hK => ?_) AllReadyH.nil
      go_simp
      (go_at_call 303; refine (HE.out _ y (l0.trans (by with_reducible assumption)) hyc).mono ?_; rintro e w3 ⟨rfl, hb1⟩; have hdd : decide (x.v = y.v ∧ x.cloud = y.cloud) = false := (decide_eq_false (fun h => Hcl.out (by rw [← hy, h.1, h.2]))); rw [hdd])
      first | (refine hK.out _ _ ?_ (fun hHeld => ?_)) | (go_wp2_with fail; refine hK.out _ _ ?_ (fun hHeld => ?_))
      · (try dsimp only); (first | ((repeat (first | with_reducible exact Lat.refl _ | with_reducible assumption | with_reducible apply lat_alloc | with_reducible apply lat_drewN | with_reducible apply lat_drew)); done) | (refine hb1.pre ?_; ((repeat (first | with_reducible exact Lat.refl _ | with_reducible assumption | with_reducible apply lat_alloc | with_reducible apply lat_drewN | with_reducible apply lat_drew)); done)))
      clear hK K
      (try simp only [Act.put, List.setIfInBounds_toArray, List.set_cons_zero, List.set_cons_succ])
      refine wpAnyH_take (i := 4) (oi := { dst := some 14, op := _, type := _, pos := _, after := _, guard := _ }) (v := ?_) rfl (by kernel_rfl) (by kernel_rfl) (by kernel_rfl) (fun _ _ _ h => h) (Or.inl ⟨by rfl, ?_⟩) (by assumption) ?_
      rotate_left
      · (intro w hSw; (try dsimp only at hSw); go_simp) <;> with_reducible rfl
      (try simp only [Act.put, List.setIfInBounds_toArray, List.set_cons_zero, List.set_cons_succ])
      refine wpAnyH_done (by kernel_rfl) ?_ _
      go_wp2
      go_ret
      exact ⟨ret_int (cErr_no Hok.out Hcl.out).symm, l0.trans (by assumption)⟩
end Go.Proofs.YtgjffndpegjenaaGreat
