/-
  causal.Clean: the vector as great as can be, and what is beyond it.
-/
import Derived.Test.YtgjffndpegjenaaGreatCtx
import Derived.Test.YtgjffndpegjenaaGreatDot
import Derived.Test.YtgjffndpegjenaaGreatSorted
import Derived.Outline
import Derived.Deep.QuietTactic
import Derived.BigQuiet
import Derived.WalkSpells
import Derived.WalkLawsBesides
import Derived.LoopTactic
import Derived.Lib.Hide
import Derived.Deep.RegionHeld3
import Derived.Deep.DeepCutAuto
set_option linter.unusedVariables false
set_option linter.unusedSimpArgs false
set_option linter.unusedSectionVars false
namespace Go.Proofs.YtgjffndpegjenaaGreat
open Go.RowKit
attribute [local go_sem] lat_alloc lat_drew lat_drewN Lat.refl

def zeroCtx : CtxV := ⟨clampTo [] 0, none, 0, []⟩
theorem zeroCtx_cells : (#[Value.int IntKind.i64 0, Value.int IntKind.i64 0, Value.int IntKind.i64 0, Value.int IntKind.i64 0, Value.int IntKind.i64 0, Value.int IntKind.i64 0, Value.int IntKind.i64 0, Value.int IntKind.i64 0, Value.int IntKind.i64 0, Value.int IntKind.i64 0, Value.int IntKind.i64 0, Value.int IntKind.i64 0, Value.int IntKind.i64 0, Value.int IntKind.i64 0, Value.int IntKind.i64 0, Value.int IntKind.i64 0, Value.slice none 0 0] : Array Value) = (ctxCells zeroCtx).toArray := rfl
theorem clampTo_zero (v : List Int) : clampTo v 0 = clampTo [] 0 := by simp [clampTo]

set_option maxRecDepth 100000 in
set_option maxHeartbeats 1000000 in
theorem causal_Clean (x : CtxV) (w : World) (hx : CtxOk w x) :
    Calls Tryz.prog 198 #[.agg (ctxCells x).toArray] w fun e w' => ∃ y : CtxV, e = .returned (.agg (ctxCells y).toArray) ∧ (y.v, y.cloud) = cClean x.v x.cloud ∧ Own encDot 2 37 w.heap.size w' (.slice y.A y.cloud.length y.cap) y.cloud ∧ Lat w w' := by
  have hlen := hx.len
  have hlv : (vcells x.v).length = 16 := by rw [vcells_len, hlen]
  have hsmall := hx.small
  have Hrd := Lib.hid hx.rd
  clear hx
  have Hlen := Lib.hid hlen
  go_enter Tryz.func198, Tryz.ntmps198
  go_upto_region 2 with (fail)
  rw [zeroCtx_cells]
  have l0 : Lat w (((w.alloc (Obj.cells (ctxCells x).toArray 31)).alloc (Obj.cells (ctxCells zeroCtx).toArray 31)).alloc (Obj.cells (ctxCells zeroCtx).toArray 31)) := (by repeat (first | with_reducible exact Lat.refl _ | with_reducible assumption | with_reducible apply lat_alloc | with_reducible apply lat_drewN | with_reducible apply lat_drew))
  have k0 := (old_at (Obj.cells (ctxCells zeroCtx).toArray 31) (old_at (Obj.cells (ctxCells zeroCtx).toArray 31) (new_at w (Obj.cells (ctxCells x).toArray 31))))
  have k1 := (old_at (Obj.cells (ctxCells zeroCtx).toArray 31) (new2_at w (Obj.cells (ctxCells x).toArray 31) (Obj.cells (ctxCells zeroCtx).toArray 31)))
  have k2 := (new3_at w (Obj.cells (ctxCells x).toArray 31) (Obj.cells (ctxCells zeroCtx).toArray 31) (Obj.cells (ctxCells zeroCtx).toArray 31))
  generalize (((w.alloc (Obj.cells (ctxCells x).toArray 31)).alloc (Obj.cells (ctxCells zeroCtx).toArray 31)).alloc (Obj.cells (ctxCells zeroCtx).toArray 31)) = W0 at *
  have hrefl := Lat.refl W0
  have k2' : W0.heap[w.heap.size + 2]? = some (.cells (vcells (clampTo x.v 0) ++ [Value.slice none 0 0]).toArray 31 (0, 0)) := by rw [k2, clampTo_zero]; rfl
  have hzl : (ctxCells zeroCtx).length = 17 := ctxCells_len _ (clampTo_len _ _)
  generalize ctxCells zeroCtx = Z at k1 hzl
  have hout : w.heap.size + 2 < W0.heap.size := lt_of_block k2
  have R0 := Lib.hid (fun W (h : Lat W0 W) => ctx_vec k0 h)
  clear k2
  clear hlen
  go_wp2_with ((with_reducible refine wpList_ld 28 (w.heap.size) (0) (vcells x.v) ?_ Tryz.underlying28 ?_ ?_ ?_ ?_ ?_); exact (R0.out _ (by repeat (first | with_reducible exact Lat.refl _ | with_reducible assumption | with_reducible apply lat_alloc | with_reducible apply lat_drewN | with_reducible apply lat_drew))); rfl; (rw [hlv]; kernel_rfl); rfl; rfl)
  go_loopw [10] (fun i wr => ∃ k : Nat, k ≤ 16 ∧ i = .int .i64 k ∧ wr.heap[w.heap.size + 2]? = some (.cells (vcells (clampTo x.v k) ++ [Value.slice none 0 0]).toArray 31 (0, 0)) ∧ W0.grownBy wr (some (w.heap.size + 2))) (fun i _ => 16 - (intOf i).toNat)
  case atStart => exact ⟨0, by omega, rfl, k2', World.grownBy.refl _ _⟩
  case round =>
    obtain ⟨k, hk, rfl, hO, hG⟩ := hrel
    have HG := Lib.hid hG
    have HO := Lib.hid hO
    by_cases hlt : k < 16
    · have hi0 : (0 : Int) ≤ (k : Int) := by omega
      have hi1 : (k : Int) < 16 := by omega
      have hix := run_index_vec (P := Tryz.prog) x.v Hlen.out k hlt Tryz.underlying28 Tryz.isAgg3 Tryz.sizeOf3
      have cO : wr.cell? ⟨w.heap.size + 2, k, none⟩ = some (.int .i64 ((clampTo x.v k).getD k 0)) := by
        rw [cell_of_row wr _ k _ _ _ hO]
        have := vcells_get (clampTo x.v k) k (by rw [clampTo_len]; exact hlt)
        simp only [List.getElem?_toArray]
        rw [List.getElem?_append_left (by rw [vcells_len, clampTo_len]; omega)]
        exact this
      have fO : wr.frozen? ⟨w.heap.size + 2, k, none⟩ = false := frozen_of_row wr _ _ _ _ hO
      generalize (clampTo x.v k).getD k 0 = old at cO
      generalize hxk : x.v.getD k 0 = xk at hix
      have Hxk := Lib.hid hxk
      clear hG hO hxk
      go_wp2
      go_roundw
      case rel =>
        refine ⟨k + 1, by omega, by go_num, ?_, HG.out.trans ⟨rfl, rfl, rfl, by simp [World.setCell], fun i _ hi => heap_setCell_other wr ⟨w.heap.size + 2, k, none⟩ i _ (fun e => hi (by simp [e]))⟩⟩
        have h1 := block_put HO.out k (by rw [clampTo_len]; exact hlt) (max 0 (min xk 1099511627776))
        have h2 := clampTo_succ x.v k hlt
        rw [Hxk.out] at h2
        unfold clamp at h2
        rwa [h2] at h1
      case measure => simp [intOf]; omega
    · obtain rfl : k = 16 := by omega
      have hLw : Lat w wr := lat_grown l0 hG (fun j hj => by injection hj with hj; omega)
      have hsz := hG.size
      have kx : wr.heap[w.heap.size]? = some (.cells (ctxCells x).toArray 31 (0, 0)) := by rw [hG.block _ (by omega) (by simp)]; exact k0
      have kz : wr.heap[w.heap.size + 1]? = some (.cells Z.toArray 31 (0, 0)) := by rw [hG.block _ (by omega) (by simp)]; exact k1
      have s0 := fun W (h : Lat wr W) => ctx_slice Hlen.out kx h
      have HS := Lib.hid (fun W (h : Lat wr W) => dot_Sort x.A _ x.cap x.cloud rfl hsmall W (Hrd.out.later (hLw.trans h)))
      have hLww := Lib.hid hLw
      have Kz := Lib.hid kz
      have hrefl' := Lat.refl wr
      clear hG hO kx kz hLw k0 k1 k2' hrefl
      go_upto_region 8 with (go_at_call 117; refine (HS.out _ (by repeat (first | with_reducible exact Lat.refl _ | with_reducible assumption | with_reducible apply lat_alloc | with_reducible apply lat_drewN | with_reducible apply lat_drew))).mono ?_; rintro e w1 ⟨v1, rfl, hO1, hL1⟩; obtain ⟨A1, c1, hv1, hc1, hc2, hR1⟩ := Own.rd encDot_len hO1; subst hv1)
      have hm : (sortU dotLt x.cloud).length ≤ 1099511627776 := Nat.le_trans (sortU_length_le _ _) hsmall
      have hcl : cClean x.v x.cloud = cRun x.v (sortU dotLt x.cloud) := rfl
      have Hcl := Lib.hid hcl
      have hO2 := hL1.block HO.out
      have hZ2 := hL1.block Kz.out
      have hsz1 := hL1.size
      have hne : ∀ b o, A1 = some ⟨b, o, none⟩ → b ≠ w.heap.size + 2 := fun b o e => by
        have := Own.block_ge hO1 b (by rw [e]; rfl)
        omega
      clear HS hcl s0 R0 hrefl'
      have HL1 := Lib.hid (hLww.out.trans hL1)
      clear hL1 hO1 HO HG Kz
      generalize sortU dotLt x.cloud = ds at *
      have HR1 := Lib.hid hR1
      have Hne := Lib.hid hne
      have HZ2 := Lib.hid hZ2
      clear hR1 hne hZ2
      generalize hb : w.heap.size + 2 = bo at *
      have hbo : bo < w1.heap.size := by omega
      go_loopw [25] (fun i wr => ∃ (j : Nat) (y : CtxV), j ≤ ds.length ∧ i = .int .i64 j ∧ wr.heap[bo]? = some (.cells (ctxCells y).toArray 31 (0, 0)) ∧ (y.v, y.cloud) = cRun x.v (ds.take j) ∧ Own encDot 2 37 w1.heap.size wr (.slice y.A y.cloud.length y.cap) y.cloud ∧ w1.grownBy wr (some bo)) (fun i _ => ds.length - (intOf i).toNat)
      case atStart => exact ⟨0, ⟨clampTo x.v 16, none, 0, []⟩, by omega, rfl, hO2, rfl, Own.nil _ _ _ _ _, World.grownBy.refl _ _⟩
      case round =>
        obtain ⟨j, y, hj, rfl, hO, hy, hV, hG⟩ := hrel
        have hyl : y.v.length = 16 := by
          have := congrArg Prod.fst hy
          simp only at this
          rw [this, cRun_len]
        have hyv : vIn y.v := by
          have := congrArg Prod.fst hy
          simp only at this
          rw [this]; exact vIn_run _ _
        have hyc : y.cloud.length ≤ j := by
          have := congrArg Prod.snd hy
          simp only at this
          rw [this]
          exact Nat.le_trans (cRun_cloud _ _) (by simp; omega)
        have Hy := Lib.hid hy
        have HO := Lib.hid hO
        have HV := Lib.hid hV
        have HG := Lib.hid hG
        have hszr := hG.size
        clear hy hV
        by_cases hlt : j < ds.length
        · have hi0 : (0 : Int) ≤ (j : Int) := by omega
          have hi1 : (j : Int) < (ds.length : Int) := by omega
          have hx : ds[j]? = some ds[j] := List.getElem?_eq_getElem hlt
          have ht := List.take_succ_eq_append_getElem (l := ds) (i := j) hlt
          obtain ⟨b, o, hA, hb1, hr⟩ := (HR1.out.grown hG Hne.out).get j _ hx
          subst hA
          generalize ds[j] = d at *
          have cd0 : ∀ W, Lat wr W → W.cell? ⟨b, o + j * 2, none⟩ = some (.int .i64 d.r) := fun W h => hr W h 0 _ rfl
          have cd1 : ∀ W, Lat wr W → W.cell? ⟨b, o + j * 2 + 1, none⟩ = some (.int .i64 d.n) := fun W h => hr W h 1 _ rfl
          have Ht := Lib.hid ht
          have hrefl := Lat.refl wr
          clear hx ht hr hO hG
          go_upto_region 11 with (fail)
          have lw2 : Lat wr (wr.alloc (Obj.cells #[Value.int IntKind.i64 d.r, Value.int IntKind.i64 d.n] 37)) := lat_alloc (Lat.refl _) _
          have kd := new_at wr (Obj.cells #[Value.int IntKind.i64 d.r, Value.int IntKind.i64 d.n] 37)
          have kO := old_at (Obj.cells #[Value.int IntKind.i64 d.r, Value.int IntKind.i64 d.n] 37) HO.out
          have hlvy : (vcells y.v).length = 16 := by rw [vcells_len, hyl]
          generalize wr.alloc (Obj.cells #[Value.int IntKind.i64 d.r, Value.int IntKind.i64 d.n] 37) = W2 at *
          have e0 : ∀ W, Lat W2 W → W.cell? ⟨wr.heap.size, 0, none⟩ = some (.int .i64 d.r) := fun W h => h.cell kd 0 rfl
          have e1 : ∀ W, Lat W2 W → W.cell? ⟨wr.heap.size, 1, none⟩ = some (.int .i64 d.n) := fun W h => h.cell kd 1 rfl
          have RV := Lib.hid (fun W (h : Lat W2 W) => ctx_vec kO h)
          have KO := Lib.hid kO
          have Hlw2 := Lib.hid lw2
          have Hvh := Lib.hid (fun W => vector_Has y.v hyl d W)
          have hrefl2 := Lat.refl W2
          clear cd0 cd1 kd kO lw2 hrefl
          have hstep : (y.v, y.cloud) = cRun x.v (ds.take j) → cRun x.v (ds.take (j + 1)) = cStep (y.v, y.cloud) d := fun h => by rw [Ht.out, cRun_snoc, ← h]
          have Hstep := Lib.hid (hstep Hy.out)
          clear hstep
          cases hok : dotOk d with
          | false =>
            have Hchk := Lib.hid (fun W => dot_Check_no d hok W)
            have Hst := Lib.hid (show cStep (y.v, y.cloud) d = (y.v, y.cloud) from if_pos (.inl hok))
            clear hok
            go_wp2_with (first
              | (go_at_call 256; refine (Hchk.out _).mono ?_; rintro e w4 ⟨rfl, hb4⟩; have hw4 : Lat W2 w4 := hb4.pre (by repeat (first | with_reducible exact Lat.refl _ | with_reducible assumption | with_reducible apply lat_alloc | with_reducible apply lat_drewN | with_reducible apply lat_drew))))
            go_roundw
            case rel => exact ⟨j + 1, y, by omega, by go_num, hw4.block KO.out, by rw [Hstep.out, Hst.out], HV.out.later (Hlw2.out.trans hw4), HG.out.trans ((Hlw2.out.trans hw4).grown _)⟩
            case measure => simp [intOf]; omega
          | true =>
            have Hchk := Lib.hid (fun W => dot_Check_yes d hok W)
            obtain ⟨hd1, hd2, hd3, hd4⟩ := dotOk_iff.1 hok
            have Hok := Lib.hid hok
            clear hok
            cases hvh : vHas y.v d with
            | true =>
              have Hst := Lib.hid (show cStep (y.v, y.cloud) d = (y.v, y.cloud) from if_pos (.inr hvh))
              have Hv2 := Lib.hid hvh
              clear hvh
              go_wp2_with (first
                | (go_at_call 256; refine (Hchk.out _).mono ?_; rintro e w4 ⟨rfl, hb4⟩; have hw4 : Lat W2 w4 := hb4.pre (by repeat (first | with_reducible exact Lat.refl _ | with_reducible assumption | with_reducible apply lat_alloc | with_reducible apply lat_drewN | with_reducible apply lat_drew)))
                | ((with_reducible refine wpList_ld 28 (bo) (0) (vcells y.v) ?_ Tryz.underlying28 ?_ ?_ ?_ ?_ ?_); exact (RV.out _ (by repeat (first | with_reducible exact Lat.refl _ | with_reducible assumption | with_reducible apply lat_alloc | with_reducible apply lat_drewN | with_reducible apply lat_drew))); rfl; (rw [hlvy]; kernel_rfl); rfl; rfl)
                | (go_at_call 289; refine (Hvh.out _).mono ?_; rintro e w5 ⟨rfl, hb5⟩; have hw5 : Lat W2 w5 := hb5.pre (by repeat (first | with_reducible exact Lat.refl _ | with_reducible assumption | with_reducible apply lat_alloc | with_reducible apply lat_drewN | with_reducible apply lat_drew)); rw [Hv2.out]))
              go_roundw
              case rel => exact ⟨j + 1, y, by omega, by go_num, hw5.block KO.out, by rw [Hstep.out, Hst.out], HV.out.later (Hlw2.out.trans hw5), HG.out.trans ((Hlw2.out.trans hw5).grown _)⟩
              case measure => simp [intOf]; omega
            | false =>
              have Hv2 := Lib.hid hvh
              clear hvh
              have hd2' : d.r < 16 := by omega
              have cV := fun W (h : Lat W2 W) => ctx_get hyl KO.out h d.r.toNat (by omega)
              have fV : ∀ W, Lat W2 W → W.frozen? ⟨bo, d.r.toNat, none⟩ = false := fun W h => frozen_of_row W _ _ _ _ (h.block KO.out)
              have hvr := hyv d.r.toNat
              have hvg : vget y.v d.r = y.v.getD d.r.toNat 0 := rfl
              by_cases hn : d.n = vget y.v d.r + 1
              · have Hst := Lib.hid (show cStep (y.v, y.cloud) d = (y.v.set d.r.toNat (vget y.v d.r + 1), y.cloud) from (if_neg (by simp [Hok.out, Hv2.out])).trans (if_pos hn))
                rw [hvg] at hn Hst
                generalize y.v.getD d.r.toNat 0 = vr at cV hvr hn Hst
                have hwr : IntKind.i64.wrap (vr + 1) = vr + 1 := by rw [IntKind.wrap_i64]; omega
                have hdn : (d.n == vr + 1) = true := by simpa using hn
                have hdd : decide (d.n = vr + 1) = true := by simpa using hn
                have Hn := Lib.hid hn
                clear hn hvg
                go_wp2_with (first
                  | (go_at_call 256; refine (Hchk.out _).mono ?_; rintro e w4 ⟨rfl, hb4⟩; have hw4 : Lat W2 w4 := hb4.pre (by repeat (first | with_reducible exact Lat.refl _ | with_reducible assumption | with_reducible apply lat_alloc | with_reducible apply lat_drewN | with_reducible apply lat_drew)))
                  | ((with_reducible refine wpList_ld 28 (bo) (0) (vcells y.v) ?_ Tryz.underlying28 ?_ ?_ ?_ ?_ ?_); exact (RV.out _ (by repeat (first | with_reducible exact Lat.refl _ | with_reducible assumption | with_reducible apply lat_alloc | with_reducible apply lat_drewN | with_reducible apply lat_drew))); rfl; (rw [hlvy]; kernel_rfl); rfl; rfl)
                  | (go_at_call 289; refine (Hvh.out _).mono ?_; rintro e w5 ⟨rfl, hb5⟩; have hw5 : Lat W2 w5 := hb5.pre (by repeat (first | with_reducible exact Lat.refl _ | with_reducible assumption | with_reducible apply lat_alloc | with_reducible apply lat_drewN | with_reducible apply lat_drew)); rw [Hv2.out]))
                go_region_held3 (fun W => Lat W2 W) (first | ((repeat (first | with_reducible exact Lat.refl _ | with_reducible assumption | with_reducible apply lat_alloc | with_reducible apply lat_drewN | with_reducible apply lat_drew)); done) | (refine hb1.pre ?_; ((repeat (first | with_reducible exact Lat.refl _ | with_reducible assumption | with_reducible apply lat_alloc | with_reducible apply lat_drewN | with_reducible apply lat_drew)); done))) (fail)
                go_wp2
                go_roundw
                case rel =>
                  have hg1 := set_grown w5 bo d.r.toNat (.int .i64 (vr + 1))
                  refine ⟨j + 1, ⟨y.v.set d.r.toNat (vr + 1), y.A, y.cap, y.cloud⟩, by omega, by go_num, ctx_put hyl (hw5.block KO.out) d.r.toNat (by omega) (vr + 1), by rw [Hstep.out, Hst.out], ?_, ?_⟩
                  · exact ((HV.out.later (Hlw2.out.trans hw5)).grown hg1 hbo).later (lat_drew (Lat.refl _))
                  · exact (HG.out.trans (((Hlw2.out.trans hw5).grown _).trans hg1)).trans ((lat_drew (Lat.refl _)).grown _)
                case measure => simp [intOf]; omega
              · have Hst := Lib.hid (show cStep (y.v, y.cloud) d = (y.v, y.cloud ++ [d]) from (if_neg (by simp [Hok.out, Hv2.out])).trans (if_neg hn))
                rw [hvg] at hn
                have sV := fun W (h : Lat W2 W) => ctx_slice hyl KO.out h
                generalize y.v.getD d.r.toNat 0 = vr at cV hvr hn
                have hwr : IntKind.i64.wrap (vr + 1) = vr + 1 := by rw [IntKind.wrap_i64]; omega
                have hdn : (d.n == vr + 1) = false := by simpa using hn
                have hdd : decide (d.n = vr + 1) = false := by simpa using hn
                have Hn := Lib.hid hn
                clear hn hvg
                go_wp2_with (first
                  | (go_at_call 256; refine (Hchk.out _).mono ?_; rintro e w4 ⟨rfl, hb4⟩; have hw4 : Lat W2 w4 := hb4.pre (by repeat (first | with_reducible exact Lat.refl _ | with_reducible assumption | with_reducible apply lat_alloc | with_reducible apply lat_drewN | with_reducible apply lat_drew)))
                  | ((with_reducible refine wpList_ld 28 (bo) (0) (vcells y.v) ?_ Tryz.underlying28 ?_ ?_ ?_ ?_ ?_); exact (RV.out _ (by repeat (first | with_reducible exact Lat.refl _ | with_reducible assumption | with_reducible apply lat_alloc | with_reducible apply lat_drewN | with_reducible apply lat_drew))); rfl; (rw [hlvy]; kernel_rfl); rfl; rfl)
                  | (go_at_call 289; refine (Hvh.out _).mono ?_; rintro e w5 ⟨rfl, hb5⟩; have hw5 : Lat W2 w5 := hb5.pre (by repeat (first | with_reducible exact Lat.refl _ | with_reducible assumption | with_reducible apply lat_alloc | with_reducible apply lat_drewN | with_reducible apply lat_drew)); rw [Hv2.out]))
                go_region_held3 (fun W => Lat W2 W) (first | ((repeat (first | with_reducible exact Lat.refl _ | with_reducible assumption | with_reducible apply lat_alloc | with_reducible apply lat_drewN | with_reducible apply lat_drew)); done) | (refine hb1.pre ?_; ((repeat (first | with_reducible exact Lat.refl _ | with_reducible assumption | with_reducible apply lat_alloc | with_reducible apply lat_drewN | with_reducible apply lat_drew)); done))) (fail)
                have hw6 : Lat W2 w5.drew := lat_drew hw5
                have hsz6 := (Hlw2.out.trans hw6).size
                go_wp2_with ((at_builtin; go_must (refine app1g encDot_len encDot_one (by omega) (base := w1.heap.size) rfl _ _ 29 37 _ 16 rfl Tryz.underlying29 info_dot rfl (.slice y.A y.cloud.length y.cap) y.cloud d #[.int .i64 d.r, .int .i64 d.n] rfl rfl rfl (HV.out.later (Hlw2.out.trans hw6)) (by omega) (by omega) (by omega) ?_; intro v7 w7 hO7 hG7; obtain ⟨A7, c7, hv7, _, _, _⟩ := Own.rd encDot_len hO7; subst hv7; have hbk : w7.heap[bo]? = some (.cells (ctxCells y).toArray 31 (0, 0)) := (hG7.block bo (lt_of_block (hw6.block KO.out)) (fun e => Nat.lt_irrefl _ (Nat.lt_of_lt_of_le hbo (Own.block_ge HV.out bo e.symm)))).trans (hw6.block KO.out); have c7' := ctx_slice hyl hbk (Lat.refl w7); have f7 := frozen_of_row w7 bo 16 _ _ hbk; have Hbk := Lib.hid hbk; clear hbk)))
                go_roundw
                case rel =>
                  have hlc : (y.cloud ++ [d]).length = y.cloud.length + 1 := by simp
                  have hg1 := set_grown w7 bo 16 (.slice A7 (y.cloud ++ [d]).length c7)
                  have hps := ctx_put_slice hyl Hbk.out A7 (y.cloud ++ [d]) c7
                  rw [hlc] at hg1 hps
                  refine ⟨j + 1, ⟨y.v, A7, c7, y.cloud ++ [d]⟩, by omega, by go_num, hps, by rw [Hstep.out, Hst.out], hO7.grown hg1 hbo, ?_⟩
                  refine (World.grownBy.andThen (HG.out.trans ((Hlw2.out.trans hw6).grown _)) hG7 ?_).trans hg1
                  intro j' hj'
                  exact .inl (Own.block_ge HV.out j' hj')
                case measure => simp [intOf]; omega
        · have hje : j = ds.length := by omega
          have hfin := Hy.out
          rw [hje, List.take_of_length_le (Nat.le_refl _), ← Hcl.out] at hfin
          have hly : (ctxCells y).length = 17 := ctxCells_len y hyl
          have hZr : wr.heap[w.heap.size + 1]? = some (.cells Z.toArray 31 (0, 0)) := by rw [hG.block _ (by omega) (fun e => by injection e; omega)]; exact HZ2.out
          have HZr := Lib.hid hZr
          have Hfin := Lib.hid hfin
          clear hZr hfin hO hG
          go_wp2_with (first
            | ((with_reducible refine wpList_ld 31 (bo) (0) (ctxCells y) ?_ Tryz.underlying31 ?_ ?_ ?_ ?_ ?_); exact (range_of_block HO.out); rfl; (rw [hly]; kernel_rfl); rfl; rfl)
            | ((with_reducible refine wpList_st 31 (w.heap.size + 1) (0) (ctxCells y) ?_ ?_ ?_ ?_ ?_ ?_); exact (there_of_block HZr.out _ (by simp [hly, hzl])); (rw [hly]; kernel_rfl); exact (ctxCells_one y); rfl; rfl))
          (try simp only [Exit.inBlock, Exit.then])
          refine bodyPost_ret (results_cell rfl _ _ (w.heap.size + 1) rfl (ctxCells y) _ (range_of_block (block_whole HZr.out _ (by simp [hly, hzl]))) Tryz.underlying31 rfl (by rw [hly]; kernel_rfl)) rfl ?_
          have hLw : Lat w wr := lat_grown HL1.out HG.out (fun i hi => by injection hi; omega)
          exact ⟨y, rfl, Hfin.out, (HV.out.grown (setCells_grown (w.heap.size + 1) (ctxCells y) 0 wr) (by omega)).base_le HL1.out.size, lat_setCells (by omega) _ _ hLw⟩
end Go.Proofs.YtgjffndpegjenaaGreat
