/-
  The reference's Clean on contexts: the same as causal.Clean's.
-/
import Derived.Test.YtgjffndpegjenaaGreatRHas
import Derived.Test.YtgjffndpegjenaaGreatRefSort
import Derived.Test.YtgjffndpegjenaaGreatClean
import Derived.Test.YtgjffndpegjenaaGreatCanon
import Derived.Deep.LoopGhost
import Derived.Lib.AppendZeros
import Derived.Outline
import Derived.Deep.QuietTactic
import Derived.BigQuiet
import Derived.WalkSpells
import Derived.WalkLawsBesides
import Derived.LoopTactic
import Derived.Lib.Hide
import Derived.Deep.RegionHeld3
import Derived.Deep.DeepCutAuto
set_option linter.unusedVariables false
set_option linter.unusedSimpArgs false
set_option linter.unusedSectionVars false
namespace Go.Proofs.YtgjffndpegjenaaGreat
open Go.RowKit
attribute [local go_sem] lat_alloc lat_drew lat_drewN Lat.refl

/-- As great as can be, at one place. -/
structure TopOk (v : List Int) (cl : List Dot) (j : Nat) (n : Int) : Prop where
  ge : clamp (v.getD j 0) ≤ n
  le : n ≤ 1099511627776
  run : ∀ m : Int, clamp (v.getD j 0) < m → m ≤ n → cHas v cl ⟨j, m⟩ = true
  stop : cHas v cl ⟨j, n + 1⟩ = false

/-- The reference's answer is the one form, too. -/
theorem rclean_canon {v vv : List Int} {cl : List Dot} (hl : vv.length = 16) (ht : ∀ j, j < 16 → TopOk v cl j (vv.getD j 0)) :
    (vv, (sortU dotLt cl).filter fun d => dotOk d && !vHas vv d) = cClean v cl := by
  have hc := clean_canon v cl
  have h2 : Canon (fun d => cHas v cl d = true) vv ((sortU dotLt cl).filter fun d => dotOk d && !vHas vv d) := by
    refine ⟨hl, fun r h0 h1 => ?_, fun r k h0 h1 h2 h3 => ?_, fun r h0 h1 => ?_, fun d => ?_, List.Pairwise.filter _ (sortU_rises sto_dot cl)⟩
    · have := (ht r.toNat (by omega)).ge
      have h3 := (clamp_bound (v.getD r.toNat 0)).1
      show 0 ≤ vv.getD r.toNat 0
      omega
    · have hT := ht r.toNat (by omega)
      have hr : ((r.toNat : Nat) : Int) = r := by omega
      have h3' : k ≤ vv.getD r.toNat 0 := h3
      by_cases hk : k ≤ clamp (v.getD r.toNat 0)
      · have h4 : k ≤ 1099511627776 := by have := hT.le; omega
        exact cHas_iff.2 ⟨dotOk_iff.2 ⟨h0, h1, h2, h4⟩, .inl ((clamp_le h2 h4).1 hk)⟩
      · have := hT.run k (by omega) h3'
        rwa [hr] at this
    · have hT := (ht r.toNat (by omega)).stop
      have hr : ((r.toNat : Nat) : Int) = r := by omega
      rw [hr] at hT
      have : vget vv r = vv.getD r.toNat 0 := rfl
      rw [this, hT]
      simp
    · rw [List.mem_filter, sortU_mem, cHas_iff]
      simp only [Bool.and_eq_true, Bool.not_eq_true']
      constructor
      · rintro ⟨hin, hok, hnv⟩
        refine ⟨⟨hok, .inr hin⟩, ?_⟩
        rcases Int.lt_or_le (vget vv d.r) d.n with hlt | hle
        · exact hlt
        · rw [vHas_iff.2 ⟨hok, hle⟩] at hnv; cases hnv
      · rintro ⟨⟨hok, hor⟩, hgt⟩
        obtain ⟨h0, h1, hn1, hn2⟩ := dotOk_iff.1 hok
        have hnv : vHas vv d = false := by
          cases hq : vHas vv d
          · rfl
          · have := (vHas_iff.1 hq).2; omega
        refine ⟨?_, hok, hnv⟩
        rcases hor with hle | hin
        · have h4 := (clamp_le hn1 hn2).2 hle
          have h5 := (ht d.r.toNat (by omega)).ge
          have h6 : vget vv d.r = vv.getD d.r.toNat 0 := rfl
          have h7 : vget v d.r = v.getD d.r.toNat 0 := rfl
          rw [h7] at h4
          omega
        · exact hin
  obtain ⟨a, b⟩ := canon_uniq h2 hc
  exact Prod.ext a b

set_option maxRecDepth 100000 in
set_option maxHeartbeats 1000000 in
theorem r13_Clean (x : CtxV) (w : World) (hx : CtxOk w x) :
    Calls Tryz.prog 91 #[.agg (ctxCells x).toArray] w fun e w' => ∃ y : CtxV, e = .returned (.agg (ctxCells y).toArray) ∧ (y.v, y.cloud) = cClean x.v x.cloud ∧ Own encDot 2 37 w.heap.size w' (.slice y.A y.cloud.length y.cap) y.cloud ∧ Lat w w' := by
  have hlen := hx.len
  have hlx : (ctxCells x).length = 17 := ctxCells_len x hlen
  have hsmall := hx.small
  have Hx := Lib.hid hx
  clear hx
  have Hlen := Lib.hid hlen
  go_enter Tryz.func91, Tryz.ntmps91
  go_upto_region 2 with (fail)
  rw [zeroCtx_cells]
  have l0 : Lat w (((w.alloc (Obj.cells (ctxCells x).toArray 31)).alloc (Obj.cells (ctxCells zeroCtx).toArray 31)).alloc (Obj.cells (ctxCells zeroCtx).toArray 31)) := (by repeat (first | with_reducible exact Lat.refl _ | with_reducible assumption | with_reducible apply lat_alloc | with_reducible apply lat_drewN | with_reducible apply lat_drew))
  have k0 := (old_at (Obj.cells (ctxCells zeroCtx).toArray 31) (old_at (Obj.cells (ctxCells zeroCtx).toArray 31) (new_at w (Obj.cells (ctxCells x).toArray 31))))
  have k1 := (old_at (Obj.cells (ctxCells zeroCtx).toArray 31) (new2_at w (Obj.cells (ctxCells x).toArray 31) (Obj.cells (ctxCells zeroCtx).toArray 31)))
  have k2 := (new3_at w (Obj.cells (ctxCells x).toArray 31) (Obj.cells (ctxCells zeroCtx).toArray 31) (Obj.cells (ctxCells zeroCtx).toArray 31))
  generalize (((w.alloc (Obj.cells (ctxCells x).toArray 31)).alloc (Obj.cells (ctxCells zeroCtx).toArray 31)).alloc (Obj.cells (ctxCells zeroCtx).toArray 31)) = W0 at *
  have hrefl := Lat.refl W0
  have k2' : W0.heap[w.heap.size + 2]? = some (.cells (vcells (clampTo x.v 0) ++ [Value.slice none 0 0]).toArray 31 (0, 0)) := by rw [k2, clampTo_zero]; rfl
  have hzl : (ctxCells zeroCtx).length = 17 := ctxCells_len _ (clampTo_len _ _)
  generalize ctxCells zeroCtx = Z at k1 hzl
  have hout : w.heap.size + 2 < W0.heap.size := lt_of_block k2
  have K0 := Lib.hid k0
  have K1 := Lib.hid k1
  have k2h := Lib.hid k2'
  clear k2 k0 k1 k2' hlen
  go_wp2_with fail
  go_loopw [4] (fun i wr => ∃ (k : Nat) (vv : List Int), k ≤ 16 ∧ i = .int .i64 k ∧ vv.length = 16 ∧ (∀ j, j < k → TopOk x.v x.cloud j (vv.getD j 0)) ∧ wr.heap[w.heap.size + 2]? = some (.cells (vcells vv ++ [Value.slice none 0 0]).toArray 31 (0, 0)) ∧ W0.grownBy wr (some (w.heap.size + 2))) (fun i _ => 16 - (intOf i).toNat)
  case atStart => exact ⟨0, clampTo x.v 0, by omega, rfl, clampTo_len _ _, fun j hj => by omega, k2h.out, World.grownBy.refl _ _⟩
  case round =>
    obtain ⟨k, vv, hk, rfl, hvl, htop, hO, hG⟩ := hrel
    have HG := Lib.hid hG
    have HO := Lib.hid hO
    have Htop := Lib.hid htop
    have Hvl := Lib.hid hvl
    clear htop
    by_cases hlt : k < 16
    · have hi0 : (0 : Int) ≤ (k : Int) := by omega
      have hi1 : (k : Int) < 16 := by omega
      have kx : wr.heap[w.heap.size]? = some (.cells (ctxCells x).toArray 31 (0, 0)) := by rw [hG.block _ (by omega) (by simp)]; exact K0.out
      have cX := ctx_get Hlen.out kx (Lat.refl wr) k hlt
      have cO : wr.cell? ⟨w.heap.size + 2, k, none⟩ = some (.int .i64 (vv.getD k 0)) := by
        rw [cell_of_row wr _ k _ _ _ hO]
        have := vcells_get vv k (by omega)
        simp only [List.getElem?_toArray]
        rw [List.getElem?_append_left (by rw [vcells_len]; omega)]
        exact this
      have fO : wr.frozen? ⟨w.heap.size + 2, k, none⟩ = false := frozen_of_row wr _ _ _ _ hO
      generalize vv.getD k 0 = old at cO
      generalize hxk : x.v.getD k 0 = xk at cX
      have Hxk := Lib.hid hxk
      clear hG hO hxk kx
      go_wp2_with fail
      go_loopg [] 1099511627778 (fun g wr => ∃ n : Int, wr.heap[w.heap.size + 2]? = some (.cells (vcells (vv.set k n) ++ [Value.slice none 0 0]).toArray 31 (0, 0)) ∧ clamp xk ≤ n ∧ n ≤ 1099511627776 ∧ (∀ m : Int, clamp xk < m → m ≤ n → cHas x.v x.cloud ⟨k, m⟩ = true) ∧ W0.grownBy wr (some (w.heap.size + 2)) ∧ (1099511627776 - n).toNat ≤ g)
      case atStart => exact ⟨clamp xk, block_put HO.out k (by rw [Hvl.out]; exact hlt) (clamp xk), Int.le_refl _, (clamp_bound xk).2, fun m h1 h2 => by omega, HG.out.trans (set_grown wr (w.heap.size + 2) k _), by have := (clamp_bound xk).1; omega⟩
      case round =>
        obtain ⟨n, hO, hn0, hn1, hrun, hG, hg⟩ := hrel
        have hnn := (clamp_bound xk).1
        have hszr := hG.size
        have hLw : Lat w wr := lat_grown l0 hG (fun j hj => by injection hj with hj; omega)
        have kx : wr.heap[w.heap.size]? = some (.cells (ctxCells x).toArray 31 (0, 0)) := by rw [hG.block _ (by omega) (by simp)]; exact K0.out
        have R0 := Lib.hid (fun W (h : Lat wr W) => range_of_block (h.block kx))
        have cN : ∀ W, Lat wr W → W.cell? ⟨w.heap.size + 2, k, none⟩ = some (.int .i64 n) := fun W h => by
          refine h.cell hO k ?_
          have := vcells_get (vv.set k n) k (by rw [List.length_set, Hvl.out]; exact hlt)
          simp only [List.getElem?_toArray]
          rw [List.getElem?_append_left (by rw [vcells_len, List.length_set, Hvl.out]; exact hlt), this]
          simp [List.getD_eq_getElem?_getD, Hvl.out, hlt]
        have fN : ∀ W, Lat wr W → W.frozen? ⟨w.heap.size + 2, k, none⟩ = false := fun W h => frozen_of_row W _ _ _ _ (h.block hO)
        have hwn : IntKind.i64.wrap (n + 1) = n + 1 := by rw [IntKind.wrap_i64]; omega
        have HH := Lib.hid (fun W (h : Lat w W) => r13_Has x ⟨(k : Int), n + 1⟩ W (Hx.out.later h))
        have HO2 := Lib.hid hO
        have HG2 := Lib.hid hG
        have Hrun := Lib.hid hrun
        have hrefl' := Lat.refl wr
        clear hO hG hrun kx hrefl
        cases hh : cHas x.v x.cloud ⟨(k : Int), n + 1⟩ with
        | true =>
          have Hh := Lib.hid hh
          clear hh
          have hn2 : n + 1 ≤ 1099511627776 := (dotOk_iff.1 (cHas_iff.1 Hh.out).1).2.2.2
          go_upto_region 6 with (fail)
          refine wp_region_held_drew (S := (fun W => Lat wr W)) (by kernel_rfl) ?_ (fun hHeld => ?_)
          · (try dsimp only); (first | ((repeat (first | with_reducible exact Lat.refl _ | with_reducible assumption | with_reducible apply lat_alloc | with_reducible apply lat_drewN | with_reducible apply lat_drew)); done) | (refine hb1.pre ?_; ((repeat (first | with_reducible exact Lat.refl _ | with_reducible assumption | with_reducible apply lat_alloc | with_reducible apply lat_drewN | with_reducible apply lat_drew)); done)))
          refine wpAnyH_take (i := 0) (oi := { dst := some 20, op := _, type := _, pos := _, after := _, guard := _ }) rfl (by kernel_rfl) (by kernel_rfl) (by kernel_rfl) (fun _ _ _ h => h) (yieldsIf_load_mid (by rfl) _ _ rfl (w.heap.size) (0) rfl ((ctxCells x)) _ ((R0.out)) Tryz.underlying31 rfl (by rw [hlx]; kernel_rfl)) (by assumption) ?_
          (try simp only [Act.put, List.setIfInBounds_toArray, List.set_cons_zero, List.set_cons_succ])
          refine wpAnyH_take (i := 1) (oi := { dst := some 21, op := _, type := _, pos := _, after := _, guard := _ }) (v := ?_) rfl (by kernel_rfl) (by kernel_rfl) (by kernel_rfl) (fun _ _ _ h => h) (Or.inl ⟨by rfl, ?_⟩) (by assumption) ?_
          rotate_left
          · (intro w hSw; (try dsimp only at hSw); go_simp) <;> with_reducible rfl
          (try simp only [Act.put, List.setIfInBounds_toArray, List.set_cons_zero, List.set_cons_succ])
          refine wpAnyH_take (i := 2) (oi := { dst := some 22, op := _, type := _, pos := _, after := _, guard := _ }) (v := ?_) rfl (by kernel_rfl) (by kernel_rfl) (by kernel_rfl) (fun _ _ _ h => h) (Or.inl ⟨by rfl, ?_⟩) (by assumption) ?_
          rotate_left
          · (intro w hSw; (try dsimp only at hSw); go_simp) <;> with_reducible rfl
          (try simp only [Act.put, List.setIfInBounds_toArray, List.set_cons_zero, List.set_cons_succ])
          refine wpAnyH_take (i := 3) (oi := { dst := some 23, op := _, type := _, pos := _, after := _, guard := _ }) (v := ?_) rfl (by kernel_rfl) (by kernel_rfl) (by kernel_rfl) (fun _ _ _ h => h) (Or.inl ⟨by rfl, ?_⟩) (by assumption) ?_
          rotate_left
          · (intro w hSw; (try dsimp only at hSw); go_simp) <;> with_reducible rfl
          (try simp only [Act.put, List.setIfInBounds_toArray, List.set_cons_zero, List.set_cons_succ])
          refine wpAnyH_take (i := 4) (oi := { dst := some 24, op := _, type := _, pos := _, after := _, guard := _ }) (v := ?_) rfl (by kernel_rfl) (by kernel_rfl) (by kernel_rfl) (fun _ _ _ h => h) (Or.inl ⟨by rfl, ?_⟩) (by assumption) ?_
          rotate_left
          · (intro w hSw; (try dsimp only at hSw); go_simp) <;> with_reducible rfl
          (try simp only [Act.put, List.setIfInBounds_toArray, List.set_cons_zero, List.set_cons_succ])
          refine wpAnyH_take (i := 5) (oi := { dst := some 25, op := _, type := _, pos := _, after := _, guard := _ }) (v := ?_) rfl (by kernel_rfl) (by kernel_rfl) (by kernel_rfl) (fun _ _ _ h => h) (Or.inl ⟨by rfl, ?_⟩) (by assumption) ?_
          rotate_left
          · (intro w hSw; (try dsimp only at hSw); go_simp) <;> with_reducible rfl
          (try simp only [Act.put, List.setIfInBounds_toArray, List.set_cons_zero, List.set_cons_succ])
          refine wpAnyH_take (i := 6) (oi := { dst := some 26, op := _, type := _, pos := _, after := _, guard := _ }) (v := ?_) rfl (by kernel_rfl) (by kernel_rfl) (by kernel_rfl) (fun _ _ _ h => h) (Or.inl ⟨by rfl, ?_⟩) (by assumption) ?_
          rotate_left
          · (intro w hSw; (try dsimp only at hSw); go_simp) <;> with_reducible rfl
          (try simp only [Act.put, List.setIfInBounds_toArray, List.set_cons_zero, List.set_cons_succ])
          refine wpAnyH_take (i := 7) (oi := { dst := some 27, op := _, type := _, pos := _, after := _, guard := _ }) (v := ?_) rfl (by kernel_rfl) (by kernel_rfl) (by kernel_rfl) (fun _ _ _ h => h) (Or.inl ⟨by rfl, ?_⟩) (by assumption) ?_
          rotate_left
          · (intro w hSw; (try dsimp only at hSw); go_simp) <;> with_reducible rfl
          (try simp only [Act.put, List.setIfInBounds_toArray, List.set_cons_zero, List.set_cons_succ])
          refine wpAnyH_ready (rs := [8]) (by kernel_rfl) (by simp) ?_
          refine AllReadyH.cons (o := { dst := some 28, op := _, type := _, pos := _, after := _, guard := _ }) rfl (fun K hK => ?_) AllReadyH.nil
          go_simp
          (go_at_call 202; refine (HH.out _ (hLw.trans (by ((repeat (first | with_reducible exact Lat.refl _ | with_reducible assumption | with_reducible apply lat_alloc | with_reducible apply lat_drewN | with_reducible apply lat_drew)); done)))).mono ?_; rintro e w4 ⟨rfl, hb1⟩; rw [Hh.out])
          first | (refine hK.out _ _ ?_ (fun hHeld => ?_)) | (go_wp2_with fail; refine hK.out _ _ ?_ (fun hHeld => ?_))
          · (try dsimp only); (first | ((repeat (first | with_reducible exact Lat.refl _ | with_reducible assumption | with_reducible apply lat_alloc | with_reducible apply lat_drewN | with_reducible apply lat_drew)); done) | (refine hb1.pre ?_; ((repeat (first | with_reducible exact Lat.refl _ | with_reducible assumption | with_reducible apply lat_alloc | with_reducible apply lat_drewN | with_reducible apply lat_drew)); done)))
          clear hK K
          (try simp only [Act.put, List.setIfInBounds_toArray, List.set_cons_zero, List.set_cons_succ])
          refine wpAnyH_done (by kernel_rfl) ?_ _
          have hw4 : Lat wr w4 := by assumption
          go_wp2
          go_roundg ((1099511627776 - (n + 1)).toNat)
          case measure => omega
          case rel =>
            have hbp := block_put (hw4.block HO2.out) k (by rw [List.length_set, Hvl.out]; exact hlt) (n + 1)
            rw [List.set_set] at hbp
            refine ⟨n + 1, hbp, by omega, hn2, fun m h1 h2 => ?_, HG2.out.trans ((hw4.grown _).trans (set_grown w4 (w.heap.size + 2) k _)), Nat.le_refl _⟩
            by_cases hm : m = n + 1
            · rw [hm]; exact Hh.out
            · exact Hrun.out m h1 (by omega)
        | false =>
          have Hh := Lib.hid hh
          clear hh
          go_upto_region 6 with (fail)
          refine wp_region_held_drew (S := (fun W => Lat wr W)) (by kernel_rfl) ?_ (fun hHeld => ?_)
          · (try dsimp only); (first | ((repeat (first | with_reducible exact Lat.refl _ | with_reducible assumption | with_reducible apply lat_alloc | with_reducible apply lat_drewN | with_reducible apply lat_drew)); done) | (refine hb1.pre ?_; ((repeat (first | with_reducible exact Lat.refl _ | with_reducible assumption | with_reducible apply lat_alloc | with_reducible apply lat_drewN | with_reducible apply lat_drew)); done)))
          refine wpAnyH_take (i := 0) (oi := { dst := some 20, op := _, type := _, pos := _, after := _, guard := _ }) rfl (by kernel_rfl) (by kernel_rfl) (by kernel_rfl) (fun _ _ _ h => h) (yieldsIf_load_mid (by rfl) _ _ rfl (w.heap.size) (0) rfl ((ctxCells x)) _ ((R0.out)) Tryz.underlying31 rfl (by rw [hlx]; kernel_rfl)) (by assumption) ?_
          (try simp only [Act.put, List.setIfInBounds_toArray, List.set_cons_zero, List.set_cons_succ])
          refine wpAnyH_take (i := 1) (oi := { dst := some 21, op := _, type := _, pos := _, after := _, guard := _ }) (v := ?_) rfl (by kernel_rfl) (by kernel_rfl) (by kernel_rfl) (fun _ _ _ h => h) (Or.inl ⟨by rfl, ?_⟩) (by assumption) ?_
          rotate_left
          · (intro w hSw; (try dsimp only at hSw); go_simp) <;> with_reducible rfl
          (try simp only [Act.put, List.setIfInBounds_toArray, List.set_cons_zero, List.set_cons_succ])
          refine wpAnyH_take (i := 2) (oi := { dst := some 22, op := _, type := _, pos := _, after := _, guard := _ }) (v := ?_) rfl (by kernel_rfl) (by kernel_rfl) (by kernel_rfl) (fun _ _ _ h => h) (Or.inl ⟨by rfl, ?_⟩) (by assumption) ?_
          rotate_left
          · (intro w hSw; (try dsimp only at hSw); go_simp) <;> with_reducible rfl
          (try simp only [Act.put, List.setIfInBounds_toArray, List.set_cons_zero, List.set_cons_succ])
          refine wpAnyH_take (i := 3) (oi := { dst := some 23, op := _, type := _, pos := _, after := _, guard := _ }) (v := ?_) rfl (by kernel_rfl) (by kernel_rfl) (by kernel_rfl) (fun _ _ _ h => h) (Or.inl ⟨by rfl, ?_⟩) (by assumption) ?_
          rotate_left
          · (intro w hSw; (try dsimp only at hSw); go_simp) <;> with_reducible rfl
          (try simp only [Act.put, List.setIfInBounds_toArray, List.set_cons_zero, List.set_cons_succ])
          refine wpAnyH_take (i := 4) (oi := { dst := some 24, op := _, type := _, pos := _, after := _, guard := _ }) (v := ?_) rfl (by kernel_rfl) (by kernel_rfl) (by kernel_rfl) (fun _ _ _ h => h) (Or.inl ⟨by rfl, ?_⟩) (by assumption) ?_
          rotate_left
          · (intro w hSw; (try dsimp only at hSw); go_simp) <;> with_reducible rfl
          (try simp only [Act.put, List.setIfInBounds_toArray, List.set_cons_zero, List.set_cons_succ])
          refine wpAnyH_take (i := 5) (oi := { dst := some 25, op := _, type := _, pos := _, after := _, guard := _ }) (v := ?_) rfl (by kernel_rfl) (by kernel_rfl) (by kernel_rfl) (fun _ _ _ h => h) (Or.inl ⟨by rfl, ?_⟩) (by assumption) ?_
          rotate_left
          · (intro w hSw; (try dsimp only at hSw); go_simp) <;> with_reducible rfl
          (try simp only [Act.put, List.setIfInBounds_toArray, List.set_cons_zero, List.set_cons_succ])
          refine wpAnyH_take (i := 6) (oi := { dst := some 26, op := _, type := _, pos := _, after := _, guard := _ }) (v := ?_) rfl (by kernel_rfl) (by kernel_rfl) (by kernel_rfl) (fun _ _ _ h => h) (Or.inl ⟨by rfl, ?_⟩) (by assumption) ?_
          rotate_left
          · (intro w hSw; (try dsimp only at hSw); go_simp) <;> with_reducible rfl
          (try simp only [Act.put, List.setIfInBounds_toArray, List.set_cons_zero, List.set_cons_succ])
          refine wpAnyH_take (i := 7) (oi := { dst := some 27, op := _, type := _, pos := _, after := _, guard := _ }) (v := ?_) rfl (by kernel_rfl) (by kernel_rfl) (by kernel_rfl) (fun _ _ _ h => h) (Or.inl ⟨by rfl, ?_⟩) (by assumption) ?_
          rotate_left
          · (intro w hSw; (try dsimp only at hSw); go_simp) <;> with_reducible rfl
          (try simp only [Act.put, List.setIfInBounds_toArray, List.set_cons_zero, List.set_cons_succ])
          refine wpAnyH_ready (rs := [8]) (by kernel_rfl) (by simp) ?_
          refine AllReadyH.cons (o := { dst := some 28, op := _, type := _, pos := _, after := _, guard := _ }) rfl (fun K hK => ?_) AllReadyH.nil
          go_simp
          (go_at_call 202; refine (HH.out _ (hLw.trans (by ((repeat (first | with_reducible exact Lat.refl _ | with_reducible assumption | with_reducible apply lat_alloc | with_reducible apply lat_drewN | with_reducible apply lat_drew)); done)))).mono ?_; rintro e w4 ⟨rfl, hb1⟩; rw [Hh.out])
          first | (refine hK.out _ _ ?_ (fun hHeld => ?_)) | (go_wp2_with fail; refine hK.out _ _ ?_ (fun hHeld => ?_))
          · (try dsimp only); (first | ((repeat (first | with_reducible exact Lat.refl _ | with_reducible assumption | with_reducible apply lat_alloc | with_reducible apply lat_drewN | with_reducible apply lat_drew)); done) | (refine hb1.pre ?_; ((repeat (first | with_reducible exact Lat.refl _ | with_reducible assumption | with_reducible apply lat_alloc | with_reducible apply lat_drewN | with_reducible apply lat_drew)); done)))
          clear hK K
          (try simp only [Act.put, List.setIfInBounds_toArray, List.set_cons_zero, List.set_cons_succ])
          refine wpAnyH_done (by kernel_rfl) ?_ _
          have hw4 : Lat wr w4 := by assumption
          go_wp2
          go_roundw
          case rel =>
            refine ⟨k + 1, vv.set k n, by omega, by go_num, by rw [List.length_set]; exact Hvl.out, fun j hj => ?_, hw4.block HO2.out, HG2.out.trans (hw4.grown _)⟩
            by_cases hjk : j = k
            · subst hjk
              have : (vv.set j n).getD j 0 = n := by simp [List.getD_eq_getElem?_getD, Hvl.out, hlt]
              rw [this]
              exact ⟨by rw [Hxk.out]; exact hn0, hn1, by rw [Hxk.out]; exact Hrun.out, Hh.out⟩
            · have : (vv.set k n).getD j 0 = vv.getD j 0 := by simp [List.getD_eq_getElem?_getD, List.getElem?_set, Ne.symm hjk]
              rw [this]
              exact Htop.out j (by omega)
          case measure => simp [intOf]; omega
    · obtain rfl : k = 16 := by omega
      have hLw : Lat w wr := lat_grown l0 hG (fun j hj => by injection hj with hj; omega)
      have hsz := hG.size
      have kx : wr.heap[w.heap.size]? = some (.cells (ctxCells x).toArray 31 (0, 0)) := by rw [hG.block _ (by omega) (by simp)]; exact K0.out
      have kz : wr.heap[w.heap.size + 1]? = some (.cells Z.toArray 31 (0, 0)) := by rw [hG.block _ (by omega) (by simp)]; exact K1.out
      have s0 := fun W (h : Lat wr W) => ctx_slice Hlen.out kx h
      have HS := Lib.hid (fun W (h : Lat wr W) => almonryref11_Sort x.A _ x.cap x.cloud rfl hsmall W (Hx.out.rd.later (hLw.trans h)))
      have hLww := Lib.hid hLw
      have Kz := Lib.hid kz
      have hrefl' := Lat.refl wr
      clear hG hO kx kz hLw hrefl
      go_upto_region 9 with (go_at_call 122; refine (HS.out _ (by repeat (first | with_reducible exact Lat.refl _ | with_reducible assumption | with_reducible apply lat_alloc | with_reducible apply lat_drewN | with_reducible apply lat_drew))).mono ?_; rintro e w1 ⟨v1, rfl, hO1, hL1⟩; obtain ⟨A1, c1, hv1, hc1, hc2, hR1⟩ := Own.rd encDot_len hO1; subst hv1)
      have hm : (sortU dotLt x.cloud).length ≤ 1099511627776 := Nat.le_trans (sortU_length_le _ _) hsmall
      have Hcl := Lib.hid (rclean_canon Hvl.out (fun j hj => Htop.out j hj))
      have hO2 := hL1.block HO.out
      have hZ2 := hL1.block Kz.out
      have hsz1 := hL1.size
      have hne : ∀ b o, A1 = some ⟨b, o, none⟩ → b ≠ w.heap.size + 2 := fun b o e => by
        have := Own.block_ge hO1 b (by rw [e]; rfl)
        omega
      clear HS s0 hrefl'
      have HL1 := Lib.hid (hLww.out.trans hL1)
      clear hL1 hO1 HO HG Kz Htop
      generalize sortU dotLt x.cloud = ds at *
      have HR1 := Lib.hid hR1
      have Hne := Lib.hid hne
      have HZ2 := Lib.hid hZ2
      clear hR1 hne hZ2
      generalize hb : w.heap.size + 2 = bo at *
      have hbo : bo < w1.heap.size := by omega
      have hlvv : (vcells vv).length = 16 := by rw [vcells_len, hvl]
      go_wp2_with fail
      go_loopw [6] (fun i wr => ∃ (j : Nat) (A : Option Addr) (cp : Nat) (cl : List Dot), j ≤ ds.length ∧ i = .int .i64 j ∧ wr.heap[bo]? = some (.cells (ctxCells ⟨vv, A, cp, cl⟩).toArray 31 (0, 0)) ∧ cl = (ds.take j).filter (fun d => dotOk d && !vHas vv d) ∧ Own encDot 2 37 w1.heap.size wr (.slice A cl.length cp) cl ∧ w1.grownBy wr (some bo)) (fun i _ => ds.length - (intOf i).toNat)
      case atStart => exact ⟨0, none, 0, [], by omega, rfl, hO2, by simp, Own.nil _ _ _ _ _, World.grownBy.refl _ _⟩
      case round =>
        obtain ⟨j, Ac, cp, cl, hj, rfl, hO, hcl, hV, hG⟩ := hrel
        have hclen : cl.length ≤ j := by rw [hcl]; exact Nat.le_trans (List.length_filter_le _ _) (by simp; omega)
        have Hcl2 := Lib.hid hcl
        have HO := Lib.hid hO
        have HV := Lib.hid hV
        have HG := Lib.hid hG
        have hszr := hG.size
        clear hcl hV
        by_cases hlt : j < ds.length
        · have hi0 : (0 : Int) ≤ (j : Int) := by omega
          have hi1 : (j : Int) < (ds.length : Int) := by omega
          have hx : ds[j]? = some ds[j] := List.getElem?_eq_getElem hlt
          have ht := List.take_succ_eq_append_getElem (l := ds) (i := j) hlt
          obtain ⟨b, o, hA, hb1, hr⟩ := HR1.out.get j _ hx
          subst hA
          generalize ds[j] = d at *
          have hbne : b ≠ bo := Hne.out b o rfl
          have hUr : Up w1 bo 31 17 wr := ⟨hG, _, hO, by simpa using ctxCells_len ⟨vv, Ac, cp, cl⟩ hvl⟩
          have cu0 : ∀ W, Up w1 bo 31 17 W → W.cell? ⟨b, o + j * 2, none⟩ = some (.int .i64 d.r) := fun W h => h.grown.cell (hr w1 (Lat.refl _) 0 _ rfl) (fun e => hbne (by injection e))
          have cu1 : ∀ W, Up w1 bo 31 17 W → W.cell? ⟨b, o + j * 2 + 1, none⟩ = some (.int .i64 d.n) := fun W h => h.grown.cell (hr w1 (Lat.refl _) 1 _ rfl) (fun e => hbne (by injection e))
          have cd0 : ∀ W, Lat wr W → W.cell? ⟨b, o + j * 2, none⟩ = some (.int .i64 d.r) := fun W h => cu0 W (hUr.pre h)
          have cd1 : ∀ W, Lat wr W → W.cell? ⟨b, o + j * 2 + 1, none⟩ = some (.int .i64 d.n) := fun W h => cu1 W (hUr.pre h)
          have HUr := Lib.hid hUr
          clear hUr
          have RV := Lib.hid (fun W (h : Lat wr W) => ctx_vec HO.out h)
          have Hvh := Lib.hid (fun W => r12_Has vv hvl d W)
          have hstep := Lib.hid (show (ds.take (j + 1)).filter (fun d => dotOk d && !vHas vv d) = cl ++ [d].filter (fun d => dotOk d && !vHas vv d) by rw [ht, List.filter_append, ← Hcl2.out])
          have hrefl := Lat.refl wr
          have Cu0 := Lib.hid cu0
          have Cu1 := Lib.hid cu1
          clear hx ht hr hO hG cu0 cu1
          cases hok : dotOk d with
          | false =>
            have Hok := Lib.hid hok
            have Hchk := Lib.hid (fun W => r11_Check_no d hok W)
            clear hok
            go_upto_region 12 with (fail)
            refine wp_region_held_drew (S := (fun W => Lat wr W)) (by kernel_rfl) ?_ (fun hHeld => ?_)
            · (try dsimp only); (first | ((repeat (first | with_reducible exact Lat.refl _ | with_reducible assumption | with_reducible apply lat_alloc | with_reducible apply lat_drewN | with_reducible apply lat_drew)); done) | (refine hb1.pre ?_; ((repeat (first | with_reducible exact Lat.refl _ | with_reducible assumption | with_reducible apply lat_alloc | with_reducible apply lat_drewN | with_reducible apply lat_drew)); done)))
            refine wpAnyH_take (i := 0) (oi := { dst := some 45, op := _, type := _, pos := _, after := _, guard := _ }) (v := ?_) rfl (by kernel_rfl) (by kernel_rfl) (by kernel_rfl) (fun _ _ _ h => h) (Or.inl ⟨by rfl, ?_⟩) (by assumption) ?_
            rotate_left
            · (intro w hSw; (try dsimp only at hSw); go_simp) <;> with_reducible rfl
            (try simp only [Act.put, List.setIfInBounds_toArray, List.set_cons_zero, List.set_cons_succ])
            refine wpAnyH_take (i := 1) (oi := { dst := some 46, op := _, type := _, pos := _, after := _, guard := _ }) (v := ?_) rfl (by kernel_rfl) (by kernel_rfl) (by kernel_rfl) (fun _ _ _ h => h) (Or.inl ⟨by rfl, ?_⟩) (by assumption) ?_
            rotate_left
            · (intro w hSw; (try dsimp only at hSw); go_simp) <;> with_reducible rfl
            (try simp only [Act.put, List.setIfInBounds_toArray, List.set_cons_zero, List.set_cons_succ])
            refine wpAnyH_take (i := 2) (oi := { dst := some 47, op := _, type := _, pos := _, after := _, guard := _ }) (v := ?_) rfl (by kernel_rfl) (by kernel_rfl) (by kernel_rfl) (fun _ _ _ h => h) (Or.inl ⟨by rfl, ?_⟩) (by assumption) ?_
            rotate_left
            · (intro w hSw; (try dsimp only at hSw); go_simp) <;> with_reducible rfl
            (try simp only [Act.put, List.setIfInBounds_toArray, List.set_cons_zero, List.set_cons_succ])
            refine wpAnyH_take (i := 3) (oi := { dst := some 48, op := _, type := _, pos := _, after := _, guard := _ }) (v := ?_) rfl (by kernel_rfl) (by kernel_rfl) (by kernel_rfl) (fun _ _ _ h => h) (Or.inl ⟨by rfl, ?_⟩) (by assumption) ?_
            rotate_left
            · (intro w hSw; (try dsimp only at hSw); go_simp) <;> with_reducible rfl
            (try simp only [Act.put, List.setIfInBounds_toArray, List.set_cons_zero, List.set_cons_succ])
            refine wpAnyH_ready (rs := [4]) (by kernel_rfl) (by simp) ?_
            refine AllReadyH.cons (o := { dst := some 49, op := _, type := _, pos := _, after := _, guard := _ }) rfl (fun K hK => ?_) AllReadyH.nil
            go_simp
            (go_at_call 143; refine (Hchk.out _).mono ?_; rintro e w4 ⟨rfl, hb1⟩)
            first | (refine hK.out _ _ ?_ (fun hHeld => ?_)) | (go_wp2_with fail; refine hK.out _ _ ?_ (fun hHeld => ?_))
            · (try dsimp only); (first | ((repeat (first | with_reducible exact Lat.refl _ | with_reducible assumption | with_reducible apply lat_alloc | with_reducible apply lat_drewN | with_reducible apply lat_drew)); done) | (refine hb1.pre ?_; ((repeat (first | with_reducible exact Lat.refl _ | with_reducible assumption | with_reducible apply lat_alloc | with_reducible apply lat_drewN | with_reducible apply lat_drew)); done)))
            clear hK K
            (try simp only [Act.put, List.setIfInBounds_toArray, List.set_cons_zero, List.set_cons_succ])
            refine wpAnyH_take (i := 5) (oi := { dst := some 50, op := _, type := _, pos := _, after := _, guard := _ }) (v := ?_) rfl (by kernel_rfl) (by kernel_rfl) (by kernel_rfl) (fun _ _ _ h => h) (Or.inl ⟨by rfl, ?_⟩) (by assumption) ?_
            rotate_left
            · (intro w hSw; (try dsimp only at hSw); go_simp) <;> with_reducible rfl
            (try simp only [Act.put, List.setIfInBounds_toArray, List.set_cons_zero, List.set_cons_succ])
            refine wpAnyH_take (i := 6) (oi := { dst := some 51, op := _, type := _, pos := _, after := _, guard := _ }) (v := ?_) rfl (by kernel_rfl) (by kernel_rfl) (by kernel_rfl) (fun _ _ _ h => h) (Or.inl ⟨by rfl, ?_⟩) (by assumption) ?_
            rotate_left
            · (intro w hSw; (try dsimp only at hSw); go_simp) <;> with_reducible rfl
            (try simp only [Act.put, List.setIfInBounds_toArray, List.set_cons_zero, List.set_cons_succ])
            refine wpAnyH_take (i := 7) (oi := { dst := some 52, op := _, type := _, pos := _, after := _, guard := _ }) (v := undef) rfl (by kernel_rfl) (by kernel_rfl) (by kernel_rfl) (fun _ _ _ h => h) (Or.inr ⟨by rfl, rfl⟩) (by assumption) ?_
            (try simp only [Act.put, List.setIfInBounds_toArray, List.set_cons_zero, List.set_cons_succ])
            refine wpAnyH_take (i := 8) (oi := { dst := some 53, op := _, type := _, pos := _, after := _, guard := _ }) (v := undef) rfl (by kernel_rfl) (by kernel_rfl) (by kernel_rfl) (fun _ _ _ h => h) (Or.inr ⟨by rfl, rfl⟩) (by assumption) ?_
            (try simp only [Act.put, List.setIfInBounds_toArray, List.set_cons_zero, List.set_cons_succ])
            refine wpAnyH_take (i := 9) (oi := { dst := some 54, op := _, type := _, pos := _, after := _, guard := _ }) (v := undef) rfl (by kernel_rfl) (by kernel_rfl) (by kernel_rfl) (fun _ _ _ h => h) (Or.inr ⟨by rfl, rfl⟩) (by assumption) ?_
            (try simp only [Act.put, List.setIfInBounds_toArray, List.set_cons_zero, List.set_cons_succ])
            refine wpAnyH_take (i := 10) (oi := { dst := some 55, op := _, type := _, pos := _, after := _, guard := _ }) (v := undef) rfl (by kernel_rfl) (by kernel_rfl) (by kernel_rfl) (fun _ _ _ h => h) (Or.inr ⟨by rfl, rfl⟩) (by assumption) ?_
            (try simp only [Act.put, List.setIfInBounds_toArray, List.set_cons_zero, List.set_cons_succ])
            refine wpAnyH_take (i := 11) (oi := { dst := some 56, op := _, type := _, pos := _, after := _, guard := _ }) (v := undef) rfl (by kernel_rfl) (by kernel_rfl) (by kernel_rfl) (fun _ _ _ h => h) (Or.inr ⟨by rfl, rfl⟩) (by assumption) ?_
            (try simp only [Act.put, List.setIfInBounds_toArray, List.set_cons_zero, List.set_cons_succ])
            refine wpAnyH_take (i := 12) (oi := { dst := some 57, op := _, type := _, pos := _, after := _, guard := _ }) (v := undef) rfl (by kernel_rfl) (by kernel_rfl) (by kernel_rfl) (fun _ _ _ h => h) (Or.inr ⟨by rfl, rfl⟩) (by assumption) ?_
            (try simp only [Act.put, List.setIfInBounds_toArray, List.set_cons_zero, List.set_cons_succ])
            refine wpAnyH_take (i := 13) (oi := { dst := some 58, op := _, type := _, pos := _, after := _, guard := _ }) (v := undef) rfl (by kernel_rfl) (by kernel_rfl) (by kernel_rfl) (fun _ _ _ h => h) (Or.inr ⟨by rfl, rfl⟩) (by assumption) ?_
            (try simp only [Act.put, List.setIfInBounds_toArray, List.set_cons_zero, List.set_cons_succ])
            refine wpAnyH_take (i := 14) (oi := { dst := some 59, op := _, type := _, pos := _, after := _, guard := _ }) (v := undef) rfl (by kernel_rfl) (by kernel_rfl) (by kernel_rfl) (fun _ _ _ h => h) (Or.inr ⟨by rfl, rfl⟩) (by assumption) ?_
            (try simp only [Act.put, List.setIfInBounds_toArray, List.set_cons_zero, List.set_cons_succ])
            refine wpAnyH_take (i := 15) (oi := { dst := some 60, op := _, type := _, pos := _, after := _, guard := _ }) (v := ?_) rfl (by kernel_rfl) (by kernel_rfl) (by kernel_rfl) (fun _ _ _ h => h) (Or.inl ⟨by rfl, ?_⟩) (by assumption) ?_
            rotate_left
            · (intro w hSw; (try dsimp only at hSw); go_simp) <;> with_reducible rfl
            (try simp only [Act.put, List.setIfInBounds_toArray, List.set_cons_zero, List.set_cons_succ])
            refine wpAnyH_done (by kernel_rfl) ?_ _
            have hw4 : Lat wr w4 := by assumption
            go_wp2
            go_roundw
            case rel => exact ⟨j + 1, Ac, cp, cl, by omega, by go_num, hw4.block HO.out, by rw [hstep.out]; simp [Hok.out], HV.out.later hw4, HG.out.trans (hw4.grown _)⟩
            case measure => simp [intOf]; omega
          | true =>
            have Hok := Lib.hid hok
            have Hchk := Lib.hid (fun W => r11_Check_yes d hok W)
            clear hok
            cases hvh : vHas vv d with
            | true =>
              have Hv2 := Lib.hid hvh
              clear hvh
              go_upto_region 12 with (fail)
              refine wp_region_held_drew (S := (fun W => Lat wr W)) (by kernel_rfl) ?_ (fun hHeld => ?_)
              · (try dsimp only); (first | ((repeat (first | with_reducible exact Lat.refl _ | with_reducible assumption | with_reducible apply lat_alloc | with_reducible apply lat_drewN | with_reducible apply lat_drew)); done) | (refine hb1.pre ?_; ((repeat (first | with_reducible exact Lat.refl _ | with_reducible assumption | with_reducible apply lat_alloc | with_reducible apply lat_drewN | with_reducible apply lat_drew)); done)))
              refine wpAnyH_take (i := 0) (oi := { dst := some 45, op := _, type := _, pos := _, after := _, guard := _ }) (v := ?_) rfl (by kernel_rfl) (by kernel_rfl) (by kernel_rfl) (fun _ _ _ h => h) (Or.inl ⟨by rfl, ?_⟩) (by assumption) ?_
              rotate_left
              · (intro w hSw; (try dsimp only at hSw); go_simp) <;> with_reducible rfl
              (try simp only [Act.put, List.setIfInBounds_toArray, List.set_cons_zero, List.set_cons_succ])
              refine wpAnyH_take (i := 1) (oi := { dst := some 46, op := _, type := _, pos := _, after := _, guard := _ }) (v := ?_) rfl (by kernel_rfl) (by kernel_rfl) (by kernel_rfl) (fun _ _ _ h => h) (Or.inl ⟨by rfl, ?_⟩) (by assumption) ?_
              rotate_left
              · (intro w hSw; (try dsimp only at hSw); go_simp) <;> with_reducible rfl
              (try simp only [Act.put, List.setIfInBounds_toArray, List.set_cons_zero, List.set_cons_succ])
              refine wpAnyH_take (i := 2) (oi := { dst := some 47, op := _, type := _, pos := _, after := _, guard := _ }) (v := ?_) rfl (by kernel_rfl) (by kernel_rfl) (by kernel_rfl) (fun _ _ _ h => h) (Or.inl ⟨by rfl, ?_⟩) (by assumption) ?_
              rotate_left
              · (intro w hSw; (try dsimp only at hSw); go_simp) <;> with_reducible rfl
              (try simp only [Act.put, List.setIfInBounds_toArray, List.set_cons_zero, List.set_cons_succ])
              refine wpAnyH_take (i := 3) (oi := { dst := some 48, op := _, type := _, pos := _, after := _, guard := _ }) (v := ?_) rfl (by kernel_rfl) (by kernel_rfl) (by kernel_rfl) (fun _ _ _ h => h) (Or.inl ⟨by rfl, ?_⟩) (by assumption) ?_
              rotate_left
              · (intro w hSw; (try dsimp only at hSw); go_simp) <;> with_reducible rfl
              (try simp only [Act.put, List.setIfInBounds_toArray, List.set_cons_zero, List.set_cons_succ])
              refine wpAnyH_ready (rs := [4]) (by kernel_rfl) (by simp) ?_
              refine AllReadyH.cons (o := { dst := some 49, op := _, type := _, pos := _, after := _, guard := _ }) rfl (fun K hK => ?_) AllReadyH.nil
              go_simp
              (go_at_call 143; refine (Hchk.out _).mono ?_; rintro e w4 ⟨rfl, hb1⟩)
              first | (refine hK.out _ _ ?_ (fun hHeld => ?_)) | (go_wp2_with fail; refine hK.out _ _ ?_ (fun hHeld => ?_))
              · (try dsimp only); (first | ((repeat (first | with_reducible exact Lat.refl _ | with_reducible assumption | with_reducible apply lat_alloc | with_reducible apply lat_drewN | with_reducible apply lat_drew)); done) | (refine hb1.pre ?_; ((repeat (first | with_reducible exact Lat.refl _ | with_reducible assumption | with_reducible apply lat_alloc | with_reducible apply lat_drewN | with_reducible apply lat_drew)); done)))
              clear hK K
              (try simp only [Act.put, List.setIfInBounds_toArray, List.set_cons_zero, List.set_cons_succ])
              refine wpAnyH_take (i := 5) (oi := { dst := some 50, op := _, type := _, pos := _, after := _, guard := _ }) (v := ?_) rfl (by kernel_rfl) (by kernel_rfl) (by kernel_rfl) (fun _ _ _ h => h) (Or.inl ⟨by rfl, ?_⟩) (by assumption) ?_
              rotate_left
              · (intro w hSw; (try dsimp only at hSw); go_simp) <;> with_reducible rfl
              (try simp only [Act.put, List.setIfInBounds_toArray, List.set_cons_zero, List.set_cons_succ])
              refine wpAnyH_take (i := 6) (oi := { dst := some 51, op := _, type := _, pos := _, after := _, guard := _ }) (v := ?_) rfl (by kernel_rfl) (by kernel_rfl) (by kernel_rfl) (fun _ _ _ h => h) (Or.inl ⟨by rfl, ?_⟩) (by assumption) ?_
              rotate_left
              · (intro w hSw; (try dsimp only at hSw); go_simp) <;> with_reducible rfl
              (try simp only [Act.put, List.setIfInBounds_toArray, List.set_cons_zero, List.set_cons_succ])
              refine wpAnyH_take (i := 7) (oi := { dst := some 52, op := _, type := _, pos := _, after := _, guard := _ }) (v := ?_) rfl (by kernel_rfl) (by kernel_rfl) (by kernel_rfl) (fun _ _ _ h => h) (Or.inl ⟨by rfl, ?_⟩) (by assumption) ?_
              rotate_left
              · (intro w hSw; (try dsimp only at hSw); go_simp) <;> with_reducible rfl
              (try simp only [Act.put, List.setIfInBounds_toArray, List.set_cons_zero, List.set_cons_succ])
              refine wpAnyH_take (i := 8) (oi := { dst := some 53, op := _, type := _, pos := _, after := _, guard := _ }) rfl (by kernel_rfl) (by kernel_rfl) (by kernel_rfl) (fun _ _ _ h => h) (yieldsIf_load_mid (by rfl) _ _ rfl (bo) (0) rfl ((vcells vv)) _ ((RV.out)) Tryz.underlying28 rfl (by rw [hlvv]; kernel_rfl)) (by assumption) ?_
              (try simp only [Act.put, List.setIfInBounds_toArray, List.set_cons_zero, List.set_cons_succ])
              refine wpAnyH_take (i := 9) (oi := { dst := some 54, op := _, type := _, pos := _, after := _, guard := _ }) (v := ?_) rfl (by kernel_rfl) (by kernel_rfl) (by kernel_rfl) (fun _ _ _ h => h) (Or.inl ⟨by rfl, ?_⟩) (by assumption) ?_
              rotate_left
              · (intro w hSw; (try dsimp only at hSw); go_simp) <;> with_reducible rfl
              (try simp only [Act.put, List.setIfInBounds_toArray, List.set_cons_zero, List.set_cons_succ])
              refine wpAnyH_take (i := 10) (oi := { dst := some 55, op := _, type := _, pos := _, after := _, guard := _ }) (v := ?_) rfl (by kernel_rfl) (by kernel_rfl) (by kernel_rfl) (fun _ _ _ h => h) (Or.inl ⟨by rfl, ?_⟩) (by assumption) ?_
              rotate_left
              · (intro w hSw; (try dsimp only at hSw); go_simp) <;> with_reducible rfl
              (try simp only [Act.put, List.setIfInBounds_toArray, List.set_cons_zero, List.set_cons_succ])
              refine wpAnyH_take (i := 11) (oi := { dst := some 56, op := _, type := _, pos := _, after := _, guard := _ }) (v := ?_) rfl (by kernel_rfl) (by kernel_rfl) (by kernel_rfl) (fun _ _ _ h => h) (Or.inl ⟨by rfl, ?_⟩) (by assumption) ?_
              rotate_left
              · (intro w hSw; (try dsimp only at hSw); go_simp) <;> with_reducible rfl
              (try simp only [Act.put, List.setIfInBounds_toArray, List.set_cons_zero, List.set_cons_succ])
              refine wpAnyH_take (i := 12) (oi := { dst := some 57, op := _, type := _, pos := _, after := _, guard := _ }) (v := ?_) rfl (by kernel_rfl) (by kernel_rfl) (by kernel_rfl) (fun _ _ _ h => h) (Or.inl ⟨by rfl, ?_⟩) (by assumption) ?_
              rotate_left
              · (intro w hSw; (try dsimp only at hSw); go_simp) <;> with_reducible rfl
              (try simp only [Act.put, List.setIfInBounds_toArray, List.set_cons_zero, List.set_cons_succ])
              refine wpAnyH_ready (rs := [13]) (by kernel_rfl) (by simp) ?_
              refine AllReadyH.cons (o := { dst := some 58, op := _, type := _, pos := _, after := _, guard := _ }) rfl (fun K hK => ?_) AllReadyH.nil
              go_simp
              (go_at_call 203; refine (Hvh.out _).mono ?_; rintro e w5 ⟨rfl, hb1⟩; rw [Hv2.out])
              first | (refine hK.out _ _ ?_ (fun hHeld => ?_)) | (go_wp2_with fail; refine hK.out _ _ ?_ (fun hHeld => ?_))
              · (try dsimp only); (first | ((repeat (first | with_reducible exact Lat.refl _ | with_reducible assumption | with_reducible apply lat_alloc | with_reducible apply lat_drewN | with_reducible apply lat_drew)); done) | (refine hb1.pre ?_; ((repeat (first | with_reducible exact Lat.refl _ | with_reducible assumption | with_reducible apply lat_alloc | with_reducible apply lat_drewN | with_reducible apply lat_drew)); done)))
              clear hK K
              (try simp only [Act.put, List.setIfInBounds_toArray, List.set_cons_zero, List.set_cons_succ])
              refine wpAnyH_take (i := 14) (oi := { dst := some 59, op := _, type := _, pos := _, after := _, guard := _ }) (v := ?_) rfl (by kernel_rfl) (by kernel_rfl) (by kernel_rfl) (fun _ _ _ h => h) (Or.inl ⟨by rfl, ?_⟩) (by assumption) ?_
              rotate_left
              · (intro w hSw; (try dsimp only at hSw); go_simp) <;> with_reducible rfl
              (try simp only [Act.put, List.setIfInBounds_toArray, List.set_cons_zero, List.set_cons_succ])
              refine wpAnyH_take (i := 15) (oi := { dst := some 60, op := _, type := _, pos := _, after := _, guard := _ }) (v := ?_) rfl (by kernel_rfl) (by kernel_rfl) (by kernel_rfl) (fun _ _ _ h => h) (Or.inl ⟨by rfl, ?_⟩) (by assumption) ?_
              rotate_left
              · (intro w hSw; (try dsimp only at hSw); go_simp) <;> with_reducible rfl
              (try simp only [Act.put, List.setIfInBounds_toArray, List.set_cons_zero, List.set_cons_succ])
              refine wpAnyH_done (by kernel_rfl) ?_ _
              have hw5 : Lat wr w5 := by assumption
              go_wp2
              go_roundw
              case rel => exact ⟨j + 1, Ac, cp, cl, by omega, by go_num, hw5.block HO.out, by rw [hstep.out]; simp [Hv2.out], HV.out.later hw5, HG.out.trans (hw5.grown _)⟩
              case measure => simp [intOf]; omega
            | false =>
              have Hv2 := Lib.hid hvh
              clear hvh
              go_upto_region 12 with (fail)
              refine wp_region_held_drew (S := (fun W => Lat wr W)) (by kernel_rfl) ?_ (fun hHeld => ?_)
              · (try dsimp only); (first | ((repeat (first | with_reducible exact Lat.refl _ | with_reducible assumption | with_reducible apply lat_alloc | with_reducible apply lat_drewN | with_reducible apply lat_drew)); done) | (refine hb1.pre ?_; ((repeat (first | with_reducible exact Lat.refl _ | with_reducible assumption | with_reducible apply lat_alloc | with_reducible apply lat_drewN | with_reducible apply lat_drew)); done)))
              refine wpAnyH_take (i := 0) (oi := { dst := some 45, op := _, type := _, pos := _, after := _, guard := _ }) (v := ?_) rfl (by kernel_rfl) (by kernel_rfl) (by kernel_rfl) (fun _ _ _ h => h) (Or.inl ⟨by rfl, ?_⟩) (by assumption) ?_
              rotate_left
              · (intro w hSw; (try dsimp only at hSw); go_simp) <;> with_reducible rfl
              (try simp only [Act.put, List.setIfInBounds_toArray, List.set_cons_zero, List.set_cons_succ])
              refine wpAnyH_take (i := 1) (oi := { dst := some 46, op := _, type := _, pos := _, after := _, guard := _ }) (v := ?_) rfl (by kernel_rfl) (by kernel_rfl) (by kernel_rfl) (fun _ _ _ h => h) (Or.inl ⟨by rfl, ?_⟩) (by assumption) ?_
              rotate_left
              · (intro w hSw; (try dsimp only at hSw); go_simp) <;> with_reducible rfl
              (try simp only [Act.put, List.setIfInBounds_toArray, List.set_cons_zero, List.set_cons_succ])
              refine wpAnyH_take (i := 2) (oi := { dst := some 47, op := _, type := _, pos := _, after := _, guard := _ }) (v := ?_) rfl (by kernel_rfl) (by kernel_rfl) (by kernel_rfl) (fun _ _ _ h => h) (Or.inl ⟨by rfl, ?_⟩) (by assumption) ?_
              rotate_left
              · (intro w hSw; (try dsimp only at hSw); go_simp) <;> with_reducible rfl
              (try simp only [Act.put, List.setIfInBounds_toArray, List.set_cons_zero, List.set_cons_succ])
              refine wpAnyH_take (i := 3) (oi := { dst := some 48, op := _, type := _, pos := _, after := _, guard := _ }) (v := ?_) rfl (by kernel_rfl) (by kernel_rfl) (by kernel_rfl) (fun _ _ _ h => h) (Or.inl ⟨by rfl, ?_⟩) (by assumption) ?_
              rotate_left
              · (intro w hSw; (try dsimp only at hSw); go_simp) <;> with_reducible rfl
              (try simp only [Act.put, List.setIfInBounds_toArray, List.set_cons_zero, List.set_cons_succ])
              refine wpAnyH_ready (rs := [4]) (by kernel_rfl) (by simp) ?_
              refine AllReadyH.cons (o := { dst := some 49, op := _, type := _, pos := _, after := _, guard := _ }) rfl (fun K hK => ?_) AllReadyH.nil
              go_simp
              (go_at_call 143; refine (Hchk.out _).mono ?_; rintro e w4 ⟨rfl, hb1⟩)
              first | (refine hK.out _ _ ?_ (fun hHeld => ?_)) | (go_wp2_with fail; refine hK.out _ _ ?_ (fun hHeld => ?_))
              · (try dsimp only); (first | ((repeat (first | with_reducible exact Lat.refl _ | with_reducible assumption | with_reducible apply lat_alloc | with_reducible apply lat_drewN | with_reducible apply lat_drew)); done) | (refine hb1.pre ?_; ((repeat (first | with_reducible exact Lat.refl _ | with_reducible assumption | with_reducible apply lat_alloc | with_reducible apply lat_drewN | with_reducible apply lat_drew)); done)))
              clear hK K
              (try simp only [Act.put, List.setIfInBounds_toArray, List.set_cons_zero, List.set_cons_succ])
              refine wpAnyH_take (i := 5) (oi := { dst := some 50, op := _, type := _, pos := _, after := _, guard := _ }) (v := ?_) rfl (by kernel_rfl) (by kernel_rfl) (by kernel_rfl) (fun _ _ _ h => h) (Or.inl ⟨by rfl, ?_⟩) (by assumption) ?_
              rotate_left
              · (intro w hSw; (try dsimp only at hSw); go_simp) <;> with_reducible rfl
              (try simp only [Act.put, List.setIfInBounds_toArray, List.set_cons_zero, List.set_cons_succ])
              refine wpAnyH_take (i := 6) (oi := { dst := some 51, op := _, type := _, pos := _, after := _, guard := _ }) (v := ?_) rfl (by kernel_rfl) (by kernel_rfl) (by kernel_rfl) (fun _ _ _ h => h) (Or.inl ⟨by rfl, ?_⟩) (by assumption) ?_
              rotate_left
              · (intro w hSw; (try dsimp only at hSw); go_simp) <;> with_reducible rfl
              (try simp only [Act.put, List.setIfInBounds_toArray, List.set_cons_zero, List.set_cons_succ])
              refine wpAnyH_take (i := 7) (oi := { dst := some 52, op := _, type := _, pos := _, after := _, guard := _ }) (v := ?_) rfl (by kernel_rfl) (by kernel_rfl) (by kernel_rfl) (fun _ _ _ h => h) (Or.inl ⟨by rfl, ?_⟩) (by assumption) ?_
              rotate_left
              · (intro w hSw; (try dsimp only at hSw); go_simp) <;> with_reducible rfl
              (try simp only [Act.put, List.setIfInBounds_toArray, List.set_cons_zero, List.set_cons_succ])
              refine wpAnyH_take (i := 8) (oi := { dst := some 53, op := _, type := _, pos := _, after := _, guard := _ }) rfl (by kernel_rfl) (by kernel_rfl) (by kernel_rfl) (fun _ _ _ h => h) (yieldsIf_load_mid (by rfl) _ _ rfl (bo) (0) rfl ((vcells vv)) _ ((RV.out)) Tryz.underlying28 rfl (by rw [hlvv]; kernel_rfl)) (by assumption) ?_
              (try simp only [Act.put, List.setIfInBounds_toArray, List.set_cons_zero, List.set_cons_succ])
              refine wpAnyH_take (i := 9) (oi := { dst := some 54, op := _, type := _, pos := _, after := _, guard := _ }) (v := ?_) rfl (by kernel_rfl) (by kernel_rfl) (by kernel_rfl) (fun _ _ _ h => h) (Or.inl ⟨by rfl, ?_⟩) (by assumption) ?_
              rotate_left
              · (intro w hSw; (try dsimp only at hSw); go_simp) <;> with_reducible rfl
              (try simp only [Act.put, List.setIfInBounds_toArray, List.set_cons_zero, List.set_cons_succ])
              refine wpAnyH_take (i := 10) (oi := { dst := some 55, op := _, type := _, pos := _, after := _, guard := _ }) (v := ?_) rfl (by kernel_rfl) (by kernel_rfl) (by kernel_rfl) (fun _ _ _ h => h) (Or.inl ⟨by rfl, ?_⟩) (by assumption) ?_
              rotate_left
              · (intro w hSw; (try dsimp only at hSw); go_simp) <;> with_reducible rfl
              (try simp only [Act.put, List.setIfInBounds_toArray, List.set_cons_zero, List.set_cons_succ])
              refine wpAnyH_take (i := 11) (oi := { dst := some 56, op := _, type := _, pos := _, after := _, guard := _ }) (v := ?_) rfl (by kernel_rfl) (by kernel_rfl) (by kernel_rfl) (fun _ _ _ h => h) (Or.inl ⟨by rfl, ?_⟩) (by assumption) ?_
              rotate_left
              · (intro w hSw; (try dsimp only at hSw); go_simp) <;> with_reducible rfl
              (try simp only [Act.put, List.setIfInBounds_toArray, List.set_cons_zero, List.set_cons_succ])
              refine wpAnyH_take (i := 12) (oi := { dst := some 57, op := _, type := _, pos := _, after := _, guard := _ }) (v := ?_) rfl (by kernel_rfl) (by kernel_rfl) (by kernel_rfl) (fun _ _ _ h => h) (Or.inl ⟨by rfl, ?_⟩) (by assumption) ?_
              rotate_left
              · (intro w hSw; (try dsimp only at hSw); go_simp) <;> with_reducible rfl
              (try simp only [Act.put, List.setIfInBounds_toArray, List.set_cons_zero, List.set_cons_succ])
              refine wpAnyH_ready (rs := [13]) (by kernel_rfl) (by simp) ?_
              refine AllReadyH.cons (o := { dst := some 58, op := _, type := _, pos := _, after := _, guard := _ }) rfl (fun K hK => ?_) AllReadyH.nil
              go_simp
              (go_at_call 203; refine (Hvh.out _).mono ?_; rintro e w5 ⟨rfl, hb1⟩; rw [Hv2.out])
              first | (refine hK.out _ _ ?_ (fun hHeld => ?_)) | (go_wp2_with fail; refine hK.out _ _ ?_ (fun hHeld => ?_))
              · (try dsimp only); (first | ((repeat (first | with_reducible exact Lat.refl _ | with_reducible assumption | with_reducible apply lat_alloc | with_reducible apply lat_drewN | with_reducible apply lat_drew)); done) | (refine hb1.pre ?_; ((repeat (first | with_reducible exact Lat.refl _ | with_reducible assumption | with_reducible apply lat_alloc | with_reducible apply lat_drewN | with_reducible apply lat_drew)); done)))
              clear hK K
              (try simp only [Act.put, List.setIfInBounds_toArray, List.set_cons_zero, List.set_cons_succ])
              refine wpAnyH_take (i := 14) (oi := { dst := some 59, op := _, type := _, pos := _, after := _, guard := _ }) (v := ?_) rfl (by kernel_rfl) (by kernel_rfl) (by kernel_rfl) (fun _ _ _ h => h) (Or.inl ⟨by rfl, ?_⟩) (by assumption) ?_
              rotate_left
              · (intro w hSw; (try dsimp only at hSw); go_simp) <;> with_reducible rfl
              (try simp only [Act.put, List.setIfInBounds_toArray, List.set_cons_zero, List.set_cons_succ])
              refine wpAnyH_take (i := 15) (oi := { dst := some 60, op := _, type := _, pos := _, after := _, guard := _ }) (v := ?_) rfl (by kernel_rfl) (by kernel_rfl) (by kernel_rfl) (fun _ _ _ h => h) (Or.inl ⟨by rfl, ?_⟩) (by assumption) ?_
              rotate_left
              · (intro w hSw; (try dsimp only at hSw); go_simp) <;> with_reducible rfl
              (try simp only [Act.put, List.setIfInBounds_toArray, List.set_cons_zero, List.set_cons_succ])
              refine wpAnyH_done (by kernel_rfl) ?_ _
              have hw5 : Lat wr w5 := by assumption
              have Hw5 := Lib.hid hw5
              go_upto_region 13 with (fail)
              have hU5 : Up w1 bo 31 17 w5 := HUr.out.pre hw5
              have hO5 := hw5.block HO.out
              have s5 := fun W (h : Lat w5 W) => ctx_slice hvl hO5 h
              have HO5 := Lib.hid hO5
              have cu0 := Cu0.out
              have cu1 := Cu1.out
              have hrefl5 := Lat.refl w5
              have hs5 := hU5.grown.size
              clear cd0 cd1 hrefl hw5 hO5
              refine wp_region_held_drew (S := (fun W => Up w1 bo 31 17 W)) (by kernel_rfl) ?_ (fun hHeld => ?_)
              · (try dsimp only); (first | ((repeat (first | with_reducible assumption | with_reducible apply up_alloc | with_reducible apply up_drewN | with_reducible apply up_drew | with_reducible apply up_set | (refine up_whole ?_ _ (by assumption)))); done) | (refine Up.pre hb1 ?_; ((repeat (first | with_reducible assumption | with_reducible apply up_alloc | with_reducible apply up_drewN | with_reducible apply up_drew)); done)))
              refine wpAnyH_take (i := 0) (oi := { dst := some 61, op := _, type := _, pos := _, after := _, guard := _ }) (v := ?_) rfl (by kernel_rfl) (by kernel_rfl) (by kernel_rfl) (fun _ _ _ h => h) (Or.inl ⟨by rfl, ?_⟩) (by assumption) ?_
              rotate_left
              · (intro w hSw; (try dsimp only at hSw); go_simp) <;> with_reducible rfl
              (try simp only [Act.put, List.setIfInBounds_toArray, List.set_cons_zero, List.set_cons_succ])
              refine wpAnyH_take (i := 2) (oi := { dst := some 63, op := _, type := _, pos := _, after := _, guard := _ }) (v := ?_) rfl (by kernel_rfl) (by kernel_rfl) (by kernel_rfl) (fun _ _ _ h => h) (Or.inl ⟨by rfl, ?_⟩) (by assumption) ?_
              rotate_left
              · (intro w hSw; (try dsimp only at hSw); go_simp) <;> with_reducible rfl
              (try simp only [Act.put, List.setIfInBounds_toArray, List.set_cons_zero, List.set_cons_succ])
              refine wpAnyH_take (i := 3) (oi := { dst := some 64, op := _, type := _, pos := _, after := _, guard := _ }) (v := ?_) rfl (by kernel_rfl) (by kernel_rfl) (by kernel_rfl) (fun _ _ _ h => h) (Or.inl ⟨by rfl, ?_⟩) (by assumption) ?_
              rotate_left
              · (intro w hSw; (try dsimp only at hSw); go_simp) <;> with_reducible rfl
              (try simp only [Act.put, List.setIfInBounds_toArray, List.set_cons_zero, List.set_cons_succ])
              refine wpAnyH_take (i := 4) (oi := { dst := some 65, op := _, type := _, pos := _, after := _, guard := _ }) (v := ?_) rfl (by kernel_rfl) (by kernel_rfl) (by kernel_rfl) (fun _ _ _ h => h) (Or.inl ⟨by rfl, ?_⟩) (by assumption) ?_
              rotate_left
              · (intro w hSw; (try dsimp only at hSw); go_simp) <;> with_reducible rfl
              (try simp only [Act.put, List.setIfInBounds_toArray, List.set_cons_zero, List.set_cons_succ])
              refine wpAnyH_take (i := 5) (oi := { dst := some 66, op := _, type := _, pos := _, after := _, guard := _ }) (v := ?_) rfl (by kernel_rfl) (by kernel_rfl) (by kernel_rfl) (fun _ _ _ h => h) (Or.inl ⟨by rfl, ?_⟩) (by assumption) ?_
              rotate_left
              · (intro w hSw; (try dsimp only at hSw); go_simp) <;> with_reducible rfl
              (try simp only [Act.put, List.setIfInBounds_toArray, List.set_cons_zero, List.set_cons_succ])
              refine wpAnyH_ready (rs := [1, 6]) (by kernel_rfl) (by simp) ?_
              refine AllReadyH.cons (o := { dst := some 62, op := _, type := _, pos := _, after := _, guard := _ }) rfl (fun K hK => ?_) ?_
              · go_simp
                first | (refine hK.out _ _ ?_ (fun hHeld => ?_)) | (go_wp2_with fail; refine hK.out _ _ ?_ (fun hHeld => ?_))
                · (try dsimp only); (first | ((repeat (first | with_reducible assumption | with_reducible apply up_alloc | with_reducible apply up_drewN | with_reducible apply up_drew | with_reducible apply up_set | (refine up_whole ?_ _ (by assumption)))); done) | (refine Up.pre hb1 ?_; ((repeat (first | with_reducible assumption | with_reducible apply up_alloc | with_reducible apply up_drewN | with_reducible apply up_drew)); done)))
                clear hK K
                (try simp only [Act.put, List.setIfInBounds_toArray, List.set_cons_zero, List.set_cons_succ])
                refine wpAnyH_ready (rs := [6]) (by kernel_rfl) (by simp) ?_
                refine AllReadyH.cons (o := { dst := some 67, op := _, type := _, pos := _, after := _, guard := _ }) rfl (fun K hK => ?_) AllReadyH.nil
                go_simp
                first | (refine hK.out _ _ ?_ (fun hHeld => ?_)) | (go_wp2_with fail; refine hK.out _ _ ?_ (fun hHeld => ?_))
                · (try dsimp only); (first | ((repeat (first | with_reducible assumption | with_reducible apply up_alloc | with_reducible apply up_drewN | with_reducible apply up_drew | with_reducible apply up_set | (refine up_whole ?_ _ (by assumption)))); done) | (refine Up.pre hb1 ?_; ((repeat (first | with_reducible assumption | with_reducible apply up_alloc | with_reducible apply up_drewN | with_reducible apply up_drew)); done)))
                clear hK K
                (try simp only [Act.put, List.setIfInBounds_toArray, List.set_cons_zero, List.set_cons_succ])
                refine wpAnyH_ready (rs := [7]) (by kernel_rfl) (by simp) ?_
                refine AllReadyH.cons (o := { dst := some 68, op := _, type := _, pos := _, after := _, guard := _ }) rfl (fun K hK => ?_) AllReadyH.nil
                rw [if_pos (by rfl)]
                (obtain ⟨v7, w7, hr, hO7, hG7⟩ := run_appS (P := Tryz.prog) (W := (w5.alloc (Obj.cells #[Value.int IntKind.i64 d.r, Value.int IntKind.i64 d.n] 37)).drew) (base := w1.heap.size) encDot_len encDot_one (by omega) 29 29 37 _ 16 Tryz.underlying29 info_dot rfl (.slice Ac cl.length cp) cl [d] (some ⟨w5.heap.size, 0, none⟩) 1 1 rfl (HV.out.later (Hw5.out.trans (lat_drew (lat_alloc (Lat.refl _) _)))) (RdS.box (new_at w5 _)) (Nat.le_trans hs5 (lat_drew (lat_alloc (Lat.refl w5) _)).size) (by omega) (by omega); obtain ⟨A7, c7, hv7, _, _, _⟩ := Own.rd encDot_len hO7; subst hv7; have hU6 : Up w1 bo 31 17 (w5.alloc (Obj.cells #[Value.int IntKind.i64 d.r, Value.int IntKind.i64 d.n] 37)).drew := (by with_reducible assumption); have hU7 : Up w1 bo 31 17 w7 := Up.app hU6 hbo hG7 (fun i hi => Own.block_ge HV.out i hi); have hbk : w7.heap[bo]? = some (.cells (ctxCells ⟨vv, Ac, cp, cl⟩).toArray 31 (0, 0)) := (hG7.block bo (lt_of_block (Lat.block (lat_drew (lat_alloc (Lat.refl w5) _)) HO5.out)) (fun e => Nat.lt_irrefl _ (Nat.lt_of_lt_of_le hbo (Own.block_ge HV.out bo e.symm)))).trans (Lat.block (lat_drew (lat_alloc (Lat.refl w5) _)) HO5.out); have c16 := ctx_slice hvl hbk (Lat.refl w7); have f16 := frozen_of_row w7 bo 16 _ _ hbk; have Hbk := Lib.hid hbk; have HO7 := Lib.hid hO7; have HU7 := Lib.hid hU7; clear hbk hO7 hG7; refine Lib.wp_append_run _ _ _ 29 29 rfl (.slice Ac cl.length cp) (.slice (some ⟨w5.heap.size, 0, none⟩) 1 1) rfl rfl _ w7 hr ?_)
                first | (refine hK.out _ _ ?_ (fun hHeld => ?_)) | (go_wp2_with fail; refine hK.out _ _ ?_ (fun hHeld => ?_))
                · (try dsimp only); (first | ((repeat (first | with_reducible assumption | with_reducible apply up_alloc | with_reducible apply up_drewN | with_reducible apply up_drew | with_reducible apply up_set | (refine up_whole ?_ _ (by assumption)))); done) | (refine Up.pre hb1 ?_; ((repeat (first | with_reducible assumption | with_reducible apply up_alloc | with_reducible apply up_drewN | with_reducible apply up_drew)); done)))
                clear hK K
                (try simp only [Act.put, List.setIfInBounds_toArray, List.set_cons_zero, List.set_cons_succ])
                refine wpAnyH_take (i := 8) (oi := { dst := some 69, op := _, type := _, pos := _, after := _, guard := _ }) (v := ?_) rfl (by kernel_rfl) (by kernel_rfl) (by kernel_rfl) (fun _ _ _ h => h) (Or.inl ⟨by rfl, ?_⟩) (by assumption) ?_
                rotate_left
                · (intro w hSw; (try dsimp only at hSw); go_simp) <;> with_reducible rfl
                (try simp only [Act.put, List.setIfInBounds_toArray, List.set_cons_zero, List.set_cons_succ])
                refine wpAnyH_ready (rs := [9]) (by kernel_rfl) (by simp) ?_
                refine AllReadyH.cons (o := { dst := none, op := _, type := _, pos := _, after := _, guard := _ }) rfl (fun K hK => ?_) AllReadyH.nil
                go_simp
                first | (refine hK.out _ _ ?_ (fun hHeld => ?_)) | (go_wp2_with fail; refine hK.out _ _ ?_ (fun hHeld => ?_))
                · (try dsimp only); (first | ((repeat (first | with_reducible assumption | with_reducible apply up_alloc | with_reducible apply up_drewN | with_reducible apply up_drew | with_reducible apply up_set | (refine up_whole ?_ _ (by assumption)))); done) | (refine Up.pre hb1 ?_; ((repeat (first | with_reducible assumption | with_reducible apply up_alloc | with_reducible apply up_drewN | with_reducible apply up_drew)); done)))
                clear hK K
                (try simp only [Act.put, List.setIfInBounds_toArray, List.set_cons_zero, List.set_cons_succ])
                refine wpAnyH_done (by kernel_rfl) ?_ _
                (go_wp2; go_roundw; (case rel => (have hlc : (cl ++ [d]).length = cl.length + 1 := (by simp); have hg1 := set_grown w7 bo 16 (.slice A7 (cl ++ [d]).length c7); have hps := ctx_put_slice hvl Hbk.out A7 (cl ++ [d]) c7; rw [hlc] at hg1 hps; exact ⟨j + 1, A7, c7, cl ++ [d], by omega, by go_num, hps, by rw [hstep.out]; simp [Hok.out, Hv2.out], HO7.out.grown hg1 hbo, HU7.out.grown.trans hg1⟩)); (case measure => (simp [intOf]; omega)))
              refine AllReadyH.cons (o := { dst := some 67, op := _, type := _, pos := _, after := _, guard := _ }) rfl (fun K hK => ?_) AllReadyH.nil
              go_simp
              first | (refine hK.out _ _ ?_ (fun hHeld => ?_)) | (go_wp2_with fail; refine hK.out _ _ ?_ (fun hHeld => ?_))
              · (try dsimp only); (first | ((repeat (first | with_reducible assumption | with_reducible apply up_alloc | with_reducible apply up_drewN | with_reducible apply up_drew | with_reducible apply up_set | (refine up_whole ?_ _ (by assumption)))); done) | (refine Up.pre hb1 ?_; ((repeat (first | with_reducible assumption | with_reducible apply up_alloc | with_reducible apply up_drewN | with_reducible apply up_drew)); done)))
              clear hK K
              (try simp only [Act.put, List.setIfInBounds_toArray, List.set_cons_zero, List.set_cons_succ])
              refine wpAnyH_ready (rs := [1]) (by kernel_rfl) (by simp) ?_
              refine AllReadyH.cons (o := { dst := some 62, op := _, type := _, pos := _, after := _, guard := _ }) rfl (fun K hK => ?_) AllReadyH.nil
              go_simp
              first | (refine hK.out _ _ ?_ (fun hHeld => ?_)) | (go_wp2_with fail; refine hK.out _ _ ?_ (fun hHeld => ?_))
              · (try dsimp only); (first | ((repeat (first | with_reducible assumption | with_reducible apply up_alloc | with_reducible apply up_drewN | with_reducible apply up_drew | with_reducible apply up_set | (refine up_whole ?_ _ (by assumption)))); done) | (refine Up.pre hb1 ?_; ((repeat (first | with_reducible assumption | with_reducible apply up_alloc | with_reducible apply up_drewN | with_reducible apply up_drew)); done)))
              clear hK K
              (try simp only [Act.put, List.setIfInBounds_toArray, List.set_cons_zero, List.set_cons_succ])
              refine wpAnyH_ready (rs := [7]) (by kernel_rfl) (by simp) ?_
              refine AllReadyH.cons (o := { dst := some 68, op := _, type := _, pos := _, after := _, guard := _ }) rfl (fun K hK => ?_) AllReadyH.nil
              rw [if_pos (by rfl)]
              (obtain ⟨v7, w7, hr, hO7, hG7⟩ := run_appS (P := Tryz.prog) (W := (w5.alloc (Obj.cells #[Value.int IntKind.i64 d.r, Value.int IntKind.i64 d.n] 37)).drew) (base := w1.heap.size) encDot_len encDot_one (by omega) 29 29 37 _ 16 Tryz.underlying29 info_dot rfl (.slice Ac cl.length cp) cl [d] (some ⟨w5.heap.size, 0, none⟩) 1 1 rfl (HV.out.later (Hw5.out.trans (lat_drew (lat_alloc (Lat.refl _) _)))) (RdS.box (new_at w5 _)) (Nat.le_trans hs5 (lat_drew (lat_alloc (Lat.refl w5) _)).size) (by omega) (by omega); obtain ⟨A7, c7, hv7, _, _, _⟩ := Own.rd encDot_len hO7; subst hv7; have hU6 : Up w1 bo 31 17 (w5.alloc (Obj.cells #[Value.int IntKind.i64 d.r, Value.int IntKind.i64 d.n] 37)).drew := (by with_reducible assumption); have hU7 : Up w1 bo 31 17 w7 := Up.app hU6 hbo hG7 (fun i hi => Own.block_ge HV.out i hi); have hbk : w7.heap[bo]? = some (.cells (ctxCells ⟨vv, Ac, cp, cl⟩).toArray 31 (0, 0)) := (hG7.block bo (lt_of_block (Lat.block (lat_drew (lat_alloc (Lat.refl w5) _)) HO5.out)) (fun e => Nat.lt_irrefl _ (Nat.lt_of_lt_of_le hbo (Own.block_ge HV.out bo e.symm)))).trans (Lat.block (lat_drew (lat_alloc (Lat.refl w5) _)) HO5.out); have c16 := ctx_slice hvl hbk (Lat.refl w7); have f16 := frozen_of_row w7 bo 16 _ _ hbk; have Hbk := Lib.hid hbk; have HO7 := Lib.hid hO7; have HU7 := Lib.hid hU7; clear hbk hO7 hG7; refine Lib.wp_append_run _ _ _ 29 29 rfl (.slice Ac cl.length cp) (.slice (some ⟨w5.heap.size, 0, none⟩) 1 1) rfl rfl _ w7 hr ?_)
              first | (refine hK.out _ _ ?_ (fun hHeld => ?_)) | (go_wp2_with fail; refine hK.out _ _ ?_ (fun hHeld => ?_))
              · (try dsimp only); (first | ((repeat (first | with_reducible assumption | with_reducible apply up_alloc | with_reducible apply up_drewN | with_reducible apply up_drew | with_reducible apply up_set | (refine up_whole ?_ _ (by assumption)))); done) | (refine Up.pre hb1 ?_; ((repeat (first | with_reducible assumption | with_reducible apply up_alloc | with_reducible apply up_drewN | with_reducible apply up_drew)); done)))
              clear hK K
              (try simp only [Act.put, List.setIfInBounds_toArray, List.set_cons_zero, List.set_cons_succ])
              refine wpAnyH_take (i := 8) (oi := { dst := some 69, op := _, type := _, pos := _, after := _, guard := _ }) (v := ?_) rfl (by kernel_rfl) (by kernel_rfl) (by kernel_rfl) (fun _ _ _ h => h) (Or.inl ⟨by rfl, ?_⟩) (by assumption) ?_
              rotate_left
              · (intro w hSw; (try dsimp only at hSw); go_simp) <;> with_reducible rfl
              (try simp only [Act.put, List.setIfInBounds_toArray, List.set_cons_zero, List.set_cons_succ])
              refine wpAnyH_ready (rs := [9]) (by kernel_rfl) (by simp) ?_
              refine AllReadyH.cons (o := { dst := none, op := _, type := _, pos := _, after := _, guard := _ }) rfl (fun K hK => ?_) AllReadyH.nil
              go_simp
              first | (refine hK.out _ _ ?_ (fun hHeld => ?_)) | (go_wp2_with fail; refine hK.out _ _ ?_ (fun hHeld => ?_))
              · (try dsimp only); (first | ((repeat (first | with_reducible assumption | with_reducible apply up_alloc | with_reducible apply up_drewN | with_reducible apply up_drew | with_reducible apply up_set | (refine up_whole ?_ _ (by assumption)))); done) | (refine Up.pre hb1 ?_; ((repeat (first | with_reducible assumption | with_reducible apply up_alloc | with_reducible apply up_drewN | with_reducible apply up_drew)); done)))
              clear hK K
              (try simp only [Act.put, List.setIfInBounds_toArray, List.set_cons_zero, List.set_cons_succ])
              refine wpAnyH_done (by kernel_rfl) ?_ _
              (go_wp2; go_roundw; (case rel => (have hlc : (cl ++ [d]).length = cl.length + 1 := (by simp); have hg1 := set_grown w7 bo 16 (.slice A7 (cl ++ [d]).length c7); have hps := ctx_put_slice hvl Hbk.out A7 (cl ++ [d]) c7; rw [hlc] at hg1 hps; exact ⟨j + 1, A7, c7, cl ++ [d], by omega, by go_num, hps, by rw [hstep.out]; simp [Hok.out, Hv2.out], HO7.out.grown hg1 hbo, HU7.out.grown.trans hg1⟩)); (case measure => (simp [intOf]; omega)))
        · have hje : j = ds.length := by omega
          have hfin := Hcl2.out
          rw [hje, List.take_of_length_le (Nat.le_refl _)] at hfin
          have hly : (ctxCells ⟨vv, Ac, cp, cl⟩).length = 17 := ctxCells_len ⟨vv, Ac, cp, cl⟩ hvl
          have hZr : wr.heap[w.heap.size + 1]? = some (.cells Z.toArray 31 (0, 0)) := by rw [hG.block _ (by omega) (fun e => by injection e; omega)]; exact HZ2.out
          have HZr := Lib.hid hZr
          have Hfin := Lib.hid hfin
          clear hZr hfin hO hG
          go_wp2_with (first
            | ((with_reducible refine wpList_ld 31 (bo) (0) (ctxCells ⟨vv, Ac, cp, cl⟩) ?_ Tryz.underlying31 ?_ ?_ ?_ ?_ ?_); exact (range_of_block HO.out); rfl; (rw [hly]; kernel_rfl); rfl; rfl)
            | ((with_reducible refine wpList_st 31 (w.heap.size + 1) (0) (ctxCells ⟨vv, Ac, cp, cl⟩) ?_ ?_ ?_ ?_ ?_ ?_); exact (there_of_block HZr.out _ (by simp [hly, hzl])); (rw [hly]; kernel_rfl); exact (ctxCells_one ⟨vv, Ac, cp, cl⟩); rfl; rfl))
          (try simp only [Exit.inBlock, Exit.then])
          refine bodyPost_ret (results_cell rfl _ _ (w.heap.size + 1) rfl (ctxCells ⟨vv, Ac, cp, cl⟩) _ (range_of_block (block_whole HZr.out _ (by simp [hly, hzl]))) Tryz.underlying31 rfl (by rw [hly]; kernel_rfl)) rfl ?_
          have hLw : Lat w wr := lat_grown HL1.out HG.out (fun i hi => by injection hi; omega)
          exact ⟨⟨vv, Ac, cp, cl⟩, rfl, by rw [← Hcl.out, ← Hfin.out], (HV.out.grown (setCells_grown (w.heap.size + 1) (ctxCells ⟨vv, Ac, cp, cl⟩) 0 wr) (by omega)).base_le HL1.out.size, lat_setCells (by omega) _ _ hLw⟩
end Go.Proofs.YtgjffndpegjenaaGreat
