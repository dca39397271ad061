/-
  Vectors: is a dot there, the join, the check.
-/
import Derived.Test.YtgjffndpegjenaaGreatProg
import Derived.Test.YtgjffndpegjenaaGreatData
import Derived.Test.YtgjffndpegjenaaGreatGr
import Derived.Test.YtgjffndpegjenaaGreatEq
import Derived.Test.YtgjffndpegjenaaGreatDot
import Derived.Test.YtgjffndpegjenaaGreatRow
import Derived.Outline
import Derived.Deep.QuietTactic
import Derived.BigQuiet
import Derived.WalkSpells
import Derived.WalkLawsBesides
import Derived.LoopTactic
import Derived.Lib.Hide
import Derived.Deep.RegionHeld3
import Derived.Deep.DeepCutAuto
set_option linter.unusedVariables false
set_option linter.unusedSimpArgs false
set_option linter.unusedSectionVars false
namespace Go.Proofs.YtgjffndpegjenaaGreat
open Go.RowKit
attribute [local go_sem] lat_alloc lat_drew lat_drewN Lat.refl
attribute [local go_sem high] eqIn_dot eqIn_stamp eqIn_fact

def vHas (v : List Int) (d : Dot) : Bool := dotOk d && decide (d.n ≤ vget v d.r)
def vOk (v : List Int) : Bool := v.all fun n => decide (0 ≤ n ∧ n ≤ 1099511627776)
def vJoinTo (a b : List Int) (k : Nat) : List Int := (List.range 16).map fun j => if j < k then max (a.getD j 0) (b.getD j 0) else a.getD j 0
def vJoin (a b : List Int) : List Int := vJoinTo a b 16
theorem vJoinTo_len (a b : List Int) (k : Nat) : (vJoinTo a b k).length = 16 := by simp [vJoinTo]
theorem vJoinTo_zero (a b : List Int) (h : a.length = 16) : vJoinTo a b 0 = a := by
  apply List.ext_getElem
  · simp [vJoinTo, h]
  · intro i h1 h2
    simp [vJoinTo, List.getD_eq_getElem?_getD, List.getElem?_eq_getElem h2]
theorem vJoinTo_get (a b : List Int) (k j : Nat) (hj : j < 16) : (vJoinTo a b k).getD j 0 = if j < k then max (a.getD j 0) (b.getD j 0) else a.getD j 0 := by
  simp [vJoinTo, List.getD_eq_getElem?_getD, hj]
theorem vJoinTo_succ (a b : List Int) (k : Nat) (hk : k < 16) : (vJoinTo a b k).set k (max (a.getD k 0) (b.getD k 0)) = vJoinTo a b (k + 1) := by
  apply List.ext_getElem
  · simp [vJoinTo]
  · intro i h1 h2
    simp only [List.getElem_set, vJoinTo, List.getElem_map, List.getElem_range]
    by_cases h : k = i
    · subst h; simp
    · rw [if_neg h]
      by_cases h' : i < k
      · rw [if_pos h', if_pos (by omega)]
      · rw [if_neg h', if_neg (by omega)]

theorem vector_Has (v : List Int) (hv : v.length = 16) (d : Dot) (w : World) :
    Calls Tryz.prog 289 #[.agg (vcells v).toArray, .agg #[.int .i64 d.r, .int .i64 d.n]] w fun e w' => e = .returned (.bool (vHas v d)) ∧ Lat w w' := by
  by_cases hok : dotOk d = true
  · have hcon := fun w => dot_Check_yes d hok w
    obtain ⟨h1, h2, h3, h4⟩ := dotOk_iff.1 hok
    have Hcon := Lib.hid hcon
    have Hok := Lib.hid hok
    clear hcon hok
    have h2' : d.r < 16 := by omega
    go_enter Tryz.func289, Tryz.ntmps289
    go_upto_region 1 with (fail)
    have l0 : Lat w ((w.alloc (Obj.cells (vcells v).toArray 28)).alloc (Obj.cells #[.int .i64 d.r, .int .i64 d.n] 37)) := (by repeat (first | with_reducible exact Lat.refl _ | with_reducible assumption | with_reducible apply lat_alloc | with_reducible apply lat_drewN | with_reducible apply lat_drew))
    have k0 := (old_at (Obj.cells #[.int .i64 d.r, .int .i64 d.n] 37) (new_at w (Obj.cells (vcells v).toArray 28)))
    have k1 := (new2_at w (Obj.cells (vcells v).toArray 28) (Obj.cells #[.int .i64 d.r, .int .i64 d.n] 37))
    generalize ((w.alloc (Obj.cells (vcells v).toArray 28)).alloc (Obj.cells #[.int .i64 d.r, .int .i64 d.n] 37)) = W0 at *
    have c1_0 : ∀ W, Lat W0 W → W.cell? ⟨w.heap.size + 1, 0, none⟩ = some (.int .i64 d.r) := fun W h => h.cell k1 0 rfl
    have c1_1 : ∀ W, Lat W0 W → W.cell? ⟨w.heap.size + 1, 1, none⟩ = some (.int .i64 d.n) := fun W h => h.cell k1 1 rfl
    clear k1
    have hrefl := Lat.refl W0
    have c0 : ∀ W, Lat W0 W → W.cell? ⟨w.heap.size, d.r.toNat, none⟩ = some (.int .i64 (vget v d.r)) := fun W h => h.cell k0 _ (by simpa [vget] using vcells_get v d.r.toNat (by omega))
    clear k0
    go_region_held3 (fun W => Lat W0 W) (first | ((repeat (first | with_reducible exact Lat.refl _ | with_reducible assumption | with_reducible apply lat_alloc | with_reducible apply lat_drewN | with_reducible apply lat_drew)); done) | (refine hb1.pre ?_; ((repeat (first | with_reducible exact Lat.refl _ | with_reducible assumption | with_reducible apply lat_alloc | with_reducible apply lat_drewN | with_reducible apply lat_drew)); done))) (first | (go_at_call 256; refine (Hcon.out _).mono ?_; rintro e w' ⟨rfl, hb1⟩))
    go_wp2
    go_ret
    refine ⟨ret_bool ?_, l0.trans ‹_›⟩
    simp [vHas, Hok.out]
  · have hok : dotOk d = false := by simpa using hok
    have Hcon := Lib.hid (fun w => dot_Check_no d hok w)
    have Hok := Lib.hid hok
    clear hok
    go_enter Tryz.func289, Tryz.ntmps289
    go_upto_region 1 with (fail)
    have l0 : Lat w ((w.alloc (Obj.cells (vcells v).toArray 28)).alloc (Obj.cells #[.int .i64 d.r, .int .i64 d.n] 37)) := (by repeat (first | with_reducible exact Lat.refl _ | with_reducible assumption | with_reducible apply lat_alloc | with_reducible apply lat_drewN | with_reducible apply lat_drew))
    have k0 := (old_at (Obj.cells #[.int .i64 d.r, .int .i64 d.n] 37) (new_at w (Obj.cells (vcells v).toArray 28)))
    have k1 := (new2_at w (Obj.cells (vcells v).toArray 28) (Obj.cells #[.int .i64 d.r, .int .i64 d.n] 37))
    generalize ((w.alloc (Obj.cells (vcells v).toArray 28)).alloc (Obj.cells #[.int .i64 d.r, .int .i64 d.n] 37)) = W0 at *
    have c1_0 : ∀ W, Lat W0 W → W.cell? ⟨w.heap.size + 1, 0, none⟩ = some (.int .i64 d.r) := fun W h => h.cell k1 0 rfl
    have c1_1 : ∀ W, Lat W0 W → W.cell? ⟨w.heap.size + 1, 1, none⟩ = some (.int .i64 d.n) := fun W h => h.cell k1 1 rfl
    clear k1
    have hrefl := Lat.refl W0
    clear k0
    refine wp_region_held_drew (S := (fun W => Lat W0 W)) (by kernel_rfl) ?_ (fun hHeld => ?_)
    · (try dsimp only); (first | ((repeat (first | with_reducible exact Lat.refl _ | with_reducible assumption | with_reducible apply lat_alloc | with_reducible apply lat_drewN | with_reducible apply lat_drew)); done) | (refine hb1.pre ?_; ((repeat (first | with_reducible exact Lat.refl _ | with_reducible assumption | with_reducible apply lat_alloc | with_reducible apply lat_drewN | with_reducible apply lat_drew)); done)))
    refine wpAnyH_take (i := 0) (oi := { dst := some 5, op := _, type := _, pos := _, after := _, guard := _ }) (v := ?_) rfl (by kernel_rfl) (by kernel_rfl) (by kernel_rfl) (fun _ _ _ h => h) (Or.inl ⟨by rfl, ?_⟩) (by assumption) ?_
    rotate_left
    · (intro w hSw; (try dsimp only at hSw); go_simp) <;> with_reducible rfl
    (try simp only [Act.put, List.setIfInBounds_toArray, List.set_cons_zero, List.set_cons_succ])
    refine wpAnyH_ready (rs := [1]) (by kernel_rfl) (by simp) ?_
    refine AllReadyH.cons (o := { dst := some 6, op := _, type := _, pos := _, after := _, guard := _ }) rfl (fun K hK => ?_) AllReadyH.nil
    go_simp
    (go_at_call 256; refine (Hcon.out _).mono ?_; rintro e w' ⟨rfl, hb1⟩)
    first | (refine hK.out _ _ ?_ (fun hHeld => ?_)) | (go_wp2_with fail; refine hK.out _ _ ?_ (fun hHeld => ?_))
    · (try dsimp only); (first | ((repeat (first | with_reducible exact Lat.refl _ | with_reducible assumption | with_reducible apply lat_alloc | with_reducible apply lat_drewN | with_reducible apply lat_drew)); done) | (refine hb1.pre ?_; ((repeat (first | with_reducible exact Lat.refl _ | with_reducible assumption | with_reducible apply lat_alloc | with_reducible apply lat_drewN | with_reducible apply lat_drew)); done)))
    clear hK K
    (try simp only [Act.put, List.setIfInBounds_toArray, List.set_cons_zero, List.set_cons_succ])
    refine wpAnyH_take (i := 2) (oi := { dst := some 7, op := _, type := _, pos := _, after := _, guard := _ }) (v := ?_) rfl (by kernel_rfl) (by kernel_rfl) (by kernel_rfl) (fun _ _ _ h => h) (Or.inl ⟨by rfl, ?_⟩) (by assumption) ?_
    rotate_left
    · (intro w hSw; (try dsimp only at hSw); go_simp) <;> with_reducible rfl
    (try simp only [Act.put, List.setIfInBounds_toArray, List.set_cons_zero, List.set_cons_succ])
    refine wpAnyH_take (i := 3) (oi := { dst := some 8, op := _, type := _, pos := _, after := _, guard := _ }) (v := ?_) rfl (by kernel_rfl) (by kernel_rfl) (by kernel_rfl) (fun _ _ _ h => h) (Or.inl ⟨by rfl, ?_⟩) (by assumption) ?_
    rotate_left
    · (intro w hSw; (try dsimp only at hSw); go_simp) <;> with_reducible rfl
    (try simp only [Act.put, List.setIfInBounds_toArray, List.set_cons_zero, List.set_cons_succ])
    refine wpAnyH_take (i := 4) (oi := { dst := some 9, op := _, type := _, pos := _, after := _, guard := _ }) (v := undef) rfl (by kernel_rfl) (by kernel_rfl) (by kernel_rfl) (fun _ _ _ h => h) (Or.inr ⟨by rfl, rfl⟩) (by assumption) ?_
    (try simp only [Act.put, List.setIfInBounds_toArray, List.set_cons_zero, List.set_cons_succ])
    refine wpAnyH_take (i := 5) (oi := { dst := some 10, op := _, type := _, pos := _, after := _, guard := _ }) (v := undef) rfl (by kernel_rfl) (by kernel_rfl) (by kernel_rfl) (fun _ _ _ h => h) (Or.inr ⟨by rfl, rfl⟩) (by assumption) ?_
    (try simp only [Act.put, List.setIfInBounds_toArray, List.set_cons_zero, List.set_cons_succ])
    refine wpAnyH_take (i := 6) (oi := { dst := some 11, op := _, type := _, pos := _, after := _, guard := _ }) (v := undef) rfl (by kernel_rfl) (by kernel_rfl) (by kernel_rfl) (fun _ _ _ h => h) (Or.inr ⟨by rfl, rfl⟩) (by assumption) ?_
    (try simp only [Act.put, List.setIfInBounds_toArray, List.set_cons_zero, List.set_cons_succ])
    refine wpAnyH_take (i := 7) (oi := { dst := some 12, op := _, type := _, pos := _, after := _, guard := _ }) (v := undef) rfl (by kernel_rfl) (by kernel_rfl) (by kernel_rfl) (fun _ _ _ h => h) (Or.inr ⟨by rfl, rfl⟩) (by assumption) ?_
    (try simp only [Act.put, List.setIfInBounds_toArray, List.set_cons_zero, List.set_cons_succ])
    refine wpAnyH_take (i := 8) (oi := { dst := some 13, op := _, type := _, pos := _, after := _, guard := _ }) (v := undef) rfl (by kernel_rfl) (by kernel_rfl) (by kernel_rfl) (fun _ _ _ h => h) (Or.inr ⟨by rfl, rfl⟩) (by assumption) ?_
    (try simp only [Act.put, List.setIfInBounds_toArray, List.set_cons_zero, List.set_cons_succ])
    refine wpAnyH_take (i := 9) (oi := { dst := some 14, op := _, type := _, pos := _, after := _, guard := _ }) (v := undef) rfl (by kernel_rfl) (by kernel_rfl) (by kernel_rfl) (fun _ _ _ h => h) (Or.inr ⟨by rfl, rfl⟩) (by assumption) ?_
    (try simp only [Act.put, List.setIfInBounds_toArray, List.set_cons_zero, List.set_cons_succ])
    refine wpAnyH_take (i := 10) (oi := { dst := some 15, op := _, type := _, pos := _, after := _, guard := _ }) (v := undef) rfl (by kernel_rfl) (by kernel_rfl) (by kernel_rfl) (fun _ _ _ h => h) (Or.inr ⟨by rfl, rfl⟩) (by assumption) ?_
    (try simp only [Act.put, List.setIfInBounds_toArray, List.set_cons_zero, List.set_cons_succ])
    refine wpAnyH_take (i := 11) (oi := { dst := some 16, op := _, type := _, pos := _, after := _, guard := _ }) (v := ?_) rfl (by kernel_rfl) (by kernel_rfl) (by kernel_rfl) (fun _ _ _ h => h) (Or.inl ⟨by rfl, ?_⟩) (by assumption) ?_
    rotate_left
    · (intro w hSw; (try dsimp only at hSw); go_simp) <;> with_reducible rfl
    (try simp only [Act.put, List.setIfInBounds_toArray, List.set_cons_zero, List.set_cons_succ])
    refine wpAnyH_take (i := 12) (oi := { dst := some 4, op := _, type := _, pos := _, after := _, guard := _ }) (v := ?_) rfl (by kernel_rfl) (by kernel_rfl) (by kernel_rfl) (fun _ _ _ h => h) (Or.inl ⟨by rfl, ?_⟩) (by assumption) ?_
    rotate_left
    · (intro w hSw; (try dsimp only at hSw); go_simp) <;> with_reducible rfl
    (try simp only [Act.put, List.setIfInBounds_toArray, List.set_cons_zero, List.set_cons_succ])
    refine wpAnyH_done (by kernel_rfl) ?_ _
    go_wp2
    go_ret
    refine ⟨ret_bool ?_, l0.trans ‹_›⟩
    simp [vHas, Hok.out]

theorem vector_Join (a b : List Int) (ha : a.length = 16) (hb : b.length = 16) (w : World) :
    Calls Tryz.prog 308 #[.agg (vcells a).toArray, .agg (vcells b).toArray] w fun e w' => e = .returned (.agg (vcells (vJoin a b)).toArray) ∧ Lat w w' := by
  have hla : (vcells a).length = 16 := by rw [vcells_len, ha]
  have hlb : (vcells b).length = 16 := by rw [vcells_len, hb]
  go_enter Tryz.func308, Tryz.ntmps308
  go_upto_region 1 with (fail)
  have l0 : Lat w (((w.alloc (Obj.cells (vcells a).toArray 28)).alloc (Obj.cells (vcells b).toArray 28)).alloc (Obj.cells #[Value.int IntKind.i64 0, Value.int IntKind.i64 0, Value.int IntKind.i64 0, Value.int IntKind.i64 0, Value.int IntKind.i64 0, Value.int IntKind.i64 0, Value.int IntKind.i64 0, Value.int IntKind.i64 0, Value.int IntKind.i64 0, Value.int IntKind.i64 0, Value.int IntKind.i64 0, Value.int IntKind.i64 0, Value.int IntKind.i64 0, Value.int IntKind.i64 0, Value.int IntKind.i64 0, Value.int IntKind.i64 0] 28)) := (by repeat (first | with_reducible exact Lat.refl _ | with_reducible assumption | with_reducible apply lat_alloc | with_reducible apply lat_drewN | with_reducible apply lat_drew))
  have k0 := (old_at (Obj.cells #[Value.int IntKind.i64 0, Value.int IntKind.i64 0, Value.int IntKind.i64 0, Value.int IntKind.i64 0, Value.int IntKind.i64 0, Value.int IntKind.i64 0, Value.int IntKind.i64 0, Value.int IntKind.i64 0, Value.int IntKind.i64 0, Value.int IntKind.i64 0, Value.int IntKind.i64 0, Value.int IntKind.i64 0, Value.int IntKind.i64 0, Value.int IntKind.i64 0, Value.int IntKind.i64 0, Value.int IntKind.i64 0] 28) (old_at (Obj.cells (vcells b).toArray 28) (new_at w (Obj.cells (vcells a).toArray 28))))
  have k1 := (old_at (Obj.cells #[Value.int IntKind.i64 0, Value.int IntKind.i64 0, Value.int IntKind.i64 0, Value.int IntKind.i64 0, Value.int IntKind.i64 0, Value.int IntKind.i64 0, Value.int IntKind.i64 0, Value.int IntKind.i64 0, Value.int IntKind.i64 0, Value.int IntKind.i64 0, Value.int IntKind.i64 0, Value.int IntKind.i64 0, Value.int IntKind.i64 0, Value.int IntKind.i64 0, Value.int IntKind.i64 0, Value.int IntKind.i64 0] 28) (new2_at w (Obj.cells (vcells a).toArray 28) (Obj.cells (vcells b).toArray 28)))
  have k2 := (new3_at w (Obj.cells (vcells a).toArray 28) (Obj.cells (vcells b).toArray 28) (Obj.cells #[Value.int IntKind.i64 0, Value.int IntKind.i64 0, Value.int IntKind.i64 0, Value.int IntKind.i64 0, Value.int IntKind.i64 0, Value.int IntKind.i64 0, Value.int IntKind.i64 0, Value.int IntKind.i64 0, Value.int IntKind.i64 0, Value.int IntKind.i64 0, Value.int IntKind.i64 0, Value.int IntKind.i64 0, Value.int IntKind.i64 0, Value.int IntKind.i64 0, Value.int IntKind.i64 0, Value.int IntKind.i64 0] 28))
  generalize (((w.alloc (Obj.cells (vcells a).toArray 28)).alloc (Obj.cells (vcells b).toArray 28)).alloc (Obj.cells #[Value.int IntKind.i64 0, Value.int IntKind.i64 0, Value.int IntKind.i64 0, Value.int IntKind.i64 0, Value.int IntKind.i64 0, Value.int IntKind.i64 0, Value.int IntKind.i64 0, Value.int IntKind.i64 0, Value.int IntKind.i64 0, Value.int IntKind.i64 0, Value.int IntKind.i64 0, Value.int IntKind.i64 0, Value.int IntKind.i64 0, Value.int IntKind.i64 0, Value.int IntKind.i64 0, Value.int IntKind.i64 0] 28)) = W0 at *
  have hrefl := Lat.refl W0
  generalize hz : (#[Value.int IntKind.i64 0, Value.int IntKind.i64 0, Value.int IntKind.i64 0, Value.int IntKind.i64 0, Value.int IntKind.i64 0, Value.int IntKind.i64 0, Value.int IntKind.i64 0, Value.int IntKind.i64 0, Value.int IntKind.i64 0, Value.int IntKind.i64 0, Value.int IntKind.i64 0, Value.int IntKind.i64 0, Value.int IntKind.i64 0, Value.int IntKind.i64 0, Value.int IntKind.i64 0, Value.int IntKind.i64 0] : Array Value) = Z at k2
  have hzs : Z.size = 16 := by rw [← hz]; rfl
  clear hz
  go_wp2_with (refine wpList_load_mid rfl _ _ rfl (w.heap.size + 1) 0 rfl (vcells b) _ (range_of_block k1) Tryz.underlying28 rfl (by rw [hlb]; kernel_rfl) ?_)
  go_loopw [8] (fun i wr => ∃ k : Nat, k ≤ 16 ∧ i = .int .i64 k ∧ wr.heap[w.heap.size]? = some (.cells (vcells (vJoinTo a b k)).toArray 28 (0, 0)) ∧ wr.heap[w.heap.size + 2]? = some (.cells Z 28 (0, 0)) ∧ Lat w wr) (fun i _ => 16 - (intOf i).toNat)
  case atStart => exact ⟨0, by omega, rfl, by rw [vJoinTo_zero a b ha]; exact k0, k2, l0⟩
  case round =>
    obtain ⟨k, hk, rfl, hA, hR, hL⟩ := hrel
    by_cases hlt : k < 16
    · have hi0 : (0 : Int) ≤ (k : Int) := by omega
      have hi1 : (k : Int) < 16 := by omega
      have hix := run_index_vec (P := Tryz.prog) b hb k hlt Tryz.underlying28 Tryz.isAgg3 Tryz.sizeOf3
      have cA : wr.cell? ⟨w.heap.size, k, none⟩ = some (.int .i64 (a.getD k 0)) := by
        rw [cell_of_row wr _ k _ _ _ hA]
        have := vcells_get (vJoinTo a b k) k (by rw [vJoinTo_len]; exact hlt)
        rw [vJoinTo_get a b k k hlt, if_neg (by omega)] at this
        simpa using this
      have fA : wr.frozen? ⟨w.heap.size, k, none⟩ = false := frozen_of_row wr _ _ _ _ hA
      have HA := Lib.hid hA
      have HR := Lib.hid hR
      have HL := Lib.hid hL
      generalize hma : a.getD k 0 = ak at *
      generalize hmb : b.getD k 0 = bk at *
      have Hma := Lib.hid hma
      have Hmb := Lib.hid hmb
      clear hA hR hL hma hmb
      go_wp2
      go_roundw
      case rel =>
        refine ⟨k + 1, by omega, by go_num, ?_, ?_, lat_set HL.out (p := ⟨w.heap.size, k, none⟩) (Nat.le_refl _) _⟩
        · have h1 := vec_put HA.out k (max ak bk)
          have h2 := vJoinTo_succ a b k hlt
          rw [Hma.out, Hmb.out] at h2
          rwa [h2] at h1
        · rw [heap_setCell_other wr ⟨w.heap.size, k, none⟩ _ _ (by simp)]
          exact HR.out
      case measure => simp [intOf]; omega
    · obtain rfl : k = 16 := by omega
      have hlj : (vcells (vJoinTo a b 16)).length = 16 := by rw [vcells_len, vJoinTo_len]
      have HA := Lib.hid hA
      have HR := Lib.hid hR
      have HL := Lib.hid hL
      clear hA hR hL
      go_wp2_with (first
        | (refine wpList_load_mid rfl _ _ rfl w.heap.size 0 rfl (vcells (vJoinTo a b 16)) _ (range_of_block HA.out) Tryz.underlying28 rfl (by rw [hlj]; kernel_rfl) ?_)
        | (refine wpList_store_mid rfl _ _ _ rfl (w.heap.size + 2) 0 (vcells (vJoinTo a b 16)).toArray rfl rfl (there_of_block HR.out _ (by simp [hlj, hzs])) (by simp only [List.size_toArray, hlj]; kernel_rfl) (all_oneCell_toArray (vcells_one _)) ?_))
      (try simp only [Exit.inBlock, Exit.then])
      refine bodyPost_ret (results_cell rfl _ _ (w.heap.size + 2) rfl (vcells (vJoinTo a b 16)) _ (range_of_block (block_whole HR.out _ (by simp [hlj, hzs]))) Tryz.underlying28 rfl (by rw [hlj]; kernel_rfl)) rfl ?_
      exact ⟨rfl, lat_setCells (Nat.le_add_right _ _) _ _ HL.out⟩
end Go.Proofs.YtgjffndpegjenaaGreat
