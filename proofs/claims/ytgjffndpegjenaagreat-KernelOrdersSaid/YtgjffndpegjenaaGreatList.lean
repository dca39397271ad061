/-
  The references' small functions on lists of dots and of facts: is it there, are they the same, sorted each once. (Written by wip/tools/gen_list.py.)
-/
import Derived.Test.YtgjffndpegjenaaGreatProg
import Derived.Test.YtgjffndpegjenaaGreatData
import Derived.Test.YtgjffndpegjenaaGreatGr
import Derived.Test.YtgjffndpegjenaaGreatEq
import Derived.Test.YtgjffndpegjenaaGreatDot
import Derived.Outline
import Derived.Deep.QuietTactic
import Derived.BigQuiet
import Derived.WalkSpells
import Derived.WalkLawsBesides
import Derived.LoopTactic
import Derived.Lib.Hide
import Derived.Deep.RegionHeld3
import Derived.Deep.DeepCutAuto
namespace Go.Proofs.YtgjffndpegjenaaGreat
open Go.RowKit
set_option linter.unusedVariables false
attribute [local go_sem] lat_alloc lat_drew lat_drewN Lat.refl
attribute [local go_sem high] eqIn_dot eqIn_stamp eqIn_fact

theorem almonryref11_In (A : Option Addr) (n c : Nat) (xs : List Dot) (hl : xs.length = n) (hn : n ≤ 1099511627776) (y : Dot) (w : World) (hrd : RdS encDot 2 w A xs) :
    Calls Tryz.prog 56 #[.slice A n c, .agg #[.int .i64 y.r, .int .i64 y.n]] w fun e w' => e = .returned (.bool (decide (y ∈ xs))) ∧ Lat w w' := by
  have Hrd := Lib.hid hrd
  clear hrd
  go_enter Tryz.func56, Tryz.ntmps56
  go_upto_region 1 with (fail)
  have l0 : Lat w (w.alloc (Obj.cells #[.int .i64 y.r, .int .i64 y.n] 37)) := (by repeat (first | with_reducible exact Lat.refl _ | with_reducible assumption | with_reducible apply lat_alloc | with_reducible apply lat_drewN | with_reducible apply lat_drew))
  have k0 := (new_at w (Obj.cells #[.int .i64 y.r, .int .i64 y.n] 37))
  generalize (w.alloc (Obj.cells #[.int .i64 y.r, .int .i64 y.n] 37)) = W0 at *
  have c0_0 : ∀ W, Lat W0 W → W.cell? ⟨w.heap.size, 0, none⟩ = some (.int .i64 y.r) := fun W h => h.cell k0 0 rfl
  have c0_1 : ∀ W, Lat W0 W → W.cell? ⟨w.heap.size, 1, none⟩ = some (.int .i64 y.n) := fun W h => h.cell k0 1 rfl
  clear k0
  have hrefl := Lat.refl W0
  go_wp2_with fail
  go_loopw [5, 4] (fun i f wr => ∃ k : Nat, k ≤ n ∧ i = .int .i64 k ∧ f = .bool false ∧ y ∉ xs.take k ∧ Lat W0 wr) (fun i _ _ => n - (intOf i).toNat)
  case atStart => exact ⟨0, by omega, rfl, rfl, by simp, Lat.refl _⟩
  case round =>
    obtain ⟨k, hk, rfl, rfl, hnot, hlw⟩ := hrel
    by_cases hlt : k < n
    · have hx : xs[k]? = some (xs[k]'(by omega)) := List.getElem?_eq_getElem (by omega)
      have ht := List.take_succ_eq_append_getElem (l := xs) (i := k) (by omega)
      obtain ⟨b, o, rfl, hb, hr⟩ := Hrd.out.get k _ hx
      generalize xs[k]'(by omega) = x at *
      have cx0 : ∀ W, Lat W0 W → W.cell? ⟨b, o + k * 2, none⟩ = some (.int .i64 x.r) := fun W h => hr W (l0.trans h) 0 _ rfl
      have cx1 : ∀ W, Lat W0 W → W.cell? ⟨b, o + k * 2 + 1, none⟩ = some (.int .i64 x.n) := fun W h => hr W (l0.trans h) 1 _ rfl
      have Ht := Lib.hid ht
      clear hx ht hr
      have hi0 : (0 : Int) ≤ (k : Int) := by omega
      have hi1 : (k : Int) < (n : Int) := by omega
      have Hnot := Lib.hid hnot
      clear hnot
      go_wp2_with fail
      have hlw' := lat_drew hlw
      go_region_held3 (fun W => Lat W0 W) (first | ((repeat (first | with_reducible exact Lat.refl _ | with_reducible assumption | with_reducible apply lat_alloc | with_reducible apply lat_drewN | with_reducible apply lat_drew)); done) | (refine hb1.pre ?_; ((repeat (first | with_reducible exact Lat.refl _ | with_reducible assumption | with_reducible apply lat_alloc | with_reducible apply lat_drewN | with_reducible apply lat_drew)); done))) (fail)
      by_cases hxy : x = y
      · have hd : decide (x = y) = true := by simpa using hxy
        have Hxy := Lib.hid hxy
        clear hxy
        go_wp2
        go_ret
        refine ⟨ret_bool ?_, l0.trans ‹_›⟩
        have hm : y ∈ xs := List.mem_of_mem_take (i := k + 1) (by rw [Ht.out, Hxy.out]; simp)
        simp [hm]
      · have hd : decide (x = y) = false := by simpa using hxy
        have Hxy := Lib.hid hxy
        clear hxy
        go_wp2
        go_roundw
        case rel => exact ⟨k + 1, by omega, by go_num, rfl, by rw [Ht.out]; simp only [List.mem_append, List.mem_singleton, not_or]; exact ⟨Hnot.out, fun h => Hxy.out h.symm⟩, ‹_›⟩
        case measure => simp [intOf]; omega
    · go_wp2
      go_ret
      refine ⟨ret_bool ?_, l0.trans hlw⟩
      have hm : y ∉ xs := by rwa [List.take_of_length_le (by omega)] at hnot
      simp [hm]

theorem almonryref11_Same (A : Option Addr) (n c : Nat) (xs : List Dot) (hl : xs.length = n) (hn : n ≤ 1099511627776) (A' : Option Addr) (n' c' : Nat) (ys : List Dot) (hl' : ys.length = n') (hn' : n' ≤ 1099511627776) (w : World) (hrd : RdS encDot 2 w A xs) (hrd' : RdS encDot 2 w A' ys) :
    Calls Tryz.prog 90 #[.slice A n c, .slice A' n' c'] w fun e w' => e = .returned (.bool (decide (xs = ys))) ∧ Lat w w' := by
  have Hrd := Lib.hid hrd
  have Hrd' := Lib.hid hrd'
  clear hrd hrd'
  have hrefl := Lat.refl w
  by_cases hnn : n = n'
  · have hnn' : (n != n') = false := by simp [hnn]
    have hnd : decide (n = n') = true := by simp [hnn]
    have Hnn := Lib.hid hnn
    clear hnn
    go_enter Tryz.func90, Tryz.ntmps90
    go_wp2_with fail
    go_loopw [5, 4] (fun i f wr => ∃ k : Nat, k ≤ n ∧ i = .int .i64 k ∧ f = .bool false ∧ xs.take k = ys.take k ∧ Lat w wr) (fun i _ _ => n - (intOf i).toNat)
    case atStart => exact ⟨0, by omega, rfl, rfl, by simp, Lat.refl _⟩
    case round =>
      obtain ⟨k, hk, rfl, rfl, hsame, hlw⟩ := hrel
      have Hsame := Lib.hid hsame
      clear hsame
      by_cases hlt : k < n
      · have hlt' : k < n' := by have := Hnn.out; omega
        have hx : xs[k]? = some (xs[k]'(by omega)) := List.getElem?_eq_getElem (by omega)
        have hy : ys[k]? = some (ys[k]'(by omega)) := List.getElem?_eq_getElem (by omega)
        have ht := List.take_succ_eq_append_getElem (l := xs) (i := k) (by omega)
        have ht' := List.take_succ_eq_append_getElem (l := ys) (i := k) (by omega)
        obtain ⟨b, o, rfl, hb, hr⟩ := Hrd.out.get k _ hx
        obtain ⟨b', o', rfl, hb', hr'⟩ := Hrd'.out.get k _ hy
        generalize xs[k]'(by omega) = x at *
        generalize ys[k]'(by omega) = y at *
        have cx0 : ∀ W, Lat w W → W.cell? ⟨b, o + k * 2, none⟩ = some (.int .i64 x.r) := fun W h => hr W (h) 0 _ rfl
        have cx1 : ∀ W, Lat w W → W.cell? ⟨b, o + k * 2 + 1, none⟩ = some (.int .i64 x.n) := fun W h => hr W (h) 1 _ rfl
        have cy0 : ∀ W, Lat w W → W.cell? ⟨b', o' + k * 2, none⟩ = some (.int .i64 y.r) := fun W h => hr' W (h) 0 _ rfl
        have cy1 : ∀ W, Lat w W → W.cell? ⟨b', o' + k * 2 + 1, none⟩ = some (.int .i64 y.n) := fun W h => hr' W (h) 1 _ rfl
        have Ht := Lib.hid ht
        have Ht' := Lib.hid ht'
        have Hx := Lib.hid hx
        have Hy := Lib.hid hy
        clear hx ht hr hy ht' hr'
        have hi0 : (0 : Int) ≤ (k : Int) := by omega
        have hi1 : (k : Int) < (n : Int) := by omega
        have hi1' : (k : Int) < (n' : Int) := by omega
        have hlw' := lat_drew hlw
        by_cases hxy : x = y
        · have hd : decide (x = y) = true := by simpa using hxy
          have Hxy := Lib.hid hxy
          clear hxy
          go_wp2_with fail
          go_region_held3 (fun W => Lat w W) (first | ((repeat (first | with_reducible exact Lat.refl _ | with_reducible assumption | with_reducible apply lat_alloc | with_reducible apply lat_drewN | with_reducible apply lat_drew)); done) | (refine hb1.pre ?_; ((repeat (first | with_reducible exact Lat.refl _ | with_reducible assumption | with_reducible apply lat_alloc | with_reducible apply lat_drewN | with_reducible apply lat_drew)); done))) (fail)
          go_wp2
          go_roundw
          case rel => exact ⟨k + 1, by omega, by go_num, rfl, by rw [Ht.out, Ht'.out, Hsame.out, Hxy.out], ‹_›⟩
          case measure => simp [intOf]; omega
        · have hd : decide (x = y) = false := by simpa using hxy
          have Hxy := Lib.hid hxy
          clear hxy
          go_wp2_with fail
          go_region_held3 (fun W => Lat w W) (first | ((repeat (first | with_reducible exact Lat.refl _ | with_reducible assumption | with_reducible apply lat_alloc | with_reducible apply lat_drewN | with_reducible apply lat_drew)); done) | (refine hb1.pre ?_; ((repeat (first | with_reducible exact Lat.refl _ | with_reducible assumption | with_reducible apply lat_alloc | with_reducible apply lat_drewN | with_reducible apply lat_drew)); done))) (fail)
          go_wp2
          go_ret
          refine ⟨ret_bool ?_, ‹_›⟩
          symm
          apply decide_eq_false
          intro h
          apply Hxy.out
          have h1 := Hx.out
          rw [h, Hy.out] at h1
          injection h1 with h1
          exact h1.symm
      · go_wp2
        go_ret
        refine ⟨ret_bool ?_, hlw⟩
        have h := Hsame.out
        have := Hnn.out
        rw [List.take_of_length_le (by omega), List.take_of_length_le (by omega)] at h
        simp [h]
  · have hnn' : (n != n') = true := by simp [hnn]
    have hnd : decide (n = n') = false := by simp [hnn]
    have Hnn := Lib.hid hnn
    clear hnn
    go_enter Tryz.func90, Tryz.ntmps90
    go_wp2_with fail
    go_ret
    refine ⟨ret_bool ?_, Lat.refl _⟩
    symm
    apply decide_eq_false
    rintro rfl
    exact Hnn.out (by omega)

theorem almonryref15_In (A : Option Addr) (n c : Nat) (xs : List Fact) (hl : xs.length = n) (hn : n ≤ 1099511627776) (y : Fact) (w : World) (hrd : RdS encFact 8 w A xs) :
    Calls Tryz.prog 88 #[.slice A n c, .agg #[.int .i64 y.dot.r, .int .i64 y.dot.n, .int .i64 y.stamp.t, .int .i64 y.stamp.c, .int .i64 y.stamp.r, .int .i64 y.kind, .string y.name, .string y.value]] w fun e w' => e = .returned (.bool (decide (y ∈ xs))) ∧ Lat w w' := by
  have Hrd := Lib.hid hrd
  clear hrd
  go_enter Tryz.func88, Tryz.ntmps88
  go_upto_region 1 with (fail)
  have l0 : Lat w (w.alloc (Obj.cells #[.int .i64 y.dot.r, .int .i64 y.dot.n, .int .i64 y.stamp.t, .int .i64 y.stamp.c, .int .i64 y.stamp.r, .int .i64 y.kind, .string y.name, .string y.value] 77)) := (by repeat (first | with_reducible exact Lat.refl _ | with_reducible assumption | with_reducible apply lat_alloc | with_reducible apply lat_drewN | with_reducible apply lat_drew))
  have k0 := (new_at w (Obj.cells #[.int .i64 y.dot.r, .int .i64 y.dot.n, .int .i64 y.stamp.t, .int .i64 y.stamp.c, .int .i64 y.stamp.r, .int .i64 y.kind, .string y.name, .string y.value] 77))
  generalize (w.alloc (Obj.cells #[.int .i64 y.dot.r, .int .i64 y.dot.n, .int .i64 y.stamp.t, .int .i64 y.stamp.c, .int .i64 y.stamp.r, .int .i64 y.kind, .string y.name, .string y.value] 77)) = W0 at *
  have c0_0 : ∀ W, Lat W0 W → W.cell? ⟨w.heap.size, 0, none⟩ = some (.int .i64 y.dot.r) := fun W h => h.cell k0 0 rfl
  have c0_1 : ∀ W, Lat W0 W → W.cell? ⟨w.heap.size, 1, none⟩ = some (.int .i64 y.dot.n) := fun W h => h.cell k0 1 rfl
  have c0_2 : ∀ W, Lat W0 W → W.cell? ⟨w.heap.size, 2, none⟩ = some (.int .i64 y.stamp.t) := fun W h => h.cell k0 2 rfl
  have c0_3 : ∀ W, Lat W0 W → W.cell? ⟨w.heap.size, 3, none⟩ = some (.int .i64 y.stamp.c) := fun W h => h.cell k0 3 rfl
  have c0_4 : ∀ W, Lat W0 W → W.cell? ⟨w.heap.size, 4, none⟩ = some (.int .i64 y.stamp.r) := fun W h => h.cell k0 4 rfl
  have c0_5 : ∀ W, Lat W0 W → W.cell? ⟨w.heap.size, 5, none⟩ = some (.int .i64 y.kind) := fun W h => h.cell k0 5 rfl
  have c0_6 : ∀ W, Lat W0 W → W.cell? ⟨w.heap.size, 6, none⟩ = some (.string y.name) := fun W h => h.cell k0 6 rfl
  have c0_7 : ∀ W, Lat W0 W → W.cell? ⟨w.heap.size, 7, none⟩ = some (.string y.value) := fun W h => h.cell k0 7 rfl
  clear k0
  have hrefl := Lat.refl W0
  go_wp2_with fail
  go_loopw [5, 4] (fun i f wr => ∃ k : Nat, k ≤ n ∧ i = .int .i64 k ∧ f = .bool false ∧ y ∉ xs.take k ∧ Lat W0 wr) (fun i _ _ => n - (intOf i).toNat)
  case atStart => exact ⟨0, by omega, rfl, rfl, by simp, Lat.refl _⟩
  case round =>
    obtain ⟨k, hk, rfl, rfl, hnot, hlw⟩ := hrel
    by_cases hlt : k < n
    · have hx : xs[k]? = some (xs[k]'(by omega)) := List.getElem?_eq_getElem (by omega)
      have ht := List.take_succ_eq_append_getElem (l := xs) (i := k) (by omega)
      obtain ⟨b, o, rfl, hb, hr⟩ := Hrd.out.get k _ hx
      generalize xs[k]'(by omega) = x at *
      have cx0 : ∀ W, Lat W0 W → W.cell? ⟨b, o + k * 8, none⟩ = some (.int .i64 x.dot.r) := fun W h => hr W (l0.trans h) 0 _ rfl
      have cx1 : ∀ W, Lat W0 W → W.cell? ⟨b, o + k * 8 + 1, none⟩ = some (.int .i64 x.dot.n) := fun W h => hr W (l0.trans h) 1 _ rfl
      have cx2 : ∀ W, Lat W0 W → W.cell? ⟨b, o + k * 8 + 2, none⟩ = some (.int .i64 x.stamp.t) := fun W h => hr W (l0.trans h) 2 _ rfl
      have cx3 : ∀ W, Lat W0 W → W.cell? ⟨b, o + k * 8 + 3, none⟩ = some (.int .i64 x.stamp.c) := fun W h => hr W (l0.trans h) 3 _ rfl
      have cx4 : ∀ W, Lat W0 W → W.cell? ⟨b, o + k * 8 + 4, none⟩ = some (.int .i64 x.stamp.r) := fun W h => hr W (l0.trans h) 4 _ rfl
      have cx5 : ∀ W, Lat W0 W → W.cell? ⟨b, o + k * 8 + 5, none⟩ = some (.int .i64 x.kind) := fun W h => hr W (l0.trans h) 5 _ rfl
      have cx6 : ∀ W, Lat W0 W → W.cell? ⟨b, o + k * 8 + 6, none⟩ = some (.string x.name) := fun W h => hr W (l0.trans h) 6 _ rfl
      have cx7 : ∀ W, Lat W0 W → W.cell? ⟨b, o + k * 8 + 7, none⟩ = some (.string x.value) := fun W h => hr W (l0.trans h) 7 _ rfl
      have Ht := Lib.hid ht
      clear hx ht hr
      have hi0 : (0 : Int) ≤ (k : Int) := by omega
      have hi1 : (k : Int) < (n : Int) := by omega
      have Hnot := Lib.hid hnot
      clear hnot
      go_wp2_with fail
      have hlw' := lat_drew hlw
      go_region_held3 (fun W => Lat W0 W) (first | ((repeat (first | with_reducible exact Lat.refl _ | with_reducible assumption | with_reducible apply lat_alloc | with_reducible apply lat_drewN | with_reducible apply lat_drew)); done) | (refine hb1.pre ?_; ((repeat (first | with_reducible exact Lat.refl _ | with_reducible assumption | with_reducible apply lat_alloc | with_reducible apply lat_drewN | with_reducible apply lat_drew)); done))) (fail)
      by_cases hxy : x = y
      · have hd : decide (x = y) = true := by simpa using hxy
        have Hxy := Lib.hid hxy
        clear hxy
        go_wp2
        go_ret
        refine ⟨ret_bool ?_, l0.trans ‹_›⟩
        have hm : y ∈ xs := List.mem_of_mem_take (i := k + 1) (by rw [Ht.out, Hxy.out]; simp)
        simp [hm]
      · have hd : decide (x = y) = false := by simpa using hxy
        have Hxy := Lib.hid hxy
        clear hxy
        go_wp2
        go_roundw
        case rel => exact ⟨k + 1, by omega, by go_num, rfl, by rw [Ht.out]; simp only [List.mem_append, List.mem_singleton, not_or]; exact ⟨Hnot.out, fun h => Hxy.out h.symm⟩, ‹_›⟩
        case measure => simp [intOf]; omega
    · go_wp2
      go_ret
      refine ⟨ret_bool ?_, l0.trans hlw⟩
      have hm : y ∉ xs := by rwa [List.take_of_length_le (by omega)] at hnot
      simp [hm]

theorem almonryref15_Same (A : Option Addr) (n c : Nat) (xs : List Fact) (hl : xs.length = n) (hn : n ≤ 1099511627776) (A' : Option Addr) (n' c' : Nat) (ys : List Fact) (hl' : ys.length = n') (hn' : n' ≤ 1099511627776) (w : World) (hrd : RdS encFact 8 w A xs) (hrd' : RdS encFact 8 w A' ys) :
    Calls Tryz.prog 23 #[.slice A n c, .slice A' n' c'] w fun e w' => e = .returned (.bool (decide (xs = ys))) ∧ Lat w w' := by
  have Hrd := Lib.hid hrd
  have Hrd' := Lib.hid hrd'
  clear hrd hrd'
  have hrefl := Lat.refl w
  by_cases hnn : n = n'
  · have hnn' : (n != n') = false := by simp [hnn]
    have hnd : decide (n = n') = true := by simp [hnn]
    have Hnn := Lib.hid hnn
    clear hnn
    go_enter Tryz.func23, Tryz.ntmps23
    go_wp2_with fail
    go_loopw [5, 4] (fun i f wr => ∃ k : Nat, k ≤ n ∧ i = .int .i64 k ∧ f = .bool false ∧ xs.take k = ys.take k ∧ Lat w wr) (fun i _ _ => n - (intOf i).toNat)
    case atStart => exact ⟨0, by omega, rfl, rfl, by simp, Lat.refl _⟩
    case round =>
      obtain ⟨k, hk, rfl, rfl, hsame, hlw⟩ := hrel
      have Hsame := Lib.hid hsame
      clear hsame
      by_cases hlt : k < n
      · have hlt' : k < n' := by have := Hnn.out; omega
        have hx : xs[k]? = some (xs[k]'(by omega)) := List.getElem?_eq_getElem (by omega)
        have hy : ys[k]? = some (ys[k]'(by omega)) := List.getElem?_eq_getElem (by omega)
        have ht := List.take_succ_eq_append_getElem (l := xs) (i := k) (by omega)
        have ht' := List.take_succ_eq_append_getElem (l := ys) (i := k) (by omega)
        obtain ⟨b, o, rfl, hb, hr⟩ := Hrd.out.get k _ hx
        obtain ⟨b', o', rfl, hb', hr'⟩ := Hrd'.out.get k _ hy
        generalize xs[k]'(by omega) = x at *
        generalize ys[k]'(by omega) = y at *
        have cx0 : ∀ W, Lat w W → W.cell? ⟨b, o + k * 8, none⟩ = some (.int .i64 x.dot.r) := fun W h => hr W (h) 0 _ rfl
        have cx1 : ∀ W, Lat w W → W.cell? ⟨b, o + k * 8 + 1, none⟩ = some (.int .i64 x.dot.n) := fun W h => hr W (h) 1 _ rfl
        have cx2 : ∀ W, Lat w W → W.cell? ⟨b, o + k * 8 + 2, none⟩ = some (.int .i64 x.stamp.t) := fun W h => hr W (h) 2 _ rfl
        have cx3 : ∀ W, Lat w W → W.cell? ⟨b, o + k * 8 + 3, none⟩ = some (.int .i64 x.stamp.c) := fun W h => hr W (h) 3 _ rfl
        have cx4 : ∀ W, Lat w W → W.cell? ⟨b, o + k * 8 + 4, none⟩ = some (.int .i64 x.stamp.r) := fun W h => hr W (h) 4 _ rfl
        have cx5 : ∀ W, Lat w W → W.cell? ⟨b, o + k * 8 + 5, none⟩ = some (.int .i64 x.kind) := fun W h => hr W (h) 5 _ rfl
        have cx6 : ∀ W, Lat w W → W.cell? ⟨b, o + k * 8 + 6, none⟩ = some (.string x.name) := fun W h => hr W (h) 6 _ rfl
        have cx7 : ∀ W, Lat w W → W.cell? ⟨b, o + k * 8 + 7, none⟩ = some (.string x.value) := fun W h => hr W (h) 7 _ rfl
        have cy0 : ∀ W, Lat w W → W.cell? ⟨b', o' + k * 8, none⟩ = some (.int .i64 y.dot.r) := fun W h => hr' W (h) 0 _ rfl
        have cy1 : ∀ W, Lat w W → W.cell? ⟨b', o' + k * 8 + 1, none⟩ = some (.int .i64 y.dot.n) := fun W h => hr' W (h) 1 _ rfl
        have cy2 : ∀ W, Lat w W → W.cell? ⟨b', o' + k * 8 + 2, none⟩ = some (.int .i64 y.stamp.t) := fun W h => hr' W (h) 2 _ rfl
        have cy3 : ∀ W, Lat w W → W.cell? ⟨b', o' + k * 8 + 3, none⟩ = some (.int .i64 y.stamp.c) := fun W h => hr' W (h) 3 _ rfl
        have cy4 : ∀ W, Lat w W → W.cell? ⟨b', o' + k * 8 + 4, none⟩ = some (.int .i64 y.stamp.r) := fun W h => hr' W (h) 4 _ rfl
        have cy5 : ∀ W, Lat w W → W.cell? ⟨b', o' + k * 8 + 5, none⟩ = some (.int .i64 y.kind) := fun W h => hr' W (h) 5 _ rfl
        have cy6 : ∀ W, Lat w W → W.cell? ⟨b', o' + k * 8 + 6, none⟩ = some (.string y.name) := fun W h => hr' W (h) 6 _ rfl
        have cy7 : ∀ W, Lat w W → W.cell? ⟨b', o' + k * 8 + 7, none⟩ = some (.string y.value) := fun W h => hr' W (h) 7 _ rfl
        have Ht := Lib.hid ht
        have Ht' := Lib.hid ht'
        have Hx := Lib.hid hx
        have Hy := Lib.hid hy
        clear hx ht hr hy ht' hr'
        have hi0 : (0 : Int) ≤ (k : Int) := by omega
        have hi1 : (k : Int) < (n : Int) := by omega
        have hi1' : (k : Int) < (n' : Int) := by omega
        have hlw' := lat_drew hlw
        by_cases hxy : x = y
        · have hd : decide (x = y) = true := by simpa using hxy
          have Hxy := Lib.hid hxy
          clear hxy
          go_wp2_with fail
          go_region_held3 (fun W => Lat w W) (first | ((repeat (first | with_reducible exact Lat.refl _ | with_reducible assumption | with_reducible apply lat_alloc | with_reducible apply lat_drewN | with_reducible apply lat_drew)); done) | (refine hb1.pre ?_; ((repeat (first | with_reducible exact Lat.refl _ | with_reducible assumption | with_reducible apply lat_alloc | with_reducible apply lat_drewN | with_reducible apply lat_drew)); done))) (fail)
          go_wp2
          go_roundw
          case rel => exact ⟨k + 1, by omega, by go_num, rfl, by rw [Ht.out, Ht'.out, Hsame.out, Hxy.out], ‹_›⟩
          case measure => simp [intOf]; omega
        · have hd : decide (x = y) = false := by simpa using hxy
          have Hxy := Lib.hid hxy
          clear hxy
          go_wp2_with fail
          go_region_held3 (fun W => Lat w W) (first | ((repeat (first | with_reducible exact Lat.refl _ | with_reducible assumption | with_reducible apply lat_alloc | with_reducible apply lat_drewN | with_reducible apply lat_drew)); done) | (refine hb1.pre ?_; ((repeat (first | with_reducible exact Lat.refl _ | with_reducible assumption | with_reducible apply lat_alloc | with_reducible apply lat_drewN | with_reducible apply lat_drew)); done))) (fail)
          go_wp2
          go_ret
          refine ⟨ret_bool ?_, ‹_›⟩
          symm
          apply decide_eq_false
          intro h
          apply Hxy.out
          have h1 := Hx.out
          rw [h, Hy.out] at h1
          injection h1 with h1
          exact h1.symm
      · go_wp2
        go_ret
        refine ⟨ret_bool ?_, hlw⟩
        have h := Hsame.out
        have := Hnn.out
        rw [List.take_of_length_le (by omega), List.take_of_length_le (by omega)] at h
        simp [h]
  · have hnn' : (n != n') = true := by simp [hnn]
    have hnd : decide (n = n') = false := by simp [hnn]
    have Hnn := Lib.hid hnn
    clear hnn
    go_enter Tryz.func23, Tryz.ntmps23
    go_wp2_with fail
    go_ret
    refine ⟨ret_bool ?_, Lat.refl _⟩
    symm
    apply decide_eq_false
    rintro rfl
    exact Hnn.out (by omega)
end Go.Proofs.YtgjffndpegjenaaGreat
