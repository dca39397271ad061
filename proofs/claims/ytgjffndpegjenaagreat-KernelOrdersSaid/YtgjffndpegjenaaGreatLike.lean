/-
  kernel.like, the function value that asks it, and slices.IndexFunc and ContainsFunc over it.
-/
import Derived.Test.YtgjffndpegjenaaGreatFind
import Derived.Test.YtgjffndpegjenaaGreatEq
import Derived.Outline
import Derived.Deep.QuietTactic
import Derived.BigQuiet
import Derived.WalkSpells
import Derived.WalkLawsBesides
import Derived.LoopTactic
import Derived.Lib.Hide
import Derived.Deep.RegionHeld3
import Derived.Deep.DeepCutAuto
set_option linter.unusedVariables false
set_option linter.unusedSimpArgs false
set_option linter.unusedSectionVars false
namespace Go.Proofs.YtgjffndpegjenaaGreat
open Go.RowKit
attribute [local go_sem] lat_alloc lat_drew lat_drewN Lat.refl
attribute [local go_sem high] eqIn_dot eqIn_stamp eqIn_fact

/-- Do two facts say the same of one update? -/
def likeB (a b : Fact) : Bool := decide (a.dot = b.dot ∧ a.kind = b.kind ∧ a.name = b.name ∧ a.value = b.value)

set_option maxHeartbeats 1000000 in
theorem kernel_like (a b : Fact) (w : World) : Calls Tryz.prog 195 #[.agg #[.int .i64 a.dot.r, .int .i64 a.dot.n, .int .i64 a.stamp.t, .int .i64 a.stamp.c, .int .i64 a.stamp.r, .int .i64 a.kind, .string a.name, .string a.value], .agg #[.int .i64 b.dot.r, .int .i64 b.dot.n, .int .i64 b.stamp.t, .int .i64 b.stamp.c, .int .i64 b.stamp.r, .int .i64 b.kind, .string b.name, .string b.value]] w fun e w' => e = .returned (.bool (likeB a b)) ∧ Lat w w' := by
  by_cases h3 : a.dot = b.dot
  · have t3 : decide (a.dot = b.dot) = true := by simp [h3]
    by_cases h2 : a.kind = b.kind
    · have t2 : (a.kind == b.kind) = true := by simp [h2]
      by_cases h1 : a.name = b.name
      · have t1 : (a.name.toList == b.name.toList) = true := by simp [h1]
        have Hv : Hid (likeB a b = (a.value.toList == b.value.toList)) := by
          unfold likeB
          rw [Bool.eq_iff_iff]
          simp only [h1, h2, h3, true_and, decide_eq_true_eq, beq_iff_eq]
          exact bytes_iff.symm
        clear h1 h2 h3
        go_enter Tryz.func195, Tryz.ntmps195
        go_wp2_with fail
        go_ret
        exact ⟨ret_bool Hv.out.symm, (by repeat (first | with_reducible exact Lat.refl _ | with_reducible assumption | with_reducible apply lat_alloc | with_reducible apply lat_drewN | with_reducible apply lat_drew))⟩
      · have t1 : (a.name.toList == b.name.toList) = false := by rw [beq_eq_false_iff_ne]; exact fun h => h1 (bytes_ext h)
        have Hv : Hid (likeB a b = false) := by unfold likeB; exact decide_eq_false (fun h => h1 h.2.2.1)
        clear h1 h2 h3
        go_enter Tryz.func195, Tryz.ntmps195
        go_wp2_with fail
        go_ret
        exact ⟨ret_bool Hv.out.symm, (by repeat (first | with_reducible exact Lat.refl _ | with_reducible assumption | with_reducible apply lat_alloc | with_reducible apply lat_drewN | with_reducible apply lat_drew))⟩
    · have t2 : (a.kind == b.kind) = false := by simpa using h2
      have Hv : Hid (likeB a b = false) := by unfold likeB; exact decide_eq_false (fun h => h2 h.2.1)
      clear h2 h3
      go_enter Tryz.func195, Tryz.ntmps195
      go_wp2_with fail
      go_ret
      exact ⟨ret_bool Hv.out.symm, (by repeat (first | with_reducible exact Lat.refl _ | with_reducible assumption | with_reducible apply lat_alloc | with_reducible apply lat_drewN | with_reducible apply lat_drew))⟩
  · have t3 : decide (a.dot = b.dot) = false := by simpa using h3
    have Hv : Hid (likeB a b = false) := by unfold likeB; exact decide_eq_false (fun h => h3 h.1)
    clear h3
    go_enter Tryz.func195, Tryz.ntmps195
    go_wp2_with fail
    go_ret
    exact ⟨ret_bool Hv.out.symm, (by repeat (first | with_reducible exact Lat.refl _ | with_reducible assumption | with_reducible apply lat_alloc | with_reducible apply lat_drewN | with_reducible apply lat_drew))⟩

theorem like_fn (x f : Fact) (g : Nat) (w : World) (hg : w.heap[g]? = some (.cells (encFact f).toArray 77 (0, 0))) :
    Calls Tryz.prog 194 #[.agg #[.int .i64 x.dot.r, .int .i64 x.dot.n, .int .i64 x.stamp.t, .int .i64 x.stamp.c, .int .i64 x.stamp.r, .int .i64 x.kind, .string x.name, .string x.value], .pointer (some ⟨g, 0, none⟩)] w fun e w' => e = .returned (.bool (likeB x f)) ∧ Lat w w' := by
  have HL := Lib.hid (kernel_like x f)
  have d0 := fun W (h : Lat w W) => h.cell hg 0 rfl
  have d1 := fun W (h : Lat w W) => h.cell hg 1 rfl
  have d2 := fun W (h : Lat w W) => h.cell hg 2 rfl
  have d3 := fun W (h : Lat w W) => h.cell hg 3 rfl
  have d4 := fun W (h : Lat w W) => h.cell hg 4 rfl
  have d5 := fun W (h : Lat w W) => h.cell hg 5 rfl
  have d6 := fun W (h : Lat w W) => h.cell hg 6 rfl
  have d7 := fun W (h : Lat w W) => h.cell hg 7 rfl
  clear hg
  go_enter Tryz.func194, Tryz.ntmps194
  go_upto_region 1 with (fail)
  have l0 : Lat w (w.alloc (Obj.cells #[.int .i64 x.dot.r, .int .i64 x.dot.n, .int .i64 x.stamp.t, .int .i64 x.stamp.c, .int .i64 x.stamp.r, .int .i64 x.kind, .string x.name, .string x.value] 77)) := (by repeat (first | with_reducible exact Lat.refl _ | with_reducible assumption | with_reducible apply lat_alloc | with_reducible apply lat_drewN | with_reducible apply lat_drew))
  have k0 := (new_at w (Obj.cells #[.int .i64 x.dot.r, .int .i64 x.dot.n, .int .i64 x.stamp.t, .int .i64 x.stamp.c, .int .i64 x.stamp.r, .int .i64 x.kind, .string x.name, .string x.value] 77))
  generalize (w.alloc (Obj.cells #[.int .i64 x.dot.r, .int .i64 x.dot.n, .int .i64 x.stamp.t, .int .i64 x.stamp.c, .int .i64 x.stamp.r, .int .i64 x.kind, .string x.name, .string x.value] 77)) = W0 at *
  have c0_0 : ∀ W, Lat W0 W → W.cell? ⟨w.heap.size, 0, none⟩ = some (.int .i64 x.dot.r) := fun W h => h.cell k0 0 rfl
  have c0_1 : ∀ W, Lat W0 W → W.cell? ⟨w.heap.size, 1, none⟩ = some (.int .i64 x.dot.n) := fun W h => h.cell k0 1 rfl
  have c0_2 : ∀ W, Lat W0 W → W.cell? ⟨w.heap.size, 2, none⟩ = some (.int .i64 x.stamp.t) := fun W h => h.cell k0 2 rfl
  have c0_3 : ∀ W, Lat W0 W → W.cell? ⟨w.heap.size, 3, none⟩ = some (.int .i64 x.stamp.c) := fun W h => h.cell k0 3 rfl
  have c0_4 : ∀ W, Lat W0 W → W.cell? ⟨w.heap.size, 4, none⟩ = some (.int .i64 x.stamp.r) := fun W h => h.cell k0 4 rfl
  have c0_5 : ∀ W, Lat W0 W → W.cell? ⟨w.heap.size, 5, none⟩ = some (.int .i64 x.kind) := fun W h => h.cell k0 5 rfl
  have c0_6 : ∀ W, Lat W0 W → W.cell? ⟨w.heap.size, 6, none⟩ = some (.string x.name) := fun W h => h.cell k0 6 rfl
  have c0_7 : ∀ W, Lat W0 W → W.cell? ⟨w.heap.size, 7, none⟩ = some (.string x.value) := fun W h => h.cell k0 7 rfl
  clear k0
  have hrefl := Lat.refl W0
  have e0 := fun W (h : Lat W0 W) => d0 W (l0.trans h)
  have e1 := fun W (h : Lat W0 W) => d1 W (l0.trans h)
  have e2 := fun W (h : Lat W0 W) => d2 W (l0.trans h)
  have e3 := fun W (h : Lat W0 W) => d3 W (l0.trans h)
  have e4 := fun W (h : Lat W0 W) => d4 W (l0.trans h)
  have e5 := fun W (h : Lat W0 W) => d5 W (l0.trans h)
  have e6 := fun W (h : Lat W0 W) => d6 W (l0.trans h)
  have e7 := fun W (h : Lat W0 W) => d7 W (l0.trans h)
  clear d0 d1 d2 d3 d4 d5 d6 d7
  go_wp2_with fail
  refine (HL.out _).mono ?_
  rintro e w1 ⟨rfl, hb1⟩
  go_wp2_with fail
  go_ret
  exact ⟨rfl, l0.trans (hb1.pre (by repeat (first | with_reducible exact Lat.refl _ | with_reducible assumption | with_reducible apply lat_alloc | with_reducible apply lat_drewN | with_reducible apply lat_drew)))⟩

theorem like_IndexFunc (A : Option Addr) (n c : Nat) (xs : List Fact) (hl : xs.length = n) (hn : n ≤ 1099511627776) (f : Fact) (g : Nat) (w : World) (hrd : RdS encFact 8 w A xs) (hg : w.heap[g]? = some (.cells (encFact f).toArray 77 (0, 0))) :
    Calls Tryz.prog 306 #[.slice A n c, .func (.func 194) #[] #[.pointer (some ⟨g, 0, none⟩)]] w fun e w' => ∃ i : Int, e = .returned (.int .i64 i) ∧ decide (i ≥ 0) = xs.any (likeB · f) ∧ Lat w w' := by
  have Hrd := Lib.hid hrd
  have HL := Lib.hid (fun x W (h : Lat w W) => like_fn x f g W (h.block hg))
  clear hrd hg
  go_enter Tryz.func306, Tryz.ntmps306
  go_wp2_with fail
  go_loopw [8] (fun i wr => ∃ k : Nat, k ≤ n ∧ i = .int .i64 k ∧ (xs.take k).any (likeB · f) = false ∧ Lat w wr) (fun i _ => n - (intOf i).toNat)
  case atStart => exact ⟨0, by omega, rfl, by simp, Lat.refl _⟩
  case round =>
    obtain ⟨k, hk, rfl, hnot, hlw⟩ := hrel
    by_cases hlt : k < n
    · have hx : xs[k]? = some (xs[k]'(by omega)) := List.getElem?_eq_getElem (by omega)
      have ht := List.take_succ_eq_append_getElem (l := xs) (i := k) (by omega)
      obtain ⟨b, o, rfl, hb, hr⟩ := Hrd.out.get k _ hx
      generalize xs[k]'(by omega) = x at *
      have cx0 : ∀ W, Lat w W → W.cell? ⟨b, o + k * 8, none⟩ = some (.int .i64 x.dot.r) := fun W h => hr W h 0 _ rfl
      have cx1 : ∀ W, Lat w W → W.cell? ⟨b, o + k * 8 + 1, none⟩ = some (.int .i64 x.dot.n) := fun W h => hr W h 1 _ rfl
      have cx2 : ∀ W, Lat w W → W.cell? ⟨b, o + k * 8 + 2, none⟩ = some (.int .i64 x.stamp.t) := fun W h => hr W h 2 _ rfl
      have cx3 : ∀ W, Lat w W → W.cell? ⟨b, o + k * 8 + 3, none⟩ = some (.int .i64 x.stamp.c) := fun W h => hr W h 3 _ rfl
      have cx4 : ∀ W, Lat w W → W.cell? ⟨b, o + k * 8 + 4, none⟩ = some (.int .i64 x.stamp.r) := fun W h => hr W h 4 _ rfl
      have cx5 : ∀ W, Lat w W → W.cell? ⟨b, o + k * 8 + 5, none⟩ = some (.int .i64 x.kind) := fun W h => hr W h 5 _ rfl
      have cx6 : ∀ W, Lat w W → W.cell? ⟨b, o + k * 8 + 6, none⟩ = some (.string x.name) := fun W h => hr W h 6 _ rfl
      have cx7 : ∀ W, Lat w W → W.cell? ⟨b, o + k * 8 + 7, none⟩ = some (.string x.value) := fun W h => hr W h 7 _ rfl
      have Ht := Lib.hid ht
      clear hx ht hr
      have hi0 : (0 : Int) ≤ (k : Int) := by omega
      have hi1 : (k : Int) < (n : Int) := by omega
      have Hnot := Lib.hid hnot
      clear hnot
      cases hd : likeB x f with
      | true =>
        have Hd := Lib.hid hd
        clear hd
        go_wp2_with fail
        refine (HL.out x _ (by ((repeat (first | with_reducible exact Lat.refl _ | with_reducible assumption | with_reducible apply lat_alloc | with_reducible apply lat_drewN | with_reducible apply lat_drew)); done))).mono ?_
        rintro e w1 ⟨rfl, hb1⟩
        rw [Hd.out]
        have hw1 : Lat w w1 := hlw.trans hb1
        go_wp2_with fail
        go_ret
        refine ⟨_, rfl, ?_, hw1⟩
        have hm : xs.any (likeB · f) = true := by
          rw [← List.take_append_drop (k + 1) xs, Ht.out]
          simp [Hd.out]
        rw [hm]
        simp
      | false =>
        have Hd := Lib.hid hd
        clear hd
        go_wp2_with fail
        refine (HL.out x _ (by ((repeat (first | with_reducible exact Lat.refl _ | with_reducible assumption | with_reducible apply lat_alloc | with_reducible apply lat_drewN | with_reducible apply lat_drew)); done))).mono ?_
        rintro e w1 ⟨rfl, hb1⟩
        rw [Hd.out]
        have hw1 : Lat w w1 := hlw.trans hb1
        go_wp2_with fail
        go_roundw
        case rel => exact ⟨k + 1, by omega, by go_num, by rw [Ht.out, List.any_append, Hnot.out]; simp [Hd.out], hw1⟩
        case measure => simp [intOf]; omega
    · go_wp2
      go_ret
      refine ⟨_, rfl, ?_, hlw⟩
      rw [List.take_of_length_le (by omega)] at hnot
      rw [hnot]
      simp

theorem like_ContainsFunc (A : Option Addr) (n c : Nat) (xs : List Fact) (hl : xs.length = n) (hn : n ≤ 1099511627776) (f : Fact) (g : Nat) (w : World) (hrd : RdS encFact 8 w A xs) (hg : w.heap[g]? = some (.cells (encFact f).toArray 77 (0, 0))) :
    Calls Tryz.prog 193 #[.slice A n c, .func (.func 194) #[] #[.pointer (some ⟨g, 0, none⟩)]] w fun e w' => e = .returned (.bool (xs.any (likeB · f))) ∧ Lat w w' := by
  have HI := Lib.hid (like_IndexFunc A n c xs hl hn f g w hrd hg)
  clear hrd hg
  go_enter Tryz.func193, Tryz.ntmps193
  go_wp2_with fail
  refine HI.out.mono ?_
  rintro e w1 ⟨i, rfl, hi, hb1⟩
  have Hi := Lib.hid hi
  clear hi
  go_wp2_with fail
  go_ret
  exact ⟨ret_bool Hi.out, hb1⟩
end Go.Proofs.YtgjffndpegjenaaGreat
