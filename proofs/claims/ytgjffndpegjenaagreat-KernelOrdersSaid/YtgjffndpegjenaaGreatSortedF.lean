/-
  The library's Clone, SortFunc and Compact at dots and at facts, and the program's two Sorts: each element once, rising. (Written by wip/tools/gen_sorted.py.)
-/
import Derived.Test.YtgjffndpegjenaaGreatSortLay
import Derived.Test.YtgjffndpegjenaaGreatSorts
import Derived.Test.YtgjffndpegjenaaGreatOrder
import Derived.Test.YtgjffndpegjenaaGreatCmp
import Derived.Test.YtgjffndpegjenaaGreatDot
import Derived.Test.YtgjffndpegjenaaGreatRow
import Derived.Outline
import Derived.Deep.QuietTactic
import Derived.BigQuiet
import Derived.WalkSpells
import Derived.WalkLawsBesides
import Derived.LoopTactic
import Derived.Lib.Hide
import Derived.Deep.RegionHeld3
import Derived.Deep.DeepCutAuto
set_option linter.unusedVariables false
set_option linter.unusedSimpArgs false
set_option linter.unusedSectionVars false
namespace Go.Proofs.YtgjffndpegjenaaGreat
open Go.RowKit Go.Sort
attribute [local go_sem] lat_alloc lat_drew lat_drewN Lat.refl
attribute [local go_sem high] eqIn_dot eqIn_stamp eqIn_fact
set_option maxHeartbeats 1000000

theorem fact_SortFunc {base : Nat} (v : Value) (xs : List Fact) (w : World) (HO : Own encFact 8 77 base w v xs) (hn : xs.length ≤ 1099511627776) :
    Calls Tryz.prog 251 #[v, .func (.func 252) #[] #[]] w fun e w' => e = .returned (.tuple #[]) ∧ ∃ ys, ys.Perm xs ∧ (ys.Pairwise fun a b => factLt b a = false) ∧ Own encFact 8 77 base w' v ys ∧ w.grownBy w' v.ownBlock := by
  rcases Nat.eq_zero_or_pos xs.length with h0 | h0
  · obtain rfl : xs = [] := List.eq_nil_of_length_eq_zero h0
    obtain ⟨A, c, rfl, _, _, _⟩ := Own.rd encFact_len HO
    have hcon := AnyF.slices_SortFunc_none sortFact A c (.func (.func 252) #[] #[]) w
    refine Calls.mono hcon fun e w' ⟨he, hw⟩ => ⟨he, [], List.Perm.refl _, List.Pairwise.nil, ?_, ?_⟩
    · rw [hw]; exact HO
    · rw [hw]; exact World.grownBy.refl _ _
  · obtain ⟨g, cap, rfl, hb, hg⟩ := World.ownsRow.form HO h0
    have eg : ∀ args w, (callFunc 252 args).run Tryz.prog w = .ok (.enter 252 args) w := enters_of Tryz.func252 (by kernel_rfl) rfl
    have hcmp : CmpLays Tryz.prog 252 #[] encFact 8 ordFact g 0 xs.toArray.size w := fun m os dk _ x y => (fact_order x y _).mono fun e w' ⟨he, hw⟩ => ⟨he, hw.out⟩
    have hcon := AnyQ.slices_SortFunc sortFact 8 Tryz.isAgg77 Tryz.sizeOf77 encFact encFact_len encFact_one ordFact (by rw [ltOf_fact]; exact sto_fact.swo) 252 #[] g 0 cap xs.toArray w eg hcmp (holdsK_of_own encFact_len (by omega) HO) hg (by simp; omega)
    refine Calls.mono hcon fun e w' ⟨he, d', n, os, hp, hs, hw⟩ => ⟨he, d'.toList, ?_, ?_, ?_⟩
    · have h : (List.take xs.length d'.toList).Perm xs := by simpa [hp.1] using hp.2.2
      have hs := hp.1
      rw [List.take_of_length_le (by simp at hs ⊢; omega)] at h
      exact h
    · rw [ltOf_fact] at hs
      rw [List.pairwise_iff_getElem]
      intro i j hi hj hij
      have := hs i j (Nat.zero_le _) hij (by have := hp.1; simp at hj; omega)
      rw [getElem!_pos d' i (by simpa using hi), getElem!_pos d' j (by simpa using hj)] at this
      simpa using this
    · obtain ⟨h1, h2⟩ := own_sorted encFact_len (by omega) HO d'.toList (by have := hp.1; simpa using this) n os
      rw [hw]
      exact ⟨h1, h2⟩

theorem fact_Clone (A : Option Addr) (n c : Nat) (xs : List Fact) (hl : xs.length = n) (hn : n ≤ 1099511627776) (w : World) (hrd : RdS encFact 8 w A xs) :
    Calls Tryz.prog 179 #[.slice A n c] w fun e w' => ∃ v, e = .returned v ∧ Own encFact 8 77 w.heap.size w' v xs ∧ Lat w w' := by
  have Hrd := Lib.hid hrd
  clear hrd
  cases A with
  | none =>
    have hx : xs = [] := by
      cases xs with
      | nil => rfl
      | cons y ys => obtain ⟨b, o, h, _⟩ := Hrd.out (by simp); cases h
    subst hx
    simp only [List.length_nil] at hl
    subst hl
    have he := fun W => Lib.run_eql_slice_nil (P := Tryz.prog) W 26 77 none 0 c 0 0 Tryz.underlying26
    go_enter Tryz.func179, Tryz.ntmps179
    go_wp2_with fail
    go_ret
    exact ⟨_, rfl, Own.nil _ _ _ _ _, Lat.refl _⟩
  | some ad =>
    have he := fun W => Lib.run_eql_slice_nil (P := Tryz.prog) W 26 77 (some ad) n c 0 0 Tryz.underlying26
    go_enter Tryz.func179, Tryz.ntmps179
    go_wp2_with ((at_builtin; go_must (refine appS encFact_len encFact_one (by omega) (w0 := w) rfl _ _ 26 77 _ 80 rfl Tryz.underlying26 info_fact rfl (.slice (some ⟨w.heap.size, 0, none⟩) 0 0) [] xs (some ad) n c hl rfl rfl (Own.empty _ _ _ _ _ (Nat.le_refl _)) (Hrd.out.later (lat_alloc (Lat.refl _) _)) (lat_alloc (Lat.refl _) _) (by simp; omega) (by simp; omega) ?_; intro v1 w1 hO1 hL1)))
    go_ret
    exact ⟨_, rfl, by simpa using hO1, hL1⟩

theorem fact_Compact {base : Nat} (v : Value) (xs : List Fact) (w : World) (HO : Own encFact 8 77 base w v xs) (hn : xs.length ≤ 1099511627776) :
    Calls Tryz.prog 253 #[v] w fun e w' => ∃ v', e = .returned v' ∧ Own encFact 8 77 base w' v' (compact xs) ∧ w.grownBy w' v.ownBlock := by
  obtain ⟨A, cap, rfl, hlc, hcm, _⟩ := Own.rd encFact_len HO
  have HOh := Lib.hid HO
  clear HO
  by_cases hlt2 : xs.length < 2
  · generalize hl : xs.length = n at *
    go_enter Tryz.func253, Tryz.ntmps253
    go_wp2_with fail
    go_ret
    refine ⟨_, rfl, ?_, World.grownBy.refl _ _⟩
    have hc : compact xs = xs := by
      match xs, hl with
      | [], _ => rfl
      | [x], _ => rfl
      | x :: y :: l, hl => simp at hl; omega
    have := HOh.out
    rw [← hl] at this
    rwa [hc]
  obtain ⟨g, cap', hv, hb, hg⟩ := World.ownsRow.form HOh.out (by omega)
  injection hv with hA _ hcap
  subst hA
  subst hcap
  have hob : Value.ownBlock (.slice (some ⟨g, 0, none⟩) xs.length cap) = some g := rfl
  rw [hob]
  generalize hl : xs.length = n at *
  go_enter Tryz.func253, Tryz.ntmps253
  go_wp2_with fail
  go_loopw [3] (fun s3 wr => ∃ k : Nat, 1 ≤ k ∧ k ≤ n ∧ s3 = .int .i64 k ∧ compact (xs.take k) = xs.take k ∧ Lat w wr) (fun i _ => n - (intOf i).toNat)
  case atStart => exact ⟨1, Nat.le_refl _, by omega, rfl, compact_one xs (by omega), Lat.refl _⟩
  case round =>
    obtain ⟨k, hk1, hk, rfl, hcomp, hlw⟩ := hrel
    have Hcomp := Lib.hid hcomp
    have Hlw := Lib.hid hlw
    clear hcomp hlw
    have hrefl := Lat.refl wr
    by_cases hlt : k < n
    · have hi0 : (0 : Int) ≤ (k : Int) := by omega
      have hi1 : (k : Int) < (n : Int) := by omega
      have hi2 : (0 : Int) ≤ (k : Int) - 1 := by omega
      have hi3 : (k : Int) - 1 < (n : Int) := by omega
      have hx : xs[k]? = some (xs[k]'(by omega)) := List.getElem?_eq_getElem (by omega)
      have hy : xs[k - 1]? = some (xs[k - 1]'(by omega)) := List.getElem?_eq_getElem (by omega)
      have Hown : Own encFact 8 77 base wr (.slice (some ⟨g, 0, none⟩) n cap) xs := Own.later HOh.out Hlw.out
      have hw1 : IntKind.i64.wrap ((k : Int) - 1) = ((k - 1 : Nat) : Int) := by rw [IntKind.wrap_i64]; omega
      have hi4 : (0 : Int) ≤ ((k - 1 : Nat) : Int) := by omega
      have hi5 : ((k - 1 : Nat) : Int) < (n : Int) := by omega
      by_cases hxy : xs[k - 1]'(by omega) = xs[k]'(by omega)
      · have Hstart := Lib.hid (CompU.start (xs := xs) (k := k) (by omega) (by omega) Hcomp.out hxy)
        rw [hxy] at hy
        clear hxy
        generalize xs[k]'(by omega) = x at hx hy
        have cx0 : ∀ W, Lat wr W → W.cell? ⟨g, k * 8, none⟩ = some (.int .i64 x.dot.r) := fun W h => h.range (own_get encFact_len (by omega) hl Hown k x hx) 0 _ rfl
        have cx1 : ∀ W, Lat wr W → W.cell? ⟨g, k * 8 + 1, none⟩ = some (.int .i64 x.dot.n) := fun W h => h.range (own_get encFact_len (by omega) hl Hown k x hx) 1 _ rfl
        have cx2 : ∀ W, Lat wr W → W.cell? ⟨g, k * 8 + 2, none⟩ = some (.int .i64 x.stamp.t) := fun W h => h.range (own_get encFact_len (by omega) hl Hown k x hx) 2 _ rfl
        have cx3 : ∀ W, Lat wr W → W.cell? ⟨g, k * 8 + 3, none⟩ = some (.int .i64 x.stamp.c) := fun W h => h.range (own_get encFact_len (by omega) hl Hown k x hx) 3 _ rfl
        have cx4 : ∀ W, Lat wr W → W.cell? ⟨g, k * 8 + 4, none⟩ = some (.int .i64 x.stamp.r) := fun W h => h.range (own_get encFact_len (by omega) hl Hown k x hx) 4 _ rfl
        have cx5 : ∀ W, Lat wr W → W.cell? ⟨g, k * 8 + 5, none⟩ = some (.int .i64 x.kind) := fun W h => h.range (own_get encFact_len (by omega) hl Hown k x hx) 5 _ rfl
        have cx6 : ∀ W, Lat wr W → W.cell? ⟨g, k * 8 + 6, none⟩ = some (.string x.name) := fun W h => h.range (own_get encFact_len (by omega) hl Hown k x hx) 6 _ rfl
        have cx7 : ∀ W, Lat wr W → W.cell? ⟨g, k * 8 + 7, none⟩ = some (.string x.value) := fun W h => h.range (own_get encFact_len (by omega) hl Hown k x hx) 7 _ rfl
        have cy0 : ∀ W, Lat wr W → W.cell? ⟨g, (k - 1) * 8, none⟩ = some (.int .i64 x.dot.r) := fun W h => h.range (own_get encFact_len (by omega) hl Hown (k - 1) x hy) 0 _ rfl
        have cy1 : ∀ W, Lat wr W → W.cell? ⟨g, (k - 1) * 8 + 1, none⟩ = some (.int .i64 x.dot.n) := fun W h => h.range (own_get encFact_len (by omega) hl Hown (k - 1) x hy) 1 _ rfl
        have cy2 : ∀ W, Lat wr W → W.cell? ⟨g, (k - 1) * 8 + 2, none⟩ = some (.int .i64 x.stamp.t) := fun W h => h.range (own_get encFact_len (by omega) hl Hown (k - 1) x hy) 2 _ rfl
        have cy3 : ∀ W, Lat wr W → W.cell? ⟨g, (k - 1) * 8 + 3, none⟩ = some (.int .i64 x.stamp.c) := fun W h => h.range (own_get encFact_len (by omega) hl Hown (k - 1) x hy) 3 _ rfl
        have cy4 : ∀ W, Lat wr W → W.cell? ⟨g, (k - 1) * 8 + 4, none⟩ = some (.int .i64 x.stamp.r) := fun W h => h.range (own_get encFact_len (by omega) hl Hown (k - 1) x hy) 4 _ rfl
        have cy5 : ∀ W, Lat wr W → W.cell? ⟨g, (k - 1) * 8 + 5, none⟩ = some (.int .i64 x.kind) := fun W h => h.range (own_get encFact_len (by omega) hl Hown (k - 1) x hy) 5 _ rfl
        have cy6 : ∀ W, Lat wr W → W.cell? ⟨g, (k - 1) * 8 + 6, none⟩ = some (.string x.name) := fun W h => h.range (own_get encFact_len (by omega) hl Hown (k - 1) x hy) 6 _ rfl
        have cy7 : ∀ W, Lat wr W → W.cell? ⟨g, (k - 1) * 8 + 7, none⟩ = some (.string x.value) := fun W h => h.range (own_get encFact_len (by omega) hl Hown (k - 1) x hy) 7 _ rfl
        have Hown2 := Lib.hid Hown
        clear hx hy Hown
        have hd : decide (x = x) = true := by simp
        go_wp2_with fail
        go_region_held3 (fun W => Lat wr W) (first | ((repeat (first | with_reducible exact Lat.refl _ | with_reducible assumption | with_reducible apply lat_alloc | with_reducible apply lat_drewN | with_reducible apply lat_drew)); done) | (refine hb1.pre ?_; ((repeat (first | with_reducible exact Lat.refl _ | with_reducible assumption | with_reducible apply lat_alloc | with_reducible apply lat_drewN | with_reducible apply lat_drew)); done))) (fail)
        rename_i W1 hW1
        have HW1 := Lib.hid hW1
        clear hW1
        go_wp2
        go_loopw [3, 5] (fun s3 s5 wr2 => ∃ (kk k2 : Nat) (ys : List Fact), s3 = .int .i64 kk ∧ s5 = .int .i64 k2 ∧ 1 ≤ k2 ∧ k + k2 ≤ n ∧ CompU xs (k + k2) kk ys ∧ Own encFact 8 77 base wr2 (.slice (some ⟨g, 0, none⟩) n cap) ys ∧ w.grownBy wr2 (some g)) (fun _ i _ => n - (k + (intOf i).toNat))
        case atStart => exact ⟨k, 1, xs, rfl, rfl, Nat.le_refl _, by omega, Hstart.out, Hown2.out.later HW1.out, (Lat.grown Hlw.out _).trans (Lat.grown HW1.out _)⟩
        case round =>
          obtain ⟨kk, k2, ys, rfl, rfl, h21, h2n, hC, hO, hG⟩ := hrel
          have hyl : ys.length = n := by have := hC.len; omega
          have hkk := hC.lt
          have hkp := hC.pos
          have HC := Lib.hid hC
          have HG := Lib.hid hG
          clear hC hG
          have hrefl2 := Lat.refl wr
          have hj0 : (0 : Int) ≤ (k2 : Int) := by omega
          have hj2 : (0 : Int) ≤ (kk : Int) := by omega
          have hj3 : (kk : Int) < (n : Int) := by omega
          by_cases hlt3 : k2 < n - k
          · have hj1 : (k2 : Int) < ((n - k : Nat) : Int) := by omega
            have hw2 : IntKind.i64.wrap ((k2 : Int) - 1) = ((k2 - 1 : Nat) : Int) := by rw [IntKind.wrap_i64]; omega
            have hj4 : (0 : Int) ≤ ((k2 - 1 : Nat) : Int) := by omega
            have hj5 : ((k2 - 1 : Nat) : Int) < ((n - k : Nat) : Int) := by omega
            have hu : xs[k + k2]? = some (xs[k + k2]'(by omega)) := List.getElem?_eq_getElem (by omega)
            have hv : xs[k + k2 - 1]? = some (xs[k + k2 - 1]'(by omega)) := List.getElem?_eq_getElem (by omega)
            have hu' := (HC.out.get (k + k2) (by omega)).trans hu
            have hv' := (HC.out.get (k + k2 - 1) (by omega)).trans hv
            have hkeep : xs[k + k2 - 1]'(by omega) ≠ xs[k + k2]'(by omega) → CompU xs (k + k2 + 1) (kk + 1) (ys.set kk (xs[k + k2]'(by omega))) := HC.out.keep (by omega)
            have hskip : xs[k + k2 - 1]'(by omega) = xs[k + k2]'(by omega) → CompU xs (k + k2 + 1) kk ys := HC.out.skip (by omega)
            generalize xs[k + k2]'(by omega) = u at *
            generalize xs[k + k2 - 1]'(by omega) = v at *
            have Hkeep := Lib.hid hkeep
            have Hskip := Lib.hid hskip
            have cu0 : ∀ W, Lat wr W → W.cell? ⟨g, k * 8 + k2 * 8, none⟩ = some (.int .i64 u.dot.r) := fun W h => by rw [← Nat.add_mul]; exact h.range (own_get encFact_len (by omega) hyl hO (k + k2) u hu') 0 _ rfl
            have cu1 : ∀ W, Lat wr W → W.cell? ⟨g, k * 8 + k2 * 8 + 1, none⟩ = some (.int .i64 u.dot.n) := fun W h => by rw [← Nat.add_mul]; exact h.range (own_get encFact_len (by omega) hyl hO (k + k2) u hu') 1 _ rfl
            have cu2 : ∀ W, Lat wr W → W.cell? ⟨g, k * 8 + k2 * 8 + 2, none⟩ = some (.int .i64 u.stamp.t) := fun W h => by rw [← Nat.add_mul]; exact h.range (own_get encFact_len (by omega) hyl hO (k + k2) u hu') 2 _ rfl
            have cu3 : ∀ W, Lat wr W → W.cell? ⟨g, k * 8 + k2 * 8 + 3, none⟩ = some (.int .i64 u.stamp.c) := fun W h => by rw [← Nat.add_mul]; exact h.range (own_get encFact_len (by omega) hyl hO (k + k2) u hu') 3 _ rfl
            have cu4 : ∀ W, Lat wr W → W.cell? ⟨g, k * 8 + k2 * 8 + 4, none⟩ = some (.int .i64 u.stamp.r) := fun W h => by rw [← Nat.add_mul]; exact h.range (own_get encFact_len (by omega) hyl hO (k + k2) u hu') 4 _ rfl
            have cu5 : ∀ W, Lat wr W → W.cell? ⟨g, k * 8 + k2 * 8 + 5, none⟩ = some (.int .i64 u.kind) := fun W h => by rw [← Nat.add_mul]; exact h.range (own_get encFact_len (by omega) hyl hO (k + k2) u hu') 5 _ rfl
            have cu6 : ∀ W, Lat wr W → W.cell? ⟨g, k * 8 + k2 * 8 + 6, none⟩ = some (.string u.name) := fun W h => by rw [← Nat.add_mul]; exact h.range (own_get encFact_len (by omega) hyl hO (k + k2) u hu') 6 _ rfl
            have cu7 : ∀ W, Lat wr W → W.cell? ⟨g, k * 8 + k2 * 8 + 7, none⟩ = some (.string u.value) := fun W h => by rw [← Nat.add_mul]; exact h.range (own_get encFact_len (by omega) hyl hO (k + k2) u hu') 7 _ rfl
            have cv0 : ∀ W, Lat wr W → W.cell? ⟨g, k * 8 + (k2 - 1) * 8, none⟩ = some (.int .i64 v.dot.r) := fun W h => by rw [← Nat.add_mul, show k + (k2 - 1) = k + k2 - 1 by omega]; exact h.range (own_get encFact_len (by omega) hyl hO (k + k2 - 1) v hv') 0 _ rfl
            have cv1 : ∀ W, Lat wr W → W.cell? ⟨g, k * 8 + (k2 - 1) * 8 + 1, none⟩ = some (.int .i64 v.dot.n) := fun W h => by rw [← Nat.add_mul, show k + (k2 - 1) = k + k2 - 1 by omega]; exact h.range (own_get encFact_len (by omega) hyl hO (k + k2 - 1) v hv') 1 _ rfl
            have cv2 : ∀ W, Lat wr W → W.cell? ⟨g, k * 8 + (k2 - 1) * 8 + 2, none⟩ = some (.int .i64 v.stamp.t) := fun W h => by rw [← Nat.add_mul, show k + (k2 - 1) = k + k2 - 1 by omega]; exact h.range (own_get encFact_len (by omega) hyl hO (k + k2 - 1) v hv') 2 _ rfl
            have cv3 : ∀ W, Lat wr W → W.cell? ⟨g, k * 8 + (k2 - 1) * 8 + 3, none⟩ = some (.int .i64 v.stamp.c) := fun W h => by rw [← Nat.add_mul, show k + (k2 - 1) = k + k2 - 1 by omega]; exact h.range (own_get encFact_len (by omega) hyl hO (k + k2 - 1) v hv') 3 _ rfl
            have cv4 : ∀ W, Lat wr W → W.cell? ⟨g, k * 8 + (k2 - 1) * 8 + 4, none⟩ = some (.int .i64 v.stamp.r) := fun W h => by rw [← Nat.add_mul, show k + (k2 - 1) = k + k2 - 1 by omega]; exact h.range (own_get encFact_len (by omega) hyl hO (k + k2 - 1) v hv') 4 _ rfl
            have cv5 : ∀ W, Lat wr W → W.cell? ⟨g, k * 8 + (k2 - 1) * 8 + 5, none⟩ = some (.int .i64 v.kind) := fun W h => by rw [← Nat.add_mul, show k + (k2 - 1) = k + k2 - 1 by omega]; exact h.range (own_get encFact_len (by omega) hyl hO (k + k2 - 1) v hv') 5 _ rfl
            have cv6 : ∀ W, Lat wr W → W.cell? ⟨g, k * 8 + (k2 - 1) * 8 + 6, none⟩ = some (.string v.name) := fun W h => by rw [← Nat.add_mul, show k + (k2 - 1) = k + k2 - 1 by omega]; exact h.range (own_get encFact_len (by omega) hyl hO (k + k2 - 1) v hv') 6 _ rfl
            have cv7 : ∀ W, Lat wr W → W.cell? ⟨g, k * 8 + (k2 - 1) * 8 + 7, none⟩ = some (.string v.value) := fun W h => by rw [← Nat.add_mul, show k + (k2 - 1) = k + k2 - 1 by omega]; exact h.range (own_get encFact_len (by omega) hyl hO (k + k2 - 1) v hv') 7 _ rfl
            have hz : ys[kk]? = some (ys[kk]'(by omega)) := List.getElem?_eq_getElem (by omega)
            generalize ys[kk]'(by omega) = z at hz
            have cz0 : ∀ W, Lat wr W → W.cell? ⟨g, kk * 8, none⟩ = some (.int .i64 z.dot.r) := fun W h => h.range (own_get encFact_len (by omega) hyl hO kk z hz) 0 _ rfl
            have cz1 : ∀ W, Lat wr W → W.cell? ⟨g, kk * 8 + 1, none⟩ = some (.int .i64 z.dot.n) := fun W h => h.range (own_get encFact_len (by omega) hyl hO kk z hz) 1 _ rfl
            have cz2 : ∀ W, Lat wr W → W.cell? ⟨g, kk * 8 + 2, none⟩ = some (.int .i64 z.stamp.t) := fun W h => h.range (own_get encFact_len (by omega) hyl hO kk z hz) 2 _ rfl
            have cz3 : ∀ W, Lat wr W → W.cell? ⟨g, kk * 8 + 3, none⟩ = some (.int .i64 z.stamp.c) := fun W h => h.range (own_get encFact_len (by omega) hyl hO kk z hz) 3 _ rfl
            have cz4 : ∀ W, Lat wr W → W.cell? ⟨g, kk * 8 + 4, none⟩ = some (.int .i64 z.stamp.r) := fun W h => h.range (own_get encFact_len (by omega) hyl hO kk z hz) 4 _ rfl
            have cz5 : ∀ W, Lat wr W → W.cell? ⟨g, kk * 8 + 5, none⟩ = some (.int .i64 z.kind) := fun W h => h.range (own_get encFact_len (by omega) hyl hO kk z hz) 5 _ rfl
            have cz6 : ∀ W, Lat wr W → W.cell? ⟨g, kk * 8 + 6, none⟩ = some (.string z.name) := fun W h => h.range (own_get encFact_len (by omega) hyl hO kk z hz) 6 _ rfl
            have cz7 : ∀ W, Lat wr W → W.cell? ⟨g, kk * 8 + 7, none⟩ = some (.string z.value) := fun W h => h.range (own_get encFact_len (by omega) hyl hO kk z hz) 7 _ rfl
            have hfr : ∀ W, Lat wr W → ∀ j, W.frozen? ⟨g, j, none⟩ = false := fun W h j => own_frozen hyl (hO.later h) j
            have HO := Lib.hid hO
            clear hu hv hu' hv' hkeep hskip hO hz
            by_cases huv : v = u
            · have hd2 : decide (u = v) = true := by simp [huv]
              have Huv := Lib.hid huv
              clear huv
              go_wp2_with fail
              go_region_held3 (fun W => Lat wr W) (first | ((repeat (first | with_reducible exact Lat.refl _ | with_reducible assumption | with_reducible apply lat_alloc | with_reducible apply lat_drewN | with_reducible apply lat_drew)); done) | (refine hb1.pre ?_; ((repeat (first | with_reducible exact Lat.refl _ | with_reducible assumption | with_reducible apply lat_alloc | with_reducible apply lat_drewN | with_reducible apply lat_drew)); done))) (fail)
              go_wp2
              go_roundw
              case rel => exact ⟨kk, k2 + 1, ys, rfl, by go_num, by omega, by omega, Hskip.out Huv.out, HO.out.later ‹_›, HG.out.trans (Lat.grown ‹_› _)⟩
              case measure => simp [intOf]; omega
            · have hd2 : decide (u = v) = false := by simpa [eq_comm] using huv
              have Huv := Lib.hid huv
              clear huv
              go_wp2_with fail
              go_region_held3 (fun W => Lat wr W) (first | ((repeat (first | with_reducible exact Lat.refl _ | with_reducible assumption | with_reducible apply lat_alloc | with_reducible apply lat_drewN | with_reducible apply lat_drew)); done) | (refine hb1.pre ?_; ((repeat (first | with_reducible exact Lat.refl _ | with_reducible assumption | with_reducible apply lat_alloc | with_reducible apply lat_drewN | with_reducible apply lat_drew)); done))) (fail)
              go_wp2
              go_roundw
              case rel =>
                obtain ⟨hp1, hp2⟩ := own_put encFact_len (by omega) hyl HO.out kk u (by omega)
                simp only [encFact, World.setCells, Nat.add_assoc, Nat.reduceAdd] at hp1 hp2
                exact ⟨kk + 1, k2 + 1, ys.set kk u, by go_num, by go_num, by omega, by omega, Hkeep.out Huv.out, hp1.later (lat_drew (Lat.refl _)), (HG.out.trans hp2).trans (Lat.grown (lat_drew (Lat.refl _)) _)⟩
              case measure => simp [intOf]; omega
          · have hcl : ∀ ty, (Builtin.clear_ #[26] ty #[.slice (some ⟨g, kk * 8, none⟩) (n - kk) (cap - kk)]).run Tryz.prog wr = .ok (.tuple #[]) (wr.setCells g (kk * 8) (Builtin.zeroCells (Value.agg #[.int .i64 0, .int .i64 0, .int .i64 0, .int .i64 0, .int .i64 0, .int .i64 0, .string ⟨#[]⟩, .string ⟨#[]⟩]).cells (n - kk)).toList) :=
              fun ty => run_clear_k wr _ _ ty (.agg #[.int .i64 0, .int .i64 0, .int .i64 0, .int .i64 0, .int .i64 0, .int .i64 0, .string ⟨#[]⟩, .string ⟨#[]⟩]) Tryz.underlying26 (run_zeroValue info_fact) (by simp [Value.cells, Value.oneCell']) g (kk * 8) _ _ (by omega) (by simp [Value.cells]) (own_there encFact_len hyl hO _ _ (by
                show kk * 8 + (n - kk) * 8 ≤ n * 8
                rw [← Nat.add_mul, show kk + (n - kk) = n by omega]; exact Nat.le_refl _))
            have HO := Lib.hid hO
            clear hO
            generalize (Builtin.zeroCells (Value.agg #[.int .i64 0, .int .i64 0, .int .i64 0, .int .i64 0, .int .i64 0, .int .i64 0, .string ⟨#[]⟩, .string ⟨#[]⟩]).cells (n - kk)).toList = Z at hcl
            go_wp2_with fail
            go_ret
            obtain ⟨hp1, hp2⟩ := own_cut encFact_len hyl HO.out kk (by omega) Z
            have hC := HC.out
            rw [show k + k2 = xs.length by omega] at hC
            have e1 := hC.done
            have e2 : (compact xs).length = kk := by rw [← e1, List.length_take]; omega
            rw [e1] at hp1
            exact ⟨_, rfl, hp1, HG.out.trans hp2⟩
      · have Hxy := Lib.hid hxy
        generalize xs[k]'(by omega) = x at hx Hxy
        generalize xs[k - 1]'(by omega) = y at hy Hxy
        clear hxy
        have cx0 : ∀ W, Lat wr W → W.cell? ⟨g, k * 8, none⟩ = some (.int .i64 x.dot.r) := fun W h => h.range (own_get encFact_len (by omega) hl Hown k x hx) 0 _ rfl
        have cx1 : ∀ W, Lat wr W → W.cell? ⟨g, k * 8 + 1, none⟩ = some (.int .i64 x.dot.n) := fun W h => h.range (own_get encFact_len (by omega) hl Hown k x hx) 1 _ rfl
        have cx2 : ∀ W, Lat wr W → W.cell? ⟨g, k * 8 + 2, none⟩ = some (.int .i64 x.stamp.t) := fun W h => h.range (own_get encFact_len (by omega) hl Hown k x hx) 2 _ rfl
        have cx3 : ∀ W, Lat wr W → W.cell? ⟨g, k * 8 + 3, none⟩ = some (.int .i64 x.stamp.c) := fun W h => h.range (own_get encFact_len (by omega) hl Hown k x hx) 3 _ rfl
        have cx4 : ∀ W, Lat wr W → W.cell? ⟨g, k * 8 + 4, none⟩ = some (.int .i64 x.stamp.r) := fun W h => h.range (own_get encFact_len (by omega) hl Hown k x hx) 4 _ rfl
        have cx5 : ∀ W, Lat wr W → W.cell? ⟨g, k * 8 + 5, none⟩ = some (.int .i64 x.kind) := fun W h => h.range (own_get encFact_len (by omega) hl Hown k x hx) 5 _ rfl
        have cx6 : ∀ W, Lat wr W → W.cell? ⟨g, k * 8 + 6, none⟩ = some (.string x.name) := fun W h => h.range (own_get encFact_len (by omega) hl Hown k x hx) 6 _ rfl
        have cx7 : ∀ W, Lat wr W → W.cell? ⟨g, k * 8 + 7, none⟩ = some (.string x.value) := fun W h => h.range (own_get encFact_len (by omega) hl Hown k x hx) 7 _ rfl
        have cy0 : ∀ W, Lat wr W → W.cell? ⟨g, (k - 1) * 8, none⟩ = some (.int .i64 y.dot.r) := fun W h => h.range (own_get encFact_len (by omega) hl Hown (k - 1) y hy) 0 _ rfl
        have cy1 : ∀ W, Lat wr W → W.cell? ⟨g, (k - 1) * 8 + 1, none⟩ = some (.int .i64 y.dot.n) := fun W h => h.range (own_get encFact_len (by omega) hl Hown (k - 1) y hy) 1 _ rfl
        have cy2 : ∀ W, Lat wr W → W.cell? ⟨g, (k - 1) * 8 + 2, none⟩ = some (.int .i64 y.stamp.t) := fun W h => h.range (own_get encFact_len (by omega) hl Hown (k - 1) y hy) 2 _ rfl
        have cy3 : ∀ W, Lat wr W → W.cell? ⟨g, (k - 1) * 8 + 3, none⟩ = some (.int .i64 y.stamp.c) := fun W h => h.range (own_get encFact_len (by omega) hl Hown (k - 1) y hy) 3 _ rfl
        have cy4 : ∀ W, Lat wr W → W.cell? ⟨g, (k - 1) * 8 + 4, none⟩ = some (.int .i64 y.stamp.r) := fun W h => h.range (own_get encFact_len (by omega) hl Hown (k - 1) y hy) 4 _ rfl
        have cy5 : ∀ W, Lat wr W → W.cell? ⟨g, (k - 1) * 8 + 5, none⟩ = some (.int .i64 y.kind) := fun W h => h.range (own_get encFact_len (by omega) hl Hown (k - 1) y hy) 5 _ rfl
        have cy6 : ∀ W, Lat wr W → W.cell? ⟨g, (k - 1) * 8 + 6, none⟩ = some (.string y.name) := fun W h => h.range (own_get encFact_len (by omega) hl Hown (k - 1) y hy) 6 _ rfl
        have cy7 : ∀ W, Lat wr W → W.cell? ⟨g, (k - 1) * 8 + 7, none⟩ = some (.string y.value) := fun W h => h.range (own_get encFact_len (by omega) hl Hown (k - 1) y hy) 7 _ rfl
        have Hown2 := Lib.hid Hown
        have Hx2 := Lib.hid hx
        have Hy2 := Lib.hid hy
        clear hx hy Hown
        have hd : decide (x = y) = false := by have := Hxy.out; simpa [eq_comm] using this
        go_wp2_with fail
        go_region_held3 (fun W => Lat wr W) (first | ((repeat (first | with_reducible exact Lat.refl _ | with_reducible assumption | with_reducible apply lat_alloc | with_reducible apply lat_drewN | with_reducible apply lat_drew)); done) | (refine hb1.pre ?_; ((repeat (first | with_reducible exact Lat.refl _ | with_reducible assumption | with_reducible apply lat_alloc | with_reducible apply lat_drewN | with_reducible apply lat_drew)); done))) (fail)
        go_wp2
        go_roundw
        case rel =>
          refine ⟨k + 1, by omega, by omega, by go_num, ?_, Hlw.out.trans ‹_›⟩
          rw [compact_step (by omega) (by omega)]
          obtain ⟨_, e1⟩ := List.getElem?_eq_some_iff.1 Hx2.out
          obtain ⟨_, e2⟩ := List.getElem?_eq_some_iff.1 Hy2.out
          rw [List.take_succ_eq_append_getElem (by omega), e1, e2, if_neg Hxy.out, Hcomp.out]
        case measure => simp [intOf]; omega
    · go_wp2
      go_ret
      refine ⟨_, rfl, ?_, Lat.grown Hlw.out _⟩
      have h := Hcomp.out
      rw [List.take_of_length_le (by omega)] at h
      rw [h]
      exact HOh.out.later Hlw.out

theorem fact_Sort (A : Option Addr) (n c : Nat) (xs : List Fact) (hl : xs.length = n) (hn : n ≤ 1099511627776) (w : World) (hrd : RdS encFact 8 w A xs) :
    Calls Tryz.prog 137 #[.slice A n c] w fun e w' => ∃ v, e = .returned v ∧ Own encFact 8 77 w.heap.size w' v (sortU factLt xs) ∧ Lat w w' := by
  have H1 := Lib.hid (fact_Clone A n c xs hl hn w hrd)
  clear hrd
  go_enter Tryz.func137, Tryz.ntmps137
  go_upto_region 2 with (go_at_call 179; refine H1.out.mono ?_; rintro e w1 ⟨v1, rfl, hO1, hL1⟩)
  have H2 := Lib.hid (fact_SortFunc v1 xs w1 hO1 (by omega))
  go_upto_region 3 with (go_at_call 251; refine H2.out.mono ?_; rintro e w2 ⟨rfl, ys, hp, hs, hO2, hG2⟩)
  have H3 := Lib.hid (fact_Compact v1 ys w2 hO2 (by have := hp.length_eq; omega))
  go_wp2_with (go_at_call 253; refine H3.out.mono ?_; rintro e w3 ⟨v3, rfl, hO3, hG3⟩)
  go_ret
  rw [compact_sorted sto_fact hp hs] at hO3
  exact ⟨v3, rfl, hO3, lat_grown (lat_grown hL1 hG2 fun j hj => Own.block_ge hO1 j hj) hG3 fun j hj => Own.block_ge hO1 j hj⟩
end Go.Proofs.YtgjffndpegjenaaGreat
