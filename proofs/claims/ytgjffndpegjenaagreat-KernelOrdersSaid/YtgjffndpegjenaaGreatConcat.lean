/-
  slices.Grow of nothing, and slices.Concat of two lists of dots.
-/
import Derived.Test.YtgjffndpegjenaaGreatCtx
import Derived.Test.YtgjffndpegjenaaGreatDot
import Derived.Lib.AppendZerosOnto
import Derived.Outline
import Derived.Deep.QuietTactic
import Derived.BigQuiet
import Derived.WalkSpells
import Derived.WalkLawsBesides
import Derived.LoopTactic
import Derived.Lib.Hide
import Derived.Deep.RegionHeld3
import Derived.Deep.DeepCutAuto
set_option linter.unusedVariables false
set_option linter.unusedSimpArgs false
set_option linter.unusedSectionVars false
namespace Go.Proofs.YtgjffndpegjenaaGreat
open Go.RowKit
attribute [local go_sem] lat_alloc lat_drew lat_drewN Lat.refl

theorem dot_Grow (n : Nat) (hn : n ≤ 1099511627776) (w : World) :
    Calls Tryz.prog 309 #[.slice none 0 0, .int .i64 (n : Int)] w fun e w' => ∃ v, e = .returned v ∧ Own encDot 2 37 w.heap.size w' v [] ∧ Lat w w' := by
  have h1 : ¬ ((n : Int) < 0) := by omega
  rcases Nat.eq_zero_or_pos n with h0 | h0
  · subst h0
    go_enter Tryz.func309, Tryz.ntmps309
    go_wp2_with fail
    all_goals (go_ret; exact ⟨_, rfl, Own.nil _ _ _ _ _, Lat.refl _⟩)
  · have h2 : (n : Int) > 0 := by omega
    have h3 : wrap64 (n : Int) = (n : Int) := by unfold wrap64; omega
    obtain ⟨i0, hi, hzz⟩ := Option.map_eq_some_iff.1 info_dot
    simp only [Prod.mk.injEq] at hzz
    obtain ⟨hz0, hz1, hz2⟩ := hzz
    have hrz : ∀ ty, (Builtin.append_ #[29, 3] ty #[.slice none 0 0, .int .i64 (n : Int)]).run Tryz.prog w = .ok (.slice (some ⟨w.heap.size, 0, none⟩) n (grownCap w n 0 37)) (w.drew.alloc (.cells (Builtin.zeroCells (Value.agg #[.int .i64 0, .int .i64 0]).cells n ++ Builtin.zeroCells (Value.agg #[.int .i64 0, .int .i64 0]).cells (grownCap w n 0 37 - n)) 37)) :=
      fun ty => Lib.run_append_nil_zeros w 29 3 ty 37 i0 _ .i64 .i64 Tryz.underlying29 Tryz.underlying3 hi hz0 n h0 (by rw [hz1]; omega) (by omega) (by rw [hz2]; omega)
    have hG : n ≤ grownCap w n 0 37 := grownCap_ge w _ _ _
    have hG63 : grownCap w n 0 37 ≤ maxLen := grownCap_le_maxLen w n 0 37 (by unfold maxLen; omega)
    generalize grownCap w n 0 37 = G at hrz hG hG63
    have hsz : (Builtin.zeroCells (Value.agg #[.int .i64 0, .int .i64 0]).cells n ++ Builtin.zeroCells (Value.agg #[.int .i64 0, .int .i64 0]).cells (G - n)).size = G * 2 := by
      simp [Builtin.zeroCells, Value.cells]; omega
    generalize (Builtin.zeroCells (Value.agg #[.int .i64 0, .int .i64 0]).cells n ++ Builtin.zeroCells (Value.agg #[.int .i64 0, .int .i64 0]).cells (G - n)) = Z at hrz hsz
    have Hsz := Lib.hid hsz
    have Hmax := Lib.hid hG63
    have hG' : G ≤ 9223372036854775807 := by unfold maxLen at hG63; omega
    clear hsz hi hz0 hz1 hz2 hG63
    go_enter Tryz.func309, Tryz.ntmps309
    go_wp2_with (at_builtin; refine Lib.wpList_append_run _ rfl _ _ _ _ rfl _ _ rfl rfl _ _ (hrz _) ?_)
    all_goals (go_ret; refine ⟨_, rfl, ⟨by simp [flat], .inr ⟨w.heap.size, G, Z, rfl, Nat.le_refl _, new_at w.drew _, Nat.zero_le _, Hmax.out, Hsz.out, by simp [flat]⟩⟩, lat_alloc (lat_drew (Lat.refl _)) _⟩)

/-- slices.Concat of two. -/
theorem dot_Concat (bs ccap : Nat) (A : Option Addr) (n c : Nat) (xs : List Dot) (hl : xs.length = n) (hn : n ≤ 549755813888) (A' : Option Addr) (n' c' : Nat) (ys : List Dot) (hl' : ys.length = n') (hn' : n' ≤ 549755813888) (w : World)
    (k0 : w.cell? ⟨bs, 0, none⟩ = some (.slice A n c)) (k1 : w.cell? ⟨bs, 1, none⟩ = some (.slice A' n' c')) (hrd : RdS encDot 2 w A xs) (hrd' : RdS encDot 2 w A' ys) :
    Calls Tryz.prog 199 #[.slice (some ⟨bs, 0, none⟩) 2 ccap] w fun e w' => ∃ v, e = .returned v ∧ Own encDot 2 37 w.heap.size w' v (xs ++ ys) ∧ Lat w w' := by
  have c0 : ∀ W, Lat w W → W.cell? ⟨bs, 0, none⟩ = some (.slice A n c) := fun W h => h.at_ k0
  have c1 : ∀ W, Lat w W → W.cell? ⟨bs, 1, none⟩ = some (.slice A' n' c') := fun W h => h.at_ k1
  have Hrd := Lib.hid hrd
  have Hrd' := Lib.hid hrd'
  have Hl := Lib.hid hl
  have Hl' := Lib.hid hl'
  clear hrd hrd' k0 k1 hl hl'
  have hrefl := Lat.refl w
  have hG := Lib.hid (fun W (h : Lat w W) => dot_Grow (n + n') (by omega) W)
  have hb1 : ¬ ((n : Int) < 0) := by omega
  have hb2 : ¬ ((n : Int) + (n' : Int) < 0) := by omega
  go_enter Tryz.func199, Tryz.ntmps199
  go_wp2_with fail
  go_loopw [11, 3] (fun i s wr => wr = w ∧ (i = .int .i64 0 ∧ s = .int .i64 0 ∨ i = .int .i64 1 ∧ s = .int .i64 (n : Int) ∨ i = .int .i64 2 ∧ s = .int .i64 ((n : Int) + (n' : Int)))) (fun i _ _ => 2 - (intOf i).toNat)
  case atStart => exact ⟨rfl, .inl ⟨rfl, rfl⟩⟩
  case round =>
    obtain ⟨hwr, hrel⟩ := hrel
    have hwr := hwr.symm
    subst hwr
    rcases hrel with ⟨rfl, rfl⟩ | ⟨rfl, rfl⟩ | ⟨rfl, rfl⟩
    · go_wp2
      go_roundw
      case rel => exact ⟨by trivial, .inr (.inl ⟨rfl, rfl⟩)⟩
      case measure => simp [intOf]
    · go_wp2
      go_roundw
      case rel => exact ⟨by trivial, .inr (.inr ⟨rfl, by go_num⟩)⟩
      case measure => simp [intOf]
    · have hnn : ((n : Int) + (n' : Int)) = ((n + n' : Nat) : Int) := by omega
      rw [hnn]
      clear hnn
      go_upto_region 10 with (go_at_call 309; refine (hG.out _ (by ((repeat (first | with_reducible exact Lat.refl _ | with_reducible assumption | with_reducible apply lat_alloc | with_reducible apply lat_drewN | with_reducible apply lat_drew)); done))).mono ?_; rintro e w1 ⟨v1, rfl, hO1, hL1⟩)
      have hOx := Lib.hid hO1
      have hLx := Lib.hid hL1
      clear hO1 hL1
      go_wp2_with fail
      go_loopw [27, 6] (fun i s wr => Lat w wr ∧ (i = .int .i64 0 ∧ Own encDot 2 37 w.heap.size wr s [] ∨ i = .int .i64 1 ∧ Own encDot 2 37 w.heap.size wr s xs ∨ i = .int .i64 2 ∧ Own encDot 2 37 w.heap.size wr s (xs ++ ys))) (fun i _ _ => 2 - (intOf i).toNat)
      case atStart => exact ⟨hLx.out, .inl ⟨rfl, hOx.out⟩⟩
      case round =>
        obtain ⟨hL2, hrel⟩ := hrel
        have HL2 := Lib.hid hL2
        rcases hrel with ⟨rfl, hO2⟩ | ⟨rfl, hO2⟩ | ⟨rfl, hO2⟩
        · have HO2 := Lib.hid hO2
          clear hO2
          go_wp2_with ((at_builtin; go_must (refine appS encDot_len encDot_one (by omega) (w0 := w) rfl _ _ 29 37 _ 16 rfl Tryz.underlying29 info_dot rfl _ [] xs A n c Hl.out rfl rfl HO2.out (Hrd.out.later HL2.out) HL2.out (by simp; omega) (by simp; omega) ?_; intro v3 w3 hO3 hL3)))
          go_roundw
          case rel => exact ⟨hL3, .inr (.inl ⟨rfl, by simpa using hO3⟩)⟩
          case measure => simp [intOf]
        · have HO2 := Lib.hid hO2
          clear hO2
          go_wp2_with ((at_builtin; go_must (refine appS encDot_len encDot_one (by omega) (w0 := w) rfl _ _ 29 37 _ 16 rfl Tryz.underlying29 info_dot rfl _ xs ys A' n' c' Hl'.out rfl rfl HO2.out (Hrd'.out.later HL2.out) HL2.out (by have := Hl.out; omega) (by have := Hl.out; omega) ?_; intro v3 w3 hO3 hL3)))
          go_roundw
          case rel => exact ⟨hL3, .inr (.inr ⟨rfl, hO3⟩)⟩
          case measure => simp [intOf]
        · have HO2 := Lib.hid hO2
          clear hO2
          go_wp2
          go_ret
          exact ⟨_, rfl, HO2.out, HL2.out⟩
end Go.Proofs.YtgjffndpegjenaaGreat
