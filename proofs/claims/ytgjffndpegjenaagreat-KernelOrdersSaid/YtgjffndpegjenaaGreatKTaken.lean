/-
  The law's taken: does a delta that may be take a dot back?
-/
import Derived.Test.YtgjffndpegjenaaGreatKOwn
import Derived.Outline
import Derived.Deep.QuietTactic
import Derived.BigQuiet
import Derived.WalkSpells
import Derived.WalkLawsBesides
import Derived.LoopTactic
import Derived.Lib.Hide
import Derived.Deep.RegionHeld3
import Derived.Deep.DeepCutAuto
set_option linter.unusedVariables false
set_option linter.unusedSimpArgs false
set_option linter.unusedSectionVars false
namespace Go.Proofs.YtgjffndpegjenaaGreat
open Go.RowKit
attribute [local go_sem] lat_alloc lat_drew lat_drewN Lat.refl
attribute [local go_sem high] eqIn_dot eqIn_stamp eqIn_fact

def takenP (ds : List DeltaV) (d : Dot) (m : Nat) : Prop := ∃ j y, j < m ∧ ownAt ds j ∧ ds[j]? = some y ∧ d ∈ y.gone
def TakenSays (ds : List DeltaV) (d : Dot) (e : Ending) : Prop := ∃ r : Bool, e = .returned (.bool r) ∧ (r = true ↔ takenP ds d ds.length)
theorem takenNo {ds : List DeltaV} {d : Dot} (h : ¬ takenP ds d ds.length) : TakenSays ds d (.returned (.bool false)) := ⟨false, rfl, ⟨fun h' => absurd h' (by simp), fun h' => absurd h' h⟩⟩
theorem takenYes {ds : List DeltaV} {d : Dot} (h : takenP ds d ds.length) : TakenSays ds d (.returned (.bool true)) := ⟨true, rfl, ⟨fun _ => h, fun _ => rfl⟩⟩

set_option maxRecDepth 100000 in
set_option maxHeartbeats 1000000 in
theorem l16_taken (A : Option Addr) (n c : Nat) (ds : List DeltaV) (hl : ds.length = n) (hn : n ≤ 1099511627776) (d : Dot) (w : World) (hrd : RdS encDelta 7 w A ds) (hok : ∀ d ∈ ds, DeltaOk w d) (hsm : ∀ d ∈ ds, smallD d) :
    Calls Tryz.prog 22 #[.slice A n c, .agg #[.int .i64 d.r, .int .i64 d.n]] w fun e w' => TakenSays ds d e ∧ Lat w w' := by
  have HO := Lib.hid (fun i (hi : i < n) W (h : Lat w W) => l16_own A n c ds hl hn i hi W (hrd.later h) (fun e he => (hok e he).later h) hsm)
  have Hrd := Lib.hid hrd
  have Hok := Lib.hid hok
  have Hsm := Lib.hid hsm
  have Hl := Lib.hid hl
  clear hrd hok hsm hl
  go_enter Tryz.func22, Tryz.ntmps22
  go_upto_region 1 with (fail)
  have l0 : Lat w (w.alloc (Obj.cells #[.int .i64 d.r, .int .i64 d.n] 37)) := (by repeat (first | with_reducible exact Lat.refl _ | with_reducible assumption | with_reducible apply lat_alloc | with_reducible apply lat_drewN | with_reducible apply lat_drew))
  have k0 := (new_at w (Obj.cells #[.int .i64 d.r, .int .i64 d.n] 37))
  generalize (w.alloc (Obj.cells #[.int .i64 d.r, .int .i64 d.n] 37)) = W0 at *
  have c0_0 : ∀ W, Lat W0 W → W.cell? ⟨w.heap.size, 0, none⟩ = some (.int .i64 d.r) := fun W h => h.cell k0 0 rfl
  have c0_1 : ∀ W, Lat W0 W → W.cell? ⟨w.heap.size, 1, none⟩ = some (.int .i64 d.n) := fun W h => h.cell k0 1 rfl
  clear k0
  have hrefl := Lat.refl W0
  go_wp2_with fail
  go_loopw [5] (fun i wr => ∃ k : Nat, k ≤ n ∧ i = .int .i64 k ∧ Lat W0 wr ∧ ¬ takenP ds d k) (fun i _ => n - (intOf i).toNat)
  case atStart => exact ⟨0, by omega, rfl, Lat.refl _, fun ⟨j, _, hj, _⟩ => by omega⟩
  case round =>
    obtain ⟨k, hk, rfl, hL, hno⟩ := hrel
    have Hno := Lib.hid hno
    clear hno
    by_cases hlt : k < n
    · have hl := Hl.out
      have hx : ds[k]? = some (ds[k]'(by omega)) := List.getElem?_eq_getElem (by omega)
      have hmem : ds[k]'(by omega) ∈ ds := List.getElem_mem _
      have hdo := Hok.out _ hmem
      obtain ⟨hds1, hds2⟩ := Hsm.out _ hmem
      obtain ⟨b, o, rfl, hb, hr⟩ := Hrd.out.get k _ hx
      generalize ds[k]'(by omega) = y at *
      have Hx := Lib.hid hx
      have Hdo := Lib.hid hdo
      have ca6 : ∀ W, Lat W0 W → W.cell? ⟨b, o + k * 7 + 6, none⟩ = some (.slice y.A2 y.gone.length y.cap2) := fun W h => hr W (l0.trans h) 6 _ rfl
      have hi0 : (0 : Int) ≤ (k : Int) := by omega
      have hi1 : (k : Int) < (n : Int) := by omega
      clear hx hmem hdo hr hl
      by_cases hown : ownAt ds k
      · have Hown := Lib.hid hown
        clear hown
        go_upto_region 5 with (go_at_call 20; refine (HO.out k hlt _ (l0.trans (by ((repeat (first | with_reducible exact Lat.refl _ | with_reducible assumption | with_reducible apply lat_alloc | with_reducible apply lat_drewN | with_reducible apply lat_drew)); done)))).mono ?_; rintro e w4 ⟨⟨r, rfl, hr4⟩, hb4⟩; obtain rfl := hr4.2 Hown.out; clear hr4; have hw4 : Lat W0 w4 := hL.trans hb4)
        go_wp2_with fail
        go_loopw [6] (fun i wr => ∃ q : Nat, q ≤ y.gone.length ∧ i = .int .i64 q ∧ Lat W0 wr ∧ d ∉ y.gone.take q) (fun i _ => y.gone.length - (intOf i).toNat)
        case atStart => exact ⟨0, by omega, rfl, hw4, by simp⟩
        case round =>
          obtain ⟨q, hq, rfl, hL2, hnot⟩ := hrel
          have Hnot := Lib.hid hnot
          clear hnot
          by_cases hlt2 : q < y.gone.length
          · have hgx : y.gone[q]? = some (y.gone[q]'(by omega)) := List.getElem?_eq_getElem (by omega)
            have hgm : y.gone[q]'(by omega) ∈ y.gone := List.getElem_mem _
            have ht := List.take_succ_eq_append_getElem (l := y.gone) (i := q) (by omega)
            obtain ⟨bg, og, hA, hbg, hrg⟩ := Hdo.out.gone.get q _ hgx
            rw [hA] at ca6
            generalize y.gone[q]'(by omega) = g at *
            have cg0 : ∀ W, Lat W0 W → W.cell? ⟨bg, og + q * 2, none⟩ = some (.int .i64 g.r) := fun W h => hrg W (l0.trans h) 0 _ rfl
            have cg1 : ∀ W, Lat W0 W → W.cell? ⟨bg, og + q * 2 + 1, none⟩ = some (.int .i64 g.n) := fun W h => hrg W (l0.trans h) 1 _ rfl
            have hj0 : (0 : Int) ≤ (q : Int) := by omega
            have hj1 : (q : Int) < (y.gone.length : Int) := by omega
            have Ht := Lib.hid ht
            have Hgm := Lib.hid hgm
            clear hgx hgm ht hrg hA
            by_cases hgd : g = d
            · have hd : decide (g = d) = true := by simpa using hgd
              have Hgd := Lib.hid hgd
              clear hgd
              go_wp2_with fail
              go_region_held3 (fun W => Lat W0 W) (first | ((repeat (first | with_reducible exact Lat.refl _ | with_reducible assumption | with_reducible apply lat_alloc | with_reducible apply lat_drewN | with_reducible apply lat_drew)); done) | (refine hb1.pre ?_; ((repeat (first | with_reducible exact Lat.refl _ | with_reducible assumption | with_reducible apply lat_alloc | with_reducible apply lat_drewN | with_reducible apply lat_drew)); done))) (fail)
              go_wp2
              go_ret
              exact ⟨takenYes ⟨k, y, by have := Hl.out; omega, Hown.out, Hx.out, Hgd.out ▸ Hgm.out⟩, l0.trans (by assumption)⟩
            · have hd : decide (g = d) = false := by simpa using hgd
              have Hgd := Lib.hid hgd
              clear hgd
              go_wp2_with fail
              go_region_held3 (fun W => Lat W0 W) (first | ((repeat (first | with_reducible exact Lat.refl _ | with_reducible assumption | with_reducible apply lat_alloc | with_reducible apply lat_drewN | with_reducible apply lat_drew)); done) | (refine hb1.pre ?_; ((repeat (first | with_reducible exact Lat.refl _ | with_reducible assumption | with_reducible apply lat_alloc | with_reducible apply lat_drewN | with_reducible apply lat_drew)); done))) (fail)
              go_wp2
              go_roundw
              case rel =>
                refine ⟨q + 1, by omega, by go_num, by assumption, ?_⟩
                rw [Ht.out]
                simp only [List.mem_append, List.mem_singleton, not_or]
                exact ⟨Hnot.out, fun e => Hgd.out e.symm⟩
              case measure => simp [intOf]; omega
          · have hnot := Hnot.out
            rw [List.take_of_length_le (by omega)] at hnot
            have HG := Lib.hid hnot
            clear hnot Hnot
            go_wp2_with fail
            go_roundw
            case rel =>
              refine ⟨k + 1, by omega, by go_num, by assumption, fun ⟨j, z, hj, hoj, hz, hdz⟩ => ?_⟩
              by_cases hjk : j = k
              · subst hjk
                rw [Hx.out] at hz
                injection hz with hz
                subst hz
                exact HG.out hdz
              · exact Hno.out ⟨j, z, by omega, hoj, hz, hdz⟩
            case measure => simp [intOf]; omega
      · have Hown := Lib.hid hown
        clear hown
        go_wp2_with (go_at_call 20; refine (HO.out k hlt _ (l0.trans (by ((repeat (first | with_reducible exact Lat.refl _ | with_reducible assumption | with_reducible apply lat_alloc | with_reducible apply lat_drewN | with_reducible apply lat_drew)); done)))).mono ?_; rintro e w4 ⟨⟨r, rfl, hr4⟩, hb4⟩; obtain rfl : r = false := (by cases r; rfl; exact absurd (hr4.1 rfl) Hown.out); clear hr4; have hw4 : Lat W0 w4 := hL.trans hb4)
        go_roundw
        case rel =>
          refine ⟨k + 1, by omega, by go_num, by assumption, fun ⟨j, z, hj, hoj, hz, hdz⟩ => ?_⟩
          by_cases hjk : j = k
          · subst hjk; exact Hown.out hoj
          · exact Hno.out ⟨j, z, by omega, hoj, hz, hdz⟩
        case measure => simp [intOf]; omega
    · have hl := Hl.out
      have hno := Hno.out
      rw [show k = ds.length by omega] at hno
      have HN := Lib.hid hno
      clear hno Hno
      go_wp2
      go_ret
      exact ⟨takenNo HN.out, l0.trans hL⟩
end Go.Proofs.YtgjffndpegjenaaGreat
