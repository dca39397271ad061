/-
  The law's own: may a delta be, with facts of its dot alone, and a dot that none ahead of it has.
-/
import Derived.Test.YtgjffndpegjenaaGreatKFew
import Derived.Test.YtgjffndpegjenaaGreatEq
import Derived.Outline
import Derived.Deep.QuietTactic
import Derived.BigQuiet
import Derived.WalkSpells
import Derived.WalkLawsBesides
import Derived.LoopTactic
import Derived.Lib.Hide
import Derived.Deep.RegionHeld3
import Derived.Deep.DeepCutAuto
set_option linter.unusedVariables false
set_option linter.unusedSimpArgs false
set_option linter.unusedSectionVars false
namespace Go.Proofs.YtgjffndpegjenaaGreat
open Go.RowKit
attribute [local go_sem] lat_alloc lat_drew lat_drewN Lat.refl
attribute [local go_sem high] eqIn_dot eqIn_stamp eqIn_fact

def OwnSays (ds : List DeltaV) (i : Nat) (e : Ending) : Prop := ∃ r : Bool, e = .returned (.bool r) ∧ (r = true ↔ ownAt ds i)
theorem ownNo {ds : List DeltaV} {i : Nat} (h : ¬ ownAt ds i) : OwnSays ds i (.returned (.bool false)) := ⟨false, rfl, ⟨fun h' => absurd h' (by simp), fun h' => absurd h' h⟩⟩
theorem ownYes {ds : List DeltaV} {i : Nat} (h : ownAt ds i) : OwnSays ds i (.returned (.bool true)) := ⟨true, rfl, ⟨fun _ => h, fun _ => rfl⟩⟩

set_option maxRecDepth 100000 in
set_option maxHeartbeats 1000000 in
theorem l16_own (A : Option Addr) (n c : Nat) (ds : List DeltaV) (hl : ds.length = n) (hn : n ≤ 1099511627776) (i : Nat) (hi : i < n) (w : World) (hrd : RdS encDelta 7 w A ds) (hok : ∀ d ∈ ds, DeltaOk w d) (hsm : ∀ d ∈ ds, smallD d) :
    Calls Tryz.prog 20 #[.slice A n c, .int .i64 (i : Int)] w fun e w' => OwnSays ds i e ∧ Lat w w' := by
  have Hrd := Lib.hid hrd
  have hx : ds[i]? = some (ds[i]'(by omega)) := List.getElem?_eq_getElem (by omega)
  have hmem : ds[i]'(by omega) ∈ ds := List.getElem_mem _
  have hdo := hok _ hmem
  obtain ⟨hds1, hds2⟩ := hsm _ hmem
  obtain ⟨b, o, rfl, hb, hr⟩ := hrd.get i _ hx
  generalize ds[i]'(by omega) = d at *
  have Hx := Lib.hid hx
  have Hdo := Lib.hid hdo
  have Hl := Lib.hid hl
  have hi0 : (0 : Int) ≤ (i : Int) := by omega
  have hi1 : (i : Int) < (n : Int) := by omega
  have ca0 : ∀ W, Lat w W → W.cell? ⟨b, o + i * 7, none⟩ = some (.int .i64 d.dot.r) := fun W h => hr W h 0 _ rfl
  have ca1 : ∀ W, Lat w W → W.cell? ⟨b, o + i * 7 + 1, none⟩ = some (.int .i64 d.dot.n) := fun W h => hr W h 1 _ rfl
  have ca5 : ∀ W, Lat w W → W.cell? ⟨b, o + i * 7 + 5, none⟩ = some (.slice d.A d.facts.length d.cap) := fun W h => hr W h 5 _ rfl
  have ca6 : ∀ W, Lat w W → W.cell? ⟨b, o + i * 7 + 6, none⟩ = some (.slice d.A2 d.gone.length d.cap2) := fun W h => hr W h 6 _ rfl
  have hrefl := Lat.refl w
  clear hrd hok hsm hx hmem hdo hr hl
  go_enter Tryz.func20, Tryz.ntmps20
  go_upto_region 2 with (fail)
  have l0 : Lat w (w.alloc (Obj.cells #[Value.int IntKind.i64 d.dot.r, Value.int IntKind.i64 d.dot.n] 37)) := lat_alloc (Lat.refl _) _
  have k0 := new_at w (Obj.cells #[Value.int IntKind.i64 d.dot.r, Value.int IntKind.i64 d.dot.n] 37)
  generalize w.alloc (Obj.cells #[Value.int IntKind.i64 d.dot.r, Value.int IntKind.i64 d.dot.n] 37) = W0 at *
  have e0 : ∀ W, Lat W0 W → W.cell? ⟨w.heap.size, 0, none⟩ = some (.int .i64 d.dot.r) := fun W h => h.cell k0 0 rfl
  have e1 : ∀ W, Lat W0 W → W.cell? ⟨w.heap.size, 1, none⟩ = some (.int .i64 d.dot.n) := fun W h => h.cell k0 1 rfl
  have cb0 : ∀ W, Lat W0 W → W.cell? ⟨b, o + i * 7, none⟩ = some (.int .i64 d.dot.r) := fun W h => ca0 W (l0.trans h)
  have cb5 : ∀ W, Lat W0 W → W.cell? ⟨b, o + i * 7 + 5, none⟩ = some (.slice d.A d.facts.length d.cap) := fun W h => ca5 W (l0.trans h)
  have cb6 : ∀ W, Lat W0 W → W.cell? ⟨b, o + i * 7 + 6, none⟩ = some (.slice d.A2 d.gone.length d.cap2) := fun W h => ca6 W (l0.trans h)
  clear ca0 ca1 ca5 ca6 k0 hrefl
  have hrefl := Lat.refl W0
  by_cases hdk : dotOk d.dot = true
  · have Hdk := Lib.hid hdk
    obtain ⟨g1, g2, g3, g4⟩ := dotOk_iff.1 hdk
    have g2' : ¬ (15 < d.dot.r) := by omega
    clear hdk
    go_wp2_with fail
    go_loopw [6] (fun i wr => ∃ k : Nat, k ≤ d.facts.length ∧ i = .int .i64 k ∧ Lat W0 wr ∧ ∀ f ∈ d.facts.take k, f.dot = d.dot) (fun i _ => d.facts.length - (intOf i).toNat)
    case atStart => exact ⟨0, by omega, rfl, Lat.refl _, by simp⟩
    case round =>
      obtain ⟨k, hk, rfl, hL, hall⟩ := hrel
      have Hall := Lib.hid hall
      clear hall
      by_cases hlt : k < d.facts.length
      · have hfx : d.facts[k]? = some (d.facts[k]'(by omega)) := List.getElem?_eq_getElem (by omega)
        have hfm : d.facts[k]'(by omega) ∈ d.facts := List.getElem_mem _
        have ht := List.take_succ_eq_append_getElem (l := d.facts) (i := k) (by omega)
        obtain ⟨bf, of, hA, hbf, hrf⟩ := Hdo.out.facts.get k _ hfx
        rw [hA] at cb5
        generalize d.facts[k]'(by omega) = f at *
        have cf0 : ∀ W, Lat W0 W → W.cell? ⟨bf, of + k * 8, none⟩ = some (.int .i64 f.dot.r) := fun W h => hrf W (l0.trans h) 0 _ rfl
        have cf1 : ∀ W, Lat W0 W → W.cell? ⟨bf, of + k * 8 + 1, none⟩ = some (.int .i64 f.dot.n) := fun W h => hrf W (l0.trans h) 1 _ rfl
        have hj0 : (0 : Int) ≤ (k : Int) := by omega
        have hj1 : (k : Int) < (d.facts.length : Int) := by omega
        have Ht := Lib.hid ht
        have Hfm := Lib.hid hfm
        clear hfx hfm ht hrf hA
        by_cases hfd : f.dot = d.dot
        · have hd : decide (f.dot = d.dot) = true := by simpa using hfd
          have Hfd := Lib.hid hfd
          clear hfd
          go_wp2_with fail
          go_region_held3 (fun W => Lat W0 W) (first | ((repeat (first | with_reducible exact Lat.refl _ | with_reducible assumption | with_reducible apply lat_alloc | with_reducible apply lat_drewN | with_reducible apply lat_drew)); done) | (refine hb1.pre ?_; ((repeat (first | with_reducible exact Lat.refl _ | with_reducible assumption | with_reducible apply lat_alloc | with_reducible apply lat_drewN | with_reducible apply lat_drew)); done))) (fail)
          go_wp2
          go_roundw
          case rel =>
            refine ⟨k + 1, by omega, by go_num, by assumption, fun e he => ?_⟩
            rw [Ht.out] at he
            rcases List.mem_append.1 he with he | he
            · exact Hall.out e he
            · rw [List.mem_singleton.1 he]; exact Hfd.out
          case measure => simp [intOf]; omega
        · have hd : decide (f.dot = d.dot) = false := by simpa using hfd
          have Hfd := Lib.hid hfd
          clear hfd
          go_wp2_with fail
          go_region_held3 (fun W => Lat W0 W) (first | ((repeat (first | with_reducible exact Lat.refl _ | with_reducible assumption | with_reducible apply lat_alloc | with_reducible apply lat_drewN | with_reducible apply lat_drew)); done) | (refine hb1.pre ?_; ((repeat (first | with_reducible exact Lat.refl _ | with_reducible assumption | with_reducible apply lat_alloc | with_reducible apply lat_drewN | with_reducible apply lat_drew)); done))) (fail)
          go_wp2
          go_ret
          exact ⟨ownNo (fun ⟨d', hd', _, hff, hgg, hkk⟩ => by have := Hx.out; rw [hd'] at this; injection this with this; subst this; exact Hfd.out (hff f Hfm.out)), l0.trans (by assumption)⟩
      · have hall := Hall.out
        rw [List.take_of_length_le (by omega)] at hall
        have HF := Lib.hid hall
        clear hall Hall
        go_wp2_with fail
        go_loopw [7] (fun i wr => ∃ k : Nat, k ≤ d.gone.length ∧ i = .int .i64 k ∧ Lat W0 wr ∧ d.dot ∉ d.gone.take k) (fun i _ => d.gone.length - (intOf i).toNat)
        case atStart => exact ⟨0, by omega, rfl, hL, by simp⟩
        case round =>
          obtain ⟨k2, hk2, rfl, hL2, hnot⟩ := hrel
          have Hnot := Lib.hid hnot
          clear hnot
          by_cases hlt2 : k2 < d.gone.length
          · have hgx : d.gone[k2]? = some (d.gone[k2]'(by omega)) := List.getElem?_eq_getElem (by omega)
            have hgm : d.gone[k2]'(by omega) ∈ d.gone := List.getElem_mem _
            have ht := List.take_succ_eq_append_getElem (l := d.gone) (i := k2) (by omega)
            obtain ⟨bg, og, hA, hbg, hrg⟩ := Hdo.out.gone.get k2 _ hgx
            rw [hA] at cb6
            generalize d.gone[k2]'(by omega) = g at *
            have cg0 : ∀ W, Lat W0 W → W.cell? ⟨bg, og + k2 * 2, none⟩ = some (.int .i64 g.r) := fun W h => hrg W (l0.trans h) 0 _ rfl
            have cg1 : ∀ W, Lat W0 W → W.cell? ⟨bg, og + k2 * 2 + 1, none⟩ = some (.int .i64 g.n) := fun W h => hrg W (l0.trans h) 1 _ rfl
            have hj0 : (0 : Int) ≤ (k2 : Int) := by omega
            have hj1 : (k2 : Int) < (d.gone.length : Int) := by omega
            have Ht := Lib.hid ht
            have Hgm := Lib.hid hgm
            clear hgx hgm ht hrg hA
            by_cases hgd : g = d.dot
            · have hd : decide (g = d.dot) = true := by simpa using hgd
              have Hgd := Lib.hid hgd
              clear hgd
              go_wp2_with fail
              go_region_held3 (fun W => Lat W0 W) (first | ((repeat (first | with_reducible exact Lat.refl _ | with_reducible assumption | with_reducible apply lat_alloc | with_reducible apply lat_drewN | with_reducible apply lat_drew)); done) | (refine hb1.pre ?_; ((repeat (first | with_reducible exact Lat.refl _ | with_reducible assumption | with_reducible apply lat_alloc | with_reducible apply lat_drewN | with_reducible apply lat_drew)); done))) (fail)
              go_wp2
              go_ret
              exact ⟨ownNo (fun ⟨d', hd', _, hff, hgg, hkk⟩ => by have := Hx.out; rw [hd'] at this; injection this with this; subst this; exact hgg (Hgd.out ▸ Hgm.out)), l0.trans (by assumption)⟩
            · have hd : decide (g = d.dot) = false := by simpa using hgd
              have Hgd := Lib.hid hgd
              clear hgd
              go_wp2_with fail
              go_region_held3 (fun W => Lat W0 W) (first | ((repeat (first | with_reducible exact Lat.refl _ | with_reducible assumption | with_reducible apply lat_alloc | with_reducible apply lat_drewN | with_reducible apply lat_drew)); done) | (refine hb1.pre ?_; ((repeat (first | with_reducible exact Lat.refl _ | with_reducible assumption | with_reducible apply lat_alloc | with_reducible apply lat_drewN | with_reducible apply lat_drew)); done))) (fail)
              go_wp2
              go_roundw
              case rel =>
                refine ⟨k2 + 1, by omega, by go_num, by assumption, ?_⟩
                rw [Ht.out]
                simp only [List.mem_append, List.mem_singleton, not_or]
                exact ⟨Hnot.out, fun e => Hgd.out e.symm⟩
              case measure => simp [intOf]; omega
          · have hnot := Hnot.out
            rw [List.take_of_length_le (by omega)] at hnot
            have HG := Lib.hid hnot
            clear hnot Hnot
            go_wp2_with fail
            go_loopw [8] (fun i' wr => ∃ k : Nat, k ≤ i ∧ i' = .int .i64 k ∧ Lat W0 wr ∧ ∀ j e, j < k → ds[j]? = some e → e.dot ≠ d.dot) (fun i' _ => i - (intOf i').toNat)
            case atStart => exact ⟨0, by omega, rfl, hL2, fun j e hj => by omega⟩
            case round =>
              obtain ⟨k3, hk3, rfl, hL3, hdis⟩ := hrel
              have Hdis := Lib.hid hdis
              clear hdis
              by_cases hlt3 : k3 < i
              · have hl := Hl.out
                have hex : ds[k3]? = some (ds[k3]'(by omega)) := List.getElem?_eq_getElem (by omega)
                obtain ⟨be, oe, hA, hbe, hre⟩ := Hrd.out.get k3 _ hex
                injection hA with hA
                injection hA with hA1 hA2
                subst hA1
                subst hA2
                generalize ds[k3]'(by omega) = d3 at *
                have cg0 : ∀ W, Lat W0 W → W.cell? ⟨b, o + k3 * 7, none⟩ = some (.int .i64 d3.dot.r) := fun W h => hre W (l0.trans h) 0 _ rfl
                have cg1 : ∀ W, Lat W0 W → W.cell? ⟨b, o + k3 * 7 + 1, none⟩ = some (.int .i64 d3.dot.n) := fun W h => hre W (l0.trans h) 1 _ rfl
                have hj0 : (0 : Int) ≤ (k3 : Int) := by omega
                have hj1 : (k3 : Int) < (i : Int) := by omega
                have hj2 : (k3 : Int) < (n : Int) := by omega
                have Hex := Lib.hid hex
                clear hex hre
                by_cases hed : d3.dot = d.dot
                · have hd : decide (d3.dot = d.dot) = true := by simpa using hed
                  have Hed := Lib.hid hed
                  clear hed
                  go_wp2_with fail
                  go_region_held3 (fun W => Lat W0 W) (first | ((repeat (first | with_reducible exact Lat.refl _ | with_reducible assumption | with_reducible apply lat_alloc | with_reducible apply lat_drewN | with_reducible apply lat_drew)); done) | (refine hb1.pre ?_; ((repeat (first | with_reducible exact Lat.refl _ | with_reducible assumption | with_reducible apply lat_alloc | with_reducible apply lat_drewN | with_reducible apply lat_drew)); done))) (fail)
                  go_wp2
                  go_ret
                  exact ⟨ownNo (fun ⟨d', hd', _, hff, hgg, hkk⟩ => by have := Hx.out; rw [hd'] at this; injection this with this; subst this; exact hkk k3 d3 hlt3 Hex.out Hed.out), l0.trans (by assumption)⟩
                · have hd : decide (d3.dot = d.dot) = false := by simpa using hed
                  have Hed := Lib.hid hed
                  clear hed
                  go_wp2_with fail
                  go_region_held3 (fun W => Lat W0 W) (first | ((repeat (first | with_reducible exact Lat.refl _ | with_reducible assumption | with_reducible apply lat_alloc | with_reducible apply lat_drewN | with_reducible apply lat_drew)); done) | (refine hb1.pre ?_; ((repeat (first | with_reducible exact Lat.refl _ | with_reducible assumption | with_reducible apply lat_alloc | with_reducible apply lat_drewN | with_reducible apply lat_drew)); done))) (fail)
                  go_wp2
                  go_roundw
                  case rel =>
                    refine ⟨k3 + 1, by omega, by go_num, by assumption, fun j e hj he => ?_⟩
                    by_cases hjk : j = k3
                    · subst hjk
                      rw [Hex.out] at he
                      injection he with he
                      rw [← he]
                      exact Hed.out
                    · exact Hdis.out j e (by omega) he
                  case measure => simp [intOf]; omega
              · go_wp2_with fail
                go_ret
                exact ⟨ownYes ⟨d, Hx.out, Hdk.out, HF.out, HG.out, fun j e hj he => Hdis.out j e (by omega) he⟩, l0.trans hL3⟩
  · have h' := dotOk_not.1 (by simpa using hdk)
    have Hdk := Lib.hid hdk
    clear hdk
    go_wp2_with fail
    all_goals first
      | omega
      | (go_ret; exact ⟨ownNo (fun ⟨d', hd', hk', _⟩ => by have := Hx.out; rw [hd'] at this; injection this with this; subst this; exact Hdk.out hk'), l0⟩)
end Go.Proofs.YtgjffndpegjenaaGreat
