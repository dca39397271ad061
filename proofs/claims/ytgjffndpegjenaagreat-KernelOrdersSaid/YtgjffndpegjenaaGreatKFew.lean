/-
  The law's bounds: deltas not too many, and not too great.
-/
import Derived.Test.YtgjffndpegjenaaGreatKPlain
import Derived.Outline
import Derived.Deep.QuietTactic
import Derived.BigQuiet
import Derived.WalkSpells
import Derived.WalkLawsBesides
import Derived.LoopTactic
import Derived.Lib.Hide
import Derived.Deep.RegionHeld3
import Derived.Deep.DeepCutAuto
set_option linter.unusedVariables false
set_option linter.unusedSimpArgs false
set_option linter.unusedSectionVars false
namespace Go.Proofs.YtgjffndpegjenaaGreat
open Go.RowKit
attribute [local go_sem] lat_alloc lat_drew lat_drewN Lat.refl

/-- It returned a Bool. -/
def IsBool (e : Ending) : Prop := ∃ r : Bool, e = .returned (.bool r)
theorem isBool (r : Bool) : IsBool (.returned (.bool r)) := ⟨r, rfl⟩

theorem l15_Few (A : Option Addr) (n c : Nat) (xs : List Fact) (hl : xs.length = n) (hn : n ≤ 9223372036854775807) (w : World) (hrd : RdS encFact 8 w A xs) :
    Calls Tryz.prog 27 #[.slice A n c] w fun e w' => IsBool e ∧ Lat w w' := by
  have Hrd := Lib.hid hrd
  clear hrd
  have hrefl := Lat.refl w
  go_enter Tryz.func27, Tryz.ntmps27
  go_wp2_with fail
  all_goals try (go_ret; exact ⟨isBool _, Lat.refl _⟩)
  go_loopw [3] (fun i wr => ∃ k : Nat, k ≤ n ∧ i = .int .i64 k ∧ wr = w) (fun i _ => n - (intOf i).toNat)
  case atStart => exact ⟨0, by omega, rfl, rfl⟩
  case round =>
    obtain ⟨k, hk, rfl, hwr⟩ := hrel
    have hwr := hwr.symm
    subst hwr
    by_cases hlt : k < n
    · have hx : xs[k]? = some (xs[k]'(by omega)) := List.getElem?_eq_getElem (by omega)
      obtain ⟨b, o, rfl, hb, hr⟩ := Hrd.out.get k _ hx
      generalize xs[k]'(by omega) = x at *
      have cx6 : w.cell? ⟨b, o + k * 8 + 6, none⟩ = some (.string x.name) := hr w (Lat.refl _) 6 _ rfl
      have cx7 : w.cell? ⟨b, o + k * 8 + 7, none⟩ = some (.string x.value) := hr w (Lat.refl _) 7 _ rfl
      have hi0 : (0 : Int) ≤ (k : Int) := by omega
      have hi1 : (k : Int) < (n : Int) := by omega
      clear hx hr
      go_wp2_with fail
      all_goals first
        | (go_ret; exact ⟨isBool _, Lat.refl _⟩)
        | (go_roundw
           case rel => exact ⟨k + 1, by omega, by go_num, by trivial⟩
           case measure => simp [intOf]; omega)
    · go_wp2
      go_ret
      exact ⟨isBool _, Lat.refl _⟩

def encDelta (d : DeltaV) : List Value := deltaCells d
theorem encDelta_len (d : DeltaV) : (encDelta d).length = 7 := rfl
def smallD (d : DeltaV) : Prop := d.facts.length ≤ 8 ∧ d.gone.length ≤ 20
/-- If yes, then the bounds hold. -/
def FewSays (ds : List DeltaV) (e : Ending) : Prop := ∃ r : Bool, e = .returned (.bool r) ∧ (r = true → ds.length ≤ 16 ∧ ∀ d ∈ ds, smallD d)
theorem fewNo (ds : List DeltaV) : FewSays ds (.returned (.bool false)) := ⟨false, rfl, fun h => by cases h⟩
theorem fewYes {ds : List DeltaV} (h : ds.length ≤ 16 ∧ ∀ d ∈ ds, smallD d) : FewSays ds (.returned (.bool true)) := ⟨true, rfl, fun _ => h⟩

theorem l16_Few (A : Option Addr) (n c : Nat) (ds : List DeltaV) (hl : ds.length = n) (hn : n ≤ 9223372036854775807) (w : World) (hrd : RdS encDelta 7 w A ds) (hok : ∀ d ∈ ds, DeltaOk w d) (hsm : ∀ d ∈ ds, d.facts.length ≤ 9223372036854775807) :
    Calls Tryz.prog 18 #[.slice A n c] w fun e w' => FewSays ds e ∧ Lat w w' := by
  have Hrd := Lib.hid hrd
  have Hok := Lib.hid hok
  have Hsm := Lib.hid hsm
  have Hl := Lib.hid hl
  clear hrd hok hsm hl
  have hrefl := Lat.refl w
  by_cases h16 : 16 < n
  · have h16' : (16 : Int) < (n : Int) := by omega
    go_enter Tryz.func18, Tryz.ntmps18
    go_wp2_with fail
    go_ret
    exact ⟨fewNo _, Lat.refl _⟩
  have h16' : ¬ (16 : Int) < (n : Int) := by omega
  go_enter Tryz.func18, Tryz.ntmps18
  go_wp2_with fail
  go_loopw [3] (fun i wr => ∃ k : Nat, k ≤ n ∧ i = .int .i64 k ∧ Lat w wr ∧ ∀ d ∈ ds.take k, smallD d) (fun i _ => n - (intOf i).toNat)
  case atStart => exact ⟨0, by omega, rfl, Lat.refl _, by simp⟩
  case round =>
    obtain ⟨k, hk, rfl, hL, hall⟩ := hrel
    have Hall := Lib.hid hall
    clear hall
    have hl := Hl.out
    by_cases hlt : k < n
    · have hx : ds[k]? = some (ds[k]'(by omega)) := List.getElem?_eq_getElem (by omega)
      have hmem : ds[k]'(by omega) ∈ ds := List.getElem_mem _
      have ht := List.take_succ_eq_append_getElem (l := ds) (i := k) (by omega)
      obtain ⟨b, o, rfl, hb, hr⟩ := Hrd.out.get k _ hx
      have hdo := Hok.out _ hmem
      have hds := Hsm.out _ hmem
      generalize ds[k]'(by omega) = d at *
      have cx5 : ∀ W, Lat w W → W.cell? ⟨b, o + k * 7 + 5, none⟩ = some (.slice d.A d.facts.length d.cap) := fun W h => hr W h 5 _ rfl
      have cx6 : ∀ W, Lat w W → W.cell? ⟨b, o + k * 7 + 6, none⟩ = some (.slice d.A2 d.gone.length d.cap2) := fun W h => hr W h 6 _ rfl
      have hi0 : (0 : Int) ≤ (k : Int) := by omega
      have hi1 : (k : Int) < (n : Int) := by omega
      have Ht := Lib.hid ht
      have HF := Lib.hid (fun W (h : Lat w W) => l15_Few d.A _ d.cap d.facts rfl hds W (hdo.facts.later h))
      clear hx hr hmem ht hdo
      by_cases h8 : 8 < d.facts.length
      · have h8' : (8 : Int) < (d.facts.length : Int) := by omega
        go_wp2_with fail
        go_ret
        exact ⟨fewNo _, hL⟩
      · have h8' : ¬ (8 : Int) < (d.facts.length : Int) := by omega
        by_cases h20 : 20 < d.gone.length
        · have h20' : (20 : Int) < (d.gone.length : Int) := by omega
          go_wp2_with fail
          go_ret
          exact ⟨fewNo _, hL⟩
        · have h20' : ¬ (20 : Int) < (d.gone.length : Int) := by omega
          have hsd : smallD d := ⟨by omega, by omega⟩
          have Hsd := Lib.hid hsd
          clear hsd
          go_wp2_with (go_at_call 27; refine (HF.out _ (by ((repeat (first | with_reducible exact Lat.refl _ | with_reducible assumption | with_reducible apply lat_alloc | with_reducible apply lat_drewN | with_reducible apply lat_drew)); done))).mono ?_; rintro e w4 ⟨⟨r, rfl⟩, hb4⟩; have hw4 : Lat w w4 := hL.trans hb4)
          all_goals first
            | (go_ret; exact ⟨fewNo _, by assumption⟩)
            | (go_roundw
               case rel =>
                 refine ⟨k + 1, by omega, by go_num, by assumption, fun e he => ?_⟩
                 rw [Ht.out] at he
                 rcases List.mem_append.1 he with he | he
                 · exact Hall.out e he
                 · rw [List.mem_singleton.1 he]; exact Hsd.out
               case measure => simp [intOf]; omega)
    · go_wp2
      go_ret
      refine ⟨fewYes ⟨by omega, ?_⟩, hL⟩
      have h := Hall.out
      rwa [List.take_of_length_le (by omega)] at h
end Go.Proofs.YtgjffndpegjenaaGreat
