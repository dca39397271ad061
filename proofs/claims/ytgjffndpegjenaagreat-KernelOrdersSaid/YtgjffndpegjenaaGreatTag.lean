/-
  fact.named, fact.value at the kinds that have no manifest, fact.Check there.
-/
import Derived.Test.YtgjffndpegjenaaGreatEq
import Derived.Test.YtgjffndpegjenaaGreatCmp
import Derived.Test.YtgjffndpegjenaaGreatDot
import Derived.Outline
import Derived.Deep.QuietTactic
import Derived.BigQuiet
import Derived.WalkSpells
import Derived.WalkLawsBesides
import Derived.LoopTactic
import Derived.Lib.Hide
import Derived.Deep.RegionHeld3
import Derived.Deep.DeepCutAuto
set_option linter.unusedVariables false
set_option linter.unusedSimpArgs false
set_option linter.unusedSectionVars false
namespace Go.Proofs.YtgjffndpegjenaaGreat
open Go.RowKit
attribute [local go_sem] lat_alloc lat_drew lat_drewN Lat.refl

def namedOk (s : ByteArray) : Bool := decide (1 ≤ s.size ∧ s.size ≤ 64)
theorem ba_list_nil (s : ByteArray) : (s.toList = []) ↔ s.size = 0 := by
  rw [ByteArray.toList_eq, Array.toList_eq_nil_iff, ← Array.size_eq_zero_iff]; rfl

theorem fact_named (s : ByteArray) (w : World) :
    Calls Tryz.prog 304 #[.string s] w fun e w' => e = .returned (.bool (namedOk s)) ∧ Lat w w' := by
  by_cases h0 : s.size = 0
  · have h1 : (s.toList).isEmpty = true := by rw [List.isEmpty_iff]; exact (ba_list_nil s).2 h0
    have h2 : s.toList = [] := (ba_list_nil s).2 h0
    have hr : namedOk s = false := by simp [namedOk, h0]
    have Hr := Lib.hid hr
    clear h0 hr
    go_enter Tryz.func304, Tryz.ntmps304
    go_wp2_with fail
    go_ret
    exact ⟨ret_bool Hr.out.symm, Lat.refl _⟩
  · have h1 : (s.toList).isEmpty = false := by rw [Bool.eq_false_iff]; intro h; exact h0 ((ba_list_nil s).1 (List.isEmpty_iff.1 h))
    have h2 : ¬ s.toList = [] := fun h => h0 ((ba_list_nil s).1 h)
    have hr : namedOk s = decide ((s.size : Int) ≤ 64) := by
      unfold namedOk
      rw [Bool.eq_iff_iff, decide_eq_true_eq, decide_eq_true_eq]
      omega
    have Hr := Lib.hid hr
    clear h0 hr
    go_enter Tryz.func304, Tryz.ntmps304
    go_wp2_with fail
    go_ret
    exact ⟨ret_bool Hr.out.symm, Lat.refl _⟩

/-- A tag's fact whose parts may all be. -/
structure TagOk (f : Fact) : Prop where
  dot : dotOk f.dot = true
  stamp : stampOk f.stamp = true
  rep : f.dot.r = f.stamp.r
  kind : f.kind = 3
  name : namedOk f.name = true
  value : namedOk f.value = true

theorem fact_value_tag (f : Fact) (h : TagOk f) (w : World) :
    Calls Tryz.prog 305 #[.agg #[.int .i64 f.dot.r, .int .i64 f.dot.n, .int .i64 f.stamp.t, .int .i64 f.stamp.c, .int .i64 f.stamp.r, .int .i64 f.kind, .string f.name, .string f.value]] w fun e w' => e = .returned (.int .i64 0) ∧ Lat w w' := by
  have hk := h.kind
  have Hv := Lib.hid h.value
  have HN := Lib.hid (fact_named f.value)
  clear h
  obtain ⟨fd, fs, k, nm, v⟩ := f
  simp only at hk Hv HN
  subst hk
  go_enter Tryz.func305, Tryz.ntmps305
  go_upto_region 1 with (fail)
  have l0 : Lat w (w.alloc (Obj.cells #[Value.int IntKind.i64 fd.r, Value.int IntKind.i64 fd.n, Value.int IntKind.i64 fs.t, Value.int IntKind.i64 fs.c, Value.int IntKind.i64 fs.r, Value.int IntKind.i64 3, Value.string nm, Value.string v] 77)) := (by repeat (first | with_reducible exact Lat.refl _ | with_reducible assumption | with_reducible apply lat_alloc | with_reducible apply lat_drewN | with_reducible apply lat_drew))
  have k0 := (new_at w (Obj.cells #[Value.int IntKind.i64 fd.r, Value.int IntKind.i64 fd.n, Value.int IntKind.i64 fs.t, Value.int IntKind.i64 fs.c, Value.int IntKind.i64 fs.r, Value.int IntKind.i64 3, Value.string nm, Value.string v] 77))
  generalize (w.alloc (Obj.cells #[Value.int IntKind.i64 fd.r, Value.int IntKind.i64 fd.n, Value.int IntKind.i64 fs.t, Value.int IntKind.i64 fs.c, Value.int IntKind.i64 fs.r, Value.int IntKind.i64 3, Value.string nm, Value.string v] 77)) = W0 at *
  have hrefl := Lat.refl W0
  have c2 := fun W (h : Lat W0 W) => h.cell k0 5 rfl
  have c4 := fun W (h : Lat W0 W) => h.cell k0 7 rfl
  clear k0
  go_wp2_with fail
  refine (HN.out _).mono ?_
  rintro e w1 ⟨rfl, hb1⟩
  rw [Hv.out]
  go_wp2_with fail
  go_ret
  exact ⟨rfl, l0.trans (hb1.pre (by repeat (first | with_reducible exact Lat.refl _ | with_reducible assumption | with_reducible apply lat_alloc | with_reducible apply lat_drewN | with_reducible apply lat_drew)))⟩

theorem fact_Check_tag (f : Fact) (h : TagOk f) (w : World) :
    Calls Tryz.prog 191 #[.agg #[.int .i64 f.dot.r, .int .i64 f.dot.n, .int .i64 f.stamp.t, .int .i64 f.stamp.c, .int .i64 f.stamp.r, .int .i64 f.kind, .string f.name, .string f.value]] w fun e w' => e = .returned (.int .i64 0) ∧ Lat w w' := by
  have hr := h.rep
  have hk := h.kind
  have Hn := Lib.hid h.name
  have HD := Lib.hid (dot_Check_yes f.dot h.dot)
  have HS := Lib.hid (stamp_Check_yes f.stamp h.stamp)
  have HN := Lib.hid (fact_named f.name)
  have HV := Lib.hid (fact_value_tag f h)
  clear h
  obtain ⟨⟨r, n⟩, ⟨st, sc, sr⟩, k, nm, v⟩ := f
  simp only at hr hk Hn HD HS HN HV
  subst hk
  subst hr
  go_enter Tryz.func191, Tryz.ntmps191
  go_upto_region 1 with (fail)
  have l0 : Lat w (w.alloc (Obj.cells #[Value.int IntKind.i64 r, Value.int IntKind.i64 n, Value.int IntKind.i64 st, Value.int IntKind.i64 sc, Value.int IntKind.i64 r, Value.int IntKind.i64 3, Value.string nm, Value.string v] 77)) := (by repeat (first | with_reducible exact Lat.refl _ | with_reducible assumption | with_reducible apply lat_alloc | with_reducible apply lat_drewN | with_reducible apply lat_drew))
  have k0 := (new_at w (Obj.cells #[Value.int IntKind.i64 r, Value.int IntKind.i64 n, Value.int IntKind.i64 st, Value.int IntKind.i64 sc, Value.int IntKind.i64 r, Value.int IntKind.i64 3, Value.string nm, Value.string v] 77))
  generalize (w.alloc (Obj.cells #[Value.int IntKind.i64 r, Value.int IntKind.i64 n, Value.int IntKind.i64 st, Value.int IntKind.i64 sc, Value.int IntKind.i64 r, Value.int IntKind.i64 3, Value.string nm, Value.string v] 77)) = W0 at *
  have hrefl := Lat.refl W0
  have c0 := fun W (h : Lat W0 W) => h.cell k0 0 rfl
  have c1 := fun W (h : Lat W0 W) => h.cell k0 1 rfl
  have c2 := fun W (h : Lat W0 W) => h.cell k0 2 rfl
  have c3 := fun W (h : Lat W0 W) => h.cell k0 3 rfl
  have c4 := fun W (h : Lat W0 W) => h.cell k0 4 rfl
  have c5 := fun W (h : Lat W0 W) => h.cell k0 5 rfl
  have c6 := fun W (h : Lat W0 W) => h.cell k0 6 rfl
  have c7 := fun W (h : Lat W0 W) => h.cell k0 7 rfl
  clear k0
  go_wp2_with fail
  refine (HD.out _).mono ?_
  rintro e w1 ⟨rfl, hb1⟩
  have hw1 : Lat W0 w1 := hb1.pre (by repeat (first | with_reducible exact Lat.refl _ | with_reducible assumption | with_reducible apply lat_alloc | with_reducible apply lat_drewN | with_reducible apply lat_drew))
  go_wp2_with fail
  refine (HS.out _).mono ?_
  rintro e w2 ⟨rfl, hb2⟩
  have hw2 : Lat W0 w2 := hw1.trans hb2
  go_wp2_with fail
  refine (HN.out _).mono ?_
  rintro e w3 ⟨rfl, hb3⟩
  rw [Hn.out]
  have hw3 : Lat W0 w3 := hw2.trans hb3
  go_wp2_with fail
  refine (HV.out _).mono ?_
  rintro e w4 ⟨rfl, hb4⟩
  have hw4 : Lat W0 w4 := hw3.trans hb4
  go_wp2_with fail
  go_ret
  exact ⟨rfl, l0.trans hw4⟩
end Go.Proofs.YtgjffndpegjenaaGreat
