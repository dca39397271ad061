/-
  The small functions on dots and stamps, of the program and of the reference: what each returns; nothing that was there is turned.
-/
import Derived.Test.YtgjffndpegjenaaGreatProg
import Derived.Test.YtgjffndpegjenaaGreatData
import Derived.Test.YtgjffndpegjenaaGreatGr
import Derived.Test.YtgjffndpegjenaaGreatEq
import Derived.Outline
import Derived.Deep.QuietTactic
import Derived.BigQuiet
import Derived.WalkSpells
import Derived.WalkLawsBesides
import Derived.LoopTactic
import Derived.Lib.Hide
import Derived.Deep.RegionHeld3
set_option linter.unusedVariables false
set_option linter.unusedSimpArgs false
set_option linter.unusedSectionVars false
namespace Go.Proofs.YtgjffndpegjenaaGreat
open Go.RowKit
attribute [local go_sem] lat_alloc lat_drew lat_drewN Lat.refl
attribute [local go_sem high] eqIn_dot eqIn_stamp eqIn_fact

theorem dot_Check_yes (d : Dot) (h : dotOk d = true) (w : World) : Calls Tryz.prog 256 #[.agg #[.int .i64 d.r, .int .i64 d.n]] w fun e w' => e = .returned (.int .i64 0) ∧ Lat w w' := by
  obtain ⟨h1, h2, h3, h4⟩ := dotOk_iff.1 h
  clear h
  have h2' : d.r < 16 := by omega
  go_enter Tryz.func256, Tryz.ntmps256
  go_wp2
  go_ret
  exact ⟨rfl, lat_alloc (Lat.refl _) _⟩

theorem dot_Check_no (d : Dot) (h : dotOk d = false) (w : World) : Calls Tryz.prog 256 #[.agg #[.int .i64 d.r, .int .i64 d.n]] w fun e w' => e = .returned (.int .i64 2) ∧ Lat w w' := by
  have h' := dotOk_not.1 h
  clear h
  go_enter Tryz.func256, Tryz.ntmps256
  go_wp2
  all_goals first | omega | (go_ret; exact ⟨rfl, lat_alloc (Lat.refl _) _⟩)

theorem r11_Check_yes (d : Dot) (h : dotOk d = true) (w : World) : Calls Tryz.prog 143 #[.agg #[.int .i64 d.r, .int .i64 d.n]] w fun e w' => e = .returned (.int .i64 0) ∧ Lat w w' := by
  obtain ⟨h1, h2, h3, h4⟩ := dotOk_iff.1 h
  clear h
  go_enter Tryz.func143, Tryz.ntmps143
  go_wp2
  go_ret
  exact ⟨rfl, lat_alloc (Lat.refl _) _⟩

theorem r11_Check_no (d : Dot) (h : dotOk d = false) (w : World) : Calls Tryz.prog 143 #[.agg #[.int .i64 d.r, .int .i64 d.n]] w fun e w' => e = .returned (.int .i64 2) ∧ Lat w w' := by
  have h' := dotOk_not.1 h
  clear h
  go_enter Tryz.func143, Tryz.ntmps143
  go_wp2
  all_goals first | omega | (go_ret; exact ⟨rfl, lat_alloc (Lat.refl _) _⟩)

theorem r11_Less (a b : Dot) (w : World) : Calls Tryz.prog 200 #[.agg #[.int .i64 a.r, .int .i64 a.n], .agg #[.int .i64 b.r, .int .i64 b.n]] w fun e w' => e = .returned (.bool (dotLt a b)) ∧ Lat w w' := by
  go_enter Tryz.func200, Tryz.ntmps200
  go_wp2
  all_goals (go_ret; refine ⟨ret_bool ?_, (by repeat (first | with_reducible exact Lat.refl _ | with_reducible assumption | with_reducible apply lat_alloc | with_reducible apply lat_drewN | with_reducible apply lat_drew))⟩)
  all_goals (unfold dotLt; first | (symm; apply decide_eq_true; omega) | (symm; apply decide_eq_false; omega) | (apply decide_eq_decide.2; omega))

theorem stampOk_not {s : Stamp} : stampOk s = false ↔ (s.t < 0 ∨ 1099511627776 < s.t ∨ s.c < 0 ∨ 1099511627776 < s.c ∨ s.r < 0 ∨ 15 < s.r) := by
  rw [← Bool.not_eq_true, stampOk_iff]; omega

theorem stamp_Check_yes (s : Stamp) (h : stampOk s = true) (w : World) : Calls Tryz.prog 257 #[.agg #[.int .i64 s.t, .int .i64 s.c, .int .i64 s.r]] w fun e w' => e = .returned (.int .i64 0) ∧ Lat w w' := by
  obtain ⟨h1, h2, h3, h4, h5, h6⟩ := stampOk_iff.1 h
  clear h
  go_enter Tryz.func257, Tryz.ntmps257
  go_wp2
  go_ret
  exact ⟨rfl, (by repeat (first | with_reducible exact Lat.refl _ | with_reducible assumption | with_reducible apply lat_alloc | with_reducible apply lat_drewN | with_reducible apply lat_drew))⟩

theorem stamp_Check_no (s : Stamp) (h : stampOk s = false) (w : World) : Calls Tryz.prog 257 #[.agg #[.int .i64 s.t, .int .i64 s.c, .int .i64 s.r]] w fun e w' => e = .returned (.int .i64 2) ∧ Lat w w' := by
  have h' := stampOk_not.1 h
  clear h
  go_enter Tryz.func257, Tryz.ntmps257
  go_wp2
  all_goals first | omega | (go_ret; exact ⟨rfl, (by repeat (first | with_reducible exact Lat.refl _ | with_reducible assumption | with_reducible apply lat_alloc | with_reducible apply lat_drewN | with_reducible apply lat_drew))⟩)

theorem r14_Less (a b : Stamp) (w : World) : Calls Tryz.prog 201 #[.agg #[.int .i64 a.t, .int .i64 a.c, .int .i64 a.r], .agg #[.int .i64 b.t, .int .i64 b.c, .int .i64 b.r]] w fun e w' => e = .returned (.bool (stampLt a b)) ∧ Lat w w' := by
  go_enter Tryz.func201, Tryz.ntmps201
  go_wp2
  all_goals (go_ret; refine ⟨ret_bool ?_, (by repeat (first | with_reducible exact Lat.refl _ | with_reducible assumption | with_reducible apply lat_alloc | with_reducible apply lat_drewN | with_reducible apply lat_drew))⟩)
  all_goals (unfold stampLt; simp only [bne_iff_ne, ne_eq, bne_eq_false_iff_eq] at *; apply decide_eq_decide.2; omega)

/-- by the name, the kind, the dot, the stamp, the value -/
def factLt (a b : Fact) : Bool :=
  if a.name ≠ b.name then Op.bytesLess a.name.toList b.name.toList
  else if a.kind ≠ b.kind then decide (a.kind < b.kind)
  else if a.dot ≠ b.dot then dotLt a.dot b.dot
  else if a.stamp ≠ b.stamp then stampLt a.stamp b.stamp
  else Op.bytesLess a.value.toList b.value.toList

theorem r15_Less (a b : Fact) (w : World) : Calls Tryz.prog 89 #[.agg #[.int .i64 a.dot.r, .int .i64 a.dot.n, .int .i64 a.stamp.t, .int .i64 a.stamp.c, .int .i64 a.stamp.r, .int .i64 a.kind, .string a.name, .string a.value], .agg #[.int .i64 b.dot.r, .int .i64 b.dot.n, .int .i64 b.stamp.t, .int .i64 b.stamp.c, .int .i64 b.stamp.r, .int .i64 b.kind, .string b.name, .string b.value]] w fun e w' => e = .returned (.bool (factLt a b)) ∧ Lat w w' := by
  have hd := Lib.hid r11_Less
  have hs := Lib.hid r14_Less
  by_cases h1 : a.name = b.name
  · have t1 : (!a.name.toList == b.name.toList) = false := by simp [h1]
    by_cases h2 : a.kind = b.kind
    · have t2 : (a.kind != b.kind) = false := by simp [h2]
      by_cases h3 : a.dot = b.dot
      · have t3 : decide (a.dot = b.dot) = true := by simp [h3]
        by_cases h4 : a.stamp = b.stamp
        · have t4 : decide (a.stamp = b.stamp) = true := by simp [h4]
          have Hv : Hid (factLt a b = Op.bytesLess a.value.toList b.value.toList) := by unfold factLt; rw [if_neg (by simpa using h1), if_neg (by simpa using h2), if_neg (by simpa using h3), if_neg (by simpa using h4)]; exact rfl
          clear h1 h2 h3 h4
          go_enter Tryz.func89, Tryz.ntmps89
          go_wp2_with fail
          go_ret
          refine ⟨ret_bool Hv.out.symm, (by repeat (first | with_reducible exact Lat.refl _ | with_reducible assumption | with_reducible apply lat_alloc | with_reducible apply lat_drewN | with_reducible apply lat_drew))⟩
        · have t4 : decide (a.stamp = b.stamp) = false := by simpa using h4
          have Hv : Hid (factLt a b = stampLt a.stamp b.stamp) := by unfold factLt; rw [if_neg (by simpa using h1), if_neg (by simpa using h2), if_neg (by simpa using h3), if_pos h4]; exact rfl
          clear h1 h2 h3 h4
          go_enter Tryz.func89, Tryz.ntmps89
          go_wp2_with (go_at_call 201; refine (hs.out a.stamp b.stamp _).mono ?_; rintro e w' ⟨rfl, hb1⟩)
          go_ret
          refine ⟨ret_bool Hv.out.symm, hb1.pre (by repeat (first | with_reducible exact Lat.refl _ | with_reducible assumption | with_reducible apply lat_alloc | with_reducible apply lat_drewN | with_reducible apply lat_drew))⟩
      · have t3 : decide (a.dot = b.dot) = false := by simpa using h3
        have Hv : Hid (factLt a b = dotLt a.dot b.dot) := by unfold factLt; rw [if_neg (by simpa using h1), if_neg (by simpa using h2), if_pos h3]; exact rfl
        clear h1 h2 h3
        go_enter Tryz.func89, Tryz.ntmps89
        go_wp2_with (go_at_call 200; refine (hd.out a.dot b.dot _).mono ?_; rintro e w' ⟨rfl, hb1⟩)
        go_ret
        refine ⟨ret_bool Hv.out.symm, hb1.pre (by repeat (first | with_reducible exact Lat.refl _ | with_reducible assumption | with_reducible apply lat_alloc | with_reducible apply lat_drewN | with_reducible apply lat_drew))⟩
    · have t2 : (a.kind != b.kind) = true := by simpa using h2
      have Hv : Hid (factLt a b = decide (a.kind < b.kind)) := by unfold factLt; rw [if_neg (by simpa using h1), if_pos h2]; exact rfl
      clear h1 h2
      go_enter Tryz.func89, Tryz.ntmps89
      go_wp2_with fail
      go_ret
      refine ⟨ret_bool Hv.out.symm, (by repeat (first | with_reducible exact Lat.refl _ | with_reducible assumption | with_reducible apply lat_alloc | with_reducible apply lat_drewN | with_reducible apply lat_drew))⟩
  · have t1 : (!a.name.toList == b.name.toList) = true := by simpa using fun h => h1 (bytes_ext h)
    have Hv : Hid (factLt a b = Op.bytesLess a.name.toList b.name.toList) := by unfold factLt; rw [if_pos h1]; exact rfl
    clear h1
    go_enter Tryz.func89, Tryz.ntmps89
    go_wp2_with fail
    go_ret
    refine ⟨ret_bool Hv.out.symm, (by repeat (first | with_reducible exact Lat.refl _ | with_reducible assumption | with_reducible apply lat_alloc | with_reducible apply lat_drewN | with_reducible apply lat_drew))⟩

/-- What the tables say of the element types. -/
theorem info_dot : (Tryz.prog.info? 37).map (fun i => (i.zero, i.size, i.bytes)) = some (some (.agg #[.int .i64 0, .int .i64 0]), 2, 16) := by kernel_rfl
theorem info_fact : (Tryz.prog.info? 77).map (fun i => (i.zero, i.size, i.bytes)) = some (some (.agg #[.int .i64 0, .int .i64 0, .int .i64 0, .int .i64 0, .int .i64 0, .int .i64 0, .string ⟨#[]⟩, .string ⟨#[]⟩]), 8, 80) := by kernel_rfl
end Go.Proofs.YtgjffndpegjenaaGreat
