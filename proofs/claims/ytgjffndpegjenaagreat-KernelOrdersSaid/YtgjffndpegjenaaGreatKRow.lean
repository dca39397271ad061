/-
  KernelOrders: whatever deltas of unlike dots are applied, in whatever order, some of them twice, the law's call returns true, and its arguments read as before. No condition on the input.
-/
import Derived.Test.YtgjffndpegjenaaGreatRows
import Derived.Test.YtgjffndpegjenaaGreatKFacts
import Derived.Test.YtgjffndpegjenaaGreatKLaw
import Derived.Test.YtgjffndpegjenaaGreatOpen
import Derived.WalkKit
import Derived.ProofKit
import Derived.OpenShut
import Derived.ShutString
import Derived.ChangeOld
import Derived.Below
import Derived.SizedLaws
namespace Go.Proofs.YtgjffndpegjenaaGreat.kernelOrders
open Go.ChangeShapes Go.WideShapes Go.ChangeAt Go.RowKit
theorem own : ownKnob Tryz.prog.godebug = none := by kernel_rfl
theorem laidOut : laidOutB Tryz.prog = true := by kernel_rfl
set_option maxRecDepth 100000 in
theorem lifted (os : Os) (started : os.Started) (H : Type) (enc : TypeId × Value → H) :
    ReturnsInHanded {} Tryz.checked os 3 .any (Rows.kernelOrdersSpec.pre6 enc Tryz.prog Tryz.f3 Rows.kernelOrdersRow.domain false) (Rows.kernelOrdersSpec.post enc Tryz.prog Tryz.f3 false true false false) := by
  refine returnsInHanded_of_change_sized (C := Tryz.checked) own started (by kernel_rfl) Tryz.func3
    (ChangeSpec.witness6 (enc := enc) (C := Tryz.checked) false ⟨#[], #[.slice none 0 0, .slice none 0 0], []⟩ 8 (by kernel_rfl) (by kernel_rfl) (by kernel_rfl) (by kernel_rfl)) ?_
  intro W base args ds gs before hval0 hW hcnd hsz0 _
  have hval : ∀ (j : Nat) t v, Tryz.f3.params[j]? = some t → args[j]? = some v → Value.okWide Tryz.prog W .any base t v := hval0
  have hW' := hW
  obtain ⟨p, q, hA0, hV, rfl, hfz, hnd⟩ := hW
  have hA : DataW.TrodAll enc Tryz.prog W 0 (fun _ => true) true Tryz.f3.params.toList args.toList ds p := hA0
  rw [Tryz.params3] at hA hval
  obtain ⟨v0, vs0, d0, ds0, p0, q0, hargs, rfl, rfl, h0, r0⟩ := trodAll_cons hA
  obtain ⟨v1, vs1, d1, ds1, p1, q1, rfl, rfl, rfl, h1, r1⟩ := trodAll_cons r0
  obtain ⟨rfl, rfl, rfl⟩ := trodAll_nil r1
  obtain rfl : args = #[v0, v1] := by cases args; simp_all
  obtain ⟨rfl, rfl⟩ := trodVars_none hV
  obtain ⟨a0, len0, cap0, rfl⟩ := okWide_slice Tryz.underlying22 (hval 0 22 v0 rfl rfl)
  have k0 := h0
  have lt0 : ∀ x ∈ p0, x.block < W.heap.size := by obtain ⟨m, hm⟩ := k0; exact DataW.trod_lt m _ _ _ hm
  obtain ⟨a1, len1, cap1, rfl⟩ := okWide_slice Tryz.underlying23 (hval 1 23 v1 rfl rfl)
  have k1 := h1
  have lt1 : ∀ x ∈ p1, x.block < W.heap.size := by obtain ⟨m, hm⟩ := k1; exact DataW.trod_lt m _ _ _ hm
  obtain ⟨fuel0, hf0⟩ := h0
  obtain ⟨s0, hcs0, g0⟩ := opens_slice (k := 7) (by omega) Tryz.underlying22 (by kernel_rfl) opens_Delta enc (fun _ => true) true fuel0 _ _ hf0
  simp only [Value.cells, encSl, List.cons.injEq, Value.slice.injEq, and_true] at hcs0
  obtain ⟨rfl, rfl, rfl⟩ := hcs0
  obtain ⟨fuel1, hf1⟩ := h1
  obtain ⟨s1, hcs1, g1⟩ := opens_slice (k := 1) (by omega) Tryz.underlying23 (by kernel_rfl) (opens_int Tryz.underlying5) enc (fun _ => true) true fuel1 _ _ hf1
  simp only [Value.cells, encSl, List.cons.injEq, Value.slice.injEq, and_true] at hcs1
  obtain ⟨rfl, rfl, rfl⟩ := hcs1
  clear hA0 hval0 hsz0
  refine (l16_KernelOrders s0.A _ s0.cap s0.xs rfl (Nat.le_trans g0.cap.1 g0.cap.2) W g0.rd (fun d hd => ⟨(g0.all d hd).ok, (g0.all d hd).fl⟩) s1.A _ s1.cap s1.xs rfl (Nat.le_trans g1.cap.1 g1.cap.2) g1.rd (fun q hq => bounds_u8 (g1.all q hq))).mono fun e W' ⟨he, lat⟩ => ?_
  subst he
  have bel := lat.out
  exact ⟨_, rfl, _, _, _, [], _, [], hW', trodAll_mk1 (shut_bool Tryz.underlying4 _), (trodAll_cons_mk (Below.trod laidOut (by kernel_rfl) (of_decide_eq_true (by kernel_rfl)) k0 bel lt0) (trodAll_cons_mk (Below.trod laidOut (by kernel_rfl) (of_decide_eq_true (by kernel_rfl)) k1 bel lt1) trodAll_mk0)), rfl, bel.frame _, fun h => by cases h⟩
theorem over : Rows.kernelOrdersRow.holds Tryz.pinned (OpenSpec.ofChange Rows.kernelOrdersSpec) :=
  OpenClaim.holds_of_wide 3 Tryz.f3 rfl rfl rfl rfl rfl rfl rfl ⟨rfl, rfl, rfl, rfl, rfl⟩ rfl rfl rfl rfl rfl named_ Tryz.func3 closed inst_ wrap_
    (fun os started H enc _ => lifted os started H enc)
theorem proved : Rows.KernelOrdersSaid := over
#print axioms proved
end Go.Proofs.YtgjffndpegjenaaGreat.kernelOrders
set_option linter.unusedVariables false
set_option linter.unusedSimpArgs false
set_option linter.unusedSectionVars false
namespace Go.Proofs.YtgjffndpegjenaaGreat
/-- The row, under a short name, for the claim. -/
theorem kernelOrders_holds : Rows.KernelOrdersSaid := kernelOrders.proved
end Go.Proofs.YtgjffndpegjenaaGreat
