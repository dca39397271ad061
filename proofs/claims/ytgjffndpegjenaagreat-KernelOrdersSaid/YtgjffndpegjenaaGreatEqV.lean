/-
  '==' on vectors.
-/
import Derived.Test.YtgjffndpegjenaaGreatProg
import Derived.Test.YtgjffndpegjenaaGreatData
import Derived.ChangeKeysEq
import Derived.KernelRfl
import Derived.Laws.StructEq
set_option linter.unusedVariables false
set_option linter.unusedSimpArgs false
set_option linter.unusedSectionVars false
namespace Go.Proofs.YtgjffndpegjenaaGreat
open Go.RowKit

theorem vec_ext {a b : List Int} (ha : a.length = 16) (hb : b.length = 16) (h : ∀ i, i < 16 → a.getD i 0 = b.getD i 0) : a = b := by
  apply List.ext_getElem (by rw [ha, hb])
  intro i h1 h2
  have := h i (by omega)
  simpa [List.getD_eq_getElem?_getD, List.getElem?_eq_getElem h1, List.getElem?_eq_getElem h2] using this

theorem run_eqItems_vec {P : Program} {e : TypeId} (d : Nat) (a b : List Int) (ha : a.length = 16) (hb : b.length = 16) (hu : P.underlying e = some (.int .i64)) (hg : ∀ w, (isAgg e).run P w = .ok false w) (w : World) :
    ∀ is : List Nat, (∀ i ∈ is, i < 16) → (Op.eqItems (d + 1) e 1 (vcells a).toArray (vcells b).toArray is).run P w = .ok (is.all fun i => a.getD i 0 == b.getD i 0) w
  | [], _ => rfl
  | i :: is, h => by
    have hi := h i (by simp)
    have h1 : (part e (vcells a).toArray (i * 1)).run P w = .ok (.int .i64 (a.getD i 0)) w := by
      have := vcells_get a i (by omega)
      simp only [part, Sem.run_bind, hg, Result.andThen_ok, Nat.mul_one]
      simp [this]
    have h2 : (part e (vcells b).toArray (i * 1)).run P w = .ok (.int .i64 (b.getD i 0)) w := by
      have := vcells_get b i (by omega)
      simp only [part, Sem.run_bind, hg, Result.andThen_ok, Nat.mul_one]
      simp [this]
    have h3 := run_equalIn_int w d e .i64 .i64 (a.getD i 0) (b.getD i 0) hu
    have ih := run_eqItems_vec d a b ha hb hu hg w is fun j hj => h j (by simp [hj])
    simp only [Op.eqItems, Sem.run_bind, h1, h2, h3, Result.andThen_ok, List.all_cons]
    clear h3 h1 h2
    generalize (a.getD i 0 == b.getD i 0) = r
    cases r
    · simp
    · simpa using ih

theorem all_vec (a b : List Int) (ha : a.length = 16) (hb : b.length = 16) : ((List.range 16).all fun i => a.getD i 0 == b.getD i 0) = decide (a = b) := by
  by_cases h : a = b
  · subst h; simp
  · rw [decide_eq_false h, Bool.eq_false_iff]
    intro hall
    apply h
    refine vec_ext ha hb fun i hi => ?_
    have := List.all_eq_true.1 hall i (List.mem_range.2 hi)
    simpa using this
theorem eqIn_vec (a b : List Int) (ha : a.length = 16) (hb : b.length = 16) (w : World) : (Op.equalIn 10000 28 (.agg (vcells a).toArray) (.agg (vcells b).toArray)).run Tryz.prog w = .ok (decide (a = b)) w := by
  have hc : Tryz.prog.cellsOf 3 = 1 := by kernel_rfl
  obtain ⟨i, hi⟩ : ∃ i, Tryz.prog.info? 3 = some i := by
    cases h : Tryz.prog.info? 3 with
    | some i => exact ⟨i, rfl⟩
    | none =>
      exfalso
      have h1 := Tryz.sizeOf3 w
      simp [sizeOf, typeInfo, h] at h1
  refine (run_equalIn_array w 9999 _ _ Tryz.underlying28 hi).trans ?_
  rw [hc]
  refine (run_eqItems_vec 9998 a b ha hb Tryz.underlying3 Tryz.isAgg3 w _ (fun i hi => by simpa using hi)).trans ?_
  rw [all_vec a b ha hb]
theorem eql_vec (a b : List Int) (ha : a.length = 16) (hb : b.length = 16) (w : World) : (binOp .eql 28 (.agg (vcells a).toArray) (.agg (vcells b).toArray)).run Tryz.prog w = .ok (.bool (decide (a = b))) w := by
  rw [run_eql_struct, eqIn_vec a b ha hb]; rfl
theorem neq_vec (a b : List Int) (ha : a.length = 16) (hb : b.length = 16) (w : World) : (binOp .neq 28 (.agg (vcells a).toArray) (.agg (vcells b).toArray)).run Tryz.prog w = .ok (.bool (!decide (a = b))) w := by
  rw [run_neq_struct, eqIn_vec a b ha hb]; rfl
end Go.Proofs.YtgjffndpegjenaaGreat
