/-
  '==' and '!=' on dots, stamps and facts, as the model has them.
-/
import Derived.Test.YtgjffndpegjenaaGreatProg
import Derived.Test.YtgjffndpegjenaaGreatData
import Derived.Laws.StructEq
import Derived.Shelf.SlicesE.Kit
import Derived.Shelf.SlicesE.Equal
import Derived.KernelRfl
set_option linter.unusedVariables false
set_option linter.unusedSimpArgs false
set_option linter.unusedSectionVars false
namespace Go.Proofs.YtgjffndpegjenaaGreat
open Go.RowKit

theorem bytes_ext {a b : ByteArray} (h : a.toList = b.toList) : a = b := by
  rw [ByteArray.toList_eq, ByteArray.toList_eq] at h
  obtain ⟨⟨x⟩⟩ := a
  obtain ⟨⟨y⟩⟩ := b
  simpa using h
theorem bytes_iff {a b : ByteArray} : a.toList = b.toList ↔ a = b := ⟨bytes_ext, fun h => by rw [h]⟩
theorem dot_ext {x y : Dot} (h1 : x.r = y.r) (h2 : x.n = y.n) : x = y := by
  cases x; cases y; simp_all
theorem stamp_ext {x y : Stamp} (h1 : x.t = y.t) (h2 : x.c = y.c) (h3 : x.r = y.r) : x = y := by
  cases x; cases y; simp_all
theorem fact_ext {x y : Fact} (h1 : x.dot = y.dot) (h2 : x.stamp = y.stamp) (h3 : x.kind = y.kind) (h4 : x.name = y.name) (h5 : x.value = y.value) : x = y := by
  cases x; cases y; simp_all

theorem eqIn_dot (x y : Dot) (w : World) : (Op.equalIn 10000 37 (.agg #[.int .i64 x.r, .int .i64 x.n]) (.agg #[.int .i64 y.r, .int .i64 y.n])).run Tryz.prog w = .ok (decide (x = y)) w := by
  have hS : Tryz.prog.underlying 37 = some (.struct (Tryz.prog.fieldsOf 37)) := by kernel_rfl
  have hp : Tryz.prog.stoodInHeld 37 = false := by kernel_rfl
  rw [show (10000 : Nat) = 9999 + 1 from rfl, run_equalIn_agg w 9999 37 _ _ hS hp]
  simp only [Program.fieldsOf, Tryz.underlying37]
  go_simp
  by_cases h : x = y
  · subst h; simp
  · rw [decide_eq_false h]
    repeat' split
    all_goals first | rfl | exact absurd (dot_ext ‹_› ‹_›) h
theorem eql_dot (x y : Dot) (w : World) : (binOp .eql 37 (.agg #[.int .i64 x.r, .int .i64 x.n]) (.agg #[.int .i64 y.r, .int .i64 y.n])).run Tryz.prog w = .ok (.bool (decide (x = y))) w := by
  rw [run_eql_struct, eqIn_dot]; rfl
theorem neq_dot (x y : Dot) (w : World) : (binOp .neq 37 (.agg #[.int .i64 x.r, .int .i64 x.n]) (.agg #[.int .i64 y.r, .int .i64 y.n])).run Tryz.prog w = .ok (.bool (!decide (x = y))) w := by
  rw [run_neq_struct, eqIn_dot]; rfl

theorem eqIn_stamp (x y : Stamp) (w : World) : (Op.equalIn 10000 39 (.agg #[.int .i64 x.t, .int .i64 x.c, .int .i64 x.r]) (.agg #[.int .i64 y.t, .int .i64 y.c, .int .i64 y.r])).run Tryz.prog w = .ok (decide (x = y)) w := by
  have hS : Tryz.prog.underlying 39 = some (.struct (Tryz.prog.fieldsOf 39)) := by kernel_rfl
  have hp : Tryz.prog.stoodInHeld 39 = false := by kernel_rfl
  rw [show (10000 : Nat) = 9999 + 1 from rfl, run_equalIn_agg w 9999 39 _ _ hS hp]
  simp only [Program.fieldsOf, Tryz.underlying39]
  go_simp
  by_cases h : x = y
  · subst h; simp
  · rw [decide_eq_false h]
    repeat' split
    all_goals first | rfl | exact absurd (stamp_ext ‹_› ‹_› ‹_›) h
theorem eql_stamp (x y : Stamp) (w : World) : (binOp .eql 39 (.agg #[.int .i64 x.t, .int .i64 x.c, .int .i64 x.r]) (.agg #[.int .i64 y.t, .int .i64 y.c, .int .i64 y.r])).run Tryz.prog w = .ok (.bool (decide (x = y))) w := by
  rw [run_eql_struct, eqIn_stamp]; rfl
theorem neq_stamp (x y : Stamp) (w : World) : (binOp .neq 39 (.agg #[.int .i64 x.t, .int .i64 x.c, .int .i64 x.r]) (.agg #[.int .i64 y.t, .int .i64 y.c, .int .i64 y.r])).run Tryz.prog w = .ok (.bool (!decide (x = y))) w := by
  rw [run_neq_struct, eqIn_stamp]; rfl

theorem eqIn_fact (x y : Fact) (w : World) : (Op.equalIn 10000 77 (.agg #[.int .i64 x.dot.r, .int .i64 x.dot.n, .int .i64 x.stamp.t, .int .i64 x.stamp.c, .int .i64 x.stamp.r, .int .i64 x.kind, .string x.name, .string x.value]) (.agg #[.int .i64 y.dot.r, .int .i64 y.dot.n, .int .i64 y.stamp.t, .int .i64 y.stamp.c, .int .i64 y.stamp.r, .int .i64 y.kind, .string y.name, .string y.value])).run Tryz.prog w = .ok (decide (x = y)) w := by
  have hS : Tryz.prog.underlying 77 = some (.struct (Tryz.prog.fieldsOf 77)) := by kernel_rfl
  have hp : Tryz.prog.stoodInHeld 77 = false := by kernel_rfl
  rw [show (10000 : Nat) = 9999 + 1 from rfl, run_equalIn_agg w 9999 77 _ _ hS hp]
  simp only [Program.fieldsOf, Tryz.underlying77]
  go_simp
  by_cases h : x = y
  · subst h; simp
  · rw [decide_eq_false h]
    repeat' split
    all_goals first | rfl | exact absurd (fact_ext (dot_ext ‹_› ‹_›) (stamp_ext ‹_› ‹_› ‹_›) ‹_› (bytes_ext ‹_›) (bytes_ext ‹_›)) h
theorem eql_fact (x y : Fact) (w : World) : (binOp .eql 77 (.agg #[.int .i64 x.dot.r, .int .i64 x.dot.n, .int .i64 x.stamp.t, .int .i64 x.stamp.c, .int .i64 x.stamp.r, .int .i64 x.kind, .string x.name, .string x.value]) (.agg #[.int .i64 y.dot.r, .int .i64 y.dot.n, .int .i64 y.stamp.t, .int .i64 y.stamp.c, .int .i64 y.stamp.r, .int .i64 y.kind, .string y.name, .string y.value])).run Tryz.prog w = .ok (.bool (decide (x = y))) w := by
  rw [run_eql_struct, eqIn_fact]; rfl
theorem neq_fact (x y : Fact) (w : World) : (binOp .neq 77 (.agg #[.int .i64 x.dot.r, .int .i64 x.dot.n, .int .i64 x.stamp.t, .int .i64 x.stamp.c, .int .i64 x.stamp.r, .int .i64 x.kind, .string x.name, .string x.value]) (.agg #[.int .i64 y.dot.r, .int .i64 y.dot.n, .int .i64 y.stamp.t, .int .i64 y.stamp.c, .int .i64 y.stamp.r, .int .i64 y.kind, .string y.name, .string y.value])).run Tryz.prog w = .ok (.bool (!decide (x = y))) w := by
  rw [run_neq_struct, eqIn_fact]; rfl

end Go.Proofs.YtgjffndpegjenaaGreat
