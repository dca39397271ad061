/-
  The program's data: dots, stamps, facts, contexts, and how they lie in memory.
-/
import Derived.Test.YtgjffndpegjenaaGreatBase
set_option linter.unusedVariables false
set_option linter.unusedSimpArgs false
set_option linter.unusedSectionVars false
namespace Go.Proofs.YtgjffndpegjenaaGreat
open Go.RowKit

structure Dot where
  r : Int
  n : Int
  deriving DecidableEq, Inhabited
structure Stamp where
  t : Int
  c : Int
  r : Int
  deriving DecidableEq, Inhabited
structure Fact where
  dot : Dot
  stamp : Stamp
  kind : Int
  name : ByteArray
  value : ByteArray
  deriving DecidableEq, Inhabited

def encDot (d : Dot) : List Value := [.int .i64 d.r, .int .i64 d.n]
def encFact (f : Fact) : List Value := [.int .i64 f.dot.r, .int .i64 f.dot.n, .int .i64 f.stamp.t, .int .i64 f.stamp.c, .int .i64 f.stamp.r, .int .i64 f.kind, .string f.name, .string f.value]
theorem encDot_len (d : Dot) : (encDot d).length = 2 := rfl
theorem encFact_len (f : Fact) : (encFact f).length = 8 := rfl
theorem encDot_one (d : Dot) : ∀ u ∈ encDot d, u.oneCell' = true := by
  intro u hu
  simp only [encDot, List.mem_cons, List.not_mem_nil, or_false] at hu
  rcases hu with rfl | rfl <;> rfl
theorem encFact_one (d : Fact) : ∀ u ∈ encFact d, u.oneCell' = true := by
  intro u hu
  simp only [encFact, List.mem_cons, List.not_mem_nil, or_false] at hu
  rcases hu with rfl | rfl | rfl | rfl | rfl | rfl | rfl | rfl <;> rfl

/-- A vector's cells. -/
def vcells (v : List Int) : List Value := v.map (.int .i64)
def vget (v : List Int) (i : Int) : Int := v.getD i.toNat 0
theorem vcells_len (v : List Int) : (vcells v).length = v.length := by simp [vcells]
theorem vcells_get (v : List Int) (j : Nat) (hj : j < v.length) : (vcells v)[j]? = some (.int .i64 (v.getD j 0)) := by
  simp [vcells, List.getElem?_eq_getElem hj, List.getD_eq_getElem?_getD]
theorem vcells_set (v : List Int) (j : Nat) (x : Int) : (vcells v).set j (.int .i64 x) = vcells (v.set j x) := by simp [vcells, List.map_set]
theorem vcells_one (v : List Int) : ∀ u ∈ vcells v, u.oneCell' = true := by
  intro u hu
  simp only [vcells, List.mem_map] at hu
  obtain ⟨x, _, rfl⟩ := hu
  rfl

/-- A context as it lies in memory: its vector, and where its cloud lies. -/
structure CtxV where
  v : List Int
  A : Option Addr
  cap : Nat
  cloud : List Dot
def ctxCells (x : CtxV) : List Value := vcells x.v ++ [.slice x.A x.cloud.length x.cap]
theorem ctxCells_len (x : CtxV) (h : x.v.length = 16) : (ctxCells x).length = 17 := by simp [ctxCells, vcells_len, h]
theorem ctxCells_one (x : CtxV) : ∀ u ∈ ctxCells x, u.oneCell' = true := by
  intro u hu
  simp only [ctxCells, List.mem_append, List.mem_singleton] at hu
  rcases hu with hu | rfl
  · exact vcells_one _ u hu
  · rfl
/-- What a context is good for at a world. -/
structure CtxOk (w : World) (x : CtxV) : Prop where
  len : x.v.length = 16
  small : x.cloud.length ≤ 1099511627776
  rd : RdS encDot 2 w x.A x.cloud
theorem CtxOk.later {w W : World} {x : CtxV} (h : CtxOk w x) (hl : Lat w W) : CtxOk W x := ⟨h.len, h.small, h.rd.later hl⟩

/-! ### What the small functions say -/
def dotOk (d : Dot) : Bool := decide (0 ≤ d.r ∧ d.r ≤ 15 ∧ 1 ≤ d.n ∧ d.n ≤ 1099511627776)
def dotLt (a b : Dot) : Bool := decide (a.r < b.r ∨ a.r = b.r ∧ a.n < b.n)
def stampOk (s : Stamp) : Bool := decide (0 ≤ s.t ∧ s.t ≤ 1099511627776 ∧ 0 ≤ s.c ∧ s.c ≤ 1099511627776 ∧ 0 ≤ s.r ∧ s.r ≤ 15)
def stampLt (a b : Stamp) : Bool := decide (a.t < b.t ∨ a.t = b.t ∧ (a.c < b.c ∨ a.c = b.c ∧ a.r < b.r))
theorem dotOk_iff {d : Dot} : dotOk d = true ↔ 0 ≤ d.r ∧ d.r ≤ 15 ∧ 1 ≤ d.n ∧ d.n ≤ 1099511627776 := by simp [dotOk]
theorem dotOk_not {d : Dot} : dotOk d = false ↔ (d.r < 0 ∨ 15 < d.r ∨ d.n < 1 ∨ 1099511627776 < d.n) := by
  rw [← Bool.not_eq_true, dotOk_iff]; omega
theorem dotLt_iff {a b : Dot} : dotLt a b = true ↔ (a.r < b.r ∨ a.r = b.r ∧ a.n < b.n) := by simp [dotLt]
theorem stampOk_iff {s : Stamp} : stampOk s = true ↔ 0 ≤ s.t ∧ s.t ≤ 1099511627776 ∧ 0 ≤ s.c ∧ s.c ≤ 1099511627776 ∧ 0 ≤ s.r ∧ s.r ≤ 15 := by simp [stampOk]
end Go.Proofs.YtgjffndpegjenaaGreat
