/-
  Contexts: what they come to (plain), and how they lie.
-/
import Derived.Test.YtgjffndpegjenaaGreatVec
import Derived.Test.YtgjffndpegjenaaGreatSortU
import Derived.Test.YtgjffndpegjenaaGreatRow
set_option linter.unusedVariables false
set_option linter.unusedSimpArgs false
set_option linter.unusedSectionVars false
namespace Go.Proofs.YtgjffndpegjenaaGreat
open Go.RowKit

def cHas (v : List Int) (cl : List Dot) (d : Dot) : Bool := vHas v d || (dotOk d && decide (d ∈ cl))
def clamp (n : Int) : Int := max 0 (min n 1099511627776)
def clampTo (v : List Int) (k : Nat) : List Int := (List.range 16).map fun j => if j < k then clamp (v.getD j 0) else 0
theorem clampTo_len (v : List Int) (k : Nat) : (clampTo v k).length = 16 := by simp [clampTo]
theorem clampTo_get (v : List Int) (k j : Nat) (hj : j < 16) : (clampTo v k).getD j 0 = if j < k then clamp (v.getD j 0) else 0 := by
  simp [clampTo, List.getD_eq_getElem?_getD, hj]
theorem clampTo_succ (v : List Int) (k : Nat) (hk : k < 16) : (clampTo v k).set k (clamp (v.getD k 0)) = clampTo v (k + 1) := by
  apply List.ext_getElem
  · simp [clampTo]
  · intro i h1 h2
    simp only [List.getElem_set, clampTo, List.getElem_map, List.getElem_range]
    by_cases h : k = i
    · subst h; simp
    · rw [if_neg h]
      by_cases h' : i < k
      · rw [if_pos h', if_pos (by omega)]
      · rw [if_neg h', if_neg (by omega)]
theorem clamp_bound (n : Int) : 0 ≤ clamp n ∧ clamp n ≤ 1099511627776 := by unfold clamp; omega

/-- One dot more into a vector and what is beyond it. -/
def cStep (s : List Int × List Dot) (d : Dot) : List Int × List Dot :=
  if dotOk d = false ∨ vHas s.1 d = true then s
  else if d.n = vget s.1 d.r + 1 then (s.1.set d.r.toNat (vget s.1 d.r + 1), s.2)
  else (s.1, s.2 ++ [d])
def cRun (v : List Int) (l : List Dot) : List Int × List Dot := l.foldl cStep (clampTo v 16, [])
/-- causal.Clean. -/
def cClean (v : List Int) (cl : List Dot) : List Int × List Dot := cRun v (sortU dotLt cl)
theorem cRun_snoc (v : List Int) (l : List Dot) (d : Dot) : cRun v (l ++ [d]) = cStep (cRun v l) d := by simp [cRun, List.foldl_append]
theorem cStep_len (s : List Int × List Dot) (d : Dot) : (cStep s d).1.length = s.1.length := by unfold cStep; split <;> (try split) <;> simp
theorem cRun_len (v : List Int) (l : List Dot) : (cRun v l).1.length = 16 := by
  unfold cRun
  suffices h : ∀ s : List Int × List Dot, (l.foldl cStep s).1.length = s.1.length by rw [h]; exact clampTo_len _ _
  induction l with
  | nil => intro s; rfl
  | cons d l ih => intro s; rw [List.foldl_cons, ih, cStep_len]
theorem cStep_cloud (s : List Int × List Dot) (d : Dot) : (cStep s d).2.length ≤ s.2.length + 1 := by unfold cStep; split <;> (try split) <;> simp
theorem cRun_cloud (v : List Int) (l : List Dot) : (cRun v l).2.length ≤ l.length := by
  unfold cRun
  suffices h : ∀ s : List Int × List Dot, (l.foldl cStep s).2.length ≤ s.2.length + l.length by simpa using h (clampTo v 16, [])
  induction l with
  | nil => intro s; simp
  | cons d l ih =>
    intro s
    rw [List.foldl_cons]
    have := ih (cStep s d)
    have := cStep_cloud s d
    simp only [List.length_cons]
    omega
theorem clean_len {v v' : List Int} {cl cl' : List Dot} (h : (v', cl') = cClean v cl) : v'.length = 16 := by
  have := congrArg Prod.fst h
  simp only [cClean] at this
  rw [this, cRun_len]
theorem clean_small {v v' : List Int} {cl cl' : List Dot} (h : (v', cl') = cClean v cl) : cl'.length ≤ cl.length := by
  have := congrArg Prod.snd h
  simp only [cClean] at this
  rw [this]
  exact Nat.le_trans (cRun_cloud _ _) (sortU_length_le _ _)
/-- The vector's numbers stay between naught and 2^40. -/
def vIn (v : List Int) : Prop := ∀ j, 0 ≤ v.getD j 0 ∧ v.getD j 0 ≤ 1099511627776
theorem vIn_set {v : List Int} (h : vIn v) (i : Nat) {n : Int} (h0 : 0 ≤ n) (h1 : n ≤ 1099511627776) : vIn (v.set i n) := by
  intro j
  simp only [List.getD_eq_getElem?_getD, List.getElem?_set]
  by_cases hij : i = j
  · subst hij
    by_cases hl : i < v.length
    · simp [hl, h0, h1]
    · simp [hl]
  · simpa [hij, List.getD_eq_getElem?_getD] using h j
theorem vIn_clamp (v : List Int) (k : Nat) : vIn (clampTo v k) := by
  intro j
  rcases Nat.lt_or_ge j 16 with hj | hj
  · rw [clampTo_get v k j hj]
    split
    · exact clamp_bound _
    · omega
  · have : (clampTo v k).getD j 0 = 0 := by
      have hn : (clampTo v k)[j]? = none := List.getElem?_eq_none (by rw [clampTo_len]; exact hj)
      rw [List.getD_eq_getElem?_getD, hn]; rfl
    omega
theorem vIn_step {s : List Int × List Dot} (h : vIn s.1) (d : Dot) : vIn (cStep s d).1 := by
  unfold cStep
  split
  · exact h
  · rename_i hn
    split
    · rename_i he
      have hok : dotOk d = true := by
        cases hq : dotOk d
        · exact absurd (Or.inl hq) hn
        · rfl
      have := dotOk_iff.1 hok
      exact vIn_set h _ (by omega) (by omega)
    · exact h
theorem vIn_run (v : List Int) (l : List Dot) : vIn (cRun v l).1 := by
  unfold cRun
  suffices h : ∀ s : List Int × List Dot, vIn s.1 → vIn (l.foldl cStep s).1 from h _ (vIn_clamp _ _)
  induction l with
  | nil => intro s h; exact h
  | cons d l ih => intro s h; rw [List.foldl_cons]; exact ih _ (vIn_step h d)

/-! ### How a context lies -/
theorem range_prefix {W : World} {b o : Nat} {xs ys : List Value} (h : W.rangeAt b o (xs ++ ys)) : W.rangeAt b o xs := fun j v hj => h j v (by rw [List.getElem?_append_left (List.getElem?_eq_some_iff.1 hj).1]; exact hj)
section
variable {w W : World} {b : Nat} {T : TypeId} {x : CtxV}
theorem ctx_whole (h : w.heap[b]? = some (.cells (ctxCells x).toArray T (0, 0))) (hl : Lat w W) : W.rangeAt b 0 (ctxCells x) := range_of_block (hl.block h)
theorem ctx_vec (h : w.heap[b]? = some (.cells (ctxCells x).toArray T (0, 0))) (hl : Lat w W) : W.rangeAt b 0 (vcells x.v) := range_prefix (ctx_whole h hl)
theorem ctx_slice (hx : x.v.length = 16) (h : w.heap[b]? = some (.cells (ctxCells x).toArray T (0, 0))) (hl : Lat w W) : W.cell? ⟨b, 16, none⟩ = some (.slice x.A x.cloud.length x.cap) :=
  hl.cell h 16 (by simp [ctxCells, List.getElem?_append_right, vcells_len, hx])
theorem ctx_get (hx : x.v.length = 16) (h : w.heap[b]? = some (.cells (ctxCells x).toArray T (0, 0))) (hl : Lat w W) (j : Nat) (hj : j < 16) : W.cell? ⟨b, j, none⟩ = some (.int .i64 (x.v.getD j 0)) := by
  refine hl.cell h j ?_
  have := vcells_get x.v j (by omega)
  simp only [ctxCells, List.getElem?_toArray]
  rw [List.getElem?_append_left (by rw [vcells_len]; omega)]
  exact this
theorem ctx_put_slice (hx : x.v.length = 16) (h : w.heap[b]? = some (.cells (ctxCells x).toArray T (0, 0))) (A : Option Addr) (cl : List Dot) (c : Nat) : (w.setCell ⟨b, 16, none⟩ (.slice A cl.length c)).heap[b]? = some (.cells (ctxCells ⟨x.v, A, c, cl⟩).toArray T (0, 0)) := by
  rw [heap_setCell_same w b 16 _ T _ h]
  simp only [List.setIfInBounds_toArray, ctxCells]
  rw [List.set_append_right _ _ (by rw [vcells_len, hx]; omega), vcells_len, hx]
  rfl
theorem ctx_put (hx : x.v.length = 16) (h : w.heap[b]? = some (.cells (ctxCells x).toArray T (0, 0))) (j : Nat) (hj : j < 16) (n : Int) : (w.setCell ⟨b, j, none⟩ (.int .i64 n)).heap[b]? = some (.cells (ctxCells ⟨x.v.set j n, x.A, x.cap, x.cloud⟩).toArray T (0, 0)) :=
  block_put h j (by omega) n
end
end Go.Proofs.YtgjffndpegjenaaGreat
