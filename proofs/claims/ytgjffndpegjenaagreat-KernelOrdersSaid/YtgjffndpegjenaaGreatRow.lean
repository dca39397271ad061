/-
  A row of the call's own that is written: one element set, the rest cleared, cut. And the plain law of slices.Compact's loops. No program in sight.
-/
import Derived.Test.YtgjffndpegjenaaGreatBase
import Derived.Test.YtgjffndpegjenaaGreatSortU
import Derived.Lib.SliceRun
import Derived.BigFrame
set_option linter.unusedVariables false
set_option linter.unusedSimpArgs false
set_option linter.unusedSectionVars false
namespace Go.Proofs.YtgjffndpegjenaaGreat
open Go.RowKit

/-- The cells set one by one, as a list. -/
def patch : List Value → Nat → List Value → List Value
  | xs, _, [] => xs
  | xs, o, v :: r => patch (xs.set o v) (o + 1) r
theorem patch_length : ∀ (vs : List Value) (xs : List Value) (o : Nat), (patch xs o vs).length = xs.length
  | [], _, _ => rfl
  | v :: r, xs, o => by rw [patch, patch_length r]; simp
theorem patch_get : ∀ (vs : List Value) (xs : List Value) (o t : Nat), (patch xs o vs)[t]? = if o ≤ t ∧ t < o + vs.length ∧ t < xs.length then vs[t - o]? else xs[t]?
  | [], xs, o, t => by rw [patch, if_neg (by simp; omega)]
  | v :: r, xs, o, t => by
    rw [patch, patch_get r]
    simp only [List.length_cons, List.length_set, List.getElem?_set]
    by_cases h0 : o = t
    · subst h0
      by_cases hl : o < xs.length
      · simp [hl]
        intro h; omega
      · simp [hl]
    · by_cases h1 : o + 1 ≤ t ∧ t < o + 1 + r.length ∧ t < xs.length
      · rw [if_pos h1, if_pos (by omega), show t - o = t - (o + 1) + 1 by omega, List.getElem?_cons_succ]
      · simp only [if_neg h1, if_neg h0]; rw [if_neg (by omega)]

theorem ownsRow_patch {base : Nat} {e : TypeId} {k g n cap : Nat} : ∀ (vs xs : List Value) (o : Nat) (w : World), w.ownsRow base e k (.slice (some ⟨g, 0, none⟩) n cap) n xs →
    (w.setCells g o vs).ownsRow base e k (.slice (some ⟨g, 0, none⟩) n cap) n (patch xs o vs) ∧ w.grownBy (w.setCells g o vs) (some g)
  | [], xs, o, w, h => ⟨h, World.grownBy.refl _ _⟩
  | v :: r, xs, o, w, h => by
    obtain ⟨h1, g1⟩ := h.stored o v
    obtain ⟨h2, g2⟩ := ownsRow_patch r (xs.set o v) (o + 1) _ h1
    exact ⟨h2, g1.trans g2⟩

theorem ownsRow_cut {w : World} {base : Nat} {e : TypeId} {k g n cap : Nat} {xs : List Value} (h : w.ownsRow base e k (.slice (some ⟨g, 0, none⟩) n cap) n xs) (i : Nat) (hi : i ≤ n) : w.ownsRow base e k (.slice (some ⟨g, 0, none⟩) i cap) i (xs.take (i * k)) := by
  have hle : i * k ≤ n * k := Nat.mul_le_mul_right _ hi
  rcases h.2 with ⟨h0, _⟩ | ⟨g', cap', cur, hv, hb, hh, hn, hm, hcs, ht⟩
  · injection h0 with h0; cases h0
  · injection hv with hv _ hcap; injection hv with hv; injection hv with hv
    subst hv
    subst hcap
    refine ⟨by rw [List.length_take, h.1]; omega, .inr ⟨g, cap, cur, rfl, hb, hh, by omega, hm, hcs, ?_⟩⟩
    rw [← ht, List.take_take, Nat.min_eq_left hle]

section
variable {α : Type} {enc : α → List Value} {k : Nat} {e : TypeId} {base g n cap : Nat} {w : World}

theorem flat_patch (hk : ∀ x, (enc x).length = k) (hk0 : 0 < k) (ys : List α) (i : Nat) (y : α) (hi : i < ys.length) : patch (flat enc ys) (i * k) (enc y) = flat enc (ys.set i y) := by
  apply List.ext_getElem?
  intro t
  rw [patch_get, flat_length hk, hk]
  by_cases ht : t < ys.length * k
  · have hd : t / k < ys.length := Nat.div_lt_of_lt_mul (by rwa [Nat.mul_comm] at ht)
    have hm : t % k < k := Nat.mod_lt _ hk0
    have hdm : t / k * k + t % k = t := by rw [Nat.mul_comm]; exact Nat.div_add_mod t k
    by_cases hit : i = t / k
    · subst hit
      rw [if_pos ⟨by omega, by omega, ht⟩]
      have h1 := flat_get hk (ys.set (t / k) y) (t / k) y (by simp [hd]) (t % k) ((enc y)[t % k]'(by rw [hk]; exact hm)) (List.getElem?_eq_getElem _)
      rw [hdm] at h1
      rw [h1, show t - t / k * k = t % k by omega]
      exact List.getElem?_eq_getElem _
    · have hx : ys[t / k]? = some ys[t / k] := List.getElem?_eq_getElem hd
      have hx' : (ys.set i y)[t / k]? = some ys[t / k] := by rw [List.getElem?_set_ne hit]; exact hx
      have hc : (enc ys[t / k])[t % k]? = some ((enc ys[t / k])[t % k]'(by rw [hk]; exact hm)) := List.getElem?_eq_getElem _
      have h1 := flat_get hk _ _ _ hx _ _ hc
      have h2 := flat_get hk _ _ _ hx' _ _ hc
      rw [hdm] at h1 h2
      rw [h2, if_neg, h1]
      rintro ⟨a1, a2, _⟩
      rcases Nat.lt_or_ge i (t / k) with hlt | hge
      · have : (i + 1) * k ≤ t / k * k := Nat.mul_le_mul_right _ hlt
        rw [Nat.add_mul] at this
        omega
      · have hlt : t / k < i := by omega
        have : (t / k + 1) * k ≤ i * k := Nat.mul_le_mul_right _ hlt
        rw [Nat.add_mul] at this
        omega
  · rw [if_neg (by omega), List.getElem?_eq_none (by rw [flat_length hk]; omega), List.getElem?_eq_none (by rw [flat_length hk]; simp; omega)]

/-- One element set. -/
theorem own_put (hk : ∀ x, (enc x).length = k) (hk0 : 0 < k) {ys : List α} (hn : ys.length = n) (h : Own enc k e base w (.slice (some ⟨g, 0, none⟩) n cap) ys) (i : Nat) (y : α) (hi : i < n) :
    Own enc k e base (w.setCells g (i * k) (enc y)) (.slice (some ⟨g, 0, none⟩) n cap) (ys.set i y) ∧ w.grownBy (w.setCells g (i * k) (enc y)) (some g) := by
  subst hn
  obtain ⟨h1, h2⟩ := ownsRow_patch (enc y) (flat enc ys) (i * k) w h
  rw [flat_patch hk hk0 ys i y hi] at h1
  exact ⟨by simpa [Own] using h1, h2⟩

/-- The rest cleared, and the row cut. -/
theorem own_cut (hk : ∀ x, (enc x).length = k) {ys : List α} (hn : ys.length = n) (h : Own enc k e base w (.slice (some ⟨g, 0, none⟩) n cap) ys) (i : Nat) (hi : i ≤ n) (vs : List Value) :
    Own enc k e base (w.setCells g (i * k) vs) (.slice (some ⟨g, 0, none⟩) i cap) (ys.take i) ∧ w.grownBy (w.setCells g (i * k) vs) (some g) := by
  subst hn
  obtain ⟨h1, h2⟩ := ownsRow_patch vs (flat enc ys) (i * k) w h
  refine ⟨?_, h2⟩
  have h3 := ownsRow_cut h1 i hi
  have e1 : List.take (i * k) (patch (flat enc ys) (i * k) vs) = flat enc (ys.take i) := by
    have hc : flat enc ys = flat enc (ys.take i) ++ flat enc (ys.drop i) := by rw [← flat_append, List.take_append_drop]
    have hl : (flat enc (ys.take i)).length = i * k := by rw [flat_length hk, List.length_take, Nat.min_eq_left hi]
    have : List.take (i * k) (patch (flat enc ys) (i * k) vs) = List.take (i * k) (flat enc ys) := by
      apply List.ext_getElem?
      intro t
      rw [List.getElem?_take, List.getElem?_take, patch_get]
      split
      · rw [if_neg (by omega)]
      · rfl
    rw [this, hc, List.take_append_of_le_length (by omega), List.take_of_length_le (by omega)]
  rw [e1] at h3
  simpa [Own, Nat.min_eq_left hi] using h3

theorem own_there (hk : ∀ x, (enc x).length = k) {ys : List α} (hn : ys.length = n) (h : Own enc k e base w (.slice (some ⟨g, 0, none⟩) n cap) ys) (o m : Nat) (hm : o + m ≤ n * k) : w.there g o m := fun j hj => by
  subst hn
  have h1 := World.ownsRow.cellAt h (o + j) (by omega)
  refine ⟨?_, World.ownsRow.frozenAt h _⟩
  rw [h1, List.getElem?_eq_getElem (by rw [flat_length hk]; omega)]
  rfl
theorem own_frozen {ys : List α} (hn : ys.length = n) (h : Own enc k e base w (.slice (some ⟨g, 0, none⟩) n cap) ys) (j : Nat) : w.frozen? ⟨g, j, none⟩ = false := by
  subst hn
  exact World.ownsRow.frozenAt h j
theorem own_get (hk : ∀ x, (enc x).length = k) (hk0 : 0 < k) {ys : List α} (hn : ys.length = n) (h : Own enc k e base w (.slice (some ⟨g, 0, none⟩) n cap) ys) (i : Nat) (y : α) (hi : ys[i]? = some y) : w.rangeAt g (i * k) (enc y) := fun j v hj => by
  subst hn
  have hlt : i < ys.length := (List.getElem?_eq_some_iff.1 hi).1
  have hjk : j < k := by rw [← hk y]; exact (List.getElem?_eq_some_iff.1 hj).1
  have hik : (i + 1) * k ≤ ys.length * k := Nat.mul_le_mul_right _ hlt
  rw [Nat.add_mul] at hik
  rw [World.ownsRow.cellAt h (i * k + j) (by omega)]
  exact flat_get hk ys i y hi j v hj
theorem RdS.grown {A : Option Addr} {xs : List α} {w W : World} {g : Nat} (h : RdS enc k w A xs) (hg : w.grownBy W (some g)) (hne : ∀ b o, A = some ⟨b, o, none⟩ → b ≠ g) : RdS enc k W A xs := fun hn => by
  obtain ⟨b, o, rfl, hb, hc⟩ := h hn
  have hbg := hne b o rfl
  refine ⟨b, o, rfl, Nat.lt_of_lt_of_le hb hg.size, fun i x hi j v hj => ?_⟩
  exact hg.cell (hc i x hi j v hj) (fun e => hbg (by injection e))
theorem Own.grown {e : TypeId} {base g : Nat} {v : Value} {xs : List α} {w W : World} (h : Own enc k e base w v xs) (hg : w.grownBy W (some g)) (hne : g < base) : Own enc k e base W v xs := by
  obtain ⟨h1, h2⟩ := h
  refine ⟨h1, ?_⟩
  rcases h2 with h2 | ⟨g', cap, cur, hv, hb, hh, r⟩
  · exact .inl h2
  · exact .inr ⟨g', cap, cur, hv, hb, by rw [hg.block g' (lt_of_block hh) (fun e => by injection e; omega)]; exact hh, r⟩
theorem own_ne {T e : TypeId} {base : Nat} {v : Value} {xs : List α} {w : World} (hTe : T ≠ e) (h : Own enc k e base w v xs) {b : Nat} {cs : Array Value} {fr : Nat × Nat} (hb : w.heap[b]? = some (.cells cs T fr)) : some b ≠ v.ownBlock := by
  intro hv
  rcases h.2 with ⟨rfl, _⟩ | ⟨g, cap, cur, rfl, _, hh, _⟩
  · simp [Value.ownBlock] at hv
  · have hbg : b = g := by simpa [Value.ownBlock] using hv
    subst hbg
    rw [hh] at hb
    injection hb with hb
    injection hb with _ hb _
    exact hTe hb.symm
theorem range_tail {W : World} {b o : Nat} {v : Value} {xs : List Value} (h : W.rangeAt b o (v :: xs)) : W.rangeAt b (o + 1) xs := fun j u hj => by
  have := h (j + 1) u (by simpa using hj)
  rwa [show o + (j + 1) = o + 1 + j by omega] at this
theorem range_head {W : World} {b o : Nat} {v : Value} {xs : List Value} (h : W.rangeAt b o (v :: xs)) : W.cell? ⟨b, o, none⟩ = some v := h 0 v rfl
theorem range_later {W : World} {b o : Nat} {xs ys : List Value} (h : W.rangeAt b o (xs ++ ys)) : W.rangeAt b (o + xs.length) ys := fun j u hj => by
  have := h (xs.length + j) u (by rw [List.getElem?_append_right (by omega)]; simpa using hj)
  rwa [← Nat.add_assoc] at this
theorem Lat.grown {w W : World} (h : Lat w W) (row : Option Nat) : w.grownBy W row := ⟨h.out.os, h.out.tape, h.out.output, h.out.size, fun i hi _ => h.out.block i hi⟩

theorem run_zeroValue {P : Program} {e : TypeId} {z : Value} {k bytes : Nat} (h : (P.info? e).map (fun i => (i.zero, i.size, i.bytes)) = some (some z, k, bytes)) (w : World) : (zeroValue e).run P w = .ok z w := by
  obtain ⟨i, hi, hz⟩ := Option.map_eq_some_iff.1 h
  simp only [Prod.mk.injEq] at hz
  simp [zeroValue, typeInfo, hi, hz.1]

/-- clear(s), s n > 0 elements of k cells. -/
theorem run_clear_k {P : Program} (w : World) (t e ty : TypeId) (z : Value) (ht : P.underlying t = some (.slice e)) (hv : ∀ w, (zeroValue e).run P w = .ok z w) (h1 : ∀ u ∈ z.cells.toList, u.oneCell' = true) (b o n c : Nat) (hn : 0 < n) (hz0 : 0 < z.cells.size)
    (hc : w.there b o (n * z.cells.size)) :
    (Builtin.clear_ #[t] ty #[.slice (some ⟨b, o, none⟩) n c]).run P w = .ok (.tuple #[]) (w.setCells b o (Builtin.zeroCells z.cells n).toList) := by
  have hlen : (Builtin.zeroCells z.cells n).toList.length = n * z.cells.size := by simp [Builtin.zeroCells]
  have hst := run_storeCells_cells (P := P) b o (Builtin.zeroCells z.cells n).toList 0 w (fun j hj => by simpa using (hc j (by omega)).1) (fun j hj => by simpa using (hc j (by omega)).2) (by
    intro v hv'
    simp only [Builtin.zeroCells, Array.toList_map, Array.toList_range, List.mem_map, List.mem_range] at hv'
    obtain ⟨i, _, rfl⟩ := hv'
    have : i % z.cells.size < z.cells.size := Nat.mod_lt _ hz0
    rw [getElem!_pos z.cells _ this]
    exact h1 _ (by simp))
  simp only [Nat.add_zero] at hst
  obtain ⟨m, rfl⟩ : ∃ m, n = m + 1 := ⟨n - 1, by omega⟩
  simp [Builtin.clear_, run_underlying ht, hv, hst]
end

/-! ### A variable of many cells -/
theorem range_of_block {W : World} {b : Nat} {cs : List Value} {t : TypeId} {fr : Nat × Nat} (h : W.heap[b]? = some (.cells cs.toArray t fr)) : W.rangeAt b 0 cs := fun j v hj => by
  rw [Nat.zero_add, cell_of_row W b j _ t fr h]; simpa using hj
theorem there_of_block {W : World} {b : Nat} {cs : Array Value} {t : TypeId} (h : W.heap[b]? = some (.cells cs t (0, 0))) (n : Nat) (hn : n ≤ cs.size) : W.there b 0 n := fun j hj => by
  rw [Nat.zero_add, cell_of_row W b j _ t (0, 0) h]
  exact ⟨by simp; omega, frozen_of_row W b j cs t h⟩
theorem block_put {W : World} {b : Nat} {v : List Int} {r : List Value} {t : TypeId} (h : W.heap[b]? = some (.cells (vcells v ++ r).toArray t (0, 0))) (j : Nat) (hj : j < v.length) (x : Int) : (W.setCell ⟨b, j, none⟩ (.int .i64 x)).heap[b]? = some (.cells (vcells (v.set j x) ++ r).toArray t (0, 0)) := by
  rw [heap_setCell_same W b j _ t _ h]
  simp only [List.setIfInBounds_toArray]
  rw [List.set_append_left _ _ (by rw [vcells_len]; exact hj), vcells_set]
theorem vec_put {W : World} {b : Nat} {v : List Int} {t : TypeId} (h : W.heap[b]? = some (.cells (vcells v).toArray t (0, 0))) (j : Nat) (x : Int) : (W.setCell ⟨b, j, none⟩ (.int .i64 x)).heap[b]? = some (.cells (vcells (v.set j x)).toArray t (0, 0)) := by
  rw [heap_setCell_same W b j _ t _ h, List.setIfInBounds_toArray, vcells_set]
theorem setCells_block {W : World} {t : TypeId} (b : Nat) : ∀ (vs : List Value) (o : Nat) (cs : Array Value) (W : World), W.heap[b]? = some (.cells cs t (0, 0)) → (W.setCells b o vs).heap[b]? = some (.cells (patch cs.toList o vs).toArray t (0, 0))
  | [], o, cs, W, h => by rw [World.setCells, patch]; simpa using h
  | v :: r, o, cs, W, h => by
    rw [World.setCells, patch]
    have := setCells_block (t := t) (W := W) b r (o + 1) (cs.setIfInBounds o v) _ (heap_setCell_same W b o cs t v h)
    simpa using this
theorem patch_whole (vs xs : List Value) (h : vs.length = xs.length) : patch xs 0 vs = vs := by
  apply List.ext_getElem?
  intro t
  rw [patch_get]
  split
  · simp
  · rw [List.getElem?_eq_none (by omega), List.getElem?_eq_none (by omega)]
/-- A whole variable written. -/
theorem block_whole {W : World} {b : Nat} {cs : Array Value} {t : TypeId} (h : W.heap[b]? = some (.cells cs t (0, 0))) (vs : List Value) (hl : vs.length = cs.size) : (W.setCells b 0 vs).heap[b]? = some (.cells vs.toArray t (0, 0)) := by
  rw [setCells_block (W := W) b vs 0 cs W h, patch_whole vs _ (by simpa using hl)]
theorem lat_setCells {w : World} {b : Nat} (hb : w.heap.size ≤ b) : ∀ (vs : List Value) (o : Nat) {W : World}, Lat w W → Lat w (W.setCells b o vs)
  | [], _, _, h => h
  | v :: r, o, W, h => by rw [World.setCells]; exact lat_setCells hb r (o + 1) (lat_set h (p := ⟨b, o, none⟩) hb v)
theorem setCells_other {W : World} {b k : Nat} (hne : k ≠ b) : ∀ (vs : List Value) (o : Nat) (W : World), (W.setCells b o vs).heap[k]? = W.heap[k]?
  | [], _, _ => rfl
  | v :: r, o, W => by rw [World.setCells, setCells_other (W := W) hne r, heap_setCell_other W ⟨b, o, none⟩ k v hne]

theorem results_cell {P : Program} {fn : Func} {a : Nat} {t : TypeId} (hr : fn.results = #[.cell a t]) (tmps : Array Value) (w : World) (b : Nat) (ht : tmps.getD a undef = .pointer (some ⟨b, 0, none⟩)) (cs : List Value) (d : TypeDesc) (hc : w.rangeAt b 0 cs) (hu : P.underlying t = some d) (hd : d.isRow = true) (hi : (P.info? t).map (·.size) = some cs.length) :
    (results fn tmps).run P w = .ok (.agg cs.toArray) w := by
  have := run_loadVar_mid (P := P) w b 0 t cs d hc hu hd hi
  simp only [Array.getD_eq_getD_getElem?] at ht
  simp [results, hr, ht, asAddr, this]
theorem wpList_ld {P : Program} {ops : Array Oper} {rest : List Oper} {a : Act} {w : World} {Q : Exit → Act → World → Prop} (T : TypeId) (b o : Nat) (cs : List Value) {d : TypeDesc} (hc : w.rangeAt b o cs) (hu : P.underlying T = some d) (hd : d.isRow = true)
    (hi : (P.info? T).map (·.size) = some cs.length) {x : Operand} {dst ty pos aft gd} (hx : a.eval x = .pointer (some ⟨b, o, none⟩)) (hw : Region.wanted { dst := dst, op := .load T x, type := ty, pos := pos, after := aft, guard := gd } (yielded ops a.tmps) = true)
    (h : wpList P ops Q rest (a.put dst (.agg cs.toArray)) w) :
    wpList P ops Q ({ dst := dst, op := .load T x, type := ty, pos := pos, after := aft, guard := gd } :: rest) a w :=
  BigFrame.wpList_want hw fun _ hK => wp_load_mid T x rfl b o hx cs d hc hu hd hi (hK _ _ h)
theorem wpList_st {P : Program} {ops : Array Oper} {rest : List Oper} {a : Act} {w : World} {Q : Exit → Act → World → Prop} (T : TypeId) (b o : Nat) (cs : List Value) (ht : w.there b o cs.length)
    (hi : (P.info? T).map (·.size) = some cs.length) (h1 : ∀ v ∈ cs, v.oneCell' = true) {x y : Operand} {dst ty pos aft} (hx : a.eval x = .pointer (some ⟨b, o, none⟩)) (hy : a.eval y = .agg cs.toArray) (h : wpList P ops Q rest (a.put dst undef) (w.setCells b o cs)) :
    wpList P ops Q ({ dst := dst, op := .store T x y, type := ty, pos := pos, after := aft, guard := none } :: rest) a w :=
  wpList_store_mid rfl T x y rfl b o cs.toArray hx hy (by simpa using ht) (by simpa using hi) (all_oneCell_toArray h1) (by simpa using h)
theorem results_tmp_cell {P : Program} {fn : Func} {s a : Nat} {t : TypeId} (hr : fn.results = #[.tmp s, .cell a t]) (tmps : Array Value) (w : World) (b : Nat) (ht : tmps.getD a undef = .pointer (some ⟨b, 0, none⟩)) (cs : List Value) (d : TypeDesc) (hc : w.rangeAt b 0 cs) (hu : P.underlying t = some d) (hd : d.isRow = true) (hi : (P.info? t).map (·.size) = some cs.length) :
    (results fn tmps).run P w = .ok (.tuple #[tmps.getD s undef, .agg cs.toArray]) w := by
  have := run_loadVar_mid (P := P) w b 0 t cs d hc hu hd hi
  simp only [Array.getD_eq_getD_getElem?] at ht
  simp [results, hr, ht, asAddr, this]
theorem exec_build2 {P : Program} (T : TypeId) (va vb val : Value) (hb : ∀ w, (Instr.build T #[(0, va), (1, vb)]).run P w = .ok val w) {a : Act} {x y : Operand} {dst ty pos aft gd} (hx : a.eval x = va) (hy : a.eval y = vb) (w : World) :
    (execOp a.eval { dst := dst, op := .build T #[(0, x), (1, y)], type := ty, pos := pos, after := aft, guard := gd }).run P w = .ok (.value val) w := by
  unfold execOp
  simp only [List.map_toArray, List.map_cons, List.map_nil, hx, hy, Sem.run_bind, hb, Result.andThen_ok]
  rfl
theorem wpList_build2 {P : Program} {ops : Array Oper} {rest : List Oper} {a : Act} {w : World} {Q : Exit → Act → World → Prop} (T : TypeId) (va vb val : Value) (hb : ∀ w, (Instr.build T #[(0, va), (1, vb)]).run P w = .ok val w) {x y : Operand} {dst ty pos aft gd} (hx : a.eval x = va) (hy : a.eval y = vb)
    (hw : Region.wanted { dst := dst, op := .build T #[(0, x), (1, y)], type := ty, pos := pos, after := aft, guard := gd } (yielded ops a.tmps) = true) (h : wpList P ops Q rest (a.put dst val) w) :
    wpList P ops Q ({ dst := dst, op := .build T #[(0, x), (1, y)], type := ty, pos := pos, after := aft, guard := gd } :: rest) a w :=
  BigFrame.wpList_want hw fun K hK => by
    unfold Oper.wp
    rw [exec_build2 T va vb val hb hx hy w]
    exact hK _ _ h
/-- 'v[k]' of a vector held by value. -/
theorem run_index_vec {P : Program} {t e : TypeId} (v : List Int) (hv : v.length = 16) (k : Nat) (hk : k < 16) (ht : P.underlying t = some (.array 16 e)) (ha : ∀ w, (isAgg e).run P w = .ok false w) (hs : ∀ w, (sizeOf e).run P w = .ok 1 w) (W : World) :
    (Instr.index t (.agg (vcells v).toArray) (.int .i64 (k : Int))).run P W = .ok (.int .i64 (v.getD k 0)) W := by
  have hc : (vcells v)[k]? = some (.int .i64 (v.getD k 0)) := vcells_get v k (by omega)
  have h1 : (0 : Int) ≤ (k : Int) ∧ (k : Int) < ((16 : Nat) : Int) := by omega
  simp only [Instr.index, asIntOf, Sem.run_bind, Sem.run_pure, Result.andThen_ok, run_underlying ht, if_pos h1, hs, part, ha]
  simp [hc]

theorem set_grown (w : World) (g j : Nat) (v : Value) : w.grownBy (w.setCell ⟨g, j, none⟩ v) (some g) := ⟨rfl, rfl, rfl, by simp [World.setCell], fun i _ hi => heap_setCell_other w ⟨g, j, none⟩ i v (fun e => hi (by simp [e]))⟩
theorem setCells_grown (g : Nat) : ∀ (vs : List Value) (o : Nat) (w : World), w.grownBy (w.setCells g o vs) (some g)
  | [], _, w => World.grownBy.refl _ _
  | v :: r, o, w => (set_grown w g o v).trans (setCells_grown g r (o + 1) _)

/-! ### Later but for one variable of n cells, which is there -/
structure Up (w : World) (g : Nat) (T : TypeId) (n : Nat) (W : World) : Prop where
  grown : w.grownBy W (some g)
  box : ∃ cs : Array Value, W.heap[g]? = some (.cells cs T (0, 0)) ∧ cs.size = n
section
variable {w W : World} {g : Nat} {T : TypeId} {n : Nat}
theorem Up.start {cs : Array Value} (h : w.heap[g]? = some (.cells cs T (0, 0))) (hn : cs.size = n) : Up w g T n w := ⟨World.grownBy.refl _ _, cs, h, hn⟩
theorem Up.pre {W' : World} (k : Lat W W') (h : Up w g T n W) : Up w g T n W' := by
  obtain ⟨hg, cs, hb, hn⟩ := h
  exact ⟨hg.trans ⟨k.out.os, k.out.tape, k.out.output, k.out.size, fun i hi _ => k.out.block i hi⟩, cs, k.block hb, hn⟩
theorem up_alloc (h : Up w g T n W) (o : Obj) : Up w g T n (W.alloc o) := h.pre (lat_alloc (Lat.refl _) o)
theorem up_drew (h : Up w g T n W) : Up w g T n W.drew := h.pre (lat_drew (Lat.refl _))
theorem up_drewN (h : Up w g T n W) (q : Nat) : Up w g T n (W.drewN q) := h.pre (lat_drewN (Lat.refl _) q)
theorem Up.app {w1 : World} {row : Option Nat} (h : Up w g T n W) (hgw : g < w.heap.size) (hg : W.grownBy w1 row) (hb : ∀ j, row = some j → w.heap.size ≤ j) : Up w g T n w1 := by
  obtain ⟨h1, cs, hc, hn⟩ := h
  refine ⟨⟨hg.os.trans h1.os, hg.tape.trans h1.tape, hg.output.trans h1.output, Nat.le_trans h1.size hg.size, fun i hi hne => (hg.block i (Nat.lt_of_lt_of_le hi h1.size) (fun e => by have := hb i e.symm; omega)).trans (h1.block i hi hne)⟩, cs, ?_, hn⟩
  rw [hg.block g (lt_of_block hc) (fun e => by have := hb g e.symm; omega)]
  exact hc
theorem Up.there (h : Up w g T n W) (m : Nat) (hm : m ≤ n) : W.there g 0 m := by
  obtain ⟨_, cs, hb, hn⟩ := h
  exact there_of_block hb m (by omega)
theorem Up.whole (h : Up w g T n W) (vs : List Value) (hl : vs.length = n) : (W.setCells g 0 vs).heap[g]? = some (.cells vs.toArray T (0, 0)) := by
  obtain ⟨_, cs, hb, hn⟩ := h
  exact block_whole hb vs (by omega)
theorem up_whole (h : Up w g T n W) (vs : List Value) (hl : vs.length = n) : Up w g T n (W.setCells g 0 vs) := by
  refine ⟨h.grown.trans (setCells_grown g vs 0 W), vs.toArray, h.whole vs hl, by simpa using hl⟩
theorem up_set (h : Up w g T n W) (j : Nat) (v : Value) : Up w g T n (W.setCell ⟨g, j, none⟩ v) := by
  obtain ⟨hg, cs, hb, hn⟩ := h
  exact ⟨hg.trans (set_grown W g j v), _, heap_setCell_same W g j cs T v hb, by simpa using hn⟩
theorem Up.block (h : Up w g T n W) {b : Nat} {o : Obj} (hb : w.heap[b]? = some o) (hne : b ≠ g) : W.heap[b]? = some o := by
  rw [h.grown.block b (lt_of_block hb) (fun e => hne (by injection e))]; exact hb
theorem Up.lat {w0 : World} (h : Up w g T n W) (h0 : Lat w0 w) (hg : w0.heap.size ≤ g) : Lat w0 W := lat_grown h0 h.grown (fun j hj => by injection hj with hj; omega)
end

/-! ### What slices.Compact's loops keep -/
section
variable {α : Type} [DecidableEq α]
theorem compact_snoc (l : List α) (z y : α) : compact (l ++ [z] ++ [y]) = if z = y then compact (l ++ [z]) else compact (l ++ [z]) ++ [y] := by
  induction l using compact.induct with
  | case1 => by_cases hz : z = y <;> simp [compact, hz]
  | case2 x =>
    by_cases hx : x = z <;> by_cases hz : z = y <;> simp [compact, hx, hz]
  | case3 x l ih => simpa [compact] using ih
  | case4 x w l hx ih =>
    simp only [List.cons_append, compact, if_neg hx]
    simp only [List.cons_append] at ih
    rw [ih]
    split <;> rfl

/-- Behind m looked at, kk of them kept at the row's head. -/
structure CompU (xs : List α) (m kk : Nat) (ys : List α) : Prop where
  len : ys.length = xs.length
  le : m ≤ xs.length
  lt : kk < m
  pos : 0 < kk
  low : ys.take kk = compact (xs.take m)
  high : ys.drop kk = xs.drop kk

theorem CompU.get {xs ys : List α} {m kk : Nat} (h : CompU xs m kk ys) (j : Nat) (hj : kk ≤ j) : ys[j]? = xs[j]? := by
  have := congrArg (fun l => l[j - kk]?) h.high
  simp only [List.getElem?_drop] at this
  rwa [show kk + (j - kk) = j by omega] at this
theorem take_two {xs : List α} {m : Nat} (hm : 0 < m) (hlt : m < xs.length) : xs.take (m + 1) = xs.take (m - 1) ++ [xs[m - 1]] ++ [xs[m]] := by
  rw [List.take_succ_eq_append_getElem hlt]
  congr 1
  have := List.take_succ_eq_append_getElem (l := xs) (i := m - 1) (by omega)
  rwa [show m - 1 + 1 = m by omega] at this
theorem take_one {xs : List α} {m : Nat} (hm : 0 < m) (hlt : m ≤ xs.length) : xs.take m = xs.take (m - 1) ++ [xs[m - 1]] := by
  have := List.take_succ_eq_append_getElem (l := xs) (i := m - 1) (by omega)
  rwa [show m - 1 + 1 = m by omega] at this
theorem compact_step {xs : List α} {m : Nat} (hm : 0 < m) (hlt : m < xs.length) : compact (xs.take (m + 1)) = if xs[m - 1] = xs[m] then compact (xs.take m) else compact (xs.take m) ++ [xs[m]] := by
  rw [take_two hm hlt, compact_snoc, ← take_one hm (by omega)]
theorem compact_one (xs : List α) (h : 0 < xs.length) : compact (xs.take 1) = xs.take 1 := by
  cases xs with
  | nil => simp at h
  | cons x xs => simp [compact]
theorem CompU.start {xs : List α} {k : Nat} (hk : 0 < k) (hlt : k < xs.length) (h : compact (xs.take k) = xs.take k) (he : xs[k - 1] = xs[k]) : CompU xs (k + 1) k xs :=
  ⟨rfl, by omega, by omega, hk, by rw [compact_step hk hlt, if_pos he, h], rfl⟩
theorem CompU.skip {xs ys : List α} {m kk : Nat} (h : CompU xs m kk ys) (hlt : m < xs.length) (he : xs[m - 1] = xs[m]) : CompU xs (m + 1) kk ys :=
  ⟨h.len, by omega, by have := h.lt; omega, h.pos, by rw [compact_step (by have := h.lt; omega) hlt, if_pos he, h.low], h.high⟩
theorem CompU.keep {xs ys : List α} {m kk : Nat} (h : CompU xs m kk ys) (hlt : m < xs.length) (he : xs[m - 1] ≠ xs[m]) : CompU xs (m + 1) (kk + 1) (ys.set kk xs[m]) := by
  have h1 := h.lt
  have h2 := h.len
  refine ⟨by simp [h2], by omega, by omega, by omega, ?_, ?_⟩
  · rw [compact_step (by omega) hlt, if_neg he, ← h.low, List.take_succ_eq_append_getElem (by simp; omega)]
    simp [List.take_set]
    rw [List.set_eq_of_length_le (by simp; omega)]
  · rw [List.drop_set, if_pos (by omega)]
    have := congrArg (List.drop 1) h.high
    simpa [List.drop_drop, Nat.add_comm] using this
theorem CompU.done {xs ys : List α} {kk : Nat} (h : CompU xs xs.length kk ys) : ys.take kk = compact xs := by
  have := h.low
  rwa [List.take_of_length_le (Nat.le_refl _)] at this
end
end Go.Proofs.YtgjffndpegjenaaGreat
