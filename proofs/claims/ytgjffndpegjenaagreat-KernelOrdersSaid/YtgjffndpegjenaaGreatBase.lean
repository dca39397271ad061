/-
  What all texts of this seat lean on: data as they lie in memory, and worlds that come later. No program in sight.
-/
import Derived.Below
import Derived.Laws.OwnMore
import Derived.Deep.MidRow
import Derived.Deep.Draws
import Derived.Deep.AppendLies
import Derived.Maps.AppendAt
import Derived.WalkKit
set_option linter.unusedVariables false
set_option linter.unusedSimpArgs false
set_option linter.unusedSectionVars false
namespace Go.Proofs.YtgjffndpegjenaaGreat
open Go.RowKit

/-! ### Worlds that come later: what was there is as it was -/

structure Lat (w W : World) : Prop where
  out : Below w.heap.size w W

theorem Lat.refl (w : World) : Lat w w := ⟨Below.refl _ _⟩
theorem Lat.size {w W : World} (h : Lat w W) : w.heap.size ≤ W.heap.size := h.out.size
theorem Lat.trans {a b c : World} (h : Lat a b) (k : Lat b c) : Lat a c := ⟨h.out.trans (k.out.mono h.out.size)⟩
theorem Lat.pre {a b c : World} (k : Lat b c) (h : Lat a b) : Lat a c := h.trans k
theorem lat_alloc {w W : World} (h : Lat w W) (o : Obj) : Lat w (W.alloc o) := ⟨h.out.alloc h.out.size o⟩
theorem lat_drew {w W : World} (h : Lat w W) : Lat w W.drew := ⟨h.out.drew⟩
theorem lat_drewN {w W : World} (h : Lat w W) (n : Nat) : Lat w (W.drewN n) := ⟨h.out.os, h.out.tape, h.out.output, h.out.size, h.out.block⟩
theorem lat_set {w W : World} (h : Lat w W) {p : Addr} (hp : w.heap.size ≤ p.block) (u : Value) : Lat w (W.setCell p u) := ⟨h.out.setCell hp u⟩
theorem lat_grown {w W W1 : World} {row : Option Nat} (h : Lat w W) (hg : W.grownBy W1 row) (hr : ∀ k, row = some k → w.heap.size ≤ k) : Lat w W1 := ⟨h.out.grown hg h.out.size hr⟩

theorem heap_alloc_get (w : World) (o : Obj) (i : Nat) : (w.alloc o).heap[i]? = if i = w.heap.size then some o else w.heap[i]? := by
  show (w.heap.push o)[i]? = _
  rw [Array.getElem?_push]

theorem lt_of_block {w : World} {b : Nat} {o : Obj} (hb : w.heap[b]? = some o) : b < w.heap.size := by
  rcases Nat.lt_or_ge b w.heap.size with hlt | hge
  · exact hlt
  · rw [Array.getElem?_eq_none hge] at hb; cases hb

theorem Lat.block {w W : World} (h : Lat w W) {b : Nat} {o : Obj} (hb : w.heap[b]? = some o) : W.heap[b]? = some o := by
  rw [h.out.block b (lt_of_block hb)]; exact hb

theorem Lat.cell {w W : World} (h : Lat w W) {b : Nat} {cs : Array Value} {t : TypeId} {fr : Nat × Nat} (hb : w.heap[b]? = some (.cells cs t fr)) (j : Nat) {v : Value} (hj : cs[j]? = some v) : W.cell? ⟨b, j, none⟩ = some v := by
  rw [cell_of_row W b j cs t fr (h.block hb)]; exact hj

theorem Lat.frozen {w W : World} (h : Lat w W) {b : Nat} {cs : Array Value} {t : TypeId} (hb : w.heap[b]? = some (.cells cs t (0, 0))) (j : Nat) : W.frozen? ⟨b, j, none⟩ = false :=
  frozen_of_row W b j cs t (h.block hb)

theorem Lat.at_ {w W : World} (h : Lat w W) {b j : Nat} {v : Value} (hc : w.cell? ⟨b, j, none⟩ = some v) : W.cell? ⟨b, j, none⟩ = some v := by
  rw [h.out.cell (block_lt_of_cell hc)]; exact hc

theorem Lat.range {w W : World} (h : Lat w W) {b o : Nat} {cs : List Value} (hr : w.rangeAt b o cs) : W.rangeAt b o cs := fun j v hj => h.at_ (hr j v hj)

/-- A new block, in whatever world comes later. -/
theorem new_at (w : World) (o : Obj) : (w.alloc o).heap[w.heap.size]? = some o := by rw [heap_alloc_get, if_pos rfl]
theorem old_at {w : World} (o : Obj) {b : Nat} {p : Obj} (h : w.heap[b]? = some p) : (w.alloc o).heap[b]? = some p := by
  rw [heap_alloc_get, if_neg (Nat.ne_of_lt (lt_of_block h))]; exact h
theorem new2_at (w : World) (o p : Obj) : ((w.alloc o).alloc p).heap[w.heap.size + 1]? = some p := by
  have := new_at (w.alloc o) p
  rwa [show (w.alloc o).heap.size = w.heap.size + 1 by simp] at this
theorem new3_at (w : World) (o p q : Obj) : (((w.alloc o).alloc p).alloc q).heap[w.heap.size + 2]? = some q := by
  have := new_at ((w.alloc o).alloc p) q
  rwa [show ((w.alloc o).alloc p).heap.size = w.heap.size + 2 by simp] at this
theorem new4_at (w : World) (o p q r : Obj) : ((((w.alloc o).alloc p).alloc q).alloc r).heap[w.heap.size + 3]? = some r := by
  have := new_at (((w.alloc o).alloc p).alloc q) r
  rwa [show (((w.alloc o).alloc p).alloc q).heap.size = w.heap.size + 3 by simp] at this

theorem cell_new1 (w : World) (v : Value) (t : TypeId) : (w.alloc (.cells #[v] t)).cell? ⟨w.heap.size, 0, none⟩ = some v := by
  rw [cell_of_row _ _ 0 #[v] t (0, 0) (new_at _ _)]; rfl

/-! ### Lists of elements of k cells -/

/-- What lies in a slice's row. -/
def flat {α : Type} (enc : α → List Value) (xs : List α) : List Value := xs.flatMap enc
theorem flat_nil {α : Type} (enc : α → List Value) : flat enc [] = [] := rfl
theorem flat_cons {α : Type} (enc : α → List Value) (x : α) (xs : List α) : flat enc (x :: xs) = enc x ++ flat enc xs := rfl
theorem flat_append {α : Type} (enc : α → List Value) (xs ys : List α) : flat enc (xs ++ ys) = flat enc xs ++ flat enc ys := by simp [flat]
theorem flat_one {α : Type} (enc : α → List Value) (x : α) : flat enc [x] = enc x := by simp [flat]
theorem flat_length {α : Type} {enc : α → List Value} {k : Nat} (hk : ∀ x, (enc x).length = k) (xs : List α) : (flat enc xs).length = xs.length * k := by
  induction xs with
  | nil => simp [flat]
  | cons x xs ih => rw [flat_cons, List.length_append, hk, ih, List.length_cons, Nat.add_mul, Nat.one_mul, Nat.add_comm]
theorem flat_get {α : Type} {enc : α → List Value} {k : Nat} (hk : ∀ x, (enc x).length = k) (xs : List α) (i : Nat) (x : α) (hi : xs[i]? = some x) (j : Nat) (v : Value) (hj : (enc x)[j]? = some v) : (flat enc xs)[i * k + j]? = some v := by
  induction xs generalizing i with
  | nil => simp at hi
  | cons y ys ih =>
    rw [flat_cons]
    cases i with
    | zero =>
      simp only [List.getElem?_cons_zero, Option.some.injEq] at hi
      subst hi
      have hlt : j < (enc y).length := (List.getElem?_eq_some_iff.1 hj).1
      rw [Nat.zero_mul, Nat.zero_add, List.getElem?_append_left hlt]
      exact hj
    | succ i =>
      simp only [List.getElem?_cons_succ] at hi
      have h := ih i hi
      rw [List.getElem?_append_right (by rw [hk, Nat.add_mul]; omega), hk]
      have e : (i + 1) * k + j - k = i * k + j := by rw [Nat.add_mul]; omega
      rw [e]
      exact h

/-- A slice's address leads to these elements. -/
def RdS {α : Type} (enc : α → List Value) (k : Nat) (w : World) (A : Option Addr) (xs : List α) : Prop :=
  xs ≠ [] → ∃ b o, A = some ⟨b, o, none⟩ ∧ b < w.heap.size ∧ ∀ i x, xs[i]? = some x → w.rangeAt b (o + i * k) (enc x)

section
variable {α : Type} {enc : α → List Value} {k : Nat} {w W : World} {A : Option Addr} {xs : List α}
theorem RdS.nil (enc : α → List Value) (k : Nat) (w : World) (A : Option Addr) : RdS enc k w A [] := fun h => absurd rfl h
theorem RdS.later (h : RdS enc k w A xs) (hl : Lat w W) : RdS enc k W A xs := fun hn => by
  obtain ⟨b, o, rfl, hb, hc⟩ := h hn
  exact ⟨b, o, rfl, Nat.lt_of_lt_of_le hb hl.size, fun i x hi => hl.range (hc i x hi)⟩
/-- One element, in whatever world comes later. -/
theorem RdS.get (h : RdS enc k w A xs) (i : Nat) (x : α) (hi : xs[i]? = some x) : ∃ b o, A = some ⟨b, o, none⟩ ∧ b < w.heap.size ∧ ∀ W, Lat w W → W.rangeAt b (o + i * k) (enc x) := by
  obtain ⟨b, o, rfl, hb, hc⟩ := h (by rintro rfl; simp at hi)
  exact ⟨b, o, rfl, hb, fun W hl => hl.range (hc i x hi)⟩
theorem RdS.take (h : RdS enc k w A xs) (i : Nat) : RdS enc k w A (xs.take i) := fun hn => by
  obtain ⟨b, o, rfl, hb, hc⟩ := h (by rintro rfl; simp at hn)
  exact ⟨b, o, rfl, hb, fun j x hj => hc j x (by rw [List.getElem?_take] at hj; split at hj <;> simp_all)⟩
theorem RdS.drop (h : RdS enc k w A xs) (i c : Nat) (hc : xs.length ≤ c) : RdS enc k w (if c = i then A else A.map (·.add (i * k))) (xs.drop i) := fun hn => by
  obtain ⟨b, o, rfl, hb, hcell⟩ := h (by rintro rfl; simp at hn)
  have hlt : i < xs.length := by
    rcases Nat.lt_or_ge i xs.length with hlt | hge
    · exact hlt
    · exact absurd (List.drop_of_length_le hge) hn
  rw [if_neg (by omega)]
  refine ⟨b, o + i * k, by simp [Addr.add_mid], hb, fun j x hj => ?_⟩
  have := hcell (i + j) x (by rw [← hj, List.getElem?_drop])
  rwa [Nat.add_mul, ← Nat.add_assoc] at this
theorem RdS.box {b : Nat} {y : α} {t : TypeId} {fr : Nat × Nat} (h : w.heap[b]? = some (.cells (enc y).toArray t fr)) : RdS enc k w (some ⟨b, 0, none⟩) [y] := fun _ => by
  refine ⟨b, 0, rfl, lt_of_block h, fun i x hi j v hj => ?_⟩
  cases i with
  | zero =>
    simp only [List.getElem?_cons_zero, Option.some.injEq] at hi
    subst hi
    rw [Nat.zero_mul, Nat.zero_add, cell_of_row w b _ _ t fr h]
    simpa using hj
  | succ i => simp at hi
theorem RdS.of_own {base : Nat} {e : TypeId} {v : Value} (hk : ∀ x, (enc x).length = k) (h : w.ownsRow base e k v xs.length (flat enc xs)) : ∃ A c, v = .slice A xs.length c ∧ RdS enc k w A xs := by
  rcases h.2 with ⟨rfl, h0⟩ | ⟨g, cap, cur, rfl, hb, hh, hn, hm, hcs, ht⟩
  · have : xs = [] := List.eq_nil_of_length_eq_zero h0
    subst this
    exact ⟨none, 0, rfl, RdS.nil _ _ _ _⟩
  · refine ⟨_, cap, rfl, fun _ => ⟨g, 0, rfl, lt_of_block hh, fun i x hi j v hj => ?_⟩⟩
    have h1 := flat_get hk xs i x hi j v hj
    rw [← ht, List.getElem?_take] at h1
    split at h1
    · rw [cell_of_row w g _ cur e (0, 0) hh, Nat.zero_add]
      simpa using h1
    · cases h1
end

/-- The call's own row: a slice value that these elements belong to, in blocks from 'base' on. -/
def Own {α : Type} (enc : α → List Value) (k : Nat) (e : TypeId) (base : Nat) (w : World) (v : Value) (xs : List α) : Prop := w.ownsRow base e k v xs.length (flat enc xs)

section
variable {α : Type} {enc : α → List Value} {k : Nat} {e : TypeId} {base : Nat} {w W : World} {v : Value} {xs : List α}
theorem Own.nil (enc : α → List Value) (k : Nat) (e : TypeId) (base : Nat) (w : World) : Own enc k e base w (.slice none 0 0) [] := ⟨by simp [flat], .inl ⟨rfl, rfl⟩⟩
theorem Own.empty (enc : α → List Value) (k : Nat) (e : TypeId) (base : Nat) (w : World) (hb : base ≤ w.heap.size) : Own enc k e base (w.alloc (.cells #[] e)) (.slice (some ⟨w.heap.size, 0, none⟩) 0 0) [] :=
  ⟨by simp [flat], .inr ⟨w.heap.size, 0, #[], rfl, hb, new_at _ _, Nat.le_refl _, Nat.zero_le _, by simp, by simp [flat]⟩⟩
theorem Own.rd (hk : ∀ x, (enc x).length = k) (h : Own enc k e base w v xs) : ∃ A c, v = .slice A xs.length c ∧ xs.length ≤ c ∧ c ≤ 9223372036854775807 ∧ RdS enc k w A xs := by
  obtain ⟨A, c, rfl, hr⟩ := RdS.of_own hk h
  refine ⟨A, c, rfl, ?_, ?_, hr⟩
  · rcases h.2 with ⟨h0, h1⟩ | ⟨g, cap, cur, hv, _, _, hn, _⟩
    · omega
    · injection hv with _ _ hv; omega
  · rcases h.2 with ⟨h0, h1⟩ | ⟨g, cap, cur, hv, _, _, hn, hm, _⟩
    · injection h0 with _ _ h0; omega
    · injection hv with _ _ hv; simp only [maxLen] at hm; omega
theorem Own.rdS {A : Option Addr} {n c : Nat} (hk : ∀ x, (enc x).length = k) (h : Own enc k e base w (.slice A n c) xs) : RdS enc k w A xs := by
  obtain ⟨A', c', hv, _, _, hr⟩ := Own.rd hk h
  injection hv with hA _ _
  rw [hA]
  exact hr
theorem Own.base_le (h : Own enc k e base w v xs) {base' : Nat} (hb : base' ≤ base) : Own enc k e base' w v xs := by
  obtain ⟨h1, h2⟩ := h
  refine ⟨h1, ?_⟩
  rcases h2 with h2 | ⟨g, cap, cur, hv, hg, r⟩
  · exact .inl h2
  · exact .inr ⟨g, cap, cur, hv, Nat.le_trans hb hg, r⟩
theorem Own.later (h : Own enc k e base w v xs) (hl : Lat w W) : Own enc k e base W v xs := by
  obtain ⟨h1, h2⟩ := h
  refine ⟨h1, ?_⟩
  rcases h2 with h2 | ⟨g, cap, cur, hv, hg, hh, r⟩
  · exact .inl h2
  · exact .inr ⟨g, cap, cur, hv, hg, hl.block hh, r⟩
theorem Own.block_ge (h : Own enc k e base w v xs) (j : Nat) (hj : v.ownBlock = some j) : base ≤ j := by
  rcases h.2 with ⟨rfl, _⟩ | ⟨g, cap, cur, rfl, hb, _⟩
  · simp [Value.ownBlock] at hj
  · have : g = j := by simpa [Value.ownBlock] using hj
    omega
end

/-! ### append, one element more -/
section
variable {P : Program} {ops : Array Oper} {rest : List Oper} {o : Oper} {a : Act} {Q : Exit → Act → World → Prop}

/-- append(v, y), v the call's own; the goal's world is W with the variadic's box behind it. -/
theorem app1 {α : Type} {enc : α → List Value} {k : Nat} (hk : ∀ x, (enc x).length = k) (h1 : ∀ x, ∀ u ∈ enc x, u.oneCell' = true) (hk0 : 0 < k) {w0 W : World} (hgd : o.guard = none) (s x : Operand) (t e : TypeId) (z : Value) (bytes : Nat)
    (ho : o.op = .call { callee := .builtin .append, args := #[s, x], argTypes := #[t, t] })
    (ht : P.underlying t = some (.slice e)) (hinfo : (P.info? e).map (fun i => (i.zero, i.size, i.bytes)) = some (some z, k, bytes)) (hz : z.cells.size = k)
    (v : Value) (xs : List α) (y : α) (cs : Array Value) (hcs : cs = (enc y).toArray) (hs : a.eval s = v) (hx : a.eval x = .slice (some ⟨W.heap.size, 0, none⟩) 1 1)
    (HO : Own enc k e w0.heap.size W v xs) (HL : Lat w0 W) (hl : (xs.length + 1) * bytes ≤ 140737488355328) (hn : xs.length + 1 ≤ 140737488355328)
    (h : ∀ v1 w1, Own enc k e w0.heap.size w1 v1 (xs ++ [y]) → Lat w0 w1 → wpList P ops Q rest (a.put o.dst v1) w1) :
    wpList P ops Q (o :: rest) a (W.alloc (.cells cs e)) := by
  subst hcs
  obtain ⟨i0, hi, hzz⟩ := Option.map_eq_some_iff.1 hinfo
  simp only [Prod.mk.injEq] at hzz
  obtain ⟨hz0, hz1, hz2⟩ := hzz
  refine wpList_append_own_at (W.alloc (.cells (enc y).toArray e)) hgd s x t ho w0.heap.size e i0 z k bytes ht hi hz0 hz1 hz2 hz hk0 v xs.length (flat enc xs) hs (Own.later HO (lat_alloc (Lat.refl _) _)) ⟨W.heap.size, 0, none⟩ 1 1 (enc y) hx (by rw [hk, Nat.one_mul])
    (fun j u hu => ?_) (h1 y) (by simp only [maxLen]; omega) hl (by have := HL.size; simp; omega) ?_
  · have hadd : (⟨W.heap.size, 0, none⟩ : Addr).add j = ⟨W.heap.size, j, none⟩ := by unfold Addr.add; split <;> simp_all
    rw [hadd, cell_of_row _ W.heap.size j _ e (0, 0) (new_at _ _)]
    simpa using hu
  · intro v1 w1 hown hg _ _
    have hfl : flat enc xs ++ enc y = flat enc (xs ++ [y]) := by rw [flat_append, flat_one]
    rw [hfl] at hown
    refine h v1 w1 (by simpa [Own] using hown) (lat_grown (lat_alloc HL _) hg fun j hj => Own.block_ge HO j hj)

/-- The same, and what else may have turned: the row's own block alone. -/
theorem app1g {α : Type} {enc : α → List Value} {k : Nat} (hk : ∀ x, (enc x).length = k) (h1 : ∀ x, ∀ u ∈ enc x, u.oneCell' = true) (hk0 : 0 < k) {base : Nat} {W : World} (hgd : o.guard = none) (s x : Operand) (t e : TypeId) (z : Value) (bytes : Nat)
    (ho : o.op = .call { callee := .builtin .append, args := #[s, x], argTypes := #[t, t] })
    (ht : P.underlying t = some (.slice e)) (hinfo : (P.info? e).map (fun i => (i.zero, i.size, i.bytes)) = some (some z, k, bytes)) (hz : z.cells.size = k)
    (v : Value) (xs : List α) (y : α) (cs : Array Value) (hcs : cs = (enc y).toArray) (hs : a.eval s = v) (hx : a.eval x = .slice (some ⟨W.heap.size, 0, none⟩) 1 1)
    (HO : Own enc k e base W v xs) (HB : base ≤ W.heap.size) (hl : (xs.length + 1) * bytes ≤ 140737488355328) (hn : xs.length + 1 ≤ 140737488355328)
    (h : ∀ v1 w1, Own enc k e base w1 v1 (xs ++ [y]) → W.grownBy w1 v.ownBlock → wpList P ops Q rest (a.put o.dst v1) w1) :
    wpList P ops Q (o :: rest) a (W.alloc (.cells cs e)) := by
  subst hcs
  obtain ⟨i0, hi, hzz⟩ := Option.map_eq_some_iff.1 hinfo
  simp only [Prod.mk.injEq] at hzz
  obtain ⟨hz0, hz1, hz2⟩ := hzz
  refine wpList_append_own_at (W.alloc (.cells (enc y).toArray e)) hgd s x t ho base e i0 z k bytes ht hi hz0 hz1 hz2 hz hk0 v xs.length (flat enc xs) hs (Own.later HO (lat_alloc (Lat.refl _) _)) ⟨W.heap.size, 0, none⟩ 1 1 (enc y) hx (by rw [hk, Nat.one_mul])
    (fun j u hu => ?_) (h1 y) (by simp only [maxLen]; omega) hl (by simp; omega) ?_
  · have hadd : (⟨W.heap.size, 0, none⟩ : Addr).add j = ⟨W.heap.size, j, none⟩ := by unfold Addr.add; split <;> simp_all
    rw [hadd, cell_of_row _ W.heap.size j _ e (0, 0) (new_at _ _)]
    simpa using hu
  · intro v1 w1 hown hg _ _
    have hfl : flat enc xs ++ enc y = flat enc (xs ++ [y]) := by rw [flat_append, flat_one]
    rw [hfl] at hown
    exact h v1 w1 (by simpa [Own] using hown) ((World.grownBy_alloc W _ _).trans hg)

theorem run_append_nil0 {P : Program} (w : World) (base : Nat) (t ty e : TypeId) (i : TypeInfo) (size : Nat) (ht : P.underlying t = some (.slice e)) (hi : P.info? e = some i)
    (v : Value) (n : Nat) (xs : List Value) (hown : w.ownsRow base e size v n xs) (c : Nat) : (Builtin.append_ #[t, t] ty #[v, .slice none 0 c]).run P w = .ok v w := by
  rcases hown.2 with ⟨rfl, rfl⟩ | ⟨g, cap, cur, rfl, _, _, hnc, _⟩
  · simp [Builtin.append_, run_underlying ht, sizeOf, typeInfo, hi, Builtin.lenOf, Builtin.firstCells]
  · simp [Builtin.append_, run_underlying ht, sizeOf, typeInfo, hi, Builtin.lenOf, Builtin.firstCells, hnc, storeCells]

/-- append(v, ys...), v the call's own, ys whatever is read: the run. -/
theorem run_appS {α : Type} {enc : α → List Value} {k : Nat} (hk : ∀ x, (enc x).length = k) (h1 : ∀ x, ∀ u ∈ enc x, u.oneCell' = true) (hk0 : 0 < k) {base : Nat} {W : World} (t ty e : TypeId) (z : Value) (bytes : Nat)
    (ht : P.underlying t = some (.slice e)) (hinfo : (P.info? e).map (fun i => (i.zero, i.size, i.bytes)) = some (some z, k, bytes)) (hz : z.cells.size = k)
    (v : Value) (xs ys : List α) (A : Option Addr) (m c : Nat) (hm : ys.length = m)
    (HO : Own enc k e base W v xs) (HR : RdS enc k W A ys) (HB : base ≤ W.heap.size) (hl : (xs.length + m) * bytes ≤ 140737488355328) (hn : xs.length + m ≤ 140737488355328) :
    ∃ v1 w1, (Builtin.append_ #[t, t] ty #[v, .slice A m c]).run P W = .ok v1 w1 ∧ Own enc k e base w1 v1 (xs ++ ys) ∧ W.grownBy w1 v.ownBlock := by
  obtain ⟨i0, hi, hzz⟩ := Option.map_eq_some_iff.1 hinfo
  simp only [Prod.mk.injEq] at hzz
  obtain ⟨hz0, hz1, hz2⟩ := hzz
  subst hm
  rcases A with _ | ad
  · have hy : ys = [] := by
      cases ys with
      | nil => rfl
      | cons y ys => obtain ⟨b, o, h, _⟩ := HR (by simp); cases h
    subst hy
    exact ⟨v, W, run_append_nil0 W _ t ty e i0 k ht hi v _ _ HO c, by simpa using HO, World.grownBy.refl _ _⟩
  · obtain ⟨v1, w1, hr, ho1, hg, _, _⟩ := run_append_own_at (P := P) W base t ty e i0 z k bytes ht hi hz0 hz1 hz2 hz hk0 v xs.length (flat enc xs) HO ad ys.length c (flat enc ys) (flat_length hk ys)
      (fun j u hu => by
        by_cases hy : ys = []
        · subst hy; simp [flat] at hu
        · obtain ⟨b, o', hA, hb, hc⟩ := HR hy
          injection hA with hA
          subst hA
          rw [Addr.add_mid]
          have hjl : j < ys.length * k := by rw [← flat_length hk ys]; exact (List.getElem?_eq_some_iff.1 hu).1
          have hdk : j / k < ys.length := Nat.div_lt_of_lt_mul (by rwa [Nat.mul_comm] at hjl)
          have hyj : ys[j / k]? = some ys[j / k] := List.getElem?_eq_getElem hdk
          have hmod : j % k < (enc ys[j / k]).length := by rw [hk]; exact Nat.mod_lt _ hk0
          have hcell := hc (j / k) _ hyj (j % k) _ (List.getElem?_eq_getElem hmod)
          have hfl := flat_get hk ys (j / k) _ hyj (j % k) _ (List.getElem?_eq_getElem hmod)
          have hjj : j / k * k + j % k = j := by rw [Nat.mul_comm]; exact Nat.div_add_mod j k
          rw [hjj, hu] at hfl
          injection hfl with hfl
          rw [Nat.add_assoc, hjj] at hcell
          rw [hcell, hfl])
      (fun u hu => by
        simp only [flat, List.mem_flatMap] at hu
        obtain ⟨y, _, hy⟩ := hu
        exact h1 y u hy)
      (by simp only [maxLen]; omega) hl HB
    refine ⟨v1, w1, hr, ?_, hg⟩
    have hfl : flat enc xs ++ flat enc ys = flat enc (xs ++ ys) := (flat_append _ _ _).symm
    rw [hfl] at ho1
    simpa [Own] using ho1

/-- append(v, ys...), v the call's own, ys whatever is read. -/
theorem appS {α : Type} {enc : α → List Value} {k : Nat} (hk : ∀ x, (enc x).length = k) (h1 : ∀ x, ∀ u ∈ enc x, u.oneCell' = true) (hk0 : 0 < k) {w0 W : World} (hgd : o.guard = none) (s x : Operand) (t e : TypeId) (z : Value) (bytes : Nat)
    (ho : o.op = .call { callee := .builtin .append, args := #[s, x], argTypes := #[t, t] })
    (ht : P.underlying t = some (.slice e)) (hinfo : (P.info? e).map (fun i => (i.zero, i.size, i.bytes)) = some (some z, k, bytes)) (hz : z.cells.size = k)
    (v : Value) (xs ys : List α) (A : Option Addr) (m c : Nat) (hm : ys.length = m) (hs : a.eval s = v) (hx : a.eval x = .slice A m c)
    (HO : Own enc k e w0.heap.size W v xs) (HR : RdS enc k W A ys) (HL : Lat w0 W) (hl : (xs.length + m) * bytes ≤ 140737488355328) (hn : xs.length + m ≤ 140737488355328)
    (h : ∀ v1 w1, Own enc k e w0.heap.size w1 v1 (xs ++ ys) → Lat w0 w1 → wpList P ops Q rest (a.put o.dst v1) w1) :
    wpList P ops Q (o :: rest) a W := by
  obtain ⟨i0, hi, hzz⟩ := Option.map_eq_some_iff.1 hinfo
  simp only [Prod.mk.injEq] at hzz
  obtain ⟨hz0, hz1, hz2⟩ := hzz
  subst hm
  have hrun : ∃ v1 w1, (Builtin.append_ #[t, t] o.type #[v, .slice A ys.length c]).run P W = .ok v1 w1 ∧ Own enc k e w0.heap.size w1 v1 (xs ++ ys) ∧ Lat w0 w1 := by
    rcases A with _ | ad
    · have hy : ys = [] := by
        cases ys with
        | nil => rfl
        | cons y ys => obtain ⟨b, o, h, _⟩ := HR (by simp); cases h
      subst hy
      exact ⟨v, W, run_append_nil0 W _ t o.type e i0 k ht hi v _ _ HO c, by simpa using HO, HL⟩
    · obtain ⟨v1, w1, hr, ho1, hg, _, _⟩ := run_append_own_at (P := P) W w0.heap.size t o.type e i0 z k bytes ht hi hz0 hz1 hz2 hz hk0 v xs.length (flat enc xs) HO ad ys.length c (flat enc ys) (flat_length hk ys)
        (fun j u hu => by
          by_cases hy : ys = []
          · subst hy; simp [flat] at hu
          · obtain ⟨b, o', hA, hb, hc⟩ := HR hy
            injection hA with hA
            subst hA
            rw [Addr.add_mid]
            have hjl : j < ys.length * k := by rw [← flat_length hk ys]; exact (List.getElem?_eq_some_iff.1 hu).1
            have hdk : j / k < ys.length := Nat.div_lt_of_lt_mul (by rwa [Nat.mul_comm] at hjl)
            have hyj : ys[j / k]? = some ys[j / k] := List.getElem?_eq_getElem hdk
            have hmod : j % k < (enc ys[j / k]).length := by rw [hk]; exact Nat.mod_lt _ hk0
            have hcell := hc (j / k) _ hyj (j % k) _ (List.getElem?_eq_getElem hmod)
            have hfl := flat_get hk ys (j / k) _ hyj (j % k) _ (List.getElem?_eq_getElem hmod)
            have hjj : j / k * k + j % k = j := by rw [Nat.mul_comm]; exact Nat.div_add_mod j k
            rw [hjj, hu] at hfl
            injection hfl with hfl
            rw [Nat.add_assoc, hjj] at hcell
            rw [hcell, hfl])
        (fun u hu => by
          simp only [flat, List.mem_flatMap] at hu
          obtain ⟨y, _, hy⟩ := hu
          exact h1 y u hy)
        (by simp only [maxLen]; omega) hl HL.size
      refine ⟨v1, w1, hr, ?_, lat_grown HL hg fun j hj => Own.block_ge HO j hj⟩
      have hfl : flat enc xs ++ flat enc ys = flat enc (xs ++ ys) := (flat_append _ _ _).symm
      rw [hfl] at ho1
      simpa [Own] using ho1
  obtain ⟨v1, w1, hr, hO, hL⟩ := hrun
  refine wpList_plain hgd fun K hK => ?_
  unfold Oper.wp execOp
  simp only [ho, resolve, invoke, builtin, Sem.run_bind, Sem.run_pure, Result.andThen_ok, List.map_toArray, List.map_cons, List.map_nil, hs, hx, hr]
  exact hK _ _ (h v1 w1 hO hL)
end
end Go.Proofs.YtgjffndpegjenaaGreat
