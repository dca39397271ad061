/-
  The library's sort on a row of the call's own: behind it the row holds a permutation of what it held, sorted; nothing else is turned.
-/
import Derived.Shelf.SlSortCmp.WholeK
import Derived.Shelf.SlSortCmp.NoneTotal
import Derived.Test.YtgjffndpegjenaaGreatBase
set_option linter.unusedVariables false
set_option linter.unusedSimpArgs false
set_option linter.unusedSectionVars false
namespace Go.Proofs.YtgjffndpegjenaaGreat
open Go.RowKit Go.Sort Go.Shelf

section
variable {α : Type} [Inhabited α]

theorem flatK_flat (enc : α → List Value) (k : Nat) (hk : ∀ x, (enc x).length = k) (hk0 : 0 < k) (xs : List α) : (flatK enc k xs.toArray).toList = flat enc xs := by
  apply List.ext_getElem?
  intro t
  by_cases ht : t < xs.length * k
  · have hd : t / k < xs.length := Nat.div_lt_of_lt_mul (by rwa [Nat.mul_comm] at ht)
    have hm : t % k < k := Nat.mod_lt _ hk0
    have hx : xs[t / k]? = some xs[t / k] := List.getElem?_eq_getElem hd
    have hc : (enc xs[t / k])[t % k]? = some (enc xs[t / k])[t % k]! := by
      rw [getElem!_pos _ _ (by rw [hk]; exact hm)]
      exact List.getElem?_eq_getElem (by rw [hk]; exact hm)
    have hf := flat_get hk xs (t / k) _ hx (t % k) _ hc
    rw [Nat.mul_comm (t / k) k, Nat.div_add_mod] at hf
    rw [hf]
    have hs : t < (flatK enc k xs.toArray).size := by simpa using ht
    have hg := get_flatK enc k xs.toArray t (by simpa using ht)
    rw [getElem!_pos _ t hs] at hg
    rw [Array.getElem?_toList, Array.getElem?_eq_getElem hs, hg]
    congr 3
    simp [hd]
  · rw [List.getElem?_eq_none (by simpa using Nat.le_of_not_lt ht), List.getElem?_eq_none (by rw [flat_length hk]; omega)]

theorem holdsK_of_own {enc : α → List Value} {k : Nat} {e : TypeId} {base g cap : Nat} {w : World} {xs : List α} (hk : ∀ x, (enc x).length = k) (hk0 : 0 < k) (h : Own enc k e base w (.slice (some ⟨g, 0, none⟩) xs.length cap) xs) : HoldsK enc k w g 0 xs.toArray := by
  rcases h.2 with ⟨h0, _⟩ | ⟨g', cap', cur, hv, hb, hh, hn, hm, hcs, ht⟩
  · injection h0 with h0; cases h0
  · injection hv with hv _ _; injection hv with hv; injection hv with hv
    subst hv
    intro j hj
    have hj' : j < xs.length * k := by simpa using hj
    refine ⟨?_, frozen_of_row w g _ cur e hh⟩
    have hf := congrArg (fun l => l[j]?) (flatK_flat enc k hk hk0 xs)
    simp only [← ht, List.getElem?_take, hj', if_true, Array.getElem?_toList] at hf
    rw [cell_of_row w g _ cur e (0, 0) hh, Nat.zero_add, ← hf, Array.getElem?_eq_getElem hj, getElem!_pos _ j hj]
    rfl

theorem own_sorted {enc : α → List Value} {k : Nat} {e : TypeId} {base g cap : Nat} {w : World} {xs : List α} (hk : ∀ x, (enc x).length = k) (hk0 : 0 < k) (h : Own enc k e base w (.slice (some ⟨g, 0, none⟩) xs.length cap) xs) (ys : List α) (hl : ys.length = xs.length) (n : Nat) (os : Array Obj) :
    Own enc k e base (sortWorldK enc k w g 0 n ys.toArray os) (.slice (some ⟨g, 0, none⟩) xs.length cap) ys ∧ w.grownBy (sortWorldK enc k w g 0 n ys.toArray os) (some g) := by
  have hH := holdsK_of_own hk hk0 h
  rcases h.2 with ⟨h0, _⟩ | ⟨g', cap', cur, hv, hb, hh, hn, hm, hcs, ht⟩
  · injection h0 with h0; cases h0
  · injection hv with hv _ hcap; injection hv with hv; injection hv with hv
    subst hv
    subst hcap
    have hg : g < w.heap.size := lt_of_block hh
    have hH' := holdsK_sortWorldK_c enc k w g 0 xs.toArray ys.toArray n os hH hg (by simpa using hl)
    have hblk : (sortWorldK enc k w g 0 n ys.toArray os).heap[g]? = some (.cells (putCells id 0 (flatK enc k ys.toArray) cur) e (0, 0)) := by
      unfold sortWorldK
      rw [heap_grow_old _ _ (by rw [size_putRowK]; exact hg)]
      simp [putRowK, putRow, mapBlock, Sort.ahead, Array.getElem?_modify, hh, onCells]
    refine ⟨⟨by rw [flat_length hk], .inr ⟨g, cap, _, by rw [hl], hb, hblk, by omega, hm, ?_, ?_⟩⟩, ⟨rfl, rfl, rfl, ?_, ?_⟩⟩
    · simp [putCells, hcs]
    · rw [← flatK_flat enc k hk hk0]
      apply List.ext_getElem?
      intro t
      by_cases hlt : t < ys.length * k
      · have hs : t < (flatK enc k ys.toArray).size := by simpa using hlt
        have h1 := (hH' t hs).1
        rw [cell_of_row _ g _ _ e (0, 0) hblk, Nat.zero_add, getElem!_pos _ t hs] at h1
        rw [List.getElem?_take, if_pos hlt, Array.getElem?_toList, h1, Array.getElem?_toList, Array.getElem?_eq_getElem hs]
        rfl
      · rw [List.getElem?_eq_none (by simp; omega), List.getElem?_eq_none (by simpa using Nat.le_of_not_lt hlt)]
    · have := size_sortWorldK_c enc k w g 0 n ys.toArray os
      exact this
    · intro i hi hne
      unfold sortWorldK
      rw [heap_grow_old _ _ (by rw [size_putRowK]; exact hi)]
      have hne' : ¬ g = i := fun e => hne (by rw [e])
      simp [putRowK, putRow, mapBlock, Sort.ahead, Array.getElem?_modify, hne']
end
end Go.Proofs.YtgjffndpegjenaaGreat
