/-
  The orders of dots, stamps, facts and texts are strict total orders.
-/
import Derived.Test.YtgjffndpegjenaaGreatCmp
import Derived.Test.YtgjffndpegjenaaGreatDot
import Derived.Test.YtgjffndpegjenaaGreatSortU
import Derived.Sort.Statements
import Derived.Shelf.SlSortCmp.Insertion
set_option linter.unusedVariables false
set_option linter.unusedSimpArgs false
set_option linter.unusedSectionVars false
namespace Go.Proofs.YtgjffndpegjenaaGreat
open Go.Sort

theorem bl_cons (x y : UInt8) (xs ys : List UInt8) : Op.bytesLess (x :: xs) (y :: ys) = (decide (x < y) || x == y && Op.bytesLess xs ys) := rfl
theorem bl_irrefl : ∀ l : List UInt8, Op.bytesLess l l = false
  | [] => rfl
  | x :: l => by rw [bl_cons, bl_irrefl l]; simp
theorem bl_tri : ∀ l m : List UInt8, Op.bytesLess l m = false → Op.bytesLess m l = false → l = m
  | [], [], _, _ => rfl
  | [], _ :: _, h, _ => by cases h
  | _ :: _, [], _, h => by cases h
  | x :: l, y :: m, h1, h2 => by
    rw [bl_cons] at h1 h2
    simp only [Bool.or_eq_false_iff, decide_eq_false_iff_not, Bool.and_eq_false_iff, beq_eq_false_iff_ne] at h1 h2
    have hxy : x = y := by
      have a := h1.1
      have b := h2.1
      rw [UInt8.lt_iff_toNat_lt] at a b
      exact UInt8.toNat_inj.1 (by omega)
    subst hxy
    rw [bl_tri l m (by simpa using h1.2) (by simpa using h2.2)]
theorem bl_trans : ∀ l m n : List UInt8, Op.bytesLess l m = true → Op.bytesLess m n = true → Op.bytesLess l n = true
  | [], _, [], h1, h2 => by
    rename_i m
    cases m <;> cases h1; cases h2
  | [], _, _ :: _, _, _ => rfl
  | _ :: _, [], _, h1, _ => by cases h1
  | _ :: _, _ :: _, [], _, h2 => by cases h2
  | x :: l, y :: m, z :: n, h1, h2 => by
    rw [bl_cons] at h1 h2 ⊢
    simp only [Bool.or_eq_true, decide_eq_true_eq, Bool.and_eq_true, beq_iff_eq] at h1 h2 ⊢
    rcases h1 with h1 | ⟨rfl, h1⟩
    · rcases h2 with h2 | ⟨rfl, h2⟩
      · left
        rw [UInt8.lt_iff_toNat_lt] at *
        omega
      · exact .inl h1
    · rcases h2 with h2 | ⟨rfl, h2⟩
      · exact .inl h2
      · exact .inr ⟨rfl, bl_trans l m n h1 h2⟩

/-- '<' of texts -/
def strLt (a b : ByteArray) : Bool := Op.bytesLess a.toList b.toList
theorem sto_str : STO strLt := ⟨fun x => bl_irrefl _, fun x y z => bl_trans _ _ _, fun x y h1 h2 => bytes_ext (bl_tri _ _ h1 h2)⟩
theorem sto_dot : STO dotLt where
  irrefl x := by simp [dotLt]
  trans x y z h1 h2 := by simp only [dotLt, decide_eq_true_eq] at *; omega
  tri x y h1 h2 := by simp only [dotLt, decide_eq_false_iff_not] at *; exact dot_ext (by omega) (by omega)
theorem sto_stamp : STO stampLt where
  irrefl x := by simp [stampLt]
  trans x y z h1 h2 := by simp only [stampLt, decide_eq_true_eq] at *; omega
  tri x y h1 h2 := by simp only [stampLt, decide_eq_false_iff_not] at *; exact stamp_ext (by omega) (by omega) (by omega)
theorem sto_int : STO (fun a b : Int => decide (a < b)) where
  irrefl x := by simp
  trans x y z h1 h2 := by simp only [decide_eq_true_eq] at *; omega
  tri x y h1 h2 := by simp only [decide_eq_false_iff_not] at *; omega

/-- An order that tells what E does not take for one. -/
structure Ord' {α : Type} (lt : α → α → Bool) (E : α → α → Prop) : Prop where
  irrefl : ∀ x, lt x x = false
  trans : ∀ x y z, lt x y = true → lt y z = true → lt x z = true
  tri : ∀ x y, lt x y = false → lt y x = false → E x y
theorem Ord'.of {α β : Type} {lt : β → β → Bool} (h : STO lt) (f : α → β) : Ord' (fun a b => lt (f a) (f b)) (fun a b => f a = f b) := ⟨fun _ => h.irrefl _, fun _ _ _ => h.trans _ _ _, fun _ _ => h.tri _ _⟩
theorem Ord'.lex {α β : Type} [DecidableEq β] {lt : β → β → Bool} (h : STO lt) (f : α → β) {lt2 : α → α → Bool} {E : α → α → Prop} (h2 : Ord' lt2 E) : Ord' (fun a b => if f a ≠ f b then lt (f a) (f b) else lt2 a b) (fun a b => f a = f b ∧ E a b) where
  irrefl x := by simp [h2.irrefl]
  trans x y z h1 h3 := by
    try dsimp only at *
    by_cases e1 : f x = f y
    · by_cases e2 : f y = f z
      · rw [if_neg (by simpa using e1)] at h1
        rw [if_neg (by simpa using e2)] at h3
        rw [if_neg (by simpa using e1.trans e2)]
        exact h2.trans _ _ _ h1 h3
      · rw [if_pos e2] at h3
        rw [if_pos (by rw [e1]; exact e2), e1]
        exact h3
    · rw [if_pos e1] at h1
      by_cases e2 : f y = f z
      · rw [if_pos (by rw [← e2]; exact e1), ← e2]
        exact h1
      · rw [if_pos e2] at h3
        have h4 := h.trans _ _ _ h1 h3
        rw [if_pos (fun e => by rw [e, h.irrefl] at h4; cases h4)]
        exact h4
  tri x y h1 h3 := by
    try dsimp only at *
    by_cases e1 : f x = f y
    · rw [if_neg (by simpa using e1)] at h1
      rw [if_neg (by simpa using e1.symm)] at h3
      exact ⟨e1, h2.tri _ _ h1 h3⟩
    · rw [if_pos e1] at h1
      rw [if_pos (fun e => e1 e.symm)] at h3
      exact absurd (h.tri _ _ h1 h3) e1
theorem sto_fact : STO factLt := by
  have h := Ord'.lex sto_str Fact.name (Ord'.lex sto_int Fact.kind (Ord'.lex sto_dot Fact.dot (Ord'.lex sto_stamp Fact.stamp (Ord'.of sto_str Fact.value))))
  exact ⟨h.irrefl, h.trans, fun x y h1 h2 => by
    obtain ⟨e1, e2, e3, e4, e5⟩ := h.tri x y h1 h2
    exact fact_ext e3 e4 e2 e1 e5⟩

theorem cmpS_cases (x y : ByteArray) : (strLt x y = true ∧ x ≠ y ∧ cmpS x y = -1) ∨ (x = y ∧ cmpS x y = 0) ∨ (strLt x y = false ∧ x ≠ y ∧ cmpS x y = 1) := by
  unfold cmpS
  by_cases h : x = y
  · subst h
    right; left
    simp [bl_irrefl]
  · cases h1 : Op.bytesLess x.toList y.toList
    · right; right
      refine ⟨h1, h, ?_⟩
      rw [if_neg (by simp), if_neg (fun e => h (bytes_ext e))]
    · left
      exact ⟨h1, h, by simp⟩
theorem cmpI_cases (x y : Int) : (x < y ∧ cmpI x y = -1) ∨ (x = y ∧ cmpI x y = 0) ∨ (y < x ∧ cmpI x y = 1) := by
  unfold cmpI
  by_cases h : x < y
  · simp [h]
  · by_cases h2 : y < x
    · simp [h, h2]
    · right; left
      exact ⟨by omega, by simp [h, h2]⟩
theorem byI_cases {α : Type} {lt : α → α → Bool} (h : STO lt) (x y : α) : (lt x y = true ∧ x ≠ y ∧ byI (lt x y) (lt y x) = -1) ∨ (x = y ∧ byI (lt x y) (lt y x) = 0) ∨ (lt x y = false ∧ x ≠ y ∧ byI (lt x y) (lt y x) = 1) := by
  unfold byI
  cases h1 : lt x y
  · cases h2 : lt y x
    · right; left
      exact ⟨h.tri _ _ h1 h2, by simp⟩
    · right; right
      refine ⟨rfl, ?_, by simp⟩
      rintro rfl
      rw [h1] at h2
      cases h2
  · left
    refine ⟨rfl, ?_, by simp⟩
    rintro rfl
    rw [h.irrefl] at h1
    cases h1
theorem ordFact_lt (a b : Fact) : decide (ordFact a b < 0) = factLt a b := by
  unfold ordFact factLt
  change _ = if a.name ≠ b.name then strLt a.name b.name else if a.kind ≠ b.kind then decide (a.kind < b.kind) else if a.dot ≠ b.dot then dotLt a.dot b.dot else if a.stamp ≠ b.stamp then stampLt a.stamp b.stamp else strLt a.value b.value
  rcases cmpS_cases a.name b.name with ⟨h1, h2, h3⟩ | ⟨h2, h3⟩ | ⟨h1, h2, h3⟩
  · rw [h3, if_pos h2, h1]; simp [orI]
  · rw [h3, if_neg (by simpa using h2), orI, if_pos rfl]
    rcases cmpI_cases a.kind b.kind with ⟨g1, g3⟩ | ⟨g2, g3⟩ | ⟨g1, g3⟩
    · rw [g3, if_pos (by omega)]; simp [orI, g1]
    · rw [g3, if_neg (by simpa using g2), orI, if_pos rfl]
      rcases byI_cases sto_dot a.dot b.dot with ⟨k1, k2, k3⟩ | ⟨k2, k3⟩ | ⟨k1, k2, k3⟩
      · rw [k3, if_pos k2, k1]; simp [orI]
      · rw [k3, if_neg (by simpa using k2), orI, if_pos rfl]
        rcases byI_cases sto_stamp a.stamp b.stamp with ⟨l1, l2, l3⟩ | ⟨l2, l3⟩ | ⟨l1, l2, l3⟩
        · rw [l3, if_pos l2, l1]; simp [orI]
        · rw [l3, if_neg (by simpa using l2), orI, if_pos rfl]
          rcases cmpS_cases a.value b.value with ⟨m1, m2, m3⟩ | ⟨m2, m3⟩ | ⟨m1, m2, m3⟩
          · rw [m3, m1]; simp [orI]
          · rw [m3, m2, sto_str.irrefl]; simp [orI]
          · rw [m3, m1]; simp [orI]
        · rw [l3, if_pos l2, l1]; simp [orI]
      · rw [k3, if_pos k2, k1]; simp [orI]
    · rw [g3, if_pos (by omega)]; simp [orI]; omega
  · rw [h3, if_pos h2, h1]; simp [orI]

theorem STO.swo {α : Type} [Inhabited α] {lt : α → α → Bool} (h : STO lt) : SWO lt where
  irrefl := h.irrefl
  trans := h.trans
  ntrans x y z h1 h2 := by
    cases h3 : lt x z
    · rfl
    · cases h4 : lt z y
      · have := h.tri _ _ h2 h4
        subst this
        rw [h1] at h3
        cases h3
      · rw [h.trans _ _ _ h3 h4] at h1
        cases h1
theorem ltOf_dot : ltOf ordDot = dotLt := by
  funext a b
  exact ordDot_lt a b
theorem ltOf_fact : ltOf ordFact = factLt := by
  funext a b
  exact ordFact_lt a b
end Go.Proofs.YtgjffndpegjenaaGreat
