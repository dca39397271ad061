/-
  Sorted lists, each element once: the plain law behind the two sorts. No program in sight.
-/
import Derived.Test.YtgjffndpegjenaaGreatData
set_option linter.unusedVariables false
set_option linter.unusedSimpArgs false
set_option linter.unusedSectionVars false
namespace Go.Proofs.YtgjffndpegjenaaGreat

section
variable {α : Type} [DecidableEq α]

/-- One element more, where it belongs; none that is there already. -/
def insU (lt : α → α → Bool) (x : α) (l : List α) : List α :=
  if x ∈ l then l else l.takeWhile (fun y => lt y x) ++ x :: l.dropWhile (fun y => lt y x)
def sortU (lt : α → α → Bool) (l : List α) : List α := l.foldl (fun m x => insU lt x m) []

theorem sortU_nil (lt : α → α → Bool) : sortU lt ([] : List α) = [] := rfl
theorem sortU_snoc (lt : α → α → Bool) (l : List α) (x : α) : sortU lt (l ++ [x]) = insU lt x (sortU lt l) := by
  simp [sortU, List.foldl_append]
theorem insU_in {lt : α → α → Bool} {x : α} {l : List α} (h : x ∈ l) : insU lt x l = l := if_pos h
theorem insU_length_le (lt : α → α → Bool) (x : α) (l : List α) : (insU lt x l).length ≤ l.length + 1 := by
  unfold insU
  split
  · omega
  · have h := congrArg List.length (List.takeWhile_append_dropWhile (p := fun y => lt y x) (l := l))
    simp only [List.length_append] at h
    simp only [List.length_append, List.length_cons]
    omega
theorem sortU_length_le (lt : α → α → Bool) (l : List α) : (sortU lt l).length ≤ l.length := by
  unfold sortU
  suffices h : ∀ (m : List α), (l.foldl (fun m x => insU lt x m) m).length ≤ m.length + l.length by simpa using h []
  induction l with
  | nil => intro m; simp
  | cons x l ih =>
    intro m
    have := ih (insU lt x m)
    have h2 := insU_length_le lt x m
    simp only [List.foldl_cons, List.length_cons]
    omega

-- Where the first element stands that is not less.
omit [DecidableEq α] in
theorem cut_at {p : α → Bool} {l : List α} {j : Nat} (hj : j ≤ l.length) (h1 : ∀ y ∈ l.take j, p y = true) (h2 : ∀ y, l[j]? = some y → p y = false) : l.takeWhile p = l.take j ∧ l.dropWhile p = l.drop j := by
  induction l generalizing j with
  | nil => simp
  | cons x l ih =>
    cases j with
    | zero =>
      have := h2 x (by simp)
      simp [this]
    | succ j =>
      have hx := h1 x (by simp)
      have := ih (j := j) (by simpa using hj) (fun y hy => h1 y (by simp [hy])) (fun y hy => h2 y (by simpa using hy))
      simp [hx, this.1, this.2]
theorem insU_out {lt : α → α → Bool} {x : α} {l : List α} (h : x ∉ l) {j : Nat} (hj : j ≤ l.length) (h1 : ∀ y ∈ l.take j, lt y x = true) (h2 : ∀ y, l[j]? = some y → lt y x = false) : insU lt x l = l.take j ++ [x] ++ l.drop j := by
  obtain ⟨e1, e2⟩ := cut_at hj h1 h2
  rw [insU, if_neg h, e1, e2]
  simp

/-- A strict total order. -/
structure STO (lt : α → α → Bool) : Prop where
  irrefl : ∀ x, lt x x = false
  trans : ∀ x y z, lt x y = true → lt y z = true → lt x z = true
  tri : ∀ x y, lt x y = false → lt y x = false → x = y

variable {lt : α → α → Bool}
omit [DecidableEq α] in
theorem STO.asymm (h : STO lt) {x y : α} (hx : lt x y = true) : lt y x = false := by
  cases hy : lt y x
  · rfl
  · have := h.trans _ _ _ hx hy
    rw [h.irrefl] at this
    cases this

def Rises (lt : α → α → Bool) (l : List α) : Prop := l.Pairwise fun a b => lt a b = true

omit [DecidableEq α] in
theorem rises_uniq (h : STO lt) : ∀ {l m : List α}, Rises lt l → Rises lt m → (∀ x, x ∈ l ↔ x ∈ m) → l = m := by
  intro l
  induction l with
  | nil =>
    intro m _ _ hm
    cases m with
    | nil => rfl
    | cons y m => have := (hm y).2 (by simp); simp at this
  | cons x l ih =>
    intro m hl hm hmem
    cases m with
    | nil => have := (hmem x).1 (by simp); simp at this
    | cons y m =>
      obtain ⟨hx, hl'⟩ := List.pairwise_cons.1 hl
      obtain ⟨hy, hm'⟩ := List.pairwise_cons.1 hm
      have hxy : x = y := by
        rcases List.mem_cons.1 ((hmem x).1 (by simp)) with e | e
        · exact e
        · rcases List.mem_cons.1 ((hmem y).2 (by simp)) with e' | e'
          · exact e'.symm
          · have := h.asymm (hx y e')
            rw [hy x e] at this
            cases this
      subst hxy
      have hnl : ∀ z ∈ l, z ≠ x := fun z hz e => by
        subst e
        have := hx z hz
        rw [h.irrefl] at this
        cases this
      have hnm : ∀ z ∈ m, z ≠ x := fun z hz e => by
        subst e
        have := hy z hz
        rw [h.irrefl] at this
        cases this
      rw [ih hl' hm' fun z => ⟨fun hz => by
          rcases List.mem_cons.1 ((hmem z).1 (List.mem_cons_of_mem _ hz)) with e | e
          · exact absurd e (hnl z hz)
          · exact e, fun hz => by
          rcases List.mem_cons.1 ((hmem z).2 (List.mem_cons_of_mem _ hz)) with e | e
          · exact absurd e (hnm z hz)
          · exact e⟩]

theorem insU_mem (x : α) (l : List α) (y : α) : y ∈ insU lt x l ↔ y = x ∨ y ∈ l := by
  unfold insU
  split
  · rename_i h
    exact ⟨Or.inr, fun e => by rcases e with rfl | e; exact h; exact e⟩
  · rw [List.mem_append, List.mem_cons]
    have h := List.takeWhile_append_dropWhile (p := fun y => lt y x) (l := l)
    constructor
    · rintro (e | e | e)
      · exact .inr (by rw [← h]; exact List.mem_append_left _ e)
      · exact .inl e
      · exact .inr (by rw [← h]; exact List.mem_append_right _ e)
    · rintro (e | e)
      · exact .inr (.inl e)
      · rw [← h, List.mem_append] at e
        rcases e with e | e
        · exact .inl e
        · exact .inr (.inr e)
theorem sortU_mem (l : List α) (y : α) : y ∈ sortU lt l ↔ y ∈ l := by
  unfold sortU
  suffices h : ∀ m : List α, y ∈ l.foldl (fun m x => insU lt x m) m ↔ y ∈ m ∨ y ∈ l by simpa using h []
  induction l with
  | nil => intro m; simp
  | cons x l ih =>
    intro m
    simp only [List.foldl_cons]
    rw [ih, insU_mem, List.mem_cons]
    constructor
    · rintro ((e | e) | e)
      · exact .inr (.inl e)
      · exact .inl e
      · exact .inr (.inr e)
    · rintro (e | e | e)
      · exact .inl (.inr e)
      · exact .inl (.inl e)
      · exact .inr e

omit [DecidableEq α] in
theorem mem_takeWhile_p {p : α → Bool} {l : List α} {y : α} (hy : y ∈ l.takeWhile p) : p y = true := by
  induction l with
  | nil => simp at hy
  | cons x l ih =>
    rw [List.takeWhile_cons] at hy
    split at hy
    · rcases List.mem_cons.1 hy with rfl | hy
      · assumption
      · exact ih hy
    · simp at hy

theorem insU_rises (h : STO lt) (x : α) {l : List α} (hl : Rises lt l) : Rises lt (insU lt x l) := by
  unfold insU
  split
  · exact hl
  · rename_i hx
    have hcat := List.takeWhile_append_dropWhile (p := fun y => lt y x) (l := l)
    have hl' := hl
    unfold Rises at hl'
    rw [← hcat, List.pairwise_append] at hl'
    obtain ⟨h1, h2, h3⟩ := hl'
    have hd : ∀ y ∈ l.dropWhile (fun y => lt y x), lt x y = true := by
      intro y hy
      cases hdw : l.dropWhile (fun y => lt y x) with
      | nil => rw [hdw] at hy; simp at hy
      | cons z m =>
        have hz : lt z x = false := by
          have := List.head_dropWhile_not (fun y => lt y x) (l := l) (by rw [hdw]; simp)
          simp only [hdw, List.head_cons] at this
          exact this
        have hzl : z ∈ l := by rw [← hcat, hdw]; simp
        have hxz : lt x z = true := by
          cases hq : lt x z
          · exact absurd (h.tri _ _ hz hq) (fun e => hx (e ▸ hzl))
          · rfl
        rw [hdw] at hy h2
        rcases List.mem_cons.1 hy with rfl | hy
        · exact hxz
        · exact h.trans _ _ _ hxz ((List.pairwise_cons.1 h2).1 y hy)
    unfold Rises
    rw [List.pairwise_append]
    refine ⟨h1, List.pairwise_cons.2 ⟨hd, h2⟩, fun a ha b hb => ?_⟩
    have hax : lt a x = true := mem_takeWhile_p (p := fun y => lt y x) ha
    rcases List.mem_cons.1 hb with rfl | hb
    · exact hax
    · exact h.trans _ _ _ hax (hd b hb)
theorem sortU_rises (h : STO lt) (l : List α) : Rises lt (sortU lt l) := by
  unfold sortU
  suffices hs : ∀ m : List α, Rises lt m → Rises lt (l.foldl (fun m x => insU lt x m) m) from hs [] List.Pairwise.nil
  induction l with
  | nil => intro m hm; exact hm
  | cons x l ih => intro m hm; exact ih _ (insU_rises h x hm)
theorem sortU_of_rises (h : STO lt) {l : List α} (hl : Rises lt l) : sortU lt l = l := rises_uniq h (sortU_rises h l) hl fun x => sortU_mem l x
theorem sortU_congr (h : STO lt) {l m : List α} (hm : ∀ x, x ∈ l ↔ x ∈ m) : sortU lt l = sortU lt m :=
  rises_uniq h (sortU_rises h l) (sortU_rises h m) fun x => by rw [sortU_mem, sortU_mem, hm]

/-- Without those that stand right behind their like. -/
def compact : List α → List α
  | [] => []
  | [x] => [x]
  | x :: y :: l => if x = y then compact (y :: l) else x :: compact (y :: l)
theorem compact_mem (l : List α) (z : α) : z ∈ compact l ↔ z ∈ l := by
  induction l using compact.induct with
  | case1 => simp [compact]
  | case2 x => simp [compact]
  | case3 x l ih => rw [compact, if_pos rfl, ih]; simp
  | case4 x y l hxy ih => rw [compact, if_neg hxy, List.mem_cons, ih]; simp
theorem compact_rises (h : STO lt) (l : List α) (hl : l.Pairwise fun a b => lt b a = false) : Rises lt (compact l) := by
  induction l using compact.induct with
  | case1 => exact List.Pairwise.nil
  | case2 x => exact List.pairwise_singleton _ _
  | case3 x l ih => rw [compact, if_pos rfl]; exact ih (List.pairwise_cons.1 hl).2
  | case4 x y l hxy ih =>
    rw [compact, if_neg hxy]
    obtain ⟨hx, hl'⟩ := List.pairwise_cons.1 hl
    refine List.pairwise_cons.2 ⟨fun z hz => ?_, ih hl'⟩
    rw [compact_mem] at hz
    have hxy' : lt x y = true := by
      cases hq : lt x y
      · exact absurd (h.tri _ _ hq (hx y (by simp))) hxy
      · rfl
    rcases List.mem_cons.1 hz with rfl | hz
    · exact hxy'
    · cases hq : lt x z
      · have hzx := hx z (by simp [hz])
        have := h.tri _ _ hq hzx
        subst this
        have h2 := (List.pairwise_cons.1 hl').1 x hz
        rw [hxy'] at h2
        cases h2
      · rfl
/-- What the library's sort and compact come to. -/
theorem compact_sorted (h : STO lt) {l m : List α} (hp : m.Perm l) (hs : m.Pairwise fun a b => lt b a = false) : compact m = sortU lt l :=
  rises_uniq h (compact_rises h m hs) (sortU_rises h l) fun x => by rw [compact_mem, sortU_mem]; exact hp.mem_iff
end
end Go.Proofs.YtgjffndpegjenaaGreat
