/-
  The law's end in plain Lean: what it gathers by itself is what is left. No program in sight.
-/
import Derived.Test.YtgjffndpegjenaaGreatKTaken
import Derived.Test.YtgjffndpegjenaaGreatKCheck
set_option linter.unusedVariables false
set_option linter.unusedSimpArgs false
set_option linter.unusedSectionVars false
namespace Go.Proofs.YtgjffndpegjenaaGreat
open Go.RowKit

/-- What the law gathers of the first m deltas. -/
structure Wants (ds : List DeltaV) (m : Nat) (want : List Fact) (dots : List Dot) : Prop where
  fm : ∀ f, f ∈ want ↔ ∃ k x, k < m ∧ ownAt ds k ∧ ds[k]? = some x ∧ ¬ takenP ds x.dot ds.length ∧ f ∈ x.facts
  dm : ∀ e, e ∈ dots ↔ ∃ k x, k < m ∧ ownAt ds k ∧ ds[k]? = some x ∧ (e = x.dot ∨ e ∈ x.gone)
  wl : want.length ≤ 8 * m
  dl : dots.length ≤ 21 * m

theorem wants_start (ds : List DeltaV) : Wants ds 0 [] [] := ⟨fun f => by simp, fun e => by simp, by simp, by simp⟩
theorem wants_skip {ds : List DeltaV} {m : Nat} {want : List Fact} {dots : List Dot} (h : Wants ds m want dots) (hn : ¬ ownAt ds m) : Wants ds (m + 1) want dots := by
  refine ⟨fun f => (h.fm f).trans ?_, fun e => (h.dm e).trans ?_, by have := h.wl; omega, by have := h.dl; omega⟩
  · constructor
    · rintro ⟨k, x, hk, r⟩; exact ⟨k, x, by omega, r⟩
    · rintro ⟨k, x, hk, hok, r⟩
      by_cases e : k = m
      · subst e; exact absurd hok hn
      · exact ⟨k, x, by omega, hok, r⟩
  · constructor
    · rintro ⟨k, x, hk, r⟩; exact ⟨k, x, by omega, r⟩
    · rintro ⟨k, x, hk, hok, r⟩
      by_cases e : k = m
      · subst e; exact absurd hok hn
      · exact ⟨k, x, by omega, hok, r⟩
theorem wants_dots {ds : List DeltaV} {m : Nat} {dots : List Dot} {d : DeltaV} (hd : ds[m]? = some d) (ho : ownAt ds m)
    (h : ∀ e, e ∈ dots ↔ ∃ k x, k < m ∧ ownAt ds k ∧ ds[k]? = some x ∧ (e = x.dot ∨ e ∈ x.gone)) (e : Dot) :
    e ∈ (dots ++ [d.dot]) ++ d.gone ↔ ∃ k x, k < m + 1 ∧ ownAt ds k ∧ ds[k]? = some x ∧ (e = x.dot ∨ e ∈ x.gone) := by
  simp only [List.mem_append, List.mem_singleton, h]
  constructor
  · rintro ((⟨k, x, hk, r⟩ | rfl) | hg)
    · exact ⟨k, x, by omega, r⟩
    · exact ⟨m, d, by omega, ho, hd, .inl rfl⟩
    · exact ⟨m, d, by omega, ho, hd, .inr hg⟩
  · rintro ⟨k, x, hk, hok, hx, r⟩
    by_cases hkm : k = m
    · subst hkm
      rw [hd] at hx
      injection hx with hx
      subst hx
      rcases r with r | r
      · exact .inl (.inr r)
      · exact .inr r
    · exact .inl (.inl ⟨k, x, by omega, hok, hx, r⟩)
theorem wants_taken {ds : List DeltaV} {m : Nat} {want : List Fact} {dots : List Dot} (h : Wants ds m want dots) {d : DeltaV} (hd : ds[m]? = some d) (ho : ownAt ds m) (hs : smallD d) (ht : takenP ds d.dot ds.length) :
    Wants ds (m + 1) want ((dots ++ [d.dot]) ++ d.gone) := by
  refine ⟨fun f => (h.fm f).trans ?_, wants_dots hd ho h.dm, by have := h.wl; omega, by have := h.dl; have := hs.2; simp; omega⟩
  constructor
  · rintro ⟨k, x, hk, r⟩; exact ⟨k, x, by omega, r⟩
  · rintro ⟨k, x, hk, hok, hx, hnt, hf⟩
    by_cases e : k = m
    · subst e
      rw [hd] at hx
      injection hx with hx
      subst hx
      exact absurd ht hnt
    · exact ⟨k, x, by omega, hok, hx, hnt, hf⟩
theorem wants_keep {ds : List DeltaV} {m : Nat} {want : List Fact} {dots : List Dot} (h : Wants ds m want dots) {d : DeltaV} (hd : ds[m]? = some d) (ho : ownAt ds m) (hs : smallD d) (ht : ¬ takenP ds d.dot ds.length) :
    Wants ds (m + 1) (want ++ d.facts) ((dots ++ [d.dot]) ++ d.gone) := by
  refine ⟨fun f => ?_, wants_dots hd ho h.dm, by have := h.wl; have := hs.1; simp; omega, by have := h.dl; have := hs.2; simp; omega⟩
  rw [List.mem_append, h.fm]
  constructor
  · rintro (⟨k, x, hk, r⟩ | hf)
    · exact ⟨k, x, by omega, r⟩
    · exact ⟨m, d, by omega, ho, hd, ht, hf⟩
  · rintro ⟨k, x, hk, hok, hx, hnt, hf⟩
    by_cases e : k = m
    · subst e
      rw [hd] at hx
      injection hx with hx
      subst hx
      exact .inr hf
    · exact .inl ⟨k, x, by omega, hok, hx, hnt, hf⟩


/-- What is left is what the law gathers. -/
theorem orders_end {ds : List DeltaV} {D : Nat → Prop} {l : List Fact} {v : List Int} {cl : List Dot} {want : List Fact} {dots : List Dot} (h : KInv ds D l v cl) (hD : ∀ k, ownAt ds k → D k) (hw : Wants ds ds.length want dots) :
    l = sortU factLt want ∧ (v, cl) = cClean (clampTo [] 0) ([] ++ dots) := by
  constructor
  · refine rises_uniq sto_fact h.rises (sortU_rises sto_fact _) fun f => ?_
    rw [sortU_mem, h.facts, hw.fm]
    constructor
    · rintro ⟨k, x, hk, hx, hf, hno⟩
      exact ⟨k, x, lt_of_get hx, h.own k hk, hx, fun ⟨j, y, _, hj, hy, hin⟩ => hno j y (hD j hj) hy hin, hf⟩
    · rintro ⟨k, x, _, hok, hx, hnt, hf⟩
      exact ⟨k, x, hD k hok, hx, hf, fun j y hj hy hin => hnt ⟨j, y, lt_of_get hy, h.own j hj, hy, hin⟩⟩
  · have hc := clean_canon (clampTo [] 0) ([] ++ dots)
    have he : (fun d => cHas v cl d = true) = fun d => cHas (clampTo [] 0) ([] ++ dots) d = true := by
      funext d
      refine propext ?_
      rw [h.ctx, zero_has]
      simp only [List.nil_append, Bool.and_eq_true, decide_eq_true_eq, hw.dm]
      constructor
      · rintro ⟨k, x, hk, hx, r⟩
        have hok := h.own k hk
        obtain ⟨x', hx', hxo, _⟩ := id hok
        rw [hx] at hx'
        injection hx' with hx'
        subst hx'
        rcases r with rfl | ⟨hin, hdo⟩
        · exact ⟨hxo, k, x, lt_of_get hx, hok, hx, .inl rfl⟩
        · exact ⟨hdo, k, x, lt_of_get hx, hok, hx, .inr hin⟩
      · rintro ⟨hdo, k, x, _, hok, hx, r⟩
        refine ⟨k, x, hD k hok, hx, ?_⟩
        rcases r with r | r
        · exact .inl r
        · exact .inr ⟨r, hdo⟩
    have h1 := h.canon
    rw [he] at h1
    obtain ⟨a, b⟩ := canon_uniq h1 hc
    exact Prod.ext a b

theorem kinv_congr {ds : List DeltaV} {D D' : Nat → Prop} {l : List Fact} {v : List Int} {cl : List Dot} (h : KInv ds D l v cl) (he : ∀ k, D k ↔ D' k) : KInv ds D' l v cl := by
  have : D = D' := funext fun k => propext (he k)
  rw [← this]
  exact h

/-! ### Which deltas were put on, by their numbers -/
def seenOf (seen : List Bool) (k : Nat) : Prop := seen[k]? = some true
def countT (seen : List Bool) : Nat := (seen.filter id).length
theorem countT_le {seen : List Bool} {m : Nat} (h : ∀ k, seenOf seen k → k < m) : countT seen ≤ m := by
  have h1 : (seen.drop m).filter id = [] := by
    rw [List.filter_eq_nil_iff]
    intro b hb
    obtain ⟨j, hj, rfl⟩ := List.getElem_of_mem hb
    intro e
    rw [List.getElem_drop] at e
    have := h (m + j) (by unfold seenOf; rw [List.getElem?_eq_getElem (by simp at hj; omega)]; exact congrArg some e)
    omega
  have h2 : seen.filter id = (seen.take m).filter id ++ (seen.drop m).filter id := by rw [← List.filter_append, List.take_append_drop]
  unfold countT
  rw [h2, h1, List.append_nil]
  exact Nat.le_trans (List.length_filter_le _ _) (by simp; omega)
theorem seen_set {seen : List Bool} {k : Nat} (hk : k < seen.length) (j : Nat) : seenOf (seen.set k true) j ↔ (seenOf seen j ∨ j = k) := by
  unfold seenOf
  rw [List.getElem?_set]
  by_cases h : k = j
  · subst h; simp [hk]
  · rw [if_neg h]
    constructor
    · exact .inl
    · rintro (h' | rfl)
      · exact h'
      · exact absurd rfl h
theorem count_set {seen : List Bool} {k : Nat} (hk : seen[k]? = some false) : countT (seen.set k true) = countT seen + 1 := by
  induction seen generalizing k with
  | nil => simp at hk
  | cons b l ih =>
    cases k with
    | zero =>
      simp only [List.getElem?_cons_zero, Option.some.injEq] at hk
      subst hk
      simp [countT]
    | succ k =>
      simp only [List.getElem?_cons_succ] at hk
      have := ih hk
      simp only [countT] at this ⊢
      cases b <;> simp [this]
theorem kApply_len (l : List Fact) (v : List Int) (cl : List Dot) (d : DeltaV) : (kApply l v cl d).1.length ≤ l.length + d.facts.length := by
  refine Nat.le_trans (sortU_length_le _ _) ?_
  rw [List.length_append]
  exact Nat.add_le_add (List.length_filter_le _ _) (List.length_filter_le _ _)
theorem cClean_len (v : List Int) (cl : List Dot) : (cClean v cl).2.length ≤ cl.length := Nat.le_trans (cRun_cloud _ _) (sortU_length_le _ _)
theorem kApply_cloud (l : List Fact) (v : List Int) (cl : List Dot) (d : DeltaV) : (kApply l v cl d).2.2.length ≤ cl.length + d.gone.length + 1 := by
  refine Nat.le_trans (cClean_len _ _) ?_
  rw [List.length_append]
  have h1 := cClean_len v cl
  have h2 := cClean_len (clampTo [] 0) ([] ++ (d.dot :: d.gone))
  have h3 := cClean_len (cClean (clampTo [] 0) ([] ++ (d.dot :: d.gone))).1 (cClean (clampTo [] 0) ([] ++ (d.dot :: d.gone))).2
  have h4 : ([] ++ (d.dot :: d.gone)).length = d.gone.length + 1 := by simp
  omega
end Go.Proofs.YtgjffndpegjenaaGreat
