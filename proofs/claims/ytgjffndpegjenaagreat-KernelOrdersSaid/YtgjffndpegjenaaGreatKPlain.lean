/-
  Deltas in whatever order, some of them twice: what is left, in plain Lean. No program in sight.
-/
import Derived.Test.YtgjffndpegjenaaGreatCanon
import Derived.Test.YtgjffndpegjenaaGreatApply
set_option linter.unusedVariables false
set_option linter.unusedSimpArgs false
set_option linter.unusedSectionVars false
namespace Go.Proofs.YtgjffndpegjenaaGreat
open Go.RowKit

theorem vget_join (a b : List Int) (r : Int) (h0 : 0 ≤ r) (h1 : r ≤ 15) : vget (vJoin a b) r = max (vget a r) (vget b r) := by
  have := vJoinTo_get a b 16 r.toNat (by omega)
  rw [if_pos (by omega)] at this
  exact this
theorem cat_has (v v' : List Int) (cl cl' : List Dot) (d : Dot) : cHas (vJoin v v') (cl ++ cl') d = (cHas v cl d || cHas v' cl' d) := by
  rw [Bool.eq_iff_iff, Bool.or_eq_true, cHas_iff, cHas_iff, cHas_iff]
  constructor
  · rintro ⟨hok, hor⟩
    obtain ⟨h0, h1, _, _⟩ := dotOk_iff.1 hok
    rw [vget_join v v' d.r h0 h1, List.mem_append] at hor
    rcases hor with h | h | h
    · rcases (show d.n ≤ vget v d.r ∨ d.n ≤ vget v' d.r by omega) with h | h
      · exact .inl ⟨hok, .inl h⟩
      · exact .inr ⟨hok, .inl h⟩
    · exact .inl ⟨hok, .inr h⟩
    · exact .inr ⟨hok, .inr h⟩
  · rintro (⟨hok, h⟩ | ⟨hok, h⟩) <;> obtain ⟨h0, h1, _, _⟩ := dotOk_iff.1 hok <;> refine ⟨hok, ?_⟩ <;> rw [vget_join v v' d.r h0 h1, List.mem_append] <;> rcases h with h | h
    · left; omega
    · right; left; exact h
    · left; omega
    · right; right; exact h
theorem join_has (v v' : List Int) (cl cl' : List Dot) (d : Dot) : cHas (cJoin v cl v' cl').1 (cJoin v cl v' cl').2 d = (cHas v cl d || cHas v' cl' d) := by
  unfold cJoin
  rw [clean_has, cat_has, clean_has, clean_has]
theorem zero_has (cl : List Dot) (d : Dot) : cHas (clampTo [] 0) cl d = (dotOk d && decide (d ∈ cl)) := by
  rw [Bool.eq_iff_iff, cHas_iff]
  simp only [Bool.and_eq_true, decide_eq_true_eq]
  constructor
  · rintro ⟨hok, h | h⟩
    · obtain ⟨h0, h1, h2, _⟩ := dotOk_iff.1 hok
      have : vget (clampTo [] 0) d.r = 0 := by
        have := clampTo_get [] 0 d.r.toNat (by omega)
        rw [if_neg (by omega)] at this
        exact this
      omega
    · exact ⟨hok, h⟩
  · rintro ⟨hok, h⟩
    exact ⟨hok, .inr h⟩
theorem canon_join (v v' : List Int) (cl cl' : List Dot) : Canon (fun d => cHas (cJoin v cl v' cl').1 (cJoin v cl v' cl').2 d = true) (cJoin v cl v' cl').1 (cJoin v cl v' cl').2 := by
  have h := clean_canon (vJoin (cClean v cl).1 (cClean v' cl').1) ((cClean v cl).2 ++ (cClean v' cl').2)
  have he : (fun d => cHas (cJoin v cl v' cl').1 (cJoin v cl v' cl').2 d = true) = fun d => cHas (vJoin (cClean v cl).1 (cClean v' cl').1) ((cClean v cl).2 ++ (cClean v' cl').2) d = true := by
    funext d
    unfold cJoin
    rw [clean_has]
  rw [he]
  exact h
theorem canon_zero : Canon (fun d => cHas (clampTo [] 0) [] d = true) (clampTo [] 0) [] := by
  have hz : ∀ r : Int, 0 ≤ r → r ≤ 15 → vget (clampTo [] 0) r = 0 := fun r h0 h1 => by
    have := clampTo_get [] 0 r.toNat (by omega)
    rw [if_neg (by omega)] at this
    exact this
  refine ⟨clampTo_len _ _, fun r h0 h1 => by rw [hz r h0 h1]; exact Int.le_refl _, fun r k h0 h1 h2 h3 => by rw [hz r h0 h1] at h3; omega, fun r h0 h1 h => ?_, fun d => ?_, List.Pairwise.nil⟩
  · rw [zero_has] at h; simp at h
  · rw [zero_has]; simp

/-- May a delta be: facts of its dot alone, and a dot that none ahead of it has. -/
def ownAt (ds : List DeltaV) (i : Nat) : Prop := ∃ d, ds[i]? = some d ∧ dotOk d.dot = true ∧ (∀ f ∈ d.facts, f.dot = d.dot) ∧ d.dot ∉ d.gone ∧ ∀ k e, k < i → ds[k]? = some e → e.dot ≠ d.dot

theorem own_uniq {ds : List DeltaV} {i j : Nat} {d e : DeltaV} (hi : ownAt ds i) (hj : ownAt ds j) (hd : ds[i]? = some d) (he : ds[j]? = some e) (h : d.dot = e.dot) : i = j := by
  obtain ⟨d', hd', _, _, _, h1⟩ := hi
  obtain ⟨e', he', _, _, _, h2⟩ := hj
  rw [hd] at hd'
  rw [he] at he'
  injection hd' with hd'
  injection he' with he'
  subst hd'
  subst he'
  rcases Nat.lt_trichotomy i j with hlt | he | hgt
  · exact absurd h (h2 i d hlt hd)
  · exact he
  · exact absurd h.symm (h1 j e hgt he)

/-- What a side is when just the deltas of which D speaks have been put onto it. -/
structure KInv (ds : List DeltaV) (D : Nat → Prop) (l : List Fact) (v : List Int) (cl : List Dot) : Prop where
  own : ∀ k, D k → ownAt ds k
  canon : Canon (fun d => cHas v cl d = true) v cl
  ctx : ∀ d, cHas v cl d = true ↔ ∃ k x, D k ∧ ds[k]? = some x ∧ (d = x.dot ∨ d ∈ x.gone ∧ dotOk d = true)
  facts : ∀ f, f ∈ l ↔ ∃ k x, D k ∧ ds[k]? = some x ∧ f ∈ x.facts ∧ ∀ j y, D j → ds[j]? = some y → x.dot ∉ y.gone
  rises : Rises factLt l

theorem kinv_start (ds : List DeltaV) : KInv ds (fun _ => False) [] (clampTo [] 0) [] :=
  ⟨fun _ h => h.elim, canon_zero, fun d => by rw [zero_has]; simp, fun f => by simp, List.Pairwise.nil⟩

theorem kSide_mem {l ol : List Fact} {v : List Int} {cl : List Dot} {f : Fact} : f ∈ kSide l v cl ol ↔ f ∈ l ∧ (cHas v cl f.dot = false ∨ f ∈ ol) := by
  unfold kSide
  rw [List.mem_filter]
  simp

theorem kinv_step {ds : List DeltaV} {D : Nat → Prop} {l : List Fact} {v : List Int} {cl : List Dot} (h : KInv ds D l v cl) (k : Nat) (d : DeltaV) (hd : ds[k]? = some d) (hk : ownAt ds k) :
    KInv ds (fun j => D j ∨ j = k) (kApply l v cl d).1 (kApply l v cl d).2.1 (kApply l v cl d).2.2 := by
  obtain ⟨d', hd', hok, hfd, hnd, _⟩ := id hk
  rw [hd] at hd'
  injection hd' with hd'
  subst hd'
  have ha : ∀ e, cHas (cClean (clampTo [] 0) ([] ++ (d.dot :: d.gone))).1 (cClean (clampTo [] 0) ([] ++ (d.dot :: d.gone))).2 e = (dotOk e && decide (e = d.dot ∨ e ∈ d.gone)) := fun e => by
    rw [clean_has, zero_has]
    simp
  have hhas : ∀ e, cHas (kApply l v cl d).2.1 (kApply l v cl d).2.2 e = (cHas v cl e || (dotOk e && decide (e = d.dot ∨ e ∈ d.gone))) := fun e => by
    show cHas (cJoin v cl _ _).1 (cJoin v cl _ _).2 e = _
    rw [join_has, ha]
  refine ⟨fun j hj => ?_, canon_join _ _ _ _, fun e => ?_, fun f => ?_, sortU_rises sto_fact _⟩
  · rcases hj with hj | rfl
    · exact h.own j hj
    · exact hk
  · rw [hhas, Bool.or_eq_true, h.ctx]
    simp only [Bool.and_eq_true, decide_eq_true_eq]
    constructor
    · rintro (⟨j, x, hj, hx, hh⟩ | ⟨he, hh⟩)
      · exact ⟨j, x, .inl hj, hx, hh⟩
      · exact ⟨k, d, .inr rfl, hd, by rcases hh with hh | hh; exact .inl hh; exact .inr ⟨hh, he⟩⟩
    · rintro ⟨j, x, hj | rfl, hx, hh⟩
      · exact .inl ⟨j, x, hj, hx, hh⟩
      · rw [hd] at hx
        injection hx with hx
        subst hx
        rcases hh with rfl | ⟨hh, he⟩
        · exact .inr ⟨hok, .inl rfl⟩
        · exact .inr ⟨he, .inr hh⟩
  · show f ∈ sortU factLt (kSide l _ _ d.facts ++ kSide d.facts v cl l) ↔ _
    rw [sortU_mem, List.mem_append, kSide_mem, kSide_mem, ha]
    constructor
    · rintro (⟨hf, hh⟩ | ⟨hf, hh⟩)
      · obtain ⟨j, x, hj, hx, hfx, hgone⟩ := (h.facts f).1 hf
        refine ⟨j, x, .inl hj, hx, hfx, fun i y hi hy hin => ?_⟩
        rcases hi with hi | rfl
        · exact hgone i y hi hy hin
        · rw [hd] at hy
          injection hy with hy
          subst hy
          obtain ⟨x', hx', hxok, hxf, _, _⟩ := h.own j hj
          rw [hx] at hx'
          injection hx' with hx'
          subst hx'
          have hfd' := hxf f hfx
          rcases hh with hh | hh
          · rw [hfd', hxok] at hh
            simp [hin] at hh
          · rw [hfd f hh] at hfd'
            rw [← hfd'] at hin
            exact hnd hin
      · have hfd' := hfd f hf
        refine ⟨k, d, .inr rfl, hd, hf, fun i y hi hy hin => ?_⟩
        rcases hi with hi | rfl
        · rcases hh with hh | hh
          · rw [hfd'] at hh
            have : cHas v cl d.dot = true := (h.ctx _).2 ⟨i, y, hi, hy, .inr ⟨hin, hok⟩⟩
            rw [hh] at this
            cases this
          · obtain ⟨j, x, hj, hx, hfx, hgone⟩ := (h.facts f).1 hh
            obtain ⟨x', hx', _, hxf, _, _⟩ := h.own j hj
            rw [hx] at hx'
            injection hx' with hx'
            subst hx'
            have := hxf f hfx
            rw [hfd'] at this
            rw [this] at hin
            exact hgone i y hi hy hin
        · rw [hd] at hy
          injection hy with hy
          subst hy
          exact hnd hin
    · rintro ⟨j, x, hj, hx, hfx, hgone⟩
      have hxo : ownAt ds j := by
        rcases hj with hj | rfl
        · exact h.own j hj
        · exact hk
      obtain ⟨x', hx', hxok, hxf, _, _⟩ := id hxo
      rw [hx] at hx'
      injection hx' with hx'
      subst hx'
      have hfd' := hxf f hfx
      by_cases hDj : D j
      · have hfl : f ∈ l := (h.facts f).2 ⟨j, x, hDj, hx, hfx, fun i y hi hy => hgone i y (.inl hi) hy⟩
        by_cases hff : f ∈ d.facts
        · exact .inl ⟨hfl, .inr hff⟩
        · left
          refine ⟨hfl, .inl ?_⟩
          have h1 : x.dot ∉ d.gone := hgone k d (.inr rfl) hd
          have h2 : x.dot ≠ d.dot := fun e => by
            have := own_uniq hxo hk hx hd e
            subst this
            rw [hx] at hd
            injection hd with hd
            subst hd
            exact hff hfx
          rw [hfd', hxok]
          simp [h1, h2]
      · obtain rfl : j = k := by
          rcases hj with hj | hj
          · exact absurd hj hDj
          · exact hj
        rw [hd] at hx
        injection hx with hx
        subst hx
        right
        refine ⟨hfx, .inl ?_⟩
        rw [hfd']
        cases hq : cHas v cl d.dot
        · rfl
        · obtain ⟨i, y, hi, hy, hor⟩ := (h.ctx _).1 hq
          rcases hor with he | ⟨hin, _⟩
          · have := own_uniq (h.own i hi) hk hy hd he.symm
            subst this
            exact absurd hi hDj
          · exact absurd hin (hgone i y (.inl hi) hy)
end Go.Proofs.YtgjffndpegjenaaGreat
