/-
  Contexts in plain Lean: what Clean comes to says the same of every dot, and is told by what it says. No program in sight.
-/
import Derived.Test.YtgjffndpegjenaaGreatCtx
import Derived.Test.YtgjffndpegjenaaGreatOrder
set_option linter.unusedVariables false
set_option linter.unusedSimpArgs false
set_option linter.unusedSectionVars false
namespace Go.Proofs.YtgjffndpegjenaaGreat
open Go.RowKit

theorem vHas_iff {v : List Int} {d : Dot} : vHas v d = true ↔ dotOk d = true ∧ d.n ≤ vget v d.r := by simp [vHas]
theorem cHas_iff {v : List Int} {cl : List Dot} {d : Dot} : cHas v cl d = true ↔ dotOk d = true ∧ (d.n ≤ vget v d.r ∨ d ∈ cl) := by
  simp only [cHas, Bool.or_eq_true, vHas_iff, Bool.and_eq_true, decide_eq_true_eq]
  constructor
  · rintro (⟨h1, h2⟩ | ⟨h1, h2⟩)
    · exact ⟨h1, .inl h2⟩
    · exact ⟨h1, .inr h2⟩
  · rintro ⟨h1, h2 | h2⟩
    · exact .inl ⟨h1, h2⟩
    · exact .inr ⟨h1, h2⟩
theorem clamp_le {n m : Int} (h1 : 1 ≤ n) (h2 : n ≤ 1099511627776) : n ≤ clamp m ↔ n ≤ m := by unfold clamp; omega
theorem vget_clampTo (v : List Int) (r : Int) (h0 : 0 ≤ r) (h1 : r ≤ 15) : vget (clampTo v 16) r = clamp (vget v r) := by
  have := clampTo_get v 16 r.toNat (by omega)
  rw [if_pos (by omega)] at this
  exact this
theorem vget_set (v : List Int) (hv : v.length = 16) (r s : Int) (n : Int) (h0 : 0 ≤ r) (h1 : r ≤ 15) (h2 : 0 ≤ s) : vget (v.set r.toNat n) s = if r = s then n else vget v s := by
  unfold vget
  simp only [List.getD_eq_getElem?_getD, List.getElem?_set]
  by_cases h : r = s
  · subst h
    rw [if_pos rfl, if_pos (by omega), if_pos rfl]
    rfl
  · rw [if_neg (by omega), if_neg h]

/-- What the run over dots keeps: behind the dots l, from the vector v. -/
structure RunInv (v : List Int) (l : List Dot) (s : List Int × List Dot) : Prop where
  len : s.1.length = 16
  up : ∀ r : Int, 0 ≤ r → r ≤ 15 → clamp (vget v r) ≤ vget s.1 r
  run : ∀ r k : Int, 0 ≤ r → r ≤ 15 → clamp (vget v r) < k → k ≤ vget s.1 r → (⟨r, k⟩ : Dot) ∈ l ∧ dotOk ⟨r, k⟩ = true
  stop : ∀ d ∈ l, dotOk d = true → d.n ≠ vget s.1 d.r + 1
  cloud : s.2 = l.filter fun d => dotOk d && !vHas s.1 d

theorem runInv_start (v : List Int) : RunInv v [] (clampTo v 16, []) := by
  refine ⟨clampTo_len _ _, fun r h0 h1 => ?_, fun r k h0 h1 h2 h3 => ?_, fun d hd => ?_, rfl⟩
  · rw [vget_clampTo v r h0 h1]; exact Int.le_refl _
  · rw [vget_clampTo v r h0 h1] at h3; omega
  · simp at hd

theorem runInv_step {v : List Int} {l : List Dot} {s : List Int × List Dot} (h : RunInv v l s) (d : Dot) (hd : ∀ e ∈ l, dotLt e d = true) : RunInv v (l ++ [d]) (cStep s d) := by
  unfold cStep
  by_cases h1 : dotOk d = false ∨ vHas s.1 d = true
  · rw [if_pos h1]
    refine ⟨h.len, h.up, fun r k h0 h2 h3 h4 => ⟨List.mem_append_left _ (h.run r k h0 h2 h3 h4).1, (h.run r k h0 h2 h3 h4).2⟩, fun e he hok => ?_, ?_⟩
    · rcases List.mem_append.1 he with he | he
      · exact h.stop e he hok
      · obtain rfl := List.mem_singleton.1 he
        rcases h1 with h1 | h1
        · rw [h1] at hok; cases hok
        · have := (vHas_iff.1 h1).2; omega
    · rw [List.filter_append, ← h.cloud]
      have : (dotOk d && !vHas s.1 d) = false := by rcases h1 with h1 | h1 <;> simp [h1]
      simp [this]
  · rw [if_neg h1]
    have hok : dotOk d = true := by
      cases hq : dotOk d
      · exact absurd (Or.inl hq) h1
      · rfl
    have hnv : vHas s.1 d = false := by
      cases hq : vHas s.1 d
      · rfl
      · exact absurd (Or.inr hq) h1
    obtain ⟨hr0, hr1, hn1, hn2⟩ := dotOk_iff.1 hok
    have hgt : vget s.1 d.r < d.n := by
      rcases Int.lt_or_le (vget s.1 d.r) d.n with hlt | hle
      · exact hlt
      · rw [vHas_iff.2 ⟨hok, hle⟩] at hnv; cases hnv
    by_cases h2 : d.n = vget s.1 d.r + 1
    · rw [if_pos h2]
      have hset : ∀ r : Int, 0 ≤ r → vget (s.1.set d.r.toNat (vget s.1 d.r + 1)) r = if d.r = r then vget s.1 d.r + 1 else vget s.1 r := fun r h0 => vget_set s.1 h.len d.r r _ hr0 hr1 h0
      refine ⟨by simp [h.len], fun r h0 h3 => ?_, fun r k h0 h3 h4 h5 => ?_, fun e he hoke => ?_, ?_⟩
      · simp only [hset r h0]
        have := h.up r h0 h3
        split
        · rename_i hr; subst hr; omega
        · exact this
      · simp only [hset r h0] at h5
        split at h5
        · rename_i hr
          subst hr
          by_cases hk : k = vget s.1 d.r + 1
          · have : (⟨d.r, k⟩ : Dot) = d := by
              cases d
              simp only at hk h2 ⊢
              simp only [Dot.mk.injEq, true_and]
              omega
            rw [this]
            exact ⟨by simp, hok⟩
          · have := h.run d.r k h0 h3 h4 (by omega)
            exact ⟨List.mem_append_left _ this.1, this.2⟩
        · have := h.run r k h0 h3 h4 h5
          exact ⟨List.mem_append_left _ this.1, this.2⟩
      · obtain ⟨he0, he1, he2, he3⟩ := dotOk_iff.1 hoke
        simp only [hset e.r he0]
        rcases List.mem_append.1 he with he | he
        · split
          · rename_i hr
            have := dotLt_iff.1 (hd e he)
            omega
          · exact h.stop e he hoke
        · obtain rfl := List.mem_singleton.1 he
          rw [if_pos rfl]
          omega
      · rw [List.filter_append]
        have hd' : (dotOk d && !vHas (s.1.set d.r.toNat (vget s.1 d.r + 1)) d) = false := by
          have : vHas (s.1.set d.r.toNat (vget s.1 d.r + 1)) d = true := vHas_iff.2 ⟨hok, by rw [hset d.r hr0, if_pos rfl]; omega⟩
          simp [this]
        have hl : (l.filter fun e => dotOk e && !vHas (s.1.set d.r.toNat (vget s.1 d.r + 1)) e) = l.filter fun e => dotOk e && !vHas s.1 e := by
          apply List.filter_congr
          intro e he
          cases hoke : dotOk e
          · rfl
          · obtain ⟨he0, he1, he2, he3⟩ := dotOk_iff.1 hoke
            have : vHas (s.1.set d.r.toNat (vget s.1 d.r + 1)) e = vHas s.1 e := by
              rw [Bool.eq_iff_iff, vHas_iff, vHas_iff]
              rw [hset e.r he0]
              split
              · rename_i hr
                have hlt := dotLt_iff.1 (hd e he)
                rw [← hr]
                constructor
                · rintro ⟨a, b⟩; exact ⟨a, by omega⟩
                · rintro ⟨a, b⟩; exact ⟨a, by omega⟩
              · rfl
            rw [this]
        rw [hl, ← h.cloud]
        simp [hd']
    · rw [if_neg h2]
      refine ⟨h.len, h.up, fun r k h0 h3 h4 h5 => ⟨List.mem_append_left _ (h.run r k h0 h3 h4 h5).1, (h.run r k h0 h3 h4 h5).2⟩, fun e he hoke => ?_, ?_⟩
      · rcases List.mem_append.1 he with he | he
        · exact h.stop e he hoke
        · obtain rfl := List.mem_singleton.1 he
          exact h2
      · rw [List.filter_append, ← h.cloud]
        simp [hok, hnv]

theorem runInv_run (v : List Int) (l : List Dot) (hl : Rises dotLt l) : RunInv v l (cRun v l) := by
  have key : ∀ (p q : List Dot) (s : List Int × List Dot), p ++ q = l → RunInv v p s → RunInv v l (q.foldl cStep s) := by
    intro p q
    induction q generalizing p with
    | nil => intro s e h; rw [List.append_nil] at e; subst e; exact h
    | cons d q ih =>
      intro s e h
      refine ih (p ++ [d]) (cStep s d) (by simpa using e) (runInv_step h d fun f hf => ?_)
      have hr : Rises dotLt (p ++ d :: q) := by rw [e]; exact hl
      exact (List.pairwise_append.1 hr).2.2 f hf d (by simp)
  exact key [] l (clampTo v 16, []) rfl (runInv_start v)

/-- A context in its one form for what it says. -/
structure Canon (P : Dot → Prop) (v : List Int) (cl : List Dot) : Prop where
  len : v.length = 16
  lo : ∀ r : Int, 0 ≤ r → r ≤ 15 → 0 ≤ vget v r
  has : ∀ r k : Int, 0 ≤ r → r ≤ 15 → 1 ≤ k → k ≤ vget v r → P ⟨r, k⟩
  stop : ∀ r : Int, 0 ≤ r → r ≤ 15 → ¬ P ⟨r, vget v r + 1⟩
  mem : ∀ d, d ∈ cl ↔ P d ∧ vget v d.r < d.n
  rises : Rises dotLt cl

theorem canon_uniq {P : Dot → Prop} {v v' : List Int} {cl cl' : List Dot} (h : Canon P v cl) (h' : Canon P v' cl') : v = v' ∧ cl = cl' := by
  have hv : ∀ r : Int, 0 ≤ r → r ≤ 15 → vget v r = vget v' r := by
    intro r h0 h1
    rcases Int.lt_trichotomy (vget v r) (vget v' r) with hlt | he | hgt
    · exact absurd (h'.has r (vget v r + 1) h0 h1 (by have := h.lo r h0 h1; omega) (by omega)) (h.stop r h0 h1)
    · exact he
    · exact absurd (h.has r (vget v' r + 1) h0 h1 (by have := h'.lo r h0 h1; omega) (by omega)) (h'.stop r h0 h1)
  have hvv : v = v' := by
    apply List.ext_getElem (by rw [h.len, h'.len])
    intro i h1 h2
    have := hv (i : Int) (by omega) (by have := h.len; omega)
    simpa [vget, List.getD_eq_getElem?_getD, List.getElem?_eq_getElem h1, List.getElem?_eq_getElem h2] using this
  refine ⟨hvv, rises_uniq sto_dot h.rises h'.rises fun d => ?_⟩
  rw [h.mem, h'.mem, hvv]

/-- Clean's answer is the one form of what its argument says. -/
theorem clean_canon (v : List Int) (cl : List Dot) : Canon (fun d => cHas v cl d = true) (cClean v cl).1 (cClean v cl).2 := by
  have hI := runInv_run v (sortU dotLt cl) (sortU_rises sto_dot cl)
  have hvin : vIn (cRun v (sortU dotLt cl)).1 := vIn_run _ _
  have hb : ∀ r : Int, 0 ≤ vget (cRun v (sortU dotLt cl)).1 r ∧ vget (cRun v (sortU dotLt cl)).1 r ≤ 1099511627776 := fun r => hvin r.toNat
  refine ⟨hI.len, fun r _ _ => (hb r).1, fun r k h0 h1 h2 h3 => ?_, fun r h0 h1 hP => ?_, fun d => ?_, ?_⟩
  · have hk := (hb r).2
    refine cHas_iff.2 ⟨dotOk_iff.2 ⟨h0, h1, h2, (show k ≤ 1099511627776 by simp only [cClean] at h3; omega)⟩, ?_⟩
    by_cases hc : k ≤ clamp (vget v r)
    · left
      have h4 : k ≤ 1099511627776 := by simp only [cClean] at h3; omega
      exact (clamp_le h2 h4).1 hc
    · right
      have := (hI.run r k h0 h1 (by omega) h3).1
      rwa [sortU_mem] at this
  · obtain ⟨hok, hor⟩ := cHas_iff.1 hP
    obtain ⟨_, _, hn1, hn2⟩ := dotOk_iff.1 hok
    rcases hor with hle | hin
    · have h4 := (clamp_le hn1 hn2).2 hle
      have h5 := hI.up r h0 h1
      simp only [cClean] at h4
      omega
    · exact hI.stop _ (by rw [sortU_mem]; exact hin) hok rfl
  · simp only [cClean]
    rw [hI.cloud, List.mem_filter, sortU_mem, cHas_iff]
    simp only [Bool.and_eq_true, Bool.not_eq_true']
    constructor
    · rintro ⟨hin, hok, hnv⟩
      refine ⟨⟨hok, .inr hin⟩, ?_⟩
      rcases Int.lt_or_le (vget (cRun v (sortU dotLt cl)).1 d.r) d.n with hlt | hle
      · exact hlt
      · rw [vHas_iff.2 ⟨hok, hle⟩] at hnv; cases hnv
    · rintro ⟨⟨hok, hor⟩, hgt⟩
      obtain ⟨h0, h1, hn1, hn2⟩ := dotOk_iff.1 hok
      have hnv : vHas (cRun v (sortU dotLt cl)).1 d = false := by
        cases hq : vHas (cRun v (sortU dotLt cl)).1 d
        · rfl
        · have := (vHas_iff.1 hq).2; omega
      refine ⟨?_, hok, hnv⟩
      rcases hor with hle | hin
      · have h4 := (clamp_le hn1 hn2).2 hle
        have h5 := hI.up d.r h0 h1
        omega
      · exact hin
  · simp only [cClean]
    rw [hI.cloud]
    exact List.Pairwise.filter _ (sortU_rises sto_dot cl)

/-- What Clean's answer says of a dot. -/
theorem clean_has (v : List Int) (cl : List Dot) (d : Dot) : cHas (cClean v cl).1 (cClean v cl).2 d = cHas v cl d := by
  have hC := clean_canon v cl
  rw [Bool.eq_iff_iff]
  constructor
  · intro h
    obtain ⟨hok, hor⟩ := cHas_iff.1 h
    obtain ⟨h0, h1, hn1, hn2⟩ := dotOk_iff.1 hok
    rcases hor with hle | hin
    · exact hC.has d.r d.n h0 h1 hn1 hle
    · exact ((hC.mem d).1 hin).1
  · intro h
    have hok := (cHas_iff.1 h).1
    rcases Int.lt_or_le (vget (cClean v cl).1 d.r) d.n with hlt | hle
    · exact cHas_iff.2 ⟨hok, .inr ((hC.mem d).2 ⟨h, hlt⟩)⟩
    · exact cHas_iff.2 ⟨hok, .inl hle⟩
theorem clean_eq {v v' : List Int} {cl cl' : List Dot} (h : ∀ d, cHas v cl d = cHas v' cl' d) : cClean v cl = cClean v' cl' := by
  have h1 := clean_canon v cl
  have h2 := clean_canon v' cl'
  have he : (fun d => cHas v cl d = true) = fun d => cHas v' cl' d = true := by funext d; rw [h d]
  rw [he] at h1
  obtain ⟨a, b⟩ := canon_uniq h1 h2
  exact Prod.ext a b
end Go.Proofs.YtgjffndpegjenaaGreat
