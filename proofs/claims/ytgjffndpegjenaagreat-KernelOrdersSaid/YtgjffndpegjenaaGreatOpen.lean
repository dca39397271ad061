/-
  Arguments that come in, opened: what reads as data of a type is one of these.
-/
import Derived.Test.YtgjffndpegjenaaGreatApply
import Derived.Deep.Slices
import Derived.Deep.Fields
import Derived.OpenShut
set_option linter.unusedVariables false
set_option linter.unusedSimpArgs false
set_option linter.unusedSectionVars false
namespace Go.Proofs.YtgjffndpegjenaaGreat
open Go.RowKit Go.ChangeShapes Go.WideShapes Go.Deep

/-- What reads as data of type t is some a of which 'good' holds, and its cells are 'enc a'. -/
def Opens (P : Program) (w : World) (t : TypeId) {α : Type} (enc : α → List Value) (good : α → Prop) : Prop :=
  ∀ {H : Type} (en : TypeId × Value → H) (spare : Nat → Bool) (held : Bool) (n : Nat) (cs : List Value) (x : DataW H × List MemPlace), DataW.trod en P w 0 spare held n t cs = some x → ∃ a, cs = enc a ∧ good a

section
variable {P : Program} {w : World} {t : TypeId}
theorem opens_int {k : IntKind} (ht : P.underlying t = some (.int k)) : Opens P w t (fun n : Int => [.int k n]) (fun n => (Lit.int k n).wf = true) := by
  intro H en spare held n cs x h
  obtain ⟨m, hc, _, hw⟩ := DataW.trod_int ht h
  exact ⟨m, hc, hw⟩
theorem opens_string (ht : P.underlying t = some .string) : Opens P w t (fun s : ByteArray => [.string s]) (fun s => s.size ≤ 9223372036854775807) := by
  intro H en spare held n cs x h
  obtain ⟨m, hc, _, hw⟩ := DataW.trod_string ht h
  exact ⟨m, hc, by simpa [maxLen] using hw⟩

theorem spot_of_cell {a : Addr} {v : Value} (h : w.cell? a = some v) : a.spot = none ∧ a.block < w.heap.size := by
  have hb := block_lt_of_cell h
  unfold World.cell? at h
  split at h
  · split at h
    · cases h
    · rename_i hs
      exact ⟨by simpa using hs, hb⟩
  · cases h

theorem pick_list {α : Type} {p : Nat → α → Prop} : ∀ (m : Nat), (∀ i, i < m → ∃ a, p i a) → ∃ l : List α, l.length = m ∧ ∀ i a, l[i]? = some a → p i a
  | 0, _ => ⟨[], rfl, fun i a h => by simp at h⟩
  | m + 1, h => by
    obtain ⟨l, hl, hp⟩ := pick_list m fun i hi => h i (by omega)
    obtain ⟨a, ha⟩ := h m (by omega)
    refine ⟨l ++ [a], by simp [hl], fun i b hb => ?_⟩
    rcases Nat.lt_or_ge i m with hi | hi
    · rw [List.getElem?_append_left (by omega)] at hb
      exact hp i b hb
    · rw [List.getElem?_append_right (by omega)] at hb
      obtain rfl : i = m := by
        have := (List.getElem?_eq_some_iff.1 hb).1
        simp at this
        omega
      rw [hl] at hb
      simp at hb
      rw [← hb]
      exact ha

/-- A slice that comes in: where it lies, its elements, and how many there may be. -/
structure SlV (α : Type) where
  A : Option Addr
  xs : List α
  cap : Nat
def encSl {α : Type} (s : SlV α) : List Value := [.slice s.A s.xs.length s.cap]
structure SlOk {α : Type} (enc : α → List Value) (k : Nat) (good : α → Prop) (w : World) (s : SlV α) : Prop where
  rd : RdS enc k w s.A s.xs
  all : ∀ x ∈ s.xs, good x
  cap : s.xs.length ≤ s.cap ∧ s.cap ≤ 9223372036854775807

theorem opens_slice {e : TypeId} {α : Type} {enc : α → List Value} {good : α → Prop} {k : Nat} (hk0 : 0 < k) (ht : P.underlying t = some (.slice e)) (hk : P.cellsOf e = k) (he : Opens P w e enc good) : Opens P w t encSl (SlOk enc k good w) := by
  intro H en spare held n cs x h
  rcases open_slice ht h with ⟨hc, _⟩ | ⟨a, len, cap, m, n', D, Pl, hc, _, hl, hm, hmm, _, hi⟩
  · exact ⟨⟨none, [], 0⟩, hc, RdS.nil _ _ _ _, by simp, by simp⟩
  · have hlm : len ≤ m := by rw [hmm]; split <;> omega
    rw [hk] at hi
    obtain ⟨l, hll, hp⟩ := pick_list (p := fun i y => w.cells? 0 (a.add (i * k)) k = some (enc y) ∧ good y) len fun i hil => by
      obtain ⟨cs', h1, h2⟩ := hi i (by omega)
      obtain ⟨y, rfl, hg⟩ := he en spare held n' cs' _ h2
      exact ⟨y, h1, hg⟩
    refine ⟨⟨some a, l, cap⟩, by rw [hc, encSl, hll], fun hn => ?_, fun y hy => ?_, by simp only [maxLen] at hm; simp only [hll]; exact ⟨hl, hm⟩⟩
    · have h0 : 0 < l.length := List.length_pos_iff.2 hn
      have hy0 : l[0]? = some l[0] := List.getElem?_eq_getElem h0
      obtain ⟨h1, _⟩ := hp 0 _ hy0
      obtain ⟨_, hlen, hat⟩ := World.cells?_some h1
      have hc0 := hat 0 hk0
      rw [List.getElem?_eq_getElem (by omega)] at hc0
      have e0 : (a.add (0 * k)).add 0 = a := by simp [Addr.add]
      rw [e0] at hc0
      obtain ⟨hs, hb⟩ := spot_of_cell hc0
      cases a with
      | mk b o s =>
        simp only at hs hb
        subst hs
        refine ⟨b, o, rfl, hb, fun i y hy j v hj => ?_⟩
        obtain ⟨h1, _⟩ := hp i y hy
        obtain ⟨_, hlen, hat⟩ := World.cells?_some h1
        have hjk : j < k := by rw [← hlen]; exact (List.getElem?_eq_some_iff.1 hj).1
        have := hat j hjk
        rw [hj, Addr.add_mid, Addr.add_mid] at this
        exact this
    · obtain ⟨i, hi', rfl⟩ := List.getElem_of_mem hy
      exact (hp i _ (List.getElem?_eq_getElem hi')).2

/-- One field of a struct. -/
theorem opens_field {fs : Array Field} {H : Type} {en : TypeId × Value → H} {spare : Nat → Bool} {held : Bool} {n : Nat} {cs : List Value} {xs : List (DataW H × List MemPlace)} (hl : xs.length = fs.size)
    (h : ∀ (i : Nat) (f : Field), fs[i]? = some f → DataW.trod en P w 0 spare held n f.type ((cs.drop f.offset).take (P.cellsOf f.type)) = xs[i]?)
    (i : Nat) (f : Field) (hf : fs[i]? = some f) {α : Type} {enc : α → List Value} {good : α → Prop} (ho : Opens P w f.type enc good) (o k : Nat) (hoff : f.offset = o) (hk : P.cellsOf f.type = k) : ∃ a, (cs.drop o).take k = enc a ∧ good a := by
  have h1 := h i f hf
  have hi : i < fs.size := (Array.getElem?_eq_some_iff.1 hf).1
  rw [List.getElem?_eq_getElem (by omega), hoff, hk] at h1
  exact ho en spare held n _ _ h1
end

theorem list_cut (cs : List Value) (o k : Nat) : cs.drop o = (cs.drop o).take k ++ cs.drop (o + k) := by
  rw [← List.drop_drop]; exact (List.take_append_drop k _).symm
theorem opens_Dot {w : World} : Opens Tryz.prog w 37 encDot (fun _ => True) := by
  intro H en spare held n cs x h
  obtain ⟨xs, m, _, _, hl, hx, hf⟩ := DataW.trod_struct Tryz.underlying37 h
  obtain ⟨r, h0, _⟩ := opens_field hx hf 0 _ rfl (opens_int Tryz.underlying3) 0 1 rfl (by kernel_rfl)
  obtain ⟨n', h1, _⟩ := opens_field hx hf 1 _ rfl (opens_int Tryz.underlying3) 1 1 rfl (by kernel_rfl)
  have hl' : cs.length = 2 := hl.trans (by kernel_rfl)
  refine ⟨⟨r, n'⟩, ?_, trivial⟩
  have e0 := list_cut cs 0 1
  have e1 := list_cut cs 1 1
  rw [h0] at e0
  rw [h1, List.drop_of_length_le (i := 1 + 1) (by omega)] at e1
  rw [List.drop_zero] at e0
  rw [e0, e1]
  rfl
theorem opens_Stamp {w : World} : Opens Tryz.prog w 39 (fun s : Stamp => [.int .i64 s.t, .int .i64 s.c, .int .i64 s.r]) (fun _ => True) := by
  intro H en spare held n cs x h
  obtain ⟨xs, m, _, _, hl, hx, hf⟩ := DataW.trod_struct Tryz.underlying39 h
  obtain ⟨t, h0, _⟩ := opens_field hx hf 0 _ rfl (opens_int Tryz.underlying3) 0 1 rfl (by kernel_rfl)
  obtain ⟨c, h1, _⟩ := opens_field hx hf 1 _ rfl (opens_int Tryz.underlying3) 1 1 rfl (by kernel_rfl)
  obtain ⟨r, h2, _⟩ := opens_field hx hf 2 _ rfl (opens_int Tryz.underlying3) 2 1 rfl (by kernel_rfl)
  have hl' : cs.length = 3 := hl.trans (by kernel_rfl)
  refine ⟨⟨t, c, r⟩, ?_, trivial⟩
  have e0 := list_cut cs 0 1
  have e1 := list_cut cs 1 1
  have e2 := list_cut cs 2 1
  rw [h0, List.drop_zero] at e0
  rw [h1] at e1
  rw [h2, List.drop_of_length_le (i := 2 + 1) (by omega)] at e2
  rw [e0, e1, e2]
  rfl
/-- What is known of a fact that came in. -/
structure FactIn (f : Fact) : Prop where
  name : f.name.size ≤ 9223372036854775807
  value : f.value.size ≤ 9223372036854775807
theorem opens_Fact {w : World} : Opens Tryz.prog w 77 encFact FactIn := by
  intro H en spare held n cs x h
  obtain ⟨xs, m, _, _, hl, hx, hf⟩ := DataW.trod_struct Tryz.underlying77 h
  obtain ⟨d, h0, _⟩ := opens_field hx hf 0 _ rfl opens_Dot 0 2 rfl (by kernel_rfl)
  obtain ⟨s, h1, _⟩ := opens_field hx hf 1 _ rfl opens_Stamp 2 3 rfl (by kernel_rfl)
  obtain ⟨k, h2, _⟩ := opens_field hx hf 2 _ rfl (opens_int Tryz.underlying3) 5 1 rfl (by kernel_rfl)
  obtain ⟨nm, h3, g3⟩ := opens_field hx hf 3 _ rfl (opens_string Tryz.underlying9) 6 1 rfl (by kernel_rfl)
  obtain ⟨v, h4, g4⟩ := opens_field hx hf 4 _ rfl (opens_string Tryz.underlying9) 7 1 rfl (by kernel_rfl)
  have hl' : cs.length = 8 := hl.trans (by kernel_rfl)
  refine ⟨⟨d, s, k, nm, v⟩, ?_, g3, g4⟩
  have e0 := list_cut cs 0 2
  have e1 := list_cut cs 2 3
  have e2 := list_cut cs 5 1
  have e3 := list_cut cs 6 1
  have e4 := list_cut cs 7 1
  rw [h0, List.drop_zero] at e0
  rw [h1] at e1
  rw [h2] at e2
  rw [h3] at e3
  rw [h4, List.drop_of_length_le (i := 7 + 1) (by omega)] at e4
  rw [e0, e1, e2, e3, e4]
  rfl
/-- What is known of a delta that came in. -/
structure DeltaIn (w : World) (d : DeltaV) : Prop where
  ok : DeltaOk w d
  facts : ∀ f ∈ d.facts, FactIn f
  fl : d.facts.length ≤ 9223372036854775807
  gl : d.gone.length ≤ 9223372036854775807
theorem opens_Delta {w : World} : Opens Tryz.prog w 41 deltaCells (DeltaIn w) := by
  intro H en spare held n cs x h
  obtain ⟨xs, m, _, _, hl, hx, hf⟩ := DataW.trod_struct Tryz.underlying41 h
  obtain ⟨d, h0, _⟩ := opens_field hx hf 0 _ rfl opens_Dot 0 2 rfl (by kernel_rfl)
  obtain ⟨s, h1, _⟩ := opens_field hx hf 1 _ rfl opens_Stamp 2 3 rfl (by kernel_rfl)
  obtain ⟨fs, h2, g2⟩ := opens_field hx hf 2 _ rfl (opens_slice (k := 8) (by omega) Tryz.underlying26 (by kernel_rfl) opens_Fact) 5 1 rfl (by kernel_rfl)
  obtain ⟨gs, h3, g3⟩ := opens_field hx hf 3 _ rfl (opens_slice (k := 2) (by omega) Tryz.underlying29 (by kernel_rfl) opens_Dot) 6 1 rfl (by kernel_rfl)
  have hl' : cs.length = 7 := hl.trans (by kernel_rfl)
  refine ⟨⟨d, s, fs.A, fs.cap, fs.xs, gs.A, gs.cap, gs.xs⟩, ?_, ⟨g2.rd, g3.rd⟩, g2.all, Nat.le_trans g2.cap.1 g2.cap.2, Nat.le_trans g3.cap.1 g3.cap.2⟩
  have e0 := list_cut cs 0 2
  have e1 := list_cut cs 2 3
  have e2 := list_cut cs 5 1
  have e3 := list_cut cs 6 1
  rw [h0, List.drop_zero] at e0
  rw [h1] at e1
  rw [h2] at e2
  rw [h3, List.drop_of_length_le (i := 6 + 1) (by omega)] at e3
  rw [e0, e1, e2, e3]
  rfl
end Go.Proofs.YtgjffndpegjenaaGreat
