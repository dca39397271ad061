/-
  kernel.Check, out of what fact.Check tells of each fact.
-/
import Derived.Test.YtgjffndpegjenaaGreatVCheck
import Derived.Test.YtgjffndpegjenaaGreatLike
import Derived.Test.YtgjffndpegjenaaGreatOrder
import Derived.Test.YtgjffndpegjenaaGreatHas
import Derived.Outline
import Derived.Deep.QuietTactic
import Derived.BigQuiet
import Derived.WalkSpells
import Derived.WalkLawsBesides
import Derived.LoopTactic
import Derived.Lib.Hide
import Derived.Deep.RegionHeld3
import Derived.Deep.DeepCutAuto
import Derived.Laws.BitsLemmas
set_option linter.unusedVariables false
set_option linter.unusedSimpArgs false
set_option linter.unusedSectionVars false
namespace Go.Proofs.YtgjffndpegjenaaGreat
open Go.RowKit
attribute [local go_sem] lat_alloc lat_drew lat_drewN Lat.refl
attribute [local go_sem high] eqIn_dot eqIn_stamp eqIn_fact

theorem lt_of_get {α : Type} {l : List α} {k : Nat} {x : α} (h : l[k]? = some x) : k < l.length := (List.getElem?_eq_some_iff.1 h).1
/-- The first error of facts. -/
def firstE (fe : Fact → Int) : List Fact → Int
  | [] => 0
  | f :: l => if fe f ≠ 0 then fe f else firstE fe l
/-- May a fact stand at its place? -/
def kOk (l : List Fact) (v : List Int) (cl : List Dot) (i : Nat) (f : Fact) : Prop :=
  (∀ p, 0 < i → l[i - 1]? = some p → factLt p f = true) ∧ cHas v cl f.dot = true ∧ (l.take i).any (likeB · f) = false
open Classical in
/-- kernel.Check's number. -/
noncomputable def kErr (fe : Fact → Int) (l : List Fact) (v : List Int) (cl : List Dot) : Int :=
  if cErr v cl ≠ 0 then cErr v cl else if firstE fe l ≠ 0 then firstE fe l else if ∀ i f, l[i]? = some f → kOk l v cl i f then 0 else 5

theorem firstE_zero {fe : Fact → Int} {l : List Fact} : firstE fe l = 0 ↔ ∀ f ∈ l, fe f = 0 := by
  induction l with
  | nil => simp [firstE]
  | cons f l ih =>
    unfold firstE
    by_cases h : fe f = 0
    · rw [if_neg (by simpa using h), ih]; simp [h]
    · rw [if_pos h]; simp [h]
theorem firstE_at {fe : Fact → Int} {l : List Fact} {k : Nat} {f : Fact} (hf : l[k]? = some f) (h0 : ∀ x ∈ l.take k, fe x = 0) (h : fe f ≠ 0) : firstE fe l = fe f := by
  induction l generalizing k with
  | nil => simp at hf
  | cons g l ih =>
    cases k with
    | zero =>
      simp only [List.getElem?_cons_zero, Option.some.injEq] at hf
      subst hf
      exact if_pos h
    | succ k =>
      unfold firstE
      rw [if_neg (by simpa using h0 g (by simp))]
      exact ih (by simpa using hf) (fun x hx => h0 x (by simp [hx]))
section
variable {fe : Fact → Int} {l : List Fact} {v : List Int} {cl : List Dot}
theorem kErr_c (h : cErr v cl ≠ 0) : kErr fe l v cl = cErr v cl := if_pos h
theorem kErr_f (h : cErr v cl = 0) {k : Nat} {f : Fact} (hf : l[k]? = some f) (h0 : ∀ x ∈ l.take k, fe x = 0) (he : fe f ≠ 0) : kErr fe l v cl = fe f := by
  unfold kErr
  rw [if_neg (by simpa using h), firstE_at hf h0 he, if_pos he]
theorem kErr_no (h : cErr v cl = 0) (h0 : ∀ f ∈ l, fe f = 0) {i : Nat} {f : Fact} (hf : l[i]? = some f) (hn : ¬ kOk l v cl i f) : kErr fe l v cl = 5 := by
  unfold kErr
  rw [if_neg (by simpa using h), if_neg (by simpa using firstE_zero.2 h0), if_neg (fun hh => hn (hh i f hf))]
theorem kErr_yes (h : cErr v cl = 0) (h0 : ∀ f ∈ l, fe f = 0) (hall : ∀ i f, l[i]? = some f → kOk l v cl i f) : kErr fe l v cl = 0 := by
  unfold kErr
  rw [if_neg (by simpa using h), if_neg (by simpa using firstE_zero.2 h0), if_pos hall]
end

theorem fact_Less (a b : Fact) (w : World) : Calls Tryz.prog 192 #[.agg #[.int .i64 a.dot.r, .int .i64 a.dot.n, .int .i64 a.stamp.t, .int .i64 a.stamp.c, .int .i64 a.stamp.r, .int .i64 a.kind, .string a.name, .string a.value], .agg #[.int .i64 b.dot.r, .int .i64 b.dot.n, .int .i64 b.stamp.t, .int .i64 b.stamp.c, .int .i64 b.stamp.r, .int .i64 b.kind, .string b.name, .string b.value]] w fun e w' => e = .returned (.bool (factLt a b)) ∧ Lat w w' :=
  (fact_Less0 a b w).mono fun _ _ ⟨h, g⟩ => ⟨by rw [h, ordFact_lt], g.lat⟩

set_option maxRecDepth 100000 in
set_option maxHeartbeats 2000000 in
theorem kernel_Check (fe : Fact → Int) (A : Option Addr) (n c : Nat) (l : List Fact) (hl : l.length = n) (hn : n ≤ 1099511627776) (hnc : n ≤ c) (x : CtxV) (w : World) (hx : CtxOk w x) (hrl : RdS encFact 8 w A l)
    (hfe : ∀ f ∈ l, ∀ W, Calls Tryz.prog 191 #[.agg #[.int .i64 f.dot.r, .int .i64 f.dot.n, .int .i64 f.stamp.t, .int .i64 f.stamp.c, .int .i64 f.stamp.r, .int .i64 f.kind, .string f.name, .string f.value]] W fun e w' => e = .returned (.int .i64 (fe f)) ∧ Lat W w') :
    Calls Tryz.prog 85 #[.slice A n c, .agg (ctxCells x).toArray] w fun e w' => e = .returned (.int .i64 (kErr fe l x.v x.cloud)) ∧ Lat w w' := by
  have hlx : (ctxCells x).length = 17 := ctxCells_len x hx.len
  have HC := Lib.hid (fun W (h : Lat w W) => causal_Check x W (hx.later h))
  have HH := Lib.hid (fun d W (h : Lat w W) => causal_Has x d W (hx.later h))
  have HLs := Lib.hid fact_Less
  have HF := Lib.hid hfe
  have Hx := Lib.hid hx
  have Hrl := Lib.hid hrl
  have Hl := Lib.hid hl
  clear hx hrl hfe hl
  by_cases hc : cErr x.v x.cloud = 0
  · rw [hc] at HC
    have Hc := Lib.hid hc
    clear hc
    go_enter Tryz.func85, Tryz.ntmps85
    go_upto_region 1 with (fail)
    have l0 : Lat w (w.alloc (Obj.cells (ctxCells x).toArray 31)) := (by repeat (first | with_reducible exact Lat.refl _ | with_reducible assumption | with_reducible apply lat_alloc | with_reducible apply lat_drewN | with_reducible apply lat_drew))
    have k0 := (new_at w (Obj.cells (ctxCells x).toArray 31))
    generalize (w.alloc (Obj.cells (ctxCells x).toArray 31)) = W0 at *
    have hrefl := Lat.refl W0
    have K0 := Lib.hid k0
    clear k0
    go_wp2_with (first
      | ((with_reducible refine wpList_ld 31 (w.heap.size) (0) (ctxCells x) ?_ Tryz.underlying31 ?_ ?_ ?_ ?_ ?_); exact (ctx_whole K0.out (by repeat (first | with_reducible exact Lat.refl _ | with_reducible assumption | with_reducible apply lat_alloc | with_reducible apply lat_drewN | with_reducible apply lat_drew))); rfl; (rw [hlx]; kernel_rfl); rfl; rfl)
      | (go_at_call 190; refine (HC.out _ (l0.trans (by repeat (first | with_reducible exact Lat.refl _ | with_reducible assumption | with_reducible apply lat_alloc | with_reducible apply lat_drewN | with_reducible apply lat_drew)))).mono ?_; rintro e w1 ⟨rfl, hb1⟩; have hw1 : Lat W0 w1 := hb1.pre (by repeat (first | with_reducible exact Lat.refl _ | with_reducible assumption | with_reducible apply lat_alloc | with_reducible apply lat_drewN | with_reducible apply lat_drew))))
    go_loopw [18] (fun i wr => ∃ k : Nat, k ≤ n ∧ i = .int .i64 k ∧ Lat W0 wr ∧ ∀ f ∈ l.take k, fe f = 0) (fun i _ => n - (intOf i).toNat)
    case atStart => exact ⟨0, by omega, rfl, hw1, by simp⟩
    case round =>
      obtain ⟨k, hk, rfl, hL, hall⟩ := hrel
      have Hall := Lib.hid hall
      clear hall
      have hl := Hl.out
      by_cases hlt : k < n
      · have hx : l[k]? = some (l[k]'(by omega)) := List.getElem?_eq_getElem (by omega)
        have hmem : l[k]'(by omega) ∈ l := List.getElem_mem _
        have ht := List.take_succ_eq_append_getElem (l := l) (i := k) (by omega)
        obtain ⟨b, o, rfl, hb, hr⟩ := Hrl.out.get k _ hx
        have HFf := Lib.hid (HF.out _ hmem)
        generalize l[k]'(by omega) = f at *
        have Hx := Lib.hid hx
        have Ht := Lib.hid ht
        have cx0 : ∀ W, Lat W0 W → W.cell? ⟨b, o + k * 8, none⟩ = some (.int .i64 f.dot.r) := fun W h => hr W (l0.trans h) 0 _ rfl
        have cx1 : ∀ W, Lat W0 W → W.cell? ⟨b, o + k * 8 + 1, none⟩ = some (.int .i64 f.dot.n) := fun W h => hr W (l0.trans h) 1 _ rfl
        have cx2 : ∀ W, Lat W0 W → W.cell? ⟨b, o + k * 8 + 2, none⟩ = some (.int .i64 f.stamp.t) := fun W h => hr W (l0.trans h) 2 _ rfl
        have cx3 : ∀ W, Lat W0 W → W.cell? ⟨b, o + k * 8 + 3, none⟩ = some (.int .i64 f.stamp.c) := fun W h => hr W (l0.trans h) 3 _ rfl
        have cx4 : ∀ W, Lat W0 W → W.cell? ⟨b, o + k * 8 + 4, none⟩ = some (.int .i64 f.stamp.r) := fun W h => hr W (l0.trans h) 4 _ rfl
        have cx5 : ∀ W, Lat W0 W → W.cell? ⟨b, o + k * 8 + 5, none⟩ = some (.int .i64 f.kind) := fun W h => hr W (l0.trans h) 5 _ rfl
        have cx6 : ∀ W, Lat W0 W → W.cell? ⟨b, o + k * 8 + 6, none⟩ = some (.string f.name) := fun W h => hr W (l0.trans h) 6 _ rfl
        have cx7 : ∀ W, Lat W0 W → W.cell? ⟨b, o + k * 8 + 7, none⟩ = some (.string f.value) := fun W h => hr W (l0.trans h) 7 _ rfl
        have hi0 : (0 : Int) ≤ (k : Int) := by omega
        have hi1 : (k : Int) < (n : Int) := by omega
        clear hx ht hr hmem hl
        by_cases he : fe f = 0
        · have He := Lib.hid he
          clear he
          go_wp2_with fail
          refine (HFf.out _).mono ?_
          rintro e w2 ⟨rfl, hb2⟩
          rw [He.out]
          have hw2 : Lat W0 w2 := hb2.pre (by repeat (first | with_reducible exact Lat.refl _ | with_reducible assumption | with_reducible apply lat_alloc | with_reducible apply lat_drewN | with_reducible apply lat_drew))
          go_wp2_with fail
          go_roundw
          case rel =>
            refine ⟨k + 1, by omega, by go_num, hw2, fun y hy => ?_⟩
            rw [Ht.out] at hy
            rcases List.mem_append.1 hy with hy | hy
            · exact Hall.out y hy
            · rw [List.mem_singleton.1 hy]; exact He.out
          case measure => simp [intOf]; omega
        · have Hr := Lib.hid (kErr_f (fe := fe) Hc.out Hx.out Hall.out he)
          have he' : (fe f != 0) = true := by simpa using he
          clear he
          generalize fe f = ef at *
          go_wp2_with fail
          refine (HFf.out _).mono ?_
          rintro e w2 ⟨rfl, hb2⟩
          have hw2 : Lat W0 w2 := hb2.pre (by repeat (first | with_reducible exact Lat.refl _ | with_reducible assumption | with_reducible apply lat_alloc | with_reducible apply lat_drewN | with_reducible apply lat_drew))
          go_wp2_with fail
          go_ret
          exact ⟨ret_int Hr.out.symm, l0.trans hw2⟩
      · have hall := Hall.out
        rw [List.take_of_length_le (by omega)] at hall
        have HA := Lib.hid hall
        clear hall Hall hl
        go_wp2_with fail
        go_loopw [30] (fun i wr => ∃ k : Nat, k ≤ n ∧ i = .int .i64 k ∧ Lat W0 wr ∧ ∀ j f, j < k → l[j]? = some f → kOk l x.v x.cloud j f) (fun i _ => n - (intOf i).toNat)
        case atStart => exact ⟨0, by omega, rfl, hL, fun j f hj => by omega⟩
        case round =>
          obtain ⟨k, hk, rfl, hL, hall⟩ := hrel
          have Hall := Lib.hid hall
          clear hall
          have hl := Hl.out
          by_cases hlt : k < n
          · have hx : l[k]? = some (l[k]'(by omega)) := List.getElem?_eq_getElem (by omega)
            obtain ⟨b, o, rfl, hb, hr⟩ := Hrl.out.get k _ hx
            generalize l[k]'(by omega) = f at *
            have Hx := Lib.hid hx
            have cx0 : ∀ W, Lat W0 W → W.cell? ⟨b, o + k * 8, none⟩ = some (.int .i64 f.dot.r) := fun W h => hr W (l0.trans h) 0 _ rfl
            have cx1 : ∀ W, Lat W0 W → W.cell? ⟨b, o + k * 8 + 1, none⟩ = some (.int .i64 f.dot.n) := fun W h => hr W (l0.trans h) 1 _ rfl
            have cx2 : ∀ W, Lat W0 W → W.cell? ⟨b, o + k * 8 + 2, none⟩ = some (.int .i64 f.stamp.t) := fun W h => hr W (l0.trans h) 2 _ rfl
            have cx3 : ∀ W, Lat W0 W → W.cell? ⟨b, o + k * 8 + 3, none⟩ = some (.int .i64 f.stamp.c) := fun W h => hr W (l0.trans h) 3 _ rfl
            have cx4 : ∀ W, Lat W0 W → W.cell? ⟨b, o + k * 8 + 4, none⟩ = some (.int .i64 f.stamp.r) := fun W h => hr W (l0.trans h) 4 _ rfl
            have cx5 : ∀ W, Lat W0 W → W.cell? ⟨b, o + k * 8 + 5, none⟩ = some (.int .i64 f.kind) := fun W h => hr W (l0.trans h) 5 _ rfl
            have cx6 : ∀ W, Lat W0 W → W.cell? ⟨b, o + k * 8 + 6, none⟩ = some (.string f.name) := fun W h => hr W (l0.trans h) 6 _ rfl
            have cx7 : ∀ W, Lat W0 W → W.cell? ⟨b, o + k * 8 + 7, none⟩ = some (.string f.value) := fun W h => hr W (l0.trans h) 7 _ rfl
            have hi0 : (0 : Int) ≤ (k : Int) := by omega
            have hi1 : (k : Int) < (n : Int) := by omega
            clear hx hr hl
            have kf := new_at wr (Obj.cells #[Value.int .i64 f.dot.r, Value.int .i64 f.dot.n, Value.int .i64 f.stamp.t, Value.int .i64 f.stamp.c, Value.int .i64 f.stamp.r, Value.int .i64 f.kind, Value.string f.name, Value.string f.value] 77)
            have lf : Lat W0 (wr.alloc (Obj.cells #[Value.int .i64 f.dot.r, Value.int .i64 f.dot.n, Value.int .i64 f.stamp.t, Value.int .i64 f.stamp.c, Value.int .i64 f.stamp.r, Value.int .i64 f.kind, Value.string f.name, Value.string f.value] 77)) := lat_alloc hL _
            have Kf := Lib.hid kf
            have Lf := Lib.hid lf
            clear kf lf
            go_upto_region 14 with (fail)
            have hdep : wr.heap.size = wr.heap.size := rfl
            clear hdep
            generalize wr.heap.size = g at *
            generalize wr.alloc (Obj.cells #[Value.int .i64 f.dot.r, Value.int .i64 f.dot.n, Value.int .i64 f.stamp.t, Value.int .i64 f.stamp.c, Value.int .i64 f.stamp.r, Value.int .i64 f.kind, Value.string f.name, Value.string f.value] 77) = W1 at *
            have e0 : ∀ W, Lat W1 W → W.cell? ⟨g, 0, none⟩ = some (.int .i64 f.dot.r) := fun W h => h.cell Kf.out 0 rfl
            have e1 : ∀ W, Lat W1 W → W.cell? ⟨g, 1, none⟩ = some (.int .i64 f.dot.n) := fun W h => h.cell Kf.out 1 rfl
            have e2 : ∀ W, Lat W1 W → W.cell? ⟨g, 2, none⟩ = some (.int .i64 f.stamp.t) := fun W h => h.cell Kf.out 2 rfl
            have e3 : ∀ W, Lat W1 W → W.cell? ⟨g, 3, none⟩ = some (.int .i64 f.stamp.c) := fun W h => h.cell Kf.out 3 rfl
            have e4 : ∀ W, Lat W1 W → W.cell? ⟨g, 4, none⟩ = some (.int .i64 f.stamp.r) := fun W h => h.cell Kf.out 4 rfl
            have e5 : ∀ W, Lat W1 W → W.cell? ⟨g, 5, none⟩ = some (.int .i64 f.kind) := fun W h => h.cell Kf.out 5 rfl
            have e6 : ∀ W, Lat W1 W → W.cell? ⟨g, 6, none⟩ = some (.string f.name) := fun W h => h.cell Kf.out 6 rfl
            have e7 : ∀ W, Lat W1 W → W.cell? ⟨g, 7, none⟩ = some (.string f.value) := fun W h => h.cell Kf.out 7 rfl
            have hrefl := Lat.refl W1
            have hkc : k ≤ c := by omega
            have HCF := Lib.hid (fun W (h : Lat W1 W) => like_ContainsFunc (some ⟨b, o, none⟩) k c (l.take k) (by have := Hl.out; rw [List.length_take]; omega) (by omega) f g W ((Hrl.out.take k).later (l0.trans (Lf.out.trans h))) (h.block Kf.out))
            clear cx0 cx1 cx2 cx3 cx4 cx5 cx6 cx7
            by_cases hk0 : k = 0
            · have hnp : (0 < k) = False := by simp [hk0]
              have hnd : decide (0 < k) = false := by simp [hk0]
              have Hk0 := Lib.hid hk0
              clear hk0
              refine wp_region_held_drew (S := (fun W => Lat W1 W)) (by kernel_rfl) ?_ (fun hHeld => ?_)
              · (try dsimp only); (first | ((repeat (first | with_reducible exact Lat.refl _ | with_reducible assumption | with_reducible apply lat_alloc | with_reducible apply lat_drewN | with_reducible apply lat_drew)); done) | (refine hb1.pre ?_; ((repeat (first | with_reducible exact Lat.refl _ | with_reducible assumption | with_reducible apply lat_alloc | with_reducible apply lat_drewN | with_reducible apply lat_drew)); done)))
              refine wpAnyH_take (i := 0) (oi := { dst := some 36, op := _, type := _, pos := _, after := _, guard := _ }) (v := ?_) rfl (by kernel_rfl) (by kernel_rfl) (by kernel_rfl) (fun _ _ _ h => h) (Or.inl ⟨by rfl, ?_⟩) (by assumption) ?_
              rotate_left
              · (intro w hSw; (try dsimp only at hSw); go_simp) <;> with_reducible rfl
              (try simp only [Act.put, List.setIfInBounds_toArray, List.set_cons_zero, List.set_cons_succ])
              refine wpAnyH_take (i := 1) (oi := { dst := some 37, op := _, type := _, pos := _, after := _, guard := _ }) (v := ?_) rfl (by kernel_rfl) (by kernel_rfl) (by kernel_rfl) (fun _ _ _ h => h) (Or.inl ⟨by rfl, ?_⟩) (by assumption) ?_
              rotate_left
              · (intro w hSw; (try dsimp only at hSw); go_simp) <;> with_reducible rfl
              (try simp only [Act.put, List.setIfInBounds_toArray, List.set_cons_zero, List.set_cons_succ])
              refine wpAnyH_take (i := 2) (oi := { dst := some 38, op := _, type := _, pos := _, after := _, guard := _ }) (v := ?_) rfl (by kernel_rfl) (by kernel_rfl) (by kernel_rfl) (fun _ _ _ h => h) (Or.inl ⟨by rfl, ?_⟩) (by assumption) ?_
              rotate_left
              · (intro w hSw; (try dsimp only at hSw); go_simp) <;> with_reducible rfl
              (try simp only [Act.put, List.setIfInBounds_toArray, List.set_cons_zero, List.set_cons_succ])
              refine wpAnyH_take (i := 3) (oi := { dst := some 39, op := _, type := _, pos := _, after := _, guard := _ }) (v := undef) rfl (by kernel_rfl) (by kernel_rfl) (by kernel_rfl) (fun _ _ _ h => h) (Or.inr ⟨by rfl, rfl⟩) (by assumption) ?_
              (try simp only [Act.put, List.setIfInBounds_toArray, List.set_cons_zero, List.set_cons_succ])
              refine wpAnyH_take (i := 4) (oi := { dst := some 40, op := _, type := _, pos := _, after := _, guard := _ }) (v := undef) rfl (by kernel_rfl) (by kernel_rfl) (by kernel_rfl) (fun _ _ _ h => h) (Or.inr ⟨by rfl, rfl⟩) (by assumption) ?_
              (try simp only [Act.put, List.setIfInBounds_toArray, List.set_cons_zero, List.set_cons_succ])
              refine wpAnyH_take (i := 5) (oi := { dst := some 41, op := _, type := _, pos := _, after := _, guard := _ }) (v := undef) rfl (by kernel_rfl) (by kernel_rfl) (by kernel_rfl) (fun _ _ _ h => h) (Or.inr ⟨by rfl, rfl⟩) (by assumption) ?_
              (try simp only [Act.put, List.setIfInBounds_toArray, List.set_cons_zero, List.set_cons_succ])
              refine wpAnyH_take (i := 6) (oi := { dst := some 42, op := _, type := _, pos := _, after := _, guard := _ }) (v := undef) rfl (by kernel_rfl) (by kernel_rfl) (by kernel_rfl) (fun _ _ _ h => h) (Or.inr ⟨by rfl, rfl⟩) (by assumption) ?_
              (try simp only [Act.put, List.setIfInBounds_toArray, List.set_cons_zero, List.set_cons_succ])
              refine wpAnyH_take (i := 7) (oi := { dst := some 43, op := _, type := _, pos := _, after := _, guard := _ }) (v := undef) rfl (by kernel_rfl) (by kernel_rfl) (by kernel_rfl) (fun _ _ _ h => h) (Or.inr ⟨by rfl, rfl⟩) (by assumption) ?_
              (try simp only [Act.put, List.setIfInBounds_toArray, List.set_cons_zero, List.set_cons_succ])
              refine wpAnyH_take (i := 8) (oi := { dst := some 44, op := _, type := _, pos := _, after := _, guard := _ }) (v := undef) rfl (by kernel_rfl) (by kernel_rfl) (by kernel_rfl) (fun _ _ _ h => h) (Or.inr ⟨by rfl, rfl⟩) (by assumption) ?_
              (try simp only [Act.put, List.setIfInBounds_toArray, List.set_cons_zero, List.set_cons_succ])
              refine wpAnyH_take (i := 9) (oi := { dst := some 45, op := _, type := _, pos := _, after := _, guard := _ }) (v := undef) rfl (by kernel_rfl) (by kernel_rfl) (by kernel_rfl) (fun _ _ _ h => h) (Or.inr ⟨by rfl, rfl⟩) (by assumption) ?_
              (try simp only [Act.put, List.setIfInBounds_toArray, List.set_cons_zero, List.set_cons_succ])
              refine wpAnyH_take (i := 10) (oi := { dst := some 46, op := _, type := _, pos := _, after := _, guard := _ }) (v := undef) rfl (by kernel_rfl) (by kernel_rfl) (by kernel_rfl) (fun _ _ _ h => h) (Or.inr ⟨by rfl, rfl⟩) (by assumption) ?_
              (try simp only [Act.put, List.setIfInBounds_toArray, List.set_cons_zero, List.set_cons_succ])
              refine wpAnyH_take (i := 11) (oi := { dst := some 47, op := _, type := _, pos := _, after := _, guard := _ }) (v := ?_) rfl (by kernel_rfl) (by kernel_rfl) (by kernel_rfl) (fun _ _ _ h => h) (Or.inl ⟨by rfl, ?_⟩) (by assumption) ?_
              rotate_left
              · (intro w hSw; (try dsimp only at hSw); go_simp) <;> with_reducible rfl
              (try simp only [Act.put, List.setIfInBounds_toArray, List.set_cons_zero, List.set_cons_succ])
              refine wpAnyH_take (i := 12) (oi := { dst := some 35, op := _, type := _, pos := _, after := _, guard := _ }) (v := ?_) rfl (by kernel_rfl) (by kernel_rfl) (by kernel_rfl) (fun _ _ _ h => h) (Or.inl ⟨by rfl, ?_⟩) (by assumption) ?_
              rotate_left
              · (intro w hSw; (try dsimp only at hSw); go_simp) <;> with_reducible rfl
              (try simp only [Act.put, List.setIfInBounds_toArray, List.set_cons_zero, List.set_cons_succ])
              refine wpAnyH_done (by kernel_rfl) ?_ _
              have hprev : ∀ p, 0 < k → l[k - 1]? = some p → factLt p f = true := fun p h0 _ => by have := Hk0.out; omega
              have Hprev := Lib.hid hprev
              clear hprev
              cases hh : cHas x.v x.cloud f.dot with
              | false =>
                have Hh := Lib.hid hh
                clear hh
                have Hr := Lib.hid (kErr_no (fe := fe) Hc.out HA.out Hx.out (fun hk => by have := hk.2.1; rw [Hh.out] at this; cases this))
                go_wp2_with (first
                  | ((with_reducible refine wpList_ld 31 (w.heap.size) (0) (ctxCells x) ?_ Tryz.underlying31 ?_ ?_ ?_ ?_ ?_); exact (ctx_whole K0.out (Lf.out.trans (by repeat (first | with_reducible exact Lat.refl _ | with_reducible assumption | with_reducible apply lat_alloc | with_reducible apply lat_drewN | with_reducible apply lat_drew)))); rfl; (rw [hlx]; kernel_rfl); rfl; rfl)
                  | (go_at_call 168; refine (HH.out f.dot _ (l0.trans (Lf.out.trans (by ((repeat (first | with_reducible exact Lat.refl _ | with_reducible assumption | with_reducible apply lat_alloc | with_reducible apply lat_drewN | with_reducible apply lat_drew)); done))))).mono ?_; rintro e w6 ⟨rfl, hb6⟩; rw [Hh.out]; have hw6 : Lat W1 w6 := hb6.pre (by repeat (first | with_reducible exact Lat.refl _ | with_reducible assumption | with_reducible apply lat_alloc | with_reducible apply lat_drewN | with_reducible apply lat_drew))))
                go_ret
                exact ⟨ret_int Hr.out.symm, l0.trans (Lf.out.trans hw6)⟩
              | true =>
                have Hh := Lib.hid hh
                clear hh
                cases hs : (l.take k).any (likeB · f) with
                | true =>
                  have Hs := Lib.hid hs
                  clear hs
                  have Hr := Lib.hid (kErr_no (fe := fe) Hc.out HA.out Hx.out (fun hk => by have := hk.2.2; rw [Hs.out] at this; cases this))
                  go_wp2_with (first
                    | ((with_reducible refine wpList_ld 31 (w.heap.size) (0) (ctxCells x) ?_ Tryz.underlying31 ?_ ?_ ?_ ?_ ?_); exact (ctx_whole K0.out (Lf.out.trans (by repeat (first | with_reducible exact Lat.refl _ | with_reducible assumption | with_reducible apply lat_alloc | with_reducible apply lat_drewN | with_reducible apply lat_drew)))); rfl; (rw [hlx]; kernel_rfl); rfl; rfl)
                    | (go_at_call 168; refine (HH.out f.dot _ (l0.trans (Lf.out.trans (by ((repeat (first | with_reducible exact Lat.refl _ | with_reducible assumption | with_reducible apply lat_alloc | with_reducible apply lat_drewN | with_reducible apply lat_drew)); done))))).mono ?_; rintro e w6 ⟨rfl, hb6⟩; rw [Hh.out]; have hw6 : Lat W1 w6 := hb6.pre (by repeat (first | with_reducible exact Lat.refl _ | with_reducible assumption | with_reducible apply lat_alloc | with_reducible apply lat_drewN | with_reducible apply lat_drew)))
                    | (go_at_call 193; refine (HCF.out _ (by ((repeat (first | with_reducible exact Lat.refl _ | with_reducible assumption | with_reducible apply lat_alloc | with_reducible apply lat_drewN | with_reducible apply lat_drew)); done))).mono ?_; rintro e w7 ⟨rfl, hb7⟩; rw [Hs.out]; have hw7 : Lat W1 w7 := hb7.pre (by repeat (first | with_reducible exact Lat.refl _ | with_reducible assumption | with_reducible apply lat_alloc | with_reducible apply lat_drewN | with_reducible apply lat_drew))))
                  go_ret
                  exact ⟨ret_int Hr.out.symm, l0.trans (Lf.out.trans hw7)⟩
                | false =>
                  have Hs := Lib.hid hs
                  clear hs
                  go_wp2_with (first
                    | ((with_reducible refine wpList_ld 31 (w.heap.size) (0) (ctxCells x) ?_ Tryz.underlying31 ?_ ?_ ?_ ?_ ?_); exact (ctx_whole K0.out (Lf.out.trans (by repeat (first | with_reducible exact Lat.refl _ | with_reducible assumption | with_reducible apply lat_alloc | with_reducible apply lat_drewN | with_reducible apply lat_drew)))); rfl; (rw [hlx]; kernel_rfl); rfl; rfl)
                    | (go_at_call 168; refine (HH.out f.dot _ (l0.trans (Lf.out.trans (by ((repeat (first | with_reducible exact Lat.refl _ | with_reducible assumption | with_reducible apply lat_alloc | with_reducible apply lat_drewN | with_reducible apply lat_drew)); done))))).mono ?_; rintro e w6 ⟨rfl, hb6⟩; rw [Hh.out]; have hw6 : Lat W1 w6 := hb6.pre (by repeat (first | with_reducible exact Lat.refl _ | with_reducible assumption | with_reducible apply lat_alloc | with_reducible apply lat_drewN | with_reducible apply lat_drew)))
                    | (go_at_call 193; refine (HCF.out _ (by ((repeat (first | with_reducible exact Lat.refl _ | with_reducible assumption | with_reducible apply lat_alloc | with_reducible apply lat_drewN | with_reducible apply lat_drew)); done))).mono ?_; rintro e w7 ⟨rfl, hb7⟩; rw [Hs.out]; have hw7 : Lat W1 w7 := hb7.pre (by repeat (first | with_reducible exact Lat.refl _ | with_reducible assumption | with_reducible apply lat_alloc | with_reducible apply lat_drewN | with_reducible apply lat_drew))))
                  go_roundw
                  case rel =>
                    refine ⟨k + 1, by omega, by go_num, Lf.out.trans hw7, fun j y hj hy => ?_⟩
                    by_cases hjk : j = k
                    · subst hjk
                      rw [Hx.out] at hy
                      injection hy with hy
                      rw [← hy]
                      exact ⟨Hprev.out, Hh.out, Hs.out⟩
                    · exact Hall.out j y (by omega) hy
                  case measure => simp [intOf]; omega
            · have hpos : 0 < k := by omega
              have hpos1 : (1 : Int) ≤ (k : Int) := by omega
              have hpos2 : (0 : Int) ≤ (k : Int) - 1 := by omega
              have hpos4 : 1 ≤ k := by omega
              have hpos3 : (k : Int) - 1 < (n : Int) := by omega
              have hl := Hl.out
              have hpx : l[k - 1]? = some (l[k - 1]'(by omega)) := List.getElem?_eq_getElem (by omega)
              obtain ⟨b', o', hA, hb', hr⟩ := Hrl.out.get (k - 1) _ hpx
              injection hA with hA
              injection hA with hA1 hA2
              subst hA1
              subst hA2
              generalize l[k - 1]'(by omega) = p at *
              have Hpx := Lib.hid hpx
              have lw1 : Lat w W1 := l0.trans Lf.out
              have p0 : ∀ W, Lat W1 W → W.cell? ⟨b, o + (k - 1) * 8, none⟩ = some (.int .i64 p.dot.r) := fun W h => hr W (lw1.trans h) 0 _ rfl
              have p1 : ∀ W, Lat W1 W → W.cell? ⟨b, o + (k - 1) * 8 + 1, none⟩ = some (.int .i64 p.dot.n) := fun W h => hr W (lw1.trans h) 1 _ rfl
              have p2 : ∀ W, Lat W1 W → W.cell? ⟨b, o + (k - 1) * 8 + 2, none⟩ = some (.int .i64 p.stamp.t) := fun W h => hr W (lw1.trans h) 2 _ rfl
              have p3 : ∀ W, Lat W1 W → W.cell? ⟨b, o + (k - 1) * 8 + 3, none⟩ = some (.int .i64 p.stamp.c) := fun W h => hr W (lw1.trans h) 3 _ rfl
              have p4 : ∀ W, Lat W1 W → W.cell? ⟨b, o + (k - 1) * 8 + 4, none⟩ = some (.int .i64 p.stamp.r) := fun W h => hr W (lw1.trans h) 4 _ rfl
              have p5 : ∀ W, Lat W1 W → W.cell? ⟨b, o + (k - 1) * 8 + 5, none⟩ = some (.int .i64 p.kind) := fun W h => hr W (lw1.trans h) 5 _ rfl
              have p6 : ∀ W, Lat W1 W → W.cell? ⟨b, o + (k - 1) * 8 + 6, none⟩ = some (.string p.name) := fun W h => hr W (lw1.trans h) 6 _ rfl
              have p7 : ∀ W, Lat W1 W → W.cell? ⟨b, o + (k - 1) * 8 + 7, none⟩ = some (.string p.value) := fun W h => hr W (lw1.trans h) 7 _ rfl
              have hws : IntKind.i64.wrap ((k : Int) - 1) = (k : Int) - 1 := by rw [IntKind.wrap_i64]; omega
              clear hl hpx hr lw1 hk0
              cases hlt2 : factLt p f with
              | true =>
                have Hlt := Lib.hid hlt2
                clear hlt2
                go_region_held3 (fun W => Lat W1 W) (first | ((repeat (first | with_reducible exact Lat.refl _ | with_reducible assumption | with_reducible apply lat_alloc | with_reducible apply lat_drewN | with_reducible apply lat_drew)); done) | (refine hb1.pre ?_; ((repeat (first | with_reducible exact Lat.refl _ | with_reducible assumption | with_reducible apply lat_alloc | with_reducible apply lat_drewN | with_reducible apply lat_drew)); done))) ((go_at_call 192; refine (HLs.out p f _).mono ?_; rintro e w5 ⟨rfl, hb1⟩; rw [Hlt.out]))
                have hprev : ∀ p, 0 < k → l[k - 1]? = some p → factLt p f = true := fun p' h0 hp' => by rw [Hpx.out] at hp'; injection hp' with hp'; rw [← hp']; exact Hlt.out
                have Hprev := Lib.hid hprev
                clear hprev
                cases hh : cHas x.v x.cloud f.dot with
                | false =>
                  have Hh := Lib.hid hh
                  clear hh
                  have Hr := Lib.hid (kErr_no (fe := fe) Hc.out HA.out Hx.out (fun hk => by have := hk.2.1; rw [Hh.out] at this; cases this))
                  go_wp2_with (first
                    | ((with_reducible refine wpList_ld 31 (w.heap.size) (0) (ctxCells x) ?_ Tryz.underlying31 ?_ ?_ ?_ ?_ ?_); exact (ctx_whole K0.out (Lf.out.trans (by repeat (first | with_reducible exact Lat.refl _ | with_reducible assumption | with_reducible apply lat_alloc | with_reducible apply lat_drewN | with_reducible apply lat_drew)))); rfl; (rw [hlx]; kernel_rfl); rfl; rfl)
                    | (go_at_call 168; refine (HH.out f.dot _ (l0.trans (Lf.out.trans (by ((repeat (first | with_reducible exact Lat.refl _ | with_reducible assumption | with_reducible apply lat_alloc | with_reducible apply lat_drewN | with_reducible apply lat_drew)); done))))).mono ?_; rintro e w6 ⟨rfl, hb6⟩; rw [Hh.out]; have hw6 : Lat W1 w6 := hb6.pre (by repeat (first | with_reducible exact Lat.refl _ | with_reducible assumption | with_reducible apply lat_alloc | with_reducible apply lat_drewN | with_reducible apply lat_drew))))
                  go_ret
                  exact ⟨ret_int Hr.out.symm, l0.trans (Lf.out.trans hw6)⟩
                | true =>
                  have Hh := Lib.hid hh
                  clear hh
                  cases hs : (l.take k).any (likeB · f) with
                  | true =>
                    have Hs := Lib.hid hs
                    clear hs
                    have Hr := Lib.hid (kErr_no (fe := fe) Hc.out HA.out Hx.out (fun hk => by have := hk.2.2; rw [Hs.out] at this; cases this))
                    go_wp2_with (first
                      | ((with_reducible refine wpList_ld 31 (w.heap.size) (0) (ctxCells x) ?_ Tryz.underlying31 ?_ ?_ ?_ ?_ ?_); exact (ctx_whole K0.out (Lf.out.trans (by repeat (first | with_reducible exact Lat.refl _ | with_reducible assumption | with_reducible apply lat_alloc | with_reducible apply lat_drewN | with_reducible apply lat_drew)))); rfl; (rw [hlx]; kernel_rfl); rfl; rfl)
                      | (go_at_call 168; refine (HH.out f.dot _ (l0.trans (Lf.out.trans (by ((repeat (first | with_reducible exact Lat.refl _ | with_reducible assumption | with_reducible apply lat_alloc | with_reducible apply lat_drewN | with_reducible apply lat_drew)); done))))).mono ?_; rintro e w6 ⟨rfl, hb6⟩; rw [Hh.out]; have hw6 : Lat W1 w6 := hb6.pre (by repeat (first | with_reducible exact Lat.refl _ | with_reducible assumption | with_reducible apply lat_alloc | with_reducible apply lat_drewN | with_reducible apply lat_drew)))
                      | (go_at_call 193; refine (HCF.out _ (by ((repeat (first | with_reducible exact Lat.refl _ | with_reducible assumption | with_reducible apply lat_alloc | with_reducible apply lat_drewN | with_reducible apply lat_drew)); done))).mono ?_; rintro e w7 ⟨rfl, hb7⟩; rw [Hs.out]; have hw7 : Lat W1 w7 := hb7.pre (by repeat (first | with_reducible exact Lat.refl _ | with_reducible assumption | with_reducible apply lat_alloc | with_reducible apply lat_drewN | with_reducible apply lat_drew))))
                    go_ret
                    exact ⟨ret_int Hr.out.symm, l0.trans (Lf.out.trans hw7)⟩
                  | false =>
                    have Hs := Lib.hid hs
                    clear hs
                    go_wp2_with (first
                      | ((with_reducible refine wpList_ld 31 (w.heap.size) (0) (ctxCells x) ?_ Tryz.underlying31 ?_ ?_ ?_ ?_ ?_); exact (ctx_whole K0.out (Lf.out.trans (by repeat (first | with_reducible exact Lat.refl _ | with_reducible assumption | with_reducible apply lat_alloc | with_reducible apply lat_drewN | with_reducible apply lat_drew)))); rfl; (rw [hlx]; kernel_rfl); rfl; rfl)
                      | (go_at_call 168; refine (HH.out f.dot _ (l0.trans (Lf.out.trans (by ((repeat (first | with_reducible exact Lat.refl _ | with_reducible assumption | with_reducible apply lat_alloc | with_reducible apply lat_drewN | with_reducible apply lat_drew)); done))))).mono ?_; rintro e w6 ⟨rfl, hb6⟩; rw [Hh.out]; have hw6 : Lat W1 w6 := hb6.pre (by repeat (first | with_reducible exact Lat.refl _ | with_reducible assumption | with_reducible apply lat_alloc | with_reducible apply lat_drewN | with_reducible apply lat_drew)))
                      | (go_at_call 193; refine (HCF.out _ (by ((repeat (first | with_reducible exact Lat.refl _ | with_reducible assumption | with_reducible apply lat_alloc | with_reducible apply lat_drewN | with_reducible apply lat_drew)); done))).mono ?_; rintro e w7 ⟨rfl, hb7⟩; rw [Hs.out]; have hw7 : Lat W1 w7 := hb7.pre (by repeat (first | with_reducible exact Lat.refl _ | with_reducible assumption | with_reducible apply lat_alloc | with_reducible apply lat_drewN | with_reducible apply lat_drew))))
                    go_roundw
                    case rel =>
                      refine ⟨k + 1, by omega, by go_num, Lf.out.trans hw7, fun j y hj hy => ?_⟩
                      by_cases hjk : j = k
                      · subst hjk
                        rw [Hx.out] at hy
                        injection hy with hy
                        rw [← hy]
                        exact ⟨Hprev.out, Hh.out, Hs.out⟩
                      · exact Hall.out j y (by omega) hy
                    case measure => simp [intOf]; omega
              | false =>
                have Hlt := Lib.hid hlt2
                clear hlt2
                go_region_held3 (fun W => Lat W1 W) (first | ((repeat (first | with_reducible exact Lat.refl _ | with_reducible assumption | with_reducible apply lat_alloc | with_reducible apply lat_drewN | with_reducible apply lat_drew)); done) | (refine hb1.pre ?_; ((repeat (first | with_reducible exact Lat.refl _ | with_reducible assumption | with_reducible apply lat_alloc | with_reducible apply lat_drewN | with_reducible apply lat_drew)); done))) ((go_at_call 192; refine (HLs.out p f _).mono ?_; rintro e w5 ⟨rfl, hb1⟩; rw [Hlt.out]))
                have Hr := Lib.hid (kErr_no (fe := fe) Hc.out HA.out Hx.out (fun hk => by have := hk.1 p (by omega) Hpx.out; rw [Hlt.out] at this; cases this))
                go_wp2_with fail
                go_ret
                exact ⟨ret_int Hr.out.symm, l0.trans (Lf.out.trans ‹_›)⟩
          · have hl := Hl.out
            have Hr := Lib.hid (kErr_yes (fe := fe) Hc.out HA.out (fun j f hf => Hall.out j f (by have := lt_of_get hf; omega) hf))
            clear hl
            go_wp2
            go_ret
            exact ⟨ret_int Hr.out.symm, l0.trans hL⟩
  · have hc' : (cErr x.v x.cloud != 0) = true := by simpa using hc
    have Hc := Lib.hid (kErr_c (fe := fe) (l := l) hc)
    clear hc
    generalize cErr x.v x.cloud = ce at HC hc' Hc
    go_enter Tryz.func85, Tryz.ntmps85
    go_upto_region 1 with (fail)
    have l0 : Lat w (w.alloc (Obj.cells (ctxCells x).toArray 31)) := (by repeat (first | with_reducible exact Lat.refl _ | with_reducible assumption | with_reducible apply lat_alloc | with_reducible apply lat_drewN | with_reducible apply lat_drew))
    have k0 := (new_at w (Obj.cells (ctxCells x).toArray 31))
    generalize (w.alloc (Obj.cells (ctxCells x).toArray 31)) = W0 at *
    have hrefl := Lat.refl W0
    have K0 := Lib.hid k0
    clear k0
    go_wp2_with (first
      | ((with_reducible refine wpList_ld 31 (w.heap.size) (0) (ctxCells x) ?_ Tryz.underlying31 ?_ ?_ ?_ ?_ ?_); exact (ctx_whole K0.out (by repeat (first | with_reducible exact Lat.refl _ | with_reducible assumption | with_reducible apply lat_alloc | with_reducible apply lat_drewN | with_reducible apply lat_drew))); rfl; (rw [hlx]; kernel_rfl); rfl; rfl)
      | (go_at_call 190; refine (HC.out _ (l0.trans (by repeat (first | with_reducible exact Lat.refl _ | with_reducible assumption | with_reducible apply lat_alloc | with_reducible apply lat_drewN | with_reducible apply lat_drew)))).mono ?_; rintro e w1 ⟨rfl, hb1⟩; have hw1 : Lat W0 w1 := hb1.pre (by repeat (first | with_reducible exact Lat.refl _ | with_reducible assumption | with_reducible apply lat_alloc | with_reducible apply lat_drewN | with_reducible apply lat_drew))))
    go_ret
    exact ⟨ret_int Hc.out.symm, l0.trans hw1⟩
end Go.Proofs.YtgjffndpegjenaaGreat
