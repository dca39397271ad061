/-
  Comparisons: what the program's orders on dots, stamps and facts return; the world only grows.
-/
import Derived.Test.YtgjffndpegjenaaGreatProg
import Derived.Test.YtgjffndpegjenaaGreatData
import Derived.Test.YtgjffndpegjenaaGreatGr
import Derived.Outline
import Derived.Deep.QuietTactic
import Derived.BigQuiet
import Derived.WalkSpells
import Derived.WalkLawsBesides
import Derived.LoopTactic
import Derived.Lib.Hide
import Derived.Deep.RegionHeld3
import Derived.Deep.DeepCutAuto
set_option linter.unusedVariables false
set_option linter.unusedSimpArgs false
set_option linter.unusedSectionVars false
namespace Go.Proofs.YtgjffndpegjenaaGreat
open Go.RowKit Go.Sort
attribute [local go_sem] gr_alloc gr_drew gr_drewN Gr.refl

def cmpI (x y : Int) : Int := if x < y then -1 else if y < x then 1 else 0
def cmpS (x y : ByteArray) : Int := if Op.bytesLess x.toList y.toList then -1 else if x.toList = y.toList then 0 else 1

theorem cmp_Compare_int (x y : Int) (w : World) : Calls Tryz.prog 329 #[.int .i64 x, .int .i64 y] w fun e w' => e = .returned (.int .i64 (cmpI x y)) ∧ Gr w w' := by
  go_enter Tryz.func329, Tryz.ntmps329
  go_wp2
  all_goals (go_ret; refine ⟨ret_int ?_, (by repeat (first | with_reducible exact Gr.refl _ | with_reducible assumption | with_reducible apply gr_alloc | with_reducible apply gr_drewN | with_reducible apply gr_drew))⟩)
  all_goals (unfold cmpI)
  all_goals first | rw [if_pos (by assumption)] | (rw [if_neg (by omega)]; first | rw [if_pos (by assumption)] | rw [if_neg (by omega)])

theorem cmp_Compare_string (x y : ByteArray) (w : World) : Calls Tryz.prog 319 #[.string x, .string y] w fun e w' => e = .returned (.int .i64 (cmpS x y)) ∧ Gr w w' := by
  go_enter Tryz.func319, Tryz.ntmps319
  go_wp2
  all_goals (go_ret; refine ⟨ret_int ?_, (by repeat (first | with_reducible exact Gr.refl _ | with_reducible assumption | with_reducible apply gr_alloc | with_reducible apply gr_drewN | with_reducible apply gr_drew))⟩)
  all_goals (unfold cmpS; simp_all)

/-- the first that is not zero -/
def orI : List Int → Int
  | [] => 0
  | x :: xs => if x = 0 then orI xs else x

theorem cmp_Or (b n : Nat) (xs : List Int) (hn : xs.length = n) (hs : n ≤ 9223372036854775807) (w : World) (hc : ∀ i x, xs[i]? = some x → w.cell? ⟨b, i, none⟩ = some (.int .i64 x)) :
    Calls Tryz.prog 316 #[.slice (some ⟨b, 0, none⟩) n n] w fun e w' => e = .returned (.int .i64 (orI xs)) ∧ Gr w w' := by
  go_enter Tryz.func316, Tryz.ntmps316
  go_wp2
  go_loop [8] (fun i => ∃ k : Nat, k ≤ n ∧ i = .int .i64 k ∧ orI xs = orI (xs.drop k)) (fun i => n - (intOf i).toNat)
  case atStart => exact ⟨0, by omega, rfl, rfl⟩
  case round =>
    obtain ⟨k, hk, rfl, ho⟩ := hrel
    have Ho := Lib.hid ho
    clear ho
    by_cases hlt : k < n
    · have hx : xs[k]? = some (xs[k]'(by omega)) := List.getElem?_eq_getElem (by omega)
      have hd : xs.drop k = xs[k]'(by omega) :: xs.drop (k + 1) := List.drop_eq_getElem_cons (by omega)
      have hck := hc k _ hx
      generalize xs[k]'(by omega) = x at *
      have Hd := Lib.hid hd
      clear hd hx hc
      by_cases h0 : x = 0
      · have h0' : (x != 0) = false := by rw [h0]; rfl
        have H0 := Lib.hid h0
        clear h0
        go_wp2
        go_round
        case rel => exact ⟨k + 1, by omega, by go_num, by rw [Ho.out, Hd.out, H0.out]; rfl⟩
        case measure => simp [intOf]; omega
      · have h0' : (x != 0) = true := by simpa using h0
        go_wp2
        go_ret
        refine ⟨ret_int ?_, (by repeat (first | with_reducible exact Gr.refl _ | with_reducible assumption | with_reducible apply gr_alloc | with_reducible apply gr_drewN | with_reducible apply gr_drew))⟩
        rw [Ho.out, Hd.out, orI, if_neg h0]
    · go_wp2
      go_ret
      refine ⟨ret_int ?_, (by repeat (first | with_reducible exact Gr.refl _ | with_reducible assumption | with_reducible apply gr_alloc | with_reducible apply gr_drewN | with_reducible apply gr_drew))⟩
      rw [Ho.out, List.drop_of_length_le (by omega)]
      rfl

def ordDot (a b : Dot) : Int := orI [cmpI a.r b.r, cmpI a.n b.n]
def ordStamp (a b : Stamp) : Int := orI [cmpI a.t b.t, cmpI a.c b.c, cmpI a.r b.r]

theorem cmp_Or_new (xs : List Int) (hs : xs.length ≤ 9223372036854775807) (t : TypeId) (cs : Array Value) (hcs : cs = (xs.map (Value.int .i64)).toArray) (n : Nat) (hn : xs.length = n) (W : World) :
    Calls Tryz.prog 316 #[.slice (some ⟨W.heap.size, 0, none⟩) n n] (W.alloc (.cells cs t)) fun e w' => e = .returned (.int .i64 (orI xs)) ∧ Gr (W.alloc (.cells cs t)) w' :=
  cmp_Or _ n xs hn (by omega) _ fun i x hi => by
    rw [cell_of_row _ _ i cs t (0, 0) (new_at _ _), hcs]
    simp [hi]
theorem cmp_Or2 (x y : Int) (t : TypeId) (W : World) : Calls Tryz.prog 316 #[.slice (some ⟨W.heap.size, 0, none⟩) 2 2] (W.alloc (.cells #[.int .i64 x, .int .i64 y] t)) fun e w' => e = .returned (.int .i64 (orI [x, y])) ∧ Gr (W.alloc (.cells #[.int .i64 x, .int .i64 y] t)) w' :=
  cmp_Or_new [x, y] (by simp) t _ rfl 2 rfl W
theorem cmp_Or3 (x y z : Int) (t : TypeId) (W : World) : Calls Tryz.prog 316 #[.slice (some ⟨W.heap.size, 0, none⟩) 3 3] (W.alloc (.cells #[.int .i64 x, .int .i64 y, .int .i64 z] t)) fun e w' => e = .returned (.int .i64 (orI [x, y, z])) ∧ Gr (W.alloc (.cells #[.int .i64 x, .int .i64 y, .int .i64 z] t)) w' :=
  cmp_Or_new [x, y, z] (by simp) t _ rfl 3 rfl W
theorem cmp_Or5 (x y z u v : Int) (t : TypeId) (W : World) : Calls Tryz.prog 316 #[.slice (some ⟨W.heap.size, 0, none⟩) 5 5] (W.alloc (.cells #[.int .i64 x, .int .i64 y, .int .i64 z, .int .i64 u, .int .i64 v] t)) fun e w' => e = .returned (.int .i64 (orI [x, y, z, u, v])) ∧ Gr (W.alloc (.cells #[.int .i64 x, .int .i64 y, .int .i64 z, .int .i64 u, .int .i64 v] t)) w' :=
  cmp_Or_new [x, y, z, u, v] (by simp) t _ rfl 5 rfl W

theorem dot_order (a b : Dot) (w : World) : Calls Tryz.prog 238 #[.agg #[.int .i64 a.r, .int .i64 a.n], .agg #[.int .i64 b.r, .int .i64 b.n]] w fun e w' => e = .returned (.int .i64 (ordDot a b)) ∧ Gr w w' := by
  have hcmp := Lib.hid cmp_Compare_int
  have hor := Lib.hid cmp_Or2
  go_enter Tryz.func238, Tryz.ntmps238
  go_wp2_with fail
  have l0 : Gr w ((w.alloc (Obj.cells #[.int .i64 a.r, .int .i64 a.n] 37)).alloc (Obj.cells #[.int .i64 b.r, .int .i64 b.n] 37)) := (by repeat (first | with_reducible exact Gr.refl _ | with_reducible assumption | with_reducible apply gr_alloc | with_reducible apply gr_drewN | with_reducible apply gr_drew))
  have k0 := (old_at (Obj.cells #[.int .i64 b.r, .int .i64 b.n] 37) (new_at w (Obj.cells #[.int .i64 a.r, .int .i64 a.n] 37)))
  have k1 := (new2_at w (Obj.cells #[.int .i64 a.r, .int .i64 a.n] 37) (Obj.cells #[.int .i64 b.r, .int .i64 b.n] 37))
  generalize ((w.alloc (Obj.cells #[.int .i64 a.r, .int .i64 a.n] 37)).alloc (Obj.cells #[.int .i64 b.r, .int .i64 b.n] 37)) = W0 at *
  have c0_0 : ∀ W, Gr W0 W → W.cell? ⟨w.heap.size, 0, none⟩ = some (.int .i64 a.r) := fun W h => h.lat.cell k0 0 rfl
  have c0_1 : ∀ W, Gr W0 W → W.cell? ⟨w.heap.size, 1, none⟩ = some (.int .i64 a.n) := fun W h => h.lat.cell k0 1 rfl
  clear k0
  have c1_0 : ∀ W, Gr W0 W → W.cell? ⟨w.heap.size + 1, 0, none⟩ = some (.int .i64 b.r) := fun W h => h.lat.cell k1 0 rfl
  have c1_1 : ∀ W, Gr W0 W → W.cell? ⟨w.heap.size + 1, 1, none⟩ = some (.int .i64 b.n) := fun W h => h.lat.cell k1 1 rfl
  clear k1
  have hrefl := Gr.refl W0
  go_region_held3 (fun W => Gr W0 W) (first | ((repeat (first | with_reducible exact Gr.refl _ | with_reducible assumption | with_reducible apply gr_alloc | with_reducible apply gr_drewN | with_reducible apply gr_drew)); done) | (refine hb1.pre ?_; ((repeat (first | with_reducible exact Gr.refl _ | with_reducible assumption | with_reducible apply gr_alloc | with_reducible apply gr_drewN | with_reducible apply gr_drew)); done))) (first | (go_at_call 329; refine (hcmp.out _ _ _).mono ?_; rintro e w' ⟨rfl, hb1⟩) | (go_at_call 316; refine (hor.out _ _ _ _).mono ?_; rintro e w' ⟨rfl, hb1⟩))
  go_wp2
  go_ret
  exact ⟨rfl, l0.trans ‹Gr W0 _›⟩

theorem dot_Less0 (a b : Dot) (w : World) : Calls Tryz.prog 300 #[.agg #[.int .i64 a.r, .int .i64 a.n], .agg #[.int .i64 b.r, .int .i64 b.n]] w fun e w' => e = .returned (.bool (decide (ordDot a b < 0))) ∧ Gr w w' := by
  have hord := Lib.hid dot_order
  go_enter Tryz.func300, Tryz.ntmps300
  go_wp2_with fail
  have l0 : Gr w ((w.alloc (Obj.cells #[.int .i64 a.r, .int .i64 a.n] 37)).alloc (Obj.cells #[.int .i64 b.r, .int .i64 b.n] 37)) := (by repeat (first | with_reducible exact Gr.refl _ | with_reducible assumption | with_reducible apply gr_alloc | with_reducible apply gr_drewN | with_reducible apply gr_drew))
  have k0 := (old_at (Obj.cells #[.int .i64 b.r, .int .i64 b.n] 37) (new_at w (Obj.cells #[.int .i64 a.r, .int .i64 a.n] 37)))
  have k1 := (new2_at w (Obj.cells #[.int .i64 a.r, .int .i64 a.n] 37) (Obj.cells #[.int .i64 b.r, .int .i64 b.n] 37))
  generalize ((w.alloc (Obj.cells #[.int .i64 a.r, .int .i64 a.n] 37)).alloc (Obj.cells #[.int .i64 b.r, .int .i64 b.n] 37)) = W0 at *
  have c0_0 : ∀ W, Gr W0 W → W.cell? ⟨w.heap.size, 0, none⟩ = some (.int .i64 a.r) := fun W h => h.lat.cell k0 0 rfl
  have c0_1 : ∀ W, Gr W0 W → W.cell? ⟨w.heap.size, 1, none⟩ = some (.int .i64 a.n) := fun W h => h.lat.cell k0 1 rfl
  clear k0
  have c1_0 : ∀ W, Gr W0 W → W.cell? ⟨w.heap.size + 1, 0, none⟩ = some (.int .i64 b.r) := fun W h => h.lat.cell k1 0 rfl
  have c1_1 : ∀ W, Gr W0 W → W.cell? ⟨w.heap.size + 1, 1, none⟩ = some (.int .i64 b.n) := fun W h => h.lat.cell k1 1 rfl
  clear k1
  have hrefl := Gr.refl W0
  go_wp2_with (go_at_call 238; refine (hord.out a b _).mono ?_; rintro e w' ⟨rfl, hb1⟩)
  go_ret
  exact ⟨rfl, l0.trans hb1⟩

theorem when_order (a b : Stamp) (w : World) : Calls Tryz.prog 363 #[.agg #[.int .i64 a.t, .int .i64 a.c, .int .i64 a.r], .agg #[.int .i64 b.t, .int .i64 b.c, .int .i64 b.r]] w fun e w' => e = .returned (.int .i64 (ordStamp a b)) ∧ Gr w w' := by
  have hcmp := Lib.hid cmp_Compare_int
  have hor := Lib.hid cmp_Or3
  go_enter Tryz.func363, Tryz.ntmps363
  go_wp2_with fail
  have l0 : Gr w ((w.alloc (Obj.cells #[.int .i64 a.t, .int .i64 a.c, .int .i64 a.r] 404)).alloc (Obj.cells #[.int .i64 b.t, .int .i64 b.c, .int .i64 b.r] 404)) := (by repeat (first | with_reducible exact Gr.refl _ | with_reducible assumption | with_reducible apply gr_alloc | with_reducible apply gr_drewN | with_reducible apply gr_drew))
  have k0 := (old_at (Obj.cells #[.int .i64 b.t, .int .i64 b.c, .int .i64 b.r] 404) (new_at w (Obj.cells #[.int .i64 a.t, .int .i64 a.c, .int .i64 a.r] 404)))
  have k1 := (new2_at w (Obj.cells #[.int .i64 a.t, .int .i64 a.c, .int .i64 a.r] 404) (Obj.cells #[.int .i64 b.t, .int .i64 b.c, .int .i64 b.r] 404))
  generalize ((w.alloc (Obj.cells #[.int .i64 a.t, .int .i64 a.c, .int .i64 a.r] 404)).alloc (Obj.cells #[.int .i64 b.t, .int .i64 b.c, .int .i64 b.r] 404)) = W0 at *
  have c0_0 : ∀ W, Gr W0 W → W.cell? ⟨w.heap.size, 0, none⟩ = some (.int .i64 a.t) := fun W h => h.lat.cell k0 0 rfl
  have c0_1 : ∀ W, Gr W0 W → W.cell? ⟨w.heap.size, 1, none⟩ = some (.int .i64 a.c) := fun W h => h.lat.cell k0 1 rfl
  have c0_2 : ∀ W, Gr W0 W → W.cell? ⟨w.heap.size, 2, none⟩ = some (.int .i64 a.r) := fun W h => h.lat.cell k0 2 rfl
  clear k0
  have c1_0 : ∀ W, Gr W0 W → W.cell? ⟨w.heap.size + 1, 0, none⟩ = some (.int .i64 b.t) := fun W h => h.lat.cell k1 0 rfl
  have c1_1 : ∀ W, Gr W0 W → W.cell? ⟨w.heap.size + 1, 1, none⟩ = some (.int .i64 b.c) := fun W h => h.lat.cell k1 1 rfl
  have c1_2 : ∀ W, Gr W0 W → W.cell? ⟨w.heap.size + 1, 2, none⟩ = some (.int .i64 b.r) := fun W h => h.lat.cell k1 2 rfl
  clear k1
  have hrefl := Gr.refl W0
  go_region_held3 (fun W => Gr W0 W) (first | ((repeat (first | with_reducible exact Gr.refl _ | with_reducible assumption | with_reducible apply gr_alloc | with_reducible apply gr_drewN | with_reducible apply gr_drew)); done) | (refine hb1.pre ?_; ((repeat (first | with_reducible exact Gr.refl _ | with_reducible assumption | with_reducible apply gr_alloc | with_reducible apply gr_drewN | with_reducible apply gr_drew)); done))) (first | (go_at_call 329; refine (hcmp.out _ _ _).mono ?_; rintro e w' ⟨rfl, hb1⟩) | (go_at_call 316; refine (hor.out _ _ _ _ _).mono ?_; rintro e w' ⟨rfl, hb1⟩))
  go_wp2
  go_ret
  exact ⟨rfl, l0.trans ‹Gr W0 _›⟩

theorem stamp_Less0 (a b : Stamp) (w : World) : Calls Tryz.prog 318 #[.agg #[.int .i64 a.t, .int .i64 a.c, .int .i64 a.r], .agg #[.int .i64 b.t, .int .i64 b.c, .int .i64 b.r]] w fun e w' => e = .returned (.bool (decide (ordStamp a b < 0))) ∧ Gr w w' := by
  have hord := Lib.hid when_order
  go_enter Tryz.func318, Tryz.ntmps318
  go_wp2_with fail
  have l0 : Gr w ((w.alloc (Obj.cells #[.int .i64 a.t, .int .i64 a.c, .int .i64 a.r] 39)).alloc (Obj.cells #[.int .i64 b.t, .int .i64 b.c, .int .i64 b.r] 39)) := (by repeat (first | with_reducible exact Gr.refl _ | with_reducible assumption | with_reducible apply gr_alloc | with_reducible apply gr_drewN | with_reducible apply gr_drew))
  have k0 := (old_at (Obj.cells #[.int .i64 b.t, .int .i64 b.c, .int .i64 b.r] 39) (new_at w (Obj.cells #[.int .i64 a.t, .int .i64 a.c, .int .i64 a.r] 39)))
  have k1 := (new2_at w (Obj.cells #[.int .i64 a.t, .int .i64 a.c, .int .i64 a.r] 39) (Obj.cells #[.int .i64 b.t, .int .i64 b.c, .int .i64 b.r] 39))
  generalize ((w.alloc (Obj.cells #[.int .i64 a.t, .int .i64 a.c, .int .i64 a.r] 39)).alloc (Obj.cells #[.int .i64 b.t, .int .i64 b.c, .int .i64 b.r] 39)) = W0 at *
  have c0_0 : ∀ W, Gr W0 W → W.cell? ⟨w.heap.size, 0, none⟩ = some (.int .i64 a.t) := fun W h => h.lat.cell k0 0 rfl
  have c0_1 : ∀ W, Gr W0 W → W.cell? ⟨w.heap.size, 1, none⟩ = some (.int .i64 a.c) := fun W h => h.lat.cell k0 1 rfl
  have c0_2 : ∀ W, Gr W0 W → W.cell? ⟨w.heap.size, 2, none⟩ = some (.int .i64 a.r) := fun W h => h.lat.cell k0 2 rfl
  clear k0
  have c1_0 : ∀ W, Gr W0 W → W.cell? ⟨w.heap.size + 1, 0, none⟩ = some (.int .i64 b.t) := fun W h => h.lat.cell k1 0 rfl
  have c1_1 : ∀ W, Gr W0 W → W.cell? ⟨w.heap.size + 1, 1, none⟩ = some (.int .i64 b.c) := fun W h => h.lat.cell k1 1 rfl
  have c1_2 : ∀ W, Gr W0 W → W.cell? ⟨w.heap.size + 1, 2, none⟩ = some (.int .i64 b.r) := fun W h => h.lat.cell k1 2 rfl
  clear k1
  have hrefl := Gr.refl W0
  go_wp2_with (go_at_call 363; refine (hord.out a b _).mono ?_; rintro e w' ⟨rfl, hb1⟩)
  go_ret
  exact ⟨rfl, l0.trans hb1⟩

theorem ordDot_lt (a b : Dot) : decide (ordDot a b < 0) = dotLt a b := by
  unfold ordDot cmpI dotLt
  simp only [orI]
  by_cases h1 : a.r < b.r <;> by_cases h2 : b.r < a.r <;> by_cases h3 : a.n < b.n <;> by_cases h4 : b.n < a.n <;> simp [h1, h2, h3, h4] <;> omega
theorem ordStamp_lt (a b : Stamp) : decide (ordStamp a b < 0) = stampLt a b := by
  unfold ordStamp cmpI stampLt
  simp only [orI]
  by_cases h1 : a.t < b.t <;> by_cases h2 : b.t < a.t <;> by_cases h3 : a.c < b.c <;> by_cases h4 : b.c < a.c <;> by_cases h5 : a.r < b.r <;> by_cases h6 : b.r < a.r <;> simp [h1, h2, h3, h4, h5, h6] <;> omega

theorem dot_Less (a b : Dot) (w : World) : Calls Tryz.prog 300 #[.agg #[.int .i64 a.r, .int .i64 a.n], .agg #[.int .i64 b.r, .int .i64 b.n]] w fun e w' => e = .returned (.bool (dotLt a b)) ∧ Gr w w' := by
  rw [← ordDot_lt]; exact dot_Less0 a b w
theorem stamp_Less (a b : Stamp) (w : World) : Calls Tryz.prog 318 #[.agg #[.int .i64 a.t, .int .i64 a.c, .int .i64 a.r], .agg #[.int .i64 b.t, .int .i64 b.c, .int .i64 b.r]] w fun e w' => e = .returned (.bool (stampLt a b)) ∧ Gr w w' := by
  rw [← ordStamp_lt]; exact stamp_Less0 a b w

/-- which comes first, by what tells that one is less -/
def byI (x y : Bool) : Int := if x then -1 else if y then 1 else 0

theorem by_dot (a b : Dot) (g : Nat) (w : World) (hg : w.cell? ⟨g, 0, none⟩ = some (.func (.func 300) #[] #[])) :
    Calls Tryz.prog 384 #[.agg #[.int .i64 a.r, .int .i64 a.n], .agg #[.int .i64 b.r, .int .i64 b.n], .pointer (some ⟨g, 0, none⟩)] w fun e w' => e = .returned (.int .i64 (byI (dotLt a b) (dotLt b a))) ∧ Gr w w' := by
  have hless := Lib.hid dot_Less
  have Hg := Lib.hid hg
  clear hg
  go_enter Tryz.func384, Tryz.ntmps384
  go_upto_region 1 with (fail)
  have l0 : Gr w ((w.alloc (Obj.cells #[.int .i64 a.r, .int .i64 a.n] 37)).alloc (Obj.cells #[.int .i64 b.r, .int .i64 b.n] 37)) := (by repeat (first | with_reducible exact Gr.refl _ | with_reducible assumption | with_reducible apply gr_alloc | with_reducible apply gr_drewN | with_reducible apply gr_drew))
  have k0 := (old_at (Obj.cells #[.int .i64 b.r, .int .i64 b.n] 37) (new_at w (Obj.cells #[.int .i64 a.r, .int .i64 a.n] 37)))
  have k1 := (new2_at w (Obj.cells #[.int .i64 a.r, .int .i64 a.n] 37) (Obj.cells #[.int .i64 b.r, .int .i64 b.n] 37))
  generalize ((w.alloc (Obj.cells #[.int .i64 a.r, .int .i64 a.n] 37)).alloc (Obj.cells #[.int .i64 b.r, .int .i64 b.n] 37)) = W0 at *
  have c0_0 : ∀ W, Gr W0 W → W.cell? ⟨w.heap.size, 0, none⟩ = some (.int .i64 a.r) := fun W h => h.lat.cell k0 0 rfl
  have c0_1 : ∀ W, Gr W0 W → W.cell? ⟨w.heap.size, 1, none⟩ = some (.int .i64 a.n) := fun W h => h.lat.cell k0 1 rfl
  clear k0
  have c1_0 : ∀ W, Gr W0 W → W.cell? ⟨w.heap.size + 1, 0, none⟩ = some (.int .i64 b.r) := fun W h => h.lat.cell k1 0 rfl
  have c1_1 : ∀ W, Gr W0 W → W.cell? ⟨w.heap.size + 1, 1, none⟩ = some (.int .i64 b.n) := fun W h => h.lat.cell k1 1 rfl
  clear k1
  have hrefl := Gr.refl W0
  have cg : ∀ W, Gr W0 W → W.cell? ⟨g, 0, none⟩ = some (.func (.func 300) #[] #[]) := fun W h => (l0.trans h).lat.at_ Hg.out
  have H1 : Hid (dotLt a b = dotLt a b) := rfl
  have H2 : Hid (dotLt b a = dotLt b a) := rfl
  generalize hx : dotLt a b = x at *
  have Hx := Lib.hid hx
  clear hx H1 H2
  go_wp2_with fail
  refine (hless.out a b _).mono ?_
  rintro e w1 ⟨rfl, hb1⟩
  rw [Hx.out]
  cases x
  · go_wp2_with fail
    have hb1' : Gr W0 w1 := hb1
    clear hb1
    go_wp2_with fail
    refine (hless.out b a _).mono ?_
    rintro e w2 ⟨rfl, hb2⟩
    have hb2' : Gr W0 w2 := hb1'.trans hb2
    generalize hy : dotLt b a = y at *
    have Hy := Lib.hid hy
    clear hy
    cases y
    · go_wp2_with fail
      go_ret
      exact ⟨ret_int (by rw [Hx.out, Hy.out]; rfl), l0.trans hb2'⟩
    · go_wp2_with fail
      go_ret
      exact ⟨ret_int (by rw [Hx.out, Hy.out]; rfl), l0.trans hb2'⟩
  · go_wp2_with fail
    go_ret
    exact ⟨ret_int (by rw [Hx.out]; rfl), l0.trans hb1⟩

theorem by_stamp (a b : Stamp) (g : Nat) (w : World) (hg : w.cell? ⟨g, 0, none⟩ = some (.func (.func 318) #[] #[])) :
    Calls Tryz.prog 385 #[.agg #[.int .i64 a.t, .int .i64 a.c, .int .i64 a.r], .agg #[.int .i64 b.t, .int .i64 b.c, .int .i64 b.r], .pointer (some ⟨g, 0, none⟩)] w fun e w' => e = .returned (.int .i64 (byI (stampLt a b) (stampLt b a))) ∧ Gr w w' := by
  have hless := Lib.hid stamp_Less
  have Hg := Lib.hid hg
  clear hg
  go_enter Tryz.func385, Tryz.ntmps385
  go_upto_region 1 with (fail)
  have l0 : Gr w ((w.alloc (Obj.cells #[.int .i64 a.t, .int .i64 a.c, .int .i64 a.r] 39)).alloc (Obj.cells #[.int .i64 b.t, .int .i64 b.c, .int .i64 b.r] 39)) := (by repeat (first | with_reducible exact Gr.refl _ | with_reducible assumption | with_reducible apply gr_alloc | with_reducible apply gr_drewN | with_reducible apply gr_drew))
  have k0 := (old_at (Obj.cells #[.int .i64 b.t, .int .i64 b.c, .int .i64 b.r] 39) (new_at w (Obj.cells #[.int .i64 a.t, .int .i64 a.c, .int .i64 a.r] 39)))
  have k1 := (new2_at w (Obj.cells #[.int .i64 a.t, .int .i64 a.c, .int .i64 a.r] 39) (Obj.cells #[.int .i64 b.t, .int .i64 b.c, .int .i64 b.r] 39))
  generalize ((w.alloc (Obj.cells #[.int .i64 a.t, .int .i64 a.c, .int .i64 a.r] 39)).alloc (Obj.cells #[.int .i64 b.t, .int .i64 b.c, .int .i64 b.r] 39)) = W0 at *
  have c0_0 : ∀ W, Gr W0 W → W.cell? ⟨w.heap.size, 0, none⟩ = some (.int .i64 a.t) := fun W h => h.lat.cell k0 0 rfl
  have c0_1 : ∀ W, Gr W0 W → W.cell? ⟨w.heap.size, 1, none⟩ = some (.int .i64 a.c) := fun W h => h.lat.cell k0 1 rfl
  have c0_2 : ∀ W, Gr W0 W → W.cell? ⟨w.heap.size, 2, none⟩ = some (.int .i64 a.r) := fun W h => h.lat.cell k0 2 rfl
  clear k0
  have c1_0 : ∀ W, Gr W0 W → W.cell? ⟨w.heap.size + 1, 0, none⟩ = some (.int .i64 b.t) := fun W h => h.lat.cell k1 0 rfl
  have c1_1 : ∀ W, Gr W0 W → W.cell? ⟨w.heap.size + 1, 1, none⟩ = some (.int .i64 b.c) := fun W h => h.lat.cell k1 1 rfl
  have c1_2 : ∀ W, Gr W0 W → W.cell? ⟨w.heap.size + 1, 2, none⟩ = some (.int .i64 b.r) := fun W h => h.lat.cell k1 2 rfl
  clear k1
  have hrefl := Gr.refl W0
  have cg : ∀ W, Gr W0 W → W.cell? ⟨g, 0, none⟩ = some (.func (.func 318) #[] #[]) := fun W h => (l0.trans h).lat.at_ Hg.out
  have H1 : Hid (stampLt a b = stampLt a b) := rfl
  have H2 : Hid (stampLt b a = stampLt b a) := rfl
  generalize hx : stampLt a b = x at *
  have Hx := Lib.hid hx
  clear hx H1 H2
  go_wp2_with fail
  refine (hless.out a b _).mono ?_
  rintro e w1 ⟨rfl, hb1⟩
  rw [Hx.out]
  cases x
  · go_wp2_with fail
    have hb1' : Gr W0 w1 := hb1
    clear hb1
    go_wp2_with fail
    refine (hless.out b a _).mono ?_
    rintro e w2 ⟨rfl, hb2⟩
    have hb2' : Gr W0 w2 := hb1'.trans hb2
    generalize hy : stampLt b a = y at *
    have Hy := Lib.hid hy
    clear hy
    cases y
    · go_wp2_with fail
      go_ret
      exact ⟨ret_int (by rw [Hx.out, Hy.out]; rfl), l0.trans hb2'⟩
    · go_wp2_with fail
      go_ret
      exact ⟨ret_int (by rw [Hx.out, Hy.out]; rfl), l0.trans hb2'⟩
  · go_wp2_with fail
    go_ret
    exact ⟨ret_int (by rw [Hx.out]; rfl), l0.trans hb1⟩

theorem fact_by_dot (w : World) : Calls Tryz.prog 333 #[.func (.func 300) #[] #[]] w fun e w' => e = .returned (.func (.func 384) #[] #[.pointer (some ⟨w.heap.size, 0, none⟩)]) ∧ w' = w.alloc (.cells #[.func (.func 300) #[] #[]] 258) := by
  go_enter Tryz.func333, Tryz.ntmps333
  go_wp2_with fail
  go_ret
  exact ⟨rfl, rfl⟩
theorem fact_by_stamp (w : World) : Calls Tryz.prog 334 #[.func (.func 318) #[] #[]] w fun e w' => e = .returned (.func (.func 385) #[] #[.pointer (some ⟨w.heap.size, 0, none⟩)]) ∧ w' = w.alloc (.cells #[.func (.func 318) #[] #[]] 259) := by
  go_enter Tryz.func334, Tryz.ntmps334
  go_wp2_with fail
  go_ret
  exact ⟨rfl, rfl⟩

def ordFact (a b : Fact) : Int := orI [cmpS a.name b.name, cmpI a.kind b.kind, byI (dotLt a.dot b.dot) (dotLt b.dot a.dot), byI (stampLt a.stamp b.stamp) (stampLt b.stamp a.stamp), cmpS a.value b.value]
set_option maxHeartbeats 1000000 in
theorem fact_order (a b : Fact) (w : World) : Calls Tryz.prog 252 #[.agg #[.int .i64 a.dot.r, .int .i64 a.dot.n, .int .i64 a.stamp.t, .int .i64 a.stamp.c, .int .i64 a.stamp.r, .int .i64 a.kind, .string a.name, .string a.value], .agg #[.int .i64 b.dot.r, .int .i64 b.dot.n, .int .i64 b.stamp.t, .int .i64 b.stamp.c, .int .i64 b.stamp.r, .int .i64 b.kind, .string b.name, .string b.value]] w fun e w' => e = .returned (.int .i64 (ordFact a b)) ∧ Gr w w' := by
  have hcmp := Lib.hid cmp_Compare_int
  have hcmps := Lib.hid cmp_Compare_string
  have hor := Lib.hid cmp_Or5
  have hbd := Lib.hid by_dot
  have hbs := Lib.hid by_stamp
  have hfd := Lib.hid fact_by_dot
  have hfs := Lib.hid fact_by_stamp
  go_enter Tryz.func252, Tryz.ntmps252
  go_wp2_with fail
  have l0 : Gr w ((w.alloc (Obj.cells #[.int .i64 a.dot.r, .int .i64 a.dot.n, .int .i64 a.stamp.t, .int .i64 a.stamp.c, .int .i64 a.stamp.r, .int .i64 a.kind, .string a.name, .string a.value] 77)).alloc (Obj.cells #[.int .i64 b.dot.r, .int .i64 b.dot.n, .int .i64 b.stamp.t, .int .i64 b.stamp.c, .int .i64 b.stamp.r, .int .i64 b.kind, .string b.name, .string b.value] 77)) := (by repeat (first | with_reducible exact Gr.refl _ | with_reducible assumption | with_reducible apply gr_alloc | with_reducible apply gr_drewN | with_reducible apply gr_drew))
  have k0 := (old_at (Obj.cells #[.int .i64 b.dot.r, .int .i64 b.dot.n, .int .i64 b.stamp.t, .int .i64 b.stamp.c, .int .i64 b.stamp.r, .int .i64 b.kind, .string b.name, .string b.value] 77) (new_at w (Obj.cells #[.int .i64 a.dot.r, .int .i64 a.dot.n, .int .i64 a.stamp.t, .int .i64 a.stamp.c, .int .i64 a.stamp.r, .int .i64 a.kind, .string a.name, .string a.value] 77)))
  have k1 := (new2_at w (Obj.cells #[.int .i64 a.dot.r, .int .i64 a.dot.n, .int .i64 a.stamp.t, .int .i64 a.stamp.c, .int .i64 a.stamp.r, .int .i64 a.kind, .string a.name, .string a.value] 77) (Obj.cells #[.int .i64 b.dot.r, .int .i64 b.dot.n, .int .i64 b.stamp.t, .int .i64 b.stamp.c, .int .i64 b.stamp.r, .int .i64 b.kind, .string b.name, .string b.value] 77))
  generalize ((w.alloc (Obj.cells #[.int .i64 a.dot.r, .int .i64 a.dot.n, .int .i64 a.stamp.t, .int .i64 a.stamp.c, .int .i64 a.stamp.r, .int .i64 a.kind, .string a.name, .string a.value] 77)).alloc (Obj.cells #[.int .i64 b.dot.r, .int .i64 b.dot.n, .int .i64 b.stamp.t, .int .i64 b.stamp.c, .int .i64 b.stamp.r, .int .i64 b.kind, .string b.name, .string b.value] 77)) = W0 at *
  have c0_0 : ∀ W, Gr W0 W → W.cell? ⟨w.heap.size, 0, none⟩ = some (.int .i64 a.dot.r) := fun W h => h.lat.cell k0 0 rfl
  have c0_1 : ∀ W, Gr W0 W → W.cell? ⟨w.heap.size, 1, none⟩ = some (.int .i64 a.dot.n) := fun W h => h.lat.cell k0 1 rfl
  have c0_2 : ∀ W, Gr W0 W → W.cell? ⟨w.heap.size, 2, none⟩ = some (.int .i64 a.stamp.t) := fun W h => h.lat.cell k0 2 rfl
  have c0_3 : ∀ W, Gr W0 W → W.cell? ⟨w.heap.size, 3, none⟩ = some (.int .i64 a.stamp.c) := fun W h => h.lat.cell k0 3 rfl
  have c0_4 : ∀ W, Gr W0 W → W.cell? ⟨w.heap.size, 4, none⟩ = some (.int .i64 a.stamp.r) := fun W h => h.lat.cell k0 4 rfl
  have c0_5 : ∀ W, Gr W0 W → W.cell? ⟨w.heap.size, 5, none⟩ = some (.int .i64 a.kind) := fun W h => h.lat.cell k0 5 rfl
  have c0_6 : ∀ W, Gr W0 W → W.cell? ⟨w.heap.size, 6, none⟩ = some (.string a.name) := fun W h => h.lat.cell k0 6 rfl
  have c0_7 : ∀ W, Gr W0 W → W.cell? ⟨w.heap.size, 7, none⟩ = some (.string a.value) := fun W h => h.lat.cell k0 7 rfl
  clear k0
  have c1_0 : ∀ W, Gr W0 W → W.cell? ⟨w.heap.size + 1, 0, none⟩ = some (.int .i64 b.dot.r) := fun W h => h.lat.cell k1 0 rfl
  have c1_1 : ∀ W, Gr W0 W → W.cell? ⟨w.heap.size + 1, 1, none⟩ = some (.int .i64 b.dot.n) := fun W h => h.lat.cell k1 1 rfl
  have c1_2 : ∀ W, Gr W0 W → W.cell? ⟨w.heap.size + 1, 2, none⟩ = some (.int .i64 b.stamp.t) := fun W h => h.lat.cell k1 2 rfl
  have c1_3 : ∀ W, Gr W0 W → W.cell? ⟨w.heap.size + 1, 3, none⟩ = some (.int .i64 b.stamp.c) := fun W h => h.lat.cell k1 3 rfl
  have c1_4 : ∀ W, Gr W0 W → W.cell? ⟨w.heap.size + 1, 4, none⟩ = some (.int .i64 b.stamp.r) := fun W h => h.lat.cell k1 4 rfl
  have c1_5 : ∀ W, Gr W0 W → W.cell? ⟨w.heap.size + 1, 5, none⟩ = some (.int .i64 b.kind) := fun W h => h.lat.cell k1 5 rfl
  have c1_6 : ∀ W, Gr W0 W → W.cell? ⟨w.heap.size + 1, 6, none⟩ = some (.string b.name) := fun W h => h.lat.cell k1 6 rfl
  have c1_7 : ∀ W, Gr W0 W → W.cell? ⟨w.heap.size + 1, 7, none⟩ = some (.string b.value) := fun W h => h.lat.cell k1 7 rfl
  clear k1
  have hrefl := Gr.refl W0
  go_region_held3 (fun W => Gr W0 W) (first | ((repeat (first | with_reducible exact Gr.refl _ | with_reducible assumption | with_reducible apply gr_alloc | with_reducible apply gr_drewN | with_reducible apply gr_drew)); done) | (refine hb1.pre ?_; ((repeat (first | with_reducible exact Gr.refl _ | with_reducible assumption | with_reducible apply gr_alloc | with_reducible apply gr_drewN | with_reducible apply gr_drew)); done))) (first | (go_at_call 329; refine (hcmp.out _ _ _).mono ?_; rintro e w' ⟨rfl, hb1⟩) | (go_at_call 319; refine (hcmps.out _ _ _).mono ?_; rintro e w' ⟨rfl, hb1⟩) | (go_at_call 333; refine (hfd.out _).mono ?_; rintro e w' ⟨rfl, rfl⟩) | (go_at_call 334; refine (hfs.out _).mono ?_; rintro e w' ⟨rfl, rfl⟩) | (go_at_call 384; refine (hbd.out a.dot b.dot _ _ (cell_new1 _ _ _)).mono ?_; rintro e w' ⟨rfl, hb1⟩) | (go_at_call 385; refine (hbs.out a.stamp b.stamp _ _ (cell_new1 _ _ _)).mono ?_; rintro e w' ⟨rfl, hb1⟩) | (go_at_call 316; refine (hor.out _ _ _ _ _ _ _).mono ?_; rintro e w' ⟨rfl, hb1⟩))
  go_wp2
  go_ret
  exact ⟨rfl, l0.trans ‹Gr W0 _›⟩

theorem fact_Less0 (a b : Fact) (w : World) : Calls Tryz.prog 192 #[.agg #[.int .i64 a.dot.r, .int .i64 a.dot.n, .int .i64 a.stamp.t, .int .i64 a.stamp.c, .int .i64 a.stamp.r, .int .i64 a.kind, .string a.name, .string a.value], .agg #[.int .i64 b.dot.r, .int .i64 b.dot.n, .int .i64 b.stamp.t, .int .i64 b.stamp.c, .int .i64 b.stamp.r, .int .i64 b.kind, .string b.name, .string b.value]] w fun e w' => e = .returned (.bool (decide (ordFact a b < 0))) ∧ Gr w w' := by
  have hord := Lib.hid fact_order
  go_enter Tryz.func192, Tryz.ntmps192
  go_wp2_with fail
  have l0 : Gr w ((w.alloc (Obj.cells #[.int .i64 a.dot.r, .int .i64 a.dot.n, .int .i64 a.stamp.t, .int .i64 a.stamp.c, .int .i64 a.stamp.r, .int .i64 a.kind, .string a.name, .string a.value] 77)).alloc (Obj.cells #[.int .i64 b.dot.r, .int .i64 b.dot.n, .int .i64 b.stamp.t, .int .i64 b.stamp.c, .int .i64 b.stamp.r, .int .i64 b.kind, .string b.name, .string b.value] 77)) := (by repeat (first | with_reducible exact Gr.refl _ | with_reducible assumption | with_reducible apply gr_alloc | with_reducible apply gr_drewN | with_reducible apply gr_drew))
  have k0 := (old_at (Obj.cells #[.int .i64 b.dot.r, .int .i64 b.dot.n, .int .i64 b.stamp.t, .int .i64 b.stamp.c, .int .i64 b.stamp.r, .int .i64 b.kind, .string b.name, .string b.value] 77) (new_at w (Obj.cells #[.int .i64 a.dot.r, .int .i64 a.dot.n, .int .i64 a.stamp.t, .int .i64 a.stamp.c, .int .i64 a.stamp.r, .int .i64 a.kind, .string a.name, .string a.value] 77)))
  have k1 := (new2_at w (Obj.cells #[.int .i64 a.dot.r, .int .i64 a.dot.n, .int .i64 a.stamp.t, .int .i64 a.stamp.c, .int .i64 a.stamp.r, .int .i64 a.kind, .string a.name, .string a.value] 77) (Obj.cells #[.int .i64 b.dot.r, .int .i64 b.dot.n, .int .i64 b.stamp.t, .int .i64 b.stamp.c, .int .i64 b.stamp.r, .int .i64 b.kind, .string b.name, .string b.value] 77))
  generalize ((w.alloc (Obj.cells #[.int .i64 a.dot.r, .int .i64 a.dot.n, .int .i64 a.stamp.t, .int .i64 a.stamp.c, .int .i64 a.stamp.r, .int .i64 a.kind, .string a.name, .string a.value] 77)).alloc (Obj.cells #[.int .i64 b.dot.r, .int .i64 b.dot.n, .int .i64 b.stamp.t, .int .i64 b.stamp.c, .int .i64 b.stamp.r, .int .i64 b.kind, .string b.name, .string b.value] 77)) = W0 at *
  have c0_0 : ∀ W, Gr W0 W → W.cell? ⟨w.heap.size, 0, none⟩ = some (.int .i64 a.dot.r) := fun W h => h.lat.cell k0 0 rfl
  have c0_1 : ∀ W, Gr W0 W → W.cell? ⟨w.heap.size, 1, none⟩ = some (.int .i64 a.dot.n) := fun W h => h.lat.cell k0 1 rfl
  have c0_2 : ∀ W, Gr W0 W → W.cell? ⟨w.heap.size, 2, none⟩ = some (.int .i64 a.stamp.t) := fun W h => h.lat.cell k0 2 rfl
  have c0_3 : ∀ W, Gr W0 W → W.cell? ⟨w.heap.size, 3, none⟩ = some (.int .i64 a.stamp.c) := fun W h => h.lat.cell k0 3 rfl
  have c0_4 : ∀ W, Gr W0 W → W.cell? ⟨w.heap.size, 4, none⟩ = some (.int .i64 a.stamp.r) := fun W h => h.lat.cell k0 4 rfl
  have c0_5 : ∀ W, Gr W0 W → W.cell? ⟨w.heap.size, 5, none⟩ = some (.int .i64 a.kind) := fun W h => h.lat.cell k0 5 rfl
  have c0_6 : ∀ W, Gr W0 W → W.cell? ⟨w.heap.size, 6, none⟩ = some (.string a.name) := fun W h => h.lat.cell k0 6 rfl
  have c0_7 : ∀ W, Gr W0 W → W.cell? ⟨w.heap.size, 7, none⟩ = some (.string a.value) := fun W h => h.lat.cell k0 7 rfl
  clear k0
  have c1_0 : ∀ W, Gr W0 W → W.cell? ⟨w.heap.size + 1, 0, none⟩ = some (.int .i64 b.dot.r) := fun W h => h.lat.cell k1 0 rfl
  have c1_1 : ∀ W, Gr W0 W → W.cell? ⟨w.heap.size + 1, 1, none⟩ = some (.int .i64 b.dot.n) := fun W h => h.lat.cell k1 1 rfl
  have c1_2 : ∀ W, Gr W0 W → W.cell? ⟨w.heap.size + 1, 2, none⟩ = some (.int .i64 b.stamp.t) := fun W h => h.lat.cell k1 2 rfl
  have c1_3 : ∀ W, Gr W0 W → W.cell? ⟨w.heap.size + 1, 3, none⟩ = some (.int .i64 b.stamp.c) := fun W h => h.lat.cell k1 3 rfl
  have c1_4 : ∀ W, Gr W0 W → W.cell? ⟨w.heap.size + 1, 4, none⟩ = some (.int .i64 b.stamp.r) := fun W h => h.lat.cell k1 4 rfl
  have c1_5 : ∀ W, Gr W0 W → W.cell? ⟨w.heap.size + 1, 5, none⟩ = some (.int .i64 b.kind) := fun W h => h.lat.cell k1 5 rfl
  have c1_6 : ∀ W, Gr W0 W → W.cell? ⟨w.heap.size + 1, 6, none⟩ = some (.string b.name) := fun W h => h.lat.cell k1 6 rfl
  have c1_7 : ∀ W, Gr W0 W → W.cell? ⟨w.heap.size + 1, 7, none⟩ = some (.string b.value) := fun W h => h.lat.cell k1 7 rfl
  clear k1
  have hrefl := Gr.refl W0
  go_wp2_with (go_at_call 252; refine (hord.out a b _).mono ?_; rintro e w' ⟨rfl, hb1⟩)
  go_ret
  exact ⟨rfl, l0.trans hb1⟩
end Go.Proofs.YtgjffndpegjenaaGreat
