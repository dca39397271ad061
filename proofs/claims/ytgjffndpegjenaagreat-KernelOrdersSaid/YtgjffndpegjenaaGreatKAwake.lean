/-
  The law's own example: tag, awake.
-/
import Derived.Test.YtgjffndpegjenaaGreatKCheck
import Derived.Test.YtgjffndpegjenaaGreatKEnd
import Derived.Test.YtgjffndpegjenaaGreatTag
import Derived.Test.YtgjffndpegjenaaGreatRHas
import Derived.Outline
import Derived.Deep.QuietTactic
import Derived.BigQuiet
import Derived.WalkSpells
import Derived.WalkLawsBesides
import Derived.LoopTactic
import Derived.Lib.Hide
import Derived.Deep.RegionHeld3
import Derived.Deep.DeepCutAuto
set_option linter.unusedVariables false
set_option linter.unusedSimpArgs false
set_option linter.unusedSectionVars false
namespace Go.Proofs.YtgjffndpegjenaaGreat
open Go.RowKit
attribute [local go_sem] lat_alloc lat_drew lat_drewN Lat.refl

def tagF (r n : Int) (v : ByteArray) : Fact := ⟨⟨r, n⟩, ⟨1, 0, r⟩, 3, ⟨#[97]⟩, v⟩
theorem l16_tag (r n : Int) (v : ByteArray) (w : World) :
    Calls Tryz.prog 84 #[.int .i64 r, .int .i64 n, .string v] w fun e w' => e = .returned (.agg #[.int .i64 r, .int .i64 n, .int .i64 1, .int .i64 0, .int .i64 r, .int .i64 3, .string ⟨#[97]⟩, .string v]) ∧ Lat w w' := by
  go_enter Tryz.func84, Tryz.ntmps84
  go_wp2_with fail
  refine bodyPost_ret (v := .agg #[.int .i64 r, .int .i64 n, .int .i64 1, .int .i64 0, .int .i64 r, .int .i64 3, .string ⟨#[97]⟩, .string v]) (by simp [results, Tryz.results84, go_sem]) rfl ⟨rfl, (by repeat (first | with_reducible exact Lat.refl _ | with_reducible assumption | with_reducible apply lat_alloc | with_reducible apply lat_drewN | with_reducible apply lat_drew))⟩

def tagX : Fact := tagF 0 1 ⟨#[120]⟩
def V1 : List Int := [1, 0, 0, 0, 0, 0, 0, 0, 0, 0, 0, 0, 0, 0, 0, 0]
def V11 : List Int := [1, 1, 0, 0, 0, 0, 0, 0, 0, 0, 0, 0, 0, 0, 0, 0]
theorem gen_world {P : Program} {c : Code} {Q : Exit → Act → World → Prop} {a : Act} {W : World} (R : World → Prop) (hW : R W) (h : ∀ W', R W' → Code.wp P c Q a W') : Code.wp P c Q a W := h W hW

theorem apply_known (A : Option Addr) (n c : Nat) (l : List Fact) (hl : l.length = n) (hn : n ≤ 274877906944) (x : CtxV) (d : DeltaV) (r : List Fact) (vv : List Int) (cc : List Dot) (hk : kApply l x.v x.cloud d = (r, (vv, cc))) (w : World) (hx : CtxOk w x) (hxs : x.cloud.length ≤ 549755813888) (hrl : RdS encFact 8 w A l) (hd : DeltaOk w d) (hdf : d.facts.length ≤ 274877906944) (hdg : d.gone.length ≤ 274877906944) :
    Calls Tryz.prog 21 #[.slice A n c, .agg (ctxCells x).toArray, .agg #[.int .i64 d.dot.r, .int .i64 d.dot.n, .int .i64 d.stamp.t, .int .i64 d.stamp.c, .int .i64 d.stamp.r, .slice d.A d.facts.length d.cap, .slice d.A2 d.gone.length d.cap2]] w fun e w' => ∃ (A' : Option Addr) (c' : Nat) (Az : Option Addr) (cz : Nat), e = .returned (.tuple #[.slice A' r.length c', .agg (ctxCells ⟨vv, Az, cz, cc⟩).toArray]) ∧ RdS encFact 8 w' A' r ∧ r.length ≤ c' ∧ RdS encDot 2 w' Az cc ∧ Lat w w' := by
  refine (kernel_Apply A n c l hl hn x d w hx hxs hrl hd hdf hdg).mono ?_
  rintro e w' ⟨v, z, rfl, hz, hO, hF, hL⟩
  rw [hk] at hz hF
  obtain ⟨A', c', rfl, h1, _, h3⟩ := Own.rd encFact_len hF
  obtain ⟨zv, zA, zc, zcl⟩ := z
  simp only [Prod.mk.injEq] at hz
  obtain ⟨rfl, rfl⟩ := hz
  exact ⟨A', c', zA, zc, rfl, h3, h1, Own.rdS encDot_len hO, hL⟩
theorem kap_a (A A2 : Option Addr) (c c2 : Nat) (s : Stamp) : kApply [] zeroCtx.v zeroCtx.cloud ⟨⟨0, 1⟩, s, A, c, [tagX], A2, c2, []⟩ = ([tagX], (V1, [])) := by kernel_rfl
theorem kap_b (A A2 : Option Addr) (c c2 : Nat) (s : Stamp) : kApply [tagX] V1 [] ⟨⟨1, 1⟩, s, A, c, [], A2, c2, [⟨0, 1⟩]⟩ = ([], (V11, [])) := by kernel_rfl
theorem kap_c (A A2 : Option Addr) (c c2 : Nat) (s : Stamp) : kApply [] zeroCtx.v zeroCtx.cloud ⟨⟨1, 1⟩, s, A, c, [], A2, c2, [⟨0, 1⟩]⟩ = ([], (V11, [])) := by kernel_rfl
theorem kap_d (A A2 : Option Addr) (c c2 : Nat) (s : Stamp) : kApply [] V11 [] ⟨⟨0, 1⟩, s, A, c, [tagX], A2, c2, []⟩ = ([], (V11, [])) := by kernel_rfl
theorem cerr_V1 : cErr V1 [] = 0 := by kernel_rfl
theorem cerr_0 : cErr zeroCtx.v zeroCtx.cloud = 0 := by kernel_rfl
theorem kerr_a : kErr (fun _ => 0) [tagX] V1 [] = 0 := by
  refine kErr_yes cerr_V1 (fun _ _ => rfl) (fun i f hf => ?_)
  cases i with
  | zero =>
    simp only [List.getElem?_cons_zero, Option.some.injEq] at hf
    subst hf
    exact ⟨fun p h0 => by omega, by kernel_rfl, by simp⟩
  | succ i => simp at hf
theorem kerr_0 : kErr (fun _ => 0) [tagX] zeroCtx.v zeroCtx.cloud = 5 := by
  refine kErr_no cerr_0 (fun _ _ => rfl) (i := 0) (f := tagX) rfl (fun h => ?_)
  have h2 := h.2.1
  have h3 : cHas zeroCtx.v zeroCtx.cloud tagX.dot = false := by kernel_rfl
  rw [h3] at h2
  cases h2
set_option maxRecDepth 100000 in
set_option maxHeartbeats 2000000 in
theorem l16_awake (w : World) : Calls Tryz.prog 19 #[] w fun e w' => e = .returned (.bool true) ∧ Lat w w' := by
  have HT := Lib.hid (l16_tag 0 1 ⟨#[120]⟩)
  have hrefl := Lat.refl w
  go_enter Tryz.func19, Tryz.ntmps19
  go_upto_region 3 with (go_at_call 84; refine (HT.out _).mono ?_; rintro e w1 ⟨rfl, hb1⟩)
  have kf := old_at (Obj.cells #[Value.int .i64 1, Value.int .i64 1, Value.int .i64 1, Value.int .i64 0, Value.int .i64 1, Value.slice none 0 0, Value.slice (some ⟨w1.heap.size + 1 + 1, 0, none⟩) 1 1] 41) (old_at (Obj.cells #[Value.int .i64 0, Value.int .i64 1] 37) (old_at (Obj.cells #[Value.int .i64 0, Value.int .i64 1, Value.int .i64 1, Value.int .i64 0, Value.int .i64 0, Value.slice (some ⟨w1.heap.size, 0, none⟩) 1 1, Value.slice none 0 0] 41) (new_at w1 (Obj.cells #[Value.int .i64 0, Value.int .i64 1, Value.int .i64 1, Value.int .i64 0, Value.int .i64 0, Value.int .i64 3, Value.string ⟨#[97]⟩, Value.string ⟨#[120]⟩] 77))))
  have kx := old_at (Obj.cells #[Value.int .i64 1, Value.int .i64 1, Value.int .i64 1, Value.int .i64 0, Value.int .i64 1, Value.slice none 0 0, Value.slice (some ⟨w1.heap.size + 1 + 1, 0, none⟩) 1 1] 41) (old_at (Obj.cells #[Value.int .i64 0, Value.int .i64 1] 37) (new2_at w1 (Obj.cells #[Value.int .i64 0, Value.int .i64 1, Value.int .i64 1, Value.int .i64 0, Value.int .i64 0, Value.int .i64 3, Value.string ⟨#[97]⟩, Value.string ⟨#[120]⟩] 77) (Obj.cells #[Value.int .i64 0, Value.int .i64 1, Value.int .i64 1, Value.int .i64 0, Value.int .i64 0, Value.slice (some ⟨w1.heap.size, 0, none⟩) 1 1, Value.slice none 0 0] 41)))
  have kg := old_at (Obj.cells #[Value.int .i64 1, Value.int .i64 1, Value.int .i64 1, Value.int .i64 0, Value.int .i64 1, Value.slice none 0 0, Value.slice (some ⟨w1.heap.size + 1 + 1, 0, none⟩) 1 1] 41) (new3_at w1 (Obj.cells #[Value.int .i64 0, Value.int .i64 1, Value.int .i64 1, Value.int .i64 0, Value.int .i64 0, Value.int .i64 3, Value.string ⟨#[97]⟩, Value.string ⟨#[120]⟩] 77) (Obj.cells #[Value.int .i64 0, Value.int .i64 1, Value.int .i64 1, Value.int .i64 0, Value.int .i64 0, Value.slice (some ⟨w1.heap.size, 0, none⟩) 1 1, Value.slice none 0 0] 41) (Obj.cells #[Value.int .i64 0, Value.int .i64 1] 37))
  have ky := new4_at w1 (Obj.cells #[Value.int .i64 0, Value.int .i64 1, Value.int .i64 1, Value.int .i64 0, Value.int .i64 0, Value.int .i64 3, Value.string ⟨#[97]⟩, Value.string ⟨#[120]⟩] 77) (Obj.cells #[Value.int .i64 0, Value.int .i64 1, Value.int .i64 1, Value.int .i64 0, Value.int .i64 0, Value.slice (some ⟨w1.heap.size, 0, none⟩) 1 1, Value.slice none 0 0] 41) (Obj.cells #[Value.int .i64 0, Value.int .i64 1] 37) (Obj.cells #[Value.int .i64 1, Value.int .i64 1, Value.int .i64 1, Value.int .i64 0, Value.int .i64 1, Value.slice none 0 0, Value.slice (some ⟨w1.heap.size + 1 + 1, 0, none⟩) 1 1] 41)
  have lw : Lat w ((((w1.alloc (Obj.cells #[Value.int .i64 0, Value.int .i64 1, Value.int .i64 1, Value.int .i64 0, Value.int .i64 0, Value.int .i64 3, Value.string ⟨#[97]⟩, Value.string ⟨#[120]⟩] 77)).alloc (Obj.cells #[Value.int .i64 0, Value.int .i64 1, Value.int .i64 1, Value.int .i64 0, Value.int .i64 0, Value.slice (some ⟨w1.heap.size, 0, none⟩) 1 1, Value.slice none 0 0] 41)).alloc (Obj.cells #[Value.int .i64 0, Value.int .i64 1] 37)).alloc (Obj.cells #[Value.int .i64 1, Value.int .i64 1, Value.int .i64 1, Value.int .i64 0, Value.int .i64 1, Value.slice none 0 0, Value.slice (some ⟨w1.heap.size + 1 + 1, 0, none⟩) 1 1] 41)) := lat_alloc (lat_alloc (lat_alloc (lat_alloc hb1 _) _) _) _
  generalize ((((w1.alloc (Obj.cells #[Value.int .i64 0, Value.int .i64 1, Value.int .i64 1, Value.int .i64 0, Value.int .i64 0, Value.int .i64 3, Value.string ⟨#[97]⟩, Value.string ⟨#[120]⟩] 77)).alloc (Obj.cells #[Value.int .i64 0, Value.int .i64 1, Value.int .i64 1, Value.int .i64 0, Value.int .i64 0, Value.slice (some ⟨w1.heap.size, 0, none⟩) 1 1, Value.slice none 0 0] 41)).alloc (Obj.cells #[Value.int .i64 0, Value.int .i64 1] 37)).alloc (Obj.cells #[Value.int .i64 1, Value.int .i64 1, Value.int .i64 1, Value.int .i64 0, Value.int .i64 1, Value.slice none 0 0, Value.slice (some ⟨w1.heap.size + 1 + 1, 0, none⟩) 1 1] 41)) = W0 at *
  rw [show w1.heap.size + 3 = w1.heap.size + 1 + 1 + 1 from rfl] at ky
  rw [show w1.heap.size + 2 = w1.heap.size + 1 + 1 from rfl] at kg
  generalize w1.heap.size + 1 + 1 + 1 = gy at *
  generalize w1.heap.size + 1 + 1 = gg at *
  generalize w1.heap.size + 1 = gx at *
  generalize w1.heap.size = gf at *
  clear hb1
  have x0 := fun W (h : Lat W0 W) => h.cell kx 0 rfl
  have x1 := fun W (h : Lat W0 W) => h.cell kx 1 rfl
  have x2 := fun W (h : Lat W0 W) => h.cell kx 2 rfl
  have x3 := fun W (h : Lat W0 W) => h.cell kx 3 rfl
  have x4 := fun W (h : Lat W0 W) => h.cell kx 4 rfl
  have x5 := fun W (h : Lat W0 W) => h.cell kx 5 rfl
  have x6 := fun W (h : Lat W0 W) => h.cell kx 6 rfl
  have y0 := fun W (h : Lat W0 W) => h.cell ky 0 rfl
  have y1 := fun W (h : Lat W0 W) => h.cell ky 1 rfl
  have y2 := fun W (h : Lat W0 W) => h.cell ky 2 rfl
  have y3 := fun W (h : Lat W0 W) => h.cell ky 3 rfl
  have y4 := fun W (h : Lat W0 W) => h.cell ky 4 rfl
  have y5 := fun W (h : Lat W0 W) => h.cell ky 5 rfl
  have y6 := fun W (h : Lat W0 W) => h.cell ky 6 rfl
  simp only [List.getElem_toArray, List.getElem_cons_zero, List.getElem_cons_succ] at x0 x1 x2 x3 x4 x5 x6 y0 y1 y2 y3 y4 y5 y6
  have hdx : ∀ W, Lat W0 W → DeltaOk W ⟨⟨0, 1⟩, ⟨1, 0, 0⟩, some ⟨gf, 0, none⟩, 1, [tagX], none, 0, []⟩ := fun W h => ⟨RdS.box (enc := encFact) (y := tagX) (h.block kf), RdS.nil _ _ _ _⟩
  have hdy : ∀ W, Lat W0 W → DeltaOk W ⟨⟨1, 1⟩, ⟨1, 0, 1⟩, none, 0, [], some ⟨gg, 0, none⟩, 1, [⟨0, 1⟩]⟩ := fun W h => ⟨RdS.nil _ _ _ _, RdS.box (enc := encDot) (y := ⟨0, 1⟩) (h.block kg)⟩
  have hz0 : ∀ W, CtxOk W zeroCtx := fun W => ⟨clampTo_len _ _, Nat.zero_le _, RdS.nil _ _ _ _⟩
  have hv1 : ∀ W A c, CtxOk W ⟨V1, A, c, []⟩ := fun W A c => ⟨rfl, Nat.zero_le _, RdS.nil _ _ _ _⟩
  have hv11 : ∀ W A c, CtxOk W ⟨V11, A, c, []⟩ := fun W A c => ⟨rfl, Nat.zero_le _, RdS.nil _ _ _ _⟩
  have HXa : Hid (∀ W, Lat W0 W → Calls Tryz.prog 21 #[.slice none 0 0, .agg (ctxCells zeroCtx).toArray, .agg #[.int .i64 0, .int .i64 1, .int .i64 1, .int .i64 0, .int .i64 0, .slice (some ⟨gf, 0, none⟩) 1 1, .slice none 0 0]] W fun e w' => ∃ (A' : Option Addr) (c' : Nat) (Az : Option Addr) (cz : Nat), e = .returned (.tuple #[.slice A' 1 c', .agg (ctxCells ⟨V1, Az, cz, []⟩).toArray]) ∧ RdS encFact 8 w' A' [tagX] ∧ 1 ≤ c' ∧ RdS encDot 2 w' Az [] ∧ Lat W w') :=
    fun W h => apply_known none 0 0 [] rfl (by omega) zeroCtx ⟨⟨0, 1⟩, ⟨1, 0, 0⟩, some ⟨gf, 0, none⟩, 1, [tagX], none, 0, []⟩ [tagX] V1 [] (kap_a _ _ _ _ _) W (hz0 W) (by simp [zeroCtx]) (RdS.nil _ _ _ _) (hdx W h) (by simp [zeroCtx]) (by simp [zeroCtx])
  have HYb : Hid (∀ A c Az cz W, Lat W0 W → RdS encFact 8 W A [tagX] → Calls Tryz.prog 21 #[.slice A 1 c, .agg (ctxCells ⟨V1, Az, cz, []⟩).toArray, .agg #[.int .i64 1, .int .i64 1, .int .i64 1, .int .i64 0, .int .i64 1, .slice none 0 0, .slice (some ⟨gg, 0, none⟩) 1 1]] W fun e w' => ∃ (A' : Option Addr) (c' : Nat) (Az : Option Addr) (cz : Nat), e = .returned (.tuple #[.slice A' 0 c', .agg (ctxCells ⟨V11, Az, cz, []⟩).toArray]) ∧ RdS encFact 8 w' A' [] ∧ 0 ≤ c' ∧ RdS encDot 2 w' Az [] ∧ Lat W w') :=
    fun A c Az cz W h hr => apply_known A 1 c [tagX] rfl (by omega) ⟨V1, Az, cz, []⟩ ⟨⟨1, 1⟩, ⟨1, 0, 1⟩, none, 0, [], some ⟨gg, 0, none⟩, 1, [⟨0, 1⟩]⟩ [] V11 [] (kap_b _ _ _ _ _) W (hv1 W _ _) (by simp [zeroCtx]) hr (hdy W h) (by simp [zeroCtx]) (by simp [zeroCtx])
  have HYc : Hid (∀ W, Lat W0 W → Calls Tryz.prog 21 #[.slice none 0 0, .agg (ctxCells zeroCtx).toArray, .agg #[.int .i64 1, .int .i64 1, .int .i64 1, .int .i64 0, .int .i64 1, .slice none 0 0, .slice (some ⟨gg, 0, none⟩) 1 1]] W fun e w' => ∃ (A' : Option Addr) (c' : Nat) (Az : Option Addr) (cz : Nat), e = .returned (.tuple #[.slice A' 0 c', .agg (ctxCells ⟨V11, Az, cz, []⟩).toArray]) ∧ RdS encFact 8 w' A' [] ∧ 0 ≤ c' ∧ RdS encDot 2 w' Az [] ∧ Lat W w') :=
    fun W h => apply_known none 0 0 [] rfl (by omega) zeroCtx ⟨⟨1, 1⟩, ⟨1, 0, 1⟩, none, 0, [], some ⟨gg, 0, none⟩, 1, [⟨0, 1⟩]⟩ [] V11 [] (kap_c _ _ _ _ _) W (hz0 W) (by simp [zeroCtx]) (RdS.nil _ _ _ _) (hdy W h) (by simp [zeroCtx]) (by simp [zeroCtx])
  have HXd : Hid (∀ A c Az cz W, Lat W0 W → Calls Tryz.prog 21 #[.slice A 0 c, .agg (ctxCells ⟨V11, Az, cz, []⟩).toArray, .agg #[.int .i64 0, .int .i64 1, .int .i64 1, .int .i64 0, .int .i64 0, .slice (some ⟨gf, 0, none⟩) 1 1, .slice none 0 0]] W fun e w' => ∃ (A' : Option Addr) (c' : Nat) (Az : Option Addr) (cz : Nat), e = .returned (.tuple #[.slice A' 0 c', .agg (ctxCells ⟨V11, Az, cz, []⟩).toArray]) ∧ RdS encFact 8 w' A' [] ∧ 0 ≤ c' ∧ RdS encDot 2 w' Az [] ∧ Lat W w') :=
    fun A c Az cz W h => apply_known A 0 c [] rfl (by omega) ⟨V11, Az, cz, []⟩ ⟨⟨0, 1⟩, ⟨1, 0, 0⟩, some ⟨gf, 0, none⟩, 1, [tagX], none, 0, []⟩ [] V11 [] (kap_d _ _ _ _ _) W (hv11 W _ _) (by simp [zeroCtx]) (RdS.nil _ _ _ _) (hdx W h) (by simp [zeroCtx]) (by simp [zeroCtx])
  have hrefl := Lat.refl W0
  have Lw := Lib.hid lw
  clear kf kg kx ky hdx hdy lw
  go_upto_region 4 with (first
    | (go_at_call 21; rw [zeroCtx_cells]; refine (HXa.out _ (by ((repeat (first | with_reducible exact Lat.refl _ | with_reducible assumption | with_reducible apply lat_alloc | with_reducible apply lat_drewN | with_reducible apply lat_drew)); done))).mono ?_; rintro e wa ⟨A1, c1, Az1, cz1, rfl, hR1, hc1, hR1z, hb1⟩; have hwa : Lat W0 wa := hb1)
    | ((with_reducible refine wpList_st 31 (wa.heap.size) (0) (ctxCells ⟨V1, Az1, cz1, []⟩) ?_ ?_ ?_ ?_ ?_ ?_); exact (there_of_block (new_at _ _) _ (Nat.le_refl _)); (rw [(show (ctxCells ⟨V1, Az1, cz1, []⟩).length = 17 from rfl)]; kernel_rfl); exact (ctxCells_one _); rfl; rfl))
  refine gen_world (fun W => Lat W0 W ∧ W.heap[wa.heap.size]? = some (.cells (ctxCells ⟨V1, Az1, cz1, []⟩).toArray 31 (0, 0)) ∧ RdS encFact 8 W A1 [tagX]) ⟨lat_setCells hwa.size _ _ (lat_alloc hwa _), block_whole (new_at _ _) _ rfl, hR1.later (lat_setCells (Nat.le_refl _) _ _ (lat_alloc (Lat.refl _) _))⟩ ?_
  rintro W1 ⟨hW1, kac, hRa⟩
  generalize wa.heap.size = gac at *
  clear hR1 hR1z hb1 hwa
  have Ka := Lib.hid kac
  have Ra := Lib.hid hRa
  clear kac hRa
  have hrefl1 := Lat.refl W1
  have x0 := fun W (h : Lat W1 W) => x0 W (hW1.trans h)
  have x1 := fun W (h : Lat W1 W) => x1 W (hW1.trans h)
  have x2 := fun W (h : Lat W1 W) => x2 W (hW1.trans h)
  have x3 := fun W (h : Lat W1 W) => x3 W (hW1.trans h)
  have x4 := fun W (h : Lat W1 W) => x4 W (hW1.trans h)
  have x5 := fun W (h : Lat W1 W) => x5 W (hW1.trans h)
  have x6 := fun W (h : Lat W1 W) => x6 W (hW1.trans h)
  have y0 := fun W (h : Lat W1 W) => y0 W (hW1.trans h)
  have y1 := fun W (h : Lat W1 W) => y1 W (hW1.trans h)
  have y2 := fun W (h : Lat W1 W) => y2 W (hW1.trans h)
  have y3 := fun W (h : Lat W1 W) => y3 W (hW1.trans h)
  have y4 := fun W (h : Lat W1 W) => y4 W (hW1.trans h)
  have y5 := fun W (h : Lat W1 W) => y5 W (hW1.trans h)
  have y6 := fun W (h : Lat W1 W) => y6 W (hW1.trans h)
  go_upto_region 5 with (first
    | ((with_reducible refine wpList_ld 31 (gac) (0) (ctxCells ⟨V1, Az1, cz1, []⟩) ?_ Tryz.underlying31 ?_ ?_ ?_ ?_ ?_); exact (range_of_block (Lat.block (by repeat (first | with_reducible exact Lat.refl _ | with_reducible assumption | with_reducible apply lat_alloc | with_reducible apply lat_drewN | with_reducible apply lat_drew)) Ka.out)); rfl; (rw [(show (ctxCells ⟨V1, Az1, cz1, []⟩).length = 17 from rfl)]; kernel_rfl); rfl; rfl)
    | (go_at_call 21; refine (HYb.out A1 c1 Az1 cz1 _ (hW1.trans (by ((repeat (first | with_reducible exact Lat.refl _ | with_reducible assumption | with_reducible apply lat_alloc | with_reducible apply lat_drewN | with_reducible apply lat_drew)); done))) (Ra.out.later (by ((repeat (first | with_reducible exact Lat.refl _ | with_reducible assumption | with_reducible apply lat_alloc | with_reducible apply lat_drewN | with_reducible apply lat_drew)); done)))).mono ?_; rintro e wa ⟨A2, c2, Az2, cz2, rfl, hR2, hc2, hR2z, hb1⟩; have hwa : Lat W1 wa := hb1)
    | ((with_reducible refine wpList_st 31 (wa.heap.size) (0) (ctxCells ⟨V11, Az2, cz2, []⟩) ?_ ?_ ?_ ?_ ?_ ?_); exact (there_of_block (new_at _ _) _ (Nat.le_refl _)); (rw [(show (ctxCells ⟨V11, Az2, cz2, []⟩).length = 17 from rfl)]; kernel_rfl); exact (ctxCells_one _); rfl; rfl))
  refine gen_world (fun W => Lat W1 W ∧ W.heap[wa.heap.size]? = some (.cells (ctxCells ⟨V11, Az2, cz2, []⟩).toArray 31 (0, 0))) ⟨lat_setCells hwa.size _ _ (lat_alloc hwa _), block_whole (new_at _ _) _ rfl⟩ ?_
  rintro W2 ⟨hW2, kbc⟩
  generalize wa.heap.size = gbc at *
  clear hR2 hR2z hb1 hwa hc2
  have Kb := Lib.hid kbc
  clear kbc
  go_upto_region 6 with (first
    | (go_at_call 21; rw [zeroCtx_cells]; refine (HYc.out _ (hW1.trans (hW2.trans (by ((repeat (first | with_reducible exact Lat.refl _ | with_reducible assumption | with_reducible apply lat_alloc | with_reducible apply lat_drewN | with_reducible apply lat_drew)); done))))).mono ?_; rintro e wa ⟨A3, c3, Az3, cz3, rfl, hR3, hc3, hR3z, hb1⟩; have hwa : Lat W2 wa := hb1)
    | ((with_reducible refine wpList_st 31 (wa.heap.size) (0) (ctxCells ⟨V11, Az3, cz3, []⟩) ?_ ?_ ?_ ?_ ?_ ?_); exact (there_of_block (new_at _ _) _ (Nat.le_refl _)); (rw [(show (ctxCells ⟨V11, Az3, cz3, []⟩).length = 17 from rfl)]; kernel_rfl); exact (ctxCells_one _); rfl; rfl))
  refine gen_world (fun W => Lat W2 W ∧ W.heap[wa.heap.size]? = some (.cells (ctxCells ⟨V11, Az3, cz3, []⟩).toArray 31 (0, 0))) ⟨lat_setCells hwa.size _ _ (lat_alloc hwa _), block_whole (new_at _ _) _ rfl⟩ ?_
  rintro W3 ⟨hW3, kcc⟩
  generalize wa.heap.size = gcc at *
  clear hR3 hR3z hb1 hwa hc3
  have Kc := Lib.hid kcc
  clear kcc
  have hW23 : Lat W1 W3 := hW2.trans hW3
  have hrefl3 := Lat.refl W3
  go_upto_region 7 with (first
    | ((with_reducible refine wpList_ld 31 (gcc) (0) (ctxCells ⟨V11, Az3, cz3, []⟩) ?_ Tryz.underlying31 ?_ ?_ ?_ ?_ ?_); exact (range_of_block (Lat.block (by repeat (first | with_reducible exact Lat.refl _ | with_reducible assumption | with_reducible apply lat_alloc | with_reducible apply lat_drewN | with_reducible apply lat_drew)) Kc.out)); rfl; (rw [(show (ctxCells ⟨V11, Az3, cz3, []⟩).length = 17 from rfl)]; kernel_rfl); rfl; rfl)
    | (go_at_call 21; refine (HXd.out A3 c3 Az3 cz3 _ (hW1.trans (hW23.trans (by ((repeat (first | with_reducible exact Lat.refl _ | with_reducible assumption | with_reducible apply lat_alloc | with_reducible apply lat_drewN | with_reducible apply lat_drew)); done))))).mono ?_; rintro e wa ⟨A4, c4, Az4, cz4, rfl, hR4, hc4, hR4z, hb1⟩; have hwa : Lat W3 wa := hb1)
    | ((with_reducible refine wpList_st 31 (wa.heap.size) (0) (ctxCells ⟨V11, Az4, cz4, []⟩) ?_ ?_ ?_ ?_ ?_ ?_); exact (there_of_block (new_at _ _) _ (Nat.le_refl _)); (rw [(show (ctxCells ⟨V11, Az4, cz4, []⟩).length = 17 from rfl)]; kernel_rfl); exact (ctxCells_one _); rfl; rfl))
  refine gen_world (fun W => Lat W3 W ∧ W.heap[wa.heap.size]? = some (.cells (ctxCells ⟨V11, Az4, cz4, []⟩).toArray 31 (0, 0))) ⟨lat_setCells hwa.size _ _ (lat_alloc hwa _), block_whole (new_at _ _) _ rfl⟩ ?_
  rintro W4 ⟨hW4, kdc⟩
  generalize wa.heap.size = gdc at *
  clear hR4 hR4z hb1 hwa hc4
  have Kd := Lib.hid kdc
  clear kdc
  clear x0 x1 x2 x3 x4 x5 x6 y0 y1 y2 y3 y4 y5 y6
  have ka4 := (hW23.trans hW4).block Ka.out
  have kb4 := (hW3.trans hW4).block Kb.out
  have ra4 := Ra.out.later (hW23.trans hW4)
  have Ka4 := Lib.hid ka4
  have Kb4 := Lib.hid kb4
  have Ra4 := Lib.hid ra4
  clear ka4 kb4 ra4 hv1 hv11 hz0
  have HS : Hid (∀ W, Lat W4 W → Calls Tryz.prog 25 #[.agg (ctxCells ⟨V11, Az2, cz2, []⟩).toArray, .agg (ctxCells ⟨V11, Az4, cz4, []⟩).toArray] W fun e w' => e = .returned (.bool true) ∧ Lat W w') :=
    fun W h => (r13_Same ⟨V11, Az2, cz2, []⟩ ⟨V11, Az4, cz4, []⟩ W ⟨rfl, Nat.zero_le _, RdS.nil _ _ _ _⟩ ⟨rfl, Nat.zero_le _, RdS.nil _ _ _ _⟩).mono fun e w' ⟨h1, h2⟩ => ⟨by rw [h1]; simp, h2⟩
  have hfe : ∀ f ∈ [tagX], ∀ W, Calls Tryz.prog 191 #[.agg #[.int .i64 f.dot.r, .int .i64 f.dot.n, .int .i64 f.stamp.t, .int .i64 f.stamp.c, .int .i64 f.stamp.r, .int .i64 f.kind, .string f.name, .string f.value]] W fun e w' => e = .returned (.int .i64 ((fun _ => 0 : Fact → Int) f)) ∧ Lat W w' := by
    intro f hf W
    obtain rfl := List.mem_singleton.1 hf
    exact fact_Check_tag tagX ⟨by kernel_rfl, by kernel_rfl, rfl, rfl, by kernel_rfl, by kernel_rfl⟩ W
  have HC1 : Hid (∀ W, Lat W4 W → Calls Tryz.prog 85 #[.slice A1 1 c1, .agg (ctxCells ⟨V1, Az1, cz1, []⟩).toArray] W fun e w' => e = .returned (.int .i64 0) ∧ Lat W w') :=
    fun W h => (kernel_Check (fun _ => 0) A1 1 c1 [tagX] rfl (by omega) hc1 ⟨V1, Az1, cz1, []⟩ W ⟨rfl, Nat.zero_le _, RdS.nil _ _ _ _⟩ (Ra4.out.later h) hfe).mono fun e w' ⟨h1, h2⟩ => ⟨by rw [h1, kerr_a], h2⟩
  have HC0 : Hid (∀ W, Lat W4 W → Calls Tryz.prog 85 #[.slice A1 1 c1, .agg (ctxCells zeroCtx).toArray] W fun e w' => e = .returned (.int .i64 5) ∧ Lat W w') :=
    fun W h => (kernel_Check (fun _ => 0) A1 1 c1 [tagX] rfl (by omega) hc1 zeroCtx W ⟨clampTo_len _ _, Nat.zero_le _, RdS.nil _ _ _ _⟩ (Ra4.out.later h) hfe).mono fun e w' ⟨h1, h2⟩ => ⟨by rw [h1, kerr_0], h2⟩
  clear hfe
  have hrefl4 := Lat.refl W4
  have hev : ∀ w, (Op.equalIn 10000 28 (.agg (vcells V11).toArray) (.agg #[.int .i64 1, .int .i64 1, .int .i64 0, .int .i64 0, .int .i64 0, .int .i64 0, .int .i64 0, .int .i64 0, .int .i64 0, .int .i64 0, .int .i64 0, .int .i64 0, .int .i64 0, .int .i64 0, .int .i64 0, .int .i64 0])).run Tryz.prog w = .ok true w := fun w => (eqIn_vec V11 V11 rfl rfl w).trans (by simp)
  go_wp2_with (first
    | ((with_reducible refine wpList_ld 31 (gbc) (0) (ctxCells ⟨V11, Az2, cz2, []⟩) ?_ Tryz.underlying31 ?_ ?_ ?_ ?_ ?_); exact (range_of_block (Lat.block (by repeat (first | with_reducible exact Lat.refl _ | with_reducible assumption | with_reducible apply lat_alloc | with_reducible apply lat_drewN | with_reducible apply lat_drew)) Kb4.out)); rfl; (rw [(show (ctxCells ⟨V11, Az2, cz2, []⟩).length = 17 from rfl)]; kernel_rfl); rfl; rfl)
    | ((with_reducible refine wpList_ld 31 (gdc) (0) (ctxCells ⟨V11, Az4, cz4, []⟩) ?_ Tryz.underlying31 ?_ ?_ ?_ ?_ ?_); exact (range_of_block (Lat.block (by repeat (first | with_reducible exact Lat.refl _ | with_reducible assumption | with_reducible apply lat_alloc | with_reducible apply lat_drewN | with_reducible apply lat_drew)) Kd.out)); rfl; (rw [(show (ctxCells ⟨V11, Az4, cz4, []⟩).length = 17 from rfl)]; kernel_rfl); rfl; rfl)
    | ((with_reducible refine wpList_ld 31 (gac) (0) (ctxCells ⟨V1, Az1, cz1, []⟩) ?_ Tryz.underlying31 ?_ ?_ ?_ ?_ ?_); exact (range_of_block (Lat.block (by repeat (first | with_reducible exact Lat.refl _ | with_reducible assumption | with_reducible apply lat_alloc | with_reducible apply lat_drewN | with_reducible apply lat_drew)) Ka4.out)); rfl; (rw [(show (ctxCells ⟨V1, Az1, cz1, []⟩).length = 17 from rfl)]; kernel_rfl); rfl; rfl)
    | ((with_reducible refine wpList_ld 28 (gbc) (0) (vcells V11) ?_ Tryz.underlying28 ?_ ?_ ?_ ?_ ?_); exact (range_prefix (range_of_block (Lat.block (by repeat (first | with_reducible exact Lat.refl _ | with_reducible assumption | with_reducible apply lat_alloc | with_reducible apply lat_drewN | with_reducible apply lat_drew)) Kb4.out))); rfl; (rw [(show (vcells V11).length = 16 from rfl)]; kernel_rfl); rfl; rfl)
    | (go_at_call 25; refine (HS.out _ (by ((repeat (first | with_reducible exact Lat.refl _ | with_reducible assumption | with_reducible apply lat_alloc | with_reducible apply lat_drewN | with_reducible apply lat_drew)); done))).mono ?_; rintro e w5 ⟨rfl, hb5⟩; have hw5 : Lat W4 w5 := hb5.pre (by repeat (first | with_reducible exact Lat.refl _ | with_reducible assumption | with_reducible apply lat_alloc | with_reducible apply lat_drewN | with_reducible apply lat_drew))))
  refine (HC1.out _ (by ((repeat (first | with_reducible exact Lat.refl _ | with_reducible assumption | with_reducible apply lat_alloc | with_reducible apply lat_drewN | with_reducible apply lat_drew)); done))).mono ?_
  rintro e w6 ⟨rfl, hb6⟩
  have hw6 : Lat W4 w6 := hb6.pre (by repeat (first | with_reducible exact Lat.refl _ | with_reducible assumption | with_reducible apply lat_alloc | with_reducible apply lat_drewN | with_reducible apply lat_drew))
  go_wp2_with fail
  rw [zeroCtx_cells]
  refine (HC0.out _ (by ((repeat (first | with_reducible exact Lat.refl _ | with_reducible assumption | with_reducible apply lat_alloc | with_reducible apply lat_drewN | with_reducible apply lat_drew)); done))).mono ?_
  rintro e w7 ⟨rfl, hb7⟩
  have hw7 : Lat W4 w7 := hb7.pre (by repeat (first | with_reducible exact Lat.refl _ | with_reducible assumption | with_reducible apply lat_alloc | with_reducible apply lat_drewN | with_reducible apply lat_drew))
  go_wp2_with fail
  go_ret
  exact ⟨rfl, Lw.out.trans (hW1.trans (hW23.trans (hW4.trans hw7)))⟩
end Go.Proofs.YtgjffndpegjenaaGreat
