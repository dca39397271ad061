/-
  kernel.Join: what is left of two sides.
-/
import Derived.Test.YtgjffndpegjenaaGreatJoin
import Derived.Test.YtgjffndpegjenaaGreatHas
import Derived.Test.YtgjffndpegjenaaGreatSortedF
import Derived.Outline
import Derived.Deep.QuietTactic
import Derived.BigQuiet
import Derived.WalkSpells
import Derived.WalkLawsBesides
import Derived.LoopTactic
import Derived.Lib.Hide
import Derived.Deep.RegionHeld3
import Derived.Deep.DeepCutAuto
set_option linter.unusedVariables false
set_option linter.unusedSimpArgs false
set_option linter.unusedSectionVars false
namespace Go.Proofs.YtgjffndpegjenaaGreat
open Go.RowKit
attribute [local go_sem] lat_alloc lat_drew lat_drewN Lat.refl

/-- What of a side is left beside another. -/
def kSide (l : List Fact) (v : List Int) (cl : List Dot) (ol : List Fact) : List Fact := l.filter fun f => !cHas v cl f.dot || decide (f ∈ ol)
theorem kSide_snoc (l : List Fact) (f : Fact) (v : List Int) (cl : List Dot) (ol : List Fact) : kSide (l ++ [f]) v cl ol = if cHas v cl f.dot = false ∨ f ∈ ol then kSide l v cl ol ++ [f] else kSide l v cl ol := by
  unfold kSide
  rw [List.filter_append]
  cases hh : cHas v cl f.dot <;> by_cases hm : f ∈ ol <;> simp [hm, hh]
def sideCells (A : Option Addr) (n c : Nat) (x : CtxV) : List Value := .slice A n c :: ctxCells x
theorem sideCells_len (A : Option Addr) (n c : Nat) (x : CtxV) (h : x.v.length = 16) : (sideCells A n c x).length = 18 := by simp [sideCells, ctxCells_len x h]
theorem sideCells_one (A : Option Addr) (n c : Nat) (x : CtxV) : ∀ u ∈ sideCells A n c x, u.oneCell' = true := by
  intro u hu
  simp only [sideCells, List.mem_cons] at hu
  rcases hu with rfl | hu
  · rfl
  · exact ctxCells_one x u hu

set_option maxRecDepth 100000 in
theorem build_side (A : Option Addr) (n c : Nat) (x : CtxV) (hx : x.v.length = 16) (w : World) :
    (Instr.build 254 #[(0, .slice A n c), (1, .agg (ctxCells x).toArray)]).run Tryz.prog w = .ok (.agg (sideCells A n c x).toArray) w := by
  match x, hx with
  | ⟨[a0, a1, a2, a3, a4, a5, a6, a7, a8, a9, a10, a11, a12, a13, a14, a15], A', k', cl'⟩, _ =>
    simp only [sideCells, ctxCells, vcells, List.map_cons, List.map_nil, List.cons_append, List.nil_append]
    go_simp
set_option maxRecDepth 100000 in
theorem build_sides (A : Option Addr) (n c : Nat) (x : CtxV) (hx : x.v.length = 16) (A2 : Option Addr) (n2 c2 : Nat) (y : CtxV) (hy : y.v.length = 16) (w : World) :
    (Instr.build 255 #[(0, .agg (sideCells A n c x).toArray), (1, .agg (sideCells A2 n2 c2 y).toArray)]).run Tryz.prog w = .ok (.agg (sideCells A n c x ++ sideCells A2 n2 c2 y).toArray) w := by
  match x, hx, y, hy with
  | ⟨[a0, a1, a2, a3, a4, a5, a6, a7, a8, a9, a10, a11, a12, a13, a14, a15], A', k', cl'⟩, _, ⟨[b0, b1, b2, b3, b4, b5, b6, b7, b8, b9, b10, b11, b12, b13, b14, b15], B', l', dl'⟩, _ =>
    simp only [sideCells, ctxCells, vcells, List.map_cons, List.map_nil, List.cons_append, List.nil_append]
    go_simp

set_option maxRecDepth 100000 in
set_option maxHeartbeats 1000000 in
theorem kernel_Join (A : Option Addr) (n c : Nat) (l : List Fact) (hl : l.length = n) (hn : n ≤ 274877906944) (x : CtxV) (A2 : Option Addr) (n2 c2 : Nat) (m : List Fact) (hm : m.length = n2) (hn2 : n2 ≤ 274877906944) (y : CtxV) (w : World)
    (hx : CtxOk w x) (hxs : x.cloud.length ≤ 549755813888) (hy : CtxOk w y) (hys : y.cloud.length ≤ 549755813888) (hrl : RdS encFact 8 w A l) (hrm : RdS encFact 8 w A2 m) :
    Calls Tryz.prog 86 #[.slice A n c, .agg (ctxCells x).toArray, .slice A2 n2 c2, .agg (ctxCells y).toArray] w fun e w' => ∃ (v : Value) (z : CtxV), e = .returned (.tuple #[v, .agg (ctxCells z).toArray]) ∧ (z.v, z.cloud) = cJoin x.v x.cloud y.v y.cloud ∧ Own encDot 2 37 w.heap.size w' (.slice z.A z.cloud.length z.cap) z.cloud ∧
      Own encFact 8 77 w.heap.size w' v (sortU factLt (kSide l y.v y.cloud m ++ kSide m x.v x.cloud l)) ∧ Lat w w' := by
  have hlx : (ctxCells x).length = 17 := ctxCells_len x hx.len
  have hly : (ctxCells y).length = 17 := ctxCells_len y hy.len
  have hsx := sideCells_len A n c x hx.len
  have hsy := sideCells_len A2 n2 c2 y hy.len
  have hss : (sideCells A n c x ++ sideCells A2 n2 c2 y).length = 36 := by rw [List.length_append, hsx, hsy]
  have hone : ∀ u ∈ sideCells A n c x ++ sideCells A2 n2 c2 y, u.oneCell' = true := by
    intro u hu
    rcases List.mem_append.1 hu with h | h
    · exact sideCells_one _ _ _ _ u h
    · exact sideCells_one _ _ _ _ u h
  have Hone := Lib.hid hone
  clear hone
  have Hx := Lib.hid hx
  have Hy := Lib.hid hy
  have Hrl := Lib.hid hrl
  have Hrm := Lib.hid hrm
  have B1 := Lib.hid (build_side A n c x hx.len)
  have B2 := Lib.hid (build_side A2 n2 c2 y hy.len)
  have B3 := Lib.hid (build_sides A n c x hx.len A2 n2 c2 y hy.len)
  clear hx hy hrl hrm
  have Hl := Lib.hid hl
  have Hm := Lib.hid hm
  clear hl hm
  go_enter Tryz.func86, Tryz.ntmps86
  go_upto_region 1 with (fail)
  rw [zeroCtx_cells]
  have l0 : Lat w (((w.alloc (Obj.cells (ctxCells x).toArray 31)).alloc (Obj.cells (ctxCells y).toArray 31)).alloc (Obj.cells (ctxCells zeroCtx).toArray 31)) := (by repeat (first | with_reducible exact Lat.refl _ | with_reducible assumption | with_reducible apply lat_alloc | with_reducible apply lat_drewN | with_reducible apply lat_drew))
  have k0 := (old_at (Obj.cells (ctxCells zeroCtx).toArray 31) (old_at (Obj.cells (ctxCells y).toArray 31) (new_at w (Obj.cells (ctxCells x).toArray 31))))
  have k1 := (old_at (Obj.cells (ctxCells zeroCtx).toArray 31) (new2_at w (Obj.cells (ctxCells x).toArray 31) (Obj.cells (ctxCells y).toArray 31)))
  have k2 := (new3_at w (Obj.cells (ctxCells x).toArray 31) (Obj.cells (ctxCells y).toArray 31) (Obj.cells (ctxCells zeroCtx).toArray 31))
  generalize (((w.alloc (Obj.cells (ctxCells x).toArray 31)).alloc (Obj.cells (ctxCells y).toArray 31)).alloc (Obj.cells (ctxCells zeroCtx).toArray 31)) = W0 at *
  have hrefl := Lat.refl W0
  have hzl : (ctxCells zeroCtx).length = 17 := ctxCells_len _ (clampTo_len _ _)
  generalize ctxCells zeroCtx = Z at k2 hzl
  have K0 := Lib.hid k0
  have K1 := Lib.hid k1
  have K2 := Lib.hid k2
  have hsz2 := lt_of_block k2
  clear k0 k1 k2
  go_upto_region 2 with (first
    | ((with_reducible refine wpList_ld 31 (w.heap.size) (0) (ctxCells x) ?_ Tryz.underlying31 ?_ ?_ ?_ ?_ ?_); exact (range_of_block K0.out); rfl; (rw [hlx]; kernel_rfl); rfl; rfl)
    | ((with_reducible refine wpList_ld 31 (w.heap.size + 1) (0) (ctxCells y) ?_ Tryz.underlying31 ?_ ?_ ?_ ?_ ?_); exact (range_of_block K1.out); rfl; (rw [hly]; kernel_rfl); rfl; rfl)
    | ((with_reducible refine wpList_build2 (254) (.slice A n c) (.agg (ctxCells x).toArray) (.agg (sideCells A n c x).toArray) ?_ ?_ ?_ ?_ ?_); exact B1.out; rfl; rfl; rfl)
    | ((with_reducible refine wpList_build2 (254) (.slice A2 n2 c2) (.agg (ctxCells y).toArray) (.agg (sideCells A2 n2 c2 y).toArray) ?_ ?_ ?_ ?_ ?_); exact B2.out; rfl; rfl; rfl)
    | ((with_reducible refine wpList_build2 (255) (.agg (sideCells A n c x).toArray) (.agg (sideCells A2 n2 c2 y).toArray) (.agg (sideCells A n c x ++ sideCells A2 n2 c2 y).toArray) ?_ ?_ ?_ ?_ ?_); exact B3.out; rfl; rfl; rfl)
    | ((with_reducible refine wpList_st 255 (W0.heap.size) (0) (sideCells A n c x ++ sideCells A2 n2 c2 y) ?_ ?_ ?_ ?_ ?_ ?_); exact (there_of_block (new_at _ _) _ (Nat.le_of_eq hss)); (rw [hss]; kernel_rfl); exact Hone.out; rfl; rfl))
  have kb := block_whole (new_at W0 (Obj.cells #[Value.slice none 0 0, Value.int IntKind.i64 0, Value.int IntKind.i64 0, Value.int IntKind.i64 0, Value.int IntKind.i64 0, Value.int IntKind.i64 0, Value.int IntKind.i64 0, Value.int IntKind.i64 0, Value.int IntKind.i64 0, Value.int IntKind.i64 0, Value.int IntKind.i64 0, Value.int IntKind.i64 0, Value.int IntKind.i64 0, Value.int IntKind.i64 0, Value.int IntKind.i64 0, Value.int IntKind.i64 0, Value.int IntKind.i64 0, Value.slice none 0 0, Value.slice none 0 0, Value.int IntKind.i64 0, Value.int IntKind.i64 0, Value.int IntKind.i64 0, Value.int IntKind.i64 0, Value.int IntKind.i64 0, Value.int IntKind.i64 0, Value.int IntKind.i64 0, Value.int IntKind.i64 0, Value.int IntKind.i64 0, Value.int IntKind.i64 0, Value.int IntKind.i64 0, Value.int IntKind.i64 0, Value.int IntKind.i64 0, Value.int IntKind.i64 0, Value.int IntKind.i64 0, Value.int IntKind.i64 0, Value.slice none 0 0] 255)) (sideCells A n c x ++ sideCells A2 n2 c2 y) hss
  have lb : Lat W0 ((W0.alloc (Obj.cells #[Value.slice none 0 0, Value.int IntKind.i64 0, Value.int IntKind.i64 0, Value.int IntKind.i64 0, Value.int IntKind.i64 0, Value.int IntKind.i64 0, Value.int IntKind.i64 0, Value.int IntKind.i64 0, Value.int IntKind.i64 0, Value.int IntKind.i64 0, Value.int IntKind.i64 0, Value.int IntKind.i64 0, Value.int IntKind.i64 0, Value.int IntKind.i64 0, Value.int IntKind.i64 0, Value.int IntKind.i64 0, Value.int IntKind.i64 0, Value.slice none 0 0, Value.slice none 0 0, Value.int IntKind.i64 0, Value.int IntKind.i64 0, Value.int IntKind.i64 0, Value.int IntKind.i64 0, Value.int IntKind.i64 0, Value.int IntKind.i64 0, Value.int IntKind.i64 0, Value.int IntKind.i64 0, Value.int IntKind.i64 0, Value.int IntKind.i64 0, Value.int IntKind.i64 0, Value.int IntKind.i64 0, Value.int IntKind.i64 0, Value.int IntKind.i64 0, Value.int IntKind.i64 0, Value.int IntKind.i64 0, Value.slice none 0 0] 255)).setCells W0.heap.size 0 (sideCells A n c x ++ sideCells A2 n2 c2 y)) := lat_setCells (Nat.le_refl _) _ _ (lat_alloc (Lat.refl _) _)
  generalize (W0.alloc (Obj.cells #[Value.slice none 0 0, Value.int IntKind.i64 0, Value.int IntKind.i64 0, Value.int IntKind.i64 0, Value.int IntKind.i64 0, Value.int IntKind.i64 0, Value.int IntKind.i64 0, Value.int IntKind.i64 0, Value.int IntKind.i64 0, Value.int IntKind.i64 0, Value.int IntKind.i64 0, Value.int IntKind.i64 0, Value.int IntKind.i64 0, Value.int IntKind.i64 0, Value.int IntKind.i64 0, Value.int IntKind.i64 0, Value.int IntKind.i64 0, Value.slice none 0 0, Value.slice none 0 0, Value.int IntKind.i64 0, Value.int IntKind.i64 0, Value.int IntKind.i64 0, Value.int IntKind.i64 0, Value.int IntKind.i64 0, Value.int IntKind.i64 0, Value.int IntKind.i64 0, Value.int IntKind.i64 0, Value.int IntKind.i64 0, Value.int IntKind.i64 0, Value.int IntKind.i64 0, Value.int IntKind.i64 0, Value.int IntKind.i64 0, Value.int IntKind.i64 0, Value.int IntKind.i64 0, Value.int IntKind.i64 0, Value.slice none 0 0] 255)).setCells W0.heap.size 0 (sideCells A n c x ++ sideCells A2 n2 c2 y) = Wb at *
  have Kb := Lib.hid kb
  have Lb := Lib.hid lb
  have hsb := lt_of_block kb
  clear kb lb
  generalize hsb0 : W0.heap.size = sb at *
  have R0 : Hid (∀ W, Lat Wb W → W.rangeAt sb 0 (sideCells A n c x)) := fun W h => range_prefix (range_of_block (h.block Kb.out))
  have R1 : Hid (∀ W, Lat Wb W → W.rangeAt sb 18 (sideCells A2 n2 c2 y)) := fun W h => by
    have := range_later (range_of_block (h.block Kb.out))
    rwa [hsx, Nat.zero_add] at this
  go_wp2_with fail
  go_loopw [23, 11] (fun i v wr => ∃ k : Nat, k ≤ 2 ∧ i = .int .i64 k ∧ Own encFact 8 77 Wb.heap.size wr v (if k = 0 then [] else if k = 1 then kSide l y.v y.cloud m else kSide l y.v y.cloud m ++ kSide m x.v x.cloud l) ∧ Lat Wb wr) (fun i _ _ => 2 - (intOf i).toNat)
  case atStart => exact ⟨0, by omega, rfl, Own.nil _ _ _ _ _, Lat.refl _⟩
  case round =>
    obtain ⟨k, hk, rfl, hO, hL⟩ := hrel
    by_cases hlt : k < 2
    · obtain ⟨j, A3, n3, c3, l3, x3, A4, n4, c4, l4, x4, hjk, hl3, hl4, hn3, hn4, hR3, hR4, hrd3, hrd4, hx4, hxs4, hacc, hal⟩ : ∃ (j : Nat) (A3 : Option Addr) (n3 c3 : Nat) (l3 : List Fact) (x3 : CtxV) (A4 : Option Addr) (n4 c4 : Nat) (l4 : List Fact) (x4 : CtxV),
          (1 : Int) - (k : Int) = (j : Int) ∧ l3.length = n3 ∧ l4.length = n4 ∧ n3 ≤ 274877906944 ∧ n4 ≤ 274877906944 ∧ (∀ W, Lat Wb W → W.rangeAt sb (k * 18) (sideCells A3 n3 c3 x3)) ∧ (∀ W, Lat Wb W → W.rangeAt sb (j * 18) (sideCells A4 n4 c4 x4)) ∧ RdS encFact 8 w A3 l3 ∧ RdS encFact 8 w A4 l4 ∧ CtxOk w x4 ∧ x4.cloud.length ≤ 549755813888 ∧
          (if k + 1 = 0 then [] else if k + 1 = 1 then kSide l y.v y.cloud m else kSide l y.v y.cloud m ++ kSide m x.v x.cloud l) = (if k = 0 then [] else if k = 1 then kSide l y.v y.cloud m else kSide l y.v y.cloud m ++ kSide m x.v x.cloud l) ++ kSide l3 x4.v x4.cloud l4 ∧
          (if k = 0 then [] else if k = 1 then kSide l y.v y.cloud m else kSide l y.v y.cloud m ++ kSide m x.v x.cloud l).length ≤ 274877906944 := by
        rcases (show k = 0 ∨ k = 1 by omega) with rfl | rfl
        · exact ⟨1, A, n, c, l, x, A2, n2, c2, m, y, rfl, Hl.out, Hm.out, hn, hn2, R0.out, R1.out, Hrl.out, Hrm.out, Hy.out, hys, by simp, by simp⟩
        · refine ⟨0, A2, n2, c2, m, y, A, n, c, l, x, rfl, Hm.out, Hl.out, hn2, hn, R1.out, R0.out, Hrm.out, Hrl.out, Hx.out, hxs, by simp, ?_⟩
          have h1 := Hl.out
          have h2 : (kSide l y.v y.cloud m).length ≤ l.length := List.length_filter_le _ _
          simp
          omega
      generalize (if k = 0 then [] else if k = 1 then kSide l y.v y.cloud m else kSide l y.v y.cloud m ++ kSide m x.v x.cloud l) = acc at hO hacc hal
      have Hacc := Lib.hid hacc
      have HR3 := Lib.hid hR3
      have HR4 := Lib.hid hR4
      have Hrd3 := Lib.hid hrd3
      have Hrd4 := Lib.hid hrd4
      have Hx4 := Lib.hid hx4
      have Hl3 := Lib.hid hl3
      have Hl4 := Lib.hid hl4
      have HO := Lib.hid hO
      have HL := Lib.hid hL
      have hs4 := sideCells_len A4 n4 c4 x4 hx4.len
      have hlx4 := ctxCells_len x4 hx4.len
      have hw1 : IntKind.i64.wrap ((1 : Int) - (k : Int)) = (j : Int) := by rw [IntKind.wrap_i64]; omega
      have hi0 : (0 : Int) ≤ (k : Int) := by omega
      have hi1 : (k : Int) < 2 := by omega
      have hi2 : (0 : Int) ≤ (j : Int) := by omega
      have hi3 : (j : Int) < 2 := by omega
      clear hacc hR3 hR4 hrd3 hrd4 hx4 hl3 hl4 hO hL
      go_upto_region 7 with (first
        | ((with_reducible refine wpList_ld 254 (sb) (j * 18) (sideCells A4 n4 c4 x4) ?_ Tryz.underlying254 ?_ ?_ ?_ ?_ ?_); exact (HR4.out _ HL.out); rfl; (rw [hs4]; kernel_rfl); rfl; rfl)
        | ((with_reducible refine wpList_st 254 (wr.heap.size) (0) (sideCells A4 n4 c4 x4) ?_ ?_ ?_ ?_ ?_ ?_); exact (there_of_block (new_at _ _) _ (Nat.le_of_eq hs4)); (rw [hs4]; kernel_rfl); exact (sideCells_one A4 n4 c4 x4); rfl; rfl))
      have ko := block_whole (new_at wr (Obj.cells #[Value.slice none 0 0, Value.int IntKind.i64 0, Value.int IntKind.i64 0, Value.int IntKind.i64 0, Value.int IntKind.i64 0, Value.int IntKind.i64 0, Value.int IntKind.i64 0, Value.int IntKind.i64 0, Value.int IntKind.i64 0, Value.int IntKind.i64 0, Value.int IntKind.i64 0, Value.int IntKind.i64 0, Value.int IntKind.i64 0, Value.int IntKind.i64 0, Value.int IntKind.i64 0, Value.int IntKind.i64 0, Value.int IntKind.i64 0, Value.slice none 0 0] 254)) (sideCells A4 n4 c4 x4) hs4
      have lo : Lat wr ((wr.alloc (Obj.cells #[Value.slice none 0 0, Value.int IntKind.i64 0, Value.int IntKind.i64 0, Value.int IntKind.i64 0, Value.int IntKind.i64 0, Value.int IntKind.i64 0, Value.int IntKind.i64 0, Value.int IntKind.i64 0, Value.int IntKind.i64 0, Value.int IntKind.i64 0, Value.int IntKind.i64 0, Value.int IntKind.i64 0, Value.int IntKind.i64 0, Value.int IntKind.i64 0, Value.int IntKind.i64 0, Value.int IntKind.i64 0, Value.int IntKind.i64 0, Value.slice none 0 0] 254)).setCells wr.heap.size 0 (sideCells A4 n4 c4 x4)) := lat_setCells (Nat.le_refl _) _ _ (lat_alloc (Lat.refl _) _)
      generalize (wr.alloc (Obj.cells #[Value.slice none 0 0, Value.int IntKind.i64 0, Value.int IntKind.i64 0, Value.int IntKind.i64 0, Value.int IntKind.i64 0, Value.int IntKind.i64 0, Value.int IntKind.i64 0, Value.int IntKind.i64 0, Value.int IntKind.i64 0, Value.int IntKind.i64 0, Value.int IntKind.i64 0, Value.int IntKind.i64 0, Value.int IntKind.i64 0, Value.int IntKind.i64 0, Value.int IntKind.i64 0, Value.int IntKind.i64 0, Value.int IntKind.i64 0, Value.slice none 0 0] 254)).setCells wr.heap.size 0 (sideCells A4 n4 c4 x4) = Wi at *
      generalize hob : wr.heap.size = ob at *
      have hLi := HL.out.trans lo
      have HLi := Lib.hid hLi
      have cS := fun W (h : Lat Wb W) => range_head (HR3.out W h)
      have HOi := Lib.hid (HO.out.later lo)
      have Ko := Lib.hid ko
      clear ko lo
      go_wp2_with fail
      go_loopw [35, 11] (fun i v wr => ∃ (q : Nat), q ≤ n3 ∧ i = .int .i64 q ∧ Own encFact 8 77 Wb.heap.size wr v (acc ++ kSide (l3.take q) x4.v x4.cloud l4) ∧ Lat Wb wr ∧ wr.heap[ob]? = some (.cells (sideCells A4 n4 c4 x4).toArray 254 (0, 0))) (fun i _ _ => n3 - (intOf i).toNat)
      case atStart => exact ⟨0, by omega, rfl, by simpa [kSide] using HOi.out, HLi.out, Ko.out⟩
      case round =>
        obtain ⟨q, hq, rfl, hV, hLwr, hKo⟩ := hrel
        have hkl : (kSide (l3.take q) x4.v x4.cloud l4).length ≤ q := Nat.le_trans (List.length_filter_le _ _) (by simp; omega)
        have hbnd : (acc ++ kSide (l3.take q) x4.v x4.cloud l4).length ≤ 549755813888 := by rw [List.length_append]; omega
        have HV := Lib.hid hV
        have Kob := Lib.hid hKo
        have hl3 := Hl3.out
        have hWr : Lat w wr := l0.trans (Lb.out.trans hLwr)
        have HWr := Lib.hid hWr
        by_cases hlt3 : q < n3
        · have hx : l3[q]? = some (l3[q]'(by omega)) := List.getElem?_eq_getElem (by omega)
          have ht := List.take_succ_eq_append_getElem (l := l3) (i := q) (by omega)
          obtain ⟨b, o, rfl, hb, hr⟩ := Hrd3.out.get q _ hx
          generalize l3[q]'(by omega) = f at *
          have cf0 : ∀ W, Lat wr W → W.cell? ⟨b, o + q * 8, none⟩ = some (.int .i64 f.dot.r) := fun W h => hr W (hWr.trans h) 0 _ rfl
          have cf1 : ∀ W, Lat wr W → W.cell? ⟨b, o + q * 8 + 1, none⟩ = some (.int .i64 f.dot.n) := fun W h => hr W (hWr.trans h) 1 _ rfl
          have cf2 : ∀ W, Lat wr W → W.cell? ⟨b, o + q * 8 + 2, none⟩ = some (.int .i64 f.stamp.t) := fun W h => hr W (hWr.trans h) 2 _ rfl
          have cf3 : ∀ W, Lat wr W → W.cell? ⟨b, o + q * 8 + 3, none⟩ = some (.int .i64 f.stamp.c) := fun W h => hr W (hWr.trans h) 3 _ rfl
          have cf4 : ∀ W, Lat wr W → W.cell? ⟨b, o + q * 8 + 4, none⟩ = some (.int .i64 f.stamp.r) := fun W h => hr W (hWr.trans h) 4 _ rfl
          have cf5 : ∀ W, Lat wr W → W.cell? ⟨b, o + q * 8 + 5, none⟩ = some (.int .i64 f.kind) := fun W h => hr W (hWr.trans h) 5 _ rfl
          have cf6 : ∀ W, Lat wr W → W.cell? ⟨b, o + q * 8 + 6, none⟩ = some (.string f.name) := fun W h => hr W (hWr.trans h) 6 _ rfl
          have cf7 : ∀ W, Lat wr W → W.cell? ⟨b, o + q * 8 + 7, none⟩ = some (.string f.value) := fun W h => hr W (hWr.trans h) 7 _ rfl
          have Hkf := Lib.hid ht
          have hi4 : (0 : Int) ≤ (q : Int) := by omega
          have hi5 : (q : Int) < (n3 : Int) := by omega
          have hreflr := Lat.refl wr
          clear hx ht hr hV hKo cS
          go_upto_region 10 with (fail)
          have lw2 : Lat wr (wr.alloc (Obj.cells #[Value.int .i64 f.dot.r, Value.int .i64 f.dot.n, Value.int .i64 f.stamp.t, Value.int .i64 f.stamp.c, Value.int .i64 f.stamp.r, Value.int .i64 f.kind, Value.string f.name, Value.string f.value] 77)) := lat_alloc (Lat.refl _) _
          have kf := new_at wr (Obj.cells #[Value.int .i64 f.dot.r, Value.int .i64 f.dot.n, Value.int .i64 f.stamp.t, Value.int .i64 f.stamp.c, Value.int .i64 f.stamp.r, Value.int .i64 f.kind, Value.string f.name, Value.string f.value] 77)
          generalize wr.alloc (Obj.cells #[Value.int .i64 f.dot.r, Value.int .i64 f.dot.n, Value.int .i64 f.stamp.t, Value.int .i64 f.stamp.c, Value.int .i64 f.stamp.r, Value.int .i64 f.kind, Value.string f.name, Value.string f.value] 77) = W2 at *
          have ef0 : ∀ W, Lat W2 W → W.cell? ⟨wr.heap.size, 0, none⟩ = some (.int .i64 f.dot.r) := fun W h => h.cell kf 0 rfl
          have ef1 : ∀ W, Lat W2 W → W.cell? ⟨wr.heap.size, 1, none⟩ = some (.int .i64 f.dot.n) := fun W h => h.cell kf 1 rfl
          have ef2 : ∀ W, Lat W2 W → W.cell? ⟨wr.heap.size, 2, none⟩ = some (.int .i64 f.stamp.t) := fun W h => h.cell kf 2 rfl
          have ef3 : ∀ W, Lat W2 W → W.cell? ⟨wr.heap.size, 3, none⟩ = some (.int .i64 f.stamp.c) := fun W h => h.cell kf 3 rfl
          have ef4 : ∀ W, Lat W2 W → W.cell? ⟨wr.heap.size, 4, none⟩ = some (.int .i64 f.stamp.r) := fun W h => h.cell kf 4 rfl
          have ef5 : ∀ W, Lat W2 W → W.cell? ⟨wr.heap.size, 5, none⟩ = some (.int .i64 f.kind) := fun W h => h.cell kf 5 rfl
          have ef6 : ∀ W, Lat W2 W → W.cell? ⟨wr.heap.size, 6, none⟩ = some (.string f.name) := fun W h => h.cell kf 6 rfl
          have ef7 : ∀ W, Lat W2 W → W.cell? ⟨wr.heap.size, 7, none⟩ = some (.string f.value) := fun W h => h.cell kf 7 rfl
          have Hlw2 := Lib.hid lw2
          have RX := Lib.hid (fun W (h : Lat W2 W) => range_tail (range_of_block ((lw2.trans h).block Kob.out)))
          have sX := fun W (h : Lat W2 W) => range_head (range_of_block ((Hlw2.out.trans h).block Kob.out))
          have HH := Lib.hid (fun W (h : Lat W2 W) => causal_Has x4 f.dot W (Hx4.out.later (HWr.out.trans (Hlw2.out.trans h))))
          have HC := Lib.hid (fun W (h : Lat W2 W) => fact_Contains A4 n4 c4 l4 Hl4.out (by omega) f W (Hrd4.out.later (HWr.out.trans (Hlw2.out.trans h))))
          have hrefl2 := Lat.refl W2
          clear cf0 cf1 cf2 cf3 cf4 cf5 cf6 cf7 kf lw2 hreflr
          cases hh : cHas x4.v x4.cloud f.dot with
          | false =>
            have Hh := Lib.hid hh
            clear hh
            go_upto_region 11 with (first
              | ((with_reducible refine wpList_ld 31 (ob) (1) (ctxCells x4) ?_ Tryz.underlying31 ?_ ?_ ?_ ?_ ?_); exact (RX.out _ (by repeat (first | with_reducible exact Lat.refl _ | with_reducible assumption | with_reducible apply lat_alloc | with_reducible apply lat_drewN | with_reducible apply lat_drew))); rfl; (rw [hlx4]; kernel_rfl); rfl; rfl)
              | (go_at_call 168; refine (HH.out _ (by ((repeat (first | with_reducible exact Lat.refl _ | with_reducible assumption | with_reducible apply lat_alloc | with_reducible apply lat_drewN | with_reducible apply lat_drew)); done))).mono ?_; rintro e w4 ⟨rfl, hb4⟩; have hw4 : Lat W2 w4 := hb4.pre (by repeat (first | with_reducible exact Lat.refl _ | with_reducible assumption | with_reducible apply lat_alloc | with_reducible apply lat_drewN | with_reducible apply lat_drew)); rw [Hh.out])
              | (go_at_call 196; refine (HC.out _ (by ((repeat (first | with_reducible exact Lat.refl _ | with_reducible assumption | with_reducible apply lat_alloc | with_reducible apply lat_drewN | with_reducible apply lat_drew)); done))).mono ?_; rintro e w5 ⟨rfl, hb5⟩; have hw5 : Lat W2 w5 := hb5.pre (by repeat (first | with_reducible exact Lat.refl _ | with_reducible assumption | with_reducible apply lat_alloc | with_reducible apply lat_drewN | with_reducible apply lat_drew)); rw [Hm4.out]))
            have hWn : Lat Wb w4 := hLwr.trans (Hlw2.out.trans hw4)
            have HWn := Lib.hid hWn
            have hWnr := HV.out.later (Hlw2.out.trans hw4)
            have hWnk := (Hlw2.out.trans hw4).block Kob.out
            have HWnr := Lib.hid hWnr
            have HWnk := Lib.hid hWnk
            clear hWnr hWnk hWn
            go_wp2_with ((at_builtin; go_must (refine app1g encFact_len encFact_one (by omega) (base := Wb.heap.size) rfl _ _ 26 77 _ 80 rfl Tryz.underlying26 info_fact rfl u11 (acc ++ kSide (l3.take q) x4.v x4.cloud l4) f #[Value.int .i64 f.dot.r, Value.int .i64 f.dot.n, Value.int .i64 f.stamp.t, Value.int .i64 f.stamp.c, Value.int .i64 f.stamp.r, Value.int .i64 f.kind, Value.string f.name, Value.string f.value] rfl rfl rfl HWnr.out HWn.out.size (by omega) (by omega) ?_; intro v7 w7 hO7 hG7; have Ho7 := Lib.hid hO7; have Hg7 := Lib.hid hG7; clear hO7 hG7)))
            go_roundw
            case rel => exact ⟨q + 1, by omega, by go_num, by rw [Hkf.out, kSide_snoc, if_pos (by simp [Hh.out]), ← List.append_assoc]; exact Ho7.out, lat_grown HWn.out Hg7.out (fun i hi => Own.block_ge HV.out i hi), by rw [Hg7.out.block ob (lt_of_block HWnk.out) (own_ne (by decide) HWnr.out HWnk.out)]; exact HWnk.out⟩
            case measure => simp [intOf]; omega
          | true =>
            have Hh := Lib.hid hh
            clear hh
            by_cases hmem : f ∈ l4
            · have Hmem := Lib.hid hmem
              have Hm4 : Hid (decide (f ∈ l4) = true) := decide_eq_true hmem
              clear hmem
              go_upto_region 11 with (first
                | ((with_reducible refine wpList_ld 31 (ob) (1) (ctxCells x4) ?_ Tryz.underlying31 ?_ ?_ ?_ ?_ ?_); exact (RX.out _ (by repeat (first | with_reducible exact Lat.refl _ | with_reducible assumption | with_reducible apply lat_alloc | with_reducible apply lat_drewN | with_reducible apply lat_drew))); rfl; (rw [hlx4]; kernel_rfl); rfl; rfl)
                | (go_at_call 168; refine (HH.out _ (by ((repeat (first | with_reducible exact Lat.refl _ | with_reducible assumption | with_reducible apply lat_alloc | with_reducible apply lat_drewN | with_reducible apply lat_drew)); done))).mono ?_; rintro e w4 ⟨rfl, hb4⟩; have hw4 : Lat W2 w4 := hb4.pre (by repeat (first | with_reducible exact Lat.refl _ | with_reducible assumption | with_reducible apply lat_alloc | with_reducible apply lat_drewN | with_reducible apply lat_drew)); rw [Hh.out])
                | (go_at_call 196; refine (HC.out _ (by ((repeat (first | with_reducible exact Lat.refl _ | with_reducible assumption | with_reducible apply lat_alloc | with_reducible apply lat_drewN | with_reducible apply lat_drew)); done))).mono ?_; rintro e w5 ⟨rfl, hb5⟩; have hw5 : Lat W2 w5 := hb5.pre (by repeat (first | with_reducible exact Lat.refl _ | with_reducible assumption | with_reducible apply lat_alloc | with_reducible apply lat_drewN | with_reducible apply lat_drew)); rw [Hm4.out]))
              have hWn : Lat Wb w5 := hLwr.trans (Hlw2.out.trans hw5)
              have HWn := Lib.hid hWn
              have hWnr := HV.out.later (Hlw2.out.trans hw5)
              have hWnk := (Hlw2.out.trans hw5).block Kob.out
              have HWnr := Lib.hid hWnr
              have HWnk := Lib.hid hWnk
              clear hWnr hWnk hWn
              go_wp2_with ((at_builtin; go_must (refine app1g encFact_len encFact_one (by omega) (base := Wb.heap.size) rfl _ _ 26 77 _ 80 rfl Tryz.underlying26 info_fact rfl u11 (acc ++ kSide (l3.take q) x4.v x4.cloud l4) f #[Value.int .i64 f.dot.r, Value.int .i64 f.dot.n, Value.int .i64 f.stamp.t, Value.int .i64 f.stamp.c, Value.int .i64 f.stamp.r, Value.int .i64 f.kind, Value.string f.name, Value.string f.value] rfl rfl rfl HWnr.out HWn.out.size (by omega) (by omega) ?_; intro v7 w7 hO7 hG7; have Ho7 := Lib.hid hO7; have Hg7 := Lib.hid hG7; clear hO7 hG7)))
              go_roundw
              case rel => exact ⟨q + 1, by omega, by go_num, by rw [Hkf.out, kSide_snoc, if_pos (by simp [Hmem.out]), ← List.append_assoc]; exact Ho7.out, lat_grown HWn.out Hg7.out (fun i hi => Own.block_ge HV.out i hi), by rw [Hg7.out.block ob (lt_of_block HWnk.out) (own_ne (by decide) HWnr.out HWnk.out)]; exact HWnk.out⟩
              case measure => simp [intOf]; omega
            · have Hmem := Lib.hid hmem
              have Hm4 : Hid (decide (f ∈ l4) = false) := decide_eq_false hmem
              clear hmem
              go_wp2_with (first
                | ((with_reducible refine wpList_ld 31 (ob) (1) (ctxCells x4) ?_ Tryz.underlying31 ?_ ?_ ?_ ?_ ?_); exact (RX.out _ (by repeat (first | with_reducible exact Lat.refl _ | with_reducible assumption | with_reducible apply lat_alloc | with_reducible apply lat_drewN | with_reducible apply lat_drew))); rfl; (rw [hlx4]; kernel_rfl); rfl; rfl)
                | (go_at_call 168; refine (HH.out _ (by ((repeat (first | with_reducible exact Lat.refl _ | with_reducible assumption | with_reducible apply lat_alloc | with_reducible apply lat_drewN | with_reducible apply lat_drew)); done))).mono ?_; rintro e w4 ⟨rfl, hb4⟩; have hw4 : Lat W2 w4 := hb4.pre (by repeat (first | with_reducible exact Lat.refl _ | with_reducible assumption | with_reducible apply lat_alloc | with_reducible apply lat_drewN | with_reducible apply lat_drew)); rw [Hh.out])
                | (go_at_call 196; refine (HC.out _ (by ((repeat (first | with_reducible exact Lat.refl _ | with_reducible assumption | with_reducible apply lat_alloc | with_reducible apply lat_drewN | with_reducible apply lat_drew)); done))).mono ?_; rintro e w5 ⟨rfl, hb5⟩; have hw5 : Lat W2 w5 := hb5.pre (by repeat (first | with_reducible exact Lat.refl _ | with_reducible assumption | with_reducible apply lat_alloc | with_reducible apply lat_drewN | with_reducible apply lat_drew)); rw [Hm4.out]))
              go_roundw
              case rel => exact ⟨q + 1, by omega, by go_num, by rw [Hkf.out, kSide_snoc, if_neg (by simp [Hh.out, Hmem.out])]; exact HV.out.later (Hlw2.out.trans hw5), hLwr.trans (Hlw2.out.trans hw5), (Hlw2.out.trans hw5).block Kob.out⟩
              case measure => simp [intOf]; omega
        · have hq3 : q = n3 := by omega
          have hfin := HV.out
          rw [List.take_of_length_le (by omega), ← Hacc.out] at hfin
          have Hfin := Lib.hid hfin
          clear hfin hV hKo
          go_wp2
          go_roundw
          case rel => exact ⟨k + 1, by omega, by go_num, Hfin.out, hLwr⟩
          case measure => simp [intOf]; omega
    · obtain rfl : k = 2 := by omega
      simp only [show ¬ (2 = 0) by omega, show ¬ (2 = 1) by omega, if_false] at hO
      obtain ⟨A5, c5, rfl, _, _, hR5⟩ := Own.rd encFact_len hO
      have h5l : (kSide l y.v y.cloud m ++ kSide m x.v x.cloud l).length ≤ 549755813888 := by
        have h1 : (kSide l y.v y.cloud m).length ≤ l.length := List.length_filter_le _ _
        have h2 : (kSide m x.v x.cloud l).length ≤ m.length := List.length_filter_le _ _
        have h3 := Hl.out
        have h4 := Hm.out
        rw [List.length_append]
        omega
      generalize hfin : kSide l y.v y.cloud m ++ kSide m x.v x.cloud l = fin at *
      have Hfin5 := Lib.hid hfin
      clear hfin
      have hWr : Lat W0 wr := Lb.out.trans hL
      have hwr : Lat w wr := l0.trans hWr
      have hzr := hWr.block K2.out
      have hU : Up wr (w.heap.size + 2) 31 17 wr := Up.start hzr (by simpa using hzl)
      have R2 := Lib.hid (fun W (h : Up wr (w.heap.size + 2) 31 17 W) => range_of_block (h.block (hWr.block K0.out) (by omega)))
      have R3 := Lib.hid (fun W (h : Up wr (w.heap.size + 2) 31 17 W) => range_of_block (h.block (hWr.block K1.out) (by omega)))
      have L0 := Lib.hid (fun W (h : Up wr (w.heap.size + 2) 31 17 W) => h.lat hwr (Nat.le_add_right _ 2))
      have hne5 : ∀ b o, A5 = some ⟨b, o, none⟩ → b ≠ w.heap.size + 2 := fun b o e => by
        have h1 := Own.block_ge hO b (by rw [e]; rfl)
        have h2 := Lb.out.size
        omega
      have HS := Lib.hid (fun W (h : Up wr (w.heap.size + 2) 31 17 W) => fact_Sort A5 _ c5 fin rfl (by omega) W (hR5.grown h.grown hne5))
      have HJ := Lib.hid (fun W (h : Lat w W) => causal_Join x y W (Hx.out.later h) (Hy.out.later h) hxs hys)
      have hzb : w.heap.size + 2 < wr.heap.size := by have := hWr.size; omega
      have Hzb := Lib.hid hzb
      clear hO hR5 hL hWr hzr hne5
      go_upto_region 14 with (fail)
      refine wp_region_held_drew (S := (fun W => Up wr (w.heap.size + 2) 31 17 W)) (by kernel_rfl) ?_ (fun hHeld => ?_)
      · (try dsimp only); (first | ((repeat (first | with_reducible assumption | with_reducible apply up_alloc | with_reducible apply up_drewN | with_reducible apply up_drew | with_reducible apply up_set | (refine up_whole ?_ _ (by assumption)))); done) | (refine Up.pre hb1 ?_; ((repeat (first | with_reducible assumption | with_reducible apply up_alloc | with_reducible apply up_drewN | with_reducible apply up_drew)); done)))
      refine wpAnyH_take (i := 0) (oi := { dst := some 57, op := _, type := _, pos := _, after := _, guard := _ }) (v := ?_) rfl (by kernel_rfl) (by kernel_rfl) (by kernel_rfl) (fun _ _ _ h => h) (Or.inl ⟨by rfl, ?_⟩) (by assumption) ?_
      rotate_left
      · (intro w hSw; (try dsimp only at hSw); go_simp) <;> with_reducible rfl
      (try simp only [Act.put, List.setIfInBounds_toArray, List.set_cons_zero, List.set_cons_succ])
      refine wpAnyH_take (i := 2) (oi := { dst := some 59, op := _, type := _, pos := _, after := _, guard := _ }) rfl (by kernel_rfl) (by kernel_rfl) (by kernel_rfl) (fun _ _ _ h => h) (yieldsIf_load_mid (by rfl) _ _ rfl (w.heap.size) (0) rfl ((ctxCells x)) _ ((R2.out)) Tryz.underlying31 rfl (by rw [hlx]; kernel_rfl)) (by assumption) ?_
      (try simp only [Act.put, List.setIfInBounds_toArray, List.set_cons_zero, List.set_cons_succ])
      refine wpAnyH_take (i := 3) (oi := { dst := some 60, op := _, type := _, pos := _, after := _, guard := _ }) rfl (by kernel_rfl) (by kernel_rfl) (by kernel_rfl) (fun _ _ _ h => h) (yieldsIf_load_mid (by rfl) _ _ rfl (w.heap.size + 1) (0) rfl ((ctxCells y)) _ ((R3.out)) Tryz.underlying31 rfl (by rw [hly]; kernel_rfl)) (by assumption) ?_
      (try simp only [Act.put, List.setIfInBounds_toArray, List.set_cons_zero, List.set_cons_succ])
      refine wpAnyH_ready (rs := [1]) (by kernel_rfl) (by simp) ?_
      refine AllReadyH.cons (o := { dst := some 58, op := _, type := _, pos := _, after := _, guard := _ }) rfl (fun K hK => ?_) AllReadyH.nil
      go_simp
      (go_at_call 137; refine (HS.out _ (by with_reducible assumption)).mono ?_; rintro e w3 ⟨v3, rfl, hO3, hb1⟩)
      first | (refine hK.out _ _ ?_ (fun hHeld => ?_)) | (go_wp2_with fail; refine hK.out _ _ ?_ (fun hHeld => ?_))
      · (try dsimp only); (first | ((repeat (first | with_reducible assumption | with_reducible apply up_alloc | with_reducible apply up_drewN | with_reducible apply up_drew | with_reducible apply up_set | (refine up_whole ?_ _ (by assumption)))); done) | (refine Up.pre hb1 ?_; ((repeat (first | with_reducible assumption | with_reducible apply up_alloc | with_reducible apply up_drewN | with_reducible apply up_drew)); done)))
      clear hK K
      (try simp only [Act.put, List.setIfInBounds_toArray, List.set_cons_zero, List.set_cons_succ])
      refine wpAnyH_ready (rs := [4]) (by kernel_rfl) (by simp) ?_
      refine AllReadyH.cons (o := { dst := some 61, op := _, type := _, pos := _, after := _, guard := _ }) rfl (fun K hK => ?_) AllReadyH.nil
      go_simp
      (go_at_call 197; refine (HJ.out _ (L0.out _ (by with_reducible assumption))).mono ?_; rintro e w4 ⟨z, rfl, hz, hO4, hb1⟩; have HO3' := Own.later hO3 hb1; have hlz := ctxCells_len z (clean_len hz); have hlzz : (ctxCells z).toArray.size = 17 := by simp [hlz])
      first | (refine hK.out _ _ ?_ (fun hHeld => ?_)) | (go_wp2_with fail; refine hK.out _ _ ?_ (fun hHeld => ?_))
      · (try dsimp only); (first | ((repeat (first | with_reducible assumption | with_reducible apply up_alloc | with_reducible apply up_drewN | with_reducible apply up_drew | with_reducible apply up_set | (refine up_whole ?_ _ (by assumption)))); done) | (refine Up.pre hb1 ?_; ((repeat (first | with_reducible assumption | with_reducible apply up_alloc | with_reducible apply up_drewN | with_reducible apply up_drew)); done)))
      clear hK K
      (try simp only [Act.put, List.setIfInBounds_toArray, List.set_cons_zero, List.set_cons_succ])
      refine wpAnyH_take (i := 5) (oi := { dst := some 8, op := _, type := _, pos := _, after := _, guard := _ }) (v := ?_) rfl (by kernel_rfl) (by kernel_rfl) (by kernel_rfl) (fun _ _ _ h => h) (Or.inl ⟨by rfl, ?_⟩) (by assumption) ?_
      rotate_left
      · (intro w hSw; (try dsimp only at hSw); go_simp) <;> with_reducible rfl
      (try simp only [Act.put, List.setIfInBounds_toArray, List.set_cons_zero, List.set_cons_succ])
      refine wpAnyH_ready (rs := [6]) (by kernel_rfl) (by simp) ?_
      refine AllReadyH.cons (o := { dst := none, op := _, type := _, pos := _, after := _, guard := _ }) rfl (fun K hK => ?_) AllReadyH.nil
      rw [if_pos (by rfl)]
      refine wp_store_mid _ _ _ rfl (w.heap.size + 2) (0) (ctxCells z).toArray rfl rfl ?_ ?_ ?_ ?_
      · exact (by rw [hlzz]; exact Up.there (by assumption) 17 (Nat.le_refl _))
      · (simp only [List.size_toArray, hlz]; kernel_rfl)
      · exact all_oneCell_toArray (ctxCells_one z)
      simp only [List.toList_toArray]
      first | (refine hK.out _ _ ?_ (fun hHeld => ?_)) | (go_wp2_with fail; refine hK.out _ _ ?_ (fun hHeld => ?_))
      · (try dsimp only); (first | ((repeat (first | with_reducible assumption | with_reducible apply up_alloc | with_reducible apply up_drewN | with_reducible apply up_drew | with_reducible apply up_set | (refine up_whole ?_ _ (by assumption)))); done) | (refine Up.pre hb1 ?_; ((repeat (first | with_reducible assumption | with_reducible apply up_alloc | with_reducible apply up_drewN | with_reducible apply up_drew)); done)))
      clear hK K
      (try simp only [Act.put, List.setIfInBounds_toArray, List.set_cons_zero, List.set_cons_succ])
      refine wpAnyH_done (by kernel_rfl) ?_ _
      go_wp2
      have hU9 : Up wr (w.heap.size + 2) 31 17 w4 := by assumption
      have hU8 : Up wr (w.heap.size + 2) 31 17 w3 := by assumption
      refine bodyPost_ret (results_tmp_cell rfl _ _ (w.heap.size + 2) rfl (ctxCells z) _ (range_of_block (hU9.whole _ hlz)) Tryz.underlying31 rfl (by rw [hlz]; kernel_rfl)) rfl ?_
      have hs3 := Nat.lt_of_lt_of_le Hzb.out hU8.grown.size
      have hs4 : w.heap.size ≤ wr.drew.heap.size := hwr.size
      exact ⟨v3, z, rfl, hz, (hO4.grown (setCells_grown (w.heap.size + 2) (ctxCells z) 0 w4) hs3).base_le (by omega), by rw [Hfin5.out]; exact (HO3'.grown (setCells_grown (w.heap.size + 2) (ctxCells z) 0 w4) Hzb.out).base_le hs4, Up.lat (by assumption) hwr (Nat.le_add_right _ 2)⟩
end Go.Proofs.YtgjffndpegjenaaGreat
