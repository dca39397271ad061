/-
  A context put together out of a vector and a cloud.
-/
import Derived.Test.YtgjffndpegjenaaGreatProg
import Derived.Test.YtgjffndpegjenaaGreatCtx
import Derived.Outline
import Derived.WalkSpells
set_option linter.unusedVariables false
set_option linter.unusedSimpArgs false
set_option linter.unusedSectionVars false
namespace Go.Proofs.YtgjffndpegjenaaGreat
open Go.RowKit

theorem build_ctx (v : List Int) (hv : v.length = 16) (A : Option Addr) (n c : Nat) (w : World) :
    (Instr.build 31 #[(0, .agg (vcells v).toArray), (1, .slice A n c)]).run Tryz.prog w = .ok (.agg (vcells v ++ [Value.slice A n c]).toArray) w := by
  match v, hv with
  | [a0, a1, a2, a3, a4, a5, a6, a7, a8, a9, a10, a11, a12, a13, a14, a15], _ =>
    simp only [vcells, List.map_cons, List.map_nil]
    go_simp
    try rfl
theorem exec_build_ctx (z : CtxV) (hz : z.v.length = 16) {a : Act} {x y : Operand} {dst ty pos aft gd} (hx : a.eval x = .agg (vcells z.v).toArray) (hy : a.eval y = .slice z.A z.cloud.length z.cap) (w : World) :
    (execOp a.eval { dst := dst, op := .build 31 #[(0, x), (1, y)], type := ty, pos := pos, after := aft, guard := gd }).run Tryz.prog w = .ok (.value (.agg (ctxCells z).toArray)) w := by
  unfold execOp
  simp only [List.map_toArray, List.map_cons, List.map_nil, hx, hy, Sem.run_bind, build_ctx z.v hz, Result.andThen_ok]
  rfl
theorem wpList_bd {ops : Array Oper} {rest : List Oper} {a : Act} {w : World} {Q : Exit → Act → World → Prop} (z : CtxV) (hz : z.v.length = 16) {x y : Operand} {dst ty pos aft gd} (hx : a.eval x = .agg (vcells z.v).toArray) (hy : a.eval y = .slice z.A z.cloud.length z.cap)
    (hw : Region.wanted { dst := dst, op := .build 31 #[(0, x), (1, y)], type := ty, pos := pos, after := aft, guard := gd } (yielded ops a.tmps) = true) (h : wpList Tryz.prog ops Q rest (a.put dst (.agg (ctxCells z).toArray)) w) :
    wpList Tryz.prog ops Q ({ dst := dst, op := .build 31 #[(0, x), (1, y)], type := ty, pos := pos, after := aft, guard := gd } :: rest) a w :=
  BigFrame.wpList_want hw fun K hK => by
    unfold Oper.wp
    rw [exec_build_ctx z hz hx hy w]
    exact hK _ _ h
end Go.Proofs.YtgjffndpegjenaaGreat
