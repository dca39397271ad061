/-
  The closed facts of the row of KernelOrders, each by itself.
-/
import Derived.Test.YtgjffndpegjenaaGreatRows
import Derived.JoinedOf
import Derived.KernelRfl
namespace Go.Proofs.YtgjffndpegjenaaGreat.kernelOrders
open Go
theorem both {a b : Bool} (h1 : a = true) (h2 : b = true) : (a && b) = true := by rw [h1, h2]; rfl
theorem named_ : Tryz.pinned.checked.prog.funcNamed Rows.kernelOrdersRow.func = some 3 := by kernel_rfl
set_option maxHeartbeats 400000000 in
theorem closed : joinedFacts Tryz.pinned.checked.prog 3 Tryz.f3 Rows.kernelOrdersSpec Rows.kernelOrdersRow = true := by
  unfold joinedFacts
  repeat refine both ?_ ?_
  all_goals as_aux_lemma => kernel_rfl
theorem inst_ : Tryz.f3.isInstance Tryz.pinned.checked.prog Rows.kernelOrdersRow.origin Rows.kernelOrdersRow.targs := of_decide_eq_true (by kernel_rfl)
theorem wrap_ : Tryz.f3.isWrapper Tryz.pinned.checked.prog Rows.kernelOrdersRow.wrapper Rows.kernelOrdersRow.mainSum := by
  unfold Func.isWrapper
  first | (rw [if_pos (by decide +kernel)]; kernel_rfl) | (rw [if_neg (by decide +kernel)]; exact ⟨rfl, rfl⟩)
end Go.Proofs.YtgjffndpegjenaaGreat.kernelOrders
