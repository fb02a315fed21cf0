/- The closed facts of StoreSound's row, each by itself. -/
import Derived.Test.YtijjegnedlhpfaaGreatRows
import Derived.JoinedOf
import Derived.KernelRfl
set_option linter.all false
namespace Go.Proofs.YtijjegnedlhpfaaGreat
theorem and_t {a b : Bool} (h : a = true) (k : b = true) : (a && b) = true := by rw [h, k]; rfl
set_option maxHeartbeats 0 in
set_option maxRecDepth 100000 in
theorem storeSound_facts : joinedFacts Tryz.prog 4 Tryz.f4 Rows.storeSoundSpec Rows.storeSoundRow = true := by
  unfold joinedFacts
  repeat' (with_reducible refine and_t ?_ ?_)
  all_goals as_aux_lemma => kernel_rfl
theorem storeSound_named : Tryz.prog.funcNamed Rows.storeSoundRow.func = some 4 := by kernel_rfl
theorem storeSound_inst : Tryz.f4.isInstance Tryz.prog Rows.storeSoundRow.origin Rows.storeSoundRow.targs := of_decide_eq_true (by kernel_rfl)
theorem storeSound_wrap : Tryz.f4.isWrapper Tryz.prog Rows.storeSoundRow.wrapper Rows.storeSoundRow.mainSum := by
  unfold Func.isWrapper; first | (rw [if_pos (by decide +kernel)]; kernel_rfl) | (rw [if_neg (by decide +kernel)]; exact ⟨rfl, rfl⟩)
end Go.Proofs.YtijjegnedlhpfaaGreat
