/- The closed facts of SubmitNil's row, each by itself. -/
import Derived.Test.YtghmmmglndpmoaaGreatRows
import Derived.JoinedOf
import Derived.KernelRfl
namespace Go.Proofs.YtghmmmglndpmoaaGreat
theorem and_t {a b : Bool} (h : a = true) (k : b = true) : (a && b) = true := by rw [h, k]; rfl
set_option maxHeartbeats 0 in
set_option maxRecDepth 100000 in
theorem submitNil_facts : joinedFacts Tryz.prog 3 Tryz.f3 Rows.submitNilSpec Rows.submitNilRow = true := by
  unfold joinedFacts
  repeat' (with_reducible refine and_t ?_ ?_)
  all_goals as_aux_lemma => kernel_rfl
theorem submitNil_named : Tryz.prog.funcNamed Rows.submitNilRow.func = some 3 := by kernel_rfl
theorem submitNil_inst : Tryz.f3.isInstance Tryz.prog Rows.submitNilRow.origin Rows.submitNilRow.targs := of_decide_eq_true (by kernel_rfl)
theorem submitNil_wrap : Tryz.f3.isWrapper Tryz.prog Rows.submitNilRow.wrapper Rows.submitNilRow.mainSum := by
  unfold Func.isWrapper; first | (rw [if_pos (by decide +kernel)]; kernel_rfl) | (rw [if_neg (by decide +kernel)]; exact ⟨rfl, rfl⟩)
end Go.Proofs.YtghmmmglndpmoaaGreat
