/- The closed facts of StoreNil's row, each by itself. -/
import Derived.Test.YtghmmmglndpmoaaGreatRows
import Derived.JoinedOf
import Derived.KernelRfl
namespace Go.Proofs.YtghmmmglndpmoaaGreat
theorem and_t {a b : Bool} (h : a = true) (k : b = true) : (a && b) = true := by rw [h, k]; rfl
set_option maxHeartbeats 0 in
set_option maxRecDepth 100000 in
theorem storeNil_facts : joinedFacts Tryz.prog 4 Tryz.f4 Rows.storeNilSpec Rows.storeNilRow = true := by
  unfold joinedFacts
  repeat' (with_reducible refine and_t ?_ ?_)
  all_goals as_aux_lemma => kernel_rfl
theorem storeNil_named : Tryz.prog.funcNamed Rows.storeNilRow.func = some 4 := by kernel_rfl
theorem storeNil_inst : Tryz.f4.isInstance Tryz.prog Rows.storeNilRow.origin Rows.storeNilRow.targs := of_decide_eq_true (by kernel_rfl)
theorem storeNil_wrap : Tryz.f4.isWrapper Tryz.prog Rows.storeNilRow.wrapper Rows.storeNilRow.mainSum := by
  unfold Func.isWrapper; first | (rw [if_pos (by decide +kernel)]; kernel_rfl) | (rw [if_neg (by decide +kernel)]; exact ⟨rfl, rfl⟩)
end Go.Proofs.YtghmmmglndpmoaaGreat
