/- The closed facts of AuditSound's row, each by itself. -/
import Derived.Test.YtffiheekdcaihaaDoorRows
import Derived.JoinedOf
import Derived.KernelRfl
set_option linter.all false
namespace Go.Proofs.YtffiheekdcaihaaDoor
theorem and_t {a b : Bool} (h : a = true) (k : b = true) : (a && b) = true := by rw [h, k]; rfl
set_option maxHeartbeats 0 in
set_option maxRecDepth 100000 in
theorem auditSound_facts : joinedFacts Tryd.prog 3 Tryd.f3 Rows.auditSoundSpec Rows.auditSoundRow = true := by
  unfold joinedFacts
  repeat' (with_reducible refine and_t ?_ ?_)
  all_goals as_aux_lemma => kernel_rfl
theorem auditSound_named : Tryd.prog.funcNamed Rows.auditSoundRow.func = some 3 := by kernel_rfl
theorem auditSound_inst : Tryd.f3.isInstance Tryd.prog Rows.auditSoundRow.origin Rows.auditSoundRow.targs := of_decide_eq_true (by kernel_rfl)
theorem auditSound_wrap : Tryd.f3.isWrapper Tryd.prog Rows.auditSoundRow.wrapper Rows.auditSoundRow.mainSum := by
  unfold Func.isWrapper; first | (rw [if_pos (by decide +kernel)]; kernel_rfl) | (rw [if_neg (by decide +kernel)]; exact ⟨rfl, rfl⟩)
end Go.Proofs.YtffiheekdcaihaaDoor
