/- The closed facts of CycleRuns's row, each by itself. -/
import Derived.Test.YtcndmfkgdaipaaaGreatRows
import Derived.JoinedOf
import Derived.KernelRfl
set_option linter.all false
namespace Go.Proofs.YtcndmfkgdaipaaaGreat
theorem and_t{a b:Bool}(h:a=true)(k:b=true):(a&&b)=true:=by rw[h,k];rfl
set_option maxHeartbeats 0 in
set_option maxRecDepth 100000 in
theorem El:joinedFacts Tryz.prog 6 Tryz.f6 Rows.cycleRunsSpec Rows.cycleRunsRow=true:=by
 unfold joinedFacts
 repeat' (with_reducible refine and_t ?_ ?_)
 all_goals as_aux_lemma=>kernel_rfl
theorem EI:Tryz.prog.funcNamed Rows.cycleRunsRow.func=some 6:=by kernel_rfl
theorem FZ:Tryz.f6.isInstance Tryz.prog Rows.cycleRunsRow.origin Rows.cycleRunsRow.targs:=of_decide_eq_true (by kernel_rfl)
theorem FE:Tryz.f6.isWrapper Tryz.prog Rows.cycleRunsRow.wrapper Rows.cycleRunsRow.mainSum:=by unfold Func.isWrapper;first | (rw[if_pos (by decide +kernel)];kernel_rfl) | (rw[if_neg (by decide +kernel)];exact ⟨rfl,rfl⟩)
end Go.Proofs.YtcndmfkgdaipaaaGreat
