/- The closed facts of ShiftFrees's row, each by itself. -/
import Derived.Test.YtgneliafoejmeaaGreatRows
import Derived.JoinedOf
import Derived.KernelRfl
set_option linter.all false
namespace Go.Proofs.YtgneliafoejmeaaGreat
theorem and_t {a b:Bool} (h:a=true) (k:b=true):(a&&b)=true:=by rw [h,k]; rfl
set_option maxHeartbeats 0 in
set_option maxRecDepth 100000 in
theorem shiftFrees_facts:joinedFacts Tryz.prog 6 Tryz.f6 Rows.shiftFreesSpec Rows.shiftFreesRow=true:=by
  unfold joinedFacts
  repeat' (with_reducible refine and_t ?_ ?_)
  all_goals as_aux_lemma=>kernel_rfl
theorem shiftFrees_named:Tryz.prog.funcNamed Rows.shiftFreesRow.func=some 6:=by kernel_rfl
theorem shiftFrees_inst:Tryz.f6.isInstance Tryz.prog Rows.shiftFreesRow.origin Rows.shiftFreesRow.targs:=of_decide_eq_true (by kernel_rfl)
theorem shiftFrees_wrap:Tryz.f6.isWrapper Tryz.prog Rows.shiftFreesRow.wrapper Rows.shiftFreesRow.mainSum:=by
  unfold Func.isWrapper; first | (rw [if_pos (by decide +kernel)]; kernel_rfl) | (rw [if_neg (by decide +kernel)]; exact ⟨rfl,rfl⟩)
end Go.Proofs.YtgneliafoejmeaaGreat
