/- The closed facts of ShiftBack's row, each by itself. -/
import Derived.Test.YtgneliafoejmeaaGreatRows
import Derived.JoinedOf
import Derived.KernelRfl
set_option linter.all false
namespace Go.Proofs.YtgneliafoejmeaaGreat
theorem and_t {a b:Bool} (h:a=true) (k:b=true):(a&&b)=true:=by rw [h,k]; rfl
set_option maxHeartbeats 0 in
set_option maxRecDepth 100000 in
theorem shiftBack_facts:joinedFacts Tryz.prog 4 Tryz.f4 Rows.shiftBackSpec Rows.shiftBackRow=true:=by
  unfold joinedFacts
  repeat' (with_reducible refine and_t ?_ ?_)
  all_goals as_aux_lemma=>kernel_rfl
theorem shiftBack_named:Tryz.prog.funcNamed Rows.shiftBackRow.func=some 4:=by kernel_rfl
theorem shiftBack_inst:Tryz.f4.isInstance Tryz.prog Rows.shiftBackRow.origin Rows.shiftBackRow.targs:=of_decide_eq_true (by kernel_rfl)
theorem shiftBack_wrap:Tryz.f4.isWrapper Tryz.prog Rows.shiftBackRow.wrapper Rows.shiftBackRow.mainSum:=by
  unfold Func.isWrapper; first | (rw [if_pos (by decide +kernel)]; kernel_rfl) | (rw [if_neg (by decide +kernel)]; exact ⟨rfl,rfl⟩)
end Go.Proofs.YtgneliafoejmeaaGreat
