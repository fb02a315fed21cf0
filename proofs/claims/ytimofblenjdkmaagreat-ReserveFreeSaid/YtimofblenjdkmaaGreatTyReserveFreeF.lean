/- The closed facts of ReserveFree's row, each by itself. -/
import Derived.Test.YtimofblenjdkmaaGreatRows
import Derived.JoinedOf
import Derived.KernelRfl
set_option linter.all false
namespace Go.Proofs.YtimofblenjdkmaaGreat
theorem and_t {a b:Bool} (h:a=true) (k:b=true):(a&&b)=true:=by rw [h,k]; rfl
set_option maxHeartbeats 0 in
set_option maxRecDepth 100000 in
theorem reserveFree_facts:joinedFacts Tryz.prog 3 Tryz.f3 Rows.reserveFreeSpec Rows.reserveFreeRow=true:=by
  unfold joinedFacts
  repeat' (with_reducible refine and_t ?_ ?_)
  all_goals as_aux_lemma=>kernel_rfl
theorem reserveFree_named:Tryz.prog.funcNamed Rows.reserveFreeRow.func=some 3:=by kernel_rfl
theorem reserveFree_inst:Tryz.f3.isInstance Tryz.prog Rows.reserveFreeRow.origin Rows.reserveFreeRow.targs:=of_decide_eq_true (by kernel_rfl)
theorem reserveFree_wrap:Tryz.f3.isWrapper Tryz.prog Rows.reserveFreeRow.wrapper Rows.reserveFreeRow.mainSum:=by
  unfold Func.isWrapper; first | (rw [if_pos (by decide +kernel)]; kernel_rfl) | (rw [if_neg (by decide +kernel)]; exact ⟨rfl,rfl⟩)
end Go.Proofs.YtimofblenjdkmaaGreat
