/- The closed facts of ReadyPlans's row, each by itself. -/
import Derived.Test.YtdfbphphacpkdaaGreatRows
import Derived.JoinedOf
import Derived.KernelRfl
set_option linter.all false
namespace Go.Proofs.YtdfbphphacpkdaaGreat
theorem and_t{a b:Bool}(h:a=true)(k:b=true):(a&&b)=true:=by rw[h,k];rfl
set_option maxHeartbeats 0 in
set_option maxRecDepth 100000 in
theorem yo:joinedFacts Tryz.prog 3 Tryz.f3 Rows.readyPlansSpec Rows.readyPlansRow=true:=by
 unfold joinedFacts
 repeat' (with_reducible refine and_t ?_ ?_)
 all_goals as_aux_lemma=>kernel_rfl
theorem yq:Tryz.prog.funcNamed Rows.readyPlansRow.func=some 3:=by kernel_rfl
theorem zG:Tryz.f3.isInstance Tryz.prog Rows.readyPlansRow.origin Rows.readyPlansRow.targs:=of_decide_eq_true (by kernel_rfl)
theorem zA:Tryz.f3.isWrapper Tryz.prog Rows.readyPlansRow.wrapper Rows.readyPlansRow.mainSum:=by unfold Func.isWrapper;first | (rw[if_pos (by decide +kernel)];kernel_rfl) | (rw[if_neg (by decide +kernel)];exact ⟨rfl,rfl⟩)
end Go.Proofs.YtdfbphphacpkdaaGreat
