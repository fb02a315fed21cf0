/- The closed facts of ChainDoes's row, each by itself. -/
import Derived.Test.YtidolomakdofhaaGreatDoorRows
import Derived.JoinedOf
import Derived.KernelRfl
set_option linter.all false
namespace Go.Proofs.YtidolomakdofhaaGreatDoor
theorem and_t{a b:Bool}(h:a=true)(k:b=true):(a&&b)=true:=by rw[h,k];rfl
set_option maxHeartbeats 0 in
set_option maxRecDepth 100000 in
theorem chainDoes_facts:joinedFacts Tryz.prog 3 Tryz.f3 Rows.chainDoesSpec Rows.chainDoesRow=true:=by
 unfold joinedFacts
 repeat' (with_reducible refine and_t ?_ ?_)
 all_goals as_aux_lemma=>kernel_rfl
theorem chainDoes_named:Tryz.prog.funcNamed Rows.chainDoesRow.func=some 3:=by kernel_rfl
theorem chainDoes_inst:Tryz.f3.isInstance Tryz.prog Rows.chainDoesRow.origin Rows.chainDoesRow.targs:=of_decide_eq_true (by kernel_rfl)
theorem chainDoes_wrap:Tryz.f3.isWrapper Tryz.prog Rows.chainDoesRow.wrapper Rows.chainDoesRow.mainSum:=by unfold Func.isWrapper;first | (rw[if_pos (by decide +kernel)];kernel_rfl) | (rw[if_neg (by decide +kernel)];exact ⟨rfl,rfl⟩)
end Go.Proofs.YtidolomakdofhaaGreatDoor
