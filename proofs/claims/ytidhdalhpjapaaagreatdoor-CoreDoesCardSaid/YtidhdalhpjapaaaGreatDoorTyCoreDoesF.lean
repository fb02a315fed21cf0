/- The closed facts of CoreDoes's row, each by itself. -/
import Derived.Test.YtidhdalhpjapaaaGreatDoorRows
import Derived.JoinedOf
import Derived.KernelRfl
set_option linter.all false
namespace Go.Proofs.YtidhdalhpjapaaaGreatDoor
theorem and_t{a b:Bool}(h:a=true)(k:b=true):(a&&b)=true:=by rw[h,k];rfl
set_option maxHeartbeats 0 in
set_option maxRecDepth 100000 in
theorem Dl:joinedFacts Tryz.prog 3 Tryz.f3 Rows.coreDoesSpec Rows.coreDoesRow=true:=by
 unfold joinedFacts
 repeat' (with_reducible refine and_t ?_ ?_)
 all_goals as_aux_lemma=>kernel_rfl
theorem tp:Tryz.prog.funcNamed Rows.coreDoesRow.func=some 3:=by kernel_rfl
theorem Ea:Tryz.f3.isInstance Tryz.prog Rows.coreDoesRow.origin Rows.coreDoesRow.targs:=of_decide_eq_true (by kernel_rfl)
theorem El:Tryz.f3.isWrapper Tryz.prog Rows.coreDoesRow.wrapper Rows.coreDoesRow.mainSum:=by unfold Func.isWrapper;first | (rw[if_pos (by decide +kernel)];kernel_rfl) | (rw[if_neg (by decide +kernel)];exact ⟨rfl,rfl⟩)
end Go.Proofs.YtidhdalhpjapaaaGreatDoor
