/- The closed facts of CycleTakes's row, each by itself. -/
import Derived.Test.YtcndmfkgdaipaaaGreatRows
import Derived.JoinedOf
import Derived.KernelRfl
set_option linter.all false
namespace Go.Proofs.YtcndmfkgdaipaaaGreat
theorem and_t{a b:Bool}(h:a=true)(k:b=true):(a&&b)=true:=by rw[h,k];rfl
set_option maxHeartbeats 0 in
set_option maxRecDepth 100000 in
theorem A_:joinedFacts Tryz.prog 8 Tryz.f8 Rows.cycleTakesSpec Rows.cycleTakesRow=true:=by
 unfold joinedFacts
 repeat' (with_reducible refine and_t ?_ ?_)
 all_goals as_aux_lemma=>kernel_rfl
theorem Aw:Tryz.prog.funcNamed Rows.cycleTakesRow.func=some 8:=by kernel_rfl
theorem Cg:Tryz.f8.isInstance Tryz.prog Rows.cycleTakesRow.origin Rows.cycleTakesRow.targs:=of_decide_eq_true (by kernel_rfl)
theorem BT:Tryz.f8.isWrapper Tryz.prog Rows.cycleTakesRow.wrapper Rows.cycleTakesRow.mainSum:=by unfold Func.isWrapper;first | (rw[if_pos (by decide +kernel)];kernel_rfl) | (rw[if_neg (by decide +kernel)];exact ⟨rfl,rfl⟩)
end Go.Proofs.YtcndmfkgdaipaaaGreat
