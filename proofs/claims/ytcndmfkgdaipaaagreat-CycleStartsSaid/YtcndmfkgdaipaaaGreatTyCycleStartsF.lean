/- The closed facts of CycleStarts's row, each by itself. -/
import Derived.Test.YtcndmfkgdaipaaaGreatRows
import Derived.JoinedOf
import Derived.KernelRfl
set_option linter.all false
namespace Go.Proofs.YtcndmfkgdaipaaaGreat
theorem and_t{a b:Bool}(h:a=true)(k:b=true):(a&&b)=true:=by rw[h,k];rfl
set_option maxHeartbeats 0 in
set_option maxRecDepth 100000 in
theorem Ar:joinedFacts Tryz.prog 7 Tryz.f7 Rows.cycleStartsSpec Rows.cycleStartsRow=true:=by
 unfold joinedFacts
 repeat' (with_reducible refine and_t ?_ ?_)
 all_goals as_aux_lemma=>kernel_rfl
theorem zw:Tryz.prog.funcNamed Rows.cycleStartsRow.func=some 7:=by kernel_rfl
theorem Bl:Tryz.f7.isInstance Tryz.prog Rows.cycleStartsRow.origin Rows.cycleStartsRow.targs:=of_decide_eq_true (by kernel_rfl)
theorem Bx:Tryz.f7.isWrapper Tryz.prog Rows.cycleStartsRow.wrapper Rows.cycleStartsRow.mainSum:=by unfold Func.isWrapper;first | (rw[if_pos (by decide +kernel)];kernel_rfl) | (rw[if_neg (by decide +kernel)];exact ⟨rfl,rfl⟩)
end Go.Proofs.YtcndmfkgdaipaaaGreat
