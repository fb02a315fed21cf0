/- The closed facts of EasySafe's row, each by itself. -/
import Derived.Test.YtcndmfkgdaipaaaGreatRows
import Derived.JoinedOf
import Derived.KernelRfl
set_option linter.all false
namespace Go.Proofs.YtcndmfkgdaipaaaGreat
theorem and_t{a b:Bool}(h:a=true)(k:b=true):(a&&b)=true:=by rw[h,k];rfl
set_option maxHeartbeats 0 in
set_option maxRecDepth 100000 in
theorem FD:joinedFacts Tryz.prog 5 Tryz.f5 Rows.easySafeSpec Rows.easySafeRow=true:=by
 unfold joinedFacts
 repeat' (with_reducible refine and_t ?_ ?_)
 all_goals as_aux_lemma=>kernel_rfl
theorem Ex:Tryz.prog.funcNamed Rows.easySafeRow.func=some 5:=by kernel_rfl
theorem GM:Tryz.f5.isInstance Tryz.prog Rows.easySafeRow.origin Rows.easySafeRow.targs:=of_decide_eq_true (by kernel_rfl)
theorem G_:Tryz.f5.isWrapper Tryz.prog Rows.easySafeRow.wrapper Rows.easySafeRow.mainSum:=by unfold Func.isWrapper;first | (rw[if_pos (by decide +kernel)];kernel_rfl) | (rw[if_neg (by decide +kernel)];exact ⟨rfl,rfl⟩)
end Go.Proofs.YtcndmfkgdaipaaaGreat
