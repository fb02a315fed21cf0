/- The closed facts of BoundFalls's row, each by itself. -/
import Derived.Test.YtpojbebipfffbaaGreatRows
import Derived.JoinedOf
import Derived.KernelRfl
set_option linter.all false
namespace Go.Proofs.YtpojbebipfffbaaGreat
theorem and_t{a b:Bool}(h:a=true)(k:b=true):(a&&b)=true:=by rw[h,k];rfl
set_option maxHeartbeats 0 in
set_option maxRecDepth 100000 in
theorem Dr:joinedFacts Tryz.prog 4 Tryz.f4 Rows.boundFallsSpec Rows.boundFallsRow=true:=by
 unfold joinedFacts
 repeat' (with_reducible refine and_t ?_ ?_)
 all_goals as_aux_lemma=>kernel_rfl
theorem CI:Tryz.prog.funcNamed Rows.boundFallsRow.func=some 4:=by kernel_rfl
theorem Eo:Tryz.f4.isInstance Tryz.prog Rows.boundFallsRow.origin Rows.boundFallsRow.targs:=of_decide_eq_true (by kernel_rfl)
theorem Ew:Tryz.f4.isWrapper Tryz.prog Rows.boundFallsRow.wrapper Rows.boundFallsRow.mainSum:=by unfold Func.isWrapper;first | (rw[if_pos (by decide +kernel)];kernel_rfl) | (rw[if_neg (by decide +kernel)];exact ⟨rfl,rfl⟩)
end Go.Proofs.YtpojbebipfffbaaGreat
