/- The closed facts of BoundHolds's row, each by itself. -/
import Derived.Test.YtpojbebipfffbaaGreatRows
import Derived.JoinedOf
import Derived.KernelRfl
set_option linter.all false
namespace Go.Proofs.YtpojbebipfffbaaGreat
theorem and_t{a b:Bool}(h:a=true)(k:b=true):(a&&b)=true:=by rw[h,k];rfl
set_option maxHeartbeats 0 in
set_option maxRecDepth 100000 in
theorem Ej:joinedFacts Tryz.prog 3 Tryz.f3 Rows.boundHoldsSpec Rows.boundHoldsRow=true:=by
 unfold joinedFacts
 repeat' (with_reducible refine and_t ?_ ?_)
 all_goals as_aux_lemma=>kernel_rfl
theorem Ep:Tryz.prog.funcNamed Rows.boundHoldsRow.func=some 3:=by kernel_rfl
theorem Fu:Tryz.f3.isInstance Tryz.prog Rows.boundHoldsRow.origin Rows.boundHoldsRow.targs:=of_decide_eq_true (by kernel_rfl)
theorem FL:Tryz.f3.isWrapper Tryz.prog Rows.boundHoldsRow.wrapper Rows.boundHoldsRow.mainSum:=by unfold Func.isWrapper;first|(rw[if_pos (by decide+kernel)];kernel_rfl)|(rw[if_neg (by decide+kernel)];exact⟨rfl,rfl⟩)
end Go.Proofs.YtpojbebipfffbaaGreat
