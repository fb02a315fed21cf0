/- The closed facts of ConserveSafe's row, each by itself. -/
import Derived.Test.YtdfbphphacpkdaaGreatRows
import Derived.JoinedOf
import Derived.KernelRfl
set_option linter.all false
namespace Go.Proofs.YtdfbphphacpkdaaGreat
theorem and_t{a b:Bool}(h:a=true)(k:b=true):(a&&b)=true:=by rw[h,k];rfl
set_option maxHeartbeats 0 in
set_option maxRecDepth 100000 in
theorem yC:joinedFacts Tryz.prog 4 Tryz.f4 Rows.conserveSafeSpec Rows.conserveSafeRow=true:=by
 unfold joinedFacts
 repeat' (with_reducible refine and_t ?_ ?_)
 all_goals as_aux_lemma=>kernel_rfl
theorem yc:Tryz.prog.funcNamed Rows.conserveSafeRow.func=some 4:=by kernel_rfl
theorem zk:Tryz.f4.isInstance Tryz.prog Rows.conserveSafeRow.origin Rows.conserveSafeRow.targs:=of_decide_eq_true (by kernel_rfl)
theorem zX:Tryz.f4.isWrapper Tryz.prog Rows.conserveSafeRow.wrapper Rows.conserveSafeRow.mainSum:=by unfold Func.isWrapper;first | (rw[if_pos (by decide +kernel)];kernel_rfl) | (rw[if_neg (by decide +kernel)];exact ⟨rfl,rfl⟩)
end Go.Proofs.YtdfbphphacpkdaaGreat
