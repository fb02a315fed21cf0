/- The closed facts of ConserveFirst's row, each by itself. -/
import Derived.Test.YtdfbphphacpkdaaGreatRows
import Derived.JoinedOf
import Derived.KernelRfl
set_option linter.all false
namespace Go.Proofs.YtdfbphphacpkdaaGreat
theorem and_t{a b:Bool}(h:a=true)(k:b=true):(a&&b)=true:=by rw[h,k];rfl
set_option maxHeartbeats 0 in
set_option maxRecDepth 100000 in
theorem xc:joinedFacts Tryz.prog 5 Tryz.f5 Rows.conserveFirstSpec Rows.conserveFirstRow=true:=by
 unfold joinedFacts
 repeat' (with_reducible refine and_t ?_ ?_)
 all_goals as_aux_lemma=>kernel_rfl
theorem wv:Tryz.prog.funcNamed Rows.conserveFirstRow.func=some 5:=by kernel_rfl
theorem yt:Tryz.f5.isInstance Tryz.prog Rows.conserveFirstRow.origin Rows.conserveFirstRow.targs:=of_decide_eq_true (by kernel_rfl)
theorem xU:Tryz.f5.isWrapper Tryz.prog Rows.conserveFirstRow.wrapper Rows.conserveFirstRow.mainSum:=by unfold Func.isWrapper;first | (rw[if_pos (by decide +kernel)];kernel_rfl) | (rw[if_neg (by decide +kernel)];exact ⟨rfl,rfl⟩)
end Go.Proofs.YtdfbphphacpkdaaGreat
