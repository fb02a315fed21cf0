/- The closed facts of ConserveKeeps's row, each by itself. -/
import Derived.Test.YtcndmfkgdaipaaaGreatRows
import Derived.JoinedOf
import Derived.KernelRfl
set_option linter.all false
namespace Go.Proofs.YtcndmfkgdaipaaaGreat
theorem and_t{a b:Bool}(h:a=true)(k:b=true):(a&&b)=true:=by rw[h,k];rfl
set_option maxHeartbeats 0 in
set_option maxRecDepth 100000 in
theorem xc:joinedFacts Tryz.prog 3 Tryz.f3 Rows.conserveKeepsSpec Rows.conserveKeepsRow=true:=by
 unfold joinedFacts
 repeat' (with_reducible refine and_t ?_ ?_)
 all_goals as_aux_lemma=>kernel_rfl
theorem wS:Tryz.prog.funcNamed Rows.conserveKeepsRow.func=some 3:=by kernel_rfl
theorem zk:Tryz.f3.isInstance Tryz.prog Rows.conserveKeepsRow.origin Rows.conserveKeepsRow.targs:=of_decide_eq_true (by kernel_rfl)
theorem zo:Tryz.f3.isWrapper Tryz.prog Rows.conserveKeepsRow.wrapper Rows.conserveKeepsRow.mainSum:=by unfold Func.isWrapper;first | (rw[if_pos (by decide +kernel)];kernel_rfl) | (rw[if_neg (by decide +kernel)];exact ⟨rfl,rfl⟩)
end Go.Proofs.YtcndmfkgdaipaaaGreat
