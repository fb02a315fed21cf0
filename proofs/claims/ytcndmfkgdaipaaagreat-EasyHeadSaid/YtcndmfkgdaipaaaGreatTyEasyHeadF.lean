/- The closed facts of EasyHead's row, each by itself. -/
import Derived.Test.YtcndmfkgdaipaaaGreatRows
import Derived.JoinedOf
import Derived.KernelRfl
set_option linter.all false
namespace Go.Proofs.YtcndmfkgdaipaaaGreat
theorem and_t{a b:Bool}(h:a=true)(k:b=true):(a&&b)=true:=by rw[h,k];rfl
set_option maxHeartbeats 0 in
set_option maxRecDepth 100000 in
theorem EN:joinedFacts Tryz.prog 4 Tryz.f4 Rows.easyHeadSpec Rows.easyHeadRow=true:=by
 unfold joinedFacts
 repeat' (with_reducible refine and_t ?_ ?_)
 all_goals as_aux_lemma=>kernel_rfl
theorem Fy:Tryz.prog.funcNamed Rows.easyHeadRow.func=some 4:=by kernel_rfl
theorem Hm:Tryz.f4.isInstance Tryz.prog Rows.easyHeadRow.origin Rows.easyHeadRow.targs:=of_decide_eq_true (by kernel_rfl)
theorem Hw:Tryz.f4.isWrapper Tryz.prog Rows.easyHeadRow.wrapper Rows.easyHeadRow.mainSum:=by unfold Func.isWrapper;first | (rw[if_pos (by decide +kernel)];kernel_rfl) | (rw[if_neg (by decide +kernel)];exact ⟨rfl,rfl⟩)
end Go.Proofs.YtcndmfkgdaipaaaGreat
