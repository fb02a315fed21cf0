/- The closed facts of ReadyTells's row, each by itself. -/
import Derived.Test.YtmaocdlpgdadnaaGreatRows
import Derived.JoinedOf
import Derived.KernelRfl
set_option linter.all false
namespace Go.Proofs.YtmaocdlpgdadnaaGreat
theorem YS{a b:Bool}(h:a=true)(k:b=true):(a&&b)=true:=by rw[h,k];rfl
set_option maxHeartbeats 0 in
set_option maxRecDepth 100000 in
theorem vh:joinedFacts Tryz.prog 3 Tryz.f3 Rows.readyTellsSpec Rows.readyTellsRow=true:=by
 unfold joinedFacts
 repeat' (with_reducible refine YS ?_ ?_)
 all_goals as_aux_lemma=>kernel_rfl
theorem vr:Tryz.prog.funcNamed Rows.readyTellsRow.func=some 3:=by kernel_rfl
theorem wz:Tryz.f3.isInstance Tryz.prog Rows.readyTellsRow.origin Rows.readyTellsRow.targs:=of_decide_eq_true (by kernel_rfl)
theorem wv:Tryz.f3.isWrapper Tryz.prog Rows.readyTellsRow.wrapper Rows.readyTellsRow.mainSum:=by unfold Func.isWrapper;first | (rw[if_pos (by decide +kernel)];kernel_rfl) | (rw[if_neg (by decide +kernel)];exact ⟨rfl,rfl⟩)
end Go.Proofs.YtmaocdlpgdadnaaGreat
