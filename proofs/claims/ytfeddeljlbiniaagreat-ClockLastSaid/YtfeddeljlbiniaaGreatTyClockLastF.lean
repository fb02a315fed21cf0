/- The closed facts of ClockLast's row, each by itself. -/
import Derived.Test.YtfeddeljlbiniaaGreatRows
import Derived.JoinedOf
import Derived.KernelRfl
set_option linter.all false
namespace Go.Proofs.YtfeddeljlbiniaaGreat
theorem and_t {a b:Bool} (h:a=true) (k:b=true):(a&&b)=true:=by rw [h,k]; rfl
set_option maxHeartbeats 0 in
set_option maxRecDepth 100000 in
theorem clockLast_facts:joinedFacts Tryz.prog 5 Tryz.f5 Rows.clockLastSpec Rows.clockLastRow=true:=by
 unfold joinedFacts
 repeat' (with_reducible refine and_t ?_ ?_)
 all_goals as_aux_lemma=>kernel_rfl
theorem clockLast_named:Tryz.prog.funcNamed Rows.clockLastRow.func=some 5:=by kernel_rfl
theorem clockLast_inst:Tryz.f5.isInstance Tryz.prog Rows.clockLastRow.origin Rows.clockLastRow.targs:=of_decide_eq_true (by kernel_rfl)
theorem clockLast_wrap:Tryz.f5.isWrapper Tryz.prog Rows.clockLastRow.wrapper Rows.clockLastRow.mainSum:=by
 unfold Func.isWrapper; first | (rw [if_pos (by decide +kernel)]; kernel_rfl) | (rw [if_neg (by decide +kernel)]; exact ⟨rfl,rfl⟩)
end Go.Proofs.YtfeddeljlbiniaaGreat
