/- SubmitKeeps: whatever the input, the law returns true and the input reads as it did. No condition. -/
import Derived.Test.YtgneliafoejmeaaGreatTySubmitKeepsW
import Derived.Test.YtgneliafoejmeaaGreatTySubmitKeepsF
set_option linter.all false
namespace Go.Proofs.YtgneliafoejmeaaGreat
theorem over:Rows.submitKeepsRow.holds Tryz.pinned (OpenSpec.ofChange Rows.submitKeepsSpec):=
  OpenClaim.holds_of_wide 3 Tryz.f3 rfl rfl rfl rfl rfl rfl rfl ⟨rfl,rfl,rfl,rfl,rfl⟩ rfl rfl rfl rfl rfl submitKeeps_named Tryz.func3 submitKeeps_facts submitKeeps_inst submitKeeps_wrap
    (fun os started H enc _=>lifted os started H enc)
theorem submitKeeps_holds:Rows.SubmitKeepsSaid:=over
end Go.Proofs.YtgneliafoejmeaaGreat
