/- CycleRuns: whatever the input, the law returns true and the input reads as it did. No condition. -/
import Derived.Test.YtcndmfkgdaipaaaGreatTyCycleRunsW
import Derived.Test.YtcndmfkgdaipaaaGreatTyCycleRunsF
set_option linter.all false
namespace Go.Proofs.YtcndmfkgdaipaaaGreat
theorem over:Rows.cycleRunsRow.holds Tryz.pinned (OpenSpec.ofChange Rows.cycleRunsSpec):=OpenClaim.holds_of_wide 6 Tryz.f6 rfl rfl rfl rfl rfl rfl rfl ⟨rfl,rfl,rfl,rfl,rfl⟩ rfl rfl rfl rfl rfl EI Tryz.func6 El FZ FE (λb a H enc _=>lifted b a H enc)
theorem cycleRuns_holds:Rows.CycleRunsSaid:=over
end Go.Proofs.YtcndmfkgdaipaaaGreat
