/- CycleStarts: whatever the input, the law returns true and the input reads as it did. No condition. -/
import Derived.Test.YtcndmfkgdaipaaaGreatTyCycleStartsW
import Derived.Test.YtcndmfkgdaipaaaGreatTyCycleStartsF
set_option linter.all false
namespace Go.Proofs.YtcndmfkgdaipaaaGreat
theorem over:Rows.cycleStartsRow.holds Tryz.pinned (OpenSpec.ofChange Rows.cycleStartsSpec):=
 OpenClaim.holds_of_wide 7 Tryz.f7 rfl rfl rfl rfl rfl rfl rfl ⟨rfl,rfl,rfl,rfl,rfl⟩ rfl rfl rfl rfl rfl zw Tryz.func7 Ar Bl Bx
  (λb a H enc _=>lifted b a H enc)
theorem cycleStarts_holds:Rows.CycleStartsSaid:=over
end Go.Proofs.YtcndmfkgdaipaaaGreat
