/- EasySafe: whatever the input, the law returns true and the input reads as it did. No condition. -/
import Derived.Test.YtcndmfkgdaipaaaGreatTyEasySafeW
import Derived.Test.YtcndmfkgdaipaaaGreatTyEasySafeF
set_option linter.all false
namespace Go.Proofs.YtcndmfkgdaipaaaGreat
theorem over:Rows.easySafeRow.holds Tryz.pinned (OpenSpec.ofChange Rows.easySafeSpec):=
 OpenClaim.holds_of_wide 5 Tryz.f5 rfl rfl rfl rfl rfl rfl rfl ⟨rfl,rfl,rfl,rfl,rfl⟩ rfl rfl rfl rfl rfl Ex Tryz.func5 FD GM G_
  (λb a H enc _=>lifted b a H enc)
theorem easySafe_holds:Rows.EasySafeSaid:=over
end Go.Proofs.YtcndmfkgdaipaaaGreat
