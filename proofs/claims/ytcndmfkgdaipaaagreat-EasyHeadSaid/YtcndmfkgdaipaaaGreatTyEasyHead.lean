/- EasyHead: whatever the input, the law returns true and the input reads as it did. No condition. -/
import Derived.Test.YtcndmfkgdaipaaaGreatTyEasyHeadW
import Derived.Test.YtcndmfkgdaipaaaGreatTyEasyHeadF
set_option linter.all false
namespace Go.Proofs.YtcndmfkgdaipaaaGreat
theorem over:Rows.easyHeadRow.holds Tryz.pinned (OpenSpec.ofChange Rows.easyHeadSpec):=
 OpenClaim.holds_of_wide 4 Tryz.f4 rfl rfl rfl rfl rfl rfl rfl ⟨rfl,rfl,rfl,rfl,rfl⟩ rfl rfl rfl rfl rfl Fy Tryz.func4 EN Hm Hw
  (λb a H enc _=>lifted b a H enc)
theorem easyHead_holds:Rows.EasyHeadSaid:=over
end Go.Proofs.YtcndmfkgdaipaaaGreat
