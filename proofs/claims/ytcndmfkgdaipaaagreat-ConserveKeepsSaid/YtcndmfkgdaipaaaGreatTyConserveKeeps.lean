/- ConserveKeeps: whatever the input, the law returns true and the input reads as it did. No condition. -/
import Derived.Test.YtcndmfkgdaipaaaGreatTyConserveKeepsW
import Derived.Test.YtcndmfkgdaipaaaGreatTyConserveKeepsF
set_option linter.all false
namespace Go.Proofs.YtcndmfkgdaipaaaGreat
theorem over:Rows.conserveKeepsRow.holds Tryz.pinned (OpenSpec.ofChange Rows.conserveKeepsSpec):=
 OpenClaim.holds_of_wide 3 Tryz.f3 rfl rfl rfl rfl rfl rfl rfl ⟨rfl,rfl,rfl,rfl,rfl⟩ rfl rfl rfl rfl rfl wS Tryz.func3 xc zk zo
  (λb a H enc _=>lifted b a H enc)
theorem conserveKeeps_holds:Rows.ConserveKeepsSaid:=over
end Go.Proofs.YtcndmfkgdaipaaaGreat
