/- ConserveSafe: whatever the input, the law returns true and the input reads as it did. No condition. -/
import Derived.Test.YtdfbphphacpkdaaGreatTyConserveSafeW
import Derived.Test.YtdfbphphacpkdaaGreatTyConserveSafeF
set_option linter.all false
namespace Go.Proofs.YtdfbphphacpkdaaGreat
theorem over:Rows.conserveSafeRow.holds Tryz.pinned (OpenSpec.ofChange Rows.conserveSafeSpec):=
 OpenClaim.holds_of_wide 4 Tryz.f4 rfl rfl rfl rfl rfl rfl rfl ⟨rfl,rfl,rfl,rfl,rfl⟩ rfl rfl rfl rfl rfl yc Tryz.func4 yC zk zX
  (λb a H enc _=>lifted b a H enc)
theorem conserveSafe_holds:Rows.ConserveSafeSaid:=over
end Go.Proofs.YtdfbphphacpkdaaGreat
