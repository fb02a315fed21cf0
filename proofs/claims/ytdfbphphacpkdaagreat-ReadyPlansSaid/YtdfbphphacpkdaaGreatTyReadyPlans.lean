/- ReadyPlans: whatever the input, the law returns true and the input reads as it did. No condition. -/
import Derived.Test.YtdfbphphacpkdaaGreatTyReadyPlansW
import Derived.Test.YtdfbphphacpkdaaGreatTyReadyPlansF
set_option linter.all false
namespace Go.Proofs.YtdfbphphacpkdaaGreat
theorem over:Rows.readyPlansRow.holds Tryz.pinned (OpenSpec.ofChange Rows.readyPlansSpec):=
 OpenClaim.holds_of_wide 3 Tryz.f3 rfl rfl rfl rfl rfl rfl rfl ⟨rfl,rfl,rfl,rfl,rfl⟩ rfl rfl rfl rfl rfl yq Tryz.func3 yo zG zA
  (λb a H enc _=>lifted b a H enc)
theorem readyPlans_holds:Rows.ReadyPlansSaid:=over
end Go.Proofs.YtdfbphphacpkdaaGreat
