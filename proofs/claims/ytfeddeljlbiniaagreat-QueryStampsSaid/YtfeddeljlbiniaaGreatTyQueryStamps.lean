/- QueryStamps: whatever the input, the law returns true and the input reads as it did. No condition. -/
import Derived.Test.YtfeddeljlbiniaaGreatTyQueryStampsW
import Derived.Test.YtfeddeljlbiniaaGreatTyQueryStampsF
set_option linter.all false
namespace Go.Proofs.YtfeddeljlbiniaaGreat
theorem over:Rows.queryStampsRow.holds Tryz.pinned (OpenSpec.ofChange Rows.queryStampsSpec):=
 OpenClaim.holds_of_wide 3 Tryz.f3 rfl rfl rfl rfl rfl rfl rfl ⟨rfl,rfl,rfl,rfl,rfl⟩ rfl rfl rfl rfl rfl queryStamps_named Tryz.func3 queryStamps_facts queryStamps_inst queryStamps_wrap
  (fun os started H enc _=>lifted os started H enc)
theorem queryStamps_holds:Rows.QueryStampsSaid:=over
end Go.Proofs.YtfeddeljlbiniaaGreat
