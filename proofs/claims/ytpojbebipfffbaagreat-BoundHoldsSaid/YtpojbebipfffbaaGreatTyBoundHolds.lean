/- BoundHolds: whatever the input, the law returns true and the input reads as it did. No condition. -/
import Derived.Test.YtpojbebipfffbaaGreatTyBoundHoldsW
import Derived.Test.YtpojbebipfffbaaGreatTyBoundHoldsF
set_option linter.all false
namespace Go.Proofs.YtpojbebipfffbaaGreat
theorem Ze:Rows.boundHoldsRow.holds Tryz.pinned (OpenSpec.ofChange Rows.boundHoldsSpec):=OpenClaim.holds_of_wide 3 Tryz.f3 rfl rfl rfl rfl rfl rfl rfl ⟨rfl,rfl,rfl,rfl,rfl⟩ rfl rfl rfl rfl rfl Ep Tryz.func3 Ej Fu FL (λb a H enc _=>lifted b a H enc)
theorem boundHolds_holds:Rows.BoundHoldsSaid:=Ze
end Go.Proofs.YtpojbebipfffbaaGreat
