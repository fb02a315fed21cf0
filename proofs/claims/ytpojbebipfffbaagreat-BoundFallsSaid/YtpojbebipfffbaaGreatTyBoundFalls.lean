/- BoundFalls: whatever the input, the law returns true and the input reads as it did. No condition. -/
import Derived.Test.YtpojbebipfffbaaGreatTyBoundFallsW
import Derived.Test.YtpojbebipfffbaaGreatTyBoundFallsF
set_option linter.all false
namespace Go.Proofs.YtpojbebipfffbaaGreat
theorem Ub:Rows.boundFallsRow.holds Tryz.pinned (OpenSpec.ofChange Rows.boundFallsSpec):=OpenClaim.holds_of_wide 4 Tryz.f4 rfl rfl rfl rfl rfl rfl rfl ⟨rfl,rfl,rfl,rfl,rfl⟩ rfl rfl rfl rfl rfl CI Tryz.func4 Dr Eo Ew (λb a H enc _=>lifted b a H enc)
theorem boundFalls_holds:Rows.BoundFallsSaid:=Ub
end Go.Proofs.YtpojbebipfffbaaGreat
