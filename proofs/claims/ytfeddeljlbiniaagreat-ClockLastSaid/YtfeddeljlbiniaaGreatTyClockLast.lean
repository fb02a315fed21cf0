/- ClockLast: whatever the input, the law returns true and the input reads as it did. No condition. -/
import Derived.Test.YtfeddeljlbiniaaGreatTyClockLastW
import Derived.Test.YtfeddeljlbiniaaGreatTyClockLastF
set_option linter.all false
namespace Go.Proofs.YtfeddeljlbiniaaGreat
theorem over:Rows.clockLastRow.holds Tryz.pinned (OpenSpec.ofChange Rows.clockLastSpec):=
 OpenClaim.holds_of_wide 5 Tryz.f5 rfl rfl rfl rfl rfl rfl rfl ⟨rfl,rfl,rfl,rfl,rfl⟩ rfl rfl rfl rfl rfl clockLast_named Tryz.func5 clockLast_facts clockLast_inst clockLast_wrap
  (fun os started H enc _=>lifted os started H enc)
theorem clockLast_holds:Rows.ClockLastSaid:=over
end Go.Proofs.YtfeddeljlbiniaaGreat
