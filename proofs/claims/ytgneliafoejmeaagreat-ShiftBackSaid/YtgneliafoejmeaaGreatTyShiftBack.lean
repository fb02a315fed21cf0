/- ShiftBack: whatever the input, the law returns true and the input reads as it did. No condition. -/
import Derived.Test.YtgneliafoejmeaaGreatTyShiftBackW
import Derived.Test.YtgneliafoejmeaaGreatTyShiftBackF
set_option linter.all false
namespace Go.Proofs.YtgneliafoejmeaaGreat
theorem over:Rows.shiftBackRow.holds Tryz.pinned (OpenSpec.ofChange Rows.shiftBackSpec):=
  OpenClaim.holds_of_wide 4 Tryz.f4 rfl rfl rfl rfl rfl rfl rfl ⟨rfl,rfl,rfl,rfl,rfl⟩ rfl rfl rfl rfl rfl shiftBack_named Tryz.func4 shiftBack_facts shiftBack_inst shiftBack_wrap
    (fun os started H enc _=>lifted os started H enc)
theorem shiftBack_holds:Rows.ShiftBackSaid:=over
end Go.Proofs.YtgneliafoejmeaaGreat
