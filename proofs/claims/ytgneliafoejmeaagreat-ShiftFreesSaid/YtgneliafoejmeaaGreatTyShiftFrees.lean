/- ShiftFrees: whatever the input, the law returns true and the input reads as it did. No condition. -/
import Derived.Test.YtgneliafoejmeaaGreatTyShiftFreesW
import Derived.Test.YtgneliafoejmeaaGreatTyShiftFreesF
set_option linter.all false
namespace Go.Proofs.YtgneliafoejmeaaGreat
theorem over:Rows.shiftFreesRow.holds Tryz.pinned (OpenSpec.ofChange Rows.shiftFreesSpec):=
  OpenClaim.holds_of_wide 6 Tryz.f6 rfl rfl rfl rfl rfl rfl rfl ⟨rfl,rfl,rfl,rfl,rfl⟩ rfl rfl rfl rfl rfl shiftFrees_named Tryz.func6 shiftFrees_facts shiftFrees_inst shiftFrees_wrap
    (fun os started H enc _=>lifted os started H enc)
theorem shiftFrees_holds:Rows.ShiftFreesSaid:=over
end Go.Proofs.YtgneliafoejmeaaGreat
