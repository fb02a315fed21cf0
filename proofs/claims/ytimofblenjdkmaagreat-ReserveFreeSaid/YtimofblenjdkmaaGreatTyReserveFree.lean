/- ReserveFree: whatever the input, the law returns true and the input reads as it did. No condition. -/
import Derived.Test.YtimofblenjdkmaaGreatTyReserveFreeW
import Derived.Test.YtimofblenjdkmaaGreatTyReserveFreeF
set_option linter.all false
namespace Go.Proofs.YtimofblenjdkmaaGreat
theorem over:Rows.reserveFreeRow.holds Tryz.pinned (OpenSpec.ofChange Rows.reserveFreeSpec):=
  OpenClaim.holds_of_wide 3 Tryz.f3 rfl rfl rfl rfl rfl rfl rfl ⟨rfl,rfl,rfl,rfl,rfl⟩ rfl rfl rfl rfl rfl reserveFree_named Tryz.func3 reserveFree_facts reserveFree_inst reserveFree_wrap
    (fun os started H enc _=>lifted os started H enc)
theorem reserveFree_holds:Rows.ReserveFreeSaid:=over
end Go.Proofs.YtimofblenjdkmaaGreat
