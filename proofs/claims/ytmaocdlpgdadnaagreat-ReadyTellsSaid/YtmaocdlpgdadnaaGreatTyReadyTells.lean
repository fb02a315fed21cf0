/- ReadyTells: whatever the input, the law returns true and the input reads as it did. No condition. -/
import Derived.Test.YtmaocdlpgdadnaaGreatTyReadyTellsW
import Derived.Test.YtmaocdlpgdadnaaGreatTyReadyTellsF
set_option linter.all false
namespace Go.Proofs.YtmaocdlpgdadnaaGreat
theorem over:Rows.readyTellsRow.holds Tryz.pinned (OpenSpec.ofChange Rows.readyTellsSpec):=
 OpenClaim.holds_of_wide 3 Tryz.f3 rfl rfl rfl rfl rfl rfl rfl ⟨rfl,rfl,rfl,rfl,rfl⟩ rfl rfl rfl rfl rfl vr Tryz.func3 vh wz wv
  (λb a H enc _=>lifted b a H enc)
theorem readyTells_holds:Rows.ReadyTellsSaid:=over
end Go.Proofs.YtmaocdlpgdadnaaGreat
