/- CycleTakes: whatever the input, the law returns true and the input reads as it did. No condition. -/
import Derived.Test.YtcndmfkgdaipaaaGreatTyCycleTakesW
import Derived.Test.YtcndmfkgdaipaaaGreatTyCycleTakesF
set_option linter.all false
namespace Go.Proofs.YtcndmfkgdaipaaaGreat
theorem over:Rows.cycleTakesRow.holds Tryz.pinned (OpenSpec.ofChange Rows.cycleTakesSpec):=
 OpenClaim.holds_of_wide 8 Tryz.f8 rfl rfl rfl rfl rfl rfl rfl ⟨rfl,rfl,rfl,rfl,rfl⟩ rfl rfl rfl rfl rfl Aw Tryz.func8 A_ Cg BT
  (λb a H enc _=>lifted b a H enc)
theorem cycleTakes_holds:Rows.CycleTakesSaid:=over
end Go.Proofs.YtcndmfkgdaipaaaGreat
