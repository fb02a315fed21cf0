/- ConserveFirst: whatever the input, the law returns true and the input reads as it did. No condition. -/
import Derived.Test.YtdfbphphacpkdaaGreatTyConserveFirstW
import Derived.Test.YtdfbphphacpkdaaGreatTyConserveFirstF
set_option linter.all false
namespace Go.Proofs.YtdfbphphacpkdaaGreat
theorem over:Rows.conserveFirstRow.holds Tryz.pinned (OpenSpec.ofChange Rows.conserveFirstSpec):=
 OpenClaim.holds_of_wide 5 Tryz.f5 rfl rfl rfl rfl rfl rfl rfl ⟨rfl,rfl,rfl,rfl,rfl⟩ rfl rfl rfl rfl rfl wv Tryz.func5 xc yt xU
  (λb a H enc _=>lifted b a H enc)
theorem conserveFirst_holds:Rows.ConserveFirstSaid:=over
end Go.Proofs.YtdfbphphacpkdaaGreat
