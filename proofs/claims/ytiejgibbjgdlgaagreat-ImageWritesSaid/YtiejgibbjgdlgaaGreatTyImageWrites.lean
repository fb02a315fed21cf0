/- ImageWrites: whatever the input, the law returns true and the input reads as it did. No condition. -/
import Derived.Test.YtiejgibbjgdlgaaGreatTyImageWritesW
import Derived.Test.YtiejgibbjgdlgaaGreatTyImageWritesF
set_option linter.all false
namespace Go.Proofs.YtiejgibbjgdlgaaGreat
theorem over:Rows.imageWritesRow.holds Tryz.pinned (OpenSpec.ofChange Rows.imageWritesSpec):=
 OpenClaim.holds_of_wide 3 Tryz.f3 rfl rfl rfl rfl rfl rfl rfl ⟨rfl,rfl,rfl,rfl,rfl⟩ rfl rfl rfl rfl rfl imageWrites_named Tryz.func3 imageWrites_facts imageWrites_inst imageWrites_wrap
  (fun os started H enc _=>lifted os started H enc)
theorem imageWrites_holds:Rows.ImageWritesSaid:=over
end Go.Proofs.YtiejgibbjgdlgaaGreat
