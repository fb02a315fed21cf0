/- SubmitNil: whatever the input, the law returns true and the input reads as it did. No condition. -/
import Derived.Test.YtghmmmglndpmoaaGreatTzSubmitNilW
import Derived.Test.YtghmmmglndpmoaaGreatTzSubmitNilF
namespace Go.Proofs.YtghmmmglndpmoaaGreat
theorem over : Rows.submitNilRow.holds Tryz.pinned (OpenSpec.ofChange Rows.submitNilSpec) :=
  OpenClaim.holds_of_wide 3 Tryz.f3 rfl rfl rfl rfl rfl rfl rfl ⟨rfl, rfl, rfl, rfl, rfl⟩ rfl rfl rfl rfl rfl submitNil_named Tryz.func3 submitNil_facts submitNil_inst submitNil_wrap
    (fun os started H enc _ => lifted os started H enc)
theorem submitNil_holds : Rows.SubmitNilSaid := over
end Go.Proofs.YtghmmmglndpmoaaGreat
