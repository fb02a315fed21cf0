/- StoreSound: whatever the input, the law returns true and the input reads as it did. No condition. -/
import Derived.Test.YtijjegnedlhpfaaGreatTyStoreSoundW
import Derived.Test.YtijjegnedlhpfaaGreatTyStoreSoundF
set_option linter.all false
namespace Go.Proofs.YtijjegnedlhpfaaGreat
theorem over : Rows.storeSoundRow.holds Tryz.pinned (OpenSpec.ofChange Rows.storeSoundSpec) :=
  OpenClaim.holds_of_wide 4 Tryz.f4 rfl rfl rfl rfl rfl rfl rfl ⟨rfl, rfl, rfl, rfl, rfl⟩ rfl rfl rfl rfl rfl storeSound_named Tryz.func4 storeSound_facts storeSound_inst storeSound_wrap
    (fun os started H enc _ => lifted os started H enc)
theorem storeSound_holds : Rows.StoreSoundSaid := over
end Go.Proofs.YtijjegnedlhpfaaGreat
