/- StoreNil: whatever the input, the law returns true and the input reads as it did. No condition. -/
import Derived.Test.YtghmmmglndpmoaaGreatTzStoreNilW
import Derived.Test.YtghmmmglndpmoaaGreatTzStoreNilF
namespace Go.Proofs.YtghmmmglndpmoaaGreat
theorem over : Rows.storeNilRow.holds Tryz.pinned (OpenSpec.ofChange Rows.storeNilSpec) :=
  OpenClaim.holds_of_wide 4 Tryz.f4 rfl rfl rfl rfl rfl rfl rfl ⟨rfl, rfl, rfl, rfl, rfl⟩ rfl rfl rfl rfl rfl storeNil_named Tryz.func4 storeNil_facts storeNil_inst storeNil_wrap
    (fun os started H enc _ => lifted os started H enc)
theorem storeNil_holds : Rows.StoreNilSaid := over
end Go.Proofs.YtghmmmglndpmoaaGreat
