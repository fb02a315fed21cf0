/- The package variable audit.names, and audit.Name. -/
import Derived.Test.YtffiheekdcaihaaDoorTzPure
import Derived.Test.YtffiheekdcaihaaDoorProg
import Derived.Test.YtffiheekdcaihaaDoorDfwMp
import Derived.WalkKit
import Derived.KernelRfl
set_option linter.all false
namespace Go.Abs
open Go.Proofs
set_option maxRecDepth 100000
abbrev jobS : ByteArray := ⟨#[106, 111, 98]⟩
instance namesGl : Gl where
  ok Fz w := Fz 0 ∧ w.cell? ⟨0, 4, none⟩ = some (.string jobS)
  mono := fun h ⟨h1, h2⟩ => ⟨(h 0 h1).1, by rw [cell_heap (h 0 h1).2]; exact h2⟩
theorem name_walk (w : World) (hc : w.cell? ⟨0, 4, none⟩ = some (.string jobS)) : Calls Tryd.prog 11 #[.int .i64 4] w fun e w' => e = .returned (.string jobS) ∧ w' = w := by
  go_enter Tryd.func11, Tryd.ntmps11
  go_wp2
  go_ret
  exact ⟨rfl, rfl⟩
theorem audit_Name_ok (N : Nat) (p0 : Int) (r : ByteArray) (h : audit_Name N p0 = some r) : za9 Tryd.prog 11 [(I p0)] (.c (.lit (.string r))) := by
  unfold audit_Name at h
  split at h
  · rename_i hp
    subst hp
    cases h
    refine ⟨by kernel_rfl, fun M Fz w vs R hs hv => ?_⟩
    obtain ⟨x, rfl⟩ : ∃ x, vs = #[x] := by
      match vs, hs with
      | ⟨[x]⟩, _ => exact ⟨x, rfl⟩
    have hx := (hv 0 _ x rfl rfl).lit_inv
    subst hx
    refine (name_walk w R.gl.2).mono fun e w' he => ?_
    obtain ⟨rfl, rfl⟩ := he
    exact ⟨_, M, Fz, rfl, R, .c (.lit _), Evo.refl R⟩
  · cases h
end Go.Abs
