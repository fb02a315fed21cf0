/- AuditSound: whatever the input, the law returns true and the input reads as it did; the package variables hold what the program's text lays (tied). -/
import Derived.Test.YtffiheekdcaihaaDoorTzAuditSoundW
import Derived.Test.YtffiheekdcaihaaDoorTzAuditSoundF
import Derived.Test.YtffiheekdcaihaaDoorCards
import Derived.Test.YtffiheekdcaihaaDoorTie
import Derived.SevenTiedAt
set_option linter.all false
namespace Go.Proofs.YtffiheekdcaihaaDoor
set_option maxRecDepth 100000
theorem said : Rows.AuditSoundSaid :=
  OpenClaim.holds_of_cond 3 Tryd.f3 rfl rfl rfl rfl rfl rfl rfl ⟨rfl, rfl, rfl, rfl, rfl⟩ rfl rfl rfl rfl rfl auditSound_named Tryd.func3 auditSound_facts auditSound_inst auditSound_wrap
    (fun os started H enc _ F => by rw [OpenClaim.pre_eq_preRow]; exact lifted os started H enc F)
theorem plain (f : FuncId) (fn : Func) (hf : Tryd.pinned.checked.prog.funcNamed Rows.auditSoundRow.func = some f) (hfn : Tryd.pinned.checked.prog.funcs[f]? = some fn) :
    false = Tryd.pinned.checked.prog.looks [] ∧ ∀ (j : Nat) t, fn.params[j]? = some t → Tryd.pinned.checked.prog.wantsStandIn t = false := by
  obtain rfl : f = 3 := Option.some.inj (auditSound_named.symm.trans hf) |>.symm
  obtain rfl : fn = Tryd.f3 := (Option.some.inj (Tryd.func3.symm.trans hfn)).symm
  refine ⟨by kernel_rfl, fun j t ht => ?_⟩
  rw [Tryd.params3] at ht
  have hm : t ∈ [38] := by simpa using Array.mem_of_getElem? ht
  have hall : ([38].all fun u => !Tryd.prog.wantsStandIn u) = true := by kernel_rfl
  exact (show Tryd.prog.wantsStandIn t = false by simpa using List.all_eq_true.1 hall t hm)
theorem auditSound_holds : Rows.AuditSoundCardSaid :=
  Claim7.holds_tied_plain_at .later [] _ _ _ _ said (fun _ h => by cases h) (by kernel_rfl) (fun _ h => by cases h) auditSound_row_tie rfl ⟨rfl, rfl⟩ (by kernel_rfl) rfl plain (by kernel_rfl)
end Go.Proofs.YtffiheekdcaihaaDoor
