/- ChainDoes: whatever the input, the law returns true and the input reads as it did; the package variables hold what the program's text lays (tied). No condition. -/
import Derived.Test.YtidolomakdofhaaGreatDoorTyChainDoesW
import Derived.Test.YtidolomakdofhaaGreatDoorTyChainDoesF
import Derived.Test.YtidolomakdofhaaGreatDoorCards
import Derived.Test.YtidolomakdofhaaGreatDoorTie
import Derived.SevenTiedAt
set_option linter.all false
namespace Go.Proofs.YtidolomakdofhaaGreatDoor
set_option maxRecDepth 100000
theorem said:Rows.ChainDoesSaid:=
 OpenClaim.holds_of_cond 3 Tryz.f3 rfl rfl rfl rfl rfl rfl rfl ⟨rfl,rfl,rfl,rfl,rfl⟩ rfl rfl rfl rfl rfl chainDoes_named Tryz.func3 chainDoes_facts chainDoes_inst chainDoes_wrap
  (λos started H enc _ F=>by rw[OpenClaim.pre_eq_preRow];exact lifted os started H enc F)
theorem plain(f:FuncId)(fn:Func)(hf:Tryz.pinned.checked.prog.funcNamed Rows.chainDoesRow.func=some f)(hfn:Tryz.pinned.checked.prog.funcs[f]? = some fn) :
  false=Tryz.pinned.checked.prog.looks []/\∀(j:Nat) t,fn.params[j]? = some t->Tryz.pinned.checked.prog.wantsStandIn t=false:=by
 obtain rfl:f=3:=Option.some.inj (chainDoes_named.symm.trans hf) |>.symm;obtain rfl:fn=Tryz.f3:=(Option.some.inj (Tryz.func3.symm.trans hfn)).symm;refine ⟨by kernel_rfl,λj t ht=>?_⟩;rw[Tryz.params3] at ht;have hm:t∈[38,39]:=by simpa using Array.mem_of_getElem? ht
 have hall:([38,39].all λu=>!Tryz.prog.wantsStandIn u)=true:=by kernel_rfl
 exact (show Tryz.prog.wantsStandIn t=false by simpa using List.all_eq_true.1 hall t hm)
theorem chainDoes_holds:Rows.ChainDoesCardSaid:=
 Claim7.holds_tied_plain_at .later [] _ _ _ _ said (λ_ h=>by cases h) (by kernel_rfl) (λ_ h=>by cases h) chainDoes_row_tie rfl ⟨rfl,rfl⟩ (by kernel_rfl) rfl plain (by kernel_rfl)
end Go.Proofs.YtidolomakdofhaaGreatDoor
