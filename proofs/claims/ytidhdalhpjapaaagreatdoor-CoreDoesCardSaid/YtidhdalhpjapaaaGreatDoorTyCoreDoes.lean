/- CoreDoes: whatever the input, the law returns true and the input reads as it did; the package variables hold what the program's text lays (tied). No condition. -/
import Derived.Test.YtidhdalhpjapaaaGreatDoorTyCoreDoesW
import Derived.Test.YtidhdalhpjapaaaGreatDoorTyCoreDoesF
import Derived.Test.YtidhdalhpjapaaaGreatDoorCards
import Derived.Test.YtidhdalhpjapaaaGreatDoorTie
import Derived.SevenTiedAt
set_option linter.all false
namespace Go.Proofs.YtidhdalhpjapaaaGreatDoor
set_option maxRecDepth 100000
theorem said:Rows.CoreDoesSaid:=
 OpenClaim.holds_of_cond 3 Tryz.f3 rfl rfl rfl rfl rfl rfl rfl ⟨rfl,rfl,rfl,rfl,rfl⟩ rfl rfl rfl rfl rfl tp Tryz.func3 Dl Ea El
  (λb a H enc _ F=>by rw[OpenClaim.pre_eq_preRow];exact lifted b a H enc F)
theorem plain(f:FuncId)(fn:Func)(e:Tryz.pinned.checked.prog.funcNamed Rows.coreDoesRow.func=some f)(b:Tryz.pinned.checked.prog.funcs[f]? = some fn) :
  false=Tryz.pinned.checked.prog.looks []/\∀(j:Nat) t,fn.params[j]? = some t->Tryz.pinned.checked.prog.wantsStandIn t=false:=by
 obtain rfl:f=3:=Option.some.inj (tp.symm.trans e) |>.symm;obtain rfl:fn=Tryz.f3:=(Option.some.inj (Tryz.func3.symm.trans b)).symm;refine ⟨by kernel_rfl,λj t d=>?_⟩;rw[Tryz.params3] at d;have g:t∈[38,39]:=by simpa using Array.mem_of_getElem? d
 have a:([38,39].all λu=>!Tryz.prog.wantsStandIn u)=true:=by kernel_rfl
 exact (show Tryz.prog.wantsStandIn t=false by simpa using List.all_eq_true.1 a t g)
theorem coreDoes_holds:Rows.CoreDoesCardSaid:=
 Claim7.holds_tied_plain_at .later [] _ _ _ _ said (λ_ h=>by cases h) (by kernel_rfl) (λ_ h=>by cases h) coreDoes_row_tie rfl ⟨rfl,rfl⟩ (by kernel_rfl) rfl plain (by kernel_rfl)
end Go.Proofs.YtidhdalhpjapaaaGreatDoor
