/- BoundHolds: whatever the input, the law returns true and the input reads as it did. -/
import Derived.Test.YtpojbebipfffbaaGreatWkB
import Derived.Test.YtpojbebipfffbaaGreatLawE
import Derived.Test.YtpojbebipfffbaaGreatFwH
import Derived.Test.YtpojbebipfffbaaGreatRows
import Derived.WalkKit
import Derived.ProofKit
import Derived.OpenShut
import Derived.ShutString
import Derived.ChangeOld
import Derived.Below
set_option linter.all false
namespace Go.Proofs.YtpojbebipfffbaaGreat
open Go.ChangeShapes Go.WideShapes Go.ChangeAt Go.RowKit Go.Abs
set_option linter.unusedVariables false
set_option maxRecDepth 100000
theorem own:ownKnob Tryz.prog.godebug=none:=by kernel_rfl
theorem laidOut:laidOutB Tryz.prog=true:=by kernel_rfl
theorem shape0:gq Tryz.prog 20 38=some (shT 9):=by kernel_rfl
theorem law_true(a:TT 9):Pure Tryz.prog 3 [dM.enc (.st 9) a] (B true):=oq 5000 (a,()) true (Go.Plain.UM a)
theorem lifted(os:Os)(a:os.Started)(H:Type)(enc:TypeId×Value->H):ReturnsInHanded {} Tryz.checked os 3 .any (Rows.boundHoldsSpec.pre6 enc Tryz.prog Tryz.f3 Rows.boundHoldsRow.domain false) (Rows.boundHoldsSpec.post enc Tryz.prog Tryz.f3 false true false false):=by refine returnsInHanded_of_change (C:=Tryz.checked) own a (by kernel_rfl) Tryz.func3 (ChangeSpec.witness6 (enc:=enc) (C:=Tryz.checked) false ⟨#[],#[.agg #[.slice none 0 0,.slice none 0 0,.slice none 0 0,.int .i64 0,.int .i64 0,.int .i64 0,.int .i64 0,.int .i64 0,.int .i64 0,.int .i64 0,.int .i64 0,.int .i64 0,.int .i64 0,.int .i64 0,.int .i64 0,.int .i64 0,.int .i64 0,.int .i64 0,.int .i64 0,.int .i64 0,.int .i64 0,.slice none 0 0,.slice none 0 0,.slice none 0 0,.slice none 0 0,.slice none 0 0,.int .i64 0]],[]⟩ 8 (by kernel_rfl) (by kernel_rfl) (by kernel_rfl) (by kernel_rfl)) ?_;intro Γ k args ds gs r b F G _;have f:∀(j:Nat) t v,Tryz.f3.params[j]? =some t->args[j]? =some v->Value.okWide Tryz.prog Γ .any k t v:=b;have u:=F;obtain⟨p,q,l,P,rfl,Η,R⟩:=F;have K:DataW.TrodAll enc Tryz.prog Γ 0 (λ_=>true) true Tryz.f3.params.toList args.toList ds p:=l;rw[Tryz.params3]at K f;obtain⟨L,S,d0,T,p0,q0,s,rfl,rfl,M,Ζ⟩:=trodAll_cons K;obtain⟨rfl,rfl,rfl⟩:=trodAll_nil Ζ;obtain rfl:args=#[L]:=by{cases args;simp_all};obtain⟨rfl,rfl⟩:=trodVars_none P;obtain⟨Ε,rfl,w⟩:=okWide_struct Tryz.underlying38 (f 0 38 L rfl rfl);have N:=M;have y:∀x∈p0,x.block<Γ.heap.size:=by{obtain⟨m,Α⟩:=N;exact DataW.trod_lt m _ _ _ Α};obtain⟨g,z⟩:=M;obtain⟨Β,n⟩:=Vo 20 g 38 _ _ _ _ z shape0;obtain⟨a0,A⟩:=arg_st 9 n;clear l b;refine(law_pure (law_true a0) rfl (λi d v E O=>by match i with|0=>simp at E O;subst E O;exact A|i+1=>simp at E) trivial).mono λe W' ⟨he,o⟩=>?_;subst he;exact⟨_,rfl,_,_,_,[],_,[],u,trodAll_mk1 (shut_bool Tryz.underlying4 _),(trodAll_cons_mk (Below.trod laidOut (by kernel_rfl) (of_decide_eq_true (by kernel_rfl)) N o y) trodAll_mk0),rfl,o.frame _,λh=>by cases h⟩
end Go.Proofs.YtpojbebipfffbaaGreat
