/- BoundFalls: whatever the input, the law returns true and the input reads as it did. -/
import Derived.Test.YtpojbebipfffbaaGreatWkB
import Derived.Test.YtpojbebipfffbaaGreatLawE
import Derived.Test.YtpojbebipfffbaaGreatFwH
import Derived.Test.YtpojbebipfffbaaGreatRows
import Derived.WalkKit
import Derived.ProofKit
import Derived.OpenShut
import Derived.ShutString
import Derived.ChangeOld
import Derived.Below
set_option linter.all false
namespace Go.Proofs.YtpojbebipfffbaaGreat
open Go.ChangeShapes Go.WideShapes Go.ChangeAt Go.RowKit Go.Abs
set_option linter.unusedVariables false
set_option maxRecDepth 100000
theorem own:ownKnob Tryz.prog.godebug=none:=by kernel_rfl
theorem laidOut:laidOutB Tryz.prog=true:=by kernel_rfl
theorem shape0:eY Tryz.prog 20 38=some (shT 9):=by kernel_rfl
theorem shape1:eY Tryz.prog 20 5=some ([shC shT (.int .u8)]):=by kernel_rfl
theorem law_true(a:TT 9)(b:(.int .u8:CC).dn):Pure Tryz.prog 4 [dE.enc (.st 9) a,dE.enc (.c (.int .u8)) b] (B true):=od 5000 (a,b,()) true (Go.Plain.TR a b)
theorem lifted(os:Os)(a:os.Started)(H:Type)(enc:TypeId×Value->H) : ReturnsInHanded {} Tryz.checked os 4 .any (Rows.boundFallsSpec.pre6 enc Tryz.prog Tryz.f4 Rows.boundFallsRow.domain false) (Rows.boundFallsSpec.post enc Tryz.prog Tryz.f4 false true false false):=by refine returnsInHanded_of_change (C:=Tryz.checked) own a (by kernel_rfl) Tryz.func4 (ChangeSpec.witness6 (enc:=enc) (C:=Tryz.checked) false ⟨#[],#[.agg #[.slice none 0 0,.slice none 0 0,.slice none 0 0,.int .i64 0,.int .i64 0,.int .i64 0,.int .i64 0,.int .i64 0,.int .i64 0,.int .i64 0,.int .i64 0,.int .i64 0,.int .i64 0,.int .i64 0,.int .i64 0,.int .i64 0,.int .i64 0,.int .i64 0,.int .i64 0,.int .i64 0,.int .i64 0,.slice none 0 0,.slice none 0 0,.slice none 0 0,.slice none 0 0,.slice none 0 0,.int .i64 0],.int .u8 0],[]⟩ 8 (by kernel_rfl) (by kernel_rfl) (by kernel_rfl) (by kernel_rfl)) ?_;intro W o args ds gs w b Q R _;have f:∀(j:Nat) t v,Tryz.f4.params[j]? = some t->args[j]? = some v->Value.okWide Tryz.prog W .any o t v:=b;have E:=Q;obtain ⟨p,q,r,hV,rfl,aa,ab⟩:=Q;have S:DataW.TrodAll enc Tryz.prog W 0 (λ_=>true) true Tryz.f4.params.toList args.toList ds p:=r;rw[Tryz.params4] at S f;obtain ⟨T,ad,d0,af,p0,q0,y,rfl,rfl,U,r0⟩:=trodAll_cons S;obtain ⟨X,ak,d1,an,p1,q1,z,rfl,rfl,g,r1⟩:=trodAll_cons r0;obtain ⟨rfl,rfl,rfl⟩:=trodAll_nil r1;obtain rfl:args=#[T,X]:=by{cases args;simp_all};obtain ⟨rfl,rfl⟩:=trodVars_none hV;obtain ⟨av,rfl,F⟩:=okWide_struct Tryz.underlying38 (f 0 38 T rfl rfl);have Y:=U;have G:∀x∈p0,x.block<W.heap.size:=by{obtain ⟨m,K⟩:=Y;exact DataW.trod_lt m _ _ _ K};obtain ⟨k,L⟩:=U;obtain ⟨aw,s⟩:=Gg 20 k 38 _ _ _ _ L shape0;obtain ⟨a0,M⟩:=arg_st 9 s;obtain ⟨n1,rfl⟩:=okWide_int Tryz.underlying5 (f 1 5 X rfl rfl);have Z:=g;have N:∀x∈p1,x.block<W.heap.size:=by{obtain ⟨m,K⟩:=Z;exact DataW.trod_lt m _ _ _ K};obtain ⟨l,O⟩:=g;obtain ⟨ax,u⟩:=Gg 20 l 5 _ _ _ _ O shape1;obtain ⟨a1,P⟩:=arg_c (.int .u8) u;clear r b;refine (aaA (law_true a0 a1) rfl (λi d v g A=>by match i with|0=>simp at g A;subst g A;exact M|1=>simp at g A;subst g A;exact P|i+2=>simp at g) trivial).mono λe W' ⟨he,n⟩=>?_;subst he;exact ⟨_,rfl,_,_,_,[],_,[],E,trodAll_mk1 (shut_bool Tryz.underlying4 _),(trodAll_cons_mk (Below.trod laidOut (by kernel_rfl) (of_decide_eq_true (by kernel_rfl)) Y n G) (trodAll_cons_mk (Below.trod laidOut (by kernel_rfl) (of_decide_eq_true (by kernel_rfl)) Z n N) trodAll_mk0)),rfl,n.frame _,λh=>by cases h⟩
end Go.Proofs.YtpojbebipfffbaaGreat
