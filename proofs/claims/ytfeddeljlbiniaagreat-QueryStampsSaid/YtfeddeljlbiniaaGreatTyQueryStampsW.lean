/- QueryStamps: whatever the input, the law returns true and the input reads as it did. -/
import Derived.Test.YtfeddeljlbiniaaGreatWkA
import Derived.Test.YtfeddeljlbiniaaGreatTyQ4
import Derived.Test.YtfeddeljlbiniaaGreatFwG
import Derived.Test.YtfeddeljlbiniaaGreatRows
import Derived.WalkKit
import Derived.ProofKit
import Derived.OpenShut
import Derived.ShutString
import Derived.ChangeOld
import Derived.Below
set_option linter.all false
namespace Go.Proofs.YtfeddeljlbiniaaGreat
open Go.ChangeShapes Go.WideShapes Go.ChangeAt Go.RowKit Go.Abs
set_option linter.unusedVariables false
set_option maxRecDepth 100000
theorem own:ownKnob Tryz.prog.godebug=none:=by kernel_rfl
theorem laidOut:laidOutB Tryz.prog=true:=by kernel_rfl
theorem shape0:zdO Tryz.prog 20 38=some (shT 9):=by kernel_rfl
theorem shape1:zdO Tryz.prog 20 39=some ([shC shT (.sl 10)]):=by kernel_rfl
theorem shape2:zdO Tryz.prog 20 44=some (shT 11):=by kernel_rfl
theorem law_true (a0:TT 9) (a1:(.sl 10:CC).dn) (a2:TT 11):Pure Tryz.prog 3 [VCd.enc (.st 9) a0,VCd.enc (.c (.sl 10)) a1,VCd.enc (.st 11) a2] (B true):=drayagelaw27xQueryStamps_ok 1000 (a0,a1,a2,()) true (Go.Plain.queryStamps a0 a1 a2)
theorem lifted (os:Os) (started:os.Started) (H:Type) (enc:TypeId×Value→H) :
  ReturnsInHanded {} Tryz.checked os 3 .any (Rows.queryStampsSpec.pre6 enc Tryz.prog Tryz.f3 Rows.queryStampsRow.domain false) (Rows.queryStampsSpec.post enc Tryz.prog Tryz.f3 false true false false):=by
 refine returnsInHanded_of_change (C:=Tryz.checked) own started (by kernel_rfl) Tryz.func3
  (ChangeSpec.witness6 (enc:=enc) (C:=Tryz.checked) false ⟨#[],#[.agg #[.slice none 0 0,.slice none 0 0,.slice none 0 0,.int .i64 0,.int .i64 0,.int .i64 0,.int .i64 0,.int .i64 0,.int .i64 0,.int .i64 0,.int .i64 0,.int .i64 0,.int .i64 0,.int .i64 0,.int .i64 0,.int .i64 0,.int .i64 0,.int .i64 0,.int .i64 0,.int .i64 0,.int .i64 0,.slice none 0 0,.slice none 0 0,.slice none 0 0,.slice none 0 0,.slice none 0 0,.int .i64 0],.slice none 0 0,.agg #[.int .i64 0,.int .i64 0,.int .i64 0,.int .i64 0,.int .i64 0,.int .i64 0,.int .i64 0,.int .i64 0,.int .i64 0,.int .i64 0,.int .i64 0,.int .i64 0,.slice none 0 0,.int .i64 0,.int .i64 0,.int .i64 0,.int .i64 0]],[]⟩ 8 (by kernel_rfl) (by kernel_rfl) (by kernel_rfl) (by kernel_rfl)) ?_
 intro W base args ds gs before hval0 hW hcnd _
 have hval:∀(j:Nat) t v,Tryz.f3.params[j]? = some t→args[j]? = some v→Value.okWide Tryz.prog W .any base t v:=hval0
 have hW':=hW
 obtain ⟨p,q,hA0,hV,rfl,hfz,hnd⟩:=hW
 have hA:DataW.TrodAll enc Tryz.prog W 0 (fun _=>true) true Tryz.f3.params.toList args.toList ds p:=hA0
 rw [Tryz.params3] at hA hval
 obtain ⟨v0,vs0,d0,ds0,p0,q0,hargs0,rfl,rfl,h0,r0⟩:=trodAll_cons hA
 obtain ⟨v1,vs1,d1,ds1,p1,q1,hargs1,rfl,rfl,h1,r1⟩:=trodAll_cons r0
 obtain ⟨v2,vs2,d2,ds2,p2,q2,hargs2,rfl,rfl,h2,r2⟩:=trodAll_cons r1
 obtain ⟨rfl,rfl,rfl⟩:=trodAll_nil r2
 obtain rfl:args=#[v0,v1,v2]:=by cases args; simp_all
 obtain ⟨rfl,rfl⟩:=trodVars_none hV
 obtain ⟨cs0,rfl,hcsz0⟩:=okWide_struct Tryz.underlying38 (hval 0 38 v0 rfl rfl)
 have k0:=h0
 have lt0:∀x∈p0,x.block<W.heap.size:=by obtain ⟨m,hm⟩:=k0; exact DataW.trod_lt m _ _ _ hm
 obtain ⟨fuel0,hf0⟩:=h0
 obtain ⟨xs0,hxs0⟩:=trod_cells 20 fuel0 38 _ _ _ _ hf0 shape0
 obtain ⟨a0,hv0⟩:=arg_st 9 hxs0
 obtain ⟨na1,nl1,nc1,rfl⟩:=okWide_slice Tryz.underlying39 (hval 1 39 v1 rfl rfl)
 have k1:=h1
 have lt1:∀x∈p1,x.block<W.heap.size:=by obtain ⟨m,hm⟩:=k1; exact DataW.trod_lt m _ _ _ hm
 obtain ⟨fuel1,hf1⟩:=h1
 obtain ⟨xs1,hxs1⟩:=trod_cells 20 fuel1 39 _ _ _ _ hf1 shape1
 obtain ⟨a1,hv1⟩:=arg_c (.sl 10) hxs1
 obtain ⟨cs2,rfl,hcsz2⟩:=okWide_struct Tryz.underlying44 (hval 2 44 v2 rfl rfl)
 have k2:=h2
 have lt2:∀x∈p2,x.block<W.heap.size:=by obtain ⟨m,hm⟩:=k2; exact DataW.trod_lt m _ _ _ hm
 obtain ⟨fuel2,hf2⟩:=h2
 obtain ⟨xs2,hxs2⟩:=trod_cells 20 fuel2 44 _ _ _ _ hf2 shape2
 obtain ⟨a2,hv2⟩:=arg_st 11 hxs2
 clear hA0 hval0
 refine (law_pure (law_true a0 a1 a2) rfl (fun i d v h1 h2=>by
  match i with
  | 0=>simp at h1 h2; subst h1 h2; exact hv0
  | 1=>simp at h1 h2; subst h1 h2; exact hv1
  | 2=>simp at h1 h2; subst h1 h2; exact hv2
  | i+3=>simp at h1) trivial).mono fun e W' ⟨he,bel⟩=>?_
 subst he
 exact ⟨_,rfl,_,_,_,[],_,[],hW',trodAll_mk1 (shut_bool Tryz.underlying4 _),(trodAll_cons_mk (Below.trod laidOut (by kernel_rfl) (of_decide_eq_true (by kernel_rfl)) k0 bel lt0) (trodAll_cons_mk (Below.trod laidOut (by kernel_rfl) (of_decide_eq_true (by kernel_rfl)) k1 bel lt1) (trodAll_cons_mk (Below.trod laidOut (by kernel_rfl) (of_decide_eq_true (by kernel_rfl)) k2 bel lt2) trodAll_mk0))),rfl,bel.frame _,fun h=>by cases h⟩
end Go.Proofs.YtfeddeljlbiniaaGreat
