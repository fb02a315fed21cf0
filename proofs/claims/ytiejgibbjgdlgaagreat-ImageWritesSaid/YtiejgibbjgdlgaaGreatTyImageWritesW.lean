/- ImageWrites: whatever the input, the law returns true and the input reads as it did. -/
import Derived.Test.YtiejgibbjgdlgaaGreatWkA
import Derived.Test.YtiejgibbjgdlgaaGreatLawB
import Derived.Test.YtiejgibbjgdlgaaGreatFwG
import Derived.Test.YtiejgibbjgdlgaaGreatRows
import Derived.WalkKit
import Derived.ProofKit
import Derived.OpenShut
import Derived.ShutString
import Derived.ChangeOld
import Derived.Below
set_option linter.all false
namespace Go.Proofs.YtiejgibbjgdlgaaGreat
open Go.ChangeShapes Go.WideShapes Go.ChangeAt Go.RowKit Go.Abs
set_option linter.unusedVariables false
set_option maxRecDepth 100000
theorem own:ownKnob Tryz.prog.godebug=none:=by kernel_rfl
theorem laidOut:laidOutB Tryz.prog=true:=by kernel_rfl
theorem shape0:shapesOf Tryz.prog 20 38=some (shT 9):=by kernel_rfl
theorem shape1:shapesOf Tryz.prog 20 39=some ([shC shT (.sl 10)]):=by kernel_rfl
def BytesOk (l:List Int):Prop:=∀x∈l,0≤x∧x≤255
theorem arg_u8x1 {w:World} {xs:List C} {v:Value} (h:zbi w [shC shT (.sl 10)] xs [v]):∃a:(.sl 10:CC).dn,BytesOk a∧V [] (fun _=>none) (fun c=>c<w.heap.size) w (VCd.enc (.c (.sl 10)) a) v:=by
 obtain ⟨x,rfl,hs,hV⟩:=V.cells_one h (σ:=[]) (M:=fun _=>none)
 obtain ⟨a,rfl⟩:=shC_dec (rec:=shT) (r:=enc) (fun j _ xs h=>sh_dec j h) hs
 refine ⟨a,fun (x:Int) hx=>?_,hV⟩
 cases hs with
 | sl hl hn hh =>
  have:=hh (enc 10 x) (List.mem_map_of_mem hx) 0 (.int .u8) (.lit (.int .u8 x)) rfl rfl
  cases this with
  | int h =>
   have h':(decide ((0:Int)≤x)&&decide (x≤(255:Int)))=true:=h
   simpa using h'
theorem law_true (a0:TT 9) (a1:(.sl 10:CC).dn) (hb1:BytesOk a1):Pure Tryz.prog 3 [VCd.enc (.st 9) a0,VCd.enc (.c (.sl 10)) a1] (B true):=drayagelaw50xImageWrites_ok 200000 (a0,a1,()) true (Go.Plain.imageWrites a0 a1 hb1)
theorem lifted (os:Os) (started:os.Started) (H:Type) (enc:TypeId×Value→H) :
  ReturnsInHanded {} Tryz.checked os 3 .any (Rows.imageWritesSpec.pre6 enc Tryz.prog Tryz.f3 Rows.imageWritesRow.domain false) (Rows.imageWritesSpec.post enc Tryz.prog Tryz.f3 false true false false):=by
 refine returnsInHanded_of_change (C:=Tryz.checked) own started (by kernel_rfl) Tryz.func3
  (ChangeSpec.witness6 (enc:=enc) (C:=Tryz.checked) false ⟨#[],#[.agg #[.slice none 0 0,.slice none 0 0,.slice none 0 0,.int .i64 0,.int .i64 0,.int .i64 0,.int .i64 0,.int .i64 0,.int .i64 0,.int .i64 0,.int .i64 0,.int .i64 0,.int .i64 0,.int .i64 0,.int .i64 0,.int .i64 0,.int .i64 0,.int .i64 0,.int .i64 0,.int .i64 0,.int .i64 0,.slice none 0 0,.slice none 0 0,.slice none 0 0,.slice none 0 0,.slice none 0 0,.int .i64 0],.slice none 0 0],[]⟩ 8 (by kernel_rfl) (by kernel_rfl) (by kernel_rfl) (by kernel_rfl)) ?_
 intro W base args ds gs before hval0 hW hcnd _
 have hval:∀(j:Nat) t v,Tryz.f3.params[j]? = some t→args[j]? = some v→Value.okWide Tryz.prog W .any base t v:=hval0
 have hW':=hW
 obtain ⟨p,q,hA0,hV,rfl,hfz,hnd⟩:=hW
 have hA:DataW.TrodAll enc Tryz.prog W 0 (fun _=>true) true Tryz.f3.params.toList args.toList ds p:=hA0
 rw [Tryz.params3] at hA hval
 obtain ⟨v0,vs0,d0,ds0,p0,q0,hargs0,rfl,rfl,h0,r0⟩:=trodAll_cons hA
 obtain ⟨v1,vs1,d1,ds1,p1,q1,hargs1,rfl,rfl,h1,r1⟩:=trodAll_cons r0
 obtain ⟨rfl,rfl,rfl⟩:=trodAll_nil r1
 obtain rfl:args=#[v0,v1]:=by cases args; simp_all
 obtain ⟨rfl,rfl⟩:=trodVars_none hV
 obtain ⟨cs0,rfl,hcsz0⟩:=okWide_struct Tryz.underlying38 (hval 0 38 v0 rfl rfl)
 have k0:=h0
 have lt0:∀x∈p0,x.block<W.heap.size:=by obtain ⟨m,hm⟩:=k0; exact DataW.trod_lt m _ _ _ hm
 obtain ⟨fuel0,hf0⟩:=h0
 obtain ⟨xs0,hxs0⟩:=trod_cells 20 fuel0 38 _ _ _ _ hf0 shape0
 obtain ⟨a0,hv0⟩:=arg_st 9 hxs0
 obtain ⟨na1,nl1,nc1,rfl⟩:=okWide_slice Tryz.underlying39 (hval 1 39 v1 rfl rfl)
 have k1:=h1
 have lt1:∀x∈p1,x.block<W.heap.size:=by obtain ⟨m,hm⟩:=k1; exact DataW.trod_lt m _ _ _ hm
 obtain ⟨fuel1,hf1⟩:=h1
 obtain ⟨xs1,hxs1⟩:=trod_cells 20 fuel1 39 _ _ _ _ hf1 shape1
 obtain ⟨a1,hb1,hv1⟩:=arg_u8x1 hxs1
 clear hA0 hval0
 refine (law_pure (law_true a0 a1 hb1) rfl (fun i d v h1 h2=>by
  match i with
  | 0=>simp at h1 h2; subst h1 h2; exact hv0
  | 1=>simp at h1 h2; subst h1 h2; exact hv1
  | i+2=>simp at h1) trivial).mono fun e W' ⟨he,bel⟩=>?_
 subst he
 exact ⟨_,rfl,_,_,_,[],_,[],hW',trodAll_mk1 (shut_bool Tryz.underlying4 _),(trodAll_cons_mk (Below.trod laidOut (by kernel_rfl) (of_decide_eq_true (by kernel_rfl)) k0 bel lt0) (trodAll_cons_mk (Below.trod laidOut (by kernel_rfl) (of_decide_eq_true (by kernel_rfl)) k1 bel lt1) trodAll_mk0)),rfl,bel.frame _,fun h=>by cases h⟩
end Go.Proofs.YtiejgibbjgdlgaaGreat
