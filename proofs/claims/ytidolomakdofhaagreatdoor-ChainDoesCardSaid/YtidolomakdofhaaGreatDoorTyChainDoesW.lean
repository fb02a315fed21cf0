/- ChainDoes: whatever the input, the law returns true and the input reads as it did. -/
import Derived.Test.YtidolomakdofhaaGreatDoorWkA
import Derived.Test.YtidolomakdofhaaGreatDoorLawC
import Derived.Test.YtidolomakdofhaaGreatDoorFwH
import Derived.Test.YtidolomakdofhaaGreatDoorRows
import Derived.WalkKit
import Derived.ProofKit
import Derived.OpenShut
import Derived.ShutString
import Derived.ChangeOld
import Derived.Below
import Derived.Deep.DeepHandedRow
import Derived.LaidLaws
set_option linter.all false
namespace Go.Proofs.YtidolomakdofhaaGreatDoor
open Go.ChangeShapes Go.WideShapes Go.ChangeAt Go.RowKit Go.Abs
set_option linter.unusedVariables false
set_option maxRecDepth 100000
theorem own:ownKnob Tryz.prog.godebug=none:=by kernel_rfl
theorem laidOut:laidOutB Tryz.prog=true:=by kernel_rfl
theorem shape0:shapesOf Tryz.prog 20 38=some (shT 9):=by kernel_rfl
theorem shape1:shapesOf Tryz.prog 20 39=some ([shC shT (.sl 10)]):=by kernel_rfl
theorem law_true(a0:TT 9)(a1:(.sl 10:CC).dn):Pure Tryz.prog 3 [VCd.enc (.st 9) a0,VCd.enc (.c (.sl 10)) a1] (B true):=drayagelaw36xChainDoes_ok 1000 (a0,a1,()) true (Go.Plain.chainDoes a0 a1)
theorem contract(H:Type)(enc:TypeId×Value->H)(W:World)(base:Nat)(args:Array Value)(ds gs:List (DataW H))(before:List MemPlace)
  (hval:∀(j:Nat) t v,Tryz.f3.params[j]? = some t->args[j]? = some v->Value.okWide Tryz.prog W .any base t v)
  (hW:DataW.Whole enc Tryz.prog Tryz.f3.params.toList Rows.chainDoesSpec.vars false W args.toList ds gs before) (hg:Gl.ok (λc=>c<W.heap.size) W) :
  Calls Tryz.prog 3 args W λe W'=>∃v,e=.returned v/\Rows.chainDoesSpec.post enc Tryz.prog Tryz.f3 false true false false W args v W':=by
 have hW':=hW;obtain ⟨p,q,hA0,hV,rfl,hfz,hnd⟩:=hW;have hA:DataW.TrodAll enc Tryz.prog W 0 (λ_=>true) true Tryz.f3.params.toList args.toList ds p:=hA0;rw[Tryz.params3] at hA hval;obtain ⟨v0,vs0,d0,ds0,p0,q0,hargs0,rfl,rfl,h0,r0⟩:=trodAll_cons hA;obtain ⟨v1,vs1,d1,ds1,p1,q1,hargs1,rfl,rfl,h1,r1⟩:=trodAll_cons r0;obtain ⟨rfl,rfl,rfl⟩:=trodAll_nil r1;obtain rfl:args=#[v0,v1]:=by cases args;simp_all
 obtain ⟨rfl,rfl⟩:=trodVars_none hV;obtain ⟨cs0,rfl,hcsz0⟩:=okWide_struct Tryz.underlying38 (hval 0 38 v0 rfl rfl);have k0:=h0;have lt0:∀x∈p0,x.block<W.heap.size:=by obtain ⟨m,hm⟩:=k0;exact DataW.trod_lt m _ _ _ hm
 obtain ⟨fuel0,hf0⟩:=h0;obtain ⟨xs0,hxs0⟩:=trod_cells 20 fuel0 38 _ _ _ _ hf0 shape0;obtain ⟨a0,hv0⟩:=arg_st 9 hxs0;obtain ⟨na1,nl1,nc1,rfl⟩:=okWide_slice Tryz.underlying39 (hval 1 39 v1 rfl rfl);have k1:=h1;have lt1:∀x∈p1,x.block<W.heap.size:=by obtain ⟨m,hm⟩:=k1;exact DataW.trod_lt m _ _ _ hm
 obtain ⟨fuel1,hf1⟩:=h1;obtain ⟨xs1,hxs1⟩:=trod_cells 20 fuel1 39 _ _ _ _ hf1 shape1;obtain ⟨a1,hv1⟩:=arg_c (.sl 10) hxs1;clear hA0;refine (law_pure (law_true a0 a1) rfl (λi d v h1 h2=>by
  match i with
  |0=>simp at h1 h2;subst h1 h2;exact hv0
  |1=>simp at h1 h2;subst h1 h2;exact hv1
  |i+2=>simp at h1) hg).mono λe W' ⟨he,bel⟩=>?_
 subst he;exact ⟨_,rfl,_,_,_,[],_,[],hW',trodAll_mk1 (shut_bool Tryz.underlying4 _),(trodAll_cons_mk (Below.trod laidOut (by kernel_rfl) (of_decide_eq_true (by kernel_rfl)) k0 bel lt0) (trodAll_cons_mk (Below.trod laidOut (by kernel_rfl) (of_decide_eq_true (by kernel_rfl)) k1 bel lt1) trodAll_mk0)),rfl,bel.frame _,λh=>by cases h⟩
theorem gTab:Tryz.prog.globalNamed (Rows.chainDoesRow.named.getD 0 default)=some 0:=by kernel_rfl
theorem gTabType:(Tryz.prog.globals[0]?).map (·.type)=some 170:=by kernel_rfl
theorem gl_of_laid{W:World}(h:laidMetH Tryz.prog Rows.chainDoesRow.laid W):Gl.ok (λc=>c<W.heap.size) W:=by
 obtain ⟨ps,⟨g0,t0,cs0,f0,p0,q0,hg0,ht0,hv0,hd0,_,_⟩,_⟩:=(show laidMet Tryz.prog Rows.chainDoesRow.laid W from h);obtain rfl:=Option.some.inj (gTab.symm.trans hg0);obtain rfl:=Option.some.inj (gTabType.symm.trans ht0);obtain ⟨xs,m1,rfl,hx1,hlen,hn,hel⟩:=DataW.trod_array Tryz.underlying170 hd0;have c1:Tryz.prog.cellsOf 3=1:=by kernel_rfl
 have e3:=congrArg Prod.fst hx1;simp only[Rows.laid_drayage_alter_changes,DataW.agg.injEq] at e3;have key:∀(j:Nat)(v:Value),([.int .i64 0,.int .i64 0,.int .i64 (-1),.int .i64 1,.int .i64 2,.int .i64 6]:List Value)[j]? = some v->W.cell? ⟨0,j,none⟩=some v/\v.oneCell'=true:=λj v hj=>by
  have hjl:j<6:=by obtain ⟨h,_⟩:=List.getElem?_eq_some_iff.1 hj;simpa using h
  have hh:=hel j hjl;rw[c1] at hh;obtain ⟨x,hx⟩:∃x,xs[j]? = some x:=⟨_,List.getElem?_eq_getElem (by omega)⟩;rw[hx] at hh;obtain ⟨n,hc,hz,_⟩:=DataW.trod_int Tryz.underlying3 hh;have e2:(xs.map (·.1))[j]? = some (DataW.lit (.int .i64 n)):=by simp[hx,hz]
  rw[<-e3] at e2;have ev:v=.int .i64 n:=by
   match j,hjl,e2,hj with
   |0,_,e2,hj=>simp only[List.getElem?_cons_succ,List.getElem?_cons_zero,Option.some.injEq,DataW.lit.injEq,Lit.int.injEq,true_and] at e2 hj;rw[<-hj,<-e2]
   |1,_,e2,hj=>simp only[List.getElem?_cons_succ,List.getElem?_cons_zero,Option.some.injEq,DataW.lit.injEq,Lit.int.injEq,true_and] at e2 hj;rw[<-hj,<-e2]
   |2,_,e2,hj=>simp only[List.getElem?_cons_succ,List.getElem?_cons_zero,Option.some.injEq,DataW.lit.injEq,Lit.int.injEq,true_and] at e2 hj;rw[<-hj,<-e2]
   |3,_,e2,hj=>simp only[List.getElem?_cons_succ,List.getElem?_cons_zero,Option.some.injEq,DataW.lit.injEq,Lit.int.injEq,true_and] at e2 hj;rw[<-hj,<-e2]
   |4,_,e2,hj=>simp only[List.getElem?_cons_succ,List.getElem?_cons_zero,Option.some.injEq,DataW.lit.injEq,Lit.int.injEq,true_and] at e2 hj;rw[<-hj,<-e2]
   |5,_,e2,hj=>simp only[List.getElem?_cons_succ,List.getElem?_cons_zero,Option.some.injEq,DataW.lit.injEq,Lit.int.injEq,true_and] at e2 hj;rw[<-hj,<-e2]
  subst ev;refine ⟨?_,rfl⟩;rw[World.var?_cell hg0 hv0 j];have:cs0.toList[j]? = some (.int .i64 n):=by have:=congrArg (·[0]?) hc;simpa[List.getElem?_take,List.getElem?_drop] using this
  simpa using this
 have hcell:=(key 0 _ rfl).1;refine ⟨?_,key⟩;cases hs:W.heap[0]? with
 |none=>simp[World.cell?,hs] at hcell
 |some o=>exact (Array.getElem?_eq_some_iff.1 hs).1
noncomputable def laidWorld (os:Os):World:=
 { World.holding Tryz.prog os ⟨#[],#[],[]⟩ with heap:=(World.holding Tryz.prog os ⟨#[],#[],[]⟩).heap.modify 0 fun
   | .cells _ t frozen=>.cells #[.int .i64 0,.int .i64 0,.int .i64 (-1),.int .i64 1,.int .i64 2,.int .i64 6] t
   | o=>o }
theorem laid_met(os:Os):laidMet Tryz.prog Rows.chainDoesRow.laid ((laidWorld os).forCall (λ_ _=>0) ⟨#[],#[.agg #[.slice none 0 0,.slice none 0 0,.slice none 0 0,.int .i64 0,.int .i64 0,.int .i64 0,.int .i64 0,.int .i64 0,.int .i64 0,.int .i64 0,.int .i64 0,.int .i64 0,.int .i64 0,.int .i64 0,.int .i64 0,.int .i64 0,.int .i64 0,.int .i64 0,.int .i64 0,.int .i64 0,.int .i64 0,.slice none 0 0,.slice none 0 0,.slice none 0 0,.slice none 0 0,.slice none 0 0,.int .i64 0],.slice none 0 0],[]⟩).memory:=laidMet_of_run' 8 (by kernel_rfl) (by kernel_rfl)
theorem reads(os:Os){H:Type}(enc:TypeId×Value->H):∃places,DataW.whole enc Tryz.prog ((laidWorld os).forCall (λ_ _=>0) ⟨#[],#[.agg #[.slice none 0 0,.slice none 0 0,.slice none 0 0,.int .i64 0,.int .i64 0,.int .i64 0,.int .i64 0,.int .i64 0,.int .i64 0,.int .i64 0,.int .i64 0,.int .i64 0,.int .i64 0,.int .i64 0,.int .i64 0,.int .i64 0,.int .i64 0,.int .i64 0,.int .i64 0,.int .i64 0,.int .i64 0,.slice none 0 0,.slice none 0 0,.slice none 0 0,.slice none 0 0,.slice none 0 0,.int .i64 0],.slice none 0 0],[]⟩).memory Tryz.f3.params.toList Rows.chainDoesSpec.vars false (#[.agg #[.slice none 0 0,.slice none 0 0,.slice none 0 0,.int .i64 0,.int .i64 0,.int .i64 0,.int .i64 0,.int .i64 0,.int .i64 0,.int .i64 0,.int .i64 0,.int .i64 0,.int .i64 0,.int .i64 0,.int .i64 0,.int .i64 0,.int .i64 0,.int .i64 0,.int .i64 0,.int .i64 0,.int .i64 0,.slice none 0 0,.slice none 0 0,.slice none 0 0,.slice none 0 0,.slice none 0 0,.int .i64 0],.slice none 0 0]:Array Value).toList 8=some ([.agg [.agg [.nil,.nil,.nil,.lit (.int .i64 0),.agg [.lit (.int .i64 0),.lit (.int .i64 0),.lit (.int .i64 0),.lit (.int .i64 0)],.lit (.int .i64 0),.lit (.int .i64 0),.lit (.int .i64 0),.lit (.int .i64 0),.lit (.int .i64 0),.lit (.int .i64 0),.lit (.int .i64 0),.lit (.int .i64 0),.lit (.int .i64 0),.lit (.int .i64 0)],.agg [.lit (.int .i64 0),.lit (.int .i64 0),.lit (.int .i64 0),.nil,.nil,.nil,.nil,.agg [.nil,.lit (.int .i64 0)]]],.nil],[],places):=
 ⟨[],by kernel_rfl⟩
theorem lifted (os:Os) (started:os.Started) (H:Type) (enc:TypeId×Value→H) (F:Stop.Interp) :
  ReturnsInHanded {} Tryz.checked os 3 .any ((OpenSpec.ofChange Rows.chainDoesSpec).preRow enc Tryz.prog Tryz.f3 Rows.chainDoesRow.domain false Rows.chainDoesRow.laid) (((OpenSpec.ofChange Rows.chainDoesSpec).at F).post enc Tryz.prog Tryz.f3 false true false false):=by
 obtain ⟨places,hx⟩:=reads os enc
 refine returnsInHanded_of_row (C:=Tryz.checked) (s:=OpenSpec.ofChange Rows.chainDoesSpec) own started (by kernel_rfl) Tryz.func3
  (witness_row_at (enc:=enc) (C:=Tryz.checked) false (laidWorld os) #[.agg #[.slice none 0 0,.slice none 0 0,.slice none 0 0,.int .i64 0,.int .i64 0,.int .i64 0,.int .i64 0,.int .i64 0,.int .i64 0,.int .i64 0,.int .i64 0,.int .i64 0,.int .i64 0,.int .i64 0,.int .i64 0,.int .i64 0,.int .i64 0,.int .i64 0,.int .i64 0,.int .i64 0,.int .i64 0,.slice none 0 0,.slice none 0 0,.slice none 0 0,.slice none 0 0,.slice none 0 0,.int .i64 0],.slice none 0 0] rfl (by kernel_rfl) (by kernel_rfl) (by kernel_rfl)
   (OpenSpec.preRow_of_cond 8 (hx) (by kernel_rfl) (fun k hk=>by cases hk) (by kernel_rfl) (laid_met os))) ?_
 intro W base args ds gs before hval hW _ _ _ hL _ _
 exact contract H enc W base args ds gs before hval hW (gl_of_laid hL)
end Go.Proofs.YtidolomakdofhaaGreatDoor
