/- CoreDoes: whatever the input, the law returns true and the input reads as it did. -/
import Derived.Test.YtidhdalhpjapaaaGreatDoorWkA
import Derived.Test.YtidhdalhpjapaaaGreatDoorLawD
import Derived.Test.YtidhdalhpjapaaaGreatDoorFwG
import Derived.Test.YtidhdalhpjapaaaGreatDoorRows
import Derived.WalkKit
import Derived.ProofKit
import Derived.OpenShut
import Derived.ShutString
import Derived.ChangeOld
import Derived.Below
import Derived.Deep.DeepHandedRow
import Derived.LaidLaws
set_option linter.all false
namespace Go.Proofs.YtidhdalhpjapaaaGreatDoor
open Go.ChangeShapes Go.WideShapes Go.ChangeAt Go.RowKit Go.Abs
set_option linter.unusedVariables false
set_option maxRecDepth 100000
theorem own:ownKnob Tryz.prog.godebug=none:=by kernel_rfl
theorem laidOut:laidOutB Tryz.prog=true:=by kernel_rfl
theorem shape0:dM Tryz.prog 20 38=some (shT 9):=by kernel_rfl
theorem shape1:dM Tryz.prog 20 39=some ([shC shT (.sl 10)]):=by kernel_rfl
theorem RU(a:TT 9)(b:(.sl 10:CC).dn):Pure Tryz.prog 3 [cR.enc (.st 9) a,cR.enc (.c (.sl 10)) b] (B true):=nH 1000 (a,b,()) true (Go.Plain.Vi a b)
theorem U_(H:Type)(enc:TypeId×Value->H)(W:World)(n:Nat)(args:Array Value)(ds Y:List (DataW H))(b:List MemPlace)
  (a:∀(j:Nat) t v,Tryz.f3.params[j]? = some t->args[j]? = some v->Value.okWide Tryz.prog W .any n t v)
  (O:DataW.Whole enc Tryz.prog Tryz.f3.params.toList Rows.coreDoesSpec.vars false W args.toList ds Y b) (Z:Gl.ok (λc=>c<W.heap.size) W) :
  Calls Tryz.prog 3 args W λe P=>∃v,e=.returned v/\Rows.coreDoesSpec.post enc Tryz.prog Tryz.f3 false true false false W args v P:=by
 have z:=O;obtain ⟨p,q,o,hV,rfl,ad,af⟩:=O;have Q:DataW.TrodAll enc Tryz.prog W 0 (λ_=>true) true Tryz.f3.params.toList args.toList ds p:=o;rw[Tryz.params3] at Q a;obtain ⟨R,ak,d0,av,p0,q0,u,rfl,rfl,S,r0⟩:=trodAll_cons Q;obtain ⟨T,ax,d1,a2,p1,q1,w,rfl,rfl,f,r1⟩:=trodAll_cons r0;obtain ⟨rfl,rfl,rfl⟩:=trodAll_nil r1;obtain rfl:args=#[R,T]:=by cases args;simp_all
 obtain ⟨rfl,rfl⟩:=trodVars_none hV;obtain ⟨a3,rfl,A⟩:=okWide_struct Tryz.underlying38 (a 0 38 R rfl rfl);have U:=S;have E:∀x∈p0,x.block<W.heap.size:=by obtain ⟨m,F⟩:=U;exact DataW.trod_lt m _ _ _ F
 obtain ⟨g,G⟩:=S;obtain ⟨a4,r⟩:=Cr 20 g 38 _ _ _ _ G shape0;obtain ⟨a0,K⟩:=arg_st 9 r;obtain ⟨a5,a6,a7,rfl⟩:=okWide_slice Tryz.underlying39 (a 1 39 T rfl rfl);have X:=f;have L:∀x∈p1,x.block<W.heap.size:=by obtain ⟨m,F⟩:=X;exact DataW.trod_lt m _ _ _ F
 obtain ⟨k,M⟩:=f;obtain ⟨a8,s⟩:=Cr 20 k 39 _ _ _ _ M shape1;obtain ⟨a1,N⟩:=arg_c (.sl 10) s;clear o;refine (Va (RU a0 a1) rfl (λi d v f y=>by
  match i with
  |0=>simp at f y;subst f y;exact K
  |1=>simp at f y;subst f y;exact N
  |i+2=>simp at f) Z).mono λe P ⟨he,l⟩=>?_
 subst he;exact ⟨_,rfl,_,_,_,[],_,[],z,trodAll_mk1 (shut_bool Tryz.underlying4 _),(trodAll_cons_mk (Below.trod laidOut (by kernel_rfl) (of_decide_eq_true (by kernel_rfl)) U l E) (trodAll_cons_mk (Below.trod laidOut (by kernel_rfl) (of_decide_eq_true (by kernel_rfl)) X l L) trodAll_mk0)),rfl,l.frame _,λh=>by cases h⟩
theorem gTab:Tryz.prog.globalNamed (Rows.coreDoesRow.named.getD 0 default)=some 0:=by kernel_rfl
theorem Te:(Tryz.prog.globals[0]?).map (·.type)=some 260:=by kernel_rfl
theorem Mv{W:World}(h:laidMetH Tryz.prog Rows.coreDoesRow.laid W):Gl.ok (λc=>c<W.heap.size) W:=by
 obtain ⟨A,⟨E,F,i,f0,p0,G,e,k,l,m,_,_⟩,_⟩:=(show laidMet Tryz.prog Rows.coreDoesRow.laid W from h);obtain rfl:=Option.some.inj (gTab.symm.trans e);obtain rfl:=Option.some.inj (Te.symm.trans k);obtain ⟨s,m1,rfl,p,t,K,q⟩:=DataW.trod_array Tryz.underlying260 m;have c1:Tryz.prog.cellsOf 3=1:=by kernel_rfl
 have u:=congrArg Prod.fst p;simp only[Rows.laid_drayage_alter_changes,DataW.agg.injEq] at u;have f:∀(j:Nat)(v:Value),([.int .i64 0,.int .i64 0,.int .i64 (-1),.int .i64 1,.int .i64 2,.int .i64 6]:List Value)[j]? = some v->W.cell? ⟨0,j,none⟩=some v/\v.oneCell'=true:=λj v a=>by
  have g:j<6:=by obtain ⟨h,_⟩:=List.getElem?_eq_some_iff.1 a;simpa using h
  have r:=q j g;rw[c1] at r;obtain ⟨x,w⟩:∃x,s[j]? = some x:=⟨_,List.getElem?_eq_getElem (by omega)⟩;rw[w] at r;obtain ⟨n,y,z,_⟩:=DataW.trod_int Tryz.underlying3 r;have b:(s.map (·.1))[j]? = some (DataW.lit (.int .i64 n)):=by simp[w,z]
  rw[<-u] at b;have ev:v=.int .i64 n:=by
   match j,g,b,a with
   |0,_,b,a=>simp only[List.getElem?_cons_succ,List.getElem?_cons_zero,Option.some.injEq,DataW.lit.injEq,Lit.int.injEq,true_and] at b a;rw[<-a,<-b]
   |1,_,b,a=>simp only[List.getElem?_cons_succ,List.getElem?_cons_zero,Option.some.injEq,DataW.lit.injEq,Lit.int.injEq,true_and] at b a;rw[<-a,<-b]
   |2,_,b,a=>simp only[List.getElem?_cons_succ,List.getElem?_cons_zero,Option.some.injEq,DataW.lit.injEq,Lit.int.injEq,true_and] at b a;rw[<-a,<-b]
   |3,_,b,a=>simp only[List.getElem?_cons_succ,List.getElem?_cons_zero,Option.some.injEq,DataW.lit.injEq,Lit.int.injEq,true_and] at b a;rw[<-a,<-b]
   |4,_,b,a=>simp only[List.getElem?_cons_succ,List.getElem?_cons_zero,Option.some.injEq,DataW.lit.injEq,Lit.int.injEq,true_and] at b a;rw[<-a,<-b]
   |5,_,b,a=>simp only[List.getElem?_cons_succ,List.getElem?_cons_zero,Option.some.injEq,DataW.lit.injEq,Lit.int.injEq,true_and] at b a;rw[<-a,<-b]
  subst ev;refine ⟨?_,rfl⟩;rw[World.var?_cell e l j];have:i.toList[j]? = some (.int .i64 n):=by have:=congrArg (·[0]?) y;simpa[List.getElem?_take,List.getElem?_drop] using this
  simpa using this
 have d:=(f 0 _ rfl).1;refine ⟨?_,f⟩;cases hs:W.heap[0]? with
 |none=>simp[World.cell?,hs] at d
 |some o=>exact (Array.getElem?_eq_some_iff.1 hs).1
noncomputable def zH (b:Os):World:=
 { World.holding Tryz.prog b ⟨#[],#[],[]⟩ with heap:=(World.holding Tryz.prog b ⟨#[],#[],[]⟩).heap.modify 0 fun
   | .cells _ t a=>.cells #[.int .i64 0,.int .i64 0,.int .i64 (-1),.int .i64 1,.int .i64 2,.int .i64 6] t
   | o=>o }
theorem Ru(a:Os):laidMet Tryz.prog Rows.coreDoesRow.laid ((zH a).forCall (λ_ _=>0) ⟨#[],#[.agg #[.slice none 0 0,.slice none 0 0,.slice none 0 0,.int .i64 0,.int .i64 0,.int .i64 0,.int .i64 0,.int .i64 0,.int .i64 0,.int .i64 0,.int .i64 0,.int .i64 0,.int .i64 0,.int .i64 0,.int .i64 0,.int .i64 0,.int .i64 0,.int .i64 0,.int .i64 0,.int .i64 0,.int .i64 0,.slice none 0 0,.slice none 0 0,.slice none 0 0,.slice none 0 0,.slice none 0 0,.int .i64 0],.slice none 0 0],[]⟩).memory:=laidMet_of_run' 8 (by kernel_rfl) (by kernel_rfl)
theorem reads(a:Os){H:Type}(enc:TypeId×Value->H):∃places,DataW.whole enc Tryz.prog ((zH a).forCall (λ_ _=>0) ⟨#[],#[.agg #[.slice none 0 0,.slice none 0 0,.slice none 0 0,.int .i64 0,.int .i64 0,.int .i64 0,.int .i64 0,.int .i64 0,.int .i64 0,.int .i64 0,.int .i64 0,.int .i64 0,.int .i64 0,.int .i64 0,.int .i64 0,.int .i64 0,.int .i64 0,.int .i64 0,.int .i64 0,.int .i64 0,.int .i64 0,.slice none 0 0,.slice none 0 0,.slice none 0 0,.slice none 0 0,.slice none 0 0,.int .i64 0],.slice none 0 0],[]⟩).memory Tryz.f3.params.toList Rows.coreDoesSpec.vars false (#[.agg #[.slice none 0 0,.slice none 0 0,.slice none 0 0,.int .i64 0,.int .i64 0,.int .i64 0,.int .i64 0,.int .i64 0,.int .i64 0,.int .i64 0,.int .i64 0,.int .i64 0,.int .i64 0,.int .i64 0,.int .i64 0,.int .i64 0,.int .i64 0,.int .i64 0,.int .i64 0,.int .i64 0,.int .i64 0,.slice none 0 0,.slice none 0 0,.slice none 0 0,.slice none 0 0,.slice none 0 0,.int .i64 0],.slice none 0 0]:Array Value).toList 8=some ([.agg [.agg [.nil,.nil,.nil,.lit (.int .i64 0),.agg [.lit (.int .i64 0),.lit (.int .i64 0),.lit (.int .i64 0),.lit (.int .i64 0)],.lit (.int .i64 0),.lit (.int .i64 0),.lit (.int .i64 0),.lit (.int .i64 0),.lit (.int .i64 0),.lit (.int .i64 0),.lit (.int .i64 0),.lit (.int .i64 0),.lit (.int .i64 0),.lit (.int .i64 0)],.agg [.lit (.int .i64 0),.lit (.int .i64 0),.lit (.int .i64 0),.nil,.nil,.nil,.nil,.agg [.nil,.lit (.int .i64 0)]]],.nil],[],places):=
 ⟨[],by kernel_rfl⟩
theorem lifted (d:Os) (a:d.Started) (H:Type) (enc:TypeId×Value→H) (F:Stop.Interp) :
  ReturnsInHanded {} Tryz.checked d 3 .any ((OpenSpec.ofChange Rows.coreDoesSpec).preRow enc Tryz.prog Tryz.f3 Rows.coreDoesRow.domain false Rows.coreDoesRow.laid) (((OpenSpec.ofChange Rows.coreDoesSpec).at F).post enc Tryz.prog Tryz.f3 false true false false):=by
 obtain ⟨places,g⟩:=reads d enc
 refine returnsInHanded_of_row (C:=Tryz.checked) (s:=OpenSpec.ofChange Rows.coreDoesSpec) own a (by kernel_rfl) Tryz.func3
  (witness_row_at (enc:=enc) (C:=Tryz.checked) false (zH d) #[.agg #[.slice none 0 0,.slice none 0 0,.slice none 0 0,.int .i64 0,.int .i64 0,.int .i64 0,.int .i64 0,.int .i64 0,.int .i64 0,.int .i64 0,.int .i64 0,.int .i64 0,.int .i64 0,.int .i64 0,.int .i64 0,.int .i64 0,.int .i64 0,.int .i64 0,.int .i64 0,.int .i64 0,.int .i64 0,.slice none 0 0,.slice none 0 0,.slice none 0 0,.slice none 0 0,.slice none 0 0,.int .i64 0],.slice none 0 0] rfl (by kernel_rfl) (by kernel_rfl) (by kernel_rfl)
   (OpenSpec.preRow_of_cond 8 (g) (by kernel_rfl) (fun k hk=>by cases hk) (by kernel_rfl) (Ru d))) ?_
 intro W e args ds h b f i _ _ _ j _ _
 exact U_ H enc W e args ds h b f i (Mv j)
end Go.Proofs.YtidhdalhpjapaaaGreatDoor
