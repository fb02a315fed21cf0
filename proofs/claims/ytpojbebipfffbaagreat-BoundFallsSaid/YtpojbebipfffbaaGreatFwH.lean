/- Lemmas. -/
import Derived.Test.YtpojbebipfffbaaGreatFwG
import Derived.Shelf.Spec.SlicesInsertGrow
import Derived.Test.YtpojbebipfffbaaGreatFwA
import Derived.Test.YtpojbebipfffbaaGreatFwD
import Derived.Test.YtpojbebipfffbaaGreatFwC
import Derived.Lib.SlKeysI
import Derived.Lib.SlicesCompact
set_option linter.all false
open _root_ renaming Go.Act.eval->B1,Go.Act.put->yv,Array->Φ,Array.replicate->χ,Bool->Λ,Go.Builtin.copy_->ϯ,Go.Builtin.firstCells->ϒ,Go.Builtin.zeroCells->Ϗ,Go.Calls->C4,Go.Exit.inBlock->Ϫ,Go.Fence.wide->ι,Go.FuncId->ύ,Int->Η,Go.IntKind.wrap_i64->td,Go.Lib.compact->ώ,List->Β,List.getElem?_take->F7,List.getElem_of_mem->ϗ,List.length->τ,List.range'->ϖ,List.replicate->κ,Nat->Ε,Nat.beq->Ρ,Nat.blt->η,Nat.min->tr,Nat.reduceAdd->K2,Go.Obj.cells->Ϣ,Go.Obj.cells.injEq->ϙ,Option->Δ,Go.Program->Μ,Go.Sort.ahead->ey,String->FS,Go.TypeDesc->ϑ,Go.TypeId->Ψ,Go.Value->Ο,Go.Value.func->B2,Go.World->Τ,Decidable.decide->Ι,Go.encZ->ro,Bool.false->Θ,if_neg->Κ,if_pos->Ν,if_true->Υ,Option.none->Ζ,Go.run_loadCells_list->I8,Go.run_underlying->Ϙ,Option.some->Α,Bool.true->Γ,Go.wpIn_cond_false->Lz,Go.wpIn_seq->ϸ,Go.Proofs.wpList_copy_runI->C5,Go.wpOpsIn->ϡ
open Go.IntKind (i64 u64)
section
namespace Go.Abs
noncomputable section
variable[Gl][Y:Ty]
section
variable{P:Μ}{c:Code}
theorem QT(h:bL P c=Α .skip):c=.skip:=by cases c with|skip=>rfl|region id d a=>simp only[bL] at h;grind|seq c1 e=>grind [bL]|cond o c1 e=>grind [bL]|scope b=>grind [bL,Δ.map_eq_some_iff,Nj]|rangeFunc g j x y=>grind [eS]|_=>simp[bL] at h
theorem inv_ret(h:bL P c=Α .ret):c=.ret:=by cases c with|ret=>rfl|region id j a=>simp only[bL] at h;split at h;{cases a with|false=>simp at h|true=>simp only[Υ] at h;split at h <;> simp at h};simp at h|seq c1 k=>simp only[bL] at h;split at h <;> simp at h|cond o c1 k=>simp only[bL] at h;split at h <;> simp at h|scope b=>simp only[bL,cA] at h;obtain ⟨m,_,d⟩:=h;rcases Nj m with ⟨l,r,_,e⟩ | e <;> rw[e] at d <;> simp at d|rangeFunc g n x y=>rcases eS h with ⟨_,_,_,_,_,_,_,e⟩ | e <;> cases e|_=>simp[bL] at h
theorem inv_exit{i:Ε}(h:bL P c=Α (.exit (2 * i))):c=.exit i:=by cases c with|exit j=>simp only[bL,ay,aV.exit.injEq] at h;rw[show j=i by omega]|goto j=>simp only[bL,ay,aV.exit.injEq] at h;omega|region id k a=>simp only[bL] at h;split at h;{cases a with|false=>simp at h|true=>simp only[Υ] at h;split at h <;> simp at h};simp at h|seq c1 m=>simp only[bL] at h;split at h <;> simp at h|cond o c1 m=>simp only[bL] at h;split at h <;> simp at h|scope b=>simp only[bL,cA] at h;obtain ⟨n,_,d⟩:=h;rcases Nj n with ⟨l,r,_,e⟩ | e <;> rw[e] at d <;> simp at d|rangeFunc g p x y=>rcases eS h with ⟨_,_,_,_,_,_,_,e⟩ | e <;> cases e|_=>simp[bL] at h
end
section
variable{P:Μ}{i so ti tb gm:Ε}{z:Β D}{st:TT i->Η}{metf:TT i->Β (TT i)->Δ Λ}
variable{B:Ε}{lb:Φ Ο}{J:Ε->(Ε->Prop)->(Ε->Prop)->Τ->Prop}{Jx:(Ε->Prop)->(Ε->Prop)->Τ->Prop}{l:Β (TT i)}{ly:Ε}{pv:Ο}
theorem Oj:∀(cs:Β CC)(x:aW cs),(vI cs x).all TC.scalar=Γ:=by intro cs;induction cs with|nil=>intro x;rfl|cons c cs ih=>intro x;simp only[vI,NM,ih,Om];cases c <;> rfl
def EP(J:Ε->(Ε->Prop)->(Ε->Prop)->Τ->Prop)(Jx:(Ε->Prop)->(Ε->Prop)->Τ->Prop)(m:Ε):Exit->Act->Τ->Prop:=λe a W=>(e=.normal\/e=.ret)/\a.defers=[]/\∃F U,J m F U W\/Jx F U W
def Zv{T:Type}(st:T->Η)(met:T->Δ Λ)(l:Β T):Δ (Β T):=match Ε.ble l.length 1000000 with | Γ=>Gj st met l | Θ=>Ζ
theorem Pt(dy:P.follows .mixedOrders=Γ)(hz:z.length=aC i)(aw:∀a,(enc i a)[so]? = Α (.lit (.int .i64 (st a)))) (X:∀x y:Η,gG P .lss ti (.tmp 7) (.tmp 6) (.int .i64 x) (.int .i64 y)=Α (.bool (Ι (x<y)))) (ax:∀x:Η,gG P .eql ti (.tmp 12) (.const (.int .i64 1)) (.int .i64 x) (.int .i64 1)=Α (.bool (x == 1))) (Z:∀x:Η,gG P .add ti (.tmp 7) (.const (.int .i64 1)) (.int .i64 x) (.int .i64 1)=Α (.int .i64 (i64.wrap (x+1)))) (aa:∀b:Λ,fZ P (Op.unary .not (.bool b))=Α (.bool (!b))) (hm:bP P gm ⟨[.st i,.c (.sl i)],[.c .bool],fun a=>metf a.1 a.2.1⟩) (Q:∀k,yC B (J k)) (a0:yC B Jx) (cm:l.length≤1000000) {r:Β (TT i)} (ab:∀k F U W,J k F U W->Caps F W [[.cS Θ (l.map (enc i))]] lb) (a6:lb[0]? = Α pv) (K:∀k ds F U W vs,(r.map fun a=>[ST (enc i a)])[k]? = Α ds->J k F U W->Vals F W ds vs -> YieldAt ι 0 P ly vs W fun e R=>∃F' U',Kept F U W F' U' R/\((e=.returned (.bool Γ)/\J (k+1) F' U' R)\/(e=.returned (.bool Θ)/\Jx F' U' R))) {cb:Code} (a7:bL P cb=Α (ableL (aC i) so ti tb gm z)):∀(m k it:Ε) (q:Β (TT i)) (F U:Ε->Prop) (W:Τ) (g:Act),k+m=l.length->Gj st (fun x=>metf x l) (l.drop k)=Α q->r.drop it=q->it≤r.length->J it F U W -> eV 26 [] (fun _=>Ζ) F W (nj i l (.func (.yield ly) #[] #[]) pv k) g.tmps->g.defers=[]->Code.roundsIn ι 0 P cb (Ϫ 0 (EP J Jx r.length)) (m+1) g W:=by obtain ⟨c1,r1,rfl,h1,a8⟩:=xU a7;obtain ⟨c2,r2,rfl,h2,a9⟩:=xU a8;obtain ⟨c3,c4,rfl,h3,h4⟩:=xU a9;obtain ⟨x8,cv,cC,rfl,bb,bc,bd⟩:=Oq h2;obtain ⟨j2,cX,rfl,cY,be⟩:=Km h3;obtain ⟨d2,r3,rfl,bh,bi⟩:=xU be;obtain ⟨d3,d4,rfl,bt,bu⟩:=xU bi;obtain ⟨cZ,c0,c5,rfl,ad,bv,bw⟩:=Oq bu;have:=QT bc;subst this;have:=inv_exit (i:=0) bd;subst this;have:=inv_ret bv;subst this;have:=QT bw;subst this;have tm:∀(x:Operand) (t:Ε),cf x=Α (.t t)->x=.tmp t:=fun x t hx=>by{cases x <;> simp [cf] at hx;rw [hx]};have:=tm _ _ bb;subst this;have:=tm _ _ ad;subst this;have ev:∀{al:AL} {V:au} {M:Ε->Δ Ε} {F:Ε->Prop} {W:Τ} {a:Act} {t:Ε} {b:Λ},eV 26 V M F W al a.tmps->lk t al=Α (Abs.B b)->a.eval (.tmp t)=.bool b:=fun {al V M F W a t b} A h=>by{obtain ⟨v,g1,g2⟩:=A.2 t _ h;have:=g2.cr;subst this;simp [B1,g1]};have O:mO P (fun _=>EI []):=fun _=>mZ fun p hp=>by{grind};intro m;induction m with| zero =>intro k it q F U W g hk s S Rp G A b0;rw [roundsIn_succ];refine ϸ (oj h1 fun n hs u o=>?_);show ϡ ι 0 P n _ (ϖ 0 (able1 ti).length++[]) g W;refine e_ O o YK (fun j ao G=>by simp_all) ?_ ((Q _).rel _ _ _ G) A;refine bJ.op (eG (v:=.bool (Ι ((k:Η)<l.length))) rfl rfl rfl rfl (X _ _) rfl) dQ rfl (bJ.nil ?_);intro a1 W1 M1 F1 b1 R1 A1 E1;obtain ⟨j1,_⟩:=(Q it).step G (fun b c h=>by simp at h) E1 R1;refine ⟨ϸ (Lz (by rw [ev A1 rfl]; simp_all) (wpIn_exit ?_)),by simp⟩;have b2:q=[]:=by{have:l.drop k=[]:=yB4 (by omega);rw [this] at s;simpa [Gj] using s.symm};subst b2;have af:it=r.length:=by{have:=HW τ S;grind};show Ϫ 0 (EP J Jx r.length) (.exit 0) a1 W1;simp only [Ϫ,Υ];exact ⟨.inl rfl,by simp_all,_,_,.inl (by rw [←af]; exact j1)⟩| succ m ih =>intro k it q F U W g hk s S Rp G A b0;have b3:k<l.length:=by{omega};have b4:l.drop k=l[k]::l.drop (k+1):=yBI b3;rw [b4] at s;generalize ha:l[k]=a at s;rw [roundsIn_succ];refine ϸ (oj h1 fun n hs u o=>?_);show ϡ ι 0 P n _ (ϖ 0 (able1 ti).length++[]) g W;refine e_ O o YK (fun j ao G=>by simp_all) ?_ ((Q _).rel _ _ _ G) A;refine bJ.op (eG (v:=.bool (Ι ((k:Η)<l.length))) rfl rfl rfl rfl (X _ _) rfl) dQ rfl (bJ.nil ?_);intro a1 W1 M1 F1 b1 R1 A1 E1;obtain ⟨j1,o1⟩:=(Q it).step G (fun b c h=>by simp at h) E1 R1;refine ⟨ϸ (wpIn_cond_true (by rw [ev A1 rfl]; simp_all) (wpIn_skip ?_)),by simp⟩;refine ϸ (wpIn_block (ϸ (oj bh fun n hs u o=>?_)));show ϡ ι 0 P n _ (ϖ 0 (able2 (aC i) z).length++[]) a1 W1;refine e_ O o YK (fun j ao G=>by simp_all) ?_ R1 A1;have b5:aG l (k:Η)=Α a:=by{unfold aG;simp_all};have E:((enc i a).map D.c).length=aC i:=by{rw [qF,re]};have ak:wR (Α (aC i)) ((enc i a).map D.c) 0=Α (ST (enc i a)):=Az E;have b6:(ST (enc i a)).cells? = Α ((enc i a).map D.c):=by{obtain ⟨h1,_⟩:=qZ (v:=.agg (exp i a)) (xs:=exp i a) (by grind [fN,exp,Oj]) (dE.Fy (.st i) a);rw [wG] at h1;exact h1};have co:put z 0 ((enc i a).map D.c)=(enc i a).map D.c:=by{grind [put]};refine bJ.op (op_idx (l:=l) (f:=enc i) (k:=(k:Η)) rfl rfl b5 (re i a)) dQ rfl (bJ.op (Gh rfl ak) dQ rfl (bJ.op (PT (d1:=.ptr 0 0 (aC i)) (by simp_all) rfl) dQ rfl (bJ.eff (FF (cs:=z) (xs:=(enc i a).map D.c) rfl (Rc rfl hz) rfl b6 ⟨E,by omega⟩ (show _=[Ob.cells ((enc i a).map D.c)] by simp_all)) dQ rfl (bJ.nil ?_))));intro a2 W2 M2 F2 cp R2 A2 E2;obtain ⟨b7,o2⟩:=(Q it).step j1 o1 E2 R2;refine ⟨ϸ (able_r3 (k:=(k:Η)) (st:=st) (metf:=metf) (items:=r.map fun a=>[ST (enc i a)]) dy aw ax aa hm Q a0 ab a6 K bt R2 (A2.lks fun t d ht=>?_) (by simp_all) b7 o2 (fun L=>?_) fun b b8 c6=>?_),by simp⟩;{have:=nX ht;simp only [nj,fO,NI,NE,aY] at this;rcases this with ⟨rfl,rfl⟩ | ⟨rfl,rfl⟩ | ⟨rfl,rfl⟩ | ⟨rfl,rfl⟩ | ⟨rfl,rfl⟩ | ⟨rfl,rfl⟩ <;> rfl};{simp only [Gj,L,yCz,Υ] at s;cases b9:metf a l with| none=>simp_all| some b =>refine ⟨b,rfl,fun hb=>?_⟩;rw [b9] at s;simp only [az] at s;obtain ⟨T,an,e⟩:=cQ.1 s;simp only [hb,Υ,ay] at e;have:r[it]? = Α a:=by{have:=HW (fun l:Β (TT i)=>l[0]?) S;grind};simp_all};intro F' U' R A' b' cg AA ch;rcases ch with ⟨rfl,N⟩ | ⟨rfl,N⟩;{refine Lz (ev AA rfl) (wpIn_skip ?_);show Ϫ j2 (Exit.then (c4.wpIn ι 0 P _) _) .normal A' R;show c4.wpIn ι 0 P _ A' R;refine oj h4 fun n hs u o=>?_;show ϡ ι 0 P n _ (ϖ 0 (able4 ti).length++[]) A' R;refine e_ O o YK (fun j ao G=>by rw [NH]; exact u j ao G) ?_ ((Q _).rel _ _ _ N) AA;have c7:i64.wrap ((k:Η)+1)=(k:Η)+1:=by{rw [td]; omega};refine bJ.op (eG (v:=.int .i64 (i64.wrap ((k:Η)+1))) rfl rfl rfl rfl (Z _) rfl) dQ rfl (bJ.op (mM rfl) dQ rfl (bJ.nil ?_));intro a5 W5 M5 F5 c8 R5 A5 E5;obtain ⟨j5,_⟩:=(Q _).step N (fun b c h=>by simp at h) E5 R5;have A6:eV 26 [] (fun _=>Ζ) F5 W5 (nj i l (.func (.yield ly) #[] #[]) pv ((k+1:Ε):Η)) a5.tmps:=by{refine A5.data fun t d ht=>?_;have:=nX ht;simp only [nj,fO,NI,NE,aY] at this;rcases this with ⟨rfl,rfl⟩ | ⟨rfl,rfl⟩ | ⟨rfl,rfl⟩ | ⟨rfl,rfl⟩ | ⟨rfl,rfl⟩;{refine ⟨?_,rfl⟩;show Α (D.c (C.lit (.int .i64 (i64.wrap ((k:Η)+1)))))=_;grind};all_goals exact ⟨rfl,rfl⟩};refine ⟨?_,by simp⟩;show Code.roundsIn ι 0 P _ _ (m+1) a5 W5;have ck:∃T,Gj st (fun x=>metf x l) (l.drop (k+1))=Α T/\r.drop (if b=Γ then it+1 else it)=T/\(if b=Γ then it+1 else it)≤r.length:=by{by_cases L:st a=1;{simp only [Gj,L,yCz,Υ] at s;rw [b8 L] at s;simp only [az] at s;obtain ⟨T,an,e⟩:=cQ.1 s;refine ⟨T,an,?_⟩;cases b with| true =>simp only [Υ,ay] at e ⊢;have h0:r.drop it=a::T:=by{grind};have av:it<r.length:=by{grind};refine ⟨?_,av⟩;have:=HW (Β.drop 1) h0;simpa using this| false =>grind};have hf:(st a == 1)=Θ:=by{grind};simp only [Gj,hf,bY,cq] at s;grind};grind};refine wpIn_cond_true (ev AA rfl) (wpIn_ret ?_);show EP J Jx r.length .ret A' R;exact ⟨.inr rfl,cg,_,_,.inr N⟩
theorem able_ok{g:Ε}{fn:Func}{met:TT i->Β (TT i)->Δ Λ}(dy:P.follows .mixedOrders=Γ)(hg:P.funcs[g]? = Α fn)(E:fV P fn Γ=Α (ableA (aC i) so ti tb gm z))(hm:bP P gm ⟨[.st i,.c (.sl i)],[.c .bool],λa=>met a.1 a.2.1⟩)(hz:z.length=aC i)(aa:∀a,(enc i a)[so]? = Α (.lit (.int .i64 (st a)))) (ab:∀x y:Η,gG P .lss ti (.tmp 7) (.tmp 6) (.int .i64 x) (.int .i64 y)=Α (.bool (Ι (x<y)))) (ad:∀x:Η,gG P .eql ti (.tmp 12) (.const (.int .i64 1)) (.int .i64 x) (.int .i64 1)=Α (.bool (x == 1))) (G:∀x:Η,gG P .add ti (.tmp 7) (.const (.int .i64 1)) (.int .i64 x) (.int .i64 1)=Α (.int .i64 (i64.wrap (x+1)))) (K:∀b:Λ,fZ P (Op.unary .not (.bool b))=Α (.bool (!b))) : ItSp P g ⟨[.c (.sl i)],[.c (.sl i)],λa=>Zv st (λx=>met x a.1) a.1⟩:=by intro l r hr;change Zv st (λx=>met x l) l=Α r at hr;unfold Zv at hr;split at hr;rotate_left;{grind};rename_i k;have k:=B_ k;unfold fV at E;split at E;rotate_left;{grind};rename_i c hb;split at E;rotate_left;{grind};rename_i ac rs af ak;simp only[ableA,ay,lc.mk.injEq] at E;obtain ⟨_,bd,rfl,rfl,_⟩:=E;intro ly B lb J Jx W F U hJ L o m h0;obtain ⟨N,an⟩:=o 0 F U W h0;have N:lb.size=1:=N;obtain ⟨pv,R⟩:∃pv,lb[0]? = Α pv:=⟨_,rR (by omega)⟩;obtain ⟨c',av,be,T,hh,hl,hx⟩:=an 0 _ pv rfl R;refine callsIn_wide.1 (callsIn_of_wp_marks (F:=ι) (n:=0) hg hb trivial ?_ rfl);refine wpIn_mono (Q:=EP J Jx r.length) ?_ λe a s S=>?_;rotate_left;{obtain ⟨he,hd,A,U',aw⟩:=S;have R':Rel [] (λ_=>Ζ) A s:=aw.elim (λh=>(hJ _).rel _ _ _ h) λh=>L.rel _ _ _ h;have E':dM [] (λ_=>Ζ) A s (κ a.tmps.size D.any) a.tmps:=⟨by simp,λi d v g1 g2=>by have:d=.any:=by{grind};subst this;exact .any v⟩;obtain ⟨v,hv,_⟩:=jL (P:=P) (a:=a) R' E' ak (ds:=[]) rfl;have fin:LeavesInM ι 0 P fn a.tmps (λe s=>(∃v,e=.returned v)/\∃A U',J (r.map λa=>[ST (enc i a)]).length A U' s\/Jx A U' s) a.defers .returning s:=by{rw[hd];exact ⟨v,hv,⟨v,rfl⟩,A,U',by simp_all⟩};rcases he with rfl | rfl;{exact fin};exact fin};obtain ⟨c0,bh,rfl,ax,X⟩:=xU af;obtain ⟨j0,cl,rfl,bi,a0⟩:=Km X;obtain ⟨cb,rfl,a2⟩:=inv_loop a0;have:j0=0:=by{omega};subst this;have O:mO P (λ_=>EI []):=λ_=>mZ λp hp=>by{grind};have R0:=(hJ 0).rel _ _ _ h0;have A0:eV 26 [] (λ_=>Ζ) F W [(0,.c (.lit (.func (.yield ly) #[] #[]))),(1,.c (.lit pv))] ((#[B2 (.yield ly) #[] #[]]++lb)++χ (fn.ntmps-(#[B2 (.yield ly) #[] #[]]++lb).size) undef):=by{refine ⟨by simp_all,λt d ht=>?_⟩;have:=nX ht;simp only[fO,NI,NE,aY] at this;rcases this with ⟨rfl,rfl⟩ | ⟨rfl,rfl⟩;{refine ⟨_,?_,.c (.lit _)⟩;simp_all};refine ⟨pv,?_,.c (.lit _)⟩;simp_all};refine ϸ (oj ax λa5 hs q a6=>?_);obtain ⟨o0,a7,Z⟩:=q 0 _ rfl;obtain ⟨v1,a8,a9⟩:=A0.2 1 _ rfl;have:=a9.cr;subst this;subst av;show ϡ ι 0 P a5 _ (0::(ϖ 1 2++[])) _ W;refine Kk a7 Z R0.gl A0.dx.1 rfl a8 hh (by omega) (λu hu=>hx 0 _ u rfl hu) λv hv=>?_;have A1:=eV.put (a:={ tmps:=(#[B2 (.yield ly) #[] #[]]++lb)++χ (fn.ntmps-(#[B2 (.yield ly) #[] #[]]++lb).size) undef,defers:=[] }) A0 (t:=5) (d:=.c (.cS Θ (l.map (enc i)))) (by omega) (.c hv);refine e_ (os:=[⟨Α 6,.len (.t 5),Ζ⟩,⟨Α 7,.lX (.k (.c (.lit (.int .i64 0)))),Ζ⟩]) O a6 YK (Dm q λj hj=>?_) ?_ R0 A1;{have:j=0\/j=1:=by{simp at hj;omega};rcases this with rfl | rfl <;> rfl};refine bJ.op (op_len (l:=l) (f:=enc i) rfl) dQ rfl (bJ.op (mM rfl) dQ rfl (bJ.nil ?_));intro a1 W1 M1 F1 bb R1 bc E1;obtain ⟨j1,_⟩:=(hJ 0).step h0 (λb c h=>by simp at h) E1 R1;refine ⟨?_,by simp⟩;show (Code.block 0 (Code.loop cb)).wpIn ι 0 P _ a1 W1;refine wpIn_block (wpIn_loop_rounds (l.length+1) (Pt (metf:=met) (hm:=hm) dy hz aa ab ad G K hJ L k o R m a2 l.length 0 0 r F1 _ W1 a1 (by omega) (by simp_all) rfl (T_ _) j1 (bc.data λt d ht=>?_) (by rw[bb];rfl)));have:=nX ht;simp only[nj,fO,NI,NE,aY] at this;rcases this with ⟨rfl,rfl⟩ | ⟨rfl,rfl⟩ | ⟨rfl,rfl⟩ | ⟨rfl,rfl⟩ | ⟨rfl,rfl⟩ <;> exact ⟨rfl,rfl⟩
end
end
end Go.Abs
end
section
set_option linter.unusedVariables false
set_option linter.unusedSimpArgs false
namespace Go.Abs
open Go.Proofs Go.Shelf Go.RowKit Go.Lib
variable[Gl]{P:Μ}{ρ:Ren}
def Jz{w:Τ}{o:Obj}{r:Ε}(h:r<w.heap.size):(w.alloc o).heap[r]? = w.heap[r]?:=by show (w.heap.push o)[r]? = w.heap[r]?;grind
theorem Oh{w:Τ}{b j:Ε}{arr:Φ Ο}{T:Ψ}(h:w.heap[b]? = Α (.cells arr T (0,0))):w.cell? ⟨b,j,Ζ⟩=arr[j]?:=by simp[Τ.cell?,h]
def Uy{w:Τ}{b j:Ε}{arr:Φ Ο}{T:Ψ}(h:w.heap[b]? = Α (.cells arr T (0,0))):w.frozen? ⟨b,j,Ζ⟩=Θ:=by simp[Τ.frozen?,h]
def VF{w:Τ}{b:Ε}{arr:Φ Ο}{T:Ψ}(h:w.heap[b]? = Α (.cells arr T (0,0))):w.shape? b=Α (T,arr.size):=by simp[Τ.shape?,h]
def px(w:Τ)(r t ty e:Ψ)(b o a g k so d m es:Ε)(arr n:Φ Ο)(T u:Ψ)(cs:Β Ο) (x:P.underlying r=Α (.slice e)) (hs:∀w,(Go.sizeOf e).run P w=.ok es w) (y:cs.length=tr d a * es) (hb:w.heap[b]? = Α (.cells arr T (0,0))) (p:w.heap[k]? = Α (.cells n u (0,0))) (s:∀j v,cs[j]? = Α v->n[so+j]? = Α v) (hl:o+cs.length<=arr.size) (A:∀v∈cs,v.oneCell'=Γ) : (ϯ #[r,t] ty #[.slice (Α ⟨b,o,Ζ⟩) a g,.slice (Α ⟨k,so,Ζ⟩) d m]).run P w=.ok (goInt (tr d a)) (cL w b (.cells (de arr o cs) T (0,0))):=by have hl:=I8 (P:=P) w ⟨k,so,Ζ⟩ cs (λj v h=>by rw[show (⟨k,so,Ζ⟩:Addr).add j=⟨k,so+j,Ζ⟩ from by simp[Addr.add],Oh p];simp_all);have q:=zew P T b cs o w arr hb A (by omega);simp[ϯ,Ϙ x,Builtin.lenOf,ϒ,hs,<-y,hl,q]
structure OC (P:Μ) (ρ:Ren) (es by':Ε) (nm:FS) (z:Ο):Prop where
 mixed:P.follows .mixedOrders=Γ
 f22:P.funcs[ρ.f 22]? = Α { Body2.n22 ρ with name:=nm }
 ov:∀args w,(callFunc (ρ.f 29) args).run P w=((Extern.SlicesOverlaps.overlaps #[ρ.t 24,ρ.t 24] #[ρ.t 4] args).run P w).andThen λv w'=>.ok (.value v) w'
 t0:P.underlying (ρ.t 0)=Α (ϑ.tuple #[])
 t3:P.underlying (ρ.t 3)=Α (ϑ.int IntKind.i64)
 t4:P.underlying (ρ.t 4)=Α (ϑ.bool)
 a3:∀w,(isAgg (ρ.t 3)).run P w=.ok Θ w
 z3:∀w,(Go.sizeOf (ρ.t 3)).run P w=.ok 1 w
 a4:∀w,(isAgg (ρ.t 4)).run P w=.ok Θ w
 z4:∀w,(Go.sizeOf (ρ.t 4)).run P w=.ok 1 w
 z9:∀w,(Go.sizeOf (ρ.t 9)).run P w=.ok es w
 v9:∀w,(zeroValue (ρ.t 9)).run P w=.ok z w
 t24:P.underlying (ρ.t 24)=Α (ϑ.slice (ρ.t 9))
 a24:∀w,(isAgg (ρ.t 24)).run P w=.ok Θ w
 z24:∀w,(Go.sizeOf (ρ.t 24)).run P w=.ok 1 w
 v24:∀w,(zeroValue (ρ.t 24)).run P w=.ok (Ο.slice Ζ 0 0) w
 i9:(P.info? (ρ.t 9)).map (λi=>(i.zero,i.size,i.bytes))=Α (Α z,es,by')
set_option maxHeartbeats 4000000 in
set_option maxRecDepth 100000 in
def Yn{es S:Ε}{nm:FS}{z:Ο}(L:OC P ρ es S nm z)(b n c i h m r:Ε)(arr a:Φ Ο)(T O:Ψ)(w:Τ)(hi:i<n)(hm:0<m)(U:0<es)(o:n+m≤c)(a5:n+m≤2000000)
  (Q:w.heap[b]? = Α (.cells arr T (0,0))) (R:w.heap[h]? = Α (.cells a O (0,0))) (s:h≠b) (X:c * es≤arr.size) (t:m * es≤a.size)
  (h1:∀j v,j<n * es->arr[j]? = Α v->v.oneCell'=Γ) (u:∀j v,j<m * es->a[j]? = Α v->v.oneCell'=Γ) :
  C4 P (ρ.f 22) #[.slice (Α ⟨b,0,Ζ⟩) n c,.int .i64 i,.slice (Α ⟨h,0,Ζ⟩) m r] w fun e w'=>
   e=.returned (.slice (Α ⟨b,0,Ζ⟩) (n+m) c)/\w'=cL (cL w.drew b (.cells (de arr ((i+m) * es) ((arr.toList.take (n * es)).drop (i * es))) T (0,0))) b (.cells (de (de arr ((i+m) * es) ((arr.toList.take (n * es)).drop (i * es))) (i * es) (a.toList.take (m * es))) T (0,0)):=by
 have t0:=L.t0; have t3:=L.t3; have t4:=L.t4; have a6:=L.t24; have a3:=L.a3; have z3:=L.z3; have a4:=L.a4; have z4:=L.z4; have z9:=L.z9; have v9:=L.v9; have a7:=L.a24; have a8:=L.z24; have a9:=L.v24
 have u0:=Ϙ L.t0; have u3:=Ϙ L.t3; have u4:=Ϙ L.t4; have bb:=Ϙ L.t24
 have Z:=L.mixed
 have bc:¬((m:Η)=0):=by omega
 have bd:¬((i:Η)=(n:Η)):=by omega
 have be:i64.wrap ((i:Η)+(m:Η))=(i:Η)+(m:Η):=by rw [td]; omega
 have bh:(0:Η)≤(i:Η)+(m:Η):=by omega
 have aa:i≤n:=by omega
 have bi:((i:Η)+(m:Η)).toNat=i+m:=by omega
 have bt:¬(c=i+m):=by omega
 have bu:(i:Η)≤(n:Η)+(m:Η):=by omega
 have bv:¬(c=i):=by omega
 have ab:n * es≤c * es:=Ic _ (by omega)
 have ad:(n+m) * es≤c * es:=Ic _ o
 have af:(n+m) * es=n * es+m * es:=NK ..
 have ak:(i+m) * es=i * es+m * es:=NK ..
 have an:i * es≤n * es:=Ic _ aa
 have av:(n-i) * es=n * es-i * es:=yCJ ..
 have aw:0<m * es:=Ε.mul_pos hm U
 have ax:∀lb cb,(callFunc (ρ.f 29) #[.slice (Α ⟨h,0,Ζ⟩) m r,.slice (Α ⟨b,(i+m) * es,Ζ⟩) lb cb]).run P w=.ok (.value (.bool Θ)) w:=fun lb cb=>by
  rw [L.ov,Lib.run_overlaps_apart w (ρ.t 24) (ρ.t 4) (ρ.t 9) L.t24 es L.z9 ⟨h,0,Ζ⟩ ⟨b,(i+m) * es,Ζ⟩ m r lb cb s O T a.size arr.size (VF R) (VF Q) (by omega) (Uy R) (Uy R)]
  rfl
 obtain ⟨g,x⟩:∃g,g=(arr.toList.take (n * es)).drop (i * es):=⟨_,rfl⟩
 obtain ⟨y,A⟩:∃y,y=a.toList.take (m * es):=⟨_,rfl⟩
 have a0:g.length=(n-i) * es:=by grind
 have a1:y.length=m * es:=by simp_all
 rw [←x,←A]
 have k:∀ty p sc,(ϯ #[(ρ.t 24),(ρ.t 24)] ty #[.slice (Α ⟨b,(i+m) * es,Ζ⟩) (n+m-(i+m)) p,.slice (Α ⟨b,i * es,Ζ⟩) (n+m-i) sc]).run P w.drew=.ok (goInt (tr (n+m-i) (n+m-(i+m)))) (cL w.drew b (.cells (de arr ((i+m) * es) g) T (0,0))):=fun ty p sc=>
  px w.drew _ _ ty (ρ.t 9) b ((i+m) * es) (n+m-(i+m)) p b (i * es) (n+m-i) sc es arr arr T T g L.t24 L.z9 (by grind) Q Q
   (fun j v E=>by
    grind) (by omega)
   (fun v d=>by
    rw [x] at d
    obtain ⟨j,E,e⟩:=gz (yBs d)
    simp only [Ar,yBq] at E
    exact h1 j v (by omega) (by grind))
 obtain ⟨F,q⟩:∃F,F=cL w.drew b (.cells (de arr ((i+m) * es) g) T (0,0)):=⟨_,rfl⟩
 have a2:b<w.heap.size:=(DT.1 Q).1
 have G:F.heap[b]? = Α (.cells (de arr ((i+m) * es) g) T (0,0)):=by rw [q]; exact fA a2
 have K:F.heap[h]? = Α (.cells a O (0,0)):=by rw [q,gH s]; exact R
 have N:∀(W:Τ),W.heap=F.heap->∀ty p,(ϯ #[(ρ.t 24),(ρ.t 24)] ty #[.slice (Α ⟨b,i * es,Ζ⟩) (n+m-i) p,.slice (Α ⟨h,0,Ζ⟩) m r]).run P W=.ok (goInt (tr m (n+m-i))) (cL W b (.cells (de (de arr ((i+m) * es) g) (i * es) y) T (0,0))):=fun W hW ty p=>
  px W _ _ ty (ρ.t 9) b (i * es) (n+m-i) p h 0 m r es (de arr ((i+m) * es) g) a T O y L.t24 L.z9 (by grind) (by simp_all) (by simp_all)
   (fun j v E=>by
    grind) (by grind [WC])
   (fun v d=>by
    rw [A] at d
    obtain ⟨j,E,e⟩:=gz d
    simp only [Ar,yBq] at E
    exact u j v (by omega) (by grind))
 rw [←q] at k ⊢
 clear ab ad af ak an av aw G K X t h1 u a0 a1
 go_enter L.f22,Body2.n22_ntmps ρ
 go_wp2_with (simp only [ax])
 go_region_law_o (refine step_copy_runI rfl _ _ (ρ.t 24) (ρ.t 24) rfl _ _ (by simp [B1,yv]) (by simp [B1,yv]) (k _ _ _) ?_)
 go_wp2_with (at_builtin; refine C5 _ rfl _ _ (ρ.t 24) (ρ.t 24) rfl _ _ rfl rfl (N _ rfl _ _) ?_)
 go_ret
 simp_all
set_option maxHeartbeats 4000000 in
set_option maxRecDepth 100000 in
def ins_grow{es x:Ε}{nm:FS}{z:Ο}(L:OC P ρ es x nm z)(b n c i u m vc:Ε)(arr d:Φ Ο)(T Tv:Ψ)(w:Τ)(hi:i<n)(hm:0<m)(bi:0<es)(bt:n≤c)(s:c<n+m)(o:(n+m) * x≤140737488355328)(bu:n+m≤2000000)(bv:z.cells.size=es)
  (hh:w.heap[b]? = Α (.cells arr T (0,0))) (hv:w.heap[u]? = Α (.cells d Tv (0,0))) (aa:c * es≤arr.size) (y:m * es≤d.size)
  (h1:∀j v,j<n * es->arr[j]? = Α v->v.oneCell'=Γ) (ab:∀j v,j<m * es->d[j]? = Α v->v.oneCell'=Γ) :
  C4 P (ρ.f 22) #[.slice (Α ⟨b,0,Ζ⟩) n c,.int .i64 i,.slice (Α ⟨u,0,Ζ⟩) m vc] w fun e w'=>∃G a,n+m≤G/\a.size=G * es/\(∀j,j<i * es->a[j]? = arr[j]?) /\
   e=.returned (.slice (Α ⟨w.heap.size,0,Ζ⟩) (n+m) G)/\w'=cL (cL (w.alloc (.cells a (ρ.t 9))).drew w.heap.size (.cells (de a (i * es) (d.toList.take (m * es))) (ρ.t 9) (0,0))).drew w.heap.size (.cells (de (de a (i * es) (d.toList.take (m * es))) ((i+m) * es) ((arr.toList.take (n * es)).drop (i * es))) (ρ.t 9) (0,0)):=by
 have t0:=L.t0; have t3:=L.t3; have t4:=L.t4; have bw:=L.t24; have a3:=L.a3; have z3:=L.z3; have a4:=L.a4; have z4:=L.z4; have z9:=L.z9; have v9:=L.v9; have b0:=L.a24; have b1:=L.z24; have b2:=L.v24
 have u0:=Ϙ L.t0; have u3:=Ϙ L.t3; have u4:=Ϙ L.t4; have b3:=Ϙ L.t24
 have ad:=L.mixed
 obtain ⟨i0,af,ak,A,E⟩:=info_parts L.i9
 have b4:¬((m:Η)=0):=by omega
 have b5:¬((i:Η)=(n:Η)):=by omega
 have b6:(c:Η)<(n:Η)+(m:Η):=by omega
 have b7:i64.wrap ((i:Η)+(m:Η))=(i:Η)+(m:Η):=by rw [td]; omega
 have b8:(0:Η)≤(i:Η)+(m:Η):=by omega
 have an:i≤n:=by omega
 have b9:((i:Η)+(m:Η)).toNat=i+m:=by omega
 have cg:(i:Η)≤(n:Η):=by omega
 have av:(n:Η)+(m:Η)-(i:Η)=((n+m-i:Ε):Η):=by omega
 have F:i+(n+m-i)=n+m:=by omega
 have aw:n * es≤c * es:=Ic _ (by omega)
 have ax:(n+m) * es=n * es+m * es:=NK ..
 have a0:(i+m) * es=i * es+m * es:=NK ..
 have a1:i * es≤n * es:=Ic _ an
 have a2:(n-i) * es=n * es-i * es:=yCJ ..
 have a5:(n+m-i) * es=(n+m) * es-i * es:=yCJ ..
 obtain ⟨G,hG⟩:∃G,G=grownCap w (n+m) c (ρ.t 9):=⟨_,rfl⟩
 have K:n+m≤G:=by grind [Go.grownCap_ge]
 have a6:(n+m) * es≤G * es:=Ic _ K
 have N:(G-(n+m)) * es=G * es-(n+m) * es:=yCJ ..
 have p:(ϒ i0.size i (.slice (Α ⟨b,0,Ζ⟩) i c)).run P w.drew=.ok (arr.toList.take (i * es)).toArray w.drew:=by
  rw [A]
  have hl:=I8 (P:=P) w.drew ⟨b,0,Ζ⟩ (arr.toList.take (i * es)) (fun j v h=>by
   grind [Go.Addr.add_lit,Oh,Go.World.drew])
  rw [show (arr.toList.take (i * es)).length=i * es from by grind] at hl
  exact hl
 obtain ⟨a,O⟩:∃a:Φ Ο,a=(arr.toList.take (i * es)).toArray++Ϗ z.cells (n+m-i)++Ϗ z.cells (G-(n+m)):=⟨_,rfl⟩
 have a7:a.size=G * es:=by
  grind [iG]
 have a8:∀j,j<i * es->a[j]? = arr[j]?:=fun j hj=>by
  grind
 have a9:∀ty,(Builtin.append_ #[(ρ.t 24),(ρ.t 3)] ty #[.slice (Α ⟨b,0,Ζ⟩) i c,.int .i64 ((n:Η)+(m:Η)-(i:Η))]).run P w =
   .ok (.slice (Α ⟨w.heap.size,0,Ζ⟩) (n+m) G) (w.drew.alloc (.cells a (ρ.t 9))):=fun ty=>by
  have h:=Lib.run_append_grow_zeros w (ρ.t 24) (ρ.t 3) ty (ρ.t 9) i0 _ .i64 .i64 L.t24 L.t3 af ak (Α ⟨b,0,Ζ⟩) i c (arr.toList.take (i * es)) p (n+m-i) (by omega) (by omega) (by omega) (by omega)
   (by rw [E]; exact kz (Ic _ (by omega)) (kz o (by omega))) (by rw [E,F]; exact growslice_fits s o)
  simp_all
 obtain ⟨Q,R⟩:∃Q,Q=(arr.toList.take (n * es)).drop (i * es):=⟨_,rfl⟩
 obtain ⟨g,S⟩:∃g,g=d.toList.take (m * es):=⟨_,rfl⟩
 have bb:Q.length=(n-i) * es:=by grind
 have bc:g.length=m * es:=by simp_all
 have U:b<w.heap.size:=(DT.1 hh).1
 have X:u<w.heap.size:=(DT.1 hv).1
 obtain ⟨q,k⟩:∃q,q=(w.alloc (.cells a (ρ.t 9))).drew:=⟨_,rfl⟩
 have q1:q.heap[w.heap.size]? = Α (.cells a (ρ.t 9) (0,0)):=by rw [k]; exact heap_alloc_new w _
 have q2:q.heap[u]? = Α (.cells d Tv (0,0)):=by rw [k]; exact (Jz X).trans hv
 have q3:q.heap[b]? = Α (.cells arr T (0,0)):=by rw [k]; exact (Jz U).trans hh
 have q4:w.heap.size<q.heap.size:=(DT.1 q1).1
 have Z:∀(W:Τ),W.heap=q.heap->∀ty t,(ϯ #[(ρ.t 24),(ρ.t 24)] ty #[.slice (Α ⟨w.heap.size,i * es,Ζ⟩) (n+m-i) t,.slice (Α ⟨u,0,Ζ⟩) m vc]).run P W=.ok (goInt (tr m (n+m-i))) (cL W w.heap.size (.cells (de a (i * es) g) (ρ.t 9) (0,0))):=fun W hW ty t=>
  px W _ _ ty (ρ.t 9) w.heap.size (i * es) (n+m-i) t u 0 m vc es a d (ρ.t 9) Tv g L.t24 L.z9 (by grind) (by simp_all) (by simp_all)
   (fun j v hj=>by
    grind) (by omega)
   (fun v bd=>by
    grind [ϗ])
 have r:∀(W:Τ),W.heap=(cL q w.heap.size (.cells (de a (i * es) g) (ρ.t 9) (0,0))).heap->∀ty t sc,(ϯ #[(ρ.t 24),(ρ.t 24)] ty #[.slice (Α ⟨w.heap.size,(i+m) * es,Ζ⟩) (n+m-(i+m)) t,.slice (Α ⟨b,i * es,Ζ⟩) (n-i) sc]).run P W=.ok (goInt (tr (n-i) (n+m-(i+m)))) (cL W w.heap.size (.cells (de (de a (i * es) g) ((i+m) * es) Q) (ρ.t 9) (0,0))):=fun W hW ty t sc=>
  px W _ _ ty (ρ.t 9) w.heap.size ((i+m) * es) (n+m-(i+m)) t b (i * es) (n-i) sc es (de a (i * es) g) arr (ρ.t 9) T Q L.t24 L.z9 (by grind) (by grind [fA]) (by grind [gH])
   (fun j v hj=>by
    grind) (by grind [WC])
   (fun v bd=>by
    grind [ϗ])
 have be:G≤9223372036854775807:=by
  grind [Go.grownCap_le_maxLen,Go.maxLen]
 have ch:¬(G=i):=by omega
 have bh:¬(G=i+m):=by omega
 have ck:¬(c=i):=by omega
 rw [←R,←S]
 clear aw ax a0 a1 a2 a5 a6 N q1 q2 q3 q4 aa y h1 ab bb bc av F p O hG U X R S
 subst k
 have hF:((cL (w.alloc (.cells a (ρ.t 9))).drew w.heap.size (.cells (de a (i * es) g) (ρ.t 9) (0,0))).drew).heap=(cL (w.alloc (.cells a (ρ.t 9))).drew w.heap.size (.cells (de a (i * es) g) (ρ.t 9) (0,0))).heap:=rfl
 go_enter L.f22,Body2.n22_ntmps ρ
 go_wp2_with (first
  | (at_builtin; refine Lib.wpList_append_run _ rfl _ _ _ _ rfl _ _ rfl rfl _ _ (a9 _) ?_)
  | (at_builtin; refine C5 _ rfl _ _ (ρ.t 24) (ρ.t 24) rfl _ _ rfl rfl (Z _ rfl _ _) ?_)
  | (at_builtin; refine C5 _ rfl _ _ (ρ.t 24) (ρ.t 24) rfl _ _ rfl rfl (r _ rfl _ _ _) ?_))
 go_region_law_o (refine step_copy_runI rfl _ _ (ρ.t 24) (ρ.t 24) rfl _ _ (by simp [B1,yv]) (by simp [B1,yv]) (r _ hF _ _ _) ?_)
 go_wp2
 go_ret
 exact ⟨G,a,K,a7,a8,rfl,rfl⟩
end Go.Abs
end
section
namespace Go.Abs
open Go.Proofs Go.Shelf
noncomputable section
section
variable[Gl]{P:Μ}{ρ:Ren}{V:au}{M:Ε->Δ Ε}{Fz:Ε->Prop}{w:Τ}
def XZ{e p:Φ Ο}{n m k es:Ε}{arr:Φ Ο}{a g:Β D}(hk:k<=n)(r:a.length=n * es)(o:g.length=m * es) (x:∀j,j<k * es->arr[j]? = e[j]?) (s:∀j,j<m * es->arr[k * es+j]? = p[j]?) (t:∀j,k * es<=j->j<n * es->arr[j+m * es]? = e[j]?) (Q:D->Ο->Prop) (y:∀(i:Ε) d v,a[i]? = Α d->e[i]? = Α v->Q d v) (A:∀(i:Ε) d v,g[i]? = Α d->p[i]? = Α v->Q d v) : ∀(i:Ε) d v,(a.take (k * es)++g++a.drop (k * es))[i]? = Α d->arr[i]? = Α v->Q d v:=λi d v b E=>by have F:k * es<=n * es:=Ic _ hk;have q:(a.take (k * es)).length=k * es:=by{simp_all};by_cases h:i<k * es;{grind};by_cases G:i<k * es+m * es;{rw[H_ (by simp_all),QB (by omega),q] at b;have:=s (i-k * es) (by omega);grind};rw[QB (by simp_all),yBY] at b;simp only[vZ,q,o] at b;have u:=(fK.1 b).1;have:=t (k * es+(i-(k * es+m * es))) (by omega) (by omega);grind
def Uj{c:Ε}{o o':Obj}:(cL (cL w c o) c o').heap=(cL w c o').heap:=by simp only[cL];simp_all
def RN{o o':Obj}:(cL (w.alloc o) w.heap.size o').heap=(w.alloc o').heap:=by show (w.heap.push o).setIfInBounds w.heap.size o'=w.heap.push o';grind
end
section
variable[Gl][Y:Ty]{P:Μ}{ρ:Ren}{α:Type}{f:α->Β C}{es:Ε}
def flat_ins(b:∀a,(f a).length=es){l v:Β α}{k:Ε}(hk:k<=l.length):((l.take k++v++l.drop k).flatMap f).map D.c=((l.flatMap f).map D.c).take (k * es)++(v.flatMap f).map D.c++((l.flatMap f).map D.c).drop (k * es):=by have e:(l.flatMap f).map D.c=((l.take k).flatMap f).map D.c++((l.drop k).flatMap f).map D.c:=by{grind [Β.take_append_drop]};grind [UL,Β.length_take]
def Su{af:Ε}{nm:FS}{z:Ο}(L:OC P ρ es af nm z)(a6:z.cells.size=es)(S:0<es)(a7:af<=1000)(hf:∀a,(f a).length=es){l v:Β α}{k:Ε}(hk:k<l.length)(hm:0<v.length)(ak:l.length+v.length<=1000000) : Ok P (ρ.f 22) [OS es 0 l.length,.c (.lit (.int .i64 (k:Η))),OS es 1 v.length] [OB f l,OB f v] (OS es 0 (l.take k++v++l.drop k).length) [OB f (l.take k++v++l.drop k),OB f v]:=by intro M Fz w vs R hs hv;have a8:vs.size=3:=hs;obtain ⟨v0,v1,v2,rfl⟩:∃v0 v1 v2,vs=#[v0,v1,v2]:=by{obtain ⟨xs⟩:=vs;match xs,a8 with|[a,b,c],_=>simp_all};have g0:=hv 0 _ v0 rfl rfl;have g1:=(hv 1 _ v1 rfl rfl).cr;have g2:=hv 2 _ v2 rfl rfl;subst g1;have t:([OB f l,OB f v]:au)[0]? = Α (.cells ((l.flatMap f).map D.c)):=rfl;have an:([OB f l,OB f v]:au)[1]? = Α (.cells ((v.flatMap f).map D.c)):=rfl;have L0:((l.flatMap f).map D.c).length=l.length * es:=by{rw[qF,UL hf]};have L1:((v.flatMap f).map D.c).length=v.length * es:=by{rw[qF,UL hf]};have nn:(l.take k++v++l.drop k).length=l.length+v.length:=by{grind};have bw:k * es<l.length * es:=yBC hk S;have b0:(l.length+v.length) * es=l.length * es+v.length * es:=NK ..;have b1:0<v.length * es:=Ε.mul_pos hm S;have b2:(k+v.length) * es=k * es+v.length * es:=NK ..;rcases g0.fJ (Rc t L0) with ⟨_,e,_⟩ | ⟨c,o,cap,m,T,hM,rfl,⟨a9,b3⟩,ho,hh,bv,_⟩;{omega};rcases g2.fJ (Rc an L1) with ⟨_,e,_⟩ | ⟨cv,ov,W,n,Tv,av,rfl,⟨b4,b5⟩,b6,Z,bb,_⟩;{omega};have b7:∀x y:Ε,0<x->x<=y->y≠0:=λx y h h'=>by{omega};obtain rfl:o=0:=by{omega};obtain rfl:ov=0:=by{omega};obtain ⟨F,T',aa,_,aw⟩:=R.row hM t;rw[hh] at aa;simp only[ay,ϙ,Nz] at aa;obtain ⟨rfl,rfl⟩:=aa;obtain ⟨bc,b8,K,_,ax⟩:=R.row av an;rw[Z] at K;simp only[ay,ϙ,Nz] at K;obtain ⟨rfl,rfl⟩:=K;have bd:cv≠c:=λe=>by{have:=R.inj 1 0 c (e▸av) hM;omega};have o1:∀j x,j<l.length * es->m[j]? = Α x->x.oneCell'=Γ:=λj x hj hx=>by{grind};have o2:∀j x,j<v.length * es->n[j]? = Α x->x.oneCell'=Γ:=λj x hj hx=>by{grind};have N:cap * es<=m.size:=by{omega};have s:v.length * es<=n.size:=by{omega};have hS:=λh:l.length+v.length<=cap=>Yn L c l.length cap k cv v.length W m n T Tv w hk hm S h (by omega) hh Z bd N s o1 o2;have hG:=λh:cap<l.length+v.length=>ins_grow L c l.length cap k cv v.length W m n T Tv w hk hm S a9 h (kz (yCw ak a7) (by omega)) (by omega) a6 hh Z N s o1 o2;have a0:((m.toList.take (l.length * es)).drop (k * es)).length=l.length * es-k * es:=by{grind};have a1:(n.toList.take (v.length * es)).length=v.length * es:=by{grind};have b9:∀j,k * es<=j->j<l.length * es->((m.toList.take (l.length * es)).drop (k * es))[j-k * es]? = m[j]?:=λj h h'=>by{rw[yBY,show k * es+(j-k * es)=j by omega,F7,Ν h'];simp};have cg:∀j,j<v.length * es->(n.toList.take (v.length * es))[j]? = n[j]?:=λj h=>by{grind};generalize (m.toList.take (l.length * es)).drop (k * es)=CS at *;generalize n.toList.take (v.length * es)=VS at *;have fin:=flat_ins hf (l:=l) (v:=v) (k:=k) (by omega);have Lf:(((l.take k++v++l.drop k).flatMap f).map D.c).length=(l.length+v.length) * es:=by{grind};have R1:Rel [OB f l,OB f v] M Fz w.drew:=R.heap rfl ⟨rfl,rfl,rfl⟩;have E1:bI [OB f l,OB f v] M Fz w [OB f l,OB f v] M Fz w.drew:=bI.heap R rfl ⟨rfl,rfl,rfl⟩;have be:c<w.heap.size:=(DT.1 hh).1;have row:∀(A:Φ Ο)(M':Ε->Δ Ε)(w':Τ),bI [OB f l,OB f v] M Fz w [OB f (l.take k++v++l.drop k),OB f v] M' Fz w'->(∀j,j<k * es->A[j]? = m[j]?)->(∀j,j<v.length * es->A[k * es+j]? = n[j]?)->(∀j,k * es<=j->j<l.length * es->A[j+v.length * es]? = m[j]?) -> ∀(i:Ε) d x,(((l.take k++v++l.drop k).flatMap f).map D.c)[i]? = Α d->A[i]? = Α x->σ [OB f (l.take k++v++l.drop k),OB f v] M' Fz w' d x/\x.oneCell'=Γ:=λA M' w' E hA hB hC=>by{rw[fin];exact XZ (by omega) L0 L1 hA hB hC (λd x=>σ [OB f (l.take k++v++l.drop k),OB f v] M' Fz w' d x/\x.oneCell'=Γ) (λi d x h1 h2=>⟨(aw i d x h1 h2).1.mono E,(aw i d x h1 h2).2⟩) (λi d x h1 h2=>⟨(ax i d x h1 h2).1.mono E,(ax i d x h1 h2).2⟩)};have U:(Ob.cells ((l.flatMap f).map D.c)).sz<(OB f (l.take k++v++l.drop k)).sz:=by{show ((l.flatMap f).map D.c).length<(((l.take k++v++l.drop k).flatMap f).map D.c).length;omega};by_cases q:l.length+v.length<=cap;{refine (hS q).mono λe w' he=>?_;obtain ⟨rfl,rfl⟩:=he;have bh:(l.length+v.length) * es<=cap * es:=Ic _ q;generalize ab:de m ((k+v.length) * es) CS=u;have bi:u.size=m.size:=by{grind [WC]};generalize ad:de u (k * es) VS=p;have bt:p.size=m.size:=by{grind [WC]};rw[KJ];have X:∀O T1 fr,Ϣ m T (0,0)=.cells O T1 fr->∃F,Ϣ p T (0,0)=.cells F T1 fr/\F.size=O.size:=λO T1 fr h=>by{grind};have EV:=bI.tQ (ob':=OB f (l.take k++v++l.drop k)) R1 hM t hh (yCp U) X;have a2:=E1.trans EV (cO _);have g:∀j,p[j]? = if k * es<=j/\j<k * es+v.length * es then VS[j-k * es]? else u[j]?:=λj=>by{rw[<-ad,cF (by omega),a1]};have g':∀j,u[j]? = if (k+v.length) * es<=j/\j<(k+v.length) * es+(l.length * es-k * es) then CS[j-(k+v.length) * es]? else m[j]?:=λj=>by{rw[<-ab,cF (by omega),a0]};have hr:=row p M _ a2 (λj hj=>by rw[g,Κ (by omega),g',Κ (by omega)]) (λj hj=>by rw[g,Ν (by omega),yBR];grind) (λj h h'=>by rw[g,Κ (by omega),g',Ν (by omega),show j+v.length * es-(k+v.length) * es=j-k * es by omega];grind);refine ⟨_,M,Fz,rfl,R1.tQ hM t hh (yCp U) X ⟨p,T,rfl,by omega,hr⟩,?_,a2⟩;rw[nn];refine .sl _ _ _ (by simp) (OB f (l.take k++v++l.drop k)) rfl (by show _<=(((l.take k++v++l.drop k).flatMap f).map D.c).length;omega) (λ_=>.inr ⟨c,0,p,T,hM,rfl,rfl,⟨q,by omega⟩,.inl rfl,fA be,by omega,by omega⟩)};refine (hG (by omega)).mono λe w' he=>?_;obtain ⟨G,r,a5,ch,bu,rfl,rfl⟩:=he;have bh:(l.length+v.length) * es<=G * es:=Ic _ a5;generalize ab:de r (k * es) VS=u;have bi:u.size=r.size:=by{grind [WC]};generalize ad:de u ((k+v.length) * es) CS=p;have bt:p.size=r.size:=by{grind [WC]};have EV:=bI.move (o':=.cells p (ρ.t 9)) (ob':=OB f (l.take k++v++l.drop k)) R t U;have Q:(cL (cL (w.alloc (.cells r (ρ.t 9))).drew w.heap.size (.cells u (ρ.t 9) (0,0))).drew w.heap.size (.cells p (ρ.t 9) (0,0))).heap=(w.alloc (.cells p (ρ.t 9))).heap:=by{have e1:(cL (cL (w.alloc (.cells r (ρ.t 9))).drew w.heap.size (.cells u (ρ.t 9) (0,0))).drew w.heap.size (.cells p (ρ.t 9) (0,0))).heap=(cL (cL (w.alloc (.cells r (ρ.t 9))) w.heap.size (.cells u (ρ.t 9) (0,0))) w.heap.size (.cells p (ρ.t 9) (0,0))).heap:=rfl;rw[e1,Uj,RN]};have g:∀j,p[j]? = if (k+v.length) * es<=j/\j<(k+v.length) * es+(l.length * es-k * es) then CS[j-(k+v.length) * es]? else u[j]?:=λj=>by{rw[<-ad,cF (by omega),a0]};have g':∀j,u[j]? = if k * es<=j/\j<k * es+v.length * es then VS[j-k * es]? else r[j]?:=λj=>by{rw[<-ab,cF (by omega),a1]};have hr:=row p _ _ EV (λj hj=>by rw[g,Κ (by omega),g',Κ (by omega),bu j hj]) (λj hj=>by rw[g,Κ (by omega),g',Ν (by omega),yBR];grind) (λj h h'=>by rw[g,Ν (by omega),show j+v.length * es-(k+v.length) * es=j-k * es by omega];grind);have RM:=R.move (o':=.cells p (ρ.t 9)) (ob':=OB f (l.take k++v++l.drop k)) t U ⟨p,ρ.t 9,rfl,by omega,hr⟩;have ck:(w.alloc (.cells p (ρ.t 9))).os=w.os/\(w.alloc (.cells p (ρ.t 9))).tape=w.tape/\(w.alloc (.cells p (ρ.t 9))).output=w.output:=⟨rfl,rfl,rfl⟩;have RF:=RM.heap Q ⟨rfl,rfl,rfl⟩;have EF:=EV.trans (bI.heap RM Q ⟨rfl,rfl,rfl⟩) (cO _);refine ⟨_,_,Fz,rfl,RF,?_,?_⟩;rotate_left;{exact EF};rw[nn];refine .sl _ _ _ (by simp) (OB f (l.take k++v++l.drop k)) rfl (by show _<=(((l.take k++v++l.drop k).flatMap f).map D.c).length;omega) (λ_=>.inr ⟨w.heap.size,0,p,ρ.t 9,by simp[xR],rfl,rfl,⟨a5,by omega⟩,.inl rfl,?_,by omega,by omega⟩);grind [Go.heap_alloc_new]
end
end
end Go.Abs
end
section
namespace Go.Abs
open Go.Proofs Go.Shelf
noncomputable section
variable[Gl][Y:Ty]
def PI{α:Type}(l v:Β α)(k:Η):Δ (Β α):=if 0<=k/\k<l.length/\0<v.length/\l.length+v.length<=1000000 then Α (l.take k.toNat++v++l.drop k.toNat) else Ζ
def orE{α:Type}(a b:Δ α):Δ α:=match a with | Α x=>Α x | Ζ=>b
def cP.or{P:Μ}{g:ύ}{o:CT}{s:Β CT}{f1 f2:dH o.items->Δ (qK s)}(u:cP P g ⟨o,s,f1⟩)(Q:cP P g ⟨o,s,f2⟩):cP P g ⟨o,s,fun x=>orE (f1 x) (f2 x)⟩:=⟨u.1,fun x y A V E z F G j K hs O=>by change orE (f1 x) (f2 x)=Α y at j;cases h:f1 x with| some R =>rw [h] at j;exact u.2 x y A V E z F G (by rw [←j]; exact h) K hs O| none =>rw [h] at j;exact Q.2 x y A V E z F G j K hs O⟩
def Jq{P:Μ}{ρ:Ren}{ii es d:Ε}{s:FS}{z:Ο}(L:OC P ρ es d s z)(m:Ρ es (aC ii)=Γ)(t:a_ P (ρ.f 22)=Γ)(n:Ρ z.cells.size es=Γ)(o:η 0 es=Γ)(p:Ε.ble d 1000=Γ) : cP P (ρ.f 22) ⟨.mk [.p (.hd 0),.v (.c (.int .i64)),.p (.hd 1)] [] [.row ii,.row ii] [] [] [],[.mk [.p (.hd 0)] [.w 0 ii] [] [] [] []],λx=>PI (α:=TT ii) x.1 x.2.1 x.2.2⟩:=by have:=c_ m;subst this;refine ⟨t,λx y u V K z A E b r a q=>?_⟩;dsimp only at b r a;change dH [It.ls ii,It.ls ii,It.cc (.int .i64)] at x;change dH [It.ls ii] at y;have g:Α ([TV.c (.own ii 0 0 (τ (α:=TT ii) x.1)),TV.c (.d (.c (.lit (.int .i64 x.2.2)))),TV.c (.own ii 1 0 (τ (α:=TT ii) x.2.1))],[TB.row ii x.1 0 0,TB.row ii x.2.1 0 0])=Α (u,V):=by{rw[<-r];have e:dO (CT.items (.mk [.p (.hd 0),.v (.c (.int .i64)),.p (.hd 1)] [] [.row ii,.row ii] [] [] [])) x=[⟨.ls ii,x.1⟩,⟨.ls ii,x.2.1⟩,⟨.cc (.int .i64),x.2.2⟩]:=rfl;unfold jS;rw[e];simp only[CT.pl,CT.nb,CT.out,bZ,dA,iQ,xp,rQ,Du,dX,dR,Bh,vH,uL,yBm,rY]};simp only[ay,aY] at g;obtain ⟨rfl,rfl⟩:=g;simp only[rJ,ay,Y_] at a;obtain ⟨rfl,rfl⟩:=a;have j:Α ([TV.c (.own ii 0 1 (τ (α:=TT ii) y))],[TB.row ii y 1 1,TB.row ii x.2.1 0 0])=Α (A,E):=by{rw[<-q];have e:dO (CT.items (.mk [.p (.hd 0)] [.w 0 ii] [] [] [] [])) y=[⟨.ls ii,y⟩]:=rfl;unfold jS;rw[e];simp only[CT.pl,CT.nb,CT.out,bZ,dA,iQ,xp,rQ,Du,dX,dR,Bh,Ez,vH,uL,yBm,yCj,yC5]};simp only[ay,aY] at j;obtain ⟨rfl,rfl⟩:=j;obtain ⟨l,v,k⟩:=x;change Β (TT ii) at l;change Β (TT ii) at v;change Β (TT ii) at y;change Η at k;change PI l v k=Α y at b;unfold PI at b;split at b;{rename_i h;simp only[ay] at b;subst b;obtain ⟨N,O,F,G⟩:=h;have:=Su L (c_ n) (uM.mp o) (B_ p) (re ii) (l:=l) (v:=v) (k:=k.toNat) (by omega) F G;rw[show ((k.toNat:Ε):Η)=k by omega] at this;exact this};simp at b
end
end Go.Abs
end
section
namespace Go.Abs
open Go.Proofs Go.Sort Go.RowKit
noncomputable section
structure Ut (P:Μ) (g:ύ):Prop where
 en:a_ P g=Γ
 run:∀(blk off cap:Ε)(zs:Β Η)(w:Τ),Holds ro w blk off zs.toArray->blk<w.heap.size->zs.length<4611686018427387904->C4 P g #[.slice (Α ⟨blk,off,Ζ⟩) zs.length cap] w λe w'=>e=.returned (.tuple #[])/\∃n os,w'=grow (putRow ro (ey w n) blk off (zs.mergeSort λx y=>Ι (x<=y)).toArray) os
 nil:∀(p:Δ Addr)(cap:Ε)(w:Τ),C4 P g #[.slice p 0 cap] w λe w'=>e=.returned (.tuple #[])/\w'=w
structure Cz (P:Μ) (g:ύ):Prop where
 en:a_ P g=Γ
 run:∀(blk off cap:Ε)(zs:Β Η)(w:Τ),Holds ro w blk off zs.toArray->zs.length<=9223372036854775807->zs.length<=cap->C4 P g #[.slice (Α ⟨blk,off,Ζ⟩) zs.length cap] w λe w'=>e=.returned (.slice (Α ⟨blk,off,Ζ⟩) (ώ zs).length cap)/\∃q,w'=putRow ro (ey w q) blk off (ώ zs++κ (zs.length-(ώ zs).length) 0).toArray
 nil:∀(a:Δ Addr)(cap:Ε)(w:Τ),C4 P g #[.slice a 0 cap] w λe w'=>e=.returned (.slice a 0 cap)/\w'=w
def Td(x:Η):Β Η->Β Η|[]=>[x]|y::l=>if x<=y then x::y::l else y::Td x l
def PX:Β Η->Β Η|[]=>[]|x::l=>Td x (PX l)
theorem Cq(x:Η):∀l,(Td x l).Perm (x::l)|[]=>.refl _|y :: l => by unfold Td;split;{exact .refl _};exact ((Cq x l).cons y).trans (.swap ..)
theorem HN:∀l,(PX l).Perm l|[]=>.refl _|x::l=>(Cq x _).trans ((HN l).cons x)
theorem DF(x:Η):∀{l:Β Η},l.Pairwise (λa b=>Ι (a<=b)=Γ)->(Td x l).Pairwise λa b=>Ι (a<=b)=Γ|[],_=>by simp[Td]|y :: l, h => by have e:=yBy.1 h;unfold Td;split;{rename_i c;refine yBy.2 ⟨λa d=>?_,h⟩;rcases fO.1 d with rfl | d;{simpa using c};have:=e.1 a d;simp at this ⊢;omega};rename_i c;refine yBy.2 ⟨λa d=>?_,DF x e.2⟩;rcases fO.1 ((Cq x l).mem_iff.1 d) with rfl | d;{simp;omega};exact e.1 a d
theorem AV:∀l,(PX l).Pairwise λa b=>Ι (a<=b)=Γ|[]=>.nil|x::l=>DF x (AV l)
def OR(l:Β Η):PX l=l.mergeSort λx y=>Ι (x<=y):=(Β.mergeSort_of_pairwise (AV l)).symm.trans (Go.mergeSort_of_perm_i (HN l))
def Oo{α:Type}(d:α->Η)(c:Η->α)(l:Β α):Δ (Β α):=if l.length<=1000000 then Α ((PX (l.map d)).map c) else Ζ
def OP{α:Type}(d:α->Η)(c:Η->α)(l:Β α):Δ (Β α×Β α):=if l.length<=1000000 then Α (l++[c 0],(ώ (l.map d)).map c) else Ζ
abbrev dI(k:Η):D:=.c (.lit (.int .i64 k))
variable[Gl]
def VX{V:au}{M:Ε->Δ Ε}{Fz:Ε->Prop}{w:Τ}(R:Rel V M Fz w){b c n:Ε}{os:Φ Obj}{arr:Φ Ο}{T:Ψ}(u:M b=Α c){zs a:Β Η}(hb:V[b]? = Α (.cells (zs.map dI))) (q:w.heap[c]? = Α (.cells arr T (0,0))) (hl:a.length=zs.length) (A:zs.length<=arr.size) : Rel (V.set b (.cells (a.map dI))) M Fz (grow (putRow ro (ey w n) c 0 a.toArray) os)/\bI V M Fz w (V.set b (.cells (a.map dI))) M Fz (grow (putRow ro (ey w n) c 0 a.toArray) os)/\(grow (putRow ro (ey w n) c 0 a.toArray) os).heap[c]? = Α (.cells (putCells ro 0 a.toArray arr) T (0,0)):=by have E:c<w.heap.size:=(DT.1 q).1;have O:(putCells ro 0 a.toArray arr).size=arr.size:=by{simp[putCells]};have j:∀e r s,Ϣ arr T (0,0)=.cells e r s->∃m,Ϣ (putCells ro 0 a.toArray arr) T (0,0)=.cells m r s/\m.size=e.size:=λe r s h=>by{simp_all};have o:(Ob.cells (zs.map dI)).sz<=(Ob.cells (a.map dI)).sz:=by{grind [Ob.sz]};have cells:∀(i:Ε) k,a[i]? = Α k->(putCells ro 0 a.toArray arr)[i]? = Α (ro k):=λi k hk=>by{have hi:i<a.length:=(fK.1 hk).1;have F:i<arr.size:=by{omega};simp only[putCells,Φ.getElem?_mapIdx,rR F,Bj];simp_all};have G:=bI.tQ (ob':=.cells (a.map dI)) R u hb q o j;have x:=R.tQ (ob':=.cells (a.map dI)) u hb q o j ⟨_,T,rfl,by simp_all,λi d v y t=>by rw[jq,cA] at y;obtain ⟨k,hk,rfl⟩:=y;rw[cells i k hk] at t;simp only[ay] at t;subst t;exact ⟨.c (.lit _),rfl⟩⟩;have p:=heap_sorted_i (n:=n) (os:=os) a.toArray q;have B:Below (cL w c (.cells (putCells ro 0 a.toArray arr) T (0,0))).heap.size (cL w c (.cells (putCells ro 0 a.toArray arr) T (0,0))) (grow (putRow ro (ey w n) c 0 a.toArray) os):=by{obtain ⟨K,L,N,Q,S⟩:=grownBy_sorted_i (w:=w) (g:=c) (n:=n) (os:=os) a.toArray;refine ⟨K,L,N,by simp_all,λk hk=>?_⟩;grind [fA,gH]};exact ⟨x.below B,G.trans (bI.below x B) (by simp),p⟩
def KL{V:au}{M:Ε->Δ Ε}{Fz:Ε->Prop}{w:Τ}(R:Rel V M Fz w){b c:Ε}{arr:Φ Ο}{T:Ψ}(h:M b=Α c){zs:Β Η}(hb:V[b]? = Α (.cells (zs.map dI)))(e:w.heap[c]? = Α (.cells arr T (0,0)))(j:zs.length<=arr.size) : Holds ro w c 0 zs.toArray:=by obtain ⟨g,k,a,hl,d⟩:=R.row h hb;rw[e] at a;simp only[ay,ϙ,Nz] at a;obtain ⟨rfl,rfl⟩:=a;refine holds_of_block_i e (YM λi=>?_);by_cases hi:i<zs.length;{rw[F7,Ν hi,OE,jq,eW hi,rR (by omega)];have:=(d i (dI zs[i]) (arr[i]'(by omega)) (by simp[hi]) (rR _)).1.cr;simp_all};simp_all
variable[Y:Ty]
def sort_run{P:Μ}{g:ύ}(K:Ut P g){zs:Β Η}(t:zs.length<=1000000) : Ok P g [.sl 0 0 zs.length 1 (zs.length * 1)] [.cells (zs.map dI)] (.aW []) [.cells ((zs.mergeSort λx y=>Ι (x<=y)).map dI)]:=by intro M Fz w u R hs G;obtain ⟨k,rfl⟩:∃k,u=#[k]:=by{obtain ⟨L⟩:=u;match L,hs with|[a],_=>simp_all};have A:=G 0 _ k rfl rfl;have j:([Ob.cells (zs.map dI)]:au)[0]? = Α (.cells (zs.map dI)):=rfl;have b:kk [Ob.cells (zs.map dI)] 0 (zs.length * 1)=Α (zs.map dI):=Rc j (by simp);have N:(zs.mergeSort λx y=>Ι (x<=y)).length=zs.length:=Β.length_mergeSort zs;by_cases E:zs=[];{subst E;have:∃p cap,k=.slice p 0 cap:=by{rcases A.fJ b with ⟨h,_⟩ | ⟨c,o,cap,m,T,q,h,_⟩ <;> exact ⟨_,_,h⟩};obtain ⟨p,cap,rfl⟩:=this;refine (K.nil p cap w).mono ?_;rintro e O ⟨rfl,rfl⟩;rw[show ([]:Β Η).mergeSort (λx y=>Ι (x<=y))=[] by simp];exact ⟨_,M,Fz,rfl,R,.aW _ rfl λi d v h=>by simp at h,bI.refl R⟩};have Q:zs.length≠0:=λh=>E (Xg h);rcases A.fJ b with ⟨_,e,_⟩ | ⟨c,o,cap,m,T,q,rfl,⟨S,U⟩,Z,r,F,_⟩;{omega};obtain rfl:o=0:=by{omega};have s:c<w.heap.size:=(DT.1 r).1;refine (K.run c 0 cap zs w (KL R q j r (by omega)) s (by omega)).mono ?_;rintro e O ⟨rfl,n,os,rfl⟩;obtain ⟨W,X,_⟩:=VX (n:=n) (os:=os) R q j r N (by omega);exact ⟨_,M,Fz,rfl,W,.aW _ rfl λi d v h=>by simp at h,X⟩
theorem zR(zs:Β Η):(ώ zs).length<=zs.length:=by grind [Go.Lib.compact,Go.Lib.compactUpTo]
def QW{P:Μ}{g:ύ}(K:Cz P g){zs garb:Β Η}(t:zs.length<=1000000)(X:zs.length<garb.length) : Ok P g [.sl 0 0 zs.length 1 (zs.length * 1)] [.cells (zs.map dI)] (.sl 1 0 (ώ zs).length 1 ((ώ zs).length * 1)) [.cells (garb.map dI),.cells ((ώ zs).map dI)]:=by have G:(ώ zs++κ (zs.length-(ώ zs).length) 0).length=zs.length:=by{grind [zR]};have k:Ok P g [.sl 0 0 zs.length 1 (zs.length * 1)] [.cells (zs.map dI)] (.sl 0 0 (ώ zs).length 1 (zs.length * 1)) [.cells ((ώ zs++κ (zs.length-(ώ zs).length) 0).map dI)]:=by{intro M Fz w u R hs L;obtain ⟨m,rfl⟩:∃m,u=#[m]:=by{obtain ⟨N⟩:=u;match N,hs with|[a],_=>simp_all};have v:=L 0 _ m rfl rfl;have j:([Ob.cells (zs.map dI)]:au)[0]? = Α (.cells (zs.map dI)):=rfl;have b:kk [Ob.cells (zs.map dI)] 0 (zs.length * 1)=Α (zs.map dI):=Rc j (by simp);by_cases x:zs=[];{subst x;have:∃p cap,m=.slice p 0 cap:=by{rcases v.fJ b with ⟨h,_⟩ | ⟨c,o,cap,r,T,q,h,_⟩ <;> exact ⟨_,_,h⟩};obtain ⟨p,cap,rfl⟩:=this;refine (K.nil p cap w).mono ?_;grind [bI.refl]};have O:zs.length≠0:=λh=>x (Xg h);rcases v.fJ b with ⟨_,e,_⟩ | ⟨c,o,cap,r,T,q,rfl,⟨Q,S⟩,Z,s,y,_⟩;{omega};obtain rfl:o=0:=by{omega};have U:c<w.heap.size:=(DT.1 s).1;refine (K.run c 0 cap zs w (KL R q j s (by omega)) (by omega) (by omega)).mono ?_;rintro e w' ⟨rfl,n,rfl⟩;have W:∀w:Τ,grow w #[]=w:=λw=>by{simp_all};obtain ⟨A,E,F⟩:=VX (n:=n) (os:=#[]) R q j s G (by omega);rw[W] at A E F;refine ⟨_,M,Fz,rfl,A,?_,E⟩;have:=zR zs;exact .sl _ _ _ (by simp) (.cells ((ώ zs++κ (zs.length-(ώ zs).length) 0).map dI)) rfl (by grind [Ob.sz]) λ_=>.inr ⟨c,0,_,T,q,rfl,rfl,⟨by omega,by omega⟩,.inl rfl,F,by simp[putCells];omega,by omega⟩};have:=Ok.cut (garb:=garb.map dI) k (by simp_all) (by grind) (λd hd=>by grind) (by simp_all) (by simp);simp_all
theorem OB_int{ii:Ε}{d:TT ii->Η}(b:∀a,enc ii a=[.lit (.int .i64 (d a))])(l:Β (TT ii)):OB (enc ii) l=.cells ((l.map d).map dI):=by unfold OB;congr 1;induction l with|nil=>rfl|cons a l ih=>simp_all
theorem VD{ii:Ε}{c:Η->TT ii}(b:∀k,enc ii (c k)=[.lit (.int .i64 k)])(l:Β Η):OB (enc ii) (l.map c)=.cells (l.map dI):=by unfold OB;congr 1;induction l with|nil=>rfl|cons a l ih=>simp_all
def sort_oo{P:Μ}{g ii:Ε}(K:Ut P g){d:TT ii->Η}{c:Η->TT ii}(v:∀a,enc ii a=[.lit (.int .i64 (d a))])(A:∀k,enc ii (c k)=[.lit (.int .i64 k)])(o:Ρ (aC ii) 1=Γ) : cP P g ⟨.mk [.p (.hd 0)] [] [.row ii] [] [] [],[.mk [] [.w 0 ii] [] [] [] []],λx=>Oo (α:=TT ii) d c x⟩:=by have r:=c_ o;refine ⟨K.en,λx y s V E z t u j q b p=>?_⟩;dsimp only at j q b;change dH [It.ls ii] at x;change dH [It.ls ii] at y;have m:Α ([TV.c (.own ii 0 0 (τ (α:=TT ii) x))],[TB.row ii x 0 0])=Α (s,V):=by{rw[<-q];have e:dO (CT.items (.mk [.p (.hd 0)] [] [.row ii] [] [] [])) x=[⟨.ls ii,x⟩]:=rfl;unfold jS;rw[e];simp only[CT.pl,CT.nb,CT.out,bZ,dA,iQ,xp,rQ,Du,dX,dR,Bh,vH,uL]};simp only[ay,aY] at m;obtain ⟨rfl,rfl⟩:=m;simp only[rJ,ay,Y_] at b;obtain ⟨rfl,rfl⟩:=b;have n:Α (([]:Β TV),[TB.row ii y 1 1])=Α (t,u):=by{rw[<-p];have e:dO (CT.items (.mk [] [.w 0 ii] [] [] [] [])) y=[⟨.ls ii,y⟩]:=rfl;unfold jS;rw[e];simp only[CT.pl,CT.nb,CT.out,bZ,dA,iQ,Du,dX,dR,Bh,Ez,vH,uL,yCj,yC5]};simp only[ay,aY] at n;obtain ⟨rfl,rfl⟩:=n;change Β (TT ii) at x;change Β (TT ii) at y;change Oo d c x=Α y at j;unfold Oo at j;rw[OR] at j;split at j;{rename_i h;simp only[ay] at j;subst j;have:=sort_run K (zs:=x.map d) (by simp_all);show Ok P g [OS (aC ii) 0 x.length] [OB (enc ii) x] (.aW []) [OB (enc ii) _];grind [OB_int,VD]};simp_all
def SV{P:Μ}{g ii:Ε}(K:Cz P g){d:TT ii->Η}{c:Η->TT ii}(E:∀a,enc ii a=[.lit (.int .i64 (d a))])(F:∀k,enc ii (c k)=[.lit (.int .i64 k)])(o:Ρ (aC ii) 1=Γ) : cP P g ⟨.mk [.p (.hd 0)] [] [.row ii] [] [] [],[.mk [.p (.hd 1)] [.w 0 ii] [.row ii] [] [] []],λx=>OP (α:=TT ii) d c x⟩:=by have t:=c_ o;refine ⟨K.en,λx y u V G z v A j q b p=>?_⟩;dsimp only at j q b;change dH [It.ls ii] at x;change dH [It.ls ii,It.ls ii] at y;have m:Α ([TV.c (.own ii 0 0 (τ (α:=TT ii) x))],[TB.row ii x 0 0])=Α (u,V):=by{rw[<-q];have e:dO (CT.items (.mk [.p (.hd 0)] [] [.row ii] [] [] [])) x=[⟨.ls ii,x⟩]:=rfl;unfold jS;rw[e];simp only[CT.pl,CT.nb,CT.out,bZ,dA,iQ,xp,rQ,Du,dX,dR,Bh,vH,uL]};simp only[ay,aY] at m;obtain ⟨rfl,rfl⟩:=m;simp only[rJ,ay,Y_] at b;obtain ⟨rfl,rfl⟩:=b;have n:Α ([TV.c (.own ii 1 0 (τ (α:=TT ii) y.2))],[TB.row ii y.1 1 1,TB.row ii y.2 0 0])=Α (v,A):=by{rw[<-p];have e:dO (CT.items (.mk [.p (.hd 1)] [.w 0 ii] [.row ii] [] [] [])) y=[⟨.ls ii,y.1⟩,⟨.ls ii,y.2⟩]:=rfl;unfold jS;rw[e];simp only[CT.pl,CT.nb,CT.out,bZ,dA,iQ,xp,rQ,Du,dX,dR,Bh,Ez,vH,uL,yBm,yCj,yC5]};simp only[ay,aY] at n;obtain ⟨rfl,rfl⟩:=n;obtain ⟨s,r⟩:=y;change Β (TT ii) at x;change Β (TT ii) at s;change Β (TT ii) at r;change OP d c x=Α (s,r) at j;unfold OP at j;split at j;{rename_i h;simp only[ay,aY] at j;obtain ⟨rfl,rfl⟩:=j;have:=QW K (zs:=x.map d) (garb:=x.map d++[d (c 0)]) (by simp_all) (by simp);show Ok P g [OS (aC ii) 0 x.length] [OB (enc ii) x] (OS (aC ii) 1 _) [OB (enc ii) _,OB (enc ii) _];grind [OB_int,VD]};simp_all
end
end Go.Abs
end
section
namespace Go.Abs
noncomputable section
variable[Gl][Y:Ty]
structure Lm (P:Μ) (g:ύ):Prop where
 en:a_ P g=Γ
 run:∀(b:Ε)(es:Φ MapEntry)(clock:Ε)(w:Τ),w.heap[b]? = Α (.map es clock)->C4 P g #[.map (Α b)] w λe w'=>e=.returned (.map (Α w.heap.size))/\w'=w.alloc (.map es clock)
theorem S_{P:Μ}{g:ύ}(K:Lm P g){α:Type}{f:α->D}{l:Β (Η×α)}:Ok P g [.mp 0] [MB f l] (.mp 1) [MB f l,MB f l]:=by intro M Fz w n R hs b;obtain ⟨v,rfl⟩:∃v,n=#[v]:=Φ.size_eq_one_iff.1 (by simpa using hs);have b:=b 0 _ v rfl rfl;cases b with|mp c p h d=>simp only[uL,ay] at h;subst h;have d:=d rfl;obtain ⟨_,p,o,k,q,m⟩:=R.blk 0 c d;simp only[uL,ay] at k;subst k;have r:=m;obtain ⟨a,⟨j,rfl,_⟩,_⟩:=r;refine (K.run c a j w q).mono λe t s=>?_;obtain ⟨rfl,rfl⟩:=s;have E:=bI.alloc (V:=[MB f l]) (M:=M) (Fz:=Fz) (w:=w) R.fz (MB f l) (.map a j);exact ⟨_,_,Fz,rfl,R.alloc (MB f l) (.map a j) (m.mono E),.mp w.heap.size (MB f l) rfl (λ_=>by simp[xR]),E⟩
def XV{P:Μ}{g:Ε}(K:Lm P g)(ii:Ε)(st:Λ) : cP P g ⟨.mk [.p (.mr 0)] [] [.mp ii st] [] [] [],[.mk [.p (.mr 1)] [] [.mp ii st] [] [] []],λx=>Α x⟩:=by refine ⟨K.en,λx y m V p z n o b k a j=>?_⟩;dsimp only at b k a;change dH [It.ml ii] at x;change dH [It.ml ii] at y;have b:Α x=Α y:=b;simp only[ay] at b;subst b;have d:Α ([TV.c (.d (.mp 0))],[TB.mp ii st x 0])=Α (m,V):=by{rw[<-k];have e:dO (CT.items (.mk [.p (.mr 0)] [] [.mp ii st] [] [] [])) x=[⟨.ml ii,x⟩]:=rfl;unfold jS;rw[e];simp only[CT.pl,CT.nb,CT.out,bZ,dA,iQ,xp,rQ,Du,dX,dR,Bh,vH,Ez,Aq,Tf,(by decide:η 0 1=Γ),(by decide:η 1 2=Γ),NH,K2]};simp only[ay,aY] at d;obtain ⟨rfl,rfl⟩:=d;simp only[rJ,ay,Y_] at a;obtain ⟨rfl,rfl⟩:=a;have h:Α ([TV.c (.d (.mp 1))],[TB.mp ii st x 0,TB.mp ii st x 0])=Α (n,o):=by{rw[<-j];have e:dO (CT.items (.mk [.p (.mr 1)] [] [.mp ii st] [] [] [])) x=[⟨.ml ii,x⟩]:=rfl;unfold jS;rw[e];simp only[CT.pl,CT.nb,CT.out,bZ,dA,iQ,xp,rQ,Du,dX,dR,Bh,vH,Ez,Aq,Tf,(by decide:η 0 1=Γ),(by decide:η 1 2=Γ),NH,K2]};simp only[ay,aY] at h;obtain ⟨rfl,rfl⟩:=h;exact S_ K
end
end Go.Abs
end
section
namespace Go.Abs
section
variable[Gl]
def Shp(a:Β Sh)(xs:Β C):Prop:=xs.length=a.length/\∀(i:Ε) t x,a[i]? = Α t->xs[i]? = Α x->Shaped t x
theorem Shp.cons{s:Sh}{j:Β Sh}{xs:Β C}(h:Shp (s::j) xs):∃x o,xs=x::o/\Shaped s x/\Shp j o:=by obtain ⟨hl,h⟩:=h;match xs,hl,h with|x::o,hl,h=>exact ⟨x,o,rfl,h 0 s x rfl rfl,by simp_all,λi t y u A=>h (i+1) t y (by simp_all) (by simp_all)⟩
theorem Shp.nil{xs:Β C}(h:Shp [] xs):xs=[]:=by simpa using h.1
variable[Y:Ty]
def shC(rec:Ε->Β Sh):CC->Sh|.int k=>.int k|.bool=>.bool|.str=>.str|.sl j=>.sl (rec j)|.fk _=>.no
def shN:Ε->Ε->Β Sh|0,_=>[]|k+1,i=>(Y.fl i).map (shC (shN k))
def shT(i:Ε):Β Sh:=shN (i+1) i
theorem Vz{rec:Ε->Β Sh}{r:(j:Ε)->TT j->Β C}{c:CC}(m:∀j,c=.sl j->∀xs,Shp (rec j) xs->∃a:TT j,xs=r j a){x:C}(h:Shaped (shC rec c) x):∃a:c.dn,x=uE r c a:=by cases c with|int k=>{cases h with | int h=>exact ⟨_,rfl⟩}|bool=>{cases h with | bool b=>exact ⟨_,rfl⟩}|str=>{cases h with | str b=>exact ⟨_,rfl⟩}|fk n=>cases h|sl j=>cases h with|sl hl e g=>rename_i es;have:∃l:Β (TT j),es=l.map (r j):=by{clear hl;induction es with|nil=>simp_all|cons y es ih=>obtain ⟨a,o⟩:=m j rfl y ⟨e y (by simp),g y (by simp)⟩;obtain ⟨l,hl⟩:=ih (λz d=>e z (by simp[d])) (λz d=>g z (by simp[d]));exact ⟨a::l,by simp_all⟩};obtain ⟨l,rfl⟩:=this;exact ⟨l,rfl⟩
theorem shL_dec{rec:Ε->Β Sh}{r:(j:Ε)->TT j->Β C}:∀(cs:Β CC),(∀j,CC.sl j∈cs->∀xs,Shp (rec j) xs->∃a:TT j,xs=r j a)->∀xs,Shp (cs.map (shC rec)) xs->∃a:aW cs,xs=nJ r cs a:=by intro cs;induction cs with|nil=>intro _ xs h;exact ⟨(),h.nil⟩|cons c cs ih=>intro d xs h;obtain ⟨x,g,rfl,k,m⟩:=Shp.cons h;obtain ⟨a,rfl⟩:=Vz (λj e=>d j (by simp_all)) k;obtain ⟨b,rfl⟩:=ih (λj e=>d j (oJ _ e)) g m;exact ⟨(a,b),rfl⟩
theorem shN_dec:∀(k i:Ε),i<k->∀xs,Shp (shN k i) xs->∃a:TT i,xs=NQ k i a:=by intro k;induction k with|zero=>omega|succ k ih=>intro i hi xs h;obtain ⟨a,rfl⟩:=shL_dec (rec:=shN k) (r:=NQ k) (Y.fl i) (λj b=>ih j (by have:=Y.dn i j b;omega)) xs h;exact ⟨Y.mkt i a,by grind [NQ,Ty.pm]⟩
def sh_dec(i:Ε){xs:Β C}(h:Shp (shT i) xs):∃a:TT i,xs=enc i a:=shN_dec (i+1) i (by omega) xs h
def arg_st(i:Ε){w:Τ}{xs:Β C}{vs:Φ Ο}(h:EU w (shT i) xs vs.toList):∃a:TT i,σ [] (λ_=>Ζ) (λc=>c<w.heap.size) w (dE.enc (.st i) a) (.agg vs):=by have b:=σ.Yz h (V:=[]) (M:=λ_=>Ζ);obtain ⟨a,rfl⟩:=sh_dec i ⟨h.1,h.2.2.1⟩;exact ⟨a,b⟩
def arg_c(c:CC){w:Τ}{xs:Β C}{v:Ο}(h:EU w [shC shT c] xs [v]):∃a:c.dn,σ [] (λ_=>Ζ) (λc=>c<w.heap.size) w (dE.enc (.c c) a) v:=by obtain ⟨x,rfl,hs,b⟩:=σ.WM h (V:=[]) (M:=λ_=>Ζ);obtain ⟨a,rfl⟩:=Vz (rec:=shT) (r:=enc) (λj _ xs h=>sh_dec j h) hs;exact ⟨a,b⟩
open Go.RowKit in
def aaA{P:Μ}{g:ύ}{ds:Β D}(h:Pure P g ds (B Γ)){w:Τ}{vs:Φ Ο}(hs:vs.size=ds.length)
  (b:∀(i:Ε) d v,ds[i]? = Α d->vs[i]? = Α v->σ [] (λ_=>Ζ) (λc=>c<w.heap.size) w d v) (m:Gl.ok (λc=>c<w.heap.size) w) :
  C4 P g vs w λe j=>e=.returned (.bool Γ)/\Below w.heap.size w j:=by
 refine (h.2 _ _ w vs (Rel.start w m) hs b).mono λe j n=>?_;obtain ⟨v,p,o,rfl,q,b,a⟩:=n;exact ⟨by rw[b.cr],a.out.1,a.out.2.1,a.out.2.2,a.size,λk hk=>(a.fz k hk).2⟩
end
end Go.Abs
end
