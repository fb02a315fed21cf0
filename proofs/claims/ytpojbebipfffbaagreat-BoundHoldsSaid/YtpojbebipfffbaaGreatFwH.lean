/- Lemmas. -/
import Derived.Test.YtpojbebipfffbaaGreatFwG
import Derived.Shelf.Spec.SlicesInsertGrow
import Derived.Test.YtpojbebipfffbaaGreatFwA
import Derived.Test.YtpojbebipfffbaaGreatFwD
import Derived.Test.YtpojbebipfffbaaGreatFwC
import Derived.Lib.SlKeysI
import Derived.Lib.SlicesCompact
set_option linter.all false
open _root_ renaming Go.Act.eval->yv,Go.Act.put->vv,Array->Φ,Array.replicate->χ,Bool->Λ,Go.Builtin.copy_->ϯ,Go.Builtin.firstCells->ϒ,Go.Builtin.zeroCells->Ϗ,Go.Calls->B9,Go.Exit.inBlock->Ϫ,Go.Fence.wide->κ,Go.FuncId->ύ,Int->Q,Go.IntKind.wrap_i64->rf,Go.Lib.compact->ώ,List->Z,List.getElem?_take->E9,List.getElem_of_mem->ϑ,List.length->τ,List.range'->ϗ,List.replicate->μ,Nat->X,Nat.beq->Ρ,Nat.blt->η,Nat.min->ro,Nat.reduceAdd->J8,Go.Obj.cells->Ϣ,Go.Obj.cells.injEq->ϙ,Option->Δ,Go.Program->Ν,Go.Sort.ahead->ew,String->E8,Go.TypeDesc->ϐ,Go.TypeId->Ψ,Go.Value->Ο,Go.Value.func->AC,Go.World->Τ,Decidable.decide->Θ,Go.encZ->qa,Bool.false->Ι,if_neg->Κ,if_pos->Μ,if_true->Υ,Option.none->U,Go.run_loadCells_list->I5,Go.run_underlying->Ϙ,Option.some->Y,Bool.true->W,Go.wpIn_cond_false->K7,Go.wpIn_seq->ϸ,Go.Proofs.wpList_copy_runI->Cl,Go.wpOpsIn->ϡ
open Go.IntKind (i64 u64)
section
namespace Go.Abs
noncomputable section
variable[Gl][Α:Ty]
section
variable{P:Ν}{c:Code}
theorem Rj(h:bR P c=Y .skip):c=.skip:=by cases c with|skip=>rfl|region id d a=>simp only[bR]at h;grind|seq c1 e=>grind[bR]|cond o c1 e=>grind[bR]|scope b=>grind[bR,Δ.map_eq_some_iff,Ou]|rangeFunc g j x y=>grind[fi]|_=>simp[bR]at h
theorem inv_ret(h:bR P c=Y .ret):c=.ret:=by cases c with|ret=>rfl|region id j a=>simp only[bR]at h;split at h;{cases a with|false=>simp at h|true=>simp only[Υ]at h;split at h<;>simp at h};simp at h|seq c1 k=>simp only[bR]at h;split at h<;>simp at h|cond o c1 k=>simp only[bR]at h;split at h<;>simp at h|scope b=>simp only[bR,cJ]at h;obtain⟨m,_,d⟩:=h;rcases Ou m with⟨l,r,_,e⟩|e<;>rw[e]at d<;>simp at d|rangeFunc g n x y=>rcases fi h with⟨_,_,_,_,_,_,_,e⟩|e<;>cases e|_=>simp[bR]at h
theorem inv_exit{i:X}(h:bR P c=Y (.exit (2*i))):c=.exit i:=by cases c with|exit j=>simp only[bR,az,aW.exit.injEq]at h;rw[show j=i by omega]|goto j=>simp only[bR,az,aW.exit.injEq]at h;omega|region id k a=>simp only[bR]at h;split at h;{cases a with|false=>simp at h|true=>simp only[Υ]at h;split at h<;>simp at h};simp at h|seq c1 m=>simp only[bR]at h;split at h<;>simp at h|cond o c1 m=>simp only[bR]at h;split at h<;>simp at h|scope b=>simp only[bR,cJ]at h;obtain⟨n,_,d⟩:=h;rcases Ou n with⟨l,r,_,e⟩|e<;>rw[e]at d<;>simp at d|rangeFunc g p x y=>rcases fi h with⟨_,_,_,_,_,_,_,e⟩|e<;>cases e|_=>simp[bR]at h
end
section
variable{P:Ν}{i so ti tb gm:X}{z:Z D}{st:TT i->Q}{metf:TT i->Z (TT i)->Δ Λ}
variable{B:X}{lb:Φ Ο}{J:X->(X->Prop)->(X->Prop)->Τ->Prop}{Jx:(X->Prop)->(X->Prop)->Τ->Prop}{l:Z (TT i)}{ly:X}{pv:Ο}
theorem QA:∀(cs:Z CC)(x:aX cs),(vL cs x).all TC.scalar=W:=by intro cs;induction cs with|nil=>intro x;rfl|cons c cs ih=>intro x;simp only[vL,OM,ih,RA];cases c<;>rfl
def FR(J:X->(X->Prop)->(X->Prop)->Τ->Prop)(Jx:(X->Prop)->(X->Prop)->Τ->Prop)(m:X):Exit->Act->Τ->Prop:=λe a Γ=>(e=.normal\/e=.ret)/\a.defers=[]/\∃F Ζ,J m F Ζ Γ\/Jx F Ζ Γ
def ablG{T:Type}(st:T->Q)(met:T->Δ Λ)(l:Z T):Δ (Z T):=match X.ble l.length 1000000 with|W=>Hb st met l|Ι=>U
theorem QP(dF:P.follows .mixedOrders=W)(hz:z.length=aC i)(aw:∀a,(enc i a)[so]? =Y (.lit (.int .i64 (st a))))(Ε:∀x y:Q,ic P .lss ti (.tmp 7) (.tmp 6) (.int .i64 x) (.int .i64 y)=Y (.bool (Θ (x<y))))(ax:∀x:Q,ic P .eql ti (.tmp 12) (.const (.int .i64 1)) (.int .i64 x) (.int .i64 1)=Y (.bool (x==1)))(Β:∀x:Q,ic P .add ti (.tmp 7) (.const (.int .i64 1)) (.int .i64 x) (.int .i64 1)=Y (.int .i64 (i64.wrap (x+1))))(aa:∀b:Λ,gn P (Op.unary .not (.bool b))=Y (.bool (!b)))(hm:bK P gm ⟨[.st i,.c (.sl i)],[.c .bool],λa=>metf a.1 a.2.1⟩)(Η:∀k,yT B (J k))(a0:yT B Jx)(cm:l.length≤1000000){r:Z (TT i)}(ab:∀k F Ζ Γ,J k F Ζ Γ->Caps F Γ [[.dg Ι (l.map (enc i))]] lb)(a6:lb[0]? =Y pv)(K:∀k ds F Ζ Γ vs,(r.map λa=>[ST (enc i a)])[k]? =Y ds->J k F Ζ Γ->Vals F Γ ds vs->YieldAt κ 0 P ly vs Γ λe R=>∃F' U',Kept F Ζ Γ F' U' R/\((e=.returned (.bool W)/\J (k+1) F' U' R)\/(e=.returned (.bool Ι)/\Jx F' U' R))){cb:Code}(a7:bR P cb=Y (ableL (aC i) so ti tb gm z)):∀(m k it:X)(q:Z (TT i))(F Ζ:X->Prop)(Γ:Τ)(g:Act),k+m=l.length->Hb st (λx=>metf x l) (l.drop k)=Y q->r.drop it=q->it≤r.length->J it F Ζ Γ->ft 26 [] (λ_=>U) F Γ (oO i l (.func (.yield ly) #[] #[]) pv k) g.tmps->g.defers=[]->Code.roundsIn κ 0 P cb (Ϫ 0 (FR J Jx r.length)) (m+1) g Γ:=by obtain⟨c1,r1,rfl,h1,a8⟩:=yw a7;obtain⟨c2,r2,rfl,h2,a9⟩:=yw a8;obtain⟨c3,c4,rfl,h3,h4⟩:=yw a9;obtain⟨x8,cv,cC,rfl,bb,bc,bd⟩:=RQ h2;obtain⟨j2,cX,rfl,cY,be⟩:=LI h3;obtain⟨d2,r3,rfl,bh,bi⟩:=yw be;obtain⟨d3,d4,rfl,bt,bu⟩:=yw bi;obtain⟨cZ,c0,c5,rfl,ad,bv,bw⟩:=RQ bu;have:=Rj bc;subst this;have:=inv_exit (i:=0) bd;subst this;have:=inv_ret bv;subst this;have:=Rj bw;subst this;have tm:∀(x:Operand)(t:X),cu x=Y (.t t)->x=.tmp t:=λx t hx=>by{cases x<;>simp[cu]at hx;rw[hx]};have:=tm _ _ bb;subst this;have:=tm _ _ ad;subst this;have ev:∀{al:AL}{V:au}{M:X->Δ X}{F:X->Prop}{Γ:Τ}{a:Act}{t:X}{b:Λ},ft 26 V M F Γ al a.tmps->lk t al=Y (Abs.B b)->a.eval (.tmp t)=.bool b:=λ{al V M F Γ a t b} A h=>by{obtain⟨v,g1,g2⟩:=A.2 t _ h;have:=g2.cz;subst this;simp[yv,g1]};have O:mW P (λ_=>FH []):=λ_=>nG λp hp=>by{grind};intro m;induction m with|zero=>intro k it q F Ζ Γ g hk s S SS G A b0;rw[roundsIn_succ];refine ϸ (nH h1 λn hs u o=>?_);show ϡ κ 0 P n _ (ϗ 0 (able1 ti).length++[]) g Γ;refine fF O o YH (λj ao G=>by simp_all) ?_ ((Η _).rel _ _ _ G) A;refine bO.op (eV (v:=.bool (Θ ((k:Q)<l.length))) rfl rfl rfl rfl (Ε _ _) rfl) dU rfl (bO.nil ?_);intro a1 W1 M1 F1 b1 R1 A1 E1;obtain⟨j1,_⟩:=(Η it).step G (λb c h=>by simp at h) E1 R1;refine⟨ϸ (K7 (by rw[ev A1 rfl];simp_all) (wpIn_exit ?_)),by simp⟩;have b2:q=[]:=by{have:l.drop k=[]:=yB4 (by omega);rw[this]at s;simpa[Hb]using s.symm};subst b2;have af:it=r.length:=by{have:=IZ τ S;grind};show Ϫ 0 (FR J Jx r.length) (.exit 0) a1 W1;simp only[Ϫ,Υ];exact⟨.inl rfl,by simp_all,_,_,.inl (by rw[←af];exact j1)⟩|succ m ih=>intro k it q F Ζ Γ g hk s S SS G A b0;have b3:k<l.length:=by{omega};have b4:l.drop k=l[k]::l.drop (k+1):=yB6 b3;rw[b4]at s;generalize ha:l[k]=a at s;rw[roundsIn_succ];refine ϸ (nH h1 λn hs u o=>?_);show ϡ κ 0 P n _ (ϗ 0 (able1 ti).length++[]) g Γ;refine fF O o YH (λj ao G=>by simp_all) ?_ ((Η _).rel _ _ _ G) A;refine bO.op (eV (v:=.bool (Θ ((k:Q)<l.length))) rfl rfl rfl rfl (Ε _ _) rfl) dU rfl (bO.nil ?_);intro a1 W1 M1 F1 b1 R1 A1 E1;obtain⟨j1,o1⟩:=(Η it).step G (λb c h=>by simp at h) E1 R1;refine⟨ϸ (wpIn_cond_true (by rw[ev A1 rfl];simp_all) (wpIn_skip ?_)),by simp⟩;refine ϸ (wpIn_block (ϸ (nH bh λn hs u o=>?_)));show ϡ κ 0 P n _ (ϗ 0 (able2 (aC i) z).length++[]) a1 W1;refine fF O o YH (λj ao G=>by simp_all) ?_ R1 A1;have b5:aH l (k:Q)=Y a:=by{unfold aH;simp_all};have E:((enc i a).map D.c).length=aC i:=by{rw[qY,rV]};have ak:yf (Y (aC i)) ((enc i a).map D.c) 0=Y (ST (enc i a)):=CQ E;have b6:(ST (enc i a)).cells? =Y ((enc i a).map D.c):=by{obtain⟨h1,_⟩:=sn (v:=.agg (exp i a)) (xs:=exp i a) (by grind[fZ,exp,QA]) (dM.IB (.st i) a);rw[wB]at h1;exact h1};have co:put z 0 ((enc i a).map D.c)=(enc i a).map D.c:=by{grind[put]};refine bO.op (op_idx (l:=l) (f:=enc i) (k:=(k:Q)) rfl rfl b5 (rV i a)) dU rfl (bO.op (IU rfl ak) dU rfl (bO.op (Rw (d1:=.ptr 0 0 (aC i)) (by simp_all) rfl) dU rfl (bO.eff (Ip (cs:=z) (xs:=(enc i a).map D.c) rfl (SW rfl hz) rfl b6 ⟨E,by omega⟩ (show _=[Ob.cells ((enc i a).map D.c)]by simp_all)) dU rfl (bO.nil ?_))));intro a2 W2 M2 F2 cp R2 A2 E2;obtain⟨b7,o2⟩:=(Η it).step j1 o1 E2 R2;refine⟨ϸ (able_r3 (k:=(k:Q)) (st:=st) (metf:=metf) (items:=r.map λa=>[ST (enc i a)]) dF aw ax aa hm Η a0 ab a6 K bt R2 (A2.lks λt d ht=>?_) (by simp_all) b7 o2 (λL=>?_) λb b8 c6=>?_),by simp⟩;{have:=nK ht;simp only[oO,gJ,Rr,Ph,a_]at this;rcases this with⟨rfl,rfl⟩|⟨rfl,rfl⟩|⟨rfl,rfl⟩|⟨rfl,rfl⟩|⟨rfl,rfl⟩|⟨rfl,rfl⟩<;>rfl};{simp only[Hb,L,yC2,Υ]at s;cases b9:metf a l with|none=>simp_all|some b=>refine⟨b,rfl,λhb=>?_⟩;rw[b9]at s;simp only[ay]at s;obtain⟨T,an,e⟩:=c_.1 s;simp only[hb,Υ,az]at e;have:r[it]? =Y a:=by{have:=IZ (λl:Z (TT i)=>l[0]?) S;grind};simp_all};intro F' U' R A' b' cg AA ch;rcases ch with⟨rfl,N⟩|⟨rfl,N⟩;{refine K7 (ev AA rfl) (wpIn_skip ?_);show Ϫ j2 (Exit.then (c4.wpIn κ 0 P _) _) .normal A' R;show c4.wpIn κ 0 P _ A' R;refine nH h4 λn hs u o=>?_;show ϡ κ 0 P n _ (ϗ 0 (able4 ti).length++[]) A' R;refine fF O o YH (λj ao G=>by rw[OX];exact u j ao G) ?_ ((Η _).rel _ _ _ N) AA;have c7:i64.wrap ((k:Q)+1)=(k:Q)+1:=by{rw[rf];omega};refine bO.op (eV (v:=.int .i64 (i64.wrap ((k:Q)+1))) rfl rfl rfl rfl (Β _) rfl) dU rfl (bO.op (nh rfl) dU rfl (bO.nil ?_));intro a5 W5 M5 F5 c8 R5 A5 E5;obtain⟨j5,_⟩:=(Η _).step N (λb c h=>by simp at h) E5 R5;have A6:ft 26 [] (λ_=>U) F5 W5 (oO i l (.func (.yield ly) #[] #[]) pv ((k+1:X):Q)) a5.tmps:=by{refine A5.data λt d ht=>?_;have:=nK ht;simp only[oO,gJ,Rr,Ph,a_]at this;rcases this with⟨rfl,rfl⟩|⟨rfl,rfl⟩|⟨rfl,rfl⟩|⟨rfl,rfl⟩|⟨rfl,rfl⟩;{refine⟨?_,rfl⟩;show Y (D.c (C.lit (.int .i64 (i64.wrap ((k:Q)+1)))))=_;grind};all_goals exact⟨rfl,rfl⟩};refine⟨?_,by simp⟩;show Code.roundsIn κ 0 P _ _ (m+1) a5 W5;have ck:∃T,Hb st (λx=>metf x l) (l.drop (k+1))=Y T/\r.drop (if b=W then it+1 else it)=T/\(if b=W then it+1 else it)≤r.length:=by{by_cases L:st a=1;{simp only[Hb,L,yC2,Υ]at s;rw[b8 L]at s;simp only[ay]at s;obtain⟨T,an,e⟩:=c_.1 s;refine⟨T,an,?_⟩;cases b with|true=>simp only[Υ,az]at e ⊢;have h0:r.drop it=a::T:=by{grind};have av:it<r.length:=by{grind};refine⟨?_,av⟩;have:=IZ (Z.drop 1) h0;simpa using this|false=>grind};have hf:(st a==1)=Ι:=by{grind};simp only[Hb,hf,cf,cy]at s;grind};grind};refine wpIn_cond_true (ev AA rfl) (wpIn_ret ?_);show FR J Jx r.length .ret A' R;exact⟨.inr rfl,cg,_,_,.inr N⟩
theorem able_ok{g:X}{fn:Func}{met:TT i->Z (TT i)->Δ Λ}(dF:P.follows .mixedOrders=W)(hg:P.funcs[g]? =Y fn)(E:gh P fn W=Y (ableA (aC i) so ti tb gm z))(hm:bK P gm ⟨[.st i,.c (.sl i)],[.c .bool],λa=>met a.1 a.2.1⟩)(hz:z.length=aC i)(aa:∀a,(enc i a)[so]? =Y (.lit (.int .i64 (st a))))(ab:∀x y:Q,ic P .lss ti (.tmp 7) (.tmp 6) (.int .i64 x) (.int .i64 y)=Y (.bool (Θ (x<y))))(ad:∀x:Q,ic P .eql ti (.tmp 12) (.const (.int .i64 1)) (.int .i64 x) (.int .i64 1)=Y (.bool (x==1)))(G:∀x:Q,ic P .add ti (.tmp 7) (.const (.int .i64 1)) (.int .i64 x) (.int .i64 1)=Y (.int .i64 (i64.wrap (x+1))))(K:∀b:Λ,gn P (Op.unary .not (.bool b))=Y (.bool (!b))):ItSp P g ⟨[.c (.sl i)],[.c (.sl i)],λa=>ablG st (λx=>met x a.1) a.1⟩:=by intro l r hr;change ablG st (λx=>met x l) l=Y r at hr;unfold ablG at hr;split at hr;rotate_left;{grind};rename_i k;have k:=Dm k;unfold gh at E;split at E;rotate_left;{grind};rename_i c hb;split at E;rotate_left;{grind};rename_i ac rs af ak;simp only[ableA,az,kM.mk.injEq]at E;obtain⟨_,bd,rfl,rfl,_⟩:=E;intro ly B lb J Jx Γ F Ζ hJ L o m h0;obtain⟨N,an⟩:=o 0 F Ζ Γ h0;have N:lb.size=1:=N;obtain⟨pv,R⟩:∃pv,lb[0]? =Y pv:=⟨_,sL (by omega)⟩;obtain⟨c',av,be,T,hh,hl,hx⟩:=an 0 _ pv rfl R;refine callsIn_wide.1 (callsIn_of_wp_marks (F:=κ) (n:=0) hg hb trivial ?_ rfl);refine wpIn_mono (Q:=FR J Jx r.length) ?_ λe a s S=>?_;rotate_left;{obtain⟨he,hd,A,U',aw⟩:=S;have R':Rel [] (λ_=>U) A s:=aw.elim (λh=>(hJ _).rel _ _ _ h) λh=>L.rel _ _ _ h;have E':dO [] (λ_=>U) A s (μ a.tmps.size D.any) a.tmps:=⟨by simp,λi d v g1 g2=>by have:d=.any:=by{grind};subst this;exact .any v⟩;obtain⟨v,hv,_⟩:=jT (P:=P) (a:=a) R' E' ak (ds:=[]) rfl;have fin:LeavesInM κ 0 P fn a.tmps (λe s=>(∃v,e=.returned v)/\∃A U',J (r.map λa=>[ST (enc i a)]).length A U' s\/Jx A U' s) a.defers .returning s:=by{rw[hd];exact⟨v,hv,⟨v,rfl⟩,A,U',by simp_all⟩};rcases he with rfl|rfl;{exact fin};exact fin};obtain⟨c0,bh,rfl,ax,Ε⟩:=yw af;obtain⟨j0,cl,rfl,bi,a0⟩:=LI Ε;obtain⟨cb,rfl,a2⟩:=inv_loop a0;have:j0=0:=by{omega};subst this;have O:mW P (λ_=>FH []):=λ_=>nG λp hp=>by{grind};have R0:=(hJ 0).rel _ _ _ h0;have A0:ft 26 [] (λ_=>U) F Γ [(0,.c (.lit (.func (.yield ly) #[] #[]))),(1,.c (.lit pv))] ((#[AC (.yield ly) #[] #[]]++lb)++χ (fn.ntmps-(#[AC (.yield ly) #[] #[]]++lb).size) undef):=by{refine⟨by simp_all,λt d ht=>?_⟩;have:=nK ht;simp only[gJ,Rr,Ph,a_]at this;rcases this with⟨rfl,rfl⟩|⟨rfl,rfl⟩;{refine⟨_,?_,.c (.lit _)⟩;simp_all};refine⟨pv,?_,.c (.lit _)⟩;simp_all};refine ϸ (nH ax λa5 hs q a6=>?_);obtain⟨o0,a7,Β⟩:=q 0 _ rfl;obtain⟨v1,a8,a9⟩:=A0.2 1 _ rfl;have:=a9.cz;subst this;subst av;show ϡ κ 0 P a5 _ (0::(ϗ 1 2++[])) _ Γ;refine Mb a7 Β R0.gl A0.dA.1 rfl a8 hh (by omega) (λu hu=>hx 0 _ u rfl hu) λv hv=>?_;have A1:=ft.put (a:={ tmps:=(#[AC (.yield ly) #[] #[]]++lb)++χ (fn.ntmps-(#[AC (.yield ly) #[] #[]]++lb).size) undef,defers:=[] }) A0 (t:=5) (d:=.c (.dg Ι (l.map (enc i)))) (by omega) (.c hv);refine fF (os:=[⟨Y 6,.len (.t 5),U⟩,⟨Y 7,.mJ (.k (.c (.lit (.int .i64 0)))),U⟩]) O a6 YH (Eb q λj hj=>?_) ?_ R0 A1;{have:j=0\/j=1:=by{simp at hj;omega};rcases this with rfl|rfl<;>rfl};refine bO.op (op_len (l:=l) (f:=enc i) rfl) dU rfl (bO.op (nh rfl) dU rfl (bO.nil ?_));intro a1 W1 M1 F1 bb R1 bc E1;obtain⟨j1,_⟩:=(hJ 0).step h0 (λb c h=>by simp at h) E1 R1;refine⟨?_,by simp⟩;show(Code.block 0 (Code.loop cb)).wpIn κ 0 P _ a1 W1;refine wpIn_block (wpIn_loop_rounds (l.length+1) (QP (metf:=met) (hm:=hm) dF hz aa ab ad G K hJ L k o R m a2 l.length 0 0 r F1 _ W1 a1 (by omega) (by simp_all) rfl (Vz _) j1 (bc.data λt d ht=>?_) (by rw[bb];rfl)));have:=nK ht;simp only[oO,gJ,Rr,Ph,a_]at this;rcases this with⟨rfl,rfl⟩|⟨rfl,rfl⟩|⟨rfl,rfl⟩|⟨rfl,rfl⟩|⟨rfl,rfl⟩<;>exact⟨rfl,rfl⟩
end
end
end Go.Abs
end
section
set_option linter.unusedVariables false
set_option linter.unusedSimpArgs false
namespace Go.Abs
open Go.Proofs Go.Shelf Go.RowKit Go.Lib
variable[Gl]{P:Ν}{ρ:Ren}
def Lq{w:Τ}{o:Obj}{r:X}(h:r<w.heap.size):(w.alloc o).heap[r]? =w.heap[r]?:=by show(w.heap.push o)[r]? =w.heap[r]?;grind
theorem Qa{w:Τ}{b j:X}{arr:Φ Ο}{T:Ψ}(h:w.heap[b]? =Y (.cells arr T (0,0))):w.cell? ⟨b,j,U⟩=arr[j]?:=by simp[Τ.cell?,h]
def WV{w:Τ}{b j:X}{arr:Φ Ο}{T:Ψ}(h:w.heap[b]? =Y (.cells arr T (0,0))):w.frozen? ⟨b,j,U⟩=Ι:=by simp[Τ.frozen?,h]
def Wj{w:Τ}{b:X}{arr:Φ Ο}{T:Ψ}(h:w.heap[b]? =Y (.cells arr T (0,0))):w.shape? b=Y (T,arr.size):=by simp[Τ.shape?,h]
def pD(w:Τ)(r u ty e:Ψ)(b o a g k so d m es:X)(arr n:Φ Ο)(T x:Ψ)(cs:Z Ο)(y:P.underlying r=Y (.slice e))(A:∀w,(Go.sizeOf e).run P w=.ok es w)(E:cs.length=ro d a*es)(F:w.heap[b]? =Y (.cells arr T (0,0)))(p:w.heap[k]? =Y (.cells n x (0,0)))(s:∀j v,cs[j]? =Y v->n[so+j]? =Y v)(t:o+cs.length<=arr.size)(G:∀v∈cs,v.oneCell'=W):(ϯ #[r,u] ty #[.slice (Y ⟨b,o,U⟩) a g,.slice (Y ⟨k,so,U⟩) d m]).run P w=.ok (goInt (ro d a)) (cV w b (.cells (dq arr o cs) T (0,0))):=by have t:=I5 (P:=P) w ⟨k,so,U⟩ cs (λj v h=>by rw[show(⟨k,so,U⟩:Addr).add j=⟨k,so+j,U⟩from by simp[Addr.add],Qa p];simp_all);have q:=zeJ P T b cs o w arr F G (by omega);simp[ϯ,Ϙ y,Builtin.lenOf,ϒ,A,<-E,t,q]
structure Rs (P:Ν)(ρ:Ren)(es by':X)(nm:E8)(z:Ο):Prop where
 mixed:P.follows .mixedOrders=W
 f22:P.funcs[ρ.f 22]? =Y { Body2.n22 ρ with name:=nm }
 ov:∀args w,(callFunc (ρ.f 29) args).run P w=((Extern.SlicesOverlaps.overlaps #[ρ.t 24,ρ.t 24] #[ρ.t 4] args).run P w).andThen λv w'=>.ok (.value v) w'
 t0:P.underlying (ρ.t 0)=Y (ϐ.tuple #[])
 t3:P.underlying (ρ.t 3)=Y (ϐ.int IntKind.i64)
 t4:P.underlying (ρ.t 4)=Y (ϐ.bool)
 a3:∀w,(isAgg (ρ.t 3)).run P w=.ok Ι w
 z3:∀w,(Go.sizeOf (ρ.t 3)).run P w=.ok 1 w
 a4:∀w,(isAgg (ρ.t 4)).run P w=.ok Ι w
 z4:∀w,(Go.sizeOf (ρ.t 4)).run P w=.ok 1 w
 z9:∀w,(Go.sizeOf (ρ.t 9)).run P w=.ok es w
 v9:∀w,(zeroValue (ρ.t 9)).run P w=.ok z w
 t24:P.underlying (ρ.t 24)=Y (ϐ.slice (ρ.t 9))
 a24:∀w,(isAgg (ρ.t 24)).run P w=.ok Ι w
 z24:∀w,(Go.sizeOf (ρ.t 24)).run P w=.ok 1 w
 v24:∀w,(zeroValue (ρ.t 24)).run P w=.ok (Ο.slice U 0 0) w
 i9:(P.info? (ρ.t 9)).map (λi=>(i.zero,i.size,i.bytes))=Y (Y z,es,by')
set_option maxHeartbeats 4000000 in
set_option maxRecDepth 100000 in
def Ye{es S:X}{nm:E8}{z:Ο}(L:Rs P ρ es S nm z)(b n c i h m r:X)(arr a:Φ Ο)(T O:Ψ)(w:Τ)(hi:i<n)(hm:0<m)(Ζ:0<es)(o:n+m≤c)(a5:n+m≤2000000)
  (Η:w.heap[b]? = Y (.cells arr T (0,0))) (R:w.heap[h]? = Y (.cells a O (0,0))) (s:h≠b) (Ε:c * es≤arr.size) (t:m * es≤a.size)
  (h1:∀j v,j<n * es->arr[j]? = Y v->v.oneCell'=W) (u:∀j v,j<m * es->a[j]? = Y v->v.oneCell'=W) :
  B9 P (ρ.f 22) #[.slice (Y ⟨b,0,U⟩) n c,.int .i64 i,.slice (Y ⟨h,0,U⟩) m r] w fun e w'=>
   e=.returned (.slice (Y ⟨b,0,U⟩) (n+m) c)/\w'=cV (cV w.drew b (.cells (dq arr ((i+m) * es) ((arr.toList.take (n * es)).drop (i * es))) T (0,0))) b (.cells (dq (dq arr ((i+m) * es) ((arr.toList.take (n * es)).drop (i * es))) (i * es) (a.toList.take (m * es))) T (0,0)):=by
 have t0:=L.t0; have t3:=L.t3; have t4:=L.t4; have a6:=L.t24; have a3:=L.a3; have z3:=L.z3; have a4:=L.a4; have z4:=L.z4; have z9:=L.z9; have v9:=L.v9; have a7:=L.a24; have a8:=L.z24; have a9:=L.v24
 have u0:=Ϙ L.t0; have u3:=Ϙ L.t3; have u4:=Ϙ L.t4; have bb:=Ϙ L.t24
 have Β:=L.mixed
 have bc:¬((m:Q)=0):=by omega
 have bd:¬((i:Q)=(n:Q)):=by omega
 have be:i64.wrap ((i:Q)+(m:Q))=(i:Q)+(m:Q):=by rw [rf]; omega
 have bh:(0:Q)≤(i:Q)+(m:Q):=by omega
 have aa:i≤n:=by omega
 have bi:((i:Q)+(m:Q)).toNat=i+m:=by omega
 have bt:¬(c=i+m):=by omega
 have bu:(i:Q)≤(n:Q)+(m:Q):=by omega
 have bv:¬(c=i):=by omega
 have ab:n * es≤c * es:=Ja _ (by omega)
 have ad:(n+m) * es≤c * es:=Ja _ o
 have af:(n+m) * es=n * es+m * es:=OQ ..
 have ak:(i+m) * es=i * es+m * es:=OQ ..
 have an:i * es≤n * es:=Ja _ aa
 have av:(n-i) * es=n * es-i * es:=yCI ..
 have aw:0<m * es:=X.mul_pos hm Ζ
 have ax:∀lb cb,(callFunc (ρ.f 29) #[.slice (Y ⟨h,0,U⟩) m r,.slice (Y ⟨b,(i+m) * es,U⟩) lb cb]).run P w=.ok (.value (.bool Ι)) w:=fun lb cb=>by
  rw [L.ov,Lib.run_overlaps_apart w (ρ.t 24) (ρ.t 4) (ρ.t 9) L.t24 es L.z9 ⟨h,0,U⟩ ⟨b,(i+m) * es,U⟩ m r lb cb s O T a.size arr.size (Wj R) (Wj Η) (by omega) (WV R) (WV R)]
  rfl
 obtain ⟨g,x⟩:∃g,g=(arr.toList.take (n * es)).drop (i * es):=⟨_,rfl⟩
 obtain ⟨y,A⟩:∃y,y=a.toList.take (m * es):=⟨_,rfl⟩
 have a0:g.length=(n-i) * es:=by grind
 have a1:y.length=m * es:=by simp_all
 rw [←x,←A]
 have k:∀ty p sc,(ϯ #[(ρ.t 24),(ρ.t 24)] ty #[.slice (Y ⟨b,(i+m) * es,U⟩) (n+m-(i+m)) p,.slice (Y ⟨b,i * es,U⟩) (n+m-i) sc]).run P w.drew=.ok (goInt (ro (n+m-i) (n+m-(i+m)))) (cV w.drew b (.cells (dq arr ((i+m) * es) g) T (0,0))):=fun ty p sc=>
  pD w.drew _ _ ty (ρ.t 9) b ((i+m) * es) (n+m-(i+m)) p b (i * es) (n+m-i) sc es arr arr T T g L.t24 L.z9 (by grind) Η Η
   (fun j v E=>by
    grind) (by omega)
   (fun v d=>by
    rw [x] at d
    obtain ⟨j,E,e⟩:=fo (yBr d)
    simp only [Dl,yBp] at E
    exact h1 j v (by omega) (by grind))
 obtain ⟨F,q⟩:∃F,F=cV w.drew b (.cells (dq arr ((i+m) * es) g) T (0,0)):=⟨_,rfl⟩
 have a2:b<w.heap.size:=(EK.1 Η).1
 have G:F.heap[b]? = Y (.cells (dq arr ((i+m) * es) g) T (0,0)):=by rw [q]; exact fN a2
 have K:F.heap[h]? = Y (.cells a O (0,0)):=by rw [q,gX s]; exact R
 have N:∀(Γ:Τ),Γ.heap=F.heap->∀ty p,(ϯ #[(ρ.t 24),(ρ.t 24)] ty #[.slice (Y ⟨b,i * es,U⟩) (n+m-i) p,.slice (Y ⟨h,0,U⟩) m r]).run P Γ=.ok (goInt (ro m (n+m-i))) (cV Γ b (.cells (dq (dq arr ((i+m) * es) g) (i * es) y) T (0,0))):=fun Γ hW ty p=>
  pD Γ _ _ ty (ρ.t 9) b (i * es) (n+m-i) p h 0 m r es (dq arr ((i+m) * es) g) a T O y L.t24 L.z9 (by grind) (by simp_all) (by simp_all)
   (fun j v E=>by
    grind) (by grind [XM])
   (fun v d=>by
    rw [A] at d
    obtain ⟨j,E,e⟩:=fo d
    simp only [Dl,yBp] at E
    exact u j v (by omega) (by grind))
 rw [←q] at k ⊢
 clear ab ad af ak an av aw G K Ε t h1 u a0 a1
 go_enter L.f22,Body2.n22_ntmps ρ
 go_wp2_with (simp only [ax])
 go_region_law_o (refine step_copy_runI rfl _ _ (ρ.t 24) (ρ.t 24) rfl _ _ (by simp [yv,vv]) (by simp [yv,vv]) (k _ _ _) ?_)
 go_wp2_with (at_builtin; refine Cl _ rfl _ _ (ρ.t 24) (ρ.t 24) rfl _ _ rfl rfl (N _ rfl _ _) ?_)
 go_ret
 simp_all
set_option maxHeartbeats 4000000 in
set_option maxRecDepth 100000 in
def ins_grow{es x:X}{nm:E8}{z:Ο}(L:Rs P ρ es x nm z)(b n c i u m vc:X)(arr d:Φ Ο)(T Tv:Ψ)(w:Τ)(hi:i<n)(hm:0<m)(bi:0<es)(bt:n≤c)(s:c<n+m)(o:(n+m) * x≤140737488355328)(bu:n+m≤2000000)(bv:z.cells.size=es)
  (hh:w.heap[b]? = Y (.cells arr T (0,0))) (hv:w.heap[u]? = Y (.cells d Tv (0,0))) (aa:c * es≤arr.size) (y:m * es≤d.size)
  (h1:∀j v,j<n * es->arr[j]? = Y v->v.oneCell'=W) (ab:∀j v,j<m * es->d[j]? = Y v->v.oneCell'=W) :
  B9 P (ρ.f 22) #[.slice (Y ⟨b,0,U⟩) n c,.int .i64 i,.slice (Y ⟨u,0,U⟩) m vc] w fun e w'=>∃G a,n+m≤G/\a.size=G * es/\(∀j,j<i * es->a[j]? = arr[j]?) /\
   e=.returned (.slice (Y ⟨w.heap.size,0,U⟩) (n+m) G)/\w'=cV (cV (w.alloc (.cells a (ρ.t 9))).drew w.heap.size (.cells (dq a (i * es) (d.toList.take (m * es))) (ρ.t 9) (0,0))).drew w.heap.size (.cells (dq (dq a (i * es) (d.toList.take (m * es))) ((i+m) * es) ((arr.toList.take (n * es)).drop (i * es))) (ρ.t 9) (0,0)):=by
 have t0:=L.t0; have t3:=L.t3; have t4:=L.t4; have bw:=L.t24; have a3:=L.a3; have z3:=L.z3; have a4:=L.a4; have z4:=L.z4; have z9:=L.z9; have v9:=L.v9; have b0:=L.a24; have b1:=L.z24; have b2:=L.v24
 have u0:=Ϙ L.t0; have u3:=Ϙ L.t3; have u4:=Ϙ L.t4; have b3:=Ϙ L.t24
 have ad:=L.mixed
 obtain ⟨i0,af,ak,A,E⟩:=info_parts L.i9
 have b4:¬((m:Q)=0):=by omega
 have b5:¬((i:Q)=(n:Q)):=by omega
 have b6:(c:Q)<(n:Q)+(m:Q):=by omega
 have b7:i64.wrap ((i:Q)+(m:Q))=(i:Q)+(m:Q):=by rw [rf]; omega
 have b8:(0:Q)≤(i:Q)+(m:Q):=by omega
 have an:i≤n:=by omega
 have b9:((i:Q)+(m:Q)).toNat=i+m:=by omega
 have cg:(i:Q)≤(n:Q):=by omega
 have av:(n:Q)+(m:Q)-(i:Q)=((n+m-i:X):Q):=by omega
 have F:i+(n+m-i)=n+m:=by omega
 have aw:n * es≤c * es:=Ja _ (by omega)
 have ax:(n+m) * es=n * es+m * es:=OQ ..
 have a0:(i+m) * es=i * es+m * es:=OQ ..
 have a1:i * es≤n * es:=Ja _ an
 have a2:(n-i) * es=n * es-i * es:=yCI ..
 have a5:(n+m-i) * es=(n+m) * es-i * es:=yCI ..
 obtain ⟨G,hG⟩:∃G,G=grownCap w (n+m) c (ρ.t 9):=⟨_,rfl⟩
 have K:n+m≤G:=by grind [Go.grownCap_ge]
 have a6:(n+m) * es≤G * es:=Ja _ K
 have N:(G-(n+m)) * es=G * es-(n+m) * es:=yCI ..
 have p:(ϒ i0.size i (.slice (Y ⟨b,0,U⟩) i c)).run P w.drew=.ok (arr.toList.take (i * es)).toArray w.drew:=by
  rw [A]
  have hl:=I5 (P:=P) w.drew ⟨b,0,U⟩ (arr.toList.take (i * es)) (fun j v h=>by
   grind [Go.Addr.add_lit,Qa,Go.World.drew])
  rw [show (arr.toList.take (i * es)).length=i * es from by grind] at hl
  exact hl
 obtain ⟨a,O⟩:∃a:Φ Ο,a=(arr.toList.take (i * es)).toArray++Ϗ z.cells (n+m-i)++Ϗ z.cells (G-(n+m)):=⟨_,rfl⟩
 have a7:a.size=G * es:=by
  grind [jb]
 have a8:∀j,j<i * es->a[j]? = arr[j]?:=fun j hj=>by
  grind
 have a9:∀ty,(Builtin.append_ #[(ρ.t 24),(ρ.t 3)] ty #[.slice (Y ⟨b,0,U⟩) i c,.int .i64 ((n:Q)+(m:Q)-(i:Q))]).run P w =
   .ok (.slice (Y ⟨w.heap.size,0,U⟩) (n+m) G) (w.drew.alloc (.cells a (ρ.t 9))):=fun ty=>by
  have h:=Lib.run_append_grow_zeros w (ρ.t 24) (ρ.t 3) ty (ρ.t 9) i0 _ .i64 .i64 L.t24 L.t3 af ak (Y ⟨b,0,U⟩) i c (arr.toList.take (i * es)) p (n+m-i) (by omega) (by omega) (by omega) (by omega)
   (by rw [E]; exact jJ (Ja _ (by omega)) (jJ o (by omega))) (by rw [E,F]; exact growslice_fits s o)
  simp_all
 obtain ⟨Η,R⟩:∃Η,Η=(arr.toList.take (n * es)).drop (i * es):=⟨_,rfl⟩
 obtain ⟨g,S⟩:∃g,g=d.toList.take (m * es):=⟨_,rfl⟩
 have bb:Η.length=(n-i) * es:=by grind
 have bc:g.length=m * es:=by simp_all
 have Ζ:b<w.heap.size:=(EK.1 hh).1
 have Ε:u<w.heap.size:=(EK.1 hv).1
 obtain ⟨q,k⟩:∃q,q=(w.alloc (.cells a (ρ.t 9))).drew:=⟨_,rfl⟩
 have q1:q.heap[w.heap.size]? = Y (.cells a (ρ.t 9) (0,0)):=by rw [k]; exact heap_alloc_new w _
 have q2:q.heap[u]? = Y (.cells d Tv (0,0)):=by rw [k]; exact (Lq Ε).trans hv
 have q3:q.heap[b]? = Y (.cells arr T (0,0)):=by rw [k]; exact (Lq Ζ).trans hh
 have q4:w.heap.size<q.heap.size:=(EK.1 q1).1
 have Β:∀(Γ:Τ),Γ.heap=q.heap->∀ty t,(ϯ #[(ρ.t 24),(ρ.t 24)] ty #[.slice (Y ⟨w.heap.size,i * es,U⟩) (n+m-i) t,.slice (Y ⟨u,0,U⟩) m vc]).run P Γ=.ok (goInt (ro m (n+m-i))) (cV Γ w.heap.size (.cells (dq a (i * es) g) (ρ.t 9) (0,0))):=fun Γ hW ty t=>
  pD Γ _ _ ty (ρ.t 9) w.heap.size (i * es) (n+m-i) t u 0 m vc es a d (ρ.t 9) Tv g L.t24 L.z9 (by grind) (by simp_all) (by simp_all)
   (fun j v hj=>by
    grind) (by omega)
   (fun v bd=>by
    grind [ϑ])
 have r:∀(Γ:Τ),Γ.heap=(cV q w.heap.size (.cells (dq a (i * es) g) (ρ.t 9) (0,0))).heap->∀ty t sc,(ϯ #[(ρ.t 24),(ρ.t 24)] ty #[.slice (Y ⟨w.heap.size,(i+m) * es,U⟩) (n+m-(i+m)) t,.slice (Y ⟨b,i * es,U⟩) (n-i) sc]).run P Γ=.ok (goInt (ro (n-i) (n+m-(i+m)))) (cV Γ w.heap.size (.cells (dq (dq a (i * es) g) ((i+m) * es) Η) (ρ.t 9) (0,0))):=fun Γ hW ty t sc=>
  pD Γ _ _ ty (ρ.t 9) w.heap.size ((i+m) * es) (n+m-(i+m)) t b (i * es) (n-i) sc es (dq a (i * es) g) arr (ρ.t 9) T Η L.t24 L.z9 (by grind) (by grind [fN]) (by grind [gX])
   (fun j v hj=>by
    grind) (by grind [XM])
   (fun v bd=>by
    grind [ϑ])
 have be:G≤9223372036854775807:=by
  grind [Go.grownCap_le_maxLen,Go.maxLen]
 have ch:¬(G=i):=by omega
 have bh:¬(G=i+m):=by omega
 have ck:¬(c=i):=by omega
 rw [←R,←S]
 clear aw ax a0 a1 a2 a5 a6 N q1 q2 q3 q4 aa y h1 ab bb bc av F p O hG Ζ Ε R S
 subst k
 have hF:((cV (w.alloc (.cells a (ρ.t 9))).drew w.heap.size (.cells (dq a (i * es) g) (ρ.t 9) (0,0))).drew).heap=(cV (w.alloc (.cells a (ρ.t 9))).drew w.heap.size (.cells (dq a (i * es) g) (ρ.t 9) (0,0))).heap:=rfl
 go_enter L.f22,Body2.n22_ntmps ρ
 go_wp2_with (first
  | (at_builtin; refine Lib.wpList_append_run _ rfl _ _ _ _ rfl _ _ rfl rfl _ _ (a9 _) ?_)
  | (at_builtin; refine Cl _ rfl _ _ (ρ.t 24) (ρ.t 24) rfl _ _ rfl rfl (Β _ rfl _ _) ?_)
  | (at_builtin; refine Cl _ rfl _ _ (ρ.t 24) (ρ.t 24) rfl _ _ rfl rfl (r _ rfl _ _ _) ?_))
 go_region_law_o (refine step_copy_runI rfl _ _ (ρ.t 24) (ρ.t 24) rfl _ _ (by simp [yv,vv]) (by simp [yv,vv]) (r _ hF _ _ _) ?_)
 go_wp2
 go_ret
 exact ⟨G,a,K,a7,a8,rfl,rfl⟩
end Go.Abs
end
section
namespace Go.Abs
open Go.Proofs Go.Shelf
noncomputable section
section
variable[Gl]{P:Ν}{ρ:Ren}{V:au}{M:X->Δ X}{Fz:X->Prop}{w:Τ}
def XP{e p:Φ Ο}{n m k es:X}{arr:Φ Ο}{a g:Z D}(hk:k<=n)(r:a.length=n*es)(o:g.length=m*es)(x:∀j,j<k*es->arr[j]? =e[j]?)(s:∀j,j<m*es->arr[k*es+j]? =p[j]?)(t:∀j,k*es<=j->j<n*es->arr[j+m*es]? =e[j]?)(Η:D->Ο->Prop)(y:∀(i:X) d v,a[i]? =Y d->e[i]? =Y v->Η d v)(A:∀(i:X) d v,g[i]? =Y d->p[i]? =Y v->Η d v): ∀(i:X) d v,(a.take (k*es)++g++a.drop (k*es))[i]? =Y d->arr[i]? =Y v->Η d v:=λi d v b E=>by have F:k*es<=n*es:=Ja _ hk;have q:(a.take (k*es)).length=k*es:=by{simp_all};by_cases h:i<k*es;{grind};by_cases G:i<k*es+m*es;{rw[Jc (by simp_all),PO (by omega),q]at b;have:=s (i-k*es) (by omega);grind};rw[PO (by simp_all),yBX]at b;simp only[Bv,q,o]at b;have u:=(fV.1 b).1;have:=t (k*es+(i-(k*es+m*es))) (by omega) (by omega);grind
def Ut{c:X}{o o':Obj}:(cV (cV w c o) c o').heap=(cV w c o').heap:=by simp only[cV];simp_all
def Uw{o o':Obj}:(cV (w.alloc o) w.heap.size o').heap=(w.alloc o').heap:=by show(w.heap.push o).setIfInBounds w.heap.size o'=w.heap.push o';grind
end
section
variable[Gl][Α:Ty]{P:Ν}{ρ:Ren}{α:Type}{f:α->Z C}{es:X}
def flat_ins(b:∀a,(f a).length=es){l v:Z α}{k:X}(hk:k<=l.length):((l.take k++v++l.drop k).flatMap f).map D.c=((l.flatMap f).map D.c).take (k*es)++(v.flatMap f).map D.c++((l.flatMap f).map D.c).drop (k*es):=by have e:(l.flatMap f).map D.c=((l.take k).flatMap f).map D.c++((l.drop k).flatMap f).map D.c:=by{grind[Z.take_append_drop]};grind[WI,Z.length_take]
def UW{af:X}{nm:E8}{z:Ο}(L:Rs P ρ es af nm z)(a6:z.cells.size=es)(S:0<es)(a7:af<=1000)(hf:∀a,(f a).length=es){l v:Z α}{k:X}(hk:k<l.length)(hm:0<v.length)(ak:l.length+v.length<=1000000):Ok P (ρ.f 22) [OS es 0 l.length,.c (.lit (.int .i64 (k:Q))),OS es 1 v.length] [OB f l,OB f v] (OS es 0 (l.take k++v++l.drop k).length) [OB f (l.take k++v++l.drop k),OB f v]:=by intro M Fz w vs R hs hv;have a8:vs.size=3:=hs;obtain⟨v0,v1,v2,rfl⟩:∃v0 v1 v2,vs=#[v0,v1,v2]:=by{obtain⟨xs⟩:=vs;match xs,a8 with|[a,b,c],_=>simp_all};have g0:=hv 0 _ v0 rfl rfl;have g1:=(hv 1 _ v1 rfl rfl).cz;have g2:=hv 2 _ v2 rfl rfl;subst g1;have t:([OB f l,OB f v]:au)[0]? =Y (.cells ((l.flatMap f).map D.c)):=rfl;have an:([OB f l,OB f v]:au)[1]? =Y (.cells ((v.flatMap f).map D.c)):=rfl;have L0:((l.flatMap f).map D.c).length=l.length*es:=by{rw[qY,WI hf]};have L1:((v.flatMap f).map D.c).length=v.length*es:=by{rw[qY,WI hf]};have nn:(l.take k++v++l.drop k).length=l.length+v.length:=by{grind};have bw:k*es<l.length*es:=yBD hk S;have b0:(l.length+v.length)*es=l.length*es+v.length*es:=OQ ..;have b1:0<v.length*es:=X.mul_pos hm S;have b2:(k+v.length)*es=k*es+v.length*es:=OQ ..;rcases g0.fW (SW t L0)with⟨_,e,_⟩|⟨c,o,cap,m,T,hM,rfl,⟨a9,b3⟩,ho,hh,bv,_⟩;{omega};rcases g2.fW (SW an L1)with⟨_,e,_⟩|⟨cv,ov,Γ,n,Tv,av,rfl,⟨b4,b5⟩,b6,Β,bb,_⟩;{omega};have b7:∀x y:X,0<x->x<=y->y≠0:=λx y h h'=>by{omega};obtain rfl:o=0:=by{omega};obtain rfl:ov=0:=by{omega};obtain⟨F,T',aa,_,aw⟩:=R.row hM t;rw[hh]at aa;simp only[az,ϙ,OW]at aa;obtain⟨rfl,rfl⟩:=aa;obtain⟨bc,b8,K,_,ax⟩:=R.row av an;rw[Β]at K;simp only[az,ϙ,OW]at K;obtain⟨rfl,rfl⟩:=K;have bd:cv≠c:=λe=>by{have:=R.inj 1 0 c (e▸av) hM;omega};have o1:∀j x,j<l.length*es->m[j]? =Y x->x.oneCell'=W:=λj x hj hx=>by{grind};have o2:∀j x,j<v.length*es->n[j]? =Y x->x.oneCell'=W:=λj x hj hx=>by{grind};have N:cap*es<=m.size:=by{omega};have s:v.length*es<=n.size:=by{omega};have hS:=λh:l.length+v.length<=cap=>Ye L c l.length cap k cv v.length Γ m n T Tv w hk hm S h (by omega) hh Β bd N s o1 o2;have hG:=λh:cap<l.length+v.length=>ins_grow L c l.length cap k cv v.length Γ m n T Tv w hk hm S a9 h (jJ (yCy ak a7) (by omega)) (by omega) a6 hh Β N s o1 o2;have a0:((m.toList.take (l.length*es)).drop (k*es)).length=l.length*es-k*es:=by{grind};have a1:(n.toList.take (v.length*es)).length=v.length*es:=by{grind};have b9:∀j,k*es<=j->j<l.length*es->((m.toList.take (l.length*es)).drop (k*es))[j-k*es]? =m[j]?:=λj h h'=>by{rw[yBX,show k*es+(j-k*es)=j by omega,E9,Μ h'];simp};have cg:∀j,j<v.length*es->(n.toList.take (v.length*es))[j]? =n[j]?:=λj h=>by{grind};generalize(m.toList.take (l.length*es)).drop (k*es)=CS at*;generalize n.toList.take (v.length*es)=VS at*;have fin:=flat_ins hf (l:=l) (v:=v) (k:=k) (by omega);have Lf:(((l.take k++v++l.drop k).flatMap f).map D.c).length=(l.length+v.length)*es:=by{grind};have R1:Rel [OB f l,OB f v] M Fz w.drew:=R.heap rfl ⟨rfl,rfl,rfl⟩;have E1:bN [OB f l,OB f v] M Fz w [OB f l,OB f v] M Fz w.drew:=bN.heap R rfl ⟨rfl,rfl,rfl⟩;have be:c<w.heap.size:=(EK.1 hh).1;have row:∀(A:Φ Ο)(M':X->Δ X)(w':Τ),bN [OB f l,OB f v] M Fz w [OB f (l.take k++v++l.drop k),OB f v] M' Fz w'->(∀j,j<k*es->A[j]? =m[j]?)->(∀j,j<v.length*es->A[k*es+j]? =n[j]?)->(∀j,k*es<=j->j<l.length*es->A[j+v.length*es]? =m[j]?)-> ∀(i:X) d x,(((l.take k++v++l.drop k).flatMap f).map D.c)[i]? =Y d->A[i]? =Y x->σ [OB f (l.take k++v++l.drop k),OB f v] M' Fz w' d x/\x.oneCell'=W:=λA M' w' E hA hB hC=>by{rw[fin];exact XP (by omega) L0 L1 hA hB hC (λd x=>σ [OB f (l.take k++v++l.drop k),OB f v] M' Fz w' d x/\x.oneCell'=W) (λi d x h1 h2=>⟨(aw i d x h1 h2).1.mono E,(aw i d x h1 h2).2⟩) (λi d x h1 h2=>⟨(ax i d x h1 h2).1.mono E,(ax i d x h1 h2).2⟩)};have Ζ:(Ob.cells ((l.flatMap f).map D.c)).sz<(OB f (l.take k++v++l.drop k)).sz:=by{show((l.flatMap f).map D.c).length<(((l.take k++v++l.drop k).flatMap f).map D.c).length;omega};by_cases q:l.length+v.length<=cap;{refine(hS q).mono λe w' he=>?_;obtain⟨rfl,rfl⟩:=he;have bh:(l.length+v.length)*es<=cap*es:=Ja _ q;generalize ab:dq m ((k+v.length)*es) CS=u;have bi:u.size=m.size:=by{grind[XM]};generalize ad:dq u (k*es) VS=p;have bt:p.size=m.size:=by{grind[XM]};rw[Lj];have Ε:∀O T1 fr,Ϣ m T (0,0)=.cells O T1 fr->∃F,Ϣ p T (0,0)=.cells F T1 fr/\F.size=O.size:=λO T1 fr h=>by{grind};have EV:=bN.uU (ob':=OB f (l.take k++v++l.drop k)) R1 hM t hh (yCr Ζ) Ε;have a2:=E1.trans EV (cU _);have g:∀j,p[j]? =if k*es<=j/\j<k*es+v.length*es then VS[j-k*es]? else u[j]?:=λj=>by{rw[<-ad,cN (by omega),a1]};have g':∀j,u[j]? =if(k+v.length)*es<=j/\j<(k+v.length)*es+(l.length*es-k*es)then CS[j-(k+v.length)*es]? else m[j]?:=λj=>by{rw[<-ab,cN (by omega),a0]};have hr:=row p M _ a2 (λj hj=>by rw[g,Κ (by omega),g',Κ (by omega)]) (λj hj=>by rw[g,Μ (by omega),yBQ];grind) (λj h h'=>by rw[g,Κ (by omega),g',Μ (by omega),show j+v.length*es-(k+v.length)*es=j-k*es by omega];grind);refine⟨_,M,Fz,rfl,R1.uU hM t hh (yCr Ζ) Ε ⟨p,T,rfl,by omega,hr⟩,?_,a2⟩;rw[nn];refine .sl _ _ _ (by simp) (OB f (l.take k++v++l.drop k)) rfl (by show _<=(((l.take k++v++l.drop k).flatMap f).map D.c).length;omega) (λ_=>.inr ⟨c,0,p,T,hM,rfl,rfl,⟨q,by omega⟩,.inl rfl,fN be,by omega,by omega⟩)};refine(hG (by omega)).mono λe w' he=>?_;obtain⟨G,r,a5,ch,bu,rfl,rfl⟩:=he;have bh:(l.length+v.length)*es<=G*es:=Ja _ a5;generalize ab:dq r (k*es) VS=u;have bi:u.size=r.size:=by{grind[XM]};generalize ad:dq u ((k+v.length)*es) CS=p;have bt:p.size=r.size:=by{grind[XM]};have EV:=bN.move (o':=.cells p (ρ.t 9)) (ob':=OB f (l.take k++v++l.drop k)) R t Ζ;have Η:(cV (cV (w.alloc (.cells r (ρ.t 9))).drew w.heap.size (.cells u (ρ.t 9) (0,0))).drew w.heap.size (.cells p (ρ.t 9) (0,0))).heap=(w.alloc (.cells p (ρ.t 9))).heap:=by{have e1:(cV (cV (w.alloc (.cells r (ρ.t 9))).drew w.heap.size (.cells u (ρ.t 9) (0,0))).drew w.heap.size (.cells p (ρ.t 9) (0,0))).heap=(cV (cV (w.alloc (.cells r (ρ.t 9))) w.heap.size (.cells u (ρ.t 9) (0,0))) w.heap.size (.cells p (ρ.t 9) (0,0))).heap:=rfl;rw[e1,Ut,Uw]};have g:∀j,p[j]? =if(k+v.length)*es<=j/\j<(k+v.length)*es+(l.length*es-k*es)then CS[j-(k+v.length)*es]? else u[j]?:=λj=>by{rw[<-ad,cN (by omega),a0]};have g':∀j,u[j]? =if k*es<=j/\j<k*es+v.length*es then VS[j-k*es]? else r[j]?:=λj=>by{rw[<-ab,cN (by omega),a1]};have hr:=row p _ _ EV (λj hj=>by rw[g,Κ (by omega),g',Κ (by omega),bu j hj]) (λj hj=>by rw[g,Κ (by omega),g',Μ (by omega),yBQ];grind) (λj h h'=>by rw[g,Μ (by omega),show j+v.length*es-(k+v.length)*es=j-k*es by omega];grind);have RM:=R.move (o':=.cells p (ρ.t 9)) (ob':=OB f (l.take k++v++l.drop k)) t Ζ ⟨p,ρ.t 9,rfl,by omega,hr⟩;have ck:(w.alloc (.cells p (ρ.t 9))).os=w.os/\(w.alloc (.cells p (ρ.t 9))).tape=w.tape/\(w.alloc (.cells p (ρ.t 9))).output=w.output:=⟨rfl,rfl,rfl⟩;have RF:=RM.heap Η ⟨rfl,rfl,rfl⟩;have EF:=EV.trans (bN.heap RM Η ⟨rfl,rfl,rfl⟩) (cU _);refine⟨_,_,Fz,rfl,RF,?_,?_⟩;rotate_left;{exact EF};rw[nn];refine .sl _ _ _ (by simp) (OB f (l.take k++v++l.drop k)) rfl (by show _<=(((l.take k++v++l.drop k).flatMap f).map D.c).length;omega) (λ_=>.inr ⟨w.heap.size,0,p,ρ.t 9,by simp[yK],rfl,rfl,⟨a5,by omega⟩,.inl rfl,?_,by omega,by omega⟩);grind[Go.heap_alloc_new]
end
end
end Go.Abs
end
section
namespace Go.Abs
open Go.Proofs Go.Shelf
noncomputable section
variable[Gl][Α:Ty]
def QX{α:Type}(l v:Z α)(k:Q):Δ (Z α):=if 0<=k/\k<l.length/\0<v.length/\l.length+v.length<=1000000 then Y (l.take k.toNat++v++l.drop k.toNat)else U
def orE{α:Type}(a b:Δ α):Δ α:=match a with|Y x=>Y x|U=>b
def cT.or{P:Ν}{g:ύ}{o:CT}{s:Z CT}{f1 f2:dK o.items->Δ (rA s)}(u:cT P g ⟨o,s,f1⟩)(R:cT P g ⟨o,s,f2⟩):cT P g ⟨o,s,λx=>orE (f1 x) (f2 x)⟩:=⟨u.1,λx y A V E z F G j K O Η=>by change orE (f1 x) (f2 x)=Y y at j;cases h:f1 x with|some Ζ=>rw[h]at j;exact u.2 x y A V E z F G (by rw[←j];exact h) K O Η|none=>rw[h]at j;exact R.2 x y A V E z F G j K O Η⟩
def LD{P:Ν}{ρ:Ren}{ii es d:X}{s:E8}{z:Ο}(L:Rs P ρ es d s z)(m:Ρ es (aC ii)=W)(t:ba P (ρ.f 22)=W)(n:Ρ z.cells.size es=W)(o:η 0 es=W)(p:X.ble d 1000=W):cT P (ρ.f 22) ⟨.mk [.p (.hd 0),.v (.c (.int .i64)),.p (.hd 1)] [] [.row ii,.row ii] [] [] [],[.mk [.p (.hd 0)] [.w 0 ii] [] [] [] []],λx=>QX (α:=TT ii) x.1 x.2.1 x.2.2⟩:=by have:=dm m;subst this;refine⟨t,λx y u V K z A E b r a q=>?_⟩;dsimp only at b r a;change dK [It.ls ii,It.ls ii,It.cc (.int .i64)]at x;change dK [It.ls ii]at y;have g:Y ([TV.c (.own ii 0 0 (τ (α:=TT ii) x.1)),TV.c (.d (.c (.lit (.int .i64 x.2.2)))),TV.c (.own ii 1 0 (τ (α:=TT ii) x.2.1))],[TB.row ii x.1 0 0,TB.row ii x.2.1 0 0])=Y (u,V):=by{rw[<-r];have e:dR (CT.items (.mk [.p (.hd 0),.v (.c (.int .i64)),.p (.hd 1)] [] [.row ii,.row ii] [] [] [])) x=[⟨.ls ii,x.1⟩,⟨.ls ii,x.2.1⟩,⟨.cc (.int .i64),x.2.2⟩]:=rfl;unfold kg;rw[e];simp only[CT.pl,CT.nb,CT.out,cj,dC,jj,yi,sM,Eu,eG,dV,Ce,vJ,vG,yBl,sS]};simp only[az,a_]at g;obtain⟨rfl,rfl⟩:=g;simp only[q_,az,yB7]at a;obtain⟨rfl,rfl⟩:=a;have j:Y ([TV.c (.own ii 0 1 (τ (α:=TT ii) y))],[TB.row ii y 1 1,TB.row ii x.2.1 0 0])=Y (A,E):=by{rw[<-q];have e:dR (CT.items (.mk [.p (.hd 0)] [.w 0 ii] [] [] [] [])) y=[⟨.ls ii,y⟩]:=rfl;unfold kg;rw[e];simp only[CT.pl,CT.nb,CT.out,cj,dC,jj,yi,sM,Eu,eG,dV,Ce,Fs,vJ,vG,yBl,yCl,yC7]};simp only[az,a_]at j;obtain⟨rfl,rfl⟩:=j;obtain⟨l,v,k⟩:=x;change Z (TT ii)at l;change Z (TT ii)at v;change Z (TT ii)at y;change Q at k;change QX l v k=Y y at b;unfold QX at b;split at b;{rename_i h;simp only[az]at b;subst b;obtain⟨N,O,F,G⟩:=h;have:=UW L (dm n) (vI.mp o) (Dm p) (rV ii) (l:=l) (v:=v) (k:=k.toNat) (by omega) F G;rw[show((k.toNat:X):Q)=k by omega]at this;exact this};simp at b
end
end Go.Abs
end
section
namespace Go.Abs
open Go.Proofs Go.Sort Go.RowKit
noncomputable section
structure Tn (P:Ν)(g:ύ):Prop where
 en:ba P g=W
 run:∀(blk off cap:X)(zs:Z Q)(w:Τ),Holds qa w blk off zs.toArray->blk<w.heap.size->zs.length<4611686018427387904->B9 P g #[.slice (Y ⟨blk,off,U⟩) zs.length cap] w λe w'=>e=.returned (.tuple #[])/\∃n os,w'=grow (putRow qa (ew w n) blk off (zs.mergeSort λx y=>Θ (x<=y)).toArray) os
 nil:∀(p:Δ Addr)(cap:X)(w:Τ),B9 P g #[.slice p 0 cap] w λe w'=>e=.returned (.tuple #[])/\w'=w
structure DO (P:Ν)(g:ύ):Prop where
 en:ba P g=W
 run:∀(blk off cap:X)(zs:Z Q)(w:Τ),Holds qa w blk off zs.toArray->zs.length<=9223372036854775807->zs.length<=cap->B9 P g #[.slice (Y ⟨blk,off,U⟩) zs.length cap] w λe w'=>e=.returned (.slice (Y ⟨blk,off,U⟩) (ώ zs).length cap)/\∃q,w'=putRow qa (ew w q) blk off (ώ zs++μ (zs.length-(ώ zs).length) 0).toArray
 nil:∀(a:Δ Addr)(cap:X)(w:Τ),B9 P g #[.slice a 0 cap] w λe w'=>e=.returned (.slice a 0 cap)/\w'=w
def Vw(x:Q):Z Q->Z Q|[]=>[x]|y::l=>if x<=y then x::y::l else y::Vw x l
def Pc:Z Q->Z Q|[]=>[]|x::l=>Vw x (Pc l)
theorem DJ(x:Q):∀l,(Vw x l).Perm (x::l)|[]=>.refl _|y::l=>by unfold Vw;split;{exact .refl _};exact((DJ x l).cons y).trans (.swap ..)
theorem Hz:∀l,(Pc l).Perm l|[]=>.refl _|x::l=>(DJ x _).trans ((Hz l).cons x)
theorem Fb(x:Q):∀{l:Z Q},l.Pairwise (λa b=>Θ (a<=b)=W)->(Vw x l).Pairwise λa b=>Θ (a<=b)=W|[],_=>by simp[Vw]|y::l, h=>by have e:=yBz.1 h;unfold Vw;split;{rename_i c;refine yBz.2 ⟨λa d=>?_,h⟩;rcases gJ.1 d with rfl|d;{simpa using c};have:=e.1 a d;simp at this ⊢;omega};rename_i c;refine yBz.2 ⟨λa d=>?_,Fb x e.2⟩;rcases gJ.1 ((DJ x l).mem_iff.1 d)with rfl|d;{simp;omega};exact e.1 a d
theorem BA:∀l,(Pc l).Pairwise λa b=>Θ (a<=b)=W|[]=>.nil|x::l=>Fb x (BA l)
def Su(l:Z Q):Pc l=l.mergeSort λx y=>Θ (x<=y):=(Z.mergeSort_of_pairwise (BA l)).symm.trans (Go.mergeSort_of_perm_i (Hz l))
def Qh{α:Type}(d:α->Q)(c:Q->α)(l:Z α):Δ (Z α):=if l.length<=1000000 then Y ((Pc (l.map d)).map c)else U
def Sn{α:Type}(d:α->Q)(c:Q->α)(l:Z α):Δ (Z α×Z α):=if l.length<=1000000 then Y (l++[c 0],(ώ (l.map d)).map c)else U
abbrev dI(k:Q):D:=.c (.lit (.int .i64 k))
variable[Gl]
def WT{V:au}{M:X->Δ X}{Fz:X->Prop}{w:Τ}(R:Rel V M Fz w){b c n:X}{os:Φ Obj}{arr:Φ Ο}{T:Ψ}(u:M b=Y c){zs a:Z Q}(x:V[b]? =Y (.cells (zs.map dI)))(q:w.heap[c]? =Y (.cells arr T (0,0)))(Η:a.length=zs.length)(E:zs.length<=arr.size):Rel (V.set b (.cells (a.map dI))) M Fz (grow (putRow qa (ew w n) c 0 a.toArray) os)/\bN V M Fz w (V.set b (.cells (a.map dI))) M Fz (grow (putRow qa (ew w n) c 0 a.toArray) os)/\(grow (putRow qa (ew w n) c 0 a.toArray) os).heap[c]? =Y (.cells (putCells qa 0 a.toArray arr) T (0,0)):=by have F:c<w.heap.size:=(EK.1 q).1;have S:(putCells qa 0 a.toArray arr).size=arr.size:=by{simp[putCells]};have j:∀e r s,Ϣ arr T (0,0)=.cells e r s->∃m,Ϣ (putCells qa 0 a.toArray arr) T (0,0)=.cells m r s/\m.size=e.size:=λe r s h=>by{simp_all};have o:(Ob.cells (zs.map dI)).sz<=(Ob.cells (a.map dI)).sz:=by{grind[Ob.sz]};have cells:∀(i:X) k,a[i]? =Y k->(putCells qa 0 a.toArray arr)[i]? =Y (qa k):=λi k hk=>by{have Ζ:i<a.length:=(fV.1 hk).1;have G:i<arr.size:=by{omega};simp only[putCells,Φ.getElem?_mapIdx,sL G,Cs];simp_all};have K:=bN.uU (ob':=.cells (a.map dI)) R u x q o j;have y:=R.uU (ob':=.cells (a.map dI)) u x q o j ⟨_,T,rfl,by simp_all,λi d v A t=>by rw[jG,cJ]at A;obtain⟨k,hk,rfl⟩:=A;rw[cells i k hk]at t;simp only[az]at t;subst t;exact⟨.c (.lit _),rfl⟩⟩;have p:=heap_sorted_i (n:=n) (os:=os) a.toArray q;have B:Below (cV w c (.cells (putCells qa 0 a.toArray arr) T (0,0))).heap.size (cV w c (.cells (putCells qa 0 a.toArray arr) T (0,0))) (grow (putRow qa (ew w n) c 0 a.toArray) os):=by{obtain⟨L,N,O,Γ,Ε⟩:=grownBy_sorted_i (w:=w) (g:=c) (n:=n) (os:=os) a.toArray;refine⟨L,N,O,by simp_all,λk hk=>?_⟩;grind[fN,gX]};exact⟨y.below B,K.trans (bN.below y B) (by simp),p⟩
def Lx{V:au}{M:X->Δ X}{Fz:X->Prop}{w:Τ}(R:Rel V M Fz w){b c:X}{arr:Φ Ο}{T:Ψ}(j:M b=Y c){zs:Z Q}(k:V[b]? =Y (.cells (zs.map dI)))(g:w.heap[c]? =Y (.cells arr T (0,0)))(m:zs.length<=arr.size):Holds qa w c 0 zs.toArray:=by obtain⟨h,n,a,o,d⟩:=R.row j k;rw[g]at a;simp only[az,ϙ,OW]at a;obtain⟨rfl,rfl⟩:=a;refine holds_of_block_i g (XY λi=>?_);by_cases e:i<zs.length;{rw[E9,Μ e,Qj,jG,fe e,sL (by omega)];have:=(d i (dI zs[i]) (arr[i]'(by omega)) (by simp[e]) (sL _)).1.cz;simp_all};simp_all
variable[Α:Ty]
def sort_run{P:Ν}{g:ύ}(K:Tn P g){zs:Z Q}(t:zs.length<=1000000):Ok P g [.sl 0 0 zs.length 1 (zs.length*1)] [.cells (zs.map dI)] (.aX []) [.cells ((zs.mergeSort λx y=>Θ (x<=y)).map dI)]:=by intro M Fz w u R G L;obtain⟨k,rfl⟩:∃k,u=#[k]:=by{obtain⟨N⟩:=u;match N,G with|[a],_=>simp_all};have A:=L 0 _ k rfl rfl;have j:([Ob.cells (zs.map dI)]:au)[0]? =Y (.cells (zs.map dI)):=rfl;have b:kE [Ob.cells (zs.map dI)] 0 (zs.length*1)=Y (zs.map dI):=SW j (by simp);have O:(zs.mergeSort λx y=>Θ (x<=y)).length=zs.length:=Z.length_mergeSort zs;by_cases E:zs=[];{subst E;have:∃p cap,k=.slice p 0 cap:=by{rcases A.fW b with⟨h,_⟩|⟨c,o,cap,m,T,q,h,_⟩<;>exact⟨_,_,h⟩};obtain⟨p,cap,rfl⟩:=this;refine(K.nil p cap w).mono ?_;rintro e Η ⟨rfl,rfl⟩;rw[show([]:Z Q).mergeSort (λx y=>Θ (x<=y))=[]by simp];exact⟨_,M,Fz,rfl,R,.aX _ rfl λi d v h=>by simp at h,bN.refl R⟩};have S:zs.length≠0:=λh=>E (We h);rcases A.fW b with⟨_,e,_⟩|⟨c,o,cap,m,T,q,rfl,⟨Ζ,Γ⟩,ho,r,F,_⟩;{omega};obtain rfl:o=0:=by{omega};have s:c<w.heap.size:=(EK.1 r).1;refine(K.run c 0 cap zs w (Lx R q j r (by omega)) s (by omega)).mono ?_;rintro e Η ⟨rfl,n,os,rfl⟩;obtain⟨Ε,Β,_⟩:=WT (n:=n) (os:=os) R q j r O (by omega);exact⟨_,M,Fz,rfl,Ε,.aX _ rfl λi d v h=>by simp at h,Β⟩
theorem AN(zs:Z Q):(ώ zs).length<=zs.length:=by grind[Go.Lib.compact,Go.Lib.compactUpTo]
def QS{P:Ν}{g:ύ}(K:DO P g){zs garb:Z Q}(t:zs.length<=1000000)(Β:zs.length<garb.length):Ok P g [.sl 0 0 zs.length 1 (zs.length*1)] [.cells (zs.map dI)] (.sl 1 0 (ώ zs).length 1 ((ώ zs).length*1)) [.cells (garb.map dI),.cells ((ώ zs).map dI)]:=by have G:(ώ zs++μ (zs.length-(ώ zs).length) 0).length=zs.length:=by{grind[AN]};have k:Ok P g [.sl 0 0 zs.length 1 (zs.length*1)] [.cells (zs.map dI)] (.sl 0 0 (ώ zs).length 1 (zs.length*1)) [.cells ((ώ zs++μ (zs.length-(ώ zs).length) 0).map dI)]:=by{intro M Fz w u R L N;obtain⟨m,rfl⟩:∃m,u=#[m]:=by{obtain⟨O⟩:=u;match O,L with|[a],_=>simp_all};have v:=N 0 _ m rfl rfl;have j:([Ob.cells (zs.map dI)]:au)[0]? =Y (.cells (zs.map dI)):=rfl;have b:kE [Ob.cells (zs.map dI)] 0 (zs.length*1)=Y (zs.map dI):=SW j (by simp);by_cases x:zs=[];{subst x;have:∃p cap,m=.slice p 0 cap:=by{rcases v.fW b with⟨h,_⟩|⟨c,o,cap,r,T,q,h,_⟩<;>exact⟨_,_,h⟩};obtain⟨p,cap,rfl⟩:=this;refine(K.nil p cap w).mono ?_;grind[bN.refl]};have Η:zs.length≠0:=λh=>x (We h);rcases v.fW b with⟨_,e,_⟩|⟨c,o,cap,r,T,q,rfl,⟨S,Ζ⟩,ho,s,y,_⟩;{omega};obtain rfl:o=0:=by{omega};have Γ:c<w.heap.size:=(EK.1 s).1;refine(K.run c 0 cap zs w (Lx R q j s (by omega)) (by omega) (by omega)).mono ?_;rintro e w' ⟨rfl,n,rfl⟩;have Ε:∀w:Τ,grow w #[]=w:=λw=>by{simp_all};obtain⟨A,E,F⟩:=WT (n:=n) (os:=#[]) R q j s G (by omega);rw[Ε]at A E F;refine⟨_,M,Fz,rfl,A,?_,E⟩;have:=AN zs;exact .sl _ _ _ (by simp) (.cells ((ώ zs++μ (zs.length-(ώ zs).length) 0).map dI)) rfl (by grind[Ob.sz]) λ_=>.inr ⟨c,0,_,T,q,rfl,rfl,⟨by omega,by omega⟩,.inl rfl,F,by simp[putCells];omega,by omega⟩};have:=Ok.cut (garb:=garb.map dI) k (by simp_all) (by grind) (λd hd=>by grind) (by simp_all) (by simp);simp_all
theorem OB_int{ii:X}{d:TT ii->Q}(b:∀a,enc ii a=[.lit (.int .i64 (d a))])(l:Z (TT ii)):OB (enc ii) l=.cells ((l.map d).map dI):=by unfold OB;congr 1;induction l with|nil=>rfl|cons a l ih=>simp_all
theorem VV{ii:X}{c:Q->TT ii}(b:∀k,enc ii (c k)=[.lit (.int .i64 k)])(l:Z Q):OB (enc ii) (l.map c)=.cells (l.map dI):=by unfold OB;congr 1;induction l with|nil=>rfl|cons a l ih=>simp_all
def sort_oo{P:Ν}{g ii:X}(K:Tn P g){d:TT ii->Q}{c:Q->TT ii}(v:∀a,enc ii a=[.lit (.int .i64 (d a))])(A:∀k,enc ii (c k)=[.lit (.int .i64 k)])(o:Ρ (aC ii) 1=W):cT P g ⟨.mk [.p (.hd 0)] [] [.row ii] [] [] [],[.mk [] [.w 0 ii] [] [] [] []],λx=>Qh (α:=TT ii) d c x⟩:=by have r:=dm o;refine⟨K.en,λx y s V E z t u j q b p=>?_⟩;dsimp only at j q b;change dK [It.ls ii]at x;change dK [It.ls ii]at y;have m:Y ([TV.c (.own ii 0 0 (τ (α:=TT ii) x))],[TB.row ii x 0 0])=Y (s,V):=by{rw[<-q];have e:dR (CT.items (.mk [.p (.hd 0)] [] [.row ii] [] [] [])) x=[⟨.ls ii,x⟩]:=rfl;unfold kg;rw[e];simp only[CT.pl,CT.nb,CT.out,cj,dC,jj,yi,sM,Eu,eG,dV,Ce,vJ,vG]};simp only[az,a_]at m;obtain⟨rfl,rfl⟩:=m;simp only[q_,az,yB7]at b;obtain⟨rfl,rfl⟩:=b;have n:Y (([]:Z TV),[TB.row ii y 1 1])=Y (t,u):=by{rw[<-p];have e:dR (CT.items (.mk [] [.w 0 ii] [] [] [] [])) y=[⟨.ls ii,y⟩]:=rfl;unfold kg;rw[e];simp only[CT.pl,CT.nb,CT.out,cj,dC,jj,Eu,eG,dV,Ce,Fs,vJ,vG,yCl,yC7]};simp only[az,a_]at n;obtain⟨rfl,rfl⟩:=n;change Z (TT ii)at x;change Z (TT ii)at y;change Qh d c x=Y y at j;unfold Qh at j;rw[Su]at j;split at j;{rename_i h;simp only[az]at j;subst j;have:=sort_run K (zs:=x.map d) (by simp_all);show Ok P g [OS (aC ii) 0 x.length] [OB (enc ii) x] (.aX []) [OB (enc ii) _];grind[OB_int,VV]};simp_all
def US{P:Ν}{g ii:X}(K:DO P g){d:TT ii->Q}{c:Q->TT ii}(E:∀a,enc ii a=[.lit (.int .i64 (d a))])(F:∀k,enc ii (c k)=[.lit (.int .i64 k)])(o:Ρ (aC ii) 1=W):cT P g ⟨.mk [.p (.hd 0)] [] [.row ii] [] [] [],[.mk [.p (.hd 1)] [.w 0 ii] [.row ii] [] [] []],λx=>Sn (α:=TT ii) d c x⟩:=by have t:=dm o;refine⟨K.en,λx y u V G z v A j q b p=>?_⟩;dsimp only at j q b;change dK [It.ls ii]at x;change dK [It.ls ii,It.ls ii]at y;have m:Y ([TV.c (.own ii 0 0 (τ (α:=TT ii) x))],[TB.row ii x 0 0])=Y (u,V):=by{rw[<-q];have e:dR (CT.items (.mk [.p (.hd 0)] [] [.row ii] [] [] [])) x=[⟨.ls ii,x⟩]:=rfl;unfold kg;rw[e];simp only[CT.pl,CT.nb,CT.out,cj,dC,jj,yi,sM,Eu,eG,dV,Ce,vJ,vG]};simp only[az,a_]at m;obtain⟨rfl,rfl⟩:=m;simp only[q_,az,yB7]at b;obtain⟨rfl,rfl⟩:=b;have n:Y ([TV.c (.own ii 1 0 (τ (α:=TT ii) y.2))],[TB.row ii y.1 1 1,TB.row ii y.2 0 0])=Y (v,A):=by{rw[<-p];have e:dR (CT.items (.mk [.p (.hd 1)] [.w 0 ii] [.row ii] [] [] [])) y=[⟨.ls ii,y.1⟩,⟨.ls ii,y.2⟩]:=rfl;unfold kg;rw[e];simp only[CT.pl,CT.nb,CT.out,cj,dC,jj,yi,sM,Eu,eG,dV,Ce,Fs,vJ,vG,yBl,yCl,yC7]};simp only[az,a_]at n;obtain⟨rfl,rfl⟩:=n;obtain⟨s,r⟩:=y;change Z (TT ii)at x;change Z (TT ii)at s;change Z (TT ii)at r;change Sn d c x=Y (s,r)at j;unfold Sn at j;split at j;{rename_i h;simp only[az,a_]at j;obtain⟨rfl,rfl⟩:=j;have:=QS K (zs:=x.map d) (garb:=x.map d++[d (c 0)]) (by simp_all) (by simp);show Ok P g [OS (aC ii) 0 x.length] [OB (enc ii) x] (OS (aC ii) 1 _) [OB (enc ii) _,OB (enc ii) _];grind[OB_int,VV]};simp_all
end
end Go.Abs
end
section
namespace Go.Abs
noncomputable section
variable[Gl][Α:Ty]
structure Oy (P:Ν)(g:ύ):Prop where
 en:ba P g=W
 run:∀(b:X)(es:Φ MapEntry)(clock:X)(w:Τ),w.heap[b]? =Y (.map es clock)->B9 P g #[.map (Y b)] w λe w'=>e=.returned (.map (Y w.heap.size))/\w'=w.alloc (.map es clock)
theorem Vd{P:Ν}{g:ύ}(K:Oy P g){α:Type}{f:α->D}{l:Z (Q×α)}:Ok P g [.mp 0] [MB f l] (.mp 1) [MB f l,MB f l]:=by intro M Fz w n R p b;obtain⟨v,rfl⟩:∃v,n=#[v]:=Φ.size_eq_one_iff.1 (by simpa using p);have b:=b 0 _ v rfl rfl;cases b with|mp c q h d=>simp only[vG,az]at h;subst h;have d:=d rfl;obtain⟨_,q,o,k,r,m⟩:=R.blk 0 c d;simp only[vG,az]at k;subst k;have s:=m;obtain⟨a,⟨j,rfl,_⟩,_⟩:=s;refine(K.run c a j w r).mono λe u t=>?_;obtain⟨rfl,rfl⟩:=t;have E:=bN.alloc (V:=[MB f l]) (M:=M) (Fz:=Fz) (w:=w) R.fz (MB f l) (.map a j);exact⟨_,_,Fz,rfl,R.alloc (MB f l) (.map a j) (m.mono E),.mp w.heap.size (MB f l) rfl (λ_=>by simp[yK]),E⟩
def Zi{P:Ν}{g:X}(K:Oy P g)(ii:X)(st:Λ):cT P g ⟨.mk [.p (.mr 0)] [] [.mp ii st] [] [] [],[.mk [.p (.mr 1)] [] [.mp ii st] [] [] []],λx=>Y x⟩:=by refine⟨K.en,λx y m V p z n o b k a j=>?_⟩;dsimp only at b k a;change dK [It.ml ii]at x;change dK [It.ml ii]at y;have b:Y x=Y y:=b;simp only[az]at b;subst b;have d:Y ([TV.c (.d (.mp 0))],[TB.mp ii st x 0])=Y (m,V):=by{rw[<-k];have e:dR (CT.items (.mk [.p (.mr 0)] [] [.mp ii st] [] [] [])) x=[⟨.ml ii,x⟩]:=rfl;unfold kg;rw[e];simp only[CT.pl,CT.nb,CT.out,cj,dC,jj,yi,sM,Eu,eG,dV,Ce,vJ,Fs,Ft,yB2,(by decide:η 0 1=W),(by decide:η 1 2=W),OX,J8]};simp only[az,a_]at d;obtain⟨rfl,rfl⟩:=d;simp only[q_,az,yB7]at a;obtain⟨rfl,rfl⟩:=a;have h:Y ([TV.c (.d (.mp 1))],[TB.mp ii st x 0,TB.mp ii st x 0])=Y (n,o):=by{rw[<-j];have e:dR (CT.items (.mk [.p (.mr 1)] [] [.mp ii st] [] [] [])) x=[⟨.ml ii,x⟩]:=rfl;unfold kg;rw[e];simp only[CT.pl,CT.nb,CT.out,cj,dC,jj,yi,sM,Eu,eG,dV,Ce,vJ,Fs,Ft,yB2,(by decide:η 0 1=W),(by decide:η 1 2=W),OX,J8]};simp only[az,a_]at h;obtain⟨rfl,rfl⟩:=h;exact Vd K
end
end Go.Abs
end
section
namespace Go.Abs
section
variable[Gl]
def Shp(a:Z Sh)(xs:Z C):Prop:=xs.length=a.length/\∀(i:X) t x,a[i]? =Y t->xs[i]? =Y x->Shaped t x
theorem Shp.cons{s:Sh}{j:Z Sh}{xs:Z C}(h:Shp (s::j) xs):∃x o,xs=x::o/\Shaped s x/\Shp j o:=by obtain⟨u,h⟩:=h;match xs,u,h with|x::o,u,h=>exact⟨x,o,rfl,h 0 s x rfl rfl,by simp_all,λi t y A E=>h (i+1) t y (by simp_all) (by simp_all)⟩
theorem Shp.nil{xs:Z C}(h:Shp [] xs):xs=[]:=by simpa using h.1
variable[Α:Ty]
def shC(rec:X->Z Sh):CC->Sh|.int k=>.int k|.bool=>.bool|.str=>.str|.sl j=>.sl (rec j)|.fk _=>.no
def shN:X->X->Z Sh|0,_=>[]|k+1,i=>(Α.fl i).map (shC (shN k))
def shT(i:X):Z Sh:=shN (i+1) i
theorem shC_dec{rec:X->Z Sh}{r:(j:X)->TT j->Z C}{c:CC}(n:∀j,c=.sl j->∀xs,Shp (rec j) xs->∃a:TT j,xs=r j a){x:C}(h:Shaped (shC rec c) x):∃a:c.dn,x=ut r c a:=by cases c with|int k=>{cases h with|int h=>exact⟨_,rfl⟩}|bool=>{cases h with|bool b=>exact⟨_,rfl⟩}|str=>{cases h with|str b=>exact⟨_,rfl⟩}|fk o=>cases h|sl j=>cases h with|sl e g m=>rename_i es;have:∃l:Z (TT j),es=l.map (r j):=by{clear e;induction es with|nil=>simp_all|cons y es ih=>obtain⟨a,p⟩:=n j rfl y ⟨g y (by simp),m y (by simp)⟩;obtain⟨l,e⟩:=ih (λz d=>g z (by simp[d])) (λz d=>m z (by simp[d]));exact⟨a::l,by simp_all⟩};obtain⟨l,rfl⟩:=this;exact⟨l,rfl⟩
theorem shL_dec{rec:X->Z Sh}{r:(j:X)->TT j->Z C}:∀(cs:Z CC),(∀j,CC.sl j∈cs->∀xs,Shp (rec j) xs->∃a:TT j,xs=r j a)->∀xs,Shp (cs.map (shC rec)) xs->∃a:aX cs,xs=ny r cs a:=by intro cs;induction cs with|nil=>intro _ xs h;exact⟨(),h.nil⟩|cons c cs ih=>intro d xs h;obtain⟨x,g,rfl,k,m⟩:=Shp.cons h;obtain⟨a,rfl⟩:=shC_dec (λj e=>d j (by simp_all)) k;obtain⟨b,rfl⟩:=ih (λj e=>d j (qT _ e)) g m;exact⟨(a,b),rfl⟩
theorem shN_dec:∀(k i:X),i<k->∀xs,Shp (shN k i) xs->∃a:TT i,xs=QH k i a:=by intro k;induction k with|zero=>omega|succ k ih=>intro i d xs h;obtain⟨a,rfl⟩:=shL_dec (rec:=shN k) (r:=QH k) (Α.fl i) (λj b=>ih j (by have:=Α.dn i j b;omega)) xs h;exact⟨Α.mkt i a,by grind[QH,Ty.pm]⟩
def sh_dec(i:X){xs:Z C}(h:Shp (shT i) xs):∃a:TT i,xs=enc i a:=shN_dec (i+1) i (by omega) xs h
def arg_st(i:X){w:Τ}{xs:Z C}{vs:Φ Ο}(h:Jf w (shT i) xs vs.toList):∃a:TT i,σ [] (λ_=>U) (λc=>c<w.heap.size) w (dM.enc (.st i) a) (.agg vs):=by have b:=σ.YW h (V:=[]) (M:=λ_=>U);obtain⟨a,rfl⟩:=sh_dec i ⟨h.1,h.2.2.1⟩;exact⟨a,b⟩
open Go.RowKit in
def law_pure{P:Ν}{g:ύ}{ds:Z D}(h:Pure P g ds (B W)){w:Τ}{vs:Φ Ο}(m:vs.size=ds.length)
  (b:∀(i:X) d v,ds[i]? = Y d->vs[i]? = Y v->σ [] (λ_=>U) (λc=>c<w.heap.size) w d v) (n:Gl.ok (λc=>c<w.heap.size) w) :
  B9 P g vs w λe j=>e=.returned (.bool W)/\Below w.heap.size w j:=by
 refine (h.2 _ _ w vs (Rel.start w n) m b).mono λe j o=>?_;obtain ⟨v,q,p,rfl,r,b,a⟩:=o;exact ⟨by rw[b.cz],a.out.1,a.out.2.1,a.out.2.2,a.size,λk hk=>(a.fz k hk).2⟩
end
end Go.Abs
end
