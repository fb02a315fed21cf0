/- DfwPu, DfwPv, DfwPz, DfwPy, DfwKy, DfwDl, DfwAb, DfwAd, DfwAe, DfwIn, DfwIo, DfwIs, DfwSo, DfwRw -/
import Derived.Test.YtdfbphphacpkdaaGreatFwF
import Derived.Lib.SlKeysI
import Derived.KernelRfl
import Derived.Test.YtdfbphphacpkdaaGreatFwC
import Derived.Shelf.Spec.SlicesInsertGrow
import Derived.Test.YtdfbphphacpkdaaGreatFwA
import Derived.Test.YtdfbphphacpkdaaGreatFwD
import Derived.Lib.SlicesCompact
set_option linter.all false
open Go.IntKind (i64 u64)
section
namespace Go.Abs
noncomputable section
variable[Gl][Y:Ty]
def cR(P:Program)(g:FuncId)(s:dk):Prop:=aS P g=true/\∀(x:dB s.Ax.items)(y:qc s.Qb)(e:List TV)(σ:TH)(d:CT)(z:dB d.items)(h:List TV)(j:TH),
 s.f x=some y->nI s.Ax [] x=some (e,σ)->sS s.Qb y=some ⟨d,z⟩->nI d σ z=some (h,j)->Ok P g (e.map eD) (σ.map TB.er) (one (h.map eD)) (j.map TB.er)
theorem D.Dr(ρ:Nat->Nat){d:D}(h:d.low 0=true):d.dX ρ=d:=by
 have j:∀(k:Nat)(d:D),SizeOf.sizeOf d<k->d.low 0=true->d.dX ρ=d:=by
  intro k;induction k with
  |zero=>omega
  |succ k ih=>
   have cP:∀(ds:List D),SizeOf.sizeOf ds<k+1->D.low.cP 0 ds=true->D.dX.wD ρ ds=ds:=by
    intro ds;induction ds with
    |nil=>intro _ _;rfl
    |cons x ds u=>
     intro hs h;simp only[D.low.cP,bH,List.cons.sizeOf_spec] at h hs
     grind [D.dX.wD]
   intro d hs h;cases d with
   |c x=>rfl
   |any=>rfl
   |ptr b o s=>grind [D.low]
   |sl b o l e s=>grind [D.low]
   |mp b=>grind [D.low]
   |fn f a b=>
    simp only[D.low,bH,D.fn.sizeOf_spec] at h hs
    grind [D.dX]
   |agg ds=>grind [D.low,D.dX]
   |aQ ds=>grind [D.low,D.dX]
 exact j (SizeOf.sizeOf d+1) d (Nat.lt_succ_self _) h
theorem Qj(ρ:Nat->Nat)(l:List C):(l.map D.c).map (D.dX ρ)=l.map D.c:=by rw[VI];rfl
theorem Mb(ρ:Nat->Nat)(c:CC)(a:c.dn):(qQ c a).er.dX ρ=(qQ c a).er:=by rw[lM];rfl
theorem exp_ren(ρ:Nat->Nat)(i:Nat)(a:TT i):((exp i a).map TC.er).map (D.dX ρ)=(exp i a).map TC.er:=by rw[um,VI];rfl
def DF(ρ:Nat->Nat)(x y:TB):Prop:=(∃w e g d,x=.cells w e/\y=.cells g d/\aJ (λ(a b:Nat×TC)=>b.2.er=a.2.er.dX ρ) e d)∨uZ x y
structure iG (ρ:Nat->Nat) (n:Nat) (σ0 σ:TH):Prop where
 len:σ0.length=n
 bs:∀i,i<n->∃x y,σ0[i]? = some x/\σ[ρ i]? = some y/\DF ρ x y
variable{ρ:Nat->Nat}{n m0:Nat}{σ0 σ:TH}
theorem iG.set(h:iG ρ n σ0 σ)(inj:∀i j,i<n->j<n->ρ i=ρ j->i=j){b:Nat}(E:b<n){x y:TB}(s:DF ρ x y):iG ρ n (σ0.set b x) (σ.set (ρ b) y):={
 len:=by rw[YB];exact h.len
 bs:=λi o=>by
  by_cases e:i=b
  ·subst e;obtain ⟨u,A,h1,h2,_⟩:=h.bs i o
   grind
  ·obtain ⟨u,A,h1,h2,G⟩:=h.bs i o
   grind }
theorem iG.row(h:iG ρ n σ0 σ){b i:Nat}(u:b<n){l:List (TT i)}{A E:Nat}(G:σ[ρ b]? = some (.row i l A E)):∃j o,σ0[b]? = some (.row i l j o):=by
 obtain ⟨x,y,Z,s,K⟩:=h.bs b u;rw[G] at s;simp only[au] at s;subst s;rcases K with ⟨_,_,_,_,_,e,_⟩ | ⟨i',l',O,R,U,X,e1,e2⟩ | ⟨_,_,_,_,_,_,e⟩
 ·simp at e
 ·grind
 simp_all
theorem iG.mp(h:iG ρ n σ0 σ){b j:Nat}{st:Bool}(s:b<n){l:List (Int×TT j)}{v:Nat}(u:σ[ρ b]? = some (.mp j st l v)):∃A,σ0[b]? = some (.mp j st l A):=by
 obtain ⟨x,y,K,o,E⟩:=h.bs b s;rw[u] at o;simp only[au] at o;subst o;rcases E with ⟨_,_,_,_,_,e,_⟩ | ⟨_,_,_,_,_,_,_,e⟩ | ⟨O,G,R,U,X,Z,e2⟩
 ·simp at e
 ·simp at e
 grind
theorem iG.cells(h:iG ρ n σ0 σ){b:Nat}(u:b<n){w:Nat}{cs:List (Nat×TC)}(A:σ[ρ b]? = some (.cells w cs)):∃s j,σ0[b]? = some (.cells s j)/\aJ (λ(a b:Nat×TC)=>b.2.er=a.2.er.dX ρ) j cs:=by
 obtain ⟨x,y,K,o,E⟩:=h.bs b u;rw[A] at o;simp only[au] at o;subst o;rcases E with ⟨s,j,O,G,R,U,X⟩ | ⟨_,_,_,_,_,_,_,e⟩ | ⟨_,_,_,_,_,_,e⟩
 ·grind
 ·simp at e
 simp_all
theorem Jw{p q:CP}{ds r:List kA}{y:TC}(j:rCP ρ n p q=true)(h:iG ρ n σ0 σ)(g:xc σ q ds=some (y,r)):∃v,xc σ0 p ds=some (v,r)/\y.er=v.er.dX ρ:=by
 unfold rCP at j;split at j
 ·rename_i a b;have:=of_decide_eq_true j;subst this;cases ds with
  |nil=>grind [xc]
  |cons d ds=>
   simp only[xc] at g ⊢
   grind [Mb]
 ·cases ds with
  |nil=>grind [xc]
  |cons d ds=>
   simp only[xc] at g ⊢;split at g
   ·rename_i L N;simp only[au,aT] at g;obtain ⟨rfl,rfl⟩:=g;exact ⟨_,rfl,rfl⟩
   simp_all
 ·rename_i b u;simp only[bH] at j;have e:=cS j.1;have k:=tL.mp j.2;subst e;simp only[xc] at g ⊢;split at g
  ·rename_i i l O R hs;simp only[au,aT] at g;obtain ⟨rfl,rfl⟩:=g;obtain ⟨x,A,E⟩:=h.row k hs;rw[E];exact ⟨_,rfl,rfl⟩
  simp_all
 ·rename_i b o s u S G;simp only[bH] at j;obtain ⟨e,k,m,t⟩:=j;have e:=cS e;have k:=tL.mp k;have m:=cS m;have t:=cS t;subst e m t;simp only[xc] at g ⊢;split at g
  ·simp only[au,aT] at g;obtain ⟨rfl,rfl⟩:=g;rw[h.len,tL.mpr k];exact ⟨_,rfl,rfl⟩
  simp_all
 ·rename_i b u;simp only[bH] at j;have e:=cS j.1;have k:=tL.mp j.2;subst e;simp only[xc] at g ⊢;split at g
  ·simp only[au,aT] at g;obtain ⟨rfl,rfl⟩:=g;rw[h.len,tL.mpr k];exact ⟨_,rfl,rfl⟩
  simp_all
 ·rename_i f b s T u G;simp only[bH] at j;obtain ⟨e,k,m,t⟩:=j;have e:=cS e;have k:=tL.mp k;have m:=cS m;have t:=cS t;subst e m t;simp only[xc] at g ⊢;split at g
  ·simp only[au,aT] at g;obtain ⟨rfl,rfl⟩:=g;rw[h.len,tL.mpr k];exact ⟨_,rfl,rfl⟩
  simp_all
 ·rename_i d U;have:=Zy j;subst this;simp only[xc] at g ⊢;split at g
  ·rename_i K;simp only[au,aT] at g;obtain ⟨rfl,rfl⟩:=g;exact ⟨_,rfl,(D.Dr ρ K).symm⟩
  simp_all
 simp_all
theorem MN:∀{ps g:List CP}{ds r:List kA}{j:List TC},Qh ρ n ps g=true->iG ρ n σ0 σ->zA σ g ds=some (j,r)->∃d,zA σ0 ps ds=some (d,r)/\aJ (λ(y m:TC)=>y.er=m.er.dX ρ) j d:=by
 intro ps;induction ps with
 |nil=>
  intro g ds r j k h e;cases g with
  |nil=>simp only[zA,au,aT] at e;obtain ⟨rfl,rfl⟩:=e;exact ⟨[],rfl,.nil⟩
  |cons _ _=>grind [Qh]
 |cons p ps ih=>
  intro g ds r j k h e;cases g with
  |nil=>grind [Qh]
  |cons q g=>
   simp only[Qh,bH] at k;simp only[zA] at e;split at e
   ·rename_i x v o;split at e
    ·rename_i A E s;simp only[au,aT] at e;obtain ⟨rfl,rfl⟩:=e;obtain ⟨m,G,t⟩:=Jw k.1 h o;obtain ⟨d,K,u⟩:=ih k.2 h s;exact ⟨m::d,by grind [zA],.cons t u⟩
    simp_all
   simp_all
theorem eqVC_eq{a b:dh}(h:eqVC a b=true):a=b:=by
 unfold eqVC at h;split at h
 ·simp_all
 ·simp_all
 ·simp_all
 ·simp_all
 simp_all
theorem aJ.OW{o j:List TC}(h:aJ (λ(y s:TC)=>y.er=s.er.dX ρ) o j):o.map TC.er=D.dX.wD ρ (j.map TC.er):=by
 induction h with
 |nil=>rfl
 |cons h _ ih=>grind [D.dX.wD]
theorem pRO_sim{p q:RO}{ds r:List kA}{v:TV}(j:rRO ρ n p q=true)(h:iG ρ n σ0 σ)(e:yX σ q ds=some (v,r)):∃t,yX σ0 p ds=some (t,r)/\eD v=(eD t).dX ρ:=by
 unfold rRO at j;split at j
 ·rename_i a b;have:=eqVC_eq j;subst this;cases ds with
  |nil=>grind [yX]
  |cons d ds=>
   cases a with
   |c c=>
    simp only[yX] at e ⊢;split at e
    ·simp only[au,aT] at e;obtain ⟨rfl,rfl⟩:=e;exact ⟨_,rfl,(Mb ρ _ _).symm⟩
    simp_all
   |st i=>
    simp only[yX] at e ⊢;split at e
    ·simp only[au,aT] at e;obtain ⟨rfl,rfl⟩:=e;refine ⟨_,rfl,?_⟩
     grind [eD,D.dX,DH,exp_ren]
    simp_all
   |fp i=>
    simp only[yX] at e ⊢;split at e
    ·simp only[au,aT] at e;obtain ⟨rfl,rfl⟩:=e;exact ⟨_,rfl,rfl⟩
    simp_all
   |k g=>grind [yX]
 ·rename_i a b;simp only[yX] at e;split at e
  ·rename_i x u m;simp only[au,aT] at e;obtain ⟨rfl,rfl⟩:=e;obtain ⟨o,y,s⟩:=Jw j h m;exact ⟨.c o,by grind [yX],s⟩
  simp_all
 ·rename_i a b;simp only[yX] at e;split at e
  ·rename_i A u m;simp only[au,aT] at e;obtain ⟨rfl,rfl⟩:=e;obtain ⟨o,y,s⟩:=MN j h m;refine ⟨.agg o,by grind [yX],?_⟩;simp only[eD,D.dX,s.OW]
  simp_all
 simp_all
theorem ZB:∀{ps e:List RO}{ds r:List kA}{vs:List TV},Vk ρ n ps e=true->iG ρ n σ0 σ->kH σ e ds=some (vs,r)->∃g,kH σ0 ps ds=some (g,r)/\aJ (λ(v m:TV)=>eD v=(eD m).dX ρ) vs g:=by
 intro ps;induction ps with
 |nil=>
  intro e ds r o j h d;cases e with
  |nil=>simp only[kH,au,aT] at d;obtain ⟨rfl,rfl⟩:=d;exact ⟨[],rfl,.nil⟩
  |cons _ _=>grind [Vk]
 |cons p ps ih=>
  intro e ds r o j h d;cases e with
  |nil=>grind [Vk]
  |cons q e=>
   simp only[Vk,bH] at j;simp only[kH] at d;split at d
   ·rename_i x E s;split at d
    ·rename_i G K t;simp only[au,aT] at d;obtain ⟨rfl,rfl⟩:=d;obtain ⟨u,L,y⟩:=pRO_sim j.1 h s;obtain ⟨k,N,A⟩:=ih j.2 h t;exact ⟨u::k,by grind [kH],.cons y A⟩
    simp_all
   simp_all
theorem Tp(inj:∀i j,i<m0->j<m0->ρ i=ρ j->i=j):∀{ps s:List PC}{σ0 σ x:TH}{ds r:List kA},Ba ρ m0 n ps s=true->iG ρ m0 σ0 σ->ca σ s ds=some (x,r)->∃g,ca σ0 ps ds=some (g,r)/\iG ρ m0 g x:=by
 intro ps;induction ps with
 |nil=>
  intro s σ0 σ x ds r y h m;cases s with
  |nil=>simp only[ca,au,aT] at m;obtain ⟨rfl,rfl⟩:=m;exact ⟨σ0,rfl,h⟩
  |cons _ _=>grind [Ba]
 |cons p ps ih=>
  intro s σ0 σ x ds r y h m;cases s with
  |nil=>grind [Ba]
  |cons q s=>
   simp only[Ba,bH] at y;obtain ⟨k,u⟩:=y;unfold rPC at k;split at k
   ·grind [ca]
   ·rename_i b i K i';simp only[bH] at k;obtain ⟨e,o,t⟩:=k;have e:=cS e;have o:=tL.mp o;have t:=cS t;subst e t;cases ds with
    |nil=>grind [ca]
    |cons d ds=>
     simp only[ca] at m;split at m
     ·rename_i l j L N O R A;split at m
      ·rename_i S;have:=cS S;subst this;obtain ⟨E,G,T⟩:=h.row o A;obtain ⟨g,U,X⟩:=ih u (h.set inj o (.inr (.inl ⟨j,l,E+1,G+1,N+1,O+1,rfl,rfl⟩))) m
       grind [ca]
      simp_all
     simp_all
   ·rename_i b j st K j' Z;simp only[bH,nK] at k;obtain ⟨e,o,t,e3⟩:=k;have e:=cS e;have o:=tL.mp o;have t:=cS t;subst e t e3;cases ds with
    |nil=>grind [ca]
    |cons d ds=>
     simp only[ca] at m;split at m
     ·rename_i l j0 aa L v R A;obtain ⟨v0,T⟩:=h.mp o A;obtain ⟨g,U,X⟩:=ih u (h.set inj o (.inr (.inr ⟨j,st,l,v0+1,v+1,rfl,rfl⟩))) m
      grind [ca]
     simp_all
   simp_all
theorem YO:∀{ps g:List NB}{ds r:List kA}{l:TH},Ai ρ n ps g=true->du g ds=some (l,r)->du ps ds=some (l,r):=by
 intro ps;induction ps with
 |nil=>grind [Ai]
 |cons p ps ih=>
  intro g ds r l h k;cases g with
  |nil=>grind [Ai]
  |cons q g=>
   simp only[Ai,bH] at h;obtain ⟨e,j⟩:=h;unfold rNB at e;split at e
   ·grind [du]
   ·have:=cS e;subst this;cases ds with
    |nil=>grind [du]
    |cons d ds=>grind [du]
   ·simp only[bH,nK] at e;have:=cS e.1;subst this;have:=e.2;subst this;cases ds with
    |nil=>grind [du]
    |cons d ds=>grind [du]
   simp_all
theorem aJ.set{α o:Type}{R:α->o->Prop}{l:List α}{m:List o}(h:aJ R l m){a:α}{b:o}(s:R a b):∀j:Nat,aJ R (l.set j a) (m.set j b):=by
 induction h with
 |nil=>intro j;exact .nil
 |cons h r ih=>
  intro j;cases j with
  |zero=>exact .cons s r
  |succ j=>exact .cons h (ih j)
theorem Zo(inj:∀i j,i<m0->j<m0->ρ i=ρ j->i=j){k s:TH}(hs:iG ρ n k s):∀{ps m:List PC}{σ0 σ t:TH}{ds r:List kA},Ba ρ m0 n ps m=true->iG ρ m0 σ0 σ->dS s m σ ds=some (t,r)->∃d,dS k ps σ0 ds=some (d,r)/\iG ρ m0 d t:=by
 intro ps;induction ps with
 |nil=>
  intro m σ0 σ t ds r v h o;cases m with
  |nil=>simp only[dS,au,aT] at o;obtain ⟨rfl,rfl⟩:=o;exact ⟨σ0,rfl,h⟩
  |cons _ _=>grind [Ba]
 |cons p ps ih=>
  intro m σ0 σ t ds r v h o;cases m with
  |nil=>grind [Ba]
  |cons q m=>
   simp only[Ba,bH] at v;obtain ⟨g,y⟩:=v;unfold rPC at g;split at g
   ·rename_i b j p T U X;simp only[bH] at g;obtain ⟨e,u,A,G⟩:=g;have e:=cS e;have u:=tL.mp u;have A:=cS A;subst e A;simp only[dS] at o;split at o
    ·rename_i x Z w cs K L;obtain ⟨N,a1,O⟩:=Jw G hs K;obtain ⟨E,R,h3,S⟩:=h.cells u L;obtain ⟨d,b1,b2⟩:=ih y (h.set inj u (.inl ⟨E+1,_,w+1,_,rfl,rfl,S.set (a:=(E+1,N)) (b:=(w+1,x)) O j⟩)) o
     grind [dS]
    simp_all
   ·grind [dS]
   ·grind [dS]
   simp_all
theorem Wx{e v:TH}(hs:iG ρ n e v):∀{ps j:List NB}{g l:TH}{ds:List kA},Ai ρ n ps j=true->(∀b∈g,DF ρ b b)->dH v j g ds=some l->∃s,dH e ps g ds=some s/\aJ (DF ρ) s l:=by
 intro ps;induction ps with
 |nil=>
  intro j g l ds A y d;cases j with
  |nil=>simp only[dH,au] at d;subst d;exact ⟨[],rfl,.nil⟩
  |cons _ _=>grind [Ai]
 |cons p ps ih=>
  intro j g l ds A y d;cases j with
  |nil=>grind [Ai]
  |cons q j=>
   simp only[Ai,bH] at A;obtain ⟨k,m⟩:=A;cases g with
   |nil=>grind [dH]
   |cons b g=>
    have o:∀b∈g,DF ρ b b:=λx N=>y x (pM _ N);unfold rNB at k;split at k
    ·rename_i a_ O;simp only[dH] at d;split at d
     ·rename_i T r K;split at d
      ·rename_i L t;simp only[au] at d;subst d;obtain ⟨E,R,S⟩:=MN k hs K;obtain ⟨s,G,u⟩:=ih m o t;refine ⟨.cells 0 (E.map λx=>(0,x))::s,by grind [dH],.cons (.inl ⟨0,_,0,_,rfl,rfl,?_⟩) u⟩;clear G u R K t ih;induction S with
       |nil=>exact .nil
       |cons h _ ih=>exact .cons h ih
      simp_all
     simp_all
    ·simp only[dH] at d;split at d
     ·rename_i L t;simp only[au] at d;subst d;obtain ⟨s,G,u⟩:=ih m o t;exact ⟨_,by grind [dH],.cons (y b (sq ..)) u⟩
     simp_all
    ·simp only[dH] at d;split at d
     ·rename_i L t;simp only[au] at d;subst d;obtain ⟨s,G,u⟩:=ih m o t;exact ⟨_,by grind [dH],.cons (y b (sq ..)) u⟩
     simp_all
    simp_all
theorem DF.new{o:List NB}{ds r:List kA}{l:TH}(h:du o ds=some (l,r)):∀b∈l,DF ρ b b:=by
 intro b x;obtain ⟨k,hk⟩:=yB3 x;cases b with
 |cells w A=>have:=(yF h k).1 w A hk;subst this;exact .inl ⟨w,[],w,[],rfl,rfl,.nil⟩
 |row i l s u=>exact .inr (.inl ⟨i,l,s,u,s,u,rfl,rfl⟩)
 |mp j st l v=>exact .inr (.inr ⟨j,st,l,v,v,rfl,rfl⟩)
theorem iG.Yt(h:iG ρ m0 σ0 σ){j l:TH}(s:aJ (DF ρ) j l)(u:∀k,ρ (m0+k)=σ.length+k)(lt:∀i,i<m0->ρ i<σ.length):iG ρ (m0+j.length) (σ0++j) (σ++l):={
 len:=by rw[AG,h.len]
 bs:=λi A=>by
  rcases rZ i m0 with o | o
  ·obtain ⟨x,y,a,b,c⟩:=h.bs i o
   grind
  ·obtain ⟨k,rfl⟩:=yB6 o;have hk:k<j.length:=by omega
   obtain ⟨y,a,b⟩:=s.get k _ (eI hk)
   grind [iG.len] }
theorem aJ.refl'{α:Type}{R:α->α->Prop}{l:List α}(h:∀b∈l,R b b):aJ R l l:=by
 induction l with
 |nil=>exact .nil
 |cons a l ih=>exact .cons (h a (sq ..)) (ih λb j=>h b (pM _ j))
theorem Xd{d ct:CT}{F:TH}{u:List TV}{ds:List kA}{x:dB d.items}(inj:∀i j,i<m0->j<m0->ρ i=ρ j->i=j)(y:rCT ρ m0 d ct=true)(hs:iG ρ m0 σ0 σ)(K:∀k,ρ (m0+k)=σ.length+k)(lt:∀i,i<m0->ρ i<σ.length)
  {σD:ar} (H:RH σ σD) (L:Laid ct σ ds u F) (hd:dL d.items x=ds) :
  ∃e F0,nI d σ0 x=some (e,F0)/\aJ (λ(v N:TV)=>eD v=(eD N).dX ρ) u e/\iG ρ (m0+d.nb.length) F0 F:=by
 simp only[rCT,bH] at y;obtain ⟨q,g,h⟩:=y;have A:=gJ L.h1 H;have C:=lT L.h4;obtain ⟨m,X,E⟩:=Tp inj g hs L.h1;have r:=YO h L.h2;have o:L.nb.length=d.nb.length:=DD r;have s:iG ρ (m0+d.nb.length) (m++L.nb) (L.iC++L.nb):=by rw[<-o];exact E.Yt (aJ.refl' (DF.new r)) (by grind [yW.len]) (by grind [yW.len])
 obtain ⟨e,c1,O⟩:=ZB q s L.h3;obtain ⟨p,Z,R⟩:=Zo inj s g E L.h4;obtain ⟨G,S,T⟩:=Wx s h (DF.new r) L.h5;have t:G.length=d.nb.length:=(zH S).1;refine ⟨e,p++G,?_,O,?_⟩
 ·grind [nI]
 ·have U:F=L.aC++L.l:=L.e;rw[U,<-t];exact R.Yt T (by rw[C.len,A.len];exact K) (by rw[C.len,A.len];exact lt)
end
end Go.Abs
end
section
namespace Go.Abs
noncomputable section
variable[Gl][Y:Ty]
theorem relocH{P:Program}{g:FuncId}{ds L:List D}{H p:ar}{r:D}(ok:Ok P g L H r p)(af:H.length<=p.length)
  (aa:p.all (Ob.low p.length)=true) (hr:r.low p.length=true)
  {σ σ':ar} {ρ ρ0:Nat->Nat} (ag:∀i,i<H.length->ρ0 i=ρ i) (N:Sd 0 σ H ρ0 (λ_=>False)) (hd:aJ (dm σ H ρ0 (λ_=>False)) ds L)
  (inj:∀i j,i<p.length->j<p.length->ρ i=ρ j->i=j) (hi:∀i,H.length<=i->i<p.length->σ.length<=ρ i)
  (s2:∀i,i<p.length->σ'[ρ i]? = (p[i]?).map (Ob.dX ρ)) (s3:∀j,(∀i,i<p.length->ρ i≠j)->σ'[j]? = σ[j]?) :
  Ok P g ds σ (r.dX ρ) σ':=by
 intro M Fz w vs R hs hv
 let G:Nat->Option Nat:=mN H.length ρ0 M
 have eF:∀Fz:Nat->Prop,fzN (λ_=>False) M Fz=Fz:=λFz=>by
  funext c;refine propext ⟨λh=>?_,.inl⟩;rcases h with h | ⟨b,h,_⟩
  ·exact h
  simp_all
 have ak:∀i,i<H.length->G i=M (ρ i):=λi h=>by simp only[G,mN,h,if_true,ag i h]
 have y:∀i c,G i=some c->i<H.length/\M (ρ i)=some c:=λi c h=>by grind [mN]
 have R0:Rel H G Fz w:=by
  have:=N.rel R
  grind
 refine (ok G Fz w vs R0 (by rw[hs,hd.len]) (λi d v a b=>by
  obtain ⟨d1,O,h2⟩:=hd.get' i d a;have:=h2 M Fz w v R (hv i d1 v O b)
  grind)).mono λe w' he=>?_
 obtain ⟨v,M1,S,rfl,T,an,u⟩:=he;have av:∀i c,M1 i=some c->i<p.length:=λi c h=>by
  obtain ⟨_,ob,o,h2,_⟩:=T.blk i c h
  grind
 let m:Nat->Option Nat:=λj=>(List.range p.length).find? λi=>ρ i == j
 have s:∀i,i<p.length->m (ρ i)=some i:=λi h=>by
  cases e:m (ρ i) with
  |none=>grind
  |some k=>grind
 have q:∀j i,m j=some i->i<p.length/\ρ i=j:=λj i e=>⟨yBM.1 (yBx e),by grind⟩;have t:∀j,m j=none->∀i,i<p.length->ρ i≠j:=λj e i h=>by grind
 let U:Nat->Option Nat:=λj=>match m j with | some i=>M1 i | none=>M j
 have m1:∀j i,m j=some i->U j=M1 i:=λj i h=>by grind
 have m2:∀j,m j=none->U j=M j:=λj h=>by grind
 have ab:∀i,i<p.length->U (ρ i)=M1 i:=λi h=>m1 _ _ (s i h);have apart:∀j c b,m j=none->M j=some c->G b≠some c:=λj c b O h2 A=>by obtain ⟨hb,A⟩:=y b c A;exact t j O b (by omega) (R.inj _ _ _ A h2)
 have lt:∀j c,M j=some c->c<w.heap.size:=λj c h=>by
  obtain ⟨_,_,o,_,A,_⟩:=R.blk j c h
  grind
 have ad:bD σ M Fz w σ' U S w':={
  size:=u.size
  frame:=λc hc hn=>u.frame c hc λb hb=>hn (ρ b) (y b c hb).2
  kS:=λj c h=>by
   cases e:m j with
   |some i=>
    rw[m1 j i e] at h;rcases u.kS i c h with ⟨b0,x⟩ | x
    ·grind
    omega
   |none=>grind
  fz:=u.fz
  nU:=λc h=>by
   rcases u.nU c h with x | ⟨b,x⟩ | x
   ·grind
   ·grind
   omega
  pQ:=u.pQ
  keep:=λj ob h=>by
   cases e:m j with
   |some i=>
    obtain ⟨O,h2⟩:=q j i e;have hj:j<σ.length:=(gh.1 h).1;have X:i<H.length:=by grind
    obtain ⟨q1,q2,q3,q4,q5⟩:=N.sz i X;rw[ag i X,h2,h] at q3;simp only[au] at q3;subst q3;obtain ⟨ax,h4,h5,h6⟩:=u.keep i q2 q4
    grind [Ob.rO]
   |none=>grind
  out:=u.out }
 have R2:Rel σ' U S w':={
  blk:=λj c h=>by
   cases e:m j with
   |some i=>rw[m1 j i e] at h;obtain ⟨O,h2⟩:=q j i e;obtain ⟨A,ob,o,h4,h5,h6⟩:=T.blk i c h;exact ⟨A,ob.dX ρ,o,by grind,h5,bY.Nd ab s2 (iE.1 aa _ (Ay h4)) h6⟩
   |none=>
    rw[m2 j e] at h;obtain ⟨A,ob,o,h4,h5,h6⟩:=R.blk j c h;refine ⟨λhf=>?_,ob,o,by grind,by rw[u.frame c (lt j c h) λb=>apart j c b e h];exact h5,h6.mono ad⟩;rcases u.nU c hf with x | ⟨b,x⟩ | x
    ·grind
    ·grind
    grind
  inj:=λj K c h E=>by
   cases e:m j with
   |some i=>
    rw[m1 j i e] at h;cases Z:m K with
    |some i'=>
     rw[m1 K i' Z] at E;have:=T.inj i i' c h E
     grind
    |none=>
     rw[m2 K Z] at E;rcases u.kS i c h with ⟨b0,x⟩ | x
     ·grind
     grind
   |none=>
    rw[m2 j e] at h;cases Z:m K with
    |some i'=>
     rw[m1 K i' Z] at E;rcases u.kS i' c E with ⟨b0,x⟩ | x
     ·grind
     grind
    |none=>rw[m2 K Z] at E;exact R.inj _ _ _ h E
  fz:=T.fz
  gl:=T.gl }
 grind [V.Nd]
theorem castO{α d:Type}(e:α=d){o:Option α}{y:d}(h:cast (Gy Option e) o=some y):∃g,o=some g/\HEq g y:=by grind
theorem Hm{i j:List It}(e:i=j){x:dB i}{y:dB j}(h:HEq x y):dL i x=dL j y:=by grind
theorem sum_heq{A B d g:Type}(e:A=d)(e':B=g){x:A ⊕ B}{y:d ⊕ g}(h:HEq x y):(∃a j,x=.inl a/\y=.inl j/\HEq a j)∨(∃b k,x=.inr b/\y=.inr k/\HEq b k):=by grind
theorem Ye:∀{a b:List CT},a.map CT.items=b.map CT.items->∀{j:qc a}{y:qc b}{ct:CT}{x:dB ct.items},HEq j y->sS b y=some ⟨ct,x⟩ ->
  ∃(i:Nat)(g:CT)(x0:dB g.items),sS a j=some ⟨g,x0⟩/\a[i]? = some g/\b[i]? = some ct/\dL g.items x0=dL ct.items x:=by
 intro a;induction a with
 |nil=>grind
 |cons c a ih=>
  intro b e j y ct x k hs;cases b with
  |nil=>simp at e
  |cons d b=>
   simp only[sH,yBP] at e;cases a with
   |nil=>
    cases b with
    |cons _ _=>simp at e
    |nil=>simp only[sS,au,Z_] at hs;obtain ⟨rfl,hs⟩:=hs;cases hs;exact ⟨0,c,j,rfl,rfl,rfl,Hm e.1 k⟩
   |cons r a=>
    cases b with
    |nil=>simp at e
    |cons s b=>
     rcases sum_heq (by rw[e.1]) (Im e.2) k with ⟨u,v,rfl,rfl,h⟩ | ⟨u,v,rfl,rfl,h⟩
     ·simp only[sS,au,Z_] at hs;obtain ⟨rfl,hs⟩:=hs;cases hs;exact ⟨0,c,u,rfl,rfl,rfl,Hm e.1 h⟩
     ·obtain ⟨i,g,x0,m,o,p,q⟩:=ih e.2 h hs;exact ⟨i+1,g,x0,m,o,p,q⟩
theorem Xk{ρ:Nat->Nat}{m0:Nat}:∀{a b:List CT},rCTs ρ m0 a b=true->∀(i:Nat) c d,a[i]? = some c->b[i]? = some d->rCT ρ m0 c d=true:=by
 intro a;induction a with
 |nil=>simp_all
 |cons x a ih=>
  intro b h i c d e g;cases b with
  |nil=>grind
  |cons y b=>
   simp only[rCTs,bH] at h
   grind
theorem Xq{ρ:Nat->Nat}{m0 n:Nat}:∀{ps e:List PC},Ba ρ m0 n ps e=true->∀q∈e,∃b,b<m0/\q.blk=ρ b:=by
 intro ps;induction ps with
 |nil=>grind [Ba]
 |cons p ps ih=>
  intro e h q g;cases e with
  |nil=>grind
  |cons j e=>
   simp only[Ba,bH] at h;rcases gn.1 g with rfl | g
   ·have d:=h.1;unfold rPC at d;split at d
    ·simp only[bH] at d;exact ⟨_,tL.mp d.2.1,(cS d.1).symm⟩
    ·simp only[bH] at d;exact ⟨_,tL.mp d.2.1,(cS d.1).symm⟩
    ·simp only[bH] at d;exact ⟨_,tL.mp d.2.1,(cS d.1).symm⟩
    simp_all
   grind
theorem Zh{x y:TC}(d:x=.d (.c (.lit (.slice none 0 0))))(h:(!(ye x) || ye y)=true):x=y:=by
 subst d;simp only[ye,Om,yCn] at h
 grind
theorem exC_get:∀{xs d:List (Nat×TC)},YY.exC xs d=true->∀(j:Nat) x y,xs[j]? = some x->d[j]? = some y->(!(ye x.2) || ye y.2)=true:=by
 intro xs;induction xs with
 |nil=>simp_all
 |cons a xs ih=>
  intro d h j x y e g;cases d with
  |nil=>grind
  |cons b d=>
   obtain ⟨_,a⟩:=a;obtain ⟨_,b⟩:=b;simp only[YY.exC,bH] at h
   grind
theorem exN_get{σ:TH}{ρ:List (Nat×Nat)}:∀{d:TH}{e:Nat},YY σ ρ e d=true->∀(i:Nat) w g k xs,d[i]? = some (.cells w g)->σ[(pP (e+i) ρ).getD 0]? = some (.cells k xs)->YY.exC xs g=true:=by
 intro d;induction d with
 |nil=>simp_all
 |cons b d ih=>
  intro e h i w g k xs j m;cases i with
  |zero=>
   simp only[List.getElem?_cons_zero,au] at j;subst j;simp only[YY,bH] at h
   simp_all
  |succ i=>
   simp only[List.getElem?_cons_succ] at j;have o:YY σ ρ (e+1) d=true:=by
    cases b with
    |cells w p=>simp only[YY,bH] at h;exact h.2
    |row=>exact h
    |mp=>exact h
   grind
theorem uZ.symm{x y:TB}(h:uZ x y):uZ y x:=by
 rcases h with ⟨i,l,u,A,o,s,rfl,rfl⟩ | ⟨j,st,l,v,E,rfl,rfl⟩
 ·exact .inl ⟨i,l,o,s,u,A,rfl,rfl⟩
 ·exact .inr ⟨j,st,l,E,v,rfl,rfl⟩
theorem MX.can{σ R F:TH}{σD:ar}{s:MS}{n:Nat}(X:MX [] σ R F s n)(H1:RH σ σD)(hf:s.fz=[])(he:YY σ s.ρ 0 F=true){ρ:Nat->Nat}(ad:∀i,i<F.length->il 0 s i=ρ i):iG ρ F.length F σ:={
 len:=rfl
 bs:=λi hi=>by
  obtain ⟨x,y,h1,h2,h3⟩:=X.bf i hi;have U:([]:TH).length=0:=rfl;rw[U] at h1;refine ⟨y,x,h2,by simp_all,?_⟩;rcases h3 with ⟨w,cs,w',G,rfl,rfl,O⟩ | O
  ·refine .inl ⟨w',G,w,cs,rfl,rfl,?_⟩;have ab:il 0 s i=(pP i s.ρ).getD 0:=by rw[il,if_neg (by omega)]
   have ex:=exN_get he i w' G w cs h2 (by simp_all);refine aJ.Hq ?_ λj a b ha hb=>?_
   ·have:=O.len
    simp_all
   ·have c:=(O.get j b.2 (by simp_all));obtain ⟨a',A,c⟩:=c;rw[lW,ha] at A;simp only[Option.map_some,au] at A;subst A;have e1:=exC_get ex j b a hb ha;have blk:∀b u:Nat,Bd 0 s b u->b<F.length->u=ρ b:=λb u hb U=>by grind [Bd.Kx]
    rcases c with c | ⟨c1,c2⟩
    ·rcases c with ⟨_,c2,c3⟩ | ⟨i',u,v,l,cv,_,o,_⟩ | ⟨i',E,u,v,l0,af,j',lv,l,cv,Z,o,h3,e3,h5⟩ | ⟨E,u,off,sz,Z,o,e3,K⟩ | ⟨E,u,Z,o,e3,K⟩ | ⟨f1,E,u,sz,Z,o,e3,K⟩
     ·grind [Zh,D.Dr]
     ·simp_all
     ·have hF:=X.sr.row E j' l lv cv h5;have aa:=(gh.1 hF).1;obtain ⟨x,y,u1,u2,u3⟩:=X.bf E aa;have q:il 0 s E=u:=o.Kx;rw[U,q,h3] at u1;rw[hF] at u2;simp only[au] at u1 u2;subst u1 u2;rcases u3 with ⟨_,_,_,_,e,_⟩ | ⟨i2,l2,_,_,_,_,e4,e5⟩ | ⟨_,_,_,_,_,e4,_⟩
      ·simp at e
      ·grind [TC.er,D.dX]
      simp_all
     ·grind [TC.er,D.dX,MX.Qx]
     ·grind [TC.er,D.dX,MX.Qx]
     grind [TC.er,D.dX,D.dX.wD,MX.Qx]
    grind [D.Dr,GC.low]
  ·exact .inr O.symm }
theorem OB_low(m i:Nat)(l:List (TT i)):(OB (enc i) l).low m=true:=by
 have:∀d:List C,D.low.cP m (d.map .c)=true:=by
  intro d;induction d with
  |nil=>rfl
  |cons c d ih=>simp only[sH,D.low.cP,D.low,ih,M_]
 exact this _
theorem IQ{m:Nat}:∀{ds:List D},(∀d∈ds,d.low m=true)->D.low.cP m ds=true:=by
 intro ds;induction ds with
 |nil=>intro _;rfl
 |cons d ds ih=>
  intro h;simp only[D.low.cP,bH]
  simp_all
theorem RH.low{σ:TH}(H:RH σ (σ.map TB.er)):(σ.map TB.er).all (Ob.low (σ.map TB.er).length)=true:=by
 rw[iE];intro E o;rw[iQ] at o;obtain ⟨blk,s,rfl⟩:=o;obtain ⟨b,s⟩:=yB3 s;rw[xF];cases blk with
 |cells w u=>refine IQ λd hd=>?_;rw[iQ] at hd;obtain ⟨p,x,rfl⟩:=hd;exact ((H.hg b w u s p x).1).low
 |row i l G K=>exact OB_low _ i l
 |mp j st l v=>have:=JR (st:=st) l 0;simp only[TB.er,Ob.low];rw[iE] at this ⊢;exact λe A=>D.d_ (N_ _) (this e A)
theorem eD_low{σ:TH}{v:TV}(g:GV σ v)(e:nT v):(eD v).low σ.length=true:=by
 cases v with
 |c x=>exact GC.low g
 |agg h=>refine IQ λd hd=>?_;rw[iQ] at hd;obtain ⟨x,j,rfl⟩:=hd;exact (g x j).low
 |aQ h=>exact e.elim
theorem one_low{m:Nat}{ds:List D}(h:∀d∈ds,d.low m=true):(one ds).low m=true:=by
 cases ds with
 |nil=>rfl
 |cons d ds=>
  cases ds with
  |nil=>exact h d (sq ..)
  |cons e ds=>exact IQ h
theorem one_ren{ρ:Nat->Nat}{e d:List TV}(h:aJ (λ(v k:TV)=>eD v=(eD k).dX ρ) e d):one (e.map eD)=(one (d.map eD)).dX ρ:=by
 have g:e.map eD=D.dX.wD ρ (d.map eD):=by
  induction h with
  |nil=>rfl
  |cons h _ ih=>grind [D.dX.wD]
 rw[g];cases d with
 |nil=>rfl
 |cons v j=>
  cases j with
  |nil=>rfl
  |cons m j=>rfl
theorem LC(ρ:Nat->Nat):∀{l:List (Value×D×Nat)},(∀e∈l,e.2.1.low 0=true)->(l.map λe=>(e.1,e.2.1.dX ρ,e.2.2))=l:=by
 intro l;induction l with
 |nil=>simp_all
 |cons e l ih=>grind [D.Dr]
theorem OW{ρ:Nat->Nat}{x y:TB}(h:DF ρ x y):y.er=x.er.dX ρ:=by
 rcases h with ⟨w,k,m,d,rfl,rfl,h⟩ | h
 ·simp only[TB.er,Ob.dX,Ob.cells.injEq];rw[VI];induction h with
  |nil=>rfl
  |cons h _ ih=>simp_all
 ·rw[h.er];rcases h with ⟨i,l,o,p,e,g,rfl,rfl⟩ | ⟨j,st,l,v,q,rfl,rfl⟩
  ·grind [TB.er,Ob.dX,Qj]
  ·have:=JR (st:=st) l 0;rw[iE] at this;simp only[TB.er,Ob.dX,Ob.map.injEq,KI];exact (LC ρ this).symm
theorem inlS_ok{P:Program}{O:NY}(hO:∀p∈O,cR P p.1 p.2):c_.ok P (inlS O):=by
 intro cs gi vs σ y ct x rv aC T ds h aa ab R a2 a5;cases cs with
 |nil=>grind
 |cons bl cs=>
  simp only[inlS] at h;split at h
  rotate_left
  ·simp at h
  rename_i k0 k hH;split at h
  rotate_left
  ·simp at h
  rename_i g s hk;split at h
  rotate_left
  ·simp at h
  rename_i bt x0 hg r;split at h
  rotate_left
  ·simp at h
  rename_i ad σ0 af;split at h
  rotate_left
  ·simp at h
  rename_i E;simp only[bH] at E;obtain ⟨E,ak⟩:=E;split at h
  rotate_left
  ·simp at h
  rename_i an _;obtain ⟨y0,a6,hy⟩:=castO (Im an) h;have:=cS hg;subst this;obtain ⟨av,ax⟩:=hO _ (Ay hk);refine ⟨av,?_⟩;dsimp only at ax;obtain ⟨i,o,z0,a7,ha,hb,a0⟩:=Ye an hy aa;have hr:=Xk ak i o ct ha hb;unfold absS at r;split at r
  ·simp_all
  rename_i s1 G;split at r
  ·simp_all
  rename_i ms U;split at r
  rotate_left
  ·simp_all
  rename_i hc;split at r
  rotate_left
  ·simp_all
  rename_i x1 a8;simp only[au,aT] at r;obtain ⟨rfl,rfl⟩:=r;simp only[bH,List.isEmpty_iff] at hc;obtain ⟨bu,a9,bb,bv⟩:=hc;obtain ⟨L0⟩:=ma af;have H0:RH ([]:TH) []:=⟨rfl,λb blk h=>by simp at h,λb w cs h=>by simp at h⟩;obtain ⟨bw,X,bc⟩:=mx_of (ct:=s.Ax) (σ:=[]) (σ1:=σ) (s2:=s1) rfl G (by rw[bb];rfl) U (by grind) a8 L0 rfl H0 R (λb blk h=>by simp at h) a5
  have b0:σ0.length=s.Ax.nb.length:=by grind [MX.len]
  let ρ:=VN s.Ax.nb.length σ.length ms.ρ
  have K:∀i,i<σ0.length->il 0 ms i=ρ i:=λi A=>by simp only[ρ,VN,il];rw[if_neg (by omega),tL.mpr (by omega)]
  have t:∀k,ρ (σ0.length+k)=σ.length+k:=λk=>by
   simp only[ρ,VN];have:Nat.blt (σ0.length+k) s.Ax.nb.length=false:=by
    rw[Bool.eq_false_iff]
    simp_all
   simp_all
  have C0:iG ρ σ0.length σ0 σ:=X.can R a9 E K;have N:Sd 0 T (σ0.map TB.er) (il 0 ms) (λ_=>False):=by
   have:=X.rnH R
   simp_all
  have hd:aJ (dm T (σ0.map TB.er) (il 0 ms) (λ_=>False)) ds (ad.map eD):=by
   have:=X.valL R bc a2
   simp_all
  have lt:∀i,i<σ0.length->ρ i<σ.length:=λi A=>by
   obtain ⟨x,y,u1,u2,_⟩:=C0.bs i A
   grind
  have a1:∀i j,i<σ0.length->j<σ0.length->ρ i=ρ j->i=j:=λi j A Z e=>by rw[<-K i A,<-K j Z] at e;exact N.inj i j (by simp_all) (by simp_all) e
  obtain ⟨L⟩:=ma ab;obtain ⟨k1,k2,k3,k4,k5,k6⟩:=L.all R;have hr:rCT ρ σ0.length o ct=true:=by grind
  obtain ⟨bd,F0,u,be,CF⟩:=Xd a1 hr C0 t lt R L a0;obtain ⟨j1,j2,j3,j4,j5,j6⟩:=L0.all H0;obtain ⟨LF⟩:=ma u;obtain ⟨i1,i2,i3,i4,i5,i6⟩:=LF.all j1;have ok:=ax x1 y0 ad σ0 o z0 bd F0 a6 af a7 u;have S:F0.length=σ0.length+o.nb.length:=CF.len;have bh:aC.length=σ.length+ct.nb.length:=by
   have a:=(lT L.h4).len;have b:=(gJ L.h1 R).len
   grind [zH,Laid.h5,Laid.fl]
  have bi:ct.nb.length=o.nb.length:=by
   have:∀{ps qs:List NB},Ai ρ (σ0.length+o.nb.length) ps qs=true->qs.length=ps.length:=by
    intro ps;induction ps with
    |nil=>grind [Ai]
    |cons p ps ih=>intro qs h;cases qs with | nil=>grind [Ai] | cons q qs=>simp only[Ai,bH] at h;grind
   simp only[rCT,bH] at hr
   grind
  have g0:=IR LF.h3;have bk:(σ0.map TB.er).length=σ0.length:=xF _;have m:(F0.map TB.er).length=F0.length:=xF _;rw[one_ren be];refine relocH ok (by omega) i1.low ?_ (ρ0:=il 0 ms) (λi A=>K i (by omega)) N hd ?_ ?_ ?_ ?_
  ·rw[m];refine one_low λd hd=>?_;rw[iQ] at hd;obtain ⟨v,hv,rfl⟩:=hd;exact eD_low ((g0 v hv).gv LF.sr) (g0 v hv).nt
  ·intro i j A Z e;rw[m] at A Z;rcases rZ i σ0.length with G | G
   ·rcases rZ j σ0.length with U | U
    ·grind
    grind [Nat.exists_eq_add_of_le]
   ·obtain ⟨k,rfl⟩:=yB6 G;rw[t] at e;rcases rZ j σ0.length with U | U
    ·grind
    grind [Nat.exists_eq_add_of_le]
  ·grind [Nat.exists_eq_add_of_le,RH.len]
  ·intro i A;rw[m,S] at A;obtain ⟨x,y,u1,u2,u3⟩:=CF.bs i A
   grind [OW]
  ·intro j Z;rw[m,S] at Z;rcases rZ j T.length with G | G
   ·refine k5 j G λhm=>?_;rw[iQ] at hm;obtain ⟨q,hq,e⟩:=hm;simp only[rCT,bH] at hr
    grind [Xq]
   ·rw[R.len] at G;obtain ⟨k,rfl⟩:=yB6 G;have:o.nb.length<=k:=by
     rcases rZ k o.nb.length with U | U
     ·exact absurd (t k) (Z (σ0.length+k) (by omega))
     omega
    rw[xAg (by grind),xAg (by grind [RH.len])]
theorem osp_ok{P:Program}{B:c_}(o:c_.ok P B){g:FuncId}{s:dk}(p:aS P g=true)
  (h:∀x,(match nI s.Ax [] x with | some (vs,σ)=>B s.Qb g vs σ | none=>none)=s.f x):cR P g s:=by
 refine ⟨p,λx y vs σ q z r t d k hs u=>?_⟩;rw[<-h x,k] at d;dsimp only at d;obtain ⟨e⟩:=ma k;have A:RH ([]:TH) []:=⟨rfl,λb blk h=>by simp at h,λb w L h=>by simp at h⟩;obtain ⟨E,N,O,R,S,T⟩:=e.all A;have m:=IR e.h3;have G:fO vs (vs.map eD):=by
  have:∀(vs:List TV),(∀v∈vs,nT v)->fO vs (vs.map eD):=by
   intro vs;induction vs with
   |nil=>intro _;exact .nil
   |cons v vs ih=>intro h;exact .cons (RT.eD (h v (sq ..))) (ih λx K=>h x (pM _ K))
  exact this vs λv j=>(m v j).nt
 exact (o s.Qb g vs σ y q z r t _ _ d hs u E G λv j=>(m v j).gv e.sr).2
end
end Go.Abs
end
section
namespace Go.Abs
noncomputable section
variable[Gl][Y:Ty]
def uA(P:Program)(O:NY):Prop:=∀p∈O,cR P p.1 p.2
theorem uA.nil{P:Program}:uA P []:=λp h=>by simp at h
theorem uA.cons{P:Program}{O:NY}{g:FuncId}{s:dk}(h:cR P g s)(r:uA P O):uA P ((g,s)::O):=λp j=>by
 rcases gn.1 j with rfl | j
 ·exact h
 ·exact r p j
def UK(O:NY)(K:c_):c_:=λd g h σ=>match d with
 |[]=>none
 |e :: d => match e.H with
  |[(_,k)]=>match Nat.beq k 999999 with | true=>K (e::d) g h σ | false=>inlS O (e::d) g h σ
  |_=>none
theorem Jr{P:Program}{O:NY}{K:c_}(t:uA P O)(u:c_.ok P K):c_.ok P (UK O K):=by
 intro v m o σ y p x q r g ds h d e s j k;unfold UK at h;split at h
 ·simp at h
 split at h
 ·split at h
  ·exact u _ m o σ y p x q r g ds h d e s j k
  ·exact inlS_ok t _ m o σ y p x q r g ds h d e s j k
 simp_all
def inlG(P:Program)(S:sG)(N:Nat)(O:NY)(K:c_):c_:=(PI P S N (UK O K) (resO O) 30).1
theorem inlG_ok{P:Program}{S:sG}{N:Nat}{O:NY}{K:c_}(dC:P.follows .mixedOrders=true)(d:ft P S)(e:uA P O)(g:c_.ok P K):c_.ok P (inlG P S N O K):=(Qa dC d (Jr e g) 30).1
def tG(P:Program)(g:Nat)(S:sG)(O:NY)(K:c_)(H:List (Nat×Nat))(J:List (Nat×JH))(C:List (Nat×List CT))(d out:List dh)(N:Nat)(a:tE d):Option (ld out):=
 match P.funcs[g]? with
 |some f => match iq P f true with
  |some e => match aS P g && Nat.ble d.length e.ntmps with
   |true=>tF P S (UK O K) (resO O) H J C 30 e d out N a
   |false=>none
  |none=>none
 |none=>none
theorem tG_ok{P:Program}{g:Nat}{S:sG}{O:NY}{K:c_}{H:List (Nat×Nat)}{J:List (Nat×JH)}{C:List (Nat×List CT)}{d out:List dh}{N:Nat}{f:tE d->Option (ld out)}(dC:P.follows .mixedOrders=true)(j:ft P S)(m:uA P O)(o:c_.ok P K)(h:∀a,tG P g S O K H J C d out N a=f a):bJ P g ⟨d,out,f⟩:=by
 intro a r e;dsimp only at a r e ⊢;rw[<-h a] at e;unfold tG at e;split at e
 ·rename_i fn p;split at e
  ·rename_i s q;split at e
   ·rename_i k;simp only[bH] at k;exact tF_ok dC j p k.1 q ⟨(Qa (B:=UK O K) dC j (Jr m o) 30).1.inl _ _ _ _ _ _ _ _,(Qa (B:=UK O K) dC j (Jr m o) 30).2.two _ _ _ _ _ _ _ _⟩ k.2 e
   simp_all
  simp_all
 simp_all
def oG(P:Program)(g:Nat)(S:sG)(O:NY)(K:c_)(N:Nat)(s:dk)(x:dB s.Ax.items):Option (qc s.Qb):=
 match nI s.Ax [] x with
 |some (d,σ)=>inlG P S N O K s.Qb g d σ
 |none=>none
theorem oG_ok{P:Program}{g:Nat}{S:sG}{O:NY}{K:c_}{N:Nat}{s:dk}(dC:P.follows .mixedOrders=true)(d:ft P S)(e:uA P O)(j:c_.ok P K)(k:aS P g=true)(h:∀x,oG P g S O K N s x=s.f x):cR P g s:=osp_ok (inlG_ok dC d e j) k h
end
end Go.Abs
end
section
namespace Go.Abs
noncomputable section
variable[Gl][Y:Ty]
abbrev nilD:D:=.c (.lit (.slice none 0 0))
def PO (es sz:Nat) (z:List D):kQ:=⟨1,8,[(2,none)],.seq (.CK [⟨some 2,.AB (.k nilD),none⟩])
 (.seq (.seq (.CK [⟨some 3,.AB (.t 0),none⟩,⟨some 4,.iN 3 false (.t 3),none⟩])
  (.cond (.t 4) (.seq (.CK [⟨some 2,.AB (.k nilD),none⟩]) .ret) .skip))
 (.seq (.CK [⟨some 5,.jv es 0 z [],none⟩,⟨some 6,.AB (.t 0),none⟩,⟨some 7,.append es sz (.t 5) (.t 6),none⟩,⟨some 2,.AB (.t 7),none⟩]) .ret)),true⟩
def cloneF(i:Nat)(a:tE [dh.c (.sl i)]):Option (ld [dh.c (.sl i)]):=bI ([]:List (TT i)) a.1
theorem dR{P:Program}:nW P (λ_ _ _ _=>none):=λt g ds σ r d wr h=>by simp at h
theorem ub{P:Program}{g i sz:Nat}{z:List D}{fn:Func}(dC:P.follows .mixedOrders=true)(k:P.funcs[g]? = some fn)(o:aS P g=true)(p:iq P fn true=some (PO (aw i) sz z))(hs:Nat.ble sz 1000=true):bJ P g ⟨[.c (.sl i)],[.c (.sl i)],cloneF i⟩:=by
 intro a r j;obtain ⟨l,u⟩:=a;dsimp only at j;show Pure P g [.c (.cD false (l.map (enc i)))] (.c (.cD false (r.map (enc i))));obtain ⟨q,rfl⟩:=uX (l:=([]:List (TT i))) (m:=l) j;refine ZH (λe d=>?_) ?_ ?_
 ·rw[iQ] at d;obtain ⟨x,_,rfl⟩:=d;intro h;have:=ry i x;rw[h] at this;have s:=Y.ps i
  simp_all
 ·refine uK k o p (CE rfl) ?_;refine Sem.ko (Sem.qx dC dR (cj.op (zC rfl) iw rfl (cj.nil (.inl ?_))));refine Sem.ko ?_;refine Sem.ko (Sem.qx dC dR (cj.op (zC rfl) iw rfl (cj.op (fi (b:=false) rfl rfl) iw rfl (cj.nil (.inl ?_)))));refine Sem.cond (b:=false) rfl (λh=>by simp at h) λ_=>Sem.skip dC (.inl ?_);refine Sem.ko (Sem.qx dC dR (cj.op (jA (f:=enc i) (l:=([]:List (TT i))) rfl rfl rfl (ry i) rfl rfl rfl) iw rfl (cj.op (zC rfl) iw rfl
   (cj.op (v_ (f:=enc i) (l:=([]:List (TT i))) (m:=r) (r:=r) (ry i) rfl rfl rfl rfl (CZ (ry i)) j hs rfl rfl) iw rfl (cj.op (zC rfl) iw rfl (cj.nil (.inl ?_)))))))
  refine Sem.ret dC ⟨.inr rfl,_,_,rfl,frz_own (l:=r) (ry i) (Y.ps i) rfl rfl,DP.Qw rfl⟩
 ·intro d;rw[d];refine uK k o p (CE rfl) ?_;refine Sem.ko (Sem.qx dC dR (cj.op (zC rfl) iw rfl (cj.nil (.inl ?_))));refine Sem.ko ?_;refine Sem.ko (Sem.qx dC dR (cj.op (zC rfl) iw rfl (cj.op (fi (b:=true) rfl rfl) iw rfl (cj.nil (.inl ?_)))));refine Sem.cond (b:=true) rfl (λ_=>?_) λh=>by simp at h
  refine Sem.ko (Sem.qx dC dR (cj.op (zC rfl) iw rfl (cj.nil (.inl ?_))));refine Sem.ret dC ⟨.inr rfl,_,_,rfl,rfl,DP.Qw rfl⟩
theorem ok_nil{P:Program}{g:FuncId}{es:List (List C)}{r:D}{σ σ':ar}(q:∀e∈es,e≠[])(G:Ok P g [.c (.cD true es)] σ r σ')(K:es=[]->Ok P g [.c (.lit (.slice none 0 0))] σ r σ'):Ok P g [.c (.cD false es)] σ r σ':=by
 intro M Fz w h R hs L;have s:h[0]? = some (h[0]'(by simp_all)):=rk _;have j:=L 0 _ _ rfl s;generalize S:h[0]'(by simp_all)=x at j s;have only:∀d,V σ M Fz w d x->∀(i:Nat) t v,[d][i]? = some t->h[i]? = some v->V σ M Fz w t v:=by grind
 cases j with
 |c u=>
  generalize A:C.cD false es=y at u;cases u with
  |cD aw a cap N E c m k o p=>
   simp only[C.cD.injEq] at A;obtain ⟨rfl,rfl⟩:=A;cases a with
   |some a=>exact G M Fz w h R hs (only _ (.c (.cD aw (some a) cap (λ_=>rfl) E c m k o p)))
   |none=>
    have O:es=[]:=by simp_all
    subst O;have:=E rfl;subst this;exact K rfl M Fz w h R hs (only _ (.c (.lit _)))
  |_=>grind
theorem Tw{P:Program}{g:FuncId}{ds:List D}(h:Ok P g ds [] nilD [])(es:Nat):Ok P g ds [] (.sl 0 0 0 es 0) [.cells []]:=by
 intro M Fz w r R hs s;refine (h M Fz w r R hs s).mono λe E t=>?_;obtain ⟨v,k,m,u,j,p,d⟩:=t;have x:∀b,k b=none:=λb=>by
  cases q:k b with
  |none=>rfl
  |some c=>obtain ⟨_,y,o,G,_⟩:=j.blk b c q;grind
 refine ⟨v,k,m,u,⟨λb c q=>(by simp_all),j.inj,j.fz,j.gl⟩,?_,⟨d.size,d.frame,d.kS,d.fz,d.nU,d.pQ,λb y q=>by grind,d.out⟩⟩;cases p with
 |c A=>
  cases A with
  |lit=>exact .sl none 0 0 (λh=>absurd rfl h) (.cells []) rfl (cU _) λ_=>.inl ⟨rfl,rfl,rfl,rfl,rfl,rfl⟩
theorem rn_id{i:Nat}{l:List (TT i)}:Sd 0 [OB (enc i) l] [OB (enc i) l] id (λ_=>False):={
 le:=N_ _
 id:=λi h=>rfl
 inj:=λi j _ _ h=>h
 fr:=λ_ _ h=>h
 row:=λ_ h=>h.elim
 sz:=λj g=>by simp_all
 ob:=λj g=>by
  have:j=0:=by simp_all
  subst this;have N:Rn 0 [OB (enc i) l] [OB (enc i) l] id (λ_=>False):=⟨N_ _,λi h=>rfl,λi j _ _ h=>h,λ_ _ h=>h,λ_ h=>h.elim,λj g=>by simp_all⟩
  refine ⟨_,_,rfl,rfl,_,rfl,aJ.Hq rfl λk a b d e=>?_⟩;rw[d] at e;simp only[au] at e;subst e;rw[lW,cz] at d;obtain ⟨c,_,rfl⟩:=d;exact dm.data N rfl }
theorem lU{P:Program}{g i sz:Nat}{z:List D}{fn:Func}(dC:P.follows .mixedOrders=true)(s:P.funcs[g]? = some fn)(v:aS P g=true)(t:iq P fn true=some (PO (aw i) sz z))(hs:Nat.ble sz 1000=true) :
  cR P g ⟨.mk [.v (.c (.sl i))] [] [] [] [] [],[.mk [.p (.hd 0)] [] [.row i] [] [] []],λx=>bI ([]:List (TT i)) x⟩:=by
 refine ⟨v,λx y A σ L z E G q r d K=>?_⟩;dsimp only at q r d;change dB [It.cc (.sl i)] at x;change dB [It.ls i] at y;have o:some ([TV.c (.sl i x)],([]:TH))=some (A,σ):=by rw[<-r];have e:dL (CT.items (.mk [.v (.c (.sl i))] [] [] [] [] [])) x=[⟨.cc (.sl i),x⟩]:=rfl;unfold nI;rw[e];simp only[CT.pl,CT.nb,CT.out,ca,du,kH,yX,FO,dS,dH,Ep];rfl
 simp only[au,aT] at o;obtain ⟨rfl,rfl⟩:=o;simp only[sS,au,Z_] at d;obtain ⟨rfl,N⟩:=d;have p:some ([TV.c (.own i 0 0 (List.length (α:=TT i) y))],[TB.row i y 0 0])=some (E,G):=by rw[<-K];have e:dL (CT.items (.mk [.p (.hd 0)] [] [.row i] [] [] [])) y=[⟨.ls i,y⟩]:=rfl;unfold nI;rw[e];simp only[CT.pl,CT.nb,CT.out,ca,du,kH,yX,xc,FO,dS,dH,Ep,List.nil_append,List.getElem?_cons_zero]
 simp only[au,aT] at p;obtain ⟨rfl,rfl⟩:=p;obtain ⟨u,rfl⟩:=uX (l:=([]:List (TT i))) (m:=x) q;show Ok P g [.c (.cD false (List.map (enc i) y))] [] (OS (aw i) 0 (List.length (α:=TT i) y)) [OB (enc i) y];refine ok_nil (λe k=>?_) ?_ ?_
 ·rw[iQ] at k;obtain ⟨x,_,rfl⟩:=k;intro h;have:=ry i x;rw[h] at this;have r:=Y.ps i
  simp_all
 ·refine pT s t (CE rfl) ?_;refine Sem.ko (Sem.qx dC dR (cj.op (zC rfl) iw rfl (cj.nil (.inl ?_))));refine Sem.ko ?_;refine Sem.ko (Sem.qx dC dR (cj.op (zC rfl) iw rfl (cj.op (fi (b:=false) rfl rfl) iw rfl (cj.nil (.inl ?_)))));refine Sem.cond (b:=false) rfl (λh=>by simp at h) λ_=>Sem.skip dC (.inl ?_);refine Sem.ko (Sem.qx dC dR (cj.op (jA (f:=enc i) (l:=([]:List (TT i))) rfl rfl rfl (ry i) rfl rfl rfl) iw rfl (cj.op (zC rfl) iw rfl
   (cj.op (v_ (f:=enc i) (l:=([]:List (TT i))) (ry i) rfl rfl rfl rfl (CZ (ry i)) q hs rfl rfl) iw rfl (cj.op (zC rfl) iw rfl (cj.nil (.inl ?_)))))))
  refine Sem.ret dC ⟨.inr rfl,_,id,λ_=>False,rfl,rn_id,λ_ h=>h.elim,?_⟩;exact dm.sl rn_id.toRn (i:=0) (Nat.lt_succ_self 0)
 ·intro k;have k:y=([]:List (TT i)):=List.map_eq_nil_iff.1 k;subst k;have e:OS (aw i) 0 (List.length (α:=TT i) [])=.sl 0 0 0 (aw i) 0:=by simp[OS]
  rw[e];refine Tw ?_ (aw i);refine pT s t (CE rfl) ?_;refine Sem.ko (Sem.qx dC dR (cj.op (zC rfl) iw rfl (cj.nil (.inl ?_))));refine Sem.ko ?_;refine Sem.ko (Sem.qx dC dR (cj.op (zC rfl) iw rfl (cj.op (fi (b:=true) rfl rfl) iw rfl (cj.nil (.inl ?_)))));refine Sem.cond (b:=true) rfl (λ_=>?_) λh=>by simp at h
  refine Sem.ko (Sem.qx dC dR (cj.op (zC rfl) iw rfl (cj.nil (.inl ?_))));refine Sem.ret dC ⟨.inr rfl,_,id,λ_=>False,rfl,⟨⟨cU _,λi h=>rfl,λi j _ _ h=>h,λ_ _ h=>h,λ_ h=>h.elim,λi h=>by simp at h⟩,λi h=>by simp at h⟩,λ_ h=>h.elim,?_⟩;exact dm.data ⟨cU _,λi h=>rfl,λi j _ _ h=>h,λ_ _ h=>h,λ_ h=>h.elim,λi h=>by simp at h⟩ rfl
theorem rn_rows{σ:ar}(h:∀ob∈σ,∃(i:Nat)(l:List (TT i)),ob=OB (enc i) l){m:Nat}(hm:m<=σ.length):Sd m σ σ id (λ_=>False):=by have N:Rn m σ σ id (λ_=>False):=⟨hm,λi _=>rfl,λi j _ _ e=>e,λ_ _ e=>e,λ_ e=>e.elim,λi d=>⟨_,_,eI d,eI d,rfl⟩⟩;refine ⟨N,λi d=>⟨_,_,eI d,eI d,?_⟩⟩;obtain ⟨k,l,e⟩:=h _ (bC d);rw[e];refine ⟨_,rfl,aJ.Hq rfl λk a b g o=>?_⟩;rw[g] at o;simp only[au] at o;subst o;rw[lW,cz] at g;obtain ⟨c,_,rfl⟩:=g;exact dm.data N rfl
theorem Fc{P:Program}{g ii sz:Nat}{z:List D}{fn:Func}(dC:P.follows .mixedOrders=true)(G:P.funcs[g]? = some fn)(X:aS P g=true)(K:iq P fn true=some (PO (aw ii) sz z))(hs:Nat.ble sz 1000=true) :
  cR P g ⟨.mk [.p (.hd 0)] [] [.row ii] [] [] [],[.mk [.p (.hd 1)] [] [.row ii] [] [] []],λx=>bI ([]:List (TT ii)) x⟩:=by
 refine ⟨X,λx y p σ ct z Z aC u L k hq=>?_⟩;dsimp only at u L k;change dB [It.ls ii] at x;change dB [It.ls ii] at y;have s:some ([TV.c (.own ii 0 0 (List.length (α:=TT ii) x))],[TB.row ii x 0 0])=some (p,σ):=by rw[<-L];have e:dL (CT.items (.mk [.p (.hd 0)] [] [.row ii] [] [] [])) x=[⟨.ls ii,x⟩]:=rfl;unfold nI;rw[e];simp only[CT.pl,CT.nb,CT.out,ca,du,kH,yX,xc,FO,dS,dH,Ep,List.nil_append,List.getElem?_cons_zero]
 simp only[au,aT] at s;obtain ⟨rfl,rfl⟩:=s;simp only[sS,au,Z_] at k;obtain ⟨rfl,hz⟩:=k;have t:some ([TV.c (.own ii 1 0 (List.length (α:=TT ii) y))],[TB.row ii x 0 0,TB.row ii y 0 0])=some (Z,aC):=by rw[<-hq];have e:dL (CT.items (.mk [.p (.hd 1)] [] [.row ii] [] [] [])) y=[⟨.ls ii,y⟩]:=rfl;unfold nI;rw[e];simp only[CT.pl,CT.nb,CT.out,ca,du,kH,yX,xc,FO,dS,dH,List.cons_append,List.nil_append,List.getElem?_cons_zero,List.getElem?_cons_succ]
 simp only[au,aT] at t;obtain ⟨rfl,rfl⟩:=t;obtain ⟨N,rfl⟩:=uX (l:=([]:List (TT ii))) (m:=x) u;show Ok P g [OS (aw ii) 0 (List.length (α:=TT ii) y)] [OB (enc ii) y] (OS (aw ii) 1 (List.length (α:=TT ii) y)) [OB (enc ii) y,OB (enc ii) y];have rn:Sd 1 [OB (enc ii) y,OB (enc ii) y] [OB (enc ii) y,OB (enc ii) y] id (λ_=>False):=rn_rows (λob h=>by grind) (by simp)
 have fin:dm [OB (enc ii) y,OB (enc ii) y] [OB (enc ii) y,OB (enc ii) y] id (λ_=>False) (OS (aw ii) 1 (List.length (α:=TT ii) y)) (OS (aw ii) 1 (List.length (α:=TT ii) y)):=dm.sl rn.toRn (i:=1) (Nat.lt_succ_self 1);have O:∀d,(isNil 3 d=some false)->Src [OB (enc ii) y,OB (enc ii) ([]:List (TT ii))] (enc ii) (aw ii) d y->Ok P g [d] [OB (enc ii) y] (OS (aw ii) 1 (List.length (α:=TT ii) y)) [OB (enc ii) y,OB (enc ii) y]:=λd hd A=>by
  refine pT G K (CE rfl) ?_;refine Sem.ko (Sem.qx dC dR (cj.op (zC rfl) iw rfl (cj.nil (.inl ?_))));refine Sem.ko ?_;refine Sem.ko (Sem.qx dC dR (cj.op (zC rfl) iw rfl (cj.op (fi (b:=false) rfl hd) iw rfl (cj.nil (.inl ?_)))));refine Sem.cond (b:=false) rfl (λh=>by simp at h) λ_=>Sem.skip dC (.inl ?_);refine Sem.ko (Sem.qx dC dR (cj.op (jA (f:=enc ii) (l:=([]:List (TT ii))) rfl rfl rfl (ry ii) rfl rfl rfl) iw rfl (cj.op (zC rfl) iw rfl
   (cj.op (v_ (f:=enc ii) (l:=([]:List (TT ii))) (m:=y) (r:=y) (ry ii) rfl rfl rfl rfl A u hs rfl rfl) iw rfl (cj.op (zC rfl) iw rfl (cj.nil (.inl ?_)))))))
  exact Sem.ret dC ⟨.inr rfl,_,id,λ_=>False,rfl,rn,λ_ h=>h.elim,fin⟩
 cases y with
 |cons a l=>exact O _ rfl (Rl (ry ii) rfl rfl)
 |nil=>
  intro M Fz w p R hs hv;have S:p[0]? = some (p[0]'(by simp_all)):=rk _;have q:=hv 0 _ _ rfl S;generalize hx:p[0]'(by simp_all)=x at q S;have only:∀d,V [OB (enc ii) ([]:List (TT ii))] M Fz w d x->∀(i:Nat) U v,[d][i]? = some U->p[i]? = some v->V [OB (enc ii) ([]:List (TT ii))] M Fz w U v:=by grind
  have e0:OS (aw ii) 0 (List.length (α:=TT ii) [])=.sl 0 0 0 (aw ii) 0:=by simp[OS]
  rw[e0] at q;cases q with
  |sl a n cap aa ob h ab E=>
   simp only[List.getElem?_cons_zero,au] at h;subst h;rcases E rfl with ⟨rfl,rfl,rfl,_⟩ | ⟨c,o,ad,T,h1,rfl,rfl,h2,h3,h4,h5,h6⟩
   ·refine (show Ok P g [nilD] [OB (enc ii) ([]:List (TT ii))] (OS (aw ii) 1 0) [OB (enc ii) ([]:List (TT ii)),OB (enc ii) ([]:List (TT ii))] from ?_) M Fz w p R hs (only _ (.c (.lit _)));refine pT G K (CE rfl) ?_;refine Sem.ko (Sem.qx dC dR (cj.op (zC rfl) iw rfl (cj.nil (.inl ?_))));refine Sem.ko ?_;refine Sem.ko (Sem.qx dC dR (cj.op (zC rfl) iw rfl (cj.op (fi (b:=true) rfl rfl) iw rfl (cj.nil (.inl ?_)))));refine Sem.cond (b:=true) rfl (λ_=>?_) λh=>by simp at h
    refine Sem.ko (Sem.qx dC dR (cj.op (zC rfl) iw rfl (cj.nil (.inl ?_))));refine Sem.own 2 (aw ii) rfl rfl rfl ?_;refine Sem.ret dC ⟨.inr rfl,_,id,λ_=>False,rfl,rn,λ_ h=>h.elim,?_⟩;have:=fin;rw[show OS (aw ii) 1 (List.length (α:=TT ii) [])=.sl 1 0 0 (aw ii) 0 by simp[OS]] at this;rw[show OS (aw ii) 1 0=.sl 1 0 0 (aw ii) 0 by simp[OS]];exact this
   ·exact O (.c (.cD true [])) rfl (CZ (nn:=true) (m:=([]:List (TT ii))) (ry ii)) M Fz w p R hs (only _ (.c (.cD (aw ii) _ cap (λ_=>rfl) (λh=>by simp at h) (λ_ _=>undef) (λe h=>by simp at h) (N_ _) (λi j e d h=>by simp at h) (λi j e d h=>by simp at h))))
theorem clo_ok{P:Program}{g:Nat}{out:List dh}(f:tE []->Option (ld out))(dC:P.follows .mixedOrders=true)(h:(evF P (QW P []) (λ_ _ _=>none) 1000 1 g [] []).map (λp=>(nrmY p.1,p.2.1))=(f ()).map λv=>(sR out v,[])):bJ P g ⟨[],out,f⟩:=by
 intro a r o;have d:f ()=some r:=o;rw[d] at h;cases m:evF P (QW P []) (λ_ _ _=>none) 1000 1 g [] [] with
 |none=>simp_all
 |some p=>obtain ⟨q,j,wr⟩:=p;rw[m] at h;simp only[Option.map_some,au,aT] at h;obtain ⟨s,rfl⟩:=h;have O:=evF_ok dC (ZM P []) (prim:=λ_ _ _=>none) (λg ds σ r j wr h=>by simp at h) 1000 1 g [] [] q [] wr m;refine ⟨O.1,λM Fz w t R hs u=>?_⟩;refine (O.2.1 M Fz w t R hs u).mono λe L x=>?_;obtain ⟨v,y,k,A,E,G,K⟩:=x;exact ⟨v,y,k,A,E,DP.of_nrmY s _ _ _ _ _ G,K⟩
end
end Go.Abs
end
section
namespace Go.Abs
noncomputable section
open Go.RowKit
variable[Gl][Y:Ty]
structure qj (P:Program) (gs gk:FuncId) (kt:TypeId):Prop where
 en:aS P gs=true
 ku:P.underlying kt=some (.int .i64)
 run:∀(Bm b nn:Nat)(D0:DataW Unit)(R:Value->Option (DataW Unit×List MemPlace))(w:World),Bm<w.heap.size->w.cell? ⟨Bm,0,none⟩=some (.map (some b))->w.ownsMap P kt R b nn D0->Maps.size D0<=maxLen->Maps.size D0 * 8<=140737488355328 ->
  Calls P gs #[.func (.func gk) #[] #[.pointer (some ⟨Bm,0,none⟩)]] w λe w'=>∃(v:Value)(ss:List Int)(et:TypeId),e=.returned v/\ss.Perm (intKeys D0)/\w'.ownsRow w.heap.size et 1 v ss.length ((ss.mergeSort (λx y=>decide (x<=y))).map encZ)/\(v=.slice none 0 0↔ss=[])/\Below w.heap.size w w'
def zR{α d:Type}(c:Int->d)(l:List (Int×α)):Option (List d):=
 if l.length<=1000000/\(l.map Prod.fst).Nodup/\(∀p∈l,(Lit.int .i64 p.1).wf=true) then some (((l.map Prod.fst).mergeSort (λx y=>decide (x<=y))).map c) else none
def XX(ct:CT)(ii:Nat):Bool:=match ct.out,ct.pl,ct.nb with
 |[.v (.c (.sl j))],[],[]=>Nat.beq j ii
 |_,_,_=>false
def Km(e j:FuncId)(ii:Nat)(c:Int->TT ii):c_:=λk g o σ=>
 match k with
 |[d] => match Nat.beq g e, o with
  |true, [.c (.d (.fn (.func f) [] [.ptr b 0 1]))] => match Nat.beq f j, σ[b]? with
   |true, some (.cells _ [(_, .d (.mp m))]) => match σ[m]? with
    |some (.mp _ _ l _) => match XX d ii, decEq [It.cc (.sl ii)] d.items with
     |true,.isTrue h=>cast (Gy (λi=>Option (dB i)) h) (zR c l)
     |_,_=>none
    |_=>none
   |_,_=>none
  |_,_=>none
 |_=>none
theorem P_{α d:Type}(p:Option α=Option d)(e:α=d){o:Option α}{y:d}(h:cast p o=some y):∃g,o=some g/\HEq g y:=by grind
theorem mbE_get{α:Type}{g:α->D}:∀(l:List (Int×α))(i j:Nat),(Aj g i l)[j]? = (l[j]?).map λp=>(.int .i64 p.1,g p.2,i+j):=by
 intro l;induction l with
 |nil=>intro i j;rfl
 |cons p l ih=>grind [Aj]
theorem mbE_len{α:Type}{g:α->D}:∀(l:List (Int×α))(i:Nat),(Aj g i l).length=l.length:=by
 intro l;induction l with
 |nil=>intro i;rfl
 |cons p l ih=>grind [Aj]
theorem JA{P:Program}{gs gk:FuncId}{u:TypeId}(K:qj P gs gk u){ii:Nat}{c:Int->TT ii}(hc:∀k,enc ii (c k)=[.lit (.int .i64 k)]){σ:ar}{b m:Nat}{α:Type}{g:α->D}{l:List (Int×α)}{r:List (TT ii)}
  (hb:σ[b]? = some (.cells [.mp m])) (hm:σ[m]? = some (MB g l)) (hr:zR c l=some r):Ok P gs [.fn (.func gk) [] [.ptr b 0 1]] σ (.c (.cD false (r.map (enc ii)))) σ:=by
 unfold zR at hr;split at hr
 rotate_left
 ·grind
 rename_i aa;obtain ⟨S,bw,b0⟩:=aa;simp only[au] at hr;intro M Fz w vs R hs a7;have U:vs=#[vs[0]'(by simp_all)]:=by grind
 have hv:=a7 0 _ _ rfl (rk (by grind));generalize vs[0]'(by grind)=v0 at hv U;subst U;cases hv with
 |fn v1 ws h1 h2 _ hw=>
  have e1:v1=#[]:=by simp_all
  subst e1;have e2:ws=#[ws[0]'(by simp_all)]:=by grind
  have hp:=hw 0 _ _ rfl (rk (by grind));generalize ws[0]'(by grind)=p at hp e2;subst e2;have X:mA σ b 1=some [.mp m]:=Ps hb rfl;obtain ⟨cb,hM,rfl⟩:=hp.vR X;obtain ⟨a8,_⟩:=Oc X;obtain ⟨t,T,hh,hl,a9⟩:=R.row hM a8;have ea:t[0]? = some (t[0]'(by omega)):=rk _;have bb:=(a9 0 _ _ rfl ea).1;obtain ⟨cm,b1,bc⟩:=bb.Ec hm;obtain ⟨s,ck,bd,⟨ax,hB⟩,bl⟩:=R.KM hm bc;rw[mbE_len] at ax;have ab:w.cell? ⟨cb,0,none⟩=some (.map (some cm)):=by grind [Go.cell_of_row]
  have be:∀(i:Nat) e,s[i]? = some e->∃p,l[i]? = some p/\e.key=.int .i64 p.1/\True:=λi e A=>by
   have Z:i<l.length:=by grind
   have h3:(Aj g 0 l)[i]? = some (.int .i64 l[i].1,g l[i].2,0+i):=by grind [mbE_get]
   grind
  let RR:Value->Option (DataW Unit×List MemPlace):=λ_=>some (.nil,[])
  have ad:s.toList.length=l.length:=by omega
  have af:s.toList.map (·.key)=(l.map Prod.fst).map (Value.int .i64):=by
   apply UB
   grind
  have b2:∀e∈s.toList,∃p∈l,e.key=.int .i64 p.1/\Go.WideElems.rd P u RR e=some (.int .i64 p.1,.nil):=λe A=>by
   obtain ⟨i,Z⟩:=yB3 A
   grind [Go.WideElems.rd,Go.Maps.keyOf_int_mk,qj.ku]
  have a0:Go.WideElems.Fit P u RR s ck:=by
   refine ⟨by rw[ax];exact lQ S (by decide),⟨λe A=>?_,?_,?_⟩,λe A=>?_⟩
   ·exact hB.2 e A
   ·exact hB.1
   ·grind
   grind
  have E:((s.toList.map (Go.WideElems.rg P u RR)).foldr DataW.insert []).Perm (s.toList.map (Go.WideElems.rg P u RR)):=Go.WideShapes.sorted_perm _;have a1:w.ownsMap P u RR cm l.length (.map ((s.toList.map (Go.WideElems.rg P u RR)).foldr DataW.insert [])):=⟨s,ck,bd,a0,by omega,rfl⟩;have ak:(intKeys (.map ((s.toList.map (Go.WideElems.rg P u RR)).foldr DataW.insert []):DataW Unit)).Perm (l.map Prod.fst):=by
   refine (E.map _).trans ?_;have:(s.toList.map (Go.WideElems.rg P u RR)).map (λp=>intOf p.1)=l.map Prod.fst:=by
    rw[VI];have h5:(l.map Prod.fst).map (Value.int .i64)=s.toList.map (·.key):=af.symm;apply UB;intro i;rw[lW,lW,On];cases A:s[i]? with
    |none=>simp_all
    |some e=>obtain ⟨p,h3,h4,_⟩:=be i e A;have hp:=Ay h3;rw[h3];simp only[Option.map_some,Function.comp,au];rw[Go.WideElems.rg_of (show Go.WideElems.rd P u RR e=some (.int .i64 p.1,.nil) by grind [Go.WideElems.rd,Go.Maps.keyOf_int_mk,qj.ku])];rfl
   rw[this]
  have a2:Maps.size (.map ((s.toList.map (Go.WideElems.rg P u RR)).foldr DataW.insert []):DataW Unit)=l.length:=by rw[Maps.size_eq,E.length_eq,xF,ad]
  refine (K.run cb cm l.length _ RR w (R.lt hM).2 ab a1 (by rw[a2];exact lQ S (by decide)) (by omega)).mono λe N A=>?_;obtain ⟨v,G,et,rfl,hp,an,bt,O⟩:=A;have av:G.mergeSort (λx y=>decide (x<=y))=(l.map Prod.fst).mergeSort (λx y=>decide (x<=y)):=mergeSort_of_perm_i (hp.trans ak);have bh:r.map (enc ii)=((l.map Prod.fst).mergeSort (λx y=>decide (x<=y))).map λk=>[C.lit (.int .i64 k)]:=by grind [List.map_congr_left]
  rw[bh,<-av];have Qx:(G.mergeSort (λx y=>decide (x<=y))).length=G.length:=List.length_mergeSort G;obtain ⟨_,an⟩:=an;rcases an with ⟨rfl,h0⟩ | ⟨gb,cap,a5,rfl,b3,a6,bu,_,bv,b4⟩
  ·have:G=[]:=Xo h0;subst this;refine ⟨_,M,Fz,rfl,R.below O,.c ?_,bD.below R O⟩;rw[show ([]:List Int).mergeSort (λx y=>decide (x<=y))=[] from Xo (by omega)];exact .cD 1 none 0 (λh=>by simp at h) (λ_=>rfl) (λ_ _=>undef) (λe A=>by grind) (cU _) (λi j e d h=>by simp at h) (λi j e d h=>by simp at h)
  ·have bi:∀(i:Nat) k,(G.mergeSort (λx y=>decide (x<=y)))[i]? = some k->N.cell? ⟨gb,0+i * 1+0,none⟩=some (.int .i64 k):=λi k hk=>by
    rw[cell_of_row N gb _ a5 et (0,0) a6];have Z:i<G.length:=by grind
    have h6:(a5.toList.take (G.length * 1))[i]? = some (encZ k):=by simp_all
    grind
   let L:Nat->Prop:=λx=>Fz x∨x=gb
   have RB:=R.below O;have EB:=bD.below R O;have b5:gb<N.heap.size:=(BI.1 a6).1;have mono:∀x:Nat,Fz x->L x/\N.heap[x]? = N.heap[x]?:=λx h=>⟨.inl h,rfl⟩;have mv:∀{d v},V σ M Fz N d v->V σ M L N d v:=λh=>h.sub (λb ob hb=>⟨ob,hb,rfl⟩) (λ_ _ h=>h) mono (λc t T fr h=>⟨t,h,rfl⟩);have R2:Rel σ M L N:=by
    refine ⟨λb' x h=>?_,RB.inj,λx h=>?_,Gl.mono mono RB.gl⟩
    ·obtain ⟨h1,ob,o,h2,h3,h4⟩:=RB.blk b' x h;have hx:x<w.heap.size:=(R.lt h).2;refine ⟨λhf=>?_,ob,o,h2,h3,?_⟩
     ·grind
     ·cases ob with
      |cells cs=>obtain ⟨t,T,ho,hl,hv⟩:=h4;exact ⟨t,T,ho,hl,λi d v x y=>⟨mv (hv i d v x y).1,(hv i d v x y).2⟩⟩
      |map es bk=>obtain ⟨t,ho,hl,hv⟩:=h4;exact ⟨t,ho,hl,λi k d n e x y=>let ⟨p,q,r⟩:=hv i k d n e x y;⟨p,q,mv r⟩⟩
      |gone n=>exact h4.elim
    ·rcases h with h | rfl
     ·exact RB.fz x h
     omega
   have E2:bD σ M Fz w σ M L N:=⟨EB.size,EB.frame,EB.kS,λx h=>⟨.inl h,(EB.fz x h).2⟩,λx h=>by grind,EB.pQ,EB.keep,EB.out⟩
   refine ⟨_,M,L,rfl,R2,.c ?_,E2⟩;have e7:G.length=((G.mergeSort (λx y=>decide (x<=y))).map λk=>[C.lit (.int .i64 k)]).length:=by simp_all
   rw[e7];refine .cD 1 (some ⟨gb,0,none⟩) cap (λh=>by simp at h) (λh=>by simp at h) (λi _=>.int .i64 ((G.mergeSort (λx y=>decide (x<=y)))[i]?.getD 0)) (λe A=>?_) (by omega) (λi j e d Z hj=>?_) (λi j e d Z hj=>?_)
   ·grind
   ·rw[lW,cz] at Z;obtain ⟨k,hk,rfl⟩:=Z;cases j with
    |succ j=>grind
    |zero=>
     refine ⟨gb,0,rfl,.inr rfl,?_,rfl⟩
     grind
   ·rw[lW,cz] at Z;obtain ⟨k,hk,rfl⟩:=Z;cases j with
    |succ j=>grind
    |zero=>simp only[List.getElem?_cons_zero,au] at hj;subst hj;rw[hk];exact .lit _
theorem Pc{P:Program}{O R:FuncId}{T:TypeId}(K:qj P O R T){ii:Nat}{c:Int->TT ii}(U:∀k,enc ii (c k)=[.lit (.int .i64 k)]):c_.ok P (Km O R ii c):=by
 intro cs gi vs σ y ct x X Z aa ds h e d q s ab;unfold Km at h;split at h
 rotate_left
 ·simp at h
 rename_i o;split at h
 rotate_left
 ·simp at h
 rename_i f b hg;split at h
 rotate_left
 ·simp at h
 rename_i w0 v0 m hf hb;split at h
 rotate_left
 ·simp at h
 rename_i j st l PA hm;split at h
 rotate_left
 ·simp at h
 rename_i Ol t _;obtain ⟨S,hk,hy⟩:=P_ _ (show dB [It.cc (.sl ii)]=qc [o] from Gy dB Ol) h;have:=cS hg;subst this;have:=cS hf;subst this;simp only[sS,au,Z_] at e;obtain ⟨rfl,hz⟩:=e;cases hz;obtain ⟨out,pl,nb,H,J,C⟩:=o;simp only[XX,CT.out,CT.pl,CT.nb] at t;split at t
 rotate_left
 ·grind
 obtain rfl:ii=_:=(cS t).symm;have u:ds=[.fn (.func f) [] [.ptr b 0 1]]:=by
  cases s with
  |cons r a=>cases a;rw[RT.c1 (by simp) r];rfl
 subst u;have p:dL (CT.items (.mk [.v (.c (.sl ii))] [] [] H J C)) y=[⟨.cc (.sl ii),S⟩]:=by grind [dL]
 have g:X=[.c (.sl ii S)]/\Z=σ:=by unfold nI at d;rw[p] at d;simp only[CT.pl,CT.nb,CT.out,ca,du,kH,yX,FO,dS,dH,Ep,au,aT] at d;exact ⟨d.1.symm,d.2.symm⟩
 obtain ⟨rfl,rfl⟩:=g;refine ⟨K.en,?_⟩;have v:=q.hp b _ hb;have A:=q.hp m _ hm;obtain ⟨E,b1,G⟩:=v;obtain ⟨L,m1,N⟩:=A;have G:E=.cells [.mp m]:=G;have N:L=MB (NE j st) l:=N;subst G N;have:=JA K U b1 m1 hk;rw[<-q.eqD];exact this
end
end Go.Abs
end
section
namespace Go.Abs
noncomputable section
variable[Gl][Y:Ty]
section
variable{P:Program}{orc:vE}{n:Nat}{al:AL}{σ σ1:ar}
end
theorem Ok.cut{P:Program}{g:FuncId}{ds:List D}{K X garb:List D}{k es sz:Nat}(h:Ok P g ds [.cells K] (.sl 0 0 k es sz) [.cells X])(hX:X.length=sz)(hk:k * es<=sz)(hd:∀d∈X.take (k * es),∃c,d=D.c c)(hg:sz<garb.length)(ad:K.length<=sz) :
  Ok P g ds [.cells K] (.sl 1 0 k es (k * es)) [.cells garb,.cells (X.take (k * es))]:=by
 intro M Fz w vs R hs hv;refine (h M Fz w vs R hs hv).mono λe w' he=>?_;obtain ⟨v,O,U,rfl,A,Z,E⟩:=he;have af:∀c,O 0=some c->∀b,O b=some c->b=0:=λc h b j=>A.inj b 0 c j h;refine ⟨v,λb=>if b=1 then O 0 else none,U,rfl,⟨λb c j=>?_,λb b' c j ak=>?_,A.fz,A.gl⟩,?_,?_⟩
 ·split at j
  ·rename_i e1;subst e1;obtain ⟨h1,ob,o,u,h3,h4⟩:=A.blk 0 c j;simp only[List.getElem?_cons_zero,au] at u;subst u;obtain ⟨s,T,ho,hl,hx⟩:=h4;refine ⟨h1,.cells (X.take (k * es)),o,rfl,h3,s,T,ho,by grind,λi d v q1 q2=>?_⟩;obtain ⟨x,rfl⟩:=hd d (Ay q1);have q3:X[i]? = some (.c x):=by
    grind
   obtain ⟨G,q5⟩:=hx i _ v q3 q2;refine ⟨?_,q5⟩;cases G with
   |c G=>exact .c G
  simp_all
 ·simp_all
 ·cases Z with
  |sl a n cap aa ob u an ab=>
   simp only[List.getElem?_cons_zero,au] at u;subst u;refine .sl a n cap aa (.cells (X.take (k * es))) rfl (by grind [Ob.sz]) (λ_=>?_);rcases ab (by grind [Ob.sz]) with ⟨q1,q2,q3,G,q5,q6⟩ | ⟨c,o,s,T,hM,ha,hn,hl,ho,hh,j,hz⟩
   ·simp_all
   ·exact .inr ⟨c,o,s,T,by grind,ha,hn,⟨hl.1,by omega⟩,ho,hh,j,by omega⟩
 ·exact {
   size:=E.size
   frame:=E.frame
   kS:=λb c j=>by
    split at j
    ·exact E.kS 0 c j
    simp_all
   fz:=E.fz
   nU:=E.nU
   pQ:=E.pQ
   keep:=λb ob j=>by
    match b with
    |0=>simp only[List.getElem?_cons_zero,au] at j;subst j;exact ⟨.cells garb,rfl,by grind [Ob.sz],λe=>by grind [Ob.sz]⟩
    |b+1=>grind
   out:=E.out }
section
variable{α:Type}{f:α->List C}{es:Nat}
end
end
end Go.Abs
end
section
namespace Go.Abs
noncomputable section
variable[Gl][Y:Ty]
def DX{T:Type}(st:T->Int)(met:T->Option Bool):List T->Option (List T)
 |[]=>some []
 |a::r=>if (st a == 1)=true then (met a).bind λb=>(DX st met r).bind λq=>some (if b=true then a::q else q) else DX st met r
section
variable{P:Program}{c:Code}{a b:aP}
theorem vS(h:bG P c=some (.seq a b)):∃c1 d,c=.seq c1 d/\bG P c1=some a/\bG P d=some b:=by
 cases c with
 |seq c1 d=>
  simp only[bG] at h;split at h
  ·rename_i x y m p;simp only[au,aP.seq.injEq] at h;obtain ⟨rfl,rfl⟩:=h;exact ⟨c1,d,rfl,m,p⟩
  ·simp at h
 |region id ops j=>
  simp only[bG] at h;split at h
  ·cases j with
   |false=>simp at h
   |true=>simp only[if_true] at h;split at h <;> simp at h
  ·simp at h
 |cond o c1 d=>simp only[bG] at h;split at h <;> simp at h
 |scope b=>simp only[bG,cz] at h;obtain ⟨q,_,k⟩:=h;rcases Kz q with ⟨l,r,_,e⟩ | e <;> rw[e] at k <;> simp at k
 |rangeFunc g s x y=>rcases ed h with ⟨_,_,_,_,_,_,_,e⟩ | e <;> cases e
 |_=>simp[bG] at h
theorem inv_reg{os:List aG}(h:bG P c=some (.CK os)):∃id ops,c=.region id ops false/\ops.toList.mapM (bq P ops)=some os:=by
 cases c with
 |region id ops d=>
  simp only[bG] at h;split at h
  ·rename_i k m;cases d with
   |false=>simp only[bT,cn,au,aP.CK.injEq] at h;subst h;exact ⟨id,ops,rfl,m⟩
   |true=>simp only[if_true] at h;split at h <;> simp at h
  ·simp at h
 |seq c1 p=>simp only[bG] at h;split at h <;> simp at h
 |cond o c1 p=>simp only[bG] at h;split at h <;> simp at h
 |scope b=>simp only[bG,cz] at h;obtain ⟨q,_,j⟩:=h;rcases Kz q with ⟨l,r,_,e⟩ | e <;> rw[e] at j <;> simp at j
 |rangeFunc g s x y=>rcases ed h with ⟨_,_,_,_,_,_,_,e⟩ | e <;> cases e
 |_=>simp[bG] at h
theorem LX{o:aO}(h:bG P c=some (.cond o a b)):∃x c1 d,c=.cond x c1 d/\bX x=some o/\bG P c1=some a/\bG P d=some b:=by
 cases c with
 |cond x c1 d=>
  simp only[bG] at h;split at h
  ·rename_i t u v m p q;simp only[au,aP.cond.injEq] at h;obtain ⟨rfl,rfl,rfl⟩:=h;exact ⟨x,c1,d,rfl,m,p,q⟩
  ·simp at h
 |region id ops j=>
  simp only[bG] at h;split at h
  ·cases j with
   |false=>simp at h
   |true=>simp only[if_true] at h;split at h <;> simp at h
  ·simp at h
 |seq c1 d=>simp only[bG] at h;split at h <;> simp at h
 |scope b=>simp only[bG,cz] at h;obtain ⟨s,_,k⟩:=h;rcases Kz s with ⟨l,r,_,e⟩ | e <;> rw[e] at k <;> simp at k
 |rangeFunc g A x y=>rcases ed h with ⟨_,_,_,_,_,_,_,e⟩ | e <;> cases e
 |_=>simp[bG] at h
theorem Ht{id:Nat}(h:bG P c=some (.block id a)):∃i c1,c=.block i c1/\2 * i=id/\bG P c1=some a:=by
 cases c with
 |block i c1=>simp only[bG,cz,aP.block.injEq] at h;obtain ⟨j,m,p,rfl⟩:=h;exact ⟨i,c1,rfl,p,m⟩
 |region id ops d=>
  simp only[bG] at h;split at h
  ·cases d with
   |false=>simp at h
   |true=>simp only[if_true] at h;split at h <;> simp at h
  ·simp at h
 |seq c1 q=>simp only[bG] at h;split at h <;> simp at h
 |cond o c1 q=>simp only[bG] at h;split at h <;> simp at h
 |scope b=>simp only[bG,cz] at h;obtain ⟨j,_,k⟩:=h;rcases Kz j with ⟨l,r,_,e⟩ | e <;> rw[e] at k <;> simp at k
 |rangeFunc g s x y=>rcases ed h with ⟨_,_,_,_,_,_,_,e⟩ | e <;> cases e
 |_=>simp[bG] at h
theorem Yv(h:bG P c=some (.loop a)):∃c1,c=.loop c1/\bG P c1=some a:=by
 cases c with
 |loop c1=>simp only[bG,cz,aP.loop.injEq] at h;obtain ⟨j,m,rfl⟩:=h;exact ⟨c1,rfl,m⟩
 |region id ops d=>
  simp only[bG] at h;split at h
  ·cases d with
   |false=>simp at h
   |true=>simp only[if_true] at h;split at h <;> simp at h
  ·simp at h
 |seq c1 p=>simp only[bG] at h;split at h <;> simp at h
 |cond o c1 p=>simp only[bG] at h;split at h <;> simp at h
 |scope b=>simp only[bG,cz] at h;obtain ⟨j,_,k⟩:=h;rcases Kz j with ⟨l,r,_,e⟩ | e <;> rw[e] at k <;> simp at k
 |rangeFunc g q x y=>rcases ed h with ⟨_,_,_,_,_,_,_,e⟩ | e <;> cases e
 |_=>simp[bG] at h
end
section
variable{P:Program}{ops:Array Oper}{Q:Exit->Act->World->Prop}{a:Act}{w:World}{n:Nat}{al:AL}{σ:ar}{M:Nat->Option Nat}{Fz:Nat->Prop}
theorem op_wide{o:Oper}{K:Act->World->Prop}(hd:∀c,o.op≠.defer c)(h:o.wp P a w K Q):o.wpIn Fence.wide 0 P a w K Q:=by
 refine ⟨λf _=>trivial,?_⟩;rw[Oper.semAt_eq _ _ _ hd];unfold Oper.wp at h;generalize (execOp a.eval o).run P w=r at *;cases r with
 |ok j g=>
  cases j with
  |value v=>exact h
  |skip=>exact h
  |defer d=>exact h
  |enter f args=>exact ⟨λe=>by simp[Fence.wide] at e,callsIn_wide.2 h⟩
  |row row args=>exact ⟨λe=>by simp[Fence.wide] at e,λc k _=>let ⟨v,g,r,s⟩:=h c k;⟨v,g,r,stepsIn_wide.2 s⟩⟩
  |_=>exact h.elim
 |halt e g=>cases e <;> first | exact h | exact h.elim
theorem Vi{i:Nat}{K:Act->World->Prop}(hd:∀(i:Nat) o c,ops[i]? = some o->o.op≠.defer c)(g:¬LetsOut Q)(h:wpOp P ops Q i K a w):wpOpIn Fence.wide 0 P ops Q i K a w:=by
 unfold wpOp at h;unfold wpOpIn;split at h
 ·simp_all
 ·rename_i o e;simp only[e];split at h
  ·rename_i d;simp only[d,if_true]
   grind [op_wide]
  ·rename_i d;simp only[d,bT,cn];exact ⟨λf _=>trivial,h⟩
theorem Ws{orc:gp}(O:nW P orc)(hd:∀(i:Nat) o c,ops[i]? = some o->o.op≠.defer c)(u:¬LetsOut Q){g:List Nat}:∀(os:List aG)(k:Nat)(σ σ':ar)(M:Nat->Option Nat)(Fz:Nat->Prop)(w:World)(e d:List D)(a:Act)(wr:List Nat),
  (∀j ao,os[j]? = some ao->∃o,ops[k+j]? = some o/\bq P ops o=some ao)->Rel σ M Fz w->dx σ M Fz w e a.tmps->oA P orc os e σ=some (d,σ',wr) ->
  (∀v q x p,v.defers=a.defers->Rel σ' x p q->dx σ' x p q d v.tmps->bD σ M Fz w σ' x p q->σ.length<=σ'.length->wpOpsIn Fence.wide 0 P ops Q g v q) ->
  wpOpsIn Fence.wide 0 P ops Q (List.range' k os.length++g) a w:=by
 intro os;induction os with
 |nil=>intro k σ σ' M Fz w e d a wr _ R E h u;simp only[oA,au,aT] at h;obtain ⟨rfl,rfl,_⟩:=h;exact u a w M Fz rfl R E (bD.refl R) (cU _)
 |cons ao os ih=>
  intro k σ σ' M Fz w e d a wr m R E h U;simp only[oA] at h;split at h
  ·rename_i r σ1 w1 X;split at h
   ·rename_i s Z w2 h2;simp only[au,aT] at h;obtain ⟨rfl,rfl,_⟩:=h;obtain ⟨o,ho,y⟩:=m 0 ao (by simp);simp only[List.length_cons,List.range'_succ,List.cons_append];rw[wpOpsIn_cons];refine Vi hd u (Jz O R E (by omega) y X _ λa1 q M1 A aa R1 E1 G t=>?_);refine ih (k+1) σ1 Z M1 A q r s a1 w2 (λj K hj=>?_) R1 E1 h2 λa2 L M2 N ab R2 E2 S T=>?_
    ·obtain ⟨o',ad,af⟩:=m (j+1) K (by simp_all)
     grind
    ·exact U a2 L M2 N (by simp_all) R2 E2 (G.trans S t) (lQ t T)
   simp_all
  simp_all
theorem eo{orc:gp}(O:nW P orc)(hd:∀(i:Nat) o c,ops[i]? = some o->o.op≠.defer c)(t:¬LetsOut Q){e:List Nat}{os:List aG}{k:Nat}(m:∀j ao,os[j]? = some ao->∃o,ops[k+j]? = some o/\bq P ops o=some ao)
  (h:cj P orc 0 os n al σ λp σ' _=>∀q g r d,q.defers=a.defers->Rel σ' r d g->eT n σ' r d g p q.tmps->bD σ M Fz w σ' r d g->wpOpsIn Fence.wide 0 P ops Q e q g)
  (R:Rel σ M Fz w) (A:eT n σ M Fz w al a.tmps):wpOpsIn Fence.wide 0 P ops Q (List.range' k os.length++e) a w:=by
 obtain ⟨p,σ',N,u,v⟩:=h;obtain ⟨x,y,E⟩:=u _ A.de.2;exact Ws O hd t os k σ σ' M Fz w _ x a _ m R A.de.1 (Mc _ _ _ _ _ _ y) λq g r d s G K L S=>v q g r d s G (eT.Zz K E) L
theorem mapM_at{os:List aG}(h:ops.toList.mapM (bq P ops)=some os):os.length=ops.size/\∀(j:Nat) ao,os[j]? = some ao->∃o,ops[j]? = some o/\bq P ops o=some ao:=by
 obtain ⟨d,e⟩:=Ns h
 simp_all
theorem zj{cs:List D}{m:Nat}(h:cs.length=m):uM (some m) cs 0=some (.agg cs):=by
 simp only[uM]
 grind
theorem xe.step{B:Nat}{J:(Nat->Prop)->(Nat->Prop)->World->Prop}(h:xe B J){σ σ':ar}{M s:Nat->Option Nat}{F F' U:Nat->Prop}{W W':World}(u:J F U W)(G:∀b c,M b=some c->¬U c/\B<=c)(E:bD σ M F W σ' s F' W')(x:Rel σ' s F' W') :
  J F' (λc=>U c∨F' c) W'/\∀b c,s b=some c->¬(U c∨F' c)/\B<=c:=by
 have A:=h.lt F U W u;have K:=h.le F U W u;refine ⟨h.grow F U W' F' (h.off F U W W' u E.size (λc j=>E.frame c (j.elim (A c) (by omega)) λb o=>?_) E.out) (λc j=>(E.fz c j).1) λc j=>?_,λb c o=>?_⟩
 ·grind
 ·rcases E.nU c j with O | ⟨b,o⟩ | O
  ·simp_all
  ·exact .inr ⟨(G b c o).1,(G b c o).2,x.fz c j⟩
  ·exact .inr ⟨λX=>by grind,by omega,x.fz c j⟩
 ·have Z:=(x.blk b c o).1;rcases E.kS b c o with ⟨b0,R⟩ | R
  ·grind
  grind
theorem eT.data{o:AL}{j:Array Value}(h:eT n σ M Fz w al j)(hs:∀t d,lk t o=some d->lk t al=some d/\d.low 0=true):eT n [] (λ_=>none) Fz w o j:=
 ⟨h.1,λt d s=>let ⟨h1,h2⟩:=hs t d s;let ⟨v,h3,h4⟩:=h.2 t d h1;⟨v,h3,h4.data h2 _ _⟩⟩
theorem HP{h:List Nat}{i d t:Nat}{o:Oper}{g:Option (Nat×Bool)}{r:List D}{c:Nat}{x:C}{arr:Array Value}{T:TypeId}(ho:ops[i]? = some o)(q:bq P ops o=some ⟨some d,.load none (.t t),g⟩)(K:Gl.ok Fz w)(E:dx σ M Fz w r a.tmps)(hw:gB r g=some true)
  (S:a.tmps[t]? = some (.pointer (some ⟨c,0,none⟩))) (hh:w.heap[c]? = some (.cells arr T (0,0))) (hl:1<=arr.size) (U:∀u,arr[0]? = some u->VC Fz w x u/\u.oneCell'=true)
  (hK:∀v,VC Fz w x v->wpOpsIn Fence.wide 0 P ops Q h (a.put (some d) v) w):wpOpsIn Fence.wide 0 P ops Q (i::h) a w:=by
 unfold bq at q;split at q
 ·rename_i g' ao hg s;simp only[au,aG.mk.injEq] at q;obtain ⟨X,rfl,rfl⟩:=q;have L:=Av s;rcases tO s with ⟨f,args,aa,of,os,_,_,_,e⟩ | ⟨h0,N,_⟩
  ·simp at e
  have m:=oS E hg hw;rw[wpOpsIn_cons];unfold wpOpIn;rw[ho];simp only[m,if_true];have ht:t<a.tmps.size:=(BI.1 S).1;have E1:dx [.cells [.c x]] (λb=>if b=0 then some c else none) Fz w ((List.replicate a.tmps.size D.any).set t (.ptr 0 0 1)) a.tmps:=by
   refine ⟨by simp,λj d v k p=>?_⟩;rw[yB7] at k;split at k
   ·rename_i e;subst e;split at k
    ·simp only[au] at k;subst k;rw[S] at p;simp only[au] at p;subst p;exact .ptr _ (.cells [.c x]) rfl (cU _) λ_=>⟨c,rfl,rfl⟩
    simp_all
   ·have:d=.any:=by
     grind
    subst this;exact .any v
  have O:bj P (λ_ _ _=>none) (.load none (.t t)) ((List.replicate a.tmps.size D.any).set t (.ptr 0 0 1)) [.cells [.c x]]=some (.c x,[.cells [.c x]],[]):=by
   have:aO.ev ((List.replicate a.tmps.size D.any).set t (.ptr 0 0 1)) (.t t)=.ptr 0 0 1:=by grind [aO.ev]
   simp only[bj,this];rfl
  have A:∃v,(execOp a.eval o).run P w=.ok (.value v) w/\VC Fz w x v:=by
   cases Fw (M:=λb=>if b=0 then some c else none) (Fz:=Fz) (w:=w) K E1 h0 N O with
   |y q _=>grind [cat]
   |l _ _ hy=>
    obtain ⟨v,k,p⟩:=hy λb off sz c' cs hb Z G=>by
     have R:b=0:=by simp_all
     subst R;simp only[if_true,au] at Z;subst Z;simp only[List.getElem?_cons_zero,au,Ob.cells.injEq] at G;subst G;refine ⟨arr,T,hh,by omega,λj d u k p=>?_⟩;have hj:j=0:=by grind
     subst hj;simp only[List.getElem?_cons_zero,au] at k;subst k;exact ⟨.c (U u p).1,(U u p).2⟩
    grind [V.qa]
   |g q _=>grind [cat]
  obtain ⟨v,hr,hV⟩:=A;refine ⟨λf _=>trivial,?_⟩;rw[Oper.semAt_eq _ _ _ L,hr];show wpOpsIn Fence.wide 0 P ops Q h (a.put o.dst v) w
  simp_all
 simp_all
theorem PY{m:List Nat}{i d f t l:Nat}{o:Oper}{g:Option (Nat×Bool)}{q:List D}{v:Value}{R:Ending->World->Prop}(X:ops[i]? = some o)(u:bq P ops o=some ⟨some d,.call (.t f) [.t t],g⟩)(E:dx σ M Fz w q a.tmps)(Z:gB q g=some true)
  (hf:a.tmps[f]? = some (.func (.yield l) #[] #[])) (ht:a.tmps[t]? = some v) (hy:YieldAt Fence.wide 0 P l #[v] w R)
  (hK:∀e A,R e A->∃b,e=.returned b/\wpOpsIn Fence.wide 0 P ops Q m (a.put (some d) b) A):wpOpsIn Fence.wide 0 P ops Q (i::m) a w:=by
 unfold bq at u;split at u
 ·rename_i g' ao hg G;simp only[au,aG.mk.injEq] at u;obtain ⟨O,rfl,rfl⟩:=u;have tm:∀(x:Operand)(t:Nat),bX x=some (.t t)->x=.tmp t:=λx t S=>by
   cases x <;> simp[bX] at S
   rw[S]
  rcases tO G with ⟨f',args,aa,of,os,ab,h1,h2,e⟩ | ⟨_,K,_⟩
  ·simp only[kT.call.injEq] at e;obtain ⟨rfl,rfl⟩:=e;have L:=tm f' f h1;subst L;have N:args.map a.eval=#[v]:=by
    obtain ⟨l1,l2⟩:=Ns (show args.toList.mapM bX=some [.t t] from h2);have hl:args.size=1:=by simp_all
    have T:args=#[.tmp t]:=by
     apply Array.ext
     ·omega
     ·intro j ad af;have hj:j=0:=by omega
      subst hj;obtain ⟨y,ak,an⟩:=l2 0 (.t t) rfl
      grind
    rw[T];simp[Act.eval,ht]
   have p:=oS E hg Z;rw[wpOpsIn_cons];unfold wpOpIn;rw[X];simp only[p,if_true];obtain ⟨fn,r,h,s,U,k⟩:=hy;have av:a.eval (.tmp f)=.func (.yield l) #[] #[]:=by simp[Act.eval,hf]
   have hr:(execOp a.eval o).run P w=.ok (.round l fn r h s) w:=by grind [Go.execOp,Go.resolve,Go.Deferred.ofValue,Go.invoke]
   refine ⟨λf _=>trivial,?_⟩;rw[Oper.semAt_eq _ _ _ (by grind),hr,Oper.uponIn_round];refine ⟨λhh=>by simp[Fence.wide] at hh,k.mono λe A T=>?_⟩
   grind
  grind [BH]
 simp_all
theorem nH{c:Code}{os:List aG}(k:bG P c=some (.CK os))(h:∀ops:Array Oper,ops.size=os.length->(∀(j:Nat) ao,os[j]? = some ao->∃o,ops[j]? = some o/\bq P ops o=some ao)->(∀(i:Nat) o c,ops[i]? = some o->o.op≠.defer c) ->
  wpOpsIn Fence.wide 0 P ops (me Q) (List.range os.length) a w):c.wpIn Fence.wide 0 P Q a w:=by
 obtain ⟨id,ops,rfl,m⟩:=inv_reg k;obtain ⟨e,g⟩:=mapM_at m;refine wpIn_mono (Q:=me Q) (wpIn_region ?_) λ_ _ _ h=>h.1;rw[<-e];refine h ops e.symm g λj o c p=>?_;have d:j<os.length:=by grind
 obtain ⟨q,r,s⟩:=g j _ (eI d)
 grind [qB]
end
end
end Go.Abs
end
section
namespace Go.Abs
noncomputable section
variable[Gl][Y:Ty]
def able2(es:Nat)(z:List D):List aG:=[⟨some 9,.idx es none (.t 5) (.t 7),none⟩,⟨some 10,.load (some es) (.t 9),none⟩,⟨some 4,.alloc z,none⟩,⟨none,.store es (.t 4) (.t 10),none⟩]
def Jb(es so ti tb:Nat):List aG:=[⟨some 11,.Ho so (.t 4),none⟩,⟨some 12,.load none (.t 11),none⟩,⟨some 13,.gen (.binOp .eql ti (.tmp 12) (.const (.int .i64 1)) ti) tb,none⟩,⟨some 14,.AB (.t 13),none⟩,⟨some 15,.load (some es) (.t 4),some (14,true)⟩]
def WC:aG:=⟨some 16,.load none (.t 1),some (14,true)⟩
def Ko(gm:Nat):List aG:=[⟨some 17,.call (.k (.c (.fn (.func gm) [] []))) [(.t 15),(.t 16)],some (14,true)⟩,⟨some 18,.pick (.t 14) (.t 17) (.k (.c (.lit (.bool false)))),none⟩,⟨some 19,.AB (.t 18),none⟩]
def Bg(es:Nat):List aG:=[⟨some 20,.AB (.t 0),some (19,true)⟩,⟨some 21,.load (some es) (.t 4),some (19,true)⟩]
def OR:aG:=⟨some 22,.call (.t 20) [(.t 21)],some (19,true)⟩
def xR(tb:Nat):List aG:=[⟨some 23,.gen (.unOp .not tb (.tmp 22)) tb,some (19,true)⟩,⟨some 24,.pick (.t 19) (.t 23) (.k (.c (.lit (.bool false)))),none⟩]
def Wh(es so ti tb gm:Nat):List aG:=Jb es so ti tb++(WC::(Ko gm++(Bg es++(OR::xR tb))))
def Zg(ti:Nat):List aG:=[⟨some 8,.gen (.binOp .lss ti (.tmp 7) (.tmp 6) ti) 0,none⟩]
def able4(ti:Nat):List aG:=[⟨some 25,.gen (.binOp .add ti (.tmp 7) (.const (.int .i64 1)) ti) ti,none⟩,⟨some 7,.AB (.t 25),none⟩]
def able0:List aG:=[⟨some 5,.load none (.t 1),none⟩,⟨some 6,.len (.t 5),none⟩,⟨some 7,.AB (.k (.c (.lit (.int .i64 0)))),none⟩]
def ableL(es so ti tb gm:Nat)(z:List D):aP:=.seq (.CK (Zg ti)) (.seq (.cond (.t 8) .skip (.exit 0)) (.seq (.block 2 (.seq (.CK (able2 es z)) (.seq (.CK (Wh es so ti tb gm)) (.cond (.t 24) .ret .skip)))) (.CK (able4 ti))))
def ableA(es so ti tb gm:Nat)(z:List D):kQ:=⟨2,26,[],.seq (.CK able0) (.block 0 (.loop (ableL es so ti tb gm z))),true⟩
section
variable{P:Program}{n:Nat}{al:AL}{σ:ar}{M:Nat->Option Nat}{F F':Nat->Prop}{W W':World}
theorem eT.put{a:Act}{t:Nat}{d:D}{v:Value}(A:eT n σ M F W al a.tmps)(o:t<n)(u:V σ M F W d v):eT n σ M F W ((t,d)::al) (a.put (some t) v).tmps:=by
 refine ⟨by simp[Act.put,A.1],λs e hs=>?_⟩;simp only[lk] at hs;simp only[Act.put];split at hs
 ·rename_i j;have:=cS j;subst this;simp only[au] at hs;subst hs;refine ⟨v,?_,u⟩;rw[yAP,if_pos rfl,if_pos (by rw[A.1];exact o)]
 ·rename_i j;obtain ⟨x,E,G⟩:=A.2 s e hs;refine ⟨x,?_,G⟩;rw[yAP,if_neg (λe=>by simp_all)];exact E
theorem eT.dataF {j:Array Value} (A:eT n σ M F W al j) (s:∀t d,lk t al=some d→∃x,d=.c x) (u:∀c:Nat,F c→F' c∧W'.heap[c]? = W.heap[c]?):eT n [] (fun _=>none) F' W' al j:=
 ⟨A.1,fun t d o=>by
  obtain ⟨v,E,G⟩:=A.2 t d o
  obtain ⟨x,rfl⟩:=s t d o
  exact ⟨v,E,.c (G.qa.mono u)⟩⟩
theorem eT.lks{o:AL}{j:Array Value}(A:eT n σ M F W al j)(hs:∀t d,lk t o=some d->lk t al=some d):eT n σ M F W o j:=⟨A.1,λt d s=>A.2 t d (hs t d s)⟩
theorem AZ{ops:Array Oper}{d os:List aG}{k:Nat}(h:∀(j:Nat) ao,d[j]? = some ao->∃o,ops[j]? = some o/\bq P ops o=some ao)(e:∀j,j<os.length->d[k+j]? = os[j]?):∀j ao,os[j]? = some ao->∃o,ops[k+j]? = some o/\bq P ops o=some ao:=
 λj ao g=>h (k+j) ao (by grind)
def m_(i:Nat)(l:List (TT i))(d pv:Value)(k:Int):AL:=[(7,I k),(6,I l.length),(5,.c (.cD false (l.map (enc i)))),(0,.c (.lit d)),(1,.c (.lit pv))]
theorem ableH_c{i:Nat}{l:List (TT i)}{e pv:Value}{k:Int}:∀t d,lk t (m_ i l e pv k)=some d->∃x,d=.c x:=by
 intro t d h;have:=nM h;simp only[m_,gn,Ly,Mg,aT] at this
 grind
theorem SF(c:CC)(a:c.dn):Dg c (qQ c a)=some a:=by
 cases c with
 |int k=>simp only[qQ,Dg];split <;> first | rfl | grind
 |bool=>rfl
 |str=>rfl
 |sl j=>simp only[qQ,Dg,fq];split <;> first | rfl | omega
 |fk d=>rfl
theorem rdT_exp:∀(cs:List CC)(x:aQ cs),DL cs (uE cs x)=some x:=by
 intro cs;induction cs with
 |nil=>intro x;rfl
 |cons c cs ih=>grind [uE,DL,SF]
theorem enc_nrm(i:Nat)(a:TT i)(l:List (TT i)):([ST (enc i a),.c (.cD false (l.map (enc i)))]:List D).map Cy=[ST (enc i a),.c (.cD false (l.map (enc i)))]/\(([ST (enc i a),.c (.cD false (l.map (enc i)))]:List D).all λd=>d.low 0&&d.plain)=true:=by
 have h:yO [.st i,.c (.sl i)] (tvV [.st i,.c (.sl i)] (a,l,()))=some (a,l,()):=by
  have e:qH (.st i) (dh.tv (.st i) a)=some a:=by
   show Co i (.agg (exp i a))=some a
   grind [Co,exp,rdT_exp,Ty.mp]
  have g:qH (.c (.sl i)) (dh.tv (.c (.sl i)) l)=some l:=SF (.sl i) l
  grind [tvV,yO]
 exact SA h (.cons (dh.ED (.st i) a) (.cons (dh.ED (.c (.sl i)) l) .nil))
end
section
variable{P:Program}{i so ti tb gm:Nat}{z:List D}{st:TT i->Int}{metf:TT i->List (TT i)->Option Bool}
def Rr(gm:Nat)(ds:List D)(b:Bool):xH:=open Classical in [(gm,λd=>if d=ds then some (B b) else none)]
theorem WZ{ds:List D}{b:Bool}(h:Pure P gm ds (B b)):nW P (λ_=>CY (Rr gm ds b)):=λ_=>mR λp e d r g=>by grind [Rr]
variable{B:Nat}{lb:Array Value}{J:Nat->(Nat->Prop)->(Nat->Prop)->World->Prop}{Jx:(Nat->Prop)->(Nat->Prop)->World->Prop}{l:List (TT i)}{items:List (List D)}{ly:Nat}{pv:Value}
def ableEnd(B:Nat)(J:Nat->(Nat->Prop)->(Nat->Prop)->World->Prop)(Jx:(Nat->Prop)->(Nat->Prop)->World->Prop)(H:AL)(it:Nat)(g:Exit->Act->World->Prop):Prop:=
 ∀F' e W' d (b:Bool),d.defers=[]->eT 26 [] (λ_=>none) F' W' ((24,Abs.B b)::H) d.tmps->((b=false/\J it F' e W')∨(b=true/\Jx F' e W'))->g .normal d W'
theorem able_r3 (dC:P.follows .mixedOrders=true) (b4:∀a,(enc i a)[so]? = some (.lit (.int .i64 (st a))))
  (ad:∀x:Int,iu P .eql ti (.tmp 12) (.const (.int .i64 1)) (.int .i64 x) (.int .i64 1)=some (.bool (x == 1))) (af:∀b:Bool,fx P (Op.unary .not (.bool b))=some (.bool (!b)))
  (hm:bJ P gm ⟨[.st i,.c (.sl i)],[.c .bool],fun a=>metf a.1 a.2.1⟩)
  (hJ:∀k,xe B (J k)) (be:xe B Jx) (ak:∀k F U W,J k F U W→Caps F W [[.cD false (l.map (enc i))]] lb) (bh:lb[0]? = some pv)
  (y:∀k ds F U W vs,items[k]? = some ds→J k F U W→Vals F W ds vs →
   YieldAt Fence.wide 0 P ly vs W fun e W'=>∃F' E,Kept F U W F' E W'∧((e=.returned (.bool true)∧J (k+1) F' E W')∨(e=.returned (.bool false)∧Jx F' E W')))
  {c3:Code} (an:bG P c3=some (.CK (Wh (aw i) so ti tb gm))) {a:TT i} {k:Int} {it:Nat} {F U:Nat→Prop} {W:World} {M:Nat→Option Nat} {s:Act} {Qy:Exit→Act→World→Prop}
  (R:Rel [.cells ((enc i a).map .c)] M F W) (A:eT 26 [.cells ((enc i a).map .c)] M F W ((4,.ptr 0 0 (aw i))::m_ i l (.func (.yield ly) #[] #[]) pv k) s.tmps) (b5:s.defers=[]) (r:J it F U W) (hO:∀b c,M b=some c→¬U c∧B≤c)
  (av:st a=1→∃b,metf a l=some b∧(b=true→items[it]? = some [ST (enc i a)]))
  (hK:∀b,(st a=1→metf a l=some b)→(st a≠1→b=false)→ableEnd B J Jx (m_ i l (.func (.yield ly) #[] #[]) pv k) (if b=true then it+1 else it) Qy):c3.wpIn Fence.wide 0 P Qy s W:=by
 have L:((enc i a).map D.c).length=aw i:=by rw [xF,ry]
 have o:mA [Ob.cells ((enc i a).map D.c)] 0 (aw i)=some ((enc i a).map D.c):=Ps rfl L
 have N:uM none ((enc i a).map D.c) (0+so)=some (I (st a)):=by
  show ((enc i a).map D.c)[0+so]? = _
  simp_all
 have S:uM (some (aw i)) ((enc i a).map D.c) 0=some (ST (enc i a)):=zj L
 by_cases h1:st a=1
 ·obtain ⟨b,hb,Ol⟩:=av h1
  obtain ⟨bi,bk⟩:=enc_nrm i a l
  have O:=WZ (P:=P) (gm:=gm) (ds:=[ST (enc i a),.c (.cD false (l.map (enc i)))]) (b:=b) (hm (a,l,()) b hb)
  have aa:CY (Rr gm [ST (enc i a),.c (.cD false (l.map (enc i)))] b) gm [ST (enc i a),.c (.cD false (l.map (enc i)))] [Ob.cells ((enc i a).map D.c)]=some (Abs.B b,[Ob.cells ((enc i a).map D.c)],[]):=
   zo (F:=fun bl=>open Classical in if bl=[ST (enc i a),.c (.cD false (l.map (enc i)))] then some (Abs.B b) else none) (by simp [Rr,VB]) bk bi (by simp) rfl
  refine nH an fun ops hs g m=>?_
  show wpOpsIn Fence.wide 0 P ops (me Qy) (List.range' 0 (Jb (aw i) so ti tb).length++(5::(List.range' 6 (Ko gm).length++(List.range' 9 (Bg (aw i)).length++(11::(List.range' 12 (xR tb).length++[])))))) s W
  refine eo O m TE (AZ g fun j r=>?_) ?_ R A
  ·have:j=0∨j=1∨j=2∨j=3∨j=4:=by simp [Jb] at r; omega
   rcases this with rfl | rfl | rfl | rfl | rfl <;> rfl
  unfold Jb
  refine cj.op (JJ rfl) iw rfl (cj.op (rC rfl o N) iw rfl (cj.op (dN (v:=.bool (st a == 1)) rfl rfl rfl rfl (ad _) rfl) iw rfl (cj.op (zC rfl) iw rfl (cj.op (rC rfl o S) (gW rfl (by simp [h1])) rfl (cj.nil ?_)))))
  intro a1 W1 M1 F1 b6 R1 A1 E1
  obtain ⟨j1,o1⟩:=(hJ it).step r hO E1 R1
  obtain ⟨c,rfl,b7,T,hh,hl,hx⟩:=(ak it _ _ _ j1).2 0 _ pv rfl bh
  obtain ⟨o5,bt,bu⟩:=g 5 WC rfl
  obtain ⟨v1,bv,bw⟩:=A1.2 1 _ rfl
  have:=bw.cd
  subst this
  refine HP bt bu R1.gl A1.de.1 (gW rfl (by simp [h1]) 26 _ A1.de.2) bv hh (by omega) (fun u hu=>hx 0 _ u rfl hu) fun v hv=>?_
  have A2:=A1.put (t:=16) (d:=.c (.cD false (l.map (enc i)))) (by omega) (.c hv)
  refine eo O m TE (AZ g fun j r=>?_) ?_ R1 A2
  ·have:j=0∨j=1∨j=2:=by simp [Ko] at r; omega
   rcases this with rfl | rfl | rfl <;> rfl
  unfold Ko
  refine cj.op (Iu rfl rfl aa) (gW rfl (by simp [h1])) rfl (cj.op (uv rfl (by simp [h1]) rfl) iw rfl (cj.op (zC rfl) iw rfl (cj.nil ?_)))
  intro a3 W3 M3 F3 b0 R3 A3 E3
  obtain ⟨j3,o3⟩:=(hJ it).step j1 o1 E3 R3
  have b3:a3.defers=[]:=by rw [b0]; show a1.defers=[]; simp_all
  cases b with
  | false =>
   show wpOpsIn Fence.wide 0 P ops (me Qy) (List.range' 9 (Bg (aw i)++(OR::xR tb)).length++[]) a3 W3
   refine eo O m TE (AZ g fun j r=>?_) ?_ R3 A3
   ·have:j=0∨j=1∨j=2∨j=3∨j=4:=by simp [Bg,xR] at r; omega
    rcases this with rfl | rfl | rfl | rfl | rfl <;> rfl
   refine cj.no (QJ rfl rfl) rfl (cj.no (QJ rfl rfl) rfl (cj.no (QJ rfl rfl) rfl (cj.no (QJ rfl rfl) rfl (cj.op (p_ rfl rfl rfl) iw rfl (cj.nil ?_)))))
   intro a4 W4 M4 F4 ax R4 G E4
   obtain ⟨j4,_⟩:=(hJ it).step j3 o3 E4 R4
   refine ⟨hK false (fun _=>hb) (fun _=>rfl) F4 _ W4 a4 false (by simp_all) (G.data fun t d K=>?_) (.inl ⟨rfl,j4⟩),by simp⟩
   have:=nM K
   simp only [m_,gn,Ly,Mg,aT] at this
   rcases this with ⟨rfl,rfl⟩ | ⟨rfl,rfl⟩ | ⟨rfl,rfl⟩ | ⟨rfl,rfl⟩ | ⟨rfl,rfl⟩ | ⟨rfl,rfl⟩ <;> exact ⟨rfl,rfl⟩
  | true =>
   refine eo O m TE (AZ g fun j r=>?_) ?_ R3 A3
   ·have:j=0∨j=1:=by simp [Bg] at r; omega
    rcases this with rfl | rfl <;> rfl
   unfold Bg
   refine cj.op (zC rfl) (gW rfl rfl) rfl (cj.op (rC rfl o S) (gW rfl rfl) rfl (cj.nil ?_))
   intro a4 W4 M4 F4 ax R4 G E4
   obtain ⟨j4,o4⟩:=(hJ it).step j3 o3 E4 R4
   obtain ⟨b8,a0,a2⟩:=g 11 OR rfl
   obtain ⟨b9,a5,a7⟩:=G.2 20 _ rfl
   have:=a7.cd
   subst this
   obtain ⟨a8,a9,bb⟩:=G.2 21 _ rfl
   refine PY a0 a2 G.de.1 (gW rfl rfl 26 _ G.de.2) a5 a9 (y it _ F4 _ W4 #[a8] (Ol rfl) j4 ⟨rfl,fun q d v g1 g2=>?_⟩) fun e w' he=>?_
   ·have hq:q=0:=by
     grind
    subst hq
    simp only [List.getElem?_cons_zero,au] at g1
    subst g1
    have g2:some a8=some v:=g2
    simp only [au] at g2
    subst g2
    exact bb.data (by grind) _ _
   ·obtain ⟨F5,U5,kp,b1⟩:=he
    have Z:∀(q:Bool) (X:(Nat→Prop)→(Nat→Prop)→World→Prop),xe B X→X F5 U5 w'→(∀F' E W',X F' E W'→((!q)=false∧J (it+1) F' E W')∨((!q)=true∧Jx F' E W'))→wpOpsIn Fence.wide 0 P ops (me Qy) (List.range' 12 (xR tb).length++[]) (a4.put (some 22) (.bool q)) w':=by
     intro q X hX bc bd
     have A5:eT 26 [] (fun _=>none) F5 w' ((22,Abs.B q)::(19,Abs.B true)::m_ i l (.func (.yield ly) #[] #[]) (.pointer (some ⟨c,0,none⟩)) k) (a4.put (some 22) (.bool q)).tmps:=by
      refine eT.put (eT.dataF (G.lks fun t d K=>?_) (fun t d K=>?_) kp.fz) (by omega) (.c (.lit _))
      ·have:=nM K
       simp only [m_,gn,Ly,Mg,aT] at this
       rcases this with ⟨rfl,rfl⟩ | ⟨rfl,rfl⟩ | ⟨rfl,rfl⟩ | ⟨rfl,rfl⟩ | ⟨rfl,rfl⟩ | ⟨rfl,rfl⟩ <;> rfl
      ·have:=nM K
       simp only [m_,gn,Ly,Mg,aT] at this
       grind
     refine eo O m TE (AZ g fun j r=>?_) ?_ (hX.rel _ _ _ bc) A5
     ·have:j=0∨j=1:=by simp [xR] at r; omega
      rcases this with rfl | rfl <;> rfl
     unfold xR
     refine cj.op (Zw (v:=.bool (!q)) rfl rfl (af q) rfl) (gW rfl rfl) rfl (cj.op (uv rfl rfl rfl) iw rfl (cj.nil ?_))
     intro a6 W6 M6 F6 b2 R6 A6 E6
     obtain ⟨j6,_⟩:=hX.step bc (fun b c h=>by simp at h) E6 R6
     refine ⟨hK true (fun _=>hb) (fun h=>absurd h1 h) F6 _ W6 a6 (!q) (by rw [b2]; show a4.defers=[]; simp_all) (A6.data fun t d K=>?_) (bd _ _ _ j6),by simp⟩
     have:=nM K
     simp only [m_,gn,Ly,Mg,aT] at this
     rcases this with ⟨rfl,rfl⟩ | ⟨rfl,rfl⟩ | ⟨rfl,rfl⟩ | ⟨rfl,rfl⟩ | ⟨rfl,rfl⟩ | ⟨rfl,rfl⟩ <;> exact ⟨rfl,rfl⟩
    rcases b1 with ⟨rfl,ab⟩ | ⟨rfl,ab⟩
    ·exact ⟨_,rfl,Z true (J (it+1)) (hJ _) ab fun F' E W' h=>.inl ⟨rfl,h⟩⟩
    ·exact ⟨_,rfl,Z false Jx be ab fun F' E W' h=>.inr ⟨rfl,h⟩⟩
 ·have hf:(st a == 1)=false:=by simp_all
  have O:nW P (fun _=>CY []):=fun _=>mR fun p hp=>by grind
  refine nH an fun ops hs g m=>?_
  show wpOpsIn Fence.wide 0 P ops (me Qy) (List.range' 0 (Wh (aw i) so ti tb gm).length++[]) s W
  refine eo O m TE (fun j ao r=>by simp_all) ?_ R A
  refine cj.op (JJ rfl) iw rfl (cj.op (rC rfl o N) iw rfl (cj.op (dN (v:=.bool (st a == 1)) rfl rfl rfl rfl (ad _) rfl) iw rfl (cj.op (zC rfl) iw rfl (cj.no (QJ rfl (by simp [hf])) rfl (cj.no (QJ rfl (by simp [hf])) rfl (cj.no (QJ rfl (by simp [hf])) rfl
   (cj.op (p_ rfl hf rfl) iw rfl (cj.op (zC rfl) iw rfl (cj.no (QJ rfl rfl) rfl (cj.no (QJ rfl rfl) rfl (cj.no (QJ rfl rfl) rfl (cj.no (QJ rfl rfl) rfl (cj.op (p_ rfl rfl rfl) iw rfl (cj.nil ?_))))))))))))))
  intro a4 W4 M4 F4 ax R4 G E4
  obtain ⟨j4,_⟩:=(hJ it).step r hO E4 R4
  refine ⟨hK false (fun h=>absurd h h1) (fun _=>rfl) F4 _ W4 a4 false (by simp_all) (G.data fun t d K=>?_) (.inl ⟨rfl,j4⟩),by simp⟩
  have:=nM K
  simp only [m_,gn,Ly,Mg,aT] at this
  rcases this with ⟨rfl,rfl⟩ | ⟨rfl,rfl⟩ | ⟨rfl,rfl⟩ | ⟨rfl,rfl⟩ | ⟨rfl,rfl⟩ | ⟨rfl,rfl⟩ <;> exact ⟨rfl,rfl⟩
end
end
end Go.Abs
end
section
namespace Go.Abs
noncomputable section
variable[Gl][Y:Ty]
section
variable{P:Program}{c:Code}
theorem ML(h:bG P c=some .skip):c=.skip:=by
 cases c with
 |skip=>rfl
 |region id ops d=>
  simp only[bG] at h
  grind
 |seq c1 e=>grind [bG]
 |cond o c1 e=>grind [bG]
 |scope b=>grind [bG,Option.map_eq_some_iff,Kz]
 |rangeFunc g j x y=>grind [ed]
 |_=>simp[bG] at h
theorem inv_ret(h:bG P c=some .ret):c=.ret:=by
 cases c with
 |ret=>rfl
 |region id ops d=>
  simp only[bG] at h;split at h
  ·cases d with
   |false=>simp at h
   |true=>simp only[if_true] at h;split at h <;> simp at h
  ·simp at h
 |seq c1 k=>simp only[bG] at h;split at h <;> simp at h
 |cond o c1 k=>simp only[bG] at h;split at h <;> simp at h
 |scope b=>simp only[bG,cz] at h;obtain ⟨m,_,j⟩:=h;rcases Kz m with ⟨l,r,_,e⟩ | e <;> rw[e] at j <;> simp at j
 |rangeFunc g p x y=>rcases ed h with ⟨_,_,_,_,_,_,_,e⟩ | e <;> cases e
 |_=>simp[bG] at h
theorem Zk{i:Nat}(h:bG P c=some (.exit (2 * i))):c=.exit i:=by
 cases c with
 |exit j=>simp only[bG,au,aP.exit.injEq] at h;rw[show j=i by omega]
 |goto j=>simp only[bG,au,aP.exit.injEq] at h;omega
 |region id ops d=>
  simp only[bG] at h;split at h
  ·cases d with
   |false=>simp at h
   |true=>simp only[if_true] at h;split at h <;> simp at h
  ·simp at h
 |seq c1 m=>simp only[bG] at h;split at h <;> simp at h
 |cond o c1 m=>simp only[bG] at h;split at h <;> simp at h
 |scope b=>simp only[bG,cz] at h;obtain ⟨p,_,k⟩:=h;rcases Kz p with ⟨l,r,_,e⟩ | e <;> rw[e] at k <;> simp at k
 |rangeFunc g q x y=>rcases ed h with ⟨_,_,_,_,_,_,_,e⟩ | e <;> cases e
 |_=>simp[bG] at h
end
section
variable{P:Program}{i so ti tb gm:Nat}{z:List D}{st:TT i->Int}{metf:TT i->List (TT i)->Option Bool}
variable{B:Nat}{lb:Array Value}{J:Nat->(Nat->Prop)->(Nat->Prop)->World->Prop}{Jx:(Nat->Prop)->(Nat->Prop)->World->Prop}{l:List (TT i)}{ly:Nat}{pv:Value}
theorem KY:∀(cs:List CC)(x:aQ cs),(uE cs x).all TC.scalar=true:=by
 intro cs;induction cs with
 |nil=>intro x;rfl
 |cons c cs ih=>intro x;simp only[uE,List.all_cons,ih,M_];cases c <;> rfl
def Dl(J:Nat->(Nat->Prop)->(Nat->Prop)->World->Prop)(Jx:(Nat->Prop)->(Nat->Prop)->World->Prop)(m:Nat):Exit->Act->World->Prop:=λe a W=>(e=.normal∨e=.ret)/\a.defers=[]/\∃F U,J m F U W∨Jx F U W
def Wi{T:Type}(st:T->Int)(met:T->Option Bool)(l:List T):Option (List T):=match Nat.ble l.length 1000000 with | true=>DX st met l | false=>none
theorem Lp (dC:P.follows .mixedOrders=true) (hz:z.length=aw i) (ax:∀a,(enc i a)[so]? = some (.lit (.int .i64 (st a))))
  (X:∀x y:Int,iu P .lss ti (.tmp 7) (.tmp 6) (.int .i64 x) (.int .i64 y)=some (.bool (decide (x<y))))
  (a0:∀x:Int,iu P .eql ti (.tmp 12) (.const (.int .i64 1)) (.int .i64 x) (.int .i64 1)=some (.bool (x == 1)))
  (Z:∀x:Int,iu P .add ti (.tmp 7) (.const (.int .i64 1)) (.int .i64 x) (.int .i64 1)=some (.int .i64 (i64.wrap (x+1)))) (aa:∀b:Bool,fx P (Op.unary .not (.bool b))=some (.bool (!b)))
  (hm:bJ P gm ⟨[.st i,.c (.sl i)],[.c .bool],fun a=>metf a.1 a.2.1⟩)
  (R:∀k,xe B (J k)) (a6:xe B Jx) (ck:l.length≤1000000) {r:List (TT i)} (ab:∀k F U W,J k F U W→Caps F W [[.cD false (l.map (enc i))]] lb) (a7:lb[0]? = some pv)
  (K:∀k ds F U W vs,(r.map fun a=>[ST (enc i a)])[k]? = some ds→J k F U W→Vals F W ds vs →
   YieldAt Fence.wide 0 P ly vs W fun e W'=>∃F' U',Kept F U W F' U' W'∧((e=.returned (.bool true)∧J (k+1) F' U' W')∨(e=.returned (.bool false)∧Jx F' U' W')))
  {cb:Code} (a8:bG P cb=some (ableL (aw i) so ti tb gm z)):∀(m k it:Nat) (q:List (TT i)) (F U:Nat→Prop) (W:World) (g:Act),k+m=l.length→DX st (fun x=>metf x l) (l.drop k)=some q→r.drop it=q→it≤r.length→J it F U W →
   eT 26 [] (fun _=>none) F W (m_ i l (.func (.yield ly) #[] #[]) pv k) g.tmps→g.defers=[]→Code.roundsIn Fence.wide 0 P cb (Exit.inBlock 0 (Dl J Jx r.length)) (m+1) g W:=by
 obtain ⟨c1,r1,rfl,h1,a9⟩:=vS a8
 obtain ⟨c2,r2,rfl,h2,bb⟩:=vS a9
 obtain ⟨c3,c4,rfl,h3,h4⟩:=vS bb
 obtain ⟨x8,cp,cv,rfl,bc,bd,be⟩:=LX h2
 obtain ⟨j2,c0,rfl,c5,bh⟩:=Ht h3
 obtain ⟨d2,r3,rfl,bi,bk⟩:=vS bh
 obtain ⟨d3,d4,rfl,bl,bt⟩:=vS bk
 obtain ⟨c6,c7,c8,rfl,ad,bu,bv⟩:=LX bt
 have:=ML bd
 subst this
 have:=Zk (i:=0) be
 subst this
 have:=inv_ret bu
 subst this
 have:=ML bv
 subst this
 have tm:∀(x:Operand) (t:Nat),bX x=some (.t t)→x=.tmp t:=fun x t hx=>by
  cases x <;> simp [bX] at hx
  rw [hx]
 have:=tm _ _ bc
 subst this
 have:=tm _ _ ad
 subst this
 have ev:∀{al:AL} {σ:ar} {M:Nat→Option Nat} {F:Nat→Prop} {W:World} {a:Act} {t:Nat} {b:Bool},eT 26 σ M F W al a.tmps→lk t al=some (Abs.B b)→a.eval (.tmp t)=.bool b:=fun {al σ M F W a t b} A h=>by
  obtain ⟨v,g1,g2⟩:=A.2 t _ h
  have:=g2.cd
  subst this
  simp [Act.eval,g1]
 have O:nW P (fun _=>CY []):=fun _=>mR fun p hp=>by grind
 intro m
 induction m with
 | zero =>
  intro k it q F U W g hk s S Ol G A bw
  rw [roundsIn_succ]
  refine wpIn_seq (nH h1 fun ops hs u o=>?_)
  show wpOpsIn Fence.wide 0 P ops _ (List.range' 0 (Zg ti).length++[]) g W
  refine eo O o TE (fun j ao G=>by simp_all) ?_ ((R _).rel _ _ _ G) A
  refine cj.op (dN (v:=.bool (decide ((k:Int)<l.length))) rfl rfl rfl rfl (X _ _) rfl) iw rfl (cj.nil ?_)
  intro a1 W1 M1 F1 b0 R1 A1 E1
  obtain ⟨j1,_⟩:=(R it).step G (fun b c h=>by simp at h) E1 R1
  refine ⟨wpIn_seq (wpIn_cond_false (by rw [ev A1 rfl]; simp_all) (wpIn_exit ?_)),by simp⟩
  have b1:q=[]:=by
   have:l.drop k=[]:=yBn (by omega)
   rw [this] at s
   simpa [DX] using s.symm
  subst b1
  have af:it=r.length:=by
   have:=Gy List.length S
   grind
  show Exit.inBlock 0 (Dl J Jx r.length) (.exit 0) a1 W1
  simp only [Exit.inBlock,if_true]
  exact ⟨.inl rfl,by simp_all,_,_,.inl (by rw [←af]; exact j1)⟩
 | succ m ih =>
  intro k it q F U W g hk s S Ol G A bw
  have b2:k<l.length:=by omega
  have b3:l.drop k=l[k]::l.drop (k+1):=yBD b2
  rw [b3] at s
  generalize ha:l[k]=a at s
  rw [roundsIn_succ]
  refine wpIn_seq (nH h1 fun ops hs u o=>?_)
  show wpOpsIn Fence.wide 0 P ops _ (List.range' 0 (Zg ti).length++[]) g W
  refine eo O o TE (fun j ao G=>by simp_all) ?_ ((R _).rel _ _ _ G) A
  refine cj.op (dN (v:=.bool (decide ((k:Int)<l.length))) rfl rfl rfl rfl (X _ _) rfl) iw rfl (cj.nil ?_)
  intro a1 W1 M1 F1 b0 R1 A1 E1
  obtain ⟨j1,o1⟩:=(R it).step G (fun b c h=>by simp at h) E1 R1
  refine ⟨wpIn_seq (wpIn_cond_true (by rw [ev A1 rfl]; simp_all) (wpIn_skip ?_)),by simp⟩
  refine wpIn_seq (wpIn_block (wpIn_seq (nH bi fun ops hs u o=>?_)))
  show wpOpsIn Fence.wide 0 P ops _ (List.range' 0 (able2 (aw i) z).length++[]) a1 W1
  refine eo O o TE (fun j ao G=>by simp_all) ?_ R1 A1
  have b4:aB l (k:Int)=some a:=by
   unfold aB
   simp_all
  have E:((enc i a).map D.c).length=aw i:=by rw [xF,ry]
  have ak:uM (some (aw i)) ((enc i a).map D.c) 0=some (ST (enc i a)):=zj E
  have b5:(ST (enc i a)).cells? = some ((enc i a).map D.c):=by
   obtain ⟨h1,_⟩:=pZ (v:=.agg (exp i a)) (xs:=exp i a) (by grind [fe,exp,KY]) (dh.ED (.st i) a)
   rw [um] at h1
   exact h1
  have cm:put z 0 ((enc i a).map D.c)=(enc i a).map D.c:=by
   grind [put]
  refine cj.op (XA (l:=l) (f:=enc i) (k:=(k:Int)) rfl rfl b4 (ry i a)) iw rfl (cj.op (Eg rfl ak) iw rfl (cj.op (MU (d1:=.ptr 0 0 (aw i)) (by simp_all) rfl) iw rfl (cj.eff (EA (cs:=z) (xs:=(enc i a).map D.c) rfl (Ps rfl hz) rfl b5 ⟨E,by omega⟩ (show _=[Ob.cells ((enc i a).map D.c)] by simp_all)) iw rfl (cj.nil ?_))))
  intro a2 W2 M2 F2 co R2 A2 E2
  obtain ⟨b6,o2⟩:=(R it).step j1 o1 E2 R2
  refine ⟨wpIn_seq (able_r3 (k:=(k:Int)) (st:=st) (metf:=metf) (items:=r.map fun a=>[ST (enc i a)]) dC ax a0 aa hm R a6 ab a7 K bl R2 (A2.lks fun t d ht=>?_) (by simp_all) b6 o2 (fun L=>?_) fun b b7 c9=>?_),by simp⟩
  ·have:=nM ht
   simp only [m_,gn,Ly,Mg,aT] at this
   rcases this with ⟨rfl,rfl⟩ | ⟨rfl,rfl⟩ | ⟨rfl,rfl⟩ | ⟨rfl,rfl⟩ | ⟨rfl,rfl⟩ | ⟨rfl,rfl⟩ <;> rfl
  ·simp only [DX,L,yBV,if_true] at s
   cases b8:metf a l with
   | none=>simp_all
   | some b =>
    refine ⟨b,rfl,fun hb=>?_⟩
    rw [b8] at s
    simp only [Option.bind_some] at s
    obtain ⟨T,an,e⟩:=cF.1 s
    simp only [hb,if_true,au] at e
    have:r[it]? = some a:=by
     have:=Gy (fun l:List (TT i)=>l[0]?) S
     grind
    simp_all
  ·
   intro F' U' W' A' b' b9 AA cg
   rcases cg with ⟨rfl,N⟩ | ⟨rfl,N⟩
   ·
    refine wpIn_cond_false (ev AA rfl) (wpIn_skip ?_)
    show Exit.inBlock j2 (Exit.then (c4.wpIn Fence.wide 0 P _) _) .normal A' W'
    show c4.wpIn Fence.wide 0 P _ A' W'
    refine nH h4 fun ops hs u o=>?_
    show wpOpsIn Fence.wide 0 P ops _ (List.range' 0 (able4 ti).length++[]) A' W'
    refine eo O o TE (fun j ao G=>by rw [SV]; exact u j ao G) ?_ ((R _).rel _ _ _ N) AA
    have da:i64.wrap ((k:Int)+1)=(k:Int)+1:=by
     rw [IntKind.wrap_i64]; omega
    refine cj.op (dN (v:=.int .i64 (i64.wrap ((k:Int)+1))) rfl rfl rfl rfl (Z _) rfl) iw rfl (cj.op (zC rfl) iw rfl (cj.nil ?_))
    intro a5 W5 M5 F5 db R5 A5 E5
    obtain ⟨j5,_⟩:=(R _).step N (fun b c h=>by simp at h) E5 R5
    have A6:eT 26 [] (fun _=>none) F5 W5 (m_ i l (.func (.yield ly) #[] #[]) pv ((k+1:Nat):Int)) a5.tmps:=by
     refine A5.data fun t d ht=>?_
     have:=nM ht
     simp only [m_,gn,Ly,Mg,aT] at this
     rcases this with ⟨rfl,rfl⟩ | ⟨rfl,rfl⟩ | ⟨rfl,rfl⟩ | ⟨rfl,rfl⟩ | ⟨rfl,rfl⟩
     ·refine ⟨?_,rfl⟩
      show some (D.c (C.lit (.int .i64 (i64.wrap ((k:Int)+1)))))=_
      grind
     all_goals exact ⟨rfl,rfl⟩
    refine ⟨?_,by simp⟩
    show Code.roundsIn Fence.wide 0 P _ _ (m+1) a5 W5
    have ch:∃T,DX st (fun x=>metf x l) (l.drop (k+1))=some T∧r.drop (if b=true then it+1 else it)=T∧(if b=true then it+1 else it)≤r.length:=by
     by_cases L:st a=1
     ·simp only [DX,L,yBV,if_true] at s
      rw [b7 L] at s
      simp only [Option.bind_some] at s
      obtain ⟨T,an,e⟩:=cF.1 s
      refine ⟨T,an,?_⟩
      cases b with
      | true =>
       simp only [if_true,au] at e ⊢
       have h0:r.drop it=a::T:=by grind
       have av:it<r.length:=by
        grind
       refine ⟨?_,av⟩
       have:=Gy (List.drop 1) h0
       simpa using this
      | false =>
       grind
     ·have hf:(st a == 1)=false:=by grind
      simp only [DX,hf,bT,cn] at s
      grind
    grind
   ·
    refine wpIn_cond_true (ev AA rfl) (wpIn_ret ?_)
    show Dl J Jx r.length .ret A' W'
    exact ⟨.inr rfl,b9,_,_,.inr N⟩
theorem able_ok{g:Nat}{fn:Func}{met:TT i->List (TT i)->Option Bool}(dC:P.follows .mixedOrders=true)(hg:P.funcs[g]? = some fn)(s:iq P fn true=some (ableA (aw i) so ti tb gm z))(hm:bJ P gm ⟨[.st i,.c (.sl i)],[.c .bool],λa=>met a.1 a.2.1⟩)(hz:z.length=aw i)(aa:∀a,(enc i a)[so]? = some (.lit (.int .i64 (st a))))
  (ab:∀x y:Int,iu P .lss ti (.tmp 7) (.tmp 6) (.int .i64 x) (.int .i64 y)=some (.bool (decide (x<y))))
  (ad:∀x:Int,iu P .eql ti (.tmp 12) (.const (.int .i64 1)) (.int .i64 x) (.int .i64 1)=some (.bool (x == 1)))
  (A:∀x:Int,iu P .add ti (.tmp 7) (.const (.int .i64 1)) (.int .i64 x) (.int .i64 1)=some (.int .i64 (i64.wrap (x+1)))) (E:∀b:Bool,fx P (Op.unary .not (.bool b))=some (.bool (!b))) :
  XM P g ⟨[.c (.sl i)],[.c (.sl i)],λa=>Wi st (λx=>met x a.1) a.1⟩:=by
 intro l r hr;change Wi st (λx=>met x l) l=some r at hr;unfold Wi at hr;split at hr
 rotate_left
 ·grind
 rename_i k;have k:=CE k;unfold iq at s;split at s
 rotate_left
 ·grind
 rename_i c hb;split at s
 rotate_left
 ·grind
 rename_i ac rs af ak;simp only[ableA,au,kQ.mk.injEq] at s;obtain ⟨_,bd,rfl,rfl,_⟩:=s;intro ly B lb J Jx W F U X G o m h0;obtain ⟨K,an⟩:=o 0 F U W h0;have K:lb.size=1:=K;obtain ⟨pv,L⟩:∃pv,lb[0]? = some pv:=⟨_,rk (by omega)⟩;obtain ⟨c',av,be,T,hh,hl,hx⟩:=an 0 _ pv rfl L;refine callsIn_wide.1 (callsIn_of_wp_marks (F:=Fence.wide) (n:=0) hg hb trivial ?_ rfl);refine wpIn_mono (Q:=Dl J Jx r.length) ?_ λe a W' N=>?_
 rotate_left
 ·obtain ⟨he,hd,F',Z,ax⟩:=N;have R':Rel [] (λ_=>none) F' W':=ax.elim (λh=>(X _).rel _ _ _ h) λh=>G.rel _ _ _ h;have E':dx [] (λ_=>none) F' W' (List.replicate a.tmps.size D.any) a.tmps:=⟨by simp,λi d v g1 g2=>by
   have:d=.any:=by grind
   subst this;exact .any v⟩
  obtain ⟨v,hv,_⟩:=jg (P:=P) (a:=a) R' E' ak (ds:=[]) rfl;have fin:LeavesInM Fence.wide 0 P fn a.tmps (λe W'=>(∃v,e=.returned v)/\∃F' Z,J (r.map λa=>[ST (enc i a)]).length F' Z W'∨Jx F' Z W') a.defers .returning W':=by rw[hd];exact ⟨v,hv,⟨v,rfl⟩,F',Z,by simp_all⟩
  rcases he with rfl | rfl
  ·exact fin
  ·exact fin
 obtain ⟨c0,bh,rfl,a0,R⟩:=vS af;obtain ⟨j0,cl,rfl,bi,a2⟩:=Ht R;obtain ⟨cb,rfl,a5⟩:=Yv a2;have:j0=0:=by omega
 subst this;have O:nW P (λ_=>CY []):=λ_=>mR λp hp=>by grind
 have R0:=(X 0).rel _ _ _ h0;have A0:eT 26 [] (λ_=>none) F W [(0,.c (.lit (.func (.yield ly) #[] #[]))),(1,.c (.lit pv))] ((#[Value.func (.yield ly) #[] #[]]++lb)++Array.replicate (fn.ntmps-(#[Value.func (.yield ly) #[] #[]]++lb).size) undef):=by
  refine ⟨by simp_all,λt d ht=>?_⟩;have:=nM ht;simp only[gn,Ly,Mg,aT] at this;rcases this with ⟨rfl,rfl⟩ | ⟨rfl,rfl⟩
  ·refine ⟨_,?_,.c (.lit _)⟩
   simp_all
  ·refine ⟨pv,?_,.c (.lit _)⟩
   simp_all
 refine wpIn_seq (nH a0 λops hs q a6=>?_);obtain ⟨o0,a7,S⟩:=q 0 _ rfl;obtain ⟨v1,a8,a9⟩:=A0.2 1 _ rfl;have:=a9.cd;subst this;subst av;show wpOpsIn Fence.wide 0 P ops _ (0::(List.range' 1 2++[])) _ W;refine HP a7 S R0.gl A0.de.1 rfl a8 hh (by omega) (λu hu=>hx 0 _ u rfl hu) λv hv=>?_;have A1:=eT.put (a:={ tmps:=(#[Value.func (.yield ly) #[] #[]]++lb)++Array.replicate (fn.ntmps-(#[Value.func (.yield ly) #[] #[]]++lb).size) undef,defers:=[] }) A0 (t:=5) (d:=.c (.cD false (l.map (enc i)))) (by omega) (.c hv);refine eo (os:=[⟨some 6,.len (.t 5),none⟩,⟨some 7,.AB (.k (.c (.lit (.int .i64 0)))),none⟩]) O a6 TE (AZ q λj hj=>?_) ?_ R0 A1
 ·have:j=0∨j=1:=by simp at hj;omega
  rcases this with rfl | rfl <;> rfl
 refine cj.op (Wo (l:=l) (f:=enc i) rfl) iw rfl (cj.op (zC rfl) iw rfl (cj.nil ?_));intro a1 W1 M1 F1 bb R1 bc E1;obtain ⟨j1,_⟩:=(X 0).step h0 (λb c h=>by simp at h) E1 R1;refine ⟨?_,by simp⟩;show (Code.block 0 (Code.loop cb)).wpIn Fence.wide 0 P _ a1 W1;refine wpIn_block (wpIn_loop_rounds (l.length+1) (Lp (metf:=met) (hm:=hm) dC hz aa ab ad A E X G k o L m a5 l.length 0 0 r F1 _ W1 a1 (by omega) (by simp_all) rfl (N_ _) j1 (bc.data λt d ht=>?_) (by rw[bb];rfl)));have:=nM ht;simp only[m_,gn,Ly,Mg,aT] at this;rcases this with ⟨rfl,rfl⟩ | ⟨rfl,rfl⟩ | ⟨rfl,rfl⟩ | ⟨rfl,rfl⟩ | ⟨rfl,rfl⟩ <;> exact ⟨rfl,rfl⟩
end
end
end Go.Abs
end
section
set_option linter.unusedVariables false
set_option linter.unusedSimpArgs false
namespace Go.Abs
open Go.Proofs Go.Shelf Go.RowKit Go.Lib
variable[Gl]{P:Program}{ρ:Ren}
theorem Hp{w:World}{o:Obj}{r:Nat}(h:r<w.heap.size):(w.alloc o).heap[r]? = w.heap[r]?:=by
 show (w.heap.push o)[r]? = w.heap[r]?
 grind
theorem Lx{w:World}{b j:Nat}{arr:Array Value}{T:TypeId}(h:w.heap[b]? = some (.cells arr T (0,0))):w.cell? ⟨b,j,none⟩=arr[j]?:=by simp[World.cell?,h]
theorem Ry{w:World}{b j:Nat}{arr:Array Value}{T:TypeId}(h:w.heap[b]? = some (.cells arr T (0,0))):w.frozen? ⟨b,j,none⟩=false:=by simp[World.frozen?,h]
theorem Rw{w:World}{b:Nat}{arr:Array Value}{T:TypeId}(h:w.heap[b]? = some (.cells arr T (0,0))):w.shape? b=some (T,arr.size):=by simp[World.shape?,h]
theorem oR(w:World)(t y ty g:TypeId)(b o d k m so e p es:Nat)(arr q:Array Value)(T A:TypeId)(cs:List Value)
  (E:P.underlying t=some (.slice g)) (hs:∀w,(Go.sizeOf g).run P w=.ok es w) (G:cs.length=Nat.min e d * es) (K:w.heap[b]? = some (.cells arr T (0,0))) (r:w.heap[m]? = some (.cells q A (0,0)))
  (u:∀j v,cs[j]? = some v->q[so+j]? = some v) (x:o+cs.length<=arr.size) (L:∀v∈cs,v.oneCell'=true) :
  (Builtin.copy_ #[t,y] ty #[.slice (some ⟨b,o,none⟩) d k,.slice (some ⟨m,so,none⟩) e p]).run P w=.ok (goInt (Nat.min e d)) (cC w b (.cells (cM arr o cs) T (0,0))):=by
 have x:=run_loadCells_list (P:=P) w ⟨m,so,none⟩ cs (λj v h=>by rw[show (⟨m,so,none⟩:Addr).add j=⟨m,so+j,none⟩ from by simp[Addr.add],Lx r];simp_all);have s:=zej P T b cs o w arr K L (by omega);simp[Builtin.copy_,run_underlying E,Builtin.lenOf,Builtin.firstCells,hs,<-G,x,s]
structure Mw (P:Program) (ρ:Ren) (es by':Nat) (nm:String) (z:Value):Prop where
 mixed:P.follows .mixedOrders=true
 f22:P.funcs[ρ.f 22]? = some { Body2.n22 ρ with name:=nm }
 ov:∀args w,(callFunc (ρ.f 29) args).run P w=((Extern.SlicesOverlaps.overlaps #[ρ.t 24,ρ.t 24] #[ρ.t 4] args).run P w).andThen λv w'=>.ok (.value v) w'
 t0:P.underlying (ρ.t 0)=some (TypeDesc.tuple #[])
 t3:P.underlying (ρ.t 3)=some (TypeDesc.int IntKind.i64)
 t4:P.underlying (ρ.t 4)=some (TypeDesc.bool)
 a3:∀w,(isAgg (ρ.t 3)).run P w=.ok false w
 z3:∀w,(Go.sizeOf (ρ.t 3)).run P w=.ok 1 w
 a4:∀w,(isAgg (ρ.t 4)).run P w=.ok false w
 z4:∀w,(Go.sizeOf (ρ.t 4)).run P w=.ok 1 w
 z9:∀w,(Go.sizeOf (ρ.t 9)).run P w=.ok es w
 v9:∀w,(zeroValue (ρ.t 9)).run P w=.ok z w
 t24:P.underlying (ρ.t 24)=some (TypeDesc.slice (ρ.t 9))
 a24:∀w,(isAgg (ρ.t 24)).run P w=.ok false w
 z24:∀w,(Go.sizeOf (ρ.t 24)).run P w=.ok 1 w
 v24:∀w,(zeroValue (ρ.t 24)).run P w=.ok (Value.slice none 0 0) w
 i9:(P.info? (ρ.t 9)).map (λi=>(i.zero,i.size,i.bytes))=some (some z,es,by')
set_option maxHeartbeats 4000000 in
set_option maxRecDepth 100000 in
theorem Uc {es Z:Nat} {nm:String} {z:Value} (L:Mw P ρ es Z nm z) (b n c i k m s:Nat) (arr d:Array Value) (T S:TypeId) (w:World) (hi:i<n) (hm:0<m) (aa:0<es) (p:n+m≤c) (a9:n+m≤2000000)
  (U:w.heap[b]? = some (.cells arr T (0,0))) (X:w.heap[k]? = some (.cells d S (0,0))) (t:k≠b) (ab:c * es≤arr.size) (u:m * es≤d.size)
  (h1:∀j v,j<n * es→arr[j]? = some v→v.oneCell'=true) (x:∀j v,j<m * es→d[j]? = some v→v.oneCell'=true) :
  Calls P (ρ.f 22) #[.slice (some ⟨b,0,none⟩) n c,.int .i64 i,.slice (some ⟨k,0,none⟩) m s] w fun e w'=>
   e=.returned (.slice (some ⟨b,0,none⟩) (n+m) c)∧w'=cC (cC w.drew b (.cells (cM arr ((i+m) * es) ((arr.toList.take (n * es)).drop (i * es))) T (0,0))) b (.cells (cM (cM arr ((i+m) * es) ((arr.toList.take (n * es)).drop (i * es))) (i * es) (d.toList.take (m * es))) T (0,0)):=by
 have t0:=L.t0; have t3:=L.t3; have t4:=L.t4; have bb:=L.t24; have a3:=L.a3; have z3:=L.z3; have a4:=L.a4; have z4:=L.z4; have z9:=L.z9; have v9:=L.v9; have bc:=L.a24; have bd:=L.z24; have be:=L.v24
 have u0:=run_underlying L.t0; have u3:=run_underlying L.t3; have u4:=run_underlying L.t4; have bh:=run_underlying L.t24
 have ad:=L.mixed
 have bi:¬((m:Int)=0):=by omega
 have bk:¬((i:Int)=(n:Int)):=by omega
 have bl:i64.wrap ((i:Int)+(m:Int))=(i:Int)+(m:Int):=by rw [IntKind.wrap_i64]; omega
 have bt:(0:Int)≤(i:Int)+(m:Int):=by omega
 have af:i≤n:=by omega
 have bu:((i:Int)+(m:Int)).toNat=i+m:=by omega
 have bv:¬(c=i+m):=by omega
 have bw:(i:Int)≤(n:Int)+(m:Int):=by omega
 have b0:¬(c=i):=by omega
 have ak:n * es≤c * es:=Gk _ (by omega)
 have an:(n+m) * es≤c * es:=Gk _ p
 have av:(n+m) * es=n * es+m * es:=Lr ..
 have ax:(i+m) * es=i * es+m * es:=Lr ..
 have a0:i * es≤n * es:=Gk _ af
 have a1:(n-i) * es=n * es-i * es:=Nat.sub_mul ..
 have a2:0<m * es:=Nat.mul_pos hm aa
 have a5:∀lb cb,(callFunc (ρ.f 29) #[.slice (some ⟨k,0,none⟩) m s,.slice (some ⟨b,(i+m) * es,none⟩) lb cb]).run P w=.ok (.value (.bool false)) w:=fun lb cb=>by
  rw [L.ov,Lib.run_overlaps_apart w (ρ.t 24) (ρ.t 4) (ρ.t 9) L.t24 es L.z9 ⟨k,0,none⟩ ⟨b,(i+m) * es,none⟩ m s lb cb t S T d.size arr.size (Rw X) (Rw U) (by omega) (Ry X) (Ry X)]
  rfl
 obtain ⟨h,y⟩:∃h,h=(arr.toList.take (n * es)).drop (i * es):=⟨_,rfl⟩
 obtain ⟨A,E⟩:∃A,A=d.toList.take (m * es):=⟨_,rfl⟩
 have a6:h.length=(n-i) * es:=by grind
 have a7:A.length=m * es:=by simp_all
 rw [←y,←E]
 have o:∀ty q sc,(Builtin.copy_ #[(ρ.t 24),(ρ.t 24)] ty #[.slice (some ⟨b,(i+m) * es,none⟩) (n+m-(i+m)) q,.slice (some ⟨b,i * es,none⟩) (n+m-i) sc]).run P w.drew=.ok (goInt (Nat.min (n+m-i) (n+m-(i+m)))) (cC w.drew b (.cells (cM arr ((i+m) * es) h) T (0,0))):=fun ty q sc=>
  oR w.drew _ _ ty (ρ.t 9) b ((i+m) * es) (n+m-(i+m)) q b (i * es) (n+m-i) sc es arr arr T T h L.t24 L.z9 (by grind) U U
   (fun j v G=>by
    grind) (by omega)
   (fun v g=>by
    rw [y] at g
    obtain ⟨j,G,e⟩:=ky (yBh g)
    simp only [Cs,Array.length_toList] at G
    exact h1 j v (by omega) (by grind))
 obtain ⟨K,r⟩:∃K,K=cC w.drew b (.cells (cM arr ((i+m) * es) h) T (0,0)):=⟨_,rfl⟩
 have a8:b<w.heap.size:=(BI.1 U).1
 have N:K.heap[b]? = some (.cells (cM arr ((i+m) * es) h) T (0,0)):=by rw [r]; exact eL a8
 have O:K.heap[k]? = some (.cells d S (0,0)):=by rw [r,fK t]; exact X
 have R:∀(W:World),W.heap=K.heap→∀ty q,(Builtin.copy_ #[(ρ.t 24),(ρ.t 24)] ty #[.slice (some ⟨b,i * es,none⟩) (n+m-i) q,.slice (some ⟨k,0,none⟩) m s]).run P W=.ok (goInt (Nat.min m (n+m-i))) (cC W b (.cells (cM (cM arr ((i+m) * es) h) (i * es) A) T (0,0))):=fun W hW ty q=>
  oR W _ _ ty (ρ.t 9) b (i * es) (n+m-i) q k 0 m s es (cM arr ((i+m) * es) h) d T S A L.t24 L.z9 (by grind) (by simp_all) (by simp_all)
   (fun j v G=>by
    grind) (by grind [UN])
   (fun v g=>by
    rw [E] at g
    obtain ⟨j,G,e⟩:=ky g
    simp only [Cs,Array.length_toList] at G
    exact x j v (by omega) (by grind))
 rw [←r] at o ⊢
 clear ak an av ax a0 a1 a2 N O ab u h1 x a6 a7
 go_enter L.f22,Body2.n22_ntmps ρ
 go_wp2_with (simp only [a5])
 go_region_law_o (refine step_copy_runI rfl _ _ (ρ.t 24) (ρ.t 24) rfl _ _ (by simp [Act.eval,Act.put]) (by simp [Act.eval,Act.put]) (o _ _ _) ?_)
 go_wp2_with (at_builtin; refine wpList_copy_runI _ rfl _ _ (ρ.t 24) (ρ.t 24) rfl _ _ rfl rfl (R _ rfl _ _) ?_)
 go_ret
 simp_all
set_option maxHeartbeats 4000000 in
set_option maxRecDepth 100000 in
theorem Wa {es y:Nat} {nm:String} {z:Value} (L:Mw P ρ es y nm z) (b n c i x m vc:Nat) (arr g:Array Value) (T Tv:TypeId) (w:World) (hi:i<n) (hm:0<m) (bu:0<es) (bv:n≤c) (t:c<n+m) (p:(n+m) * y≤140737488355328) (bw:n+m≤2000000) (b0:z.cells.size=es)
  (hh:w.heap[b]? = some (.cells arr T (0,0))) (hv:w.heap[x]? = some (.cells g Tv (0,0))) (af:c * es≤arr.size) (A:m * es≤g.size)
  (h1:∀j v,j<n * es→arr[j]? = some v→v.oneCell'=true) (ak:∀j v,j<m * es→g[j]? = some v→v.oneCell'=true) :
  Calls P (ρ.f 22) #[.slice (some ⟨b,0,none⟩) n c,.int .i64 i,.slice (some ⟨x,0,none⟩) m vc] w fun e w'=>∃G d,n+m≤G∧d.size=G * es∧(∀j,j<i * es→d[j]? = arr[j]?) ∧
   e=.returned (.slice (some ⟨w.heap.size,0,none⟩) (n+m) G)∧w'=cC (cC (w.alloc (.cells d (ρ.t 9))).drew w.heap.size (.cells (cM d (i * es) (g.toList.take (m * es))) (ρ.t 9) (0,0))).drew w.heap.size (.cells (cM (cM d (i * es) (g.toList.take (m * es))) ((i+m) * es) ((arr.toList.take (n * es)).drop (i * es))) (ρ.t 9) (0,0)):=by
 have t0:=L.t0; have t3:=L.t3; have t4:=L.t4; have b1:=L.t24; have a3:=L.a3; have z3:=L.z3; have a4:=L.a4; have z4:=L.z4; have z9:=L.z9; have v9:=L.v9; have b2:=L.a24; have b3:=L.z24; have b4:=L.v24
 have u0:=run_underlying L.t0; have u3:=run_underlying L.t3; have u4:=run_underlying L.t4; have b5:=run_underlying L.t24
 have an:=L.mixed
 obtain ⟨i0,av,ax,E,K⟩:=info_parts L.i9
 have b6:¬((m:Int)=0):=by omega
 have b7:¬((i:Int)=(n:Int)):=by omega
 have b8:(c:Int)<(n:Int)+(m:Int):=by omega
 have b9:i64.wrap ((i:Int)+(m:Int))=(i:Int)+(m:Int):=by rw [IntKind.wrap_i64]; omega
 have cg:(0:Int)≤(i:Int)+(m:Int):=by omega
 have a0:i≤n:=by omega
 have ch:((i:Int)+(m:Int)).toNat=i+m:=by omega
 have ck:(i:Int)≤(n:Int):=by omega
 have a1:(n:Int)+(m:Int)-(i:Int)=((n+m-i:Nat):Int):=by omega
 have N:i+(n+m-i)=n+m:=by omega
 have a2:n * es≤c * es:=Gk _ (by omega)
 have a5:(n+m) * es=n * es+m * es:=Lr ..
 have a6:(i+m) * es=i * es+m * es:=Lr ..
 have a7:i * es≤n * es:=Gk _ a0
 have a8:(n-i) * es=n * es-i * es:=Nat.sub_mul ..
 have a9:(n+m-i) * es=(n+m) * es-i * es:=Nat.sub_mul ..
 obtain ⟨G,hG⟩:∃G,G=grownCap w (n+m) c (ρ.t 9):=⟨_,rfl⟩
 have O:n+m≤G:=by grind [Go.grownCap_ge]
 have bb:(n+m) * es≤G * es:=Gk _ O
 have R:(G-(n+m)) * es=G * es-(n+m) * es:=Nat.sub_mul ..
 have q:(Builtin.firstCells i0.size i (.slice (some ⟨b,0,none⟩) i c)).run P w.drew=.ok (arr.toList.take (i * es)).toArray w.drew:=by
  rw [E]
  have hl:=run_loadCells_list (P:=P) w.drew ⟨b,0,none⟩ (arr.toList.take (i * es)) (fun j v h=>by
   grind [Go.Addr.add_lit,Lx,Go.World.drew])
  rw [show (arr.toList.take (i * es)).length=i * es from by grind] at hl
  exact hl
 obtain ⟨d,S⟩:∃d:Array Value,d=(arr.toList.take (i * es)).toArray++Builtin.zeroCells z.cells (n+m-i)++Builtin.zeroCells z.cells (G-(n+m)):=⟨_,rfl⟩
 have bc:d.size=G * es:=by
  grind [gO]
 have bd:∀j,j<i * es→d[j]? = arr[j]?:=fun j hj=>by
  grind
 have be:∀ty,(Builtin.append_ #[(ρ.t 24),(ρ.t 3)] ty #[.slice (some ⟨b,0,none⟩) i c,.int .i64 ((n:Int)+(m:Int)-(i:Int))]).run P w =
   .ok (.slice (some ⟨w.heap.size,0,none⟩) (n+m) G) (w.drew.alloc (.cells d (ρ.t 9))):=fun ty=>by
  have h:=Lib.run_append_grow_zeros w (ρ.t 24) (ρ.t 3) ty (ρ.t 9) i0 _ .i64 .i64 L.t24 L.t3 av ax (some ⟨b,0,none⟩) i c (arr.toList.take (i * es)) q (n+m-i) (by omega) (by omega) (by omega) (by omega)
   (by rw [K]; exact lQ (Gk _ (by omega)) (lQ p (by omega))) (by rw [K,N]; exact growslice_fits t p)
  simp_all
 obtain ⟨U,X⟩:∃U,U=(arr.toList.take (n * es)).drop (i * es):=⟨_,rfl⟩
 obtain ⟨k,Z⟩:∃k,k=g.toList.take (m * es):=⟨_,rfl⟩
 have bh:U.length=(n-i) * es:=by grind
 have bi:k.length=m * es:=by simp_all
 have aa:b<w.heap.size:=(BI.1 hh).1
 have ab:x<w.heap.size:=(BI.1 hv).1
 obtain ⟨r,o⟩:∃r,r=(w.alloc (.cells d (ρ.t 9))).drew:=⟨_,rfl⟩
 have q1:r.heap[w.heap.size]? = some (.cells d (ρ.t 9) (0,0)):=by rw [o]; exact heap_alloc_new w _
 have q2:r.heap[x]? = some (.cells g Tv (0,0)):=by rw [o]; exact (Hp ab).trans hv
 have q3:r.heap[b]? = some (.cells arr T (0,0)):=by rw [o]; exact (Hp aa).trans hh
 have q4:w.heap.size<r.heap.size:=(BI.1 q1).1
 have ad:∀(W:World),W.heap=r.heap→∀ty u,(Builtin.copy_ #[(ρ.t 24),(ρ.t 24)] ty #[.slice (some ⟨w.heap.size,i * es,none⟩) (n+m-i) u,.slice (some ⟨x,0,none⟩) m vc]).run P W=.ok (goInt (Nat.min m (n+m-i))) (cC W w.heap.size (.cells (cM d (i * es) k) (ρ.t 9) (0,0))):=fun W hW ty u=>
  oR W _ _ ty (ρ.t 9) w.heap.size (i * es) (n+m-i) u x 0 m vc es d g (ρ.t 9) Tv k L.t24 L.z9 (by grind) (by simp_all) (by simp_all)
   (fun j v hj=>by
    grind) (by omega)
   (fun v bk=>by
    grind [List.getElem_of_mem])
 have s:∀(W:World),W.heap=(cC r w.heap.size (.cells (cM d (i * es) k) (ρ.t 9) (0,0))).heap→∀ty u sc,(Builtin.copy_ #[(ρ.t 24),(ρ.t 24)] ty #[.slice (some ⟨w.heap.size,(i+m) * es,none⟩) (n+m-(i+m)) u,.slice (some ⟨b,i * es,none⟩) (n-i) sc]).run P W=.ok (goInt (Nat.min (n-i) (n+m-(i+m)))) (cC W w.heap.size (.cells (cM (cM d (i * es) k) ((i+m) * es) U) (ρ.t 9) (0,0))):=fun W hW ty u sc=>
  oR W _ _ ty (ρ.t 9) w.heap.size ((i+m) * es) (n+m-(i+m)) u b (i * es) (n-i) sc es (cM d (i * es) k) arr (ρ.t 9) T U L.t24 L.z9 (by grind) (by grind [eL]) (by grind [fK])
   (fun j v hj=>by
    grind) (by grind [UN])
   (fun v bk=>by
    grind [List.getElem_of_mem])
 have bl:G≤9223372036854775807:=by
  grind [Go.grownCap_le_maxLen,Go.maxLen]
 have cm:¬(G=i):=by omega
 have bt:¬(G=i+m):=by omega
 have co:¬(c=i):=by omega
 rw [←X,←Z]
 clear a2 a5 a6 a7 a8 a9 bb R q1 q2 q3 q4 af A h1 ak bh bi a1 N q S hG aa ab X Z
 subst o
 have hF:((cC (w.alloc (.cells d (ρ.t 9))).drew w.heap.size (.cells (cM d (i * es) k) (ρ.t 9) (0,0))).drew).heap=(cC (w.alloc (.cells d (ρ.t 9))).drew w.heap.size (.cells (cM d (i * es) k) (ρ.t 9) (0,0))).heap:=rfl
 go_enter L.f22,Body2.n22_ntmps ρ
 go_wp2_with (first
  | (at_builtin; refine Lib.wpList_append_run _ rfl _ _ _ _ rfl _ _ rfl rfl _ _ (be _) ?_)
  | (at_builtin; refine wpList_copy_runI _ rfl _ _ (ρ.t 24) (ρ.t 24) rfl _ _ rfl rfl (ad _ rfl _ _) ?_)
  | (at_builtin; refine wpList_copy_runI _ rfl _ _ (ρ.t 24) (ρ.t 24) rfl _ _ rfl rfl (s _ rfl _ _ _) ?_))
 go_region_law_o (refine step_copy_runI rfl _ _ (ρ.t 24) (ρ.t 24) rfl _ _ (by simp [Act.eval,Act.put]) (by simp [Act.eval,Act.put]) (s _ hF _ _ _) ?_)
 go_wp2
 go_ret
 exact ⟨G,d,O,bc,bd,rfl,rfl⟩
end Go.Abs
end
section
namespace Go.Abs
open Go.Proofs Go.Shelf
noncomputable section
section
variable[Gl]{P:Program}{ρ:Ren}{σ:ar}{M:Nat->Option Nat}{Fz:Nat->Prop}{w:World}
theorem Tn{g q:Array Value}{n m k es:Nat}{arr:Array Value}{e o:List D}(hk:k<=n)(s:e.length=n * es)(p:o.length=m * es)
  (y:∀j,j<k * es->arr[j]? = g[j]?) (t:∀j,j<m * es->arr[k * es+j]? = q[j]?) (u:∀j,k * es<=j->j<n * es->arr[j+m * es]? = g[j]?)
  (Q:D->Value->Prop) (A:∀(i:Nat) d v,e[i]? = some d->g[i]? = some v->Q d v) (E:∀(i:Nat) d v,o[i]? = some d->q[i]? = some v->Q d v) :
  ∀(i:Nat) d v,(e.take (k * es)++o++e.drop (k * es))[i]? = some d->arr[i]? = some v->Q d v:=λi d v hd G=>by
 have K:k * es<=n * es:=Gk _ hk;have r:(e.take (k * es)).length=k * es:=by simp_all
 by_cases h:i<k * es
 ·grind
 ·by_cases L:i<k * es+m * es
  ·rw[HE (by simp_all),NZ (by omega),r] at hd;have:=t (i-k * es) (by omega)
   grind
  ·rw[NZ (by simp_all),yBB] at hd;simp only[AG,r,p] at hd;have x:=(gh.1 hd).1;have:=u (k * es+(i-(k * es+m * es))) (by omega) (by omega)
   grind
theorem Qc{c:Nat}{o o':Obj}:(cC (cC w c o) c o').heap=(cC w c o').heap:=by
 simp only[cC]
 simp_all
theorem QC{o o':Obj}:(cC (w.alloc o) w.heap.size o').heap=(w.alloc o').heap:=by
 show (w.heap.push o).setIfInBounds w.heap.size o'=w.heap.push o'
 grind
end
section
variable[Gl][Y:Ty]{P:Program}{ρ:Ren}{α:Type}{f:α->List C}{es:Nat}
theorem Ym(d:∀a,(f a).length=es){l v:List α}{k:Nat}(hk:k<=l.length):((l.take k++v++l.drop k).flatMap f).map D.c=((l.flatMap f).map D.c).take (k * es)++(v.flatMap f).map D.c++((l.flatMap f).map D.c).drop (k * es):=by
 have e:(l.flatMap f).map D.c=((l.take k).flatMap f).map D.c++((l.drop k).flatMap f).map D.c:=by grind [List.take_append_drop]
 grind [dZ,List.length_take]
theorem Qv{ax:Nat}{nm:String}{z:Value}(L:Mw P ρ es ax nm z)(bc:z.cells.size=es)(Z:0<es)(bd:ax<=1000)(hf:∀a,(f a).length=es){l v:List α}{k:Nat}(hk:k<l.length)(hm:0<v.length)(a0:l.length+v.length<=1000000) :
  Ok P (ρ.f 22) [OS es 0 l.length,.c (.lit (.int .i64 (k:Int))),OS es 1 v.length] [OB f l,OB f v] (OS es 0 (l.take k++v++l.drop k).length) [OB f (l.take k++v++l.drop k),OB f v]:=by
 intro M Fz w vs R hs hv;have be:vs.size=3:=hs;obtain ⟨v0,v1,v2,rfl⟩:∃v0 v1 v2,vs=#[v0,v1,v2]:=by
  obtain ⟨xs⟩:=vs
  match xs,be with
  |[a,b,c],_=>simp_all
 have g0:=hv 0 _ v0 rfl rfl;have g1:=(hv 1 _ v1 rfl rfl).cd;have g2:=hv 2 _ v2 rfl rfl;subst g1;have u:([OB f l,OB f v]:ar)[0]? = some (.cells ((l.flatMap f).map D.c)):=rfl;have a1:([OB f l,OB f v]:ar)[1]? = some (.cells ((v.flatMap f).map D.c)):=rfl;have L0:((l.flatMap f).map D.c).length=l.length * es:=by rw[xF,dZ hf]
 have L1:((v.flatMap f).map D.c).length=v.length * es:=by rw[xF,dZ hf]
 have nn:(l.take k++v++l.drop k).length=l.length+v.length:=by grind
 have b2:k * es<l.length * es:=yBO hk Z;have b3:(l.length+v.length) * es=l.length * es+v.length * es:=Lr ..;have b4:0<v.length * es:=Nat.mul_pos hm Z;have b5:(k+v.length) * es=k * es+v.length * es:=Lr ..;rcases g0.fh (Ps u L0) with ⟨_,e,_⟩ | ⟨c,o,cap,m,T,hM,rfl,⟨bh,b6⟩,ho,hh,b1,_⟩
 ·omega
 rcases g2.fh (Ps a1 L1) with ⟨_,e,_⟩ | ⟨cv,ov,ab,p,Tv,a2,rfl,⟨b7,b8⟩,b9,af,bi,_⟩
 ·omega
 have cg:∀x y:Nat,0<x->x<=y->y≠0:=λx y h h'=>by omega
 obtain rfl:o=0:=by omega
 obtain rfl:ov=0:=by omega
 obtain ⟨N,T',ak,_,a5⟩:=R.row hM u;rw[hh] at ak;simp only[au,Obj.cells.injEq,KI] at ak;obtain ⟨rfl,rfl⟩:=ak;obtain ⟨bk,ch,O,_,a6⟩:=R.row a2 a1;rw[af] at O;simp only[au,Obj.cells.injEq,KI] at O;obtain ⟨rfl,rfl⟩:=O;have bl:cv≠c:=λe=>by have:=R.inj 1 0 c (e▸a2) hM;omega
 have o1:∀j x,j<l.length * es->m[j]? = some x->x.oneCell'=true:=λj x hj hx=>by grind
 have o2:∀j x,j<v.length * es->p[j]? = some x->x.oneCell'=true:=λj x hj hx=>by grind
 have S:cap * es<=m.size:=by omega
 have t:v.length * es<=p.size:=by omega
 have hS:=λh:l.length+v.length<=cap=>Uc L c l.length cap k cv v.length ab m p T Tv w hk hm Z h (by omega) hh af bl S t o1 o2;have hG:=λh:cap<l.length+v.length=>Wa L c l.length cap k cv v.length ab m p T Tv w hk hm Z bh h (lQ (yCj a0 bd) (by omega)) (by omega) bc hh af S t o1 o2;have a7:((m.toList.take (l.length * es)).drop (k * es)).length=l.length * es-k * es:=by grind
 have a8:(p.toList.take (v.length * es)).length=v.length * es:=by grind
 have ck:∀j,k * es<=j->j<l.length * es->((m.toList.take (l.length * es)).drop (k * es))[j-k * es]? = m[j]?:=λj h h'=>by rw[yBB,show k * es+(j-k * es)=j by omega,List.getElem?_take,if_pos h'];simp
 have cm:∀j,j<v.length * es->(p.toList.take (v.length * es))[j]? = p[j]?:=λj h=>by grind
 generalize (m.toList.take (l.length * es)).drop (k * es)=CS at *;generalize p.toList.take (v.length * es)=VS at *;have fin:=Ym hf (l:=l) (v:=v) (k:=k) (by omega);have Lf:(((l.take k++v++l.drop k).flatMap f).map D.c).length=(l.length+v.length) * es:=by grind
 have R1:Rel [OB f l,OB f v] M Fz w.drew:=R.heap rfl ⟨rfl,rfl,rfl⟩;have E1:bD [OB f l,OB f v] M Fz w [OB f l,OB f v] M Fz w.drew:=bD.heap R rfl ⟨rfl,rfl,rfl⟩;have bt:c<w.heap.size:=(BI.1 hh).1;have row:∀(A:Array Value)(M':Nat->Option Nat)(w':World),bD [OB f l,OB f v] M Fz w [OB f (l.take k++v++l.drop k),OB f v] M' Fz w'->(∀j,j<k * es->A[j]? = m[j]?)->(∀j,j<v.length * es->A[k * es+j]? = p[j]?)->(∀j,k * es<=j->j<l.length * es->A[j+v.length * es]? = m[j]?) ->
   ∀(i:Nat) d x,(((l.take k++v++l.drop k).flatMap f).map D.c)[i]? = some d->A[i]? = some x->V [OB f (l.take k++v++l.drop k),OB f v] M' Fz w' d x/\x.oneCell'=true:=λA M' w' E hA hB hC=>by
  rw[fin];exact Tn (by omega) L0 L1 hA hB hC (λd x=>V [OB f (l.take k++v++l.drop k),OB f v] M' Fz w' d x/\x.oneCell'=true) (λi d x h1 h2=>⟨(a5 i d x h1 h2).1.mono E,(a5 i d x h1 h2).2⟩) (λi d x h1 h2=>⟨(a6 i d x h1 h2).1.mono E,(a6 i d x h1 h2).2⟩)
 have aa:(Ob.cells ((l.flatMap f).map D.c)).sz<(OB f (l.take k++v++l.drop k)).sz:=by show ((l.flatMap f).map D.c).length<(((l.take k++v++l.drop k).flatMap f).map D.c).length;omega
 by_cases r:l.length+v.length<=cap
 ·refine (hS r).mono λe w' he=>?_;obtain ⟨rfl,rfl⟩:=he;have bu:(l.length+v.length) * es<=cap * es:=Gk _ r;generalize an:cM m ((k+v.length) * es) CS=K;have bv:K.size=m.size:=by grind [UN]
  generalize av:cM K (k * es) VS=q;have bw:q.size=m.size:=by grind [UN]
  rw[HK];have ad:∀U T1 fr,Obj.cells m T (0,0)=.cells U T1 fr->∃N,Obj.cells q T (0,0)=.cells N T1 fr/\N.size=U.size:=λU T1 fr h=>by grind
  have EV:=bD.su (ob':=OB f (l.take k++v++l.drop k)) R1 hM u hh (yCb aa) ad;have a9:=E1.trans EV (cU _);have g:∀j,q[j]? = if k * es<=j/\j<k * es+v.length * es then VS[j-k * es]? else K[j]?:=λj=>by rw[<-av,cy (by omega),a8]
  have g':∀j,K[j]? = if (k+v.length) * es<=j/\j<(k+v.length) * es+(l.length * es-k * es) then CS[j-(k+v.length) * es]? else m[j]?:=λj=>by rw[<-an,cy (by omega),a7]
  have hr:=row q M _ a9 (λj hj=>by rw[g,if_neg (by omega),g',if_neg (by omega)]) (λj hj=>by rw[g,if_pos (by omega),yB5];grind)
   (λj h h'=>by rw[g,if_neg (by omega),g',if_pos (by omega),show j+v.length * es-(k+v.length) * es=j-k * es by omega];grind)
  refine ⟨_,M,Fz,rfl,R1.su hM u hh (yCb aa) ad ⟨q,T,rfl,by omega,hr⟩,?_,a9⟩;rw[nn];refine .sl _ _ _ (by simp) (OB f (l.take k++v++l.drop k)) rfl (by show _<=(((l.take k++v++l.drop k).flatMap f).map D.c).length;omega) (λ_=>.inr ⟨c,0,q,T,hM,rfl,rfl,⟨r,by omega⟩,.inl rfl,eL bt,by omega,by omega⟩)
 ·refine (hG (by omega)).mono λe w' he=>?_;obtain ⟨G,s,bb,co,b0,rfl,rfl⟩:=he;have bu:(l.length+v.length) * es<=G * es:=Gk _ bb;generalize an:cM s (k * es) VS=K;have bv:K.size=s.size:=by grind [UN]
  generalize av:cM K ((k+v.length) * es) CS=q;have bw:q.size=s.size:=by grind [UN]
  have EV:=bD.move (o':=.cells q (ρ.t 9)) (ob':=OB f (l.take k++v++l.drop k)) R u aa;have X:(cC (cC (w.alloc (.cells s (ρ.t 9))).drew w.heap.size (.cells K (ρ.t 9) (0,0))).drew w.heap.size (.cells q (ρ.t 9) (0,0))).heap=(w.alloc (.cells q (ρ.t 9))).heap:=by have e1:(cC (cC (w.alloc (.cells s (ρ.t 9))).drew w.heap.size (.cells K (ρ.t 9) (0,0))).drew w.heap.size (.cells q (ρ.t 9) (0,0))).heap=(cC (cC (w.alloc (.cells s (ρ.t 9))) w.heap.size (.cells K (ρ.t 9) (0,0))) w.heap.size (.cells q (ρ.t 9) (0,0))).heap:=rfl;rw[e1,Qc,QC]
  have g:∀j,q[j]? = if (k+v.length) * es<=j/\j<(k+v.length) * es+(l.length * es-k * es) then CS[j-(k+v.length) * es]? else K[j]?:=λj=>by rw[<-av,cy (by omega),a7]
  have g':∀j,K[j]? = if k * es<=j/\j<k * es+v.length * es then VS[j-k * es]? else s[j]?:=λj=>by rw[<-an,cy (by omega),a8]
  have hr:=row q _ _ EV (λj hj=>by rw[g,if_neg (by omega),g',if_neg (by omega),b0 j hj]) (λj hj=>by rw[g,if_neg (by omega),g',if_pos (by omega),yB5];grind)
   (λj h h'=>by rw[g,if_pos (by omega),show j+v.length * es-(k+v.length) * es=j-k * es by omega];grind)
  have RM:=R.move (o':=.cells q (ρ.t 9)) (ob':=OB f (l.take k++v++l.drop k)) u aa ⟨q,ρ.t 9,rfl,by omega,hr⟩;have cp:(w.alloc (.cells q (ρ.t 9))).os=w.os/\(w.alloc (.cells q (ρ.t 9))).tape=w.tape/\(w.alloc (.cells q (ρ.t 9))).output=w.output:=⟨rfl,rfl,rfl⟩;have RF:=RM.heap X ⟨rfl,rfl,rfl⟩;have EF:=EV.trans (bD.heap RM X ⟨rfl,rfl,rfl⟩) (cU _);refine ⟨_,_,Fz,rfl,RF,?_,?_⟩
  rotate_left
  ·exact EF
  rw[nn];refine .sl _ _ _ (by simp) (OB f (l.take k++v++l.drop k)) rfl (by show _<=(((l.take k++v++l.drop k).flatMap f).map D.c).length;omega) (λ_=>.inr ⟨w.heap.size,0,q,ρ.t 9,by simp[wT],rfl,rfl,⟨bb,by omega⟩,.inl rfl,?_,by omega,by omega⟩)
  grind [Go.heap_alloc_new]
end
end
end Go.Abs
end
section
namespace Go.Abs
open Go.Proofs Go.Shelf
noncomputable section
variable[Gl][Y:Ty]
def NA{α:Type}(l v:List α)(k:Int):Option (List α):=if 0<=k/\k<l.length/\0<v.length/\l.length+v.length<=1000000 then some (l.take k.toNat++v++l.drop k.toNat) else none
def orE{α:Type}(a b:Option α):Option α:=match a with | some x=>some x | none=>b
theorem cR.or {P:Program} {g:FuncId} {o:CT} {s:List CT} {f1 f2:dB o.items→Option (qc s)} (u:cR P g ⟨o,s,f1⟩) (U:cR P g ⟨o,s,f2⟩):cR P g ⟨o,s,fun x=>orE (f1 x) (f2 x)⟩:=
 ⟨u.1,fun x y A σ E z G K j O hs R=>by
  change orE (f1 x) (f2 x)=some y at j
  cases h:f1 x with
  | some X =>
   rw [h] at j
   exact u.2 x y A σ E z G K (by rw [←j]; exact h) O hs R
  | none =>
   rw [h] at j
   exact U.2 x y A σ E z G K j O hs R⟩
theorem HN{P:Program}{ρ:Ren}{ii es j:Nat}{A:String}{z:Value}(L:Mw P ρ es j A z)(p:Nat.beq es (aw ii)=true)(E:aS P (ρ.f 22)=true)(q:Nat.beq z.cells.size es=true)(r:Nat.blt 0 es=true)(s:Nat.ble j 1000=true) :
  cR P (ρ.f 22) ⟨.mk [.p (.hd 0),.v (.c (.int .i64)),.p (.hd 1)] [] [.row ii,.row ii] [] [] [],[.mk [.p (.hd 0)] [.w 0 ii] [] [] [] []],λx=>NA (α:=TT ii) x.1 x.2.1 x.2.2⟩:=by
 have:=cS p;subst this;refine ⟨E,λx y G σ S z K N g u d t=>?_⟩;dsimp only at g u d;change dB [It.ls ii,It.ls ii,It.cc (.int .i64)] at x;change dB [It.ls ii] at y;have m:some ([TV.c (.own ii 0 0 (List.length (α:=TT ii) x.1)),TV.c (.d (.c (.lit (.int .i64 x.2.2)))),TV.c (.own ii 1 0 (List.length (α:=TT ii) x.2.1))],[TB.row ii x.1 0 0,TB.row ii x.2.1 0 0])=some (G,σ):=by rw[<-u];have e:dL (CT.items (.mk [.p (.hd 0),.v (.c (.int .i64)),.p (.hd 1)] [] [.row ii,.row ii] [] [] [])) x=[⟨.ls ii,x.1⟩,⟨.ls ii,x.2.1⟩,⟨.cc (.int .i64),x.2.2⟩]:=rfl;unfold nI;rw[e];simp only[CT.pl,CT.nb,CT.out,ca,du,kH,yX,xc,FO,dS,dH,Ep,List.nil_append,List.getElem?_cons_zero,List.getElem?_cons_succ,qQ]
 simp only[au,aT] at m;obtain ⟨rfl,rfl⟩:=m;simp only[sS,au,Z_] at d;obtain ⟨rfl,rfl⟩:=d;have o:some ([TV.c (.own ii 0 1 (List.length (α:=TT ii) y))],[TB.row ii y 1 1,TB.row ii x.2.1 0 0])=some (K,N):=by rw[<-t];have e:dL (CT.items (.mk [.p (.hd 0)] [.w 0 ii] [] [] [] [])) y=[⟨.ls ii,y⟩]:=rfl;unfold nI;rw[e];simp only[CT.pl,CT.nb,CT.out,ca,du,kH,yX,xc,FO,dS,dH,Ep,List.cons_append,List.nil_append,List.getElem?_cons_zero,List.getElem?_cons_succ,List.set_cons_zero,yCm]
 simp only[au,aT] at o;obtain ⟨rfl,rfl⟩:=o;obtain ⟨l,v,k⟩:=x;change List (TT ii) at l;change List (TT ii) at v;change List (TT ii) at y;change Int at k;change NA l v k=some y at g;unfold NA at g;split at g
 ·rename_i h;simp only[au] at g;subst g;obtain ⟨T,U,O,R⟩:=h;have:=Qv L (cS q) (tL.mp r) (CE s) (ry ii) (l:=l) (v:=v) (k:=k.toNat) (by omega) O R;rw[show ((k.toNat:Nat):Int)=k by omega] at this;exact this
 ·simp at g
end
end Go.Abs
end
section
namespace Go.Abs
open Go.Proofs Go.Sort Go.RowKit
noncomputable section
structure O_ (P:Program) (g:FuncId):Prop where
 en:aS P g=true
 run:∀(blk off cap:Nat)(zs:List Int)(w:World),Holds encZ w blk off zs.toArray->blk<w.heap.size->zs.length<4611686018427387904->Calls P g #[.slice (some ⟨blk,off,none⟩) zs.length cap] w λe w'=>e=.returned (.tuple #[])/\∃n os,w'=grow (putRow encZ (Sort.ahead w n) blk off (zs.mergeSort λx y=>decide (x<=y)).toArray) os
 nil:∀(p:Option Addr)(cap:Nat)(w:World),Calls P g #[.slice p 0 cap] w λe w'=>e=.returned (.tuple #[])/\w'=w
structure Bk (P:Program) (g:FuncId):Prop where
 en:aS P g=true
 run:∀(blk off cap:Nat)(zs:List Int)(w:World),Holds encZ w blk off zs.toArray->zs.length<=9223372036854775807->zs.length<=cap->Calls P g #[.slice (some ⟨blk,off,none⟩) zs.length cap] w λe w'=>e=.returned (.slice (some ⟨blk,off,none⟩) (Lib.compact zs).length cap)/\∃q,w'=putRow encZ (Sort.ahead w q) blk off (Lib.compact zs++List.replicate (zs.length-(Lib.compact zs).length) 0).toArray
 nil:∀(a:Option Addr)(cap:Nat)(w:World),Calls P g #[.slice a 0 cap] w λe w'=>e=.returned (.slice a 0 cap)/\w'=w
def Qq(x:Int):List Int->List Int
 |[]=>[x]
 |y::l=>if x<=y then x::y::l else y::Qq x l
def Mr:List Int->List Int
 |[]=>[]
 |x::l=>Qq x (Mr l)
theorem BA(x:Int):∀l,(Qq x l).Perm (x::l)
 |[]=>.refl _
 |y :: l => by
  unfold Qq;split
  ·exact .refl _
  ·exact ((BA x l).cons y).trans (.swap ..)
theorem EN:∀l,(Mr l).Perm l
 |[]=>.refl _
 |x::l=>(BA x _).trans ((EN l).cons x)
theorem Cg(x:Int):∀{l:List Int},l.Pairwise (λa b=>decide (a<=b)=true)->(Qq x l).Pairwise λa b=>decide (a<=b)=true
 |[],_=>by simp[Qq]
 |y :: l, h => by
  have e:=yBl.1 h;unfold Qq;split
  ·rename_i c;refine yBl.2 ⟨λa d=>?_,h⟩;rcases gn.1 d with rfl | d
   ·simpa using c
   ·have:=e.1 a d;simp at this ⊢;omega
  ·rename_i c;refine yBl.2 ⟨λa d=>?_,Cg x e.2⟩;rcases gn.1 ((BA x l).mem_iff.1 d) with rfl | d
   ·simp;omega
   ·exact e.1 a d
theorem ze:∀l,(Mr l).Pairwise λa b=>decide (a<=b)=true
 |[]=>.nil
 |x::l=>Cg x (ze l)
theorem Nw(l:List Int):Mr l=l.mergeSort λx y=>decide (x<=y):=
 (List.mergeSort_of_pairwise (ze l)).symm.trans (Go.mergeSort_of_perm_i (EN l))
def KH{α:Type}(d:α->Int)(c:Int->α)(l:List α):Option (List α):=if l.length<=1000000 then some ((Mr (l.map d)).map c) else none
def Lm{α:Type}(d:α->Int)(c:Int->α)(l:List α):Option (List α×List α):=if l.length<=1000000 then some (l++[c 0],(Lib.compact (l.map d)).map c) else none
abbrev dI(k:Int):D:=.c (.lit (.int .i64 k))
variable[Gl]
theorem SN{σ:ar}{M:Nat->Option Nat}{Fz:Nat->Prop}{w:World}(R:Rel σ M Fz w){b c n:Nat}{os:Array Obj}{arr:Array Value}{T:TypeId}(x:M b=some c){zs e:List Int}(y:σ[b]? = some (.cells (zs.map dI)))
  (r:w.heap[c]? = some (.cells arr T (0,0))) (U:e.length=zs.length) (E:zs.length<=arr.size) :
  Rel (σ.set b (.cells (e.map dI))) M Fz (grow (putRow encZ (Sort.ahead w n) c 0 e.toArray) os)/\bD σ M Fz w (σ.set b (.cells (e.map dI))) M Fz (grow (putRow encZ (Sort.ahead w n) c 0 e.toArray) os)/\(grow (putRow encZ (Sort.ahead w n) c 0 e.toArray) os).heap[c]? = some (.cells (putCells encZ 0 e.toArray arr) T (0,0)):=by
 have G:c<w.heap.size:=(BI.1 r).1;have X:(putCells encZ 0 e.toArray arr).size=arr.size:=by simp[putCells]
 have m:∀j s t,Obj.cells arr T (0,0)=.cells j s t->∃o,Obj.cells (putCells encZ 0 e.toArray arr) T (0,0)=.cells o s t/\o.size=j.size:=λj s t h=>by simp_all
 have p:(Ob.cells (zs.map dI)).sz<=(Ob.cells (e.map dI)).sz:=by grind [Ob.sz]
 have cells:∀(i:Nat) k,e[i]? = some k->(putCells encZ 0 e.toArray arr)[i]? = some (encZ k):=λi k hk=>by
  have Z:i<e.length:=(gh.1 hk).1;have K:i<arr.size:=by omega
  simp only[putCells,Array.getElem?_mapIdx,rk K,Option.map_some]
  simp_all
 have L:=bD.su (ob':=.cells (e.map dI)) R x y r p m;have A:=R.su (ob':=.cells (e.map dI)) x y r p m ⟨_,T,rfl,by simp_all,λi d v hd u=>by rw[lW,cz] at hd;obtain ⟨k,hk,rfl⟩:=hd;rw[cells i k hk] at u;simp only[au] at u;subst u;exact ⟨.c (.lit _),rfl⟩⟩
 have q:=heap_sorted_i (n:=n) (os:=os) e.toArray r;have B:Below (cC w c (.cells (putCells encZ 0 e.toArray arr) T (0,0))).heap.size (cC w c (.cells (putCells encZ 0 e.toArray arr) T (0,0))) (grow (putRow encZ (Sort.ahead w n) c 0 e.toArray) os):=by
  obtain ⟨N,O,S,h4,h5⟩:=grownBy_sorted_i (w:=w) (g:=c) (n:=n) (os:=os) e.toArray;refine ⟨N,O,S,by simp_all,λk hk=>?_⟩
  grind [eL,fK]
 exact ⟨A.below B,L.trans (bD.below A B) (by simp),q⟩
theorem HH{σ:ar}{M:Nat->Option Nat}{Fz:Nat->Prop}{w:World}(R:Rel σ M Fz w){b c:Nat}{arr:Array Value}{T:TypeId}(k:M b=some c){zs:List Int}(m:σ[b]? = some (.cells (zs.map dI)))(h:w.heap[c]? = some (.cells arr T (0,0)))(o:zs.length<=arr.size) :
  Holds encZ w c 0 zs.toArray:=by
 obtain ⟨j,p,d,q,e⟩:=R.row k m;rw[h] at d;simp only[au,Obj.cells.injEq,KI] at d;obtain ⟨rfl,rfl⟩:=d;refine holds_of_block_i h (UB λi=>?_);by_cases g:i<zs.length
 ·rw[List.getElem?_take,if_pos g,On,lW,eI g,rk (by omega)];have:=(e i (dI zs[i]) (arr[i]'(by omega)) (by simp[g]) (rk _)).1.cd
  simp_all
 simp_all
variable[Y:Ty]
theorem XD{P:Program}{g:FuncId}(K:O_ P g){zs:List Int}(u:zs.length<=1000000) :
  Ok P g [.sl 0 0 zs.length 1 (zs.length * 1)] [.cells (zs.map dI)] (.aQ []) [.cells ((zs.mergeSort λx y=>decide (x<=y)).map dI)]:=by
 intro M Fz w A R hs N;obtain ⟨m,rfl⟩:∃m,A=#[m]:=by
  obtain ⟨O⟩:=A
  match O,hs with
  |[a],_=>simp_all
 have E:=N 0 _ m rfl rfl;have k:([Ob.cells (zs.map dI)]:ar)[0]? = some (.cells (zs.map dI)):=rfl;have j:mA [Ob.cells (zs.map dI)] 0 (zs.length * 1)=some (zs.map dI):=Ps k (by simp);have S:(zs.mergeSort λx y=>decide (x<=y)).length=zs.length:=List.length_mergeSort zs;by_cases G:zs=[]
 ·subst G;have:∃p cap,m=.slice p 0 cap:=by
   rcases E.fh j with ⟨h,_⟩ | ⟨c,o,cap,q,T,r,h,_⟩ <;> exact ⟨_,_,h⟩
  obtain ⟨p,cap,rfl⟩:=this;refine (K.nil p cap w).mono ?_;rintro e U ⟨rfl,rfl⟩;rw[show ([]:List Int).mergeSort (λx y=>decide (x<=y))=[] by simp];exact ⟨_,M,Fz,rfl,R,.aQ _ rfl λi d v h=>by simp at h,bD.refl R⟩
 ·have X:zs.length≠0:=λh=>G (Xo h);rcases E.fh j with ⟨_,e,_⟩ | ⟨c,o,cap,q,T,r,rfl,⟨Z,aa⟩,ho,s,L,_⟩
  ·omega
  obtain rfl:o=0:=by omega
  have t:c<w.heap.size:=(BI.1 s).1;refine (K.run c 0 cap zs w (HH R r k s (by omega)) t (by omega)).mono ?_;rintro e U ⟨rfl,n,os,rfl⟩;obtain ⟨R',E',_⟩:=SN (n:=n) (os:=os) R r k s S (by omega);exact ⟨_,M,Fz,rfl,R',.aQ _ rfl λi d v h=>by simp at h,E'⟩
theorem yV(zs:List Int):(Lib.compact zs).length<=zs.length:=by grind [Go.Lib.compact,Go.Lib.compactUpTo]
theorem LD{P:Program}{g:FuncId}(K:Bk P g){zs garb:List Int}(u:zs.length<=1000000)(hg:zs.length<garb.length) :
  Ok P g [.sl 0 0 zs.length 1 (zs.length * 1)] [.cells (zs.map dI)] (.sl 1 0 (Lib.compact zs).length 1 ((Lib.compact zs).length * 1)) [.cells (garb.map dI),.cells ((Lib.compact zs).map dI)]:=by
 have N:(Lib.compact zs++List.replicate (zs.length-(Lib.compact zs).length) 0).length=zs.length:=by grind [yV]
 have m:Ok P g [.sl 0 0 zs.length 1 (zs.length * 1)] [.cells (zs.map dI)] (.sl 0 0 (Lib.compact zs).length 1 (zs.length * 1)) [.cells ((Lib.compact zs++List.replicate (zs.length-(Lib.compact zs).length) 0).map dI)]:=by
  intro M Fz w v R hs O;obtain ⟨q,rfl⟩:∃q,v=#[q]:=by
   obtain ⟨S⟩:=v
   match S,hs with
   |[a],_=>simp_all
  have x:=O 0 _ q rfl rfl;have k:([Ob.cells (zs.map dI)]:ar)[0]? = some (.cells (zs.map dI)):=rfl;have j:mA [Ob.cells (zs.map dI)] 0 (zs.length * 1)=some (zs.map dI):=Ps k (by simp);by_cases y:zs=[]
  ·subst y;have:∃p cap,q=.slice p 0 cap:=by
    rcases x.fh j with ⟨h,_⟩ | ⟨c,o,cap,s,T,r,h,_⟩ <;> exact ⟨_,_,h⟩
   obtain ⟨p,cap,rfl⟩:=this;refine (K.nil p cap w).mono ?_
   grind [bD.refl]
  ·have U:zs.length≠0:=λh=>y (Xo h);rcases x.fh j with ⟨_,e,_⟩ | ⟨c,o,cap,s,T,r,rfl,⟨X,Z⟩,ho,t,A,_⟩
   ·omega
   obtain rfl:o=0:=by omega
   have aa:c<w.heap.size:=(BI.1 t).1;refine (K.run c 0 cap zs w (HH R r k t (by omega)) (by omega) (by omega)).mono ?_;rintro e w' ⟨rfl,n,rfl⟩;have e0:∀w:World,grow w #[]=w:=λw=>by simp_all
   obtain ⟨E,G,L⟩:=SN (n:=n) (os:=#[]) R r k t N (by omega);rw[e0] at E G L;refine ⟨_,M,Fz,rfl,E,?_,G⟩;have:=yV zs;exact .sl _ _ _ (by simp) (.cells ((Lib.compact zs++List.replicate (zs.length-(Lib.compact zs).length) 0).map dI)) rfl (by grind [Ob.sz]) λ_=>.inr ⟨c,0,_,T,r,rfl,rfl,⟨by omega,by omega⟩,.inl rfl,L,by simp[putCells];omega,by omega⟩
 have:=Ok.cut (garb:=garb.map dI) m (by simp_all) (by grind) (λd hd=>by grind) (by simp_all) (by simp)
 simp_all
theorem YF{ii:Nat}{d:TT ii->Int}(hd:∀a,enc ii a=[.lit (.int .i64 (d a))])(l:List (TT ii)):OB (enc ii) l=.cells ((l.map d).map dI):=by
 unfold OB;congr 1;induction l with
 |nil=>rfl
 |cons a l ih=>simp_all
theorem Rj{ii:Nat}{c:Int->TT ii}(d:∀k,enc ii (c k)=[.lit (.int .i64 k)])(l:List Int):OB (enc ii) (l.map c)=.cells (l.map dI):=by
 unfold OB;congr 1;induction l with
 |nil=>rfl
 |cons a l ih=>simp_all
theorem sort_oo{P:Program}{g ii:Nat}(K:O_ P g){d:TT ii->Int}{c:Int->TT ii}(hd:∀a,enc ii a=[.lit (.int .i64 (d a))])(E:∀k,enc ii (c k)=[.lit (.int .i64 k)])(q:Nat.beq (aw ii) 1=true) :
  cR P g ⟨.mk [.p (.hd 0)] [] [.row ii] [] [] [],[.mk [] [.w 0 ii] [] [] [] []],λx=>KH (α:=TT ii) d c x⟩:=by
 have t:=cS q;refine ⟨K.en,λx y u σ G z v A m s j r=>?_⟩;dsimp only at m s j;change dB [It.ls ii] at x;change dB [It.ls ii] at y;have o:some ([TV.c (.own ii 0 0 (List.length (α:=TT ii) x))],[TB.row ii x 0 0])=some (u,σ):=by rw[<-s];have e:dL (CT.items (.mk [.p (.hd 0)] [] [.row ii] [] [] [])) x=[⟨.ls ii,x⟩]:=rfl;unfold nI;rw[e];simp only[CT.pl,CT.nb,CT.out,ca,du,kH,yX,xc,FO,dS,dH,Ep,List.nil_append,List.getElem?_cons_zero]
 simp only[au,aT] at o;obtain ⟨rfl,rfl⟩:=o;simp only[sS,au,Z_] at j;obtain ⟨rfl,rfl⟩:=j;have p:some (([]:List TV),[TB.row ii y 1 1])=some (v,A):=by rw[<-r];have e:dL (CT.items (.mk [] [.w 0 ii] [] [] [] [])) y=[⟨.ls ii,y⟩]:=rfl;unfold nI;rw[e];simp only[CT.pl,CT.nb,CT.out,ca,du,kH,FO,dS,dH,Ep,List.cons_append,List.nil_append,List.getElem?_cons_zero,List.set_cons_zero,yCm]
 simp only[au,aT] at p;obtain ⟨rfl,rfl⟩:=p;change List (TT ii) at x;change List (TT ii) at y;change KH d c x=some y at m;unfold KH at m;rw[Nw] at m;split at m
 ·rename_i h;simp only[au] at m;subst m;have:=XD K (zs:=x.map d) (by simp_all);show Ok P g [OS (aw ii) 0 x.length] [OB (enc ii) x] (.aQ []) [OB (enc ii) _]
  grind [YF,Rj]
 simp_all
theorem QE{P:Program}{g ii:Nat}(K:Bk P g){d:TT ii->Int}{c:Int->TT ii}(hd:∀a,enc ii a=[.lit (.int .i64 (d a))])(L:∀k,enc ii (c k)=[.lit (.int .i64 k)])(q:Nat.beq (aw ii) 1=true) :
  cR P g ⟨.mk [.p (.hd 0)] [] [.row ii] [] [] [],[.mk [.p (.hd 1)] [.w 0 ii] [.row ii] [] [] []],λx=>Lm (α:=TT ii) d c x⟩:=by
 have v:=cS q;refine ⟨K.en,λx y A σ N z E G m t j s=>?_⟩;dsimp only at m t j;change dB [It.ls ii] at x;change dB [It.ls ii,It.ls ii] at y;have o:some ([TV.c (.own ii 0 0 (List.length (α:=TT ii) x))],[TB.row ii x 0 0])=some (A,σ):=by rw[<-t];have e:dL (CT.items (.mk [.p (.hd 0)] [] [.row ii] [] [] [])) x=[⟨.ls ii,x⟩]:=rfl;unfold nI;rw[e];simp only[CT.pl,CT.nb,CT.out,ca,du,kH,yX,xc,FO,dS,dH,Ep,List.nil_append,List.getElem?_cons_zero]
 simp only[au,aT] at o;obtain ⟨rfl,rfl⟩:=o;simp only[sS,au,Z_] at j;obtain ⟨rfl,rfl⟩:=j;have p:some ([TV.c (.own ii 1 0 (List.length (α:=TT ii) y.2))],[TB.row ii y.1 1 1,TB.row ii y.2 0 0])=some (E,G):=by rw[<-s];have e:dL (CT.items (.mk [.p (.hd 1)] [.w 0 ii] [.row ii] [] [] [])) y=[⟨.ls ii,y.1⟩,⟨.ls ii,y.2⟩]:=rfl;unfold nI;rw[e];simp only[CT.pl,CT.nb,CT.out,ca,du,kH,yX,xc,FO,dS,dH,Ep,List.cons_append,List.nil_append,List.getElem?_cons_zero,List.getElem?_cons_succ,List.set_cons_zero,yCm]
 simp only[au,aT] at p;obtain ⟨rfl,rfl⟩:=p;obtain ⟨u,r⟩:=y;change List (TT ii) at x;change List (TT ii) at u;change List (TT ii) at r;change Lm d c x=some (u,r) at m;unfold Lm at m;split at m
 ·rename_i h;simp only[au,aT] at m;obtain ⟨rfl,rfl⟩:=m;have:=LD K (zs:=x.map d) (garb:=x.map d++[d (c 0)]) (by simp_all) (by simp);show Ok P g [OS (aw ii) 0 x.length] [OB (enc ii) x] (OS (aw ii) 1 _) [OB (enc ii) _,OB (enc ii) _]
  grind [YF,Rj]
 simp_all
end
end Go.Abs
end
section
namespace Go.Abs
section
variable[Gl]
def XT(d:List Sh)(xs:List C):Prop:=xs.length=d.length/\∀(i:Nat) t x,d[i]? = some t->xs[i]? = some x->Shaped t x
theorem XT.cons{s:Sh}{j:List Sh}{xs:List C}(h:XT (s::j) xs):∃x o,xs=x::o/\Shaped s x/\XT j o:=by
 obtain ⟨u,h⟩:=h
 match xs,u,h with
 |x::o,u,h=>exact ⟨x,o,rfl,h 0 s x rfl rfl,by simp_all,λi t y A E=>h (i+1) t y (by simp_all) (by simp_all)⟩
theorem XT.nil{xs:List C}(h:XT [] xs):xs=[]:=by simpa using h.1
variable[Y:Ty]
def shC(rec:Nat->List Sh):CC->Sh
 |.int k=>.int k
 |.bool=>.bool
 |.str=>.str
 |.sl j=>.sl (rec j)
 |.fk _=>.no
def shN:Nat->Nat->List Sh
 |0,_=>[]
 |k+1,i=>(Y.fl i).map (shC (shN k))
def shT(i:Nat):List Sh:=shN (i+1) i
theorem shC_dec{rec:Nat->List Sh}{r:(j:Nat)->TT j->List C}{c:CC}(o:∀j,c=.sl j->∀xs,XT (rec j) xs->∃a:TT j,xs=r j a){x:C}(h:Shaped (shC rec c) x):∃a:c.dn,x=tu r c a:=by
 cases c with
 |int k=>cases h with | int h=>exact ⟨_,rfl⟩
 |bool=>cases h with | bool b=>exact ⟨_,rfl⟩
 |str=>cases h with | str b=>exact ⟨_,rfl⟩
 |fk p=>cases h
 |sl j=>
  cases h with
  |sl e g m=>
   rename_i es;have:∃l:List (TT j),es=l.map (r j):=by
    clear e;induction es with
    |nil=>simp_all
    |cons y es ih=>obtain ⟨a,q⟩:=o j rfl y ⟨g y (by simp),m y (by simp)⟩;obtain ⟨l,e⟩:=ih (λz d=>g z (by simp[d])) (λz d=>m z (by simp[d]));exact ⟨a::l,by simp_all⟩
   obtain ⟨l,rfl⟩:=this;exact ⟨l,rfl⟩
theorem shL_dec{rec:Nat->List Sh}{r:(j:Nat)->TT j->List C}:∀(cs:List CC),(∀j,CC.sl j∈cs->∀xs,XT (rec j) xs->∃a:TT j,xs=r j a)->∀xs,XT (cs.map (shC rec)) xs->∃a:aQ cs,xs=nD r cs a:=by
 intro cs;induction cs with
 |nil=>intro _ xs h;exact ⟨(),h.nil⟩
 |cons c cs ih=>intro d xs h;obtain ⟨x,g,rfl,k,m⟩:=XT.cons h;obtain ⟨a,rfl⟩:=shC_dec (λj e=>d j (by simp_all)) k;obtain ⟨b,rfl⟩:=ih (λj e=>d j (pM _ e)) g m;exact ⟨(a,b),rfl⟩
theorem shN_dec:∀(k i:Nat),i<k->∀xs,XT (shN k i) xs->∃a:TT i,xs=Nf k i a:=by
 intro k;induction k with
 |zero=>omega
 |succ k ih=>intro i e xs h;obtain ⟨a,rfl⟩:=shL_dec (rec:=shN k) (r:=Nf k) (Y.fl i) (λj d=>ih j (by have:=Y.dn i j d;omega)) xs h;exact ⟨Y.mkt i a,by grind [Nf,Ty.pm]⟩
theorem sh_dec(i:Nat){xs:List C}(h:XT (shT i) xs):∃a:TT i,xs=enc i a:=shN_dec (i+1) i (by omega) xs h
theorem arg_st(i:Nat){w:World}{xs:List C}{vs:Array Value}(h:FI w (shT i) xs vs.toList):∃a:TT i,V [] (λ_=>none) (λc=>c<w.heap.size) w (dh.enc (.st i) a) (.agg vs):=by have d:=V.UO h (σ:=[]) (M:=λ_=>none);obtain ⟨a,rfl⟩:=sh_dec i ⟨h.1,h.2.2.1⟩;exact ⟨a,d⟩
open Go.RowKit in
theorem Xb{P:Program}{g:FuncId}{ds:List D}(h:Pure P g ds (B true)){w:World}{vs:Array Value}(hs:vs.size=ds.length)
  (m:∀(i:Nat) d v,ds[i]? = some d->vs[i]? = some v->V [] (λ_=>none) (λc=>c<w.heap.size) w d v) (p:Gl.ok (λc=>c<w.heap.size) w) :
  Calls P g vs w λe o=>e=.returned (.bool true)/\Below w.heap.size w o:=by
 refine (h.2 _ _ w vs (Rel.start w p) hs m).mono λe o q=>?_;obtain ⟨v,s,r,rfl,t,m,j⟩:=q;exact ⟨by rw[m.cd],j.out.1,j.out.2.1,j.out.2.2,j.size,λk hk=>(j.fz k hk).2⟩
end
end Go.Abs
end
